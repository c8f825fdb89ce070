/- The walk of the lexer's open. -/
import Derived.Test.YtogchgjfialleaaGreatDoorKao
import Derived.RegionDies
set_option linter.unusedVariables false
set_option maxRecDepth 100000
set_option maxHeartbeats 8000000
namespace Go.Proofs.YtogchgjfialleaaGreatDoor
open Go.RowKit
theorem Ap{A:Nat→Prop}{W:World}{base:Nat}{T:TypeId}{l:List bQ}{v:Value}(c:W.ownsRow base T 3 v l.length (fY l))(h:∀z,base≤z→A z):aP A W l v:=by
 rcases c.2 with⟨a,b⟩|⟨g,cap,n,a,b,d,e,o,p,q⟩
 ·exact .inl ⟨jn b,none,0,a⟩
 ·have k:=c.cells (g:=g) (by rw[a];rfl);refine .inr ⟨g,0,cap,a,e,h g b,(aB.1 d).1,(fun j v m=> ?_)⟩;have i:(⟨g,0,none⟩:Addr).add j=⟨g,0+j,none⟩:=by unfold Addr.add;split<;>simp_all
  rw[←i];exact k j v m
structure OS (W4 W:World) (p:Nat) (s:Bs) (j:Nat) (h:Int) (lv:Value) (k:Int) (nm:Bs) (l:List bQ) (av:Value):Prop where
 tn:ak p W4 W
 box:LB W p s j lv h
 tb:W.heap[W4.heap.size]? =some (.cells (ei k nm av [] 0 0).toArray 78)
 ow:W.ownsRow (W4.heap.size+1) 124 3 av l.length (fY l)
 hp:p<W4.heap.size
section
variable{W4 W W':World}{p:Nat}{s:Bs}{j:Nat}{h:Int}{lv:Value}{k:Int}{nm:Bs}{l:List bQ}{av:Value}
theorem OS.next(H:OS W4 W p s j h lv k nm l av)(a:Below W.heap.size W W'):OS W4 W' p s j h lv k nm l av:=
 ⟨H.tn.trans (ak.ai a),H.box.next a,(a.block _ (aB.1 H.tb).1).trans H.tb,cp H.ow a,H.hp⟩
theorem OS.aN{c:Nat}{b:Int}(H:OS W4 W p s j h lv k nm l av)(a:ak p W W')(d:LB W' p s c lv b):OS W4 W' p s c b lv k nm l av:=
 ⟨H.tn.trans a,d,(a.block _ (aB.1 H.tb).1 (by intro e;cases e;exact absurd H.hp (Nat.lt_irrefl _))).trans H.tb,H.ow.kept a (.inr (fun e=>by have:=(H.ow.lt p e).1;have:=H.hp;omega)),H.hp⟩
theorem OS.kind(H:OS W4 W p s j h lv k nm l av)(a:Int):OS W4 (W.setCell ⟨W4.heap.size,0,none⟩ (.int .i64 a)) p s j h lv a nm l av:=
 ⟨jx H.tn (ag _),(dy W ⟨W4.heap.size,0,none⟩ _ p (by have:=H.hp;show p≠W4.heap.size;omega)).trans H.box,aw (j:=0) H.tb,
  H.ow.kept ((ak.refl W4.heap.size W).set (j:=0) (v:=.int .i64 a)) (.inr (fun e=>by have:=(H.ow.lt _ e).1;omega)),H.hp⟩
theorem OS.lk{a:World}{i:Nat}{c:Int}{done:List Tok}{xs:List Value}(H:OS W4 W p s j h lv k nm l av)(b:LK a W4 p s i c lv done xs):LK a W p s j h lv done xs:=b.aN H.tn H.box
theorem OS.attrs{b:World}{i:Nat}{c:Int}{done:List Tok}{xs:List Value}(H:OS W4 W p s j h lv k nm l av)(a:LK b W4 p s i c lv done xs):aP (T0 b p lv) W l av:=
 Ap H.ow fun z d=>⟨by have:=a.up.size;omega,by have:=H.hp;omega,fun e=>by have:=(a.own.lt z e.symm).2;omega⟩
theorem iL{W:World}{b:Nat}{k:Int}{nm t:Bs}{av:Value}{f g:Int}(H:W.heap[b]? =some (.cells (ei k nm av t f g).toArray 78)):W.cell? ⟨b,0,none⟩=some (.int .i64 k)∧W.cell? ⟨b,1,none⟩=some (.string ⟨nm.toArray⟩)∧W.cell? ⟨b,2,none⟩=some av∧W.cell? ⟨b,3,none⟩=some (.string ⟨t.toArray⟩)∧W.cell? ⟨b,4,none⟩=some (.int .i64 f)∧W.cell? ⟨b,5,none⟩=some (.int .i64 g)∧W.frozen? ⟨b,0,none⟩=false∧W.frozen? ⟨b,2,none⟩=false:=
 ⟨aj 0 H,aj 1 H,aj 2 H,aj 3 H,aj 4 H,aj 5 H,aF _ _ 0 _ _ H,aF _ _ 2 _ _ H⟩
theorem Ri{c:World}{g cap:Nat}{O:Obj}{a:bQ}(H:OS W4 W p s j h lv k nm l av)
 (r:c.ownsRow (W4.heap.size+1) 124 3 (.slice (some ⟨g,0,none⟩) (l.length+1) cap) (l.length+1) (fY l++BF a))(i:(W.alloc O).grownBy c av.ownBlock):
 OS W4 (c.setCell ⟨W4.heap.size,2,none⟩ (.slice (some ⟨g,0,none⟩) (l.length+1) cap)) p s j h lv k nm (l++[a]) (.slice (some ⟨g,0,none⟩) (l.length+1) cap)∧c.heap[W4.heap.size]? =some (.cells (ei k nm av [] 0 0).toArray 78):=by
 have d:Below W.heap.size W (W.alloc O):=(ar _ _).alloc (ag _) _;have A:=H.tn.size;have B:=d.size;have C:=i.size;have y:∀q,av.ownBlock=some q→W4.heap.size+1≤q:=fun q hq=>(H.ow.lt q hq).1;have n:∀b,b≤W4.heap.size→b<W.heap.size→c.heap[b]? =W.heap[b]? :=fun b o m=>(i.block b (by omega) (fun e=>by have:=y b e.symm;omega)).trans (d.block b m)
 have t:=(n _ (ag _) (aB.1 H.tb).1).trans H.tb;have w:LB c p s j lv h:=(n p (om H.hp) H.box.lt).trans H.box;have z:ak p W4 c:=⟨(i.os.trans d.os).trans H.tn.os,(i.tape.trans d.tape).trans H.tn.tape,(i.output.trans d.output).trans H.tn.output,by omega,fun b o m=>(n b (by omega) (by omega)).trans (H.tn.block b o m)⟩;have x:(l++[a]).length=l.length+1:=by simp
 have u:fY (l++[a])=fY l++BF a:=by rw[xo];simp[fY]
 refine⟨⟨jx z (ag _),(dy c ⟨W4.heap.size,2,none⟩ _ p (by have:=H.hp;show p≠W4.heap.size;omega)).trans w,aw (j:=2) t, ?_,H.hp⟩,t⟩;rw[x,u];exact r.kept ((ak.refl W4.heap.size c).set (j:=2)) (.inr (fun e=>by have:=(r.lt _ e).1;omega))
end
theorem T6:(Tryz.prog.info? 124).map (fun i=>(i.zero,i.size,i.bytes))=some (some (.agg #[.string ⟨#[]⟩,.string ⟨#[]⟩,.int .i64 0]),3,40):=by kernel_rfl
theorem Rj:Tryz.prog.underlying 42=some (.slice 124):=by kernel_rfl
theorem NK{s:Bs}{tag f j:Nat}{l:List bQ}{R:Lx (List bQ)}(m:cE s tag (f+1) j l=R):
 (s.drop (pa s j)=[]→R=.bad tag 14)∧(∀c r,s.drop (pa s j)=c::r→((c==62||c==47)=true→R=.aq l (pa s j))∧((c==62||c==47)=false→(pa s j=j→R=.bad j 12)∧
  (pa s j≠j→(∀q e,fU s tag (pa s j) l=.bad q e→R=.bad q e)∧(∀a t,fU s tag (pa s j) l=.aq a t→cE s tag f t (l++[a])=R)))):=by
 have d:cE s tag (f+1) j l=match s.drop (pa s j) with
  |[]=>.bad tag 14
  |c::_=>if c==62||c==47 then .aq l (pa s j) else if pa s j==j then .bad j 12 else match fU s tag (pa s j) l with
   |.bad p e=>.bad p e
   |.aq a t=>cE s tag f t (l++[a]):=rfl
 subst m;refine⟨fun h=>by rw[d,h],fun c r h=>⟨fun b=>by rw[d,h];exact ah b,fun b=>⟨fun i=>by rw[d,h];show(if(c==62||c==47)=true then _ else _)=_;rw[b];simp[i],fun i=>⟨fun q e k=> ?_,fun a t k=> ?_⟩⟩⟩⟩
 ·rw[d,h];show(if(c==62||c==47)=true then _ else _)=_;rw[b];simp[i,k]
 ·rw[d,h];show _=(if(c==62||c==47)=true then _ else _);rw[b];simp[i,k]
theorem Rk{s:Bs}{tag:Nat}{nm:Bs}{R:Lx (List bQ)}(y:(s.drop (tag+5)).take (db s (tag+5))=nm)(x:cE s tag (s.length+1) (tag+5+db s (tag+5)) []=R):
 (elems.contains nm=false→dB s tag=.bad tag 11)∧(elems.contains nm=true→
  (∀q e,R=.bad q e→dB s tag=.bad q e)∧
  (∀l m r,R=.aq l m→s.drop m=62::r→((nm=bS∨nm=cF)→dB s tag=(match iU s nm tag (m+1) with|.bad p e=>.bad p e|.aq t j=>.aq [cS s 2 nm l tag (m+1),t] j))∧(¬(nm=bS∨nm=cF)→dB s tag=.aq [cS s 2 nm l tag (m+1)] (m+1)))∧
  (∀l m r,R=.aq l m→s.drop m=47::r→(s.drop (m+1)=[]→dB s tag=.bad tag 14)∧(∀c u,s.drop (m+1)=c::u→((c==62)=false→dB s tag=.bad (m+1) 12)∧((c==62)=true→dB s tag=.aq [cS s 3 nm l tag (m+1+1)] (m+1+1))))):=by
 have b:dB s tag=if elems.contains nm then
  match qw s tag nm (tag+5+db s (tag+5)) with
  |.bad p e=>.bad p e
  |.aq t j=>
   if t.kind=2∧(nm=bS∨nm=cF) then
    match iU s nm tag j with
    |.bad p e=>.bad p e
    |.aq r m=>.aq [t,r] m
   else .aq [t] j
  else .bad tag 11:=by subst y;rfl
 have o:qw s tag nm (tag+5+db s (tag+5))=match(generalizing:=false) R with
  |.bad p e=>.bad p e
  |.aq l j=>if(s.drop j).head?==some 47 then gv s tag nm l 3 (j+1) else gv s tag nm l 2 j:=by subst x;rfl
 refine⟨fun h=>by rw[b,h];rfl,fun h=>⟨fun q e i=>by rw[b,h,o,i];rfl,fun l m r i n=> ?_,fun l m r i n=> ?_⟩⟩
 ·have d:qw s tag nm (tag+5+db s (tag+5))=.aq (cS s 2 nm l tag (m+1)) (m+1):=by rw[o,i];show(if(s.drop m).head?==some 47 then _ else _)=_;unfold gv;rw[n];rfl
  refine⟨fun a=> ?_,fun a=> ?_⟩
  ·rw[b,h,d];exact ah (show(cS s 2 nm l tag (m+1)).kind=2∧(nm=bS∨nm=cF) from⟨rfl,a⟩)
  ·rw[b,h,d];exact ae (show¬((cS s 2 nm l tag (m+1)).kind=2∧(nm=bS∨nm=cF)) from fun k=>a k.2)
 ·have d:qw s tag nm (tag+5+db s (tag+5))=gv s tag nm l 3 (m+1):=by rw[o,i];show(if(s.drop m).head?==some 47 then _ else _)=_;rw[n];rfl
  refine⟨fun a=> ?_,fun c u a=>⟨fun k=> ?_,fun k=> ?_⟩⟩
  ·rw[b,h,d];unfold gv;rw[a];rfl
  ·rw[b,h,d];unfold gv;rw[a];simp only[k];rfl
  ·rw[b,h,d];unfold gv;rw[a];simp only[k,if_true];exact ae (fun w=>absurd (show(3:Int)=2 from w.1) (by decide))
theorem NL{H W:World}{p:Nat}{s:Bs}{i:Nat}{h:Int}{lv:Value}{done:List Tok}{xs:List Value}(hG:GL H)(a4:LK H W p s i h lv done xs)(hi:i+5≤s.length)(d:s.length≤1000000)(hd:done.length≤8000000):
 Calls Tryz.prog 68 #[.pointer (some ⟨p,0,none⟩)] W (BP H p s h done (dB s i)):=by
 obtain⟨nm,aU⟩:∃nm,(s.drop (i+5)).take (db s (i+5))=nm:=⟨_,rfl⟩;obtain⟨R,hR⟩:∃R,cE s i (s.length+1) (i+5+db s (i+5)) []=R:=⟨_,rfl⟩;have af:=ad (Rk aU hR);obtain⟨R2,N⟩:∃R,dB s i=R:=⟨_,rfl⟩;rw[N] at af⊢;have cl:=ad (show nm.length≤1000000 by rw[←aU,gu,bK];omega);clear N;have HK:=ad a4;have HG:=ad hG;have a7:=ad (a4.box.iD (i+5));rw[show((i+5:Nat):Int)=(i:Int)+5 by omega] at a7;have HT:=ad ((ak.refl p W).set (j:=1) (v:=.int .i64 ((i:Int)+5)));have ay:=ad (HK.out.aN HT.out a7.out);obtain⟨c0,M,-,-,f1,-,-⟩:=a4.box.lc;have i1:(i:Int)+5≤1000000:=by omega
 have T:=ad (DC H hG ay.out.up HK.out.far (i:Int) hi a7.out d);have b4:=iI s hi;clear a4;go_enter Tryz.func68,Tryz.ntmps68;go_upto_region 2 with fail;clear c0 M f1 a7 HT;generalize W.setCell ⟨p,1,none⟩ (.int .i64 ((i:Int)+5))=W3 at*;obtain⟨n,hn⟩:∃n,db s (i+5)=n:=⟨_,rfl⟩;rw[hn] at b4 hR aU T;rw[aU] at T;have HR:=ad hR;clear hn aU hR;obtain⟨q,hq⟩:∃q,elems.contains nm=q:=⟨_,rfl⟩;rw[hq] at af T;clear hq;rcases q with _|_
 ·obtain rfl:=af.out.1 rfl;have a6:=ad (show Calls Tryz.prog 118 #[.pointer (some ⟨p,0,none⟩),.int .i64 (i:Int)] W3 (mL p W3 i 11) from T.out.mono fun e w' hh=>hh.2 rfl);clear T af;go_wp2_with fail;refine a6.out.mono ?_;rintro e w1⟨rfl,hb⟩;go_wp2_with fail;exact⟨rfl,rfl,ay.out.up.trans (hb.mono ay.out.far)⟩
 ·have V:=ad (af.out.2 rfl);have a6:=ad (show Calls Tryz.prog 118 #[.pointer (some ⟨p,0,none⟩),.int .i64 (i:Int)] W3 (fun e w'=>e=.returned (.string ⟨nm.toArray⟩)∧LB w' p s (i+5+n) lv h∧ak p W3 w') from T.out.mono fun e w' hh=>hh.1 rfl);clear T af;go_wp2_with fail;refine a6.out.mono ?_;rintro e I⟨rfl,bg,cd⟩;have w:=ad (ay.out.aN cd bg);have bp:=ad bg;clear bg cd a6 ay;have hA:Below I.heap.size I (I.alloc (.cells (ei 2 nm (.slice none 0 0) [] 0 0).toArray 78)):=(ar _ _).alloc (ag _) _;have co:=ad (show OS I (I.alloc (.cells (ei 2 nm (.slice none 0 0) [] 0 0).toArray 78)) p s (i+5+n) h lv 2 nm [] (.slice none 0 0) from
   ⟨ak.ai hA,bp.out.next hA,au I _,jO _ _ _ _,bp.out.lt⟩)
  clear hA;go_upto_region 3 with fail;obtain⟨b,hb⟩:∃b,I.heap.size=b:=⟨_,rfl⟩;rw[hb];have E:=ad hb;clear hb;generalize I.alloc (.cells (ei 2 nm (.slice none 0 0) [] 0 0).toArray 78)=w5 at*
  go_loopw [4,5] (fun v4 v5 wr=>∃(f j:Nat) (l:List bQ) (av:Value),Hid (cE s i f j l=R)∧j≤s.length∧s.length<j+f∧l.length≤j∧i≤j∧Hid (OS I wr p s j h lv 2 nm l av)) (fun _ _ wr=>s.length-j4 wr p)
  case atStart=>exact⟨s.length+1,i+5+n,[],.slice none 0 0,HR,b4,by omega,by simp,by omega,co⟩
  case round=>
   obtain⟨f,j,l,av,bo,hj,hf,dl,c8,HO⟩:=hrel;obtain⟨f,rfl⟩:∃f',f=f'+1:=⟨f-1,by omega⟩;obtain⟨sa,sc,rfl⟩:=(HO.out.attrs w.out).shape;have ap:=ad (NK bo.out);have cs:=ad HO.out.box.at_;have bm:=vZ s hj;have dq:=cY s j;go_wp2_with fail;refine(DA hj HO.out.box d).mono ?_;rintro e w6⟨rfl,bi,ce⟩;rw[←bm] at bi;have C:=ad (HO.out.aN ce bi);clear bi ce HO bo;generalize lead mE (s.drop j)=bf at*;generalize pa s j=m at*;have c7:(bf:Int)≤1000000:=by omega
   cases Y:s.drop m with
   |nil=>
    obtain rfl:=ap.out.1 Y;obtain rfl:=V.out.1 _ _ rfl;have bl:m=s.length:=by have:=List.drop_eq_nil_iff.1 Y;omega
    have x:=ad (C.out.lk w.out).up;clear Y;go_wp2_with fail;refine(iY i bl C.out.box d).mono ?_;rintro e Q⟨rfl,F⟩;go_wp2_with fail;exact⟨rfl,rfl,x.out.trans (F.mono x.out.size)⟩
   |cons c r=>
    have J:=ad Y;have b3:=ku Y;have a0:s[m]=c:=by have:=qD (xs:=s) (i:=m) (j:=0);rw[Y] at this;exact(cH.1 (by simpa using this.symm)).2
    clear Y;obtain⟨G,y⟩:∃q,(c==62||c==47)=q:=⟨_,rfl⟩;rcases G with _|_
    ·have a8:=ad ((ap.out.2 _ _ J.out).2 y);have q1:((c.toNat:Int)==62)=false:=by rw[uF] at y;exact nz y.1
     have G:((c.toNat:Int)==47)=false:=by rw[uF] at y;exact nz y.2
     clear y a0 ap;go_wp2_with fail;refine(cX i J.out C.out.box d).mono ?_;rintro e Q⟨rfl,F⟩;have D:=ad (C.out.next F);clear F C;by_cases cK:bf=0
     ·obtain rfl:=a8.out.1 (by omega);obtain rfl:=V.out.1 _ _ rfl;obtain rfl:m=j:=by omega
      subst cK;clear bm;obtain⟨c0,M,-,-,-,-,-⟩:=D.out.box.lc;have x:=ad (D.out.lk w.out).up;go_wp2_with fail;refine(fE m 12 Q).mono ?_;rintro e w8⟨rfl,am⟩;go_wp2_with fail;exact⟨rfl,rfl,x.out.trans (am.mono x.out.size)⟩
     ·have q3:((bf:Int)==0)=false:=by rw[aL];omega
      have a5:=ad (a8.out.2 (by omega));clear a8;have o:=ad (D.out.next (mM (ar _ _)));have bk:=tL (s:=s) (tag:=i) (i:=m) (l:=l) (by omega) (by omega);have a9:=ad (NG i l (by omega) sa sc (Ap o.out.ow (A:=fun b=>b≠p) (fun z hz=>by have:=o.out.hp;omega)) (om b3) o.out.box d);obtain⟨A,hA⟩:∃A,fU s i m l=A:=⟨_,rfl⟩;rw[hA] at a9 a5 bk;clear hA;obtain⟨-,-,S,-,-,-,-,-⟩:=iL o.out.tb;rw[E.out] at S;have x:=ad (o.out.lk w.out).up;go_upto_region 8 with fail;cases A with
      |bad q e=>
       obtain rfl:=a5.out.1 _ _ rfl;obtain rfl:=V.out.1 _ _ rfl
       go_region_dies
       all_goals
        refine a9.out.mono ?_;rintro e w8⟨rfl,am⟩;exact⟨rfl,rfl,x.out.trans (am.mono w.out.far)⟩
      |aq a t=>
       have ci:=ad (a5.out.2 _ _ rfl);have cx:m<t∧t≤s.length:=bk;clear bk a5;go_region_law
        (first
         |(refine gM (by rfl) _ _ 42 (by rfl) 124 (.agg #[.string ⟨#[]⟩,.string ⟨#[]⟩,.int .i64 0]) 3 40 Rj T6 (by rfl) (by decide) (I.heap.size+1) w8 (.slice sa l.length sc) l.length (fY l) (by rfl) u.out.ow (BF a) (by rfl) (by rfl) (by rfl) (by simp[Value.oneCell']) (by omega) (by omega) (by exact(aB.1 u.out.tb).1) ?_;intro g cap w5 b5 b0 c1;obtain⟨b6,b7⟩:=Ri u.out b5 b0;have HP:=ad b6;rw[E.out] at HP;obtain⟨-,-,g2,-,-,-,-,f2⟩:=iL b7;rw[E.out] at g2 f2;clear b6 b7 b5 b0 c1)
         |(go_simp;refine a9.out.mono ?_;rintro e w8⟨rfl,am,ch⟩;have u:=ad (o.out.aN ch am);obtain⟨-,-,G,-,-,-,-,-⟩:=iL u.out.tb;rw[E.out] at G;have c4:∀be,(w8.alloc be).cell? ⟨b,2,none⟩=some (.slice sa l.length sc):=fun be=>aI G be;clear am ch))
       all_goals
        clear S G c4 g2 f2;go_wp2_with fail
        go_roundw
        case rel=>exact⟨f,t,l++[a],_,ci,cx.2,by omega,by simp;omega,by omega,HP⟩
        case measure=>(show s.length-j4 _ p<s.length-j4 wr p;rw[HP.out.box.at_,cs.out];omega)
    ·obtain rfl:=(ap.out.2 _ _ J.out).1 y;clear ap;have ct:c=62∨c=47:=by rw[wH,bZ,bZ] at y;exact y
     have c9:i≤m:=by omega
     clear y bm;have i3:(0:Int)≤(m:Int):=by omega
     have i4:(m:Int)<(s.length:Int):=by omega
     have i5:(m:Int)+1≤1000001:=by omega
     rcases ct with rfl|rfl
     ·have K:=ad (V.out.2.1 _ _ _ rfl J.out);clear V;go_wp2_with fail;refine(cX i J.out C.out.box d).mono ?_;rintro e Q⟨rfl,F⟩;have D:=ad (C.out.next F);clear F C;obtain⟨c0,M,-,-,-,-,-⟩:=D.out.box.lc;go_upto_region 9 with fail
      go_quiet (fail)
      have o:=ad (D.out.next (ax Q nq));simp only[show∀hp,((⟨s.toArray⟩:ByteArray)[m]'hp)=62 from fun _=>a0,show(((62:UInt8).toNat:Int)==47)=false from rfl]
      clear c0 M D a0;generalize Q.drewN nq=w8 at*;go_upto_region 12 with fail;go_wp2_with fail;refine(cX i J.out o.out.box d).mono ?_;rintro e w9⟨rfl,bJ⟩;have u:=ad (o.out.next bJ);clear bJ o;go_wp2_with fail;refine(jQ i J.out u.out.box d).mono ?_;rintro e c5⟨rfl,bx,cb⟩;have k:=ad (u.out.aN cb bx);clear bx cb u;obtain⟨B,L,S,x3,x4,x5,-,-⟩:=iL k.out.tb;rw[E.out] at B L S x3 x4 x5;have HC:=ad (nA (k.out.lk w.out) 2 nm l sa sc (k.out.attrs w.out) [] 0 0 i (by omega) (by omega) d (by omega));go_wp2_with fail;refine HC.out.mono ?_;rintro e bn⟨rfl,a1,a3,b1,b9⟩;have bd:=ad ((b9.block _ (aB.1 k.out.tb).1 (by have:=k.out.hp;omega) (fun e=>by have:=(w.out.own.lt _ e.symm).2;omega)).trans k.out.tb);have br:=ad b1;clear b1 b9 HC B L S x3 x4 x5;obtain⟨B,L,-,-,-,-,-,-⟩:=iL bd.out;rw[E.out] at B L;have cO:m+1≤s.length:=b3;obtain⟨q1,b8⟩:∃q,(nm==[114,101,109,111,118,101])=q:=⟨_,rfl⟩;obtain⟨G,y⟩:∃q,(nm==[105,110,108,105,110,101])=q:=⟨_,rfl⟩;have bs:=ad (show(q1||G)=true→nm=bS∨nm=cF by subst b8;subst y;intro h1;rw[wH,bZ,bZ] at h1;exact h1);have cn:=ad (show(q1||G)=false→¬(nm=bS∨nm=cF) by subst b8;subst y;intro h1;rw[uF,aL,aL] at h1;exact fun h2=>h2.elim h1.1 h1.2);have al:=ad (Rh HG.out br.out nm cl.out i cO d (by rw[bB];simp;omega));obtain⟨RA,bv⟩:∃R,iU s nm i (m+1)=R:=⟨_,rfl⟩;rw[bv] at al K;clear bv;rcases q1 with _|_
      ·rcases G with _|_
       ·obtain rfl:=K.out.2 (cn.out (by rfl));clear al K;go_wp2_with fail
        go_end0
        exact⟨rfl,_,_,br.out⟩
       ·have N:=K.out.1 (bs.out (by rfl));cases RA with
        |bad q e=>obtain rfl:R2=.bad q e:=N;go_wp2_with fail;refine(show Calls _ _ _ _ (mL H.heap.size H q e) from al.out).mono ?_;rintro e a2⟨rfl,O⟩;go_wp2_with fail;exact⟨rfl,rfl,O⟩
        |aq t j2=>
         obtain rfl:R2=.aq [cS s 2 nm l i (m+1),t] j2:=N;go_wp2_with fail;refine(show Calls _ _ _ _ (fun e w'=>e=.returned (.tuple #[])∧∃a1 a3,LK H w' p s j2 h a1 (done++[cS s 2 nm l i (m+1)]++[t]) a3) from al.out).mono ?_;rintro e a2⟨rfl,c3,c6,Z⟩;rw[jl] at Z;have bb:=ad Z;clear Z;go_wp2_with fail
         go_end0
         exact⟨rfl,_,_,bb.out⟩
      ·have N:=K.out.1 (bs.out (by rfl));cases RA with
       |bad q e=>obtain rfl:R2=.bad q e:=N;go_wp2_with fail;refine(show Calls _ _ _ _ (mL H.heap.size H q e) from al.out).mono ?_;rintro e a2⟨rfl,O⟩;go_wp2_with fail;exact⟨rfl,rfl,O⟩
       |aq t j2=>
        obtain rfl:R2=.aq [cS s 2 nm l i (m+1),t] j2:=N;go_wp2_with fail;refine(show Calls _ _ _ _ (fun e w'=>e=.returned (.tuple #[])∧∃a1 a3,LK H w' p s j2 h a1 (done++[cS s 2 nm l i (m+1)]++[t]) a3) from al.out).mono ?_;rintro e a2⟨rfl,c3,c6,Z⟩;rw[jl] at Z;have bb:=ad Z;clear Z;go_wp2_with fail
        go_end0
        exact⟨rfl,_,_,bb.out⟩
     ·have K:=ad (V.out.2.2 _ _ _ rfl J.out);clear V;go_wp2_with fail;refine(cX i J.out C.out.box d).mono ?_;rintro e Q⟨rfl,F⟩;have D:=ad (C.out.next F);clear F C;obtain⟨c0,M,-,-,-,-,-⟩:=D.out.box.lc;go_upto_region 9 with fail
      go_quiet (fail)
      have o:=ad (D.out.next (ax Q nq));simp only[show∀hp,((⟨s.toArray⟩:ByteArray)[m]'hp)=47 from fun _=>a0,show(((47:UInt8).toNat:Int)==47)=true from rfl]
      clear c0 M D a0;generalize Q.drewN nq=w8 at*;obtain⟨B,-,-,-,-,-,f0,-⟩:=iL o.out.tb;rw[E.out] at B f0;have u:=ad (o.out.kind 3);rw[E.out] at u;go_upto_region 11 with fail;clear B f0 o;generalize w8.setCell ⟨b,0,none⟩ (.int .i64 3)=w9 at*;obtain⟨-,M,-,-,f1,-,-⟩:=u.out.box.lc;have HE:=ad (u.out.box.iD (m+1));rw[show((m+1:Nat):Int)=(m:Int)+1 by omega] at HE;have k:=ad (u.out.aN ((ak.refl p w9).set (j:=1) (v:=.int .i64 ((m:Int)+1))) HE.out);go_upto_region 12 with fail;clear M f1 HE u;generalize w9.setCell ⟨p,1,none⟩ (.int .i64 ((m:Int)+1))=c5 at*;cases an:s.drop (m+1) with
      |nil=>
       obtain rfl:=K.out.1 an;have bl:m+1=s.length:=by have:=List.drop_eq_nil_iff.1 an;omega
       have x:=ad (k.out.lk w.out).up;clear an;go_wp2_with fail;refine(iY i bl k.out.box d).mono ?_;rintro e bn⟨rfl,X⟩;go_wp2_with fail;exact⟨rfl,rfl,x.out.trans (X.mono x.out.size)⟩
      |cons c2 r2=>
       have aa:=ad an;have dp:=ku an;clear an;obtain⟨q3,ao⟩:∃q,(c2==62)=q:=⟨_,rfl⟩;rcases q3 with _|_
       ·obtain rfl:=(K.out.2 _ _ aa.out).1 ao;have q4:((c2.toNat:Int)==62)=false:=nz ao;clear ao;go_wp2_with fail;refine(cX i aa.out k.out.box d).mono ?_;rintro e bn⟨rfl,X⟩;have ab:=ad (k.out.next X);have x:=ad (ab.out.lk w.out).up;clear X k;go_wp2_with fail;refine(lP i aa.out ab.out.box d).mono ?_;rintro e a2⟨rfl,O⟩;go_wp2_with fail;exact⟨rfl,rfl,x.out.trans (O.mono x.out.size)⟩
       ·obtain rfl:=(K.out.2 _ _ aa.out).2 ao;obtain rfl:c2=62:=by simpa using ao
        clear ao;go_wp2_with fail;refine(cX i aa.out k.out.box d).mono ?_;rintro e bn⟨rfl,X⟩;have ab:=ad (k.out.next X);clear X k;go_wp2_with fail;refine(jQ i aa.out ab.out.box d).mono ?_;rintro e a2⟨rfl,O,cc⟩;have ac:=ad (ab.out.aN cc O);clear O cc ab;obtain⟨B,L,S,x3,x4,x5,-,-⟩:=iL ac.out.tb;rw[E.out] at B L S x3 x4 x5;have HC:=ad (nA (ac.out.lk w.out) 3 nm l sa sc (ac.out.attrs w.out) [] 0 0 i (by omega) (by omega) d (by omega));go_wp2_with fail;refine HC.out.mono ?_;rintro e ds⟨rfl,a1,a3,b2,ca⟩;have bd:=ad ((ca.block _ (aB.1 ac.out.tb).1 (by have:=ac.out.hp;omega) (fun e=>by have:=(w.out.own.lt _ e.symm).2;omega)).trans ac.out.tb);have ck:=ad b2;clear b2 ca HC B L S x3 x4 x5;obtain⟨B,L,-,-,-,-,-,-⟩:=iL bd.out;rw[E.out] at B L;go_wp2_with fail
        go_end0
        exact⟨rfl,_,_,ck.out⟩
