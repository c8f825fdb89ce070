/- The walk of the lexer's Tokens. -/
import Derived.Test.YtlemddnecmmfgaaGreatDoorJak
import Derived.RegionDies
set_option linter.unusedVariables false
set_option maxRecDepth 100000
set_option maxHeartbeats 8000000
namespace Go.Proofs.YtlemddnecmmfgaaGreatDoor
open Go.RowKit
variable{a:Int}{u:List aaL}{N:Lx (List bQ)}{d:Nat}{n:aaK}
theorem Ap{A:Nat→Prop}{W:aaK}{T:TypeId}{l:List bQ}{v:aaL}(c:W.ownsRow d T 3 v l.length (fY l))(i:∀z,d≤z→A z):aP A W l v:=by
 rcases c.2 with⟨a,b⟩|⟨g,cap,o,a,b,e,h,p,q,r⟩
 ·exact .inl ⟨jn b,none,0,a⟩
 ·have m:=c.cells (g:=g) (by rw[a];rfl);refine .inr ⟨g,0,cap,a,h,i g b,(aB.1 e).1,(fun j v n=> ?_)⟩;have k:(⟨g,0,none⟩:Addr).add j=⟨g,0+j,none⟩:=by unfold Addr.add;split<;>simp_all
  rw[←k];exact m j v n
structure OS (W4 W:aaK) (p:Nat) (s:Bs) (j:Nat) (h:Int) (lv:aaL) (k:Int) (nm:Bs) (l:List bQ) (av:aaL):Prop where
 tn:ak p W4 W
 box:LB W p s j lv h
 tb:W.heap[W4.heap.size]? =some (.cells (ei k nm av [] 0 0).toArray 76)
 ow:W.ownsRow (W4.heap.size+1) 159 3 av l.length (fY l)
 hp:p<W4.heap.size
section
variable{W4 W W':aaK}{p:Nat}{s:Bs}{j:Nat}{h:Int}{lv:aaL}{k:Int}{nm:Bs}{l:List bQ}{av:aaL}
theorem OS.next(H:OS W4 W p s j h lv k nm l av)(a:Below W.heap.size W W'):OS W4 W' p s j h lv k nm l av:=
 ⟨H.tn.t (ak.ai a),H.box.next a,(a.block _ (aB.1 H.tb).1).t H.tb,cp H.ow a,H.hp⟩
theorem OS.aN(H:OS W4 W p s j h lv k nm l av)(b:ak p W W')(c:LB W' p s d lv a):OS W4 W' p s d a lv k nm l av:=
 ⟨H.tn.t b,c,(b.block _ (aB.1 H.tb).1 (by intro e;cases e;exact absurd H.hp (Nat.lt_irrefl _))).t H.tb,H.ow.kept b (.inr (fun e=>by have:=(H.ow.lt p e).1;have:=H.hp;omega)),H.hp⟩
theorem OS.kind(H:OS W4 W p s j h lv k nm l av)(a:Int):OS W4 (W.setCell ⟨W4.heap.size,0,none⟩ (.int .i64 a)) p s j h lv a nm l av:=
 ⟨jx H.tn (ag _),(dy W ⟨W4.heap.size,0,none⟩ _ p (by have:=H.hp;show p≠W4.heap.size;omega)).t H.box,aw (j:=0) H.tb,
  H.ow.kept ((ak.refl W4.heap.size W).set (j:=0) (v:=.int .i64 a)) (.inr (fun e=>by have:=(H.ow.lt _ e).1;omega)),H.hp⟩
theorem OS.lk{done:List Tok}(H:OS W4 W p s j h lv k nm l av)(b:LK n W4 p s d a lv done u):LK n W p s j h lv done u:=b.aN H.tn H.box
theorem OS.attrs{done:List Tok}(H:OS W4 W p s j h lv k nm l av)(b:LK n W4 p s d a lv done u):aP (T0 n p lv) W l av:=
 Ap H.ow fun z c=>⟨by have:=b.up.size;omega,by have:=H.hp;omega,fun e=>by have:=(b.own.lt z e.symm).2;omega⟩
theorem iL{W:aaK}{k:Int}{nm t:Bs}{av:aaL}{g:Int}(H:W.heap[d]? =some (.cells (ei k nm av t a g).toArray 76)):W.cell? ⟨d,0,none⟩=some (.int .i64 k)∧W.cell? ⟨d,1,none⟩=some (.string ⟨nm.toArray⟩)∧W.cell? ⟨d,2,none⟩=some av∧W.cell? ⟨d,3,none⟩=some (.string ⟨t.toArray⟩)∧W.cell? ⟨d,4,none⟩=some (.int .i64 a)∧W.cell? ⟨d,5,none⟩=some (.int .i64 g)∧W.frozen? ⟨d,0,none⟩=false∧W.frozen? ⟨d,2,none⟩=false:=
 ⟨tH _ _ 0 _ _ _ H,tH _ _ 1 _ _ _ H,tH _ _ 2 _ _ _ H,tH _ _ 3 _ _ _ H,tH _ _ 4 _ _ _ H,tH _ _ 5 _ _ _ H,aF _ _ 0 _ _ H,aF _ _ 2 _ _ H⟩
theorem Ri{cap:Nat}{O:Obj}{a:bQ}(H:OS W4 W p s j h lv k nm l av)
 (u:n.ownsRow (W4.heap.size+1) 159 3 (.slice (some ⟨d,0,none⟩) (l.length+1) cap) (l.length+1) (fY l++BF a))(i:(W.alloc O).grownBy n av.ownBlock):
 OS W4 (n.setCell ⟨W4.heap.size,2,none⟩ (.slice (some ⟨d,0,none⟩) (l.length+1) cap)) p s j h lv k nm (l++[a]) (.slice (some ⟨d,0,none⟩) (l.length+1) cap)∧n.heap[W4.heap.size]? =some (.cells (ei k nm av [] 0 0).toArray 76):=by
 have c:Below W.heap.size W (W.alloc O):=(ar _ _).alloc (ag _) _;have C:=H.tn.size;have D:=c.size;have E:=i.size;have A:∀q,av.ownBlock=some q→W4.heap.size+1≤q:=fun q hq=>(H.ow.lt q hq).1;have o:∀b,b≤W4.heap.size→b<W.heap.size→n.heap[b]? =W.heap[b]? :=fun b r m=>(i.block b (by omega) (fun e=>by have:=A b e.symm;omega)).t (c.block b m)
 have w:=(o _ (ag _) (aB.1 H.tb).1).t H.tb;have y:LB n p s j lv h:=(o p (om H.hp) H.box.lt).t H.box;have B:ak p W4 n:=⟨(i.os.t c.os).t H.tn.os,(i.tape.t c.tape).t H.tn.tape,(i.output.t c.output).t H.tn.output,by omega,fun b r m=>(o b (by omega) (by omega)).t (H.tn.block b r m)⟩;have z:(l++[a]).length=l.length+1:=by simp
 have x:fY (l++[a])=fY l++BF a:=by rw[xo];simp[fY]
 refine⟨⟨jx B (ag _),(dy n ⟨W4.heap.size,2,none⟩ _ p (by have:=H.hp;show p≠W4.heap.size;omega)).t y,aw (j:=2) w, ?_,H.hp⟩,w⟩;rw[z,x];exact u.kept ((ak.refl W4.heap.size n).set (j:=2)) (.inr (fun e=>by have:=(u.lt _ e).1;omega))
end
theorem T6:(Tryz.prog.info? 159).map (fun i=>(i.zero,i.size,i.bytes))=some (some (.agg #[.string ⟨#[]⟩,.string ⟨#[]⟩,.int .i64 0]),3,40):=by kernel_rfl
theorem Rj:Tryz.prog.underlying 34=some (.slice 159):=by kernel_rfl
theorem NK{s:Bs}{tag f j:Nat}{l:List bQ}(m:cE s tag (f+1) j l=N):
 (s.drop (pa s j)=[]→N=.bad tag 14)∧(∀c r,s.drop (pa s j)=c::r→((c==62||c==47)=true→N=.aq l (pa s j))∧((c==62||c==47)=false→(pa s j=j→N=.bad j 12)∧
  (pa s j≠j→(∀q e,fU s tag (pa s j) l=.bad q e→N=.bad q e)∧(∀a t,fU s tag (pa s j) l=.aq a t→cE s tag f t (l++[a])=N)))):=by
 have d:cE s tag (f+1) j l=match s.drop (pa s j) with
  |[]=>.bad tag 14
  |c::_=>if c==62||c==47 then .aq l (pa s j) else if pa s j==j then .bad j 12 else match fU s tag (pa s j) l with
   |.bad p e=>.bad p e
   |.aq a t=>cE s tag f t (l++[a]):=rfl
 subst m;refine⟨fun h=>by rw[d,h],fun c r h=>⟨fun b=>by rw[d,h];exact ah b,fun b=>⟨fun i=>by rw[d,h];show(if(c==62||c==47)=true then _ else _)=_;rw[b];simp[i],fun i=>⟨fun q e k=> ?_,fun a t k=> ?_⟩⟩⟩⟩
 ·rw[d,h];show(if(c==62||c==47)=true then _ else _)=_;rw[b];simp[i,k]
 ·rw[d,h];show _=(if(c==62||c==47)=true then _ else _);rw[b];simp[i,k]
theorem Rk{s:Bs}{nm:Bs}(z:(s.drop (d+5)).take (db s (d+5))=nm)(y:cE s d (s.length+1) (d+5+db s (d+5)) []=N):
 (elems.contains nm=false→dB s d=.bad d 11)∧(elems.contains nm=true→
  (∀q e,N=.bad q e→dB s d=.bad q e)∧
  (∀l m r,N=.aq l m→s.drop m=62::r→((nm=bS∨nm=cF)→dB s d=(match iU s nm d (m+1) with|.bad p e=>.bad p e|.aq t j=>.aq [cS s 2 nm l d (m+1),t] j))∧(¬(nm=bS∨nm=cF)→dB s d=.aq [cS s 2 nm l d (m+1)] (m+1)))∧
  (∀l m r,N=.aq l m→s.drop m=47::r→(s.drop (m+1)=[]→dB s d=.bad d 14)∧(∀c w,s.drop (m+1)=c::w→((c==62)=false→dB s d=.bad (m+1) 12)∧((c==62)=true→dB s d=.aq [cS s 3 nm l d (m+1+1)] (m+1+1))))):=by
 have b:dB s d=if elems.contains nm then
  match qw s d nm (d+5+db s (d+5)) with
  |.bad p e=>.bad p e
  |.aq t j=>
   if t.kind=2∧(nm=bS∨nm=cF) then
    match iU s nm d j with
    |.bad p e=>.bad p e
    |.aq r m=>.aq [t,r] m
   else .aq [t] j
  else .bad d 11:=by subst z;rfl
 have u:qw s d nm (d+5+db s (d+5))=match(generalizing:=false) N with
  |.bad p e=>.bad p e
  |.aq l j=>if(s.drop j).head?==some 47 then gv s d nm l 3 (j+1) else gv s d nm l 2 j:=by subst y;rfl
 refine⟨fun h=>by rw[b,h];rfl,fun h=>⟨fun q e k=>by rw[b,h,u,k];rfl,fun l m r k o=> ?_,fun l m r k o=> ?_⟩⟩
 ·have i:qw s d nm (d+5+db s (d+5))=.aq (cS s 2 nm l d (m+1)) (m+1):=by rw[u,k];show(if(s.drop m).head?==some 47 then _ else _)=_;unfold gv;rw[o];rfl
  refine⟨fun a=> ?_,fun a=> ?_⟩
  ·rw[b,h,i];exact ah (show(cS s 2 nm l d (m+1)).kind=2∧(nm=bS∨nm=cF) from⟨rfl,a⟩)
  ·rw[b,h,i];exact ae (show¬((cS s 2 nm l d (m+1)).kind=2∧(nm=bS∨nm=cF)) from fun n=>a n.2)
 ·have i:qw s d nm (d+5+db s (d+5))=gv s d nm l 3 (m+1):=by rw[u,k];show(if(s.drop m).head?==some 47 then _ else _)=_;rw[o];rfl
  refine⟨fun a=> ?_,fun c w a=>⟨fun n=> ?_,fun n=> ?_⟩⟩
  ·rw[b,h,i];unfold gv;rw[a];rfl
  ·rw[b,h,i];unfold gv;rw[a];simp only[n];rfl
  ·rw[b,h,i];unfold gv;rw[a];simp only[n,if_true];exact ae (fun x=>absurd (show(3:Int)=2 from x.1) (by decide))
theorem NL{L W:aaK}{p:Nat}{s:Bs}{h:Int}{lv:aaL}{done:List Tok}(hG:GL L)(a8:LK L W p s d h lv done u)(hi:d+5≤s.length)(w:s.length≤1000000)(hd:done.length≤8000000):
 Calls Tryz.prog 71 #[.pointer (some ⟨p,0,none⟩)] W (BP L p s h done (dB s d)):=by
 obtain⟨nm,a3⟩:∃nm,(s.drop (d+5)).take (db s (d+5))=nm:=⟨_,rfl⟩;obtain⟨R,hR⟩:∃R,cE s d (s.length+1) (d+5+db s (d+5)) []=R:=⟨_,rfl⟩;have ao:=ad (Rk a3 hR);obtain⟨R2,T⟩:∃R,dB s d=R:=⟨_,rfl⟩;rw[T] at ao⊢;have ct:=ad (show nm.length≤1000000 by rw[←a3,gu,bK];omega);clear T;have HK:=ad a8;have HG:=ad hG;have bd:=ad (a8.box.iD (d+5));rw[show((d+5:Nat):Int)=(d:Int)+5 by omega] at bd;have HT:=ad ((ak.refl p W).set (j:=1) (v:=.int .i64 ((d:Int)+5)));have a2:=ad (HK.o.aN HT.o bd.o);obtain⟨c0,S,-,-,f1,-,-⟩:=a8.box.lc;have i1:(d:Int)+5≤1000000:=by omega
 have Z:=ad (DC L hG a2.o.up HK.o.far (d:Int) hi bd.o w);have b8:=iI s hi;clear a8;go_enter Tryz.func71,Tryz.ntmps71;go_upto_region 2 with fail;clear c0 S f1 bd HT;generalize W.setCell ⟨p,1,none⟩ (.int .i64 ((d:Int)+5))=W3 at*;obtain⟨n,hn⟩:∃n,db s (d+5)=n:=⟨_,rfl⟩;rw[hn] at b8 hR a3 Z;rw[a3] at Z;have HR:=ad hR;clear hn a3 hR;obtain⟨q,hq⟩:∃q,elems.contains nm=q:=⟨_,rfl⟩;rw[hq] at ao Z;clear hq;rcases q with _|_
 ·obtain rfl:=ao.o.1 rfl;have bb:=ad (show Calls Tryz.prog 113 #[.pointer (some ⟨p,0,none⟩),.int .i64 (d:Int)] W3 (mL p W3 d 11) from Z.o.m fun e w' hh=>hh.2 rfl);clear Z ao;go_wp2_with fail;refine bb.o.m ?_;rintro e w1⟨rfl,hb⟩;go_wp2_with fail;exact⟨rfl,rfl,a2.o.up.t (hb.m a2.o.far)⟩
 ·have aa:=ad (ao.o.2 rfl);have bb:=ad (show Calls Tryz.prog 113 #[.pointer (some ⟨p,0,none⟩),.int .i64 (d:Int)] W3 (fun e w'=>e=.returned (.string ⟨nm.toArray⟩)∧LB w' p s (d+5+n) lv h∧ak p W3 w') from Z.o.m fun e w' hh=>hh.1 rfl);clear Z ao;go_wp2_with fail;refine bb.o.m ?_;rintro e M⟨rfl,bm,ck⟩;have C:=ad (a2.o.aN ck bm);have bx:=ad bm;clear bm ck bb a2;have hA:Below M.heap.size M (M.alloc (.cells (ei 2 nm (.slice none 0 0) [] 0 0).toArray 76)):=(ar _ _).alloc (ag _) _;have cK:=ad (show OS M (M.alloc (.cells (ei 2 nm (.slice none 0 0) [] 0 0).toArray 76)) p s (d+5+n) h lv 2 nm [] (.slice none 0 0) from
   ⟨ak.ai hA,bx.o.next hA,au M _,jO _ _ _ _,bx.o.lt⟩)
  clear hA;go_upto_region 3 with fail;obtain⟨b,hb⟩:∃b,M.heap.size=b:=⟨_,rfl⟩;rw[hb];have I:=ad hb;clear hb;generalize M.alloc (.cells (ei 2 nm (.slice none 0 0) [] 0 0).toArray 76)=w5 at*
  go_loopw [4,5] (fun v4 v5 wr=>∃(f j:Nat) (l:List bQ) (av:aaL),Hid (cE s d f j l=R)∧j≤s.length∧s.length<j+f∧l.length≤j∧d≤j∧Hid (OS M wr p s j h lv 2 nm l av)) (fun _ _ wr=>s.length-j4 wr p)
  case atStart=>exact⟨s.length+1,d+5+n,[],.slice none 0 0,HR,b8,by omega,by simp,by omega,cK⟩
  case round=>
   obtain⟨f,j,l,av,bv,hj,hf,d0,dq,HO⟩:=hrel;obtain⟨f,rfl⟩:∃f',f=f'+1:=⟨f-1,by omega⟩;obtain⟨sa,sc,rfl⟩:=(HO.o.attrs C.o).shape;have a1:=ad (NK bv.o);have cO:=ad HO.o.box.at_;have br:=vZ s hj;have d2:=cY s j;go_wp2_with fail;refine(DA hj HO.o.box w).m ?_;rintro e w6⟨rfl,bn,cl⟩;rw[←br] at bn;have G:=ad (HO.o.aN cl bn);clear bn cl HO bv;generalize lead mE (s.drop j)=bl at*;generalize pa s j=k at*;have dp:(bl:Int)≤1000000:=by omega
   cases ac:s.drop k with
   |nil=>
    obtain rfl:=a1.o.1 ac;obtain rfl:=aa.o.1 _ _ rfl;have bp:k=s.length:=by have:=List.drop_eq_nil_iff.1 ac;omega
    have D:=ad (G.o.lk C.o).up;clear ac;go_wp2_with fail;refine(iY d bp G.o.box w).m ?_;rintro e X⟨rfl,J⟩;go_wp2_with fail;exact⟨rfl,rfl,D.o.t (J.m D.o.size)⟩
   |cons c r=>
    have N:=ad ac;have b7:=ku ac;have a4:s[k]=c:=by have:=qD (xs:=s) (i:=k) (j:=0);rw[ac] at this;exact(cH.1 (by simpa using this.symm)).2
    clear ac;obtain⟨K,E⟩:∃q,(c==62||c==47)=q:=⟨_,rfl⟩;rcases K with _|_
    ·have be:=ad ((a1.o.2 _ _ N.o).2 E);have q1:((c.toNat:Int)==62)=false:=by rw[uF] at E;exact nz E.1
     have K:((c.toNat:Int)==47)=false:=by rw[uF] at E;exact nz E.2
     clear E a4 a1;go_wp2_with fail;refine(cX d N.o G.o.box w).m ?_;rintro e X⟨rfl,J⟩;have H:=ad (G.o.next J);clear J G;by_cases c4:bl=0
     ·obtain rfl:=be.o.1 (by omega);obtain rfl:=aa.o.1 _ _ rfl;obtain rfl:k=j:=by omega
      subst c4;clear br;obtain⟨c0,S,-,-,-,-,-⟩:=H.o.box.lc;have D:=ad (H.o.lk C.o).up;go_wp2_with fail;refine(fE k 12 X).m ?_;rintro e w8⟨rfl,ay⟩;go_wp2_with fail;exact⟨rfl,rfl,D.o.t (ay.m D.o.size)⟩
     ·have q3:((bl:Int)==0)=false:=by rw[aL];omega
      have a9:=ad (be.o.2 (by omega));clear be;have y:=ad (H.o.next (mM (ar _ _)));have bo:=tL (s:=s) (tag:=d) (i:=k) (l:=l) (by omega) (by omega);have bf:=ad (NG d l (by omega) sa sc (Ap y.o.ow (A:=fun b=>b≠p) (fun z hz=>by have:=y.o.hp;omega)) (om b7) y.o.box w);obtain⟨A,hA⟩:∃A,fU s d k l=A:=⟨_,rfl⟩;rw[hA] at bf a9 bo;clear hA;obtain⟨-,-,Y,-,-,-,-,-⟩:=iL y.o.tb;rw[I.o] at Y;have D:=ad (y.o.lk C.o).up;go_upto_region 8 with fail;cases A with
      |bad q e=>
       obtain rfl:=a9.o.1 _ _ rfl;obtain rfl:=aa.o.1 _ _ rfl
       go_region_dies
       all_goals
        refine bf.o.m ?_;rintro e w8⟨rfl,ay⟩;exact⟨rfl,rfl,D.o.t (ay.m C.o.far)⟩
      |aq a t=>
       have co:=ad (a9.o.2 _ _ rfl);have c3:k<t∧t≤s.length:=bo;clear bo a9;go_region_law
        (first
         |(refine gM (by rfl) _ _ 34 (by rfl) 159 (.agg #[.string ⟨#[]⟩,.string ⟨#[]⟩,.int .i64 0]) 3 40 Rj T6 (by rfl) (by decide) (M.heap.size+1) w8 (.slice sa l.length sc) l.length (fY l) (by rfl) B.o.ow (BF a) (by rfl) (by rfl) (by rfl) (by simp[Value.oneCell']) (by omega) (by omega) (by exact(aB.1 B.o.tb).1) ?_;intro g cap w5 b9 b4 c6;obtain⟨ca,cb⟩:=Ri B.o b9 b4;have HP:=ad ca;rw[I.o] at HP;obtain⟨-,-,g2,-,-,-,-,f2⟩:=iL cb;rw[I.o] at g2 f2;clear ca cb b9 b4 c6)
         |(go_simp;refine bf.o.m ?_;rintro e w8⟨rfl,ay,cn⟩;have B:=ad (y.o.aN cn ay);obtain⟨-,-,K,-,-,-,-,-⟩:=iL B.o.tb;rw[I.o] at K;have c8:∀bk,(w8.alloc bk).cell? ⟨b,2,none⟩=some (.slice sa l.length sc):=fun bk=>aI K bk;clear ay cn))
       all_goals
        clear Y K c8 g2 f2;go_wp2_with fail
        go_roundw
        case rel=>exact⟨f,t,l++[a],_,co,c3.2,by omega,by simp;omega,by omega,HP⟩
        case measure=>(show s.length-j4 _ p<s.length-j4 wr p;rw[HP.o.box.at_,cO.out];omega)
    ·obtain rfl:=(a1.o.2 _ _ N.o).1 E;clear a1;have c1:c=62∨c=47:=by rw[wH,bZ,bZ] at E;exact E
     have ds:d≤k:=by omega
     clear E br;have i3:(0:Int)≤(k:Int):=by omega
     have i4:(k:Int)<(s.length:Int):=by omega
     have i5:(k:Int)+1≤1000001:=by omega
     rcases c1 with rfl|rfl
     ·have O:=ad (aa.o.2.1 _ _ _ rfl N.o);clear aa;go_wp2_with fail;refine(cX d N.o G.o.box w).m ?_;rintro e X⟨rfl,J⟩;have H:=ad (G.o.next J);clear J G;obtain⟨c0,S,-,-,-,-,-⟩:=H.o.box.lc;go_upto_region 9 with fail
      go_quiet (fail)
      have y:=ad (H.o.next (ax X nq));simp only[show∀hp,((⟨s.toArray⟩:aaM)[k]'hp)=62 from fun _=>a4,show(((62:UInt8).toNat:Int)==47)=false from rfl]
      clear c0 S H a4;generalize X.drewN nq=w8 at*;go_upto_region 12 with fail;go_wp2_with fail;refine(cX d N.o y.o.box w).m ?_;rintro e w9⟨rfl,b3⟩;have B:=ad (y.o.next b3);clear b3 y;go_wp2_with fail;refine(jQ d N.o B.o.box w).m ?_;rintro e c9⟨rfl,b2,ch⟩;have x:=ad (B.o.aN ch b2);clear b2 ch B;obtain⟨F,Q,Y,x3,x4,x5,-,-⟩:=iL x.o.tb;rw[I.o] at F Q Y x3 x4 x5;have HC:=ad (nA (x.o.lk C.o) 2 nm l sa sc (x.o.attrs C.o) [] 0 0 d (by omega) (by omega) w (by omega));go_wp2_with fail;refine HC.o.m ?_;rintro e bs⟨rfl,a5,a7,b5,cd⟩;have bi:=ad ((cd.block _ (aB.1 x.o.tb).1 (by have:=x.o.hp;omega) (fun e=>by have:=(C.o.own.lt _ e.symm).2;omega)).t x.o.tb);have bJ:=ad b5;clear b5 cd HC F Q Y x3 x4 x5;obtain⟨F,Q,-,-,-,-,-,-⟩:=iL bi.o;rw[I.o] at F Q;have c5:k+1≤s.length:=b7;obtain⟨q1,cc⟩:∃q,(nm==[114,101,109,111,118,101])=q:=⟨_,rfl⟩;obtain⟨K,E⟩:∃q,(nm==[105,110,108,105,110,101])=q:=⟨_,rfl⟩;have b0:=ad (show(q1||K)=true→nm=bS∨nm=cF by subst cc;subst E;intro h1;rw[wH,bZ,bZ] at h1;exact h1);have cx:=ad (show(q1||K)=false→¬(nm=bS∨nm=cF) by subst cc;subst E;intro h1;rw[uF,aL,aL] at h1;exact fun h2=>h2.elim h1.1 h1.2);have ap:=ad (Rh HG.o bJ.o nm ct.o d c5 w (by rw[bB];simp;omega));obtain⟨RA,b1⟩:∃R,iU s nm d (k+1)=R:=⟨_,rfl⟩;rw[b1] at ap O;clear b1;rcases q1 with _|_
      ·rcases K with _|_
       ·obtain rfl:=O.o.2 (cx.o (by rfl));clear ap O;go_wp2_with fail
        go_end0
        exact⟨rfl,_,_,bJ.o⟩
       ·have T:=O.o.1 (b0.o (by rfl));cases RA with
        |bad q e=>obtain rfl:R2=.bad q e:=T;go_wp2_with fail;refine(show Calls _ _ _ _ (mL L.heap.size L q e) from ap.o).m ?_;rintro e a6⟨rfl,V⟩;go_wp2_with fail;exact⟨rfl,rfl,V⟩
        |aq t j2=>
         obtain rfl:R2=.aq [cS s 2 nm l d (k+1),t] j2:=T;go_wp2_with fail;refine(show Calls _ _ _ _ (fun e w'=>e=.returned (.tuple #[])∧∃a5 a7,LK L w' p s j2 h a5 (done++[cS s 2 nm l d (k+1)]++[t]) a7) from ap.o).m ?_;rintro e a6⟨rfl,c7,dl,af⟩;rw[jl] at af;have bg:=ad af;clear af;go_wp2_with fail
         go_end0
         exact⟨rfl,_,_,bg.o⟩
      ·have T:=O.o.1 (b0.o (by rfl));cases RA with
       |bad q e=>obtain rfl:R2=.bad q e:=T;go_wp2_with fail;refine(show Calls _ _ _ _ (mL L.heap.size L q e) from ap.o).m ?_;rintro e a6⟨rfl,V⟩;go_wp2_with fail;exact⟨rfl,rfl,V⟩
       |aq t j2=>
        obtain rfl:R2=.aq [cS s 2 nm l d (k+1),t] j2:=T;go_wp2_with fail;refine(show Calls _ _ _ _ (fun e w'=>e=.returned (.tuple #[])∧∃a5 a7,LK L w' p s j2 h a5 (done++[cS s 2 nm l d (k+1)]++[t]) a7) from ap.o).m ?_;rintro e a6⟨rfl,c7,dl,af⟩;rw[jl] at af;have bg:=ad af;clear af;go_wp2_with fail
        go_end0
        exact⟨rfl,_,_,bg.o⟩
     ·have O:=ad (aa.o.2.2 _ _ _ rfl N.o);clear aa;go_wp2_with fail;refine(cX d N.o G.o.box w).m ?_;rintro e X⟨rfl,J⟩;have H:=ad (G.o.next J);clear J G;obtain⟨c0,S,-,-,-,-,-⟩:=H.o.box.lc;go_upto_region 9 with fail
      go_quiet (fail)
      have y:=ad (H.o.next (ax X nq));simp only[show∀hp,((⟨s.toArray⟩:aaM)[k]'hp)=47 from fun _=>a4,show(((47:UInt8).toNat:Int)==47)=true from rfl]
      clear c0 S H a4;generalize X.drewN nq=w8 at*;obtain⟨F,-,-,-,-,-,f0,-⟩:=iL y.o.tb;rw[I.o] at F f0;have B:=ad (y.o.kind 3);rw[I.o] at B;go_upto_region 11 with fail;clear F f0 y;generalize w8.setCell ⟨b,0,none⟩ (.int .i64 3)=w9 at*;obtain⟨-,S,-,-,f1,-,-⟩:=B.o.box.lc;have HE:=ad (B.o.box.iD (k+1));rw[show((k+1:Nat):Int)=(k:Int)+1 by omega] at HE;have x:=ad (B.o.aN ((ak.refl p w9).set (j:=1) (v:=.int .i64 ((k:Int)+1))) HE.o);go_upto_region 12 with fail;clear S f1 HE B;generalize w9.setCell ⟨p,1,none⟩ (.int .i64 ((k:Int)+1))=c9 at*;cases aU:s.drop (k+1) with
      |nil=>
       obtain rfl:=O.o.1 aU;have bp:k+1=s.length:=by have:=List.drop_eq_nil_iff.1 aU;omega
       have D:=ad (x.o.lk C.o).up;clear aU;go_wp2_with fail;refine(iY d bp x.o.box w).m ?_;rintro e bs⟨rfl,ab⟩;go_wp2_with fail;exact⟨rfl,rfl,D.o.t (ab.m D.o.size)⟩
      |cons c2 r2=>
       have al:=ad aU;have d1:=ku aU;clear aU;obtain⟨q3,a0⟩:∃q,(c2==62)=q:=⟨_,rfl⟩;rcases q3 with _|_
       ·obtain rfl:=(O.o.2 _ _ al.o).1 a0;have q4:((c2.toNat:Int)==62)=false:=nz a0;clear a0;go_wp2_with fail;refine(cX d al.o x.o.box w).m ?_;rintro e bs⟨rfl,ab⟩;have am:=ad (x.o.next ab);have D:=ad (am.o.lk C.o).up;clear ab x;go_wp2_with fail;refine(lP d al.o am.o.box w).m ?_;rintro e a6⟨rfl,V⟩;go_wp2_with fail;exact⟨rfl,rfl,D.o.t (V.m D.o.size)⟩
       ·obtain rfl:=(O.o.2 _ _ al.o).2 a0;obtain rfl:c2=62:=by simpa using a0
        clear a0;go_wp2_with fail;refine(cX d al.o x.o.box w).m ?_;rintro e bs⟨rfl,ab⟩;have am:=ad (x.o.next ab);clear ab x;go_wp2_with fail;refine(jQ d al.o am.o.box w).m ?_;rintro e a6⟨rfl,V,ci⟩;have an:=ad (am.o.aN ci V);clear V ci am;obtain⟨F,Q,Y,x3,x4,x5,-,-⟩:=iL an.o.tb;rw[I.o] at F Q Y x3 x4 x5;have HC:=ad (nA (an.o.lk C.o) 3 nm l sa sc (an.o.attrs C.o) [] 0 0 d (by omega) (by omega) w (by omega));go_wp2_with fail;refine HC.o.m ?_;rintro e d3⟨rfl,a5,a7,b6,ce⟩;have bi:=ad ((ce.block _ (aB.1 an.o.tb).1 (by have:=an.o.hp;omega) (fun e=>by have:=(C.o.own.lt _ e.symm).2;omega)).t an.o.tb);have cs:=ad b6;clear b6 ce HC F Q Y x3 x4 x5;obtain⟨F,Q,-,-,-,-,-,-⟩:=iL bi.o;rw[I.o] at F Q;go_wp2_with fail
        go_end0
        exact⟨rfl,_,_,cs.o⟩
def Vn(p:Nat)(k:Nat):aaL:=
 if k=1 then .func (.func 71) #[.pointer (some ⟨p,0,none⟩)] #[]
 else if k=2 then .func (.func 72) #[.pointer (some ⟨p,0,none⟩)] #[]
 else if k=3 then .func (.func 74) #[.pointer (some ⟨p,0,none⟩)] #[]
 else if k=4 then .func (.func 75) #[.pointer (some ⟨p,0,none⟩)] #[]
 else .nilFunc
theorem Rl(r:Bs)(hid:Bool):dw r hid=if Lib.hasPrefix r eY then 1 else if Lib.hasPrefix r bD then 2 else if Lib.hasPrefix r jv&&((r.drop 7).head?.map mE).getD false then 3 else if Lib.hasPrefix r oJ&&hid then 4 else 0:=rfl
theorem Vo(r:Bs):((r.drop 7).head?.map mE).getD false=if h:7<r.length then mE r[7] else false:=by
 by_cases h:7<r.length
 ·rw[dif_pos h,lG h];rfl
 ·rw[dif_neg h,qA (by omega)];rfl
theorem NM{W:aaK}{p:Nat}{s:Bs}{i:Nat}{lv:aaL}{h:Int}(hid:Bool)(L:hid=true→0≤h)(M:hid=false→¬0≤h)(x:LB W p s i lv h)(hi:i<s.length)(hs:s.length≤1000000):
 Calls Tryz.prog 36 #[.pointer (some ⟨p,0,none⟩)] W (cN W (Vn p (dw (s.drop i) hid))):=by
 have aa:∀(fn:Fn) (first cap:Array aaL) (w:aaK),(Instr.makeFunc fn first cap).run Tryz.prog w=.ok (.func fn first cap) w:=fun _ _ _ _=>rfl;obtain⟨T,V,-,-,-,-,-⟩:=x.lc;have I:=ad x;have Z:((⟨s.toArray⟩:aaM).extract i s.length)=⟨(s.drop i).toArray⟩:=ic s i _ (ag _);have ab:(s.drop i).length≤1000000:=by rw[bK];omega
 have i0:(0:Int)≤(i:Int):=by omega
 have i2:(i:Int)≤(s.length:Int):=by omega
 generalize s.drop i=r at*;have t:∀(b:Bs) (W:aaK),Calls Tryz.prog 28 #[.string ⟨r.toArray⟩,.string ⟨b.toArray⟩] W fun e w'=>e=.returned (.bool (Lib.hasPrefix r b))∧w'=W:=fun b W=>(cj ⟨r.toArray⟩ ⟨b.toArray⟩ W).m fun e w' ⟨X,Y⟩=>⟨X,Y.symm⟩;obtain⟨a1,B⟩:∃a,Lib.hasPrefix r eY=a:=⟨_,rfl⟩;obtain⟨a2,C⟩:∃a,Lib.hasPrefix r bD=a:=⟨_,rfl⟩;obtain⟨a3,D⟩:∃a,Lib.hasPrefix r jv=a:=⟨_,rfl⟩;obtain⟨a4,E⟩:∃a,Lib.hasPrefix r oJ=a:=⟨_,rfl⟩;have O:=ad (show∀W:aaK,Calls Tryz.prog 28 #[.string ⟨r.toArray⟩,.string ⟨#[60,101,115,105,58]⟩] W fun e w'=>e=.returned (.bool a1)∧w'=W from B▸t eY);have Q:=ad (show∀W:aaK,Calls Tryz.prog 28 #[.string ⟨r.toArray⟩,.string ⟨#[60,47,101,115,105,58]⟩] W fun e w'=>e=.returned (.bool a2)∧w'=W from C▸t bD);have R:=ad (show∀W:aaK,Calls Tryz.prog 28 #[.string ⟨r.toArray⟩,.string ⟨#[60,33,45,45,101,115,105]⟩] W fun e w'=>e=.returned (.bool a3)∧w'=W from D▸t jv);have z:=ad (show∀W:aaK,Calls Tryz.prog 28 #[.string ⟨r.toArray⟩,.string ⟨#[45,45,62]⟩] W fun e w'=>e=.returned (.bool a4)∧w'=W from E▸t oJ);obtain⟨K,A⟩:∃k,dw r hid=k:=⟨_,rfl⟩;have G:=Rl r hid;rw[A,B,C,D,E,Vo] at G;rw[A];have c:=ad G;have l:=ad (And.intro L M);clear t B C D E A G L M x;go_enter Tryz.func36,Tryz.ntmps36;go_wp2_with fail
 go_quiet (fail)
 have d:=ad (ax W nq);have S:=ad (I.o.next d.o);clear T V Z I;generalize W.drewN nq=w1 at*;obtain⟨-,-,-,c3,-,-,-⟩:=S.o.lc;go_wp2_with fail;refine(O.o _).m ?_;rintro e w2⟨rfl,rfl⟩;rcases a1 with _|_
 ·go_wp2_with fail;refine(Q.o _).m ?_;rintro e w3⟨rfl,rfl⟩;rcases a2 with _|_
  ·go_wp2_with fail;refine(R.o _).m ?_;rintro e w4⟨rfl,rfl⟩;rcases a3 with _|_
   ·go_wp2_with fail;refine(z.o _).m ?_;rintro e H⟨rfl,rfl⟩;rcases a4 with _|_
    ·obtain rfl:K=0:=by have:=c.o;simpa[] using this
     clear c;go_wp2_with fail;go_ret;exact⟨rfl,d.o⟩
    ·rcases hid with _|_
     ·obtain rfl:K=0:=by have:=c.o;simpa[] using this
      have n:=l.o.2 rfl;clear c;go_wp2_with fail;go_ret;exact⟨rfl,d.o⟩
     ·obtain rfl:K=4:=by have:=c.o;simpa[] using this
      have n:=l.o.1 rfl;clear c;go_wp2_with fail;go_ret;exact⟨rfl,d.o⟩
   ·by_cases y:7<r.length
    ·obtain⟨J,F⟩:∃q,mE r[7]=q:=⟨_,rfl⟩;have N:=ad (show∀W:aaK,Calls Tryz.prog 73 #[.int .u8 (((⟨r.toArray⟩:aaM)[7]'(by simpa[ByteArray.size] using y)).toNat:Int)] W fun e w'=>e=.returned (.bool J)∧w'=W from fun W=>by
      rw[show((⟨r.toArray⟩:aaM)[7]'(by simpa[ByteArray.size] using y))=r[7] from rfl,←F]
      exact tT r[7] W)
     have u:=ad F;have j:=ad y;have i7:(7:Int)<(r.length:Int):=by omega
     clear F;go_wp2_with fail;refine(N.o _).m ?_;rintro e H⟨rfl,rfl⟩;rcases J with _|_
     ·go_wp2_with fail;refine(z.o _).m ?_;rintro e H⟨rfl,rfl⟩;rcases a4 with _|_
      ·obtain rfl:K=0:=by have:=c.o;simpa[j.o,u.o] using this
       clear c;go_wp2_with fail;go_ret;exact⟨rfl,d.o⟩
      ·rcases hid with _|_
       ·obtain rfl:K=0:=by have:=c.o;simpa[j.o,u.o] using this
        have n:=l.o.2 rfl;clear c;go_wp2_with fail;go_ret;exact⟨rfl,d.o⟩
       ·obtain rfl:K=4:=by have:=c.o;simpa[j.o,u.o] using this
        have n:=l.o.1 rfl;clear c;go_wp2_with fail;go_ret;exact⟨rfl,d.o⟩
     ·obtain rfl:K=3:=by have:=c.o;simpa[j.o,u.o] using this
      clear c;go_wp2_with fail;go_ret;exact⟨rfl,d.o⟩
    ·have j:=ad y;have i7:¬(7:Int)<(r.length:Int):=by omega
     go_wp2_with fail;refine(z.o _).m ?_;rintro e H⟨rfl,rfl⟩;rcases a4 with _|_
     ·obtain rfl:K=0:=by have:=c.o;simpa[j.o] using this
      clear c;go_wp2_with fail;go_ret;exact⟨rfl,d.o⟩
     ·rcases hid with _|_
      ·obtain rfl:K=0:=by have:=c.o;simpa[j.o] using this
       have n:=l.o.2 rfl;clear c;go_wp2_with fail;go_ret;exact⟨rfl,d.o⟩
      ·obtain rfl:K=4:=by have:=c.o;simpa[j.o] using this
       have n:=l.o.1 rfl;clear c;go_wp2_with fail;go_ret;exact⟨rfl,d.o⟩
  ·obtain rfl:K=2:=by have:=c.o;simpa using this
   clear c;go_wp2_with fail;go_ret;exact⟨rfl,d.o⟩
 ·obtain rfl:K=1:=by have:=c.o;simpa using this
  clear c;go_wp2_with fail;go_ret;exact⟨rfl,d.o⟩
variable{h M:Int}{b d e:Nat}{a:aaK}{q:aaL}
theorem NN(b2 b3 b4:Nat)(w:aaK):
 CallsD Tryz.prog 35 #[.pointer (some ⟨b2,0,none⟩),.pointer (some ⟨b3,0,none⟩),.pointer (some ⟨b4,0,none⟩)] .returning w fun e c w'=>e=.returned (.tuple #[])∧c=.returning∧w'=w:=by
 refine callsD_of_wpS Tryz.func35 rfl fun a d b=> ?_;apply wpS_seq;apply wpS_region;simp[wpOpsS,go_sem,recoverD,b,Tryz.ntmps35,Exit.thenS];refine wpS_of_wp ?_;cases a;go_wp2_with fail;simp_all [bodyPostS,results,Tryz.results35]
structure CT (W:aaK) (b2 b3 b4:Nat) (v2:aaL) (v3 v4:Int):Prop where
 r2:W.heap[b2]? =some (.cells #[v2] 67)
 r3:W.heap[b3]? =some (.cells #[.int .i64 v3] 3)
 r4:W.heap[b4]? =some (.cells #[.int .i64 v4] 38)
 l2:b2<b3
 l3:b3<b4
theorem CT.lt(H:CT a b d e q h M):e<a.heap.size:=(aB.1 H.r4).1
theorem CT.next{W W':aaK}(H:CT W b d e q h M){n:Nat}(a:Below n W W')(c:e<n):CT W' b d e q h M:=
 ⟨(a.block _ (by have:=H.l2;have:=H.l3;omega)).t H.r2,(a.block _ (by have:=H.l3;omega)).t H.r3,(a.block _ c).t H.r4,H.l2,H.l3⟩
theorem CT.lay(H:CT a b d e q h M)(u2:aaL)(u3 u4:Int):
 CT (((a.setCell ⟨b,0,none⟩ u2).setCell ⟨d,0,none⟩ (.int .i64 u3)).setCell ⟨e,0,none⟩ (.int .i64 u4)) b d e u2 u3 u4:=by
 have n:=H.l2;have o:=H.l3;have a2:(a.setCell ⟨b,0,none⟩ u2).heap[b]? =some (.cells #[u2] 67):=aw (j:=0) H.r2;have a3:(a.setCell ⟨b,0,none⟩ u2).heap[d]? =some (.cells #[.int .i64 h] 3):=(dy a ⟨b,0,none⟩ u2 d (by show d≠b;omega)).t H.r3;have a4:(a.setCell ⟨b,0,none⟩ u2).heap[e]? =some (.cells #[.int .i64 M] 38):=(dy a ⟨b,0,none⟩ u2 e (by show e≠b;omega)).t H.r4;generalize a.setCell ⟨b,0,none⟩ u2=c at*;have d2:=(dy c ⟨d,0,none⟩ (.int .i64 u3) b (by show b≠d;omega)).t a2;have k:(c.setCell ⟨d,0,none⟩ (.int .i64 u3)).heap[d]? =some (.cells #[.int .i64 u3] 3):=aw (j:=0) a3;have l:=(dy c ⟨d,0,none⟩ (.int .i64 u3) e (by show e≠d;omega)).t a4;generalize c.setCell ⟨d,0,none⟩ (.int .i64 u3)=i at*;have m:(i.setCell ⟨e,0,none⟩ (.int .i64 u4)).heap[e]? =some (.cells #[.int .i64 u4] 38):=aw (j:=0) l;exact⟨(dy i ⟨e,0,none⟩ (.int .i64 u4) b (by show b≠e;omega)).t d2,(dy i ⟨e,0,none⟩ (.int .i64 u4) d (by show d≠e;omega)).t k,m,n,o⟩
theorem CT.Aq(H:CT a b d e q h M)(u2:aaL)(u3 u4:Int):
 Below b a (((a.setCell ⟨b,0,none⟩ u2).setCell ⟨d,0,none⟩ (.int .i64 u3)).setCell ⟨e,0,none⟩ (.int .i64 u4)):=by
 have l:=H.l2;have m:=H.l3;have n:=H.lt;have c:=(ak.refl b a).set (j:=0) (v:=u2);have i:=(ak.refl d (a.setCell ⟨b,0,none⟩ u2)).set (j:=0) (v:=.int .i64 u3);have k:=(ak.refl e ((a.setCell ⟨b,0,none⟩ u2).setCell ⟨d,0,none⟩ (.int .i64 u3))).set (j:=0) (v:=.int .i64 u4);have o:=c.size;have p:=i.size;exact((c.below (ag _) (by omega)).t (i.below (by omega) (by omega))).t (k.below (by omega) (by omega))
theorem NO(place c:Int)(w:aaK):(Instr.typeAssert (.iface 95 (.agg #[.int .i64 place,.int .i64 c])) 20 95 true).run Tryz.prog w=.ok (.tuple #[.agg #[.int .i64 place,.int .i64 c],.bool true]) w:=by kernel_rfl
theorem Gt(b2 b3 b4:Nat)(v2:aaL)(R S place c:Int)(w:aaK)(H:CT w b2 b3 b4 v2 R S):
 CallsD Tryz.prog 35 #[.pointer (some ⟨b2,0,none⟩),.pointer (some ⟨b3,0,none⟩),.pointer (some ⟨b4,0,none⟩)] (.panicking [tS place c]) w fun e Q w'=>e=.returned (.tuple #[])∧Q=.panicking [{tS place c with recovered:=true}]∧CT w' b2 b3 b4 (.slice none 0 0) place c∧Below b2 w w':=by
 have h:=aj H.r2 0;have i:=aj H.r3 0;have j:=aj H.r4 0;have k:=aF _ _ 0 _ _ H.r2;have l:=aF _ _ 0 _ _ H.r3;have n:=aF _ _ 0 _ _ H.r4;have a:=ad H;refine callsD_of_wpS Tryz.func35 rfl fun z Y q=> ?_;apply wpS_seq;apply wpS_region;simp[wpOpsS,go_sem,recoverD,q,tS,Tryz.ntmps35,Exit.thenS];refine wpS_of_wp ?_;have D:=NO place c;have u:((#[.pointer (some ⟨b2,0,none⟩),.pointer (some ⟨b3,0,none⟩),.pointer (some ⟨b4,0,none⟩)]:Array aaL)++(Array.replicate 13 undef).setIfInBounds 3 (.iface 95 (.agg #[.int .i64 place,.int .i64 c])))=#[.pointer (some ⟨b2,0,none⟩),.pointer (some ⟨b3,0,none⟩),.pointer (some ⟨b4,0,none⟩),undef,undef,undef,.iface 95 (.agg #[.int .i64 place,.int .i64 c]),undef,undef,undef,undef,undef,undef,undef,undef,undef]:=rfl;rw[u];clear u h i j k l n;cases z;have X:=ad q;clear q;go_wp2_with fail;clear D H;have p:Below w.heap.size w (w.alloc (.cells #[.int .i64 place,.int .i64 c] 95)):=(ar _ _).alloc (ag _) _;have x:=ad p;have y:=ad (au w (.cells #[.int .i64 place,.int .i64 c] 95));have b:=ad (a.o.next p a.o.lt);have C:=a.o.lt;have A:=a.o.l2;have B:=a.o.l3;generalize w.alloc (.cells #[.int .i64 place,.int .i64 c] 95)=T at*;obtain⟨V,W⟩:=qX2 (aj y.o) 0 1;have h:=aj b.o.r2 0;have i:=aj b.o.r3 0;have j:=aj b.o.r4 0;have k:=aF _ _ 0 _ _ b.o.r2;have l:=aF _ _ 0 _ _ b.o.r3;have n:=aF _ _ 0 _ _ b.o.r4;have n1:¬b2=w.heap.size:=by omega
 have n2:¬b3=w.heap.size:=by omega
 have I:¬b4=w.heap.size:=by omega
 have J:¬w.heap.size=b2:=by omega
 have K:¬w.heap.size=b3:=by omega
 have L:¬w.heap.size=b4:=by omega
 have M:¬b2=b3:=by omega
 have N:¬b2=b4:=by omega
 have O:¬b3=b4:=by omega
 have E:¬b3=b2:=by omega
 have F:¬b4=b2:=by omega
 have G:¬b4=b3:=by omega
 clear p C A B;go_region;have s:=b.o.lay (.slice none 0 0) place c;have r:=((x.o.m (om (Nat.lt_trans (Nat.lt_trans a.o.l2 a.o.l3) a.o.lt))).t (b.o.Aq (.slice none 0 0) place c));clear V W h i j k l n n1 n2 I J K L M N O E F G;have d:=ad (And.intro s r);clear s r;generalize((T.setCell ⟨b2,0,none⟩ (.slice none 0 0)).setCell ⟨b3,0,none⟩ (.int .i64 place)).setCell ⟨b4,0,none⟩ (.int .i64 c)=Z at*;go_wp2_with fail;refine⟨rfl,_,rfl,.tuple #[], ?_,rfl,rfl, ?_, ?_⟩
 ·simp[results,Tryz.results35,go_sem]
 ·exact⟨d.o.1.r2,d.o.1.r3,d.o.1.r4,d.o.1.l2,d.o.1.l3⟩
 ·exact mM d.o.2
variable{l:Array aaL}{b:Bs}{j M:Int}{a:List Tok}{e:List aaL}{d y n:Nat}{u k:aaK}{r:aaL}
def Gu:Option Nat→Int
 |some x=>(x:Int)
 |none=>-1
def mu(A:Nat→Prop)(W:aaK)(a:List Tok)(b:aaL):Prop:=∃xs,qy A W a xs∧((a=[]∧b=.slice none 0 0)∨∃g c,b=.slice (some ⟨g,0,none⟩) a.length c∧a.length≤c∧A g∧g<W.heap.size∧eI W g 0 xs)
theorem NP{A:Nat→Prop}{T:TypeId}{v:aaL}(h:u.ownsRow d T 6 v a.length e)(i:qy A u a e)(n:∀z,d≤z→A z):mu A u a v:=by
 rcases h.2 with⟨b,c⟩|⟨g,cap,r,b,c,k,m,s,t,w⟩
 ·exact⟨e,i,.inl ⟨jn c,b⟩⟩
 ·have p:=h.cells (g:=g) (by rw[b];rfl);refine⟨e,i,.inr ⟨g,cap,b,m,n g c,(aB.1 k).1,(fun j v q=> ?_)⟩⟩;have o:(⟨g,0,none⟩:Addr).add j=⟨g,0+j,none⟩:=by unfold Addr.add;split<;>simp_all
  rw[←o];exact p j v q
theorem mu.cO{A A':Nat→Prop}{W W':aaK}{k:List Tok}{m:aaL}(h:mu A W k m)(j:W.heap.size≤W'.heap.size)(e:∀b,A b→b<W.heap.size→A' b∧W'.heap[b]? =W.heap[b]?):mu A' W' k m:=by
 obtain⟨xs,n,a⟩:=h;refine⟨xs,n.map fun l v h=>h.cO j e, ?_⟩;rcases a with a|⟨g,c,o,p,i,d,q⟩
 ·exact .inl a
 ·exact .inr ⟨g,c,o,p,(e g i d).1,ej d j,q.cO (e g i d).2⟩
theorem CT.NQ(H:CT u d y n r j M)(u2:aaL)(u3 u4:Int)(k:Nat)(c:n<k):
 (((u.setCell ⟨d,0,none⟩ u2).setCell ⟨y,0,none⟩ (.int .i64 u3)).setCell ⟨n,0,none⟩ (.int .i64 u4)).heap[k]? =u.heap[k]? :=by
 have a:=H.l2;have b:=H.l3;exact((dy _ ⟨n,0,none⟩ _ k (by show k≠n;omega)).t (dy _ ⟨y,0,none⟩ _ k (by show k≠y;omega))).t (dy _ ⟨d,0,none⟩ _ k (by show k≠d;omega))
theorem NR{j:Nat}(h:dB b d=.aq a j):a.length≤2:=by
 unfold dB at h;dsimp only at h;split at h
 ·split at h
  ·cases h
  ·split at h
   ·split at h
    ·cases h
    ·cases h;simp
   ·cases h;simp
 ·cases h
theorem KP{j:Nat}(h:de b d=.aq a j):a.length≤2:=by
 unfold de at h;dsimp only at h;split at h
 ·split at h
  ·cases h
  ·split at h
   ·cases h;simp
   ·cases h
 ·cases h
theorem Gv(s:Bs)(a b:Nat):(dc s a b).length≤1:=by unfold dc;split<;>simp
def tU(w:aaK):Lx (List Tok)→Ending→aaK→Prop
 |.aq d _=>fun e w'=>Below w.heap.size w w'∧∃a,e=.returned (.tuple #[a,.int .i64 0,.int .i64 0])∧mu (fun b=>w.heap.size≤b) w' d a
 |.bad q c=>fun e w'=>Below w.heap.size w w'∧e=.returned (.tuple #[.slice none 0 0,.int .i64 q,.int .i64 c])
theorem NS{hid:Option Nat}{R:Lx (List Tok)}(h:gS b (d+1) y n hid a=R):
 (n<b.length→(dw (b.drop n) hid.isSome=0→gS b d y (n+1) hid a=R)∧
  (dw (b.drop n) hid.isSome≠0→(∀q e,fq b (dw (b.drop n) hid.isSome) n hid=.bad q e→R=.bad q e)∧(∀x j,fq b (dw (b.drop n) hid.isSome) n hid=.aq x j→gS b d j j x.2 (a++dc b y n++x.1)=R)))∧
 (¬n<b.length→(∀g,hid=some g→R=.bad g 14)∧(hid=none→R=.aq (a++dc b y n) n)):=by
 have m:gS b (d+1) y n hid a=if n<b.length then
  (if dw (b.drop n) hid.isSome=0 then gS b d y (n+1) hid a
  else match fq b (dw (b.drop n) hid.isSome) n hid with
   |.bad p e=>.bad p e
   |.aq x j=>gS b d j j x.2 (a++dc b y n++x.1))
  else match(generalizing:=false) hid with
   |some g=>.bad g 14
   |none=>.aq (a++dc b y n) n:=rfl
 subst h;refine⟨fun k=>⟨fun c=>by rw[m,ah k,ah c],fun c=>⟨fun q e o=>by rw[m,ah k,ae c,o],fun x j o=>by rw[m,ah k,ae c,o]⟩⟩,fun k=>⟨fun g c=>by rw[m,ae k,c],fun c=>by rw[m,ae k,c]⟩⟩
theorem LK.shape{done:List Tok}(H:LK u k d b y j r done e):∃a n c,r=.slice a n c:=by rcases H.own.2 with⟨l,_⟩|⟨g,cap,m,l,_⟩<;>exact⟨_,_,_,l⟩
theorem Rm(w:aaK):(binOp BinOp.eql 1 .nilFunc .nilFunc).run Tryz.prog w=.ok (.bool true) w:=by kernel_rfl
theorem NT(f:Fn)(a:Array aaL)(w:aaK):(binOp BinOp.eql 1 (.func f a #[]) .nilFunc).run Tryz.prog w=.ok (.bool false) w:=by kernel_rfl
theorem uT(H:CT u d y n r j M)(e:l.getD 2 undef=.pointer (some ⟨d,0,none⟩))(h:l.getD 3 undef=.pointer (some ⟨y,0,none⟩))(i:l.getD 4 undef=.pointer (some ⟨n,0,none⟩)):
 (results Tryz.f21 l).run Tryz.prog u=.ok (.tuple #[r,.int .i64 j,.int .i64 M]) u:=by
 have k:=aj H.r2 0;have m:=aj H.r3 0;have o:=aj H.r4 0;have a:l[2]?.getD undef=.pointer (some ⟨d,0,none⟩):=by rw[←e];simp
 have b:l[3]?.getD undef=.pointer (some ⟨y,0,none⟩):=by rw[←h];simp
 have c:l[4]?.getD undef=.pointer (some ⟨n,0,none⟩):=by rw[←i];simp
 simp[results,Tryz.results21,go_sem,a,b,c,k,m,o]
theorem jI{q c:Int}{place:Nat}(hq:q=(place:Int))(H:CT k d y n r j M)(b:Below u.heap.size u k)(a:u.heap.size≤d)(p:l.getD 2 undef=.pointer (some ⟨d,0,none⟩))(s:l.getD 3 undef=.pointer (some ⟨y,0,none⟩))(x:l.getD 4 undef=.pointer (some ⟨n,0,none⟩)):
 Leaves Tryz.prog Tryz.f21 l (tU u (.bad place c)) [{target:=.fn (.func 35) #[.pointer (some ⟨d,0,none⟩),.pointer (some ⟨y,0,none⟩),.pointer (some ⟨n,0,none⟩)],args:=#[]}] (.panicking [tS q c]) k:=by
 refine leaves_cons (f:=35) (args:=#[.pointer (some ⟨d,0,none⟩),.pointer (some ⟨y,0,none⟩),.pointer (some ⟨n,0,none⟩)]) (by simp) (by simp[go_sem]) ?_;refine(Gt d y n r j M q c k H).m ?_;rintro e z A⟨rfl,rfl,o,h⟩;have i:=uT o p s x;subst hq;simp only[settle];exact⟨_,i,b.t (h.m a),rfl⟩
theorem xp{j:Nat}(H:CT k d y n r 0 0)(c:Below u.heap.size u k)(i:mu (fun b=>u.heap.size≤b) k a r)(o:l.getD 2 undef=.pointer (some ⟨d,0,none⟩))(p:l.getD 3 undef=.pointer (some ⟨y,0,none⟩))(q:l.getD 4 undef=.pointer (some ⟨n,0,none⟩)):
 Leaves Tryz.prog Tryz.f21 l (tU u (.aq a j)) [{target:=.fn (.func 35) #[.pointer (some ⟨d,0,none⟩),.pointer (some ⟨y,0,none⟩),.pointer (some ⟨n,0,none⟩)],args:=#[]}] .returning k:=by
 refine leaves_cons (f:=35) (args:=#[.pointer (some ⟨d,0,none⟩),.pointer (some ⟨y,0,none⟩),.pointer (some ⟨n,0,none⟩)]) (by simp) (by simp[go_sem]) ?_;refine(NN d y n k).m ?_;rintro e s t⟨rfl,rfl,rfl⟩;have h:=uT H o p q;simp only[Leaves,settle];exact⟨_,h,c,_,rfl,i⟩
theorem Gn(w:aaK)(hG:GL w)(s:Bs)(Q:s.length≤1000000):
 Calls Tryz.prog 21 #[.string ⟨s.toArray⟩] w (tU w (lexB s)):=by
 have bv:∀(fn:Fn) (first cap:Array aaL) (w:aaK),(Instr.makeFunc fn first cap).run Tryz.prog w=.ok (.func fn first cap) w:=fun _ _ _ _=>rfl;have bx:=Rm;have br:=NT;obtain⟨R,hR⟩:∃R,lexB s=R:=⟨_,rfl⟩;rw[hR];have bg:=ad (show gS s (s.length+1) 0 0 none []=R from hR);clear hR
 go_enter_defers Tryz.func21,Tryz.ntmps21
 go_upto_region 3 with fail;have hA:Below w.heap.size w (((w.alloc (.cells #[.slice none 0 0] 67)).alloc (.cells #[.int .i64 0] 3)).alloc (.cells #[.int .i64 0] 38)):=
  (((ar _ _).alloc (ag _) _).alloc (by rw[aO];omega) _).alloc (by rw[aO,aO];omega) _
 have bf:(((w.alloc (.cells #[.slice none 0 0] 67)).alloc (.cells #[.int .i64 0] 3)).alloc (.cells #[.int .i64 0] 38)).heap.size=w.heap.size+1+1+1:=by simp
 have be:CT (((w.alloc (.cells #[.slice none 0 0] 67)).alloc (.cells #[.int .i64 0] 3)).alloc (.cells #[.int .i64 0] 38)) w.heap.size (w.heap.size+1) (w.heap.size+1+1) (.slice none 0 0) 0 0:=by
  have a1:=au w (.cells #[.slice none 0 0] 67);have s1:(w.alloc (.cells #[.slice none 0 0] 67)).heap.size=w.heap.size+1:=aO _ _;generalize w.alloc (.cells #[.slice none 0 0] 67)=W1 at*;have a2:=au W1 (.cells #[.int .i64 0] 3);have s2:(W1.alloc (.cells #[.int .i64 0] 3)).heap.size=w.heap.size+1+1:=by rw[aO,s1]
  have k2:Below W1.heap.size W1 (W1.alloc (.cells #[.int .i64 0] 3)):=(ar _ _).alloc (ag _) _;rw[s1] at a2;have bi:=(k2.block _ (by omega)).t a1;generalize W1.alloc (.cells #[.int .i64 0] 3)=W2 at*;have a3:=au W2 (.cells #[.int .i64 0] 38);have k3:Below W2.heap.size W2 (W2.alloc (.cells #[.int .i64 0] 38)):=(ar _ _).alloc (ag _) _;rw[s2] at a3;exact⟨(k3.block _ (by omega)).t bi,(k3.block _ (by omega)).t a2,a3,by omega,by omega⟩
 have F:=ad hA;have av:=ad be;have ay:=ad bf;clear hA be bf;generalize((w.alloc (.cells #[.slice none 0 0] 67)).alloc (.cells #[.int .i64 0] 3)).alloc (.cells #[.int .i64 0] 38)=d at*;have HG:=ad (hG.next F.o);have hB:Below d.heap.size d (d.alloc (.cells #[.string ⟨s.toArray⟩,.int .i64 0,.slice none 0 0,.int .i64 (-1)] 98)):=(ar _ _).alloc (ag _) _;have aU:=au d (.cells #[.string ⟨s.toArray⟩,.int .i64 0,.slice none 0 0,.int .i64 (-1)] 98);have a6:=ad (show LK d (d.alloc (.cells #[.string ⟨s.toArray⟩,.int .i64 0,.slice none 0 0,.int .i64 (-1)] 98)) (w.heap.size+1+1+1) s 0 (Gu none) (.slice none 0 0) [] [] from
  ⟨hB,by rw[ay.o] at aU;exact aU,jO _ _ _ _,rfl,Nat.le_of_eq ay.o,by simp[Value.ownBlock]⟩)
 clear hB aU hG;generalize d.alloc (.cells #[.string ⟨s.toArray⟩,.int .i64 0,.slice none 0 0,.int .i64 (-1)] 98)=w1 at*;have ai:=ad (show w.heap.size+1+1<d.heap.size by rw[ay.o];omega);obtain⟨p,hp⟩:∃p,w.heap.size+1+1+1=p:=⟨_,rfl⟩;rw[hp] at a6⊢;clear hp ay;go_upto_region 4 with fail
 go_loopw [6,7] (fun v6 v7 wr=>∃(f src i:Nat) (hid:Option Nat) (done:List Tok) (lv:aaL) (xs:List aaL),v6=.int .i64 (src:Int)∧Hid (gS s f src i hid done=R)∧i≤s.length∧s.length<i+f∧src≤i∧done.length≤3*i∧Hid (LK d wr p s i (Gu hid) lv done xs)) (fun _ _ wr=>s.length-j4 wr p)
 case atStart=>exact⟨s.length+1,0,0,none,[],.slice none 0 0,[],rfl,bg,by omega,by omega,by omega,by simp,a6⟩
 case round=>
  obtain⟨f,src,i,hid,done,lv,xs,rfl,a7,hi,hf,ao,bp,S⟩:=hrel;obtain⟨f,rfl⟩:∃f',f=f'+1:=⟨f-1,by omega⟩;have ap:=ad (NS a7.o);have an:=ad S.o.box.at_;obtain⟨c0,L,-,M,f1,-,-⟩:=S.o.box.lc;have i0:(0:Int)≤(i:Int):=by omega
  clear a7;by_cases al:i<s.length
  ·have r:=ad (ap.o.1 al);have aa:=ad (pS (s:=s) (hid:=hid.isSome) al);have O:=ad (fun h0=>mH (s:=s) (hid:=hid) al h0);have I:=ad (NM hid.isSome (h:=Gu hid) (by cases hid with|none=>(intro h;cases h)|some x=>(intro _;show(0:Int)≤(x:Int);omega)) (by cases hid with|none=>(intro _;decide)|some x=>(intro h;cases h)) S.o.box al Q);have i1:(i:Int)<(s.length:Int):=by omega
   have i2:(i:Int)+1≤1000001:=by omega
   obtain⟨k,hk⟩:∃k,dw (s.drop i) hid.isSome=k:=⟨_,rfl⟩;rw[hk] at r aa O I;have am:=ad hk;clear hk ap;have H:k≤4:=aa.o.2.2.2.2;have b0:=Gv s src i;obtain rfl|rfl|rfl|rfl|rfl:k=0∨k=1∨k=2∨k=3∨k=4:=by omega
   ·have V:=ad (r.o.1 rfl);have y:=ad (show Calls Tryz.prog 36 #[.pointer (some ⟨p,0,none⟩)] wr (cN wr .nilFunc) from I.o);clear I r O aa am c0 M f1;go_wp2_with fail;refine y.o.m ?_;rintro e W⟨rfl,B⟩;have a:=ad (S.o.next B);clear B y L;obtain⟨-,L,-,-,f1,-,-⟩:=a.o.box.lc;have HE:=ad (a.o.box.iD (i+1));rw[show((i+1:Nat):Int)=(i:Int)+1 by omega] at HE;have C:=ad (a.o.aN ((ak.refl p W).set (j:=1) (v:=.int .i64 ((i:Int)+1))) HE.o);go_wp2_with fail
    go_roundw
    case rel=>exact⟨f,src,i+1,hid,done,lv,xs,rfl,V,by omega,by omega,by omega,by omega,C⟩
    case measure=>(show s.length-j4 _ p<s.length-j4 wr p;rw[C.o.box.at_,an.out];omega)
   ·skip
    have y:=ad (show Calls Tryz.prog 36 #[.pointer (some ⟨p,0,none⟩)] wr (cN wr (.func (.func 71) #[.pointer (some ⟨p,0,none⟩)] #[])) from I.o);have n:=ad (r.o.2 (by decide));have G:=ad (O.o (by decide));clear I r O am c0 M f1;go_wp2_with fail;refine y.o.m ?_;rintro e W⟨rfl,B⟩;have a:=ad (S.o.next B);clear B y L;have K:=ad (oO a.o src ao hi Q (by omega));go_wp2_with fail;refine K.o.m ?_;rintro e w3⟨rfl,a4,a5,N,-⟩;have C:=ad N;clear N K a;have D:=ad (NL HG.o C.o (aa.o.1 (by trivial)) Q (by rw[bB];omega));obtain⟨T,E⟩:∃T,dB s i=T:=⟨_,rfl⟩;rw[E] at D;cases T with
    |bad q c=>obtain rfl:=n.o.1 q c (by show(match dB s i with|.bad p e=>Lx.bad p e|.aq l j=>.aq (l,hid) j)=_;rw[E]);clear E n G;go_wp2_with fail;refine(show Calls _ _ _ _ (mL d.heap.size d q c) from D.o).m ?_;rintro e w4⟨rfl,X⟩;go_wp2_with fail;exact jI rfl (av.o.next X ai.o) (F.o.t (X.m F.o.size)) (ag _) rfl rfl rfl
    |aq l j=>
     have ab:fq s 1 i hid=.aq (l,hid) j:=by show(match dB s i with|.bad p e=>Lx.bad p e|.aq l j=>.aq (l,hid) j)=_;rw[E]
     have V:=ad (n.o.2 _ _ ab);have bm:i<j∧j≤s.length:=by have:=G.o;rw[ab] at this;exact this
     have bn:=NR E;clear E n G ab;go_wp2_with fail;refine(show Calls _ _ _ _ (fun e w'=>e=.returned (.tuple #[])∧∃Y Z,LK d w' p s j (Gu hid) Y (done++dc s src i++l) Z) from D.o).m ?_;rintro e w4⟨rfl,ac,af,H⟩;have u:=ad H;clear H;obtain⟨-,L,-,-,-,-,-⟩:=u.o.box.lc;go_wp2_with fail
     go_roundw
     case rel=>exact⟨f,j,j,hid,_,ac,af,rfl,V,by omega,by omega,ag _,by rw[bB,bB];omega,u⟩
     case measure=>(show s.length-j4 _ p<s.length-j4 wr p;rw[u.o.box.at_,an.out];omega)
   ·skip
    have y:=ad (show Calls Tryz.prog 36 #[.pointer (some ⟨p,0,none⟩)] wr (cN wr (.func (.func 72) #[.pointer (some ⟨p,0,none⟩)] #[])) from I.o);have n:=ad (r.o.2 (by decide));have G:=ad (O.o (by decide));clear I r O am c0 M f1;go_wp2_with fail;refine y.o.m ?_;rintro e W⟨rfl,B⟩;have a:=ad (S.o.next B);clear B y L;have K:=ad (oO a.o src ao hi Q (by omega));go_wp2_with fail;refine K.o.m ?_;rintro e w3⟨rfl,a4,a5,N,-⟩;have C:=ad N;clear N K a;have D:=ad (KO HG.o C.o (aa.o.2.1 (by trivial)) Q (by rw[bB];omega));obtain⟨T,E⟩:∃T,de s i=T:=⟨_,rfl⟩;rw[E] at D;cases T with
    |bad q c=>obtain rfl:=n.o.1 q c (by show(match de s i with|.bad p e=>Lx.bad p e|.aq l j=>.aq (l,hid) j)=_;rw[E]);clear E n G;go_wp2_with fail;refine(show Calls _ _ _ _ (mL d.heap.size d q c) from D.o).m ?_;rintro e w4⟨rfl,X⟩;go_wp2_with fail;exact jI rfl (av.o.next X ai.o) (F.o.t (X.m F.o.size)) (ag _) rfl rfl rfl
    |aq l j=>
     have ab:fq s 2 i hid=.aq (l,hid) j:=by show(match de s i with|.bad p e=>Lx.bad p e|.aq l j=>.aq (l,hid) j)=_;rw[E]
     have V:=ad (n.o.2 _ _ ab);have bm:i<j∧j≤s.length:=by have:=G.o;rw[ab] at this;exact this
     have bn:=KP E;clear E n G ab;go_wp2_with fail;refine(show Calls _ _ _ _ (fun e w'=>e=.returned (.tuple #[])∧∃Y Z,LK d w' p s j (Gu hid) Y (done++dc s src i++l) Z) from D.o).m ?_;rintro e w4⟨rfl,ac,af,H⟩;have u:=ad H;clear H;obtain⟨-,L,-,-,-,-,-⟩:=u.o.box.lc;go_wp2_with fail
     go_roundw
     case rel=>exact⟨f,j,j,hid,_,ac,af,rfl,V,by omega,by omega,ag _,by rw[bB,bB];omega,u⟩
     case measure=>(show s.length-j4 _ p<s.length-j4 wr p;rw[u.o.box.at_,an.out];omega)
   ·skip
    have y:=ad (show Calls Tryz.prog 36 #[.pointer (some ⟨p,0,none⟩)] wr (cN wr (.func (.func 74) #[.pointer (some ⟨p,0,none⟩)] #[])) from I.o);have n:=ad (r.o.2 (by decide));have G:=ad (O.o (by decide));clear I r O am c0 M f1;go_wp2_with fail;refine y.o.m ?_;rintro e W⟨rfl,B⟩;have a:=ad (S.o.next B);clear B y L;have K:=ad (oO a.o src ao hi Q (by omega));go_wp2_with fail;refine K.o.m ?_;rintro e w3⟨rfl,a4,a5,N,-⟩;have C:=ad N;clear N K a;cases hid with
    |some x=>obtain rfl:=n.o.1 i 13 rfl;have D:=ad (DD C.o (show(0:Int)≤(x:Int) by omega));clear n G;go_wp2_with fail;refine D.o.m ?_;rintro e w4⟨rfl,bl⟩;have X:=C.o.up.t (bl.m C.o.up.size);go_wp2_with fail;exact jI rfl (av.o.next X ai.o) (F.o.t (X.m F.o.size)) (ag _) rfl rfl rfl
    |none=>
     have V:=ad (n.o.2 _ _ (show fq s 3 i none=.aq ([cS s 5 [] [] i (i+8)],some i) (i+8) from rfl));have a0:=aa.o.2.2.1 (by trivial);have D:=ad (NI C.o a0 Q (by rw[bB];omega));clear n G;go_wp2_with fail;refine(show Calls _ _ _ _ (fun e w'=>e=.returned (.tuple #[])∧∃Y Z,LK d w' p s (i+8) (Gu (some i)) Y (done++dc s src i++[cS s 5 [] [] i (i+8)]) Z) from D.o).m ?_;rintro e w4⟨rfl,ac,af,H⟩;have u:=ad H;clear H;obtain⟨-,L,-,-,-,-,-⟩:=u.o.box.lc;go_wp2_with fail
     go_roundw
     case rel=>exact⟨f,i+8,i+8,some i,_,ac,af,by go_num,V,by omega,by omega,ag _,by rw[bB,bB];simp;omega,u⟩
     case measure=>(show s.length-j4 _ p<s.length-j4 wr p;rw[u.o.box.at_,an.out];omega)
   ·skip
    have y:=ad (show Calls Tryz.prog 36 #[.pointer (some ⟨p,0,none⟩)] wr (cN wr (.func (.func 75) #[.pointer (some ⟨p,0,none⟩)] #[])) from I.o);have n:=ad (r.o.2 (by decide));have G:=ad (O.o (by decide));clear I r O am c0 M f1;go_wp2_with fail;refine y.o.m ?_;rintro e W⟨rfl,B⟩;have a:=ad (S.o.next B);clear B y L;have K:=ad (oO a.o src ao hi Q (by omega));go_wp2_with fail;refine K.o.m ?_;rintro e w3⟨rfl,a4,a5,N,-⟩;have C:=ad N;clear N K a;have V:=ad (n.o.2 _ _ (show fq s 4 i hid=.aq ([cS s 6 [] [] i (i+3)],none) (i+3) from rfl));have a0:=aa.o.2.2.2.1 (by trivial);have D:=ad (NH C.o a0 Q (by rw[bB];omega));clear n G;go_wp2_with fail;refine(show Calls _ _ _ _ (fun e w'=>e=.returned (.tuple #[])∧∃Y Z,LK d w' p s (i+3) (Gu none) Y (done++dc s src i++[cS s 6 [] [] i (i+3)]) Z) from D.o).m ?_;rintro e w4⟨rfl,ac,af,H⟩;have u:=ad H;clear H;obtain⟨-,L,-,-,-,-,-⟩:=u.o.box.lc;go_wp2_with fail
    go_roundw
    case rel=>exact⟨f,i+3,i+3,none,_,ac,af,by go_num,V,by omega,by omega,ag _,by rw[bB,bB];simp;omega,u⟩
    case measure=>(show s.length-j4 _ p<s.length-j4 wr p;rw[u.o.box.at_,an.out];omega)
  ·have bs:i=s.length:=by omega
   have r:=ad (ap.o.2 al);have i1:¬(i:Int)<(s.length:Int):=by omega
   have HC:=ad (oO S.o src ao hi Q (by omega));clear ap al;go_wp2_with fail;refine HC.o.m ?_;rintro e W⟨rfl,Y,Z,bd,-⟩;have a:=ad bd;clear bd HC c0 L M f1;obtain⟨-,-,c2,M,-,-,-⟩:=a.o.box.lc;have J:=ad (av.o.next a.o.up ai.o);cases hid with
   |some g=>
    obtain rfl:=r.o.1 g rfl;have g0:(0:Int)≤(g:Int):=by omega
    have bk:W.cell? ⟨p,3,none⟩=some (.int .i64 (g:Int)):=M;clear M r;go_wp2_with fail;refine(fE g 14 W).m ?_;rintro e w3⟨rfl,bb⟩;go_wp2_with fail;exact jI (place:=g) rfl (J.o.next bb (ej ai.o a.o.up.size)) (F.o.t ((a.o.up.t (bb.m a.o.up.size)).m F.o.size)) (ag _) rfl rfl rfl
   |none=>obtain rfl:=r.o.2 rfl;have bk:W.cell? ⟨p,3,none⟩=some (.int .i64 (-1)):=M;clear M r;obtain⟨ta,tn,tc,rfl⟩:=a.o.shape;have a8:=ad (J.o.lay (.slice ta tn tc) 0 0);have a9:=ad (J.o.Aq (.slice ta tn tc) 0 0);have bo:=J.o.lt;have d2:=aj J.o.r2 0;have d3:=aj J.o.r3 0;have d4:=aj J.o.r4 0;have e2:=aF _ _ 0 _ _ J.o.r2;have e3:=aF _ _ 0 _ _ J.o.r3;have e4:=aF _ _ 0 _ _ J.o.r4;go_wp2_with fail;have bJ:=a8.o.lt;exact xp a8.o (F.o.t ((a.o.up.m F.o.size).t a9.o)) ((NP (A:=fun b=>d.heap.size≤b) a.o.own (a.o.row.map fun l v h=>h.cO (ag _) fun b h1 _=>⟨h1.1,rfl⟩) (fun z hz=>hz)).cO a9.o.size (fun b hb _=>⟨bP F.o.size hb,J.o.NQ _ _ _ b (ej ai.o hb)⟩)) rfl rfl rfl
