/- The walk of the parser's begin. -/
import Derived.Test.YtogchgjfialleaaGreatDoorKas
set_option linter.unusedVariables false
set_option maxRecDepth 100000
set_option maxHeartbeats 4000000
namespace Go.Proofs.YtogchgjfialleaaGreatDoor
open Go.RowKit
theorem uP:∀(l:List (Option (Nat×Int))) (x:Option (Nat×Int)),fW (l++[x])=mD (fW l) x
 |[],none=>rfl
 |[],some _=>rfl
 |none::r,x=>uP r x
 |some _::_,_=>rfl
theorem Dr{b:Type}{l:List b}{f:b→Option (Nat×Int)}{i:Nat}{a:b}(h:l[i]? =some a):fW ((l.take (i+1)).map f)=mD (fW ((l.take i).map f)) (f a):=by rw[List.take_add_one,h,List.map_append];exact uP _ _
theorem xj{a:Type}{n:Nat}(l:List a)(f:a→Option (Nat×Int))(o:Option (Nat×Int))(h:l.length=n):∃F:Nat→Option (Nat×Int),F 0=o∧(∀i x,l[i]? =some x→F (i+1)=mD (F i) (f x))∧F n=mD o (fW (l.map f)):=by
 refine⟨fun i=>mD o (fW ((l.take i).map f)),xi o,fun i x b=> ?_, ?_⟩
 ·show mD o (fW ((l.take (i+1)).map f))=mD (mD o (fW ((l.take i).map f))) (f x);rw[Dr b,Ac]
 ·show mD o (fW ((l.take n).map f))=_;rw[oe (by omega)]
theorem Af:∀{l:List (Option (Nat×Int))},(∀o∈l,vX o)→vX (fW l)
 |[],_=>dI
 |none::r,h=>Af (l:=r) fun o a=>h o (bY _ a)
 |some x::r,h=>h (some x) eF
theorem BJ{W:World}{b j:Nat}{c:Array Value}{T:TypeId}{v:Value}(h:W.heap[b]? =some (.cells c T))(a:W.cell? ⟨b,j,none⟩=some v):c[j]? =some v:=by unfold World.cell? at a;rw[h] at a;exact a
theorem cg.get{W:World}{a:Option Addr}{n c i:Nat}{ls:List Bs}{x:Bs}(h:cg W (.slice a n c) ls)(j:ls[i]? =some x):∃b o,a=some ⟨b,o,none⟩∧W.cell? ⟨b,o+i,none⟩=some (.string ⟨x.toArray⟩):=by
 rcases h with⟨p,k,d,e⟩|⟨b,o,k,d,e,s,m⟩
 ·subst e;cases j
 ·injection d with l q r;exact⟨b,o,l,m i x j⟩
theorem cg.aN{W W':World}{pb:Nat}{ov:Value}{place e:Int}(u:Wd W pb ov place e)(t:∃a n c,ov=.slice a n c){v:Value}{ls:List Bs}(h:cg W v ls)(m:ak pb W W'):cg W' v ls:=by
 rcases h with h|⟨b,o,c,rfl,p,k,i⟩
 ·exact .inl h
 ·rcases ls with _|⟨w,r⟩
  ·exact .inl ⟨_,_,rfl,rfl⟩
  ·have s:b≠pb:=fun e=>by
    subst e;have d:=BJ u (i 0 w rfl);obtain⟨a,n,x,rfl⟩:=t
    match o,d with
    |0,d=>cases d
    |1,d=>cases d
    |2,d=>cases d
    |_+3,d=>simp at d
   exact .inr ⟨b,o,c,rfl,p,ej k m.size,fun j l q=>(uL (a:=⟨b,o+j,none⟩) (m.block b k (by intro e;injection e with e;exact s e))).trans (i j l q)⟩
section
variable{lo:KB}{w0 W W':World}{pb:Nat}{ov:Value}{st:List Nd}{kvs ys:List Value}{place e:Int}
def Ag(t:Tok)(nm:Bs):Option (Nat×Int):=if t.attrs.any (fun a=>a.name==nm) then none else some (t.src,12)
def Ah(ls:List Bs)(a:bQ):Option (Nat×Int):=if ls.contains a.name&&lJ a.name a.val then none else some (a.place.toNat,12)
theorem Ai(k:Int)(t:Tok):qZ k t=mD (fW (((aE k).1.take (aE k).2).map (Ag t))) (fW (t.attrs.map (Ah (aE k).1))):=rfl
theorem No(t:Tok)(nm:Bs):vX (Ag t nm):=jH dI (eZ (by decide))
theorem Np(ls:List Bs)(a:bQ):vX (Ah ls a):=jH dI (eZ (by decide))
theorem Jm{b:Type}{f:b→Option (Nat×Int)}(h:∀a,vX (f a))(l:List b):vX (fW (l.map f)):=Af fun o c=>by obtain⟨a,_,rfl⟩:=qE.1 c;exact h a
structure PT (lo:KB) (w0 W0 W:World) (pb b d:Nat) (ov:Value) (st:List Nd) (kvs ys:List Value) (o:Option (Nat×Int)) (k:Int) (ev:Value) (m:Nat) (ls:List Bs) (t:Tok) (av:Value):Prop where
 pk:PK lo w0 W pb ov st kvs ys (pE o) (eE o)
 ok:vX o
 tn:ak pb W0 W
 el:W.heap[b]? =some (.cells #[.int .i64 k,ev,.int .i64 m] 149)
 tk:W.heap[d]? =some (.cells (ei t.kind t.name av t.text t.src t.bJ).toArray 78)
 ss:cg W ev ls
 at_:aP (PL lo (pb::bM (ov::kvs))) W t.attrs av
 ne:pb<b∧pb<d
theorem PK.Wv(H:PK lo w0 W pb ov st kvs ys place e):∃a n c,ov=.slice a n c:=by obtain⟨a,c,h⟩:=aX H.own;exact⟨a,_,c,h⟩
section
variable{W0:World}{b d:Nat}{o:Option (Nat×Int)}{k:Int}{ev:Value}{m:Nat}{ls:List Bs}{t:Tok}{av:Value}
theorem PT.next(H:PT lo w0 W0 W pb b d ov st kvs ys o k ev m ls t av)(a:Below W.heap.size W W'):PT lo w0 W0 W' pb b d ov st kvs ys o k ev m ls t av:=
 ⟨H.pk.next a,H.ok,H.tn.trans (ak.ai a),(a.block _ (aB.1 H.el).1).trans H.el,(a.block _ (aB.1 H.tk).1).trans H.tk,H.ss.below a,H.at_.next a,H.ne⟩
theorem PT.aN{c:Option (Nat×Int)}(H:PT lo w0 W0 W pb b d ov st kvs ys o k ev m ls t av)(j:PK lo w0 W' pb ov st kvs ys (pE c) (eE c))(n:vX c)(a:ak pb W W'):PT lo w0 W0 W' pb b d ov st kvs ys c k ev m ls t av:=by have l:=H.ne;refine⟨j,n,H.tn.trans a,(a.block _ (aB.1 H.el).1 (by intro e;injection e with e;omega)).trans H.el,(a.block _ (aB.1 H.tk).1 (by intro e;injection e with e;omega)).trans H.tk,H.ss.aN H.pk.box H.pk.Wv a, ?_,l⟩;exact H.at_.cO a.size fun q h i=>⟨h,a.block q i (by intro e;cases e;exact h.2 eF)⟩
theorem PT.Ww(H:PT lo w0 W0 W pb b d ov st kvs ys o k ev m ls t av):PT lo w0 W0 W pb b d ov st kvs ys (mD o none) k ev m ls t av:=by rw[xi];exact H
theorem PT.c(H:PT lo w0 W0 W pb b d ov st kvs ys o k ev m ls t av):W.cell? ⟨b,1,none⟩=some ev∧W.cell? ⟨b,2,none⟩=some (.int .i64 m)∧W.cell? ⟨d,2,none⟩=some av∧W.cell? ⟨d,4,none⟩=some (.int .i64 t.src):=
 ⟨aj 1 H.el,aj 2 H.el,aj 2 H.tk,aj 4 H.tk⟩
end
theorem KG{o:Option (Nat×Int)}(ao:PK lo w0 W pb ov st kvs ys (pE o) (eE o))(ho:vX o)(q:Int){k:Int}{r:Option Addr}{l:Nat}(hs:cg W (.slice r (aE k).1.length l) (aE k).1)(Y:(aE k).2≤(aE k).1.length)(an:(aE k).1.length≤3)(am:(aE k).1.length≤l)
 {t:Tok}{ta:Option Addr}{tc:Nat}(a6:aP (PL lo (pb::bM (ov::kvs))) W t.attrs (.slice ta t.attrs.length tc))(hl:t.attrs.length≤1000000)(hp:∀a∈t.attrs,0≤a.place):
 Calls Tryz.prog 80 #[.pointer (some ⟨pb,0,none⟩),.agg #[.int .i64 q,.slice r (aE k).1.length l,.int .i64 ((aE k).2:Int)],.agg #[.int .i64 t.kind,.string ⟨t.name.toArray⟩,.slice ta t.attrs.length tc,.string ⟨t.text.toArray⟩,.int .i64 t.src,.int .i64 t.bJ]] W
  fun Q w'=>Q=.returned (.tuple #[])∧PK lo w0 w' pb ov st kvs ys (pE (mD o (qZ k t))) (eE (mD o (qZ k t)))∧ak pb W w':=by
 rw[Ai];obtain⟨ls,a8⟩:∃ls,(aE k).1=ls:=⟨_,rfl⟩;obtain⟨m,a9⟩:∃m,(aE k).2=m:=⟨_,rfl⟩;rw[a8] at hs Y an am⊢;rw[a9] at Y⊢;obtain⟨n,hn⟩:∃n,ls.length=n:=⟨_,rfl⟩;have V:Below W.heap.size W ((W.alloc (.cells #[.int .i64 q,.slice r n l,.int .i64 m] 149)).alloc (.cells (ei t.kind t.name (.slice ta t.attrs.length tc) t.text t.src t.bJ).toArray 78)):=
  ((ar _ _).alloc (ag _) _).alloc (by rw[aO];omega) _
 have a0:=ao.lt;rw[hn] at hs;have HT:Hid (PT lo w0 W _ pb W.heap.size (W.heap.size+1) ov st kvs ys o q (.slice r n l) m ls t (.slice ta t.attrs.length tc)):=ad
  ⟨ao.next V,ho,ak.ai V,jX W _ _,iT W _ _,hs.below V,a6.next V,a0,Nat.lt_succ_of_lt a0⟩
 rw[hn] at Y an am⊢;have HN:=ad hn;have HP:=ad hp;obtain⟨N,X⟩:∃N,t.attrs.length=N:=⟨_,rfl⟩;obtain⟨F,hF⟩:=xj (n:=m) (ls.take m) (Ag t) o (by rw[gu];omega);obtain⟨G,a4,a5,ay⟩:=xj t.attrs (Ah ls) (F m) X;rw[hF.2.2,Ac] at ay;have HF:=ad hF;have HG:=ad (And.intro a4 (And.intro a5 ay));obtain⟨E,hE⟩:∃E,mD o (mD (fW ((ls.take m).map (Ag t))) (fW (t.attrs.map (Ah ls))))=E:=⟨_,rfl⟩;rw[hE] at HG⊢;have i1:(m:Int)≤(l:Int):=by omega
 have i0:(0:Int)≤(m:Int):=by omega
 have HM:=ad (And.intro Y (And.intro an am));have af:=ad X;rw[X] at HT⊢;have i4:m≤3:=by omega
 rw[X] at hl;have HL:=ad hl;clear ao ho hs a6 V a0 a8 a9 hn hp Y an am X hE hF a4 a5 ay;go_enter Tryz.func80,Tryz.ntmps80;go_upto_region 1 with fail;generalize(W.alloc (.cells #[.int .i64 q,.slice r n l,.int .i64 m] 149)).alloc (.cells (ei t.kind t.name (.slice ta N tc) t.text t.src t.bJ).toArray 78)=W1 at*;generalize W.heap.size=b at*;obtain⟨u,y,z,A⟩:=HT.out.c;go_upto_region 2 with fail;have a2:Hid (PT lo w0 W W1 pb b (b+1) ov st kvs ys (F 0) q (.slice r n l) m ls t (.slice ta N tc)):=ad (by rw[HF.out.1];exact HT.out);clear HT u y z A;have bd:∀(fn:Fn) (first cap:Array Value) (w:World),(Instr.makeFunc fn first cap).run Tryz.prog w=.ok (.func fn first cap) w:=fun _ _ _ _=>rfl
 go_loopw [16] (fun J wr=>∃i:Nat,i≤m∧J=.int .i64 i∧Hid (PT lo w0 W wr pb b (b+1) ov st kvs ys (F i) q (.slice r n l) m ls t (.slice ta N tc))) (fun J _=>m-(intOf J).toNat)
 case atStart=>exact⟨0,aH _,rfl,a2⟩
 case round=>
  obtain⟨i,hi,rfl,T⟩:=hrel;clear a2;by_cases aU:i<m
  ·have i2:(i:Int)<(m:Int):=by omega
   have i3:(0:Int)≤(i:Int):=by omega
   obtain⟨x,D⟩:∃x,ls[i]? =some x:=⟨_,cA (by rw[HN.out];have:=HM.out.1;omega)⟩;have a1:=ad (HF.out.2.1 i x (by rw[List.getElem?_take_of_lt aU];exact D));obtain⟨O,R,rfl,cx⟩:=T.out.ss.get D;have hA3:Below wr.heap.size wr (wr.alloc (.cells #[.string ⟨x.toArray⟩] 9)):=(ar _ _).alloc (ag _) _;have p:=ad (T.out.next hA3);have L:=ad (au wr (.cells #[.string ⟨x.toArray⟩] 9));clear D hA3;go_upto_region 4 with fail;generalize wr.alloc (.cells #[.string ⟨x.toArray⟩] 9)=H at*;generalize wr.heap.size=ab at*;have ap:=ad (lL 126 #[.pointer (some ⟨ab,0,none⟩)] (fun a=>a.name==x) t.attrs (by rw[af.out];exact HL.out) ta tc H (fun vs w=>cP Tryz.func126 (by kernel_rfl) rfl vs w)
    (fun a _ W4 h4=>Gg x a ab W4 (aj 0 ((h4.block _ (aB.1 L.out).1).trans L.out))) _ (by rw[af.out];exact p.out.at_))
   obtain⟨d,I⟩:∃d,(t.attrs.any fun a=>a.name==x)=d:=⟨_,rfl⟩;rw[I,af.out] at ap;have K:=ad (show Ag t x=if d then none else some (t.src,12) by unfold Ag;rw[I]);obtain⟨u,y,z,A⟩:=p.out.c;clear I cx;go_wp2_with fail;refine ap.out.mono ?_;rintro e S⟨rfl,a7⟩;have M:=ad (p.out.next a7);clear a7 u y z A p ap;obtain⟨u,y,z,A⟩:=M.out.c;rcases d with _|_
   ·have ac:=ad (iK M.out.pk M.out.ok t.src 12);go_wp2_with fail;refine ac.out.mono ?_;rintro Q Z⟨rfl,B,C⟩;have s:Hid (PT lo w0 W Z pb b (b+1) ov st kvs ys (F (i+1)) q (.slice (some ⟨O,R,none⟩) n l) m ls t (.slice ta N tc)):=ad (by rw[a1.out,K.out];exact M.out.aN B (nv M.out.ok (eZ (by decide))) C);clear B C;go_wp2_with fail
    go_roundw
    case rel=>exact⟨i+1,by omega,by go_num,s⟩
    case measure=>(simp[intOf]<;>omega)
   ·have s:Hid (PT lo w0 W S pb b (b+1) ov st kvs ys (F (i+1)) q (.slice (some ⟨O,R,none⟩) n l) m ls t (.slice ta N tc)):=ad (by rw[a1.out,K.out];exact M.out.Ww);go_wp2_with fail
    go_roundw
    case rel=>exact⟨i+1,by omega,by go_num,s⟩
    case measure=>(simp[intOf]<;>omega)
  ·obtain rfl:i=m:=by omega
   have a3:Hid (PT lo w0 W wr pb b (b+1) ov st kvs ys (G 0) q (.slice r n l) i ls t (.slice ta N tc)):=ad (by rw[HG.out.1];exact T.out);obtain⟨u,y,z,A⟩:=T.out.c;clear T HF hi;go_upto_region 8 with fail;clear u y z A i0 i1
   go_loopw [33] (fun J wr=>∃j:Nat,j≤N∧J=.int .i64 j∧Hid (PT lo w0 W wr pb b (b+1) ov st kvs ys (G j) q (.slice r n l) i ls t (.slice ta N tc))) (fun J _=>N-(intOf J).toNat)
   case atStart=>exact⟨0,aH _,rfl,a3⟩
   case round=>
    obtain⟨j,hj,rfl,al⟩:=hrel;clear a3;by_cases aU:j<N
    ·have i2:(j:Int)<(N:Int):=by omega
     have i3:(0:Int)≤(j:Int):=by omega
     obtain⟨x,D⟩:∃x,t.attrs[j]? =some x:=⟨_,cA (by rw[af.out];exact aU)⟩;have aq:=ad (HG.out.2.1 j x D);have bb:=ad (Int.toNat_of_nonneg (HP.out x (eQ D)));obtain⟨O,R,rfl,-,-,-,hc⟩:=al.out.at_.get D;obtain⟨x0,x1,x2⟩:=hc ⟨wr,ar _ _⟩;dsimp only at x0 x1 x2;have hA3:Below wr.heap.size wr (wr.alloc (.cells (BF x).toArray 124)):=(ar _ _).alloc (ag _) _;have p:=ad (al.out.next hA3);have L:=ad (au wr (.cells (BF x).toArray 124));clear D hA3 hc;go_upto_region 10 with fail;generalize wr.alloc (.cells (BF x).toArray 124)=H at*;generalize wr.heap.size=ab at*;have aa:=ad (tP H _ ls x.name p.out.ss (by rw[HN.out];have:=HM.out;omega));have av:=ad (Kz H x.name x.val);obtain⟨d,I⟩:∃d,ls.contains x.name=d:=⟨_,rfl⟩;obtain⟨v,hv⟩:∃v,lJ x.name x.val=v:=⟨_,rfl⟩;rw[I] at aa;rw[hv] at av;have K:=ad (show Ah ls x=if(d&&v) then none else some (x.place.toNat,12) by unfold Ah;rw[I,hv]);have ac:Hid (Calls Tryz.prog 77 #[.pointer (some ⟨pb,0,none⟩),.int .i64 x.place,.int .i64 12] H fun Q w'=>Q=.returned (.tuple #[])∧PK lo w0 w' pb ov st kvs ys (pE (mD (G j) (some (x.place.toNat,12)))) (eE (mD (G j) (some (x.place.toNat,12))))∧ak pb H w'):=
      ad (by have h:=iK p.out.pk p.out.ok x.place.toNat 12;rw[bb.out] at h;exact h)
     obtain⟨u,y,z,A⟩:=p.out.c;have y0:=aj 0 L.out;have y1:=aj 1 L.out;have y2:=aj 2 L.out;clear I hv x0 x1 x2;rcases d with _|_
     ·go_wp2_with fail;refine aa.out.mono ?_;rintro e S⟨rfl,rfl⟩;go_wp2_with fail;refine ac.out.mono ?_;rintro Q Z⟨rfl,B,C⟩;have s:Hid (PT lo w0 W Z pb b (b+1) ov st kvs ys (G (j+1)) q (.slice r n l) i ls t (.slice (some ⟨O,R,none⟩) N tc)):=ad (by rw[aq.out,K.out];exact p.out.aN B (nv p.out.ok (eZ (by decide))) C);clear B C y0 y1 y2 u y z A;go_wp2_with fail
      go_roundw
      case rel=>exact⟨j+1,by omega,by go_num,s⟩
      case measure=>(simp[intOf]<;>omega)
     ·rcases v with _|_
      ·go_wp2_with fail;refine aa.out.mono ?_;rintro e S⟨rfl,rfl⟩;go_wp2_with fail;refine av.out.mono ?_;rintro e S⟨rfl,rfl⟩;go_wp2_with fail;refine ac.out.mono ?_;rintro Q Z⟨rfl,B,C⟩;have s:Hid (PT lo w0 W Z pb b (b+1) ov st kvs ys (G (j+1)) q (.slice r n l) i ls t (.slice (some ⟨O,R,none⟩) N tc)):=ad (by rw[aq.out,K.out];exact p.out.aN B (nv p.out.ok (eZ (by decide))) C);clear B C y0 y1 y2 u y z A;go_wp2_with fail
       go_roundw
       case rel=>exact⟨j+1,by omega,by go_num,s⟩
       case measure=>(simp[intOf]<;>omega)
      ·have s:Hid (PT lo w0 W H pb b (b+1) ov st kvs ys (G (j+1)) q (.slice r n l) i ls t (.slice (some ⟨O,R,none⟩) N tc)):=ad (by rw[aq.out,K.out];exact p.out.Ww);go_wp2_with fail;refine aa.out.mono ?_;rintro e S⟨rfl,rfl⟩;go_wp2_with fail;refine av.out.mono ?_;rintro e S⟨rfl,rfl⟩;go_wp2_with fail
       go_roundw
       case rel=>exact⟨j+1,by omega,by go_num,s⟩
       case measure=>(simp[intOf]<;>omega)
    ·obtain rfl:j=N:=by omega
     have HE:Hid (PK lo w0 wr pb ov st kvs ys (pE E) (eE E)∧ak pb W wr):=ad ⟨by rw[←HG.out.2.2];exact al.out.pk,al.out.tn⟩;go_wp2_with fail
     go_end0
     exact⟨rfl,HE.out⟩
end
theorem Gi(k:Int):(aE k).2≤(aE k).1.length∧(aE k).1.length≤3:=by
 unfold aE
 repeat' split
 all_goals decide
theorem cg.Wv{W:World}{v:Value}{ls:List Bs}(h:cg W v ls):∃a c,v=.slice a ls.length c∧ls.length≤c:=by
 rcases h with⟨a,c,rfl,rfl⟩|⟨b,o,c,rfl,d,_⟩
 ·exact⟨a,c,rfl,aH _⟩
 ·exact⟨_,c,rfl,d⟩
def uQ(t:Tok):Bool:=decide (kindOf t.name=3∨kindOf t.name=6)
def Q2(y:Nd)(t:Tok):Option (Nat×Int):=if(uQ t !=decide (t.kind=3))|| !oy y (kindOf t.name) then some (t.src,13) else none
theorem Aj(k:Int)(t:Tok):vX (qZ k t):=by rw[Ai];exact nv (Jm (No t) _) (Jm (Np _) _)
def Nq(y:Nd)(n:Nat)(t:Tok):Option (Nat×Int):=mD (mD (Q2 y t) (if 16<n+1 then some (t.src,3) else none)) (qZ (kindOf t.name) t)
def KH(l:List Nd)(y:Nd)(t:Tok):List Nd:=if uQ t then l++[fV y (.mk (kindOf t.name) t.src [] t.attrs [])] else l++[y]++[.mk (kindOf t.name) t.src [] t.attrs []]
section
variable{lo:KB}{w0 W W':World}{pb:Nat}{ov:Value}{st:List Nd}{kvs ys:List Value}{place e:Int}
theorem KI{l:List Nd}{y:Nd}(ac:PK lo w0 W pb ov (l++[y]) kvs ys 0 0)(hl:l.length≤100)(hk:y.kids.length≤1000000){t:Tok}{ta:Option Addr}{tc:Nat}(bv:aP (PL lo (pb::bM (ov::kvs))) W t.attrs (.slice ta t.attrs.length tc))(b1:t.attrs.length≤1000000)(hp:∀a∈t.attrs,0≤a.place):
 Calls Tryz.prog 41 #[.pointer (some ⟨pb,0,none⟩),.agg #[.int .i64 t.kind,.string ⟨t.name.toArray⟩,.slice ta t.attrs.length tc,.string ⟨t.text.toArray⟩,.int .i64 t.src,.int .i64 t.bJ]] W
  fun D w'=>D=.returned (.tuple #[])∧gV lo w0 w' pb (KH l y t) (pE (Nq y l.length t)) (eE (Nq y l.length t)):=by
 obtain⟨g,cap,-,-,-,-,-,-,ho,-⟩:=ac.oM;have hA:Below W.heap.size W (W.alloc (.cells (ei t.kind t.name (.slice ta t.attrs.length tc) t.text t.src t.bJ).toArray 78)):=(ar _ _).alloc (ag _) _;have HK:Hid (PK lo w0 _ pb ov (l++[y]) kvs ys (pE none) (eE none)):=ad (ac.next hA);have HA:=ad (bv.next hA);have HR:=ad (au W (.cells (ei t.kind t.name (.slice ta t.attrs.length tc) t.text t.src t.bJ).toArray 78));have V:=ad ho;have b2:=ac.lt;have HP:=ad b2;have HG:=ad (show g<W.heap.size from(ac.own.lt g (by rw[ho];rfl)).2);obtain⟨S,hS⟩:∃S,KH l y t=S:=⟨_,rfl⟩;obtain⟨E,hE⟩:∃E,Nq y l.length t=E:=⟨_,rfl⟩;rw[hS,hE];have HS:=ad hS;have HE:=ad hE;have J:=ad (And.intro hl (And.intro hk (And.intro b1 hp)));have a8:=ad (fun w=>Nh w t.name);obtain⟨k,aq⟩:∃k,kindOf t.name=k:=⟨_,rfl⟩;have ay:=ad aq;rw[aq] at a8;have am:=ad (show uQ t=decide (k=3∨k=6) by unfold uQ;rw[aq]);have M:=ad (show Q2 y t=if(uQ t !=decide (t.kind=3))|| !oy y k then some (t.src,13) else none by unfold Q2;rw[aq]);obtain⟨N,hN⟩:∃N,t.attrs.length=N:=⟨_,rfl⟩;have al:=ad hN;rw[hN] at HK HA HR⊢;clear ac ho bv hA b2 hl hk b1 hp hS hE aq hN;go_enter Tryz.func41,Tryz.ntmps41;go_upto_region 1 with fail;generalize W.alloc (.cells (ei t.kind t.name (.slice ta N tc) t.text t.src t.bJ).toArray 78)=G at*;generalize W.heap.size=d at*;have c1:=aj 1 HR.out;go_wp2_with fail;refine(a8.out G).mono ?_;rintro D w2⟨a1,ev,rfl,bm⟩;obtain⟨B,C,rfl,bx⟩:=bm.Wv;have hA3:Below w2.heap.size w2 (w2.alloc (.cells #[.int .i64 k,.slice B (aE k).1.length C,.int .i64 ((aE k).2:Int)] 149)):=(ar _ _).alloc (ag _) _;have an:=a1.trans (hA3.mono a1.size);have i:Hid (PT lo w0 G _ pb w2.heap.size d ov (l++[y]) kvs ys none k (.slice B (aE k).1.length C) (aE k).2 (aE k).1 t (.slice ta N tc)):=ad
  ⟨HK.out.next an,dI,ak.ai an,au _ _,(an.block _ (aB.1 HR.out).1).trans HR.out,bm.below hA3,HA.out.next an,by have:=HK.out.lt;have:=a1.size;omega,HP.out⟩
 clear a1 an hA3 bm c1 HK HR a8 HA;have a4:=ad (Gi k);have bp:=ad bx;clear bx;obtain⟨u,bg⟩:∃u,uQ t=u:=⟨_,rfl⟩;rw[bg] at am M;have a6:=ad bg;clear bg;go_upto_region 2 with fail;generalize w2.alloc (.cells #[.int .i64 k,.slice B (aE k).1.length C,.int .i64 ((aE k).2:Int)] 149)=W3 at*;generalize w2.heap.size=b at*;have X:=aj 0 i.out.el
 go_cut [5] (fun s wx=>s=.bool u∧Hid (PT lo w0 G wx pb b d ov (l++[y]) kvs ys none k (.slice B (aE k).1.length C) (aE k).2 (aE k).1 t (.slice ta N tc)))
 case first=>
  by_cases m:k=3
  ·have H:=ad (show u=true by rw[am.out];simp[m]);have q3:=jY m;clear m;go_wp2_with fail
   go_meet
   exact⟨by rw[H.out],i⟩
  ·by_cases h6:k=6
   ·have H:=ad (show u=true by rw[am.out];simp[h6]);have q3:=eS m;have q6:=jY h6;clear m h6;go_wp2_with fail
    go_meet
    exact⟨by rw[H.out],i⟩
   ·have H:=ad (show u=false by rw[am.out];simp[m,h6]);have q3:=eS m;have q6:=eS h6;clear m h6;go_wp2_with fail
    go_meet
    exact⟨by rw[H.out],i⟩
 case rest=>
  clear i X am;obtain⟨rfl,i⟩:=hcut;have X:=aj 0 i.out.el;have x0:=aj 0 i.out.tk;obtain⟨R,hR⟩:∃R,oy y k=R:=⟨_,rfl⟩;rw[hR] at M;have HM:=ad (Jj i.out.pk (by have:=J.out.1;omega) (by have:=J.out.2.1;omega) k);rw[hR] at HM;clear hR;obtain⟨o1,bk⟩:∃o,Q2 y t=o:=⟨_,rfl⟩;rw[bk] at M;have bs:=ad bk;have a9:Hid (vX o1):=ad (by rw[M.out];exact jH (eZ (by decide)) dI);clear bk;obtain⟨r,bf⟩:∃r,((u !=decide (t.kind=3))|| !R)=r:=⟨_,rfl⟩;rw[bf] at M;have af:=ad bf;clear bf;go_upto_region 3 with fail
  go_cut [29] (fun s wx=>s=.bool r∧Hid (PT lo w0 G wx pb b d ov (l++[y]) kvs ys none k (.slice B (aE k).1.length C) (aE k).2 (aE k).1 t (.slice ta N tc)))
  case first=>
   by_cases m:t.kind=3
   ·have q:=ad (show((u !=true)|| !R)=r by rw[←af.out];simp[m]);have q3:=jY m;clear m af;cases u
    ·have T:=ad (show r=true by rw[←q.out];rfl);clear q;go_wp2_with fail
     go_meet
     exact⟨by rw[T.out],i⟩
    ·have T:=ad (show r= !R by rw[←q.out];rfl);clear q;go_wp2_with fail;refine HM.out.mono ?_;rintro D w4⟨rfl,ao⟩;have A:=ad (i.out.next ao);clear ao;go_wp2_with fail
     go_meet
     exact⟨by rw[T.out],A⟩
   ·have q:=ad (show((u !=false)|| !R)=r by rw[←af.out];simp[m]);have q3:=eS m;clear m af;cases u
    ·have T:=ad (show r= !R by rw[←q.out];rfl);clear q;go_wp2_with fail;refine HM.out.mono ?_;rintro D w4⟨rfl,ao⟩;have A:=ad (i.out.next ao);clear ao;go_wp2_with fail
     go_meet
     exact⟨by rw[T.out],A⟩
    ·have T:=ad (show r=true by rw[←q.out];rfl);clear q;go_wp2_with fail
     go_meet
     exact⟨by rw[T.out],i⟩
  case rest=>
   clear i X x0 af HM;obtain⟨rfl,i⟩:=hcut
   go_upto_if 29 with fail
   go_cut [] (fun wx=>Hid (PT lo w0 G wx pb b d ov (l++[y]) kvs ys o1 k (.slice B (aE k).1.length C) (aE k).2 (aE k).1 t (.slice ta N tc)))
   case first=>
    cases r
    ·have A:Hid (PT lo w0 G _ pb b d ov (l++[y]) kvs ys o1 k (.slice B (aE k).1.length C) (aE k).2 (aE k).1 t (.slice ta N tc)):=ad (by rw[M.out];exact i.out);go_wp2_with fail
     go_meet
     exact A
    ·have HF:=ad (iK i.out.pk i.out.ok t.src 13);obtain⟨-,-,-,x4⟩:=i.out.c;go_wp2_with fail;refine HF.out.mono ?_;rintro D w4⟨rfl,ap,av⟩;have A:Hid (PT lo w0 G w4 pb b d ov (l++[y]) kvs ys o1 k (.slice B (aE k).1.length C) (aE k).2 (aE k).1 t (.slice ta N tc)):=ad (i.out.aN (by rw[M.out];exact ap) a9.out av);clear ap av x4;go_wp2_with fail
     go_meet
     exact A
   case rest=>
    clear i M;have i:=hcut;clear hcut;obtain⟨o2,a3⟩:∃o,mD o1 (if 16<l.length+1 then some (t.src,(3:Int)) else none)=o:=⟨_,rfl⟩;obtain⟨L,hL⟩:∃L,l.length+1=L:=⟨_,rfl⟩;rw[hL] at a3 V;have aU:=ad a3;have br:=ad hL;have bb:Hid (vX o2):=ad (by rw[←a3];exact nv a9.out (jH (eZ (by decide)) dI));have j1:L≤1000:=by have:=J.out.1;omega
    have Q:=i.out.pk.box.c.c0;rw[V.out] at Q;clear hL a3
    go_upto_if 39 with fail
    go_cut [] (fun wx=>Hid (PT lo w0 G wx pb b d ov (l++[y]) kvs ys o2 k (.slice B (aE k).1.length C) (aE k).2 (aE k).1 t (.slice ta N tc)))
    case first=>
     by_cases hd:16<L
     ·have i4:(16:Int)<(L:Int):=by omega
      have HF:=ad (iK i.out.pk i.out.ok t.src 3);obtain⟨-,-,-,x4⟩:=i.out.c;have q:=ad ((congrArg (mD o1) (ah hd)).symm.trans aU.out);clear hd;go_wp2_with fail;refine HF.out.mono ?_;rintro D w4⟨rfl,ap,av⟩;have A:Hid (PT lo w0 G w4 pb b d ov (l++[y]) kvs ys o2 k (.slice B (aE k).1.length C) (aE k).2 (aE k).1 t (.slice ta N tc)):=ad (i.out.aN (by rw[←q.out];exact ap) bb.out av);clear ap av x4 Q;go_wp2_with fail
      go_meet
      exact A
     ·have i4:¬(16:Int)<(L:Int):=by omega
      have q:=ad ((congrArg (mD o1) (ae hd)).symm.trans aU.out);have A:Hid (PT lo w0 G _ pb b d ov (l++[y]) kvs ys o2 k (.slice B (aE k).1.length C) (aE k).2 (aE k).1 t (.slice ta N tc)):=ad (by rw[←q.out];exact i.out.Ww);clear hd;go_wp2_with fail
      go_meet
      exact A
    case rest=>
     clear i Q;have i:=hcut;clear hcut;have H:=ad (show mD o2 (qZ k t)=E by rw[←HE.out,Nq,bs.out,ay.out,br.out,aU.out]);have a5:=ad (KG (k:=k) i.out.pk i.out.ok k i.out.ss a4.out.1 a4.out.2 bp.out (ta:=ta) (tc:=tc) (by rw[al.out];exact i.out.at_) J.out.2.2.1 J.out.2.2.2);rw[al.out,H.out] at a5;go_upto_region 7 with fail;have a2:=i.out.el;have Y:=i.out.tk;have X:=aj 0 a2;have r:=aj 1 a2;have e2:=aj 2 a2;have x0:=aj 0 Y;have x1:=aj 1 Y;have x2:=aj 2 Y;have x3:=aj 3 Y;have x4:=aj 4 Y;have x5:=aj 5 Y;clear a2 Y;go_wp2_with fail;refine a5.out.mono ?_;rintro D Z⟨rfl,b0,b3⟩;have ab:=ad (i.out.aN b0 (by rw[←H.out];exact nv bb.out (Aj k t)) b3);clear b0 b3 X r e2 x0 x1 x2 x3 x4 x5 a5 i;have X:=aj 0 ab.out.el;obtain⟨-,-,x2,x4⟩:=ab.out.c;go_upto_region 9 with fail;clear X x2 x4;have hA6:Below Z.heap.size Z (Z.alloc (.cells (eH k t.src [] (.slice ta N tc) (.slice none 0 0)).toArray 45)):=(ar _ _).alloc (ag _) _;have F:=ad (ab.out.pk.next hA6);have bn:=ad (ab.out.at_.next hA6);have aa:=ad (au Z (.cells (eH k t.src [] (.slice ta N tc) (.slice none 0 0)).toArray 45));have b5:=ad (show g<Z.heap.size from(ab.out.pk.own.lt g (by rw[V.out];rfl)).2);clear hA6 ab;have a7:=ad (show(l++[y]).length=L by simp[br.out]);generalize Z.alloc (.cells #[.int .i64 k,.int .i64 t.src,.string ⟨#[]⟩,.slice ta N tc,.slice none 0 0] 45)=j at*;generalize Z.heap.size=x at*;have n0:j.cell? ⟨x,0,none⟩=some (.int .i64 k):=aj 0 aa.out;have n1:j.cell? ⟨x,1,none⟩=some (.int .i64 t.src):=aj 1 aa.out;have n2:j.cell? ⟨x,2,none⟩=some (.string ⟨#[]⟩):=aj 2 aa.out;have n3:j.cell? ⟨x,3,none⟩=some (.slice ta N tc):=aj 3 aa.out;have n4:j.cell? ⟨x,4,none⟩=some (.slice none 0 0):=aj 4 aa.out;cases u
     ·have a0:=ad (show l++[y]++[.mk k t.src [] t.attrs []]=S by rw[←HS.out,KH,a6.out,ay.out];rfl);have Q:=F.out.box.c.c0;have b9:=F.out.box.c.f0;rw[V.out] at Q;have i2:(0:Int)≤(L:Int):=by omega
      have i3:(L:Int)<(L:Int)+1:=by omega
      have bd:=ad F.out.own;rw[a7.out,V.out] at bd;have HZ:=ad (a7.out▸F.out.Ge.len.2:ys.length=L*5);obtain⟨m1,-,-⟩:=F.out.apart V.out;have K:Hid (some pb≠(Value.slice (some ⟨g,0,none⟩) L cap).ownBlock∧some x≠(Value.slice (some ⟨g,0,none⟩) L cap).ownBlock):=ad ⟨fun e=>by injection e with e;exact m1 e,fun e=>absurd (iS e:x=g) (Nat.ne_of_gt b5.out)⟩;have b6:=ad (And.intro F.out.lt (And.intro (aB.1 aa.out).1 (bd.out.lt g rfl).2));have b7:∀O,(j.alloc O).cell? ⟨pb,0,none⟩=some (.slice (some ⟨g,0,none⟩) L cap):=fun O=>aI Q O;have cc:∀O,(j.alloc O).cell? ⟨x,0,none⟩=some (.int .i64 k):=fun O=>aI n0 O;have cd:∀O,(j.alloc O).cell? ⟨x,1,none⟩=some (.int .i64 t.src):=fun O=>aI n1 O;have ce:∀O,(j.alloc O).cell? ⟨x,2,none⟩=some (.string ⟨#[]⟩):=fun O=>aI n2 O;have ch:∀O,(j.alloc O).cell? ⟨x,3,none⟩=some (.slice ta N tc):=fun O=>aI n3 O;have ci:∀O,(j.alloc O).cell? ⟨x,4,none⟩=some (.slice none 0 0):=fun O=>aI n4 O;clear m1 HE bs a9 aU bb H a4 bp HS ay a6 HP HG J;go_upto_region 11 with fail;go_region_law
       (refine gM (by rfl) _ _ 43 (by rfl) 45 (.agg #[.int .i64 0,.int .i64 0,.string ⟨#[]⟩,.slice none 0 0,.slice none 0 0]) 5 80 BG Ji (by rfl) (by decide) w0.heap.size j.drew (.slice (some ⟨g,0,none⟩) L cap) L ys (by rfl) (cp bd.out (ax j 1)) (eH 0 0 [] (.slice none 0 0) (.slice none 0 0)) (by rfl) (by rfl) (by rfl) (by simp[Value.oneCell']) (by omega) (by omega) (by exact F.out.up.size) ?_;intro g2 cx w7 bl I bi;have b8:=I.cell (aI (W:=j.drew) Q _) K.out.1;have ca:w7.frozen? ⟨pb,0,none⟩=false:=Ad (n:=0) F.out.box I K.out.1;have ck:=I.cell (aI (W:=j.drew) n0 _) K.out.2;have cl:=I.cell (aI (W:=j.drew) n1 _) K.out.2;have cn:=I.cell (aI (W:=j.drew) n2 _) K.out.2;have co:=I.cell (aI (W:=j.drew) n3 _) K.out.2;have cs:=I.cell (aI (W:=j.drew) n4 _) K.out.2;obtain⟨⟨z0,z1,z2,z3,z4⟩,zf⟩:=Dq bl HZ.out;obtain⟨m1,m2,m3,m4⟩:=Jk b6.out K.out bi;have be:=ad (Ae (k:=k) (p:=t.src) (QM:=t.attrs) (a:=ta) (c:=tc) (n:=N) F.out a7.out V.out al.out bn.out bl I bi);clear bl I bi)
      all_goals
       clear b8 ca ck cl cn co cs z0 z1 z2 z3 z4 zf m1 m2 m3 m4 Q b9 n0 n1 n2 n3 n4 b7 cc cd ce ch ci;rw[a0.out] at be
       go_end0
       first
        |with_reducible exact ⟨rfl,be.out.1⟩
        |with_reducible exact ⟨rfl,be.out.2⟩
     ·have a0:=ad (show l++[fV y (.mk k t.src [] t.attrs [])]=S by rw[←HS.out,KH,a6.out,ay.out];rfl);have bo:=ad (BH (z:=.mk k t.src [] t.attrs []) (za:=ta) (zc:=tc) (zb:=none) (zn:=0) (zd:=0) F.out (by have:=J.out.1;omega) (by have:=J.out.2.1;omega) (mJ.2 ⟨_,_,rfl,by show aP _ _ t.attrs (.slice ta t.attrs.length tc);rw[al.out];exact bn.out,.inl ⟨rfl,none,0,rfl⟩⟩));have b4:Hid (Calls Tryz.prog 75 #[.pointer (some ⟨pb,0,none⟩),.agg #[.int .i64 k,.int .i64 t.src,.string ⟨#[]⟩,.slice ta N tc,.slice none 0 0]] j fun D w'=>D=.returned (.tuple #[])∧gV lo w0 w' pb S (pE E) (eE E)):=ad (by have h:=bo.out;rw[show(Nd.mk k t.src [] t.attrs []).attrs.length=N from al.out,a0.out] at h;refine h.mono ?_;rintro D w'⟨h1,cb,ct,h2⟩;exact⟨h1,ov,cb,ct,h2⟩)
      clear bo a0;go_wp2_with fail;refine b4.out.mono ?_;rintro D w7⟨rfl,h7⟩;have H7:=ad h7;clear h7;go_wp2_with fail
      go_end0
      exact⟨rfl,H7.out⟩
end
