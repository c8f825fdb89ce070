/- An address opened. -/
import Derived.Test.YtlemddnecmmfgaaGreatDoorJay
set_option linter.unusedVariables false
set_option maxRecDepth 100000
set_option maxHeartbeats 4000000
namespace Go.Proofs.YtlemddnecmmfgaaGreatDoor
open Go.RowKit
theorem Qj(r:Bs):(r.contains 47=false→lead (·!=47) r=r.length)∧
 (⟨r.toArray⟩:aaM).extract 0 (lead (·!=47) r)=⟨(r.takeWhile (·!=47)).toArray⟩∧(⟨r.toArray⟩:aaM).extract (lead (·!=47) r) r.length=⟨(r.dropWhile (·!=47)).toArray⟩∧lead (·!=47) r≤r.length:=by
 refine⟨?_,dU (by rw[cf,←cU];simp),dU (by rw[cf,←cz];exact oe (by simp)),iV _ _⟩;intro h;have a:=ld 47 r h;unfold upto at a;unfold lead;rw[a]
theorem IV(r:Bs):(r.contains 47=false→r.dropWhile (·!=47)=[])∧(r.contains 47=true→r.dropWhile (·!=47)≠[]):=by
 constructor
 ·intro h;have a:=ld 47 r h;unfold upto at a;have b:lead (·!=47) r=r.length:=by unfold lead;rw[a]
  rw[←cz,b,List.drop_length]
 ·intro h e;have:=kx 47 r h;rw[←cz] at e;have:=congrArg List.length e;rw[bK] at this;simp at this;omega
theorem A2(s:aaM)(w:aaK)(hg:GX w)(hs:s.size≤100000000):
 Calls Tryz.prog 96 #[.string s] w (cN w (dE (cZ s.data.toList))):=by
 have HG:=ad hg;clear hg;by_cases hl:s.size≤1024
 ·have br:(s.size:Int)≤1024:=by omega
  have HP:=ad (U7 w);have HE:=ad (Fz (s:=s.data.toList) (by rw[bj];exact hl));go_enter Tryz.func96,Tryz.ntmps96;go_wp2_with fail;generalize(w.alloc (.cells #[.string ⟨#[]⟩,.string ⟨#[]⟩,.int .i64 0,.string ⟨#[]⟩,.string ⟨#[]⟩,.bool false] 23)).alloc (.cells #[.string ⟨#[]⟩,.string ⟨#[]⟩,.int .i64 0,.string ⟨#[]⟩,.string ⟨#[]⟩,.bool false] 23)=W0 at*;refine(JK s ⟨#[58,47,47]⟩ W0 (HG.o.next HP.o.below).aq (by omega)).m ?_;rintro e w1⟨rfl,a5⟩;have aU:=ad (HP.o.next a5);have a2:LF s.data.toList=⟨(Lib.cut s.data.toList fN).1,(upto 63 (Lib.cut s.data.toList fN).2.1).takeWhile (·!=47),0,if(upto 63 (Lib.cut s.data.toList fN).2.1).dropWhile (·!=47)=[] then[47] else(upto 63 (Lib.cut s.data.toList fN).2.1).dropWhile (·!=47),past 63 (Lib.cut s.data.toList fN).2.1,(Lib.cut s.data.toList fN).2.1.contains 63⟩:=rfl;have bb:(⟨#[58,47,47]⟩:aaM).data.toList=fN:=rfl;rw[bb];have a9:(Lib.cut s.data.toList fN).1.length≤1024∧(Lib.cut s.data.toList fN).2.1.length≤1024:=SV _ _ (by rw[bj];exact hl);generalize Lib.cut s.data.toList fN=ct at*;obtain⟨u,t,fd⟩:=ct;simp only at a2 a9;have HR:=ad a2;clear a2 bb a5 HP;obtain⟨b2,b3⟩:=a9;have b1:=aU.o.box.full;obtain⟨z,y,A,B,C,D⟩:=b1.c;have f0:=b1.f0;clear b1 y A B C D;go_wp2_with fail;have a0:=ad (aU.o.s0 u);generalize w1.setCell ⟨w.heap.size+1,0,none⟩ (.string ⟨u.toArray⟩)=W2 at*;clear z f0 aU;refine(fI ⟨t.toArray⟩ 63 W2 (HG.o.next a0.o.below).aq (by show t.length<_;omega)).m ?_;rintro e w3⟨rfl,a7⟩;have a1:=ad (a0.o.next a7);rw[show(⟨t.toArray⟩:aaM).data.toList=t from rfl,show hasB 63 t=t.contains 63 from rfl];have ca:=oZ 63 t;have b8:=ij 63 t;generalize upto 63 t=r at*;generalize past 63 t=q at*;generalize t.contains 63=hq at*;clear a7 a0;have b1:=a1.o.box.full;obtain⟨z,y,A,B,C,D⟩:=b1.c;have f4:=b1.f4;have f5:=b1.f5;clear b1 z y A B;go_wp2_with fail;have ao:=ad ((a1.o.s4 q).s5 hq);generalize(w3.setCell ⟨w.heap.size+1,4,none⟩ (.string ⟨q.toArray⟩)).setCell ⟨w.heap.size+1,5,none⟩ (.bool hq)=W4 at*;clear C D f4 f5 a1;refine(eO ⟨r.toArray⟩ 47 W4).m ?_;rintro e w5⟨rfl,rfl⟩;rw[show(⟨r.toArray⟩:aaM).data.toList=r from rfl];have HX:=ad (Qj r);have bl:=ad (IV r);generalize hh:r.takeWhile (·!=47)=h at*;generalize hp:r.dropWhile (·!=47)=P at*;have b4:h.length≤1024:=by have:=iV (·!=47) r;unfold lead at this;rw[hh] at this;omega
  have bp:P.length≤1024:=by have:=cB (·!=47) r;rw[hp] at this;omega
  clear hh hp;have b1:=ao.o.box.full;obtain⟨z,y,A,B,C,D⟩:=b1.c;have f1:=b1.f1;have f3:=b1.f3;clear b1 z A C D;obtain⟨path,ay⟩:∃path,(if P=[] then[47] else P)=path:=⟨_,rfl⟩;have b7:path.length≤1024:=by
   rw[←ay];by_cases e:P=[]
   ·rw[ah e];decide
   ·rw[ae e];exact bp
  rw[ay] at HR;generalize hL:lead (·!=47) r=ab at*;clear hL;obtain⟨av,al⟩:∃av:Int,(if r.contains 47=true then(ab:Int) else-1)=av:=⟨_,rfl⟩;rw[al];have a3:=ad (show(av<0∧ab=r.length)∨av=(ab:Int) by
   cases hr:r.contains 47
   ·rw[hr] at al;exact .inl ⟨by rw[←al];simp,HX.o.1 hr⟩
   ·rw[hr,ah rfl] at al;exact .inr al.symm)
  clear al
  go_upto_if 35 with fail
  go_cut [6] (fun s6 wx=>W4=wx∧s6=.int .i64 (ab:Int))
  case first=>
   rcases a3.o with⟨z1,bn⟩|rfl
   ·go_wp2_with fail
    go_meet
    exact⟨rfl,by rw[bn]⟩
   ·have z1:¬((ab:Int)<0):=by omega
    have z2:(0:Int)≤(ab:Int):=by omega
    go_wp2_with fail
    go_meet
    exact⟨rfl,rfl⟩
  case rest=>
   obtain⟨rfl,rfl⟩:=hcut;obtain⟨e1,e2,e3⟩:=HX.o.2;have z1:(0:Int)≤(ab:Int):=by omega
   have z2:(ab:Int)≤(r.length:Int):=by omega
   go_wp2_with fail;go_region
   go_upto_if 48 with fail
   go_cut [] (fun wx=>Hid (PA w wx ⟨u,h,0,path,q,hq⟩))
   case first=>
    by_cases hP:P=[]
    ·subst hP;obtain rfl:[47]=path:=ay;have aa:=ad ((((ao.o.s1 h).s3 []).s3 [47]).next (ar _ _).drew);go_wp2_with fail
     go_meet
     exact aa
    ·obtain rfl:P=path:=by rw[←ay,ae hP]
     have bo:P.isEmpty=false:=by cases P with|nil=>exact(hP rfl).elim|cons a b=>rfl
     have aa:=ad (((ao.o.s1 h).s3 P).next (ar _ _).drew);have b0:¬(P.isEmpty=true):=by rw[bo];simp
     go_wp2_with fail
     go_meet
     exact aa
   case rest=>
    have aa:=hcut;clear hcut e1 e2 e3 z1 z2 y B f1 f3 ao HX bl a3;have y:=aa.o.box.cells.c1;simp only at y;go_wp2_with fail;clear y;refine(fI ⟨h.toArray⟩ 58 _ (HG.o.next aa.o.below).aq (by show h.length<_;omega)).m ?_;rintro e w7⟨rfl,a8⟩;have V:=ad (aa.o.next a8);rw[show(⟨h.toArray⟩:aaM).data.toList=h from rfl,show hasB 58 h=h.contains 58 from rfl];have cb:=oZ 58 h;have b9:=ij 58 h;clear a8 aa;rcases ap:h.contains 58 with _|_
    ·have T:=ad (show cZ s.data.toList=if aQ ⟨u,h,0,path,q,hq⟩=0 then(⟨u,h,0,path,q,hq⟩,0) else(cm,aQ ⟨u,h,0,path,q,hq⟩) by rw[HE.o,HR.o];exact FA ap);clear ap;have b1:=V.o.box.full;obtain⟨z,y,A,B,C,D⟩:=b1.c;clear b1;simp only at z y A B C D;go_wp2_with fail;refine(kJ ⟨u,h,0,path,q,hq⟩ _ (HG.o.next V.o.below) ⟨by show u.length≤_;omega,by show h.length≤_;omega,by show path.length≤_;omega,by show q.length≤_;omega⟩).m ?_;rintro e w9⟨rfl,an⟩;have E:=ad (V.o.next an);clear an z y A B C D;by_cases Z:aQ ⟨u,h,0,path,q,hq⟩=0
     ·rw[Z];have af:=ad (show cZ s.data.toList=(⟨u,h,0,path,q,hq⟩,0) by rw[T.o,ah Z]);have x:=ad (jC ⟨u,h,0,path,q,hq⟩ E.o.below (ag _) E.o.res);have d:=E.o.res.full;obtain⟨L,M,N,O,Q,R⟩:=d.c;have F:=d.f0;have G:=d.f1;have H:=d.f2;have I:=d.f3;have J:=d.f4;have K:=d.f5;obtain⟨z,y,A,B,C,D⟩:=E.o.box.cells;simp only at z y A B C D;clear d Z;go_wp2_with fail;clear L M N O Q R F G H I J K z y A B C D;obtain⟨i,j,k,l,n,p⟩:=x.o.1.cells;unfold dL at i j k l n p;simp only at i j k l n p;refine aD (v:=dE (⟨u,h,0,path,q,hq⟩,0)) ?_ rfl ⟨by rw[af.o],x.o.2⟩;simp[results,Tryz.f96,go_sem,i,j,k,l,n,p]
     ·have af:=ad (show cZ s.data.toList=(cm,aQ ⟨u,h,0,path,q,hq⟩) by rw[T.o,ae Z]);generalize aQ ⟨u,h,0,path,q,hq⟩=er at*;have x:=ad (jC cm E.o.below (ag _) E.o.res);have d:=E.o.res.full;obtain⟨L,M,N,O,Q,R⟩:=d.c;have F:=d.f0;have G:=d.f1;have H:=d.f2;have I:=d.f3;have J:=d.f4;have K:=d.f5;clear d;go_wp2_with fail;clear L M N O Q R F G H I J K;obtain⟨i,j,k,l,n,p⟩:=x.o.1.cells;unfold dL at i j k l n p;simp only[cm] at i j k l n p;refine aD (v:=dE (cm,er)) ?_ rfl ⟨by rw[af.o],x.o.2⟩;simp[results,Tryz.f96,go_sem,i,j,k,l,n,p,cm]
    ·have HT:=ad (show cZ s.data.toList=nY ⟨u,h,0,path,q,hq⟩ by rw[HE.o,HR.o]);have am:=ad ap;clear ap;generalize bd:upto 58 h=ho at*;generalize be:past 58 h=po at*;have ai:=ad be;have bf:=ad bd;clear be bd;go_wp2_with fail;rcases X:Lib.atoiAll po with v|_|_
     ·have aN:=ad X;have bJ:=Qk X;obtain⟨bv,bx⟩:=bJ;refine(FB ⟨po.toArray⟩ v w7 X (by show po.length≤_;omega)).m ?_;rintro e w8⟨rfl,ac⟩;have W:=ad (V.o.next ac);clear ac V X;go_wp2_with fail;refine(Mi v w8 (HG.o.next W.o.below) bv bx).m ?_;rintro e w9⟨rfl,an⟩;have Y:=ad (W.o.next an);clear an W;by_cases hit:Lib.itoa v=po
      ·rw[hit];have bg:=ad hit;clear hit;by_cases hv:v<1
       ·have T:=ad (show cZ s.data.toList=(cm,4) by rw[HT.o];exact lx am.o (by show cy (past 58 h)=0;rw[ai.o];exact wD (fun v' S=>by rw[aN.o] at S;injection S with S;exact .inr (by omega))));have x:=ad (jC cm Y.o.below (ag _) Y.o.res);have d:=Y.o.res.full;obtain⟨L,M,N,O,Q,R⟩:=d.c;have F:=d.f0;have G:=d.f1;have H:=d.f2;have I:=d.f3;have J:=d.f4;have K:=d.f5;clear d;go_wp2_with fail;clear L M N O Q R F G H I J K;obtain⟨i,j,k,l,n,p⟩:=x.o.1.cells;unfold dL at i j k l n p;simp only[cm] at i j k l n p;refine aD (v:=dE (cm,4)) ?_ rfl ⟨by rw[T.o],x.o.2⟩;simp[results,Tryz.f96,go_sem,i,j,k,l,n,p,cm]
       ·have bs:(1:Int)≤v:=by omega
        have T:=ad (show cZ s.data.toList=if aQ ⟨u,ho,v,path,q,hq⟩=0 then(⟨u,ho,v,path,q,hq⟩,0) else(cm,aQ ⟨u,ho,v,path,q,hq⟩) by rw[HT.o,←bf.o];exact FC am.o (by rw[ai.o];exact aN.o) (by rw[ai.o];exact bg.o) bs);have b1:=Y.o.box.full;obtain⟨z,y,A,B,C,D⟩:=b1.c;have f1:=b1.f1;have f2:=b1.f2;have b6:=((Y.o.s1 ho).s2 v).box.cells;obtain⟨d0,d1,d2,d3,d4,d5⟩:=b6;clear b1;simp only at z y A B C D d0 d1 d2 d3 d4 d5;clear z B C D d1 d2;have a4:=ad ((Y.o.s1 ho).s2 v);go_wp2_with fail;clear d0 d3 d4 d5 y A f1 f2;generalize(w9.setCell ⟨w.heap.size+1,1,none⟩ (.string ⟨ho.toArray⟩)).setCell ⟨w.heap.size+1,2,none⟩ (.int .i64 v)=bm at*;refine(kJ ⟨u,ho,v,path,q,hq⟩ bm (HG.o.next a4.o.below) ⟨by show u.length≤_;omega,by show ho.length≤_;omega,by show path.length≤_;omega,by show q.length≤_;omega⟩).m ?_;rintro e cc⟨rfl,a6⟩;have E:=ad (a4.o.next a6);clear a6;by_cases Z:aQ ⟨u,ho,v,path,q,hq⟩=0
        ·rw[Z];have af:=ad (show cZ s.data.toList=(⟨u,ho,v,path,q,hq⟩,0) by rw[T.o,ah Z]);have x:=ad (jC ⟨u,ho,v,path,q,hq⟩ E.o.below (ag _) E.o.res);have d:=E.o.res.full;obtain⟨L,M,N,O,Q,R⟩:=d.c;have F:=d.f0;have G:=d.f1;have H:=d.f2;have I:=d.f3;have J:=d.f4;have K:=d.f5;obtain⟨z,y,A,B,C,D⟩:=E.o.box.cells;simp only at z y A B C D;clear d Z;go_wp2_with fail;clear L M N O Q R F G H I J K z y A B C D;obtain⟨i,j,k,l,n,p⟩:=x.o.1.cells;unfold dL at i j k l n p;simp only at i j k l n p;refine aD (v:=dE (⟨u,ho,v,path,q,hq⟩,0)) ?_ rfl ⟨by rw[af.o],x.o.2⟩;simp[results,Tryz.f96,go_sem,i,j,k,l,n,p]
        ·have af:=ad (show cZ s.data.toList=(cm,aQ ⟨u,ho,v,path,q,hq⟩) by rw[T.o,ae Z]);generalize aQ ⟨u,ho,v,path,q,hq⟩=er at*;have x:=ad (jC cm E.o.below (ag _) E.o.res);have d:=E.o.res.full;obtain⟨L,M,N,O,Q,R⟩:=d.c;have F:=d.f0;have G:=d.f1;have H:=d.f2;have I:=d.f3;have J:=d.f4;have K:=d.f5;clear d;go_wp2_with fail;clear L M N O Q R F G H I J K;obtain⟨i,j,k,l,n,p⟩:=x.o.1.cells;unfold dL at i j k l n p;simp only[cm] at i j k l n p;refine aD (v:=dE (cm,er)) ?_ rfl ⟨by rw[af.o],x.o.2⟩;simp[results,Tryz.f96,go_sem,i,j,k,l,n,p,cm]
      ·have T:=ad (show cZ s.data.toList=(cm,4) by rw[HT.o];exact lx am.o (by show cy (past 58 h)=0;rw[ai.o];exact wD (fun v' S=>by rw[aN.o] at S;injection S with S;exact .inl (by rw[←S];exact hit))));have b5:(Lib.itoa v==po)=false:=by rw[aL];exact hit
       have x:=ad (jC cm Y.o.below (ag _) Y.o.res);have d:=Y.o.res.full;obtain⟨L,M,N,O,Q,R⟩:=d.c;have F:=d.f0;have G:=d.f1;have H:=d.f2;have I:=d.f3;have J:=d.f4;have K:=d.f5;clear d;go_wp2_with fail;clear L M N O Q R F G H I J K;obtain⟨i,j,k,l,n,p⟩:=x.o.1.cells;unfold dL at i j k l n p;simp only[cm] at i j k l n p;refine aD (v:=dE (cm,4)) ?_ rfl ⟨by rw[T.o],x.o.2⟩;simp[results,Tryz.f96,go_sem,i,j,k,l,n,p,cm]
     ·refine(CE ⟨po.toArray⟩ w7 (HG.o.next V.o.below) X (by show po.length≤_;omega)).m ?_;rintro e w8⟨v8,rfl,ac⟩;have W:=ad (V.o.next ac);have T:=ad (show cZ s.data.toList=(cm,4) by rw[HT.o];exact lx am.o (by show cy (past 58 h)=0;rw[ai.o];exact wD (fun v' S=>by rw[X] at S;cases S)));clear ac V X;have x:=ad (jC cm W.o.below (ag _) W.o.res);have d:=W.o.res.full;obtain⟨L,M,N,O,Q,R⟩:=d.c;have F:=d.f0;have G:=d.f1;have H:=d.f2;have I:=d.f3;have J:=d.f4;have K:=d.f5;clear d;go_wp2_with fail;clear L M N O Q R F G H I J K;obtain⟨i,j,k,l,n,p⟩:=x.o.1.cells;unfold dL at i j k l n p;simp only[cm] at i j k l n p;refine aD (v:=dE (cm,4)) ?_ rfl ⟨by rw[T.o],x.o.2⟩;simp[results,Tryz.f96,go_sem,i,j,k,l,n,p,cm]
     ·refine(CF ⟨po.toArray⟩ w7 (HG.o.next V.o.below) X (by show po.length≤_;omega)).m ?_;rintro e w8⟨v8,n8,rfl,ac⟩;have W:=ad (V.o.next ac);have T:=ad (show cZ s.data.toList=(cm,4) by rw[HT.o];exact lx am.o (by show cy (past 58 h)=0;rw[ai.o];exact wD (fun v' S=>by rw[X] at S;cases S)));clear ac V X;have x:=ad (jC cm W.o.below (ag _) W.o.res);have d:=W.o.res.full;obtain⟨L,M,N,O,Q,R⟩:=d.c;have F:=d.f0;have G:=d.f1;have H:=d.f2;have I:=d.f3;have J:=d.f4;have K:=d.f5;clear d;go_wp2_with fail;clear L M N O Q R F G H I J K;obtain⟨i,j,k,l,n,p⟩:=x.o.1.cells;unfold dL at i j k l n p;simp only[cm] at i j k l n p;refine aD (v:=dE (cm,4)) ?_ rfl ⟨by rw[T.o],x.o.2⟩;simp[results,Tryz.f96,go_sem,i,j,k,l,n,p,cm]
 ·have br:(1024:Int)<(s.size:Int):=by omega
  have HE:=ad (IW (s:=s.data.toList) (by rw[bj];omega));have bi:=ad (show ma (w.alloc (.cells #[.string ⟨#[]⟩,.string ⟨#[]⟩,.int .i64 0,.string ⟨#[]⟩,.string ⟨#[]⟩,.bool false] 23)) w.heap.size cm from au w _);have bk:=ad ((ar w.heap.size w).alloc (ag _) (.cells #[.string ⟨#[]⟩,.string ⟨#[]⟩,.int .i64 0,.string ⟨#[]⟩,.string ⟨#[]⟩,.bool false] 23));go_enter Tryz.func96,Tryz.ntmps96;go_wp2_with fail;obtain⟨i,j,k,l,n,p⟩:=bi.o.cells;simp only[cm] at i j k l n p;refine aD (v:=dE (cm,3)) ?_ rfl ⟨by rw[HE.o],bk.o⟩;simp[results,Tryz.f96,go_sem,i,j,k,l,n,p,cm]
end Go.Proofs.YtlemddnecmmfgaaGreatDoor
namespace Go.Proofs.YtlemddnecmmfgaaGreatDoor
open Go.RowKit
abbrev VH(u:U):Obj:=.cells #[.string ⟨u.scheme.toArray⟩,.string ⟨u.host.toArray⟩,.int .i64 u.port,.string ⟨u.path.toArray⟩,.string ⟨u.query.toArray⟩,.bool u.hq] 23
end Go.Proofs.YtlemddnecmmfgaaGreatDoor
namespace Go.Proofs.YtlemddnecmmfgaaGreatDoor
open Go.RowKit
variable{b a:Bs}
theorem QD:∀n:Nat,n<256→bits .or .u8 (n:Int) 32=((n|||32:Nat):Int):=by decide+kernel
theorem Tc:∀n:Nat,n<256→(97≤n∧n≤102∨65≤n∧n≤70)→97≤(n|||32)∧(n|||32)≤102∧(n|||32)-87=(if 97≤n then n-87 else n-55):=by decide+kernel
theorem Mv{c:UInt8}(h:dS c=true):(48≤(c.toNat:Int)∧(c.toNat:Int)≤57∧(fA c:Int)=c.toNat-48)∨
 (57<(c.toNat:Int)∧((c.toNat:Int)==95)=false∧∃a:Int,bits .or .u8 (c.toNat:Int) 32=a∧97≤a∧a≤102∧(fA c:Int)=a-87):=by
 unfold dS at h;have e:=dv h;unfold fA;by_cases b:c.toNat≤57
 ·rw[ah b];left;omega
 ·rw[ae b];right;have d:=Tc c.toNat c.toNat_lt (by omega);refine⟨by omega,by rw[aL];omega,_,QD c.toNat c.toNat_lt,by omega,by omega, ?_⟩;rw[←d.2.2];omega
def lB(a b:UInt8):Nat→Int
 |0=>0
 |1=>(fA a:Int)
 |_=>16*(fA a:Int)+(fA b:Int)
theorem QE(a b:UInt8)(d:dS a=true)(e:dS b=true)(k:Nat)(i:k<2):
 ∃c,[a,b].getD k 0=c∧dS c=true∧0≤lB a b k∧lB a b k≤15∧lB a b (k+1)=lB a b k*16+(fA c:Int):=by
 have j:=tz d;rcases aaN k 1 with h|h
 ·obtain rfl:k=0:=by omega
  exact⟨a,rfl,d,by show(0:Int)≤0;omega,by show(0:Int)≤15;omega,by show(fA a:Int)=0*16+_;omega⟩
 ·obtain rfl:k=1:=by omega
  exact⟨b,rfl,e,by show(0:Int)≤(fA a:Int);omega,by show(fA a:Int)≤15;omega,by show 16*(fA a:Int)+_=(fA a:Int)*16+_;omega⟩
theorem uE(c:Int)(w:World):
 Calls Tryz.prog 241 #[.int .u8 c] w fun e w'=>e=.returned (.int .u8 (bits .or .u8 c 32))∧w=w':=by
 go_enter Tryz.func241,Tryz.ntmps241;go_wp2;go_ret;exact⟨rfl,rfl⟩
theorem CN(a b:UInt8)(y:dS a=true)(z:dS b=true)(w:World):
 Calls Tryz.prog 206 #[.string ⟨[a,b].toArray⟩,.int .i64 16,.int .i64 8] w (cN w (.tuple #[.int .u64 (lB a b 2),.nilIface])):=by
 have E:=Lib.run_convert_string_bytes (P:=Tryz.prog) w 9 83 5 ⟨[a,b].toArray⟩ u9 u83 u5;have n:∀j,j<2→(Lib.bytesWorld w 5 ⟨[a,b].toArray⟩).cell? ⟨w.heap.size,j,none⟩=some (.int .u8 ([a,b].getD j 0).toNat):=fun j F=>Lib.bytesWorld_cell w 5 ⟨[a,b].toArray⟩ j F;have q:=Lib.hid (Lib.bytesWorld_below w 5 ⟨[a,b].toArray⟩);have C:=Lib.hid (QE a b y z);obtain⟨r,x⟩:∃r,r=Lib.bytesWorld w 5 ⟨[a,b].toArray⟩:=⟨_,rfl⟩;rw[←x] at E n q;clear x y z;have O:IntKind.u64.wrap (IntKind.u64.wrap 256-1)=255:=by rw[IntKind.wrap_u64,IntKind.wrap_u64];decide
 have B:=Lib.hid n;clear n;go_enter Tryz.func206,Tryz.ntmps206;go_wp2_with fail
 go_loop [12,13,101] (fun H G o=>∃k:Nat,H=.bool false∧o=.int .i64 k∧k≤2∧G=.int .u64 (lB a b k)) (fun _ _ o=>2-(intOf o).toNat)
 case atStart=>exact⟨0,rfl,rfl,by omega,rfl⟩
 case round=>
  obtain⟨k,rfl,rfl,N,rfl⟩:=hrel;by_cases A:k<2
  ·have D:=B.out k A;obtain⟨c,t,l,K,L,u⟩:=C.out k A;rw[t] at D;clear t;have p:=Lib.hid u;clear u;have M:c.toNat<256:=c.toNat_lt;generalize lB a b k=v at*;rcases Mv l with⟨d1,d2,i⟩|⟨d1,I,Q,d2,i,J,s⟩
   ·have h:=Lib.hid i;clear i l;go_wp2_with fail
    go_round
    case rel=>exact⟨k+1,rfl,by go_num,by omega,by rw[p.out,h.out]⟩
    case measure=>simp[intOf];omega
   ·have h:=Lib.hid s;have d:=Lib.hid d2;clear s l d2;go_wp2_with fail;refine(uE _ _).m ?_;rintro e w'⟨rfl,rfl⟩;rw[d.out];go_wp2_with fail;refine(uE _ _).m ?_;rintro e w'⟨rfl,rfl⟩;rw[d.out];go_wp2_with fail;refine(uE _ _).m ?_;rintro e w'⟨rfl,rfl⟩;rw[d.out];go_wp2_with fail
    go_round
    case rel=>exact⟨k+1,rfl,by go_num,by omega,by rw[p.out,h.out];go_num⟩
    case measure=>simp[intOf];omega
  ·obtain rfl:k=2:=by omega
   generalize lB a b 2=v at*;go_wp2_with fail;go_ret2;exact⟨rfl,q.out⟩
theorem CO(a b:UInt8)(c:dS a=true)(d:dS b=true)(w:World):
 Calls Tryz.prog 172 #[.string ⟨[a,b].toArray⟩,.int .i64 16,.int .i64 8] w (cN w (.tuple #[.int .u64 (lB a b 2),.nilIface])):=by
 have H:=Lib.hid (CN a b c d w);generalize lB a b 2=v at*;clear c d;go_enter Tryz.func172,Tryz.ntmps172;go_wp2_with fail;refine H.out.m ?_;rintro e j⟨rfl,h⟩;have i:=Lib.hid h;clear h;go_wp2_with fail;go_ret2;exact⟨rfl,i.out⟩
end Go.Proofs.YtlemddnecmmfgaaGreatDoor
namespace Go.Proofs.YtlemddnecmmfgaaGreatDoor
open Go.RowKit
variable{b a:Bs}
theorem rT(c:UInt8):Lib.upperB c=rY c:=by
 have:∀n:Nat,n<256→Lib.upperB (UInt8.ofNat n)=rY (UInt8.ofNat n):=by decide+kernel
 have h:=this c.toNat c.toNat_lt
 rwa [UInt8.ofNat_toNat] at h
theorem I6(a b:UInt8)(k:dS a=true)(l:dS b=true)(w:World):
 Calls Tryz.prog 173 #[.string ⟨#[37,a,b]⟩] w (cN w (.string ⟨[37,rY a,rY b].toArray⟩)):=by
 have i:∀c,dS c=true→c.toNat<128:=by intro c h;have:=dv (show decide _=true from h);omega
 have h:=Tryz.strings_ToUpper_ascii ⟨#[37,a,b]⟩ w (by show 3≤_;omega) (by
  intro j c m;have d:c∈[37,a,b]:=eQ m;simp only[bL,uK,or_false] at d;rcases d with rfl|rfl|rfl
  ·decide
  ·exact i _ k
  ·exact i _ l)
 have e:Lib.toUpperA (⟨#[37,a,b]⟩:ByteArray).data.toList=[37,rY a,rY b]:=by show[Lib.upperB 37,Lib.upperB a,Lib.upperB b]=_;rw[rT,rT,rT];rfl
 rw[e] at h;exact h
theorem Mw(c:UInt8):lz.contains c=gY c:=congrFun FL c
theorem Mx(v:Int)(c:UInt8)(a:v=(c.toNat:Int))(w:World):
 Calls Tryz.prog 30 #[.string ⟨lz.toArray⟩,.int .u8 v] w fun e w'=>(∃i:Int,e=.returned (.int .i64 i)∧decide (0≤i)=gY c)∧w=w':=by
 refine(Tryz.strings_IndexByte ⟨lz.toArray⟩ v w).m ?_;rintro e w'⟨rfl,rfl⟩;subst a;refine⟨⟨_,rfl, ?_⟩,rfl⟩;rw[Int.toNat_natCast,show c.toNat.toUInt8=c from UInt8.ofNat_toNat,indexB,show(⟨lz.toArray⟩:ByteArray).data.toList=lz from rfl,Mw];cases gY c
 ·rfl
 ·exact bN (by simp)
structure UI (w0:World) (bb:Nat) (s:ByteArray) (k:Nat) (w:World):Prop where
 Wi:∃out,BA w bb (bb+1) out∧out++aW (s.data.toList.drop k)=aW s.data.toList
 room:bb+1≤w.heap.size
 JV:Below w0.heap.size w0 w
theorem UI.wrote{e w i l:World}{c:Nat}{s:ByteArray}{k j:Nat}(x:UI e c s k w)(n:e.heap.size≤c)(h:Below w.heap.size w i)(q:b++aW (s.data.toList.drop k)=aW s.data.toList)
 (r:aW (s.data.toList.drop k)=a++aW (s.data.toList.drop j))(d:MQ c (c+1) (b++a) i l):UI e c s j l:=by
 have o:=x.JV.t (h.m x.JV.size);exact⟨⟨_,d.1,by rw[jl,←r,q]⟩,bP x.room (bP h.size d.2.size),o.t (d.2.below (by omega) n)⟩
theorem UI.next{c w w':World}{b:Nat}{s:ByteArray}{k:Nat}(x:UI c b s k w)(a:Below w.heap.size w w'):UI c b s k w':=by obtain⟨out,d,e⟩:=x.Wi;exact⟨⟨out,d.next a,e⟩,bP x.room a.size,x.JV.t (a.m x.JV.size)⟩
theorem Kk{t:Bs}(h:b++a=t)(c:t.length≤1000000):b.length≤1000000:=by rw[←h] at c;simp at c;omega
theorem My(Y:World)(d:Nat)(s:ByteArray)(N:Y.heap.size≤d)(H:(aW s.data.toList).length≤1000000):
 SX 171 #[.pointer (some ⟨d,0,none⟩)] s (UI Y d s):=by
 refine⟨fun k w w' x n=>x.next n, ?_, ?_⟩
 ·intro k c r w p hc x;have B:s.data.toList.drop (k+1)=r:=by rw[←fh,p];rfl
  have C:aW (s.data.toList.drop k)=[c]++aW (s.data.toList.drop (k+1)):=by rw[B,p];exact dG hc
  obtain⟨out,z,l⟩:=x.Wi;have F:=Lib.hid C;have M:=Lib.hid x;have J:=Lib.hid z;have E:=Lib.hid l;have ac:=Kk l H;have T:=Lib.hid x.room;clear p B C x z l H;show Calls Tryz.prog 171 #[.string ⟨#[c]⟩,.pointer (some ⟨d,0,none⟩)] w _;go_enter Tryz.func171,Tryz.ntmps171;go_wp2_with fail;refine(pR d (d+1) out ⟨#[c]⟩ w J.out T.out (by show out.length+1≤_;omega)).m ?_;rintro e Z⟨rfl,h⟩;have u:=Lib.hid (M.out.wrote N (Below.refl _ _) E.out F.out h);clear h;go_wp2_with fail
  go_end0
  exact⟨rfl,u.out⟩
 ·intro k a b r w p O x;have B:s.data.toList.drop (k+3)=r:=by rw[←fh,p];rfl
  have C:aW (s.data.toList.drop k)=tw a b++aW (s.data.toList.drop (k+3)):=by rw[B,p];exact gQ O
  rw[cW] at O;obtain⟨A,n⟩:=O;obtain⟨out,z,l⟩:=x.Wi;have Q:=S8 A n;have af:=tz A;have ai:=tz n;have D:lB a b 2=((UInt8.ofNat (16*fA a+fA b)).toNat:Int):=by rw[Q];show 16*(fA a:Int)+(fA b:Int)=_;omega
  have an:0≤lB a b 2:=by rw[D];omega
  have ao:lB a b 2≤255:=by rw[D,Q];omega
  have HP:=Lib.hid (CO a b A n w);have HT:=Lib.hid (fun W=>I6 a b A n W);have HI:=Lib.hid (fun W=>Mx (lB a b 2) _ D W);have HV:=Lib.hid D;have X:tw a b=if gY (UInt8.ofNat (16*fA a+fA b)) then[UInt8.ofNat (16*fA a+fA b)] else[37,rY a,rY b]:=rfl;generalize UInt8.ofNat (16*fA a+fA b)=c at*;have F:=Lib.hid C;have S:=Lib.hid X;have M:=Lib.hid x;have J:=Lib.hid z;have E:=Lib.hid l;have ac:=Kk l H;have T:=Lib.hid x.room;have am:(⟨#[37,a,b]⟩:ByteArray).extract 1 3=⟨[a,b].toArray⟩:=dU (by rw[cf];rfl);clear p B C x z l H A n Q af ai D X;generalize lB a b 2=v at*;show Calls Tryz.prog 171 #[.string ⟨#[37,a,b]⟩,.pointer (some ⟨d,0,none⟩)] w _;go_enter Tryz.func171,Tryz.ntmps171;go_wp2_with fail;refine HP.out.m ?_;rintro e I⟨rfl,G⟩;have V:=Lib.hid (M.out.next G);have R:=Lib.hid (J.out.next G);have al:=Lib.hid G;clear G;go_wp2_with fail;refine(HI.out I).m ?_;rintro e ap⟨⟨i,rfl,q⟩,rfl⟩;rcases t:gY c with _|_
  ·rw[t] at q;have ab:i<0:=by have:=tF q;omega
   have L:=Lib.hid t;clear t q;go_wp2_with fail;refine(HT.out I).m ?_;rintro e Z⟨rfl,o⟩;have y:=Lib.hid (V.out.next o);have K:=Lib.hid (R.out.next o);clear o;go_wp2_with fail;refine(pR d (d+1) out ⟨[37,rY a,rY b].toArray⟩ Z K.out y.out.room (by show out.length+3≤_;omega)).m ?_;rintro e w3⟨rfl,h⟩;have u:=Lib.hid (y.out.wrote (j:=k+3) N (Below.refl _ _) E.out (by rw[F.out,S.out,L.out];rfl) h);clear h;go_wp2_with fail
   go_end0
   exact⟨rfl,u.out⟩
  ·rw[t] at q;have ab:0≤i:=dv q;have L:=Lib.hid t;have aa:=fun W=>QC W c v HV.out;have o:=(Below.refl I.heap.size I).alloc (ag _) (.cells #[.int .u8 v] 5);have y:=Lib.hid (V.out.next o);have K:=Lib.hid (R.out.next o);clear t q o;go_wp2_with fail;clear aa;refine(pR d (d+1) out ⟨[c].toArray⟩ _ K.out y.out.room (by show out.length+1≤_;omega)).m ?_;rintro e w3⟨rfl,h⟩;have u:=Lib.hid (y.out.wrote (j:=k+3) N (Below.refl _ _) E.out (by rw[F.out,S.out,L.out];rfl) h);clear h;go_wp2_with fail
   go_end0
   exact⟨rfl,u.out⟩
theorem FW(s:ByteArray)(w:World)(a:js s.data.toList=true)(r:s.size≤1000000):
 Calls Tryz.prog 136 #[.string s] w (cN w (.string ⟨(aW s.data.toList).toArray⟩)):=by
 have c:(aW s.data.toList).length≤1000000:=by have:=tA (p:=fun _=>true) a;rw[bj] at this;omega
 have n:=Lib.hid a;have k:=Lib.hid (QU w (w.heap.size+1));have l:=Lib.hid (My w w.heap.size s (ag _) c);have y:=Lib.hid c;clear a c;go_enter Tryz.func136,Tryz.ntmps136;go_wp2_with fail;refine(CK _ s _ l.out _ ⟨⟨[],k.out,by rw[List.drop_zero];rfl⟩,by simp,(Below.refl _ _).alloc (ag _) _⟩ r).m ?_;rintro e u(⟨a,rfl,x⟩|⟨a,_⟩)
 ·obtain⟨out,d,b⟩:=x.Wi;rw[←bj,List.drop_length,show aW []=[] from rfl,jm] at b;have i:=Lib.hid d;have j:=Lib.hid b;have q:=Lib.hid x.JV;clear d b x a;go_wp2_with fail;refine(C2 _ _ out u i.out (by omega)).m ?_;rintro e z⟨rfl,h⟩;have o:=Lib.hid (q.out.t h);clear h;go_wp2_with fail;go_ret;exact⟨by rw[j.out];rfl,o.out⟩
 ·rw[n.out] at a;cases a
end Go.Proofs.YtlemddnecmmfgaaGreatDoor
namespace Go.Proofs.YtlemddnecmmfgaaGreatDoor
open Go.RowKit
variable{a:Int}{z:U}{d:aaK}
structure NA (w W:aaK) (u:U):Prop where
 below:Below w.heap.size w W
 box:ma W w.heap.size u
 res:ma W (w.heap.size+1) cm
theorem NA.next{w W W':aaK}{u:U}(h:NA w W u)(a:Below W.heap.size W W'):NA w W' u:=⟨h.below.t (a.m h.below.size),h.box.next a,h.res.next a⟩
theorem NA.put{W:aaK}{a:U}(h:NA d W z)(j:Nat)(v:aaL)(b:ma (W.setCell ⟨d.heap.size,j,none⟩ v) d.heap.size a):NA d (W.setCell ⟨d.heap.size,j,none⟩ v) a:=
 ⟨h.below.setCell (p:=⟨d.heap.size,j,none⟩) (ag _) v,b,h.res.other (by omega)⟩
theorem NA.s1{w W:aaK}{u:U}(h:NA w W u)(x:Bs):NA w (W.setCell ⟨w.heap.size,1,none⟩ (.string ⟨x.toArray⟩)) {u with host:=x}:=h.put 1 _ (h.box.s1 x)
theorem NA.s2{w W:aaK}{u:U}(h:NA w W u)(x:Int):NA w (W.setCell ⟨w.heap.size,2,none⟩ (.int .i64 x)) {u with port:=x}:=h.put 2 _ (h.box.s2 x)
theorem NA.s3{w W:aaK}{u:U}(h:NA w W u)(x:Bs):NA w (W.setCell ⟨w.heap.size,3,none⟩ (.string ⟨x.toArray⟩)) {u with path:=x}:=h.put 3 _ (h.box.s3 x)
theorem NA.s4{w W:aaK}{u:U}(h:NA w W u)(x:Bs):NA w (W.setCell ⟨w.heap.size,4,none⟩ (.string ⟨x.toArray⟩)) {u with query:=x}:=h.put 4 _ (h.box.s4 x)
theorem Hn(w:aaK)(u:U):NA w ((w.alloc (.cells #[.string ⟨u.scheme.toArray⟩,.string ⟨u.host.toArray⟩,.int .i64 u.port,.string ⟨u.path.toArray⟩,.string ⟨u.query.toArray⟩,.bool u.hq] 23)).alloc (.cells #[.string ⟨#[]⟩,.string ⟨#[]⟩,.int .i64 0,.string ⟨#[]⟩,.string ⟨#[]⟩,.bool false] 23)) u:=
 have h:=jG w (.cells #[.string ⟨u.scheme.toArray⟩,.string ⟨u.host.toArray⟩,.int .i64 u.port,.string ⟨u.path.toArray⟩,.string ⟨u.query.toArray⟩,.bool u.hq] 23) (.cells #[.string ⟨#[]⟩,.string ⟨#[]⟩,.int .i64 0,.string ⟨#[]⟩,.string ⟨#[]⟩,.bool false] 23)
 ⟨h.below,h.b1,h.b2⟩
theorem ma.Wh{b:Nat}(h:ma d b z):d.cell? ⟨b,3,none⟩=some (.string ⟨z.path.toArray⟩)∧d.cell? ⟨b,4,none⟩=some (.string ⟨z.query.toArray⟩):=⟨h.cells.c3,h.cells.c4⟩
def rS(b:Bs)(a:Int):Bool:=b==my&&a==80||b==ir&&a==443
theorem I5(h:¬a=80):rS my a=false:=by unfold rS;rw[show(a==80)=false from by rw[aL];exact h,show(my==ir)=false from by decide];simp
theorem FV(h:¬a=443):rS ir a=false:=by unfold rS;rw[show(a==443)=false from by rw[aL];exact h,show(ir==my)=false from by decide];simp
theorem Tb(h:¬aQ z=0):ji z=cm:=by
 unfold ji;cases a:okB z
 ·rfl
 ·exact(h ((eC z).2 a)).elim
theorem l9(h:¬aQ z=0):aQ z=3∨aQ z=4:=by
 unfold aQ at h⊢;cases b:gK z
 ·exact .inr rfl
 ·rw[b] at h;cases a:decide ((gU z).length≤ee)
  ·exact .inl rfl
  ·rw[a] at h;exact(h rfl).elim
theorem rH(u:U)(w:aaK)(hg:GX w)(hl:xv u):Calls Tryz.prog 98 #[uV u] w (cN w (uV (ji u))):=by
 have N:=ad (Hn w u);have HG:=ad hg;have M:=ad hl;clear hg hl;obtain⟨l,n,j,d,h,q⟩:=N.o.box.cells;go_enter Tryz.func98,Tryz.ntmps98;go_wp2_with fail;generalize(w.alloc (.cells #[.string ⟨u.scheme.toArray⟩,.string ⟨u.host.toArray⟩,.int .i64 u.port,.string ⟨u.path.toArray⟩,.string ⟨u.query.toArray⟩,.bool u.hq] 23)).alloc (.cells #[.string ⟨#[]⟩,.string ⟨#[]⟩,.int .i64 0,.string ⟨#[]⟩,.string ⟨#[]⟩,.bool false] 23)=W at*;refine(kJ u W (HG.o.next N.o.below) M.o).m ?_;rintro e w1⟨rfl,al⟩;have G:=ad (N.o.next al);clear al l n j d h q N;by_cases I:aQ u=0
 ·have HO:=ad ((eC u).1 I);have Q:=HO.o;unfold okB at Q;rw[cW,ef] at Q;have f:=Q.1;obtain⟨pr,av,ay⟩:=f.path;have ai:=ad (show js u.path=true by rw[av];exact rO (fun _ _=>rfl) ay);have a0:=ad (show js u.query=true from rO (fun _ _=>rfl) f.made);have aa:=f.scheme;have HB:=ad (FU HO.o);have l1:=M.o.path;have l2:=M.o.query;have l3:=M.o.host;have aU:=ad (tA (p:=fun _=>true) ai.o);rw[I];clear I Q f av ay;obtain⟨i,r,k,pa,b,hq⟩:=u;simp only at aa l1 l2 l3;obtain⟨l,n,j,d,h,q⟩:=G.o.box.cells;simp only at l n j d h q;go_wp2_with fail;refine(nU ⟨r.toArray⟩ w1 (by show r.length≤_;omega)).m ?_;rintro e w2⟨rfl,am⟩;have R:=ad (G.o.next am);clear am l n j d h q G;rw[show(⟨r.toArray⟩:aaM).data.toList=r from rfl];have a:=R.o.box.full;have f1:=a.f1;have d1:=a.c.c1;simp only at d1;have x:=ad (R.o.s1 (lower r));simp only at x;obtain⟨l,n,j,d,h,q⟩:=x.o.box.cells;simp only at l n j d h q;have Z:=x.o.box.full.f2;clear a;have q1:(⟨pa.toArray⟩:aaM).size≤1000000:=by show pa.length≤_;omega
  have q2:(⟨b.toArray⟩:aaM).size≤1000000:=by show b.length≤_;omega
  have q3:(aW pa).length≤100000:=by have:=aU.o;omega
  have q1:=ad q1;have q2:=ad q2;have q3:=ad q3;go_upto_region 4 with fail
  go_cut [28] (fun t L=>t=.bool (rS i k)∧Hid (NA w L ⟨i,lower r,k,pa,b,hq⟩))
  case first=>
   rcases aa with rfl|rfl
   ·by_cases s:k=80
    ·subst s;unfold my at*;go_wp2_with fail
     go_meet
     exact⟨rfl,x⟩
    ·have p1:(k==80)=false:=by rw[aL];exact s
     have Y:=ad (I5 s);clear s;unfold my at*;go_wp2_with fail
     go_meet
     exact⟨by rw[Y.o],x⟩
   ·by_cases s:k=443
    ·subst s;unfold ir at*;go_wp2_with fail
     go_meet
     exact⟨rfl,x⟩
    ·have p1:(k==443)=false:=by rw[aL];exact s
     have Y:=ad (FV s);clear s;unfold ir at*;go_wp2_with fail
     go_meet
     exact⟨by rw[Y.o],x⟩
  case rest=>
   obtain⟨rfl,J⟩:=hcut;clear l n j d h q f1 Z d1 R x aa;have T:=ad (show iB ⟨i,r,k,pa,b,hq⟩=bif rS i k then 0 else k from rfl);have j:=J.o.box.cells.c2;have Z:=J.o.box.full.f2;simp only at j;generalize lower r=y at*;generalize rS i k=pb at*;generalize iB ⟨i,r,k,pa,b,hq⟩=z at*
   go_upto_if 28 with fail
   go_cut [] (fun L=>Hid (NA w L ⟨i,y,z,pa,b,hq⟩))
   case first=>
    cases pb
    ·have V:=ad (show NA w _ ⟨i,y,z,pa,b,hq⟩ by rw[T.o];exact J.o);go_wp2_with fail
     go_meet
     exact V
    ·have V:=ad (show NA w _ ⟨i,y,z,pa,b,hq⟩ by rw[T.o];exact J.o.s2 0);go_wp2_with fail
     go_meet
     exact V
   case rest=>
    have ab:=hcut;clear hcut j Z J T;have X:=ad (ab.o.next (ar _ _).drew);obtain⟨d,h⟩:=X.o.box.Wh;simp only at d h;clear ab;go_upto_region 6 with fail
    go_cut [] (fun L=>Hid (NA w L ⟨i,y,z,fO (aW pa),aW b,hq⟩))
    case first=>
     go_region_with
      (first
       |(go_at_call 136;(with_reducible refine (FW ⟨pa.toArray⟩ _ ai.o q1.out).m ?_);rintro e w5⟨rfl,an⟩;have S:=ad (X.o.next an);obtain⟨d,h⟩:=S.o.box.Wh;clear an;rw[show(⟨pa.toArray⟩:aaM).data.toList=pa from rfl])
       |(go_at_call 135;refine(Qt (aW pa) _ (HG.o.next S.o.below).aq q3.out).m ?_;rintro e w6⟨rfl,ao⟩;have ac:=ad (S.o.next ao);obtain⟨d,h⟩:=ac.o.box.Wh;clear ao)
       |(go_at_call 136;(with_reducible refine (FW ⟨b.toArray⟩ _ a0.o q2.out).m ?_);rintro e w7⟨rfl,ap⟩;have O:=ad (ac.o.next ap);obtain⟨d,h⟩:=O.o.box.Wh;have f3:=O.o.box.full.f3;have f4:=O.o.box.full.f4;clear ap;rw[show(⟨b.toArray⟩:aaM).data.toList=b from rfl]))
     all_goals
      have af:=O.o.s3 (fO (aW pa));have H:=ad (show NA w _ ⟨i,y,z,fO (aW pa),aW b,hq⟩ from af.s4 (aW b));clear af;go_wp2_with fail
      go_meet
      exact H
    case rest=>have H:=hcut;clear hcut d h X;have aN:=ad (show ji ⟨i,r,k,pa,b,hq⟩=⟨i,y,z,fO (aW pa),aW b,hq⟩ from HB.o);clear HB;generalize fO (aW pa)=dp at*;generalize aW b=dq at*;have K:=ad (jC ⟨i,y,z,dp,dq,hq⟩ H.o.below (fB _) H.o.res);obtain⟨l,n,j,d,h,q⟩:=H.o.box.cells;simp only at l n j d h q;have a:=H.o.res.full;obtain⟨r0,r1,r2,r3,r4,r5⟩:=a.c;have g0:=a.f0;have g1:=a.f1;have g2:=a.f2;have g3:=a.f3;have g4:=a.f4;have g5:=a.f5;clear a;go_wp2_with fail;clear r0 r1 r2 r3 r4 r5 g0 g1 g2 g3 g4 g5 l n j d h q;obtain⟨A,B,C,D,E,F⟩:=K.o.1.cells;unfold dL at A B C D E F;simp only at A B C D E F;refine aD (v:=uV ⟨i,y,z,dp,dq,hq⟩) ?_ rfl ⟨by rw[aN.o],K.o.2⟩;simp[results,Tryz.f98,go_sem,A,B,C,D,E,F]
 ·have HE:=ad (Tb I);have K:=ad (jC cm G.o.below (fB _) G.o.res);have a:=G.o.res.full;obtain⟨r0,r1,r2,r3,r4,r5⟩:=a.c;have g0:=a.f0;have g1:=a.f1;have g2:=a.f2;have g3:=a.f3;have g4:=a.f4;have g5:=a.f5;clear a;rcases l9 I with h3|h3;all_goals
   rw[h3];clear I h3;go_wp2_with fail;clear r0 r1 r2 r3 r4 r5 g0 g1 g2 g3 g4 g5;obtain⟨A,B,C,D,E,F⟩:=K.o.1.cells;unfold dL at A B C D E F;simp only[cm] at A B C D E F;refine aD (v:=uV cm) ?_ rfl ⟨by rw[HE.o],K.o.2⟩;simp[results,Tryz.f98,go_sem,A,B,C,D,E,F,cm]
end Go.Proofs.YtlemddnecmmfgaaGreatDoor
namespace Go.Proofs.YtlemddnecmmfgaaGreatDoor
open Go.RowKit Go.ChangeShapes Go.WideShapes
theorem X0:wv (Tryz.prog.underlying 23)=some [(0,9),(1,9),(2,3),(3,9),(4,9),(5,4)]:=by kernel_rfl
theorem aad:Tryz.prog.cellsOf 23=6:=by kernel_rfl
structure Z5 (u:U):Prop where
 scheme:u.scheme.length≤140737488351232
 host:u.host.length≤140737488351232
 path:u.path.length≤140737488351232
 query:u.query.length≤140737488351232
section
variable{H:Type}{enc:TypeId×Value→H}{W:World}{held:Bool}
end
end Go.Proofs.YtlemddnecmmfgaaGreatDoor
namespace Go.Proofs.YtlemddnecmmfgaaGreatDoor
open Go.RowKit
end Go.Proofs.YtlemddnecmmfgaaGreatDoor
