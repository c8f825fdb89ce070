/- The walk of Normal: the normal form. -/
import Derived.Test.YtogchgjfialleaaGreatDoorKbj
set_option linter.unusedVariables false
set_option maxRecDepth 100000
set_option maxHeartbeats 4000000
namespace Go.Proofs.YtogchgjfialleaaGreatDoor
open Go.RowKit
theorem Qj(r:Bs):(r.contains 47=false→lead (·!=47) r=r.length)∧
 (⟨r.toArray⟩:ByteArray).extract 0 (lead (·!=47) r)=⟨(r.takeWhile (·!=47)).toArray⟩∧(⟨r.toArray⟩:ByteArray).extract (lead (·!=47) r) r.length=⟨(r.dropWhile (·!=47)).toArray⟩∧lead (·!=47) r≤r.length:=by
 refine⟨?_,dU (by rw[cf,←cU];simp),dU (by rw[cf,←cz];exact oe (by simp)),iV _ _⟩;intro h;have a:=ld 47 r h;unfold upto at a;unfold lead;rw[a]
theorem IV(r:Bs):(r.contains 47=false→r.dropWhile (·!=47)=[])∧(r.contains 47=true→r.dropWhile (·!=47)≠[]):=by
 constructor
 ·intro h;have a:=ld 47 r h;unfold upto at a;have b:lead (·!=47) r=r.length:=by unfold lead;rw[a]
  rw[←cz,b,List.drop_length]
 ·intro h e;have:=kx 47 r h;rw[←cz] at e;have:=congrArg List.length e;rw[bK] at this;simp at this;omega
theorem A2(s:ByteArray)(w:World)(hg:GX w)(hs:s.size≤100000000):
 Calls Tryz.prog 60 #[.string s] w (cN w (dE (cZ s.data.toList))):=by
 have Y:=ad hg;clear hg;by_cases hl:s.size≤1024
 ·have bp:(s.size:Int)≤1024:=by omega
  have HP:=ad (U7 w);have HE:=ad (Fz (s:=s.data.toList) (by rw[bj];exact hl));go_enter Tryz.func60,Tryz.ntmps60;go_wp2_with fail;generalize(w.alloc (.cells #[.string ⟨#[]⟩,.string ⟨#[]⟩,.int .i64 0,.string ⟨#[]⟩,.string ⟨#[]⟩,.bool false] 34)).alloc (.cells #[.string ⟨#[]⟩,.string ⟨#[]⟩,.int .i64 0,.string ⟨#[]⟩,.string ⟨#[]⟩,.bool false] 34)=W0 at*;refine(JK s ⟨#[58,47,47]⟩ W0 (Y.out.next HP.out.below).aq (by omega)).mono ?_;rintro e w1⟨rfl,a4⟩;have aN:=ad (HP.out.next a4);have a1:LF s.data.toList=⟨(Lib.cut s.data.toList fN).1,(upto 63 (Lib.cut s.data.toList fN).2.1).takeWhile (·!=47),0,if(upto 63 (Lib.cut s.data.toList fN).2.1).dropWhile (·!=47)=[] then[47] else(upto 63 (Lib.cut s.data.toList fN).2.1).dropWhile (·!=47),past 63 (Lib.cut s.data.toList fN).2.1,(Lib.cut s.data.toList fN).2.1.contains 63⟩:=rfl;have a9:(⟨#[58,47,47]⟩:ByteArray).data.toList=fN:=rfl;rw[a9];have a8:(Lib.cut s.data.toList fN).1.length≤1024∧(Lib.cut s.data.toList fN).2.1.length≤1024:=SV _ _ (by rw[bj];exact hl);generalize Lib.cut s.data.toList fN=ct at*;obtain⟨o,t,fd⟩:=ct;simp only at a1 a8;have HR:=ad a1;clear a1 a9 a4 HP;obtain⟨b0,b2⟩:=a8;have b1:=aN.out.box.full;obtain⟨x,u,y,z,A,B⟩:=b1.c;have f0:=b1.f0;clear b1 u y z A B;go_wp2_with fail;have aU:=ad (aN.out.s0 o);generalize w1.setCell ⟨w.heap.size+1,0,none⟩ (.string ⟨o.toArray⟩)=W2 at*;clear x f0 aN;refine(fI ⟨t.toArray⟩ 63 W2 (Y.out.next aU.out.below).aq (by show t.length<_;omega)).mono ?_;rintro e w3⟨rfl,a6⟩;have a0:=ad (aU.out.next a6);rw[show(⟨t.toArray⟩:ByteArray).data.toList=t from rfl,show hasB 63 t=t.contains 63 from rfl];have b9:=oZ 63 t;have b7:=ij 63 t;generalize upto 63 t=r at*;generalize past 63 t=q at*;generalize t.contains 63=hq at*;clear a6 aU;have b1:=a0.out.box.full;obtain⟨x,u,y,z,A,B⟩:=b1.c;have f4:=b1.f4;have f5:=b1.f5;clear b1 x u y z;go_wp2_with fail;have an:=ad ((a0.out.s4 q).s5 hq);generalize(w3.setCell ⟨w.heap.size+1,4,none⟩ (.string ⟨q.toArray⟩)).setCell ⟨w.heap.size+1,5,none⟩ (.bool hq)=W4 at*;clear A B f4 f5 a0;refine(eO ⟨r.toArray⟩ 47 W4).mono ?_;rintro e w5⟨rfl,rfl⟩;rw[show(⟨r.toArray⟩:ByteArray).data.toList=r from rfl];have HX:=ad (Qj r);have bk:=ad (IV r);generalize hh:r.takeWhile (·!=47)=h at*;generalize hp:r.dropWhile (·!=47)=P at*;have b3:h.length≤1024:=by have:=iV (·!=47) r;unfold lead at this;rw[hh] at this;omega
  have bo:P.length≤1024:=by have:=cB (·!=47) r;rw[hp] at this;omega
  clear hh hp;have b1:=an.out.box.full;obtain⟨x,u,y,z,A,B⟩:=b1.c;have f1:=b1.f1;have f3:=b1.f3;clear b1 x y A B;obtain⟨path,ap⟩:∃path,(if P=[] then[47] else P)=path:=⟨_,rfl⟩;have b5:path.length≤1024:=by
   rw[←ap];by_cases e:P=[]
   ·rw[ah e];decide
   ·rw[ae e];exact bo
  rw[ap] at HR;generalize hL:lead (·!=47) r=aa at*;clear hL;obtain⟨av,ai⟩:∃av:Int,(if r.contains 47=true then(aa:Int) else-1)=av:=⟨_,rfl⟩;rw[ai];have a2:=ad (show(av<0∧aa=r.length)∨av=(aa:Int) by
   cases hr:r.contains 47
   ·rw[hr] at ai;exact .inl ⟨by rw[←ai];simp,HX.out.1 hr⟩
   ·rw[hr,ah rfl] at ai;exact .inr ai.symm)
  clear ai
  go_upto_if 35 with fail
  go_cut [6] (fun s6 wx=>W4=wx∧s6=.int .i64 (aa:Int))
  case first=>
   rcases a2.out with⟨z1,bm⟩|rfl
   ·go_wp2_with fail
    go_meet
    exact⟨rfl,by rw[bm]⟩
   ·have z1:¬((aa:Int)<0):=by omega
    have z2:(0:Int)≤(aa:Int):=by omega
    go_wp2_with fail
    go_meet
    exact⟨rfl,rfl⟩
  case rest=>
   obtain⟨rfl,rfl⟩:=hcut;obtain⟨e1,e2,e3⟩:=HX.out.2;have z1:(0:Int)≤(aa:Int):=by omega
   have z2:(aa:Int)≤(r.length:Int):=by omega
   go_wp2_with fail;go_region
   go_upto_if 48 with fail
   go_cut [] (fun wx=>Hid (PA w wx ⟨o,h,0,path,q,hq⟩))
   case first=>
    by_cases hP:P=[]
    ·subst hP;obtain rfl:[47]=path:=ap;have Z:=ad ((((an.out.s1 h).s3 []).s3 [47]).next (ar _ _).drew);go_wp2_with fail
     go_meet
     exact Z
    ·obtain rfl:P=path:=by rw[←ap,ae hP]
     have bn:P.isEmpty=false:=by cases P with|nil=>exact(hP rfl).elim|cons a b=>rfl
     have Z:=ad (((an.out.s1 h).s3 P).next (ar _ _).drew);have bJ:¬(P.isEmpty=true):=by rw[bn];simp
     go_wp2_with fail
     go_meet
     exact Z
   case rest=>
    have Z:=hcut;clear hcut e1 e2 e3 z1 z2 u z f1 f3 an HX bk a2;have u:=Z.out.box.cells.c1;simp only at u;go_wp2_with fail;clear u;refine(fI ⟨h.toArray⟩ 58 _ (Y.out.next Z.out.below).aq (by show h.length<_;omega)).mono ?_;rintro e w7⟨rfl,a7⟩;have S:=ad (Z.out.next a7);rw[show(⟨h.toArray⟩:ByteArray).data.toList=h from rfl,show hasB 58 h=h.contains 58 from rfl];have ca:=oZ 58 h;have b8:=ij 58 h;clear a7 Z;rcases ao:h.contains 58 with _|_
    ·have R:=ad (show cZ s.data.toList=if aQ ⟨o,h,0,path,q,hq⟩=0 then(⟨o,h,0,path,q,hq⟩,0) else(cm,aQ ⟨o,h,0,path,q,hq⟩) by rw[HE.out,HR.out];exact FA ao);clear ao;have b1:=S.out.box.full;obtain⟨x,u,y,z,A,B⟩:=b1.c;clear b1;simp only at x u y z A B;go_wp2_with fail;refine(kJ ⟨o,h,0,path,q,hq⟩ _ (Y.out.next S.out.below) ⟨by show o.length≤_;omega,by show h.length≤_;omega,by show path.length≤_;omega,by show q.length≤_;omega⟩).mono ?_;rintro e w9⟨rfl,am⟩;have C:=ad (S.out.next am);clear am x u y z A B;by_cases X:aQ ⟨o,h,0,path,q,hq⟩=0
     ·rw[X];have ac:=ad (show cZ s.data.toList=(⟨o,h,0,path,q,hq⟩,0) by rw[R.out,ah X]);have p:=ad (jC ⟨o,h,0,path,q,hq⟩ C.out.below (ag _) C.out.res);have d:=C.out.res.full;obtain⟨J,K,L,M,N,O⟩:=d.c;have D:=d.f0;have E:=d.f1;have F:=d.f2;have G:=d.f3;have H:=d.f4;have I:=d.f5;obtain⟨x,u,y,z,A,B⟩:=C.out.box.cells;simp only at x u y z A B;clear d X;go_wp2_with fail;clear J K L M N O D E F G H I x u y z A B;obtain⟨i,j,k,l,m,n⟩:=p.out.1.cells;unfold dL at i j k l m n;simp only at i j k l m n;refine aD (v:=dE (⟨o,h,0,path,q,hq⟩,0)) ?_ rfl ⟨by rw[ac.out],p.out.2⟩;simp[results,Tryz.f60,go_sem,i,j,k,l,m,n]
     ·have ac:=ad (show cZ s.data.toList=(cm,aQ ⟨o,h,0,path,q,hq⟩) by rw[R.out,ae X]);generalize aQ ⟨o,h,0,path,q,hq⟩=er at*;have p:=ad (jC cm C.out.below (ag _) C.out.res);have d:=C.out.res.full;obtain⟨J,K,L,M,N,O⟩:=d.c;have D:=d.f0;have E:=d.f1;have F:=d.f2;have G:=d.f3;have H:=d.f4;have I:=d.f5;clear d;go_wp2_with fail;clear J K L M N O D E F G H I;obtain⟨i,j,k,l,m,n⟩:=p.out.1.cells;unfold dL at i j k l m n;simp only[cm] at i j k l m n;refine aD (v:=dE (cm,er)) ?_ rfl ⟨by rw[ac.out],p.out.2⟩;simp[results,Tryz.f60,go_sem,i,j,k,l,m,n,cm]
    ·have HT:=ad (show cZ s.data.toList=nY ⟨o,h,0,path,q,hq⟩ by rw[HE.out,HR.out]);have al:=ad ao;clear ao;generalize bb:upto 58 h=ho at*;generalize bd:past 58 h=po at*;have af:=ad bd;have be:=ad bb;clear bd bb;go_wp2_with fail;rcases V:Lib.atoiAll po with v|_|_
     ·have ay:=ad V;have bx:=Qk V;obtain⟨bs,bv⟩:=bx;refine(FB ⟨po.toArray⟩ v w7 V (by show po.length≤_;omega)).mono ?_;rintro e w8⟨rfl,ab⟩;have T:=ad (S.out.next ab);clear ab S V;go_wp2_with fail;refine(Mi v w8 (Y.out.next T.out.below) bs bv).mono ?_;rintro e w9⟨rfl,am⟩;have W:=ad (T.out.next am);clear am T;by_cases hit:Lib.itoa v=po
      ·rw[hit];have bf:=ad hit;clear hit;by_cases hv:v<1
       ·have R:=ad (show cZ s.data.toList=(cm,4) by rw[HT.out];exact lx al.out (by show cy (past 58 h)=0;rw[af.out];exact wD (fun v' Q=>by rw[ay.out] at Q;injection Q with Q;exact .inr (by omega))));have p:=ad (jC cm W.out.below (ag _) W.out.res);have d:=W.out.res.full;obtain⟨J,K,L,M,N,O⟩:=d.c;have D:=d.f0;have E:=d.f1;have F:=d.f2;have G:=d.f3;have H:=d.f4;have I:=d.f5;clear d;go_wp2_with fail;clear J K L M N O D E F G H I;obtain⟨i,j,k,l,m,n⟩:=p.out.1.cells;unfold dL at i j k l m n;simp only[cm] at i j k l m n;refine aD (v:=dE (cm,4)) ?_ rfl ⟨by rw[R.out],p.out.2⟩;simp[results,Tryz.f60,go_sem,i,j,k,l,m,n,cm]
       ·have br:(1:Int)≤v:=by omega
        have R:=ad (show cZ s.data.toList=if aQ ⟨o,ho,v,path,q,hq⟩=0 then(⟨o,ho,v,path,q,hq⟩,0) else(cm,aQ ⟨o,ho,v,path,q,hq⟩) by rw[HT.out,←be.out];exact FC al.out (by rw[af.out];exact ay.out) (by rw[af.out];exact bf.out) br);have b1:=W.out.box.full;obtain⟨x,u,y,z,A,B⟩:=b1.c;have f1:=b1.f1;have f2:=b1.f2;have b6:=((W.out.s1 ho).s2 v).box.cells;obtain⟨d0,d1,d2,d3,d4,d5⟩:=b6;clear b1;simp only at x u y z A B d0 d1 d2 d3 d4 d5;clear x z A B d1 d2;have a3:=ad ((W.out.s1 ho).s2 v);go_wp2_with fail;clear d0 d3 d4 d5 u y f1 f2;generalize(w9.setCell ⟨w.heap.size+1,1,none⟩ (.string ⟨ho.toArray⟩)).setCell ⟨w.heap.size+1,2,none⟩ (.int .i64 v)=bl at*;refine(kJ ⟨o,ho,v,path,q,hq⟩ bl (Y.out.next a3.out.below) ⟨by show o.length≤_;omega,by show ho.length≤_;omega,by show path.length≤_;omega,by show q.length≤_;omega⟩).mono ?_;rintro e cb⟨rfl,a5⟩;have C:=ad (a3.out.next a5);clear a5;by_cases X:aQ ⟨o,ho,v,path,q,hq⟩=0
        ·rw[X];have ac:=ad (show cZ s.data.toList=(⟨o,ho,v,path,q,hq⟩,0) by rw[R.out,ah X]);have p:=ad (jC ⟨o,ho,v,path,q,hq⟩ C.out.below (ag _) C.out.res);have d:=C.out.res.full;obtain⟨J,K,L,M,N,O⟩:=d.c;have D:=d.f0;have E:=d.f1;have F:=d.f2;have G:=d.f3;have H:=d.f4;have I:=d.f5;obtain⟨x,u,y,z,A,B⟩:=C.out.box.cells;simp only at x u y z A B;clear d X;go_wp2_with fail;clear J K L M N O D E F G H I x u y z A B;obtain⟨i,j,k,l,m,n⟩:=p.out.1.cells;unfold dL at i j k l m n;simp only at i j k l m n;refine aD (v:=dE (⟨o,ho,v,path,q,hq⟩,0)) ?_ rfl ⟨by rw[ac.out],p.out.2⟩;simp[results,Tryz.f60,go_sem,i,j,k,l,m,n]
        ·have ac:=ad (show cZ s.data.toList=(cm,aQ ⟨o,ho,v,path,q,hq⟩) by rw[R.out,ae X]);generalize aQ ⟨o,ho,v,path,q,hq⟩=er at*;have p:=ad (jC cm C.out.below (ag _) C.out.res);have d:=C.out.res.full;obtain⟨J,K,L,M,N,O⟩:=d.c;have D:=d.f0;have E:=d.f1;have F:=d.f2;have G:=d.f3;have H:=d.f4;have I:=d.f5;clear d;go_wp2_with fail;clear J K L M N O D E F G H I;obtain⟨i,j,k,l,m,n⟩:=p.out.1.cells;unfold dL at i j k l m n;simp only[cm] at i j k l m n;refine aD (v:=dE (cm,er)) ?_ rfl ⟨by rw[ac.out],p.out.2⟩;simp[results,Tryz.f60,go_sem,i,j,k,l,m,n,cm]
      ·have R:=ad (show cZ s.data.toList=(cm,4) by rw[HT.out];exact lx al.out (by show cy (past 58 h)=0;rw[af.out];exact wD (fun v' Q=>by rw[ay.out] at Q;injection Q with Q;exact .inl (by rw[←Q];exact hit))));have b4:(Lib.itoa v==po)=false:=by rw[aL];exact hit
       have p:=ad (jC cm W.out.below (ag _) W.out.res);have d:=W.out.res.full;obtain⟨J,K,L,M,N,O⟩:=d.c;have D:=d.f0;have E:=d.f1;have F:=d.f2;have G:=d.f3;have H:=d.f4;have I:=d.f5;clear d;go_wp2_with fail;clear J K L M N O D E F G H I;obtain⟨i,j,k,l,m,n⟩:=p.out.1.cells;unfold dL at i j k l m n;simp only[cm] at i j k l m n;refine aD (v:=dE (cm,4)) ?_ rfl ⟨by rw[R.out],p.out.2⟩;simp[results,Tryz.f60,go_sem,i,j,k,l,m,n,cm]
     ·refine(CE ⟨po.toArray⟩ w7 (Y.out.next S.out.below) V (by show po.length≤_;omega)).mono ?_;rintro e w8⟨v8,rfl,ab⟩;have T:=ad (S.out.next ab);have R:=ad (show cZ s.data.toList=(cm,4) by rw[HT.out];exact lx al.out (by show cy (past 58 h)=0;rw[af.out];exact wD (fun v' Q=>by rw[V] at Q;cases Q)));clear ab S V;have p:=ad (jC cm T.out.below (ag _) T.out.res);have d:=T.out.res.full;obtain⟨J,K,L,M,N,O⟩:=d.c;have D:=d.f0;have E:=d.f1;have F:=d.f2;have G:=d.f3;have H:=d.f4;have I:=d.f5;clear d;go_wp2_with fail;clear J K L M N O D E F G H I;obtain⟨i,j,k,l,m,n⟩:=p.out.1.cells;unfold dL at i j k l m n;simp only[cm] at i j k l m n;refine aD (v:=dE (cm,4)) ?_ rfl ⟨by rw[R.out],p.out.2⟩;simp[results,Tryz.f60,go_sem,i,j,k,l,m,n,cm]
     ·refine(CF ⟨po.toArray⟩ w7 (Y.out.next S.out.below) V (by show po.length≤_;omega)).mono ?_;rintro e w8⟨v8,n8,rfl,ab⟩;have T:=ad (S.out.next ab);have R:=ad (show cZ s.data.toList=(cm,4) by rw[HT.out];exact lx al.out (by show cy (past 58 h)=0;rw[af.out];exact wD (fun v' Q=>by rw[V] at Q;cases Q)));clear ab S V;have p:=ad (jC cm T.out.below (ag _) T.out.res);have d:=T.out.res.full;obtain⟨J,K,L,M,N,O⟩:=d.c;have D:=d.f0;have E:=d.f1;have F:=d.f2;have G:=d.f3;have H:=d.f4;have I:=d.f5;clear d;go_wp2_with fail;clear J K L M N O D E F G H I;obtain⟨i,j,k,l,m,n⟩:=p.out.1.cells;unfold dL at i j k l m n;simp only[cm] at i j k l m n;refine aD (v:=dE (cm,4)) ?_ rfl ⟨by rw[R.out],p.out.2⟩;simp[results,Tryz.f60,go_sem,i,j,k,l,m,n,cm]
 ·have bp:(1024:Int)<(s.size:Int):=by omega
  have HE:=ad (IW (s:=s.data.toList) (by rw[bj];omega));have bg:=ad (show ma (w.alloc (.cells #[.string ⟨#[]⟩,.string ⟨#[]⟩,.int .i64 0,.string ⟨#[]⟩,.string ⟨#[]⟩,.bool false] 34)) w.heap.size cm from au w _);have bi:=ad ((ar w.heap.size w).alloc (ag _) (.cells #[.string ⟨#[]⟩,.string ⟨#[]⟩,.int .i64 0,.string ⟨#[]⟩,.string ⟨#[]⟩,.bool false] 34));go_enter Tryz.func60,Tryz.ntmps60;go_wp2_with fail;obtain⟨i,j,k,l,m,n⟩:=bg.out.cells;simp only[cm] at i j k l m n;refine aD (v:=dE (cm,3)) ?_ rfl ⟨by rw[HE.out],bi.out⟩;simp[results,Tryz.f60,go_sem,i,j,k,l,m,n,cm]
end Go.Proofs.YtogchgjfialleaaGreatDoor
namespace Go.Proofs.YtogchgjfialleaaGreatDoor
open Go.RowKit
abbrev VH(u:U):Obj:=.cells #[.string ⟨u.scheme.toArray⟩,.string ⟨u.host.toArray⟩,.int .i64 u.port,.string ⟨u.path.toArray⟩,.string ⟨u.query.toArray⟩,.bool u.hq] 34
end Go.Proofs.YtogchgjfialleaaGreatDoor
namespace Go.Proofs.YtogchgjfialleaaGreatDoor
open Go.RowKit
theorem QD:∀n:Nat,n<256→bits .or .u8 (n:Int) 32=((n|||32:Nat):Int):=by decide+kernel
theorem Tc:∀n:Nat,n<256→(97≤n∧n≤102∨65≤n∧n≤70)→97≤(n|||32)∧(n|||32)≤102∧(n|||32)-87=(if 97≤n then n-87 else n-55):=by decide+kernel
theorem Mv{c:UInt8}(h:dS c=true):(48≤(c.toNat:Int)∧(c.toNat:Int)≤57∧(fA c:Int)=c.toNat-48)∨
 (57<(c.toNat:Int)∧((c.toNat:Int)==95)=false∧∃a:Int,bits .or .u8 (c.toNat:Int) 32=a∧97≤a∧a≤102∧(fA c:Int)=a-87):=by
 unfold dS at h;have e:=dv h;unfold fA;by_cases b:c.toNat≤57
 ·rw[ah b];left;omega
 ·rw[ae b];right;have d:=Tc c.toNat c.toNat_lt (by omega);refine⟨by omega,by rw[aL];omega,_,QD c.toNat c.toNat_lt,by omega,by omega, ?_⟩;rw[←d.2.2];omega
def lB(a b:UInt8):Nat→Int
 |0=>0
 |1=>(fA a:Int)
 |_=>16*(fA a:Int)+(fA b:Int)
theorem QE(a b:UInt8)(d:dS a=true)(e:dS b=true)(k:Nat)(i:k<2):
 ∃c,[a,b].getD k 0=c∧dS c=true∧0≤lB a b k∧lB a b k≤15∧lB a b (k+1)=lB a b k*16+(fA c:Int):=by
 have j:=tz d;rcases Nat.lt_or_ge k 1 with h|h
 ·obtain rfl:k=0:=by omega
  exact⟨a,rfl,d,by show(0:Int)≤0;omega,by show(0:Int)≤15;omega,by show(fA a:Int)=0*16+_;omega⟩
 ·obtain rfl:k=1:=by omega
  exact⟨b,rfl,e,by show(0:Int)≤(fA a:Int);omega,by show(fA a:Int)≤15;omega,by show 16*(fA a:Int)+_=(fA a:Int)*16+_;omega⟩
theorem uE(c:Int)(w:World):
 Calls Tryz.prog 235 #[.int .u8 c] w fun e w'=>e=.returned (.int .u8 (bits .or .u8 c 32))∧w=w':=by
 go_enter Tryz.func235,Tryz.ntmps235;go_wp2;go_ret;exact⟨rfl,rfl⟩
theorem CN(a b:UInt8)(x:dS a=true)(y:dS b=true)(w:World):
 Calls Tryz.prog 196 #[.string ⟨[a,b].toArray⟩,.int .i64 16,.int .i64 8] w (cN w (.tuple #[.int .u64 (lB a b 2),.nilIface])):=by
 have D:=Lib.run_convert_string_bytes (P:=Tryz.prog) w 9 63 5 ⟨[a,b].toArray⟩ u9 u63 u5;have m:∀j,j<2→(Lib.bytesWorld w 5 ⟨[a,b].toArray⟩).cell? ⟨w.heap.size,j,none⟩=some (.int .u8 ([a,b].getD j 0).toNat):=fun j E=>Lib.bytesWorld_cell w 5 ⟨[a,b].toArray⟩ j E;have p:=Lib.hid (Lib.bytesWorld_below w 5 ⟨[a,b].toArray⟩);have B:=Lib.hid (QE a b x y);obtain⟨q,u⟩:∃q,q=Lib.bytesWorld w 5 ⟨[a,b].toArray⟩:=⟨_,rfl⟩;rw[←u] at D m p;clear u x y;have N:IntKind.u64.wrap (IntKind.u64.wrap 256-1)=255:=by rw[IntKind.wrap_u64,IntKind.wrap_u64];decide
 have A:=Lib.hid m;clear m;go_enter Tryz.func196,Tryz.ntmps196;go_wp2_with fail
 go_loop [12,13,101] (fun G F n=>∃k:Nat,G=.bool false∧n=.int .i64 k∧k≤2∧F=.int .u64 (lB a b k)) (fun _ _ n=>2-(intOf n).toNat)
 case atStart=>exact⟨0,rfl,rfl,by omega,rfl⟩
 case round=>
  obtain⟨k,rfl,rfl,M,rfl⟩:=hrel;by_cases z:k<2
  ·have C:=A.out k z;obtain⟨c,s,l,J,K,t⟩:=B.out k z;rw[s] at C;clear s;have o:=Lib.hid t;clear t;have L:c.toNat<256:=c.toNat_lt;generalize lB a b k=v at*;rcases Mv l with⟨d1,d2,i⟩|⟨d1,H,O,d2,i,I,r⟩
   ·have h:=Lib.hid i;clear i l;go_wp2_with fail
    go_round
    case rel=>exact⟨k+1,rfl,by go_num,by omega,by rw[o.out,h.out]⟩
    case measure=>simp[intOf];omega
   ·have h:=Lib.hid r;have d:=Lib.hid d2;clear r l d2;go_wp2_with fail;refine(uE _ _).mono ?_;rintro e w'⟨rfl,rfl⟩;rw[d.out];go_wp2_with fail;refine(uE _ _).mono ?_;rintro e w'⟨rfl,rfl⟩;rw[d.out];go_wp2_with fail;refine(uE _ _).mono ?_;rintro e w'⟨rfl,rfl⟩;rw[d.out];go_wp2_with fail
    go_round
    case rel=>exact⟨k+1,rfl,by go_num,by omega,by rw[o.out,h.out];go_num⟩
    case measure=>simp[intOf];omega
  ·obtain rfl:k=2:=by omega
   generalize lB a b 2=v at*;go_wp2_with fail;go_ret2;exact⟨rfl,p.out⟩
theorem CO(a b:UInt8)(c:dS a=true)(d:dS b=true)(w:World):
 Calls Tryz.prog 154 #[.string ⟨[a,b].toArray⟩,.int .i64 16,.int .i64 8] w (cN w (.tuple #[.int .u64 (lB a b 2),.nilIface])):=by
 have H:=Lib.hid (CN a b c d w);generalize lB a b 2=v at*;clear c d;go_enter Tryz.func154,Tryz.ntmps154;go_wp2_with fail;refine H.out.mono ?_;rintro e j⟨rfl,h⟩;have i:=Lib.hid h;clear h;go_wp2_with fail;go_ret2;exact⟨rfl,i.out⟩
end Go.Proofs.YtogchgjfialleaaGreatDoor
namespace Go.Proofs.YtogchgjfialleaaGreatDoor
open Go.RowKit
theorem rT(c:UInt8):Lib.upperB c=rY c:=by
 have:∀n:Nat,n<256→Lib.upperB (UInt8.ofNat n)=rY (UInt8.ofNat n):=by decide+kernel
 have h:=this c.toNat c.toNat_lt
 rwa [UInt8.ofNat_toNat] at h
theorem I6(a b:UInt8)(k:dS a=true)(l:dS b=true)(w:World):
 Calls Tryz.prog 155 #[.string ⟨#[37,a,b]⟩] w (cN w (.string ⟨[37,rY a,rY b].toArray⟩)):=by
 have i:∀c,dS c=true→c.toNat<128:=by intro c h;have:=dv (show decide _=true from h);omega
 have h:=Tryz.strings_ToUpper_ascii ⟨#[37,a,b]⟩ w (by show 3≤_;omega) (by
  intro j c m;have d:c∈[37,a,b]:=eQ m;simp only[bL,uK,or_false] at d;rcases d with rfl|rfl|rfl
  ·decide
  ·exact i _ k
  ·exact i _ l)
 have e:Lib.toUpperA (⟨#[37,a,b]⟩:ByteArray).data.toList=[37,rY a,rY b]:=by show[Lib.upperB 37,Lib.upperB a,Lib.upperB b]=_;rw[rT,rT,rT];rfl
 rw[e] at h;exact h
theorem Mw(c:UInt8):lz.contains c=gY c:=congrFun FL c
theorem Mx(v:Int)(c:UInt8)(a:v=(c.toNat:Int))(w:World):
 Calls Tryz.prog 47 #[.string ⟨lz.toArray⟩,.int .u8 v] w fun e w'=>(∃i:Int,e=.returned (.int .i64 i)∧decide (0≤i)=gY c)∧w=w':=by
 refine(Tryz.strings_IndexByte ⟨lz.toArray⟩ v w).mono ?_;rintro e w'⟨rfl,rfl⟩;subst a;refine⟨⟨_,rfl, ?_⟩,rfl⟩;rw[Int.toNat_natCast,show c.toNat.toUInt8=c from UInt8.ofNat_toNat,indexB,show(⟨lz.toArray⟩:ByteArray).data.toList=lz from rfl,Mw];cases gY c
 ·rfl
 ·exact bN (by simp)
structure UI (w0:World) (bb:Nat) (s:ByteArray) (k:Nat) (w:World):Prop where
 Wi:∃out,BA w bb (bb+1) out∧out++aW (s.data.toList.drop k)=aW s.data.toList
 room:bb+1≤w.heap.size
 JV:Below w0.heap.size w0 w
theorem UI.wrote{c w e h:World}{a:Nat}{s:ByteArray}{k j:Nat}{out p:Bs}(x:UI c a s k w)(i:c.heap.size≤a)(d:Below w.heap.size w e)(m:out++aW (s.data.toList.drop k)=aW s.data.toList)
 (n:aW (s.data.toList.drop k)=p++aW (s.data.toList.drop j))(b:MQ a (a+1) (out++p) e h):UI c a s j h:=by
 have l:=x.JV.trans (d.mono x.JV.size);exact⟨⟨_,b.1,by rw[jl,←n,m]⟩,bP x.room (bP d.size b.2.size),l.trans (b.2.below (by omega) i)⟩
theorem UI.next{c w w':World}{b:Nat}{s:ByteArray}{k:Nat}(x:UI c b s k w)(a:Below w.heap.size w w'):UI c b s k w':=by obtain⟨out,d,e⟩:=x.Wi;exact⟨⟨out,d.next a,e⟩,bP x.room a.size,x.JV.trans (a.mono x.JV.size)⟩
theorem Kk{out r t:Bs}(h:out++r=t)(a:t.length≤1000000):out.length≤1000000:=by rw[←h] at a;simp at a;omega
theorem My(X:World)(d:Nat)(s:ByteArray)(M:X.heap.size≤d)(G:(aW s.data.toList).length≤1000000):
 SX 153 #[.pointer (some ⟨d,0,none⟩)] s (UI X d s):=by
 refine⟨fun k w w' x m=>x.next m, ?_, ?_⟩
 ·intro k c r w o hc x;have A:s.data.toList.drop (k+1)=r:=by rw[←fh,o];rfl
  have B:aW (s.data.toList.drop k)=[c]++aW (s.data.toList.drop (k+1)):=by rw[A,o];exact dG hc
  obtain⟨out,y,l⟩:=x.Wi;have E:=Lib.hid B;have L:=Lib.hid x;have I:=Lib.hid y;have D:=Lib.hid l;have ac:=Kk l G;have S:=Lib.hid x.room;clear o A B x y l G;show Calls Tryz.prog 153 #[.string ⟨#[c]⟩,.pointer (some ⟨d,0,none⟩)] w _;go_enter Tryz.func153,Tryz.ntmps153;go_wp2_with fail;refine(pR d (d+1) out ⟨#[c]⟩ w I.out S.out (by show out.length+1≤_;omega)).mono ?_;rintro e Y⟨rfl,h⟩;have t:=Lib.hid (L.out.wrote M (Below.refl _ _) D.out E.out h);clear h;go_wp2_with fail
  go_end0
  exact⟨rfl,t.out⟩
 ·intro k a b r w o N x;have A:s.data.toList.drop (k+3)=r:=by rw[←fh,o];rfl
  have B:aW (s.data.toList.drop k)=tw a b++aW (s.data.toList.drop (k+3)):=by rw[A,o];exact gQ N
  rw[cW] at N;obtain⟨z,m⟩:=N;obtain⟨out,y,l⟩:=x.Wi;have O:=S8 z m;have af:=tz z;have ai:=tz m;have C:lB a b 2=((UInt8.ofNat (16*fA a+fA b)).toNat:Int):=by rw[O];show 16*(fA a:Int)+(fA b:Int)=_;omega
  have an:0≤lB a b 2:=by rw[C];omega
  have ao:lB a b 2≤255:=by rw[C,O];omega
  have HP:=Lib.hid (CO a b z m w);have HT:=Lib.hid (fun W=>I6 a b z m W);have Z:=Lib.hid (fun W=>Mx (lB a b 2) _ C W);have HV:=Lib.hid C;have V:tw a b=if gY (UInt8.ofNat (16*fA a+fA b)) then[UInt8.ofNat (16*fA a+fA b)] else[37,rY a,rY b]:=rfl;generalize UInt8.ofNat (16*fA a+fA b)=c at*;have E:=Lib.hid B;have R:=Lib.hid V;have L:=Lib.hid x;have I:=Lib.hid y;have D:=Lib.hid l;have ac:=Kk l G;have S:=Lib.hid x.room;have am:(⟨#[37,a,b]⟩:ByteArray).extract 1 3=⟨[a,b].toArray⟩:=dU (by rw[cf];rfl);clear o A B x y l G z m O af ai C V;generalize lB a b 2=v at*;show Calls Tryz.prog 153 #[.string ⟨#[37,a,b]⟩,.pointer (some ⟨d,0,none⟩)] w _;go_enter Tryz.func153,Tryz.ntmps153;go_wp2_with fail;refine HP.out.mono ?_;rintro e H⟨rfl,F⟩;have T:=Lib.hid (L.out.next F);have Q:=Lib.hid (I.out.next F);have al:=Lib.hid F;clear F;go_wp2_with fail;refine(Z.out H).mono ?_;rintro e ap⟨⟨i,rfl,p⟩,rfl⟩;rcases q:gY c with _|_
  ·rw[q] at p;have ab:i<0:=by have:=tF p;omega
   have K:=Lib.hid q;clear q p;go_wp2_with fail;refine(HT.out H).mono ?_;rintro e Y⟨rfl,n⟩;have u:=Lib.hid (T.out.next n);have J:=Lib.hid (Q.out.next n);clear n;go_wp2_with fail;refine(pR d (d+1) out ⟨[37,rY a,rY b].toArray⟩ Y J.out u.out.room (by show out.length+3≤_;omega)).mono ?_;rintro e w3⟨rfl,h⟩;have t:=Lib.hid (u.out.wrote (j:=k+3) M (Below.refl _ _) D.out (by rw[E.out,R.out,K.out];rfl) h);clear h;go_wp2_with fail
   go_end0
   exact⟨rfl,t.out⟩
  ·rw[q] at p;have ab:0≤i:=dv p;have K:=Lib.hid q;have aa:=fun W=>QC W c v HV.out;have n:=(Below.refl H.heap.size H).alloc (ag _) (.cells #[.int .u8 v] 5);have u:=Lib.hid (T.out.next n);have J:=Lib.hid (Q.out.next n);clear q p n;go_wp2_with fail;clear aa;refine(pR d (d+1) out ⟨[c].toArray⟩ _ J.out u.out.room (by show out.length+1≤_;omega)).mono ?_;rintro e w3⟨rfl,h⟩;have t:=Lib.hid (u.out.wrote (j:=k+3) M (Below.refl _ _) D.out (by rw[E.out,R.out,K.out];rfl) h);clear h;go_wp2_with fail
   go_end0
   exact⟨rfl,t.out⟩
theorem FW(s:ByteArray)(w:World)(a:js s.data.toList=true)(q:s.size≤1000000):
 Calls Tryz.prog 108 #[.string s] w (cN w (.string ⟨(aW s.data.toList).toArray⟩)):=by
 have c:(aW s.data.toList).length≤1000000:=by have:=tA (p:=fun _=>true) a;rw[bj] at this;omega
 have m:=Lib.hid a;have k:=Lib.hid (QU w (w.heap.size+1));have l:=Lib.hid (My w w.heap.size s (ag _) c);have t:=Lib.hid c;clear a c;go_enter Tryz.func108,Tryz.ntmps108;go_wp2_with fail;refine(CK _ s _ l.out _ ⟨⟨[],k.out,by rw[List.drop_zero];rfl⟩,by simp,(Below.refl _ _).alloc (ag _) _⟩ q).mono ?_;rintro e r(⟨a,rfl,x⟩|⟨a,_⟩)
 ·obtain⟨out,d,b⟩:=x.Wi;rw[←bj,List.drop_length,show aW []=[] from rfl,jm] at b;have i:=Lib.hid d;have j:=Lib.hid b;have o:=Lib.hid x.JV;clear d b x a;go_wp2_with fail;refine(C2 _ _ out r i.out (by omega)).mono ?_;rintro e u⟨rfl,h⟩;have n:=Lib.hid (o.out.trans h);clear h;go_wp2_with fail;go_ret;exact⟨by rw[j.out];rfl,n.out⟩
 ·rw[m.out] at a;cases a
end Go.Proofs.YtogchgjfialleaaGreatDoor
namespace Go.Proofs.YtogchgjfialleaaGreatDoor
open Go.RowKit
structure NA (w W:World) (u:U):Prop where
 below:Below w.heap.size w W
 box:ma W w.heap.size u
 res:ma W (w.heap.size+1) cm
theorem NA.next{w W W':World}{u:U}(h:NA w W u)(a:Below W.heap.size W W'):NA w W' u:=⟨h.below.trans (a.mono h.below.size),h.box.next a,h.res.next a⟩
theorem NA.put{w W:World}{u a:U}(h:NA w W u)(j:Nat)(v:Value)(b:ma (W.setCell ⟨w.heap.size,j,none⟩ v) w.heap.size a):NA w (W.setCell ⟨w.heap.size,j,none⟩ v) a:=
 ⟨h.below.setCell (p:=⟨w.heap.size,j,none⟩) (ag _) v,b,h.res.other (by omega)⟩
theorem NA.s1{w W:World}{u:U}(h:NA w W u)(x:Bs):NA w (W.setCell ⟨w.heap.size,1,none⟩ (.string ⟨x.toArray⟩)) {u with host:=x}:=h.put 1 _ (h.box.s1 x)
theorem NA.s2{w W:World}{u:U}(h:NA w W u)(x:Int):NA w (W.setCell ⟨w.heap.size,2,none⟩ (.int .i64 x)) {u with port:=x}:=h.put 2 _ (h.box.s2 x)
theorem NA.s3{w W:World}{u:U}(h:NA w W u)(x:Bs):NA w (W.setCell ⟨w.heap.size,3,none⟩ (.string ⟨x.toArray⟩)) {u with path:=x}:=h.put 3 _ (h.box.s3 x)
theorem NA.s4{w W:World}{u:U}(h:NA w W u)(x:Bs):NA w (W.setCell ⟨w.heap.size,4,none⟩ (.string ⟨x.toArray⟩)) {u with query:=x}:=h.put 4 _ (h.box.s4 x)
theorem Hn(w:World)(u:U):NA w ((w.alloc (.cells #[.string ⟨u.scheme.toArray⟩,.string ⟨u.host.toArray⟩,.int .i64 u.port,.string ⟨u.path.toArray⟩,.string ⟨u.query.toArray⟩,.bool u.hq] 34)).alloc (.cells #[.string ⟨#[]⟩,.string ⟨#[]⟩,.int .i64 0,.string ⟨#[]⟩,.string ⟨#[]⟩,.bool false] 34)) u:=
 have h:=jG w (.cells #[.string ⟨u.scheme.toArray⟩,.string ⟨u.host.toArray⟩,.int .i64 u.port,.string ⟨u.path.toArray⟩,.string ⟨u.query.toArray⟩,.bool u.hq] 34) (.cells #[.string ⟨#[]⟩,.string ⟨#[]⟩,.int .i64 0,.string ⟨#[]⟩,.string ⟨#[]⟩,.bool false] 34)
 ⟨h.below,h.b1,h.b2⟩
theorem ma.Wh{W:World}{b:Nat}{u:U}(h:ma W b u):W.cell? ⟨b,3,none⟩=some (.string ⟨u.path.toArray⟩)∧W.cell? ⟨b,4,none⟩=some (.string ⟨u.query.toArray⟩):=⟨h.cells.c3,h.cells.c4⟩
def rS(b:Bs)(a:Int):Bool:=b==my&&a==80||b==ir&&a==443
theorem I5{a:Int}(h:¬a=80):rS my a=false:=by unfold rS;rw[show(a==80)=false from by rw[aL];exact h,show(my==ir)=false from by decide];simp
theorem FV{a:Int}(h:¬a=443):rS ir a=false:=by unfold rS;rw[show(a==443)=false from by rw[aL];exact h,show(ir==my)=false from by decide];simp
theorem Tb{u:U}(h:¬aQ u=0):ji u=cm:=by
 unfold ji;cases a:okB u
 ·rfl
 ·exact(h ((eC u).2 a)).elim
theorem l9{u:U}(h:¬aQ u=0):aQ u=3∨aQ u=4:=by
 unfold aQ at h⊢;cases b:gK u
 ·exact .inr rfl
 ·rw[b] at h;cases a:decide ((gU u).length≤ee)
  ·exact .inl rfl
  ·rw[a] at h;exact(h rfl).elim
theorem rH(u:U)(w:World)(hg:GX w)(hl:xv u):Calls Tryz.prog 62 #[uV u] w (cN w (uV (ji u))):=by
 have L:=ad (Hn w u);have HG:=ad hg;have K:=ad hl;clear hg hl;obtain⟨l,m,j,d,h,n⟩:=L.out.box.cells;go_enter Tryz.func62,Tryz.ntmps62;go_wp2_with fail;generalize(w.alloc (.cells #[.string ⟨u.scheme.toArray⟩,.string ⟨u.host.toArray⟩,.int .i64 u.port,.string ⟨u.path.toArray⟩,.string ⟨u.query.toArray⟩,.bool u.hq] 34)).alloc (.cells #[.string ⟨#[]⟩,.string ⟨#[]⟩,.int .i64 0,.string ⟨#[]⟩,.string ⟨#[]⟩,.bool false] 34)=W at*;refine(kJ u W (HG.out.next L.out.below) K.out).mono ?_;rintro e w1⟨rfl,al⟩;have E:=ad (L.out.next al);clear al l m j d h n L;by_cases G:aQ u=0
 ·have HO:=ad ((eC u).1 G);have N:=HO.out;unfold okB at N;rw[cW,ef] at N;have f:=N.1;obtain⟨pr,av,ay⟩:=f.path;have ai:=ad (show js u.path=true by rw[av];exact rO (fun _ _=>rfl) ay);have a0:=ad (show js u.query=true from rO (fun _ _=>rfl) f.made);have aa:=f.scheme;have HB:=ad (FU HO.out);have l1:=K.out.path;have l2:=K.out.query;have l3:=K.out.host;have aU:=ad (tA (p:=fun _=>true) ai.out);rw[G];clear G N f av ay;obtain⟨i,o,k,pa,b,hq⟩:=u;simp only at aa l1 l2 l3;obtain⟨l,m,j,d,h,n⟩:=E.out.box.cells;simp only at l m j d h n;go_wp2_with fail;refine(nU ⟨o.toArray⟩ w1 (by show o.length≤_;omega)).mono ?_;rintro e w2⟨rfl,am⟩;have O:=ad (E.out.next am);clear am l m j d h n E;rw[show(⟨o.toArray⟩:ByteArray).data.toList=o from rfl];have a:=O.out.box.full;have f1:=a.f1;have d1:=a.c.c1;simp only at d1;have r:=ad (O.out.s1 (lower o));simp only at r;obtain⟨l,m,j,d,h,n⟩:=r.out.box.cells;simp only at l m j d h n;have X:=r.out.box.full.f2;clear a;have q1:(⟨pa.toArray⟩:ByteArray).size≤1000000:=by show pa.length≤_;omega
  have q2:(⟨b.toArray⟩:ByteArray).size≤1000000:=by show b.length≤_;omega
  have q3:(aW pa).length≤100000:=by have:=aU.out;omega
  have q1:=ad q1;have q2:=ad q2;have q3:=ad q3;go_upto_region 4 with fail
  go_cut [28] (fun t J=>t=.bool (rS i k)∧Hid (NA w J ⟨i,lower o,k,pa,b,hq⟩))
  case first=>
   rcases aa with rfl|rfl
   ·by_cases q:k=80
    ·subst q;unfold my at*;go_wp2_with fail
     go_meet
     exact⟨rfl,r⟩
    ·have p1:(k==80)=false:=by rw[aL];exact q
     have V:=ad (I5 q);clear q;unfold my at*;go_wp2_with fail
     go_meet
     exact⟨by rw[V.out],r⟩
   ·by_cases q:k=443
    ·subst q;unfold ir at*;go_wp2_with fail
     go_meet
     exact⟨rfl,r⟩
    ·have p1:(k==443)=false:=by rw[aL];exact q
     have V:=ad (FV q);clear q;unfold ir at*;go_wp2_with fail
     go_meet
     exact⟨by rw[V.out],r⟩
  case rest=>
   obtain⟨rfl,H⟩:=hcut;clear l m j d h n f1 X d1 O r aa;have R:=ad (show iB ⟨i,o,k,pa,b,hq⟩=bif rS i k then 0 else k from rfl);have j:=H.out.box.cells.c2;have X:=H.out.box.full.f2;simp only at j;generalize lower o=s at*;generalize rS i k=pb at*;generalize iB ⟨i,o,k,pa,b,hq⟩=x at*
   go_upto_if 28 with fail
   go_cut [] (fun J=>Hid (NA w J ⟨i,s,x,pa,b,hq⟩))
   case first=>
    cases pb
    ·have S:=ad (show NA w _ ⟨i,s,x,pa,b,hq⟩ by rw[R.out];exact H.out);go_wp2_with fail
     go_meet
     exact S
    ·have S:=ad (show NA w _ ⟨i,s,x,pa,b,hq⟩ by rw[R.out];exact H.out.s2 0);go_wp2_with fail
     go_meet
     exact S
   case rest=>
    have ab:=hcut;clear hcut j X H R;have T:=ad (ab.out.next (ar _ _).drew);obtain⟨d,h⟩:=T.out.box.Wh;simp only at d h;clear ab;go_upto_region 6 with fail
    go_cut [] (fun J=>Hid (NA w J ⟨i,s,x,fO (aW pa),aW b,hq⟩))
    case first=>
     go_region_with
      (first
       |(go_at_call 108;(with_reducible refine (FW ⟨pa.toArray⟩ _ ai.out q1.out).mono ?_);rintro e w5⟨rfl,an⟩;have Q:=ad (T.out.next an);obtain⟨d,h⟩:=Q.out.box.Wh;clear an;rw[show(⟨pa.toArray⟩:ByteArray).data.toList=pa from rfl])
       |(go_at_call 107;refine(Qt (aW pa) _ (HG.out.next Q.out.below).aq q3.out).mono ?_;rintro e w6⟨rfl,ao⟩;have ac:=ad (Q.out.next ao);obtain⟨d,h⟩:=ac.out.box.Wh;clear ao)
       |(go_at_call 108;(with_reducible refine (FW ⟨b.toArray⟩ _ a0.out q2.out).mono ?_);rintro e w7⟨rfl,ap⟩;have M:=ad (ac.out.next ap);obtain⟨d,h⟩:=M.out.box.Wh;have f3:=M.out.box.full.f3;have f4:=M.out.box.full.f4;clear ap;rw[show(⟨b.toArray⟩:ByteArray).data.toList=b from rfl]))
     all_goals
      have af:=M.out.s3 (fO (aW pa));have F:=ad (show NA w _ ⟨i,s,x,fO (aW pa),aW b,hq⟩ from af.s4 (aW b));clear af;go_wp2_with fail
      go_meet
      exact F
    case rest=>have F:=hcut;clear hcut d h T;have aN:=ad (show ji ⟨i,o,k,pa,b,hq⟩=⟨i,s,x,fO (aW pa),aW b,hq⟩ from HB.out);clear HB;generalize fO (aW pa)=dp at*;generalize aW b=dq at*;have I:=ad (jC ⟨i,s,x,dp,dq,hq⟩ F.out.below (fB _) F.out.res);obtain⟨l,m,j,d,h,n⟩:=F.out.box.cells;simp only at l m j d h n;have a:=F.out.res.full;obtain⟨r0,r1,r2,r3,r4,r5⟩:=a.c;have Y:=a.f0;have Z:=a.f1;have g2:=a.f2;have g3:=a.f3;have g4:=a.f4;have g5:=a.f5;clear a;go_wp2_with fail;clear r0 r1 r2 r3 r4 r5 Y Z g2 g3 g4 g5 l m j d h n;obtain⟨y,z,A,B,C,D⟩:=I.out.1.cells;unfold dL at y z A B C D;simp only at y z A B C D;refine aD (v:=uV ⟨i,s,x,dp,dq,hq⟩) ?_ rfl ⟨by rw[aN.out],I.out.2⟩;simp[results,Tryz.f62,go_sem,y,z,A,B,C,D]
 ·have HE:=ad (Tb G);have I:=ad (jC cm E.out.below (fB _) E.out.res);have a:=E.out.res.full;obtain⟨r0,r1,r2,r3,r4,r5⟩:=a.c;have Y:=a.f0;have Z:=a.f1;have g2:=a.f2;have g3:=a.f3;have g4:=a.f4;have g5:=a.f5;clear a;rcases l9 G with h3|h3;all_goals
   rw[h3];clear G h3;go_wp2_with fail;clear r0 r1 r2 r3 r4 r5 Y Z g2 g3 g4 g5;obtain⟨y,z,A,B,C,D⟩:=I.out.1.cells;unfold dL at y z A B C D;simp only[cm] at y z A B C D;refine aD (v:=uV cm) ?_ rfl ⟨by rw[HE.out],I.out.2⟩;simp[results,Tryz.f62,go_sem,y,z,A,B,C,D,cm]
