/- The walks of resolve's scheme and within. -/
import Derived.Test.YtlemddnecmmfgaaGreatDoorKbb
set_option linter.unusedVariables false
set_option maxRecDepth 100000
set_option maxHeartbeats 2000000
namespace Go.Proofs.YtlemddnecmmfgaaGreatDoor
open Go.RowKit
variable{a:Bs}{j:Int}{x:U}{b q:aaK}
theorem Ew(c:UInt8):Lib.lowerB c=ui c:=by
 have:∀n:Nat,n<256→Lib.lowerB (UInt8.ofNat n)=ui (UInt8.ofNat n):=by decide+kernel
 have h:=this c.toNat c.toNat_lt
 rwa [UInt8.ofNat_toNat] at h
theorem Ha(l:Bs)(d:l.length≤100000)(a:∀c∈l,c.toNat<128)(w:aaK):
 Calls Tryz.prog 132 #[.string ⟨l.toArray⟩] w (cN w (.string ⟨(lower l).toArray⟩)):=by
 have h:=Tryz.strings_ToLower_ascii ⟨l.toArray⟩ w (by show l.length≤_;omega) (by intro j c b;exact a c (eQ b))
 have e:Lib.toLowerA (⟨l.toArray⟩:aaM).data.toList=lower l:=by show l.map Lib.lowerB=lower l;unfold lower;congr 1;funext c;exact Ew c
 rw[e] at h;exact h
theorem Lz(c:UInt8):mW.contains c=rG c:=congrFun Ey c
theorem LA(c:UInt8)(w:aaK):
 Calls Tryz.prog 30 #[.string ⟨mW.toArray⟩,.int .u8 (c.toNat:Int)] w fun e w'=>(∃i:Int,e=.returned (.int .i64 i)∧decide (i<0)= !rG c)∧w=w':=by
 refine(eO ⟨mW.toArray⟩ c w).m ?_;rintro e w'⟨rfl,rfl⟩;refine⟨⟨_,rfl, ?_⟩,rfl⟩;rw[show(⟨mW.toArray⟩:aaM).data.toList=mW from rfl,Lz];cases rG c
 ·rfl
 ·exact cL (by simp)
theorem Y7(h:a.all Hb=true):∀c∈a,c.toNat<128:=by intro c b;have:=dv (eV.1 h c b);omega
theorem Ez(s:Bs)(w:aaK)(a:s.length≤1000000):Calls Tryz.prog 27 #[.string ⟨s.toArray⟩,.string ⟨nN.toArray⟩] w (cN w (.string ⟨(Lib.trimS s nN).toArray⟩)):=
 XM ⟨s.toArray⟩ ⟨nN.toArray⟩ w (by show s.length≤_;omega) (by decide) (ascii_of_all (by decide))
theorem OQ(h:a.all Hb=true):Lib.trimS a nN=[]:=by have:=mX a nN;rw[A0,h] at this;exact eq_of_beq this
theorem EA(h:a.all Hb=false):(Lib.trimS a nN).isEmpty=false:=by
 have:=mX a nN;rw[A0,h] at this;cases b:Lib.trimS a nN
 ·rw[b] at this;cases this
 ·rfl
def OR(r:Bs):aaL:=if xY r=true then .tuple #[.string ⟨(lower (upto 58 r)).toArray⟩,.string ⟨(past 58 r).toArray⟩,.bool true] else .tuple #[.string ⟨#[]⟩,.string ⟨#[]⟩,.bool false]
theorem JS{r:Bs}(h:xY r=false):OR r=.tuple #[.string ⟨#[]⟩,.string ⟨#[]⟩,.bool false]:=by unfold OR;rw[h];rfl
theorem EB{r:Bs}(h:xY r=true):OR r=.tuple #[.string ⟨(lower (upto 58 r)).toArray⟩,.string ⟨(past 58 r).toArray⟩,.bool true]:=by unfold OR;rw[ah h]
theorem Hg(r:Bs)(w:aaK)(A:Good w)(I:r.length≤100000):
 Calls Tryz.prog 95 #[.string ⟨r.toArray⟩] w (cN w (OR r)):=by
 have F:=ad A;clear A;have s:=ad (show xY r=(r.contains 58&&OT (upto 58 r)) from rfl);have K:=ph 58 r;have G:=ad (fun h=>EB (r:=r) h);have n:=ad (fun h=>JS (r:=r) h);go_enter Tryz.func95,Tryz.ntmps95;go_wp2_with fail;refine(fI ⟨r.toArray⟩ 58 w F.o (by show r.length<_;omega)).m ?_;rintro e B⟨rfl,x⟩;rw[show(⟨r.toArray⟩:aaM).data.toList=r from rfl,show hasB 58 r=r.contains 58 from rfl];have l:=ad x;clear x;generalize upto 58 r=nm at*;generalize past 58 r=rest at*;rcases j:r.contains 58 with _|_
 ·have a:=ad (n.o (by rw[s.out,j];rfl));clear j;go_wp2_with fail
  go_ret3
  exact⟨by rw[a.o];rfl,l.o⟩
 ·rcases nm with _|⟨c,q⟩
  ·have a:=ad (n.o (by rw[s.out,j];rfl));clear j;go_wp2_with fail
   go_ret3
   exact⟨by rw[a.o];rfl,l.o⟩
  ·have u:=ad (show xY r=(rG c&&(c::q).all Hb) by rw[s.out,j];rfl);have L:∀h,((⟨(c::q).toArray⟩:aaM)[0]'h)=c:=fun _=>rfl
   clear j;go_wp2_with fail;refine(LA c B).m ?_;rintro e C⟨⟨i,rfl,k⟩,rfl⟩;rcases b:rG c with _|_
   ·rw[b] at k;have a:=ad (n.o (by rw[u.out,b];rfl));have H:i<0:=dv k;clear k b;go_wp2_with fail
    go_ret3
    exact⟨by rw[a.o];rfl,l.o⟩
   ·rw[b] at k;have H:¬i<0:=tF k;clear k;go_wp2_with fail;refine(Ez (c::q) B (by omega)).m ?_;rintro e C⟨rfl,y⟩;have p:=ad (l.o.t (y.m l.o.size));clear y;rcases d:(c::q).all Hb with _|_
    ·have a:=ad (n.o (by rw[u.out,b,d];rfl));have J:=EA d;clear b d;go_wp2_with fail
     go_ret3
     exact⟨by rw[a.o];rfl,p.o⟩
    ·have a:=ad (G.o (by rw[u.out,b,d];rfl));have D:=ad (Y7 d);rw[OQ d];clear b d;go_wp2_with fail;refine(Ha (c::q) (by omega) D.o C).m ?_;rintro e M⟨rfl,z⟩;have E:=ad (p.o.t (z.m p.o.size));clear z;go_wp2_with fail
     go_ret3
     exact⟨by rw[a.o];rfl,E.o⟩
end Go.Proofs.YtlemddnecmmfgaaGreatDoor
namespace Go.Proofs.YtlemddnecmmfgaaGreatDoor
open Go.RowKit
variable{a:Bs}{j:Int}{x:U}{b q:aaK}
theorem NA.s5{w W:aaK}{u:U}(h:NA w W u)(x:Bool):NA w (W.setCell ⟨w.heap.size,5,none⟩ (.bool x)) {u with hq:=x}:=h.put 5 _ (h.box.s5 x)
theorem zD(l:Bs)(b:l.length≤1000000)(a:l.contains 47=true)(w:aaK):
 Calls Tryz.prog 134 #[.string ⟨l.toArray⟩,.int .u8 47] w fun e w'=>e=.returned (.int .i64 (pn l:Int))∧w=w':=by
 refine(Tryz.strings_LastIndexByte ⟨l.toArray⟩ 47 (by show l.length<_;omega) w).m ?_;rintro e w'⟨rfl,rfl⟩;exact⟨by rw[(A1 a).1],rfl⟩
theorem EC{u:U}{r:Bs}(a:upto 63 r=[])(b:r.contains 63=false):dN u r=u:=by unfold dN withQuery;rw[a,ah ⟨rfl,b⟩];rfl
theorem Cg{u:U}{r:Bs}(a:upto 63 r=[])(b:r.contains 63=true):dN u r={u with query:=past 63 r,hq:=true}:=by unfold dN withQuery;rw[a,b,ae (by simp)];rfl
theorem Hi{u:U}{r q:Bs}(a:upto 63 r=47::q):dN u r={u with query:=past 63 r,hq:=r.contains 63,path:=47::q}:=by unfold dN withQuery;rw[a,ae (by simp)];rfl
theorem Hj{u:U}{r q:Bs}{c:UInt8}(a:upto 63 r=c::q)(b:c≠47):dN u r={u with query:=past 63 r,hq:=r.contains 63,path:=u.path.take (pn u.path+1)++(c::q)}:=by unfold dN withQuery;rw[a,ae (by simp)];show(if c=47 then _ else _)=_;rw[ae b]
theorem Hk(u:U)(r:Bs)(w:aaK)(hg:Good w)(hr:r.length≤4000)(hp:u.path.contains 47=true)(an:u.path.length≤4000):
 Calls Tryz.prog 97 #[uV u,.string ⟨r.toArray⟩] w (cN w (uV (dN u r))):=by
 have HN:=ad (Hn w u);have HG:=ad hg;have ap:=ph 63 r;have aN:=xZ 63 r;have HP:=ad hp;clear hg hp;have aa:=ad (EC (u:=u) (r:=r));have ab:=ad (Cg (u:=u) (r:=r));have ac:=ad (fun q=>Hi (u:=u) (r:=r) (q:=q));have af:=ad (fun q c=>Hj (u:=u) (r:=r) (q:=q) (c:=c));obtain⟨I,G,H,pa,qu,hq⟩:=u;simp only at an;go_enter Tryz.func97,Tryz.ntmps97;go_wp2_with fail;generalize(w.alloc (.cells #[.string ⟨I.toArray⟩,.string ⟨G.toArray⟩,.int .i64 H,.string ⟨pa.toArray⟩,.string ⟨qu.toArray⟩,.bool hq] 23)).alloc (.cells #[.string ⟨#[]⟩,.string ⟨#[]⟩,.int .i64 0,.string ⟨#[]⟩,.string ⟨#[]⟩,.bool false] 23)=W at*;refine(fI ⟨r.toArray⟩ 63 W (HG.o.next HN.o.below) (by show r.length<_;omega)).m ?_;rintro e w1⟨rfl,al⟩;rw[show(⟨r.toArray⟩:aaM).data.toList=r from rfl,show hasB 63 r=r.contains 63 from rfl];have B:=ad (HN.o.next al);clear al HN;generalize dN ⟨I,G,H,pa,qu,hq⟩ r=aq at*;generalize upto 63 r=p at*;generalize past 63 r=q at*;generalize r.contains 63=has at*;rcases p with _|⟨c,t⟩
 ·cases has
  ·have K:=ad (aa.o rfl rfl);clear aa ab ac af;have C:=ad (jC ⟨I,G,H,pa,qu,hq⟩ B.o.below (fB _) B.o.res);obtain⟨D,E,F,j,b,d⟩:=B.o.box.cells;simp only at D E F j b d;have a:=B.o.res.full;obtain⟨S,T,V,X,Y,Z⟩:=a.c;have L:=a.f0;have M:=a.f1;have N:=a.f2;have O:=a.f3;have Q:=a.f4;have R:=a.f5;clear a;go_wp2_with fail;clear S T V X Y Z L M N O Q R D E F j b d;obtain⟨n,s,x,y,z,A⟩:=C.o.1.cells;unfold dL at n s x y z A;simp only at n s x y z A;refine aD (v:=uV ⟨I,G,H,pa,qu,hq⟩) ?_ rfl ⟨by rw[K.o],C.o.2⟩;simp[results,Tryz.f97,go_sem,n,s,x,y,z,A]
  ·have K:=ad (ab.o rfl rfl);clear aa ab ac af;have b:=B.o.box.cells.c4;have f4:=B.o.box.full.f4;simp only at b;have l:=ad (B.o.s4 q);simp only at l;have d:=l.o.box.cells.c5;have f5:=l.o.box.full.f5;simp only at d;have i:=ad (l.o.s5 true);simp only at i;have C:=ad (jC ⟨I,G,H,pa,q,true⟩ i.o.below (fB _) i.o.res);obtain⟨D,E,F,j,b,d⟩:=i.o.box.cells;simp only at D E F j b d;have a:=i.o.res.full;obtain⟨S,T,V,X,Y,Z⟩:=a.c;have L:=a.f0;have M:=a.f1;have N:=a.f2;have O:=a.f3;have Q:=a.f4;have R:=a.f5;clear a;go_wp2_with fail;clear S T V X Y Z L M N O Q R D E F j b d;obtain⟨n,s,x,y,z,A⟩:=C.o.1.cells;unfold dL at n s x y z A;simp only at n s x y z A;refine aD (v:=uV ⟨I,G,H,pa,q,true⟩) ?_ rfl ⟨by rw[K.o],C.o.2⟩;simp[results,Tryz.f97,go_sem,n,s,x,y,z,A]
 ·have hx:∀h,((⟨(c::t).toArray⟩:aaM)[0]'h)=c:=fun _=>rfl
  by_cases hc:c=47
  ·subst hc;have aU:((47:UInt8).toNat:Int)=47:=rfl;have K:=ad (ac.o t rfl);clear aa ab ac af;have b:=B.o.box.cells.c4;have f4:=B.o.box.full.f4;simp only at b;have l:=ad (B.o.s4 q);simp only at l;have d:=l.o.box.cells.c5;have f5:=l.o.box.full.f5;simp only at d;have i:=ad (l.o.s5 has);simp only at i;have j:=i.o.box.cells.c3;have f3:=i.o.box.full.f3;simp only at j;have J:=ad (i.o.s3 (47::t));simp only at J;have C:=ad (jC ⟨I,G,H,47::t,q,has⟩ J.o.below (fB _) J.o.res);obtain⟨D,E,F,j,b,d⟩:=J.o.box.cells;simp only at D E F j b d;have a:=J.o.res.full;obtain⟨S,T,V,X,Y,Z⟩:=a.c;have L:=a.f0;have M:=a.f1;have N:=a.f2;have O:=a.f3;have Q:=a.f4;have R:=a.f5;clear a;go_wp2_with fail;clear S T V X Y Z L M N O Q R D E F j b d;obtain⟨n,s,x,y,z,A⟩:=C.o.1.cells;unfold dL at n s x y z A;simp only at n s x y z A;refine aD (v:=uV ⟨I,G,H,47::t,q,has⟩) ?_ rfl ⟨by rw[K.o],C.o.2⟩;simp[results,Tryz.f97,go_sem,n,s,x,y,z,A]
  ·have av:((c.toNat:Int)==47)=false:=by rw[aL];exact fun e=>hc (by rw[Ei];show c.toNat=47;omega)
   have K:=ad (af.o t c rfl hc);clear aa ab ac af;have b:=B.o.box.cells.c4;have f4:=B.o.box.full.f4;simp only at b;have l:=ad (B.o.s4 q);simp only at l;have d:=l.o.box.cells.c5;have f5:=l.o.box.full.f5;simp only at d;have i:=ad (l.o.s5 has);simp only at i;have am:=A1 HP.o;have ay:=am.2;have HC:=ad (zD pa (by omega) HP.o);clear am HP;generalize pn pa=k at*;have ao:∀W,(Op.stringOp .add ⟨(pa.take (k+1)).toArray⟩ ⟨(c::t).toArray⟩).run Tryz.prog W=.ok (.string ⟨(pa.take (k+1)++c::t).toArray⟩) W:=by intro W;have:=run_string_add_sum (P:=Tryz.prog) W ⟨(pa.take (k+1)).toArray⟩ ⟨(c::t).toArray⟩ (by show(pa.take (k+1)).length+(c::t).length≤_;simp at ap⊢;omega);rw[Ho] at this;exact this
   have hex:(⟨pa.toArray⟩:aaM).extract 0 (k+1)=⟨(pa.take (k+1)).toArray⟩:=dU (by rw[cf];simp);have j:=i.o.box.cells.c3;have f3:=i.o.box.full.f3;simp only at j;have J:=ad (i.o.s3 (pa.take (k+1)++c::t));simp only at J;have z1:(k:Int)+1≤(pa.length:Int):=by omega
   have z2:(0:Int)≤(k:Int)+1:=by omega
   have z3:((k:Int)+1).toNat=k+1:=by omega
   have z4:IntKind.i64.wrap ((k:Int)+1)=(k:Int)+1:=Xu _ (by omega);generalize pa.take (k+1)++c::t=np at*;generalize pa.take (k+1)=tk at*;go_wp2_with fail;generalize(w1.setCell ⟨w.heap.size,4,none⟩ (.string ⟨q.toArray⟩)).setCell ⟨w.heap.size,5,none⟩ (.bool has)=W3 at*;clear b f4 d f5 B l;have ai:=ad (show NA w (W3.setCell ⟨w.heap.size,3,none⟩ (.string ⟨np.toArray⟩)).drew ⟨I,G,H,np,q,has⟩ from J.o.next (ar _ _).drew)
   go_region_with ((go_at_call 134;refine(HC.o _).m ?_;rintro e w'⟨rfl,rfl⟩))
   all_goals
    generalize(W3.setCell ⟨w.heap.size,3,none⟩ (.string ⟨np.toArray⟩)).drew=W5 at*;clear j f3 i J ao hex hx;have C:=ad (jC ⟨I,G,H,np,q,has⟩ ai.o.below (fB _) ai.o.res);obtain⟨D,E,F,j,b,d⟩:=ai.o.box.cells;simp only at D E F j b d;have a:=ai.o.res.full;obtain⟨S,T,V,X,Y,Z⟩:=a.c;have L:=a.f0;have M:=a.f1;have N:=a.f2;have O:=a.f3;have Q:=a.f4;have R:=a.f5;clear a;go_wp2_with fail;clear S T V X Y Z L M N O Q R D E F j b d;obtain⟨n,s,x,y,z,A⟩:=C.o.1.cells;unfold dL at n s x y z A;simp only at n s x y z A;refine aD (v:=uV ⟨I,G,H,np,q,has⟩) ?_ rfl ⟨by rw[K.o],C.o.2⟩;simp[results,Tryz.f97,go_sem,n,s,x,y,z,A]
end Go.Proofs.YtlemddnecmmfgaaGreatDoor
namespace Go.Proofs.YtlemddnecmmfgaaGreatDoor
open Go.RowKit
variable{a:Bs}{j:Int}{x:U}{b q:aaK}
theorem ye{v:U}(h:cZ a=(v,j)):j=0∨(v=cm∧(j=3∨j=4)):=by
 unfold cZ at h;cases i:decide (a.length≤ee)
 ·rw[i] at h;injection h with d b;exact .inr ⟨d.symm,.inl b.symm⟩
 ·rw[i,aS] at h;cases k:jh (LF a) with
  |none=>rw[k] at h;injection h with d b;exact .inr ⟨d.symm,.inr b.symm⟩
  |some u=>
   rw[k] at h;change(if aQ u=0 then(u,0) else(cm,aQ u))=(v,j) at h;by_cases e:aQ u=0
   ·rw[ah e] at h;injection h with _ b;exact .inl b.symm
   ·rw[ae e] at h;injection h with d b;rw[←b];exact .inr ⟨d.symm,l9 e⟩
theorem OU{b:U}(h:1024<a.length):eW b a=(cm,3):=by unfold eW;rw[ah h]
theorem Sb(h:¬1024<a.length)(c:¬aQ x=0):eW x a=(cm,2):=by unfold eW;rw[ae h,ae c]
theorem Uv(h:¬1024<a.length)(c:aQ x=0):eW x a=wM x (upto 35 a):=by unfold eW;rw[ae h,ah c]
theorem OV{b:U}(h:xY a=true)(c:lower (upto 58 a)=my∨lower (upto 58 a)=ir)(d:Lib.hasPrefix (past 58 a) qP=true):wM b a=ju (lower (upto 58 a)++58::past 58 a):=by unfold wM;rw[ah h,ah ⟨c,d⟩]
theorem OW{b:U}(h:xY a=true)(c:¬((lower (upto 58 a)=my∨lower (upto 58 a)=ir)∧Lib.hasPrefix (past 58 a) qP=true)):wM b a=(cm,4):=by unfold wM;rw[ah h,ae c]
theorem OX(h:xY a=false)(c:Lib.hasPrefix a qP=true):wM x a=ju (x.scheme++58::a):=by unfold wM;rw[ae (by rw[h];decide),ah c]
theorem Sc(h:xY a=false)(c:Lib.hasPrefix a qP=false):wM x a=hZ (dN x a):=by unfold wM;rw[ae (by rw[h];decide),ae (by rw[c];decide)]
theorem ED{v:U}(h:cZ a=(v,0)):ju a=(ji v,0):=by unfold ju;rw[h];rfl
theorem sO{v:U}(h:cZ a=(v,j))(b:¬j=0):ju a=(cm,j):=by unfold ju;rw[h,ae b]
theorem Ht{v:U}(h:aQ v=0):hZ v=(ji v,0):=by unfold hZ;rw[ah h]
theorem Hu{v:U}(h:¬aQ v=0):hZ v=(cm,aQ v):=by unfold hZ;rw[ae h]
theorem JT(a b:Bs):((⟨a.toArray⟩:aaM)++⟨#[58]⟩++⟨b.toArray⟩).data.toList=a++58::b:=by rw[show(⟨#[58]⟩:aaM)=⟨([58]:Bs).toArray⟩ from rfl,Ho,Ho];simp
structure QS (w W:aaK) (u u9:U) (b9:Nat):Prop where
 na:NA w W u
 box:ma W b9 u9
 lt:w.heap.size+1<b9
theorem QS.next{w W W':aaK}{u u9:U}{a:Nat}(h:QS w W u u9 a)(b:Below W.heap.size W W'):QS w W' u u9 a:=⟨h.na.next b,h.box.next b,h.lt⟩
theorem QS.iD{u u9 c:U}{a j:Nat}{v:aaL}(h:QS b q u u9 a)(e:ma (q.setCell ⟨a,j,none⟩ v) a c):QS b (q.setCell ⟨a,j,none⟩ v) u c a:=by have d:=h.lt;exact⟨⟨h.na.below.setCell (p:=⟨a,j,none⟩) (by show b.heap.size≤a;omega) v,h.na.box.other (by omega),h.na.res.other (by omega)⟩,e,d⟩
theorem QS.Uw{u u9:U}{a:Nat}(h:QS b q u u9 a)(x:U):QS b (dL q a x) u x a:=by have c:=h.iD (h.box.s0 x.scheme);have d:=c.iD (c.box.s1 x.host);have e:=d.iD (d.box.s2 x.port);have i:=e.iD (e.box.s3 x.path);have j:=i.iD (i.box.s4 x.query);exact j.iD (j.box.s5 x.hq)
theorem Ux(h:NA b q x):QS b (q.alloc (VH x)) x x q.heap.size:=by have a:=(ar q.heap.size q).alloc (ag _) (VH x);exact⟨h.next a,sP q x,h.res.lt⟩
theorem OY(u:U)(s:Bs)(w:aaK)(hg:GX w)(aa:∀W,GX W→Calls Tryz.prog 14 #[uV u] W (cN W (.int .i64 (aQ u))))(hs:s.length≤1000000):
 Calls Tryz.prog 48 #[uV u,.string ⟨s.toArray⟩] w (cN w (dE (eW u s))):=by
 have HN:=ad (Hn w u);have HG:=ad hg;have a9:=ad aa;clear hg aa;by_cases O:1024<s.length
 ·have be:(1024:Int)<(s.length:Int):=by omega
  have y:=ad (OU (b:=u) O);clear O;go_enter Tryz.func48,Tryz.ntmps48
  go_upto_if 11 with fail
  generalize(w.alloc (.cells #[.string ⟨u.scheme.toArray⟩,.string ⟨u.host.toArray⟩,.int .i64 u.port,.string ⟨u.path.toArray⟩,.string ⟨u.query.toArray⟩,.bool u.hq] 23)).alloc (.cells #[.string ⟨#[]⟩,.string ⟨#[]⟩,.int .i64 0,.string ⟨#[]⟩,.string ⟨#[]⟩,.bool false] 23)=W at*;have t:=ad (jC cm HN.o.below (fB _) HN.o.res);have d:=HN.o.res.full;obtain⟨F,G,H,I,J,K⟩:=d.c;have z:=d.f0;have A:=d.f1;have B:=d.f2;have C:=d.f3;have D:=d.f4;have E:=d.f5;clear d;go_wp2_with fail;clear F G H I J K z A B C D E;obtain⟨i,j,k,l,n,p⟩:=t.o.1.cells;unfold dL at i j k l n p;simp only[cm] at i j k l n p;refine aD (v:=dE (cm,3)) ?_ rfl ⟨by rw[y.o],t.o.2⟩;simp[results,Tryz.f48,go_sem,i,j,k,l,n,p,cm]
 ·have be:¬((1024:Int)<(s.length:Int)):=by omega
  obtain⟨T,V,X,Y,Z,c5⟩:=HN.o.box.cells;go_enter Tryz.func48,Tryz.ntmps48;go_wp2_with fail;generalize(w.alloc (.cells #[.string ⟨u.scheme.toArray⟩,.string ⟨u.host.toArray⟩,.int .i64 u.port,.string ⟨u.path.toArray⟩,.string ⟨u.query.toArray⟩,.bool u.hq] 23)).alloc (.cells #[.string ⟨#[]⟩,.string ⟨#[]⟩,.int .i64 0,.string ⟨#[]⟩,.string ⟨#[]⟩,.bool false] 23)=W at*;refine(a9.o W (HG.o.next HN.o.below)).m ?_;rintro e w1⟨rfl,a4⟩;have al:=ad (HN.o.next a4);clear a4 T V X Y Z c5 HN;by_cases hc:aQ u=0
  ·have am:=ad (Uv O hc);have aU:=(eC u).1 hc;have HL:=ad (pZ aU);have ao:=aU;unfold okB at ao;rw[cW,ef,eM] at ao;have bb:=ad (show u.path.contains 47=true by obtain⟨pr,bf,_⟩:=ao.1.path;rw[bf];exact OZ);have a0:(gU u).length≤1024:=ao.2;have bd:=(show u.scheme.length≤1024∧u.path.length≤1024∧u.query.length≤10000∧u.host.length≤10000 by have e:=yf u;rw[e] at a0;simp only[bB] at a0;exact⟨by omega,by omega,HL.o.query,HL.o.host⟩)
   obtain⟨l1,l2,l3,l4⟩:=bd;rw[hc];clear hc aU ao a0;go_wp2_with fail;refine(fI ⟨s.toArray⟩ 35 w1 (HG.o.next al.o.below).aq (by show s.length<_;omega)).m ?_;rintro e w2⟨rfl,a5⟩;rw[show(⟨s.toArray⟩:aaM).data.toList=s from rfl];have aN:=ad (al.o.next a5);have bg:=ph 35 s;clear a5 al;generalize upto 35 s=r at*;have bl:r.length≤1024:=by omega
   clear bg;go_wp2_with fail;refine(Hg r w2 (HG.o.next aN.o.below).aq (by omega)).m ?_;rintro e w3⟨rfl,a6⟩;have a2:=ad (aN.o.next a6);have M:=ad (Ux a2.o);clear a6 aN;obtain⟨T,V,X,Y,Z,c5⟩:=a2.o.box.cells;rcases ai:xY r with _|_
   ·rw[JS ai];have a3:=ad ai;clear ai;go_wp2_with fail;clear T V X Y Z c5;generalize w3.alloc (.cells #[.string ⟨u.scheme.toArray⟩,.string ⟨u.host.toArray⟩,.int .i64 u.port,.string ⟨u.path.toArray⟩,.string ⟨u.query.toArray⟩,.bool u.hq] 23)=W4 at*;generalize w3.heap.size=q at*;refine(cj ⟨r.toArray⟩ ⟨#[47,47]⟩ W4).m ?_;rintro e w4⟨rfl,rfl⟩;rw[show(⟨r.toArray⟩:aaM).data.toList=r from rfl,show(⟨#[47,47]⟩:aaM).data.toList=qP from rfl];obtain⟨T,V,X,Y,Z,c5⟩:=M.o.na.box.cells;rcases hp:Lib.hasPrefix r qP with _|_
    ·have S:=ad (show eW u s=hZ (dN u r) by rw[am.o];exact Sc a3.o hp);have ay:=ad (Hw (u:=u) (r:=r) (by omega) l4 (by omega) l3 (by omega));clear hp;go_wp2_with fail;refine(Hk u r W4 (HG.o.next M.o.na.below).aq (by omega) bb.o (by omega)).m ?_;rintro e w5⟨rfl,ac⟩;have N:=ad (M.o.next ac);clear ac M T V X Y Z c5;generalize dN u r=u9 at*;have x:=ad (N.o.Uw u9);unfold dL at x;have d:=N.o.box.full;obtain⟨q0,q1,q2,q3,q4,q5⟩:=d.c;have h0:=d.f0;have O:=d.f1;have h2:=d.f2;have L:=d.f3;have h4:=d.f4;have h5:=d.f5;clear d;go_upto_region 16 with fail;generalize(((((w5.setCell ⟨q,0,none⟩ (.string ⟨u9.scheme.toArray⟩)).setCell ⟨q,1,none⟩ (.string ⟨u9.host.toArray⟩)).setCell ⟨q,2,none⟩ (.int .i64 u9.port)).setCell ⟨q,3,none⟩ (.string ⟨u9.path.toArray⟩)).setCell ⟨q,4,none⟩ (.string ⟨u9.query.toArray⟩)).setCell ⟨q,5,none⟩ (.bool u9.hq)=W9 at*;clear q0 q1 q2 q3 q4 q5 h0 O h2 L h4 h5 N;obtain⟨d0,d1,d2,d3,d4,d5⟩:=x.o.box.cells;go_wp2_with fail;refine(kJ u9 W9 (HG.o.next x.o.na.below) ⟨ay.o.1,ay.o.2.1,ay.o.2.2.1,ay.o.2.2.2⟩).m ?_;rintro e w6⟨rfl,a7⟩;have ab:=ad (x.o.next a7);clear a7 d0 d1 d2 d3 d4 d5 x;by_cases aa:aQ u9=0
     ·have y:=ad (show eW u s=(ji u9,0) by rw[S.o];exact Ht aa);have an:=ad ((eC u9).1 aa);rw[aa];clear aa;obtain⟨d0,d1,d2,d3,d4,d5⟩:=ab.o.box.cells;go_wp2_with fail;refine(rH u9 _ (HG.o.next ab.o.na.below) (pZ an.o)).m ?_;rintro e w9⟨rfl,af⟩;have Q:=ad (ab.o.na.next af);clear af d0 d1 d2 d3 d4 d5;generalize ji u9=un at*;have t:=ad (jC un Q.o.below (fB _) Q.o.res);have d:=Q.o.res.full;obtain⟨F,G,H,I,J,K⟩:=d.c;have z:=d.f0;have A:=d.f1;have B:=d.f2;have C:=d.f3;have D:=d.f4;have E:=d.f5;clear d;go_wp2_with fail;clear F G H I J K z A B C D E;obtain⟨i,j,k,l,n,p⟩:=t.o.1.cells;unfold dL at i j k l n p;refine aD (v:=dE (un,0)) ?_ rfl ⟨by rw[y.o],t.o.2⟩;simp[results,Tryz.f48,go_sem,i,j,k,l,n,p]
     ·have av:=ad (Hu aa);rcases l9 aa with L|L
      ·have y:=ad (show eW u s=(cm,3) by rw[S.o,av.o,L]);rw[L];clear aa L av;have t:=ad (jC cm ab.o.na.below (fB _) ab.o.na.res);have d:=ab.o.na.res.full;obtain⟨F,G,H,I,J,K⟩:=d.c;have z:=d.f0;have A:=d.f1;have B:=d.f2;have C:=d.f3;have D:=d.f4;have E:=d.f5;clear d;go_wp2_with fail;clear F G H I J K z A B C D E;obtain⟨i,j,k,l,n,p⟩:=t.o.1.cells;unfold dL at i j k l n p;simp only[cm] at i j k l n p;refine aD (v:=dE (cm,3)) ?_ rfl ⟨by rw[y.o],t.o.2⟩;simp[results,Tryz.f48,go_sem,i,j,k,l,n,p,cm]
      ·have y:=ad (show eW u s=(cm,4) by rw[S.o,av.o,L]);rw[L];clear aa L av;have t:=ad (jC cm ab.o.na.below (fB _) ab.o.na.res);have d:=ab.o.na.res.full;obtain⟨F,G,H,I,J,K⟩:=d.c;have z:=d.f0;have A:=d.f1;have B:=d.f2;have C:=d.f3;have D:=d.f4;have E:=d.f5;clear d;go_wp2_with fail;clear F G H I J K z A B C D E;obtain⟨i,j,k,l,n,p⟩:=t.o.1.cells;unfold dL at i j k l n p;simp only[cm] at i j k l n p;refine aD (v:=dE (cm,4)) ?_ rfl ⟨by rw[y.o],t.o.2⟩;simp[results,Tryz.f48,go_sem,i,j,k,l,n,p,cm]
    ·have S:=ad (show eW u s=ju (u.scheme++58::r) by rw[am.o];exact OX a3.o hp);clear hp;go_wp2_with fail;clear T V X Y Z c5;refine(A2 _ _ (HG.o.next M.o.na.below) (by rw[←bj,JT];simp;omega)).m ?_;rintro e w5⟨rfl,ac⟩;rw[JT];have N:=ad (M.o.next ac);clear ac M;generalize ap:cZ (u.scheme++58::r)=pt at*;obtain⟨u9,ec⟩:=pt;have R:=ad ap;clear ap;have x:=ad (N.o.Uw u9);unfold dL at x;have d:=N.o.box.full;obtain⟨q0,q1,q2,q3,q4,q5⟩:=d.c;have h0:=d.f0;have O:=d.f1;have h2:=d.f2;have L:=d.f3;have h4:=d.f4;have h5:=d.f5;clear d;rcases ye R.o with rfl|⟨rfl,rfl|rfl⟩
     ·have y:=ad (show eW u s=(ji u9,0) by rw[S.o];exact ED R.o);have an:=ad (qT R.o).ok
      go_upto_if 76 with fail
      generalize(((((w5.setCell ⟨q,0,none⟩ (.string ⟨u9.scheme.toArray⟩)).setCell ⟨q,1,none⟩ (.string ⟨u9.host.toArray⟩)).setCell ⟨q,2,none⟩ (.int .i64 u9.port)).setCell ⟨q,3,none⟩ (.string ⟨u9.path.toArray⟩)).setCell ⟨q,4,none⟩ (.string ⟨u9.query.toArray⟩)).setCell ⟨q,5,none⟩ (.bool u9.hq)=W9 at*;clear q0 q1 q2 q3 q4 q5 h0 O h2 L h4 h5 N;obtain⟨d0,d1,d2,d3,d4,d5⟩:=x.o.box.cells;go_wp2_with fail;refine(rH u9 _ (HG.o.next x.o.na.below) (pZ an.o)).m ?_;rintro e w9⟨rfl,af⟩;have Q:=ad (x.o.na.next af);clear af d0 d1 d2 d3 d4 d5;generalize ji u9=un at*;have t:=ad (jC un Q.o.below (fB _) Q.o.res);have d:=Q.o.res.full;obtain⟨F,G,H,I,J,K⟩:=d.c;have z:=d.f0;have A:=d.f1;have B:=d.f2;have C:=d.f3;have D:=d.f4;have E:=d.f5;clear d;go_wp2_with fail;clear F G H I J K z A B C D E;obtain⟨i,j,k,l,n,p⟩:=t.o.1.cells;unfold dL at i j k l n p;refine aD (v:=dE (un,0)) ?_ rfl ⟨by rw[y.o],t.o.2⟩;simp[results,Tryz.f48,go_sem,i,j,k,l,n,p]
     ·have y:=ad (show eW u s=(cm,3) by rw[S.o];exact sO R.o (by decide))
      go_upto_if 76 with fail
      generalize(((((w5.setCell ⟨q,0,none⟩ (.string ⟨cm.scheme.toArray⟩)).setCell ⟨q,1,none⟩ (.string ⟨cm.host.toArray⟩)).setCell ⟨q,2,none⟩ (.int .i64 cm.port)).setCell ⟨q,3,none⟩ (.string ⟨cm.path.toArray⟩)).setCell ⟨q,4,none⟩ (.string ⟨cm.query.toArray⟩)).setCell ⟨q,5,none⟩ (.bool cm.hq)=W9 at*;clear q0 q1 q2 q3 q4 q5 h0 O h2 L h4 h5 N;have t:=ad (jC cm x.o.na.below (fB _) x.o.na.res);have d:=x.o.na.res.full;obtain⟨F,G,H,I,J,K⟩:=d.c;have z:=d.f0;have A:=d.f1;have B:=d.f2;have C:=d.f3;have D:=d.f4;have E:=d.f5;clear d;go_wp2_with fail;clear F G H I J K z A B C D E;obtain⟨i,j,k,l,n,p⟩:=t.o.1.cells;unfold dL at i j k l n p;simp only[cm] at i j k l n p;refine aD (v:=dE (cm,3)) ?_ rfl ⟨by rw[y.o],t.o.2⟩;simp[results,Tryz.f48,go_sem,i,j,k,l,n,p,cm]
     ·have y:=ad (show eW u s=(cm,4) by rw[S.o];exact sO R.o (by decide))
      go_upto_if 76 with fail
      generalize(((((w5.setCell ⟨q,0,none⟩ (.string ⟨cm.scheme.toArray⟩)).setCell ⟨q,1,none⟩ (.string ⟨cm.host.toArray⟩)).setCell ⟨q,2,none⟩ (.int .i64 cm.port)).setCell ⟨q,3,none⟩ (.string ⟨cm.path.toArray⟩)).setCell ⟨q,4,none⟩ (.string ⟨cm.query.toArray⟩)).setCell ⟨q,5,none⟩ (.bool cm.hq)=W9 at*;clear q0 q1 q2 q3 q4 q5 h0 O h2 L h4 h5 N;have t:=ad (jC cm x.o.na.below (fB _) x.o.na.res);have d:=x.o.na.res.full;obtain⟨F,G,H,I,J,K⟩:=d.c;have z:=d.f0;have A:=d.f1;have B:=d.f2;have C:=d.f3;have D:=d.f4;have E:=d.f5;clear d;go_wp2_with fail;clear F G H I J K z A B C D E;obtain⟨i,j,k,l,n,p⟩:=t.o.1.cells;unfold dL at i j k l n p;simp only[cm] at i j k l n p;refine aD (v:=dE (cm,4)) ?_ rfl ⟨by rw[y.o],t.o.2⟩;simp[results,Tryz.f48,go_sem,i,j,k,l,n,p,cm]
   ·rw[EB ai];have bi:(lower (upto 58 r)).length≤1024:=by have:=ph 58 r;simp[lower];omega
    have bk:(past 58 r).length≤1024:=by have:=xZ 58 r;omega
    have a8:=ad (fun a b=>OV (b:=u) ai a b);have a1:=ad (fun a=>OW (b:=u) ai a);clear ai;generalize lower (upto 58 r)=nm at*;generalize past 58 r=rest at*;by_cases hn:nm=my∨nm=ir
    ·rcases hn with rfl|rfl;all_goals
      unfold my ir at*;go_wp2_with fail;clear T V X Y Z c5;generalize w3.alloc (.cells #[.string ⟨u.scheme.toArray⟩,.string ⟨u.host.toArray⟩,.int .i64 u.port,.string ⟨u.path.toArray⟩,.string ⟨u.query.toArray⟩,.bool u.hq] 23)=W4 at*;generalize w3.heap.size=q at*;refine(cj ⟨rest.toArray⟩ ⟨#[47,47]⟩ W4).m ?_;rintro e w4⟨rfl,rfl⟩;rw[show(⟨rest.toArray⟩:aaM).data.toList=rest from rfl,show(⟨#[47,47]⟩:aaM).data.toList=qP from rfl];obtain⟨T,V,X,Y,Z,c5⟩:=M.o.na.box.cells;rcases hp:Lib.hasPrefix rest qP with _|_
      ·have y:=ad (show eW u s=(cm,4) by rw[am.o];exact a1.o (fun h=>by have:=h.2;rw[hp] at this;cases this));clear hp T V X Y Z c5;have t:=ad (jC cm M.o.na.below (fB _) M.o.na.res);have d:=M.o.na.res.full;obtain⟨F,G,H,I,J,K⟩:=d.c;have z:=d.f0;have A:=d.f1;have B:=d.f2;have C:=d.f3;have D:=d.f4;have E:=d.f5;clear d;go_wp2_with fail;clear F G H I J K z A B C D E;obtain⟨i,j,k,l,n,p⟩:=t.o.1.cells;unfold dL at i j k l n p;simp only[cm] at i j k l n p;refine aD (v:=dE (cm,4)) ?_ rfl ⟨by rw[y.o],t.o.2⟩;simp[results,Tryz.f48,go_sem,i,j,k,l,n,p,cm]
      ·have S:=ad (show eW u s=ju (_++58::rest) by rw[am.o];exact a8.o (by simp) hp);clear hp T V X Y Z c5;go_wp2_with fail;refine(A2 _ _ (HG.o.next M.o.na.below) (by rw[←bj,JT];simp;omega)).m ?_;rintro e w5⟨rfl,ac⟩;rw[JT];have N:=ad (M.o.next ac);clear ac M;generalize ap:cZ (_++58::rest)=pt at*;obtain⟨u9,ec⟩:=pt;have R:=ad ap;clear ap;have x:=ad (N.o.Uw u9);unfold dL at x;have d:=N.o.box.full;obtain⟨q0,q1,q2,q3,q4,q5⟩:=d.c;have h0:=d.f0;have O:=d.f1;have h2:=d.f2;have L:=d.f3;have h4:=d.f4;have h5:=d.f5;clear d;rcases ye R.o with rfl|⟨rfl,rfl|rfl⟩
       ·have y:=ad (show eW u s=(ji u9,0) by rw[S.o];exact ED R.o);have an:=ad (qT R.o).ok
        go_upto_if 76 with fail
        generalize(((((w5.setCell ⟨q,0,none⟩ (.string ⟨u9.scheme.toArray⟩)).setCell ⟨q,1,none⟩ (.string ⟨u9.host.toArray⟩)).setCell ⟨q,2,none⟩ (.int .i64 u9.port)).setCell ⟨q,3,none⟩ (.string ⟨u9.path.toArray⟩)).setCell ⟨q,4,none⟩ (.string ⟨u9.query.toArray⟩)).setCell ⟨q,5,none⟩ (.bool u9.hq)=W9 at*;clear q0 q1 q2 q3 q4 q5 h0 O h2 L h4 h5 N;obtain⟨d0,d1,d2,d3,d4,d5⟩:=x.o.box.cells;go_wp2_with fail;refine(rH u9 _ (HG.o.next x.o.na.below) (pZ an.o)).m ?_;rintro e w9⟨rfl,af⟩;have Q:=ad (x.o.na.next af);clear af d0 d1 d2 d3 d4 d5;generalize ji u9=un at*;have t:=ad (jC un Q.o.below (fB _) Q.o.res);have d:=Q.o.res.full;obtain⟨F,G,H,I,J,K⟩:=d.c;have z:=d.f0;have A:=d.f1;have B:=d.f2;have C:=d.f3;have D:=d.f4;have E:=d.f5;clear d;go_wp2_with fail;clear F G H I J K z A B C D E;obtain⟨i,j,k,l,n,p⟩:=t.o.1.cells;unfold dL at i j k l n p;refine aD (v:=dE (un,0)) ?_ rfl ⟨by rw[y.o],t.o.2⟩;simp[results,Tryz.f48,go_sem,i,j,k,l,n,p]
       ·have y:=ad (show eW u s=(cm,3) by rw[S.o];exact sO R.o (by decide))
        go_upto_if 76 with fail
        generalize(((((w5.setCell ⟨q,0,none⟩ (.string ⟨cm.scheme.toArray⟩)).setCell ⟨q,1,none⟩ (.string ⟨cm.host.toArray⟩)).setCell ⟨q,2,none⟩ (.int .i64 cm.port)).setCell ⟨q,3,none⟩ (.string ⟨cm.path.toArray⟩)).setCell ⟨q,4,none⟩ (.string ⟨cm.query.toArray⟩)).setCell ⟨q,5,none⟩ (.bool cm.hq)=W9 at*;clear q0 q1 q2 q3 q4 q5 h0 O h2 L h4 h5 N;have t:=ad (jC cm x.o.na.below (fB _) x.o.na.res);have d:=x.o.na.res.full;obtain⟨F,G,H,I,J,K⟩:=d.c;have z:=d.f0;have A:=d.f1;have B:=d.f2;have C:=d.f3;have D:=d.f4;have E:=d.f5;clear d;go_wp2_with fail;clear F G H I J K z A B C D E;obtain⟨i,j,k,l,n,p⟩:=t.o.1.cells;unfold dL at i j k l n p;simp only[cm] at i j k l n p;refine aD (v:=dE (cm,3)) ?_ rfl ⟨by rw[y.o],t.o.2⟩;simp[results,Tryz.f48,go_sem,i,j,k,l,n,p,cm]
       ·have y:=ad (show eW u s=(cm,4) by rw[S.o];exact sO R.o (by decide))
        go_upto_if 76 with fail
        generalize(((((w5.setCell ⟨q,0,none⟩ (.string ⟨cm.scheme.toArray⟩)).setCell ⟨q,1,none⟩ (.string ⟨cm.host.toArray⟩)).setCell ⟨q,2,none⟩ (.int .i64 cm.port)).setCell ⟨q,3,none⟩ (.string ⟨cm.path.toArray⟩)).setCell ⟨q,4,none⟩ (.string ⟨cm.query.toArray⟩)).setCell ⟨q,5,none⟩ (.bool cm.hq)=W9 at*;clear q0 q1 q2 q3 q4 q5 h0 O h2 L h4 h5 N;have t:=ad (jC cm x.o.na.below (fB _) x.o.na.res);have d:=x.o.na.res.full;obtain⟨F,G,H,I,J,K⟩:=d.c;have z:=d.f0;have A:=d.f1;have B:=d.f2;have C:=d.f3;have D:=d.f4;have E:=d.f5;clear d;go_wp2_with fail;clear F G H I J K z A B C D E;obtain⟨i,j,k,l,n,p⟩:=t.o.1.cells;unfold dL at i j k l n p;simp only[cm] at i j k l n p;refine aD (v:=dE (cm,4)) ?_ rfl ⟨by rw[y.o],t.o.2⟩;simp[results,Tryz.f48,go_sem,i,j,k,l,n,p,cm]
    ·have n1:=fun h=>hn (.inl h);have n2:=fun h=>hn (.inr h);have y:=ad (show eW u s=(cm,4) by rw[am.o];exact a1.o (fun h=>hn h.1));unfold my ir at*;clear hn;go_upto_region 12 with fail;clear T V X Y Z c5;generalize w3.alloc (.cells #[.string ⟨u.scheme.toArray⟩,.string ⟨u.host.toArray⟩,.int .i64 u.port,.string ⟨u.path.toArray⟩,.string ⟨u.query.toArray⟩,.bool u.hq] 23)=W4 at*;generalize w3.heap.size=q at*;have t:=ad (jC cm M.o.na.below (fB _) M.o.na.res);have d:=M.o.na.res.full;obtain⟨F,G,H,I,J,K⟩:=d.c;have z:=d.f0;have A:=d.f1;have B:=d.f2;have C:=d.f3;have D:=d.f4;have E:=d.f5;clear d;go_wp2_with fail;clear F G H I J K z A B C D E;obtain⟨i,j,k,l,n,p⟩:=t.o.1.cells;unfold dL at i j k l n p;simp only[cm] at i j k l n p;refine aD (v:=dE (cm,4)) ?_ rfl ⟨by rw[y.o],t.o.2⟩;simp[results,Tryz.f48,go_sem,i,j,k,l,n,p,cm]
  ·have y:=ad (Sb O hc);rcases l9 hc with L|L;all_goals
    rw[L];clear hc L;have t:=ad (jC cm al.o.below (fB _) al.o.res);have d:=al.o.res.full;obtain⟨F,G,H,I,J,K⟩:=d.c;have z:=d.f0;have A:=d.f1;have B:=d.f2;have C:=d.f3;have D:=d.f4;have E:=d.f5;clear d;go_wp2_with fail;clear F G H I J K z A B C D E;obtain⟨i,j,k,l,n,p⟩:=t.o.1.cells;unfold dL at i j k l n p;simp only[cm] at i j k l n p;refine aD (v:=dE (cm,2)) ?_ rfl ⟨by rw[y.o],t.o.2⟩;simp[results,Tryz.f48,go_sem,i,j,k,l,n,p,cm]
end Go.Proofs.YtlemddnecmmfgaaGreatDoor
namespace Go.Proofs.YtlemddnecmmfgaaGreatDoor
open Go.Lib
variable{a:Bs}{j:Int}{x:U}{b q:aaK}
def DO(u:U):Prop:=xv u∨(u.scheme≠my∧u.scheme≠ir)
theorem DP(u:U)(s:Bs)(w:aaK)(b:GX w)(c:DO u)(d:s.length≤1000000):
 Calls Tryz.prog 48 #[uV u,.string ⟨s.toArray⟩] w (cN w (dE (eW u s))):=OY u s w b (fun W a=>by
 rcases c with h|h
 ·exact kJ u W a h
 ·exact sQ u W h.1 h.2) d
end Go.Proofs.YtlemddnecmmfgaaGreatDoor
