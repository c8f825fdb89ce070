/- What a tree weighs, and what an evaluation of it takes. -/
import Derived.Test.YtlemddnecmmfgaaGreatDoorJaz
set_option linter.unusedVariables false
set_option maxRecDepth 100000
set_option maxHeartbeats 2000000
namespace Go.Proofs.YtlemddnecmmfgaaGreatDoor
open Go.RowKit
variable{a:Bs}{b:Int}{z:U}{d s:aaK}
theorem Ew(c:UInt8):Lib.lowerB c=ui c:=by
 have:∀n:Nat,n<256→Lib.lowerB (UInt8.ofNat n)=ui (UInt8.ofNat n):=by decide+kernel
 have h:=this c.toNat c.toNat_lt
 rwa [UInt8.ofNat_toNat] at h
theorem Ha(l:Bs)(d:l.length≤100000)(a:∀c∈l,c.toNat<128)(w:aaK):
 Calls Tryz.prog 132 #[.string ⟨l.toArray⟩] w (cN w (.string ⟨(lower l).toArray⟩)):=by
 have h:=Tryz.strings_ToLower_ascii ⟨l.toArray⟩ w (by show l.length≤_;omega) (by intro j c b;exact a c (eQ b))
 have e:Lib.toLowerA (⟨l.toArray⟩:aaM).data.toList=lower l:=by show l.map Lib.lowerB=lower l;unfold lower;congr 1;funext c;exact Ew c
 rw[e] at h;exact h
theorem Lz(c:UInt8):mW.contains c=rG c:=congrFun Ey c
theorem LA(c:UInt8)(w:aaK):
 Calls Tryz.prog 30 #[.string ⟨mW.toArray⟩,.int .u8 (c.toNat:Int)] w fun e w'=>(∃i:Int,e=.returned (.int .i64 i)∧decide (i<0)= !rG c)∧w=w':=by
 refine(eO ⟨mW.toArray⟩ c w).m ?_;rintro e w'⟨rfl,rfl⟩;refine⟨⟨_,rfl, ?_⟩,rfl⟩;rw[show(⟨mW.toArray⟩:aaM).data.toList=mW from rfl,Lz];cases rG c
 ·rfl
 ·exact cL (by simp)
theorem Y7(h:a.all Hb=true):∀c∈a,c.toNat<128:=by intro c b;have:=dv (eV.1 h c b);omega
theorem Ez(s:Bs)(w:aaK)(a:s.length≤1000000):Calls Tryz.prog 27 #[.string ⟨s.toArray⟩,.string ⟨nN.toArray⟩] w (cN w (.string ⟨(Lib.trimS s nN).toArray⟩)):=
 XM ⟨s.toArray⟩ ⟨nN.toArray⟩ w (by show s.length≤_;omega) (by decide) (ascii_of_all (by decide))
theorem OQ(h:a.all Hb=true):Lib.trimS a nN=[]:=by have:=mX a nN;rw[A0,h] at this;exact eq_of_beq this
theorem EA(h:a.all Hb=false):(Lib.trimS a nN).isEmpty=false:=by
 have:=mX a nN;rw[A0,h] at this;cases b:Lib.trimS a nN
 ·rw[b] at this;cases this
 ·rfl
def OR(r:Bs):aaL:=if xY r=true then .tuple #[.string ⟨(lower (upto 58 r)).toArray⟩,.string ⟨(past 58 r).toArray⟩,.bool true] else .tuple #[.string ⟨#[]⟩,.string ⟨#[]⟩,.bool false]
theorem JS{r:Bs}(h:xY r=false):OR r=.tuple #[.string ⟨#[]⟩,.string ⟨#[]⟩,.bool false]:=by unfold OR;rw[h];rfl
theorem EB{r:Bs}(h:xY r=true):OR r=.tuple #[.string ⟨(lower (upto 58 r)).toArray⟩,.string ⟨(past 58 r).toArray⟩,.bool true]:=by unfold OR;rw[ah h]
theorem Hg(r:Bs)(w:aaK)(A:Good w)(I:r.length≤100000):
 Calls Tryz.prog 95 #[.string ⟨r.toArray⟩] w (cN w (OR r)):=by
 have F:=ad A;clear A;have s:=ad (show xY r=(r.contains 58&&OT (upto 58 r)) from rfl);have K:=ph 58 r;have G:=ad (fun h=>EB (r:=r) h);have n:=ad (fun h=>JS (r:=r) h);go_enter Tryz.func95,Tryz.ntmps95;go_wp2_with fail;refine(fI ⟨r.toArray⟩ 58 w F.o (by show r.length<_;omega)).m ?_;rintro e B⟨rfl,x⟩;rw[show(⟨r.toArray⟩:aaM).data.toList=r from rfl,show hasB 58 r=r.contains 58 from rfl];have l:=ad x;clear x;generalize upto 58 r=nm at*;generalize past 58 r=rest at*;rcases j:r.contains 58 with _|_
 ·have a:=ad (n.o (by rw[s.out,j];rfl));clear j;go_wp2_with fail
  go_ret3
  exact⟨by rw[a.o];rfl,l.o⟩
 ·rcases nm with _|⟨c,q⟩
  ·have a:=ad (n.o (by rw[s.out,j];rfl));clear j;go_wp2_with fail
   go_ret3
   exact⟨by rw[a.o];rfl,l.o⟩
  ·have u:=ad (show xY r=(rG c&&(c::q).all Hb) by rw[s.out,j];rfl);have L:∀h,((⟨(c::q).toArray⟩:aaM)[0]'h)=c:=fun _=>rfl
   clear j;go_wp2_with fail;refine(LA c B).m ?_;rintro e C⟨⟨i,rfl,k⟩,rfl⟩;rcases b:rG c with _|_
   ·rw[b] at k;have a:=ad (n.o (by rw[u.out,b];rfl));have H:i<0:=dv k;clear k b;go_wp2_with fail
    go_ret3
    exact⟨by rw[a.o];rfl,l.o⟩
   ·rw[b] at k;have H:¬i<0:=tF k;clear k;go_wp2_with fail;refine(Ez (c::q) B (by omega)).m ?_;rintro e C⟨rfl,y⟩;have p:=ad (l.o.t (y.m l.o.size));clear y;rcases d:(c::q).all Hb with _|_
    ·have a:=ad (n.o (by rw[u.out,b,d];rfl));have J:=EA d;clear b d;go_wp2_with fail
     go_ret3
     exact⟨by rw[a.o];rfl,p.o⟩
    ·have a:=ad (G.o (by rw[u.out,b,d];rfl));have D:=ad (Y7 d);rw[OQ d];clear b d;go_wp2_with fail;refine(Ha (c::q) (by omega) D.o C).m ?_;rintro e M⟨rfl,z⟩;have E:=ad (p.o.t (z.m p.o.size));clear z;go_wp2_with fail
     go_ret3
     exact⟨by rw[a.o];rfl,E.o⟩
end Go.Proofs.YtlemddnecmmfgaaGreatDoor
namespace Go.Proofs.YtlemddnecmmfgaaGreatDoor
open Go.RowKit
variable{a:Bs}{b:Int}{z:U}{d s:aaK}
theorem NA.s5{w W:aaK}{u:U}(h:NA w W u)(x:Bool):NA w (W.setCell ⟨w.heap.size,5,none⟩ (.bool x)) {u with hq:=x}:=h.put 5 _ (h.box.s5 x)
theorem zD(l:Bs)(b:l.length≤1000000)(a:l.contains 47=true)(w:aaK):
 Calls Tryz.prog 134 #[.string ⟨l.toArray⟩,.int .u8 47] w fun e w'=>e=.returned (.int .i64 (pn l:Int))∧w=w':=by
 refine(Tryz.strings_LastIndexByte ⟨l.toArray⟩ 47 (by show l.length<_;omega) w).m ?_;rintro e w'⟨rfl,rfl⟩;exact⟨by rw[(A1 a).1],rfl⟩
theorem EC{u:U}{r:Bs}(a:upto 63 r=[])(b:r.contains 63=false):dN u r=u:=by unfold dN withQuery;rw[a,ah ⟨rfl,b⟩];rfl
theorem Cg{u:U}{r:Bs}(a:upto 63 r=[])(b:r.contains 63=true):dN u r={u with query:=past 63 r,hq:=true}:=by unfold dN withQuery;rw[a,b,ae (by simp)];rfl
theorem Hi{u:U}{r q:Bs}(a:upto 63 r=47::q):dN u r={u with query:=past 63 r,hq:=r.contains 63,path:=47::q}:=by unfold dN withQuery;rw[a,ae (by simp)];rfl
theorem Hj{u:U}{r q:Bs}{c:UInt8}(a:upto 63 r=c::q)(b:c≠47):dN u r={u with query:=past 63 r,hq:=r.contains 63,path:=u.path.take (pn u.path+1)++(c::q)}:=by unfold dN withQuery;rw[a,ae (by simp)];show(if c=47 then _ else _)=_;rw[ae b]
theorem Hk(u:U)(r:Bs)(w:aaK)(hg:Good w)(hr:r.length≤4000)(hp:u.path.contains 47=true)(an:u.path.length≤4000):
 Calls Tryz.prog 97 #[uV u,.string ⟨r.toArray⟩] w (cN w (uV (dN u r))):=by
 have HN:=ad (Hn w u);have HG:=ad hg;have ap:=ph 63 r;have aN:=xZ 63 r;have HP:=ad hp;clear hg hp;have aa:=ad (EC (u:=u) (r:=r));have ab:=ad (Cg (u:=u) (r:=r));have ac:=ad (fun q=>Hi (u:=u) (r:=r) (q:=q));have af:=ad (fun q c=>Hj (u:=u) (r:=r) (q:=q) (c:=c));obtain⟨I,G,H,pa,qu,hq⟩:=u;simp only at an;go_enter Tryz.func97,Tryz.ntmps97;go_wp2_with fail;generalize(w.alloc (.cells #[.string ⟨I.toArray⟩,.string ⟨G.toArray⟩,.int .i64 H,.string ⟨pa.toArray⟩,.string ⟨qu.toArray⟩,.bool hq] 23)).alloc (.cells #[.string ⟨#[]⟩,.string ⟨#[]⟩,.int .i64 0,.string ⟨#[]⟩,.string ⟨#[]⟩,.bool false] 23)=W at*;refine(fI ⟨r.toArray⟩ 63 W (HG.o.next HN.o.below) (by show r.length<_;omega)).m ?_;rintro e w1⟨rfl,al⟩;rw[show(⟨r.toArray⟩:aaM).data.toList=r from rfl,show hasB 63 r=r.contains 63 from rfl];have B:=ad (HN.o.next al);clear al HN;generalize dN ⟨I,G,H,pa,qu,hq⟩ r=aq at*;generalize upto 63 r=p at*;generalize past 63 r=q at*;generalize r.contains 63=has at*;rcases p with _|⟨c,t⟩
 ·cases has
  ·have K:=ad (aa.o rfl rfl);clear aa ab ac af;have C:=ad (jC ⟨I,G,H,pa,qu,hq⟩ B.o.below (fB _) B.o.res);obtain⟨D,E,F,j,b,d⟩:=B.o.box.cells;simp only at D E F j b d;have a:=B.o.res.full;obtain⟨S,T,V,X,Y,Z⟩:=a.c;have L:=a.f0;have M:=a.f1;have N:=a.f2;have O:=a.f3;have Q:=a.f4;have R:=a.f5;clear a;go_wp2_with fail;clear S T V X Y Z L M N O Q R D E F j b d;obtain⟨n,s,x,y,z,A⟩:=C.o.1.cells;unfold dL at n s x y z A;simp only at n s x y z A;refine aD (v:=uV ⟨I,G,H,pa,qu,hq⟩) ?_ rfl ⟨by rw[K.o],C.o.2⟩;simp[results,Tryz.f97,go_sem,n,s,x,y,z,A]
  ·have K:=ad (ab.o rfl rfl);clear aa ab ac af;have b:=B.o.box.cells.c4;have f4:=B.o.box.full.f4;simp only at b;have l:=ad (B.o.s4 q);simp only at l;have d:=l.o.box.cells.c5;have f5:=l.o.box.full.f5;simp only at d;have i:=ad (l.o.s5 true);simp only at i;have C:=ad (jC ⟨I,G,H,pa,q,true⟩ i.o.below (fB _) i.o.res);obtain⟨D,E,F,j,b,d⟩:=i.o.box.cells;simp only at D E F j b d;have a:=i.o.res.full;obtain⟨S,T,V,X,Y,Z⟩:=a.c;have L:=a.f0;have M:=a.f1;have N:=a.f2;have O:=a.f3;have Q:=a.f4;have R:=a.f5;clear a;go_wp2_with fail;clear S T V X Y Z L M N O Q R D E F j b d;obtain⟨n,s,x,y,z,A⟩:=C.o.1.cells;unfold dL at n s x y z A;simp only at n s x y z A;refine aD (v:=uV ⟨I,G,H,pa,q,true⟩) ?_ rfl ⟨by rw[K.o],C.o.2⟩;simp[results,Tryz.f97,go_sem,n,s,x,y,z,A]
 ·have hx:∀h,((⟨(c::t).toArray⟩:aaM)[0]'h)=c:=fun _=>rfl
  by_cases hc:c=47
  ·subst hc;have aU:((47:UInt8).toNat:Int)=47:=rfl;have K:=ad (ac.o t rfl);clear aa ab ac af;have b:=B.o.box.cells.c4;have f4:=B.o.box.full.f4;simp only at b;have l:=ad (B.o.s4 q);simp only at l;have d:=l.o.box.cells.c5;have f5:=l.o.box.full.f5;simp only at d;have i:=ad (l.o.s5 has);simp only at i;have j:=i.o.box.cells.c3;have f3:=i.o.box.full.f3;simp only at j;have J:=ad (i.o.s3 (47::t));simp only at J;have C:=ad (jC ⟨I,G,H,47::t,q,has⟩ J.o.below (fB _) J.o.res);obtain⟨D,E,F,j,b,d⟩:=J.o.box.cells;simp only at D E F j b d;have a:=J.o.res.full;obtain⟨S,T,V,X,Y,Z⟩:=a.c;have L:=a.f0;have M:=a.f1;have N:=a.f2;have O:=a.f3;have Q:=a.f4;have R:=a.f5;clear a;go_wp2_with fail;clear S T V X Y Z L M N O Q R D E F j b d;obtain⟨n,s,x,y,z,A⟩:=C.o.1.cells;unfold dL at n s x y z A;simp only at n s x y z A;refine aD (v:=uV ⟨I,G,H,47::t,q,has⟩) ?_ rfl ⟨by rw[K.o],C.o.2⟩;simp[results,Tryz.f97,go_sem,n,s,x,y,z,A]
  ·have av:((c.toNat:Int)==47)=false:=by rw[aL];exact fun e=>hc (by rw[Ei];show c.toNat=47;omega)
   have K:=ad (af.o t c rfl hc);clear aa ab ac af;have b:=B.o.box.cells.c4;have f4:=B.o.box.full.f4;simp only at b;have l:=ad (B.o.s4 q);simp only at l;have d:=l.o.box.cells.c5;have f5:=l.o.box.full.f5;simp only at d;have i:=ad (l.o.s5 has);simp only at i;have am:=A1 HP.o;have ay:=am.2;have HC:=ad (zD pa (by omega) HP.o);clear am HP;generalize pn pa=k at*;have ao:∀W,(Op.stringOp .add ⟨(pa.take (k+1)).toArray⟩ ⟨(c::t).toArray⟩).run Tryz.prog W=.ok (.string ⟨(pa.take (k+1)++c::t).toArray⟩) W:=by intro W;have:=run_string_add_sum (P:=Tryz.prog) W ⟨(pa.take (k+1)).toArray⟩ ⟨(c::t).toArray⟩ (by show(pa.take (k+1)).length+(c::t).length≤_;simp at ap⊢;omega);rw[Ho] at this;exact this
   have hex:(⟨pa.toArray⟩:aaM).extract 0 (k+1)=⟨(pa.take (k+1)).toArray⟩:=dU (by rw[cf];simp);have j:=i.o.box.cells.c3;have f3:=i.o.box.full.f3;simp only at j;have J:=ad (i.o.s3 (pa.take (k+1)++c::t));simp only at J;have z1:(k:Int)+1≤(pa.length:Int):=by omega
   have z2:(0:Int)≤(k:Int)+1:=by omega
   have z3:((k:Int)+1).toNat=k+1:=by omega
   have z4:IntKind.i64.wrap ((k:Int)+1)=(k:Int)+1:=IntWalk.i64_in _ (by omega);generalize pa.take (k+1)++c::t=np at*;generalize pa.take (k+1)=tk at*;go_wp2_with fail;generalize(w1.setCell ⟨w.heap.size,4,none⟩ (.string ⟨q.toArray⟩)).setCell ⟨w.heap.size,5,none⟩ (.bool has)=W3 at*;clear b f4 d f5 B l;have ai:=ad (show NA w (W3.setCell ⟨w.heap.size,3,none⟩ (.string ⟨np.toArray⟩)).drew ⟨I,G,H,np,q,has⟩ from J.o.next (ar _ _).drew)
   go_region_with ((go_at_call 134;refine(HC.o _).m ?_;rintro e w'⟨rfl,rfl⟩))
   all_goals
    generalize(W3.setCell ⟨w.heap.size,3,none⟩ (.string ⟨np.toArray⟩)).drew=W5 at*;clear j f3 i J ao hex hx;have C:=ad (jC ⟨I,G,H,np,q,has⟩ ai.o.below (fB _) ai.o.res);obtain⟨D,E,F,j,b,d⟩:=ai.o.box.cells;simp only at D E F j b d;have a:=ai.o.res.full;obtain⟨S,T,V,X,Y,Z⟩:=a.c;have L:=a.f0;have M:=a.f1;have N:=a.f2;have O:=a.f3;have Q:=a.f4;have R:=a.f5;clear a;go_wp2_with fail;clear S T V X Y Z L M N O Q R D E F j b d;obtain⟨n,s,x,y,z,A⟩:=C.o.1.cells;unfold dL at n s x y z A;simp only at n s x y z A;refine aD (v:=uV ⟨I,G,H,np,q,has⟩) ?_ rfl ⟨by rw[K.o],C.o.2⟩;simp[results,Tryz.f97,go_sem,n,s,x,y,z,A]
end Go.Proofs.YtlemddnecmmfgaaGreatDoor
namespace Go.Proofs.YtlemddnecmmfgaaGreatDoor
open Go.RowKit
variable{a:Bs}{b:Int}{z:U}{d s:aaK}
theorem ye{v:U}(h:cZ a=(v,b)):b=0∨(v=cm∧(b=3∨b=4)):=by
 unfold cZ at h;cases j:decide (a.length≤ee)
 ·rw[j] at h;injection h with e d;exact .inr ⟨e.symm,.inl d.symm⟩
 ·rw[j,aS] at h;cases k:jh (LF a) with
  |none=>rw[k] at h;injection h with e d;exact .inr ⟨e.symm,.inr d.symm⟩
  |some u=>
   rw[k] at h;change(if aQ u=0 then(u,0) else(cm,aQ u))=(v,b) at h;by_cases i:aQ u=0
   ·rw[ah i] at h;injection h with _ d;exact .inl d.symm
   ·rw[ae i] at h;injection h with e d;rw[←d];exact .inr ⟨e.symm,l9 i⟩
theorem OU{b:U}(h:1024<a.length):eW b a=(cm,3):=by unfold eW;rw[ah h]
theorem Sb(h:¬1024<a.length)(c:¬aQ z=0):eW z a=(cm,2):=by unfold eW;rw[ae h,ae c]
theorem Uv(h:¬1024<a.length)(c:aQ z=0):eW z a=wM z (upto 35 a):=by unfold eW;rw[ae h,ah c]
theorem OV{b:U}(h:xY a=true)(c:lower (upto 58 a)=my∨lower (upto 58 a)=ir)(d:Lib.hasPrefix (past 58 a) qP=true):wM b a=ju (lower (upto 58 a)++58::past 58 a):=by unfold wM;rw[ah h,ah ⟨c,d⟩]
theorem OW{b:U}(h:xY a=true)(c:¬((lower (upto 58 a)=my∨lower (upto 58 a)=ir)∧Lib.hasPrefix (past 58 a) qP=true)):wM b a=(cm,4):=by unfold wM;rw[ah h,ae c]
theorem OX(h:xY a=false)(c:Lib.hasPrefix a qP=true):wM z a=ju (z.scheme++58::a):=by unfold wM;rw[ae (by rw[h];decide),ah c]
theorem Sc(h:xY a=false)(c:Lib.hasPrefix a qP=false):wM z a=hZ (dN z a):=by unfold wM;rw[ae (by rw[h];decide),ae (by rw[c];decide)]
theorem ED{v:U}(h:cZ a=(v,0)):ju a=(ji v,0):=by unfold ju;rw[h];rfl
theorem sO{v:U}(h:cZ a=(v,b))(c:¬b=0):ju a=(cm,b):=by unfold ju;rw[h,ae c]
theorem Ht{v:U}(h:aQ v=0):hZ v=(ji v,0):=by unfold hZ;rw[ah h]
theorem Hu{v:U}(h:¬aQ v=0):hZ v=(cm,aQ v):=by unfold hZ;rw[ae h]
theorem JT(a b:Bs):((⟨a.toArray⟩:aaM)++⟨#[58]⟩++⟨b.toArray⟩).data.toList=a++58::b:=by rw[show(⟨#[58]⟩:aaM)=⟨([58]:Bs).toArray⟩ from rfl,Ho,Ho];simp
structure QS (w W:aaK) (u u9:U) (b9:Nat):Prop where
 na:NA w W u
 box:ma W b9 u9
 lt:w.heap.size+1<b9
theorem QS.next{w W W':aaK}{u u9:U}{a:Nat}(h:QS w W u u9 a)(b:Below W.heap.size W W'):QS w W' u u9 a:=⟨h.na.next b,h.box.next b,h.lt⟩
theorem QS.iD{u u9 b:U}{a j:Nat}{v:aaL}(h:QS d s u u9 a)(e:ma (s.setCell ⟨a,j,none⟩ v) a b):QS d (s.setCell ⟨a,j,none⟩ v) u b a:=by have c:=h.lt;exact⟨⟨h.na.below.setCell (p:=⟨a,j,none⟩) (by show d.heap.size≤a;omega) v,h.na.box.other (by omega),h.na.res.other (by omega)⟩,e,c⟩
theorem QS.Uw{u u9:U}{a:Nat}(h:QS d s u u9 a)(x:U):QS d (dL s a x) u x a:=by have b:=h.iD (h.box.s0 x.scheme);have c:=b.iD (b.box.s1 x.host);have e:=c.iD (c.box.s2 x.port);have i:=e.iD (e.box.s3 x.path);have j:=i.iD (i.box.s4 x.query);exact j.iD (j.box.s5 x.hq)
theorem Ux(h:NA d s z):QS d (s.alloc (VH z)) z z s.heap.size:=by have a:=(ar s.heap.size s).alloc (ag _) (VH z);exact⟨h.next a,sP s z,h.res.lt⟩
theorem OY(u:U)(s:Bs)(w:aaK)(hg:GX w)(aa:∀W,GX W→Calls Tryz.prog 14 #[uV u] W (cN W (.int .i64 (aQ u))))(hs:s.length≤1000000):
 Calls Tryz.prog 48 #[uV u,.string ⟨s.toArray⟩] w (cN w (dE (eW u s))):=by
 have HN:=ad (Hn w u);have HG:=ad hg;have bb:=ad aa;clear hg aa;by_cases Q:1024<s.length
 ·have bf:(1024:Int)<(s.length:Int):=by omega
  have y:=ad (OU (b:=u) Q);clear Q;go_enter Tryz.func48,Tryz.ntmps48
  go_upto_if 11 with fail
  generalize(w.alloc (.cells #[.string ⟨u.scheme.toArray⟩,.string ⟨u.host.toArray⟩,.int .i64 u.port,.string ⟨u.path.toArray⟩,.string ⟨u.query.toArray⟩,.bool u.hq] 23)).alloc (.cells #[.string ⟨#[]⟩,.string ⟨#[]⟩,.int .i64 0,.string ⟨#[]⟩,.string ⟨#[]⟩,.bool false] 23)=W at*;have q:=ad (jC cm HN.o.below (fB _) HN.o.res);have d:=HN.o.res.full;obtain⟨G,H,I,J,K,L⟩:=d.c;have A:=d.f0;have B:=d.f1;have C:=d.f2;have D:=d.f3;have E:=d.f4;have F:=d.f5;clear d;go_wp2_with fail;clear G H I J K L A B C D E F;obtain⟨i,j,k,l,n,p⟩:=q.o.1.cells;unfold dL at i j k l n p;simp only[cm] at i j k l n p;refine aD (v:=dE (cm,3)) ?_ rfl ⟨by rw[y.o],q.o.2⟩;simp[results,Tryz.f48,go_sem,i,j,k,l,n,p,cm]
 ·have bf:¬((1024:Int)<(s.length:Int)):=by omega
  obtain⟨S,T,V,X,Y,Z⟩:=HN.o.box.cells;go_enter Tryz.func48,Tryz.ntmps48;go_wp2_with fail;generalize(w.alloc (.cells #[.string ⟨u.scheme.toArray⟩,.string ⟨u.host.toArray⟩,.int .i64 u.port,.string ⟨u.path.toArray⟩,.string ⟨u.query.toArray⟩,.bool u.hq] 23)).alloc (.cells #[.string ⟨#[]⟩,.string ⟨#[]⟩,.int .i64 0,.string ⟨#[]⟩,.string ⟨#[]⟩,.bool false] 23)=W at*;refine(bb.o W (HG.o.next HN.o.below)).m ?_;rintro e w1⟨rfl,a5⟩;have am:=ad (HN.o.next a5);clear a5 S T V X Y Z HN;by_cases hc:aQ u=0
  ·have an:=ad (Uv Q hc);have a0:=(eC u).1 hc;have HL:=ad (pZ a0);have ap:=a0;unfold okB at ap;rw[cW,ef,eM] at ap;have bd:=ad (show u.path.contains 47=true by obtain⟨pr,bg,_⟩:=ap.1.path;rw[bg];exact OZ);have a1:(gU u).length≤1024:=ap.2;have be:=(show u.scheme.length≤1024∧u.path.length≤1024∧u.query.length≤10000∧u.host.length≤10000 by have e:=yf u;rw[e] at a1;simp only[bB] at a1;exact⟨by omega,by omega,HL.o.query,HL.o.host⟩)
   obtain⟨l1,l2,l3,l4⟩:=be;rw[hc];clear hc a0 ap a1;go_wp2_with fail;refine(fI ⟨s.toArray⟩ 35 w1 (HG.o.next am.o.below).aq (by show s.length<_;omega)).m ?_;rintro e w2⟨rfl,a6⟩;rw[show(⟨s.toArray⟩:aaM).data.toList=s from rfl];have aU:=ad (am.o.next a6);have bi:=ph 35 s;clear a6 am;generalize upto 35 s=r at*;have bm:r.length≤1024:=by omega
   clear bi;go_wp2_with fail;refine(Hg r w2 (HG.o.next aU.o.below).aq (by omega)).m ?_;rintro e w3⟨rfl,a7⟩;have a3:=ad (aU.o.next a7);have N:=ad (Ux a3.o);clear a7 aU;obtain⟨S,T,V,X,Y,Z⟩:=a3.o.box.cells;rcases al:xY r with _|_
   ·rw[JS al];have a4:=ad al;clear al;go_wp2_with fail;clear S T V X Y Z;generalize w3.alloc (.cells #[.string ⟨u.scheme.toArray⟩,.string ⟨u.host.toArray⟩,.int .i64 u.port,.string ⟨u.path.toArray⟩,.string ⟨u.query.toArray⟩,.bool u.hq] 23)=W4 at*;generalize w3.heap.size=x at*;refine(cj ⟨r.toArray⟩ ⟨#[47,47]⟩ W4).m ?_;rintro e w4⟨rfl,rfl⟩;rw[show(⟨r.toArray⟩:aaM).data.toList=r from rfl,show(⟨#[47,47]⟩:aaM).data.toList=qP from rfl];obtain⟨S,T,V,X,Y,Z⟩:=N.o.na.box.cells;rcases hp:Lib.hasPrefix r qP with _|_
    ·have HX:=ad (show eW u s=hZ (dN u r) by rw[an.o];exact Sc a4.o hp);have aN:=ad (Hw (u:=u) (r:=r) (by omega) l4 (by omega) l3 (by omega));clear hp;go_wp2_with fail;refine(Hk u r W4 (HG.o.next N.o.na.below).aq (by omega) bd.o (by omega)).m ?_;rintro e w5⟨rfl,af⟩;have O:=ad (N.o.next af);clear af N S T V X Y Z;generalize dN u r=u9 at*;have z:=ad (O.o.Uw u9);unfold dL at z;have d:=O.o.box.full;obtain⟨q0,q1,q2,q3,q4,q5⟩:=d.c;have h0:=d.f0;have Q:=d.f1;have h2:=d.f2;have M:=d.f3;have h4:=d.f4;have h5:=d.f5;clear d;go_upto_region 16 with fail;generalize(((((w5.setCell ⟨x,0,none⟩ (.string ⟨u9.scheme.toArray⟩)).setCell ⟨x,1,none⟩ (.string ⟨u9.host.toArray⟩)).setCell ⟨x,2,none⟩ (.int .i64 u9.port)).setCell ⟨x,3,none⟩ (.string ⟨u9.path.toArray⟩)).setCell ⟨x,4,none⟩ (.string ⟨u9.query.toArray⟩)).setCell ⟨x,5,none⟩ (.bool u9.hq)=W9 at*;clear q0 q1 q2 q3 q4 q5 h0 Q h2 M h4 h5 O;obtain⟨d0,d1,d2,d3,d4,d5⟩:=z.o.box.cells;go_wp2_with fail;refine(kJ u9 W9 (HG.o.next z.o.na.below) ⟨aN.o.1,aN.o.2.1,aN.o.2.2.1,aN.o.2.2.2⟩).m ?_;rintro e w6⟨rfl,a8⟩;have ac:=ad (z.o.next a8);clear a8 d0 d1 d2 d3 d4 d5 z;by_cases aa:aQ u9=0
     ·have y:=ad (show eW u s=(ji u9,0) by rw[HX.o];exact Ht aa);have ao:=ad ((eC u9).1 aa);rw[aa];clear aa;obtain⟨d0,d1,d2,d3,d4,d5⟩:=ac.o.box.cells;go_wp2_with fail;refine(rH u9 _ (HG.o.next ac.o.na.below) (pZ ao.o)).m ?_;rintro e w9⟨rfl,ai⟩;have R:=ad (ac.o.na.next ai);clear ai d0 d1 d2 d3 d4 d5;generalize ji u9=un at*;have q:=ad (jC un R.o.below (fB _) R.o.res);have d:=R.o.res.full;obtain⟨G,H,I,J,K,L⟩:=d.c;have A:=d.f0;have B:=d.f1;have C:=d.f2;have D:=d.f3;have E:=d.f4;have F:=d.f5;clear d;go_wp2_with fail;clear G H I J K L A B C D E F;obtain⟨i,j,k,l,n,p⟩:=q.o.1.cells;unfold dL at i j k l n p;refine aD (v:=dE (un,0)) ?_ rfl ⟨by rw[y.o],q.o.2⟩;simp[results,Tryz.f48,go_sem,i,j,k,l,n,p]
     ·have ay:=ad (Hu aa);rcases l9 aa with M|M
      ·have y:=ad (show eW u s=(cm,3) by rw[HX.o,ay.o,M]);rw[M];clear aa M ay;have q:=ad (jC cm ac.o.na.below (fB _) ac.o.na.res);have d:=ac.o.na.res.full;obtain⟨G,H,I,J,K,L⟩:=d.c;have A:=d.f0;have B:=d.f1;have C:=d.f2;have D:=d.f3;have E:=d.f4;have F:=d.f5;clear d;go_wp2_with fail;clear G H I J K L A B C D E F;obtain⟨i,j,k,l,n,p⟩:=q.o.1.cells;unfold dL at i j k l n p;simp only[cm] at i j k l n p;refine aD (v:=dE (cm,3)) ?_ rfl ⟨by rw[y.o],q.o.2⟩;simp[results,Tryz.f48,go_sem,i,j,k,l,n,p,cm]
      ·have y:=ad (show eW u s=(cm,4) by rw[HX.o,ay.o,M]);rw[M];clear aa M ay;have q:=ad (jC cm ac.o.na.below (fB _) ac.o.na.res);have d:=ac.o.na.res.full;obtain⟨G,H,I,J,K,L⟩:=d.c;have A:=d.f0;have B:=d.f1;have C:=d.f2;have D:=d.f3;have E:=d.f4;have F:=d.f5;clear d;go_wp2_with fail;clear G H I J K L A B C D E F;obtain⟨i,j,k,l,n,p⟩:=q.o.1.cells;unfold dL at i j k l n p;simp only[cm] at i j k l n p;refine aD (v:=dE (cm,4)) ?_ rfl ⟨by rw[y.o],q.o.2⟩;simp[results,Tryz.f48,go_sem,i,j,k,l,n,p,cm]
    ·have HX:=ad (show eW u s=ju (u.scheme++58::r) by rw[an.o];exact OX a4.o hp);clear hp;go_wp2_with fail;clear S T V X Y Z;refine(A2 _ _ (HG.o.next N.o.na.below) (by rw[←bj,JT];simp;omega)).m ?_;rintro e w5⟨rfl,af⟩;rw[JT];have O:=ad (N.o.next af);clear af N;generalize av:cZ (u.scheme++58::r)=pt at*;obtain⟨u9,ec⟩:=pt;have ab:=ad av;clear av;have z:=ad (O.o.Uw u9);unfold dL at z;have d:=O.o.box.full;obtain⟨q0,q1,q2,q3,q4,q5⟩:=d.c;have h0:=d.f0;have Q:=d.f1;have h2:=d.f2;have M:=d.f3;have h4:=d.f4;have h5:=d.f5;clear d;rcases ye ab.o with rfl|⟨rfl,rfl|rfl⟩
     ·have y:=ad (show eW u s=(ji u9,0) by rw[HX.o];exact ED ab.o);have ao:=ad (qT ab.o).ok
      go_upto_if 76 with fail
      generalize(((((w5.setCell ⟨x,0,none⟩ (.string ⟨u9.scheme.toArray⟩)).setCell ⟨x,1,none⟩ (.string ⟨u9.host.toArray⟩)).setCell ⟨x,2,none⟩ (.int .i64 u9.port)).setCell ⟨x,3,none⟩ (.string ⟨u9.path.toArray⟩)).setCell ⟨x,4,none⟩ (.string ⟨u9.query.toArray⟩)).setCell ⟨x,5,none⟩ (.bool u9.hq)=W9 at*;clear q0 q1 q2 q3 q4 q5 h0 Q h2 M h4 h5 O;obtain⟨d0,d1,d2,d3,d4,d5⟩:=z.o.box.cells;go_wp2_with fail;refine(rH u9 _ (HG.o.next z.o.na.below) (pZ ao.o)).m ?_;rintro e w9⟨rfl,ai⟩;have R:=ad (z.o.na.next ai);clear ai d0 d1 d2 d3 d4 d5;generalize ji u9=un at*;have q:=ad (jC un R.o.below (fB _) R.o.res);have d:=R.o.res.full;obtain⟨G,H,I,J,K,L⟩:=d.c;have A:=d.f0;have B:=d.f1;have C:=d.f2;have D:=d.f3;have E:=d.f4;have F:=d.f5;clear d;go_wp2_with fail;clear G H I J K L A B C D E F;obtain⟨i,j,k,l,n,p⟩:=q.o.1.cells;unfold dL at i j k l n p;refine aD (v:=dE (un,0)) ?_ rfl ⟨by rw[y.o],q.o.2⟩;simp[results,Tryz.f48,go_sem,i,j,k,l,n,p]
     all_goals
      have y:=ad (HX.o.t (sO ab.o (by decide)))
      go_upto_if 76 with fail
      generalize(((((w5.setCell ⟨x,0,none⟩ (.string ⟨cm.scheme.toArray⟩)).setCell ⟨x,1,none⟩ (.string ⟨cm.host.toArray⟩)).setCell ⟨x,2,none⟩ (.int .i64 cm.port)).setCell ⟨x,3,none⟩ (.string ⟨cm.path.toArray⟩)).setCell ⟨x,4,none⟩ (.string ⟨cm.query.toArray⟩)).setCell ⟨x,5,none⟩ (.bool cm.hq)=W9 at*;clear q0 q1 q2 q3 q4 q5 h0 Q h2 M h4 h5 O;have q:=ad (jC cm z.o.na.below (fB _) z.o.na.res);have d:=z.o.na.res.full;obtain⟨G,H,I,J,K,L⟩:=d.c;have A:=d.f0;have B:=d.f1;have C:=d.f2;have D:=d.f3;have E:=d.f4;have F:=d.f5;clear d;go_wp2_with fail;clear G H I J K L A B C D E F;obtain⟨i,j,k,l,n,p⟩:=q.o.1.cells;unfold dL at i j k l n p;simp only[cm] at i j k l n p;refine aD (v:=dE (eW u s)) ?_ rfl ⟨rfl,q.o.2⟩;rw[y.o];simp[results,Tryz.f48,go_sem,i,j,k,l,n,p,cm]
   ·rw[EB al];have bk:(lower (upto 58 r)).length≤1024:=by have:=ph 58 r;simp[lower];omega
    have bl:(past 58 r).length≤1024:=by have:=xZ 58 r;omega
    have a9:=ad (fun a b=>OV (b:=u) al a b);have a2:=ad (fun a=>OW (b:=u) al a);clear al;generalize lower (upto 58 r)=nm at*;generalize past 58 r=rest at*;by_cases hn:nm=my∨nm=ir
    ·rcases hn with rfl|rfl;all_goals
      unfold my ir at*;go_wp2_with fail;clear S T V X Y Z;generalize w3.alloc (.cells #[.string ⟨u.scheme.toArray⟩,.string ⟨u.host.toArray⟩,.int .i64 u.port,.string ⟨u.path.toArray⟩,.string ⟨u.query.toArray⟩,.bool u.hq] 23)=W4 at*;generalize w3.heap.size=x at*;refine(cj ⟨rest.toArray⟩ ⟨#[47,47]⟩ W4).m ?_;rintro e w4⟨rfl,rfl⟩;rw[show(⟨rest.toArray⟩:aaM).data.toList=rest from rfl,show(⟨#[47,47]⟩:aaM).data.toList=qP from rfl];obtain⟨S,T,V,X,Y,Z⟩:=N.o.na.box.cells;rcases hp:Lib.hasPrefix rest qP with _|_
      ·have y:=ad (show eW u s=(cm,4) by rw[an.o];exact a2.o (fun h=>by have:=h.2;rw[hp] at this;cases this));clear hp S T V X Y Z;have q:=ad (jC cm N.o.na.below (fB _) N.o.na.res);have d:=N.o.na.res.full;obtain⟨G,H,I,J,K,L⟩:=d.c;have A:=d.f0;have B:=d.f1;have C:=d.f2;have D:=d.f3;have E:=d.f4;have F:=d.f5;clear d;go_wp2_with fail;clear G H I J K L A B C D E F;obtain⟨i,j,k,l,n,p⟩:=q.o.1.cells;unfold dL at i j k l n p;simp only[cm] at i j k l n p;refine aD (v:=dE (cm,4)) ?_ rfl ⟨by rw[y.o],q.o.2⟩;simp[results,Tryz.f48,go_sem,i,j,k,l,n,p,cm]
      ·have HX:=ad (show eW u s=ju (_++58::rest) by rw[an.o];exact a9.o (by simp) hp);clear hp S T V X Y Z;go_wp2_with fail;refine(A2 _ _ (HG.o.next N.o.na.below) (by rw[←bj,JT];simp;omega)).m ?_;rintro e w5⟨rfl,af⟩;rw[JT];have O:=ad (N.o.next af);clear af N;generalize av:cZ (_++58::rest)=pt at*;obtain⟨u9,ec⟩:=pt;have ab:=ad av;clear av;have z:=ad (O.o.Uw u9);unfold dL at z;have d:=O.o.box.full;obtain⟨q0,q1,q2,q3,q4,q5⟩:=d.c;have h0:=d.f0;have Q:=d.f1;have h2:=d.f2;have M:=d.f3;have h4:=d.f4;have h5:=d.f5;clear d;rcases ye ab.o with rfl|⟨rfl,rfl|rfl⟩
       ·have y:=ad (show eW u s=(ji u9,0) by rw[HX.o];exact ED ab.o);have ao:=ad (qT ab.o).ok
        go_upto_if 76 with fail
        generalize(((((w5.setCell ⟨x,0,none⟩ (.string ⟨u9.scheme.toArray⟩)).setCell ⟨x,1,none⟩ (.string ⟨u9.host.toArray⟩)).setCell ⟨x,2,none⟩ (.int .i64 u9.port)).setCell ⟨x,3,none⟩ (.string ⟨u9.path.toArray⟩)).setCell ⟨x,4,none⟩ (.string ⟨u9.query.toArray⟩)).setCell ⟨x,5,none⟩ (.bool u9.hq)=W9 at*;clear q0 q1 q2 q3 q4 q5 h0 Q h2 M h4 h5 O;obtain⟨d0,d1,d2,d3,d4,d5⟩:=z.o.box.cells;go_wp2_with fail;refine(rH u9 _ (HG.o.next z.o.na.below) (pZ ao.o)).m ?_;rintro e w9⟨rfl,ai⟩;have R:=ad (z.o.na.next ai);clear ai d0 d1 d2 d3 d4 d5;generalize ji u9=un at*;have q:=ad (jC un R.o.below (fB _) R.o.res);have d:=R.o.res.full;obtain⟨G,H,I,J,K,L⟩:=d.c;have A:=d.f0;have B:=d.f1;have C:=d.f2;have D:=d.f3;have E:=d.f4;have F:=d.f5;clear d;go_wp2_with fail;clear G H I J K L A B C D E F;obtain⟨i,j,k,l,n,p⟩:=q.o.1.cells;unfold dL at i j k l n p;refine aD (v:=dE (un,0)) ?_ rfl ⟨by rw[y.o],q.o.2⟩;simp[results,Tryz.f48,go_sem,i,j,k,l,n,p]
       all_goals
        have y:=ad (HX.o.t (sO ab.o (by decide)))
        go_upto_if 76 with fail
        generalize(((((w5.setCell ⟨x,0,none⟩ (.string ⟨cm.scheme.toArray⟩)).setCell ⟨x,1,none⟩ (.string ⟨cm.host.toArray⟩)).setCell ⟨x,2,none⟩ (.int .i64 cm.port)).setCell ⟨x,3,none⟩ (.string ⟨cm.path.toArray⟩)).setCell ⟨x,4,none⟩ (.string ⟨cm.query.toArray⟩)).setCell ⟨x,5,none⟩ (.bool cm.hq)=W9 at*;clear q0 q1 q2 q3 q4 q5 h0 Q h2 M h4 h5 O;have q:=ad (jC cm z.o.na.below (fB _) z.o.na.res);have d:=z.o.na.res.full;obtain⟨G,H,I,J,K,L⟩:=d.c;have A:=d.f0;have B:=d.f1;have C:=d.f2;have D:=d.f3;have E:=d.f4;have F:=d.f5;clear d;go_wp2_with fail;clear G H I J K L A B C D E F;obtain⟨i,j,k,l,n,p⟩:=q.o.1.cells;unfold dL at i j k l n p;simp only[cm] at i j k l n p;refine aD (v:=dE (eW u s)) ?_ rfl ⟨rfl,q.o.2⟩;rw[y.o];simp[results,Tryz.f48,go_sem,i,j,k,l,n,p,cm]
    ·have n1:=fun h=>hn (.inl h);have n2:=fun h=>hn (.inr h);have y:=ad (show eW u s=(cm,4) by rw[an.o];exact a2.o (fun h=>hn h.1));unfold my ir at*;clear hn;go_upto_region 12 with fail;clear S T V X Y Z;generalize w3.alloc (.cells #[.string ⟨u.scheme.toArray⟩,.string ⟨u.host.toArray⟩,.int .i64 u.port,.string ⟨u.path.toArray⟩,.string ⟨u.query.toArray⟩,.bool u.hq] 23)=W4 at*;generalize w3.heap.size=x at*;have q:=ad (jC cm N.o.na.below (fB _) N.o.na.res);have d:=N.o.na.res.full;obtain⟨G,H,I,J,K,L⟩:=d.c;have A:=d.f0;have B:=d.f1;have C:=d.f2;have D:=d.f3;have E:=d.f4;have F:=d.f5;clear d;go_wp2_with fail;clear G H I J K L A B C D E F;obtain⟨i,j,k,l,n,p⟩:=q.o.1.cells;unfold dL at i j k l n p;simp only[cm] at i j k l n p;refine aD (v:=dE (cm,4)) ?_ rfl ⟨by rw[y.o],q.o.2⟩;simp[results,Tryz.f48,go_sem,i,j,k,l,n,p,cm]
  ·have y:=ad (Sb Q hc);rcases l9 hc with M|M;all_goals
    rw[M];clear hc M;have q:=ad (jC cm am.o.below (fB _) am.o.res);have d:=am.o.res.full;obtain⟨G,H,I,J,K,L⟩:=d.c;have A:=d.f0;have B:=d.f1;have C:=d.f2;have D:=d.f3;have E:=d.f4;have F:=d.f5;clear d;go_wp2_with fail;clear G H I J K L A B C D E F;obtain⟨i,j,k,l,n,p⟩:=q.o.1.cells;unfold dL at i j k l n p;simp only[cm] at i j k l n p;refine aD (v:=dE (cm,2)) ?_ rfl ⟨by rw[y.o],q.o.2⟩;simp[results,Tryz.f48,go_sem,i,j,k,l,n,p,cm]
end Go.Proofs.YtlemddnecmmfgaaGreatDoor
namespace Go.Proofs.YtlemddnecmmfgaaGreatDoor
open Go.Lib
variable{a:Bs}{b:Int}{z:U}{d s:aaK}
def DO(u:U):Prop:=xv u∨(u.scheme≠my∧u.scheme≠ir)
theorem DP(u:U)(s:Bs)(w:aaK)(b:GX w)(c:DO u)(d:s.length≤1000000):
 Calls Tryz.prog 48 #[uV u,.string ⟨s.toArray⟩] w (cN w (dE (eW u s))):=OY u s w b (fun W a=>by
 rcases c with h|h
 ·exact kJ u W a h
 ·exact sQ u W h.1 h.2) d
end Go.Proofs.YtlemddnecmmfgaaGreatDoor
namespace Go.Proofs.YtlemddnecmmfgaaGreatDoor
open Go.Lib
variable{i:Bs}{J j:Cm}{G:Deep}{b d k:Nat}{e:PS}{H:U→Nd→PS→Nat→PS×Oc}{Y:fx}
theorem Az(s:Bs):∀k i,(mQ s k i).length≤k
 |0,_=>ag _
 |k+1,i=>by
  unfold mQ;split
  ·exact aH _
  ·have:=Az s k;rw[bF];exact Nat.succ_le_succ (this _)
theorem nD(s:Bs):(dd s).length≤s.length+1:=by unfold dd;rw[jo];exact Az s _ _
theorem uU(l:List Bs):∀a:List (Bs×Bs×Bool),(gh l a).length≤l.length+a.length:=by
 intro a;induction a generalizing l with
 |nil=>exact ag _
 |cons u r b=>
  have:=b (lQ l (eT u.1 u.2.1 u.2.2));have c:(lQ l (eT u.1 u.2.1 u.2.2)).length≤l.length+1:=by unfold lQ;split<;>simp
  show(gh (lQ l (eT u.1 u.2.1 u.2.2)) r).length≤_;rw[bF];omega
def bV(a:List bQ):Nat:=(a.map fun x=>2*x.val.length+1).sum
mutual
def wN:Nd→Nat
 |.mk _ _ t a l=>t.length+3+bV a+wL l
def wL:List Nd→Nat
 |[]=>0
 |x::r=>wN x+wL r
end
def ie:Nat:=1000000
mutual
def sy:Nd→Prop
 |.mk k _ t a l=>t.length≤65536∧a.length≤1000000∧(∀x∈a,x.val.length≤65536)∧l.length≤1000000∧(k=7→2≤l.length)∧DN l
def DN:List Nd→Prop
 |[]=>True
 |x::r=>sy x∧DN r
end
theorem DN.get:∀{l:List Nd} {x:Nd},DN l→x∈l→sy x
 |y::r,x,h,a=>by
  rw[DN] at h;rcases bL.1 a with rfl|a
  ·exact h.1
  ·exact DN.get h.2 a
theorem JA:∀{l:List Nd},(∀x,x∈l→sy x)→DN l
 |[],_=>by rw[DN];trivial
 |y::r,h=>by rw[DN];exact⟨h y (by simp),JA fun x a=>h x (by simp[a])⟩
structure bq (inc:Nat) (S:PS) (w:Nat):Prop where
 reads:S.reads.length+w+(inc-S.aU)*ie≤90000000
 work:S.work+w+(inc-S.aU)*ie≤90000000
 inl:∀x∈S.inl,x.2.length≤65536
 asked:S.asked.length≤S.aU
 aU:S.aU≤inc
theorem bq.less{w w':Nat}(h:bq b e w)(a:w'≤w):bq b e w':=
 ⟨by have:=h.reads;omega,by have:=h.work;omega,h.inl,h.asked,h.aU⟩
theorem bq.step{a:Nat}{S:PS}{w:Nat}(h:bq a S (w+1)):bq a S.step w:=
 ⟨by have:=h.reads;show S.reads.length+w+_≤_;show S.reads.length+w+(a-S.aU)*ie≤_;omega,by have:=h.work;show S.work+1+w+(a-S.aU)*ie≤_;omega,h.inl,h.asked,h.aU⟩
theorem bq.read{a:Nat}{S:PS}{w:Nat}{b:List (Bs×Bs×Bool)}(h:bq a S (b.length+w)):bq a (S.read b) w:=
 ⟨by have:=h.reads;have:=uU S.reads b;show(gh S.reads b).length+w+(a-S.aU)*ie≤_;omega,by have:=h.work;show S.work+w+(a-S.aU)*ie≤_;omega,h.inl,h.asked,h.aU⟩
theorem bq.more(h:bq b e d)(k:e.aU<b):bq b {e with aU:=e.aU+1} (ie+d):=by
 obtain⟨a,j⟩:∃a,b=e.aU+1+a:=⟨b-(e.aU+1),by omega⟩;have c:b-e.aU=a+1:=by omega
 have i:b-(e.aU+1)=a:=by omega
 refine⟨?_, ?_,h.inl,by have:=h.asked;show e.asked.length≤e.aU+1;omega,by show e.aU+1≤b;omega⟩
 ·have:=h.reads;rw[c,Nat.add_mul,Nat.one_mul] at this;show e.reads.length+(ie+d)+(b-(e.aU+1))*ie≤_;rw[i];omega
 ·have:=h.work;rw[c,Nat.add_mul,Nat.one_mul] at this;show e.work+(ie+d)+(b-(e.aU+1))*ie≤_;rw[i];omega
def kV(b w:Nat)(c:Cm):Prop:=∀S a r,bq b S (w+r)→bq b (c S a).1 r
theorem kV.m(h:kV b d J)(i:d≤k):kV b k J:=fun S a r e=>h S a r (e.less (by omega))
theorem kV.seq(i:kV b d J)(l:kV b k j):kV b (d+k) (K9 J j):=fun S a r m=>by
 have e:=i S a (k+r) (by rw[←oh];exact m);unfold K9;revert e;obtain⟨h,o⟩:=J S a;cases o with
 |yes t=>intro e;have n:=l h (a+t.length) r e;revert n;dsimp only;obtain⟨p,o2⟩:=j h (a+t.length);cases o2<;>exact id
 |no=>exact fun e=>e.less (by omega)
 |wait=>exact fun e=>e.less (by omega)
theorem kV.Tu(i:kV b d J)(l:kV b k j):kV b (d+k) (RE J j):=fun S a r m=>by
 have e:=i S a (k+r) (by rw[←oh];exact m);unfold RE Au;revert e;obtain⟨h,o⟩:=J S a;cases o with
 |yes t=>exact fun e=>e.less (by omega)
 |no=>exact fun e=>l h a r e
 |wait=>exact fun e=>e.less (by omega)
theorem kV.step{b w:Nat}{c:Cm}(h:kV b w c):kV b (w+1) (fun S a=>c S.step a):=fun S a r d=>h S.step a r (bq.step (by rw[show w+r+1=w+1+r by omega];exact d))
theorem kV.same{c w:Nat}(o:PS→Nat→Oc):kV c w (fun S a=>(S,o S a)):=fun S a r b=>b.less (by omega)
theorem RF(P:fx)(vs:Bool)(t:Bs):kV P.inc (t.length+1) (fun S a=>lS P vs t S a):=fun S a r b=>by
 show bq P.inc (lS P vs t S a).1 r;unfold lS;have d:=nD t;have c:bq P.inc (S.read (dd t)) r:=bq.read (b.less (by omega));split
 ·exact b.less (by omega)
 ·split
  ·exact c
  ·exact c
theorem Uk{base:U}{a:List bQ}(d:i.length≤65536):kV b 0 (fun S _=>(lV base a i S,.yes [])):=fun S n r c=>by
 show bq b (lV base a i S) r;rw[dH] at c;unfold lV;split
 ·refine⟨c.reads,c.work,fun x e=> ?_,c.asked,c.aU⟩;rcases gZ.1 e with h|h
  ·exact c.inl x h
  ·rw[fj.1 h];exact d
 ·exact c
def Rv(P:fx)(deep:Deep):Prop:=∀f,deep=some f→∀u b,(gW b).2.2=0→kV P.inc ie (fun S a=>f u (gW b).1 S a)
theorem Ok(d:∀u b,(gW b).2.2=0→kV Y.inc ie (fun S a=>H u (gW b).1 S a))(u:U)(g:j5):kV Y.inc ie (fun S a=>zx H u S a g):=fun S a r c=>by
 show bq Y.inc (zx H u S a g).1 r;unfold zx;split
 ·exact c.less (by omega)
 split
 ·exact c.less (by omega)
 split
 ·exact c.less (by omega)
 ·rename_i h;exact d u g.body (Decidable.of_not_not h) S a r c
theorem DR(i:Rv Y G)(base:U)(s:Bs):kV Y.inc (s.length+1) (fun S a=>gB Y G base S a s):=fun S a r k=>by
 show bq Y.inc (gB Y G base S a s).1 r;have l:=nD s;have c:bq Y.inc (S.read (dd s)) r:=bq.read (k.less (by omega));unfold gB;dsimp only;generalize S.read (dd s)=b at c⊢;split
 ·exact c
 split
 ·exact c
 rename_i h;have j:b.aU<Y.inc:=by
  have:=c.aU;by_cases q:Y.inc≤b.aU
  ·exact absurd (.inr q) h
  ·omega
 split
 ·exact c
 rename_i f;have d:=c.more j;unfold zw;split
 ·exact Ok (i f rfl) _ _ _ a r d
 ·have e:∀u,bq Y.inc {{b with aU:=b.aU+1} with asked:=b.asked++[u]} (ie+r):=fun u=>⟨d.reads,d.work,d.inl,by show(b.asked++[u]).length≤b.aU+1;rw[bB];have:=c.asked;simp;omega,d.aU⟩
  split
  ·exact(e _).less (by omega)
  ·exact Ok (i f rfl) _ _ _ a r (e _)
def BS:Option Bs→Nat
 |none=>0
 |some s=>s.length+1
theorem Ol(b:Rv Y G)(base:U)(o:Option Bs):kV Y.inc (BS o) (fun S a=>DQ Y G base S a o):=by
 cases o with
 |none=>exact kV.same (fun _ _=>.no)
 |some s=>exact DR b base s
theorem nF(a:bQ)(l:List bQ)(nm:Bs):bG (a::l) nm=if a.name==nm then some a.val else bG l nm:=by
 unfold bG;rw[uH];split
 ·rename_i h;rw[ah h];rfl
 ·rename_i h;rw[ae (by rw[h];exact Bool.false_ne_true)]
theorem kW(a:bQ)(l:List bQ):bV (a::l)=2*a.val.length+1+bV l:=by simp[bV]
theorem Om(nm:Bs):∀l:List bQ,BS (bG l nm)≤bV l
 |[]=>aH _
 |a::r=>by
  have:=Om nm r;rw[nF,kW];split
  ·show a.val.length+1≤_;omega
  ·omega
theorem N2{n1 n2:Bs}(d:n1≠n2):∀l:List bQ,BS (bG l n1)+BS (bG l n2)≤bV l
 |[]=>aH _
 |a::r=>by
  have:=N2 d r;have e:=Om n1 r;have h:=Om n2 r;rw[nF,nF,kW];by_cases c:(a.name==n1)=true
  ·by_cases b:(a.name==n2)=true
   ·exact absurd ((bZ.1 c).symm.t (bZ.1 b)) d
   ·rw[ah c,ae b];show a.val.length+1+_≤_;omega
  ·rw[ae c];by_cases b:(a.name==n2)=true
   ·rw[ah b];show _+(a.val.length+1)≤_;omega
   ·rw[ae b];omega
theorem RG(b:Rv Y G)(base:U)(l:List bQ):kV Y.inc (bV l) (fun S a=>oQ Y G base l S a):=by rw[B6];exact((Ol b base _).Tu ((Ol b base _).Tu (kV.same (w:=0) fun _ _=>if(bG l dj).isSome then .yes [] else .no))).m (by have:=N2 (n1:=lC) (n2:=lD) (by decide) l;omega)
theorem Jw(x:Ex):cC x≤cu x:=by
 refine Ex.ind (P:=fun x=>cC x≤cu x) (fun k t u l a=> ?_) x;rw[cC,cu];have:j6 l≤jc l:=by
  clear k t u;induction l with
  |nil=>rw[j6];exact aH _
  |cons y r c=>rw[j6,jc];have d:=a y (by simp);have e:=c fun z b=>a z (by simp[b]);omega
 omega
theorem As(P:fx)(l:List bQ)(h:(gd l).2.2=0):(cT (bt (gr P.h P.t P.fs) (gd l).1).2).length≤bV l:=by
 have b:=nG (gr P.h P.t P.fs) (gd l).1;have c:=Jw (gd l).1;have d:cu (gd l).1≤2*((bG l gT).getD []).length:=(At h).2;have e:2*((bG l gT).getD []).length≤bV l:=by
  clear h b c d;induction l with
  |nil=>exact aH _
  |cons a r i=>
   rw[nF,kW];split
   ·show 2*a.val.length≤_;omega
   ·omega
 unfold cT;rw[jo];omega
theorem RH{l:List bQ}(m:kV Y.inc b J)(e:kV Y.inc d j):kV Y.inc (bV l+1+b+d) (AA Y l J j):=fun S a r n=>by
 unfold AA;have i:bq Y.inc S.step (bV l+b+d+r):=bq.step (n.less (by omega));by_cases h:(gd l).2.2≠0
 ·rw[ah h];exact e _ _ _ (i.less (by omega))
 ·rw[ae h];have o:=As Y l (Decidable.of_not_not h);have k:bq Y.inc (S.step.read (cT (bt (gr Y.h Y.t Y.fs) (gd l).1).2)) (b+d+r):=bq.read (i.less (by omega));split
  ·exact m _ _ _ (k.less (by omega))
  ·exact e _ _ _ (k.less (by omega))
theorem Jy(x:Nd):bV x.attrs+3+wL x.kids≤wN x:=by obtain⟨k,p,t,a,l⟩:=x;rw[wN];show bV a+3+wL l≤_;omega
theorem JB(I:Rv Y G)(base:U)(n:Nd):sy n→(∀vs,kV Y.inc (wN n) (fun S a=>bT Y G base n vs S a))∧∀vs,kV Y.inc (wL n.kids) (fun S a=>oT Y G base n vs S a):=by
 refine Nd.ind (P:=fun n=>sy n→(∀vs,kV Y.inc (wN n) (fun S a=>bT Y G base n vs S a))∧∀vs,kV Y.inc (wL n.kids) (fun S a=>oT Y G base n vs S a)) (fun k p t a l F C=> ?_) n;rw[sy] at C;obtain⟨J,u1,u2,u3,u4,D⟩:=C;clear u1 u2 u3 u4;have b:∀x,x∈l→(∀vs,kV Y.inc (wN x) (fun S a=>bT Y G base x vs S a))∧∀vs,kV Y.inc (wL x.kids) (fun S a=>oT Y G base x vs S a):=fun x E=>F x E (D.get E);clear F D;have e:∀vs,kV Y.inc (wL l) (fun S a=>dJ Y G base l vs S a):=fun vs=>by
  induction l with
  |nil=>simp only[AB];exact kV.same (fun _ _=>.yes [])
  |cons x r i=>rw[rm,wL];exact((b x (by simp)).1 vs).seq (i fun y d=>b y (by simp[d]))
 have A:∀(l:List Nd) vs,(∀x,x∈l→∀vs,kV Y.inc (wN x) (fun S a=>bT Y G base x vs S a))→kV Y.inc (wL l) (fun S a=>qJ Y G base l vs S a):=fun l vs h=>by
  cases l with
  |nil=>simp only[AD];exact kV.same (fun _ _=>.no)
  |cons x r=>simp only[xC];rw[wL];exact(h x (by simp) vs).m (by omega)
 have B:∀vs,kV Y.inc (wL l) (fun S a=>ot Y G base l vs S a):=fun vs=>by
  cases l with
  |nil=>simp only[AE];exact kV.same (fun _ _=>.no)
  |cons x r=>rw[rp,wL];exact((b x (by simp)).1 vs).Tu (A r vs fun y d=>(b y (by simp[d])).1)
 have H:∀vs,kV Y.inc (wL l) (fun S a=>eK Y G base l vs S a):=fun vs=>by
  clear e B A;induction l with
  |nil=>simp only[AF];exact kV.same (fun _ _=>.yes [])
  |cons x r i=>
   rw[wL];by_cases h:x.kind=12
   ·simp only[vf _ _ _ x r vs h];exact((b x (by simp)).1 vs).m (by omega)
   ·rw[rq _ _ _ x r vs h];exact(RH ((b x (by simp)).2 vs) (i fun y d=>b y (by simp[d]))).m (by have:=Jy x;omega)
 refine⟨fun vs=> ?_,fun vs=>by simp only[xx];exact e vs⟩;have key:∀{w:Nat} {c:Cm},kV Y.inc w c→w+1≤t.length+3+bV a+wL l→kV Y.inc (wN (.mk k p t a l)) (fun S n=>c S.step n):=fun h K=>by rw[wN];exact h.step.m K
 simp only[xy];by_cases o:k=2
 ·simp only[ah o];exact key (RF Y vs t) (by omega)
 simp only[ae o];by_cases s:k=4
 ·simp only[ah s];exact key (Uk (base:=base) (a:=a) J) (by omega)
 simp only[ae s];by_cases u:k=5∨k=6
 ·simp only[ah u];exact key (w:=0) (kV.same (fun _ _=>.yes [])) (by omega)
 simp only[ae u];by_cases q:k=3
 ·simp only[ah q];exact key (RG I base a) (by omega)
 simp only[ae q];by_cases z:k=7
 ·simp only[ah z];exact key (B vs) (by omega)
 simp only[ae z];by_cases j:k=10
 ·simp only[ah j];exact key (H vs) (by omega)
 simp only[ae j];exact key (e _) (by omega)
def RJ(c:Cm):Prop:=∀S a b t,a≤262144→c S a=(b,.yes t)→a+t.length≤262144
theorem tY{d:PS}{c:Bs}(h:(e,jq i b)=(d,Oc.yes c)):b+c.length≤262144:=by
 unfold jq at h;split at h
 ·cases h
 ·rename_i q;injection h with _ h;injection h with h;subst h;exact Nat.le_of_not_lt q
def Ul(deep:Deep):Prop:=∀f,deep=some f→∀u n,RJ (fun S a=>f u n S a)
theorem JC(d:∀u n,RJ (fun S a=>H u n S a))(u:U)(g:j5):RJ (fun S a=>zx H u S a g):=fun S a b t c h=>by
 have h:zx H u S a g=(b,.yes t):=h;unfold zx at h;split at h
 ·cases h
 split at h
 ·exact tY h
 split at h
 ·cases h
 ·exact d _ _ S a b t c h
theorem AG(P:fx)(base:U)(i:Ul G):JD P P G G base (fun c _=>RJ c) where
 nil:=fun S a e t b h=>by injection h with _ h;injection h with h;rw[←h];exact b
 no:=fun S a e t b h=>by cases h
 step:=fun k S a e t b h=>k S.step a e t b h
 text:=fun vs t S a e j b h=>by
  have h:lS P vs t S a=(e,.yes j):=h;unfold lS at h;split at h
  ·exact tY h
  ·split at h
   ·cases h
   ·exact tY h
 inl:=fun a t S n e j b h=>by injection h with _ h;injection h with h;rw[←h];exact b
 Tv:=fun s S a e t b h=>by
  replace h:gB P G base S a s=(e,.yes t):=h;unfold gB at h;dsimp only at h;split at h
  ·cases h
  split at h
  ·cases h
  split at h
  ·cases h
  rename_i f;unfold zw at h;split at h
  ·exact JC (i f rfl) _ _ _ a e t b h
  split at h
  ·cases h
  ·exact JC (i f rfl) _ _ _ a e t b h
 seq:=fun{c _ d _} k i S a e t b h=>by
  unfold K9 at h;have p:=k S a;revert h;cases hq:c S a with
  |mk m o=>
   cases o with
   |yes j=>
    have q:=p m j b hq;dsimp only;have u:=i m (a+j.length);cases w:d m (a+j.length) with
    |mk r o2=>
     cases o2 with
     |yes x=>have y:=u r x q w;intro h;injection h with _ h;injection h with h;rw[←h,bB];omega
     |no=>intro h;cases h
     |wait=>intro h;cases h
   |no=>intro h;cases h
   |wait=>intro h;cases h
 Tu:=fun{c _ d _} k i S a e t b h=>by
  unfold RE Au at h;have p:=k S a;revert h;cases hq:c S a with
  |mk m o=>
   cases o with
   |yes j=>have q:=p m j b hq;intro h;injection h with _ h;injection h with h;rw[←h];exact q
   |no=>exact fun h=>i m a e t b h
   |wait=>intro h;cases h
 test:=fun l {c _ d _} k i S a e t b h=>by
  unfold AA at h;split at h
  ·exact i _ a e t b h
  split at h
  ·exact k _ a e t b h
  ·exact i _ a e t b h
structure DM (P:fx) (deep:Deep) (base:U):Prop where
 room:∀x,sy x→∀vs S a w,bq P.inc S (wN x+w)→bq P.inc (bT P deep base x vs S a).1 w
 fit:∀x vs S a S1 t,a≤262144→bT P deep base x vs S a=(S1,.yes t)→a+t.length≤262144
theorem On(c:Rv Y G)(d:Ul G)(base:U):DM Y G base:=
 ⟨fun x i vs S a w h=>(JB c base x i).1 vs S a w h,fun x vs S a b t e h=>(vg (AG Y base d) x).1 vs S a b t e h⟩
