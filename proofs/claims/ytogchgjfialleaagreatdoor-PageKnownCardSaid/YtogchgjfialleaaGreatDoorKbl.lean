/- The walks of resolve's scheme and within. The walk of resolve's within. The walk of resolve.Ref. What references mean: the plain law of the stage's theorem. -/
import Derived.Test.YtogchgjfialleaaGreatDoorKbk
set_option linter.unusedVariables false
set_option maxRecDepth 100000
set_option maxHeartbeats 2000000
namespace Go.Proofs.YtogchgjfialleaaGreatDoor
open Go.RowKit
theorem Ew(c:UInt8):Lib.lowerB c=ui c:=by
 have:∀n:Nat,n<256→Lib.lowerB (UInt8.ofNat n)=ui (UInt8.ofNat n):=by decide+kernel
 have h:=this c.toNat c.toNat_lt
 rwa [UInt8.ofNat_toNat] at h
theorem Ha(l:Bs)(d:l.length≤100000)(a:∀c∈l,c.toNat<128)(w:World):
 Calls Tryz.prog 103 #[.string ⟨l.toArray⟩] w (cN w (.string ⟨(lower l).toArray⟩)):=by
 have h:=Tryz.strings_ToLower_ascii ⟨l.toArray⟩ w (by show l.length≤_;omega) (by intro j c b;exact a c (eQ b))
 have e:Lib.toLowerA (⟨l.toArray⟩:ByteArray).data.toList=lower l:=by show l.map Lib.lowerB=lower l;unfold lower;congr 1;funext c;exact Ew c
 rw[e] at h;exact h
theorem Lz(c:UInt8):mW.contains c=rG c:=congrFun Ey c
theorem LA(c:UInt8)(w:World):
 Calls Tryz.prog 47 #[.string ⟨mW.toArray⟩,.int .u8 (c.toNat:Int)] w fun e w'=>(∃i:Int,e=.returned (.int .i64 i)∧decide (i<0)= !rG c)∧w=w':=by
 refine(eO ⟨mW.toArray⟩ c w).mono ?_;rintro e w'⟨rfl,rfl⟩;refine⟨⟨_,rfl, ?_⟩,rfl⟩;rw[show(⟨mW.toArray⟩:ByteArray).data.toList=mW from rfl,Lz];cases rG c
 ·rfl
 ·exact cL (by simp)
theorem LD{l:Bs}(h:l.all Hb=true):∀c∈l,c.toNat<128:=by intro c a;have:=dv (eV.1 h c a);omega
theorem Ez(s:Bs)(w:World)(a:s.length≤1000000):Calls Tryz.prog 44 #[.string ⟨s.toArray⟩,.string ⟨nN.toArray⟩] w (cN w (.string ⟨(Lib.trimS s nN).toArray⟩)):=
 o9 ⟨s.toArray⟩ ⟨nN.toArray⟩ w (by show s.length≤_;omega) (by decide) (ascii_of_all (by decide))
theorem OQ{s:Bs}(h:s.all Hb=true):Lib.trimS s nN=[]:=by have:=mX s nN;rw[A0,h] at this;exact eq_of_beq this
theorem EA{s:Bs}(h:s.all Hb=false):(Lib.trimS s nN).isEmpty=false:=by
 have:=mX s nN;rw[A0,h] at this;cases a:Lib.trimS s nN
 ·rw[a] at this;cases this
 ·rfl
def OR(r:Bs):Value:=if xY r=true then .tuple #[.string ⟨(lower (upto 58 r)).toArray⟩,.string ⟨(past 58 r).toArray⟩,.bool true] else .tuple #[.string ⟨#[]⟩,.string ⟨#[]⟩,.bool false]
theorem JS{r:Bs}(h:xY r=false):OR r=.tuple #[.string ⟨#[]⟩,.string ⟨#[]⟩,.bool false]:=by unfold OR;rw[h];rfl
theorem EB{r:Bs}(h:xY r=true):OR r=.tuple #[.string ⟨(lower (upto 58 r)).toArray⟩,.string ⟨(past 58 r).toArray⟩,.bool true]:=by unfold OR;rw[ah h]
theorem Hg(r:Bs)(w:World)(x:Good w)(F:r.length≤100000):
 Calls Tryz.prog 59 #[.string ⟨r.toArray⟩] w (cN w (OR r)):=by
 have C:=ad x;clear x;have o:=ad (show xY r=(r.contains 58&&OT (upto 58 r)) from rfl);have H:=ph 58 r;have D:=ad (fun h=>EB (r:=r) h);have m:=ad (fun h=>JS (r:=r) h);go_enter Tryz.func59,Tryz.ntmps59;go_wp2_with fail;refine(fI ⟨r.toArray⟩ 58 w C.out (by show r.length<_;omega)).mono ?_;rintro e y⟨rfl,s⟩;rw[show(⟨r.toArray⟩:ByteArray).data.toList=r from rfl,show hasB 58 r=r.contains 58 from rfl];have l:=ad s;clear s;generalize upto 58 r=nm at*;generalize past 58 r=rest at*;rcases j:r.contains 58 with _|_
 ·have a:=ad (m.out (by rw[o.out,j];rfl));clear j;go_wp2_with fail
  go_ret3
  exact⟨by rw[a.out];rfl,l.out⟩
 ·rcases nm with _|⟨c,q⟩
  ·have a:=ad (m.out (by rw[o.out,j];rfl));clear j;go_wp2_with fail
   go_ret3
   exact⟨by rw[a.out];rfl,l.out⟩
  ·have p:=ad (show xY r=(rG c&&(c::q).all Hb) by rw[o.out,j];rfl);have I:∀h,((⟨(c::q).toArray⟩:ByteArray)[0]'h)=c:=fun _=>rfl
   clear j;go_wp2_with fail;refine(LA c y).mono ?_;rintro e z⟨⟨i,rfl,k⟩,rfl⟩;rcases b:rG c with _|_
   ·rw[b] at k;have a:=ad (m.out (by rw[p.out,b];rfl));have E:i<0:=dv k;clear k b;go_wp2_with fail
    go_ret3
    exact⟨by rw[a.out];rfl,l.out⟩
   ·rw[b] at k;have E:¬i<0:=tF k;clear k;go_wp2_with fail;refine(Ez (c::q) y (by omega)).mono ?_;rintro e z⟨rfl,t⟩;have n:=ad (l.out.trans (t.mono l.out.size));clear t;rcases d:(c::q).all Hb with _|_
    ·have a:=ad (m.out (by rw[p.out,b,d];rfl));have G:=EA d;clear b d;go_wp2_with fail
     go_ret3
     exact⟨by rw[a.out];rfl,n.out⟩
    ·have a:=ad (D.out (by rw[p.out,b,d];rfl));have A:=ad (LD d);rw[OQ d];clear b d;go_wp2_with fail;refine(Ha (c::q) (by omega) A.out z).mono ?_;rintro e J⟨rfl,u⟩;have B:=ad (n.out.trans (u.mono n.out.size));clear u;go_wp2_with fail
     go_ret3
     exact⟨by rw[a.out];rfl,B.out⟩
end Go.Proofs.YtogchgjfialleaaGreatDoor
namespace Go.Proofs.YtogchgjfialleaaGreatDoor
open Go.RowKit
theorem NA.s5{w W:World}{u:U}(h:NA w W u)(x:Bool):NA w (W.setCell ⟨w.heap.size,5,none⟩ (.bool x)) {u with hq:=x}:=h.put 5 _ (h.box.s5 x)
theorem zD(l:Bs)(b:l.length≤1000000)(a:l.contains 47=true)(w:World):
 Calls Tryz.prog 105 #[.string ⟨l.toArray⟩,.int .u8 47] w fun e w'=>e=.returned (.int .i64 (pn l:Int))∧w=w':=by
 refine(Tryz.strings_LastIndexByte ⟨l.toArray⟩ 47 (by show l.length<_;omega) w).mono ?_;rintro e w'⟨rfl,rfl⟩;exact⟨by rw[(A1 a).1],rfl⟩
theorem EC{u:U}{r:Bs}(a:upto 63 r=[])(b:r.contains 63=false):dN u r=u:=by unfold dN withQuery;rw[a,ah ⟨rfl,b⟩];rfl
theorem Cg{u:U}{r:Bs}(a:upto 63 r=[])(b:r.contains 63=true):dN u r={u with query:=past 63 r,hq:=true}:=by unfold dN withQuery;rw[a,b,ae (by simp)];rfl
theorem Hi{u:U}{r q:Bs}(a:upto 63 r=47::q):dN u r={u with query:=past 63 r,hq:=r.contains 63,path:=47::q}:=by unfold dN withQuery;rw[a,ae (by simp)];rfl
theorem Hj{u:U}{r q:Bs}{c:UInt8}(a:upto 63 r=c::q)(b:c≠47):dN u r={u with query:=past 63 r,hq:=r.contains 63,path:=u.path.take (pn u.path+1)++(c::q)}:=by unfold dN withQuery;rw[a,ae (by simp)];show(if c=47 then _ else _)=_;rw[ae b]
theorem Hk(u:U)(r:Bs)(w:World)(hg:Good w)(hr:r.length≤4000)(hp:u.path.contains 47=true)(al:u.path.length≤4000):
 Calls Tryz.prog 61 #[uV u,.string ⟨r.toArray⟩] w (cN w (uV (dN u r))):=by
 have HN:=ad (Hn w u);have HG:=ad hg;have an:=ph 63 r;have av:=xZ 63 r;have HP:=ad hp;clear hg hp;have Y:=ad (EC (u:=u) (r:=r));have Z:=ad (Cg (u:=u) (r:=r));have aa:=ad (fun q=>Hi (u:=u) (r:=r) (q:=q));have ab:=ad (fun q c=>Hj (u:=u) (r:=r) (q:=q) (c:=c));obtain⟨G,E,F,pa,qu,hq⟩:=u;simp only at al;go_enter Tryz.func61,Tryz.ntmps61;go_wp2_with fail;generalize(w.alloc (.cells #[.string ⟨G.toArray⟩,.string ⟨E.toArray⟩,.int .i64 F,.string ⟨pa.toArray⟩,.string ⟨qu.toArray⟩,.bool hq] 34)).alloc (.cells #[.string ⟨#[]⟩,.string ⟨#[]⟩,.int .i64 0,.string ⟨#[]⟩,.string ⟨#[]⟩,.bool false] 34)=W at*;refine(fI ⟨r.toArray⟩ 63 W (HG.out.next HN.out.below) (by show r.length<_;omega)).mono ?_;rintro e w1⟨rfl,af⟩;rw[show(⟨r.toArray⟩:ByteArray).data.toList=r from rfl,show hasB 63 r=r.contains 63 from rfl];have z:=ad (HN.out.next af);clear af HN;generalize dN ⟨G,E,F,pa,qu,hq⟩ r=ao at*;generalize upto 63 r=p at*;generalize past 63 r=q at*;generalize r.contains 63=has at*;rcases p with _|⟨c,t⟩
 ·cases has
  ·have I:=ad (Y.out rfl rfl);clear Y Z aa ab;have A:=ad (jC ⟨G,E,F,pa,qu,hq⟩ z.out.below (fB _) z.out.res);obtain⟨B,C,D,j,b,d⟩:=z.out.box.cells;simp only at B C D j b d;have a:=z.out.res.full;obtain⟨Q,R,S,T,V,X⟩:=a.c;have J:=a.f0;have K:=a.f1;have L:=a.f2;have M:=a.f3;have N:=a.f4;have O:=a.f5;clear a;go_wp2_with fail;clear Q R S T V X J K L M N O B C D j b d;obtain⟨m,n,o,s,x,y⟩:=A.out.1.cells;unfold dL at m n o s x y;simp only at m n o s x y;refine aD (v:=uV ⟨G,E,F,pa,qu,hq⟩) ?_ rfl ⟨by rw[I.out],A.out.2⟩;simp[results,Tryz.f61,go_sem,m,n,o,s,x,y]
  ·have I:=ad (Z.out rfl rfl);clear Y Z aa ab;have b:=z.out.box.cells.c4;have f4:=z.out.box.full.f4;simp only at b;have l:=ad (z.out.s4 q);simp only at l;have d:=l.out.box.cells.c5;have f5:=l.out.box.full.f5;simp only at d;have i:=ad (l.out.s5 true);simp only at i;have A:=ad (jC ⟨G,E,F,pa,q,true⟩ i.out.below (fB _) i.out.res);obtain⟨B,C,D,j,b,d⟩:=i.out.box.cells;simp only at B C D j b d;have a:=i.out.res.full;obtain⟨Q,R,S,T,V,X⟩:=a.c;have J:=a.f0;have K:=a.f1;have L:=a.f2;have M:=a.f3;have N:=a.f4;have O:=a.f5;clear a;go_wp2_with fail;clear Q R S T V X J K L M N O B C D j b d;obtain⟨m,n,o,s,x,y⟩:=A.out.1.cells;unfold dL at m n o s x y;simp only at m n o s x y;refine aD (v:=uV ⟨G,E,F,pa,q,true⟩) ?_ rfl ⟨by rw[I.out],A.out.2⟩;simp[results,Tryz.f61,go_sem,m,n,o,s,x,y]
 ·have hx:∀h,((⟨(c::t).toArray⟩:ByteArray)[0]'h)=c:=fun _=>rfl
  by_cases hc:c=47
  ·subst hc;have ay:((47:UInt8).toNat:Int)=47:=rfl;have I:=ad (aa.out t rfl);clear Y Z aa ab;have b:=z.out.box.cells.c4;have f4:=z.out.box.full.f4;simp only at b;have l:=ad (z.out.s4 q);simp only at l;have d:=l.out.box.cells.c5;have f5:=l.out.box.full.f5;simp only at d;have i:=ad (l.out.s5 has);simp only at i;have j:=i.out.box.cells.c3;have f3:=i.out.box.full.f3;simp only at j;have H:=ad (i.out.s3 (47::t));simp only at H;have A:=ad (jC ⟨G,E,F,47::t,q,has⟩ H.out.below (fB _) H.out.res);obtain⟨B,C,D,j,b,d⟩:=H.out.box.cells;simp only at B C D j b d;have a:=H.out.res.full;obtain⟨Q,R,S,T,V,X⟩:=a.c;have J:=a.f0;have K:=a.f1;have L:=a.f2;have M:=a.f3;have N:=a.f4;have O:=a.f5;clear a;go_wp2_with fail;clear Q R S T V X J K L M N O B C D j b d;obtain⟨m,n,o,s,x,y⟩:=A.out.1.cells;unfold dL at m n o s x y;simp only at m n o s x y;refine aD (v:=uV ⟨G,E,F,47::t,q,has⟩) ?_ rfl ⟨by rw[I.out],A.out.2⟩;simp[results,Tryz.f61,go_sem,m,n,o,s,x,y]
  ·have ap:((c.toNat:Int)==47)=false:=by rw[aL];exact fun e=>hc (by rw[Ei];show c.toNat=47;omega)
   have I:=ad (ab.out t c rfl hc);clear Y Z aa ab;have b:=z.out.box.cells.c4;have f4:=z.out.box.full.f4;simp only at b;have l:=ad (z.out.s4 q);simp only at l;have d:=l.out.box.cells.c5;have f5:=l.out.box.full.f5;simp only at d;have i:=ad (l.out.s5 has);simp only at i;have ai:=A1 HP.out;have aq:=ai.2;have HC:=ad (zD pa (by omega) HP.out);clear ai HP;generalize pn pa=k at*;have am:∀W,(Op.stringOp .add ⟨(pa.take (k+1)).toArray⟩ ⟨(c::t).toArray⟩).run Tryz.prog W=.ok (.string ⟨(pa.take (k+1)++c::t).toArray⟩) W:=by intro W;have:=run_string_add_sum (P:=Tryz.prog) W ⟨(pa.take (k+1)).toArray⟩ ⟨(c::t).toArray⟩ (by show(pa.take (k+1)).length+(c::t).length≤_;simp at an⊢;omega);rw[Ho] at this;exact this
   have hex:(⟨pa.toArray⟩:ByteArray).extract 0 (k+1)=⟨(pa.take (k+1)).toArray⟩:=dU (by rw[cf];simp);have j:=i.out.box.cells.c3;have f3:=i.out.box.full.f3;simp only at j;have H:=ad (i.out.s3 (pa.take (k+1)++c::t));simp only at H;have z1:(k:Int)+1≤(pa.length:Int):=by omega
   have z2:(0:Int)≤(k:Int)+1:=by omega
   have z3:((k:Int)+1).toNat=k+1:=by omega
   have z4:IntKind.i64.wrap ((k:Int)+1)=(k:Int)+1:=IntWalk.i64_in _ (by omega);generalize pa.take (k+1)++c::t=np at*;generalize pa.take (k+1)=tk at*;go_wp2_with fail;generalize(w1.setCell ⟨w.heap.size,4,none⟩ (.string ⟨q.toArray⟩)).setCell ⟨w.heap.size,5,none⟩ (.bool has)=W3 at*;clear b f4 d f5 z l;have ac:=ad (show NA w (W3.setCell ⟨w.heap.size,3,none⟩ (.string ⟨np.toArray⟩)).drew ⟨G,E,F,np,q,has⟩ from H.out.next (ar _ _).drew)
   go_region_with ((go_at_call 105;refine(HC.out _).mono ?_;rintro e w'⟨rfl,rfl⟩))
   all_goals
    generalize(W3.setCell ⟨w.heap.size,3,none⟩ (.string ⟨np.toArray⟩)).drew=W5 at*;clear j f3 i H am hex hx;have A:=ad (jC ⟨G,E,F,np,q,has⟩ ac.out.below (fB _) ac.out.res);obtain⟨B,C,D,j,b,d⟩:=ac.out.box.cells;simp only at B C D j b d;have a:=ac.out.res.full;obtain⟨Q,R,S,T,V,X⟩:=a.c;have J:=a.f0;have K:=a.f1;have L:=a.f2;have M:=a.f3;have N:=a.f4;have O:=a.f5;clear a;go_wp2_with fail;clear Q R S T V X J K L M N O B C D j b d;obtain⟨m,n,o,s,x,y⟩:=A.out.1.cells;unfold dL at m n o s x y;simp only at m n o s x y;refine aD (v:=uV ⟨G,E,F,np,q,has⟩) ?_ rfl ⟨by rw[I.out],A.out.2⟩;simp[results,Tryz.f61,go_sem,m,n,o,s,x,y]
end Go.Proofs.YtogchgjfialleaaGreatDoor
namespace Go.Proofs.YtogchgjfialleaaGreatDoor
open Go.RowKit
theorem ye{s:Bs}{v:U}{c:Int}(h:cZ s=(v,c)):c=0∨(v=cm∧(c=3∨c=4)):=by
 unfold cZ at h;cases e:decide (s.length≤ee)
 ·rw[e] at h;injection h with b a;exact .inr ⟨b.symm,.inl a.symm⟩
 ·rw[e,aS] at h;cases i:jh (LF s) with
  |none=>rw[i] at h;injection h with b a;exact .inr ⟨b.symm,.inr a.symm⟩
  |some u=>
   rw[i] at h;change(if aQ u=0 then(u,0) else(cm,aQ u))=(v,c) at h;by_cases d:aQ u=0
   ·rw[ah d] at h;injection h with _ a;exact .inl a.symm
   ·rw[ae d] at h;injection h with b a;rw[←a];exact .inr ⟨b.symm,l9 d⟩
theorem OU{b:U}{s:Bs}(h:1024<s.length):eW b s=(cm,3):=by unfold eW;rw[ah h]
theorem Sb{b:U}{s:Bs}(h:¬1024<s.length)(a:¬aQ b=0):eW b s=(cm,2):=by unfold eW;rw[ae h,ae a]
theorem Uv{b:U}{s:Bs}(h:¬1024<s.length)(a:aQ b=0):eW b s=wM b (upto 35 s):=by unfold eW;rw[ae h,ah a]
theorem OV{b:U}{r:Bs}(h:xY r=true)(a:lower (upto 58 r)=my∨lower (upto 58 r)=ir)(c:Lib.hasPrefix (past 58 r) qP=true):wM b r=ju (lower (upto 58 r)++58::past 58 r):=by unfold wM;rw[ah h,ah ⟨a,c⟩]
theorem OW{b:U}{r:Bs}(h:xY r=true)(a:¬((lower (upto 58 r)=my∨lower (upto 58 r)=ir)∧Lib.hasPrefix (past 58 r) qP=true)):wM b r=(cm,4):=by unfold wM;rw[ah h,ae a]
theorem OX{b:U}{r:Bs}(h:xY r=false)(a:Lib.hasPrefix r qP=true):wM b r=ju (b.scheme++58::r):=by unfold wM;rw[ae (by rw[h];decide),ah a]
theorem Sc{b:U}{r:Bs}(h:xY r=false)(a:Lib.hasPrefix r qP=false):wM b r=hZ (dN b r):=by unfold wM;rw[ae (by rw[h];decide),ae (by rw[a];decide)]
theorem ED{t:Bs}{v:U}(h:cZ t=(v,0)):ju t=(ji v,0):=by unfold ju;rw[h];rfl
theorem sO{t:Bs}{v:U}{e:Int}(h:cZ t=(v,e))(a:¬e=0):ju t=(cm,e):=by unfold ju;rw[h,ae a]
theorem Ht{v:U}(h:aQ v=0):hZ v=(ji v,0):=by unfold hZ;rw[ah h]
theorem Hu{v:U}(h:¬aQ v=0):hZ v=(cm,aQ v):=by unfold hZ;rw[ae h]
theorem JT(a b:Bs):((⟨a.toArray⟩:ByteArray)++⟨#[58]⟩++⟨b.toArray⟩).data.toList=a++58::b:=by rw[show(⟨#[58]⟩:ByteArray)=⟨([58]:Bs).toArray⟩ from rfl,Ho,Ho];simp
structure QS (w W:World) (u u9:U) (b9:Nat):Prop where
 na:NA w W u
 box:ma W b9 u9
 lt:w.heap.size+1<b9
theorem QS.next{w W W':World}{u u9:U}{a:Nat}(h:QS w W u u9 a)(b:Below W.heap.size W W'):QS w W' u u9 a:=⟨h.na.next b,h.box.next b,h.lt⟩
theorem QS.iD{w W:World}{u u9 b:U}{a j:Nat}{v:Value}(h:QS w W u u9 a)(d:ma (W.setCell ⟨a,j,none⟩ v) a b):QS w (W.setCell ⟨a,j,none⟩ v) u b a:=by have c:=h.lt;exact⟨⟨h.na.below.setCell (p:=⟨a,j,none⟩) (by show w.heap.size≤a;omega) v,h.na.box.other (by omega),h.na.res.other (by omega)⟩,d,c⟩
theorem QS.Uw{w W:World}{u u9:U}{a:Nat}(h:QS w W u u9 a)(x:U):QS w (dL W a x) u x a:=by have b:=h.iD (h.box.s0 x.scheme);have c:=b.iD (b.box.s1 x.host);have d:=c.iD (c.box.s2 x.port);have e:=d.iD (d.box.s3 x.path);have i:=e.iD (e.box.s4 x.query);exact i.iD (i.box.s5 x.hq)
theorem Ux{w W:World}{u:U}(h:NA w W u):QS w (W.alloc (VH u)) u u W.heap.size:=by have a:=(ar W.heap.size W).alloc (ag _) (VH u);exact⟨h.next a,sP W u,h.res.lt⟩
theorem OY(u:U)(s:Bs)(w:World)(hg:GX w)(Z:∀W,GX W→Calls Tryz.prog 23 #[uV u] W (cN W (.int .i64 (aQ u))))(hs:s.length≤1000000):
 Calls Tryz.prog 29 #[uV u,.string ⟨s.toArray⟩] w (cN w (dE (eW u s))):=by
 have HN:=ad (Hn w u);have HG:=ad hg;have a8:=ad Z;clear hg Z;by_cases M:1024<s.length
 ·have bd:(1024:Int)<(s.length:Int):=by omega
  have t:=ad (OU (b:=u) M);clear M;go_enter Tryz.func29,Tryz.ntmps29
  go_upto_if 11 with fail
  generalize(w.alloc (.cells #[.string ⟨u.scheme.toArray⟩,.string ⟨u.host.toArray⟩,.int .i64 u.port,.string ⟨u.path.toArray⟩,.string ⟨u.query.toArray⟩,.bool u.hq] 34)).alloc (.cells #[.string ⟨#[]⟩,.string ⟨#[]⟩,.int .i64 0,.string ⟨#[]⟩,.string ⟨#[]⟩,.bool false] 34)=W at*;have p:=ad (jC cm HN.out.below (fB _) HN.out.res);have d:=HN.out.res.full;obtain⟨D,E,F,G,H,I⟩:=d.c;have x:=d.f0;have y:=d.f1;have z:=d.f2;have A:=d.f3;have B:=d.f4;have C:=d.f5;clear d;go_wp2_with fail;clear D E F G H I x y z A B C;obtain⟨i,j,k,l,m,n⟩:=p.out.1.cells;unfold dL at i j k l m n;simp only[cm] at i j k l m n;refine aD (v:=dE (cm,3)) ?_ rfl ⟨by rw[t.out],p.out.2⟩;simp[results,Tryz.f29,go_sem,i,j,k,l,m,n,cm]
 ·have bd:¬((1024:Int)<(s.length:Int)):=by omega
  obtain⟨R,S,T,V,X,Y⟩:=HN.out.box.cells;go_enter Tryz.func29,Tryz.ntmps29;go_wp2_with fail;generalize(w.alloc (.cells #[.string ⟨u.scheme.toArray⟩,.string ⟨u.host.toArray⟩,.int .i64 u.port,.string ⟨u.path.toArray⟩,.string ⟨u.query.toArray⟩,.bool u.hq] 34)).alloc (.cells #[.string ⟨#[]⟩,.string ⟨#[]⟩,.int .i64 0,.string ⟨#[]⟩,.string ⟨#[]⟩,.bool false] 34)=W at*;refine(a8.out W (HG.out.next HN.out.below)).mono ?_;rintro e w1⟨rfl,a3⟩;have ai:=ad (HN.out.next a3);clear a3 R S T V X Y HN;by_cases hc:aQ u=0
  ·have al:=ad (Uv M hc);have aN:=(eC u).1 hc;have HL:=ad (pZ aN);have an:=aN;unfold okB at an;rw[cW,ef,eM] at an;have a9:=ad (show u.path.contains 47=true by obtain⟨pr,be,_⟩:=an.1.path;rw[be];exact OZ);have aU:(gU u).length≤1024:=an.2;have bb:=(show u.scheme.length≤1024∧u.path.length≤1024∧u.query.length≤10000∧u.host.length≤10000 by have e:=yf u;rw[e] at aU;simp only[bB] at aU;exact⟨by omega,by omega,HL.out.query,HL.out.host⟩)
   obtain⟨l1,l2,l3,l4⟩:=bb;rw[hc];clear hc aN an aU;go_wp2_with fail;refine(fI ⟨s.toArray⟩ 35 w1 (HG.out.next ai.out.below).aq (by show s.length<_;omega)).mono ?_;rintro e w2⟨rfl,a4⟩;rw[show(⟨s.toArray⟩:ByteArray).data.toList=s from rfl];have ay:=ad (ai.out.next a4);have bf:=ph 35 s;clear a4 ai;generalize upto 35 s=r at*;have bk:r.length≤1024:=by omega
   clear bf;go_wp2_with fail;refine(Hg r w2 (HG.out.next ay.out.below).aq (by omega)).mono ?_;rintro e w3⟨rfl,a5⟩;have a1:=ad (ay.out.next a5);have K:=ad (Ux a1.out);clear a5 ay;obtain⟨R,S,T,V,X,Y⟩:=a1.out.box.cells;rcases af:xY r with _|_
   ·rw[JS af];have a2:=ad af;clear af;go_wp2_with fail;clear R S T V X Y;generalize w3.alloc (.cells #[.string ⟨u.scheme.toArray⟩,.string ⟨u.host.toArray⟩,.int .i64 u.port,.string ⟨u.path.toArray⟩,.string ⟨u.query.toArray⟩,.bool u.hq] 34)=W4 at*;generalize w3.heap.size=o at*;refine(cj ⟨r.toArray⟩ ⟨#[47,47]⟩ W4).mono ?_;rintro e w4⟨rfl,rfl⟩;rw[show(⟨r.toArray⟩:ByteArray).data.toList=r from rfl,show(⟨#[47,47]⟩:ByteArray).data.toList=qP from rfl];obtain⟨R,S,T,V,X,Y⟩:=K.out.na.box.cells;rcases hp:Lib.hasPrefix r qP with _|_
    ·have Q:=ad (show eW u s=hZ (dN u r) by rw[al.out];exact Sc a2.out hp);have av:=ad (Hw (u:=u) (r:=r) (by omega) l4 (by omega) l3 (by omega));clear hp;go_wp2_with fail;refine(Hk u r W4 (HG.out.next K.out.na.below).aq (by omega) a9.out (by omega)).mono ?_;rintro e w5⟨rfl,ab⟩;have L:=ad (K.out.next ab);clear ab K R S T V X Y;generalize dN u r=u9 at*;have q:=ad (L.out.Uw u9);unfold dL at q;have d:=L.out.box.full;obtain⟨q0,q1,q2,q3,q4,q5⟩:=d.c;have h0:=d.f0;have M:=d.f1;have h2:=d.f2;have J:=d.f3;have h4:=d.f4;have h5:=d.f5;clear d;go_upto_region 16 with fail;generalize(((((w5.setCell ⟨o,0,none⟩ (.string ⟨u9.scheme.toArray⟩)).setCell ⟨o,1,none⟩ (.string ⟨u9.host.toArray⟩)).setCell ⟨o,2,none⟩ (.int .i64 u9.port)).setCell ⟨o,3,none⟩ (.string ⟨u9.path.toArray⟩)).setCell ⟨o,4,none⟩ (.string ⟨u9.query.toArray⟩)).setCell ⟨o,5,none⟩ (.bool u9.hq)=W9 at*;clear q0 q1 q2 q3 q4 q5 h0 M h2 J h4 h5 L;obtain⟨d0,d1,d2,d3,d4,d5⟩:=q.out.box.cells;go_wp2_with fail;refine(kJ u9 W9 (HG.out.next q.out.na.below) ⟨av.out.1,av.out.2.1,av.out.2.2.1,av.out.2.2.2⟩).mono ?_;rintro e w6⟨rfl,a6⟩;have aa:=ad (q.out.next a6);clear a6 d0 d1 d2 d3 d4 d5 q;by_cases Z:aQ u9=0
     ·have t:=ad (show eW u s=(ji u9,0) by rw[Q.out];exact Ht Z);have am:=ad ((eC u9).1 Z);rw[Z];clear Z;obtain⟨d0,d1,d2,d3,d4,d5⟩:=aa.out.box.cells;go_wp2_with fail;refine(rH u9 _ (HG.out.next aa.out.na.below) (pZ am.out)).mono ?_;rintro e w9⟨rfl,ac⟩;have N:=ad (aa.out.na.next ac);clear ac d0 d1 d2 d3 d4 d5;generalize ji u9=un at*;have p:=ad (jC un N.out.below (fB _) N.out.res);have d:=N.out.res.full;obtain⟨D,E,F,G,H,I⟩:=d.c;have x:=d.f0;have y:=d.f1;have z:=d.f2;have A:=d.f3;have B:=d.f4;have C:=d.f5;clear d;go_wp2_with fail;clear D E F G H I x y z A B C;obtain⟨i,j,k,l,m,n⟩:=p.out.1.cells;unfold dL at i j k l m n;refine aD (v:=dE (un,0)) ?_ rfl ⟨by rw[t.out],p.out.2⟩;simp[results,Tryz.f29,go_sem,i,j,k,l,m,n]
     ·have ap:=ad (Hu Z);rcases l9 Z with J|J
      ·have t:=ad (show eW u s=(cm,3) by rw[Q.out,ap.out,J]);rw[J];clear Z J ap;have p:=ad (jC cm aa.out.na.below (fB _) aa.out.na.res);have d:=aa.out.na.res.full;obtain⟨D,E,F,G,H,I⟩:=d.c;have x:=d.f0;have y:=d.f1;have z:=d.f2;have A:=d.f3;have B:=d.f4;have C:=d.f5;clear d;go_wp2_with fail;clear D E F G H I x y z A B C;obtain⟨i,j,k,l,m,n⟩:=p.out.1.cells;unfold dL at i j k l m n;simp only[cm] at i j k l m n;refine aD (v:=dE (cm,3)) ?_ rfl ⟨by rw[t.out],p.out.2⟩;simp[results,Tryz.f29,go_sem,i,j,k,l,m,n,cm]
      ·have t:=ad (show eW u s=(cm,4) by rw[Q.out,ap.out,J]);rw[J];clear Z J ap;have p:=ad (jC cm aa.out.na.below (fB _) aa.out.na.res);have d:=aa.out.na.res.full;obtain⟨D,E,F,G,H,I⟩:=d.c;have x:=d.f0;have y:=d.f1;have z:=d.f2;have A:=d.f3;have B:=d.f4;have C:=d.f5;clear d;go_wp2_with fail;clear D E F G H I x y z A B C;obtain⟨i,j,k,l,m,n⟩:=p.out.1.cells;unfold dL at i j k l m n;simp only[cm] at i j k l m n;refine aD (v:=dE (cm,4)) ?_ rfl ⟨by rw[t.out],p.out.2⟩;simp[results,Tryz.f29,go_sem,i,j,k,l,m,n,cm]
    ·have Q:=ad (show eW u s=ju (u.scheme++58::r) by rw[al.out];exact OX a2.out hp);clear hp;go_wp2_with fail;clear R S T V X Y;refine(A2 _ _ (HG.out.next K.out.na.below) (by rw[←bj,JT];simp;omega)).mono ?_;rintro e w5⟨rfl,ab⟩;rw[JT];have L:=ad (K.out.next ab);clear ab K;generalize ao:cZ (u.scheme++58::r)=pt at*;obtain⟨u9,ec⟩:=pt;have O:=ad ao;clear ao;have q:=ad (L.out.Uw u9);unfold dL at q;have d:=L.out.box.full;obtain⟨q0,q1,q2,q3,q4,q5⟩:=d.c;have h0:=d.f0;have M:=d.f1;have h2:=d.f2;have J:=d.f3;have h4:=d.f4;have h5:=d.f5;clear d;rcases ye O.out with rfl|⟨rfl,rfl|rfl⟩
     ·have t:=ad (show eW u s=(ji u9,0) by rw[Q.out];exact ED O.out);have am:=ad (qT O.out).ok
      go_upto_if 76 with fail
      generalize(((((w5.setCell ⟨o,0,none⟩ (.string ⟨u9.scheme.toArray⟩)).setCell ⟨o,1,none⟩ (.string ⟨u9.host.toArray⟩)).setCell ⟨o,2,none⟩ (.int .i64 u9.port)).setCell ⟨o,3,none⟩ (.string ⟨u9.path.toArray⟩)).setCell ⟨o,4,none⟩ (.string ⟨u9.query.toArray⟩)).setCell ⟨o,5,none⟩ (.bool u9.hq)=W9 at*;clear q0 q1 q2 q3 q4 q5 h0 M h2 J h4 h5 L;obtain⟨d0,d1,d2,d3,d4,d5⟩:=q.out.box.cells;go_wp2_with fail;refine(rH u9 _ (HG.out.next q.out.na.below) (pZ am.out)).mono ?_;rintro e w9⟨rfl,ac⟩;have N:=ad (q.out.na.next ac);clear ac d0 d1 d2 d3 d4 d5;generalize ji u9=un at*;have p:=ad (jC un N.out.below (fB _) N.out.res);have d:=N.out.res.full;obtain⟨D,E,F,G,H,I⟩:=d.c;have x:=d.f0;have y:=d.f1;have z:=d.f2;have A:=d.f3;have B:=d.f4;have C:=d.f5;clear d;go_wp2_with fail;clear D E F G H I x y z A B C;obtain⟨i,j,k,l,m,n⟩:=p.out.1.cells;unfold dL at i j k l m n;refine aD (v:=dE (un,0)) ?_ rfl ⟨by rw[t.out],p.out.2⟩;simp[results,Tryz.f29,go_sem,i,j,k,l,m,n]
     ·have t:=ad (show eW u s=(cm,3) by rw[Q.out];exact sO O.out (by decide))
      go_upto_if 76 with fail
      generalize(((((w5.setCell ⟨o,0,none⟩ (.string ⟨cm.scheme.toArray⟩)).setCell ⟨o,1,none⟩ (.string ⟨cm.host.toArray⟩)).setCell ⟨o,2,none⟩ (.int .i64 cm.port)).setCell ⟨o,3,none⟩ (.string ⟨cm.path.toArray⟩)).setCell ⟨o,4,none⟩ (.string ⟨cm.query.toArray⟩)).setCell ⟨o,5,none⟩ (.bool cm.hq)=W9 at*;clear q0 q1 q2 q3 q4 q5 h0 M h2 J h4 h5 L;have p:=ad (jC cm q.out.na.below (fB _) q.out.na.res);have d:=q.out.na.res.full;obtain⟨D,E,F,G,H,I⟩:=d.c;have x:=d.f0;have y:=d.f1;have z:=d.f2;have A:=d.f3;have B:=d.f4;have C:=d.f5;clear d;go_wp2_with fail;clear D E F G H I x y z A B C;obtain⟨i,j,k,l,m,n⟩:=p.out.1.cells;unfold dL at i j k l m n;simp only[cm] at i j k l m n;refine aD (v:=dE (cm,3)) ?_ rfl ⟨by rw[t.out],p.out.2⟩;simp[results,Tryz.f29,go_sem,i,j,k,l,m,n,cm]
     ·have t:=ad (show eW u s=(cm,4) by rw[Q.out];exact sO O.out (by decide))
      go_upto_if 76 with fail
      generalize(((((w5.setCell ⟨o,0,none⟩ (.string ⟨cm.scheme.toArray⟩)).setCell ⟨o,1,none⟩ (.string ⟨cm.host.toArray⟩)).setCell ⟨o,2,none⟩ (.int .i64 cm.port)).setCell ⟨o,3,none⟩ (.string ⟨cm.path.toArray⟩)).setCell ⟨o,4,none⟩ (.string ⟨cm.query.toArray⟩)).setCell ⟨o,5,none⟩ (.bool cm.hq)=W9 at*;clear q0 q1 q2 q3 q4 q5 h0 M h2 J h4 h5 L;have p:=ad (jC cm q.out.na.below (fB _) q.out.na.res);have d:=q.out.na.res.full;obtain⟨D,E,F,G,H,I⟩:=d.c;have x:=d.f0;have y:=d.f1;have z:=d.f2;have A:=d.f3;have B:=d.f4;have C:=d.f5;clear d;go_wp2_with fail;clear D E F G H I x y z A B C;obtain⟨i,j,k,l,m,n⟩:=p.out.1.cells;unfold dL at i j k l m n;simp only[cm] at i j k l m n;refine aD (v:=dE (cm,4)) ?_ rfl ⟨by rw[t.out],p.out.2⟩;simp[results,Tryz.f29,go_sem,i,j,k,l,m,n,cm]
   ·rw[EB af];have bg:(lower (upto 58 r)).length≤1024:=by have:=ph 58 r;simp[lower];omega
    have bi:(past 58 r).length≤1024:=by have:=xZ 58 r;omega
    have a7:=ad (fun a b=>OV (b:=u) af a b);have a0:=ad (fun a=>OW (b:=u) af a);clear af;generalize lower (upto 58 r)=nm at*;generalize past 58 r=rest at*;by_cases hn:nm=my∨nm=ir
    ·rcases hn with rfl|rfl;all_goals
      unfold my ir at*;go_wp2_with fail;clear R S T V X Y;generalize w3.alloc (.cells #[.string ⟨u.scheme.toArray⟩,.string ⟨u.host.toArray⟩,.int .i64 u.port,.string ⟨u.path.toArray⟩,.string ⟨u.query.toArray⟩,.bool u.hq] 34)=W4 at*;generalize w3.heap.size=o at*;refine(cj ⟨rest.toArray⟩ ⟨#[47,47]⟩ W4).mono ?_;rintro e w4⟨rfl,rfl⟩;rw[show(⟨rest.toArray⟩:ByteArray).data.toList=rest from rfl,show(⟨#[47,47]⟩:ByteArray).data.toList=qP from rfl];obtain⟨R,S,T,V,X,Y⟩:=K.out.na.box.cells;rcases hp:Lib.hasPrefix rest qP with _|_
      ·have t:=ad (show eW u s=(cm,4) by rw[al.out];exact a0.out (fun h=>by have:=h.2;rw[hp] at this;cases this));clear hp R S T V X Y;have p:=ad (jC cm K.out.na.below (fB _) K.out.na.res);have d:=K.out.na.res.full;obtain⟨D,E,F,G,H,I⟩:=d.c;have x:=d.f0;have y:=d.f1;have z:=d.f2;have A:=d.f3;have B:=d.f4;have C:=d.f5;clear d;go_wp2_with fail;clear D E F G H I x y z A B C;obtain⟨i,j,k,l,m,n⟩:=p.out.1.cells;unfold dL at i j k l m n;simp only[cm] at i j k l m n;refine aD (v:=dE (cm,4)) ?_ rfl ⟨by rw[t.out],p.out.2⟩;simp[results,Tryz.f29,go_sem,i,j,k,l,m,n,cm]
      ·have Q:=ad (show eW u s=ju (_++58::rest) by rw[al.out];exact a7.out (by simp) hp);clear hp R S T V X Y;go_wp2_with fail;refine(A2 _ _ (HG.out.next K.out.na.below) (by rw[←bj,JT];simp;omega)).mono ?_;rintro e w5⟨rfl,ab⟩;rw[JT];have L:=ad (K.out.next ab);clear ab K;generalize ao:cZ (_++58::rest)=pt at*;obtain⟨u9,ec⟩:=pt;have O:=ad ao;clear ao;have q:=ad (L.out.Uw u9);unfold dL at q;have d:=L.out.box.full;obtain⟨q0,q1,q2,q3,q4,q5⟩:=d.c;have h0:=d.f0;have M:=d.f1;have h2:=d.f2;have J:=d.f3;have h4:=d.f4;have h5:=d.f5;clear d;rcases ye O.out with rfl|⟨rfl,rfl|rfl⟩
       ·have t:=ad (show eW u s=(ji u9,0) by rw[Q.out];exact ED O.out);have am:=ad (qT O.out).ok
        go_upto_if 76 with fail
        generalize(((((w5.setCell ⟨o,0,none⟩ (.string ⟨u9.scheme.toArray⟩)).setCell ⟨o,1,none⟩ (.string ⟨u9.host.toArray⟩)).setCell ⟨o,2,none⟩ (.int .i64 u9.port)).setCell ⟨o,3,none⟩ (.string ⟨u9.path.toArray⟩)).setCell ⟨o,4,none⟩ (.string ⟨u9.query.toArray⟩)).setCell ⟨o,5,none⟩ (.bool u9.hq)=W9 at*;clear q0 q1 q2 q3 q4 q5 h0 M h2 J h4 h5 L;obtain⟨d0,d1,d2,d3,d4,d5⟩:=q.out.box.cells;go_wp2_with fail;refine(rH u9 _ (HG.out.next q.out.na.below) (pZ am.out)).mono ?_;rintro e w9⟨rfl,ac⟩;have N:=ad (q.out.na.next ac);clear ac d0 d1 d2 d3 d4 d5;generalize ji u9=un at*;have p:=ad (jC un N.out.below (fB _) N.out.res);have d:=N.out.res.full;obtain⟨D,E,F,G,H,I⟩:=d.c;have x:=d.f0;have y:=d.f1;have z:=d.f2;have A:=d.f3;have B:=d.f4;have C:=d.f5;clear d;go_wp2_with fail;clear D E F G H I x y z A B C;obtain⟨i,j,k,l,m,n⟩:=p.out.1.cells;unfold dL at i j k l m n;refine aD (v:=dE (un,0)) ?_ rfl ⟨by rw[t.out],p.out.2⟩;simp[results,Tryz.f29,go_sem,i,j,k,l,m,n]
       ·have t:=ad (show eW u s=(cm,3) by rw[Q.out];exact sO O.out (by decide))
        go_upto_if 76 with fail
        generalize(((((w5.setCell ⟨o,0,none⟩ (.string ⟨cm.scheme.toArray⟩)).setCell ⟨o,1,none⟩ (.string ⟨cm.host.toArray⟩)).setCell ⟨o,2,none⟩ (.int .i64 cm.port)).setCell ⟨o,3,none⟩ (.string ⟨cm.path.toArray⟩)).setCell ⟨o,4,none⟩ (.string ⟨cm.query.toArray⟩)).setCell ⟨o,5,none⟩ (.bool cm.hq)=W9 at*;clear q0 q1 q2 q3 q4 q5 h0 M h2 J h4 h5 L;have p:=ad (jC cm q.out.na.below (fB _) q.out.na.res);have d:=q.out.na.res.full;obtain⟨D,E,F,G,H,I⟩:=d.c;have x:=d.f0;have y:=d.f1;have z:=d.f2;have A:=d.f3;have B:=d.f4;have C:=d.f5;clear d;go_wp2_with fail;clear D E F G H I x y z A B C;obtain⟨i,j,k,l,m,n⟩:=p.out.1.cells;unfold dL at i j k l m n;simp only[cm] at i j k l m n;refine aD (v:=dE (cm,3)) ?_ rfl ⟨by rw[t.out],p.out.2⟩;simp[results,Tryz.f29,go_sem,i,j,k,l,m,n,cm]
       ·have t:=ad (show eW u s=(cm,4) by rw[Q.out];exact sO O.out (by decide))
        go_upto_if 76 with fail
        generalize(((((w5.setCell ⟨o,0,none⟩ (.string ⟨cm.scheme.toArray⟩)).setCell ⟨o,1,none⟩ (.string ⟨cm.host.toArray⟩)).setCell ⟨o,2,none⟩ (.int .i64 cm.port)).setCell ⟨o,3,none⟩ (.string ⟨cm.path.toArray⟩)).setCell ⟨o,4,none⟩ (.string ⟨cm.query.toArray⟩)).setCell ⟨o,5,none⟩ (.bool cm.hq)=W9 at*;clear q0 q1 q2 q3 q4 q5 h0 M h2 J h4 h5 L;have p:=ad (jC cm q.out.na.below (fB _) q.out.na.res);have d:=q.out.na.res.full;obtain⟨D,E,F,G,H,I⟩:=d.c;have x:=d.f0;have y:=d.f1;have z:=d.f2;have A:=d.f3;have B:=d.f4;have C:=d.f5;clear d;go_wp2_with fail;clear D E F G H I x y z A B C;obtain⟨i,j,k,l,m,n⟩:=p.out.1.cells;unfold dL at i j k l m n;simp only[cm] at i j k l m n;refine aD (v:=dE (cm,4)) ?_ rfl ⟨by rw[t.out],p.out.2⟩;simp[results,Tryz.f29,go_sem,i,j,k,l,m,n,cm]
    ·have n1:=fun h=>hn (.inl h);have n2:=fun h=>hn (.inr h);have t:=ad (show eW u s=(cm,4) by rw[al.out];exact a0.out (fun h=>hn h.1));unfold my ir at*;clear hn;go_upto_region 12 with fail;clear R S T V X Y;generalize w3.alloc (.cells #[.string ⟨u.scheme.toArray⟩,.string ⟨u.host.toArray⟩,.int .i64 u.port,.string ⟨u.path.toArray⟩,.string ⟨u.query.toArray⟩,.bool u.hq] 34)=W4 at*;generalize w3.heap.size=o at*;have p:=ad (jC cm K.out.na.below (fB _) K.out.na.res);have d:=K.out.na.res.full;obtain⟨D,E,F,G,H,I⟩:=d.c;have x:=d.f0;have y:=d.f1;have z:=d.f2;have A:=d.f3;have B:=d.f4;have C:=d.f5;clear d;go_wp2_with fail;clear D E F G H I x y z A B C;obtain⟨i,j,k,l,m,n⟩:=p.out.1.cells;unfold dL at i j k l m n;simp only[cm] at i j k l m n;refine aD (v:=dE (cm,4)) ?_ rfl ⟨by rw[t.out],p.out.2⟩;simp[results,Tryz.f29,go_sem,i,j,k,l,m,n,cm]
  ·have t:=ad (Sb M hc);rcases l9 hc with J|J;all_goals
    rw[J];clear hc J;have p:=ad (jC cm ai.out.below (fB _) ai.out.res);have d:=ai.out.res.full;obtain⟨D,E,F,G,H,I⟩:=d.c;have x:=d.f0;have y:=d.f1;have z:=d.f2;have A:=d.f3;have B:=d.f4;have C:=d.f5;clear d;go_wp2_with fail;clear D E F G H I x y z A B C;obtain⟨i,j,k,l,m,n⟩:=p.out.1.cells;unfold dL at i j k l m n;simp only[cm] at i j k l m n;refine aD (v:=dE (cm,2)) ?_ rfl ⟨by rw[t.out],p.out.2⟩;simp[results,Tryz.f29,go_sem,i,j,k,l,m,n,cm]
end Go.Proofs.YtogchgjfialleaaGreatDoor
namespace Go.Proofs.YtogchgjfialleaaGreatDoor
open Go.Lib
def DO(u:U):Prop:=xv u∨(u.scheme≠my∧u.scheme≠ir)
theorem DP(u:U)(s:Bs)(w:World)(b:GX w)(c:DO u)(d:s.length≤1000000):
 Calls Tryz.prog 29 #[uV u,.string ⟨s.toArray⟩] w (cN w (dE (eW u s))):=OY u s w b (fun W a=>by
 rcases c with h|h
 ·exact kJ u W a h
 ·exact sQ u W h.1 h.2) d
end Go.Proofs.YtogchgjfialleaaGreatDoor
