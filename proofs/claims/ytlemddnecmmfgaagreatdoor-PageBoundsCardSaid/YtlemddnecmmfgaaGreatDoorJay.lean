/- The walk of Dots. -/
import Derived.Test.YtlemddnecmmfgaaGreatDoorJax
set_option linter.unusedVariables false
set_option maxRecDepth 100000
set_option maxHeartbeats 2000000
namespace Go.Proofs.YtlemddnecmmfgaaGreatDoor
open Go.RowKit
variable{b:Bs}
theorem Kf:∀(l:Bs) (a:Nat),l.all kH=true→a<10^(10-l.length)→l.length≤10→Lib.parseUint10 a l=.ok (l.foldl (fun m c=>10*m+(c.toNat-48)) a)
 |[],a,_,_,_=>rfl
 |c::r,a,h,b,i=>by
  rw[kf,cW] at h;have d:48≤c.toNat∧c.toNat≤57:=dv h.1;simp only[bF] at b i;have k:10^(10-(r.length+1))≤10^9:=Nat.pow_le_pow_right (by decide) (by omega);have n:(10:Nat)^9=1000000000:=by decide
  have o:a<1000000000:=by omega
  unfold Lib.parseUint10;rw[ah d,ae (by omega),ae (by omega),qB];have e:a*10+(c.toNat-48)=10*a+(c.toNat-48):=by omega
  rw[e];refine Kf r _ h.2 ?_ (by omega);have j:10^(10-r.length)=10*10^(10-(r.length+1)):=by rw[show 10-r.length=(10-(r.length+1))+1 by omega,Nat.pow_succ,Nat.mul_comm]
  rw[j];omega
theorem Bo(h:cy b≠0):Lib.atoiAll b=.ok (cy b)∧Lib.itoa (cy b)=b∧1≤cy b∧cy b<1000000:=by
 obtain⟨j,q⟩:=yS h;unfold cy cy.FD at h;cases a:(decide (1≤b.length∧b.length≤5)&&b.all kH&& !(b.head?==some 48))
 ·rw[a] at h;exact(h rfl).elim
 ·have i:cy b=((jW b:Nat):Int):=by unfold cy cy.FD;rw[a];rw[cW,cW] at a;exact nZ b 0 a.1.2
  rw[cW,cW,eM] at a;obtain⟨⟨n,d⟩,B⟩:=a;have u:jW b<1000000:=by
   have t:∀(l:Bs) (e:Nat),l.all kH=true→l.foldl (fun m c=>10*m+(c.toNat-48)) e<(e+1)*10^l.length:=by
    intro l;induction l with
    |nil=>intro e _;simp
    |cons c r x=>intro e d;rw[kf,cW] at d;have a:48≤c.toNat∧c.toNat≤57:=dv d.1;have:=x (10*e+(c.toNat-48)) d.2;rw[qB,bF,Nat.pow_succ];refine ej this ?_;rw[←Nat.mul_comm 10,←Nat.mul_assoc];exact Nat.mul_le_mul_right _ (by omega)
   have y:=t b 0 d;have z:10^b.length≤10^5:=Nat.pow_le_pow_right (by decide) n.2;have A:(10:Nat)^5=100000:=by decide
   unfold jW;omega
  have w:Lib.parseUint10 0 b=.ok (jW b):=Kf b 0 d (Nat.pow_pos (by decide)) (by omega);refine⟨?_, ?_,q,by rw[i];omega⟩
  ·rw[i];cases b with
   |nil=>simp at n
   |cons c r=>
    have k:=d;rw[kf,cW] at k;have a:48≤c.toNat∧c.toNat≤57:=dv k.1;have o:(if c.toNat=43∨c.toNat=45 then r else c::r)=c::r:=ae (by omega);have p:Lib.parseMag (c::r)=.ok (jW (c::r)):=by unfold Lib.parseMag;rw[ae (by simp)];exact w
    unfold Lib.atoiAll;simp only[o,p];rw[ae (by omega),ae (by omega),ae (by omega)]
  ·rw[i] at j;rw[i,uz _ u];exact j
def nY(u:U):U×Int:=match jh u with
 |none=>(cm,4)
 |some v=>if aQ v=0 then(v,0) else(cm,aQ v)
theorem Fz{s:Bs}(h:s.length≤1024):cZ s=nY (LF s):=by unfold cZ;rw[bN (show s.length≤ee from h),aS];rfl
theorem IW{s:Bs}(h:1024<s.length):cZ s=(cm,3):=by unfold cZ;rw[cL (show¬s.length≤ee from fun e=>by unfold ee at e;omega),cI]
theorem SV(s t:Bs){n:Nat}(h:s.length≤n):(Lib.cut s t).1.length≤n∧(Lib.cut s t).2.1.length≤n:=by
 unfold Lib.cut;split
 ·exact⟨by simp;omega,by simp;omega⟩
 ·exact⟨h,by simp⟩
theorem SW{v:Int}(h:Lib.atoiAll b=.ok v)(a:Lib.itoa v=b)(c:1≤v)(d:v≤65535):cy b=v:=by obtain⟨n,rfl⟩:∃n:Nat,v=n:=⟨v.toNat,by omega⟩;rw[uz n (by omega)] at a;rw[←a];exact Mj n (by omega) (by omega)
theorem Ql{v:Int}(h:Lib.atoiAll b=.ok v)(c:65535<v):cy b=0∨cy b=v:=by
 by_cases a:cy b=0
 ·exact .inl a
 ·have:=(Bo a).1;rw[h] at this;injection this with e;exact .inr e.symm
theorem wD(h:∀v,Lib.atoiAll b=.ok v→Lib.itoa v≠b∨v<1):cy b=0:=by
 by_cases a:cy b=0
 ·exact a
 ·obtain⟨c,d,e,_⟩:=Bo a;rcases h _ c with h|h
  ·exact(h d).elim
  ·omega
variable{b:Bool}{d k X e:Bs}{a:Nat}{z:U}{i V:World}
structure V9 (W:World) (b:Nat) (u:U):Prop where
 c:Qm W b u
 f0:W.frozen? ⟨b,0,none⟩=false
 f1:W.frozen? ⟨b,1,none⟩=false
 f2:W.frozen? ⟨b,2,none⟩=false
 f3:W.frozen? ⟨b,3,none⟩=false
 f4:W.frozen? ⟨b,4,none⟩=false
 f5:W.frozen? ⟨b,5,none⟩=false
theorem ma.full(h:ma i a z):V9 i a z:=
 ⟨h.cells,frozen_of_row _ _ 0 _ _ h,frozen_of_row _ _ 1 _ _ h,frozen_of_row _ _ 2 _ _ h,frozen_of_row _ _ 3 _ _ h,frozen_of_row _ _ 4 _ _ h,frozen_of_row _ _ 5 _ _ h⟩
theorem ma.s0(h:ma i a z)(x:Bs):ma (i.setCell ⟨a,0,none⟩ (.string ⟨x.toArray⟩)) a {z with scheme:=x}:=aw (j:=0) h
theorem ma.s1(h:ma i a z)(x:Bs):ma (i.setCell ⟨a,1,none⟩ (.string ⟨x.toArray⟩)) a {z with host:=x}:=aw (j:=1) h
theorem ma.s2(h:ma i a z)(x:Int):ma (i.setCell ⟨a,2,none⟩ (.int .i64 x)) a {z with port:=x}:=aw (j:=2) h
theorem ma.s3(h:ma i a z)(x:Bs):ma (i.setCell ⟨a,3,none⟩ (.string ⟨x.toArray⟩)) a {z with path:=x}:=aw (j:=3) h
theorem ma.s4(h:ma i a z)(x:Bs):ma (i.setCell ⟨a,4,none⟩ (.string ⟨x.toArray⟩)) a {z with query:=x}:=aw (j:=4) h
theorem ma.s5(h:ma i a z)(x:Bool):ma (i.setCell ⟨a,5,none⟩ (.bool x)) a {z with hq:=x}:=aw (j:=5) h
theorem ma.other{b c j:Nat}{u:U}{v:Value}(h:ma i b u)(a:b≠c):ma (i.setCell ⟨c,j,none⟩ v) b u:=(Below.heap_setCell i ⟨c,j,none⟩ v b a).t h
def dL(W:World)(b:Nat)(u:U):World:=(((((W.setCell ⟨b,0,none⟩ (.string ⟨u.scheme.toArray⟩)).setCell ⟨b,1,none⟩ (.string ⟨u.host.toArray⟩)).setCell ⟨b,2,none⟩ (.int .i64 u.port)).setCell ⟨b,3,none⟩ (.string ⟨u.path.toArray⟩)).setCell ⟨b,4,none⟩ (.string ⟨u.query.toArray⟩)).setCell ⟨b,5,none⟩ (.bool u.hq)
theorem jC{n:Nat}{u0:U}(u:U)(d:Below n i V)(c:n≤a)(h:ma V a u0):ma (dL V a u) a u∧Below n i (dL V a u):=by refine⟨(((((h.s0 u.scheme).s1 u.host).s2 u.port).s3 u.path).s4 u.query).s5 u.hq, ?_⟩;exact(((((d.setCell (p:=⟨a,0,none⟩) c _).setCell (p:=⟨a,1,none⟩) c _).setCell (p:=⟨a,2,none⟩) c _).setCell (p:=⟨a,3,none⟩) c _).setCell (p:=⟨a,4,none⟩) c _).setCell (p:=⟨a,5,none⟩) c _
structure PA (w W:World) (u:U):Prop where
 below:Below w.heap.size w W
 res:ma W w.heap.size cm
 box:ma W (w.heap.size+1) u
theorem PA.next{w W W':World}{u:U}(h:PA w W u)(a:Below W.heap.size W W'):PA w W' u:=⟨h.below.t (a.m h.below.size),h.res.next a,h.box.next a⟩
theorem PA.put{a:U}(h:PA i V z)(j:Nat)(v:Value)(b:ma (V.setCell ⟨i.heap.size+1,j,none⟩ v) (i.heap.size+1) a):PA i (V.setCell ⟨i.heap.size+1,j,none⟩ v) a:=
 ⟨h.below.setCell (p:=⟨i.heap.size+1,j,none⟩) (by show i.heap.size≤i.heap.size+1;omega) v,h.res.other (by omega),b⟩
theorem PA.s0{w W:World}{u:U}(h:PA w W u)(x:Bs):PA w (W.setCell ⟨w.heap.size+1,0,none⟩ (.string ⟨x.toArray⟩)) {u with scheme:=x}:=h.put 0 _ (h.box.s0 x)
theorem PA.s1{w W:World}{u:U}(h:PA w W u)(x:Bs):PA w (W.setCell ⟨w.heap.size+1,1,none⟩ (.string ⟨x.toArray⟩)) {u with host:=x}:=h.put 1 _ (h.box.s1 x)
theorem PA.s2{w W:World}{u:U}(h:PA w W u)(x:Int):PA w (W.setCell ⟨w.heap.size+1,2,none⟩ (.int .i64 x)) {u with port:=x}:=h.put 2 _ (h.box.s2 x)
theorem PA.s3{w W:World}{u:U}(h:PA w W u)(x:Bs):PA w (W.setCell ⟨w.heap.size+1,3,none⟩ (.string ⟨x.toArray⟩)) {u with path:=x}:=h.put 3 _ (h.box.s3 x)
theorem PA.s4{w W:World}{u:U}(h:PA w W u)(x:Bs):PA w (W.setCell ⟨w.heap.size+1,4,none⟩ (.string ⟨x.toArray⟩)) {u with query:=x}:=h.put 4 _ (h.box.s4 x)
theorem PA.s5{w W:World}{u:U}(h:PA w W u)(x:Bool):PA w (W.setCell ⟨w.heap.size+1,5,none⟩ (.bool x)) {u with hq:=x}:=h.put 5 _ (h.box.s5 x)
theorem U7(w:World):PA w ((w.alloc (.cells #[.string ⟨#[]⟩,.string ⟨#[]⟩,.int .i64 0,.string ⟨#[]⟩,.string ⟨#[]⟩,.bool false] 23)).alloc (.cells #[.string ⟨#[]⟩,.string ⟨#[]⟩,.int .i64 0,.string ⟨#[]⟩,.string ⟨#[]⟩,.bool false] 23)) cm:=by have h:=jG w (.cells #[.string ⟨#[]⟩,.string ⟨#[]⟩,.int .i64 0,.string ⟨#[]⟩,.string ⟨#[]⟩,.bool false] 23) (.cells #[.string ⟨#[]⟩,.string ⟨#[]⟩,.int .i64 0,.string ⟨#[]⟩,.string ⟨#[]⟩,.bool false] 23);exact⟨h.below,h.b1,h.b2⟩
abbrev dE(p:U×Int):Value:=.tuple #[uV p.1,.int .i64 p.2]
theorem FA(a:k.contains 58=false):nY ⟨d,k,0,X,e,b⟩=if aQ ⟨d,k,0,X,e,b⟩=0 then(⟨d,k,0,X,e,b⟩,0) else(cm,aQ ⟨d,k,0,X,e,b⟩):=by
 have:jh ⟨d,k,0,X,e,b⟩=some ⟨d,k,0,X,e,b⟩:=by unfold jh;show(bif k.contains 58 then _ else _)=_;rw[a];rfl
 unfold nY;rw[this]
theorem lx(a:k.contains 58=true)(c:cy (past 58 k)=0):nY ⟨d,k,0,X,e,b⟩=(cm,4):=by
 have:jh ⟨d,k,0,X,e,b⟩=none:=by unfold jh;show(bif k.contains 58 then(if cy (past 58 k)=0 then none else _) else _)=_;rw[a,aS,ah c]
 unfold nY;rw[this]
theorem yT(a:k.contains 58=true)(c:¬cy (past 58 k)=0):nY ⟨d,k,0,X,e,b⟩=if aQ ⟨d,upto 58 k,cy (past 58 k),X,e,b⟩=0 then(⟨d,upto 58 k,cy (past 58 k),X,e,b⟩,0) else(cm,aQ ⟨d,upto 58 k,cy (past 58 k),X,e,b⟩):=by
 have:jh ⟨d,k,0,X,e,b⟩=some ⟨d,upto 58 k,cy (past 58 k),X,e,b⟩:=by unfold jh;show(bif k.contains 58 then(if cy (past 58 k)=0 then none else _) else _)=_;rw[a,aS,ae c]
 unfold nY;rw[this]
theorem FC{v:Int}(c:k.contains 58=true)(i:Lib.atoiAll (past 58 k)=.ok v)(m:Lib.itoa v=past 58 k)(n:1≤v):nY ⟨d,k,0,X,e,b⟩=if aQ ⟨d,upto 58 k,v,X,e,b⟩=0 then(⟨d,upto 58 k,v,X,e,b⟩,0) else(cm,aQ ⟨d,upto 58 k,v,X,e,b⟩):=by
 by_cases l:v≤65535
 ·have a:=SW i m n l;rw[yT c (by omega),a]
 ·have j:aQ ⟨d,upto 58 k,v,X,e,b⟩=4:=cV (yU (by show¬(0≤v∧v≤65535);omega));rw[j,ae (by decide)];rcases Ql i (by omega) with a|a
  ·exact lx c a
  ·rw[yT c (by omega),a,j,ae (by decide)]
theorem Qk{v:Int}(h:Lib.atoiAll d=.ok v):-9223372036854775808≤v∧v≤9223372036854775807:=by
 cases d with
 |nil=>cases h
 |cons c r=>
  unfold Lib.atoiAll at h;simp only at h;split at h
  ·cases h
  ·cases h
  ·rename_i u j;split at h
   ·cases h
   ·split at h
    ·cases h
    ·injection h with h;rename_i b i;by_cases a:c.toNat=45
     ·rw[ah a] at h;have:¬9223372036854775808<u:=fun e=>i ⟨a,e⟩;omega
     ·rw[ae a] at h;have:¬9223372036854775808≤u:=fun e=>b ⟨a,e⟩;omega
theorem Mi(v:Int)(w:World)(c:GX w)(a:-9223372036854775808≤v)(b:v≤9223372036854775807):
 Calls Tryz.prog 69 #[.int .i64 v] w (cN w (.string ⟨(Lib.itoa v).toArray⟩)):=by
 refine(Tryz.strconv_Itoa v a b w c.Tz).m ?_;rintro e w'⟨rfl,k,os,rfl⟩;exact⟨rfl,Lib.below_grow _ w (ag _) k os⟩
theorem FB(s:ByteArray)(v:Int)(w:World)(h:Lib.atoiAll s.data.toList=.ok v)(a:s.size≤1000000):
 Calls Tryz.prog 133 #[.string s] w (cN w (.tuple #[.int .i64 v,.nilIface])):=by
 refine(Tryz.strconv_Atoi_ok s (by omega) v h w).m ?_;rintro e w'⟨rfl,rfl|⟨t,rfl⟩⟩
 ·exact⟨rfl,Below.refl _ _⟩
 ·exact⟨rfl,Lib.bytesWorld_below _ _ _⟩
theorem CE(s:ByteArray)(w:World)(b:GX w)(h:Lib.atoiAll s.data.toList=Lib.atoiAll [])(i:s.size≤1000000):
 Calls Tryz.prog 133 #[.string s] w fun e w'=>∃N,e=.returned (.tuple #[.int .i64 0,.iface 270 (.pointer (some ⟨N,0,none⟩))])∧Below w.heap.size w w':=by
 obtain⟨d,p,c⟩:=b.Xd;refine(Tryz.strconv_Atoi_syntax_var s (by omega) h d p w c).m ?_;rintro e w'⟨N,rfl,_,_,a⟩;exact⟨N,rfl,a⟩
theorem CF(s:ByteArray)(w:World)(b:GX w)(h:Lib.atoiAll s.data.toList=.range)(i:s.size≤1000000):
 Calls Tryz.prog 133 #[.string s] w fun e w'=>∃N n,e=.returned (.tuple #[.int .i64 n,.iface 270 (.pointer (some ⟨N,0,none⟩))])∧Below w.heap.size w w':=by
 obtain⟨d,p,c⟩:=b.Xe;refine(Tryz.strconv_Atoi_range_var s (by omega) h d p w c).m ?_;rintro e w'⟨N,rfl,_,_,a⟩;exact⟨N,_,rfl,a⟩
end Go.Proofs.YtlemddnecmmfgaaGreatDoor
namespace Go.Proofs.YtlemddnecmmfgaaGreatDoor
open Go.RowKit Go.Shelf
attribute[local go_sem] Oper.semAt_some
structure yj (n bs:Nat) (A B:aaK):Prop where
 os:B.os=A.os
 tape:B.tape=A.tape
 output:B.output=A.output
 size:A.heap.size≤B.heap.size
 block:∀k,k<A.heap.size→k≠bs→k≠n→k≠n+1→B.heap[k]? =A.heap[k]?
theorem yl(n a:Nat)(A:aaK)(v:aaL):yj n a A (A.setCell ⟨a,0,none⟩ v):=
 ⟨rfl,rfl,rfl,by rw[bE];exact ag _,fun k _ b _ _=>dy A ⟨a,0,none⟩ v k b⟩
theorem iu(n a:Nat)(A:aaK)(o:Obj):yj n a A (A.putObj (n+1) o):=
 ⟨rfl,rfl,rfl,by simp,fun k _ _ _ h=>Xv (by omega)⟩
theorem Ck{N:Nat}{g:Operand}{J:Array Tmp}{assign body:Code}{Q:Exit→Act→aaK→Prop}{a:Act}{w:aaK}(c:UInt8)(s:Bs)(b n o:Nat)
 (h1:b≠n)(h2:b≠o)(aa:b≠0)
 (hg:a.eval g=.func (.func 240) #[] #[.pointer (some ⟨n,0,none⟩),.pointer (some ⟨b,0,none⟩),.pointer (some ⟨o,0,none⟩)])
 (a9:J.size=1)(hit:Iter w b n o s c)(ac:Good w)(hs:s.length<4294967281)
 (S:Nat→Prop)(y:∀k,S k→(k<w.heap.size∧k≠b∧k≠n∧k≠o∧k≠0)∨w.heap.size+1<k)
 (I C:List Bs→aaK→Prop)(E:∀pre A B,I pre A→yj w.heap.size b A B→I pre B)(Z:∀pre A B,C pre A→yj w.heap.size b A B→C pre B)
 (h0:I [] w)(Y:Bs→Act)
 (aN:∀(l:Nat) (x:Bs) (W:aaK) (K:Act→aaK→Prop),K (Y x) W→
  assign.wpIn (Fence.wide.inRound l) (N-1-1) Tryz.prog (Exit.then K (fun _ _ _=>False)) {tmps:=(J.zip #[.string ⟨x.toArray⟩]).foldl (fun t (p,v)=>t.setIfInBounds p v) a.tmps,defers:=[]} W)
 (a0:∀(l:Nat) (pre:List Bs) (x:Bs) (W:aaK),I pre W→w.heap.size+1<W.heap.size→Good W→pre++[x]<+:pieces c s→
  body.wpIn (Fence.wide.inRound l) (N-1-1) Tryz.prog (bodyPostS S I C (pre++[x]) W) (Y x) W)
 (a1:∀(D:Nat) (W:aaK),w.heap.size≤D→I (pieces c s) W→W.heap[D]? =some (.deferred (some []))→Q .normal {a with defers:={target:=.collected D,args:=#[]}::a.defers} W)
 (bb:∀(D:Nat) (pre:List Bs) (W:aaK),w.heap.size≤D→pre<+:pieces c s→C pre W→W.heap[D]? =some (.deferred (some []))→Code.ret.wpIn Fence.wide N Tryz.prog Q {a with defers:={target:=.collected D,args:=#[]}::a.defers} W):
 (Code.rangeFunc g J assign body).wpIn Fence.wide N Tryz.prog Q a w:=by
 refine wpIn_rangeFunc ?_;intro fn a2;obtain⟨rec,r⟩:∃rec:LoopState→Option Code→Loop,rec=fun st pe=>{state:=st,pending:=pe,fn,tmps:=a.tmps,params:=J,assign,body,defers:=w.heap.size}:=⟨_,rfl⟩;obtain⟨i,H⟩:∃i,(w.alloc (.deferred (some []))).alloc (.loop (rec .ready none))=i:=⟨_,rfl⟩;have q:Below w.heap.size w i:=by rw[←H];exact((ar _ w).alloc (ag _) _).alloc (by simp) _
 have ay:i.heap[w.heap.size+1]? =some (.loop (rec .ready none)):=by rw[←H];have:=oF (w.alloc (.deferred (some []))) (.loop (rec .ready none));rwa [aO] at this
 have av:i.heap[w.heap.size]? =some (.deferred (some [])):=by rw[←H];exact(tG _ _ _ (by simp)).t (oF w _)
 have ai:=mz hit.rest;have am:=mz hit.sep;have an:=mz hit.save;have al:=ac.lt;have aq:I [] i:=E [] w i h0 ⟨q.os,q.tape,q.output,q.size,fun k m _ _ _=>q.block k m⟩;have a4:Iter i b n o s c:=⟨(q.block _ ai).t hit.rest,(q.block _ am).t hit.sep,(q.block _ an).t hit.save⟩;refine⟨w.heap.size+1,[{target:=.collected w.heap.size,args:=#[]}],i,{target:=.fn (.func 240) #[.pointer (some ⟨n,0,none⟩),.pointer (some ⟨b,0,none⟩),.pointer (some ⟨o,0,none⟩)],args:=#[.func (.yield (w.heap.size+1)) #[] #[]]},i,240,
  #[.func (.yield (w.heap.size+1)) #[] #[],.pointer (some ⟨n,0,none⟩),.pointer (some ⟨b,0,none⟩),.pointer (some ⟨o,0,none⟩)],i, ?_, ?_, ?_, ?_,(fun e=>by cases e), ?_⟩
 ·rw[←H,r];exact run_enterLoop_outer _ _ _ _ _
 ·simp only[resolve,hg];simp[go_sem]
 ·intro f' _;exact trivial
 ·simp[invoke,go_sem]
 ·refine(Yq (N-1) (w.heap.size+1) b n o c s
   (fun pre W=>I pre W∧W.heap[w.heap.size+1]? =some (.loop (rec .ready none))∧W.heap[w.heap.size]? =some (.deferred (some [])))
   (fun pre W=>C pre W∧W.heap[w.heap.size+1]? =some (.loop (rec .done (some .ret)))∧W.heap[w.heap.size]? =some (.deferred (some [])))
   i h1 h2 aa
   (fun pre A v M=>⟨E pre A _ M.1 (yl _ _ _ _),(dy A ⟨b,0,none⟩ v _ (by show w.heap.size+1≠b;omega)).t M.2.1,(dy A ⟨b,0,none⟩ v _ (by show w.heap.size≠b;omega)).t M.2.2⟩)
   ?_ ⟨aq,ay,av⟩ a4 (fR ac (q.block _ al)) hs).mono ?_
  ·rintro pre x W⟨F,u,m⟩ab T;have ao:w.heap.size+1<W.heap.size:=mz u;have X:=run_yield (P:=Tryz.prog) (args:=#[.string ⟨x.toArray⟩]) u (by rw[r];exact a9.symm);rw[r] at X;refine⟨fn,_,assign,body,X,roundIn_of_wpIn a2 (aN _ x W _ ⟨_,run_beginRound u (by rw[r]), ?_⟩)⟩;clear X;have ap:=iu w.heap.size b W (.loop {rec .ready none with state:=.busy});have a6:(W.putObj (w.heap.size+1) (.loop {rec .ready none with state:=.busy})).heap[w.heap.size+1]? =some (.loop {rec .ready none with state:=.busy}):=wK ao;have a5:(W.putObj (w.heap.size+1) (.loop {rec .ready none with state:=.busy})).heap[w.heap.size]? =some (.deferred (some [])):=(Xv (by omega)).t m;refine wpIn_mono (a0 _ pre x _ (E _ _ _ F ap) (by simpa using ao) (fR ab (ap.block _ (by omega) (eo aa) (by omega) (by omega))) T) ?_;have bd:(W.putObj (w.heap.size+1) (.loop {rec .ready none with state:=.busy})).heap.size=W.heap.size:=by simp
   have aU:∀k,k<w.heap.size→(W.putObj (w.heap.size+1) (.loop {rec .ready none with state:=.busy})).heap[k]? =W.heap[k]? :=fun k m=>Xv (by omega);generalize W.putObj (w.heap.size+1) (.loop {rec .ready none with state:=.busy})=L at*;have fin:∀(jump:Option Code) (d:aaK),oY S L d→
    (Instr.endRound (w.heap.size+1) jump).run Tryz.prog d=.ok (.bool jump.isNone) (d.putObj (w.heap.size+1) (.loop (rec (if jump.isNone then .ready else .done) jump)))∧
    (d.putObj (w.heap.size+1) (.loop (rec (if jump.isNone then .ready else .done) jump))).heap[w.heap.size+1]? =some (.loop (rec (if jump.isNone then .ready else .done) jump))∧
    (d.putObj (w.heap.size+1) (.loop (rec (if jump.isNone then .ready else .done) jump))).heap[w.heap.size]? =some (.deferred (some [])):=fun jump d j=>by
    have a8:¬S (w.heap.size+1):=fun h=>by have:=y _ h;omega
    have a7:¬S w.heap.size:=fun h=>by have:=y _ h;omega
    have af:=(j.block (w.heap.size+1) (by omega) a8).t a6;have G:=(j.block w.heap.size (by omega) a7).t a5;have:=run_endRound (P:=Tryz.prog) jump af;rw[r] at this⊢;exact⟨this,wK (mz af),(Xv (by omega)).t G⟩
   have kept:∀(jump:Option Code) (d:aaK) (k:Nat),oY S L d→k<w.heap.size→¬S k→(d.putObj (w.heap.size+1) (.loop (rec (if jump.isNone then .ready else .done) jump))).heap[k]? =W.heap[k]? :=fun jump d k j m hn=>(Xv (by omega)).t ((j.block k (by omega) hn).t (aU k m))
   rintro e a3 d z;cases e with
   |normal=>
    obtain⟨j,O⟩:=z;obtain⟨V,R,G⟩:=fin none d j;exact⟨_,_,V,.inl ⟨rfl,⟨E _ _ _ O (iu _ _ _ _),R,G⟩,
     ⟨kept none d b j ai (fun h=>by have:=y _ h;omega),kept none d n j am (fun h=>by have:=y _ h;omega),kept none d o j an (fun h=>by have:=y _ h;omega)⟩,
     fR ab (kept none d _ j al (fun h=>by have:=y _ h;omega))⟩⟩
   |ret=>obtain⟨j,O⟩:=z;obtain⟨V,R,G⟩:=fin (some .ret) d j;exact⟨_,_,V,.inr ⟨rfl,Z _ _ _ O (iu _ _ _ _),R,G⟩⟩
   |exit id=>exact z.elim
   |goto t=>exact z.elim
   |panic ch=>exact z.elim
   |outgrown=>exact z.elim
  ·rintro e L⟨⟨v,rfl⟩,(⟨F,u,m⟩|⟨pre,T,F,u,m⟩)⟩
   ·exact⟨none,_,by have:=run_endLoop (P:=Tryz.prog) u (by rw[r];simp);rw[r] at this;exact this,a1 _ _ (ag _) (E _ _ _ F (iu _ _ _ _)) ((Xv (by omega)).t m)⟩
   ·exact⟨some .ret,_,by have:=run_endLoop (P:=Tryz.prog) u (by rw[r];simp);rw[r] at this;exact this,bb _ pre _ (ag _) T (Z _ _ _ F (iu _ _ _ _)) ((Xv (by omega)).t m)⟩
end Go.Proofs.YtlemddnecmmfgaaGreatDoor
namespace Go.Proofs.YtlemddnecmmfgaaGreatDoor
open Go.RowKit Go.Shelf
variable{a:Bs}{A:List Bs}{d b i:Nat}{C:Obj}{e:Option Addr}{L:Option Nat}{q s:aaK}
attribute[local go_sem] Oper.semAt_some
def ke(w:aaK)(base:Nat)(v:aaL)(a:List Bs):Prop:=
 w.ownsRow base 9 1 v a.length (cM a)∨
 ∃g,v=.slice (some ⟨g,0,none⟩) a.length a.length∧base≤g∧g<w.heap.size∧∀(j:Nat) (l:Bs),a[j]? =some l→w.cell? ⟨g,j,none⟩=some (.string ⟨l.toArray⟩)
theorem yY(g j:Nat):((⟨g,0,none⟩:Addr).add j)=⟨g,j,none⟩:=by
 unfold Addr.add;by_cases a:j=0
 ·subst a;rfl
 ·rw[ae a];simp
theorem Ml{j:Nat}{u:aaL}(h:(cM A)[j]? =some u):∃l,A[j]? =some l∧u=.string ⟨l.toArray⟩:=by unfold cM at h;rw[uI] at h;obtain⟨l,a,rfl⟩:=qG.1 h;exact⟨l,a,rfl⟩
theorem ke.shape{v:aaL}(h:ke q d v A):∃a c,v=.slice a A.length c∧A.length≤c:=by
 rcases h with h|⟨g,rfl,_⟩
 ·rcases h.2 with⟨rfl,b⟩|⟨g,cap,_,rfl,_,_,e,_⟩
  ·exact⟨none,0,by rw[b],by omega⟩
  ·exact⟨_,_,rfl,e⟩
 ·exact⟨_,_,rfl,ag _⟩
theorem ke.block{v:aaL}(h:ke q d v A):∀g,v.ownBlock=some g→d≤g∧g<q.heap.size:=by
 intro g a;rcases h with h|⟨g',rfl,b,c,_⟩
 ·exact h.lt g a
 ·obtain rfl:g'=g:=by simpa[Value.ownBlock] using a
  exact⟨b,c⟩
theorem ke.strs{v:aaL}(h:ke q d v A):cg q v A:=by
 rcases h with h|⟨g,rfl,_,a,b⟩
 ·exact cg.wO h
 ·exact .inr ⟨g,0,_,rfl,ag _,a,fun j l c=>by rw[dH];exact b j l c⟩
theorem ke.kept{v:aaL}(h:ke q d v A)(r:q.heap.size≤s.heap.size)(b:∀g,v.ownBlock=some g→s.heap[g]? =q.heap[g]?):ke s d v A:=by
 rcases h with h|⟨g,rfl,e,p,i⟩
 ·refine .inl ⟨h.1, ?_⟩;rcases h.2 with h|⟨g,cap,c,rfl,m,n,o⟩
  ·exact .inl h
  ·exact .inr ⟨g,cap,c,rfl,m,(b g rfl).t n,o⟩
 ·exact .inr ⟨g,rfl,e,by omega,fun j l k=>(uL (a:=⟨g,j,none⟩) (b g rfl)).t (i j l k)⟩
theorem ke.cut(h:ke q d (.slice e A.length b) A)(s:A≠[]):ke q d (.slice e (A.length-1) (A.length-1)) A.dropLast:=by
 have p:A.dropLast.length=A.length-1:=by simp
 have z:0<A.length:=abb.2 s;have cells:∀g,e=some ⟨g,0,none⟩→∀(j:Nat) (l:Bs),A[j]? =some l→q.cell? ⟨g,j,none⟩=some (.string ⟨l.toArray⟩):=by
  rintro g rfl j l k;rcases h with h|⟨g',i,_,_,o⟩
  ·have:=h.cells (g:=g) rfl j (.string ⟨l.toArray⟩) (by simp[cM,k]);rw[yY] at this;exact this
  ·obtain rfl:g=g':=by simp only[Value.slice.injEq,gR,Addr.mk.injEq] at i;exact i.1.1
   exact o j l k
 obtain⟨g,rfl,m,n⟩:∃g,e=some ⟨g,0,none⟩∧d≤g∧g<q.heap.size:=by
  rcases h with h|⟨g',i,t,u,_⟩
  ·have r:=h.lt;rcases h.2 with⟨i,y⟩|⟨g,cap,x,i,_⟩
   ·omega
   ·obtain⟨rfl,_⟩:=by simpa only[Value.slice.injEq] using i
    have:=r g rfl;exact⟨g,rfl,this.1,this.2⟩
  ·obtain⟨rfl,_⟩:=by simpa only[Value.slice.injEq] using i
   exact⟨g',rfl,t,u⟩
 refine .inr ⟨g,by rw[p],m,n,fun j l k=>cells g rfl j l ?_⟩;rw[List.getElem?_dropLast] at k;split at k
 ·exact k
 ·cases k
theorem acg(h:q.grownBy s none):q.grownBy s L:=⟨h.os,h.tape,h.output,h.size,fun k a _=>h.block k a (by simp)⟩
theorem Qo{v:aaL}(s:TypeId)(h:ke q d v A)(p:Bs)(g:Nat)(H:q.cell? ⟨g,0,none⟩=some (.string ⟨p.toArray⟩))(N:A.length≤100000)(t:d≤q.heap.size):
 ∃a c W',(Builtin.append_ #[42,42] s #[v,.slice (some ⟨g,0,none⟩) 1 1]).run Tryz.prog q=.ok (.slice a (A.length+1) c) W'∧ke W' d (.slice a (A.length+1) c) (A++[p])∧q.grownBy W' v.ownBlock:=by
 obtain⟨i,y,C,z,w⟩:=info_parts MO;have x:∀(j:Nat) (u:aaL),([Value.string ⟨p.toArray⟩]:List aaL)[j]? =some u→q.cell? ((⟨g,0,none⟩:Addr).add j)=some u:=by
  intro j u k;rw[yY]
  match j,k with
  |0,k=>
   have e:Value.string ⟨p.toArray⟩=u:=by simpa using k
   subst e;exact H
  |j+1,k=>simp at k
 have fin:∀{b:Nat} {v':aaL} {W':aaK},d≤b→W'.ownsRow b 9 1 v' (A.length+1) (cM A++[.string ⟨p.toArray⟩])→∃a c,v'=.slice a (A.length+1) c∧ke W' d v' (A++[p]):=by
  intro b v' W' G m;obtain⟨a,c,rfl⟩:=aX m;refine⟨a,c,rfl,.inl ?_⟩;rw[bB,oG];refine⟨m.1, ?_⟩;rcases m.2 with h|⟨g,cap,D,K,J,n⟩
  ·exact .inl h
  ·exact .inr ⟨g,cap,D,K,bP G J,n⟩
 rcases h with h|⟨E,rfl,L,M,I⟩
 ·obtain⟨v',W',n,m,o,_⟩:=run_append_own (P:=Tryz.prog) q d 42 s 9 i _ 1 16 u42 y C z w rfl (by omega) v A.length (cM A) h ⟨g,0,none⟩ 1 1 [.string ⟨p.toArray⟩] rfl x (by intro u B;simp at B;subst B;rfl) (by unfold maxLen;omega) (by omega) t;obtain⟨a,c,rfl,r⟩:=fin (ag _) m;exact⟨a,c,W',n,r,o⟩
 ·obtain⟨v',W',n,m,o⟩:=run_append_arg_grows (P:=Tryz.prog) q 42 s 9 i _ 1 16 u42 y C z w rfl (by omega) ⟨E,0,none⟩ A.length A.length (cM A) (by rw[nk];omega)
   (fun j u k=>by obtain⟨l,F,rfl⟩:=Ml k;rw[yY];exact I j l F) ⟨g,0,none⟩ 1 1 [.string ⟨p.toArray⟩] rfl x (by omega) (by unfold maxLen;omega) (by omega)
  obtain⟨a,c,rfl,r⟩:=fin t m;exact⟨a,c,W',n,r,acg o⟩
theorem zJ{F:Fence}{ops:Array Oper}{rest:List Oper}{o:Oper}{a:Act}{Q:Exit→Act→aaK→Prop}
 (u:o.guard=none)(s x:Operand)(j:o.op=Op.call {callee:=Callee.builtin Builtin.append,args:=#[s,x],argTypes:=#[42,42]})
 (base:Nat)(v:aaL)(b:List Bs)(z:a.eval s=v)(h:ke q base v b)(p:Bs)(g:Nat)(A:a.eval x=.slice (some ⟨g,0,none⟩) 1 1)(r:q.cell? ⟨g,0,none⟩=some (.string ⟨p.toArray⟩))(w:b.length≤100000)(m:base≤q.heap.size)
 (k:∀e i W',ke W' base (.slice e (b.length+1) i) (b++[p])→q.grownBy W' v.ownBlock→wpListIn F d Tryz.prog ops Q rest (a.put o.dst (.slice e (b.length+1) i)) W'):
 wpListIn F d Tryz.prog ops Q (o::rest) a q:=by
 refine wpListIn_plain u fun K l=> ?_;obtain⟨e,i,W',y,B,C⟩:=Qo o.type h p g r w m;unfold Oper.wpIn;refine⟨?_, ?_⟩
 ·simp[Oper.about,j,resolve,Target.leads,Sem.run_pure]
 ·rw[Oper.semAt_plain F _ _ (by rw[j];intro c t;cases t)];simp[execOp,j,resolve,invoke,builtin,z,A,y,Result.andThen];exact l _ _ (k e i W' B C)
structure DI (w:aaK) (n bk bl:Nat) (pre:List Bs) (W:aaK):Prop where
 kept:∃v,iz W bk v 42∧ke W (n+1+1) v (dh pre)
 last:iz W bl (.string ⟨(pre.getLast?.getD []).toArray⟩) 9
 below:Below w.heap.size w W
theorem DI.stays{c:Nat}(r:b<d)(s:i<d)(m:b≠c)(o:i≠c)(u:c<d)(z:q.heap.size≤d)(y:q.heap.size≤c)(pre:List Bs)(A B:aaK)(x:DI q d b i pre A)(k:yj d c A B):DI q d b i pre B:=by
 obtain⟨v,h,l⟩:=x.kept;refine⟨⟨v,(k.block _ h.lt m (by omega) (by omega)).t h,l.kept k.size (fun g p=> ?_)⟩,(k.block _ x.last.lt o (by omega) (by omega)).t x.last, ?_⟩
 ·have:=l.block g p;exact k.block g this.2 (by omega) (by omega) (by omega)
 ·have a:=x.below;exact⟨k.os.t a.os,k.tape.t a.tape,k.output.t a.output,bP a.size k.size,fun j e=>(k.block j (ej e a.size) (by omega) (by omega) (by omega)).t (a.block j e)⟩
end Go.Proofs.YtlemddnecmmfgaaGreatDoor
namespace Go.Proofs.YtlemddnecmmfgaaGreatDoor
open Go.RowKit Go.Shelf
variable{a:Bs}{A:List Bs}{d b i:Nat}{C:Obj}{e:Option Addr}{L:Option Nat}{q s:aaK}
attribute[local go_sem] Oper.semAt_some
theorem FJ(h:A≠[]):47::Lib.join A [47]=iA A:=by
 cases A with
 |nil=>exact(h rfl).elim
 |cons a r=>rw[Lib.join_cons,fT];rfl
theorem Mm(v:aaL)(ls:List Bs)(i:aaM)(w:aaK)(h:cg w v ls)(k:ls.length≤1000000)(q:(Lib.join ls i.data.toList).length≤1000000):
 Calls Tryz.prog 26 #[v,.string i] w (cN w (.string ⟨(Lib.join ls i.data.toList).toArray⟩)):=by
 rcases h with⟨a,c,rfl,rfl⟩|⟨b,o,c,rfl,m,p,n⟩
 ·refine(Tryz.strings_Join_none a c i w).mono ?_;rintro e w'⟨rfl,rfl⟩;exact⟨rfl,ar _ _⟩
 ·have d:((ls.map fun l=>(⟨l.toArray⟩:aaM)).map (·.data.toList))=ls:=by rw[List.map_map];exact List.map_id' ls
  have:=Tryz.strings_Join b o c (ls.map fun l=>(⟨l.toArray⟩:aaM)) i w (fun j x d=>by rw[uI] at d;obtain⟨l,k,rfl⟩:=qG.1 d;exact n j l k) p (by rw[jo];omega) (by rw[jo];exact m) (by rw[d];omega)
  rw[d,jo] at this;exact this
theorem Bt(pre:List Bs)(x:Bs):dh (pre++[x])=bU (dh pre) x:=by unfold dh;rw[List.foldl_append];rfl
theorem uA:∀(l kept:List Bs),(l.foldl bU kept).length≤kept.length+l.length
 |[],kept=>by simp
 |a::l,kept=>by
  rw[qB];have c:=uA l (bU kept a);have b:(bU kept a).length≤kept.length+1:=by
   unfold bU;split
   ·omega
   ·split
    ·simp;omega
    ·simp
  simp;omega
theorem SY{l:List Bs}(h:A++[a]<+:l):(dh A).length≤l.length:=by have b:=uA A [];have c:=h.length_le;simp at b c;unfold dh;omega
theorem Qp{w c W W':aaK}{x:Bs}{t v:aaL}(j:DI w c.heap.size d b A W)(I:d<c.heap.size)(J:b<c.heap.size)(o:d≠b)(L:w.heap.size≤d)(M:w.heap.size≤b)(K:w.heap.size≤c.heap.size)
 (a:(W.setCell ⟨b,0,none⟩ (.string ⟨x.toArray⟩)).grownBy W' t.ownBlock)(G:∀g,t.ownBlock=some g→c.heap.size+1+1≤g)(q:ke W' (c.heap.size+1+1) v (dh (A++[x]))):
 oY (fun k=>(k=d∨k=b)∨c.heap.size+1<k) W (W'.setCell ⟨d,0,none⟩ v)∧DI w c.heap.size d b (A++[x]) (W'.setCell ⟨d,0,none⟩ v):=by
 obtain⟨v0,r,N⟩:=j.kept;have m:(W.setCell ⟨b,0,none⟩ (.string ⟨x.toArray⟩)).heap.size=W.heap.size:=bE _ _ _;have F:=j.last.lt;have C:=r.lt;have l:∀k,k<c.heap.size+1+1→some k≠t.ownBlock:=fun k i e=>by have:=G k e.symm;omega
 have E:iz W' b (.string ⟨x.toArray⟩) 9:=(a.block b (by rw[m];exact F) (l b (by omega))).t j.last.set;have B:iz W' d v0 42:=(a.block d (by rw[m];exact C) (l d (by omega))).t (r.other o);have p:W.heap.size≤W'.heap.size:=by have:=a.size;omega
 refine⟨⟨?_, ?_, ?_,by rw[bE];exact p, ?_⟩,⟨⟨v,B.set,q.kept (by rw[bE];exact ag _) (fun g z=> ?_)⟩, ?_, ?_⟩⟩
 ·exact a.os
 ·exact a.tape
 ·exact a.output
 ·intro k i n;have s:k≠d:=fun e=>n (.inl (.inl e));have y:k≠b:=fun e=>n (.inl (.inr e));have H:¬c.heap.size+1<k:=fun e=>n (.inr e);exact(dy W' ⟨d,0,none⟩ v k s).t ((a.block k (by rw[m];exact i) (l k (by omega))).t (dy W ⟨b,0,none⟩ _ k y))
 ·have:=q.block g z;exact dy W' ⟨d,0,none⟩ v g (by show g≠d;omega)
 ·have:=E.other (u:=v) (eo o);rw[List.getLast?_concat];exact this
 ·have h:=j.below;refine⟨a.os.t h.os,a.tape.t h.tape,a.output.t h.output,by rw[bE];exact bP h.size p,fun k i=> ?_⟩;have D:k<W.heap.size:=ej i h.size;exact(dy W' ⟨d,0,none⟩ v k (by show k≠d;omega)).t ((a.block k (by rw[m];exact D) (l k (by omega))).t ((dy W ⟨b,0,none⟩ _ k (by show k≠b;omega)).t (h.block k i)))
theorem SZ{W:aaK}{x:Bs}(a:DI q s.heap.size d b A W)(o:d<s.heap.size)(r:b<s.heap.size)(j:d≠b)(m:q.heap.size≤b)(h:dh (A++[x])=dh A):
 oY (fun k=>(k=d∨k=b)∨s.heap.size+1<k) W (W.setCell ⟨b,0,none⟩ (.string ⟨x.toArray⟩))∧DI q s.heap.size d b (A++[x]) (W.setCell ⟨b,0,none⟩ (.string ⟨x.toArray⟩)):=by
 obtain⟨v0,n,c⟩:=a.kept;refine⟨⟨rfl,rfl,rfl,by rw[bE];exact ag _,fun k _ l=>dy W ⟨b,0,none⟩ _ k (fun e=>l (.inl (.inr e)))⟩,⟨⟨v0,n.other j, ?_⟩, ?_, ?_⟩⟩
 ·rw[h];exact c.kept (by rw[bE];exact ag _) (fun g i=>dy W ⟨b,0,none⟩ _ g (by have:=c.block g i;show g≠b;omega))
 ·rw[List.getLast?_concat];exact a.last.set
 ·exact a.below.setCell (p:=⟨b,0,none⟩) m _
theorem ke.WU(h:ke q d (.slice e 0 b) []):ke q d (.slice e 0 0) []:=by
 rcases h with h|⟨g',i,n,o,_⟩
 ·have m:=h.lt;rcases h.2 with⟨i,r⟩|⟨g,cap,p,i,_⟩
  ·obtain⟨rfl,_⟩:=by simpa only[Value.slice.injEq] using i
   exact .inl (jO _ _ _ _)
  ·obtain⟨rfl,_⟩:=by simpa only[Value.slice.injEq] using i
   have:=m g rfl;exact .inr ⟨g,rfl,this.1,this.2,fun j l k=>by simp at k⟩
 ·obtain⟨rfl,_⟩:=by simpa only[Value.slice.injEq] using i
  exact .inr ⟨g',rfl,n,o,fun j l k=>by simp at k⟩
theorem vI{W W':aaK}(h:(W.alloc C).grownBy W' L):W.grownBy W' L:=
 ⟨h.os,h.tape,h.output,by have:=h.size;simp at this;omega,fun k a b=>(h.block k (by simp;omega) b).t (tG _ _ _ a)⟩
theorem I1{W W':aaK}{x v v0:aaL}(h:((W.setCell ⟨d,0,none⟩ x).alloc C).grownBy W' v.ownBlock)(j:∀g,v.ownBlock=some g→i≤g)(a:iz W b v0 42)(k:b<i)(c:b≠d):iz W' b v0 42:=
 ((vI h).block b (by rw[bE];exact a.lt) (fun e=>by have:=j b e.symm;omega)).t (a.other c)
theorem S6(h:Lib.hasPrefix a [47]=false):fO a=[]:=by unfold fO;rw[h];rfl
theorem Qq(h:Lib.hasPrefix a [47]=true):fO a=iA (dh (pieces 47 (a.drop 1)))++(bif jt ((pieces 47 (a.drop 1)).getLast?.getD []) then[47] else[]):=by unfold fO;rw[h];rfl
theorem Mn(h:Lib.hasPrefix a [47]=true):∃r,a=47::r:=by unfold Lib.hasPrefix at h;obtain⟨r,b⟩:=CW.1 h;exact⟨r,b.symm⟩
theorem Qr(a:A≠[])(h:dh A=[]):jt (A.getLast?.getD [])=true:=by
 rw[←CV a,Bt] at h;rw[Jb a,Option.getD_some,XF];unfold bU at h;split at h
 ·next e=>exact .inl e
 ·split at h
  ·next e=>exact .inr e
  ·simp at h
theorem yZ{a b:aaM}(h:a=b):Ending.returned (.string a)=.returned (.string b):=by rw[h]
theorem Qs{c:aaK}{v x:aaL}{p r:TypeId}(j:Below q.heap.size q s)(e:Below s.heap.size s c)(l:iz s d v p)(m:iz s b x r)(h:s.heap[i]? =some (.deferred (some [])))(u:q.heap.size≤i):
 c.cell? ⟨d,0,none⟩=some v∧c.cell? ⟨b,0,none⟩=some x∧c.heap[i]? =some (.deferred (some []))∧Below q.heap.size q (c.putObj i (.deferred none)):=by
 have a:=j.t (e.mono j.size);have n:i<s.heap.size:=(aB.1 h).1;exact⟨(l.next e).cell,(m.next e).cell,(e.block i n).t h,a.os,a.tape,a.output,by simpa using a.size,fun k o=>(Xv (by omega)).t (a.block k o)⟩
theorem Qt(s:Bs)(w:aaK)(d:Good w)(hs:s.length≤100000):
 Calls Tryz.prog 135 #[.string ⟨s.toArray⟩] w (cN w (.string ⟨(fO s).toArray⟩)):=by
 obtain⟨N,_⟩:∃N:Nat,True:=⟨0,trivial⟩;have a8:=d.lt;have HG:=ad d;clear d;refine(callsIn_wide (n:=N)).1 ?_;refine callsIn_of_wp_marks Tryz.func135 rfl trivial ?_ rfl;simp only[Tryz.ntmps135,oC,bF,lH,Nat.reduceAdd,Nat.reduceSub,Array.replicate_succ,Array.replicate_zero,List.push_toArray,List.append_toArray,kK,di]
 gi_wp2_with fail
 refine ff ((cj ⟨s.toArray⟩ ⟨#[47]⟩ w).mono ?_);rintro e w1⟨rfl,rfl⟩;rcases I:Lib.hasPrefix s [47] with _|_
 ·have X:=ad (S6 I);clear I
  gi_wp2
  exact⟨_,results_tmp rfl _ _ _,by rw[X.o];rfl,ar _ _⟩
 ·have X:=ad (Qq I);obtain⟨r,rfl⟩:=Mn I;clear I;have hex:(⟨(47::r).toArray⟩:aaM).extract 1 (r.length+1)=⟨r.toArray⟩:=dU (by rw[cf];simp);have bb:r.length≤99999:=by simp at hs;omega
  have G:=ad (jG w (.cells #[.slice none 0 0] 42) (.cells #[.string ⟨#[]⟩] 9))
  gi_wp2_with fail
  generalize(w.alloc (.cells #[.slice none 0 0] 42)).alloc (.cells #[.string ⟨#[]⟩] 9)=W0 at*;have ay:=G.o.size;refine ff ((kC r 47 W0).mono ?_);rintro e j⟨rfl,hit,a4,Q⟩;rw[ay] at hit a4;have a0:Good j:=(HG.o.next G.o.below).next Q
  have aN:=G.o.below.t (Q.mono G.o.below.size);have k3:iz j w.heap.size (.slice none 0 0) 42:=(Q.block _ (by omega)).t G.o.b1;have k4:iz j (w.heap.size+1) (.string ⟨#[]⟩) 9:=(Q.block _ (by omega)).t G.o.b2;have av:DI w j.heap.size w.heap.size (w.heap.size+1) [] j:=⟨⟨_,k3,.inl (jO _ _ _ _)⟩,k4,aN⟩;clear Q
  gi_wp2_with fail
  refine Ck 47 r (w.heap.size+1+1) (w.heap.size+1+1+1) (w.heap.size+1+1+1+1) (by omega) (by omega) (by omega) rfl rfl hit a0 (by omega)
   (fun k=>(k=w.heap.size∨k=w.heap.size+1)∨j.heap.size+1<k) (by rintro k((rfl|rfl)|h)<;>omega)
   (DI w j.heap.size w.heap.size (w.heap.size+1)) (fun _ _=>False)
   (DI.stays (by omega) (by omega) (by omega) (by omega) (by omega) (by omega) (by omega)) (fun _ _ _ h _=>h) av ?a1 ?assign ?body ?done ?stop
  case assign=>
   intro l x W K O
   gi_wp2
   exact O
  case body=>
   rintro l pre x W q bd a7 an;obtain⟨v,z,i⟩:=q.kept;obtain⟨E,M,rfl,aU⟩:=i.shape;have ck:=z.cell;have fk:=z.free;have cl:=q.last.cell;have fl:=q.last.free;have a9:=SY an;have a3:=l8 47 r;have R:=ad (Bt pre x);generalize H:dh pre=c at*;have ao:=ad H;have T:=ad q;clear q H;by_cases u:x=zK
   ·subst u;have y:=SZ (x:=zK) T.out (by omega) (by omega) (by omega) (by omega) (by rw[R.o,ao.o];unfold bU;rw[ah rfl]);have C:=ad y;clear y
    gi_wp2
    exact C.o
   ·by_cases p:x=uB
    ·subst p;have J:bU c uB=c.dropLast:=by unfold bU;rw[ae TT,ah rfl]
     have F:ke (W.setCell ⟨w.heap.size+1,0,none⟩ (.string ⟨uB.toArray⟩)) (j.heap.size+1+1) (.slice E c.length M) c:=i.kept (by rw[bE];exact ag _) (fun g d=>dy W ⟨w.heap.size+1,0,none⟩ _ g (by have:=i.block g d;show g≠w.heap.size+1;omega));by_cases V:c=[]
     ·subst V;have y:=Qp (x:=uB) (t:=.slice none 0 0) (v:=.slice E 0 0) T.out (by omega) (by omega) (by omega) (by omega) (by omega) (by omega) (World.grownBy.refl _ _) (fun g d=>by cases d) (by rw[R.o,J];exact F.WU);have C:=ad y;clear y F J
      gi_wp2
      exact C.o
     ·have I:0<c.length:=abb.2 V;have y:=Qp (x:=uB) (t:=.slice none 0 0) (v:=.slice E (c.length-1) (c.length-1)) T.out (by omega) (by omega) (by omega) (by omega) (by omega) (by omega) (World.grownBy.refl _ _) (fun g d=>by cases d) (by rw[R.o,J];exact F.cut V);have C:=ad y;clear y F J V;have z1:(1:Int)≤(c.length:Int):=by omega
      have z2:(0:Int)≤(c.length:Int)-1:=by omega
      have z3:max (0:Int) ((c.length:Int)-1)=((c.length-1:Nat):Int):=by rw[Int.max_eq_right z2];omega
      gi_wp2
      exact C.o
    ·have J:bU c x=c++[x]:=by unfold bU;rw[ae u,ae p]
     have F:ke ((W.setCell ⟨w.heap.size+1,0,none⟩ (.string ⟨x.toArray⟩)).alloc (.cells #[.string ⟨x.toArray⟩] 9)) (j.heap.size+1+1) (.slice E c.length M) c:=i.kept (by rw[aO,bE];omega) (fun g d=>(tG _ _ _ (by rw[bE];exact(i.block g d).2)).t (dy W ⟨w.heap.size+1,0,none⟩ _ g (by have:=i.block g d;show g≠w.heap.size+1;omega)));have B:=ad F;have HB:=ad (fun g d=>(i.block g d).1);have ap:=ad z;have hc:=bH (W.setCell ⟨w.heap.size+1,0,none⟩ (.string ⟨x.toArray⟩)) #[.string ⟨x.toArray⟩] 9 0 _ rfl;rw[bE] at hc;have HC:=ad hc;have g1:¬x=[46]:=u;have g2:¬x=[46,46]:=p;have g3:(x==[46])=false:=by rw[aL];exact u
     have g4:(x==[46,46])=false:=by rw[aL];exact p
     clear F hc u p z i
     gi_wp2_with (gi_at_builtin;refine zJ (by rfl) _ _ (by rfl) (j.heap.size+1+1) _ c (by rfl) B.o x _ (by rfl) HC.o (by omega) (by rw[aO,bE];omega) ?_;intro a' c' W' hk d;have C:=ad (Qp (x:=x) T.out (by omega) (by omega) (by omega) (by omega) (by omega) (by omega) (vI d) HB.o (by rw[R.o,J];exact hk));have Z:=I1 d HB.o ap.o (by omega) (by omega);have a5:=Z.cell;have a6:=Z.free;clear hk d Z)
     exact C.o
  case done=>
   rintro D W hD q O;obtain⟨v,z,i⟩:=q.kept;obtain⟨E,M,rfl,aU⟩:=i.shape;have aa:=XX (pieces 47 r) [];rw[rP] at aa;have a2:=uA (pieces 47 r) [];have a3:=l8 47 r;have am:=Qr (gO 47 r);have A:=ad (show fO (47::r)=iA (dh (pieces 47 r))++(bif jt ((pieces 47 r).getLast?.getD []) then[47] else[]) from X.o);have q3:=q.last;have af:=q.below;unfold dh at*;generalize(pieces 47 r).foldl bU []=c at*;generalize(pieces 47 r).getLast?.getD []=L at*;rw[XY] at aa;have hj:(Lib.join c [47]).length≤1000000:=by
    by_cases al:c=[]
    ·subst al;exact aH _
    ·have:=FJ al;have p:=congrArg List.length this;simp at p aa;omega
   have B:=ad (show iz W w.heap.size (.slice E c.length M) 42∧ke W (j.heap.size+1+1) (.slice E c.length M) c∧iz W (w.heap.size+1) (.string ⟨L.toArray⟩) 9∧Below w.heap.size w W∧W.heap[D]? =some (.deferred (some [])) from⟨z,i,q3,af,O⟩);have ck:=z.cell;clear q O z i q3 af
   gi_wp2_with fail
   refine ff ((Mm _ c ⟨#[47]⟩ W B.o.2.1.strs (by simp at a2;omega) hj).mono ?_);rintro e w3⟨rfl,ac⟩;obtain⟨c3,c4,ab,ai⟩:=Qs B.o.2.2.2.1 ac B.o.1 B.o.2.2.1 B.o.2.2.2.2 (by omega);have m:=ad (And.intro ab ai);clear ac ab ai;have e1:(⟨#[47]⟩:aaM)++⟨(Lib.join c [47]).toArray⟩=⟨(47::Lib.join c [47]).toArray⟩:=dU (by simp);have e2:(⟨(47::Lib.join c [47]).toArray⟩:aaM)++⟨#[47]⟩=⟨(47::Lib.join c [47]++[47]).toArray⟩:=dU (by simp);have e3:c=[]→(⟨(47::Lib.join c [47]).toArray⟩:aaM)=⟨(iA c++[47]).toArray⟩:=by rintro rfl;rfl
   have e4:c≠[]→47::Lib.join c [47]=iA c:=FJ;have S:=ad (And.intro e3 (And.intro e4 am));have d1:=XF L;clear e3 e4 am;rcases Nat.eq_zero_or_pos c.length with hz|hz
   ·have H:=List.length_eq_zero_iff.1 hz;have hd:=S.o.2.2 H;rw[hd] at A;have HZ:=ad H;have z1:((c.length:Nat):Int)=0:=by omega
    have aq:=d1.1 hd;clear d1 hd H;rcases aq with rfl|rfl
    ·unfold zK at*
     gi_wp2
     refine⟨by simp,.inl ⟨_,_,rfl,kM m.o.1,⟨_,results_tmp rfl _ _ _, ?_,m.o.2⟩⟩⟩;exact yZ (a:=⟨(47::Lib.join c [47]).toArray⟩) (b:=⟨(fO (47::r)).toArray⟩) (by rw[A.o,S.o.1 HZ.o];rfl)
    ·unfold uB at*
     gi_wp2
     refine⟨by simp,.inl ⟨_,_,rfl,kM m.o.1,⟨_,results_tmp rfl _ _ _, ?_,m.o.2⟩⟩⟩;exact yZ (a:=⟨(47::Lib.join c [47]).toArray⟩) (b:=⟨(fO (47::r)).toArray⟩) (by rw[A.o,S.o.1 HZ.o];rfl)
   ·have Y:=ad (S.o.2.1 (by rintro rfl;simp at hz));have z1:(0:Int)<((c.length:Nat):Int):=by omega
    rcases dT (L=[46]) with rfl|u
    ·gi_wp2
     refine⟨by simp,.inl ⟨_,_,rfl,kM m.o.1,⟨_,results_tmp rfl _ _ _, ?_,m.o.2⟩⟩⟩;exact yZ (a:=⟨(47::Lib.join c [47]++[47]).toArray⟩) (b:=⟨(fO (47::r)).toArray⟩) (by rw[A.o,Y.o];rfl)
    ·rcases dT (L=[46,46]) with rfl|p
     ·gi_wp2
      refine⟨by simp,.inl ⟨_,_,rfl,kM m.o.1,⟨_,results_tmp rfl _ _ _, ?_,m.o.2⟩⟩⟩;exact yZ (a:=⟨(47::Lib.join c [47]++[47]).toArray⟩) (b:=⟨(fO (47::r)).toArray⟩) (by rw[A.o,Y.o];rfl)
     ·have g3:(L==[46])=false:=by rw[aL];exact u
      have g4:(L==[46,46])=false:=by rw[aL];exact p
      rw[FK u p] at A;clear d1
      gi_wp2
      refine⟨by simp,.inl ⟨_,_,rfl,kM m.o.1,⟨_,results_tmp rfl _ _ _, ?_,m.o.2⟩⟩⟩;exact yZ (a:=⟨(47::Lib.join c [47]).toArray⟩) (b:=⟨(fO (47::r)).toArray⟩) (by rw[A.o,Y.o];simp)
  case stop=>rintro D pre W hD an h O;exact h.elim
end Go.Proofs.YtlemddnecmmfgaaGreatDoor
