/- The walk of Dots. The walk of Dots. -/
import Derived.Test.YtogchgjfialleaaGreatDoorKbi
set_option linter.unusedVariables false
set_option maxRecDepth 100000
set_option maxHeartbeats 2000000
namespace Go.Proofs.YtogchgjfialleaaGreatDoor
open Go.RowKit
theorem Kf:∀(l:Bs) (a:Nat),l.all kH=true→a<10^(10-l.length)→l.length≤10→Lib.parseUint10 a l=.ok (l.foldl (fun m c=>10*m+(c.toNat-48)) a)
 |[],a,_,_,_=>rfl
 |c::r,a,h,b,i=>by
  rw[kf,cW] at h;have d:48≤c.toNat∧c.toNat≤57:=dv h.1;simp only[bF] at b i;have k:10^(10-(r.length+1))≤10^9:=Nat.pow_le_pow_right (by decide) (by omega);have n:(10:Nat)^9=1000000000:=by decide
  have o:a<1000000000:=by omega
  unfold Lib.parseUint10;rw[ah d,ae (by omega),ae (by omega),qB];have e:a*10+(c.toNat-48)=10*a+(c.toNat-48):=by omega
  rw[e];refine Kf r _ h.2 ?_ (by omega);have j:10^(10-r.length)=10*10^(10-(r.length+1)):=by rw[show 10-r.length=(10-(r.length+1))+1 by omega,Nat.pow_succ,Nat.mul_comm]
  rw[j];omega
theorem Bo{s:Bs}(h:cy s≠0):Lib.atoiAll s=.ok (cy s)∧Lib.itoa (cy s)=s∧1≤cy s∧cy s<1000000:=by
 obtain⟨i,p⟩:=yS h;unfold cy cy.FD at h;cases a:(decide (1≤s.length∧s.length≤5)&&s.all kH&& !(s.head?==some 48))
 ·rw[a] at h;exact(h rfl).elim
 ·have e:cy s=((jW s:Nat):Int):=by unfold cy cy.FD;rw[a];rw[cW,cW] at a;exact nZ s 0 a.1.2
  rw[cW,cW,eM] at a;obtain⟨⟨k,b⟩,A⟩:=a;have t:jW s<1000000:=by
   have q:∀(l:Bs) (d:Nat),l.all kH=true→l.foldl (fun m c=>10*m+(c.toNat-48)) d<(d+1)*10^l.length:=by
    intro l;induction l with
    |nil=>intro d _;simp
    |cons c r w=>intro d b;rw[kf,cW] at b;have a:48≤c.toNat∧c.toNat≤57:=dv b.1;have:=w (10*d+(c.toNat-48)) b.2;rw[qB,bF,Nat.pow_succ];refine ej this ?_;rw[←Nat.mul_comm 10,←Nat.mul_assoc];exact Nat.mul_le_mul_right _ (by omega)
   have x:=q s 0 b;have y:10^s.length≤10^5:=Nat.pow_le_pow_right (by decide) k.2;have z:(10:Nat)^5=100000:=by decide
   unfold jW;omega
  have u:Lib.parseUint10 0 s=.ok (jW s):=Kf s 0 b (Nat.pow_pos (by decide)) (by omega);refine⟨?_, ?_,p,by rw[e];omega⟩
  ·rw[e];cases s with
   |nil=>simp at k
   |cons c r=>
    have j:=b;rw[kf,cW] at j;have a:48≤c.toNat∧c.toNat≤57:=dv j.1;have n:(if c.toNat=43∨c.toNat=45 then r else c::r)=c::r:=ae (by omega);have o:Lib.parseMag (c::r)=.ok (jW (c::r)):=by unfold Lib.parseMag;rw[ae (by simp)];exact u
    unfold Lib.atoiAll;simp only[n,o];rw[ae (by omega),ae (by omega),ae (by omega)]
  ·rw[e] at i;rw[e,uz _ t];exact i
def nY(u:U):U×Int:=match jh u with
 |none=>(cm,4)
 |some v=>if aQ v=0 then(v,0) else(cm,aQ v)
theorem Fz{s:Bs}(h:s.length≤1024):cZ s=nY (LF s):=by unfold cZ;rw[bN (show s.length≤ee from h),aS];rfl
theorem IW{s:Bs}(h:1024<s.length):cZ s=(cm,3):=by unfold cZ;rw[cL (show¬s.length≤ee from fun e=>by unfold ee at e;omega),cI]
theorem SV(s t:Bs){n:Nat}(h:s.length≤n):(Lib.cut s t).1.length≤n∧(Lib.cut s t).2.1.length≤n:=by
 unfold Lib.cut;split
 ·exact⟨by simp;omega,by simp;omega⟩
 ·exact⟨h,by simp⟩
theorem SW{s:Bs}{v:Int}(h:Lib.atoiAll s=.ok v)(a:Lib.itoa v=s)(b:1≤v)(c:v≤65535):cy s=v:=by obtain⟨n,rfl⟩:∃n:Nat,v=n:=⟨v.toNat,by omega⟩;rw[uz n (by omega)] at a;rw[←a];exact Mj n (by omega) (by omega)
theorem Ql{s:Bs}{v:Int}(h:Lib.atoiAll s=.ok v)(b:65535<v):cy s=0∨cy s=v:=by
 by_cases a:cy s=0
 ·exact .inl a
 ·have:=(Bo a).1;rw[h] at this;injection this with e;exact .inr e.symm
theorem wD{s:Bs}(h:∀v,Lib.atoiAll s=.ok v→Lib.itoa v≠s∨v<1):cy s=0:=by
 by_cases a:cy s=0
 ·exact a
 ·obtain⟨b,c,d,_⟩:=Bo a;rcases h _ b with h|h
  ·exact(h c).elim
  ·omega
structure V9 (W:World) (b:Nat) (u:U):Prop where
 c:Qm W b u
 f0:W.frozen? ⟨b,0,none⟩=false
 f1:W.frozen? ⟨b,1,none⟩=false
 f2:W.frozen? ⟨b,2,none⟩=false
 f3:W.frozen? ⟨b,3,none⟩=false
 f4:W.frozen? ⟨b,4,none⟩=false
 f5:W.frozen? ⟨b,5,none⟩=false
theorem ma.full{W:World}{b:Nat}{u:U}(h:ma W b u):V9 W b u:=
 ⟨h.cells,frozen_of_row _ _ 0 _ _ h,frozen_of_row _ _ 1 _ _ h,frozen_of_row _ _ 2 _ _ h,frozen_of_row _ _ 3 _ _ h,frozen_of_row _ _ 4 _ _ h,frozen_of_row _ _ 5 _ _ h⟩
theorem ma.s0{W:World}{b:Nat}{u:U}(h:ma W b u)(x:Bs):ma (W.setCell ⟨b,0,none⟩ (.string ⟨x.toArray⟩)) b {u with scheme:=x}:=aw (j:=0) h
theorem ma.s1{W:World}{b:Nat}{u:U}(h:ma W b u)(x:Bs):ma (W.setCell ⟨b,1,none⟩ (.string ⟨x.toArray⟩)) b {u with host:=x}:=aw (j:=1) h
theorem ma.s2{W:World}{b:Nat}{u:U}(h:ma W b u)(x:Int):ma (W.setCell ⟨b,2,none⟩ (.int .i64 x)) b {u with port:=x}:=aw (j:=2) h
theorem ma.s3{W:World}{b:Nat}{u:U}(h:ma W b u)(x:Bs):ma (W.setCell ⟨b,3,none⟩ (.string ⟨x.toArray⟩)) b {u with path:=x}:=aw (j:=3) h
theorem ma.s4{W:World}{b:Nat}{u:U}(h:ma W b u)(x:Bs):ma (W.setCell ⟨b,4,none⟩ (.string ⟨x.toArray⟩)) b {u with query:=x}:=aw (j:=4) h
theorem ma.s5{W:World}{b:Nat}{u:U}(h:ma W b u)(x:Bool):ma (W.setCell ⟨b,5,none⟩ (.bool x)) b {u with hq:=x}:=aw (j:=5) h
theorem ma.other{W:World}{b c j:Nat}{u:U}{v:Value}(h:ma W b u)(a:b≠c):ma (W.setCell ⟨c,j,none⟩ v) b u:=(Below.heap_setCell W ⟨c,j,none⟩ v b a).trans h
def dL(W:World)(b:Nat)(u:U):World:=(((((W.setCell ⟨b,0,none⟩ (.string ⟨u.scheme.toArray⟩)).setCell ⟨b,1,none⟩ (.string ⟨u.host.toArray⟩)).setCell ⟨b,2,none⟩ (.int .i64 u.port)).setCell ⟨b,3,none⟩ (.string ⟨u.path.toArray⟩)).setCell ⟨b,4,none⟩ (.string ⟨u.query.toArray⟩)).setCell ⟨b,5,none⟩ (.bool u.hq)
theorem jC{w W:World}{b n:Nat}{u0:U}(u:U)(c:Below n w W)(a:n≤b)(h:ma W b u0):ma (dL W b u) b u∧Below n w (dL W b u):=by refine⟨(((((h.s0 u.scheme).s1 u.host).s2 u.port).s3 u.path).s4 u.query).s5 u.hq, ?_⟩;exact(((((c.setCell (p:=⟨b,0,none⟩) a _).setCell (p:=⟨b,1,none⟩) a _).setCell (p:=⟨b,2,none⟩) a _).setCell (p:=⟨b,3,none⟩) a _).setCell (p:=⟨b,4,none⟩) a _).setCell (p:=⟨b,5,none⟩) a _
structure PA (w W:World) (u:U):Prop where
 below:Below w.heap.size w W
 res:ma W w.heap.size cm
 box:ma W (w.heap.size+1) u
theorem PA.next{w W W':World}{u:U}(h:PA w W u)(a:Below W.heap.size W W'):PA w W' u:=⟨h.below.trans (a.mono h.below.size),h.res.next a,h.box.next a⟩
theorem PA.put{w W:World}{u a:U}(h:PA w W u)(j:Nat)(v:Value)(b:ma (W.setCell ⟨w.heap.size+1,j,none⟩ v) (w.heap.size+1) a):PA w (W.setCell ⟨w.heap.size+1,j,none⟩ v) a:=
 ⟨h.below.setCell (p:=⟨w.heap.size+1,j,none⟩) (by show w.heap.size≤w.heap.size+1;omega) v,h.res.other (by omega),b⟩
theorem PA.s0{w W:World}{u:U}(h:PA w W u)(x:Bs):PA w (W.setCell ⟨w.heap.size+1,0,none⟩ (.string ⟨x.toArray⟩)) {u with scheme:=x}:=h.put 0 _ (h.box.s0 x)
theorem PA.s1{w W:World}{u:U}(h:PA w W u)(x:Bs):PA w (W.setCell ⟨w.heap.size+1,1,none⟩ (.string ⟨x.toArray⟩)) {u with host:=x}:=h.put 1 _ (h.box.s1 x)
theorem PA.s2{w W:World}{u:U}(h:PA w W u)(x:Int):PA w (W.setCell ⟨w.heap.size+1,2,none⟩ (.int .i64 x)) {u with port:=x}:=h.put 2 _ (h.box.s2 x)
theorem PA.s3{w W:World}{u:U}(h:PA w W u)(x:Bs):PA w (W.setCell ⟨w.heap.size+1,3,none⟩ (.string ⟨x.toArray⟩)) {u with path:=x}:=h.put 3 _ (h.box.s3 x)
theorem PA.s4{w W:World}{u:U}(h:PA w W u)(x:Bs):PA w (W.setCell ⟨w.heap.size+1,4,none⟩ (.string ⟨x.toArray⟩)) {u with query:=x}:=h.put 4 _ (h.box.s4 x)
theorem PA.s5{w W:World}{u:U}(h:PA w W u)(x:Bool):PA w (W.setCell ⟨w.heap.size+1,5,none⟩ (.bool x)) {u with hq:=x}:=h.put 5 _ (h.box.s5 x)
theorem U7(w:World):PA w ((w.alloc (.cells #[.string ⟨#[]⟩,.string ⟨#[]⟩,.int .i64 0,.string ⟨#[]⟩,.string ⟨#[]⟩,.bool false] 34)).alloc (.cells #[.string ⟨#[]⟩,.string ⟨#[]⟩,.int .i64 0,.string ⟨#[]⟩,.string ⟨#[]⟩,.bool false] 34)) cm:=by have h:=jG w (.cells #[.string ⟨#[]⟩,.string ⟨#[]⟩,.int .i64 0,.string ⟨#[]⟩,.string ⟨#[]⟩,.bool false] 34) (.cells #[.string ⟨#[]⟩,.string ⟨#[]⟩,.int .i64 0,.string ⟨#[]⟩,.string ⟨#[]⟩,.bool false] 34);exact⟨h.below,h.b1,h.b2⟩
abbrev dE(p:U×Int):Value:=.tuple #[uV p.1,.int .i64 p.2]
theorem FA{a h path q:Bs}{hq:Bool}(b:h.contains 58=false):nY ⟨a,h,0,path,q,hq⟩=if aQ ⟨a,h,0,path,q,hq⟩=0 then(⟨a,h,0,path,q,hq⟩,0) else(cm,aQ ⟨a,h,0,path,q,hq⟩):=by
 have:jh ⟨a,h,0,path,q,hq⟩=some ⟨a,h,0,path,q,hq⟩:=by unfold jh;show(bif h.contains 58 then _ else _)=_;rw[b];rfl
 unfold nY;rw[this]
theorem lx{a h path q:Bs}{hq:Bool}(b:h.contains 58=true)(c:cy (past 58 h)=0):nY ⟨a,h,0,path,q,hq⟩=(cm,4):=by
 have:jh ⟨a,h,0,path,q,hq⟩=none:=by unfold jh;show(bif h.contains 58 then(if cy (past 58 h)=0 then none else _) else _)=_;rw[b,aS,ah c]
 unfold nY;rw[this]
theorem yT{a h path q:Bs}{hq:Bool}(b:h.contains 58=true)(c:¬cy (past 58 h)=0):nY ⟨a,h,0,path,q,hq⟩=if aQ ⟨a,upto 58 h,cy (past 58 h),path,q,hq⟩=0 then(⟨a,upto 58 h,cy (past 58 h),path,q,hq⟩,0) else(cm,aQ ⟨a,upto 58 h,cy (past 58 h),path,q,hq⟩):=by
 have:jh ⟨a,h,0,path,q,hq⟩=some ⟨a,upto 58 h,cy (past 58 h),path,q,hq⟩:=by unfold jh;show(bif h.contains 58 then(if cy (past 58 h)=0 then none else _) else _)=_;rw[b,aS,ae c]
 unfold nY;rw[this]
theorem FC{b h path q:Bs}{hq:Bool}{v:Int}(c:h.contains 58=true)(d:Lib.atoiAll (past 58 h)=.ok v)(j:Lib.itoa v=past 58 h)(k:1≤v):nY ⟨b,h,0,path,q,hq⟩=if aQ ⟨b,upto 58 h,v,path,q,hq⟩=0 then(⟨b,upto 58 h,v,path,q,hq⟩,0) else(cm,aQ ⟨b,upto 58 h,v,path,q,hq⟩):=by
 by_cases i:v≤65535
 ·have a:=SW d j k i;rw[yT c (by omega),a]
 ·have e:aQ ⟨b,upto 58 h,v,path,q,hq⟩=4:=cV (yU (by show¬(0≤v∧v≤65535);omega));rw[e,ae (by decide)];rcases Ql d (by omega) with a|a
  ·exact lx c a
  ·rw[yT c (by omega),a,e,ae (by decide)]
theorem Qk{s:Bs}{v:Int}(h:Lib.atoiAll s=.ok v):-9223372036854775808≤v∧v≤9223372036854775807:=by
 cases s with
 |nil=>cases h
 |cons c r=>
  unfold Lib.atoiAll at h;simp only at h;split at h
  ·cases h
  ·cases h
  ·rename_i u i;split at h
   ·cases h
   ·split at h
    ·cases h
    ·injection h with h;rename_i b d;by_cases a:c.toNat=45
     ·rw[ah a] at h;have:¬9223372036854775808<u:=fun e=>d ⟨a,e⟩;omega
     ·rw[ae a] at h;have:¬9223372036854775808≤u:=fun e=>b ⟨a,e⟩;omega
theorem Mi(v:Int)(w:World)(c:GX w)(a:-9223372036854775808≤v)(b:v≤9223372036854775807):
 Calls Tryz.prog 48 #[.int .i64 v] w (cN w (.string ⟨(Lib.itoa v).toArray⟩)):=by
 refine(Tryz.strconv_Itoa v a b w c.Tz).mono ?_;rintro e w'⟨rfl,k,os,rfl⟩;exact⟨rfl,Lib.below_grow _ w (ag _) k os⟩
theorem FB(s:ByteArray)(v:Int)(w:World)(h:Lib.atoiAll s.data.toList=.ok v)(a:s.size≤1000000):
 Calls Tryz.prog 104 #[.string s] w (cN w (.tuple #[.int .i64 v,.nilIface])):=by
 refine(Tryz.strconv_Atoi_ok s (by omega) v h w).mono ?_;rintro e w'⟨rfl,rfl|⟨t,rfl⟩⟩
 ·exact⟨rfl,Below.refl _ _⟩
 ·exact⟨rfl,Lib.bytesWorld_below _ _ _⟩
theorem CE(s:ByteArray)(w:World)(b:GX w)(h:Lib.atoiAll s.data.toList=.syntax)(i:s.size≤1000000):
 Calls Tryz.prog 104 #[.string s] w fun e w'=>∃N,e=.returned (.tuple #[.int .i64 0,.iface 255 (.pointer (some ⟨N,0,none⟩))])∧Below w.heap.size w w':=by
 obtain⟨d,p,c⟩:=b.Xd;refine(Tryz.strconv_Atoi_syntax_var s (by omega) h d p w c).mono ?_;rintro e w'⟨N,rfl,_,_,a⟩;exact⟨N,rfl,a⟩
theorem CF(s:ByteArray)(w:World)(b:GX w)(h:Lib.atoiAll s.data.toList=.range)(i:s.size≤1000000):
 Calls Tryz.prog 104 #[.string s] w fun e w'=>∃N n,e=.returned (.tuple #[.int .i64 n,.iface 255 (.pointer (some ⟨N,0,none⟩))])∧Below w.heap.size w w':=by
 obtain⟨d,p,c⟩:=b.Xe;refine(Tryz.strconv_Atoi_range_var s (by omega) h d p w c).mono ?_;rintro e w'⟨N,rfl,_,_,a⟩;exact⟨N,_,rfl,a⟩
end Go.Proofs.YtogchgjfialleaaGreatDoor
namespace Go.Proofs.YtogchgjfialleaaGreatDoor
open Go.RowKit Go.Shelf
attribute[local go_sem] Oper.semAt_some
structure yj (n bs:Nat) (A B:World):Prop where
 os:B.os=A.os
 tape:B.tape=A.tape
 output:B.output=A.output
 size:A.heap.size≤B.heap.size
 block:∀k,k<A.heap.size→k≠bs→k≠n→k≠n+1→B.heap[k]? =A.heap[k]?
theorem yl(n a:Nat)(A:World)(v:Value):yj n a A (A.setCell ⟨a,0,none⟩ v):=
 ⟨rfl,rfl,rfl,by rw[bE];exact ag _,fun k _ b _ _=>dy A ⟨a,0,none⟩ v k b⟩
theorem iu(n a:Nat)(A:World)(o:Obj):yj n a A (A.putObj (n+1) o):=
 ⟨rfl,rfl,rfl,by simp,fun k _ _ _ h=>hX (by omega)⟩
theorem Ck{N:Nat}{g:Operand}{J:Array Tmp}{assign body:Code}{Q:Exit→Act→World→Prop}{a:Act}{w:World}(c:UInt8)(s:Bs)(b n o:Nat)
 (h1:b≠n)(h2:b≠o)(aa:b≠0)
 (hg:a.eval g=.func (.func 234) #[] #[.pointer (some ⟨n,0,none⟩),.pointer (some ⟨b,0,none⟩),.pointer (some ⟨o,0,none⟩)])
 (a9:J.size=1)(hit:Iter w b n o s c)(ac:Good w)(hs:s.length<4294967281)
 (S:Nat→Prop)(y:∀k,S k→(k<w.heap.size∧k≠b∧k≠n∧k≠o∧k≠0)∨w.heap.size+1<k)
 (I C:List Bs→World→Prop)(E:∀pre A B,I pre A→yj w.heap.size b A B→I pre B)(Z:∀pre A B,C pre A→yj w.heap.size b A B→C pre B)
 (h0:I [] w)(Y:Bs→Act)
 (aN:∀(l:Nat) (x:Bs) (W:World) (K:Act→World→Prop),K (Y x) W→
  assign.wpIn (Fence.wide.inRound l) (N-1-1) Tryz.prog (Exit.then K (fun _ _ _=>False)) {tmps:=(J.zip #[.string ⟨x.toArray⟩]).foldl (fun t (p,v)=>t.setIfInBounds p v) a.tmps,defers:=[]} W)
 (a0:∀(l:Nat) (pre:List Bs) (x:Bs) (W:World),I pre W→w.heap.size+1<W.heap.size→Good W→pre++[x]<+:pieces c s→
  body.wpIn (Fence.wide.inRound l) (N-1-1) Tryz.prog (bodyPostS S I C (pre++[x]) W) (Y x) W)
 (a1:∀(D:Nat) (W:World),w.heap.size≤D→I (pieces c s) W→W.heap[D]? =some (.deferred (some []))→Q .normal {a with defers:={target:=.collected D,args:=#[]}::a.defers} W)
 (bb:∀(D:Nat) (pre:List Bs) (W:World),w.heap.size≤D→pre<+:pieces c s→C pre W→W.heap[D]? =some (.deferred (some []))→Code.ret.wpIn Fence.wide N Tryz.prog Q {a with defers:={target:=.collected D,args:=#[]}::a.defers} W):
 (Code.rangeFunc g J assign body).wpIn Fence.wide N Tryz.prog Q a w:=by
 refine wpIn_rangeFunc ?_;intro fn a2;obtain⟨rec,r⟩:∃rec:LoopState→Option Code→Loop,rec=fun st pe=>{state:=st,pending:=pe,fn,tmps:=a.tmps,params:=J,assign,body,defers:=w.heap.size}:=⟨_,rfl⟩;obtain⟨i,H⟩:∃i,(w.alloc (.deferred (some []))).alloc (.loop (rec .ready none))=i:=⟨_,rfl⟩;have q:Below w.heap.size w i:=by rw[←H];exact((ar _ w).alloc (ag _) _).alloc (by simp) _
 have ay:i.heap[w.heap.size+1]? =some (.loop (rec .ready none)):=by rw[←H];have:=oF (w.alloc (.deferred (some []))) (.loop (rec .ready none));rwa [aO] at this
 have av:i.heap[w.heap.size]? =some (.deferred (some [])):=by rw[←H];exact(tG _ _ _ (by simp)).trans (oF w _)
 have ai:=mz hit.rest;have am:=mz hit.sep;have an:=mz hit.save;have al:=ac.lt;have aq:I [] i:=E [] w i h0 ⟨q.os,q.tape,q.output,q.size,fun k m _ _ _=>q.block k m⟩;have a4:Iter i b n o s c:=⟨(q.block _ ai).trans hit.rest,(q.block _ am).trans hit.sep,(q.block _ an).trans hit.save⟩;refine⟨w.heap.size+1,[{target:=.collected w.heap.size,args:=#[]}],i,{target:=.fn (.func 234) #[.pointer (some ⟨n,0,none⟩),.pointer (some ⟨b,0,none⟩),.pointer (some ⟨o,0,none⟩)],args:=#[.func (.yield (w.heap.size+1)) #[] #[]]},i,234,
  #[.func (.yield (w.heap.size+1)) #[] #[],.pointer (some ⟨n,0,none⟩),.pointer (some ⟨b,0,none⟩),.pointer (some ⟨o,0,none⟩)],i, ?_, ?_, ?_, ?_,(fun e=>by cases e), ?_⟩
 ·rw[←H,r];exact run_enterLoop_outer _ _ _ _ _
 ·simp only[resolve,hg];simp[go_sem]
 ·intro f' _;exact trivial
 ·simp[invoke,go_sem,cP Tryz.func234 (by kernel_rfl) rfl]
 ·refine(yi (N-1) (w.heap.size+1) b n o c s
   (fun pre W=>I pre W∧W.heap[w.heap.size+1]? =some (.loop (rec .ready none))∧W.heap[w.heap.size]? =some (.deferred (some [])))
   (fun pre W=>C pre W∧W.heap[w.heap.size+1]? =some (.loop (rec .done (some .ret)))∧W.heap[w.heap.size]? =some (.deferred (some [])))
   i h1 h2 aa
   (fun pre A v M=>⟨E pre A _ M.1 (yl _ _ _ _),(dy A ⟨b,0,none⟩ v _ (by show w.heap.size+1≠b;omega)).trans M.2.1,(dy A ⟨b,0,none⟩ v _ (by show w.heap.size≠b;omega)).trans M.2.2⟩)
   ?_ ⟨aq,ay,av⟩ a4 (fR ac (q.block _ al)) hs).mono ?_
  ·rintro pre x W⟨F,u,m⟩ab T;have ao:w.heap.size+1<W.heap.size:=mz u;have X:=run_yield (P:=Tryz.prog) (args:=#[.string ⟨x.toArray⟩]) u (by rw[r];exact a9.symm);rw[r] at X;refine⟨fn,_,assign,body,X,roundIn_of_wpIn a2 (aN _ x W _ ⟨_,run_beginRound u (by rw[r]), ?_⟩)⟩;clear X;have ap:=iu w.heap.size b W (.loop {rec .ready none with state:=.busy});have a6:(W.putObj (w.heap.size+1) (.loop {rec .ready none with state:=.busy})).heap[w.heap.size+1]? =some (.loop {rec .ready none with state:=.busy}):=wK ao;have a5:(W.putObj (w.heap.size+1) (.loop {rec .ready none with state:=.busy})).heap[w.heap.size]? =some (.deferred (some [])):=(hX (by omega)).trans m;refine wpIn_mono (a0 _ pre x _ (E _ _ _ F ap) (by simpa using ao) (fR ab (ap.block _ (by omega) (eo aa) (by omega) (by omega))) T) ?_;have bd:(W.putObj (w.heap.size+1) (.loop {rec .ready none with state:=.busy})).heap.size=W.heap.size:=by simp
   have aU:∀k,k<w.heap.size→(W.putObj (w.heap.size+1) (.loop {rec .ready none with state:=.busy})).heap[k]? =W.heap[k]? :=fun k m=>hX (by omega);generalize W.putObj (w.heap.size+1) (.loop {rec .ready none with state:=.busy})=L at*;have fin:∀(jump:Option Code) (d:World),oY S L d→
    (Instr.endRound (w.heap.size+1) jump).run Tryz.prog d=.ok (.bool jump.isNone) (d.putObj (w.heap.size+1) (.loop (rec (if jump.isNone then .ready else .done) jump)))∧
    (d.putObj (w.heap.size+1) (.loop (rec (if jump.isNone then .ready else .done) jump))).heap[w.heap.size+1]? =some (.loop (rec (if jump.isNone then .ready else .done) jump))∧
    (d.putObj (w.heap.size+1) (.loop (rec (if jump.isNone then .ready else .done) jump))).heap[w.heap.size]? =some (.deferred (some [])):=fun jump d j=>by
    have a8:¬S (w.heap.size+1):=fun h=>by have:=y _ h;omega
    have a7:¬S w.heap.size:=fun h=>by have:=y _ h;omega
    have af:=(j.block (w.heap.size+1) (by omega) a8).trans a6;have G:=(j.block w.heap.size (by omega) a7).trans a5;have:=run_endRound (P:=Tryz.prog) jump af;rw[r] at this⊢;exact⟨this,wK (mz af),(hX (by omega)).trans G⟩
   have kept:∀(jump:Option Code) (d:World) (k:Nat),oY S L d→k<w.heap.size→¬S k→(d.putObj (w.heap.size+1) (.loop (rec (if jump.isNone then .ready else .done) jump))).heap[k]? =W.heap[k]? :=fun jump d k j m hn=>(hX (by omega)).trans ((j.block k (by omega) hn).trans (aU k m))
   rintro e a3 d z;cases e with
   |normal=>
    obtain⟨j,O⟩:=z;obtain⟨V,R,G⟩:=fin none d j;exact⟨_,_,V,.inl ⟨rfl,⟨E _ _ _ O (iu _ _ _ _),R,G⟩,
     ⟨kept none d b j ai (fun h=>by have:=y _ h;omega),kept none d n j am (fun h=>by have:=y _ h;omega),kept none d o j an (fun h=>by have:=y _ h;omega)⟩,
     fR ab (kept none d _ j al (fun h=>by have:=y _ h;omega))⟩⟩
   |ret=>obtain⟨j,O⟩:=z;obtain⟨V,R,G⟩:=fin (some .ret) d j;exact⟨_,_,V,.inr ⟨rfl,Z _ _ _ O (iu _ _ _ _),R,G⟩⟩
   |exit id=>exact z.elim
   |goto t=>exact z.elim
   |panic ch=>exact z.elim
   |outgrown=>exact z.elim
  ·rintro e L⟨⟨v,rfl⟩,(⟨F,u,m⟩|⟨pre,T,F,u,m⟩)⟩
   ·exact⟨none,_,by have:=run_endLoop (P:=Tryz.prog) u (by rw[r];simp);rw[r] at this;exact this,a1 _ _ (ag _) (E _ _ _ F (iu _ _ _ _)) ((hX (by omega)).trans m)⟩
   ·exact⟨some .ret,_,by have:=run_endLoop (P:=Tryz.prog) u (by rw[r];simp);rw[r] at this;exact this,bb _ pre _ (ag _) T (Z _ _ _ F (iu _ _ _ _)) ((hX (by omega)).trans m)⟩
end Go.Proofs.YtogchgjfialleaaGreatDoor
namespace Go.Proofs.YtogchgjfialleaaGreatDoor
open Go.RowKit Go.Shelf
attribute[local go_sem] Oper.semAt_some
def ke(w:World)(base:Nat)(v:Value)(a:List Bs):Prop:=
 w.ownsRow base 9 1 v a.length (cM a)∨
 ∃g,v=.slice (some ⟨g,0,none⟩) a.length a.length∧base≤g∧g<w.heap.size∧∀(j:Nat) (l:Bs),a[j]? =some l→w.cell? ⟨g,j,none⟩=some (.string ⟨l.toArray⟩)
theorem yY(g j:Nat):((⟨g,0,none⟩:Addr).add j)=⟨g,j,none⟩:=by
 unfold Addr.add;by_cases a:j=0
 ·subst a;rfl
 ·rw[ae a];simp
theorem Ml{a:List Bs}{j:Nat}{u:Value}(h:(cM a)[j]? =some u):∃l,a[j]? =some l∧u=.string ⟨l.toArray⟩:=by unfold cM at h;rw[uI] at h;obtain⟨l,b,rfl⟩:=qG.1 h;exact⟨l,b,rfl⟩
theorem ke.shape{w:World}{base:Nat}{v:Value}{b:List Bs}(h:ke w base v b):∃a c,v=.slice a b.length c∧b.length≤c:=by
 rcases h with h|⟨g,rfl,_⟩
 ·rcases h.2 with⟨rfl,d⟩|⟨g,cap,_,rfl,_,_,e,_⟩
  ·exact⟨none,0,by rw[d],by omega⟩
  ·exact⟨_,_,rfl,e⟩
 ·exact⟨_,_,rfl,ag _⟩
theorem ke.block{w:World}{base:Nat}{v:Value}{d:List Bs}(h:ke w base v d):∀g,v.ownBlock=some g→base≤g∧g<w.heap.size:=by
 intro g a;rcases h with h|⟨g',rfl,b,c,_⟩
 ·exact h.lt g a
 ·obtain rfl:g'=g:=by simpa[Value.ownBlock] using a
  exact⟨b,c⟩
theorem ke.strs{w:World}{base:Nat}{v:Value}{a:List Bs}(h:ke w base v a):cg w v a:=by
 rcases h with h|⟨g,rfl,_,b,c⟩
 ·exact cg.wO h
 ·exact .inr ⟨g,0,_,rfl,ag _,b,fun j l d=>by rw[dH];exact c j l d⟩
theorem ke.kept{w w':World}{base:Nat}{v:Value}{c:List Bs}(h:ke w base v c)(q:w.heap.size≤w'.heap.size)(b:∀g,v.ownBlock=some g→w'.heap[g]? =w.heap[g]?):ke w' base v c:=by
 rcases h with h|⟨g,rfl,e,p,i⟩
 ·refine .inl ⟨h.1, ?_⟩;rcases h.2 with h|⟨g,cap,d,rfl,m,n,o⟩
  ·exact .inl h
  ·exact .inr ⟨g,cap,d,rfl,m,(b g rfl).trans n,o⟩
 ·exact .inr ⟨g,rfl,e,by omega,fun j l k=>(uL (a:=⟨g,j,none⟩) (b g rfl)).trans (i j l k)⟩
theorem ke.cut{w:World}{base:Nat}{a:Option Addr}{c:Nat}{b:List Bs}(h:ke w base (.slice a b.length c) b)(p:b≠[]):ke w base (.slice a (b.length-1) (b.length-1)) b.dropLast:=by
 have n:b.dropLast.length=b.length-1:=by simp
 have u:0<b.length:=List.length_pos_iff.2 p;have cells:∀g,a=some ⟨g,0,none⟩→∀(j:Nat) (l:Bs),b[j]? =some l→w.cell? ⟨g,j,none⟩=some (.string ⟨l.toArray⟩):=by
  rintro g rfl j l e;rcases h with h|⟨g',d,_,_,m⟩
  ·have:=h.cells (g:=g) rfl j (.string ⟨l.toArray⟩) (by simp[cM,e]);rw[yY] at this;exact this
  ·obtain rfl:g=g':=by simp only[Value.slice.injEq,gR,Addr.mk.injEq] at d;exact d.1.1
   exact m j l e
 obtain⟨g,rfl,i,k⟩:∃g,a=some ⟨g,0,none⟩∧base≤g∧g<w.heap.size:=by
  rcases h with h|⟨g',d,q,r,_⟩
  ·have o:=h.lt;rcases h.2 with⟨d,t⟩|⟨g,cap,s,d,_⟩
   ·omega
   ·obtain⟨rfl,_⟩:=by simpa only[Value.slice.injEq] using d
    have:=o g rfl;exact⟨g,rfl,this.1,this.2⟩
  ·obtain⟨rfl,_⟩:=by simpa only[Value.slice.injEq] using d
   exact⟨g',rfl,q,r⟩
 refine .inr ⟨g,by rw[n],i,k,fun j l e=>cells g rfl j l ?_⟩;rw[List.getElem?_dropLast] at e;split at e
 ·exact e
 ·cases e
theorem I0{w w':World}{row:Option Nat}(h:w.grownBy w' none):w.grownBy w' row:=⟨h.os,h.tape,h.output,h.size,fun k a _=>h.block k a (by simp)⟩
theorem Qo{W:World}{base:Nat}{v:Value}{a:List Bs}(r:TypeId)(h:ke W base v a)(p:Bs)(g:Nat)(F:W.cell? ⟨g,0,none⟩=some (.string ⟨p.toArray⟩))(L:a.length≤100000)(s:base≤W.heap.size):
 ∃c d W',(Builtin.append_ #[28,28] r #[v,.slice (some ⟨g,0,none⟩) 1 1]).run Tryz.prog W=.ok (.slice c (a.length+1) d) W'∧ke W' base (.slice c (a.length+1) d) (a++[p])∧W.grownBy W' v.ownBlock:=by
 obtain⟨i,x,A,y,t⟩:=info_parts MO;have w:∀(j:Nat) (u:Value),([Value.string ⟨p.toArray⟩]:List Value)[j]? =some u→W.cell? ((⟨g,0,none⟩:Addr).add j)=some u:=by
  intro j u k;rw[yY]
  match j,k with
  |0,k=>
   have e:Value.string ⟨p.toArray⟩=u:=by simpa using k
   subst e;exact F
  |j+1,k=>simp at k
 have fin:∀{b:Nat} {v':Value} {W':World},base≤b→W'.ownsRow b 9 1 v' (a.length+1) (cM a++[.string ⟨p.toArray⟩])→∃c d,v'=.slice c (a.length+1) d∧ke W' base v' (a++[p]):=by
  intro b v' W' E m;obtain⟨c,d,rfl⟩:=aX m;refine⟨c,d,rfl,.inl ?_⟩;rw[bB,oG];refine⟨m.1, ?_⟩;rcases m.2 with h|⟨g,cap,B,I,H,n⟩
  ·exact .inl h
  ·exact .inr ⟨g,cap,B,I,bP E H,n⟩
 rcases h with h|⟨C,rfl,J,K,G⟩
 ·obtain⟨v',W',n,m,o,_⟩:=run_append_own (P:=Tryz.prog) W base 28 r 9 i _ 1 16 u28 x A y t rfl (by omega) v a.length (cM a) h ⟨g,0,none⟩ 1 1 [.string ⟨p.toArray⟩] rfl w (by intro u z;simp at z;subst z;rfl) (by unfold maxLen;omega) (by omega) s;obtain⟨c,d,rfl,q⟩:=fin (ag _) m;exact⟨c,d,W',n,q,o⟩
 ·obtain⟨v',W',n,m,o⟩:=run_append_arg_grows (P:=Tryz.prog) W 28 r 9 i _ 1 16 u28 x A y t rfl (by omega) ⟨C,0,none⟩ a.length a.length (cM a) (by rw[nk];omega)
   (fun j u k=>by obtain⟨l,D,rfl⟩:=Ml k;rw[yY];exact G j l D) ⟨g,0,none⟩ 1 1 [.string ⟨p.toArray⟩] rfl w (by omega) (by unfold maxLen;omega) (by omega)
  obtain⟨c,d,rfl,q⟩:=fin s m;exact⟨c,d,W',n,q,I0 o⟩
theorem zJ{F:Fence}{n:Nat}{ops:Array Oper}{rest:List Oper}{o:Oper}{a:Act}{Q:Exit→Act→World→Prop}{W:World}
 (r:o.guard=none)(s x:Operand)(i:o.op=Op.call {callee:=Callee.builtin Builtin.append,args:=#[s,x],argTypes:=#[28,28]})
 (base:Nat)(v:Value)(b:List Bs)(w:a.eval s=v)(h:ke W base v b)(p:Bs)(g:Nat)(y:a.eval x=.slice (some ⟨g,0,none⟩) 1 1)(m:W.cell? ⟨g,0,none⟩=some (.string ⟨p.toArray⟩))(t:b.length≤100000)(l:base≤W.heap.size)
 (j:∀d e W',ke W' base (.slice d (b.length+1) e) (b++[p])→W.grownBy W' v.ownBlock→wpListIn F n Tryz.prog ops Q rest (a.put o.dst (.slice d (b.length+1) e)) W'):
 wpListIn F n Tryz.prog ops Q (o::rest) a W:=by
 refine wpListIn_plain r fun K k=> ?_;obtain⟨d,e,W',u,z,A⟩:=Qo o.type h p g m t l;unfold Oper.wpIn;refine⟨?_, ?_⟩
 ·simp[Oper.about,i,resolve,Target.leads,Sem.run_pure]
 ·rw[Oper.semAt_plain F _ _ (by rw[i];intro c q;cases q)];simp[execOp,i,resolve,invoke,builtin,w,y,u,Result.andThen];exact k _ _ (j d e W' z A)
structure DI (w:World) (n bk bl:Nat) (pre:List Bs) (W:World):Prop where
 kept:∃v,iz W bk v 28∧ke W (n+1+1) v (dh pre)
 last:iz W bl (.string ⟨(pre.getLast?.getD []).toArray⟩) 9
 below:Below w.heap.size w W
theorem DI.stays{w:World}{n c d b:Nat}(p:c<n)(q:d<n)(l:c≠b)(m:d≠b)(r:b<n)(t:w.heap.size≤n)(s:w.heap.size≤b)(pre:List Bs)(A B:World)(x:DI w n c d pre A)(k:yj n b A B):DI w n c d pre B:=by
 obtain⟨v,h,i⟩:=x.kept;refine⟨⟨v,(k.block _ h.lt l (by omega) (by omega)).trans h,i.kept k.size (fun g o=> ?_)⟩,(k.block _ x.last.lt m (by omega) (by omega)).trans x.last, ?_⟩
 ·have:=i.block g o;exact k.block g this.2 (by omega) (by omega) (by omega)
 ·have a:=x.below;exact⟨k.os.trans a.os,k.tape.trans a.tape,k.output.trans a.output,bP a.size k.size,fun j e=>(k.block j (ej e a.size) (by omega) (by omega) (by omega)).trans (a.block j e)⟩
end Go.Proofs.YtogchgjfialleaaGreatDoor
namespace Go.Proofs.YtogchgjfialleaaGreatDoor
open Go.RowKit Go.Shelf
attribute[local go_sem] Oper.semAt_some
theorem FJ{b:List Bs}(h:b≠[]):47::Lib.join b [47]=iA b:=by
 cases b with
 |nil=>exact(h rfl).elim
 |cons a r=>rw[Lib.join_cons,fT];rfl
theorem Mm(v:Value)(ls:List Bs)(i:ByteArray)(w:World)(h:cg w v ls)(k:ls.length≤1000000)(q:(Lib.join ls i.data.toList).length≤1000000):
 Calls Tryz.prog 152 #[v,.string i] w (cN w (.string ⟨(Lib.join ls i.data.toList).toArray⟩)):=by
 rcases h with⟨a,c,rfl,rfl⟩|⟨b,o,c,rfl,m,p,n⟩
 ·refine(Tryz.strings_Join_none a c i w).mono ?_;rintro e w'⟨rfl,rfl⟩;exact⟨rfl,ar _ _⟩
 ·have d:((ls.map fun l=>(⟨l.toArray⟩:ByteArray)).map (·.data.toList))=ls:=by rw[List.map_map];exact List.map_id' ls
  have:=Tryz.strings_Join b o c (ls.map fun l=>(⟨l.toArray⟩:ByteArray)) i w (fun j x d=>by rw[uI] at d;obtain⟨l,k,rfl⟩:=qG.1 d;exact n j l k) p (by rw[jo];omega) (by rw[jo];exact m) (by rw[d];omega)
  rw[d,jo] at this;exact this
theorem Bt(pre:List Bs)(x:Bs):dh (pre++[x])=bU (dh pre) x:=by unfold dh;rw[List.foldl_append];rfl
theorem uA:∀(l kept:List Bs),(l.foldl bU kept).length≤kept.length+l.length
 |[],kept=>by simp
 |a::l,kept=>by
  rw[qB];have c:=uA l (bU kept a);have b:(bU kept a).length≤kept.length+1:=by
   unfold bU;split
   ·omega
   ·split
    ·simp;omega
    ·simp
  simp;omega
theorem SY{pre l:List Bs}{x:Bs}(h:pre++[x]<+:l):(dh pre).length≤l.length:=by have a:=uA pre [];have b:=h.length_le;simp at a b;unfold dh;omega
theorem Qp{w d W W':World}{a b:Nat}{pre:List Bs}{x:Bs}{t v:Value}(j:DI w d.heap.size a b pre W)(H:a<d.heap.size)(I:b<d.heap.size)(o:a≠b)(K:w.heap.size≤a)(L:w.heap.size≤b)(J:w.heap.size≤d.heap.size)
 (c:(W.setCell ⟨b,0,none⟩ (.string ⟨x.toArray⟩)).grownBy W' t.ownBlock)(F:∀g,t.ownBlock=some g→d.heap.size+1+1≤g)(q:ke W' (d.heap.size+1+1) v (dh (pre++[x]))):
 oY (fun k=>(k=a∨k=b)∨d.heap.size+1<k) W (W'.setCell ⟨a,0,none⟩ v)∧DI w d.heap.size a b (pre++[x]) (W'.setCell ⟨a,0,none⟩ v):=by
 obtain⟨v0,r,M⟩:=j.kept;have m:(W.setCell ⟨b,0,none⟩ (.string ⟨x.toArray⟩)).heap.size=W.heap.size:=bE _ _ _;have E:=j.last.lt;have B:=r.lt;have l:∀k,k<d.heap.size+1+1→some k≠t.ownBlock:=fun k i e=>by have:=F k e.symm;omega
 have D:iz W' b (.string ⟨x.toArray⟩) 9:=(c.block b (by rw[m];exact E) (l b (by omega))).trans j.last.set;have A:iz W' a v0 28:=(c.block a (by rw[m];exact B) (l a (by omega))).trans (r.other o);have p:W.heap.size≤W'.heap.size:=by have:=c.size;omega
 refine⟨⟨?_, ?_, ?_,by rw[bE];exact p, ?_⟩,⟨⟨v,A.set,q.kept (by rw[bE];exact ag _) (fun g z=> ?_)⟩, ?_, ?_⟩⟩
 ·exact c.os
 ·exact c.tape
 ·exact c.output
 ·intro k i n;have s:k≠a:=fun e=>n (.inl (.inl e));have y:k≠b:=fun e=>n (.inl (.inr e));have G:¬d.heap.size+1<k:=fun e=>n (.inr e);exact(dy W' ⟨a,0,none⟩ v k s).trans ((c.block k (by rw[m];exact i) (l k (by omega))).trans (dy W ⟨b,0,none⟩ _ k y))
 ·have:=q.block g z;exact dy W' ⟨a,0,none⟩ v g (by show g≠a;omega)
 ·have:=D.other (u:=v) (eo o);rw[List.getLast?_concat];exact this
 ·have h:=j.below;refine⟨c.os.trans h.os,c.tape.trans h.tape,c.output.trans h.output,by rw[bE];exact bP h.size p,fun k i=> ?_⟩;have C:k<W.heap.size:=ej i h.size;exact(dy W' ⟨a,0,none⟩ v k (by show k≠a;omega)).trans ((c.block k (by rw[m];exact C) (l k (by omega))).trans ((dy W ⟨b,0,none⟩ _ k (by show k≠b;omega)).trans (h.block k i)))
theorem SZ{w c W:World}{b a:Nat}{pre:List Bs}{x:Bs}(d:DI w c.heap.size b a pre W)(q:b<c.heap.size)(r:a<c.heap.size)(l:b≠a)(n:w.heap.size≤a)(i:dh (pre++[x])=dh pre):
 oY (fun k=>(k=b∨k=a)∨c.heap.size+1<k) W (W.setCell ⟨a,0,none⟩ (.string ⟨x.toArray⟩))∧DI w c.heap.size b a (pre++[x]) (W.setCell ⟨a,0,none⟩ (.string ⟨x.toArray⟩)):=by
 obtain⟨v0,o,h⟩:=d.kept;refine⟨⟨rfl,rfl,rfl,by rw[bE];exact ag _,fun k _ m=>dy W ⟨a,0,none⟩ _ k (fun e=>m (.inl (.inr e)))⟩,⟨⟨v0,o.other l, ?_⟩, ?_, ?_⟩⟩
 ·rw[i];exact h.kept (by rw[bE];exact ag _) (fun g j=>dy W ⟨a,0,none⟩ _ g (by have:=h.block g j;show g≠a;omega))
 ·rw[List.getLast?_concat];exact d.last.set
 ·exact d.below.setCell (p:=⟨a,0,none⟩) n _
theorem ke.WU{w:World}{base:Nat}{a:Option Addr}{c:Nat}(h:ke w base (.slice a 0 c) []):ke w base (.slice a 0 0) []:=by
 rcases h with h|⟨g',b,i,k,_⟩
 ·have e:=h.lt;rcases h.2 with⟨b,n⟩|⟨g,cap,m,b,_⟩
  ·obtain⟨rfl,_⟩:=by simpa only[Value.slice.injEq] using b
   exact .inl (jO _ _ _ _)
  ·obtain⟨rfl,_⟩:=by simpa only[Value.slice.injEq] using b
   have:=e g rfl;exact .inr ⟨g,rfl,this.1,this.2,fun j l d=>by simp at d⟩
 ·obtain⟨rfl,_⟩:=by simpa only[Value.slice.injEq] using b
  exact .inr ⟨g',rfl,i,k,fun j l d=>by simp at d⟩
theorem vI{W W':World}{o:Obj}{row:Option Nat}(h:(W.alloc o).grownBy W' row):W.grownBy W' row:=
 ⟨h.os,h.tape,h.output,by have:=h.size;simp at this;omega,fun k a b=>(h.block k (by simp;omega) b).trans (tG _ _ _ a)⟩
theorem I1{W W':World}{b a n:Nat}{x v v0:Value}{o:Obj}(h:((W.setCell ⟨b,0,none⟩ x).alloc o).grownBy W' v.ownBlock)(i:∀g,v.ownBlock=some g→n≤g)(c:iz W a v0 28)(j:a<n)(d:a≠b):iz W' a v0 28:=
 ((vI h).block a (by rw[bE];exact c.lt) (fun e=>by have:=i a e.symm;omega)).trans (c.other d)
theorem S6{s:Bs}(h:Lib.hasPrefix s [47]=false):fO s=[]:=by unfold fO;rw[h];rfl
theorem Qq{s:Bs}(h:Lib.hasPrefix s [47]=true):fO s=iA (dh (pieces 47 (s.drop 1)))++(bif jt ((pieces 47 (s.drop 1)).getLast?.getD []) then[47] else[]):=by unfold fO;rw[h];rfl
theorem Mn{s:Bs}(h:Lib.hasPrefix s [47]=true):∃r,s=47::r:=by unfold Lib.hasPrefix at h;obtain⟨r,a⟩:=List.isPrefixOf_iff_prefix.1 h;exact⟨r,a.symm⟩
theorem Qr{l:List Bs}(a:l≠[])(h:dh l=[]):jt (l.getLast?.getD [])=true:=by
 rw[←CV a,Bt] at h;rw[Jb a,Option.getD_some,nh];unfold bU at h;split at h
 ·next e=>exact .inl e
 ·split at h
  ·next e=>exact .inr e
  ·simp at h
theorem yZ{a b:ByteArray}(h:a=b):Ending.returned (.string a)=.returned (.string b):=by rw[h]
theorem Qs{w W b:World}{d e D:Nat}{v x:Value}{o p:TypeId}(i:Below w.heap.size w W)(c:Below W.heap.size W b)(j:iz W d v o)(l:iz W e x p)(h:W.heap[D]? =some (.deferred (some [])))(q:w.heap.size≤D):
 b.cell? ⟨d,0,none⟩=some v∧b.cell? ⟨e,0,none⟩=some x∧b.heap[D]? =some (.deferred (some []))∧Below w.heap.size w (b.putObj D (.deferred none)):=by
 have a:=i.trans (c.mono i.size);have m:D<W.heap.size:=(aB.1 h).1;exact⟨(j.next c).cell,(l.next c).cell,(c.block D m).trans h,a.os,a.tape,a.output,by simpa using a.size,fun k n=>(hX (by omega)).trans (a.block k n)⟩
theorem Qt(s:Bs)(w:World)(d:Good w)(hs:s.length≤100000):
 Calls Tryz.prog 107 #[.string ⟨s.toArray⟩] w (cN w (.string ⟨(fO s).toArray⟩)):=by
 obtain⟨N,_⟩:∃N:Nat,True:=⟨0,trivial⟩;have a8:=d.lt;have HG:=ad d;clear d;refine(callsIn_wide (n:=N)).1 ?_;refine callsIn_of_wp_marks Tryz.func107 rfl trivial ?_ rfl;simp only[Tryz.ntmps107,oC,bF,lH,Nat.reduceAdd,Nat.reduceSub,Array.replicate_succ,Array.replicate_zero,List.push_toArray,List.append_toArray,kK,di]
 gi_wp2_with fail
 refine ff ((cj ⟨s.toArray⟩ ⟨#[47]⟩ w).mono ?_);rintro e w1⟨rfl,rfl⟩;rcases H:Lib.hasPrefix s [47] with _|_
 ·have V:=ad (S6 H);clear H
  gi_wp2
  exact⟨_,results_tmp rfl _ _ _,by rw[V.out];rfl,ar _ _⟩
 ·have V:=ad (Qq H);obtain⟨r,rfl⟩:=Mn H;clear H;have hex:(⟨(47::r).toArray⟩:ByteArray).extract 1 (r.length+1)=⟨r.toArray⟩:=dU (by rw[cf];simp);have bb:r.length≤99999:=by simp at hs;omega
  have F:=ad (jG w (.cells #[.slice none 0 0] 28) (.cells #[.string ⟨#[]⟩] 9))
  gi_wp2_with fail
  generalize(w.alloc (.cells #[.slice none 0 0] 28)).alloc (.cells #[.string ⟨#[]⟩] 9)=W0 at*;have ay:=F.out.size;refine ff ((kC r 47 W0).mono ?_);rintro e j⟨rfl,hit,a4,O⟩;rw[ay] at hit a4;have a0:Good j:=(HG.out.next F.out.below).next O
  have aN:=F.out.below.trans (O.mono F.out.below.size);have k3:iz j w.heap.size (.slice none 0 0) 28:=(O.block _ (by omega)).trans F.out.b1;have k4:iz j (w.heap.size+1) (.string ⟨#[]⟩) 9:=(O.block _ (by omega)).trans F.out.b2;have av:DI w j.heap.size w.heap.size (w.heap.size+1) [] j:=⟨⟨_,k3,.inl (jO _ _ _ _)⟩,k4,aN⟩;clear O
  gi_wp2_with fail
  refine Ck 47 r (w.heap.size+1+1) (w.heap.size+1+1+1) (w.heap.size+1+1+1+1) (by omega) (by omega) (by omega) rfl rfl hit a0 (by omega)
   (fun k=>(k=w.heap.size∨k=w.heap.size+1)∨j.heap.size+1<k) (by rintro k((rfl|rfl)|h)<;>omega)
   (DI w j.heap.size w.heap.size (w.heap.size+1)) (fun _ _=>False)
   (DI.stays (by omega) (by omega) (by omega) (by omega) (by omega) (by omega) (by omega)) (fun _ _ _ h _=>h) av ?a1 ?assign ?body ?done ?stop
  case assign=>
   intro l x W K M
   gi_wp2
   exact M
  case body=>
   rintro l pre x W p bd a7 an;obtain⟨v,y,i⟩:=p.kept;obtain⟨C,L,rfl,aU⟩:=i.shape;have ck:=y.cell;have fk:=y.free;have cl:=p.last.cell;have fl:=p.last.free;have a9:=SY an;have a3:=l8 47 r;have Q:=ad (Bt pre x);generalize G:dh pre=c at*;have ao:=ad G;have S:=ad p;clear p G;by_cases q:x=zK
   ·subst q;have u:=SZ (x:=zK) S.out (by omega) (by omega) (by omega) (by omega) (by rw[Q.out,ao.out];unfold bU;rw[ah rfl]);have B:=ad u;clear u
    gi_wp2
    exact B.out
   ·by_cases o:x=uB
    ·subst o;have I:bU c uB=c.dropLast:=by unfold bU;rw[ae TT,ah rfl]
     have E:ke (W.setCell ⟨w.heap.size+1,0,none⟩ (.string ⟨uB.toArray⟩)) (j.heap.size+1+1) (.slice C c.length L) c:=i.kept (by rw[bE];exact ag _) (fun g d=>dy W ⟨w.heap.size+1,0,none⟩ _ g (by have:=i.block g d;show g≠w.heap.size+1;omega));by_cases T:c=[]
     ·subst T;have u:=Qp (x:=uB) (t:=.slice none 0 0) (v:=.slice C 0 0) S.out (by omega) (by omega) (by omega) (by omega) (by omega) (by omega) (World.grownBy.refl _ _) (fun g d=>by cases d) (by rw[Q.out,I];exact E.WU);have B:=ad u;clear u E I
      gi_wp2
      exact B.out
     ·have H:0<c.length:=List.length_pos_iff.2 T;have u:=Qp (x:=uB) (t:=.slice none 0 0) (v:=.slice C (c.length-1) (c.length-1)) S.out (by omega) (by omega) (by omega) (by omega) (by omega) (by omega) (World.grownBy.refl _ _) (fun g d=>by cases d) (by rw[Q.out,I];exact E.cut T);have B:=ad u;clear u E I T;have z1:(1:Int)≤(c.length:Int):=by omega
      have z2:(0:Int)≤(c.length:Int)-1:=by omega
      have z3:max (0:Int) ((c.length:Int)-1)=((c.length-1:Nat):Int):=by rw[Int.max_eq_right z2];omega
      gi_wp2
      exact B.out
    ·have I:bU c x=c++[x]:=by unfold bU;rw[ae q,ae o]
     have E:ke ((W.setCell ⟨w.heap.size+1,0,none⟩ (.string ⟨x.toArray⟩)).alloc (.cells #[.string ⟨x.toArray⟩] 9)) (j.heap.size+1+1) (.slice C c.length L) c:=i.kept (by rw[aO,bE];omega) (fun g d=>(tG _ _ _ (by rw[bE];exact(i.block g d).2)).trans (dy W ⟨w.heap.size+1,0,none⟩ _ g (by have:=i.block g d;show g≠w.heap.size+1;omega)));have A:=ad E;have HB:=ad (fun g d=>(i.block g d).1);have ap:=ad y;have Z:=bH (W.setCell ⟨w.heap.size+1,0,none⟩ (.string ⟨x.toArray⟩)) #[.string ⟨x.toArray⟩] 9 0 _ rfl;rw[bE] at Z;have HC:=ad Z;have g1:¬x=[46]:=q;have g2:¬x=[46,46]:=o;have g3:(x==[46])=false:=by rw[aL];exact q
     have g4:(x==[46,46])=false:=by rw[aL];exact o
     clear E Z q o y i
     gi_wp2_with (gi_at_builtin;refine zJ (by rfl) _ _ (by rfl) (j.heap.size+1+1) _ c (by rfl) A.out x _ (by rfl) HC.out (by omega) (by rw[aO,bE];omega) ?_;intro a' c' W' hk d;have B:=ad (Qp (x:=x) S.out (by omega) (by omega) (by omega) (by omega) (by omega) (by omega) (vI d) HB.out (by rw[Q.out,I];exact hk));have Y:=I1 d HB.out ap.out (by omega) (by omega);have a5:=Y.cell;have a6:=Y.free;clear hk d Y)
     exact B.out
  case done=>
   rintro D W hD p M;obtain⟨v,y,i⟩:=p.kept;obtain⟨C,L,rfl,aU⟩:=i.shape;have aa:=tr (pieces 47 r) [];rw[rP] at aa;have a2:=uA (pieces 47 r) [];have a3:=l8 47 r;have am:=Qr (gO 47 r);have z:=ad (show fO (47::r)=iA (dh (pieces 47 r))++(bif jt ((pieces 47 r).getLast?.getD []) then[47] else[]) from V.out);have q3:=p.last;have af:=p.below;unfold dh at*;generalize(pieces 47 r).foldl bU []=c at*;generalize(pieces 47 r).getLast?.getD []=J at*;rw[tu] at aa;have hj:(Lib.join c [47]).length≤1000000:=by
    by_cases al:c=[]
    ·subst al;exact aH _
    ·have:=FJ al;have o:=congrArg List.length this;simp at o aa;omega
   have A:=ad (show iz W w.heap.size (.slice C c.length L) 28∧ke W (j.heap.size+1+1) (.slice C c.length L) c∧iz W (w.heap.size+1) (.string ⟨J.toArray⟩) 9∧Below w.heap.size w W∧W.heap[D]? =some (.deferred (some [])) from⟨y,i,q3,af,M⟩);have ck:=y.cell;clear p M y i q3 af
   gi_wp2_with fail
   refine ff ((Mm _ c ⟨#[47]⟩ W A.out.2.1.strs (by simp at a2;omega) hj).mono ?_);rintro e w3⟨rfl,ac⟩;obtain⟨c3,c4,ab,ai⟩:=Qs A.out.2.2.2.1 ac A.out.1 A.out.2.2.1 A.out.2.2.2.2 (by omega);have m:=ad (And.intro ab ai);clear ac ab ai;have e1:(⟨#[47]⟩:ByteArray)++⟨(Lib.join c [47]).toArray⟩=⟨(47::Lib.join c [47]).toArray⟩:=dU (by simp);have e2:(⟨(47::Lib.join c [47]).toArray⟩:ByteArray)++⟨#[47]⟩=⟨(47::Lib.join c [47]++[47]).toArray⟩:=dU (by simp);have e3:c=[]→(⟨(47::Lib.join c [47]).toArray⟩:ByteArray)=⟨(iA c++[47]).toArray⟩:=by rintro rfl;rfl
   have e4:c≠[]→47::Lib.join c [47]=iA c:=FJ;have R:=ad (And.intro e3 (And.intro e4 am));have d1:=nh J;clear e3 e4 am;rcases Nat.eq_zero_or_pos c.length with hz|hz
   ·have G:=List.length_eq_zero_iff.1 hz;have hd:=R.out.2.2 G;rw[hd] at z;have HZ:=ad G;have z1:((c.length:Nat):Int)=0:=by omega
    have aq:=d1.1 hd;clear d1 hd G;rcases aq with rfl|rfl
    ·unfold zK at*
     gi_wp2
     refine⟨by simp,.inl ⟨_,_,rfl,kM m.out.1,⟨_,results_tmp rfl _ _ _, ?_,m.out.2⟩⟩⟩;exact yZ (a:=⟨(47::Lib.join c [47]).toArray⟩) (b:=⟨(fO (47::r)).toArray⟩) (by rw[z.out,R.out.1 HZ.out];rfl)
    ·unfold uB at*
     gi_wp2
     refine⟨by simp,.inl ⟨_,_,rfl,kM m.out.1,⟨_,results_tmp rfl _ _ _, ?_,m.out.2⟩⟩⟩;exact yZ (a:=⟨(47::Lib.join c [47]).toArray⟩) (b:=⟨(fO (47::r)).toArray⟩) (by rw[z.out,R.out.1 HZ.out];rfl)
   ·have X:=ad (R.out.2.1 (by rintro rfl;simp at hz));have z1:(0:Int)<((c.length:Nat):Int):=by omega
    rcases dT (J=[46]) with rfl|q
    ·gi_wp2
     refine⟨by simp,.inl ⟨_,_,rfl,kM m.out.1,⟨_,results_tmp rfl _ _ _, ?_,m.out.2⟩⟩⟩;exact yZ (a:=⟨(47::Lib.join c [47]++[47]).toArray⟩) (b:=⟨(fO (47::r)).toArray⟩) (by rw[z.out,X.out];rfl)
    ·rcases dT (J=[46,46]) with rfl|o
     ·gi_wp2
      refine⟨by simp,.inl ⟨_,_,rfl,kM m.out.1,⟨_,results_tmp rfl _ _ _, ?_,m.out.2⟩⟩⟩;exact yZ (a:=⟨(47::Lib.join c [47]++[47]).toArray⟩) (b:=⟨(fO (47::r)).toArray⟩) (by rw[z.out,X.out];rfl)
     ·have g3:(J==[46])=false:=by rw[aL];exact q
      have g4:(J==[46,46])=false:=by rw[aL];exact o
      rw[FK q o] at z;clear d1
      gi_wp2
      refine⟨by simp,.inl ⟨_,_,rfl,kM m.out.1,⟨_,results_tmp rfl _ _ _, ?_,m.out.2⟩⟩⟩;exact yZ (a:=⟨(47::Lib.join c [47]).toArray⟩) (b:=⟨(fO (47::r)).toArray⟩) (by rw[z.out,X.out];simp)
  case stop=>rintro D pre W hD an h M;exact h.elim
end Go.Proofs.YtogchgjfialleaaGreatDoor
