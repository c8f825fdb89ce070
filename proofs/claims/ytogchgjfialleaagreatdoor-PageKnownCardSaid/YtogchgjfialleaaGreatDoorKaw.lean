/- The walk of the lexer's Tokens. -/
import Derived.Test.YtogchgjfialleaaGreatDoorKav
set_option linter.unusedVariables false
set_option maxRecDepth 100000
set_option maxHeartbeats 8000000
namespace Go.Proofs.YtogchgjfialleaaGreatDoor
open Go.RowKit
def Vn(p:Nat)(k:Nat):Value:=
 if k=1 then .func (.func 68) #[.pointer (some ⟨p,0,none⟩)] #[]
 else if k=2 then .func (.func 69) #[.pointer (some ⟨p,0,none⟩)] #[]
 else if k=3 then .func (.func 71) #[.pointer (some ⟨p,0,none⟩)] #[]
 else if k=4 then .func (.func 72) #[.pointer (some ⟨p,0,none⟩)] #[]
 else .nilFunc
theorem Rl(r:Bs)(hid:Bool):dw r hid=if Lib.hasPrefix r eY then 1 else if Lib.hasPrefix r bD then 2 else if Lib.hasPrefix r jv&&((r.drop 7).head?.map mE).getD false then 3 else if Lib.hasPrefix r oJ&&hid then 4 else 0:=rfl
theorem Vo(r:Bs):((r.drop 7).head?.map mE).getD false=if h:7<r.length then mE r[7] else false:=by
 by_cases h:7<r.length
 ·rw[dif_pos h,lG h];rfl
 ·rw[dif_neg h,qA (by omega)];rfl
theorem NM{W:World}{p:Nat}{s:Bs}{i:Nat}{Z:Value}{h:Int}(hid:Bool)(I:hid=true→0≤h)(J:hid=false→¬0≤h)(x:LB W p s i Z h)(hi:i<s.length)(hs:s.length≤1000000):
 Calls Tryz.prog 36 #[.pointer (some ⟨p,0,none⟩)] W (cN W (Vn p (dw (s.drop i) hid))):=by
 have aa:∀(fn:Fn) (first cap:Array Value) (w:World),(Instr.makeFunc fn first cap).run Tryz.prog w=.ok (.func fn first cap) w:=fun _ _ _ _=>rfl;obtain⟨R,S,-,-,-,-,-⟩:=x.lc;have G:=ad x;have X:((⟨s.toArray⟩:ByteArray).extract i s.length)=⟨(s.drop i).toArray⟩:=ic s i _ (ag _);have ab:(s.drop i).length≤1000000:=by rw[bK];omega
 have i0:(0:Int)≤(i:Int):=by omega
 have i2:(i:Int)≤(s.length:Int):=by omega
 generalize s.drop i=r at*;have n:∀(b:Bs) (W:World),Calls Tryz.prog 45 #[.string ⟨r.toArray⟩,.string ⟨b.toArray⟩] W fun e w'=>e=.returned (.bool (Lib.hasPrefix r b))∧w'=W:=fun b W=>(cj ⟨r.toArray⟩ ⟨b.toArray⟩ W).mono fun e w' ⟨T,V⟩=>⟨T,V.symm⟩;obtain⟨a1,z⟩:∃a,Lib.hasPrefix r eY=a:=⟨_,rfl⟩;obtain⟨a2,A⟩:∃a,Lib.hasPrefix r bD=a:=⟨_,rfl⟩;obtain⟨a3,B⟩:∃a,Lib.hasPrefix r jv=a:=⟨_,rfl⟩;obtain⟨a4,C⟩:∃a,Lib.hasPrefix r oJ=a:=⟨_,rfl⟩;have M:=ad (show∀W:World,Calls Tryz.prog 45 #[.string ⟨r.toArray⟩,.string ⟨#[60,101,115,105,58]⟩] W fun e w'=>e=.returned (.bool a1)∧w'=W from z▸n eY);have N:=ad (show∀W:World,Calls Tryz.prog 45 #[.string ⟨r.toArray⟩,.string ⟨#[60,47,101,115,105,58]⟩] W fun e w'=>e=.returned (.bool a2)∧w'=W from A▸n bD);have O:=ad (show∀W:World,Calls Tryz.prog 45 #[.string ⟨r.toArray⟩,.string ⟨#[60,33,45,45,101,115,105]⟩] W fun e w'=>e=.returned (.bool a3)∧w'=W from B▸n jv);have u:=ad (show∀W:World,Calls Tryz.prog 45 #[.string ⟨r.toArray⟩,.string ⟨#[45,45,62]⟩] W fun e w'=>e=.returned (.bool a4)∧w'=W from C▸n oJ);obtain⟨K,y⟩:∃k,dw r hid=k:=⟨_,rfl⟩;have E:=Rl r hid;rw[y,z,A,B,C,Vo] at E;rw[y];have c:=ad E;have l:=ad (And.intro I J);clear n z A B C y E I J x;go_enter Tryz.func36,Tryz.ntmps36;go_wp2_with fail
 go_quiet (fail)
 have d:=ad (ax W nq);have Q:=ad (G.out.next d.out);clear R S X G;generalize W.drewN nq=w1 at*;obtain⟨-,-,-,c3,-,-,-⟩:=Q.out.lc;go_wp2_with fail;refine(M.out _).mono ?_;rintro e w2⟨rfl,rfl⟩;rcases a1 with _|_
 ·go_wp2_with fail;refine(N.out _).mono ?_;rintro e w3⟨rfl,rfl⟩;rcases a2 with _|_
  ·go_wp2_with fail;refine(O.out _).mono ?_;rintro e w4⟨rfl,rfl⟩;rcases a3 with _|_
   ·go_wp2_with fail;refine(u.out _).mono ?_;rintro e F⟨rfl,rfl⟩;rcases a4 with _|_
    ·obtain rfl:K=0:=by have:=c.out;simpa[] using this
     clear c;go_wp2_with fail;go_ret;exact⟨rfl,d.out⟩
    ·rcases hid with _|_
     ·obtain rfl:K=0:=by have:=c.out;simpa[] using this
      have m:=l.out.2 rfl;clear c;go_wp2_with fail;go_ret;exact⟨rfl,d.out⟩
     ·obtain rfl:K=4:=by have:=c.out;simpa[] using this
      have m:=l.out.1 rfl;clear c;go_wp2_with fail;go_ret;exact⟨rfl,d.out⟩
   ·by_cases t:7<r.length
    ·obtain⟨H,D⟩:∃q,mE r[7]=q:=⟨_,rfl⟩;have L:=ad (show∀W:World,Calls Tryz.prog 70 #[.int .u8 (((⟨r.toArray⟩:ByteArray)[7]'(by simpa[ByteArray.size] using t)).toNat:Int)] W fun e w'=>e=.returned (.bool H)∧w'=W from fun W=>by
      rw[show((⟨r.toArray⟩:ByteArray)[7]'(by simpa[ByteArray.size] using t))=r[7] from rfl,←D]
      exact tT r[7] W)
     have o:=ad D;have j:=ad t;have Y:(7:Int)<(r.length:Int):=by omega
     clear D;go_wp2_with fail;refine(L.out _).mono ?_;rintro e F⟨rfl,rfl⟩;rcases H with _|_
     ·go_wp2_with fail;refine(u.out _).mono ?_;rintro e F⟨rfl,rfl⟩;rcases a4 with _|_
      ·obtain rfl:K=0:=by have:=c.out;simpa[j.out,o.out] using this
       clear c;go_wp2_with fail;go_ret;exact⟨rfl,d.out⟩
      ·rcases hid with _|_
       ·obtain rfl:K=0:=by have:=c.out;simpa[j.out,o.out] using this
        have m:=l.out.2 rfl;clear c;go_wp2_with fail;go_ret;exact⟨rfl,d.out⟩
       ·obtain rfl:K=4:=by have:=c.out;simpa[j.out,o.out] using this
        have m:=l.out.1 rfl;clear c;go_wp2_with fail;go_ret;exact⟨rfl,d.out⟩
     ·obtain rfl:K=3:=by have:=c.out;simpa[j.out,o.out] using this
      clear c;go_wp2_with fail;go_ret;exact⟨rfl,d.out⟩
    ·have j:=ad t;have Y:¬(7:Int)<(r.length:Int):=by omega
     go_wp2_with fail;refine(u.out _).mono ?_;rintro e F⟨rfl,rfl⟩;rcases a4 with _|_
     ·obtain rfl:K=0:=by have:=c.out;simpa[j.out] using this
      clear c;go_wp2_with fail;go_ret;exact⟨rfl,d.out⟩
     ·rcases hid with _|_
      ·obtain rfl:K=0:=by have:=c.out;simpa[j.out] using this
       have m:=l.out.2 rfl;clear c;go_wp2_with fail;go_ret;exact⟨rfl,d.out⟩
      ·obtain rfl:K=4:=by have:=c.out;simpa[j.out] using this
       have m:=l.out.1 rfl;clear c;go_wp2_with fail;go_ret;exact⟨rfl,d.out⟩
  ·obtain rfl:K=2:=by have:=c.out;simpa using this
   clear c;go_wp2_with fail;go_ret;exact⟨rfl,d.out⟩
 ·obtain rfl:K=1:=by have:=c.out;simpa using this
  clear c;go_wp2_with fail;go_ret;exact⟨rfl,d.out⟩
theorem NN(b2 b3 b4:Nat)(w:World):
 CallsD Tryz.prog 35 #[.pointer (some ⟨b2,0,none⟩),.pointer (some ⟨b3,0,none⟩),.pointer (some ⟨b4,0,none⟩)] .returning w fun e c w'=>e=.returned (.tuple #[])∧c=.returning∧w'=w:=by
 refine callsD_of_wpS Tryz.func35 rfl fun a d b=> ?_;apply wpS_seq;apply wpS_region;simp[wpOpsS,go_sem,recoverD,b,Tryz.ntmps35,Exit.thenS];refine wpS_of_wp ?_;cases a;go_wp2_with fail;simp_all [bodyPostS,results,Tryz.results35]
structure CT (W:World) (b2 b3 b4:Nat) (v2:Value) (v3 v4:Int):Prop where
 r2:W.heap[b2]? =some (.cells #[v2] 69)
 r3:W.heap[b3]? =some (.cells #[.int .i64 v3] 3)
 r4:W.heap[b4]? =some (.cells #[.int .i64 v4] 54)
 l2:b2<b3
 l3:b3<b4
theorem CT.lt{W:World}{b2 b3 b4:Nat}{v2:Value}{a b:Int}(H:CT W b2 b3 b4 v2 a b):b4<W.heap.size:=(aB.1 H.r4).1
theorem CT.next{W W':World}{b2 b3 b4:Nat}{v2:Value}{b c:Int}(H:CT W b2 b3 b4 v2 b c){n:Nat}(a:Below n W W')(d:b4<n):CT W' b2 b3 b4 v2 b c:=
 ⟨(a.block _ (by have:=H.l2;have:=H.l3;omega)).trans H.r2,(a.block _ (by have:=H.l3;omega)).trans H.r3,(a.block _ d).trans H.r4,H.l2,H.l3⟩
theorem CT.lay{W:World}{b2 b3 b4:Nat}{v2:Value}{c d:Int}(H:CT W b2 b3 b4 v2 c d)(u2:Value)(u3 u4:Int):
 CT (((W.setCell ⟨b2,0,none⟩ u2).setCell ⟨b3,0,none⟩ (.int .i64 u3)).setCell ⟨b4,0,none⟩ (.int .i64 u4)) b2 b3 b4 u2 u3 u4:=by
 have k:=H.l2;have l:=H.l3;have a2:(W.setCell ⟨b2,0,none⟩ u2).heap[b2]? =some (.cells #[u2] 69):=aw (j:=0) H.r2;have a3:(W.setCell ⟨b2,0,none⟩ u2).heap[b3]? =some (.cells #[.int .i64 c] 3):=(dy W ⟨b2,0,none⟩ u2 b3 (by show b3≠b2;omega)).trans H.r3;have a4:(W.setCell ⟨b2,0,none⟩ u2).heap[b4]? =some (.cells #[.int .i64 d] 54):=(dy W ⟨b2,0,none⟩ u2 b4 (by show b4≠b2;omega)).trans H.r4;generalize W.setCell ⟨b2,0,none⟩ u2=a at*;have d2:=(dy a ⟨b3,0,none⟩ (.int .i64 u3) b2 (by show b2≠b3;omega)).trans a2;have e:(a.setCell ⟨b3,0,none⟩ (.int .i64 u3)).heap[b3]? =some (.cells #[.int .i64 u3] 3):=aw (j:=0) a3;have h:=(dy a ⟨b3,0,none⟩ (.int .i64 u3) b4 (by show b4≠b3;omega)).trans a4;generalize a.setCell ⟨b3,0,none⟩ (.int .i64 u3)=b at*;have i:(b.setCell ⟨b4,0,none⟩ (.int .i64 u4)).heap[b4]? =some (.cells #[.int .i64 u4] 54):=aw (j:=0) h;exact⟨(dy b ⟨b4,0,none⟩ (.int .i64 u4) b2 (by show b2≠b4;omega)).trans d2,(dy b ⟨b4,0,none⟩ (.int .i64 u4) b3 (by show b3≠b4;omega)).trans e,i,k,l⟩
theorem CT.Aq{W:World}{b2 b3 b4:Nat}{v2:Value}{d e:Int}(H:CT W b2 b3 b4 v2 d e)(u2:Value)(u3 u4:Int):
 Below b2 W (((W.setCell ⟨b2,0,none⟩ u2).setCell ⟨b3,0,none⟩ (.int .i64 u3)).setCell ⟨b4,0,none⟩ (.int .i64 u4)):=by
 have h:=H.l2;have i:=H.l3;have k:=H.lt;have a:=(ak.refl b2 W).set (j:=0) (v:=u2);have b:=(ak.refl b3 (W.setCell ⟨b2,0,none⟩ u2)).set (j:=0) (v:=.int .i64 u3);have c:=(ak.refl b4 ((W.setCell ⟨b2,0,none⟩ u2).setCell ⟨b3,0,none⟩ (.int .i64 u3))).set (j:=0) (v:=.int .i64 u4);have l:=a.size;have m:=b.size;exact((a.below (ag _) (by omega)).trans (b.below (by omega) (by omega))).trans (c.below (by omega) (by omega))
theorem NO(place c:Int)(w:World):(Instr.typeAssert (.iface 100 (.agg #[.int .i64 place,.int .i64 c])) 20 100 true).run Tryz.prog w=.ok (.tuple #[.agg #[.int .i64 place,.int .i64 c],.bool true]) w:=by kernel_rfl
theorem Gt(b2 b3 b4:Nat)(v2:Value)(N O place c:Int)(w:World)(H:CT w b2 b3 b4 v2 N O):
 CallsD Tryz.prog 35 #[.pointer (some ⟨b2,0,none⟩),.pointer (some ⟨b3,0,none⟩),.pointer (some ⟨b4,0,none⟩)] (.panicking [tS place c]) w fun e M w'=>e=.returned (.tuple #[])∧M=.panicking [{tS place c with recovered:=true}]∧CT w' b2 b3 b4 (.slice none 0 0) place c∧Below b2 w w':=by
 have h:=aj 0 H.r2;have i:=aj 0 H.r3;have j:=aj 0 H.r4;have k:=aF _ _ 0 _ _ H.r2;have l:=aF _ _ 0 _ _ H.r3;have m:=aF _ _ 0 _ _ H.r4;have a:=ad H;refine callsD_of_wpS Tryz.func35 rfl fun u V o=> ?_;apply wpS_seq;apply wpS_region;simp[wpOpsS,go_sem,recoverD,o,tS,Tryz.ntmps35,Exit.thenS];refine wpS_of_wp ?_;have A:=NO place c;have s:((#[.pointer (some ⟨b2,0,none⟩),.pointer (some ⟨b3,0,none⟩),.pointer (some ⟨b4,0,none⟩)]:Array Value)++(Array.replicate 13 undef).setIfInBounds 3 (.iface 100 (.agg #[.int .i64 place,.int .i64 c])))=#[.pointer (some ⟨b2,0,none⟩),.pointer (some ⟨b3,0,none⟩),.pointer (some ⟨b4,0,none⟩),undef,undef,undef,.iface 100 (.agg #[.int .i64 place,.int .i64 c]),undef,undef,undef,undef,undef,undef,undef,undef,undef]:=rfl;rw[s];clear s h i j k l m;cases u;have T:=ad o;clear o;go_wp2_with fail;clear A H;have n:Below w.heap.size w (w.alloc (.cells #[.int .i64 place,.int .i64 c] 100)):=(ar _ _).alloc (ag _) _;have t:=ad n;have p:=ad (au w (.cells #[.int .i64 place,.int .i64 c] 100));have b:=ad (a.out.next n a.out.lt);have z:=a.out.lt;have x:=a.out.l2;have y:=a.out.l3;generalize w.alloc (.cells #[.int .i64 place,.int .i64 c] 100)=Q at*;have R:=aj 0 p.out;have S:=aj 1 p.out;have h:=aj 0 b.out.r2;have i:=aj 0 b.out.r3;have j:=aj 0 b.out.r4;have k:=aF _ _ 0 _ _ b.out.r2;have l:=aF _ _ 0 _ _ b.out.r3;have m:=aF _ _ 0 _ _ b.out.r4;have n1:¬b2=w.heap.size:=by omega
 have n2:¬b3=w.heap.size:=by omega
 have E:¬b4=w.heap.size:=by omega
 have F:¬w.heap.size=b2:=by omega
 have G:¬w.heap.size=b3:=by omega
 have I:¬w.heap.size=b4:=by omega
 have J:¬b2=b3:=by omega
 have K:¬b2=b4:=by omega
 have L:¬b3=b4:=by omega
 have B:¬b3=b2:=by omega
 have C:¬b4=b2:=by omega
 have D:¬b4=b3:=by omega
 clear n z x y;go_region;have r:=b.out.lay (.slice none 0 0) place c;have q:=((t.out.mono (om (Nat.lt_trans (Nat.lt_trans a.out.l2 a.out.l3) a.out.lt))).trans (b.out.Aq (.slice none 0 0) place c));clear R S h i j k l m n1 n2 E F G I J K L B C D;have d:=ad (And.intro r q);clear r q;generalize((Q.setCell ⟨b2,0,none⟩ (.slice none 0 0)).setCell ⟨b3,0,none⟩ (.int .i64 place)).setCell ⟨b4,0,none⟩ (.int .i64 c)=W at*;go_wp2_with fail;refine⟨rfl,_,rfl,.tuple #[], ?_,rfl,rfl, ?_, ?_⟩
 ·simp[results,Tryz.results35,go_sem]
 ·exact⟨d.out.1.r2,d.out.1.r3,d.out.1.r4,d.out.1.l2,d.out.1.l3⟩
 ·exact mM d.out.2
def Gu:Option Nat→Int
 |some x=>(x:Int)
 |none=>-1
def mu(A:Nat→Prop)(W:World)(a:List Tok)(b:Value):Prop:=∃xs,qy A W a xs∧((a=[]∧b=.slice none 0 0)∨∃g c,b=.slice (some ⟨g,0,none⟩) a.length c∧a.length≤c∧A g∧g<W.heap.size∧eI W g 0 xs)
theorem NP{A:Nat→Prop}{W:World}{base:Nat}{T:TypeId}{l:List Tok}{v:Value}{xs:List Value}(c:W.ownsRow base T 6 v l.length xs)(d:qy A W l xs)(i:∀z,base≤z→A z):mu A W l v:=by
 rcases c.2 with⟨a,b⟩|⟨g,cap,o,a,b,e,h,p,q,r⟩
 ·exact⟨xs,d,.inl ⟨jn b,a⟩⟩
 ·have m:=c.cells (g:=g) (by rw[a];rfl);refine⟨xs,d,.inr ⟨g,cap,a,h,i g b,(aB.1 e).1,(fun j v n=> ?_)⟩⟩;have k:(⟨g,0,none⟩:Addr).add j=⟨g,0+j,none⟩:=by unfold Addr.add;split<;>simp_all
  rw[←k];exact m j v n
theorem mu.cO{A A':Nat→Prop}{W W':World}{k:List Tok}{m:Value}(h:mu A W k m)(j:W.heap.size≤W'.heap.size)(e:∀b,A b→b<W.heap.size→A' b∧W'.heap[b]? =W.heap[b]?):mu A' W' k m:=by
 obtain⟨xs,n,a⟩:=h;refine⟨xs,n.map fun l v h=>h.cO j e, ?_⟩;rcases a with a|⟨g,c,o,p,i,d,q⟩
 ·exact .inl a
 ·exact .inr ⟨g,c,o,p,(e g i d).1,ej d j,q.cO (e g i d).2⟩
theorem CT.NQ{W:World}{b2 b3 b4:Nat}{v2:Value}{a b:Int}(H:CT W b2 b3 b4 v2 a b)(u2:Value)(u3 u4:Int)(k:Nat)(e:b4<k):
 (((W.setCell ⟨b2,0,none⟩ u2).setCell ⟨b3,0,none⟩ (.int .i64 u3)).setCell ⟨b4,0,none⟩ (.int .i64 u4)).heap[k]? =W.heap[k]? :=by
 have c:=H.l2;have d:=H.l3;exact((dy _ ⟨b4,0,none⟩ _ k (by show k≠b4;omega)).trans (dy _ ⟨b3,0,none⟩ _ k (by show k≠b3;omega))).trans (dy _ ⟨b2,0,none⟩ _ k (by show k≠b2;omega))
theorem NR{s:Bs}{tag:Nat}{l:List Tok}{j:Nat}(h:dB s tag=.aq l j):l.length≤2:=by
 unfold dB at h;dsimp only at h;split at h
 ·split at h
  ·cases h
  ·split at h
   ·split at h
    ·cases h
    ·cases h;simp
   ·cases h;simp
 ·cases h
theorem KP{s:Bs}{tag:Nat}{l:List Tok}{j:Nat}(h:de s tag=.aq l j):l.length≤2:=by
 unfold de at h;dsimp only at h;split at h
 ·split at h
  ·cases h
  ·split at h
   ·cases h;simp
   ·cases h
 ·cases h
theorem Gv(s:Bs)(a b:Nat):(dc s a b).length≤1:=by unfold dc;split<;>simp
def tU(w:World):Lx (List Tok)→Ending→World→Prop
 |.aq d _=>fun e w'=>Below w.heap.size w w'∧∃a,e=.returned (.tuple #[a,.int .i64 0,.int .i64 0])∧mu (fun b=>w.heap.size≤b) w' d a
 |.bad q c=>fun e w'=>Below w.heap.size w w'∧e=.returned (.tuple #[.slice none 0 0,.int .i64 q,.int .i64 c])
theorem NS{s:Bs}{f src i:Nat}{hid:Option Nat}{l:List Tok}{R:Lx (List Tok)}(h:gS s (f+1) src i hid l=R):
 (i<s.length→(dw (s.drop i) hid.isSome=0→gS s f src (i+1) hid l=R)∧
  (dw (s.drop i) hid.isSome≠0→(∀q e,fq s (dw (s.drop i) hid.isSome) i hid=.bad q e→R=.bad q e)∧(∀x j,fq s (dw (s.drop i) hid.isSome) i hid=.aq x j→gS s f j j x.2 (l++dc s src i++x.1)=R)))∧
 (¬i<s.length→(∀g,hid=some g→R=.bad g 14)∧(hid=none→R=.aq (l++dc s src i) i)):=by
 have c:gS s (f+1) src i hid l=if i<s.length then
  (if dw (s.drop i) hid.isSome=0 then gS s f src (i+1) hid l
  else match fq s (dw (s.drop i) hid.isSome) i hid with
   |.bad p e=>.bad p e
   |.aq x j=>gS s f j j x.2 (l++dc s src i++x.1))
  else match(generalizing:=false) hid with
   |some g=>.bad g 14
   |none=>.aq (l++dc s src i) i:=rfl
 subst h;refine⟨fun b=>⟨fun a=>by rw[c,ah b,ah a],fun a=>⟨fun q e d=>by rw[c,ah b,ae a,d],fun x j d=>by rw[c,ah b,ae a,d]⟩⟩,fun b=>⟨fun g a=>by rw[c,ae b,a],fun a=>by rw[c,ae b,a]⟩⟩
theorem LK.shape{e W:World}{p:Nat}{s:Bs}{i:Nat}{h:Int}{d:Value}{done:List Tok}{xs:List Value}(H:LK e W p s i h d done xs):∃a n c,d=.slice a n c:=by rcases H.own.2 with⟨b,_⟩|⟨g,cap,j,b,_⟩<;>exact⟨_,_,_,b⟩
theorem Rm(w:World):(binOp BinOp.eql 1 .nilFunc .nilFunc).run Tryz.prog w=.ok (.bool true) w:=by kernel_rfl
theorem NT(f:Fn)(a:Array Value)(w:World):(binOp BinOp.eql 1 (.func f a #[]) .nilFunc).run Tryz.prog w=.ok (.bool false) w:=by kernel_rfl
theorem uT{W:World}{tmps:Array Value}{b2 b3 b4:Nat}{v2:Value}{a b:Int}(H:CT W b2 b3 b4 v2 a b)(h:tmps.getD 2 undef=.pointer (some ⟨b2,0,none⟩))(i:tmps.getD 3 undef=.pointer (some ⟨b3,0,none⟩))(j:tmps.getD 4 undef=.pointer (some ⟨b4,0,none⟩)):
 (results Tryz.f21 tmps).run Tryz.prog W=.ok (.tuple #[v2,.int .i64 a,.int .i64 b]) W:=by
 have k:=aj 0 H.r2;have l:=aj 0 H.r3;have m:=aj 0 H.r4;have c:tmps[2]?.getD undef=.pointer (some ⟨b2,0,none⟩):=by rw[←h];simp
 have d:tmps[3]?.getD undef=.pointer (some ⟨b3,0,none⟩):=by rw[←i];simp
 have e:tmps[4]?.getD undef=.pointer (some ⟨b4,0,none⟩):=by rw[←j];simp
 simp[results,Tryz.results21,go_sem,c,d,e,k,l,m]
theorem jI{w W:World}{tmps:Array Value}{b2 b3 b4:Nat}{v2:Value}{a b q c:Int}{place:Nat}(hq:q=(place:Int))(H:CT W b2 b3 b4 v2 a b)(h:Below w.heap.size w W)(d:w.heap.size≤b2)(l:tmps.getD 2 undef=.pointer (some ⟨b2,0,none⟩))(m:tmps.getD 3 undef=.pointer (some ⟨b3,0,none⟩))(n:tmps.getD 4 undef=.pointer (some ⟨b4,0,none⟩)):
 Leaves Tryz.prog Tryz.f21 tmps (tU w (.bad place c)) [{target:=.fn (.func 35) #[.pointer (some ⟨b2,0,none⟩),.pointer (some ⟨b3,0,none⟩),.pointer (some ⟨b4,0,none⟩)],args:=#[]}] (.panicking [tS q c]) W:=by
 refine leaves_cons (f:=35) (args:=#[.pointer (some ⟨b2,0,none⟩),.pointer (some ⟨b3,0,none⟩),.pointer (some ⟨b4,0,none⟩)]) (by simp) (by simp[go_sem]) ?_;refine(Gt b2 b3 b4 v2 a b q c W H).mono ?_;rintro e o p⟨rfl,rfl,k,i⟩;have j:=uT k l m n;subst hq;simp only[Leaves,settle,tS];exact⟨_,j,h.trans (i.mono d),rfl⟩
theorem xp{w W:World}{tmps:Array Value}{b2 b3 b4:Nat}{a:List Tok}{c:Value}{j:Nat}(H:CT W b2 b3 b4 c 0 0)(d:Below w.heap.size w W)(i:mu (fun b=>w.heap.size≤b) W a c)(k:tmps.getD 2 undef=.pointer (some ⟨b2,0,none⟩))(l:tmps.getD 3 undef=.pointer (some ⟨b3,0,none⟩))(m:tmps.getD 4 undef=.pointer (some ⟨b4,0,none⟩)):
 Leaves Tryz.prog Tryz.f21 tmps (tU w (.aq a j)) [{target:=.fn (.func 35) #[.pointer (some ⟨b2,0,none⟩),.pointer (some ⟨b3,0,none⟩),.pointer (some ⟨b4,0,none⟩)],args:=#[]}] .returning W:=by
 refine leaves_cons (f:=35) (args:=#[.pointer (some ⟨b2,0,none⟩),.pointer (some ⟨b3,0,none⟩),.pointer (some ⟨b4,0,none⟩)]) (by simp) (by simp[go_sem]) ?_;refine(NN b2 b3 b4 W).mono ?_;rintro e n o⟨rfl,rfl,rfl⟩;have h:=uT H k l m;simp only[Leaves,settle];exact⟨_,h,d,_,rfl,i⟩
theorem Gn(w:World)(hG:GL w)(s:Bs)(M:s.length≤1000000):
 Calls Tryz.prog 21 #[.string ⟨s.toArray⟩] w (tU w (lexB s)):=by
 have br:∀(fn:Fn) (first cap:Array Value) (w:World),(Instr.makeFunc fn first cap).run Tryz.prog w=.ok (.func fn first cap) w:=fun _ _ _ _=>rfl;have bs:=Rm;have bo:=NT;obtain⟨R,hR⟩:∃R,lexB s=R:=⟨_,rfl⟩;rw[hR];have be:=ad (show gS s (s.length+1) 0 0 none []=R from hR);clear hR
 go_enter_defers Tryz.func21,Tryz.ntmps21
 go_upto_region 3 with fail;have hA:Below w.heap.size w (((w.alloc (.cells #[.slice none 0 0] 69)).alloc (.cells #[.int .i64 0] 3)).alloc (.cells #[.int .i64 0] 54)):=
  (((ar _ _).alloc (ag _) _).alloc (by rw[aO];omega) _).alloc (by rw[aO,aO];omega) _
 have bd:(((w.alloc (.cells #[.slice none 0 0] 69)).alloc (.cells #[.int .i64 0] 3)).alloc (.cells #[.int .i64 0] 54)).heap.size=w.heap.size+1+1+1:=by simp[aO]
 have bb:CT (((w.alloc (.cells #[.slice none 0 0] 69)).alloc (.cells #[.int .i64 0] 3)).alloc (.cells #[.int .i64 0] 54)) w.heap.size (w.heap.size+1) (w.heap.size+1+1) (.slice none 0 0) 0 0:=by
  have a1:=au w (.cells #[.slice none 0 0] 69);have s1:(w.alloc (.cells #[.slice none 0 0] 69)).heap.size=w.heap.size+1:=aO _ _;generalize w.alloc (.cells #[.slice none 0 0] 69)=W1 at*;have a2:=au W1 (.cells #[.int .i64 0] 3);have s2:(W1.alloc (.cells #[.int .i64 0] 3)).heap.size=w.heap.size+1+1:=by rw[aO,s1]
  have k2:Below W1.heap.size W1 (W1.alloc (.cells #[.int .i64 0] 3)):=(ar _ _).alloc (ag _) _;rw[s1] at a2;have bf:=(k2.block _ (by omega)).trans a1;generalize W1.alloc (.cells #[.int .i64 0] 3)=W2 at*;have a3:=au W2 (.cells #[.int .i64 0] 54);have k3:Below W2.heap.size W2 (W2.alloc (.cells #[.int .i64 0] 54)):=(ar _ _).alloc (ag _) _;rw[s2] at a3;exact⟨(k3.block _ (by omega)).trans bf,(k3.block _ (by omega)).trans a2,a3,by omega,by omega⟩
 have C:=ad hA;have ao:=ad bb;have ap:=ad bd;clear hA bb bd;generalize((w.alloc (.cells #[.slice none 0 0] 69)).alloc (.cells #[.int .i64 0] 3)).alloc (.cells #[.int .i64 0] 54)=d at*;have HG:=ad (hG.next C.out);have hB:Below d.heap.size d (d.alloc (.cells #[.string ⟨s.toArray⟩,.int .i64 0,.slice none 0 0,.int .i64 (-1)] 103)):=(ar _ _).alloc (ag _) _;have av:=au d (.cells #[.string ⟨s.toArray⟩,.int .i64 0,.slice none 0 0,.int .i64 (-1)] 103);have a4:=ad (show LK d (d.alloc (.cells #[.string ⟨s.toArray⟩,.int .i64 0,.slice none 0 0,.int .i64 (-1)] 103)) (w.heap.size+1+1+1) s 0 (Gu none) (.slice none 0 0) [] [] from
  ⟨hB,by rw[ap.out] at av;exact av,jO _ _ _ _,rfl,Nat.le_of_eq ap.out,by simp[Value.ownBlock]⟩)
 clear hB av hG;generalize d.alloc (.cells #[.string ⟨s.toArray⟩,.int .i64 0,.slice none 0 0,.int .i64 (-1)] 103)=w1 at*;have ac:=ad (show w.heap.size+1+1<d.heap.size by rw[ap.out];omega);obtain⟨p,hp⟩:∃p,w.heap.size+1+1+1=p:=⟨_,rfl⟩;rw[hp] at a4⊢;clear hp ap;go_upto_region 4 with fail
 go_loopw [6,7] (fun v6 v7 wr=>∃(f src i:Nat) (hid:Option Nat) (done:List Tok) (lv:Value) (xs:List Value),v6=.int .i64 (src:Int)∧Hid (gS s f src i hid done=R)∧i≤s.length∧s.length<i+f∧src≤i∧done.length≤3*i∧Hid (LK d wr p s i (Gu hid) lv done xs)) (fun _ _ wr=>s.length-j4 wr p)
 case atStart=>exact⟨s.length+1,0,0,none,[],.slice none 0 0,[],rfl,be,by omega,by omega,by omega,by simp,a4⟩
 case round=>
  obtain⟨f,src,i,hid,done,lv,xs,rfl,a5,hi,hf,am,bn,N⟩:=hrel;obtain⟨f,rfl⟩:∃f',f=f'+1:=⟨f-1,by omega⟩;have an:=ad (NS a5.out);have al:=ad N.out.box.at_;obtain⟨c0,I,-,J,Y,-,-⟩:=N.out.box.lc;have i0:(0:Int)≤(i:Int):=by omega
  clear a5;by_cases af:i<s.length
  ·have n:=ad (an.out.1 af);have X:=ad (pS (s:=s) (hid:=hid.isSome) af);have L:=ad (fun h0=>mH (s:=s) (hid:=hid) af h0);have F:=ad (NM hid.isSome (h:=Gu hid) (by cases hid with|none=>(intro h;cases h)|some x=>(intro _;show(0:Int)≤(x:Int);omega)) (by cases hid with|none=>(intro _;decide)|some x=>(intro h;cases h)) N.out.box af M);have i1:(i:Int)<(s.length:Int):=by omega
   have i2:(i:Int)+1≤1000001:=by omega
   obtain⟨k,hk⟩:∃k,dw (s.drop i) hid.isSome=k:=⟨_,rfl⟩;rw[hk] at n X L F;have ai:=ad hk;clear hk an;have E:k≤4:=X.out.2.2.2.2;have bx:=Gv s src i;obtain rfl|rfl|rfl|rfl|rfl:k=0∨k=1∨k=2∨k=3∨k=4:=by omega
   ·have O:=ad (n.out.1 rfl);have r:=ad (show Calls Tryz.prog 36 #[.pointer (some ⟨p,0,none⟩)] wr (cN wr .nilFunc) from F.out);clear F n L X ai c0 J Y;go_wp2_with fail;refine r.out.mono ?_;rintro e Q⟨rfl,t⟩;have a:=ad (N.out.next t);clear t r I;obtain⟨-,I,-,-,Y,-,-⟩:=a.out.box.lc;have HE:=ad (a.out.box.iD (i+1));rw[show((i+1:Nat):Int)=(i:Int)+1 by omega] at HE;have u:=ad (a.out.aN ((ak.refl p Q).set (j:=1) (v:=.int .i64 ((i:Int)+1))) HE.out);go_wp2_with fail
    go_roundw
    case rel=>exact⟨f,src,i+1,hid,done,lv,xs,rfl,O,by omega,by omega,by omega,by omega,u⟩
    case measure=>(show s.length-j4 _ p<s.length-j4 wr p;rw[u.out.box.at_,al.out];omega)
   ·skip
    have r:=ad (show Calls Tryz.prog 36 #[.pointer (some ⟨p,0,none⟩)] wr (cN wr (.func (.func 68) #[.pointer (some ⟨p,0,none⟩)] #[])) from F.out);have m:=ad (n.out.2 (by decide));have D:=ad (L.out (by decide));clear F n L ai c0 J Y;go_wp2_with fail;refine r.out.mono ?_;rintro e Q⟨rfl,t⟩;have a:=ad (N.out.next t);clear t r I;have H:=ad (oO a.out src am hi M (by omega));go_wp2_with fail;refine H.out.mono ?_;rintro e w3⟨rfl,aU,a0,K,-⟩;have u:=ad K;clear K H a;have y:=ad (NL HG.out u.out (X.out.1 (by trivial)) M (by rw[bB];omega));obtain⟨T,B⟩:∃T,dB s i=T:=⟨_,rfl⟩;rw[B] at y;cases T with
    |bad q c=>obtain rfl:=m.out.1 q c (by show(match dB s i with|.bad p e=>Lx.bad p e|.aq l j=>.aq (l,hid) j)=_;rw[B]);clear B m D;go_wp2_with fail;refine(show Calls _ _ _ _ (mL d.heap.size d q c) from y.out).mono ?_;rintro e w4⟨rfl,S⟩;go_wp2_with fail;exact jI rfl (ao.out.next S ac.out) (C.out.trans (S.mono C.out.size)) (ag _) rfl rfl rfl
    |aq l j=>
     have Z:fq s 1 i hid=.aq (l,hid) j:=by show(match dB s i with|.bad p e=>Lx.bad p e|.aq l j=>.aq (l,hid) j)=_;rw[B]
     have O:=ad (m.out.2 _ _ Z);have bk:i<j∧j≤s.length:=by have:=D.out;rw[Z] at this;exact this
     have bl:=NR B;clear B m D Z;go_wp2_with fail;refine(show Calls _ _ _ _ (fun e w'=>e=.returned (.tuple #[])∧∃V W,LK d w' p s j (Gu hid) V (done++dc s src i++l) W) from y.out).mono ?_;rintro e w4⟨rfl,aa,ab,E⟩;have o:=ad E;clear E;obtain⟨-,I,-,-,-,-,-⟩:=o.out.box.lc;go_wp2_with fail
     go_roundw
     case rel=>exact⟨f,j,j,hid,_,aa,ab,rfl,O,by omega,by omega,ag _,by rw[bB,bB];omega,o⟩
     case measure=>(show s.length-j4 _ p<s.length-j4 wr p;rw[o.out.box.at_,al.out];omega)
   ·skip
    have r:=ad (show Calls Tryz.prog 36 #[.pointer (some ⟨p,0,none⟩)] wr (cN wr (.func (.func 69) #[.pointer (some ⟨p,0,none⟩)] #[])) from F.out);have m:=ad (n.out.2 (by decide));have D:=ad (L.out (by decide));clear F n L ai c0 J Y;go_wp2_with fail;refine r.out.mono ?_;rintro e Q⟨rfl,t⟩;have a:=ad (N.out.next t);clear t r I;have H:=ad (oO a.out src am hi M (by omega));go_wp2_with fail;refine H.out.mono ?_;rintro e w3⟨rfl,aU,a0,K,-⟩;have u:=ad K;clear K H a;have y:=ad (KO HG.out u.out (X.out.2.1 (by trivial)) M (by rw[bB];omega));obtain⟨T,B⟩:∃T,de s i=T:=⟨_,rfl⟩;rw[B] at y;cases T with
    |bad q c=>obtain rfl:=m.out.1 q c (by show(match de s i with|.bad p e=>Lx.bad p e|.aq l j=>.aq (l,hid) j)=_;rw[B]);clear B m D;go_wp2_with fail;refine(show Calls _ _ _ _ (mL d.heap.size d q c) from y.out).mono ?_;rintro e w4⟨rfl,S⟩;go_wp2_with fail;exact jI rfl (ao.out.next S ac.out) (C.out.trans (S.mono C.out.size)) (ag _) rfl rfl rfl
    |aq l j=>
     have Z:fq s 2 i hid=.aq (l,hid) j:=by show(match de s i with|.bad p e=>Lx.bad p e|.aq l j=>.aq (l,hid) j)=_;rw[B]
     have O:=ad (m.out.2 _ _ Z);have bk:i<j∧j≤s.length:=by have:=D.out;rw[Z] at this;exact this
     have bl:=KP B;clear B m D Z;go_wp2_with fail;refine(show Calls _ _ _ _ (fun e w'=>e=.returned (.tuple #[])∧∃V W,LK d w' p s j (Gu hid) V (done++dc s src i++l) W) from y.out).mono ?_;rintro e w4⟨rfl,aa,ab,E⟩;have o:=ad E;clear E;obtain⟨-,I,-,-,-,-,-⟩:=o.out.box.lc;go_wp2_with fail
     go_roundw
     case rel=>exact⟨f,j,j,hid,_,aa,ab,rfl,O,by omega,by omega,ag _,by rw[bB,bB];omega,o⟩
     case measure=>(show s.length-j4 _ p<s.length-j4 wr p;rw[o.out.box.at_,al.out];omega)
   ·skip
    have r:=ad (show Calls Tryz.prog 36 #[.pointer (some ⟨p,0,none⟩)] wr (cN wr (.func (.func 71) #[.pointer (some ⟨p,0,none⟩)] #[])) from F.out);have m:=ad (n.out.2 (by decide));have D:=ad (L.out (by decide));clear F n L ai c0 J Y;go_wp2_with fail;refine r.out.mono ?_;rintro e Q⟨rfl,t⟩;have a:=ad (N.out.next t);clear t r I;have H:=ad (oO a.out src am hi M (by omega));go_wp2_with fail;refine H.out.mono ?_;rintro e w3⟨rfl,aU,a0,K,-⟩;have u:=ad K;clear K H a;cases hid with
    |some x=>obtain rfl:=m.out.1 i 13 rfl;have y:=ad (DD u.out (show(0:Int)≤(x:Int) by omega));clear m D;go_wp2_with fail;refine y.out.mono ?_;rintro e w4⟨rfl,bi⟩;have S:=u.out.up.trans (bi.mono u.out.up.size);go_wp2_with fail;exact jI rfl (ao.out.next S ac.out) (C.out.trans (S.mono C.out.size)) (ag _) rfl rfl rfl
    |none=>
     have O:=ad (m.out.2 _ _ (show fq s 3 i none=.aq ([cS s 5 [] [] i (i+8)],some i) (i+8) from rfl));have ay:=X.out.2.2.1 (by trivial);have y:=ad (NI u.out ay M (by rw[bB];omega));clear m D;go_wp2_with fail;refine(show Calls _ _ _ _ (fun e w'=>e=.returned (.tuple #[])∧∃V W,LK d w' p s (i+8) (Gu (some i)) V (done++dc s src i++[cS s 5 [] [] i (i+8)]) W) from y.out).mono ?_;rintro e w4⟨rfl,aa,ab,E⟩;have o:=ad E;clear E;obtain⟨-,I,-,-,-,-,-⟩:=o.out.box.lc;go_wp2_with fail
     go_roundw
     case rel=>exact⟨f,i+8,i+8,some i,_,aa,ab,by go_num,O,by omega,by omega,ag _,by rw[bB,bB];simp;omega,o⟩
     case measure=>(show s.length-j4 _ p<s.length-j4 wr p;rw[o.out.box.at_,al.out];omega)
   ·skip
    have r:=ad (show Calls Tryz.prog 36 #[.pointer (some ⟨p,0,none⟩)] wr (cN wr (.func (.func 72) #[.pointer (some ⟨p,0,none⟩)] #[])) from F.out);have m:=ad (n.out.2 (by decide));have D:=ad (L.out (by decide));clear F n L ai c0 J Y;go_wp2_with fail;refine r.out.mono ?_;rintro e Q⟨rfl,t⟩;have a:=ad (N.out.next t);clear t r I;have H:=ad (oO a.out src am hi M (by omega));go_wp2_with fail;refine H.out.mono ?_;rintro e w3⟨rfl,aU,a0,K,-⟩;have u:=ad K;clear K H a;have O:=ad (m.out.2 _ _ (show fq s 4 i hid=.aq ([cS s 6 [] [] i (i+3)],none) (i+3) from rfl));have ay:=X.out.2.2.2.1 (by trivial);have y:=ad (NH u.out ay M (by rw[bB];omega));clear m D;go_wp2_with fail;refine(show Calls _ _ _ _ (fun e w'=>e=.returned (.tuple #[])∧∃V W,LK d w' p s (i+3) (Gu none) V (done++dc s src i++[cS s 6 [] [] i (i+3)]) W) from y.out).mono ?_;rintro e w4⟨rfl,aa,ab,E⟩;have o:=ad E;clear E;obtain⟨-,I,-,-,-,-,-⟩:=o.out.box.lc;go_wp2_with fail
    go_roundw
    case rel=>exact⟨f,i+3,i+3,none,_,aa,ab,by go_num,O,by omega,by omega,ag _,by rw[bB,bB];simp;omega,o⟩
    case measure=>(show s.length-j4 _ p<s.length-j4 wr p;rw[o.out.box.at_,al.out];omega)
  ·have bp:i=s.length:=by omega
   have n:=ad (an.out.2 af);have i1:¬(i:Int)<(s.length:Int):=by omega
   have HC:=ad (oO N.out src am hi M (by omega));clear an af;go_wp2_with fail;refine HC.out.mono ?_;rintro e Q⟨rfl,V,W,a9,-⟩;have a:=ad a9;clear a9 HC c0 I J Y;obtain⟨-,-,c2,J,-,-,-⟩:=a.out.box.lc;have G:=ad (ao.out.next a.out.up ac.out);cases hid with
   |some g=>
    obtain rfl:=n.out.1 g rfl;have g0:(0:Int)≤(g:Int):=by omega
    have bg:Q.cell? ⟨p,3,none⟩=some (.int .i64 (g:Int)):=J;clear J n;go_wp2_with fail;refine(fE g 14 Q).mono ?_;rintro e w3⟨rfl,a8⟩;go_wp2_with fail;exact jI (place:=g) rfl (G.out.next a8 (ej ac.out a.out.up.size)) (C.out.trans ((a.out.up.trans (a8.mono a.out.up.size)).mono C.out.size)) (ag _) rfl rfl rfl
   |none=>obtain rfl:=n.out.2 rfl;have bg:Q.cell? ⟨p,3,none⟩=some (.int .i64 (-1)):=J;clear J n;obtain⟨ta,tn,tc,rfl⟩:=a.out.shape;have a6:=ad (G.out.lay (.slice ta tn tc) 0 0);have a7:=ad (G.out.Aq (.slice ta tn tc) 0 0);have bm:=G.out.lt;have d2:=aj 0 G.out.r2;have d3:=aj 0 G.out.r3;have d4:=aj 0 G.out.r4;have e2:=aF _ _ 0 _ _ G.out.r2;have e3:=aF _ _ 0 _ _ G.out.r3;have e4:=aF _ _ 0 _ _ G.out.r4;go_wp2_with fail;have bv:=a6.out.lt;exact xp a6.out (C.out.trans ((a.out.up.mono C.out.size).trans a7.out)) ((NP (A:=fun b=>d.heap.size≤b) a.out.own (a.out.row.map fun l v h=>h.cO (ag _) fun b h1 _=>⟨h1.1,rfl⟩) (fun z hz=>hz)).cO a7.out.size (fun b hb _=>⟨bP C.out.size hb,G.out.NQ _ _ _ b (ej ac.out hb)⟩)) rfl rfl rfl
