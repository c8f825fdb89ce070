/- Walks of the program's variables: what needs no loop over pieces. Walks of the program's variables: choose, agent, nought. The walk of the program's nought. -/
import Derived.Test.YtogchgjfialleaaGreatDoorKae
set_option linter.unusedVariables false
set_option maxRecDepth 100000
set_option maxHeartbeats 800000
namespace Go.Proofs.YtogchgjfialleaaGreatDoor
open Go.RowKit
theorem zm(h t key:ByteArray)(a:Option Addr)(n c:Nat)(w:World):
 Calls Tryz.prog 203 #[.agg #[.string h,.string t,.slice a n c],.string key] w (cN w (.tuple #[.string ⟨#[]⟩,.bool false])):=by
 go_enter Tryz.func203,Tryz.ntmps203;go_wp2;go_ret2;exact⟨rfl,(Below.refl _ _).alloc (ag _) _⟩
theorem pO(h t name:ByteArray)(a:Option Addr)(n c b:Nat)(fs:List dQ)(w:World)(hF:aZ w (.slice a n c) fs)(k:rX fs)(m:name.size≤140737488351232)
 (d:w.cell? ⟨b,0,none⟩=some (.string name)):
 Calls Tryz.prog 239 #[.agg #[.string h,.string t,.slice a n c],.pointer (some ⟨b,0,none⟩)] w (cN w (.tuple #[.string ⟨(jz fs name.data.toList).1.toArray⟩,.bool (jz fs name.data.toList).2])):=by
 have l:=aV d;have o:(w.alloc (.cells #[.string h,.string t,.slice a n c] 47)).cell? ⟨b,0,none⟩=some (.string name):=
  (((Below.refl w.heap.size w).alloc (ag _) _).cell (p:=⟨b,0,none⟩) l).trans d
 go_enter Tryz.func239,Tryz.ntmps239;go_wp2_with fail;refine(rA fs _ name _ (hF.below ((Below.refl _ _).alloc (ag _) _)) k m).mono ?_;rintro e q⟨rfl,i⟩;have j:=eG i;clear i;go_wp2;go_ret2;exact⟨rfl,j⟩
theorem sI(h t:ByteArray)(a:Option Addr)(n c:Nat)(fs:List dQ)(w:World)(hF:aZ w (.slice a n c) fs)(j:rX fs):
 Calls Tryz.prog 206 #[.agg #[.string h,.string t,.slice a n c]] w (cN w (.tuple #[.string ⟨(fe fs).1.toArray⟩,.bool (fe fs).2])):=by
 have m:=j.values bA;have l:=Lib.hid (show fe fs=(Lib.join (values fs bA) [59,32],decide (0<(values fs bA).length)) from rfl);go_enter Tryz.func206,Tryz.ntmps206;go_wp2_with fail;refine(qM fs _ ⟨#[99,111,111,107,105,101]⟩ _ (hF.below ((Below.refl _ _).alloc (ag _) _)) j (by decide)).mono ?_;rintro e q⟨u,rfl,b,d⟩;have i:=eG d;clear d;have k:(⟨#[99,111,111,107,105,101]⟩:ByteArray).data.toList=bA:=rfl;rw[k] at b;clear k;have o:=cg.wO b;obtain⟨a,c,rfl⟩:=aX b;go_wp2_with fail;refine(Ec _ _ ⟨#[59,32]⟩ _ o m (by decide)).mono ?_;rintro e r⟨rfl,p⟩;go_wp2_with fail;go_ret2;rw[l.out];exact⟨by simp,i.trans (p.mono i.size)⟩
theorem xK(h t:ByteArray)(a:Option Addr)(n c:Nat)(w:World)(i:Good w)(k:t.size≤100000):
 Calls Tryz.prog 208 #[.agg #[.string h,.string t,.slice a n c]] w (cN w (.tuple #[.string ⟨(past 63 t.data.toList).toArray⟩,.bool (hasB 63 t.data.toList)])):=by
 have j:=i.next ((Below.refl w.heap.size w).alloc (ag _) (.cells #[.string h,.string t,.slice a n c] 47));go_enter Tryz.func208,Tryz.ntmps208;go_wp2_with fail;refine(fI t 63 _ j (by omega)).mono ?_;rintro e l⟨rfl,b⟩;have d:=eG b;clear b;go_wp2;go_ret2;exact⟨rfl,d⟩
theorem yv(s:ByteArray)(w:World)(m:s.size≤140737488351232):
 Calls Tryz.prog 225 #[.string s] w (cN w (.bool (fJ s.data.toList))):=by
 have c:=Lib.hid (R8 s.data.toList);rcases a:s.toList.isEmpty with _|_
 ·have l:(!s.toList.isEmpty)=true:=by rw[a];rfl
  have b:=Lib.hid (show(s.data.toList !=[])=true by rw[Lib.toList_data] at a;simpa using a);by_cases i:(s.size:Int)≤64
  ·have k:decide ((s.size:Int)≤64)=true:=by simpa using i
   have d:=Lib.hid (show decide (s.data.toList.length≤64)=true by rw[bj,eM];omega);go_enter Tryz.func225,Tryz.ntmps225;go_wp2_with fail;refine(fw s ⟨rE.toArray⟩ _ (by decide) (ascii_of_all (by decide))).mono ?_;rintro e n⟨rfl,j⟩;have h:(⟨rE.toArray⟩:ByteArray).data.toList=rE:=rfl;rw[h];clear h;go_wp2;go_ret;exact⟨cq (by rw[c.out,b.out,d.out,gf];simp),j⟩
  ·have k:decide ((s.size:Int)≤64)=false:=by simpa using i
   have d:=Lib.hid (show decide (s.data.toList.length≤64)=false by rw[bj,wJ];omega);go_enter Tryz.func225,Tryz.ntmps225;go_wp2;go_ret;exact⟨cq (by rw[c.out,b.out,d.out];rfl),Below.refl _ _⟩
 ·have l:(!s.toList.isEmpty)=false:=by rw[a];rfl
  have b:=Lib.hid (show(s.data.toList !=[])=false by rw[Lib.toList_data] at a;simpa using a);go_enter Tryz.func225,Tryz.ntmps225;go_wp2;go_ret;exact⟨cq (by rw[c.out,b.out];rfl),Below.refl _ _⟩
theorem FX(r q:Bs)(h:r.length-q.length=lead vd r):((⟨r.toArray⟩:ByteArray).extract 0 (r.length-q.length)).data.toList=r.takeWhile vd:=by rw[Lib.extract_data,h,←cU];simp
theorem FY(r q:Bs)(h:r.length-q.length=lead vd r)(a:q.length≤r.length):decide ((0:Int)<(r.length:Int)-(q.length:Int))=decide (0<lead vd r):=by rw[gf];simp only[eM];omega
theorem CP(s:ByteArray)(w:World)(p:Good w)(z:s.size≤100002000):
 Calls Tryz.prog 242 #[.string s] w (cN w (.tuple #[.string ⟨(Em s.data.toList).1.toArray⟩,.bool (Em s.data.toList).2])):=by
 have k:=Lib.hid (show Em s.data.toList=((s.data.toList.drop (kq s.data.toList)).takeWhile vd,decide (0<lead vd (s.data.toList.drop (kq s.data.toList)))) from rfl);go_enter Tryz.func242,Tryz.ntmps242;go_wp2_with fail;refine(JK s ⟨#[77,83,73,69,32]⟩ _ p (by omega)).mono ?_;rintro e B⟨rfl,c⟩;have a:(⟨#[77,83,73,69,32]⟩:ByteArray).data.toList=iq:=rfl;rw[a];clear a;rcases b:Lib.contains s.data.toList iq with _|_
 ·have j:=Lw s.data.toList b;rw[j] at k;rw[AR _ _ b];have t:=ij 47 s.data.toList;rw[bj] at t;clear b j;go_wp2_with fail;refine(fI s 47 _ (p.next c) (by omega)).mono ?_;rintro e C⟨rfl,o⟩;have i:=c.trans (o.mono c.size);clear c o;generalize past 47 s.data.toList=r at*;have m:=OP r;have d:=Lib.hid (Eo r);go_wp2_with fail;refine(fw ⟨r.toArray⟩ ⟨j7.toArray⟩ _ (by decide) (ascii_of_all (by decide))).mono ?_;rintro e u⟨rfl,l⟩;have a:(⟨r.toArray⟩:ByteArray).data.toList=r:=rfl;have h:(⟨j7.toArray⟩:ByteArray).data.toList=j7:=rfl;rw[a,h];clear a h;generalize Lib.trimLeftS r j7=q at*;go_wp2;go_ret2;rw[k.out];exact⟨by have:=MN (FX r q d.out) (FY r q d.out m);rw[←this];simp,i.trans (l.mono i.size)⟩
 ·have j:=OO s.data.toList b;have y:=En s.data.toList iq b;rw[j] at k;have hcut:=Cf _ _ b;have x:(Lib.cut s.data.toList iq).2.1.length≤s.size:=by rw[hcut];simp only[bK];rw[bj];omega
  have n:(Lib.cut s.data.toList iq).2.2=true:=by rw[hcut]
  rw[n];generalize(Lib.cut s.data.toList iq).1=A at*;generalize(Lib.cut s.data.toList iq).2.1=r at*;have i:=c;clear b j hcut n c;have m:=OP r;have d:=Lib.hid (Eo r);go_wp2_with fail;refine(fw ⟨r.toArray⟩ ⟨j7.toArray⟩ _ (by decide) (ascii_of_all (by decide))).mono ?_;rintro e u⟨rfl,l⟩;have a:(⟨r.toArray⟩:ByteArray).data.toList=r:=rfl;have h:(⟨j7.toArray⟩:ByteArray).data.toList=j7:=rfl;rw[a,h];clear a h;generalize Lib.trimLeftS r j7=q at*;go_wp2;go_ret2;rw[k.out];exact⟨by have:=MN (FX r q d.out) (FY r q d.out m);rw[←this];simp,i.trans (l.mono i.size)⟩
end Go.Proofs.YtogchgjfialleaaGreatDoor
namespace Go.Proofs.YtogchgjfialleaaGreatDoor
open Go.RowKit
def eL(s other:Bs):List Bs→Bs
 |a::b::r=>bif Lib.contains s b then a else eL s other r
 |_=>other
theorem FZ(s other:Bs)(ls:List Bs)(k:Nat)(a b:Bs)(d:ls[2*k]? =some a)(i:ls[2*k+1]? =some b):
 eL s other (ls.drop (2*k))=bif Lib.contains s b then a else eL s other (ls.drop (2*(k+1))):=by
 have c:ls.drop (2*k)=a::b::ls.drop (2*(k+1)):=by obtain⟨e,h⟩:=cH.1 d;obtain⟨j,l⟩:=cH.1 i;rw[lG e,lG j,h,l];rfl
 rw[c];rfl
theorem I7(s other:Bs)(ls:List Bs)(k:Nat)(h:ls.length≤2*k):eL s other (ls.drop (2*k))=other:=by rw[qA h];rfl
theorem pP(s other:ByteArray)(b o c m:Nat)(ls:List Bs)(w:World)(B:Good w)(M:s.size≤100002000)(C:ls.length=2*m)(K:m≤100)(D:ls.length≤c)(I:b<w.heap.size)(q:qU w b o ls):
 Calls Tryz.prog 241 #[.string s,.string other,.slice (some ⟨b,o,none⟩) ls.length c] w fun e w'=>e=.returned (.string ⟨(eL s.data.toList other.data.toList ls).toArray⟩)∧w=w':=by
 have J:2*m≤ls.length:=by omega
 have L:ls.length≤2*m:=by omega
 clear C;go_enter Tryz.func241,Tryz.ntmps241;go_wp2
 go_loop [7] (fun i=>∃k:Nat,k≤m∧i=.int .i64 (2*k:Nat)∧Hid (eL s.data.toList other.data.toList (ls.drop (2*k))=eL s.data.toList other.data.toList ls)) (fun i=>2*m-(intOf i).toNat)
 case atStart=>exact⟨0,aH _,rfl,Lib.hid rfl⟩
 case round=>
  obtain⟨k,F,rfl,h⟩:=hrel;by_cases H:k<m
  ·obtain⟨l,n⟩:∃l,ls[2*k]? =some l:=⟨ls[2*k]'(by omega),cA _⟩
   obtain⟨t,p⟩:∃t,ls[2*k+1]? =some t:=⟨ls[2*k+1]'(by omega),cA _⟩
   have z:=q _ l n;have A:=q _ t p;have r:=Lib.hid (FZ s.data.toList other.data.toList ls k l t n p);clear n p;obtain⟨j,a⟩:∃j,j=2*k:=⟨_,rfl⟩;rw[←a] at z A;have x:=Lib.hid a;rw[←a];have E:j+2≤ls.length:=by omega
   clear a;go_wp2_with fail;refine(nn s ⟨t.toArray⟩ _ B (by omega)).mono ?_;rintro e N⟨rfl,rfl⟩;have u:(⟨t.toArray⟩:ByteArray).data.toList=t:=rfl;rw[u];clear u;rcases hq:Lib.contains s.data.toList t with _|_
   ·have d:=Lib.hid hq;go_wp2
    go_round
    case rel=>refine⟨k+1,by omega,by rw[x.out];go_num,Lib.hid ?_⟩;have:=r.out;rw[d.out,h.out] at this;exact this.symm
    case measure=>(simp[intOf]<;>omega)
   ·have d:=Lib.hid hq;go_wp2;go_ret;have:=r.out;rw[d.out,h.out] at this;rw[this];exact⟨rfl,rfl⟩
  ·have y:=Lib.hid (I7 s.data.toList other.data.toList ls k (by omega));have G:ls.length≤2*k:=by omega
   go_wp2;go_ret;rw[←h.out,y.out];exact⟨rfl,rfl⟩
theorem rW(w:World)(a:Array Value)(ls:List Bs)(h:a=(cM ls).toArray):qU (w.alloc (.cells a 9)) w.heap.size 0 ls:=fun j l b=>by subst h;rw[dH];exact bH w _ _ j _ (by simp[cM,b])
theorem pQ(s o:Bs):eL s o [[77,83,73,69],iq]=bif Lib.contains s iq then[77,83,73,69] else o:=rfl
theorem Mz(s:Bs):eL s [79,84,72,69,82] [[87,73,78],mV,[77,65,67],Lq,[85,78,73,88],Lr,[85,78,73,88],uk]=Us s:=by unfold Us eL eL eL eL eL;cases Lib.contains s mV<;>cases Lib.contains s Lq<;>cases Lib.contains s Lr<;>cases Lib.contains s uk<;>rfl
theorem I8(h t key:ByteArray)(a:Option Addr)(n c:Nat)(fs:List dQ)(w:World)(G:Good w)(hF:aZ w (.slice a n c) fs)(A:rX fs):
 Calls Tryz.prog 205 #[.agg #[.string h,.string t,.slice a n c],.string key] w (cN w (.tuple #[.string ⟨(Ls fs key.data.toList).1.toArray⟩,.bool (Ls fs key.data.toList).2])):=by
 have F:=Ed A agentName;have r:=Lib.hid (show Ls fs key.data.toList=bif(jz fs agentName).2 then gX (jz fs agentName).1 key.data.toList else([],false) from rfl);go_enter Tryz.func205,Tryz.ntmps205;go_wp2_with fail;refine(rA fs _ ⟨#[117,115,101,114,45,97,103,101,110,116]⟩ _ (hF.below ((Below.refl _ _).alloc (ag _) _)) A (by decide)).mono ?_;rintro e i⟨rfl,z⟩;have d:=eG z;have x:=G.next d;clear z;have B:(⟨#[117,115,101,114,45,97,103,101,110,116]⟩:ByteArray).data.toList=agentName:=rfl;rw[B];clear B;generalize(jz fs agentName).1=s at*;generalize(jz fs agentName).2=H at*;have o:=Ty s 100002000 F;rcases H with _|_
 ·go_wp2;go_ret2;rw[r.out];exact⟨rfl,d⟩
 ·have k:=Lib.hid (show Ls fs key.data.toList=gX s key.data.toList from r.out);clear r;rcases p:(key.toList==[98,114,111,119,115,101,114]) with _|_
  ·rcases y:(key.toList==[118,101,114,115,105,111,110]) with _|_
   ·rcases D:(key.toList==[111,115]) with _|_
    ·have j:=Lib.hid (k.out.trans (Ce s key.data.toList (by rw[←Lib.toList_data];exact p) (by rw[←Lib.toList_data];exact y) (by rw[←Lib.toList_data];exact D)));go_wp2;go_ret2;rw[j.out];exact⟨rfl,d⟩
    ·have j:=Lib.hid (k.out.trans (Lt s key.data.toList (by rw[←Lib.toList_data];exact p) (by rw[←Lib.toList_data];exact y) (by rw[←Lib.toList_data];exact D)));clear k;have l:=(Below.refl i.heap.size i).alloc (ag _) (.cells #[.string ⟨#[87,73,78]⟩,.string ⟨#[87,105,110,100,111,119,115]⟩,.string ⟨#[77,65,67]⟩,.string ⟨#[77,97,99]⟩,.string ⟨#[85,78,73,88]⟩,.string ⟨#[88,49,49]⟩,.string ⟨#[85,78,73,88]⟩,.string ⟨#[76,105,110,117,120]⟩] 9);have m:=x.next l;go_wp2_with fail;refine(pP ⟨s.toArray⟩ ⟨#[79,84,72,69,82]⟩ i.heap.size 0 8 4 [[87,73,78],mV,[77,65,67],Lq,[85,78,73,88],Lr,[85,78,73,88],uk] _ m o rfl (by decide) (by decide) (by simp) (rW i _ _ rfl)).mono ?_;rintro e q⟨rfl,rfl⟩;have b:eL (⟨s.toArray⟩:ByteArray).data.toList (⟨#[79,84,72,69,82]⟩:ByteArray).data.toList [[87,73,78],mV,[77,65,67],Lq,[85,78,73,88],Lr,[85,78,73,88],uk]=Us s:=Mz s;rw[b];clear b;go_wp2;go_ret2;rw[j.out];exact⟨rfl,d.trans (l.mono d.size)⟩
   ·have j:=Lib.hid (k.out.trans (xP s key.data.toList (by rw[←Lib.toList_data];exact p) (by rw[←Lib.toList_data];exact y)));clear k;go_wp2_with fail;refine(CP ⟨s.toArray⟩ _ x o).mono ?_;rintro e q⟨rfl,E⟩;go_wp2;go_ret2;rw[j.out];exact⟨rfl,d.trans (E.mono d.size)⟩
  ·have j:=Lib.hid (k.out.trans (xO s key.data.toList (by rw[←Lib.toList_data];exact p)));clear k;have l:=(Below.refl i.heap.size i).alloc (ag _) (.cells #[.string ⟨#[77,83,73,69]⟩,.string ⟨#[77,83,73,69,32]⟩] 9);have m:=x.next l;go_wp2_with fail;refine(cj ⟨s.toArray⟩ ⟨#[77,111,122,105,108,108,97,47]⟩ _).mono ?_;rintro e q⟨rfl,rfl⟩;have b:Lib.hasPrefix (⟨s.toArray⟩:ByteArray).data.toList (⟨#[77,111,122,105,108,108,97,47]⟩:ByteArray).data.toList=Lib.hasPrefix s sL:=rfl;rw[b];clear b;rcases C:Lib.hasPrefix s sL with _|_
   ·have u:=Lib.hid C;go_wp2_with fail;refine(pP ⟨s.toArray⟩ ⟨#[79,84,72,69,82]⟩ i.heap.size 0 2 1 [[77,83,73,69],iq] _ m o rfl (by decide) (by decide) (by simp) (rW i _ _ rfl)).mono ?_;rintro e q⟨rfl,rfl⟩;have b:eL (⟨s.toArray⟩:ByteArray).data.toList (⟨#[79,84,72,69,82]⟩:ByteArray).data.toList [[77,83,73,69],iq]=jS s:=by rw[pQ];unfold jS;rw[u.out];rfl
    rw[b];clear b;go_wp2;go_ret2;rw[j.out];exact⟨rfl,d.trans (l.mono d.size)⟩
   ·have u:=Lib.hid C;go_wp2_with fail;refine(pP ⟨s.toArray⟩ ⟨#[77,79,90,73,76,76,65]⟩ i.heap.size 0 2 1 [[77,83,73,69],iq] _ m o rfl (by decide) (by decide) (by simp) (rW i _ _ rfl)).mono ?_;rintro e q⟨rfl,rfl⟩;have b:eL (⟨s.toArray⟩:ByteArray).data.toList (⟨#[77,79,90,73,76,76,65]⟩:ByteArray).data.toList [[77,83,73,69],iq]=jS s:=by rw[pQ];unfold jS;rw[u.out];rfl
    rw[b];clear b;go_wp2;go_ret2;rw[j.out];exact⟨rfl,d.trans (l.mono d.size)⟩
end Go.Proofs.YtogchgjfialleaaGreatDoor
namespace Go.Proofs.YtogchgjfialleaaGreatDoor
open Go.RowKit
theorem U8(ls:List Bs)(p:Bs→Bool):(ls.take 1).tail.any p=false:=by cases ls<;>rfl
theorem Td(ls:List Bs)(p:Bs→Bool)(k:Nat)(l:Bs)(d:1≤k)(a:ls[k]? =some l):(ls.take (k+1)).tail.any p=((ls.take k).tail.any p||p l):=by
 rw[uj ls k l a];have b:ls.take k≠[]:=by intro h;have:=congrArg List.length h;rw[gu,lH] at this;have c:=(cH.1 a).1;omega
 rw[List.tail_append_of_ne_nil b,List.any_append];simp
theorem tD(ls:List Bs)(p:Bs→Bool)(k:Nat)(l:Bs)(b:ls[k]? =some l)(h:(ls.take k).tail.any p=false)(c:0<k→p l=false):(ls.take (k+1)).tail.any p=false:=by
 by_cases a:0<k
 ·rw[Td ls p k l a b,h,c a];rfl
 ·obtain rfl:k=0:=by omega
  exact U8 ls p
theorem F1(ls:List Bs)(p:Bs→Bool)(k:Nat)(l:Bs)(c:0<k)(a:ls[k]? =some l)(b:p l=true):ls.tail.any p=true:=by
 cases ls with
 |nil=>simp at a
 |cons x r=>
  cases k with
  |zero=>omega
  |succ k=>exact R7 (ls:=r) (k:=k) (by simpa using a) b
theorem U9(ls:List Bs)(p:Bs→Bool)(k:Nat)(h:(ls.take k).tail.any p=false)(a:ls.length≤k):ls.tail.any p=false:=by rw[oe a] at h;exact h
theorem QF(l:Bs):zero l=R9 (lower (trim l)):=(Ut _).symm
theorem Te(t:Bs)(h:Lib.hasPrefix t [113,61,48]=false):R9 t=false:=by unfold R9;rw[h];rfl
theorem Tf(t:Bs)(h:Lib.hasPrefix t [113,61,48]=true)(a:Lib.trimPrefix t [113,61,48]=[]):R9 t=true:=by unfold R9;rw[h,a];rfl
theorem QG(t:Bs)(x:UInt8)(r:Bs)(h:Lib.hasPrefix t [113,61,48]=true)(d:Lib.trimPrefix t [113,61,48]=x::r):
 R9 t=((((x.toNat:Int)==46)&&decide ((r.length:Int)+1≤4))&&(Lib.trimS r [48]==[])):=by
 unfold R9;rw[h,d];simp only[Bool.true_and,List.head?_cons,List.tail_cons];have a:((x::r:Bs)==[])=false:=rfl;have b:((some x:Option UInt8)==some 46)=((x.toNat:Int)==46):=by rw[gf];simp only[bZ,gR,Ei];have:(46:UInt8).toNat=46:=rfl;rw[this];omega
 have c:decide ((x::r).length≤4)=decide ((r.length:Int)+1≤4):=by rw[gf];simp only[eM,bF];omega
 rw[a,b,c,Bool.false_or]
theorem zo(t p:Bs):(Lib.trimPrefix t p).length≤t.length:=by
 unfold Lib.trimPrefix;split
 ·rw[bK];omega
 ·exact ag _
theorem QH(x:UInt8)(r:Bs)(n:Nat)(a:n=r.length+1):(⟨(x::r).toArray⟩:ByteArray).extract 1 n=⟨r.toArray⟩:=by refine dU ?_;rw[Lib.extract_data];subst a;simp
theorem vl(s:ByteArray)(w:World)(S:Good w)(hs:s.size≤100002000):
 Calls Tryz.prog 246 #[.string s] w (cN w (.bool ((pieces 59 s.data.toList).tail.any zero))):=by
 go_enter Tryz.func246,Tryz.ntmps246;go_wp2_with fail;refine(G2 s 59 _ S (by omega)).mono ?_;rintro e n⟨u,rfl,W,j⟩;have af:=S.next j;have ab:=Lib.hid (iO 59 s.size s.data.toList (by rw[bj];exact ag _));have ao:=l8 59 s.data.toList;rw[bj] at ao;have hS:=cg.wO W;have V:=gO 59 s.data.toList;clear W;generalize pieces 59 s.data.toList=ls at*;rcases hS with⟨a,c,rfl,A⟩|⟨b,o,c,rfl,hc,am,G⟩
 ·exact absurd A V
 ·have Z:qU n b o ls:=G;clear G V;go_wp2
  go_loopw [10] (fun i wr=>∃k:Nat,k≤ls.length∧i=.int .i64 k∧Hid ((ls.take k).tail.any zero=false)∧Below n.heap.size n wr) (fun i _=>ls.length-(intOf i).toNat)
  case atStart=>exact⟨0,aH _,rfl,Lib.hid rfl,Below.refl _ _⟩
  case round=>
   obtain⟨k,hk,rfl,y,D⟩:=hrel;have av:=af.next D;by_cases ai:k<ls.length
   ·obtain⟨l,H⟩:∃l,ls[k]? =some l:=⟨ls[k],cA ai⟩;have G:=(Z.below D am) k l H;have al:=ab.out l (eQ H);rw[bj] at al;have aU:=sJ l;have T:=jf (trim l);have aq:=Lib.hid T;have ay:(lower (trim l)).length≤100002000:=by omega
    have d:=Lib.hid H;clear H T;go_wp2_with fail;refine(mR ⟨l.toArray⟩ _ (Ty _ _ (by omega))).mono ?_;rintro e w2⟨rfl,M⟩;go_wp2_with fail;refine(nU ⟨(trim l).toArray⟩ _ (Ty _ _ (by omega))).mono ?_;rintro e w3⟨rfl,Q⟩;go_wp2_with fail;refine(il ⟨(lower (trim l)).toArray⟩ ⟨#[113,61,48]⟩ _).mono ?_;rintro e w4⟨rfl,rfl⟩;have B:(⟨(lower (trim l)).toArray⟩:ByteArray).data.toList=lower (trim l):=rfl;have C:(⟨#[113,61,48]⟩:ByteArray).data.toList=[113,61,48]:=rfl;rw[B,C];clear B C;have m:Below n.heap.size n w3:=D.trans ((M.trans (Q.mono M.size)).mono D.size);have an:=zo (lower (trim l)) [113,61,48];have p:=Lib.hid (QF l);clear M Q G;generalize lower (trim l)=t at*;rcases I:Lib.hasPrefix t [113,61,48] with _|_
    ·have Hp:=Lib.hid (Te t I);go_wp2;all_goals
      go_roundw
      case rel=>exact⟨k+1,by omega,by go_num,Lib.hid (tD _ _ k l d.out y.out (fun _=>p.out.trans Hp.out)),m⟩
      case measure=>(simp[intOf]<;>omega)
    ·have O:=Tf t I;have N:=fun x r=>QG t x r I;generalize Lib.trimPrefix t [113,61,48]=q at*;have K:=Lib.hid O;have J:=Lib.hid N;clear O N I;by_cases A:0<k
     ·cases q with
      |nil=>have aa:=Lib.hid (K.out rfl);clear K J;go_wp2;go_ret;exact⟨cq (F1 _ _ k l A d.out (p.out.trans aa.out)).symm,j.trans (m.mono j.size)⟩
      |cons x r=>
       have E:=Lib.hid (J.out x r rfl);clear K J;have aN:r.length+1≤100002000:=by simp only[bF] at an;omega
       have a0:∀h,(⟨(x::r).toArray⟩:ByteArray)[0]'h=x:=fun _=>rfl
       have a1:=QH x r (r.length+1) rfl;rcases Y:((x.toNat:Int)==46) with _|_
       ·have z:=Lib.hid Y;go_wp2
        go_roundw
        case rel=>exact⟨k+1,by omega,by go_num,Lib.hid (tD _ _ k l d.out y.out (fun _=>by rw[p.out,E.out,z.out];rfl)),m⟩
        case measure=>(simp[intOf]<;>omega)
       ·have z:=Lib.hid Y;by_cases X:(r.length:Int)+1≤4
        ·have F:=Lib.hid (bN X);go_wp2_with fail;refine(o9 ⟨r.toArray⟩ ⟨#[48]⟩ _ (Ty _ _ (by omega)) (by decide) (ascii_of_all (by decide))).mono ?_;rintro e w5⟨rfl,ac⟩;have B:(⟨r.toArray⟩:ByteArray).data.toList=r:=rfl;have C:(⟨#[48]⟩:ByteArray).data.toList=[48]:=rfl;rw[B,C];clear B C;have R:Below n.heap.size n w5:=m.trans (ac.mono m.size);rcases hq:(Lib.trimS r [48]==[]) with _|_
         ·have L:=Lib.hid hq;have ap:(Lib.trimS r [48]).isEmpty=false:=by simpa using hq
          clear hq;go_wp2
          go_roundw
          case rel=>exact⟨k+1,by omega,by go_num,Lib.hid (tD _ _ k l d.out y.out (fun _=>by rw[p.out,E.out,z.out,F.out,L.out];rfl)),R⟩
          case measure=>(simp[intOf]<;>omega)
         ·have L:=Lib.hid hq;have ap:(Lib.trimS r [48]).isEmpty=true:=by simpa using hq
          clear hq;go_wp2;go_ret;exact⟨cq (F1 _ _ k l A d.out (by rw[p.out,E.out,z.out,F.out,L.out];rfl)).symm,j.trans (R.mono j.size)⟩
        ·have F:=Lib.hid (cL X);go_wp2
         go_roundw
         case rel=>exact⟨k+1,by omega,by go_num,Lib.hid (tD _ _ k l d.out y.out (fun _=>by rw[p.out,E.out,z.out,F.out];rfl)),m⟩
         case measure=>(simp[intOf]<;>omega)
     ·go_wp2;all_goals
       go_roundw
       case rel=>exact⟨k+1,by omega,by go_num,Lib.hid (tD _ _ k l d.out y.out (fun h=>absurd h A)),m⟩
       case measure=>(simp[intOf]<;>omega)
   ·go_wp2;go_ret;exact⟨cq (U9 ls zero k y.out (by omega)).symm,j.trans (D.mono j.size)⟩
end Go.Proofs.YtogchgjfialleaaGreatDoor
