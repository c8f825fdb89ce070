/- Walks of the program's variables. -/
import Derived.Test.YtlemddnecmmfgaaGreatDoorJad
import Derived.RangeFuncRecord
import Derived.Laws.EntriesVeiled
set_option linter.unusedVariables false
set_option maxRecDepth 100000
set_option maxHeartbeats 800000
namespace Go.Proofs.YtlemddnecmmfgaaGreatDoor
open Go.RowKit
theorem zm(h t key:ByteArray)(a:Option Addr)(n c:Nat)(w:World):
 Calls Tryz.prog 213 #[.agg #[.string h,.string t,.slice a n c],.string key] w (cN w (.tuple #[.string ⟨#[]⟩,.bool false])):=by
 go_enter Tryz.func213,Tryz.ntmps213;go_wp2;go_ret2;exact⟨rfl,(Below.refl _ _).alloc (ag _) _⟩
theorem pO(h t name:ByteArray)(a:Option Addr)(n c b:Nat)(fs:List dQ)(w:World)(hF:aZ w (.slice a n c) fs)(k:rX fs)(o:name.size≤140737488351232)
 (d:w.cell? ⟨b,0,none⟩=some (.string name)):
 Calls Tryz.prog 245 #[.agg #[.string h,.string t,.slice a n c],.pointer (some ⟨b,0,none⟩)] w (cN w (.tuple #[.string ⟨(jz fs name.data.toList).1.toArray⟩,.bool (jz fs name.data.toList).2])):=by
 have l:=aV d;have q:(w.alloc (.cells #[.string h,.string t,.slice a n c] 47)).cell? ⟨b,0,none⟩=some (.string name):=
  (((Below.refl w.heap.size w).alloc (ag _) _).cell (p:=⟨b,0,none⟩) l).t d
 go_enter Tryz.func245,Tryz.ntmps245;go_wp2_with fail;refine(rA fs _ name _ (hF.below ((Below.refl _ _).alloc (ag _) _)) k o).m ?_;rintro e r⟨rfl,i⟩;have j:=eG i;clear i;go_wp2;go_ret2;exact⟨rfl,j⟩
theorem sI(h t:ByteArray)(a:Option Addr)(n c:Nat)(fs:List dQ)(w:World)(hF:aZ w (.slice a n c) fs)(j:rX fs):
 Calls Tryz.prog 216 #[.agg #[.string h,.string t,.slice a n c]] w (cN w (.tuple #[.string ⟨(fe fs).1.toArray⟩,.bool (fe fs).2])):=by
 have o:=j.values bA;have l:=Lib.hid (show fe fs=(Lib.join (values fs bA) [59,32],decide (0<(values fs bA).length)) from rfl);go_enter Tryz.func216,Tryz.ntmps216;go_wp2_with fail;refine(qM fs _ ⟨#[99,111,111,107,105,101]⟩ _ (hF.below ((Below.refl _ _).alloc (ag _) _)) j (by decide)).m ?_;rintro e r⟨u,rfl,b,d⟩;have i:=eG d;clear d;have k:(⟨#[99,111,111,107,105,101]⟩:ByteArray).data.toList=bA:=rfl;rw[k] at b;clear k;have p:=cg.wO b;obtain⟨a,c,rfl⟩:=aX b;go_wp2_with fail;refine(Ec _ _ ⟨#[59,32]⟩ _ p o (by decide)).m ?_;rintro e s⟨rfl,q⟩;go_wp2_with fail;go_ret2;rw[l.out];exact⟨by simp,i.t (q.m i.size)⟩
theorem xK(h t:ByteArray)(a:Option Addr)(n c:Nat)(w:World)(i:Good w)(k:t.size≤100000):
 Calls Tryz.prog 218 #[.agg #[.string h,.string t,.slice a n c]] w (cN w (.tuple #[.string ⟨(past 63 t.data.toList).toArray⟩,.bool (hasB 63 t.data.toList)])):=by
 have j:=i.next ((Below.refl w.heap.size w).alloc (ag _) (.cells #[.string h,.string t,.slice a n c] 47));go_enter Tryz.func218,Tryz.ntmps218;go_wp2_with fail;refine(fI t 63 _ j (by omega)).m ?_;rintro e l⟨rfl,b⟩;have d:=eG b;clear b;go_wp2;go_ret2;exact⟨rfl,d⟩
theorem yv(s:ByteArray)(w:World)(n:s.size≤140737488351232):
 Calls Tryz.prog 234 #[.string s] w (cN w (.bool (fJ s.data.toList))):=by
 have c:=Lib.hid (R8 s.data.toList);rcases a:s.toList.isEmpty with _|_
 ·have l:(!s.toList.isEmpty)=true:=by rw[a];rfl
  have b:=Lib.hid (show(s.data.toList !=[])=true by rw[Lib.toList_data] at a;simpa using a);by_cases i:(s.size:Int)≤64
  ·have k:decide ((s.size:Int)≤64)=true:=by simpa using i
   have d:=Lib.hid (show decide (s.data.toList.length≤64)=true by rw[bj,eM];omega);go_enter Tryz.func234,Tryz.ntmps234;go_wp2_with fail;refine(fw s ⟨rE.toArray⟩ _ (by decide) (ascii_of_all (by decide))).m ?_;rintro e o⟨rfl,j⟩;have h:(⟨rE.toArray⟩:ByteArray).data.toList=rE:=rfl;rw[h];clear h;go_wp2;go_ret;exact⟨cq (by rw[c.out,b.out,d.out,gf];simp),j⟩
  ·have k:decide ((s.size:Int)≤64)=false:=by simpa using i
   have d:=Lib.hid (show decide (s.data.toList.length≤64)=false by rw[bj,wJ];omega);go_enter Tryz.func234,Tryz.ntmps234;go_wp2;go_ret;exact⟨cq (by rw[c.out,b.out,d.out];rfl),Below.refl _ _⟩
 ·have l:(!s.toList.isEmpty)=false:=by rw[a];rfl
  have b:=Lib.hid (show(s.data.toList !=[])=false by rw[Lib.toList_data] at a;simpa using a);go_enter Tryz.func234,Tryz.ntmps234;go_wp2;go_ret;exact⟨cq (by rw[c.out,b.out];rfl),Below.refl _ _⟩
theorem FX(r q:Bs)(h:r.length-q.length=lead vd r):((⟨r.toArray⟩:ByteArray).extract 0 (r.length-q.length)).data.toList=r.takeWhile vd:=by rw[Lib.extract_data,h,←cU];simp
theorem FY(r q:Bs)(h:r.length-q.length=lead vd r)(a:q.length≤r.length):decide ((0:Int)<(r.length:Int)-(q.length:Int))=decide (0<lead vd r):=by rw[gf];simp only[eM];omega
theorem CP(s:ByteArray)(w:World)(u:Good w)(B:s.size≤100002000):
 Calls Tryz.prog 248 #[.string s] w (cN w (.tuple #[.string ⟨(Em s.data.toList).1.toArray⟩,.bool (Em s.data.toList).2])):=by
 have k:=Lib.hid (show Em s.data.toList=((s.data.toList.drop (kq s.data.toList)).takeWhile vd,decide (0<lead vd (s.data.toList.drop (kq s.data.toList)))) from rfl);go_enter Tryz.func248,Tryz.ntmps248;go_wp2_with fail;refine(JK s ⟨#[77,83,73,69,32]⟩ _ u (by omega)).m ?_;rintro e D⟨rfl,c⟩;have a:(⟨#[77,83,73,69,32]⟩:ByteArray).data.toList=iq:=rfl;rw[a];clear a;rcases b:Lib.contains s.data.toList iq with _|_
 ·have j:=Lw s.data.toList b;rw[j] at k;rw[AR _ _ b];have x:=ij 47 s.data.toList;rw[bj] at x;clear b j;go_wp2_with fail;refine(fI s 47 _ (u.next c) (by omega)).m ?_;rintro e E⟨rfl,p⟩;have i:=c.t (p.m c.size);clear c p;generalize past 47 s.data.toList=r at*;have n:=OP r;have d:=Lib.hid (Eo r);go_wp2_with fail;refine(fw ⟨r.toArray⟩ ⟨j7.toArray⟩ _ (by decide) (ascii_of_all (by decide))).m ?_;rintro e y⟨rfl,l⟩;have a:(⟨r.toArray⟩:ByteArray).data.toList=r:=rfl;have h:(⟨j7.toArray⟩:ByteArray).data.toList=j7:=rfl;rw[a,h];clear a h;generalize Lib.trimLeftS r j7=q at*;go_wp2;go_ret2;rw[k.out];exact⟨by have:=MN (FX r q d.out) (FY r q d.out n);rw[←this];simp,i.t (l.m i.size)⟩
 ·have j:=OO s.data.toList b;have A:=En s.data.toList iq b;rw[j] at k;have hcut:=Cf _ _ b;have z:(Lib.cut s.data.toList iq).2.1.length≤s.size:=by rw[hcut];simp only[bK];rw[bj];omega
  have o:(Lib.cut s.data.toList iq).2.2=true:=by rw[hcut]
  rw[o];generalize(Lib.cut s.data.toList iq).1=C at*;generalize(Lib.cut s.data.toList iq).2.1=r at*;have i:=c;clear b j hcut o c;have n:=OP r;have d:=Lib.hid (Eo r);go_wp2_with fail;refine(fw ⟨r.toArray⟩ ⟨j7.toArray⟩ _ (by decide) (ascii_of_all (by decide))).m ?_;rintro e y⟨rfl,l⟩;have a:(⟨r.toArray⟩:ByteArray).data.toList=r:=rfl;have h:(⟨j7.toArray⟩:ByteArray).data.toList=j7:=rfl;rw[a,h];clear a h;generalize Lib.trimLeftS r j7=q at*;go_wp2;go_ret2;rw[k.out];exact⟨by have:=MN (FX r q d.out) (FY r q d.out n);rw[←this];simp,i.t (l.m i.size)⟩
end Go.Proofs.YtlemddnecmmfgaaGreatDoor
namespace Go.Proofs.YtlemddnecmmfgaaGreatDoor
open Go.RowKit
def eL(s other:Bs):List Bs→Bs
 |a::b::r=>bif Lib.contains s b then a else eL s other r
 |_=>other
theorem FZ(s other:Bs)(ls:List Bs)(k:Nat)(a b:Bs)(d:ls[2*k]? =some a)(i:ls[2*k+1]? =some b):
 eL s other (ls.drop (2*k))=bif Lib.contains s b then a else eL s other (ls.drop (2*(k+1))):=by
 have c:ls.drop (2*k)=a::b::ls.drop (2*(k+1)):=by obtain⟨e,h⟩:=cH.1 d;obtain⟨j,l⟩:=cH.1 i;rw[lG e,lG j,h,l];rfl
 rw[c];rfl
theorem I7(s other:Bs)(ls:List Bs)(k:Nat)(h:ls.length≤2*k):eL s other (ls.drop (2*k))=other:=by rw[qA h];rfl
theorem pP(s other:ByteArray)(b o c a:Nat)(ls:List Bs)(w:World)(C:Good w)(N:s.size≤100002000)(D:ls.length=2*a)(L:a≤100)(E:ls.length≤c)(J:b<w.heap.size)(r:qU w b o ls):
 Calls Tryz.prog 247 #[.string s,.string other,.slice (some ⟨b,o,none⟩) ls.length c] w fun e w'=>e=.returned (.string ⟨(eL s.data.toList other.data.toList ls).toArray⟩)∧w=w':=by
 have K:2*a≤ls.length:=by omega
 have M:ls.length≤2*a:=by omega
 clear D;go_enter Tryz.func247,Tryz.ntmps247;go_wp2
 go_loop [7] (fun i=>∃k:Nat,k≤a∧i=.int .i64 (2*k:Nat)∧Hid (eL s.data.toList other.data.toList (ls.drop (2*k))=eL s.data.toList other.data.toList ls)) (fun i=>2*a-(intOf i).toNat)
 case atStart=>exact⟨0,aH _,rfl,Lib.hid rfl⟩
 case round=>
  obtain⟨k,G,rfl,n⟩:=hrel;by_cases I:k<a
  ·obtain⟨l,p⟩:∃l,ls[2*k]? =some l:=⟨ls[2*k]'(by omega),cA _⟩
   obtain⟨t,q⟩:∃t,ls[2*k+1]? =some t:=⟨ls[2*k+1]'(by omega),cA _⟩
   have A:=r _ l p;have B:=r _ t q;have u:=Lib.hid (FZ s.data.toList other.data.toList ls k l t p q);clear p q;obtain⟨j,d⟩:∃j,j=2*k:=⟨_,rfl⟩;rw[←d] at A B;have y:=Lib.hid d;rw[←d];have F:j+2≤ls.length:=by omega
   clear d;go_wp2_with fail;refine(nn s ⟨t.toArray⟩ _ C (by omega)).m ?_;rintro e O⟨rfl,rfl⟩;have x:(⟨t.toArray⟩:ByteArray).data.toList=t:=rfl;rw[x];clear x;rcases hq:Lib.contains s.data.toList t with _|_
   ·have h:=Lib.hid hq;go_wp2
    go_round
    case rel=>refine⟨k+1,by omega,by rw[y.out];go_num,Lib.hid ?_⟩;have:=u.out;rw[h.out,n.out] at this;exact this.symm
    case measure=>(simp[intOf]<;>omega)
   ·have h:=Lib.hid hq;go_wp2;go_ret;have:=u.out;rw[h.out,n.out] at this;rw[this];exact⟨rfl,rfl⟩
  ·have z:=Lib.hid (I7 s.data.toList other.data.toList ls k (by omega));have H:ls.length≤2*k:=by omega
   go_wp2;go_ret;rw[←n.out,z.out];exact⟨rfl,rfl⟩
theorem rW(w:World)(a:Array Value)(ls:List Bs)(h:a=(cM ls).toArray):qU (w.alloc (.cells a 9)) w.heap.size 0 ls:=fun j l b=>by subst h;rw[dH];exact bH w _ _ j _ (by simp[cM,b])
theorem pQ(s o:Bs):eL s o [[77,83,73,69],iq]=bif Lib.contains s iq then[77,83,73,69] else o:=rfl
theorem Mz(s:Bs):eL s [79,84,72,69,82] [[87,73,78],mV,[77,65,67],Lq,[85,78,73,88],Lr,[85,78,73,88],uk]=Us s:=by unfold Us eL eL eL eL eL;cases Lib.contains s mV<;>cases Lib.contains s Lq<;>cases Lib.contains s Lr<;>cases Lib.contains s uk<;>rfl
theorem I8(h t key:ByteArray)(a:Option Addr)(n c:Nat)(fs:List dQ)(w:World)(H:Good w)(hF:aZ w (.slice a n c) fs)(B:rX fs):
 Calls Tryz.prog 215 #[.agg #[.string h,.string t,.slice a n c],.string key] w (cN w (.tuple #[.string ⟨(Ls fs key.data.toList).1.toArray⟩,.bool (Ls fs key.data.toList).2])):=by
 have G:=Ed B agentName;have u:=Lib.hid (show Ls fs key.data.toList=bif(jz fs agentName).2 then gX (jz fs agentName).1 key.data.toList else([],false) from rfl);go_enter Tryz.func215,Tryz.ntmps215;go_wp2_with fail;refine(rA fs _ ⟨#[117,115,101,114,45,97,103,101,110,116]⟩ _ (hF.below ((Below.refl _ _).alloc (ag _) _)) B (by decide)).m ?_;rintro e i⟨rfl,A⟩;have d:=eG A;have y:=H.next d;clear A;have C:(⟨#[117,115,101,114,45,97,103,101,110,116]⟩:ByteArray).data.toList=agentName:=rfl;rw[C];clear C;generalize(jz fs agentName).1=s at*;generalize(jz fs agentName).2=I at*;have p:=Ty s 100002000 G;rcases I with _|_
 ·go_wp2;go_ret2;rw[u.out];exact⟨rfl,d⟩
 ·have k:=Lib.hid (show Ls fs key.data.toList=gX s key.data.toList from u.out);clear u;rcases q:(key.toList==[98,114,111,119,115,101,114]) with _|_
  ·rcases z:(key.toList==[118,101,114,115,105,111,110]) with _|_
   ·rcases E:(key.toList==[111,115]) with _|_
    ·have j:=Lib.hid (k.out.t (Ce s key.data.toList (by rw[←Lib.toList_data];exact q) (by rw[←Lib.toList_data];exact z) (by rw[←Lib.toList_data];exact E)));go_wp2;go_ret2;rw[j.out];exact⟨rfl,d⟩
    ·have j:=Lib.hid (k.out.t (Lt s key.data.toList (by rw[←Lib.toList_data];exact q) (by rw[←Lib.toList_data];exact z) (by rw[←Lib.toList_data];exact E)));clear k;have l:=(Below.refl i.heap.size i).alloc (ag _) (.cells #[.string ⟨#[87,73,78]⟩,.string ⟨#[87,105,110,100,111,119,115]⟩,.string ⟨#[77,65,67]⟩,.string ⟨#[77,97,99]⟩,.string ⟨#[85,78,73,88]⟩,.string ⟨#[88,49,49]⟩,.string ⟨#[85,78,73,88]⟩,.string ⟨#[76,105,110,117,120]⟩] 9);have o:=y.next l;go_wp2_with fail;refine(pP ⟨s.toArray⟩ ⟨#[79,84,72,69,82]⟩ i.heap.size 0 8 4 [[87,73,78],mV,[77,65,67],Lq,[85,78,73,88],Lr,[85,78,73,88],uk] _ o p rfl (by decide) (by decide) (by simp) (rW i _ _ rfl)).m ?_;rintro e r⟨rfl,rfl⟩;have b:eL (⟨s.toArray⟩:ByteArray).data.toList (⟨#[79,84,72,69,82]⟩:ByteArray).data.toList [[87,73,78],mV,[77,65,67],Lq,[85,78,73,88],Lr,[85,78,73,88],uk]=Us s:=Mz s;rw[b];clear b;go_wp2;go_ret2;rw[j.out];exact⟨rfl,d.t (l.m d.size)⟩
   ·have j:=Lib.hid (k.out.t (xP s key.data.toList (by rw[←Lib.toList_data];exact q) (by rw[←Lib.toList_data];exact z)));clear k;go_wp2_with fail;refine(CP ⟨s.toArray⟩ _ y p).m ?_;rintro e r⟨rfl,F⟩;go_wp2;go_ret2;rw[j.out];exact⟨rfl,d.t (F.m d.size)⟩
  ·have j:=Lib.hid (k.out.t (xO s key.data.toList (by rw[←Lib.toList_data];exact q)));clear k;have l:=(Below.refl i.heap.size i).alloc (ag _) (.cells #[.string ⟨#[77,83,73,69]⟩,.string ⟨#[77,83,73,69,32]⟩] 9);have o:=y.next l;go_wp2_with fail;refine(cj ⟨s.toArray⟩ ⟨#[77,111,122,105,108,108,97,47]⟩ _).m ?_;rintro e r⟨rfl,rfl⟩;have b:Lib.hasPrefix (⟨s.toArray⟩:ByteArray).data.toList (⟨#[77,111,122,105,108,108,97,47]⟩:ByteArray).data.toList=Lib.hasPrefix s sL:=rfl;rw[b];clear b;rcases D:Lib.hasPrefix s sL with _|_
   ·have x:=Lib.hid D;go_wp2_with fail;refine(pP ⟨s.toArray⟩ ⟨#[79,84,72,69,82]⟩ i.heap.size 0 2 1 [[77,83,73,69],iq] _ o p rfl (by decide) (by decide) (by simp) (rW i _ _ rfl)).m ?_;rintro e r⟨rfl,rfl⟩;have b:eL (⟨s.toArray⟩:ByteArray).data.toList (⟨#[79,84,72,69,82]⟩:ByteArray).data.toList [[77,83,73,69],iq]=jS s:=by rw[pQ];unfold jS;rw[x.out];rfl
    rw[b];clear b;go_wp2;go_ret2;rw[j.out];exact⟨rfl,d.t (l.m d.size)⟩
   ·have x:=Lib.hid D;go_wp2_with fail;refine(pP ⟨s.toArray⟩ ⟨#[77,79,90,73,76,76,65]⟩ i.heap.size 0 2 1 [[77,83,73,69],iq] _ o p rfl (by decide) (by decide) (by simp) (rW i _ _ rfl)).m ?_;rintro e r⟨rfl,rfl⟩;have b:eL (⟨s.toArray⟩:ByteArray).data.toList (⟨#[77,79,90,73,76,76,65]⟩:ByteArray).data.toList [[77,83,73,69],iq]=jS s:=by rw[pQ];unfold jS;rw[x.out];rfl
    rw[b];clear b;go_wp2;go_ret2;rw[j.out];exact⟨rfl,d.t (l.m d.size)⟩
end Go.Proofs.YtlemddnecmmfgaaGreatDoor
namespace Go.Proofs.YtlemddnecmmfgaaGreatDoor
open Go.RowKit
theorem U8(ls:List Bs)(p:Bs→Bool):(ls.take 1).tail.any p=false:=by cases ls<;>rfl
theorem Td(ls:List Bs)(p:Bs→Bool)(k:Nat)(l:Bs)(d:1≤k)(a:ls[k]? =some l):(ls.take (k+1)).tail.any p=((ls.take k).tail.any p||p l):=by
 rw[uj ls k l a];have b:ls.take k≠[]:=by intro h;have:=congrArg List.length h;rw[gu,lH] at this;have c:=(cH.1 a).1;omega
 rw[List.tail_append_of_ne_nil b,List.any_append];simp
theorem tD(ls:List Bs)(p:Bs→Bool)(k:Nat)(l:Bs)(b:ls[k]? =some l)(h:(ls.take k).tail.any p=false)(c:0<k→p l=false):(ls.take (k+1)).tail.any p=false:=by
 by_cases a:0<k
 ·rw[Td ls p k l a b,h,c a];rfl
 ·obtain rfl:k=0:=by omega
  exact U8 ls p
theorem F1(ls:List Bs)(p:Bs→Bool)(k:Nat)(l:Bs)(c:0<k)(a:ls[k]? =some l)(b:p l=true):ls.tail.any p=true:=by
 cases ls with
 |nil=>simp at a
 |cons x r=>
  cases k with
  |zero=>omega
  |succ k=>exact R7 (ls:=r) (k:=k) (by simpa using a) b
theorem U9(ls:List Bs)(p:Bs→Bool)(k:Nat)(h:(ls.take k).tail.any p=false)(a:ls.length≤k):ls.tail.any p=false:=by rw[oe a] at h;exact h
theorem QF(l:Bs):zero l=R9 (lower (trim l)):=(Ut _).symm
theorem Te(t:Bs)(h:Lib.hasPrefix t [113,61,48]=false):R9 t=false:=by unfold R9;rw[h];rfl
theorem Tf(t:Bs)(h:Lib.hasPrefix t [113,61,48]=true)(a:Lib.trimPrefix t [113,61,48]=[]):R9 t=true:=by unfold R9;rw[h,a];rfl
theorem QG(t:Bs)(x:UInt8)(r:Bs)(h:Lib.hasPrefix t [113,61,48]=true)(d:Lib.trimPrefix t [113,61,48]=x::r):
 R9 t=((((x.toNat:Int)==46)&&decide ((r.length:Int)+1≤4))&&(Lib.trimS r [48]==[])):=by
 unfold R9;rw[h,d];simp only[aaP,List.head?_cons,List.tail_cons];have a:((x::r:Bs)==[])=false:=rfl;have b:((some x:Option UInt8)==some 46)=((x.toNat:Int)==46):=by rw[gf];simp only[bZ,gR,Ei];have:(46:UInt8).toNat=46:=rfl;rw[this];omega
 have c:decide ((x::r).length≤4)=decide ((r.length:Int)+1≤4):=by rw[gf];simp only[eM,bF];omega
 rw[a,b,c,Bool.false_or]
theorem zo(t p:Bs):(Lib.trimPrefix t p).length≤t.length:=by
 unfold Lib.trimPrefix;split
 ·rw[bK];omega
 ·exact ag _
theorem QH(x:UInt8)(r:Bs)(n:Nat)(a:n=r.length+1):(⟨(x::r).toArray⟩:ByteArray).extract 1 n=⟨r.toArray⟩:=by refine dU ?_;rw[Lib.extract_data];subst a;simp
theorem vl(s:ByteArray)(w:World)(T:Good w)(hs:s.size≤100002000):
 Calls Tryz.prog 251 #[.string s] w (cN w (.bool ((pieces 59 s.data.toList).tail.any zero))):=by
 go_enter Tryz.func251,Tryz.ntmps251;go_wp2_with fail;refine(G2 s 59 _ T (by omega)).m ?_;rintro e p⟨u,rfl,X,j⟩;have af:=T.next j;have ab:=Lib.hid (iO 59 s.size s.data.toList (by rw[bj];exact ag _));have ao:=l8 59 s.data.toList;rw[bj] at ao;have hS:=cg.wO X;have W:=gO 59 s.data.toList;clear X;generalize pieces 59 s.data.toList=ls at*;rcases hS with⟨a,c,rfl,B⟩|⟨b,o,c,rfl,hc,am,H⟩
 ·exact absurd B W
 ·have HC:qU p b o ls:=H;clear H W;go_wp2
  go_loopw [10] (fun i wr=>∃k:Nat,k≤ls.length∧i=.int .i64 k∧Hid ((ls.take k).tail.any zero=false)∧Below p.heap.size p wr) (fun i _=>ls.length-(intOf i).toNat)
  case atStart=>exact⟨0,aH _,rfl,Lib.hid rfl,Below.refl _ _⟩
  case round=>
   obtain⟨k,hk,rfl,z,E⟩:=hrel;have av:=af.next E;by_cases ai:k<ls.length
   ·obtain⟨l,I⟩:∃l,ls[k]? =some l:=⟨ls[k],cA ai⟩;have H:=(HC.below E am) k l I;have al:=ab.out l (eQ I);rw[bj] at al;have aU:=sJ l;have V:=jf (trim l);have aq:=Lib.hid V;have ay:(lower (trim l)).length≤100002000:=by omega
    have d:=Lib.hid I;clear I V;go_wp2_with fail;refine(mR ⟨l.toArray⟩ _ (Ty _ _ (by omega))).m ?_;rintro e w2⟨rfl,N⟩;go_wp2_with fail;refine(nU ⟨(trim l).toArray⟩ _ (Ty _ _ (by omega))).m ?_;rintro e w3⟨rfl,R⟩;go_wp2_with fail;refine(il ⟨(lower (trim l)).toArray⟩ ⟨#[113,61,48]⟩ _).m ?_;rintro e w4⟨rfl,rfl⟩;have C:(⟨(lower (trim l)).toArray⟩:ByteArray).data.toList=lower (trim l):=rfl;have D:(⟨#[113,61,48]⟩:ByteArray).data.toList=[113,61,48]:=rfl;rw[C,D];clear C D;have n:Below p.heap.size p w3:=E.t ((N.t (R.m N.size)).m E.size);have an:=zo (lower (trim l)) [113,61,48];have y:=Lib.hid (QF l);clear N R H;generalize lower (trim l)=t at*;rcases J:Lib.hasPrefix t [113,61,48] with _|_
    ·have Hp:=Lib.hid (Te t J);go_wp2;all_goals
      go_roundw
      case rel=>exact⟨k+1,by omega,by go_num,Lib.hid (tD _ _ k l d.out z.out (fun _=>y.out.t Hp.out)),n⟩
      case measure=>(simp[intOf]<;>omega)
    ·have Q:=Tf t J;have O:=fun x r=>QG t x r J;generalize Lib.trimPrefix t [113,61,48]=q at*;have L:=Lib.hid Q;have K:=Lib.hid O;clear Q O J;by_cases B:0<k
     ·cases q with
      |nil=>have aa:=Lib.hid (L.out rfl);clear L K;go_wp2;go_ret;exact⟨cq (F1 _ _ k l B d.out (y.out.t aa.out)).symm,j.t (n.m j.size)⟩
      |cons x r=>
       have F:=Lib.hid (K.out x r rfl);clear L K;have aN:r.length+1≤100002000:=by simp only[bF] at an;omega
       have a0:∀h,(⟨(x::r).toArray⟩:ByteArray)[0]'h=x:=fun _=>rfl
       have a1:=QH x r (r.length+1) rfl;rcases Z:((x.toNat:Int)==46) with _|_
       ·have A:=Lib.hid Z;go_wp2
        go_roundw
        case rel=>exact⟨k+1,by omega,by go_num,Lib.hid (tD _ _ k l d.out z.out (fun _=>by rw[y.out,F.out,A.out];rfl)),n⟩
        case measure=>(simp[intOf]<;>omega)
       ·have A:=Lib.hid Z;by_cases Y:(r.length:Int)+1≤4
        ·have G:=Lib.hid (bN Y);go_wp2_with fail;refine(XM ⟨r.toArray⟩ ⟨#[48]⟩ _ (Ty _ _ (by omega)) (by decide) (ascii_of_all (by decide))).m ?_;rintro e w5⟨rfl,ac⟩;have C:(⟨r.toArray⟩:ByteArray).data.toList=r:=rfl;have D:(⟨#[48]⟩:ByteArray).data.toList=[48]:=rfl;rw[C,D];clear C D;have S:Below p.heap.size p w5:=n.t (ac.m n.size);rcases hq:(Lib.trimS r [48]==[]) with _|_
         ·have M:=Lib.hid hq;have ap:(Lib.trimS r [48]).isEmpty=false:=by simpa using hq
          clear hq;go_wp2
          go_roundw
          case rel=>exact⟨k+1,by omega,by go_num,Lib.hid (tD _ _ k l d.out z.out (fun _=>by rw[y.out,F.out,A.out,G.out,M.out];rfl)),S⟩
          case measure=>(simp[intOf]<;>omega)
         ·have M:=Lib.hid hq;have ap:(Lib.trimS r [48]).isEmpty=true:=by simpa using hq
          clear hq;go_wp2;go_ret;exact⟨cq (F1 _ _ k l B d.out (by rw[y.out,F.out,A.out,G.out,M.out];rfl)).symm,j.t (S.m j.size)⟩
        ·have G:=Lib.hid (cL Y);go_wp2
         go_roundw
         case rel=>exact⟨k+1,by omega,by go_num,Lib.hid (tD _ _ k l d.out z.out (fun _=>by rw[y.out,F.out,A.out,G.out];rfl)),n⟩
         case measure=>(simp[intOf]<;>omega)
     ·go_wp2;all_goals
       go_roundw
       case rel=>exact⟨k+1,by omega,by go_num,Lib.hid (tD _ _ k l d.out z.out (fun h=>absurd h B)),n⟩
       case measure=>(simp[intOf]<;>omega)
   ·go_wp2;go_ret;exact⟨cq (U9 ls zero k z.out (by omega)).symm,j.t (E.m j.size)⟩
end Go.Proofs.YtlemddnecmmfgaaGreatDoor
namespace Go.Proofs.YtlemddnecmmfgaaGreatDoor
open Go.RowKit
variable{a:Nat→Prop}
theorem ad{p:Prop}(h:p):Hid p:=h
theorem aj{w:World}{g:Nat}{a:Array Value}{t:TypeId}{b:Nat×Nat}(c:w.heap[g]? =some (.cells a t b))(j:Nat):w.cell? ⟨g,j,none⟩=a[j]? :=cell_of_row w g j a t b c
theorem qX2(h:∀i,a i)(b c:Nat):a b∧a c:=⟨h b,h c⟩
theorem qX3(h:∀i,a i)(b c d:Nat):a b∧a c∧a d:=⟨h b,h c,h d⟩
theorem qX4(h:∀i,a i)(b c d e:Nat):a b∧a c∧a d∧a e:=⟨h b,h c,h d,h e⟩
theorem qX5(h:∀i,a i)(b c d e j:Nat):a b∧a c∧a d∧a e∧a j:=⟨h b,h c,h d,h e,h j⟩
theorem qX6(h:∀i,a i)(b c d e j k:Nat):a b∧a c∧a d∧a e∧a j∧a k:=⟨h b,h c,h d,h e,h j,h k⟩
theorem qX7(h:∀i,a i)(b c d e j k l:Nat):a b∧a c∧a d∧a e∧a j∧a k∧a l:=⟨h b,h c,h d,h e,h j,h k,h l⟩
theorem qX8(h:∀i,a i)(b c d e j k l m:Nat):a b∧a c∧a d∧a e∧a j∧a k∧a l∧a m:=⟨h b,h c,h d,h e,h j,h k,h l,h m⟩
theorem aaJ(h:∀i,a i)(b c l m n o q r i8 s d e j k:Nat):a b∧a c∧a l∧a m∧a n∧a o∧a q∧a r∧a i8∧a s∧a d∧a e∧a j∧a k:=⟨h b,h c,h l,h m,h n,h o,h q,h r,h i8,h s,h d,h e,h j,h k⟩
abbrev tG:=@Go.RowKit.Below.heap_alloc
abbrev dy:=@Go.RowKit.Below.heap_setCell
abbrev ar:=@Go.RowKit.Below.refl
abbrev mG:=@Go.Calls.quiet_of_same
abbrev oE:=@Go.Lib.toList_data
abbrev oF:=@Go.World.alloc_heap_new
abbrev uL:=@Go.World.cell?_of_block
abbrev jO:=@Go.World.ownsRow_nil
abbrev Xv:=@Go.World.putObj_heap_other
abbrev wK:=@Go.World.putObj_heap_same
abbrev aO:=@Go.World.size_alloc
abbrev aD:=@Go.bodyPost_ret
abbrev tH:=@Go.cell_of_row
abbrev cP:=@Go.Proofs.enters_of
abbrev aF:=@Go.frozen_of_row
abbrev iT:=@Go.heap_alloc2_new
abbrev jX:=@Go.heap_alloc2_old
abbrev au:=@Go.heap_alloc_new
abbrev kM:=@Go.run_takeDeferred
abbrev aaK:=World
abbrev aaL:=Value
abbrev aaM:=ByteArray
end Go.Proofs.YtlemddnecmmfgaaGreatDoor
namespace Go.RowKit
variable{a:Nat→Prop}
theorem Hid.o{p:Prop}(h:Hid p):p:=h
end Go.RowKit
namespace Go.Proofs.YtlemddnecmmfgaaGreatDoor
open Go.RowKit
variable{b:Bs}{J:List (Bs×aaL)}{a e j E:Nat}{d:aaK}{S:aaM}
def ML(l:List (Bs×aaL)):List (aaL×aaL):=l.map fun p=>(.string ⟨p.1.toArray⟩,p.2)
def gg(W:aaK)(b:Nat)(l:List (Bs×aaL)):Prop:=
 ∃es clock,W.heap[b]? =some (.map es clock)∧es.toList.map (fun e=>(e.key,e.val))=ML l
def assoc(l:List (Bs×aaL))(k:Bs):Option aaL:=(l.find? (·.1==k)).map (·.2)
theorem gg.lt(h:gg d a J):a<d.heap.size:=by obtain⟨es,c,e,_⟩:=h;exact(aB.1 e).1
theorem gg.below{W W':aaK}{b n:Nat}(h:gg W b J)(a:Below n W W')(i:b<n):gg W' b J:=by obtain⟨es,c,e,d⟩:=h;exact⟨es,c,(a.block b i).t e,d⟩
theorem gg.next{W W':aaK}(h:gg W a J)(c:Below W.heap.size W W'):gg W' a J:=h.below c h.lt
theorem Aw(W:aaK):gg (W.alloc (.map #[] 0)) W.heap.size []:=⟨#[],0,(MapKept.heap_alloc W _).1,rfl⟩
theorem AM(a b:aaM):(a==b)=(a.data.toList==b.data.toList):=by rw[gf,MapKept.bytes_beq];simp only[bZ];exact⟨fun h=>by rw[h],fun h=>uG (Array.toList_inj.1 h)⟩
theorem nM(k:aaM):∀(es:List MapEntry) (l:List (Bs×aaL)) (i:Nat),es.map (fun e=>(e.key,e.val))=ML l→
 ∃r,Instr.findNow .string (.string k) es i=some r∧r.map (·.2)=assoc l k.data.toList
 |[],[],i,_=>⟨none,rfl,rfl⟩
 |[],p::l,i,h=>by simp[ML] at h
 |e::es,[],i,h=>by simp[ML] at h
 |e::es,p::l,i,h=>by
  simp only[ML,kg,Xy,kj] at h;obtain⟨⟨c,m⟩,d⟩:=h;obtain⟨r,a,b⟩:=nM k es l (i+1) d;have j:Instr.sameNow .string (.string k) e.key=some (p.1==k.data.toList):=by rw[c];show some (k==(⟨p.1.toArray⟩:aaM))=_;rw[AM];congr 1;rw[gf];simp only[bZ];exact⟨Eq.symm,Eq.symm⟩
  unfold Instr.findNow;rw[j];unfold assoc;rw[uH];cases n:(p.1==k.data.toList)
  ·exact⟨r,a,b⟩
  ·exact⟨some (i,e.val),rfl,by simp[m]⟩
structure QP (b:Nat) (W W':aaK):Prop where
 os:W'.os=W.os
 tape:W'.tape=W.tape
 output:W'.output=W.output
 size:W'.heap.size=W.heap.size
 block:∀k,k≠b→W'.heap[k]? =W.heap[k]?
theorem QP.below{b n:Nat}{W W':aaK}(h:QP b W W')(c:n≤b):Below n W W':=⟨h.os,h.tape,h.output,Nat.le_of_eq h.size.symm,fun k a=>h.block k (by omega)⟩
theorem QP.cell{b p o:Nat}{W W':aaK}(h:QP b W W')(c:p≠b):W'.cell? ⟨p,o,none⟩=W.cell? ⟨p,o,none⟩:=uL (a:=⟨p,o,none⟩) (h.block p c)
theorem JM(h:gg d a J)(T e:TypeId)(o:Tryz.prog.underlying T=some (.map 9 e))(k:aaM)(v:aaL)(s:assoc J k.data.toList=none):
 ∃W',(Instr.mapUpdate T (.map (some a)) (.string k) v).run Tryz.prog d=.ok () W'∧gg W' a (J++[(k.data.toList,v)])∧QP a d W':=by
 obtain⟨es,clock,c,m⟩:=h;obtain⟨r,n,i⟩:=nM k es.toList J 0 m;rw[s] at i;cases r with
 |some x=>cases i
 |none=>
 have p:=MapKept.run_checkKey (P:=Tryz.prog) (w:=d) u9 (k:=.string k) trivial false 9999;refine⟨d.putObj a (.map (es.push {key:=.string k,val:=v,born:=clock}) (clock+1)), ?_,⟨_,_,wK ((aB.1 c).1), ?_⟩, ?_⟩
 ·unfold Instr.mapUpdate;simp[run_underlying o,MapKept.run_getObj_map c,p,MapKept.run_findKey u9 n,MapKept.run_setObj_map _ c,Result.andThen,World.putObj]
 ·rw[Array.toList_push,List.map_append,m];simp[ML]
 ·exact⟨rfl,rfl,rfl,by simp,fun j q=>Xv q⟩
theorem fz(h:gg d a J)(T e:TypeId)(c:Tryz.prog.underlying T=some (.map 9 e))(z:aaL)(q:(zeroValue e).run Tryz.prog d=.ok z d)(k:aaM)(ok:Bool):
 (Instr.lookup T (.map (some a)) (.string k) ok).run Tryz.prog d=.ok (bif ok then .tuple #[(assoc J k.data.toList).getD z,.bool (assoc J k.data.toList).isSome] else(assoc J k.data.toList).getD z) d:=by
 obtain⟨es,clock,i,p⟩:=h;obtain⟨r,n,o⟩:=nM k es.toList J 0 p;have j:=MapKept.run_checkKey (P:=Tryz.prog) (w:=d) u9 (k:=.string k) trivial es.isEmpty 9999;unfold Instr.lookup;rw[←o];have m:=MapKept.run_findKey (w:=d) (P:=Tryz.prog) u9 n;cases r with
 |none=>cases ok<;>simp[run_underlying c,MapKept.run_getObj_map i,j,m,q,Result.andThen]
 |some x=>cases ok<;>simp[run_underlying c,MapKept.run_getObj_map i,j,m,Result.andThen]
end Go.Proofs.YtlemddnecmmfgaaGreatDoor
namespace Go.Proofs.YtlemddnecmmfgaaGreatDoor
open Go.RowKit
variable{b:Bs}{J:List (Bs×aaL)}{a e j E:Nat}{d:aaK}{S:aaM}
theorem fP{ops:Array Oper}{rest:List Oper}{o:Oper}{a:Act}{Q:Exit→Act→aaK→Prop}(n:o.guard=none)(m x v:Operand)(T:TypeId)(r:o.op=Op.insert T m x v)
 (e:TypeId)(j:Tryz.prog.underlying T=some (.map 9 e))(b:Nat)(l:List (Bs×aaL))(q:a.eval m=.map (some b))(h:gg d b l)(k:aaM)(val:aaL)(u:a.eval x=.string k)(t:a.eval v=val)
 (p:assoc l k.data.toList=none)
 (c:∀W',gg W' b (l++[(k.data.toList,val)])→QP b d W'→wpList Tryz.prog ops Q rest (a.put o.dst undef) W'):
 wpList Tryz.prog ops Q (o::rest) a d:=by
 refine wpList_plain n fun z i=> ?_;obtain⟨W',s,w,y⟩:=JM h T e j k val p;unfold Oper.wp;simp[execOp,r,q,u,t,s,Result.andThen];exact i _ _ (c W' w y)
theorem rC(s:aaM)(w:aaK):Calls Tryz.prog 214 #[.string s] w fun e w'=>
 e=.returned (.func (.func 245) #[] #[.pointer (some ⟨w.heap.size,0,none⟩)])∧w'=w.alloc (.cells #[.string s] 9):=by
 go_enter Tryz.func214,Tryz.ntmps214;go_wp2;go_ret;exact⟨rfl,rfl⟩
def rv(a:Bs)(f g:aaL):aaL:=.agg #[.string ⟨a.toArray⟩,f,g]
def RW(k:Nat):aaL:=.func (.func k) #[] #[]
def WM(p:Nat):aaL:=.func (.func 245) #[] #[.pointer (some ⟨p,0,none⟩)]
def JN(a b c:Nat):List (Bs×aaL):=
 [(kX,rv [104,111,115,116] (RW 212) (RW 213)),
  (dZ,rv dP (WM a) (RW 213)),
  (iE,rv agentName (WM b) (RW 215)),
  (eU,rv bA (RW 216) (RW 217)),
  (iF,rv [] (RW 218) (RW 219)),
  (kY,rv ed (WM c) (RW 220))]
structure dr (W:aaK) (b p1 p2 p3:Nat):Prop where
 map:gg W b (JN p1 p2 p3)
 c1:W.cell? ⟨p1,0,none⟩=some (.string ⟨dP.toArray⟩)
 c2:W.cell? ⟨p2,0,none⟩=some (.string ⟨agentName.toArray⟩)
 c3:W.cell? ⟨p3,0,none⟩=some (.string ⟨ed.toArray⟩)
theorem dr.next{W W':aaK}{b c d e:Nat}(h:dr W b c d e)(a:Below W.heap.size W W'):dr W' b c d e:=
 ⟨h.map.next a,(a.cell (p:=⟨c,0,none⟩) (aV h.c1)).t h.c1,(a.cell (p:=⟨d,0,none⟩) (aV h.c2)).t h.c2,(a.cell (p:=⟨e,0,none⟩) (aV h.c3)).t h.c3⟩
theorem fg:Tryz.prog.underlying 239=some (.map 9 238):=by kernel_rfl
def OG(w:aaK)(e:Ending)(w':aaK):Prop:=∃b a c d,e=.returned (.map (some b))∧dr w' b a c d∧Below w.heap.size w w'
theorem bO(w:aaK):Calls Tryz.prog 176 #[] w (OG w):=by
 have T:=@run_makeMap Tryz.prog;have R:=Aw w;have S:=w.heap.size;have J:Below w.heap.size w (w.alloc (.map #[] 0)):=(ar _ _).alloc (ag _) _;go_enter Tryz.func176,Tryz.ntmps176;go_wp2_with (first
  |(refine fP rfl _ _ _ _ rfl _ fg w.heap.size _ rfl (by assumption) _ _ rfl rfl (by rfl) ?_;intro a A z)
  |fail)
 refine(rC ⟨#[114,101,102,101,114,101,114]⟩ _).m ?_;rintro e v1⟨rfl,q⟩;have hA1:Below a.heap.size a v1:=by rw[q];exact(ar _ _).alloc (ag _) _
 have L:v1.cell? ⟨a.heap.size,0,none⟩=some (.string ⟨#[114,101,102,101,114,101,114]⟩):=by rw[q];exact bH _ _ _ 0 _ rfl
 replace A:=A.next hA1;clear q;go_wp2_with (first
  |(refine fP rfl _ _ _ _ rfl _ fg w.heap.size _ rfl (by assumption) _ _ rfl rfl (by rfl) ?_;intro b l n)
  |fail)
 refine(rC ⟨#[117,115,101,114,45,97,103,101,110,116]⟩ _).m ?_;rintro e v2⟨rfl,r⟩;have hA2:Below b.heap.size b v2:=by rw[r];exact(ar _ _).alloc (ag _) _
 have M:v2.cell? ⟨b.heap.size,0,none⟩=some (.string ⟨#[117,115,101,114,45,97,103,101,110,116]⟩):=by rw[r];exact bH _ _ _ 0 _ rfl
 replace l:=l.next hA2;clear r;go_wp2_with (first
  |(refine fP rfl _ _ _ _ rfl _ fg w.heap.size _ rfl l _ _ rfl rfl (by rfl) ?_;intro O B h;clear l)
  |(refine fP rfl _ _ _ _ rfl _ fg w.heap.size _ rfl B _ _ rfl rfl (by rfl) ?_;intro Q C i;clear B)
  |(refine fP rfl _ _ _ _ rfl _ fg w.heap.size _ rfl C _ _ rfl rfl (by rfl) ?_;intro c D j;clear C)
  |fail)
 refine(rC ⟨#[97,99,99,101,112,116,45,108,97,110,103,117,97,103,101]⟩ _).m ?_;rintro e F⟨rfl,s⟩;have hA3:Below c.heap.size c F:=by rw[s];exact(ar _ _).alloc (ag _) _
 have N:F.cell? ⟨c.heap.size,0,none⟩=some (.string ⟨#[97,99,99,101,112,116,45,108,97,110,103,117,97,103,101]⟩):=by rw[s];exact bH _ _ _ 0 _ rfl
 replace D:=D.next hA3;clear s;go_wp2_with (first
  |(refine fP rfl _ _ _ _ rfl _ fg w.heap.size _ rfl (by assumption) _ _ rfl rfl (by rfl) ?_;intro d E k)
  |fail)
 have V:w.heap.size<(w.alloc (.map #[] 0)).heap.size:=by simp
 have W:=z.size;have X:=n.size;have Y:=h.size;have Z:=i.size;have s5:=j.size;have t1:=hA1.size;have t2:=hA2.size;have K:=ad (show Below w.heap.size w d from
  ((((((((J.t (z.below (ag _))).t (hA1.m (by omega))).t (n.below (ag _))).t (hA2.m (by omega))).t (h.below (ag _))).t (i.below (ag _))).t (j.below (ag _))).t (hA3.m (by omega))).t (k.below (ag _)))
 have H:d.cell? ⟨c.heap.size,0,none⟩=_:=(k.cell (by omega)).t N;have u:c.cell? ⟨b.heap.size,0,none⟩=_:=(j.cell (by omega)).t ((i.cell (by omega)).t ((h.cell (by omega)).t M));have d2:d.cell? ⟨b.heap.size,0,none⟩=_:=(k.cell (by omega)).t ((hA3.cell (p:=⟨b.heap.size,0,none⟩) (aV u)).t u);have x:b.cell? ⟨a.heap.size,0,none⟩=_:=(n.cell (by omega)).t L;have I:v2.cell? ⟨a.heap.size,0,none⟩=_:=(hA2.cell (p:=⟨a.heap.size,0,none⟩) (aV x)).t x;have y:c.cell? ⟨a.heap.size,0,none⟩=_:=(j.cell (by omega)).t ((i.cell (by omega)).t ((h.cell (by omega)).t I));have d1:d.cell? ⟨a.heap.size,0,none⟩=_:=(k.cell (by omega)).t ((hA3.cell (p:=⟨a.heap.size,0,none⟩) (aV y)).t y);have G:=ad (show gg d w.heap.size (JN a.heap.size b.heap.size c.heap.size) from E);clear E;go_wp2;go_ret;exact⟨_,_,_,_,rfl,⟨G.o,d1,d2,H⟩,K.out⟩
end Go.Proofs.YtlemddnecmmfgaaGreatDoor
namespace Go.Proofs.YtlemddnecmmfgaaGreatDoor
open Go.RowKit
variable{b:Bs}{J:List (Bs×aaL)}{a e j E:Nat}{d:aaK}{S:aaM}
theorem VD:Tryz.t238.zero=some (.agg #[.string ⟨#[]⟩,.nilFunc,.nilFunc]):=by kernel_rfl
theorem lZ(W:aaK):(zeroValue 238).run Tryz.prog W=.ok (.agg #[.string ⟨#[]⟩,.nilFunc,.nilFunc]) W:=by simp[zeroValue,go_sem,VD]
theorem Eh(x y z:aaL)(W:aaK):(Instr.field 238 (.agg #[x,y,z]) 0).run Tryz.prog W=.ok x W:=by kernel_rfl
theorem nJ(name:Bs):name=kX∨name=dZ∨name=iE∨name=eU∨name=iF∨name=kY∨cD name=false:=by
 by_cases a:name=kX
 ·exact .inl a
 by_cases b:name=dZ
 ·exact .inr (.inl b)
 by_cases c:name=iE
 ·exact .inr (.inr (.inl c))
 by_cases d:name=eU
 ·exact .inr (.inr (.inr (.inl d)))
 by_cases e:name=iF
 ·exact .inr (.inr (.inr (.inr (.inl e))))
 by_cases h:name=kY
 ·exact .inr (.inr (.inr (.inr (.inr (.inl h)))))
 refine .inr (.inr (.inr (.inr (.inr (.inr ?_)))));unfold cD names Tz;simp only[kg,List.map_nil,rZ,List.any_nil,aL.2 (eo a),aL.2 (eo b),aL.2 (eo c),aL.2 (eo d),aL.2 (eo e),aL.2 (eo h),Bool.or_false]
theorem gN{name n:Bs}(h:cD name=false)(a:n∈names):(n==name)=false:=by unfold cD at h;rw[aaV] at h;simpa using h n a
theorem xL(h:cD b=false)(a c d:Nat):assoc (JN a c d) b=none:=by unfold assoc JN;simp only[uH,gN h (n:=kX) (by decide),gN h (n:=dZ) (by decide),gN h (n:=iE) (by decide),gN h (n:=eU) (by decide),gN h (n:=iF) (by decide),gN h (n:=kY) (by decide)];rfl
theorem Lm(h:cD b=false):RX b=[]:=by unfold RX Tz;simp only[uH,gN h (n:=kX) (by decide),gN h (n:=dZ) (by decide),gN h (n:=iE) (by decide),gN h (n:=eU) (by decide),gN h (n:=iF) (by decide),gN h (n:=kY) (by decide)];rfl
theorem qh{name n:Bs}(h:cD name=false)(a:n∈names):(name==n)=false:=by rw[aL];exact eo (aL.1 (gN h a))
theorem AO{t:Bs}{fs:List dQ}{name key:Bs}{has:Bool}(a:cD name=false):dK b t fs name key has=([],false):=by unfold dK TA OH;rw[qh a (n:=kX) (by decide),qh a (n:=dZ) (by decide),qh a (n:=iE) (by decide),qh a (n:=eU) (by decide),qh a (n:=iF) (by decide),qh a (n:=kY) (by decide)];cases has<;>cases fJ key<;>rfl
theorem dn(h:S.data.toList=b):S=⟨b.toArray⟩:=dU h
theorem wi(h:dr d a e j E):
 (Instr.lookup 239 (.map (some a)) (.string ⟨kX.toArray⟩) true).run Tryz.prog d=.ok (.tuple #[.agg #[.string ⟨[104,111,115,116].toArray⟩,(.func (.func 212) #[] #[]),(.func (.func 213) #[] #[])],.bool true]) d:=fz h.map _ _ fg _ (lZ d) _ _
theorem wj(h:dr d a e j E):
 (Instr.lookup 239 (.map (some a)) (.string ⟨dZ.toArray⟩) true).run Tryz.prog d=.ok (.tuple #[.agg #[.string ⟨dP.toArray⟩,(.func (.func 245) #[] #[.pointer (some ⟨e,0,none⟩)]),(.func (.func 213) #[] #[])],.bool true]) d:=fz h.map _ _ fg _ (lZ d) _ _
theorem wk(h:dr d a e j E):
 (Instr.lookup 239 (.map (some a)) (.string ⟨iE.toArray⟩) true).run Tryz.prog d=.ok (.tuple #[.agg #[.string ⟨agentName.toArray⟩,(.func (.func 245) #[] #[.pointer (some ⟨j,0,none⟩)]),(.func (.func 215) #[] #[])],.bool true]) d:=fz h.map _ _ fg _ (lZ d) _ _
theorem wm(h:dr d a e j E):
 (Instr.lookup 239 (.map (some a)) (.string ⟨eU.toArray⟩) true).run Tryz.prog d=.ok (.tuple #[.agg #[.string ⟨bA.toArray⟩,(.func (.func 216) #[] #[]),(.func (.func 217) #[] #[])],.bool true]) d:=fz h.map _ _ fg _ (lZ d) _ _
theorem wo(h:dr d a e j E):
 (Instr.lookup 239 (.map (some a)) (.string ⟨iF.toArray⟩) true).run Tryz.prog d=.ok (.tuple #[.agg #[.string ⟨#[]⟩,(.func (.func 218) #[] #[]),(.func (.func 219) #[] #[])],.bool true]) d:=fz h.map _ _ fg _ (lZ d) _ _
theorem wu(h:dr d a e j E):
 (Instr.lookup 239 (.map (some a)) (.string ⟨kY.toArray⟩) true).run Tryz.prog d=.ok (.tuple #[.agg #[.string ⟨ed.toArray⟩,(.func (.func 245) #[] #[.pointer (some ⟨E,0,none⟩)]),(.func (.func 220) #[] #[])],.bool true]) d:=fz h.map _ _ fg _ (lZ d) _ _
theorem JJ(h:dr d a e j E)(c:cD S.data.toList=false):
 (Instr.lookup 239 (.map (some a)) (.string S) true).run Tryz.prog d=.ok (.tuple #[.agg #[.string ⟨#[]⟩,.nilFunc,.nilFunc],.bool false]) d:=by
 have:=fz h.map _ _ fg _ (lZ d) S true;rw[xL c] at this;exact this
theorem RY(h:dr d a e j E):
 (Instr.lookup 239 (.map (some a)) (.string ⟨kX.toArray⟩) false).run Tryz.prog d=.ok ((.agg #[.string ⟨[104,111,115,116].toArray⟩,(.func (.func 212) #[] #[]),(.func (.func 213) #[] #[])])) d:=fz h.map _ _ fg _ (lZ d) _ _
theorem ZX(h:dr d a e j E):
 (Instr.lookup 239 (.map (some a)) (.string ⟨dZ.toArray⟩) false).run Tryz.prog d=.ok ((.agg #[.string ⟨dP.toArray⟩,(.func (.func 245) #[] #[.pointer (some ⟨e,0,none⟩)]),(.func (.func 213) #[] #[])])) d:=fz h.map _ _ fg _ (lZ d) _ _
theorem R0(h:dr d a e j E):
 (Instr.lookup 239 (.map (some a)) (.string ⟨iE.toArray⟩) false).run Tryz.prog d=.ok ((.agg #[.string ⟨agentName.toArray⟩,(.func (.func 245) #[] #[.pointer (some ⟨j,0,none⟩)]),(.func (.func 215) #[] #[])])) d:=fz h.map _ _ fg _ (lZ d) _ _
theorem JO(h:dr d a e j E):
 (Instr.lookup 239 (.map (some a)) (.string ⟨eU.toArray⟩) false).run Tryz.prog d=.ok ((.agg #[.string ⟨bA.toArray⟩,(.func (.func 216) #[] #[]),(.func (.func 217) #[] #[])])) d:=fz h.map _ _ fg _ (lZ d) _ _
theorem R1(h:dr d a e j E):
 (Instr.lookup 239 (.map (some a)) (.string ⟨iF.toArray⟩) false).run Tryz.prog d=.ok ((.agg #[.string ⟨#[]⟩,(.func (.func 218) #[] #[]),(.func (.func 219) #[] #[])])) d:=fz h.map _ _ fg _ (lZ d) _ _
theorem R3(h:dr d a e j E):
 (Instr.lookup 239 (.map (some a)) (.string ⟨kY.toArray⟩) false).run Tryz.prog d=.ok ((.agg #[.string ⟨ed.toArray⟩,(.func (.func 245) #[] #[.pointer (some ⟨E,0,none⟩)]),(.func (.func 220) #[] #[])])) d:=fz h.map _ _ fg _ (lZ d) _ _
theorem R4(h:dr d a e j E)(c:cD S.data.toList=false):
 (Instr.lookup 239 (.map (some a)) (.string S) false).run Tryz.prog d=.ok (.agg #[.string ⟨#[]⟩,.nilFunc,.nilFunc]) d:=by
 have:=fz h.map _ _ fg _ (lZ d) S false;rw[xL c] at this;exact this
theorem Ln(h t:aaM)(a:Option Addr)(n c:Nat)(w:aaK):
 Calls Tryz.prog 212 #[.agg #[.string h,.string t,.slice a n c]] w (cN w (.tuple #[.string h,.bool (!h.data.toList.isEmpty)])):=by
 have b:=ad (oE h);go_enter Tryz.func212,Tryz.ntmps212;go_wp2_with fail;go_region;all_goals
  go_wp2;go_ret2;exact⟨by rw[b.o];rfl,((ar _ _).alloc (ag _) _).drew⟩
end Go.Proofs.YtlemddnecmmfgaaGreatDoor
