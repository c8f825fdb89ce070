/- The walk of Check, the scheme being http or https. -/
import Derived.Test.YtogchgjfialleaaGreatDoorKbh
set_option linter.unusedVariables false
set_option maxRecDepth 100000
set_option maxHeartbeats 4000000
namespace Go.Proofs.YtogchgjfialleaaGreatDoor
open Go.RowKit
attribute[local go_sem↓] Go.wp_at_zero Go.wp_at_succ
theorem LI{r:Bs}{p:gi}(h:gj r=some p):p.key.length≤64:=by
 unfold gj at h;cases i:cD (r.takeWhile dt)
 ·rw[i] at h;cases h
 ·rw[i] at h;simp only[aS] at h;cases a:ey (r.dropWhile dt) with
  |none=>rw[a] at h;cases h
  |some q=>
   obtain⟨k,j,l⟩:=q;rw[a] at h;change dz (r.takeWhile dt) k j l=some p at h;have o:k.length≤64:=by
    unfold ey at a;cases c:Lib.hasPrefix (r.dropWhile dt) [123]
    ·rw[c] at a;cases a;exact aH _
    ·rw[c] at a;simp only[aS] at a;cases b:((Lib.trimPrefix (r.dropWhile dt) [123]).contains 125&&fJ (upto 125 (Lib.trimPrefix (r.dropWhile dt) [123])))
     ·rw[b] at a;cases a
     ·rw[b] at a;simp only[aS,gR,kj] at a;rw[cW] at b;have e:=b.2;unfold fJ at e;rw[cW] at e;have:=dv e.1;rw[←a.1];omega
   unfold dz at h;cases c:gm l with
   |none=>rw[c] at h;cases h
   |some q=>
    obtain⟨d,n,m⟩:=q;rw[c] at h;change gH (r.takeWhile dt) k d j n m=some p at h;unfold gH at h;cases b:Lib.hasPrefix m [41]
    ·rw[b] at h;cases h
    ·rw[b] at h;simp only[aS,gR] at h;subst h;exact o
theorem Found.key{s:Bs}{i:Nat}{u:iZ}(h:Found s i u):u.key.length≤64:=by obtain⟨p,b,a⟩:=h.parts;rw[a];exact LI b
theorem DG{s:Bs}:∀{l:List iZ} {i:Nat},yn s i l→∀{k:Nat} {u:iZ},l[k]? =some u→∃j,Found s j u∧yn s u.to (l.drop (k+1))
 |v::l,i,h,0,u,a=>by
  obtain rfl:v=u:=by simpa using a
  exact⟨i,h.1,h.2⟩
 |v::l,i,h,k+1,u,a=>by obtain⟨j,b,c⟩:=DG h.2 (k:=k) (u:=u) (by simpa using a);exact⟨j,b,by simpa using c⟩
theorem Sv(s:ByteArray)(a b:Nat):(s.extract a b).data.toList=(s.data.toList.drop a).take (b-a):=cf s a b
def EX(w:World)(a:Option Addr)(b B:Nat)(c:List iZ):Prop:=∀(j:Nat) (u:iZ),c[j]? =some u→∃g,a=some ⟨g,0,none⟩∧g≠b∧g<B∧
 w.cell? ⟨g,j*7,none⟩=some (.int .i64 u.src)∧w.cell? ⟨g,j*7+1,none⟩=some (.int .i64 u.to)∧w.cell? ⟨g,j*7+2,none⟩=some (.string ⟨u.name.toArray⟩)∧w.cell? ⟨g,j*7+3,none⟩=some (.string ⟨u.key.toArray⟩)∧w.cell? ⟨g,j*7+4,none⟩=some (.string ⟨u.cK.toArray⟩)∧w.cell? ⟨g,j*7+5,none⟩=some (.bool u.hk)∧w.cell? ⟨g,j*7+6,none⟩=some (.bool u.hd)
theorem tV:∀(a:List iZ) (j i:Nat) (u:iZ) (v:Value),a[j]? =some u→(lR u)[i]? =some v→(pq a)[j*7+i]? =some v
 |[],j,i,u,v,h,_=>by simp at h
 |x::a,0,i,u,v,h,b=>by
  obtain rfl:x=u:=by simpa using h
  show(lR x++pq a)[0*7+i]? =some v;have c:i<(lR x).length:=by
   by_cases d:i<(lR x).length
   ·exact d
   ·rw[List.getElem?_eq_none (by omega)] at b;cases b
  rw[Nat.zero_mul,dH,qC c];exact b
 |x::a,j+1,i,u,v,h,b=>by have:=tV a j i u v (by simpa using h) b;show(lR x++pq a)[(j+1)*7+i]? =some v;rw[jL (by simp[lR];omega)];simp only[lR,bF,lH];rw[show(j+1)*7+i-(0+1+1+1+1+1+1+1)=j*7+i by omega];exact this
theorem Pa{w:World}{base b:Nat}{a:Option Addr}{c:Nat}{e:List iZ}(h:zu w base (.slice a e.length c) e)(q:b<base):EX w a b w.heap.size e:=by
 intro j u k;have n:=fun(g:Nat) (l:(Value.slice a e.length c).ownBlock=some g)=>h.cells l;have o:=h.lt;rcases h.2 with⟨d,m⟩|⟨g,cap,p,d,r,l,_⟩
 ·rw[jn m] at k;simp at k
 ·obtain rfl:a=some ⟨g,0,none⟩:=by simp only[Value.slice.injEq] at d;exact d.1
  have cell:∀i v,(lR u)[i]? =some v→w.cell? ⟨g,j*7+i,none⟩=some v:=by intro i v d;have:=n g rfl _ _ (tV e j i u v k d);rw[F6] at this;rw[dH] at this;exact this
  exact⟨g,rfl,by omega,(o g rfl).2,cell 0 _ rfl,cell 1 _ rfl,cell 2 _ rfl,cell 3 _ rfl,cell 4 _ rfl,cell 5 _ rfl,cell 6 _ rfl⟩
theorem bX.cell{b B:Nat}{w w':World}(h:bX b B w w'){g o:Nat}{v:Value}(d:g<B)(e:g≠b)(c:w.cell? ⟨g,o,none⟩=some v):w'.cell? ⟨g,o,none⟩=some v:=
 (uL (a:=⟨g,o,none⟩) (h.block g d e)).trans c
theorem EX.kept{w w':World}{a:Option Addr}{b B:Nat}{i:List iZ}(h:EX w a b B i)(e:bX b B w w'):EX w' a b B i:=by intro j u s;obtain⟨g,r,c,d,k,l,m,n,o,p,q⟩:=h j u s;exact⟨g,r,c,d,e.cell d c k,e.cell d c l,e.cell d c m,e.cell d c n,e.cell d c o,e.cell d c p,e.cell d c q⟩
def VJ(W:World)(b:Nat)(h t:ByteArray)(v:Value):Prop:=W.heap[b]? =some (.cells #[.string h,.string t,v] 47)
def Gy(p:Bs×Int):Value:=.tuple #[.string ⟨p.1.toArray⟩,.int .i64 p.2]
structure TM (w w3 wr:World) (bb B:Nat) (a ua:Option Addr) (n c:Nat) (h t:ByteArray) (fs:List dQ) (us:List iZ):Prop where
 kept:bX bb B w3 wr
 room:B≤wr.heap.size
 below:Below w.heap.size w wr
 VK:VJ wr w.heap.size h t (.slice a n c)
 fields:aZ wr (.slice a n c) fs
 VL:EX wr ua bb B us
 aq:Good wr
theorem TM.kb{w k wr w':World}{b B:Nat}{a i:Option Addr}{n c:Nat}{h t:ByteArray}{fs:List dQ}{j:List iZ}(x:TM w k wr b B a i n c h t fs j)(d:bX b B wr w')(p:b=w.heap.size+1)(o:b<B)(l:aZ w (.slice a n c) fs)(m:Good w):TM w k w' b B a i n c h t fs j:=by have e:Below w.heap.size w w':=x.below.trans (d.below (by omega) (by omega));exact⟨x.kept.trans d,bP x.room d.size,e,(d.block _ (by omega) (by omega)).trans x.VK,l.below e,x.VL.kept d,m.next e⟩
theorem TM.nx{w i wr w':World}{b B:Nat}{a d:Option Addr}{n c:Nat}{h t:ByteArray}{fs:List dQ}{e:List iZ}(x:TM w i wr b B a d n c h t fs e)(o:Below wr.heap.size wr w')(k:b=w.heap.size+1)(j:b<B)(l:aZ w (.slice a n c) fs)(m:Good w):TM w i w' b B a d n c h t fs e:=
 x.kb (bX.ai o x.room) k j l m
theorem Ig{W:World}{b:Nat}{h t:ByteArray}{v:Value}(x:VJ W b h t v):W.cell? ⟨b,0,none⟩=some (.string h)∧W.cell? ⟨b,1,none⟩=some (.string t)∧W.cell? ⟨b,2,none⟩=some v:=
 ⟨aj 0 x,aj 1 x,aj 2 x⟩
theorem rI{h t:Bs}{fs:List dQ}{s:Bs}(a:oP<(uW h t fs s).length):eA h t fs s=([],3):=by unfold eA;rw[cL (by omega)];rfl
theorem Pb{h t:Bs}{fs:List dQ}{s:Bs}(a:(uW h t fs s).length≤oP):eA h t fs s=(uW h t fs s,0):=by unfold eA;rw[bN a];rfl
theorem KS(s h t:ByteArray)(a:Option Addr)(n c:Nat)(fs:List dQ)(w:World)(hg:Good w)(hF:aZ w (.slice a n c) fs)(bf:rX fs)(ht:t.size≤100000)(hs:s.size≤1000000):
 Calls Tryz.prog 101 #[.string s,.agg #[.string h,.string t,.slice a n c]] w (cN w (Gy (eA h.data.toList t.data.toList fs s.data.toList))):=by
 have d:=ad (jG w (.cells #[.string h,.string t,.slice a n c] 47) (.cells #[.pointer none,.slice none 0 0] 206));have o:=ad hg;have C:=ad hF;clear hg hF;go_enter Tryz.func101,Tryz.ntmps101;go_wp2_with fail;generalize(w.alloc (.cells #[.string h,.string t,.slice a n c] 47)).alloc (.cells #[.pointer none,.slice none 0 0] 206)=W2 at*;have a1:=o.out.next d.out.below;refine(DJ s W2 a1 (by omega)).mono ?_;rintro e j⟨v,rfl,af,N⟩;obtain⟨ua,uc,rfl⟩:=aX af;have a9:w.heap.size+1<j.heap.size:=by have:=d.out.size;have:=N.size;omega
 have HI:=ad (show TM w j j (w.heap.size+1) j.heap.size a ua n c h t fs (mT s.data.toList) from by have aa:Below w.heap.size w j:=d.out.below.trans (N.mono d.out.below.size);refine⟨bX.refl _ _ _,ag _,aa,(N.block _ (by have:=d.out.size;omega)).trans d.out.b1,C.out.below aa, ?_,o.out.next aa⟩;exact Pa af (by have:=d.out.size;omega))
 have al:=ad (show BA j (w.heap.size+1) j.heap.size [] from BA.next (w:=W2) ⟨_,_,d.out.b2,.inl rfl,jO _ _ _ _,by simp[Value.ownBlock]⟩ N);have aU:=nC s.data.toList (s.data.toList.length+1) 0;have am:=ad (show yn s.data.toList 0 (mT s.data.toList) from aU);have bi:=A5 s.data.toList;rw[bj] at bi;have ao:=ad (show UE s.data.toList (fun u=>(jD h.data.toList t.data.toList fs u).1) 0 (mT s.data.toList)=uW h.data.toList t.data.toList fs s.data.toList from rfl);clear d a1 af N aU;generalize mT s.data.toList=b at*;generalize aN:w.heap.size+1=bb at*;generalize a8:j.heap.size=B at*;have A:=ad aN.symm;clear aN a8;generalize a2:uW h.data.toList t.data.toList fs s.data.toList=tx at*;have M:=ad a2;clear a2;go_wp2_with fail
 go_loopw [7,15] (fun at' ix wr=>∃(k p:Nat) (l:Bs),at'=.int .i64 p∧ix=.int .i64 k∧k≤b.length∧p≤s.size∧l.length≤524288∧Hid (yn s.data.toList p (b.drop k))∧Hid (l++UE s.data.toList (fun u=>(jD h.data.toList t.data.toList fs u).1) p (b.drop k)=tx)∧Hid (BA wr bb B l)∧Hid (TM w j wr bb B a ua n c h t fs b)) (fun _ ix _=>b.length-(intOf ix).toNat)
 case atStart=>exact⟨0,0,[],rfl,rfl,aH _,aH _,aH _,am,ao,al,HI⟩
 case round=>
  clear am ao al HI;obtain⟨k,p,l,rfl,rfl,hk,hp,br,X,O,I,D⟩:=hrel;by_cases bg:k<b.length
  ·obtain⟨u,hu⟩:∃u,b[k]? =some u:=⟨b[k],cA bg⟩;obtain⟨g,rfl,bn,bm,Z,R,c2,c3,c4,c5,c6⟩:=D.out.VL k u hu;have y:=X.out;have ab:b.drop k=u::b.drop (k+1):=by obtain⟨h1,h2⟩:=cH.1 hu;rw[lG h1,h2]
   rw[ab] at y;have bk:=y.1.ge;have bl:=y.1.lt;have a0:=y.1.le;rw[bj] at a0;have bo:=y.1.key;have a6:=ad y.2;have r:=O.out;rw[ab] at r;have H:=ad (show l++(((s.data.toList.drop p).take (u.src-p))++(jD h.data.toList t.data.toList fs u).1++UE s.data.toList (fun u=>(jD h.data.toList t.data.toList fs u).1) u.to (b.drop (k+1)))=tx from r);clear y ab hu r O X;have i1:(p:Int)≤(u.src:Int):=by omega
   have i2:(u.src:Int)≤(s.size:Int):=by omega
   go_wp2_with fail;have T:sU (wr.alloc (.cells #[.int .i64 u.src,.int .i64 u.to,.string ⟨u.name.toArray⟩,.string ⟨u.key.toArray⟩,.string ⟨u.cK.toArray⟩,.bool u.hk,.bool u.hd] 133)) wr.heap.size u:=au wr _;have b4:=(ar wr.heap.size wr).alloc (ag _) (.cells #[.int .i64 u.src,.int .i64 u.to,.string ⟨u.name.toArray⟩,.string ⟨u.key.toArray⟩,.string ⟨u.cK.toArray⟩,.bool u.hk,.bool u.hd] 133);generalize wr.alloc (.cells #[.int .i64 u.src,.int .i64 u.to,.string ⟨u.name.toArray⟩,.string ⟨u.key.toArray⟩,.string ⟨u.cK.toArray⟩,.bool u.hk,.bool u.hd] 133)=W4 at*;have bx:bb<wr.heap.size:=I.out.lt;have Y:=ad (D.out.nx b4 A.out (by omega) C.out o.out);have ai:=ad (I.out.next b4);generalize wr.heap.size=G at*;clear b4 D I Z R c2 c3 c4 c5 c6;have hex:(s.extract p u.src).size=u.src-p:=by simp[ByteArray.size_extract];omega
   refine(pR bb B l (s.extract p u.src) W4 ai.out Y.out.room (by omega)).mono ?_;rintro e z⟨rfl,E,F⟩;have V:sU z G u:=(F.other G (ll T) (by omega) (fun cs fr=>by rw[T];intro e;cases e)).trans T;have m:=ad (Y.out.kb F A.out (by omega) C.out o.out);have bs:G<z.heap.size:=ll V;rw[Sv] at E;have bp:(l++(s.data.toList.drop p).take (u.src-p)).length≤524288+1000000:=by rw[bB,gu,bK,bj];omega
   have Q:=ad (show(l++(s.data.toList.drop p).take (u.src-p))++((jD h.data.toList t.data.toList fs u).1++UE s.data.toList (fun u=>(jD h.data.toList t.data.toList fs u).1) u.to (b.drop (k+1)))=tx by rw[←H.out];simp);clear H ai Y F T hex;generalize l++(s.data.toList.drop p).take (u.src-p)=i at*;have J:=ad E;have an:=ad V;obtain⟨⟨Z,R,c2,c3,c4,c5,c6⟩,f0,f1,f2,f3,f4,f5,f6⟩:=ln V;obtain⟨v0,v1,v2⟩:=Ig m.out.VK;clear E V f0 f1 f2 f3 f4 f5 f6;go_wp2_with fail;refine(LJ u h t a n c fs z m.out.aq m.out.fields bf ht (by omega)).mono ?_;rintro e w6⟨rfl,S⟩;generalize hx:(jD h.data.toList t.data.toList fs u).1=x at*;clear hx;have K:=ad (m.out.nx S A.out (by omega) C.out o.out);have W:=ad (J.out.next S);have L:=ad (an.out.next S);have bv:G<w6.heap.size:=ll L.out;clear m J an S Z R c2 c3 c4 c5 c6 v0 v1 v2;go_wp2_with fail;refine(Tj bb B i w6 W.out (by omega)).mono ?_;rintro e w7⟨rfl,rfl⟩;by_cases hl:i.length≤262144
   ·have i3:(i.length:Int)≤262144:=by omega
    by_cases hx:x.length≤262144
    ·have i4:(x.length:Int)≤262144:=by omega
     go_wp2_with fail;refine(pR bb B i ⟨x.toArray⟩ w6 W.out K.out.room (by show i.length+x.length≤_;omega)).mono ?_;rintro e w8⟨rfl,av,ac⟩;have n8:sU w8 G u:=(ac.other G (ll L.out) (by omega) (fun cs fr=>by rw[L.out];intro e;cases e)).trans L.out;have a7:=ad (K.out.kb ac A.out (by omega) C.out o.out);have R:=aj 1 n8;have a4:=ad (show BA w8 bb B (i++x) from av);have a3:=ad (show(i++x)++UE s.data.toList (fun u=>(jD h.data.toList t.data.toList fs u).1) u.to (b.drop (k+1))=tx by rw[←Q.out];simp);clear av ac n8 L W K Q;go_wp2_with fail
     go_roundw
     case rel=>exact⟨k+1,u.to,i++x,rfl,by go_num,by omega,a0,by rw[bB];omega,a6,a3,a4,a7⟩
     case measure=>(simp[intOf]<;>omega)
    ·have i4:(262144:Int)<(x.length:Int):=by omega
     have q:=ad (rI (h:=h.data.toList) (t:=t.data.toList) (fs:=fs) (s:=s.data.toList) (by rw[M.out,←Q.out];unfold oP;simp only[bB];omega));go_wp2_with fail;go_ret2;rw[q.out];exact⟨rfl,K.out.below⟩
   ·have i3:(262144:Int)<(i.length:Int):=by omega
    have q:=ad (rI (h:=h.data.toList) (t:=t.data.toList) (fs:=fs) (s:=s.data.toList) (by rw[M.out,←Q.out];unfold oP;simp only[bB];omega));go_wp2_with fail;go_ret2;rw[q.out];exact⟨rfl,K.out.below⟩
  ·have be:k=b.length:=by omega
   have r:=O.out;rw[be,qA (ag _)] at r;have H:=ad (show l++s.data.toList.drop p=tx from r);have i1:(p:Int)≤(s.size:Int):=by omega
   clear r O X;go_wp2_with fail;rw[uu];have bd:(⟨(s.data.toList.drop p).toArray⟩:ByteArray).size≤1000000:=by show(s.data.toList.drop p).length≤_;rw[bK,bj];omega
   refine(pR bb B l ⟨(s.data.toList.drop p).toArray⟩ wr I.out D.out.room (by omega)).mono ?_;rintro e z⟨rfl,E,F⟩;have ap:BA z bb B tx:=by rw[←H.out];exact E
   have m:=ad (D.out.kb F A.out a9 C.out o.out);have J:=ad ap;clear E ap F D I H bd;go_wp2_with fail;refine(Tj bb B tx z J.out (by omega)).mono ?_;rintro e w7⟨rfl,rfl⟩;by_cases hl:tx.length≤262144
   ·have i3:(tx.length:Int)≤262144:=by omega
    have q:=ad (Pb (h:=h.data.toList) (t:=t.data.toList) (fs:=fs) (s:=s.data.toList) (by rw[M.out];exact hl));go_wp2_with fail;refine(C2 bb B tx z J.out (by omega)).mono ?_;rintro e w8⟨rfl,ay⟩;have a5:=ad (m.out.below.trans (ay.mono (by have:=A.out;omega)));clear ay;go_wp2_with fail;go_ret2;rw[q.out,M.out];exact⟨rfl,a5.out⟩
   ·have i3:(262144:Int)<(tx.length:Int):=by omega
    have q:=ad (rI (h:=h.data.toList) (t:=t.data.toList) (fs:=fs) (s:=s.data.toList) (by rw[M.out];unfold oP;omega));go_wp2_with fail;go_ret2;rw[q.out];exact⟨rfl,m.out.below⟩
theorem DF(name key:ByteArray)(has:Bool)(w:World)(p:key.size≤140737488351232):
 Calls Tryz.prog 114 #[.string name,.string key,.bool has] w (cN w (.string ⟨(eT name.data.toList key.data.toList has).toArray⟩)):=by
 rcases nJ name.data.toList with a|a|a|a|a|a|a
 ·obtain rfl:=dn a;have c:=ad (show eT (⟨kX.toArray⟩:ByteArray).data.toList key.data.toList has=[104,111,115,116] from rfl);have o:=ad a;clear a;have hq:((⟨[104,111,115,116].toArray⟩:ByteArray).toList==[99,111,111,107,105,101])=false:=by rw[oE];rfl
  have i:=Eh;go_enter Tryz.func114,Tryz.ntmps114;go_wp2_with fail;refine(bO _).mono ?_;rintro e n⟨b,k,l,m,rfl,d,h⟩;have j:=RY d;go_wp2;go_ret;rw[c.out];exact⟨jF (by simp),h⟩
 ·obtain rfl:=dn a;have c:=ad (show eT (⟨dZ.toArray⟩:ByteArray).data.toList key.data.toList has=dP from rfl);have o:=ad a;clear a;have hq:((⟨dP.toArray⟩:ByteArray).toList==[99,111,111,107,105,101])=false:=by rw[oE];rfl
  have i:=Eh;go_enter Tryz.func114,Tryz.ntmps114;go_wp2_with fail;refine(bO _).mono ?_;rintro e n⟨b,k,l,m,rfl,d,h⟩;have j:=RZ d;go_wp2;go_ret;rw[c.out];exact⟨jF (by simp),h⟩
 ·obtain rfl:=dn a;have c:=ad (show eT (⟨iE.toArray⟩:ByteArray).data.toList key.data.toList has=agentName from rfl);have o:=ad a;clear a;have hq:((⟨agentName.toArray⟩:ByteArray).toList==[99,111,111,107,105,101])=false:=by rw[oE];rfl
  have i:=Eh;go_enter Tryz.func114,Tryz.ntmps114;go_wp2_with fail;refine(bO _).mono ?_;rintro e n⟨b,k,l,m,rfl,d,h⟩;have j:=R0 d;go_wp2;go_ret;rw[c.out];exact⟨jF (by simp),h⟩
 ·obtain rfl:=dn a;clear a;rcases has with _|_
  ·have c:=ad (show eT (⟨eU.toArray⟩:ByteArray).data.toList key.data.toList false=bA from rfl);have hq:((⟨bA.toArray⟩:ByteArray).toList==[99,111,111,107,105,101])=true:=by rw[oE];rfl
   have i:=Eh;go_enter Tryz.func114,Tryz.ntmps114;go_wp2_with fail;refine(bO _).mono ?_;rintro e n⟨b,k,l,m,rfl,d,h⟩;have j:=JO d;go_wp2;go_ret;rw[c.out];exact⟨jF (by simp[bA]),h⟩
  ·have c:=ad (show eT (⟨eU.toArray⟩:ByteArray).data.toList key.data.toList true=(bA++[46]++key.data.toList) from rfl);have hq:((⟨bA.toArray⟩:ByteArray).toList==[99,111,111,107,105,101])=true:=by rw[oE];rfl
   have i:=Eh;go_enter Tryz.func114,Tryz.ntmps114;go_wp2_with fail;refine(bO _).mono ?_;rintro e n⟨b,k,l,m,rfl,d,h⟩;have j:=JO d;go_wp2;go_ret;rw[c.out];exact⟨jF (by simp[bA]),h⟩
 ·obtain rfl:=dn a;have c:=ad (show eT (⟨iF.toArray⟩:ByteArray).data.toList key.data.toList has=[] from rfl);have o:=ad a;clear a;have i:=Eh;go_enter Tryz.func114,Tryz.ntmps114;go_wp2_with fail;refine(bO _).mono ?_;rintro e n⟨b,k,l,m,rfl,d,h⟩;have j:=R1 d;go_wp2;go_ret;rw[c.out];exact⟨jF (by simp),h⟩
 ·obtain rfl:=dn a;have c:=ad (show eT (⟨kY.toArray⟩:ByteArray).data.toList key.data.toList has=ed from rfl);have o:=ad a;clear a;have hq:((⟨ed.toArray⟩:ByteArray).toList==[99,111,111,107,105,101])=false:=by rw[oE];rfl
  have i:=Eh;go_enter Tryz.func114,Tryz.ntmps114;go_wp2_with fail;refine(bO _).mono ?_;rintro e n⟨b,k,l,m,rfl,d,h⟩;have j:=R3 d;go_wp2;go_ret;rw[c.out];exact⟨jF (by simp),h⟩
 ·have c:=ad (show eT name.data.toList key.data.toList has=[] by unfold eT;rw[Lm a];rfl);have o:=ad a;clear a;have i:=Eh;go_enter Tryz.func114,Tryz.ntmps114;go_wp2_with fail;refine(bO _).mono ?_;rintro e n⟨b,k,l,m,rfl,d,h⟩;have j:=R4 d o.out;go_wp2;go_ret;rw[c.out];exact⟨jF (by simp),h⟩
theorem IZ(c pa d:Bs)(j:Int)(hq:Bool)(w:World)(hg:GX w)(hl:xv ⟨[104,116,116,112],c,j,pa,d,hq⟩):
 Calls Tryz.prog 23 #[uV ⟨[104,116,116,112],c,j,pa,d,hq⟩] w (cN w (.int .i64 (aQ ⟨[104,116,116,112],c,j,pa,d,hq⟩))):=by
 have Z:=Lib.hid (sP w ⟨[104,116,116,112],c,j,pa,d,hq⟩);have E:=Lib.hid ((Below.refl w.heap.size w).alloc (ag _) (.cells #[.string ⟨([104,116,116,112]:Bs).toArray⟩,.string ⟨c.toArray⟩,.int .i64 j,.string ⟨pa.toArray⟩,.string ⟨d.toArray⟩,.bool hq] 34));have H:=Lib.hid hg;have HL:=Lib.hid hl;obtain⟨l1,l2,l3,l4⟩:=hl;simp only at l1 l2 l3 l4;clear hg l1;by_cases I:1≤c.length∧c.length≤253
 ·have G:¬c=[]:=by rintro rfl;simp at I
  have a2:c.isEmpty=false:=by cases c with|nil=>exact(G rfl).elim|cons a b=>rfl
  have k2:(c.length:Int)≤253:=by omega
  go_enter Tryz.func23,Tryz.ntmps23;go_wp2_with fail;generalize w.alloc (.cells #[.string ⟨([104,116,116,112]:Bs).toArray⟩,.string ⟨c.toArray⟩,.int .i64 j,.string ⟨pa.toArray⟩,.string ⟨d.toArray⟩,.bool hq] 34)=W at*;refine(tm c W (by omega)).mono ?_;rintro e w1⟨rfl,O⟩;have M:=Lib.hid (Z.out.next O);have o:=Lib.hid (E.out.trans (O.mono E.out.size));obtain⟨q,r,s,t,x,y⟩:=M.out.cells;simp only at q r s t x y;clear O Z E;rcases D:c.all mh with _|_
  ·have l:=Lib.hid (cV (Bp (u:=⟨[104,116,116,112],c,j,pa,d,hq⟩) D));have al:=tq D;have a3:¬Lib.trimS c dA=[]:=by intro e;rw[e] at al;cases al
   clear D;go_wp2_with fail;go_ret;exact⟨bW l.out.symm,o.out⟩
  ·rw[Br D];have ab:=Lib.hid D;clear D;by_cases R:0≤j∧j≤65535
   ·obtain⟨V,X⟩:=R;go_wp2_with fail;refine(cj ⟨pa.toArray⟩ ⟨#[47]⟩ w1).mono ?_;rintro e Y⟨rfl,rfl⟩;rcases K:Lib.hasPrefix pa [47] with _|_
    ·have l:=Lib.hid (cV (tj (u:=⟨[104,116,116,112],c,j,pa,d,hq⟩) (by unfold jE;rw[K];rfl)));clear K;go_wp2_with fail;go_ret;exact⟨bW l.out.symm,o.out⟩
    ·have aU:=Lib.hid K;clear K;go_wp2_with fail;refine(FG pa w1 (H.out.next o.out).aq (by omega)).mono ?_;rintro e Y⟨rfl,Q⟩;have aa:=Lib.hid (M.out.next Q);have p:=Lib.hid (o.out.trans (Q.mono o.out.size));clear Q q r s t x y M o;obtain⟨q,r,s,t,x,y⟩:=aa.out.cells;simp only at q r s t x y;rcases J:bh mi pa with _|_
     ·have l:=Lib.hid (cV (tj (u:=⟨[104,116,116,112],c,j,pa,d,hq⟩) (by unfold jE;rw[J,CU])));clear J;go_wp2_with fail;go_ret;exact⟨bW l.out.symm,p.out⟩
     ·have aN:=Lib.hid J;clear J;by_cases S:hq=false∧¬d=[]
      ·obtain⟨q1,q2⟩:=S;have l:=Lib.hid (cV (Qn (u:=⟨[104,116,116,112],c,j,pa,d,hq⟩) q1 q2));subst q1;have a4:d.isEmpty=false:=by cases d with|nil=>exact(q2 rfl).elim|cons a b=>rfl
       go_wp2_with fail;go_ret;exact⟨bW l.out.symm,p.out⟩
      ·have N:=Lib.hid (show hq=true∨d=[] by
        cases hq
        ·exact .inr (by by_cases h:d=[];exact h;exact(S ⟨rfl,h⟩).elim)
        ·exact .inl rfl)
       clear S;rcases B:bh mB d with _|_
       ·have a0:hq=true:=by
         rcases N.out with h|h
         ·exact h
         ·rw[h] at B;cases B
        subst a0;have l:=Lib.hid (cV (Bq (u:=⟨[104,116,116,112],c,j,pa,d,true⟩) B));go_wp2_with fail;refine(qq d Y (H.out.next p.out).aq (by omega)).mono ?_;rintro e n⟨rfl,C⟩;have F:=Lib.hid (p.out.trans (C.mono p.out.size));rw[B];clear C B;go_wp2_with fail;go_ret;exact⟨bW l.out.symm,F.out⟩
       ·have HF:=Lib.hid ((ef ⟨[104,116,116,112],c,j,pa,d,hq⟩).2 ⟨.inl rfl,I,ab.out,⟨V,X⟩,mj (by unfold jE;rw[aU.out,aN.out];rfl),N.out,B⟩);have ay:=Lib.hid (show∀m:Nat,(0:Int)≤(m:Int) from fun m=>by omega);obtain⟨z,L⟩:∃z,gU ⟨[104,116,116,112],c,j,pa,d,hq⟩=z:=⟨_,rfl⟩;have ap:=Lib.hid (show z.length≤ee→aQ ⟨[104,116,116,112],c,j,pa,d,hq⟩=0 from fun h=>yW HF.out (by rw[L];exact h));have av:=Lib.hid (show ee<z.length→aQ ⟨[104,116,116,112],c,j,pa,d,hq⟩=3 from fun h=>yV HF.out (by rw[L];exact h));have am:=Lib.hid (show∀n,Hid (Below w.heap.size w n)→Calls Tryz.prog 24 #[uV ⟨[104,116,116,112],c,j,pa,d,hq⟩] n (cN n (.string ⟨z.toArray⟩)) from fun n h=>by rw[←L];exact CJ ⟨[104,116,116,112],c,j,pa,d,hq⟩ n (H.out.next h.out) HL.out ⟨V,X⟩);clear L;rcases hq with _|_;all_goals
         first
         |(have a1:d=[]:=by(rcases N.out with h|h;cases h;exact h)
           subst a1)
         |skip
         go_wp2_with fail;refine(qq _ Y (H.out.next p.out).aq (by first|exact aH _|omega)).mono ?_;rintro e n⟨rfl,C⟩;have an:=Lib.hid (aa.out.next C);have F:=Lib.hid (p.out.trans (C.mono p.out.size));rw[B];clear C q r s t x y;obtain⟨q,r,s,t,x,y⟩:=an.out.cells;simp only at q r s t x y;go_wp2_with fail
         go_loop [63] (fun i=>∃k:Nat,k≤c.length∧i=.int .i64 k) (fun i=>c.length-(intOf i).toNat)
         case atStart=>exact⟨0,aH _,rfl⟩
         case round=>
          obtain⟨k,hk,rfl⟩:=hrel;by_cases A:k<c.length
          ·have i1:(k:Int)<(c.length:Int):=by omega
           have i0:(0:Int)≤(k:Int):=by omega
           have ai:dA.contains (c[k]'A)=true:=by
            rw[show dA.contains (c[k]'A)=mh (c[k]'A) from congrFun od _]
            exact eV.1 ab.out _ (wI A)
           have ao:=Lib.hid ai;clear ai;go_wp2_with fail;refine(eO ⟨dA.toArray⟩ (c[k]'A) n).mono ?_
           rintro e w4⟨rfl,rfl⟩;rw[ah (show(⟨dA.toArray⟩:ByteArray).data.toList.contains (c[k]'A)=true from ao.out)]
           generalize lead (·!=c[k]'A) (⟨dA.toArray⟩:ByteArray).data.toList=m at*
           have hm:=ay.out m;go_wp2_with fail
           go_round
           case rel=>exact⟨k+1,by omega,by go_num⟩
           case measure=>(simp[intOf]<;>omega)
          ·have i1:(c.length:Int)≤(k:Int):=by omega
           go_wp2_with fail;refine(am.out n F).mono ?_;rintro e w4⟨rfl,af⟩;have ac:=Lib.hid (F.out.trans (af.mono F.out.size));clear af q r s t x y;by_cases T:z.length≤ee
           ·have l:=Lib.hid (ap.out T);unfold ee at T;have ht:(z.length:Int)≤1024:=by omega
            go_wp2_with fail;go_ret;exact⟨bW l.out.symm,ac.out⟩
           ·have l:=Lib.hid (av.out (by omega));unfold ee at T;have ht:(1024:Int)<(z.length:Int):=by omega
            go_wp2_with fail;go_ret;exact⟨bW l.out.symm,ac.out⟩
   ·have l:=Lib.hid (cV (yU (u:=⟨[104,116,116,112],c,j,pa,d,hq⟩) R));by_cases V:j<0
    ·go_wp2_with fail;go_ret;exact⟨bW l.out.symm,o.out⟩
    ·have p0:0≤j:=by omega
     have X:65535<j:=by omega
     clear R;go_wp2_with fail;go_ret;exact⟨bW l.out.symm,o.out⟩
 ·have l:=Lib.hid (cV (FF (u:=⟨[104,116,116,112],c,j,pa,d,hq⟩) I));by_cases G:c=[]
  ·subst G;go_enter Tryz.func23,Tryz.ntmps23;go_wp2_with fail;go_ret;exact⟨bW l.out.symm,E.out⟩
  ·have a2:c.isEmpty=false:=by cases c with|nil=>exact(G rfl).elim|cons a b=>rfl
   have k2:(253:Int)<(c.length:Int):=by have:0<c.length:=List.length_pos_iff.2 G;omega
   clear I;go_enter Tryz.func23,Tryz.ntmps23;go_wp2_with fail;go_ret;exact⟨bW l.out.symm,E.out⟩
theorem FI(c pa d:Bs)(j:Int)(hq:Bool)(w:World)(hg:GX w)(hl:xv ⟨[104,116,116,112,115],c,j,pa,d,hq⟩):
 Calls Tryz.prog 23 #[uV ⟨[104,116,116,112,115],c,j,pa,d,hq⟩] w (cN w (.int .i64 (aQ ⟨[104,116,116,112,115],c,j,pa,d,hq⟩))):=by
 have Z:=Lib.hid (sP w ⟨[104,116,116,112,115],c,j,pa,d,hq⟩);have E:=Lib.hid ((Below.refl w.heap.size w).alloc (ag _) (.cells #[.string ⟨([104,116,116,112,115]:Bs).toArray⟩,.string ⟨c.toArray⟩,.int .i64 j,.string ⟨pa.toArray⟩,.string ⟨d.toArray⟩,.bool hq] 34));have H:=Lib.hid hg;have HL:=Lib.hid hl;obtain⟨l1,l2,l3,l4⟩:=hl;simp only at l1 l2 l3 l4;clear hg l1;by_cases I:1≤c.length∧c.length≤253
 ·have G:¬c=[]:=by rintro rfl;simp at I
  have a2:c.isEmpty=false:=by cases c with|nil=>exact(G rfl).elim|cons a b=>rfl
  have k2:(c.length:Int)≤253:=by omega
  go_enter Tryz.func23,Tryz.ntmps23;go_wp2_with fail;generalize w.alloc (.cells #[.string ⟨([104,116,116,112,115]:Bs).toArray⟩,.string ⟨c.toArray⟩,.int .i64 j,.string ⟨pa.toArray⟩,.string ⟨d.toArray⟩,.bool hq] 34)=W at*;refine(tm c W (by omega)).mono ?_;rintro e w1⟨rfl,O⟩;have M:=Lib.hid (Z.out.next O);have o:=Lib.hid (E.out.trans (O.mono E.out.size));obtain⟨q,r,s,t,x,y⟩:=M.out.cells;simp only at q r s t x y;clear O Z E;rcases D:c.all mh with _|_
  ·have l:=Lib.hid (cV (Bp (u:=⟨[104,116,116,112,115],c,j,pa,d,hq⟩) D));have al:=tq D;have a3:¬Lib.trimS c dA=[]:=by intro e;rw[e] at al;cases al
   clear D;go_wp2_with fail;go_ret;exact⟨bW l.out.symm,o.out⟩
  ·rw[Br D];have ab:=Lib.hid D;clear D;by_cases R:0≤j∧j≤65535
   ·obtain⟨V,X⟩:=R;go_wp2_with fail;refine(cj ⟨pa.toArray⟩ ⟨#[47]⟩ w1).mono ?_;rintro e Y⟨rfl,rfl⟩;rcases K:Lib.hasPrefix pa [47] with _|_
    ·have l:=Lib.hid (cV (tj (u:=⟨[104,116,116,112,115],c,j,pa,d,hq⟩) (by unfold jE;rw[K];rfl)));clear K;go_wp2_with fail;go_ret;exact⟨bW l.out.symm,o.out⟩
    ·have aU:=Lib.hid K;clear K;go_wp2_with fail;refine(FG pa w1 (H.out.next o.out).aq (by omega)).mono ?_;rintro e Y⟨rfl,Q⟩;have aa:=Lib.hid (M.out.next Q);have p:=Lib.hid (o.out.trans (Q.mono o.out.size));clear Q q r s t x y M o;obtain⟨q,r,s,t,x,y⟩:=aa.out.cells;simp only at q r s t x y;rcases J:bh mi pa with _|_
     ·have l:=Lib.hid (cV (tj (u:=⟨[104,116,116,112,115],c,j,pa,d,hq⟩) (by unfold jE;rw[J,CU])));clear J;go_wp2_with fail;go_ret;exact⟨bW l.out.symm,p.out⟩
     ·have aN:=Lib.hid J;clear J;by_cases S:hq=false∧¬d=[]
      ·obtain⟨q1,q2⟩:=S;have l:=Lib.hid (cV (Qn (u:=⟨[104,116,116,112,115],c,j,pa,d,hq⟩) q1 q2));subst q1;have a4:d.isEmpty=false:=by cases d with|nil=>exact(q2 rfl).elim|cons a b=>rfl
       go_wp2_with fail;go_ret;exact⟨bW l.out.symm,p.out⟩
      ·have N:=Lib.hid (show hq=true∨d=[] by
        cases hq
        ·exact .inr (by by_cases h:d=[];exact h;exact(S ⟨rfl,h⟩).elim)
        ·exact .inl rfl)
       clear S;rcases B:bh mB d with _|_
       ·have a0:hq=true:=by
         rcases N.out with h|h
         ·exact h
         ·rw[h] at B;cases B
        subst a0;have l:=Lib.hid (cV (Bq (u:=⟨[104,116,116,112,115],c,j,pa,d,true⟩) B));go_wp2_with fail;refine(qq d Y (H.out.next p.out).aq (by omega)).mono ?_;rintro e n⟨rfl,C⟩;have F:=Lib.hid (p.out.trans (C.mono p.out.size));rw[B];clear C B;go_wp2_with fail;go_ret;exact⟨bW l.out.symm,F.out⟩
       ·have HF:=Lib.hid ((ef ⟨[104,116,116,112,115],c,j,pa,d,hq⟩).2 ⟨.inr rfl,I,ab.out,⟨V,X⟩,mj (by unfold jE;rw[aU.out,aN.out];rfl),N.out,B⟩);have ay:=Lib.hid (show∀m:Nat,(0:Int)≤(m:Int) from fun m=>by omega);obtain⟨z,L⟩:∃z,gU ⟨[104,116,116,112,115],c,j,pa,d,hq⟩=z:=⟨_,rfl⟩;have ap:=Lib.hid (show z.length≤ee→aQ ⟨[104,116,116,112,115],c,j,pa,d,hq⟩=0 from fun h=>yW HF.out (by rw[L];exact h));have av:=Lib.hid (show ee<z.length→aQ ⟨[104,116,116,112,115],c,j,pa,d,hq⟩=3 from fun h=>yV HF.out (by rw[L];exact h));have am:=Lib.hid (show∀n,Hid (Below w.heap.size w n)→Calls Tryz.prog 24 #[uV ⟨[104,116,116,112,115],c,j,pa,d,hq⟩] n (cN n (.string ⟨z.toArray⟩)) from fun n h=>by rw[←L];exact CJ ⟨[104,116,116,112,115],c,j,pa,d,hq⟩ n (H.out.next h.out) HL.out ⟨V,X⟩);clear L;rcases hq with _|_;all_goals
         first
         |(have a1:d=[]:=by(rcases N.out with h|h;cases h;exact h)
           subst a1)
         |skip
         go_wp2_with fail;refine(qq _ Y (H.out.next p.out).aq (by first|exact aH _|omega)).mono ?_;rintro e n⟨rfl,C⟩;have an:=Lib.hid (aa.out.next C);have F:=Lib.hid (p.out.trans (C.mono p.out.size));rw[B];clear C q r s t x y;obtain⟨q,r,s,t,x,y⟩:=an.out.cells;simp only at q r s t x y;go_wp2_with fail
         go_loop [63] (fun i=>∃k:Nat,k≤c.length∧i=.int .i64 k) (fun i=>c.length-(intOf i).toNat)
         case atStart=>exact⟨0,aH _,rfl⟩
         case round=>
          obtain⟨k,hk,rfl⟩:=hrel;by_cases A:k<c.length
          ·have i1:(k:Int)<(c.length:Int):=by omega
           have i0:(0:Int)≤(k:Int):=by omega
           have ai:dA.contains (c[k]'A)=true:=by
            rw[show dA.contains (c[k]'A)=mh (c[k]'A) from congrFun od _]
            exact eV.1 ab.out _ (wI A)
           have ao:=Lib.hid ai;clear ai;go_wp2_with fail;refine(eO ⟨dA.toArray⟩ (c[k]'A) n).mono ?_
           rintro e w4⟨rfl,rfl⟩;rw[ah (show(⟨dA.toArray⟩:ByteArray).data.toList.contains (c[k]'A)=true from ao.out)]
           generalize lead (·!=c[k]'A) (⟨dA.toArray⟩:ByteArray).data.toList=m at*
           have hm:=ay.out m;go_wp2_with fail
           go_round
           case rel=>exact⟨k+1,by omega,by go_num⟩
           case measure=>(simp[intOf]<;>omega)
          ·have i1:(c.length:Int)≤(k:Int):=by omega
           go_wp2_with fail;refine(am.out n F).mono ?_;rintro e w4⟨rfl,af⟩;have ac:=Lib.hid (F.out.trans (af.mono F.out.size));clear af q r s t x y;by_cases T:z.length≤ee
           ·have l:=Lib.hid (ap.out T);unfold ee at T;have ht:(z.length:Int)≤1024:=by omega
            go_wp2_with fail;go_ret;exact⟨bW l.out.symm,ac.out⟩
           ·have l:=Lib.hid (av.out (by omega));unfold ee at T;have ht:(1024:Int)<(z.length:Int):=by omega
            go_wp2_with fail;go_ret;exact⟨bW l.out.symm,ac.out⟩
   ·have l:=Lib.hid (cV (yU (u:=⟨[104,116,116,112,115],c,j,pa,d,hq⟩) R));by_cases V:j<0
    ·go_wp2_with fail;go_ret;exact⟨bW l.out.symm,o.out⟩
    ·have p0:0≤j:=by omega
     have X:65535<j:=by omega
     clear R;go_wp2_with fail;go_ret;exact⟨bW l.out.symm,o.out⟩
 ·have l:=Lib.hid (cV (FF (u:=⟨[104,116,116,112,115],c,j,pa,d,hq⟩) I));by_cases G:c=[]
  ·subst G;go_enter Tryz.func23,Tryz.ntmps23;go_wp2_with fail;go_ret;exact⟨bW l.out.symm,E.out⟩
  ·have a2:c.isEmpty=false:=by cases c with|nil=>exact(G rfl).elim|cons a b=>rfl
   have k2:(253:Int)<(c.length:Int):=by have:0<c.length:=List.length_pos_iff.2 G;omega
   clear I;go_enter Tryz.func23,Tryz.ntmps23;go_wp2_with fail;go_ret;exact⟨bW l.out.symm,E.out⟩
theorem kJ(u:U)(w:World)(i:GX w)(j:xv u):Calls Tryz.prog 23 #[uV u] w (cN w (.int .i64 (aQ u))):=by
 by_cases e:u.scheme=my
 ·obtain⟨d,a,b,pa,c,hq⟩:=u;obtain rfl:d=[104,116,116,112]:=e;exact IZ a pa c b hq w i j
 ·by_cases h:u.scheme=ir
  ·obtain⟨d,a,b,pa,c,hq⟩:=u;obtain rfl:d=[104,116,116,112,115]:=h;exact FI a pa c b hq w i j
  ·exact sQ u w e h
theorem pZ{u:U}(h:okB u=true):xv u:=by
 unfold okB at h;rw[cW,eM] at h;have a:=h.2;have f:=(ef u).1 h.1;unfold ee at a;unfold gU at a;simp only[bB] at a;have hq:u.query.length≤10000:=by
  rcases f.query with e|e
  ·rw[e] at a;simp at a;omega
  ·rw[e];exact aH _
 exact⟨by omega,by omega,by omega,hq⟩
theorem wa(u:U)(w:World)(o:GX w)(p:xv u):Calls Tryz.prog 16 #[uV u] w (cN w (.string ⟨(nE u).toArray⟩)):=by
 have q:=Lib.hid (sP w u);have i:=Lib.hid ((Below.refl w.heap.size w).alloc (ag _) (.cells #[.string ⟨u.scheme.toArray⟩,.string ⟨u.host.toArray⟩,.int .i64 u.port,.string ⟨u.path.toArray⟩,.string ⟨u.query.toArray⟩,.bool u.hq] 34));have l:=Lib.hid o;have m:=Lib.hid p;clear o p;go_enter Tryz.func16,Tryz.ntmps16;go_wp2_with fail;generalize w.alloc (.cells #[.string ⟨u.scheme.toArray⟩,.string ⟨u.host.toArray⟩,.int .i64 u.port,.string ⟨u.path.toArray⟩,.string ⟨u.query.toArray⟩,.bool u.hq] 34)=W at*;refine(kJ u W (l.out.next i.out) m.out).mono ?_;rintro e x⟨rfl,j⟩;have r:=Lib.hid (q.out.next j);have a:=Lib.hid (i.out.trans (j.mono i.out.size));clear j;obtain⟨y,z,A,B,C,D⟩:=r.out.cells;by_cases b:aQ u=0
 ·have k:=(eC u).1 b;have d:=Lib.hid (show nE u=gU u by unfold nE;rw[k];rfl);have c:=k;unfold okB at c;rw[cW] at c;have s:=Lib.hid ((ef u).1 c.1).port;rw[b];clear b k c;go_wp2_with fail;refine(CJ u x (l.out.next a.out) m.out s.out).mono ?_;rintro e E⟨rfl,n⟩;have t:=Lib.hid (a.out.trans (n.mono a.out.size));clear n;go_wp2_with fail;go_ret;exact⟨by rw[d.out];rfl,t.out⟩
 ·have d:=Lib.hid (show nE u=[] by
   have:okB u=false:=by cases h:okB u;rfl;exact(b ((eC u).2 h)).elim
   unfold nE;rw[this];rfl)
  go_wp2_with fail;go_ret;exact⟨by rw[d.out];rfl,a.out⟩
