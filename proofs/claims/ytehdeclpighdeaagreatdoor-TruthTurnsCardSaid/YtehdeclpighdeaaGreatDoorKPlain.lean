/- Plain facts on lists of bytes, without any program: scanning, trimming, cutting, pieces, fields, and what the variables of a request are. -/
import Derived.Lib.SlTrimSet
import Derived.Lib.Join
import Derived.Lib.IndexMore
import Derived.Lib.IndexBytes
import Derived.Lib.CutLaws
import Derived.Lib.SplitLaws
namespace Go.Proofs.YtehdeclpighdeaaGreatDoor
open Go.Lib
set_option linter.unusedVariables false
abbrev Bs := List UInt8
def ws (c : UInt8) : Bool := decide (c.toNat = 32 ∨ c.toNat = 9)
def dig (c : UInt8) : Bool := decide (48 ≤ c.toNat ∧ c.toNat ≤ 57)
def keyc (c : UInt8) : Bool := decide ((65 ≤ c.toNat ∧ c.toNat ≤ 90 ∨ 97 ≤ c.toNat ∧ c.toNat ≤ 122 ∨ 48 ≤ c.toNat ∧ c.toNat ≤ 57) ∨ c.toNat = 95 ∨ c.toNat = 45 ∨ c.toNat = 46)
def lowc (c : UInt8) : UInt8 := if 65 ≤ c.toNat ∧ c.toNat ≤ 90 then c + 32 else c
theorem u8eq {a b : UInt8} : a = b ↔ a.toNat = b.toNat := UInt8.toNat_inj.symm
theorem bs_ext {s : ByteArray} {l : Bs} (h : s.data.toList = l) : s = ⟨l.toArray⟩ := by subst h; rfl
theorem bs_size (s : ByteArray) : s.data.toList.length = s.size := (Lib.size_eq s).symm
theorem bs_get (s : ByteArray) (k : Nat) (h : k < s.size) : s.data.toList[k]? = some s[k] := Lib.data_getElem? s k h
def lead (p : UInt8 → Bool) (l : Bs) : Nat := (l.takeWhile p).length
theorem lead_le (p : UInt8 → Bool) : ∀ l : Bs, lead p l ≤ l.length
  | [] => Nat.le_refl _
  | c :: l => by
    unfold lead
    by_cases h : p c
    · have := lead_le p l; simp [h]; exact this
    · simp [h]
theorem lead_nil (p : UInt8 → Bool) : lead p [] = 0 := rfl
theorem lead_cons (p : UInt8 → Bool) (c : UInt8) (l : Bs) : lead p (c :: l) = if p c then lead p l + 1 else 0 := by
  unfold lead; by_cases h : p c <;> simp [h]
theorem drop_lead (p : UInt8 → Bool) : ∀ l : Bs, l.drop (lead p l) = l.dropWhile p
  | [] => rfl
  | c :: l => by
    rw [lead_cons]
    by_cases h : p c
    · simp [h, drop_lead p l]
    · simp [h]
theorem take_lead (p : UInt8 → Bool) : ∀ l : Bs, l.take (lead p l) = l.takeWhile p
  | [] => rfl
  | c :: l => by
    rw [lead_cons]
    by_cases h : p c
    · simp [h, take_lead p l]
    · simp [h]
theorem dropWhile_nil_iff (p : UInt8 → Bool) : ∀ l : Bs, l.dropWhile p = [] ↔ l.all p = true
  | [] => by simp
  | c :: l => by
    by_cases h : p c
    · simp [h, dropWhile_nil_iff p l]
    · simp [h]
theorem lead_all (p : UInt8 → Bool) : ∀ l : Bs, lead p l = l.length ↔ l.all p = true
  | [] => by simp [lead_nil]
  | c :: l => by
    rw [lead_cons]
    by_cases h : p c
    · simp [h, lead_all p l]
    · simp [h]
def trim (l : Bs) : Bs := Lib.trimS l [32, 9]
theorem contains_ws (c : UInt8) : ([32, 9] : Bs).contains c = ws c := by
  have h : ∀ a : UInt8, (c == a) = decide (c.toNat = a.toNat) := fun a => by
    rw [Bool.eq_iff_iff]; simp [u8eq]
  simp only [List.contains_cons, List.contains_nil, Bool.or_false, h]
  unfold ws
  by_cases h1 : c.toNat = 32 <;> by_cases h2 : c.toNat = 9 <;> simp_all
theorem trim_eq (l : Bs) : trim l = ((l.reverse.dropWhile ws).reverse).dropWhile ws := by
  have : (fun c => ([32, 9] : Bs).contains c) = ws := funext contains_ws
  show List.dropWhile (fun c => ([32, 9] : Bs).contains c) (List.dropWhile (fun c => ([32, 9] : Bs).contains c) l.reverse).reverse = _
  rw [this]
def lower (l : Bs) : Bs := l.map lowc
def same (a b : Bs) : Bool := lower a == lower b
theorem lowc_up (c : UInt8) (h1 : (65 : Int) ≤ ↑c.toNat) (h2 : (↑c.toNat : Int) ≤ 90) : ((lowc c).toNat : Int) = (c.toNat : Int) + 32 := by
  unfold lowc; rw [if_pos (by omega)]
  rw [UInt8.toNat_add]
  have : (32 : UInt8).toNat = 32 := rfl
  rw [this]; omega
theorem lowc_other (c : UInt8) (h : ¬ ((65 : Int) ≤ ↑c.toNat ∧ (↑c.toNat : Int) ≤ 90)) : lowc c = c := by
  unfold lowc; rw [if_neg (by omega)]
theorem lower_length (l : Bs) : (lower l).length = l.length := by simp [lower]
end Go.Proofs.YtehdeclpighdeaaGreatDoor
namespace Go.Proofs.YtehdeclpighdeaaGreatDoor
open Go.Lib
set_option linter.unusedVariables false
def upto (c : UInt8) (l : Bs) : Bs := l.takeWhile (· != c)
def past (c : UInt8) (l : Bs) : Bs := (l.dropWhile (· != c)).drop 1
def hasB (c : UInt8) (l : Bs) : Bool := l.contains c
theorem has_cons (c x : UInt8) (l : Bs) : (x :: l).contains c = (x == c || l.contains c) := by
  rw [List.contains_cons]
  have : (c == x) = (x == c) := by
    by_cases h : c = x
    · subst h; rfl
    · rw [beq_eq_false_iff_ne.2 h, beq_eq_false_iff_ne.2 (Ne.symm h)]
  rw [this]
theorem index_byte (c : UInt8) : ∀ l : Bs, Lib.index l [c] = if l.contains c then (lead (· != c) l : Int) else -1
  | [] => rfl
  | x :: l => by
    have ih := index_byte c l
    unfold Lib.index
    rw [has_cons, lead_cons]
    by_cases hx : x = c
    · subst hx; simp [List.isPrefixOf]
    · have h1 : (x == c) = false := by simp [hx]
      have h2 : (c == x) = false := by simp; exact fun h => hx h.symm
      have h3 : (x != c) = true := by simp [hx]
      rw [h1, ih]
      simp only [List.isPrefixOf, h2, Bool.false_and, Bool.false_eq_true, if_false, Bool.false_or, h3, if_true]
      by_cases hc : l.contains c
      · rw [if_pos hc, if_pos hc]
        have : ((lead (· != c) l : Int) == -1) = false := by rw [beq_eq_false_iff_ne]; omega
        rw [this]; simp
      · rw [if_neg hc, if_neg hc]; rfl
theorem cut_byte (c : UInt8) (l : Bs) : Lib.cut l [c] = (upto c l, past c l, l.contains c) := by
  unfold Lib.cut upto past
  rw [index_byte]
  by_cases h : l.contains c
  · rw [if_pos h, if_pos (by omega)]
    rw [h]
    have : ((lead (· != c) l : Int)).toNat = lead (· != c) l := by omega
    rw [this, take_lead]
    simp only [List.length_cons, List.length_nil, Nat.zero_add]
    rw [← List.drop_drop, drop_lead]
  · rw [if_neg h, if_neg (by decide)]
    have hall : ∀ x ∈ l, (x != c) = true := by
      intro x hx
      simp only [bne_iff_ne, ne_eq]
      intro e; subst e; exact h (by simpa using hx)
    have h1 : l.takeWhile (· != c) = l := by
      rw [← take_lead, (lead_all _ l).2 (List.all_eq_true.2 hall), List.take_length]
    have h2 : l.dropWhile (· != c) = [] := (dropWhile_nil_iff _ l).2 (List.all_eq_true.2 hall)
    rw [h1, h2]; simp at h; simp [h]
def pieces (c : UInt8) : Bs → List Bs
  | [] => [[]]
  | x :: l => if x == c then [] :: pieces c l else (x :: (pieces c l).headD []) :: (pieces c l).tail
theorem pieces_cons (c x : UInt8) (l : Bs) : pieces c (x :: l) = if x == c then [] :: pieces c l else (x :: (pieces c l).headD []) :: (pieces c l).tail := rfl
theorem pieces_ne (c : UInt8) (l : Bs) : pieces c l ≠ [] := by
  cases l with
  | nil => simp [pieces]
  | cons x l => unfold pieces; split <;> simp
theorem pieces_cut (c : UInt8) : ∀ l : Bs, pieces c l = if l.contains c then upto c l :: pieces c (past c l) else [l]
  | [] => rfl
  | x :: l => by
    have ih := pieces_cut c l
    rw [has_cons, pieces_cons]
    by_cases hx : x = c
    · subst hx
      have hu : upto x (x :: l) = [] := by simp [upto]
      have hp : past x (x :: l) = l := by simp [past]
      rw [hu, hp]; simp
    · have h1 : (x == c) = false := by simp [hx]
      have h3 : (x != c) = true := by simp [hx]
      have hu : upto c (x :: l) = x :: upto c l := by simp [upto, h3]
      have hp : past c (x :: l) = past c l := by simp [past, h3]
      rw [h1, hu, hp]
      simp only [Bool.false_or, Bool.false_eq_true, if_false]
      by_cases hc : l.contains c
      · rw [if_pos hc, ih, if_pos hc]; rfl
      · rw [if_neg hc, ih, if_neg hc]; rfl
theorem past_lt (c : UInt8) (l : Bs) (h : l.contains c) : (past c l).length < l.length := by
  unfold past
  rw [← drop_lead, List.drop_drop, List.length_drop]
  have : 0 < l.length := by cases l with | nil => simp at h | cons => simp
  omega
theorem split_pieces (c : UInt8) (k : Nat) : ∀ l : Bs, Lib.count l [c] ≤ k → Lib.splitK [c] 0 k l = pieces c l := by
  induction k with
  | zero =>
    intro l h
    rw [Lib.count_one] at h
    have hc : l.contains c = false := by
      have : l.count c = 0 := by omega
      rw [List.count_eq_zero] at this; simpa using this
    rw [pieces_cut, hc]; rfl
  | succ k ih =>
    intro l h
    rw [pieces_cut]
    have hk := index_byte c l
    unfold Lib.splitK
    by_cases hc : l.contains c
    · rw [if_pos hc] at hk ⊢
      have hcut := cut_byte c l
      unfold Lib.cut at hcut
      rw [if_pos (by omega)] at hcut
      simp only [Prod.mk.injEq] at hcut
      have hne : (Lib.index l [c] == -1) = false := by rw [beq_eq_false_iff_ne]; omega
      rw [hne, hcut.2.1]
      simp only [Bool.false_eq_true, if_false, Nat.add_zero]
      rw [hcut.1, ih]
      have hi : Lib.index l [c] = (lead (· != c) l : Nat) := hk
      have := Lib.count_hit (by simp) hi
      rw [this] at h
      have hd : List.drop (lead (· != c) l + 1) l = past c l := by
        unfold past; rw [← drop_lead, List.drop_drop]
      simp only [List.length_cons, List.length_nil, Nat.zero_add] at h
      rw [hd] at h; omega
    · rw [if_neg hc] at hk ⊢
      rw [hk]; rfl
end Go.Proofs.YtehdeclpighdeaaGreatDoor
namespace Go.Proofs.YtehdeclpighdeaaGreatDoor
open Go.Lib
set_option linter.unusedVariables false
abbrev Fld := Bs × Bs
def values (fs : List Fld) (name : Bs) : List Bs := (fs.filter fun f => same f.1 name).map (·.2)
theorem values_append (a b : List Fld) (name : Bs) : values (a ++ b) name = values a name ++ values b name := by simp [values]
theorem take_snoc {α : Type} (l : List α) (k : Nat) (x : α) (h : l[k]? = some x) : l.take (k + 1) = l.take k ++ [x] := by
  rw [List.take_add_one, h]; rfl
theorem values_yes (fs : List Fld) (name : Bs) (k : Nat) (f : Fld) (h : fs[k]? = some f) (hs : same f.1 name = true) : values (fs.take (k + 1)) name = values (fs.take k) name ++ [f.2] := by
  rw [take_snoc fs k f h, values_append]; simp [values, hs]
theorem values_no (fs : List Fld) (name : Bs) (k : Nat) (f : Fld) (h : fs[k]? = some f) (hs : same f.1 name = false) : values (fs.take (k + 1)) name = values (fs.take k) name := by
  rw [take_snoc fs k f h, values_append]; simp [values, hs]
theorem values_len (fs : List Fld) (name : Bs) : (values fs name).length ≤ fs.length := by
  unfold values; rw [List.length_map]; exact List.length_filter_le _ _
theorem values_take_len (fs : List Fld) (name : Bs) (k : Nat) : (values (fs.take k) name).length ≤ k := by
  have := values_len (fs.take k) name
  rw [List.length_take] at this; omega
structure Lim (fs : List Fld) : Prop where
  many : fs.length ≤ 1000
  each : ∀ f ∈ fs, f.1.length + f.2.length ≤ 100000
theorem Lim.get {fs : List Fld} (h : Lim fs) {k : Nat} {f : Fld} (hf : fs[k]? = some f) : f.1.length + f.2.length ≤ 100000 := h.each f (List.mem_of_getElem? hf)
structure LimS (ls : List Bs) : Prop where
  many : ls.length ≤ 1000
  each : ∀ l ∈ ls, l.length ≤ 100000
theorem LimS.get {ls : List Bs} (h : LimS ls) {k : Nat} {l : Bs} (hf : ls[k]? = some l) : l.length ≤ 100000 := h.each l (List.mem_of_getElem? hf)
theorem Lim.values {fs : List Fld} (h : Lim fs) (name : Bs) : LimS (values fs name) := by
  refine ⟨Nat.le_trans (values_len fs name) h.many, fun l hl => ?_⟩
  unfold Go.Proofs.YtehdeclpighdeaaGreatDoor.values at hl
  obtain ⟨f, hf, rfl⟩ := List.mem_map.1 hl
  have := h.each f (List.mem_filter.1 hf).1
  omega
theorem lens_le (ls : List Bs) (h : ∀ l ∈ ls, l.length ≤ 100000) : lens ls ≤ 100000 * ls.length := by
  induction ls with
  | nil => simp [lens]
  | cons l ls ih =>
    have h1 := h l (by simp)
    have h2 := ih fun x hx => h x (by simp [hx])
    unfold lens at h2 ⊢
    simp only [List.map_cons, List.sum_cons, List.length_cons]
    omega
theorem join_len {ls : List Bs} (h : LimS ls) (sep : Bs) (hs : sep.length ≤ 2) : (join ls sep).length ≤ 100002000 := by
  cases ls with
  | nil => simp [join_nil]
  | cons x r =>
    rw [join_length]
    have := lens_le (x :: r) h.each
    have h1 := h.many
    simp only [List.length_cons] at h1 this
    have : sep.length * r.length ≤ 2 * r.length := Nat.mul_le_mul_right _ hs
    omega
def fget (fs : List Fld) (name : Bs) : Bs × Bool := (join (values fs name) [44, 32], decide (0 < (values fs name).length))
end Go.Proofs.YtehdeclpighdeaaGreatDoor
namespace Go.Proofs.YtehdeclpighdeaaGreatDoor
open Go.Lib
set_option linter.unusedVariables false
theorem pieces_many (c : UInt8) : ∀ l : Bs, (pieces c l).length ≤ l.length + 1
  | [] => by simp [pieces]
  | x :: l => by
    have := pieces_many c l
    have hne := pieces_ne c l
    rw [pieces_cons]
    split
    · simp; omega
    · have : 0 < (pieces c l).length := List.length_pos_iff.2 hne
      simp; omega
theorem pieces_each (c : UInt8) (n : Nat) (l : Bs) (hn : l.length ≤ n) : ∀ p ∈ pieces c l, p.length ≤ l.length := by
  induction n generalizing l with
  | zero =>
    have : l = [] := List.eq_nil_of_length_eq_zero (by omega)
    subst this; simp [pieces]
  | succ n ih =>
    rw [pieces_cut]
    by_cases hc : l.contains c
    · rw [if_pos hc]
      intro p hp
      rcases List.mem_cons.1 hp with rfl | hp
      · unfold upto; rw [← take_lead, List.length_take]; omega
      · have := past_lt c l hc
        have := ih (past c l) (by omega) p hp
        omega
    · rw [if_neg hc]; simp
theorem upto_len (c : UInt8) (l : Bs) : (upto c l).length ≤ l.length := by unfold upto; rw [← take_lead, List.length_take]; omega
theorem past_len (c : UInt8) (l : Bs) : (past c l).length ≤ l.length := by unfold past; rw [← drop_lead, List.drop_drop, List.length_drop]; omega
theorem dropWhile_len (p : UInt8 → Bool) (l : Bs) : (l.dropWhile p).length ≤ l.length := by rw [← drop_lead, List.length_drop]; omega
theorem trim_len (l : Bs) : (trim l).length ≤ l.length := by
  rw [trim_eq]
  refine Nat.le_trans (dropWhile_len _ _) ?_
  rw [List.length_reverse]
  refine Nat.le_trans (dropWhile_len _ _) ?_
  rw [List.length_reverse]; exact Nat.le_refl _
end Go.Proofs.YtehdeclpighdeaaGreatDoor
namespace Go.Proofs.YtehdeclpighdeaaGreatDoor
open Go.Lib
set_option linter.unusedVariables false
def cookieName : Bs := [99, 111, 111, 107, 105, 101]
def vcookies (fs : List Fld) : Bs × Bool := (join (values fs cookieName) [59, 32], decide (0 < (values fs cookieName).length))
def ckOf (key p : Bs) : Option Bs := if (trim p).contains 61 && upto 61 (trim p) == key then some (past 61 (trim p)) else none
def vcookie (fs : List Fld) (key : Bs) : Option Bs := (pieces 59 (vcookies fs).1).findSome? (ckOf key)
def quOf (key p : Bs) : Option Bs := if upto 61 p == key then some (past 61 p) else none
def vquery (t : Bs) : Option Bs := if t.contains 63 then some (past 63 t) else none
def vasked (t key : Bs) : Option Bs := (pieces 38 (past 63 t)).findSome? (quOf key)
def zeros : List Bs := [[113, 61, 48], [113, 61, 48, 46], [113, 61, 48, 46, 48], [113, 61, 48, 46, 48, 48], [113, 61, 48, 46, 48, 48, 48]]
def zq (t : Bs) : Bool := zeros.any (t == ·)
def zero (w : Bs) : Bool := zq (lower (trim w))
def lgOf (key p : Bs) : Bool := same (trim (upto 59 p)) key && !(pieces 59 p).tail.any zero
def langName : Bs := [97, 99, 99, 101, 112, 116, 45, 108, 97, 110, 103, 117, 97, 103, 101]
def vlang (fs : List Fld) (key : Bs) : Bool := (pieces 44 (fget fs langName).1).any (lgOf key)
def langV (b : Bool) : Bs := bif b then [116, 114, 117, 101] else []
theorem any_hit {α : Type} {ls : List α} {p : α → Bool} {k : Nat} {l : α} (hl : ls[k]? = some l) (hp : p l = true) : ls.any p = true :=
  List.any_eq_true.2 ⟨l, List.mem_of_getElem? hl, hp⟩
theorem pieces_head (c : UInt8) (l : Bs) : (pieces c l).head? = some (upto c l) := by
  rw [pieces_cut]
  by_cases h : l.contains c
  · rw [if_pos h]; rfl
  · rw [if_neg h]
    have hall : ∀ x ∈ l, (x != c) = true := by
      intro x hx
      simp only [bne_iff_ne, ne_eq]
      intro e; subst e; exact h (by simpa using hx)
    have h1 : upto c l = l := by
      unfold upto; rw [← take_lead, (lead_all _ l).2 (List.all_eq_true.2 hall), List.take_length]
    rw [h1]; rfl
theorem index_yes (c : UInt8) (l : Bs) (h : l.contains c = true) : Lib.index l [c] = (lead (· != c) l : Nat) := by rw [index_byte, if_pos h]
theorem index_no (c : UInt8) (l : Bs) (h : l.contains c = false) : Lib.index l [c] = -1 := by rw [index_byte, h]; rfl
theorem take_upto (c : UInt8) (l : Bs) : l.take (lead (· != c) l) = upto c l := take_lead _ _
theorem drop_past (c : UInt8) (l : Bs) : l.drop (lead (· != c) l + 1) = past c l := by
  unfold past; rw [← drop_lead, List.drop_drop]
theorem upto_all (c : UInt8) (l : Bs) (h : l.contains c = false) : upto c l = l := by
  have := pieces_head c l
  rw [pieces_cut, h] at this
  simpa using this.symm
theorem past_all (c : UInt8) (l : Bs) (h : l.contains c = false) : past c l = [] := by
  have h1 := congrArg List.length (upto_all c l h)
  unfold upto at h1
  rw [← take_lead, List.length_take] at h1
  have h2 := lead_le (· != c) l
  rw [← drop_past]
  exact List.drop_eq_nil_of_le (by omega)
theorem lead_lt (c : UInt8) (l : Bs) (h : l.contains c = true) : lead (· != c) l < l.length := by
  have h1 := lead_le (· != c) l
  rcases Nat.lt_or_ge (lead (· != c) l) l.length with h2 | h2
  · exact h2
  · have h3 : lead (· != c) l = l.length := by omega
    rw [lead_all, List.all_eq_true] at h3
    rw [List.contains_iff_mem] at h
    have := h3 c h; simp at this
theorem ext_past (t : Bs) (c : UInt8) (n : Nat) (hn : t.length ≤ n) : ((⟨t.toArray⟩ : ByteArray).extract (lead (· != c) t + 1) n).data.toList = past c t := by
  rw [Lib.extract_data, drop_past, List.take_of_length_le]
  rw [← drop_past, List.length_drop]; omega
theorem ckOf_no {key l : Bs} (h : (trim l).contains 61 = false) : ckOf key l = none := by unfold ckOf; rw [h]; rfl
end Go.Proofs.YtehdeclpighdeaaGreatDoor
namespace Go.Proofs.YtehdeclpighdeaaGreatDoor
open Go.Lib
set_option linter.unusedVariables false
def agentName : Bs := [117, 115, 101, 114, 45, 97, 103, 101, 110, 116]
def kBrowser : Bs := [98, 114, 111, 119, 115, 101, 114]
def kVersion : Bs := [118, 101, 114, 115, 105, 111, 110]
def kOs : Bs := [111, 115]
def tMsie : Bs := [77, 83, 73, 69, 32]
def tMozilla : Bs := [77, 111, 122, 105, 108, 108, 97, 47]
def tWindows : Bs := [87, 105, 110, 100, 111, 119, 115]
def tMac : Bs := [77, 97, 99]
def tX11 : Bs := [88, 49, 49]
def tLinux : Bs := [76, 105, 110, 117, 120]
def vd (c : UInt8) : Bool := decide (48 ≤ c.toNat ∧ c.toNat ≤ 57 ∨ c.toNat = 46)
def vbrowser (s : Bs) : Bs := bif Lib.contains s tMsie then [77, 83, 73, 69] else bif Lib.hasPrefix s tMozilla then [77, 79, 90, 73, 76, 76, 65] else [79, 84, 72, 69, 82]
def verAt (s : Bs) : Nat := bif Lib.contains s tMsie then (Lib.index s tMsie).toNat + 5 else lead (· != 47) s + 1
def vver (s : Bs) : Bs × Bool := ((s.drop (verAt s)).takeWhile vd, decide (0 < lead vd (s.drop (verAt s))))
def vos (s : Bs) : Bs := bif Lib.contains s tWindows then [87, 73, 78] else bif Lib.contains s tMac then [77, 65, 67] else bif Lib.contains s tX11 || Lib.contains s tLinux then [85, 78, 73, 88] else [79, 84, 72, 69, 82]
def vagent (s key : Bs) : Bs × Bool := bif key == kBrowser then (vbrowser s, true) else bif key == kVersion then vver s else bif key == kOs then (vos s, true) else ([], false)
def vua (fs : List Fld) (key : Bs) : Bs × Bool := bif (fget fs agentName).2 then vagent (fget fs agentName).1 key else ([], false)
theorem index_room' (s t : Bs) (h : Lib.contains s t = true) : (Lib.index s t).toNat + t.length ≤ s.length := by
  unfold Lib.contains at h
  have h0 := of_decide_eq_true h
  have := Lib.index_room s t h0
  omega
theorem vagent_browser (s key : Bs) (h : (key == kBrowser) = true) : vagent s key = (vbrowser s, true) := by unfold vagent; rw [h]; rfl
theorem vagent_version (s key : Bs) (h0 : (key == kBrowser) = false) (h : (key == kVersion) = true) : vagent s key = vver s := by unfold vagent; rw [h0, h]; rfl
theorem vagent_os (s key : Bs) (h0 : (key == kBrowser) = false) (h1 : (key == kVersion) = false) (h : (key == kOs) = true) : vagent s key = (vos s, true) := by unfold vagent; rw [h0, h1, h]; rfl
theorem vagent_other (s key : Bs) (h0 : (key == kBrowser) = false) (h1 : (key == kVersion) = false) (h : (key == kOs) = false) : vagent s key = ([], false) := by unfold vagent; rw [h0, h1, h]; rfl
end Go.Proofs.YtehdeclpighdeaaGreatDoor
namespace Go.Proofs.YtehdeclpighdeaaGreatDoor
open Go.Lib
set_option linter.unusedVariables false
def nHost : Bs := [72, 84, 84, 80, 95, 72, 79, 83, 84]
def nReferer : Bs := [72, 84, 84, 80, 95, 82, 69, 70, 69, 82, 69, 82]
def nAgent : Bs := [72, 84, 84, 80, 95, 85, 83, 69, 82, 95, 65, 71, 69, 78, 84]
def nCookie : Bs := [72, 84, 84, 80, 95, 67, 79, 79, 75, 73, 69]
def nQuery : Bs := [81, 85, 69, 82, 89, 95, 83, 84, 82, 73, 78, 71]
def nLang : Bs := [72, 84, 84, 80, 95, 65, 67, 67, 69, 80, 84, 95, 76, 65, 78, 71, 85, 65, 71, 69]
def refererName : Bs := [114, 101, 102, 101, 114, 101, 114]
def tab : List (Bs × Bs) := [(nHost, [104, 111, 115, 116]), (nReferer, refererName), (nAgent, agentName), (nCookie, cookieName), (nQuery, []), (nLang, langName)]
def names : List Bs := tab.map (·.1)
def vknown (name : Bs) : Bool := names.any (· == name)
def vkey (s : Bs) : Bool := decide (1 ≤ s.length ∧ s.length ≤ 64) && s.all keyc
end Go.Proofs.YtehdeclpighdeaaGreatDoor
namespace Go.Proofs.YtehdeclpighdeaaGreatDoor
open Go.Lib
set_option linter.unusedVariables false
def optP (o : Option Bs) : Bs × Bool := (o.getD [], o.isSome)
def vwhole (h t : Bs) (fs : List Fld) (name : Bs) : Bs × Bool :=
  bif name == nHost then (h, !h.isEmpty) else
  bif name == nReferer then fget fs refererName else
  bif name == nAgent then fget fs agentName else
  bif name == nCookie then vcookies fs else
  bif name == nQuery then optP (vquery t) else
  bif name == nLang then fget fs langName else ([], false)
def vpart (t : Bs) (fs : List Fld) (name key : Bs) : Bs × Bool :=
  bif name == nHost then ([], false) else
  bif name == nReferer then ([], false) else
  bif name == nAgent then vua fs key else
  bif name == nCookie then optP (vcookie fs key) else
  bif name == nQuery then optP (bif t.contains 63 then vasked t key else none) else
  bif name == nLang then (langV (vlang fs key), vlang fs key) else ([], false)
def vget (h t : Bs) (fs : List Fld) (name key : Bs) (has : Bool) : Bs × Bool :=
  bif has then bif vkey key then vpart t fs name key else ([], false) else vwhole h t fs name
end Go.Proofs.YtehdeclpighdeaaGreatDoor
namespace Go.Proofs.YtehdeclpighdeaaGreatDoor
open Go.Lib
set_option linter.unusedVariables false
theorem set_eq (cs : Bs) (p : UInt8 → Bool) (h : (List.range 256).all (fun n => cs.contains (UInt8.ofNat n) == p (UInt8.ofNat n)) = true) : (fun c => cs.contains c) = p := by
  funext c
  have h1 := List.all_eq_true.1 h c.toNat (by simp; exact c.toNat_lt)
  have h2 : UInt8.ofNat c.toNat = c := by simp
  rw [h2] at h1
  exact eq_of_beq h1
def keySet : Bs := [97, 98, 99, 100, 101, 102, 103, 104, 105, 106, 107, 108, 109, 110, 111, 112, 113, 114, 115, 116, 117, 118, 119, 120, 121, 122, 65, 66, 67, 68, 69, 70, 71, 72, 73, 74, 75, 76, 77, 78, 79, 80, 81, 82, 83, 84, 85, 86, 87, 88, 89, 90, 48, 49, 50, 51, 52, 53, 54, 55, 56, 57, 95, 45, 46]
theorem keySet_eq : (fun c => keySet.contains c) = keyc := set_eq _ _ (by decide +kernel)
def verSet : Bs := [48, 49, 50, 51, 52, 53, 54, 55, 56, 57, 46]
theorem verSet_eq : (fun c => verSet.contains c) = vd := set_eq _ _ (by decide +kernel)
theorem key_trim (s : Bs) : (Lib.trimLeftS s keySet == []) = s.all keyc := by
  unfold Lib.trimLeftS
  rw [show (fun x => keySet.contains x) = keyc from keySet_eq, Bool.eq_iff_iff, beq_iff_eq, dropWhile_nil_iff]
theorem vkey_eq (s : Bs) : vkey s = ((s != [] && decide (s.length ≤ 64)) && (Lib.trimLeftS s keySet == [])) := by
  rw [key_trim]
  unfold vkey
  congr 1
  rw [Bool.eq_iff_iff]
  cases s with
  | nil => simp
  | cons a l => simp
theorem cut_has (s t : Bs) (h : Lib.contains s t = true) : Lib.cut s t = (s.take (Lib.index s t).toNat, s.drop ((Lib.index s t).toNat + t.length), true) := by
  unfold Lib.cut; unfold Lib.contains at h; rw [if_pos (of_decide_eq_true h)]
theorem cut_hasnt (s t : Bs) (h : Lib.contains s t = false) : Lib.cut s t = (s, [], false) := by
  unfold Lib.cut; unfold Lib.contains at h; rw [if_neg (of_decide_eq_false h)]
theorem ver_msie (s : Bs) (h : Lib.contains s tMsie = true) : s.drop (verAt s) = (Lib.cut s tMsie).2.1 := by
  rw [cut_has s tMsie h]; unfold verAt; rw [h]; rfl
theorem ver_slash (s : Bs) (h : Lib.contains s tMsie = false) : s.drop (verAt s) = past 47 s := by
  unfold verAt; rw [h]; exact drop_past 47 s
theorem ver_take (r : Bs) : r.length - (Lib.trimLeftS r verSet).length = lead vd r := by
  unfold Lib.trimLeftS
  rw [show (fun x => verSet.contains x) = vd from verSet_eq, ← drop_lead, List.length_drop]
  have := lead_le vd r; omega
theorem ver_le (r : Bs) : (Lib.trimLeftS r verSet).length ≤ r.length := by
  unfold Lib.trimLeftS; exact dropWhile_len _ _
def isz (t : Bs) : Bool := Lib.hasPrefix t [113, 61, 48] && (Lib.trimPrefix t [113, 61, 48] == [] || ((Lib.trimPrefix t [113, 61, 48]).head? == some 46 && decide ((Lib.trimPrefix t [113, 61, 48]).length ≤ 4) && (Lib.trimS (Lib.trimPrefix t [113, 61, 48]).tail [48] == [])))
theorem trim0_all (l : Bs) : (Lib.trimS l [48] == []) = l.all (· == 48) := by
  unfold Lib.trimS Lib.trimLeftS Lib.trimRightS
  have hc : (fun x => ([48] : Bs).contains x) = (· == 48) := set_eq _ _ (by decide +kernel)
  rw [show (fun x => ([48] : Bs).contains x) = (· == 48) from hc, Bool.eq_iff_iff, beq_iff_eq, dropWhile_nil_iff]
  constructor
  · intro h
    have h2 : l.reverse.dropWhile (· == 48) = [] := by
      cases hd : l.reverse.dropWhile (· == 48) with
      | nil => rfl
      | cons a r =>
        rw [hd] at h
        have ha := List.head?_dropWhile_not (p := (· == (48 : UInt8))) (l := l.reverse)
        rw [hd] at ha
        simp at ha h
        exact absurd h.2 ha
    rw [dropWhile_nil_iff, List.all_reverse] at h2; exact h2
  · intro h
    have h2 : l.reverse.dropWhile (· == 48) = [] := by rw [dropWhile_nil_iff, List.all_reverse]; exact h
    rw [h2]; rfl
theorem isz_eq (t : Bs) : isz t = zq t := by
  unfold isz zq zeros
  match t with
  | [] => rfl
  | [a] => simp [Lib.hasPrefix, List.isPrefixOf]
  | [a, b] => simp [Lib.hasPrefix, List.isPrefixOf]
  | a :: b :: c :: r =>
    by_cases h : a = 113 ∧ b = 61 ∧ c = 48
    · obtain ⟨rfl, rfl, rfl⟩ := h
      have h1 : Lib.hasPrefix (113 :: 61 :: 48 :: r) [113, 61, 48] = true := by simp [Lib.hasPrefix]
      have h2 : Lib.trimPrefix (113 :: 61 :: 48 :: r) [113, 61, 48] = r := by unfold Lib.trimPrefix; rw [h1]; rfl
      rw [h1, h2]
      match r with
      | [] => rfl
      | [x] => rw [trim0_all]; simp
      | [x, y] => rw [trim0_all]; simp
      | [x, y, z] => rw [trim0_all]; simp
      | [x, y, z, u] => rw [trim0_all]; simp
      | x :: y :: z :: u :: v :: r => simp
    · have h1 : Lib.hasPrefix (a :: b :: c :: r) [113, 61, 48] = false := by
        unfold Lib.hasPrefix
        rw [Bool.eq_false_iff]
        simp only [List.isPrefixOf, Bool.and_true, ne_eq, Bool.and_eq_true, beq_iff_eq]
        rintro ⟨h1, h2, h3⟩
        exact h ⟨h1.symm, h2.symm, h3.symm⟩
      rw [h1]
      simp only [Bool.false_and, List.any_cons, List.any_nil, Bool.or_false]
      symm
      simp only [Bool.or_eq_false_iff, beq_eq_false_iff_ne, ne_eq, List.cons.injEq, not_and]
      refine ⟨?_, ?_, ?_, ?_, ?_⟩ <;> (intro h1 h2 h3; exact absurd ⟨h1, h2, h3⟩ h)
end Go.Proofs.YtehdeclpighdeaaGreatDoor
