/- VarsRead's plain law: a variable hangs on the values of one field alone; other cookies behind make no difference. -/
import Derived.Test.YtmkpejioinkceaaDoorPlain
namespace Go.Proofs.YtmkpejioinkceaaDoor
open Go.Lib

theorem bare_cases (name : Bs) : name = nHost ∨ name = nReferer ∨ name = nAgent ∨ name = nCookie ∨ name = nQuery ∨ name = nLang ∨ ((name == nHost) = false ∧ (name == nReferer) = false ∧ (name == nAgent) = false ∧ (name == nCookie) = false ∧ (name == nQuery) = false ∧ (name == nLang) = false) := by
  by_cases h1 : name = nHost
  · exact .inl h1
  by_cases h2 : name = nReferer
  · exact .inr (.inl h2)
  by_cases h3 : name = nAgent
  · exact .inr (.inr (.inl h3))
  by_cases h4 : name = nCookie
  · exact .inr (.inr (.inr (.inl h4)))
  by_cases h5 : name = nQuery
  · exact .inr (.inr (.inr (.inr (.inl h5))))
  by_cases h6 : name = nLang
  · exact .inr (.inr (.inr (.inr (.inr (.inl h6)))))
  · exact .inr (.inr (.inr (.inr (.inr (.inr ⟨beq_eq_false_iff_ne.2 h1, beq_eq_false_iff_ne.2 h2, beq_eq_false_iff_ne.2 h3, beq_eq_false_iff_ne.2 h4, beq_eq_false_iff_ne.2 h5, beq_eq_false_iff_ne.2 h6⟩)))))

def cookieDot : Bs := [99, 111, 111, 107, 105, 101, 46]
theorem prefix_app : ∀ (a b : Bs), Lib.hasPrefix (a ++ b) a = true := by
  intro a b; unfold Lib.hasPrefix; rw [List.isPrefixOf_iff_prefix]; exact List.prefix_append a b
/-- The field of which a variable is made. -/
theorem vsrc_other {name : Bs} (h : (name == nHost) = false ∧ (name == nReferer) = false ∧ (name == nAgent) = false ∧ (name == nCookie) = false ∧ (name == nQuery) = false ∧ (name == nLang) = false) : vsrc name = [] := by
  obtain ⟨h1, h2, h3, h4, h5, h6⟩ := h
  have f : ∀ n, (name == n) = false → (n == name) = false := fun n h => beq_eq_false_iff_ne.2 (Ne.symm (beq_eq_false_iff_ne.1 h))
  unfold vsrc tab
  simp only [List.find?_cons, f _ h1, f _ h2, f _ h3, f _ h4, f _ h5, f _ h6, List.find?_nil, Option.map_none, Option.getD_none]
theorem field_yes (name key : Bs) (has : Bool) (h : Lib.hasPrefix (vsource name key has) cookieDot = true) : vsrc name = cookieName := by
  by_cases hc : (vsrc name == cookieName) = true
  · exact eq_of_beq hc
  · exfalso
    rw [Bool.not_eq_true] at hc
    have hs : vsource name key has = vsrc name := by unfold vsource; rw [hc]; rfl
    rw [hs] at h
    rcases bare_cases name with rfl | rfl | rfl | rfl | rfl | rfl | ho
    · revert h; decide
    · revert h; decide
    · revert h; decide
    · revert hc; decide
    · revert h; decide
    · revert h; decide
    · rw [vsrc_other ho] at h; revert h; decide
theorem field_no (name key : Bs) (has : Bool) (h : Lib.hasPrefix (vsource name key has) cookieDot = false) : vsource name key has = vsrc name := by
  unfold vsource at h ⊢
  by_cases hc : (vsrc name == cookieName && has) = true
  · rw [hc] at h
    have : Lib.hasPrefix (cookieName ++ [46] ++ key) cookieDot = true := prefix_app cookieDot key
    rw [show (bif true then cookieName ++ [46] ++ key else vsrc name) = cookieName ++ [46] ++ key from rfl, this] at h; cases h
  · rw [Bool.not_eq_true] at hc; rw [hc]; rfl

/-- A field, where it is (or is not) of that name. -/
def mone (want : Bool) (name : Bs) : Option Fld → List Fld
  | some f => bif same f.1 name == want then [f] else []
  | none => []
/-- The law's other request, so far. -/
def merge (r o : List Fld) (name : Bs) : Nat → List Fld
  | 0 => []
  | k + 1 => merge r o name k ++ mone false name o[k]? ++ mone true name r[k]?
theorem merge_len (r o : List Fld) (name : Bs) : ∀ k, (merge r o name k).length ≤ 2 * k
  | 0 => Nat.le_refl _
  | k + 1 => by
    have h1 : ∀ w x, (mone w name x).length ≤ 1 := by
      intro w x; cases x with
      | none => exact Nat.zero_le _
      | some f => show (bif same f.1 name == w then [f] else []).length ≤ 1; cases (same f.1 name == w) <;> simp
    have := h1 false o[k]?
    have := h1 true r[k]?
    have := merge_len r o name k
    simp only [merge, List.length_append]; omega
theorem values_mone_no (name : Bs) (x : Option Fld) : values (mone false name x) name = [] := by
  cases x with
  | none => rfl
  | some f =>
    show values (bif same f.1 name == false then [f] else []) name = []
    cases h : same f.1 name
    · simp [values, h]
    · rfl
theorem values_mone_yes (name : Bs) (r : List Fld) (k : Nat) : values (r.take k) name ++ values (mone true name r[k]?) name = values (r.take (k + 1)) name := by
  cases hx : r[k]? with
  | none =>
    have hl : r.length ≤ k := List.getElem?_eq_none_iff.1 hx
    rw [List.take_of_length_le hl, List.take_of_length_le (by omega)]
    exact List.append_nil _
  | some f =>
    cases h : same f.1 name
    · rw [values_no r name k f hx h]
      simp [mone, h, values]
    · rw [values_yes r name k f hx h]
      simp [mone, h, values]
theorem values_merge (r o : List Fld) (name : Bs) : ∀ k, values (merge r o name k) name = values (r.take k) name
  | 0 => by simp [merge, values]
  | k + 1 => by
    show values (merge r o name k ++ mone false name o[k]? ++ mone true name r[k]?) name = _
    rw [values_append, values_append, values_mone_no, List.append_nil, values_merge r o name k, values_mone_yes]
theorem values_merge_end (r o : List Fld) (name : Bs) (k : Nat) (h : r.length ≤ k) : values (merge r o name k) name = values r name := by
  rw [values_merge, List.take_of_length_le h]
theorem merge_each {r o : List Fld} {P : Fld → Prop} (hr : ∀ f ∈ r, P f) (ho : ∀ f ∈ o, P f) (name : Bs) : ∀ k, ∀ f ∈ merge r o name k, P f
  | 0, f, hf => by simp [merge] at hf
  | k + 1, f, hf => by
    have one : ∀ (w : Bool) (l : List Fld) (hl : ∀ f ∈ l, P f), f ∈ mone w name l[k]? → P f := by
      intro w l hl hm
      cases hx : l[k]? with
      | none => rw [hx] at hm; simp [mone] at hm
      | some g =>
        rw [hx] at hm
        change f ∈ (bif same g.1 name == w then [g] else []) at hm
        cases hs : (same g.1 name == w)
        · rw [hs] at hm; simp at hm
        · rw [hs] at hm
          have : f = g := by simpa using hm
          subst this; exact hl _ (List.mem_of_getElem? hx)
    rw [merge, List.mem_append, List.mem_append] at hf
    rcases hf with (hf | hf) | hf
    · exact merge_each hr ho name k f hf
    · exact one _ _ ho hf
    · exact one _ _ hr hf

/-- A variable hangs on the values of its source's field alone. -/
theorem vget_congr (h t : Bs) (fs gs : List Fld) (name key : Bs) (has : Bool) (hv : values fs (vsrc name) = values gs (vsrc name)) : vget h t fs name key has = vget h t gs name key has := by
  have hf : ∀ n, vsrc name = n → fget fs n = fget gs n := fun n e => by subst e; unfold fget; rw [hv]
  have hc : vsrc name = cookieName → vcookies fs = vcookies gs := fun e => by rw [e] at hv; unfold vcookies; rw [hv]
  rcases bare_cases name with rfl | rfl | rfl | rfl | rfl | rfl | ⟨h1, h2, h3, h4, h5, h6⟩
  · rfl
  · have := hf refererName (by decide)
    unfold vget; cases has
    · exact this
    · rfl
  · have := hf agentName (by decide)
    unfold vget; cases has
    · exact this
    · show (bif vkey key then vua fs key else _) = (bif vkey key then vua gs key else _)
      unfold vua; rw [this]
  · have := hc (by decide)
    unfold vget; cases has
    · exact this
    · show (bif vkey key then optP (vcookie fs key) else _) = (bif vkey key then optP (vcookie gs key) else _)
      unfold vcookie; rw [this]
  · rfl
  · have := hf langName (by decide)
    unfold vget; cases has
    · exact this
    · show (bif vkey key then (langV (vlang fs key), vlang fs key) else _) = (bif vkey key then (langV (vlang gs key), vlang gs key) else _)
      unfold vlang; rw [this]
  · unfold vget vpart vwhole
    rw [h1, h2, h3, h4, h5, h6]; rfl

theorem pieces_app (c : UInt8) (b : Bs) : ∀ a : Bs, pieces c (a ++ c :: b) = pieces c a ++ pieces c b
  | [] => by rw [List.nil_append, pieces_cons, if_pos (by simp)]; rfl
  | x :: a => by
    rw [List.cons_append, pieces_cons, pieces_cons, pieces_app c b a]
    have hne := pieces_ne c a
    cases hp : pieces c a with
    | nil => exact absurd hp hne
    | cons y ys =>
      cases x == c <;> rfl
theorem join_snoc (sep : Bs) (ls : List Bs) (p : Bs) : join (ls ++ [p]) sep = if ls = [] then p else join ls sep ++ sep ++ p := by
  by_cases h : ls = []
  · subst h; rw [if_pos rfl]
    have := join_take0 [p] sep p rfl
    simpa using this
  · rw [if_neg h]
    have hl : 0 < ls.length := List.length_pos_iff.2 h
    have := join_take (ls ++ [p]) sep ls.length p hl (by simp)
    rw [List.take_left, List.take_of_length_le (by simp)] at this
    exact this
theorem dropWhile_app (p : UInt8 → Bool) (x : UInt8) (b : Bs) (hx : p x = false) : ∀ a : Bs, (a ++ x :: b).dropWhile p = a.dropWhile p ++ x :: b
  | [] => by simp [hx]
  | y :: a => by
    rw [List.cons_append, List.dropWhile_cons, List.dropWhile_cons, dropWhile_app p x b hx a]
    cases p y <;> simp
/-- Blanks are cut behind a byte that is none, and none ahead. -/
theorem trim_mid (x y : UInt8) (a b : Bs) (hx : ws x = false) (hy : ws y = false) : trim (x :: a ++ y :: b) = x :: a ++ y :: (b.reverse.dropWhile ws).reverse := by
  rw [trim_eq]
  have : (x :: a ++ y :: b).reverse = b.reverse ++ y :: (x :: a).reverse := by simp
  rw [this, dropWhile_app ws y _ hy, List.reverse_append, List.reverse_cons, List.reverse_reverse, List.append_assoc]
  show (x :: (a ++ ([y] ++ _))).dropWhile ws = _
  rw [List.dropWhile_cons, hx]; simp
theorem trim_blank (l : Bs) (x : UInt8) (r : Bs) (h : l = x :: r) (hx : ws x = false) : trim (32 :: l) = trim l := by
  subst h
  rw [trim_eq, trim_eq]
  have e : (32 :: x :: r : Bs).reverse = r.reverse ++ x :: [32] := by simp
  have e2 : (x :: r : Bs).reverse = r.reverse ++ x :: [] := by simp
  rw [e, e2, dropWhile_app ws x _ hx, dropWhile_app ws x _ hx]
  simp [List.reverse_append]
  rw [List.dropWhile_cons, show ws 32 = true from by decide]; rfl
theorem keyc_ws {c : UInt8} (h : keyc c = true) : ws c = false := by
  unfold keyc at h; unfold ws
  have := of_decide_eq_true h
  exact decide_eq_false (by omega)
theorem keyc_ne {c : UInt8} (h : keyc c = true) : c ≠ 59 ∧ c ≠ 61 := by
  unfold keyc at h
  have := of_decide_eq_true h
  constructor <;> (intro e; subst e; revert h; decide)
theorem vkey_all {key : Bs} (h : vkey key = true) : (∀ c ∈ key, keyc c = true) ∧ ∃ c r, key = c :: r := by
  unfold vkey at h
  rw [Bool.and_eq_true] at h
  obtain ⟨h1, h2⟩ := h
  have h1 := of_decide_eq_true h1
  refine ⟨fun c hc => List.all_eq_true.1 h2 c hc, ?_⟩
  cases key with
  | nil => simp at h1
  | cons c r => exact ⟨c, r, rfl⟩
theorem upto_app (c : UInt8) (a b : Bs) (h : ∀ x ∈ a, x ≠ c) : upto c (a ++ c :: b) = a := by
  unfold upto
  induction a with
  | nil => simp
  | cons y a ih =>
    have hy : y ≠ c := h y (by simp)
    rw [List.cons_append, List.takeWhile_cons, if_pos (by simpa using hy), ih fun x hx => h x (by simp [hx])]
theorem pieces_one (c : UInt8) (l : Bs) (h : l.contains c = false) : pieces c l = [l] := by rw [pieces_cut, h]; rfl
/-- The cookies that the law lays behind. -/
theorem ck_x {key T : Bs} (hk : vkey key = true) : ckOf key (120 :: key ++ 61 :: T) = none := by
  obtain ⟨hall, _⟩ := vkey_all hk
  unfold ckOf
  rw [trim_mid 120 61 key T (by decide) (by decide), upto_app 61 (120 :: key) _ (fun x hx => by
    rcases List.mem_cons.1 hx with rfl | hx
    · decide
    · exact (keyc_ne (hall x hx)).2)]
  rw [if_neg]
  intro h
  rw [Bool.and_eq_true] at h
  have := eq_of_beq h.2
  have := congrArg List.length this
  simp at this
theorem ck_x2 {key T : Bs} (hk : vkey key = true) : ckOf key (32 :: (120 :: key ++ 61 :: T)) = none := by
  have h := ck_x (T := T) hk
  unfold ckOf at h ⊢
  rw [show trim (32 :: (120 :: key ++ 61 :: T)) = trim (120 :: key ++ 61 :: T) from trim_blank _ 120 (key ++ 61 :: T) rfl (by decide)]
  exact h
theorem trim_key {key : Bs} (hk : vkey key = true) : trim key = key := by
  obtain ⟨hall, _⟩ := vkey_all hk
  rw [trim_eq]
  have hd : ∀ l : Bs, (∀ c ∈ l, keyc c = true) → l.dropWhile ws = l := by
    intro l hl
    cases l with
    | nil => rfl
    | cons c r => rw [List.dropWhile_cons, keyc_ws (hl c (by simp))]; rfl
  rw [hd key.reverse (fun c hc => hall c (by simpa using hc)), List.reverse_reverse, hd key hall]
theorem ck_key {key : Bs} (hk : vkey key = true) : ckOf key (32 :: key) = none := by
  obtain ⟨hall, c, r, rfl⟩ := vkey_all hk
  unfold ckOf
  rw [trim_blank _ c r rfl (keyc_ws (hall c (by simp))), trim_key hk]
  have : (c :: r).contains 61 = false := by
    rw [Bool.eq_false_iff]; intro h
    have := List.contains_iff_mem.1 h
    exact (keyc_ne (hall _ this)).2 rfl
  rw [this]; rfl
theorem vcookie_more {r m : List Fld} {key T ck : Bs} (hm : values m cookieName = values r cookieName) (hck : same ck cookieName = true) (hk : vkey key = true) (ho : (vcookie r key).isSome = true ∨ T.contains 59 = false) :
    vcookie (m ++ [(ck, 120 :: key ++ 61 :: T), (ck, key)]) key = vcookie r key := by
  obtain ⟨hall, _⟩ := vkey_all hk
  have hv : values (m ++ [(ck, 120 :: key ++ 61 :: T), (ck, key)]) cookieName = (values r cookieName ++ [120 :: key ++ 61 :: T]) ++ [key] := by
    rw [values_append, hm]; simp [values, hck]
  have hkey : pieces 59 (32 :: key) = [32 :: key] := by
    refine pieces_one _ _ ?_
    rw [Bool.eq_false_iff]; intro h
    rcases List.mem_cons.1 (List.contains_iff_mem.1 h) with h | h
    · revert h; decide
    · exact (keyc_ne (hall _ h)).1 rfl
  have hx : T.contains 59 = false → (120 :: key ++ 61 :: T).contains 59 = false := by
    intro hT
    rw [Bool.eq_false_iff]; intro h
    have := List.contains_iff_mem.1 h
    rw [List.mem_append, List.mem_cons, List.mem_cons] at this
    rcases this with (h | h) | (h | h)
    · revert h; decide
    · exact (keyc_ne (hall _ h)).1 rfl
    · revert h; decide
    · rw [List.contains_iff_mem.2 h] at hT; cases hT
  have hx2 : T.contains 59 = false → (32 :: (120 :: key ++ 61 :: T)).contains 59 = false := by
    intro hT
    rw [Bool.eq_false_iff]; intro h
    rcases List.mem_cons.1 (List.contains_iff_mem.1 h) with h | h
    · revert h; decide
    · rw [List.contains_iff_mem.2 h] at hx; exact absurd (hx hT) (by decide)
  unfold vcookie at ho ⊢
  unfold vcookies at ho ⊢
  show List.findSome? (ckOf key) (pieces 59 (join (values (m ++ [(ck, 120 :: key ++ 61 :: T), (ck, key)]) cookieName) [59, 32])) = List.findSome? (ckOf key) (pieces 59 (join (values r cookieName) [59, 32]))
  change (List.findSome? (ckOf key) (pieces 59 (join (values r cookieName) [59, 32]))).isSome = true ∨ _ at ho
  rw [hv, join_snoc, if_neg (by simp), join_snoc]
  rw [show ∀ A : Bs, A ++ ([59, 32] : Bs) ++ key = A ++ 59 :: (32 :: key) from fun A => by simp, pieces_app, hkey, List.findSome?_append]
  have hlast : List.findSome? (ckOf key) [32 :: key] = none := by rw [List.findSome?_cons, ck_key hk]; rfl
  rw [hlast, Option.or_none]
  by_cases hn : values r cookieName = []
  · rw [if_pos hn, hn]
    have e0 : List.findSome? (ckOf key) (pieces 59 (join [] [59, 32])) = none := by
      have : pieces 59 (join [] [59, 32]) = [[]] := rfl
      rw [this, List.findSome?_cons]
      have : ckOf key [] = none := by unfold ckOf; rw [show trim [] = [] from by rw [trim_eq]; rfl]; rfl
      rw [this]; rfl
    rw [e0]
    rw [hn, e0] at ho
    have hT : T.contains 59 = false := by rcases ho with h | h; cases h; exact h
    rw [pieces_one 59 _ (hx hT), List.findSome?_cons, ck_x hk]; rfl
  · rw [if_neg hn, show ∀ (A P : Bs), A ++ ([59, 32] : Bs) ++ P = A ++ 59 :: (32 :: P) from fun A P => by simp, pieces_app, List.findSome?_append]
    rcases hf : List.findSome? (ckOf key) (pieces 59 (join (values r cookieName) [59, 32])) with _ | x
    · rw [hf] at ho
      have hT : T.contains 59 = false := by rcases ho with h | h; cases h; exact h
      rw [pieces_one 59 _ (hx2 hT), List.findSome?_cons, ck_x2 hk]; rfl
    · rfl
end Go.Proofs.YtmkpejioinkceaaDoor
