/- What values bring is not looked at again: the plain law. -/
import Derived.Test.YtgpeehilemidlaaDoorSubPlain
import Derived.Test.YtgpeehilemidlaaDoorReadPlain
import Derived.Shelf.Strings.Repeat
namespace Go.Proofs.YtgpeehilemidlaaDoor
open Go.Lib

def kUse : Bs := [36, 40, 72, 84, 84, 80, 95, 67, 79, 79, 75, 73, 69, 123, 107, 125, 41]
theorem kUse_parts (rest : Bs) : partsAt (kUse ++ rest) = some ⟨nCookie, [107], [], true, false, rest⟩ := by kernel_rfl
def kFs (v : Bs) : List Fld := [([67, 111, 111, 107, 105, 101], 107 :: 61 :: v)]
/-- Blanks at the end are cut. -/
def rtrim (v : Bs) : Bs := (v.reverse.dropWhile ws).reverse
theorem rtrim_len (v : Bs) : (rtrim v).length ≤ v.length := by
  unfold rtrim; rw [List.length_reverse]; have := dropWhile_len ws v.reverse; rw [List.length_reverse] at this; exact this
theorem kGet (h t v : Bs) (hv : v.contains 59 = false) : vget h t (kFs v) nCookie [107] true = (rtrim v, true) := by
  have hp : pieces 59 (107 :: 61 :: v) = [107 :: 61 :: v] := by
    refine pieces_one _ _ ?_
    rw [has_cons, has_cons, hv]; rfl
  have ht : trim (107 :: 61 :: v) = 107 :: 61 :: rtrim v := trim_mid 107 61 [] v (by decide) (by decide)
  have hc : ckOf [107] (107 :: 61 :: v) = some (rtrim v) := by
    unfold ckOf; rw [ht]
    rfl
  have hj : join (values (kFs v) cookieName) [59, 32] = 107 :: 61 :: v := by
    show join [107 :: 61 :: v] [59, 32] = _
    have := join_take0 [107 :: 61 :: v] [59, 32] (107 :: 61 :: v) rfl
    simpa using this
  show (bif vkey [107] then optP (vcookie (kFs v) [107]) else _) = _
  rw [show vkey [107] = true from by decide]
  unfold vcookie vcookies
  show optP (List.findSome? (ckOf [107]) (pieces 59 (join (values (kFs v) cookieName) [59, 32]))) = _
  rw [hj, hp, List.findSome?_cons, hc]; rfl
theorem rep_succ (l : Bs) (n : Nat) : repeatL l (n + 1) = l ++ repeatL l n := rfl
theorem rep_zero (l : Bs) : repeatL l 0 = [] := rfl
theorem rep_len (l : Bs) (n : Nat) : (repeatL l n).length = n * l.length := by
  induction n with
  | zero => simp [rep_zero]
  | succ n ih => rw [rep_succ, List.length_append, ih, Nat.succ_mul]; omega
theorem rep_drop (n : Nat) : ∀ j, j ≤ n → (repeatL kUse n).drop (17 * j) = repeatL kUse (n - j)
  | 0, _ => by simp
  | j + 1, h => by
    rw [show 17 * (j + 1) = 17 * j + 17 by omega, ← List.drop_drop, rep_drop n j (by omega), show n - j = (n - (j + 1)) + 1 by omega, rep_succ]
    exact List.drop_left' rfl
theorem rep_find (n j : Nat) (h : j < n) : vfind (repeatL kUse n) (17 * j) = some ⟨17 * j, 17 * (j + 1), nCookie, [107], [], true, false⟩ := by
  have hd := rep_drop n j (by omega)
  rw [show n - j = (n - (j + 1)) + 1 by omega, rep_succ] at hd
  have hp := kUse_parts (repeatL kUse (n - (j + 1)))
  rw [← hd] at hp
  rw [vfind_at hp]
  unfold mkUse
  rw [rep_len, rep_len]
  show some (Use.mk (17 * j) (n * 17 - (n - (j + 1)) * 17) nCookie [107] [] true false) = _
  rw [show n * 17 - (n - (j + 1)) * 17 = 17 * (j + 1) by omega]
theorem rep_asm (n : Nat) (val : Use → Bs) (x : Bs) (hx : ∀ u : Use, u.name = nCookie → u.key = [107] → u.hk = true → val u = x) : ∀ (m j k : Nat), j + m = n → m ≤ k → asm (repeatL kUse n) val (17 * j) (usesK (repeatL kUse n) k (17 * j)) = repeatL x m
  | 0, j, k, h, _ => by
    have hl : (repeatL kUse n).length ≤ 17 * j := by rw [rep_len]; show n * 17 ≤ 17 * j; omega
    rw [usesK_none (vfind_none hl)]
    show (repeatL kUse n).drop (17 * j) = _
    rw [List.drop_eq_nil_of_le hl, rep_zero]
  | m + 1, j, 0, h, hk => by omega
  | m + 1, j, k + 1, h, hk => by
    have hf := rep_find n j (by omega)
    have : usesK (repeatL kUse n) (k + 1) (17 * j) = ⟨17 * j, 17 * (j + 1), nCookie, [107], [], true, false⟩ :: usesK (repeatL kUse n) k (17 * (j + 1)) := by
      conv => lhs; unfold usesK
      rw [hf]
    rw [this]
    show (((repeatL kUse n).drop (17 * j)).take (17 * j - 17 * j)) ++ val _ ++ asm (repeatL kUse n) val (17 * (j + 1)) (usesK (repeatL kUse n) k (17 * (j + 1))) = _
    rw [rep_asm n val x hx m (j + 1) k (by omega) (by omega), hx _ rfl rfl rfl, Nat.sub_self, List.take_zero, rep_succ]; rfl
theorem once_text (h t v : Bs) (n : Nat) (hv : v.contains 59 = false) : vtext h t (kFs v) (repeatL kUse n) = repeatL (rtrim v) n := by
  unfold vtext vuses
  refine rep_asm n _ _ ?_ n 0 _ (by omega) (by rw [rep_len]; show n ≤ n * 17 + 1; omega)
  intro u h1 h2 h3
  unfold vval
  rw [h1, h2, h3, kGet h t v hv]; rfl
theorem once_apply (h t v : Bs) (n : Nat) (hv : v.contains 59 = false) (hl : v.length ≤ 1000) (hn : n ≤ 50) : vapply h t (kFs v) (repeatL kUse n) = (repeatL (rtrim v) n, 0) := by
  unfold vapply
  rw [once_text h t v n hv, rep_len]
  have h1 := rtrim_len v
  have : n * (rtrim v).length ≤ 50 * 1000 := Nat.mul_le_mul hn (by omega)
  rw [decide_eq_true (by unfold maxOut; omega)]; rfl
end Go.Proofs.YtgpeehilemidlaaDoor
