/- The law's own functions of keys: of, gone, awake. -/
import Derived.Test.YtmkpejioinkceaaGreatDoorKeyGone
import Derived.Test.YtmkpejioinkceaaGreatDoorKeyLawP
import Derived.Test.YtmkpejioinkceaaGreatDoorKeyW
import Derived.Deep.AppendLies
import Derived.Deep.RegionHeld3
namespace Go.Proofs.YtmkpejioinkceaaGreatDoor
open Go.RowKit
set_option linter.unusedVariables false

set_option maxRecDepth 100000 in
theorem law17_of (m s : Bs) (w : World) (hg : GX w) (hs : s.length ≤ 100000) :
    Calls Tryz.prog 18 #[.string ⟨m.toArray⟩, .string ⟨s.toArray⟩] w (Ret w (.string ⟨(keyOfB m (parseB s).1).toArray⟩)) := by
  have HG := Lib.hid hg
  obtain ⟨⟨v, c⟩, hp⟩ : ∃ p, parseB s = p := ⟨_, rfl⟩
  have HP := Lib.hid hp
  have HL := Lib.hid (show LimU v by have := parse_lim s; rw [hp] at this; exact this)
  clear hg hp
  go_enter Tryz.func18, Tryz.ntmps18
  go_wp2_with fail
  refine (uri_Parse ⟨s.toArray⟩ w HG.out (by show s.length ≤ _; omega)).mono ?_
  rintro e w1 ⟨rfl, hb1⟩
  rw [show parseB (⟨s.toArray⟩ : ByteArray).data.toList = (v, c) from HP.out]
  have HB2 := Lib.hid (ubx_new w1 v)
  have HW2 := Lib.hid (hb1.alloc hb1.size (uObj v))
  clear hb1
  obtain ⟨d0, d1, d2, d3, d4, d5⟩ := HB2.out.cells
  go_wp2_with fail
  refine (key_Of m v _ (HG.out.next HW2.out) HL.out).mono ?_
  rintro e w2 ⟨rfl, hb2⟩
  have HW3 := Lib.hid (HW2.out.trans (hb2.mono HW2.out.size))
  clear hb2
  go_wp2_with fail
  go_ret
  exact ⟨by rw [HP.out]; rfl, HW3.out⟩

/-- One field appended in a statement whose order is open. -/
theorem step_fapp {ops : Array Oper} {o : Oper} {a : Act} {K : Act → World → Prop} {Q : Exit → Act → World → Prop} {E : Prop} {W : World} (hgd : o.guard = none) (s x : Operand)
    (ho : o.op = .call { callee := .builtin .append, args := #[s, x], argTypes := #[29, 29] })
    (v : Value) (gs : List Fld) (f : Fld) (base B : Nat) (hs : a.eval s = v) (hx : a.eval x = .slice (some ⟨B, 0, none⟩) 1 1) (hB : W.heap[B]? = some (.cells #[.string ⟨f.1.toArray⟩, .string ⟨f.2.toArray⟩] 47))
    (hown : FOwn W base v gs) (hn : gs.length ≤ 100000) (hbase : base ≤ W.heap.size)
    (h : ∀ g cap w', FOwn w' base (.slice (some ⟨g, 0, none⟩) (gs.length + 1) cap) (gs ++ [f]) → W.grownBy w' v.ownBlock → K (a.put o.dst (.slice (some ⟨g, 0, none⟩) (gs.length + 1) cap)) w') :
    if Region.wanted o (yielded ops a.tmps) = true then Oper.wp Tryz.prog o a W K Q else E := by
  obtain ⟨i, hi, hz, hsz, hby⟩ := info_parts info47
  refine step_append_lies W hgd s x _ ho base _ i _ 2 32 u29 hi hz hsz hby rfl (by decide) v gs.length (fcells gs) hs hown ⟨B, 0, none⟩ 1 1 [.string ⟨f.1.toArray⟩, .string ⟨f.2.toArray⟩] hx rfl (World.news_of_block hB) (fun u hu => ?_) (by decide) (by unfold maxLen; omega) (by omega) hbase _ rfl ?_
  · simp only [List.mem_cons, List.not_mem_nil, or_false] at hu
    rcases hu with rfl | rfl <;> rfl
  · intro g cap w' hr hg _ _
    refine h g cap w' ?_ hg
    unfold FOwn
    rw [fcells_app, List.length_append]
    exact hr

/-- A reply's box that is filled: its fields' list is the call's own. -/
abbrev repO (st : Int) (v : Value) : Obj := .cells #[.int .i64 st, .string ⟨#[]⟩, .int .i64 0, v, .string ⟨#[]⟩] 31
structure GB (w W : World) (bu br : Nat) (u : U) (st : Int) (gs : List Fld) (v : Value) : Prop where
  below : Below w.heap.size w W
  box : UBx W bu u
  rep : W.heap[br]? = some (repO st v)
  own : FOwn W (br + 1) v gs
  lo : w.heap.size ≤ bu
  lt : bu < br
theorem GB.next {w W W' : World} {bu br : Nat} {u : U} {st : Int} {gs : List Fld} {v : Value} (h : GB w W bu br u st gs v) (hb : Below W.heap.size W W') : GB w W' bu br u st gs v :=
  ⟨h.below.trans (hb.mono h.below.size), h.box.next hb, (hb.block _ (lt_of_at h.rep)).trans h.rep, h.own.below hb, h.lo, h.lt⟩
theorem fown_setc {W : World} {base b j : Nat} {v x : Value} {fs : List Fld} (h : FOwn W base v fs) (hb : b < base) : FOwn (W.setCell ⟨b, j, none⟩ x) base v fs := row_setc h hb
theorem GB.app {w W W' : World} {bu br : Nat} {u : U} {st : Int} {gs gs' : List Fld} {v v' : Value} (h : GB w W bu br u st gs v) (hg : W.grownBy W' v.ownBlock) (ho : FOwn W' (br + 1) v' gs') :
    W'.cell? ⟨br, 3, none⟩ = some v ∧ W'.frozen? ⟨br, 3, none⟩ = false ∧ Below w.heap.size w W' ∧ GB w (W'.setCell ⟨br, 3, none⟩ v') bu br u st gs' v' := by
  have hlo := h.lo
  have hlt := h.lt
  have hne : ∀ b, b ≤ br → some b ≠ v.ownBlock := fun b hb e => by
    have := (h.own.lt b e.symm).1; omega
  have hr : W'.heap[br]? = some (repO st v) := (hg.block br (lt_of_at h.rep) (hne br (Nat.le_refl _))).trans h.rep
  have hu : UBx W' bu u := (hg.block bu h.box.lt (hne bu (by omega))).trans h.box
  have hbel : Below w.heap.size w W' := h.below.grown hg h.below.size (fun k hk => by have := (h.own.lt k hk).1; omega)
  refine ⟨cell_of_row _ _ 3 _ _ _ hr, frozen_of_row _ _ 3 _ _ hr, hbel, hbel.setCell (p := ⟨br, 3, none⟩) (by show w.heap.size ≤ br; omega) _, hu.other (by omega), row_set (j := 3) hr, fown_setc ho (Nat.lt_succ_self _), hlo, hlt⟩

theorem pairs_lim {ls : List Bs} (h1 : ls.length ≤ 60) (h2 : ∀ l ∈ ls, l.length ≤ 1000) : Lim (pairs ls) := by
  refine ⟨by rw [pairs_len]; omega, fun f hf => ?_⟩
  obtain ⟨a, b⟩ := pairs_mem ls f hf
  have := h2 _ a
  have := h2 _ b
  omega
theorem pairs_end {ls : List Bs} {k : Nat} (h : ls.length < 2 * k + 2) : (pairs ls).take k = pairs ls := by
  rw [List.take_of_length_le]; rw [pairs_len]; omega
/-- Two texts of the list, where they lie. -/
abbrev Two9 (b o m : Nat) (x y : Bs) (w' : World) : Prop := w'.cell? ⟨b, o + m, none⟩ = some (.string ⟨x.toArray⟩) ∧ w'.cell? ⟨b, o + (m + 1), none⟩ = some (.string ⟨y.toArray⟩)
theorem two9 {w W : World} {b o c m : Nat} {x y : Bs} {ls : List Bs} (hS : StrsAt w (.slice (some ⟨b, o, none⟩) ls.length c) ls) (hb : Below w.heap.size w W) (hx : ls[m]? = some x) (hy : ls[m + 1]? = some y) : Two9 b o m x y W := by
  have h := hS.below hb
  obtain ⟨_, b1, o1, e1, _, _, h1⟩ := strs_at h hx
  obtain ⟨_, b2, o2, e2, _, _, h2⟩ := strs_at h hy
  cases e1; cases e2
  exact ⟨h1, h2⟩
set_option maxRecDepth 100000 in
set_option maxHeartbeats 1000000 in
theorem law17_gone (s : Bs) (st : Int) (vl : Value) (ls : List Bs) (w : World) (hg : GX w) (hs : s.length ≤ 100000) (hS : StrsAt w vl ls) (h1 : ls.length ≤ 60) (h2 : ∀ l ∈ ls, l.length ≤ 1000) :
    Calls Tryz.prog 19 #[.string ⟨s.toArray⟩, .int .i64 st, vl] w (Ret w (.string ⟨(Lib.join (goneB (parseB s).1 st (pairs ls)) [32]).toArray⟩)) := by
  have HG := Lib.hid hg
  have HLim := Lib.hid (pairs_lim h1 h2)
  have HLS := Lib.hid (gone_len (parseB s).1 st (fs := pairs ls) (by rw [pairs_len]; omega))
  obtain ⟨⟨v, c⟩, hp⟩ : ∃ p, parseB s = p := ⟨_, rfl⟩
  have HP := Lib.hid hp
  have HL := Lib.hid (show LimU v by have := parse_lim s; rw [hp] at this; exact this)
  obtain ⟨al, cl, rfl⟩ : ∃ al cl, vl = .slice al ls.length cl := by
    rcases hS with ⟨a, c, rfl, rfl⟩ | ⟨b, o, c, rfl, _⟩
    · exact ⟨_, _, rfl⟩
    · exact ⟨_, _, rfl⟩
  have HS := Lib.hid hS
  clear hg hp hS h2
  go_enter Tryz.func19, Tryz.ntmps19
  go_wp2_with fail
  refine (uri_Parse ⟨s.toArray⟩ w HG.out (by show s.length ≤ _; omega)).mono ?_
  rintro e w1 ⟨rfl, hb1⟩
  rw [show parseB (⟨s.toArray⟩ : ByteArray).data.toList = (v, c) from HP.out]
  have HT := two_new w1 (.cells #[.string ⟨v.scheme.toArray⟩, .string ⟨v.host.toArray⟩, .int .i64 v.port, .string ⟨v.path.toArray⟩, .string ⟨v.query.toArray⟩, .bool v.hq] 23) (repO st (.slice none 0 0))
  have HGB := Lib.hid (show GB w _ w1.heap.size (w1.heap.size + 1) v st [] (.slice none 0 0) from ⟨hb1.trans (HT.below.mono hb1.size), HT.b1, HT.b2, fown_nil _ _, hb1.size, Nat.lt_succ_self _⟩)
  clear hb1 HT
  go_wp2_with fail
  generalize (w1.alloc (.cells #[.string ⟨v.scheme.toArray⟩, .string ⟨v.host.toArray⟩, .int .i64 v.port, .string ⟨v.path.toArray⟩, .string ⟨v.query.toArray⟩, .bool v.hq] 23)).alloc (.cells #[.int .i64 st, .string ⟨#[]⟩, .int .i64 0, .slice none 0 0, .string ⟨#[]⟩] 31) = W2 at *
  generalize w1.heap.size = bu at *
  go_loopw [10] (fun i wr => ∃ (k m : Nat) (gv : Value), m ≤ ls.length + 1 ∧ i = .int .i64 m ∧ Hid (m = 2 * k) ∧ Hid (GB w wr bu (bu + 1) v st ((pairs ls).take k) gv)) (fun i _ => ls.length + 2 - (intOf i).toNat)
  case atStart => exact ⟨0, 0, _, by omega, rfl, Lib.hid rfl, HGB⟩
  case round =>
    obtain ⟨k, m, gv, hk, rfl, HM, HI⟩ := hrel
    clear HGB
    have hgl : ((pairs ls).take k).length ≤ 60 := by
      have := List.length_take_le k (pairs ls)
      have h2 := List.length_take_le' k (pairs ls)
      rw [pairs_len] at h2; omega
    by_cases hlt : m + 1 < ls.length
    · obtain ⟨x, hx⟩ : ∃ x, ls[m]? = some x := ⟨ls[m], List.getElem?_eq_getElem (by omega)⟩
      obtain ⟨y, hy⟩ : ∃ y, ls[m + 1]? = some y := ⟨ls[m + 1], List.getElem?_eq_getElem hlt⟩
      obtain ⟨-, lb, lo, rfl, hlc, hlb, -⟩ := strs_at HS.out hx
      have HNX := Lib.hid (show (pairs ls).take (k + 1) = (pairs ls).take k ++ [(x, y)] from pairs_take ls k x y (by rw [← HM.out]; exact hx) (by rw [← HM.out]; exact hy))
      have hrow := HI.out.rep
      have HSd := Lib.hid (show Two9 lb lo m x y wr.drew from two9 HS.out (HI.out.below.drew) hx hy)
      have HGd := Lib.hid (show GB w (wr.alloc (.cells #[.string ⟨x.toArray⟩, .string ⟨y.toArray⟩] 47)).drew bu (bu + 1) v st ((pairs ls).take k) gv from HI.out.next (((Below.refl _ _).alloc (Nat.le_refl _) _).drew))
      have HSa := Lib.hid (show Two9 lb lo m x y (wr.alloc (.cells #[.string ⟨x.toArray⟩, .string ⟨y.toArray⟩] 47)).drew from two9 HS.out HGd.out.below hx hy)
      have HBd := Lib.hid (show (wr.alloc (.cells #[.string ⟨x.toArray⟩, .string ⟨y.toArray⟩] 47)).drew.heap[wr.heap.size]? = some (.cells #[.string ⟨x.toArray⟩, .string ⟨y.toArray⟩] 47) from heap_alloc_new wr _)
      have HBS := Lib.hid (show bu + 1 + 1 ≤ (wr.alloc (.cells #[.string ⟨x.toArray⟩, .string ⟨y.toArray⟩] 47)).drew.heap.size from Nat.le_trans (lt_of_at hrow) (by show _ ≤ (wr.alloc _).heap.size; rw [World.size_alloc]; omega))
      obtain ⟨ga, gc, hgv⟩ := own_shape HI.out.own
      have HXY := Lib.hid (And.intro hx hy)
      have i0 : (0 : Int) ≤ (m : Int) := by omega
      have i1 : (m : Int) < (ls.length : Int) := by omega
      have i2 : (0 : Int) ≤ (m : Int) + 1 := by omega
      have i3 : (m : Int) + 1 < (ls.length : Int) := by omega
      have i4 : IntKind.i64.wrap ((m : Int) + 1) = (m : Int) + 1 := IntWalk.i64_in _ (by omega)
      have i5 : ((m : Int) + 1).toNat = m + 1 := by omega
      have e1 : wr.drew.cell? ⟨bu + 1, 3, none⟩ = some gv := cell_of_row wr _ 3 _ _ _ hrow
      have e2 : (wr.alloc (.cells #[.string ⟨x.toArray⟩, .string ⟨y.toArray⟩] 47)).drew.cell? ⟨bu + 1, 3, none⟩ = some gv := cell_of_row _ _ 3 _ _ _ HGd.out.rep
      subst hgv
      clear hrow hx hy
      generalize hgs : (pairs ls).take k = gs at *
      have HGS := Lib.hid hgs
      clear hgs
      go_wp2_with fail
      obtain ⟨s1, s2⟩ := HSd.out
      obtain ⟨s3, s4⟩ := HSa.out
      go_region_law
        ((refine step_fapp (by rfl) _ _ (by rfl) _ gs (x, y) _ wr.heap.size (by rfl) (by rfl) HBd.out HGd.out.own (by omega) HBS.out ?_; intro g cap w5 hown5 hg5; obtain ⟨d3, f3, hb5, hGZ⟩ := GB.app HGd.out hg5 hown5; have HGZ := Lib.hid hGZ; clear hGZ hown5 hg5 hb5))
      all_goals
        clear i4 i5
        go_wp2_with fail
        go_roundw
        case rel => exact ⟨k + 1, m + 2, _, by omega, by go_num, Lib.hid (by have := HM.out; omega), by rw [HNX.out]; exact HGZ⟩
        case measure => (simp [intOf] <;> omega)
    · have hpe : (pairs ls).take k = pairs ls := pairs_end (by have := HM.out; omega)
      rw [hpe] at HI
      obtain ⟨ga, gc, hgv⟩ := own_shape HI.out.own
      subst hgv
      have hr := HI.out.rep
      have r0 := cell_of_row _ _ 0 _ _ _ hr
      have r1 := cell_of_row _ _ 1 _ _ _ hr
      have r2 := cell_of_row _ _ 2 _ _ _ hr
      have r3 := cell_of_row _ _ 3 _ _ _ hr
      have r4 := cell_of_row _ _ 4 _ _ _ hr
      obtain ⟨c0, c1, c2, c3, c4, c5⟩ := HI.out.box.cells
      have i1 : (ls.length : Int) ≤ (m : Int) + 1 := by omega
      clear hpe hr hgl
      go_wp2_with fail
      refine (key_Gone v st 0 ⟨#[]⟩ ⟨#[]⟩ ga _ gc (pairs ls) wr (HG.out.next HI.out.below) HL.out HI.out.own.at HLim.out).mono ?_
      rintro e w5 ⟨lv, rfl, hown5, hb5⟩
      obtain ⟨out, hout⟩ : ∃ out, goneB v st (pairs ls) = out := ⟨_, rfl⟩
      have HEQ := Lib.hid (show goneB (parseB s).1 st (pairs ls) = out by rw [HP.out]; exact hout)
      rw [hout] at hown5
      rw [HEQ.out] at HLS
      have HO5 := Lib.hid hown5
      have HB5 := Lib.hid (HI.out.below.trans (hb5.mono HI.out.below.size))
      clear hown5 hb5 c0 c1 c2 c3 c4 c5 r0 r1 r2 r3 r4 hout
      go_wp2_with fail
      refine (lib_Join lv out ⟨#[32]⟩ w5 (StrsAt.of_own HO5.out) HLS.out (by decide)).mono ?_
      rintro e w6 ⟨rfl, hb6⟩
      have HB6 := Lib.hid (HB5.out.trans (hb6.mono HB5.out.size))
      clear hb6
      go_wp2_with fail
      go_ret
      exact ⟨by rw [HEQ.out]; rfl, HB6.out⟩
end Go.Proofs.YtmkpejioinkceaaGreatDoor
