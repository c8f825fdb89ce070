/- The law KeyOwn: the first key that goes is the address's own; each is one of its origin, none is twice; fields of other names make no difference. -/
import Derived.Test.YtmkpejioinkceaaGreatDoorKeyAwake
import Derived.Test.YtmkpejioinkceaaGreatDoorLawKeyGone
import Derived.Deep.RegionHeld3
import Derived.Deep.AppendLies
import Derived.BigQuiet
namespace Go.Proofs.YtmkpejioinkceaaGreatDoor
open Go.RowKit
set_option linter.unusedVariables false

/-- One field appended. -/
theorem wpList_fapp {ops : Array Oper} {rest : List Oper} {o : Oper} {a : Act} {Q : Exit → Act → World → Prop} {W : World} (hgd : o.guard = none) (s x : Operand)
    (ho : o.op = .call { callee := .builtin .append, args := #[s, x], argTypes := #[29, 29] })
    (v : Value) (gs : List Fld) (f : Fld) (base B : Nat) (hs : a.eval s = v) (hx : a.eval x = .slice (some ⟨B, 0, none⟩) 1 1) (hB : W.heap[B]? = some (.cells #[.string ⟨f.1.toArray⟩, .string ⟨f.2.toArray⟩] 47))
    (hown : FOwn W base v gs) (hn : gs.length ≤ 100000) (hbase : base ≤ W.heap.size)
    (h : ∀ g cap w', FOwn w' base (.slice (some ⟨g, 0, none⟩) (gs.length + 1) cap) (gs ++ [f]) → W.grownBy w' v.ownBlock → wpList Tryz.prog ops Q rest (a.put o.dst (.slice (some ⟨g, 0, none⟩) (gs.length + 1) cap)) w') :
    wpList Tryz.prog ops Q (o :: rest) a W := by
  obtain ⟨i, hi, hz, hsz, hby⟩ := info_parts info47
  refine wpList_append_lies W hgd s x _ ho base _ i _ 2 32 u29 hi hz hsz hby rfl (by decide) v gs.length (fcells gs) hs hown ⟨B, 0, none⟩ 1 1 [.string ⟨f.1.toArray⟩, .string ⟨f.2.toArray⟩] hx rfl (World.news_of_block hB) (fun u hu => ?_) (by decide) (by unfold maxLen; omega) (by omega) hbase _ rfl ?_
  · simp only [List.mem_cons, List.not_mem_nil, or_false] at hu
    rcases hu with rfl | rfl <;> rfl
  · intro g cap w' hr hg _ _
    refine h g cap w' ?_ hg
    unfold FOwn
    rw [fcells_app, List.length_append]
    exact hr
theorem someF_yes {fs : List Fld} {k : Nat} {f : Fld} (h : fs[k]? = some f) (hs : (same f.1 locName || same f.1 clocName) = true) : someF (fs.take (k + 1)) = someF (fs.take k) ++ [f] := by
  unfold someF; rw [take_snoc fs k f h, List.filter_append]; simp [hs]
theorem someF_no {fs : List Fld} {k : Nat} {f : Fld} (h : fs[k]? = some f) (hs : (same f.1 locName || same f.1 clocName) = false) : someF (fs.take (k + 1)) = someF (fs.take k) := by
  unfold someF; rw [take_snoc fs k f h, List.filter_append]; simp [hs]
theorem someF_len (fs : List Fld) : (someF fs).length ≤ fs.length := List.length_filter_le _ _
theorem someF_lim {fs : List Fld} (h : Lim fs) : Lim (someF fs) := ⟨Nat.le_trans (someF_len fs) h.many, fun f hf => h.each f (List.mem_filter.1 hf).1⟩
/-- The address, the reply, and the keys that go, where they lie. -/
structure KO (w W : World) (u : U) (st mn : Int) (m bd : ByteArray) (a : Option Addr) (n c : Nat) (fs : List Fld) (lv : Value) (out : List Bs) : Prop where
  kg : KG w W u st mn m bd a n c fs
  l : StrsAt W lv out
theorem KO.next {w W W' : World} {u : U} {st mn : Int} {m bd : ByteArray} {a : Option Addr} {n c : Nat} {fs : List Fld} {lv : Value} {out : List Bs} (h : KO w W u st mn m bd a n c fs lv out) (hb : Below W.heap.size W W') : KO w W' u st mn m bd a n c fs lv out :=
  ⟨h.kg.next hb, h.l.below hb⟩
abbrev SixO (b : Nat) (u : U) (lb lo : Nat) (k : Bs) (r : Nat) (a : Option Addr) (n c : Nat) (w' : World) : Prop :=
  SixU b u w' ∧ w'.cell? ⟨lb, lo, none⟩ = some (.string ⟨k.toArray⟩) ∧ w'.cell? ⟨r, 3, none⟩ = some (.slice a n c)
theorem KO.sixO {w W : World} {u : U} {st mn : Int} {m bd : ByteArray} {a : Option Addr} {n c lb lo len lc : Nat} {fs : List Fld} {out : List Bs} {k : Bs} (h : KO w W u st mn m bd a n c fs (.slice (some ⟨lb, lo, none⟩) len lc) out) (hk : out[0]? = some k) : SixO w.heap.size u lb lo k (w.heap.size + 1) a n c W := by
  obtain ⟨_, b, o, e, _, _, hc⟩ := strs_at h.l hk
  cases e
  exact ⟨h.kg.ub.six, hc, cell_of_row _ _ 3 _ _ _ h.kg.rb⟩
theorem KO.awake {w W : World} {u : U} {st mn : Int} {m bd : ByteArray} {a : Option Addr} {n c : Nat} {fs : List Fld} {lv : Value} {out : List Bs} (h : KO w W u st mn m bd a n c fs lv out) (hg : GX w) : Calls Tryz.prog 9 #[] W (fun e W' => e = .returned (.bool true) ∧ Hid (Below w.heap.size w W')) :=
  (law17_awake W (hg.next h.kg.below)).mono fun e W' ⟨he, hb⟩ => ⟨he, Lib.hid (h.kg.below.trans (hb.mono h.kg.below.size))⟩
theorem nodup_ne {l : List Bs} (h : l.Nodup) {i j : Nat} {x y : Bs} (hi : l[i]? = some x) (hj : l[j]? = some y) (hne : i < j) : (x == y) = false := by
  rw [beq_eq_false_iff_ne]
  rintro rfl
  obtain ⟨h1, e1⟩ := List.getElem?_eq_some_iff.1 hi
  obtain ⟨h2, e2⟩ := List.getElem?_eq_some_iff.1 hj
  exact (List.pairwise_iff_getElem.1 h i j h1 h2 hne) (e1.trans e2.symm)
theorem fields_n {W : World} {a : Option Addr} {n c : Nat} {fs : List Fld} (h : FieldsAt W (.slice a n c) fs) : n = fs.length := by
  rcases h with ⟨a', c', e, rfl⟩ | ⟨b, o, c', e, _⟩
  · cases e; rfl
  · cases e; rfl
theorem field_at {W : World} {a : Option Addr} {n c k : Nat} {fs : List Fld} {f : Fld} (h : FieldsAt W (.slice a n c) fs) (hf : fs[k]? = some f) : ∃ b o, a = some ⟨b, o, none⟩ ∧ b < W.heap.size ∧ fs.length ≤ c ∧ W.cell? ⟨b, o + k * 2, none⟩ = some (.string ⟨f.1.toArray⟩) ∧ W.cell? ⟨b, o + k * 2 + 1, none⟩ = some (.string ⟨f.2.toArray⟩) := by
  rcases h with ⟨a', c', e, rfl⟩ | ⟨b, o, c', e, hc, hlt, hcell⟩
  · rw [List.getElem?_nil] at hf; cases hf
  · cases e; exact ⟨b, o, rfl, hlt, hc, (hcell k f hf).1, (hcell k f hf).2⟩

set_option maxRecDepth 100000 in
set_option maxHeartbeats 2000000 in
theorem law17_KeyOwn_skip (u : U) (st mn : Int) (m bd : ByteArray) (a : Option Addr) (n c : Nat) (fs : List Fld) (w : World) (hg : GX w) (hu : BigU u) (hF : FieldsAt w (.slice a n c) fs) (hs : ∀ f ∈ fs, f.1.length ≤ 140737488355328 ∧ f.2.length ≤ 140737488355328) (hlen : fs.length ≤ 140737488355328) (hno : longU u = true ∨ (longU u = false ∧ kfew fs = false)) :
    Calls Tryz.prog 7 #[uV u, .agg #[.int .i64 st, .string m, .int .i64 mn, .slice a n c, .string bd]] w (Ret w (.bool true)) := by
  have HT := two_new w (.cells #[.string ⟨u.scheme.toArray⟩, .string ⟨u.host.toArray⟩, .int .i64 u.port, .string ⟨u.path.toArray⟩, .string ⟨u.query.toArray⟩, .bool u.hq] 23) (.cells #[.int .i64 st, .string m, .int .i64 mn, .slice a n c, .string bd] 31)
  have HK := Lib.hid (show KG w _ u st mn m bd a n c fs from ⟨HT.below, HT.b1, HT.b2, hF.below HT.below⟩)
  have HG := Lib.hid hg
  have HU := Lib.hid hu
  have HS := Lib.hid hs
  have HN := Lib.hid hlen
  clear HT hg hu hF hs hlen
  obtain ⟨⟨c0, c1, c2, c3, c4, c5⟩, -⟩ := HK.out.six
  go_enter Tryz.func7, Tryz.ntmps7
  go_wp2_with fail
  generalize (w.alloc (.cells #[.string ⟨u.scheme.toArray⟩, .string ⟨u.host.toArray⟩, .int .i64 u.port, .string ⟨u.path.toArray⟩, .string ⟨u.query.toArray⟩, .bool u.hq] 23)).alloc (.cells #[.int .i64 st, .string m, .int .i64 mn, .slice a n c, .string bd] 31) = W at *
  refine (law17_long u W HU.out).mono ?_
  rintro e w1 ⟨rfl, hb1⟩
  have HK1 := Lib.hid (HK.out.next hb1)
  clear hb1 c0 c1 c2 c3 c4 c5
  rcases hno with hl | ⟨hl, hfw⟩
  · rw [hl]
    go_wp2_with fail
    refine (law17_awake w1 (HG.out.next HK1.out.below)).mono ?_
    rintro e w3 ⟨rfl, hb3⟩
    have HK3 := Lib.hid (HK1.out.next hb3)
    clear hb3
    go_wp2_with fail
    go_ret
    exact ⟨rfl, HK3.out.below⟩
  · rw [hl]
    have r3 := HK1.out.six.2.2.2.2.1
    go_wp2_with fail
    refine (law17_few a n c fs w1 HK1.out.fat HS.out HN.out).mono ?_
    rintro e w2 ⟨rfl, hb2⟩
    have HK2 := Lib.hid (HK1.out.next hb2)
    rw [hfw]
    clear hb2 r3
    go_wp2_with fail
    refine (law17_awake w2 (HG.out.next HK2.out.below)).mono ?_
    rintro e w3 ⟨rfl, hb3⟩
    have HK3 := Lib.hid (HK2.out.next hb3)
    clear hb3
    go_wp2_with fail
    go_ret
    exact ⟨rfl, HK3.out.below⟩

set_option maxRecDepth 100000 in
set_option maxHeartbeats 4000000 in
theorem law17_KeyOwn_no (u : U) (st mn : Int) (m bd : ByteArray) (a : Option Addr) (n c : Nat) (fs : List Fld) (w : World) (hg : GX w) (hu : BigU u) (hF : FieldsAt w (.slice a n c) fs) (hs : ∀ f ∈ fs, f.1.length ≤ 140737488355328 ∧ f.2.length ≤ 140737488355328) (hlen : fs.length ≤ 140737488355328) (hl : longU u = false) (hfw : kfew fs = true) (hok : goneOk u st = false) :
    Calls Tryz.prog 7 #[uV u, .agg #[.int .i64 st, .string m, .int .i64 mn, .slice a n c, .string bd]] w (Ret w (.bool true)) := by
  have HT := two_new w (.cells #[.string ⟨u.scheme.toArray⟩, .string ⟨u.host.toArray⟩, .int .i64 u.port, .string ⟨u.path.toArray⟩, .string ⟨u.query.toArray⟩, .bool u.hq] 23) (.cells #[.int .i64 st, .string m, .int .i64 mn, .slice a n c, .string bd] 31)
  have HK := Lib.hid (show KG w _ u st mn m bd a n c fs from ⟨HT.below, HT.b1, HT.b2, hF.below HT.below⟩)
  have HG := Lib.hid hg
  have HU := Lib.hid hu
  have HS := Lib.hid hs
  have HN := Lib.hid hlen
  have HL := Lib.hid (not_long hl)
  have HM := Lib.hid (kfew_ok hfw)
  have HFL := Lib.hid hl
  have HFW := Lib.hid hfw
  clear HT hg hu hF hs hlen hl hfw
  obtain ⟨⟨c0, c1, c2, c3, c4, c5⟩, -⟩ := HK.out.six
  go_enter Tryz.func7, Tryz.ntmps7
  go_wp2_with fail
  generalize (w.alloc (.cells #[.string ⟨u.scheme.toArray⟩, .string ⟨u.host.toArray⟩, .int .i64 u.port, .string ⟨u.path.toArray⟩, .string ⟨u.query.toArray⟩, .bool u.hq] 23)).alloc (.cells #[.int .i64 st, .string m, .int .i64 mn, .slice a n c, .string bd] 31) = W at *
  refine (law17_long u W HU.out).mono ?_
  rintro e w1 ⟨rfl, hb1⟩
  rw [HFL.out]
  have HK1 := Lib.hid (HK.out.next hb1)
  clear hb1 c0 c1 c2 c3 c4 c5
  have r3 := HK1.out.six.2.2.2.2.1
  go_wp2_with fail
  refine (law17_few a n c fs w1 HK1.out.fat HS.out HN.out).mono ?_
  rintro e w2 ⟨rfl, hb2⟩
  rw [HFW.out]
  have HK2 := Lib.hid (HK1.out.next hb2)
  clear hb2 r3
  obtain ⟨⟨c0, c1, c2, c3, c4, c5⟩, r0, r1, r2, r3, r4⟩ := HK2.out.six
  go_wp2_with fail
  refine (key_Gone u st mn m bd a n c fs w2 (HG.out.next HK2.out.below) HL.out HK2.out.fat HM.out).mono ?_
  rintro e w3 ⟨lv, rfl, hown3, hb3⟩
  obtain ⟨la, lc, rfl⟩ := own_shape hown3
  obtain ⟨out, hout⟩ : ∃ out, goneB u st fs = out := ⟨_, rfl⟩
  rw [hout] at hown3
  rw [hout]
  have HOUT := Lib.hid hout
  have HO3 := Lib.hid (show KO w w3 u st mn m bd a n c fs (.slice la out.length lc) out from ⟨HK2.out.next hb3, StrsAt.of_own hown3⟩)
  clear hown3 hb3 hout c0 c1 c2 c3 c4 c5 r0 r1 r2 r3 r4
  obtain ⟨⟨c0, c1, c2, c3, c4, c5⟩, -⟩ := HO3.out.kg.six
  go_wp2_with fail
  refine (uri_Check u w3 (HG.out.next HO3.out.kg.below) HL.out).mono ?_
  rintro e w4 ⟨rfl, hb4⟩
  have HO4 := Lib.hid (HO3.out.next hb4)
  clear hb4 c0 c1 c2 c3 c4 c5
  have hnil : out = [] := by rw [← HOUT.out]; exact gone_no hok
  subst hnil
  have r0 := HO4.out.kg.six.2.1
  rcases goneOk_no hok with h1 | ⟨h1, h2⟩ | ⟨h1, h2, h3⟩
  · have q1 : (checkB u == 0) = false := beq_eq_false_iff_ne.2 h1
    have q2 : (checkB u != 0) = true := by rw [bne, q1]; rfl
    clear h1
    generalize checkB u = ck at *
    go_wp2_with fail
    refine (HO4.out.awake HG.out).mono ?_
    rintro e w5 ⟨rfl, HB5⟩
    go_wp2_with fail
    go_ret
    exact ⟨rfl, HB5.out⟩
  · rw [h1]
    go_wp2_with fail
    refine (HO4.out.awake HG.out).mono ?_
    rintro e w5 ⟨rfl, HB5⟩
    go_wp2_with fail
    go_ret
    exact ⟨rfl, HB5.out⟩
  · rw [h1]
    go_wp2_with fail
    refine (HO4.out.awake HG.out).mono ?_
    rintro e w5 ⟨rfl, HB5⟩
    go_wp2_with fail
    go_ret
    exact ⟨rfl, HB5.out⟩

set_option maxRecDepth 100000 in
set_option maxHeartbeats 4000000 in
theorem law17_KeyOwn_yes (u : U) (st mn : Int) (m bd : ByteArray) (a : Option Addr) (n c : Nat) (fs : List Fld) (w : World) (hg : GX w) (hu : BigU u) (hF : FieldsAt w (.slice a n c) fs) (hs : ∀ f ∈ fs, f.1.length ≤ 140737488355328 ∧ f.2.length ≤ 140737488355328) (hlen : fs.length ≤ 140737488355328) (hl : longU u = false) (hfw : kfew fs = true) (hok : goneOk u st = true) :
    Calls Tryz.prog 7 #[uV u, .agg #[.int .i64 st, .string m, .int .i64 mn, .slice a n c, .string bd]] w (Ret w (.bool true)) := by
  have HT := two_new w (.cells #[.string ⟨u.scheme.toArray⟩, .string ⟨u.host.toArray⟩, .int .i64 u.port, .string ⟨u.path.toArray⟩, .string ⟨u.query.toArray⟩, .bool u.hq] 23) (.cells #[.int .i64 st, .string m, .int .i64 mn, .slice a n c, .string bd] 31)
  have HK := Lib.hid (show KG w _ u st mn m bd a n c fs from ⟨HT.below, HT.b1, HT.b2, hF.below HT.below⟩)
  have HG := Lib.hid hg
  have HU := Lib.hid hu
  have HS := Lib.hid hs
  have HN := Lib.hid hlen
  have HL := Lib.hid (not_long hl)
  have HM := Lib.hid (kfew_ok hfw)
  have HFL := Lib.hid hl
  have HFW := Lib.hid hfw
  clear HT hg hu hF hs hlen hl hfw
  obtain ⟨⟨c0, c1, c2, c3, c4, c5⟩, -⟩ := HK.out.six
  go_enter Tryz.func7, Tryz.ntmps7
  go_wp2_with fail
  generalize (w.alloc (.cells #[.string ⟨u.scheme.toArray⟩, .string ⟨u.host.toArray⟩, .int .i64 u.port, .string ⟨u.path.toArray⟩, .string ⟨u.query.toArray⟩, .bool u.hq] 23)).alloc (.cells #[.int .i64 st, .string m, .int .i64 mn, .slice a n c, .string bd] 31) = W at *
  refine (law17_long u W HU.out).mono ?_
  rintro e w1 ⟨rfl, hb1⟩
  rw [HFL.out]
  have HK1 := Lib.hid (HK.out.next hb1)
  clear hb1 c0 c1 c2 c3 c4 c5
  have r3 := HK1.out.six.2.2.2.2.1
  go_wp2_with fail
  refine (law17_few a n c fs w1 HK1.out.fat HS.out HN.out).mono ?_
  rintro e w2 ⟨rfl, hb2⟩
  rw [HFW.out]
  have HK2 := Lib.hid (HK1.out.next hb2)
  clear hb2 r3
  obtain ⟨⟨c0, c1, c2, c3, c4, c5⟩, r0, r1, r2, r3, r4⟩ := HK2.out.six
  go_wp2_with fail
  refine (key_Gone u st mn m bd a n c fs w2 (HG.out.next HK2.out.below) HL.out HK2.out.fat HM.out).mono ?_
  rintro e w3 ⟨lv, rfl, hown3, hb3⟩
  obtain ⟨la, lc, rfl⟩ := own_shape hown3
  obtain ⟨out, hout⟩ : ∃ out, goneB u st fs = out := ⟨_, rfl⟩
  rw [hout] at hown3
  rw [hout]
  have HOUT := Lib.hid hout
  have HO3 := Lib.hid (show KO w w3 u st mn m bd a n c fs (.slice la out.length lc) out from ⟨HK2.out.next hb3, StrsAt.of_own hown3⟩)
  clear hown3 hb3 hout c0 c1 c2 c3 c4 c5 r0 r1 r2 r3 r4
  obtain ⟨⟨c0, c1, c2, c3, c4, c5⟩, -⟩ := HO3.out.kg.six
  go_wp2_with fail
  refine (uri_Check u w3 (HG.out.next HO3.out.kg.below) HL.out).mono ?_
  rintro e w4 ⟨rfl, hb4⟩
  have HO4 := Lib.hid (HO3.out.next hb4)
  clear hb4 c0 c1 c2 c3 c4 c5
  have HOK := Lib.hid hok
  obtain ⟨k1, k2, k3⟩ := goneOk_yes hok
  have HW := Lib.hid (show GOwn u fs out by rw [← HOUT.out]; exact gone_own fs hok)
  have hnn := fields_n HO4.out.kg.fat
  subst hnn
  have r0 := HO4.out.kg.six.2.1
  obtain ⟨t0, ht0⟩ := HW.out.first
  have HK0 := Lib.hid (show out[0]? = some (keyB u) by rw [ht0]; rfl)
  have hlen1 := HW.out.len
  have hlen0 : 0 < out.length := by rw [ht0]; exact Nat.succ_pos _
  have HFS := Lib.hid (show fs.length ≤ 1000 from HM.out.many)
  clear ht0 hok
  obtain ⟨ku, hku⟩ : ∃ ku, keyB u = ku := ⟨_, rfl⟩
  rw [hku] at HK0
  have HKU := Lib.hid hku
  clear hku
  obtain ⟨-, lb, lo, rfl, hlc, hlb, -⟩ := strs_at HO4.out.l HK0.out
  rw [k1]
  go_upto_region 6 with fail
  clear r0
  have HSd := Lib.hid (show SixO w.heap.size u lb lo ku (w.heap.size + 1) a fs.length c w4.drew from (HO4.out.next ((Below.refl _ _).drew)).sixO HK0.out)
  have HOd := Lib.hid (show KO w w4.drew u st mn m bd a fs.length c fs (.slice (some ⟨lb, lo, none⟩) out.length lc) out from HO4.out.next ((Below.refl _ _).drew))
  have hfs := HFS.out
  have q1 : (out.length == 0) = false := beq_eq_false_iff_ne.2 (by omega)
  have q2 : ((out.length : Int) == 0) = false := beq_eq_false_iff_ne.2 (by omega)
  have q3 : (0 : Int) < (out.length : Int) := by omega
  have q4 : IntKind.i64.wrap (1 + (fs.length : Int)) = 1 + (fs.length : Int) := IntWalk.i64_in _ (by omega)
  have q5 : decide (1 + (fs.length : Int) < (out.length : Int)) = false := decide_eq_false (by omega)
  go_region_held3 (SixO w.heap.size u lb lo ku (w.heap.size + 1) a fs.length c) (with_reducible exact HSd.out)
    (first
      | (go_at_call 10; (with_reducible refine (key_Of [71, 69, 84] u _ (HG.out.next HOd.out.kg.below) HL.out).mono ?_); rintro e wy ⟨rfl, hby⟩; rw [show keyOfB [71, 69, 84] u = ku from HKU.out]; have HOd := Lib.hid (HOd.out.next hby); have HSd := Lib.hid (HOd.out.sixO HK0.out); clear hby))
  have HLS := Lib.hid (show LimS out by rw [← HOUT.out]; exact gone_len u st (fs := fs) (by have := (kfew_lim HFW.out).1; omega))
  clear q4 q1 q2 q3 q5 HO3 HO4 HK HK1 HK2
  obtain ⟨⟨c0, c1, c2, c3, c4, c5⟩, -⟩ := HOd.out.kg.six
  go_wp2_with fail
  refine (uri_Normal u _ (HG.out.next HOd.out.kg.below) HL.out).mono ?_
  rintro e w6 ⟨rfl, hb6⟩
  obtain ⟨nu, hnu⟩ : ∃ nu, normB u = nu := ⟨_, rfl⟩
  rw [hnu]
  have HNU := Lib.hid hnu
  have HO6 := Lib.hid (show KO w (w6.alloc (.cells #[.string ⟨nu.scheme.toArray⟩, .string ⟨nu.host.toArray⟩, .int .i64 nu.port, .string ⟨nu.path.toArray⟩, .string ⟨nu.query.toArray⟩, .bool nu.hq] 23)) u st mn m bd a fs.length c fs (.slice (some ⟨lb, lo, none⟩) out.length lc) out from (HOd.out.next hb6).next ((Below.refl _ _).alloc (Nat.le_refl _) _))
  have HB6 := Lib.hid (ubx_new w6 nu)
  clear hb6 hnu c0 c1 c2 c3 c4 c5 HOd HSd
  go_wp2_with fail
  generalize w6.alloc (.cells #[.string ⟨nu.scheme.toArray⟩, .string ⟨nu.host.toArray⟩, .int .i64 nu.port, .string ⟨nu.path.toArray⟩, .string ⟨nu.query.toArray⟩, .bool nu.hq] 23) = W6 at *
  generalize w6.heap.size = bn at *
  go_loopw [7] (fun i wr => ∃ k : Nat, k ≤ out.length ∧ i = .int .i64 k ∧ Hid (KO w wr u st mn m bd a fs.length c fs (.slice (some ⟨lb, lo, none⟩) out.length lc) out) ∧ Hid (UBx wr bn nu)) (fun i _ => out.length - (intOf i).toNat)
  case atStart => exact ⟨0, Nat.zero_le _, rfl, HO6, HB6⟩
  case round =>
    obtain ⟨k, hk, rfl, HR, HB⟩ := hrel
    clear HO6 HB6
    by_cases hlt : k < out.length
    · obtain ⟨y, hy⟩ : ∃ y, out[k]? = some y := ⟨out[k], List.getElem?_eq_getElem hlt⟩
      have HY := Lib.hid hy
      obtain ⟨z, hz1, hz2, hz3⟩ := HW.out.each y (List.mem_of_getElem? hy)
      have HZ1 := Lib.hid hz1
      have hyl : y.length ≤ 1024 := by rw [hz2]; exact key_len z
      have hpy : parseB y = (normB z, 0) := by rw [hz2]; exact key_parse hz1
      obtain ⟨nz, hnz⟩ : ∃ nz, normB z = nz := ⟨_, rfl⟩
      rw [hnz] at hpy
      have HPY := Lib.hid hpy
      have hwho : (nz.scheme, nz.host, nz.port) = (nu.scheme, nu.host, nu.port) := by
        have h9 := hz3
        unfold whoB at h9
        rw [hnz, HNU.out] at h9; exact h9
      have HWHO := Lib.hid hwho
      have j0 : (0 : Int) ≤ (k : Int) := by omega
      have j1 : (k : Int) < (out.length : Int) := by omega
      obtain ⟨_, b9, o9, e9, -, -, g1⟩ := strs_at HR.out.l hy
      cases e9
      clear hy hz1 hz2 hz3 hpy hnz hwho
      go_wp2_with fail
      refine (uri_Parse ⟨y.toArray⟩ wr (HG.out.next HR.out.kg.below) (by show y.length ≤ _; omega)).mono ?_
      rintro e w8 ⟨rfl, hb8⟩
      rw [show parseB (⟨y.toArray⟩ : ByteArray).data.toList = (nz, 0) from HPY.out]
      have hb9 := hb8.alloc hb8.size (.cells #[.string ⟨nz.scheme.toArray⟩, .string ⟨nz.host.toArray⟩, .int .i64 nz.port, .string ⟨nz.path.toArray⟩, .string ⟨nz.query.toArray⟩, .bool nz.hq] 23)
      have HR9 := Lib.hid (show KO w (w8.alloc (.cells #[.string ⟨nz.scheme.toArray⟩, .string ⟨nz.host.toArray⟩, .int .i64 nz.port, .string ⟨nz.path.toArray⟩, .string ⟨nz.query.toArray⟩, .bool nz.hq] 23)) u st mn m bd a fs.length c fs (.slice (some ⟨lb, lo, none⟩) out.length lc) out from HR.out.next hb9)
      have HB9 := Lib.hid (show UBx (w8.alloc (.cells #[.string ⟨nz.scheme.toArray⟩, .string ⟨nz.host.toArray⟩, .int .i64 nz.port, .string ⟨nz.path.toArray⟩, .string ⟨nz.query.toArray⟩, .bool nz.hq] 23)) bn nu from HB.out.next hb9)
      have HN9 := Lib.hid (show UBx (w8.alloc (.cells #[.string ⟨nz.scheme.toArray⟩, .string ⟨nz.host.toArray⟩, .int .i64 nz.port, .string ⟨nz.path.toArray⟩, .string ⟨nz.query.toArray⟩, .bool nz.hq] 23)) w8.heap.size nz from ubx_new w8 nz)
      clear hb8 hb9 g1
      go_upto_region 13 with fail
      generalize w8.alloc (.cells #[.string ⟨nz.scheme.toArray⟩, .string ⟨nz.host.toArray⟩, .int .i64 nz.port, .string ⟨nz.path.toArray⟩, .string ⟨nz.query.toArray⟩, .bool nz.hq] 23) = W9 at *
      generalize w8.heap.size = bz at *
      obtain ⟨x0, x1, x2, -, -, -⟩ := HN9.out.cells
      obtain ⟨d0, d1, d2, -, -, -⟩ := HB9.out.cells
      have e0 : W9.cell? ⟨bz, 0, none⟩ = some (.string ⟨nu.scheme.toArray⟩) := by rw [x0, (Prod.mk.inj HWHO.out).1]
      have e1 : W9.cell? ⟨bz, 1, none⟩ = some (.string ⟨nu.host.toArray⟩) := by rw [x1, (Prod.mk.inj (Prod.mk.inj HWHO.out).2).1]
      have e2 : W9.cell? ⟨bz, 2, none⟩ = some (.int .i64 nu.port) := by rw [x2, (Prod.mk.inj (Prod.mk.inj HWHO.out).2).2]
      clear x0 x1 x2
      go_wp2_with fail
      clear e0 e1 e2 d0 d1 d2
      go_loopw [10] (fun i wr => ∃ m9 : Nat, m9 ≤ k ∧ i = .int .i64 m9 ∧ Hid (Below W9.heap.size W9 wr)) (fun i _ => k - (intOf i).toNat)
      case atStart => exact ⟨0, Nat.zero_le _, rfl, Lib.hid (Below.refl _ _)⟩
      case round =>
        obtain ⟨m9, hm9, rfl, HB2⟩ := hrel
        have HRm := Lib.hid (HR9.out.next HB2.out)
        have hfs2 := HFS.out
        by_cases hmk : m9 < k
        · obtain ⟨y2, hy2⟩ : ∃ y2, out[m9]? = some y2 := ⟨out[m9], List.getElem?_eq_getElem (by omega)⟩
          obtain ⟨_, b8, o8, e8, -, -, g1⟩ := strs_at HRm.out.l hy2
          cases e8
          obtain ⟨_, b8, o8, e8, -, -, g2⟩ := strs_at HRm.out.l HY.out
          cases e8
          have q9 := nodup_ne HW.out.once hy2 HY.out hmk
          have m0 : (0 : Int) ≤ (m9 : Int) := by omega
          have m1 : (m9 : Int) < (out.length : Int) := by omega
          have m2 : (m9 : Int) < (k : Int) := by omega
          clear hy2
          go_wp2_with fail
          go_quiet (fail)
          go_wp2_with fail
          go_roundw
          case rel => exact ⟨m9 + 1, by omega, by go_num, ⟨HB2.out.os, HB2.out.tape, HB2.out.output, HB2.out.size, HB2.out.block⟩⟩
          case measure => (simp [intOf] <;> omega)
        · have m2 : (k : Int) ≤ (m9 : Int) := by omega
          have HBm := Lib.hid (HB9.out.next HB2.out)
          go_wp2_with fail
          go_roundw
          case rel => exact ⟨k + 1, by omega, by go_num, HRm, HBm⟩
          case measure => (simp [intOf] <;> omega)
    · have j1 : (out.length : Int) ≤ (k : Int) := by omega
      have hfs2 := HFS.out
      clear HB
      rename World => W7
      go_wp2_with fail
      go_loopw [11, 12] (fun sv i wr => ∃ (k : Nat) (sa : Option Addr) (sc : Nat), k ≤ fs.length ∧ i = .int .i64 k ∧ sv = .slice sa (someF (fs.take k)).length sc ∧ Hid (Below W7.heap.size W7 wr) ∧ Hid (FOwn wr W7.heap.size (.slice sa (someF (fs.take k)).length sc) (someF (fs.take k)))) (fun _ i _ => fs.length - (intOf i).toNat)
      case atStart => exact ⟨0, none, 0, Nat.zero_le _, rfl, rfl, Lib.hid (Below.refl _ _), Lib.hid (fown_nil _ _)⟩
      case round =>
        obtain ⟨k, sa, sc, hk9, rfl, rfl, HB7, HO7⟩ := hrel
        have HRk := Lib.hid (HR.out.next HB7.out)
        have r3 := HRk.out.kg.six.2.2.2.2.1
        by_cases hkf : k < fs.length
        · obtain ⟨f, hf⟩ : ∃ f, fs[k]? = some f := ⟨fs[k], List.getElem?_eq_getElem hkf⟩
          obtain ⟨fb, fo, rfl, -, hfc, g1, g2⟩ := field_at HRk.out.kg.fat hf
          have HFf := Lib.hid hf
          have hfl := HM.out.each f (List.mem_of_getElem? hf)
          obtain ⟨gs, hgs⟩ : ∃ gs, someF (fs.take k) = gs := ⟨_, rfl⟩
          rw [hgs] at HO7
          rw [hgs]
          have HGS := Lib.hid hgs
          have hgl : gs.length ≤ 1000 := by rw [← hgs]; exact Nat.le_trans (someF_len _) (by have := List.length_take_le k fs; omega)
          have k0 : (0 : Int) ≤ (k : Int) := by omega
          have k1 : (k : Int) < (fs.length : Int) := by omega
          clear hf hgs
          go_wp2_with fail
          refine (text_Same ⟨f.1.toArray⟩ ⟨#[108, 111, 99, 97, 116, 105, 111, 110]⟩ _ (by show f.1.length ≤ _; omega) (by decide)).mono ?_
          rintro e w10 ⟨rfl, hb10⟩
          rw [show same (⟨f.1.toArray⟩ : ByteArray).data.toList (⟨#[108, 111, 99, 97, 116, 105, 111, 110]⟩ : ByteArray).data.toList = same f.1 locName from rfl]
          have HB10 := Lib.hid (HB7.out.trans (hb10.mono HB7.out.size))
          have HO10 := Lib.hid (own_below HO7.out hb10)
          have HR10 := Lib.hid (HRk.out.next hb10)
          clear hb10 g1 g2 r3
          cases h1 : same f.1 locName
          · have H1 := Lib.hid h1
            clear h1
            obtain ⟨fb9, fo9, e9, -, -, g1, g2⟩ := field_at HR10.out.kg.fat HFf.out
            cases e9
            have r3 := HR10.out.kg.six.2.2.2.2.1
            go_wp2_with fail
            refine (text_Same ⟨f.1.toArray⟩ ⟨#[99, 111, 110, 116, 101, 110, 116, 45, 108, 111, 99, 97, 116, 105, 111, 110]⟩ _ (by show f.1.length ≤ _; omega) (by decide)).mono ?_
            rintro e w11 ⟨rfl, hb11⟩
            rw [show same (⟨f.1.toArray⟩ : ByteArray).data.toList (⟨#[99, 111, 110, 116, 101, 110, 116, 45, 108, 111, 99, 97, 116, 105, 111, 110]⟩ : ByteArray).data.toList = same f.1 clocName from rfl]
            have HB11 := Lib.hid (HB10.out.trans (hb11.mono HB10.out.size))
            have HO11 := Lib.hid (own_below HO10.out hb11)
            have HR11 := Lib.hid (HR10.out.next hb11)
            clear hb11 g1 g2 r3
            cases h2 : same f.1 clocName
            · have H2 := Lib.hid h2
              clear h2
              have HSF := Lib.hid (show someF (fs.take (k + 1)) = gs by rw [someF_no HFf.out (by rw [H1.out, H2.out]; rfl), HGS.out])
              go_wp2_with fail
              go_roundw
              case rel => exact ⟨k + 1, sa, sc, by omega, by go_num, by rw [HSF.out], HB11, by rw [HSF.out]; exact HO11⟩
              case measure => (simp [intOf] <;> omega)
            · have H2 := Lib.hid h2
              clear h2
              obtain ⟨fb9, fo9, e9, -, -, g1, g2⟩ := field_at HR11.out.kg.fat HFf.out
              cases e9
              have r3 := HR11.out.kg.six.2.2.2.2.1
              have HOa := Lib.hid (show FOwn (w11.alloc (.cells #[.string ⟨f.1.toArray⟩, .string ⟨f.2.toArray⟩] 47)) W7.heap.size (.slice sa gs.length sc) gs from own_below HO11.out ((Below.refl _ _).alloc (Nat.le_refl _) _))
              have HBa := Lib.hid (show Below W7.heap.size W7 (w11.alloc (.cells #[.string ⟨f.1.toArray⟩, .string ⟨f.2.toArray⟩] 47)) from HB11.out.alloc HB11.out.size _)
              go_wp2_with (at_builtin; refine wpList_fapp rfl _ _ rfl _ gs (f.1, f.2) W7.heap.size w11.heap.size rfl rfl (heap_alloc_new w11 _) HOa.out (by omega) HBa.out.size ?_; intro g cap w12 hown12 hg12; have HBz := Lib.hid (HBa.out.grown hg12 HBa.out.size (fun k hk => (HOa.out.lt k hk).1)); have HOz := Lib.hid hown12; clear hown12 hg12)
              have HSF := Lib.hid (show someF (fs.take (k + 1)) = gs ++ [f] by rw [someF_yes HFf.out (by rw [H1.out, H2.out]; rfl), HGS.out])
              go_roundw
              case rel => exact ⟨k + 1, some ⟨g, 0, none⟩, cap, by omega, by go_num, by rw [HSF.out, List.length_append]; rfl, HBz, by rw [HSF.out, List.length_append]; exact HOz⟩
              case measure => (simp [intOf] <;> omega)
          · have H1 := Lib.hid h1
            clear h1
            obtain ⟨fb9, fo9, e9, -, -, g1, g2⟩ := field_at HR10.out.kg.fat HFf.out
            cases e9
            have r3 := HR10.out.kg.six.2.2.2.2.1
            have HOa := Lib.hid (show FOwn (w10.alloc (.cells #[.string ⟨f.1.toArray⟩, .string ⟨f.2.toArray⟩] 47)) W7.heap.size (.slice sa gs.length sc) gs from own_below HO10.out ((Below.refl _ _).alloc (Nat.le_refl _) _))
            have HBa := Lib.hid (show Below W7.heap.size W7 (w10.alloc (.cells #[.string ⟨f.1.toArray⟩, .string ⟨f.2.toArray⟩] 47)) from HB10.out.alloc HB10.out.size _)
            go_wp2_with (at_builtin; refine wpList_fapp rfl _ _ rfl _ gs (f.1, f.2) W7.heap.size w10.heap.size rfl rfl (heap_alloc_new w10 _) HOa.out (by omega) HBa.out.size ?_; intro g cap w12 hown12 hg12; have HBz := Lib.hid (HBa.out.grown hg12 HBa.out.size (fun k hk => (HOa.out.lt k hk).1)); have HOz := Lib.hid hown12; clear hown12 hg12)
            have HSF := Lib.hid (show someF (fs.take (k + 1)) = gs ++ [f] by rw [someF_yes HFf.out (by rw [H1.out]; rfl), HGS.out])
            go_roundw
            case rel => exact ⟨k + 1, some ⟨g, 0, none⟩, cap, by omega, by go_num, by rw [HSF.out, List.length_append]; rfl, HBz, by rw [HSF.out, List.length_append]; exact HOz⟩
            case measure => (simp [intOf] <;> omega)
        · have hke : fs.take k = fs := List.take_of_length_le (by omega)
          rw [hke] at HO7
          rw [hke]
          have k1 : (fs.length : Int) ≤ (k : Int) := by omega
          clear hke
          obtain ⟨⟨c0, c1, c2, c3, c4, c5⟩, -⟩ := HRk.out.kg.six
          go_wp2_with fail
          refine (key_Gone u 200 0 ⟨#[]⟩ ⟨#[]⟩ sa _ sc (someF fs) wr (HG.out.next HRk.out.kg.below) HL.out HO7.out.at (someF_lim HM.out)).mono ?_
          rintro e w10 ⟨mv, rfl, hown10, hb10⟩
          rw [gone_some HOK.out, HOUT.out] at hown10
          have HS10 := Lib.hid (StrsAt.of_own hown10)
          have HR10 := Lib.hid (HRk.out.next hb10)
          clear hown10 hb10 c0 c1 c2 c3 c4 c5
          go_wp2_with fail
          refine (lib_Join _ out ⟨#[32]⟩ w10 HR10.out.l HLS.out (by decide)).mono ?_
          rintro e w11 ⟨rfl, hb11⟩
          have HR11 := Lib.hid (HR10.out.next hb11)
          have HS11 := Lib.hid (HS10.out.below hb11)
          clear hb11
          go_wp2_with fail
          refine (lib_Join _ out ⟨#[32]⟩ w11 HS11.out HLS.out (by decide)).mono ?_
          rintro e w12 ⟨rfl, hb12⟩
          have HR12 := Lib.hid (HR11.out.next hb12)
          clear hb12
          go_wp2_with fail
          refine (HR12.out.awake HG.out).mono ?_
          rintro e w13 ⟨rfl, HB13⟩
          go_wp2_with fail
          go_ret
          exact ⟨rfl, HB13.out⟩
theorem law17_KeyOwn (u : U) (st mn : Int) (m bd : ByteArray) (a : Option Addr) (n c : Nat) (fs : List Fld) (w : World) (hg : GX w) (hu : BigU u) (hF : FieldsAt w (.slice a n c) fs) (hs : ∀ f ∈ fs, f.1.length ≤ 140737488355328 ∧ f.2.length ≤ 140737488355328) (hlen : fs.length ≤ 140737488355328) :
    Calls Tryz.prog 7 #[uV u, .agg #[.int .i64 st, .string m, .int .i64 mn, .slice a n c, .string bd]] w (Ret w (.bool true)) := by
  cases hl : longU u
  · cases hfw : kfew fs
    · exact law17_KeyOwn_skip u st mn m bd a n c fs w hg hu hF hs hlen (.inr ⟨hl, hfw⟩)
    · cases hok : goneOk u st
      · exact law17_KeyOwn_no u st mn m bd a n c fs w hg hu hF hs hlen hl hfw hok
      · exact law17_KeyOwn_yes u st mn m bd a n c fs w hg hu hF hs hlen hl hfw hok
  · exact law17_KeyOwn_skip u st mn m bd a n c fs w hg hu hF hs hlen (.inl hl)
end Go.Proofs.YtmkpejioinkceaaGreatDoor
