/- The walk of the reference's Undo. -/
import Derived.Test.YtmkpejioinkceaaGreatDoorRefUri1
import Derived.Test.YtmkpejioinkceaaGreatDoorUriN
import Derived.Deep.QuietTactic
import Derived.BigQuiet
import Derived.IntWalk
import Derived.Deep.RegionLaw
namespace Go.Proofs.YtmkpejioinkceaaGreatDoor
open Go.RowKit
set_option linter.unusedVariables false

/-- Three elements of one cell are appended to a slice that the call owns: they lie in a block of their own first. -/
theorem step_app3 {P : Program} {ops : Array Oper} {o : Oper} {a : Act} {K : Act → World → Prop} {Q : Exit → Act → World → Prop} {E : Prop} {W : World} (hgd : o.guard = none) (s x : Operand) (t : TypeId)
    (ho : o.op = .call { callee := .builtin .append, args := #[s, x], argTypes := #[t, t] })
    (e : TypeId) (z : Value) (bytes : Nat) (ht : P.underlying t = some (.slice e)) (hinfo : (P.info? e).map (fun i => (i.zero, i.size, i.bytes)) = some (some z, 1, bytes))
    (hzs : z.cells.size = 1) (base : Nat) (w : World)
    (v : Value) (n : Nat) (xs : List Value) (hs : a.eval s = v) (hown : w.ownsRow base e 1 v n xs)
    (us : List Value) (hw : W = w.alloc (.cells us.toArray e)) (hl : us.length = 3) (hx : a.eval x = .slice (some ⟨w.heap.size, 0, none⟩) 3 3) (h1 : ∀ u ∈ us, u.oneCell' = true)
    (hbytes : (n + 3) * bytes ≤ 140737488355328) (h63 : n + 3 ≤ 140737488355328) (hbase : base ≤ w.heap.size)
    (h : ∀ g cap w', w'.ownsRow base e 1 (.slice (some ⟨g, 0, none⟩) (n + 3) cap) (n + 3) (xs ++ us) → Below base w w' → w.heap.size < w'.heap.size →
      K (a.put o.dst (.slice (some ⟨g, 0, none⟩) (n + 3) cap)) w') :
    if Region.wanted o (yielded ops a.tmps) = true then Oper.wp P o a W K Q else E := by
  subst hw
  rw [if_pos (show Region.wanted o (yielded ops a.tmps) = true by simp [Region.wanted, hgd])]
  obtain ⟨i, hi, hz, hsize, hby⟩ := info_parts hinfo
  refine wp_append_own _ s x t ho base e i z 1 bytes ht hi hz hsize hby hzs (by decide) v n xs hs (hown.alloc _) ⟨w.heap.size, 0, none⟩ 3 3 us hx (by omega) ?_ h1
    (by unfold maxLen; omega) hbytes (by simp; omega) ?_
  · intro j u hj
    have hj' : us.toArray[j]? = some u := by simpa using hj
    have hn : (w.alloc (.cells us.toArray e)).heap[w.heap.size]? = some (.cells us.toArray e) := heap_alloc_new w _
    have : ((⟨w.heap.size, 0, none⟩ : Addr).add j) = ⟨w.heap.size, j, none⟩ := by
      unfold Addr.add; by_cases h0 : j = 0
      · subst h0; rfl
      · rw [if_neg h0]; simp
    rw [this]
    unfold World.cell?
    rw [show (w.alloc (.cells us.toArray e)).heap[(⟨w.heap.size, j, none⟩ : Addr).block]? = _ from hn]
    simpa using hj'
  · intro v' w' hown' hg _
    obtain ⟨g, cap, rfl⟩ := own_succ hown'
    have hb0 : Below base w (w.alloc (.cells us.toArray e)) := (Below.refl _ _).alloc hbase _
    have hr : ∀ k, v.ownBlock = some k → base ≤ k := fun k hk => (hown.lt k hk).1
    have hsz' : w.heap.size < w'.heap.size := by have := hg.size; simp at this; omega
    exact h g cap w' hown' (hb0.grown hg (by simp; omega) hr) hsz'

/-- What stands at the head of a text that is made well. -/
theorem well_at {c : UInt8} {r : Bs} (h : madeB (fun _ => true) (c :: r) = true) :
    (escAt (c :: r) = false ∧ madeB (fun _ => true) r = true ∧ undoB (c :: r) = [c] ++ undoB r) ∨
    (∃ a b r', c = 37 ∧ r = a :: b :: r' ∧ hexc a = true ∧ hexc b = true ∧ escAt (c :: r) = true ∧ madeB (fun _ => true) r' = true ∧ undoB (c :: r) = unesc a b ++ undoB r') := by
  by_cases hc : c = 37
  · obtain ⟨_, a, b, r', rfl, ha, hb, hr⟩ := made_len h hc
    subst hc
    exact .inr ⟨a, b, r', rfl, rfl, ha, hb, by show ((37 : UInt8) == 37 && hexc a && hexc b) = true; rw [ha, hb]; rfl, hr, undoB_esc (by rw [ha, hb]; rfl)⟩
  · rw [madeB_byte hc] at h
    refine .inl ⟨?_, by simpa using h, undoB_byte hc⟩
    match r with
    | [] => rfl
    | [_] => rfl
    | a :: b :: r' => show (c == 37 && hexc a && hexc b) = false; rw [show (c == 37) = false from by rw [beq_eq_false_iff_ne]; exact hc]; rfl
theorem capHex : ∀ v : Nat, v < 16 → ∀ a : Nat, a < 256 → hexc (UInt8.ofNat a) = true → hexv (UInt8.ofNat a) = v → [48, 49, 50, 51, 52, 53, 54, 55, 56, 57, 65, 66, 67, 68, 69, 70][v]? = some (upc (UInt8.ofNat a)) := by decide +kernel
theorem cap_hex {a : UInt8} (h : hexc a = true) : ([48, 49, 50, 51, 52, 53, 54, 55, 56, 57, 65, 66, 67, 68, 69, 70] : Bs)[hexv a]? = some (upc a) := by
  have e : UInt8.ofNat a.toNat = a := UInt8.ofNat_toNat
  have := capHex (hexv a) (hexv_lt h) a.toNat a.toNat_lt (by rw [e]; exact h) (by rw [e])
  rwa [e] at this
theorem cap_at {a : UInt8} (h : hexc a = true) (k : Nat) (hk : k = hexv a) (hb) : ((⟨#[48, 49, 50, 51, 52, 53, 54, 55, 56, 57, 65, 66, 67, 68, 69, 70]⟩ : ByteArray)[k]'hb) = upc a := by
  subst hk
  have := cap_hex h
  rw [List.getElem?_eq_some_iff] at this
  obtain ⟨_, h2⟩ := this
  exact h2
theorem hexI_of {c : UInt8} (h : hexc c = true) : hexI c = (hexv c : Int) := by unfold hexI; rw [h]; rfl
theorem ref09_PlainI (v : Int) (c : UInt8) (hv : v = (c.toNat : Int)) (w : World) : Calls Tryz.prog 95 #[.int .u8 v] w fun e w' => e = .returned (.bool (plainc c)) ∧ w = w' := by
  subst hv; exact ref09_Plain c w

theorem bcells_app (l m : Bs) : bcells (l ++ m) = bcells l ++ bcells m := by simp [bcells]

set_option maxRecDepth 100000 in
set_option maxHeartbeats 1000000 in
theorem ref09_Undo (s : ByteArray) (w : World) (hw : madeB (fun _ => true) s.data.toList = true) (hs : s.size ≤ 1000000) :
    Calls Tryz.prog 61 #[.string s] w (Ret w (.string ⟨(undoB s.data.toList).toArray⟩)) := by
  have HU := Lib.hid (show (undoB s.data.toList).length ≤ 1000000 by
    have := undo_len (p := fun _ => true) hw
    rw [bs_size] at this; omega)
  have HW := Lib.hid hw
  clear hw
  go_enter Tryz.func61, Tryz.ntmps61
  go_wp2
  go_loopw [3, 4] (fun b i wr => ∃ (k : Nat) (out : Bs), k ≤ s.size ∧ i = .int .i64 k ∧ wr.ownsRow w.heap.size 5 1 b out.length (bcells out) ∧ Below w.heap.size w wr ∧ Hid (madeB (fun _ => true) (s.data.toList.drop k) = true ∧ out ++ undoB (s.data.toList.drop k) = undoB s.data.toList)) (fun _ i _ => s.size - (intOf i).toNat)
  case atStart => exact ⟨0, [], Nat.zero_le _, rfl, World.ownsRow_nil _ _ _ _, Below.refl _ _, Lib.hid ⟨by rw [List.drop_zero]; exact HW.out, by rw [List.drop_zero]; rfl⟩⟩
  case round =>
    obtain ⟨k, out, hk, rfl, hown, hb, HK⟩ := hrel
    have hsz := hb.size
    have hol : out.length ≤ 1000000 := by
      have h1 := congrArg List.length HK.out.2
      have h2 := HU.out
      rw [List.length_append] at h1; omega
    by_cases hlt : k < s.size
    · have i1 : (k : Int) < (s.size : Int) := by omega
      have hd : s.data.toList.drop k = s[k] :: s.data.toList.drop (k + 1) := by
        have hl : k < s.data.toList.length := by rw [bs_size]; exact hlt
        rw [List.drop_eq_getElem_cons hl]; congr 1
      have HD := Lib.hid hd
      have hHK := HK.out
      rw [hd] at hHK
      rcases well_at hHK.1 with ⟨he, hm, hu⟩ | ⟨a, b, r', hc, hr, ha, hb', he, hm, hu⟩
      · have HN := Lib.hid (show madeB (fun _ => true) (s.data.toList.drop (k + 1)) = true ∧ (out ++ [s[k]]) ++ undoB (s.data.toList.drop (k + 1)) = undoB s.data.toList from ⟨hm, by rw [List.append_assoc, ← hu]; exact hHK.2⟩)
        have HE := Lib.hid he
        clear he hm hu hHK hd
        go_wp2_with fail
        refine (ref09_escape s k wr hk (by omega)).mono ?_
        rintro e w' ⟨rfl, rfl⟩
        rw [HD.out, HE.out]
        go_wp2_with (at_builtin; refine wpList_app1 rfl _ _ 71 rfl 5 (.int .u8 0) 1 1 Go.Proofs.YtmkpejioinkceaaGreatDoor.u71 info5 rfl (by decide) w.heap.size _ _ _ _ rfl hown [.int .u8 (↑s[k].toNat)] rfl rfl rfl (by simp [Value.oneCell']) (by omega) (by omega) hsz ?_; intro g cap w1 hown1 hb1 hsz1)
        go_roundw
        case rel =>
          refine ⟨k + 1, out ++ [s[k]], by omega, by go_num, ?_, hb.trans hb1, HN⟩
          rw [bcells_snoc, List.length_append, List.length_singleton]; exact hown1
        case measure => simp [intOf]; omega
      · have hk3 : k + 3 ≤ s.size := by
          have := congrArg List.length hr
          rw [List.length_drop, bs_size] at this; simp at this; omega
        have hg := drop_get3 (s := s) (n := k) (by omega)
        have hd1 : s.data.toList.drop (k + 1) = s[k + 1] :: s[k + 2] :: s.data.toList.drop (k + 3) := by
          have := hg; rw [hd] at this; exact (List.cons.inj this).2
        rw [hr] at hd1
        obtain ⟨ea, hd2⟩ := List.cons.inj hd1
        obtain ⟨eb, er⟩ := List.cons.inj hd2
        have HEA := Lib.hid ea
        have HEB := Lib.hid eb
        have HN := Lib.hid (show madeB (fun _ => true) (s.data.toList.drop (k + 3)) = true ∧ (out ++ unesc a b) ++ undoB (s.data.toList.drop (k + 3)) = undoB s.data.toList from ⟨by rw [← er]; exact hm, by rw [List.append_assoc, ← er, ← hu]; exact hHK.2⟩)
        have HE := Lib.hid he
        have hxa := hexI_of ha
        have hxb := hexI_of hb'
        have hla := hexv_lt ha
        have hlb := hexv_lt hb'
        have hn := esc_nat ha hb'
        have Hun := Lib.hid (show unesc a b = if plainc (UInt8.ofNat (16 * hexv a + hexv b)) then [UInt8.ofNat (16 * hexv a + hexv b)] else [37, upc a, upc b] from rfl)
        have HA := Lib.hid (cap_at ha)
        have HB := Lib.hid (cap_at hb')
        have i2 : (k : Int) + 1 < (s.size : Int) := by omega
        have i3 : (k : Int) + 2 < (s.size : Int) := by omega
        have t1 : ((k : Int) + 1).toNat = k + 1 := by omega
        have t2 : ((k : Int) + 2).toNat = k + 2 := by omega
        have t3 : (0 : Int) ≤ (k : Int) + 1 := by omega
        have t4 : (0 : Int) ≤ (k : Int) + 2 := by omega
        have p1 : IntKind.i64.wrap ((k : Int) + 1) = (k : Int) + 1 := IntWalk.i64_in _ (by omega)
        have p2 : IntKind.i64.wrap ((k : Int) + 2) = (k : Int) + 2 := IntWalk.i64_in _ (by omega)
        obtain ⟨P, hP⟩ : ∃ P : Int, P = 16 * (hexv a : Int) := ⟨_, rfl⟩
        obtain ⟨c, hcc⟩ : ∃ c : UInt8, c = UInt8.ofNat (16 * hexv a + hexv b) := ⟨_, rfl⟩
        rw [← hcc] at hn
        have p3 : IntKind.i64.wrap (16 * (hexv a : Int)) = P := by rw [hP]; exact IntWalk.i64_in _ (by omega)
        have p4 : IntKind.i64.wrap (P + (hexv b : Int)) = (c.toNat : Int) := by rw [hP, hn, IntWalk.i64_in _ (by omega)]; omega
        have p5 : (c.toNat : Int) % 256 = (c.toNat : Int) := by have := c.toNat_lt; omega
        have HXA : ∀ W, Calls Tryz.prog 94 #[.int .u8 (s[k + 1].toNat : Int)] W fun e w' => e = .returned (.int .i64 (hexv a : Int)) ∧ w' = W := fun W => HEA.out ▸ (ref09_Hex a W).mono fun e w' ⟨h1, h2⟩ => ⟨by rw [h1, hxa], h2.symm⟩
        have HXB : ∀ W, Calls Tryz.prog 94 #[.int .u8 (s[k + 2].toNat : Int)] W fun e w' => e = .returned (.int .i64 (hexv b : Int)) ∧ w' = W := fun W => HEB.out ▸ (ref09_Hex b W).mono fun e w' ⟨h1, h2⟩ => ⟨by rw [h1, hxb], h2.symm⟩
        have HXA := Lib.hid HXA
        have HXB := Lib.hid HXB
        have HC := Lib.hid (show c.toNat = 16 * hexv a + hexv b from hn)
        rw [← hcc] at Hun
        clear he hm hu hHK hd hg hd1 hd2 er hr hc ha hb' hcc hn hP hxa hxb ea eb
        go_wp2_with fail
        refine (ref09_escape s k wr hk (by omega)).mono ?_
        rintro e w' ⟨rfl, rfl⟩
        rw [HD.out, HE.out]
        go_wp2_with fail
        go_quiet (first | (go_at_call 94; with_reducible exact Calls.quiet_of_same (HXA.out _)) | (go_at_call 94; with_reducible exact Calls.quiet_of_same (HXB.out _)))
        have HB1 := Lib.hid (below_drewN hb nq)
        have hown1 := own_below hown (below_drewN (Below.refl wr.heap.size wr) nq)
        generalize wr.drewN nq = W1 at *
        have hsz1 : w.heap.size ≤ W1.heap.size := HB1.out.size
        clear p3 p4 p5 hown hb hsz
        go_wp2_with fail
        refine (ref09_PlainI _ c rfl W1).mono ?_
        rintro e w' ⟨rfl, rfl⟩
        obtain ⟨C, hC⟩ : ∃ C : Int, C = (c.toNat : Int) := ⟨_, rfl⟩
        rw [← hC]
        have c0 : (0 : Int) ≤ C := by omega
        have c1 : C ≤ 255 := by have := c.toNat_lt; omega
        rcases hp : plainc c with _ | _
        · have HU2 := Lib.hid (show unesc a b = [37, upc a, upc b] by rw [Hun.out, hp]; rfl)
          have q1 : C / 16 = (hexv a : Int) := by rw [hC, HC.out]; omega
          have q2 : C % 16 = (hexv b : Int) := by rw [hC, HC.out]; omega
          have q3 : C.tdiv 16 = (hexv a : Int) := by rw [Int.tdiv_eq_ediv_of_nonneg c0]; exact q1
          have q4 : C.tmod 16 = (hexv b : Int) := by rw [Int.tmod_eq_emod_of_nonneg c0]; exact q2
          have ia := HA.out (hexv a) rfl
          have ib := HB.out (hexv b) rfl
          have HCC := Lib.hid hC
          clear HC hC hp Hun HA HB HE HD HEA HEB
          generalize hexv a = na at *
          generalize hexv b = nb at *
          have z1 : (na : Int) < 16 := by omega
          have z2 : (nb : Int) < 16 := by omega
          have z3 : IntKind.u8.wrap (na : Int) = (na : Int) := IntWalk.u8_in _ (by omega)
          have hownd := own_below hown1 (Below.refl W1.heap.size W1).drew
          have hszd : w.heap.size ≤ W1.drew.heap.size := hsz1
          go_wp2_with fail
          go_region_law (first | (refine step_app3 (by rfl) _ _ 71 (by rfl) 5 (.int .u8 0) 1 Go.Proofs.YtmkpejioinkceaaGreatDoor.u71 info5 (by rfl) w.heap.size _ _ _ _ (by rfl) hownd [.int .u8 37, .int .u8 ((upc a).toNat : Int), .int .u8 ((upc b).toNat : Int)] (by rfl) (by rfl) (by rfl) (by simp [Value.oneCell']) (by omega) (by omega) hszd ?_; intro g cap w2 hown2 hb2 hsz2))
          all_goals
            go_wp2_with fail
            go_roundw
            case rel =>
              refine ⟨k + 3, out ++ [37, upc a, upc b], by omega, by go_num, ?_, HB1.out.drew.trans hb2, by rw [← HU2.out]; exact HN⟩
              rw [bcells_app, List.length_append]; exact hown2
            case measure => simp [intOf]; omega
        · have HU2 := Lib.hid (show unesc a b = [c] by rw [Hun.out, hp]; rfl)
          have HCC := Lib.hid hC
          clear HC hC hp Hun HA HB HE HD HEA HEB
          go_wp2_with (at_builtin; refine wpList_app1 rfl _ _ 71 rfl 5 (.int .u8 0) 1 1 Go.Proofs.YtmkpejioinkceaaGreatDoor.u71 info5 rfl (by decide) w.heap.size _ _ _ _ rfl hown1 [.int .u8 C] rfl rfl rfl (by simp [Value.oneCell']) (by omega) (by omega) hsz1 ?_; intro g cap w2 hown2 hb2 hsz2)
          go_roundw
          case rel =>
            refine ⟨k + 3, out ++ [c], by omega, by go_num, ?_, HB1.out.trans hb2, by rw [← HU2.out]; exact HN⟩
            rw [bcells_snoc, List.length_append, List.length_singleton, ← HCC.out]; exact hown2
          case measure => simp [intOf]; omega
    · have HE := Lib.hid (show out = undoB s.data.toList by
        have := HK.out.2
        rw [List.drop_eq_nil_of_le (by rw [bs_size]; omega), show undoB [] = [] from rfl, List.append_nil] at this; exact this)
      have i1 : (s.size : Int) ≤ (k : Int) := by omega
      have hcv := conv_own hown
      go_wp2
      go_ret
      exact ⟨by rw [HE.out]; rfl, hb⟩
end Go.Proofs.YtmkpejioinkceaaGreatDoor
