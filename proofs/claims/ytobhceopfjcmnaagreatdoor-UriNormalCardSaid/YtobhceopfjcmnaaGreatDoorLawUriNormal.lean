/- The law UriNormal: the stage's theorem. -/
import Derived.Test.YtobhceopfjcmnaaGreatDoorUriNorm
import Derived.Test.YtobhceopfjcmnaaGreatDoorLawLong
import Derived.Test.YtobhceopfjcmnaaGreatDoorUriTwW
import Derived.Test.YtobhceopfjcmnaaGreatDoorLawResWhole
import Derived.Deep.RegionHeld3
namespace Go.Proofs.YtobhceopfjcmnaaGreatDoor
open Go.RowKit
set_option linter.unusedVariables false

/-- The box of the address that came in, and that of its normal form. -/
structure NB (w W : World) (u : U) (b : Nat) (n : U) : Prop where
  below : Below w.heap.size w W
  bu : UBx W w.heap.size u
  bn : UBx W b n
theorem NB.next {w W W' : World} {u n : U} {b : Nat} (h : NB w W u b n) (hb : Below W.heap.size W W') : NB w W' u b n := ⟨h.below.trans (hb.mono h.below.size), h.bu.next hb, h.bn.next hb⟩
theorem NB.six {w W : World} {u n : U} {b : Nat} (h : NB w W u b n) : Six2 b n w.heap.size u W := six2 h.bn h.bu
theorem NB.box {w W : World} {u n : U} {b : Nat} (h : NB w W u b n) (x : U) : NB w (W.alloc (uObj x)) u b n := h.next ((Below.refl _ _).alloc (Nat.le_refl _) _)
theorem nb_put {w W : World} {u n : U} {b c : Nat} (h : NB w W u b n) (hc : w.heap.size < c) (hne : b ≠ c) (x : U) : NB w (put6w W c x) u b n := by
  refine ⟨?_, h.bu.put9 (by omega), h.bn.put9 hne⟩
  have hn : w.heap.size ≤ c := by omega
  exact (((((h.below.setCell (p := ⟨c, 0, none⟩) hn _).setCell (p := ⟨c, 1, none⟩) hn _).setCell (p := ⟨c, 2, none⟩) hn _).setCell (p := ⟨c, 3, none⟩) hn _).setCell (p := ⟨c, 4, none⟩) hn _).setCell (p := ⟨c, 5, none⟩) hn _
/-- The third box. -/
def Turned (w W : World) (u : U) (b : Nat) (n x : U) (t : Value) : Prop := ∃ bx, t = .pointer (some ⟨bx, 0, none⟩) ∧ NB w W u b n ∧ UBx W bx x
theorem made_ascii {p : UInt8 → Bool} (hp : ∀ c, p c = true → c.toNat < 128) {s : Bs} (h : madeB p s = true) : ∀ c ∈ s, c.toNat < 128 := by
  refine madeInd (M := fun s => ∀ c ∈ s, c.toNat < 128) h (fun c hc => by cases hc) ?_ ?_
  · intro c r _ hc _ ih d hd
    rcases List.mem_cons.1 hd with rfl | hd
    · exact hp _ hc
    · exact ih d hd
  · intro a b r ha hb _ ih d hd
    have hh : ∀ x : UInt8, hexc x = true → x.toNat < 128 := by
      intro x hx; unfold hexc at hx; have := of_decide_eq_true hx; omega
    simp only [List.mem_cons] at hd
    rcases hd with rfl | rfl | rfl | hd
    · decide
    · exact hh _ ha
    · exact hh _ hb
    · exact ih d hd
theorem path_ascii (c : UInt8) (h : pathc c = true) : c.toNat < 128 := by
  have h0 : (List.range 256).all (fun n => !pathc (UInt8.ofNat n) || decide (n < 128)) = true := by decide +kernel
  have h1 := List.all_eq_true.1 h0 c.toNat (List.mem_range.2 c.toNat_lt)
  rw [UInt8.ofNat_toNat, h] at h1
  exact of_decide_eq_true h1
theorem query_ascii (c : UInt8) (h : queryc c = true) : c.toNat < 128 := by
  have h0 : (List.range 256).all (fun n => !queryc (UInt8.ofNat n) || decide (n < 128)) = true := by decide +kernel
  have h1 := List.all_eq_true.1 h0 c.toNat (List.mem_range.2 c.toNat_lt)
  rw [UInt8.ofNat_toNat, h] at h1
  exact of_decide_eq_true h1
theorem host_ascii {l : Bs} (h : l.all hostc = true) : ∀ c ∈ l, c.toNat < 128 := by
  intro c hc
  have := List.all_eq_true.1 h c hc
  unfold hostc at this
  have := of_decide_eq_true this
  omega
/-- What the walk needs of a normal form. -/
structure NFacts (u n : U) (how : Bs) : Prop where
  ok : okB n = true
  idem : normB n = n
  len : (putB n).length ≤ (putB u).length
  host : ∀ c ∈ n.host, c.toNat < 128
  path : ∀ c ∈ n.path, c.toNat < 128
  query : ∀ c ∈ n.query, c.toNat < 128
  back : okB (turned n how) = true → normB (turned n how) = n
  codes : checkB (turned n how) = 0 ∨ checkB (turned n how) = 3
  lim : LimU n
  limt : LimU (turned n how)
theorem tw_in {s how : Bs} {i : Nat} {c : UInt8} (h : i < s.length) : i + (twStep s how i c).2 ≤ s.length := by
  by_cases h1 : c = 37 ∧ i + 2 < s.length ∧ howAt how i % 2 = 1
  · rw [tw_esc h1.1 h1.2.1 h1.2.2]; show i + 3 ≤ _; omega
  · by_cases h2 : turnc c = true ∧ howAt how i % 4 = 3 ∧ clear2 s i = true
    · rw [tw_turn h1 h2.1 h2.2.1 h2.2.2]; show i + 1 ≤ _; omega
    · rw [tw_else h1 h2]; show i + 1 ≤ _; omega
theorem twR_len (s how : Bs) : ∀ k i, (twR s how k i).length ≤ 3 * (s.length - i)
  | 0, i => by show 0 ≤ _; omega
  | k + 1, i => by
    show (match s[i]? with | none => [] | some c => (twStep s how i c).1 ++ twR s how k (i + (twStep s how i c).2)).length ≤ _
    cases h : s[i]? with
    | none => show 0 ≤ _; omega
    | some c =>
      have hi := (List.getElem?_eq_some_iff.1 h).1
      have h1 := tw_pos s how i c
      have h2 := tw_in (how := how) (c := c) hi
      have h3 := twR_len s how k (i + (twStep s how i c).2)
      simp only [List.length_append]; omega
theorem twist_len (s how : Bs) : (twistB s how).length ≤ 3 * s.length := by
  have := twR_len s how s.length 0
  unfold twistB; omega
theorem text_parts_len (u : U) : u.scheme.length + u.host.length + u.path.length ≤ (textB u).length ∧ (u.hq = true → u.query.length ≤ (textB u).length) := by
  unfold textB
  constructor
  · simp only [List.length_append]; omega
  · intro h; rw [h, cond_true]; simp only [List.length_append]; omega
theorem nfacts {u : U} (how : Bs) (h : okB u = true) : NFacts u (normB u) how := by
  have hn := norm_ok h
  have hf := hn
  unfold okB at hf
  rw [Bool.and_eq_true, form_iff] at hf
  have f := hf.1
  obtain ⟨r, e, hm⟩ := f.path
  have hl := limU_ok hn
  have ft := turned_form f how
  refine ⟨hn, norm_idem h, ?_, host_ascii f.host, ?_, ?_, turned_norm h how, ?_, hl, ?_⟩
  · unfold putB
    rw [hn, h]; exact (norm_form h).2
  · rw [e]; exact made_ascii path_ascii hm
  · exact made_ascii query_ascii f.made
  · unfold checkB
    rw [(form_iff _).2 ft]
    cases hd : decide ((textB (turned (normB u) how)).length ≤ maxURI)
    · exact .inr rfl
    · exact .inl rfl
  · have ht := text_len hn
    obtain ⟨p1, p2⟩ := text_parts_len (normB u)
    have hq : (normB u).query.length ≤ 1024 := by
      rcases f.query with h | h
      · have := p2 h; omega
      · rw [h]; exact Nat.zero_le _
    have t1 := twist_len (normB u).path how
    have t2 := twist_len (normB u).query how
    refine ⟨hl.scheme, ?_, ?_, ?_⟩
    · show (upper (normB u).host).length ≤ _
      rw [show (upper (normB u).host).length = (normB u).host.length from by simp [upper]]; exact hl.host
    · show (twistB (normB u).path how).length ≤ _; omega
    · show (twistB (normB u).query how).length ≤ _; omega

theorem put_turned {w W : World} {u n : U} {b c : Nat} (how : Bs) (h : NB w W u b n) (hz : UBx W c noU) (hc : w.heap.size < c) (hne : b ≠ c) : NB w ((((((W.setCell ⟨c, 0, none⟩ (.string ⟨n.scheme.toArray⟩)).setCell ⟨c, 1, none⟩ (.string ⟨(upper n.host).toArray⟩)).setCell ⟨c, 2, none⟩ (.int .i64 n.port)).setCell ⟨c, 3, none⟩ (.string ⟨(twistB n.path how).toArray⟩)).setCell ⟨c, 4, none⟩ (.string ⟨(twistB n.query how).toArray⟩)).setCell ⟨c, 5, none⟩ (.bool n.hq)) u b n ∧ UBx ((((((W.setCell ⟨c, 0, none⟩ (.string ⟨n.scheme.toArray⟩)).setCell ⟨c, 1, none⟩ (.string ⟨(upper n.host).toArray⟩)).setCell ⟨c, 2, none⟩ (.int .i64 n.port)).setCell ⟨c, 3, none⟩ (.string ⟨(twistB n.path how).toArray⟩)).setCell ⟨c, 4, none⟩ (.string ⟨(twistB n.query how).toArray⟩)).setCell ⟨c, 5, none⟩ (.bool n.hq)) c (turned n how) :=
  ⟨nb_put h hc hne (turned n how), hz.set9 (turned n how)⟩
set_option maxRecDepth 100000 in
set_option maxHeartbeats 3000000 in
theorem law09_UriNormal (u : U) (how : Bs) (v : Value) (w : World) (hg : GX w) (hu : BigU u) (hw : How w v how) :
    Calls Tryz.prog 4 #[uV u, v] w (Ret w (.bool true)) := by
  obtain ⟨va, vn, vc, rfl⟩ : ∃ a n c, v = .slice a n c := by
    rcases hw with ⟨_, a, c, rfl⟩ | ⟨b, o, c, rfl, _⟩
    · exact ⟨_, _, _, rfl⟩
    · exact ⟨_, _, _, rfl⟩
  have HG := Lib.hid hg
  have HW0 := Lib.hid hw
  have HB := Lib.hid (ubx_new w u)
  have HW := Lib.hid ((Below.refl w.heap.size w).alloc (Nat.le_refl _) (uObj u))
  obtain ⟨c0, c1, c2, c3, c4, c5⟩ := HB.out.cells
  clear hg hw
  go_enter Tryz.func4, Tryz.ntmps4
  go_wp2_with fail
  generalize w.alloc (.cells #[.string ⟨u.scheme.toArray⟩, .string ⟨u.host.toArray⟩, .int .i64 u.port, .string ⟨u.path.toArray⟩, .string ⟨u.query.toArray⟩, .bool u.hq] 23) = W at *
  refine (law09_long u W hu).mono ?_
  rintro e w1 ⟨rfl, hb1⟩
  have HB1 := Lib.hid (HB.out.next hb1)
  have HW1 := Lib.hid (HW.out.trans (hb1.mono HW.out.size))
  clear hb1 c0 c1 c2 c3 c4 c5
  obtain ⟨c0, c1, c2, c3, c4, c5⟩ := HB1.out.cells
  rcases hl : longU u with _ | _
  · have HL := Lib.hid (not_long hl)
    clear hl
    go_wp2_with fail
    refine (uri_Check u w1 (HG.out.next HW1.out) HL.out).mono ?_
    rintro e w2 ⟨rfl, hb2⟩
    have HB2 := Lib.hid (HB1.out.next hb2)
    have HW2 := Lib.hid (HW1.out.trans (hb2.mono HW1.out.size))
    clear hb2 c0 c1 c2 c3 c4 c5
    obtain ⟨c0, c1, c2, c3, c4, c5⟩ := HB2.out.cells
    by_cases hc : checkB u = 0
    · have HF := Lib.hid (nfacts how ((checkB_ok u).1 hc))
      rw [hc]
      clear hc
      go_wp2_with fail
      refine (uri_Normal u w2 (HG.out.next HW2.out) HL.out).mono ?_
      rintro e w3 ⟨rfl, hb3⟩
      have HB3 := Lib.hid (HB2.out.next hb3)
      have HW3 := Lib.hid (HW2.out.trans (hb3.mono HW2.out.size))
      clear hb3 c0 c1 c2 c3 c4 c5
      generalize normB u = n at *
      have HN := Lib.hid (show NB w (w3.alloc (uObj n)) u w3.heap.size n from ⟨HW3.out.alloc HW3.out.size _, HB3.out.next ((Below.refl _ _).alloc (Nat.le_refl _) _), ubx_new w3 n⟩)
      go_upto_region 4 with fail
      have HN := Lib.hid (show NB w (w3.alloc (.cells #[.string ⟨n.scheme.toArray⟩, .string ⟨n.host.toArray⟩, .int .i64 n.port, .string ⟨n.path.toArray⟩, .string ⟨n.query.toArray⟩, .bool n.hq] 23)) u w3.heap.size n from HN.out)
      generalize w3.alloc (.cells #[.string ⟨n.scheme.toArray⟩, .string ⟨n.host.toArray⟩, .int .i64 n.port, .string ⟨n.path.toArray⟩, .string ⟨n.query.toArray⟩, .bool n.hq] 23) = W3 at *
      generalize w3.heap.size = bn at *
      have HLn := Lib.hid HF.out.lim
      have HCn := Lib.hid ((checkB_ok n).2 HF.out.ok)
      have HIn := Lib.hid HF.out.idem
      have HPn := Lib.hid HF.out.len
      have hlen : (putB n).length ≤ (putB u).length := HF.out.len
      go_cut [34] (fun t wx => t = .bool false ∧ Hid (NB w wx u bn n))
      case first =>
        have HNd := Lib.hid (show NB w W3.drew u bn n from HN.out.next (Below.refl _ _).drew)
        have HSd := Lib.hid HNd.out.six
        go_region_held3 (Six2 bn n w.heap.size u) (first | with_reducible exact HSd.out)
          (first
            | (go_at_call 16; refine (uri_Check n _ (HG.out.next HNd.out.below) HLn.out).mono ?_; rintro e wy ⟨rfl, hby⟩; rw [HCn.out]; have HNd := Lib.hid (HNd.out.next hby); have HSd := Lib.hid HNd.out.six; clear hby)
            | (go_at_call 20; refine (uri_Normal n _ (HG.out.next HNd.out.below) HLn.out).mono ?_; rintro e wy ⟨rfl, hby⟩; rw [HIn.out]; have HNd := Lib.hid (HNd.out.next hby); have HSd := Lib.hid HNd.out.six; clear hby)
            | (go_at_call 18; (with_reducible refine (uri_Put n _ (HG.out.next HNd.out.below) HLn.out).mono ?_); rintro e wy ⟨rfl, hby⟩; have HNd := Lib.hid (HNd.out.next hby); have HSd := Lib.hid HNd.out.six; clear hby)
            | (go_at_call 18; (with_reducible refine (uri_Put u _ (HG.out.next HNd.out.below) HL.out).mono ?_); rintro e wy ⟨rfl, hby⟩; have HNd := Lib.hid (HNd.out.next hby); have HSd := Lib.hid HNd.out.six; clear hby))
        all_goals
          go_wp2_with fail
          go_meet
          exact ⟨by first | rfl | rw [decide_eq_false (by omega)], HNd⟩
      case rest =>
      obtain ⟨rfl, HN4⟩ := hcut
      clear HN hlen HPn
      go_upto_region 6 with fail
      go_cut [6] (fun t wx => Turned w wx u bn n (turned n how) t)
      case first =>
        have HNd := Lib.hid (show NB w wc.drew u bn n from HN4.out.next (Below.refl _ _).drew)
        have HSd := Lib.hid HNd.out.bn.six
        have HNa := Lib.hid (show NB w (wc.alloc (.cells #[.string ⟨#[]⟩, .string ⟨#[]⟩, .int .i64 0, .string ⟨#[]⟩, .string ⟨#[]⟩, .bool false] 23)).drew u bn n from (HN4.out.box noU).next (Below.refl _ _).drew)
        have HSa := Lib.hid HNa.out.bn.six
        have HBa := Lib.hid (show UBx (wc.alloc (.cells #[.string ⟨#[]⟩, .string ⟨#[]⟩, .int .i64 0, .string ⟨#[]⟩, .string ⟨#[]⟩, .bool false] 23)).drew wc.heap.size noU from ubx_new wc noU)
        have HZc := Lib.hid (show bn < wc.heap.size from HN4.out.bn.lt)
        have HYc := Lib.hid (show w.heap.size < wc.heap.size from HN4.out.bu.lt)
        have HFh := Lib.hid HF.out.host
        have HFp := Lib.hid HF.out.path
        have HFq := Lib.hid HF.out.query
        have hlh : n.host.length ≤ 100000 := by have := HLn.out.host; omega
        have hlp : n.path.length ≤ 10000 := HLn.out.path
        have hlq : n.query.length ≤ 10000 := HLn.out.query
        go_region_held3 (SixU bn n) (first | with_reducible exact HSd.out | with_reducible exact HSa.out | with_reducible exact HSb.out | with_reducible exact HSc.out)
          (first
            | (go_at_call 22; (with_reducible refine (lib_UpperA n.host hlh HFh.out (wc.drew)).mono ?_); rintro e w5 ⟨rfl, hb5⟩; have HNd := Lib.hid (HNd.out.next hb5); have HSd := Lib.hid HNd.out.bn.six; have HNa := Lib.hid (show NB w (w5.alloc (.cells #[.string ⟨#[]⟩, .string ⟨#[]⟩, .int .i64 0, .string ⟨#[]⟩, .string ⟨#[]⟩, .bool false] 23)) u bn n from HNd.out.box noU); have HSa := Lib.hid (show SixU bn n (w5.alloc (.cells #[.string ⟨#[]⟩, .string ⟨#[]⟩, .int .i64 0, .string ⟨#[]⟩, .string ⟨#[]⟩, .bool false] 23)) from HNa.out.bn.six); have HBa := Lib.hid (show UBx (w5.alloc (.cells #[.string ⟨#[]⟩, .string ⟨#[]⟩, .int .i64 0, .string ⟨#[]⟩, .string ⟨#[]⟩, .bool false] 23)) w5.heap.size noU from ubx_new w5 noU); have HZ5 := Lib.hid (show bn < w5.heap.size from HNd.out.bn.lt); have HY5 := Lib.hid (show w.heap.size < w5.heap.size from HNd.out.bu.lt); clear hb5)
            | (go_at_call 22; (with_reducible refine (lib_UpperA n.host hlh HFh.out ((wc.alloc (.cells #[.string ⟨#[]⟩, .string ⟨#[]⟩, .int .i64 0, .string ⟨#[]⟩, .string ⟨#[]⟩, .bool false] 23)).drew)).mono ?_); rintro e w5 ⟨rfl, hb5⟩; have HNd := Lib.hid (HNa.out.next hb5); have HBz := Lib.hid (HBa.out.next hb5); have HSd := Lib.hid HNd.out.bn.six; clear hb5)
            | (go_at_call 23; (with_reducible refine (law09_twist n.path how (.slice va vn vc) (w5) (HG.out.next HNd.out.below) hlp HFp.out (HW0.out.next HNd.out.below)).mono ?_); rintro e w6 ⟨rfl, hb⟩; have HNd := Lib.hid (HNd.out.next hb); have HBz := Lib.hid (HBz.out.next hb); have HSd := Lib.hid HNd.out.bn.six; clear hb)
            | (go_at_call 23; (with_reducible refine (law09_twist n.path how (.slice va vn vc) (w5.alloc (.cells #[.string ⟨#[]⟩, .string ⟨#[]⟩, .int .i64 0, .string ⟨#[]⟩, .string ⟨#[]⟩, .bool false] 23)) (HG.out.next HNa.out.below) hlp HFp.out (HW0.out.next HNa.out.below)).mono ?_); rintro e w6 ⟨rfl, hb⟩; have HNd := Lib.hid (HNa.out.next hb); have HBz := Lib.hid (HBa.out.next hb); have HSd := Lib.hid HNd.out.bn.six; clear hb)
            | (go_at_call 23; (with_reducible refine (law09_twist n.path how (.slice va vn vc) (w5) (HG.out.next HNd.out.below) hlp HFp.out (HW0.out.next HNd.out.below)).mono ?_); rintro e w6 ⟨rfl, hb⟩; have HNd := Lib.hid (HNd.out.next hb); have HSd := Lib.hid HNd.out.bn.six; have HNa := Lib.hid (show NB w (w6.alloc (.cells #[.string ⟨#[]⟩, .string ⟨#[]⟩, .int .i64 0, .string ⟨#[]⟩, .string ⟨#[]⟩, .bool false] 23)) u bn n from HNd.out.box noU); have HSa := Lib.hid (show SixU bn n (w6.alloc (.cells #[.string ⟨#[]⟩, .string ⟨#[]⟩, .int .i64 0, .string ⟨#[]⟩, .string ⟨#[]⟩, .bool false] 23)) from HNa.out.bn.six); have HBa := Lib.hid (show UBx (w6.alloc (.cells #[.string ⟨#[]⟩, .string ⟨#[]⟩, .int .i64 0, .string ⟨#[]⟩, .string ⟨#[]⟩, .bool false] 23)) w6.heap.size noU from ubx_new w6 noU); have HZ6 := Lib.hid (show bn < w6.heap.size from HNd.out.bn.lt); have HY6 := Lib.hid (show w.heap.size < w6.heap.size from HNd.out.bu.lt); clear hb)
            | (go_at_call 23; (with_reducible refine (law09_twist n.query how (.slice va vn vc) (w6) (HG.out.next HNd.out.below) hlq HFq.out (HW0.out.next HNd.out.below)).mono ?_); rintro e w7 ⟨rfl, hb⟩; have HNd := Lib.hid (HNd.out.next hb); have HBz := Lib.hid (show UBx w7 wc.heap.size noU from HBz.out.next hb); have HSd := Lib.hid HNd.out.bn.six; have rz := HBz.out.full; obtain ⟨z0, z1, z2, z3, z4, z5⟩ := rz.c; have y0 := rz.f0; have y1 := rz.f1; have y2 := rz.f2; have y3 := rz.f3; have y4 := rz.f4; have y5 := rz.f5; clear rz; have hne : bn ≠ wc.heap.size := Nat.ne_of_lt HZc.out; have hlc : w.heap.size < wc.heap.size := HYc.out; obtain ⟨p1, p2⟩ := put_turned how HNd.out HBz.out hlc hne; have HSc := Lib.hid p1.bn.six; have HT := Lib.hid (show Turned w ((((((w7.setCell ⟨wc.heap.size, 0, none⟩ (.string ⟨n.scheme.toArray⟩)).setCell ⟨wc.heap.size, 1, none⟩ (.string ⟨(upper n.host).toArray⟩)).setCell ⟨wc.heap.size, 2, none⟩ (.int .i64 n.port)).setCell ⟨wc.heap.size, 3, none⟩ (.string ⟨(twistB n.path how).toArray⟩)).setCell ⟨wc.heap.size, 4, none⟩ (.string ⟨(twistB n.query how).toArray⟩)).setCell ⟨wc.heap.size, 5, none⟩ (.bool n.hq)) u bn n (turned n how) (.pointer (some ⟨wc.heap.size, 0, none⟩)) from ⟨_, rfl, p1, p2⟩); clear p1 p2; clear hb)
            | (go_at_call 23; (with_reducible refine (law09_twist n.query how (.slice va vn vc) (w6) (HG.out.next HNd.out.below) hlq HFq.out (HW0.out.next HNd.out.below)).mono ?_); rintro e w7 ⟨rfl, hb⟩; have HNd := Lib.hid (HNd.out.next hb); have HBz := Lib.hid (show UBx w7 w5.heap.size noU from HBz.out.next hb); have HSd := Lib.hid HNd.out.bn.six; have rz := HBz.out.full; obtain ⟨z0, z1, z2, z3, z4, z5⟩ := rz.c; have y0 := rz.f0; have y1 := rz.f1; have y2 := rz.f2; have y3 := rz.f3; have y4 := rz.f4; have y5 := rz.f5; clear rz; have hne : bn ≠ w5.heap.size := Nat.ne_of_lt HZ5.out; have hlc : w.heap.size < w5.heap.size := HY5.out; obtain ⟨p1, p2⟩ := put_turned how HNd.out HBz.out hlc hne; have HSc := Lib.hid p1.bn.six; have HT := Lib.hid (show Turned w ((((((w7.setCell ⟨w5.heap.size, 0, none⟩ (.string ⟨n.scheme.toArray⟩)).setCell ⟨w5.heap.size, 1, none⟩ (.string ⟨(upper n.host).toArray⟩)).setCell ⟨w5.heap.size, 2, none⟩ (.int .i64 n.port)).setCell ⟨w5.heap.size, 3, none⟩ (.string ⟨(twistB n.path how).toArray⟩)).setCell ⟨w5.heap.size, 4, none⟩ (.string ⟨(twistB n.query how).toArray⟩)).setCell ⟨w5.heap.size, 5, none⟩ (.bool n.hq)) u bn n (turned n how) (.pointer (some ⟨w5.heap.size, 0, none⟩)) from ⟨_, rfl, p1, p2⟩); clear p1 p2; clear hb)
            | (go_at_call 23; (with_reducible refine (law09_twist n.query how (.slice va vn vc) (w6.alloc (.cells #[.string ⟨#[]⟩, .string ⟨#[]⟩, .int .i64 0, .string ⟨#[]⟩, .string ⟨#[]⟩, .bool false] 23)) (HG.out.next HNa.out.below) hlq HFq.out (HW0.out.next HNa.out.below)).mono ?_); rintro e w7 ⟨rfl, hb⟩; have HNd := Lib.hid (HNa.out.next hb); have HBz := Lib.hid (HBa.out.next hb); have HSd := Lib.hid HNd.out.bn.six; have rz := HBz.out.full; obtain ⟨z0, z1, z2, z3, z4, z5⟩ := rz.c; have y0 := rz.f0; have y1 := rz.f1; have y2 := rz.f2; have y3 := rz.f3; have y4 := rz.f4; have y5 := rz.f5; clear rz; have hne : bn ≠ w6.heap.size := Nat.ne_of_lt HZ6.out; have hlc : w.heap.size < w6.heap.size := HY6.out; obtain ⟨p1, p2⟩ := put_turned how HNd.out HBz.out hlc hne; have HSc := Lib.hid p1.bn.six; have HT := Lib.hid (show Turned w ((((((w7.setCell ⟨w6.heap.size, 0, none⟩ (.string ⟨n.scheme.toArray⟩)).setCell ⟨w6.heap.size, 1, none⟩ (.string ⟨(upper n.host).toArray⟩)).setCell ⟨w6.heap.size, 2, none⟩ (.int .i64 n.port)).setCell ⟨w6.heap.size, 3, none⟩ (.string ⟨(twistB n.path how).toArray⟩)).setCell ⟨w6.heap.size, 4, none⟩ (.string ⟨(twistB n.query how).toArray⟩)).setCell ⟨w6.heap.size, 5, none⟩ (.bool n.hq)) u bn n (turned n how) (.pointer (some ⟨w6.heap.size, 0, none⟩)) from ⟨_, rfl, p1, p2⟩); clear p1 p2; clear hb)
            | (go_at_call 23; (with_reducible refine (law09_twist n.query how (.slice va vn vc) (w6) (HG.out.next HNd.out.below) hlq HFq.out (HW0.out.next HNd.out.below)).mono ?_); rintro e w7 ⟨rfl, hb⟩; have HNd := Lib.hid (HNd.out.next hb); have HSd := Lib.hid HNd.out.bn.six; have HNa := Lib.hid (show NB w (w7.alloc (.cells #[.string ⟨#[]⟩, .string ⟨#[]⟩, .int .i64 0, .string ⟨#[]⟩, .string ⟨#[]⟩, .bool false] 23)) u bn n from HNd.out.box noU); have HSa := Lib.hid (show SixU bn n (w7.alloc (.cells #[.string ⟨#[]⟩, .string ⟨#[]⟩, .int .i64 0, .string ⟨#[]⟩, .string ⟨#[]⟩, .bool false] 23)) from HNa.out.bn.six); have HBa := Lib.hid (show UBx (w7.alloc (.cells #[.string ⟨#[]⟩, .string ⟨#[]⟩, .int .i64 0, .string ⟨#[]⟩, .string ⟨#[]⟩, .bool false] 23)) w7.heap.size noU from ubx_new w7 noU); have HNb := Lib.hid (show NB w (w7.alloc (.cells #[.string ⟨n.scheme.toArray⟩, .string ⟨(upper n.host).toArray⟩, .int .i64 n.port, .string ⟨(twistB n.path how).toArray⟩, .string ⟨(twistB n.query how).toArray⟩, .bool n.hq] 23)) u bn n from HNd.out.box (turned n how)); have HSb := Lib.hid (show SixU bn n (w7.alloc (.cells #[.string ⟨n.scheme.toArray⟩, .string ⟨(upper n.host).toArray⟩, .int .i64 n.port, .string ⟨(twistB n.path how).toArray⟩, .string ⟨(twistB n.query how).toArray⟩, .bool n.hq] 23)) from HNb.out.bn.six); have HT := Lib.hid (show Turned w (w7.alloc (.cells #[.string ⟨n.scheme.toArray⟩, .string ⟨(upper n.host).toArray⟩, .int .i64 n.port, .string ⟨(twistB n.path how).toArray⟩, .string ⟨(twistB n.query how).toArray⟩, .bool n.hq] 23)) u bn n (turned n how) (.pointer (some ⟨w7.heap.size, 0, none⟩)) from ⟨_, rfl, HNb.out, ubx_new w7 (turned n how)⟩); clear hb))
        all_goals
          go_wp2_with fail
          go_meet
          with_reducible exact HT.out
      case rest =>
      obtain ⟨bx, rfl, hwx, hbx⟩ := hcut
      have HNx := Lib.hid hwx
      have HBx := Lib.hid hbx
      clear hwx hbx HN4
      obtain ⟨Wx, rfl⟩ : ∃ W', W' = wc := ⟨_, rfl⟩
      have HFb := Lib.hid HF.out.back
      have HFc := Lib.hid HF.out.codes
      have HFl := Lib.hid HF.out.limt
      generalize turned n how = tn at *
      obtain ⟨d0, d1, d2, d3, d4, d5⟩ := HBx.out.cells
      go_wp2_with fail
      refine (uri_Check tn Wx (HG.out.next HNx.out.below) HFl.out).mono ?_
      rintro e w5 ⟨rfl, hb5⟩
      have HN5 := Lib.hid (HNx.out.next hb5)
      have HB5 := Lib.hid (HBx.out.next hb5)
      clear hb5 d0 d1 d2 d3 d4 d5
      rcases HFc.out with hc | hc
      · have HBk := Lib.hid (HFb.out ((checkB_ok tn).1 hc))
        rw [hc]
        clear hc
        have HSd := Lib.hid (show Six2 bn n bx tn w5.drew from six2 HN5.out.bn HB5.out)
        have HNd := Lib.hid (show NB w w5.drew u bn n from HN5.out.next (Below.refl _ _).drew)
        have HBd := Lib.hid (show UBx w5.drew bx tn from HB5.out)
        go_wp2_with fail
        go_region_held3 (Six2 bn n bx tn) (first | with_reducible exact HSd.out)
          (first
            | (go_at_call 20; refine (uri_Normal tn _ (HG.out.next HNd.out.below) HFl.out).mono ?_; rintro e wy ⟨rfl, hby⟩; rw [HBk.out]; have HNd := Lib.hid (HNd.out.next hby); have HBd := Lib.hid (HBd.out.next hby); have HSd := Lib.hid (six2 HNd.out.bn HBd.out); clear hby)
            | (go_at_call 15; refine (law09_awake _ (HG.out.next HNd.out.below)).mono ?_; rintro e wy ⟨rfl, hby⟩; have HNd := Lib.hid (HNd.out.next hby); have HBd := Lib.hid (HBd.out.next hby); have HSd := Lib.hid (six2 HNd.out.bn HBd.out); clear hby))
        go_wp2_with fail
        go_ret
        exact ⟨rfl, HNd.out.below⟩
      · rw [hc]
        clear hc
        go_wp2_with fail
        refine (law09_awake w5 (HG.out.next HN5.out.below)).mono ?_
        rintro e w6 ⟨rfl, hb6⟩
        have HZ := Lib.hid (HN5.out.below.trans (hb6.mono HN5.out.below.size))
        clear hb6
        go_wp2_with fail
        go_ret
        exact ⟨rfl, HZ.out⟩
    · rcases check_codes hc with h3 | h3
      all_goals
        rw [h3]
        clear hc h3
        go_wp2_with fail
        refine (law09_awake w2 (HG.out.next HW2.out)).mono ?_
        rintro e w3 ⟨rfl, hb3⟩
        have HZ := Lib.hid (HW2.out.trans (hb3.mono HW2.out.size))
        clear hb3
        go_wp2_with fail
        go_ret
        exact ⟨rfl, HZ.out⟩
  · go_wp2_with fail
    refine (law09_awake w1 (HG.out.next HW1.out)).mono ?_
    rintro e w2 ⟨rfl, hb2⟩
    have HZ := Lib.hid (HW1.out.trans (hb2.mono HW1.out.size))
    clear hb2
    go_wp2_with fail
    go_ret
    exact ⟨rfl, HZ.out⟩
end Go.Proofs.YtobhceopfjcmnaaGreatDoor
