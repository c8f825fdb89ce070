/- The program's Get, joined: it answers as the plain law says. -/
import Derived.Test.YtoipnaoijccokaaDoorVarsGet
namespace Go.Proofs.YtoipnaoijccokaaDoor
open Go.RowKit
set_option linter.unusedVariables false

theorem fget_no (fs : List Fld) (name : Bs) (h : (fget fs name).2 = false) : (fget fs name).1 = [] := by
  have h2 : values fs name = [] := by
    have : ¬ 0 < (values fs name).length := of_decide_eq_false h
    exact List.eq_nil_of_length_eq_zero (by omega)
  unfold fget; rw [h2]; rfl
theorem vcookies_no (fs : List Fld) (h : (vcookies fs).2 = false) : (vcookies fs).1 = [] := by
  have h2 : values fs cookieName = [] := by
    have : ¬ 0 < (values fs cookieName).length := of_decide_eq_false h
    exact List.eq_nil_of_length_eq_zero (by omega)
  unfold vcookies; rw [h2]; rfl
theorem optP_no (x : Option Bs) (h : (optP x).2 = false) : (optP x).1 = [] := by cases x with | none => rfl | some v => cases h
theorem langV_no (x : Bool) (h : x = false) : langV x = [] := by subst h; rfl
theorem vver_no (s : Bs) (h : (vver s).2 = false) : (vver s).1 = [] := by
  have h1 : ¬ 0 < lead vd (s.drop (verAt s)) := of_decide_eq_false h
  have h2 : (s.drop (verAt s)).takeWhile vd = (s.drop (verAt s)).take (lead vd (s.drop (verAt s))) := (take_lead vd _).symm
  unfold vver; show (s.drop (verAt s)).takeWhile vd = []
  rw [h2, show lead vd (s.drop (verAt s)) = 0 by omega]; rfl
theorem vagent_no (s key : Bs) (h : (vagent s key).2 = false) : (vagent s key).1 = [] := by
  unfold vagent at h ⊢
  cases h1 : (key == kBrowser)
  · rw [h1] at h
    cases h2 : (key == kVersion)
    · rw [h2] at h
      cases h3 : (key == kOs)
      · rfl
      · rw [h3] at h; cases h
    · rw [h2] at h; exact vver_no s h
  · rw [h1] at h; cases h
theorem vua_no (fs : List Fld) (key : Bs) (h : (vua fs key).2 = false) : (vua fs key).1 = [] := by
  unfold vua at h ⊢
  cases h1 : (fget fs agentName).2
  · rfl
  · rw [h1] at h; exact vagent_no _ _ h
theorem vkey_ne {key : Bs} (h : vkey key = true) : key ≠ [] := by
  intro e; subst e; revert h; decide
theorem asked_bare {t key : Bs} (h : vkey key = true) : (bif t.contains 63 then vasked t key else none) = vasked t key := by
  cases hc : t.contains 63
  · unfold vasked
    rw [past_all 63 t hc]
    have hne : ([] == key) = false := by rw [beq_eq_false_iff_ne]; exact Ne.symm (vkey_ne h)
    show none = List.findSome? (quOf key) (pieces 38 [])
    have : pieces 38 ([] : Bs) = [[]] := rfl
    rw [this]
    have : quOf key [] = none := by
      unfold quOf
      have e1 : upto 61 ([] : Bs) = [] := rfl
      rw [e1, hne]; rfl
    rw [List.findSome?_cons, this]; rfl
  · rfl

theorem empty_no {h : Bs} (hh : (!h.isEmpty) = false) : h = [] := by cases h with | nil => rfl | cons a b => cases hh

theorem name_ne {name n : Bs} (h : vknown name = false) (hn : n ∈ names) : (name == n) = false := by
  rw [beq_eq_false_iff_ne]; exact Ne.symm (beq_eq_false_iff_ne.1 (none_ne h hn))
theorem vget_none {h t : Bs} {fs : List Fld} {name key : Bs} {has : Bool} (hn : vknown name = false) : vget h t fs name key has = ([], false) := by
  unfold vget vpart vwhole
  rw [name_ne hn (n := nHost) (by decide), name_ne hn (n := nReferer) (by decide), name_ne hn (n := nAgent) (by decide), name_ne hn (n := nCookie) (by decide), name_ne hn (n := nQuery) (by decide), name_ne hn (n := nLang) (by decide)]
  cases has <;> cases vkey key <;> rfl
theorem optP_query (t : Bs) : optP (vquery t) = (past 63 t, hasB 63 t) := by
  unfold vquery hasB
  cases hc : t.contains 63
  · rw [past_all 63 t hc]; rfl
  · rfl

theorem vars_Get (h t name key : ByteArray) (a : Option Addr) (n c : Nat) (fs : List Fld) (has : Bool) (w : World) (hg : Good w) (hF : FieldsAt w (.slice a n c) fs) (hlim : Lim fs) (ht : t.size ≤ 100000) (hkey : key.size ≤ 100000) :
    Calls Tryd.prog 8 #[.agg #[.string h, .string t, .slice a n c], .string name, .string key, .bool has] w
      (Ret w (.tuple #[.string ⟨(vget h.data.toList t.data.toList fs name.data.toList key.data.toList has).1.toArray⟩, .bool (vget h.data.toList t.data.toList fs name.data.toList key.data.toList has).2])) := by
  have hk2 : key.size ≤ 140737488351232 := by omega
  rcases name_cases name.data.toList with hn | hn | hn | hn | hn | hn | hn
  · obtain rfl := name_lit hn
    rcases has with _ | _
    · exact getw_0 h t key a n c w (h.data.toList, !h.data.toList.isEmpty) (fun hh => empty_no hh) (fun W hb => by have := vars_host h t a n c W; exact this)
    · rcases hvk : vkey key.data.toList with _ | _
      · rw [show vget h.data.toList t.data.toList fs (⟨nHost.toArray⟩ : ByteArray).data.toList key.data.toList true = ([], false) by unfold vget; rw [hvk]; rfl]
        exact getb_0 h t key a n c w hk2 hvk
      · rw [show vget h.data.toList t.data.toList fs (⟨nHost.toArray⟩ : ByteArray).data.toList key.data.toList true = ([], false) by unfold vget; rw [hvk]; rfl]
        exact getp_0 h t key a n c w ([], false) (fun _ => rfl) hk2 hvk (fun W hb => vars_never h t key a n c W)
  · obtain rfl := name_lit hn
    rcases has with _ | _
    · exact getw_1 h t key a n c w (fget fs refererName) (fget_no fs _) (fun W p hb hc => vars_field1 h t ⟨refererName.toArray⟩ a n c p fs W (hF.below hb) hlim (by decide) hc)
    · rcases hvk : vkey key.data.toList with _ | _
      · rw [show vget h.data.toList t.data.toList fs (⟨nReferer.toArray⟩ : ByteArray).data.toList key.data.toList true = ([], false) by unfold vget; rw [hvk]; rfl]
        exact getb_1 h t key a n c w hk2 hvk
      · rw [show vget h.data.toList t.data.toList fs (⟨nReferer.toArray⟩ : ByteArray).data.toList key.data.toList true = ([], false) by unfold vget; rw [hvk]; rfl]
        exact getp_1 h t key a n c w ([], false) (fun _ => rfl) hk2 hvk (fun W hb => vars_never h t key a n c W)
  · obtain rfl := name_lit hn
    rcases has with _ | _
    · exact getw_2 h t key a n c w (fget fs agentName) (fget_no fs _) (fun W p hb hc => vars_field1 h t ⟨agentName.toArray⟩ a n c p fs W (hF.below hb) hlim (by decide) hc)
    · rcases hvk : vkey key.data.toList with _ | _
      · rw [show vget h.data.toList t.data.toList fs (⟨nAgent.toArray⟩ : ByteArray).data.toList key.data.toList true = ([], false) by unfold vget; rw [hvk]; rfl]
        exact getb_2 h t key a n c w hk2 hvk
      · rw [show vget h.data.toList t.data.toList fs (⟨nAgent.toArray⟩ : ByteArray).data.toList key.data.toList true = (vua fs key.data.toList) by unfold vget; rw [hvk]; rfl]
        exact getp_2 h t key a n c w (vua fs key.data.toList) (vua_no fs _) hk2 hvk (fun W hb => vars_agent h t key a n c fs W (hg.next hb) (hF.below hb) hlim)
  · obtain rfl := name_lit hn
    rcases has with _ | _
    · exact getw_3 h t key a n c w (vcookies fs) (vcookies_no fs) (fun W hb => vars_cookies h t a n c fs W (hF.below hb) hlim)
    · rcases hvk : vkey key.data.toList with _ | _
      · rw [show vget h.data.toList t.data.toList fs (⟨nCookie.toArray⟩ : ByteArray).data.toList key.data.toList true = ([], false) by unfold vget; rw [hvk]; rfl]
        exact getb_3 h t key a n c w hk2 hvk
      · rw [show vget h.data.toList t.data.toList fs (⟨nCookie.toArray⟩ : ByteArray).data.toList key.data.toList true = (optP (vcookie fs key.data.toList)) by unfold vget; rw [hvk]; rfl]
        exact getp_3 h t key a n c w (optP (vcookie fs key.data.toList)) (optP_no _) hk2 hvk (fun W hb => vars_cookie h t key a n c fs W (hg.next hb) (hF.below hb) hlim)
  · obtain rfl := name_lit hn
    rcases has with _ | _
    · exact getw_4 h t key a n c w (optP (vquery t.data.toList)) (optP_no _) (fun W hb => by have := vars_query h t a n c W (hg.next hb) ht; rw [show optP (vquery t.data.toList) = (past 63 t.data.toList, hasB 63 t.data.toList) from optP_query _]; exact this)
    · rcases hvk : vkey key.data.toList with _ | _
      · rw [show vget h.data.toList t.data.toList fs (⟨nQuery.toArray⟩ : ByteArray).data.toList key.data.toList true = ([], false) by unfold vget; rw [hvk]; rfl]
        exact getb_4 h t key a n c w hk2 hvk
      · rw [show vget h.data.toList t.data.toList fs (⟨nQuery.toArray⟩ : ByteArray).data.toList key.data.toList true = (optP (vasked t.data.toList key.data.toList)) by unfold vget; rw [hvk]; show optP (bif t.data.toList.contains 63 then vasked t.data.toList key.data.toList else none) = _; rw [asked_bare hvk]]
        exact getp_4 h t key a n c w (optP (vasked t.data.toList key.data.toList)) (optP_no _) hk2 hvk (fun W hb => vars_asked h t key a n c fs W (hg.next hb) ht)
  · obtain rfl := name_lit hn
    rcases has with _ | _
    · exact getw_5 h t key a n c w (fget fs langName) (fget_no fs _) (fun W p hb hc => vars_field1 h t ⟨langName.toArray⟩ a n c p fs W (hF.below hb) hlim (by decide) hc)
    · rcases hvk : vkey key.data.toList with _ | _
      · rw [show vget h.data.toList t.data.toList fs (⟨nLang.toArray⟩ : ByteArray).data.toList key.data.toList true = ([], false) by unfold vget; rw [hvk]; rfl]
        exact getb_5 h t key a n c w hk2 hvk
      · rw [show vget h.data.toList t.data.toList fs (⟨nLang.toArray⟩ : ByteArray).data.toList key.data.toList true = (langV (vlang fs key.data.toList), vlang fs key.data.toList) by unfold vget; rw [hvk]; rfl]
        exact getp_5 h t key a n c w (langV (vlang fs key.data.toList), vlang fs key.data.toList) (langV_no _) hk2 hvk (fun W hb => vars_language h t key a n c fs W (hg.next hb) (hF.below hb) hlim hkey)
  · rw [show vget h.data.toList t.data.toList fs name.data.toList key.data.toList has = ([], false) from vget_none hn]
    rcases has with _ | _
    · exact getn_false h t name key a n c w hn
    · exact getn_true h t name key a n c w hn
end Go.Proofs.YtoipnaoijccokaaDoor
