/- In the order in which they were sent: plain. -/
import Derived.Test.YtijijaobialncaaOC
import Derived.Test.YtijijaobialncaaFrLaws
import Derived.Test.YtijijaobialncaaOpen
namespace Go.Proofs.Ytijijaobialncaa.S
open Go.RowKit

/-- One who sends (1), and one for whom something waits (2). -/
def box2 (es : List (List UInt8)) : List Pr := [q1, ⟨2, none, [], es⟩]
theorem Frm.dec {f : Frm} {l : List UInt8} (hw : f.Wf) (h : f.enc = .ok l) : decF l = .ok (f.kind, f.keys, f.nums, f.sigs, f.data) := by
  have := dec_enc hw.keys hw.nums hw.sigs h []
  rw [List.append_nil, if_pos rfl] at this
  exact this
theorem envF_wf {n : Nat} {t : List UInt8} (hn : n < 4294967296) : (envF n t).Wf := by
  refine ⟨fun x hx => ?_, fun x hx => ?_, fun x hx => (by cases hx)⟩
  · have : x = List.replicate 32 0 := List.mem_singleton.1 hx
    subst this; rfl
  · have : x = n := List.mem_singleton.1 hx
    subst this; exact hn
theorem env_dec {t : List UInt8} (h : t.length ≤ 16384) : ∃ l, (envF 1 t).enc = .ok l ∧ l.length = t.length + 41 ∧ decF l = .ok (7, [List.replicate 32 0], [1], [], t) := by
  have he : (envF 1 t).enc = .ok _ := encF_ok (a := 1) (b := 1) (c := 0) (d := true) rfl rfl rfl rfl (.inl rfl) h
  refine ⟨_, he, ?_, ?_⟩
  · simp [envF, be32] <;> omega
  · exact Frm.dec (envF_wf (by decide)) he
theorem box2_find (es : List (List UInt8)) : findP (box2 es) 2 = some ⟨2, none, [], es⟩ := by rfl
theorem box2_find1 (es : List (List UInt8)) : findP (box2 es) 1 = some q1 := by rfl
theorem box2_send {es : List (List UInt8)} {t l : List UInt8} (he : (envF 1 t).enc = .ok l) (h1 : es.length < 200) (h2 : (es.map List.length).sum + l.length ≤ 65536) : sendP (box2 es) 1 t [2] = (box2 (es ++ [l]), 0) := by
  have hr : Pr.room ⟨2, none, [], es⟩ l.length = true := decide_eq_true ⟨h1, h2⟩
  have hb : sendBad (box2 es) l.length [] [2] = 0 := by rw [sendBad, box2_find]; dsimp only; rw [if_neg (by simp), if_pos hr]; rfl
  rw [sendP_ok (box2_find1 es) he hb, sendTo, box2_find]
  rfl
theorem box2_take (l : List UInt8) (es : List (List UInt8)) : takeP (box2 (l :: es)) 2 0 = (box2 es, some l) := by
  have := takeP_ok (j := 0) (box2_find (l :: es)) (l := l) rfl
  rw [show ((0 : Nat) : Int) = 0 from rfl] at this
  rw [this]; rfl
theorem PartsIn.at {P : Program} {w0 : World} {a : Option Addr} {n c : Nat} {svs : List Value} {ps : List (List UInt8)} (h : PartsIn w0 (.slice a n c) svs ps) {k : Nat} (hk : k < ps.length) :
    ∃ b o sv p, a = some ⟨b, o, none⟩ ∧ ps[k]? = some p ∧ InR w0 sv p ∧ ∀ C : Ctx, C.w0 = w0 → C.M = [] → ∀ L, Rd C L ⟨b, o + k * 1, none⟩ sv := by
  have hsrc : ∀ C : Ctx, C.w0 = w0 → C.M = [] → ∀ L, Src C L 1 (.slice a n c) ps.length svs := fun C h0 hm L => by subst h0; exact h.all.src hm
  have hl := h.len
  have hsv : svs[k]? = some svs[k] := List.getElem?_eq_getElem (by omega)
  have hp : ps[k]? = some ps[k] := List.getElem?_eq_getElem hk
  obtain ⟨b, o, rfl⟩ : ∃ b o, a = some ⟨b, o, none⟩ := by
    rcases (hsrc ⟨P, w0, [], 0⟩ rfl rfl []).inv _ _ _ rfl with h0 | ⟨b, o, h0, _⟩
    · omega
    · exact ⟨b, o, h0⟩
  refine ⟨b, o, svs[k], ps[k], rfl, hp, h.each k _ _ hsv hp, fun C h0 hm L => ?_⟩
  rcases (hsrc C h0 hm L).inv _ _ _ rfl with h0 | ⟨b', o', h0, hr⟩
  · omega
  · cases h0
    rw [Nat.mul_one]
    exact hr k _ hsv

theorem InR.row {w0 : World} {v : Value} {p : List UInt8} {Ps : List Blk} (h : InR w0 v p) : RowR w0 Ps 1 v p.length (p.map byteV) := by
  rcases h with h | ⟨rfl, a, rfl⟩
  · exact RowR.old h
  · exact RowR.odd
def bunL (k : Nat) : List Frm := (List.range k).map fun i => bunF (i + 10)
theorem bunL_len (k : Nat) : (bunL k).length = k := by unfold bunL; rw [List.length_map, List.length_range]
theorem bunL_succ (k : Nat) : bunL (k + 1) = bunL k ++ [bunF (k + 10)] := by unfold bunL; rw [List.range_succ, List.map_append]; rfl
theorem bunL_mem {k : Nat} (h : k ≤ 100) : ∀ f ∈ bunL k, f.Wf := by
  intro f hf
  obtain ⟨i, hi, rfl⟩ := List.mem_map.1 hf
  have := List.mem_range.1 hi
  exact bunF_wf (by omega)
theorem bunL_at {k i : Nat} (h : i < k) : (bunL k).drop i = bunF (i + 10) :: (bunL k).drop (i + 1) := by
  rw [List.drop_eq_getElem_cons (by rw [bunL_len]; exact h)]
  congr 1
  simp [bunL]
/-- One who left offers, and one who did not. -/
def boxP (fs : List Frm) : List Pr := [⟨1, some (bunF 5), fs, []⟩, ⟨2, none, [], []⟩]
theorem boxP_pub {k : Nat} (h : k ≤ 100) : pubP (box2 []) 1 (bunF 5) (bunL k) = (boxP (bunL k), 0) := by
  have hf : findP (box2 []) 1 = some q1 := rfl
  rw [pubP_ok hf]
  · rfl
  · intro f hf
    rcases List.mem_cons.1 hf with rfl | hf
    · exact bunF_bundle 5
    · obtain ⟨i, _, rfl⟩ := List.mem_map.1 hf
      exact bunF_bundle _
  · show 0 + (bunL k).length ≤ 100
    rw [bunL_len]; omega
theorem boxP_left (fs : List Frm) : leftP (boxP fs) 1 = fs.length := rfl
theorem boxP_fetch (k i : Nat) : fetchP (boxP ((bunL k).drop i)) 1 = (boxP ((bunL k).drop (i + 1)), some (bunF (if i < k then i + 10 else 5))) := by
  by_cases h : i < k
  · rw [if_pos h, bunL_at h]; rfl
  · rw [if_neg h, List.drop_eq_nil_of_le (by rw [bunL_len]; omega), List.drop_eq_nil_of_le (by rw [bunL_len]; omega)]; rfl
/-- Frames of one's own can be read. -/
theorem frmsO_split {cs : List Value} {fs : List Frm} {X : List Blk} (h : FrmsO cs fs X) {w0 : World} {Ps : List Blk} (hi : Inc X Ps) (hw : ∀ f ∈ fs, f.Wf) :
    ∃ css : List (List Value), css.flatten = cs ∧ css.length = fs.length ∧ (∀ c ∈ css, c.length = 5 ∧ ∀ u ∈ c, one u = true) ∧ ∀ (i : Nat) (f : Frm) (c : List Value), fs[i]? = some f → css[i]? = some c → FrmR w0 Ps (.agg c.toArray) f := by
  induction h with
  | nil => exact ⟨[], rfl, rfl, by simp, by simp⟩
  | @cons cs ds f fs X Y h1 h2 ih =>
    obtain ⟨css, e1, e2, e3, e4⟩ := ih (Inc.trans (Inc.skip Inc.refl) hi) (fun g hg => hw g (List.mem_cons_of_mem _ hg))
    refine ⟨cs :: css, by rw [List.flatten_cons, e1], by rw [List.length_cons, List.length_cons, e2], fun c hc => ?_, fun i g c hg hc => ?_⟩
    · rcases List.mem_cons.1 hc with rfl | hc
      · exact ⟨h1.len, h1.one⟩
      · exact e3 c hc
    · cases i with
      | zero => simp at hg hc; subst hg; subst hc; exact h1.read (hw _ (List.mem_cons_self ..)) (Inc.trans Inc.here hi)
      | succ i => exact e4 i g c (by simpa using hg) (by simpa using hc)
theorem FrmsO.frs {s : Value} {cs : List Value} {fs : List Frm} {Xs X : List Blk} (h : FrmsO cs fs X) (hs : Sl s cs 5 Xs) (w0 : World) (Ps : List Blk) (hi : Inc X Ps) (hi2 : Inc Xs Ps) (hw : ∀ f ∈ fs, f.Wf) : ∃ css, FrsR w0 Ps s fs css := by
  obtain ⟨css, e1, e2, e3, e4⟩ := frmsO_split h (w0 := w0) hi hw
  subst e1
  exact ⟨css, RowR.ofSl hs hi2 (by decide) _ h.len, e2, e3, e4⟩
def Envs (ts es : List (List UInt8)) : Prop := ∀ (i : Nat) (t l : List UInt8), ts[i]? = some t → es[i]? = some l → (envF 1 t).enc = .ok l ∧ l.length = t.length + 41 ∧ decF l = .ok (7, [List.replicate 32 0], [1], [], t) ∧ t.length ≤ 1000
theorem Envs.snoc {ts es : List (List UInt8)} {t l : List UInt8} (h : Envs ts es) (ht : ts[es.length]? = some t) (h1 : (envF 1 t).enc = .ok l) (h2 : l.length = t.length + 41) (h3 : decF l = .ok (7, [List.replicate 32 0], [1], [], t)) (h4 : t.length ≤ 1000) : Envs ts (es ++ [l]) := by
  intro i u k hu hk
  rw [List.getElem?_append] at hk
  split at hk
  · exact h i u k hu hk
  · rename_i hi
    have hi2 : i = es.length := by
      have := (List.getElem?_eq_some_iff.1 hk).1
      rw [List.length_singleton] at this; omega
    subst hi2
    rw [ht] at hu
    cases hu
    simp at hk
    subst hk
    exact ⟨h1, h2, h3, h4⟩
theorem drop_at {es : List (List UInt8)} {i : Nat} (h : i < es.length) : ∃ l, es[i]? = some l ∧ es.drop i = l :: es.drop (i + 1) := ⟨es[i], List.getElem?_eq_getElem h, List.drop_eq_getElem_cons h⟩
end Go.Proofs.Ytijijaobialncaa.S
