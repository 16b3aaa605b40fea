/- Terms in memory: what a value holds, read wherever some blocks lie. Holds for every program. Terms that came in, opened: a type whose values hold slices of their own type. Holds for every program. -/
import Derived.Test.YtlpkcbkflfbclaaGreatDoorOps9
import Derived.Test.YtlpkcbkflfbclaaGreatDoorTmSpec
import Derived.Test.YtlpkcbkflfbclaaGreatDoorOpen
namespace Go.Proofs.YtlpkcbkflfbclaaGreatDoor.S
open Go.RowKit

def maxN : Nat := 4611686018427387904
mutual
/-- These cells hold this term. -/
def TmR (w0 : World) (Ps : List Blk) : Tm → List Value → Prop
  | .mk k nm as, cs => ∃ a c vs, cs = [.int .i64 k, .string (bstr nm), .slice a as.length c] ∧ RowR w0 Ps 3 (.slice a as.length c) as.length vs ∧ as.length ≤ maxN ∧ TmsR w0 Ps as vs
def TmsR (w0 : World) (Ps : List Blk) : List Tm → List Value → Prop
  | [], vs => vs = []
  | t :: ts, vs => ∃ cs rest, vs = cs ++ rest ∧ TmR w0 Ps t cs ∧ TmsR w0 Ps ts rest
end
section
variable {w0 : World} {Ps Qs : List Blk}
theorem TmR.mk {k : Int} {nm : List UInt8} {as : List Tm} {a : Option Addr} {c : Nat} {vs : List Value} (h1 : RowR w0 Ps 3 (.slice a as.length c) as.length vs) (h2 : as.length ≤ maxN) (h3 : TmsR w0 Ps as vs) : TmR w0 Ps (.mk k nm as) [.int .i64 k, .string (bstr nm), .slice a as.length c] := by
  rw [TmR]; exact ⟨a, c, vs, rfl, h1, h2, h3⟩
theorem TmR.mkN {k : Int} {nm : List UInt8} {ts : List Tm} {a : Option Addr} {c n : Nat} {vs : List Value} (hn : ts.length = n) (h1 : RowR w0 Ps 3 (.slice a n c) n vs) (h2 : n ≤ maxN) (h3 : TmsR w0 Ps ts vs) : TmR w0 Ps (.mk k nm ts) [.int .i64 k, .string (bstr nm), .slice a n c] := by
  subst hn; exact TmR.mk h1 h2 h3
theorem TmR.atom {nm : List UInt8} {k : Int} {c : Nat} : TmR w0 Ps (.mk k nm []) [.int .i64 k, .string (bstr nm), .slice none 0 c] := TmR.mkN rfl RowR.nil (Nat.zero_le _) (by rw [TmsR])
theorem TmR.inv {k : Int} {nm : List UInt8} {as : List Tm} {cs : List Value} (h : TmR w0 Ps (.mk k nm as) cs) : ∃ a c vs, cs = [.int .i64 k, .string (bstr nm), .slice a as.length c] ∧ RowR w0 Ps 3 (.slice a as.length c) as.length vs ∧ as.length ≤ maxN ∧ TmsR w0 Ps as vs := by rw [TmR] at h; exact h
theorem TmR.len {t : Tm} {cs : List Value} (h : TmR w0 Ps t cs) : cs.length = 3 := by cases t; obtain ⟨a, c, vs, rfl, _⟩ := h.inv; rfl
theorem TmR.ones {t : Tm} {cs : List Value} (h : TmR w0 Ps t cs) : ∀ u ∈ cs, one u = true := by cases t; obtain ⟨a, c, vs, rfl, _⟩ := h.inv; intro u hu; simp at hu; rcases hu with rfl | rfl | rfl <;> rfl
theorem TmsR.nil : TmsR w0 Ps [] [] := by rw [TmsR]
theorem TmsR.nil_inv {vs : List Value} (h : TmsR w0 Ps [] vs) : vs = [] := by rw [TmsR] at h; exact h
theorem TmsR.cons {t : Tm} {ts : List Tm} {cs rest : List Value} (h1 : TmR w0 Ps t cs) (h2 : TmsR w0 Ps ts rest) : TmsR w0 Ps (t :: ts) (cs ++ rest) := by rw [TmsR]; exact ⟨cs, rest, rfl, h1, h2⟩
theorem TmsR.cons_inv {t : Tm} {ts : List Tm} {vs : List Value} (h : TmsR w0 Ps (t :: ts) vs) : ∃ cs rest, vs = cs ++ rest ∧ TmR w0 Ps t cs ∧ TmsR w0 Ps ts rest := by rw [TmsR] at h; exact h
theorem TmsR.of {ts : List Tm} : ∀ {vs : List Value}, TmsR w0 Ps ts vs → vs.length = ts.length * 3 ∧ ∀ u ∈ vs, one u = true := by
  induction ts with
  | nil => intro vs h; rw [h.nil_inv]; simp
  | cons t ts ih =>
    intro vs h
    obtain ⟨cs, rest, rfl, h1, h2⟩ := h.cons_inv
    obtain ⟨i1, i2⟩ := ih h2
    refine ⟨by rw [List.length_append, h1.len, i1, List.length_cons]; omega, fun u hu => ?_⟩
    rcases List.mem_append.1 hu with hu | hu
    · exact h1.ones u hu
    · exact i2 u hu
theorem TmsR.len {ts : List Tm} {vs : List Value} (h : TmsR w0 Ps ts vs) : vs.length = ts.length * 3 := h.of.1
theorem TmsR.ones {ts : List Tm} {vs : List Value} (h : TmsR w0 Ps ts vs) : ∀ u ∈ vs, one u = true := h.of.2
theorem TmR.more {t : Tm} (hi : Inc Ps Qs) : ∀ {cs : List Value}, TmR w0 Ps t cs → TmR w0 Qs t cs := by
  induction t using Tm.ind with
  | h k n as ih =>
    intro cs h
    obtain ⟨a, c, vs, rfl, h1, h2, h3⟩ := h.inv
    refine TmR.mk (h1.more hi) h2 ?_
    clear h1 h2 h
    generalize as.length = m
    induction as generalizing vs with
    | nil => rw [h3.nil_inv]; exact TmsR.nil
    | cons b bs ihb =>
      obtain ⟨cs, rest, rfl, h1, h2⟩ := h3.cons_inv
      exact TmsR.cons (ih b (by simp) h1) (ihb (fun x hx => ih x (by simp [hx])) _ h2)
theorem TmsR.more (hi : Inc Ps Qs) : ∀ {ts : List Tm} {vs : List Value}, TmsR w0 Ps ts vs → TmsR w0 Qs ts vs
  | [], vs, h => by rw [h.nil_inv]; exact TmsR.nil
  | t :: ts, vs, h => by obtain ⟨cs, rest, rfl, h1, h2⟩ := h.cons_inv; exact TmsR.cons (h1.more hi) (h2.more hi)
theorem TmsR.app : ∀ {ts us : List Tm} {vs ws : List Value}, TmsR w0 Ps ts vs → TmsR w0 Ps us ws → TmsR w0 Ps (ts ++ us) (vs ++ ws)
  | [], us, vs, ws, h, h' => by rw [h.nil_inv]; exact h'
  | t :: ts, us, vs, ws, h, h' => by
    obtain ⟨cs, rest, rfl, h1, h2⟩ := h.cons_inv
    rw [List.append_assoc, List.cons_append]
    exact TmsR.cons h1 (h2.app h')
theorem TmsR.one {t : Tm} {cs : List Value} (h : TmR w0 Ps t cs) : TmsR w0 Ps [t] cs := by have := TmsR.cons h (TmsR.nil (w0 := w0) (Ps := Ps)); rwa [List.append_nil] at this
theorem TmsR.split {ts us : List Tm} : ∀ {vs : List Value}, TmsR w0 Ps (ts ++ us) vs → TmsR w0 Ps ts (vs.take (ts.length * 3)) ∧ TmsR w0 Ps us (vs.drop (ts.length * 3)) := by
  induction ts with
  | nil => intro vs h; simp only [List.length_nil, Nat.zero_mul, List.take_zero, List.drop_zero]; exact ⟨TmsR.nil, h⟩
  | cons t ts ih =>
    intro vs h
    obtain ⟨cs, rest, rfl, h1, h2⟩ := h.cons_inv
    obtain ⟨i1, i2⟩ := ih h2
    have hl := h1.len
    rw [List.length_cons, show (ts.length + 1) * 3 = cs.length + ts.length * 3 by omega, List.take_length_add_append, List.drop_length_add_append]
    exact ⟨TmsR.cons h1 i1, i2⟩
theorem TmsR.take {ts : List Tm} {vs : List Value} (h : TmsR w0 Ps ts vs) (i : Nat) (hi : i ≤ ts.length) : TmsR w0 Ps (ts.take i) (vs.take (i * 3)) := by
  have h0 := h
  rw [← List.take_append_drop i ts] at h0
  have := h0.split.1
  rwa [List.length_take, Nat.min_eq_left hi] at this
theorem TmsR.drop {ts : List Tm} {vs : List Value} (h : TmsR w0 Ps ts vs) (i : Nat) (hi : i ≤ ts.length) : TmsR w0 Ps (ts.drop i) (vs.drop (i * 3)) := by
  have h0 := h
  rw [← List.take_append_drop i ts] at h0
  have := h0.split.2
  rwa [List.length_take, Nat.min_eq_left hi] at this
theorem TmsR.at {ts : List Tm} {vs : List Value} (h : TmsR w0 Ps ts vs) {i : Nat} {x : Tm} (hx : ts[i]? = some x) : TmR w0 Ps x ((vs.drop (i * 3)).take 3) := by
  have hi : i < ts.length := (List.getElem?_eq_some_iff.1 hx).1
  have hd := h.drop i (by omega)
  rw [List.drop_eq_getElem_cons hi, show ts[i] = x from by rw [List.getElem?_eq_getElem hi] at hx; exact Option.some.inj hx] at hd
  obtain ⟨cs, rest, he, h1, _⟩ := hd.cons_inv
  rw [he, List.take_append_of_le_length (by rw [h1.len]; exact Nat.le_refl _), List.take_of_length_le (by rw [h1.len]; exact Nat.le_refl _)]
  exact h1
/-- One element of a row of terms: its cells, and that they are read there. -/
theorem RowR.term {n c i : Nat} {a : Option Addr} {vs : List Value} {ts : List Tm} {x : Tm} (h : RowR w0 Ps 3 (.slice a n c) n vs) (ht : TmsR w0 Qs ts vs) (hx : ts[i]? = some x) (P : Program) : ∃ b o cs, a = some ⟨b, o, none⟩ ∧ TmR w0 Qs x cs ∧ ∀ C : Ctx, C.w0 = w0 → C.M = [] → ∀ L, Inc Ps L → RdN C L ⟨b, o + i * 3, none⟩ cs := by
  have hi : i < ts.length := (List.getElem?_eq_some_iff.1 hx).1
  have hl := h.len
  have hl2 := ht.len
  obtain ⟨b, o, rfl, hr⟩ := h.at (by omega) P
  exact ⟨b, o, _, rfl, ht.at hx, fun C h0 hm L hL => ((hr C h0 hm L hL).elem hl (by omega)).1⟩
/-- A slice of one's own that holds terms. -/
theorem SlG.tm {tg : Option TypeId} {s : Value} {xs : List Value} {Ls : List Blk} {us : List Tm} (h : SlG tg s xs 3 Ls) (ht : TmsR w0 Qs us xs) : ∃ a c, s = .slice a us.length c ∧ RowR w0 (Ls ++ Qs) 3 (.slice a us.length c) us.length xs := by
  have hr := RowR.ofSl (w0 := w0) (Ps := Ls ++ Qs) h Inc.here (by decide) us.length ht.len
  obtain ⟨a, c, rfl⟩ := hr.form
  exact ⟨a, c, rfl, hr⟩
theorem SlG.blk {tg : Option TypeId} {s : Value} {xs : List Value} {Ls : List Blk} {n : Nat} (h : SlG tg s xs 3 Ls) (hl : xs.length = n * 3) (hn : 0 < n) : ∃ b off cap size, s = .slice (some ⟨b, off, none⟩) n cap ∧ n ≤ cap ∧ off + cap * 3 ≤ size ∧ Ls = [⟨⟨b, tg⟩, off, xs, size⟩] := by
  rcases h with ⟨_, rfl, _⟩ | ⟨b, off, len, cap, size, rfl, h1, h2, h3, rfl⟩
  · simp at hl; omega
  · obtain rfl : len = n := by omega
    exact ⟨b, off, cap, size, rfl, h2, h3, rfl⟩
theorem TmsR.two_inv {x y : Tm} {vs : List Value} (h : TmsR w0 Ps [x, y] vs) : ∃ c0 c1, vs = c0 ++ (c1 ++ []) ∧ TmR w0 Ps x c0 ∧ TmR w0 Ps y c1 := by
  obtain ⟨c0, r, rfl, h0, hr⟩ := h.cons_inv
  obtain ⟨c1, r2, rfl, h1, hr2⟩ := hr.cons_inv
  rw [hr2.nil_inv]
  exact ⟨c0, c1, rfl, h0, h1⟩
end
end Go.Proofs.YtlpkcbkflfbclaaGreatDoor.S

namespace Go.Proofs.YtlpkcbkflfbclaaGreatDoor.S
open Go.ChangeShapes Go.WideShapes Go.ChangeAt Go.RowKit Go.Deep

/-- The types of which terms are made. -/
structure TmTy (P : Program) (TM TS INT STR : TypeId) : Prop where
  st : structIs P TM [(INT, 0), (STR, 1), (TS, 2)] = true
  sl : P.underlying TS = some (.slice TM)
  int : P.underlying INT = some (.int .i64)
  str : P.underlying STR = some .string
  ci : P.cellsOf INT = 1
  cs : P.cellsOf STR = 1
  cl : P.cellsOf TS = 1
  ct : P.cellsOf TM = 3
  by48 : 2 ≤ P.bytesOf TM
/-- Each slice and text of a reading is of a size that may be. -/
def Wt {H : Type} (P : Program) (t : TypeId) (d : DataW H) : Prop := ∀ n ∈ DataW.weights P t d, n ≤ reachBytes
section
variable {H : Type} {enc : TypeId × Value → H} {P : Program} {W : World} {TM TS INT STR : TypeId}
theorem Wt.fld {l : List (TypeId × Nat)} {xs : List (DataW H)} {t : TypeId} (hs : structIs P t l = true) (h : Wt P t (.agg xs)) {j : Nat} {q : TypeId × Nat} {y : DataW H} (hq : l[j]? = some q) (hy : xs[j]? = some y) : Wt P q.1 y := by
  obtain ⟨fs, hfs, rfl⟩ := structIs_spec hs
  intro n hn
  refine h n ?_
  simp only [DataW.weights, hfs]
  refine DataW.weights_mem_each (j := j) (t := q.1) (d := y) ?_ hy n hn
  rw [List.getElem?_map] at hq ⊢
  obtain ⟨f, hf, rfl⟩ := Option.map_eq_some_iff.1 hq
  rw [hf]; rfl
theorem weights_all_mem {e : TypeId} : ∀ {ds : List (DataW H)} {d : DataW H}, d ∈ ds → ∀ n ∈ d.weights P e, n ∈ DataW.weightsAll P e ds
  | x :: ds, d, h, n, hn => by
    rw [DataW.weightsAll]
    rcases List.mem_cons.1 h with rfl | h
    · exact List.mem_append_left _ hn
    · exact List.mem_append_right _ (weights_all_mem h n hn)
theorem Wt.elem {t e : TypeId} {ds sp : List (DataW H)} {d : DataW H} (ht : P.underlying t = some (.slice e)) (h : Wt P t (.slice ds sp)) (hd : d ∈ ds) : Wt P e d := by
  intro n hn
  refine h n ?_
  simp only [DataW.weights, ht]
  exact List.mem_cons_of_mem _ (List.mem_append_left _ (weights_all_mem hd n hn))
theorem Wt.len {t e : TypeId} {ds sp : List (DataW H)} (ht : P.underlying t = some (.slice e)) (h : Wt P t (.slice ds sp)) : ds.length * P.bytesOf e ≤ reachBytes := by
  have := h ((ds.length + sp.length) * P.bytesOf e) (by simp [DataW.weights, ht])
  exact Nat.le_trans (Nat.mul_le_mul_right _ (Nat.le_add_right _ _)) this
/-- A slice inside another value: it may be odd where it has no place at all. -/
theorem rd_slR {t e : TypeId} {k : Nat} {v : Value} {d : DataW H} (ht : P.underlying t = some (.slice e)) (hC : P.cellsOf e = k) (hk : 0 < k) (h : Tr enc P W t [v] d) :
    ∃ (n : Nat) (ess : List (List Value)) (ds : List (DataW H)), ess.length = n ∧ ds.length = n ∧ ((d = .nil ∧ ds = []) ∨ ∃ sp, d = .slice ds sp) ∧ RowR W [] k v n ess.flatten ∧
      ∀ (i : Nat) (es : List Value) (x : DataW H), ess[i]? = some es → ds[i]? = some x → Tr enc P W e es x := by
  obtain ⟨fuel, pl, h0⟩ := h
  have odd : (∃ a, v = .slice (some a) 0 0 ∧ ∃ ds sp, d = .slice ds sp ∧ ds.length = 0) ∨ ∀ a len cap, v = .slice (some a) len cap → a.spot = none := by
    rcases open_slice ht h0 with ⟨h1, h2⟩ | ⟨a, len, cap, m, n, D, Pl, hcs, hb, hl, hm, hmm, hx, hi⟩
    · simp only [List.cons.injEq, and_true] at h1
      subst h1
      exact .inr (fun a len cap hv => by cases hv)
    · simp only [List.cons.injEq, and_true] at hcs
      subst hcs
      have hmc : m = cap := by simpa using hmm
      subst hmc
      by_cases h0 : m = 0
      · subst h0
        obtain rfl : len = 0 := by omega
        exact .inl ⟨a, rfl, _, _, (Prod.mk.inj hx).1, by simp⟩
      · refine .inr (fun a' len' cap' hv => ?_)
        cases hv
        obtain ⟨cs', hc, _⟩ := hi 0 (by omega)
        rw [hC] at hc
        have := (World.cells?_some hc).2.2 0 (by omega)
        rw [Nat.zero_mul] at this
        have e0 : (a.add 0).add 0 = a := rfl
        rw [e0] at this
        obtain ⟨x, hx'⟩ : ∃ x, W.cell? a = some x := by
          have hl1 := (World.cells?_some hc).2.1
          rw [List.getElem?_eq_getElem (by omega)] at this
          exact ⟨_, this⟩
        exact spot_none hx'
  rcases odd with ⟨a, rfl, ds, sp, rfl, hd⟩ | hsp
  · exact ⟨0, [], ds, rfl, hd, .inr ⟨sp, rfl⟩, RowR.odd, fun i es x h => by simp at h⟩
  · obtain ⟨n, ess, ds, hn, h1, h2, h3, h4, h5, h6⟩ := rd_slice0 ht hC hsp ⟨fuel, pl, h0⟩
    exact ⟨n, ess, ds, h1, h2, h3, RowR.old h4, h6⟩
theorem choose_tms {ess : List (List Value)} (h : ∀ es ∈ ess, ∃ t, TmR W [] t es) : ∃ ts : List Tm, ts.length = ess.length ∧ TmsR W [] ts ess.flatten := by
  induction ess with
  | nil => exact ⟨[], rfl, TmsR.nil⟩
  | cons es ess ih =>
    obtain ⟨t, ht⟩ := h es (by simp)
    obtain ⟨ts, hl, hts⟩ := ih fun x hx => h x (by simp [hx])
    exact ⟨t :: ts, by simp [hl], TmsR.cons ht hts⟩
/-- A slice of terms, if each of its readings is of a term. -/
theorem rd_tms_of (hT : TmTy P TM TS INT STR) {v : Value} {d : DataW H} (h : Tr enc P W TS [v] d) (hw : Wt P TS d) (ih : ∀ ds sp, d = .slice ds sp → ∀ x ∈ ds, ∀ cs, Tr enc P W TM cs x → ∃ t, TmR W [] t cs) :
    ∃ a c ts vs, v = .slice a ts.length c ∧ RowR W [] 3 v ts.length vs ∧ TmsR W [] ts vs ∧ ts.length * P.bytesOf TM ≤ reachBytes := by
  obtain ⟨n, ess, ds, h1, h2, h3, h4, h5⟩ := rd_slR hT.sl hT.ct (by decide) h
  obtain ⟨ts, hl, hts⟩ := choose_tms (W := W) (ess := ess) fun es hes => by
    obtain ⟨i, hi, rfl⟩ := List.mem_iff_getElem.1 hes
    have hd := List.getElem?_eq_getElem (l := ds) (i := i) (by omega)
    rcases h3 with ⟨rfl, rfl⟩ | ⟨sp, rfl⟩
    · simp only [List.length_nil] at h2; omega
    · exact ih ds sp rfl _ (List.mem_of_getElem? hd) _ (h5 i _ _ (List.getElem?_eq_getElem hi) hd)
  obtain ⟨a, c, rfl⟩ := h4.form
  refine ⟨a, c, ts, ess.flatten, by rw [hl, h1], by rw [hl, h1]; exact h4, hts, ?_⟩
  rcases h3 with ⟨rfl, rfl⟩ | ⟨sp, rfl⟩
  · simp only [List.length_nil] at h2; rw [hl, h1, ← h2]; simp
  · rw [hl, h1, ← h2]; exact hw.len hT.sl
theorem rd_tmN (hT : TmTy P TM TS INT STR) : ∀ (m : Nat) (d : DataW H) (cs : List Value), SizeOf.sizeOf d < m → Tr enc P W TM cs d → Wt P TM d → ∃ t, TmR W [] t cs := by
  intro m
  induction m with
  | zero => intro d cs hm; omega
  | succ m ih =>
  intro d cs hm h hw
  obtain ⟨xs, rfl, hxl, hcl, hf⟩ := rd_struct hT.st h
  obtain ⟨y0, hy0, h0⟩ := hf 0 (INT, 0) rfl
  obtain ⟨y1, hy1, h1⟩ := hf 1 (STR, 1) rfl
  obtain ⟨y2, hy2, h2⟩ := hf 2 (TS, 2) rfl
  rw [hT.ct] at hcl
  match cs, hcl, h0, h1, h2 with
  | [v0, v1, v2], _, h0, h1, h2 =>
    simp only [hT.ci, hT.cs, hT.cl, List.drop_zero, List.drop_succ_cons, List.take_succ_cons, List.take_zero] at h0 h1 h2
    obtain ⟨k, hk, _⟩ := rd_int hT.int h0
    obtain ⟨fuel, p, h1⟩ := h1
    obtain ⟨s, hs, _, _⟩ := DataW.trod_string hT.str h1
    have hw2 : Wt P TS y2 := hw.fld hT.st (j := 2) (q := (TS, 2)) rfl hy2
    obtain ⟨a, c, ts, vs, rfl, hr, ht, hb⟩ := rd_tms_of hT h2 hw2 (fun ds sp he x hx cs hc => ih x cs (by
      subst he
      have e1 := List.sizeOf_lt_of_mem (List.mem_of_getElem? hy2)
      have e2 := List.sizeOf_lt_of_mem hx
      simp only [DataW.slice.sizeOf_spec, DataW.agg.sizeOf_spec] at *
      omega) hc ((he ▸ hw2).elem hT.sl hx))
    cases hk; cases hs
    have h48 := hT.by48
    refine ⟨.mk k s.data.toList ts, TmR.mk hr ?_ ht⟩
    unfold reachBytes at hb
    unfold maxN
    have := Nat.mul_le_mul_left ts.length h48
    omega
theorem rd_tm (hT : TmTy P TM TS INT STR) (d : DataW H) {cs : List Value} (h : Tr enc P W TM cs d) (hw : Wt P TM d) : ∃ t, TmR W [] t cs := rd_tmN hT _ d cs (Nat.lt_succ_self _) h hw
/-- A parameter that is a term. -/
theorem open_tm (hT : TmTy P TM TS INT STR) {ts : List TypeId} (hts : P.cellTypes P.depth TM = some ts) {v : Value} {d : DataW H} {p : List MemPlace} {b0 : Nat} {r : Reach} (hv : Value.okWide P W r b0 TM v) (h : DataW.Trod enc P W 0 (fun _ => true) true TM v d p) (hw : Wt P TM d) :
    ∃ t cs, v = .agg cs.toArray ∧ TmR W [] t cs := by
  obtain ⟨cs, rfl, hl, _⟩ := okW_struct hT.st hts hv
  obtain ⟨fuel, h⟩ := h
  obtain ⟨t, ht⟩ := rd_tm (enc := enc) (W := W) hT d (cs := cs) ⟨fuel, p, h⟩ hw
  exact ⟨t, cs, rfl, ht⟩
theorem Wt.of {ts : List TypeId} {ds : List (DataW H)} (h : (DataW.weightsEach P ts ds).all (· ≤ reachBytes) = true) {j : Nat} {t : TypeId} {d : DataW H} (ht : ts[j]? = some t) (hd : ds[j]? = some d) : Wt P t d := fun n hn => by
  have := List.all_eq_true.1 h n (DataW.weights_mem_each ht hd n hn)
  simpa using this
end
end Go.Proofs.YtlpkcbkflfbclaaGreatDoor.S
