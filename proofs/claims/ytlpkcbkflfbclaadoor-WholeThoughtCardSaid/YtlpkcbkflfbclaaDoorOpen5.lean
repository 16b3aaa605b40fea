/- More readings of what came in: lists of truths; arrays of slices of bytes. Holds for every program. -/
import Derived.Test.YtlpkcbkflfbclaaDoorOpen4
import Derived.ChangeMaps5
import Derived.SizedLaws
namespace Go.Proofs.YtlpkcbkflfbclaaDoor.S
open Go.ChangeShapes Go.WideShapes Go.ChangeAt Go.RowKit Go.Deep

theorem rd_bool {H : Type} {enc : TypeId × Value → H} {P : Program} {W : World} {t : TypeId} {d : DataW H} {cs : List Value} (ht : P.underlying t = some .bool) (h : Tr enc P W t cs d) : ∃ b, cs = [.bool b] := by
  obtain ⟨fuel, p, h⟩ := h
  obtain ⟨b, h1, _⟩ := DataW.trod_bool ht h
  exact ⟨b, h1⟩
/-- A parameter that is a slice of truths. -/
theorem open_bools {H : Type} {enc : TypeId × Value → H} {P : Program} {W : World} {t e : TypeId} {v : Value} {d : DataW H} {p : List MemPlace} {b0 : Nat} {r : Reach} (ht : P.underlying t = some (.slice e)) (he : P.underlying e = some .bool) (hC : P.cellsOf e = 1) (hv : Value.okWide P W r b0 t v) (h : DataW.Trod enc P W 0 (fun _ => true) true t v d p) :
    ∃ l : List Bool, l.length ≤ maxLen ∧ SlR W v 1 l.length (l.map Value.bool) := by
  have hc := okW_cell (by rw [ht]; simp) (by rw [ht]; simp) hv
  obtain ⟨fuel, h⟩ := h
  have hcells : v.cells.toList = [v] := by
    unfold Cell.okWide Cell.ok at hc
    simp only [ht] at hc
    cases v <;> first | rfl | exact hc.elim
  rw [hcells] at h
  obtain ⟨n, ess, ds, hn, h1, h2, h3, h4, h5, h6⟩ := rd_slice ht hC hc ⟨fuel, p, h⟩
  have key : ∀ x ∈ ess, ∃ c : Bool, True ∧ x = [Value.bool c] := by
    intro x hx
    obtain ⟨i, hi', rfl⟩ := List.mem_iff_getElem.1 hx
    obtain ⟨c, hc⟩ := rd_bool he (h6 i _ _ (List.getElem?_eq_getElem hi') (List.getElem?_eq_getElem (by omega)))
    exact ⟨c, trivial, hc⟩
  obtain ⟨l, rfl, _⟩ := choose_map (fun c => [Value.bool c]) ess key
  have hfl : ∀ (l : List Bool), (l.map (fun c => [Value.bool c])).flatten = l.map Value.bool := by
    intro l
    induction l with
    | nil => rfl
    | cons c l ih => simp [ih]
  rw [hfl] at h4
  simp only [List.length_map] at h1
  subst h1
  exact ⟨l, hn, h4⟩
/-- A parameter that is an array of slices of bytes. -/
theorem open_arrp {H : Type} {enc : TypeId × Value → H} {P : Program} {W : World} {t s e : TypeId} {n : Nat} {v : Value} {d : DataW H} {p : List MemPlace} {b0 : Nat} {r : Reach} (ht : P.underlying t = some (.array n s)) (hs : P.underlying s = some (.slice e)) (he : P.underlying e = some (.int .u8)) (hCs : P.cellsOf s = 1) (hC : P.cellsOf e = 1) (hn : P.cellsOf t = n) (hv : Value.okWide P W r b0 t v) (h : DataW.Trod enc P W 0 (fun _ => true) true t v d p) :
    ∃ (l : List (Value × List UInt8)), l.length = n ∧ v = .agg (l.map (·.1)).toArray ∧ ∀ y ∈ l, y.2.length ≤ maxLen ∧ InR W y.1 y.2 := by
  unfold Value.okWide at hv
  rw [ht] at hv
  obtain ⟨cs0, rfl, hsz, _⟩ := hv
  obtain ⟨fuel, h⟩ := h
  replace h : DataW.trod enc P W 0 (fun _ => true) true fuel t cs0.toList = some (d, p) := h
  obtain ⟨cs, hcs⟩ : ∃ cs, cs = cs0.toList := ⟨_, rfl⟩
  rw [← hcs] at h
  obtain ⟨xs, m, _, _, hl, hxl, hi⟩ := DataW.trod_array ht h
  rw [hn] at hl
  have key : ∀ x ∈ cs, ∃ y : Value × List UInt8, (y.2.length ≤ maxLen ∧ InR W y.1 y.2) ∧ x = y.1 := by
    intro x hx
    obtain ⟨i, hi', rfl⟩ := List.mem_iff_getElem.1 hx
    have h1 := hi i (by omega)
    rw [hCs, Nat.mul_one, List.drop_eq_getElem_cons hi'] at h1
    simp only [List.take_succ_cons, List.take_zero] at h1
    rw [List.getElem?_eq_getElem (by omega)] at h1
    obtain ⟨q, hq1, hq2, _⟩ := rd_part (d := (xs[i]'(by omega)).1) hs he hC ⟨m, (xs[i]'(by omega)).2, h1⟩
    exact ⟨(cs[i], q), ⟨hq1, hq2⟩, rfl⟩
  obtain ⟨l, hlc, hall⟩ := choose_map (fun y : Value × List UInt8 => y.1) cs key
  refine ⟨l, by rw [← hl, hlc, List.length_map], ?_, hall⟩
  rw [← hlc, hcs]
/-- A parameter that is a text. -/
theorem open_text {H : Type} {enc : TypeId × Value → H} {P : Program} {W : World} {t : TypeId} {v : Value} {d : DataW H} {p : List MemPlace} {b0 : Nat} {r : Reach} (ht : P.underlying t = some .string) (hv : Value.okWide P W r b0 t v) (h : DataW.Trod enc P W 0 (fun _ => true) true t v d p) :
    ∃ l : List UInt8, v = .string (bstr l) ∧ d = .lit (.string l) ∧ p = [] ∧ l.length ≤ maxLen := by
  obtain ⟨s, rfl, rfl, rfl, hs⟩ := Go.ChangeMaps.open_string ht hv h
  exact ⟨s.data.toList, rfl, rfl, rfl, by simpa using hs⟩
/-- A parameter that is an array of numbers of 32 bits. -/
theorem open_u32s {H : Type} {enc : TypeId × Value → H} {P : Program} {W : World} {t e : TypeId} {n : Nat} {v : Value} {d : DataW H} {p : List MemPlace} {b0 : Nat} {r : Reach} (ht : P.underlying t = some (.array n e)) (he : P.underlying e = some (.int .u32)) (hC : P.cellsOf e = 1) (hn : P.cellsOf t = n) (hv : Value.okWide P W r b0 t v) (h : DataW.Trod enc P W 0 (fun _ => true) true t v d p) :
    ∃ l : List Nat, l.length = n ∧ v = .agg (l.map u32V).toArray ∧ ∀ x ∈ l, x < 4294967296 := by
  unfold Value.okWide at hv
  rw [ht] at hv
  obtain ⟨cs0, rfl, hsz, _⟩ := hv
  obtain ⟨fuel, h⟩ := h
  replace h : DataW.trod enc P W 0 (fun _ => true) true fuel t cs0.toList = some (d, p) := h
  obtain ⟨cs, hcs⟩ : ∃ cs, cs = cs0.toList := ⟨_, rfl⟩
  rw [← hcs] at h
  obtain ⟨xs, m, _, _, hl, hxl, hi⟩ := DataW.trod_array ht h
  rw [hn] at hl
  have key : ∀ x ∈ cs, ∃ c : Nat, c < 4294967296 ∧ x = u32V c := by
    intro x hx
    obtain ⟨i, hi', rfl⟩ := List.mem_iff_getElem.1 hx
    have h1 := hi i (by omega)
    rw [hC, Nat.mul_one, List.drop_eq_getElem_cons hi'] at h1
    simp only [List.take_succ_cons, List.take_zero] at h1
    rw [List.getElem?_eq_getElem (by omega)] at h1
    obtain ⟨c, hc, hcv⟩ := rd_u32 (d := (xs[i]'(by omega)).1) he ⟨m, (xs[i]'(by omega)).2, h1⟩
    exact ⟨c, hc, by simpa using hcv⟩
  obtain ⟨l, hlc, hall⟩ := choose_map u32V cs key
  refine ⟨l, by rw [← hl, hlc, List.length_map], ?_, hall⟩
  rw [← hlc, hcs]
/-- A parameter that is an array whose cells are all of one type. -/
theorem open_agg {P : Program} {W : World} {t e c : TypeId} {n N m : Nat} {v : Value} {b0 : Nat} {r : Reach} (ht : P.underlying t = some (.array n e)) (hn : P.cellsOf t = N) (hts : P.cellTypes P.depth t = some (List.replicate m c)) (hv : Value.okWide P W r b0 t v) :
    ∃ cs : List Value, v = .agg cs.toArray ∧ cs.length = N ∧ ∀ u ∈ cs, Cell.okWide P W r b0 c u := by
  unfold Value.okWide at hv
  rw [ht] at hv
  obtain ⟨cs, rfl, hsz, ts, hts', _, hc⟩ := hv
  rw [hts] at hts'
  obtain rfl := Option.some.inj hts'
  refine ⟨cs.toList, by simp, by rw [← hn]; simpa using hsz, fun u hu => ?_⟩
  obtain ⟨i, hi, rfl⟩ := List.mem_iff_getElem.1 hu
  obtain ⟨ty, hty, hok⟩ := hc i (cs.toList[i]) (by rw [← Array.getElem?_toList]; exact List.getElem?_eq_getElem hi)
  rw [List.getElem?_replicate] at hty
  split at hty
  · cases hty; exact hok
  · cases hty
theorem cell_u8 {P : Program} {W : World} {t : TypeId} {u : Value} {b0 : Nat} {r : Reach} (ht : P.underlying t = some (.int .u8)) (h : Cell.okWide P W r b0 t u) : ∃ c : UInt8, u = byteV c := by
  unfold Cell.okWide Cell.ok at h
  simp only [ht] at h
  cases u <;> first | exact h.elim | skip
  rename_i k n
  obtain ⟨rfl, hk⟩ := h
  have hb : 0 ≤ n ∧ n ≤ 255 := by simpa [IntKind.has, IntKind.min, IntKind.max, IntKind.signed, IntKind.bits] using hk
  refine ⟨UInt8.ofNat n.toNat, ?_⟩
  have h8 : (UInt8.ofNat n.toNat).toNat = n.toNat := by simp [UInt8.toNat_ofNat']; omega
  unfold byteV
  rw [h8]; congr 1; omega
theorem cell_text {P : Program} {W : World} {t : TypeId} {u : Value} {b0 : Nat} {r : Reach} (ht : P.underlying t = some .string) (h : Cell.okWide P W r b0 t u) : ∃ l : List UInt8, u = .string (bstr l) := by
  unfold Cell.okWide Cell.ok at h
  simp only [ht] at h
  cases u <;> first | exact h.elim | skip
  rename_i s
  exact ⟨s.data.toList, rfl⟩
/-- Two texts in an array: each is of a size that may be. -/
theorem names_sized {H : Type} {enc : TypeId × Value → H} {P : Program} {W : World} {t s : TypeId} {n0 n1 : List UInt8} {d : DataW H} {p : List MemPlace} (ht : P.underlying t = some (.array 2 s)) (hs : P.underlying s = some .string) (hC : P.cellsOf s = 1) (h : DataW.Trod enc P W 0 (fun _ => true) true t (.agg [Value.string (bstr n0), .string (bstr n1)].toArray) d p)
    {ts : List TypeId} {ds : List (DataW H)} (ht0 : ts[0]? = some t) (hd0 : ds[0]? = some d) (hw : (DataW.weightsEach P ts ds).all (· ≤ reachBytes) = true) : n0.length ≤ 140737488355328 ∧ n1.length ≤ 140737488355328 := by
  obtain ⟨fuel, h⟩ := h
  replace h : DataW.trod enc P W 0 (fun _ => true) true fuel t [Value.string (bstr n0), .string (bstr n1)] = some (d, p) := h
  obtain ⟨xs, m, _, hx, hl, hxl, hi⟩ := DataW.trod_array ht h
  have key : ∀ (i : Nat) (q : List UInt8), i < 2 → [Value.string (bstr n0), .string (bstr n1)][i]? = some (.string (bstr q)) → q.length ≤ 140737488355328 := by
    intro i q hi2 hq
    have h1 := hi i (by omega)
    rw [hC, Nat.mul_one] at h1
    have hdr : (([Value.string (bstr n0), .string (bstr n1)].drop i).take 1) = [.string (bstr q)] := by
      rcases (show i = 0 ∨ i = 1 by omega) with rfl | rfl <;> (simp at hq; simp [hq])
    rw [hdr, List.getElem?_eq_getElem (by omega)] at h1
    obtain ⟨s', hs1, hs2, _⟩ := DataW.trod_string hs h1
    have hsq : s' = bstr q := by simpa using hs1.symm
    subst hsq
    have hxi : (xs[i]'(by omega)).1 = .lit (.string q) := by rw [hs2]; rfl
    have hmem : q.length ∈ DataW.weights P t d := by
      have hd : d = .agg (xs.map (·.1)) := (Prod.mk.inj hx).1
      rw [hd]
      match xs, hxl, hxi with
      | [a, b], _, hxi =>
        rcases (show i = 0 ∨ i = 1 by omega) with rfl | rfl
        · have ha : a.1 = .lit (.string q) := hxi
          simp [DataW.weights, DataW.weightsAll, ht, ha]
        · have hb : b.1 = .lit (.string q) := hxi
          simp [DataW.weights, DataW.weightsAll, ht, hb]
    have := List.all_eq_true.1 hw _ (DataW.weights_mem_each ht0 hd0 _ hmem)
    unfold reachBytes at this
    simp at this
    omega
  exact ⟨key 0 n0 (by decide) rfl, key 1 n1 (by decide) rfl⟩
end Go.Proofs.YtlpkcbkflfbclaaDoor.S
