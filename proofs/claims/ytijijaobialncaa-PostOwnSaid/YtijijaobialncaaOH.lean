/- A frame that came in, opened, with how long its parts are. -/
import Derived.Test.YtijijaobialncaaOG
import Derived.Test.YtijijaobialncaaOpen
import Derived.ProofKit
import Derived.SizedLaws
namespace Go.Proofs.Ytijijaobialncaa.S
open Go.RowKit

open Go.ChangeShapes Go.WideShapes
theorem rd_arrs3 {H : Type} {enc : TypeId × Value → H} {P : Program} {W : World} {t a e : TypeId} {k : Nat} {v : Value} {d : DataW H} {b0 : Nat} {r : Reach} (ht : P.underlying t = some (.slice a)) (ha : P.underlying a = some (.array k e)) (he : P.underlying e = some (.int .u8)) (hC : P.cellsOf e = 1) (hk : P.cellsOf a = k) (hok : Cell.okWide P W r b0 t v) (h : Tr enc P W t [v] d) :
    ∃ l : List (List UInt8), l.length ≤ maxLen ∧ (∀ x ∈ l, x.length = k) ∧ SlR W v k l.length (l.flatten.map byteV) ∧ ((d = .nil ∧ l = []) ∨ ∃ ds sp, d = .slice ds sp ∧ ds.length = l.length) := by
  obtain ⟨n, ess, ds, hn, h1, h2, h3, h4, h5, h6⟩ := rd_slice ht hk hok h
  have key : ∀ x ∈ ess, ∃ c : List UInt8, c.length = k ∧ x = c.map byteV := by
    intro x hx
    obtain ⟨i, hi', rfl⟩ := List.mem_iff_getElem.1 hx
    exact rd_arrU8 ha he hC hk (h6 i _ _ (List.getElem?_eq_getElem hi') (List.getElem?_eq_getElem (by omega)))
  obtain ⟨l, rfl, hl⟩ := choose_map (fun c : List UInt8 => c.map byteV) ess key
  simp only [List.length_map] at h1
  subst h1
  refine ⟨l, hn, hl, by rw [List.map_flatten]; exact h4, ?_⟩
  rcases h3 with ⟨rfl, rfl⟩ | ⟨sp, rfl⟩
  · exact .inl ⟨rfl, List.eq_nil_of_length_eq_zero (by simpa using h2.symm)⟩
  · exact .inr ⟨ds, sp, rfl, h2⟩

theorem rd_u32s3 {H : Type} {enc : TypeId × Value → H} {P : Program} {W : World} {t e : TypeId} {v : Value} {d : DataW H} {b0 : Nat} {r : Reach} (ht : P.underlying t = some (.slice e)) (he : P.underlying e = some (.int .u32)) (hC : P.cellsOf e = 1) (hok : Cell.okWide P W r b0 t v) (h : Tr enc P W t [v] d) :
    ∃ l : List Nat, l.length ≤ maxLen ∧ (∀ x ∈ l, x < 4294967296) ∧ SlR W v 1 l.length (l.map u32V) ∧ ((d = .nil ∧ l = []) ∨ ∃ ds sp, d = .slice ds sp ∧ ds.length = l.length) := by
  obtain ⟨n, ess, ds, hn, h1, h2, h3, h4, h5, h6⟩ := rd_slice ht hC hok h
  have key : ∀ x ∈ ess, ∃ c : Nat, c < 4294967296 ∧ x = [u32V c] := by
    intro x hx
    obtain ⟨i, hi', rfl⟩ := List.mem_iff_getElem.1 hx
    exact rd_u32 he (h6 i _ _ (List.getElem?_eq_getElem hi') (List.getElem?_eq_getElem (by omega)))
  obtain ⟨l, rfl, hl⟩ := choose_map (fun c => [u32V c]) ess key
  have hfl : ∀ (l : List Nat), (l.map (fun c => [u32V c])).flatten = l.map u32V := by
    intro l
    induction l with
    | nil => rfl
    | cons c l ih => simp [ih]
  rw [hfl] at h4
  simp only [List.length_map] at h1
  subst h1
  refine ⟨l, hn, hl, h4, ?_⟩
  rcases h3 with ⟨rfl, rfl⟩ | ⟨sp, rfl⟩
  · exact .inl ⟨rfl, List.eq_nil_of_length_eq_zero (by simpa using h2.symm)⟩
  · exact .inr ⟨ds, sp, rfl, h2⟩

set_option maxRecDepth 100000 in
theorem open_frame3 {H : Type} {enc : TypeId × Value → H} {W : World} {b0 : Nat} {v : Value} {d : DataW H} {p : List MemPlace} (hv : Value.okWide P W .any b0 39 v) (h : DataW.Trod enc P W 0 (fun _ => true) true 39 v d p) :
    ∃ f : Frm, FrIs W v f.kind f.keys f.nums f.sigs f.data ∧ ∃ xs y1 y2 y3 y4, d = .agg xs ∧ xs[1]? = some y1 ∧ xs[2]? = some y2 ∧ xs[3]? = some y3 ∧ xs[4]? = some y4 ∧ ((y1 = .nil ∧ f.keys = []) ∨ ∃ ds sp, y1 = .slice ds sp ∧ ds.length = f.keys.length) ∧ ((y2 = .nil ∧ f.nums = []) ∨ ∃ ds sp, y2 = .slice ds sp ∧ ds.length = f.nums.length) ∧ ((y3 = .nil ∧ f.sigs = []) ∨ ∃ ds sp, y3 = .slice ds sp ∧ ds.length = f.sigs.length) ∧ ((y4 = .nil ∧ f.data = []) ∨ ∃ ds sp, y4 = .slice ds sp ∧ ds.length = f.data.length) := by
  obtain ⟨cs, rfl, hlen, hok⟩ := okW_struct (l := [(3, 0), (35, 1), (36, 2), (37, 3), (29, 4)]) (ts := [3, 35, 36, 37, 29]) (by kernel_rfl) (by kernel_rfl) hv
  obtain ⟨fuel, h⟩ := h
  replace h : DataW.trod enc P W 0 (fun _ => true) true fuel 39 cs = some (d, p) := h
  obtain ⟨xs, hdx, hxl, _, hf⟩ := rd_struct (l := [(3, 0), (35, 1), (36, 2), (37, 3), (29, 4)]) (by kernel_rfl) ⟨fuel, p, h⟩
  rw [ce_39] at hlen
  match cs, hlen with
  | [c0, c1, c2, c3, c4], _ =>
    obtain ⟨y0, _, t0⟩ := hf 0 _ rfl
    obtain ⟨y1, hy1, t1⟩ := hf 1 _ rfl
    obtain ⟨y2, hy2, t2⟩ := hf 2 _ rfl
    obtain ⟨y3, hy3, t3⟩ := hf 3 _ rfl
    obtain ⟨y4, hy4, t4⟩ := hf 4 _ rfl
    rw [ce_3] at t0
    rw [ce_35] at t1
    rw [ce_36] at t2
    rw [ce_37] at t3
    rw [ce_29] at t4
    obtain ⟨ty1, e1, k1⟩ := hok 1 c1 rfl
    obtain ⟨ty2, e2, k2⟩ := hok 2 c2 rfl
    obtain ⟨ty3, e3, k3⟩ := hok 3 c3 rfl
    obtain ⟨ty4, e4, k4⟩ := hok 4 c4 rfl
    obtain rfl : 35 = ty1 := Option.some.inj e1
    obtain rfl : 36 = ty2 := Option.some.inj e2
    obtain rfl : 37 = ty3 := Option.some.inj e3
    obtain rfl : 29 = ty4 := Option.some.inj e4
    obtain ⟨kind, h0, _, _⟩ := rd_int ty_3 t0
    obtain rfl : c0 = .int .i64 kind := by simpa using h0
    obtain ⟨keys, m1, hk, sk, hd1⟩ := rd_arrs3 ty_35 ty_60 ty_5 ce_5 ce_60 k1 t1
    obtain ⟨nums, m2, hn, sn, hd2⟩ := rd_u32s3 ty_36 ty_27 ce_27 k2 t2
    obtain ⟨sigs, m3, hs, ss, hd3⟩ := rd_arrs3 ty_37 ty_86 ty_5 ce_5 ce_86 k3 t3
    obtain ⟨data, m4, sd, hd4⟩ := rd_bytes ty_29 ty_5 ce_5 k4 t4
    unfold maxLen at m1 m2 m3 m4
    exact ⟨⟨kind, keys, nums, sigs, data⟩, ⟨⟨c1, c2, c3, c4, rfl, sk, sn, ss, sd⟩, hk, hn, hs, ⟨by show keys.length < _; omega, by show nums.length < _; omega, by show sigs.length < _; omega, by show data.length < _; omega⟩⟩, xs, y1, y2, y3, y4, hdx, hy1, hy2, hy3, hy4, hd1, hd2, hd3, hd4⟩

set_option maxRecDepth 100000 in
theorem sized_struct {H : Type} {P : Program} {ts : List TypeId} {ds xs : List (DataW H)} {t : TypeId} {l : List (TypeId × Nat)} (hs : structIs P t l = true) (h : (DataW.weightsEach P ts ds).all (· ≤ reachBytes) = true) {j : Nat} (ht : ts[j]? = some t) (hd : ds[j]? = some (.agg xs)) :
    (DataW.weightsEach P (l.map (·.1)) xs).all (· ≤ reachBytes) = true := by
  obtain ⟨fs, hfs, rfl⟩ := structIs_spec hs
  rw [List.all_eq_true]
  intro n hn
  refine List.all_eq_true.1 h n (DataW.weights_mem_each ht hd n ?_)
  simp only [DataW.weights, hfs]
  rw [List.map_map] at hn
  exact hn

end Go.Proofs.Ytijijaobialncaa.S
