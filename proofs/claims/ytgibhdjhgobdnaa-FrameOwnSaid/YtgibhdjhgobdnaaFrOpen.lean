/- A frame that came in, opened. -/
import Derived.Test.YtgibhdjhgobdnaaFr6
import Derived.Test.YtgibhdjhgobdnaaOpen
import Derived.ProofKit
import Derived.SizedLaws
namespace Go.Proofs.Ytgibhdjhgobdnaa.S
open Go.RowKit

open Go.ChangeShapes Go.WideShapes in
theorem open_frame2 {H : Type} {enc : TypeId × Value → H} {W : World} {b0 : Nat} {v : Value} {d : DataW H} {p : List MemPlace} (hv : Value.okWide P W .any b0 27 v) (h : DataW.Trod enc P W 0 (fun _ => true) true 27 v d p) :
    ∃ (kind : Int) (keys : List (List UInt8)) (nums : List Nat) (sigs : List (List UInt8)) (data : List UInt8), FrIs W v kind keys nums sigs data ∧ ∃ xs y, d = .agg xs ∧ xs[4]? = some y ∧ ((y = .nil ∧ data = []) ∨ ∃ ds sp, y = .slice ds sp ∧ ds.length = data.length) := by
  obtain ⟨cs, rfl, hlen, hok⟩ := okW_struct (l := [(3, 0), (22, 1), (23, 2), (24, 3), (25, 4)]) (ts := [3, 22, 23, 24, 25]) (by kernel_rfl) (by kernel_rfl) hv
  obtain ⟨fuel, h⟩ := h
  replace h : DataW.trod enc P W 0 (fun _ => true) true fuel 27 cs = some (d, p) := h
  obtain ⟨xs, hdx, hxl, _, hf⟩ := rd_struct (l := [(3, 0), (22, 1), (23, 2), (24, 3), (25, 4)]) (by kernel_rfl) ⟨fuel, p, h⟩
  rw [ce_27] at hlen
  match cs, hlen with
  | [c0, c1, c2, c3, c4], _ =>
    obtain ⟨y0, _, t0⟩ := hf 0 _ rfl
    obtain ⟨y1, _, t1⟩ := hf 1 _ rfl
    obtain ⟨y2, _, t2⟩ := hf 2 _ rfl
    obtain ⟨y3, _, t3⟩ := hf 3 _ rfl
    obtain ⟨y4, hy4, t4⟩ := hf 4 _ rfl
    rw [ce_3] at t0
    rw [ce_22] at t1
    rw [ce_23] at t2
    rw [ce_24] at t3
    rw [ce_25] at t4
    obtain ⟨ty1, e1, k1⟩ := hok 1 c1 rfl
    obtain ⟨ty2, e2, k2⟩ := hok 2 c2 rfl
    obtain ⟨ty3, e3, k3⟩ := hok 3 c3 rfl
    obtain ⟨ty4, e4, k4⟩ := hok 4 c4 rfl
    obtain rfl : 22 = ty1 := Option.some.inj e1
    obtain rfl : 23 = ty2 := Option.some.inj e2
    obtain rfl : 24 = ty3 := Option.some.inj e3
    obtain rfl : 25 = ty4 := Option.some.inj e4
    obtain ⟨kind, h0, _, _⟩ := rd_int ty_3 t0
    obtain rfl : c0 = .int .i64 kind := by simpa using h0
    obtain ⟨keys, m1, hk, sk⟩ := rd_arrs ty_22 ty_54 ty_5 ce_5 ce_54 k1 t1
    obtain ⟨nums, m2, hn, sn⟩ := rd_u32s ty_23 ty_55 ce_55 k2 t2
    obtain ⟨sigs, m3, hs, ss⟩ := rd_arrs ty_24 ty_60 ty_5 ce_5 ce_60 k3 t3
    obtain ⟨data, m4, sd, hd4⟩ := rd_bytes ty_25 ty_5 ce_5 k4 t4
    unfold maxLen at m1 m2 m3 m4
    exact ⟨kind, keys, nums, sigs, data, ⟨⟨c1, c2, c3, c4, rfl, sk, sn, ss, sd⟩, hk, hn, hs, by omega⟩, xs, y4, hdx, hy4, hd4⟩
open Go.ChangeShapes Go.WideShapes in
theorem open_frame {H : Type} {enc : TypeId × Value → H} {W : World} {b0 : Nat} {v : Value} {d : DataW H} {p : List MemPlace} (hv : Value.okWide P W .any b0 27 v) (h : DataW.Trod enc P W 0 (fun _ => true) true 27 v d p) :
    ∃ (kind : Int) (keys : List (List UInt8)) (nums : List Nat) (sigs : List (List UInt8)) (data : List UInt8), FrIs W v kind keys nums sigs data := by
  obtain ⟨a, b, c, d, e, h, _⟩ := open_frame2 hv h
  exact ⟨a, b, c, d, e, h⟩
theorem sized_struct {H : Type} {P : Program} {ts : List TypeId} {ds xs : List (DataW H)} {t : TypeId} {l : List (TypeId × Nat)} (hs : structIs P t l = true) (h : (DataW.weightsEach P ts ds).all (· ≤ reachBytes) = true) {j : Nat} (ht : ts[j]? = some t) (hd : ds[j]? = some (.agg xs)) :
    (DataW.weightsEach P (l.map (·.1)) xs).all (· ≤ reachBytes) = true := by
  obtain ⟨fs, hfs, rfl⟩ := structIs_spec hs
  rw [List.all_eq_true]
  intro n hn
  refine List.all_eq_true.1 h n (DataW.weights_mem_each ht hd n ?_)
  simp only [DataW.weights, hfs]
  rw [List.map_map] at hn
  exact hn

end Go.Proofs.Ytgibhdjhgobdnaa.S
