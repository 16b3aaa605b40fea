/- Frames as lists of bytes: what is written is read again, and the other way round. Plain laws, with no program in sight. -/
import Derived.Test.YtijijaobialncaaFrC
namespace Go.Proofs.Ytijijaobialncaa.S

theorem rd32_be32 {n : Nat} (h : n < 4294967296) (r : List UInt8) : rd32 (be32 n ++ r) 0 = n := by
  simp only [be32, rd32, List.cons_append, List.nil_append, List.getD_cons_zero, List.getD_cons_succ, Nat.zero_add, UInt8.toNat_ofNat']
  omega
theorem be32_len (n : Nat) : (be32 n).length = 4 := rfl
theorem be32_rd32 {l : List UInt8} (h : 4 ≤ l.length) : be32 (rd32 l 0) = l.take 4 := by
  match l, h with
  | c0 :: c1 :: c2 :: c3 :: r, _ =>
    have u0 := u8_lt c0
    have u1 := u8_lt c1
    have u2 := u8_lt c2
    have u3 := u8_lt c3
    have e : rd32 (c0 :: c1 :: c2 :: c3 :: r) 0 = c0.toNat * 16777216 + c1.toNat * 65536 + c2.toNat * 256 + c3.toNat := rfl
    rw [e]
    generalize hm : c0.toNat * 16777216 + c1.toNat * 65536 + c2.toNat * 256 + c3.toNat = m
    have key : ∀ (c : UInt8) (q : Nat), q % 256 = c.toNat → UInt8.ofNat q = c := by
      intro c q hq
      apply UInt8.toNat_inj.1
      rw [UInt8.toNat_ofNat']; exact hq
    simp only [be32, List.take_succ_cons, List.take_zero]
    rw [key c0 (m / 16777216) (by omega), key c1 (m / 65536) (by omega), key c2 (m / 256) (by omega), key c3 m (by omega)]

theorem chunks_of {k : Nat} {r : List UInt8} : ∀ {xs : List (List UInt8)}, (∀ x ∈ xs, x.length = k) → chunks k xs.length (xs.flatten ++ r) = xs := by
  intro xs h
  apply List.ext_getElem?
  intro i
  unfold chunks
  rw [List.getElem?_map]
  by_cases hi : i < xs.length
  · rw [List.getElem?_range hi]
    show some _ = _
    rw [List.getElem?_eq_getElem hi]
    congr 1
    have := flatten_drop xs i h xs[i] (List.getElem?_eq_getElem hi)
    show List.take k (List.drop (k * i) (xs.flatten ++ r)) = _
    rw [Nat.mul_comm k i]
    have hlen := flat_len xs h
    have hle : i * k + k ≤ xs.length * k := by rw [← Nat.succ_mul]; exact Nat.mul_le_mul_right _ hi
    rw [List.drop_append_of_le_length (by omega), List.take_append_of_le_length (by rw [List.length_drop]; omega)]
    exact this
  · rw [List.getElem?_eq_none (by simp; omega), List.getElem?_eq_none (by omega)]; rfl
theorem nums_of {r : List UInt8} : ∀ {xs : List Nat}, (∀ x ∈ xs, x < 4294967296) → nums32 xs.length (xs.flatMap be32 ++ r) = xs := by
  intro xs h
  have hc := chunks_of (k := 4) (r := r) (xs := xs.map be32) (by intro x hx; obtain ⟨n, _, rfl⟩ := List.mem_map.1 hx; rfl)
  have e : xs.flatMap be32 = (xs.map be32).flatten := by rw [List.flatMap_def]
  rw [← e, List.length_map] at hc
  have : nums32 xs.length (xs.flatMap be32 ++ r) = (chunks 4 xs.length (xs.flatMap be32 ++ r)).map (fun c => rd32 c 0) := by
    unfold nums32 chunks
    rw [List.map_map]
    apply List.map_congr_left
    intro i hi
    have hi' : i < xs.length := by simpa using hi
    show rd32 _ 0 = rd32 (List.take 4 _) 0
    have hlen : 4 ≤ ((xs.flatMap be32 ++ r).drop (4 * i)).length := by rw [List.length_drop, List.length_append, flatMap_be32_len]; omega
    generalize (xs.flatMap be32 ++ r).drop (4 * i) = m at hlen
    match m, hlen with
    | c0 :: c1 :: c2 :: c3 :: q, _ => rfl
  rw [this, hc, List.map_map]
  conv => rhs; rw [← List.map_id xs]
  apply List.map_congr_left
  intro n hn
  have := rd32_be32 (h n hn) []
  rw [List.append_nil] at this
  exact this
section
variable {kind : Int} {keys : List (List UInt8)} {nums : List Nat} {sigs : List (List UInt8)} {data : List UInt8}
/-- When a frame is written, and how. -/
theorem encF_inv {l : List UInt8} (h : encF kind keys nums sigs data = .ok l) : ∃ a b c d, shp kind = some (a, b, c, d) ∧ keys.length = a ∧ nums.length = b ∧ sigs.length = c ∧ (d = true ∨ data = []) ∧ data.length ≤ 16384 ∧
    l = UInt8.ofNat kind.toNat :: (keys.flatten ++ (nums.flatMap be32 ++ (sigs.flatten ++ (if d then be32 data.length ++ data else [])))) := by
  unfold encF at h
  cases hs : shp kind with
  | none => rw [hs] at h; cases h
  | some q =>
    obtain ⟨a, b, c, d⟩ := q
    rw [hs] at h
    simp only at h
    split at h
    · cases h
    · rename_i hn
      split at h
      · cases h
      · rename_i hl
        simp only [not_or, Classical.not_not, not_and, Nat.not_lt] at hn hl
        refine ⟨a, b, c, d, rfl, hn.1, hn.2.1, hn.2.2.1, ?_, by omega, by simpa using h.symm⟩
        cases d with
        | true => exact .inl rfl
        | false => exact .inr (List.eq_nil_of_length_eq_zero (by have := hn.2.2.2 rfl; omega))
end

theorem drop_step {L X R : List UInt8} {p q : Nat} (h : L.drop p = X ++ R) (hq : X.length = q) : L.drop (p + q) = R := by
  rw [← List.drop_drop, h, List.drop_left' hq]
section
variable {kind : Int} {keys : List (List UInt8)} {nums : List Nat} {sigs : List (List UInt8)} {a b c : Nat}
  (hk : ∀ x ∈ keys, x.length = 32) (hn : ∀ x ∈ nums, x < 4294967296) (hs : ∀ x ∈ sigs, x.length = 64) (h1 : keys.length = a) (h2 : nums.length = b) (h3 : sigs.length = c)
theorem shp_back {q : Nat × Nat × Nat × Bool} (h : shp kind = some q) : shp ((UInt8.ofNat kind.toNat).toNat : Nat) = some q ∧ ((UInt8.ofNat kind.toNat).toNat : Nat) = kind := by
  have hr := shp_range h
  have e : ((UInt8.ofNat kind.toNat).toNat : Int) = kind := by rw [UInt8.toNat_ofNat', Nat.mod_eq_of_lt (by omega)]; omega
  rw [e]; exact ⟨h, rfl⟩
include hk hn hs h1 h2 h3
/-- A frame with data: its head, whatever stands behind. -/
theorem decF_full (hshp : shp kind = some (a, b, c, true)) {m : Nat} (hm : m ≤ 16384) (rest : List UInt8) :
    decF (UInt8.ofNat kind.toNat :: (keys.flatten ++ (nums.flatMap be32 ++ (sigs.flatten ++ (be32 m ++ rest))))) =
      (if rest.length < m then .error 111 else if m < rest.length then .error 112 else .ok (kind, keys, nums, sigs, rest)) := by
  subst h1; subst h2; subst h3
  obtain ⟨g1, g2⟩ := shp_back hshp
  have l1 := flat_len keys hk
  have l2 := flatMap_be32_len nums
  have l3 := flat_len sigs hs
  generalize hL : (UInt8.ofNat kind.toNat :: (keys.flatten ++ (nums.flatMap be32 ++ (sigs.flatten ++ (be32 m ++ rest))))) = L
  have d1 : L.drop 1 = keys.flatten ++ (nums.flatMap be32 ++ (sigs.flatten ++ (be32 m ++ rest))) := by rw [← hL]; rfl
  have d2 := drop_step d1 (q := 32 * keys.length) (by omega)
  have d3 := drop_step d2 (q := 4 * nums.length) (by omega)
  have d4 := drop_step d3 (q := 64 * sigs.length) (by omega)
  have d5 := drop_step d4 (q := 4) (be32_len m)
  have hlen : L.length = 1 + 32 * keys.length + 4 * nums.length + 64 * sigs.length + 4 + rest.length := by
    rw [← hL]; simp only [List.length_cons, List.length_append, be32_len, l1, l2, l3]; omega
  rw [decF_data hL.symm g1 (n := m) (by rw [d4, rd32_be32 (by omega)]), d1, d2, d3, d5, chunks_of hk, nums_of hn, chunks_of hs, g2, hlen]
  rw [if_neg (by omega), if_neg (by omega)]
  by_cases e1 : rest.length < m
  · rw [if_pos e1, if_pos (by omega)]
  · rw [if_neg e1, if_neg (by omega)]
    by_cases e2 : m < rest.length
    · rw [if_pos e2, if_pos (by omega)]
    · rw [if_neg e2, if_neg (by omega)]
/-- A frame without data. -/
theorem decF_empty (hshp : shp kind = some (a, b, c, false)) (rest : List UInt8) :
    decF (UInt8.ofNat kind.toNat :: (keys.flatten ++ (nums.flatMap be32 ++ (sigs.flatten ++ rest)))) =
      (if rest = [] then .ok (kind, keys, nums, sigs, []) else .error 112) := by
  subst h1; subst h2; subst h3
  obtain ⟨g1, g2⟩ := shp_back hshp
  have l1 := flat_len keys hk
  have l2 := flatMap_be32_len nums
  have l3 := flat_len sigs hs
  generalize hL : (UInt8.ofNat kind.toNat :: (keys.flatten ++ (nums.flatMap be32 ++ (sigs.flatten ++ rest)))) = L
  have d1 : L.drop 1 = keys.flatten ++ (nums.flatMap be32 ++ (sigs.flatten ++ rest)) := by rw [← hL]; rfl
  have d2 := drop_step d1 (q := 32 * keys.length) (by omega)
  have d3 := drop_step d2 (q := 4 * nums.length) (by omega)
  have hlen : L.length = 1 + 32 * keys.length + 4 * nums.length + 64 * sigs.length + rest.length := by
    rw [← hL]; simp only [List.length_cons, List.length_append, l1, l2, l3]; omega
  rw [decF_bare hL.symm g1, d1, d2, d3, chunks_of hk, nums_of hn, chunks_of hs, g2, hlen]
  rw [if_neg (by omega)]
  cases rest with
  | nil => rw [if_neg (by simp), if_pos rfl]
  | cons x r => rw [if_pos (by simp), if_neg (by simp)]
end
section
variable {kind : Int} {keys : List (List UInt8)} {nums : List Nat} {sigs : List (List UInt8)} {data l : List UInt8}
  (hk : ∀ x ∈ keys, x.length = 32) (hn : ∀ x ∈ nums, x < 4294967296) (hs : ∀ x ∈ sigs, x.length = 64)
include hk hn hs
/-- What is written is read again; not so with anything behind it. -/
theorem dec_enc (h : encF kind keys nums sigs data = .ok l) (more : List UInt8) : decF (l ++ more) = (if more = [] then .ok (kind, keys, nums, sigs, data) else .error 112) := by
  obtain ⟨a, b, c, d, h1, h2, h3, h4, h5, h6, rfl⟩ := encF_inv h
  cases d with
  | true =>
    have := decF_full hk hn hs h2 h3 h4 h1 h6 (data ++ more)
    simp only [if_true, List.cons_append, List.append_assoc] at this ⊢
    rw [this, List.length_append, if_neg (by omega)]
    cases more with
    | nil => rw [if_neg (by simp), if_pos rfl, List.append_nil]
    | cons x r => rw [if_pos (by simp), if_neg (by simp)]
  | false =>
    obtain rfl : data = [] := by rcases h5 with h5 | h5; cases h5; exact h5
    have := decF_empty hk hn hs h2 h3 h4 h1 more
    simp only [Bool.false_eq_true, if_false, List.cons_append, List.append_assoc, List.append_nil] at this ⊢
    exact this
end
end Go.Proofs.Ytijijaobialncaa.S
