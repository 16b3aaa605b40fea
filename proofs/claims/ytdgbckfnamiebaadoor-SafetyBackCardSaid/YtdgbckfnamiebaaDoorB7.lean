/- The number of two is the document's, and the same for both. -/
import Derived.Test.YtdgbckfnamiebaaDoorB6
namespace Go.Proofs.YtdgbckfnamiebaaDoor.S
open Go.RowKit

/-- The number of two groups. -/
def numT (a b : List Nat) : List UInt8 := if ltB (textG b) (textG a) = true then textG b ++ 32 :: textG a else textG a ++ 32 :: textG b
theorem bl_asymm : ∀ a b : List UInt8, Op.bytesLess a b = true → Op.bytesLess b a = false
  | [], [], h => by simp [Op.bytesLess] at h
  | x :: a, [], h => by simp [Op.bytesLess] at h
  | [], y :: b, _ => rfl
  | x :: a, y :: b, h => by
    have ih := bl_asymm a b
    simp only [Op.bytesLess, Bool.or_eq_true, Bool.and_eq_true, decide_eq_true_eq, beq_iff_eq, Bool.or_eq_false_iff, Bool.and_eq_false_iff, decide_eq_false_iff_not, beq_eq_false_iff_ne, ne_eq] at h ⊢
    rcases h with h | ⟨rfl, h⟩
    · exact ⟨fun h' => UInt8.lt_irrefl x (UInt8.lt_trans h h'), .inl (fun e => by subst e; exact UInt8.lt_irrefl _ h)⟩
    · exact ⟨UInt8.lt_irrefl x, .inr (ih h)⟩
theorem bl_total : ∀ a b : List UInt8, Op.bytesLess a b = false → Op.bytesLess b a = false → a = b
  | [], [], _, _ => rfl
  | [], y :: b, h, _ => by simp [Op.bytesLess] at h
  | x :: a, [], _, h => by simp [Op.bytesLess] at h
  | x :: a, y :: b, h, g => by
    simp only [Op.bytesLess, Bool.or_eq_false_iff, Bool.and_eq_false_iff, decide_eq_false_iff_not, beq_eq_false_iff_ne, ne_eq] at h g
    have hxy : x = y := by
      apply UInt8.toNat_inj.1
      have h1 := h.1
      have h2 := g.1
      rw [UInt8.lt_iff_toNat_lt] at h1 h2
      omega
    subst hxy
    rcases h.2 with h2 | h2
    · exact absurd rfl h2
    · rcases g.2 with g2 | g2
      · exact absurd rfl g2
      · rw [bl_total a b h2 g2]
theorem bstr_list (a : List UInt8) : (bstr a).toList = a := by
  rw [ByteArray.toList_eq]; rfl
theorem numT_comm (a b : List Nat) : numT a b = numT b a := by
  unfold numT ltB
  rw [bstr_list, bstr_list]
  by_cases h : Op.bytesLess (textG b) (textG a) = true
  · rw [if_pos h, if_neg (by rw [bl_asymm _ _ h]; decide)]
  · have h' : Op.bytesLess (textG b) (textG a) = false := by simpa using h
    rw [if_neg h]
    by_cases g : Op.bytesLess (textG a) (textG b) = true
    · rw [if_pos g]
    · have g' : Op.bytesLess (textG a) (textG b) = false := by simpa using g
      rw [if_neg g, bl_total _ _ h' g']
theorem wrapN_i64 {m : Nat} (h : m < 9223372036854775808) : IntKind.i64.wrap (m : Int) = m := wrap_i64 _ (by omega) (by omega)
def digsS : List UInt8 := [48, 49, 50, 51, 52, 53, 54, 55, 56, 57]
theorem digs_get : ∀ d, d < 10 → (digsS.drop d).take (d + 1 - d) = [UInt8.ofNat (48 + d)] := by decide
theorem dig5_down (n k : Nat) (h : k < 5) : [UInt8.ofNat (48 + n / 10 ^ k % 10)] ++ (dig5 n).drop (5 - k) = (dig5 n).drop (5 - (k + 1)) := by
  rcases (show k = 0 ∨ k = 1 ∨ k = 2 ∨ k = 3 ∨ k = 4 by omega) with rfl | rfl | rfl | rfl | rfl <;> simp [dig5]
theorem len35 (g : List Nat) (hg : g.length = 6) : (textG g).length = 35 := by
  match g, hg with
  | [a, b, c, d, e, f], _ => rfl

set_option maxRecDepth 100000 in
set_option maxHeartbeats 2000000 in
theorem refText_any (g : List Nat) (w : World) (hg : g.length = 6) (h32 : ∀ x ∈ g, x < 4294967296) : Fn P 9 [.agg (g.map u32V).toArray] w [] (fun v Y => Y = [] ∧ v = .string (bstr (textG g))) := by
  refine Fn.of 38 [.tmp 2] Go.Proofs.Tryd.func9 rfl rfl rfl rfl ?_
  refine T.seq ?_
  refine T.region ?_
  refine TL.cons rfl (T1.boxN (vs := g.map u32V) 6 rfl (by rw [List.length_map]; exact hg) (fun b1 => ?_))
  refine TL.cons rfl (V1.t (V1.assign' (by (conv => lhs; whnf) <;> rfl)) ?_)
  refine TL.nil ?_
  refine T.seq ?_
  refine T.region ?_
  refine TL.cons rfl (V1.t (V1.assign' (v := .string (bstr (textG (g.take 0)))) rfl) ?_)
  refine TL.nil ?_
  refine T.seq ?_
  refine T.seq ?_
  refine T.region ?_
  refine TL.cons rfl (V1.t (V1.assign' (by (conv => lhs; whnf) <;> rfl)) ?_)
  refine TL.nil ?_
  refine T.block ?_
  refine T.loopL (σ := Nat) (l0 := [(1, _)]) (fun x => [(4, .int .i64 (x : Nat)), (3, .string (bstr (textG (g.take x))))]) (fun x L => L = ⟨b1, 0, g.map u32V, 6⟩ :: [] ∧ x ≤ 6) (fun x => 6 - x) 0 (.cons rfl (.cons rfl .nil)) (.cons (by (conv => lhs; whnf) <;> rfl) .nil) (by repeat (first | exact Take.nil | apply Take.one (by repeat (first | exact Pick.here | apply Pick.there | apply Pick.far)) | apply Take.seg (by repeat (first | exact PickS.last | exact PickS.one | exact PickS.here | exact PickS.nil | apply PickS.there | apply PickS.far)) | exact Take.last (by repeat (first | exact PickS.last | exact PickS.one | exact PickS.here | exact PickS.nil | apply PickS.there | apply PickS.far)))) (⟨rfl, Nat.zero_le _⟩) ?_
  rintro i e_ L ⟨rfl, hi⟩
  refine T.seq ?_
  refine T.seq ?_
  refine T.region ?_
  refine TL.cons rfl (V1.t (V1.move' (by (conv => lhs; whnf) <;> rfl)) ?_)
  refine TL.cons rfl (T1.ltI_split rfl rfl (fun h3 => ?_) (fun h3 => ?_))
  ·
    obtain ⟨n, hn⟩ : ∃ n, g[i]? = some n := ⟨_, List.getElem?_eq_getElem (by omega)⟩
    have hn32 := h32 n (List.mem_of_getElem? hn)
    have htl := textG_len (g.take i)
    rw [List.length_take] at htl
    obtain ⟨pre, hpre⟩ : ∃ p, p = if i = 0 then [] else textG (g.take i) ++ [32] := ⟨_, rfl⟩
    have hpl : pre.length ≤ 40 := by rw [hpre]; split <;> simp only [List.length_append, List.length_singleton, List.length_nil] <;> omega
    refine TL.nil ?_
    refine T.cond_t rfl ?_
    refine T.skip ?_
    refine T.seq ?_
    refine T.block ?_
    refine T.seq ?_
    refine T.seq ?_
    refine T.region ?_
    refine TL.cons rfl (V1.t (V1.move' (by (conv => lhs; whnf) <;> rfl)) ?_)
    refine TL.cons rfl (T1.gtI_split rfl rfl (fun h5 => ?_) (fun h5 => ?_))
    ·
      have hpre1 : textG (g.take i) ++ [32] = pre := by rw [hpre, if_neg (by omega)]
      refine TL.nil ?_
      refine T.cond_t rfl ?_
      refine T.region ?_
      refine TL.cons rfl (V1.t (V1.move' (by (conv => lhs; whnf) <;> rfl)) ?_)
      refine TL.cons rfl (V1.t (V1.addB (m := [32]) rfl rfl (by simp only [List.length_singleton]; omega)) ?_)
      rw [hpre1]
      refine TL.cons rfl (V1.t (V1.assign' (by (conv => lhs; whnf) <;> rfl)) ?_)
      refine TL.nil ?_
      refine T.seq ?_
      refine T.region ?_
      refine TL.cons rfl (V1.t (V1.assign' (v := .string (bstr ((dig5 n).drop (5 - 0)))) rfl) ?_)
      refine TL.nil ?_
      refine T.seq ?_
      refine T.region ?_
      refine TL.cons rfl (V1.t (V1.move' (by (conv => lhs; whnf) <;> rfl)) ?_)
      refine TL.cons rfl (V1.t (V1.indexAddrA ty_23 sz_22 rfl rfl (by omega) (by omega)) ?_)
      refine TL.cons rfl (V1.t (V1.load1 one_22 rfl (show Rd _ _ ⟨b1, 0 + i * 1, none⟩ (u32V n) from by rw [Nat.mul_one]; exact Rd.at (cells := g.map u32V) (by repeat (first | exact Find.here | assumption | apply Find.there | apply Find.far)) (by rw [List.getElem?_map, hn]; rfl))) ?_)
      refine TL.cons rfl (V1.t (V1.conv (c := ((n / 10 ^ 0 : Nat) : Int)) ty_22 ty_3 rfl (by rw [Nat.pow_zero, Nat.div_one]; exact wrap_i64 _ (by omega) (by omega))) ?_)
      refine TL.cons rfl (V1.t (V1.assign' (by (conv => lhs; whnf) <;> rfl)) ?_)
      refine TL.nil ?_
      refine T.seq ?_
      refine T.seq ?_
      refine T.region ?_
      refine TL.cons rfl (V1.t (V1.assign' (by (conv => lhs; whnf) <;> rfl)) ?_)
      refine TL.nil ?_
      refine T.block ?_
      refine T.loopL (σ := Nat) (l0 := [(1, _), (3, _), (4, _)]) (fun x => [(7, .int .i64 (x : Nat)), (5, .string (bstr ((dig5 n).drop (5 - x)))), (6, .int .i64 (n / 10 ^ x : Nat))]) (fun x L => L = ⟨b1, 0, g.map u32V, 6⟩ :: [] ∧ x ≤ 5) (fun x => 5 - x) 0 (.cons rfl (.cons rfl (.cons rfl .nil))) (.cons (by (conv => lhs; whnf) <;> rfl) (.cons (by (conv => lhs; whnf) <;> rfl) (.cons (by (conv => lhs; whnf) <;> rfl) .nil))) (by repeat (first | exact Take.nil | apply Take.one (by repeat (first | exact Pick.here | apply Pick.there | apply Pick.far)) | apply Take.seg (by repeat (first | exact PickS.last | exact PickS.one | exact PickS.here | exact PickS.nil | apply PickS.there | apply PickS.far)) | exact Take.last (by repeat (first | exact PickS.last | exact PickS.one | exact PickS.here | exact PickS.nil | apply PickS.there | apply PickS.far)))) (⟨rfl, Nat.zero_le _⟩) ?_
      rintro k e_ L ⟨rfl, hk⟩
      refine T.seq ?_
      refine T.seq ?_
      refine T.region ?_
      refine TL.cons rfl (V1.t (V1.move' (by (conv => lhs; whnf) <;> rfl)) ?_)
      refine TL.cons rfl (T1.ltI_split rfl rfl (fun h10 => ?_) (fun h10 => ?_))
      ·
        have hq : n / 10 ^ k % 10 < 10 := Nat.mod_lt _ (by decide)
        have hdq := Nat.div_le_self n (10 ^ k)
        have hdl : ((dig5 n).drop (5 - k)).length ≤ 5 := by rw [List.length_drop]; show 5 - (5 - k) ≤ 5; omega
        obtain ⟨d, hd⟩ : ∃ z, z = n / 10 ^ k % 10 := ⟨_, rfl⟩
        obtain ⟨m, hm⟩ : ∃ z, z = n / 10 ^ k := ⟨_, rfl⟩
        rw [← hd] at hq
        rw [← hm] at hdq hd ⊢
        refine TL.nil ?_
        refine T.cond_t rfl ?_
        refine T.skip ?_
        refine T.seq ?_
        refine T.block ?_
        refine T.seq ?_
        refine T.region ?_
        refine TL.cons rfl (V1.t (V1.move' (by (conv => lhs; whnf) <;> rfl)) ?_)
        refine TL.cons rfl (V1.t (V1.rem (c := ((d : Nat) : Int)) rfl rfl (by decide) (by rw [hd]; exact tmodM _ 10)) ?_)
        refine TL.cons rfl (V1.t (V1.move' (by (conv => lhs; whnf) <;> rfl)) ?_)
        refine TL.cons rfl (V1.t (V1.rem (c := ((d : Nat) : Int)) rfl rfl (by decide) (by rw [hd]; exact tmodM _ 10)) ?_)
        refine TL.cons rfl (V1.t (V1.add (c := ((d + 1 : Nat) : Int)) rfl rfl (by rw [wrap_i64 _ (by omega) (by omega)]; omega)) ?_)
        refine TL.cons rfl (V1.t (V1.sliceB (s := digsS) d (d + 1) ty_9 rfl rfl rfl (by omega) (by show _ ≤ 10; omega)) ?_)
        rw [digs_get d hq]
        refine TL.cons rfl (V1.t (V1.move' (by (conv => lhs; whnf) <;> rfl)) ?_)
        refine TL.cons rfl (V1.t (V1.addB rfl rfl (by simp only [List.length_singleton]; omega)) ?_)
        refine TL.cons rfl (V1.t (V1.assign' (by (conv => lhs; whnf) <;> rfl)) ?_)
        refine TL.nil ?_
        refine T.region ?_
        refine TL.cons rfl (V1.t (V1.move' (by (conv => lhs; whnf) <;> rfl)) ?_)
        refine TL.cons rfl (V1.t (V1.quo (c := ((n / 10 ^ (k + 1) : Nat) : Int)) rfl rfl (by decide) (by rw [show ((m : Int).tdiv 10) = ((m / 10 : Nat) : Int) from tquoM _ 10, hm, Nat.div_div_eq_div_mul, ← Nat.pow_succ]; exact wrapN_i64 (Nat.lt_of_le_of_lt (Nat.div_le_self _ _) (by omega)))) ?_)
        refine TL.cons rfl (V1.t (V1.assign' (by (conv => lhs; whnf) <;> rfl)) ?_)
        refine TL.nil ?_
        refine T.region ?_
        refine TL.cons rfl (V1.t (V1.move' (by (conv => lhs; whnf) <;> rfl)) ?_)
        refine TL.cons rfl (V1.t (V1.add rfl rfl (wrap_i64 _ (by omega) (by omega))) ?_)
        refine TL.cons rfl (V1.t (V1.assign' (by (conv => lhs; whnf) <;> rfl)) ?_)
        refine TL.nil ?_
        exact ⟨k + 1, _, _, (by simp only; omega), (.cons rfl (.cons (congrArg (fun q => Value.string (bstr q)) (by rw [hd, hm]; exact dig5_down n k (by omega))) (.cons rfl .nil))), (.cons rfl (.cons rfl (.cons rfl .nil))), (by repeat (first | exact Take.nil | apply Take.one (by repeat (first | exact Pick.here | apply Pick.there | apply Pick.far)) | apply Take.seg (by repeat (first | exact PickS.last | exact PickS.one | exact PickS.here | exact PickS.nil | apply PickS.there | apply PickS.far)) | exact Take.last (by repeat (first | exact PickS.last | exact PickS.one | exact PickS.here | exact PickS.nil | apply PickS.there | apply PickS.far)))), ⟨rfl, by omega⟩⟩
      ·
        obtain rfl : k = 5 := by omega
        refine TL.nil ?_
        refine T.cond_f rfl ?_
        refine T.exit ?_
        refine T.region ?_
        refine TL.cons rfl (V1.t (V1.move' (by (conv => lhs; whnf) <;> rfl)) ?_)
        refine TL.cons rfl (V1.t (V1.move' (by (conv => lhs; whnf) <;> rfl)) ?_)
        refine TL.cons rfl (V1.t (V1.addB rfl rfl (by show pre.length + 5 < _; omega)) ?_)
        refine TL.cons rfl (V1.t (V1.assign' (by (conv => lhs; whnf) <;> rfl)) ?_)
        refine TL.nil ?_
        refine T.region ?_
        refine TL.cons rfl (V1.t (V1.move' (by (conv => lhs; whnf) <;> rfl)) ?_)
        refine TL.cons rfl (V1.t (V1.add rfl rfl (wrap_i64 _ (by omega) (by omega))) ?_)
        refine TL.cons rfl (V1.t (V1.assign' (by (conv => lhs; whnf) <;> rfl)) ?_)
        refine TL.nil ?_
        exact ⟨i + 1, _, _, (by simp only; omega), (.cons rfl (.cons (congrArg (fun q => Value.string (bstr q)) (by rw [textG_take hn, ← hpre]; rfl)) .nil)), (.cons rfl .nil), (by repeat (first | exact Take.nil | apply Take.one (by repeat (first | exact Pick.here | apply Pick.there | apply Pick.far)) | apply Take.seg (by repeat (first | exact PickS.last | exact PickS.one | exact PickS.here | exact PickS.nil | apply PickS.there | apply PickS.far)) | exact Take.last (by repeat (first | exact PickS.last | exact PickS.one | exact PickS.here | exact PickS.nil | apply PickS.there | apply PickS.far)))), ⟨rfl, by omega⟩⟩
    ·
      have hi0 : i = 0 := by omega
      have hpre1 : textG (g.take i) = pre := by rw [hpre, if_pos hi0, hi0]; rfl
      rw [hpre1]
      refine TL.nil ?_
      refine T.cond_f rfl ?_
      refine T.skip ?_
      refine T.seq ?_
      refine T.region ?_
      refine TL.cons rfl (V1.t (V1.assign' (v := .string (bstr ((dig5 n).drop (5 - 0)))) rfl) ?_)
      refine TL.nil ?_
      refine T.seq ?_
      refine T.region ?_
      refine TL.cons rfl (V1.t (V1.move' (by (conv => lhs; whnf) <;> rfl)) ?_)
      refine TL.cons rfl (V1.t (V1.indexAddrA ty_23 sz_22 rfl rfl (by omega) (by omega)) ?_)
      refine TL.cons rfl (V1.t (V1.load1 one_22 rfl (show Rd _ _ ⟨b1, 0 + i * 1, none⟩ (u32V n) from by rw [Nat.mul_one]; exact Rd.at (cells := g.map u32V) (by repeat (first | exact Find.here | assumption | apply Find.there | apply Find.far)) (by rw [List.getElem?_map, hn]; rfl))) ?_)
      refine TL.cons rfl (V1.t (V1.conv (c := ((n / 10 ^ 0 : Nat) : Int)) ty_22 ty_3 rfl (by rw [Nat.pow_zero, Nat.div_one]; exact wrap_i64 _ (by omega) (by omega))) ?_)
      refine TL.cons rfl (V1.t (V1.assign' (by (conv => lhs; whnf) <;> rfl)) ?_)
      refine TL.nil ?_
      refine T.seq ?_
      refine T.seq ?_
      refine T.region ?_
      refine TL.cons rfl (V1.t (V1.assign' (by (conv => lhs; whnf) <;> rfl)) ?_)
      refine TL.nil ?_
      refine T.block ?_
      refine T.loopL (σ := Nat) (l0 := [(1, _), (3, _), (4, _)]) (fun x => [(7, .int .i64 (x : Nat)), (5, .string (bstr ((dig5 n).drop (5 - x)))), (6, .int .i64 (n / 10 ^ x : Nat))]) (fun x L => L = ⟨b1, 0, g.map u32V, 6⟩ :: [] ∧ x ≤ 5) (fun x => 5 - x) 0 (.cons rfl (.cons rfl (.cons rfl .nil))) (.cons (by (conv => lhs; whnf) <;> rfl) (.cons (by (conv => lhs; whnf) <;> rfl) (.cons (by (conv => lhs; whnf) <;> rfl) .nil))) (by repeat (first | exact Take.nil | apply Take.one (by repeat (first | exact Pick.here | apply Pick.there | apply Pick.far)) | apply Take.seg (by repeat (first | exact PickS.last | exact PickS.one | exact PickS.here | exact PickS.nil | apply PickS.there | apply PickS.far)) | exact Take.last (by repeat (first | exact PickS.last | exact PickS.one | exact PickS.here | exact PickS.nil | apply PickS.there | apply PickS.far)))) (⟨rfl, Nat.zero_le _⟩) ?_
      rintro k e_ L ⟨rfl, hk⟩
      refine T.seq ?_
      refine T.seq ?_
      refine T.region ?_
      refine TL.cons rfl (V1.t (V1.move' (by (conv => lhs; whnf) <;> rfl)) ?_)
      refine TL.cons rfl (T1.ltI_split rfl rfl (fun h10 => ?_) (fun h10 => ?_))
      ·
        have hq : n / 10 ^ k % 10 < 10 := Nat.mod_lt _ (by decide)
        have hdq := Nat.div_le_self n (10 ^ k)
        have hdl : ((dig5 n).drop (5 - k)).length ≤ 5 := by rw [List.length_drop]; show 5 - (5 - k) ≤ 5; omega
        obtain ⟨d, hd⟩ : ∃ z, z = n / 10 ^ k % 10 := ⟨_, rfl⟩
        obtain ⟨m, hm⟩ : ∃ z, z = n / 10 ^ k := ⟨_, rfl⟩
        rw [← hd] at hq
        rw [← hm] at hdq hd ⊢
        refine TL.nil ?_
        refine T.cond_t rfl ?_
        refine T.skip ?_
        refine T.seq ?_
        refine T.block ?_
        refine T.seq ?_
        refine T.region ?_
        refine TL.cons rfl (V1.t (V1.move' (by (conv => lhs; whnf) <;> rfl)) ?_)
        refine TL.cons rfl (V1.t (V1.rem (c := ((d : Nat) : Int)) rfl rfl (by decide) (by rw [hd]; exact tmodM _ 10)) ?_)
        refine TL.cons rfl (V1.t (V1.move' (by (conv => lhs; whnf) <;> rfl)) ?_)
        refine TL.cons rfl (V1.t (V1.rem (c := ((d : Nat) : Int)) rfl rfl (by decide) (by rw [hd]; exact tmodM _ 10)) ?_)
        refine TL.cons rfl (V1.t (V1.add (c := ((d + 1 : Nat) : Int)) rfl rfl (by rw [wrap_i64 _ (by omega) (by omega)]; omega)) ?_)
        refine TL.cons rfl (V1.t (V1.sliceB (s := digsS) d (d + 1) ty_9 rfl rfl rfl (by omega) (by show _ ≤ 10; omega)) ?_)
        rw [digs_get d hq]
        refine TL.cons rfl (V1.t (V1.move' (by (conv => lhs; whnf) <;> rfl)) ?_)
        refine TL.cons rfl (V1.t (V1.addB rfl rfl (by simp only [List.length_singleton]; omega)) ?_)
        refine TL.cons rfl (V1.t (V1.assign' (by (conv => lhs; whnf) <;> rfl)) ?_)
        refine TL.nil ?_
        refine T.region ?_
        refine TL.cons rfl (V1.t (V1.move' (by (conv => lhs; whnf) <;> rfl)) ?_)
        refine TL.cons rfl (V1.t (V1.quo (c := ((n / 10 ^ (k + 1) : Nat) : Int)) rfl rfl (by decide) (by rw [show ((m : Int).tdiv 10) = ((m / 10 : Nat) : Int) from tquoM _ 10, hm, Nat.div_div_eq_div_mul, ← Nat.pow_succ]; exact wrapN_i64 (Nat.lt_of_le_of_lt (Nat.div_le_self _ _) (by omega)))) ?_)
        refine TL.cons rfl (V1.t (V1.assign' (by (conv => lhs; whnf) <;> rfl)) ?_)
        refine TL.nil ?_
        refine T.region ?_
        refine TL.cons rfl (V1.t (V1.move' (by (conv => lhs; whnf) <;> rfl)) ?_)
        refine TL.cons rfl (V1.t (V1.add rfl rfl (wrap_i64 _ (by omega) (by omega))) ?_)
        refine TL.cons rfl (V1.t (V1.assign' (by (conv => lhs; whnf) <;> rfl)) ?_)
        refine TL.nil ?_
        exact ⟨k + 1, _, _, (by simp only; omega), (.cons rfl (.cons (congrArg (fun q => Value.string (bstr q)) (by rw [hd, hm]; exact dig5_down n k (by omega))) (.cons rfl .nil))), (.cons rfl (.cons rfl (.cons rfl .nil))), (by repeat (first | exact Take.nil | apply Take.one (by repeat (first | exact Pick.here | apply Pick.there | apply Pick.far)) | apply Take.seg (by repeat (first | exact PickS.last | exact PickS.one | exact PickS.here | exact PickS.nil | apply PickS.there | apply PickS.far)) | exact Take.last (by repeat (first | exact PickS.last | exact PickS.one | exact PickS.here | exact PickS.nil | apply PickS.there | apply PickS.far)))), ⟨rfl, by omega⟩⟩
      ·
        obtain rfl : k = 5 := by omega
        refine TL.nil ?_
        refine T.cond_f rfl ?_
        refine T.exit ?_
        refine T.region ?_
        refine TL.cons rfl (V1.t (V1.move' (by (conv => lhs; whnf) <;> rfl)) ?_)
        refine TL.cons rfl (V1.t (V1.move' (by (conv => lhs; whnf) <;> rfl)) ?_)
        refine TL.cons rfl (V1.t (V1.addB rfl rfl (by show pre.length + 5 < _; omega)) ?_)
        refine TL.cons rfl (V1.t (V1.assign' (by (conv => lhs; whnf) <;> rfl)) ?_)
        refine TL.nil ?_
        refine T.region ?_
        refine TL.cons rfl (V1.t (V1.move' (by (conv => lhs; whnf) <;> rfl)) ?_)
        refine TL.cons rfl (V1.t (V1.add rfl rfl (wrap_i64 _ (by omega) (by omega))) ?_)
        refine TL.cons rfl (V1.t (V1.assign' (by (conv => lhs; whnf) <;> rfl)) ?_)
        refine TL.nil ?_
        exact ⟨i + 1, _, _, (by simp only; omega), (.cons rfl (.cons (congrArg (fun q => Value.string (bstr q)) (by rw [textG_take hn, ← hpre]; rfl)) .nil)), (.cons rfl .nil), (by repeat (first | exact Take.nil | apply Take.one (by repeat (first | exact Pick.here | apply Pick.there | apply Pick.far)) | apply Take.seg (by repeat (first | exact PickS.last | exact PickS.one | exact PickS.here | exact PickS.nil | apply PickS.there | apply PickS.far)) | exact Take.last (by repeat (first | exact PickS.last | exact PickS.one | exact PickS.here | exact PickS.nil | apply PickS.there | apply PickS.far)))), ⟨rfl, by omega⟩⟩
  ·
    obtain rfl : i = 6 := by omega
    rw [List.take_of_length_le (by omega)]
    refine TL.nil ?_
    refine T.cond_f rfl ?_
    refine T.exit ?_
    refine T.seq ?_
    refine T.region ?_
    refine TL.cons rfl (V1.t (V1.move' (by (conv => lhs; whnf) <;> rfl)) ?_)
    refine TL.cons rfl (V1.t (V1.assign' (by (conv => lhs; whnf) <;> rfl)) ?_)
    refine TL.nil ?_
    refine T.ret ?_
    exact ⟨_, [], _, .cons (.tmp (by (conv => lhs; whnf) <;> rfl)) .nil, Take.nil, rfl, rfl⟩

end Go.Proofs.YtdgbckfnamiebaaDoor.S
