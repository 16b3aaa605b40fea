/- The number of two has sixty digits in twelve groups, first the less of both. -/
import Derived.Test.YtdgbckfnamiebaaB7
import Derived.Test.YtdgbckfnamiebaaB5
namespace Go.Proofs.Ytdgbckfnamiebaa.S
open Go.RowKit

open Sh
theorem dig5_digit (n j : Nat) (x : UInt8) (h : (dig5 n)[j]? = some x) : digitB x = true := by
  have hj : j < 5 := (List.getElem?_eq_some_iff.1 h).1
  rw [dig5_get n j hj] at h
  have hd : n / plN j % 10 < 10 := Nat.mod_lt _ (by decide)
  obtain rfl := Option.some.inj h
  unfold digitB
  rw [ofNat_small (by omega)]
  exact decide_eq_true (by omega)
/-- Five digits, then a blank, again and again. -/
def looksB (s : List UInt8) : Prop := ∀ (i : Nat) (x : UInt8), s[i]? = some x → (i % 6 = 5 → x = 32) ∧ (i % 6 ≠ 5 → digitB x = true)
theorem looks_add {n : Nat} {s : List UInt8} (h : looksB s) : looksB (dig5 n ++ 32 :: s) := by
  intro i x hx
  rcases Nat.lt_or_ge i 5 with h5 | h5
  · rw [List.getElem?_append_left (by exact h5)] at hx
    exact ⟨fun h' => by omega, fun _ => dig5_digit n i x hx⟩
  · rw [List.getElem?_append_right (by exact h5)] at hx
    have e5 : (dig5 n).length = 5 := rfl
    rw [e5] at hx
    rcases Nat.lt_or_ge i 6 with h6 | h6
    · obtain rfl : i = 5 := by omega
      simp at hx
      exact ⟨fun _ => hx.symm, fun h' => by omega⟩
    · rw [show i - 5 = (i - 6) + 1 from by omega, List.getElem?_cons_succ] at hx
      have := h (i - 6) x hx
      rw [show (i - 6) % 6 = i % 6 from by omega] at this
      exact this
theorem looks_dig5 (n : Nat) : looksB (dig5 n) := fun i x hx => ⟨fun h' => by
    have hj : i < 5 := (List.getElem?_eq_some_iff.1 hx).1
    omega, fun _ => dig5_digit n i x hx⟩
theorem looks_text : ∀ g : List Nat, looksB (textG g)
  | [] => fun i x hx => by simp [textG] at hx
  | [n] => looks_dig5 n
  | n :: m :: l => looks_add (looks_text (m :: l))
theorem looks_both {p q : List UInt8} (hp : looksB p) (hq : looksB q) (hl : p.length = 35) : looksB (p ++ 32 :: q) := by
  intro i x hx
  rcases Nat.lt_or_ge i 35 with h5 | h5
  · rw [List.getElem?_append_left (by omega)] at hx
    exact hp i x hx
  · rw [List.getElem?_append_right (by omega), hl] at hx
    rcases Nat.lt_or_ge i 36 with h6 | h6
    · obtain rfl : i = 35 := by omega
      simp at hx
      exact ⟨fun _ => hx.symm, fun h' => by omega⟩
    · rw [show i - 35 = (i - 36) + 1 from by omega, List.getElem?_cons_succ] at hx
      have := hq (i - 36) x hx
      rw [show (i - 36) % 6 = i % 6 from by omega] at this
      exact this
/-- What has just been made of two groups. -/
theorem numT_looks (a b : List Nat) (ha : a.length = 6) (hb : b.length = 6) : ∃ p q : List UInt8, numT a b = p ++ 32 :: q ∧ p.length = 35 ∧ q.length = 35 ∧ Op.bytesLess q p = false ∧ looksB (numT a b) := by
  have hla := len35 a ha
  have hlb := len35 b hb
  unfold numT ltB
  rw [bstr_list, bstr_list]
  by_cases h : Op.bytesLess (textG b) (textG a) = true
  · rw [if_pos h]
    exact ⟨_, _, rfl, hlb, hla, bl_asymm _ _ h, looks_both (looks_text b) (looks_text a) hlb⟩
  · rw [if_neg h]
    exact ⟨_, _, rfl, hla, hlb, by simpa using h, looks_both (looks_text a) (looks_text b) hla⟩
theorem rd_fst {C : Ctx} {L : List Blk} {b : Nat} {k0 k1 : List UInt8} (h0 : k0.length = 32) (hf : Find L ⟨b, 0, (k0 ++ k1).map byteV, 64⟩) : RdN C L ⟨b, 0 + 0 * 32, none⟩ (k0.map byteV) := by
  have h := RdN.mid (C := C) (o := 0 + 0 * 32) (k := 32) hf
  rwa [List.drop_zero, List.map_append, List.take_left' (by rw [List.length_map]; exact h0)] at h
theorem rd_snd {C : Ctx} {L : List Blk} {b : Nat} {k0 k1 : List UInt8} (h0 : k0.length = 32) (h1 : k1.length = 32) (hf : Find L ⟨b, 0, (k0 ++ k1).map byteV, 64⟩) : RdN C L ⟨b, 0 + 1 * 32, none⟩ (k1.map byteV) := by
  have h := RdN.mid (C := C) (o := 0 + 1 * 32) (k := 32) hf
  rwa [List.map_append, List.drop_left' (by rw [List.length_map]; exact h0), List.take_of_length_le (by rw [List.length_map]; omega)] at h
def bareS (l : List UInt8) : List UInt8 := l.filter fun x => !(x == 32)
theorem bare_take {l : List UInt8} {i : Nat} {x : UInt8} (h : l[i]? = some x) : bareS (l.take (i + 1)) = bareS (l.take i) ++ if x = 32 then [] else [x] := by
  unfold bareS
  rw [List.take_add_one, h, List.filter_append]
  congr 1
  by_cases hx : x = 32
  · subst hx; rfl
  · rw [if_neg hx]; simp [hx]
theorem bare_len (l : List UInt8) : (bareS l).length ≤ l.length := List.length_filter_le _ _
theorem flt_bare (l : List UInt8) : flt (bareS l) = flt l := by
  unfold flt bareS
  rw [List.filter_filter]
  congr 1
  funext x
  by_cases hx : x = 32
  · subst hx; rfl
  · simp [hx]
theorem flt_more (l : List UInt8) : flt l ≠ flt (bareS l ++ [48]) := by
  intro h
  have h1 : flt (bareS l ++ [48]) = flt (bareS l) ++ [48] := by
    unfold flt
    rw [List.filter_append]; rfl
  rw [h1, flt_bare] at h
  have := congrArg List.length h
  rw [List.length_append, List.length_singleton] at this
  omega
theorem one_at {l : List UInt8} {i : Nat} {x : UInt8} (h : l[i]? = some x) : (l.drop i).take (i + 1 - i) = [x] := by
  have hi := (List.getElem?_eq_some_iff.1 h).1
  have hx : l[i] = x := (List.getElem?_eq_some_iff.1 h).2
  rw [show i + 1 - i = 1 from by omega, List.drop_eq_getElem_cons hi, hx]; rfl
theorem ofG_small (h : List UInt8) : ∀ x ∈ ofG h, x < 4294967296 := by
  intro x hx
  unfold ofG at hx
  obtain ⟨i, _, rfl⟩ := List.mem_map.1 hx
  have : be ((h.drop (5 * i)).take 5) % 100000 < 100000 := Nat.mod_lt _ (by decide)
  omega
theorem KeysR.one {w0 : World} {Ps : List Blk} {b c : Nat} {k : List UInt8} (hB : (⟨b, 0, k.map byteV, 32⟩ : Blk) ∈ Ps) (hk : k.length = 32) : KeysR w0 Ps (.slice (some ⟨b, 0, none⟩) 1 c) [k] :=
  ⟨⟨_, _, rfl⟩, fun q hq => by obtain rfl := List.mem_singleton.1 hq; exact hk, fun C _ _ L hL => .sl (by rw [List.flatten_cons, List.flatten_nil, List.append_nil]; exact RdN.at0 (Find.of_mem (hL _ hB))) (by simp [hk])⟩

end Go.Proofs.Ytdgbckfnamiebaa.S
