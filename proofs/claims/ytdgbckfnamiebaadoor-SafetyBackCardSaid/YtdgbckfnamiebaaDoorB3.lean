/- Groups as a text; what every statement asks first. -/
import Derived.Test.YtdgbckfnamiebaaDoorB2
namespace Go.Proofs.YtdgbckfnamiebaaDoor.S
open Go.RowKit

/-- The places of five digits. -/
def plN (j : Nat) : Nat := 10000 / 10 ^ j
theorem plN_pos : ∀ j, j ≤ 5 → (0 < plN j ↔ j < 5) := by decide
theorem plN_next : ∀ j, j < 5 → plN (j + 1) = plN j / 10 := by decide
theorem plN_le : ∀ j, j ≤ 5 → plN j ≤ 10000 := by decide
theorem dig5_get (n j : Nat) (h : j < 5) : (dig5 n)[j]? = some (UInt8.ofNat (48 + n / plN j % 10)) := by
  rcases (show j = 0 ∨ j = 1 ∨ j = 2 ∨ j = 3 ∨ j = 4 by omega) with rfl | rfl | rfl | rfl | rfl <;> simp [dig5, plN]
theorem ofNat_small {k : Nat} (h : k < 256) : (UInt8.ofNat k).toNat = k := by rw [UInt8.toNat_ofNat']; omega
theorem textG_len : ∀ l : List Nat, (textG l).length ≤ 6 * l.length
  | [] => by simp [textG]
  | [n] => by simp [textG, dig5]
  | n :: m :: l => by
    have := textG_len (m :: l)
    rw [textG, List.length_append, List.length_cons]
    simp only [List.length_cons, dig5, List.length_nil] at this ⊢
    omega
theorem textG_take {g : List Nat} {i n : Nat} (h : g[i]? = some n) : textG (g.take (i + 1)) = (if i = 0 then [] else textG (g.take i) ++ [32]) ++ dig5 n := by
  rw [List.take_add_one, h]
  show textG (g.take i ++ [n]) = _
  by_cases h0 : i = 0
  · subst h0; rfl
  · rw [if_neg h0, textG_snoc _ _ (fun he => by
      have hl := congrArg List.length he
      have := (List.getElem?_eq_some_iff.1 h).1
      rw [List.length_take, List.length_nil] at hl
      omega), List.append_assoc]; rfl
theorem tmodM (m k : Nat) : (m : Int).tmod (k : Int) = ((m % k : Nat) : Int) := (Int.ofNat_tmod m k).symm
theorem tquoM (m k : Nat) : (m : Int).tdiv (k : Int) = ((m / k : Nat) : Int) := (Int.ofNat_tdiv m k).symm
theorem wrapN_u32 {m : Nat} (h : m < 4294967296) : IntKind.u32.wrap (m : Int) = m := wrap_u32 _ (by omega) (by omega)
theorem wrapN_u8 {m : Nat} (h : m < 256) : IntKind.u8.wrap (m : Int) = m := wrap_u8 _ (by omega) (by omega)
theorem add48 {d : Nat} (h : d < 10) : IntKind.u8.wrap (48 + (d : Int)) = ((UInt8.ofNat (48 + d)).toNat : Int) := by rw [ofNat_small (by omega), wrap_u8 _ (by omega) (by omega)]; omega
theorem ones_u32 (g : List Nat) : ∀ u ∈ g.map u32V, one u = true := by intro u hu; obtain ⟨_, _, rfl⟩ := List.mem_map.1 hu; rfl

set_option maxRecDepth 100000 in
set_option maxHeartbeats 2000000 in
theorem groupsString_any (g : List Nat) (w : World) (hg : g.length = 6) (h32 : ∀ x ∈ g, x < 4294967296) : Fn P 8 [.agg (g.map u32V).toArray] w [] (fun v Y => Y = [] ∧ v = .string (bstr (textG g))) := by
  refine Fn.of 28 [.tmp 2] Go.Proofs.Tryd.func8 rfl rfl rfl rfl ?_
  refine T.seq ?_
  refine T.region ?_
  refine TL.cons rfl (T1.boxN (vs := g.map u32V) 6 rfl (by rw [List.length_map]; exact hg) (fun b1 => ?_))
  refine TL.cons rfl (V1.t (V1.assign' (by (conv => lhs; whnf) <;> rfl)) ?_)
  refine TL.nil ?_
  refine T.seq ?_
  refine T.region ?_
  refine TL.cons rfl (T1.allocT 2 zr_42 rfl (fun b3 => ?_))
  have hst := BB.new b3
  refine TL.nil ?_
  refine T.seq ?_
  refine T.seq ?_
  refine T.region ?_
  refine TL.cons rfl (V1.t (V1.loadN (vs := g.map u32V) one_24 sz_24 rfl (RdN.whole (by repeat (first | exact Find.here | assumption | apply Find.there | apply Find.far))) (by rw [List.length_map]; exact hg)) ?_)
  refine TL.cons rfl (V1.t (V1.move' (by (conv => lhs; whnf) <;> rfl)) ?_)
  refine TL.nil ?_
  refine T.block ?_
  refine T.loopL (σ := Nat × List Blk) (l0 := [(3, _), (7, _)]) (fun x => [(8, .int .i64 (x.1 : Nat))]) (fun x L => L = x.2 ++ [] ∧ BB b3 (textG (g.take x.1)) x.2 ∧ x.1 ≤ 6) (fun x => 6 - x.1) (0, ([⟨⟨b3, some 42⟩, 0, [.pointer none, .slice none 0 0], 2⟩] : List Blk)) (.cons rfl .nil) (.cons (by (conv => lhs; whnf) <;> rfl) (.cons (by (conv => lhs; whnf) <;> rfl) .nil)) (by repeat (first | exact Take.nil | apply Take.one (by repeat (first | exact Pick.here | apply Pick.there | apply Pick.far)) | apply Take.seg (by repeat (first | exact PickS.last | exact PickS.one | exact PickS.here | exact PickS.nil | apply PickS.there | apply PickS.far)) | exact Take.last (by repeat (first | exact PickS.last | exact PickS.one | exact PickS.here | exact PickS.nil | apply PickS.there | apply PickS.far)))) (⟨(rfl : ([⟨⟨b3, some 42⟩, 0, [.pointer none, .slice none 0 0], 2⟩] : List Blk) ++ [] = _), hst, Nat.zero_le _⟩) ?_
  rintro ⟨i, X⟩ e_ L ⟨rfl, hb, hi⟩
  simp only at hb hi
  refine T.seq ?_
  refine T.region ?_
  refine TL.cons rfl (T1.ltI_split rfl rfl (fun h3_0 => ?_) (fun h3_0 => ?_))
  ·
    obtain ⟨n, hn⟩ : ∃ n, g[i]? = some n := ⟨_, List.getElem?_eq_getElem (by omega)⟩
    have hn32 := h32 n (List.mem_of_getElem? hn)
    have htl := textG_len (g.take i)
    rw [List.length_take] at htl
    refine TL.nil ?_
    refine T.seq ?_
    refine T.cond_t rfl ?_
    refine T.skip ?_
    refine T.seq ?_
    refine T.block ?_
    refine T.seq ?_
    refine T.region ?_
    refine TL.cons rfl (V1.t (V1.move' (by (conv => lhs; whnf) <;> rfl)) ?_)
    refine TL.cons rfl (V1.t (V1.indexA ty_24 sz_22 rfl rfl (by omega) (by omega) (fun w => run_part1 one_22 (show (g.map u32V).toArray[i * 1]? = some (u32V n) from by rw [Nat.mul_one, List.getElem?_toArray, List.getElem?_map, hn]; rfl) w)) ?_)
    refine TL.cons rfl (V1.t (V1.assign' (by (conv => lhs; whnf) <;> rfl)) ?_)
    refine TL.cons rfl (V1.t (V1.assign' (by (conv => lhs; whnf) <;> rfl)) ?_)
    refine TL.nil ?_
    refine T.seq ?_
    refine T.seq ?_
    refine T.region ?_
    refine TL.cons rfl (V1.t (V1.move' (by (conv => lhs; whnf) <;> rfl)) ?_)
    refine TL.cons rfl (T1.gtI_split rfl rfl (fun h5 => ?_) (fun h5 => ?_))
    ·
      refine TL.nil ?_
      refine T.cond_t rfl ?_
      refine T.region ?_
      refine TL.cons rfl (T1.callX (X := X) has_13 rfl (WriteByte_any _ b3 (textG (g.take i)) (32) X hb (by omega)) (by repeat (first | exact Take.nil | apply Take.one (by repeat (first | exact Pick.here | apply Pick.there | apply Pick.far)) | apply Take.seg (by repeat (first | exact PickS.last | exact PickS.one | exact PickS.here | exact PickS.nil | apply PickS.there | apply PickS.far)) | exact Take.last (by repeat (first | exact PickS.last | exact PickS.one | exact PickS.here | exact PickS.nil | apply PickS.there | apply PickS.far)))) (fun v_ X1 h1 => ?_))
      obtain ⟨pre, hpre⟩ : ∃ p, p = if i = 0 then [] else textG (g.take i) ++ [32] := ⟨_, rfl⟩
      have hpl : pre.length ≤ 40 := by rw [hpre, if_neg (show i ≠ 0 by omega), List.length_append, List.length_singleton]; omega
      have hbp : BB b3 pre X1 := by rw [hpre, if_neg (show i ≠ 0 by omega)]; exact h1
      refine TL.nil ?_
      refine T.seq ?_
      refine T.region ?_
      refine TL.cons rfl (V1.t (V1.assign' (by (conv => lhs; whnf) <;> rfl)) ?_)
      refine TL.nil ?_
      refine T.block ?_
      refine T.loopL (σ := Nat × List Blk) (l0 := [(3, _), (5, _), (7, _), (8, _)]) (fun x => [(6, .int .u32 (plN x.1 : Nat))]) (fun x L => L = x.2 ++ [] ∧ BB b3 (pre ++ (dig5 n).take x.1) x.2 ∧ x.1 ≤ 5) (fun x => 5 - x.1) (0, X1) (.cons (show Value.int .u32 10000 = Value.int .u32 ((plN 0 : Nat) : Int) from congrArg _ (by decide)) .nil) (.cons (by (conv => lhs; whnf) <;> rfl) (.cons (by (conv => lhs; whnf) <;> rfl) (.cons (by (conv => lhs; whnf) <;> rfl) (.cons (by (conv => lhs; whnf) <;> rfl) .nil)))) (by repeat (first | exact Take.nil | apply Take.one (by repeat (first | exact Pick.here | apply Pick.there | apply Pick.far)) | apply Take.seg (by repeat (first | exact PickS.last | exact PickS.one | exact PickS.here | exact PickS.nil | apply PickS.there | apply PickS.far)) | exact Take.last (by repeat (first | exact PickS.last | exact PickS.one | exact PickS.here | exact PickS.nil | apply PickS.there | apply PickS.far)))) (⟨rfl, by simp only; rw [List.take_zero, List.append_nil]; exact hbp, Nat.zero_le _⟩) ?_
      rintro ⟨j, X2⟩ e_ L ⟨rfl, hb2, hj⟩
      simp only at hb2 hj
      refine T.seq ?_
      refine T.seq ?_
      refine T.region ?_
      refine TL.cons rfl (V1.t (V1.move' (by (conv => lhs; whnf) <;> rfl)) ?_)
      refine TL.cons rfl (T1.gtI_split rfl rfl (fun h8 => ?_) (fun h8 => ?_))
      ·
        simp only at h8
        have hj5 : j < 5 := (plN_pos j hj).1 (by omega)
        have hpp := (plN_pos j hj).2 hj5
        have hplj := plN_le j hj
        have hq : n / plN j % 10 < 10 := Nat.mod_lt _ (by decide)
        have hdq := Nat.div_le_self n (plN j)
        have htd : ((dig5 n).take j).length ≤ 5 := by rw [List.length_take]; show min j 5 ≤ 5; omega
        refine TL.nil ?_
        refine T.cond_t rfl ?_
        refine T.skip ?_
        refine T.seq ?_
        refine T.block ?_
        refine T.region ?_
        refine TL.cons rfl (V1.t (V1.move' (by (conv => lhs; whnf) <;> rfl)) ?_)
        refine TL.cons rfl (V1.t (V1.move' (by (conv => lhs; whnf) <;> rfl)) ?_)
        refine TL.cons rfl (V1.t (V1.quo (c := ((n / plN j : Nat) : Int)) rfl rfl (show ((plN j : Nat) : Int) ≠ 0 by omega) (by show IntKind.u32.wrap ((n : Int).tdiv ((plN j : Nat) : Int)) = _; rw [tquoM]; exact wrapN_u32 (by omega))) ?_)
        refine TL.cons rfl (V1.t (V1.rem (c := ((n / plN j % 10 : Nat) : Int)) rfl rfl (by decide) (tmodM _ 10)) ?_)
        refine TL.cons rfl (V1.t (V1.conv (c := ((n / plN j % 10 : Nat) : Int)) ty_22 ty_5 rfl (wrapN_u8 (Nat.lt_trans hq (by decide)))) ?_)
        refine TL.cons rfl (V1.t (V1.add (c := (((UInt8.ofNat (48 + n / plN j % 10)).toNat : Nat) : Int)) rfl rfl (add48 hq)) ?_)
        refine TL.cons rfl (T1.callX (X := X2) has_13 rfl (WriteByte_any _ b3 (pre ++ (dig5 n).take j) (UInt8.ofNat (48 + n / plN j % 10)) X2 hb2 (by rw [List.length_append]; omega)) (by repeat (first | exact Take.nil | apply Take.one (by repeat (first | exact Pick.here | apply Pick.there | apply Pick.far)) | apply Take.seg (by repeat (first | exact PickS.last | exact PickS.one | exact PickS.here | exact PickS.nil | apply PickS.there | apply PickS.far)) | exact Take.last (by repeat (first | exact PickS.last | exact PickS.one | exact PickS.here | exact PickS.nil | apply PickS.there | apply PickS.far)))) (fun v_ X3 h3 => ?_))
        refine TL.nil ?_
        refine T.region ?_
        refine TL.cons rfl (V1.t (V1.move' (by (conv => lhs; whnf) <;> rfl)) ?_)
        refine TL.cons rfl (V1.t (V1.quo (c := ((plN (j + 1) : Nat) : Int)) rfl rfl (by decide) (by rw [plN_next j hj5, show ((plN j : Int).tdiv 10) = ((plN j / 10 : Nat) : Int) from tquoM _ 10]; exact wrapN_u32 (by omega))) ?_)
        refine TL.cons rfl (V1.t (V1.assign' (by (conv => lhs; whnf) <;> rfl)) ?_)
        refine TL.nil ?_
        exact ⟨(j + 1, X3), _, _, (by simp only; omega), (.cons rfl .nil), (.cons rfl (.cons rfl (.cons rfl (.cons rfl .nil)))), (by repeat (first | exact Take.nil | apply Take.one (by repeat (first | exact Pick.here | apply Pick.there | apply Pick.far)) | apply Take.seg (by repeat (first | exact PickS.last | exact PickS.one | exact PickS.here | exact PickS.nil | apply PickS.there | apply PickS.far)) | exact Take.last (by repeat (first | exact PickS.last | exact PickS.one | exact PickS.here | exact PickS.nil | apply PickS.there | apply PickS.far)))), ⟨rfl, by simp only; rw [List.take_add_one, dig5_get n j hj5, ← List.append_assoc]; exact h3, by simp only; omega⟩⟩
      ·
        simp only at h8
        obtain rfl : j = 5 := by
          rcases Nat.lt_or_ge j 5 with h | h
          · have := (plN_pos j hj).2 h; omega
          · omega
        refine TL.nil ?_
        refine T.cond_f rfl ?_
        refine T.exit ?_
        refine T.region ?_
        refine TL.cons rfl (V1.t (V1.add rfl rfl (wrap_i64 _ (by omega) (by omega))) ?_)
        refine TL.cons rfl (V1.t (V1.move' (by (conv => lhs; whnf) <;> rfl)) ?_)
        refine TL.nil ?_
        exact ⟨(i + 1, X2), _, _, (by simp only; omega), (.cons rfl .nil), (.cons rfl (.cons rfl .nil)), (by repeat (first | exact Take.nil | apply Take.one (by repeat (first | exact Pick.here | apply Pick.there | apply Pick.far)) | apply Take.seg (by repeat (first | exact PickS.last | exact PickS.one | exact PickS.here | exact PickS.nil | apply PickS.there | apply PickS.far)) | exact Take.last (by repeat (first | exact PickS.last | exact PickS.one | exact PickS.here | exact PickS.nil | apply PickS.there | apply PickS.far)))), ⟨rfl, by simp only; rw [textG_take hn, ← hpre]; exact hb2, by simp only; omega⟩⟩
    ·
      have hi0 : i = 0 := by omega
      obtain ⟨pre, hpre⟩ : ∃ p, p = if i = 0 then [] else textG (g.take i) ++ [32] := ⟨_, rfl⟩
      have hpl : pre.length ≤ 40 := by rw [hpre, if_pos hi0]; simp
      have hbp : BB b3 pre X := by rw [hpre, if_pos hi0]; subst hi0; exact hb
      refine TL.nil ?_
      refine T.cond_f rfl ?_
      refine T.skip ?_
      refine T.seq ?_
      refine T.region ?_
      refine TL.cons rfl (V1.t (V1.assign' (by (conv => lhs; whnf) <;> rfl)) ?_)
      refine TL.nil ?_
      refine T.block ?_
      refine T.loopL (σ := Nat × List Blk) (l0 := [(3, _), (5, _), (7, _), (8, _)]) (fun x => [(6, .int .u32 (plN x.1 : Nat))]) (fun x L => L = x.2 ++ [] ∧ BB b3 (pre ++ (dig5 n).take x.1) x.2 ∧ x.1 ≤ 5) (fun x => 5 - x.1) (0, X) (.cons (show Value.int .u32 10000 = Value.int .u32 ((plN 0 : Nat) : Int) from congrArg _ (by decide)) .nil) (.cons (by (conv => lhs; whnf) <;> rfl) (.cons (by (conv => lhs; whnf) <;> rfl) (.cons (by (conv => lhs; whnf) <;> rfl) (.cons (by (conv => lhs; whnf) <;> rfl) .nil)))) (by repeat (first | exact Take.nil | apply Take.one (by repeat (first | exact Pick.here | apply Pick.there | apply Pick.far)) | apply Take.seg (by repeat (first | exact PickS.last | exact PickS.one | exact PickS.here | exact PickS.nil | apply PickS.there | apply PickS.far)) | exact Take.last (by repeat (first | exact PickS.last | exact PickS.one | exact PickS.here | exact PickS.nil | apply PickS.there | apply PickS.far)))) (⟨rfl, by simp only; rw [List.take_zero, List.append_nil]; exact hbp, Nat.zero_le _⟩) ?_
      rintro ⟨j, X2⟩ e_ L ⟨rfl, hb2, hj⟩
      simp only at hb2 hj
      refine T.seq ?_
      refine T.seq ?_
      refine T.region ?_
      refine TL.cons rfl (V1.t (V1.move' (by (conv => lhs; whnf) <;> rfl)) ?_)
      refine TL.cons rfl (T1.gtI_split rfl rfl (fun h8 => ?_) (fun h8 => ?_))
      ·
        simp only at h8
        have hj5 : j < 5 := (plN_pos j hj).1 (by omega)
        have hpp := (plN_pos j hj).2 hj5
        have hplj := plN_le j hj
        have hq : n / plN j % 10 < 10 := Nat.mod_lt _ (by decide)
        have hdq := Nat.div_le_self n (plN j)
        have htd : ((dig5 n).take j).length ≤ 5 := by rw [List.length_take]; show min j 5 ≤ 5; omega
        refine TL.nil ?_
        refine T.cond_t rfl ?_
        refine T.skip ?_
        refine T.seq ?_
        refine T.block ?_
        refine T.region ?_
        refine TL.cons rfl (V1.t (V1.move' (by (conv => lhs; whnf) <;> rfl)) ?_)
        refine TL.cons rfl (V1.t (V1.move' (by (conv => lhs; whnf) <;> rfl)) ?_)
        refine TL.cons rfl (V1.t (V1.quo (c := ((n / plN j : Nat) : Int)) rfl rfl (show ((plN j : Nat) : Int) ≠ 0 by omega) (by show IntKind.u32.wrap ((n : Int).tdiv ((plN j : Nat) : Int)) = _; rw [tquoM]; exact wrapN_u32 (by omega))) ?_)
        refine TL.cons rfl (V1.t (V1.rem (c := ((n / plN j % 10 : Nat) : Int)) rfl rfl (by decide) (tmodM _ 10)) ?_)
        refine TL.cons rfl (V1.t (V1.conv (c := ((n / plN j % 10 : Nat) : Int)) ty_22 ty_5 rfl (wrapN_u8 (Nat.lt_trans hq (by decide)))) ?_)
        refine TL.cons rfl (V1.t (V1.add (c := (((UInt8.ofNat (48 + n / plN j % 10)).toNat : Nat) : Int)) rfl rfl (add48 hq)) ?_)
        refine TL.cons rfl (T1.callX (X := X2) has_13 rfl (WriteByte_any _ b3 (pre ++ (dig5 n).take j) (UInt8.ofNat (48 + n / plN j % 10)) X2 hb2 (by rw [List.length_append]; omega)) (by repeat (first | exact Take.nil | apply Take.one (by repeat (first | exact Pick.here | apply Pick.there | apply Pick.far)) | apply Take.seg (by repeat (first | exact PickS.last | exact PickS.one | exact PickS.here | exact PickS.nil | apply PickS.there | apply PickS.far)) | exact Take.last (by repeat (first | exact PickS.last | exact PickS.one | exact PickS.here | exact PickS.nil | apply PickS.there | apply PickS.far)))) (fun v_ X3 h3 => ?_))
        refine TL.nil ?_
        refine T.region ?_
        refine TL.cons rfl (V1.t (V1.move' (by (conv => lhs; whnf) <;> rfl)) ?_)
        refine TL.cons rfl (V1.t (V1.quo (c := ((plN (j + 1) : Nat) : Int)) rfl rfl (by decide) (by rw [plN_next j hj5, show ((plN j : Int).tdiv 10) = ((plN j / 10 : Nat) : Int) from tquoM _ 10]; exact wrapN_u32 (by omega))) ?_)
        refine TL.cons rfl (V1.t (V1.assign' (by (conv => lhs; whnf) <;> rfl)) ?_)
        refine TL.nil ?_
        exact ⟨(j + 1, X3), _, _, (by simp only; omega), (.cons rfl .nil), (.cons rfl (.cons rfl (.cons rfl (.cons rfl .nil)))), (by repeat (first | exact Take.nil | apply Take.one (by repeat (first | exact Pick.here | apply Pick.there | apply Pick.far)) | apply Take.seg (by repeat (first | exact PickS.last | exact PickS.one | exact PickS.here | exact PickS.nil | apply PickS.there | apply PickS.far)) | exact Take.last (by repeat (first | exact PickS.last | exact PickS.one | exact PickS.here | exact PickS.nil | apply PickS.there | apply PickS.far)))), ⟨rfl, by simp only; rw [List.take_add_one, dig5_get n j hj5, ← List.append_assoc]; exact h3, by simp only; omega⟩⟩
      ·
        simp only at h8
        obtain rfl : j = 5 := by
          rcases Nat.lt_or_ge j 5 with h | h
          · have := (plN_pos j hj).2 h; omega
          · omega
        refine TL.nil ?_
        refine T.cond_f rfl ?_
        refine T.exit ?_
        refine T.region ?_
        refine TL.cons rfl (V1.t (V1.add rfl rfl (wrap_i64 _ (by omega) (by omega))) ?_)
        refine TL.cons rfl (V1.t (V1.move' (by (conv => lhs; whnf) <;> rfl)) ?_)
        refine TL.nil ?_
        exact ⟨(i + 1, X2), _, _, (by simp only; omega), (.cons rfl .nil), (.cons rfl (.cons rfl .nil)), (by repeat (first | exact Take.nil | apply Take.one (by repeat (first | exact Pick.here | apply Pick.there | apply Pick.far)) | apply Take.seg (by repeat (first | exact PickS.last | exact PickS.one | exact PickS.here | exact PickS.nil | apply PickS.there | apply PickS.far)) | exact Take.last (by repeat (first | exact PickS.last | exact PickS.one | exact PickS.here | exact PickS.nil | apply PickS.there | apply PickS.far)))), ⟨rfl, by simp only; rw [textG_take hn, ← hpre]; exact hb2, by simp only; omega⟩⟩
  ·
    obtain rfl : i = 6 := by omega
    rw [List.take_of_length_le (by omega)] at hb
    have htl := textG_len g
    refine TL.nil ?_
    refine T.seq ?_
    refine T.cond_f rfl ?_
    refine T.exit ?_
    refine T.seq ?_
    refine T.region ?_
    refine TL.cons rfl (T1.callX (X := X) has_14 rfl (String_any _ b3 (textG g) X hb (by omega)) (by repeat (first | exact Take.nil | apply Take.one (by repeat (first | exact Pick.here | apply Pick.there | apply Pick.far)) | apply Take.seg (by repeat (first | exact PickS.last | exact PickS.one | exact PickS.here | exact PickS.nil | apply PickS.there | apply PickS.far)) | exact Take.last (by repeat (first | exact PickS.last | exact PickS.one | exact PickS.here | exact PickS.nil | apply PickS.there | apply PickS.far)))) (fun v_ Y_ hY_ => ?_))
    obtain ⟨rfl, hzz⟩ := hY_
    rw [hzz, List.nil_append]
    refine TL.cons rfl (V1.t (V1.assign' (by (conv => lhs; whnf) <;> rfl)) ?_)
    refine TL.nil ?_
    refine T.ret ?_
    exact ⟨_, [], _, .cons (.tmp (by (conv => lhs; whnf) <;> rfl)) .nil, Take.nil, rfl, rfl⟩

set_option maxRecDepth 100000 in
set_option maxHeartbeats 1000000 in
theorem writes_any (w : World) : Fn P 5 [] w [] (fun v Y => Y = [] ∧ v = .bool true) := by
  refine Fn.of 15 [.tmp 0] Go.Proofs.Tryd.func5 rfl rfl rfl rfl ?_
  refine T.seq ?_
  refine T.region ?_
  refine TL.cons rfl (V1.t (V1.assign' (by (conv => lhs; whnf) <;> rfl)) ?_)
  refine TL.nil ?_
  refine T.seq ?_
  refine T.region ?_
  refine TL.cons rfl (V1.t (V1.buildFA ty_24 sz_22 zr_24 (.one rfl (by (conv => lhs; whnf) <;> rfl) rfl (.one rfl (by (conv => lhs; whnf) <;> rfl) rfl (.one rfl (by (conv => lhs; whnf) <;> rfl) rfl (.one rfl (by (conv => lhs; whnf) <;> rfl) rfl (.one rfl (by (conv => lhs; whnf) <;> rfl) rfl (.one rfl (by (conv => lhs; whnf) <;> rfl) rfl .nil)))))) (by repeat (first | exact FillL.nil | exact SetN.done | apply SetN.here | apply SetN.there | apply FillL.cons))) ?_)
  refine TL.cons rfl (T1.allocN 6 zr_24 rfl (fun b1 => ?_))
  refine TL.cons rfl (T1.storeN (vs := ([7, 12345, 0, 99999, 10, 1] : List Nat).map u32V) rfl rfl sz_24 (ones_u32 _) (by repeat (first | exact Sub.one | apply Sub.there | apply Sub.far)) (by rfl) (by rfl) ?_)
  refine TL.nil ?_
  refine T.seq ?_
  refine T.region ?_
  refine TL.cons rfl (V1.t (V1.loadN (vs := ([7, 12345, 0, 99999, 10, 1] : List Nat).map u32V) one_24 sz_24 rfl (RdN.whole (by repeat (first | exact Find.here | assumption | apply Find.there | apply Find.far))) (by rfl)) ?_)
  refine TL.cons rfl (T1.call0 has_8 rfl (fun w hs => groupsString_any ([7, 12345, 0, 99999, 10, 1] : List Nat) w rfl (by decide)) (fun v hv => ?_))
  subst hv
  refine TL.cons rfl (V1.t (V1.eqS (r := true) rfl rfl (by decide +kernel)) ?_)
  refine TL.cons rfl (V1.t (V1.move' (by (conv => lhs; whnf) <;> rfl)) ?_)
  refine TL.cons rfl (V1.t (V1.loadN (vs := ([7, 12345, 0, 99999, 10, 1] : List Nat).map u32V) one_24 sz_24 rfl (RdN.whole (by repeat (first | exact Find.here | assumption | apply Find.there | apply Find.far))) (by rfl)) ?_)
  refine TL.cons rfl (T1.call0 has_8 rfl (fun w hs => groupsString_any ([7, 12345, 0, 99999, 10, 1] : List Nat) w rfl (by decide)) (fun v hv => ?_))
  subst hv
  refine TL.cons rfl (T1.call0 has_10 rfl (fun w hs => Same_any (textG ([7, 12345, 0, 99999, 10, 1] : List Nat)) [48, 48, 48, 48, 55, 49, 50, 51, 52, 53, 45, 48, 48, 48, 48, 48, 32, 57, 57, 57, 57, 57, 32, 48, 48, 48, 49, 48, 10, 48, 48, 48, 48, 49] w (by decide) (by decide)) (fun v hv => ?_))
  subst hv
  rw [show decide (flt (textG ([7, 12345, 0, 99999, 10, 1] : List Nat)) = flt [48, 48, 48, 48, 55, 49, 50, 51, 52, 53, 45, 48, 48, 48, 48, 48, 32, 57, 57, 57, 57, 57, 32, 48, 48, 48, 49, 48, 10, 48, 48, 48, 48, 49]) = true from by decide +kernel]
  refine TL.cons rfl (V1.t (V1.pick rfl (by (conv => lhs; whnf) <;> rfl)) ?_)
  refine TL.cons rfl (V1.t (V1.move' (by (conv => lhs; whnf) <;> rfl)) ?_)
  refine TL.cons rfl (T1.call0 has_10 rfl (fun w hs => Same_any [49] [50] w (by decide) (by decide)) (fun v hv => ?_))
  subst hv
  rw [show decide (flt [49] = flt [50]) = false from by decide +kernel]
  refine TL.cons rfl (V1.t (V1.not rfl rfl) ?_)
  refine TL.cons rfl (V1.t (V1.pick rfl (by (conv => lhs; whnf) <;> rfl)) ?_)
  refine TL.cons rfl (V1.t (V1.assign' (by (conv => lhs; whnf) <;> rfl)) ?_)
  refine TL.nil ?_
  refine T.ret ?_
  exact ⟨_, [], _, .cons (.tmp (by (conv => lhs; whnf) <;> rfl)) .nil, Take.nil, rfl, rfl⟩

end Go.Proofs.YtdgbckfnamiebaaDoor.S
