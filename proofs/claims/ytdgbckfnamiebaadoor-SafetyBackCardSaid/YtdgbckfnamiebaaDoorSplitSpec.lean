/- A text's words, and what groups they are. Plain Lean, no program in sight. -/
import Derived.Test.YtdgbckfnamiebaaDoorSafeSpec
namespace Go.Proofs.YtdgbckfnamiebaaDoor.S

/-- What stands between blanks. -/
def words : List UInt8 → List (List UInt8)
  | [] => [[]]
  | x :: l => if x = 32 then [] :: words l else match words l with
    | [] => [[x]]
    | w :: ws => (x :: w) :: ws
theorem words_ne : ∀ l : List UInt8, words l ≠ []
  | [] => by simp [words]
  | x :: l => by
    unfold words
    split
    · simp
    · split <;> simp
theorem words_block : ∀ {w r : List UInt8}, (∀ x ∈ w, x ≠ 32) → words (w ++ 32 :: r) = w :: words r
  | [], r, _ => by simp [words]
  | x :: w, r, h => by
    rw [List.cons_append, words, if_neg (h x (List.mem_cons_self ..)), words_block (fun y hy => h y (List.mem_cons_of_mem _ hy))]
theorem words_last : ∀ {w : List UInt8}, (∀ x ∈ w, x ≠ 32) → words w = [w]
  | [], _ => rfl
  | x :: w, h => by
    rw [words, if_neg (h x (List.mem_cons_self ..)), words_last (fun y hy => h y (List.mem_cons_of_mem _ hy))]
theorem words_count : ∀ l : List UInt8, (words l).length = l.count 32 + 1
  | [] => rfl
  | x :: l => by
    have ih := words_count l
    rw [words, List.count_cons]
    by_cases hx : x = 32
    · rw [if_pos hx, List.length_cons, ih, hx]; simp
    · rw [if_neg hx, show (x == 32) = false from by simpa using hx]
      cases hw : words l with
      | nil => exact absurd hw (words_ne l)
      | cons w ws => rw [hw] at ih; simpa using ih
theorem words_two : ∀ {l w v : List UInt8} {ws : List (List UInt8)}, words l = w :: v :: ws → ∃ r, l = w ++ 32 :: r ∧ words r = v :: ws
  | [], w, v, ws, h => by simp [words] at h
  | x :: l, w, v, ws, h => by
    rw [words] at h
    by_cases hx : x = 32
    · rw [if_pos hx] at h
      obtain ⟨rfl, h2⟩ := List.cons.inj h
      exact ⟨l, by rw [hx]; rfl, h2⟩
    · rw [if_neg hx] at h
      cases hw : words l with
      | nil => exact absurd hw (words_ne l)
      | cons u us =>
        rw [hw] at h
        obtain ⟨rfl, rfl⟩ := List.cons.inj h
        obtain ⟨r, h1, h2⟩ := words_two hw
        exact ⟨r, by rw [h1]; rfl, h2⟩
theorem words_one : ∀ {l w : List UInt8}, words l = [w] → l = w
  | [], w, h => by simpa [words] using h
  | x :: l, w, h => by
    rw [words] at h
    by_cases hx : x = 32
    · rw [if_pos hx] at h
      exact absurd (List.cons.inj h).2 (words_ne l)
    · rw [if_neg hx] at h
      cases hw : words l with
      | nil => exact absurd hw (words_ne l)
      | cons u us =>
        rw [hw] at h
        obtain ⟨rfl, rfl⟩ := List.cons.inj h
        rw [words_one hw]

/-- A group's five digits. -/
def goodW (w : List UInt8) : Bool := decide (w.length = 5) && w.all digitB
def valW (w : List UInt8) : Nat := w.foldl (fun a x => 10 * a + (x.toNat - 48)) 0
def parseW (ws : List (List UInt8)) : Option (List Nat) := if ws.length = 6 ∧ ws.all goodW = true then some (ws.map valW) else none
/-- What the document asks of a byte at a place. -/
def okAt (l : List UInt8) (i : Nat) : Prop := ∃ x, l[i]? = some x ∧ (if i % 6 = 5 then x = 32 else digitB x = true)

theorem digit_ne {x : UInt8} (h : digitB x = true) : x ≠ 32 := by
  rintro rfl; revert h; decide
theorem good_len {w : List UInt8} (h : goodW w = true) : w.length = 5 := by
  unfold goodW at h; rw [Bool.and_eq_true] at h; exact of_decide_eq_true h.1
theorem good_dig {w : List UInt8} (h : goodW w = true) : ∀ x ∈ w, digitB x = true := by
  unfold goodW at h; rw [Bool.and_eq_true] at h; exact List.all_eq_true.1 h.2
theorem valW_snoc (w : List UInt8) (x : UInt8) : valW (w ++ [x]) = 10 * valW w + (x.toNat - 48) := by
  unfold valW; rw [List.foldl_append]; rfl
theorem valW_take {w : List UInt8} {k : Nat} {x : UInt8} (h : w[k]? = some x) : valW (w.take (k + 1)) = 10 * valW (w.take k) + (x.toNat - 48) := by
  rw [List.take_add_one, h]; exact valW_snoc _ _
theorem valW_lt' : ∀ n (w : List UInt8), w.length = n → (∀ x ∈ w, digitB x = true) → valW w < 10 ^ n
  | 0, w, hl, _ => by rw [List.length_eq_zero_iff.1 hl]; decide
  | n + 1, w, hl, h => by
    have hne : w ≠ [] := by intro e; rw [e] at hl; cases hl
    have e := List.dropLast_concat_getLast hne
    have ih := valW_lt' n w.dropLast (by rw [List.length_dropLast]; omega) (fun x hx => h x (List.dropLast_subset _ hx))
    have hd := of_decide_eq_true (h _ (List.getLast_mem hne))
    rw [← e, valW_snoc, Nat.pow_succ]
    omega
theorem valW_lt {w : List UInt8} (hl : w.length ≤ 5) (h : ∀ x ∈ w, digitB x = true) : valW w < 100000 :=
  Nat.lt_of_lt_of_le (valW_lt' _ w rfl h) (Nat.le_trans (Nat.pow_le_pow_right (by decide) hl) (by decide))

/-- What is read was written as the document says .. -/
theorem words_ok : ∀ (n : Nat) (l : List UInt8), (words l).length = n + 1 → (words l).all goodW = true → l.length = 6 * n + 5 ∧ ∀ i, i < 6 * n + 5 → okAt l i
  | 0, l, hn, hg => by
    obtain ⟨w, hw⟩ := List.length_eq_one_iff.1 hn
    rw [hw] at hg
    have hg' : goodW w = true := by simpa using hg
    obtain rfl := words_one hw
    have hl := good_len hg'
    refine ⟨by omega, fun i hi => ?_⟩
    obtain ⟨x, hx⟩ : ∃ x, l[i]? = some x := ⟨_, List.getElem?_eq_getElem (by omega)⟩
    exact ⟨x, hx, by rw [if_neg (by omega)]; exact good_dig hg' x (List.mem_of_getElem? hx)⟩
  | n + 1, l, hn, hg => by
    cases hw : words l with
    | nil => rw [hw] at hn; cases hn
    | cons w us =>
      cases us with
      | nil => rw [hw] at hn; simp at hn
      | cons v ws =>
        obtain ⟨r, rfl, hr⟩ := words_two hw
        rw [hw] at hn hg
        rw [List.all_cons, Bool.and_eq_true] at hg
        have hl := good_len hg.1
        have ih := words_ok n r (by rw [hr]; simpa using hn) (by rw [hr]; exact hg.2)
        refine ⟨by rw [List.length_append, List.length_cons]; omega, fun i hi => ?_⟩
        rcases Nat.lt_trichotomy i 5 with h | h | h
        · obtain ⟨x, hx⟩ : ∃ x, w[i]? = some x := ⟨_, List.getElem?_eq_getElem (by omega)⟩
          exact ⟨x, by rw [List.getElem?_append_left (by omega)]; exact hx, by rw [if_neg (by omega)]; exact good_dig hg.1 x (List.mem_of_getElem? hx)⟩
        · exact ⟨32, by rw [List.getElem?_append_right (by omega), h, hl]; rfl, by rw [if_pos (by omega)]⟩
        · obtain ⟨x, hx, hx2⟩ := ih.2 (i - 6) (by omega)
          refine ⟨x, ?_, ?_⟩
          · rw [List.getElem?_append_right (by omega), hl, show i - 5 = (i - 6) + 1 from by omega, List.getElem?_cons_succ]; exact hx
          · rw [show (i - 6) % 6 = i % 6 from by omega] at hx2; exact hx2
/-- .. and the other way round. -/
theorem ok_words : ∀ (n : Nat) (l : List UInt8), l.length = 6 * n + 5 → (∀ i, i < 6 * n + 5 → okAt l i) → words l = (List.range (n + 1)).map (fun j => (l.drop (6 * j)).take 5) ∧ (words l).all goodW = true
  | 0, l, hl, h => by
    have hd : ∀ x ∈ l, digitB x = true := by
      intro x hx
      obtain ⟨i, hi, rfl⟩ := List.mem_iff_getElem.1 hx
      obtain ⟨y, hy, hy2⟩ := h i (by omega)
      rw [if_neg (by omega)] at hy2
      rw [List.getElem?_eq_getElem hi] at hy
      rwa [Option.some.inj hy]
    rw [words_last (fun x hx => digit_ne (hd x hx))]
    have e : (l.drop (6 * 0)).take 5 = l := by rw [Nat.mul_zero, List.drop_zero, List.take_of_length_le (by omega)]
    refine ⟨by rw [show List.range (0 + 1) = [0] from rfl, List.map_cons, List.map_nil, e], ?_⟩
    rw [List.all_cons, List.all_nil, Bool.and_true]
    unfold goodW
    rw [Bool.and_eq_true]
    exact ⟨decide_eq_true (by omega), List.all_eq_true.2 hd⟩
  | n + 1, l, hl, h => by
    have hd : ∀ x ∈ l.take 5, digitB x = true := by
      intro x hx
      obtain ⟨i, hi, rfl⟩ := List.mem_iff_getElem.1 hx
      rw [List.length_take] at hi
      obtain ⟨y, hy, hy2⟩ := h i (by omega)
      rw [if_neg (by omega)] at hy2
      rw [List.getElem_take]
      rw [List.getElem?_eq_getElem (by omega)] at hy
      rwa [Option.some.inj hy]
    have e : l = l.take 5 ++ 32 :: l.drop 6 := by
      obtain ⟨y, hy, hy2⟩ := h 5 (by omega)
      rw [if_pos (by omega)] at hy2
      have h5 := List.drop_eq_getElem_cons (show 5 < l.length by omega)
      rw [List.getElem?_eq_getElem (by omega)] at hy
      rw [Option.some.inj hy, hy2] at h5
      rw [← h5, List.take_append_drop]
    have ih := ok_words n (l.drop 6) (by rw [List.length_drop]; omega) (fun i hi => by
      obtain ⟨y, hy, hy2⟩ := h (i + 6) (by omega)
      rw [show (i + 6) % 6 = i % 6 from by omega] at hy2
      exact ⟨y, by rw [List.getElem?_drop, Nat.add_comm]; exact hy, hy2⟩)
    have hw : words l = l.take 5 :: words (l.drop 6) := by
      conv => lhs; rw [e]
      exact words_block (fun x hx => digit_ne (hd x hx))
    rw [hw]
    refine ⟨?_, ?_⟩
    · rw [List.range_succ_eq_map, List.map_cons, List.map_map, ih.1, Nat.mul_zero, List.drop_zero]
      congr 1
      apply List.map_congr_left
      intro j _
      show _ = (l.drop (6 * (j + 1))).take 5
      rw [List.drop_drop, show 6 + 6 * j = 6 * (j + 1) from by omega]
    · rw [List.all_cons, Bool.and_eq_true]
      refine ⟨?_, ih.2⟩
      unfold goodW
      rw [Bool.and_eq_true]
      exact ⟨decide_eq_true (by rw [List.length_take]; omega), List.all_eq_true.2 hd⟩
/-- The groups of a text. -/
def groupsAt (l : List UInt8) (i : Nat) : List Nat := (List.range 6).map (fun j => valW (((l.take i).drop (6 * j)).take 5))
theorem parse_ok {l : List UInt8} (hl : l.length = 35) (h : ∀ i, i < 35 → okAt l i) : parseW (words l) = some (groupsAt l 35) := by
  obtain ⟨h1, h2⟩ := ok_words 5 l hl h
  unfold parseW
  rw [if_pos ⟨by rw [h1]; simp, h2⟩, h1, List.map_map]
  unfold groupsAt
  rw [List.take_of_length_le (by omega)]; rfl
theorem parse_no {l : List UInt8} (h : ¬ (l.length = 35 ∧ ∀ i, i < 35 → okAt l i)) : parseW (words l) = none := by
  unfold parseW
  rw [if_neg]
  rintro ⟨h1, h2⟩
  exact h (words_ok 5 l h1 h2)
theorem groupsAt_zero (l : List UInt8) : groupsAt l 0 = [0, 0, 0, 0, 0, 0] := by
  unfold groupsAt; simp [valW, List.range_succ]
theorem groupsAt_len (l : List UInt8) (i : Nat) : (groupsAt l i).length = 6 := by unfold groupsAt; simp
theorem groupsAt_get (l : List UInt8) (i : Nat) {j : Nat} (hj : j < 6) : (groupsAt l i)[j]? = some (valW (((l.take i).drop (6 * j)).take 5)) := by
  unfold groupsAt
  rw [List.getElem?_map, List.getElem?_range hj]; rfl
theorem piece_get {l : List UInt8} {i j k : Nat} : (((l.take i).drop (6 * j)).take 5)[k]? = if k < 5 ∧ 6 * j + k < i then l[6 * j + k]? else none := by
  rw [List.getElem?_take]
  by_cases h5 : k < 5
  · rw [if_pos h5, List.getElem?_drop, List.getElem?_take]
    by_cases h : 6 * j + k < i
    · rw [if_pos h, if_pos ⟨h5, h⟩]
    · rw [if_neg h, if_neg (fun hh => h hh.2)]
  · rw [if_neg h5, if_neg (fun hh => h5 hh.1)]
theorem groupsAt_blank {l : List UInt8} {i : Nat} (h : i % 6 = 5) : groupsAt l (i + 1) = groupsAt l i := by
  unfold groupsAt
  apply List.map_congr_left
  intro j _
  congr 1
  apply List.ext_getElem?
  intro k
  rw [piece_get, piece_get]
  by_cases hk : k < 5 ∧ 6 * j + k < i
  · rw [if_pos hk, if_pos ⟨hk.1, by omega⟩]
  · rw [if_neg hk, if_neg]
    rintro ⟨h1, h2⟩
    exact hk ⟨h1, by omega⟩
theorem piece_step {l : List UInt8} {i : Nat} {x : UInt8} (h : i % 6 ≠ 5) (hx : l[i]? = some x) : ((l.take (i + 1)).drop (6 * (i / 6))).take 5 = ((l.take i).drop (6 * (i / 6))).take 5 ++ [x] := by
  have hil := (List.getElem?_eq_some_iff.1 hx).1
  have hlen : (((l.take i).drop (6 * (i / 6))).take 5).length = i % 6 := by
    rw [List.length_take, List.length_drop, List.length_take]; omega
  apply List.ext_getElem?
  intro k
  rw [piece_get, List.getElem?_append, hlen]
  by_cases hk : k < i % 6
  · rw [if_pos hk, piece_get, if_pos ⟨by omega, by omega⟩, if_pos ⟨by omega, by omega⟩]
  · rw [if_neg hk]
    by_cases hk2 : k = i % 6
    · rw [if_pos ⟨by omega, by omega⟩, hk2, Nat.sub_self, show 6 * (i / 6) + i % 6 = i from by omega, hx]; rfl
    · rw [if_neg (fun hh => by omega), List.getElem?_eq_none (by simp; omega)]
theorem groupsAt_step {l : List UInt8} {i v : Nat} {x : UInt8} (h : i % 6 ≠ 5) (hi : i < 35) (hx : l[i]? = some x) (hv : (groupsAt l i)[i / 6]? = some v) : groupsAt l (i + 1) = (groupsAt l i).set (i / 6) (10 * v + (x.toNat - 48)) := by
  apply List.ext_getElem?
  intro j
  rw [List.getElem?_set, groupsAt_len]
  by_cases hj : i / 6 = j
  · rw [if_pos hj, if_pos (by omega)]
    subst hj
    rw [groupsAt_get _ _ (by omega)] at hv ⊢
    rw [piece_step h hx, valW_snoc, Option.some.inj hv]
  · rw [if_neg hj]
    rcases Nat.lt_or_ge j 6 with hj6 | hj6
    · rw [groupsAt_get _ _ hj6, groupsAt_get _ _ hj6]
      congr 2
      apply List.ext_getElem?
      intro k
      rw [piece_get, piece_get]
      by_cases hk : k < 5 ∧ 6 * j + k < i
      · rw [if_pos hk, if_pos ⟨hk.1, by omega⟩]
      · rw [if_neg hk, if_neg]
        rintro ⟨h1, h2⟩
        exact hk ⟨h1, by omega⟩
    · rw [List.getElem?_eq_none (by rw [groupsAt_len]; exact hj6), List.getElem?_eq_none (by rw [groupsAt_len]; exact hj6)]
theorem groupsAt_lt {l : List UInt8} {i : Nat} (hi : i ≤ l.length) (h : ∀ j, j < i → okAt l j) : ∀ v ∈ groupsAt l i, v < 100000 := by
  intro v hv
  unfold groupsAt at hv
  obtain ⟨j, _, rfl⟩ := List.mem_map.1 hv
  refine valW_lt (by rw [List.length_take]; omega) (fun x hx => ?_)
  obtain ⟨k, hk⟩ := List.getElem?_of_mem hx
  rw [piece_get] at hk
  by_cases hkk : k < 5 ∧ 6 * j + k < i
  · rw [if_pos hkk] at hk
    obtain ⟨y, hy, hy2⟩ := h _ hkk.2
    rw [if_neg (by omega)] at hy2
    rw [hk] at hy
    rwa [Option.some.inj hy]
  · rw [if_neg hkk] at hk; cases hk
/-- What is written is read again. -/
theorem val_dig5 {n : Nat} (h : n < 100000) : valW (dig5 n) = n := by
  unfold valW dig5
  simp only [List.foldl_cons, List.foldl_nil, UInt8.toNat_ofNat', show (2 : Nat) ^ 8 = 256 from rfl]
  omega
theorem dig5_len (n : Nat) : (dig5 n).length = 5 := rfl
theorem dig5_good (n : Nat) : goodW (dig5 n) = true := by
  unfold goodW
  rw [Bool.and_eq_true]
  refine ⟨rfl, List.all_eq_true.2 (fun x hx => ?_)⟩
  unfold dig5 at hx
  simp only [List.mem_cons, List.not_mem_nil, or_false] at hx
  unfold digitB
  apply decide_eq_true
  rcases hx with rfl | rfl | rfl | rfl | rfl <;> (rw [UInt8.toNat_ofNat', show (2 : Nat) ^ 8 = 256 from rfl]; omega)
theorem words_text : ∀ gs : List Nat, gs ≠ [] → words (textG gs) = gs.map dig5
  | [], h => absurd rfl h
  | [n], _ => words_last (fun x hx => digit_ne (good_dig (dig5_good n) x hx))
  | n :: m :: l, _ => by
    rw [textG, words_block (fun x hx => digit_ne (good_dig (dig5_good n) x hx)), words_text (m :: l) (by simp), List.map_cons]; rfl
theorem parse_text {gs : List Nat} (hl : gs.length = 6) (h : ∀ v ∈ gs, v < 100000) : parseW (words (textG gs)) = some gs := by
  unfold parseW
  rw [words_text gs (by intro e; rw [e] at hl; cases hl), if_pos ⟨by rw [List.length_map]; exact hl, List.all_eq_true.2 (fun w hw => by obtain ⟨n, _, rfl⟩ := List.mem_map.1 hw; exact dig5_good n)⟩, List.map_map]
  congr 1
  conv => rhs; rw [← List.map_id gs]
  apply List.map_congr_left
  intro n hn
  exact val_dig5 (h n hn)
theorem dig5_inj {a b : Nat} (ha : a < 100000) (hb : b < 100000) (h : dig5 a = dig5 b) : a = b := by
  rw [← val_dig5 ha, h, val_dig5 hb]
theorem flt_dig5 (n : Nat) : flt (dig5 n) = dig5 n := by
  unfold flt
  rw [List.filter_eq_self]
  intro x hx
  rw [digit_not_plain (good_dig (dig5_good n) x hx)]; rfl
theorem flt_append (a b : List UInt8) : flt (a ++ b) = flt a ++ flt b := List.filter_append ..
theorem flt_text : ∀ gs : List Nat, flt (textG gs) = gs.flatMap dig5
  | [] => rfl
  | [n] => by rw [textG, flt_dig5]; simp
  | n :: m :: l => by
    rw [textG, flt_append, flt_dig5, List.flatMap_cons, ← flt_text (m :: l)]; rfl
theorem flat_inj : ∀ {as bs : List Nat}, as.length = bs.length → (∀ v ∈ as, v < 100000) → (∀ v ∈ bs, v < 100000) → as.flatMap dig5 = bs.flatMap dig5 → as = bs
  | [], [], _, _, _, _ => rfl
  | [], _ :: _, h, _, _, _ => by cases h
  | _ :: _, [], h, _, _, _ => by cases h
  | a :: as, b :: bs, h, ha, hb, he => by
    rw [List.flatMap_cons, List.flatMap_cons] at he
    obtain ⟨h1, h2⟩ := List.append_inj he rfl
    rw [dig5_inj (ha a (List.mem_cons_self ..)) (hb b (List.mem_cons_self ..)) h1, flat_inj (by simpa using h) (fun v hv => ha v (List.mem_cons_of_mem _ hv)) (fun v hv => hb v (List.mem_cons_of_mem _ hv)) h2]
/-- A byte of a text turned to another digit: it is a text all the same, of other groups, and other digits. -/
theorem text_turned {gs : List Nat} {at_ : Nat} {x y : UInt8} (hl : gs.length = 6) (h : ∀ v ∈ gs, v < 100000) (hx : (textG gs)[at_]? = some x) (hb : x ≠ 32) (hy : digitB y = true) (hxy : x ≠ y) :
    ∃ ks, parseW (words ((textG gs).set at_ y)) = some ks ∧ ks.length = 6 ∧ (∀ v ∈ ks, v < 100000) ∧ ks ≠ gs ∧ flt (textG gs) ≠ flt ((textG gs).set at_ y) := by
  have hp := parse_text hl h
  have hok : (textG gs).length = 35 ∧ ∀ i, i < 35 → okAt (textG gs) i := by
    apply Classical.byContradiction; intro hn
    rw [parse_no hn] at hp; cases hp
  have hal := (List.getElem?_eq_some_iff.1 hx).1
  have h6 : at_ % 6 ≠ 5 := by
    intro h6
    obtain ⟨z, hz, hz2⟩ := hok.2 at_ (by omega)
    rw [if_pos h6] at hz2
    rw [hx] at hz
    exact hb ((Option.some.inj hz).trans hz2)
  have hl2 : ((textG gs).set at_ y).length = 35 := by rw [List.length_set]; exact hok.1
  have hok2 : ∀ i, i < 35 → okAt ((textG gs).set at_ y) i := by
    intro i hi
    by_cases he : at_ = i
    · subst he
      exact ⟨y, by rw [List.getElem?_set, if_pos rfl, if_pos hal], by rw [if_neg h6]; exact hy⟩
    · obtain ⟨z, hz, hz2⟩ := hok.2 i hi
      exact ⟨z, by rw [List.getElem?_set, if_neg he]; exact hz, hz2⟩
  have hpk := parse_ok hl2 hok2
  have hkl := groupsAt_lt (l := (textG gs).set at_ y) (i := 35) (by omega) hok2
  -- the text of what is read
  have back : ∀ (l : List UInt8) (ks : List Nat), parseW (words l) = some ks → l = textG ks ∧ ks.length = 6 := by
    intro l ks hk
    unfold parseW at hk
    split at hk
    · rename_i hc
      obtain rfl := Option.some.inj hk
      refine ⟨?_, by rw [List.length_map]; exact hc.1⟩
      have key : ∀ (n : Nat) (l : List UInt8), (words l).length = n + 1 → (words l).all goodW = true → l = textG ((words l).map valW) := by
        have gd : ∀ w, goodW w = true → dig5 (valW w) = w := by
          intro w hw
          have hwl := good_len hw
          match w, hwl with
          | [a, b, c, d, e], _ =>
            have hall := good_dig hw
            have ha := of_decide_eq_true (hall a (by simp))
            have hb := of_decide_eq_true (hall b (by simp))
            have hc := of_decide_eq_true (hall c (by simp))
            have hd := of_decide_eq_true (hall d (by simp))
            have he := of_decide_eq_true (hall e (by simp))
            unfold dig5 valW
            simp only [List.foldl_cons, List.foldl_nil, List.cons.injEq, and_true]
            refine ⟨?_, ?_, ?_, ?_, ?_⟩ <;> (apply UInt8.toNat_inj.1; rw [UInt8.toNat_ofNat', show (2 : Nat) ^ 8 = 256 from rfl]; omega)
        intro n
        induction n with
        | zero =>
          intro l hn hg
          obtain ⟨w, hw⟩ := List.length_eq_one_iff.1 hn
          rw [hw] at hg ⊢
          rw [words_one hw, List.map_cons, List.map_nil, textG, gd w (by simpa using hg)]
        | succ n ih =>
          intro l hn hg
          cases hw : words l with
          | nil => rw [hw] at hn; cases hn
          | cons w us =>
            cases us with
            | nil => rw [hw] at hn; simp at hn
            | cons v ws =>
              obtain ⟨r, rfl, hr⟩ := words_two hw
              rw [hw] at hn hg
              rw [List.all_cons, Bool.and_eq_true] at hg
              have := ih r (by rw [hr]; simpa using hn) (by rw [hr]; exact hg.2)
              rw [hr, List.map_cons] at this
              rw [List.map_cons, List.map_cons, textG, gd w hg.1, ← this]
      exact key 5 l hc.1 hc.2
    · cases hk
  have hb2 := back _ _ hpk
  have hne : groupsAt ((textG gs).set at_ y) 35 ≠ gs := by
    intro he
    rw [he] at hb2
    have h9 : ((textG gs).set at_ y)[at_]? = some y := by rw [List.getElem?_set, if_pos rfl, if_pos hal]
    rw [hb2.1, hx] at h9
    exact hxy (Option.some.inj h9)
  refine ⟨_, hpk, groupsAt_len _ _, hkl, hne, fun he => hne ?_⟩
  rw [hb2.1, flt_text, flt_text] at he
  exact (flat_inj (by rw [hl, groupsAt_len]) h hkl he).symm
end Go.Proofs.YtdgbckfnamiebaaDoor.S
