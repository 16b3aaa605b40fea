/- Rows of numbers, turned in place: swaps, what is put in order, heaps; plain. -/
import Derived.Test.YtijijaobialncaaCore
namespace Go.Proofs.Ytijijaobialncaa.S
def g (xs : List Nat) (i : Nat) : Nat := xs.getD i 0
def swp (xs : List Nat) (i j : Nat) : List Nat := (xs.set i (g xs j)).set j (g xs i)
theorem g_at {xs : List Nat} {i : Nat} (h : i < xs.length) : xs[i]? = some (g xs i) := by
  unfold g; rw [List.getD_eq_getElem?_getD, List.getElem?_eq_getElem h]; rfl
theorem g_set {xs : List Nat} {i k v : Nat} (h : i < xs.length) : g (xs.set i v) k = if k = i then v else g xs k := by
  unfold g
  rw [List.getD_eq_getElem?_getD, List.getElem?_set]
  by_cases hk : i = k
  · subst hk; rw [if_pos rfl, if_pos h, if_pos rfl]; rfl
  · rw [if_neg hk, if_neg (fun h => hk h.symm)]; rw [← List.getD_eq_getElem?_getD]
theorem swp_len (xs : List Nat) (i j : Nat) : (swp xs i j).length = xs.length := by unfold swp; rw [List.length_set, List.length_set]
theorem swp_g {xs : List Nat} {i j : Nat} (hi : i < xs.length) (hj : j < xs.length) (k : Nat) : g (swp xs i j) k = if k = j then g xs i else if k = i then g xs j else g xs k := by
  unfold swp
  rw [g_set (by rw [List.length_set]; exact hj), g_set hi]
theorem ext_g {xs ys : List Nat} (hl : xs.length = ys.length) (h : ∀ k, k < xs.length → g xs k = g ys k) : xs = ys := by
  refine List.ext_getElem? fun k => ?_
  by_cases hk : k < xs.length
  · rw [g_at hk, g_at (by omega), h k hk]
  · rw [List.getElem?_eq_none (by omega), List.getElem?_eq_none (by omega)]
theorem swp_perm {xs : List Nat} {i j : Nat} (hi : i < xs.length) (hj : j < xs.length) : (swp xs i j).Perm xs := by
  have key : ∀ (i j : Nat), i < j → j < xs.length → (swp xs i j).Perm xs := by
    intro i j hij hj
    obtain ⟨A, x, B, y, C, h, hA, hB⟩ : ∃ A x B y C, xs = A ++ x :: (B ++ y :: C) ∧ A.length = i ∧ i + 1 + B.length = j := by
      refine ⟨xs.take i, xs[i], (xs.drop (i + 1)).take (j - (i + 1)), xs[j], xs.drop (j + 1), ?_, by rw [List.length_take]; omega, by rw [List.length_take, List.length_drop]; omega⟩
      have h1 : xs.drop (i + 1) = (xs.drop (i + 1)).take (j - (i + 1)) ++ xs.drop j := by
        conv => lhs; rw [← List.take_append_drop (j - (i + 1)) (xs.drop (i + 1))]
        rw [List.drop_drop, show i + 1 + (j - (i + 1)) = j by omega]
      rw [← List.drop_eq_getElem_cons hj, ← h1, ← List.drop_eq_getElem_cons (by omega), List.take_append_drop]
    subst h
    subst hA
    have e : swp (A ++ x :: (B ++ y :: C)) A.length j = A ++ y :: (B ++ x :: C) := by
      refine ext_g (by rw [swp_len]; simp) fun k hk => ?_
      rw [swp_len] at hk
      have gx : g (A ++ x :: (B ++ y :: C)) A.length = x := by unfold g; simp [List.getD_eq_getElem?_getD]
      have gy : g (A ++ x :: (B ++ y :: C)) j = y := by
        subst hB
        unfold g
        rw [List.getD_eq_getElem?_getD, List.getElem?_append_right (by omega), show A.length + 1 + B.length - A.length = B.length + 1 by omega, List.getElem?_cons_succ, List.getElem?_append_right (Nat.le_refl _), Nat.sub_self]; rfl
      rw [swp_g (by simp) hj, gx, gy]
      by_cases h1 : k = j
      · subst h1
        rw [if_pos rfl]
        subst hB
        unfold g
        rw [List.getD_eq_getElem?_getD, List.getElem?_append_right (by omega), show A.length + 1 + B.length - A.length = B.length + 1 by omega, List.getElem?_cons_succ, List.getElem?_append_right (Nat.le_refl _), Nat.sub_self]; rfl
      · rw [if_neg h1]
        by_cases h2 : k = A.length
        · subst h2; rw [if_pos rfl]; unfold g; simp [List.getD_eq_getElem?_getD]
        · rw [if_neg h2]
          unfold g
          rw [List.getD_eq_getElem?_getD, List.getD_eq_getElem?_getD]
          congr 1
          rcases Nat.lt_or_ge k A.length with h3 | h3
          · rw [List.getElem?_append_left h3, List.getElem?_append_left h3]
          · rw [List.getElem?_append_right h3, List.getElem?_append_right h3]
            obtain ⟨q, hq⟩ : ∃ q, k - A.length = q + 1 := ⟨k - A.length - 1, by omega⟩
            rw [hq, List.getElem?_cons_succ, List.getElem?_cons_succ]
            rcases Nat.lt_or_ge q B.length with h4 | h4
            · rw [List.getElem?_append_left h4, List.getElem?_append_left h4]
            · rw [List.getElem?_append_right h4, List.getElem?_append_right h4]
              obtain ⟨r, hr⟩ : ∃ r, q - B.length = r + 1 := ⟨q - B.length - 1, by omega⟩
              rw [hr, List.getElem?_cons_succ, List.getElem?_cons_succ]
    rw [e]
    refine List.Perm.append_left A ?_
    refine (List.Perm.cons y List.perm_middle).trans ?_
    refine (List.Perm.swap x y (B ++ C)).trans ?_
    exact (List.Perm.cons x List.perm_middle).symm
  rcases Nat.lt_trichotomy i j with h | h | h
  · exact key i j h hj
  · subst h
    rw [show swp xs i i = xs from ext_g (swp_len ..) (fun k hk => by rw [swp_g hi hi]; split <;> simp_all)]
  · have : swp xs i j = swp xs j i := ext_g (by rw [swp_len, swp_len]) (fun k hk => by rw [swp_g hi hj, swp_g hj hi]; by_cases h1 : k = j <;> by_cases h2 : k = i <;> simp_all)
    rw [this]; exact key j i h hi
/-- Turned within [a, b) alone. -/
structure Sw (a b : Nat) (xs ys : List Nat) : Prop where
  perm : ys.Perm xs
  out : ∀ k, k < a ∨ b ≤ k → g ys k = g xs k
  inn : ∀ p, a ≤ p → p < b → ∃ q, a ≤ q ∧ q < b ∧ g ys p = g xs q
theorem Sw.refl {a b : Nat} {xs : List Nat} : Sw a b xs xs := ⟨List.Perm.refl _, fun _ _ => rfl, fun p h1 h2 => ⟨p, h1, h2, rfl⟩⟩
theorem Sw.trans {a b : Nat} {xs ys zs : List Nat} (h : Sw a b xs ys) (h2 : Sw a b ys zs) : Sw a b xs zs :=
  ⟨h2.perm.trans h.perm, fun k hk => (h2.out k hk).trans (h.out k hk), fun p h3 h4 => by
    obtain ⟨q, h5, h6, h7⟩ := h2.inn p h3 h4
    obtain ⟨r, h8, h9, h10⟩ := h.inn q h5 h6
    exact ⟨r, h8, h9, h7.trans h10⟩⟩
theorem Sw.wide {a b c d : Nat} {xs ys : List Nat} (h : Sw a b xs ys) (h1 : c ≤ a) (h2 : b ≤ d) : Sw c d xs ys :=
  ⟨h.perm, fun k hk => h.out k (by omega), fun p h3 h4 => by
    by_cases hp : a ≤ p ∧ p < b
    · obtain ⟨q, h5, h6, h7⟩ := h.inn p hp.1 hp.2
      exact ⟨q, by omega, by omega, h7⟩
    · exact ⟨p, h3, h4, h.out p (by omega)⟩⟩
theorem Sw.len {a b : Nat} {xs ys : List Nat} (h : Sw a b xs ys) : ys.length = xs.length := h.perm.length_eq
theorem Sw.swap {a b i j : Nat} {xs : List Nat} (hb : b ≤ xs.length) (h1 : a ≤ i) (h2 : i < b) (h3 : a ≤ j) (h4 : j < b) : Sw a b xs (swp xs i j) := by
  refine ⟨swp_perm (by omega) (by omega), fun k hk => ?_, fun p hp1 hp2 => ?_⟩
  · rw [swp_g (by omega) (by omega), if_neg (by omega), if_neg (by omega)]
  · rw [swp_g (by omega) (by omega)]
    by_cases h5 : p = j
    · rw [if_pos h5]; exact ⟨i, h1, h2, rfl⟩
    · rw [if_neg h5]
      by_cases h6 : p = i
      · rw [if_pos h6]; exact ⟨j, h3, h4, rfl⟩
      · rw [if_neg h6]; exact ⟨p, hp1, hp2, rfl⟩
/-- In order on [a, b). -/
def Asc (a b : Nat) (xs : List Nat) : Prop := ∀ p q, a ≤ p → p < q → q < b → g xs p ≤ g xs q
/-- Below all in [a, b). -/
def Lb (a b : Nat) (xs : List Nat) : Prop := a = 0 ∨ ∀ p, a ≤ p → p < b → g xs (a - 1) < g xs p
theorem Lb.sw {a b : Nat} {xs ys : List Nat} (h : Lb a b xs) (hs : Sw a b xs ys) : Lb a b ys := by
  rcases h with h | h
  · exact .inl h
  · by_cases h0 : a = 0
    · exact .inl h0
    · refine .inr fun p h1 h2 => ?_
      obtain ⟨q, h3, h4, h5⟩ := hs.inn p h1 h2
      rw [h5, hs.out (a - 1) (by omega)]
      exact h q h3 h4
theorem nodup_g {xs : List Nat} (h : xs.Nodup) {i j : Nat} (hi : i < xs.length) (hj : j < xs.length) (he : g xs i = g xs j) : i = j := by
  exact (List.getElem?_inj hi h).1 (by rw [g_at hi, g_at hj, he])
theorem asc_pairwise {xs : List Nat} (h : Asc 0 xs.length xs) : xs.Pairwise (· ≤ ·) := by
  rw [List.pairwise_iff_getElem]
  intro i j hi hj hij
  have := h i j (Nat.zero_le _) hij hj
  have h1 := g_at hi
  have h2 := g_at hj
  rw [List.getElem?_eq_getElem hi] at h1
  rw [List.getElem?_eq_getElem hj] at h2
  rw [Option.some.inj h1, Option.some.inj h2]; exact this
/-- Insertion: in order on [a, i], but for number j on its way to the left. -/
def Insd (a i j : Nat) (xs : List Nat) : Prop := ∀ p q, a ≤ p → p < q → q ≤ i → q ≠ j → g xs p ≤ g xs q
theorem Insd.start {a i : Nat} {xs : List Nat} (h : Asc a i xs) : Insd a i i xs := fun p q h1 h2 h3 h4 => h p q h1 h2 (by omega)
theorem Insd.step {a i j : Nat} {xs : List Nat} (h : Insd a i j xs) (hj : a < j) (hji : j ≤ i) (hl : i < xs.length) (hlt : g xs j < g xs (j - 1)) : Insd a i (j - 1) (swp xs j (j - 1)) := by
  intro p q h1 h2 h3 h4
  rw [swp_g (by omega) (by omega), swp_g (by omega) (by omega), if_neg h4]
  have hjj : j ≠ j - 1 := by omega
  by_cases hq : q = j
  · subst hq
    rw [if_pos rfl]
    by_cases hp : p = q - 1
    · subst hp; rw [if_pos rfl]; omega
    · rw [if_neg hp, if_neg (by omega)]
      exact h p (q - 1) h1 (by omega) (by omega) (by omega)
  · rw [if_neg hq]
    by_cases hp : p = j - 1
    · rw [if_pos hp]; exact h j q (by omega) (by omega) h3 hq
    · rw [if_neg hp]
      by_cases hp2 : p = j
      · rw [if_pos hp2]; exact h (j - 1) q (by omega) (by omega) h3 hq
      · rw [if_neg hp2]; exact h p q h1 h2 h3 hq
theorem Insd.done {a i j : Nat} {xs : List Nat} (h : Insd a i j xs) (hj : j = a ∨ g xs (j - 1) ≤ g xs j) (haj : a ≤ j) : Asc a (i + 1) xs := by
  intro p q h1 h2 h3
  by_cases hq : q = j
  · subst hq
    rcases hj with rfl | hj
    · omega
    · by_cases hp : p = q - 1
      · subst hp; exact hj
      · exact Nat.le_trans (h p (q - 1) h1 (by omega) (by omega) (by omega)) hj
  · exact h p q h1 h2 (by omega) hq
theorem Asc.same {a b : Nat} {xs ys : List Nat} (h : Asc a b xs) (he : ∀ k, a ≤ k → k < b → g ys k = g xs k) : Asc a b ys := fun p q h1 h2 h3 => by rw [he p h1 (by omega), he q (by omega) h3]; exact h p q h1 h2 h3
/-- Is c a child of i in a heap? -/
def Chd (i c : Nat) : Prop := c = 2 * i + 1 ∨ c = 2 * i + 2
/-- A heap of the first hi from f on, but for number r (none: r ≥ hi), from number lo on. -/
def Hp (f lo hi r : Nat) (xs : List Nat) : Prop := ∀ i c, lo ≤ i → c < hi → Chd i c → i ≠ r → g xs (f + c) ≤ g xs (f + i)
structure Sift (f lo hi r : Nat) (xs : List Nat) : Prop where
  heap : Hp f lo hi r xs
  up : ∀ i c, lo ≤ i → Chd i r → c < hi → Chd r c → g xs (f + c) ≤ g xs (f + i)
def Heap (f lo hi : Nat) (xs : List Nat) : Prop := ∀ i c, lo ≤ i → c < hi → Chd i c → g xs (f + c) ≤ g xs (f + i)
theorem Sift.start {f lo hi : Nat} {xs : List Nat} (h : Heap f (lo + 1) hi xs) : Sift f lo hi lo xs := by
  refine ⟨fun i c h1 h2 h3 h4 => h i c (by omega) h2 h3, fun i c h1 h2 h3 h4 => ?_⟩
  rcases h2 with h2 | h2 <;> omega
theorem Sift.leaf {f lo hi r : Nat} {xs : List Nat} (h : Sift f lo hi r xs) (hc : hi ≤ 2 * r + 1) : Heap f lo hi xs := fun i c h1 h2 h3 => by
  refine h.heap i c h1 h2 h3 ?_
  rintro rfl
  rcases h3 with h3 | h3 <;> omega
theorem Sift.done {f lo hi r m : Nat} {xs : List Nat} (h : Sift f lo hi r xs) (hmax : ∀ c, c < hi → Chd r c → g xs (f + c) ≤ g xs (f + m)) (hle : g xs (f + m) ≤ g xs (f + r)) : Heap f lo hi xs := fun i c h1 h2 h3 => by
  by_cases hi' : i = r
  · subst hi'; exact Nat.le_trans (hmax c h2 h3) hle
  · exact h.heap i c h1 h2 h3 hi'
theorem Sift.step {f lo hi r m : Nat} {xs : List Nat} (h : Sift f lo hi r xs) (hl : f + hi ≤ xs.length) (hr : r < hi) (hlo : lo ≤ r) (hm : m < hi) (hc : Chd r m) (hmax : ∀ c, c < hi → Chd r c → g xs (f + c) ≤ g xs (f + m)) (hlt : g xs (f + r) < g xs (f + m)) : Sift f lo hi m (swp xs (f + r) (f + m)) := by
  have hrm : r < m := by rcases hc with h | h <;> omega
  have G : ∀ k, g (swp xs (f + r) (f + m)) (f + k) = if k = m then g xs (f + r) else if k = r then g xs (f + m) else g xs (f + k) := fun k => by
    rw [swp_g (by omega) (by omega)]
    by_cases h1 : k = m
    · rw [if_pos h1, if_pos (by omega)]
    · rw [if_neg h1, if_neg (by omega)]
      by_cases h2 : k = r
      · rw [if_pos h2, if_pos (by omega)]
      · rw [if_neg h2, if_neg (by omega)]
  refine ⟨fun i c h1 h2 h3 h4 => ?_, fun i c h1 h2 h3 h4 => ?_⟩
  · rw [G c, G i, if_neg h4]
    by_cases hir : i = r
    · subst hir
      rw [if_pos rfl]
      by_cases hcm : c = m
      · rw [if_pos hcm]; omega
      · rw [if_neg hcm, if_neg (by rcases h3 with h | h <;> omega)]; exact hmax c h2 h3
    · rw [if_neg hir]
      have hcm : c ≠ m := by
        rintro rfl
        apply hir
        rcases h3 with h3 | h3 <;> rcases hc with hc | hc <;> omega
      rw [if_neg hcm]
      by_cases hcr : c = r
      · subst hcr
        rw [if_pos rfl]
        exact h.up i m h1 h3 hm hc
      · rw [if_neg hcr]; exact h.heap i c h1 h2 h3 hir
  · have hir : i = r := by rcases h2 with h2 | h2 <;> rcases hc with hc | hc <;> omega
    subst hir
    have hcm : c ≠ m := by rcases h4 with h | h <;> omega
    have hci : c ≠ i := by rcases h4 with h | h <;> omega
    rw [G c, G i, if_neg hcm, if_neg hci, if_neg (by omega), if_pos rfl]
    exact h.heap m c (by omega) h3 h4 (by omega)
theorem Heap.top {f hi : Nat} {xs : List Nat} (h : Heap f 0 hi xs) : ∀ p, p < hi → g xs (f + p) ≤ g xs (f + 0) := by
  intro p
  induction p using Nat.strongRecOn with
  | ind p ih =>
    intro hp
    rcases Nat.eq_zero_or_pos p with h0 | h0
    · subst h0; exact Nat.le_refl _
    · exact Nat.le_trans (h ((p - 1) / 2) p (Nat.zero_le _) hp (by unfold Chd; omega)) (ih ((p - 1) / 2) (by omega) (by omega))
/-- The second half of a sort by heaps: the first k are a heap, those behind are in order, and none is less. -/
structure Hs (f hi k : Nat) (xs : List Nat) : Prop where
  heap : Heap f 0 k xs
  ord : ∀ p q, p < q → k ≤ q → q < hi → g xs (f + p) ≤ g xs (f + q)
theorem Hs.swap {f hi k : Nat} {xs : List Nat} (h : Hs f hi (k + 1) xs) (hl : f + hi ≤ xs.length) (hk : k < hi) : Heap f 1 k (swp xs f (f + k)) ∧ (∀ p q, p < q → k ≤ q → q < hi → g (swp xs f (f + k)) (f + p) ≤ g (swp xs f (f + k)) (f + q)) := by
  have G : ∀ j, g (swp xs f (f + k)) (f + j) = if j = k then g xs (f + 0) else if j = 0 then g xs (f + k) else g xs (f + j) := fun j => by
    rw [swp_g (by omega) (by omega)]
    by_cases h1 : j = k
    · rw [if_pos h1, if_pos (by omega)]; rfl
    · rw [if_neg h1, if_neg (by omega)]
      by_cases h2 : j = 0
      · rw [if_pos h2, if_pos (by omega)]
      · rw [if_neg h2, if_neg (by omega)]
  have T := h.heap.top
  refine ⟨fun i c h1 h2 h3 => ?_, fun p q h1 h2 h3 => ?_⟩
  · have hci : i < c := by rcases h3 with h | h <;> omega
    rw [G c, G i, if_neg (by omega), if_neg (by omega), if_neg (by omega), if_neg (by omega)]
    exact h.heap i c (Nat.zero_le _) (by omega) h3
  · rw [G p, G q]
    by_cases hq : q = k
    · subst hq
      rw [if_pos rfl, if_neg (by omega)]
      by_cases hp : p = 0
      · rw [if_pos hp]; exact T q (by omega)
      · rw [if_neg hp]; exact T p (by omega)
    · rw [if_neg hq, if_neg (show ¬ q = 0 by omega)]
      by_cases hp : p = k
      · rw [if_pos hp]; exact h.ord 0 q (by omega) (by omega) h3
      · rw [if_neg hp]
        by_cases hp0 : p = 0
        · rw [if_pos hp0]; exact h.ord k q (by omega) (by omega) h3
        · rw [if_neg hp0]; exact h.ord p q h1 (by omega) h3
theorem Hs.next {f hi k : Nat} {xs ys : List Nat} (h : ∀ p q, p < q → k ≤ q → q < hi → g xs (f + p) ≤ g xs (f + q)) (hs : Sw f (f + k) xs ys) (hh : Heap f 0 k ys) : Hs f hi k ys := by
  refine ⟨hh, fun p q h1 h2 h3 => ?_⟩
  rw [hs.out (f + q) (by omega)]
  by_cases hp : p < k
  · obtain ⟨r, h4, h5, h6⟩ := hs.inn (f + p) (by omega) (by omega)
    rw [h6, show r = f + (r - f) by omega]
    exact h (r - f) q (by omega) h2 h3
  · rw [hs.out (f + p) (by omega)]; exact h p q h1 h2 h3
theorem Hs.done {f hi : Nat} {xs : List Nat} (h : Hs f hi 0 xs) : Asc f (f + hi) xs := fun p q h1 h2 h3 => by
  have := h.ord (p - f) (q - f) (by omega) (Nat.zero_le _) (by omega)
  rwa [show f + (p - f) = p by omega, show f + (q - f) = q by omega] at this
theorem Hs.start {f hi : Nat} {xs : List Nat} (h : Heap f 0 hi xs) : Hs f hi hi xs := ⟨h, fun _ _ _ h2 h3 => by omega⟩
/-- Parting: those from a + 1 up to i are less than number a, those behind j are not. -/
structure Prt (a b i : Nat) (j : Nat) (xs : List Nat) : Prop where
  lo : a < i
  hi : j < b
  le : i ≤ j + 1
  less : ∀ p, a < p → p < i → g xs p < g xs a
  more : ∀ q, j < q → q < b → g xs a ≤ g xs q
theorem Prt.start {a b : Nat} {xs : List Nat} (h : a < b) : Prt a b (a + 1) (b - 1) xs := ⟨by omega, by omega, by omega, fun p h1 h2 => by omega, fun q h1 h2 => by omega⟩
theorem Prt.up {a b i j : Nat} {xs : List Nat} (h : Prt a b i j xs) (hij : i ≤ j) (hl : g xs i < g xs a) : Prt a b (i + 1) j xs := ⟨by have := h.lo; omega, h.hi, by omega, fun p h1 h2 => by
  by_cases hp : p = i
  · subst hp; exact hl
  · exact h.less p h1 (by omega), h.more⟩
theorem Prt.down {a b i j : Nat} {xs : List Nat} (h : Prt a b i j xs) (hij : i ≤ j) (hl : g xs a ≤ g xs j) : Prt a b i (j - 1) xs := ⟨h.lo, by have := h.hi; omega, by omega, h.less, fun q h1 h2 => by
  by_cases hq : q = j
  · subst hq; exact hl
  · exact h.more q (by omega) h2⟩
theorem Prt.swap {a b i j : Nat} {xs : List Nat} (h : Prt a b i j xs) (hb : b ≤ xs.length) (hij : i ≤ j) (h1 : g xs a ≤ g xs i) (h2 : g xs j < g xs a) : Prt a b (i + 1) (j - 1) (swp xs i j) := by
  have hlo := h.lo
  have hhi := h.hi
  have hne : i ≠ j := by rintro rfl; omega
  have G : ∀ k, g (swp xs i j) k = if k = j then g xs i else if k = i then g xs j else g xs k := fun k => swp_g (by omega) (by omega) k
  refine ⟨by omega, by omega, by omega, fun p h3 h4 => ?_, fun q h3 h4 => ?_⟩
  · rw [G p, G a, if_neg (by omega), if_neg (show a ≠ j by omega), if_neg (show a ≠ i by omega)]
    by_cases hp : p = i
    · rw [if_pos hp]; exact h2
    · rw [if_neg hp]; exact h.less p h3 (by omega)
  · rw [G q, G a, if_neg (show a ≠ j by omega), if_neg (show a ≠ i by omega)]
    by_cases hq : q = j
    · rw [if_pos hq]; exact h1
    · rw [if_neg hq, if_neg (by omega)]; exact h.more q (by omega) h4
/-- Parted at m. -/
structure Parted (a b m : Nat) (xs : List Nat) : Prop where
  lo : a ≤ m
  hi : m < b
  less : ∀ p, a ≤ p → p < m → g xs p < g xs m
  more : ∀ q, m < q → q < b → g xs m ≤ g xs q
theorem Prt.done {a b i j : Nat} {xs : List Nat} (h : Prt a b i j xs) (hb : b ≤ xs.length) (hij : j < i) : Parted a b j (swp xs j a) := by
  have hlo := h.lo
  have hhi := h.hi
  have hle := h.le
  have G : ∀ k, g (swp xs j a) k = if k = a then g xs j else if k = j then g xs a else g xs k := fun k => swp_g (by omega) (by omega) k
  refine ⟨by omega, hhi, fun p h1 h2 => ?_, fun q h1 h2 => ?_⟩
  · rw [G p, G j, if_neg (show j ≠ a by omega), if_pos rfl]
    by_cases hp : p = a
    · rw [if_pos hp]; exact h.less j (by omega) (by omega)
    · rw [if_neg hp, if_neg (by omega)]; exact h.less p (by omega) (by omega)
  · rw [G q, G j, if_neg (show q ≠ a by omega), if_neg (show q ≠ j by omega)]
    by_cases hj : j = a
    · rw [if_pos hj, hj]; exact h.more q (by omega) h2
    · rw [if_neg hj, if_pos rfl]; exact h.more q h1 h2
/-- What is done but for [c, d): all pairs but those within are in order. -/
def But (a b c d : Nat) (xs : List Nat) : Prop := ∀ p q, a ≤ p → p < q → q < b → (p < c ∨ d ≤ q) → g xs p ≤ g xs q
theorem But.sw {a b c d : Nat} {xs ys : List Nat} (h : But a b c d xs) (hs : Sw c d xs ys) (hac : a ≤ c) (hdb : d ≤ b) : But a b c d ys := by
  intro p q h1 h2 h3 h4
  by_cases hp : c ≤ p ∧ p < d
  · obtain ⟨r, h5, h6, h7⟩ := hs.inn p hp.1 hp.2
    rw [h7, hs.out q (by omega)]
    exact h r q (by omega) (by omega) h3 (by omega)
  · rw [hs.out p (by omega)]
    by_cases hq : c ≤ q ∧ q < d
    · obtain ⟨r, h5, h6, h7⟩ := hs.inn q hq.1 hq.2
      rw [h7]
      exact h p r h1 (by omega) (by omega) (by omega)
    · rw [hs.out q (by omega)]; exact h p q h1 h2 h3 h4
theorem But.start {a b : Nat} {xs : List Nat} : But a b a b xs := fun p q h1 h2 h3 h4 => by omega
theorem But.done {a b c d : Nat} {xs : List Nat} (h : But a b c d xs) (hs : Asc c d xs) : Asc a b xs := fun p q h1 h2 h3 => by
  by_cases hp : p < c ∨ d ≤ q
  · exact h p q h1 h2 h3 hp
  · exact hs p q (by omega) h2 (by omega)
theorem Parted.sw {a b c d m : Nat} {xs ys : List Nat} (h : Parted a b m xs) (hs : Sw c d xs ys) (hcd : a ≤ c ∧ d ≤ m ∨ m < c ∧ d ≤ b) : Parted a b m ys := by
  have hm : g ys m = g xs m := hs.out m (by omega)
  refine ⟨h.lo, h.hi, fun p h1 h2 => ?_, fun q h1 h2 => ?_⟩
  · rw [hm]
    by_cases hp : c ≤ p ∧ p < d
    · obtain ⟨r, h5, h6, h7⟩ := hs.inn p hp.1 hp.2
      rw [h7]; exact h.less r (by omega) (by omega)
    · rw [hs.out p (by omega)]; exact h.less p h1 h2
  · rw [hm]
    by_cases hp : c ≤ q ∧ q < d
    · obtain ⟨r, h5, h6, h7⟩ := hs.inn q hp.1 hp.2
      rw [h7]; exact h.more r (by omega) (by omega)
    · rw [hs.out q (by omega)]; exact h.more q h1 h2
theorem But.left {a b c d m : Nat} {xs : List Nat} (h : But a b c d xs) (hp : Parted c d m xs) (hs : Asc c m xs) : But a b (m + 1) d xs := by
  intro p q h1 h2 h3 h4
  by_cases h5 : p < c ∨ d ≤ q
  · exact h p q h1 h2 h3 h5
  · rcases Nat.lt_trichotomy q m with h6 | h6 | h6
    · exact hs p q (by omega) h2 h6
    · subst h6; exact Nat.le_of_lt (hp.less p (by omega) h2)
    · by_cases h7 : p = m
      · subst h7; exact hp.more q h6 (by omega)
      · exact Nat.le_trans (Nat.le_of_lt (hp.less p (by omega) (by omega))) (hp.more q h6 (by omega))
theorem But.right {a b c d m : Nat} {xs : List Nat} (h : But a b c d xs) (hp : Parted c d m xs) (hs : Asc (m + 1) d xs) : But a b c m xs := by
  intro p q h1 h2 h3 h4
  by_cases h5 : p < c ∨ d ≤ q
  · exact h p q h1 h2 h3 h5
  · rcases Nat.lt_trichotomy p m with h6 | h6 | h6
    · by_cases h7 : q = m
      · subst h7; exact Nat.le_of_lt (hp.less p (by omega) h6)
      · exact Nat.le_trans (Nat.le_of_lt (hp.less p (by omega) h6)) (hp.more q (by omega) (by omega))
    · subst h6; exact hp.more q h2 (by omega)
    · exact hs p q (by omega) h2 (by omega)
theorem Parted.lb {a b m : Nat} {xs : List Nat} (h : Parted a b m xs) (hn : xs.Nodup) (hb : b ≤ xs.length) : Lb (m + 1) b xs := by
  refine .inr fun p h1 h2 => ?_
  rw [Nat.add_sub_cancel]
  have hhi := h.hi
  rcases Nat.lt_or_eq_of_le (h.more p (by omega) h2) with h3 | h3
  · exact h3
  · exact absurd (nodup_g hn (by omega) (by omega) h3) (by omega)
theorem Lb.sub {a b c : Nat} {xs : List Nat} (h : Lb a b xs) (hc : c ≤ b) : Lb a c xs := h.imp id fun h p h1 h2 => h p h1 (by omega)
end Go.Proofs.Ytijijaobialncaa.S
