/- A group as it is thought of: what events tell, what can be overheard, and who can have what was said. Plain Lean: no walk in this text. -/
import Derived.Test.YtlpkcbkflfbclaaGreatDoorTmSpec
namespace Go.Proofs.YtlpkcbkflfbclaaGreatDoor.S

def dgN (n : Nat) : List UInt8 := if n < 10 then [UInt8.ofNat (48 + n)] else [UInt8.ofNat (48 + n / 10), UInt8.ofNat (48 + n % 10)]
def nmb (l : List UInt8) (ns : List Nat) : List UInt8 := l ++ ns.flatMap fun n => dgN n ++ [120]
def sOwn : List UInt8 := [111, 119, 110]
def sLink : List UInt8 := [108, 105, 110, 107]
def sText : List UInt8 := [116, 101, 120, 116]
def sIndex : List UInt8 := [105, 110, 100, 101, 120]
def sPost : List UInt8 := [112, 111, 115, 116]
def sPair : List UInt8 := [112, 97, 105, 114]
def ownT (n : Nat) : Tm := .mk 1 (nmb sOwn [n]) []
def linkT (n e : Nat) : Tm := .mk 1 (nmb sLink [n, e]) []
def textT (i : Nat) : Tm := .mk 1 (nmb sText [i]) []
def indexT (i : Nat) : Tm := .mk 1 (nmb sIndex [i]) []
def pairT (a b : Nat) : Tm := .mk 4 sPair [.mk 7 [] [ownT a, pub (ownT b)]]
def signT (a e : Nat) : Tm := .mk 8 [] [ownT a, linkT a e]
def letterT (a b e : Nat) : Tm := .mk 3 [] [pairT a b, signT a e]
def postT (n e i : Nat) : Tm := .mk 4 sPost [linkT n e, indexT i]
def sealT (n e i : Nat) : Tm := .mk 3 [] [postT n e i, textT i]
def msgT (n e i : Nat) : Tm := .mk 8 [] [ownT n, sealT n e i]
def shN (a b : Nat) : Tm := .mk 6 [] [ownT (min a b), ownT (max a b)]
def pairN (a b : Nat) : Tm := .mk 4 sPair [shN a b]
def letterN (a b e : Nat) : Tm := .mk 3 [] [pairN a b, signT a e]

/-- Something that was said: by whom, in which epoch, to whom, and the number of its words. -/
structure Td where
  who : Nat
  epoch : Nat
  names : List Nat
  num : Nat
deriving DecidableEq
structure Sg where
  names : List Nat
  epoch : Nat
  says : Nat
  known : List Tm
  bare : List Nat
  keys : List (Nat × Nat)
  told : List Td
  hist : List (List Nat)
def Sg.init : Sg := ⟨[], 0, 0, [pub (ownT 1), pub (ownT 2), pub (ownT 3), pub (ownT 4), pub (ownT 5), pub (ownT 6)], [], [], [], []⟩
def letters (ns : List Nat) (e : Nat) : List Tm := ns.flatMap fun a => (ns.filter (· ≠ a)).map fun b => letterT a b e
def addN (ns : List Nat) (w : Nat) : List Nat := [1, 2, 3, 4, 5, 6].filter fun n => decide (n ∈ ns ∨ n = w)
def delN (ns : List Nat) (w : Nat) : List Nat := ns.filter (· ≠ w)
def Sg.turn (s : Sg) (ns : List Nat) : Sg := { s with names := ns, epoch := s.epoch + 1, known := s.known ++ letters ns (s.epoch + 1), hist := s.hist ++ [ns] }
def Sg.say (s : Sg) (w : Nat) : Sg := { s with says := s.says + 1, known := s.known ++ [indexT (s.says + 1), msgT w s.epoch (s.says + 1)], told := s.told ++ [⟨w, s.epoch, s.names, s.says + 1⟩] }
def Sg.lay (s : Sg) (w : Nat) : Sg := { s with bare := if w ∈ s.bare then s.bare else s.bare ++ [w], known := s.known ++ (ownT w :: if w ∈ s.names then [linkT w s.epoch] else []), keys := if w ∈ s.names then s.keys ++ [(w, s.epoch)] else s.keys }
/-- One event: the error's number, and what is then. -/
def Sg.step (s : Sg) (k w : Int) : Int × Sg :=
  if w < 1 ∨ 6 < w then (1, s)
  else if k = 1 ∧ w.toNat ∉ s.names then (0, s.turn (addN s.names w.toNat))
  else if k = 2 ∧ w.toNat ∈ s.names then (0, s.turn (delN s.names w.toNat))
  else if k = 3 ∧ w.toNat ∈ s.names then (0, s.say w.toNat)
  else if k = 4 then (0, s.lay w.toNat)
  else if k < 1 ∨ 4 < k then (110, s) else (0, s)
def Sg.runs : Sg → List (Int × Int) → Int × Sg
  | s, [] => (0, s)
  | s, e :: es => if (s.step e.1 e.2).1 = 0 then (s.step e.1 e.2).2.runs es else ((s.step e.1 e.2).1, s)
def sgRun (es : List (Int × Int)) : Int × Sg := if 24 < es.length then (2, Sg.init) else Sg.init.runs es
/-- Can what was said be had? -/
def Td.open (s : Sg) (t : Td) : Bool := t.names.any (fun n => decide (n ≠ t.who ∧ n ∈ s.bare)) || (decide (t.who ∈ s.bare ∧ 1 < t.names.length) || decide ((t.who, t.epoch) ∈ s.keys))

/-! ### What is overheard -/
def KnM (s : Sg) (x : Tm) : Prop :=
  (∃ n, (1 ≤ n ∧ n ≤ 6) ∧ x = pub (ownT n)) ∨ (∃ (e : Nat) (ns : List Nat) (a b : Nat), s.hist[e]? = some ns ∧ a ∈ ns ∧ b ∈ ns ∧ a ≠ b ∧ x = letterT a b (e + 1)) ∨
  (∃ t ∈ s.told, x = indexT t.num ∨ x = msgT t.who t.epoch t.num) ∨ (∃ n ∈ s.bare, x = ownT n) ∨ ∃ k ∈ s.keys, x = linkT k.1 k.2
/-- What holds behind so many events. -/
structure SgInv (m : Nat) (s : Sg) : Prop where
  hl : s.hist.length = s.epoch
  ep : s.epoch ≤ m
  nm : s.names = s.hist.getLast?.getD []
  hs : ∀ ns ∈ s.hist, ns.Pairwise (· < ·) ∧ ∀ n ∈ ns, 1 ≤ n ∧ n ≤ 6
  says : s.says = s.told.length
  tl : s.told.length ≤ m
  kl : s.known.length ≤ 6 + 30 * m
  td : ∀ (i : Nat) (t : Td), s.told[i]? = some t → t.num = i + 1 ∧ 1 ≤ t.epoch ∧ s.hist[t.epoch - 1]? = some t.names ∧ t.who ∈ t.names
  mono : s.told.Pairwise fun a b => a.epoch ≤ b.epoch
  br : (∀ n ∈ s.bare, 1 ≤ n ∧ n ≤ 6) ∧ s.bare.Nodup
  ky : ∀ k ∈ s.keys, k.1 ∈ s.bare ∧ 1 ≤ k.2 ∧ ∃ ns, s.hist[k.2 - 1]? = some ns ∧ k.1 ∈ ns
  mem : ∀ x, x ∈ s.known ↔ KnM s x
theorem nm_ok {m : Nat} {s : Sg} (h : SgInv m s) : s.names.Pairwise (· < ·) ∧ ∀ n ∈ s.names, 1 ≤ n ∧ n ≤ 6 := by
  rw [h.nm]
  cases hg : s.hist.getLast? with
  | none => simp
  | some ns => exact h.hs ns (List.mem_of_getLast? hg)
theorem asc_len {ns : List Nat} (h : ns.Pairwise (· < ·)) (h6 : ∀ n ∈ ns, 1 ≤ n ∧ n ≤ 6) : ns.length ≤ 6 := by
  have hn : ns.Nodup := h.imp fun h => Nat.ne_of_lt h
  have key : ∀ (l big : List Nat), l.Nodup → (∀ x ∈ l, x ∈ big) → l.length ≤ big.length := by
    intro l
    induction l with
    | nil => intro big _ _; exact Nat.zero_le _
    | cons a l ih =>
      intro big h hs
      have ha : a ∈ big := hs a (by simp)
      obtain ⟨h1, h2⟩ := List.nodup_cons.1 h
      have := ih (big.erase a) h2 fun x hx => (List.mem_erase_of_ne (fun e => h1 (by rw [← e]; exact hx))).2 (hs x (by simp [hx]))
      have hl := List.length_erase_of_mem ha
      have hp := List.length_pos_of_mem ha
      rw [List.length_cons]; omega
  have := key ns [1, 2, 3, 4, 5, 6] hn fun x hx => by
    have := h6 x hx
    simp only [List.mem_cons, List.not_mem_nil, or_false]; omega
  simpa using this
theorem addN_mem {ns : List Nat} {w n : Nat} (h : ∀ n ∈ ns, 1 ≤ n ∧ n ≤ 6) (hw : 1 ≤ w ∧ w ≤ 6) : n ∈ addN ns w ↔ n ∈ ns ∨ n = w := by
  unfold addN
  rw [List.mem_filter, decide_eq_true_iff]
  refine ⟨fun h => h.2, fun h' => ⟨?_, h'⟩⟩
  have : 1 ≤ n ∧ n ≤ 6 := h'.elim (h n) fun e => e ▸ hw
  simp only [List.mem_cons, List.not_mem_nil, or_false]; omega
theorem addN_asc (ns : List Nat) (w : Nat) : (addN ns w).Pairwise (· < ·) := List.Pairwise.sublist List.filter_sublist (by decide)
theorem addN_6 {ns : List Nat} {w n : Nat} (h : n ∈ addN ns w) : 1 ≤ n ∧ n ≤ 6 := by
  have := (List.mem_filter.1 h).1
  simp only [List.mem_cons, List.not_mem_nil, or_false] at this; omega
theorem delN_mem {ns : List Nat} {w n : Nat} : n ∈ delN ns w ↔ n ∈ ns ∧ n ≠ w := by unfold delN; rw [List.mem_filter, decide_eq_true_iff]
theorem delN_asc {ns : List Nat} {w : Nat} (h : ns.Pairwise (· < ·)) : (delN ns w).Pairwise (· < ·) := List.Pairwise.sublist List.filter_sublist h
theorem letters_mem {ns : List Nat} {e : Nat} {x : Tm} : x ∈ letters ns e ↔ ∃ a b, a ∈ ns ∧ b ∈ ns ∧ a ≠ b ∧ x = letterT a b e := by
  unfold letters
  simp only [List.mem_flatMap, List.mem_map, List.mem_filter, decide_eq_true_iff]
  constructor
  · rintro ⟨a, ha, b, ⟨hb, hn⟩, rfl⟩; exact ⟨a, b, ha, hb, Ne.symm hn, rfl⟩
  · rintro ⟨a, b, ha, hb, hn, rfl⟩; exact ⟨a, ha, b, ⟨hb, Ne.symm hn⟩, rfl⟩
theorem letters_len {ns : List Nat} {e : Nat} (h : ns.Pairwise (· < ·)) (h6 : ∀ n ∈ ns, 1 ≤ n ∧ n ≤ 6) : (letters ns e).length ≤ 30 := by
  have hl := asc_len h h6
  have hn : ns.Nodup := h.imp fun h => Nat.ne_of_lt h
  have key : ∀ us : List Nat, (∀ a ∈ us, a ∈ ns) → (us.flatMap fun a => (ns.filter (· ≠ a)).map fun b => letterT a b e).length ≤ us.length * (ns.length - 1) := by
    intro us
    induction us with
    | nil => intro _; simp
    | cons a us ih =>
      intro hs
      rw [List.flatMap_cons, List.length_append, List.length_cons, Nat.add_mul, Nat.one_mul, Nat.add_comm]
      refine Nat.add_le_add (ih fun x hx => hs x (by simp [hx])) ?_
      rw [List.length_map]
      have ha : a ∈ ns := hs a (by simp)
      have h2 : (ns.filter (· ≠ a)).length + 1 ≤ ns.length := by
        have := List.length_filter_lt_length_iff_exists (p := fun x => decide (x ≠ a)) (l := ns)
        have hlt := this.2 ⟨a, ha, by simp⟩
        omega
      omega
  have := key ns fun a h => h
  unfold letters
  have h5 : ns.length * (ns.length - 1) ≤ 6 * 5 := Nat.mul_le_mul hl (by omega)
  omega

theorem SgInv.start : SgInv 0 Sg.init := by
  refine ⟨rfl, Nat.le_refl _, rfl, fun ns h => (by cases h), rfl, Nat.le_refl _, (by decide), fun i t h => (by simp [Sg.init] at h), List.Pairwise.nil, ⟨fun n h => (by cases h), List.nodup_nil⟩, fun k h => (by cases h), fun x => ?_⟩
  constructor
  · intro h
    simp only [Sg.init, List.mem_cons, List.not_mem_nil, or_false] at h
    rcases h with rfl | rfl | rfl | rfl | rfl | rfl
    · exact .inl ⟨1, by decide, rfl⟩
    · exact .inl ⟨2, by decide, rfl⟩
    · exact .inl ⟨3, by decide, rfl⟩
    · exact .inl ⟨4, by decide, rfl⟩
    · exact .inl ⟨5, by decide, rfl⟩
    · exact .inl ⟨6, by decide, rfl⟩
  · rintro (⟨n, ⟨h1, h2⟩, rfl⟩ | ⟨e, ns, a, b, h, _⟩ | ⟨t, h, _⟩ | ⟨n, h, _⟩ | ⟨k, h, _⟩)
    · have : n = 1 ∨ n = 2 ∨ n = 3 ∨ n = 4 ∨ n = 5 ∨ n = 6 := by omega
      rcases this with rfl | rfl | rfl | rfl | rfl | rfl <;> simp [Sg.init]
    · simp [Sg.init] at h
    · cases h
    · cases h
    · cases h
theorem SgInv.more {m m' : Nat} {s : Sg} (h : SgInv m s) (hm : m ≤ m') : SgInv m' s := ⟨h.hl, Nat.le_trans h.ep hm, h.nm, h.hs, h.says, Nat.le_trans h.tl hm, by have := h.kl; omega, h.td, h.mono, h.br, h.ky, h.mem⟩
theorem hist_app {s : Sg} {ns ns' : List Nat} {e : Nat} (h : s.hist[e]? = some ns) : (s.hist ++ [ns'])[e]? = some ns := by
  rw [List.getElem?_append_left (List.getElem?_eq_some_iff.1 h).1]; exact h
theorem SgInv.turn {m : Nat} {s : Sg} {ns : List Nat} (h : SgInv m s) (h1 : ns.Pairwise (· < ·)) (h2 : ∀ n ∈ ns, 1 ≤ n ∧ n ≤ 6) : SgInv (m + 1) (s.turn ns) := by
  refine ⟨?_, ?_, ?_, ?_, h.says, ?_, ?_, ?_, h.mono, h.br, ?_, fun x => ?_⟩
  · simp [Sg.turn, h.hl]
  · have := h.ep; simp only [Sg.turn]; omega
  · simp [Sg.turn]
  · intro us hu
    rcases List.mem_append.1 (show us ∈ s.hist ++ [ns] from hu) with hu | hu
    · exact h.hs us hu
    · rw [List.mem_singleton.1 hu]; exact ⟨h1, h2⟩
  · have := h.tl; simp only [Sg.turn]; omega
  · have := h.kl; have := letters_len (e := s.epoch + 1) h1 h2; simp only [Sg.turn, List.length_append]; omega
  · intro i t ht
    obtain ⟨a, b, c, d⟩ := h.td i t ht
    exact ⟨a, b, hist_app c, d⟩
  · intro k hk
    obtain ⟨a, b, us, c, d⟩ := h.ky k hk
    exact ⟨a, b, us, hist_app c, d⟩
  · show x ∈ s.known ++ letters ns (s.epoch + 1) ↔ _
    rw [List.mem_append, h.mem, letters_mem]
    constructor
    · rintro ((h | ⟨e, us, a, b, he, h⟩ | h | h | h) | ⟨a, b, ha, hb, hn, rfl⟩)
      · exact .inl h
      · exact .inr (.inl ⟨e, us, a, b, hist_app he, h⟩)
      · exact .inr (.inr (.inl h))
      · exact .inr (.inr (.inr (.inl h)))
      · exact .inr (.inr (.inr (.inr h)))
      · exact .inr (.inl ⟨s.epoch, ns, a, b, by show (s.hist ++ [ns])[s.epoch]? = some ns; rw [← h.hl, List.getElem?_append_right (Nat.le_refl _)]; simp, ha, hb, hn, rfl⟩)
    · rintro (h' | ⟨e, us, a, b, he, ha, hb, hn, rfl⟩ | h' | h' | h')
      · exact .inl (.inl h')
      · have he' : (s.hist ++ [ns])[e]? = some us := he
        by_cases hlt : e < s.hist.length
        · rw [List.getElem?_append_left hlt] at he'
          exact .inl (.inr (.inl ⟨e, us, a, b, he', ha, hb, hn, rfl⟩))
        · have hel := (List.getElem?_eq_some_iff.1 he').1
          rw [List.length_append, List.length_singleton] at hel
          have hee : e = s.hist.length := by omega
          subst hee
          rw [List.getElem?_append_right (Nat.le_refl _)] at he'
          simp at he'
          subst he'
          exact .inr ⟨a, b, ha, hb, hn, by rw [h.hl]⟩
      · exact .inl (.inr (.inr (.inl h')))
      · exact .inl (.inr (.inr (.inr (.inl h'))))
      · exact .inl (.inr (.inr (.inr (.inr h'))))
theorem SgInv.last {m : Nat} {s : Sg} (h : SgInv m s) {w : Nat} (hw : w ∈ s.names) : 1 ≤ s.epoch ∧ s.hist[s.epoch - 1]? = some s.names := by
  rw [h.nm] at hw
  cases hg : s.hist.getLast? with
  | none => rw [hg] at hw; cases hw
  | some ns =>
    have h1 : s.names = ns := by rw [h.nm, hg]; rfl
    rw [List.getLast?_eq_getElem?] at hg
    have h2 := (List.getElem?_eq_some_iff.1 hg).1
    rw [h1, ← h.hl]
    exact ⟨by omega, hg⟩
theorem SgInv.say {m : Nat} {s : Sg} {w : Nat} (h : SgInv m s) (hw : w ∈ s.names) : SgInv (m + 1) (s.say w) := by
  obtain ⟨h1, h2⟩ := h.last hw
  refine ⟨h.hl, by have := h.ep; simp only [Sg.say]; omega, h.nm, h.hs, ?_, ?_, ?_, ?_, ?_, h.br, h.ky, fun x => ?_⟩
  · simp [Sg.say, h.says]
  · have := h.tl; simp only [Sg.say, List.length_append, List.length_singleton]; omega
  · have := h.kl; simp only [Sg.say, List.length_append, List.length_cons, List.length_nil]; omega
  · intro i t ht
    have ht' : (s.told ++ [⟨w, s.epoch, s.names, s.says + 1⟩])[i]? = some t := ht
    by_cases hlt : i < s.told.length
    · rw [List.getElem?_append_left hlt] at ht'
      exact h.td i t ht'
    · have hel := (List.getElem?_eq_some_iff.1 ht').1
      rw [List.length_append, List.length_singleton] at hel
      have hee : i = s.told.length := by omega
      subst hee
      rw [List.getElem?_append_right (Nat.le_refl _)] at ht'
      simp at ht'
      subst ht'
      exact ⟨by simp [h.says], h1, h2, hw⟩
  · show (s.told ++ [_]).Pairwise _
    rw [List.pairwise_append]
    refine ⟨h.mono, by simp, fun a ha b hb => ?_⟩
    rw [List.mem_singleton] at hb; subst hb
    obtain ⟨i, hi⟩ := List.getElem?_of_mem ha
    obtain ⟨_, h3, h4, _⟩ := h.td i a hi
    have := (List.getElem?_eq_some_iff.1 h4).1
    rw [h.hl] at this
    show a.epoch ≤ s.epoch
    omega
  · show x ∈ s.known ++ [indexT (s.says + 1), msgT w s.epoch (s.says + 1)] ↔ _
    rw [List.mem_append, h.mem]
    simp only [List.mem_cons, List.not_mem_nil, or_false]
    constructor
    · rintro ((h | h | ⟨t, ht, h⟩ | h | h) | h)
      · exact .inl h
      · exact .inr (.inl h)
      · exact .inr (.inr (.inl ⟨t, List.mem_append_left _ ht, h⟩))
      · exact .inr (.inr (.inr (.inl h)))
      · exact .inr (.inr (.inr (.inr h)))
      · exact .inr (.inr (.inl ⟨⟨w, s.epoch, s.names, s.says + 1⟩, List.mem_append_right _ (by simp), h⟩))
    · rintro (h' | h' | ⟨t, ht, h'⟩ | h' | h')
      · exact .inl (.inl h')
      · exact .inl (.inr (.inl h'))
      · rcases List.mem_append.1 (show t ∈ s.told ++ [_] from ht) with ht | ht
        · exact .inl (.inr (.inr (.inl ⟨t, ht, h'⟩)))
        · rw [List.mem_singleton] at ht; subst ht; exact .inr h'
      · exact .inl (.inr (.inr (.inr (.inl h'))))
      · exact .inl (.inr (.inr (.inr (.inr h'))))
theorem SgInv.lay {m : Nat} {s : Sg} {w : Nat} (h : SgInv m s) (hw : 1 ≤ w ∧ w ≤ 6) : SgInv (m + 1) (s.lay w) := by
  have hb : ∀ n, n ∈ (s.lay w).bare ↔ n ∈ s.bare ∨ n = w := by
    intro n
    show n ∈ (if w ∈ s.bare then s.bare else s.bare ++ [w]) ↔ _
    split
    · exact ⟨.inl, fun h => h.elim id fun e => e ▸ by assumption⟩
    · simp
  have hk : ∀ k, k ∈ (s.lay w).keys ↔ k ∈ s.keys ∨ (w ∈ s.names ∧ k = (w, s.epoch)) := by
    intro k
    show k ∈ (if w ∈ s.names then s.keys ++ [(w, s.epoch)] else s.keys) ↔ _
    split
    · rename_i hw'; simp [hw']
    · rename_i hw'; simp [hw']
  refine ⟨h.hl, by have := h.ep; simp only [Sg.lay]; omega, h.nm, h.hs, h.says, by have := h.tl; simp only [Sg.lay]; omega, ?_, h.td, h.mono, ⟨fun n hn => ?_, ?_⟩, fun k hk' => ?_, fun x => ?_⟩
  · have := h.kl
    show (s.known ++ (ownT w :: if w ∈ s.names then [linkT w s.epoch] else [])).length ≤ _
    rw [List.length_append, List.length_cons]
    split <;> simp <;> omega
  · exact ((hb n).1 hn).elim (h.br.1 n) fun e => e ▸ hw
  · show (if w ∈ s.bare then s.bare else s.bare ++ [w]).Nodup
    split
    · exact h.br.2
    · rename_i hn
      rw [List.nodup_append]
      exact ⟨h.br.2, by simp, fun a ha b hb => by rw [List.mem_singleton] at hb; subst hb; rintro rfl; exact hn ha⟩
  · rcases (hk k).1 hk' with hk' | ⟨hw', rfl⟩
    · obtain ⟨a, b, c⟩ := h.ky k hk'
      exact ⟨(hb _).2 (.inl a), b, c⟩
    · obtain ⟨a, b⟩ := h.last hw'
      exact ⟨(hb _).2 (.inr rfl), a, s.names, b, hw'⟩
  · show x ∈ s.known ++ (ownT w :: if w ∈ s.names then [linkT w s.epoch] else []) ↔ _
    rw [List.mem_append, h.mem, List.mem_cons]
    constructor
    · rintro ((h | h | h | ⟨n, hn, h⟩ | ⟨k, hk', h⟩) | h | h)
      · exact .inl h
      · exact .inr (.inl h)
      · exact .inr (.inr (.inl h))
      · exact .inr (.inr (.inr (.inl ⟨n, (hb n).2 (.inl hn), h⟩)))
      · exact .inr (.inr (.inr (.inr ⟨k, (hk k).2 (.inl hk'), h⟩)))
      · exact .inr (.inr (.inr (.inl ⟨w, (hb w).2 (.inr rfl), h⟩)))
      · split at h
        · rename_i hw'
          rw [List.mem_singleton] at h
          exact .inr (.inr (.inr (.inr ⟨(w, s.epoch), (hk _).2 (.inr ⟨hw', rfl⟩), h⟩)))
        · cases h
    · rintro (h | h | h | ⟨n, hn, h⟩ | ⟨k, hk', h⟩)
      · exact .inl (.inl h)
      · exact .inl (.inr (.inl h))
      · exact .inl (.inr (.inr (.inl h)))
      · rcases (hb n).1 hn with hn | rfl
        · exact .inl (.inr (.inr (.inr (.inl ⟨n, hn, h⟩))))
        · exact .inr (.inl h)
      · rcases (hk k).1 hk' with hk' | ⟨hw', rfl⟩
        · exact .inl (.inr (.inr (.inr (.inr ⟨k, hk', h⟩))))
        · exact .inr (.inr (by rw [if_pos hw', List.mem_singleton]; exact h))
theorem SgInv.step {m : Nat} {s : Sg} (h : SgInv m s) (k w : Int) : SgInv (m + 1) (s.step k w).2 := by
  unfold Sg.step
  split
  · exact h.more (by omega)
  · rename_i hw
    have hw' : 1 ≤ w.toNat ∧ w.toNat ≤ 6 := by omega
    split
    · exact h.turn (addN_asc _ _) fun n hn => addN_6 hn
    · split
      · exact h.turn (delN_asc (nm_ok h).1) fun n hn => (nm_ok h).2 n (delN_mem.1 hn).1
      · split
        · rename_i h3; exact h.say h3.2
        · split
          · exact h.lay hw'
          · split <;> exact h.more (by omega)
theorem SgInv.runs {es : List (Int × Int)} : ∀ {m : Nat} {s : Sg}, SgInv m s → SgInv (m + es.length) (s.runs es).2 := by
  induction es with
  | nil => intro m s h; exact h
  | cons e es ih =>
    intro m s h
    rw [Sg.runs]
    split
    · have := ih (h.step e.1 e.2)
      rw [List.length_cons, show m + (es.length + 1) = m + 1 + es.length by omega]; exact this
    · exact h.more (by omega)
theorem sgRun_inv (es : List (Int × Int)) : SgInv 24 (sgRun es).2 := by
  unfold sgRun
  split
  · exact SgInv.start.more (by omega)
  · exact (SgInv.start.runs (es := es)).more (by omega)

/-! ### Names of atoms -/
theorem own_inj : ∀ n < 7, ∀ m < 7, nmb sOwn [n] = nmb sOwn [m] → n = m := by decide +kernel
theorem text_inj : ∀ n < 26, ∀ m < 26, nmb sText [n] = nmb sText [m] → n = m := by decide +kernel
theorem dg_inj : ∀ e < 26, ∀ f < 26, dgN e ++ [120] = dgN f ++ [120] → e = f := by decide +kernel
theorem dg_inj7 : ∀ e < 7, ∀ f < 7, UInt8.ofNat (48 + e) = UInt8.ofNat (48 + f) → e = f := by decide +kernel
theorem link_inj1 (n : Nat) (hn : n < 7) (m : Nat) (hm : m < 7) (e : Nat) (he : e < 26) (f : Nat) (hf : f < 26) (h : nmb sLink [n, e] = nmb sLink [m, f]) : n = m ∧ e = f := by
  have h1 : dgN n = [UInt8.ofNat (48 + n)] := if_pos (by omega)
  have h2 : dgN m = [UInt8.ofNat (48 + m)] := if_pos (by omega)
  have h3 := List.append_cancel_left (show sLink ++ ([n, e].flatMap fun n => dgN n ++ [120]) = sLink ++ ([m, f].flatMap fun n => dgN n ++ [120]) from h)
  simp only [List.flatMap_cons, List.flatMap_nil, List.append_nil, h1, h2, List.cons_append, List.nil_append, List.cons.injEq] at h3
  exact ⟨dg_inj7 n hn m hm h3.1, dg_inj e he f hf h3.2.2⟩
theorem nrm_pairT : ∀ a < 7, ∀ b < 7, a ≠ b → nrm (pairT a b) = pairN a b := by decide +kernel
theorem nrm_ownT (n : Nat) : nrm (ownT n) = ownT n := nrm_atom
theorem nrm_linkT (n e : Nat) : nrm (linkT n e) = linkT n e := nrm_atom
theorem nrm_textT (n : Nat) : nrm (textT n) = textT n := nrm_atom
theorem nrm_indexT (n : Nat) : nrm (indexT n) = indexT n := nrm_atom
theorem nrm_pubT (n : Nat) : nrm (pub (ownT n)) = pub (ownT n) := by rw [pub, nrm_pub, nrm_ownT]
theorem nrm_letterT {a b e : Nat} (ha : a < 7) (hb : b < 7) (hn : a ≠ b) : nrm (letterT a b e) = letterN a b e := by
  rw [letterT, nrm_two (by decide) (by decide), nrm_pairT a ha b hb hn, signT, nrm_two (by decide) (by decide), nrm_ownT, nrm_linkT]; rfl
theorem nrm_msgT (n e i : Nat) : nrm (msgT n e i) = msgT n e i := by
  rw [msgT, nrm_two (by decide) (by decide), nrm_ownT, sealT, nrm_two (by decide) (by decide), postT, nrm_two (by decide) (by decide), nrm_linkT, nrm_indexT, nrm_textT]
theorem chk_own : ∀ n < 7, chk (ownT n) = 0 ∧ chk (pub (ownT n)) = 0 := by decide +kernel
theorem chk_text : ∀ n < 26, chk (textT n) = 0 ∧ chk (indexT n) = 0 := by decide +kernel
theorem chk_link : ∀ n < 7, ∀ e < 26, chk (linkT n e) = 0 := by decide +kernel
theorem chk_letter : ∀ a < 7, ∀ b < 7, ∀ e < 26, chk (letterT a b e) = 0 := by decide +kernel
theorem chk_msg : ∀ a < 7, ∀ e < 26, ∀ i < 26, chk (msgT a e i) = 0 := by decide +kernel

section
variable {m : Nat} {s : Sg}
theorem SgInv.hist6 (h : SgInv m s) {e : Nat} {ns : List Nat} (he : s.hist[e]? = some ns) : e < m ∧ ∀ n ∈ ns, 1 ≤ n ∧ n ≤ 6 := by
  have := (List.getElem?_eq_some_iff.1 he).1
  have h1 := h.hl
  have h2 := h.ep
  exact ⟨by omega, (h.hs ns (List.mem_of_getElem? he)).2⟩
theorem SgInv.tdOk (h : SgInv m s) {t : Td} (ht : t ∈ s.told) : (1 ≤ t.who ∧ t.who ≤ 6) ∧ (1 ≤ t.epoch ∧ t.epoch ≤ m) ∧ (1 ≤ t.num ∧ t.num ≤ m) ∧ s.hist[t.epoch - 1]? = some t.names ∧ t.who ∈ t.names := by
  obtain ⟨i, hi⟩ := List.getElem?_of_mem ht
  obtain ⟨h1, h2, h3, h4⟩ := h.td i t hi
  obtain ⟨h5, h6⟩ := h.hist6 h3
  have h7 := (List.getElem?_eq_some_iff.1 hi).1
  have h8 := h.tl
  exact ⟨h6 _ h4, ⟨h2, by omega⟩, ⟨by omega, by omega⟩, h3, h4⟩
theorem SgInv.chk (h : SgInv m s) (hm : m ≤ 24) : ∀ x ∈ s.known, chk x = 0 := by
  intro x hx
  rcases (h.mem x).1 hx with ⟨n, hn, rfl⟩ | ⟨e, ns, a, b, he, ha, hb, _, rfl⟩ | ⟨t, ht, hx⟩ | ⟨n, hn, rfl⟩ | ⟨k, hk, rfl⟩
  · exact (chk_own n (by omega)).2
  · obtain ⟨h1, h2⟩ := h.hist6 he
    have := h2 a ha; have := h2 b hb
    exact chk_letter a (by omega) b (by omega) (e + 1) (by omega)
  · obtain ⟨h1, h2, h3, _⟩ := h.tdOk ht
    rcases hx with rfl | rfl
    · exact (chk_text _ (by omega)).2
    · exact chk_msg _ (by omega) _ (by omega) _ (by omega)
  · have := h.br.1 n hn
    exact (chk_own n (by omega)).1
  · obtain ⟨h1, h2, ns, h3, h4⟩ := h.ky k hk
    obtain ⟨h5, h6⟩ := h.hist6 h3
    have := h6 _ h4
    exact chk_link _ (by omega) _ (by omega)
/-- All that can stand in what is overheard. -/
def bigS (s : Sg) : List Tm :=
  s.known.map nrm ++ ([1, 2, 3, 4, 5, 6].flatMap (fun a => ownT a :: [1, 2, 3, 4, 5, 6].flatMap fun b => [shN a b, pairN a b]) ++ ((List.range s.hist.length).flatMap (fun e => [1, 2, 3, 4, 5, 6].flatMap fun a => [signT a (e + 1), linkT a (e + 1)]) ++
    s.told.flatMap fun t => [sealT t.who t.epoch t.num, postT t.who t.epoch t.num, linkT t.who t.epoch, indexT t.num, textT t.num]))
theorem len_flatMap {α β : Type} (f : α → List β) (k : Nat) : ∀ l : List α, (∀ x ∈ l, (f x).length ≤ k) → (l.flatMap f).length ≤ k * l.length
  | [], _ => by simp
  | a :: l, h => by
    have h1 := h a (by simp)
    have h2 := len_flatMap f k l fun x hx => h x (by simp [hx])
    rw [List.flatMap_cons, List.length_append, List.length_cons, Nat.mul_add]; omega
theorem SgInv.bigLen (h : SgInv m s) (hm : m ≤ 24) : (bigS s).length ≤ 4000 := by
  unfold bigS
  rw [List.length_append, List.length_append, List.length_append, List.length_map]
  have h1 := h.kl
  have h2 := len_flatMap (fun e : Nat => [1, 2, 3, 4, 5, 6].flatMap fun a => [signT a (e + 1), linkT a (e + 1)]) 12 (List.range s.hist.length) fun x _ => by simp
  have h3 := len_flatMap (fun t : Td => [sealT t.who t.epoch t.num, postT t.who t.epoch t.num, linkT t.who t.epoch, indexT t.num, textT t.num]) 5 s.told fun x _ => by simp
  have h4 : ([1, 2, 3, 4, 5, 6].flatMap (fun a => ownT a :: [1, 2, 3, 4, 5, 6].flatMap fun b => [shN a b, pairN a b])).length = 78 := rfl
  have h5 := h.hl; have h6 := h.ep; have h7 := h.tl
  rw [List.length_range] at h2
  omega
theorem six_mem {n : Nat} (h : 1 ≤ n ∧ n ≤ 6) : n ∈ [1, 2, 3, 4, 5, 6] := by simp only [List.mem_cons, List.not_mem_nil, or_false]; omega
theorem big_own {n : Nat} (h : 1 ≤ n ∧ n ≤ 6) : ownT n ∈ bigS s := List.mem_append_right _ (List.mem_append_left _ (List.mem_flatMap.2 ⟨n, six_mem h, by simp⟩))
theorem big_sh {a b : Nat} (ha : 1 ≤ a ∧ a ≤ 6) (hb : 1 ≤ b ∧ b ≤ 6) : shN a b ∈ bigS s ∧ pairN a b ∈ bigS s :=
  ⟨List.mem_append_right _ (List.mem_append_left _ (List.mem_flatMap.2 ⟨a, six_mem ha, List.mem_cons_of_mem _ (List.mem_flatMap.2 ⟨b, six_mem hb, by simp⟩)⟩)),
   List.mem_append_right _ (List.mem_append_left _ (List.mem_flatMap.2 ⟨a, six_mem ha, List.mem_cons_of_mem _ (List.mem_flatMap.2 ⟨b, six_mem hb, by simp⟩)⟩))⟩
theorem big_sign {a e : Nat} (ha : 1 ≤ a ∧ a ≤ 6) (he : e < s.hist.length) : signT a (e + 1) ∈ bigS s ∧ linkT a (e + 1) ∈ bigS s :=
  ⟨List.mem_append_right _ (List.mem_append_right _ (List.mem_append_left _ (List.mem_flatMap.2 ⟨e, List.mem_range.2 he, List.mem_flatMap.2 ⟨a, six_mem ha, by simp⟩⟩))),
   List.mem_append_right _ (List.mem_append_right _ (List.mem_append_left _ (List.mem_flatMap.2 ⟨e, List.mem_range.2 he, List.mem_flatMap.2 ⟨a, six_mem ha, by simp⟩⟩)))⟩
theorem big_told {t : Td} (ht : t ∈ s.told) {x : Tm} (hx : x ∈ [sealT t.who t.epoch t.num, postT t.who t.epoch t.num, linkT t.who t.epoch, indexT t.num, textT t.num]) : x ∈ bigS s :=
  List.mem_append_right _ (List.mem_append_right _ (List.mem_append_right _ (List.mem_flatMap.2 ⟨t, ht, hx⟩)))
theorem SgInv.big (h : SgInv m s) : ∀ x ∈ s.known, ∀ y ∈ subs (nrm x), y ∈ bigS s := by
  intro x hx y hy
  have hk : nrm x ∈ bigS s := List.mem_append_left _ (List.mem_map_of_mem hx)
  rcases (h.mem x).1 hx with ⟨n, hn, rfl⟩ | ⟨e, ns, a, b, he, ha, hb, hne, rfl⟩ | ⟨t, ht, hx⟩ | ⟨n, hn, rfl⟩ | ⟨k, hk', rfl⟩
  · rw [nrm_pubT] at hy hk
    simp only [pub, ownT, subs, subsL, List.mem_cons, List.not_mem_nil, or_false, List.append_nil] at hy
    rcases hy with rfl | rfl
    · exact hk
    · exact big_own hn
  · obtain ⟨h1, h2⟩ := h.hist6 he
    have ha6 := h2 a ha; have hb6 := h2 b hb
    have hel := (List.getElem?_eq_some_iff.1 he).1
    rw [nrm_letterT (by omega) (by omega) hne] at hy hk
    simp only [letterN, pairN, shN, signT, ownT, linkT, subs, subsL, List.mem_cons, List.mem_append, List.not_mem_nil, or_false, List.append_nil] at hy
    rcases hy with rfl | (rfl | rfl | rfl | rfl) | rfl | rfl | rfl
    · exact hk
    · exact (big_sh ha6 hb6).2
    · exact (big_sh ha6 hb6).1
    · exact big_own (by omega)
    · exact big_own (by omega)
    · exact (big_sign ha6 hel).1
    · exact big_own ha6
    · exact (big_sign ha6 hel).2
  · obtain ⟨h1, h2, h3, _⟩ := h.tdOk ht
    rcases hx with rfl | rfl
    · rw [nrm_indexT] at hy
      simp only [indexT, subs, subsL, List.mem_cons, List.not_mem_nil, or_false] at hy
      subst hy; exact big_told ht (by simp [indexT])
    · rw [nrm_msgT] at hy hk
      simp only [msgT, sealT, postT, ownT, linkT, indexT, textT, subs, subsL, List.mem_cons, List.mem_append, List.not_mem_nil, or_false, List.append_nil] at hy
      rcases hy with rfl | rfl | rfl | (rfl | rfl | rfl) | rfl
      · exact hk
      · exact big_own h1
      · exact big_told ht (by simp [sealT, postT, linkT, indexT, textT])
      · exact big_told ht (by simp [postT, linkT, indexT])
      · exact big_told ht (by simp [linkT])
      · exact big_told ht (by simp [indexT])
      · exact big_told ht (by simp [textT])
  · rw [nrm_ownT] at hy
    simp only [ownT, subs, subsL, List.mem_cons, List.not_mem_nil, or_false] at hy
    subst hy; exact big_own (h.br.1 n hn)
  · rw [nrm_linkT] at hy hk
    simp only [linkT, subs, subsL, List.mem_cons, List.not_mem_nil, or_false] at hy
    subst hy; exact hk
/-- What is overheard is learnt: nothing is refused. -/
theorem SgInv.new (h : SgInv m s) (hm : m ≤ 24) {e : Int} {l : List Tm} (hl : LearnR [] s.known e l) : e = 0 ∧ Kn s.known l := by
  have he : e = 0 := by
    cases hl with
    | ok => rfl
    | bad h1 _ h0 => exact absurd (h.chk hm _ (List.mem_of_getElem? h1)) h0
    | full h1 h2 h3 h4 =>
      exfalso
      have := nodup_le (big := bigS s) h2 fun x hx => by
        obtain ⟨y, hy, hx⟩ := h4 x hx
        rcases hy with hy | ⟨t, ht, rfl⟩
        · cases hy
        · exact h.big t ht x hx
      have := h.bigLen hm
      omega
  exact ⟨he, Kn.nil.next hl he⟩
end

/-! ### Who can have what -/
/-- Can the chain of somebody in an epoch be had? -/
def LkP (s : Sg) (a e : Nat) : Prop := (a, e) ∈ s.keys ∨ (1 ≤ e ∧ ∃ ns b, s.hist[e - 1]? = some ns ∧ a ∈ ns ∧ b ∈ ns ∧ a ≠ b ∧ (a ∈ s.bare ∨ b ∈ s.bare))
/-- What who overhears may know at most. -/
inductive UpS (s : Sg) : Tm → Prop
  | pub (n : Nat) : UpS s (pub (ownT n))
  | letter {e a b : Nat} {ns : List Nat} : s.hist[e]? = some ns → a ∈ ns → b ∈ ns → a ≠ b → UpS s (letterN a b (e + 1))
  | sign {a e : Nat} : LkP s a e → UpS s (signT a e)
  | index (i : Nat) : UpS s (indexT i)
  | msg {t : Td} : t ∈ s.told → UpS s (msgT t.who t.epoch t.num)
  | sld {t : Td} : t ∈ s.told → UpS s (sealT t.who t.epoch t.num)
  | text {t : Td} : t ∈ s.told → LkP s t.who t.epoch → UpS s (textT t.num)
  | own {n : Nat} : n ∈ s.bare → UpS s (ownT n)
  | link {a e : Nat} : (a ≤ 6 ∧ e ≤ 24) → LkP s a e → UpS s (linkT a e)
section
variable {s : Sg}
theorem UpS.kind' {x : Tm} (h : UpS s x) : x.kind = 5 ∨ x.kind = 3 ∨ x.kind = 8 ∨ x.kind = 1 := by
  cases h
  · exact .inl rfl
  · exact .inr (.inl rfl)
  · exact .inr (.inr (.inl rfl))
  · exact .inr (.inr (.inr rfl))
  · exact .inr (.inr (.inl rfl))
  · exact .inr (.inl rfl)
  · exact .inr (.inr (.inr rfl))
  · exact .inr (.inr (.inr rfl))
  · exact .inr (.inr (.inr rfl))
theorem UpS.kind {x : Tm} (h : UpS s x) : x.kind ≠ 4 ∧ x.kind ≠ 6 := by have := h.kind'; omega
theorem hd_ne {a b : List UInt8} (h : a.head? ≠ b.head?) : a ≠ b := fun e => h (by rw [e])
theorem up_own (h : SgInv 24 s) {n : Nat} (hn : n ≤ 6) (hu : UpS s (ownT n)) : n ∈ s.bare := by
  generalize hx : ownT n = x at hu
  cases hu with
  | own hb =>
    rename_i k
    have e : nmb sOwn [n] = nmb sOwn [k] := by injection hx
    have := h.br.1 k hb
    rw [own_inj n (by omega) k (by omega) e]; exact hb
  | index i => injection hx with _ e _; exact absurd e (hd_ne (by simp [nmb, sOwn, sIndex]))
  | text h1 h2 => injection hx with _ e _; exact absurd e (hd_ne (by simp [nmb, sOwn, sText]))
  | link h1 h2 => injection hx with _ e _; exact absurd e (hd_ne (by simp [nmb, sOwn, sLink]))
  | _ => injection hx with e _ _; exact absurd e (by decide)
theorem up_link {a e : Nat} (ha : a ≤ 6) (he : e ≤ 24) (hu : UpS s (linkT a e)) : LkP s a e := by
  generalize hx : linkT a e = x at hu
  cases hu with
  | link h1 h2 =>
    rename_i a' e'
    have h3 : nmb sLink [a, e] = nmb sLink [a', e'] := by injection hx
    obtain ⟨rfl, rfl⟩ := link_inj1 a (by omega) a' (by omega) e (by omega) e' (by omega) h3
    exact h2
  | index i => injection hx with _ e _; exact absurd e (hd_ne (by simp [nmb, sLink, sIndex]))
  | text h1 h2 => injection hx with _ e _; exact absurd e (hd_ne (by simp [nmb, sLink, sText]))
  | own h1 => injection hx with _ e _; exact absurd e (hd_ne (by simp [nmb, sLink, sOwn]))
  | _ => injection hx with e _ _; exact absurd e (by decide)
theorem up_text (h : SgInv 24 s) {t : Td} (ht : t ∈ s.told) (hu : UpS s (textT t.num)) : LkP s t.who t.epoch := by
  generalize hx : textT t.num = x at hu
  cases hu with
  | text h1 h2 =>
    rename_i t'
    have h3 : nmb sText [t.num] = nmb sText [t'.num] := by injection hx
    have := text_inj _ (by have := (h.tdOk ht).2.2.1; omega) _ (by have := (h.tdOk h1).2.2.1; omega) h3
    obtain ⟨i, hi⟩ := List.getElem?_of_mem ht
    obtain ⟨j, hj⟩ := List.getElem?_of_mem h1
    have e1 := (h.td i t hi).1
    have e2 := (h.td j t' hj).1
    obtain rfl : i = j := by omega
    rw [hi] at hj
    rw [Option.some.inj hj]; exact h2
  | index i => injection hx with _ e _; exact absurd e (hd_ne (by simp [nmb, sText, sIndex]))
  | link h1 h2 => injection hx with _ e _; exact absurd e (hd_ne (by simp [nmb, sText, sLink]))
  | own h1 => injection hx with _ e _; exact absurd e (hd_ne (by simp [nmb, sText, sOwn]))
  | _ => injection hx with e _ _; exact absurd e (by decide)
theorem up_pair (h : SgInv 24 s) {a b : Nat} (ha : a ≤ 6) (hb : b ≤ 6) (hm : Mk (UpS s) (pairN a b)) : a ∈ s.bare ∨ b ∈ s.bare := by
  have key : ∀ c, c ≤ 6 → Mk (UpS s) (ownT c) → c ∈ s.bare := fun c hc hm => up_own h hc (Mk.atom_iff.1 hm)
  have hmm : ∀ c, c = min a b ∨ c = max a b → Mk (UpS s) (ownT c) → a ∈ s.bare ∨ b ∈ s.bare := by
    intro c hc hm
    have h1 := key c (by omega) hm
    have : c = a ∨ c = b := by omega
    rcases this with rfl | rfl
    · exact .inl h1
    · exact .inr h1
  rcases (Mk.comp_iff (by decide) (by decide)).1 hm with h1 | h1
  · exact absurd rfl h1.kind.1
  · rcases Mk.six_iff.1 (h1 (shN a b) (by simp)) with h2 | ⟨h2, _⟩ | ⟨h2, _⟩
    · exact absurd rfl h2.kind.2
    · exact hmm _ (.inl rfl) h2
    · exact hmm _ (.inr rfl) h2
theorem two_eq {a b c d : Tm} (h : [a, b] = [c, d]) : a = c ∧ b = d := by simpa using h
theorem UpS.closed (h : SgInv 24 s) : Closed (UpS s) := by
  intro t ht
  cases ht with
  | letter he ha hb hn =>
    rename_i e a b ns
    refine ⟨fun n x y e => (by injection e with e; exact absurd e (by decide)), fun n x y e => (by injection e with e; exact absurd e (by decide)), fun n x y e' => ?_⟩
    injection e' with _ _ e'
    obtain ⟨rfl, rfl⟩ := two_eq e'
    obtain ⟨h5, h6⟩ := h.hist6 he
    have h7 := h6 a ha; have h8 := h6 b hb
    by_cases hb' : a ∈ s.bare ∨ b ∈ s.bare
    · exact .inl (.sign (.inr ⟨by omega, ns, b, he, ha, hb, hn, hb'⟩))
    · exact .inr fun hm => hb' (up_pair h (by omega) (by omega) hm)
  | sign hl =>
    rename_i a e
    refine ⟨fun n x y e => (by injection e with e; exact absurd e (by decide)), fun n x y e' => ?_, fun n x y e => (by injection e with e; exact absurd e (by decide))⟩
    injection e' with _ _ e'
    obtain ⟨rfl, rfl⟩ := two_eq e'
    refine .link ?_ hl
    rcases hl with hk | ⟨h1, ns, b, h2, h3, _⟩
    · obtain ⟨_, h2, ns, h3, h4⟩ := h.ky _ hk
      obtain ⟨h5, h6⟩ := h.hist6 h3
      have := h6 _ h4
      simp only at *; omega
    · obtain ⟨h5, h6⟩ := h.hist6 h2
      have := h6 _ h3
      omega
  | msg ht =>
    refine ⟨fun n x y e => (by injection e with e; exact absurd e (by decide)), fun n x y e' => ?_, fun n x y e => (by injection e with e; exact absurd e (by decide))⟩
    injection e' with _ _ e'
    obtain ⟨rfl, rfl⟩ := two_eq e'
    exact .sld ht
  | sld ht =>
    rename_i t
    refine ⟨fun n x y e => (by injection e with e; exact absurd e (by decide)), fun n x y e => (by injection e with e; exact absurd e (by decide)), fun n x y e' => ?_⟩
    injection e' with _ _ e'
    obtain ⟨rfl, rfl⟩ := two_eq e'
    obtain ⟨h1, h2, h3, _⟩ := h.tdOk ht
    by_cases hl : LkP s t.who t.epoch
    · exact .inl (.text ht hl)
    · refine .inr fun hm => hl ?_
      rcases (Mk.comp_iff (by decide) (by decide)).1 hm with h1' | h1'
      · exact absurd rfl h1'.kind.1
      · exact up_link (by omega) (by omega) (Mk.atom_iff.1 (h1' (linkT t.who t.epoch) (by simp)))
  | _ => exact ⟨fun n x y e => (by injection e with e; exact absurd e (by decide)), fun n x y e => (by injection e with e; exact absurd e (by decide)), fun n x y e => (by injection e with e; exact absurd e (by decide))⟩
theorem up_of (h : SgInv 24 s) : ∀ y, Bs s.known y → UpS s y := by
  rintro y ⟨x, hx, rfl⟩
  rcases (h.mem x).1 hx with ⟨n, hn, rfl⟩ | ⟨e, ns, a, b, he, ha, hb, hne, rfl⟩ | ⟨t, ht, hx⟩ | ⟨n, hn, rfl⟩ | ⟨k, hk, rfl⟩
  · rw [nrm_pubT]; exact .pub n
  · obtain ⟨h1, h2⟩ := h.hist6 he
    have := h2 a ha; have := h2 b hb
    rw [nrm_letterT (by omega) (by omega) hne]; exact .letter he ha hb hne
  · rcases hx with rfl | rfl
    · rw [nrm_indexT]; exact .index _
    · rw [nrm_msgT]; exact .msg ht
  · rw [nrm_ownT]; exact .own hn
  · rw [nrm_linkT]
    obtain ⟨h1, h2, ns, h3, h4⟩ := h.ky k hk
    obtain ⟨h5, h6⟩ := h.hist6 h3
    have := h6 _ h4
    exact .link (by omega) (.inl hk)
theorem dr {s : Sg} {x y : Tm} (h : SgInv 24 s) (hx : KnM s x) (hn : nrm x = y) : Der (Bs s.known) y := .known ⟨x, (h.mem x).2 hx, hn.symm⟩
theorem der_own (h : SgInv 24 s) {n : Nat} (hn : n ∈ s.bare) : Der (Bs s.known) (ownT n) := dr h (.inr (.inr (.inr (.inl ⟨n, hn, rfl⟩)))) (nrm_ownT n)
theorem der_pub (h : SgInv 24 s) {n : Nat} (hn : 1 ≤ n ∧ n ≤ 6) : Der (Bs s.known) (pub (ownT n)) := dr h (.inl ⟨n, hn, rfl⟩) (nrm_pubT n)
theorem der_link (h : SgInv 24 s) {a e : Nat} (hl : LkP s a e) : Der (Bs s.known) (linkT a e) := by
  rcases hl with hk | ⟨h1, ns, b, he, ha, hb, hn, hbr⟩
  · exact dr h (.inr (.inr (.inr (.inr ⟨_, hk, rfl⟩)))) (nrm_linkT a e)
  · obtain ⟨h5, h6⟩ := h.hist6 he
    have ha6 := h6 a ha; have hb6 := h6 b hb
    have hL : Der (Bs s.known) (letterN a b e) := dr h (.inr (.inl ⟨e - 1, ns, a, b, he, ha, hb, hn, rfl⟩)) (by rw [show e - 1 + 1 = e by omega]; exact nrm_letterT (by omega) (by omega) hn)
    have hsh : Der (Bs s.known) (shN a b) := by
      have hlt : a < b ∨ b < a := by omega
      unfold shN
      rcases hlt with hlt | hlt
      · rw [Nat.min_eq_left (by omega), Nat.max_eq_right (by omega)]
        rcases hbr with hbr | hbr
        · exact .sh1 (der_own h hbr) (der_pub h hb6)
        · exact .sh2 (der_own h hbr) (der_pub h ha6)
      · rw [Nat.min_eq_right (by omega), Nat.max_eq_left (by omega)]
        rcases hbr with hbr | hbr
        · exact .sh2 (der_own h hbr) (der_pub h hb6)
        · exact .sh1 (der_own h hbr) (der_pub h ha6)
    have hp : Der (Bs s.known) (pairN a b) := .comp (by decide) (by decide) fun x hx => by rw [List.mem_singleton] at hx; subst hx; exact hsh
    exact .sig (n := []) (a := ownT a) (.opn (n := []) (a := pairN a b) hL hp)
theorem der_text (h : SgInv 24 s) {t : Td} (ht : t ∈ s.told) (hl : LkP s t.who t.epoch) : Der (Bs s.known) (textT t.num) := by
  have h1 : Der (Bs s.known) (msgT t.who t.epoch t.num) := dr h (.inr (.inr (.inl ⟨t, ht, .inr rfl⟩))) (nrm_msgT _ _ _)
  have h2 : Der (Bs s.known) (indexT t.num) := dr h (.inr (.inr (.inl ⟨t, ht, .inl rfl⟩))) (nrm_indexT _)
  have hs : Der (Bs s.known) (sealT t.who t.epoch t.num) := .sig (n := []) (a := ownT t.who) h1
  refine .opn (n := []) (a := postT t.who t.epoch t.num) hs (.comp (by decide) (by decide) fun x hx => ?_)
  simp only [List.mem_cons, List.not_mem_nil, or_false] at hx
  rcases hx with rfl | rfl
  · exact der_link h hl
  · exact h2
theorem open_iff (h : SgInv 24 s) {t : Td} (ht : t ∈ s.told) : t.open s = true ↔ LkP s t.who t.epoch := by
  obtain ⟨h1, h2, h3, h4, h5⟩ := h.tdOk ht
  have hasc := (h.hs _ (List.mem_of_getElem? h4)).1
  unfold Td.open
  rw [Bool.or_eq_true, Bool.or_eq_true, List.any_eq_true, decide_eq_true_iff, decide_eq_true_iff]
  constructor
  · rintro (⟨n, hn, hd⟩ | ⟨hb, hl⟩ | hk)
    · rw [decide_eq_true_iff] at hd
      exact .inr ⟨h2.1, t.names, n, h4, h5, hn, Ne.symm hd.1, .inr hd.2⟩
    · obtain ⟨b, hb', hne⟩ : ∃ b ∈ t.names, b ≠ t.who := by
        refine Classical.byContradiction fun hno => ?_
        have hall : ∀ b ∈ t.names, b = t.who := fun b hb => Classical.byContradiction fun hne => hno ⟨b, hb, hne⟩
        match hnm : t.names, hl with
        | a :: b :: l, _ =>
          rw [hnm] at hall hasc
          have h6 := hall a (by simp); have h7 := hall b (by simp)
          have := (List.pairwise_cons.1 hasc).1 b (by simp)
          omega
      exact .inr ⟨h2.1, t.names, b, h4, h5, hb', Ne.symm hne, .inl hb⟩
    · exact .inl hk
  · rintro (hk | ⟨_, ns, b, he, ha, hb, hn, hbr⟩)
    · exact .inr (.inr hk)
    · rw [h4] at he
      obtain rfl := Option.some.inj he
      rcases hbr with hbr | hbr
      · refine .inr (.inl ⟨hbr, ?_⟩)
        match hnm : t.names with
        | [] => rw [hnm] at ha; cases ha
        | [c] => rw [hnm, List.mem_singleton] at ha hb; exact absurd (ha.trans hb.symm) hn
        | _ :: _ :: _ => simp
      · exact .inl ⟨b, hb, by rw [decide_eq_true_iff]; exact ⟨Ne.symm hn, hbr⟩⟩
/-- WHO MAY HAVE IT. -/
theorem sg_text (h : SgInv 24 s) {t : Td} (ht : t ∈ s.told) : Ans s.known (textT t.num) ↔ t.open s = true := by
  rw [open_iff h ht]
  obtain ⟨h1, h2, h3, h4, h5⟩ := h.tdOk ht
  refine ⟨fun ha => ?_, fun hl => ⟨(chk_text _ (by omega)).1, by rw [nrm_textT]; exact der_text h ht hl⟩⟩
  have h2 := ha.2
  rw [nrm_textT] at h2
  exact up_text h ht (Mk.atom_iff.1 ((UpS.closed h).der (h2.mono (up_of h))))
end
end Go.Proofs.YtlpkcbkflfbclaaGreatDoor.S
