/- A group as it is thought of: what events tell, what can be overheard, and who can have what was said. Plain Lean: no walk in this text. -/
import Derived.Test.YtfjedhmffccgnaaGreatDoorTmSpec
namespace Go.Proofs.YtfjedhmffccgnaaGreatDoor.S
def dgN (n : Nat) : List UInt8 := if n < 10 then [UInt8.ofNat (48 + n)] else [UInt8.ofNat (48 + n / 10), UInt8.ofNat (48 + n % 10)]
def nmb (l : List UInt8) (ns : List Nat) : List UInt8 := l ++ ns.flatMap fun n => dgN n ++ [120]
def sOwn : List UInt8 := [111, 119, 110]
def sLink : List UInt8 := [108, 105, 110, 107]
def sText : List UInt8 := [116, 101, 120, 116]
def sIndex : List UInt8 := [105, 110, 100, 101, 120]
def sPost : List UInt8 := [112, 111, 115, 116]
def sPair : List UInt8 := [112, 97, 105, 114]
def ownT (n : Nat) : Tm := .mk 1 (nmb sOwn [n]) []
def linkT (n e : Nat) : Tm := .mk 1 (nmb sLink [n, e]) []
def textT (i : Nat) : Tm := .mk 1 (nmb sText [i]) []
def indexT (i : Nat) : Tm := .mk 1 (nmb sIndex [i]) []
def pairT (a b : Nat) : Tm := .mk 4 sPair [.mk 7 [] [ownT a, pub (ownT b)]]
def signT (a e : Nat) : Tm := .mk 8 [] [ownT a, linkT a e]
def letterT (a b e : Nat) : Tm := .mk 3 [] [pairT a b, signT a e]
def postT (n e i : Nat) : Tm := .mk 4 sPost [linkT n e, indexT i]
def sealT (n e i : Nat) : Tm := .mk 3 [] [postT n e i, textT i]
def msgT (n e i : Nat) : Tm := .mk 8 [] [ownT n, sealT n e i]
structure Td where
  who : Nat
  epoch : Nat
  names : List Nat
  num : Nat
deriving DecidableEq
structure Sg where
  names : List Nat
  epoch : Nat
  says : Nat
  known : List Tm
  bare : List Nat
  keys : List (Nat × Nat)
  told : List Td
  hist : List (List Nat)
def Sg.init : Sg := ⟨[], 0, 0, [pub (ownT 1), pub (ownT 2), pub (ownT 3), pub (ownT 4), pub (ownT 5), pub (ownT 6)], [], [], [], []⟩
def letters (ns : List Nat) (e : Nat) : List Tm := ns.flatMap fun a => (ns.filter (· ≠ a)).map fun b => letterT a b e
def addN (ns : List Nat) (w : Nat) : List Nat := [1, 2, 3, 4, 5, 6].filter fun n => decide (n ∈ ns ∨ n = w)
def delN (ns : List Nat) (w : Nat) : List Nat := ns.filter (· ≠ w)
def Sg.turn (s : Sg) (ns : List Nat) : Sg := { s with names := ns, epoch := s.epoch + 1, known := s.known ++ letters ns (s.epoch + 1), hist := s.hist ++ [ns] }
def Sg.say (s : Sg) (w : Nat) : Sg := { s with says := s.says + 1, known := s.known ++ [indexT (s.says + 1), msgT w s.epoch (s.says + 1)], told := s.told ++ [⟨w, s.epoch, s.names, s.says + 1⟩] }
def Sg.lay (s : Sg) (w : Nat) : Sg := { s with bare := if w ∈ s.bare then s.bare else s.bare ++ [w], known := s.known ++ (ownT w :: if w ∈ s.names then [linkT w s.epoch] else []), keys := if w ∈ s.names then s.keys ++ [(w, s.epoch)] else s.keys }
def Sg.step (s : Sg) (k w : Int) : Int × Sg :=
  if w < 1 ∨ 6 < w then (1, s)
  else if k = 1 ∧ w.toNat ∉ s.names then (0, s.turn (addN s.names w.toNat))
  else if k = 2 ∧ w.toNat ∈ s.names then (0, s.turn (delN s.names w.toNat))
  else if k = 3 ∧ w.toNat ∈ s.names then (0, s.say w.toNat)
  else if k = 4 then (0, s.lay w.toNat)
  else if k < 1 ∨ 4 < k then (110, s) else (0, s)
def Sg.runs : Sg → List (Int × Int) → Int × Sg
  | s, [] => (0, s)
  | s, e :: es => if (s.step e.1 e.2).1 = 0 then (s.step e.1 e.2).2.runs es else ((s.step e.1 e.2).1, s)
def sgRun (es : List (Int × Int)) : Int × Sg := if 24 < es.length then (2, Sg.init) else Sg.init.runs es
def KnM (s : Sg) (x : Tm) : Prop :=
  (∃ n, (1 ≤ n ∧ n ≤ 6) ∧ x = pub (ownT n)) ∨ (∃ (e : Nat) (ns : List Nat) (a b : Nat), s.hist[e]? = some ns ∧ a ∈ ns ∧ b ∈ ns ∧ a ≠ b ∧ x = letterT a b (e + 1)) ∨
  (∃ t ∈ s.told, x = indexT t.num ∨ x = msgT t.who t.epoch t.num) ∨ (∃ n ∈ s.bare, x = ownT n) ∨ ∃ k ∈ s.keys, x = linkT k.1 k.2
structure SgInv (m : Nat) (s : Sg) : Prop where
  hl : s.hist.length = s.epoch
  ep : s.epoch ≤ m
  nm : s.names = s.hist.getLast?.getD []
  hs : ∀ ns ∈ s.hist, ns.Pairwise (· < ·) ∧ ∀ n ∈ ns, 1 ≤ n ∧ n ≤ 6
  says : s.says = s.told.length
  tl : s.told.length ≤ m
  kl : s.known.length ≤ 6 + 30 * m
  td : ∀ (i : Nat) (t : Td), s.told[i]? = some t → t.num = i + 1 ∧ 1 ≤ t.epoch ∧ s.hist[t.epoch - 1]? = some t.names ∧ t.who ∈ t.names
  mono : s.told.Pairwise fun a b => a.epoch ≤ b.epoch
  br : (∀ n ∈ s.bare, 1 ≤ n ∧ n ≤ 6) ∧ s.bare.Nodup
  ky : ∀ k ∈ s.keys, k.1 ∈ s.bare ∧ 1 ≤ k.2 ∧ ∃ ns, s.hist[k.2 - 1]? = some ns ∧ k.1 ∈ ns
  mem : ∀ x, x ∈ s.known ↔ KnM s x
theorem nm_ok {m : Nat} {s : Sg} (h : SgInv m s) : s.names.Pairwise (· < ·) ∧ ∀ n ∈ s.names, 1 ≤ n ∧ n ≤ 6 := by
 rw [h.nm]
 cases hg : s.hist.getLast? with
 | none => simp
 | some ns => exact h.hs ns (List.mem_of_getLast? hg)
theorem asc_len {ns : List Nat} (h : ns.Pairwise (· < ·)) (h6 : ∀ n ∈ ns, 1 ≤ n ∧ n ≤ 6) : ns.length ≤ 6 := by
 have hn : ns.Nodup := h.imp fun h => Nat.ne_of_lt h
 have key : ∀ (l big : List Nat), l.Nodup → (∀ x ∈ l, x ∈ big) → l.length ≤ big.length := by
  intro l
  induction l with
  | nil => intro big _ _; exact Nat.zero_le _
  | cons a l ih =>
   intro big h hs
   have ha : a ∈ big := hs a (by simp)
   obtain ⟨h1, h2⟩ := List.nodup_cons.1 h
   have := ih (big.erase a) h2 fun x hx => (List.mem_erase_of_ne (fun e => h1 (by rw [← e]; exact hx))).2 (hs x (by simp [hx]))
   have hl := List.length_erase_of_mem ha
   have hp := List.length_pos_of_mem ha
   rw [List.length_cons]; omega
 have := key ns [1, 2, 3, 4, 5, 6] hn fun x hx => by
  have := h6 x hx
  simp only [List.mem_cons, List.not_mem_nil, or_false]; omega
 simpa using this
theorem addN_mem {ns : List Nat} {w n : Nat} (h : ∀ n ∈ ns, 1 ≤ n ∧ n ≤ 6) (hw : 1 ≤ w ∧ w ≤ 6) : n ∈ addN ns w ↔ n ∈ ns ∨ n = w := by
 unfold addN
 rw [List.mem_filter, decide_eq_true_iff]
 refine ⟨fun h => h.2, fun h' => ⟨?_, h'⟩⟩
 have : 1 ≤ n ∧ n ≤ 6 := h'.elim (h n) fun e => e ▸ hw
 simp only [List.mem_cons, List.not_mem_nil, or_false]; omega
theorem addN_asc (ns : List Nat) (w : Nat) : (addN ns w).Pairwise (· < ·) := List.Pairwise.sublist List.filter_sublist (by decide)
theorem addN_6 {ns : List Nat} {w n : Nat} (h : n ∈ addN ns w) : 1 ≤ n ∧ n ≤ 6 := by
 have := (List.mem_filter.1 h).1
 simp only [List.mem_cons, List.not_mem_nil, or_false] at this; omega
theorem delN_mem {ns : List Nat} {w n : Nat} : n ∈ delN ns w ↔ n ∈ ns ∧ n ≠ w := by unfold delN; rw [List.mem_filter, decide_eq_true_iff]
theorem delN_asc {ns : List Nat} {w : Nat} (h : ns.Pairwise (· < ·)) : (delN ns w).Pairwise (· < ·) := List.Pairwise.sublist List.filter_sublist h
theorem letters_mem {ns : List Nat} {e : Nat} {x : Tm} : x ∈ letters ns e ↔ ∃ a b, a ∈ ns ∧ b ∈ ns ∧ a ≠ b ∧ x = letterT a b e := by
 unfold letters
 simp only [List.mem_flatMap, List.mem_map, List.mem_filter, decide_eq_true_iff]
 constructor
 · rintro ⟨a, ha, b, ⟨hb, hn⟩, rfl⟩; exact ⟨a, b, ha, hb, Ne.symm hn, rfl⟩
 · rintro ⟨a, b, ha, hb, hn, rfl⟩; exact ⟨a, ha, b, ⟨hb, Ne.symm hn⟩, rfl⟩
theorem letters_len {ns : List Nat} {e : Nat} (h : ns.Pairwise (· < ·)) (h6 : ∀ n ∈ ns, 1 ≤ n ∧ n ≤ 6) : (letters ns e).length ≤ 30 := by
 have hl := asc_len h h6
 have hn : ns.Nodup := h.imp fun h => Nat.ne_of_lt h
 have key : ∀ us : List Nat, (∀ a ∈ us, a ∈ ns) → (us.flatMap fun a => (ns.filter (· ≠ a)).map fun b => letterT a b e).length ≤ us.length * (ns.length - 1) := by
  intro us
  induction us with
  | nil => intro _; simp
  | cons a us ih =>
   intro hs
   rw [List.flatMap_cons, List.length_append, List.length_cons, Nat.add_mul, Nat.one_mul, Nat.add_comm]
   refine Nat.add_le_add (ih fun x hx => hs x (by simp [hx])) ?_
   rw [List.length_map]
   have ha : a ∈ ns := hs a (by simp)
   have h2 : (ns.filter (· ≠ a)).length + 1 ≤ ns.length := by
    have := List.length_filter_lt_length_iff_exists (p := fun x => decide (x ≠ a)) (l := ns)
    have hlt := this.2 ⟨a, ha, by simp⟩
    omega
   omega
 have := key ns fun a h => h
 unfold letters
 have h5 : ns.length * (ns.length - 1) ≤ 6 * 5 := Nat.mul_le_mul hl (by omega)
 omega
theorem SgInv.start : SgInv 0 Sg.init := by
 refine ⟨rfl, Nat.le_refl _, rfl, fun ns h => (by cases h), rfl, Nat.le_refl _, (by decide), fun i t h => (by simp [Sg.init] at h), List.Pairwise.nil, ⟨fun n h => (by cases h), List.nodup_nil⟩, fun k h => (by cases h), fun x => ?_⟩
 constructor
 ·
  intro h
  simp only [Sg.init, List.mem_cons, List.not_mem_nil, or_false] at h
  rcases h with rfl | rfl | rfl | rfl | rfl | rfl
  · exact .inl ⟨1, by decide, rfl⟩
  · exact .inl ⟨2, by decide, rfl⟩
  · exact .inl ⟨3, by decide, rfl⟩
  · exact .inl ⟨4, by decide, rfl⟩
  · exact .inl ⟨5, by decide, rfl⟩
  · exact .inl ⟨6, by decide, rfl⟩
 ·
  rintro (⟨n, ⟨h1, h2⟩, rfl⟩ | ⟨e, ns, a, b, h, _⟩ | ⟨t, h, _⟩ | ⟨n, h, _⟩ | ⟨k, h, _⟩)
  ·
   have : n = 1 ∨ n = 2 ∨ n = 3 ∨ n = 4 ∨ n = 5 ∨ n = 6 := by omega
   rcases this with rfl | rfl | rfl | rfl | rfl | rfl <;> simp [Sg.init]
  · simp [Sg.init] at h
  · cases h
  · cases h
  · cases h
theorem SgInv.more {m m' : Nat} {s : Sg} (h : SgInv m s) (hm : m ≤ m') : SgInv m' s := ⟨h.hl, Nat.le_trans h.ep hm, h.nm, h.hs, h.says, Nat.le_trans h.tl hm, by have := h.kl; omega, h.td, h.mono, h.br, h.ky, h.mem⟩
theorem hist_app {s : Sg} {ns ns' : List Nat} {e : Nat} (h : s.hist[e]? = some ns) : (s.hist ++ [ns'])[e]? = some ns := by
 rw [List.getElem?_append_left (List.getElem?_eq_some_iff.1 h).1]; exact h
theorem SgInv.turn {m : Nat} {s : Sg} {ns : List Nat} (h : SgInv m s) (h1 : ns.Pairwise (· < ·)) (h2 : ∀ n ∈ ns, 1 ≤ n ∧ n ≤ 6) : SgInv (m + 1) (s.turn ns) := by
 refine ⟨?_, ?_, ?_, ?_, h.says, ?_, ?_, ?_, h.mono, h.br, ?_, fun x => ?_⟩
 · simp [Sg.turn, h.hl]
 · have := h.ep; simp only [Sg.turn]; omega
 · simp [Sg.turn]
 ·
  intro us hu
  rcases List.mem_append.1 (show us ∈ s.hist ++ [ns] from hu) with hu | hu
  · exact h.hs us hu
  · rw [List.mem_singleton.1 hu]; exact ⟨h1, h2⟩
 · have := h.tl; simp only [Sg.turn]; omega
 · have := h.kl; have := letters_len (e := s.epoch + 1) h1 h2; simp only [Sg.turn, List.length_append]; omega
 ·
  intro i t ht
  obtain ⟨a, b, c, d⟩ := h.td i t ht
  exact ⟨a, b, hist_app c, d⟩
 ·
  intro k hk
  obtain ⟨a, b, us, c, d⟩ := h.ky k hk
  exact ⟨a, b, us, hist_app c, d⟩
 ·
  show x ∈ s.known ++ letters ns (s.epoch + 1) ↔ _
  rw [List.mem_append, h.mem, letters_mem]
  constructor
  ·
   rintro ((h | ⟨e, us, a, b, he, h⟩ | h | h | h) | ⟨a, b, ha, hb, hn, rfl⟩)
   · exact .inl h
   · exact .inr (.inl ⟨e, us, a, b, hist_app he, h⟩)
   · exact .inr (.inr (.inl h))
   · exact .inr (.inr (.inr (.inl h)))
   · exact .inr (.inr (.inr (.inr h)))
   · exact .inr (.inl ⟨s.epoch, ns, a, b, by show (s.hist ++ [ns])[s.epoch]? = some ns; rw [← h.hl, List.getElem?_append_right (Nat.le_refl _)]; simp, ha, hb, hn, rfl⟩)
  ·
   rintro (h' | ⟨e, us, a, b, he, ha, hb, hn, rfl⟩ | h' | h' | h')
   · exact .inl (.inl h')
   ·
    have he' : (s.hist ++ [ns])[e]? = some us := he
    by_cases hlt : e < s.hist.length
    ·
     rw [List.getElem?_append_left hlt] at he'
     exact .inl (.inr (.inl ⟨e, us, a, b, he', ha, hb, hn, rfl⟩))
    ·
     have hel := (List.getElem?_eq_some_iff.1 he').1
     rw [List.length_append, List.length_singleton] at hel
     have hee : e = s.hist.length := by omega
     subst hee
     rw [List.getElem?_append_right (Nat.le_refl _)] at he'
     simp at he'
     subst he'
     exact .inr ⟨a, b, ha, hb, hn, by rw [h.hl]⟩
   · exact .inl (.inr (.inr (.inl h')))
   · exact .inl (.inr (.inr (.inr (.inl h'))))
   · exact .inl (.inr (.inr (.inr (.inr h'))))
theorem SgInv.last {m : Nat} {s : Sg} (h : SgInv m s) {w : Nat} (hw : w ∈ s.names) : 1 ≤ s.epoch ∧ s.hist[s.epoch - 1]? = some s.names := by
 rw [h.nm] at hw
 cases hg : s.hist.getLast? with
 | none => rw [hg] at hw; cases hw
 | some ns =>
  have h1 : s.names = ns := by rw [h.nm, hg]; rfl
  rw [List.getLast?_eq_getElem?] at hg
  have h2 := (List.getElem?_eq_some_iff.1 hg).1
  rw [h1, ← h.hl]
  exact ⟨by omega, hg⟩
theorem SgInv.say {m : Nat} {s : Sg} {w : Nat} (h : SgInv m s) (hw : w ∈ s.names) : SgInv (m + 1) (s.say w) := by
 obtain ⟨h1, h2⟩ := h.last hw
 refine ⟨h.hl, by have := h.ep; simp only [Sg.say]; omega, h.nm, h.hs, ?_, ?_, ?_, ?_, ?_, h.br, h.ky, fun x => ?_⟩
 · simp [Sg.say, h.says]
 · have := h.tl; simp only [Sg.say, List.length_append, List.length_singleton]; omega
 · have := h.kl; simp only [Sg.say, List.length_append, List.length_cons, List.length_nil]; omega
 ·
  intro i t ht
  have ht' : (s.told ++ [⟨w, s.epoch, s.names, s.says + 1⟩])[i]? = some t := ht
  by_cases hlt : i < s.told.length
  ·
   rw [List.getElem?_append_left hlt] at ht'
   exact h.td i t ht'
  ·
   have hel := (List.getElem?_eq_some_iff.1 ht').1
   rw [List.length_append, List.length_singleton] at hel
   have hee : i = s.told.length := by omega
   subst hee
   rw [List.getElem?_append_right (Nat.le_refl _)] at ht'
   simp at ht'
   subst ht'
   exact ⟨by simp [h.says], h1, h2, hw⟩
 ·
  show (s.told ++ [_]).Pairwise _
  rw [List.pairwise_append]
  refine ⟨h.mono, by simp, fun a ha b hb => ?_⟩
  rw [List.mem_singleton] at hb; subst hb
  obtain ⟨i, hi⟩ := List.getElem?_of_mem ha
  obtain ⟨_, h3, h4, _⟩ := h.td i a hi
  have := (List.getElem?_eq_some_iff.1 h4).1
  rw [h.hl] at this
  show a.epoch ≤ s.epoch
  omega
 ·
  show x ∈ s.known ++ [indexT (s.says + 1), msgT w s.epoch (s.says + 1)] ↔ _
  rw [List.mem_append, h.mem]
  simp only [List.mem_cons, List.not_mem_nil, or_false]
  constructor
  ·
   rintro ((h | h | ⟨t, ht, h⟩ | h | h) | h)
   · exact .inl h
   · exact .inr (.inl h)
   · exact .inr (.inr (.inl ⟨t, List.mem_append_left _ ht, h⟩))
   · exact .inr (.inr (.inr (.inl h)))
   · exact .inr (.inr (.inr (.inr h)))
   · exact .inr (.inr (.inl ⟨⟨w, s.epoch, s.names, s.says + 1⟩, List.mem_append_right _ (by simp), h⟩))
  ·
   rintro (h' | h' | ⟨t, ht, h'⟩ | h' | h')
   · exact .inl (.inl h')
   · exact .inl (.inr (.inl h'))
   ·
    rcases List.mem_append.1 (show t ∈ s.told ++ [_] from ht) with ht | ht
    · exact .inl (.inr (.inr (.inl ⟨t, ht, h'⟩)))
    · rw [List.mem_singleton] at ht; subst ht; exact .inr h'
   · exact .inl (.inr (.inr (.inr (.inl h'))))
   · exact .inl (.inr (.inr (.inr (.inr h'))))
theorem SgInv.lay {m : Nat} {s : Sg} {w : Nat} (h : SgInv m s) (hw : 1 ≤ w ∧ w ≤ 6) : SgInv (m + 1) (s.lay w) := by
 have hb : ∀ n, n ∈ (s.lay w).bare ↔ n ∈ s.bare ∨ n = w := by
  intro n
  show n ∈ (if w ∈ s.bare then s.bare else s.bare ++ [w]) ↔ _
  split
  · exact ⟨.inl, fun h => h.elim id fun e => e ▸ by assumption⟩
  · simp
 have hk : ∀ k, k ∈ (s.lay w).keys ↔ k ∈ s.keys ∨ (w ∈ s.names ∧ k = (w, s.epoch)) := by
  intro k
  show k ∈ (if w ∈ s.names then s.keys ++ [(w, s.epoch)] else s.keys) ↔ _
  split
  · rename_i hw'; simp [hw']
  · rename_i hw'; simp [hw']
 refine ⟨h.hl, by have := h.ep; simp only [Sg.lay]; omega, h.nm, h.hs, h.says, by have := h.tl; simp only [Sg.lay]; omega, ?_, h.td, h.mono, ⟨fun n hn => ?_, ?_⟩, fun k hk' => ?_, fun x => ?_⟩
 ·
  have := h.kl
  show (s.known ++ (ownT w :: if w ∈ s.names then [linkT w s.epoch] else [])).length ≤ _
  rw [List.length_append, List.length_cons]
  split <;> simp <;> omega
 · exact ((hb n).1 hn).elim (h.br.1 n) fun e => e ▸ hw
 ·
  show (if w ∈ s.bare then s.bare else s.bare ++ [w]).Nodup
  split
  · exact h.br.2
  ·
   rename_i hn
   rw [List.nodup_append]
   exact ⟨h.br.2, by simp, fun a ha b hb => by rw [List.mem_singleton] at hb; subst hb; rintro rfl; exact hn ha⟩
 ·
  rcases (hk k).1 hk' with hk' | ⟨hw', rfl⟩
  ·
   obtain ⟨a, b, c⟩ := h.ky k hk'
   exact ⟨(hb _).2 (.inl a), b, c⟩
  ·
   obtain ⟨a, b⟩ := h.last hw'
   exact ⟨(hb _).2 (.inr rfl), a, s.names, b, hw'⟩
 ·
  show x ∈ s.known ++ (ownT w :: if w ∈ s.names then [linkT w s.epoch] else []) ↔ _
  rw [List.mem_append, h.mem, List.mem_cons]
  constructor
  ·
   rintro ((h | h | h | ⟨n, hn, h⟩ | ⟨k, hk', h⟩) | h | h)
   · exact .inl h
   · exact .inr (.inl h)
   · exact .inr (.inr (.inl h))
   · exact .inr (.inr (.inr (.inl ⟨n, (hb n).2 (.inl hn), h⟩)))
   · exact .inr (.inr (.inr (.inr ⟨k, (hk k).2 (.inl hk'), h⟩)))
   · exact .inr (.inr (.inr (.inl ⟨w, (hb w).2 (.inr rfl), h⟩)))
   ·
    split at h
    ·
     rename_i hw'
     rw [List.mem_singleton] at h
     exact .inr (.inr (.inr (.inr ⟨(w, s.epoch), (hk _).2 (.inr ⟨hw', rfl⟩), h⟩)))
    · cases h
  ·
   rintro (h | h | h | ⟨n, hn, h⟩ | ⟨k, hk', h⟩)
   · exact .inl (.inl h)
   · exact .inl (.inr (.inl h))
   · exact .inl (.inr (.inr (.inl h)))
   ·
    rcases (hb n).1 hn with hn | rfl
    · exact .inl (.inr (.inr (.inr (.inl ⟨n, hn, h⟩))))
    · exact .inr (.inl h)
   ·
    rcases (hk k).1 hk' with hk' | ⟨hw', rfl⟩
    · exact .inl (.inr (.inr (.inr (.inr ⟨k, hk', h⟩))))
    · exact .inr (.inr (by rw [if_pos hw', List.mem_singleton]; exact h))
theorem SgInv.step {m : Nat} {s : Sg} (h : SgInv m s) (k w : Int) : SgInv (m + 1) (s.step k w).2 := by
 unfold Sg.step
 split
 · exact h.more (by omega)
 ·
  rename_i hw
  have hw' : 1 ≤ w.toNat ∧ w.toNat ≤ 6 := by omega
  split
  · exact h.turn (addN_asc _ _) fun n hn => addN_6 hn
  ·
   split
   · exact h.turn (delN_asc (nm_ok h).1) fun n hn => (nm_ok h).2 n (delN_mem.1 hn).1
   ·
    split
    · rename_i h3; exact h.say h3.2
    ·
     split
     · exact h.lay hw'
     · split <;> exact h.more (by omega)
theorem SgInv.runs {es : List (Int × Int)} : ∀ {m : Nat} {s : Sg}, SgInv m s → SgInv (m + es.length) (s.runs es).2 := by
 induction es with
 | nil => intro m s h; exact h
 | cons e es ih =>
  intro m s h
  rw [Sg.runs]
  split
  ·
   have := ih (h.step e.1 e.2)
   rw [List.length_cons, show m + (es.length + 1) = m + 1 + es.length by omega]; exact this
  · exact h.more (by omega)
section
variable {m : Nat} {s : Sg}
theorem len_flatMap {α β : Type} (f : α → List β) (k : Nat) : ∀ l : List α, (∀ x ∈ l, (f x).length ≤ k) → (l.flatMap f).length ≤ k * l.length
 | [], _ => by simp
 | a :: l, h => by
  have h1 := h a (by simp)
  have h2 := len_flatMap f k l fun x hx => h x (by simp [hx])
  rw [List.flatMap_cons, List.length_append, List.length_cons, Nat.mul_add]; omega
theorem six_mem {n : Nat} (h : 1 ≤ n ∧ n ≤ 6) : n ∈ [1, 2, 3, 4, 5, 6] := by simp only [List.mem_cons, List.not_mem_nil, or_false]; omega
end
section
variable {s : Sg}
end
end Go.Proofs.YtfjedhmffccgnaaGreatDoor.S
