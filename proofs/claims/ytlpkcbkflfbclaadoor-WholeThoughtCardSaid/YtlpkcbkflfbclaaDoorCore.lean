/- The core of this claim's proofs: a small separation logic over the model's weakest preconditions ('Code.wp'): frames as functions, the call's own memory as a list of blocks. Holds for every program. -/
import Derived.Tactics
import Derived.OrdersHeld
import Derived.Below
import Derived.Deep.LoopGhost
import Derived.KernelRfl
namespace Go.Proofs.YtlpkcbkflfbclaaDoor.S
open Go.RowKit

abbrev Env := Nat → Value
def put (e : Env) (d : Nat) (v : Value) : Env := fun t => bif Nat.beq t d then v else e t
def putO (e : Env) : Option Nat → Value → Env
  | some d, v => put e d v
  | none, _ => e
def ev (n : Nat) (e : Env) : Operand → Value
  | .tmp t => bif Nat.blt t n then e t else undef
  | .const v => v
  | .global g => .pointer (some ⟨g, 0, none⟩)
  | .func f => .func (.func f) #[] #[]

structure Rel (n : Nat) (e : Env) (a : Act) : Prop where
  defers : a.defers = []
  size : a.tmps.size = n
  get : ∀ t, t < n → a.tmps.getD t undef = e t

theorem Rel.eval {n : Nat} {e : Env} {a : Act} (h : Rel n e a) : a.eval = ev n e := by
  funext x
  cases x with
  | tmp t =>
    show a.tmps.getD t undef = bif Nat.blt t n then e t else undef
    by_cases hlt : t < n
    · rw [show Nat.blt t n = true from by simpa [Nat.blt_eq] using hlt]; exact h.get t hlt
    · rw [show Nat.blt t n = false from by
        cases hb : Nat.blt t n with
        | false => rfl
        | true => exact absurd (by simpa [Nat.blt_eq] using hb) hlt]
      simp [Array.getD, h.size, hlt]
  | _ => rfl

theorem Rel.put {n : Nat} {e : Env} {a : Act} (h : Rel n e a) (d : Option Nat) (v : Value) : Rel n (putO e d v) (a.put d v) := by
  cases d with
  | none => exact h
  | some d =>
    refine ⟨h.defers, by simp [Act.put, h.size], fun t ht => ?_⟩
    have hg := h.get t ht
    have hs : t < a.tmps.size := by rw [h.size]; exact ht
    show (a.tmps.setIfInBounds d v).getD t undef = bif Nat.beq t d then v else e t
    by_cases htd : t = d
    · subst htd
      simp [Array.getD, hs]
    · have hb : Nat.beq t d = false := by
        cases hb : Nat.beq t d with
        | false => rfl
        | true => exact absurd (Nat.eq_of_beq_eq_true hb) htd
      rw [hb]
      simp only [cond_false]
      rw [← hg]
      simp [Array.getD, hs, Ne.symm htd]

/-- A block's number, and (where it matters) the type as which it was made. -/
class IsMap where
  v : Bool
instance noMap : IsMap := ⟨false⟩
structure Key where
  n : Nat
  tag : Option TypeId
  [mp : IsMap]
instance : Coe Nat Key := ⟨fun n => ⟨n, none⟩⟩
/-- A block of the call's own (or one that it may write): its number, from which place on its cells are known, the cells, how many cells it has in all. -/
structure Blk where
  key : Key
  off : Nat
  cells : List Value
  size : Nat
abbrev Blk.id (B : Blk) : Nat := B.key.n

/-- A map's entries as cells: key, value, key, value. -/
def flatM (es : List MapEntry) : List Value := es.flatMap fun x => [x.key, x.val]
structure Blk.In (B : Blk) (w : World) : Prop where
  room : B.off + B.cells.length ≤ B.size
  here' : B.key.mp.v = false → ∃ c E lo hi, w.heap[B.id]? = some (.cells c E (lo, hi)) ∧ c.size = B.size ∧ (∀ i, i < B.cells.length → c[B.off + i]? = B.cells[i]?) ∧ (lo = hi ∨ B.size ≤ lo) ∧ (B.key.tag = none ∨ (B.key.tag = some E ∧ lo = hi))
  mapped : B.key.mp.v = true → ∃ es clock, w.heap[B.id]? = some (.map es clock) ∧ flatM es.toList = B.cells
theorem Blk.In.here {B : Blk} {w : World} (h : B.In w) (hm : B.key.mp.v = false := by rfl) : ∃ c E lo hi, w.heap[B.id]? = some (.cells c E (lo, hi)) ∧ c.size = B.size ∧ (∀ i, i < B.cells.length → c[B.off + i]? = B.cells[i]?) ∧ (lo = hi ∨ B.size ≤ lo) ∧ (B.key.tag = none ∨ (B.key.tag = some E ∧ lo = hi)) := h.here' hm

theorem Blk.In.ofCells {B : Blk} {w : World} (hr : B.off + B.cells.length ≤ B.size) (h : ∃ c E lo hi, w.heap[B.id]? = some (.cells c E (lo, hi)) ∧ c.size = B.size ∧ (∀ i, i < B.cells.length → c[B.off + i]? = B.cells[i]?) ∧ (lo = hi ∨ B.size ≤ lo) ∧ (B.key.tag = none ∨ (B.key.tag = some E ∧ lo = hi))) (hm : B.key.mp.v = false := by rfl) : B.In w :=
  ⟨hr, fun _ => h, fun h' => by rw [hm] at h'; cases h'⟩

structure St (w0 : World) (M : List Nat) (L : List Blk) (w : World) : Prop where
  os : w.os = w0.os
  tape : w.tape = w0.tape
  output : w.output = w0.output
  size : w0.heap.size ≤ w.heap.size
  old : ∀ b, b < w0.heap.size → b ∉ M → w.heap[b]? = w0.heap[b]?
  distinct : (L.map Blk.id).Nodup
  inw : ∀ B ∈ L, B.In w
  may : ∀ B ∈ L, B.id < w0.heap.size → B.id ∈ M
  drawn : w0.drawn ≤ w.drawn

theorem Blk.In.lt {B : Blk} {w : World} (h : B.In w) : B.id < w.heap.size := by
  rcases Nat.lt_or_ge B.id w.heap.size with hl | hl
  · exact hl
  · cases hm : B.key.mp.v with
    | false => obtain ⟨c, E, lo, hi, hh, _⟩ := h.here hm; simp [Array.getElem?_eq_none hl] at hh
    | true => obtain ⟨es, clock, hh, _⟩ := h.mapped hm; simp [Array.getElem?_eq_none hl] at hh

theorem Blk.In.of_same {B : Blk} {w w' : World} (h : B.In w) (hs : w'.heap[B.id]? = w.heap[B.id]?) : B.In w' :=
  ⟨h.room, fun hm => by obtain ⟨c, E, lo, hi, hh, r⟩ := h.here hm; exact ⟨c, E, lo, hi, hs.trans hh, r⟩, fun hm => by obtain ⟨es, clock, hh, r⟩ := h.mapped hm; exact ⟨es, clock, hs.trans hh, r⟩⟩

theorem St.refl (w : World) : St w [] [] w := ⟨rfl, rfl, rfl, Nat.le_refl _, fun _ _ _ => rfl, by simp, by simp, by simp, Nat.le_refl _⟩

theorem St.start {w : World} {L : List Blk} (hd : (L.map Blk.id).Nodup) (h : ∀ B ∈ L, B.In w) : St w (L.map Blk.id) L w :=
  ⟨rfl, rfl, rfl, Nat.le_refl _, fun _ _ _ => rfl, hd, h, fun _ hB _ => List.mem_map_of_mem hB, Nat.le_refl _⟩

theorem St.drew {w0 : World} {M : List Nat} {L : List Blk} {w : World} (h : St w0 M L w) (k : Nat) (hk : w.drawn ≤ k) : St w0 M L { w with drawn := k } :=
  ⟨h.os, h.tape, h.output, h.size, h.old, h.distinct, fun B hB => ⟨(h.inw B hB).room, (h.inw B hB).here', (h.inw B hB).mapped⟩, h.may, Nat.le_trans h.drawn hk⟩

theorem St.sub {w0 : World} {M : List Nat} {L L' : List Blk} {w : World} (h : St w0 M L w) (hs : L'.Sublist L) : St w0 M L' w :=
  ⟨h.os, h.tape, h.output, h.size, h.old, h.distinct.sublist (hs.map _), fun B hB => h.inw B (hs.subset hB), fun B hB => h.may B (hs.subset hB), h.drawn⟩

theorem St.perm {w0 : World} {M : List Nat} {L L' : List Blk} {w : World} (h : St w0 M L w) (hs : L'.Perm L) : St w0 M L' w :=
  ⟨h.os, h.tape, h.output, h.size, h.old, (hs.map _).nodup_iff.2 h.distinct, fun B hB => h.inw B (hs.subset hB), fun B hB => h.may B (hs.subset hB), h.drawn⟩

/-- A world whose blocks are as they were, but for a new one. -/
theorem St.new {w0 : World} {M : List Nat} {L : List Blk} {w w' : World} (h : St w0 M L w) {B : Blk} {c : Array Value} {E : TypeId} {lo hi : Nat}
    (ho : w'.os = w.os) (ht : w'.tape = w.tape) (hp : w'.output = w.output) (hsz : w'.heap.size = w.heap.size + 1) (hkeep : ∀ b, b < w.heap.size → w'.heap[b]? = w.heap[b]?) (hnew : w'.heap[w.heap.size]? = some (.cells c E (lo, hi)))
    (hid : B.id = w.heap.size) (hroom : B.off + B.cells.length ≤ B.size) (hc : c.size = B.size) (hk : ∀ i, i < B.cells.length → c[B.off + i]? = B.cells[i]?)
    (hf : lo = hi ∨ B.size ≤ lo) (hdr : w.drawn ≤ w'.drawn) (htg : B.key.tag = none ∨ (B.key.tag = some E ∧ lo = hi) := by exact .inl rfl) (hmp : B.key.mp.v = false := by rfl) : St w0 M (B :: L) w' := by
  refine ⟨ho.trans h.os, ht.trans h.tape, hp.trans h.output, ?_, ?_, ?_, ?_, ?_, Nat.le_trans h.drawn hdr⟩
  · have := h.size; omega
  · intro b hb hm
    have := h.size
    rw [hkeep b (by omega)]; exact h.old b hb hm
  · simp only [List.map_cons, List.nodup_cons]
    refine ⟨fun hm => ?_, h.distinct⟩
    obtain ⟨B', hB', he⟩ := List.mem_map.1 hm
    have := (h.inw B' hB').lt
    omega
  · intro B' hB'
    rcases List.mem_cons.1 hB' with rfl | hB'
    · exact ⟨hroom, fun _ => ⟨c, E, lo, hi, hid ▸ hnew, hc, hk, hf, htg⟩, fun h => by rw [hmp] at h; cases h⟩
    · exact (h.inw B' hB').of_same (hkeep _ (h.inw B' hB').lt)
  · intro B' hB' hlt
    rcases List.mem_cons.1 hB' with rfl | hB'
    · have := h.size; omega
    · exact h.may B' hB' hlt

theorem St.push {w0 : World} {M : List Nat} {L : List Blk} {w : World} (h : St w0 M L w) {B : Blk} {c : Array Value} {E : TypeId} {lo hi : Nat} {k : Nat}
    (hid : B.id = w.heap.size) (hroom : B.off + B.cells.length ≤ B.size) (hc : c.size = B.size) (hk : ∀ i, i < B.cells.length → c[B.off + i]? = B.cells[i]?)
    (hf : lo = hi ∨ B.size ≤ lo) (htg : B.key.tag = none ∨ (B.key.tag = some E ∧ lo = hi) := by exact .inl rfl) (hmp : B.key.mp.v = false := by rfl) (hkd : w.drawn ≤ k := by first | exact Nat.le_refl _ | exact Nat.le_succ _ | exact Nat.le_add_right _ _) : St w0 M (B :: L) { w with heap := w.heap.push (.cells c E (lo, hi)), drawn := k } :=
  h.new (c := c) (E := E) (lo := lo) (hi := hi) (w' := { w with heap := w.heap.push (.cells c E (lo, hi)), drawn := k }) rfl rfl rfl (by simp) (fun b hb => by
    show (w.heap.push _)[b]? = _
    rw [Array.getElem?_push, if_neg (by omega)]) (by show (w.heap.push _)[_]? = _; simp) hid hroom hc hk hf hkd htg hmp

/-- What a contract leaves, seen from the caller: the blocks that it did not get are as they were. -/
theorem St.call {w0 w w' : World} {M : List Nat} {F Lp L1 : List Blk} (h : St w0 M (F ++ Lp) w) (hc : St w (Lp.map Blk.id) L1 w') : St w0 M (F ++ L1) w' := by
  have hd := h.distinct
  rw [List.map_append, List.nodup_append] at hd
  have hF : ∀ B ∈ F, B.In w' := fun B hB => by
    have hin := h.inw B (List.mem_append_left _ hB)
    exact hin.of_same (hc.old _ hin.lt fun hm => hd.2.2 _ (List.mem_map_of_mem hB) _ hm rfl)
  refine ⟨hc.os.trans h.os, hc.tape.trans h.tape, hc.output.trans h.output, Nat.le_trans h.size hc.size, ?_, ?_, ?_, ?_, Nat.le_trans h.drawn hc.drawn⟩
  · intro b hb hm
    have hs := h.size
    rw [hc.old b (by omega) ?_]
    · exact h.old b hb hm
    · intro hmem
      obtain ⟨B, hB, he⟩ := List.mem_map.1 hmem
      exact hm (he ▸ h.may B (List.mem_append_right _ hB) (by omega))
  · rw [List.map_append, List.nodup_append]
    refine ⟨hd.1, hc.distinct, ?_⟩
    intro x hx y hy hxy
    subst hxy
    obtain ⟨B, hB, rfl⟩ := List.mem_map.1 hx
    obtain ⟨B1, hB1, he⟩ := List.mem_map.1 hy
    have hlt := (h.inw B (List.mem_append_left _ hB)).lt
    have := hc.may B1 hB1 (by omega)
    exact hd.2.2 _ hx _ (he ▸ this) rfl
  · intro B hB
    rcases List.mem_append.1 hB with hB | hB
    · exact hF B hB
    · exact hc.inw B hB
  · intro B hB hlt
    rcases List.mem_append.1 hB with hB | hB
    · exact h.may B (List.mem_append_left _ hB) hlt
    · have hs := h.size
      have hm := hc.may B hB (by omega)
      obtain ⟨B', hB', he⟩ := List.mem_map.1 hm
      exact he ▸ h.may B' (List.mem_append_right _ hB') (by omega)

/-- The context of a walk: the program, the world in which the call began, the old blocks that it may write, the frame's size. -/
structure Ctx where
  P : Program
  w0 : World
  M : List Nat
  n : Nat

abbrev Post := Exit → Env → List Blk → Prop

def lift (C : Ctx) (Q : Post) : Exit → Act → World → Prop := fun x a w => ∃ e L, Rel C.n e a ∧ St C.w0 C.M L w ∧ Q x e L

def T (C : Ctx) (c : Code) (Q : Post) (e : Env) (L : List Blk) : Prop :=
  ∀ a w, Rel C.n e a → St C.w0 C.M L w → c.wp C.P (lift C Q) a w

def thn (C : Ctx) (y : Code) (Q : Post) : Post
  | .normal, e, L => T C y Q e L
  | x, e, L => Q x e L

def inBlk (id : Nat) (Q : Post) : Post
  | .exit id', e, L => bif Nat.beq id' id then Q .normal e L else Q (.exit id') e L
  | x, e, L => Q x e L

section rules
variable {C : Ctx} {Q : Post} {e : Env} {L : List Blk}

theorem lift_mono {Q Q' : Post} (h : ∀ x e L, Q x e L → Q' x e L) (x : Exit) (a : Act) (w : World) : lift C Q x a w → lift C Q' x a w :=
  fun ⟨e, L, hr, hs, hq⟩ => ⟨e, L, hr, hs, h x e L hq⟩

theorem T.mono {c : Code} {Q Q' : Post} (h : T C c Q e L) (hq : ∀ x e L, Q x e L → Q' x e L) : T C c Q' e L :=
  fun a w hr hs => wp_mono (h a w hr hs) fun x a w => lift_mono hq x a w

/-- Blocks may be forgotten. -/
theorem T.sub {c : Code} {L' : List Blk} (h : T C c Q e L') (hs : L'.Sublist L) : T C c Q e L := fun a w hr hst => h a w hr (hst.sub hs)
theorem T.perm {c : Code} {L' : List Blk} (h : T C c Q e L') (hs : L'.Perm L) : T C c Q e L := fun a w hr hst => h a w hr (hst.perm hs)

theorem T.seq {x y : Code} (h : T C x (thn C y Q) e L) : T C (.seq x y) Q e L := by
  intro a w hr hs
  refine wp_seq (wp_mono (h a w hr hs) ?_)
  intro ex a' w' ⟨e', L', hr', hs', hq⟩
  cases ex with
  | normal => exact hq a' w' hr' hs'
  | _ => exact ⟨e', L', hr', hs', hq⟩

theorem T.skip (h : Q .normal e L) : T C .skip Q e L := fun _ _ hr hs => wp_skip ⟨e, L, hr, hs, h⟩
theorem T.exit {id : Nat} (h : Q (.exit id) e L) : T C (.exit id) Q e L := fun _ _ hr hs => wp_exit ⟨e, L, hr, hs, h⟩
theorem T.ret (h : Q .ret e L) : T C .ret Q e L := fun _ _ hr hs => wp_ret ⟨e, L, hr, hs, h⟩

theorem T.block {id : Nat} {c : Code} (h : T C c (inBlk id Q) e L) : T C (.block id c) Q e L := by
  intro a w hr hs
  refine wp_block (wp_mono (h a w hr hs) ?_)
  intro ex a' w' ⟨e', L', hr', hs', hq⟩
  cases ex with
  | exit id' =>
    simp only [inBlk] at hq
    simp only [Exit.inBlock]
    by_cases hid : id' = id
    · subst hid
      rw [show Nat.beq id' id' = true from Nat.beq_refl id'] at hq
      rw [if_pos rfl]
      exact ⟨e', L', hr', hs', hq⟩
    · rw [show Nat.beq id' id = false from by
        cases hb : Nat.beq id' id with
        | false => rfl
        | true => exact absurd (Nat.eq_of_beq_eq_true hb) hid] at hq
      rw [if_neg hid]
      exact ⟨e', L', hr', hs', hq⟩
  | _ => exact ⟨e', L', hr', hs', hq⟩

theorem T.cond {c : Operand} {x y : Code} {b : Bool} (hc : ev C.n e c = .bool b) (h : T C (bif b then x else y) Q e L) : T C (.cond c x y) Q e L := by
  intro a w hr hs
  refine wp_cond (t := b) (by rw [hr.eval]; exact hc) ?_
  have := h a w hr hs
  cases b <;> exact this
theorem T.cond_t {c : Operand} {x y : Code} (hc : ev C.n e c = .bool true) (h : T C x Q e L) : T C (.cond c x y) Q e L := T.cond hc h
theorem T.cond_f {c : Operand} {x y : Code} (hc : ev C.n e c = .bool false) (h : T C y Q e L) : T C (.cond c x y) Q e L := T.cond hc h
theorem T.cond_split {c : Operand} {x y : Code} {b : Bool} (hc : ev C.n e c = .bool b) (ht : b = true → T C x Q e L) (hf : b = false → T C y Q e L) : T C (.cond c x y) Q e L := by
  refine T.cond hc ?_
  cases b
  · exact hf rfl
  · exact ht rfl

/-- What a round of a loop must come to. -/
def rnd {σ : Type} (I : σ → Env → List Blk → Prop) (μ : σ → Nat) (s : σ) (Q : Post) : Post
  | .normal, e, L => ∃ s', μ s' < μ s ∧ I s' e L
  | x, e, L => Q x e L

theorem T.loop {σ : Type} {c : Code} (I : σ → Env → List Blk → Prop) (μ : σ → Nat) (s0 : σ) (h0 : I s0 e L)
    (round : ∀ s e L, I s e L → T C c (rnd I μ s Q) e L) : T C (.loop c) Q e L := by
  intro a w hr hs
  refine wp_loop_ghost (fun k a w => ∃ s e L, μ s = k ∧ I s e L ∧ Rel C.n e a ∧ St C.w0 C.M L w) (μ s0) ⟨s0, e, L, rfl, h0, hr, hs⟩ ?_
  rintro k a w ⟨s, e, L, rfl, hI, hr, hs⟩
  refine wp_mono (round s e L hI a w hr hs) ?_
  intro ex a' w' ⟨e', L', hr', hs', hq⟩
  cases ex with
  | normal =>
    obtain ⟨s', hlt, hI'⟩ := hq
    exact ⟨μ s', hlt, s', e', L', rfl, hI', hr', hs'⟩
  | _ => exact ⟨e', L', hr', hs', hq⟩

/-- One operation. -/
def T1 (C : Ctx) (o : Oper) (K : Env → List Blk → Prop) (e : Env) (L : List Blk) : Prop :=
  ∀ a w (K' : Act → World → Prop) (Q' : Exit → Act → World → Prop), Rel C.n e a → St C.w0 C.M L w →
    (∀ a' w' e' L', Rel C.n e' a' → St C.w0 C.M L' w' → K e' L' → K' a' w') → o.wp C.P a w K' Q'

def TL (C : Ctx) (ops : Array Oper) (Q : Post) (l : List Oper) (e : Env) (L : List Blk) : Prop :=
  ∀ a w, Rel C.n e a → St C.w0 C.M L w → wpList C.P ops (lift C Q) l a w

theorem T.region {id : Nat} {l : List Oper} (h : TL C l.toArray Q l e L) : T C (.region id l.toArray false) Q e L :=
  fun a w hr hs => wp_region_lit (h a w hr hs)

def yl (n : Nat) (ops : Array Oper) (e : Env) (j : Nat) : Option Bool :=
  match (ops[j]?).bind (·.dst) with
  | some d => bif Nat.blt d n then (match e d with | .bool b => some b | _ => none) else none
  | none => none

def wantedE (n : Nat) (ops : Array Oper) (e : Env) : Option (Nat × Bool) → Bool
  | none => true
  | some (j, want) => yl n ops e j == some want

theorem yl_eq {ops : Array Oper} {a : Act} (hr : Rel C.n e a) (j : Nat) : yielded ops a.tmps j = yl C.n ops e j := by
  unfold yielded yl
  cases (ops[j]?).bind (·.dst) with
  | none => rfl
  | some d =>
    simp only [Option.bind_some]
    by_cases hlt : d < C.n
    · rw [show Nat.blt d C.n = true from by simpa [Nat.blt_eq] using hlt]
      have := hr.get d hlt
      have hs : d < a.tmps.size := by rw [hr.size]; exact hlt
      simp only [cond_true]
      rw [← this, Array.getElem?_eq_getElem hs, show a.tmps.getD d undef = a.tmps[d] from by simp [Array.getD, hs]]
      cases a.tmps[d] <;> rfl
    · rw [show Nat.blt d C.n = false from by
        cases hb : Nat.blt d C.n with
        | false => rfl
        | true => exact absurd (by simpa [Nat.blt_eq] using hb) hlt]
      have hge : a.tmps.size ≤ d := by rw [hr.size]; exact Nat.le_of_not_lt hlt
      rw [Array.getElem?_eq_none hge]
      rfl

theorem wanted_eq {ops : Array Oper} {a : Act} (hr : Rel C.n e a) (o : Oper) : Region.wanted o (yielded ops a.tmps) = wantedE C.n ops e o.guard := by
  unfold Region.wanted wantedE
  cases o.guard with
  | none => rfl
  | some g => obtain ⟨j, want⟩ := g; simp only [yl_eq hr]

theorem TL.nil {ops : Array Oper} (h : Q .normal e L) : TL C ops Q [] e L := fun _ _ hr hs => ⟨e, L, hr, hs, h⟩

theorem TL.cons {ops : Array Oper} {o : Oper} {rest : List Oper} (hg : wantedE C.n ops e o.guard = true) (h : T1 C o (TL C ops Q rest) e L) : TL C ops Q (o :: rest) e L := by
  intro a w hr hs
  unfold wpList
  rw [wanted_eq hr, if_pos hg]
  exact .inl (h a w _ _ hr hs fun a' w' e' L' hr' hs' hK => hK a' w' hr' hs')

theorem TL.no {ops : Array Oper} {o : Oper} {rest : List Oper} (hg : wantedE C.n ops e o.guard = false) (h : TL C ops Q rest (putO e o.dst undef) L) : TL C ops Q (o :: rest) e L := by
  intro a w hr hs
  unfold wpList
  rw [wanted_eq hr, if_neg (by simp [hg])]
  exact h _ _ (hr.put _ _) hs

/-- An operation that leaves the world as it is and yields 'v'. -/
def Yld (P : Program) (ρ : Operand → Value) (o : Oper) (v : Value) : Prop := ∀ w, (execOp ρ o).run P w = .ok (.value v) w

theorem T1.val {o : Oper} {K : Env → List Blk → Prop} (v : Value) (h : Yld C.P (ev C.n e) o v) (k : K (putO e o.dst v) L) : T1 C o K e L := by
  intro a w K' Q' hr hs hK
  unfold Oper.wp
  rw [hr.eval, h w]
  exact hK _ _ _ _ (hr.put _ _) hs k

end rules
end Go.Proofs.YtlpkcbkflfbclaaDoor.S
