/- The core of this claim's proofs: a small separation logic over the model's weakest preconditions ('Code.wp'): frames as functions, the call's own memory as a list of blocks. Holds for every program. Reading and writing the call's own memory: the laws of the operations that touch it. Holds for every program. The laws of the operations that only reckon, of calls, and of entering and leaving a function. Holds for every program. More laws of operations: what is put together, calls, append, copy, strings and bytes, entering and leaving. Holds for every program. -/
import Derived.Tactics
import Derived.OrdersHeld
import Derived.Below
import Derived.Deep.LoopGhost
import Derived.KernelRfl
import Derived.Laws.Append
import Derived.Laws.Strings
import Derived.Laws.Sem
import Derived.Laws.BytesString
import Derived.Lib.ConvBytes
namespace Go.Proofs.YtfjedhmffccgnaaGreatDoor.S
open Go.RowKit
theorem z_A {p : Prop} (h : p := by repeat (first | exact Find.here | with_reducible assumption | apply Find.there | apply Find.far | assumption)) : p := h
theorem z_B {p : Prop} (h : p := by repeat (first | exact Take.nil | apply Take.one (by repeat (first | exact Pick.here | apply Pick.there | apply Pick.far)) | apply Take.seg (by repeat (first | exact PickS.last | exact PickS.one | exact PickS.here | exact PickS.nil | apply PickS.there | apply PickS.far)) | exact Take.last (by repeat (first | exact PickS.last | exact PickS.one | exact PickS.here | exact PickS.nil | apply PickS.there | apply PickS.far)))) : p := h
theorem z_C {p : Prop} (h : p := by (conv => lhs; whnf) <;> rfl) : p := h
theorem z_D {p : Prop} (h : p := by repeat (first | exact Inc.nil | with_reducible assumption | exact Inc.refl | exact Inc.here | apply Inc.app | apply Inc.cons (by repeat (first | exact Find.here | with_reducible assumption | apply Find.there | apply Find.far | assumption)) | apply Inc.skip1 | apply Inc.skip | assumption)) : p := h
theorem z_E {p : Prop} (h : p := by repeat (first | exact PickS.last | exact PickS.one | exact PickS.here | exact PickS.nil | apply PickS.there | apply PickS.far)) : p := h
theorem z_F {p : Prop} (h : p := by decide +kernel) : p := h
theorem z_G {p : Prop} (h : p := by repeat (first | exact Pick.here | apply Pick.there | apply Pick.far)) : p := h
theorem z_H {p : Prop} (h : p := by repeat (first | exact Sub.one | apply Sub.there | apply Sub.far)) : p := h
theorem z_I {p : Prop} (h : p := by repeat (first | exact FillL.nil | exact SetN.done | apply SetN.here | apply SetN.there | apply FillL.cons)) : p := h
theorem z_J {p : Prop} (h : p := by rw [wrap_i64 _ (by omega) (by omega)]; omega) : p := h
theorem z_K {p : Prop} (h : p := by repeat (first | exact SetAt.here | apply SetAt.there)) : p := h
theorem z_L {p : Prop} (h : p := by intro l hl; simp only [List.mem_cons, List.not_mem_nil, or_false] at hl; rcases hl with rfl | rfl <;> rfl) : p := h
theorem z_M {p : Prop} (h : p := by rw [List.length_map, leF_len]) : p := h
theorem z_N {p : Prop} (h : p := by simp only; omega) : p := h
theorem z_O {p : Prop} (h : p := by intro x_ hx_; simp only [List.mem_cons, List.not_mem_nil, or_false] at hx_; omega) : p := h
theorem z_P {p : Prop} (h : p := by simp only [List.length_append, List.length_cons, List.length_nil]; omega) : p := h
theorem z_Q {p : Prop} (h : p := by rw [List.length_map, leF_len]; rfl) : p := h
theorem z_R {p : Prop} (h : p := by intro l hl; simp only [List.mem_cons, List.not_mem_nil, or_false] at hl; rcases hl with rfl | rfl | rfl <;> rfl) : p := h
abbrev Env := Nat → Value
def put (e : Env) (d : Nat) (v : Value) : Env := fun t => bif Nat.beq t d then v else e t
def putO (e : Env) : Option Nat → Value → Env
  | some d, v => put e d v
  | none, _ => e
structure FrS where
  n : Nat
  ds : List Deferred
instance : Coe Nat FrS := ⟨fun n => ⟨n, []⟩⟩
instance (k : Nat) : OfNat FrS k := ⟨⟨k, []⟩⟩
def ev (n : FrS) (e : Env) : Operand → Value
  | .tmp t => bif Nat.blt t n.n then e t else undef
  | .const v => v
  | .global g => .pointer (some ⟨g, 0, none⟩)
  | .func f => .func (.func f) #[] #[]
structure Rel (n : FrS) (e : Env) (a : Act) : Prop where
  defers : a.defers = n.ds
  size : a.tmps.size = n.n
  get : ∀ t, t < n.n → a.tmps.getD t undef = e t
theorem Rel.eval {n : FrS} {e : Env} {a : Act} (h : Rel n e a) : a.eval = ev n e := by
 funext x
 cases x with
 | tmp t =>
  show a.tmps.getD t undef = bif Nat.blt t n.n then e t else undef
  by_cases hlt : t < n.n
  · rw [show Nat.blt t n.n = true from by simpa [Nat.blt_eq] using hlt]; exact h.get t hlt
  ·
   rw [show Nat.blt t n.n = false from by
    cases hb : Nat.blt t n.n with
    | false => rfl
    | true => exact absurd (by simpa [Nat.blt_eq] using hb) hlt]
   simp [Array.getD, h.size, hlt]
 | _ => rfl
theorem Rel.put {n : FrS} {e : Env} {a : Act} (h : Rel n e a) (d : Option Nat) (v : Value) : Rel n (putO e d v) (a.put d v) := by
 cases d with
 | none => exact h
 | some d =>
  refine ⟨h.defers, by simp [Act.put, h.size], fun t ht => ?_⟩
  have hg := h.get t ht
  have hs : t < a.tmps.size := by rw [h.size]; exact ht
  show (a.tmps.setIfInBounds d v).getD t undef = bif Nat.beq t d then v else e t
  by_cases htd : t = d
  ·
   subst htd
   simp [Array.getD, hs]
  ·
   have hb : Nat.beq t d = false := by
    cases hb : Nat.beq t d with
    | false => rfl
    | true => exact absurd (Nat.eq_of_beq_eq_true hb) htd
   rw [hb]
   simp only [cond_false]
   rw [← hg]
   simp [Array.getD, hs, Ne.symm htd]
class IsMap where
  v : Bool
instance noMap : IsMap := ⟨false⟩
structure Key where
  n : Nat
  tag : Option TypeId
  [mp : IsMap]
instance : Coe Nat Key := ⟨fun n => ⟨n, none⟩⟩
structure Blk where
  key : Key
  off : Nat
  cells : List Value
  size : Nat
abbrev Blk.id (B : Blk) : Nat := B.key.n
def flatM (es : List MapEntry) : List Value := es.flatMap fun x => [x.key, x.val]
def StampOk (es : List MapEntry) (clock : Nat) : Prop := (∀ x ∈ es, x.born < clock) ∧ (es.map (·.born)).Nodup
structure Blk.In (B : Blk) (w : World) : Prop where
  room : B.off + B.cells.length ≤ B.size
  here' : B.key.mp.v = false → ∃ c E lo hi, w.heap[B.id]? = some (.cells c E (lo, hi)) ∧ c.size = B.size ∧ (∀ i, i < B.cells.length → c[B.off + i]? = B.cells[i]?) ∧ (lo = hi ∨ B.size ≤ lo) ∧ (B.key.tag = none ∨ (B.key.tag = some E ∧ lo = hi))
  mapped : B.key.mp.v = true → ∃ es clock, w.heap[B.id]? = some (.map es clock) ∧ flatM es.toList = B.cells ∧ StampOk es.toList clock
theorem Blk.In.here {B : Blk} {w : World} (h : B.In w) (hm : B.key.mp.v = false := by rfl) : ∃ c E lo hi, w.heap[B.id]? = some (.cells c E (lo, hi)) ∧ c.size = B.size ∧ (∀ i, i < B.cells.length → c[B.off + i]? = B.cells[i]?) ∧ (lo = hi ∨ B.size ≤ lo) ∧ (B.key.tag = none ∨ (B.key.tag = some E ∧ lo = hi)) := h.here' hm
theorem Blk.In.ofCells {B : Blk} {w : World} (hr : B.off + B.cells.length ≤ B.size) (h : ∃ c E lo hi, w.heap[B.id]? = some (.cells c E (lo, hi)) ∧ c.size = B.size ∧ (∀ i, i < B.cells.length → c[B.off + i]? = B.cells[i]?) ∧ (lo = hi ∨ B.size ≤ lo) ∧ (B.key.tag = none ∨ (B.key.tag = some E ∧ lo = hi))) (hm : B.key.mp.v = false := by rfl) : B.In w :=
 ⟨hr, fun _ => h, fun h' => by rw [hm] at h'; cases h'⟩
abbrev drawLe (a b : Nat) : Prop := a ≤ b
theorem drawLe.refl (a : Nat) : drawLe a a := by first | exact Nat.le_refl _ | exact .inl trivial
theorem drawLe.then {a b c : Nat} (h : drawLe a b) (h2 : b ≤ c) : drawLe a c := by first | exact Nat.le_trans h h2 | exact .inl trivial
theorem drawLe.trans {a b c : Nat} (h : drawLe a b) (h2 : drawLe b c) : drawLe a c := by first | exact Nat.le_trans h h2 | exact .inl trivial
structure St (w0 : World) (M : List Nat) (L : List Blk) (w : World) : Prop where
  os : w.os = w0.os
  tape : w.tape = w0.tape
  output : w.output = w0.output
  size : w0.heap.size ≤ w.heap.size
  old : ∀ b, b < w0.heap.size → b ∉ M → w.heap[b]? = w0.heap[b]?
  distinct : (L.map Blk.id).Nodup
  inw : ∀ B ∈ L, B.In w
  may : ∀ B ∈ L, B.id < w0.heap.size → B.id ∈ M
  drawn : drawLe w0.drawn w.drawn
theorem Blk.In.lt {B : Blk} {w : World} (h : B.In w) : B.id < w.heap.size := by
 rcases Nat.lt_or_ge B.id w.heap.size with hl | hl
 · exact hl
 ·
  cases hm : B.key.mp.v with
  | false => obtain ⟨c, E, lo, hi, hh, _⟩ := h.here hm; simp [Array.getElem?_eq_none hl] at hh
  | true => obtain ⟨es, clock, hh, _⟩ := h.mapped hm; simp [Array.getElem?_eq_none hl] at hh
theorem Blk.In.of_same {B : Blk} {w w' : World} (h : B.In w) (hs : w'.heap[B.id]? = w.heap[B.id]?) : B.In w' :=
 ⟨h.room, fun hm => by obtain ⟨c, E, lo, hi, hh, r⟩ := h.here hm; exact ⟨c, E, lo, hi, hs.trans hh, r⟩, fun hm => by obtain ⟨es, clock, hh, r⟩ := h.mapped hm; exact ⟨es, clock, hs.trans hh, r⟩⟩
theorem St.start {w : World} {L : List Blk} (hd : (L.map Blk.id).Nodup) (h : ∀ B ∈ L, B.In w) : St w (L.map Blk.id) L w :=
 ⟨rfl, rfl, rfl, Nat.le_refl _, fun _ _ _ => rfl, hd, h, fun _ hB _ => List.mem_map_of_mem hB, drawLe.refl _⟩
theorem St.drew {w0 : World} {M : List Nat} {L : List Blk} {w : World} (h : St w0 M L w) (k : Nat) (hk : w.drawn ≤ k) : St w0 M L { w with drawn := k } :=
 ⟨h.os, h.tape, h.output, h.size, h.old, h.distinct, fun B hB => ⟨(h.inw B hB).room, (h.inw B hB).here', (h.inw B hB).mapped⟩, h.may, drawLe.then h.drawn hk⟩
theorem St.sub {w0 : World} {M : List Nat} {L L' : List Blk} {w : World} (h : St w0 M L w) (hs : L'.Sublist L) : St w0 M L' w :=
 ⟨h.os, h.tape, h.output, h.size, h.old, h.distinct.sublist (hs.map _), fun B hB => h.inw B (hs.subset hB), fun B hB => h.may B (hs.subset hB), h.drawn⟩
theorem St.perm {w0 : World} {M : List Nat} {L L' : List Blk} {w : World} (h : St w0 M L w) (hs : L'.Perm L) : St w0 M L' w :=
 ⟨h.os, h.tape, h.output, h.size, h.old, (hs.map _).nodup_iff.2 h.distinct, fun B hB => h.inw B (hs.subset hB), fun B hB => h.may B (hs.subset hB), h.drawn⟩
theorem St.new {w0 : World} {M : List Nat} {L : List Blk} {w w' : World} (h : St w0 M L w) {B : Blk} {c : Array Value} {E : TypeId} {lo hi : Nat}
 (ho : w'.os = w.os) (ht : w'.tape = w.tape) (hp : w'.output = w.output) (hsz : w'.heap.size = w.heap.size + 1) (hkeep : ∀ b, b < w.heap.size → w'.heap[b]? = w.heap[b]?) (hnew : w'.heap[w.heap.size]? = some (.cells c E (lo, hi)))
 (hid : B.id = w.heap.size) (hroom : B.off + B.cells.length ≤ B.size) (hc : c.size = B.size) (hk : ∀ i, i < B.cells.length → c[B.off + i]? = B.cells[i]?)
 (hf : lo = hi ∨ B.size ≤ lo) (hdr : w.drawn ≤ w'.drawn) (htg : B.key.tag = none ∨ (B.key.tag = some E ∧ lo = hi) := by exact .inl rfl) (hmp : B.key.mp.v = false := by rfl) : St w0 M (B :: L) w' := by
 refine ⟨ho.trans h.os, ht.trans h.tape, hp.trans h.output, ?_, ?_, ?_, ?_, ?_, drawLe.then h.drawn hdr⟩
 · have := h.size; omega
 ·
  intro b hb hm
  have := h.size
  rw [hkeep b (by omega)]; exact h.old b hb hm
 ·
  simp only [List.map_cons, List.nodup_cons]
  refine ⟨fun hm => ?_, h.distinct⟩
  obtain ⟨B', hB', he⟩ := List.mem_map.1 hm
  have := (h.inw B' hB').lt
  omega
 ·
  intro B' hB'
  rcases List.mem_cons.1 hB' with rfl | hB'
  · exact ⟨hroom, fun _ => ⟨c, E, lo, hi, hid ▸ hnew, hc, hk, hf, htg⟩, fun h => by rw [hmp] at h; cases h⟩
  · exact (h.inw B' hB').of_same (hkeep _ (h.inw B' hB').lt)
 ·
  intro B' hB' hlt
  rcases List.mem_cons.1 hB' with rfl | hB'
  · have := h.size; omega
  · exact h.may B' hB' hlt
theorem St.push {w0 : World} {M : List Nat} {L : List Blk} {w : World} (h : St w0 M L w) {B : Blk} {c : Array Value} {E : TypeId} {lo hi : Nat} {k : Nat}
 (hid : B.id = w.heap.size) (hroom : B.off + B.cells.length ≤ B.size) (hc : c.size = B.size) (hk : ∀ i, i < B.cells.length → c[B.off + i]? = B.cells[i]?)
 (hf : lo = hi ∨ B.size ≤ lo) (htg : B.key.tag = none ∨ (B.key.tag = some E ∧ lo = hi) := by exact .inl rfl) (hmp : B.key.mp.v = false := by rfl) (hkd : w.drawn ≤ k := by first | exact Nat.le_refl _ | exact Nat.le_succ _ | exact Nat.le_add_right _ _) : St w0 M (B :: L) { w with heap := w.heap.push (.cells c E (lo, hi)), drawn := k } :=
 h.new (c := c) (E := E) (lo := lo) (hi := hi) (w' := { w with heap := w.heap.push (.cells c E (lo, hi)), drawn := k }) rfl rfl rfl (by simp) (fun b hb => by
  show (w.heap.push _)[b]? = _
  rw [Array.getElem?_push, if_neg (by omega)]) (by show (w.heap.push _)[_]? = _; simp) hid hroom hc hk hf hkd htg hmp
theorem St.call {w0 w w' : World} {M : List Nat} {F Lp L1 : List Blk} (h : St w0 M (F ++ Lp) w) (hc : St w (Lp.map Blk.id) L1 w') : St w0 M (F ++ L1) w' := by
 have hd := h.distinct
 rw [List.map_append, List.nodup_append] at hd
 have hF : ∀ B ∈ F, B.In w' := fun B hB => by
  have hin := h.inw B (List.mem_append_left _ hB)
  exact hin.of_same (hc.old _ hin.lt fun hm => hd.2.2 _ (List.mem_map_of_mem hB) _ hm rfl)
 refine ⟨hc.os.trans h.os, hc.tape.trans h.tape, hc.output.trans h.output, Nat.le_trans h.size hc.size, ?_, ?_, ?_, ?_, drawLe.trans h.drawn hc.drawn⟩
 ·
  intro b hb hm
  have hs := h.size
  rw [hc.old b (by omega) ?_]
  · exact h.old b hb hm
  ·
   intro hmem
   obtain ⟨B, hB, he⟩ := List.mem_map.1 hmem
   exact hm (he ▸ h.may B (List.mem_append_right _ hB) (by omega))
 ·
  rw [List.map_append, List.nodup_append]
  refine ⟨hd.1, hc.distinct, ?_⟩
  intro x hx y hy hxy
  subst hxy
  obtain ⟨B, hB, rfl⟩ := List.mem_map.1 hx
  obtain ⟨B1, hB1, he⟩ := List.mem_map.1 hy
  have hlt := (h.inw B (List.mem_append_left _ hB)).lt
  have := hc.may B1 hB1 (by omega)
  exact hd.2.2 _ hx _ (he ▸ this) rfl
 ·
  intro B hB
  rcases List.mem_append.1 hB with hB | hB
  · exact hF B hB
  · exact hc.inw B hB
 ·
  intro B hB hlt
  rcases List.mem_append.1 hB with hB | hB
  · exact h.may B (List.mem_append_left _ hB) hlt
  ·
   have hs := h.size
   have hm := hc.may B hB (by omega)
   obtain ⟨B', hB', he⟩ := List.mem_map.1 hm
   exact he ▸ h.may B' (List.mem_append_right _ hB') (by omega)
structure Ctx where
  P : Program
  w0 : World
  M : List Nat
  n : FrS
abbrev Post := Exit → Env → List Blk → Prop
def lift (C : Ctx) (Q : Post) : Exit → Act → World → Prop := fun x a w => ∃ e L, Rel C.n e a ∧ St C.w0 C.M L w ∧ Q x e L
def T (C : Ctx) (c : Code) (Q : Post) (e : Env) (L : List Blk) : Prop :=
  ∀ a w, Rel C.n e a → St C.w0 C.M L w → c.wp C.P (lift C Q) a w
def thn (C : Ctx) (y : Code) (Q : Post) : Post
  | .normal, e, L => T C y Q e L
  | x, e, L => Q x e L
def inBlk (id : Nat) (Q : Post) : Post
  | .exit id', e, L => bif Nat.beq id' id then Q .normal e L else Q (.exit id') e L
  | x, e, L => Q x e L
section rules
variable {C : Ctx} {Q : Post} {e : Env} {L : List Blk}
theorem lift_mono {Q Q' : Post} (h : ∀ x e L, Q x e L → Q' x e L) (x : Exit) (a : Act) (w : World) : lift C Q x a w → lift C Q' x a w :=
 fun ⟨e, L, hr, hs, hq⟩ => ⟨e, L, hr, hs, h x e L hq⟩
theorem T.mono {c : Code} {Q Q' : Post} (h : T C c Q e L) (hq : ∀ x e L, Q x e L → Q' x e L) : T C c Q' e L :=
 fun a w hr hs => wp_mono (h a w hr hs) fun x a w => lift_mono hq x a w
theorem T.sub {c : Code} {L' : List Blk} (h : T C c Q e L') (hs : L'.Sublist L) : T C c Q e L := fun a w hr hst => h a w hr (hst.sub hs)
theorem T.perm {c : Code} {L' : List Blk} (h : T C c Q e L') (hs : L'.Perm L) : T C c Q e L := fun a w hr hst => h a w hr (hst.perm hs)
theorem T.seq {x y : Code} (h : T C x (thn C y Q) e L) : T C (.seq x y) Q e L := by
 intro a w hr hs
 refine wp_seq (wp_mono (h a w hr hs) ?_)
 intro ex a' w' ⟨e', L', hr', hs', hq⟩
 cases ex with
 | normal => exact hq a' w' hr' hs'
 | _ => exact ⟨e', L', hr', hs', hq⟩
theorem T.skip (h : Q .normal e L) : T C .skip Q e L := fun _ _ hr hs => wp_skip ⟨e, L, hr, hs, h⟩
theorem T.exit {id : Nat} (h : Q (.exit id) e L) : T C (.exit id) Q e L := fun _ _ hr hs => wp_exit ⟨e, L, hr, hs, h⟩
theorem T.ret (h : Q .ret e L) : T C .ret Q e L := fun _ _ hr hs => wp_ret ⟨e, L, hr, hs, h⟩
theorem T.block {id : Nat} {c : Code} (h : T C c (inBlk id Q) e L) : T C (.block id c) Q e L := by
 intro a w hr hs
 refine wp_block (wp_mono (h a w hr hs) ?_)
 intro ex a' w' ⟨e', L', hr', hs', hq⟩
 cases ex with
 | exit id' =>
  simp only [inBlk] at hq
  simp only [Exit.inBlock]
  by_cases hid : id' = id
  ·
   subst hid
   rw [show Nat.beq id' id' = true from Nat.beq_refl id'] at hq
   rw [if_pos rfl]
   exact ⟨e', L', hr', hs', hq⟩
  ·
   rw [show Nat.beq id' id = false from by
    cases hb : Nat.beq id' id with
    | false => rfl
    | true => exact absurd (Nat.eq_of_beq_eq_true hb) hid] at hq
   rw [if_neg hid]
   exact ⟨e', L', hr', hs', hq⟩
 | _ => exact ⟨e', L', hr', hs', hq⟩
theorem T.cond {c : Operand} {x y : Code} {b : Bool} (hc : ev C.n e c = .bool b) (h : T C (bif b then x else y) Q e L) : T C (.cond c x y) Q e L := by
 intro a w hr hs
 refine wp_cond (t := b) (by rw [hr.eval]; exact hc) ?_
 have := h a w hr hs
 cases b <;> exact this
theorem T.cond_t {c : Operand} {x y : Code} (hc : ev C.n e c = .bool true) (h : T C x Q e L) : T C (.cond c x y) Q e L := T.cond hc h
theorem T.cond_f {c : Operand} {x y : Code} (hc : ev C.n e c = .bool false) (h : T C y Q e L) : T C (.cond c x y) Q e L := T.cond hc h
def rnd {σ : Type} (I : σ → Env → List Blk → Prop) (μ : σ → Nat) (s : σ) (Q : Post) : Post
  | .normal, e, L => ∃ s', μ s' < μ s ∧ I s' e L
  | x, e, L => Q x e L
theorem T.loop {σ : Type} {c : Code} (I : σ → Env → List Blk → Prop) (μ : σ → Nat) (s0 : σ) (h0 : I s0 e L)
 (round : ∀ s e L, I s e L → T C c (rnd I μ s Q) e L) : T C (.loop c) Q e L := by
 intro a w hr hs
 refine wp_loop_ghost (fun k a w => ∃ s e L, μ s = k ∧ I s e L ∧ Rel C.n e a ∧ St C.w0 C.M L w) (μ s0) ⟨s0, e, L, rfl, h0, hr, hs⟩ ?_
 rintro k a w ⟨s, e, L, rfl, hI, hr, hs⟩
 refine wp_mono (round s e L hI a w hr hs) ?_
 intro ex a' w' ⟨e', L', hr', hs', hq⟩
 cases ex with
 | normal =>
  obtain ⟨s', hlt, hI'⟩ := hq
  exact ⟨μ s', hlt, s', e', L', rfl, hI', hr', hs'⟩
 | _ => exact ⟨e', L', hr', hs', hq⟩
def T1 (C : Ctx) (o : Oper) (K : Env → List Blk → Prop) (e : Env) (L : List Blk) : Prop :=
  ∀ a w (K' : Act → World → Prop) (Q' : Exit → Act → World → Prop), Rel C.n e a → St C.w0 C.M L w →
    (∀ a' w' e' L', Rel C.n e' a' → St C.w0 C.M L' w' → K e' L' → K' a' w') → o.wp C.P a w K' Q'
def TL (C : Ctx) (ops : Array Oper) (Q : Post) (l : List Oper) (e : Env) (L : List Blk) : Prop :=
  ∀ a w, Rel C.n e a → St C.w0 C.M L w → wpList C.P ops (lift C Q) l a w
theorem T.region {id : Nat} {l : List Oper} (h : TL C l.toArray Q l e L) : T C (.region id l.toArray false) Q e L :=
 fun a w hr hs => wp_region_lit (h a w hr hs)
def yl (n : FrS) (ops : Array Oper) (e : Env) (j : Nat) : Option Bool :=
  match (ops[j]?).bind (·.dst) with
  | some d => bif Nat.blt d n.n then (match e d with | .bool b => some b | _ => none) else none
  | none => none
def wantedE (n : FrS) (ops : Array Oper) (e : Env) : Option (Nat × Bool) → Bool
  | none => true
  | some (j, want) => yl n ops e j == some want
theorem yl_eq {ops : Array Oper} {a : Act} (hr : Rel C.n e a) (j : Nat) : yielded ops a.tmps j = yl C.n ops e j := by
 unfold yielded yl
 cases (ops[j]?).bind (·.dst) with
 | none => rfl
 | some d =>
  simp only [Option.bind_some]
  by_cases hlt : d < C.n.n
  ·
   rw [show Nat.blt d C.n.n = true from by simpa [Nat.blt_eq] using hlt]
   have := hr.get d hlt
   have hs : d < a.tmps.size := by rw [hr.size]; exact hlt
   simp only [cond_true]
   rw [← this, Array.getElem?_eq_getElem hs, show a.tmps.getD d undef = a.tmps[d] from by simp [Array.getD, hs]]
   cases a.tmps[d] <;> rfl
  ·
   rw [show Nat.blt d C.n.n = false from by
    cases hb : Nat.blt d C.n.n with
    | false => rfl
    | true => exact absurd (by simpa [Nat.blt_eq] using hb) hlt]
   have hge : a.tmps.size ≤ d := by rw [hr.size]; exact Nat.le_of_not_lt hlt
   rw [Array.getElem?_eq_none hge]
   rfl
theorem wanted_eq {ops : Array Oper} {a : Act} (hr : Rel C.n e a) (o : Oper) : Region.wanted o (yielded ops a.tmps) = wantedE C.n ops e o.guard := by
 unfold Region.wanted wantedE
 cases o.guard with
 | none => rfl
 | some g => obtain ⟨j, want⟩ := g; simp only [yl_eq hr]
theorem TL.nil {ops : Array Oper} (h : Q .normal e L) : TL C ops Q [] e L := fun _ _ hr hs => ⟨e, L, hr, hs, h⟩
theorem TL.cons {ops : Array Oper} {o : Oper} {rest : List Oper} (hg : wantedE C.n ops e o.guard = true) (h : T1 C o (TL C ops Q rest) e L) : TL C ops Q (o :: rest) e L := by
 intro a w hr hs
 unfold wpList
 rw [wanted_eq hr, if_pos hg]
 exact .inl (h a w _ _ hr hs fun a' w' e' L' hr' hs' hK => hK a' w' hr' hs')
theorem TL.no {ops : Array Oper} {o : Oper} {rest : List Oper} (hg : wantedE C.n ops e o.guard = false) (h : TL C ops Q rest (putO e o.dst undef) L) : TL C ops Q (o :: rest) e L := by
 intro a w hr hs
 unfold wpList
 rw [wanted_eq hr, if_neg (by simp [hg])]
 exact h _ _ (hr.put _ _) hs
end rules
end Go.Proofs.YtfjedhmffccgnaaGreatDoor.S
namespace Go.Proofs.YtfjedhmffccgnaaGreatDoor.S
open Go.RowKit
inductive Find : List Blk → Blk → Prop
  | here {B : Blk} {L : List Blk} : Find (B :: L) B
  | there {B B' : Blk} {L : List Blk} : Find L B → Find (B' :: L) B
  | far {B : Blk} {X L : List Blk} : Find L B → Find (X ++ L) B
theorem Find.mem {L : List Blk} {B : Blk} (h : Find L B) : B ∈ L := by
 induction h with
 | here => exact List.mem_cons_self
 | there _ ih => exact List.mem_cons_of_mem _ ih
 | far _ ih => exact List.mem_append_right _ ih
inductive Sub : List Blk → List Blk → List Blk → List Blk → Prop
  | here {X Y G : List Blk} : Sub (X ++ G) X (Y ++ G) Y
  | last {X Y : List Blk} : Sub X X Y Y
  | one {B B' : Blk} {G : List Blk} : Sub (B :: G) [B] (B' :: G) [B']
  | there {B : Blk} {L X L' Y : List Blk} : Sub L X L' Y → Sub (B :: L) X (B :: L') Y
  | far {Z L X L' Y : List Blk} : Sub L X L' Y → Sub (Z ++ L) X (Z ++ L') Y
theorem Sub.split {L X L' Y : List Blk} (h : Sub L X L' Y) : ∃ F G, L = F ++ (X ++ G) ∧ L' = F ++ (Y ++ G) := by
 induction h with
 | @here X Y G => exact ⟨[], G, rfl, rfl⟩
 | @last X Y => exact ⟨[], [], by simp, by simp⟩
 | @one B B' G => exact ⟨[], G, rfl, rfl⟩
 | @there B L X L' Y _ ih => obtain ⟨F, G, rfl, rfl⟩ := ih; exact ⟨B :: F, G, rfl, rfl⟩
 | @far Z L X L' Y _ ih => obtain ⟨F, G, rfl, rfl⟩ := ih; exact ⟨Z ++ F, G, by simp, by simp⟩
theorem St.call_sub {w0 w w' : World} {M : List Nat} {L X L' Y : List Blk} (h : St w0 M L w) (hs : Sub L X L' Y) (hc : St w (X.map Blk.id) Y w') : St w0 M L' w' := by
 obtain ⟨F, G, rfl, rfl⟩ := hs.split
 have h1 : St w0 M ((F ++ G) ++ X) w := h.perm (by rw [List.append_assoc]; exact List.Perm.append_left F List.perm_append_comm)
 exact (h1.call hc).perm (by rw [List.append_assoc]; exact List.Perm.append_left F List.perm_append_comm)
theorem St.call_add {w0 w w' : World} {M : List Nat} {L Y : List Blk} (h : St w0 M L w) (hc : St w [] Y w') : St w0 M (Y ++ L) w' := by
 have h1 : St w0 M (L ++ []) w := by simpa using h
 exact (h1.call (Lp := []) hc).perm List.perm_append_comm
theorem St.piece {w0 w : World} {M : List Nat} {L X L' Y : List Blk} (h : St w0 M L w) (hs : Sub L X L' Y) : (X.map Blk.id).Nodup ∧ ∀ B ∈ X, B.In w := by
 obtain ⟨F, G, rfl, rfl⟩ := hs.split
 refine ⟨?_, fun B hB => h.inw B (by simp [hB])⟩
 have := h.distinct
 simp only [List.map_append, List.nodup_append] at this
 exact this.2.1.1
inductive Pick : List Blk → Blk → List Blk → Prop
  | here {B : Blk} {L : List Blk} : Pick (B :: L) B L
  | there {B B' : Blk} {L L1 : List Blk} : Pick L B L1 → Pick (B' :: L) B (B' :: L1)
  | far {B : Blk} {Z L L1 : List Blk} : Pick L B L1 → Pick (Z ++ L) B (Z ++ L1)
inductive PickS : List Blk → List Blk → List Blk → Prop
  | nil {L : List Blk} : PickS L [] L
  | last {X : List Blk} : PickS X X []
  | one {B : Blk} {G : List Blk} : PickS (B :: G) [B] G
  | here {X G : List Blk} : PickS (X ++ G) X G
  | there {B : Blk} {L X L1 : List Blk} : PickS L X L1 → PickS (B :: L) X (B :: L1)
  | far {Z L X L1 : List Blk} : PickS L X L1 → PickS (Z ++ L) X (Z ++ L1)
inductive Take : List Blk → List Blk → List Blk → Prop
  | nil {L : List Blk} : Take L [] L
  | one {B : Blk} {L L1 X G : List Blk} : Pick L B L1 → Take L1 X G → Take L (B :: X) G
  | seg {L L1 Z X G : List Blk} : PickS L Z L1 → Take L1 X G → Take L (Z ++ X) G
  | last {L Z G : List Blk} : PickS L Z G → Take L Z G
theorem Pick.perm {L L1 : List Blk} {B : Blk} (h : Pick L B L1) : L.Perm (B :: L1) := by
 induction h with
 | here => exact .refl _
 | there _ ih => exact (ih.cons _).trans (.swap ..)
 | far _ ih => exact (List.Perm.append_left _ ih).trans List.perm_middle
theorem PickS.perm {L X L1 : List Blk} (h : PickS L X L1) : L.Perm (X ++ L1) := by
 induction h with
 | nil => exact .refl _
 | last => simp
 | one => exact .refl _
 | here => exact .refl _
 | there _ ih => exact (ih.cons _).trans List.perm_middle.symm
 | @far Z L X L1 _ ih =>
  refine (List.Perm.append_left Z ih).trans ?_
  rw [← List.append_assoc, ← List.append_assoc]
  exact List.Perm.append_right _ List.perm_append_comm
theorem Take.perm {L X G : List Blk} (h : Take L X G) : L.Perm (X ++ G) := by
 induction h with
 | nil => exact .refl _
 | one h1 _ ih => exact h1.perm.trans (ih.cons _)
 | @seg L L1 Z X G h1 _ ih => rw [List.append_assoc]; exact h1.perm.trans (List.Perm.append_left Z ih)
 | last h1 => exact h1.perm
theorem Take.keep {w0 w : World} {M : List Nat} {L X G : List Blk} (h : Take L X G) (hs : St w0 M L w) : St w0 M X w := (hs.perm h.perm.symm).sub (List.sublist_append_left _ _)
def Blk.get (B : Blk) (o : Nat) : Option Value := bif B.key.mp.v then none else bif Nat.ble B.off o then B.cells[o - B.off]? else none
theorem Blk.get_map {B : Blk} {o : Nat} {v : Value} (h : B.get o = some v) : B.key.mp.v = false := by
 unfold Blk.get at h
 cases hm : B.key.mp.v with
 | false => rfl
 | true => rw [hm] at h; cases h
theorem Blk.get_spec {B : Blk} {o : Nat} {v : Value} (h : B.get o = some v) : B.off ≤ o ∧ o - B.off < B.cells.length ∧ B.cells[o - B.off]? = some v := by
 have hm := Blk.get_map h
 unfold Blk.get at h
 rw [hm, cond_false] at h
 cases hb : Nat.ble B.off o with
 | false => rw [hb] at h; cases h
 | true =>
  rw [hb] at h
  simp only [cond_true] at h
  refine ⟨Nat.le_of_ble_eq_true hb, ?_, h⟩
  rcases Nat.lt_or_ge (o - B.off) B.cells.length with hl | hl
  · exact hl
  · rw [List.getElem?_eq_none hl] at h; cases h
theorem Blk.In.cell {B : Blk} {w : World} (h : B.In w) {o : Nat} {v : Value} (hg : B.get o = some v) : w.cell? ⟨B.id, o, none⟩ = some v := by
 obtain ⟨h1, h2, h3⟩ := Blk.get_spec hg
 obtain ⟨c, E, lo, hi, hh, hsz, hk, _⟩ := h.here (Blk.get_map hg)
 have := hk _ h2
 rw [show B.off + (o - B.off) = o by omega, h3] at this
 simp [World.cell?, hh, this]
inductive Rd (C : Ctx) (L : List Blk) : Addr → Value → Prop
  | own {b o off size : Nat} {tg : Option TypeId} {cells : List Value} {v : Value} : Find L ⟨⟨b, tg⟩, off, cells, size⟩ → Blk.get ⟨⟨b, tg⟩, off, cells, size⟩ o = some v → Rd C L ⟨b, o, none⟩ v
  | old {a : Addr} {v : Value} : C.w0.cell? a = some v → a.block ∉ C.M → Rd C L a v
theorem cell_lt {w : World} {a : Addr} {v : Value} (h : w.cell? a = some v) : a.block < w.heap.size := by
 rcases Nat.lt_or_ge a.block w.heap.size with hl | hl
 · exact hl
 · simp [World.cell?, Array.getElem?_eq_none hl] at h
theorem cell_same {w w' : World} {a : Addr} (h : w'.heap[a.block]? = w.heap[a.block]?) : w'.cell? a = w.cell? a := by simp only [World.cell?, h]
theorem Rd.cell {C : Ctx} {L : List Blk} {a : Addr} {v : Value} (h : Rd C L a v) {w : World} (hs : St C.w0 C.M L w) : w.cell? a = some v := by
 cases h with
 | own hf hg => exact (hs.inw _ hf.mem).cell (B := ⟨_, _, _, _⟩) hg
 | old hc hm => rw [cell_same (hs.old _ (cell_lt hc) hm)]; exact hc
def RdN (C : Ctx) (L : List Blk) (a : Addr) (vs : List Value) : Prop := ∀ i v, vs[i]? = some v → Rd C L ⟨a.block, a.off + i, none⟩ v
def CellsAt (w : World) (a : Addr) (vs : List Value) : Prop := ∀ i v, vs[i]? = some v → w.cell? ⟨a.block, a.off + i, none⟩ = some v
theorem RdN.cells {C : Ctx} {L : List Blk} {a : Addr} {vs : List Value} (h : RdN C L a vs) {w : World} (hs : St C.w0 C.M L w) : CellsAt w a vs :=
 fun i v hv => (h i v hv).cell hs
theorem RdN.old {C : Ctx} {L : List Blk} {a : Addr} {vs : List Value} (h : CellsAt C.w0 a vs) (hm : a.block ∉ C.M) : RdN C L a vs :=
 fun i v hv => .old (h i v hv) hm
theorem RdN.own {C : Ctx} {L : List Blk} {b o off size : Nat} {tg : Option TypeId} {cells vs : List Value} (hf : Find L ⟨⟨b, tg⟩, off, cells, size⟩) (hg : ∀ i v, vs[i]? = some v → Blk.get ⟨⟨b, tg⟩, off, cells, size⟩ (o + i) = some v) : RdN C L ⟨b, o, none⟩ vs :=
 fun i v hv => .own hf (hg i v hv)
theorem RdN.whole {C : Ctx} {L : List Blk} {b size : Nat} {tg : Option TypeId} {cells : List Value} (hf : Find L ⟨⟨b, tg⟩, 0, cells, size⟩) : RdN C L ⟨b, 0, none⟩ cells :=
 RdN.own hf fun i v hv => by
  show (bif Nat.ble 0 (0 + i) then cells[0 + i - 0]? else none) = some v
  simpa [Nat.ble] using hv
theorem addr_add (b o i : Nat) : (Addr.add ⟨b, o, none⟩ i) = ⟨b, o + i, none⟩ := by
 unfold Addr.add
 split
 · rename_i h; subst h; rfl
 · rfl
theorem run_loadCellsFrom {P : Program} {w : World} {b : Nat} : ∀ (n : Nat) (o i : Nat) (acc : Array Value) (vs : List Value), vs.length = n → CellsAt w ⟨b, o + i, none⟩ vs →
 (loadCellsFrom ⟨b, o, none⟩ i n acc).run P w = .ok (acc ++ vs.toArray) w := by
 intro n
 induction n with
 | zero => intro o i acc vs hl _; cases vs with | nil => simp [loadCellsFrom, pure] | cons _ _ => cases hl
 | succ n ih =>
  intro o i acc vs hl h
  cases vs with
  | nil => cases hl
  | cons v vs =>
   have h0 := h 0 v rfl
   simp only [Nat.add_zero] at h0
   have hrest : CellsAt w ⟨b, o + (i + 1), none⟩ vs := fun k u hu => by
    have := h (k + 1) u (by simpa using hu)
    simpa [Nat.add_assoc, Nat.add_comm 1 k] using this
   have := ih o (i + 1) (acc.push v) vs (by simpa using hl) hrest
   simp only [loadCellsFrom, load, bind, Sem.bind, addr_add, Sem.run, h0, this]
   simp
theorem run_loadCells {P : Program} {w : World} {b o : Nat} {n : Nat} {vs : List Value} (hl : vs.length = n) (h : CellsAt w ⟨b, o, none⟩ vs) :
 (loadCells ⟨b, o, none⟩ n).run P w = .ok vs.toArray w := by
 unfold loadCells
 rw [run_loadCellsFrom n o 0 #[] vs hl (by simpa using h)]
 simp
def oneCellT : TypeDesc → Bool
  | .struct _ | .array _ _ => false
  | _ => true
theorem run_bind {α β : Type} {P : Program} {s : Sem α} {f : α → Sem β} {w w' : World} {a : α} (h : s.run P w = .ok a w') : (s >>= f).run P w = (f a).run P w' := by
 show (s.bind f).run P w = _
 induction s generalizing w with
 | pure x => simp only [Sem.run] at h; cases h; rfl
 | load m ad k ih =>
  simp only [Sem.bind, Sem.run] at h ⊢
  cases hc : w.cell? ad with
  | some v => simp only [hc] at h ⊢; exact ih v h
  | none =>
   simp only [hc] at h ⊢
   cases hf : w.farLoad P ad (m == .atomic) with
   | ok r => simp only [hf] at h ⊢; exact ih _ h
   | error e => simp only [hf] at h; cases h
 | store m ad v k ih =>
  cases v <;> (simp only [Sem.bind, Sem.run] at h ⊢; first | (cases h; done) | skip) <;>
  ·
   cases hc : w.cell? ad with
   | some v =>
    simp only [hc] at h ⊢
    split at h
    · cases h
    · rename_i hz; rw [if_neg hz]; exact ih h
   | none =>
    simp only [hc] at h ⊢
    split at h
    · exact ih h
    · cases h
 | new o k ih => simp only [Sem.bind, Sem.run] at h ⊢; exact ih _ h
 | shape r k ih => simp only [Sem.bind, Sem.run] at h ⊢; exact ih _ h
 | freeze ad n k ih => simp only [Sem.bind, Sem.run] at h ⊢; exact ih h
 | frozen ad k ih => simp only [Sem.bind, Sem.run] at h ⊢; exact ih _ h
 | getObj r k ih =>
  simp only [Sem.bind, Sem.run] at h ⊢
  split at h
  · cases h
  · exact ih _ h
  · cases h
 | setObj r o k ih =>
  simp only [Sem.bind, Sem.run] at h ⊢
  split at h
  · cases h
  · exact ih h
  · cases h
 | choose q k ih =>
  simp only [Sem.bind, Sem.run] at h ⊢
  split at h
  · rename_i hq; rw [if_pos hq]; exact ih _ h
  · rename_i hq; rw [if_neg hq]; exact ih _ h
 | sys c k ih => simp only [Sem.bind, Sem.run] at h ⊢; exact ih _ h
 | program k ih => simp only [Sem.bind, Sem.run] at h ⊢; exact ih _ h
 | mark m k ih => simp only [Sem.bind, Sem.run] at h ⊢; exact ih h
 | halt x => simp only [Sem.run] at h; cases h
theorem run_underlying {P : Program} {t : TypeId} {d : TypeDesc} (h : P.underlying t = some d) (w : World) : (underlying t).run P w = .ok d w := by
 simp [underlying, program, bind, Sem.bind, Sem.run, h, pure]
def OneT (P : Program) (t : TypeId) (b : Bool) : Prop := (P.underlying t).map oneCellT = some b
theorem run_isAgg {P : Program} {t : TypeId} {b : Bool} (h : OneT P t b) (w : World) : (isAgg t).run P w = .ok (!b) w := by
 obtain ⟨d, hd, rfl⟩ := Option.map_eq_some_iff.1 h
 unfold isAgg
 rw [run_bind (run_underlying hd w)]
 cases d <;> rfl
theorem run_typeInfo {P : Program} {t : TypeId} {i : TypeInfo} (h : P.info? t = some i) (w : World) : (typeInfo t).run P w = .ok i w := by
 simp [typeInfo, program, bind, Sem.bind, Sem.run, h, pure]
def SizeIs (P : Program) (t : TypeId) (k : Nat) : Prop := (P.info? t).map TypeInfo.size = some k
def BytesIs (P : Program) (t : TypeId) (k : Nat) : Prop := (P.info? t).map TypeInfo.bytes = some k
def ZeroIs (P : Program) (t : TypeId) (v : Value) : Prop := (P.info? t).bind TypeInfo.zero = some v
theorem run_sizeOf {P : Program} {t : TypeId} {k : Nat} (h : SizeIs P t k) (w : World) : (sizeOf t).run P w = .ok k w := by
 obtain ⟨i, hi, rfl⟩ := Option.map_eq_some_iff.1 h
 unfold sizeOf
 rw [run_bind (run_typeInfo hi w)]; rfl
theorem run_zeroValue {P : Program} {t : TypeId} {v : Value} (h : ZeroIs P t v) (w : World) : (zeroValue t).run P w = .ok v w := by
 obtain ⟨i, hi, hz⟩ := Option.bind_eq_some_iff.1 h
 unfold zeroValue
 rw [run_bind (run_typeInfo hi w)]; simp [hz, pure]
theorem run_load1 {P : Program} {t : TypeId} (h : OneT P t true) {a : Addr} {v : Value} {w : World} (hc : w.cell? a = some v) :
 (Instr.loadAt t (.pointer (some a))).run P w = .ok v w := by
 unfold Instr.loadAt Instr.sureAddr loadVar
 simp only [pure, bind, Sem.bind]
 show ((isAgg t) >>= _).run P w = _
 rw [run_bind (run_isAgg h w)]
 simp [load, Sem.run, hc]
theorem run_loadN {P : Program} {t : TypeId} (h : OneT P t false) {k : Nat} (hk : SizeIs P t k) {b o : Nat} {vs : List Value} {w : World} (hl : vs.length = k) (hc : CellsAt w ⟨b, o, none⟩ vs) :
 (Instr.loadAt t (.pointer (some ⟨b, o, none⟩))).run P w = .ok (.agg vs.toArray) w := by
 unfold Instr.loadAt Instr.sureAddr loadVar
 simp only [pure, bind, Sem.bind]
 show ((isAgg t) >>= _).run P w = _
 rw [run_bind (run_isAgg h w)]
 simp only [Bool.not_false, if_true]
 show ((sizeOf t) >>= _).run P w = _
 rw [run_bind (run_sizeOf hk w)]
 show ((loadCells _ _) >>= _).run P w = _
 rw [run_bind (run_loadCells hl hc)]
 rfl
section rules
variable {C : Ctx} {K : Env → List Blk → Prop} {e : Env} {L : List Blk}
variable {dst : Option Tmp} {ty : TypeId} {pos : String} {after : Array Edge} {guard : Option (Nat × Bool)}
theorem T1.valAt {o : Oper} (v : Value) (h : ∀ w, St C.w0 C.M L w → (execOp (ev C.n e) o).run C.P w = .ok (.value v) w) (k : K (putO e o.dst v) L) : T1 C o K e L := by
 intro a w K' Q' hr hs hK
 unfold Oper.wp
 rw [hr.eval, h w hs]
 exact hK _ _ _ _ (hr.put _ _) hs k
def V1 (C : Ctx) (o : Oper) (e : Env) (L : List Blk) (v : Value) : Prop := ∀ w, St C.w0 C.M L w → (execOp (ev C.n e) o).run C.P w = .ok (.value v) w
theorem V1.t {o : Oper} {v : Value} (h : V1 C o e L v) (k : K (putO e o.dst v) L) : T1 C o K e L := T1.valAt v h k
theorem run_value {P : Program} {s : Sem Value} {w w' : World} {v : Value} (h : s.run P w = .ok v w') : (do pure (Next.value (← s)) : Sem Next).run P w = .ok (.value v) w' := by
 rw [run_bind h]; rfl
theorem V1.load1 {t : TypeId} {x : Operand} {a : Addr} {v : Value} (hT : OneT C.P t true) (hp : ev C.n e x = .pointer (some a)) (hrd : Rd C L a v) : V1 C ⟨dst, .load t x, ty, pos, after, guard⟩ e L v := 
 (fun w hs => by
  show (do pure (Next.value (← Instr.loadAt t (ev C.n e x))) : Sem Next).run C.P w = _
  rw [hp]; exact run_value (run_load1 hT (hrd.cell hs)))
theorem V1.loadN {t : TypeId} {x : Operand} {b o k : Nat} {vs : List Value} (hT : OneT C.P t false) (hk : SizeIs C.P t k) (hp : ev C.n e x = .pointer (some ⟨b, o, none⟩))
 (hrd : RdN C L ⟨b, o, none⟩ vs) (hl : vs.length = k) : V1 C ⟨dst, .load t x, ty, pos, after, guard⟩ e L (.agg vs.toArray) :=
 (fun w hs => by
  show (do pure (Next.value (← Instr.loadAt t (ev C.n e x))) : Sem Next).run C.P w = _
  rw [hp]; exact run_value (run_loadN hT hk hl (hrd.cells hs)))
end rules
def one : Value → Bool
  | .agg _ | .tuple _ => false
  | _ => true
theorem heap_setCell {w : World} {a : Addr} {v : Value} {b : Nat} (h : b ≠ a.block) : (w.setCell a v).heap[b]? = w.heap[b]? := by
 simp only [World.setCell, Array.getElem?_modify]; rw [if_neg (Ne.symm h)]
theorem heap_setCell_size {w : World} {a : Addr} {v : Value} : (w.setCell a v).heap.size = w.heap.size := by simp [World.setCell]
def setCellsAt (w : World) (b o : Nat) : List Value → World
  | [] => w
  | v :: vs => setCellsAt (w.setCell ⟨b, o, none⟩ v) b (o + 1) vs
theorem setCellsAt_drawn (b : Nat) : ∀ (vs : List Value) (o : Nat) (w : World), (setCellsAt w b o vs).drawn = w.drawn
 | [], _, _ => rfl
 | v :: vs, o, w => by rw [setCellsAt, setCellsAt_drawn b vs]; rfl
theorem St.turn {w0 : World} {M : List Nat} {L L' : List Blk} {B B' : Blk} {w w' : World} (h : St w0 M L w) (hu : Sub L [B] L' [B']) (hid : B'.id = B.id)
 (ho : w'.os = w.os) (ht : w'.tape = w.tape) (hp : w'.output = w.output) (hsz : w'.heap.size = w.heap.size) (hsame : ∀ b, b ≠ B.id → w'.heap[b]? = w.heap[b]?) (hin : B'.In w') (hdr : w.drawn ≤ w'.drawn := by first | exact Nat.le_refl _ | (rw [setCellsAt_drawn]; exact Nat.le_refl _)) : St w0 M L' w' := by
 obtain ⟨F, G, rfl, rfl⟩ := hu.split
 have hd := h.distinct
 simp only [List.map_append, List.nodup_append, List.map_cons, List.map_nil] at hd
 have hne : ∀ X, X ∈ F ∨ X ∈ G → X.id ≠ B.id := by
  rintro X (hX | hX)
  · exact hd.2.2 _ (List.mem_map_of_mem hX) _ (by simp)
  · exact fun he => hd.2.1.2.2 B.id (by simp) _ (List.mem_map_of_mem hX) he.symm
 refine ⟨ho.trans h.os, ht.trans h.tape, hp.trans h.output, by rw [hsz]; exact h.size, ?_, ?_, ?_, ?_, drawLe.then h.drawn hdr⟩
 ·
  intro b hb hm
  have hne' : b ≠ B.id := fun he => hm (he ▸ h.may B (by simp) (by omega))
  rw [hsame b hne']; exact h.old b hb hm
 ·
  have := h.distinct
  simpa [List.map_append, hid] using this
 ·
  intro X hX
  simp only [List.mem_append, List.mem_cons, List.not_mem_nil, or_false] at hX
  rcases hX with hX | rfl | hX
  · exact (h.inw X (by simp [hX])).of_same (hsame _ (hne X (.inl hX)))
  · exact hin
  · exact (h.inw X (by simp [hX])).of_same (hsame _ (hne X (.inr hX)))
 ·
  intro X hX hlt
  simp only [List.mem_append, List.mem_cons, List.not_mem_nil, or_false] at hX
  rcases hX with hX | rfl | hX
  · exact h.may X (by simp [hX]) hlt
  · rw [hid] at hlt ⊢; exact h.may B (by simp) hlt
  · exact h.may X (by simp [hX]) hlt
theorem setCellsAt_fields (b : Nat) : ∀ (vs : List Value) (o : Nat) (w : World), (setCellsAt w b o vs).os = w.os ∧ (setCellsAt w b o vs).tape = w.tape ∧ (setCellsAt w b o vs).output = w.output ∧ (setCellsAt w b o vs).heap.size = w.heap.size ∧
 (∀ k, k ≠ b → (setCellsAt w b o vs).heap[k]? = w.heap[k]?) := by
 intro vs
 induction vs with
 | nil => intro o w; exact ⟨rfl, rfl, rfl, rfl, fun _ _ => rfl⟩
 | cons v vs ih =>
  intro o w
  obtain ⟨h1, h2, h3, h4, h5⟩ := ih (o + 1) (w.setCell ⟨b, o, none⟩ v)
  exact ⟨h1, h2, h3, h4.trans heap_setCell_size, fun k hk => (h5 k hk).trans (heap_setCell hk)⟩
theorem setCellsAt_block (b : Nat) : ∀ (vs : List Value) (o : Nat) (w : World) (c : Array Value) (E : TypeId) (f : Nat × Nat), w.heap[b]? = some (.cells c E f) →
 ∃ c', (setCellsAt w b o vs).heap[b]? = some (.cells c' E f) ∧ c'.size = c.size ∧ ∀ i, c'[i]? = if o ≤ i ∧ i < o + vs.length ∧ i < c.size then vs[i - o]? else c[i]? := by
 intro vs
 induction vs with
 | nil => intro o w c E f h; exact ⟨c, h, rfl, fun i => by rw [if_neg (by simp; omega)]⟩
 | cons v vs ih =>
  intro o w c E f h
  have h1 : (w.setCell ⟨b, o, none⟩ v).heap[b]? = some (.cells (c.setIfInBounds o v) E f) := by
   simp only [World.setCell, Array.getElem?_modify]; simp [h]
  obtain ⟨c', h2, h3, h4⟩ := ih (o + 1) _ _ E f h1
  refine ⟨c', h2, by simpa using h3, fun i => ?_⟩
  rw [h4]
  simp only [Array.size_setIfInBounds, List.length_cons]
  by_cases hio : i = o
  ·
   subst hio
   rw [if_neg (by omega)]
   by_cases hlt : i < c.size
   · rw [if_pos ⟨by omega, by omega, hlt⟩]; simp [hlt]
   · rw [if_neg (by omega)]; simp [Array.getElem?_eq_none (by omega : c.size ≤ i)]; omega
  ·
   by_cases hin : o + 1 ≤ i ∧ i < o + 1 + vs.length ∧ i < c.size
   · rw [if_pos hin, if_pos ⟨by omega, by omega, hin.2.2⟩, show i - o = (i - (o + 1)) + 1 by omega]; rfl
   · rw [if_neg hin, if_neg (by omega), Array.getElem?_setIfInBounds_ne (Ne.symm hio)]
theorem oneCell_store {P : Program} {w : World} {a : Addr} {u v : Value} (hc : w.cell? a = some u) (hz : w.frozen? a = false) (h1 : one v = true) : (store a v).run P w = .ok () (w.setCell a v) := by
 cases v <;> first | (cases h1; done) | simp [store, Sem.run, hc, hz]
theorem frozen_of_in {B : Blk} {w : World} (h : B.In w) {o : Nat} (ho : o < B.size) (hm : B.key.mp.v = false := by rfl) : w.frozen? ⟨B.id, o, none⟩ = false := by
 obtain ⟨c, E, lo, hi, hh, hsz, hk, hf⟩ := h.here hm
 have : ¬ (lo ≤ o ∧ o < hi) := by omega
 simp only [World.frozen?, hh]
 simp only [Bool.and_eq_false_iff, decide_eq_false_iff_not]
 omega
theorem run_storeCells {P : Program} {b : Nat} : ∀ (vs : List Value) (o i : Nat) (w : World) (c : Array Value) (E : TypeId) (lo hi : Nat), w.heap[b]? = some (.cells c E (lo, hi)) → o + i + vs.length ≤ c.size →
 (∀ k, k < c.size → ¬ (lo ≤ k ∧ k < hi)) → (∀ v ∈ vs, one v = true) → (storeCells ⟨b, o, none⟩ vs i).run P w = .ok () (setCellsAt w b (o + i) vs) := by
 intro vs
 induction vs with
 | nil => intro o i w c E lo hi _ _ _ _; rfl
 | cons v vs ih =>
  intro o i w c E lo hi hh hlen hfr hone
  have hlen' : o + i < c.size := by simp at hlen; omega
  have hcell : w.cell? ⟨b, o + i, none⟩ = some c[o + i] := by simp [World.cell?, hh, hlen']
  have hz : w.frozen? ⟨b, o + i, none⟩ = false := by
   have := hfr (o + i) hlen'
   simp only [World.frozen?, hh, Bool.and_eq_false_iff, decide_eq_false_iff_not]; omega
  unfold storeCells
  rw [addr_add, run_bind (oneCell_store hcell hz (hone v (by simp)))]
  have h1 : (w.setCell ⟨b, o + i, none⟩ v).heap[b]? = some (.cells (c.setIfInBounds (o + i) v) E (lo, hi)) := by
   simp only [World.setCell, Array.getElem?_modify]; simp [hh]
  rw [ih o (i + 1) _ _ E lo hi h1 (by simp at hlen ⊢; omega) (by simpa using hfr) (fun u hu => hone u (by simp [hu]))]
  rfl
def putN (cells : List Value) (k : Nat) (vs : List Value) : List Value := cells.take k ++ vs ++ cells.drop (k + vs.length)
theorem putN_get {cells vs : List Value} {k : Nat} (h : k + vs.length ≤ cells.length) (i : Nat) : (putN cells k vs)[i]? = if k ≤ i ∧ i < k + vs.length then vs[i - k]? else cells[i]? := by
 unfold putN
 rw [List.append_assoc, List.getElem?_append]
 simp only [List.length_take]
 by_cases h1 : i < min k cells.length
 · rw [if_pos h1, if_neg (by omega), List.getElem?_take, if_pos (by omega)]
 ·
  rw [if_neg h1, List.getElem?_append]
  by_cases h2 : i - min k cells.length < vs.length
  · rw [if_pos h2, if_pos (by omega)]; congr 1; omega
  · rw [if_neg h2, if_neg (by omega), List.getElem?_drop]; congr 1; omega
theorem putN_length {cells vs : List Value} {k : Nat} (h : k + vs.length ≤ cells.length) : (putN cells k vs).length = cells.length := by
 unfold putN; simp; omega
theorem In_setCellsAt {w : World} {B : Blk} (h : B.In w) {o : Nat} {vs : List Value} (h1 : B.off ≤ o) (h2 : o + vs.length ≤ B.off + B.cells.length) (hm : B.key.mp.v = false := by rfl) :
 (⟨B.key, B.off, putN B.cells (o - B.off) vs, B.size⟩ : Blk).In (setCellsAt w B.id o vs) := by
 obtain ⟨c, E, lo, hi, hh, hsz, hk, hf⟩ := h.here hm
 obtain ⟨c', g1, g2, g3⟩ := setCellsAt_block B.id vs o w c E (lo, hi) hh
 have hl : (putN B.cells (o - B.off) vs).length = B.cells.length := putN_length (by omega)
 have hr := h.room
 refine Blk.In.ofCells (by show B.off + (putN B.cells (o - B.off) vs).length ≤ B.size; omega) ⟨c', E, lo, hi, g1, by show c'.size = B.size; omega, fun i hi' => ?_, hf⟩ hm
 show c'[B.off + i]? = (putN B.cells (o - B.off) vs)[i]?
 have hi2 : i < B.cells.length := by simpa [hl] using hi'
 rw [g3, putN_get (by omega)]
 by_cases hc : o - B.off ≤ i ∧ i < o - B.off + vs.length
 · rw [if_pos ⟨by omega, by omega, by omega⟩, if_pos hc]; congr 1; omega
 · rw [if_neg (by omega), if_neg hc]; exact hk i hi2
theorem In_extend {w : World} {B : Blk} (h : B.In w) {vs : List Value} (h2 : B.off + B.cells.length + vs.length ≤ B.size) (hm : B.key.mp.v = false := by rfl) :
 (⟨B.key, B.off, B.cells ++ vs, B.size⟩ : Blk).In (setCellsAt w B.id (B.off + B.cells.length) vs) := by
 obtain ⟨c, E, lo, hi, hh, hsz, hk, hf⟩ := h.here hm
 obtain ⟨c', g1, g2, g3⟩ := setCellsAt_block B.id vs (B.off + B.cells.length) w c E (lo, hi) hh
 refine Blk.In.ofCells (by simp; omega) ⟨c', E, lo, hi, g1, by show c'.size = B.size; omega, fun i hi' => ?_, hf⟩ hm
 show c'[B.off + i]? = (B.cells ++ vs)[i]?
 simp only [List.length_append] at hi'
 rw [g3, List.getElem?_append]
 by_cases hc : i < B.cells.length
 · rw [if_neg (by omega), if_pos hc]; exact hk i hc
 · rw [if_pos ⟨by omega, by omega, by omega⟩, if_neg hc]; congr 1; omega
section rules
variable {C : Ctx} {K : Env → List Blk → Prop} {e : Env} {L : List Blk}
variable {dst : Option Tmp} {ty : TypeId} {pos : String} {after : Array Edge} {guard : Option (Nat × Bool)}
theorem run_skip {P : Program} {s : Sem Unit} {w w' : World} (h : s.run P w = .ok () w') : (do s; pure Next.skip : Sem Next).run P w = .ok .skip w' := by
 rw [run_bind h]; rfl
theorem run_storeVar {P : Program} {t : TypeId} {b o : Nat} {v : Value} {w : World} {B : Blk} (hk : SizeIs P t v.cells.size) (hin : B.In w) (hb : B.id = b) (_ : B.off ≤ o) (h2 : o + v.cells.size ≤ B.off + B.cells.length) (hone : ∀ u ∈ v.cells.toList, one u = true) (hm : B.key.mp.v = false := by rfl) :
 (Instr.storeAt t (.pointer (some ⟨b, o, none⟩)) v).run P w = .ok () (setCellsAt w b o v.cells.toList) := by
 subst hb
 unfold Instr.storeAt Instr.sureAddr storeVar
 simp only [pure, bind, Sem.bind]
 show ((sizeOf t) >>= _).run P w = _
 rw [run_bind (run_sizeOf hk w)]
 obtain ⟨c, E, lo, hi, hh, hsz, _, hf⟩ := hin.here hm
 have hr := hin.room
 have := run_storeCells (P := P) v.cells.toList o 0 w c E lo hi hh (by simp; omega) (by intro k hk'; omega) hone
 simpa using this
theorem T1.store {t : TypeId} {x y : Operand} {b o off size : Nat} {tg : Option TypeId} {cells : List Value} {L' : List Blk} {v : Value} (hp : ev C.n e x = .pointer (some ⟨b, o, none⟩)) (hv : ev C.n e y = v)
 (hk : SizeIs C.P t v.cells.size) (h1 : off ≤ o) (h2 : o + v.cells.size ≤ off + cells.length) (hone : ∀ u ∈ v.cells.toList, one u = true)
 (hu : Sub L [⟨⟨b, tg⟩, off, cells, size⟩] L' [⟨⟨b, tg⟩, off, putN cells (o - off) v.cells.toList, size⟩]) (k : K (putO e dst undef) L') : T1 C ⟨dst, .store t x y, ty, pos, after, guard⟩ K e L := by
 intro a w K' Q' hr hs hK
 unfold Oper.wp
 rw [hr.eval]
 have hpc := hs.piece hu
 have hin := hpc.2 ⟨⟨b, tg⟩, off, cells, size⟩ (by simp)
 have hrun : (execOp (ev C.n e) ⟨dst, .store t x y, ty, pos, after, guard⟩).run C.P w = .ok .skip (setCellsAt w b o v.cells.toList) := by
  show (do Instr.storeAt t (ev C.n e x) (ev C.n e y); pure Next.skip : Sem Next).run C.P w = _
  rw [hp, hv]; exact run_skip (run_storeVar hk hin rfl h1 h2 hone)
 rw [hrun]
 obtain ⟨f1, f2, f3, f4, f5⟩ := setCellsAt_fields b v.cells.toList o w
 refine hK _ _ _ _ (hr.put _ _) (hs.turn hu rfl f1 f2 f3 f4 f5 ?_) k
 exact In_setCellsAt hin h1 (by simpa using h2)
theorem St.fresh {w0 : World} {M : List Nat} {L : List Blk} {w : World} (h : St w0 M L w) (c : Array Value) (E : TypeId) :
 St w0 M (⟨w.heap.size, 0, c.toList, c.size⟩ :: L) { w with heap := w.heap.push (.cells c E) } := by
 have := h.push (B := ⟨w.heap.size, 0, c.toList, c.size⟩) (c := c) (E := E) (lo := 0) (hi := 0) (k := w.drawn) rfl (by simp) rfl (by intro i hi; simp) (by omega)
 exact this
theorem T1.alloc {elem : TypeId} {z : Value} (hz : ZeroIs C.P elem z) (k : ∀ b, K (putO e dst (.pointer (some ⟨b, 0, none⟩))) (⟨b, 0, z.cells.toList, z.cells.size⟩ :: L)) : T1 C ⟨dst, .alloc elem, ty, pos, after, guard⟩ K e L := by
 intro a w K' Q' hr hs hK
 unfold Oper.wp
 rw [hr.eval]
 have hrun : (execOp (ev C.n e) ⟨dst, .alloc elem, ty, pos, after, guard⟩).run C.P w = .ok (.value (.pointer (some ⟨w.heap.size, 0, none⟩))) { w with heap := w.heap.push (.cells z.cells elem) } := by
  show (do pure (Next.value (← Instr.alloc elem true (.tuple #[]))) : Sem Next).run C.P w = _
  refine run_value ?_
  unfold Instr.alloc
  rw [run_bind (run_zeroValue hz w)]
  rfl
 rw [hrun]
 exact hK _ _ _ _ (hr.put _ _) (hs.fresh _ _) (k _)
theorem T1.box {elem : TypeId} {x : Operand} {v : Value} (hv : ev C.n e x = v) (k : ∀ b, K (putO e dst (.pointer (some ⟨b, 0, none⟩))) (⟨b, 0, v.cells.toList, v.cells.size⟩ :: L)) : T1 C ⟨dst, .box elem x, ty, pos, after, guard⟩ K e L := by
 intro a w K' Q' hr hs hK
 unfold Oper.wp
 rw [hr.eval]
 have hrun : (execOp (ev C.n e) ⟨dst, .box elem x, ty, pos, after, guard⟩).run C.P w = .ok (.value (.pointer (some ⟨w.heap.size, 0, none⟩))) { w with heap := w.heap.push (.cells v.cells elem) } := by
  show (do pure (Next.value (← Instr.box elem (ev C.n e x))) : Sem Next).run C.P w = _
  rw [hv]; rfl
 rw [hrun]
 exact hK _ _ _ _ (hr.put _ _) (hs.fresh _ _) (k _)
end rules
end Go.Proofs.YtfjedhmffccgnaaGreatDoor.S
namespace Go.Proofs.YtfjedhmffccgnaaGreatDoor.S
open Go.RowKit
section rules
variable {C : Ctx} {K : Env → List Blk → Prop} {e : Env} {L : List Blk}
variable {dst : Option Tmp} {ty : TypeId} {pos : String} {after : Array Edge} {guard : Option (Nat × Bool)}
theorem V1.run {o : Oper} {s : Sem Value} {v : Value} (ho : execOp (ev C.n e) o = (do pure (Next.value (← s)) : Sem Next)) (h : ∀ w, St C.w0 C.M L w → s.run C.P w = .ok v w) : V1 C o e L v :=
 fun w hs => by rw [ho]; exact run_value (h w hs)
theorem V1.move' {x : Operand} {v : Value} (hx : ev C.n e x = v) : V1 C ⟨dst, .move x, ty, pos, after, guard⟩ e L v := (fun _ _ => by subst hx; rfl)
theorem V1.assign' {x : Operand} {v : Value} (hx : ev C.n e x = v) : V1 C ⟨dst, .assign x, ty, pos, after, guard⟩ e L v := (fun _ _ => by subst hx; rfl)
theorem V1.pick {c x y : Operand} {b : Bool} {v : Value} (hc : ev C.n e c = .bool b) (hv : (bif b then ev C.n e x else ev C.n e y) = v) : V1 C ⟨dst, .pick c x y, ty, pos, after, guard⟩ e L v := 
 (fun w _ => by
  show (do pure (Next.value (if ← asBool (ev C.n e c) then ev C.n e x else ev C.n e y)) : Sem Next).run C.P w = _
  subst hv
  rw [hc]; cases b <;> rfl)
theorem V1.extract {t : Operand} {i : Nat} {vs : Array Value} {v : Value} (ht : ev C.n e t = .tuple vs) (hv : vs[i]? = some v) : V1 C ⟨dst, .extract t i, ty, pos, after, guard⟩ e L v := 
 V1.run (s := Instr.extract (ev C.n e t) i) rfl (fun w _ => by rw [ht]; simp [Instr.extract, hv, pure])
theorem V1.nilCheck {x : Operand} {a : Addr} (hx : ev C.n e x = .pointer (some a)) : V1 C ⟨dst, .nilCheck x, ty, pos, after, guard⟩ e L (.pointer (some a)) := 
 (fun w _ => by
  show (match ev C.n e x with | .pointer none | .nilIface | .nilFunc => _ | .func (.method name) first captured => _ | x => _ : Sem Next).run C.P w = _
  rw [hx]; rfl)
theorem V1.arith {op : BinOp} {t yt : TypeId} {x y : Operand} {kd : IntKind} {a b : Int} {v : Value} (hx : ev C.n e x = .int kd a) (hy : ev C.n e y = .int kd b)
 (h : ∀ w, (do eqGuard op t x y (.int kd a) (.int kd b); binOp op t (.int kd a) (.int kd b) : Sem Value).run C.P w = .ok v w) : V1 C ⟨dst, .binOp op t x y yt, ty, pos, after, guard⟩ e L v :=
 V1.run (s := do eqGuard op t x y (ev C.n e x) (ev C.n e y); binOp op t (ev C.n e x) (ev C.n e y)) rfl (fun w _ => by rw [hx, hy]; exact h w)
theorem run_int {P : Program} {op : BinOp} {t : TypeId} {x y : Operand} {kd : IntKind} {a b : Int} {s : Sem Value} (h : binOp op t (.int kd a) (.int kd b) = s) (w : World) :
 (do eqGuard op t x y (.int kd a) (.int kd b); binOp op t (.int kd a) (.int kd b) : Sem Value).run P w = s.run P w := by
 rw [h]
 cases op <;> rfl
theorem binOp_int {op : BinOp} {t : TypeId} {kd : IntKind} {a b : Int} : binOp op t (.int kd a) (.int kd b) = (match op with
 | .shl | .shr => Op.shift op kd a kd b | .add | .sub | .mul => Op.intArith op kd a b | .quo | .rem => Op.intDiv op kd a b | .and | .or | .xor | .andNot => Op.intBits op kd a b | _ => Op.intCmp op a b) := by
 cases op <;> simp [binOp]
theorem V1.add {t yt : TypeId} {x y : Operand} {kd : IntKind} {a b c : Int} (hx : ev C.n e x = .int kd a) (hy : ev C.n e y = .int kd b) (h : kd.wrap (a + b) = c) : V1 C ⟨dst, .binOp .add t x y yt, ty, pos, after, guard⟩ e L (.int kd c) := 
 V1.arith hx hy (fun w => by rw [run_int binOp_int]; subst h; rfl)
theorem V1.sub {t yt : TypeId} {x y : Operand} {kd : IntKind} {a b c : Int} (hx : ev C.n e x = .int kd a) (hy : ev C.n e y = .int kd b) (h : kd.wrap (a - b) = c) : V1 C ⟨dst, .binOp .sub t x y yt, ty, pos, after, guard⟩ e L (.int kd c) := 
 V1.arith hx hy (fun w => by rw [run_int binOp_int]; subst h; rfl)
theorem V1.mul {t yt : TypeId} {x y : Operand} {kd : IntKind} {a b c : Int} (hx : ev C.n e x = .int kd a) (hy : ev C.n e y = .int kd b) (h : kd.wrap (a * b) = c) : V1 C ⟨dst, .binOp .mul t x y yt, ty, pos, after, guard⟩ e L (.int kd c) := 
 V1.arith hx hy (fun w => by rw [run_int binOp_int]; subst h; rfl)
theorem V1.quo {t yt : TypeId} {x y : Operand} {kd : IntKind} {a b c : Int} (hx : ev C.n e x = .int kd a) (hy : ev C.n e y = .int kd b) (hb : b ≠ 0) (h : kd.wrap (a.tdiv b) = c) : V1 C ⟨dst, .binOp .quo t x y yt, ty, pos, after, guard⟩ e L (.int kd c) := 
 V1.arith hx hy (fun w => by rw [run_int binOp_int]; subst h; simp [Op.intDiv, hb, pure])
theorem V1.rem {t yt : TypeId} {x y : Operand} {kd : IntKind} {a b c : Int} (hx : ev C.n e x = .int kd a) (hy : ev C.n e y = .int kd b) (hb : b ≠ 0) (h : a.tmod b = c) : V1 C ⟨dst, .binOp .rem t x y yt, ty, pos, after, guard⟩ e L (.int kd c) := 
 V1.arith hx hy (fun w => by rw [run_int binOp_int]; subst h; simp [Op.intDiv, hb, pure])
def bitop (op : BinOp) (kd : IntKind) (x y : Int) : Int :=
  let a := BitVec.ofInt kd.bits x
  let b := BitVec.ofInt kd.bits y
  match op with
  | .and => kd.wrap (a &&& b).toNat
  | .or => kd.wrap (a ||| b).toNat
  | .xor => kd.wrap (a ^^^ b).toNat
  | _ => kd.wrap (a &&& ~~~b).toNat
theorem V1.bits {op : BinOp} {t yt : TypeId} {x y : Operand} {kd : IntKind} {a b c : Int} (hop : (match op with | .and | .or | .xor | .andNot => true | _ => false) = true) (hx : ev C.n e x = .int kd a) (hy : ev C.n e y = .int kd b) (h : bitop op kd a b = c) : V1 C ⟨dst, .binOp op t x y yt, ty, pos, after, guard⟩ e L (.int kd c) := 
 V1.arith hx hy (fun w => by
  rw [run_int binOp_int]; subst h
  cases op <;> first | (cases hop; done) | rfl)
theorem V1.shl {t yt : TypeId} {x y : Operand} {kd ky : IntKind} {a b c : Int} (hx : ev C.n e x = .int kd a) (hy : ev C.n e y = .int ky b) (hb : 0 ≤ b) (h : kd.wrap (a * 2 ^ (min b.toNat kd.bits)) = c) : V1 C ⟨dst, .binOp .shl t x y yt, ty, pos, after, guard⟩ e L (.int kd c) := 
 V1.run (s := do eqGuard .shl t x y (ev C.n e x) (ev C.n e y); binOp .shl t (ev C.n e x) (ev C.n e y)) rfl (fun w _ => by
  rw [hx, hy]; subst h
  show (Op.shift .shl kd a ky b).run C.P w = _
  simp [Op.shift, show ¬ b < 0 by omega, pure])
theorem V1.shr {t yt : TypeId} {x y : Operand} {kd ky : IntKind} {a b c : Int} (hx : ev C.n e x = .int kd a) (hy : ev C.n e y = .int ky b) (hb : 0 ≤ b) (h : a.fdiv (2 ^ (min b.toNat kd.bits)) = c) : V1 C ⟨dst, .binOp .shr t x y yt, ty, pos, after, guard⟩ e L (.int kd c) := 
 V1.run (s := do eqGuard .shr t x y (ev C.n e x) (ev C.n e y); binOp .shr t (ev C.n e x) (ev C.n e y)) rfl (fun w _ => by
  rw [hx, hy]; subst h
  show (Op.shift .shr kd a ky b).run C.P w = _
  simp [Op.shift, show ¬ b < 0 by omega, pure])
theorem V1.eqI {t yt : TypeId} {x y : Operand} {kd : IntKind} {a b : Int} {r : Bool} (hx : ev C.n e x = .int kd a) (hy : ev C.n e y = .int kd b) (h : decide (a = b) = r) : V1 C ⟨dst, .binOp .eql t x y yt, ty, pos, after, guard⟩ e L (.bool r) := 
 V1.arith hx hy (fun w => by rw [run_int binOp_int]; subst h; rfl)
theorem V1.neI {t yt : TypeId} {x y : Operand} {kd : IntKind} {a b : Int} {r : Bool} (hx : ev C.n e x = .int kd a) (hy : ev C.n e y = .int kd b) (h : decide (a ≠ b) = r) : V1 C ⟨dst, .binOp .neq t x y yt, ty, pos, after, guard⟩ e L (.bool r) := 
 V1.arith hx hy (fun w => by
  rw [run_int binOp_int]; subst h
  show Result.ok (Value.bool (a != b)) w = _
  congr 2
  by_cases hab : a = b <;> simp [hab])
theorem V1.ltI {t yt : TypeId} {x y : Operand} {kd : IntKind} {a b : Int} {r : Bool} (hx : ev C.n e x = .int kd a) (hy : ev C.n e y = .int kd b) (h : decide (a < b) = r) : V1 C ⟨dst, .binOp .lss t x y yt, ty, pos, after, guard⟩ e L (.bool r) := 
 V1.arith hx hy (fun w => by rw [run_int binOp_int]; subst h; rfl)
theorem V1.leI {t yt : TypeId} {x y : Operand} {kd : IntKind} {a b : Int} {r : Bool} (hx : ev C.n e x = .int kd a) (hy : ev C.n e y = .int kd b) (h : decide (a ≤ b) = r) : V1 C ⟨dst, .binOp .leq t x y yt, ty, pos, after, guard⟩ e L (.bool r) := 
 V1.arith hx hy (fun w => by rw [run_int binOp_int]; subst h; rfl)
theorem V1.gtI {t yt : TypeId} {x y : Operand} {kd : IntKind} {a b : Int} {r : Bool} (hx : ev C.n e x = .int kd a) (hy : ev C.n e y = .int kd b) (h : decide (b < a) = r) : V1 C ⟨dst, .binOp .gtr t x y yt, ty, pos, after, guard⟩ e L (.bool r) := 
 V1.arith hx hy (fun w => by rw [run_int binOp_int]; subst h; rfl)
theorem V1.geI {t yt : TypeId} {x y : Operand} {kd : IntKind} {a b : Int} {r : Bool} (hx : ev C.n e x = .int kd a) (hy : ev C.n e y = .int kd b) (h : decide (b ≤ a) = r) : V1 C ⟨dst, .binOp .geq t x y yt, ty, pos, after, guard⟩ e L (.bool r) := 
 V1.arith hx hy (fun w => by rw [run_int binOp_int]; subst h; rfl)
theorem T1.eqI_split {t yt : TypeId} {x y : Operand} {kd : IntKind} {a b : Int} (hx : ev C.n e x = .int kd a) (hy : ev C.n e y = .int kd b) (k1 : a = b → K (putO e dst (.bool true)) L) (k0 : a ≠ b → K (putO e dst (.bool false)) L) : T1 C ⟨dst, .binOp .eql t x y yt, ty, pos, after, guard⟩ K e L := by
 by_cases h : a = b
 · exact (V1.eqI hx hy (by simp [h])).t (k1 h)
 · exact (V1.eqI hx hy (by simp [h])).t (k0 h)
theorem T1.neI_split {t yt : TypeId} {x y : Operand} {kd : IntKind} {a b : Int} (hx : ev C.n e x = .int kd a) (hy : ev C.n e y = .int kd b) (k1 : a ≠ b → K (putO e dst (.bool true)) L) (k0 : a = b → K (putO e dst (.bool false)) L) : T1 C ⟨dst, .binOp .neq t x y yt, ty, pos, after, guard⟩ K e L := by
 by_cases h : a = b
 · exact (V1.neI hx hy (by simp [h])).t (k0 h)
 · exact (V1.neI hx hy (by simp [h])).t (k1 h)
theorem T1.ltI_split {t yt : TypeId} {x y : Operand} {kd : IntKind} {a b : Int} (hx : ev C.n e x = .int kd a) (hy : ev C.n e y = .int kd b) (k1 : a < b → K (putO e dst (.bool true)) L) (k0 : b ≤ a → K (putO e dst (.bool false)) L) : T1 C ⟨dst, .binOp .lss t x y yt, ty, pos, after, guard⟩ K e L := by
 by_cases h : a < b
 · exact (V1.ltI hx hy (by simp [h])).t (k1 h)
 · exact (V1.ltI hx hy (by simp [h])).t (k0 (by omega))
theorem T1.leI_split {t yt : TypeId} {x y : Operand} {kd : IntKind} {a b : Int} (hx : ev C.n e x = .int kd a) (hy : ev C.n e y = .int kd b) (k1 : a ≤ b → K (putO e dst (.bool true)) L) (k0 : b < a → K (putO e dst (.bool false)) L) : T1 C ⟨dst, .binOp .leq t x y yt, ty, pos, after, guard⟩ K e L := by
 by_cases h : a ≤ b
 · exact (V1.leI hx hy (by simp [h])).t (k1 h)
 · exact (V1.leI hx hy (by simp [h])).t (k0 (by omega))
theorem T1.gtI_split {t yt : TypeId} {x y : Operand} {kd : IntKind} {a b : Int} (hx : ev C.n e x = .int kd a) (hy : ev C.n e y = .int kd b) (k1 : b < a → K (putO e dst (.bool true)) L) (k0 : a ≤ b → K (putO e dst (.bool false)) L) : T1 C ⟨dst, .binOp .gtr t x y yt, ty, pos, after, guard⟩ K e L := by
 by_cases h : b < a
 · exact (V1.gtI hx hy (by simp [h])).t (k1 h)
 · exact (V1.gtI hx hy (by simp [h])).t (k0 (by omega))
theorem T1.geI_split {t yt : TypeId} {x y : Operand} {kd : IntKind} {a b : Int} (hx : ev C.n e x = .int kd a) (hy : ev C.n e y = .int kd b) (k1 : b ≤ a → K (putO e dst (.bool true)) L) (k0 : a < b → K (putO e dst (.bool false)) L) : T1 C ⟨dst, .binOp .geq t x y yt, ty, pos, after, guard⟩ K e L := by
 by_cases h : b ≤ a
 · exact (V1.geI hx hy (by simp [h])).t (k1 h)
 · exact (V1.geI hx hy (by simp [h])).t (k0 (by omega))
theorem V1.str {op : BinOp} {t yt : TypeId} {x y : Operand} {a b : ByteArray} {v : Value} (hx : ev C.n e x = .string a) (hy : ev C.n e y = .string b) (h : ∀ w, (Op.stringOp op a b).run C.P w = .ok v w) : V1 C ⟨dst, .binOp op t x y yt, ty, pos, after, guard⟩ e L v := 
 V1.run (s := do eqGuard op t x y (ev C.n e x) (ev C.n e y); binOp op t (ev C.n e x) (ev C.n e y)) rfl (fun w _ => by
  rw [hx, hy]
  have : ∀ op, (do eqGuard op t x y (.string a) (.string b); binOp op t (.string a) (.string b) : Sem Value).run C.P w = (Op.stringOp op a b).run C.P w := by intro op; cases op <;> rfl
  rw [this]; exact h w)
theorem V1.addS {t yt : TypeId} {x y : Operand} {a b : ByteArray} (hx : ev C.n e x = .string a) (hy : ev C.n e y = .string b) (h : a.size + b.size < 2 ^ 63) : V1 C ⟨dst, .binOp .add t x y yt, ty, pos, after, guard⟩ e L (.string (a ++ b)) := 
 V1.str hx hy (fun w => by
  show (if ((a.size + b.size : Nat) : Int) > IntKind.i64.max then _ else _ : Sem Value).run C.P w = _
  rw [if_neg (by have : IntKind.i64.max = 2 ^ 63 - 1 := rfl; omega)]; rfl)
theorem V1.not {x : Operand} {t : TypeId} {b r : Bool} (hx : ev C.n e x = .bool b) (h : (!b) = r) : V1 C ⟨dst, .unOp .not t x, ty, pos, after, guard⟩ e L (.bool r) := 
 V1.run (s := Op.unary .not (ev C.n e x)) rfl (fun w _ => by rw [hx]; subst h; rfl)
theorem V1.compl {x : Operand} {t : TypeId} {kd : IntKind} {a c : Int} (hx : ev C.n e x = .int kd a) (h : bitop .xor kd (if kd.signed then -1 else kd.max) a = c) : V1 C ⟨dst, .unOp .xor t x, ty, pos, after, guard⟩ e L (.int kd c) := 
 V1.run (s := Op.unary .xor (ev C.n e x)) rfl (fun w _ => by rw [hx]; subst h; rfl)
theorem V1.conv {s d : TypeId} {x : Operand} {k1 k2 : IntKind} {ds : TypeDesc} {a c : Int} (hs : C.P.underlying s = some ds) (hd : C.P.underlying d = some (.int k2)) (hx : ev C.n e x = .int k1 a) (h : k2.wrap a = c) : V1 C ⟨dst, .convert s d x, ty, pos, after, guard⟩ e L (.int k2 c) := 
 V1.run (s := convert s d (ev C.n e x)) rfl (fun w _ => by
  rw [hx]; subst h
  unfold convert
  rw [run_bind (run_underlying hs w), run_bind (run_underlying hd w)]
  cases ds <;> rfl)
theorem V1.builtin {b : Builtin} {args : List Operand} {ts : Array TypeId} {s : Sem Value} {v : Value} (ho : ∀ consts, Go.builtin b ts ty consts (args.map (ev C.n e)).toArray = (do pure (Next.value (← s)) : Sem Next)) (h : ∀ w, St C.w0 C.M L w → s.run C.P w = .ok v w) :
 V1 C ⟨dst, .call ⟨.builtin b, args.toArray, ts⟩, ty, pos, after, guard⟩ e L v :=
 V1.run (s := s) (by
  show Go.builtin b ts ty _ (args.toArray.map (ev C.n e)) = _
  rw [show args.toArray.map (ev C.n e) = (args.map (ev C.n e)).toArray from List.map_toArray ..]; exact ho _) h
theorem V1.lenSl {x : Operand} {t el : TypeId} {a : Option Addr} {n c : Nat} (hT : C.P.underlying t = some (.slice el)) (hx : ev C.n e x = .slice a n c) : V1 C ⟨dst, .call ⟨.builtin .len, #[x], #[t]⟩, ty, pos, after, guard⟩ e L (.int .i64 n) := 
 V1.builtin (args := [x]) (s := Builtin.len_ #[t] ty #[ev C.n e x]) (fun _ => rfl) (fun w _ => by
  rw [hx]
  show (do match ← underlying t, Value.slice a n c with | _, _ => _ : Sem Value).run C.P w = _
  rw [run_bind (run_underlying hT w)]; rfl)
theorem V1.capSl {x : Operand} {t el : TypeId} {a : Option Addr} {n c : Nat} (hT : C.P.underlying t = some (.slice el)) (hx : ev C.n e x = .slice a n c) : V1 C ⟨dst, .call ⟨.builtin .cap, #[x], #[t]⟩, ty, pos, after, guard⟩ e L (.int .i64 c) := 
 V1.builtin (args := [x]) (s := Builtin.cap_ #[t] ty #[ev C.n e x]) (fun _ => rfl) (fun w _ => by
  rw [hx]
  show (do match ← underlying t, Value.slice a n c with | _, _ => _ : Sem Value).run C.P w = _
  rw [run_bind (run_underlying hT w)]; rfl)
def FieldIs (P : Program) (s : TypeId) (f off : Nat) : Prop := ∃ fields fl, P.underlying s = some (.struct fields) ∧ fields[f]? = some fl ∧ fl.offset = off ∧ ∃ k, SizeIs P fl.type (k + 1)
def fieldOf (P : Program) (s : TypeId) (f : Nat) : Option (Nat × Option Nat) :=
  match P.underlying s with
  | some (.struct fields) => (fields[f]?).map fun fl => (fl.offset, (P.info? fl.type).map TypeInfo.size)
  | _ => none
theorem FieldIs.of {P : Program} {s : TypeId} {f off k : Nat} (h : fieldOf P s f = some (off, some (k + 1))) : FieldIs P s f off := by
 unfold fieldOf at h
 split at h
 ·
  rename_i fields hT
  obtain ⟨fl, h1, h2⟩ := Option.map_eq_some_iff.1 h
  simp only [Prod.mk.injEq] at h2
  exact ⟨fields, fl, hT, h1, h2.1, k, h2.2⟩
 · cases h
theorem V1.fieldAddr {s : TypeId} {x : Operand} {f off b o : Nat} (hf : FieldIs C.P s f off) (hx : ev C.n e x = .pointer (some ⟨b, o, none⟩)) : V1 C ⟨dst, .fieldAddr s x f, ty, pos, after, guard⟩ e L (.pointer (some ⟨b, o + off, none⟩)) := 
 V1.run (s := Instr.fieldAt s (ev C.n e x) f) rfl (fun w _ => by
  rw [hx]
  obtain ⟨fields, fl, hT, hfl, rfl, k, hk⟩ := hf
  unfold Instr.fieldAt
  rw [run_bind (run_underlying hT w)]
  simp only [hfl]
  show (do let a ← Instr.sureAddr (.pointer (some ⟨b, o, none⟩)); pure (Value.pointer (some (← fieldPlace a fl))) : Sem Value).run C.P w = _
  show (do pure (Value.pointer (some (← fieldPlace ⟨b, o, none⟩ fl))) : Sem Value).run C.P w = _
  have : (fieldPlace ⟨b, o, none⟩ fl).run C.P w = .ok ⟨b, o + fl.offset, none⟩ w := by
   unfold fieldPlace
   rw [run_bind (run_sizeOf hk w)]
   simp [addr_add, pure]
  rw [run_bind this]; rfl)
theorem V1.indexAddrA {t el : TypeId} {x y : Operand} {len k b o : Nat} {kd : IntKind} {i : Int} (hT : C.P.underlying t = some (.array len el)) (hk : SizeIs C.P el k) (hx : ev C.n e x = .pointer (some ⟨b, o, none⟩)) (hy : ev C.n e y = .int kd i) (h0 : 0 ≤ i) (h1 : i < len) : V1 C ⟨dst, .indexAddr t x y, ty, pos, after, guard⟩ e L (.pointer (some ⟨b, o + i.toNat * k, none⟩)) := 
 V1.run (s := Instr.indexAt t (ev C.n e x) (ev C.n e y)) rfl (fun w _ => by
  rw [hx, hy]
  unfold Instr.indexAt
  have ha : (asIntOf (.int kd i)).run C.P w = .ok (kd, i) w := rfl
  rw [run_bind ha]
  simp only
  rw [run_bind (run_underlying hT w)]
  simp only [Instr.sureAddr, pure_bind]
  rw [run_bind (run_underlying hT w)]
  simp only [h0, h1, and_self, if_true]
  rw [run_bind (run_sizeOf hk w), addr_add]; rfl)
theorem V1.indexAddrS {t el : TypeId} {x y : Operand} {len cap k b o : Nat} {kd : IntKind} {i : Int} (hT : C.P.underlying t = some (.slice el)) (hk : SizeIs C.P el k) (hx : ev C.n e x = .slice (some ⟨b, o, none⟩) len cap) (hy : ev C.n e y = .int kd i) (h0 : 0 ≤ i) (h1 : i < len) : V1 C ⟨dst, .indexAddr t x y, ty, pos, after, guard⟩ e L (.pointer (some ⟨b, o + i.toNat * k, none⟩)) := 
 V1.run (s := Instr.indexAt t (ev C.n e x) (ev C.n e y)) rfl (fun w _ => by
  rw [hx, hy]
  unfold Instr.indexAt
  have ha : (asIntOf (.int kd i)).run C.P w = .ok (kd, i) w := rfl
  rw [run_bind ha]
  simp only
  rw [run_bind (run_underlying hT w)]
  simp only [pure_bind]
  rw [run_bind (run_underlying hT w)]
  simp only [h0, h1, and_self, if_true]
  rw [run_bind (run_sizeOf hk w), addr_add]; rfl)
theorem V1.indexStr {t : TypeId} {x y : Operand} {s : ByteArray} {kd : IntKind} {i : Int} {c : UInt8} (hT : C.P.underlying t = some .string) (hx : ev C.n e x = .string s) (hy : ev C.n e y = .int kd i) (h0 : 0 ≤ i) (hc : s[i.toNat]? = some c) : V1 C ⟨dst, .index t x y, ty, pos, after, guard⟩ e L (.int .u8 c.toNat) := 
 V1.run (s := Instr.index t (ev C.n e x) (ev C.n e y)) rfl (fun w _ => by
  rw [hx, hy]
  unfold Instr.index
  have ha : (asIntOf (.int kd i)).run C.P w = .ok (kd, i) w := rfl
  rw [run_bind ha]
  simp only
  rw [run_bind (run_underlying hT w)]
  simp [h0, hc, pure])
theorem run_part1 {P : Program} {t : TypeId} {cs : Array Value} {o : Nat} {v : Value} (hT : OneT P t true) (h : cs[o]? = some v) (w : World) : (part t cs o).run P w = .ok v w := by
 unfold part
 rw [run_bind (run_isAgg hT w)]
 simp [h, pure]
theorem run_partN {P : Program} {t : TypeId} {cs : Array Value} {o k : Nat} (hT : OneT P t false) (hk : SizeIs P t k) (w : World) : (part t cs o).run P w = .ok (.agg (cs.extract o (o + k))) w := by
 unfold part
 rw [run_bind (run_isAgg hT w)]
 simp only [Bool.not_false, if_true]
 rw [run_bind (run_sizeOf hk w)]; rfl
theorem V1.indexA {t el : TypeId} {x y : Operand} {len k : Nat} {cs : Array Value} {kd : IntKind} {i : Int} {v : Value} (hT : C.P.underlying t = some (.array len el)) (hk : SizeIs C.P el k) (hx : ev C.n e x = .agg cs) (hy : ev C.n e y = .int kd i) (h0 : 0 ≤ i) (h1 : i < len)
 (hv : ∀ w, (part el cs (i.toNat * k)).run C.P w = .ok v w) : V1 C ⟨dst, .index t x y, ty, pos, after, guard⟩ e L v :=
 V1.run (s := Instr.index t (ev C.n e x) (ev C.n e y)) rfl (fun w _ => by
  rw [hx, hy]
  unfold Instr.index
  have ha : (asIntOf (.int kd i)).run C.P w = .ok (kd, i) w := rfl
  rw [run_bind ha]
  simp only
  rw [run_bind (run_underlying hT w)]
  simp only [h0, h1, and_self, if_true]
  rw [run_bind (run_sizeOf hk w)]; exact hv w)
theorem V1.field {s : TypeId} {x : Operand} {f : Nat} {fields : Array Field} {fl : Field} {cs : Array Value} {v : Value} (hT : C.P.underlying s = some (.struct fields)) (hf : fields[f]? = some fl) (hx : ev C.n e x = .agg cs) (hv : ∀ w, (part fl.type cs fl.offset).run C.P w = .ok v w) : V1 C ⟨dst, .field s x f, ty, pos, after, guard⟩ e L v := 
 V1.run (s := Instr.field s (ev C.n e x) f) rfl (fun w _ => by
  rw [hx]
  unfold Instr.field
  rw [run_bind (run_underlying hT w)]
  simp only [hf]
  have : (asAgg (.agg cs)).run C.P w = .ok cs w := rfl
  rw [run_bind this]; exact hv w)
theorem V1.s2ap {arr el : TypeId} {x : Operand} {n len cap : Nat} {a : Option Addr} (hT : C.P.underlying arr = some (.array n el)) (hx : ev C.n e x = .slice a len cap) (h : n ≤ len) : V1 C ⟨dst, .sliceToArrayPointer arr x, ty, pos, after, guard⟩ e L (.pointer a) := 
 V1.run (s := Instr.arrayAt arr (ev C.n e x)) rfl (fun w _ => by
  rw [hx]
  unfold Instr.arrayAt
  rw [run_bind (run_underlying hT w)]
  simp only [show ¬ len < n by omega, if_false]; rfl)
def bd (n : FrS) (e : Env) : Option Operand → Nat → Option Int
  | none, d => some d
  | some x, _ => match ev n e x with | .int _ i => some i | _ => none
theorem run_sliceBound {P : Program} {kd : IntKind} {i : Int} {y : Nat} {c : BoundsCode} (h0 : 0 ≤ i) (h1 : i ≤ y) (w : World) : (Instr.sliceBound (.int kd i) y c).run P w = .ok i.toNat w := by
 unfold Instr.sliceBound
 have ha : (asIntOf (.int kd i)).run P w = .ok (kd, i) w := rfl
 rw [run_bind ha]
 simp [h0, h1, pure]
theorem run_sliceBounds {P : Program} {isS : Bool} {len cap : Nat} {lo hi : Option Operand} {n : FrS} {e : Env} {l h : Int} (hl : bd n e lo 0 = some l) (hh : bd n e hi len = some h) (h0 : 0 ≤ l) (h1 : l ≤ h) (h2 : h ≤ cap) (w : World) :
 (Instr.sliceBounds isS len cap (lo.map (ev n e)) (hi.map (ev n e)) none).run P w = .ok (l.toNat, h.toNat, cap) w := by
 have e3 : ∀ (lo : Option Operand), bd n e lo 0 = some l → ∀ (f : Nat → Sem (Nat × Nat × Nat)), (match lo.map (ev n e) with
  | some v => do let l ← Instr.sliceBound v h.toNat .sliceB; f l
  | none => do let l ← pure 0; f l : Sem (Nat × Nat × Nat)).run P w = (f l.toNat).run P w := by
  intro lo hl f
  cases lo with
  | none => simp only [bd, Option.some.injEq] at hl; subst hl; rfl
  | some x =>
   simp only [bd] at hl
   simp only [Option.map_some]
   generalize ev n e x = vx at hl ⊢
   cases vx <;> first | (cases hl; done) | skip
   simp only [Option.some.injEq] at hl; subst hl
   rw [run_bind (run_sliceBound h0 (by omega) w)]
 cases hi with
 | none =>
  simp only [bd, Option.some.injEq] at hh; subst hh
  exact (e3 lo hl (fun l => pure (l, len, cap)))
 | some x =>
  simp only [bd] at hh
  unfold Instr.sliceBounds
  simp only [Option.map_some]
  generalize ev n e x = vx at hh ⊢
  cases vx <;> first | (cases hh; done) | skip
  simp only [Option.some.injEq] at hh; subst hh
  have e1 : (pure cap : Sem Nat).run P w = .ok cap w := rfl
  rw [run_bind e1, run_bind (run_sliceBound (by omega) h2 w)]
  exact e3 lo hl (fun l => pure (l, _, cap))
theorem V1.sliceS {t : TypeId} {x : Operand} {lo hi : Option Operand} {s : ByteArray} {l h : Int} (hT : C.P.underlying t = some .string) (hx : ev C.n e x = .string s) (hl : bd C.n e lo 0 = some l) (hh : bd C.n e hi s.size = some h) (h0 : 0 ≤ l) (h1 : l ≤ h) (h2 : h ≤ s.size) : V1 C ⟨dst, .slice t x lo hi none, ty, pos, after, guard⟩ e L (.string (s.extract l.toNat h.toNat)) := 
 V1.run (s := Instr.sliceAt t (ev C.n e x) (lo.map (ev C.n e)) (hi.map (ev C.n e)) none) rfl (fun w _ => by
  rw [hx]
  unfold Instr.sliceAt
  rw [run_bind (run_underlying hT w)]
  show (Instr.slice t (.string s) _ _ none).run C.P w = _
  unfold Instr.slice
  rw [run_bind (run_underlying hT w)]
  simp only [Option.isSome_none, Bool.false_eq_true, if_false]
  show (do let (l, h, _) ← Instr.sliceBounds false s.size s.size _ _ none; pure (Value.string (s.extract l h)) : Sem Value).run C.P w = _
  rw [run_bind (run_sliceBounds hl hh h0 h1 h2 w)]; rfl)
theorem V1.sliceSl {t el : TypeId} {x : Operand} {lo hi : Option Operand} {b o len cap kz : Nat} {l h : Int} (hT : C.P.underlying t = some (.slice el)) (hk : SizeIs C.P el kz) (hx : ev C.n e x = .slice (some ⟨b, o, none⟩) len cap) (hl : bd C.n e lo 0 = some l) (hh : bd C.n e hi len = some h) (h0 : 0 ≤ l) (h1 : l ≤ h) (h2 : h ≤ cap) : V1 C ⟨dst, .slice t x lo hi none, ty, pos, after, guard⟩ e L (.slice (some ⟨b, if cap = l.toNat then o else o + l.toNat * kz, none⟩) (h.toNat - l.toNat) (cap - l.toNat)) := 
 V1.run (s := Instr.sliceAt t (ev C.n e x) (lo.map (ev C.n e)) (hi.map (ev C.n e)) none) rfl (fun w _ => by
  rw [hx]
  unfold Instr.sliceAt
  rw [run_bind (run_underlying hT w)]
  show (Instr.slice t (.slice (some ⟨b, o, none⟩) len cap) _ _ none).run C.P w = _
  unfold Instr.slice
  rw [run_bind (run_underlying hT w)]
  show (do let (l, h, m) ← Instr.sliceBounds true len cap _ _ none; let size ← sizeOf el; pure (Value.slice (if m = l then some ⟨b, o, none⟩ else (some ⟨b, o, none⟩ : Option Addr).map (·.add (l * size))) (h - l) (m - l)) : Sem Value).run C.P w = _
  rw [run_bind (run_sliceBounds hl hh h0 h1 h2 w)]
  simp only
  rw [run_bind (run_sizeOf hk w)]
  simp only [Option.map_some, addr_add, pure, Sem.run]
  split <;> rfl)
theorem V1.sliceNil {t el : TypeId} {x : Operand} {lo hi : Option Operand} {kz : Nat} (hT : C.P.underlying t = some (.slice el)) (hk : SizeIs C.P el kz) (hx : ev C.n e x = .slice none 0 0) (hl : bd C.n e lo 0 = some 0) (hh : bd C.n e hi 0 = some 0) : V1 C ⟨dst, .slice t x lo hi none, ty, pos, after, guard⟩ e L (.slice none 0 0) := 
 V1.run (s := Instr.sliceAt t (ev C.n e x) (lo.map (ev C.n e)) (hi.map (ev C.n e)) none) rfl (fun w _ => by
  rw [hx]
  unfold Instr.sliceAt
  rw [run_bind (run_underlying hT w)]
  show (Instr.slice t (.slice none 0 0) _ _ none).run C.P w = _
  unfold Instr.slice
  rw [run_bind (run_underlying hT w)]
  show (do let (l, h, m) ← Instr.sliceBounds true 0 0 _ _ none; let size ← sizeOf el; pure (Value.slice (if m = l then none else (none : Option Addr).map (·.add (l * size))) (h - l) (m - l)) : Sem Value).run C.P w = _
  rw [run_bind (run_sliceBounds hl hh (by omega) (by omega) (by simp) w)]
  simp only
  rw [run_bind (run_sizeOf hk w)]
  simp [pure])
theorem V1.sliceA {t el : TypeId} {x : Operand} {lo hi : Option Operand} {b o n kz : Nat} {l h : Int} (hT : C.P.underlying t = some (.array n el)) (hk : SizeIs C.P el kz) (hx : ev C.n e x = .pointer (some ⟨b, o, none⟩)) (hl : bd C.n e lo 0 = some l) (hh : bd C.n e hi n = some h) (h0 : 0 ≤ l) (h1 : l ≤ h) (h2 : h ≤ n) : V1 C ⟨dst, .slice t x lo hi none, ty, pos, after, guard⟩ e L (.slice (some ⟨b, if n = l.toNat then o else o + l.toNat * kz, none⟩) (h.toNat - l.toNat) (n - l.toNat)) := 
 V1.run (s := Instr.sliceAt t (ev C.n e x) (lo.map (ev C.n e)) (hi.map (ev C.n e)) none) rfl (fun w _ => by
  rw [hx]
  unfold Instr.sliceAt
  rw [run_bind (run_underlying hT w)]
  show (do let a ← Instr.sureAddr (.pointer (some ⟨b, o, none⟩)); let (l, h, m) ← Instr.sliceBounds false n n _ _ none; let size ← sizeOf el; pure (Value.slice (some (if m = l then a else a.add (l * size))) (h - l) (m - l)) : Sem Value).run C.P w = _
  have ha : (Instr.sureAddr (.pointer (some ⟨b, o, none⟩))).run C.P w = .ok ⟨b, o, none⟩ w := rfl
  rw [run_bind ha, run_bind (run_sliceBounds hl hh h0 h1 h2 w)]
  simp only
  rw [run_bind (run_sizeOf hk w)]
  simp only [addr_add, pure, Sem.run]
  split <;> rfl)
def PlacesAre (P : Program) (t : TypeId) (places : Array (Nat × Nat)) : Prop := ∃ fields : Array Field, P.underlying t = some (.struct fields) ∧ fields.map (fun f => (f.offset, (P.info? f.type).map TypeInfo.size)) = places.map (fun p => (p.1, some p.2))
def placesOf (P : Program) (t : TypeId) : Option (Array (Nat × Option Nat)) :=
  match P.underlying t with
  | some (.struct fields) => some (fields.map fun f => (f.offset, (P.info? f.type).map TypeInfo.size))
  | _ => none
theorem PlacesAre.of {P : Program} {t : TypeId} {places : Array (Nat × Nat)} (h : placesOf P t = some (places.map (fun p => (p.1, some p.2)))) : PlacesAre P t places := by
 unfold placesOf at h
 split at h
 ·
  rename_i fields hT
  exact ⟨fields, hT, Option.some.inj h⟩
 · cases h
theorem run_places {P : Program} {fields : Array Field} {places : Array (Nat × Nat)} (h : fields.map (fun f => (f.offset, (P.info? f.type).map TypeInfo.size)) = places.map (fun p => (p.1, some p.2))) (w : World) :
 (fields.mapM (fun f => do pure (f.offset, ← sizeOf f.type)) : Sem (Array (Nat × Nat))).run P w = .ok places w := by
 obtain ⟨fl⟩ := fields
 obtain ⟨pl⟩ := places
 simp only [List.map_toArray, Array.mk.injEq] at h
 rw [List.mapM_toArray]
 have key : ∀ (fl : List Field) (pl : List (Nat × Nat)), fl.map (fun f => (f.offset, (P.info? f.type).map TypeInfo.size)) = pl.map (fun p => (p.1, some p.2)) →
  (fl.mapM (fun f => do pure (f.offset, ← sizeOf f.type)) : Sem (List (Nat × Nat))).run P w = .ok pl w := by
  intro fl
  induction fl with
  | nil => intro pl h; cases pl with | nil => rfl | cons _ _ => simp at h
  | cons f fl ih =>
   intro pl h
   cases pl with
   | nil => simp at h
   | cons p pl =>
    simp only [List.map_cons, List.cons.injEq, Prod.mk.injEq] at h
    obtain ⟨⟨h1, h2⟩, h3⟩ := h
    have e1 : (do pure (f.offset, ← sizeOf f.type) : Sem (Nat × Nat)).run P w = .ok p w := by
     rw [run_bind (run_sizeOf (k := p.2) h2 w)]; rw [h1]; rfl
    rw [List.mapM_cons, run_bind e1, run_bind (ih pl h3)]; rfl
 have := key fl pl h
 rw [map_eq_pure_bind, run_bind this]; rfl
end rules
end Go.Proofs.YtfjedhmffccgnaaGreatDoor.S
namespace Go.Proofs.YtfjedhmffccgnaaGreatDoor.S
open Go.RowKit
section rules
variable {C : Ctx} {K : Env → List Blk → Prop} {e : Env} {L : List Blk}
variable {dst : Option Tmp} {ty : TypeId} {pos : String} {after : Array Edge} {guard : Option (Nat × Bool)}
theorem V1.build {t : TypeId} {ps : List (Nat × Operand)} {places : Array (Nat × Nat)} {z : Value} {cells : Array Value} (hP : PlacesAre C.P t places) (hz : ZeroIs C.P t z)
 (hf : Instr.fill (fun i => places[i]?) z.cells (ps.map (fun p => (p.1, ev C.n e p.2))) = some cells) : V1 C ⟨dst, .build t ps.toArray, ty, pos, after, guard⟩ e L (.agg cells) :=
 V1.run (s := Instr.build t (ps.toArray.map fun (i, x) => (i, ev C.n e x))) rfl (fun w _ => by
  obtain ⟨fields, hT, hpl⟩ := hP
  unfold Instr.build
  rw [run_bind (run_zeroValue hz w), run_bind (run_underlying hT w)]
  simp only
  rw [run_bind (run_places hpl w)]
  have : ((ps.toArray.map fun (i, x) => (i, ev C.n e x)).toList) = ps.map (fun p => (p.1, ev C.n e p.2)) := by simp
  simp only [this, hf]; rfl)
theorem V1.buildA {t el : TypeId} {n size : Nat} {ps : List (Nat × Operand)} {z : Value} {cells : Array Value} (hT : C.P.underlying t = some (.array n el)) (hk : SizeIs C.P el size) (hz : ZeroIs C.P t z)
 (hf : Instr.fill (fun i => some (i * size, size)) z.cells (ps.map (fun p => (p.1, ev C.n e p.2))) = some cells) : V1 C ⟨dst, .build t ps.toArray, ty, pos, after, guard⟩ e L (.agg cells) :=
 V1.run (s := Instr.build t (ps.toArray.map fun (i, x) => (i, ev C.n e x))) rfl (fun w _ => by
  unfold Instr.build
  rw [run_bind (run_zeroValue hz w), run_bind (run_underlying hT w)]
  simp only
  rw [run_bind (run_sizeOf hk w)]
  have : ((ps.toArray.map fun (i, x) => (i, ev C.n e x)).toList) = ps.map (fun p => (p.1, ev C.n e p.2)) := by simp
  simp only [this, hf]; rfl)
theorem V1.build0 {t : TypeId} {places : Array (Nat × Nat)} {z : Value} (hP : PlacesAre C.P t places) (hz : ZeroIs C.P t z) : V1 C ⟨dst, .build t (List.toArray []), ty, pos, after, guard⟩ e L (.agg z.cells) := 
 V1.build (ps := []) hP hz rfl
theorem V1.buildA0 {t el : TypeId} {n size : Nat} {z : Value} (hT : C.P.underlying t = some (.array n el)) (hk : SizeIs C.P el size) (hz : ZeroIs C.P t z) : V1 C ⟨dst, .build t (List.toArray []), ty, pos, after, guard⟩ e L (.agg z.cells) := 
 V1.buildA (ps := []) hT hk hz rfl
theorem foldl_set (vs : List Value) : ∀ (off j : Nat) (cs : Array Value), off + j + vs.length ≤ cs.size →
 ((vs.zipIdx j).foldl (fun cs (c, j) => cs.setIfInBounds (off + j) c) cs).size = cs.size ∧
 ∀ i, ((vs.zipIdx j).foldl (fun cs (c, j) => cs.setIfInBounds (off + j) c) cs)[i]? = if off + j ≤ i ∧ i < off + j + vs.length then vs[i - (off + j)]? else cs[i]? := by
 induction vs with
 | nil => intro off j cs _; exact ⟨rfl, fun i => by rw [if_neg (by simp only [List.length_nil]; omega)]; rfl⟩
 | cons v vs ih =>
  intro off j cs h
  simp only [List.length_cons] at h
  obtain ⟨h1, h2⟩ := ih off (j + 1) (cs.setIfInBounds (off + j) v) (by rw [Array.size_setIfInBounds]; omega)
  simp only [List.zipIdx_cons, List.foldl_cons]
  refine ⟨by simpa using h1, fun i => ?_⟩
  rw [h2]
  simp only [List.length_cons]
  by_cases hi : i = off + j
  ·
   subst hi
   rw [if_neg (by omega), if_pos (by omega), Array.getElem?_setIfInBounds_self_of_lt (by omega)]
   simp
  ·
   by_cases hin : off + (j + 1) ≤ i ∧ i < off + (j + 1) + vs.length
   · rw [if_pos hin, if_pos (by omega), show i - (off + j) = (i - (off + (j + 1))) + 1 by omega]; rfl
   · rw [if_neg hin, if_neg (by omega), Array.getElem?_setIfInBounds_ne (Ne.symm hi)]
theorem zip_foldl_toList (v : Value) (off : Nat) (cs : Array Value) : (v.cells.zipIdx.foldl (fun cs (c, j) => cs.setIfInBounds (off + j) c) cs) = ((v.cells.toList.zipIdx 0).foldl (fun cs (c, j) => cs.setIfInBounds (off + j) c) cs) := by
 rw [← Array.foldl_toList]; congr 1; simp
theorem fill_all {size : Nat} : ∀ (vs : List Value) (k : Nat) (cs : Array Value), (∀ v ∈ vs, v.cells.size = size) → cs.size = (k + vs.length) * size →
 ∃ out, Instr.fill (fun i => some (i * size, size)) cs ((vs.zipIdx k).map fun p => (p.2, p.1)) = some out ∧ out.toList = cs.toList.take (k * size) ++ (vs.map (fun v => v.cells.toList)).flatten := by
 intro vs
 induction vs with
 | nil =>
  intro k cs _ hs
  refine ⟨cs, rfl, ?_⟩
  simp at hs
  simp [List.take_of_length_le, hs]
 | cons v vs ih =>
  intro k cs hv hs
  have hvs := hv v (by simp)
  simp only [List.length_cons] at hs
  have hle : k * size + v.cells.size ≤ cs.size := by
   rw [hs, hvs, show k + (vs.length + 1) = (k + 1) + vs.length by omega, Nat.add_mul, Nat.add_mul]; omega
  have hfold := foldl_set v.cells.toList (k * size) 0 cs (by simpa using hle)
  rw [← zip_foldl_toList] at hfold
  obtain ⟨f1, f2⟩ := hfold
  obtain ⟨out, ho, hl⟩ := ih (k + 1) _ (fun u hu => hv u (by simp [hu])) (by rw [f1, hs]; congr 1; omega)
  refine ⟨out, ?_, ?_⟩
  ·
   simp only [List.zipIdx_cons, List.map_cons, Instr.fill]
   rw [if_neg (by simp [hvs]; omega)]
   exact ho
  ·
   rw [hl]
   simp only [List.map_cons, List.flatten_cons]
   rw [← List.append_assoc]
   congr 1
   apply List.ext_getElem?
   intro i
   have hg : ∀ (a : Array Value) (i : Nat), a.toList[i]? = a[i]? := fun a i => by simp
   rw [List.getElem?_take, List.getElem?_append, hg, f2, List.length_take]
   have hkk : (k + 1) * size = k * size + size := by rw [Nat.add_mul]; omega
   simp only [Array.length_toList, Nat.add_zero, List.getElem?_take]
   by_cases h1 : i < k * size
   · rw [if_pos (by omega), if_neg (by omega), if_pos (by omega), if_pos h1]; simp
   ·
    by_cases h2 : i < k * size + size
    · rw [if_pos (by omega), if_pos (by omega), if_neg (by omega)]; congr 1; omega
    · rw [if_neg (by omega), if_neg (by omega), List.getElem?_eq_none (by simp; omega)]
theorem T1.buildSliceG {tg : Option TypeId} {t el : TypeId} {len size : Nat} {ps : List (Nat × Operand)} {vs : List Value} {z : Value} (hT : C.P.underlying t = some (.slice el)) (hk : SizeIs C.P el size) (hz : ZeroIs C.P el z)
 (hlen : len * size ≤ 16777216) (hps : ps.map (fun p => (p.1, ev C.n e p.2)) = (vs.zipIdx 0).map (fun p => (p.2, p.1))) (hl : vs.length = len) (hvs : ∀ v ∈ vs, v.cells.size = size)
 (htg : tg = none ∨ tg = some el) (k : ∀ b, K (putO e dst (.slice (some ⟨b, 0, none⟩) len len)) (⟨⟨b, tg⟩, 0, (vs.map (fun v => v.cells.toList)).flatten, len * size⟩ :: L)) : T1 C ⟨dst, .buildSlice t len ps.toArray, ty, pos, after, guard⟩ K e L := by
 intro a w K' Q' hr hs hK
 unfold Oper.wp
 rw [hr.eval]
 have hsz0 : ((Array.range (len * size)).map (fun i => (if len * size = 0 then #[] else z.cells)[i % (if len * size = 0 then #[] else z.cells).size]!)).size = (0 + vs.length) * size := by
  rw [Array.size_map, Array.size_range, hl, Nat.zero_add]
 obtain ⟨out, ho, hout⟩ := fill_all vs 0 ((Array.range (len * size)).map (fun i => (if len * size = 0 then #[] else z.cells)[i % (if len * size = 0 then #[] else z.cells).size]!)) hvs hsz0
 simp only [Nat.zero_mul, List.take_zero, List.nil_append] at hout
 have hsz : out.size = len * size := by
  have := congrArg List.length hout
  simp only [Array.length_toList, List.length_flatten, List.map_map] at this
  rw [this]
  have : ∀ (vs : List Value), (∀ v ∈ vs, v.cells.size = size) → (vs.map (List.length ∘ fun v => v.cells.toList)).sum = vs.length * size := by
   intro vs
   induction vs with
   | nil => intro _; simp
   | cons v vs ih =>
    intro h
    have h1 := h v (by simp)
    have h2 := ih (fun u hu => h u (by simp [hu]))
    rw [List.map_cons, List.sum_cons, h2, List.length_cons, Nat.add_mul]
    simp only [Function.comp, Array.length_toList]
    omega
  rw [this vs hvs, hl]
 have hrun : (execOp (ev C.n e) ⟨dst, .buildSlice t len ps.toArray, ty, pos, after, guard⟩).run C.P w = .ok (.value (.slice (some ⟨w.heap.size, 0, none⟩) len len)) { w with heap := w.heap.push (.cells out el) } := by
  show (do pure (Next.value (← Instr.buildSlice t len (ps.toArray.map fun (i, x) => (i, ev C.n e x)))) : Sem Next).run C.P w = _
  refine run_value ?_
  unfold Instr.buildSlice
  rw [run_bind (run_underlying hT w)]
  simp only
  rw [run_bind (run_sizeOf hk w)]
  rw [if_neg (by omega)]
  have hz0 : (if len * size = 0 then pure #[] else do pure (← zeroValue el).cells : Sem (Array Value)).run C.P w = .ok (if len * size = 0 then #[] else z.cells) w := by
   split
   · rfl
   · rw [run_bind (run_zeroValue hz w)]; rfl
  have hp : ((ps.toArray.map fun (i, x) => (i, ev C.n e x)).toList) = (vs.zipIdx 0).map (fun p => (p.2, p.1)) := by rw [← hps]; simp
  split
  ·
   rename_i h0
   simp only [h0, if_true] at ho
   simp only [pure_bind, hp, h0, ho]
   rfl
  ·
   rename_i h0
   simp only [h0, if_false] at ho
   simp only [pure_bind]
   rw [run_bind (run_zeroValue hz w)]
   simp only [hp, ho]
   rfl
 rw [hrun]
 have hlen2 : (vs.map (fun v => v.cells.toList)).flatten.length = len * size := by rw [← hout, Array.length_toList, hsz]
 have hpush := hs.push (B := ⟨⟨w.heap.size, tg⟩, 0, (vs.map (fun v => v.cells.toList)).flatten, len * size⟩) (c := out) (E := el) (lo := 0) (hi := 0) (k := w.drawn) rfl (by show 0 + _ ≤ len * size; rw [hlen2]; omega) hsz (by
  intro i hi
  show out[0 + i]? = ((vs.map (fun v => v.cells.toList)).flatten)[i]?
  rw [← hout, Nat.zero_add, Array.getElem?_toList]) (by omega) (htg.imp (fun h => h) (fun h => ⟨h, rfl⟩))
 exact hK _ _ _ _ (hr.put _ _) hpush (k _)
theorem T1.buildSlice {t el : TypeId} {len size : Nat} {ps : List (Nat × Operand)} {vs : List Value} {z : Value} (hT : C.P.underlying t = some (.slice el)) (hk : SizeIs C.P el size) (hz : ZeroIs C.P el z)
 (hlen : len * size ≤ 16777216) (hps : ps.map (fun p => (p.1, ev C.n e p.2)) = (vs.zipIdx 0).map (fun p => (p.2, p.1))) (hl : vs.length = len) (hvs : ∀ v ∈ vs, v.cells.size = size)
 (k : ∀ b, K (putO e dst (.slice (some ⟨b, 0, none⟩) len len)) (⟨b, 0, (vs.map (fun v => v.cells.toList)).flatten, len * size⟩ :: L)) : T1 C ⟨dst, .buildSlice t len ps.toArray, ty, pos, after, guard⟩ K e L :=
 T1.buildSliceG hT hk hz hlen hps hl hvs (.inl rfl) k
def Has (P : Program) (f : FuncId) : Prop := ∃ fn, P.funcs[f]? = some fn ∧ (fn.name == "runtime.NumGoroutine") = false ∧ fn.body.isNone = false
theorem run_callFunc {P : Program} {f : FuncId} (h : Has P f) (args : Array Value) (w : World) : (callFunc f args).run P w = .ok (.enter f args) w := by
 obtain ⟨fn, h1, h2, h3⟩ := h
 simp only [callFunc, program, bind, Sem.bind, Sem.run, h1, h2, h3, Bool.false_eq_true, if_false]
 rfl
theorem T1.call {g : Operand} {args : List Operand} {ts : Array TypeId} {f : FuncId} {first cap : Array Value} {as : List Value} {R : Value → List Blk → Prop} (hg : ev C.n e g = .func (.func f) first cap) (hf : Has C.P f) (has : first ++ (args.map (ev C.n e)).toArray ++ cap = as.toArray)
 (hc : ∀ w, St C.w0 C.M L w → Calls C.P f as.toArray w fun en w' => ∃ v L', en = .returned v ∧ St C.w0 C.M L' w' ∧ R v L') (k : ∀ v L', R v L' → K (putO e dst v) L') : T1 C ⟨dst, .call ⟨.value g, args.toArray, ts⟩, ty, pos, after, guard⟩ K e L := by
 intro a w K' Q' hr hs hK
 unfold Oper.wp
 rw [hr.eval]
 have hrun : (execOp (ev C.n e) ⟨dst, .call ⟨.value g, args.toArray, ts⟩, ty, pos, after, guard⟩).run C.P w = .ok (.enter f as.toArray) w := by
  show (do let d ← Deferred.ofValue (ev C.n e g) (args.toArray.map (ev C.n e)); Go.invoke d.target d.args : Sem Next).run C.P w = _
  rw [hg, show args.toArray.map (ev C.n e) = (args.map (ev C.n e)).toArray from List.map_toArray ..]
  show (callFunc f ((first ++ (args.map (ev C.n e)).toArray) ++ cap)).run C.P w = _
  rw [has]; exact run_callFunc hf _ w
 rw [hrun]
 refine Calls.mono (hc w hs) ?_
 rintro en w' ⟨v, L', rfl, hs', hR⟩
 exact hK _ _ _ _ (hr.put _ _) hs' (k v L' hR)
theorem T1.callF {args : List Operand} {ts : Array TypeId} {f : FuncId} {as : List Value} {R : Value → List Blk → Prop} (hf : Has C.P f) (has : args.map (ev C.n e) = as)
 (hc : ∀ w, St C.w0 C.M L w → Calls C.P f as.toArray w fun en w' => ∃ v L', en = .returned v ∧ St C.w0 C.M L' w' ∧ R v L') (k : ∀ v L', R v L' → K (putO e dst v) L') : T1 C ⟨dst, .call ⟨.value (.func f), args.toArray, ts⟩, ty, pos, after, guard⟩ K e L :=
 T1.call (first := #[]) (cap := #[]) rfl hf (by simp [has]) hc k
def Fn (P : Program) (f : FuncId) (as : List Value) (w : World) (X : List Blk) (R : Value → List Blk → Prop) : Prop :=
  (X.map Blk.id).Nodup → (∀ B ∈ X, B.In w) → Calls P f as.toArray w fun en w' => ∃ v Y, en = .returned v ∧ St w (X.map Blk.id) Y w' ∧ R v Y
theorem T1.call0 {args : List Operand} {ts : Array TypeId} {f : FuncId} {as : List Value} {R : Value → Prop} (hf : Has C.P f) (has : args.map (ev C.n e) = as)
 (hc : ∀ w, St C.w0 C.M L w → Fn C.P f as w [] fun v Y => Y = [] ∧ R v) (k : ∀ v, R v → K (putO e dst v) L) : T1 C ⟨dst, .call ⟨.value (.func f), args.toArray, ts⟩, ty, pos, after, guard⟩ K e L :=
 T1.callF (R := fun v L' => L' = L ∧ R v) hf has (fun w hs => (hc w hs (by simp) (by simp)).mono fun en w' ⟨v, Y, h1, h2, h3, h4⟩ => ⟨v, L, h1, by subst h3; simpa using hs.call_add h2, rfl, h4⟩) (fun v L' h => h.1 ▸ k v h.2)
theorem T1.callN {args : List Operand} {ts : Array TypeId} {f : FuncId} {as : List Value} {R : Value → List Blk → Prop} (hf : Has C.P f) (has : args.map (ev C.n e) = as)
 (hc : ∀ w, St C.w0 C.M L w → Fn C.P f as w [] R) (k : ∀ v Y, R v Y → K (putO e dst v) (Y ++ L)) : T1 C ⟨dst, .call ⟨.value (.func f), args.toArray, ts⟩, ty, pos, after, guard⟩ K e L :=
 T1.callF (R := fun v L' => ∃ Y, L' = Y ++ L ∧ R v Y) hf has (fun w hs => (hc w hs (by simp) (by simp)).mono fun en w' ⟨v, Y, h1, h2, h3⟩ => ⟨v, Y ++ L, h1, hs.call_add h2, Y, rfl, h3⟩) (fun v L' ⟨Y, h, hR⟩ => h ▸ k v Y hR)
theorem T1.callP {args : List Operand} {ts : Array TypeId} {f : FuncId} {as : List Value} {X G : List Blk} {R : Value → List Blk → Prop} (hf : Has C.P f) (has : args.map (ev C.n e) = as)
 (hc : ∀ w, St C.w0 C.M L w → Fn C.P f as w X R) (ht : Take L X G) (k : ∀ v Y, R v Y → K (putO e dst v) (Y ++ G)) : T1 C ⟨dst, .call ⟨.value (.func f), args.toArray, ts⟩, ty, pos, after, guard⟩ K e L :=
 T1.callF (R := fun v L' => ∃ Y, L' = Y ++ G ∧ R v Y) hf has (fun w hs => by
  have hs' := hs.perm ht.perm.symm
  have hsub : ∀ Y, Sub (X ++ G) X (Y ++ G) Y := fun Y => .here
  have hp := hs'.piece (hsub [])
  exact (hc w hs hp.1 hp.2).mono fun en w' ⟨v, Y, h1, h2, h3⟩ => ⟨v, Y ++ G, h1, hs'.call_sub (hsub Y) h2, Y, rfl, h3⟩) (fun v L' ⟨Y, h, hR⟩ => h ▸ k v Y hR)
def env0 (as : List Value) : Env := fun t => as.getD t undef
theorem rel_start {n : Nat} {as : List Value} (h : as.length ≤ n) : Rel ⟨n, []⟩ (env0 as) { tmps := as.toArray ++ Array.replicate (n - as.toArray.size) undef, defers := [] } := by
 refine ⟨rfl, by simp; omega, fun t ht => ?_⟩
 replace ht : t < n := ht
 simp only [env0, List.getD, Array.getD]
 rw [dif_pos (by simp; omega)]
 show ((as.toArray ++ Array.replicate (n - as.toArray.size) undef)[t]'_) = _
 rw [Array.getElem_append]
 split
 · rename_i h1; simp at h1; simp [h1]
 ·
  rename_i h1
  simp only [List.size_toArray, Nat.not_lt] at h1
  simp [List.getElem?_eq_none h1]
inductive Res (C : Ctx) (e : Env) (L : List Blk) : ResultVar → Value → Prop
  | tmp {t : Tmp} {v : Value} : ev C.n e (.tmp t) = v → Res C e L (.tmp t) v
  | cell1 {t : Tmp} {ty : TypeId} {a : Addr} {v : Value} : ev C.n e (.tmp t) = .pointer (some a) → OneT C.P ty true → Rd C L a v → Res C e L (.cell t ty) v
  | cellN {t : Tmp} {ty : TypeId} {b o k : Nat} {vs : List Value} : ev C.n e (.tmp t) = .pointer (some ⟨b, o, none⟩) → OneT C.P ty false → SizeIs C.P ty k → RdN C L ⟨b, o, none⟩ vs → vs.length = k → Res C e L (.cell t ty) (.agg vs.toArray)
theorem Rel.tmp {n : FrS} {e : Env} {a : Act} (h : Rel n e a) (t : Tmp) : a.tmps.getD t undef = ev n e (.tmp t) := by
 have := congrFun h.eval (.tmp t); exact this
inductive Ress (C : Ctx) (e : Env) (L : List Blk) : List ResultVar → List Value → Prop
  | nil : Ress C e L [] []
  | cons {r : ResultVar} {v : Value} {rs : List ResultVar} {vs : List Value} : Res C e L r v → Ress C e L rs vs → Ress C e L (r :: rs) (v :: vs)
def res1 : List Value → Value
  | [v] => v
  | vs => .tuple vs.toArray
def resF (a : Act) : ResultVar → Sem Value
  | .tmp t => pure (a.tmps.getD t undef)
  | .cell ad t => do loadVar t (← asAddr (a.tmps.getD ad undef))
theorem run_res {fn : Func} {rs : List ResultVar} {vs : List Value} {a : Act} {w : World} (hfn : fn.results = rs.toArray) (hr : Rel C.n e a) (hs : St C.w0 C.M L w) (h : Ress C e L rs vs) :
 (results fn a.tmps).run C.P w = .ok (res1 vs) w := by
 have key : ∀ (rs : List ResultVar) (vs : List Value), Ress C e L rs vs → (rs.mapM (resF a)).run C.P w = .ok vs w := by
  intro rs vs h
  induction h with
  | nil => rfl
  | @cons r v rs vs hrv _ ih =>
   rw [List.mapM_cons]
   have h1 : (resF a r).run C.P w = .ok v w := by
    cases hrv with
    | tmp ht => subst ht; rw [← hr.tmp]; rfl
    | @cell1 t ty ad v hp hT hrd =>
     rw [← hr.tmp] at hp
     show (do loadVar ty (← asAddr (a.tmps.getD t undef)) : Sem Value).run C.P w = _
     rw [hp]
     exact run_load1 hT (hrd.cell hs)
    | @cellN t ty b o k vs hp hT hk hrd hl =>
     rw [← hr.tmp] at hp
     show (do loadVar ty (← asAddr (a.tmps.getD t undef)) : Sem Value).run C.P w = _
     rw [hp]
     exact run_loadN hT hk hl (hrd.cells hs)
   rw [run_bind h1, run_bind ih]; rfl
 have hk := key rs vs h
 have hres : results fn a.tmps = (do let vs ← fn.results.mapM (resF a); pure (if h : vs.size = 1 then vs[0] else .tuple vs)) := rfl
 rw [hres, hfn, List.mapM_toArray, map_eq_pure_bind, bind_assoc]
 rw [run_bind hk]
 simp only [pure_bind]
 cases vs with
 | nil => rfl
 | cons v vs => cases vs <;> rfl
def ends (C : Ctx) (rs : List ResultVar) (R : Value → List Blk → Prop) : Post
  | .normal, e, L | .ret, e, L => ∃ vs L' G, Ress C e L rs vs ∧ Take L L' G ∧ R (res1 vs) L'
  | _, _, _ => False
theorem Fn.of {P : Program} {f : FuncId} {fn : Func} {c : Code} {as : List Value} {w : World} {X : List Blk} {R : Value → List Blk → Prop} (n : Nat) (rs : List ResultVar) (hf : P.funcs[f]? = some fn) (hb : fn.body = some c) (hnt : fn.ntmps = n) (hrs : fn.results = rs.toArray) (hn : Nat.ble as.length n = true)
 (h : T ⟨P, w, X.map Blk.id, n⟩ c (ends ⟨P, w, X.map Blk.id, n⟩ rs R) (env0 as) X) : Fn P f as w X R := by
 intro hd hin
 subst hnt
 refine calls_of_wp hf hb ?_
 have := h { tmps := as.toArray ++ Array.replicate (fn.ntmps - as.toArray.size) undef, defers := [] } w (rel_start (Nat.le_of_ble_eq_true hn)) (St.start hd hin)
 refine wp_mono this ?_
 intro ex a w' ⟨e', L', hr', hs', hq⟩
 cases ex with
 | normal =>
  obtain ⟨vs, L2, G, h1, hk, h2⟩ := hq
  exact ⟨hr'.defers, _, run_res (C := ⟨P, w, X.map Blk.id, fn.ntmps⟩) hrs hr' hs' h1, _, L2, rfl, hk.keep hs', h2⟩
 | ret =>
  obtain ⟨vs, L2, G, h1, hk, h2⟩ := hq
  exact ⟨hr'.defers, _, run_res (C := ⟨P, w, X.map Blk.id, fn.ntmps⟩) hrs hr' hs' h1, _, L2, rfl, hk.keep hs', h2⟩
 | _ => exact hq.elim
def FnX (P : Program) (f : FuncId) (as : List Value) (w0 : World) (M : List Nat) (X : List Blk) (R : Value → List Blk → Prop) : Prop :=
  ∀ G w, St w0 M (X ++ G) w → Calls P f as.toArray w fun en w' => ∃ v Y, en = .returned v ∧ St w0 M (Y ++ G) w' ∧ R v Y
theorem T1.callX {args : List Operand} {ts : Array TypeId} {f : FuncId} {as : List Value} {X G : List Blk} {R : Value → List Blk → Prop} (hf : Has C.P f) (has : args.map (ev C.n e) = as)
 (hc : FnX C.P f as C.w0 C.M X R) (ht : Take L X G) (k : ∀ v Y, R v Y → K (putO e dst v) (Y ++ G)) : T1 C ⟨dst, .call ⟨.value (.func f), args.toArray, ts⟩, ty, pos, after, guard⟩ K e L :=
 T1.callF (R := fun v L' => ∃ Y, L' = Y ++ G ∧ R v Y) hf has (fun w hs => (hc G w (hs.perm ht.perm.symm)).mono fun _ _ ⟨v, Y, h1, h2, h3⟩ => ⟨v, Y ++ G, h1, h2, Y, rfl, h3⟩) (fun v _ ⟨Y, h, hR⟩ => h ▸ k v Y hR)
theorem FnX.of {P : Program} {f : FuncId} {fn : Func} {c : Code} {as : List Value} {w0 : World} {M : List Nat} {X : List Blk} {R : Value → List Blk → Prop} (n : Nat) (rs : List ResultVar) (hf : P.funcs[f]? = some fn) (hb : fn.body = some c) (hnt : fn.ntmps = n) (hrs : fn.results = rs.toArray) (hn : Nat.ble as.length n = true)
 (h : ∀ G, T ⟨P, w0, M, n⟩ c (ends ⟨P, w0, M, n⟩ rs (fun v L' => ∃ Y, L' = Y ++ G ∧ R v Y)) (env0 as) (X ++ G)) : FnX P f as w0 M X R := by
 intro G w hst
 subst hnt
 refine calls_of_wp hf hb ?_
 have := h G { tmps := as.toArray ++ Array.replicate (fn.ntmps - as.toArray.size) undef, defers := [] } w (rel_start (Nat.le_of_ble_eq_true hn)) hst
 refine wp_mono this ?_
 intro ex a w' ⟨e', L', hr', hs', hq⟩
 cases ex with
 | normal =>
  obtain ⟨vs, L2, G2, h1, hk, Y, rfl, h2⟩ := hq
  exact ⟨hr'.defers, _, run_res (C := ⟨P, w0, M, fn.ntmps⟩) hrs hr' hs' h1, _, Y, rfl, hk.keep hs', h2⟩
 | ret =>
  obtain ⟨vs, L2, G2, h1, hk, Y, rfl, h2⟩ := hq
  exact ⟨hr'.defers, _, run_res (C := ⟨P, w0, M, fn.ntmps⟩) hrs hr' hs' h1, _, Y, rfl, hk.keep hs', h2⟩
 | _ => exact hq.elim
end rules
/-! Short names for the steps of walks: structure and moves are found by search. -/
theorem z_m {C : Ctx} {Q : Post} {e : Env} {L : List Blk} {ops : Array Oper} {rest : List Oper} {v : Value} {dst : Option Tmp} {ty : TypeId} {pos : String} {after : Array Edge} {guard : Option (Nat × Bool)} {x : Operand} (hg : wantedE C.n ops e guard = true) (h : ev C.n e x = v) (k : TL C ops Q rest (putO e dst v) L) : TL C ops Q (⟨dst, .move x, ty, pos, after, guard⟩ :: rest) e L := TL.cons hg (V1.t (V1.move' h) k)
theorem z_a {C : Ctx} {Q : Post} {e : Env} {L : List Blk} {ops : Array Oper} {rest : List Oper} {v : Value} {dst : Option Tmp} {ty : TypeId} {pos : String} {after : Array Edge} {guard : Option (Nat × Bool)} {x : Operand} (hg : wantedE C.n ops e guard = true) (h : ev C.n e x = v) (k : TL C ops Q rest (putO e dst v) L) : TL C ops Q (⟨dst, .assign x, ty, pos, after, guard⟩ :: rest) e L := TL.cons hg (V1.t (V1.assign' h) k)
theorem z_x {C : Ctx} {Q : Post} {e : Env} {L : List Blk} {ops : Array Oper} {rest : List Oper} {v : Value} {dst : Option Tmp} {ty : TypeId} {pos : String} {after : Array Edge} {guard : Option (Nat × Bool)} {t : Operand} {i : Nat} {vs : Array Value} (hg : wantedE C.n ops e guard = true) (ht : ev C.n e t = .tuple vs) (h : vs[i]? = some v) (k : TL C ops Q rest (putO e dst v) L) : TL C ops Q (⟨dst, .extract t i, ty, pos, after, guard⟩ :: rest) e L := TL.cons hg (V1.t (V1.extract ht h) k)
theorem z_p {C : Ctx} {Q : Post} {e : Env} {L : List Blk} {ops : Array Oper} {rest : List Oper} {v : Value} {dst : Option Tmp} {ty : TypeId} {pos : String} {after : Array Edge} {guard : Option (Nat × Bool)} {c x y : Operand} {b : Bool} (hg : wantedE C.n ops e guard = true) (hc : ev C.n e c = .bool b) (h : (bif b then ev C.n e x else ev C.n e y) = v) (k : TL C ops Q rest (putO e dst v) L) : TL C ops Q (⟨dst, .pick c x y, ty, pos, after, guard⟩ :: rest) e L := TL.cons hg (V1.t (V1.pick hc h) k)
theorem zs {p q : Prop} (k : q) (h : q → p := by intro k; (repeat (first | ((with_reducible apply z_m); exact rfl; ((conv => lhs; whnf) <;> rfl)) | ((with_reducible apply z_a); exact rfl; ((conv => lhs; whnf) <;> rfl)) | ((with_reducible apply z_x); exact rfl; exact rfl; rfl) | ((with_reducible apply z_p); exact rfl; exact rfl; ((conv => lhs; whnf) <;> rfl)) | (with_reducible apply TL.nil) | (with_reducible first | apply T.seq | apply T.region | apply T.skip | apply T.block | apply T.ret | apply T.exit) | ((fail_if_success (with_reducible change TL _ _ _ _ _ _)); (change T _ _ _ _ _); (with_reducible first | apply T.seq | apply T.region | apply T.skip | apply T.block | apply T.ret | apply T.exit)))); exact k) : p := h k
theorem z1 {p q : Prop} (k : q) (h : q → p := by intro k; (repeat (first | ((with_reducible apply z_m); exact rfl; ((conv => lhs; whnf) <;> rfl)) | ((with_reducible apply z_a); exact rfl; ((conv => lhs; whnf) <;> rfl)) | ((with_reducible apply z_x); exact rfl; exact rfl; rfl) | ((with_reducible apply z_p); exact rfl; exact rfl; ((conv => lhs; whnf) <;> rfl)))); refine TL.nil ?_; exact k) : p := h k
theorem z2 {p q : Prop} (k : q) (h : q → p := by intro k; (repeat (first | ((with_reducible apply z_m); exact rfl; ((conv => lhs; whnf) <;> rfl)) | ((with_reducible apply z_a); exact rfl; ((conv => lhs; whnf) <;> rfl)) | ((with_reducible apply z_x); exact rfl; exact rfl; rfl) | ((with_reducible apply z_p); exact rfl; exact rfl; ((conv => lhs; whnf) <;> rfl)))); exact k) : p := h k
theorem z0 {C : Ctx} {Q : Post} {e : Env} {L : List Blk} {ops : Array Oper} {o : Oper} {rest : List Oper} {v : Value} (h : V1 C o e L v) (k : TL C ops Q rest (putO e o.dst v) L) (hg : wantedE C.n ops e o.guard = true := by exact rfl) : TL C ops Q (o :: rest) e L := TL.cons hg (V1.t h k)
theorem zq {C : Ctx} {Q : Post} {e : Env} {L : List Blk} {ops : Array Oper} {o : Oper} {rest : List Oper} {v : Value} {q : Prop} (h : V1 C o e L v) (k : q) (hg : wantedE C.n ops e o.guard = true := by exact rfl) (z : q → TL C ops Q rest (putO e o.dst v) L := by exact fun k => zs k) : TL C ops Q (o :: rest) e L := TL.cons hg (V1.t h (z k))
theorem zq1 {C : Ctx} {Q : Post} {e : Env} {L : List Blk} {ops : Array Oper} {o : Oper} {rest : List Oper} {v : Value} {q : Prop} (h : V1 C o e L v) (k : q) (hg : wantedE C.n ops e o.guard = true := by exact rfl) (z : q → TL C ops Q rest (putO e o.dst v) L := by exact fun k => z1 k) : TL C ops Q (o :: rest) e L := TL.cons hg (V1.t h (z k))
theorem zq2 {C : Ctx} {Q : Post} {e : Env} {L : List Blk} {ops : Array Oper} {o : Oper} {rest : List Oper} {v : Value} {q : Prop} (h : V1 C o e L v) (k : q) (hg : wantedE C.n ops e o.guard = true := by exact rfl) (z : q → TL C ops Q rest (putO e o.dst v) L := by exact fun k => z2 k) : TL C ops Q (o :: rest) e L := TL.cons hg (V1.t h (z k))
theorem zw {p : Prop} (h : p := by omega) : p := h
theorem ze {p : Prop} (h : p := by decide) : p := h
theorem zr {p : Prop} (h : p := by rfl) : p := h
theorem zc {C : Ctx} {Q : Post} {e : Env} {L : List Blk} {ops : Array Oper} {o : Oper} {rest : List Oper} (h : T1 C o (TL C ops Q rest) e L) (hg : wantedE C.n ops e o.guard = true := by exact rfl) : TL C ops Q (o :: rest) e L := TL.cons hg h
end Go.Proofs.YtfjedhmffccgnaaGreatDoor.S
