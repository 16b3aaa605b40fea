/- Reading and writing the call's own memory: the laws of the operations that touch it. Holds for every program. -/
import Derived.Test.YtlpkcbkflfbclaaDoorCore
import Derived.Laws.Append
namespace Go.Proofs.YtlpkcbkflfbclaaDoor.S
open Go.RowKit

/-! ### Blocks in the list -/

inductive Find : List Blk → Blk → Prop
  | here {B : Blk} {L : List Blk} : Find (B :: L) B
  | there {B B' : Blk} {L : List Blk} : Find L B → Find (B' :: L) B
  | far {B : Blk} {X L : List Blk} : Find L B → Find (X ++ L) B

theorem Find.mem {L : List Blk} {B : Blk} (h : Find L B) : B ∈ L := by
  induction h with
  | here => exact List.mem_cons_self
  | there _ ih => exact List.mem_cons_of_mem _ ih
  | far _ ih => exact List.mem_append_right _ ih

/-- In the list the piece X is Y instead. -/
inductive Sub : List Blk → List Blk → List Blk → List Blk → Prop
  | here {X Y G : List Blk} : Sub (X ++ G) X (Y ++ G) Y
  | last {X Y : List Blk} : Sub X X Y Y
  | one {B B' : Blk} {G : List Blk} : Sub (B :: G) [B] (B' :: G) [B']
  | there {B : Blk} {L X L' Y : List Blk} : Sub L X L' Y → Sub (B :: L) X (B :: L') Y
  | far {Z L X L' Y : List Blk} : Sub L X L' Y → Sub (Z ++ L) X (Z ++ L') Y

theorem Sub.split {L X L' Y : List Blk} (h : Sub L X L' Y) : ∃ F G, L = F ++ (X ++ G) ∧ L' = F ++ (Y ++ G) := by
  induction h with
  | @here X Y G => exact ⟨[], G, rfl, rfl⟩
  | @last X Y => exact ⟨[], [], by simp, by simp⟩
  | @one B B' G => exact ⟨[], G, rfl, rfl⟩
  | @there B L X L' Y _ ih => obtain ⟨F, G, rfl, rfl⟩ := ih; exact ⟨B :: F, G, rfl, rfl⟩
  | @far Z L X L' Y _ ih => obtain ⟨F, G, rfl, rfl⟩ := ih; exact ⟨Z ++ F, G, by simp, by simp⟩

/-- A piece that is a contract's: behind the call it is what the contract leaves. -/
theorem St.call_sub {w0 w w' : World} {M : List Nat} {L X L' Y : List Blk} (h : St w0 M L w) (hs : Sub L X L' Y) (hc : St w (X.map Blk.id) Y w') : St w0 M L' w' := by
  obtain ⟨F, G, rfl, rfl⟩ := hs.split
  have h1 : St w0 M ((F ++ G) ++ X) w := h.perm (by rw [List.append_assoc]; exact List.Perm.append_left F List.perm_append_comm)
  exact (h1.call hc).perm (by rw [List.append_assoc]; exact List.Perm.append_left F List.perm_append_comm)

theorem St.call_add {w0 w w' : World} {M : List Nat} {L Y : List Blk} (h : St w0 M L w) (hc : St w [] Y w') : St w0 M (Y ++ L) w' := by
  have h1 : St w0 M (L ++ []) w := by simpa using h
  exact (h1.call (Lp := []) hc).perm List.perm_append_comm

/-- What a piece of the list gives: all of it lies in the world. -/
theorem St.piece {w0 w : World} {M : List Nat} {L X L' Y : List Blk} (h : St w0 M L w) (hs : Sub L X L' Y) : (X.map Blk.id).Nodup ∧ ∀ B ∈ X, B.In w := by
  obtain ⟨F, G, rfl, rfl⟩ := hs.split
  refine ⟨?_, fun B hB => h.inw B (by simp [hB])⟩
  have := h.distinct
  simp only [List.map_append, List.nodup_append] at this
  exact this.2.1.1

/-- Taken out of the list: one block; a piece; several of them. -/
inductive Pick : List Blk → Blk → List Blk → Prop
  | here {B : Blk} {L : List Blk} : Pick (B :: L) B L
  | there {B B' : Blk} {L L1 : List Blk} : Pick L B L1 → Pick (B' :: L) B (B' :: L1)
  | far {B : Blk} {Z L L1 : List Blk} : Pick L B L1 → Pick (Z ++ L) B (Z ++ L1)
inductive PickS : List Blk → List Blk → List Blk → Prop
  | nil {L : List Blk} : PickS L [] L
  | last {X : List Blk} : PickS X X []
  | one {B : Blk} {G : List Blk} : PickS (B :: G) [B] G
  | here {X G : List Blk} : PickS (X ++ G) X G
  | there {B : Blk} {L X L1 : List Blk} : PickS L X L1 → PickS (B :: L) X (B :: L1)
  | far {Z L X L1 : List Blk} : PickS L X L1 → PickS (Z ++ L) X (Z ++ L1)
inductive Take : List Blk → List Blk → List Blk → Prop
  | nil {L : List Blk} : Take L [] L
  | one {B : Blk} {L L1 X G : List Blk} : Pick L B L1 → Take L1 X G → Take L (B :: X) G
  | seg {L L1 Z X G : List Blk} : PickS L Z L1 → Take L1 X G → Take L (Z ++ X) G
  | last {L Z G : List Blk} : PickS L Z G → Take L Z G

theorem Pick.perm {L L1 : List Blk} {B : Blk} (h : Pick L B L1) : L.Perm (B :: L1) := by
  induction h with
  | here => exact .refl _
  | there _ ih => exact (ih.cons _).trans (.swap ..)
  | far _ ih => exact (List.Perm.append_left _ ih).trans List.perm_middle
theorem PickS.perm {L X L1 : List Blk} (h : PickS L X L1) : L.Perm (X ++ L1) := by
  induction h with
  | nil => exact .refl _
  | last => simp
  | one => exact .refl _
  | here => exact .refl _
  | there _ ih => exact (ih.cons _).trans List.perm_middle.symm
  | @far Z L X L1 _ ih =>
    refine (List.Perm.append_left Z ih).trans ?_
    rw [← List.append_assoc, ← List.append_assoc]
    exact List.Perm.append_right _ List.perm_append_comm
theorem Take.perm {L X G : List Blk} (h : Take L X G) : L.Perm (X ++ G) := by
  induction h with
  | nil => exact .refl _
  | one h1 _ ih => exact h1.perm.trans (ih.cons _)
  | @seg L L1 Z X G h1 _ ih => rw [List.append_assoc]; exact h1.perm.trans (List.Perm.append_left Z ih)
  | last h1 => exact h1.perm
theorem Take.keep {w0 w : World} {M : List Nat} {L X G : List Blk} (h : Take L X G) (hs : St w0 M L w) : St w0 M X w := (hs.perm h.perm.symm).sub (List.sublist_append_left _ _)

/-! ### Reading -/

def Blk.get (B : Blk) (o : Nat) : Option Value := bif B.key.mp.v then none else bif Nat.ble B.off o then B.cells[o - B.off]? else none

theorem Blk.get_map {B : Blk} {o : Nat} {v : Value} (h : B.get o = some v) : B.key.mp.v = false := by
  unfold Blk.get at h
  cases hm : B.key.mp.v with
  | false => rfl
  | true => rw [hm] at h; cases h
theorem Blk.get_spec {B : Blk} {o : Nat} {v : Value} (h : B.get o = some v) : B.off ≤ o ∧ o - B.off < B.cells.length ∧ B.cells[o - B.off]? = some v := by
  have hm := Blk.get_map h
  unfold Blk.get at h
  rw [hm, cond_false] at h
  cases hb : Nat.ble B.off o with
  | false => rw [hb] at h; cases h
  | true =>
    rw [hb] at h
    simp only [cond_true] at h
    refine ⟨Nat.le_of_ble_eq_true hb, ?_, h⟩
    rcases Nat.lt_or_ge (o - B.off) B.cells.length with hl | hl
    · exact hl
    · rw [List.getElem?_eq_none hl] at h; cases h

theorem Blk.In.cell {B : Blk} {w : World} (h : B.In w) {o : Nat} {v : Value} (hg : B.get o = some v) : w.cell? ⟨B.id, o, none⟩ = some v := by
  obtain ⟨h1, h2, h3⟩ := Blk.get_spec hg
  obtain ⟨c, E, lo, hi, hh, hsz, hk, _⟩ := h.here (Blk.get_map hg)
  have := hk _ h2
  rw [show B.off + (o - B.off) = o by omega, h3] at this
  simp [World.cell?, hh, this]

/-- The cell at 'a' holds 'v': in the call's own memory, or where it lay before the call. -/
inductive Rd (C : Ctx) (L : List Blk) : Addr → Value → Prop
  | own {b o off size : Nat} {tg : Option TypeId} {cells : List Value} {v : Value} : Find L ⟨⟨b, tg⟩, off, cells, size⟩ → Blk.get ⟨⟨b, tg⟩, off, cells, size⟩ o = some v → Rd C L ⟨b, o, none⟩ v
  | old {a : Addr} {v : Value} : C.w0.cell? a = some v → a.block ∉ C.M → Rd C L a v

theorem cell_lt {w : World} {a : Addr} {v : Value} (h : w.cell? a = some v) : a.block < w.heap.size := by
  rcases Nat.lt_or_ge a.block w.heap.size with hl | hl
  · exact hl
  · simp [World.cell?, Array.getElem?_eq_none hl] at h

theorem cell_same {w w' : World} {a : Addr} (h : w'.heap[a.block]? = w.heap[a.block]?) : w'.cell? a = w.cell? a := by simp only [World.cell?, h]

theorem Rd.cell {C : Ctx} {L : List Blk} {a : Addr} {v : Value} (h : Rd C L a v) {w : World} (hs : St C.w0 C.M L w) : w.cell? a = some v := by
  cases h with
  | own hf hg => exact (hs.inw _ hf.mem).cell (B := ⟨_, _, _, _⟩) hg
  | old hc hm => rw [cell_same (hs.old _ (cell_lt hc) hm)]; exact hc

/-- So many cells, one behind the other. -/
def RdN (C : Ctx) (L : List Blk) (a : Addr) (vs : List Value) : Prop := ∀ i v, vs[i]? = some v → Rd C L ⟨a.block, a.off + i, none⟩ v

def CellsAt (w : World) (a : Addr) (vs : List Value) : Prop := ∀ i v, vs[i]? = some v → w.cell? ⟨a.block, a.off + i, none⟩ = some v

theorem RdN.cells {C : Ctx} {L : List Blk} {a : Addr} {vs : List Value} (h : RdN C L a vs) {w : World} (hs : St C.w0 C.M L w) : CellsAt w a vs :=
  fun i v hv => (h i v hv).cell hs

theorem RdN.old {C : Ctx} {L : List Blk} {a : Addr} {vs : List Value} (h : CellsAt C.w0 a vs) (hm : a.block ∉ C.M) : RdN C L a vs :=
  fun i v hv => .old (h i v hv) hm

theorem RdN.own {C : Ctx} {L : List Blk} {b o off size : Nat} {tg : Option TypeId} {cells vs : List Value} (hf : Find L ⟨⟨b, tg⟩, off, cells, size⟩) (hg : ∀ i v, vs[i]? = some v → Blk.get ⟨⟨b, tg⟩, off, cells, size⟩ (o + i) = some v) : RdN C L ⟨b, o, none⟩ vs :=
  fun i v hv => .own hf (hg i v hv)

/-- The whole of a block that is known from its first cell on. -/
theorem RdN.whole {C : Ctx} {L : List Blk} {b size : Nat} {tg : Option TypeId} {cells : List Value} (hf : Find L ⟨⟨b, tg⟩, 0, cells, size⟩) : RdN C L ⟨b, 0, none⟩ cells :=
  RdN.own hf fun i v hv => by
    show (bif Nat.ble 0 (0 + i) then cells[0 + i - 0]? else none) = some v
    simpa [Nat.ble] using hv

theorem addr_add (b o i : Nat) : (Addr.add ⟨b, o, none⟩ i) = ⟨b, o + i, none⟩ := by
  unfold Addr.add
  split
  · rename_i h; subst h; rfl
  · rfl

theorem run_loadCellsFrom {P : Program} {w : World} {b : Nat} : ∀ (n : Nat) (o i : Nat) (acc : Array Value) (vs : List Value), vs.length = n → CellsAt w ⟨b, o + i, none⟩ vs →
    (loadCellsFrom ⟨b, o, none⟩ i n acc).run P w = .ok (acc ++ vs.toArray) w := by
  intro n
  induction n with
  | zero => intro o i acc vs hl _; cases vs with | nil => simp [loadCellsFrom, pure] | cons _ _ => cases hl
  | succ n ih =>
    intro o i acc vs hl h
    cases vs with
    | nil => cases hl
    | cons v vs =>
      have h0 := h 0 v rfl
      simp only [Nat.add_zero] at h0
      have hrest : CellsAt w ⟨b, o + (i + 1), none⟩ vs := fun k u hu => by
        have := h (k + 1) u (by simpa using hu)
        simpa [Nat.add_assoc, Nat.add_comm 1 k] using this
      have := ih o (i + 1) (acc.push v) vs (by simpa using hl) hrest
      simp only [loadCellsFrom, load, bind, Sem.bind, addr_add, Sem.run, h0, this]
      simp

theorem run_loadCells {P : Program} {w : World} {b o : Nat} {n : Nat} {vs : List Value} (hl : vs.length = n) (h : CellsAt w ⟨b, o, none⟩ vs) :
    (loadCells ⟨b, o, none⟩ n).run P w = .ok vs.toArray w := by
  unfold loadCells
  rw [run_loadCellsFrom n o 0 #[] vs hl (by simpa using h)]
  simp

def oneCellT : TypeDesc → Bool
  | .struct _ | .array _ _ => false
  | _ => true

theorem run_bind {α β : Type} {P : Program} {s : Sem α} {f : α → Sem β} {w w' : World} {a : α} (h : s.run P w = .ok a w') : (s >>= f).run P w = (f a).run P w' := by
  show (s.bind f).run P w = _
  induction s generalizing w with
  | pure x => simp only [Sem.run] at h; cases h; rfl
  | load m ad k ih =>
    simp only [Sem.bind, Sem.run] at h ⊢
    cases hc : w.cell? ad with
    | some v => simp only [hc] at h ⊢; exact ih v h
    | none =>
      simp only [hc] at h ⊢
      cases hf : w.farLoad P ad (m == .atomic) with
      | ok r => simp only [hf] at h ⊢; exact ih _ h
      | error e => simp only [hf] at h; cases h
  | store m ad v k ih =>
    cases v <;> (simp only [Sem.bind, Sem.run] at h ⊢; first | (cases h; done) | skip) <;>
    · cases hc : w.cell? ad with
      | some v =>
        simp only [hc] at h ⊢
        split at h
        · cases h
        · rename_i hz; rw [if_neg hz]; exact ih h
      | none =>
        simp only [hc] at h ⊢
        split at h
        · exact ih h
        · cases h
  | new o k ih => simp only [Sem.bind, Sem.run] at h ⊢; exact ih _ h
  | shape r k ih => simp only [Sem.bind, Sem.run] at h ⊢; exact ih _ h
  | freeze ad n k ih => simp only [Sem.bind, Sem.run] at h ⊢; exact ih h
  | frozen ad k ih => simp only [Sem.bind, Sem.run] at h ⊢; exact ih _ h
  | getObj r k ih =>
    simp only [Sem.bind, Sem.run] at h ⊢
    split at h
    · cases h
    · exact ih _ h
    · cases h
  | setObj r o k ih =>
    simp only [Sem.bind, Sem.run] at h ⊢
    split at h
    · cases h
    · exact ih h
    · cases h
  | choose q k ih =>
    simp only [Sem.bind, Sem.run] at h ⊢
    split at h
    · rename_i hq; rw [if_pos hq]; exact ih _ h
    · rename_i hq; rw [if_neg hq]; exact ih _ h
  | sys c k ih => simp only [Sem.bind, Sem.run] at h ⊢; exact ih _ h
  | program k ih => simp only [Sem.bind, Sem.run] at h ⊢; exact ih _ h
  | mark m k ih => simp only [Sem.bind, Sem.run] at h ⊢; exact ih h
  | halt x => simp only [Sem.run] at h; cases h

theorem run_underlying {P : Program} {t : TypeId} {d : TypeDesc} (h : P.underlying t = some d) (w : World) : (underlying t).run P w = .ok d w := by
  simp [underlying, program, bind, Sem.bind, Sem.run, h, pure]

/-- Is a type's value one cell? -/
def OneT (P : Program) (t : TypeId) (b : Bool) : Prop := (P.underlying t).map oneCellT = some b

theorem run_isAgg {P : Program} {t : TypeId} {b : Bool} (h : OneT P t b) (w : World) : (isAgg t).run P w = .ok (!b) w := by
  obtain ⟨d, hd, rfl⟩ := Option.map_eq_some_iff.1 h
  unfold isAgg
  rw [run_bind (run_underlying hd w)]
  cases d <;> rfl

theorem run_typeInfo {P : Program} {t : TypeId} {i : TypeInfo} (h : P.info? t = some i) (w : World) : (typeInfo t).run P w = .ok i w := by
  simp [typeInfo, program, bind, Sem.bind, Sem.run, h, pure]

/-- A type's number of cells. -/
def SizeIs (P : Program) (t : TypeId) (k : Nat) : Prop := (P.info? t).map TypeInfo.size = some k
def BytesIs (P : Program) (t : TypeId) (k : Nat) : Prop := (P.info? t).map TypeInfo.bytes = some k
def ZeroIs (P : Program) (t : TypeId) (v : Value) : Prop := (P.info? t).bind TypeInfo.zero = some v

theorem run_sizeOf {P : Program} {t : TypeId} {k : Nat} (h : SizeIs P t k) (w : World) : (sizeOf t).run P w = .ok k w := by
  obtain ⟨i, hi, rfl⟩ := Option.map_eq_some_iff.1 h
  unfold sizeOf
  rw [run_bind (run_typeInfo hi w)]; rfl

theorem run_zeroValue {P : Program} {t : TypeId} {v : Value} (h : ZeroIs P t v) (w : World) : (zeroValue t).run P w = .ok v w := by
  obtain ⟨i, hi, hz⟩ := Option.bind_eq_some_iff.1 h
  unfold zeroValue
  rw [run_bind (run_typeInfo hi w)]; simp [hz, pure]

theorem run_load1 {P : Program} {t : TypeId} (h : OneT P t true) {a : Addr} {v : Value} {w : World} (hc : w.cell? a = some v) :
    (Instr.loadAt t (.pointer (some a))).run P w = .ok v w := by
  unfold Instr.loadAt Instr.sureAddr loadVar
  simp only [pure, bind, Sem.bind]
  show ((isAgg t) >>= _).run P w = _
  rw [run_bind (run_isAgg h w)]
  simp [load, Sem.run, hc]

theorem run_loadN {P : Program} {t : TypeId} (h : OneT P t false) {k : Nat} (hk : SizeIs P t k) {b o : Nat} {vs : List Value} {w : World} (hl : vs.length = k) (hc : CellsAt w ⟨b, o, none⟩ vs) :
    (Instr.loadAt t (.pointer (some ⟨b, o, none⟩))).run P w = .ok (.agg vs.toArray) w := by
  unfold Instr.loadAt Instr.sureAddr loadVar
  simp only [pure, bind, Sem.bind]
  show ((isAgg t) >>= _).run P w = _
  rw [run_bind (run_isAgg h w)]
  simp only [Bool.not_false, if_true]
  show ((sizeOf t) >>= _).run P w = _
  rw [run_bind (run_sizeOf hk w)]
  show ((loadCells _ _) >>= _).run P w = _
  rw [run_bind (run_loadCells hl hc)]
  rfl

section rules
variable {C : Ctx} {K : Env → List Blk → Prop} {e : Env} {L : List Blk}
variable {dst : Option Tmp} {ty : TypeId} {pos : String} {after : Array Edge} {guard : Option (Nat × Bool)}

theorem execOp_ev {a : Act} (hr : Rel C.n e a) (o : Oper) : execOp a.eval o = execOp (ev C.n e) o := by rw [hr.eval]

/-- An operation that yields a value and leaves the world, where these facts hold. -/
theorem T1.valAt {o : Oper} (v : Value) (h : ∀ w, St C.w0 C.M L w → (execOp (ev C.n e) o).run C.P w = .ok (.value v) w) (k : K (putO e o.dst v) L) : T1 C o K e L := by
  intro a w K' Q' hr hs hK
  unfold Oper.wp
  rw [hr.eval, h w hs]
  exact hK _ _ _ _ (hr.put _ _) hs k

/-- An operation that yields v and leaves the world as it is, in whatever world meets L. -/
def V1 (C : Ctx) (o : Oper) (e : Env) (L : List Blk) (v : Value) : Prop := ∀ w, St C.w0 C.M L w → (execOp (ev C.n e) o).run C.P w = .ok (.value v) w

theorem V1.t {o : Oper} {v : Value} (h : V1 C o e L v) (k : K (putO e o.dst v) L) : T1 C o K e L := T1.valAt v h k

theorem run_value {P : Program} {s : Sem Value} {w w' : World} {v : Value} (h : s.run P w = .ok v w') : (do pure (Next.value (← s)) : Sem Next).run P w = .ok (.value v) w' := by
  rw [run_bind h]; rfl

theorem V1.load1 {t : TypeId} {x : Operand} {a : Addr} {v : Value} (hT : OneT C.P t true) (hp : ev C.n e x = .pointer (some a)) (hrd : Rd C L a v) : V1 C ⟨dst, .load t x, ty, pos, after, guard⟩ e L v := 
  (fun w hs => by
    show (do pure (Next.value (← Instr.loadAt t (ev C.n e x))) : Sem Next).run C.P w = _
    rw [hp]; exact run_value (run_load1 hT (hrd.cell hs)))

theorem V1.loadN {t : TypeId} {x : Operand} {b o k : Nat} {vs : List Value} (hT : OneT C.P t false) (hk : SizeIs C.P t k) (hp : ev C.n e x = .pointer (some ⟨b, o, none⟩))
    (hrd : RdN C L ⟨b, o, none⟩ vs) (hl : vs.length = k) : V1 C ⟨dst, .load t x, ty, pos, after, guard⟩ e L (.agg vs.toArray) := 
  (fun w hs => by
    show (do pure (Next.value (← Instr.loadAt t (ev C.n e x))) : Sem Next).run C.P w = _
    rw [hp]; exact run_value (run_loadN hT hk hl (hrd.cells hs)))

end rules

/-! ### Writing -/

/-- A value of one cell. -/
def one : Value → Bool
  | .agg _ | .tuple _ => false
  | _ => true


theorem heap_setCell {w : World} {a : Addr} {v : Value} {b : Nat} (h : b ≠ a.block) : (w.setCell a v).heap[b]? = w.heap[b]? := by
  simp only [World.setCell, Array.getElem?_modify]; rw [if_neg (Ne.symm h)]

theorem heap_setCell_size {w : World} {a : Addr} {v : Value} : (w.setCell a v).heap.size = w.heap.size := by simp [World.setCell]

/-- So many cells stored one behind the other into a block: all of its cells lie between. -/
def setCellsAt (w : World) (b o : Nat) : List Value → World
  | [] => w
  | v :: vs => setCellsAt (w.setCell ⟨b, o, none⟩ v) b (o + 1) vs

theorem setCellsAt_drawn (b : Nat) : ∀ (vs : List Value) (o : Nat) (w : World), (setCellsAt w b o vs).drawn = w.drawn
  | [], _, _ => rfl
  | v :: vs, o, w => by rw [setCellsAt, setCellsAt_drawn b vs]; rfl

/-- A world in which one block of the list has turned. -/
theorem St.turn {w0 : World} {M : List Nat} {L L' : List Blk} {B B' : Blk} {w w' : World} (h : St w0 M L w) (hu : Sub L [B] L' [B']) (hid : B'.id = B.id)
    (ho : w'.os = w.os) (ht : w'.tape = w.tape) (hp : w'.output = w.output) (hsz : w'.heap.size = w.heap.size) (hsame : ∀ b, b ≠ B.id → w'.heap[b]? = w.heap[b]?) (hin : B'.In w') (hdr : w.drawn ≤ w'.drawn := by first | exact Nat.le_refl _ | (rw [setCellsAt_drawn]; exact Nat.le_refl _)) : St w0 M L' w' := by
  obtain ⟨F, G, rfl, rfl⟩ := hu.split
  have hd := h.distinct
  simp only [List.map_append, List.nodup_append, List.map_cons, List.map_nil] at hd
  have hne : ∀ X, X ∈ F ∨ X ∈ G → X.id ≠ B.id := by
    rintro X (hX | hX)
    · exact hd.2.2 _ (List.mem_map_of_mem hX) _ (by simp)
    · exact fun he => hd.2.1.2.2 B.id (by simp) _ (List.mem_map_of_mem hX) he.symm
  refine ⟨ho.trans h.os, ht.trans h.tape, hp.trans h.output, by rw [hsz]; exact h.size, ?_, ?_, ?_, ?_, Nat.le_trans h.drawn hdr⟩
  · intro b hb hm
    have hne' : b ≠ B.id := fun he => hm (he ▸ h.may B (by simp) (by omega))
    rw [hsame b hne']; exact h.old b hb hm
  · have := h.distinct
    simpa [List.map_append, hid] using this
  · intro X hX
    simp only [List.mem_append, List.mem_cons, List.not_mem_nil, or_false] at hX
    rcases hX with hX | rfl | hX
    · exact (h.inw X (by simp [hX])).of_same (hsame _ (hne X (.inl hX)))
    · exact hin
    · exact (h.inw X (by simp [hX])).of_same (hsame _ (hne X (.inr hX)))
  · intro X hX hlt
    simp only [List.mem_append, List.mem_cons, List.not_mem_nil, or_false] at hX
    rcases hX with hX | rfl | hX
    · exact h.may X (by simp [hX]) hlt
    · rw [hid] at hlt ⊢; exact h.may B (by simp) hlt
    · exact h.may X (by simp [hX]) hlt

theorem setCellsAt_fields (b : Nat) : ∀ (vs : List Value) (o : Nat) (w : World), (setCellsAt w b o vs).os = w.os ∧ (setCellsAt w b o vs).tape = w.tape ∧ (setCellsAt w b o vs).output = w.output ∧ (setCellsAt w b o vs).heap.size = w.heap.size ∧
    (∀ k, k ≠ b → (setCellsAt w b o vs).heap[k]? = w.heap[k]?) := by
  intro vs
  induction vs with
  | nil => intro o w; exact ⟨rfl, rfl, rfl, rfl, fun _ _ => rfl⟩
  | cons v vs ih =>
    intro o w
    obtain ⟨h1, h2, h3, h4, h5⟩ := ih (o + 1) (w.setCell ⟨b, o, none⟩ v)
    exact ⟨h1, h2, h3, h4.trans heap_setCell_size, fun k hk => (h5 k hk).trans (heap_setCell hk)⟩

theorem setCellsAt_block (b : Nat) : ∀ (vs : List Value) (o : Nat) (w : World) (c : Array Value) (E : TypeId) (f : Nat × Nat), w.heap[b]? = some (.cells c E f) →
    ∃ c', (setCellsAt w b o vs).heap[b]? = some (.cells c' E f) ∧ c'.size = c.size ∧ ∀ i, c'[i]? = if o ≤ i ∧ i < o + vs.length ∧ i < c.size then vs[i - o]? else c[i]? := by
  intro vs
  induction vs with
  | nil => intro o w c E f h; exact ⟨c, h, rfl, fun i => by rw [if_neg (by simp; omega)]⟩
  | cons v vs ih =>
    intro o w c E f h
    have h1 : (w.setCell ⟨b, o, none⟩ v).heap[b]? = some (.cells (c.setIfInBounds o v) E f) := by
      simp only [World.setCell, Array.getElem?_modify]; simp [h]
    obtain ⟨c', h2, h3, h4⟩ := ih (o + 1) _ _ E f h1
    refine ⟨c', h2, by simpa using h3, fun i => ?_⟩
    rw [h4]
    simp only [Array.size_setIfInBounds, List.length_cons]
    by_cases hio : i = o
    · subst hio
      rw [if_neg (by omega)]
      by_cases hlt : i < c.size
      · rw [if_pos ⟨by omega, by omega, hlt⟩]; simp [hlt]
      · rw [if_neg (by omega)]; simp [Array.getElem?_eq_none (by omega : c.size ≤ i)]; omega
    · by_cases hin : o + 1 ≤ i ∧ i < o + 1 + vs.length ∧ i < c.size
      · rw [if_pos hin, if_pos ⟨by omega, by omega, hin.2.2⟩, show i - o = (i - (o + 1)) + 1 by omega]; rfl
      · rw [if_neg hin, if_neg (by omega), Array.getElem?_setIfInBounds_ne (Ne.symm hio)]

theorem oneCell_store {P : Program} {w : World} {a : Addr} {u v : Value} (hc : w.cell? a = some u) (hz : w.frozen? a = false) (h1 : one v = true) : (store a v).run P w = .ok () (w.setCell a v) := by
  cases v <;> first | (cases h1; done) | simp [store, Sem.run, hc, hz]

theorem frozen_of_in {B : Blk} {w : World} (h : B.In w) {o : Nat} (ho : o < B.size) (hm : B.key.mp.v = false := by rfl) : w.frozen? ⟨B.id, o, none⟩ = false := by
  obtain ⟨c, E, lo, hi, hh, hsz, hk, hf⟩ := h.here hm
  have : ¬ (lo ≤ o ∧ o < hi) := by omega
  simp only [World.frozen?, hh]
  simp only [Bool.and_eq_false_iff, decide_eq_false_iff_not]
  omega

theorem run_storeCells {P : Program} {b : Nat} : ∀ (vs : List Value) (o i : Nat) (w : World) (c : Array Value) (E : TypeId) (lo hi : Nat), w.heap[b]? = some (.cells c E (lo, hi)) → o + i + vs.length ≤ c.size →
    (∀ k, k < c.size → ¬ (lo ≤ k ∧ k < hi)) → (∀ v ∈ vs, one v = true) → (storeCells ⟨b, o, none⟩ vs i).run P w = .ok () (setCellsAt w b (o + i) vs) := by
  intro vs
  induction vs with
  | nil => intro o i w c E lo hi _ _ _ _; rfl
  | cons v vs ih =>
    intro o i w c E lo hi hh hlen hfr hone
    have hlen' : o + i < c.size := by simp at hlen; omega
    have hcell : w.cell? ⟨b, o + i, none⟩ = some c[o + i] := by simp [World.cell?, hh, hlen']
    have hz : w.frozen? ⟨b, o + i, none⟩ = false := by
      have := hfr (o + i) hlen'
      simp only [World.frozen?, hh, Bool.and_eq_false_iff, decide_eq_false_iff_not]; omega
    unfold storeCells
    rw [addr_add, run_bind (oneCell_store hcell hz (hone v (by simp)))]
    have h1 : (w.setCell ⟨b, o + i, none⟩ v).heap[b]? = some (.cells (c.setIfInBounds (o + i) v) E (lo, hi)) := by
      simp only [World.setCell, Array.getElem?_modify]; simp [hh]
    rw [ih o (i + 1) _ _ E lo hi h1 (by simp at hlen ⊢; omega) (by simpa using hfr) (fun u hu => hone u (by simp [hu]))]
    rfl

/-- The cells with some of them turned, from a place on. -/
def putN (cells : List Value) (k : Nat) (vs : List Value) : List Value := cells.take k ++ vs ++ cells.drop (k + vs.length)

theorem putN_get {cells vs : List Value} {k : Nat} (h : k + vs.length ≤ cells.length) (i : Nat) : (putN cells k vs)[i]? = if k ≤ i ∧ i < k + vs.length then vs[i - k]? else cells[i]? := by
  unfold putN
  rw [List.append_assoc, List.getElem?_append]
  simp only [List.length_take]
  by_cases h1 : i < min k cells.length
  · rw [if_pos h1, if_neg (by omega), List.getElem?_take, if_pos (by omega)]
  · rw [if_neg h1, List.getElem?_append]
    by_cases h2 : i - min k cells.length < vs.length
    · rw [if_pos h2, if_pos (by omega)]; congr 1; omega
    · rw [if_neg h2, if_neg (by omega), List.getElem?_drop]; congr 1; omega

theorem putN_length {cells vs : List Value} {k : Nat} (h : k + vs.length ≤ cells.length) : (putN cells k vs).length = cells.length := by
  unfold putN; simp; omega

theorem In_setCellsAt {w : World} {B : Blk} (h : B.In w) {o : Nat} {vs : List Value} (h1 : B.off ≤ o) (h2 : o + vs.length ≤ B.off + B.cells.length) (hm : B.key.mp.v = false := by rfl) :
    (⟨B.key, B.off, putN B.cells (o - B.off) vs, B.size⟩ : Blk).In (setCellsAt w B.id o vs) := by
  obtain ⟨c, E, lo, hi, hh, hsz, hk, hf⟩ := h.here hm
  obtain ⟨c', g1, g2, g3⟩ := setCellsAt_block B.id vs o w c E (lo, hi) hh
  have hl : (putN B.cells (o - B.off) vs).length = B.cells.length := putN_length (by omega)
  have hr := h.room
  refine Blk.In.ofCells (by show B.off + (putN B.cells (o - B.off) vs).length ≤ B.size; omega) ⟨c', E, lo, hi, g1, by show c'.size = B.size; omega, fun i hi' => ?_, hf⟩ hm
  show c'[B.off + i]? = (putN B.cells (o - B.off) vs)[i]?
  have hi2 : i < B.cells.length := by simpa [hl] using hi'
  rw [g3, putN_get (by omega)]
  by_cases hc : o - B.off ≤ i ∧ i < o - B.off + vs.length
  · rw [if_pos ⟨by omega, by omega, by omega⟩, if_pos hc]; congr 1; omega
  · rw [if_neg (by omega), if_neg hc]; exact hk i hi2

/-- A row of cells that grows behind its last known one. -/
theorem In_extend {w : World} {B : Blk} (h : B.In w) {vs : List Value} (h2 : B.off + B.cells.length + vs.length ≤ B.size) (hm : B.key.mp.v = false := by rfl) :
    (⟨B.key, B.off, B.cells ++ vs, B.size⟩ : Blk).In (setCellsAt w B.id (B.off + B.cells.length) vs) := by
  obtain ⟨c, E, lo, hi, hh, hsz, hk, hf⟩ := h.here hm
  obtain ⟨c', g1, g2, g3⟩ := setCellsAt_block B.id vs (B.off + B.cells.length) w c E (lo, hi) hh
  refine Blk.In.ofCells (by simp; omega) ⟨c', E, lo, hi, g1, by show c'.size = B.size; omega, fun i hi' => ?_, hf⟩ hm
  show c'[B.off + i]? = (B.cells ++ vs)[i]?
  simp only [List.length_append] at hi'
  rw [g3, List.getElem?_append]
  by_cases hc : i < B.cells.length
  · rw [if_neg (by omega), if_pos hc]; exact hk i hc
  · rw [if_pos ⟨by omega, by omega, by omega⟩, if_neg hc]; congr 1; omega

section rules
variable {C : Ctx} {K : Env → List Blk → Prop} {e : Env} {L : List Blk}
variable {dst : Option Tmp} {ty : TypeId} {pos : String} {after : Array Edge} {guard : Option (Nat × Bool)}

theorem run_skip {P : Program} {s : Sem Unit} {w w' : World} (h : s.run P w = .ok () w') : (do s; pure Next.skip : Sem Next).run P w = .ok .skip w' := by
  rw [run_bind h]; rfl

theorem run_storeVar {P : Program} {t : TypeId} {b o : Nat} {v : Value} {w : World} {B : Blk} (hk : SizeIs P t v.cells.size) (hin : B.In w) (hb : B.id = b) (_ : B.off ≤ o) (h2 : o + v.cells.size ≤ B.off + B.cells.length) (hone : ∀ u ∈ v.cells.toList, one u = true) (hm : B.key.mp.v = false := by rfl) :
    (Instr.storeAt t (.pointer (some ⟨b, o, none⟩)) v).run P w = .ok () (setCellsAt w b o v.cells.toList) := by
  subst hb
  unfold Instr.storeAt Instr.sureAddr storeVar
  simp only [pure, bind, Sem.bind]
  show ((sizeOf t) >>= _).run P w = _
  rw [run_bind (run_sizeOf hk w)]
  obtain ⟨c, E, lo, hi, hh, hsz, _, hf⟩ := hin.here hm
  have hr := hin.room
  have := run_storeCells (P := P) v.cells.toList o 0 w c E lo hi hh (by simp; omega) (by intro k hk'; omega) hone
  simpa using this

/-- A store into a block of the call's own: its known cells with the stored ones put in. -/
theorem T1.store {t : TypeId} {x y : Operand} {b o off size : Nat} {tg : Option TypeId} {cells : List Value} {L' : List Blk} {v : Value} (hp : ev C.n e x = .pointer (some ⟨b, o, none⟩)) (hv : ev C.n e y = v)
    (hk : SizeIs C.P t v.cells.size) (h1 : off ≤ o) (h2 : o + v.cells.size ≤ off + cells.length) (hone : ∀ u ∈ v.cells.toList, one u = true)
    (hu : Sub L [⟨⟨b, tg⟩, off, cells, size⟩] L' [⟨⟨b, tg⟩, off, putN cells (o - off) v.cells.toList, size⟩]) (k : K (putO e dst undef) L') : T1 C ⟨dst, .store t x y, ty, pos, after, guard⟩ K e L := by
  intro a w K' Q' hr hs hK
  unfold Oper.wp
  rw [hr.eval]
  have hpc := hs.piece hu
  have hin := hpc.2 ⟨⟨b, tg⟩, off, cells, size⟩ (by simp)
  have hrun : (execOp (ev C.n e) ⟨dst, .store t x y, ty, pos, after, guard⟩).run C.P w = .ok .skip (setCellsAt w b o v.cells.toList) := by
    show (do Instr.storeAt t (ev C.n e x) (ev C.n e y); pure Next.skip : Sem Next).run C.P w = _
    rw [hp, hv]; exact run_skip (run_storeVar hk hin rfl h1 h2 hone)
  rw [hrun]
  obtain ⟨f1, f2, f3, f4, f5⟩ := setCellsAt_fields b v.cells.toList o w
  refine hK _ _ _ _ (hr.put _ _) (hs.turn hu rfl f1 f2 f3 f4 f5 ?_) k
  exact In_setCellsAt hin h1 (by simpa using h2)

theorem run_newRow {P : Program} {E : TypeId} {c : Array Value} {w : World} : (newRow E c).run P w = .ok ⟨w.heap.size, 0, none⟩ { w with heap := w.heap.push (.cells c E) } := rfl

theorem St.fresh {w0 : World} {M : List Nat} {L : List Blk} {w : World} (h : St w0 M L w) (c : Array Value) (E : TypeId) :
    St w0 M (⟨w.heap.size, 0, c.toList, c.size⟩ :: L) { w with heap := w.heap.push (.cells c E) } := by
  have := h.push (B := ⟨w.heap.size, 0, c.toList, c.size⟩) (c := c) (E := E) (lo := 0) (hi := 0) (k := w.drawn) rfl (by simp) rfl (by intro i hi; simp) (by omega)
  exact this

/-- A new variable: its cells hold nothing (0, nil ..). -/
theorem T1.alloc {elem : TypeId} {z : Value} (hz : ZeroIs C.P elem z) (k : ∀ b, K (putO e dst (.pointer (some ⟨b, 0, none⟩))) (⟨b, 0, z.cells.toList, z.cells.size⟩ :: L)) : T1 C ⟨dst, .alloc elem, ty, pos, after, guard⟩ K e L := by
  intro a w K' Q' hr hs hK
  unfold Oper.wp
  rw [hr.eval]
  have hrun : (execOp (ev C.n e) ⟨dst, .alloc elem, ty, pos, after, guard⟩).run C.P w = .ok (.value (.pointer (some ⟨w.heap.size, 0, none⟩))) { w with heap := w.heap.push (.cells z.cells elem) } := by
    show (do pure (Next.value (← Instr.alloc elem true (.tuple #[]))) : Sem Next).run C.P w = _
    refine run_value ?_
    unfold Instr.alloc
    rw [run_bind (run_zeroValue hz w)]
    rfl
  rw [hrun]
  exact hK _ _ _ _ (hr.put _ _) (hs.fresh _ _) (k _)

theorem T1.box {elem : TypeId} {x : Operand} {v : Value} (hv : ev C.n e x = v) (k : ∀ b, K (putO e dst (.pointer (some ⟨b, 0, none⟩))) (⟨b, 0, v.cells.toList, v.cells.size⟩ :: L)) : T1 C ⟨dst, .box elem x, ty, pos, after, guard⟩ K e L := by
  intro a w K' Q' hr hs hK
  unfold Oper.wp
  rw [hr.eval]
  have hrun : (execOp (ev C.n e) ⟨dst, .box elem x, ty, pos, after, guard⟩).run C.P w = .ok (.value (.pointer (some ⟨w.heap.size, 0, none⟩))) { w with heap := w.heap.push (.cells v.cells elem) } := by
    show (do pure (Next.value (← Instr.box elem (ev C.n e x))) : Sem Next).run C.P w = _
    rw [hv]; rfl
  rw [hrun]
  exact hK _ _ _ _ (hr.put _ _) (hs.fresh _ _) (k _)

end rules
end Go.Proofs.YtlpkcbkflfbclaaDoor.S
