/- What comes in, opened: the readings of arguments as lists of bytes, of numbers, of parts. Holds for every program. More readings of what came in. Holds for every program. More readings of what came in: arrays. Holds for every program. More readings of what came in: slices of slices of bytes. Holds for every program. More readings of what came in: lists of truths; arrays of slices of bytes. Holds for every program. -/
import Derived.Test.YtfjedhmffccgnaaGreatDoorOps3
import Derived.WalkKit
import Derived.ProofKit
import Derived.OpenShut
import Derived.Deep.Slices
import Derived.Test.YtfjedhmffccgnaaGreatDoorOps9
import Derived.ChangeMaps5
import Derived.SizedLaws
namespace Go.Proofs.YtfjedhmffccgnaaGreatDoor.S
open Go.ChangeShapes Go.WideShapes Go.ChangeAt Go.RowKit Go.Deep
abbrev Tr {H : Type} (enc : TypeId × Value → H) (P : Program) (W : World) (t : TypeId) (cs : List Value) (d : DataW H) : Prop := ∃ fuel p, DataW.trod enc P W 0 (fun _ => true) true fuel t cs = some (d, p)
theorem cells_flatten {w : World} {b k : Nat} : ∀ (ess : List (List Value)) (o : Nat), (∀ i es, ess[i]? = some es → es.length = k ∧ CellsAt w ⟨b, o + i * k, none⟩ es) → CellsAt w ⟨b, o, none⟩ ess.flatten := by
 intro ess
 induction ess with
 | nil => intro o _ i v h; simp at h
 | cons es ess ih =>
  intro o h i v hv
  obtain ⟨h1, h2⟩ := h 0 es (by simp)
  rw [List.flatten_cons, List.getElem?_append] at hv
  split at hv
  ·
   have := h2 i v hv
   simpa using this
  ·
   rename_i hge
   have h3 := ih (o + k) (fun j es' hj => by
    have := h (j + 1) es' (by simpa using hj)
    rw [Nat.succ_mul, Nat.add_comm (j * k) k, ← Nat.add_assoc] at this
    exact this) (i - es.length) v hv
   have e : o + k + (i - es.length) = o + i := by omega
   show w.cell? ⟨b, o + i, none⟩ = some v
   rw [← e]; exact h3
section
variable {H : Type} {enc : TypeId × Value → H} {P : Program} {W : World} {t e : TypeId} {v : Value} {d : DataW H}
theorem rd_int {kd : IntKind} {cs : List Value} (ht : P.underlying t = some (.int kd)) (h : Tr enc P W t cs d) : ∃ n, cs = [.int kd n] ∧ d = .lit (.int kd n) ∧ (Lit.int kd n).wf = true := by
 obtain ⟨fuel, p, h⟩ := h
 obtain ⟨n, h1, h2, h3⟩ := DataW.trod_int ht h
 exact ⟨n, h1, (Prod.mk.inj h2).1, h3⟩
theorem rd_slice0 {k : Nat} (ht : P.underlying t = some (.slice e)) (hC : P.cellsOf e = k) (hsp : ∀ a len cap, v = .slice (some a) len cap → a.spot = none) (h : Tr enc P W t [v] d) :
 ∃ (n : Nat) (ess : List (List Value)) (ds : List (DataW H)), n ≤ maxLen ∧ ess.length = n ∧ ds.length = n ∧ ((d = .nil ∧ ds = []) ∨ ∃ sp, d = .slice ds sp) ∧ SlR W v k n ess.flatten ∧ (∀ es ∈ ess, es.length = k) ∧
  ∀ (i : Nat) (es : List Value) (x : DataW H), ess[i]? = some es → ds[i]? = some x → Tr enc P W e es x := by
 obtain ⟨fuel, p, h⟩ := h
 rcases open_slice ht h with ⟨h1, h2⟩ | ⟨a, len, cap, m, n, D, Pl, hcs, hb, hl, hm, hmm, hx, hi⟩
 ·
  simp only [List.cons.injEq, and_true] at h1
  subst h1
  exact ⟨0, [], [], Nat.zero_le _, rfl, rfl, .inl ⟨(Prod.mk.inj h2).1, rfl⟩, .inl ⟨.inl rfl, rfl, rfl⟩, by simp, by simp⟩
 ·
  simp only [List.cons.injEq, and_true] at hcs
  subst hcs
  have hspot : a.spot = none := hsp _ _ _ rfl
  obtain ⟨b, o, sp⟩ := a
  simp only at hspot
  subst hspot
  have hmc : m = cap := by simpa using hmm
  subst hmc
  let g : Nat → List Value := fun i => (W.cells? 0 (Addr.add ⟨b, o, none⟩ (i * k)) k).getD []
  have hg : ∀ i, i < len → W.cells? 0 (Addr.add ⟨b, o, none⟩ (i * k)) k = some (g i) ∧ DataW.trod enc P W 0 (fun _ => true) true n e (g i) = some (D i, Pl i) := by
   intro i hil
   obtain ⟨cs', hc, ht'⟩ := hi i zw
   rw [hC] at hc
   have : g i = cs' := by show (W.cells? 0 _ k).getD [] = cs'; rw [hc]; rfl
   rw [this]; exact ⟨hc, ht'⟩
  have hget : ∀ i es, ((List.range len).map g)[i]? = some es → i < len ∧ es = g i := by
   intro i es he
   rw [List.getElem?_map] at he
   by_cases hil : i < len
   ·
    rw [List.getElem?_range hil] at he
    exact ⟨hil, (Option.some.inj he).symm⟩
   · rw [List.getElem?_eq_none (by simp; omega)] at he; cases he
  refine ⟨len, (List.range len).map g, (List.range len).map D, by omega, by simp, by simp, .inr ⟨_, (Prod.mk.inj hx).1⟩, .inr ⟨b, o, m, rfl, hl, ?_, ?_⟩, ?_, ?_⟩
  ·
   have hl' : ∀ x ∈ (List.range len).map g, x.length = k := by
    intro x hx'
    obtain ⟨i, hir, rfl⟩ := List.mem_map.1 hx'
    exact (World.cells?_some (hg i (by simpa using hir)).1).2.1
   have hfl : ∀ (l : List (List Value)), (∀ x ∈ l, x.length = k) → l.flatten.length = l.length * k := by
    intro l
    induction l with
    | nil => intro _; simp
    | cons x l ih => intro hh; simp only [List.flatten_cons, List.length_append, List.length_cons, hh x (by simp), ih (fun y hy => hh y (by simp [hy])), Nat.add_mul]; omega
   rw [hfl _ hl']; simp
  ·
   refine cells_flatten (k := k) _ o (fun i es he => ?_)
   obtain ⟨hil, rfl⟩ := hget i es he
   obtain ⟨h1, h2, h3⟩ := World.cells?_some (hg i hil).1
   refine ⟨h2, fun j u hu => ?_⟩
   have hj : j < k := by
    rcases Nat.lt_or_ge j k with hlt | hge
    · exact hlt
    · rw [List.getElem?_eq_none (by omega)] at hu; cases hu
   have := h3 j hj
   rw [hu, addr_add, addr_add] at this
   exact this
  ·
   intro x hx'
   obtain ⟨i, hir, rfl⟩ := List.mem_map.1 hx'
   exact (World.cells?_some (hg i (by simpa using hir)).1).2.1
  ·
   intro i es x he hx'
   obtain ⟨hil, rfl⟩ := hget i es he
   rw [List.getElem?_map, List.getElem?_range hil] at hx'
   obtain rfl := Option.some.inj hx'
   exact ⟨n, Pl i, (hg i hil).2⟩
def structIs (P : Program) (t : TypeId) (l : List (TypeId × Nat)) : Bool :=
  match P.underlying t with
  | some (.struct fs) => fs.toList.map (fun f => (f.type, f.offset)) == l
  | _ => false
theorem structIs_spec {l : List (TypeId × Nat)} (h : structIs P t l = true) : ∃ fs, P.underlying t = some (.struct fs) ∧ fs.toList.map (fun f => (f.type, f.offset)) = l := by
 unfold structIs at h
 split at h
 · rename_i fs hfs; exact ⟨fs, hfs, by simpa using h⟩
 · cases h
theorem rd_struct {l : List (TypeId × Nat)} {cs : List Value} (hs : structIs P t l = true) (h : Tr enc P W t cs d) :
 ∃ xs : List (DataW H), d = .agg xs ∧ xs.length = l.length ∧ cs.length = P.cellsOf t ∧ ∀ (j : Nat) (q : TypeId × Nat), l[j]? = some q → ∃ y, xs[j]? = some y ∧ Tr enc P W q.1 ((cs.drop q.2).take (P.cellsOf q.1)) y := by
 obtain ⟨fs, hfs, rfl⟩ := structIs_spec hs
 obtain ⟨fuel, p, h⟩ := h
 obtain ⟨xs, n, _, hx, hl, hxl, hi⟩ := DataW.trod_struct hfs h
 refine ⟨xs.map (·.1), (Prod.mk.inj hx).1, by simp [hxl], hl, fun j q hq => ?_⟩
 rw [List.getElem?_map] at hq
 obtain ⟨f, hf, rfl⟩ := Option.map_eq_some_iff.1 hq
 have hf' : fs[j]? = some f := by rw [← hf]; simp
 have h1 := hi j f hf'
 have hj : j < fs.size := (Array.getElem?_eq_some_iff.1 hf').1
 rw [List.getElem?_eq_getElem (by omega)] at h1
 exact ⟨(xs[j]'(by omega)).1, by rw [List.getElem?_map, List.getElem?_eq_getElem (by omega)]; rfl, n, (xs[j]'(by omega)).2, h1⟩
theorem okW_cell {b0 : Nat} {r : Reach} (hu : ∀ fs, P.underlying t ≠ some (.struct fs)) (hu' : ∀ n e, P.underlying t ≠ some (.array n e)) (h : Value.okWide P W r b0 t v) : Cell.okWide P W r b0 t v := by
 unfold Value.okWide at h
 split at h
 · rename_i fs hfs; exact absurd hfs (hu fs)
 · rename_i n e hfs; exact absurd hfs (hu' n e)
 · exact h
end
end Go.Proofs.YtfjedhmffccgnaaGreatDoor.S
namespace Go.Proofs.YtfjedhmffccgnaaGreatDoor.S
open Go.ChangeShapes Go.WideShapes Go.ChangeAt Go.RowKit Go.Deep
end Go.Proofs.YtfjedhmffccgnaaGreatDoor.S
namespace Go.Proofs.YtfjedhmffccgnaaGreatDoor.S
open Go.ChangeShapes Go.WideShapes Go.ChangeAt Go.RowKit Go.Deep
end Go.Proofs.YtfjedhmffccgnaaGreatDoor.S
namespace Go.Proofs.YtfjedhmffccgnaaGreatDoor.S
open Go.ChangeShapes Go.WideShapes Go.ChangeAt Go.RowKit Go.Deep
theorem spot_none {W : World} {a : Addr} {v : Value} (h : W.cell? a = some v) : a.spot = none := by
 unfold World.cell? at h
 split at h
 ·
  split at h
  · cases h
  · rename_i h'; simpa using h'
 · cases h
end Go.Proofs.YtfjedhmffccgnaaGreatDoor.S
namespace Go.Proofs.YtfjedhmffccgnaaGreatDoor.S
open Go.ChangeShapes Go.WideShapes Go.ChangeAt Go.RowKit Go.Deep
end Go.Proofs.YtfjedhmffccgnaaGreatDoor.S
