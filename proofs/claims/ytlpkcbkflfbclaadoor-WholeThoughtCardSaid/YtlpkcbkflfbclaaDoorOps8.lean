/- Regions that draw their order and write: some blocks are kept in mind, so that what reads them is taken first; method values; numbers by their bits. Holds for every program. -/
import Derived.Test.YtlpkcbkflfbclaaDoorOps6
import Derived.Test.YtlpkcbkflfbclaaDoorOps7
namespace Go.Proofs.YtlpkcbkflfbclaaDoor.S
open Go.RowKit

section
variable {C : Ctx} {K : Env → List Blk → Prop} {e : Env} {L : List Blk} {dst : Option Tmp} {ty : TypeId} {pos : String} {after : Array Edge} {guard : Option (Nat × Bool)}
theorem V1.convI {s d : TypeId} {x : Operand} {k1 k2 : IntKind} {ds : TypeDesc} {a : Int} (m : Nat) (hk : Uns k2 m) (hs : C.P.underlying s = some ds) (hd : C.P.underlying d = some (.int k2)) (hx : ev C.n e x = .int k1 a) : V1 C ⟨dst, .convert s d x, ty, pos, after, guard⟩ e L (.int k2 (BitVec.ofInt m a).toNat) :=
  V1.conv hs hd hx (by
    rw [wrapU hk, BitVec.toNat_ofInt]
    have h : (0 : Int) < ((2 ^ m : Nat) : Int) := by exact_mod_cast Nat.two_pow_pos m
    rw [Int.toNat_of_nonneg (Int.emod_nonneg _ (by omega))]; simp)
theorem V1.makeFunc {fn : Go.Fn} {first cap : Array Operand} : V1 C ⟨dst, .makeFunc fn first cap, ty, pos, after, guard⟩ e L (.func fn (first.map (ev C.n e)) (cap.map (ev C.n e))) :=
  V1.run (s := Instr.makeFunc fn (first.map (ev C.n e)) (cap.map (ev C.n e))) rfl (fun _ _ => rfl)
/-- A call of a function's value, by a contract in the caller's terms. -/
theorem T1.callGX {g : Operand} {args : List Operand} {ts : Array TypeId} {f : FuncId} {first cap : Array Value} {as : List Value} {X G : List Blk} {R : Value → List Blk → Prop} (hg : ev C.n e g = .func (.func f) first cap) (hf : Has C.P f) (has : first ++ (args.map (ev C.n e)).toArray ++ cap = as.toArray)
    (hc : FnX C.P f as C.w0 C.M X R) (ht : Take L X G) (k : ∀ v Y, R v Y → K (putO e dst v) (Y ++ G)) : T1 C ⟨dst, .call ⟨.value g, args.toArray, ts⟩, ty, pos, after, guard⟩ K e L :=
  T1.call (R := fun v L' => ∃ Y, L' = Y ++ G ∧ R v Y) hg hf has (fun w hs => (hc G w (hs.perm ht.perm.symm)).mono fun en w' ⟨v, Y, h1, h2, h3⟩ => ⟨v, Y ++ G, h1, h2, Y, rfl, h3⟩) (fun v L' ⟨Y, h, hR⟩ => h ▸ k v Y hR)

/-! ### Drawn regions, with something kept in mind -/
theorem T.drawK {id : Nat} {l : List Oper} {Q : Post} (S : List Blk → Prop) (hm : C.P.follows .mixedOrders = true) (hS : S L) (h : TD C S l.toArray Q l.toArray.size (Array.replicate l.toArray.size false) e L) : T C (.region id l.toArray true) Q e L := T.draw S hm hS h
theorem TK.take {S : List Blk → Prop} {ops : Array Oper} {Q : Post} {fuel : Nat} {listed : Array Bool} (i : Nat) {o : Oper} {v : Value} (hi : ops[i]? = some o) (hsel : Region.noSelect ops = true) (hf : Region.free .any ops listed i = true) (hr : (Region.ready .any ops listed).contains i = true)
    (hg : wantedE C.n ops e o.guard = true) (hQ : ∀ c e L, ¬ Q (.panic c) e L) (hy : ∀ L, S L → V1 C o e L v)
    (h : TD C S ops Q fuel (listed.setIfInBounds i true) (putO e o.dst v) L) : TD C S ops Q (fuel + 1) listed e L := TD.take v hi hsel hf hr hg hQ hy h
theorem TK.one {S : List Blk → Prop} {ops : Array Oper} {Q : Post} {fuel : Nat} {listed : Array Bool} (i : Nat) {o : Oper} (hr : Region.ready .any ops listed = [i]) (ho : ops[i]? = some o) (hg : wantedE C.n ops e o.guard = true)
    (h : T1 C o (fun e' L' => S L' ∧ TD C S ops Q fuel (listed.setIfInBounds i true) e' L') e L) : TD C S ops Q (fuel + 1) listed e L := TD.one hr ho hg h
theorem TK.two {S : List Blk → Prop} {ops : Array Oper} {Q : Post} {fuel : Nat} {listed : Array Bool} (i j : Nat) {oi oj : Oper} (hr : Region.ready .any ops listed = [i, j]) (hoi : ops[i]? = some oi) (hoj : ops[j]? = some oj) (hgi : wantedE C.n ops e oi.guard = true) (hgj : wantedE C.n ops e oj.guard = true)
    (hi : T1 C oi (fun e' L' => S L' ∧ TD C S ops Q fuel (listed.setIfInBounds i true) e' L') e L) (hj : T1 C oj (fun e' L' => S L' ∧ TD C S ops Q fuel (listed.setIfInBounds j true) e' L') e L) : TD C S ops Q (fuel + 1) listed e L :=
  TD.all hr (by simp) fun k hk => by
    simp only [List.mem_cons, List.not_mem_nil, or_false] at hk
    rcases hk with rfl | rfl
    · exact ⟨oi, hoi, fun _ => hi, fun h0 => by rw [hgi] at h0; cases h0⟩
    · exact ⟨oj, hoj, fun _ => hj, fun h0 => by rw [hgj] at h0; cases h0⟩
/-- A piece out of the midst of a block. -/
theorem RdN.sub {b off o k size : Nat} {cells : List Value} (hf : Find L ⟨b, off, cells, size⟩) : RdN C L ⟨b, off + o, none⟩ ((cells.drop o).take k) :=
  RdN.own hf fun i v hv => by
    rw [List.getElem?_take] at hv
    split at hv
    · rw [List.getElem?_drop] at hv
      show (bif Nat.ble off (off + o + i) then cells[off + o + i - off]? else none) = some v
      rw [Nat.ble_eq_true_of_le (by omega), show off + o + i - off = o + i from by omega]; exact hv
    · cases hv
end
end Go.Proofs.YtlpkcbkflfbclaaDoor.S
