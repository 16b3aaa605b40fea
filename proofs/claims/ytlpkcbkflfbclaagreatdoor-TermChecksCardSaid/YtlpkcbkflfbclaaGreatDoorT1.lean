/- Numbers and texts held against each other. -/
import Derived.Test.YtlpkcbkflfbclaaGreatDoorTypes
import Derived.Test.YtlpkcbkflfbclaaGreatDoorTmMem
namespace Go.Proofs.YtlpkcbkflfbclaaGreatDoor.S
open Go.RowKit

theorem V1.ext2 {C : Ctx} {e : Env} {L : List Blk} {dst : Option Tmp} {ty : TypeId} {pos : String} {after : Array Edge} {guard : Option (Nat × Bool)} {f : FuncId} {fn : Func} {x y : Operand} {g : Array Value → Sem Value} {ts : Array TypeId} {u v r : Value} (hf : C.P.funcs[f]? = some fn) (h1 : (fn.name == "runtime.NumGoroutine") = false) (h2 : fn.body.isNone = true) (h3 : Extern.findNext fn = none) (h4 : Extern.find fn = some g) (hx : ev C.n e x = u) (hy : ev C.n e y = v) (hg : ∀ w, (g #[u, v]).run C.P w = .ok r w) :
    V1 C ⟨dst, .call ⟨.value (.func f), #[x, y], ts⟩, ty, pos, after, guard⟩ e L r := fun w _ => by
  show (do let d ← Deferred.ofValue (.func (.func f) #[] #[]) ((List.toArray [x, y]).map (ev C.n e)); Go.invoke d.target d.args : Sem Next).run C.P w = _
  rw [show (List.toArray [x, y]).map (ev C.n e) = #[u, v] from by rw [List.map_toArray]; simp [hx, hy]]
  show (callFunc f ((#[] ++ #[u, v]) ++ #[])).run C.P w = _
  rw [show ((#[] ++ #[u, v]) ++ #[] : Array Value) = #[u, v] from by simp, run_callFunc_extern hf h1 h2 h3 h4, hg w]; rfl
/-- The first that is not 0. -/
def orL : List Int → Int
  | [] => 0
  | a :: l => orI a (orL l)
theorem orL_drop {l : List Int} {i : Nat} {x : Int} (h : l[i]? = some x) : orL (l.drop i) = orI x (orL (l.drop (i + 1))) := by
  have hi := (List.getElem?_eq_some_iff.1 h).1
  rw [List.drop_eq_getElem_cons hi, show l[i] = x from by rw [List.getElem?_eq_getElem hi] at h; exact Option.some.inj h, orL]

set_option maxRecDepth 100000 in
theorem isNaN_any (a : Int) (w : World) : Fn P 97 [.int .i64 a] w [] (fun v Y => Y = [] ∧ v = .bool false) := by
  refine Fn.of 6 [.tmp 2] Go.Proofs.Tryz.func97 rfl rfl rfl rfl ?_
  refine T.seq ?_
  refine T.region ?_
  refine TL.cons rfl (V1.t (V1.assign' z_D) ?_)
  refine TL.nil ?_
  refine T.seq ?_
  refine T.region ?_
  refine TL.cons rfl (V1.t (V1.move' z_D) ?_)
  refine TL.cons rfl (V1.t (V1.move' z_D) ?_)
  refine TL.cons rfl (V1.t (V1.neI (r := false) rfl rfl (by simp)) ?_)
  refine TL.cons rfl (V1.t (V1.assign' z_D) ?_)
  refine TL.nil ?_
  refine T.ret ?_
  exact ⟨_, [], _, .cons (.tmp z_D) .nil, Take.nil, rfl, rfl⟩

set_option maxRecDepth 100000 in
theorem cmpI_any (a b : Int) (w : World) : Fn P 66 [.int .i64 a, .int .i64 b] w [] (fun v Y => Y = [] ∧ v = .int .i64 (cmpI a b)) := by
  refine Fn.of 20 [.tmp 4] Go.Proofs.Tryz.func66 rfl rfl rfl rfl ?_
  refine T.seq ?_
  refine T.region ?_
  refine TL.cons rfl (V1.t (V1.assign' z_D) ?_)
  refine TL.nil ?_
  refine T.seq ?_
  refine T.region ?_
  refine TL.cons rfl (V1.t (V1.move' z_D) ?_)
  refine TL.cons rfl (T1.call0 has_97 rfl (fun w hs => isNaN_any a w) (fun v_ hv => ?_))
  obtain rfl := hv
  refine TL.cons rfl (V1.t (V1.assign' z_D) ?_)
  refine TL.nil ?_
  refine T.seq ?_
  refine T.region ?_
  refine TL.cons rfl (V1.t (V1.move' z_D) ?_)
  refine TL.cons rfl (T1.call0 has_97 rfl (fun w hs => isNaN_any b w) (fun v_ hv => ?_))
  obtain rfl := hv
  refine TL.cons rfl (V1.t (V1.assign' z_D) ?_)
  refine TL.nil ?_
  refine T.seq ?_
  refine T.seq ?_
  refine T.region ?_
  refine TL.cons rfl (V1.t (V1.move' z_D) ?_)
  refine TL.nil ?_
  refine T.cond_f rfl ?_
  refine T.skip ?_
  refine T.seq ?_
  refine T.seq ?_
  refine T.region ?_
  refine TL.cons rfl (V1.t (V1.move' z_D) ?_)
  refine TL.nil ?_
  refine T.cond_f rfl ?_
  refine T.skip ?_
  refine T.seq ?_
  refine T.seq ?_
  refine T.region ?_
  refine TL.cons rfl (V1.t (V1.move' z_D) ?_)
  refine TL.cons rfl (V1.t (V1.move' z_D) ?_)
  refine TL.cons rfl (T1.ltI_split rfl rfl (fun h9_2 => ?_) (fun h9_2 => ?_))
  ·
    refine TL.nil ?_
    refine T.cond_t rfl ?_
    refine T.seq ?_
    refine T.region ?_
    refine TL.cons rfl (V1.t (V1.assign' z_D) ?_)
    refine TL.nil ?_
    refine T.ret ?_
    exact ⟨_, [], _, .cons (.tmp z_D) .nil, Take.nil, rfl, congrArg (Value.int .i64) (by unfold cmpI; first | rw [if_pos (by omega)] | rw [if_neg (by omega), if_pos (by omega)] | rw [if_neg (by omega), if_neg (by omega)])⟩
  ·
    refine TL.nil ?_
    refine T.cond_f rfl ?_
    refine T.skip ?_
    refine T.seq ?_
    refine T.seq ?_
    refine T.region ?_
    refine TL.cons rfl (V1.t (V1.move' z_D) ?_)
    refine TL.cons rfl (V1.t (V1.move' z_D) ?_)
    refine TL.cons rfl (T1.gtI_split rfl rfl (fun h11_2 => ?_) (fun h11_2 => ?_))
    ·
      refine TL.nil ?_
      refine T.cond_t rfl ?_
      refine T.seq ?_
      refine T.live (l := []) .nil (fun e_ => ?_)
      refine T.region ?_
      refine TL.cons rfl (V1.t (V1.assign' z_D) ?_)
      refine TL.nil ?_
      refine T.ret ?_
      exact ⟨_, [], _, .cons (.tmp z_D) .nil, Take.nil, rfl, congrArg (Value.int .i64) (by unfold cmpI; first | rw [if_pos (by omega)] | rw [if_neg (by omega), if_pos (by omega)] | rw [if_neg (by omega), if_neg (by omega)])⟩
    ·
      refine TL.nil ?_
      refine T.cond_f rfl ?_
      refine T.skip ?_
      refine T.seq ?_
      refine T.live (l := []) .nil (fun e_ => ?_)
      refine T.region ?_
      refine TL.cons rfl (V1.t (V1.assign' z_D) ?_)
      refine TL.nil ?_
      refine T.ret ?_
      exact ⟨_, [], _, .cons (.tmp z_D) .nil, Take.nil, rfl, congrArg (Value.int .i64) (by unfold cmpI; first | rw [if_pos (by omega)] | rw [if_neg (by omega), if_pos (by omega)] | rw [if_neg (by omega), if_neg (by omega)])⟩

set_option maxRecDepth 100000 in
theorem bcmp_any (a b : List UInt8) (w : World) : Fn P 98 [.string (bstr a), .string (bstr b)] w [] (fun v Y => Y = [] ∧ v = .int .i64 (cmpB a b)) := by
  refine Fn.of 8 [.tmp 4] Go.Proofs.Tryz.func98 rfl rfl rfl rfl ?_
  refine T.seq ?_
  refine T.region ?_
  refine TL.cons rfl (V1.t (V1.assign' z_D) ?_)
  refine TL.nil ?_
  refine T.seq ?_
  refine T.region ?_
  refine TL.cons rfl (V1.t (V1.move' z_D) ?_)
  refine TL.cons rfl (V1.t (V1.move' z_D) ?_)
  refine TL.cons rfl (V1.t (V1.ext2 (fn := Go.Proofs.Tryz.f129) (g := Extern.BytealgCompare.compare) Go.Proofs.Tryz.func129 (by kernel_rfl) (by kernel_rfl) (by kernel_rfl) (by kernel_rfl) rfl rfl (fun w => Go.Lib.run_compareString (bstr a) (bstr b) w)) ?_)
  refine TL.cons rfl (V1.t (V1.assign' z_D) ?_)
  refine TL.nil ?_
  refine T.ret ?_
  exact ⟨_, [], _, .cons (.tmp z_D) .nil, Take.nil, rfl, rfl⟩

set_option maxRecDepth 100000 in
theorem scmp_any (a b : List UInt8) (w : World) : Fn P 67 [.string (bstr a), .string (bstr b)] w [] (fun v Y => Y = [] ∧ v = .int .i64 (cmpB a b)) := by
  refine Fn.of 8 [.tmp 4] Go.Proofs.Tryz.func67 rfl rfl rfl rfl ?_
  refine T.seq ?_
  refine T.region ?_
  refine TL.cons rfl (V1.t (V1.assign' z_D) ?_)
  refine TL.nil ?_
  refine T.seq ?_
  refine T.region ?_
  refine TL.cons rfl (V1.t (V1.move' z_D) ?_)
  refine TL.cons rfl (V1.t (V1.move' z_D) ?_)
  refine TL.cons rfl (T1.call0 has_98 rfl (fun w hs => bcmp_any a b w) (fun v_ hv => ?_))
  obtain rfl := hv
  refine TL.cons rfl (V1.t (V1.assign' z_D) ?_)
  refine TL.nil ?_
  refine T.ret ?_
  exact ⟨_, [], _, .cons (.tmp z_D) .nil, Take.nil, rfl, rfl⟩

set_option maxRecDepth 100000 in
theorem Or_any (w0 : World) (Ps : List Blk) (l : List Int) (v : Value) (hr0 : RowR w0 Ps 1 v l.length (l.map (Value.int .i64))) (hl : l.length ≤ maxN) : FnV P 65 [v] w0 Ps (fun v => v = .int .i64 (orL l)) := by
  obtain ⟨a, c, rfl⟩ := hr0.form
  have hr := hr0
  unfold maxN at hl
  refine FnV.of 18 [.tmp 2] Go.Proofs.Tryz.func65 rfl rfl rfl rfl (fun G hG => ?_)
  refine T.seq ?_
  refine T.region ?_
  refine TL.cons rfl (V1.t (V1.assign' z_D) ?_)
  refine TL.nil ?_
  refine T.seq ?_
  refine T.region ?_
  refine TL.cons rfl (V1.t (V1.assign' z_D) ?_)
  refine TL.nil ?_
  refine T.seq ?_
  refine T.seq ?_
  refine T.region ?_
  refine TL.cons rfl (V1.t (V1.move' z_D) ?_)
  refine TL.cons rfl (V1.t (V1.lenSl ty_44 rfl) ?_)
  refine TL.cons rfl (V1.t (V1.move' z_D) ?_)
  refine TL.nil ?_
  refine T.block ?_
  refine T.loopL (σ := Nat) (l0 := [(3, _), (6, _), (7, _)]) (fun x => [(8, .int .i64 (x : Nat))]) (fun i L => L = G ∧ i ≤ l.length ∧ orL l = orL (l.drop i)) (fun i => l.length - i) 0 (.cons rfl .nil) (.cons z_D (.cons z_D (.cons z_D .nil))) z_A (⟨rfl, Nat.zero_le _, by rw [List.drop_zero]⟩) ?_
  rintro i e_ L ⟨hL, hi, ho⟩
  obtain rfl := hL.symm
  refine T.seq ?_
  refine T.region ?_
  refine TL.cons rfl (T1.ltI_split rfl rfl (fun h3 => ?_) (fun h3 => ?_))
  ·
    obtain ⟨x, hx⟩ : ∃ x, l[i]? = some x := ⟨_, List.getElem?_eq_getElem (by omega)⟩
    obtain ⟨b, o, rfl, hrd⟩ := hr.at (by omega) P
    have hro := orL_drop hx
    refine TL.nil ?_
    refine T.seq ?_
    refine T.cond_t rfl ?_
    refine T.skip ?_
    refine T.seq ?_
    refine T.block ?_
    refine T.seq ?_
    refine T.region ?_
    refine TL.cons rfl (V1.t (V1.indexAddrS ty_44 sz_3 rfl rfl (by omega) (by omega)) ?_)
    refine TL.cons rfl (V1.t (V1.load1 (v := .int .i64 x) one_3 rfl (show Rd _ _ ⟨b, o + i * 1, none⟩ _ from by rw [Nat.mul_one]; exact hrd _ rfl rfl _ z_E i _ (by rw [List.getElem?_map, hx]; rfl))) ?_)
    refine TL.cons rfl (V1.t (V1.assign' z_D) ?_)
    refine TL.nil ?_
    refine T.seq ?_
    refine T.region ?_
    refine TL.cons rfl (V1.t (V1.move' z_D) ?_)
    refine TL.cons rfl (V1.t (V1.move' z_D) ?_)
    refine TL.cons rfl (T1.neI_split rfl rfl (fun h5 => ?_) (fun h5 => ?_))
    ·
      rw [hro, orI, if_pos h5] at ho
      refine TL.nil ?_
      refine T.cond_t rfl ?_
      refine T.seq ?_
      refine T.region ?_
      refine TL.cons rfl (V1.t (V1.move' z_D) ?_)
      refine TL.cons rfl (V1.t (V1.assign' z_D) ?_)
      refine TL.nil ?_
      refine T.ret ?_
      exact ⟨_, G, _, .cons (.tmp z_D) .nil, z_A, rfl, congrArg (Value.int .i64) ho.symm⟩
    ·
      rw [hro, orI, if_neg (by omega)] at ho
      refine TL.nil ?_
      refine T.cond_f rfl ?_
      refine T.skip ?_
      refine T.region ?_
      refine TL.cons rfl (V1.t (V1.add (c := ((i + 1 : Nat) : Int)) rfl rfl (by rw [wrap_i64 _ (by omega) (by omega)]; omega)) ?_)
      refine TL.cons rfl (V1.t (V1.move' z_D) ?_)
      refine TL.nil ?_
      exact ⟨i + 1, _, _, (by simp only; omega), (.cons rfl .nil), (.cons rfl (.cons rfl (.cons rfl .nil))), z_A, ⟨rfl, by omega, ho⟩⟩
  ·
    obtain rfl : i = l.length := by omega
    refine TL.nil ?_
    refine T.seq ?_
    refine T.cond_f rfl ?_
    refine T.exit ?_
    refine T.seq ?_
    refine T.region ?_
    refine TL.cons rfl (V1.t (V1.move' z_D) ?_)
    refine TL.cons rfl (V1.t (V1.assign' z_D) ?_)
    refine TL.nil ?_
    refine T.ret ?_
    exact ⟨_, G, _, .cons (.tmp z_D) .nil, z_A, rfl, congrArg (Value.int .i64) (by rw [ho, List.drop_length, orL])⟩

end Go.Proofs.YtlpkcbkflfbclaaGreatDoor.S
