/- A text split at its blanks. -/
import Derived.Test.YtdgbckfnamiebaaDoorB3
import Derived.Test.YtdgbckfnamiebaaDoorOpsD
import Derived.Test.YtdgbckfnamiebaaDoorSplitSpec
import Derived.Lib.Bytealg
namespace Go.Proofs.YtdgbckfnamiebaaDoor.S
open Go.RowKit

theorem V1.ext2 {C : Ctx} {e : Env} {L : List Blk} {dst : Option Tmp} {ty : TypeId} {pos : String} {after : Array Edge} {guard : Option (Nat × Bool)} {f : FuncId} {fn : Func} {x y : Operand} {g : Array Value → Sem Value} {ts : Array TypeId} {u v r : Value} (hf : C.P.funcs[f]? = some fn) (h1 : (fn.name == "runtime.NumGoroutine") = false) (h2 : fn.body.isNone = true) (h3 : Extern.findNext fn = none) (h4 : Extern.find fn = some g) (hx : ev C.n e x = u) (hy : ev C.n e y = v) (hg : ∀ w, (g #[u, v]).run C.P w = .ok r w) :
    V1 C ⟨dst, .call ⟨.value (.func f), #[x, y], ts⟩, ty, pos, after, guard⟩ e L r := fun w _ => by
  show (do let d ← Deferred.ofValue (.func (.func f) #[] #[]) ((List.toArray [x, y]).map (ev C.n e)); Go.invoke d.target d.args : Sem Next).run C.P w = _
  rw [show (List.toArray [x, y]).map (ev C.n e) = #[u, v] from by rw [List.map_toArray]; simp [hx, hy]]
  show (callFunc f ((#[] ++ #[u, v]) ++ #[])).run C.P w = _
  rw [show ((#[] ++ #[u, v]) ++ #[] : Array Value) = #[u, v] from by simp, run_callFunc_extern hf h1 h2 h3 h4, hg w]; rfl
theorem idx_words : ∀ {l w v : List UInt8} {ws : List (List UInt8)}, words l = w :: v :: ws → Go.Lib.indexByte l 32 = (w.length : Int)
  | [], w, v, ws, h => by simp [words] at h
  | x :: l, w, v, ws, h => by
    rw [words] at h
    by_cases hx : x = 32
    · rw [if_pos hx] at h
      obtain ⟨rfl, _⟩ := List.cons.inj h
      rw [Go.Lib.indexByte, if_pos (by rw [hx]; rfl)] <;> rfl
    · rw [if_neg hx] at h
      cases hw : words l with
      | nil => exact absurd hw (words_ne l)
      | cons u us =>
        rw [hw] at h
        obtain ⟨rfl, rfl⟩ := List.cons.inj h
        have ih := idx_words hw
        rw [Go.Lib.indexByte, if_neg (by simpa using hx), ih, if_neg (by simp <;> omega), List.length_cons] <;> simp
def strV (w : List UInt8) : Value := .string (bstr w)
theorem fillW {A : List (List UInt8)} {v : List UInt8} {z : Value} {m i : Nat} (hl : A.length = i) (h : i < m) : (A.map strV ++ List.replicate (m - i) z).set i (strV v) = (A ++ [v]).map strV ++ List.replicate (m - (i + 1)) z := by
  rw [show m - i = (m - (i + 1)) + 1 from by omega, List.replicate_succ, List.set_append_right _ _ (by rw [List.length_map]; omega), List.length_map, hl, Nat.sub_self, List.set_cons_zero, List.map_append, List.append_assoc]; rfl
theorem drop_two {α : Type} {W : List α} {i : Nat} (h : i + 1 < W.length) : ∃ w v ws, W.drop i = w :: v :: ws ∧ W[i]? = some w ∧ W.drop (i + 1) = v :: ws := by
  have h1 := List.drop_eq_getElem_cons (show i < W.length by omega)
  have h2 := List.drop_eq_getElem_cons (show i + 1 < W.length by omega)
  exact ⟨_, _, _, h1.trans (by rw [h2]), List.getElem?_eq_getElem _, h2⟩

set_option maxRecDepth 100000 in
theorem Count_any (l : List UInt8) (w : World) : Fn P 26 [.string (bstr l), .string (bstr [32])] w [] (fun v Y => Y = [] ∧ v = .int .i64 (l.count 32 : Nat)) := by
  refine Fn.of 34 [.tmp 4] Go.Proofs.Tryd.func26 rfl rfl rfl rfl ?_
  refine T.seq ?_
  refine T.region ?_
  refine TL.cons rfl (V1.t (V1.assign' (by (conv => lhs; whnf) <;> rfl)) ?_)
  refine TL.nil ?_
  refine T.seq ?_
  refine T.seq ?_
  refine T.region ?_
  refine TL.cons rfl (V1.t (V1.move' (by (conv => lhs; whnf) <;> rfl)) ?_)
  refine TL.cons rfl (V1.t (V1.lenS ty_9 rfl) ?_)
  refine TL.cons rfl (V1.t (V1.eqI (r := false) rfl rfl (by decide)) ?_)
  refine TL.nil ?_
  refine T.cond_f rfl ?_
  refine T.skip ?_
  refine T.seq ?_
  refine T.seq ?_
  refine T.region ?_
  refine TL.cons rfl (V1.t (V1.move' (by (conv => lhs; whnf) <;> rfl)) ?_)
  refine TL.cons rfl (V1.t (V1.lenS ty_9 rfl) ?_)
  refine TL.cons rfl (V1.t (V1.eqI (r := true) rfl rfl (by decide)) ?_)
  refine TL.nil ?_
  refine T.cond_t rfl ?_
  refine T.seq ?_
  refine T.region ?_
  refine TL.cons rfl (V1.t (V1.move' (by (conv => lhs; whnf) <;> rfl)) ?_)
  refine TL.cons rfl (V1.t (V1.move' (by (conv => lhs; whnf) <;> rfl)) ?_)
  refine TL.cons rfl (V1.t (V1.indexStr (c := 32) ty_9 rfl rfl (by decide) (by rfl)) ?_)
  refine TL.cons rfl (V1.t (V1.ext2 (fn := Go.Proofs.Tryd.f34) (g := Extern.BytealgCount.count) Go.Proofs.Tryd.func34 (by kernel_rfl) (by kernel_rfl) (by kernel_rfl) (by kernel_rfl) rfl rfl (fun w => Go.Lib.run_countString (bstr l) 32 w)) ?_)
  refine TL.cons rfl (V1.t (V1.assign' (by (conv => lhs; whnf) <;> rfl)) ?_)
  refine TL.nil ?_
  refine T.ret ?_
  exact ⟨_, [], _, .cons (.tmp (by (conv => lhs; whnf) <;> rfl)) .nil, Take.nil, rfl, rfl⟩

set_option maxRecDepth 100000 in
theorem sIndexByte_any (l : List UInt8) (w : World) : Fn P 39 [.string (bstr l), byteV 32] w [] (fun v Y => Y = [] ∧ v = .int .i64 (Go.Lib.indexByte l 32)) := by
  refine Fn.of 8 [.tmp 4] Go.Proofs.Tryd.func39 rfl rfl rfl rfl ?_
  refine T.seq ?_
  refine T.region ?_
  refine TL.cons rfl (V1.t (V1.assign' (by (conv => lhs; whnf) <;> rfl)) ?_)
  refine TL.nil ?_
  refine T.seq ?_
  refine T.region ?_
  refine TL.cons rfl (V1.t (V1.move' (by (conv => lhs; whnf) <;> rfl)) ?_)
  refine TL.cons rfl (V1.t (V1.move' (by (conv => lhs; whnf) <;> rfl)) ?_)
  refine TL.cons rfl (V1.t (V1.ext2 (fn := Go.Proofs.Tryd.f45) (g := Extern.BytealgIndexByte.indexByte) Go.Proofs.Tryd.func45 (by kernel_rfl) (by kernel_rfl) (by kernel_rfl) (by kernel_rfl) rfl rfl (fun w => Go.Lib.run_indexByteString (bstr l) 32 w)) ?_)
  refine TL.cons rfl (V1.t (V1.assign' (by (conv => lhs; whnf) <;> rfl)) ?_)
  refine TL.nil ?_
  refine T.ret ?_
  exact ⟨_, [], _, .cons (.tmp (by (conv => lhs; whnf) <;> rfl)) .nil, Take.nil, rfl, rfl⟩

set_option maxRecDepth 100000 in
theorem sIndex_any (l : List UInt8) (w : World) : Fn P 35 [.string (bstr l), .string (bstr [32])] w [] (fun v Y => Y = [] ∧ v = .int .i64 (Go.Lib.indexByte l 32)) := by
  refine Fn.of 143 [.tmp 4] Go.Proofs.Tryd.func35 rfl rfl rfl rfl ?_
  refine T.seq ?_
  refine T.region ?_
  refine TL.cons rfl (V1.t (V1.assign' (by (conv => lhs; whnf) <;> rfl)) ?_)
  refine TL.nil ?_
  refine T.seq ?_
  refine T.region ?_
  refine TL.cons rfl (V1.t (V1.move' (by (conv => lhs; whnf) <;> rfl)) ?_)
  refine TL.cons rfl (V1.t (V1.lenS ty_9 rfl) ?_)
  refine TL.cons rfl (V1.t (V1.assign' (by (conv => lhs; whnf) <;> rfl)) ?_)
  refine TL.nil ?_
  refine T.seq ?_
  refine T.block ?_
  refine T.seq ?_
  refine T.region ?_
  refine TL.cons rfl (V1.t (V1.move' (by (conv => lhs; whnf) <;> rfl)) ?_)
  refine TL.cons rfl (V1.t (V1.eqI (r := false) rfl rfl (by decide)) ?_)
  refine TL.cons rfl (V1.t (V1.move' (by (conv => lhs; whnf) <;> rfl)) ?_)
  refine TL.cons rfl (V1.t (V1.move' (by (conv => lhs; whnf) <;> rfl)) ?_)
  refine TL.cons rfl (V1.t (V1.move' (by (conv => lhs; whnf) <;> rfl)) ?_)
  refine TL.cons rfl (T1.eqS_split (l := [32]) (m := l) rfl rfl (fun h2 => ?_) (fun h2 => ?_))
  ·
    refine TL.cons rfl (V1.t (V1.pick rfl (by (conv => lhs; whnf) <;> rfl)) ?_)
    refine TL.cons rfl (V1.t (V1.assign' (by (conv => lhs; whnf) <;> rfl)) ?_)
    refine TL.nil ?_
    refine T.cond_t rfl ?_
    refine T.seq ?_
    refine T.region ?_
    refine TL.cons rfl (V1.t (V1.assign' (by (conv => lhs; whnf) <;> rfl)) ?_)
    refine TL.nil ?_
    refine T.ret ?_
    exact ⟨_, [], _, .cons (.tmp (by (conv => lhs; whnf) <;> rfl)) .nil, Take.nil, rfl, by rw [← h2]; rfl⟩
  ·
    refine TL.cons rfl (V1.t (V1.pick rfl (by (conv => lhs; whnf) <;> rfl)) ?_)
    refine TL.cons rfl (V1.t (V1.assign' (by (conv => lhs; whnf) <;> rfl)) ?_)
    refine TL.nil ?_
    refine T.cond_f rfl ?_
    refine T.seq ?_
    refine T.region ?_
    refine TL.cons rfl (V1.t (V1.move' (by (conv => lhs; whnf) <;> rfl)) ?_)
    refine TL.cons rfl (V1.t (V1.eqI (r := true) rfl rfl (by decide)) ?_)
    refine TL.cons rfl (V1.t (V1.assign' (by (conv => lhs; whnf) <;> rfl)) ?_)
    refine TL.nil ?_
    refine T.cond_t rfl ?_
    refine T.seq ?_
    refine T.live (l := [(0, _), (1, _)]) (.cons (by (conv => lhs; whnf) <;> rfl) (.cons (by (conv => lhs; whnf) <;> rfl) .nil)) (fun e_ => ?_)
    refine T.region ?_
    refine TL.cons rfl (V1.t (V1.move' (by (conv => lhs; whnf) <;> rfl)) ?_)
    refine TL.cons rfl (V1.t (V1.move' (by (conv => lhs; whnf) <;> rfl)) ?_)
    refine TL.cons rfl (V1.t (V1.indexStr (c := 32) ty_9 rfl rfl (by decide) (by rfl)) ?_)
    refine TL.cons rfl (T1.call0 has_39 rfl (fun w hs => sIndexByte_any l w) (fun v_ hv => ?_))
    obtain rfl := hv
    refine TL.cons rfl (V1.t (V1.assign' (by (conv => lhs; whnf) <;> rfl)) ?_)
    refine TL.nil ?_
    refine T.ret ?_
    exact ⟨_, [], _, .cons (.tmp (by (conv => lhs; whnf) <;> rfl)) .nil, Take.nil, rfl, rfl⟩

set_option maxRecDepth 100000 in
theorem Index_any (l : List UInt8) (w : World) : Fn P 27 [.string (bstr l), .string (bstr [32])] w [] (fun v Y => Y = [] ∧ v = .int .i64 (Go.Lib.indexByte l 32)) := by
  refine Fn.of 8 [.tmp 4] Go.Proofs.Tryd.func27 rfl rfl rfl rfl ?_
  refine T.seq ?_
  refine T.region ?_
  refine TL.cons rfl (V1.t (V1.assign' (by (conv => lhs; whnf) <;> rfl)) ?_)
  refine TL.nil ?_
  refine T.seq ?_
  refine T.region ?_
  refine TL.cons rfl (V1.t (V1.move' (by (conv => lhs; whnf) <;> rfl)) ?_)
  refine TL.cons rfl (V1.t (V1.move' (by (conv => lhs; whnf) <;> rfl)) ?_)
  refine TL.cons rfl (T1.call0 has_35 rfl (fun w hs => sIndex_any l w) (fun v_ hv => ?_))
  obtain rfl := hv
  refine TL.cons rfl (V1.t (V1.assign' (by (conv => lhs; whnf) <;> rfl)) ?_)
  refine TL.nil ?_
  refine T.ret ?_
  exact ⟨_, [], _, .cons (.tmp (by (conv => lhs; whnf) <;> rfl)) .nil, Take.nil, rfl, rfl⟩

set_option maxRecDepth 100000 in
set_option maxHeartbeats 1000000 in
theorem genSplit_any (l : List UInt8) (w : World) (hl : l.length ≤ 2000000) : Fn P 16 [.string (bstr l), .string (bstr [32]), .int .i64 0, .int .i64 (-1)] w [] (fun v Y => ∃ b c, v = .slice (some ⟨b, 0, none⟩) (words l).length c ∧ Y = [⟨b, 0, (words l).map strV, (words l).length⟩]) := by
  obtain ⟨n, hn⟩ : ∃ n, n = (words l).length := ⟨_, rfl⟩
  have hnc := words_count l
  have hcl : l.count 32 ≤ l.length := List.count_le_length ..
  refine Fn.of 66 [.tmp 8] Go.Proofs.Tryd.func16 rfl rfl rfl rfl ?_
  refine T.seq ?_
  refine T.region ?_
  refine TL.cons rfl (V1.t (V1.assign' (by (conv => lhs; whnf) <;> rfl)) ?_)
  refine TL.nil ?_
  refine T.seq ?_
  refine T.seq ?_
  refine T.region ?_
  refine TL.cons rfl (V1.t (V1.move' (by (conv => lhs; whnf) <;> rfl)) ?_)
  refine TL.cons rfl (V1.t (V1.eqI (r := false) rfl rfl (by decide)) ?_)
  refine TL.nil ?_
  refine T.cond_f rfl ?_
  refine T.skip ?_
  refine T.seq ?_
  refine T.seq ?_
  refine T.region ?_
  refine TL.cons rfl (V1.t (V1.move' (by (conv => lhs; whnf) <;> rfl)) ?_)
  refine TL.cons rfl (V1.t (V1.eqS (r := false) rfl rfl (by decide)) ?_)
  refine TL.nil ?_
  refine T.cond_f rfl ?_
  refine T.skip ?_
  refine T.seq ?_
  refine T.seq ?_
  refine T.region ?_
  refine TL.cons rfl (V1.t (V1.move' (by (conv => lhs; whnf) <;> rfl)) ?_)
  refine TL.cons rfl (V1.t (V1.ltI (r := true) rfl rfl (by decide)) ?_)
  refine TL.nil ?_
  refine T.cond_t rfl ?_
  refine T.region ?_
  refine TL.cons rfl (V1.t (V1.move' (by (conv => lhs; whnf) <;> rfl)) ?_)
  refine TL.cons rfl (V1.t (V1.move' (by (conv => lhs; whnf) <;> rfl)) ?_)
  refine TL.cons rfl (T1.call0 has_26 rfl (fun w hs => Count_any l w) (fun v_ hv => ?_))
  obtain rfl := hv
  refine TL.cons rfl (V1.t (V1.add (c := ((n : Nat) : Int)) rfl rfl (by rw [wrap_i64 _ (by omega) (by omega)]; omega)) ?_)
  refine TL.cons rfl (V1.t (V1.assign' (by (conv => lhs; whnf) <;> rfl)) ?_)
  refine TL.nil ?_
  refine T.seq ?_
  refine T.region ?_
  refine TL.cons rfl (V1.t (V1.move' (by (conv => lhs; whnf) <;> rfl)) ?_)
  refine TL.cons rfl (V1.t (V1.move' (by (conv => lhs; whnf) <;> rfl)) ?_)
  refine TL.cons rfl (V1.t (V1.lenS ty_9 rfl) ?_)
  refine TL.cons rfl (V1.t (V1.add (c := ((l.length + 1 : Nat) : Int)) rfl rfl (by rw [bstr_size, wrap_i64 _ (by omega) (by omega)]; omega)) ?_)
  refine TL.cons rfl (V1.t (V1.min2 (c := ((n : Nat) : Int)) rfl rfl (by omega)) ?_)
  refine TL.cons rfl (V1.t (V1.assign' (by (conv => lhs; whnf) <;> rfl)) ?_)
  refine TL.nil ?_
  refine T.seq ?_
  refine T.live (l := [(0, _), (1, _), (2, _), (3, _)]) (.cons (by (conv => lhs; whnf) <;> rfl) (.cons (by (conv => lhs; whnf) <;> rfl) (.cons (by (conv => lhs; whnf) <;> rfl) (.cons (by (conv => lhs; whnf) <;> rfl) .nil)))) (fun e_ => ?_)
  refine T.region ?_
  refine TL.cons rfl (V1.t (V1.move' (by (conv => lhs; whnf) <;> rfl)) ?_)
  refine TL.cons rfl (T1.make1 n n ty_37 sz_9 by_9 zr_9 rfl rfl rfl (Nat.le_refl _) (by omega) (by omega) (fun b9 => ?_))
  refine TL.cons rfl (V1.t (V1.assign' (by (conv => lhs; whnf) <;> rfl)) ?_)
  refine TL.nil ?_
  refine T.seq ?_
  refine T.region ?_
  refine TL.cons rfl (V1.t (V1.move' (by (conv => lhs; whnf) <;> rfl)) ?_)
  refine TL.cons rfl (V1.t (V1.sub (c := ((n - 1 : Nat) : Int)) rfl rfl (by rw [wrap_i64 _ (by omega) (by omega)]; omega)) ?_)
  refine TL.cons rfl (V1.t (V1.assign' (by (conv => lhs; whnf) <;> rfl)) ?_)
  refine TL.nil ?_
  refine T.seq ?_
  refine T.region ?_
  refine TL.cons rfl (V1.t (V1.assign' (by (conv => lhs; whnf) <;> rfl)) ?_)
  refine TL.nil ?_
  refine T.seq ?_
  refine T.block ?_
  refine T.loopL (σ := Nat × List UInt8) (l0 := [(1, _), (2, _), (3, _), (9, _)]) (fun x => [(10, .int .i64 (x.1 : Nat)), (0, .string (bstr x.2))]) (fun x L => L = [⟨b9, 0, ((words l).take x.1).map strV ++ List.replicate (n - x.1) (Value.string ⟨#[]⟩), n⟩] ∧ words x.2 = (words l).drop x.1 ∧ x.1 < n ∧ x.2.length ≤ 2000000) (fun x => n - x.1) (0, l) (.cons rfl (.cons rfl .nil)) (.cons (by (conv => lhs; whnf) <;> rfl) (.cons (by (conv => lhs; whnf) <;> rfl) (.cons (by (conv => lhs; whnf) <;> rfl) (.cons (by (conv => lhs; whnf) <;> rfl) .nil)))) (by repeat (first | exact Take.nil | apply Take.one (by repeat (first | exact Pick.here | apply Pick.there | apply Pick.far)) | apply Take.seg (by repeat (first | exact PickS.last | exact PickS.one | exact PickS.here | exact PickS.nil | apply PickS.there | apply PickS.far)) | exact Take.last (by repeat (first | exact PickS.last | exact PickS.one | exact PickS.here | exact PickS.nil | apply PickS.there | apply PickS.far)))) (⟨(rfl : [(⟨b9, 0, List.replicate n (Value.string ⟨#[]⟩), n⟩ : Blk)] = _), rfl, by omega, hl⟩) ?_
  rintro ⟨i, rest⟩ e_ L ⟨rfl, hw, hi, hrl⟩
  simp only at hw hi hrl
  refine T.seq ?_
  refine T.seq ?_
  refine T.region ?_
  refine TL.cons rfl (V1.t (V1.move' (by (conv => lhs; whnf) <;> rfl)) ?_)
  refine TL.cons rfl (V1.t (V1.move' (by (conv => lhs; whnf) <;> rfl)) ?_)
  refine TL.cons rfl (T1.ltI_split rfl rfl (fun h11 => ?_) (fun h11 => ?_))
  ·
    try simp only at h11
    obtain ⟨u, v, ws, hd, hi0, hd1⟩ := drop_two (W := (words l)) (i := i) (by omega)
    rw [hd] at hw
    have hix := idx_words hw
    obtain ⟨rr, rfl, hwr⟩ := words_two hw
    rw [List.length_append, List.length_cons] at hrl
    have hA : (((words l).take i).length = i) := by rw [List.length_take]; omega
    refine TL.nil ?_
    refine T.cond_t rfl ?_
    refine T.skip ?_
    refine T.block ?_
    refine T.seq ?_
    refine T.region ?_
    refine TL.cons rfl (V1.t (V1.move' (by (conv => lhs; whnf) <;> rfl)) ?_)
    refine TL.cons rfl (V1.t (V1.move' (by (conv => lhs; whnf) <;> rfl)) ?_)
    refine TL.cons rfl (T1.call0 has_27 rfl (fun w hs => Index_any (u ++ 32 :: rr) w) (fun v_ hv => ?_))
    obtain rfl := hv
    rw [hix]
    refine TL.cons rfl (V1.t (V1.assign' (by (conv => lhs; whnf) <;> rfl)) ?_)
    refine TL.nil ?_
    refine T.seq ?_
    refine T.seq ?_
    refine T.region ?_
    refine TL.cons rfl (V1.t (V1.move' (by (conv => lhs; whnf) <;> rfl)) ?_)
    refine TL.cons rfl (V1.t (V1.ltI rfl rfl (decide_eq_false (by omega))) ?_)
    refine TL.nil ?_
    refine T.cond_f rfl ?_
    refine T.skip ?_
    refine T.seq ?_
    refine T.region ?_
    refine TL.cons rfl (V1.t (V1.move' (by (conv => lhs; whnf) <;> rfl)) ?_)
    refine TL.cons rfl (V1.t (V1.move' (by (conv => lhs; whnf) <;> rfl)) ?_)
    refine TL.cons rfl (V1.t (V1.move' (by (conv => lhs; whnf) <;> rfl)) ?_)
    refine TL.cons rfl (V1.t (V1.move' (by (conv => lhs; whnf) <;> rfl)) ?_)
    refine TL.cons rfl (V1.t (V1.move' (by (conv => lhs; whnf) <;> rfl)) ?_)
    refine TL.cons rfl (V1.t (V1.add (c := (u.length : Int)) rfl rfl (by rw [wrap_i64 _ (by omega) (by omega)]; omega)) ?_)
    refine TL.cons rfl (V1.t (V1.sliceB (s := u ++ 32 :: rr) 0 u.length ty_9 rfl rfl rfl (by omega) (by rw [List.length_append]; omega)) ?_)
    rw [show ((u ++ 32 :: rr).drop 0).take (u.length - 0) = u from by rw [List.drop_zero, Nat.sub_zero, List.take_left' rfl]]
    refine TL.cons rfl (V1.t (V1.indexAddrS ty_37 sz_9 rfl rfl (by omega) (by omega)) ?_)
    refine TL.cons rfl (T1.storeE (o := 0 + i * 1) (v := strV u) (cells := ((words l).take i).map strV ++ List.replicate (n - i) (Value.string ⟨#[]⟩)) (cells' := ((words l).take (i + 1)).map strV ++ List.replicate (n - (i + 1)) (Value.string ⟨#[]⟩)) rfl rfl sz_9 rfl (by rw [show 0 + i * 1 - 0 = i from by omega, fillW hA (by omega), List.take_add_one, hi0]; rfl) (by repeat (first | exact Sub.one | apply Sub.there | apply Sub.far)) (Nat.zero_le _) (by rw [List.length_append, List.length_map, List.length_replicate, hA]; omega) ?_)
    refine TL.nil ?_
    refine T.seq ?_
    refine T.live (l := [(0, _), (1, _), (2, _), (3, _), (9, _), (10, _), (11, _)]) (.cons (by (conv => lhs; whnf) <;> rfl) (.cons (by (conv => lhs; whnf) <;> rfl) (.cons (by (conv => lhs; whnf) <;> rfl) (.cons (by (conv => lhs; whnf) <;> rfl) (.cons (by (conv => lhs; whnf) <;> rfl) (.cons (by (conv => lhs; whnf) <;> rfl) (.cons (by (conv => lhs; whnf) <;> rfl) .nil))))))) (fun e_ => ?_)
    refine T.region ?_
    refine TL.cons rfl (V1.t (V1.move' (by (conv => lhs; whnf) <;> rfl)) ?_)
    refine TL.cons rfl (V1.t (V1.move' (by (conv => lhs; whnf) <;> rfl)) ?_)
    refine TL.cons rfl (V1.t (V1.move' (by (conv => lhs; whnf) <;> rfl)) ?_)
    refine TL.cons rfl (V1.t (V1.lenS ty_9 rfl) ?_)
    refine TL.cons rfl (V1.t (V1.add (c := ((u.length + 1 : Nat) : Int)) rfl rfl (by show IntKind.i64.wrap ((u.length : Int) + 1) = _; rw [wrap_i64 _ (by omega) (by omega)]; omega)) ?_)
    refine TL.cons rfl (V1.t (V1.sliceB (s := u ++ 32 :: rr) (u.length + 1) (u ++ 32 :: rr).length ty_9 rfl rfl rfl (by rw [List.length_append, List.length_cons]; omega) (Nat.le_refl _)) ?_)
    rw [show ((u ++ 32 :: rr).drop (u.length + 1)).take ((u ++ 32 :: rr).length - (u.length + 1)) = rr from by rw [show u ++ 32 :: rr = (u ++ [32]) ++ rr from by simp, List.drop_left' (by simp), List.take_of_length_le (by simp only [List.length_append, List.length_cons, List.length_nil]; omega)]]
    refine TL.cons rfl (V1.t (V1.assign' (by (conv => lhs; whnf) <;> rfl)) ?_)
    refine TL.nil ?_
    refine T.region ?_
    refine TL.cons rfl (V1.t (V1.move' (by (conv => lhs; whnf) <;> rfl)) ?_)
    refine TL.cons rfl (V1.t (V1.add rfl rfl (wrap_i64 _ (by omega) (by omega))) ?_)
    refine TL.cons rfl (V1.t (V1.assign' (by (conv => lhs; whnf) <;> rfl)) ?_)
    refine TL.nil ?_
    exact ⟨(i + 1, rr), _, _, (by simp only; omega), (.cons rfl (.cons rfl .nil)), (.cons rfl (.cons rfl (.cons rfl (.cons rfl .nil)))), (by repeat (first | exact Take.nil | apply Take.one (by repeat (first | exact Pick.here | apply Pick.there | apply Pick.far)) | apply Take.seg (by repeat (first | exact PickS.last | exact PickS.one | exact PickS.here | exact PickS.nil | apply PickS.there | apply PickS.far)) | exact Take.last (by repeat (first | exact PickS.last | exact PickS.one | exact PickS.here | exact PickS.nil | apply PickS.there | apply PickS.far)))), ⟨rfl, by simp only; rw [hwr, hd1], by simp only; omega, by simp only; omega⟩⟩
  ·
    try simp only at h11
    obtain rfl : i = n - 1 := by omega
    obtain ⟨u, hu⟩ : ∃ u, (words l)[n - 1]? = some u := ⟨_, List.getElem?_eq_getElem (by omega)⟩
    have hd : (words l).drop (n - 1) = [u] := by
      have := List.drop_eq_getElem_cons (show n - 1 < (words l).length by omega)
      rw [this, List.drop_of_length_le (by omega)]
      rw [List.getElem?_eq_getElem (by omega)] at hu
      rw [Option.some.inj hu]
    rw [hd] at hw
    obtain rfl := words_one hw
    have hA : (((words l).take (n - 1)).length = n - 1) := by rw [List.length_take]; omega
    refine TL.nil ?_
    refine T.cond_f rfl ?_
    refine T.exit ?_
    refine T.seq ?_
    refine T.region ?_
    refine TL.cons rfl (V1.t (V1.move' (by (conv => lhs; whnf) <;> rfl)) ?_)
    refine TL.cons rfl (V1.t (V1.move' (by (conv => lhs; whnf) <;> rfl)) ?_)
    refine TL.cons rfl (V1.t (V1.move' (by (conv => lhs; whnf) <;> rfl)) ?_)
    refine TL.cons rfl (V1.t (V1.indexAddrS ty_37 sz_9 rfl rfl (by omega) (by omega)) ?_)
    refine TL.cons rfl (T1.storeE (o := 0 + (n - 1) * 1) (v := strV rest) (cells := ((words l).take (n - 1)).map strV ++ List.replicate (n - (n - 1)) (Value.string ⟨#[]⟩)) (cells' := (words l).map strV) rfl rfl sz_9 rfl (by rw [show 0 + (n - 1) * 1 - 0 = n - 1 from by omega, fillW hA (by omega), show n - (n - 1 + 1) = 0 from by omega, List.replicate_zero, List.append_nil]; congr 1; rw [show (words l).take (n - 1) ++ [rest] = (words l).take (n - 1 + 1) from by rw [List.take_add_one, hu]; rfl, List.take_of_length_le (by omega)]) (by repeat (first | exact Sub.one | apply Sub.there | apply Sub.far)) (Nat.zero_le _) (by rw [List.length_append, List.length_map, List.length_replicate, hA]; omega) ?_)
    refine TL.nil ?_
    refine T.seq ?_
    refine T.region ?_
    refine TL.cons rfl (V1.t (V1.move' (by (conv => lhs; whnf) <;> rfl)) ?_)
    refine TL.cons rfl (V1.t (V1.move' (by (conv => lhs; whnf) <;> rfl)) ?_)
    refine TL.cons rfl (V1.t (V1.add (c := ((n : Nat) : Int)) rfl rfl (by rw [wrap_i64 _ (by omega) (by omega)]; omega)) ?_)
    refine TL.cons rfl (V1.t (V1.sliceTo n ty_37 sz_9 rfl rfl rfl (by omega) (by omega)) ?_)
    refine TL.cons rfl (V1.t (V1.assign' (by (conv => lhs; whnf) <;> rfl)) ?_)
    refine TL.nil ?_
    refine T.ret ?_
    exact ⟨_, [⟨b9, 0, (words l).map strV, n⟩], _, .cons (.tmp (by (conv => lhs; whnf) <;> rfl)) .nil, (by repeat (first | exact Take.nil | apply Take.one (by repeat (first | exact Pick.here | apply Pick.there | apply Pick.far)) | apply Take.seg (by repeat (first | exact PickS.last | exact PickS.one | exact PickS.here | exact PickS.nil | apply PickS.there | apply PickS.far)) | exact Take.last (by repeat (first | exact PickS.last | exact PickS.one | exact PickS.here | exact PickS.nil | apply PickS.there | apply PickS.far)))), b9, n, by rw [← hn]; rfl, by rw [← hn]⟩

set_option maxRecDepth 100000 in
theorem Split_any (l : List UInt8) (w : World) (hl : l.length ≤ 2000000) : Fn P 11 [.string (bstr l), .string (bstr [32])] w [] (fun v Y => ∃ b c, v = .slice (some ⟨b, 0, none⟩) (words l).length c ∧ Y = [⟨b, 0, (words l).map strV, (words l).length⟩]) := by
  refine Fn.of 8 [.tmp 4] Go.Proofs.Tryd.func11 rfl rfl rfl rfl ?_
  refine T.seq ?_
  refine T.region ?_
  refine TL.cons rfl (V1.t (V1.assign' (by (conv => lhs; whnf) <;> rfl)) ?_)
  refine TL.nil ?_
  refine T.seq ?_
  refine T.region ?_
  refine TL.cons rfl (V1.t (V1.move' (by (conv => lhs; whnf) <;> rfl)) ?_)
  refine TL.cons rfl (V1.t (V1.move' (by (conv => lhs; whnf) <;> rfl)) ?_)
  refine TL.cons rfl (T1.callN has_16 rfl (fun w hs => genSplit_any l w hl) (fun v_ Y_ hY => ?_))
  obtain ⟨b, c, rfl, rfl⟩ := hY
  refine TL.cons rfl (V1.t (V1.assign' (by (conv => lhs; whnf) <;> rfl)) ?_)
  refine TL.nil ?_
  refine T.ret ?_
  exact ⟨_, [⟨b, 0, (words l).map strV, (words l).length⟩], _, .cons (.tmp (by (conv => lhs; whnf) <;> rfl)) .nil, (by repeat (first | exact Take.nil | apply Take.one (by repeat (first | exact Pick.here | apply Pick.there | apply Pick.far)) | apply Take.seg (by repeat (first | exact PickS.last | exact PickS.one | exact PickS.here | exact PickS.nil | apply PickS.there | apply PickS.far)) | exact Take.last (by repeat (first | exact PickS.last | exact PickS.one | exact PickS.here | exact PickS.nil | apply PickS.there | apply PickS.far)))), b, c, rfl, rfl⟩

end Go.Proofs.YtdgbckfnamiebaaDoor.S
