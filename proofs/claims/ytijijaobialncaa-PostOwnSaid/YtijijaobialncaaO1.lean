/- A row of few numbers put in order. -/
import Derived.Test.YtijijaobialncaaOps9
import Derived.Test.YtijijaobialncaaTypes
namespace Go.Proofs.Ytijijaobialncaa.S
open Go.RowKit

theorem ib_rd {C : Ctx} {L : List Blk} {b off size k : Nat} {cs : List Value} {v : Value} (hf : Find L ⟨b, off, cs, size⟩) (h : cs[k]? = some v) : Rd C L ⟨b, off + k * 1, none⟩ v := by
  rw [Nat.mul_one]
  exact RdN.at0 hf k v h

theorem take_nat {ns : List Nat} {i n : Nat} (h : ns[i]? = some n) : ns.take (i + 1) = ns.take i ++ [n] := by rw [List.take_add_one, h]; rfl
/-! ### The sort of few -/
theorem sw_get (A B : List Nat) (y : Nat) : ((A ++ y :: B).map u32V)[A.length]? = some (u32V y) := by rw [List.getElem?_map, List.getElem?_append_right (Nat.le_refl _), Nat.sub_self]; rfl
theorem sw_get1 (A B : List Nat) (x y : Nat) : ((A ++ y :: x :: B).map u32V)[A.length + 1]? = some (u32V x) := by rw [List.getElem?_map, List.getElem?_append_right (by omega), show A.length + 1 - A.length = 1 by omega]; rfl
theorem sw_set (A B : List Nat) (x y : Nat) : ((A ++ y :: B).map u32V).set A.length (u32V x) = (A ++ x :: B).map u32V := by rw [List.map_append, List.set_append, if_neg (by simp), List.length_map, Nat.sub_self]; simp
theorem sw_set1 (A B : List Nat) (x y z : Nat) : ((A ++ y :: x :: B).map u32V).set (A.length + 1) (u32V z) = (A ++ y :: z :: B).map u32V := by rw [List.map_append, List.set_append, if_neg (by simp), List.length_map, show A.length + 1 - A.length = 1 by omega]; simp
theorem sw_in {A B : List Nat} {x : Nat} (hs : (A ++ B).Pairwise (· ≤ ·)) (hb : ∀ y ∈ B, x ≤ y) (ha : A = [] ∨ ∃ A' y, A = A' ++ [y] ∧ ¬ ((x : Nat) : Int) < ((y : Nat) : Int)) : (A ++ x :: B).Pairwise (· ≤ ·) := by
  rw [List.pairwise_append] at hs ⊢
  refine ⟨hs.1, List.pairwise_cons.2 ⟨hb, hs.2.1⟩, fun a ha' b hb' => ?_⟩
  rcases List.mem_cons.1 hb' with rfl | hb'
  · rcases ha with rfl | ⟨A', y, rfl, hxy⟩
    · cases ha'
    · rcases List.mem_append.1 ha' with h | h
      · have := (List.pairwise_append.1 hs.1).2.2 a h y (by simp); omega
      · rw [List.mem_singleton] at h; omega
  · exact hs.2.2 a ha' b hb'
theorem snoc_cases (A : List Nat) : A = [] ∨ ∃ A' y, A = A' ++ [y] := by
  rcases List.eq_nil_or_concat A with h | ⟨A', y, h⟩
  · exact .inl h
  · exact .inr ⟨A', y, by simpa using h⟩

set_option maxRecDepth 100000 in
theorem isNaN_any (a : Int) (w : World) : Fn P 76 [.int .u32 a] w [] (fun v Y => Y = [] ∧ v = .bool false) := by
  refine Fn.of 6 [.tmp 2] Go.Proofs.Try.func76 rfl rfl rfl rfl ?_
  refine T.seq ?_
  refine T.region ?_
  refine TL.cons rfl (V1.t (V1.assign' z_C) ?_)
  refine TL.nil ?_
  refine T.seq ?_
  refine T.region ?_
  refine TL.cons rfl (V1.t (V1.move' z_C) ?_)
  refine TL.cons rfl (V1.t (V1.move' z_C) ?_)
  refine TL.cons rfl (V1.t (V1.neI (r := false) rfl rfl (decide_eq_false (fun h => h rfl))) ?_)
  refine TL.cons rfl (V1.t (V1.assign' z_C) ?_)
  refine TL.nil ?_
  refine T.ret ?_
  exact ⟨_, [], _, .cons (.tmp z_C) .nil, Take.nil, rfl, rfl⟩

set_option maxRecDepth 100000 in
theorem LessI_any (a b : Int) (w : World) : Fn P 66 [.int .u32 a, .int .u32 b] w [] (fun v Y => Y = [] ∧ v = .bool (decide (a < b))) := by
  refine Fn.of 17 [.tmp 4] Go.Proofs.Try.func66 rfl rfl rfl rfl ?_
  refine T.seq ?_
  refine T.region ?_
  refine TL.cons rfl (V1.t (V1.assign' z_C) ?_)
  refine TL.nil ?_
  refine T.seq ?_
  refine T.region ?_
  refine TL.cons rfl (V1.t (V1.move' z_C) ?_)
  refine TL.cons rfl (T1.call0 has_76 rfl (fun w hs => isNaN_any a w) (fun v_ hv => ?_))
  obtain rfl := hv
  refine TL.cons rfl (V1.t (V1.move' z_C) ?_)
  refine TL.no rfl ?_
  refine TL.no rfl ?_
  refine TL.no rfl ?_
  refine TL.cons rfl (V1.t (V1.pick rfl z_C) ?_)
  refine TL.cons rfl (V1.t (V1.move' z_C) ?_)
  refine TL.cons rfl (V1.t (V1.move' z_C) ?_)
  refine TL.cons rfl (V1.t (V1.move' z_C) ?_)
  refine TL.cons rfl (V1.t (V1.ltI (r := decide (a < b)) rfl rfl rfl) ?_)
  refine TL.cons rfl (V1.t (V1.pick rfl z_C) ?_)
  refine TL.cons rfl (V1.t (V1.assign' z_C) ?_)
  refine TL.nil ?_
  refine T.ret ?_
  exact ⟨_, [], _, .cons (.tmp z_C) .nil, Take.nil, rfl, rfl⟩

set_option maxRecDepth 100000 in
set_option maxHeartbeats 8000000 in
theorem insert_us (w0 : World) (b off size cap : Nat) (n0 : Nat) (ns0 : List Nat) (hn : ns0.length ≤ 11) : FnG P 60 [.slice (some ⟨b, off, none⟩) (ns0.length + 1) cap, .int .i64 0, .int .i64 ((ns0.length + 1 : Nat) : Int)] w0 [] [⟨b, off, (n0 :: ns0).map u32V, size⟩] (fun v Y => ∃ ms : List Nat, Y = [⟨b, off, ms.map u32V, size⟩] ∧ ms.Perm (n0 :: ns0) ∧ ms.Pairwise (· ≤ ·)) := by
  refine FnG.of 49 [] Go.Proofs.Try.func60 rfl rfl rfl rfl (fun G hG => ?_)
  simp only [List.cons_append, List.nil_append]
  refine T.seq ?_
  refine T.region ?_
  refine TL.cons rfl (V1.t (V1.move' z_C) ?_)
  refine TL.cons rfl (V1.t (V1.add (c := 1) rfl rfl (by decide)) ?_)
  refine TL.cons rfl (V1.t (V1.assign' z_C) ?_)
  refine TL.nil ?_
  refine T.block ?_
  refine T.loopL (σ := List Nat × List Nat) (l0 := [(0, _), (1, _), (2, _)]) (fun x => [(6, .int .i64 ((x.1.length : Nat) : Int))]) (fun x L => L = (⟨b, off, (x.1 ++ x.2).map u32V, size⟩ : Blk) :: G ∧ (x.1 ++ x.2).Perm (n0 :: ns0) ∧ x.1.Pairwise (· ≤ ·)) (fun x => x.2.length) ([n0], ns0) (.cons rfl .nil) (.cons z_C (.cons z_C (.cons z_C .nil))) z_A (⟨rfl, List.Perm.refl _, List.pairwise_singleton ..⟩) ?_
  rintro ⟨P_, Q_⟩ e_ L ⟨rfl, hp, hs⟩
  simp only at hp hs
  have hpl := hp.length_eq
  rw [List.length_append, List.length_cons] at hpl
  dsimp only
  refine T.seq ?_
  refine T.seq ?_
  refine T.region ?_
  refine TL.cons rfl (V1.t (V1.move' z_C) ?_)
  refine TL.cons rfl (V1.t (V1.move' z_C) ?_)
  refine TL.cons rfl (T1.ltI_split rfl rfl (fun h1 => ?_) (fun h1 => ?_))
  ·
    obtain ⟨x, R, rfl⟩ : ∃ x R, Q_ = x :: R := by match Q_ with | [] => simp only [List.length_nil] at hpl; omega | x :: R => exact ⟨x, R, rfl⟩
    simp only [List.length_cons] at hpl
    refine TL.nil ?_
    refine T.cond_t rfl ?_
    refine T.skip ?_
    refine T.seq ?_
    refine T.block ?_
    refine T.seq ?_
    refine T.region ?_
    refine TL.cons rfl (V1.t (V1.move' z_C) ?_)
    refine TL.cons rfl (V1.t (V1.assign' z_C) ?_)
    refine TL.nil ?_
    refine T.block ?_
    refine T.loopL (σ := List Nat × List Nat) (l0 := [(0, _), (1, _), (2, _), (6, _)]) (fun x => [(7, .int .i64 ((x.1.length : Nat) : Int))]) (fun y L => L = (⟨b, off, (y.1 ++ x :: (y.2 ++ R)).map u32V, size⟩ : Blk) :: G ∧ (y.1 ++ x :: (y.2 ++ R)).Perm (n0 :: ns0) ∧ (y.1 ++ y.2).Pairwise (· ≤ ·) ∧ (∀ z ∈ y.2, x ≤ z) ∧ y.1.length + y.2.length = P_.length) (fun y => y.1.length) (P_, []) (.cons rfl .nil) (.cons z_C (.cons z_C (.cons z_C (.cons z_C .nil)))) z_A (⟨rfl, by simpa using hp, by simpa using hs, by simp, by simp⟩) ?_
    rintro ⟨A, B⟩ e_ L ⟨rfl, hpp, hs2, hb, hlen⟩
    simp only at hpp hs2 hb hlen
    dsimp only
    refine T.seq ?_
    refine T.seq ?_
    rcases snoc_cases A with hA0 | ⟨A_, y, hA0⟩
    rotate_left
    rcases Classical.em ((x : Int) < y) with hxy | hxy
    rotate_left 2
    ·
      subst hA0
      have hA : ([] : List Nat) = [] ∨ ∃ A' y, ([] : List Nat) = A' ++ [y] ∧ ¬ ((x : Nat) : Int) < ((y : Nat) : Int) := .inl rfl
      refine T.drawDet' mixed (by decide +kernel) ?_
      refine Det.cons 0 (ins := [(7, _)]) (.old z_C (by decide +kernel) .nil) (fun e_ => .inl ⟨rfl, V1.t (V1.move' z_C) ⟨rfl, rfl⟩⟩) ?_
      refine Det.cons 1 (ins := [(1, _)]) (.old z_C (by decide +kernel) .nil) (fun e_ => .inl ⟨rfl, V1.t (V1.move' z_C) ⟨rfl, rfl⟩⟩) ?_
      refine Det.cons 2 (ins := [(16, _), (17, _)]) (.new 0 1 (by decide +kernel) rfl rfl (.new 1 0 (by decide +kernel) rfl rfl .nil)) (fun e_ => .inl ⟨rfl, V1.t (V1.gtI (r := false) rfl rfl (decide_eq_false (by simp))) ⟨rfl, rfl⟩⟩) ?_
      refine Det.cons 3 (ins := [(18, _)]) (.new 2 0 (by decide +kernel) rfl rfl .nil) (fun e_ => .inl ⟨rfl, V1.t (V1.move' z_C) ⟨rfl, rfl⟩⟩) ?_
      refine Det.cons 4 (ins := [(19, _)]) (.new 3 0 (by decide +kernel) rfl rfl .nil) (fun e_ => .inr ⟨rfl, rfl⟩) ?_
      refine Det.cons 5 (ins := [(19, _)]) (.new 3 1 (by decide +kernel) rfl rfl .nil) (fun e_ => .inr ⟨rfl, rfl⟩) ?_
      refine Det.cons 6 (ins := [(19, _)]) (.new 3 2 (by decide +kernel) rfl rfl .nil) (fun e_ => .inr ⟨rfl, rfl⟩) ?_
      refine Det.cons 7 (ins := [(19, _)]) (.new 3 3 (by decide +kernel) rfl rfl .nil) (fun e_ => .inr ⟨rfl, rfl⟩) ?_
      refine Det.cons 8 (ins := [(19, _)]) (.new 3 4 (by decide +kernel) rfl rfl .nil) (fun e_ => .inr ⟨rfl, rfl⟩) ?_
      refine Det.cons 9 (ins := [(19, _)]) (.new 3 5 (by decide +kernel) rfl rfl .nil) (fun e_ => .inr ⟨rfl, rfl⟩) ?_
      refine Det.cons 10 (ins := [(19, _)]) (.new 3 6 (by decide +kernel) rfl rfl .nil) (fun e_ => .inr ⟨rfl, rfl⟩) ?_
      refine Det.cons 11 (ins := [(19, _)]) (.new 3 7 (by decide +kernel) rfl rfl .nil) (fun e_ => .inr ⟨rfl, rfl⟩) ?_
      refine Det.cons 12 (ins := [(19, _)]) (.new 3 8 (by decide +kernel) rfl rfl .nil) (fun e_ => .inr ⟨rfl, rfl⟩) ?_
      refine Det.cons 13 (ins := [(19, _)]) (.new 3 9 (by decide +kernel) rfl rfl .nil) (fun e_ => .inr ⟨rfl, rfl⟩) ?_
      refine Det.cons 14 (ins := [(19, _), (29, _)]) (.new 3 10 (by decide +kernel) rfl rfl (.new 13 0 (by decide +kernel) rfl rfl .nil)) (fun e_ => .inl ⟨rfl, V1.t (V1.pick rfl z_C) ⟨rfl, rfl⟩⟩) ?_
      refine Det.nil 15 (l := [(0, _), (1, _), (2, _), (6, _), (7, _), (30, _)]) (.old z_C (by decide +kernel) (.old z_C (by decide +kernel) (.old z_C (by decide +kernel) (.old z_C (by decide +kernel) (.old z_C (by decide +kernel) (.new 14 0 (by decide +kernel) rfl rfl .nil)))))) (fun e_ => ?_)
      refine T.cond_f rfl ?_
      refine T.exit ?_
      refine T.region ?_
      refine TL.cons rfl (V1.t (V1.move' z_C) ?_)
      refine TL.cons rfl (V1.t (V1.add (c := ((P_.length + 1 : Nat) : Int)) rfl rfl (by rw [wrap_i64 _ (by omega) (by omega)]; omega)) ?_)
      refine TL.cons rfl (V1.t (V1.assign' z_C) ?_)
      refine TL.nil ?_
      exact ⟨([] ++ x :: B, R), (⟨b, off, ([] ++ x :: (B ++ R)).map u32V, size⟩ : Blk) :: G, _, (by simp only [List.length_cons]; omega), (.cons (by show Value.int .i64 _ = Value.int .i64 _; congr 1; try simp only [List.length_append, List.length_cons, List.length_nil] at *; try omega) .nil), (.cons rfl (.cons rfl (.cons rfl .nil))), z_A, ⟨by simp, by simpa using hpp, sw_in (A := []) hs2 hb hA⟩⟩
    ·
      subst hA0
      simp only [List.append_assoc, List.cons_append, List.nil_append, List.length_append, List.length_singleton] at hlen hpp hs2 ⊢
      refine T.drawDet' mixed (by decide +kernel) ?_
      refine Det.cons 0 (ins := [(7, _)]) (.old z_C (by decide +kernel) .nil) (fun e_ => .inl ⟨rfl, V1.t (V1.move' z_C) ⟨rfl, rfl⟩⟩) ?_
      refine Det.cons 1 (ins := [(1, _)]) (.old z_C (by decide +kernel) .nil) (fun e_ => .inl ⟨rfl, V1.t (V1.move' z_C) ⟨rfl, rfl⟩⟩) ?_
      refine Det.cons 2 (ins := [(16, _), (17, _)]) (.new 0 1 (by decide +kernel) rfl rfl (.new 1 0 (by decide +kernel) rfl rfl .nil)) (fun e_ => .inl ⟨rfl, V1.t (V1.gtI (r := true) rfl rfl (decide_eq_true (by omega))) ⟨rfl, rfl⟩⟩) ?_
      refine Det.cons 3 (ins := [(18, _)]) (.new 2 0 (by decide +kernel) rfl rfl .nil) (fun e_ => .inl ⟨rfl, V1.t (V1.move' z_C) ⟨rfl, rfl⟩⟩) ?_
      refine Det.cons 4 (ins := [(0, _), (19, _)]) (.old z_C (by decide +kernel) (.new 3 0 (by decide +kernel) rfl rfl .nil)) (fun e_ => .inl ⟨rfl, V1.t (V1.move' z_C) ⟨rfl, rfl⟩⟩) ?_
      refine Det.cons 5 (ins := [(7, _), (19, _)]) (.old z_C (by decide +kernel) (.new 3 1 (by decide +kernel) rfl rfl .nil)) (fun e_ => .inl ⟨rfl, V1.t (V1.move' z_C) ⟨rfl, rfl⟩⟩) ?_
      refine Det.cons 6 (ins := [(19, _), (20, _), (21, _)]) (.new 3 2 (by decide +kernel) rfl rfl (.new 4 1 (by decide +kernel) rfl rfl (.new 5 0 (by decide +kernel) rfl rfl .nil))) (fun e_ => .inl ⟨rfl, V1.t (V1.indexAddrS ty_36 sz_27 rfl rfl (by omega) (by omega)) ⟨rfl, rfl⟩⟩) ?_
      refine Det.cons 7 (ins := [(19, _), (22, _)]) (.new 3 3 (by decide +kernel) rfl rfl (.new 6 0 (by decide +kernel) rfl rfl .nil)) (fun e_ => .inl ⟨rfl, V1.t (V1.load1 (v := u32V x) one_27 rfl (ib_rd (cs := (A_ ++ y :: x :: (B ++ R)).map u32V) (k := A_.length + 1) z_D (sw_get1 _ _ _ _))) ⟨rfl, rfl⟩⟩) ?_
      refine Det.cons 8 (ins := [(0, _), (19, _)]) (.old z_C (by decide +kernel) (.new 3 4 (by decide +kernel) rfl rfl .nil)) (fun e_ => .inl ⟨rfl, V1.t (V1.move' z_C) ⟨rfl, rfl⟩⟩) ?_
      refine Det.cons 9 (ins := [(7, _), (19, _)]) (.old z_C (by decide +kernel) (.new 3 5 (by decide +kernel) rfl rfl .nil)) (fun e_ => .inl ⟨rfl, V1.t (V1.move' z_C) ⟨rfl, rfl⟩⟩) ?_
      refine Det.cons 10 (ins := [(19, _), (25, _)]) (.new 3 6 (by decide +kernel) rfl rfl (.new 9 0 (by decide +kernel) rfl rfl .nil)) (fun e_ => .inl ⟨rfl, V1.t (V1.sub (c := ((A_.length : Nat) : Int)) rfl rfl (by rw [wrap_i64 _ (by omega) (by omega)]; omega)) ⟨rfl, rfl⟩⟩) ?_
      refine Det.cons 11 (ins := [(19, _), (24, _), (26, _)]) (.new 3 7 (by decide +kernel) rfl rfl (.new 8 2 (by decide +kernel) rfl rfl (.new 10 0 (by decide +kernel) rfl rfl .nil))) (fun e_ => .inl ⟨rfl, V1.t (V1.indexAddrS ty_36 sz_27 rfl rfl (by omega) (by omega)) ⟨rfl, rfl⟩⟩) ?_
      refine Det.cons 12 (ins := [(19, _), (27, _)]) (.new 3 8 (by decide +kernel) rfl rfl (.new 11 0 (by decide +kernel) rfl rfl .nil)) (fun e_ => .inl ⟨rfl, V1.t (V1.load1 (v := u32V y) one_27 rfl (ib_rd (cs := (A_ ++ y :: x :: (B ++ R)).map u32V) (k := A_.length) z_D (sw_get _ _ _))) ⟨rfl, rfl⟩⟩) ?_
      refine Det.cons 13 (ins := [(19, _), (23, _), (28, _)]) (v := .bool true) (.new 3 9 (by decide +kernel) rfl rfl (.new 7 5 (by decide +kernel) rfl rfl (.new 12 0 (by decide +kernel) rfl rfl .nil))) (fun e_ => .inl ⟨rfl, ?_⟩) ?_
      · refine T1.call0 has_66 rfl (fun w hs => LessI_any (x : Int) (y : Int) w) (fun v_ hv => ?_)
        obtain rfl := hv
        rw [decide_eq_true hxy]
        exact ⟨rfl, rfl⟩
      refine Det.cons 14 (ins := [(19, _), (29, _)]) (.new 3 10 (by decide +kernel) rfl rfl (.new 13 0 (by decide +kernel) rfl rfl .nil)) (fun e_ => .inl ⟨rfl, V1.t (V1.pick rfl z_C) ⟨rfl, rfl⟩⟩) ?_
      refine Det.nil 15 (l := [(0, _), (1, _), (2, _), (6, _), (7, _), (30, _)]) (.old z_C (by decide +kernel) (.old z_C (by decide +kernel) (.old z_C (by decide +kernel) (.old z_C (by decide +kernel) (.old z_C (by decide +kernel) (.new 14 0 (by decide +kernel) rfl rfl .nil)))))) (fun e_ => ?_)
      refine T.cond_t rfl ?_
      refine T.skip ?_
      refine T.seq ?_
      refine T.block ?_
      refine T.drawU mixed ?_
      refine TU.take 0 rfl (by decide +kernel) (by decide +kernel) (by decide +kernel) rfl (fun _ _ _ h => h) (fun _ => V1.move' z_C) ?_
      refine TU.take 1 rfl (by decide +kernel) (by decide +kernel) (by decide +kernel) rfl (fun _ _ _ h => h) (fun _ => V1.move' z_C) ?_
      refine TU.take 2 rfl (by decide +kernel) (by decide +kernel) (by decide +kernel) rfl (fun _ _ _ h => h) (fun _ => V1.move' z_C) ?_
      refine TU.take 3 rfl (by decide +kernel) (by decide +kernel) (by decide +kernel) rfl (fun _ _ _ h => h) (fun _ => V1.move' z_C) ?_
      refine TU.take 4 rfl (by decide +kernel) (by decide +kernel) (by decide +kernel) rfl (fun _ _ _ h => h) (fun _ => V1.sub (c := ((A_.length : Nat) : Int)) rfl rfl (by rw [wrap_i64 _ (by omega) (by omega)]; omega)) ?_
      refine TU.take 5 rfl (by decide +kernel) (by decide +kernel) (by decide +kernel) rfl (fun _ _ _ h => h) (fun _ => V1.move' z_C) ?_
      refine TU.take 6 rfl (by decide +kernel) (by decide +kernel) (by decide +kernel) rfl (fun _ _ _ h => h) (fun _ => V1.move' z_C) ?_
      refine TU.take 7 rfl (by decide +kernel) (by decide +kernel) (by decide +kernel) rfl (fun _ _ _ h => h) (fun _ => V1.sub (c := ((A_.length : Nat) : Int)) rfl rfl (by rw [wrap_i64 _ (by omega) (by omega)]; omega)) ?_
      refine TU.take 8 rfl (by decide +kernel) (by decide +kernel) (by decide +kernel) rfl (fun _ _ _ h => h) (fun _ => V1.indexAddrS ty_36 sz_27 rfl rfl (by omega) (by omega)) ?_
      refine TU.take 10 rfl (by decide +kernel) (by decide +kernel) (by decide +kernel) rfl (fun _ _ _ h => h) (fun _ => V1.move' z_C) ?_
      refine TU.take 11 rfl (by decide +kernel) (by decide +kernel) (by decide +kernel) rfl (fun _ _ _ h => h) (fun _ => V1.move' z_C) ?_
      refine TU.take 12 rfl (by decide +kernel) (by decide +kernel) (by decide +kernel) rfl (fun _ _ _ h => h) (fun _ => V1.indexAddrS ty_36 sz_27 rfl rfl (by omega) (by omega)) ?_
      refine TU.two 9 13 (by decide +kernel) rfl rfl rfl rfl (V1.t (V1.load1 (v := u32V y) one_27 rfl (ib_rd (cs := (A_ ++ y :: x :: (B ++ R)).map u32V) (k := A_.length) z_D (sw_get _ _ _))) ?_) (V1.t (V1.load1 (v := u32V x) one_27 rfl (ib_rd (cs := (A_ ++ y :: x :: (B ++ R)).map u32V) (k := A_.length + 1) z_D (sw_get1 _ _ _ _))) ?_)
      ·
        refine TU.one 13 (by decide +kernel) rfl rfl (V1.t (V1.load1 (v := u32V x) one_27 rfl (ib_rd (cs := (A_ ++ y :: x :: (B ++ R)).map u32V) (k := A_.length + 1) z_D (sw_get1 _ _ _ _))) ?_)
        refine TU.take 14 rfl (by decide +kernel) (by decide +kernel) (by decide +kernel) rfl (fun _ _ _ h => h) (fun _ => V1.indexAddrS ty_36 sz_27 rfl rfl (by omega) (by omega)) ?_
        refine TU.one 15 (by decide +kernel) rfl rfl (T1.storeE (o := off + (A_.length + 1) * 1) (off := off) (size := size) (cells := (A_ ++ y :: x :: (B ++ R)).map u32V) (cells' := (A_ ++ y :: y :: (B ++ R)).map u32V) (v := u32V y) rfl rfl sz_27 rfl (by rw [show off + (A_.length + 1) * 1 - off = A_.length + 1 by omega]; first | done | exact sw_set1 _ _ _ _ _) z_G (by omega) (by rw [List.length_map, List.length_append, List.length_cons, List.length_cons]; omega) ?_)
        refine TU.take 16 rfl (by decide +kernel) (by decide +kernel) (by decide +kernel) rfl (fun _ _ _ h => h) (fun _ => V1.indexAddrS ty_36 sz_27 rfl rfl (by omega) (by omega)) ?_
        refine TU.one 17 (by decide +kernel) rfl rfl (T1.storeE (o := off + A_.length * 1) (off := off) (size := size) (cells := (A_ ++ y :: y :: (B ++ R)).map u32V) (cells' := (A_ ++ x :: y :: (B ++ R)).map u32V) (v := u32V x) rfl rfl sz_27 rfl (by rw [show off + A_.length * 1 - off = A_.length by omega]; first | done | exact sw_set _ _ _ _) z_G (by omega) (by rw [List.length_map, List.length_append, List.length_cons, List.length_cons]; omega) ?_)
        refine TU.done (by decide +kernel) ?_
        refine T.live (l := [(0, _), (1, _), (2, _), (6, _), (7, _)]) (.cons z_C (.cons z_C (.cons z_C (.cons z_C (.cons z_C .nil))))) (fun e_ => ?_)
        refine T.region ?_
        refine TL.cons rfl (V1.t (V1.move' z_C) ?_)
        refine TL.cons rfl (V1.t (V1.sub (c := ((A_.length : Nat) : Int)) rfl rfl (by rw [wrap_i64 _ (by omega) (by omega)]; omega)) ?_)
        refine TL.cons rfl (V1.t (V1.assign' z_C) ?_)
        refine TL.nil ?_
        exact ⟨(A_, y :: B), (⟨b, off, (A_ ++ x :: (y :: B ++ R)).map u32V, size⟩ : Blk) :: G, _, (by simp only [List.length_append, List.length_cons, List.length_nil]; omega), (.cons (by show Value.int .i64 _ = Value.int .i64 _; congr 1; try simp only [List.length_append, List.length_cons, List.length_nil]; try omega) .nil), (.cons rfl (.cons rfl (.cons rfl (.cons rfl .nil)))), z_A, ⟨by simp, (List.Perm.trans (by simpa using List.Perm.append_left A_ (List.Perm.swap y x (B ++ R))) hpp), by simpa using hs2, by intro z hz; rcases List.mem_cons.1 hz with rfl | hz; omega; exact hb z hz, by simp only [List.length_append, List.length_cons, List.length_nil] at hlen ⊢; omega⟩⟩
      ·
        refine TU.one 9 (by decide +kernel) rfl rfl (V1.t (V1.load1 (v := u32V y) one_27 rfl (ib_rd (cs := (A_ ++ y :: x :: (B ++ R)).map u32V) (k := A_.length) z_D (sw_get _ _ _))) ?_)
        refine TU.take 14 rfl (by decide +kernel) (by decide +kernel) (by decide +kernel) rfl (fun _ _ _ h => h) (fun _ => V1.indexAddrS ty_36 sz_27 rfl rfl (by omega) (by omega)) ?_
        refine TU.one 15 (by decide +kernel) rfl rfl (T1.storeE (o := off + (A_.length + 1) * 1) (off := off) (size := size) (cells := (A_ ++ y :: x :: (B ++ R)).map u32V) (cells' := (A_ ++ y :: y :: (B ++ R)).map u32V) (v := u32V y) rfl rfl sz_27 rfl (by rw [show off + (A_.length + 1) * 1 - off = A_.length + 1 by omega]; first | done | exact sw_set1 _ _ _ _ _) z_G (by omega) (by rw [List.length_map, List.length_append, List.length_cons, List.length_cons]; omega) ?_)
        refine TU.take 16 rfl (by decide +kernel) (by decide +kernel) (by decide +kernel) rfl (fun _ _ _ h => h) (fun _ => V1.indexAddrS ty_36 sz_27 rfl rfl (by omega) (by omega)) ?_
        refine TU.one 17 (by decide +kernel) rfl rfl (T1.storeE (o := off + A_.length * 1) (off := off) (size := size) (cells := (A_ ++ y :: y :: (B ++ R)).map u32V) (cells' := (A_ ++ x :: y :: (B ++ R)).map u32V) (v := u32V x) rfl rfl sz_27 rfl (by rw [show off + A_.length * 1 - off = A_.length by omega]; first | done | exact sw_set _ _ _ _) z_G (by omega) (by rw [List.length_map, List.length_append, List.length_cons, List.length_cons]; omega) ?_)
        refine TU.done (by decide +kernel) ?_
        refine T.live (l := [(0, _), (1, _), (2, _), (6, _), (7, _)]) (.cons z_C (.cons z_C (.cons z_C (.cons z_C (.cons z_C .nil))))) (fun e_ => ?_)
        refine T.region ?_
        refine TL.cons rfl (V1.t (V1.move' z_C) ?_)
        refine TL.cons rfl (V1.t (V1.sub (c := ((A_.length : Nat) : Int)) rfl rfl (by rw [wrap_i64 _ (by omega) (by omega)]; omega)) ?_)
        refine TL.cons rfl (V1.t (V1.assign' z_C) ?_)
        refine TL.nil ?_
        exact ⟨(A_, y :: B), (⟨b, off, (A_ ++ x :: (y :: B ++ R)).map u32V, size⟩ : Blk) :: G, _, (by simp only [List.length_append, List.length_cons, List.length_nil]; omega), (.cons (by show Value.int .i64 _ = Value.int .i64 _; congr 1; try simp only [List.length_append, List.length_cons, List.length_nil]; try omega) .nil), (.cons rfl (.cons rfl (.cons rfl (.cons rfl .nil)))), z_A, ⟨by simp, (List.Perm.trans (by simpa using List.Perm.append_left A_ (List.Perm.swap y x (B ++ R))) hpp), by simpa using hs2, by intro z hz; rcases List.mem_cons.1 hz with rfl | hz; omega; exact hb z hz, by simp only [List.length_append, List.length_cons, List.length_nil] at hlen ⊢; omega⟩⟩
    ·
      have hA : A = [] ∨ ∃ A' y, A = A' ++ [y] ∧ ¬ ((x : Nat) : Int) < ((y : Nat) : Int) := .inr ⟨A_, y, hA0, hxy⟩
      subst hA0
      simp only [List.append_assoc, List.cons_append, List.nil_append, List.length_append, List.length_singleton] at hlen hpp hs2 ⊢
      refine T.drawDet' mixed (by decide +kernel) ?_
      refine Det.cons 0 (ins := [(7, _)]) (.old z_C (by decide +kernel) .nil) (fun e_ => .inl ⟨rfl, V1.t (V1.move' z_C) ⟨rfl, rfl⟩⟩) ?_
      refine Det.cons 1 (ins := [(1, _)]) (.old z_C (by decide +kernel) .nil) (fun e_ => .inl ⟨rfl, V1.t (V1.move' z_C) ⟨rfl, rfl⟩⟩) ?_
      refine Det.cons 2 (ins := [(16, _), (17, _)]) (.new 0 1 (by decide +kernel) rfl rfl (.new 1 0 (by decide +kernel) rfl rfl .nil)) (fun e_ => .inl ⟨rfl, V1.t (V1.gtI (r := true) rfl rfl (decide_eq_true (by omega))) ⟨rfl, rfl⟩⟩) ?_
      refine Det.cons 3 (ins := [(18, _)]) (.new 2 0 (by decide +kernel) rfl rfl .nil) (fun e_ => .inl ⟨rfl, V1.t (V1.move' z_C) ⟨rfl, rfl⟩⟩) ?_
      refine Det.cons 4 (ins := [(0, _), (19, _)]) (.old z_C (by decide +kernel) (.new 3 0 (by decide +kernel) rfl rfl .nil)) (fun e_ => .inl ⟨rfl, V1.t (V1.move' z_C) ⟨rfl, rfl⟩⟩) ?_
      refine Det.cons 5 (ins := [(7, _), (19, _)]) (.old z_C (by decide +kernel) (.new 3 1 (by decide +kernel) rfl rfl .nil)) (fun e_ => .inl ⟨rfl, V1.t (V1.move' z_C) ⟨rfl, rfl⟩⟩) ?_
      refine Det.cons 6 (ins := [(19, _), (20, _), (21, _)]) (.new 3 2 (by decide +kernel) rfl rfl (.new 4 1 (by decide +kernel) rfl rfl (.new 5 0 (by decide +kernel) rfl rfl .nil))) (fun e_ => .inl ⟨rfl, V1.t (V1.indexAddrS ty_36 sz_27 rfl rfl (by omega) (by omega)) ⟨rfl, rfl⟩⟩) ?_
      refine Det.cons 7 (ins := [(19, _), (22, _)]) (.new 3 3 (by decide +kernel) rfl rfl (.new 6 0 (by decide +kernel) rfl rfl .nil)) (fun e_ => .inl ⟨rfl, V1.t (V1.load1 (v := u32V x) one_27 rfl (ib_rd (cs := (A_ ++ y :: x :: (B ++ R)).map u32V) (k := A_.length + 1) z_D (sw_get1 _ _ _ _))) ⟨rfl, rfl⟩⟩) ?_
      refine Det.cons 8 (ins := [(0, _), (19, _)]) (.old z_C (by decide +kernel) (.new 3 4 (by decide +kernel) rfl rfl .nil)) (fun e_ => .inl ⟨rfl, V1.t (V1.move' z_C) ⟨rfl, rfl⟩⟩) ?_
      refine Det.cons 9 (ins := [(7, _), (19, _)]) (.old z_C (by decide +kernel) (.new 3 5 (by decide +kernel) rfl rfl .nil)) (fun e_ => .inl ⟨rfl, V1.t (V1.move' z_C) ⟨rfl, rfl⟩⟩) ?_
      refine Det.cons 10 (ins := [(19, _), (25, _)]) (.new 3 6 (by decide +kernel) rfl rfl (.new 9 0 (by decide +kernel) rfl rfl .nil)) (fun e_ => .inl ⟨rfl, V1.t (V1.sub (c := ((A_.length : Nat) : Int)) rfl rfl (by rw [wrap_i64 _ (by omega) (by omega)]; omega)) ⟨rfl, rfl⟩⟩) ?_
      refine Det.cons 11 (ins := [(19, _), (24, _), (26, _)]) (.new 3 7 (by decide +kernel) rfl rfl (.new 8 2 (by decide +kernel) rfl rfl (.new 10 0 (by decide +kernel) rfl rfl .nil))) (fun e_ => .inl ⟨rfl, V1.t (V1.indexAddrS ty_36 sz_27 rfl rfl (by omega) (by omega)) ⟨rfl, rfl⟩⟩) ?_
      refine Det.cons 12 (ins := [(19, _), (27, _)]) (.new 3 8 (by decide +kernel) rfl rfl (.new 11 0 (by decide +kernel) rfl rfl .nil)) (fun e_ => .inl ⟨rfl, V1.t (V1.load1 (v := u32V y) one_27 rfl (ib_rd (cs := (A_ ++ y :: x :: (B ++ R)).map u32V) (k := A_.length) z_D (sw_get _ _ _))) ⟨rfl, rfl⟩⟩) ?_
      refine Det.cons 13 (ins := [(19, _), (23, _), (28, _)]) (v := .bool false) (.new 3 9 (by decide +kernel) rfl rfl (.new 7 5 (by decide +kernel) rfl rfl (.new 12 0 (by decide +kernel) rfl rfl .nil))) (fun e_ => .inl ⟨rfl, ?_⟩) ?_
      · refine T1.call0 has_66 rfl (fun w hs => LessI_any (x : Int) (y : Int) w) (fun v_ hv => ?_)
        obtain rfl := hv
        rw [decide_eq_false hxy]
        exact ⟨rfl, rfl⟩
      refine Det.cons 14 (ins := [(19, _), (29, _)]) (.new 3 10 (by decide +kernel) rfl rfl (.new 13 0 (by decide +kernel) rfl rfl .nil)) (fun e_ => .inl ⟨rfl, V1.t (V1.pick rfl z_C) ⟨rfl, rfl⟩⟩) ?_
      refine Det.nil 15 (l := [(0, _), (1, _), (2, _), (6, _), (7, _), (30, _)]) (.old z_C (by decide +kernel) (.old z_C (by decide +kernel) (.old z_C (by decide +kernel) (.old z_C (by decide +kernel) (.old z_C (by decide +kernel) (.new 14 0 (by decide +kernel) rfl rfl .nil)))))) (fun e_ => ?_)
      refine T.cond_f rfl ?_
      refine T.exit ?_
      refine T.region ?_
      refine TL.cons rfl (V1.t (V1.move' z_C) ?_)
      refine TL.cons rfl (V1.t (V1.add (c := ((P_.length + 1 : Nat) : Int)) rfl rfl (by rw [wrap_i64 _ (by omega) (by omega)]; omega)) ?_)
      refine TL.cons rfl (V1.t (V1.assign' z_C) ?_)
      refine TL.nil ?_
      exact ⟨(A_ ++ y :: x :: B, R), (⟨b, off, (A_ ++ y :: x :: (B ++ R)).map u32V, size⟩ : Blk) :: G, _, (by simp only [List.length_cons]; omega), (.cons (by show Value.int .i64 _ = Value.int .i64 _; congr 1; try simp only [List.length_append, List.length_cons]; try omega) .nil), (.cons rfl (.cons rfl (.cons rfl .nil))), z_A, ⟨by simp, by simpa using hpp, by have := sw_in (A := A_ ++ [y]) (B := B) (by simpa using hs2) hb hA; simpa using this⟩⟩
  ·
    obtain rfl : Q_ = [] := by match Q_ with | [] => rfl | x :: R => simp only [List.length_cons] at hpl; omega
    rw [List.append_nil] at *
    refine TL.nil ?_
    refine T.cond_f rfl ?_
    refine T.exit ?_
    -- the end
    exact ⟨_, _ :: G, _, .nil, z_A, [_], rfl, P_, rfl, hp, hs⟩

def sLen : ByteArray := ⟨((List.range 256).map fun n => if n = 0 then 0 else UInt8.ofNat (Nat.log2 n + 1)).toArray⟩
theorem sLen_at {n : Nat} (h : n < 256) : ∃ c, sLen[((n : Nat) : Int).toNat]? = some c := by
  have hs : sLen.size = 256 := by decide +kernel
  exact ⟨_, getElem?_pos sLen _ (by rw [Int.toNat_natCast, hs]; exact h)⟩

set_option maxRecDepth 100000 in
theorem Len64_any (w0 : World) (n : Nat) (hn : n < 256) : FnV P 70 [.int .u64 (n : Nat)] w0 [] (fun v => ∃ m, v = .int .i64 m) := by
  obtain ⟨c, hc⟩ := sLen_at hn
  refine FnV.of 25 [.tmp 2] Go.Proofs.Try.func70 rfl rfl rfl rfl (fun G hG => ?_)
  refine T.seq ?_
  refine T.region ?_
  refine TL.cons rfl (V1.t (V1.assign' z_C) ?_)
  refine TL.nil ?_
  refine T.seq ?_
  refine T.seq ?_
  refine T.region ?_
  refine TL.cons rfl (V1.t (V1.move' z_C) ?_)
  refine TL.cons rfl (V1.t (V1.geI (r := false) rfl rfl (decide_eq_false (by omega))) ?_)
  refine TL.nil ?_
  refine T.cond_f rfl ?_
  refine T.skip ?_
  refine T.seq ?_
  refine T.seq ?_
  refine T.region ?_
  refine TL.cons rfl (V1.t (V1.move' z_C) ?_)
  refine TL.cons rfl (V1.t (V1.geI (r := false) rfl rfl (decide_eq_false (by omega))) ?_)
  refine TL.nil ?_
  refine T.cond_f rfl ?_
  refine T.skip ?_
  refine T.seq ?_
  refine T.seq ?_
  refine T.region ?_
  refine TL.cons rfl (V1.t (V1.move' z_C) ?_)
  refine TL.cons rfl (V1.t (V1.geI (r := false) rfl rfl (decide_eq_false (by omega))) ?_)
  refine TL.nil ?_
  refine T.cond_f rfl ?_
  refine T.skip ?_
  refine T.seq ?_
  refine T.region ?_
  refine TL.cons rfl (V1.t (V1.move' z_C) ?_)
  refine TL.cons rfl (V1.t (V1.move' z_C) ?_)
  refine TL.cons rfl (V1.t (V1.conv (c := (n : Int)) ty_141 ty_5 rfl (wrap_u8 _ (by omega) (by omega))) ?_)
  refine TL.cons rfl (V1.t (V1.indexStr (s := sLen) (c := c) ty_9 (show _ = Value.string sLen from congrArg Value.string (by decide +kernel)) rfl (by omega) hc) ?_)
  have hc8 := c.toNat_lt
  refine TL.cons rfl (V1.t (V1.conv (c := ((c.toNat : Nat) : Int)) ty_5 ty_3 rfl (wrap_i64 _ (by omega) (by omega))) ?_)
  refine TL.cons rfl (V1.t (V1.add (c := ((c.toNat : Nat) : Int)) rfl rfl (by rw [wrap_i64 _ (by omega) (by omega)]; omega)) ?_)
  refine TL.cons rfl (V1.t (V1.assign' z_C) ?_)
  refine TL.nil ?_
  refine T.ret ?_
  exact ⟨_, G, _, .cons (.tmp z_C) .nil, z_A, rfl, _, rfl⟩

set_option maxRecDepth 100000 in
theorem Len_any (w0 : World) (n : Nat) (hn : n < 256) : FnV P 59 [.int .u64 (n : Nat)] w0 [] (fun v => ∃ m, v = .int .i64 m) := by
  refine FnV.of 8 [.tmp 2] Go.Proofs.Try.func59 rfl rfl rfl rfl (fun G hG => ?_)
  refine T.seq ?_
  refine T.region ?_
  refine TL.cons rfl (V1.t (V1.assign' z_C) ?_)
  refine TL.nil ?_
  refine T.seq ?_
  refine T.cond_f rfl ?_
  refine T.skip ?_
  refine T.seq ?_
  refine T.region ?_
  refine TL.cons rfl (V1.t (V1.move' z_C) ?_)
  refine TL.cons rfl (T1.callV has_70 rfl rfl (Len64_any w0 n hn) z_E (fun v_ hv => ?_))
  obtain ⟨m, rfl⟩ := hv
  refine TL.cons rfl (V1.t (V1.assign' z_C) ?_)
  refine TL.nil ?_
  refine T.ret ?_
  exact ⟨_, G, _, .cons (.tmp z_C) .nil, z_A, rfl, _, rfl⟩

set_option maxRecDepth 100000 in
set_option maxHeartbeats 8000000 in
theorem pdqI_us (w0 : World) (b off size cap : Nat) (n0 : Nat) (ns0 : List Nat) (hn : ns0.length ≤ 11) (m : Int) : FnG P 58 [.slice (some ⟨b, off, none⟩) (ns0.length + 1) cap, .int .i64 0, .int .i64 ((ns0.length + 1 : Nat) : Int), .int .i64 m] w0 [] [⟨b, off, (n0 :: ns0).map u32V, size⟩] (fun v Y => ∃ ms : List Nat, Y = [⟨b, off, ms.map u32V, size⟩] ∧ ms.Perm (n0 :: ns0) ∧ ms.Pairwise (· ≤ ·)) := by
  refine FnG.of 134 [] Go.Proofs.Try.func58 rfl rfl rfl rfl (fun G hG => ?_)
  simp only [List.cons_append, List.nil_append]
  refine T.seq ?_
  refine T.region ?_
  refine TL.cons rfl (V1.t (V1.assign' z_C) ?_)
  refine TL.nil ?_
  refine T.seq ?_
  refine T.region ?_
  refine TL.cons rfl (V1.t (V1.assign' z_C) ?_)
  refine TL.nil ?_
  refine T.block ?_
  refine T.rounds 1 (TR.step ?_)
  refine T.block ?_
  refine T.seq ?_
  refine T.region ?_
  refine TL.cons rfl (V1.t (V1.move' z_C) ?_)
  refine TL.cons rfl (V1.t (V1.move' z_C) ?_)
  refine TL.cons rfl (V1.t (V1.sub (c := ((ns0.length + 1 : Nat) : Int)) rfl rfl (by rw [wrap_i64 _ (by omega) (by omega)]; omega)) ?_)
  refine TL.cons rfl (V1.t (V1.assign' z_C) ?_)
  refine TL.nil ?_
  refine T.seq ?_
  refine T.seq ?_
  refine T.region ?_
  refine TL.cons rfl (V1.t (V1.move' z_C) ?_)
  refine TL.cons rfl (V1.t (V1.leI (r := true) rfl rfl (decide_eq_true (by omega))) ?_)
  refine TL.nil ?_
  refine T.cond_t rfl ?_
  refine T.seq ?_
  refine T.region ?_
  refine TL.cons rfl (V1.t (V1.move' z_C) ?_)
  refine TL.cons rfl (V1.t (V1.move' z_C) ?_)
  refine TL.cons rfl (V1.t (V1.move' z_C) ?_)
  refine TL.cons rfl (T1.callM (X := [⟨b, off, (n0 :: ns0).map u32V, size⟩]) has_60 rfl rfl (insert_us w0 b off size cap n0 ns0 hn) z_A z_E (fun v Z hZ => ?_))
  obtain ⟨ms, rfl, hp, hs⟩ := hZ
  simp only [List.cons_append, List.nil_append]
  refine TL.nil ?_
  refine T.ret ?_
  exact ⟨_, _ :: G, _, .nil, z_A, [_], rfl, ms, rfl, hp, hs⟩

set_option maxRecDepth 100000 in
set_option maxHeartbeats 8000000 in
theorem SortI_us (w0 : World) (b off size cap : Nat) (n0 : Nat) (ns0 : List Nat) (hn : ns0.length ≤ 11) : FnG P 53 [.slice (some ⟨b, off, none⟩) (ns0.length + 1) cap] w0 [] [⟨b, off, (n0 :: ns0).map u32V, size⟩] (fun v Y => ∃ ms : List Nat, Y = [⟨b, off, ms.map u32V, size⟩] ∧ ms.Perm (n0 :: ns0) ∧ ms.Pairwise (· ≤ ·)) := by
  refine FnG.of 11 [] Go.Proofs.Try.func53 rfl rfl rfl rfl (fun G hG => ?_)
  simp only [List.cons_append, List.nil_append]
  refine T.seq ?_
  refine T.region ?_
  refine TL.cons rfl (V1.t (V1.move' z_C) ?_)
  refine TL.cons rfl (V1.t (V1.lenSl ty_36 rfl) ?_)
  refine TL.cons rfl (V1.t (V1.assign' z_C) ?_)
  refine TL.nil ?_
  refine T.region ?_
  refine TL.cons rfl (V1.t (V1.move' z_C) ?_)
  refine TL.cons rfl (V1.t (V1.move' z_C) ?_)
  refine TL.cons rfl (V1.t (V1.move' z_C) ?_)
  refine TL.cons rfl (V1.t (V1.conv (c := ((ns0.length + 1 : Nat) : Int)) ty_3 ty_110 rfl (wrap_u64 _ (by omega) (by omega))) ?_)
  refine TL.cons rfl (T1.callV has_59 rfl rfl (Len_any w0 (ns0.length + 1) (by omega)) z_E (fun v_ hv => ?_))
  obtain ⟨m, rfl⟩ := hv
  refine TL.cons rfl (T1.callM (X := [⟨b, off, (n0 :: ns0).map u32V, size⟩]) has_58 rfl rfl (pdqI_us w0 b off size cap n0 ns0 hn m) z_A z_E (fun v Z hZ => ?_))
  obtain ⟨ms, rfl, hp, hs⟩ := hZ
  simp only [List.cons_append, List.nil_append]
  refine TL.nil ?_
  -- the end
  exact ⟨_, _ :: G, _, .nil, z_A, [_], rfl, ms, rfl, hp, hs⟩

theorem SortI_any (w0 : World) (b off size cap : Nat) {ns : List Nat} (hn0 : 0 < ns.length) (hn : ns.length ≤ 12) : FnG P 53 [.slice (some ⟨b, off, none⟩) ns.length cap] w0 [] [⟨b, off, ns.map u32V, size⟩] (fun v Y => ∃ ms : List Nat, Y = [⟨b, off, ms.map u32V, size⟩] ∧ ms.Perm ns ∧ ms.Pairwise (· ≤ ·)) := by
  match ns, hn0 with
  | n0 :: ns0, _ => exact SortI_us w0 b off size cap n0 ns0 (by simp only [List.length_cons] at hn; omega)
end Go.Proofs.Ytijijaobialncaa.S
