/- Rows of few numbers: whether one is among them, put in order, one struck out. -/
import Derived.Test.YtfjedhmffccgnaaGreatDoorG1
import Derived.Test.YtfjedhmffccgnaaGreatDoorOpsJ
namespace Go.Proofs.YtfjedhmffccgnaaGreatDoor.S
set_option maxRecDepth 100000
open Go.RowKit
theorem ib_rd {C : Ctx} {L : List Blk} {b off size k : Nat} {cs : List Value} {v : Value} (hf : Find L ⟨b, off, cs, size⟩) (h : cs[k]? = some v) : Rd C L ⟨b, off + k * 1, none⟩ v := by
 rw [Nat.mul_one]
 exact RdN.at0 hf k v h
def inI (ns : List Nat) (w : Int) : Bool := decide (∃ n ∈ ns, (n : Int) = w)
theorem take_nat {ns : List Nat} {i n : Nat} (h : ns[i]? = some n) : ns.take (i + 1) = ns.take i ++ [n] := by rw [List.take_add_one, h]; rfl
theorem sw_get (A B : List Nat) (y : Nat) : ((A ++ y :: B).map iV)[A.length]? = some (iV y) := by rw [List.getElem?_map, List.getElem?_append_right (Nat.le_refl _), Nat.sub_self]; rfl
theorem sw_get1 (A B : List Nat) (x y : Nat) : ((A ++ y :: x :: B).map iV)[A.length + 1]? = some (iV x) := by rw [List.getElem?_map, List.getElem?_append_right zw, show A.length + 1 - A.length = 1 by omega]; rfl
theorem sw_set (A B : List Nat) (x y : Nat) : ((A ++ y :: B).map iV).set A.length (iV x) = (A ++ x :: B).map iV := by rw [List.map_append, List.set_append, if_neg (by simp), List.length_map, Nat.sub_self]; simp
theorem sw_set1 (A B : List Nat) (x y z : Nat) : ((A ++ y :: x :: B).map iV).set (A.length + 1) (iV z) = (A ++ y :: z :: B).map iV := by rw [List.map_append, List.set_append, if_neg (by simp), List.length_map, show A.length + 1 - A.length = 1 by omega]; simp
theorem sw_in {A B : List Nat} {x : Nat} (hs : (A ++ B).Pairwise (· ≤ ·)) (hb : ∀ y ∈ B, x ≤ y) (ha : A = [] ∨ ∃ A' y, A = A' ++ [y] ∧ ¬ ((x : Nat) : Int) < ((y : Nat) : Int)) : (A ++ x :: B).Pairwise (· ≤ ·) := by
 rw [List.pairwise_append] at hs ⊢
 refine ⟨hs.1, List.pairwise_cons.2 ⟨hb, hs.2.1⟩, fun a ha' b hb' => ?_⟩
 rcases List.mem_cons.1 hb' with rfl | hb'
 ·
  rcases ha with rfl | ⟨A', y, rfl, hxy⟩
  · cases ha'
  ·
   rcases List.mem_append.1 ha' with h | h
   · have := (List.pairwise_append.1 hs.1).2.2 a h y (by simp); omega
   · rw [List.mem_singleton] at h; omega
 · exact hs.2.2 a ha' b hb'
theorem snoc_cases (A : List Nat) : A = [] ∨ ∃ A' y, A = A' ++ [y] := by
 rcases List.eq_nil_or_concat A with h | ⟨A', y, h⟩
 · exact .inl h
 · exact .inr ⟨A', y, by simpa using h⟩
theorem LessI_any (a b : Int) (w : World) : Fn P 79 [.int .i64 a, .int .i64 b] w [] (fun v Y => Y = [] ∧ v = .bool (decide (a < b))) := by
 refine Fn.of 17 [.tmp 4] Go.Proofs.Tryz.func79 rfl rfl rfl rfl ?_
 refine zs ?_
 refine zc (T1.call0 has_120 rfl (fun w hs => isNaN_any a w) (fun v_ hv => ?_))
 obtain rfl := hv
 refine zs ?_
 refine TL.no rfl ?_
 refine TL.no rfl ?_
 refine TL.no rfl ?_
 refine zs ?_
 refine zq (V1.ltI (r := decide (a < b)) rfl rfl rfl) ?_
 exact ⟨_, [], _, .cons (.tmp z_C) .nil, Take.nil, rfl, rfl⟩
theorem Index_any (w0 : World) (Ps : List Blk) {ns : List Nat} {a : Option Addr} {c : Nat} (hr : RowR w0 Ps 1 (.slice a ns.length c) ns.length (ns.map iV)) (hn6 : ns.length ≤ 1000) (w : Int) : FnV P 36 [.slice a ns.length c, .int .i64 w] w0 Ps (fun v => ∃ r, v = .int .i64 r ∧ (0 ≤ r ↔ ∃ n ∈ ns, (n : Int) = w)) := by
 refine FnV.of 19 [.tmp 4] Go.Proofs.Tryz.func36 rfl rfl rfl rfl (fun G hG => ?_)
 refine zs ?_
 refine zq1 (V1.lenSl ty_25 rfl) ?_
 refine T.block (T.loopL (σ := Nat) (l0 := [(0, _), (1, _), (7, _)]) (fun x => [(8, .int .i64 (x : Nat))]) (fun i L => L = G ∧ i ≤ ns.length ∧ ∀ y ∈ ns.take i, (y : Int) ≠ w) (fun i => ns.length - i) 0 (.cons rfl .nil) zT z_B (⟨rfl, Nat.zero_le _, by simp⟩) ?_)
 rintro i e_ L ⟨hL, hi, ho⟩
 obtain rfl := hL.symm
 refine zs ?_
 refine zc (T1.ltI_split rfl rfl (fun h2 => ?_) (fun h2 => ?_))
 ·
  obtain ⟨n, hx0⟩ : ∃ n, ns[i]? = some n := ⟨_, List.getElem?_eq_getElem zw⟩
  obtain ⟨b, o, rfl, hrd⟩ := hr.at zw P
  refine zs ?_
  refine T.cond_t rfl (zs ?_)
  refine z0 (V1.indexAddrS ty_25 sz_3 rfl rfl zw zw) ?_
  refine zc (V1.t (V1.load1 (v := iV n) one_3 rfl (show Rd _ _ ⟨_, _ + i * 1, none⟩ _ from by rw [Nat.mul_one]; exact hrd _ rfl rfl _ z_D i _ (by rw [List.getElem?_map, hx0]; rfl))) ?_)
  refine zc (T1.eqI_split rfl rfl (fun h4 => ?_) (fun h4 => ?_))
  ·
   refine TL.nil ?_
   refine T.cond_t rfl (zs ?_)
   exact ⟨_, G, _, .cons (.tmp z_C) .nil, z_B, rfl, _, rfl, ⟨fun _ => ⟨n, List.mem_of_getElem? hx0, h4.symm⟩, fun _ => by omega⟩⟩
  ·
   refine TL.nil ?_
   refine T.cond_f rfl (zs ?_)
   refine zq1 (V1.add (c := ((i + 1 : Nat) : Int)) rfl rfl z_J) ?_
   exact ⟨i + 1, G, _, z_N, (.cons rfl .nil), (.cons rfl (.cons rfl (.cons rfl .nil))), z_B, ⟨rfl, by omega, by rw [take_nat hx0]; intro y hy; rcases List.mem_append.1 hy with hy | hy; exact ho y hy; rw [List.mem_singleton] at hy; subst hy; exact Ne.symm h4⟩⟩
 ·
  obtain rfl : i = ns.length := by omega
  rw [List.take_length] at ho
  refine zs ?_
  refine T.cond_f rfl (zs ?_)
  exact ⟨_, G, _, .cons (.tmp z_C) .nil, z_B, rfl, _, rfl, ⟨fun h => by omega, fun ⟨y, hy, e⟩ => absurd e (ho y hy)⟩⟩
theorem Contains_us (w0 : World) (Ps : List Blk) {ns : List Nat} {a : Option Addr} {c : Nat} (hr : RowR w0 Ps 1 (.slice a ns.length c) ns.length (ns.map iV)) (hn6 : ns.length ≤ 1000) (w : Int) : FnV P 13 [.slice a ns.length c, .int .i64 w] w0 Ps (fun v => v = .bool (inI ns w)) := by
 refine FnV.of 9 [.tmp 4] Go.Proofs.Tryz.func13 rfl rfl rfl rfl (fun G hG => ?_)
 refine zs ?_
 refine zc (T1.callV has_36 rfl rfl (Index_any w0 Ps hr hn6 w) z_D (fun v_ hv => ?_))
 obtain ⟨r, rfl, hr_⟩ := hv
 refine zq (V1.geI (r := decide (r ≥ 0)) rfl rfl rfl) ?_
 exact ⟨_, G, _, .cons (.tmp z_C) .nil, z_B, rfl, congrArg Value.bool (by unfold inI; exact decide_eq_decide.2 hr_)⟩
theorem Contains_any (w0 : World) (Ps : List Blk) {ns : List Nat} {s : Value} (hr : RowR w0 Ps 1 s ns.length (ns.map iV)) (hn6 : ns.length ≤ 1000) (w : Int) : FnV P 13 [s, .int .i64 w] w0 Ps (fun v => v = .bool (inI ns w)) := by
 obtain ⟨a, c, rfl⟩ := hr.form
 exact Contains_us w0 Ps hr hn6 w
theorem SlG.none1 {E : TypeId} (b : Nat) : SlG (some E) (.slice (some ⟨b, 0, none⟩) 0 0) [] 1 [⟨⟨b, some E⟩, 0, [], 0⟩] := .inr ⟨b, 0, 0, 0, 0, rfl, rfl, Nat.le_refl _, Nat.le_refl _, rfl⟩
theorem CloneI_us (w0 : World) (Ps : List Blk) {ns : List Nat} {a : Addr} {c : Nat} (hr : RowR w0 Ps 1 (.slice (some a) ns.length c) ns.length (ns.map iV)) (hn6 : ns.length ≤ 1000) : FnG P 42 [.slice (some a) ns.length c] w0 Ps [] (fun v Y => SlG (some 3) v (ns.map iV) 1 Y) := by
 refine FnG.of 8 [.tmp 2] Go.Proofs.Tryz.func42 rfl rfl rfl rfl (fun G hG => ?_)
 refine zs ?_
 refine z0 (V1.eqSlNil ty_25 rfl rfl) ?_
 refine TL.nil ?_
 refine T.cond_f rfl (zs ?_)
 refine zc (T1.buildNone ty_25 sz_3 zr_3 (fun b5 => zs ?_))
 refine zc (T1.appendG ty_25 kd_25 sz_3 by_3 zr_3 rfl ze ze rfl rfl (.inr rfl) (SlG.none1 b5) (hr.src _ rfl rfl _ z_D) (by intro u hu; obtain ⟨q, _, rfl⟩ := List.mem_map.1 hu; rfl) 1000 (by rw [List.length_map]; simp only [List.length_nil]; omega) ze z_E (fun s1 Ls1 hsl1 => ?_))
 rw [List.nil_append] at hsl1
 refine zs ?_
 exact ⟨_, Ls1 ++ G, _, .cons (.tmp z_C) .nil, z_B, Ls1, rfl, hsl1⟩
theorem CloneI_any (w0 : World) (Ps : List Blk) {ns : List Nat} {s : Value} (hr : RowR w0 Ps 1 s ns.length (ns.map iV)) (hn0 : 0 < ns.length) (hn6 : ns.length ≤ 1000) : FnG P 42 [s] w0 Ps [] (fun v Y => SlG (some 3) v (ns.map iV) 1 Y) := by
 obtain ⟨a, c, rfl⟩ := hr.form
 obtain ⟨b, o, rfl, _⟩ := hr.at hn0 P
 exact CloneI_us w0 Ps hr hn6
set_option maxHeartbeats 8000000 in
theorem insert_us (w0 : World) (b off size cap : Nat) (n0 : Nat) (ns0 : List Nat) (hn : ns0.length ≤ 11) : FnG P 73 [.slice (some ⟨b, off, none⟩) (ns0.length + 1) cap, .int .i64 0, .int .i64 ((ns0.length + 1 : Nat) : Int)] w0 [] [⟨b, off, (n0 :: ns0).map iV, size⟩] (fun v Y => ∃ ms : List Nat, Y = [⟨b, off, ms.map iV, size⟩] ∧ ms.Perm (n0 :: ns0) ∧ ms.Pairwise (· ≤ ·)) := by
 refine FnG.of 49 [] Go.Proofs.Tryz.func73 rfl rfl rfl rfl (fun G hG => ?_)
 simp only [List.cons_append, List.nil_append]
 refine zs ?_
 refine zq1 (V1.add (c := 1) rfl rfl ze) ?_
 refine T.block (T.loopL (σ := List Nat × List Nat) (l0 := [(0, _), (1, _), (2, _)]) (fun x => [(6, .int .i64 ((x.1.length : Nat) : Int))]) (fun x L => L = (⟨b, off, (x.1 ++ x.2).map iV, size⟩ : Blk) :: G ∧ (x.1 ++ x.2).Perm (n0 :: ns0) ∧ x.1.Pairwise (· ≤ ·)) (fun x => x.2.length) ([n0], ns0) (.cons rfl .nil) zT z_B (⟨rfl, List.Perm.refl _, List.pairwise_singleton ..⟩) ?_)
 rintro ⟨P_, Q_⟩ e_ L ⟨rfl, hp, hs⟩
 simp only at hp hs
 have hpl := hp.length_eq
 rw [List.length_append, List.length_cons] at hpl
 dsimp only
 refine zs ?_
 refine zc (T1.ltI_split rfl rfl (fun h1 => ?_) (fun h1 => ?_))
 ·
  obtain ⟨x, R, rfl⟩ : ∃ x R, Q_ = x :: R := by match Q_ with | [] => simp only [List.length_nil] at hpl; omega | x :: R => exact ⟨x, R, rfl⟩
  simp only [List.length_cons] at hpl
  refine TL.nil ?_
  refine T.cond_t rfl (T.skip (T.seq (T.block (T.seq (T.region (z1 ?_))))))
  refine T.block (T.loopL (σ := List Nat × List Nat) (l0 := [(0, _), (1, _), (2, _), (6, _)]) (fun x => [(7, .int .i64 ((x.1.length : Nat) : Int))]) (fun y L => L = (⟨b, off, (y.1 ++ x :: (y.2 ++ R)).map iV, size⟩ : Blk) :: G ∧ (y.1 ++ x :: (y.2 ++ R)).Perm (n0 :: ns0) ∧ (y.1 ++ y.2).Pairwise (· ≤ ·) ∧ (∀ z ∈ y.2, x ≤ z) ∧ y.1.length + y.2.length = P_.length) (fun y => y.1.length) (P_, []) (.cons rfl .nil) zT z_B (⟨rfl, by simpa using hp, by simpa using hs, by simp, by simp⟩) ?_)
  rintro ⟨A, B⟩ e_ L ⟨rfl, hpp, hs2, hb, hlen⟩
  simp only at hpp hs2 hb hlen
  dsimp only
  refine T.seq (T.seq ?_)
  rcases snoc_cases A with hA0 | ⟨A_, y, hA0⟩
  rotate_left
  rcases Classical.em ((x : Int) < y) with hxy | hxy
  rotate_left 2
  ·
   subst hA0
   have hA : ([] : List Nat) = [] ∨ ∃ A' y, ([] : List Nat) = A' ++ [y] ∧ ¬ ((x : Nat) : Int) < ((y : Nat) : Int) := .inl rfl
   refine T.drawDet' mixed z_F ?_
   refine zd 0 (zO 7 zZ) (V1.move' z_C) ?_
   refine zd 1 (zO 1 zZ) (V1.move' z_C) ?_
   refine Det.cons 2 (zN 16 0 rfl (zN 17 1 rfl zZ)) (fun e_ => .inl ⟨rfl, V1.t (V1.gtI (r := false) rfl rfl (decide_eq_false (by simp))) ⟨rfl, rfl⟩⟩) ?_
   refine zd 3 (zN 18 2 rfl zZ) (V1.move' z_C) ?_
   refine Det.cons 4 (zN 19 3 rfl zZ) (fun e_ => .inr ⟨rfl, rfl⟩) ?_
   refine Det.cons 5 (zN 19 3 rfl zZ) (fun e_ => .inr ⟨rfl, rfl⟩) ?_
   refine Det.cons 6 (zN 19 3 rfl zZ) (fun e_ => .inr ⟨rfl, rfl⟩) ?_
   refine Det.cons 7 (zN 19 3 rfl zZ) (fun e_ => .inr ⟨rfl, rfl⟩) ?_
   refine Det.cons 8 (zN 19 3 rfl zZ) (fun e_ => .inr ⟨rfl, rfl⟩) ?_
   refine Det.cons 9 (zN 19 3 rfl zZ) (fun e_ => .inr ⟨rfl, rfl⟩) ?_
   refine Det.cons 10 (zN 19 3 rfl zZ) (fun e_ => .inr ⟨rfl, rfl⟩) ?_
   refine Det.cons 11 (zN 19 3 rfl zZ) (fun e_ => .inr ⟨rfl, rfl⟩) ?_
   refine Det.cons 12 (zN 19 3 rfl zZ) (fun e_ => .inr ⟨rfl, rfl⟩) ?_
   refine Det.cons 13 (zN 19 3 rfl zZ) (fun e_ => .inr ⟨rfl, rfl⟩) ?_
   refine zd 14 (zN 19 3 rfl (zN 29 13 rfl zZ)) (V1.pick rfl z_C) ?_
   refine Det.nil 15 (zQ 0 (zQ 1 (zQ 2 (zQ 6 (zQ 7 (zR 30 14 rfl zW)))))) (fun e_ => ?_)
   refine T.cond_f rfl (zs ?_)
   refine zq1 (V1.add (c := ((P_.length + 1 : Nat) : Int)) rfl rfl z_J) ?_
   exact ⟨([] ++ x :: B, R), (⟨b, off, ([] ++ x :: (B ++ R)).map iV, size⟩ : Blk) :: G, _, (by simp only [List.length_cons]; omega), (.cons (by show Value.int .i64 _ = Value.int .i64 _; congr 1; try simp only [List.length_append, List.length_cons, List.length_nil] at *; try omega) .nil), (.cons rfl (.cons rfl (.cons rfl .nil))), z_B, ⟨by simp, by simpa using hpp, sw_in (A := []) hs2 hb hA⟩⟩
  ·
   subst hA0
   simp only [List.append_assoc, List.cons_append, List.nil_append, List.length_append, List.length_singleton] at hlen hpp hs2 ⊢
   refine T.drawDet' mixed z_F ?_
   refine zd 0 (zO 7 zZ) (V1.move' z_C) ?_
   refine zd 1 (zO 1 zZ) (V1.move' z_C) ?_
   refine Det.cons 2 (zN 16 0 rfl (zN 17 1 rfl zZ)) (fun e_ => .inl ⟨rfl, V1.t (V1.gtI (r := true) rfl rfl (decide_eq_true zw)) ⟨rfl, rfl⟩⟩) ?_
   refine zd 3 (zN 18 2 rfl zZ) (V1.move' z_C) ?_
   refine zd 4 (zO 0 (zN 19 3 rfl zZ)) (V1.move' z_C) ?_
   refine zd 5 (zO 7 (zN 19 3 rfl zZ)) (V1.move' z_C) ?_
   refine zd 6 (zN 19 3 rfl (zN 20 4 rfl (zN 21 5 rfl zZ))) (V1.indexAddrS ty_25 sz_3 rfl rfl zw zw) ?_
   refine Det.cons 7 (zN 19 3 rfl (zN 22 6 rfl zZ)) (fun e_ => .inl ⟨rfl, V1.t (V1.load1 (v := iV x) one_3 rfl (ib_rd (cs := (A_ ++ y :: x :: (B ++ R)).map iV) (k := A_.length + 1) z_A (sw_get1 _ _ _ _))) ⟨rfl, rfl⟩⟩) ?_
   refine zd 8 (zO 0 (zN 19 3 rfl zZ)) (V1.move' z_C) ?_
   refine zd 9 (zO 7 (zN 19 3 rfl zZ)) (V1.move' z_C) ?_
   refine zd 10 (zN 19 3 rfl (zN 25 9 rfl zZ)) (V1.sub (c := ((A_.length : Nat) : Int)) rfl rfl z_J) ?_
   refine zd 11 (zN 19 3 rfl (zN 24 8 rfl (zN 26 10 rfl zZ))) (V1.indexAddrS ty_25 sz_3 rfl rfl zw zw) ?_
   refine Det.cons 12 (zN 19 3 rfl (zN 27 11 rfl zZ)) (fun e_ => .inl ⟨rfl, V1.t (V1.load1 (v := iV y) one_3 rfl (ib_rd (cs := (A_ ++ y :: x :: (B ++ R)).map iV) (k := A_.length) z_A (sw_get _ _ _))) ⟨rfl, rfl⟩⟩) ?_
   refine Det.cons 13 (v := .bool true) (zN 19 3 rfl (zN 23 7 rfl (zN 28 12 rfl zZ))) (fun e_ => .inl ⟨rfl, ?_⟩) ?_
   ·
    refine T1.call0 has_79 rfl (fun w hs => LessI_any (x : Int) (y : Int) w) (fun v_ hv => ?_)
    obtain rfl := hv
    rw [decide_eq_true hxy]
    exact ⟨rfl, rfl⟩
   refine zd 14 (zN 19 3 rfl (zN 29 13 rfl zZ)) (V1.pick rfl z_C) ?_
   refine Det.nil 15 (zQ 0 (zQ 1 (zQ 2 (zQ 6 (zQ 7 (zR 30 14 rfl zW)))))) (fun e_ => ?_)
   refine T.cond_t rfl (T.skip (T.seq (T.block (T.drawU mixed ?_))))
   refine TU.take 0 rfl z_F z_F z_F rfl (fun _ _ _ h => h) (fun _ => V1.move' z_C) ?_
   refine TU.take 1 rfl z_F z_F z_F rfl (fun _ _ _ h => h) (fun _ => V1.move' z_C) ?_
   refine TU.take 2 rfl z_F z_F z_F rfl (fun _ _ _ h => h) (fun _ => V1.move' z_C) ?_
   refine TU.take 3 rfl z_F z_F z_F rfl (fun _ _ _ h => h) (fun _ => V1.move' z_C) ?_
   refine TU.take 4 rfl z_F z_F z_F rfl (fun _ _ _ h => h) (fun _ => V1.sub (c := ((A_.length : Nat) : Int)) rfl rfl z_J) ?_
   refine TU.take 5 rfl z_F z_F z_F rfl (fun _ _ _ h => h) (fun _ => V1.move' z_C) ?_
   refine TU.take 6 rfl z_F z_F z_F rfl (fun _ _ _ h => h) (fun _ => V1.move' z_C) ?_
   refine TU.take 7 rfl z_F z_F z_F rfl (fun _ _ _ h => h) (fun _ => V1.sub (c := ((A_.length : Nat) : Int)) rfl rfl z_J) ?_
   refine TU.take 8 rfl z_F z_F z_F rfl (fun _ _ _ h => h) (fun _ => V1.indexAddrS ty_25 sz_3 rfl rfl zw zw) ?_
   refine TU.take 10 rfl z_F z_F z_F rfl (fun _ _ _ h => h) (fun _ => V1.move' z_C) ?_
   refine TU.take 11 rfl z_F z_F z_F rfl (fun _ _ _ h => h) (fun _ => V1.move' z_C) ?_
   refine TU.take 12 rfl z_F z_F z_F rfl (fun _ _ _ h => h) (fun _ => V1.indexAddrS ty_25 sz_3 rfl rfl zw zw) ?_
   refine TU.two 9 13 z_F rfl rfl rfl rfl (V1.t (V1.load1 (v := iV y) one_3 rfl (ib_rd (cs := (A_ ++ y :: x :: (B ++ R)).map iV) (k := A_.length) z_A (sw_get _ _ _))) ?_) (V1.t (V1.load1 (v := iV x) one_3 rfl (ib_rd (cs := (A_ ++ y :: x :: (B ++ R)).map iV) (k := A_.length + 1) z_A (sw_get1 _ _ _ _))) ?_)
   ·
    refine TU.one 13 z_F rfl rfl (V1.t (V1.load1 (v := iV x) one_3 rfl (ib_rd (cs := (A_ ++ y :: x :: (B ++ R)).map iV) (k := A_.length + 1) z_A (sw_get1 _ _ _ _))) ?_)
    refine TU.take 14 rfl z_F z_F z_F rfl (fun _ _ _ h => h) (fun _ => V1.indexAddrS ty_25 sz_3 rfl rfl zw zw) ?_
    refine TU.one 15 z_F rfl rfl (T1.storeE (o := off + (A_.length + 1) * 1) (off := off) (size := size) (cells := (A_ ++ y :: x :: (B ++ R)).map iV) (cells' := (A_ ++ y :: y :: (B ++ R)).map iV) (v := iV y) rfl rfl sz_3 rfl (by rw [show off + (A_.length + 1) * 1 - off = A_.length + 1 by omega]; first | done | exact sw_set1 _ _ _ _ _) z_H zw (by rw [List.length_map, List.length_append, List.length_cons, List.length_cons]; omega) ?_)
    refine TU.take 16 rfl z_F z_F z_F rfl (fun _ _ _ h => h) (fun _ => V1.indexAddrS ty_25 sz_3 rfl rfl zw zw) ?_
    refine TU.one 17 z_F rfl rfl (T1.storeE (o := off + A_.length * 1) (off := off) (size := size) (cells := (A_ ++ y :: y :: (B ++ R)).map iV) (cells' := (A_ ++ x :: y :: (B ++ R)).map iV) (v := iV x) rfl rfl sz_3 rfl (by rw [show off + A_.length * 1 - off = A_.length by omega]; first | done | exact sw_set _ _ _ _) z_H zw (by rw [List.length_map, List.length_append, List.length_cons, List.length_cons]; omega) ?_)
    refine TU.done z_F ?_
    refine T.live (l := [(0, _), (1, _), (2, _), (6, _), (7, _)]) zT (fun e_ => ?_)
    refine zs ?_
    refine zq1 (V1.sub (c := ((A_.length : Nat) : Int)) rfl rfl z_J) ?_
    exact ⟨(A_, y :: B), (⟨b, off, (A_ ++ x :: (y :: B ++ R)).map iV, size⟩ : Blk) :: G, _, z_P, (.cons (by show Value.int .i64 _ = Value.int .i64 _; congr 1; try simp only [List.length_append, List.length_cons, List.length_nil]; try omega) .nil), (.cons rfl (.cons rfl (.cons rfl (.cons rfl .nil)))), z_B, ⟨by simp, (List.Perm.trans (by simpa using List.Perm.append_left A_ (List.Perm.swap y x (B ++ R))) hpp), by simpa using hs2, by intro z hz; rcases List.mem_cons.1 hz with rfl | hz; omega; exact hb z hz, by simp only [List.length_append, List.length_cons, List.length_nil] at hlen ⊢; omega⟩⟩
   ·
    refine TU.one 9 z_F rfl rfl (V1.t (V1.load1 (v := iV y) one_3 rfl (ib_rd (cs := (A_ ++ y :: x :: (B ++ R)).map iV) (k := A_.length) z_A (sw_get _ _ _))) ?_)
    refine TU.take 14 rfl z_F z_F z_F rfl (fun _ _ _ h => h) (fun _ => V1.indexAddrS ty_25 sz_3 rfl rfl zw zw) ?_
    refine TU.one 15 z_F rfl rfl (T1.storeE (o := off + (A_.length + 1) * 1) (off := off) (size := size) (cells := (A_ ++ y :: x :: (B ++ R)).map iV) (cells' := (A_ ++ y :: y :: (B ++ R)).map iV) (v := iV y) rfl rfl sz_3 rfl (by rw [show off + (A_.length + 1) * 1 - off = A_.length + 1 by omega]; first | done | exact sw_set1 _ _ _ _ _) z_H zw (by rw [List.length_map, List.length_append, List.length_cons, List.length_cons]; omega) ?_)
    refine TU.take 16 rfl z_F z_F z_F rfl (fun _ _ _ h => h) (fun _ => V1.indexAddrS ty_25 sz_3 rfl rfl zw zw) ?_
    refine TU.one 17 z_F rfl rfl (T1.storeE (o := off + A_.length * 1) (off := off) (size := size) (cells := (A_ ++ y :: y :: (B ++ R)).map iV) (cells' := (A_ ++ x :: y :: (B ++ R)).map iV) (v := iV x) rfl rfl sz_3 rfl (by rw [show off + A_.length * 1 - off = A_.length by omega]; first | done | exact sw_set _ _ _ _) z_H zw (by rw [List.length_map, List.length_append, List.length_cons, List.length_cons]; omega) ?_)
    refine TU.done z_F ?_
    refine T.live (l := [(0, _), (1, _), (2, _), (6, _), (7, _)]) zT (fun e_ => ?_)
    refine zs ?_
    refine zq1 (V1.sub (c := ((A_.length : Nat) : Int)) rfl rfl z_J) ?_
    exact ⟨(A_, y :: B), (⟨b, off, (A_ ++ x :: (y :: B ++ R)).map iV, size⟩ : Blk) :: G, _, z_P, (.cons (by show Value.int .i64 _ = Value.int .i64 _; congr 1; try simp only [List.length_append, List.length_cons, List.length_nil]; try omega) .nil), (.cons rfl (.cons rfl (.cons rfl (.cons rfl .nil)))), z_B, ⟨by simp, (List.Perm.trans (by simpa using List.Perm.append_left A_ (List.Perm.swap y x (B ++ R))) hpp), by simpa using hs2, by intro z hz; rcases List.mem_cons.1 hz with rfl | hz; omega; exact hb z hz, by simp only [List.length_append, List.length_cons, List.length_nil] at hlen ⊢; omega⟩⟩
  ·
   have hA : A = [] ∨ ∃ A' y, A = A' ++ [y] ∧ ¬ ((x : Nat) : Int) < ((y : Nat) : Int) := .inr ⟨A_, y, hA0, hxy⟩
   subst hA0
   simp only [List.append_assoc, List.cons_append, List.nil_append, List.length_append, List.length_singleton] at hlen hpp hs2 ⊢
   refine T.drawDet' mixed z_F ?_
   refine zd 0 (zO 7 zZ) (V1.move' z_C) ?_
   refine zd 1 (zO 1 zZ) (V1.move' z_C) ?_
   refine Det.cons 2 (zN 16 0 rfl (zN 17 1 rfl zZ)) (fun e_ => .inl ⟨rfl, V1.t (V1.gtI (r := true) rfl rfl (decide_eq_true zw)) ⟨rfl, rfl⟩⟩) ?_
   refine zd 3 (zN 18 2 rfl zZ) (V1.move' z_C) ?_
   refine zd 4 (zO 0 (zN 19 3 rfl zZ)) (V1.move' z_C) ?_
   refine zd 5 (zO 7 (zN 19 3 rfl zZ)) (V1.move' z_C) ?_
   refine zd 6 (zN 19 3 rfl (zN 20 4 rfl (zN 21 5 rfl zZ))) (V1.indexAddrS ty_25 sz_3 rfl rfl zw zw) ?_
   refine Det.cons 7 (zN 19 3 rfl (zN 22 6 rfl zZ)) (fun e_ => .inl ⟨rfl, V1.t (V1.load1 (v := iV x) one_3 rfl (ib_rd (cs := (A_ ++ y :: x :: (B ++ R)).map iV) (k := A_.length + 1) z_A (sw_get1 _ _ _ _))) ⟨rfl, rfl⟩⟩) ?_
   refine zd 8 (zO 0 (zN 19 3 rfl zZ)) (V1.move' z_C) ?_
   refine zd 9 (zO 7 (zN 19 3 rfl zZ)) (V1.move' z_C) ?_
   refine zd 10 (zN 19 3 rfl (zN 25 9 rfl zZ)) (V1.sub (c := ((A_.length : Nat) : Int)) rfl rfl z_J) ?_
   refine zd 11 (zN 19 3 rfl (zN 24 8 rfl (zN 26 10 rfl zZ))) (V1.indexAddrS ty_25 sz_3 rfl rfl zw zw) ?_
   refine Det.cons 12 (zN 19 3 rfl (zN 27 11 rfl zZ)) (fun e_ => .inl ⟨rfl, V1.t (V1.load1 (v := iV y) one_3 rfl (ib_rd (cs := (A_ ++ y :: x :: (B ++ R)).map iV) (k := A_.length) z_A (sw_get _ _ _))) ⟨rfl, rfl⟩⟩) ?_
   refine Det.cons 13 (v := .bool false) (zN 19 3 rfl (zN 23 7 rfl (zN 28 12 rfl zZ))) (fun e_ => .inl ⟨rfl, ?_⟩) ?_
   ·
    refine T1.call0 has_79 rfl (fun w hs => LessI_any (x : Int) (y : Int) w) (fun v_ hv => ?_)
    obtain rfl := hv
    rw [decide_eq_false hxy]
    exact ⟨rfl, rfl⟩
   refine zd 14 (zN 19 3 rfl (zN 29 13 rfl zZ)) (V1.pick rfl z_C) ?_
   refine Det.nil 15 (zQ 0 (zQ 1 (zQ 2 (zQ 6 (zQ 7 (zR 30 14 rfl zW)))))) (fun e_ => ?_)
   refine T.cond_f rfl (zs ?_)
   refine zq1 (V1.add (c := ((P_.length + 1 : Nat) : Int)) rfl rfl z_J) ?_
   exact ⟨(A_ ++ y :: x :: B, R), (⟨b, off, (A_ ++ y :: x :: (B ++ R)).map iV, size⟩ : Blk) :: G, _, (by simp only [List.length_cons]; omega), (.cons (by show Value.int .i64 _ = Value.int .i64 _; congr 1; try simp only [List.length_append, List.length_cons]; try omega) .nil), (.cons rfl (.cons rfl (.cons rfl .nil))), z_B, ⟨by simp, by simpa using hpp, by have := sw_in (A := A_ ++ [y]) (B := B) (by simpa using hs2) hb hA; simpa using this⟩⟩
 ·
  obtain rfl : Q_ = [] := by match Q_ with | [] => rfl | x :: R => simp only [List.length_cons] at hpl; omega
  rw [List.append_nil] at *
  refine TL.nil ?_
  refine T.cond_f rfl (T.exit ?_)
  exact ⟨_, _ :: G, _, .nil, z_B, [_], rfl, P_, rfl, hp, hs⟩
end Go.Proofs.YtfjedhmffccgnaaGreatDoor.S
namespace Go.Proofs.YtfjedhmffccgnaaGreatDoor.S
set_option maxRecDepth 100000
set_option maxHeartbeats 8000000
open Go.RowKit
def sLen : ByteArray := ⟨((List.range 256).map fun n => if n = 0 then 0 else UInt8.ofNat (Nat.log2 n + 1)).toArray⟩
theorem sLen_at {n : Nat} (h : n < 256) : ∃ c, sLen[((n : Nat) : Int).toNat]? = some c := by
 have hs : sLen.size = 256 := by decide +kernel
 exact ⟨_, getElem?_pos sLen _ (by rw [Int.toNat_natCast, hs]; exact h)⟩
theorem asc_eq : ∀ {a b : List Nat}, a.Pairwise (· < ·) → b.Pairwise (· < ·) → (∀ x, x ∈ a ↔ x ∈ b) → a = b
 | [], [], _, _, _ => rfl
 | [], y :: b, _, _, h => absurd ((h y).2 (by simp)) (by simp)
 | x :: a, [], _, _, h => absurd ((h x).1 (by simp)) (by simp)
 | x :: a, y :: b, ha, hb, h => by
  obtain ⟨h1, h2⟩ := List.pairwise_cons.1 ha
  obtain ⟨h3, h4⟩ := List.pairwise_cons.1 hb
  have hxy : x = y := by
   rcases List.mem_cons.1 ((h x).1 (by simp)) with e | e
   · exact e
   ·
    rcases List.mem_cons.1 ((h y).2 (by simp)) with e' | e'
    · exact e'.symm
    · have := h3 x e; have := h1 y e'; omega
  subst hxy
  rw [asc_eq h2 h4 fun z => ⟨fun hz => ?_, fun hz => ?_⟩]
  ·
   rcases List.mem_cons.1 ((h z).1 (by simp [hz])) with e | e
   · subst e; have := h1 z hz; omega
   · exact e
  ·
   rcases List.mem_cons.1 ((h z).2 (by simp [hz])) with e | e
   · subst e; have := h3 z hz; omega
   · exact e
theorem sorted_add {ns ms : List Nat} {w : Nat} (h : ns.Pairwise (· < ·)) (h6 : ∀ n ∈ ns, 1 ≤ n ∧ n ≤ 6) (hw : 1 ≤ w ∧ w ≤ 6) (hn : w ∉ ns) (hp : ms.Perm (ns ++ [w])) (hs : ms.Pairwise (· ≤ ·)) : ms = addN ns w := by
 have hnd : ms.Nodup := hp.nodup_iff.2 (by
  rw [List.nodup_append]
  exact ⟨h.imp fun h => Nat.ne_of_lt h, by simp, fun a ha b hb => by rw [List.mem_singleton] at hb; subst hb; rintro rfl; exact hn ha⟩)
 have hlt : ms.Pairwise (· < ·) := (hs.and hnd).imp fun ⟨h1, h2⟩ => by omega
 exact asc_eq hlt (addN_asc ns w) fun x => by rw [hp.mem_iff, addN_mem h6 hw]; simp
theorem del_take {ns : List Nat} {j n w : Nat} (h : ns[j]? = some n) : delN (ns.take (j + 1)) w = delN (ns.take j) w ++ if n = w then [] else [n] := by
 unfold delN
 rw [take_nat h, List.filter_append]
 congr 1
 by_cases hn : n = w <;> simp [hn]
theorem Len64_any (w0 : World) (n : Nat) (hn : n < 256) : FnV P 83 [.int .u64 (n : Nat)] w0 [] (fun v => ∃ m, v = .int .i64 m) := by
 obtain ⟨c, hc⟩ := sLen_at hn
 refine FnV.of 25 [.tmp 2] Go.Proofs.Tryz.func83 rfl rfl rfl rfl (fun G hG => ?_)
 refine zs ?_
 refine z0 (V1.geI (r := false) rfl rfl (decide_eq_false zw)) ?_
 refine TL.nil ?_
 refine T.cond_f rfl (zs ?_)
 refine z0 (V1.geI (r := false) rfl rfl (decide_eq_false zw)) ?_
 refine TL.nil ?_
 refine T.cond_f rfl (zs ?_)
 refine z0 (V1.geI (r := false) rfl rfl (decide_eq_false zw)) ?_
 refine TL.nil ?_
 refine T.cond_f rfl (zs ?_)
 refine z0 (V1.conv (c := (n : Int)) ty_79 ty_5 rfl (wrap_u8 _ zw zw)) ?_
 refine z0 (V1.indexStr (s := sLen) (c := c) ty_9 (show _ = Value.string sLen from congrArg Value.string z_F) rfl zw hc) ?_
 have hc8 := c.toNat_lt
 refine z0 (V1.conv (c := ((c.toNat : Nat) : Int)) ty_5 ty_3 rfl (wrap_i64 _ zw zw)) ?_
 refine zq (V1.add (c := ((c.toNat : Nat) : Int)) rfl rfl z_J) ?_
 exact ⟨_, G, _, .cons (.tmp z_C) .nil, z_B, rfl, _, rfl⟩
theorem Len_any (w0 : World) (n : Nat) (hn : n < 256) : FnV P 38 [.int .u64 (n : Nat)] w0 [] (fun v => ∃ m, v = .int .i64 m) := by
 refine FnV.of 8 [.tmp 2] Go.Proofs.Tryz.func38 rfl rfl rfl rfl (fun G hG => ?_)
 refine zs ?_
 refine T.cond_f rfl (zs ?_)
 refine zc (T1.callV has_83 rfl rfl (Len64_any w0 n hn) z_D (fun v_ hv => ?_))
 obtain ⟨m, rfl⟩ := hv
 refine zs ?_
 exact ⟨_, G, _, .cons (.tmp z_C) .nil, z_B, rfl, _, rfl⟩
theorem pdqI_us (w0 : World) (b off size cap : Nat) (n0 : Nat) (ns0 : List Nat) (hn : ns0.length ≤ 11) (m : Int) : FnG P 37 [.slice (some ⟨b, off, none⟩) (ns0.length + 1) cap, .int .i64 0, .int .i64 ((ns0.length + 1 : Nat) : Int), .int .i64 m] w0 [] [⟨b, off, (n0 :: ns0).map iV, size⟩] (fun v Y => ∃ ms : List Nat, Y = [⟨b, off, ms.map iV, size⟩] ∧ ms.Perm (n0 :: ns0) ∧ ms.Pairwise (· ≤ ·)) := by
 refine FnG.of 134 [] Go.Proofs.Tryz.func37 rfl rfl rfl rfl (fun G hG => ?_)
 simp only [List.cons_append, List.nil_append]
 refine T.seq (T.region (z1 ?_))
 refine T.seq (T.region (z1 ?_))
 refine T.block (T.rounds 1 (TR.step ?_))
 refine zs ?_
 refine zq (V1.sub (c := ((ns0.length + 1 : Nat) : Int)) rfl rfl z_J) ?_
 refine z0 (V1.leI (r := true) rfl rfl (decide_eq_true zw)) ?_
 refine TL.nil ?_
 refine T.cond_t rfl (zs ?_)
 refine zc (T1.callM (X := [⟨b, off, (n0 :: ns0).map iV, size⟩]) has_73 rfl rfl (insert_us w0 b off size cap n0 ns0 hn) z_B z_D (fun v Z hZ => ?_))
 obtain ⟨ms, rfl, hp, hs⟩ := hZ
 simp only [List.cons_append, List.nil_append]
 refine zs ?_
 exact ⟨_, _ :: G, _, .nil, z_B, [_], rfl, ms, rfl, hp, hs⟩
theorem SortI_us (w0 : World) (b off size cap : Nat) (n0 : Nat) (ns0 : List Nat) (hn : ns0.length ≤ 11) : FnG P 14 [.slice (some ⟨b, off, none⟩) (ns0.length + 1) cap] w0 [] [⟨b, off, (n0 :: ns0).map iV, size⟩] (fun v Y => ∃ ms : List Nat, Y = [⟨b, off, ms.map iV, size⟩] ∧ ms.Perm (n0 :: ns0) ∧ ms.Pairwise (· ≤ ·)) := by
 refine FnG.of 11 [] Go.Proofs.Tryz.func14 rfl rfl rfl rfl (fun G hG => ?_)
 simp only [List.cons_append, List.nil_append]
 refine zs ?_
 refine zq (V1.lenSl ty_25 rfl) ?_
 refine z0 (V1.conv (c := ((ns0.length + 1 : Nat) : Int)) ty_3 ty_104 rfl (wrap_u64 _ zw zw)) ?_
 refine zc (T1.callV has_38 rfl rfl (Len_any w0 (ns0.length + 1) zw) z_D (fun v_ hv => ?_))
 obtain ⟨m, rfl⟩ := hv
 refine zc (T1.callM (X := [⟨b, off, (n0 :: ns0).map iV, size⟩]) has_37 rfl rfl (pdqI_us w0 b off size cap n0 ns0 hn m) z_B z_D (fun v Z hZ => ?_))
 obtain ⟨ms, rfl, hp, hs⟩ := hZ
 simp only [List.cons_append, List.nil_append]
 refine TL.nil ?_
 exact ⟨_, _ :: G, _, .nil, z_B, [_], rfl, ms, rfl, hp, hs⟩
theorem SortI_any (w0 : World) (b off size cap : Nat) {ns : List Nat} (hn0 : 0 < ns.length) (hn : ns.length ≤ 12) : FnG P 14 [.slice (some ⟨b, off, none⟩) ns.length cap] w0 [] [⟨b, off, ns.map iV, size⟩] (fun v Y => ∃ ms : List Nat, Y = [⟨b, off, ms.map iV, size⟩] ∧ ms.Perm ns ∧ ms.Pairwise (· ≤ ·)) := by
 match ns, hn0 with
 | n0 :: ns0, _ => exact SortI_us w0 b off size cap n0 ns0 (by simp only [List.length_cons] at hn; omega)
theorem run1_any (w0 : World) (Ps : List Blk) (eb : Nat) (k w : Int) (hE : (⟨eb, 0, [.int .i64 k, .int .i64 w], 2⟩ : Blk) ∈ Ps) (n : Nat) : FnV P 17 [iV n, .pointer (some ⟨eb, 0, none⟩)] w0 Ps (fun v => v = .bool (decide ((n : Int) = w))) := by
 refine FnV.of 8 [.tmp 3] Go.Proofs.Tryz.func17 rfl rfl rfl rfl (fun G hG => ?_)
 have hEf := hG.find hE
 refine zs ?_
 refine z0 (V1.fieldAddr fl_30_1 rfl) ?_
 refine z0 (V1.load1 (v := .int .i64 w) one_3 rfl (.own (cells := [.int .i64 k, .int .i64 w]) z_A zr)) ?_
 refine zq (V1.eqI (r := decide ((n : Int) = w)) rfl rfl rfl) ?_
 exact ⟨_, G, _, .cons (.tmp z_C) .nil, z_B, rfl, rfl⟩
theorem IndexF_us (w0 : World) (Ps : List Blk) {ns : List Nat} {a : Option Addr} {c : Nat} (hr : RowR w0 Ps 1 (.slice a ns.length c) ns.length (ns.map iV)) (hn6 : ns.length ≤ 1000) (eb : Nat) (k w : Int) (hE : (⟨eb, 0, [.int .i64 k, .int .i64 w], 2⟩ : Blk) ∈ Ps) (hm : ∃ n ∈ ns, (n : Int) = w) : FnV P 41 [.slice a ns.length c, .func (.func 17) #[] #[.pointer (some ⟨eb, 0, none⟩)]] w0 Ps (fun v => ∃ (i n : Nat), v = iV i ∧ ns[i]? = some n ∧ (n : Int) = w ∧ ∀ y ∈ ns.take i, (y : Int) ≠ w) := by
 refine FnV.of 19 [.tmp 4] Go.Proofs.Tryz.func41 rfl rfl rfl rfl (fun G hG => ?_)
 refine zs ?_
 refine zq1 (V1.lenSl ty_25 rfl) ?_
 refine T.block (T.loopL (σ := Nat) (l0 := [(0, _), (1, _), (7, _)]) (fun x => [(8, .int .i64 (x : Nat))]) (fun i L => L = G ∧ i ≤ ns.length ∧ ∀ y ∈ ns.take i, (y : Int) ≠ w) (fun i => ns.length - i) 0 (.cons rfl .nil) zT z_B (⟨rfl, Nat.zero_le _, by simp⟩) ?_)
 rintro i e_ L ⟨hL, hi, ho⟩
 obtain rfl := hL.symm
 refine zs ?_
 refine zc (T1.ltI_split rfl rfl (fun h2 => ?_) (fun h2 => ?_))
 ·
  refine zs ?_
  refine T.cond_t rfl (T.skip (T.seq (T.block (T.seq (T.region (z2 ?_))))))
  obtain ⟨n, hx0⟩ : ∃ n, ns[i]? = some n := ⟨_, List.getElem?_eq_getElem zw⟩
  obtain ⟨b, o, rfl, hrd⟩ := hr.at zw P
  refine zs ?_
  refine z0 (V1.indexAddrS ty_25 sz_3 rfl rfl zw zw) ?_
  refine zc (V1.t (V1.load1 (v := iV n) one_3 rfl (show Rd _ _ ⟨_, _ + i * 1, none⟩ _ from by rw [Nat.mul_one]; exact hrd _ rfl rfl _ z_D i _ (by rw [List.getElem?_map, hx0]; rfl))) ?_)
  refine zc (T1.callGV (first := #[]) (cap := #[.pointer (some ⟨eb, 0, none⟩)]) rfl has_17 rfl rfl (run1_any w0 Ps eb k w hE n) z_D (fun v_ hv => ?_))
  obtain rfl := hv
  rcases Classical.em ((n : Int) = w) with hnw | hnw
  ·
   rw [decide_eq_true hnw]
   refine TL.nil ?_
   refine T.cond_t rfl (zs ?_)
   exact ⟨_, G, _, .cons (.tmp z_C) .nil, z_B, rfl, i, n, rfl, hx0, hnw, ho⟩
  ·
   rw [decide_eq_false hnw]
   refine TL.nil ?_
   refine T.cond_f rfl (zs ?_)
   refine zq1 (V1.add (c := ((i + 1 : Nat) : Int)) rfl rfl z_J) ?_
   exact ⟨i + 1, G, _, z_N, (.cons rfl .nil), (.cons rfl (.cons rfl (.cons rfl .nil))), z_B, ⟨rfl, by omega, by rw [take_nat hx0]; intro y hy; rcases List.mem_append.1 hy with hy | hy; exact ho y hy; rw [List.mem_singleton] at hy; subst hy; exact hnw⟩⟩
 ·
  obtain rfl : i = ns.length := by omega
  rw [List.take_length] at ho
  obtain ⟨y, hy, e⟩ := hm
  exact absurd e (ho y hy)
theorem del_none {ns : List Nat} {i x0 : Nat} {w : Int} (ho : ∀ y ∈ ns.take i, (y : Int) ≠ w) (hw : (x0 : Int) = w) : delN (ns.take i) x0 = ns.take i := by
 unfold delN
 rw [List.filter_eq_self]
 intro y hy
 have := ho y hy
 rw [decide_eq_true_iff]; omega
theorem take_set {cs : List Nat} {i x : Nat} (h : i < cs.length) : (cs.set i x).take (i + 1) = cs.take i ++ [x] := by
 rw [List.take_add_one, List.getElem?_set_self h, List.take_set_of_le (Nat.le_refl _)]; rfl
theorem DeleteI_us (w0 : World) (Ps : List Blk) (b off size cap : Nat) {ns : List Nat} (hn6 : ns.length ≤ 1000) (hcap : ns.length ≤ cap) (eb : Nat) (k w : Int) (hE : (⟨eb, 0, [.int .i64 k, .int .i64 w], 2⟩ : Blk) ∈ Ps) (w1 : Nat) (hw1 : (w1 : Int) = w) (hmw : w1 ∈ ns) : FnG P 16 [.slice (some ⟨b, off, none⟩) ns.length cap, .func (.func 17) #[] #[.pointer (some ⟨eb, 0, none⟩)]] w0 Ps [⟨b, off, ns.map iV, size⟩] (fun v Y => v = .slice (some ⟨b, off, none⟩) (delN ns w1).length cap ∧ Y = [⟨b, off, (delN ns w1).map iV, size⟩]) := by
 have hm : ∃ n ∈ ns, (n : Int) = w := ⟨w1, hmw, hw1⟩
 refine FnG.of 42 [.tmp 4] Go.Proofs.Tryz.func16 rfl rfl rfl rfl (fun G hG => ?_)
 have hEf := hG.find hE
 simp only [List.cons_append, List.nil_append]
 refine zs ?_
 refine zc (T1.callV has_41 rfl rfl (IndexF_us w0 ((⟨b, off, (ns).map iV, size⟩ : Blk) :: Ps) (RowR.own (List.mem_cons_self ..) (by simp)) hn6 eb k w (List.mem_cons_of_mem _ hE) hm) z_D (fun v_ hv => ?_))
 obtain ⟨i0, x0, rfl, hx0, hxw, ho⟩ := hv
 have hi0 := (List.getElem?_eq_some_iff.1 hx0).1
 obtain rfl : x0 = w1 := by omega
 refine zs ?_
 refine z0 (V1.eqI (r := false) rfl rfl (decide_eq_false zw)) ?_
 refine TL.nil ?_
 refine T.cond_f rfl (zs ?_)
 refine zq1 (V1.add (c := ((i0 + 1 : Nat) : Int)) rfl rfl z_J) ?_
 refine T.block (T.loopL (σ := Nat × Nat × List Nat) (l0 := [(0, _), (1, _)]) (fun x => [(5, .int .i64 (x.1 : Nat)), (6, .int .i64 (x.2.1 : Nat))]) (fun x L => L = (⟨b, off, (x.2.2).map iV, size⟩ : Blk) :: G ∧ x.2.2.length = ns.length ∧ x.1 < x.2.1 ∧ x.2.1 ≤ ns.length ∧ x.2.2.take x.1 = delN (ns.take x.2.1) x0 ∧ x.2.2.drop x.2.1 = ns.drop x.2.1) (fun x => ns.length - x.2.1) (i0, i0 + 1, ns) (.cons rfl (.cons rfl .nil)) zT z_B (⟨rfl, rfl, by simp only; omega, by simp only; omega, by simp only; rw [del_take hx0, if_pos rfl, List.append_nil]; exact (del_none ho hxw).symm, rfl⟩) ?_)
 rintro ⟨i, j, cs⟩ e_ L ⟨rfl, hcl, hij, hjn, hti, hdj⟩
 simp only at hcl hij hjn hti hdj
 have htl : (delN (ns.take j) x0).length = i := by rw [← hti, List.length_take]; omega
 dsimp only
 refine zs ?_
 refine z0 (V1.lenSl ty_25 rfl) ?_
 refine zc (T1.ltI_split rfl rfl (fun h5 => ?_) (fun h5 => ?_))
 ·
  obtain ⟨x, hxj⟩ : ∃ x, ns[j]? = some x := ⟨_, List.getElem?_eq_getElem zw⟩
  have hcj : cs[j]? = some x := by have h_ := congrArg (fun l => l[0]?) hdj; simpa [List.getElem?_drop, hxj] using h_
  have hic : i < cs.length := by omega
  refine TL.nil ?_
  refine T.cond_t rfl (zs ?_)
  refine z0 (V1.indexAddrS ty_25 sz_3 rfl rfl zw zw) ?_
  refine zc (V1.t (V1.load1 (v := iV x) one_3 rfl (ib_rd (cs := cs.map iV) (k := j) z_A (by rw [List.getElem?_map, hcj]; rfl))) ?_)
  refine zs ?_
  refine zc (T1.callGV (first := #[]) (cap := #[.pointer (some ⟨eb, 0, none⟩)]) rfl has_17 rfl rfl (run1_any w0 Ps eb k w hE x) z_D (fun v_ hv => ?_))
  obtain rfl := hv
  rcases Classical.em (x = x0) with hxw2 | hxw2
  ·
   rw [decide_eq_true (show ((x : Nat) : Int) = w by omega)]
   refine z0 (V1.not rfl rfl) ?_
   refine TL.nil ?_
   refine T.cond_f rfl (zs ?_)
   refine zq1 (V1.add (c := ((j + 1 : Nat) : Int)) rfl rfl z_J) ?_
   exact ⟨(i, j + 1, cs), (⟨b, off, (cs).map iV, size⟩ : Blk) :: G, _, z_N, (.cons rfl (.cons rfl .nil)), (.cons rfl (.cons rfl .nil)), z_B, ⟨rfl, hcl, by simp only; omega, by simp only; omega, by simp only; rw [del_take hxj, if_pos hxw2, List.append_nil]; exact hti, by simp only; rw [← List.drop_drop, hdj, List.drop_drop]⟩⟩
  ·
   rw [decide_eq_false (show ¬ ((x : Nat) : Int) = w by omega)]
   refine z0 (V1.not rfl rfl) ?_
   refine TL.nil ?_
   refine T.cond_t rfl (zs ?_)
   refine z0 (V1.indexAddrS ty_25 sz_3 rfl rfl zw zw) ?_
   refine zc (T1.storeE (o := off + i * 1) (off := off) (size := size) (cells := cs.map iV) (cells' := (cs.set i x).map iV) (v := iV x) rfl rfl sz_3 rfl (by rw [show off + i * 1 - off = i by omega, List.map_set]) z_H zw (by rw [List.length_map]; omega) ?_)
   refine TL.nil ?_
   refine T.live (l := [(0, _), (1, _), (5, _), (6, _)]) zT (fun e_ => ?_)
   refine zs ?_
   refine zq (V1.add (c := ((i + 1 : Nat) : Int)) rfl rfl z_J) ?_
   refine zq1 (V1.add (c := ((j + 1 : Nat) : Int)) rfl rfl z_J) ?_
   exact ⟨(i + 1, j + 1, cs.set i x), (⟨b, off, (cs.set i x).map iV, size⟩ : Blk) :: G, _, z_N, (.cons rfl (.cons rfl .nil)), (.cons rfl (.cons rfl .nil)), z_B, ⟨rfl, by simp only; rw [List.length_set]; exact hcl, by simp only; omega, by simp only; omega, by simp only; rw [del_take hxj, if_neg hxw2, ← hti]; exact take_set hic, by simp only; rw [List.drop_set_of_lt zw, ← List.drop_drop, hdj, List.drop_drop]⟩⟩
 ·
  obtain rfl : j = ns.length := by omega
  rw [List.take_length] at hti htl
  refine TL.nil ?_
  refine T.cond_f rfl (zs ?_)
  refine z0 (V1.sliceK i ns.length ty_25 sz_3 rfl rfl rfl zw hcap zw) ?_
  refine zc (T1.clearTail (off := off) (size := size) (m := i * 1) (cells := cs.map iV) (z := .int .i64 0) ty_25 zr_3 (ones rfl) rfl rfl zw (by rw [List.length_map, show (Value.int IntKind.i64 0).cells.size = 1 from rfl]; omega) z_H ?_)
  refine zs ?_
  refine zq (V1.sliceK 0 i ty_25 sz_3 rfl rfl rfl zw zw zw) ?_
  rw [Nat.mul_one, ← List.map_take, hti]
  exact ⟨_, _ :: G, _, .cons (.tmp z_C) .nil, z_B, [_], rfl, by rw [htl]; rfl, rfl⟩
end Go.Proofs.YtfjedhmffccgnaaGreatDoor.S
