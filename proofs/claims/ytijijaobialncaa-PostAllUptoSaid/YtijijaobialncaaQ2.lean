/- Rows of numbers turned in place: parted, heaped. -/
import Derived.Test.YtijijaobialncaaQ1
namespace Go.Proofs.Ytijijaobialncaa.S
open Go.RowKit

set_option maxRecDepth 100000 in
set_option maxHeartbeats 8000000 in
theorem partG (w0 : World) (b off size cap n : Nat) (xs0 : List Nat) (hxl : xs0.length = n) (hn : n ≤ 1000000) (a e pv : Nat) (hpa : a ≤ pv) (hpe : pv < e) (hen : e ≤ n) : FnG P 68 [.slice (some ⟨b, off, none⟩) n cap, .int .i64 ((a : Nat) : Int), .int .i64 ((e : Nat) : Int), .int .i64 ((pv : Nat) : Int)] w0 [] [(⟨b, off, (xs0).map u32V, size⟩ : Blk)] (fun v Y => ∃ (ys : List Nat) (m : Nat) (q : Bool), Y = [(⟨b, off, (ys).map u32V, size⟩ : Blk)] ∧ v = .tuple #[.int .i64 ((m : Nat) : Int), .bool q] ∧ Sw a e xs0 ys ∧ Parted a e m ys) := by
  refine FnG.of 168 [.tmp 8, .tmp 9] Go.Proofs.Try.func68 rfl rfl rfl rfl (fun G hG => ?_)
  simp only [List.cons_append, List.nil_append]
  refine T.seq ?_
  refine T.region ?_
  refine TL.cons rfl (V1.t (V1.assign' z_B) ?_)
  refine TL.cons rfl (V1.t (V1.assign' z_B) ?_)
  refine TL.nil ?_
  refine T.seq ?_
  refine T.drawZ (fun L_ => Find L_ (⟨b, off, (xs0).map u32V, size⟩ : Blk)) 13 mixed z_D ?_
  refine TZ.pure 0 rfl z_F z_F z_F z_F rfl (fun _ _ _ h => h) (fun _ => V1.move' z_B) ?_
  refine TZ.pure 1 rfl z_F z_F z_F z_F rfl (fun _ _ _ h => h) (fun _ => V1.move' z_B) ?_
  refine TZ.pure 2 rfl z_F z_F z_F z_F rfl (fun _ _ _ h => h) (fun _ => V1.move' z_B) ?_
  refine TZ.pure 3 rfl z_F z_F z_F z_F rfl (fun _ _ _ h => h) (fun _ => V1.move' z_B) ?_
  refine TZ.pure 4 rfl z_F z_F z_F z_F rfl (fun _ _ _ h => h) (fun _ => V1.move' z_B) ?_
  refine TZ.pure 5 rfl z_F z_F z_F z_F rfl (fun _ _ _ h => h) (fun _ => V1.move' z_B) ?_
  refine TZ.pure 6 rfl z_F z_F z_F z_F rfl (fun _ _ _ h => h) (fun _ => V1.indexAddrS ty_36 sz_27 rfl rfl (by omega) (by omega)) ?_
  refine TZ.pure 8 rfl z_F z_F z_F z_F rfl (fun _ _ _ h => h) (fun _ => V1.move' z_B) ?_
  refine TZ.pure 9 rfl z_F z_F z_F z_F rfl (fun _ _ _ h => h) (fun _ => V1.move' z_B) ?_
  refine TZ.pure 10 rfl z_F z_F z_F z_F rfl (fun _ _ _ h => h) (fun _ => V1.indexAddrS ty_36 sz_27 rfl rfl (by omega) (by omega)) ?_
  refine TZ.read 7 rfl z_F z_F z_F z_F rfl (fun _ _ _ h => h) (fun L_ k1_ => V1.load1 (v := u32V (g xs0 (pv))) one_27 rfl (ib_rd (cs := (xs0).map u32V) (k := pv) z_D (gV (by omega)))) ?_
  refine TZ.read 11 rfl z_F z_F z_F z_F rfl (fun _ _ _ h => h) (fun L_ k1_ => V1.load1 (v := u32V (g xs0 (a))) one_27 rfl (ib_rd (cs := (xs0).map u32V) (k := a) z_D (gV (by omega)))) ?_
  refine TZ.pure 12 rfl z_F z_F z_F z_F rfl (fun _ _ _ h => h) (fun _ => V1.indexAddrS ty_36 sz_27 rfl rfl (by omega) (by omega)) ?_
  refine TZ.one 13 z_F rfl z_F rfl (T1.storeE (o := off + (a) * 1) (off := off) (size := size) (cells := (xs0).map u32V) (cells' := ((xs0).set (a) (g xs0 (pv))).map u32V) (v := u32V (g xs0 (pv))) rfl rfl sz_27 rfl (by rw [show off + (a) * 1 - off = a by omega]; exact List.map_set.symm) z_H (by omega) (by simp only [List.length_map, List.length_set]; omega) ?_)
  refine TZ.pure 14 rfl z_F z_F z_F z_F rfl (fun _ _ _ h => h) (fun _ => V1.indexAddrS ty_36 sz_27 rfl rfl (by omega) (by omega)) ?_
  refine TZ.one 15 z_F rfl z_F rfl (T1.storeE (o := off + (pv) * 1) (off := off) (size := size) (cells := ((xs0).set (a) (g xs0 (pv))).map u32V) (cells' := (((xs0).set (a) (g xs0 (pv))).set (pv) (g xs0 (a))).map u32V) (v := u32V (g xs0 (a))) rfl rfl sz_27 rfl (by rw [show off + (pv) * 1 - off = pv by omega]; exact List.map_set.symm) z_H (by omega) (by simp only [List.length_map, List.length_set]; omega) ?_)
  refine TZ.done z_F ?_
  refine T.cut (σ := Nat × Nat × List Nat) (l0 := [(0, _), (1, _)]) (fun x => [(10, .int .i64 ((x.1 : Nat) : Int)), (11, .int .i64 ((x.2.1 : Nat) : Int))]) (fun x L => L = (⟨b, off, (x.2.2).map u32V, size⟩ : Blk) :: G ∧ Sw a e xs0 x.2.2 ∧ Prt a e x.1 x.2.1 x.2.2) (.cons z_B (.cons z_B .nil)) ?_ ?_
  ·
    refine T.live (l := [(0, _), (1, _), (2, _)]) (.cons z_B (.cons z_B (.cons z_B .nil))) (fun e_ => ?_)
    refine T.region ?_
    refine TL.cons rfl (V1.t (V1.move' z_B) ?_)
    refine TL.cons rfl (V1.t (V1.add (c := ((a + 1 : Nat) : Int)) rfl rfl (by rw [wrap_i64 _ (by omega) (by omega)]; omega)) ?_)
    refine TL.cons rfl (V1.t (V1.move' z_B) ?_)
    refine TL.cons rfl (V1.t (V1.sub (c := ((e - 1 : Nat) : Int)) rfl rfl (by rw [wrap_i64 _ (by omega) (by omega)]; omega)) ?_)
    refine TL.cons rfl (V1.t (V1.assign' z_B) ?_)
    refine TL.cons rfl (V1.t (V1.assign' z_B) ?_)
    refine TL.nil ?_
    exact ⟨(a + 1, e - 1, swp xs0 a pv), _, _, trivial, (.cons rfl (.cons rfl .nil)), (.cons rfl (.cons rfl .nil)), z_A, ⟨rfl, Sw.swap (by omega) (by omega) (by omega) (by omega) (by omega), Prt.start (by omega)⟩⟩
  ·
    rintro ⟨i0, j0, xs⟩ e_ L ⟨rfl, hsw, hprt⟩
    dsimp only at hsw hprt
    dsimp only
    have hxn := hsw.len
    have hp1 := hprt.lo
    have hp2 := hprt.hi
    have hp3 := hprt.le
    refine T.cut (σ := Nat) (l0 := [(0, _), (1, _), (11, _)]) (fun x => [(10, .int .i64 ((x : Nat) : Int))]) (fun i L => L = (⟨b, off, (xs).map u32V, size⟩ : Blk) :: G ∧ Prt a e i j0 xs ∧ (i ≤ j0 → g xs a ≤ g xs i)) (.cons z_B (.cons z_B (.cons z_B .nil))) ?_ ?_
    ·
      refine T.block ?_
      refine T.loopL (σ := Nat) (l0 := [(0, _), (1, _), (11, _)]) (fun x => [(10, .int .i64 ((x : Nat) : Int))]) (fun i L => L = (⟨b, off, (xs).map u32V, size⟩ : Blk) :: G ∧ Prt a e i j0 xs) (fun i => e - i) i0 (.cons rfl .nil) (.cons z_B (.cons z_B (.cons z_B .nil))) z_A (⟨rfl, hprt⟩) ?_
      rintro i e_ L ⟨rfl, hprt⟩
      have hp1 := hprt.lo
      have hp2 := hprt.hi
      have hp3 := hprt.le
      refine T.seq ?_
      refine T.seq ?_
      rcases Nat.lt_or_ge j0 i with hij | hij
      rotate_left
      rcases Nat.lt_or_ge (g xs i) (g xs a) with hl | hl
      ·
        refine T.drawDet' mixed z_F ?_
        refine Det.cons 0 (ins := [(10, _)]) (.old z_B z_F .nil) (fun e_ => .inl ⟨rfl, V1.t (V1.move' z_B) ⟨rfl, rfl⟩⟩) ?_
        refine Det.cons 1 (ins := [(11, _)]) (.old z_B z_F .nil) (fun e_ => .inl ⟨rfl, V1.t (V1.move' z_B) ⟨rfl, rfl⟩⟩) ?_
        refine Det.cons 2 (ins := [(30, _), (31, _)]) (.new 0 1 z_F rfl rfl (.new 1 0 z_F rfl rfl .nil)) (fun e_ => .inl ⟨rfl, V1.t (V1.leI (r := true) rfl rfl (decide_eq_true (by omega))) ⟨rfl, rfl⟩⟩) ?_
        refine Det.cons 3 (ins := [(32, _)]) (.new 2 0 z_F rfl rfl .nil) (fun e_ => .inl ⟨rfl, V1.t (V1.move' z_B) ⟨rfl, rfl⟩⟩) ?_
        refine Det.cons 4 (ins := [(0, _), (33, _)]) (.old z_B z_F (.new 3 0 z_F rfl rfl .nil)) (fun e_ => .inl ⟨rfl, V1.t (V1.move' z_B) ⟨rfl, rfl⟩⟩) ?_
        refine Det.cons 5 (ins := [(10, _), (33, _)]) (.old z_B z_F (.new 3 1 z_F rfl rfl .nil)) (fun e_ => .inl ⟨rfl, V1.t (V1.move' z_B) ⟨rfl, rfl⟩⟩) ?_
        refine Det.cons 6 (ins := [(33, _), (34, _), (35, _)]) (.new 3 2 z_F rfl rfl (.new 4 1 z_F rfl rfl (.new 5 0 z_F rfl rfl .nil))) (fun e_ => .inl ⟨rfl, V1.t (V1.indexAddrS ty_36 sz_27 rfl rfl (by omega) (by omega)) ⟨rfl, rfl⟩⟩) ?_
        refine Det.cons 7 (ins := [(33, _), (36, _)]) (.new 3 3 z_F rfl rfl (.new 6 0 z_F rfl rfl .nil)) (fun e_ => .inl ⟨rfl, V1.t (V1.load1 (v := u32V (g xs (i))) one_27 rfl (ib_rd (cs := (xs).map u32V) (k := i) z_D (gV (by omega)))) ⟨rfl, rfl⟩⟩) ?_
        refine Det.cons 8 (ins := [(0, _), (33, _)]) (.old z_B z_F (.new 3 4 z_F rfl rfl .nil)) (fun e_ => .inl ⟨rfl, V1.t (V1.move' z_B) ⟨rfl, rfl⟩⟩) ?_
        refine Det.cons 9 (ins := [(1, _), (33, _)]) (.old z_B z_F (.new 3 5 z_F rfl rfl .nil)) (fun e_ => .inl ⟨rfl, V1.t (V1.move' z_B) ⟨rfl, rfl⟩⟩) ?_
        refine Det.cons 10 (ins := [(33, _), (38, _), (39, _)]) (.new 3 6 z_F rfl rfl (.new 8 1 z_F rfl rfl (.new 9 0 z_F rfl rfl .nil))) (fun e_ => .inl ⟨rfl, V1.t (V1.indexAddrS ty_36 sz_27 rfl rfl (by omega) (by omega)) ⟨rfl, rfl⟩⟩) ?_
        refine Det.cons 11 (ins := [(33, _), (40, _)]) (.new 3 7 z_F rfl rfl (.new 10 0 z_F rfl rfl .nil)) (fun e_ => .inl ⟨rfl, V1.t (V1.load1 (v := u32V (g xs (a))) one_27 rfl (ib_rd (cs := (xs).map u32V) (k := a) z_D (gV (by omega)))) ⟨rfl, rfl⟩⟩) ?_
        refine Det.cons 12 (ins := [(33, _), (37, _), (41, _)]) (v := .bool true) (.new 3 8 z_F rfl rfl (.new 7 4 z_F rfl rfl (.new 11 0 z_F rfl rfl .nil))) (fun e_ => .inl ⟨rfl, ?_⟩) ?_
        · refine T1.call0 has_66 rfl (fun w hs => LessI_any (g xs (i) : Int) (g xs (a) : Int) w) (fun v_ hv => ?_)
          obtain rfl := hv
          rw [decide_eq_true (by omega)]
          exact ⟨rfl, rfl⟩
        refine Det.cons 13 (ins := [(33, _), (42, _)]) (.new 3 9 z_F rfl rfl (.new 12 0 z_F rfl rfl .nil)) (fun e_ => .inl ⟨rfl, V1.t (V1.pick rfl z_B) ⟨rfl, rfl⟩⟩) ?_
        refine Det.nil 14 (l := [(0, _), (1, _), (10, _), (11, _), (43, _)]) (.old z_B z_F (.old z_B z_F (.old z_B z_F (.old z_B z_F (.new 13 0 z_F rfl rfl .nil))))) (fun e_ => ?_)
        refine T.cond_t rfl ?_
        refine T.skip ?_
        refine T.block ?_
        refine T.region ?_
        refine TL.cons rfl (V1.t (V1.move' z_B) ?_)
        refine TL.cons rfl (V1.t (V1.add (c := ((i + 1 : Nat) : Int)) rfl rfl (by rw [wrap_i64 _ (by omega) (by omega)]; omega)) ?_)
        refine TL.cons rfl (V1.t (V1.assign' z_B) ?_)
        refine TL.nil ?_
        exact ⟨i + 1, _, _, (by simp only; omega), (.cons rfl .nil), (.cons rfl (.cons rfl (.cons rfl .nil))), z_A, ⟨rfl, hprt.up (by omega) (by omega)⟩⟩
      ·
        refine T.drawDet' mixed z_F ?_
        refine Det.cons 0 (ins := [(10, _)]) (.old z_B z_F .nil) (fun e_ => .inl ⟨rfl, V1.t (V1.move' z_B) ⟨rfl, rfl⟩⟩) ?_
        refine Det.cons 1 (ins := [(11, _)]) (.old z_B z_F .nil) (fun e_ => .inl ⟨rfl, V1.t (V1.move' z_B) ⟨rfl, rfl⟩⟩) ?_
        refine Det.cons 2 (ins := [(30, _), (31, _)]) (.new 0 1 z_F rfl rfl (.new 1 0 z_F rfl rfl .nil)) (fun e_ => .inl ⟨rfl, V1.t (V1.leI (r := true) rfl rfl (decide_eq_true (by omega))) ⟨rfl, rfl⟩⟩) ?_
        refine Det.cons 3 (ins := [(32, _)]) (.new 2 0 z_F rfl rfl .nil) (fun e_ => .inl ⟨rfl, V1.t (V1.move' z_B) ⟨rfl, rfl⟩⟩) ?_
        refine Det.cons 4 (ins := [(0, _), (33, _)]) (.old z_B z_F (.new 3 0 z_F rfl rfl .nil)) (fun e_ => .inl ⟨rfl, V1.t (V1.move' z_B) ⟨rfl, rfl⟩⟩) ?_
        refine Det.cons 5 (ins := [(10, _), (33, _)]) (.old z_B z_F (.new 3 1 z_F rfl rfl .nil)) (fun e_ => .inl ⟨rfl, V1.t (V1.move' z_B) ⟨rfl, rfl⟩⟩) ?_
        refine Det.cons 6 (ins := [(33, _), (34, _), (35, _)]) (.new 3 2 z_F rfl rfl (.new 4 1 z_F rfl rfl (.new 5 0 z_F rfl rfl .nil))) (fun e_ => .inl ⟨rfl, V1.t (V1.indexAddrS ty_36 sz_27 rfl rfl (by omega) (by omega)) ⟨rfl, rfl⟩⟩) ?_
        refine Det.cons 7 (ins := [(33, _), (36, _)]) (.new 3 3 z_F rfl rfl (.new 6 0 z_F rfl rfl .nil)) (fun e_ => .inl ⟨rfl, V1.t (V1.load1 (v := u32V (g xs (i))) one_27 rfl (ib_rd (cs := (xs).map u32V) (k := i) z_D (gV (by omega)))) ⟨rfl, rfl⟩⟩) ?_
        refine Det.cons 8 (ins := [(0, _), (33, _)]) (.old z_B z_F (.new 3 4 z_F rfl rfl .nil)) (fun e_ => .inl ⟨rfl, V1.t (V1.move' z_B) ⟨rfl, rfl⟩⟩) ?_
        refine Det.cons 9 (ins := [(1, _), (33, _)]) (.old z_B z_F (.new 3 5 z_F rfl rfl .nil)) (fun e_ => .inl ⟨rfl, V1.t (V1.move' z_B) ⟨rfl, rfl⟩⟩) ?_
        refine Det.cons 10 (ins := [(33, _), (38, _), (39, _)]) (.new 3 6 z_F rfl rfl (.new 8 1 z_F rfl rfl (.new 9 0 z_F rfl rfl .nil))) (fun e_ => .inl ⟨rfl, V1.t (V1.indexAddrS ty_36 sz_27 rfl rfl (by omega) (by omega)) ⟨rfl, rfl⟩⟩) ?_
        refine Det.cons 11 (ins := [(33, _), (40, _)]) (.new 3 7 z_F rfl rfl (.new 10 0 z_F rfl rfl .nil)) (fun e_ => .inl ⟨rfl, V1.t (V1.load1 (v := u32V (g xs (a))) one_27 rfl (ib_rd (cs := (xs).map u32V) (k := a) z_D (gV (by omega)))) ⟨rfl, rfl⟩⟩) ?_
        refine Det.cons 12 (ins := [(33, _), (37, _), (41, _)]) (v := .bool false) (.new 3 8 z_F rfl rfl (.new 7 4 z_F rfl rfl (.new 11 0 z_F rfl rfl .nil))) (fun e_ => .inl ⟨rfl, ?_⟩) ?_
        · refine T1.call0 has_66 rfl (fun w hs => LessI_any (g xs (i) : Int) (g xs (a) : Int) w) (fun v_ hv => ?_)
          obtain rfl := hv
          rw [decide_eq_false (by omega)]
          exact ⟨rfl, rfl⟩
        refine Det.cons 13 (ins := [(33, _), (42, _)]) (.new 3 9 z_F rfl rfl (.new 12 0 z_F rfl rfl .nil)) (fun e_ => .inl ⟨rfl, V1.t (V1.pick rfl z_B) ⟨rfl, rfl⟩⟩) ?_
        refine Det.nil 14 (l := [(0, _), (1, _), (10, _), (11, _), (43, _)]) (.old z_B z_F (.old z_B z_F (.old z_B z_F (.old z_B z_F (.new 13 0 z_F rfl rfl .nil))))) (fun e_ => ?_)
        refine T.cond_f rfl ?_
        refine T.exit ?_
        exact ⟨i, _, _, trivial, (.cons rfl .nil), (.cons rfl (.cons rfl (.cons rfl .nil))), z_A, ⟨rfl, hprt, fun h => by omega⟩⟩
      ·
        refine T.drawDet' mixed z_F ?_
        refine Det.cons 0 (ins := [(10, _)]) (.old z_B z_F .nil) (fun e_ => .inl ⟨rfl, V1.t (V1.move' z_B) ⟨rfl, rfl⟩⟩) ?_
        refine Det.cons 1 (ins := [(11, _)]) (.old z_B z_F .nil) (fun e_ => .inl ⟨rfl, V1.t (V1.move' z_B) ⟨rfl, rfl⟩⟩) ?_
        refine Det.cons 2 (ins := [(30, _), (31, _)]) (.new 0 1 z_F rfl rfl (.new 1 0 z_F rfl rfl .nil)) (fun e_ => .inl ⟨rfl, V1.t (V1.leI (r := false) rfl rfl (decide_eq_false (by omega))) ⟨rfl, rfl⟩⟩) ?_
        refine Det.cons 3 (ins := [(32, _)]) (.new 2 0 z_F rfl rfl .nil) (fun e_ => .inl ⟨rfl, V1.t (V1.move' z_B) ⟨rfl, rfl⟩⟩) ?_
        refine Det.cons 4 (ins := [(33, _)]) (.new 3 0 z_F rfl rfl .nil) (fun e_ => .inr ⟨rfl, rfl⟩) ?_
        refine Det.cons 5 (ins := [(33, _)]) (.new 3 1 z_F rfl rfl .nil) (fun e_ => .inr ⟨rfl, rfl⟩) ?_
        refine Det.cons 6 (ins := [(33, _)]) (.new 3 2 z_F rfl rfl .nil) (fun e_ => .inr ⟨rfl, rfl⟩) ?_
        refine Det.cons 7 (ins := [(33, _)]) (.new 3 3 z_F rfl rfl .nil) (fun e_ => .inr ⟨rfl, rfl⟩) ?_
        refine Det.cons 8 (ins := [(33, _)]) (.new 3 4 z_F rfl rfl .nil) (fun e_ => .inr ⟨rfl, rfl⟩) ?_
        refine Det.cons 9 (ins := [(33, _)]) (.new 3 5 z_F rfl rfl .nil) (fun e_ => .inr ⟨rfl, rfl⟩) ?_
        refine Det.cons 10 (ins := [(33, _)]) (.new 3 6 z_F rfl rfl .nil) (fun e_ => .inr ⟨rfl, rfl⟩) ?_
        refine Det.cons 11 (ins := [(33, _)]) (.new 3 7 z_F rfl rfl .nil) (fun e_ => .inr ⟨rfl, rfl⟩) ?_
        refine Det.cons 12 (ins := [(33, _)]) (.new 3 8 z_F rfl rfl .nil) (fun e_ => .inr ⟨rfl, rfl⟩) ?_
        refine Det.cons 13 (ins := [(33, _), (42, _)]) (.new 3 9 z_F rfl rfl (.new 12 0 z_F rfl rfl .nil)) (fun e_ => .inl ⟨rfl, V1.t (V1.pick rfl z_B) ⟨rfl, rfl⟩⟩) ?_
        refine Det.nil 14 (l := [(0, _), (1, _), (10, _), (11, _), (43, _)]) (.old z_B z_F (.old z_B z_F (.old z_B z_F (.old z_B z_F (.new 13 0 z_F rfl rfl .nil))))) (fun e_ => ?_)
        refine T.cond_f rfl ?_
        refine T.exit ?_
        exact ⟨i, _, _, trivial, (.cons rfl .nil), (.cons rfl (.cons rfl (.cons rfl .nil))), z_A, ⟨rfl, hprt, fun h => by omega⟩⟩
    ·
      rintro i e_ L ⟨rfl, hprt, hgi⟩
      have hp1 := hprt.lo
      have hp2 := hprt.hi
      have hp3 := hprt.le
      refine T.cut (σ := Nat) (l0 := [(0, _), (1, _), (10, _)]) (fun x => [(11, .int .i64 ((x : Nat) : Int))]) (fun j L => L = (⟨b, off, (xs).map u32V, size⟩ : Blk) :: G ∧ Prt a e i j xs ∧ (i ≤ j → g xs a ≤ g xs i) ∧ (i ≤ j → g xs j < g xs a)) (.cons z_B (.cons z_B (.cons z_B .nil))) ?_ ?_
      ·
        refine T.block ?_
        refine T.loopL (σ := Nat) (l0 := [(0, _), (1, _), (10, _)]) (fun x => [(11, .int .i64 ((x : Nat) : Int))]) (fun j L => L = (⟨b, off, (xs).map u32V, size⟩ : Blk) :: G ∧ j ≤ j0 ∧ Prt a e i j xs) (fun j => j) j0 (.cons rfl .nil) (.cons z_B (.cons z_B (.cons z_B .nil))) z_A (⟨rfl, Nat.le_refl _, hprt⟩) ?_
        rintro j e_ L ⟨rfl, hjj, hprt⟩
        have hp1 := hprt.lo
        have hp2 := hprt.hi
        have hp3 := hprt.le
        refine T.seq ?_
        refine T.seq ?_
        rcases Nat.lt_or_ge j i with hij | hij
        rotate_left
        rcases Nat.lt_or_ge (g xs j) (g xs a) with hl | hl
        ·
          refine T.drawDet' mixed z_F ?_
          refine Det.cons 0 (ins := [(10, _)]) (.old z_B z_F .nil) (fun e_ => .inl ⟨rfl, V1.t (V1.move' z_B) ⟨rfl, rfl⟩⟩) ?_
          refine Det.cons 1 (ins := [(11, _)]) (.old z_B z_F .nil) (fun e_ => .inl ⟨rfl, V1.t (V1.move' z_B) ⟨rfl, rfl⟩⟩) ?_
          refine Det.cons 2 (ins := [(46, _), (47, _)]) (.new 0 1 z_F rfl rfl (.new 1 0 z_F rfl rfl .nil)) (fun e_ => .inl ⟨rfl, V1.t (V1.leI (r := true) rfl rfl (decide_eq_true (by omega))) ⟨rfl, rfl⟩⟩) ?_
          refine Det.cons 3 (ins := [(48, _)]) (.new 2 0 z_F rfl rfl .nil) (fun e_ => .inl ⟨rfl, V1.t (V1.move' z_B) ⟨rfl, rfl⟩⟩) ?_
          refine Det.cons 4 (ins := [(0, _), (49, _)]) (.old z_B z_F (.new 3 0 z_F rfl rfl .nil)) (fun e_ => .inl ⟨rfl, V1.t (V1.move' z_B) ⟨rfl, rfl⟩⟩) ?_
          refine Det.cons 5 (ins := [(11, _), (49, _)]) (.old z_B z_F (.new 3 1 z_F rfl rfl .nil)) (fun e_ => .inl ⟨rfl, V1.t (V1.move' z_B) ⟨rfl, rfl⟩⟩) ?_
          refine Det.cons 6 (ins := [(49, _), (50, _), (51, _)]) (.new 3 2 z_F rfl rfl (.new 4 1 z_F rfl rfl (.new 5 0 z_F rfl rfl .nil))) (fun e_ => .inl ⟨rfl, V1.t (V1.indexAddrS ty_36 sz_27 rfl rfl (by omega) (by omega)) ⟨rfl, rfl⟩⟩) ?_
          refine Det.cons 7 (ins := [(49, _), (52, _)]) (.new 3 3 z_F rfl rfl (.new 6 0 z_F rfl rfl .nil)) (fun e_ => .inl ⟨rfl, V1.t (V1.load1 (v := u32V (g xs (j))) one_27 rfl (ib_rd (cs := (xs).map u32V) (k := j) z_D (gV (by omega)))) ⟨rfl, rfl⟩⟩) ?_
          refine Det.cons 8 (ins := [(0, _), (49, _)]) (.old z_B z_F (.new 3 4 z_F rfl rfl .nil)) (fun e_ => .inl ⟨rfl, V1.t (V1.move' z_B) ⟨rfl, rfl⟩⟩) ?_
          refine Det.cons 9 (ins := [(1, _), (49, _)]) (.old z_B z_F (.new 3 5 z_F rfl rfl .nil)) (fun e_ => .inl ⟨rfl, V1.t (V1.move' z_B) ⟨rfl, rfl⟩⟩) ?_
          refine Det.cons 10 (ins := [(49, _), (54, _), (55, _)]) (.new 3 6 z_F rfl rfl (.new 8 1 z_F rfl rfl (.new 9 0 z_F rfl rfl .nil))) (fun e_ => .inl ⟨rfl, V1.t (V1.indexAddrS ty_36 sz_27 rfl rfl (by omega) (by omega)) ⟨rfl, rfl⟩⟩) ?_
          refine Det.cons 11 (ins := [(49, _), (56, _)]) (.new 3 7 z_F rfl rfl (.new 10 0 z_F rfl rfl .nil)) (fun e_ => .inl ⟨rfl, V1.t (V1.load1 (v := u32V (g xs (a))) one_27 rfl (ib_rd (cs := (xs).map u32V) (k := a) z_D (gV (by omega)))) ⟨rfl, rfl⟩⟩) ?_
          refine Det.cons 12 (ins := [(49, _), (53, _), (57, _)]) (v := .bool true) (.new 3 8 z_F rfl rfl (.new 7 4 z_F rfl rfl (.new 11 0 z_F rfl rfl .nil))) (fun e_ => .inl ⟨rfl, ?_⟩) ?_
          · refine T1.call0 has_66 rfl (fun w hs => LessI_any (g xs (j) : Int) (g xs (a) : Int) w) (fun v_ hv => ?_)
            obtain rfl := hv
            rw [decide_eq_true (by omega)]
            exact ⟨rfl, rfl⟩
          refine Det.cons 13 (ins := [(49, _), (58, _)]) (.new 3 9 z_F rfl rfl (.new 12 0 z_F rfl rfl .nil)) (fun e_ => .inl ⟨rfl, V1.t (V1.not rfl rfl) ⟨rfl, rfl⟩⟩) ?_
          refine Det.cons 14 (ins := [(49, _), (59, _)]) (.new 3 10 z_F rfl rfl (.new 13 0 z_F rfl rfl .nil)) (fun e_ => .inl ⟨rfl, V1.t (V1.pick rfl z_B) ⟨rfl, rfl⟩⟩) ?_
          refine Det.nil 15 (l := [(0, _), (1, _), (10, _), (11, _), (60, _)]) (.old z_B z_F (.old z_B z_F (.old z_B z_F (.old z_B z_F (.new 14 0 z_F rfl rfl .nil))))) (fun e_ => ?_)
          refine T.cond_f rfl ?_
          refine T.exit ?_
          exact ⟨j, _, _, trivial, (.cons rfl .nil), (.cons rfl (.cons rfl (.cons rfl .nil))), z_A, ⟨rfl, hprt, fun h => hgi (by omega), fun h => by omega⟩⟩
        ·
          refine T.drawDet' mixed z_F ?_
          refine Det.cons 0 (ins := [(10, _)]) (.old z_B z_F .nil) (fun e_ => .inl ⟨rfl, V1.t (V1.move' z_B) ⟨rfl, rfl⟩⟩) ?_
          refine Det.cons 1 (ins := [(11, _)]) (.old z_B z_F .nil) (fun e_ => .inl ⟨rfl, V1.t (V1.move' z_B) ⟨rfl, rfl⟩⟩) ?_
          refine Det.cons 2 (ins := [(46, _), (47, _)]) (.new 0 1 z_F rfl rfl (.new 1 0 z_F rfl rfl .nil)) (fun e_ => .inl ⟨rfl, V1.t (V1.leI (r := true) rfl rfl (decide_eq_true (by omega))) ⟨rfl, rfl⟩⟩) ?_
          refine Det.cons 3 (ins := [(48, _)]) (.new 2 0 z_F rfl rfl .nil) (fun e_ => .inl ⟨rfl, V1.t (V1.move' z_B) ⟨rfl, rfl⟩⟩) ?_
          refine Det.cons 4 (ins := [(0, _), (49, _)]) (.old z_B z_F (.new 3 0 z_F rfl rfl .nil)) (fun e_ => .inl ⟨rfl, V1.t (V1.move' z_B) ⟨rfl, rfl⟩⟩) ?_
          refine Det.cons 5 (ins := [(11, _), (49, _)]) (.old z_B z_F (.new 3 1 z_F rfl rfl .nil)) (fun e_ => .inl ⟨rfl, V1.t (V1.move' z_B) ⟨rfl, rfl⟩⟩) ?_
          refine Det.cons 6 (ins := [(49, _), (50, _), (51, _)]) (.new 3 2 z_F rfl rfl (.new 4 1 z_F rfl rfl (.new 5 0 z_F rfl rfl .nil))) (fun e_ => .inl ⟨rfl, V1.t (V1.indexAddrS ty_36 sz_27 rfl rfl (by omega) (by omega)) ⟨rfl, rfl⟩⟩) ?_
          refine Det.cons 7 (ins := [(49, _), (52, _)]) (.new 3 3 z_F rfl rfl (.new 6 0 z_F rfl rfl .nil)) (fun e_ => .inl ⟨rfl, V1.t (V1.load1 (v := u32V (g xs (j))) one_27 rfl (ib_rd (cs := (xs).map u32V) (k := j) z_D (gV (by omega)))) ⟨rfl, rfl⟩⟩) ?_
          refine Det.cons 8 (ins := [(0, _), (49, _)]) (.old z_B z_F (.new 3 4 z_F rfl rfl .nil)) (fun e_ => .inl ⟨rfl, V1.t (V1.move' z_B) ⟨rfl, rfl⟩⟩) ?_
          refine Det.cons 9 (ins := [(1, _), (49, _)]) (.old z_B z_F (.new 3 5 z_F rfl rfl .nil)) (fun e_ => .inl ⟨rfl, V1.t (V1.move' z_B) ⟨rfl, rfl⟩⟩) ?_
          refine Det.cons 10 (ins := [(49, _), (54, _), (55, _)]) (.new 3 6 z_F rfl rfl (.new 8 1 z_F rfl rfl (.new 9 0 z_F rfl rfl .nil))) (fun e_ => .inl ⟨rfl, V1.t (V1.indexAddrS ty_36 sz_27 rfl rfl (by omega) (by omega)) ⟨rfl, rfl⟩⟩) ?_
          refine Det.cons 11 (ins := [(49, _), (56, _)]) (.new 3 7 z_F rfl rfl (.new 10 0 z_F rfl rfl .nil)) (fun e_ => .inl ⟨rfl, V1.t (V1.load1 (v := u32V (g xs (a))) one_27 rfl (ib_rd (cs := (xs).map u32V) (k := a) z_D (gV (by omega)))) ⟨rfl, rfl⟩⟩) ?_
          refine Det.cons 12 (ins := [(49, _), (53, _), (57, _)]) (v := .bool false) (.new 3 8 z_F rfl rfl (.new 7 4 z_F rfl rfl (.new 11 0 z_F rfl rfl .nil))) (fun e_ => .inl ⟨rfl, ?_⟩) ?_
          · refine T1.call0 has_66 rfl (fun w hs => LessI_any (g xs (j) : Int) (g xs (a) : Int) w) (fun v_ hv => ?_)
            obtain rfl := hv
            rw [decide_eq_false (by omega)]
            exact ⟨rfl, rfl⟩
          refine Det.cons 13 (ins := [(49, _), (58, _)]) (.new 3 9 z_F rfl rfl (.new 12 0 z_F rfl rfl .nil)) (fun e_ => .inl ⟨rfl, V1.t (V1.not rfl rfl) ⟨rfl, rfl⟩⟩) ?_
          refine Det.cons 14 (ins := [(49, _), (59, _)]) (.new 3 10 z_F rfl rfl (.new 13 0 z_F rfl rfl .nil)) (fun e_ => .inl ⟨rfl, V1.t (V1.pick rfl z_B) ⟨rfl, rfl⟩⟩) ?_
          refine Det.nil 15 (l := [(0, _), (1, _), (10, _), (11, _), (60, _)]) (.old z_B z_F (.old z_B z_F (.old z_B z_F (.old z_B z_F (.new 14 0 z_F rfl rfl .nil))))) (fun e_ => ?_)
          refine T.cond_t rfl ?_
          refine T.skip ?_
          refine T.block ?_
          refine T.region ?_
          refine TL.cons rfl (V1.t (V1.move' z_B) ?_)
          refine TL.cons rfl (V1.t (V1.sub (c := ((j - 1 : Nat) : Int)) rfl rfl (by rw [wrap_i64 _ (by omega) (by omega)]; omega)) ?_)
          refine TL.cons rfl (V1.t (V1.assign' z_B) ?_)
          refine TL.nil ?_
          exact ⟨j - 1, _, _, (by simp only; omega), (.cons rfl .nil), (.cons rfl (.cons rfl (.cons rfl .nil))), z_A, ⟨rfl, by omega, hprt.down (by omega) (by omega)⟩⟩
        ·
          refine T.drawDet' mixed z_F ?_
          refine Det.cons 0 (ins := [(10, _)]) (.old z_B z_F .nil) (fun e_ => .inl ⟨rfl, V1.t (V1.move' z_B) ⟨rfl, rfl⟩⟩) ?_
          refine Det.cons 1 (ins := [(11, _)]) (.old z_B z_F .nil) (fun e_ => .inl ⟨rfl, V1.t (V1.move' z_B) ⟨rfl, rfl⟩⟩) ?_
          refine Det.cons 2 (ins := [(46, _), (47, _)]) (.new 0 1 z_F rfl rfl (.new 1 0 z_F rfl rfl .nil)) (fun e_ => .inl ⟨rfl, V1.t (V1.leI (r := false) rfl rfl (decide_eq_false (by omega))) ⟨rfl, rfl⟩⟩) ?_
          refine Det.cons 3 (ins := [(48, _)]) (.new 2 0 z_F rfl rfl .nil) (fun e_ => .inl ⟨rfl, V1.t (V1.move' z_B) ⟨rfl, rfl⟩⟩) ?_
          refine Det.cons 4 (ins := [(49, _)]) (.new 3 0 z_F rfl rfl .nil) (fun e_ => .inr ⟨rfl, rfl⟩) ?_
          refine Det.cons 5 (ins := [(49, _)]) (.new 3 1 z_F rfl rfl .nil) (fun e_ => .inr ⟨rfl, rfl⟩) ?_
          refine Det.cons 6 (ins := [(49, _)]) (.new 3 2 z_F rfl rfl .nil) (fun e_ => .inr ⟨rfl, rfl⟩) ?_
          refine Det.cons 7 (ins := [(49, _)]) (.new 3 3 z_F rfl rfl .nil) (fun e_ => .inr ⟨rfl, rfl⟩) ?_
          refine Det.cons 8 (ins := [(49, _)]) (.new 3 4 z_F rfl rfl .nil) (fun e_ => .inr ⟨rfl, rfl⟩) ?_
          refine Det.cons 9 (ins := [(49, _)]) (.new 3 5 z_F rfl rfl .nil) (fun e_ => .inr ⟨rfl, rfl⟩) ?_
          refine Det.cons 10 (ins := [(49, _)]) (.new 3 6 z_F rfl rfl .nil) (fun e_ => .inr ⟨rfl, rfl⟩) ?_
          refine Det.cons 11 (ins := [(49, _)]) (.new 3 7 z_F rfl rfl .nil) (fun e_ => .inr ⟨rfl, rfl⟩) ?_
          refine Det.cons 12 (ins := [(49, _)]) (.new 3 8 z_F rfl rfl .nil) (fun e_ => .inr ⟨rfl, rfl⟩) ?_
          refine Det.cons 13 (ins := [(49, _)]) (.new 3 9 z_F rfl rfl .nil) (fun e_ => .inr ⟨rfl, rfl⟩) ?_
          refine Det.cons 14 (ins := [(49, _), (59, _)]) (.new 3 10 z_F rfl rfl (.new 13 0 z_F rfl rfl .nil)) (fun e_ => .inl ⟨rfl, V1.t (V1.pick rfl z_B) ⟨rfl, rfl⟩⟩) ?_
          refine Det.nil 15 (l := [(0, _), (1, _), (10, _), (11, _), (60, _)]) (.old z_B z_F (.old z_B z_F (.old z_B z_F (.old z_B z_F (.new 14 0 z_F rfl rfl .nil))))) (fun e_ => ?_)
          refine T.cond_f rfl ?_
          refine T.exit ?_
          exact ⟨j, _, _, trivial, (.cons rfl .nil), (.cons rfl (.cons rfl (.cons rfl .nil))), z_A, ⟨rfl, hprt, fun h => hgi (by omega), fun h => by omega⟩⟩
      ·
        rintro j e_ L ⟨rfl, hprt, hgi, hgj⟩
        have hp1 := hprt.lo
        have hp2 := hprt.hi
        have hp3 := hprt.le
        refine T.seq ?_
        refine T.seq ?_
        refine T.live (l := [(0, _), (1, _), (10, _), (11, _)]) (.cons z_B (.cons z_B (.cons z_B (.cons z_B .nil)))) (fun e_ => ?_)
        refine T.region ?_
        refine TL.cons rfl (V1.t (V1.move' z_B) ?_)
        refine TL.cons rfl (V1.t (V1.move' z_B) ?_)
        refine TL.cons rfl (T1.gtI_split rfl rfl (fun h7 => ?_) (fun h7 => ?_))
        ·
          refine TL.nil ?_
          refine T.cond_t rfl ?_
          refine T.seq ?_
          refine T.drawZ (fun L_ => Find L_ (⟨b, off, (xs).map u32V, size⟩ : Blk)) 13 mixed z_D ?_
          refine TZ.pure 0 rfl z_F z_F z_F z_F rfl (fun _ _ _ h => h) (fun _ => V1.move' z_B) ?_
          refine TZ.pure 1 rfl z_F z_F z_F z_F rfl (fun _ _ _ h => h) (fun _ => V1.move' z_B) ?_
          refine TZ.pure 2 rfl z_F z_F z_F z_F rfl (fun _ _ _ h => h) (fun _ => V1.move' z_B) ?_
          refine TZ.pure 3 rfl z_F z_F z_F z_F rfl (fun _ _ _ h => h) (fun _ => V1.move' z_B) ?_
          refine TZ.pure 4 rfl z_F z_F z_F z_F rfl (fun _ _ _ h => h) (fun _ => V1.move' z_B) ?_
          refine TZ.pure 5 rfl z_F z_F z_F z_F rfl (fun _ _ _ h => h) (fun _ => V1.move' z_B) ?_
          refine TZ.pure 6 rfl z_F z_F z_F z_F rfl (fun _ _ _ h => h) (fun _ => V1.indexAddrS ty_36 sz_27 rfl rfl (by omega) (by omega)) ?_
          refine TZ.pure 8 rfl z_F z_F z_F z_F rfl (fun _ _ _ h => h) (fun _ => V1.move' z_B) ?_
          refine TZ.pure 9 rfl z_F z_F z_F z_F rfl (fun _ _ _ h => h) (fun _ => V1.move' z_B) ?_
          refine TZ.pure 10 rfl z_F z_F z_F z_F rfl (fun _ _ _ h => h) (fun _ => V1.indexAddrS ty_36 sz_27 rfl rfl (by omega) (by omega)) ?_
          refine TZ.read 7 rfl z_F z_F z_F z_F rfl (fun _ _ _ h => h) (fun L_ k1_ => V1.load1 (v := u32V (g xs (a))) one_27 rfl (ib_rd (cs := (xs).map u32V) (k := a) z_D (gV (by omega)))) ?_
          refine TZ.read 11 rfl z_F z_F z_F z_F rfl (fun _ _ _ h => h) (fun L_ k1_ => V1.load1 (v := u32V (g xs (j))) one_27 rfl (ib_rd (cs := (xs).map u32V) (k := j) z_D (gV (by omega)))) ?_
          refine TZ.pure 12 rfl z_F z_F z_F z_F rfl (fun _ _ _ h => h) (fun _ => V1.indexAddrS ty_36 sz_27 rfl rfl (by omega) (by omega)) ?_
          refine TZ.one 13 z_F rfl z_F rfl (T1.storeE (o := off + (j) * 1) (off := off) (size := size) (cells := (xs).map u32V) (cells' := ((xs).set (j) (g xs (a))).map u32V) (v := u32V (g xs (a))) rfl rfl sz_27 rfl (by rw [show off + (j) * 1 - off = j by omega]; exact List.map_set.symm) z_H (by omega) (by simp only [List.length_map, List.length_set]; omega) ?_)
          refine TZ.pure 14 rfl z_F z_F z_F z_F rfl (fun _ _ _ h => h) (fun _ => V1.indexAddrS ty_36 sz_27 rfl rfl (by omega) (by omega)) ?_
          refine TZ.one 15 z_F rfl z_F rfl (T1.storeE (o := off + (a) * 1) (off := off) (size := size) (cells := ((xs).set (j) (g xs (a))).map u32V) (cells' := (((xs).set (j) (g xs (a))).set (a) (g xs (j))).map u32V) (v := u32V (g xs (j))) rfl rfl sz_27 rfl (by rw [show off + (a) * 1 - off = a by omega]; exact List.map_set.symm) z_H (by omega) (by simp only [List.length_map, List.length_set]; omega) ?_)
          refine TZ.done z_F ?_
          refine T.seq ?_
          refine T.live (l := [(11, _)]) (.cons z_B .nil) (fun e_ => ?_)
          refine T.region ?_
          refine TL.cons rfl (V1.t (V1.move' z_B) ?_)
          refine TL.cons rfl (V1.t (V1.assign' z_B) ?_)
          refine TL.cons rfl (V1.t (V1.assign' z_B) ?_)
          refine TL.nil ?_
          refine T.ret ?_
          first
            | exact ⟨_, _ :: G, _, .cons (.tmp z_B) (.cons (.tmp z_B) .nil), z_A, [_], rfl, swp xs j a, j, _, rfl, rfl, hsw.trans (Sw.swap (by omega) (by omega) (by omega) (by omega) (by omega)), hprt.done (by omega) (by omega)⟩
            | exact ⟨_, _ :: G, _, .cons (.tmp z_B) (.cons (.tmp z_B) .nil), z_A, [_], rfl, swp ys j a, j, _, rfl, rfl, hsw.trans (Sw.swap (by omega) (by omega) (by omega) (by omega) (by omega)), hprt.done (by omega) (by omega)⟩
        ·
          have hgi2 := hgi (by omega)
          have hgj2 := hgj (by omega)
          refine TL.nil ?_
          refine T.cond_f rfl ?_
          refine T.skip ?_
          refine T.seq ?_
          refine T.drawZ (fun L_ => Find L_ (⟨b, off, (xs).map u32V, size⟩ : Blk)) 13 mixed z_D ?_
          refine TZ.pure 0 rfl z_F z_F z_F z_F rfl (fun _ _ _ h => h) (fun _ => V1.move' z_B) ?_
          refine TZ.pure 1 rfl z_F z_F z_F z_F rfl (fun _ _ _ h => h) (fun _ => V1.move' z_B) ?_
          refine TZ.pure 2 rfl z_F z_F z_F z_F rfl (fun _ _ _ h => h) (fun _ => V1.move' z_B) ?_
          refine TZ.pure 3 rfl z_F z_F z_F z_F rfl (fun _ _ _ h => h) (fun _ => V1.move' z_B) ?_
          refine TZ.pure 4 rfl z_F z_F z_F z_F rfl (fun _ _ _ h => h) (fun _ => V1.move' z_B) ?_
          refine TZ.pure 5 rfl z_F z_F z_F z_F rfl (fun _ _ _ h => h) (fun _ => V1.move' z_B) ?_
          refine TZ.pure 6 rfl z_F z_F z_F z_F rfl (fun _ _ _ h => h) (fun _ => V1.indexAddrS ty_36 sz_27 rfl rfl (by omega) (by omega)) ?_
          refine TZ.pure 8 rfl z_F z_F z_F z_F rfl (fun _ _ _ h => h) (fun _ => V1.move' z_B) ?_
          refine TZ.pure 9 rfl z_F z_F z_F z_F rfl (fun _ _ _ h => h) (fun _ => V1.move' z_B) ?_
          refine TZ.pure 10 rfl z_F z_F z_F z_F rfl (fun _ _ _ h => h) (fun _ => V1.indexAddrS ty_36 sz_27 rfl rfl (by omega) (by omega)) ?_
          refine TZ.read 7 rfl z_F z_F z_F z_F rfl (fun _ _ _ h => h) (fun L_ k1_ => V1.load1 (v := u32V (g xs (j))) one_27 rfl (ib_rd (cs := (xs).map u32V) (k := j) z_D (gV (by omega)))) ?_
          refine TZ.read 11 rfl z_F z_F z_F z_F rfl (fun _ _ _ h => h) (fun L_ k1_ => V1.load1 (v := u32V (g xs (i))) one_27 rfl (ib_rd (cs := (xs).map u32V) (k := i) z_D (gV (by omega)))) ?_
          refine TZ.pure 12 rfl z_F z_F z_F z_F rfl (fun _ _ _ h => h) (fun _ => V1.indexAddrS ty_36 sz_27 rfl rfl (by omega) (by omega)) ?_
          refine TZ.one 13 z_F rfl z_F rfl (T1.storeE (o := off + (i) * 1) (off := off) (size := size) (cells := (xs).map u32V) (cells' := ((xs).set (i) (g xs (j))).map u32V) (v := u32V (g xs (j))) rfl rfl sz_27 rfl (by rw [show off + (i) * 1 - off = i by omega]; exact List.map_set.symm) z_H (by omega) (by simp only [List.length_map, List.length_set]; omega) ?_)
          refine TZ.pure 14 rfl z_F z_F z_F z_F rfl (fun _ _ _ h => h) (fun _ => V1.indexAddrS ty_36 sz_27 rfl rfl (by omega) (by omega)) ?_
          refine TZ.one 15 z_F rfl z_F rfl (T1.storeE (o := off + (j) * 1) (off := off) (size := size) (cells := ((xs).set (i) (g xs (j))).map u32V) (cells' := (((xs).set (i) (g xs (j))).set (j) (g xs (i))).map u32V) (v := u32V (g xs (i))) rfl rfl sz_27 rfl (by rw [show off + (j) * 1 - off = j by omega]; exact List.map_set.symm) z_H (by omega) (by simp only [List.length_map, List.length_set]; omega) ?_)
          refine TZ.done z_F ?_
          refine T.seq ?_
          refine T.live (l := [(0, _), (1, _), (10, _), (11, _)]) (.cons z_B (.cons z_B (.cons z_B (.cons z_B .nil)))) (fun e_ => ?_)
          refine T.region ?_
          refine TL.cons rfl (V1.t (V1.move' z_B) ?_)
          refine TL.cons rfl (V1.t (V1.add (c := ((i + 1 : Nat) : Int)) rfl rfl (by rw [wrap_i64 _ (by omega) (by omega)]; omega)) ?_)
          refine TL.cons rfl (V1.t (V1.assign' z_B) ?_)
          refine TL.nil ?_
          refine T.seq ?_
          refine T.region ?_
          refine TL.cons rfl (V1.t (V1.move' z_B) ?_)
          refine TL.cons rfl (V1.t (V1.sub (c := ((j - 1 : Nat) : Int)) rfl rfl (by rw [wrap_i64 _ (by omega) (by omega)]; omega)) ?_)
          refine TL.cons rfl (V1.t (V1.assign' z_B) ?_)
          refine TL.nil ?_
          refine T.seq ?_
          refine T.block ?_
          refine T.loopL (σ := Nat × Nat × List Nat) (l0 := [(0, _), (1, _)]) (fun x => [(10, .int .i64 ((x.1 : Nat) : Int)), (11, .int .i64 ((x.2.1 : Nat) : Int))]) (fun x L => L = (⟨b, off, (x.2.2).map u32V, size⟩ : Blk) :: G ∧ Sw a e xs0 x.2.2 ∧ Prt a e x.1 x.2.1 x.2.2) (fun x => e - x.1) (i + 1, j - 1, swp xs i j) (.cons rfl (.cons rfl .nil)) (.cons z_B (.cons z_B .nil)) z_A (⟨rfl, hsw.trans (Sw.swap (by omega) (by omega) (by omega) (by omega) (by omega)), hprt.swap (by omega) (by omega) hgi2 hgj2⟩) ?_
          rintro ⟨i0, j0, ys⟩ e_ L ⟨rfl, hsw, hprt⟩
          dsimp only at hsw hprt
          dsimp only
          have hyn := hsw.len
          have hp1 := hprt.lo
          have hp2 := hprt.hi
          have hp3 := hprt.le
          refine T.block ?_
          refine T.cut (σ := Nat) (l0 := [(0, _), (1, _), (11, _)]) (fun x => [(10, .int .i64 ((x : Nat) : Int))]) (fun k L => L = (⟨b, off, (ys).map u32V, size⟩ : Blk) :: G ∧ i0 ≤ k ∧ Prt a e k j0 ys ∧ (k ≤ j0 → g ys a ≤ g ys k)) (.cons z_B (.cons z_B (.cons z_B .nil))) ?_ ?_
          ·
            refine T.block ?_
            refine T.loopL (σ := Nat) (l0 := [(0, _), (1, _), (11, _)]) (fun x => [(10, .int .i64 ((x : Nat) : Int))]) (fun i L => L = (⟨b, off, (ys).map u32V, size⟩ : Blk) :: G ∧ i0 ≤ i ∧ Prt a e i j0 ys) (fun i => e - i) i0 (.cons rfl .nil) (.cons z_B (.cons z_B (.cons z_B .nil))) z_A (⟨rfl, Nat.le_refl _, hprt⟩) ?_
            rintro i e_ L ⟨rfl, hki, hprt⟩
            have hp1 := hprt.lo
            have hp2 := hprt.hi
            have hp3 := hprt.le
            refine T.seq ?_
            refine T.seq ?_
            rcases Nat.lt_or_ge j0 i with hij | hij
            rotate_left
            rcases Nat.lt_or_ge (g ys i) (g ys a) with hl | hl
            ·
              refine T.drawDet' mixed z_F ?_
              refine Det.cons 0 (ins := [(10, _)]) (.old z_B z_F .nil) (fun e_ => .inl ⟨rfl, V1.t (V1.move' z_B) ⟨rfl, rfl⟩⟩) ?_
              refine Det.cons 1 (ins := [(11, _)]) (.old z_B z_F .nil) (fun e_ => .inl ⟨rfl, V1.t (V1.move' z_B) ⟨rfl, rfl⟩⟩) ?_
              refine Det.cons 2 (ins := [(99, _), (100, _)]) (.new 0 1 z_F rfl rfl (.new 1 0 z_F rfl rfl .nil)) (fun e_ => .inl ⟨rfl, V1.t (V1.leI (r := true) rfl rfl (decide_eq_true (by omega))) ⟨rfl, rfl⟩⟩) ?_
              refine Det.cons 3 (ins := [(101, _)]) (.new 2 0 z_F rfl rfl .nil) (fun e_ => .inl ⟨rfl, V1.t (V1.move' z_B) ⟨rfl, rfl⟩⟩) ?_
              refine Det.cons 4 (ins := [(0, _), (102, _)]) (.old z_B z_F (.new 3 0 z_F rfl rfl .nil)) (fun e_ => .inl ⟨rfl, V1.t (V1.move' z_B) ⟨rfl, rfl⟩⟩) ?_
              refine Det.cons 5 (ins := [(10, _), (102, _)]) (.old z_B z_F (.new 3 1 z_F rfl rfl .nil)) (fun e_ => .inl ⟨rfl, V1.t (V1.move' z_B) ⟨rfl, rfl⟩⟩) ?_
              refine Det.cons 6 (ins := [(102, _), (103, _), (104, _)]) (.new 3 2 z_F rfl rfl (.new 4 1 z_F rfl rfl (.new 5 0 z_F rfl rfl .nil))) (fun e_ => .inl ⟨rfl, V1.t (V1.indexAddrS ty_36 sz_27 rfl rfl (by omega) (by omega)) ⟨rfl, rfl⟩⟩) ?_
              refine Det.cons 7 (ins := [(102, _), (105, _)]) (.new 3 3 z_F rfl rfl (.new 6 0 z_F rfl rfl .nil)) (fun e_ => .inl ⟨rfl, V1.t (V1.load1 (v := u32V (g ys (i))) one_27 rfl (ib_rd (cs := (ys).map u32V) (k := i) z_D (gV (by omega)))) ⟨rfl, rfl⟩⟩) ?_
              refine Det.cons 8 (ins := [(0, _), (102, _)]) (.old z_B z_F (.new 3 4 z_F rfl rfl .nil)) (fun e_ => .inl ⟨rfl, V1.t (V1.move' z_B) ⟨rfl, rfl⟩⟩) ?_
              refine Det.cons 9 (ins := [(1, _), (102, _)]) (.old z_B z_F (.new 3 5 z_F rfl rfl .nil)) (fun e_ => .inl ⟨rfl, V1.t (V1.move' z_B) ⟨rfl, rfl⟩⟩) ?_
              refine Det.cons 10 (ins := [(102, _), (107, _), (108, _)]) (.new 3 6 z_F rfl rfl (.new 8 1 z_F rfl rfl (.new 9 0 z_F rfl rfl .nil))) (fun e_ => .inl ⟨rfl, V1.t (V1.indexAddrS ty_36 sz_27 rfl rfl (by omega) (by omega)) ⟨rfl, rfl⟩⟩) ?_
              refine Det.cons 11 (ins := [(102, _), (109, _)]) (.new 3 7 z_F rfl rfl (.new 10 0 z_F rfl rfl .nil)) (fun e_ => .inl ⟨rfl, V1.t (V1.load1 (v := u32V (g ys (a))) one_27 rfl (ib_rd (cs := (ys).map u32V) (k := a) z_D (gV (by omega)))) ⟨rfl, rfl⟩⟩) ?_
              refine Det.cons 12 (ins := [(102, _), (106, _), (110, _)]) (v := .bool true) (.new 3 8 z_F rfl rfl (.new 7 4 z_F rfl rfl (.new 11 0 z_F rfl rfl .nil))) (fun e_ => .inl ⟨rfl, ?_⟩) ?_
              · refine T1.call0 has_66 rfl (fun w hs => LessI_any (g ys (i) : Int) (g ys (a) : Int) w) (fun v_ hv => ?_)
                obtain rfl := hv
                rw [decide_eq_true (by omega)]
                exact ⟨rfl, rfl⟩
              refine Det.cons 13 (ins := [(102, _), (111, _)]) (.new 3 9 z_F rfl rfl (.new 12 0 z_F rfl rfl .nil)) (fun e_ => .inl ⟨rfl, V1.t (V1.pick rfl z_B) ⟨rfl, rfl⟩⟩) ?_
              refine Det.nil 14 (l := [(0, _), (1, _), (10, _), (11, _), (112, _)]) (.old z_B z_F (.old z_B z_F (.old z_B z_F (.old z_B z_F (.new 13 0 z_F rfl rfl .nil))))) (fun e_ => ?_)
              refine T.cond_t rfl ?_
              refine T.skip ?_
              refine T.block ?_
              refine T.region ?_
              refine TL.cons rfl (V1.t (V1.move' z_B) ?_)
              refine TL.cons rfl (V1.t (V1.add (c := ((i + 1 : Nat) : Int)) rfl rfl (by rw [wrap_i64 _ (by omega) (by omega)]; omega)) ?_)
              refine TL.cons rfl (V1.t (V1.assign' z_B) ?_)
              refine TL.nil ?_
              exact ⟨i + 1, _, _, (by simp only; omega), (.cons rfl .nil), (.cons rfl (.cons rfl (.cons rfl .nil))), z_A, ⟨rfl, by omega, hprt.up (by omega) (by omega)⟩⟩
            ·
              refine T.drawDet' mixed z_F ?_
              refine Det.cons 0 (ins := [(10, _)]) (.old z_B z_F .nil) (fun e_ => .inl ⟨rfl, V1.t (V1.move' z_B) ⟨rfl, rfl⟩⟩) ?_
              refine Det.cons 1 (ins := [(11, _)]) (.old z_B z_F .nil) (fun e_ => .inl ⟨rfl, V1.t (V1.move' z_B) ⟨rfl, rfl⟩⟩) ?_
              refine Det.cons 2 (ins := [(99, _), (100, _)]) (.new 0 1 z_F rfl rfl (.new 1 0 z_F rfl rfl .nil)) (fun e_ => .inl ⟨rfl, V1.t (V1.leI (r := true) rfl rfl (decide_eq_true (by omega))) ⟨rfl, rfl⟩⟩) ?_
              refine Det.cons 3 (ins := [(101, _)]) (.new 2 0 z_F rfl rfl .nil) (fun e_ => .inl ⟨rfl, V1.t (V1.move' z_B) ⟨rfl, rfl⟩⟩) ?_
              refine Det.cons 4 (ins := [(0, _), (102, _)]) (.old z_B z_F (.new 3 0 z_F rfl rfl .nil)) (fun e_ => .inl ⟨rfl, V1.t (V1.move' z_B) ⟨rfl, rfl⟩⟩) ?_
              refine Det.cons 5 (ins := [(10, _), (102, _)]) (.old z_B z_F (.new 3 1 z_F rfl rfl .nil)) (fun e_ => .inl ⟨rfl, V1.t (V1.move' z_B) ⟨rfl, rfl⟩⟩) ?_
              refine Det.cons 6 (ins := [(102, _), (103, _), (104, _)]) (.new 3 2 z_F rfl rfl (.new 4 1 z_F rfl rfl (.new 5 0 z_F rfl rfl .nil))) (fun e_ => .inl ⟨rfl, V1.t (V1.indexAddrS ty_36 sz_27 rfl rfl (by omega) (by omega)) ⟨rfl, rfl⟩⟩) ?_
              refine Det.cons 7 (ins := [(102, _), (105, _)]) (.new 3 3 z_F rfl rfl (.new 6 0 z_F rfl rfl .nil)) (fun e_ => .inl ⟨rfl, V1.t (V1.load1 (v := u32V (g ys (i))) one_27 rfl (ib_rd (cs := (ys).map u32V) (k := i) z_D (gV (by omega)))) ⟨rfl, rfl⟩⟩) ?_
              refine Det.cons 8 (ins := [(0, _), (102, _)]) (.old z_B z_F (.new 3 4 z_F rfl rfl .nil)) (fun e_ => .inl ⟨rfl, V1.t (V1.move' z_B) ⟨rfl, rfl⟩⟩) ?_
              refine Det.cons 9 (ins := [(1, _), (102, _)]) (.old z_B z_F (.new 3 5 z_F rfl rfl .nil)) (fun e_ => .inl ⟨rfl, V1.t (V1.move' z_B) ⟨rfl, rfl⟩⟩) ?_
              refine Det.cons 10 (ins := [(102, _), (107, _), (108, _)]) (.new 3 6 z_F rfl rfl (.new 8 1 z_F rfl rfl (.new 9 0 z_F rfl rfl .nil))) (fun e_ => .inl ⟨rfl, V1.t (V1.indexAddrS ty_36 sz_27 rfl rfl (by omega) (by omega)) ⟨rfl, rfl⟩⟩) ?_
              refine Det.cons 11 (ins := [(102, _), (109, _)]) (.new 3 7 z_F rfl rfl (.new 10 0 z_F rfl rfl .nil)) (fun e_ => .inl ⟨rfl, V1.t (V1.load1 (v := u32V (g ys (a))) one_27 rfl (ib_rd (cs := (ys).map u32V) (k := a) z_D (gV (by omega)))) ⟨rfl, rfl⟩⟩) ?_
              refine Det.cons 12 (ins := [(102, _), (106, _), (110, _)]) (v := .bool false) (.new 3 8 z_F rfl rfl (.new 7 4 z_F rfl rfl (.new 11 0 z_F rfl rfl .nil))) (fun e_ => .inl ⟨rfl, ?_⟩) ?_
              · refine T1.call0 has_66 rfl (fun w hs => LessI_any (g ys (i) : Int) (g ys (a) : Int) w) (fun v_ hv => ?_)
                obtain rfl := hv
                rw [decide_eq_false (by omega)]
                exact ⟨rfl, rfl⟩
              refine Det.cons 13 (ins := [(102, _), (111, _)]) (.new 3 9 z_F rfl rfl (.new 12 0 z_F rfl rfl .nil)) (fun e_ => .inl ⟨rfl, V1.t (V1.pick rfl z_B) ⟨rfl, rfl⟩⟩) ?_
              refine Det.nil 14 (l := [(0, _), (1, _), (10, _), (11, _), (112, _)]) (.old z_B z_F (.old z_B z_F (.old z_B z_F (.old z_B z_F (.new 13 0 z_F rfl rfl .nil))))) (fun e_ => ?_)
              refine T.cond_f rfl ?_
              refine T.exit ?_
              exact ⟨i, _, _, trivial, (.cons rfl .nil), (.cons rfl (.cons rfl (.cons rfl .nil))), z_A, ⟨rfl, hki, hprt, fun h => by omega⟩⟩
            ·
              refine T.drawDet' mixed z_F ?_
              refine Det.cons 0 (ins := [(10, _)]) (.old z_B z_F .nil) (fun e_ => .inl ⟨rfl, V1.t (V1.move' z_B) ⟨rfl, rfl⟩⟩) ?_
              refine Det.cons 1 (ins := [(11, _)]) (.old z_B z_F .nil) (fun e_ => .inl ⟨rfl, V1.t (V1.move' z_B) ⟨rfl, rfl⟩⟩) ?_
              refine Det.cons 2 (ins := [(99, _), (100, _)]) (.new 0 1 z_F rfl rfl (.new 1 0 z_F rfl rfl .nil)) (fun e_ => .inl ⟨rfl, V1.t (V1.leI (r := false) rfl rfl (decide_eq_false (by omega))) ⟨rfl, rfl⟩⟩) ?_
              refine Det.cons 3 (ins := [(101, _)]) (.new 2 0 z_F rfl rfl .nil) (fun e_ => .inl ⟨rfl, V1.t (V1.move' z_B) ⟨rfl, rfl⟩⟩) ?_
              refine Det.cons 4 (ins := [(102, _)]) (.new 3 0 z_F rfl rfl .nil) (fun e_ => .inr ⟨rfl, rfl⟩) ?_
              refine Det.cons 5 (ins := [(102, _)]) (.new 3 1 z_F rfl rfl .nil) (fun e_ => .inr ⟨rfl, rfl⟩) ?_
              refine Det.cons 6 (ins := [(102, _)]) (.new 3 2 z_F rfl rfl .nil) (fun e_ => .inr ⟨rfl, rfl⟩) ?_
              refine Det.cons 7 (ins := [(102, _)]) (.new 3 3 z_F rfl rfl .nil) (fun e_ => .inr ⟨rfl, rfl⟩) ?_
              refine Det.cons 8 (ins := [(102, _)]) (.new 3 4 z_F rfl rfl .nil) (fun e_ => .inr ⟨rfl, rfl⟩) ?_
              refine Det.cons 9 (ins := [(102, _)]) (.new 3 5 z_F rfl rfl .nil) (fun e_ => .inr ⟨rfl, rfl⟩) ?_
              refine Det.cons 10 (ins := [(102, _)]) (.new 3 6 z_F rfl rfl .nil) (fun e_ => .inr ⟨rfl, rfl⟩) ?_
              refine Det.cons 11 (ins := [(102, _)]) (.new 3 7 z_F rfl rfl .nil) (fun e_ => .inr ⟨rfl, rfl⟩) ?_
              refine Det.cons 12 (ins := [(102, _)]) (.new 3 8 z_F rfl rfl .nil) (fun e_ => .inr ⟨rfl, rfl⟩) ?_
              refine Det.cons 13 (ins := [(102, _), (111, _)]) (.new 3 9 z_F rfl rfl (.new 12 0 z_F rfl rfl .nil)) (fun e_ => .inl ⟨rfl, V1.t (V1.pick rfl z_B) ⟨rfl, rfl⟩⟩) ?_
              refine Det.nil 14 (l := [(0, _), (1, _), (10, _), (11, _), (112, _)]) (.old z_B z_F (.old z_B z_F (.old z_B z_F (.old z_B z_F (.new 13 0 z_F rfl rfl .nil))))) (fun e_ => ?_)
              refine T.cond_f rfl ?_
              refine T.exit ?_
              exact ⟨i, _, _, trivial, (.cons rfl .nil), (.cons rfl (.cons rfl (.cons rfl .nil))), z_A, ⟨rfl, hki, hprt, fun h => by omega⟩⟩
          ·
            rintro i e_ L ⟨rfl, hki, hprt, hgi⟩
            have hp1 := hprt.lo
            have hp2 := hprt.hi
            have hp3 := hprt.le
            refine T.cut (σ := Nat) (l0 := [(0, _), (1, _), (10, _)]) (fun x => [(11, .int .i64 ((x : Nat) : Int))]) (fun k L => L = (⟨b, off, (ys).map u32V, size⟩ : Blk) :: G ∧ Prt a e i k ys ∧ (i ≤ k → g ys a ≤ g ys i) ∧ (i ≤ k → g ys k < g ys a)) (.cons z_B (.cons z_B (.cons z_B .nil))) ?_ ?_
            ·
              refine T.block ?_
              refine T.loopL (σ := Nat) (l0 := [(0, _), (1, _), (10, _)]) (fun x => [(11, .int .i64 ((x : Nat) : Int))]) (fun j L => L = (⟨b, off, (ys).map u32V, size⟩ : Blk) :: G ∧ j ≤ j0 ∧ Prt a e i j ys) (fun j => j) j0 (.cons rfl .nil) (.cons z_B (.cons z_B (.cons z_B .nil))) z_A (⟨rfl, Nat.le_refl _, hprt⟩) ?_
              rintro j e_ L ⟨rfl, hjj, hprt⟩
              have hp1 := hprt.lo
              have hp2 := hprt.hi
              have hp3 := hprt.le
              refine T.seq ?_
              refine T.seq ?_
              rcases Nat.lt_or_ge j i with hij | hij
              rotate_left
              rcases Nat.lt_or_ge (g ys j) (g ys a) with hl | hl
              ·
                refine T.drawDet' mixed z_F ?_
                refine Det.cons 0 (ins := [(10, _)]) (.old z_B z_F .nil) (fun e_ => .inl ⟨rfl, V1.t (V1.move' z_B) ⟨rfl, rfl⟩⟩) ?_
                refine Det.cons 1 (ins := [(11, _)]) (.old z_B z_F .nil) (fun e_ => .inl ⟨rfl, V1.t (V1.move' z_B) ⟨rfl, rfl⟩⟩) ?_
                refine Det.cons 2 (ins := [(115, _), (116, _)]) (.new 0 1 z_F rfl rfl (.new 1 0 z_F rfl rfl .nil)) (fun e_ => .inl ⟨rfl, V1.t (V1.leI (r := true) rfl rfl (decide_eq_true (by omega))) ⟨rfl, rfl⟩⟩) ?_
                refine Det.cons 3 (ins := [(117, _)]) (.new 2 0 z_F rfl rfl .nil) (fun e_ => .inl ⟨rfl, V1.t (V1.move' z_B) ⟨rfl, rfl⟩⟩) ?_
                refine Det.cons 4 (ins := [(0, _), (118, _)]) (.old z_B z_F (.new 3 0 z_F rfl rfl .nil)) (fun e_ => .inl ⟨rfl, V1.t (V1.move' z_B) ⟨rfl, rfl⟩⟩) ?_
                refine Det.cons 5 (ins := [(11, _), (118, _)]) (.old z_B z_F (.new 3 1 z_F rfl rfl .nil)) (fun e_ => .inl ⟨rfl, V1.t (V1.move' z_B) ⟨rfl, rfl⟩⟩) ?_
                refine Det.cons 6 (ins := [(118, _), (119, _), (120, _)]) (.new 3 2 z_F rfl rfl (.new 4 1 z_F rfl rfl (.new 5 0 z_F rfl rfl .nil))) (fun e_ => .inl ⟨rfl, V1.t (V1.indexAddrS ty_36 sz_27 rfl rfl (by omega) (by omega)) ⟨rfl, rfl⟩⟩) ?_
                refine Det.cons 7 (ins := [(118, _), (121, _)]) (.new 3 3 z_F rfl rfl (.new 6 0 z_F rfl rfl .nil)) (fun e_ => .inl ⟨rfl, V1.t (V1.load1 (v := u32V (g ys (j))) one_27 rfl (ib_rd (cs := (ys).map u32V) (k := j) z_D (gV (by omega)))) ⟨rfl, rfl⟩⟩) ?_
                refine Det.cons 8 (ins := [(0, _), (118, _)]) (.old z_B z_F (.new 3 4 z_F rfl rfl .nil)) (fun e_ => .inl ⟨rfl, V1.t (V1.move' z_B) ⟨rfl, rfl⟩⟩) ?_
                refine Det.cons 9 (ins := [(1, _), (118, _)]) (.old z_B z_F (.new 3 5 z_F rfl rfl .nil)) (fun e_ => .inl ⟨rfl, V1.t (V1.move' z_B) ⟨rfl, rfl⟩⟩) ?_
                refine Det.cons 10 (ins := [(118, _), (123, _), (124, _)]) (.new 3 6 z_F rfl rfl (.new 8 1 z_F rfl rfl (.new 9 0 z_F rfl rfl .nil))) (fun e_ => .inl ⟨rfl, V1.t (V1.indexAddrS ty_36 sz_27 rfl rfl (by omega) (by omega)) ⟨rfl, rfl⟩⟩) ?_
                refine Det.cons 11 (ins := [(118, _), (125, _)]) (.new 3 7 z_F rfl rfl (.new 10 0 z_F rfl rfl .nil)) (fun e_ => .inl ⟨rfl, V1.t (V1.load1 (v := u32V (g ys (a))) one_27 rfl (ib_rd (cs := (ys).map u32V) (k := a) z_D (gV (by omega)))) ⟨rfl, rfl⟩⟩) ?_
                refine Det.cons 12 (ins := [(118, _), (122, _), (126, _)]) (v := .bool true) (.new 3 8 z_F rfl rfl (.new 7 4 z_F rfl rfl (.new 11 0 z_F rfl rfl .nil))) (fun e_ => .inl ⟨rfl, ?_⟩) ?_
                · refine T1.call0 has_66 rfl (fun w hs => LessI_any (g ys (j) : Int) (g ys (a) : Int) w) (fun v_ hv => ?_)
                  obtain rfl := hv
                  rw [decide_eq_true (by omega)]
                  exact ⟨rfl, rfl⟩
                refine Det.cons 13 (ins := [(118, _), (127, _)]) (.new 3 9 z_F rfl rfl (.new 12 0 z_F rfl rfl .nil)) (fun e_ => .inl ⟨rfl, V1.t (V1.not rfl rfl) ⟨rfl, rfl⟩⟩) ?_
                refine Det.cons 14 (ins := [(118, _), (128, _)]) (.new 3 10 z_F rfl rfl (.new 13 0 z_F rfl rfl .nil)) (fun e_ => .inl ⟨rfl, V1.t (V1.pick rfl z_B) ⟨rfl, rfl⟩⟩) ?_
                refine Det.nil 15 (l := [(0, _), (1, _), (10, _), (11, _), (129, _)]) (.old z_B z_F (.old z_B z_F (.old z_B z_F (.old z_B z_F (.new 14 0 z_F rfl rfl .nil))))) (fun e_ => ?_)
                refine T.cond_f rfl ?_
                refine T.exit ?_
                exact ⟨j, _, _, trivial, (.cons rfl .nil), (.cons rfl (.cons rfl (.cons rfl .nil))), z_A, ⟨rfl, hprt, fun h => hgi (by omega), fun h => by omega⟩⟩
              ·
                refine T.drawDet' mixed z_F ?_
                refine Det.cons 0 (ins := [(10, _)]) (.old z_B z_F .nil) (fun e_ => .inl ⟨rfl, V1.t (V1.move' z_B) ⟨rfl, rfl⟩⟩) ?_
                refine Det.cons 1 (ins := [(11, _)]) (.old z_B z_F .nil) (fun e_ => .inl ⟨rfl, V1.t (V1.move' z_B) ⟨rfl, rfl⟩⟩) ?_
                refine Det.cons 2 (ins := [(115, _), (116, _)]) (.new 0 1 z_F rfl rfl (.new 1 0 z_F rfl rfl .nil)) (fun e_ => .inl ⟨rfl, V1.t (V1.leI (r := true) rfl rfl (decide_eq_true (by omega))) ⟨rfl, rfl⟩⟩) ?_
                refine Det.cons 3 (ins := [(117, _)]) (.new 2 0 z_F rfl rfl .nil) (fun e_ => .inl ⟨rfl, V1.t (V1.move' z_B) ⟨rfl, rfl⟩⟩) ?_
                refine Det.cons 4 (ins := [(0, _), (118, _)]) (.old z_B z_F (.new 3 0 z_F rfl rfl .nil)) (fun e_ => .inl ⟨rfl, V1.t (V1.move' z_B) ⟨rfl, rfl⟩⟩) ?_
                refine Det.cons 5 (ins := [(11, _), (118, _)]) (.old z_B z_F (.new 3 1 z_F rfl rfl .nil)) (fun e_ => .inl ⟨rfl, V1.t (V1.move' z_B) ⟨rfl, rfl⟩⟩) ?_
                refine Det.cons 6 (ins := [(118, _), (119, _), (120, _)]) (.new 3 2 z_F rfl rfl (.new 4 1 z_F rfl rfl (.new 5 0 z_F rfl rfl .nil))) (fun e_ => .inl ⟨rfl, V1.t (V1.indexAddrS ty_36 sz_27 rfl rfl (by omega) (by omega)) ⟨rfl, rfl⟩⟩) ?_
                refine Det.cons 7 (ins := [(118, _), (121, _)]) (.new 3 3 z_F rfl rfl (.new 6 0 z_F rfl rfl .nil)) (fun e_ => .inl ⟨rfl, V1.t (V1.load1 (v := u32V (g ys (j))) one_27 rfl (ib_rd (cs := (ys).map u32V) (k := j) z_D (gV (by omega)))) ⟨rfl, rfl⟩⟩) ?_
                refine Det.cons 8 (ins := [(0, _), (118, _)]) (.old z_B z_F (.new 3 4 z_F rfl rfl .nil)) (fun e_ => .inl ⟨rfl, V1.t (V1.move' z_B) ⟨rfl, rfl⟩⟩) ?_
                refine Det.cons 9 (ins := [(1, _), (118, _)]) (.old z_B z_F (.new 3 5 z_F rfl rfl .nil)) (fun e_ => .inl ⟨rfl, V1.t (V1.move' z_B) ⟨rfl, rfl⟩⟩) ?_
                refine Det.cons 10 (ins := [(118, _), (123, _), (124, _)]) (.new 3 6 z_F rfl rfl (.new 8 1 z_F rfl rfl (.new 9 0 z_F rfl rfl .nil))) (fun e_ => .inl ⟨rfl, V1.t (V1.indexAddrS ty_36 sz_27 rfl rfl (by omega) (by omega)) ⟨rfl, rfl⟩⟩) ?_
                refine Det.cons 11 (ins := [(118, _), (125, _)]) (.new 3 7 z_F rfl rfl (.new 10 0 z_F rfl rfl .nil)) (fun e_ => .inl ⟨rfl, V1.t (V1.load1 (v := u32V (g ys (a))) one_27 rfl (ib_rd (cs := (ys).map u32V) (k := a) z_D (gV (by omega)))) ⟨rfl, rfl⟩⟩) ?_
                refine Det.cons 12 (ins := [(118, _), (122, _), (126, _)]) (v := .bool false) (.new 3 8 z_F rfl rfl (.new 7 4 z_F rfl rfl (.new 11 0 z_F rfl rfl .nil))) (fun e_ => .inl ⟨rfl, ?_⟩) ?_
                · refine T1.call0 has_66 rfl (fun w hs => LessI_any (g ys (j) : Int) (g ys (a) : Int) w) (fun v_ hv => ?_)
                  obtain rfl := hv
                  rw [decide_eq_false (by omega)]
                  exact ⟨rfl, rfl⟩
                refine Det.cons 13 (ins := [(118, _), (127, _)]) (.new 3 9 z_F rfl rfl (.new 12 0 z_F rfl rfl .nil)) (fun e_ => .inl ⟨rfl, V1.t (V1.not rfl rfl) ⟨rfl, rfl⟩⟩) ?_
                refine Det.cons 14 (ins := [(118, _), (128, _)]) (.new 3 10 z_F rfl rfl (.new 13 0 z_F rfl rfl .nil)) (fun e_ => .inl ⟨rfl, V1.t (V1.pick rfl z_B) ⟨rfl, rfl⟩⟩) ?_
                refine Det.nil 15 (l := [(0, _), (1, _), (10, _), (11, _), (129, _)]) (.old z_B z_F (.old z_B z_F (.old z_B z_F (.old z_B z_F (.new 14 0 z_F rfl rfl .nil))))) (fun e_ => ?_)
                refine T.cond_t rfl ?_
                refine T.skip ?_
                refine T.block ?_
                refine T.region ?_
                refine TL.cons rfl (V1.t (V1.move' z_B) ?_)
                refine TL.cons rfl (V1.t (V1.sub (c := ((j - 1 : Nat) : Int)) rfl rfl (by rw [wrap_i64 _ (by omega) (by omega)]; omega)) ?_)
                refine TL.cons rfl (V1.t (V1.assign' z_B) ?_)
                refine TL.nil ?_
                exact ⟨j - 1, _, _, (by simp only; omega), (.cons rfl .nil), (.cons rfl (.cons rfl (.cons rfl .nil))), z_A, ⟨rfl, by omega, hprt.down (by omega) (by omega)⟩⟩
              ·
                refine T.drawDet' mixed z_F ?_
                refine Det.cons 0 (ins := [(10, _)]) (.old z_B z_F .nil) (fun e_ => .inl ⟨rfl, V1.t (V1.move' z_B) ⟨rfl, rfl⟩⟩) ?_
                refine Det.cons 1 (ins := [(11, _)]) (.old z_B z_F .nil) (fun e_ => .inl ⟨rfl, V1.t (V1.move' z_B) ⟨rfl, rfl⟩⟩) ?_
                refine Det.cons 2 (ins := [(115, _), (116, _)]) (.new 0 1 z_F rfl rfl (.new 1 0 z_F rfl rfl .nil)) (fun e_ => .inl ⟨rfl, V1.t (V1.leI (r := false) rfl rfl (decide_eq_false (by omega))) ⟨rfl, rfl⟩⟩) ?_
                refine Det.cons 3 (ins := [(117, _)]) (.new 2 0 z_F rfl rfl .nil) (fun e_ => .inl ⟨rfl, V1.t (V1.move' z_B) ⟨rfl, rfl⟩⟩) ?_
                refine Det.cons 4 (ins := [(118, _)]) (.new 3 0 z_F rfl rfl .nil) (fun e_ => .inr ⟨rfl, rfl⟩) ?_
                refine Det.cons 5 (ins := [(118, _)]) (.new 3 1 z_F rfl rfl .nil) (fun e_ => .inr ⟨rfl, rfl⟩) ?_
                refine Det.cons 6 (ins := [(118, _)]) (.new 3 2 z_F rfl rfl .nil) (fun e_ => .inr ⟨rfl, rfl⟩) ?_
                refine Det.cons 7 (ins := [(118, _)]) (.new 3 3 z_F rfl rfl .nil) (fun e_ => .inr ⟨rfl, rfl⟩) ?_
                refine Det.cons 8 (ins := [(118, _)]) (.new 3 4 z_F rfl rfl .nil) (fun e_ => .inr ⟨rfl, rfl⟩) ?_
                refine Det.cons 9 (ins := [(118, _)]) (.new 3 5 z_F rfl rfl .nil) (fun e_ => .inr ⟨rfl, rfl⟩) ?_
                refine Det.cons 10 (ins := [(118, _)]) (.new 3 6 z_F rfl rfl .nil) (fun e_ => .inr ⟨rfl, rfl⟩) ?_
                refine Det.cons 11 (ins := [(118, _)]) (.new 3 7 z_F rfl rfl .nil) (fun e_ => .inr ⟨rfl, rfl⟩) ?_
                refine Det.cons 12 (ins := [(118, _)]) (.new 3 8 z_F rfl rfl .nil) (fun e_ => .inr ⟨rfl, rfl⟩) ?_
                refine Det.cons 13 (ins := [(118, _)]) (.new 3 9 z_F rfl rfl .nil) (fun e_ => .inr ⟨rfl, rfl⟩) ?_
                refine Det.cons 14 (ins := [(118, _), (128, _)]) (.new 3 10 z_F rfl rfl (.new 13 0 z_F rfl rfl .nil)) (fun e_ => .inl ⟨rfl, V1.t (V1.pick rfl z_B) ⟨rfl, rfl⟩⟩) ?_
                refine Det.nil 15 (l := [(0, _), (1, _), (10, _), (11, _), (129, _)]) (.old z_B z_F (.old z_B z_F (.old z_B z_F (.old z_B z_F (.new 14 0 z_F rfl rfl .nil))))) (fun e_ => ?_)
                refine T.cond_f rfl ?_
                refine T.exit ?_
                exact ⟨j, _, _, trivial, (.cons rfl .nil), (.cons rfl (.cons rfl (.cons rfl .nil))), z_A, ⟨rfl, hprt, fun h => hgi (by omega), fun h => by omega⟩⟩
            ·
              rintro j e_ L ⟨rfl, hprt, hgi, hgj⟩
              have hp1 := hprt.lo
              have hp2 := hprt.hi
              have hp3 := hprt.le
              refine T.seq ?_
              refine T.seq ?_
              refine T.region ?_
              refine TL.cons rfl (V1.t (V1.move' z_B) ?_)
              refine TL.cons rfl (V1.t (V1.move' z_B) ?_)
              refine TL.cons rfl (T1.gtI_split rfl rfl (fun h17 => ?_) (fun h17 => ?_))
              ·
                refine TL.nil ?_
                refine T.cond_t rfl ?_
                refine T.exit ?_
                refine T.seq ?_
                refine T.drawZ (fun L_ => Find L_ (⟨b, off, (ys).map u32V, size⟩ : Blk)) 13 mixed z_D ?_
                refine TZ.pure 0 rfl z_F z_F z_F z_F rfl (fun _ _ _ h => h) (fun _ => V1.move' z_B) ?_
                refine TZ.pure 1 rfl z_F z_F z_F z_F rfl (fun _ _ _ h => h) (fun _ => V1.move' z_B) ?_
                refine TZ.pure 2 rfl z_F z_F z_F z_F rfl (fun _ _ _ h => h) (fun _ => V1.move' z_B) ?_
                refine TZ.pure 3 rfl z_F z_F z_F z_F rfl (fun _ _ _ h => h) (fun _ => V1.move' z_B) ?_
                refine TZ.pure 4 rfl z_F z_F z_F z_F rfl (fun _ _ _ h => h) (fun _ => V1.move' z_B) ?_
                refine TZ.pure 5 rfl z_F z_F z_F z_F rfl (fun _ _ _ h => h) (fun _ => V1.move' z_B) ?_
                refine TZ.pure 6 rfl z_F z_F z_F z_F rfl (fun _ _ _ h => h) (fun _ => V1.indexAddrS ty_36 sz_27 rfl rfl (by omega) (by omega)) ?_
                refine TZ.pure 8 rfl z_F z_F z_F z_F rfl (fun _ _ _ h => h) (fun _ => V1.move' z_B) ?_
                refine TZ.pure 9 rfl z_F z_F z_F z_F rfl (fun _ _ _ h => h) (fun _ => V1.move' z_B) ?_
                refine TZ.pure 10 rfl z_F z_F z_F z_F rfl (fun _ _ _ h => h) (fun _ => V1.indexAddrS ty_36 sz_27 rfl rfl (by omega) (by omega)) ?_
                refine TZ.read 7 rfl z_F z_F z_F z_F rfl (fun _ _ _ h => h) (fun L_ k1_ => V1.load1 (v := u32V (g ys (a))) one_27 rfl (ib_rd (cs := (ys).map u32V) (k := a) z_D (gV (by omega)))) ?_
                refine TZ.read 11 rfl z_F z_F z_F z_F rfl (fun _ _ _ h => h) (fun L_ k1_ => V1.load1 (v := u32V (g ys (j))) one_27 rfl (ib_rd (cs := (ys).map u32V) (k := j) z_D (gV (by omega)))) ?_
                refine TZ.pure 12 rfl z_F z_F z_F z_F rfl (fun _ _ _ h => h) (fun _ => V1.indexAddrS ty_36 sz_27 rfl rfl (by omega) (by omega)) ?_
                refine TZ.one 13 z_F rfl z_F rfl (T1.storeE (o := off + (j) * 1) (off := off) (size := size) (cells := (ys).map u32V) (cells' := ((ys).set (j) (g ys (a))).map u32V) (v := u32V (g ys (a))) rfl rfl sz_27 rfl (by rw [show off + (j) * 1 - off = j by omega]; exact List.map_set.symm) z_H (by omega) (by simp only [List.length_map, List.length_set]; omega) ?_)
                refine TZ.pure 14 rfl z_F z_F z_F z_F rfl (fun _ _ _ h => h) (fun _ => V1.indexAddrS ty_36 sz_27 rfl rfl (by omega) (by omega)) ?_
                refine TZ.one 15 z_F rfl z_F rfl (T1.storeE (o := off + (a) * 1) (off := off) (size := size) (cells := ((ys).set (j) (g ys (a))).map u32V) (cells' := (((ys).set (j) (g ys (a))).set (a) (g ys (j))).map u32V) (v := u32V (g ys (j))) rfl rfl sz_27 rfl (by rw [show off + (a) * 1 - off = a by omega]; exact List.map_set.symm) z_H (by omega) (by simp only [List.length_map, List.length_set]; omega) ?_)
                refine TZ.done z_F ?_
                refine T.seq ?_
                refine T.live (l := [(11, _)]) (.cons z_B .nil) (fun e_ => ?_)
                refine T.region ?_
                refine TL.cons rfl (V1.t (V1.move' z_B) ?_)
                refine TL.cons rfl (V1.t (V1.assign' z_B) ?_)
                refine TL.cons rfl (V1.t (V1.assign' z_B) ?_)
                refine TL.nil ?_
                refine T.ret ?_
                first
                  | exact ⟨_, _ :: G, _, .cons (.tmp z_B) (.cons (.tmp z_B) .nil), z_A, [_], rfl, swp xs j a, j, _, rfl, rfl, hsw.trans (Sw.swap (by omega) (by omega) (by omega) (by omega) (by omega)), hprt.done (by omega) (by omega)⟩
                  | exact ⟨_, _ :: G, _, .cons (.tmp z_B) (.cons (.tmp z_B) .nil), z_A, [_], rfl, swp ys j a, j, _, rfl, rfl, hsw.trans (Sw.swap (by omega) (by omega) (by omega) (by omega) (by omega)), hprt.done (by omega) (by omega)⟩
              ·
                have hgi2 := hgi (by omega)
                have hgj2 := hgj (by omega)
                refine TL.nil ?_
                refine T.cond_f rfl ?_
                refine T.skip ?_
                refine T.seq ?_
                refine T.drawZ (fun L_ => Find L_ (⟨b, off, (ys).map u32V, size⟩ : Blk)) 13 mixed z_D ?_
                refine TZ.pure 0 rfl z_F z_F z_F z_F rfl (fun _ _ _ h => h) (fun _ => V1.move' z_B) ?_
                refine TZ.pure 1 rfl z_F z_F z_F z_F rfl (fun _ _ _ h => h) (fun _ => V1.move' z_B) ?_
                refine TZ.pure 2 rfl z_F z_F z_F z_F rfl (fun _ _ _ h => h) (fun _ => V1.move' z_B) ?_
                refine TZ.pure 3 rfl z_F z_F z_F z_F rfl (fun _ _ _ h => h) (fun _ => V1.move' z_B) ?_
                refine TZ.pure 4 rfl z_F z_F z_F z_F rfl (fun _ _ _ h => h) (fun _ => V1.move' z_B) ?_
                refine TZ.pure 5 rfl z_F z_F z_F z_F rfl (fun _ _ _ h => h) (fun _ => V1.move' z_B) ?_
                refine TZ.pure 6 rfl z_F z_F z_F z_F rfl (fun _ _ _ h => h) (fun _ => V1.indexAddrS ty_36 sz_27 rfl rfl (by omega) (by omega)) ?_
                refine TZ.pure 8 rfl z_F z_F z_F z_F rfl (fun _ _ _ h => h) (fun _ => V1.move' z_B) ?_
                refine TZ.pure 9 rfl z_F z_F z_F z_F rfl (fun _ _ _ h => h) (fun _ => V1.move' z_B) ?_
                refine TZ.pure 10 rfl z_F z_F z_F z_F rfl (fun _ _ _ h => h) (fun _ => V1.indexAddrS ty_36 sz_27 rfl rfl (by omega) (by omega)) ?_
                refine TZ.read 7 rfl z_F z_F z_F z_F rfl (fun _ _ _ h => h) (fun L_ k1_ => V1.load1 (v := u32V (g ys (j))) one_27 rfl (ib_rd (cs := (ys).map u32V) (k := j) z_D (gV (by omega)))) ?_
                refine TZ.read 11 rfl z_F z_F z_F z_F rfl (fun _ _ _ h => h) (fun L_ k1_ => V1.load1 (v := u32V (g ys (i))) one_27 rfl (ib_rd (cs := (ys).map u32V) (k := i) z_D (gV (by omega)))) ?_
                refine TZ.pure 12 rfl z_F z_F z_F z_F rfl (fun _ _ _ h => h) (fun _ => V1.indexAddrS ty_36 sz_27 rfl rfl (by omega) (by omega)) ?_
                refine TZ.one 13 z_F rfl z_F rfl (T1.storeE (o := off + (i) * 1) (off := off) (size := size) (cells := (ys).map u32V) (cells' := ((ys).set (i) (g ys (j))).map u32V) (v := u32V (g ys (j))) rfl rfl sz_27 rfl (by rw [show off + (i) * 1 - off = i by omega]; exact List.map_set.symm) z_H (by omega) (by simp only [List.length_map, List.length_set]; omega) ?_)
                refine TZ.pure 14 rfl z_F z_F z_F z_F rfl (fun _ _ _ h => h) (fun _ => V1.indexAddrS ty_36 sz_27 rfl rfl (by omega) (by omega)) ?_
                refine TZ.one 15 z_F rfl z_F rfl (T1.storeE (o := off + (j) * 1) (off := off) (size := size) (cells := ((ys).set (i) (g ys (j))).map u32V) (cells' := (((ys).set (i) (g ys (j))).set (j) (g ys (i))).map u32V) (v := u32V (g ys (i))) rfl rfl sz_27 rfl (by rw [show off + (j) * 1 - off = j by omega]; exact List.map_set.symm) z_H (by omega) (by simp only [List.length_map, List.length_set]; omega) ?_)
                refine TZ.done z_F ?_
                refine T.seq ?_
                refine T.live (l := [(0, _), (1, _), (10, _), (11, _)]) (.cons z_B (.cons z_B (.cons z_B (.cons z_B .nil)))) (fun e_ => ?_)
                refine T.region ?_
                refine TL.cons rfl (V1.t (V1.move' z_B) ?_)
                refine TL.cons rfl (V1.t (V1.add (c := ((i + 1 : Nat) : Int)) rfl rfl (by rw [wrap_i64 _ (by omega) (by omega)]; omega)) ?_)
                refine TL.cons rfl (V1.t (V1.assign' z_B) ?_)
                refine TL.nil ?_
                refine T.region ?_
                refine TL.cons rfl (V1.t (V1.move' z_B) ?_)
                refine TL.cons rfl (V1.t (V1.sub (c := ((j - 1 : Nat) : Int)) rfl rfl (by rw [wrap_i64 _ (by omega) (by omega)]; omega)) ?_)
                refine TL.cons rfl (V1.t (V1.assign' z_B) ?_)
                refine TL.nil ?_
                exact ⟨(i + 1, j - 1, swp ys i j), (⟨b, off, (swp ys i j).map u32V, size⟩ : Blk) :: G, _, (by simp only; omega), (.cons rfl (.cons rfl .nil)), (.cons rfl (.cons rfl .nil)), z_A, ⟨rfl, hsw.trans (Sw.swap (by omega) (by omega) (by omega) (by omega) (by omega)), hprt.swap (by omega) (by omega) hgi2 hgj2⟩⟩

set_option maxRecDepth 100000 in
set_option maxHeartbeats 8000000 in
theorem siftG (w0 : World) (b off size cap n : Nat) (xs0 : List Nat) (hxl : xs0.length = n) (hn : n ≤ 1000000) (f lo hi : Nat) (hlo : lo ≤ hi) (hfn : f + hi ≤ n) (hhp : Heap f (lo + 1) hi xs0) : FnG P 71 [.slice (some ⟨b, off, none⟩) n cap, .int .i64 ((lo : Nat) : Int), .int .i64 ((hi : Nat) : Int), .int .i64 ((f : Nat) : Int)] w0 [] [(⟨b, off, (xs0).map u32V, size⟩ : Blk)] (fun v Y => ∃ ys, Y = [(⟨b, off, (ys).map u32V, size⟩ : Blk)] ∧ Sw (f + lo) (f + hi) xs0 ys ∧ Heap f lo hi ys) := by
  refine FnG.of 76 [] Go.Proofs.Try.func71 rfl rfl rfl rfl (fun G hG => ?_)
  simp only [List.cons_append, List.nil_append]
  refine T.seq ?_
  refine T.region ?_
  refine TL.cons rfl (V1.t (V1.move' z_B) ?_)
  refine TL.cons rfl (V1.t (V1.assign' z_B) ?_)
  refine TL.nil ?_
  refine T.block ?_
  refine T.loopL (σ := Nat × List Nat) (l0 := [(0, _), (2, _), (3, _)]) (fun x => [(8, .int .i64 ((x.1 : Nat) : Int))]) (fun x L => L = (⟨b, off, (x.2).map u32V, size⟩ : Blk) :: G ∧ Sw (f + lo) (f + hi) xs0 x.2 ∧ Sift f lo hi x.1 x.2 ∧ lo ≤ x.1 ∧ x.1 ≤ hi) (fun x => hi - x.1) (lo, xs0) (.cons rfl .nil) (.cons z_B (.cons z_B (.cons z_B .nil))) z_A (⟨rfl, Sw.refl, Sift.start hhp, Nat.le_refl _, hlo⟩) ?_
  rintro ⟨r, xs⟩ e_ L ⟨rfl, hsw, hsi, hlr, hrh⟩
  dsimp only at hsw hsi hlr hrh
  dsimp only
  have hxn := hsw.len
  refine T.block ?_
  refine T.seq ?_
  refine T.region ?_
  refine TL.cons rfl (V1.t (V1.move' z_B) ?_)
  refine TL.cons rfl (V1.t (V1.mul (c := ((2 * r : Nat) : Int)) rfl rfl (by rw [show (2 : Int) * ((r : Nat) : Int) = ((2 * r : Nat) : Int) from by omega]; exact wrap_i64 _ (by omega) (by omega))) ?_)
  refine TL.cons rfl (V1.t (V1.add (c := ((2 * r + 1 : Nat) : Int)) rfl rfl (by rw [wrap_i64 _ (by omega) (by omega)]; omega)) ?_)
  refine TL.cons rfl (V1.t (V1.assign' z_B) ?_)
  refine TL.nil ?_
  refine T.seq ?_
  refine T.seq ?_
  refine T.region ?_
  refine TL.cons rfl (V1.t (V1.move' z_B) ?_)
  refine TL.cons rfl (V1.t (V1.move' z_B) ?_)
  refine TL.cons rfl (T1.geI_split rfl rfl (fun h2 => ?_) (fun h2 => ?_))
  ·
    have hheap := hsi.leaf (by omega)
    refine TL.nil ?_
    refine T.cond_t rfl ?_
    refine T.exit ?_
    -- the end
    exact ⟨_, _ :: G, _, .nil, z_A, [_], rfl, xs, rfl, hsw, hheap⟩
  ·
    refine TL.nil ?_
    refine T.cond_f rfl ?_
    refine T.skip ?_
    refine T.cut (σ := Nat) (l0 := [(0, _), (2, _), (3, _), (8, _)]) (fun x => [(9, .int .i64 ((x : Nat) : Int))]) (fun m L => L = (⟨b, off, (xs).map u32V, size⟩ : Blk) :: G ∧ m < hi ∧ Chd r m ∧ ∀ c, c < hi → Chd r c → g xs (f + c) ≤ g xs (f + m)) (.cons z_B (.cons z_B (.cons z_B (.cons z_B .nil)))) ?_ ?_
    ·
      refine T.seq ?_
      rcases Nat.lt_or_ge (2 * r + 1 + 1) hi with hij | hij
      rcases Nat.lt_or_ge (g xs (f + (2 * r + 1))) (g xs (f + (2 * r + 1) + 1)) with hl | hl
      ·
        refine T.drawDet' mixed z_F ?_
        refine Det.cons 0 (ins := [(9, _)]) (.old z_B z_F .nil) (fun e_ => .inl ⟨rfl, V1.t (V1.move' z_B) ⟨rfl, rfl⟩⟩) ?_
        refine Det.cons 1 (ins := [(17, _)]) (.new 0 0 z_F rfl rfl .nil) (fun e_ => .inl ⟨rfl, V1.t (V1.add (c := ((2 * r + 1 + 1 : Nat) : Int)) rfl rfl (by rw [wrap_i64 _ (by omega) (by omega)]; omega)) ⟨rfl, rfl⟩⟩) ?_
        refine Det.cons 2 (ins := [(2, _)]) (.old z_B z_F .nil) (fun e_ => .inl ⟨rfl, V1.t (V1.move' z_B) ⟨rfl, rfl⟩⟩) ?_
        refine Det.cons 3 (ins := [(18, _), (19, _)]) (.new 1 1 z_F rfl rfl (.new 2 0 z_F rfl rfl .nil)) (fun e_ => .inl ⟨rfl, V1.t (V1.ltI (r := true) rfl rfl (decide_eq_true (by omega))) ⟨rfl, rfl⟩⟩) ?_
        refine Det.cons 4 (ins := [(20, _)]) (.new 3 0 z_F rfl rfl .nil) (fun e_ => .inl ⟨rfl, V1.t (V1.move' z_B) ⟨rfl, rfl⟩⟩) ?_
        refine Det.cons 5 (ins := [(0, _), (21, _)]) (.old z_B z_F (.new 4 0 z_F rfl rfl .nil)) (fun e_ => .inl ⟨rfl, V1.t (V1.move' z_B) ⟨rfl, rfl⟩⟩) ?_
        refine Det.cons 6 (ins := [(3, _), (21, _)]) (.old z_B z_F (.new 4 1 z_F rfl rfl .nil)) (fun e_ => .inl ⟨rfl, V1.t (V1.move' z_B) ⟨rfl, rfl⟩⟩) ?_
        refine Det.cons 7 (ins := [(9, _), (21, _)]) (.old z_B z_F (.new 4 2 z_F rfl rfl .nil)) (fun e_ => .inl ⟨rfl, V1.t (V1.move' z_B) ⟨rfl, rfl⟩⟩) ?_
        refine Det.cons 8 (ins := [(21, _), (23, _), (24, _)]) (.new 4 3 z_F rfl rfl (.new 6 1 z_F rfl rfl (.new 7 0 z_F rfl rfl .nil))) (fun e_ => .inl ⟨rfl, V1.t (V1.add (c := ((f + (2 * r + 1) : Nat) : Int)) rfl rfl (by rw [wrap_i64 _ (by omega) (by omega)]; omega)) ⟨rfl, rfl⟩⟩) ?_
        refine Det.cons 9 (ins := [(21, _), (22, _), (25, _)]) (.new 4 4 z_F rfl rfl (.new 5 3 z_F rfl rfl (.new 8 0 z_F rfl rfl .nil))) (fun e_ => .inl ⟨rfl, V1.t (V1.indexAddrS ty_36 sz_27 rfl rfl (by omega) (by omega)) ⟨rfl, rfl⟩⟩) ?_
        refine Det.cons 10 (ins := [(21, _), (26, _)]) (.new 4 5 z_F rfl rfl (.new 9 0 z_F rfl rfl .nil)) (fun e_ => .inl ⟨rfl, V1.t (V1.load1 (v := u32V (g xs (f + (2 * r + 1)))) one_27 rfl (ib_rd (cs := (xs).map u32V) (k := f + (2 * r + 1)) z_D (gV (by omega)))) ⟨rfl, rfl⟩⟩) ?_
        refine Det.cons 11 (ins := [(0, _), (21, _)]) (.old z_B z_F (.new 4 6 z_F rfl rfl .nil)) (fun e_ => .inl ⟨rfl, V1.t (V1.move' z_B) ⟨rfl, rfl⟩⟩) ?_
        refine Det.cons 12 (ins := [(3, _), (21, _)]) (.old z_B z_F (.new 4 7 z_F rfl rfl .nil)) (fun e_ => .inl ⟨rfl, V1.t (V1.move' z_B) ⟨rfl, rfl⟩⟩) ?_
        refine Det.cons 13 (ins := [(9, _), (21, _)]) (.old z_B z_F (.new 4 8 z_F rfl rfl .nil)) (fun e_ => .inl ⟨rfl, V1.t (V1.move' z_B) ⟨rfl, rfl⟩⟩) ?_
        refine Det.cons 14 (ins := [(21, _), (29, _), (30, _)]) (.new 4 9 z_F rfl rfl (.new 12 1 z_F rfl rfl (.new 13 0 z_F rfl rfl .nil))) (fun e_ => .inl ⟨rfl, V1.t (V1.add (c := ((f + (2 * r + 1) : Nat) : Int)) rfl rfl (by rw [wrap_i64 _ (by omega) (by omega)]; omega)) ⟨rfl, rfl⟩⟩) ?_
        refine Det.cons 15 (ins := [(21, _), (31, _)]) (.new 4 10 z_F rfl rfl (.new 14 0 z_F rfl rfl .nil)) (fun e_ => .inl ⟨rfl, V1.t (V1.add (c := ((f + (2 * r + 1) + 1 : Nat) : Int)) rfl rfl (by rw [wrap_i64 _ (by omega) (by omega)]; omega)) ⟨rfl, rfl⟩⟩) ?_
        refine Det.cons 16 (ins := [(21, _), (28, _), (32, _)]) (.new 4 11 z_F rfl rfl (.new 11 4 z_F rfl rfl (.new 15 0 z_F rfl rfl .nil))) (fun e_ => .inl ⟨rfl, V1.t (V1.indexAddrS ty_36 sz_27 rfl rfl (by omega) (by omega)) ⟨rfl, rfl⟩⟩) ?_
        refine Det.cons 17 (ins := [(21, _), (33, _)]) (.new 4 12 z_F rfl rfl (.new 16 0 z_F rfl rfl .nil)) (fun e_ => .inl ⟨rfl, V1.t (V1.load1 (v := u32V (g xs (f + (2 * r + 1) + 1))) one_27 rfl (ib_rd (cs := (xs).map u32V) (k := f + (2 * r + 1) + 1) z_D (gV (by omega)))) ⟨rfl, rfl⟩⟩) ?_
        refine Det.cons 18 (ins := [(21, _), (27, _), (34, _)]) (v := .bool true) (.new 4 13 z_F rfl rfl (.new 10 7 z_F rfl rfl (.new 17 0 z_F rfl rfl .nil))) (fun e_ => .inl ⟨rfl, ?_⟩) ?_
        · refine T1.call0 has_66 rfl (fun w hs => LessI_any (g xs (f + (2 * r + 1)) : Int) (g xs (f + (2 * r + 1) + 1) : Int) w) (fun v_ hv => ?_)
          obtain rfl := hv
          rw [decide_eq_true (by omega)]
          exact ⟨rfl, rfl⟩
        refine Det.cons 19 (ins := [(21, _), (35, _)]) (.new 4 14 z_F rfl rfl (.new 18 0 z_F rfl rfl .nil)) (fun e_ => .inl ⟨rfl, V1.t (V1.pick rfl z_B) ⟨rfl, rfl⟩⟩) ?_
        refine Det.nil 20 (l := [(0, _), (2, _), (3, _), (8, _), (9, _), (36, _)]) (.old z_B z_F (.old z_B z_F (.old z_B z_F (.old z_B z_F (.old z_B z_F (.new 19 0 z_F rfl rfl .nil)))))) (fun e_ => ?_)
        refine T.cond_t rfl ?_
        refine T.region ?_
        refine TL.cons rfl (V1.t (V1.move' z_B) ?_)
        refine TL.cons rfl (V1.t (V1.add (c := ((2 * r + 1 + 1 : Nat) : Int)) rfl rfl (by rw [wrap_i64 _ (by omega) (by omega)]; omega)) ?_)
        refine TL.cons rfl (V1.t (V1.assign' z_B) ?_)
        refine TL.nil ?_
        exact ⟨2 * r + 1 + 1, _, _, trivial, (.cons rfl .nil), (.cons rfl (.cons rfl (.cons rfl (.cons rfl .nil)))), z_A, ⟨rfl, by omega, .inr rfl, fun c h1 h2 => by rcases h2 with rfl | rfl; (have := hl; rw [show f + (2 * r + 1 + 1) = f + (2 * r + 1) + 1 by omega]; omega); exact Nat.le_refl _⟩⟩
      ·
        refine T.drawDet' mixed z_F ?_
        refine Det.cons 0 (ins := [(9, _)]) (.old z_B z_F .nil) (fun e_ => .inl ⟨rfl, V1.t (V1.move' z_B) ⟨rfl, rfl⟩⟩) ?_
        refine Det.cons 1 (ins := [(17, _)]) (.new 0 0 z_F rfl rfl .nil) (fun e_ => .inl ⟨rfl, V1.t (V1.add (c := ((2 * r + 1 + 1 : Nat) : Int)) rfl rfl (by rw [wrap_i64 _ (by omega) (by omega)]; omega)) ⟨rfl, rfl⟩⟩) ?_
        refine Det.cons 2 (ins := [(2, _)]) (.old z_B z_F .nil) (fun e_ => .inl ⟨rfl, V1.t (V1.move' z_B) ⟨rfl, rfl⟩⟩) ?_
        refine Det.cons 3 (ins := [(18, _), (19, _)]) (.new 1 1 z_F rfl rfl (.new 2 0 z_F rfl rfl .nil)) (fun e_ => .inl ⟨rfl, V1.t (V1.ltI (r := true) rfl rfl (decide_eq_true (by omega))) ⟨rfl, rfl⟩⟩) ?_
        refine Det.cons 4 (ins := [(20, _)]) (.new 3 0 z_F rfl rfl .nil) (fun e_ => .inl ⟨rfl, V1.t (V1.move' z_B) ⟨rfl, rfl⟩⟩) ?_
        refine Det.cons 5 (ins := [(0, _), (21, _)]) (.old z_B z_F (.new 4 0 z_F rfl rfl .nil)) (fun e_ => .inl ⟨rfl, V1.t (V1.move' z_B) ⟨rfl, rfl⟩⟩) ?_
        refine Det.cons 6 (ins := [(3, _), (21, _)]) (.old z_B z_F (.new 4 1 z_F rfl rfl .nil)) (fun e_ => .inl ⟨rfl, V1.t (V1.move' z_B) ⟨rfl, rfl⟩⟩) ?_
        refine Det.cons 7 (ins := [(9, _), (21, _)]) (.old z_B z_F (.new 4 2 z_F rfl rfl .nil)) (fun e_ => .inl ⟨rfl, V1.t (V1.move' z_B) ⟨rfl, rfl⟩⟩) ?_
        refine Det.cons 8 (ins := [(21, _), (23, _), (24, _)]) (.new 4 3 z_F rfl rfl (.new 6 1 z_F rfl rfl (.new 7 0 z_F rfl rfl .nil))) (fun e_ => .inl ⟨rfl, V1.t (V1.add (c := ((f + (2 * r + 1) : Nat) : Int)) rfl rfl (by rw [wrap_i64 _ (by omega) (by omega)]; omega)) ⟨rfl, rfl⟩⟩) ?_
        refine Det.cons 9 (ins := [(21, _), (22, _), (25, _)]) (.new 4 4 z_F rfl rfl (.new 5 3 z_F rfl rfl (.new 8 0 z_F rfl rfl .nil))) (fun e_ => .inl ⟨rfl, V1.t (V1.indexAddrS ty_36 sz_27 rfl rfl (by omega) (by omega)) ⟨rfl, rfl⟩⟩) ?_
        refine Det.cons 10 (ins := [(21, _), (26, _)]) (.new 4 5 z_F rfl rfl (.new 9 0 z_F rfl rfl .nil)) (fun e_ => .inl ⟨rfl, V1.t (V1.load1 (v := u32V (g xs (f + (2 * r + 1)))) one_27 rfl (ib_rd (cs := (xs).map u32V) (k := f + (2 * r + 1)) z_D (gV (by omega)))) ⟨rfl, rfl⟩⟩) ?_
        refine Det.cons 11 (ins := [(0, _), (21, _)]) (.old z_B z_F (.new 4 6 z_F rfl rfl .nil)) (fun e_ => .inl ⟨rfl, V1.t (V1.move' z_B) ⟨rfl, rfl⟩⟩) ?_
        refine Det.cons 12 (ins := [(3, _), (21, _)]) (.old z_B z_F (.new 4 7 z_F rfl rfl .nil)) (fun e_ => .inl ⟨rfl, V1.t (V1.move' z_B) ⟨rfl, rfl⟩⟩) ?_
        refine Det.cons 13 (ins := [(9, _), (21, _)]) (.old z_B z_F (.new 4 8 z_F rfl rfl .nil)) (fun e_ => .inl ⟨rfl, V1.t (V1.move' z_B) ⟨rfl, rfl⟩⟩) ?_
        refine Det.cons 14 (ins := [(21, _), (29, _), (30, _)]) (.new 4 9 z_F rfl rfl (.new 12 1 z_F rfl rfl (.new 13 0 z_F rfl rfl .nil))) (fun e_ => .inl ⟨rfl, V1.t (V1.add (c := ((f + (2 * r + 1) : Nat) : Int)) rfl rfl (by rw [wrap_i64 _ (by omega) (by omega)]; omega)) ⟨rfl, rfl⟩⟩) ?_
        refine Det.cons 15 (ins := [(21, _), (31, _)]) (.new 4 10 z_F rfl rfl (.new 14 0 z_F rfl rfl .nil)) (fun e_ => .inl ⟨rfl, V1.t (V1.add (c := ((f + (2 * r + 1) + 1 : Nat) : Int)) rfl rfl (by rw [wrap_i64 _ (by omega) (by omega)]; omega)) ⟨rfl, rfl⟩⟩) ?_
        refine Det.cons 16 (ins := [(21, _), (28, _), (32, _)]) (.new 4 11 z_F rfl rfl (.new 11 4 z_F rfl rfl (.new 15 0 z_F rfl rfl .nil))) (fun e_ => .inl ⟨rfl, V1.t (V1.indexAddrS ty_36 sz_27 rfl rfl (by omega) (by omega)) ⟨rfl, rfl⟩⟩) ?_
        refine Det.cons 17 (ins := [(21, _), (33, _)]) (.new 4 12 z_F rfl rfl (.new 16 0 z_F rfl rfl .nil)) (fun e_ => .inl ⟨rfl, V1.t (V1.load1 (v := u32V (g xs (f + (2 * r + 1) + 1))) one_27 rfl (ib_rd (cs := (xs).map u32V) (k := f + (2 * r + 1) + 1) z_D (gV (by omega)))) ⟨rfl, rfl⟩⟩) ?_
        refine Det.cons 18 (ins := [(21, _), (27, _), (34, _)]) (v := .bool false) (.new 4 13 z_F rfl rfl (.new 10 7 z_F rfl rfl (.new 17 0 z_F rfl rfl .nil))) (fun e_ => .inl ⟨rfl, ?_⟩) ?_
        · refine T1.call0 has_66 rfl (fun w hs => LessI_any (g xs (f + (2 * r + 1)) : Int) (g xs (f + (2 * r + 1) + 1) : Int) w) (fun v_ hv => ?_)
          obtain rfl := hv
          rw [decide_eq_false (by omega)]
          exact ⟨rfl, rfl⟩
        refine Det.cons 19 (ins := [(21, _), (35, _)]) (.new 4 14 z_F rfl rfl (.new 18 0 z_F rfl rfl .nil)) (fun e_ => .inl ⟨rfl, V1.t (V1.pick rfl z_B) ⟨rfl, rfl⟩⟩) ?_
        refine Det.nil 20 (l := [(0, _), (2, _), (3, _), (8, _), (9, _), (36, _)]) (.old z_B z_F (.old z_B z_F (.old z_B z_F (.old z_B z_F (.old z_B z_F (.new 19 0 z_F rfl rfl .nil)))))) (fun e_ => ?_)
        refine T.cond_f rfl ?_
        refine T.skip ?_
        exact ⟨2 * r + 1, _, _, trivial, (.cons rfl .nil), (.cons rfl (.cons rfl (.cons rfl (.cons rfl .nil)))), z_A, ⟨rfl, by omega, .inl rfl, fun c h1 h2 => by rcases h2 with rfl | rfl; exact Nat.le_refl _; first | omega | (rw [show f + (2 * r + 2) = f + (2 * r + 1) + 1 by omega]; omega)⟩⟩
      ·
        refine T.drawDet' mixed z_F ?_
        refine Det.cons 0 (ins := [(9, _)]) (.old z_B z_F .nil) (fun e_ => .inl ⟨rfl, V1.t (V1.move' z_B) ⟨rfl, rfl⟩⟩) ?_
        refine Det.cons 1 (ins := [(17, _)]) (.new 0 0 z_F rfl rfl .nil) (fun e_ => .inl ⟨rfl, V1.t (V1.add (c := ((2 * r + 1 + 1 : Nat) : Int)) rfl rfl (by rw [wrap_i64 _ (by omega) (by omega)]; omega)) ⟨rfl, rfl⟩⟩) ?_
        refine Det.cons 2 (ins := [(2, _)]) (.old z_B z_F .nil) (fun e_ => .inl ⟨rfl, V1.t (V1.move' z_B) ⟨rfl, rfl⟩⟩) ?_
        refine Det.cons 3 (ins := [(18, _), (19, _)]) (.new 1 1 z_F rfl rfl (.new 2 0 z_F rfl rfl .nil)) (fun e_ => .inl ⟨rfl, V1.t (V1.ltI (r := false) rfl rfl (decide_eq_false (by omega))) ⟨rfl, rfl⟩⟩) ?_
        refine Det.cons 4 (ins := [(20, _)]) (.new 3 0 z_F rfl rfl .nil) (fun e_ => .inl ⟨rfl, V1.t (V1.move' z_B) ⟨rfl, rfl⟩⟩) ?_
        refine Det.cons 5 (ins := [(21, _)]) (.new 4 0 z_F rfl rfl .nil) (fun e_ => .inr ⟨rfl, rfl⟩) ?_
        refine Det.cons 6 (ins := [(21, _)]) (.new 4 1 z_F rfl rfl .nil) (fun e_ => .inr ⟨rfl, rfl⟩) ?_
        refine Det.cons 7 (ins := [(21, _)]) (.new 4 2 z_F rfl rfl .nil) (fun e_ => .inr ⟨rfl, rfl⟩) ?_
        refine Det.cons 8 (ins := [(21, _)]) (.new 4 3 z_F rfl rfl .nil) (fun e_ => .inr ⟨rfl, rfl⟩) ?_
        refine Det.cons 9 (ins := [(21, _)]) (.new 4 4 z_F rfl rfl .nil) (fun e_ => .inr ⟨rfl, rfl⟩) ?_
        refine Det.cons 10 (ins := [(21, _)]) (.new 4 5 z_F rfl rfl .nil) (fun e_ => .inr ⟨rfl, rfl⟩) ?_
        refine Det.cons 11 (ins := [(21, _)]) (.new 4 6 z_F rfl rfl .nil) (fun e_ => .inr ⟨rfl, rfl⟩) ?_
        refine Det.cons 12 (ins := [(21, _)]) (.new 4 7 z_F rfl rfl .nil) (fun e_ => .inr ⟨rfl, rfl⟩) ?_
        refine Det.cons 13 (ins := [(21, _)]) (.new 4 8 z_F rfl rfl .nil) (fun e_ => .inr ⟨rfl, rfl⟩) ?_
        refine Det.cons 14 (ins := [(21, _)]) (.new 4 9 z_F rfl rfl .nil) (fun e_ => .inr ⟨rfl, rfl⟩) ?_
        refine Det.cons 15 (ins := [(21, _)]) (.new 4 10 z_F rfl rfl .nil) (fun e_ => .inr ⟨rfl, rfl⟩) ?_
        refine Det.cons 16 (ins := [(21, _)]) (.new 4 11 z_F rfl rfl .nil) (fun e_ => .inr ⟨rfl, rfl⟩) ?_
        refine Det.cons 17 (ins := [(21, _)]) (.new 4 12 z_F rfl rfl .nil) (fun e_ => .inr ⟨rfl, rfl⟩) ?_
        refine Det.cons 18 (ins := [(21, _)]) (.new 4 13 z_F rfl rfl .nil) (fun e_ => .inr ⟨rfl, rfl⟩) ?_
        refine Det.cons 19 (ins := [(21, _), (35, _)]) (.new 4 14 z_F rfl rfl (.new 18 0 z_F rfl rfl .nil)) (fun e_ => .inl ⟨rfl, V1.t (V1.pick rfl z_B) ⟨rfl, rfl⟩⟩) ?_
        refine Det.nil 20 (l := [(0, _), (2, _), (3, _), (8, _), (9, _), (36, _)]) (.old z_B z_F (.old z_B z_F (.old z_B z_F (.old z_B z_F (.old z_B z_F (.new 19 0 z_F rfl rfl .nil)))))) (fun e_ => ?_)
        refine T.cond_f rfl ?_
        refine T.skip ?_
        exact ⟨2 * r + 1, _, _, trivial, (.cons rfl .nil), (.cons rfl (.cons rfl (.cons rfl (.cons rfl .nil)))), z_A, ⟨rfl, by omega, .inl rfl, fun c h1 h2 => by rcases h2 with rfl | rfl; exact Nat.le_refl _; first | omega | (rw [show f + (2 * r + 2) = f + (2 * r + 1) + 1 by omega]; omega)⟩⟩
    ·
      rintro m e_ L ⟨rfl, hm, hch, hmx⟩
      have hrm : r < m := by rcases hch with h | h <;> omega
      refine T.seq ?_
      refine T.seq ?_
      rcases Nat.lt_or_ge (g xs (f + r)) (g xs (f + m)) with hl | hl
      ·
        refine T.drawDet' mixed z_F ?_
        refine Det.cons 0 (ins := [(0, _)]) (.old z_B z_F .nil) (fun e_ => .inl ⟨rfl, V1.t (V1.move' z_B) ⟨rfl, rfl⟩⟩) ?_
        refine Det.cons 1 (ins := [(3, _)]) (.old z_B z_F .nil) (fun e_ => .inl ⟨rfl, V1.t (V1.move' z_B) ⟨rfl, rfl⟩⟩) ?_
        refine Det.cons 2 (ins := [(8, _)]) (.old z_B z_F .nil) (fun e_ => .inl ⟨rfl, V1.t (V1.move' z_B) ⟨rfl, rfl⟩⟩) ?_
        refine Det.cons 3 (ins := [(40, _), (41, _)]) (.new 1 1 z_F rfl rfl (.new 2 0 z_F rfl rfl .nil)) (fun e_ => .inl ⟨rfl, V1.t (V1.add (c := ((f + r : Nat) : Int)) rfl rfl (by rw [wrap_i64 _ (by omega) (by omega)]; omega)) ⟨rfl, rfl⟩⟩) ?_
        refine Det.cons 4 (ins := [(39, _), (42, _)]) (.new 0 3 z_F rfl rfl (.new 3 0 z_F rfl rfl .nil)) (fun e_ => .inl ⟨rfl, V1.t (V1.indexAddrS ty_36 sz_27 rfl rfl (by omega) (by omega)) ⟨rfl, rfl⟩⟩) ?_
        refine Det.cons 5 (ins := [(43, _)]) (.new 4 0 z_F rfl rfl .nil) (fun e_ => .inl ⟨rfl, V1.t (V1.load1 (v := u32V (g xs (f + r))) one_27 rfl (ib_rd (cs := (xs).map u32V) (k := f + r) z_D (gV (by omega)))) ⟨rfl, rfl⟩⟩) ?_
        refine Det.cons 6 (ins := [(0, _)]) (.old z_B z_F .nil) (fun e_ => .inl ⟨rfl, V1.t (V1.move' z_B) ⟨rfl, rfl⟩⟩) ?_
        refine Det.cons 7 (ins := [(3, _)]) (.old z_B z_F .nil) (fun e_ => .inl ⟨rfl, V1.t (V1.move' z_B) ⟨rfl, rfl⟩⟩) ?_
        refine Det.cons 8 (ins := [(9, _)]) (.old z_B z_F .nil) (fun e_ => .inl ⟨rfl, V1.t (V1.move' z_B) ⟨rfl, rfl⟩⟩) ?_
        refine Det.cons 9 (ins := [(46, _), (47, _)]) (.new 7 1 z_F rfl rfl (.new 8 0 z_F rfl rfl .nil)) (fun e_ => .inl ⟨rfl, V1.t (V1.add (c := ((f + m : Nat) : Int)) rfl rfl (by rw [wrap_i64 _ (by omega) (by omega)]; omega)) ⟨rfl, rfl⟩⟩) ?_
        refine Det.cons 10 (ins := [(45, _), (48, _)]) (.new 6 3 z_F rfl rfl (.new 9 0 z_F rfl rfl .nil)) (fun e_ => .inl ⟨rfl, V1.t (V1.indexAddrS ty_36 sz_27 rfl rfl (by omega) (by omega)) ⟨rfl, rfl⟩⟩) ?_
        refine Det.cons 11 (ins := [(49, _)]) (.new 10 0 z_F rfl rfl .nil) (fun e_ => .inl ⟨rfl, V1.t (V1.load1 (v := u32V (g xs (f + m))) one_27 rfl (ib_rd (cs := (xs).map u32V) (k := f + m) z_D (gV (by omega)))) ⟨rfl, rfl⟩⟩) ?_
        refine Det.cons 12 (ins := [(44, _), (50, _)]) (v := .bool true) (.new 5 6 z_F rfl rfl (.new 11 0 z_F rfl rfl .nil)) (fun e_ => .inl ⟨rfl, ?_⟩) ?_
        · refine T1.call0 has_66 rfl (fun w hs => LessI_any (g xs (f + r) : Int) (g xs (f + m) : Int) w) (fun v_ hv => ?_)
          obtain rfl := hv
          rw [decide_eq_true (by omega)]
          exact ⟨rfl, rfl⟩
        refine Det.cons 13 (ins := [(51, _)]) (.new 12 0 z_F rfl rfl .nil) (fun e_ => .inl ⟨rfl, V1.t (V1.not rfl rfl) ⟨rfl, rfl⟩⟩) ?_
        refine Det.nil 14 (l := [(0, _), (2, _), (3, _), (8, _), (9, _), (52, _)]) (.old z_B z_F (.old z_B z_F (.old z_B z_F (.old z_B z_F (.old z_B z_F (.new 13 0 z_F rfl rfl .nil)))))) (fun e_ => ?_)
        refine T.cond_f rfl ?_
        refine T.skip ?_
        refine T.seq ?_
        refine T.drawZ (fun L_ => Find L_ (⟨b, off, (xs).map u32V, size⟩ : Blk)) 21 mixed z_D ?_
        refine TZ.pure 0 rfl z_F z_F z_F z_F rfl (fun _ _ _ h => h) (fun _ => V1.move' z_B) ?_
        refine TZ.pure 1 rfl z_F z_F z_F z_F rfl (fun _ _ _ h => h) (fun _ => V1.move' z_B) ?_
        refine TZ.pure 2 rfl z_F z_F z_F z_F rfl (fun _ _ _ h => h) (fun _ => V1.move' z_B) ?_
        refine TZ.pure 3 rfl z_F z_F z_F z_F rfl (fun _ _ _ h => h) (fun _ => V1.add (c := ((f + r : Nat) : Int)) rfl rfl (by rw [wrap_i64 _ (by omega) (by omega)]; omega)) ?_
        refine TZ.pure 4 rfl z_F z_F z_F z_F rfl (fun _ _ _ h => h) (fun _ => V1.move' z_B) ?_
        refine TZ.pure 5 rfl z_F z_F z_F z_F rfl (fun _ _ _ h => h) (fun _ => V1.move' z_B) ?_
        refine TZ.pure 6 rfl z_F z_F z_F z_F rfl (fun _ _ _ h => h) (fun _ => V1.move' z_B) ?_
        refine TZ.pure 7 rfl z_F z_F z_F z_F rfl (fun _ _ _ h => h) (fun _ => V1.add (c := ((f + m : Nat) : Int)) rfl rfl (by rw [wrap_i64 _ (by omega) (by omega)]; omega)) ?_
        refine TZ.pure 8 rfl z_F z_F z_F z_F rfl (fun _ _ _ h => h) (fun _ => V1.move' z_B) ?_
        refine TZ.pure 9 rfl z_F z_F z_F z_F rfl (fun _ _ _ h => h) (fun _ => V1.move' z_B) ?_
        refine TZ.pure 10 rfl z_F z_F z_F z_F rfl (fun _ _ _ h => h) (fun _ => V1.move' z_B) ?_
        refine TZ.pure 11 rfl z_F z_F z_F z_F rfl (fun _ _ _ h => h) (fun _ => V1.add (c := ((f + m : Nat) : Int)) rfl rfl (by rw [wrap_i64 _ (by omega) (by omega)]; omega)) ?_
        refine TZ.pure 12 rfl z_F z_F z_F z_F rfl (fun _ _ _ h => h) (fun _ => V1.indexAddrS ty_36 sz_27 rfl rfl (by omega) (by omega)) ?_
        refine TZ.pure 14 rfl z_F z_F z_F z_F rfl (fun _ _ _ h => h) (fun _ => V1.move' z_B) ?_
        refine TZ.pure 15 rfl z_F z_F z_F z_F rfl (fun _ _ _ h => h) (fun _ => V1.move' z_B) ?_
        refine TZ.pure 16 rfl z_F z_F z_F z_F rfl (fun _ _ _ h => h) (fun _ => V1.move' z_B) ?_
        refine TZ.pure 17 rfl z_F z_F z_F z_F rfl (fun _ _ _ h => h) (fun _ => V1.add (c := ((f + r : Nat) : Int)) rfl rfl (by rw [wrap_i64 _ (by omega) (by omega)]; omega)) ?_
        refine TZ.pure 18 rfl z_F z_F z_F z_F rfl (fun _ _ _ h => h) (fun _ => V1.indexAddrS ty_36 sz_27 rfl rfl (by omega) (by omega)) ?_
        refine TZ.read 13 rfl z_F z_F z_F z_F rfl (fun _ _ _ h => h) (fun L_ k1_ => V1.load1 (v := u32V (g xs (f + m))) one_27 rfl (ib_rd (cs := (xs).map u32V) (k := f + m) z_D (gV (by omega)))) ?_
        refine TZ.read 19 rfl z_F z_F z_F z_F rfl (fun _ _ _ h => h) (fun L_ k1_ => V1.load1 (v := u32V (g xs (f + r))) one_27 rfl (ib_rd (cs := (xs).map u32V) (k := f + r) z_D (gV (by omega)))) ?_
        refine TZ.pure 20 rfl z_F z_F z_F z_F rfl (fun _ _ _ h => h) (fun _ => V1.indexAddrS ty_36 sz_27 rfl rfl (by omega) (by omega)) ?_
        refine TZ.one 21 z_F rfl z_F rfl (T1.storeE (o := off + (f + r) * 1) (off := off) (size := size) (cells := (xs).map u32V) (cells' := ((xs).set (f + r) (g xs (f + m))).map u32V) (v := u32V (g xs (f + m))) rfl rfl sz_27 rfl (by rw [show off + (f + r) * 1 - off = f + r by omega]; exact List.map_set.symm) z_H (by omega) (by simp only [List.length_map, List.length_set]; omega) ?_)
        refine TZ.pure 22 rfl z_F z_F z_F z_F rfl (fun _ _ _ h => h) (fun _ => V1.indexAddrS ty_36 sz_27 rfl rfl (by omega) (by omega)) ?_
        refine TZ.one 23 z_F rfl z_F rfl (T1.storeE (o := off + (f + m) * 1) (off := off) (size := size) (cells := ((xs).set (f + r) (g xs (f + m))).map u32V) (cells' := (((xs).set (f + r) (g xs (f + m))).set (f + m) (g xs (f + r))).map u32V) (v := u32V (g xs (f + r))) rfl rfl sz_27 rfl (by rw [show off + (f + m) * 1 - off = f + m by omega]; exact List.map_set.symm) z_H (by omega) (by simp only [List.length_map, List.length_set]; omega) ?_)
        refine TZ.done z_F ?_
        refine T.live (l := [(0, _), (2, _), (3, _), (9, _)]) (.cons z_B (.cons z_B (.cons z_B (.cons z_B .nil)))) (fun e_ => ?_)
        refine T.region ?_
        refine TL.cons rfl (V1.t (V1.move' z_B) ?_)
        refine TL.cons rfl (V1.t (V1.assign' z_B) ?_)
        refine TL.nil ?_
        exact ⟨(m, swp xs (f + r) (f + m)), (⟨b, off, (swp xs (f + r) (f + m)).map u32V, size⟩ : Blk) :: G, _, (by simp only; omega), (.cons rfl .nil), (.cons rfl (.cons rfl (.cons rfl .nil))), z_A, ⟨rfl, hsw.trans (Sw.swap (by omega) (by omega) (by omega) (by omega) (by omega)), hsi.step (by omega) (by omega) hlr hm hch hmx (by omega), by simp only; omega, by simp only; omega⟩⟩
      ·
        have hheap := hsi.done hmx hl
        refine T.drawDet' mixed z_F ?_
        refine Det.cons 0 (ins := [(0, _)]) (.old z_B z_F .nil) (fun e_ => .inl ⟨rfl, V1.t (V1.move' z_B) ⟨rfl, rfl⟩⟩) ?_
        refine Det.cons 1 (ins := [(3, _)]) (.old z_B z_F .nil) (fun e_ => .inl ⟨rfl, V1.t (V1.move' z_B) ⟨rfl, rfl⟩⟩) ?_
        refine Det.cons 2 (ins := [(8, _)]) (.old z_B z_F .nil) (fun e_ => .inl ⟨rfl, V1.t (V1.move' z_B) ⟨rfl, rfl⟩⟩) ?_
        refine Det.cons 3 (ins := [(40, _), (41, _)]) (.new 1 1 z_F rfl rfl (.new 2 0 z_F rfl rfl .nil)) (fun e_ => .inl ⟨rfl, V1.t (V1.add (c := ((f + r : Nat) : Int)) rfl rfl (by rw [wrap_i64 _ (by omega) (by omega)]; omega)) ⟨rfl, rfl⟩⟩) ?_
        refine Det.cons 4 (ins := [(39, _), (42, _)]) (.new 0 3 z_F rfl rfl (.new 3 0 z_F rfl rfl .nil)) (fun e_ => .inl ⟨rfl, V1.t (V1.indexAddrS ty_36 sz_27 rfl rfl (by omega) (by omega)) ⟨rfl, rfl⟩⟩) ?_
        refine Det.cons 5 (ins := [(43, _)]) (.new 4 0 z_F rfl rfl .nil) (fun e_ => .inl ⟨rfl, V1.t (V1.load1 (v := u32V (g xs (f + r))) one_27 rfl (ib_rd (cs := (xs).map u32V) (k := f + r) z_D (gV (by omega)))) ⟨rfl, rfl⟩⟩) ?_
        refine Det.cons 6 (ins := [(0, _)]) (.old z_B z_F .nil) (fun e_ => .inl ⟨rfl, V1.t (V1.move' z_B) ⟨rfl, rfl⟩⟩) ?_
        refine Det.cons 7 (ins := [(3, _)]) (.old z_B z_F .nil) (fun e_ => .inl ⟨rfl, V1.t (V1.move' z_B) ⟨rfl, rfl⟩⟩) ?_
        refine Det.cons 8 (ins := [(9, _)]) (.old z_B z_F .nil) (fun e_ => .inl ⟨rfl, V1.t (V1.move' z_B) ⟨rfl, rfl⟩⟩) ?_
        refine Det.cons 9 (ins := [(46, _), (47, _)]) (.new 7 1 z_F rfl rfl (.new 8 0 z_F rfl rfl .nil)) (fun e_ => .inl ⟨rfl, V1.t (V1.add (c := ((f + m : Nat) : Int)) rfl rfl (by rw [wrap_i64 _ (by omega) (by omega)]; omega)) ⟨rfl, rfl⟩⟩) ?_
        refine Det.cons 10 (ins := [(45, _), (48, _)]) (.new 6 3 z_F rfl rfl (.new 9 0 z_F rfl rfl .nil)) (fun e_ => .inl ⟨rfl, V1.t (V1.indexAddrS ty_36 sz_27 rfl rfl (by omega) (by omega)) ⟨rfl, rfl⟩⟩) ?_
        refine Det.cons 11 (ins := [(49, _)]) (.new 10 0 z_F rfl rfl .nil) (fun e_ => .inl ⟨rfl, V1.t (V1.load1 (v := u32V (g xs (f + m))) one_27 rfl (ib_rd (cs := (xs).map u32V) (k := f + m) z_D (gV (by omega)))) ⟨rfl, rfl⟩⟩) ?_
        refine Det.cons 12 (ins := [(44, _), (50, _)]) (v := .bool false) (.new 5 6 z_F rfl rfl (.new 11 0 z_F rfl rfl .nil)) (fun e_ => .inl ⟨rfl, ?_⟩) ?_
        · refine T1.call0 has_66 rfl (fun w hs => LessI_any (g xs (f + r) : Int) (g xs (f + m) : Int) w) (fun v_ hv => ?_)
          obtain rfl := hv
          rw [decide_eq_false (by omega)]
          exact ⟨rfl, rfl⟩
        refine Det.cons 13 (ins := [(51, _)]) (.new 12 0 z_F rfl rfl .nil) (fun e_ => .inl ⟨rfl, V1.t (V1.not rfl rfl) ⟨rfl, rfl⟩⟩) ?_
        refine Det.nil 14 (l := [(0, _), (2, _), (3, _), (8, _), (9, _), (52, _)]) (.old z_B z_F (.old z_B z_F (.old z_B z_F (.old z_B z_F (.old z_B z_F (.new 13 0 z_F rfl rfl .nil)))))) (fun e_ => ?_)
        refine T.cond_t rfl ?_
        refine T.ret ?_
        exact ⟨_, _ :: G, _, .nil, z_A, [_], rfl, xs, rfl, hsw, hheap⟩

set_option maxRecDepth 100000 in
set_option maxHeartbeats 8000000 in
theorem heapG (w0 : World) (b off size cap n : Nat) (xs0 : List Nat) (hxl : xs0.length = n) (hn : n ≤ 1000000) (a e m q : Nat) (hae : a + m = e) (hm : 0 < m) (hq : q = (m - 1) / 2) (hen : e ≤ n) : FnG P 61 [.slice (some ⟨b, off, none⟩) n cap, .int .i64 ((a : Nat) : Int), .int .i64 ((e : Nat) : Int)] w0 [] [(⟨b, off, (xs0).map u32V, size⟩ : Blk)] (fun v Y => ∃ ys, Y = [(⟨b, off, (ys).map u32V, size⟩ : Blk)] ∧ Sw a e xs0 ys ∧ Asc a e ys) := by
  refine FnG.of 56 [] Go.Proofs.Try.func61 rfl rfl rfl rfl (fun G hG => ?_)
  simp only [List.cons_append, List.nil_append]
  refine T.seq ?_
  refine T.region ?_
  refine TL.cons rfl (V1.t (V1.move' z_B) ?_)
  refine TL.cons rfl (V1.t (V1.assign' z_B) ?_)
  refine TL.nil ?_
  refine T.seq ?_
  refine T.region ?_
  refine TL.cons rfl (V1.t (V1.assign' z_B) ?_)
  refine TL.nil ?_
  refine T.seq ?_
  refine T.region ?_
  refine TL.cons rfl (V1.t (V1.move' z_B) ?_)
  refine TL.cons rfl (V1.t (V1.move' z_B) ?_)
  refine TL.cons rfl (V1.t (V1.sub (c := ((m : Nat) : Int)) rfl rfl (by rw [wrap_i64 _ (by omega) (by omega)]; omega)) ?_)
  refine TL.cons rfl (V1.t (V1.assign' z_B) ?_)
  refine TL.nil ?_
  refine T.seq ?_
  refine T.seq ?_
  refine T.region ?_
  refine TL.cons rfl (V1.t (V1.move' z_B) ?_)
  refine TL.cons rfl (V1.t (V1.sub (c := ((m - 1 : Nat) : Int)) rfl rfl (by rw [wrap_i64 _ (by omega) (by omega)]; omega)) ?_)
  refine TL.cons rfl (V1.t (V1.quo (c := ((q : Nat) : Int)) rfl rfl (by decide) (by rw [show ((m - 1 : Nat) : Int).tdiv 2 = ((q : Nat) : Int) from by rw [hq]; rfl]; exact wrap_i64 _ (by omega) (by omega))) ?_)
  refine TL.cons rfl (V1.t (V1.assign' z_B) ?_)
  refine TL.nil ?_
  refine T.block ?_
  refine T.loopL (σ := Nat × List Nat) (l0 := [(0, _), (6, _), (7, _), (8, _)]) (fun x => [(9, .int .i64 (((x.1 : Nat) : Int) - 1))]) (fun x L => L = (⟨b, off, (x.2).map u32V, size⟩ : Blk) :: G ∧ Sw a e xs0 x.2 ∧ x.1 ≤ q + 1 ∧ Heap a x.1 m x.2) (fun x => x.1) (q + 1, xs0) (.cons (by show Value.int .i64 _ = Value.int .i64 _; congr 1; omega) .nil) (.cons z_B (.cons z_B (.cons z_B (.cons z_B .nil)))) z_A (⟨rfl, Sw.refl, Nat.le_refl _, fun i c h1 h2 h3 => by rcases h3 with h3 | h3 <;> (simp only at h1; omega)⟩) ?_
  rintro ⟨k, xs⟩ e_ L ⟨rfl, hsw, hkq, hhp⟩
  dsimp only at hsw hkq hhp
  dsimp only
  have hxn := hsw.len
  refine T.seq ?_
  refine T.seq ?_
  refine T.region ?_
  refine TL.cons rfl (V1.t (V1.move' z_B) ?_)
  refine TL.cons rfl (T1.geI_split rfl rfl (fun h4 => ?_) (fun h4 => ?_))
  ·
    obtain ⟨k, rfl⟩ : ∃ k_, k = k_ + 1 := ⟨k - 1, by omega⟩
    rw [show (((k + 1 : Nat) : Int) - 1) = ((k : Nat) : Int) by omega]
    refine TL.nil ?_
    refine T.cond_t rfl ?_
    refine T.skip ?_
    refine T.seq ?_
    refine T.block ?_
    refine T.region ?_
    refine TL.cons rfl (V1.t (V1.move' z_B) ?_)
    refine TL.cons rfl (V1.t (V1.move' z_B) ?_)
    refine TL.cons rfl (V1.t (V1.move' z_B) ?_)
    refine TL.cons rfl (V1.t (V1.move' z_B) ?_)
    refine TL.cons rfl (T1.callM (X := [(⟨b, off, (xs).map u32V, size⟩ : Blk)]) has_71 rfl rfl (siftG w0 b off size cap n xs (by omega) hn a k m (by omega) (by omega) hhp) z_A z_E (fun v_ Y_ hv => ?_))
    obtain ⟨ys, rfl, hsw2, hh2⟩ := hv
    simp only [List.cons_append, List.nil_append]
    have hyn := hsw2.len
    refine TL.nil ?_
    refine T.region ?_
    refine TL.cons rfl (V1.t (V1.move' z_B) ?_)
    refine TL.cons rfl (V1.t (V1.sub (c := ((k : Nat) : Int) - 1) rfl rfl (by rw [wrap_i64 _ (by omega) (by omega)])) ?_)
    refine TL.cons rfl (V1.t (V1.assign' z_B) ?_)
    refine TL.nil ?_
    exact ⟨(k, ys), (⟨b, off, (ys).map u32V, size⟩ : Blk) :: G, _, (by simp only; omega), (.cons rfl .nil), (.cons rfl (.cons rfl (.cons rfl (.cons rfl .nil)))), z_A, ⟨rfl, hsw.trans (hsw2.wide (by omega) (by omega)), by simp only; omega, hh2⟩⟩
  ·
    obtain rfl : k = 0 := by omega
    refine TL.nil ?_
    refine T.cond_f rfl ?_
    refine T.exit ?_
    refine T.seq ?_
    refine T.region ?_
    refine TL.cons rfl (V1.t (V1.move' z_B) ?_)
    refine TL.cons rfl (V1.t (V1.sub (c := ((m : Nat) : Int) - 1) rfl rfl (by rw [wrap_i64 _ (by omega) (by omega)])) ?_)
    refine TL.cons rfl (V1.t (V1.assign' z_B) ?_)
    refine TL.nil ?_
    refine T.block ?_
    refine T.loopL (σ := Nat × List Nat) (l0 := [(0, _), (6, _), (7, _)]) (fun x => [(10, .int .i64 (((x.1 : Nat) : Int) - 1))]) (fun x L => L = (⟨b, off, (x.2).map u32V, size⟩ : Blk) :: G ∧ Sw a e xs0 x.2 ∧ x.1 ≤ m ∧ Hs a m x.1 x.2) (fun x => x.1) (m, xs) (.cons rfl .nil) (.cons z_B (.cons z_B (.cons z_B .nil))) z_A (⟨rfl, hsw, Nat.le_refl _, Hs.start hhp⟩) ?_
    rintro ⟨k, xs⟩ e_ L ⟨rfl, hsw, hkm, hhs⟩
    dsimp only at hsw hkm hhs
    dsimp only
    have hxn := hsw.len
    refine T.seq ?_
    refine T.seq ?_
    refine T.region ?_
    refine TL.cons rfl (V1.t (V1.move' z_B) ?_)
    refine TL.cons rfl (T1.geI_split rfl rfl (fun h8 => ?_) (fun h8 => ?_))
    ·
      obtain ⟨k, rfl⟩ : ∃ k_, k = k_ + 1 := ⟨k - 1, by omega⟩
      rw [show (((k + 1 : Nat) : Int) - 1) = ((k : Nat) : Int) by omega]
      have hsp := hhs.swap (by omega) (by omega)
      have hsl := swp_len xs a (a + k)
      refine TL.nil ?_
      refine T.cond_t rfl ?_
      refine T.skip ?_
      refine T.seq ?_
      refine T.block ?_
      refine T.seq ?_
      refine T.drawZ (fun L_ => Find L_ (⟨b, off, (xs).map u32V, size⟩ : Blk)) 17 mixed z_D ?_
      refine TZ.pure 0 rfl z_F z_F z_F z_F rfl (fun _ _ _ h => h) (fun _ => V1.move' z_B) ?_
      refine TZ.pure 1 rfl z_F z_F z_F z_F rfl (fun _ _ _ h => h) (fun _ => V1.move' z_B) ?_
      refine TZ.pure 2 rfl z_F z_F z_F z_F rfl (fun _ _ _ h => h) (fun _ => V1.move' z_B) ?_
      refine TZ.pure 3 rfl z_F z_F z_F z_F rfl (fun _ _ _ h => h) (fun _ => V1.move' z_B) ?_
      refine TZ.pure 4 rfl z_F z_F z_F z_F rfl (fun _ _ _ h => h) (fun _ => V1.move' z_B) ?_
      refine TZ.pure 5 rfl z_F z_F z_F z_F rfl (fun _ _ _ h => h) (fun _ => V1.add (c := ((a + k : Nat) : Int)) rfl rfl (by rw [wrap_i64 _ (by omega) (by omega)]; omega)) ?_
      refine TZ.pure 6 rfl z_F z_F z_F z_F rfl (fun _ _ _ h => h) (fun _ => V1.move' z_B) ?_
      refine TZ.pure 7 rfl z_F z_F z_F z_F rfl (fun _ _ _ h => h) (fun _ => V1.move' z_B) ?_
      refine TZ.pure 8 rfl z_F z_F z_F z_F rfl (fun _ _ _ h => h) (fun _ => V1.move' z_B) ?_
      refine TZ.pure 9 rfl z_F z_F z_F z_F rfl (fun _ _ _ h => h) (fun _ => V1.add (c := ((a + k : Nat) : Int)) rfl rfl (by rw [wrap_i64 _ (by omega) (by omega)]; omega)) ?_
      refine TZ.pure 10 rfl z_F z_F z_F z_F rfl (fun _ _ _ h => h) (fun _ => V1.indexAddrS ty_36 sz_27 rfl rfl (by omega) (by omega)) ?_
      refine TZ.pure 12 rfl z_F z_F z_F z_F rfl (fun _ _ _ h => h) (fun _ => V1.move' z_B) ?_
      refine TZ.pure 13 rfl z_F z_F z_F z_F rfl (fun _ _ _ h => h) (fun _ => V1.move' z_B) ?_
      refine TZ.pure 14 rfl z_F z_F z_F z_F rfl (fun _ _ _ h => h) (fun _ => V1.indexAddrS ty_36 sz_27 rfl rfl (by omega) (by omega)) ?_
      refine TZ.read 11 rfl z_F z_F z_F z_F rfl (fun _ _ _ h => h) (fun L_ k1_ => V1.load1 (v := u32V (g xs (a + k))) one_27 rfl (ib_rd (cs := (xs).map u32V) (k := a + k) z_D (gV (by omega)))) ?_
      refine TZ.read 15 rfl z_F z_F z_F z_F rfl (fun _ _ _ h => h) (fun L_ k1_ => V1.load1 (v := u32V (g xs (a))) one_27 rfl (ib_rd (cs := (xs).map u32V) (k := a) z_D (gV (by omega)))) ?_
      refine TZ.pure 16 rfl z_F z_F z_F z_F rfl (fun _ _ _ h => h) (fun _ => V1.indexAddrS ty_36 sz_27 rfl rfl (by omega) (by omega)) ?_
      refine TZ.one 17 z_F rfl z_F rfl (T1.storeE (o := off + (a) * 1) (off := off) (size := size) (cells := (xs).map u32V) (cells' := ((xs).set (a) (g xs (a + k))).map u32V) (v := u32V (g xs (a + k))) rfl rfl sz_27 rfl (by rw [show off + (a) * 1 - off = a by omega]; exact List.map_set.symm) z_H (by omega) (by simp only [List.length_map, List.length_set]; omega) ?_)
      refine TZ.pure 18 rfl z_F z_F z_F z_F rfl (fun _ _ _ h => h) (fun _ => V1.indexAddrS ty_36 sz_27 rfl rfl (by omega) (by omega)) ?_
      refine TZ.one 19 z_F rfl z_F rfl (T1.storeE (o := off + (a + k) * 1) (off := off) (size := size) (cells := ((xs).set (a) (g xs (a + k))).map u32V) (cells' := (((xs).set (a) (g xs (a + k))).set (a + k) (g xs (a))).map u32V) (v := u32V (g xs (a))) rfl rfl sz_27 rfl (by rw [show off + (a + k) * 1 - off = a + k by omega]; exact List.map_set.symm) z_H (by omega) (by simp only [List.length_map, List.length_set]; omega) ?_)
      show TZ _ _ _ _ _ _ _ _ ((⟨b, off, (swp xs a (a + k)).map u32V, size⟩ : Blk) :: G)
      refine TZ.done z_F ?_
      refine T.live (l := [(0, _), (6, _), (7, _), (10, _)]) (.cons z_B (.cons z_B (.cons z_B (.cons z_B .nil)))) (fun e_ => ?_)
      refine T.region ?_
      refine TL.cons rfl (V1.t (V1.move' z_B) ?_)
      refine TL.cons rfl (V1.t (V1.move' z_B) ?_)
      refine TL.cons rfl (V1.t (V1.move' z_B) ?_)
      refine TL.cons rfl (V1.t (V1.move' z_B) ?_)
      refine TL.cons rfl (T1.callM (X := [(⟨b, off, ((swp xs a (a + k))).map u32V, size⟩ : Blk)]) has_71 rfl rfl (siftG w0 b off size cap n (swp xs a (a + k)) (by omega) hn a 0 k (by omega) (by omega) hsp.1) z_A z_E (fun v_ Y_ hv => ?_))
      obtain ⟨ys, rfl, hsw2, hh2⟩ := hv
      simp only [List.cons_append, List.nil_append]
      have hyn := hsw2.len
      refine TL.nil ?_
      refine T.region ?_
      refine TL.cons rfl (V1.t (V1.move' z_B) ?_)
      refine TL.cons rfl (V1.t (V1.sub (c := ((k : Nat) : Int) - 1) rfl rfl (by rw [wrap_i64 _ (by omega) (by omega)])) ?_)
      refine TL.cons rfl (V1.t (V1.assign' z_B) ?_)
      refine TL.nil ?_
      exact ⟨(k, ys), (⟨b, off, (ys).map u32V, size⟩ : Blk) :: G, _, (by simp only; omega), (.cons rfl .nil), (.cons rfl (.cons rfl (.cons rfl .nil))), z_A, ⟨rfl, (hsw.trans (Sw.swap (by omega) (by omega) (by omega) (by omega) (by omega))).trans (hsw2.wide (by omega) (by omega)), by simp only; omega, Hs.next hsp.2 hsw2 hh2⟩⟩
    ·
      obtain rfl : k = 0 := by omega
      refine TL.nil ?_
      refine T.cond_f rfl ?_
      refine T.exit ?_
      -- the end
      exact ⟨_, _ :: G, _, .nil, z_A, [_], rfl, xs, rfl, hsw, by have := hhs.done; rwa [hae] at this⟩

end Go.Proofs.Ytijijaobialncaa.S
