/- The document's ways: bytes taken out; offers left, or fetched. -/
import Derived.Test.YtijijaobialncaaR2
namespace Go.Proofs.Ytijijaobialncaa.S
open Go.RowKit

theorem erase_rows (xs : List Value) {j n : Nat} (hn : xs.length = n) : (xs.drop (0 * 1)).take ((j - 0) * 1) ++ (xs.drop ((j + 1) * 1)).take ((n - (j + 1)) * 1) = xs.eraseIdx j := by
  rw [Nat.zero_mul, List.drop_zero, Nat.sub_zero, Nat.mul_one, Nat.mul_one, Nat.mul_one, List.eraseIdx_eq_take_drop_succ, List.take_of_length_le (l := xs.drop (j + 1)) (by rw [List.length_drop]; omega)]
/-- What the document's Take hands back. -/
def takD (r : Option (List UInt8)) (l1 : Value) : Value := match r with
  | none => .tuple #[l1, .string (bstr []), .int .i64 4]
  | some l => .tuple #[l1, .string (bstr l), .int .i64 0]
set_option maxRecDepth 100000 in
theorem TakeG (w0 : World) {Ps : List Blk} {la : Option Addr} {lc : Nat} {ds : List Pr} {css : List (List Value)} (hc : DocC w0 Ps (.slice la ds.length lc) ds css) (hdl : ds.length ≤ 100) (hok : SrvOk ds) (n : Nat) (q : Int) : FnG P 38 [.slice la ds.length lc, .int .i64 (n : Nat), .int .i64 q] w0 Ps [] (fun v Y => ∃ l1, v = takD (takeP ds n q).2 l1 ∧ DocR w0 (Y ++ Ps) l1 (takeP ds n q).1) := by
  refine FnG.of 61 [.tmp 6, .tmp 7, .tmp 8] Go.Proofs.Try.func38 rfl rfl rfl rfl (fun G hG => ?_)
  refine T.seq ?_
  refine T.region ?_
  refine TL.cons rfl (V1.t (V1.assign' z_B) ?_)
  refine TL.cons rfl (V1.t (V1.assign' z_B) ?_)
  refine TL.cons rfl (V1.t (V1.assign' z_B) ?_)
  refine TL.nil ?_
  refine T.seq ?_
  refine T.region ?_
  refine TL.cons rfl (V1.t (V1.move' z_B) ?_)
  refine TL.cons rfl (V1.t (V1.move' z_B) ?_)
  refine TL.cons rfl (T1.callV (Ps := Ps) has_47 rfl rfl (FindG w0 hc hdl n) z_E (fun v_ hv => ?_))
  rcases hv with ⟨rfl, hfn⟩ | ⟨i, d, rfl, hdi, hfp⟩
  ·
    refine TL.cons rfl (V1.t (V1.assign' z_B) ?_)
    refine TL.nil ?_
    refine T.seq ?_
    refine T.seq ?_
    refine T.region ?_
    refine TL.cons rfl (V1.t (V1.move' z_B) ?_)
    refine TL.cons rfl (V1.t (V1.ltI (r := true) rfl rfl (decide_eq_true (by omega))) ?_)
    refine TL.cons rfl (V1.t (V1.move' z_B) ?_)
    refine TL.no rfl ?_
    refine TL.no rfl ?_
    refine TL.cons rfl (V1.t (V1.pick rfl z_B) ?_)
    refine TL.cons rfl (V1.t (V1.move' z_B) ?_)
    refine TL.no rfl ?_
    refine TL.no rfl ?_
    refine TL.no rfl ?_
    refine TL.no rfl ?_
    refine TL.no rfl ?_
    refine TL.no rfl ?_
    refine TL.no rfl ?_
    refine TL.no rfl ?_
    refine TL.cons rfl (V1.t (V1.pick rfl z_B) ?_)
    refine TL.nil ?_
    refine T.cond_t rfl ?_
    refine T.seq ?_
    refine T.live (l := [(0, _)]) (.cons z_B .nil) (fun e_ => ?_)
    refine T.region ?_
    refine TL.cons rfl (V1.t (V1.move' z_B) ?_)
    refine TL.cons rfl (V1.t (V1.assign' z_B) ?_)
    refine TL.cons rfl (V1.t (V1.assign' z_B) ?_)
    refine TL.cons rfl (V1.t (V1.assign' z_B) ?_)
    refine TL.nil ?_
    refine T.ret ?_
    exact ⟨_, G, _, .cons (.tmp z_B) (.cons (.tmp z_B) (.cons (.tmp z_B) .nil)), z_A, [], rfl, _, by rw [takeP_none hfn]; rfl, by rw [takeP_none hfn]; exact ⟨_, hc.more (Inc.skip Inc.refl)⟩⟩
  ·
    have hil := (List.getElem?_eq_some_iff.1 hdi).1
    obtain ⟨lb, lo, so, sn, sb, oc, nc, rfl, hcs, p1, p2, p3, hrd⟩ := hc.at hdi
    have hones : ∀ u ∈ [.int .i64 (d.name : Nat), so, sn, sb], one u = true := (show PerR w0 Ps d _ from ⟨_, _, _, _, _, rfl, p1, p2, p3⟩).ones.2
    obtain ⟨oa, occ, rfl⟩ := p1.row.row.form
    obtain ⟨na, ncc, rfl⟩ := p2.row.row.form
    obtain ⟨ga, gcc, rfl⟩ := p3.row.form
    have hdo : d.Ok := hok.each d (List.mem_of_getElem? hdi)
    have hdb := hdo.bytes
    have hdx := hdo.box
    have hdw := hdo.few
    refine TL.cons rfl (V1.t (V1.assign' z_B) ?_)
    refine TL.nil ?_
    refine T.seq ?_
    refine T.seq ?_
    rcases Int.lt_or_le q 0 with hq1 | hq1
    rotate_left
    rcases Int.lt_or_le q (d.box.length : Nat) with hq2 | hq2
    ·
      obtain ⟨j, rfl⟩ : ∃ j : Nat, q = j := ⟨q.toNat, by omega⟩
      obtain ⟨l, hlj⟩ : ∃ l, d.box[j]? = some l := ⟨_, List.getElem?_eq_getElem (by omega)⟩
      obtain ⟨gb, go, rfl, hrg⟩ := p3.row.at (by omega) P
      refine T.region ?_
      refine TL.cons rfl (V1.t (V1.move' z_B) ?_)
      refine TL.cons rfl (V1.t (V1.ltI (r := false) rfl rfl (decide_eq_false (by omega))) ?_)
      refine TL.cons rfl (V1.t (V1.move' z_B) ?_)
      refine TL.cons rfl (V1.t (V1.move' z_B) ?_)
      refine TL.cons rfl (V1.t (V1.ltI (r := false) rfl rfl (decide_eq_false (by omega))) ?_)
      refine TL.cons rfl (V1.t (V1.pick rfl z_B) ?_)
      refine TL.cons rfl (V1.t (V1.move' z_B) ?_)
      refine TL.cons rfl (V1.t (V1.move' z_B) ?_)
      refine TL.cons rfl (V1.t (V1.move' z_B) ?_)
      refine TL.cons rfl (V1.t (V1.move' z_B) ?_)
      refine TL.cons rfl (V1.t (V1.indexAddrS ty_49 sz_101 rfl rfl (by omega) (by omega)) ?_)
      refine TL.cons rfl (V1.t (V1.fieldAddr fl_101_3 rfl) ?_)
      refine TL.cons rfl (V1.t (V1.load1 one_99 rfl (hrd _ rfl rfl _ z_E 3 _ rfl)) ?_)
      refine TL.cons rfl (V1.t (V1.lenSl ty_99 rfl) ?_)
      refine TL.cons rfl (V1.t (V1.geI (r := false) rfl rfl (decide_eq_false (by omega))) ?_)
      refine TL.cons rfl (V1.t (V1.pick rfl z_B) ?_)
      refine TL.nil ?_
      refine T.cond_f rfl ?_
      refine T.skip ?_
      refine T.seq ?_
      refine T.live (l := [(0, _), (2, _), (9, _)]) (.cons z_B (.cons z_B (.cons z_B .nil))) (fun e_ => ?_)
      refine T.region ?_
      refine TL.cons rfl (V1.t (V1.move' z_B) ?_)
      refine TL.cons rfl (V1.t (V1.move' z_B) ?_)
      refine TL.cons rfl (V1.t (V1.indexAddrS ty_49 sz_101 rfl rfl (by omega) (by omega)) ?_)
      refine TL.cons rfl (V1.t (V1.loadN (vs := [.int .i64 (d.name : Nat), .slice oa d.offer.toList.length occ, .slice na d.once.length ncc, .slice (some ⟨gb, go, none⟩) d.box.length gcc]) one_101 sz_101 rfl (hrd _ rfl rfl _ z_E) rfl) ?_)
      refine TL.cons rfl (T1.allocN 4 zr_101 rfl (fun b10 => ?_))
      refine TL.cons rfl (T1.storeN (vs := [.int .i64 (d.name : Nat), .slice oa d.offer.toList.length occ, .slice na d.once.length ncc, .slice (some ⟨gb, go, none⟩) d.box.length gcc]) rfl rfl sz_101 hones z_H (by rfl) (by rfl) ?_)
      refine TL.nil ?_
      refine T.seq ?_
      refine T.region ?_
      refine TL.cons rfl (V1.t (V1.fieldAddr fl_101_3 rfl) ?_)
      refine TL.cons rfl (V1.t (V1.load1 (v := .slice (some ⟨gb, go, none⟩) d.box.length gcc) one_99 rfl (.own (cells := [.int .i64 (d.name : Nat), .slice oa d.offer.toList.length occ, .slice na d.once.length ncc, .slice (some ⟨gb, go, none⟩) d.box.length gcc]) z_D (by rfl))) ?_)
      refine TL.cons rfl (V1.t (V1.move' z_B) ?_)
      refine TL.cons rfl (V1.t (V1.indexAddrS ty_99 sz_9 rfl rfl (by omega) (by omega)) ?_)
      refine TL.cons rfl (V1.t (V1.load1 (v := strV l) one_9 rfl (RdN.i1 (i := j) (hrg _ rfl rfl _ z_E) (by rw [List.getElem?_map, hlj]; rfl))) ?_)
      refine TL.cons rfl (V1.t (V1.assign' z_B) ?_)
      refine TL.nil ?_
      refine T.seq ?_
      refine T.region ?_
      refine TL.cons rfl (T1.buildNone0 ty_99 sz_9 zr_9 (fun b42 => ?_))
      refine TL.cons rfl (V1.t (V1.fieldAddr fl_101_3 rfl) ?_)
      refine TL.cons rfl (V1.t (V1.load1 (v := .slice (some ⟨gb, go, none⟩) d.box.length gcc) one_99 rfl (.own (cells := [.int .i64 (d.name : Nat), .slice oa d.offer.toList.length occ, .slice na d.once.length ncc, .slice (some ⟨gb, go, none⟩) d.box.length gcc]) z_D (by rfl))) ?_)
      refine TL.cons rfl (V1.t (V1.move' z_B) ?_)
      refine TL.cons rfl (V1.t (V1.sliceRow ty_99 sz_9 rfl p3 0 j rfl rfl (Nat.zero_le _) (by omega)) ?_)
      refine TL.cons rfl (T1.append ty_99 kd_99 sz_9 by_9 zr_9 rfl (by decide) (by decide) rfl rfl (Sl.none0 (b := b42)) ((p3.slice (Nat.zero_le j) (by omega)).row.src _ rfl rfl _ z_E) (fun u hu => (show ∀ u ∈ d.box.map strV, one u = true from by intro u hu; obtain ⟨c_, _, rfl⟩ := List.mem_map.1 hu; rfl) u (List.mem_of_mem_drop (List.mem_of_mem_take hu))) 1000 (by have h_ := (p3.slice (Nat.zero_le j) (by omega)).row.len; rw [h_, List.length_nil]; omega) (by decide) z_C (fun s1 L1 hs1 => ?_))
      rw [List.nil_append] at hs1
      refine TL.cons rfl (V1.t (V1.assign' z_B) ?_)
      refine TL.nil ?_
      refine T.seq ?_
      refine T.live (l := [(0, _), (2, _), (9, _), (10, _), (11, _), (12, _)]) (.cons z_B (.cons z_B (.cons z_B (.cons z_B (.cons z_B (.cons z_B .nil)))))) (fun e_ => ?_)
      refine T.region ?_
      refine TL.cons rfl (V1.t (V1.move' z_B) ?_)
      refine TL.cons rfl (V1.t (V1.fieldAddr fl_101_3 rfl) ?_)
      refine TL.cons rfl (V1.t (V1.load1 (v := .slice (some ⟨gb, go, none⟩) d.box.length gcc) one_99 rfl (.own (cells := [.int .i64 (d.name : Nat), .slice oa d.offer.toList.length occ, .slice na d.once.length ncc, .slice (some ⟨gb, go, none⟩) d.box.length gcc]) z_D (by rfl))) ?_)
      refine TL.cons rfl (V1.t (V1.move' z_B) ?_)
      refine TL.cons rfl (V1.t (V1.add (c := ((j + 1 : Nat) : Int)) rfl rfl (by rw [wrap_i64 _ (by omega) (by omega)]; omega)) ?_)
      refine TL.cons rfl (V1.t (V1.sliceRow ty_99 sz_9 rfl p3 (j + 1) d.box.length rfl rfl (by omega) (Nat.le_refl _)) ?_)
      refine TL.cons rfl (T1.append ty_99 kd_99 sz_9 by_9 zr_9 rfl (by decide) (by decide) rfl rfl hs1 ((p3.slice (l := j + 1) (by omega) (Nat.le_refl _)).row.src _ rfl rfl _ z_E) (fun u hu => (show ∀ u ∈ d.box.map strV, one u = true from by intro u hu; obtain ⟨c_, _, rfl⟩ := List.mem_map.1 hu; rfl) u (List.mem_of_mem_drop (List.mem_of_mem_take hu))) 1000 (by have h_ := (p3.slice (l := j + 1) (by omega) (Nat.le_refl _)).row.len; have h2_ := (p3.slice (Nat.zero_le j) (by omega)).row.len; rw [h_, h2_]; omega) (by decide) z_C (fun s2 L2 hs2 => ?_))
      rw [erase_rows _ (List.length_map ..)] at hs2
      have hbe : (d.take j).box.map strV = (d.box.map strV).eraseIdx j := by show (d.box.eraseIdx j).map strV = _; rw [List.eraseIdx_eq_take_drop_succ, List.eraseIdx_eq_take_drop_succ, List.map_append, List.map_take, List.map_drop]
      refine TL.cons rfl (V1.t (V1.fieldAddr fl_101_3 rfl) ?_)
      refine TL.cons rfl (T1.store1 (cells := [.int .i64 (d.name : Nat), .slice oa d.offer.toList.length occ, .slice na d.once.length ncc, .slice (some ⟨gb, go, none⟩) d.box.length gcc]) rfl rfl sz_99 hs2.one z_H (Nat.zero_le _) z_J ?_)
      refine TL.nil ?_
      refine T.seq ?_
      refine T.region ?_
      refine TL.cons rfl (V1.t (V1.move' z_B) ?_)
      refine TL.cons rfl (V1.t (V1.move' z_B) ?_)
      refine TL.cons rfl (V1.t (V1.loadN (vs := [.int .i64 (d.name : Nat), .slice oa d.offer.toList.length occ, .slice na d.once.length ncc, s2]) one_101 sz_101 rfl (RdN.whole z_D) rfl) ?_)
      have hpe : PerR w0 (L2 ++ Ps) (d.take j) [.int .i64 (d.name : Nat), .slice oa d.offer.toList.length occ, .slice na d.once.length ncc, s2] := ⟨_, _, _, _, _, rfl, p1.more (Inc.skip Inc.refl), p2.more (Inc.skip Inc.refl), RowS.ofSl (by rw [hbe]; exact hs2) Inc.here (by decide) _ (by rw [List.length_map, Nat.mul_one])⟩
      refine TL.cons rfl (T1.callC (Ps := L2 ++ Ps) has_49 rfl rfl (withG w0 (hc.more (Inc.skip Inc.refl)) hdl i hil (d1 := d.take j) (cs1 := [.int .i64 (d.name : Nat), .slice oa d.offer.toList.length occ, .slice na d.once.length ncc, s2]) hpe) z_E (fun v_ Yw hv => ?_))
      rw [← setP_idx hok.names hdi (d' := d.take j) rfl] at hv
      refine TL.cons rfl (V1.t (V1.move' z_B) ?_)
      refine TL.cons rfl (V1.t (V1.assign' z_B) ?_)
      refine TL.cons rfl (V1.t (V1.assign' z_B) ?_)
      refine TL.cons rfl (V1.t (V1.assign' z_B) ?_)
      refine TL.nil ?_
      refine T.ret ?_
      exact ⟨_, (Yw ++ L2) ++ G, _, .cons (.tmp z_B) (.cons (.tmp z_B) (.cons (.tmp z_B) .nil)), by simp only [List.append_assoc]; exact z_A, Yw ++ L2, rfl, _, by rw [takeP_ok hfp hlj]; rfl, by rw [takeP_ok hfp hlj]; exact hv.up⟩
    ·
      refine T.region ?_
      refine TL.cons rfl (V1.t (V1.move' z_B) ?_)
      refine TL.cons rfl (V1.t (V1.ltI (r := false) rfl rfl (decide_eq_false (by omega))) ?_)
      refine TL.cons rfl (V1.t (V1.move' z_B) ?_)
      refine TL.cons rfl (V1.t (V1.move' z_B) ?_)
      refine TL.cons rfl (V1.t (V1.ltI (r := false) rfl rfl (decide_eq_false (by omega))) ?_)
      refine TL.cons rfl (V1.t (V1.pick rfl z_B) ?_)
      refine TL.cons rfl (V1.t (V1.move' z_B) ?_)
      refine TL.cons rfl (V1.t (V1.move' z_B) ?_)
      refine TL.cons rfl (V1.t (V1.move' z_B) ?_)
      refine TL.cons rfl (V1.t (V1.move' z_B) ?_)
      refine TL.cons rfl (V1.t (V1.indexAddrS ty_49 sz_101 rfl rfl (by omega) (by omega)) ?_)
      refine TL.cons rfl (V1.t (V1.fieldAddr fl_101_3 rfl) ?_)
      refine TL.cons rfl (V1.t (V1.load1 one_99 rfl (hrd _ rfl rfl _ z_E 3 _ rfl)) ?_)
      refine TL.cons rfl (V1.t (V1.lenSl ty_99 rfl) ?_)
      refine TL.cons rfl (V1.t (V1.geI (r := true) rfl rfl (decide_eq_true (by omega))) ?_)
      refine TL.cons rfl (V1.t (V1.pick rfl z_B) ?_)
      refine TL.nil ?_
      refine T.cond_t rfl ?_
      refine T.seq ?_
      refine T.live (l := [(0, _)]) (.cons z_B .nil) (fun e_ => ?_)
      refine T.region ?_
      refine TL.cons rfl (V1.t (V1.move' z_B) ?_)
      refine TL.cons rfl (V1.t (V1.assign' z_B) ?_)
      refine TL.cons rfl (V1.t (V1.assign' z_B) ?_)
      refine TL.cons rfl (V1.t (V1.assign' z_B) ?_)
      refine TL.nil ?_
      refine T.ret ?_
      exact ⟨_, G, _, .cons (.tmp z_B) (.cons (.tmp z_B) (.cons (.tmp z_B) .nil)), z_A, [], rfl, _, by rw [takeP_out hfp (by omega)]; rfl, by rw [takeP_out hfp (by omega)]; exact ⟨_, hc.more (Inc.skip Inc.refl)⟩⟩
    ·
      refine T.region ?_
      refine TL.cons rfl (V1.t (V1.move' z_B) ?_)
      refine TL.cons rfl (V1.t (V1.ltI (r := false) rfl rfl (decide_eq_false (by omega))) ?_)
      refine TL.cons rfl (V1.t (V1.move' z_B) ?_)
      refine TL.cons rfl (V1.t (V1.move' z_B) ?_)
      refine TL.cons rfl (V1.t (V1.ltI (r := true) rfl rfl (decide_eq_true (by omega))) ?_)
      refine TL.cons rfl (V1.t (V1.pick rfl z_B) ?_)
      refine TL.cons rfl (V1.t (V1.move' z_B) ?_)
      refine TL.no rfl ?_
      refine TL.no rfl ?_
      refine TL.no rfl ?_
      refine TL.no rfl ?_
      refine TL.no rfl ?_
      refine TL.no rfl ?_
      refine TL.no rfl ?_
      refine TL.no rfl ?_
      refine TL.cons rfl (V1.t (V1.pick rfl z_B) ?_)
      refine TL.nil ?_
      refine T.cond_t rfl ?_
      refine T.seq ?_
      refine T.live (l := [(0, _)]) (.cons z_B .nil) (fun e_ => ?_)
      refine T.region ?_
      refine TL.cons rfl (V1.t (V1.move' z_B) ?_)
      refine TL.cons rfl (V1.t (V1.assign' z_B) ?_)
      refine TL.cons rfl (V1.t (V1.assign' z_B) ?_)
      refine TL.cons rfl (V1.t (V1.assign' z_B) ?_)
      refine TL.nil ?_
      refine T.ret ?_
      exact ⟨_, G, _, .cons (.tmp z_B) (.cons (.tmp z_B) (.cons (.tmp z_B) .nil)), z_A, [], rfl, _, by rw [takeP_out hfp (by omega)]; rfl, by rw [takeP_out hfp (by omega)]; exact ⟨_, hc.more (Inc.skip Inc.refl)⟩⟩

theorem fetch_d (d : Pr) : d.offer = none ∨ (∃ o, d.offer = some o ∧ d.once = []) ∨ ∃ o f fs, d.offer = some o ∧ d.once = f :: fs := by
  cases h1 : d.offer with
  | none => exact .inl rfl
  | some o => cases h2 : d.once with
    | nil => exact .inr (.inl ⟨o, rfl, rfl⟩)
    | cons f fs => exact .inr (.inr ⟨o, f, fs, rfl, rfl⟩)
def fetC (r : Option Frm) : Int := match r with | none => 4 | some _ => 0
set_option maxRecDepth 100000 in
theorem FetchG (w0 : World) {Ps : List Blk} {la : Option Addr} {lc : Nat} {ds : List Pr} {css : List (List Value)} (hc : DocC w0 Ps (.slice la ds.length lc) ds css) (hdl : ds.length ≤ 100) (hok : SrvOk ds) (n : Nat) : FnG P 36 [.slice la ds.length lc, .int .i64 (n : Nat)] w0 Ps [] (fun v Y => ∃ (l1 : Value) (cs : List Value), v = .tuple #[l1, .agg cs.toArray, .int .i64 (fetC (fetchP ds n).2)] ∧ DocR w0 (Y ++ Ps) l1 (fetchP ds n).1 ∧ FrmS w0 (Y ++ Ps) (.agg cs.toArray) ((fetchP ds n).2.getD zeroF)) := by
  refine FnG.of 58 [.tmp 4, .cell 5 39, .tmp 6] Go.Proofs.Try.func36 rfl rfl rfl rfl (fun G hG => ?_)
  refine T.seq ?_
  refine T.region ?_
  refine TL.cons rfl (V1.t (V1.assign' z_B) ?_)
  refine TL.cons rfl (T1.allocN 5 zr_39 rfl (fun b5 => ?_))
  refine TL.cons rfl (V1.t (V1.assign' z_B) ?_)
  refine TL.nil ?_
  refine T.seq ?_
  refine T.region ?_
  refine TL.cons rfl (V1.t (V1.move' z_B) ?_)
  refine TL.cons rfl (V1.t (V1.move' z_B) ?_)
  refine TL.cons rfl (T1.callV (Ps := Ps) has_47 rfl rfl (FindG w0 hc hdl n) z_E (fun v_ hv => ?_))
  rcases hv with ⟨rfl, hfn⟩ | ⟨i, d, rfl, hdi, hfp⟩
  rotate_left
  rcases fetch_d d with ho | ⟨o1, ho, hn⟩ | ⟨o1, f1, fs1, ho, hn⟩
  ·
    have hil := (List.getElem?_eq_some_iff.1 hdi).1
    obtain ⟨lb, lo, so, sn, sb, oc, nc, rfl, hcs, p1, p2, p3, hrd⟩ := hc.at hdi
    have hones : ∀ u ∈ [.int .i64 (d.name : Nat), so, sn, sb], one u = true := (show PerR w0 Ps d _ from ⟨_, _, _, _, _, rfl, p1, p2, p3⟩).ones.2
    rw [ho] at p1
    obtain ⟨oa, occ, rfl⟩ : ∃ a c, so = .slice a 0 c := p1.row.row.form
    refine TL.cons rfl (V1.t (V1.assign' z_B) ?_)
    refine TL.nil ?_
    refine T.seq ?_
    refine T.seq ?_
    refine T.region ?_
    refine TL.cons rfl (V1.t (V1.move' z_B) ?_)
    refine TL.cons rfl (V1.t (V1.ltI (r := false) rfl rfl (decide_eq_false (by omega))) ?_)
    refine TL.cons rfl (V1.t (V1.move' z_B) ?_)
    refine TL.cons rfl (V1.t (V1.move' z_B) ?_)
    refine TL.cons rfl (V1.t (V1.move' z_B) ?_)
    refine TL.cons rfl (V1.t (V1.indexAddrS ty_49 sz_101 rfl rfl (by omega) (by omega)) ?_)
    refine TL.cons rfl (V1.t (V1.fieldAddr fl_101_1 rfl) ?_)
    refine TL.cons rfl (V1.t (V1.load1 one_42 rfl (hrd _ rfl rfl _ z_E 1 _ rfl)) ?_)
    refine TL.cons rfl (V1.t (V1.lenSl ty_42 rfl) ?_)
    refine TL.cons rfl (V1.t (V1.eqI (r := true) rfl rfl rfl) ?_)
    refine TL.cons rfl (V1.t (V1.pick rfl z_B) ?_)
    refine TL.nil ?_
    refine T.cond_t rfl ?_
    refine T.seq ?_
    refine T.live (l := [(0, _), (5, _)]) (.cons z_B (.cons z_B .nil)) (fun e_ => ?_)
    refine T.region ?_
    refine TL.cons rfl (V1.t (V1.move' z_B) ?_)
    refine TL.cons rfl (V1.t (V1.build0 pl_39 zr_39) ?_)
    refine TL.cons rfl (V1.t (V1.assign' z_B) ?_)
    refine TL.cons rfl (T1.storeN (vs := zeroC) rfl rfl sz_39 (ones rfl) z_H (by rfl) (by rfl) ?_)
    refine TL.cons rfl (V1.t (V1.assign' z_B) ?_)
    refine TL.nil ?_
    refine T.ret ?_
    exact ⟨_, G, _, .cons (.tmp z_B) (.cons (.cellN rfl one_39 sz_39 (RdN.whole z_D) rfl) (.cons (.tmp z_B) .nil)), z_A, [], rfl, _, _, by rw [fetchP_bare hfp ho]; rfl, by rw [fetchP_bare hfp ho]; exact ⟨_, hc.more (Inc.skip Inc.refl)⟩, by rw [fetchP_bare hfp ho]; exact zeroF_is⟩
  ·
    have hil := (List.getElem?_eq_some_iff.1 hdi).1
    obtain ⟨lb, lo, so, sn, sb, oc, nc, rfl, hcs, p1, p2, p3, hrd⟩ := hc.at hdi
    have hones : ∀ u ∈ [.int .i64 (d.name : Nat), so, sn, sb], one u = true := (show PerR w0 Ps d _ from ⟨_, _, _, _, _, rfl, p1, p2, p3⟩).ones.2
    rw [ho] at p1
    obtain ⟨oa, occ, rfl⟩ : ∃ a c, so = .slice a 1 c := p1.row.row.form
    obtain ⟨ob, oo, fcs, rfl, hoc, hf1, hf5, hf1s, hro⟩ := p1.at (f := o1) (i := 0) rfl
    rw [hn] at p2
    obtain ⟨na, ncc, rfl⟩ : ∃ a c, sn = .slice a (0) c := p2.row.row.form
    refine TL.cons rfl (V1.t (V1.assign' z_B) ?_)
    refine TL.nil ?_
    refine T.seq ?_
    refine T.seq ?_
    refine T.region ?_
    refine TL.cons rfl (V1.t (V1.move' z_B) ?_)
    refine TL.cons rfl (V1.t (V1.ltI (r := false) rfl rfl (decide_eq_false (by omega))) ?_)
    refine TL.cons rfl (V1.t (V1.move' z_B) ?_)
    refine TL.cons rfl (V1.t (V1.move' z_B) ?_)
    refine TL.cons rfl (V1.t (V1.move' z_B) ?_)
    refine TL.cons rfl (V1.t (V1.indexAddrS ty_49 sz_101 rfl rfl (by omega) (by omega)) ?_)
    refine TL.cons rfl (V1.t (V1.fieldAddr fl_101_1 rfl) ?_)
    refine TL.cons rfl (V1.t (V1.load1 one_42 rfl (hrd _ rfl rfl _ z_E 1 _ rfl)) ?_)
    refine TL.cons rfl (V1.t (V1.lenSl ty_42 rfl) ?_)
    refine TL.cons rfl (V1.t (V1.eqI (r := false) rfl rfl rfl) ?_)
    refine TL.cons rfl (V1.t (V1.pick rfl z_B) ?_)
    refine TL.nil ?_
    refine T.cond_f rfl ?_
    refine T.skip ?_
    refine T.seq ?_
    refine T.seq ?_
    refine T.live (l := [(0, _), (5, _), (7, _)]) (.cons z_B (.cons z_B (.cons z_B .nil))) (fun e_ => ?_)
    refine T.region ?_
    refine TL.cons rfl (V1.t (V1.move' z_B) ?_)
    refine TL.cons rfl (V1.t (V1.move' z_B) ?_)
    refine TL.cons rfl (V1.t (V1.indexAddrS ty_49 sz_101 rfl rfl (by omega) (by omega)) ?_)
    refine TL.cons rfl (V1.t (V1.fieldAddr fl_101_2 rfl) ?_)
    refine TL.cons rfl (V1.t (V1.load1 one_42 rfl (hrd _ rfl rfl _ z_E 2 _ rfl)) ?_)
    refine TL.cons rfl (V1.t (V1.lenSl ty_42 rfl) ?_)
    refine TL.cons rfl (V1.t (V1.eqI (r := true) rfl rfl rfl) ?_)
    refine TL.nil ?_
    refine T.cond_t rfl ?_
    refine T.seq ?_
    refine T.drawTail 9 mixed z_F (by rfl) z_F rfl ?_
    refine Det.cons 0 (ins := [(0, _)]) (.old z_B z_F .nil) (fun e_ => .inl ⟨rfl, V1.t (V1.move' z_B) ⟨rfl, rfl⟩⟩) ?_
    refine Det.cons 1 (ins := [(0, _)]) (.old z_B z_F .nil) (fun e_ => .inl ⟨rfl, V1.t (V1.move' z_B) ⟨rfl, rfl⟩⟩) ?_
    refine Det.cons 2 (ins := [(7, _)]) (.old z_B z_F .nil) (fun e_ => .inl ⟨rfl, V1.t (V1.move' z_B) ⟨rfl, rfl⟩⟩) ?_
    refine Det.cons 3 (ins := [(34, _), (35, _)]) (.new 1 1 z_F rfl rfl (.new 2 0 z_F rfl rfl .nil)) (fun e_ => .inl ⟨rfl, V1.t (V1.indexAddrS ty_49 sz_101 rfl rfl (by omega) (by omega)) ⟨rfl, rfl⟩⟩) ?_
    refine Det.cons 4 (ins := [(36, _)]) (.new 3 0 z_F rfl rfl .nil) (fun e_ => .inl ⟨rfl, V1.t (V1.fieldAddr fl_101_1 rfl) ⟨rfl, rfl⟩⟩) ?_
    refine Det.cons 5 (ins := [(37, _)]) (.new 4 0 z_F rfl rfl .nil) (fun e_ => .inl ⟨rfl, V1.t (V1.load1 one_42 rfl (hrd _ rfl rfl _ z_E 1 _ rfl)) ⟨rfl, rfl⟩⟩) ?_
    refine Det.cons 6 (ins := [(38, _)]) (.new 5 0 z_F rfl rfl .nil) (fun e_ => .inl ⟨rfl, V1.t (V1.indexAddrS ty_42 sz_39 rfl rfl (by decide) (by decide)) ⟨rfl, rfl⟩⟩) ?_
    refine Det.cons 7 (ins := [(39, _)]) (.new 6 0 z_F rfl rfl .nil) (fun e_ => .inl ⟨rfl, V1.t (V1.loadN (vs := fcs) one_39 sz_39 rfl (hro _ rfl rfl _ z_E) hf5) ⟨rfl, rfl⟩⟩) ?_
    refine Det.cons 8 (ins := [(33, _)]) (.new 0 7 z_F rfl rfl .nil) (fun e_ => .inl ⟨rfl, V1.t (V1.assign' z_B) ⟨rfl, rfl⟩⟩) ?_
    refine Det.nil 9 (l := [(4, _), (5, _), (40, _)]) (.new 8 0 z_F rfl rfl (.old z_B z_F (.new 7 1 z_F rfl rfl .nil))) (fun e_ => ?_)
    refine (show TU _ _ _ 2 _ _ _ from ?_)
    refine TU.one 9 z_F rfl rfl (T1.storeN (vs := fcs) rfl rfl sz_39 hf1s z_H (by rw [hf5]; rfl) hf5 ?_)
    refine TU.one 10 z_F rfl rfl (V1.t (V1.assign' z_B) ?_)
    refine TU.done z_F ?_
    refine T.ret ?_
    exact ⟨_, G, _, .cons (.tmp z_B) (.cons (.cellN rfl one_39 sz_39 (RdN.whole z_D) hf5) (.cons (.tmp z_B) .nil)), z_A, [], rfl, _, _, by rw [fetchP_last hfp ho hn]; rfl, by rw [fetchP_last hfp ho hn]; exact ⟨_, hc.more (Inc.skip Inc.refl)⟩, by rw [fetchP_last hfp ho hn]; exact hf1.more (Inc.skip Inc.refl)⟩
  ·
    have hil := (List.getElem?_eq_some_iff.1 hdi).1
    obtain ⟨lb, lo, so, sn, sb, oc, nc, rfl, hcs, p1, p2, p3, hrd⟩ := hc.at hdi
    have hones : ∀ u ∈ [.int .i64 (d.name : Nat), so, sn, sb], one u = true := (show PerR w0 Ps d _ from ⟨_, _, _, _, _, rfl, p1, p2, p3⟩).ones.2
    rw [ho] at p1
    obtain ⟨oa, occ, rfl⟩ : ∃ a c, so = .slice a 1 c := p1.row.row.form
    rw [hn] at p2
    obtain ⟨na, ncc, rfl⟩ : ∃ a c, sn = .slice a (fs1.length + 1) c := p2.row.row.form
    obtain ⟨nb, no, ncs, rfl, hnc, hg1, hg5, hg1s, hrn⟩ := p2.at (f := f1) (i := 0) rfl
    obtain ⟨cs0, css0, rfl, p2t⟩ := p2.tail
    obtain ⟨ta, tcc, htv⟩ := sliceV_form p2.row (l := 1) (h := (f1 :: fs1).length) (by simp) (Nat.le_refl _)
    refine TL.cons rfl (V1.t (V1.assign' z_B) ?_)
    refine TL.nil ?_
    refine T.seq ?_
    refine T.seq ?_
    refine T.region ?_
    refine TL.cons rfl (V1.t (V1.move' z_B) ?_)
    refine TL.cons rfl (V1.t (V1.ltI (r := false) rfl rfl (decide_eq_false (by omega))) ?_)
    refine TL.cons rfl (V1.t (V1.move' z_B) ?_)
    refine TL.cons rfl (V1.t (V1.move' z_B) ?_)
    refine TL.cons rfl (V1.t (V1.move' z_B) ?_)
    refine TL.cons rfl (V1.t (V1.indexAddrS ty_49 sz_101 rfl rfl (by omega) (by omega)) ?_)
    refine TL.cons rfl (V1.t (V1.fieldAddr fl_101_1 rfl) ?_)
    refine TL.cons rfl (V1.t (V1.load1 one_42 rfl (hrd _ rfl rfl _ z_E 1 _ rfl)) ?_)
    refine TL.cons rfl (V1.t (V1.lenSl ty_42 rfl) ?_)
    refine TL.cons rfl (V1.t (V1.eqI (r := false) rfl rfl rfl) ?_)
    refine TL.cons rfl (V1.t (V1.pick rfl z_B) ?_)
    refine TL.nil ?_
    refine T.cond_f rfl ?_
    refine T.skip ?_
    refine T.seq ?_
    refine T.seq ?_
    refine T.live (l := [(0, _), (5, _), (7, _)]) (.cons z_B (.cons z_B (.cons z_B .nil))) (fun e_ => ?_)
    refine T.region ?_
    refine TL.cons rfl (V1.t (V1.move' z_B) ?_)
    refine TL.cons rfl (V1.t (V1.move' z_B) ?_)
    refine TL.cons rfl (V1.t (V1.indexAddrS ty_49 sz_101 rfl rfl (by omega) (by omega)) ?_)
    refine TL.cons rfl (V1.t (V1.fieldAddr fl_101_2 rfl) ?_)
    refine TL.cons rfl (V1.t (V1.load1 one_42 rfl (hrd _ rfl rfl _ z_E 2 _ rfl)) ?_)
    refine TL.cons rfl (V1.t (V1.lenSl ty_42 rfl) ?_)
    refine TL.cons rfl (V1.t (V1.eqI (r := false) rfl rfl (decide_eq_false (by omega))) ?_)
    refine TL.nil ?_
    refine T.cond_f rfl ?_
    refine T.skip ?_
    refine T.seq ?_
    refine T.region ?_
    refine TL.cons rfl (V1.t (V1.move' z_B) ?_)
    refine TL.cons rfl (V1.t (V1.move' z_B) ?_)
    refine TL.cons rfl (V1.t (V1.indexAddrS ty_49 sz_101 rfl rfl (by omega) (by omega)) ?_)
    refine TL.cons rfl (V1.t (V1.loadN (vs := [.int .i64 (d.name : Nat), .slice oa 1 occ, .slice (some ⟨nb, no, none⟩) (fs1.length + 1) ncc, sb]) one_101 sz_101 rfl (hrd _ rfl rfl _ z_E) rfl) ?_)
    refine TL.cons rfl (T1.allocN 4 zr_101 rfl (fun b8 => ?_))
    refine TL.cons rfl (T1.storeN (vs := [.int .i64 (d.name : Nat), .slice oa 1 occ, .slice (some ⟨nb, no, none⟩) (fs1.length + 1) ncc, sb]) rfl rfl sz_101 hones z_H (by rfl) (by rfl) ?_)
    refine TL.nil ?_
    refine T.seq ?_
    refine T.region ?_
    refine TL.cons rfl (V1.t (V1.fieldAddr fl_101_2 rfl) ?_)
    refine TL.cons rfl (V1.t (V1.load1 (v := .slice (some ⟨nb, no, none⟩) (fs1.length + 1) ncc) one_42 rfl (.own (cells := [.int .i64 (d.name : Nat), .slice oa 1 occ, .slice (some ⟨nb, no, none⟩) (fs1.length + 1) ncc, sb]) z_D (by rfl))) ?_)
    refine TL.cons rfl (V1.t (V1.indexAddrS ty_42 sz_39 rfl rfl (by decide) (by omega)) ?_)
    refine TL.cons rfl (V1.t (V1.loadN (vs := ncs) one_39 sz_39 rfl (hrn _ rfl rfl _ z_E) hg5) ?_)
    refine TL.cons rfl (T1.allocN 5 zr_39 rfl (fun b9 => ?_))
    refine TL.cons rfl (T1.storeN (vs := ncs) rfl rfl sz_39 hg1s z_H (by rw [hg5]; rfl) hg5 ?_)
    refine TL.nil ?_
    refine T.seq ?_
    refine T.live (l := [(0, _), (5, _), (7, _), (8, _), (9, _)]) (.cons z_B (.cons z_B (.cons z_B (.cons z_B (.cons z_B .nil))))) (fun e_ => ?_)
    refine T.region ?_
    refine TL.cons rfl (V1.t (V1.fieldAddr fl_101_2 rfl) ?_)
    refine TL.cons rfl (V1.t (V1.load1 (v := .slice (some ⟨nb, no, none⟩) (fs1.length + 1) ncc) one_42 rfl (.own (cells := [.int .i64 (d.name : Nat), .slice oa 1 occ, .slice (some ⟨nb, no, none⟩) (fs1.length + 1) ncc, sb]) z_D (by rfl))) ?_)
    refine TL.cons rfl (V1.t (V1.sliceRow ty_42 sz_39 rfl p2.row 1 (fs1.length + 1) rfl rfl (by omega) (Nat.le_refl _)) ?_)
    rw [show sliceV (some ⟨nb, no, none⟩) ncc 5 1 (fs1.length + 1) = .slice ta ((f1 :: fs1).length - 1) tcc from htv]
    have p2u : FrsS w0 Ps (.slice ta ((f1 :: fs1).length - 1) tcc) fs1 css0 := by rw [← htv]; exact p2t
    refine TL.cons rfl (V1.t (V1.fieldAddr fl_101_2 rfl) ?_)
    refine TL.cons rfl (T1.store1 (cells := [.int .i64 (d.name : Nat), .slice oa 1 occ, .slice (some ⟨nb, no, none⟩) (fs1.length + 1) ncc, sb]) rfl rfl sz_42 rfl z_H (Nat.zero_le _) z_J ?_)
    refine TL.nil ?_
    refine T.seq ?_
    refine T.drawZ (fun L_ => Find L_ (⟨b8, 0, [.int .i64 (d.name : Nat), .slice oa 1 occ, .slice ta ((f1 :: fs1).length - 1) tcc, sb], 4⟩ : Blk) ∧ Find L_ (⟨b9, 0, ncs, 5⟩ : Blk)) 6 mixed ⟨z_D, z_D⟩ ?_
    refine TZ.pure 0 rfl z_F z_F z_F z_F rfl (fun _ _ _ h => h) (fun _ => V1.move' z_B) ?_
    refine TZ.pure 1 rfl z_F z_F z_F z_F rfl (fun _ _ _ h => h) (fun _ => V1.move' z_B) ?_
    refine TZ.read 2 rfl z_F z_F z_F z_F rfl (fun _ _ _ h => h) (fun L_ ⟨k1_, k2_⟩ => V1.loadN (vs := [.int .i64 (d.name : Nat), .slice oa 1 occ, .slice ta ((f1 :: fs1).length - 1) tcc, sb]) one_101 sz_101 rfl (RdN.whole z_D) rfl) ?_
    refine TZ.read 4 rfl z_F z_F z_F z_F rfl (fun _ _ _ h => h) (fun L_ ⟨k1_, k2_⟩ => V1.loadN (vs := ncs) one_39 sz_39 rfl (RdN.whole z_D) hg5) ?_
    refine TZ.oneS 3 z_F rfl rfl (T1.callC (Ps := Ps) has_49 rfl rfl (withG w0 hc hdl i hil (d1 := { d with once := fs1 }) (cs1 := [.int .i64 (d.name : Nat), .slice oa 1 occ, .slice ta ((f1 :: fs1).length - 1) tcc, sb]) ⟨_, _, _, _, _, rfl, by rw [show ({ d with once := fs1 } : Pr).offer = some o1 from ho]; exact p1, p2u, p3⟩) z_E (fun v_ Yw hv => ?_))
    rw [← setP_idx hok.names hdi (d' := { d with once := fs1 }) rfl] at hv
    refine ⟨⟨z_D, z_D⟩, ?_⟩
    refine TZ.pure 5 rfl z_F z_F z_F z_F rfl (fun _ _ _ h => h) (fun _ => V1.assign' z_B) ?_
    refine TZ.one 6 z_F rfl z_F rfl (T1.storeN (vs := ncs) rfl rfl sz_39 hg1s z_H (by rw [hg5]; rfl) hg5 ?_)
    refine TZ.pure 7 rfl z_F z_F z_F z_F rfl (fun _ _ _ h => h) (fun _ => V1.assign' z_B) ?_
    refine TZ.done z_F ?_
    refine T.ret ?_
    exact ⟨_, Yw ++ G, _, .cons (.tmp z_B) (.cons (.cellN rfl one_39 sz_39 (RdN.whole z_D) hg5) (.cons (.tmp z_B) .nil)), z_A, Yw, rfl, _, _, by rw [fetchP_once hfp ho hn]; rfl, by rw [fetchP_once hfp ho hn]; exact hv, by rw [fetchP_once hfp ho hn]; exact hg1.more (Inc.skip Inc.refl)⟩
  ·
    refine TL.cons rfl (V1.t (V1.assign' z_B) ?_)
    refine TL.nil ?_
    refine T.seq ?_
    refine T.seq ?_
    refine T.region ?_
    refine TL.cons rfl (V1.t (V1.move' z_B) ?_)
    refine TL.cons rfl (V1.t (V1.ltI (r := true) rfl rfl (decide_eq_true (by omega))) ?_)
    refine TL.cons rfl (V1.t (V1.move' z_B) ?_)
    refine TL.no rfl ?_
    refine TL.no rfl ?_
    refine TL.no rfl ?_
    refine TL.no rfl ?_
    refine TL.no rfl ?_
    refine TL.no rfl ?_
    refine TL.no rfl ?_
    refine TL.cons rfl (V1.t (V1.pick rfl z_B) ?_)
    refine TL.nil ?_
    refine T.cond_t rfl ?_
    refine T.seq ?_
    refine T.live (l := [(0, _), (5, _)]) (.cons z_B (.cons z_B .nil)) (fun e_ => ?_)
    refine T.region ?_
    refine TL.cons rfl (V1.t (V1.move' z_B) ?_)
    refine TL.cons rfl (V1.t (V1.build0 pl_39 zr_39) ?_)
    refine TL.cons rfl (V1.t (V1.assign' z_B) ?_)
    refine TL.cons rfl (T1.storeN (vs := zeroC) rfl rfl sz_39 (ones rfl) z_H (by rfl) (by rfl) ?_)
    refine TL.cons rfl (V1.t (V1.assign' z_B) ?_)
    refine TL.nil ?_
    refine T.ret ?_
    exact ⟨_, G, _, .cons (.tmp z_B) (.cons (.cellN rfl one_39 sz_39 (RdN.whole z_D) rfl) (.cons (.tmp z_B) .nil)), z_A, [], rfl, _, _, by rw [fetchP_none hfn]; rfl, by rw [fetchP_none hfn]; exact ⟨_, hc.more (Inc.skip Inc.refl)⟩, by rw [fetchP_none hfn]; exact zeroF_is⟩

end Go.Proofs.Ytijijaobialncaa.S
