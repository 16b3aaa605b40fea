/- The document's ways: bytes put into a box, or taken out; offers left, or fetched. -/
import Derived.Test.YtijijaobialncaaR1
namespace Go.Proofs.Ytijijaobialncaa.S
open Go.RowKit

theorem refEnc_G (w0 : World) {Ps : List Blk} {v : Value} {f : Frm} (h : FrmS w0 Ps v f) : FnV P 50 [v] w0 Ps (fun u => u = encS f.kind f.keys f.nums f.sigs f.data) := by
  intro G w hG hs
  rw [List.nil_append] at hs
  obtain ⟨⟨sk, sn, ss, sd, rfl, h1, h2, h3, h4⟩, hw, _⟩ := h
  exact (refEncode_any f.kind f.keys f.nums f.sigs f.data sk sn ss sd w (h1.slR hG hs) hw.keys (h2.slR hG hs) hw.nums (h3.slR hG hs) hw.sigs (h4.slR hG hs) (by simp) (by simp)).mono fun _ _ ⟨v, Y, e1, e2, e3⟩ => ⟨v, Y, e1, hs.call_add e2, e3⟩
theorem enc_errs {f : Frm} {e : Int} (h : f.enc = .error e) : e = 110 ∨ e = 2 := by
  unfold Frm.enc encF at h
  split at h
  · cases h; exact .inl rfl
  · split at h
    · cases h; exact .inl rfl
    · split at h
      · cases h; exact .inr rfl
      · cases h
theorem encS_cases (f : Frm) : (∃ e, f.enc = .error e ∧ (e = 110 ∨ e = 2) ∧ encS f.kind f.keys f.nums f.sigs f.data = .tuple #[.string (bstr []), .int .i64 e]) ∨ ∃ l, f.enc = .ok l ∧ encS f.kind f.keys f.nums f.sigs f.data = .tuple #[.string (bstr l), .int .i64 0] := by
  unfold encS
  cases h : encF f.kind f.keys f.nums f.sigs f.data with
  | error e => exact .inl ⟨e, h, enc_errs h, rfl⟩
  | ok l => exact .inr ⟨l, h, rfl⟩
set_option maxRecDepth 100000 in
theorem bundleG (w0 : World) {Ps : List Blk} {v : Value} {f : Frm} (hf : FrmS w0 Ps v f) : FnV P 48 [v] w0 Ps (fun u => u = .bool f.bundle) := by
  have hf2 := hf
  obtain ⟨⟨sk, sn, ss, sd, rfl, g1, g2, g3, g4⟩, _, _⟩ := hf2
  refine FnV.of 17 [.tmp 2] Go.Proofs.Try.func48 rfl rfl rfl rfl (fun G hG => ?_)
  have hone : ∀ u ∈ [.int .i64 f.kind, sk, sn, ss, sd], one u = true := hf.toR.cells2.2.1
  refine T.seq ?_
  refine T.region ?_
  refine TL.cons rfl (T1.boxN (vs := [.int .i64 f.kind, sk, sn, ss, sd]) 5 rfl rfl (fun b1 => ?_))
  refine TL.cons rfl (V1.t (V1.assign' z_B) ?_)
  refine TL.nil ?_
  refine T.seq ?_
  refine T.region ?_
  refine TL.cons rfl (V1.t (V1.loadN (vs := [.int .i64 f.kind, sk, sn, ss, sd]) one_39 sz_39 rfl (RdN.whole z_D) rfl) ?_)
  refine TL.cons rfl (T1.callV (Ps := Ps) has_50 rfl rfl (refEnc_G w0 hf) z_E (fun v_ hv => ?_))
  rcases encS_cases f with ⟨e1, henc, he1, hes⟩ | ⟨l, henc, hes⟩ <;> rw [hes] at hv <;> subst hv
  ·
    refine TL.cons rfl (V1.t (V1.move' z_B) ?_)
    refine TL.cons rfl (V1.t (V1.extract rfl (by rfl)) ?_)
    refine TL.cons rfl (V1.t (V1.extract rfl (by rfl)) ?_)
    refine TL.cons rfl (V1.t (V1.assign' z_B) ?_)
    refine TL.cons rfl (V1.t (V1.assign' z_B) ?_)
    refine TL.nil ?_
    refine T.seq ?_
    refine T.region ?_
    refine TL.cons rfl (V1.t (V1.move' z_B) ?_)
    refine TL.cons rfl (V1.t (V1.eqI (r := false) rfl rfl (by rcases he1 with rfl | rfl <;> rfl)) ?_)
    refine TL.cons rfl (V1.t (V1.move' z_B) ?_)
    refine TL.no rfl ?_
    refine TL.no rfl ?_
    refine TL.no rfl ?_
    refine TL.cons rfl (V1.t (V1.pick rfl z_B) ?_)
    refine TL.cons rfl (V1.t (V1.assign' z_B) ?_)
    refine TL.nil ?_
    refine T.ret ?_
    exact ⟨_, G, _, .cons (.tmp z_B) .nil, z_A, rfl, by rw [bundle_err henc]; rfl⟩
  ·
    refine TL.cons rfl (V1.t (V1.move' z_B) ?_)
    refine TL.cons rfl (V1.t (V1.extract rfl (by rfl)) ?_)
    refine TL.cons rfl (V1.t (V1.extract rfl (by rfl)) ?_)
    refine TL.cons rfl (V1.t (V1.assign' z_B) ?_)
    refine TL.cons rfl (V1.t (V1.assign' z_B) ?_)
    refine TL.nil ?_
    refine T.seq ?_
    refine T.region ?_
    refine TL.cons rfl (V1.t (V1.move' z_B) ?_)
    refine TL.cons rfl (V1.t (V1.eqI (r := true) rfl rfl rfl) ?_)
    refine TL.cons rfl (V1.t (V1.move' z_B) ?_)
    refine TL.cons rfl (V1.t (V1.fieldAddr fl_39_0 rfl) ?_)
    refine TL.cons rfl (V1.t (V1.load1 (v := .int .i64 f.kind) one_3 rfl (.own (cells := [.int .i64 f.kind, sk, sn, ss, sd]) z_D (by rfl))) ?_)
    refine TL.cons rfl (V1.t (V1.eqI rfl rfl rfl) ?_)
    refine TL.cons rfl (V1.t (V1.pick rfl z_B) ?_)
    refine TL.cons rfl (V1.t (V1.assign' z_B) ?_)
    refine TL.nil ?_
    refine T.ret ?_
    exact ⟨_, G, _, .cons (.tmp z_B) .nil, z_A, rfl, by rw [bundle_of henc]; rfl⟩

theorem DocR.up {w0 : World} {Y Z Ps : List Blk} {v : Value} {ds : List Pr} (h : DocR w0 (Y ++ (Z ++ Ps)) v ds) : DocR w0 ((Y ++ Z) ++ Ps) v ds := by rwa [List.append_assoc]
set_option maxRecDepth 100000 in
theorem PutG (w0 : World) {Ps : List Blk} {la : Option Addr} {lc : Nat} {ds : List Pr} {css : List (List Value)} (hc : DocC w0 Ps (.slice la ds.length lc) ds css) (hdl : ds.length ≤ 100) (hok : SrvOk ds) (n : Nat) (l : List UInt8) (hll : l.length ≤ 1000000000000) : FnG P 39 [.slice la ds.length lc, .int .i64 (n : Nat), strV l] w0 Ps [] (fun v Y => ∃ l1 c, v = .tuple #[l1, .int .i64 c] ∧ DocR w0 (Y ++ Ps) l1 (putP ds n l).1 ∧ c = (putP ds n l).2) := by
  refine FnG.of 53 [.tmp 6, .tmp 7] Go.Proofs.Try.func39 rfl rfl rfl rfl (fun G hG => ?_)
  refine T.seq ?_
  refine T.region ?_
  refine TL.cons rfl (V1.t (V1.assign' z_B) ?_)
  refine TL.cons rfl (V1.t (V1.assign' z_B) ?_)
  refine TL.nil ?_
  refine T.seq ?_
  refine T.region ?_
  refine TL.cons rfl (V1.t (V1.move' z_B) ?_)
  refine TL.cons rfl (V1.t (V1.move' z_B) ?_)
  refine TL.cons rfl (T1.callV (Ps := Ps) has_47 rfl rfl (FindG w0 hc hdl n) z_E (fun v_ hv => ?_))
  rcases hv with ⟨rfl, hfn⟩ | ⟨i, d, rfl, hdi, hfp⟩
  ·
    refine TL.cons rfl (V1.t (V1.assign' z_B) ?_)
    refine TL.nil ?_
    refine T.seq ?_
    refine T.seq ?_
    refine T.region ?_
    refine TL.cons rfl (V1.t (V1.move' z_B) ?_)
    refine TL.cons rfl (V1.t (V1.ltI (r := true) rfl rfl (decide_eq_true (by omega))) ?_)
    refine TL.nil ?_
    refine T.cond_t rfl ?_
    refine T.seq ?_
    refine T.region ?_
    refine TL.cons rfl (V1.t (V1.move' z_B) ?_)
    refine TL.cons rfl (V1.t (V1.assign' z_B) ?_)
    refine TL.cons rfl (V1.t (V1.assign' z_B) ?_)
    refine TL.nil ?_
    refine T.ret ?_
    exact ⟨_, G, _, .cons (.tmp z_B) (.cons (.tmp z_B) .nil), z_A, [], rfl, _, _, rfl, by rw [putP_none hfn]; exact ⟨_, hc.more (Inc.skip Inc.refl)⟩, by rw [putP_none hfn]⟩
  ·
    have hil := (List.getElem?_eq_some_iff.1 hdi).1
    obtain ⟨lb, lo, so, sn, sb, oc, nc, rfl, hcs, p1, p2, p3, hrd⟩ := hc.at hdi
    have hones : ∀ u ∈ [.int .i64 (d.name : Nat), so, sn, sb], one u = true := (show PerR w0 Ps d _ from ⟨_, _, _, _, _, rfl, p1, p2, p3⟩).ones.2
    obtain ⟨oa, occ, rfl⟩ := p1.row.row.form
    obtain ⟨na, ncc, rfl⟩ := p2.row.row.form
    obtain ⟨ga, gcc, rfl⟩ := p3.row.form
    have hdo : d.Ok := hok.each d (List.mem_of_getElem? hdi)
    have hdb := hdo.bytes
    have hdx := hdo.box
    have hdw := hdo.few
    have hbz := bstr_size l
    refine TL.cons rfl (V1.t (V1.assign' z_B) ?_)
    refine TL.nil ?_
    refine T.seq ?_
    refine T.seq ?_
    refine T.region ?_
    refine TL.cons rfl (V1.t (V1.move' z_B) ?_)
    refine TL.cons rfl (V1.t (V1.ltI (r := false) rfl rfl (decide_eq_false (by omega))) ?_)
    refine TL.nil ?_
    refine T.cond_f rfl ?_
    refine T.skip ?_
    refine T.seq ?_
    refine T.seq ?_
    rcases Nat.lt_or_ge d.box.length 200 with hx1 | hx1
    rcases Nat.lt_or_ge 65536 (d.bytes + l.length) with hx2 | hx2
    ·
      have hroom : d.room l.length = false := decide_eq_false (by omega)
      refine T.region ?_
      refine TL.cons rfl (V1.t (V1.move' z_B) ?_)
      refine TL.cons rfl (V1.t (V1.move' z_B) ?_)
      refine TL.cons rfl (V1.t (V1.indexAddrS ty_49 sz_101 rfl rfl (by omega) (by omega)) ?_)
      refine TL.cons rfl (V1.t (V1.fieldAddr fl_101_3 rfl) ?_)
      refine TL.cons rfl (V1.t (V1.load1 one_99 rfl (hrd _ rfl rfl _ z_E 3 _ rfl)) ?_)
      refine TL.cons rfl (V1.t (V1.lenSl ty_99 rfl) ?_)
      refine TL.cons rfl (V1.t (V1.geI (r := false) rfl rfl (decide_eq_false (by omega))) ?_)
      refine TL.cons rfl (V1.t (V1.move' z_B) ?_)
      refine TL.cons rfl (V1.t (V1.move' z_B) ?_)
      refine TL.cons rfl (V1.t (V1.move' z_B) ?_)
      refine TL.cons rfl (V1.t (V1.indexAddrS ty_49 sz_101 rfl rfl (by omega) (by omega)) ?_)
      refine TL.cons rfl (V1.t (V1.loadN (vs := [.int .i64 (d.name : Nat), .slice oa d.offer.toList.length occ, .slice na d.once.length ncc, .slice ga d.box.length gcc]) one_101 sz_101 rfl (hrd _ rfl rfl _ z_E) rfl) ?_)
      refine TL.cons rfl (T1.callV (Ps := Ps) has_51 rfl rfl (bytesG w0 rfl rfl p3 (by omega) (by omega)) z_E (fun v_ hv => ?_))
      subst hv
      refine TL.cons rfl (V1.t (V1.move' z_B) ?_)
      refine TL.cons rfl (V1.t (V1.lenS ty_9 rfl) ?_)
      refine TL.cons rfl (V1.t (V1.add (c := ((d.bytes + l.length : Nat) : Int)) rfl rfl (by rw [wrap_i64 _ (by omega) (by omega)]; omega)) ?_)
      refine TL.cons rfl (V1.t (V1.gtI (r := true) rfl rfl (decide_eq_true (by omega))) ?_)
      refine TL.cons rfl (V1.t (V1.pick rfl z_B) ?_)
      refine TL.nil ?_
      refine T.cond_t rfl ?_
      refine T.seq ?_
      refine T.live (l := [(0, _)]) (.cons z_B .nil) (fun e_ => ?_)
      refine T.region ?_
      refine TL.cons rfl (V1.t (V1.move' z_B) ?_)
      refine TL.cons rfl (V1.t (V1.assign' z_B) ?_)
      refine TL.cons rfl (V1.t (V1.assign' z_B) ?_)
      refine TL.nil ?_
      refine T.ret ?_
      exact ⟨_, G, _, .cons (.tmp z_B) (.cons (.tmp z_B) .nil), z_A, [], rfl, _, _, rfl, by rw [putP_full hfp (of_decide_eq_false hroom)]; exact ⟨_, hc.more (Inc.skip Inc.refl)⟩, by rw [putP_full hfp (of_decide_eq_false hroom)]⟩
    ·
      have hroom : d.room l.length = true := decide_eq_true (by omega)
      refine T.region ?_
      refine TL.cons rfl (V1.t (V1.move' z_B) ?_)
      refine TL.cons rfl (V1.t (V1.move' z_B) ?_)
      refine TL.cons rfl (V1.t (V1.indexAddrS ty_49 sz_101 rfl rfl (by omega) (by omega)) ?_)
      refine TL.cons rfl (V1.t (V1.fieldAddr fl_101_3 rfl) ?_)
      refine TL.cons rfl (V1.t (V1.load1 one_99 rfl (hrd _ rfl rfl _ z_E 3 _ rfl)) ?_)
      refine TL.cons rfl (V1.t (V1.lenSl ty_99 rfl) ?_)
      refine TL.cons rfl (V1.t (V1.geI (r := false) rfl rfl (decide_eq_false (by omega))) ?_)
      refine TL.cons rfl (V1.t (V1.move' z_B) ?_)
      refine TL.cons rfl (V1.t (V1.move' z_B) ?_)
      refine TL.cons rfl (V1.t (V1.move' z_B) ?_)
      refine TL.cons rfl (V1.t (V1.indexAddrS ty_49 sz_101 rfl rfl (by omega) (by omega)) ?_)
      refine TL.cons rfl (V1.t (V1.loadN (vs := [.int .i64 (d.name : Nat), .slice oa d.offer.toList.length occ, .slice na d.once.length ncc, .slice ga d.box.length gcc]) one_101 sz_101 rfl (hrd _ rfl rfl _ z_E) rfl) ?_)
      refine TL.cons rfl (T1.callV (Ps := Ps) has_51 rfl rfl (bytesG w0 rfl rfl p3 (by omega) (by omega)) z_E (fun v_ hv => ?_))
      subst hv
      refine TL.cons rfl (V1.t (V1.move' z_B) ?_)
      refine TL.cons rfl (V1.t (V1.lenS ty_9 rfl) ?_)
      refine TL.cons rfl (V1.t (V1.add (c := ((d.bytes + l.length : Nat) : Int)) rfl rfl (by rw [wrap_i64 _ (by omega) (by omega)]; omega)) ?_)
      refine TL.cons rfl (V1.t (V1.gtI (r := false) rfl rfl (decide_eq_false (by omega))) ?_)
      refine TL.cons rfl (V1.t (V1.pick rfl z_B) ?_)
      refine TL.nil ?_
      refine T.cond_f rfl ?_
      refine T.skip ?_
      refine T.seq ?_
      refine T.live (l := [(0, _), (2, _), (8, _)]) (.cons z_B (.cons z_B (.cons z_B .nil))) (fun e_ => ?_)
      refine T.region ?_
      refine TL.cons rfl (V1.t (V1.move' z_B) ?_)
      refine TL.cons rfl (V1.t (V1.move' z_B) ?_)
      refine TL.cons rfl (V1.t (V1.indexAddrS ty_49 sz_101 rfl rfl (by omega) (by omega)) ?_)
      refine TL.cons rfl (V1.t (V1.loadN (vs := [.int .i64 (d.name : Nat), .slice oa d.offer.toList.length occ, .slice na d.once.length ncc, .slice ga d.box.length gcc]) one_101 sz_101 rfl (hrd _ rfl rfl _ z_E) rfl) ?_)
      refine TL.cons rfl (T1.allocN 4 zr_101 rfl (fun b9 => ?_))
      refine TL.cons rfl (T1.storeN (vs := [.int .i64 (d.name : Nat), .slice oa d.offer.toList.length occ, .slice na d.once.length ncc, .slice ga d.box.length gcc]) rfl rfl sz_101 hones z_H (by rfl) (by rfl) ?_)
      refine TL.nil ?_
      refine T.seq ?_
      refine T.region ?_
      refine TL.cons rfl (T1.buildNone0 ty_99 sz_9 zr_9 (fun b40 => ?_))
      refine TL.cons rfl (V1.t (V1.fieldAddr fl_101_3 rfl) ?_)
      refine TL.cons rfl (V1.t (V1.load1 one_99 rfl (.own (cells := [.int .i64 (d.name : Nat), .slice oa d.offer.toList.length occ, .slice na d.once.length ncc, .slice ga d.box.length gcc]) z_D (by rfl))) ?_)
      refine TL.cons rfl (T1.append ty_99 kd_99 sz_9 by_9 zr_9 rfl (by decide) (by decide) rfl rfl (Sl.none0 (b := b40)) (p3.row.src _ rfl rfl _ z_E) (by intro u hu; obtain ⟨c_, _, rfl⟩ := List.mem_map.1 hu; rfl) 1000 (by rw [List.length_map, List.length_nil]; omega) (by decide) z_C (fun s1 L1 hs1 => ?_))
      rw [List.nil_append] at hs1
      refine TL.cons rfl (V1.t (V1.assign' z_B) ?_)
      refine TL.nil ?_
      refine T.seq ?_
      refine T.region ?_
      refine TL.cons rfl (V1.t (V1.move' z_B) ?_)
      refine TL.cons rfl (V1.t (V1.move' z_B) ?_)
      refine TL.cons rfl (T1.buildSl1 (os := [.tmp 45]) (vs := [strV l]) ty_99 sz_9 zr_9 (by decide) rfl (.cons z_B .nil) rfl (ones rfl) (fun b46 => ?_))
      refine TL.cons rfl (T1.append ty_99 kd_99 sz_9 by_9 zr_9 rfl (by decide) (by decide) rfl rfl hs1 (.sl (n := 1) (RdN.whole z_D) rfl) (by intro u hu; simp only [List.mem_singleton] at hu; subst hu; rfl) 1000 (by rw [List.length_map, List.length_singleton]; omega) (by decide) z_C (fun s2 L2 hs2 => ?_))
      refine TL.cons rfl (V1.t (V1.fieldAddr fl_101_3 rfl) ?_)
      refine TL.cons rfl (T1.store1 (cells := [.int .i64 (d.name : Nat), .slice oa d.offer.toList.length occ, .slice na d.once.length ncc, .slice ga d.box.length gcc]) rfl rfl sz_99 hs2.one z_H (Nat.zero_le _) z_J ?_)
      refine TL.nil ?_
      refine T.seq ?_
      refine T.live (l := [(0, _), (8, _), (9, _)]) (.cons z_B (.cons z_B (.cons z_B .nil))) (fun e_ => ?_)
      refine T.region ?_
      refine TL.cons rfl (V1.t (V1.move' z_B) ?_)
      refine TL.cons rfl (V1.t (V1.move' z_B) ?_)
      refine TL.cons rfl (V1.t (V1.loadN (vs := [.int .i64 (d.name : Nat), .slice oa d.offer.toList.length occ, .slice na d.once.length ncc, s2]) one_101 sz_101 rfl (RdN.whole z_D) rfl) ?_)
      have hpe : PerR w0 (L2 ++ Ps) (d.put l) [.int .i64 (d.name : Nat), .slice oa d.offer.toList.length occ, .slice na d.once.length ncc, s2] := ⟨_, _, _, _, _, rfl, p1.more (Inc.skip Inc.refl), p2.more (Inc.skip Inc.refl), RowS.ofSl (by rw [show (d.put l).box.map strV = d.box.map strV ++ [strV l] from by simp [Pr.put]]; exact hs2) Inc.here (by decide) _ (by rw [List.length_map, Nat.mul_one])⟩
      refine TL.cons rfl (T1.callC (Ps := L2 ++ Ps) has_49 rfl rfl (withG w0 (hc.more (Inc.skip Inc.refl)) hdl i hil (d1 := d.put l) (cs1 := [.int .i64 (d.name : Nat), .slice oa d.offer.toList.length occ, .slice na d.once.length ncc, s2]) hpe) z_E (fun v_ Yw hv => ?_))
      rw [← setP_idx hok.names hdi (d' := d.put l) rfl] at hv
      refine TL.cons rfl (V1.t (V1.assign' z_B) ?_)
      refine TL.cons rfl (V1.t (V1.assign' z_B) ?_)
      refine TL.nil ?_
      refine T.ret ?_
      exact ⟨_, (Yw ++ L2) ++ G, _, .cons (.tmp z_B) (.cons (.tmp z_B) .nil), by simp only [List.append_assoc]; exact z_A, Yw ++ L2, rfl, _, _, rfl, by rw [putP_ok hfp hroom]; exact hv.up, by rw [putP_ok hfp hroom]⟩
    ·
      have hroom : d.room l.length = false := decide_eq_false (by omega)
      refine T.region ?_
      refine TL.cons rfl (V1.t (V1.move' z_B) ?_)
      refine TL.cons rfl (V1.t (V1.move' z_B) ?_)
      refine TL.cons rfl (V1.t (V1.indexAddrS ty_49 sz_101 rfl rfl (by omega) (by omega)) ?_)
      refine TL.cons rfl (V1.t (V1.fieldAddr fl_101_3 rfl) ?_)
      refine TL.cons rfl (V1.t (V1.load1 one_99 rfl (hrd _ rfl rfl _ z_E 3 _ rfl)) ?_)
      refine TL.cons rfl (V1.t (V1.lenSl ty_99 rfl) ?_)
      refine TL.cons rfl (V1.t (V1.geI (r := true) rfl rfl (decide_eq_true (by omega))) ?_)
      refine TL.cons rfl (V1.t (V1.move' z_B) ?_)
      refine TL.no rfl ?_
      refine TL.no rfl ?_
      refine TL.no rfl ?_
      refine TL.no rfl ?_
      refine TL.no rfl ?_
      refine TL.no rfl ?_
      refine TL.no rfl ?_
      refine TL.no rfl ?_
      refine TL.no rfl ?_
      refine TL.cons rfl (V1.t (V1.pick rfl z_B) ?_)
      refine TL.nil ?_
      refine T.cond_t rfl ?_
      refine T.seq ?_
      refine T.live (l := [(0, _)]) (.cons z_B .nil) (fun e_ => ?_)
      refine T.region ?_
      refine TL.cons rfl (V1.t (V1.move' z_B) ?_)
      refine TL.cons rfl (V1.t (V1.assign' z_B) ?_)
      refine TL.cons rfl (V1.t (V1.assign' z_B) ?_)
      refine TL.nil ?_
      refine T.ret ?_
      exact ⟨_, G, _, .cons (.tmp z_B) (.cons (.tmp z_B) .nil), z_A, [], rfl, _, _, rfl, by rw [putP_full hfp (of_decide_eq_false hroom)]; exact ⟨_, hc.more (Inc.skip Inc.refl)⟩, by rw [putP_full hfp (of_decide_eq_false hroom)]⟩

end Go.Proofs.Ytijijaobialncaa.S
