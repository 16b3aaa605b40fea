/- The document's ways: offers left; frames sent. -/
import Derived.Test.YtijijaobialncaaR3
namespace Go.Proofs.Ytijijaobialncaa.S
open Go.RowKit

theorem all_take {o f : Frm} {fs : List Frm} {i : Nat} (h : fs[i]? = some f) : (o :: fs.take (i + 1)).all Frm.bundle = ((o :: fs.take i).all Frm.bundle && f.bundle) := by
  rw [List.take_add_one, h]
  simp only [List.all_cons, List.all_append, Option.toList, List.all_nil, Bool.and_true, Bool.and_assoc]
theorem pubP_no {ps : List Pr} {n : Nat} {o : Frm} {fs : List Frm} {d : Pr} (h : findP ps n = some d) (hb : (o :: fs).all Frm.bundle = false) : pubP ps n o fs = (ps, 110) := by
  unfold pubP; rw [h]; dsimp only; rw [if_neg (by rw [hb]; decide)]
theorem FrsS.append {w0 : World} {Ps Qs Ls : List Blk} {v u s : Value} {fs gs : List Frm} {css dss : List (List Value)} (h : FrsS w0 Ps v fs css) (h2 : FrsS w0 Ps u gs dss) (hq : Inc Ps Qs) (hs : Sl s (css.flatten ++ dss.flatten) 5 Ls) (hl : Inc Ls Qs) : FrsS w0 Qs s (fs ++ gs) (css ++ dss) := by
  refine ⟨RowS.ofSl (by rw [List.flatten_append]; exact hs) hl (by decide) _ ?_, by rw [List.length_append, List.length_append, h.len, h2.len], fun i f cs hf hc => ?_⟩
  · rw [List.flatten_append, List.length_append, List.length_append, h.row.row.len, h2.row.row.len, Nat.add_mul]
  · rcases Nat.lt_or_ge i fs.length with hi | hi
    · rw [List.getElem?_append_left hi] at hf
      rw [List.getElem?_append_left (by rw [h.len]; exact hi)] at hc
      exact (h.each i f cs hf hc).more hq
    · rw [List.getElem?_append_right hi] at hf
      rw [List.getElem?_append_right (by rw [h.len]; exact hi), h.len] at hc
      exact (h2.each _ f cs hf hc).more hq
theorem FrsS.one {w0 : World} {Qs : List Blk} {b : Nat} {cs : List Value} {f : Frm} (hB : (⟨b, 0, [cs].flatten, 1 * 5⟩ : Blk) ∈ Qs) (h : FrmS w0 Qs (.agg cs.toArray) f) : FrsS w0 Qs (.slice (some ⟨b, 0, none⟩) 1 1) [f] [cs] := by
  have h5 := h.toR.cells2.1
  refine ⟨⟨RowR.own (tg := none) (size := 1 * 5) hB (by simp [h5]), .inr ⟨b, 0, 1, rfl, Nat.le_refl _⟩⟩, rfl, fun i g c hg hc => ?_⟩
  cases i with
  | zero => simp at hg hc; subst hg; subst hc; exact h
  | succ i => simp at hg
set_option maxRecDepth 100000 in
set_option maxHeartbeats 8000000 in
theorem PublishG (w0 : World) {Ps : List Blk} {la : Option Addr} {lc : Nat} {ds : List Pr} {css : List (List Value)} (hc : DocC w0 Ps (.slice la ds.length lc) ds css) (hdl : ds.length ≤ 100) (hok : SrvOk ds) (n : Nat) {co : List Value} {o : Frm} (hfO : FrmS w0 Ps (.agg co.toArray) o) {fa : Option Addr} {fc : Nat} {fs : List Frm} {fcss : List (List Value)} (hfs : FrsS w0 Ps (.slice fa fs.length fc) fs fcss) (hfl : fs.length ≤ 1100000) : FnG P 35 [.slice la ds.length lc, .int .i64 (n : Nat), .agg co.toArray, .slice fa fs.length fc] w0 Ps [] (fun v Y => ∃ l1 c, v = .tuple #[l1, .int .i64 c] ∧ DocR w0 (Y ++ Ps) l1 (pubP ds n o fs).1 ∧ c = (pubP ds n o fs).2) := by
  have hco5 := hfO.toR.cells2.1
  refine FnG.of 70 [.tmp 8, .tmp 9] Go.Proofs.Try.func35 rfl rfl rfl rfl (fun G hG => ?_)
  refine T.seq ?_
  refine T.region ?_
  refine TL.cons rfl (T1.boxN (vs := co) 5 rfl hco5 (fun b6 => ?_))
  refine TL.cons rfl (V1.t (V1.assign' z_B) ?_)
  refine TL.cons rfl (V1.t (V1.assign' z_B) ?_)
  refine TL.nil ?_
  refine T.seq ?_
  refine T.region ?_
  refine TL.cons rfl (V1.t (V1.move' z_B) ?_)
  refine TL.cons rfl (V1.t (V1.move' z_B) ?_)
  refine TL.cons rfl (T1.callV (Ps := Ps) has_47 rfl rfl (FindG w0 hc hdl n) z_E (fun v_ hv => ?_))
  rcases hv with ⟨rfl, hfn⟩ | ⟨i, d, rfl, hdi, hfp⟩
  ·
    refine TL.cons rfl (V1.t (V1.assign' z_B) ?_)
    refine TL.nil ?_
    refine T.seq ?_
    refine T.seq ?_
    refine T.region ?_
    refine TL.cons rfl (V1.t (V1.move' z_B) ?_)
    refine TL.cons rfl (V1.t (V1.ltI (r := true) rfl rfl (decide_eq_true (by omega))) ?_)
    refine TL.nil ?_
    refine T.cond_t rfl ?_
    refine T.seq ?_
    refine T.region ?_
    refine TL.cons rfl (V1.t (V1.move' z_B) ?_)
    refine TL.cons rfl (V1.t (V1.assign' z_B) ?_)
    refine TL.cons rfl (V1.t (V1.assign' z_B) ?_)
    refine TL.nil ?_
    refine T.ret ?_
    exact ⟨_, G, _, .cons (.tmp z_B) (.cons (.tmp z_B) .nil), z_A, [], rfl, _, _, rfl, by rw [pubP_none hfn]; exact ⟨_, hc.more (Inc.skip Inc.refl)⟩, by rw [pubP_none hfn]⟩
  ·
    have hil := (List.getElem?_eq_some_iff.1 hdi).1
    obtain ⟨lb, lo, so, sn, sb, oc, nc, rfl, hcs, p1, p2, p3, hrd⟩ := hc.at hdi
    have hones : ∀ u ∈ [.int .i64 (d.name : Nat), so, sn, sb], one u = true := (show PerR w0 Ps d _ from ⟨_, _, _, _, _, rfl, p1, p2, p3⟩).ones.2
    obtain ⟨oa, occ, rfl⟩ := p1.row.row.form
    obtain ⟨na, ncc, rfl⟩ := p2.row.row.form
    obtain ⟨ga, gcc, rfl⟩ := p3.row.form
    have hdo : d.Ok := hok.each d (List.mem_of_getElem? hdi)
    have hdb := hdo.bytes
    have hdx := hdo.box
    have hdw := hdo.few
    refine TL.cons rfl (V1.t (V1.assign' z_B) ?_)
    refine TL.nil ?_
    refine T.seq ?_
    refine T.seq ?_
    refine T.region ?_
    refine TL.cons rfl (V1.t (V1.move' z_B) ?_)
    refine TL.cons rfl (V1.t (V1.ltI (r := false) rfl rfl (decide_eq_false (by omega))) ?_)
    refine TL.nil ?_
    refine T.cond_f rfl ?_
    refine T.skip ?_
    refine T.seq ?_
    refine T.region ?_
    refine TL.cons rfl (V1.t (V1.loadN (vs := co) one_39 sz_39 rfl (RdN.whole z_D) hco5) ?_)
    refine TL.cons rfl (T1.callV (Ps := Ps) has_48 rfl rfl (bundleG w0 hfO) z_E (fun v_ hv => ?_))
    subst hv
    refine TL.cons rfl (V1.t (V1.assign' z_B) ?_)
    refine TL.nil ?_
    refine T.seq ?_
    refine T.seq ?_
    refine T.region ?_
    refine TL.cons rfl (V1.t (V1.assign' z_B) ?_)
    refine TL.nil ?_
    refine T.block ?_
    refine T.loopL (σ := Nat) (l0 := [(0, _), (3, _), (6, _), (10, _)]) (fun x => [(11, .bool ((o :: fs.take x).all Frm.bundle)), (12, .int .i64 ((x : Nat) : Int))]) (fun i L => L = (⟨b6, 0, co, 5⟩ : Blk) :: G ∧ i ≤ fs.length) (fun i => fs.length - i) 0 (.cons (by show Value.bool o.bundle = Value.bool ((o :: fs.take 0).all Frm.bundle); simp) (.cons rfl .nil)) (.cons z_B (.cons z_B (.cons z_B (.cons z_B .nil)))) z_A (⟨rfl, Nat.zero_le _⟩) ?_
    rintro j e_ L ⟨rfl, hi⟩
    refine T.seq ?_
    refine T.seq ?_
    refine T.region ?_
    refine TL.cons rfl (V1.t (V1.move' z_B) ?_)
    refine TL.cons rfl (V1.t (V1.move' z_B) ?_)
    refine TL.cons rfl (V1.t (V1.lenSl ty_42 rfl) ?_)
    refine TL.cons rfl (T1.ltI_split rfl rfl (fun h6 => ?_) (fun h6 => ?_))
    ·
      obtain ⟨f, hfi⟩ : ∃ f, fs[j]? = some f := ⟨_, List.getElem?_eq_getElem (by omega)⟩
      obtain ⟨fb, fo, cs1, rfl, hcs1, hf1, hf5, hf1s, hro⟩ := hfs.at hfi
      refine TL.nil ?_
      refine T.cond_t rfl ?_
      refine T.skip ?_
      refine T.seq ?_
      refine T.block ?_
      rcases hall : (o :: fs.take j).all Frm.bundle with _ | _
      ·
        refine T.region ?_
        refine TL.cons rfl (V1.t (V1.move' z_B) ?_)
        refine TL.cons rfl (V1.t (V1.move' z_B) ?_)
        refine TL.no rfl ?_
        refine TL.no rfl ?_
        refine TL.no rfl ?_
        refine TL.no rfl ?_
        refine TL.no rfl ?_
        refine TL.cons rfl (V1.t (V1.pick rfl z_B) ?_)
        refine TL.cons rfl (V1.t (V1.assign' z_B) ?_)
        refine TL.nil ?_
        refine T.region ?_
        refine TL.cons rfl (V1.t (V1.move' z_B) ?_)
        refine TL.cons rfl (V1.t (V1.add (c := ((j + 1 : Nat) : Int)) rfl rfl (by rw [wrap_i64 _ (by omega) (by omega)]; omega)) ?_)
        refine TL.cons rfl (V1.t (V1.assign' z_B) ?_)
        refine TL.nil ?_
        exact ⟨j + 1, _, _, (by simp only; omega), (.cons (by rw [all_take hfi, hall]; rfl) (.cons rfl .nil)), (.cons rfl (.cons rfl (.cons rfl (.cons rfl .nil)))), z_A, ⟨rfl, by omega⟩⟩
      ·
        refine T.region ?_
        refine TL.cons rfl (V1.t (V1.move' z_B) ?_)
        refine TL.cons rfl (V1.t (V1.move' z_B) ?_)
        refine TL.cons rfl (V1.t (V1.move' z_B) ?_)
        refine TL.cons rfl (V1.t (V1.move' z_B) ?_)
        refine TL.cons rfl (V1.t (V1.indexAddrS ty_42 sz_39 rfl rfl (by omega) (by omega)) ?_)
        refine TL.cons rfl (V1.t (V1.loadN (vs := cs1) one_39 sz_39 rfl (hro _ rfl rfl _ z_E) hf5) ?_)
        refine TL.cons rfl (T1.callV (Ps := Ps) has_48 rfl rfl (bundleG w0 hf1) z_E (fun v_ hv => ?_))
        subst hv
        refine TL.cons rfl (V1.t (V1.pick rfl z_B) ?_)
        refine TL.cons rfl (V1.t (V1.assign' z_B) ?_)
        refine TL.nil ?_
        refine T.region ?_
        refine TL.cons rfl (V1.t (V1.move' z_B) ?_)
        refine TL.cons rfl (V1.t (V1.add (c := ((j + 1 : Nat) : Int)) rfl rfl (by rw [wrap_i64 _ (by omega) (by omega)]; omega)) ?_)
        refine TL.cons rfl (V1.t (V1.assign' z_B) ?_)
        refine TL.nil ?_
        exact ⟨j + 1, _, _, (by simp only; omega), (.cons (by rw [all_take hfi, hall]; rfl) (.cons rfl .nil)), (.cons rfl (.cons rfl (.cons rfl (.cons rfl .nil)))), z_A, ⟨rfl, by omega⟩⟩
    ·
      obtain rfl : j = fs.length := by omega
      rw [List.take_length]
      refine TL.nil ?_
      refine T.cond_f rfl ?_
      refine T.exit ?_
      refine T.seq ?_
      refine T.seq ?_
      rcases hall : (o :: fs).all Frm.bundle with _ | _
      ·
        refine T.region ?_
        refine TL.cons rfl (V1.t (V1.move' z_B) ?_)
        refine TL.cons rfl (V1.t (V1.not rfl rfl) ?_)
        refine TL.nil ?_
        refine T.cond_t rfl ?_
        refine T.seq ?_
        refine T.region ?_
        refine TL.cons rfl (V1.t (V1.move' z_B) ?_)
        refine TL.cons rfl (V1.t (V1.assign' z_B) ?_)
        refine TL.cons rfl (V1.t (V1.assign' z_B) ?_)
        refine TL.nil ?_
        refine T.ret ?_
        exact ⟨_, G, _, .cons (.tmp z_B) (.cons (.tmp z_B) .nil), z_A, [], rfl, _, _, rfl, by rw [pubP_no hfp hall]; exact ⟨_, hc.more (Inc.skip Inc.refl)⟩, by rw [pubP_no hfp hall]⟩
      ·
        have hbn := List.all_eq_true.1 hall
        refine T.region ?_
        refine TL.cons rfl (V1.t (V1.move' z_B) ?_)
        refine TL.cons rfl (V1.t (V1.not rfl rfl) ?_)
        refine TL.nil ?_
        refine T.cond_f rfl ?_
        refine T.skip ?_
        refine T.seq ?_
        refine T.seq ?_
        refine T.region ?_
        refine TL.cons rfl (V1.t (V1.move' z_B) ?_)
        refine TL.cons rfl (V1.t (V1.move' z_B) ?_)
        refine TL.cons rfl (V1.t (V1.indexAddrS ty_49 sz_101 rfl rfl (by omega) (by omega)) ?_)
        refine TL.cons rfl (V1.t (V1.fieldAddr fl_101_2 rfl) ?_)
        refine TL.cons rfl (V1.t (V1.load1 one_42 rfl (hrd _ rfl rfl _ z_E 2 _ rfl)) ?_)
        refine TL.cons rfl (V1.t (V1.lenSl ty_42 rfl) ?_)
        refine TL.cons rfl (V1.t (V1.move' z_B) ?_)
        refine TL.cons rfl (V1.t (V1.lenSl ty_42 rfl) ?_)
        refine TL.cons rfl (V1.t (V1.add (c := ((d.once.length + fs.length : Nat) : Int)) rfl rfl (by rw [wrap_i64 _ (by omega) (by omega)]; omega)) ?_)
        refine TL.cons rfl (T1.gtI_split rfl rfl (fun h11 => ?_) (fun h11 => ?_))
        ·
          refine TL.nil ?_
          refine T.cond_t rfl ?_
          refine T.seq ?_
          refine T.live (l := [(0, _)]) (.cons z_B .nil) (fun e_ => ?_)
          refine T.region ?_
          refine TL.cons rfl (V1.t (V1.move' z_B) ?_)
          refine TL.cons rfl (V1.t (V1.assign' z_B) ?_)
          refine TL.cons rfl (V1.t (V1.assign' z_B) ?_)
          refine TL.nil ?_
          refine T.ret ?_
          exact ⟨_, G, _, .cons (.tmp z_B) (.cons (.tmp z_B) .nil), z_A, [], rfl, _, _, rfl, by rw [pubP_full hfp hbn (by omega)]; exact ⟨_, hc.more (Inc.skip Inc.refl)⟩, by rw [pubP_full hfp hbn (by omega)]⟩
        ·
          refine TL.nil ?_
          refine T.cond_f rfl ?_
          refine T.skip ?_
          refine T.seq ?_
          refine T.live (l := [(0, _), (3, _), (6, _), (10, _)]) (.cons z_B (.cons z_B (.cons z_B (.cons z_B .nil)))) (fun e_ => ?_)
          refine T.region ?_
          refine TL.cons rfl (V1.t (V1.move' z_B) ?_)
          refine TL.cons rfl (V1.t (V1.move' z_B) ?_)
          refine TL.cons rfl (V1.t (V1.indexAddrS ty_49 sz_101 rfl rfl (by omega) (by omega)) ?_)
          refine TL.cons rfl (V1.t (V1.loadN (vs := [.int .i64 (d.name : Nat), .slice oa d.offer.toList.length occ, .slice na d.once.length ncc, .slice ga d.box.length gcc]) one_101 sz_101 rfl (hrd _ rfl rfl _ z_E) rfl) ?_)
          refine TL.cons rfl (T1.allocN 4 zr_101 rfl (fun b13 => ?_))
          refine TL.cons rfl (T1.storeN (vs := [.int .i64 (d.name : Nat), .slice oa d.offer.toList.length occ, .slice na d.once.length ncc, .slice ga d.box.length gcc]) rfl rfl sz_101 hones z_H (by rfl) (by rfl) ?_)
          refine TL.nil ?_
          refine T.seq ?_
          refine T.region ?_
          refine TL.cons rfl (V1.t (V1.loadN (vs := co) one_39 sz_39 rfl (RdN.whole z_D) hco5) ?_)
          refine TL.cons rfl (T1.buildSlN (os := [.tmp 55]) (vss := [co]) ty_42 sz_39 zr_39 (by decide) rfl (.cons z_B .nil) z_K (by rfl) (by intro y hy; simp only [List.mem_singleton] at hy; subst hy; exact hco5) (fun b56 => ?_))
          refine TL.cons rfl (V1.t (V1.fieldAddr fl_101_1 rfl) ?_)
          refine TL.cons rfl (T1.store1 (cells := [.int .i64 (d.name : Nat), .slice oa d.offer.toList.length occ, .slice na d.once.length ncc, .slice ga d.box.length gcc]) rfl rfl sz_42 rfl z_H (Nat.zero_le _) z_J ?_)
          refine TL.nil ?_
          refine T.seq ?_
          refine T.region ?_
          refine TL.cons rfl (T1.buildNone0 ty_42 sz_39 zr_39 (fun b58 => ?_))
          refine TL.cons rfl (V1.t (V1.fieldAddr fl_101_2 rfl) ?_)
          refine TL.cons rfl (V1.t (V1.load1 (v := .slice na d.once.length ncc) one_42 rfl (.own (cells := [.int .i64 (d.name : Nat), .slice (some ⟨b56, 0, none⟩) 1 1, .slice na d.once.length ncc, .slice ga d.box.length gcc]) z_D (by rfl))) ?_)
          refine TL.cons rfl (T1.append ty_42 kd_42 sz_39 by_39 zr_39 rfl (by decide) (by decide) rfl rfl (Sl.none0 (b := b58)) (p2.row.row.src _ rfl rfl _ z_E) (fun u hu => by obtain ⟨c_, hc_, hu2⟩ := List.mem_flatten.1 hu; exact (p2.five c_ hc_).2 u hu2) 3000000 (by have h_ := p2.row.row.len; rw [h_, List.length_nil]; omega) (by decide) z_C (fun s1 L1 hs1 => ?_))
          rw [List.nil_append] at hs1
          refine TL.cons rfl (V1.t (V1.assign' z_B) ?_)
          refine TL.nil ?_
          refine T.seq ?_
          refine T.live (l := [(0, _), (3, _), (10, _), (13, _), (14, _)]) (.cons z_B (.cons z_B (.cons z_B (.cons z_B (.cons z_B .nil))))) (fun e_ => ?_)
          refine T.region ?_
          refine TL.cons rfl (V1.t (V1.move' z_B) ?_)
          refine TL.cons rfl (V1.t (V1.move' z_B) ?_)
          refine TL.cons rfl (T1.append ty_42 kd_42 sz_39 by_39 zr_39 rfl (by decide) (by decide) rfl rfl hs1 (hfs.row.row.src _ rfl rfl _ z_E) (fun u hu => by obtain ⟨c_, hc_, hu2⟩ := List.mem_flatten.1 hu; exact (hfs.five c_ hc_).2 u hu2) 3000000 (by have h_ := p2.row.row.len; have h2_ := hfs.row.row.len; rw [h_, h2_]; omega) (by decide) z_C (fun s2 L2 hs2 => ?_))
          refine TL.cons rfl (V1.t (V1.fieldAddr fl_101_2 rfl) ?_)
          refine TL.cons rfl (T1.store1 (cells := [.int .i64 (d.name : Nat), .slice (some ⟨b56, 0, none⟩) 1 1, .slice na d.once.length ncc, .slice ga d.box.length gcc]) rfl rfl sz_42 hs2.one z_H (Nat.zero_le _) z_J ?_)
          refine TL.nil ?_
          refine T.seq ?_
          refine T.region ?_
          refine TL.cons rfl (V1.t (V1.move' z_B) ?_)
          refine TL.cons rfl (V1.t (V1.move' z_B) ?_)
          refine TL.cons rfl (V1.t (V1.loadN (vs := [.int .i64 (d.name : Nat), .slice (some ⟨b56, 0, none⟩) 1 1, s2, .slice ga d.box.length gcc]) one_101 sz_101 rfl (RdN.whole z_D) rfl) ?_)
          have hpe : PerR w0 ((⟨b56, 0, [co].flatten, 1 * 5⟩ : Blk) :: (L2 ++ Ps)) ({ d with offer := some o, once := d.once ++ fs } : Pr) [.int .i64 (d.name : Nat), .slice (some ⟨b56, 0, none⟩) 1 1, s2, .slice ga d.box.length gcc] := ⟨_, _, _, [co], _, rfl, FrsS.one (List.mem_cons_self ..) (hfO.more (Inc.skip1 (Inc.skip Inc.refl))), p2.append hfs (Inc.skip1 (Inc.skip Inc.refl)) hs2 (Inc.skip1 Inc.here), p3.more (Inc.skip1 (Inc.skip Inc.refl))⟩
          refine TL.cons rfl (T1.callC (Ps := (⟨b56, 0, [co].flatten, 1 * 5⟩ : Blk) :: (L2 ++ Ps)) has_49 rfl rfl (withG w0 (hc.more (Inc.skip1 (Inc.skip Inc.refl))) hdl i hil (d1 := ({ d with offer := some o, once := d.once ++ fs } : Pr)) (cs1 := [.int .i64 (d.name : Nat), .slice (some ⟨b56, 0, none⟩) 1 1, s2, .slice ga d.box.length gcc]) hpe) z_E (fun v_ Yw hv => ?_))
          rw [← setP_idx hok.names hdi (d' := ({ d with offer := some o, once := d.once ++ fs } : Pr)) rfl] at hv
          refine TL.cons rfl (V1.t (V1.assign' z_B) ?_)
          refine TL.cons rfl (V1.t (V1.assign' z_B) ?_)
          refine TL.nil ?_
          refine T.ret ?_
          exact ⟨_, (Yw ++ ((⟨b56, 0, [co].flatten, 1 * 5⟩ : Blk) :: L2)) ++ G, _, .cons (.tmp z_B) (.cons (.tmp z_B) .nil), by simp only [List.append_assoc, List.cons_append]; exact z_A, Yw ++ ((⟨b56, 0, [co].flatten, 1 * 5⟩ : Blk) :: L2), rfl, _, _, rfl, by rw [pubP_ok hfp hbn (by omega)]; have hv2 := hv; rw [← List.cons_append] at hv2; exact hv2.up, by rw [pubP_ok hfp hbn (by omega)]⟩

theorem sendTo_len (l : List UInt8) : ∀ (ns : List Nat) (ps : List Pr), (sendTo l ns ps).length = ps.length
  | [], _ => rfl
  | n :: ns, ps => by
    rw [sendTo, sendTo_len l ns]
    split
    · unfold setP; rw [List.length_map]
    · rfl
theorem sendTo_names (l : List UInt8) : ∀ (ns : List Nat) (ps : List Pr), (sendTo l ns ps).map Pr.name = ps.map Pr.name
  | [], _ => rfl
  | n :: ns, ps => by
    rw [sendTo, sendTo_names l ns]
    split
    · rw [setP_names]
    · rfl
theorem sendTo_get {l : List UInt8} {k : Nat} {d : Pr} : ∀ {ns : List Nat} {ps : List Pr}, ps[k]? = some d → d.name ∉ ns → (sendTo l ns ps)[k]? = some d
  | [], _, h, _ => h
  | n :: ns, ps, h, hn => by
    rw [List.mem_cons, not_or] at hn
    rw [sendTo]
    refine sendTo_get ?_ hn.2
    split
    · rename_i d2 hd2
      obtain ⟨_, _, _, he, _⟩ := findP_at hd2
      unfold setP
      rw [List.getElem?_map, h]
      show some (if d.name = (d2.put l).name then d2.put l else d) = some d
      rw [if_neg (by show d.name ≠ d2.name; rw [he]; exact hn.1)]
    · exact h
theorem envS {w0 : World} {Ps : List Blk} {n b25 b28 bd cap : Nat} {l : List UInt8} (hn : n < 4294967296) (hll : l.length ≤ 1000000000000) (hcap : l.length ≤ cap) : FrmS w0 ((⟨bd, 0, l.map byteV, cap⟩ : Blk) :: (⟨b28, 0, [u32V n], 1⟩ : Blk) :: (⟨⟨b25, some 60⟩, 0, List.replicate 32 (byteV 0), 32⟩ : Blk) :: Ps) (.agg (List.toArray [.int .i64 7, .slice (some ⟨b25, 0, none⟩) 1 1, .slice (some ⟨b28, 0, none⟩) 1 1, .slice none 0 0, .slice (some ⟨bd, 0, none⟩) l.length cap])) (envF n l) :=
  ⟨⟨_, _, _, _, rfl, ⟨RowR.own (tg := some 60) (size := 32) (show (⟨⟨b25, some 60⟩, 0, (envF n l).keys.flatten.map byteV, 32⟩ : Blk) ∈ _ from List.mem_cons_of_mem _ (List.mem_cons_of_mem _ (List.mem_cons_self ..))) rfl, .inr ⟨_, _, 1, rfl, Nat.le_refl _⟩⟩, ⟨RowR.own (tg := none) (size := 1) (by simp [envF]) rfl, .inr ⟨_, _, 1, rfl, Nat.le_refl _⟩⟩, RowS.nil, ⟨RowR.own (tg := none) (size := cap) (by simp [envF]) (by simp [envF]), .inr ⟨_, _, cap, rfl, hcap⟩⟩⟩, envF_wf hn, by simp [envF], by simp [envF], by simp [envF], by show l.length < _; omega⟩
set_option maxRecDepth 100000 in
set_option maxHeartbeats 8000000 in
theorem SendG (w0 : World) {Ps : List Blk} {la : Option Addr} {lc : Nat} {ds : List Pr} {css : List (List Value)} (hc : DocC w0 Ps (.slice la ds.length lc) ds css) (hdl : ds.length ≤ 100) (hok : SrvOk ds) (n : Nat) (hn : n < 4294967296) (l : List UInt8) (hll : l.length ≤ 1000000000000) {ta : Option Addr} {tc : Nat} {ns : List Nat} (ht : RowS w0 Ps 1 (.slice ta ns.length tc) ns.length (ns.map fun x => (.int .i64 ((x : Nat) : Int) : Value))) (hnl : ns.length ≤ 1000000000) : FnG P 37 [.slice la ds.length lc, .int .i64 (n : Nat), strV l, .slice ta ns.length tc] w0 Ps [] (fun v Y => ∃ l1 c, v = .tuple #[l1, .int .i64 c] ∧ DocR w0 (Y ++ Ps) l1 (sendP ds n l ns).1 ∧ c = (sendP ds n l ns).2) := by
  refine FnG.of 107 [.tmp 8, .tmp 9] Go.Proofs.Try.func37 rfl rfl rfl rfl (fun G hG => ?_)
  refine T.seq ?_
  refine T.region ?_
  refine TL.cons rfl (V1.t (V1.assign' z_B) ?_)
  refine TL.cons rfl (V1.t (V1.assign' z_B) ?_)
  refine TL.nil ?_
  refine T.seq ?_
  refine T.seq ?_
  refine T.region ?_
  refine TL.cons rfl (V1.t (V1.move' z_B) ?_)
  refine TL.cons rfl (V1.t (V1.move' z_B) ?_)
  refine TL.cons rfl (T1.callV (Ps := Ps) has_47 rfl rfl (FindG w0 hc hdl n) z_E (fun v_ hv => ?_))
  rcases hv with ⟨rfl, hfn⟩ | ⟨i0, d0, rfl, hdi0, hfp0⟩
  ·
    refine TL.cons rfl (V1.t (V1.ltI (r := true) rfl rfl (decide_eq_true (by omega))) ?_)
    refine TL.nil ?_
    refine T.cond_t rfl ?_
    refine T.seq ?_
    refine T.region ?_
    refine TL.cons rfl (V1.t (V1.move' z_B) ?_)
    refine TL.cons rfl (V1.t (V1.assign' z_B) ?_)
    refine TL.cons rfl (V1.t (V1.assign' z_B) ?_)
    refine TL.nil ?_
    refine T.ret ?_
    exact ⟨_, G, _, .cons (.tmp z_B) (.cons (.tmp z_B) .nil), z_A, [], rfl, _, _, rfl, by rw [sendP_none hfn]; exact ⟨_, hc.more (Inc.skip Inc.refl)⟩, by rw [sendP_none hfn]⟩
  ·
    refine TL.cons rfl (V1.t (V1.ltI (r := false) rfl rfl (decide_eq_false (by omega))) ?_)
    refine TL.nil ?_
    refine T.cond_f rfl ?_
    refine T.skip ?_
    refine T.seq ?_
    refine T.region ?_
    refine TL.cons rfl (V1.t (V1.buildA0 ty_60 sz_5 zr_60) ?_)
    refine TL.cons rfl (T1.buildOne (cs := List.replicate 32 (byteV 0)) ty_35 sz_60 zr_60 (by decide) rfl (by rfl) (fun b25 => ?_))
    refine TL.cons rfl (V1.t (V1.move' z_B) ?_)
    refine TL.cons rfl (V1.t (V1.conv (c := ((n : Nat) : Int)) ty_3 ty_27 rfl (wrap_u32 _ (by omega) (by omega))) ?_)
    refine TL.cons rfl (T1.buildSl1 (os := [.tmp 27]) (vs := [u32V n]) ty_36 sz_27 zr_27 (by decide) rfl (.cons z_B .nil) rfl (ones rfl) (fun b28 => ?_))
    refine TL.cons rfl (V1.t (V1.move' z_B) ?_)
    refine TL.cons rfl (T1.strToBytes (a := bstr l) ty_9 ty_29 ty_5 rfl (fun bd cap hcap => ?_))
    replace hcap : l.length ≤ cap := hcap
    refine TL.cons rfl (V1.t (V1.buildF pl_39 zr_39 (.one rfl z_B rfl (.one rfl z_B rfl (.one rfl z_B rfl (.one rfl z_B rfl .nil)))) z_I) ?_)
    refine TL.cons rfl (T1.callV (Ps := (⟨bd, 0, l.map byteV, cap⟩ : Blk) :: (⟨b28, 0, [u32V n], 1⟩ : Blk) :: (⟨⟨b25, some 60⟩, 0, List.replicate 32 (byteV 0), 32⟩ : Blk) :: Ps) has_50 rfl rfl (refEnc_G w0 (f := envF n l) (envS hn hll hcap)) z_E (fun v_ hv => ?_))
    rcases encS_cases (envF n l) with ⟨e1, henc, he1, hes⟩ | ⟨l2, henc, hes⟩ <;> rw [hes] at hv <;> subst hv
    ·
      refine TL.cons rfl (V1.t (V1.move' z_B) ?_)
      refine TL.cons rfl (V1.t (V1.extract rfl (by rfl)) ?_)
      refine TL.cons rfl (V1.t (V1.extract rfl (by rfl)) ?_)
      refine TL.cons rfl (V1.t (V1.assign' z_B) ?_)
      refine TL.cons rfl (V1.t (V1.assign' z_B) ?_)
      refine TL.nil ?_
      refine T.seq ?_
      refine T.seq ?_
      refine T.live (l := [(0, _), (3, _), (10, _), (11, _)]) (.cons z_B (.cons z_B (.cons z_B (.cons z_B .nil)))) (fun e_ => ?_)
      refine T.region ?_
      refine TL.cons rfl (V1.t (V1.move' z_B) ?_)
      refine TL.cons rfl (V1.t (V1.neI (r := true) rfl rfl (by rcases he1 with rfl | rfl <;> rfl)) ?_)
      refine TL.nil ?_
      refine T.cond_t rfl ?_
      refine T.seq ?_
      refine T.region ?_
      refine TL.cons rfl (V1.t (V1.move' z_B) ?_)
      refine TL.cons rfl (V1.t (V1.move' z_B) ?_)
      refine TL.cons rfl (V1.t (V1.assign' z_B) ?_)
      refine TL.cons rfl (V1.t (V1.assign' z_B) ?_)
      refine TL.nil ?_
      refine T.ret ?_
      exact ⟨_, G, _, .cons (.tmp z_B) (.cons (.tmp z_B) .nil), z_A, [], rfl, _, _, rfl, by rw [sendP_err hfp0 henc]; exact ⟨_, hc.more (Inc.skip Inc.refl)⟩, by rw [sendP_err hfp0 henc]⟩
    ·
      have hl2 := env_len henc
      have hbz := bstr_size l2
      refine TL.cons rfl (V1.t (V1.move' z_B) ?_)
      refine TL.cons rfl (V1.t (V1.extract rfl (by rfl)) ?_)
      refine TL.cons rfl (V1.t (V1.extract rfl (by rfl)) ?_)
      refine TL.cons rfl (V1.t (V1.assign' z_B) ?_)
      refine TL.cons rfl (V1.t (V1.assign' z_B) ?_)
      refine TL.nil ?_
      refine T.seq ?_
      refine T.seq ?_
      refine T.live (l := [(0, _), (3, _), (10, _), (11, _)]) (.cons z_B (.cons z_B (.cons z_B (.cons z_B .nil)))) (fun e_ => ?_)
      refine T.region ?_
      refine TL.cons rfl (V1.t (V1.move' z_B) ?_)
      refine TL.cons rfl (V1.t (V1.neI (r := false) rfl rfl rfl) ?_)
      refine TL.nil ?_
      refine T.cond_f rfl ?_
      refine T.skip ?_
      refine T.seq ?_
      refine T.region ?_
      refine TL.cons rfl (V1.t (V1.move' z_B) ?_)
      refine TL.cons rfl (V1.t (V1.assign' z_B) ?_)
      refine TL.nil ?_
      refine T.seq ?_
      refine T.seq ?_
      refine T.region ?_
      refine TL.cons rfl (V1.t (V1.assign' z_B) ?_)
      refine TL.nil ?_
      refine T.block ?_
      refine T.loopL (σ := Nat × Value × List Blk) (l0 := [(0, _), (3, _), (10, _)]) (fun x => [(12, x.2.1), (13, .int .i64 ((x.1 : Nat) : Int))]) (fun x L => L = x.2.2 ++ G ∧ x.1 ≤ ns.length ∧ sendBad ds l2.length (ns.take x.1) (ns.drop x.1) = sendBad ds l2.length [] ns ∧ DocR w0 (x.2.2 ++ Ps) x.2.1 (sendTo l2 (ns.take x.1) ds)) (fun x => ns.length - x.1) (0, .slice la ds.length lc, []) (.cons rfl (.cons rfl .nil)) (.cons z_B (.cons z_B (.cons z_B .nil))) z_A (⟨rfl, Nat.zero_le _, by simp, ⟨_, hc⟩⟩) ?_
      rintro ⟨i, out, Z⟩ e_ L ⟨rfl, hi, hob, hout⟩
      dsimp only at hi hob hout
      dsimp only
      refine T.seq ?_
      refine T.seq ?_
      refine T.region ?_
      refine TL.cons rfl (V1.t (V1.move' z_B) ?_)
      refine TL.cons rfl (V1.t (V1.move' z_B) ?_)
      refine TL.cons rfl (V1.t (V1.lenSl ty_94 rfl) ?_)
      refine TL.cons rfl (T1.ltI_split rfl rfl (fun h8 => ?_) (fun h8 => ?_))
      ·
        obtain ⟨y, hy⟩ : ∃ y, ns[i]? = some y := ⟨_, List.getElem?_eq_getElem (by omega)⟩
        have hdr : ns.drop i = y :: ns.drop (i + 1) := by rw [List.drop_eq_getElem_cons (by omega)]; congr 1; exact Option.some.inj (by rw [← List.getElem?_eq_getElem, hy])
        obtain ⟨tb, to_, rfl, hrt⟩ := ht.row.at (by omega) P
        refine TL.nil ?_
        refine T.cond_t rfl ?_
        refine T.skip ?_
        refine T.seq ?_
        refine T.block ?_
        refine T.seq ?_
        refine T.region ?_
        refine TL.cons rfl (V1.t (V1.move' z_B) ?_)
        refine TL.cons rfl (V1.t (V1.move' z_B) ?_)
        refine TL.cons rfl (V1.t (V1.move' z_B) ?_)
        refine TL.cons rfl (V1.t (V1.indexAddrS ty_94 sz_3 rfl rfl (by omega) (by omega)) ?_)
        refine TL.cons rfl (V1.t (V1.load1 (v := (.int .i64 ((y : Nat) : Int) : Value)) one_3 rfl (RdN.i1 (i := i) (hrt _ rfl rfl _ z_E) (by rw [List.getElem?_map, hy]; rfl))) ?_)
        refine TL.cons rfl (T1.callV (Ps := Ps) has_47 rfl rfl (FindG w0 hc hdl y) z_E (fun v_ hv => ?_))
        rcases hv with ⟨rfl, hfy⟩ | ⟨k, d, rfl, hdk, hfp⟩
        ·
          refine TL.cons rfl (V1.t (V1.assign' z_B) ?_)
          refine TL.nil ?_
          refine T.seq ?_
          refine T.seq ?_
          refine T.region ?_
          refine TL.cons rfl (V1.t (V1.move' z_B) ?_)
          refine TL.cons rfl (V1.t (V1.ltI (r := true) rfl rfl (decide_eq_true (by omega))) ?_)
          refine TL.nil ?_
          refine T.cond_t rfl ?_
          refine T.seq ?_
          refine T.region ?_
          refine TL.cons rfl (V1.t (V1.move' z_B) ?_)
          refine TL.cons rfl (V1.t (V1.assign' z_B) ?_)
          refine TL.cons rfl (V1.t (V1.assign' z_B) ?_)
          refine TL.nil ?_
          refine T.ret ?_
          exact ⟨_, G, _, .cons (.tmp z_B) (.cons (.tmp z_B) .nil), z_A, [], rfl, _, _, rfl, by rw [sendP_bad (e := 4) hfp0 henc (by rw [← hob, hdr]; exact sendBad_none hfy) (by decide)]; exact ⟨_, hc.more (Inc.skip Inc.refl)⟩, by rw [sendP_bad (e := 4) hfp0 henc (by rw [← hob, hdr]; exact sendBad_none hfy) (by decide)]⟩
        ·
          have hil := (List.getElem?_eq_some_iff.1 hdk).1
          obtain ⟨lb, lo, so, sn, sb, oc, nc, rfl, hcs, p1, p2, p3, hrd⟩ := hc.at hdk
          have hones : ∀ u ∈ [.int .i64 (d.name : Nat), so, sn, sb], one u = true := (show PerR w0 Ps d _ from ⟨_, _, _, _, _, rfl, p1, p2, p3⟩).ones.2
          obtain ⟨oa, occ, rfl⟩ := p1.row.row.form
          obtain ⟨na, ncc, rfl⟩ := p2.row.row.form
          obtain ⟨ga, gcc, rfl⟩ := p3.row.form
          have hdo : d.Ok := hok.each d (List.mem_of_getElem? hdk)
          have hdb := hdo.bytes
          have hdx := hdo.box
          have hdw := hdo.few
          have hdn : d.name = y := ((findP_iff hok.names).1 hfp).2
          refine TL.cons rfl (V1.t (V1.assign' z_B) ?_)
          refine TL.nil ?_
          refine T.seq ?_
          refine T.seq ?_
          refine T.region ?_
          refine TL.cons rfl (V1.t (V1.move' z_B) ?_)
          refine TL.cons rfl (V1.t (V1.ltI (r := false) rfl rfl (decide_eq_false (by omega))) ?_)
          refine TL.nil ?_
          refine T.cond_f rfl ?_
          refine T.skip ?_
          refine T.seq ?_
          refine T.seq ?_
          refine T.region ?_
          refine TL.cons rfl (V1.t (V1.assign' z_B) ?_)
          refine TL.nil ?_
          refine T.block ?_
          refine T.loopL (σ := Nat) (l0 := [(0, _), (3, _), (10, _), (12, _), (13, _), (14, _)]) (fun x => [(15, .int .i64 ((x : Nat) : Int))]) (fun j L => L = Z ++ G ∧ j ≤ i ∧ ∀ (m z : Nat), m < j → ns[m]? = some z → z ≠ y) (fun j => i - j) 0 (.cons rfl .nil) (.cons z_B (.cons z_B (.cons z_B (.cons z_B (.cons z_B (.cons z_B .nil)))))) z_A (⟨rfl, Nat.zero_le _, fun m z h => absurd h (Nat.not_lt_zero _)⟩) ?_
          rintro j e_ L ⟨rfl, hj, hno⟩
          refine T.seq ?_
          refine T.seq ?_
          refine T.region ?_
          refine TL.cons rfl (V1.t (V1.move' z_B) ?_)
          refine TL.cons rfl (V1.t (V1.move' z_B) ?_)
          refine TL.cons rfl (T1.ltI_split rfl rfl (fun h14 => ?_) (fun h14 => ?_))
          ·
            obtain ⟨z, hz⟩ : ∃ z, ns[j]? = some z := ⟨_, List.getElem?_eq_getElem (by omega)⟩
            refine TL.nil ?_
            refine T.cond_t rfl ?_
            refine T.skip ?_
            refine T.seq ?_
            refine T.block ?_
            refine T.seq ?_
            rcases Classical.em (z = y) with hzy | hzy
            ·
              have hin : y ∈ ns.take i := by subst hzy; exact List.mem_of_getElem? (i := j) (by rw [List.getElem?_take, if_pos (by omega)]; exact hz)
              refine T.drawDet' mixed z_F ?_
              refine Det.cons 0 (ins := [(3, _)]) (.old z_B z_F .nil) (fun e_ => .inl ⟨rfl, V1.t (V1.move' z_B) ⟨rfl, rfl⟩⟩) ?_
              refine Det.cons 1 (ins := [(15, _)]) (.old z_B z_F .nil) (fun e_ => .inl ⟨rfl, V1.t (V1.move' z_B) ⟨rfl, rfl⟩⟩) ?_
              refine Det.cons 2 (ins := [(60, _), (61, _)]) (.new 0 1 z_F rfl rfl (.new 1 0 z_F rfl rfl .nil)) (fun e_ => .inl ⟨rfl, V1.t (V1.indexAddrS ty_94 sz_3 rfl rfl (by omega) (by omega)) ⟨rfl, rfl⟩⟩) ?_
              refine Det.cons 3 (ins := [(62, _)]) (.new 2 0 z_F rfl rfl .nil) (fun e_ => .inl ⟨rfl, V1.t (V1.load1 (v := (.int .i64 ((z : Nat) : Int) : Value)) one_3 rfl (RdN.i1 (i := j) (hrt _ rfl rfl _ z_E) (by rw [List.getElem?_map, hz]; rfl))) ⟨rfl, rfl⟩⟩) ?_
              refine Det.cons 4 (ins := [(3, _)]) (.old z_B z_F .nil) (fun e_ => .inl ⟨rfl, V1.t (V1.move' z_B) ⟨rfl, rfl⟩⟩) ?_
              refine Det.cons 5 (ins := [(13, _)]) (.old z_B z_F .nil) (fun e_ => .inl ⟨rfl, V1.t (V1.move' z_B) ⟨rfl, rfl⟩⟩) ?_
              refine Det.cons 6 (ins := [(64, _), (65, _)]) (.new 4 1 z_F rfl rfl (.new 5 0 z_F rfl rfl .nil)) (fun e_ => .inl ⟨rfl, V1.t (V1.indexAddrS ty_94 sz_3 rfl rfl (by omega) (by omega)) ⟨rfl, rfl⟩⟩) ?_
              refine Det.cons 7 (ins := [(66, _)]) (.new 6 0 z_F rfl rfl .nil) (fun e_ => .inl ⟨rfl, V1.t (V1.load1 (v := (.int .i64 ((y : Nat) : Int) : Value)) one_3 rfl (RdN.i1 (i := i) (hrt _ rfl rfl _ z_E) (by rw [List.getElem?_map, hy]; rfl))) ⟨rfl, rfl⟩⟩) ?_
              refine Det.cons 8 (ins := [(63, _), (67, _)]) (.new 3 4 z_F rfl rfl (.new 7 0 z_F rfl rfl .nil)) (fun e_ => .inl ⟨rfl, V1.t (V1.eqI (r := true) rfl rfl (decide_eq_true (by omega))) ⟨rfl, rfl⟩⟩) ?_
              refine Det.nil 9 (l := [(0, _), (3, _), (10, _), (12, _), (13, _), (14, _), (15, _), (68, _)]) (.old z_B z_F (.old z_B z_F (.old z_B z_F (.old z_B z_F (.old z_B z_F (.old z_B z_F (.old z_B z_F (.new 8 0 z_F rfl rfl .nil)))))))) (fun e_ => ?_)
              refine T.cond_t rfl ?_
              refine T.seq ?_
              refine T.region ?_
              refine TL.cons rfl (V1.t (V1.move' z_B) ?_)
              refine TL.cons rfl (V1.t (V1.assign' z_B) ?_)
              refine TL.cons rfl (V1.t (V1.assign' z_B) ?_)
              refine TL.nil ?_
              refine T.ret ?_
              exact ⟨_, G, _, .cons (.tmp z_B) (.cons (.tmp z_B) .nil), z_A, [], rfl, _, _, rfl, by rw [sendP_bad (e := 5) hfp0 henc (by rw [← hob, hdr]; exact sendBad_twice hfp hin) (by decide)]; exact ⟨_, hc.more (Inc.skip Inc.refl)⟩, by rw [sendP_bad (e := 5) hfp0 henc (by rw [← hob, hdr]; exact sendBad_twice hfp hin) (by decide)]⟩
            ·
              refine T.drawDet' mixed z_F ?_
              refine Det.cons 0 (ins := [(3, _)]) (.old z_B z_F .nil) (fun e_ => .inl ⟨rfl, V1.t (V1.move' z_B) ⟨rfl, rfl⟩⟩) ?_
              refine Det.cons 1 (ins := [(15, _)]) (.old z_B z_F .nil) (fun e_ => .inl ⟨rfl, V1.t (V1.move' z_B) ⟨rfl, rfl⟩⟩) ?_
              refine Det.cons 2 (ins := [(60, _), (61, _)]) (.new 0 1 z_F rfl rfl (.new 1 0 z_F rfl rfl .nil)) (fun e_ => .inl ⟨rfl, V1.t (V1.indexAddrS ty_94 sz_3 rfl rfl (by omega) (by omega)) ⟨rfl, rfl⟩⟩) ?_
              refine Det.cons 3 (ins := [(62, _)]) (.new 2 0 z_F rfl rfl .nil) (fun e_ => .inl ⟨rfl, V1.t (V1.load1 (v := (.int .i64 ((z : Nat) : Int) : Value)) one_3 rfl (RdN.i1 (i := j) (hrt _ rfl rfl _ z_E) (by rw [List.getElem?_map, hz]; rfl))) ⟨rfl, rfl⟩⟩) ?_
              refine Det.cons 4 (ins := [(3, _)]) (.old z_B z_F .nil) (fun e_ => .inl ⟨rfl, V1.t (V1.move' z_B) ⟨rfl, rfl⟩⟩) ?_
              refine Det.cons 5 (ins := [(13, _)]) (.old z_B z_F .nil) (fun e_ => .inl ⟨rfl, V1.t (V1.move' z_B) ⟨rfl, rfl⟩⟩) ?_
              refine Det.cons 6 (ins := [(64, _), (65, _)]) (.new 4 1 z_F rfl rfl (.new 5 0 z_F rfl rfl .nil)) (fun e_ => .inl ⟨rfl, V1.t (V1.indexAddrS ty_94 sz_3 rfl rfl (by omega) (by omega)) ⟨rfl, rfl⟩⟩) ?_
              refine Det.cons 7 (ins := [(66, _)]) (.new 6 0 z_F rfl rfl .nil) (fun e_ => .inl ⟨rfl, V1.t (V1.load1 (v := (.int .i64 ((y : Nat) : Int) : Value)) one_3 rfl (RdN.i1 (i := i) (hrt _ rfl rfl _ z_E) (by rw [List.getElem?_map, hy]; rfl))) ⟨rfl, rfl⟩⟩) ?_
              refine Det.cons 8 (ins := [(63, _), (67, _)]) (.new 3 4 z_F rfl rfl (.new 7 0 z_F rfl rfl .nil)) (fun e_ => .inl ⟨rfl, V1.t (V1.eqI (r := false) rfl rfl (decide_eq_false (by omega))) ⟨rfl, rfl⟩⟩) ?_
              refine Det.nil 9 (l := [(0, _), (3, _), (10, _), (12, _), (13, _), (14, _), (15, _), (68, _)]) (.old z_B z_F (.old z_B z_F (.old z_B z_F (.old z_B z_F (.old z_B z_F (.old z_B z_F (.old z_B z_F (.new 8 0 z_F rfl rfl .nil)))))))) (fun e_ => ?_)
              refine T.cond_f rfl ?_
              refine T.skip ?_
              refine T.region ?_
              refine TL.cons rfl (V1.t (V1.move' z_B) ?_)
              refine TL.cons rfl (V1.t (V1.add (c := ((j + 1 : Nat) : Int)) rfl rfl (by rw [wrap_i64 _ (by omega) (by omega)]; omega)) ?_)
              refine TL.cons rfl (V1.t (V1.assign' z_B) ?_)
              refine TL.nil ?_
              exact ⟨j + 1, _, _, (by simp only; omega), (.cons rfl .nil), (.cons rfl (.cons rfl (.cons rfl (.cons rfl (.cons rfl (.cons rfl .nil)))))), z_A, ⟨rfl, by omega, fun m z h1 h2 => by by_cases hm : m = j; (subst hm; rw [hz] at h2; have := Option.some.inj h2; subst this; exact hzy); exact hno m z (by omega) h2⟩⟩
          ·
            have hnin : y ∉ ns.take i := fun hm => by obtain ⟨m, hm1⟩ := List.getElem?_of_mem hm; have hml := (List.getElem?_eq_some_iff.1 hm1).1; rw [List.length_take] at hml; rw [List.getElem?_take, if_pos (by omega)] at hm1; exact hno m y (by omega) hm1 rfl
            refine TL.nil ?_
            refine T.cond_f rfl ?_
            refine T.exit ?_
            refine T.seq ?_
            refine T.seq ?_
            rcases Nat.lt_or_ge d.box.length 200 with hx1 | hx1
            rcases Nat.lt_or_ge 65536 (d.bytes + l2.length) with hx2 | hx2
            ·
              have hroom : d.room l2.length = false := decide_eq_false (by omega)
              refine T.region ?_
              refine TL.cons rfl (V1.t (V1.move' z_B) ?_)
              refine TL.cons rfl (V1.t (V1.move' z_B) ?_)
              refine TL.cons rfl (V1.t (V1.indexAddrS ty_49 sz_101 rfl rfl (by omega) (by omega)) ?_)
              refine TL.cons rfl (V1.t (V1.fieldAddr fl_101_3 rfl) ?_)
              refine TL.cons rfl (V1.t (V1.load1 one_99 rfl (hrd _ rfl rfl _ z_E 3 _ rfl)) ?_)
              refine TL.cons rfl (V1.t (V1.lenSl ty_99 rfl) ?_)
              refine TL.cons rfl (V1.t (V1.geI (r := false) rfl rfl (decide_eq_false (by omega))) ?_)
              refine TL.cons rfl (V1.t (V1.move' z_B) ?_)
              refine TL.cons rfl (V1.t (V1.move' z_B) ?_)
              refine TL.cons rfl (V1.t (V1.move' z_B) ?_)
              refine TL.cons rfl (V1.t (V1.indexAddrS ty_49 sz_101 rfl rfl (by omega) (by omega)) ?_)
              refine TL.cons rfl (V1.t (V1.loadN (vs := [.int .i64 (d.name : Nat), .slice oa d.offer.toList.length occ, .slice na d.once.length ncc, .slice ga d.box.length gcc]) one_101 sz_101 rfl (hrd _ rfl rfl _ z_E) rfl) ?_)
              refine TL.cons rfl (T1.callV (Ps := Ps) has_51 rfl rfl (bytesG w0 rfl rfl p3 (by omega) (by omega)) z_E (fun v_ hv => ?_))
              subst hv
              refine TL.cons rfl (V1.t (V1.move' z_B) ?_)
              refine TL.cons rfl (V1.t (V1.lenS ty_9 rfl) ?_)
              refine TL.cons rfl (V1.t (V1.add (c := ((d.bytes + l2.length : Nat) : Int)) rfl rfl (by rw [wrap_i64 _ (by omega) (by omega)]; omega)) ?_)
              refine TL.cons rfl (V1.t (V1.gtI (r := true) rfl rfl (decide_eq_true (by omega))) ?_)
              refine TL.cons rfl (V1.t (V1.pick rfl z_B) ?_)
              refine TL.nil ?_
              refine T.cond_t rfl ?_
              refine T.seq ?_
              refine T.live (l := [(0, _)]) (.cons z_B .nil) (fun e_ => ?_)
              refine T.region ?_
              refine TL.cons rfl (V1.t (V1.move' z_B) ?_)
              refine TL.cons rfl (V1.t (V1.assign' z_B) ?_)
              refine TL.cons rfl (V1.t (V1.assign' z_B) ?_)
              refine TL.nil ?_
              refine T.ret ?_
              exact ⟨_, G, _, .cons (.tmp z_B) (.cons (.tmp z_B) .nil), z_A, [], rfl, _, _, rfl, by rw [sendP_bad (e := 180) hfp0 henc (by rw [← hob, hdr]; exact sendBad_full hfp hnin hroom) (by decide)]; exact ⟨_, hc.more (Inc.skip Inc.refl)⟩, by rw [sendP_bad (e := 180) hfp0 henc (by rw [← hob, hdr]; exact sendBad_full hfp hnin hroom) (by decide)]⟩
            ·
              have hroom : d.room l2.length = true := decide_eq_true (by omega)
              refine T.region ?_
              refine TL.cons rfl (V1.t (V1.move' z_B) ?_)
              refine TL.cons rfl (V1.t (V1.move' z_B) ?_)
              refine TL.cons rfl (V1.t (V1.indexAddrS ty_49 sz_101 rfl rfl (by omega) (by omega)) ?_)
              refine TL.cons rfl (V1.t (V1.fieldAddr fl_101_3 rfl) ?_)
              refine TL.cons rfl (V1.t (V1.load1 one_99 rfl (hrd _ rfl rfl _ z_E 3 _ rfl)) ?_)
              refine TL.cons rfl (V1.t (V1.lenSl ty_99 rfl) ?_)
              refine TL.cons rfl (V1.t (V1.geI (r := false) rfl rfl (decide_eq_false (by omega))) ?_)
              refine TL.cons rfl (V1.t (V1.move' z_B) ?_)
              refine TL.cons rfl (V1.t (V1.move' z_B) ?_)
              refine TL.cons rfl (V1.t (V1.move' z_B) ?_)
              refine TL.cons rfl (V1.t (V1.indexAddrS ty_49 sz_101 rfl rfl (by omega) (by omega)) ?_)
              refine TL.cons rfl (V1.t (V1.loadN (vs := [.int .i64 (d.name : Nat), .slice oa d.offer.toList.length occ, .slice na d.once.length ncc, .slice ga d.box.length gcc]) one_101 sz_101 rfl (hrd _ rfl rfl _ z_E) rfl) ?_)
              refine TL.cons rfl (T1.callV (Ps := Ps) has_51 rfl rfl (bytesG w0 rfl rfl p3 (by omega) (by omega)) z_E (fun v_ hv => ?_))
              subst hv
              refine TL.cons rfl (V1.t (V1.move' z_B) ?_)
              refine TL.cons rfl (V1.t (V1.lenS ty_9 rfl) ?_)
              refine TL.cons rfl (V1.t (V1.add (c := ((d.bytes + l2.length : Nat) : Int)) rfl rfl (by rw [wrap_i64 _ (by omega) (by omega)]; omega)) ?_)
              refine TL.cons rfl (V1.t (V1.gtI (r := false) rfl rfl (decide_eq_false (by omega))) ?_)
              refine TL.cons rfl (V1.t (V1.pick rfl z_B) ?_)
              refine TL.nil ?_
              refine T.cond_f rfl ?_
              refine T.skip ?_
              refine T.seq ?_
              refine T.live (l := [(0, _), (3, _), (10, _), (12, _), (13, _), (14, _)]) (.cons z_B (.cons z_B (.cons z_B (.cons z_B (.cons z_B (.cons z_B .nil)))))) (fun e_ => ?_)
              refine T.region ?_
              refine TL.cons rfl (V1.t (V1.move' z_B) ?_)
              refine TL.cons rfl (V1.t (V1.move' z_B) ?_)
              refine TL.cons rfl (V1.t (V1.indexAddrS ty_49 sz_101 rfl rfl (by omega) (by omega)) ?_)
              refine TL.cons rfl (V1.t (V1.loadN (vs := [.int .i64 (d.name : Nat), .slice oa d.offer.toList.length occ, .slice na d.once.length ncc, .slice ga d.box.length gcc]) one_101 sz_101 rfl (hrd _ rfl rfl _ z_E) rfl) ?_)
              refine TL.cons rfl (T1.allocN 4 zr_101 rfl (fun b16 => ?_))
              refine TL.cons rfl (T1.storeN (vs := [.int .i64 (d.name : Nat), .slice oa d.offer.toList.length occ, .slice na d.once.length ncc, .slice ga d.box.length gcc]) rfl rfl sz_101 hones z_H (by rfl) (by rfl) ?_)
              refine TL.nil ?_
              refine T.seq ?_
              refine T.region ?_
              refine TL.cons rfl (T1.buildNone0 ty_99 sz_9 zr_9 (fun b93 => ?_))
              refine TL.cons rfl (V1.t (V1.fieldAddr fl_101_3 rfl) ?_)
              refine TL.cons rfl (V1.t (V1.load1 one_99 rfl (.own (cells := [.int .i64 (d.name : Nat), .slice oa d.offer.toList.length occ, .slice na d.once.length ncc, .slice ga d.box.length gcc]) z_D (by rfl))) ?_)
              refine TL.cons rfl (T1.append ty_99 kd_99 sz_9 by_9 zr_9 rfl (by decide) (by decide) rfl rfl (Sl.none0 (b := b93)) (p3.row.src _ rfl rfl _ z_E) (by intro u hu; obtain ⟨c_, _, rfl⟩ := List.mem_map.1 hu; rfl) 1000 (by rw [List.length_map, List.length_nil]; omega) (by decide) z_C (fun s1 L1 hs1 => ?_))
              rw [List.nil_append] at hs1
              refine TL.cons rfl (V1.t (V1.assign' z_B) ?_)
              refine TL.nil ?_
              refine T.seq ?_
              refine T.region ?_
              refine TL.cons rfl (V1.t (V1.move' z_B) ?_)
              refine TL.cons rfl (V1.t (V1.move' z_B) ?_)
              refine TL.cons rfl (T1.buildSl1 (os := [.tmp 98]) (vs := [strV l2]) ty_99 sz_9 zr_9 (by decide) rfl (.cons z_B .nil) rfl (ones rfl) (fun b99 => ?_))
              refine TL.cons rfl (T1.append ty_99 kd_99 sz_9 by_9 zr_9 rfl (by decide) (by decide) rfl rfl hs1 (.sl (n := 1) (RdN.whole z_D) rfl) (by intro u hu; simp only [List.mem_singleton] at hu; subst hu; rfl) 1000 (by rw [List.length_map, List.length_singleton]; omega) (by decide) z_C (fun s2 L2 hs2 => ?_))
              refine TL.cons rfl (V1.t (V1.fieldAddr fl_101_3 rfl) ?_)
              refine TL.cons rfl (T1.store1 (cells := [.int .i64 (d.name : Nat), .slice oa d.offer.toList.length occ, .slice na d.once.length ncc, .slice ga d.box.length gcc]) rfl rfl sz_99 hs2.one z_H (Nat.zero_le _) z_J ?_)
              refine TL.nil ?_
              refine T.live (l := [(0, _), (3, _), (10, _), (12, _), (13, _), (14, _), (16, _)]) (.cons z_B (.cons z_B (.cons z_B (.cons z_B (.cons z_B (.cons z_B (.cons z_B .nil))))))) (fun e_ => ?_)
              refine T.region ?_
              refine TL.cons rfl (V1.t (V1.move' z_B) ?_)
              refine TL.cons rfl (V1.t (V1.move' z_B) ?_)
              refine TL.cons rfl (V1.t (V1.loadN (vs := [.int .i64 (d.name : Nat), .slice oa d.offer.toList.length occ, .slice na d.once.length ncc, s2]) one_101 sz_101 rfl (RdN.whole z_D) rfl) ?_)
              have hpe : PerR w0 (L2 ++ (Z ++ Ps)) (d.put l2) [.int .i64 (d.name : Nat), .slice oa d.offer.toList.length occ, .slice na d.once.length ncc, s2] := ⟨_, _, _, _, _, rfl, p1.more (Inc.skip (Inc.skip Inc.refl)), p2.more (Inc.skip (Inc.skip Inc.refl)), RowS.ofSl (by rw [show (d.put l2).box.map strV = d.box.map strV ++ [strV l2] from by simp [Pr.put]]; exact hs2) Inc.here (by decide) _ (by rw [List.length_map, Nat.mul_one])⟩
              have hfo : findP (sendTo l2 (ns.take i) ds) y = some d := by rw [sendTo_other hnin]; exact hfp
              have hgo := sendTo_get (l := l2) (ns := ns.take i) hdk (by rw [hdn]; exact hnin)
              have hso := sendTo_len l2 (ns.take i) ds
              have hno2 : ((sendTo l2 (ns.take i) ds).map Pr.name).Nodup := by rw [sendTo_names]; exact hok.names
              obtain ⟨css2, hc2⟩ := hout
              obtain ⟨oa2, oc2, rfl⟩ := hc2.row.row.form
              refine TL.cons rfl (T1.callC (Ps := L2 ++ (Z ++ Ps)) has_49 rfl rfl (withG w0 (hc2.more (Inc.skip Inc.refl)) (by omega) k (by omega) (d1 := d.put l2) (cs1 := [.int .i64 (d.name : Nat), .slice oa d.offer.toList.length occ, .slice na d.once.length ncc, s2]) hpe) z_E (fun v_ Yw hv => ?_))
              rw [← setP_idx hno2 hgo (d' := d.put l2) rfl] at hv
              refine TL.cons rfl (V1.t (V1.assign' z_B) ?_)
              refine TL.nil ?_
              refine T.region ?_
              refine TL.cons rfl (V1.t (V1.move' z_B) ?_)
              refine TL.cons rfl (V1.t (V1.add (c := ((i + 1 : Nat) : Int)) rfl rfl (by rw [wrap_i64 _ (by omega) (by omega)]; omega)) ?_)
              refine TL.cons rfl (V1.t (V1.assign' z_B) ?_)
              refine TL.nil ?_
              exact ⟨(i + 1, v_, (Yw ++ L2) ++ Z), (Yw ++ (L2 ++ (Z ++ G))), _, (by simp only; omega), (.cons rfl (.cons rfl .nil)), (.cons rfl (.cons rfl (.cons rfl .nil))), z_A, ⟨by simp only [List.append_assoc], by simp only; omega, by simp only; rw [← hob, hdr, take_nat hy, sendBad_step hfp hnin hroom], by simp only; rw [take_nat hy, sendTo_snoc, hfo]; have h_ := hv; rw [← List.append_assoc, ← List.append_assoc] at h_; exact h_⟩⟩
            ·
              have hroom : d.room l2.length = false := decide_eq_false (by omega)
              refine T.region ?_
              refine TL.cons rfl (V1.t (V1.move' z_B) ?_)
              refine TL.cons rfl (V1.t (V1.move' z_B) ?_)
              refine TL.cons rfl (V1.t (V1.indexAddrS ty_49 sz_101 rfl rfl (by omega) (by omega)) ?_)
              refine TL.cons rfl (V1.t (V1.fieldAddr fl_101_3 rfl) ?_)
              refine TL.cons rfl (V1.t (V1.load1 one_99 rfl (hrd _ rfl rfl _ z_E 3 _ rfl)) ?_)
              refine TL.cons rfl (V1.t (V1.lenSl ty_99 rfl) ?_)
              refine TL.cons rfl (V1.t (V1.geI (r := true) rfl rfl (decide_eq_true (by omega))) ?_)
              refine TL.cons rfl (V1.t (V1.move' z_B) ?_)
              refine TL.no rfl ?_
              refine TL.no rfl ?_
              refine TL.no rfl ?_
              refine TL.no rfl ?_
              refine TL.no rfl ?_
              refine TL.no rfl ?_
              refine TL.no rfl ?_
              refine TL.no rfl ?_
              refine TL.no rfl ?_
              refine TL.cons rfl (V1.t (V1.pick rfl z_B) ?_)
              refine TL.nil ?_
              refine T.cond_t rfl ?_
              refine T.seq ?_
              refine T.live (l := [(0, _)]) (.cons z_B .nil) (fun e_ => ?_)
              refine T.region ?_
              refine TL.cons rfl (V1.t (V1.move' z_B) ?_)
              refine TL.cons rfl (V1.t (V1.assign' z_B) ?_)
              refine TL.cons rfl (V1.t (V1.assign' z_B) ?_)
              refine TL.nil ?_
              refine T.ret ?_
              exact ⟨_, G, _, .cons (.tmp z_B) (.cons (.tmp z_B) .nil), z_A, [], rfl, _, _, rfl, by rw [sendP_bad (e := 180) hfp0 henc (by rw [← hob, hdr]; exact sendBad_full hfp hnin hroom) (by decide)]; exact ⟨_, hc.more (Inc.skip Inc.refl)⟩, by rw [sendP_bad (e := 180) hfp0 henc (by rw [← hob, hdr]; exact sendBad_full hfp hnin hroom) (by decide)]⟩
      ·
        obtain rfl : i = ns.length := by omega
        rw [List.drop_length] at hob
        rw [List.take_length] at hout
        have hzero : sendBad ds l2.length [] ns = 0 := hob.symm
        refine TL.nil ?_
        refine T.cond_f rfl ?_
        refine T.exit ?_
        refine T.seq ?_
        refine T.region ?_
        refine TL.cons rfl (V1.t (V1.move' z_B) ?_)
        refine TL.cons rfl (V1.t (V1.assign' z_B) ?_)
        refine TL.cons rfl (V1.t (V1.assign' z_B) ?_)
        refine TL.nil ?_
        refine T.ret ?_
        exact ⟨_, Z ++ G, _, .cons (.tmp z_B) (.cons (.tmp z_B) .nil), z_A, Z, rfl, _, _, rfl, by rw [sendP_ok hfp0 henc hzero]; exact hout, by rw [sendP_ok hfp0 henc hzero]⟩

end Go.Proofs.Ytijijaobialncaa.S
