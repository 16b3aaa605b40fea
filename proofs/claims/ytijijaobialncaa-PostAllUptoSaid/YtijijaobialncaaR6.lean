/- One thing asked of both: the answers are the same. -/
import Derived.Test.YtijijaobialncaaR5
namespace Go.Proofs.Ytijijaobialncaa.S
open Go.RowKit

theorem fetchP_okf {ps : List Pr} (h : SrvOk ps) {n : Nat} {f : Frm} (hf : (fetchP ps n).2 = some f) : f.Wf ∧ f.Few := by
  cases hd : findP ps n with
  | none => rw [fetchP_none hd] at hf; cases hf
  | some d =>
    have hdo : d.Ok := h.each d (List.mem_of_find?_eq_some hd)
    rcases fetch_d d with ho | ⟨o, ho, hn⟩ | ⟨o, g, gs, ho, hn⟩
    · rw [fetchP_bare hd ho] at hf; cases hf
    · rw [fetchP_last hd ho hn] at hf; cases hf; exact hdo.offer _ ho
    · rw [fetchP_once hd ho hn] at hf; cases hf; exact hdo.once _ (by rw [hn]; exact List.mem_cons_self ..)
set_option maxRecDepth 100000 in
set_option maxHeartbeats 8000000 in
theorem askG (w0 : World) {p : Nat} {ps : List Pr} {X Ps : List Blk} (hS : SrvO p ps X) {la : Option Addr} {lc : Nat} {ds : List Pr} {css : List (List Value)} (hc : DocC w0 Ps (.slice la ds.length lc) ds css) (hal : Alike ps ds) {o : OpP} {ocs : List Value} (hop : OpR w0 o ocs) : FnG P 20 [.pointer (some ⟨p, 0, none⟩), .slice la ds.length lc, .agg ocs.toArray] w0 Ps X (fun v Y => ∃ (l1 : Value) (ps1 ds1 : List Pr) (Xs Ys : List Blk), Y = Xs ++ Ys ∧ v = .tuple #[l1, .bool true] ∧ SrvO p ps1 Xs ∧ DocR w0 (Ys ++ Ps) l1 ds1 ∧ Alike ps1 ds1) := by
  have hok := hS.ok
  have hokd := hal.ok hok
  have hdl : ds.length ≤ 100 := Nat.le_trans hokd.few (by decide)
  have hoo := hop.ones
  obtain ⟨vt, vd, vf, fcss, rfl, ht, hdt, hfs, hnm, hto, htl, hdl2, hfl⟩ := hop
  obtain ⟨ta, tc, rfl⟩ := ht.row.form
  obtain ⟨da, dc, rfl⟩ := hdt.row.form
  obtain ⟨fa, fc, rfl⟩ := hfs.row.row.form
  refine FnG.of 174 [.tmp 6, .tmp 7] Go.Proofs.Try.func20 rfl rfl rfl rfl (fun G hG => ?_)
  refine T.seq ?_
  refine T.region ?_
  refine TL.cons rfl (T1.boxN (vs := [.int .i64 o.kind, u32V o.name, .int .i64 o.n, .slice ta o.to.length tc, .slice da o.data.length dc, .slice fa o.frames.length fc]) 6 rfl rfl (fun b5 => ?_))
  refine TL.cons rfl (V1.t (V1.assign' z_B) ?_)
  refine TL.cons rfl (V1.t (V1.assign' z_B) ?_)
  refine TL.nil ?_
  refine T.seq ?_
  refine T.region ?_
  refine TL.cons rfl (V1.t (V1.assign' z_B) ?_)
  refine TL.cons rfl (V1.t (V1.assign' z_B) ?_)
  refine TL.nil ?_
  refine T.seq ?_
  refine T.region ?_
  refine TL.cons rfl (V1.t (V1.assign' z_B) ?_)
  refine TL.nil ?_
  refine T.seq ?_
  refine T.seq ?_
  refine T.region ?_
  refine TL.cons rfl (V1.t (V1.fieldAddr fl_51_0 rfl) ?_)
  refine TL.cons rfl (V1.t (V1.load1 (v := .int .i64 o.kind) one_3 rfl (.own (cells := [.int .i64 o.kind, u32V o.name, .int .i64 o.n, .slice ta o.to.length tc, .slice da o.data.length dc, .slice fa o.frames.length fc]) z_D (by rfl))) ?_)
  refine TL.nil ?_
  refine T.block ?_
  refine T.seq ?_
  refine T.region ?_
  refine TL.cons rfl (T1.eqI_split rfl rfl (fun h4_0 => ?_) (fun h4_0 => ?_))
  ·
    refine TL.cons rfl (V1.t (V1.assign' z_B) ?_)
    refine TL.nil ?_
    refine T.cond_t rfl ?_
    refine T.seq ?_
    refine T.region ?_
    refine TL.cons rfl (V1.t (V1.move' z_B) ?_)
    refine TL.cons rfl (V1.t (V1.fieldAddr fl_51_1 rfl) ?_)
    refine TL.cons rfl (V1.t (V1.load1 (v := u32V o.name) one_27 rfl (.own (cells := [.int .i64 o.kind, u32V o.name, .int .i64 o.n, .slice ta o.to.length tc, .slice da o.data.length dc, .slice fa o.frames.length fc]) z_D (by rfl))) ?_)
    refine TL.cons rfl (T1.callM («as» := [.pointer (some ⟨p, 0, none⟩), u32V o.name]) (X := X) has_10 rfl rfl (Join_any w0 hS o.name hnm) z_A z_E (fun v_ X1 hv => ?_))
    obtain ⟨rfl, hS1⟩ := hv
    refine TL.cons rfl (V1.t (V1.assign' z_B) ?_)
    refine TL.nil ?_
    refine T.live (l := [(1, _), (5, _), (8, _), (10, _)]) (.cons z_B (.cons z_B (.cons z_B (.cons z_B .nil)))) (fun e_ => ?_)
    refine T.region ?_
    refine TL.cons rfl (V1.t (V1.move' z_B) ?_)
    refine TL.cons rfl (V1.t (V1.fieldAddr fl_51_1 rfl) ?_)
    refine TL.cons rfl (V1.t (V1.load1 (v := u32V o.name) one_27 rfl (.own (cells := [.int .i64 o.kind, u32V o.name, .int .i64 o.n, .slice ta o.to.length tc, .slice da o.data.length dc, .slice fa o.frames.length fc]) z_D (by rfl))) ?_)
    refine TL.cons rfl (V1.t (V1.conv (c := ((o.name : Nat) : Int)) ty_27 ty_3 rfl (wrap_i64 _ (by omega) (by omega))) ?_)
    refine TL.cons rfl (T1.callC (Ps := Ps) has_34 rfl rfl (JoinG w0 hc hdl o.name) z_E (fun v_ Yd hv => ?_))
    obtain ⟨l1, ds1, c, rfl, hd1, hj⟩ := hv
    obtain ⟨hal1, hcc⟩ := hal.join hok hj
    subst hcc
    refine TL.cons rfl (V1.t (V1.move' z_B) ?_)
    refine TL.cons rfl (V1.t (V1.extract rfl (by rfl)) ?_)
    refine TL.cons rfl (V1.t (V1.extract rfl (by rfl)) ?_)
    refine TL.cons rfl (V1.t (V1.assign' z_B) ?_)
    refine TL.cons rfl (V1.t (V1.assign' z_B) ?_)
    refine TL.nil ?_
    refine T.seq ?_
    refine T.region ?_
    refine TL.cons rfl (V1.t (V1.move' z_B) ?_)
    refine TL.cons rfl (V1.t (V1.move' z_B) ?_)
    refine TL.cons rfl (V1.t (V1.move' z_B) ?_)
    refine TL.cons rfl (V1.t (V1.move' z_B) ?_)
    refine TL.cons rfl (V1.t (V1.move' z_B) ?_)
    refine TL.cons rfl (V1.t (V1.eqI (r := true) rfl rfl (decide_eq_true (by first | rfl | exact hcc.symm | exact hcc))) ?_)
    refine TL.cons rfl (V1.t (V1.pick rfl z_B) ?_)
    refine TL.cons rfl (V1.t (V1.assign' z_B) ?_)
    refine TL.cons rfl (V1.t (V1.assign' z_B) ?_)
    refine TL.nil ?_
    refine T.ret ?_
    first
      | exact ⟨_, X1 ++ (Yd ++ G), _, .cons (.tmp z_B) (.cons (.tmp z_B) .nil), by (try simp only [List.append_assoc, List.nil_append]); exact z_A, X1 ++ Yd, (by simp only [List.append_assoc, List.nil_append]), _, _, _, X1, Yd, rfl, rfl, hS1, hd1, hal1⟩
      | exact ⟨_, X1 ++ ((Yw ++ Ls) ++ G), _, .cons (.tmp z_B) (.cons (.tmp z_B) .nil), by (try simp only [List.append_assoc, List.nil_append]); exact z_A, X1 ++ (Yw ++ Ls), (by simp only [List.append_assoc, List.nil_append]), _, _, _, X1, (Yw ++ Ls), rfl, rfl, hS1, hd1.up, hal1⟩
      | exact ⟨_, X ++ (([] : List Blk) ++ G), _, .cons (.tmp z_B) (.cons (.tmp z_B) .nil), by (try simp only [List.append_assoc, List.nil_append]); exact z_A, X ++ ([] : List Blk), (by simp only [List.append_assoc, List.nil_append]), _, _, _, X, ([] : List Blk), rfl, rfl, hS, ⟨_, hc.more (Inc.skip Inc.refl)⟩, hal⟩
  ·
    refine TL.cons rfl (V1.t (V1.assign' z_B) ?_)
    refine TL.nil ?_
    refine T.cond_f rfl ?_
    refine T.seq ?_
    refine T.region ?_
    refine TL.cons rfl (T1.eqI_split rfl rfl (fun h7_0 => ?_) (fun h7_0 => ?_))
    ·
      refine TL.cons rfl (V1.t (V1.assign' z_B) ?_)
      refine TL.nil ?_
      refine T.cond_t rfl ?_
      refine T.seq ?_
      refine T.region ?_
      refine TL.cons rfl (V1.t (V1.fieldAddr fl_51_5 rfl) ?_)
      refine TL.cons rfl (V1.t (V1.load1 (v := .slice fa o.frames.length fc) one_42 rfl (.own (cells := [.int .i64 o.kind, u32V o.name, .int .i64 o.n, .slice ta o.to.length tc, .slice da o.data.length dc, .slice fa o.frames.length fc]) z_D (by rfl))) ?_)
      refine TL.cons rfl (V1.t (V1.lenSl ty_42 rfl) ?_)
      refine TL.cons rfl (T1.gtI_split rfl rfl (fun h8 => ?_) (fun h8 => ?_))
      ·
        obtain ⟨f0, fs0, hfe⟩ : ∃ f0 fs0, o.frames = f0 :: fs0 := by cases h_ : o.frames with | nil => rw [h_] at h8; simp at h8 | cons a b => exact ⟨a, b, rfl⟩
        have hfs0 := hfs
        rw [hfe] at hfs0
        obtain ⟨fb, fo, cs0, rfl, hcs0, hf0, hf05, hf01, hrf⟩ := hfs0.at (f := f0) (i := 0) rfl
        obtain ⟨cs0', css0, hcq, hft⟩ := hfs0.tail
        obtain ⟨ta2, tc2, htv⟩ := sliceV_form hfs0.row (l := 1) (h := (f0 :: fs0).length) (by simp) (Nat.le_refl _)
        have hfl0 : (f0 :: fs0).length - 1 = fs0.length := rfl
        rw [hfl0, ← hfe] at htv
        have hft2 := hft
        rw [← hfe] at hft2
        have hfl1 : fs0.length ≤ 1100000 := by rw [hfe, List.length_cons] at hfl; omega
        have hft3 := hft2
        rw [htv] at hft3
        refine TL.nil ?_
        refine T.cond_t rfl ?_
        refine T.seq ?_
        refine T.live (l := [(0, _), (1, _), (5, _), (10, _)]) (.cons z_B (.cons z_B (.cons z_B (.cons z_B .nil)))) (fun e_ => ?_)
        refine T.drawTail 10 mixed z_F (by rfl) z_F rfl ?_
        refine Det.cons 0 (ins := [(0, _)]) (.old z_B z_F .nil) (fun e_ => .inl ⟨rfl, V1.t (V1.move' z_B) ⟨rfl, rfl⟩⟩) ?_
        refine Det.cons 1 (ins := [(5, _)]) (.old z_B z_F .nil) (fun e_ => .inl ⟨rfl, V1.t (V1.fieldAddr fl_51_1 rfl) ⟨rfl, rfl⟩⟩) ?_
        refine Det.cons 2 (ins := [(41, _)]) (.new 1 0 z_F rfl rfl .nil) (fun e_ => .inl ⟨rfl, V1.t (V1.load1 (v := u32V o.name) one_27 rfl (.own (cells := [.int .i64 o.kind, u32V o.name, .int .i64 o.n, .slice ta o.to.length tc, .slice da o.data.length dc, .slice (some ⟨fb, fo, none⟩) o.frames.length fc]) z_D (by rfl))) ⟨rfl, rfl⟩⟩) ?_
        refine Det.cons 3 (ins := [(5, _)]) (.old z_B z_F .nil) (fun e_ => .inl ⟨rfl, V1.t (V1.fieldAddr fl_51_5 rfl) ⟨rfl, rfl⟩⟩) ?_
        refine Det.cons 4 (ins := [(43, _)]) (.new 3 0 z_F rfl rfl .nil) (fun e_ => .inl ⟨rfl, V1.t (V1.load1 (v := .slice (some ⟨fb, fo, none⟩) o.frames.length fc) one_42 rfl (.own (cells := [.int .i64 o.kind, u32V o.name, .int .i64 o.n, .slice ta o.to.length tc, .slice da o.data.length dc, .slice (some ⟨fb, fo, none⟩) o.frames.length fc]) z_D (by rfl))) ⟨rfl, rfl⟩⟩) ?_
        refine Det.cons 5 (ins := [(44, _)]) (.new 4 0 z_F rfl rfl .nil) (fun e_ => .inl ⟨rfl, V1.t (V1.indexAddrS ty_42 sz_39 rfl rfl (by decide) (by omega)) ⟨rfl, rfl⟩⟩) ?_
        refine Det.cons 6 (ins := [(45, _)]) (.new 5 0 z_F rfl rfl .nil) (fun e_ => .inl ⟨rfl, V1.t (V1.loadN (vs := cs0) one_39 sz_39 rfl (hrf _ rfl rfl _ Inc.nil) hf05) ⟨rfl, rfl⟩⟩) ?_
        refine Det.cons 7 (ins := [(5, _)]) (.old z_B z_F .nil) (fun e_ => .inl ⟨rfl, V1.t (V1.fieldAddr fl_51_5 rfl) ⟨rfl, rfl⟩⟩) ?_
        refine Det.cons 8 (ins := [(47, _)]) (.new 7 0 z_F rfl rfl .nil) (fun e_ => .inl ⟨rfl, V1.t (V1.load1 (v := .slice (some ⟨fb, fo, none⟩) o.frames.length fc) one_42 rfl (.own (cells := [.int .i64 o.kind, u32V o.name, .int .i64 o.n, .slice ta o.to.length tc, .slice da o.data.length dc, .slice (some ⟨fb, fo, none⟩) o.frames.length fc]) z_D (by rfl))) ⟨rfl, rfl⟩⟩) ?_
        refine Det.cons 9 (ins := [(48, _)]) (.new 8 0 z_F rfl rfl .nil) (fun e_ => .inl ⟨rfl, V1.t (V1.sliceRow ty_42 sz_39 rfl hfs.row 1 o.frames.length rfl rfl (by omega) (Nat.le_refl _)) ⟨rfl, rfl⟩⟩) ?_
        refine Det.nil 10 (l := [(1, _), (5, _), (10, _), (40, _), (42, _), (46, _), (49, _)]) (.old z_B z_F (.old z_B z_F (.old z_B z_F (.new 0 9 z_F rfl rfl (.new 2 7 z_F rfl rfl (.new 6 3 z_F rfl rfl (.new 9 0 z_F rfl rfl .nil))))))) (fun e_ => ?_)
        refine (show TU _ _ _ 2 _ _ _ from ?_)
        refine TU.one 10 z_F rfl rfl (T1.callM («as» := [.pointer (some ⟨p, 0, none⟩), u32V o.name, .agg cs0.toArray, (sliceV (some ⟨fb, fo, none⟩) fc 5 1 o.frames.length)]) (X := X) has_16 rfl rfl (Publish_any w0 [] hS o.name (co := cs0) (o := f0) hf0.toR (fs := fs0) (css := css0) hft2.toR (by omega)) z_A z_E (fun v_ X1 hv => ?_))
        obtain ⟨rfl, hS1⟩ := hv
        refine TU.one 11 z_F rfl rfl (V1.t (V1.assign' z_B) ?_)
        refine TU.done z_F ?_
        refine T.drawZ (fun L_ => Find L_ (⟨b5, 0, [.int .i64 o.kind, u32V o.name, .int .i64 o.n, .slice ta o.to.length tc, .slice da o.data.length dc, .slice (some ⟨fb, fo, none⟩) o.frames.length fc], 6⟩ : Blk)) 15 mixed z_D ?_
        refine TZ.pure 0 rfl z_F z_F z_F z_F rfl (fun _ _ _ h => h) (fun _ => V1.move' z_B) ?_
        refine TZ.pure 1 rfl z_F z_F z_F z_F rfl (fun _ _ _ h => h) (fun _ => V1.fieldAddr fl_51_1 rfl) ?_
        refine TZ.pure 4 rfl z_F z_F z_F z_F rfl (fun _ _ _ h => h) (fun _ => V1.fieldAddr fl_51_5 rfl) ?_
        refine TZ.pure 8 rfl z_F z_F z_F z_F rfl (fun _ _ _ h => h) (fun _ => V1.fieldAddr fl_51_5 rfl) ?_
        refine TZ.read 2 rfl z_F z_F z_F z_F rfl (fun _ _ _ h => h) (fun L_ k1_ => V1.load1 (v := u32V o.name) one_27 rfl (.own (cells := [.int .i64 o.kind, u32V o.name, .int .i64 o.n, .slice ta o.to.length tc, .slice da o.data.length dc, .slice (some ⟨fb, fo, none⟩) o.frames.length fc]) z_D (by rfl))) ?_
        refine TZ.pure 3 rfl z_F z_F z_F z_F rfl (fun _ _ _ h => h) (fun _ => V1.conv (c := ((o.name : Nat) : Int)) ty_27 ty_3 rfl (wrap_i64 _ (by omega) (by omega))) ?_
        refine TZ.read 5 rfl z_F z_F z_F z_F rfl (fun _ _ _ h => h) (fun L_ k1_ => V1.load1 (v := .slice (some ⟨fb, fo, none⟩) o.frames.length fc) one_42 rfl (.own (cells := [.int .i64 o.kind, u32V o.name, .int .i64 o.n, .slice ta o.to.length tc, .slice da o.data.length dc, .slice (some ⟨fb, fo, none⟩) o.frames.length fc]) z_D (by rfl))) ?_
        refine TZ.pure 6 rfl z_F z_F z_F z_F rfl (fun _ _ _ h => h) (fun _ => V1.indexAddrS ty_42 sz_39 rfl rfl (by decide) (by omega)) ?_
        refine TZ.read 7 rfl z_F z_F z_F z_F rfl (fun _ _ _ h => h) (fun L_ k1_ => V1.loadN (vs := cs0) one_39 sz_39 rfl (hrf _ rfl rfl _ Inc.nil) hf05) ?_
        refine TZ.read 9 rfl z_F z_F z_F z_F rfl (fun _ _ _ h => h) (fun L_ k1_ => V1.load1 (v := .slice (some ⟨fb, fo, none⟩) o.frames.length fc) one_42 rfl (.own (cells := [.int .i64 o.kind, u32V o.name, .int .i64 o.n, .slice ta o.to.length tc, .slice da o.data.length dc, .slice (some ⟨fb, fo, none⟩) o.frames.length fc]) z_D (by rfl))) ?_
        refine TZ.pure 10 rfl z_F z_F z_F z_F rfl (fun _ _ _ h => h) (fun _ => V1.sliceRow ty_42 sz_39 rfl hfs.row 1 o.frames.length rfl rfl (by omega) (Nat.le_refl _)) ?_
        rw [htv]
        refine TZ.oneS 11 z_F rfl rfl (T1.callC (Ps := Ps) has_35 rfl rfl (PublishG w0 hc hdl hokd o.name (co := cs0) (o := f0) (hf0.more Inc.nil) (fs := fs0) (hft3.more Inc.nil) (by omega)) z_E (fun v_ Yd hv => ?_))
        obtain ⟨l1, c, rfl, hd1, rfl⟩ := hv
        obtain ⟨hal1, hcc⟩ := hal.pub hok o.name f0 fs0
        refine ⟨z_D, ?_⟩
        refine TZ.pure 12 rfl z_F z_F z_F z_F rfl (fun _ _ _ h => h) (fun _ => V1.move' z_B) ?_
        refine TZ.pure 13 rfl z_F z_F z_F z_F rfl (fun _ _ _ h => h) (fun _ => V1.extract rfl (by rfl)) ?_
        refine TZ.pure 14 rfl z_F z_F z_F z_F rfl (fun _ _ _ h => h) (fun _ => V1.extract rfl (by rfl)) ?_
        refine TZ.one 15 z_F rfl z_F rfl (V1.t (V1.assign' z_B) ?_)
        refine TZ.pure 16 rfl z_F z_F z_F z_F rfl (fun _ _ _ h => h) (fun _ => V1.assign' z_B) ?_
        refine TZ.done z_F ?_
        refine T.seq ?_
        refine T.live (l := [(1, _), (8, _), (9, _), (10, _)]) (.cons z_B (.cons z_B (.cons z_B (.cons z_B .nil)))) (fun e_ => ?_)
        refine T.region ?_
        refine TL.cons rfl (V1.t (V1.move' z_B) ?_)
        refine TL.cons rfl (V1.t (V1.move' z_B) ?_)
        refine TL.cons rfl (V1.t (V1.move' z_B) ?_)
        refine TL.cons rfl (V1.t (V1.move' z_B) ?_)
        refine TL.cons rfl (V1.t (V1.move' z_B) ?_)
        refine TL.cons rfl (V1.t (V1.eqI (r := true) rfl rfl (decide_eq_true (by first | rfl | exact hcc.symm | exact hcc))) ?_)
        refine TL.cons rfl (V1.t (V1.pick rfl z_B) ?_)
        refine TL.cons rfl (V1.t (V1.assign' z_B) ?_)
        refine TL.cons rfl (V1.t (V1.assign' z_B) ?_)
        refine TL.nil ?_
        refine T.ret ?_
        first
          | exact ⟨_, X1 ++ (Yd ++ G), _, .cons (.tmp z_B) (.cons (.tmp z_B) .nil), by (try simp only [List.append_assoc, List.nil_append]); exact z_A, X1 ++ Yd, (by simp only [List.append_assoc, List.nil_append]), _, _, _, X1, Yd, rfl, rfl, hS1, hd1, hal1⟩
          | exact ⟨_, X1 ++ ((Yw ++ Ls) ++ G), _, .cons (.tmp z_B) (.cons (.tmp z_B) .nil), by (try simp only [List.append_assoc, List.nil_append]); exact z_A, X1 ++ (Yw ++ Ls), (by simp only [List.append_assoc, List.nil_append]), _, _, _, X1, (Yw ++ Ls), rfl, rfl, hS1, hd1.up, hal1⟩
          | exact ⟨_, X ++ (([] : List Blk) ++ G), _, .cons (.tmp z_B) (.cons (.tmp z_B) .nil), by (try simp only [List.append_assoc, List.nil_append]); exact z_A, X ++ ([] : List Blk), (by simp only [List.append_assoc, List.nil_append]), _, _, _, X, ([] : List Blk), rfl, rfl, hS, ⟨_, hc.more (Inc.skip Inc.refl)⟩, hal⟩
      ·
        refine TL.nil ?_
        refine T.cond_f rfl ?_
        refine T.skip ?_
        refine T.seq ?_
        refine T.live (l := [(1, _), (8, _), (9, _), (10, _)]) (.cons z_B (.cons z_B (.cons z_B (.cons z_B .nil)))) (fun e_ => ?_)
        refine T.region ?_
        refine TL.cons rfl (V1.t (V1.move' z_B) ?_)
        refine TL.cons rfl (V1.t (V1.move' z_B) ?_)
        refine TL.cons rfl (V1.t (V1.move' z_B) ?_)
        refine TL.cons rfl (V1.t (V1.move' z_B) ?_)
        refine TL.cons rfl (V1.t (V1.move' z_B) ?_)
        refine TL.cons rfl (V1.t (V1.eqI (r := true) rfl rfl (decide_eq_true (by first | rfl | exact hcc.symm | exact hcc))) ?_)
        refine TL.cons rfl (V1.t (V1.pick rfl z_B) ?_)
        refine TL.cons rfl (V1.t (V1.assign' z_B) ?_)
        refine TL.cons rfl (V1.t (V1.assign' z_B) ?_)
        refine TL.nil ?_
        refine T.ret ?_
        first
          | exact ⟨_, X1 ++ (Yd ++ G), _, .cons (.tmp z_B) (.cons (.tmp z_B) .nil), by (try simp only [List.append_assoc, List.nil_append]); exact z_A, X1 ++ Yd, (by simp only [List.append_assoc, List.nil_append]), _, _, _, X1, Yd, rfl, rfl, hS1, hd1, hal1⟩
          | exact ⟨_, X1 ++ ((Yw ++ Ls) ++ G), _, .cons (.tmp z_B) (.cons (.tmp z_B) .nil), by (try simp only [List.append_assoc, List.nil_append]); exact z_A, X1 ++ (Yw ++ Ls), (by simp only [List.append_assoc, List.nil_append]), _, _, _, X1, (Yw ++ Ls), rfl, rfl, hS1, hd1.up, hal1⟩
          | exact ⟨_, X ++ (([] : List Blk) ++ G), _, .cons (.tmp z_B) (.cons (.tmp z_B) .nil), by (try simp only [List.append_assoc, List.nil_append]); exact z_A, X ++ ([] : List Blk), (by simp only [List.append_assoc, List.nil_append]), _, _, _, X, ([] : List Blk), rfl, rfl, hS, ⟨_, hc.more (Inc.skip Inc.refl)⟩, hal⟩
    ·
      refine TL.cons rfl (V1.t (V1.assign' z_B) ?_)
      refine TL.nil ?_
      refine T.cond_f rfl ?_
      refine T.seq ?_
      refine T.region ?_
      refine TL.cons rfl (T1.eqI_split rfl rfl (fun h11_0 => ?_) (fun h11_0 => ?_))
      ·
        refine TL.cons rfl (V1.t (V1.assign' z_B) ?_)
        refine TL.nil ?_
        refine T.cond_t rfl ?_
        refine T.seq ?_
        refine T.region ?_
        refine TL.cons rfl (T1.allocN 5 zr_39 rfl (fun b11 => ?_))
        refine TL.cons rfl (T1.allocN 5 zr_39 rfl (fun b12 => ?_))
        refine TL.nil ?_
        refine T.seq ?_
        refine T.live (l := [(0, _), (1, _), (5, _), (11, _), (12, _)]) (.cons z_B (.cons z_B (.cons z_B (.cons z_B (.cons z_B .nil))))) (fun e_ => ?_)
        refine T.region ?_
        refine TL.cons rfl (V1.t (V1.move' z_B) ?_)
        refine TL.cons rfl (V1.t (V1.fieldAddr fl_51_1 rfl) ?_)
        refine TL.cons rfl (V1.t (V1.load1 (v := u32V o.name) one_27 rfl (.own (cells := [.int .i64 o.kind, u32V o.name, .int .i64 o.n, .slice ta o.to.length tc, .slice da o.data.length dc, .slice fa o.frames.length fc]) z_D (by rfl))) ?_)
        refine TL.cons rfl (T1.callM («as» := [.pointer (some ⟨p, 0, none⟩), u32V o.name]) (X := X) has_18 rfl rfl (Fetch_any w0 hS o.name) z_A z_E (fun v_ Yt hv => ?_))
        obtain ⟨Yf, X1, rfl, hS1, hT⟩ := hv
        rcases hfe : (fetchP ps o.name).2 with _ | f1 <;> rw [hfe] at hT
        ·
          obtain ⟨rfl, rfl⟩ := hT
          simp only [List.nil_append]
          refine TL.cons rfl (V1.t (V1.move' z_B) ?_)
          refine TL.cons rfl (V1.t (V1.extract rfl (by rfl)) ?_)
          refine TL.cons rfl (V1.t (V1.extract rfl (by rfl)) ?_)
          refine TL.cons rfl (T1.storeN (vs := zeroC) rfl rfl sz_39 (ones rfl) z_H (by rfl) (by rfl) ?_)
          refine TL.cons rfl (V1.t (V1.assign' z_B) ?_)
          refine TL.nil ?_
          refine T.seq ?_
          refine T.region ?_
          refine TL.cons rfl (V1.t (V1.move' z_B) ?_)
          refine TL.cons rfl (V1.t (V1.fieldAddr fl_51_1 rfl) ?_)
          refine TL.cons rfl (V1.t (V1.load1 (v := u32V o.name) one_27 rfl (.own (cells := [.int .i64 o.kind, u32V o.name, .int .i64 o.n, .slice ta o.to.length tc, .slice da o.data.length dc, .slice fa o.frames.length fc]) z_D (by rfl))) ?_)
          refine TL.cons rfl (V1.t (V1.conv (c := ((o.name : Nat) : Int)) ty_27 ty_3 rfl (wrap_i64 _ (by omega) (by omega))) ?_)
          refine TL.cons rfl (T1.callC (Ps := Ps) has_36 rfl rfl (FetchG w0 hc hdl hokd o.name) z_E (fun v_ Yd hv => ?_))
          obtain ⟨l1, cs2, rfl, hd1, hw⟩ := hv
          obtain ⟨hal1, hcc⟩ := hal.fetch hok o.name
          rw [hcc, hfe] at hw
          rw [hcc, hfe]
          have hw2 := hw.toR.cells2
          refine TL.cons rfl (V1.t (V1.move' z_B) ?_)
          refine TL.cons rfl (V1.t (V1.extract rfl (by rfl)) ?_)
          refine TL.cons rfl (V1.t (V1.extract rfl (by rfl)) ?_)
          refine TL.cons rfl (V1.t (V1.extract rfl (by rfl)) ?_)
          refine TL.cons rfl (V1.t (V1.assign' z_B) ?_)
          refine TL.cons rfl (T1.storeN (vs := cs2) rfl rfl sz_39 hw2.2.1 z_H (by rw [hw2.1]; rfl) hw2.1 ?_)
          refine TL.cons rfl (V1.t (V1.assign' z_B) ?_)
          refine TL.nil ?_
          refine T.live (l := [(1, _), (8, _), (9, _), (11, _), (12, _)]) (.cons z_B (.cons z_B (.cons z_B (.cons z_B (.cons z_B .nil))))) (fun e_ => ?_)
          refine T.region ?_
          refine TL.cons rfl (V1.t (V1.loadN (vs := zeroC) one_39 sz_39 rfl (RdN.whole z_D) (by rfl)) ?_)
          refine TL.cons rfl (V1.t (V1.loadN (vs := cs2) one_39 sz_39 rfl (RdN.whole z_D) hw2.1) ?_)
          refine TL.cons rfl (T1.callV (Ps := Yd ++ Ps) has_24 rfl rfl (Same_G w0 zeroF_is hw) z_E (fun v_ hv => ?_))
          obtain ⟨r, rfl, hr⟩ := hv
          obtain rfl : r = true := hr.2 rfl
          refine TL.cons rfl (V1.t (V1.assign' z_B) ?_)
          refine TL.nil ?_
          refine T.seq ?_
          refine T.region ?_
          refine TL.cons rfl (V1.t (V1.move' z_B) ?_)
          refine TL.cons rfl (V1.t (V1.move' z_B) ?_)
          refine TL.cons rfl (V1.t (V1.move' z_B) ?_)
          refine TL.cons rfl (V1.t (V1.move' z_B) ?_)
          refine TL.cons rfl (V1.t (V1.move' z_B) ?_)
          refine TL.cons rfl (V1.t (V1.eqI (r := true) rfl rfl (decide_eq_true (by first | rfl | exact hcc.symm | exact hcc))) ?_)
          refine TL.cons rfl (V1.t (V1.pick rfl z_B) ?_)
          refine TL.cons rfl (V1.t (V1.assign' z_B) ?_)
          refine TL.cons rfl (V1.t (V1.assign' z_B) ?_)
          refine TL.nil ?_
          refine T.ret ?_
          first
            | exact ⟨_, X1 ++ (Yd ++ G), _, .cons (.tmp z_B) (.cons (.tmp z_B) .nil), by (try simp only [List.append_assoc, List.nil_append]); exact z_A, X1 ++ Yd, (by simp only [List.append_assoc, List.nil_append]), _, _, _, X1, Yd, rfl, rfl, hS1, hd1, hal1⟩
            | exact ⟨_, X1 ++ ((Yw ++ Ls) ++ G), _, .cons (.tmp z_B) (.cons (.tmp z_B) .nil), by (try simp only [List.append_assoc, List.nil_append]); exact z_A, X1 ++ (Yw ++ Ls), (by simp only [List.append_assoc, List.nil_append]), _, _, _, X1, (Yw ++ Ls), rfl, rfl, hS1, hd1.up, hal1⟩
            | exact ⟨_, X ++ (([] : List Blk) ++ G), _, .cons (.tmp z_B) (.cons (.tmp z_B) .nil), by (try simp only [List.append_assoc, List.nil_append]); exact z_A, X ++ ([] : List Blk), (by simp only [List.append_assoc, List.nil_append]), _, _, _, X, ([] : List Blk), rfl, rfl, hS, ⟨_, hc.more (Inc.skip Inc.refl)⟩, hal⟩
        ·
          obtain ⟨cg, rfl, hg⟩ := hT
          obtain ⟨hwf, hfw⟩ := fetchP_okf hok hfe
          simp only [List.append_assoc]
          refine TL.cons rfl (V1.t (V1.move' z_B) ?_)
          refine TL.cons rfl (V1.t (V1.extract rfl (by rfl)) ?_)
          refine TL.cons rfl (V1.t (V1.extract rfl (by rfl)) ?_)
          refine TL.cons rfl (T1.storeN (vs := cg) rfl rfl sz_39 hg.one z_H (by rw [hg.len]; rfl) hg.len ?_)
          refine TL.cons rfl (V1.t (V1.assign' z_B) ?_)
          refine TL.nil ?_
          refine T.seq ?_
          refine T.region ?_
          refine TL.cons rfl (V1.t (V1.move' z_B) ?_)
          refine TL.cons rfl (V1.t (V1.fieldAddr fl_51_1 rfl) ?_)
          refine TL.cons rfl (V1.t (V1.load1 (v := u32V o.name) one_27 rfl (.own (cells := [.int .i64 o.kind, u32V o.name, .int .i64 o.n, .slice ta o.to.length tc, .slice da o.data.length dc, .slice fa o.frames.length fc]) z_D (by rfl))) ?_)
          refine TL.cons rfl (V1.t (V1.conv (c := ((o.name : Nat) : Int)) ty_27 ty_3 rfl (wrap_i64 _ (by omega) (by omega))) ?_)
          refine TL.cons rfl (T1.callC (Ps := Ps) has_36 rfl rfl (FetchG w0 hc hdl hokd o.name) z_E (fun v_ Yd hv => ?_))
          obtain ⟨l1, cs2, rfl, hd1, hw⟩ := hv
          obtain ⟨hal1, hcc⟩ := hal.fetch hok o.name
          rw [hcc, hfe] at hw
          rw [hcc, hfe]
          have hw2 := hw.toR.cells2
          refine TL.cons rfl (V1.t (V1.move' z_B) ?_)
          refine TL.cons rfl (V1.t (V1.extract rfl (by rfl)) ?_)
          refine TL.cons rfl (V1.t (V1.extract rfl (by rfl)) ?_)
          refine TL.cons rfl (V1.t (V1.extract rfl (by rfl)) ?_)
          refine TL.cons rfl (V1.t (V1.assign' z_B) ?_)
          refine TL.cons rfl (T1.storeN (vs := cs2) rfl rfl sz_39 hw2.2.1 z_H (by rw [hw2.1]; rfl) hw2.1 ?_)
          refine TL.cons rfl (V1.t (V1.assign' z_B) ?_)
          refine TL.nil ?_
          refine T.live (l := [(1, _), (8, _), (9, _), (11, _), (12, _)]) (.cons z_B (.cons z_B (.cons z_B (.cons z_B (.cons z_B .nil))))) (fun e_ => ?_)
          refine T.region ?_
          refine TL.cons rfl (V1.t (V1.loadN (vs := cg) one_39 sz_39 rfl (RdN.whole z_D) hg.len) ?_)
          refine TL.cons rfl (V1.t (V1.loadN (vs := cs2) one_39 sz_39 rfl (RdN.whole z_D) hw2.1) ?_)
          refine TL.cons rfl (T1.callV (Ps := Yf ++ (Yd ++ Ps)) has_24 rfl rfl (Same_G w0 (hg.readS hwf hfw Inc.here) (hw.more (Inc.skip Inc.refl))) z_E (fun v_ hv => ?_))
          obtain ⟨r, rfl, hr⟩ := hv
          obtain rfl : r = true := hr.2 rfl
          refine TL.cons rfl (V1.t (V1.assign' z_B) ?_)
          refine TL.nil ?_
          refine T.seq ?_
          refine T.region ?_
          refine TL.cons rfl (V1.t (V1.move' z_B) ?_)
          refine TL.cons rfl (V1.t (V1.move' z_B) ?_)
          refine TL.cons rfl (V1.t (V1.move' z_B) ?_)
          refine TL.cons rfl (V1.t (V1.move' z_B) ?_)
          refine TL.cons rfl (V1.t (V1.move' z_B) ?_)
          refine TL.cons rfl (V1.t (V1.eqI (r := true) rfl rfl (decide_eq_true (by first | rfl | exact hcc.symm | exact hcc))) ?_)
          refine TL.cons rfl (V1.t (V1.pick rfl z_B) ?_)
          refine TL.cons rfl (V1.t (V1.assign' z_B) ?_)
          refine TL.cons rfl (V1.t (V1.assign' z_B) ?_)
          refine TL.nil ?_
          refine T.ret ?_
          first
            | exact ⟨_, X1 ++ (Yd ++ G), _, .cons (.tmp z_B) (.cons (.tmp z_B) .nil), by (try simp only [List.append_assoc, List.nil_append]); exact z_A, X1 ++ Yd, (by simp only [List.append_assoc, List.nil_append]), _, _, _, X1, Yd, rfl, rfl, hS1, hd1, hal1⟩
            | exact ⟨_, X1 ++ ((Yw ++ Ls) ++ G), _, .cons (.tmp z_B) (.cons (.tmp z_B) .nil), by (try simp only [List.append_assoc, List.nil_append]); exact z_A, X1 ++ (Yw ++ Ls), (by simp only [List.append_assoc, List.nil_append]), _, _, _, X1, (Yw ++ Ls), rfl, rfl, hS1, hd1.up, hal1⟩
            | exact ⟨_, X ++ (([] : List Blk) ++ G), _, .cons (.tmp z_B) (.cons (.tmp z_B) .nil), by (try simp only [List.append_assoc, List.nil_append]); exact z_A, X ++ ([] : List Blk), (by simp only [List.append_assoc, List.nil_append]), _, _, _, X, ([] : List Blk), rfl, rfl, hS, ⟨_, hc.more (Inc.skip Inc.refl)⟩, hal⟩
      ·
        refine TL.cons rfl (V1.t (V1.assign' z_B) ?_)
        refine TL.nil ?_
        refine T.cond_f rfl ?_
        refine T.seq ?_
        refine T.region ?_
        refine TL.cons rfl (T1.eqI_split rfl rfl (fun h16_0 => ?_) (fun h16_0 => ?_))
        ·
          refine TL.cons rfl (V1.t (V1.assign' z_B) ?_)
          refine TL.nil ?_
          refine T.cond_t rfl ?_
          refine T.seq ?_
          refine T.live (l := [(0, _), (1, _), (5, _), (10, _)]) (.cons z_B (.cons z_B (.cons z_B (.cons z_B .nil)))) (fun e_ => ?_)
          refine T.region ?_
          refine TL.cons rfl (V1.t (V1.assign' z_B) ?_)
          refine TL.nil ?_
          refine T.seq ?_
          refine T.seq ?_
          refine T.region ?_
          refine TL.cons rfl (V1.t (V1.fieldAddr fl_51_3 rfl) ?_)
          refine TL.cons rfl (V1.t (V1.load1 (v := .slice ta o.to.length tc) one_36 rfl (.own (cells := [.int .i64 o.kind, u32V o.name, .int .i64 o.n, .slice ta o.to.length tc, .slice da o.data.length dc, .slice fa o.frames.length fc]) z_D (by rfl))) ?_)
          refine TL.cons rfl (V1.t (V1.lenSl ty_36 rfl) ?_)
          refine TL.cons rfl (V1.t (V1.move' z_B) ?_)
          refine TL.nil ?_
          refine T.block ?_
          refine T.loopL (σ := Nat × Value × List Blk) (l0 := [(0, _), (1, _), (5, _), (10, _), (90, _), (91, _)]) (fun x => [(13, x.2.1), (92, .int .i64 ((x.1 : Nat) : Int))]) (fun x L => L = x.2.2 ++ ((⟨b5, 0, [.int .i64 o.kind, u32V o.name, .int .i64 o.n, .slice ta o.to.length tc, .slice da o.data.length dc, .slice fa o.frames.length fc], 6⟩ : Blk) :: (X ++ G)) ∧ x.1 ≤ o.to.length ∧ Sl x.2.1 ((o.to.take x.1).map fun x => (.int .i64 ((x : Nat) : Int) : Value)) 1 x.2.2) (fun x => o.to.length - x.1) (0, .slice none 0 0, []) (.cons rfl (.cons rfl .nil)) (.cons z_B (.cons z_B (.cons z_B (.cons z_B (.cons z_B (.cons z_B .nil)))))) z_A (⟨rfl, Nat.zero_le _, Sl.nil⟩) ?_
          rintro ⟨i, s1, Ls⟩ e_ L ⟨rfl, hi, hs1⟩
          dsimp only at hi hs1
          dsimp only
          refine T.seq ?_
          refine T.region ?_
          refine TL.cons rfl (T1.ltI_split rfl rfl (fun h19 => ?_) (fun h19 => ?_))
          ·
            obtain ⟨y, hy⟩ : ∃ y, o.to[i]? = some y := ⟨_, List.getElem?_eq_getElem (by omega)⟩
            obtain ⟨tb, to_, rfl, hrt⟩ := ht.row.at (by omega) P
            have hy32 := hto y (List.mem_of_getElem? hy)
            refine TL.nil ?_
            refine T.seq ?_
            refine T.cond_t rfl ?_
            refine T.skip ?_
            refine T.seq ?_
            refine T.block ?_
            refine T.seq ?_
            refine T.region ?_
            refine TL.cons rfl (V1.t (V1.indexAddrS ty_36 sz_27 rfl rfl (by omega) (by omega)) ?_)
            refine TL.cons rfl (V1.t (V1.load1 (v := u32V y) one_27 rfl (RdN.i1 (i := i) (hrt _ rfl rfl _ Inc.nil) (by rw [List.getElem?_map, hy]; rfl))) ?_)
            refine TL.cons rfl (V1.t (V1.assign' z_B) ?_)
            refine TL.nil ?_
            refine T.region ?_
            refine TL.cons rfl (V1.t (V1.move' z_B) ?_)
            refine TL.cons rfl (V1.t (V1.move' z_B) ?_)
            refine TL.cons rfl (V1.t (V1.conv (c := ((y : Nat) : Int)) ty_27 ty_3 rfl (wrap_i64 _ (by omega) (by omega))) ?_)
            refine TL.cons rfl (T1.buildSl1 (os := [.tmp 98]) (vs := [(.int .i64 ((y : Nat) : Int) : Value)]) ty_94 sz_3 zr_3 (by decide) rfl (.cons z_B .nil) rfl (ones rfl) (fun b99 => ?_))
            refine TL.cons rfl (T1.append ty_94 kd_94 sz_3 by_3 zr_3 rfl (by decide) (by decide) rfl rfl hs1 (.sl (n := 1) (RdN.whole z_D) rfl) (by intro u hu; simp only [List.mem_singleton] at hu; subst hu; rfl) 200000000 (by rw [List.length_map, List.length_take, List.length_singleton]; omega) (by decide) z_C (fun s2 Ls2 hs2 => ?_))
            refine TL.cons rfl (V1.t (V1.assign' z_B) ?_)
            refine TL.nil ?_
            refine T.region ?_
            refine TL.cons rfl (V1.t (V1.add (c := ((i + 1 : Nat) : Int)) rfl rfl (by rw [wrap_i64 _ (by omega) (by omega)]; omega)) ?_)
            refine TL.cons rfl (V1.t (V1.move' z_B) ?_)
            refine TL.nil ?_
            exact ⟨(i + 1, s2, Ls2), Ls2 ++ ((⟨b5, 0, [.int .i64 o.kind, u32V o.name, .int .i64 o.n, .slice (some ⟨tb, to_, none⟩) o.to.length tc, .slice da o.data.length dc, .slice fa o.frames.length fc], 6⟩ : Blk) :: (X ++ G)), _, (by simp only; omega), (.cons rfl (.cons rfl .nil)), (.cons rfl (.cons rfl (.cons rfl (.cons rfl (.cons rfl (.cons rfl .nil)))))), z_A, ⟨rfl, by simp only; omega, by simp only; rw [take_nat hy, List.map_append]; exact hs2⟩⟩
          ·
            obtain rfl : i = o.to.length := by omega
            rw [List.take_length] at hs1
            obtain ⟨ia, ic, rfl⟩ := hs1.of (n := o.to.length) (by simp) (by decide)
            refine TL.nil ?_
            refine T.seq ?_
            refine T.cond_f rfl ?_
            refine T.exit ?_
            refine T.seq ?_
            refine T.region ?_
            refine TL.cons rfl (V1.t (V1.move' z_B) ?_)
            refine TL.cons rfl (V1.t (V1.fieldAddr fl_51_1 rfl) ?_)
            refine TL.cons rfl (V1.t (V1.load1 (v := u32V o.name) one_27 rfl (.own (cells := [.int .i64 o.kind, u32V o.name, .int .i64 o.n, .slice ta o.to.length tc, .slice da o.data.length dc, .slice fa o.frames.length fc]) z_D (by rfl))) ?_)
            refine TL.cons rfl (V1.t (V1.fieldAddr fl_51_4 rfl) ?_)
            refine TL.cons rfl (V1.t (V1.load1 (v := .slice da o.data.length dc) one_29 rfl (.own (cells := [.int .i64 o.kind, u32V o.name, .int .i64 o.n, .slice ta o.to.length tc, .slice da o.data.length dc, .slice fa o.frames.length fc]) z_D (by rfl))) ?_)
            refine TL.cons rfl (V1.t (V1.fieldAddr fl_51_3 rfl) ?_)
            refine TL.cons rfl (V1.t (V1.load1 (v := .slice ta o.to.length tc) one_36 rfl (.own (cells := [.int .i64 o.kind, u32V o.name, .int .i64 o.n, .slice ta o.to.length tc, .slice da o.data.length dc, .slice fa o.frames.length fc]) z_D (by rfl))) ?_)
            refine TL.cons rfl (T1.callM («as» := [.pointer (some ⟨p, 0, none⟩), u32V o.name, .slice da o.data.length dc, .slice ta o.to.length tc]) (X := X) has_11 rfl rfl (Send_any w0 [] hS o.name hnm (l := o.data) hdt.row (ns := o.to) ht (by omega)) z_A z_E (fun v_ X1 hv => ?_))
            obtain ⟨rfl, hS1⟩ := hv
            refine TL.cons rfl (V1.t (V1.assign' z_B) ?_)
            refine TL.nil ?_
            refine T.region ?_
            refine TL.cons rfl (V1.t (V1.move' z_B) ?_)
            refine TL.cons rfl (V1.t (V1.fieldAddr fl_51_1 rfl) ?_)
            refine TL.cons rfl (V1.t (V1.load1 (v := u32V o.name) one_27 rfl (.own (cells := [.int .i64 o.kind, u32V o.name, .int .i64 o.n, .slice ta o.to.length tc, .slice da o.data.length dc, .slice fa o.frames.length fc]) z_D (by rfl))) ?_)
            refine TL.cons rfl (V1.t (V1.conv (c := ((o.name : Nat) : Int)) ty_27 ty_3 rfl (wrap_i64 _ (by omega) (by omega))) ?_)
            refine TL.cons rfl (V1.t (V1.fieldAddr fl_51_4 rfl) ?_)
            refine TL.cons rfl (V1.t (V1.load1 (v := .slice da o.data.length dc) one_29 rfl (.own (cells := [.int .i64 o.kind, u32V o.name, .int .i64 o.n, .slice ta o.to.length tc, .slice da o.data.length dc, .slice fa o.frames.length fc]) z_D (by rfl))) ?_)
            refine TL.cons rfl (V1.t (V1.bytesToStr (l := o.data) ty_29 ty_5 ty_9 rfl (hdt.row.src _ rfl rfl _ Inc.nil) (by intro b h; cases h)) ?_)
            refine TL.cons rfl (V1.t (V1.move' z_B) ?_)
            refine TL.cons rfl (T1.callC (Ps := Ls ++ Ps) has_37 rfl rfl (SendG w0 (hc.more (Qs := Ls ++ Ps) (Inc.skip Inc.refl)) hdl hokd o.name hnm o.data (by omega) (ns := o.to) (RowS.ofSl hs1 Inc.here (by decide) _ (by simp)) (by omega)) z_E (fun v_ Yw hv => ?_))
            obtain ⟨l1, c, rfl, hd1, rfl⟩ := hv
            obtain ⟨hal1, hcc⟩ := hal.send hok o.name o.data o.to
            refine TL.cons rfl (V1.t (V1.move' z_B) ?_)
            refine TL.cons rfl (V1.t (V1.extract rfl (by rfl)) ?_)
            refine TL.cons rfl (V1.t (V1.extract rfl (by rfl)) ?_)
            refine TL.cons rfl (V1.t (V1.assign' z_B) ?_)
            refine TL.cons rfl (V1.t (V1.assign' z_B) ?_)
            refine TL.nil ?_
            refine T.seq ?_
            refine T.live (l := [(1, _), (8, _), (9, _), (10, _)]) (.cons z_B (.cons z_B (.cons z_B (.cons z_B .nil)))) (fun e_ => ?_)
            refine T.region ?_
            refine TL.cons rfl (V1.t (V1.move' z_B) ?_)
            refine TL.cons rfl (V1.t (V1.move' z_B) ?_)
            refine TL.cons rfl (V1.t (V1.move' z_B) ?_)
            refine TL.cons rfl (V1.t (V1.move' z_B) ?_)
            refine TL.cons rfl (V1.t (V1.move' z_B) ?_)
            refine TL.cons rfl (V1.t (V1.eqI (r := true) rfl rfl (decide_eq_true (by first | rfl | exact hcc.symm | exact hcc))) ?_)
            refine TL.cons rfl (V1.t (V1.pick rfl z_B) ?_)
            refine TL.cons rfl (V1.t (V1.assign' z_B) ?_)
            refine TL.cons rfl (V1.t (V1.assign' z_B) ?_)
            refine TL.nil ?_
            refine T.ret ?_
            first
              | exact ⟨_, X1 ++ (Yd ++ G), _, .cons (.tmp z_B) (.cons (.tmp z_B) .nil), by (try simp only [List.append_assoc, List.nil_append]); exact z_A, X1 ++ Yd, (by simp only [List.append_assoc, List.nil_append]), _, _, _, X1, Yd, rfl, rfl, hS1, hd1, hal1⟩
              | exact ⟨_, X1 ++ ((Yw ++ Ls) ++ G), _, .cons (.tmp z_B) (.cons (.tmp z_B) .nil), by (try simp only [List.append_assoc, List.nil_append]); exact z_A, X1 ++ (Yw ++ Ls), (by simp only [List.append_assoc, List.nil_append]), _, _, _, X1, (Yw ++ Ls), rfl, rfl, hS1, hd1.up, hal1⟩
              | exact ⟨_, X ++ (([] : List Blk) ++ G), _, .cons (.tmp z_B) (.cons (.tmp z_B) .nil), by (try simp only [List.append_assoc, List.nil_append]); exact z_A, X ++ ([] : List Blk), (by simp only [List.append_assoc, List.nil_append]), _, _, _, X, ([] : List Blk), rfl, rfl, hS, ⟨_, hc.more (Inc.skip Inc.refl)⟩, hal⟩
        ·
          refine TL.cons rfl (V1.t (V1.assign' z_B) ?_)
          refine TL.nil ?_
          refine T.cond_f rfl ?_
          refine T.seq ?_
          refine T.live (l := [(0, _), (1, _), (5, _), (8, _), (9, _), (10, _), (19, _)]) (.cons z_B (.cons z_B (.cons z_B (.cons z_B (.cons z_B (.cons z_B (.cons z_B .nil))))))) (fun e_ => ?_)
          refine T.region ?_
          refine TL.cons rfl (T1.eqI_split rfl rfl (fun h25_0 => ?_) (fun h25_0 => ?_))
          ·
            refine TL.cons rfl (V1.t (V1.assign' z_B) ?_)
            refine TL.nil ?_
            refine T.cond_t rfl ?_
            refine T.seq ?_
            refine T.region ?_
            refine TL.cons rfl (V1.t (V1.assign' z_B) ?_)
            refine TL.nil ?_
            refine T.seq ?_
            refine T.region ?_
            refine TL.cons rfl (V1.t (V1.assign' z_B) ?_)
            refine TL.nil ?_
            refine T.seq ?_
            refine T.region ?_
            refine TL.cons rfl (V1.t (V1.move' z_B) ?_)
            refine TL.cons rfl (V1.t (V1.fieldAddr fl_51_1 rfl) ?_)
            refine TL.cons rfl (V1.t (V1.load1 (v := u32V o.name) one_27 rfl (.own (cells := [.int .i64 o.kind, u32V o.name, .int .i64 o.n, .slice ta o.to.length tc, .slice da o.data.length dc, .slice fa o.frames.length fc]) z_D (by rfl))) ?_)
            refine TL.cons rfl (V1.t (V1.fieldAddr fl_51_2 rfl) ?_)
            refine TL.cons rfl (V1.t (V1.load1 (v := .int .i64 o.n) one_3 rfl (.own (cells := [.int .i64 o.kind, u32V o.name, .int .i64 o.n, .slice ta o.to.length tc, .slice da o.data.length dc, .slice fa o.frames.length fc]) z_D (by rfl))) ?_)
            refine TL.cons rfl (T1.callM («as» := [.pointer (some ⟨p, 0, none⟩), u32V o.name, .int .i64 o.n]) (X := X) has_13 rfl rfl (Take_any w0 hS o.name o.n) z_A z_E (fun v_ Yt hv => ?_))
            obtain ⟨Yf, X1, rfl, hS1, hT⟩ := hv
            rcases hte : (takeP ps o.name o.n).2 with _ | l2 <;> rw [hte] at hT
            ·
              obtain ⟨rfl, rfl⟩ := hT
              simp only [List.nil_append]
              refine TL.cons rfl (V1.t (V1.move' z_B) ?_)
              refine TL.cons rfl (V1.t (V1.extract rfl (by rfl)) ?_)
              refine TL.cons rfl (V1.t (V1.extract rfl (by rfl)) ?_)
              refine TL.cons rfl (V1.t (V1.assign' z_B) ?_)
              refine TL.cons rfl (V1.t (V1.assign' z_B) ?_)
              refine TL.nil ?_
              refine T.seq ?_
              refine T.live (l := [(1, _), (5, _), (8, _), (16, _)]) (.cons z_B (.cons z_B (.cons z_B (.cons z_B .nil)))) (fun e_ => ?_)
              refine T.region ?_
              refine TL.cons rfl (V1.t (V1.move' z_B) ?_)
              refine TL.cons rfl (V1.t (V1.fieldAddr fl_51_1 rfl) ?_)
              refine TL.cons rfl (V1.t (V1.load1 (v := u32V o.name) one_27 rfl (.own (cells := [.int .i64 o.kind, u32V o.name, .int .i64 o.n, .slice ta o.to.length tc, .slice da o.data.length dc, .slice fa o.frames.length fc]) z_D (by rfl))) ?_)
              refine TL.cons rfl (V1.t (V1.conv (c := ((o.name : Nat) : Int)) ty_27 ty_3 rfl (wrap_i64 _ (by omega) (by omega))) ?_)
              refine TL.cons rfl (V1.t (V1.fieldAddr fl_51_2 rfl) ?_)
              refine TL.cons rfl (V1.t (V1.load1 (v := .int .i64 o.n) one_3 rfl (.own (cells := [.int .i64 o.kind, u32V o.name, .int .i64 o.n, .slice ta o.to.length tc, .slice da o.data.length dc, .slice fa o.frames.length fc]) z_D (by rfl))) ?_)
              refine TL.cons rfl (T1.callC (Ps := Ps) has_38 rfl rfl (TakeG w0 hc hdl hokd o.name o.n) z_E (fun v_ Yd hv => ?_))
              obtain ⟨l1, rfl, hd1⟩ := hv
              obtain ⟨hal1, hcc⟩ := hal.take hok o.name o.n
              rw [hcc, hte]
              dsimp only [takD]
              refine TL.cons rfl (V1.t (V1.move' z_B) ?_)
              refine TL.cons rfl (V1.t (V1.extract rfl (by rfl)) ?_)
              refine TL.cons rfl (V1.t (V1.extract rfl (by rfl)) ?_)
              refine TL.cons rfl (V1.t (V1.extract rfl (by rfl)) ?_)
              refine TL.cons rfl (V1.t (V1.assign' z_B) ?_)
              refine TL.cons rfl (V1.t (V1.assign' z_B) ?_)
              refine TL.cons rfl (V1.t (V1.assign' z_B) ?_)
              refine TL.nil ?_
              refine T.region ?_
              refine TL.cons rfl (V1.t (V1.move' z_B) ?_)
              refine TL.cons rfl (V1.t (V1.bytesToStr (l := []) ty_29 ty_5 ty_9 rfl .nil (by intro b h; cases h)) ?_)
              refine TL.cons rfl (V1.t (V1.move' z_B) ?_)
              refine TL.cons rfl (V1.t (V1.eqS (r := true) rfl rfl (decide_eq_true rfl)) ?_)
              refine TL.cons rfl (V1.t (V1.assign' z_B) ?_)
              refine TL.nil ?_
              refine T.seq ?_
              refine T.live (l := [(1, _), (8, _), (9, _), (10, _)]) (.cons z_B (.cons z_B (.cons z_B (.cons z_B .nil)))) (fun e_ => ?_)
              refine T.region ?_
              refine TL.cons rfl (V1.t (V1.move' z_B) ?_)
              refine TL.cons rfl (V1.t (V1.move' z_B) ?_)
              refine TL.cons rfl (V1.t (V1.move' z_B) ?_)
              refine TL.cons rfl (V1.t (V1.move' z_B) ?_)
              refine TL.cons rfl (V1.t (V1.move' z_B) ?_)
              refine TL.cons rfl (V1.t (V1.eqI (r := true) rfl rfl (decide_eq_true (by first | rfl | exact hcc.symm | exact hcc))) ?_)
              refine TL.cons rfl (V1.t (V1.pick rfl z_B) ?_)
              refine TL.cons rfl (V1.t (V1.assign' z_B) ?_)
              refine TL.cons rfl (V1.t (V1.assign' z_B) ?_)
              refine TL.nil ?_
              refine T.ret ?_
              first
                | exact ⟨_, X1 ++ (Yd ++ G), _, .cons (.tmp z_B) (.cons (.tmp z_B) .nil), by (try simp only [List.append_assoc, List.nil_append]); exact z_A, X1 ++ Yd, (by simp only [List.append_assoc, List.nil_append]), _, _, _, X1, Yd, rfl, rfl, hS1, hd1, hal1⟩
                | exact ⟨_, X1 ++ ((Yw ++ Ls) ++ G), _, .cons (.tmp z_B) (.cons (.tmp z_B) .nil), by (try simp only [List.append_assoc, List.nil_append]); exact z_A, X1 ++ (Yw ++ Ls), (by simp only [List.append_assoc, List.nil_append]), _, _, _, X1, (Yw ++ Ls), rfl, rfl, hS1, hd1.up, hal1⟩
                | exact ⟨_, X ++ (([] : List Blk) ++ G), _, .cons (.tmp z_B) (.cons (.tmp z_B) .nil), by (try simp only [List.append_assoc, List.nil_append]); exact z_A, X ++ ([] : List Blk), (by simp only [List.append_assoc, List.nil_append]), _, _, _, X, ([] : List Blk), rfl, rfl, hS, ⟨_, hc.more (Inc.skip Inc.refl)⟩, hal⟩
            ·
              obtain ⟨sb, rfl, hsb⟩ := hT
              obtain ⟨ba, bc, rfl⟩ := hsb.of (n := l2.length) (by simp) (by decide)
              simp only [List.append_assoc]
              refine TL.cons rfl (V1.t (V1.move' z_B) ?_)
              refine TL.cons rfl (V1.t (V1.extract rfl (by rfl)) ?_)
              refine TL.cons rfl (V1.t (V1.extract rfl (by rfl)) ?_)
              refine TL.cons rfl (V1.t (V1.assign' z_B) ?_)
              refine TL.cons rfl (V1.t (V1.assign' z_B) ?_)
              refine TL.nil ?_
              refine T.seq ?_
              refine T.live (l := [(1, _), (5, _), (8, _), (16, _)]) (.cons z_B (.cons z_B (.cons z_B (.cons z_B .nil)))) (fun e_ => ?_)
              refine T.region ?_
              refine TL.cons rfl (V1.t (V1.move' z_B) ?_)
              refine TL.cons rfl (V1.t (V1.fieldAddr fl_51_1 rfl) ?_)
              refine TL.cons rfl (V1.t (V1.load1 (v := u32V o.name) one_27 rfl (.own (cells := [.int .i64 o.kind, u32V o.name, .int .i64 o.n, .slice ta o.to.length tc, .slice da o.data.length dc, .slice fa o.frames.length fc]) z_D (by rfl))) ?_)
              refine TL.cons rfl (V1.t (V1.conv (c := ((o.name : Nat) : Int)) ty_27 ty_3 rfl (wrap_i64 _ (by omega) (by omega))) ?_)
              refine TL.cons rfl (V1.t (V1.fieldAddr fl_51_2 rfl) ?_)
              refine TL.cons rfl (V1.t (V1.load1 (v := .int .i64 o.n) one_3 rfl (.own (cells := [.int .i64 o.kind, u32V o.name, .int .i64 o.n, .slice ta o.to.length tc, .slice da o.data.length dc, .slice fa o.frames.length fc]) z_D (by rfl))) ?_)
              refine TL.cons rfl (T1.callC (Ps := Ps) has_38 rfl rfl (TakeG w0 hc hdl hokd o.name o.n) z_E (fun v_ Yd hv => ?_))
              obtain ⟨l1, rfl, hd1⟩ := hv
              obtain ⟨hal1, hcc⟩ := hal.take hok o.name o.n
              rw [hcc, hte]
              dsimp only [takD]
              refine TL.cons rfl (V1.t (V1.move' z_B) ?_)
              refine TL.cons rfl (V1.t (V1.extract rfl (by rfl)) ?_)
              refine TL.cons rfl (V1.t (V1.extract rfl (by rfl)) ?_)
              refine TL.cons rfl (V1.t (V1.extract rfl (by rfl)) ?_)
              refine TL.cons rfl (V1.t (V1.assign' z_B) ?_)
              refine TL.cons rfl (V1.t (V1.assign' z_B) ?_)
              refine TL.cons rfl (V1.t (V1.assign' z_B) ?_)
              refine TL.nil ?_
              refine T.region ?_
              refine TL.cons rfl (V1.t (V1.move' z_B) ?_)
              refine TL.cons rfl (V1.t (V1.bytesToStr (l := l2) ty_29 ty_5 ty_9 rfl ((hsb.row1 l2.length (by simp)).row.src _ rfl rfl _ z_E) (by intro b h; cases h)) ?_)
              refine TL.cons rfl (V1.t (V1.move' z_B) ?_)
              refine TL.cons rfl (V1.t (V1.eqS (r := true) rfl rfl (decide_eq_true rfl)) ?_)
              refine TL.cons rfl (V1.t (V1.assign' z_B) ?_)
              refine TL.nil ?_
              refine T.seq ?_
              refine T.live (l := [(1, _), (8, _), (9, _), (10, _)]) (.cons z_B (.cons z_B (.cons z_B (.cons z_B .nil)))) (fun e_ => ?_)
              refine T.region ?_
              refine TL.cons rfl (V1.t (V1.move' z_B) ?_)
              refine TL.cons rfl (V1.t (V1.move' z_B) ?_)
              refine TL.cons rfl (V1.t (V1.move' z_B) ?_)
              refine TL.cons rfl (V1.t (V1.move' z_B) ?_)
              refine TL.cons rfl (V1.t (V1.move' z_B) ?_)
              refine TL.cons rfl (V1.t (V1.eqI (r := true) rfl rfl (decide_eq_true (by first | rfl | exact hcc.symm | exact hcc))) ?_)
              refine TL.cons rfl (V1.t (V1.pick rfl z_B) ?_)
              refine TL.cons rfl (V1.t (V1.assign' z_B) ?_)
              refine TL.cons rfl (V1.t (V1.assign' z_B) ?_)
              refine TL.nil ?_
              refine T.ret ?_
              first
                | exact ⟨_, X1 ++ (Yd ++ G), _, .cons (.tmp z_B) (.cons (.tmp z_B) .nil), by (try simp only [List.append_assoc, List.nil_append]); exact z_A, X1 ++ Yd, (by simp only [List.append_assoc, List.nil_append]), _, _, _, X1, Yd, rfl, rfl, hS1, hd1, hal1⟩
                | exact ⟨_, X1 ++ ((Yw ++ Ls) ++ G), _, .cons (.tmp z_B) (.cons (.tmp z_B) .nil), by (try simp only [List.append_assoc, List.nil_append]); exact z_A, X1 ++ (Yw ++ Ls), (by simp only [List.append_assoc, List.nil_append]), _, _, _, X1, (Yw ++ Ls), rfl, rfl, hS1, hd1.up, hal1⟩
                | exact ⟨_, X ++ (([] : List Blk) ++ G), _, .cons (.tmp z_B) (.cons (.tmp z_B) .nil), by (try simp only [List.append_assoc, List.nil_append]); exact z_A, X ++ ([] : List Blk), (by simp only [List.append_assoc, List.nil_append]), _, _, _, X, ([] : List Blk), rfl, rfl, hS, ⟨_, hc.more (Inc.skip Inc.refl)⟩, hal⟩
          ·
            refine TL.cons rfl (V1.t (V1.assign' z_B) ?_)
            refine TL.nil ?_
            refine T.cond_f rfl ?_
            refine T.seq ?_
            refine T.region ?_
            refine TL.cons rfl (T1.eqI_split rfl rfl (fun h31_0 => ?_) (fun h31_0 => ?_))
            ·
              refine TL.cons rfl (V1.t (V1.assign' z_B) ?_)
              refine TL.nil ?_
              refine T.cond_t rfl ?_
              refine T.seq ?_
              refine T.region ?_
              refine TL.cons rfl (V1.t (V1.move' z_B) ?_)
              refine TL.cons rfl (V1.t (V1.fieldAddr fl_51_1 rfl) ?_)
              refine TL.cons rfl (V1.t (V1.load1 (v := u32V o.name) one_27 rfl (.own (cells := [.int .i64 o.kind, u32V o.name, .int .i64 o.n, .slice ta o.to.length tc, .slice da o.data.length dc, .slice fa o.frames.length fc]) z_D (by rfl))) ?_)
              refine TL.cons rfl (V1.t (V1.fieldAddr fl_51_4 rfl) ?_)
              refine TL.cons rfl (V1.t (V1.load1 (v := .slice da o.data.length dc) one_29 rfl (.own (cells := [.int .i64 o.kind, u32V o.name, .int .i64 o.n, .slice ta o.to.length tc, .slice da o.data.length dc, .slice fa o.frames.length fc]) z_D (by rfl))) ?_)
              refine TL.cons rfl (T1.callM («as» := [.pointer (some ⟨p, 0, none⟩), u32V o.name, .slice da o.data.length dc]) (X := X) has_23 rfl rfl (Put_any w0 [] hS o.name (l := o.data) hdt.row (by omega)) z_A z_E (fun v_ X1 hv => ?_))
              obtain ⟨rfl, hS1⟩ := hv
              refine TL.cons rfl (V1.t (V1.assign' z_B) ?_)
              refine TL.nil ?_
              refine T.region ?_
              refine TL.cons rfl (V1.t (V1.move' z_B) ?_)
              refine TL.cons rfl (V1.t (V1.fieldAddr fl_51_1 rfl) ?_)
              refine TL.cons rfl (V1.t (V1.load1 (v := u32V o.name) one_27 rfl (.own (cells := [.int .i64 o.kind, u32V o.name, .int .i64 o.n, .slice ta o.to.length tc, .slice da o.data.length dc, .slice fa o.frames.length fc]) z_D (by rfl))) ?_)
              refine TL.cons rfl (V1.t (V1.conv (c := ((o.name : Nat) : Int)) ty_27 ty_3 rfl (wrap_i64 _ (by omega) (by omega))) ?_)
              refine TL.cons rfl (V1.t (V1.fieldAddr fl_51_4 rfl) ?_)
              refine TL.cons rfl (V1.t (V1.load1 (v := .slice da o.data.length dc) one_29 rfl (.own (cells := [.int .i64 o.kind, u32V o.name, .int .i64 o.n, .slice ta o.to.length tc, .slice da o.data.length dc, .slice fa o.frames.length fc]) z_D (by rfl))) ?_)
              refine TL.cons rfl (V1.t (V1.bytesToStr (l := o.data) ty_29 ty_5 ty_9 rfl (hdt.row.src _ rfl rfl _ Inc.nil) (by intro b h; cases h)) ?_)
              refine TL.cons rfl (T1.callC (Ps := Ps) has_39 rfl rfl (PutG w0 hc hdl hokd o.name o.data (by omega)) z_E (fun v_ Yd hv => ?_))
              obtain ⟨l1, c, rfl, hd1, rfl⟩ := hv
              obtain ⟨hal1, hcc⟩ := hal.put hok o.name o.data
              refine TL.cons rfl (V1.t (V1.move' z_B) ?_)
              refine TL.cons rfl (V1.t (V1.extract rfl (by rfl)) ?_)
              refine TL.cons rfl (V1.t (V1.extract rfl (by rfl)) ?_)
              refine TL.cons rfl (V1.t (V1.assign' z_B) ?_)
              refine TL.cons rfl (V1.t (V1.assign' z_B) ?_)
              refine TL.nil ?_
              refine T.seq ?_
              refine T.live (l := [(1, _), (8, _), (9, _), (10, _)]) (.cons z_B (.cons z_B (.cons z_B (.cons z_B .nil)))) (fun e_ => ?_)
              refine T.region ?_
              refine TL.cons rfl (V1.t (V1.move' z_B) ?_)
              refine TL.cons rfl (V1.t (V1.move' z_B) ?_)
              refine TL.cons rfl (V1.t (V1.move' z_B) ?_)
              refine TL.cons rfl (V1.t (V1.move' z_B) ?_)
              refine TL.cons rfl (V1.t (V1.move' z_B) ?_)
              refine TL.cons rfl (V1.t (V1.eqI (r := true) rfl rfl (decide_eq_true (by first | rfl | exact hcc.symm | exact hcc))) ?_)
              refine TL.cons rfl (V1.t (V1.pick rfl z_B) ?_)
              refine TL.cons rfl (V1.t (V1.assign' z_B) ?_)
              refine TL.cons rfl (V1.t (V1.assign' z_B) ?_)
              refine TL.nil ?_
              refine T.ret ?_
              first
                | exact ⟨_, X1 ++ (Yd ++ G), _, .cons (.tmp z_B) (.cons (.tmp z_B) .nil), by (try simp only [List.append_assoc, List.nil_append]); exact z_A, X1 ++ Yd, (by simp only [List.append_assoc, List.nil_append]), _, _, _, X1, Yd, rfl, rfl, hS1, hd1, hal1⟩
                | exact ⟨_, X1 ++ ((Yw ++ Ls) ++ G), _, .cons (.tmp z_B) (.cons (.tmp z_B) .nil), by (try simp only [List.append_assoc, List.nil_append]); exact z_A, X1 ++ (Yw ++ Ls), (by simp only [List.append_assoc, List.nil_append]), _, _, _, X1, (Yw ++ Ls), rfl, rfl, hS1, hd1.up, hal1⟩
                | exact ⟨_, X ++ (([] : List Blk) ++ G), _, .cons (.tmp z_B) (.cons (.tmp z_B) .nil), by (try simp only [List.append_assoc, List.nil_append]); exact z_A, X ++ ([] : List Blk), (by simp only [List.append_assoc, List.nil_append]), _, _, _, X, ([] : List Blk), rfl, rfl, hS, ⟨_, hc.more (Inc.skip Inc.refl)⟩, hal⟩
            ·
              refine TL.cons rfl (V1.t (V1.assign' z_B) ?_)
              refine TL.nil ?_
              refine T.cond_f rfl ?_
              refine T.skip ?_
              refine T.seq ?_
              refine T.region ?_
              refine TL.cons rfl (V1.t (V1.move' z_B) ?_)
              refine TL.cons rfl (V1.t (V1.move' z_B) ?_)
              refine TL.cons rfl (V1.t (V1.move' z_B) ?_)
              refine TL.cons rfl (V1.t (V1.move' z_B) ?_)
              refine TL.cons rfl (V1.t (V1.move' z_B) ?_)
              refine TL.cons rfl (V1.t (V1.eqI (r := true) rfl rfl (decide_eq_true (by first | rfl | exact hcc.symm | exact hcc))) ?_)
              refine TL.cons rfl (V1.t (V1.pick rfl z_B) ?_)
              refine TL.cons rfl (V1.t (V1.assign' z_B) ?_)
              refine TL.cons rfl (V1.t (V1.assign' z_B) ?_)
              refine TL.nil ?_
              refine T.ret ?_
              first
                | exact ⟨_, X1 ++ (Yd ++ G), _, .cons (.tmp z_B) (.cons (.tmp z_B) .nil), by (try simp only [List.append_assoc, List.nil_append]); exact z_A, X1 ++ Yd, (by simp only [List.append_assoc, List.nil_append]), _, _, _, X1, Yd, rfl, rfl, hS1, hd1, hal1⟩
                | exact ⟨_, X1 ++ ((Yw ++ Ls) ++ G), _, .cons (.tmp z_B) (.cons (.tmp z_B) .nil), by (try simp only [List.append_assoc, List.nil_append]); exact z_A, X1 ++ (Yw ++ Ls), (by simp only [List.append_assoc, List.nil_append]), _, _, _, X1, (Yw ++ Ls), rfl, rfl, hS1, hd1.up, hal1⟩
                | exact ⟨_, X ++ (([] : List Blk) ++ G), _, .cons (.tmp z_B) (.cons (.tmp z_B) .nil), by (try simp only [List.append_assoc, List.nil_append]); exact z_A, X ++ ([] : List Blk), (by simp only [List.append_assoc, List.nil_append]), _, _, _, X, ([] : List Blk), rfl, rfl, hS, ⟨_, hc.more (Inc.skip Inc.refl)⟩, hal⟩

end Go.Proofs.Ytijijaobialncaa.S
