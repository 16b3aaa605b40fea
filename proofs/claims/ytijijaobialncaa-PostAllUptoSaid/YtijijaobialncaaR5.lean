/- What is asked of both: read; a script's size; the same people. -/
import Derived.Test.YtijijaobialncaaR4
namespace Go.Proofs.Ytijijaobialncaa.S
open Go.RowKit

theorem Same_G (w0 : World) {Ps : List Blk} {va vb : Value} {f h : Frm} (ha : FrmS w0 Ps va f) (hb : FrmS w0 Ps vb h) : FnV P 24 [va, vb] w0 Ps (fun v => ∃ r, v = .bool r ∧ (r = true ↔ f = h)) := by
  intro G w hG hs
  rw [List.nil_append] at hs
  refine (Same_any _ _ _ _ _ _ _ _ _ _ _ _ w (ha.is hG hs) (hb.is hG hs) (by simp) (by simp)).mono fun _ _ ⟨v, Y, e1, e2, e3, r, e4, e5⟩ => ⟨v, Y, e1, hs.call_add e2, e3, r, e4, e5.trans ?_⟩
  cases f; cases h; simp
/-- Something asked. -/
structure OpP where
  kind : Int
  name : Nat
  n : Int
  to : List Nat
  data : List UInt8
  frames : List Frm
def OpR (w0 : World) (o : OpP) (cs : List Value) : Prop := ∃ vt vd vf fcss, cs = [.int .i64 o.kind, u32V o.name, .int .i64 o.n, vt, vd, vf] ∧ RowS w0 [] 1 vt o.to.length (o.to.map u32V) ∧ RowS w0 [] 1 vd o.data.length (o.data.map byteV) ∧ FrsS w0 [] vf o.frames fcss ∧ o.name < 4294967296 ∧ (∀ x ∈ o.to, x < 4294967296) ∧ o.to.length ≤ 100000000 ∧ o.data.length ≤ 100000000 ∧ o.frames.length ≤ 1100000
theorem OpR.ones {w0 : World} {o : OpP} {cs : List Value} (h : OpR w0 o cs) : cs.length = 6 ∧ ∀ u ∈ cs, one u = true := by
  obtain ⟨vt, vd, vf, fcss, rfl, h1, h2, h3, _⟩ := h
  obtain ⟨a1, c1, rfl⟩ := h1.row.form
  obtain ⟨a2, c2, rfl⟩ := h2.row.form
  obtain ⟨a3, c3, rfl⟩ := h3.row.row.form
  refine ⟨rfl, fun u hu => ?_⟩
  simp only [List.mem_cons, List.not_mem_nil, or_false] at hu
  rcases hu with rfl | rfl | rfl | rfl | rfl | rfl <;> rfl
structure OpsR (w0 : World) (v : Value) (os : List OpP) (css : List (List Value)) : Prop where
  row : RowR w0 [] 6 v os.length css.flatten
  len : css.length = os.length
  each : ∀ (i : Nat) (o : OpP) (cs : List Value), os[i]? = some o → css[i]? = some cs → OpR w0 o cs
  few : os.length ≤ 100000000
theorem OpsR.at {w0 : World} {a : Option Addr} {n c i : Nat} {os : List OpP} {css : List (List Value)} {o : OpP} (h : OpsR w0 (.slice a n c) os css) (ho : os[i]? = some o) : ∃ b q cs, a = some ⟨b, q, none⟩ ∧ OpR w0 o cs ∧ ∀ C : Ctx, C.w0 = w0 → C.M = [] → ∀ L, RdN C L ⟨b, q + i * 6, none⟩ cs := by
  have hl := (List.getElem?_eq_some_iff.1 ho).1
  obtain ⟨a', c', e⟩ := h.row.form
  cases e
  obtain ⟨b, q, e, hr⟩ := h.row.at (by omega) P
  have hcl : i < css.length := by rw [h.len]; exact hl
  have hc : css[i]? = some css[i] := List.getElem?_eq_getElem hcl
  have h6 : ∀ cs ∈ css, cs.length = 6 := fun cs hcs => by
    obtain ⟨j, hj⟩ := List.getElem?_of_mem hcs
    have hjl := (List.getElem?_eq_some_iff.1 hj).1
    exact (h.each j _ cs (List.getElem?_eq_getElem (by rw [← h.len]; exact hjl)) hj).ones.1
  obtain ⟨x, y, h1, h2, _⟩ := flatk_at (k := 6) h6 hc
  exact ⟨b, q, _, e, h.each i o _ ho hc, fun C e1 e2 L => RdN.midk (a := x) (ys := y) (by rw [← h1]; exact hr C e1 e2 L Inc.nil) h2⟩
set_option maxRecDepth 100000 in
theorem lightG (w0 : World) {oa_ : Option Addr} {oc_ : Nat} {os : List OpP} {ocss : List (List Value)} (hos : OpsR w0 (.slice oa_ os.length oc_) os ocss) : FnV P 19 [.slice oa_ os.length oc_] w0 [] (fun v => ∃ q, v = .bool q) := by
  have hfew := hos.few
  refine FnV.of 65 [.tmp 2] Go.Proofs.Try.func19 rfl rfl rfl rfl (fun G hG => ?_)
  refine T.seq ?_
  refine T.region ?_
  refine TL.cons rfl (V1.t (V1.assign' z_B) ?_)
  refine TL.nil ?_
  refine T.seq ?_
  refine T.region ?_
  refine TL.cons rfl (V1.t (V1.assign' z_B) ?_)
  refine TL.nil ?_
  refine T.seq ?_
  refine T.seq ?_
  refine T.region ?_
  refine TL.cons rfl (V1.t (V1.move' z_B) ?_)
  refine TL.cons rfl (V1.t (V1.lenSl ty_47 rfl) ?_)
  refine TL.cons rfl (V1.t (V1.move' z_B) ?_)
  refine TL.nil ?_
  refine T.block ?_
  refine T.loopL (σ := Nat × Int) (l0 := [(0, _), (8, _), (9, _)]) (fun x => [(3, .int .i64 x.2), (10, .int .i64 ((x.1 : Nat) : Int))]) (fun x L => G = L ∧ x.1 ≤ os.length) (fun x => os.length - x.1) (0, 0) (.cons rfl (.cons rfl .nil)) (.cons z_B (.cons z_B (.cons z_B .nil))) z_A (⟨rfl, Nat.zero_le _⟩) ?_
  rintro ⟨i, s⟩ e_ L ⟨rfl, hi⟩
  dsimp only at hi
  dsimp only
  refine T.seq ?_
  refine T.region ?_
  refine TL.cons rfl (T1.ltI_split rfl rfl (fun h3 => ?_) (fun h3 => ?_))
  ·
    obtain ⟨o, hoi⟩ : ∃ o, os[i]? = some o := ⟨_, List.getElem?_eq_getElem (by omega)⟩
    obtain ⟨qb, qo, ocs, rfl, hop, hrq⟩ := hos.at hoi
    have hoo := hop.ones
    obtain ⟨vt, vd, vf, fcss, rfl, ht, hdt, hfs, hnm, hto, htl, hdl2, hfl⟩ := hop
    obtain ⟨ta, tc, rfl⟩ := ht.row.form
    obtain ⟨da, dc, rfl⟩ := hdt.row.form
    obtain ⟨fa, fc, rfl⟩ := hfs.row.row.form
    refine TL.nil ?_
    refine T.seq ?_
    refine T.cond_t rfl ?_
    refine T.skip ?_
    refine T.seq ?_
    refine T.block ?_
    refine T.seq ?_
    refine T.region ?_
    refine TL.cons rfl (V1.t (V1.indexAddrS ty_47 sz_51 rfl rfl (by omega) (by omega)) ?_)
    refine TL.cons rfl (V1.t (V1.loadN (vs := [.int .i64 o.kind, u32V o.name, .int .i64 o.n, .slice ta o.to.length tc, .slice da o.data.length dc, .slice fa o.frames.length fc]) one_51 sz_51 rfl (hrq _ rfl rfl _) rfl) ?_)
    refine TL.cons rfl (T1.allocN 6 zr_51 rfl (fun b5 => ?_))
    refine TL.cons rfl (T1.storeN (vs := [.int .i64 o.kind, u32V o.name, .int .i64 o.n, .slice ta o.to.length tc, .slice da o.data.length dc, .slice fa o.frames.length fc]) rfl rfl sz_51 hoo.2 z_H (by rfl) (by rfl) ?_)
    refine TL.nil ?_
    refine T.seq ?_
    refine T.region ?_
    refine TL.cons rfl (V1.t (V1.move' z_B) ?_)
    refine TL.cons rfl (V1.t (V1.fieldAddr fl_51_4 rfl) ?_)
    refine TL.cons rfl (V1.t (V1.load1 (v := .slice da o.data.length dc) one_29 rfl (.own (cells := [.int .i64 o.kind, u32V o.name, .int .i64 o.n, .slice ta o.to.length tc, .slice da o.data.length dc, .slice fa o.frames.length fc]) z_D (by rfl))) ?_)
    refine TL.cons rfl (V1.t (V1.lenSl ty_29 rfl) ?_)
    refine TL.cons rfl (V1.t (V1.fieldAddr fl_51_3 rfl) ?_)
    refine TL.cons rfl (V1.t (V1.load1 (v := .slice ta o.to.length tc) one_36 rfl (.own (cells := [.int .i64 o.kind, u32V o.name, .int .i64 o.n, .slice ta o.to.length tc, .slice da o.data.length dc, .slice fa o.frames.length fc]) z_D (by rfl))) ?_)
    refine TL.cons rfl (V1.t (V1.lenSl ty_36 rfl) ?_)
    refine TL.cons rfl (V1.t (V1.add rfl rfl rfl) ?_)
    refine TL.cons rfl (V1.t (V1.mul rfl rfl rfl) ?_)
    refine TL.cons rfl (V1.t (V1.fieldAddr fl_51_5 rfl) ?_)
    refine TL.cons rfl (V1.t (V1.load1 (v := .slice fa o.frames.length fc) one_42 rfl (.own (cells := [.int .i64 o.kind, u32V o.name, .int .i64 o.n, .slice ta o.to.length tc, .slice da o.data.length dc, .slice fa o.frames.length fc]) z_D (by rfl))) ?_)
    refine TL.cons rfl (V1.t (V1.lenSl ty_42 rfl) ?_)
    refine TL.cons rfl (V1.t (V1.mul rfl rfl rfl) ?_)
    refine TL.cons rfl (V1.t (V1.add rfl rfl rfl) ?_)
    refine TL.cons rfl (V1.t (V1.add rfl rfl rfl) ?_)
    refine TL.cons rfl (V1.t (V1.assign' z_B) ?_)
    refine TL.nil ?_
    refine T.seq ?_
    refine T.live (l := [(0, _), (3, _), (5, _), (8, _), (9, _), (10, _)]) (.cons z_B (.cons z_B (.cons z_B (.cons z_B (.cons z_B (.cons z_B .nil)))))) (fun e_ => ?_)
    refine T.region ?_
    refine TL.cons rfl (V1.t (V1.fieldAddr fl_51_5 rfl) ?_)
    refine TL.cons rfl (V1.t (V1.load1 (v := .slice fa o.frames.length fc) one_42 rfl (.own (cells := [.int .i64 o.kind, u32V o.name, .int .i64 o.n, .slice ta o.to.length tc, .slice da o.data.length dc, .slice fa o.frames.length fc]) z_D (by rfl))) ?_)
    refine TL.cons rfl (V1.t (V1.lenSl ty_42 rfl) ?_)
    refine TL.cons rfl (V1.t (V1.move' z_B) ?_)
    refine TL.nil ?_
    refine T.block ?_
    refine T.loopL (σ := Nat × Int) (l0 := [(0, _), (8, _), (9, _), (10, _), (30, _), (31, _)]) (fun x => [(3, .int .i64 x.2), (32, .int .i64 ((x.1 : Nat) : Int))]) (fun x L => G = L ∧ x.1 ≤ o.frames.length) (fun x => o.frames.length - x.1) (0, _) (.cons rfl (.cons rfl .nil)) (.cons z_B (.cons z_B (.cons z_B (.cons z_B (.cons z_B (.cons z_B .nil)))))) z_A (⟨rfl, Nat.zero_le _⟩) ?_
    rintro ⟨j, s2⟩ e_ L ⟨rfl, hj⟩
    dsimp only at hj
    dsimp only
    refine T.seq ?_
    refine T.region ?_
    refine TL.cons rfl (T1.ltI_split rfl rfl (fun h7 => ?_) (fun h7 => ?_))
    ·
      obtain ⟨f, hfj⟩ : ∃ f, o.frames[j]? = some f := ⟨_, List.getElem?_eq_getElem (by omega)⟩
      obtain ⟨fb, fo, fcs, rfl, hfc, hff, hf5, hf1, hrf⟩ := hfs.at hfj
      obtain ⟨⟨sk, sn, sx, sd, he, g1, g2, g3, g4⟩, _, _⟩ := hff
      obtain rfl : fcs = [.int .i64 f.kind, sk, sn, sx, sd] := by injection he with he; exact congrArg Array.toList he
      obtain ⟨ka, kc, rfl⟩ := g1.row.form
      obtain ⟨na, nc, rfl⟩ := g2.row.form
      obtain ⟨xa, xc, rfl⟩ := g3.row.form
      obtain ⟨ea, ec, rfl⟩ := g4.row.form
      refine TL.nil ?_
      refine T.seq ?_
      refine T.cond_t rfl ?_
      refine T.skip ?_
      refine T.seq ?_
      refine T.block ?_
      refine T.seq ?_
      refine T.region ?_
      refine TL.cons rfl (V1.t (V1.indexAddrS ty_42 sz_39 rfl rfl (by omega) (by omega)) ?_)
      refine TL.cons rfl (V1.t (V1.loadN (vs := [.int .i64 f.kind, .slice ka f.keys.length kc, .slice na f.nums.length nc, .slice xa f.sigs.length xc, .slice ea f.data.length ec]) one_39 sz_39 rfl (hrf _ rfl rfl _ Inc.nil) rfl) ?_)
      refine TL.cons rfl (T1.allocN 5 zr_39 rfl (fun b7 => ?_))
      refine TL.cons rfl (T1.storeN (vs := [.int .i64 f.kind, .slice ka f.keys.length kc, .slice na f.nums.length nc, .slice xa f.sigs.length xc, .slice ea f.data.length ec]) rfl rfl sz_39 hf1 z_H (by rfl) (by rfl) ?_)
      refine TL.nil ?_
      refine T.region ?_
      refine TL.cons rfl (V1.t (V1.move' z_B) ?_)
      refine TL.cons rfl (V1.t (V1.fieldAddr fl_39_4 rfl) ?_)
      refine TL.cons rfl (V1.t (V1.load1 (v := .slice ea f.data.length ec) one_29 rfl (.own (cells := [.int .i64 f.kind, .slice ka f.keys.length kc, .slice na f.nums.length nc, .slice xa f.sigs.length xc, .slice ea f.data.length ec]) z_D (by rfl))) ?_)
      refine TL.cons rfl (V1.t (V1.lenSl ty_29 rfl) ?_)
      refine TL.cons rfl (V1.t (V1.fieldAddr fl_39_1 rfl) ?_)
      refine TL.cons rfl (V1.t (V1.load1 (v := .slice ka f.keys.length kc) one_35 rfl (.own (cells := [.int .i64 f.kind, .slice ka f.keys.length kc, .slice na f.nums.length nc, .slice xa f.sigs.length xc, .slice ea f.data.length ec]) z_D (by rfl))) ?_)
      refine TL.cons rfl (V1.t (V1.lenSl ty_35 rfl) ?_)
      refine TL.cons rfl (V1.t (V1.mul rfl rfl rfl) ?_)
      refine TL.cons rfl (V1.t (V1.add rfl rfl rfl) ?_)
      refine TL.cons rfl (V1.t (V1.fieldAddr fl_39_2 rfl) ?_)
      refine TL.cons rfl (V1.t (V1.load1 (v := .slice na f.nums.length nc) one_36 rfl (.own (cells := [.int .i64 f.kind, .slice ka f.keys.length kc, .slice na f.nums.length nc, .slice xa f.sigs.length xc, .slice ea f.data.length ec]) z_D (by rfl))) ?_)
      refine TL.cons rfl (V1.t (V1.lenSl ty_36 rfl) ?_)
      refine TL.cons rfl (V1.t (V1.mul rfl rfl rfl) ?_)
      refine TL.cons rfl (V1.t (V1.add rfl rfl rfl) ?_)
      refine TL.cons rfl (V1.t (V1.fieldAddr fl_39_3 rfl) ?_)
      refine TL.cons rfl (V1.t (V1.load1 (v := .slice xa f.sigs.length xc) one_37 rfl (.own (cells := [.int .i64 f.kind, .slice ka f.keys.length kc, .slice na f.nums.length nc, .slice xa f.sigs.length xc, .slice ea f.data.length ec]) z_D (by rfl))) ?_)
      refine TL.cons rfl (V1.t (V1.lenSl ty_37 rfl) ?_)
      refine TL.cons rfl (V1.t (V1.mul rfl rfl rfl) ?_)
      refine TL.cons rfl (V1.t (V1.add rfl rfl rfl) ?_)
      refine TL.cons rfl (V1.t (V1.add rfl rfl rfl) ?_)
      refine TL.cons rfl (V1.t (V1.assign' z_B) ?_)
      refine TL.nil ?_
      refine T.live (l := [(0, _), (3, _), (8, _), (9, _), (10, _), (30, _), (31, _), (32, _)]) (.cons z_B (.cons z_B (.cons z_B (.cons z_B (.cons z_B (.cons z_B (.cons z_B (.cons z_B .nil)))))))) (fun e_ => ?_)
      refine T.region ?_
      refine TL.cons rfl (V1.t (V1.add (c := ((j + 1 : Nat) : Int)) rfl rfl (by rw [wrap_i64 _ (by omega) (by omega)]; omega)) ?_)
      refine TL.cons rfl (V1.t (V1.move' z_B) ?_)
      refine TL.nil ?_
      exact ⟨(j + 1, _), G, _, (by simp only; omega), (.cons rfl (.cons rfl .nil)), (.cons rfl (.cons rfl (.cons rfl (.cons rfl (.cons rfl (.cons rfl .nil)))))), z_A, ⟨rfl, by simp only; omega⟩⟩
    ·
      refine TL.nil ?_
      refine T.seq ?_
      refine T.cond_f rfl ?_
      refine T.exit ?_
      refine T.region ?_
      refine TL.cons rfl (V1.t (V1.add (c := ((i + 1 : Nat) : Int)) rfl rfl (by rw [wrap_i64 _ (by omega) (by omega)]; omega)) ?_)
      refine TL.cons rfl (V1.t (V1.move' z_B) ?_)
      refine TL.nil ?_
      exact ⟨(i + 1, _), G, _, (by simp only; omega), (.cons rfl (.cons rfl .nil)), (.cons rfl (.cons rfl (.cons rfl .nil))), z_A, ⟨rfl, by simp only; omega⟩⟩
  ·
    refine TL.nil ?_
    refine T.seq ?_
    refine T.cond_f rfl ?_
    refine T.exit ?_
    refine T.seq ?_
    refine T.region ?_
    refine TL.cons rfl (V1.t (V1.move' z_B) ?_)
    refine TL.cons rfl (V1.t (V1.lenSl ty_47 rfl) ?_)
    refine TL.cons rfl (T1.leI_split rfl rfl (fun h12_2 => ?_) (fun h12_2 => ?_))
    ·
      refine TL.cons rfl (V1.t (V1.move' z_B) ?_)
      refine TL.cons rfl (V1.t (V1.move' z_B) ?_)
      refine TL.cons rfl (T1.leI_split rfl rfl (fun h12_5 => ?_) (fun h12_5 => ?_))
      ·
        refine TL.cons rfl (V1.t (V1.pick rfl z_B) ?_)
        refine TL.cons rfl (V1.t (V1.assign' z_B) ?_)
        refine TL.nil ?_
        refine T.ret ?_
        exact ⟨_, G, _, .cons (.tmp z_B) .nil, z_A, rfl, _, rfl⟩
      ·
        refine TL.cons rfl (V1.t (V1.pick rfl z_B) ?_)
        refine TL.cons rfl (V1.t (V1.assign' z_B) ?_)
        refine TL.nil ?_
        refine T.ret ?_
        exact ⟨_, G, _, .cons (.tmp z_B) .nil, z_A, rfl, _, rfl⟩
    ·
      refine TL.cons rfl (V1.t (V1.move' z_B) ?_)
      refine TL.no rfl ?_
      refine TL.no rfl ?_
      refine TL.cons rfl (V1.t (V1.pick rfl z_B) ?_)
      refine TL.cons rfl (V1.t (V1.assign' z_B) ?_)
      refine TL.nil ?_
      refine T.ret ?_
      exact ⟨_, G, _, .cons (.tmp z_B) .nil, z_A, rfl, _, rfl⟩

theorem SrvO.ok {p : Nat} {ps : List Pr} {X : List Blk} (h : SrvO p ps X) : SrvOk ps := by obtain ⟨_, _, _, _, _, _, h⟩ := h; exact h
theorem Alike.ok {ps ds : List Pr} (h : Alike ps ds) (hok : SrvOk ps) : SrvOk ds := hok.ofPerm h.perm
set_option maxRecDepth 100000 in
set_option maxHeartbeats 8000000 in
theorem sameG (w0 : World) {p : Nat} {ps : List Pr} {X Ps : List Blk} (hS : SrvO p ps X) (hXP : Inc X Ps) {la : Option Addr} {lc : Nat} {ds : List Pr} {css : List (List Value)} (hc : DocC w0 Ps (.slice la ds.length lc) ds css) (hal : Alike ps ds) : FnG P 21 [.pointer (some ⟨p, 0, none⟩), .slice la ds.length lc] w0 Ps [] (fun v _ => v = .bool true) := by
  have hok0 := hS.ok
  have hok := hal.ok hok0
  have hdl := hok.few
  refine FnG.of 55 [.tmp 4] Go.Proofs.Try.func21 rfl rfl rfl rfl (fun G hG => ?_)
  have hXG := hXP.trans hG
  refine T.seq ?_
  refine T.region ?_
  refine TL.cons rfl (V1.t (V1.assign' z_B) ?_)
  refine TL.nil ?_
  refine T.seq ?_
  refine T.region ?_
  refine TL.cons rfl (V1.t (V1.move' z_B) ?_)
  refine TL.cons rfl (T1.callC (Ps := X) has_22 rfl rfl (People_any w0 hS hok0.few) z_E (fun v_ Yp hv => ?_))
  obtain ⟨ns, hpp, hpw, hsl⟩ := hv
  obtain rfl : ns = ds.map Pr.name := asc_unique (hpp.trans (hal.perm.map Pr.name).symm) hpw hal.ord
  obtain ⟨pa, pc, rfl⟩ := hsl.of (n := ds.length) (by simp) (by decide)
  refine TL.cons rfl (V1.t (V1.assign' z_B) ?_)
  refine TL.nil ?_
  refine T.seq ?_
  refine T.seq ?_
  refine T.region ?_
  refine TL.cons rfl (V1.t (V1.move' z_B) ?_)
  refine TL.cons rfl (V1.t (V1.lenSl ty_36 rfl) ?_)
  refine TL.cons rfl (V1.t (V1.move' z_B) ?_)
  refine TL.cons rfl (V1.t (V1.lenSl ty_49 rfl) ?_)
  refine TL.cons rfl (V1.t (V1.neI (r := false) rfl rfl (decide_eq_false (fun h => h rfl))) ?_)
  refine TL.nil ?_
  refine T.cond_f rfl ?_
  refine T.skip ?_
  refine T.seq ?_
  refine T.seq ?_
  refine T.region ?_
  refine TL.cons rfl (V1.t (V1.move' z_B) ?_)
  refine TL.cons rfl (V1.t (V1.lenSl ty_49 rfl) ?_)
  refine TL.cons rfl (V1.t (V1.move' z_B) ?_)
  refine TL.nil ?_
  refine T.block ?_
  refine T.loopL (σ := Nat) (l0 := [(0, _), (5, _), (15, _), (16, _)]) (fun x => [(17, .int .i64 ((x : Nat) : Int))]) (fun i L => L = Yp ++ G ∧ i ≤ ds.length) (fun i => ds.length - i) 0 (.cons rfl .nil) (.cons z_B (.cons z_B (.cons z_B (.cons z_B .nil)))) z_A (⟨rfl, Nat.zero_le _⟩) ?_
  rintro i e_ L ⟨rfl, hi⟩
  refine T.seq ?_
  refine T.region ?_
  refine TL.cons rfl (T1.ltI_split rfl rfl (fun h5 => ?_) (fun h5 => ?_))
  ·
    obtain ⟨d, hdi⟩ : ∃ d, ds[i]? = some d := ⟨_, List.getElem?_eq_getElem (by omega)⟩
    obtain ⟨lb, lo, so, sn, sb, oc, nc, rfl, hcs, p1, p2, p3, hrd⟩ := hc.at hdi
    have hones : ∀ u ∈ [.int .i64 (d.name : Nat), so, sn, sb], one u = true := (show PerR w0 Ps d _ from ⟨_, _, _, _, _, rfl, p1, p2, p3⟩).ones.2
    obtain ⟨oa, occ, rfl⟩ := p1.row.row.form
    obtain ⟨na, ncc, rfl⟩ := p2.row.row.form
    obtain ⟨ga, gcc, rfl⟩ := p3.row.form
    have hdo : d.Ok := hok.each d (List.mem_of_getElem? hdi)
    have hdb := hdo.bytes
    have hdx := hdo.box
    have hdw := hdo.few
    obtain ⟨yb, yo, ysz, rfl, rfl, _⟩ := hsl.someK (by omega)
    have hnm := hdo.name
    have hfp : findP ps d.name = some d := by rw [← hal.find hok0]; exact (findP_iff ((hal.perm.map Pr.name).nodup_iff.2 hok0.names)).2 ⟨List.mem_of_getElem? hdi, rfl⟩
    have hwt : waitP ps d.name = d.box.length := by unfold waitP; rw [hfp]; rfl
    have hlf : leftP ps d.name = d.once.length := by unfold leftP; rw [hfp]; rfl
    refine TL.nil ?_
    refine T.seq ?_
    refine T.cond_t rfl ?_
    refine T.skip ?_
    refine T.seq ?_
    refine T.block ?_
    refine T.seq ?_
    refine T.region ?_
    refine TL.cons rfl (V1.t (V1.move' z_B) ?_)
    refine TL.cons rfl (V1.t (V1.indexAddrS ty_49 sz_101 rfl rfl (by omega) (by omega)) ?_)
    refine TL.cons rfl (V1.t (V1.loadN (vs := [.int .i64 (d.name : Nat), .slice oa d.offer.toList.length occ, .slice na d.once.length ncc, .slice ga d.box.length gcc]) one_101 sz_101 rfl (hrd _ rfl rfl _ z_E) rfl) ?_)
    refine TL.cons rfl (T1.allocN 4 zr_101 rfl (fun b7 => ?_))
    refine TL.cons rfl (V1.t (V1.assign' z_B) ?_)
    refine TL.cons rfl (T1.storeN (vs := [.int .i64 (d.name : Nat), .slice oa d.offer.toList.length occ, .slice na d.once.length ncc, .slice ga d.box.length gcc]) rfl rfl sz_101 hones z_H (by rfl) (by rfl) ?_)
    refine TL.nil ?_
    refine T.seq ?_
    refine T.drawDet' mixed z_F ?_
    refine Det.cons 0 (ins := [(5, _)]) (.old z_B z_F .nil) (fun e_ => .inl ⟨rfl, V1.t (V1.move' z_B) ⟨rfl, rfl⟩⟩) ?_
    refine Det.cons 1 (ins := [(6, _)]) (.old z_B z_F .nil) (fun e_ => .inl ⟨rfl, V1.t (V1.move' z_B) ⟨rfl, rfl⟩⟩) ?_
    refine Det.cons 2 (ins := [(22, _), (23, _)]) (.new 0 1 z_F rfl rfl (.new 1 0 z_F rfl rfl .nil)) (fun e_ => .inl ⟨rfl, V1.t (V1.indexAddrS ty_36 sz_27 rfl rfl (by omega) (by omega)) ⟨rfl, rfl⟩⟩) ?_
    refine Det.cons 3 (ins := [(24, _)]) (.new 2 0 z_F rfl rfl .nil) (fun e_ => .inl ⟨rfl, V1.t (V1.load1 (v := u32V d.name) one_27 rfl (ib_rd (b := yb) (off := yo) (cs := (ds.map Pr.name).map u32V) (k := i) z_D (by rw [List.getElem?_map, List.getElem?_map, hdi]; rfl))) ⟨rfl, rfl⟩⟩) ?_
    refine Det.cons 4 (ins := [(25, _)]) (.new 3 0 z_F rfl rfl .nil) (fun e_ => .inl ⟨rfl, V1.t (V1.conv (c := ((d.name : Nat) : Int)) ty_27 ty_3 rfl (wrap_i64 _ (by omega) (by omega))) ⟨rfl, rfl⟩⟩) ?_
    refine Det.cons 5 (ins := [(7, _)]) (.old z_B z_F .nil) (fun e_ => .inl ⟨rfl, V1.t (V1.fieldAddr fl_101_0 rfl) ⟨rfl, rfl⟩⟩) ?_
    refine Det.cons 6 (ins := [(27, _)]) (.new 5 0 z_F rfl rfl .nil) (fun e_ => .inl ⟨rfl, V1.t (V1.load1 (v := .int .i64 (d.name : Nat)) one_3 rfl (.own (cells := [.int .i64 (d.name : Nat), .slice oa d.offer.toList.length occ, .slice na d.once.length ncc, .slice ga d.box.length gcc]) z_D (by rfl))) ⟨rfl, rfl⟩⟩) ?_
    refine Det.cons 7 (ins := [(26, _), (28, _)]) (.new 4 2 z_F rfl rfl (.new 6 0 z_F rfl rfl .nil)) (fun e_ => .inl ⟨rfl, V1.t (V1.neI (r := false) rfl rfl (decide_eq_false (fun h => h rfl))) ⟨rfl, rfl⟩⟩) ?_
    refine Det.cons 8 (ins := [(29, _)]) (.new 7 0 z_F rfl rfl .nil) (fun e_ => .inl ⟨rfl, V1.t (V1.move' z_B) ⟨rfl, rfl⟩⟩) ?_
    refine Det.cons 9 (ins := [(0, _), (30, _)]) (.old z_B z_F (.new 8 0 z_F rfl rfl .nil)) (fun e_ => .inl ⟨rfl, V1.t (V1.move' z_B) ⟨rfl, rfl⟩⟩) ?_
    refine Det.cons 10 (ins := [(5, _), (30, _)]) (.old z_B z_F (.new 8 1 z_F rfl rfl .nil)) (fun e_ => .inl ⟨rfl, V1.t (V1.move' z_B) ⟨rfl, rfl⟩⟩) ?_
    refine Det.cons 11 (ins := [(6, _), (30, _)]) (.old z_B z_F (.new 8 2 z_F rfl rfl .nil)) (fun e_ => .inl ⟨rfl, V1.t (V1.move' z_B) ⟨rfl, rfl⟩⟩) ?_
    refine Det.cons 12 (ins := [(30, _), (32, _), (33, _)]) (.new 8 3 z_F rfl rfl (.new 10 1 z_F rfl rfl (.new 11 0 z_F rfl rfl .nil))) (fun e_ => .inl ⟨rfl, V1.t (V1.indexAddrS ty_36 sz_27 rfl rfl (by omega) (by omega)) ⟨rfl, rfl⟩⟩) ?_
    refine Det.cons 13 (ins := [(30, _), (34, _)]) (.new 8 4 z_F rfl rfl (.new 12 0 z_F rfl rfl .nil)) (fun e_ => .inl ⟨rfl, V1.t (V1.load1 (v := u32V d.name) one_27 rfl (ib_rd (b := yb) (off := yo) (cs := (ds.map Pr.name).map u32V) (k := i) z_D (by rw [List.getElem?_map, List.getElem?_map, hdi]; rfl))) ⟨rfl, rfl⟩⟩) ?_
    refine Det.cons 14 (ins := [(30, _), (31, _), (35, _)]) (v := .int .i64 (d.box.length : Nat)) (.new 8 5 z_F rfl rfl (.new 9 4 z_F rfl rfl (.new 13 0 z_F rfl rfl .nil))) (fun e_ => .inl ⟨rfl, ?_⟩) ?_
    · refine T1.callV («as» := [.pointer (some ⟨p, 0, none⟩), u32V d.name]) (Ps := X) has_12 rfl rfl (Waiting_any w0 hS d.name) z_E (fun v_ hv => ?_)
      rw [hwt] at hv
      subst hv
      exact ⟨rfl, rfl⟩
    refine Det.cons 15 (ins := [(7, _), (30, _)]) (.old z_B z_F (.new 8 6 z_F rfl rfl .nil)) (fun e_ => .inl ⟨rfl, V1.t (V1.fieldAddr fl_101_3 rfl) ⟨rfl, rfl⟩⟩) ?_
    refine Det.cons 16 (ins := [(30, _), (37, _)]) (.new 8 7 z_F rfl rfl (.new 15 0 z_F rfl rfl .nil)) (fun e_ => .inl ⟨rfl, V1.t (V1.load1 (v := .slice ga d.box.length gcc) one_99 rfl (.own (cells := [.int .i64 (d.name : Nat), .slice oa d.offer.toList.length occ, .slice na d.once.length ncc, .slice ga d.box.length gcc]) z_D (by rfl))) ⟨rfl, rfl⟩⟩) ?_
    refine Det.cons 17 (ins := [(30, _), (38, _)]) (.new 8 8 z_F rfl rfl (.new 16 0 z_F rfl rfl .nil)) (fun e_ => .inl ⟨rfl, V1.t (V1.lenSl ty_99 rfl) ⟨rfl, rfl⟩⟩) ?_
    refine Det.cons 18 (ins := [(30, _), (36, _), (39, _)]) (.new 8 9 z_F rfl rfl (.new 14 3 z_F rfl rfl (.new 17 0 z_F rfl rfl .nil))) (fun e_ => .inl ⟨rfl, V1.t (V1.neI (r := false) rfl rfl (decide_eq_false (fun h => h rfl))) ⟨rfl, rfl⟩⟩) ?_
    refine Det.cons 19 (ins := [(30, _), (40, _)]) (.new 8 10 z_F rfl rfl (.new 18 0 z_F rfl rfl .nil)) (fun e_ => .inl ⟨rfl, V1.t (V1.pick rfl z_B) ⟨rfl, rfl⟩⟩) ?_
    refine Det.cons 20 (ins := [(41, _)]) (.new 19 0 z_F rfl rfl .nil) (fun e_ => .inl ⟨rfl, V1.t (V1.move' z_B) ⟨rfl, rfl⟩⟩) ?_
    refine Det.cons 21 (ins := [(0, _), (42, _)]) (.old z_B z_F (.new 20 0 z_F rfl rfl .nil)) (fun e_ => .inl ⟨rfl, V1.t (V1.move' z_B) ⟨rfl, rfl⟩⟩) ?_
    refine Det.cons 22 (ins := [(5, _), (42, _)]) (.old z_B z_F (.new 20 1 z_F rfl rfl .nil)) (fun e_ => .inl ⟨rfl, V1.t (V1.move' z_B) ⟨rfl, rfl⟩⟩) ?_
    refine Det.cons 23 (ins := [(6, _), (42, _)]) (.old z_B z_F (.new 20 2 z_F rfl rfl .nil)) (fun e_ => .inl ⟨rfl, V1.t (V1.move' z_B) ⟨rfl, rfl⟩⟩) ?_
    refine Det.cons 24 (ins := [(42, _), (44, _), (45, _)]) (.new 20 3 z_F rfl rfl (.new 22 1 z_F rfl rfl (.new 23 0 z_F rfl rfl .nil))) (fun e_ => .inl ⟨rfl, V1.t (V1.indexAddrS ty_36 sz_27 rfl rfl (by omega) (by omega)) ⟨rfl, rfl⟩⟩) ?_
    refine Det.cons 25 (ins := [(42, _), (46, _)]) (.new 20 4 z_F rfl rfl (.new 24 0 z_F rfl rfl .nil)) (fun e_ => .inl ⟨rfl, V1.t (V1.load1 (v := u32V d.name) one_27 rfl (ib_rd (b := yb) (off := yo) (cs := (ds.map Pr.name).map u32V) (k := i) z_D (by rw [List.getElem?_map, List.getElem?_map, hdi]; rfl))) ⟨rfl, rfl⟩⟩) ?_
    refine Det.cons 26 (ins := [(42, _), (43, _), (47, _)]) (v := .int .i64 (d.once.length : Nat)) (.new 20 5 z_F rfl rfl (.new 21 4 z_F rfl rfl (.new 25 0 z_F rfl rfl .nil))) (fun e_ => .inl ⟨rfl, ?_⟩) ?_
    · refine T1.callV («as» := [.pointer (some ⟨p, 0, none⟩), u32V d.name]) (Ps := X) has_17 rfl rfl (Left_any w0 hS d.name) z_E (fun v_ hv => ?_)
      rw [hlf] at hv
      subst hv
      exact ⟨rfl, rfl⟩
    refine Det.cons 27 (ins := [(7, _), (42, _)]) (.old z_B z_F (.new 20 6 z_F rfl rfl .nil)) (fun e_ => .inl ⟨rfl, V1.t (V1.fieldAddr fl_101_2 rfl) ⟨rfl, rfl⟩⟩) ?_
    refine Det.cons 28 (ins := [(42, _), (49, _)]) (.new 20 7 z_F rfl rfl (.new 27 0 z_F rfl rfl .nil)) (fun e_ => .inl ⟨rfl, V1.t (V1.load1 (v := .slice na d.once.length ncc) one_42 rfl (.own (cells := [.int .i64 (d.name : Nat), .slice oa d.offer.toList.length occ, .slice na d.once.length ncc, .slice ga d.box.length gcc]) z_D (by rfl))) ⟨rfl, rfl⟩⟩) ?_
    refine Det.cons 29 (ins := [(42, _), (50, _)]) (.new 20 8 z_F rfl rfl (.new 28 0 z_F rfl rfl .nil)) (fun e_ => .inl ⟨rfl, V1.t (V1.lenSl ty_42 rfl) ⟨rfl, rfl⟩⟩) ?_
    refine Det.cons 30 (ins := [(42, _), (48, _), (51, _)]) (.new 20 9 z_F rfl rfl (.new 26 3 z_F rfl rfl (.new 29 0 z_F rfl rfl .nil))) (fun e_ => .inl ⟨rfl, V1.t (V1.neI (r := false) rfl rfl (decide_eq_false (fun h => h rfl))) ⟨rfl, rfl⟩⟩) ?_
    refine Det.cons 31 (ins := [(42, _), (52, _)]) (.new 20 10 z_F rfl rfl (.new 30 0 z_F rfl rfl .nil)) (fun e_ => .inl ⟨rfl, V1.t (V1.pick rfl z_B) ⟨rfl, rfl⟩⟩) ?_
    refine Det.nil 32 (l := [(0, _), (5, _), (15, _), (16, _), (17, _), (53, _)]) (.old z_B z_F (.old z_B z_F (.old z_B z_F (.old z_B z_F (.old z_B z_F (.new 31 0 z_F rfl rfl .nil)))))) (fun e_ => ?_)
    refine T.cond_f rfl ?_
    refine T.skip ?_
    refine T.region ?_
    refine TL.cons rfl (V1.t (V1.add (c := ((i + 1 : Nat) : Int)) rfl rfl (by rw [wrap_i64 _ (by omega) (by omega)]; omega)) ?_)
    refine TL.cons rfl (V1.t (V1.move' z_B) ?_)
    refine TL.nil ?_
    exact ⟨i + 1, _, _, (by simp only; omega), (.cons rfl .nil), (.cons rfl (.cons rfl (.cons rfl (.cons rfl .nil)))), z_A, ⟨rfl, by omega⟩⟩
  ·
    refine TL.nil ?_
    refine T.seq ?_
    refine T.cond_f rfl ?_
    refine T.exit ?_
    refine T.seq ?_
    refine T.region ?_
    refine TL.cons rfl (V1.t (V1.assign' z_B) ?_)
    refine TL.nil ?_
    refine T.ret ?_
    exact ⟨_, G, _, .cons (.tmp z_B) .nil, z_A, [], rfl, rfl⟩

end Go.Proofs.Ytijijaobialncaa.S
