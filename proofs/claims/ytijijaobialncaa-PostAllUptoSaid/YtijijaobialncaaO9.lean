/- An offer is left, with others for once. -/
import Derived.Test.YtijijaobialncaaO8
namespace Go.Proofs.Ytijijaobialncaa.S
open Go.RowKit

/-- Frames that can be read. -/
structure FrsR (w0 : World) (Ps : List Blk) (v : Value) (fs : List Frm) (css : List (List Value)) : Prop where
  row : RowR w0 Ps 5 v fs.length css.flatten
  len : css.length = fs.length
  five : ∀ cs ∈ css, cs.length = 5 ∧ ∀ u ∈ cs, one u = true
  each : ∀ (i : Nat) (f : Frm) (cs : List Value), fs[i]? = some f → css[i]? = some cs → FrmR w0 Ps (.agg cs.toArray) f
theorem FrmR.cells {w0 : World} {Ps : List Blk} {v : Value} {f : Frm} (h : FrmR w0 Ps v f) : ∃ cs, v = .agg cs.toArray ∧ cs.length = 5 ∧ (∀ u ∈ cs, one u = true) ∧ ∃ k tl, cs = .int .i64 f.kind :: tl ∧ k = f.kind := by
  obtain ⟨⟨sk, sn, ss, sd, rfl, h1, h2, h3, h4⟩, hw⟩ := h
  refine ⟨_, rfl, rfl, fun u hu => ?_, _, _, rfl, rfl⟩
  obtain ⟨a1, c1, rfl⟩ := h1.row.form
  obtain ⟨a2, c2, rfl⟩ := h2.row.form
  obtain ⟨a3, c3, rfl⟩ := h3.row.form
  obtain ⟨a4, c4, rfl⟩ := h4.form
  simp only [List.mem_cons, List.not_mem_nil, or_false] at hu
  rcases hu with rfl | rfl | rfl | rfl | rfl <;> rfl
theorem flat5 : ∀ {css : List (List Value)}, (∀ cs ∈ css, cs.length = 5) → css.flatten.length = css.length * 5
  | [], _ => rfl
  | c :: css, h => by rw [List.flatten_cons, List.length_append, h c (by simp), flat5 fun x hx => h x (by simp [hx]), List.length_cons]; omega
theorem flat5_at : ∀ {css : List (List Value)} {i : Nat} {cs : List Value}, (∀ cs ∈ css, cs.length = 5) → css[i]? = some cs → ∃ a b, css.flatten = a ++ (cs ++ b) ∧ a.length = i * 5
  | c :: css, 0, cs, _, h => by simp at h; subst h; exact ⟨[], css.flatten, by simp, rfl⟩
  | c :: css, i + 1, cs, h5, h => by
    obtain ⟨a, b, h1, h2⟩ := flat5_at (css := css) (fun x hx => h5 x (by simp [hx])) (by simpa using h)
    exact ⟨c ++ a, b, by rw [List.flatten_cons, h1, List.append_assoc], by rw [List.length_append, h5 c (by simp), h2]; omega⟩
theorem RdN.mid5 {C : Ctx} {L : List Blk} {b o : Nat} {a xs ys : List Value} {k : Nat} (h : RdN C L ⟨b, o, none⟩ (a ++ (xs ++ ys))) (ha : a.length = k) : RdN C L ⟨b, o + k, none⟩ xs := by
  intro i v hv
  have hi := (List.getElem?_eq_some_iff.1 hv).1
  have := h (k + i) v (by rw [List.getElem?_append_right (by omega), show k + i - a.length = i by omega, List.getElem?_append_left hi]; exact hv)
  show Rd C L ⟨b, o + k + i, none⟩ v
  rw [Nat.add_assoc]; exact this
theorem pubP_none {ps : List Pr} {n : Nat} {o : Frm} {fs : List Frm} (h : findP ps n = none) : pubP ps n o fs = (ps, 4) := by unfold pubP; rw [h]
theorem pubP_shape {ps : List Pr} {n : Nat} {o : Frm} {fs : List Frm} {d : Pr} {i : Nat} {f : Frm} (h : findP ps n = some d) (hi : (o :: fs)[i]? = some f) (hf : f.bundle = false) : pubP ps n o fs = (ps, 110) := by
  unfold pubP; rw [h]; dsimp only
  rw [if_neg]
  intro hall
  rw [List.all_eq_true] at hall
  have := hall f (List.mem_of_getElem? hi)
  rw [hf] at this; cases this
theorem pubP_full {ps : List Pr} {n : Nat} {o : Frm} {fs : List Frm} {d : Pr} (h : findP ps n = some d) (hb : ∀ f ∈ o :: fs, f.bundle = true) (hf : 100 < d.once.length + fs.length) : pubP ps n o fs = (ps, 3) := by
  unfold pubP; rw [h]; dsimp only
  rw [if_pos (List.all_eq_true.2 hb), if_pos hf]
theorem pubP_ok {ps : List Pr} {n : Nat} {o : Frm} {fs : List Frm} {d : Pr} (h : findP ps n = some d) (hb : ∀ f ∈ o :: fs, f.bundle = true) (hf : d.once.length + fs.length ≤ 100) : pubP ps n o fs = (setP ps { d with offer := some o, once := d.once ++ fs }, 0) := by
  unfold pubP; rw [h]; dsimp only
  rw [if_pos (List.all_eq_true.2 hb), if_neg (by omega)]
theorem Pr.pub_ok {d : Pr} {o : Frm} {fs : List Frm} (h : d.Ok) (hb : ∀ f ∈ o :: fs, f.bundle = true) (hw : ∀ f ∈ o :: fs, f.Wf) (hf : d.once.length + fs.length ≤ 100) : ({ d with offer := some o, once := d.once ++ fs } : Pr).Ok := by
  refine ⟨h.name, fun f hf' => ?_, fun f hf' => ?_, by show (d.once ++ fs).length ≤ 100; rw [List.length_append]; exact hf, h.box, h.bytes⟩
  · have : f = o := by simpa using hf'.symm
    subst this
    exact ⟨hw f (by simp), Frm.bundle_few (hb f (by simp))⟩
  · rcases List.mem_append.1 hf' with hf' | hf'
    · exact h.once f hf'
    · exact ⟨hw f (by simp [hf']), Frm.bundle_few (hb f (by simp [hf']))⟩
theorem FrmR.cells2 {w0 : World} {Ps : List Blk} {cs : List Value} {f : Frm} (h : FrmR w0 Ps (.agg cs.toArray) f) : cs.length = 5 ∧ (∀ u ∈ cs, one u = true) ∧ ∃ tl, cs = .int .i64 f.kind :: tl := by
  obtain ⟨cs', e, h1, h2, _, tl, h3, _⟩ := h.cells
  have : cs = cs' := by
    injection e with e
    exact congrArg Array.toList e
  subst this
  exact ⟨h1, h2, tl, h3⟩
theorem FrsR.cons {w0 : World} {Ps : List Blk} {v : Value} {o : Frm} {co : List Value} {fs : List Frm} {css : List (List Value)} (ho : FrmR w0 Ps (.agg co.toArray) o) (h : FrsR w0 Ps v fs css) : ∀ (i : Nat) (f : Frm) (cs : List Value), (o :: fs)[i]? = some f → (co :: css)[i]? = some cs → FrmR w0 Ps (.agg cs.toArray) f
  | 0, f, cs, h1, h2 => by simp at h1 h2; subst h1; subst h2; exact ho
  | i + 1, f, cs, h1, h2 => h.each i f cs (by simpa using h1) (by simpa using h2)
theorem bundle_err {f : Frm} {e : Int} (h : f.enc = .error e) : f.bundle = false := by unfold Frm.bundle; rw [h]
theorem bundle_of {f : Frm} {l : List UInt8} (h : f.enc = .ok l) : f.bundle = decide (f.kind = 1) := by unfold Frm.bundle; rw [h]
set_option maxRecDepth 100000 in
set_option maxHeartbeats 8000000 in
theorem Publish_any (w0 : World) (Ps : List Blk) {p : Nat} {ps : List Pr} {X : List Blk} (h : SrvO p ps X) (n : Nat) {co : List Value} {o : Frm} (hoF : FrmR w0 Ps (.agg co.toArray) o) {vl : Value} {fs : List Frm} {css : List (List Value)} (hfs : FrsR w0 Ps vl fs css) (hfl : fs.length ≤ 1100000) : FnG P 16 [.pointer (some ⟨p, 0, none⟩), u32V n, .agg co.toArray, vl] w0 Ps X (fun v Y => v = .int .i64 (pubP ps n o fs).2 ∧ SrvO p (pubP ps n o fs).1 Y) := by
  obtain ⟨b, ms, Z, hX, hZ, rfl, hok⟩ := h
  refine FnG.perm hX ?_
  obtain ⟨hco5, hco1, _⟩ := hoF.cells2
  obtain ⟨la, lc, rfl⟩ := hfs.row.form
  have hall5 : ∀ c_ ∈ co :: css, c_.length = 5 := fun c_ hc_ => by rcases List.mem_cons.1 hc_ with rfl | hc_; exact hco5; exact (hfs.five c_ hc_).1
  have hones : ∀ u ∈ css.flatten, one u = true := fun u hu => by obtain ⟨c_, hc_, hu⟩ := List.mem_flatten.1 hu; exact (hfs.five c_ hc_).2 u hu
  have hwf : ∀ f ∈ o :: fs, f.Wf := fun f hf => by obtain ⟨i, hi⟩ := List.getElem?_of_mem hf; obtain ⟨c_, hc_⟩ : ∃ c_, (co :: css)[i]? = some c_ := ⟨_, List.getElem?_eq_getElem (by have := (List.getElem?_eq_some_iff.1 hi).1; rw [List.length_cons] at this ⊢; rw [hfs.len]; exact this)⟩; exact (FrsR.cons hoF hfs i f c_ hi hc_).wf
  refine FnG.of 79 [.tmp 8] Go.Proofs.Try.func16 rfl rfl rfl rfl (fun G hG => ?_)
  simp only [List.cons_append]
  refine T.seq ?_
  refine T.region ?_
  refine TL.cons rfl (T1.boxN (vs := co) 5 rfl hco5 (fun b6 => ?_))
  refine TL.cons rfl (V1.t (V1.assign' z_B) ?_)
  refine TL.nil ?_
  refine T.seq ?_
  refine T.region ?_
  refine TL.cons rfl (V1.t (V1.move' z_B) ?_)
  refine TL.cons rfl (V1.t (V1.nilCheck rfl) ?_)
  refine TL.cons rfl (V1.t (V1.fieldAddr fl_65_0 rfl) ?_)
  refine TL.cons rfl (V1.t (V1.load1 one_63 rfl (.own z_D (by rfl))) ?_)
  refine TL.cons rfl (V1.t (V1.move' z_B) ?_)
  refine TL.cons rfl (V1.t (V1.lookup (q := qU n) (kv := (kvM ms).map fun x => (u32V x.1, x.2)) (v := ptrM (atM ms n)) ty_63 zr_66 ty_27 rfl rfl rfl z_D (kvM_now _ _) (kvM_find _ _ _)) ?_)
  rcases hat : atM ms n with _ | ⟨pb, d⟩
  ·
    have hfn := atM_none hat
    refine TL.cons rfl (V1.t (V1.assign' z_B) ?_)
    refine TL.nil ?_
    refine T.seq ?_
    refine T.seq ?_
    refine T.region ?_
    refine TL.cons rfl (V1.t (V1.move' z_B) ?_)
    refine TL.cons rfl (V1.t (V1.eqPn ty_66 rfl rfl) ?_)
    refine TL.nil ?_
    refine T.cond_t rfl ?_
    refine T.seq ?_
    refine T.region ?_
    refine TL.cons rfl (V1.t (V1.assign' z_B) ?_)
    refine TL.nil ?_
    refine T.ret ?_
    exact ⟨_, (⟨p, 0, [.map (some b)], 1⟩ : Blk) :: mapM b ms :: (Z ++ G), _, .cons (.tmp z_B) .nil, z_A, (⟨p, 0, [.map (some b)], 1⟩ : Blk) :: mapM b ms :: Z, rfl, by rw [pubP_none hfn]; rfl, by rw [pubP_none hfn]; exact ⟨b, ms, Z, List.Perm.refl _, hZ, rfl, hok⟩⟩
  ·
    obtain ⟨A, B, rfl, hdn, hfp⟩ := atM_some hat
    obtain ⟨XA, X1, XB, rfl, hpr, hback⟩ := hZ.at
    obtain ⟨ov, sv, fv, cs, vs, Xo, Xr, Xc, Xb, Xl, ho, hs, hc, hbx, hl, rfl⟩ := hpr
    obtain ⟨sa, sc, rfl⟩ := hs.of hc.len (by decide)
    obtain ⟨fa, fc, rfl⟩ := hbx.of (n := d.box.length) (by rw [Nat.mul_one]; exact hl.len) (by decide)
    have hdo := hok.each d (by simp)
    have hdb := hdo.bytes
    have hdx := hdo.box
    have hdf := hdo.few
    simp only [List.append_assoc, List.cons_append]
    refine TL.cons rfl (V1.t (V1.assign' z_B) ?_)
    refine TL.nil ?_
    refine T.seq ?_
    refine T.seq ?_
    refine T.region ?_
    refine TL.cons rfl (V1.t (V1.move' z_B) ?_)
    refine TL.cons rfl (V1.t (V1.eqPn ty_66 rfl rfl) ?_)
    refine TL.nil ?_
    refine T.cond_f rfl ?_
    refine T.skip ?_
    refine T.seq ?_
    refine T.seq ?_
    refine T.region ?_
    refine TL.cons rfl (V1.t (V1.loadN (vs := co) one_39 sz_39 rfl (RdN.whole z_D) hco5) ?_)
    refine TL.cons rfl (T1.buildSlN (os := [.tmp 25]) (vss := [co]) ty_42 sz_39 zr_39 (by decide) rfl (.cons z_B .nil) z_K (by rfl) (by intro y hy; simp only [List.mem_singleton] at hy; subst hy; exact hco5) (fun b26 => ?_))
    refine TL.cons rfl (V1.t (V1.move' z_B) ?_)
    refine TL.cons rfl (T1.append ty_42 kd_42 sz_39 by_39 zr_39 rfl (by decide) (by decide) rfl rfl (Sl.mk (b := b26) (off := 0) (len := 1) (cap := 1) (size := 1 * 5) (xs := [co].flatten) (by simp [hco5]) (Nat.le_refl _) (by decide)) (hfs.row.src _ rfl rfl _ z_E) hones 1200000 (by have := hfs.row.len; simp only [List.flatten_cons, List.flatten_nil, List.append_nil]; omega) (by decide) z_C (fun s28 L28 hs28 => ?_))
    replace hs28 : Sl s28 (co :: css).flatten 5 L28 := by simpa using hs28
    obtain ⟨qa, qc, rfl⟩ := hs28.of (n := fs.length + 1) (by rw [flat5 hall5, List.length_cons, hfs.len]) (by decide)
    obtain ⟨qb, qo, qsz, rfl, rfl, _⟩ := hs28.someK (by omega)
    simp only [List.cons_append, List.nil_append]
    refine TL.cons rfl (V1.t (V1.lenSl ty_42 rfl) ?_)
    refine TL.cons rfl (V1.t (V1.move' z_B) ?_)
    refine TL.nil ?_
    refine T.block ?_
    refine T.loopL (σ := Nat) (l0 := [(3, _), (6, _), (9, _), (28, _), (29, _)]) (fun x => [(30, .int .i64 (x : Nat))]) (fun i L => L = (⟨qb, qo, (co :: css).flatten, qsz⟩ : Blk) :: (⟨b6, 0, co, 5⟩ : Blk) :: (⟨p, 0, [.map (some b)], 1⟩ : Blk) :: mapM b (A ++ (pb, d) :: B) :: (XA ++ ((⟨pb, 0, [ov, .slice sa d.once.length sc, .slice fa d.box.length fc, .int .i64 (d.bytes : Nat)], 4⟩ : Blk) :: (Xo ++ (Xr ++ (Xc ++ (Xb ++ (Xl ++ (XB ++ G)))))))) ∧ i ≤ fs.length + 1 ∧ ∀ f ∈ (o :: fs).take i, f.bundle = true) (fun i => fs.length + 1 - i) 0 (.cons rfl .nil) (.cons z_B (.cons z_B (.cons z_B (.cons z_B (.cons z_B .nil))))) z_A (⟨rfl, Nat.zero_le _, by simp⟩) ?_
    rintro i e_ L ⟨rfl, hi, hb0⟩
    refine T.seq ?_
    refine T.region ?_
    refine TL.cons rfl (T1.ltI_split rfl rfl (fun h5 => ?_) (fun h5 => ?_))
    ·
      obtain ⟨f, hfx⟩ : ∃ f, (o :: fs)[i]? = some f := ⟨_, List.getElem?_eq_getElem (by (try simp only [List.length_cons]); omega)⟩
      obtain ⟨cs1, hcx⟩ : ∃ c_, (co :: css)[i]? = some c_ := ⟨_, List.getElem?_eq_getElem (by (try simp only [List.length_cons]); have := hfs.len; omega)⟩
      have hfr : FrmR w0 Ps (.agg cs1.toArray) f := FrsR.cons hoF hfs i f cs1 hfx hcx
      obtain ⟨hcs5, hcs1, tl, rfl⟩ := hfr.cells2
      obtain ⟨ca, cb, hfl2, hcal⟩ := flat5_at hall5 hcx
      refine TL.nil ?_
      refine T.seq ?_
      refine T.cond_t rfl ?_
      refine T.skip ?_
      refine T.seq ?_
      refine T.block ?_
      refine T.seq ?_
      refine T.region ?_
      refine TL.cons rfl (V1.t (V1.indexAddrS ty_42 sz_39 rfl rfl (by omega) (by omega)) ?_)
      refine TL.cons rfl (V1.t (V1.loadN (vs := (.int .i64 f.kind :: tl)) one_39 sz_39 rfl (RdN.mid5 (a := ca) (ys := cb) (by rw [← hfl2]; exact RdN.at0 z_D) hcal) hcs5) ?_)
      refine TL.cons rfl (T1.allocN 5 zr_39 rfl (fun b11 => ?_))
      refine TL.cons rfl (T1.storeN (vs := (.int .i64 f.kind :: tl)) rfl rfl sz_39 hcs1 z_H (by rw [hcs5]; rfl) hcs5 ?_)
      refine TL.nil ?_
      refine T.seq ?_
      refine T.region ?_
      refine TL.cons rfl (V1.t (V1.loadN (vs := (.int .i64 f.kind :: tl)) one_39 sz_39 rfl (RdN.whole z_D) hcs5) ?_)
      refine TL.cons rfl (T1.callC has_25 rfl rfl (Encode_G w0 hfr) z_E (fun v_ Ye hv => ?_))
      rcases encO_cases hv with ⟨e1, henc, he1, rfl, rfl⟩ | ⟨l2, ea, ec, henc, rfl, hs2⟩
      ·
        rw [List.nil_append]
        refine TL.cons rfl (V1.t (V1.move' z_B) ?_)
        refine TL.cons rfl (V1.t (V1.extract rfl (by rfl)) ?_)
        refine TL.cons rfl (V1.t (V1.extract rfl (by rfl)) ?_)
        refine TL.cons rfl (V1.t (V1.assign' z_B) ?_)
        refine TL.cons rfl (V1.t (V1.assign' z_B) ?_)
        refine TL.nil ?_
        refine T.seq ?_
        refine T.region ?_
        refine TL.cons rfl (V1.t (V1.move' z_B) ?_)
        refine TL.cons rfl (V1.t (V1.neI (r := true) rfl rfl (by rcases he1 with rfl | rfl <;> rfl)) ?_)
        refine TL.cons rfl (V1.t (V1.move' z_B) ?_)
        refine TL.no rfl ?_
        refine TL.no rfl ?_
        refine TL.no rfl ?_
        refine TL.cons rfl (V1.t (V1.pick rfl z_B) ?_)
        refine TL.nil ?_
        refine T.cond_t rfl ?_
        refine T.seq ?_
        refine T.live (l := []) .nil (fun e_ => ?_)
        refine T.region ?_
        refine TL.cons rfl (V1.t (V1.assign' z_B) ?_)
        refine TL.nil ?_
        refine T.ret ?_
        exact ⟨_, (⟨p, 0, [.map (some b)], 1⟩ : Blk) :: mapM b (A ++ (pb, d) :: B) :: (XA ++ ((⟨pb, 0, [ov, .slice sa d.once.length sc, .slice fa d.box.length fc, .int .i64 (d.bytes : Nat)], 4⟩ : Blk) :: (Xo ++ (Xr ++ (Xc ++ (Xb ++ (Xl ++ (XB ++ G)))))))), _, .cons (.tmp z_B) .nil, z_A, (⟨p, 0, [.map (some b)], 1⟩ : Blk) :: mapM b (A ++ (pb, d) :: B) :: (XA ++ (((⟨pb, 0, [ov, .slice sa d.once.length sc, .slice fa d.box.length fc, .int .i64 (d.bytes : Nat)], 4⟩ : Blk) :: (Xo ++ (Xr ++ (Xc ++ (Xb ++ Xl))))) ++ XB)), by simp only [List.append_assoc, List.cons_append], by rw [pubP_shape hfp hfx (bundle_err henc)]; rfl, by rw [pubP_shape hfp hfx (bundle_err henc)]; exact ⟨b, _, _, List.Perm.refl _, hZ, rfl, hok⟩⟩
      ·
        refine TL.cons rfl (V1.t (V1.move' z_B) ?_)
        refine TL.cons rfl (V1.t (V1.extract rfl (by rfl)) ?_)
        refine TL.cons rfl (V1.t (V1.extract rfl (by rfl)) ?_)
        refine TL.cons rfl (V1.t (V1.assign' z_B) ?_)
        refine TL.cons rfl (V1.t (V1.assign' z_B) ?_)
        refine TL.nil ?_
        refine T.seq ?_
        refine T.region ?_
        refine TL.cons rfl (V1.t (V1.move' z_B) ?_)
        refine TL.cons rfl (V1.t (V1.neI (r := false) rfl rfl rfl) ?_)
        refine TL.cons rfl (V1.t (V1.move' z_B) ?_)
        refine TL.cons rfl (V1.t (V1.fieldAddr fl_39_0 rfl) ?_)
        refine TL.cons rfl (V1.t (V1.load1 (v := .int .i64 f.kind) one_3 rfl (.own (cells := (.int .i64 f.kind :: tl)) z_D (by rfl))) ?_)
        refine TL.cons rfl (T1.neI_split rfl rfl (fun h8_5 => ?_) (fun h8_5 => ?_))
        ·
          refine TL.cons rfl (V1.t (V1.pick rfl z_B) ?_)
          refine TL.nil ?_
          refine T.cond_t rfl ?_
          refine T.seq ?_
          refine T.live (l := []) .nil (fun e_ => ?_)
          refine T.region ?_
          refine TL.cons rfl (V1.t (V1.assign' z_B) ?_)
          refine TL.nil ?_
          refine T.ret ?_
          exact ⟨_, (⟨p, 0, [.map (some b)], 1⟩ : Blk) :: mapM b (A ++ (pb, d) :: B) :: (XA ++ ((⟨pb, 0, [ov, .slice sa d.once.length sc, .slice fa d.box.length fc, .int .i64 (d.bytes : Nat)], 4⟩ : Blk) :: (Xo ++ (Xr ++ (Xc ++ (Xb ++ (Xl ++ (XB ++ G)))))))), _, .cons (.tmp z_B) .nil, z_A, (⟨p, 0, [.map (some b)], 1⟩ : Blk) :: mapM b (A ++ (pb, d) :: B) :: (XA ++ (((⟨pb, 0, [ov, .slice sa d.once.length sc, .slice fa d.box.length fc, .int .i64 (d.bytes : Nat)], 4⟩ : Blk) :: (Xo ++ (Xr ++ (Xc ++ (Xb ++ Xl))))) ++ XB)), by simp only [List.append_assoc, List.cons_append], by rw [pubP_shape hfp hfx (by rw [bundle_of henc]; exact decide_eq_false (by omega))]; rfl, by rw [pubP_shape hfp hfx (by rw [bundle_of henc]; exact decide_eq_false (by omega))]; exact ⟨b, _, _, List.Perm.refl _, hZ, rfl, hok⟩⟩
        ·
          refine TL.cons rfl (V1.t (V1.pick rfl z_B) ?_)
          refine TL.nil ?_
          refine T.cond_f rfl ?_
          refine T.skip ?_
          refine T.live (l := [(3, _), (6, _), (9, _), (28, _), (29, _), (30, _)]) (.cons z_B (.cons z_B (.cons z_B (.cons z_B (.cons z_B (.cons z_B .nil)))))) (fun e_ => ?_)
          refine T.region ?_
          refine TL.cons rfl (V1.t (V1.add (c := ((i + 1 : Nat) : Int)) rfl rfl (by rw [wrap_i64 _ (by omega) (by omega)]; omega)) ?_)
          refine TL.cons rfl (V1.t (V1.move' z_B) ?_)
          refine TL.nil ?_
          exact ⟨i + 1, (⟨qb, qo, (co :: css).flatten, qsz⟩ : Blk) :: (⟨b6, 0, co, 5⟩ : Blk) :: (⟨p, 0, [.map (some b)], 1⟩ : Blk) :: mapM b (A ++ (pb, d) :: B) :: (XA ++ ((⟨pb, 0, [ov, .slice sa d.once.length sc, .slice fa d.box.length fc, .int .i64 (d.bytes : Nat)], 4⟩ : Blk) :: (Xo ++ (Xr ++ (Xc ++ (Xb ++ (Xl ++ (XB ++ G)))))))), _, (by simp only; omega), (.cons rfl .nil), (.cons rfl (.cons rfl (.cons rfl (.cons rfl (.cons rfl .nil))))), z_A, ⟨rfl, by omega, fun f_ hf_ => by rw [List.take_add_one, hfx] at hf_; rcases List.mem_append.1 hf_ with hf_ | hf_; exact hb0 f_ hf_; simp only [Option.toList, List.mem_singleton] at hf_; subst hf_; rw [bundle_of henc]; exact decide_eq_true (by omega)⟩⟩
    ·
      obtain rfl : i = fs.length + 1 := by omega
      rw [List.take_of_length_le (by simp)] at hb0
      refine TL.nil ?_
      refine T.seq ?_
      refine T.cond_f rfl ?_
      refine T.exit ?_
      refine T.seq ?_
      refine T.seq ?_
      refine T.region ?_
      refine TL.cons rfl (V1.t (V1.move' z_B) ?_)
      refine TL.cons rfl (V1.t (V1.lenSl ty_42 rfl) ?_)
      refine TL.cons rfl (V1.t (V1.move' z_B) ?_)
      refine TL.cons rfl (V1.t (V1.nilCheck rfl) ?_)
      refine TL.cons rfl (V1.t (V1.fieldAddr fl_71_1 rfl) ?_)
      refine TL.cons rfl (V1.t (V1.load1 (v := .slice sa d.once.length sc) one_42 rfl (.own (cells := [ov, .slice sa d.once.length sc, .slice fa d.box.length fc, .int .i64 (d.bytes : Nat)]) z_D (by rfl))) ?_)
      refine TL.cons rfl (V1.t (V1.lenSl ty_42 rfl) ?_)
      refine TL.cons rfl (V1.t (V1.sub (c := 100 - (d.once.length : Int)) rfl rfl (by rw [wrap_i64 _ (by omega) (by omega)])) ?_)
      refine TL.cons rfl (T1.gtI_split rfl rfl (fun h11_8 => ?_) (fun h11_8 => ?_))
      ·
        refine TL.nil ?_
        refine T.cond_t rfl ?_
        refine T.seq ?_
        refine T.region ?_
        refine TL.cons rfl (V1.t (V1.assign' z_B) ?_)
        refine TL.nil ?_
        refine T.ret ?_
        exact ⟨_, (⟨p, 0, [.map (some b)], 1⟩ : Blk) :: mapM b (A ++ (pb, d) :: B) :: (XA ++ ((⟨pb, 0, [ov, .slice sa d.once.length sc, .slice fa d.box.length fc, .int .i64 (d.bytes : Nat)], 4⟩ : Blk) :: (Xo ++ (Xr ++ (Xc ++ (Xb ++ (Xl ++ (XB ++ G)))))))), _, .cons (.tmp z_B) .nil, z_A, (⟨p, 0, [.map (some b)], 1⟩ : Blk) :: mapM b (A ++ (pb, d) :: B) :: (XA ++ (((⟨pb, 0, [ov, .slice sa d.once.length sc, .slice fa d.box.length fc, .int .i64 (d.bytes : Nat)], 4⟩ : Blk) :: (Xo ++ (Xr ++ (Xc ++ (Xb ++ Xl))))) ++ XB)), by simp only [List.append_assoc, List.cons_append], by rw [pubP_full hfp hb0 (by omega)]; rfl, by rw [pubP_full hfp hb0 (by omega)]; exact ⟨b, _, _, List.Perm.refl _, hZ, rfl, hok⟩⟩
      ·
        refine TL.nil ?_
        refine T.cond_f rfl ?_
        refine T.skip ?_
        refine T.seq ?_
        refine T.region ?_
        refine TL.cons rfl (V1.t (V1.loadN (vs := co) one_39 sz_39 rfl (RdN.whole z_D) hco5) ?_)
        refine TL.cons rfl (T1.callC has_33 rfl rfl (copied_any w0 Ps hoF (Frm.bundle_few (hb0 o (by simp)))) z_E (fun v_ Yo hv => ?_))
        obtain ⟨cO, rfl, hcO⟩ := hv
        refine TL.cons rfl (T1.allocN 5 zr_39 rfl (fun b14 => ?_))
        refine TL.cons rfl (T1.storeN (vs := cO) rfl rfl sz_39 hcO.one z_H (by rw [hcO.len]; rfl) hcO.len ?_)
        refine TL.nil ?_
        refine T.seq ?_
        refine T.region ?_
        refine TL.cons rfl (V1.t (V1.move' z_B) ?_)
        refine TL.cons rfl (V1.t (V1.nilCheck rfl) ?_)
        refine TL.cons rfl (V1.t (V1.fieldAddr fl_71_0 rfl) ?_)
        refine TL.cons rfl (T1.store1 rfl rfl sz_67 rfl z_H (Nat.zero_le _) z_J ?_)
        refine TL.nil ?_
        refine T.seq ?_
        refine T.seq ?_
        refine T.live (l := [(3, _), (9, _)]) (.cons z_B (.cons z_B .nil)) (fun e_ => ?_)
        refine T.region ?_
        refine TL.cons rfl (V1.t (V1.move' z_B) ?_)
        refine TL.cons rfl (V1.t (V1.lenSl ty_42 rfl) ?_)
        refine TL.cons rfl (V1.t (V1.move' z_B) ?_)
        refine TL.nil ?_
        refine T.block ?_
        refine T.loopL (σ := Nat × Value × List Blk × List Value × List Blk) (l0 := [(9, _), (61, _), (62, _)]) (fun x => [(63, .int .i64 (x.1 : Nat))]) (fun x L => L = (⟨b14, 0, cO, 5⟩ : Blk) :: (Yo ++ ((⟨p, 0, [.map (some b)], 1⟩ : Blk) :: mapM b (A ++ (pb, d) :: B) :: (XA ++ ((⟨pb, 0, [.pointer (some ⟨b14, 0, none⟩), x.2.1, .slice fa d.box.length fc, .int .i64 (d.bytes : Nat)], 4⟩ : Blk) :: (x.2.2.1 ++ (x.2.2.2.2 ++ (Xb ++ (Xl ++ (XB ++ G))))))))) ∧ x.1 ≤ fs.length ∧ Sl x.2.1 x.2.2.2.1 5 x.2.2.1 ∧ FrmsO x.2.2.2.1 (d.once ++ fs.take x.1) x.2.2.2.2) (fun x => fs.length - x.1) (0, _, Xr, cs, Xc) (.cons rfl .nil) (.cons z_B (.cons z_B (.cons z_B .nil))) z_A (⟨rfl, Nat.zero_le _, hs, by simpa using hc⟩) ?_
        rintro ⟨i, s1, Xr1, cs2, Xc1⟩ e_ L ⟨rfl, hi, hs1, hc1⟩
        dsimp only at hi hs1 hc1
        dsimp only
        refine T.seq ?_
        refine T.region ?_
        refine TL.cons rfl (T1.ltI_split rfl rfl (fun h16 => ?_) (fun h16 => ?_))
        ·
          obtain ⟨f, hfx⟩ : ∃ f, fs[i]? = some f := ⟨_, List.getElem?_eq_getElem (by (try simp only [List.length_cons]); omega)⟩
          obtain ⟨cs1, hcx⟩ : ∃ c_, css[i]? = some c_ := ⟨_, List.getElem?_eq_getElem (by (try simp only [List.length_cons]); have := hfs.len; omega)⟩
          have hfr : FrmR w0 Ps (.agg cs1.toArray) f := hfs.each i f cs1 hfx hcx
          obtain ⟨hcs5, hcs1, tl, rfl⟩ := hfr.cells2
          obtain ⟨ca, cb, hfl2, hcal⟩ := flat5_at (fun c_ hc_ => (hfs.five c_ hc_).1) hcx
          obtain ⟨lb, lo, rfl, hrd⟩ := hfs.row.at (by omega) P
          have hcl2 := hc1.len
          rw [List.length_append, List.length_take] at hcl2
          refine TL.nil ?_
          refine T.seq ?_
          refine T.cond_t rfl ?_
          refine T.skip ?_
          refine T.seq ?_
          refine T.block ?_
          refine T.seq ?_
          refine T.region ?_
          refine TL.cons rfl (V1.t (V1.indexAddrS ty_42 sz_39 rfl rfl (by omega) (by omega)) ?_)
          refine TL.cons rfl (V1.t (V1.loadN (vs := (.int .i64 f.kind :: tl)) one_39 sz_39 rfl (RdN.mid5 (a := ca) (ys := cb) (by rw [← hfl2]; exact hrd _ rfl rfl _ z_E) hcal) hcs5) ?_)
          refine TL.cons rfl (T1.allocN 5 zr_39 rfl (fun b16 => ?_))
          refine TL.cons rfl (T1.storeN (vs := (.int .i64 f.kind :: tl)) rfl rfl sz_39 hcs1 z_H (by rw [hcs5]; rfl) hcs5 ?_)
          refine TL.nil ?_
          refine T.drawX (fun L_ => Find L_ ⟨pb, 0, [.pointer (some ⟨b14, 0, none⟩), s1, .slice fa d.box.length fc, .int .i64 (d.bytes : Nat)], 4⟩ ∧ Find L_ ⟨b16, 0, (.int .i64 f.kind :: tl), 5⟩ ∧ Inc Ps L_) 11 mixed ⟨z_D, z_D, z_E⟩ ?_
          refine TX.take 0 rfl z_F z_F z_F z_F rfl (fun _ _ _ h => h) (fun L_ ⟨k1_, k2_, k3_⟩ => V1.move' z_B) ?_
          refine TX.take 1 rfl z_F z_F z_F z_F rfl (fun _ _ _ h => h) (fun L_ ⟨k1_, k2_, k3_⟩ => V1.move' z_B) ?_
          refine TX.take 2 rfl z_F z_F z_F z_F rfl (fun _ _ _ h => h) (fun L_ ⟨k1_, k2_, k3_⟩ => V1.nilCheck rfl) ?_
          refine TX.take 3 rfl z_F z_F z_F z_F rfl (fun _ _ _ h => h) (fun L_ ⟨k1_, k2_, k3_⟩ => V1.fieldAddr fl_71_1 rfl) ?_
          refine TX.take 4 rfl z_F z_F z_F z_F rfl (fun _ _ _ h => h) (fun L_ ⟨k1_, k2_, k3_⟩ => V1.load1 (v := s1) one_42 rfl (.own (cells := [.pointer (some ⟨b14, 0, none⟩), s1, .slice fa d.box.length fc, .int .i64 (d.bytes : Nat)]) z_D (by rfl))) ?_
          refine TX.take 5 rfl z_F z_F z_F z_F rfl (fun _ _ _ h => h) (fun L_ ⟨k1_, k2_, k3_⟩ => V1.loadN (vs := (.int .i64 f.kind :: tl)) one_39 sz_39 rfl (RdN.whole z_D) hcs5) ?_
          refine TX.one 6 z_F rfl rfl (T1.callC has_33 rfl rfl (copied_any w0 Ps hfr (Frm.bundle_few (hb0 f (List.mem_cons_of_mem _ (List.mem_of_getElem? hfx))))) z_E (fun v_ Yn hv => ?_))
          obtain ⟨cN, rfl, hcN⟩ := hv
          refine ⟨⟨z_D, z_D, z_E⟩, ?_⟩
          refine TX.one 7 z_F rfl rfl (T1.buildSlN (os := [.tmp 73]) (vss := [cN]) ty_42 sz_39 zr_39 (by decide) rfl (.cons z_B .nil) z_K (by rfl) (by intro y hy; simp only [List.mem_singleton] at hy; subst hy; exact hcN.len) (fun b74 => ?_))
          refine ⟨⟨z_D, z_D, z_E⟩, ?_⟩
          refine TX.one 8 z_F rfl rfl (T1.append ty_42 kd_42 sz_39 by_39 zr_39 rfl (by decide) (by decide) rfl rfl hs1 (.sl (n := 1) (RdN.whole z_D) (by simp [hcN.len])) (fun u hu => hcN.one u (by simpa using hu)) 1000 (by have := hcN.len; simp only [List.flatten_cons, List.flatten_nil, List.append_nil]; omega) (by decide) z_C (fun s2 Xr2 hs3 => ?_))
          refine ⟨⟨z_D, z_D, z_E⟩, ?_⟩
          refine TX.one 9 z_F rfl rfl (V1.t (V1.nilCheck rfl) ?_)
          refine ⟨⟨z_D, z_D, z_E⟩, ?_⟩
          refine TX.take 10 rfl z_F z_F z_F z_F rfl (fun _ _ _ h => h) (fun L_ ⟨k1_, k2_, k3_⟩ => V1.fieldAddr fl_71_1 rfl) ?_
          refine TX.oneK z_F rfl rfl (T1.store1 rfl rfl sz_42 hs3.one z_H (Nat.zero_le _) z_J ?_)
          refine TX.done z_F ?_
          refine T.live (l := [(9, _), (61, _), (62, _), (63, _)]) (.cons z_B (.cons z_B (.cons z_B (.cons z_B .nil)))) (fun e_ => ?_)
          refine T.region ?_
          refine TL.cons rfl (V1.t (V1.add (c := ((i + 1 : Nat) : Int)) rfl rfl (by rw [wrap_i64 _ (by omega) (by omega)]; omega)) ?_)
          refine TL.cons rfl (V1.t (V1.move' z_B) ?_)
          refine TL.nil ?_
          exact ⟨(i + 1, s2, Xr2, cs2 ++ cN, Xc1 ++ Yn), (⟨b14, 0, cO, 5⟩ : Blk) :: (Yo ++ ((⟨p, 0, [.map (some b)], 1⟩ : Blk) :: mapM b (A ++ (pb, d) :: B) :: (XA ++ ((⟨pb, 0, [.pointer (some ⟨b14, 0, none⟩), s2, .slice fa d.box.length fc, .int .i64 (d.bytes : Nat)], 4⟩ : Blk) :: (Xr2 ++ (Xc1 ++ (Yn ++ (Xb ++ (Xl ++ (XB ++ G)))))))))), _, (by simp only; omega), (.cons rfl .nil), (.cons rfl (.cons rfl (.cons rfl .nil))), z_A, ⟨by simp only [List.append_assoc], by simp only; omega, by simpa using hs3, by simp only; rw [List.take_add_one, hfx, ← List.append_assoc]; exact hc1.snoc hcN⟩⟩
        ·
          obtain rfl : i = fs.length := by omega
          rw [List.take_length] at hc1
          refine TL.nil ?_
          refine T.seq ?_
          refine T.cond_f rfl ?_
          refine T.exit ?_
          refine T.seq ?_
          refine T.region ?_
          refine TL.cons rfl (V1.t (V1.assign' z_B) ?_)
          refine TL.nil ?_
          refine T.ret ?_
          have hpo : PrO pb { d with offer := some o, once := d.once ++ fs } ((⟨pb, 0, [.pointer (some ⟨b14, 0, none⟩), s1, .slice fa d.box.length fc, .int .i64 (d.bytes : Nat)], 4⟩ : Blk) :: (((⟨b14, 0, cO, 5⟩ : Blk) :: Yo) ++ (Xr1 ++ (Xc1 ++ (Xb ++ Xl))))) := ⟨_, _, _, _, _, (⟨b14, 0, cO, 5⟩ : Blk) :: Yo, _, _, _, _, ⟨b14, cO, Yo, rfl, hcO, rfl⟩, hs1, hc1, hbx, hl, rfl⟩
          exact ⟨_, (⟨p, 0, [.map (some b)], 1⟩ : Blk) :: mapM b (A ++ (pb, d) :: B) :: (XA ++ ((⟨pb, 0, [.pointer (some ⟨b14, 0, none⟩), s1, .slice fa d.box.length fc, .int .i64 (d.bytes : Nat)], 4⟩ : Blk) :: (⟨b14, 0, cO, 5⟩ : Blk) :: (Yo ++ (Xr1 ++ (Xc1 ++ (Xb ++ (Xl ++ (XB ++ G)))))))), _, .cons (.tmp z_B) .nil, z_A, (⟨p, 0, [.map (some b)], 1⟩ : Blk) :: mapM b (A ++ (pb, d) :: B) :: (XA ++ (((⟨pb, 0, [.pointer (some ⟨b14, 0, none⟩), s1, .slice fa d.box.length fc, .int .i64 (d.bytes : Nat)], 4⟩ : Blk) :: (((⟨b14, 0, cO, 5⟩ : Blk) :: Yo) ++ (Xr1 ++ (Xc1 ++ (Xb ++ Xl))))) ++ XB)), by simp only [List.append_assoc, List.cons_append], by rw [pubP_ok hfp hb0 (by omega)]; rfl, by rw [pubP_ok hfp hb0 (by omega)]; exact SrvO.set hok rfl (Pr.pub_ok hdo hb0 hwf (by omega)) (hback _ _ hpo)⟩

end Go.Proofs.Ytijijaobialncaa.S
