/- Something sent to some, or to none. -/
import Derived.Test.YtijijaobialncaaO5
namespace Go.Proofs.Ytijijaobialncaa.S
open Go.RowKit

theorem sendP_none {ps : List Pr} {n : Nat} {l : List UInt8} {ns : List Nat} (h : findP ps n = none) : sendP ps n l ns = (ps, 4) := by unfold sendP; rw [h]
theorem sendP_err {ps : List Pr} {n : Nat} {l : List UInt8} {ns : List Nat} {d : Pr} {e : Int} (h : findP ps n = some d) (h2 : (envF n l).enc = .error e) : sendP ps n l ns = (ps, e) := by unfold sendP; rw [h]; dsimp only; rw [h2]
theorem sendP_bad {ps : List Pr} {n : Nat} {l l2 : List UInt8} {ns : List Nat} {d : Pr} {e : Int} (h : findP ps n = some d) (h2 : (envF n l).enc = .ok l2) (h3 : sendBad ps l2.length [] ns = e) (h4 : e ≠ 0) : sendP ps n l ns = (ps, e) := by
  unfold sendP; rw [h]; dsimp only; rw [h2]; dsimp only; rw [h3, if_neg h4]
theorem sendP_ok {ps : List Pr} {n : Nat} {l l2 : List UInt8} {ns : List Nat} {d : Pr} (h : findP ps n = some d) (h2 : (envF n l).enc = .ok l2) (h3 : sendBad ps l2.length [] ns = 0) : sendP ps n l ns = (sendTo l2 ns ps, 0) := by
  unfold sendP; rw [h]; dsimp only; rw [h2]; dsimp only; rw [h3, if_pos rfl]
theorem envR {w0 : World} {Ps : List Blk} {tg : Option TypeId} {n b26 b28 : Nat} {vd : Value} {data : List UInt8} (hn : n < 4294967296) (hd : RowR w0 Ps 1 vd data.length (data.map byteV)) (h26 : (⟨⟨b26, tg⟩, 0, List.replicate 32 (byteV 0), 32⟩ : Blk) ∈ Ps) (h28 : (⟨b28, 0, [u32V n], 1⟩ : Blk) ∈ Ps) :
    FrmR w0 Ps (.agg (List.toArray [.int .i64 7, .slice (some ⟨b26, 0, none⟩) 1 1, .slice (some ⟨b28, 0, none⟩) 1 1, .slice none 0 0, vd])) (envF n data) := by
  refine ⟨⟨_, _, _, _, rfl, ?_, ?_, ?_, hd⟩, ⟨fun x hx => ?_, fun x hx => ?_, fun x hx => (by cases hx)⟩⟩
  · exact RowS.ofSl (tg := tg) (Ls := [⟨⟨b26, tg⟩, 0, List.replicate 32 (byteV 0), 32⟩]) (.inr ⟨b26, 0, 1, 1, 32, rfl, rfl, Nat.le_refl _, Nat.le_refl _, rfl⟩) (fun B hB => by rw [List.mem_singleton] at hB; subst hB; exact h26) (by decide) 1 rfl
  · exact RowS.ofSl (tg := none) (Ls := [⟨b28, 0, [u32V n], 1⟩]) (.inr ⟨b28, 0, 1, 1, 1, rfl, rfl, Nat.le_refl _, Nat.le_refl _, rfl⟩) (fun B hB => by rw [List.mem_singleton] at hB; subst hB; exact h28) (by decide) 1 rfl
  · exact ⟨RowR.nil, .inl (.inl rfl)⟩
  · have : x = List.replicate 32 0 := by simpa [envF] using hx
    subst this; rfl
  · have : x = n := by simpa [envF] using hx
    subst this; exact hn
theorem env_len {n : Nat} {l l2 : List UInt8} (h : (envF n l).enc = .ok l2) : l2.length ≤ 1000000 := by
  have hf := Frm.few_of h
  have : l2.length = 41 + l.length := by
    unfold Frm.enc encF at h
    rw [show shp (envF n l).kind = some (1, 1, 0, true) from rfl] at h
    dsimp only at h
    split at h
    · cases h
    · split at h
      · cases h
      · cases h
        simp [envF, be32]; omega
  have := hf.data
  have e : (envF n l).data = l := rfl
  rw [e] at this
  have h3 : l.length ≤ 16384 := by
    unfold Frm.enc encF at h
    rw [show shp (envF n l).kind = some (1, 1, 0, true) from rfl] at h
    dsimp only at h
    split at h
    · cases h
    · split at h
      · cases h
      · have : (envF n l).data.length ≤ 16384 := by omega
        exact this
  omega
set_option maxRecDepth 100000 in
set_option maxHeartbeats 8000000 in
theorem Send_any (w0 : World) (Ps : List Blk) {p : Nat} {ps : List Pr} {X : List Blk} (h : SrvO p ps X) (n : Nat) (hn : n < 4294967296) {v : Value} {l : List UInt8} (hr : RowR w0 Ps 1 v l.length (l.map byteV)) {vt : Value} {ns : List Nat} (ht : RowS w0 Ps 1 vt ns.length (ns.map u32V)) (hnl : ns.length ≤ 1099511627776) : FnG P 11 [.pointer (some ⟨p, 0, none⟩), u32V n, v, vt] w0 Ps X (fun v Y => v = .int .i64 (sendP ps n l ns).2 ∧ SrvO p (sendP ps n l ns).1 Y) := by
  obtain ⟨b, ms, Z, hX, hZ, rfl, hok⟩ := h
  refine FnG.perm hX ?_
  obtain ⟨ra, rc, rfl⟩ := hr.form
  obtain ⟨ta, tc, rfl⟩ := ht.row.form
  refine FnG.of 116 [.tmp 8] Go.Proofs.Try.func11 rfl rfl rfl rfl (fun G hG => ?_)
  simp only [List.cons_append]
  refine T.seq ?_
  refine T.region ?_
  refine TL.cons rfl (V1.t (V1.assign' z_B) ?_)
  refine TL.nil ?_
  refine T.seq ?_
  refine T.seq ?_
  refine T.region ?_
  refine TL.cons rfl (V1.t (V1.move' z_B) ?_)
  refine TL.cons rfl (V1.t (V1.nilCheck rfl) ?_)
  refine TL.cons rfl (V1.t (V1.fieldAddr fl_65_0 rfl) ?_)
  refine TL.cons rfl (V1.t (V1.load1 one_63 rfl (.own z_D (by rfl))) ?_)
  refine TL.cons rfl (V1.t (V1.move' z_B) ?_)
  refine TL.cons rfl (V1.t (V1.lookup (q := qU n) (kv := (kvM ms).map fun x => (u32V x.1, x.2)) (v := ptrM (atM ms n)) ty_63 zr_66 ty_27 rfl rfl rfl z_D (kvM_now _ _) (kvM_find _ _ _)) ?_)
  rcases hat0 : atM ms n with _ | ⟨pb0, d0⟩
  ·
    have hfn := atM_none hat0
    refine TL.cons rfl (V1.t (V1.eqPn ty_66 rfl rfl) ?_)
    refine TL.nil ?_
    refine T.cond_t rfl ?_
    refine T.seq ?_
    refine T.region ?_
    refine TL.cons rfl (V1.t (V1.assign' z_B) ?_)
    refine TL.nil ?_
    refine T.ret ?_
    exact ⟨_, (⟨p, 0, [.map (some b)], 1⟩ : Blk) :: mapM b ms :: (Z ++ G), _, .cons (.tmp z_B) .nil, z_A, (⟨p, 0, [.map (some b)], 1⟩ : Blk) :: mapM b ms :: Z, rfl, by rw [sendP_none hfn]; rfl, by rw [sendP_none hfn]; exact ⟨b, ms, Z, List.Perm.refl _, hZ, rfl, hok⟩⟩
  ·
    obtain ⟨_, _, _, hdn0, hfp0⟩ := atM_some hat0
    refine TL.cons rfl (V1.t (V1.eqPn ty_66 rfl rfl) ?_)
    refine TL.nil ?_
    refine T.cond_f rfl ?_
    refine T.skip ?_
    refine T.seq ?_
    refine T.region ?_
    refine TL.cons rfl (V1.t (V1.buildA0 ty_60 sz_5 zr_60) ?_)
    refine TL.cons rfl (T1.buildOne (cs := List.replicate 32 (byteV 0)) ty_35 sz_60 zr_60 (by decide) rfl (by rfl) (fun b26 => ?_))
    refine TL.cons rfl (V1.t (V1.move' z_B) ?_)
    refine TL.cons rfl (T1.buildSl1 (os := [.tmp 27]) ty_36 sz_27 zr_27 (by decide) rfl (.cons z_B .nil) rfl (ones rfl) (fun b28 => ?_))
    refine TL.cons rfl (V1.t (V1.move' z_B) ?_)
    refine TL.cons rfl (V1.t (V1.buildF pl_39 zr_39 (.one rfl z_B rfl (.one rfl z_B rfl (.one rfl z_B rfl (.one rfl z_B rfl .nil)))) z_I) ?_)
    refine TL.cons rfl (T1.callC (Ps := (⟨b28, 0, [u32V n], 1⟩ : Blk) :: (⟨⟨b26, some 60⟩, 0, List.replicate 32 (byteV 0), 32⟩ : Blk) :: Ps) has_25 rfl rfl (Encode_G w0 (envR (data := l) hn (hr.more (Inc.skip1 (Inc.skip1 Inc.refl))) (List.mem_cons_of_mem _ (List.mem_cons_self ..)) (List.mem_cons_self ..))) z_E (fun v_ Ye hv => ?_))
    rcases encO_cases hv with ⟨e1, henc, he1, rfl, rfl⟩ | ⟨l2, ea, ec, henc, rfl, hs2⟩
    ·
      rw [List.nil_append]
      refine TL.cons rfl (V1.t (V1.move' z_B) ?_)
      refine TL.cons rfl (V1.t (V1.extract rfl (by rfl)) ?_)
      refine TL.cons rfl (V1.t (V1.extract rfl (by rfl)) ?_)
      refine TL.cons rfl (V1.t (V1.assign' z_B) ?_)
      refine TL.cons rfl (V1.t (V1.assign' z_B) ?_)
      refine TL.nil ?_
      refine T.seq ?_
      refine T.seq ?_
      refine T.live (l := [(0, _), (3, _), (9, _), (10, _)]) (.cons z_B (.cons z_B (.cons z_B (.cons z_B .nil)))) (fun e_ => ?_)
      refine T.region ?_
      refine TL.cons rfl (V1.t (V1.move' z_B) ?_)
      refine TL.cons rfl (V1.t (V1.neI (r := true) rfl rfl (by rcases he1 with rfl | rfl <;> rfl)) ?_)
      refine TL.nil ?_
      refine T.cond_t rfl ?_
      refine T.seq ?_
      refine T.region ?_
      refine TL.cons rfl (V1.t (V1.move' z_B) ?_)
      refine TL.cons rfl (V1.t (V1.assign' z_B) ?_)
      refine TL.nil ?_
      refine T.ret ?_
      exact ⟨_, (⟨p, 0, [.map (some b)], 1⟩ : Blk) :: mapM b ms :: (Z ++ G), _, .cons (.tmp z_B) .nil, z_A, (⟨p, 0, [.map (some b)], 1⟩ : Blk) :: mapM b ms :: Z, rfl, by rw [sendP_err hfp0 henc]; rfl, by rw [sendP_err hfp0 henc]; exact ⟨b, ms, Z, List.Perm.refl _, hZ, rfl, hok⟩⟩
    ·
      have hl2 := env_len henc
      refine TL.cons rfl (V1.t (V1.move' z_B) ?_)
      refine TL.cons rfl (V1.t (V1.extract rfl (by rfl)) ?_)
      refine TL.cons rfl (V1.t (V1.extract rfl (by rfl)) ?_)
      refine TL.cons rfl (V1.t (V1.assign' z_B) ?_)
      refine TL.cons rfl (V1.t (V1.assign' z_B) ?_)
      refine TL.nil ?_
      refine T.seq ?_
      refine T.seq ?_
      refine T.live (l := [(0, _), (3, _), (9, _), (10, _)]) (.cons z_B (.cons z_B (.cons z_B (.cons z_B .nil)))) (fun e_ => ?_)
      refine T.region ?_
      refine TL.cons rfl (V1.t (V1.move' z_B) ?_)
      refine TL.cons rfl (V1.t (V1.neI (r := false) rfl rfl rfl) ?_)
      refine TL.nil ?_
      refine T.cond_f rfl ?_
      refine T.skip ?_
      refine T.seq ?_
      refine T.seq ?_
      refine T.region ?_
      refine TL.cons rfl (V1.t (V1.move' z_B) ?_)
      refine TL.cons rfl (V1.t (V1.lenSl ty_36 rfl) ?_)
      refine TL.cons rfl (V1.t (V1.move' z_B) ?_)
      refine TL.nil ?_
      refine T.block ?_
      refine T.loopL (σ := Nat) (l0 := [(0, _), (3, _), (9, _), (37, _), (38, _)]) (fun x => [(39, .int .i64 (x : Nat))]) (fun i L => L = Ye ++ ((⟨b28, 0, [u32V n], 1⟩ : Blk) :: (⟨⟨b26, some 60⟩, 0, List.replicate 32 (byteV 0), 32⟩ : Blk) :: (⟨p, 0, [.map (some b)], 1⟩ : Blk) :: mapM b ms :: (Z ++ G)) ∧ i ≤ ns.length ∧ sendBad (ms.map Prod.snd) l2.length (ns.take i) (ns.drop i) = sendBad (ms.map Prod.snd) l2.length [] ns) (fun i => ns.length - i) 0 (.cons rfl .nil) (.cons z_B (.cons z_B (.cons z_B (.cons z_B (.cons z_B .nil))))) z_A (⟨rfl, Nat.zero_le _, by simp⟩) ?_
      rintro i e_ L ⟨rfl, hi, ho⟩
      refine T.seq ?_
      refine T.region ?_
      refine TL.cons rfl (T1.ltI_split rfl rfl (fun h7 => ?_) (fun h7 => ?_))
      ·
        obtain ⟨y, hx0⟩ : ∃ y, ns[i]? = some y := ⟨_, List.getElem?_eq_getElem (by omega)⟩
        have hdr : ns.drop i = y :: ns.drop (i + 1) := by rw [List.drop_eq_getElem_cons (by omega)]; congr 1; exact Option.some.inj (by rw [← List.getElem?_eq_getElem, hx0])
        obtain ⟨tb, to, rfl, hrd⟩ := ht.row.at (by omega) P
        refine TL.nil ?_
        refine T.seq ?_
        refine T.cond_t rfl ?_
        refine T.skip ?_
        refine T.seq ?_
        refine T.block ?_
        refine T.seq ?_
        refine T.region ?_
        refine TL.cons rfl (V1.t (V1.move' z_B) ?_)
        refine TL.cons rfl (V1.t (V1.indexAddrS ty_36 sz_27 rfl rfl (by omega) (by omega)) ?_)
        refine TL.cons rfl (V1.t (V1.load1 (v := u32V y) one_27 rfl (show Rd _ _ ⟨_, _ + i * 1, none⟩ _ from by rw [Nat.mul_one]; exact hrd _ rfl rfl _ z_E i _ (by rw [List.getElem?_map, hx0]; rfl))) ?_)
        refine TL.cons rfl (V1.t (V1.assign' z_B) ?_)
        refine TL.cons rfl (V1.t (V1.assign' z_B) ?_)
        refine TL.nil ?_
        refine T.seq ?_
        refine T.region ?_
        refine TL.cons rfl (V1.t (V1.move' z_B) ?_)
        refine TL.cons rfl (V1.t (V1.nilCheck rfl) ?_)
        refine TL.cons rfl (V1.t (V1.fieldAddr fl_65_0 rfl) ?_)
        refine TL.cons rfl (V1.t (V1.load1 one_63 rfl (.own z_D (by rfl))) ?_)
        refine TL.cons rfl (V1.t (V1.move' z_B) ?_)
        refine TL.cons rfl (V1.t (V1.lookup (q := qU y) (kv := (kvM ms).map fun x => (u32V x.1, x.2)) (v := ptrM (atM ms y)) ty_63 zr_66 ty_27 rfl rfl rfl z_D (kvM_now _ _) (kvM_find _ _ _)) ?_)
        rcases hat : atM ms y with _ | ⟨pb, d⟩
        ·
          have hfy := atM_none hat
          refine TL.cons rfl (V1.t (V1.assign' z_B) ?_)
          refine TL.nil ?_
          refine T.block ?_
          refine T.seq ?_
          refine T.region ?_
          refine TL.cons rfl (V1.t (V1.move' z_B) ?_)
          refine TL.cons rfl (V1.t (V1.eqPn ty_66 rfl rfl) ?_)
          refine TL.cons rfl (V1.t (V1.assign' z_B) ?_)
          refine TL.nil ?_
          refine T.cond_t rfl ?_
          refine T.seq ?_
          refine T.live (l := []) .nil (fun e_ => ?_)
          refine T.region ?_
          refine TL.cons rfl (V1.t (V1.assign' z_B) ?_)
          refine TL.nil ?_
          refine T.ret ?_
          exact ⟨_, (⟨p, 0, [.map (some b)], 1⟩ : Blk) :: mapM b ms :: (Z ++ G), _, .cons (.tmp z_B) .nil, z_A, (⟨p, 0, [.map (some b)], 1⟩ : Blk) :: mapM b ms :: Z, rfl, by rw [sendP_bad (e := 4) hfp0 henc (by rw [← ho, hdr]; exact sendBad_none hfy) (by decide)]; rfl, by rw [sendP_bad (e := 4) hfp0 henc (by rw [← ho, hdr]; exact sendBad_none hfy) (by decide)]; exact ⟨b, ms, Z, List.Perm.refl _, hZ, rfl, hok⟩⟩
        ·
          obtain ⟨_, _, _, hdn, hfp⟩ := atM_some hat
          obtain ⟨ov, sa, sc, fa, fc, hqm⟩ := hZ.rd hat
          have hdo : d.Ok := hok.each d (List.mem_of_find?_eq_some hfp)
          have hdb := hdo.bytes
          have hdx := hdo.box
          have hqf : Find (Ye ++ ((⟨b28, 0, [u32V n], 1⟩ : Blk) :: (⟨⟨b26, some 60⟩, 0, List.replicate 32 (byteV 0), 32⟩ : Blk) :: (⟨p, 0, [.map (some b)], 1⟩ : Blk) :: mapM b ms :: (Z ++ G))) ⟨pb, 0, [ov, .slice sa d.once.length sc, .slice fa d.box.length fc, .int .i64 (d.bytes : Nat)], 4⟩ := Find.of_mem (by simp [hqm])
          refine TL.cons rfl (V1.t (V1.assign' z_B) ?_)
          refine TL.nil ?_
          refine T.block ?_
          refine T.seq ?_
          refine T.region ?_
          refine TL.cons rfl (V1.t (V1.move' z_B) ?_)
          refine TL.cons rfl (V1.t (V1.eqPn ty_66 rfl rfl) ?_)
          refine TL.cons rfl (V1.t (V1.assign' z_B) ?_)
          refine TL.nil ?_
          refine T.cond_f rfl ?_
          refine T.seq ?_
          refine T.live (l := [(0, _), (3, _), (9, _), (11, _), (12, _), (13, _), (37, _), (38, _), (39, _)]) (.cons z_B (.cons z_B (.cons z_B (.cons z_B (.cons z_B (.cons z_B (.cons z_B (.cons z_B (.cons z_B .nil))))))))) (fun e_ => ?_)
          refine T.region ?_
          refine TL.cons rfl (V1.t (V1.move' z_B) ?_)
          refine TL.cons rfl (V1.t (V1.move' z_B) ?_)
          have htc : ns.length ≤ tc := by rcases ht.cap with (e | ⟨_, e⟩) | ⟨b_, o_, c_, e, h_⟩; cases e; injection e with e1 e2 e3; omega; injection e with e1 e2 e3; omega
          refine TL.cons rfl (V1.t (V1.sliceK 0 i ty_36 sz_27 rfl rfl rfl (by omega) (by omega) (by omega)) ?_)
          refine TL.cons rfl (V1.t (V1.move' z_B) ?_)
          refine TL.cons rfl (T1.callV («as» := [.slice (some ⟨tb, to + 0 * 1, none⟩) (i - 0) (tc - 0), u32V y]) has_26 rfl rfl (Contains_any w0 Ps (ns := ns.take i) (by have h_ := ht.row.take1 (i := i) (by omega) (by omega); rw [List.map_take, List.length_take, Nat.min_eq_left (by omega), Nat.zero_mul, Nat.add_zero, Nat.sub_zero, Nat.sub_zero]; exact h_) (by rw [List.length_take]; omega) (y : Nat)) z_E (fun v_ hv => ?_))
          obtain rfl := hv
          rcases Classical.em (y ∈ ns.take i) with hin | hnin
          ·
            rw [show inI (ns.take i) (y : Nat) = true from decide_eq_true ⟨y, hin, rfl⟩]
            refine TL.cons rfl (V1.t (V1.assign' z_B) ?_)
            refine TL.nil ?_
            refine T.cond_t rfl ?_
            refine T.seq ?_
            refine T.region ?_
            refine TL.cons rfl (V1.t (V1.assign' z_B) ?_)
            refine TL.nil ?_
            refine T.ret ?_
            exact ⟨_, (⟨p, 0, [.map (some b)], 1⟩ : Blk) :: mapM b ms :: (Z ++ G), _, .cons (.tmp z_B) .nil, z_A, (⟨p, 0, [.map (some b)], 1⟩ : Blk) :: mapM b ms :: Z, rfl, by rw [sendP_bad (e := 5) hfp0 henc (by rw [← ho, hdr]; exact sendBad_twice hfp hin) (by decide)]; rfl, by rw [sendP_bad (e := 5) hfp0 henc (by rw [← ho, hdr]; exact sendBad_twice hfp hin) (by decide)]; exact ⟨b, ms, Z, List.Perm.refl _, hZ, rfl, hok⟩⟩
          ·
            rw [show inI (ns.take i) (y : Nat) = false from decide_eq_false (by rintro ⟨z, hz, e⟩; have e2 : z = y := (by omega); subst e2; exact hnin hz)]
            refine TL.cons rfl (V1.t (V1.assign' z_B) ?_)
            refine TL.nil ?_
            refine T.cond_f rfl ?_
            refine T.seq ?_
            refine T.region ?_
            refine TL.cons rfl (V1.t (V1.move' z_B) ?_)
            refine TL.cons rfl (V1.t (V1.nilCheck rfl) ?_)
            refine TL.cons rfl (V1.t (V1.fieldAddr fl_71_2 rfl) ?_)
            refine TL.cons rfl (V1.t (V1.fieldAddr fl_69_0 rfl) ?_)
            refine TL.cons rfl (V1.t (V1.load1 (v := .slice fa d.box.length fc) one_34 rfl (.own (cells := [ov, .slice sa d.once.length sc, .slice fa d.box.length fc, .int .i64 (d.bytes : Nat)]) hqf (by rfl))) ?_)
            refine TL.cons rfl (V1.t (V1.lenSl ty_34 rfl) ?_)
            refine TL.cons rfl (T1.eqI_split rfl rfl (fun h14_6 => ?_) (fun h14_6 => ?_))
            ·
              refine TL.cons rfl (V1.t (V1.move' z_B) ?_)
              refine TL.no rfl ?_
              refine TL.no rfl ?_
              refine TL.no rfl ?_
              refine TL.no rfl ?_
              refine TL.no rfl ?_
              refine TL.no rfl ?_
              refine TL.no rfl ?_
              refine TL.no rfl ?_
              refine TL.no rfl ?_
              refine TL.cons rfl (V1.t (V1.pick rfl z_B) ?_)
              refine TL.cons rfl (V1.t (V1.assign' z_B) ?_)
              refine TL.nil ?_
              refine T.cond_t rfl ?_
              refine T.seq ?_
              refine T.live (l := []) .nil (fun e_ => ?_)
              refine T.region ?_
              refine TL.cons rfl (V1.t (V1.assign' z_B) ?_)
              refine TL.nil ?_
              refine T.ret ?_
              have hroom : d.room l2.length = false := decide_eq_false (by omega)
              exact ⟨_, (⟨p, 0, [.map (some b)], 1⟩ : Blk) :: mapM b ms :: (Z ++ G), _, .cons (.tmp z_B) .nil, z_A, (⟨p, 0, [.map (some b)], 1⟩ : Blk) :: mapM b ms :: Z, rfl, by rw [sendP_bad (e := 180) hfp0 henc (by rw [← ho, hdr]; exact sendBad_full hfp hnin hroom) (by decide)]; rfl, by rw [sendP_bad (e := 180) hfp0 henc (by rw [← ho, hdr]; exact sendBad_full hfp hnin hroom) (by decide)]; exact ⟨b, ms, Z, List.Perm.refl _, hZ, rfl, hok⟩⟩
            ·
              refine TL.cons rfl (V1.t (V1.move' z_B) ?_)
              refine TL.cons rfl (V1.t (V1.move' z_B) ?_)
              refine TL.cons rfl (V1.t (V1.nilCheck rfl) ?_)
              refine TL.cons rfl (V1.t (V1.fieldAddr fl_71_2 rfl) ?_)
              refine TL.cons rfl (V1.t (V1.fieldAddr fl_69_1 rfl) ?_)
              refine TL.cons rfl (V1.t (V1.load1 (v := .int .i64 (d.bytes : Nat)) one_3 rfl (.own (cells := [ov, .slice sa d.once.length sc, .slice fa d.box.length fc, .int .i64 (d.bytes : Nat)]) hqf (by rfl))) ?_)
              refine TL.cons rfl (V1.t (V1.move' z_B) ?_)
              refine TL.cons rfl (V1.t (V1.lenSl ty_29 rfl) ?_)
              refine TL.cons rfl (V1.t (V1.add (c := ((d.bytes + l2.length : Nat) : Int)) rfl rfl (by rw [wrap_i64 _ (by omega) (by omega)]; omega)) ?_)
              refine TL.cons rfl (T1.gtI_split rfl rfl (fun h14_16 => ?_) (fun h14_16 => ?_))
              ·
                refine TL.cons rfl (V1.t (V1.pick rfl z_B) ?_)
                refine TL.cons rfl (V1.t (V1.assign' z_B) ?_)
                refine TL.nil ?_
                refine T.cond_t rfl ?_
                refine T.seq ?_
                refine T.live (l := []) .nil (fun e_ => ?_)
                refine T.region ?_
                refine TL.cons rfl (V1.t (V1.assign' z_B) ?_)
                refine TL.nil ?_
                refine T.ret ?_
                have hroom : d.room l2.length = false := decide_eq_false (by omega)
                exact ⟨_, (⟨p, 0, [.map (some b)], 1⟩ : Blk) :: mapM b ms :: (Z ++ G), _, .cons (.tmp z_B) .nil, z_A, (⟨p, 0, [.map (some b)], 1⟩ : Blk) :: mapM b ms :: Z, rfl, by rw [sendP_bad (e := 180) hfp0 henc (by rw [← ho, hdr]; exact sendBad_full hfp hnin hroom) (by decide)]; rfl, by rw [sendP_bad (e := 180) hfp0 henc (by rw [← ho, hdr]; exact sendBad_full hfp hnin hroom) (by decide)]; exact ⟨b, ms, Z, List.Perm.refl _, hZ, rfl, hok⟩⟩
              ·
                refine TL.cons rfl (V1.t (V1.pick rfl z_B) ?_)
                refine TL.cons rfl (V1.t (V1.assign' z_B) ?_)
                refine TL.nil ?_
                refine T.cond_f rfl ?_
                refine T.skip ?_
                refine T.live (l := [(0, _), (3, _), (9, _), (37, _), (38, _), (39, _)]) (.cons z_B (.cons z_B (.cons z_B (.cons z_B (.cons z_B (.cons z_B .nil)))))) (fun e_ => ?_)
                refine T.region ?_
                refine TL.cons rfl (V1.t (V1.add (c := ((i + 1 : Nat) : Int)) rfl rfl (by rw [wrap_i64 _ (by omega) (by omega)]; omega)) ?_)
                refine TL.cons rfl (V1.t (V1.move' z_B) ?_)
                refine TL.nil ?_
                have hroom : d.room l2.length = true := decide_eq_true (by omega)
                exact ⟨i + 1, _, _, (by simp only; omega), (.cons rfl .nil), (.cons rfl (.cons rfl (.cons rfl (.cons rfl (.cons rfl .nil))))), z_A, ⟨rfl, by omega, by rw [← ho, hdr, take_nat hx0, sendBad_step hfp hnin hroom]⟩⟩
      ·
        obtain rfl : i = ns.length := by omega
        rw [List.drop_length] at ho
        have hzero : sendBad (ms.map Prod.snd) l2.length [] ns = 0 := ho.symm
        refine TL.nil ?_
        refine T.seq ?_
        refine T.cond_f rfl ?_
        refine T.exit ?_
        refine T.seq ?_
        refine T.seq ?_
        refine T.region ?_
        refine TL.cons rfl (V1.t (V1.move' z_B) ?_)
        refine TL.cons rfl (V1.t (V1.lenSl ty_36 rfl) ?_)
        refine TL.cons rfl (V1.t (V1.move' z_B) ?_)
        refine TL.nil ?_
        refine T.block ?_
        refine T.loopL (σ := Nat × List (Nat × Pr) × List Blk) (l0 := [(0, _), (9, _), (79, _), (80, _)]) (fun x => [(81, .int .i64 (x.1 : Nat))]) (fun x L => L = Ye ++ ((⟨b28, 0, [u32V n], 1⟩ : Blk) :: (⟨⟨b26, some 60⟩, 0, List.replicate 32 (byteV 0), 32⟩ : Blk) :: (⟨p, 0, [.map (some b)], 1⟩ : Blk) :: mapM b x.2.1 :: (x.2.2 ++ G)) ∧ x.1 ≤ ns.length ∧ MsO x.2.1 x.2.2 ∧ SrvOk (x.2.1.map Prod.snd) ∧ x.2.1.map Prod.snd = sendTo l2 (ns.take x.1) (ms.map Prod.snd)) (fun x => ns.length - x.1) (0, ms, Z) (.cons rfl .nil) (.cons z_B (.cons z_B (.cons z_B (.cons z_B .nil)))) z_A (⟨rfl, Nat.zero_le _, hZ, hok, rfl⟩) ?_
        rintro ⟨i, ms1, Z1⟩ e_ L ⟨rfl, hi, hZ1, hok1, hms1⟩
        dsimp only at hi hZ1 hok1 hms1
        dsimp only
        refine T.seq ?_
        refine T.region ?_
        refine TL.cons rfl (T1.ltI_split rfl rfl (fun h18 => ?_) (fun h18 => ?_))
        ·
          obtain ⟨y, hx0⟩ : ∃ y, ns[i]? = some y := ⟨_, List.getElem?_eq_getElem (by omega)⟩
          have hdr : ns.drop i = y :: ns.drop (i + 1) := by rw [List.drop_eq_getElem_cons (by omega)]; congr 1; exact Option.some.inj (by rw [← List.getElem?_eq_getElem, hx0])
          obtain ⟨tb, to, rfl, hrd⟩ := ht.row.at (by omega) P
          obtain ⟨⟨d, hfd1, hroom⟩, hnin⟩ := sendBad_zero hzero hx0
          rw [List.nil_append] at hnin
          have hfp : findP (ms1.map Prod.snd) y = some d := by rw [hms1, sendTo_other hnin]; exact hfd1
          obtain ⟨pb, hat⟩ := atM_of hfp
          obtain ⟨A, B, rfl, hdn, _⟩ := atM_some hat
          obtain ⟨XA, X1, XB, rfl, hpr, hback⟩ := hZ1.at
          obtain ⟨ov, sv, fv, cs, vs, Xo, Xr, Xc, Xb, Xl, ho_, hs_, hc, hbx, hl, rfl⟩ := hpr
          obtain ⟨sa, sc, rfl⟩ := hs_.of hc.len (by decide)
          obtain ⟨fa, fc, rfl⟩ := hbx.of (n := d.box.length) (by rw [Nat.mul_one]; exact hl.len) (by decide)
          have hdo := hok1.each d (by simp)
          have hdb := hdo.bytes
          have hdx := hdo.box
          simp only [List.append_assoc, List.cons_append]
          refine TL.nil ?_
          refine T.seq ?_
          refine T.cond_t rfl ?_
          refine T.skip ?_
          refine T.seq ?_
          refine T.block ?_
          refine T.seq ?_
          refine T.region ?_
          refine TL.cons rfl (V1.t (V1.indexAddrS ty_36 sz_27 rfl rfl (by omega) (by omega)) ?_)
          refine TL.cons rfl (V1.t (V1.load1 (v := u32V y) one_27 rfl (show Rd _ _ ⟨_, _ + i * 1, none⟩ _ from by rw [Nat.mul_one]; exact hrd _ rfl rfl _ z_E i _ (by rw [List.getElem?_map, hx0]; rfl))) ?_)
          refine TL.cons rfl (V1.t (V1.assign' z_B) ?_)
          refine TL.nil ?_
          refine T.seq ?_
          refine T.region ?_
          refine TL.cons rfl (V1.t (V1.move' z_B) ?_)
          refine TL.cons rfl (V1.t (V1.nilCheck rfl) ?_)
          refine TL.cons rfl (V1.t (V1.fieldAddr fl_65_0 rfl) ?_)
          refine TL.cons rfl (V1.t (V1.load1 one_63 rfl (.own z_D (by rfl))) ?_)
          refine TL.cons rfl (V1.t (V1.move' z_B) ?_)
          refine TL.cons rfl (V1.t (V1.lookup (q := qU y) (kv := (kvM (A ++ (pb, d) :: B)).map fun x => (u32V x.1, x.2)) (v := .pointer (some ⟨pb, 0, none⟩)) ty_63 zr_66 ty_27 rfl rfl rfl z_D (kvM_now _ _) (by rw [kvM_find, hat]; rfl)) ?_)
          refine TL.cons rfl (V1.t (V1.assign' z_B) ?_)
          refine TL.nil ?_
          refine T.seq ?_
          refine T.drawX (fun L_ => Find L_ ⟨pb, 0, [ov, .slice sa d.once.length sc, .slice fa d.box.length fc, .int .i64 (d.bytes : Nat)], 4⟩ ∧ Inc Ye L_) 13 mixed ⟨z_D, z_E⟩ ?_
          refine TX.take 0 rfl z_F z_F z_F z_F rfl (fun _ _ _ h => h) (fun L_ ⟨k1_, k2_⟩ => V1.move' z_B) ?_
          refine TX.take 1 rfl z_F z_F z_F z_F rfl (fun _ _ _ h => h) (fun L_ ⟨k1_, k2_⟩ => V1.move' z_B) ?_
          refine TX.take 2 rfl z_F z_F z_F z_F rfl (fun _ _ _ h => h) (fun L_ ⟨k1_, k2_⟩ => V1.nilCheck rfl) ?_
          refine TX.take 3 rfl z_F z_F z_F z_F rfl (fun _ _ _ h => h) (fun L_ ⟨k1_, k2_⟩ => V1.fieldAddr fl_71_2 rfl) ?_
          refine TX.take 4 rfl z_F z_F z_F z_F rfl (fun _ _ _ h => h) (fun L_ ⟨k1_, k2_⟩ => V1.fieldAddr fl_69_0 rfl) ?_
          refine TX.take 5 rfl z_F z_F z_F z_F rfl (fun _ _ _ h => h) (fun L_ ⟨k1_, k2_⟩ => V1.load1 (v := .slice fa d.box.length fc) one_34 rfl (.own (cells := [ov, .slice sa d.once.length sc, .slice fa d.box.length fc, .int .i64 (d.bytes : Nat)]) z_D (by rfl))) ?_
          refine TX.take 6 rfl z_F z_F z_F z_F rfl (fun _ _ _ h => h) (fun L_ ⟨k1_, k2_⟩ => V1.move' z_B) ?_
          refine TX.one 7 z_F rfl rfl (T1.callC has_27 rfl rfl (CloneB_any w0 Ye (RowR.ofSl hs2 Inc.refl (by decide) l2.length (by rw [List.length_map, Nat.mul_one])) (one_bytes _) (by omega)) z_E (fun v_c Xy hcl => ?_))
          refine ⟨⟨z_D, z_E⟩, ?_⟩
          refine TX.one 8 z_F rfl rfl (T1.buildSl1 (os := [.tmp 98]) (vs := [v_c]) ty_34 sz_29 zr_29 (by decide) rfl (.cons z_B .nil) rfl (by intro u hu; simp only [List.mem_singleton] at hu; subst hu; exact hcl.one) (fun b99 => ?_))
          refine ⟨⟨z_D, z_E⟩, ?_⟩
          refine TX.one 9 z_F rfl rfl (T1.append ty_34 kd_34 sz_29 by_29 zr_29 rfl (by decide) (by decide) rfl rfl hbx (.sl (n := 1) (RdN.whole z_D) (by rfl)) (by intro u hu; simp only [List.mem_singleton] at hu; subst hu; exact hcl.one) 1000 (by rw [hl.len]; simp only [List.length_singleton]; omega) (by decide) z_C (fun f2 Xb2 hf2 => ?_))
          refine ⟨⟨z_D, z_E⟩, ?_⟩
          refine TX.one 10 z_F rfl rfl (V1.t (V1.nilCheck rfl) ?_)
          refine ⟨⟨z_D, z_E⟩, ?_⟩
          refine TX.one 11 z_F rfl rfl (V1.t (V1.fieldAddr fl_71_2 rfl) ?_)
          refine ⟨⟨z_D, z_E⟩, ?_⟩
          refine TX.take 12 rfl z_F z_F z_F z_F rfl (fun _ _ _ h => h) (fun L_ ⟨k1_, k2_⟩ => V1.fieldAddr fl_69_0 rfl) ?_
          refine TX.oneK z_F rfl rfl (T1.store1 rfl rfl sz_34 hf2.one z_H (Nat.zero_le _) z_J ?_)
          refine TX.done z_F ?_
          refine T.live (l := [(0, _), (9, _), (16, _), (79, _), (80, _), (81, _)]) (.cons z_B (.cons z_B (.cons z_B (.cons z_B (.cons z_B (.cons z_B .nil)))))) (fun e_ => ?_)
          refine T.region ?_
          refine TL.cons rfl (V1.t (V1.move' z_B) ?_)
          refine TL.cons rfl (V1.t (V1.nilCheck rfl) ?_)
          refine TL.cons rfl (V1.t (V1.fieldAddr fl_71_2 rfl) ?_)
          refine TL.cons rfl (V1.t (V1.fieldAddr fl_69_1 rfl) ?_)
          refine TL.cons rfl (V1.t (V1.load1 (v := .int .i64 (d.bytes : Nat)) one_3 rfl (.own (cells := [ov, .slice sa d.once.length sc, f2, .int .i64 (d.bytes : Nat)]) z_D (by rfl))) ?_)
          refine TL.cons rfl (V1.t (V1.move' z_B) ?_)
          refine TL.cons rfl (V1.t (V1.lenSl ty_29 rfl) ?_)
          refine TL.cons rfl (V1.t (V1.add (c := ((d.bytes + l2.length : Nat) : Int)) rfl rfl (by rw [wrap_i64 _ (by omega) (by omega)]; omega)) ?_)
          refine TL.cons rfl (V1.t (V1.nilCheck rfl) ?_)
          refine TL.cons rfl (V1.t (V1.fieldAddr fl_71_2 rfl) ?_)
          refine TL.cons rfl (V1.t (V1.fieldAddr fl_69_1 rfl) ?_)
          refine TL.cons rfl (T1.store1 rfl rfl sz_3 rfl z_H (Nat.zero_le _) z_J ?_)
          refine TL.nil ?_
          refine T.region ?_
          refine TL.cons rfl (V1.t (V1.add (c := ((i + 1 : Nat) : Int)) rfl rfl (by rw [wrap_i64 _ (by omega) (by omega)]; omega)) ?_)
          refine TL.cons rfl (V1.t (V1.move' z_B) ?_)
          refine TL.nil ?_
          exact ⟨(i + 1, A ++ (pb, d.put l2) :: B, XA ++ (((⟨pb, 0, [ov, .slice sa d.once.length sc, f2, .int .i64 ((d.bytes + l2.length : Nat) : Int)], 4⟩ : Blk) :: (Xo ++ (Xr ++ (Xc ++ (Xb2 ++ (Xl ++ Xy)))))) ++ XB)), Ye ++ ((⟨b28, 0, [u32V n], 1⟩ : Blk) :: (⟨⟨b26, some 60⟩, 0, List.replicate 32 (byteV 0), 32⟩ : Blk) :: (⟨p, 0, [.map (some b)], 1⟩ : Blk) :: mapM b (A ++ (pb, d) :: B) :: (XA ++ ((⟨pb, 0, [ov, .slice sa d.once.length sc, f2, .int .i64 ((d.bytes + l2.length : Nat) : Int)], 4⟩ : Blk) :: (Xo ++ (Xr ++ (Xc ++ (Xb2 ++ (Xl ++ (Xy ++ (XB ++ G)))))))))), _, (by simp only; omega), (.cons rfl .nil), (.cons rfl (.cons rfl (.cons rfl (.cons rfl .nil)))), z_A, ⟨by simp only; rw [mapM_set b A B (d := d) (d' := d.put l2) rfl]; simp only [List.append_assoc, List.cons_append], by simp only; omega, hback _ _ (PrO.put ho_ hs_ hc hf2 hl hcl), by simp only; rw [map_snd_set]; rw [map_snd_set] at hok1; exact hok1.set rfl (Pr.put_ok hdo hroom), by simp only; rw [take_nat hx0, sendTo_snoc, ← hms1, hfp]; dsimp only; rw [map_snd_set, map_snd_set, setP_at (d := d) (d' := d.put l2) (by rw [map_snd_set] at hok1; exact hok1.names) rfl]⟩⟩
        ·
          obtain rfl : i = ns.length := by omega
          rw [List.take_length] at hms1
          refine TL.nil ?_
          refine T.seq ?_
          refine T.cond_f rfl ?_
          refine T.exit ?_
          refine T.seq ?_
          refine T.region ?_
          refine TL.cons rfl (V1.t (V1.assign' z_B) ?_)
          refine TL.nil ?_
          refine T.ret ?_
          exact ⟨_, (⟨p, 0, [.map (some b)], 1⟩ : Blk) :: mapM b ms1 :: (Z1 ++ G), _, .cons (.tmp z_B) .nil, z_A, (⟨p, 0, [.map (some b)], 1⟩ : Blk) :: mapM b ms1 :: Z1, rfl, by rw [sendP_ok hfp0 henc hzero]; rfl, by rw [sendP_ok hfp0 henc hzero]; exact ⟨b, ms1, Z1, List.Perm.refl _, hZ1, hms1, hms1 ▸ hok1⟩⟩

end Go.Proofs.Ytijijaobialncaa.S
