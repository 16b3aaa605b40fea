/- A term put into a set; what can be made of a set. -/
import Derived.Test.YtlpkcbkflfbclaaGreatDoorT8
namespace Go.Proofs.YtlpkcbkflfbclaaGreatDoor.S
open Go.RowKit

set_option maxRecDepth 100000 in
theorem add_any (w0 : World) (Ps : List Blk) {kb : Nat} {s : Value} {Ls : List Blk} {l : List Tm} {vs : List Value} (hsl : SlG (some 24) s vs 3 Ls) (hl : TmsR w0 Ps l vs) (hn : l.length ≤ 900000) (hs : Srt l) (t : Tm) (ct : List Value) (ht : TmR w0 Ps t ct) : FnG P 88 [.pointer (some ⟨kb, 0, none⟩), .agg ct.toArray] w0 Ps ((⟨kb, 0, [s], 1⟩ : Blk) :: Ls) (fun v Y => v = .bool (decide (t ∉ l)) ∧ ∃ s' Ls' vs', Y = (⟨kb, 0, [s'], 1⟩ : Blk) :: Ls' ∧ SlG (some 24) s' vs' 3 Ls' ∧ TmsR w0 Ps (insT l t) vs') := by
  obtain ⟨kt, nt, ast⟩ := t
  obtain ⟨at_, ctt, vst, rfl, hrt, hlt_, htt⟩ := ht.inv
  obtain ⟨a, c, rfl, hrow⟩ := hsl.tm hl
  refine FnG.of 28 [.tmp 4] Go.Proofs.Tryz.func88 rfl rfl rfl rfl (fun G hG => ?_)
  simp only [List.cons_append]
  refine T.seq ?_
  refine T.region ?_
  refine TL.cons rfl (T1.boxN 3 rfl rfl (fun b3 => ?_))
  refine TL.cons rfl (V1.t (V1.assign' z_C) ?_)
  refine TL.nil ?_
  refine T.seq ?_
  refine T.drawDet' mixed (by decide +kernel) ?_
  refine Det.cons 0 (ins := [(0, _)]) (.old z_C (by decide +kernel) .nil) (fun e_ => .inl ⟨rfl, V1.t (V1.move' z_C) ⟨rfl, rfl⟩⟩) ?_
  refine Det.cons 1 (ins := [(8, _)]) (.new 0 0 (by decide +kernel) rfl rfl .nil) (fun e_ => .inl ⟨rfl, V1.t (V1.nilCheck rfl) ⟨rfl, rfl⟩⟩) ?_
  refine Det.cons 2 (ins := [(9, _)]) (.new 1 0 (by decide +kernel) rfl rfl .nil) (fun e_ => .inl ⟨rfl, V1.t (V1.load1 one_106 rfl (.own z_D (by rfl))) ⟨rfl, rfl⟩⟩) ?_
  refine Det.cons 3 (ins := [(3, _)]) (.old z_C (by decide +kernel) .nil) (fun e_ => .inl ⟨rfl, V1.t (V1.loadN one_24 sz_24 rfl (RdN.whole z_D) (by rfl)) ⟨rfl, rfl⟩⟩) ?_
  refine Det.cons 4 (ins := [(10, _), (11, _)]) (v := .tuple #[.int .i64 (lowI l (.mk kt nt ast) : Nat), .bool (decide ((.mk kt nt ast) ∈ l))]) (.new 2 1 (by decide +kernel) rfl rfl (.new 3 0 (by decide +kernel) rfl rfl .nil)) (fun e_ => .inl ⟨rfl, ?_⟩) ?_
  · refine T1.callV has_124 rfl rfl (BinarySearch_any w0 (Ls ++ Ps) hrow (hl.more (Inc.skip Inc.refl)) (by unfold maxN; omega) hs (.mk kt nt ast) _ (ht.more (Inc.skip Inc.refl))) z_B (fun v_ hv => ?_)
    obtain rfl := hv
    exact ⟨rfl, rfl⟩
  refine Det.cons 5 (ins := [(12, _)]) (.new 4 0 (by decide +kernel) rfl rfl .nil) (fun e_ => .inl ⟨rfl, V1.t (V1.move' z_C) ⟨rfl, rfl⟩⟩) ?_
  refine Det.cons 6 (ins := [(7, _)]) (.new 5 0 (by decide +kernel) rfl rfl .nil) (fun e_ => .inl ⟨rfl, V1.t (V1.extract rfl (by rfl)) ⟨rfl, rfl⟩⟩) ?_
  refine Det.cons 7 (ins := [(7, _)]) (.new 5 1 (by decide +kernel) rfl rfl .nil) (fun e_ => .inl ⟨rfl, V1.t (V1.extract rfl (by rfl)) ⟨rfl, rfl⟩⟩) ?_
  refine Det.cons 8 (ins := [(13, _)]) (.new 6 1 (by decide +kernel) rfl rfl .nil) (fun e_ => .inl ⟨rfl, V1.t (V1.assign' z_C) ⟨rfl, rfl⟩⟩) ?_
  refine Det.cons 9 (ins := [(14, _)]) (.new 7 1 (by decide +kernel) rfl rfl .nil) (fun e_ => .inl ⟨rfl, V1.t (V1.assign' z_C) ⟨rfl, rfl⟩⟩) ?_
  refine Det.nil 10 (l := [(0, _), (3, _), (5, _), (6, _)]) (.old z_C (by decide +kernel) (.old z_C (by decide +kernel) (.new 8 1 (by decide +kernel) rfl rfl (.new 9 0 (by decide +kernel) rfl rfl .nil)))) (fun e_ => ?_)
  refine T.seq ?_
  refine T.seq ?_
  refine T.region ?_
  refine TL.cons rfl (V1.t (V1.move' z_C) ?_)
  have hle := lowI_le l (.mk kt nt ast)
  rcases (show (.mk kt nt ast) ∈ l ∨ ((.mk kt nt ast) ∉ l ∧ lowI l (.mk kt nt ast) = l.length) ∨ ((.mk kt nt ast) ∉ l ∧ lowI l (.mk kt nt ast) < l.length) from by rcases Classical.em ((.mk kt nt ast) ∈ l) with h | h; exact .inl h; (rcases Nat.lt_or_ge (lowI l (.mk kt nt ast)) l.length with h2 | h2; exact .inr (.inr ⟨h, h2⟩); exact .inr (.inl ⟨h, by omega⟩)) ) with hm | ⟨hm, hi⟩ | ⟨hm, hi⟩
  ·
    rw [decide_eq_true hm]
    refine TL.cons rfl (V1.t (V1.not rfl rfl) ?_)
    refine TL.nil ?_
    refine T.cond_f rfl ?_
    refine T.skip ?_
    refine T.seq ?_
    refine T.region ?_
    refine TL.cons rfl (V1.t (V1.move' z_C) ?_)
    refine TL.cons rfl (V1.t (V1.not rfl rfl) ?_)
    refine TL.cons rfl (V1.t (V1.assign' z_C) ?_)
    refine TL.nil ?_
    refine T.ret ?_
    exact ⟨_, (⟨kb, 0, [.slice a l.length c], 1⟩ : Blk) :: (Ls ++ G), _, .cons (.tmp z_C) .nil, z_A, (⟨kb, 0, [.slice a l.length c], 1⟩ : Blk) :: Ls, rfl, congrArg Value.bool (decide_eq_false (by simpa using hm)).symm, _, Ls, vs, rfl, hsl, by rw [insT, if_pos hm]; exact hl⟩
  ·
    rw [decide_eq_false hm]
    refine TL.cons rfl (V1.t (V1.not rfl rfl) ?_)
    refine TL.nil ?_
    refine T.cond_t rfl ?_
    refine T.drawX (fun L_ => Find L_ ⟨kb, 0, [.slice a l.length c], 1⟩ ∧ Find L_ ⟨b3, 0, [.int .i64 kt, .string (bstr nt), .slice at_ ast.length ctt], 3⟩) 9 mixed ⟨z_D, z_D⟩ ?_
    refine TX.take 0 rfl (by decide +kernel) (by decide +kernel) (by decide +kernel) (by decide +kernel) rfl (fun _ _ _ h => h) (fun L_ ⟨k1_, k2_⟩ => V1.move' z_C) ?_
    refine TX.take 1 rfl (by decide +kernel) (by decide +kernel) (by decide +kernel) (by decide +kernel) rfl (fun _ _ _ h => h) (fun L_ ⟨k1_, k2_⟩ => V1.move' z_C) ?_
    refine TX.take 2 rfl (by decide +kernel) (by decide +kernel) (by decide +kernel) (by decide +kernel) rfl (fun _ _ _ h => h) (fun L_ ⟨k1_, k2_⟩ => V1.nilCheck rfl) ?_
    refine TX.take 3 rfl (by decide +kernel) (by decide +kernel) (by decide +kernel) (by decide +kernel) rfl (fun _ _ _ h => h) (fun L_ ⟨k1_, k2_⟩ => V1.load1 one_106 rfl (.own z_D (by rfl))) ?_
    refine TX.take 4 rfl (by decide +kernel) (by decide +kernel) (by decide +kernel) (by decide +kernel) rfl (fun _ _ _ h => h) (fun L_ ⟨k1_, k2_⟩ => V1.move' z_C) ?_
    refine TX.take 5 rfl (by decide +kernel) (by decide +kernel) (by decide +kernel) (by decide +kernel) rfl (fun _ _ _ h => h) (fun L_ ⟨k1_, k2_⟩ => V1.loadN one_24 sz_24 rfl (RdN.whole z_D) (by rfl)) ?_
    refine TX.one 6 (by decide +kernel) rfl rfl (T1.buildOne ty_22 sz_24 zr_24 (by decide) z_C (by rfl) (fun b23 => ?_))
    refine ⟨⟨z_D, z_D⟩, ?_⟩
    refine TX.one 7 (by decide +kernel) rfl rfl (T1.callM (X := Ls) has_125 rfl rfl (Insert_end w0 Ps hl (by omega) (.mk kt nt ast) ht (bv := b23) (i := lowI l (.mk kt nt ast)) hsl (by omega)) z_A z_B (fun v_ Y_ hY => ?_))
    obtain ⟨ws, hsl2, hws⟩ := hY
    refine ⟨⟨z_D, z_D⟩, ?_⟩
    refine TX.take 8 rfl (by decide +kernel) (by decide +kernel) (by decide +kernel) (by decide +kernel) rfl (fun _ _ _ h => h) (fun L_ ⟨k1_, k2_⟩ => V1.nilCheck rfl) ?_
    refine TX.oneK (by decide +kernel) rfl rfl (T1.store1 rfl rfl sz_106 hsl2.one z_G (Nat.zero_le _) (by repeat (first | exact SetAt.here | apply SetAt.there)) ?_)
    refine TX.done (by decide +kernel) ?_
    refine T.seq ?_
    refine T.region ?_
    refine TL.cons rfl (V1.t (V1.move' z_C) ?_)
    refine TL.cons rfl (V1.t (V1.not rfl rfl) ?_)
    refine TL.cons rfl (V1.t (V1.assign' z_C) ?_)
    refine TL.nil ?_
    refine T.ret ?_
    exact ⟨_, (⟨kb, 0, [v_], 1⟩ : Blk) :: (Y_ ++ G), _, .cons (.tmp z_C) .nil, z_A, (⟨kb, 0, [v_], 1⟩ : Blk) :: Y_, rfl, congrArg Value.bool (decide_eq_true hm).symm, _, Y_, ws, rfl, hsl2, by rw [insT, if_neg hm]; exact hws⟩
  ·
    rw [decide_eq_false hm]
    obtain ⟨b, off, cap, size, hsv, hcap, hsize, rfl⟩ := hsl.blk hl.len (by omega)
    cases hsv
    refine TL.cons rfl (V1.t (V1.not rfl rfl) ?_)
    refine TL.nil ?_
    refine T.cond_t rfl ?_
    refine T.drawX (fun L_ => Find L_ ⟨kb, 0, [.slice (some ⟨b, off, none⟩) l.length c], 1⟩ ∧ Find L_ ⟨b3, 0, [.int .i64 kt, .string (bstr nt), .slice at_ ast.length ctt], 3⟩) 9 mixed ⟨z_D, z_D⟩ ?_
    refine TX.take 0 rfl (by decide +kernel) (by decide +kernel) (by decide +kernel) (by decide +kernel) rfl (fun _ _ _ h => h) (fun L_ ⟨k1_, k2_⟩ => V1.move' z_C) ?_
    refine TX.take 1 rfl (by decide +kernel) (by decide +kernel) (by decide +kernel) (by decide +kernel) rfl (fun _ _ _ h => h) (fun L_ ⟨k1_, k2_⟩ => V1.move' z_C) ?_
    refine TX.take 2 rfl (by decide +kernel) (by decide +kernel) (by decide +kernel) (by decide +kernel) rfl (fun _ _ _ h => h) (fun L_ ⟨k1_, k2_⟩ => V1.nilCheck rfl) ?_
    refine TX.take 3 rfl (by decide +kernel) (by decide +kernel) (by decide +kernel) (by decide +kernel) rfl (fun _ _ _ h => h) (fun L_ ⟨k1_, k2_⟩ => V1.load1 one_106 rfl (.own z_D (by rfl))) ?_
    refine TX.take 4 rfl (by decide +kernel) (by decide +kernel) (by decide +kernel) (by decide +kernel) rfl (fun _ _ _ h => h) (fun L_ ⟨k1_, k2_⟩ => V1.move' z_C) ?_
    refine TX.take 5 rfl (by decide +kernel) (by decide +kernel) (by decide +kernel) (by decide +kernel) rfl (fun _ _ _ h => h) (fun L_ ⟨k1_, k2_⟩ => V1.loadN one_24 sz_24 rfl (RdN.whole z_D) (by rfl)) ?_
    refine TX.one 6 (by decide +kernel) rfl rfl (T1.buildOne ty_22 sz_24 zr_24 (by decide) z_C (by rfl) (fun b23 => ?_))
    refine ⟨⟨z_D, z_D⟩, ?_⟩
    refine TX.one 7 (by decide +kernel) rfl rfl (T1.callM (X := [(⟨⟨b, some 24⟩, off, vs, size⟩ : Blk)]) has_125 rfl rfl (Insert_mid w0 Ps hl (by omega) (.mk kt nt ast) ht (bv := b23) (i := lowI l (.mk kt nt ast)) hcap hsize (by omega)) z_A z_B (fun v_ Y_ hY => ?_))
    obtain ⟨ws, hsl2, hws⟩ := hY
    refine ⟨⟨z_D, z_D⟩, ?_⟩
    refine TX.take 8 rfl (by decide +kernel) (by decide +kernel) (by decide +kernel) (by decide +kernel) rfl (fun _ _ _ h => h) (fun L_ ⟨k1_, k2_⟩ => V1.nilCheck rfl) ?_
    refine TX.oneK (by decide +kernel) rfl rfl (T1.store1 rfl rfl sz_106 hsl2.one z_G (Nat.zero_le _) (by repeat (first | exact SetAt.here | apply SetAt.there)) ?_)
    refine TX.done (by decide +kernel) ?_
    refine T.seq ?_
    refine T.region ?_
    refine TL.cons rfl (V1.t (V1.move' z_C) ?_)
    refine TL.cons rfl (V1.t (V1.not rfl rfl) ?_)
    refine TL.cons rfl (V1.t (V1.assign' z_C) ?_)
    refine TL.nil ?_
    refine T.ret ?_
    exact ⟨_, (⟨kb, 0, [v_], 1⟩ : Blk) :: (Y_ ++ G), _, .cons (.tmp z_C) .nil, z_A, (⟨kb, 0, [v_], 1⟩ : Blk) :: Y_, rfl, congrArg Value.bool (decide_eq_true hm).symm, _, Y_, ws, rfl, hsl2, by rw [insT, if_neg hm]; exact hws⟩

/-- A pointer to somebody's knowledge: the set, in its order, wherever it lies. -/
structure KnR (w0 : World) (Ps : List Blk) (kb : Nat) (l : List Tm) : Prop where
  all : ∃ a c vs, (⟨kb, 0, [.slice a l.length c], 1⟩ : Blk) ∈ Ps ∧ RowR w0 Ps 3 (.slice a l.length c) l.length vs ∧ TmsR w0 Ps l vs
  len : l.length ≤ 900000
  srt : Srt l
theorem KnR.more {w0 : World} {Ps Qs : List Blk} {kb : Nat} {l : List Tm} (h : KnR w0 Ps kb l) (hi : Inc Ps Qs) : KnR w0 Qs kb l := by
  obtain ⟨a, c, vs, h1, h2, h3⟩ := h.all
  exact ⟨⟨a, c, vs, hi _ h1, h2.more hi, h3.more hi⟩, h.len, h.srt⟩
def MakesAt (w0 : World) (l : List Tm) (u : Tm) : Prop := ∀ (Ps : List Blk) (kb : Nat) (cu : List Value), KnR w0 Ps kb l → TmR w0 Ps u cu → shp u = true → FnV P 61 [.pointer (some ⟨kb, 0, none⟩), .agg cu.toArray] w0 Ps (fun v => ∃ r, v = .bool r ∧ (r = true ↔ Mk (· ∈ l) u))
theorem shp_pub {t : Tm} (h : shp t = true) : shp (pub t) = true := by
  rw [pub, shp_mk]
  exact ⟨(show headOk 5 [] 1 = true by decide), fun a ha => by rw [List.mem_singleton] at ha; subst ha; exact h⟩
theorem pub_size (t : Tm) : (pub t).size = t.size + 1 := by rw [pub, Tm.size, tsize, tsize]
theorem size_two {k : Int} {n : List UInt8} {p q : Tm} : (Tm.mk k n [p, q]).size = p.size + q.size + 1 := by rw [Tm.size, tsize, tsize, tsize]; omega
set_option maxRecDepth 100000 in
theorem makes1_any (w0 : World) (Ps : List Blk) {bp kb : Nat} {l : List Tm} (x : Tm) (cx : List Value) (hm : MakesAt w0 l x) (hk : KnR w0 Ps kb l) (hx : TmR w0 Ps x cx) (hsh : shp x = true) : FnV P 92 [.agg cx.toArray, .pointer (some ⟨bp, 0, none⟩)] w0 (⟨bp, 0, [.pointer (some ⟨kb, 0, none⟩)], 1⟩ :: Ps) (fun v => ∃ r, v = .bool r ∧ (r = true ↔ ¬ Mk (· ∈ l) x)) := by
  obtain ⟨k, nm, ts⟩ := x
  obtain ⟨a, c, vs, rfl, hr, hl, ht⟩ := hx.inv
  refine FnV.of 8 [.tmp 3] Go.Proofs.Tryz.func92 rfl rfl rfl rfl (fun G hG => ?_)
  have hG1 : Find G ⟨bp, 0, [.pointer (some ⟨kb, 0, none⟩)], 1⟩ := hG.find (List.mem_cons_self ..)
  have hG2 : Inc Ps G := fun B hB => hG B (List.mem_cons_of_mem _ hB)
  refine T.seq ?_
  refine T.region ?_
  refine TL.cons rfl (T1.boxN 3 rfl rfl (fun b2 => ?_))
  refine TL.cons rfl (V1.t (V1.assign' z_C) ?_)
  refine TL.nil ?_
  refine T.seq ?_
  refine T.region ?_
  refine TL.cons rfl (V1.t (V1.load1 (v := .pointer (some ⟨kb, 0, none⟩)) one_65 rfl (.own (off := 0) (size := 1) (cells := [.pointer (some ⟨kb, 0, none⟩)]) z_D (by rfl))) ?_)
  refine TL.cons rfl (V1.t (V1.loadN one_24 sz_24 rfl (RdN.whole z_D) (by rfl)) ?_)
  refine TL.cons rfl (T1.callV has_61 rfl rfl (hm _ _ _ (hk.more (Inc.skip1 Inc.refl)) (hx.more (Inc.skip1 Inc.refl)) hsh : FnV _ _ _ _ (⟨bp, 0, [.pointer (some ⟨kb, 0, none⟩)], 1⟩ :: Ps) _) z_B (fun v_ hv => ?_))
  obtain ⟨r, rfl, hr_⟩ := hv
  refine TL.cons rfl (V1.t (V1.not rfl rfl) ?_)
  refine TL.cons rfl (V1.t (V1.assign' z_C) ?_)
  refine TL.nil ?_
  refine T.ret ?_
  exact ⟨_, G, _, .cons (.tmp z_C) .nil, z_A, rfl, ⟨_, rfl, by rw [← hr_]; cases r <;> simp⟩⟩

set_option maxRecDepth 100000 in
set_option maxHeartbeats 2000000 in
theorem makes_step (w0 : World) (Ps : List Blk) {kb : Nat} {l : List Tm} {k : Int} {nm : List UInt8} {ts : List Tm} (hrec : ∀ u : Tm, u.size < (Tm.mk k nm ts).size → MakesAt w0 l u) (cu : List Value) (hk : KnR w0 Ps kb l) (hx : TmR w0 Ps (.mk k nm ts) cu) (hsh : shp (.mk k nm ts) = true) : FnV P 61 [.pointer (some ⟨kb, 0, none⟩), .agg cu.toArray] w0 Ps (fun v => ∃ r, v = .bool r ∧ (r = true ↔ Mk (· ∈ l) (.mk k nm ts))) := by
  obtain ⟨a, c, vs, rfl, hr, hl, ht⟩ := hx.inv
  obtain ⟨aK, cK, vsK, hbK, hrK, hlK⟩ := hk.all
  refine FnV.of 52 [.tmp 4] Go.Proofs.Tryz.func61 rfl rfl rfl rfl (fun G hG => ?_)
  have hKF : Find G ⟨kb, 0, [.slice aK l.length cK], 1⟩ := hG.find hbK
  refine T.seq ?_
  refine T.region ?_
  refine TL.cons rfl (T1.box1 z_C rfl (fun b2 => ?_))
  refine TL.cons rfl (T1.boxN 3 rfl rfl (fun b3 => ?_))
  refine TL.cons rfl (V1.t (V1.assign' z_C) ?_)
  rcases Classical.em (Tm.mk k nm ts ∈ l) with hm | hm
  ·
    refine TL.nil ?_
    refine T.seq ?_
    refine T.seq ?_
    refine T.drawDet' mixed (by decide +kernel) ?_
    refine Det.cons 0 (ins := [(2, _)]) (.old z_C (by decide +kernel) .nil) (fun e_ => .inl ⟨rfl, V1.t (V1.load1 one_65 rfl (.own z_D (by rfl))) ⟨rfl, rfl⟩⟩) ?_
    refine Det.cons 1 (ins := [(7, _)]) (.new 0 0 (by decide +kernel) rfl rfl .nil) (fun e_ => .inl ⟨rfl, V1.t (V1.nilCheck rfl) ⟨rfl, rfl⟩⟩) ?_
    refine Det.cons 2 (ins := [(8, _)]) (.new 1 0 (by decide +kernel) rfl rfl .nil) (fun e_ => .inl ⟨rfl, V1.t (V1.fieldAddr fl_108_0 rfl) ⟨rfl, rfl⟩⟩) ?_
    refine Det.cons 3 (ins := [(9, _)]) (.new 2 0 (by decide +kernel) rfl rfl .nil) (fun e_ => .inl ⟨rfl, V1.t (V1.load1 (v := .slice aK l.length cK) one_106 rfl (.own (off := 0) (size := 1) (cells := [.slice aK l.length cK]) z_D (by rfl))) ⟨rfl, rfl⟩⟩) ?_
    refine Det.cons 4 (ins := [(3, _)]) (.old z_C (by decide +kernel) .nil) (fun e_ => .inl ⟨rfl, V1.t (V1.loadN one_24 sz_24 rfl (RdN.whole z_D) (by rfl)) ⟨rfl, rfl⟩⟩) ?_
    refine Det.cons 5 (ins := [(10, _), (11, _)]) (v := .bool true) (.new 3 1 (by decide +kernel) rfl rfl (.new 4 0 (by decide +kernel) rfl rfl .nil)) (fun e_ => .inl ⟨rfl, ?_⟩) ?_
    · refine T1.callV has_90 rfl rfl (has_any w0 Ps hrK hlK (by unfold maxN; have := hk.len; omega) hk.srt _ _ hx) z_B (fun v_ hv => ?_)
      obtain rfl := hv
      rw [decide_eq_true hm]
      exact ⟨rfl, rfl⟩
    refine Det.nil 6 (l := [(2, _), (3, _), (12, _)]) (.old z_C (by decide +kernel) (.old z_C (by decide +kernel) (.new 5 0 (by decide +kernel) rfl rfl .nil))) (fun e_ => ?_)
    refine T.cond_t rfl ?_
    refine T.seq ?_
    refine T.region ?_
    refine TL.cons rfl (V1.t (V1.assign' z_C) ?_)
    refine TL.nil ?_
    refine T.ret ?_
    exact ⟨_, G, _, .cons (.tmp z_C) .nil, z_A, rfl, ⟨_, rfl, by simp only [true_iff]; exact .known hm⟩⟩
  ·
    refine TL.nil ?_
    refine T.seq ?_
    refine T.seq ?_
    refine T.drawDet' mixed (by decide +kernel) ?_
    refine Det.cons 0 (ins := [(2, _)]) (.old z_C (by decide +kernel) .nil) (fun e_ => .inl ⟨rfl, V1.t (V1.load1 one_65 rfl (.own z_D (by rfl))) ⟨rfl, rfl⟩⟩) ?_
    refine Det.cons 1 (ins := [(7, _)]) (.new 0 0 (by decide +kernel) rfl rfl .nil) (fun e_ => .inl ⟨rfl, V1.t (V1.nilCheck rfl) ⟨rfl, rfl⟩⟩) ?_
    refine Det.cons 2 (ins := [(8, _)]) (.new 1 0 (by decide +kernel) rfl rfl .nil) (fun e_ => .inl ⟨rfl, V1.t (V1.fieldAddr fl_108_0 rfl) ⟨rfl, rfl⟩⟩) ?_
    refine Det.cons 3 (ins := [(9, _)]) (.new 2 0 (by decide +kernel) rfl rfl .nil) (fun e_ => .inl ⟨rfl, V1.t (V1.load1 (v := .slice aK l.length cK) one_106 rfl (.own (off := 0) (size := 1) (cells := [.slice aK l.length cK]) z_D (by rfl))) ⟨rfl, rfl⟩⟩) ?_
    refine Det.cons 4 (ins := [(3, _)]) (.old z_C (by decide +kernel) .nil) (fun e_ => .inl ⟨rfl, V1.t (V1.loadN one_24 sz_24 rfl (RdN.whole z_D) (by rfl)) ⟨rfl, rfl⟩⟩) ?_
    refine Det.cons 5 (ins := [(10, _), (11, _)]) (v := .bool false) (.new 3 1 (by decide +kernel) rfl rfl (.new 4 0 (by decide +kernel) rfl rfl .nil)) (fun e_ => .inl ⟨rfl, ?_⟩) ?_
    · refine T1.callV has_90 rfl rfl (has_any w0 Ps hrK hlK (by unfold maxN; have := hk.len; omega) hk.srt _ _ hx) z_B (fun v_ hv => ?_)
      obtain rfl := hv
      rw [decide_eq_false hm]
      exact ⟨rfl, rfl⟩
    refine Det.nil 6 (l := [(2, _), (3, _), (12, _)]) (.old z_C (by decide +kernel) (.old z_C (by decide +kernel) (.new 5 0 (by decide +kernel) rfl rfl .nil))) (fun e_ => ?_)
    refine T.cond_f rfl ?_
    refine T.skip ?_
    refine T.seq ?_
    refine T.seq ?_
    refine T.region ?_
    refine TL.cons rfl (V1.t (V1.fieldAddr fl_24_0 rfl) ?_)
    refine TL.cons rfl (V1.t (V1.load1 one_3 rfl (.own z_D (by rfl))) ?_)
    refine TL.nil ?_
    refine T.block ?_
    refine T.seq ?_
    refine T.region ?_
    refine TL.cons rfl (T1.eqI_split rfl rfl (fun h4 => ?_) (fun h4 => ?_))
    ·
      subst h4
      refine TL.cons rfl (V1.t (V1.assign' z_C) ?_)
      refine TL.nil ?_
      refine T.cond_t rfl ?_
      refine T.seq ?_
      refine T.region ?_
      refine TL.cons rfl (V1.t (V1.assign' z_C) ?_)
      refine TL.nil ?_
      refine T.ret ?_
      exact ⟨_, G, _, .cons (.tmp z_C) .nil, z_A, rfl, ⟨_, rfl, by rw [Mk.atom_iff]; simp only [Bool.false_eq_true, false_iff]; exact hm⟩⟩
    ·
      refine TL.cons rfl (V1.t (V1.assign' z_C) ?_)
      refine TL.nil ?_
      refine T.cond_f rfl ?_
      refine T.seq ?_
      refine T.region ?_
      refine TL.cons rfl (T1.eqI_split rfl rfl (fun h6 => ?_) (fun h6 => ?_))
      ·
        subst h6
        obtain ⟨hlen2, rfl⟩ := headOk_two (shp_mk.1 hsh).1 (by decide)
        obtain ⟨p, q, rfl⟩ : ∃ p q, ts = [p, q] := by match ts, hlen2 with | [p, q], _ => exact ⟨p, q, rfl⟩
        obtain ⟨bp, op_, csp, rfl, hp, hrdp⟩ := hr.term (i := 0) (x := p) ht rfl P
        obtain ⟨bq, oq_, csq, hbq, hq, hrdq⟩ := hr.term (i := 1) (x := q) ht rfl P
        cases hbq
        have hshp := (shp_mk.1 hsh).2 p (by simp)
        have hshq := (shp_mk.1 hsh).2 q (by simp)
        obtain ⟨kp, np, asp⟩ := p
        obtain ⟨ap, cp, vsp, rfl, hrp, hlp, htp⟩ := hp.inv
        obtain ⟨kq, nq, asq⟩ := q
        obtain ⟨aq, cq, vsq, rfl, hrq, hlq, htq⟩ := hq.inv
        try simp only [List.length_cons, List.length_nil] at *
        refine TL.cons rfl (V1.t (V1.assign' z_C) ?_)
        refine TL.nil ?_
        refine T.cond_t rfl ?_
        refine T.cut (σ := Nat × Nat) (l0 := [(2, _)]) (fun x => [(5, .pointer (some ⟨x.1, 0, none⟩)), (6, .pointer (some ⟨x.2, 0, none⟩))]) (fun x L => L = ⟨x.1, 0, [.int .i64 kp, .string (bstr np), .slice ap asp.length cp], 3⟩ :: ⟨x.2, 0, [.int .i64 kq, .string (bstr nq), .slice aq asq.length cq], 3⟩ :: ⟨b2, 0, [.pointer (some ⟨kb, 0, none⟩)], 1⟩ :: G) (.cons z_C .nil) ?_ ?_
        ·
          refine T.drawK (fun L_ => Find L_ ⟨b3, 0, [.int .i64 6, .string (bstr []), .slice (some ⟨bp, op_, none⟩) 2 c], 3⟩ ∧ Inc Ps L_) mixed ⟨z_D, z_B⟩ ?_
          refine TK.take 0 rfl (by decide +kernel) (by decide +kernel) (by decide +kernel) rfl (fun _ _ _ h => h) (fun L_ ⟨k1_, k2_⟩ => V1.fieldAddr fl_24_2 rfl) ?_
          refine TK.take 1 rfl (by decide +kernel) (by decide +kernel) (by decide +kernel) rfl (fun _ _ _ h => h) (fun L_ ⟨k1_, k2_⟩ => V1.load1 one_22 rfl (.own z_D (by rfl))) ?_
          refine TK.take 2 rfl (by decide +kernel) (by decide +kernel) (by decide +kernel) rfl (fun _ _ _ h => h) (fun L_ ⟨k1_, k2_⟩ => V1.indexAddrS ty_22 sz_24 rfl rfl (by decide) (by decide)) ?_
          refine TK.take 3 rfl (by decide +kernel) (by decide +kernel) (by decide +kernel) rfl (fun _ _ _ h => h) (fun L_ ⟨k1_, k2_⟩ => V1.loadN (vs := [.int .i64 kp, .string (bstr np), .slice ap asp.length cp]) one_24 sz_24 rfl (hrdp _ rfl rfl _ z_B) rfl) ?_
          refine TK.take 4 rfl (by decide +kernel) (by decide +kernel) (by decide +kernel) rfl (fun _ _ _ h => h) (fun L_ ⟨k1_, k2_⟩ => V1.fieldAddr fl_24_2 rfl) ?_
          refine TK.take 5 rfl (by decide +kernel) (by decide +kernel) (by decide +kernel) rfl (fun _ _ _ h => h) (fun L_ ⟨k1_, k2_⟩ => V1.load1 one_22 rfl (.own z_D (by rfl))) ?_
          refine TK.take 6 rfl (by decide +kernel) (by decide +kernel) (by decide +kernel) rfl (fun _ _ _ h => h) (fun L_ ⟨k1_, k2_⟩ => V1.indexAddrS ty_22 sz_24 rfl rfl (by decide) (by decide)) ?_
          refine TK.take 7 rfl (by decide +kernel) (by decide +kernel) (by decide +kernel) rfl (fun _ _ _ h => h) (fun L_ ⟨k1_, k2_⟩ => V1.loadN (vs := [.int .i64 kq, .string (bstr nq), .slice aq asq.length cq]) one_24 sz_24 rfl (hrdq _ rfl rfl _ z_B) rfl) ?_
          refine TK.two 8 9 (by decide +kernel) rfl rfl rfl rfl (T1.allocN 3 zr_24 rfl (fun b5 => ?_)) (T1.allocN 3 zr_24 rfl (fun b6 => ?_))
          ·
            refine ⟨⟨z_D, z_B⟩, ?_⟩
            refine TK.one 9 (by decide +kernel) rfl rfl (T1.allocN 3 zr_24 rfl (fun b6 => ?_))
            refine ⟨⟨z_D, z_B⟩, ?_⟩
            refine TK.one 10 (by decide +kernel) rfl rfl (T1.storeN rfl rfl sz_24 (ones rfl) z_G (by rfl) (by rfl) ?_)
            refine ⟨⟨z_D, z_B⟩, ?_⟩
            refine TK.one 11 (by decide +kernel) rfl rfl (T1.storeN rfl rfl sz_24 (ones rfl) z_G (by rfl) (by rfl) ?_)
            refine ⟨⟨z_D, z_B⟩, ?_⟩
            refine TD.done (by decide +kernel) ?_
            exact ⟨(_, _), _, _, trivial, (.cons rfl (.cons rfl .nil)), (.cons rfl .nil), z_A, rfl⟩
          ·
            refine ⟨⟨z_D, z_B⟩, ?_⟩
            refine TK.one 8 (by decide +kernel) rfl rfl (T1.allocN 3 zr_24 rfl (fun b5 => ?_))
            refine ⟨⟨z_D, z_B⟩, ?_⟩
            refine TK.one 10 (by decide +kernel) rfl rfl (T1.storeN rfl rfl sz_24 (ones rfl) z_G (by rfl) (by rfl) ?_)
            refine ⟨⟨z_D, z_B⟩, ?_⟩
            refine TK.one 11 (by decide +kernel) rfl rfl (T1.storeN rfl rfl sz_24 (ones rfl) z_G (by rfl) (by rfl) ?_)
            refine ⟨⟨z_D, z_B⟩, ?_⟩
            refine TD.done (by decide +kernel) ?_
            exact ⟨(_, _), _, _, trivial, (.cons rfl (.cons rfl .nil)), (.cons rfl .nil), z_A, rfl⟩
        ·
          rintro ⟨b5, b6⟩ e_ L rfl
          refine T.seq ?_
          refine T.drawK (fun L_ => Find L_ ⟨b5, 0, [.int .i64 kp, .string (bstr np), .slice ap asp.length cp], 3⟩ ∧ Find L_ ⟨b6, 0, [.int .i64 kq, .string (bstr nq), .slice aq asq.length cq], 3⟩ ∧ Find L_ ⟨b2, 0, [.pointer (some ⟨kb, 0, none⟩)], 1⟩ ∧ Inc Ps L_) mixed ⟨z_D, z_D, z_D, z_B⟩ ?_
          refine TK.take 0 rfl (by decide +kernel) (by decide +kernel) (by decide +kernel) rfl (fun _ _ _ h => h) (fun L_ ⟨k1_, k2_, k3_, k4_⟩ => V1.load1 one_65 rfl (.own z_D (by rfl))) ?_
          refine TK.take 1 rfl (by decide +kernel) (by decide +kernel) (by decide +kernel) rfl (fun _ _ _ h => h) (fun L_ ⟨k1_, k2_, k3_, k4_⟩ => V1.loadN one_24 sz_24 rfl (RdN.whole z_D) (by rfl)) ?_
          refine TK.one 2 (by decide +kernel) rfl rfl (T1.callV has_61 rfl rfl (hrec (.mk kp np asp) (by rw [size_two]; omega) Ps kb _ (hk.more Inc.refl) hp hshp) z_B (fun v_ hv => ?_))
          obtain ⟨r, rfl, hra⟩ := hv
          rcases Bool.eq_false_or_eq_true r with hrb | hrb <;> subst hrb
          ·
            refine ⟨⟨z_D, z_D, z_D, z_B⟩, ?_⟩
            refine TK.take 3 rfl (by decide +kernel) (by decide +kernel) (by decide +kernel) rfl (fun _ _ _ h => h) (fun L_ ⟨k1_, k2_, k3_, k4_⟩ => V1.move' z_C) ?_
            refine TK.take 4 rfl (by decide +kernel) (by decide +kernel) (by decide +kernel) rfl (fun _ _ _ h => h) (fun L_ ⟨k1_, k2_, k3_, k4_⟩ => V1.load1 one_65 rfl (.own z_D (by rfl))) ?_
            refine TK.take 5 rfl (by decide +kernel) (by decide +kernel) (by decide +kernel) rfl (fun _ _ _ h => h) (fun L_ ⟨k1_, k2_, k3_, k4_⟩ => V1.loadN one_24 sz_24 rfl (RdN.whole z_D) (by rfl)) ?_
            refine TK.one 6 (by decide +kernel) rfl rfl (T1.callC has_91 rfl rfl (public_any w0 Ps _ _ hq) z_B (fun v_ Yb hY => ?_))
            obtain ⟨cb, rfl, hb⟩ := hY
            refine ⟨⟨z_D, z_D, z_D, z_B⟩, ?_⟩
            refine TK.one 7 (by decide +kernel) rfl rfl (T1.callV has_61 rfl rfl (hrec (pub (.mk kq nq asq)) (by rw [pub_size, size_two]; have := Tm.size_pos (.mk kp np asp); omega) (Yb ++ Ps) kb _ (hk.more (Inc.skip Inc.refl)) hb (shp_pub hshq)) z_B (fun v_ hv => ?_))
            obtain ⟨r, rfl, hrb_⟩ := hv
            rcases Bool.eq_false_or_eq_true r with hrb | hrb <;> subst hrb
            ·
              refine ⟨⟨z_D, z_D, z_D, z_B⟩, ?_⟩
              refine TK.take 8 rfl (by decide +kernel) (by decide +kernel) (by decide +kernel) rfl (fun _ _ _ h => h) (fun L_ ⟨k1_, k2_, k3_, k4_⟩ => V1.pick rfl z_C) ?_
              refine TK.take 9 rfl (by decide +kernel) (by decide +kernel) (by decide +kernel) rfl (fun _ _ _ h => h) (fun L_ ⟨k1_, k2_, k3_, k4_⟩ => V1.move' z_C) ?_
              refine TD.takeNo (i := 10) rfl (by decide +kernel) (by decide +kernel) (by decide +kernel) rfl (fun _ _ _ h => h) ?_
              refine TD.takeNo (i := 11) rfl (by decide +kernel) (by decide +kernel) (by decide +kernel) rfl (fun _ _ _ h => h) ?_
              refine TD.takeNo (i := 12) rfl (by decide +kernel) (by decide +kernel) (by decide +kernel) rfl (fun _ _ _ h => h) ?_
              refine TD.takeNo (i := 13) rfl (by decide +kernel) (by decide +kernel) (by decide +kernel) rfl (fun _ _ _ h => h) ?_
              refine TD.takeNo (i := 14) rfl (by decide +kernel) (by decide +kernel) (by decide +kernel) rfl (fun _ _ _ h => h) ?_
              refine TD.takeNo (i := 15) rfl (by decide +kernel) (by decide +kernel) (by decide +kernel) rfl (fun _ _ _ h => h) ?_
              refine TD.takeNo (i := 16) rfl (by decide +kernel) (by decide +kernel) (by decide +kernel) rfl (fun _ _ _ h => h) ?_
              refine TD.takeNo (i := 17) rfl (by decide +kernel) (by decide +kernel) (by decide +kernel) rfl (fun _ _ _ h => h) ?_
              refine TD.takeNo (i := 18) rfl (by decide +kernel) (by decide +kernel) (by decide +kernel) rfl (fun _ _ _ h => h) ?_
              refine TK.take 19 rfl (by decide +kernel) (by decide +kernel) (by decide +kernel) rfl (fun _ _ _ h => h) (fun L_ ⟨k1_, k2_, k3_, k4_⟩ => V1.pick rfl z_C) ?_
              refine TK.take 20 rfl (by decide +kernel) (by decide +kernel) (by decide +kernel) rfl (fun _ _ _ h => h) (fun L_ ⟨k1_, k2_, k3_, k4_⟩ => V1.assign' z_C) ?_
              refine TD.done (by decide +kernel) ?_
              refine T.ret ?_
              exact ⟨_, G, _, .cons (.tmp z_C) .nil, z_A, rfl, ⟨_, rfl, by rw [Mk.six_iff]; simp_all⟩⟩
            ·
              refine ⟨⟨z_D, z_D, z_D, z_B⟩, ?_⟩
              refine TK.take 8 rfl (by decide +kernel) (by decide +kernel) (by decide +kernel) rfl (fun _ _ _ h => h) (fun L_ ⟨k1_, k2_, k3_, k4_⟩ => V1.pick rfl z_C) ?_
              refine TK.take 9 rfl (by decide +kernel) (by decide +kernel) (by decide +kernel) rfl (fun _ _ _ h => h) (fun L_ ⟨k1_, k2_, k3_, k4_⟩ => V1.move' z_C) ?_
              refine TK.take 10 rfl (by decide +kernel) (by decide +kernel) (by decide +kernel) rfl (fun _ _ _ h => h) (fun L_ ⟨k1_, k2_, k3_, k4_⟩ => V1.load1 one_65 rfl (.own z_D (by rfl))) ?_
              refine TK.take 11 rfl (by decide +kernel) (by decide +kernel) (by decide +kernel) rfl (fun _ _ _ h => h) (fun L_ ⟨k1_, k2_, k3_, k4_⟩ => V1.loadN one_24 sz_24 rfl (RdN.whole z_D) (by rfl)) ?_
              refine TK.one 12 (by decide +kernel) rfl rfl (T1.callV has_61 rfl rfl (hrec (.mk kq nq asq) (by rw [size_two]; omega) Ps kb _ (hk.more Inc.refl) hq hshq) z_B (fun v_ hv => ?_))
              obtain ⟨r, rfl, hrc⟩ := hv
              rcases Bool.eq_false_or_eq_true r with hrb | hrb <;> subst hrb
              ·
                refine ⟨⟨z_D, z_D, z_D, z_B⟩, ?_⟩
                refine TK.take 13 rfl (by decide +kernel) (by decide +kernel) (by decide +kernel) rfl (fun _ _ _ h => h) (fun L_ ⟨k1_, k2_, k3_, k4_⟩ => V1.move' z_C) ?_
                refine TK.take 14 rfl (by decide +kernel) (by decide +kernel) (by decide +kernel) rfl (fun _ _ _ h => h) (fun L_ ⟨k1_, k2_, k3_, k4_⟩ => V1.load1 one_65 rfl (.own z_D (by rfl))) ?_
                refine TK.take 15 rfl (by decide +kernel) (by decide +kernel) (by decide +kernel) rfl (fun _ _ _ h => h) (fun L_ ⟨k1_, k2_, k3_, k4_⟩ => V1.loadN one_24 sz_24 rfl (RdN.whole z_D) (by rfl)) ?_
                refine TK.one 16 (by decide +kernel) rfl rfl (T1.callC has_91 rfl rfl (public_any w0 Ps _ _ hp) z_B (fun v_ Yd hY => ?_))
                obtain ⟨cd, rfl, hd⟩ := hY
                refine ⟨⟨z_D, z_D, z_D, z_B⟩, ?_⟩
                refine TK.one 17 (by decide +kernel) rfl rfl (T1.callV has_61 rfl rfl (hrec (pub (.mk kp np asp)) (by rw [pub_size, size_two]; have := Tm.size_pos (.mk kq nq asq); omega) (Yd ++ Ps) kb _ (hk.more (Inc.skip Inc.refl)) hd (shp_pub hshp)) z_B (fun v_ hv => ?_))
                obtain ⟨r, rfl, hrd_⟩ := hv
                rcases Bool.eq_false_or_eq_true r with hrb | hrb <;> subst hrb
                ·
                  refine ⟨⟨z_D, z_D, z_D, z_B⟩, ?_⟩
                  refine TK.take 18 rfl (by decide +kernel) (by decide +kernel) (by decide +kernel) rfl (fun _ _ _ h => h) (fun L_ ⟨k1_, k2_, k3_, k4_⟩ => V1.pick rfl z_C) ?_
                  refine TK.take 19 rfl (by decide +kernel) (by decide +kernel) (by decide +kernel) rfl (fun _ _ _ h => h) (fun L_ ⟨k1_, k2_, k3_, k4_⟩ => V1.pick rfl z_C) ?_
                  refine TK.take 20 rfl (by decide +kernel) (by decide +kernel) (by decide +kernel) rfl (fun _ _ _ h => h) (fun L_ ⟨k1_, k2_, k3_, k4_⟩ => V1.assign' z_C) ?_
                  refine TD.done (by decide +kernel) ?_
                  refine T.ret ?_
                  exact ⟨_, G, _, .cons (.tmp z_C) .nil, z_A, rfl, ⟨_, rfl, by rw [Mk.six_iff]; simp_all⟩⟩
                ·
                  refine ⟨⟨z_D, z_D, z_D, z_B⟩, ?_⟩
                  refine TK.take 18 rfl (by decide +kernel) (by decide +kernel) (by decide +kernel) rfl (fun _ _ _ h => h) (fun L_ ⟨k1_, k2_, k3_, k4_⟩ => V1.pick rfl z_C) ?_
                  refine TK.take 19 rfl (by decide +kernel) (by decide +kernel) (by decide +kernel) rfl (fun _ _ _ h => h) (fun L_ ⟨k1_, k2_, k3_, k4_⟩ => V1.pick rfl z_C) ?_
                  refine TK.take 20 rfl (by decide +kernel) (by decide +kernel) (by decide +kernel) rfl (fun _ _ _ h => h) (fun L_ ⟨k1_, k2_, k3_, k4_⟩ => V1.assign' z_C) ?_
                  refine TD.done (by decide +kernel) ?_
                  refine T.ret ?_
                  exact ⟨_, G, _, .cons (.tmp z_C) .nil, z_A, rfl, ⟨_, rfl, by rw [Mk.six_iff]; simp_all⟩⟩
              ·
                refine ⟨⟨z_D, z_D, z_D, z_B⟩, ?_⟩
                refine TK.take 13 rfl (by decide +kernel) (by decide +kernel) (by decide +kernel) rfl (fun _ _ _ h => h) (fun L_ ⟨k1_, k2_, k3_, k4_⟩ => V1.move' z_C) ?_
                refine TD.takeNo (i := 14) rfl (by decide +kernel) (by decide +kernel) (by decide +kernel) rfl (fun _ _ _ h => h) ?_
                refine TD.takeNo (i := 15) rfl (by decide +kernel) (by decide +kernel) (by decide +kernel) rfl (fun _ _ _ h => h) ?_
                refine TD.takeNo (i := 16) rfl (by decide +kernel) (by decide +kernel) (by decide +kernel) rfl (fun _ _ _ h => h) ?_
                refine TD.takeNo (i := 17) rfl (by decide +kernel) (by decide +kernel) (by decide +kernel) rfl (fun _ _ _ h => h) ?_
                refine TK.take 18 rfl (by decide +kernel) (by decide +kernel) (by decide +kernel) rfl (fun _ _ _ h => h) (fun L_ ⟨k1_, k2_, k3_, k4_⟩ => V1.pick rfl z_C) ?_
                refine TK.take 19 rfl (by decide +kernel) (by decide +kernel) (by decide +kernel) rfl (fun _ _ _ h => h) (fun L_ ⟨k1_, k2_, k3_, k4_⟩ => V1.pick rfl z_C) ?_
                refine TK.take 20 rfl (by decide +kernel) (by decide +kernel) (by decide +kernel) rfl (fun _ _ _ h => h) (fun L_ ⟨k1_, k2_, k3_, k4_⟩ => V1.assign' z_C) ?_
                refine TD.done (by decide +kernel) ?_
                refine T.ret ?_
                exact ⟨_, G, _, .cons (.tmp z_C) .nil, z_A, rfl, ⟨_, rfl, by rw [Mk.six_iff]; simp_all⟩⟩
          ·
            refine ⟨⟨z_D, z_D, z_D, z_B⟩, ?_⟩
            refine TK.take 3 rfl (by decide +kernel) (by decide +kernel) (by decide +kernel) rfl (fun _ _ _ h => h) (fun L_ ⟨k1_, k2_, k3_, k4_⟩ => V1.move' z_C) ?_
            refine TD.takeNo (i := 4) rfl (by decide +kernel) (by decide +kernel) (by decide +kernel) rfl (fun _ _ _ h => h) ?_
            refine TD.takeNo (i := 5) rfl (by decide +kernel) (by decide +kernel) (by decide +kernel) rfl (fun _ _ _ h => h) ?_
            refine TD.takeNo (i := 6) rfl (by decide +kernel) (by decide +kernel) (by decide +kernel) rfl (fun _ _ _ h => h) ?_
            refine TD.takeNo (i := 7) rfl (by decide +kernel) (by decide +kernel) (by decide +kernel) rfl (fun _ _ _ h => h) ?_
            refine TK.take 8 rfl (by decide +kernel) (by decide +kernel) (by decide +kernel) rfl (fun _ _ _ h => h) (fun L_ ⟨k1_, k2_, k3_, k4_⟩ => V1.pick rfl z_C) ?_
            refine TK.take 9 rfl (by decide +kernel) (by decide +kernel) (by decide +kernel) rfl (fun _ _ _ h => h) (fun L_ ⟨k1_, k2_, k3_, k4_⟩ => V1.move' z_C) ?_
            refine TK.take 10 rfl (by decide +kernel) (by decide +kernel) (by decide +kernel) rfl (fun _ _ _ h => h) (fun L_ ⟨k1_, k2_, k3_, k4_⟩ => V1.load1 one_65 rfl (.own z_D (by rfl))) ?_
            refine TK.take 11 rfl (by decide +kernel) (by decide +kernel) (by decide +kernel) rfl (fun _ _ _ h => h) (fun L_ ⟨k1_, k2_, k3_, k4_⟩ => V1.loadN one_24 sz_24 rfl (RdN.whole z_D) (by rfl)) ?_
            refine TK.one 12 (by decide +kernel) rfl rfl (T1.callV has_61 rfl rfl (hrec (.mk kq nq asq) (by rw [size_two]; omega) Ps kb _ (hk.more Inc.refl) hq hshq) z_B (fun v_ hv => ?_))
            obtain ⟨r, rfl, hrc⟩ := hv
            rcases Bool.eq_false_or_eq_true r with hrb | hrb <;> subst hrb
            ·
              refine ⟨⟨z_D, z_D, z_D, z_B⟩, ?_⟩
              refine TK.take 13 rfl (by decide +kernel) (by decide +kernel) (by decide +kernel) rfl (fun _ _ _ h => h) (fun L_ ⟨k1_, k2_, k3_, k4_⟩ => V1.move' z_C) ?_
              refine TK.take 14 rfl (by decide +kernel) (by decide +kernel) (by decide +kernel) rfl (fun _ _ _ h => h) (fun L_ ⟨k1_, k2_, k3_, k4_⟩ => V1.load1 one_65 rfl (.own z_D (by rfl))) ?_
              refine TK.take 15 rfl (by decide +kernel) (by decide +kernel) (by decide +kernel) rfl (fun _ _ _ h => h) (fun L_ ⟨k1_, k2_, k3_, k4_⟩ => V1.loadN one_24 sz_24 rfl (RdN.whole z_D) (by rfl)) ?_
              refine TK.one 16 (by decide +kernel) rfl rfl (T1.callC has_91 rfl rfl (public_any w0 Ps _ _ hp) z_B (fun v_ Yd hY => ?_))
              obtain ⟨cd, rfl, hd⟩ := hY
              refine ⟨⟨z_D, z_D, z_D, z_B⟩, ?_⟩
              refine TK.one 17 (by decide +kernel) rfl rfl (T1.callV has_61 rfl rfl (hrec (pub (.mk kp np asp)) (by rw [pub_size, size_two]; have := Tm.size_pos (.mk kq nq asq); omega) (Yd ++ Ps) kb _ (hk.more (Inc.skip Inc.refl)) hd (shp_pub hshp)) z_B (fun v_ hv => ?_))
              obtain ⟨r, rfl, hrd_⟩ := hv
              rcases Bool.eq_false_or_eq_true r with hrb | hrb <;> subst hrb
              ·
                refine ⟨⟨z_D, z_D, z_D, z_B⟩, ?_⟩
                refine TK.take 18 rfl (by decide +kernel) (by decide +kernel) (by decide +kernel) rfl (fun _ _ _ h => h) (fun L_ ⟨k1_, k2_, k3_, k4_⟩ => V1.pick rfl z_C) ?_
                refine TK.take 19 rfl (by decide +kernel) (by decide +kernel) (by decide +kernel) rfl (fun _ _ _ h => h) (fun L_ ⟨k1_, k2_, k3_, k4_⟩ => V1.pick rfl z_C) ?_
                refine TK.take 20 rfl (by decide +kernel) (by decide +kernel) (by decide +kernel) rfl (fun _ _ _ h => h) (fun L_ ⟨k1_, k2_, k3_, k4_⟩ => V1.assign' z_C) ?_
                refine TD.done (by decide +kernel) ?_
                refine T.ret ?_
                exact ⟨_, G, _, .cons (.tmp z_C) .nil, z_A, rfl, ⟨_, rfl, by rw [Mk.six_iff]; simp_all⟩⟩
              ·
                refine ⟨⟨z_D, z_D, z_D, z_B⟩, ?_⟩
                refine TK.take 18 rfl (by decide +kernel) (by decide +kernel) (by decide +kernel) rfl (fun _ _ _ h => h) (fun L_ ⟨k1_, k2_, k3_, k4_⟩ => V1.pick rfl z_C) ?_
                refine TK.take 19 rfl (by decide +kernel) (by decide +kernel) (by decide +kernel) rfl (fun _ _ _ h => h) (fun L_ ⟨k1_, k2_, k3_, k4_⟩ => V1.pick rfl z_C) ?_
                refine TK.take 20 rfl (by decide +kernel) (by decide +kernel) (by decide +kernel) rfl (fun _ _ _ h => h) (fun L_ ⟨k1_, k2_, k3_, k4_⟩ => V1.assign' z_C) ?_
                refine TD.done (by decide +kernel) ?_
                refine T.ret ?_
                exact ⟨_, G, _, .cons (.tmp z_C) .nil, z_A, rfl, ⟨_, rfl, by rw [Mk.six_iff]; simp_all⟩⟩
            ·
              refine ⟨⟨z_D, z_D, z_D, z_B⟩, ?_⟩
              refine TK.take 13 rfl (by decide +kernel) (by decide +kernel) (by decide +kernel) rfl (fun _ _ _ h => h) (fun L_ ⟨k1_, k2_, k3_, k4_⟩ => V1.move' z_C) ?_
              refine TD.takeNo (i := 14) rfl (by decide +kernel) (by decide +kernel) (by decide +kernel) rfl (fun _ _ _ h => h) ?_
              refine TD.takeNo (i := 15) rfl (by decide +kernel) (by decide +kernel) (by decide +kernel) rfl (fun _ _ _ h => h) ?_
              refine TD.takeNo (i := 16) rfl (by decide +kernel) (by decide +kernel) (by decide +kernel) rfl (fun _ _ _ h => h) ?_
              refine TD.takeNo (i := 17) rfl (by decide +kernel) (by decide +kernel) (by decide +kernel) rfl (fun _ _ _ h => h) ?_
              refine TK.take 18 rfl (by decide +kernel) (by decide +kernel) (by decide +kernel) rfl (fun _ _ _ h => h) (fun L_ ⟨k1_, k2_, k3_, k4_⟩ => V1.pick rfl z_C) ?_
              refine TK.take 19 rfl (by decide +kernel) (by decide +kernel) (by decide +kernel) rfl (fun _ _ _ h => h) (fun L_ ⟨k1_, k2_, k3_, k4_⟩ => V1.pick rfl z_C) ?_
              refine TK.take 20 rfl (by decide +kernel) (by decide +kernel) (by decide +kernel) rfl (fun _ _ _ h => h) (fun L_ ⟨k1_, k2_, k3_, k4_⟩ => V1.assign' z_C) ?_
              refine TD.done (by decide +kernel) ?_
              refine T.ret ?_
              exact ⟨_, G, _, .cons (.tmp z_C) .nil, z_A, rfl, ⟨_, rfl, by rw [Mk.six_iff]; simp_all⟩⟩
      ·
        refine TL.cons rfl (V1.t (V1.assign' z_C) ?_)
        refine TL.nil ?_
        refine T.cond_f rfl ?_
        refine T.skip ?_
        refine T.seq ?_
        refine T.region ?_
        refine TL.cons rfl (V1.t (V1.fieldAddr fl_24_2 rfl) ?_)
        refine TL.cons rfl (V1.t (V1.load1 one_22 rfl (.own z_D (by rfl))) ?_)
        refine TL.cons rfl (V1.t (V1.makeFuncC z_C) ?_)
        have hC_ : ∀ x ∈ ts, ∀ cx, TmR w0 (⟨b2, 0, [.pointer (some ⟨kb, 0, none⟩)], 1⟩ :: Ps) x cx → FnV P 92 [.agg cx.toArray, .pointer (some ⟨b2, 0, none⟩)] w0 (⟨b2, 0, [.pointer (some ⟨kb, 0, none⟩)], 1⟩ :: Ps) (fun v => ∃ r, v = .bool r ∧ (r = true ↔ ¬ Mk (· ∈ l) x)) := fun x hx1 cx hcx => FnG.more (makes1_any w0 (⟨b2, 0, [.pointer (some ⟨kb, 0, none⟩)], 1⟩ :: Ps) x cx (hrec x (size_arg hx1)) (hk.more (Inc.skip1 Inc.refl)) hcx ((shp_mk.1 hsh).2 x hx1)) (Inc.cons .here Inc.refl)
        refine TL.cons rfl (T1.callV has_75 rfl rfl (ContainsFunc_any w0 (⟨b2, 0, [.pointer (some ⟨kb, 0, none⟩)], 1⟩ :: Ps) (fun x => ¬ Mk (· ∈ l) x) has_92 hC_ (hr.more (Inc.skip1 Inc.refl)) (ht.more (Inc.skip1 Inc.refl)) hl) z_B (fun v_ hv => ?_))
        obtain ⟨r, rfl, hr_⟩ := hv
        refine TL.cons rfl (V1.t (V1.not rfl rfl) ?_)
        refine TL.cons rfl (V1.t (V1.assign' z_C) ?_)
        refine TL.nil ?_
        refine T.ret ?_
        exact ⟨_, G, _, .cons (.tmp z_C) .nil, z_A, rfl, ⟨_, rfl, by rw [Mk.comp_iff h4 h6]; cases r <;> simp_all⟩⟩

theorem makes_any (w0 : World) (l : List Tm) (u : Tm) : MakesAt w0 l u := by
  obtain ⟨n, hn⟩ : ∃ n, n = u.size := ⟨_, rfl⟩
  induction n using Nat.strongRecOn generalizing u with
  | ind n ih =>
    subst hn
    obtain ⟨k, nm, ts⟩ := u
    exact fun Ps kb cu h1 h2 h3 => makes_step w0 Ps (fun v hv => ih v.size hv v rfl) cu h1 h2 h3
set_option maxRecDepth 100000 in
theorem Makes_any (w0 : World) (Ps : List Blk) {kb : Nat} {l : List Tm} (t : Tm) (ct : List Value) (hk : KnR w0 Ps kb l) (hx : TmR w0 Ps t ct) : FnV P 28 [.pointer (some ⟨kb, 0, none⟩), .agg ct.toArray] w0 Ps (fun v => ∃ r, v = .bool r ∧ (r = true ↔ chk t = 0 ∧ Mk (· ∈ l) (nrm t))) := by
  obtain ⟨k, nm, ts⟩ := t
  obtain ⟨a, c, vs, rfl, hr, hl, ht⟩ := hx.inv
  refine FnV.of 14 [.tmp 4] Go.Proofs.Tryz.func28 rfl rfl rfl rfl (fun G hG => ?_)
  refine T.seq ?_
  refine T.region ?_
  refine TL.cons rfl (T1.boxN 3 rfl rfl (fun b3 => ?_))
  refine TL.cons rfl (V1.t (V1.assign' z_C) ?_)
  rcases Classical.em (chk (.mk k nm ts) = 0) with hm | hm
  ·
    have hsh := chk_shp hm
    refine TL.nil ?_
    refine T.seq ?_
    refine T.region ?_
    refine TL.cons rfl (V1.t (V1.loadN one_24 sz_24 rfl (RdN.whole z_D) (by rfl)) ?_)
    refine TL.cons rfl (T1.callV has_13 rfl rfl (Check_any w0 Ps _ _ hx) z_B (fun v_ hv => ?_))
    obtain rfl := hv
    refine TL.cons rfl (V1.t (V1.eqI (r := true) rfl rfl (by simp only [hm]; rfl)) ?_)
    refine TL.cons rfl (V1.t (V1.move' z_C) ?_)
    refine TL.cons rfl (V1.t (V1.move' z_C) ?_)
    refine TL.cons rfl (V1.t (V1.loadN one_24 sz_24 rfl (RdN.whole z_D) (by rfl)) ?_)
    refine TL.cons rfl (T1.callC has_17 rfl rfl (Normal_any w0 _ Ps _ hx hsh) z_B (fun v_ Y_ hY => ?_))
    obtain ⟨cy, rfl, hcy⟩ := hY
    refine TL.cons rfl (T1.callV has_61 rfl rfl (makes_any w0 l _ (Y_ ++ Ps) kb _ (hk.more (Inc.skip Inc.refl)) hcy (shp_nrm _ hsh)) z_B (fun v_ hv => ?_))
    obtain ⟨r, rfl, hr_⟩ := hv
    refine TL.cons rfl (V1.t (V1.pick rfl z_C) ?_)
    refine TL.cons rfl (V1.t (V1.assign' z_C) ?_)
    refine TL.nil ?_
    refine T.ret ?_
    exact ⟨_, G, _, .cons (.tmp z_C) .nil, z_A, rfl, ⟨_, rfl, by rw [hr_]; simp only [hm, true_and]⟩⟩
  ·
    refine TL.nil ?_
    refine T.seq ?_
    refine T.region ?_
    refine TL.cons rfl (V1.t (V1.loadN one_24 sz_24 rfl (RdN.whole z_D) (by rfl)) ?_)
    refine TL.cons rfl (T1.callV has_13 rfl rfl (Check_any w0 Ps _ _ hx) z_B (fun v_ hv => ?_))
    obtain rfl := hv
    refine TL.cons rfl (V1.t (V1.eqI (r := false) rfl rfl (decide_eq_false hm)) ?_)
    refine TL.cons rfl (V1.t (V1.move' z_C) ?_)
    refine TL.no rfl ?_
    refine TL.no rfl ?_
    refine TL.no rfl ?_
    refine TL.no rfl ?_
    refine TL.cons rfl (V1.t (V1.pick rfl z_C) ?_)
    refine TL.cons rfl (V1.t (V1.assign' z_C) ?_)
    refine TL.nil ?_
    refine T.ret ?_
    exact ⟨_, G, _, .cons (.tmp z_C) .nil, z_A, rfl, ⟨_, rfl, by simp [hm]⟩⟩

end Go.Proofs.YtlpkcbkflfbclaaGreatDoor.S
