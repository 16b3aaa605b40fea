/- Terms that are learnt. -/
import Derived.Test.YtlpkcbkflfbclaaGreatDoorT10
namespace Go.Proofs.YtlpkcbkflfbclaaGreatDoor.S
open Go.RowKit

/-- How the set of what came stands to what came. -/
structure LnInv (l ts : List Tm) (i : Nat) (m : List Tm) : Prop where
  srt : Srt m
  mem : ∀ x, x ∈ m ↔ Base l (ts.take i) x
  len : m.length ≤ l.length + i
  ok : ∀ t ∈ ts.take i, chk t = 0
  shp : ∀ x ∈ m, S.shp x = true
theorem LnInv.start {l ts : List Tm} (h : Srt l) (hs : ∀ x ∈ l, S.shp x = true) : LnInv l ts 0 l := ⟨h, fun x => by simp [Base], by omega, fun t ht => by simp at ht, hs⟩
theorem LnInv.next {l ts m : List Tm} {i : Nat} {t : Tm} (h : LnInv l ts i m) (ht : ts[i]? = some t) (hc : chk t = 0) : LnInv l ts (i + 1) (insT m (nrm t)) := by
  have htk : ts.take (i + 1) = ts.take i ++ [t] := by rw [List.take_add_one, ht]; rfl
  refine ⟨insT_srt h.srt _, fun x => ?_, ?_, fun u hu => ?_, fun x hx => ?_⟩
  · rw [insT_mem, h.mem, htk]
    unfold Base
    simp only [List.mem_append, List.mem_singleton]
    constructor
    · rintro (rfl | h | ⟨u, hu, rfl⟩)
      · exact .inr ⟨t, .inr rfl, rfl⟩
      · exact .inl h
      · exact .inr ⟨u, .inl hu, rfl⟩
    · rintro (h | ⟨u, hu | rfl, rfl⟩)
      · exact .inr (.inl h)
      · exact .inr (.inr ⟨u, hu, rfl⟩)
      · exact .inl rfl
  · have := h.len; rw [insT_len]; split <;> omega
  · rw [htk] at hu
    rcases List.mem_append.1 hu with hu | hu
    · exact h.ok u hu
    · rw [List.mem_singleton] at hu; subst hu; exact hc
  · rcases insT_mem.1 hx with rfl | hx
    · exact shp_nrm _ (chk_shp hc)
    · exact h.shp x hx
/-- .. while it is taken apart. -/
structure LnTwo (l ts : List Tm) (m : List Tm) : Prop where
  srt : Srt m
  sup : ∀ x, Base l ts x → x ∈ m
  der : ∀ x ∈ m, Der (Base l ts) x
  sub : ∀ x ∈ m, ∃ y, Base l ts y ∧ x ∈ subs y
  shp : ∀ x ∈ m, S.shp x = true
  len : m.length ≤ 5000
theorem LnTwo.start {l ts m : List Tm} (h : LnInv l ts ts.length m) (hl : l.length + ts.length ≤ 5000) : LnTwo l ts m ∧ ∀ t ∈ ts, chk t = 0 := by
  have hm := h.mem
  have ho := h.ok
  rw [List.take_length] at hm ho
  exact ⟨⟨h.srt, fun x hx => (hm x).2 hx, fun x hx => .known ((hm x).1 hx), fun x hx => ⟨x, (hm x).1 hx, subs_self x⟩, h.shp, by have := h.len; omega⟩, ho⟩
theorem LnTwo.next {l ts m m' : List Tm} {more : Bool} (h : LnTwo l ts m) (ha : ApInv m m.length m' more) (hl : m'.length ≤ 5000) : LnTwo l ts m' :=
  ⟨ha.st.srt, fun x hx => ha.st.sup x (h.sup x hx), fun x hx => (ha.st.der x hx).cut h.der, fun x hx => by obtain ⟨y, hy, h1⟩ := ha.st.sub x hx; obtain ⟨z, hz, h2⟩ := h.sub y hy; exact ⟨z, hz, subs_trans h1 h2⟩,
    fun x hx => by obtain ⟨y, hy, h1⟩ := ha.st.sub x hx; exact shp_sub (h.shp y hy) h1, hl⟩
theorem LnTwo.full {l ts m m' : List Tm} {more : Bool} (h : LnTwo l ts m) (ha : ApInv m m.length m' more) : ∀ x ∈ m', ∃ y, Base l ts y ∧ x ∈ subs y :=
  fun x hx => by obtain ⟨y, hy, h1⟩ := ha.st.sub x hx; obtain ⟨z, hz, h2⟩ := h.sub y hy; exact ⟨z, hz, subs_trans h1 h2⟩

set_option maxRecDepth 100000 in
set_option maxHeartbeats 4000000 in
theorem Learn_any (w0 : World) (Ps : List Blk) {kb : Nat} {s : Value} {Ls : List Blk} {l : List Tm} {vs : List Value} (hsl : SlG (some 24) s vs 3 Ls) (hl : TmsR w0 Ps l vs) (hn : l.length ≤ 4000) (hs : Srt l) (hsh : ∀ x ∈ l, shp x = true) {ts : List Tm} {a : Option Addr} {c : Nat} {us : List Value} (hr : RowR w0 Ps 3 (.slice a ts.length c) ts.length us) (ht : TmsR w0 Ps ts us) (hts : ts.length ≤ 1000) : FnG P 60 [.pointer (some ⟨kb, 0, none⟩), .slice a ts.length c] w0 Ps ((⟨kb, 0, [s], 1⟩ : Blk) :: Ls) (fun v Y => ∃ e s' Ls' Y' vs' l', v = .int .i64 e ∧ Y = (⟨kb, 0, [s'], 1⟩ : Blk) :: (Ls' ++ Y') ∧ SlG (some 24) s' vs' 3 Ls' ∧ TmsR w0 (Y' ++ Ps) l' vs' ∧ LearnR l ts e l') := by
  obtain ⟨a0, c0, rfl, hrow⟩ := hsl.tm hl
  refine FnG.of 45 [.tmp 4] Go.Proofs.Tryz.func60 rfl rfl rfl rfl (fun G hG => ?_)
  simp only [List.cons_append]
  refine T.seq ?_
  refine T.region ?_
  refine TL.cons rfl (V1.t (V1.assign' z_C) ?_)
  refine TL.nil ?_
  refine T.seq ?_
  refine T.region ?_
  refine TL.cons rfl (V1.t (V1.move' z_C) ?_)
  refine TL.cons rfl (V1.t (V1.nilCheck rfl) ?_)
  refine TL.cons rfl (V1.t (V1.fieldAddr fl_108_0 rfl) ?_)
  refine TL.cons rfl (V1.t (V1.load1 one_106 rfl (.own z_D (by rfl))) ?_)
  refine TL.cons rfl (T1.callC has_87 rfl rfl (Clone_any w0 (Ls ++ Ps) hrow (hl.more (Inc.skip Inc.refl)) (by omega)) z_B (fun v_ Yc hY => ?_))
  have hslc : SlG (some 24) v_ vs 3 Yc := hY
  refine TL.cons rfl (V1.t (V1.buildF pl_108 zr_108 (.one rfl z_C hslc.one .nil) z_H) ?_)
  refine TL.cons rfl (T1.allocN 1 zr_108 rfl (fun b5 => ?_))
  refine TL.cons rfl (T1.storeN rfl rfl sz_108 (by intro u hu; rw [List.mem_singleton] at hu; subst hu; exact hslc.one) z_G (by rfl) (by rfl) ?_)
  refine TL.nil ?_
  refine T.seq ?_
  refine T.seq ?_
  refine T.region ?_
  refine TL.cons rfl (V1.t (V1.move' z_C) ?_)
  refine TL.cons rfl (V1.t (V1.lenSl ty_22 rfl) ?_)
  refine TL.cons rfl (V1.t (V1.move' z_C) ?_)
  refine TL.nil ?_
  refine T.block ?_
  refine T.loopL (σ := Nat) (l0 := [(0, _), (5, _), (15, _), (16, _)]) (fun x => [(17, .int .i64 (x : Nat))]) (fun i L => ∃ s5 L5 Yp vs5 m, L = (⟨kb, 0, [.slice a0 l.length c0], 1⟩ : Blk) :: (⟨b5, 0, [s5], 1⟩ : Blk) :: (Ls ++ (L5 ++ (Yp ++ G))) ∧ i ≤ ts.length ∧ SlG (some 24) s5 vs5 3 L5 ∧ TmsR w0 (Yp ++ Ps) m vs5 ∧ LnInv l ts i m) (fun i => ts.length - i) 0 (.cons rfl .nil) (.cons z_C (.cons z_C (.cons z_C (.cons z_C .nil)))) z_A (⟨_, Yc, [], vs, l, rfl, Nat.zero_le _, hslc, hl, .start hs hsh⟩) ?_
  rintro i e_ L ⟨s5, L5, Yp, vs5, m, rfl, hi, hsl5, hl5, hln⟩
  have hlen5 := hln.len
  refine T.seq ?_
  refine T.region ?_
  refine TL.cons rfl (T1.ltI_split rfl rfl (fun h3 => ?_) (fun h3 => ?_))
  ·
    obtain ⟨x, hx0⟩ : ∃ x, ts[i]? = some x := ⟨_, List.getElem?_eq_getElem (by omega)⟩
    obtain ⟨bx, ox, cs_, rfl, hx, hrdx⟩ := hr.term ht hx0 P
    obtain ⟨kx, nx, asx⟩ := x
    obtain ⟨ax, cx, vsx, rfl, hrx, hlx, htx⟩ := hx.inv
    try simp only at *
    refine TL.nil ?_
    refine T.seq ?_
    refine T.cond_t rfl ?_
    refine T.skip ?_
    refine T.seq ?_
    refine T.block ?_
    refine T.seq ?_
    refine T.region ?_
    refine TL.cons rfl (V1.t (V1.indexAddrS ty_22 sz_24 rfl rfl (by omega) (by omega)) ?_)
    refine TL.cons rfl (V1.t (V1.loadN (vs := [.int .i64 kx, .string (bstr nx), .slice ax asx.length cx]) one_24 sz_24 rfl (hrdx _ rfl rfl _ z_B) rfl) ?_)
    refine TL.cons rfl (T1.allocN 3 zr_24 rfl (fun b7 => ?_))
    refine TL.cons rfl (T1.storeN rfl rfl sz_24 (ones rfl) z_G (by rfl) (by rfl) ?_)
    refine TL.nil ?_
    refine T.seq ?_
    refine T.seq ?_
    refine T.region ?_
    refine TL.cons rfl (V1.t (V1.loadN one_24 sz_24 rfl (RdN.whole z_D) (by rfl)) ?_)
    refine TL.cons rfl (T1.callV has_13 rfl rfl (Check_any w0 Ps (.mk kx nx asx) _ hx) z_B (fun v_ hv => ?_))
    obtain rfl := hv
    refine TL.cons rfl (V1.t (V1.assign' z_C) ?_)
    refine TL.nil ?_
    refine T.seq ?_
    refine T.region ?_
    refine TL.cons rfl (V1.t (V1.move' z_C) ?_)
    refine TL.cons rfl (T1.neI_split rfl rfl (fun h6 => ?_) (fun h6 => ?_))
    ·
      refine TL.nil ?_
      refine T.cond_t rfl ?_
      refine T.seq ?_
      refine T.region ?_
      refine TL.cons rfl (V1.t (V1.move' z_C) ?_)
      refine TL.cons rfl (V1.t (V1.assign' z_C) ?_)
      refine TL.nil ?_
      refine T.ret ?_
      exact ⟨_, (⟨kb, 0, [.slice a0 l.length c0], 1⟩ : Blk) :: (Ls ++ G), _, .cons (.tmp z_C) .nil, z_A, (⟨kb, 0, [.slice a0 l.length c0], 1⟩ : Blk) :: (Ls ++ []), by rw [List.append_nil]; rfl, _, _, Ls, [], vs, l, rfl, rfl, hsl, hl, .bad hx0 hln.ok h6⟩
    ·
      have hck : chk (.mk kx nx asx) = 0 := h6
      refine TL.nil ?_
      refine T.cond_f rfl ?_
      refine T.skip ?_
      refine T.region ?_
      refine TL.cons rfl (V1.t (V1.fieldAddr fl_108_0 rfl) ?_)
      refine TL.cons rfl (V1.t (V1.loadN one_24 sz_24 rfl (RdN.whole z_D) (by rfl)) ?_)
      refine TL.cons rfl (T1.callC has_17 rfl rfl (Normal_any w0 (.mk kx nx asx) Ps _ hx (chk_shp hck)) z_B (fun v_ Y_ hY => ?_))
      obtain ⟨cy, rfl, hcy⟩ := hY
      refine TL.cons rfl (T1.callM (X := (⟨b5, 0, [s5], 1⟩ : Blk) :: L5) has_88 rfl rfl (add_any w0 (Y_ ++ (Yp ++ Ps)) (kb := b5) hsl5 (hl5.more (Inc.skip Inc.refl)) (by omega) hln.srt _ _ (hcy.more (Inc.app Inc.here (Inc.skip (Inc.skip Inc.refl))))) z_A z_B (fun v_ Y2_ hY => ?_))
      obtain ⟨rfl, sA, LsA, vsA, rfl, hslA, hlA⟩ := hY
      simp only [List.cons_append]
      refine TL.nil ?_
      refine T.region ?_
      refine TL.cons rfl (V1.t (V1.add (c := ((i + 1 : Nat) : Int)) rfl rfl (by rw [wrap_i64 _ (by omega) (by omega)]; omega)) ?_)
      refine TL.cons rfl (V1.t (V1.move' z_C) ?_)
      refine TL.nil ?_
      exact ⟨i + 1, (⟨kb, 0, [.slice a0 l.length c0], 1⟩ : Blk) :: (⟨b5, 0, [sA], 1⟩ : Blk) :: (Ls ++ (LsA ++ (Y_ ++ (Yp ++ G)))), _, (by simp only; omega), (.cons rfl .nil), (.cons rfl (.cons rfl (.cons rfl (.cons rfl .nil)))), z_A, ⟨sA, LsA, Y_ ++ Yp, vsA, _, by rw [List.append_assoc], by omega, hslA, by rw [List.append_assoc]; exact hlA, hln.next hx0 hck⟩⟩
  ·
    obtain rfl : i = ts.length := by omega
    obtain ⟨htw, hck⟩ := LnTwo.start hln (by omega)
    refine TL.nil ?_
    refine T.seq ?_
    refine T.cond_f rfl ?_
    refine T.exit ?_
    refine T.seq ?_
    refine T.block ?_
    refine T.loopL (σ := List Tm) (l0 := [(0, _), (5, _)]) (fun x => []) (fun m L => ∃ s6 L6 vs6, L = (⟨kb, 0, [.slice a0 l.length c0], 1⟩ : Blk) :: (⟨b5, 0, [s6], 1⟩ : Blk) :: (Ls ++ (L6 ++ (Yp ++ G))) ∧ SlG (some 24) s6 vs6 3 L6 ∧ TmsR w0 (Yp ++ Ps) m vs6 ∧ LnTwo l ts m) (fun m => 20000 - m.length) m .nil (.cons z_C (.cons z_C .nil)) z_A (⟨s5, L5, vs5, rfl, hsl5, hl5, htw⟩) ?_
    rintro m e_ L ⟨s6, L6, vs6, rfl, hsl6, hl6, htw⟩
    have hm5 := htw.len
    refine T.seq ?_
    refine T.seq ?_
    refine T.region ?_
    refine TL.cons rfl (T1.callM (X := (⟨b5, 0, [s6], 1⟩ : Blk) :: L6) has_89 rfl rfl (apart_any w0 (Yp ++ Ps) (kb := b5) hsl6 hl6 (by omega) htw.srt htw.shp) z_A z_B (fun v_ Y_ hY => ?_))
    obtain ⟨more, s7, L7, vs7, m2, rfl, rfl, hsl7, hl7, hap⟩ := hY
    simp only [List.cons_append]
    obtain ⟨a7, c7, rfl, hrow7⟩ := hsl7.tm hl7
    rcases Bool.eq_false_or_eq_true more with hb | hb <;> subst hb
    ·
      refine TL.nil ?_
      refine T.cond_t rfl ?_
      refine T.skip ?_
      refine T.block ?_
      refine T.seq ?_
      refine T.region ?_
      refine TL.cons rfl (V1.t (V1.fieldAddr fl_108_0 rfl) ?_)
      refine TL.cons rfl (V1.t (V1.load1 one_106 rfl (.own z_D (by rfl))) ?_)
      refine TL.cons rfl (V1.t (V1.lenSl ty_106 rfl) ?_)
      refine TL.cons rfl (T1.gtI_split rfl rfl (fun h11 => ?_) (fun h11 => ?_))
      ·
        refine TL.nil ?_
        refine T.cond_t rfl ?_
        refine T.seq ?_
        refine T.region ?_
        refine TL.cons rfl (V1.t (V1.assign' z_C) ?_)
        refine TL.nil ?_
        refine T.ret ?_
        exact ⟨_, (⟨kb, 0, [.slice a0 l.length c0], 1⟩ : Blk) :: (Ls ++ G), _, .cons (.tmp z_C) .nil, z_A, (⟨kb, 0, [.slice a0 l.length c0], 1⟩ : Blk) :: (Ls ++ []), by rw [List.append_nil]; rfl, _, _, Ls, [], vs, l, rfl, rfl, hsl, hl, .full hck hap.st.srt.nodup (by omega) (htw.full hap)⟩
      ·
        refine TL.nil ?_
        refine T.cond_f rfl ?_
        refine T.skip ?_
        exact ⟨m2, _, _, (by have h1 := hap.st.yes rfl; simp only; omega), .nil, (.cons rfl (.cons rfl .nil)), z_A, ⟨_, _, _, rfl, hsl7, hl7, htw.next hap (by omega)⟩⟩
    ·
      obtain ⟨hmm, hcl⟩ : m2 = m ∧ Closed (· ∈ m2) := by have h1 := hap.st.no rfl; subst h1; exact ⟨rfl, hap.closed.2⟩
      refine TL.nil ?_
      refine T.cond_f rfl ?_
      refine T.exit ?_
      refine T.seq ?_
      refine T.seq ?_
      refine T.region ?_
      refine TL.cons rfl (V1.t (V1.fieldAddr fl_108_0 rfl) ?_)
      refine TL.cons rfl (V1.t (V1.load1 one_106 rfl (.own z_D (by rfl))) ?_)
      refine TL.cons rfl (V1.t (V1.lenSl ty_106 rfl) ?_)
      refine TL.cons rfl (T1.gtI_split rfl rfl (fun h13 => ?_) (fun h13 => ?_))
      ·
        refine TL.nil ?_
        refine T.cond_t rfl ?_
        refine T.seq ?_
        refine T.region ?_
        refine TL.cons rfl (V1.t (V1.assign' z_C) ?_)
        refine TL.nil ?_
        refine T.ret ?_
        exact ⟨_, (⟨kb, 0, [.slice a0 l.length c0], 1⟩ : Blk) :: (Ls ++ G), _, .cons (.tmp z_C) .nil, z_A, (⟨kb, 0, [.slice a0 l.length c0], 1⟩ : Blk) :: (Ls ++ []), by rw [List.append_nil]; rfl, _, _, Ls, [], vs, l, rfl, rfl, hsl, hl, .full hck hap.st.srt.nodup (by omega) (htw.full hap)⟩
      ·
        refine TL.nil ?_
        refine T.cond_f rfl ?_
        refine T.skip ?_
        refine T.seq ?_
        refine T.region ?_
        refine TL.cons rfl (V1.t (V1.move' z_C) ?_)
        refine TL.cons rfl (V1.t (V1.fieldAddr fl_108_0 rfl) ?_)
        refine TL.cons rfl (V1.t (V1.load1 one_106 rfl (.own z_D (by rfl))) ?_)
        refine TL.cons rfl (V1.t (V1.nilCheck rfl) ?_)
        refine TL.cons rfl (V1.t (V1.fieldAddr fl_108_0 rfl) ?_)
        refine TL.cons rfl (T1.store1 rfl rfl sz_106 rfl z_G (Nat.zero_le _) (by repeat (first | exact SetAt.here | apply SetAt.there)) ?_)
        refine TL.nil ?_
        refine T.seq ?_
        refine T.region ?_
        refine TL.cons rfl (V1.t (V1.assign' z_C) ?_)
        refine TL.nil ?_
        refine T.ret ?_
        exact ⟨_, (⟨kb, 0, [.slice a7 m2.length c7], 1⟩ : Blk) :: (L7 ++ (Yp ++ G)), _, .cons (.tmp z_C) .nil, z_A, (⟨kb, 0, [.slice a7 m2.length c7], 1⟩ : Blk) :: (L7 ++ Yp), by rw [List.cons_append, List.append_assoc], _, _, L7, Yp, vs7, m2, rfl, rfl, hsl7, hl7, .ok hck hap.st.srt (htw.next hap (by omega)).sup (htw.next hap (by omega)).der (htw.next hap (by omega)).sub hcl (by omega) (htw.next hap (by omega)).shp⟩

end Go.Proofs.YtlpkcbkflfbclaaGreatDoor.S
