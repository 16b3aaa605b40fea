/- The parts of a term, each once, in their order. -/
import Derived.Test.YtlpkcbkflfbclaaGreatDoorT6
namespace Go.Proofs.YtlpkcbkflfbclaaGreatDoor.S
open Go.RowKit

theorem prt_len (t : Tm) : ∀ out, (prt t out).length ≤ out.length + t.size := by
  induction t using Tm.ind with
  | h k n ts ih =>
    intro out
    rw [prt, Tm.size]
    split
    · omega
    · have key : ∀ (us : List Tm), (∀ u ∈ us, u ∈ ts) → ∀ o, (prtL us o).length ≤ o.length + tsize us := by
        intro us
        induction us with
        | nil => intro _ o; rw [prtL, tsize]; omega
        | cons u us ihu =>
          intro hu o
          rw [prtL, tsize]
          have h1 := ih u (hu u (by simp)) o
          have h2 := ihu (fun v hv => hu v (by simp [hv])) (prt u o)
          omega
      have := key ts (fun _ h => h) (out ++ [.mk k n ts])
      rw [List.length_append, List.length_singleton] at this
      omega
theorem prtL_len (us : List Tm) : ∀ o, (prtL us o).length ≤ o.length + tsize us := by
  induction us with
  | nil => intro o; rw [prtL, tsize]; omega
  | cons u us ih =>
    intro o
    rw [prtL, tsize]
    have h1 := prt_len u o
    have h2 := ih (prt u o)
    omega
theorem prtL_app (us : List Tm) (x : Tm) : ∀ o, prtL (us ++ [x]) o = prt x (prtL us o) := by
  induction us with
  | nil => intro o; rfl
  | cons u us ih => intro o; rw [List.cons_append, prtL, prtL, ih]
theorem prtL_take {ts : List Tm} {i : Nat} {x : Tm} (h : ts[i]? = some x) (o : List Tm) : prtL (ts.take (i + 1)) o = prt x (prtL (ts.take i) o) := by
  rw [List.take_add_one, h]; exact prtL_app _ _ _
theorem tsize_take {ts : List Tm} {i : Nat} {x : Tm} (h : ts[i]? = some x) : tsize (ts.take i) + x.size ≤ tsize ts := by
  have e : ts.take (i + 1) = ts.take i ++ [x] := by rw [List.take_add_one, h]; rfl
  have h1 : tsize ts = tsize (ts.take (i + 1)) + tsize (ts.drop (i + 1)) := by rw [← tsize_app, List.take_append_drop]
  rw [e, tsize_app] at h1
  simp only [tsize] at h1
  omega

set_option maxRecDepth 100000 in
theorem IndexFunc_any (w0 : World) (Ps : List Blk) (p : Tm → Prop) {g : Nat} {cv : Value} {ts : List Tm} {a : Option Addr} {c : Nat} {vs : List Value} (hf : Has P g) (hC : ∀ x ∈ ts, ∀ cx, TmR w0 Ps x cx → FnV P g [.agg cx.toArray, cv] w0 Ps (fun v => ∃ r, v = .bool r ∧ (r = true ↔ p x))) (hr : RowR w0 Ps 3 (.slice a ts.length c) ts.length vs) (ht : TmsR w0 Ps ts vs) (hl : ts.length ≤ maxN) : FnV P 104 [.slice a ts.length c, .func (.func g) #[] #[cv]] w0 Ps (fun v => ∃ r, v = .int .i64 r ∧ (0 ≤ r ↔ ∃ x ∈ ts, p x)) := by
  unfold maxN at hl
  refine FnV.of 19 [.tmp 4] Go.Proofs.Tryz.func104 rfl rfl rfl rfl (fun G hG => ?_)
  refine T.seq ?_
  refine T.region ?_
  refine TL.cons rfl (V1.t (V1.assign' z_D) ?_)
  refine TL.nil ?_
  refine T.seq ?_
  refine T.seq ?_
  refine T.region ?_
  refine TL.cons rfl (V1.t (V1.move' z_D) ?_)
  refine TL.cons rfl (V1.t (V1.lenSl ty_22 rfl) ?_)
  refine TL.cons rfl (V1.t (V1.move' z_D) ?_)
  refine TL.nil ?_
  refine T.block ?_
  refine T.loopL (σ := Nat) (l0 := [(0, _), (1, _), (7, _)]) (fun x => [(8, .int .i64 (x : Nat))]) (fun i L => L = G ∧ i ≤ ts.length ∧ ∀ x ∈ ts.take i, ¬ p x) (fun i => ts.length - i) 0 (.cons rfl .nil) (.cons z_D (.cons z_D (.cons z_D .nil))) z_A (⟨rfl, Nat.zero_le _, fun x hx => by simp at hx⟩) ?_
  rintro i e_ L ⟨hL, hi, ho⟩
  obtain rfl := hL.symm
  refine T.seq ?_
  refine T.region ?_
  refine TL.cons rfl (T1.ltI_split rfl rfl (fun h2 => ?_) (fun h2 => ?_))
  ·
    obtain ⟨x, hx0⟩ : ∃ x, ts[i]? = some x := ⟨_, List.getElem?_eq_getElem (by omega)⟩
    have hm := List.mem_of_getElem? hx0
    have hcx := hC x hm
    obtain ⟨bx, ox, cs_, rfl, hx, hrdx⟩ := hr.term ht hx0 P
    obtain ⟨kx, nx, asx⟩ := x
    obtain ⟨ax, cx, vsx, rfl, hrx, hlx, htx⟩ := hx.inv
    try simp only at *
    refine TL.nil ?_
    refine T.seq ?_
    refine T.cond_t rfl ?_
    refine T.skip ?_
    refine T.seq ?_
    refine T.block ?_
    refine T.seq ?_
    refine T.region ?_
    refine TL.cons rfl (V1.t (V1.move' z_D) ?_)
    refine TL.cons rfl (V1.t (V1.assign' z_D) ?_)
    refine TL.nil ?_
    refine T.seq ?_
    refine T.region ?_
    refine TL.cons rfl (V1.t (V1.move' z_D) ?_)
    refine TL.cons rfl (V1.t (V1.move' z_D) ?_)
    refine TL.cons rfl (V1.t (V1.move' z_D) ?_)
    refine TL.cons rfl (V1.t (V1.indexAddrS ty_22 sz_24 rfl rfl (by omega) (by omega)) ?_)
    refine TL.cons rfl (V1.t (V1.loadN (vs := [.int .i64 kx, .string (bstr nx), .slice ax asx.length cx]) one_24 sz_24 rfl (hrdx _ rfl rfl _ z_E) rfl) ?_)
    refine TL.cons rfl (T1.callGV (first := #[]) (cap := #[cv]) rfl hf rfl rfl (hcx _ hx) z_E (fun v_ hv => ?_))
    obtain ⟨r, rfl, hr_⟩ := hv
    rcases Bool.eq_false_or_eq_true r with hrb | hrb <;> rw [hrb] at hr_ ⊢
    ·
      refine TL.nil ?_
      refine T.cond_t rfl ?_
      refine T.seq ?_
      refine T.region ?_
      refine TL.cons rfl (V1.t (V1.move' z_D) ?_)
      refine TL.cons rfl (V1.t (V1.assign' z_D) ?_)
      refine TL.nil ?_
      refine T.ret ?_
      exact ⟨_, G, _, .cons (.tmp z_D) .nil, z_A, rfl, ⟨_, rfl, by simp only [Int.natCast_nonneg, true_iff]; exact ⟨_, hm, hr_.1 rfl⟩⟩⟩
    ·
      refine TL.nil ?_
      refine T.cond_f rfl ?_
      refine T.skip ?_
      refine T.region ?_
      refine TL.cons rfl (V1.t (V1.add (c := ((i + 1 : Nat) : Int)) rfl rfl (by rw [wrap_i64 _ (by omega) (by omega)]; omega)) ?_)
      refine TL.cons rfl (V1.t (V1.move' z_D) ?_)
      refine TL.nil ?_
      exact ⟨i + 1, _, _, (by simp only; omega), (.cons rfl .nil), (.cons rfl (.cons rfl (.cons rfl .nil))), z_A, ⟨rfl, by omega, fun z hz => by rw [List.take_add_one, hx0] at hz; rcases List.mem_append.1 hz with hz | hz; exact ho z hz; (simp at hz; subst hz; exact fun h => by simp [h] at hr_)⟩⟩
  ·
    obtain rfl : i = ts.length := by omega
    rw [List.take_length] at ho
    refine TL.nil ?_
    refine T.seq ?_
    refine T.cond_f rfl ?_
    refine T.exit ?_
    refine T.seq ?_
    refine T.region ?_
    refine TL.cons rfl (V1.t (V1.assign' z_D) ?_)
    refine TL.nil ?_
    refine T.ret ?_
    exact ⟨_, G, _, .cons (.tmp z_D) .nil, z_A, rfl, ⟨-1, rfl, by simp only [Int.reduceNeg, show ¬ (0 : Int) ≤ -1 by omega, false_iff]; rintro ⟨x, hx, hp⟩; exact ho x hx hp⟩⟩

set_option maxRecDepth 100000 in
theorem ContainsFunc_any (w0 : World) (Ps : List Blk) (p : Tm → Prop) {g : Nat} {cv : Value} {ts : List Tm} {a : Option Addr} {c : Nat} {vs : List Value} (hf : Has P g) (hC : ∀ x ∈ ts, ∀ cx, TmR w0 Ps x cx → FnV P g [.agg cx.toArray, cv] w0 Ps (fun v => ∃ r, v = .bool r ∧ (r = true ↔ p x))) (hr : RowR w0 Ps 3 (.slice a ts.length c) ts.length vs) (ht : TmsR w0 Ps ts vs) (hl : ts.length ≤ maxN) : FnV P 75 [.slice a ts.length c, .func (.func g) #[] #[cv]] w0 Ps (fun v => ∃ r, v = .bool r ∧ (r = true ↔ ∃ x ∈ ts, p x)) := by
  refine FnV.of 9 [.tmp 4] Go.Proofs.Tryz.func75 rfl rfl rfl rfl (fun G hG => ?_)
  refine T.seq ?_
  refine T.region ?_
  refine TL.cons rfl (V1.t (V1.assign' z_D) ?_)
  refine TL.nil ?_
  refine T.seq ?_
  refine T.region ?_
  refine TL.cons rfl (V1.t (V1.move' z_D) ?_)
  refine TL.cons rfl (V1.t (V1.move' z_D) ?_)
  refine TL.cons rfl (T1.callV has_104 rfl rfl (IndexFunc_any w0 Ps p hf hC hr ht hl) z_E (fun v_ hv => ?_))
  obtain ⟨r, rfl, hr_⟩ := hv
  refine TL.cons rfl (V1.t (V1.geI rfl rfl rfl) ?_)
  refine TL.cons rfl (V1.t (V1.assign' z_D) ?_)
  refine TL.nil ?_
  refine T.ret ?_
  exact ⟨_, G, _, .cons (.tmp z_D) .nil, z_A, rfl, ⟨_, rfl, by rw [decide_eq_true_iff]; exact hr_⟩⟩

set_option maxRecDepth 100000 in
theorem parts1_any (w0 : World) (Ps : List Blk) {bt : Nat} {ky : Int} {ny : List UInt8} {asy : List Tm} {ay : Option Addr} {cy : Nat} (x : Tm) (cx : List Value) (hx : TmR w0 Ps x cx) (hy : TmR w0 Ps (.mk ky ny asy) [.int .i64 ky, .string (bstr ny), .slice ay asy.length cy]) : FnV P 76 [.agg cx.toArray, .pointer (some ⟨bt, 0, none⟩)] w0 (⟨bt, 0, [.int .i64 ky, .string (bstr ny), .slice ay asy.length cy], 3⟩ :: Ps) (fun v => ∃ r, v = .bool r ∧ (r = true ↔ x = .mk ky ny asy)) := by
  obtain ⟨k, nm, ts⟩ := x
  obtain ⟨a, c, vs, rfl, hr, hl, ht⟩ := hx.inv
  refine FnV.of 8 [.tmp 3] Go.Proofs.Tryz.func76 rfl rfl rfl rfl (fun G hG => ?_)
  have hG1 : Find G ⟨bt, 0, [.int .i64 ky, .string (bstr ny), .slice ay asy.length cy], 3⟩ := hG.find (List.mem_cons_self ..)
  have hG2 : Inc Ps G := fun B hB => hG B (List.mem_cons_of_mem _ hB)
  refine T.seq ?_
  refine T.region ?_
  refine TL.cons rfl (T1.boxN 3 rfl rfl (fun b2 => ?_))
  refine TL.cons rfl (V1.t (V1.assign' z_D) ?_)
  refine TL.nil ?_
  refine T.seq ?_
  refine T.region ?_
  refine TL.cons rfl (V1.t (V1.loadN one_24 sz_24 rfl (RdN.whole z_C) (by rfl)) ?_)
  refine TL.cons rfl (V1.t (V1.loadN (vs := [.int .i64 ky, .string (bstr ny), .slice ay asy.length cy]) one_24 sz_24 rfl (RdN.whole (size := 3) (Find.there (hG.find (List.mem_cons_self ..)))) (by rfl)) ?_)
  refine TL.cons rfl (T1.callV has_30 rfl rfl (Compare_any w0 _ _ (⟨bt, 0, [.int .i64 ky, .string (bstr ny), .slice ay asy.length cy], 3⟩ :: Ps) _ _ (hx.more (Inc.skip1 Inc.refl)) (hy.more (Inc.skip1 Inc.refl))) z_E (fun v_ hv => ?_))
  obtain rfl := hv
  refine TL.cons rfl (V1.t (V1.eqI rfl rfl rfl) ?_)
  refine TL.cons rfl (V1.t (V1.assign' z_D) ?_)
  refine TL.nil ?_
  refine T.ret ?_
  exact ⟨_, G, _, .cons (.tmp z_D) .nil, z_A, rfl, ⟨_, rfl, by rw [decide_eq_true_iff, cmpT_eq]⟩⟩

def PartsAt (w0 : World) (x : Tm) : Prop := ∀ (Ps : List Blk) (cx : List Value) (out : List Tm) (s : Value) (xs : List Value) (Ls : List Blk), TmR w0 Ps x cx → Sl s xs 3 Ls → TmsR w0 Ps out xs → out.length + x.size ≤ 2000 →
  FnG P 41 [.agg cx.toArray, s] w0 Ps Ls (fun v Y => ∃ xs', Sl v xs' 3 Y ∧ TmsR w0 Ps (prt x out) xs')
set_option maxRecDepth 100000 in
theorem parts_step (w0 : World) (Ps : List Blk) {k : Int} {nm : List UInt8} {ts : List Tm} (ih : ∀ x ∈ ts, PartsAt w0 x) (cx : List Value) (out : List Tm) (s : Value) (xs : List Value) (Ls : List Blk) (hx : TmR w0 Ps (.mk k nm ts) cx) (hsl : Sl s xs 3 Ls) (hout : TmsR w0 Ps out xs) (hB : out.length + (Tm.mk k nm ts).size ≤ 2000) : FnG P 41 [.agg cx.toArray, s] w0 Ps Ls (fun v Y => ∃ xs', Sl v xs' 3 Y ∧ TmsR w0 Ps (prt (.mk k nm ts) out) xs') := by
  obtain ⟨a, c, vs, rfl, hr, hl, ht⟩ := hx.inv
  rw [Tm.size] at hB
  have htl := tsize_len ts
  obtain ⟨sa, sc, rfl, hrow⟩ := hsl.tm hout
  refine FnG.of 27 [.tmp 4] Go.Proofs.Tryz.func41 rfl rfl rfl rfl (fun G hG => ?_)
  refine T.seq ?_
  refine T.region ?_
  refine TL.cons rfl (T1.boxN 3 rfl rfl (fun b2 => ?_))
  refine TL.cons rfl (V1.t (V1.assign' z_D) ?_)
  refine TL.nil ?_
  refine T.seq ?_
  refine T.seq ?_
  refine T.region ?_
  refine TL.cons rfl (V1.t (V1.move' z_D) ?_)
  refine TL.cons rfl (V1.t (V1.makeFuncC z_D) ?_)
  have hC_ : ∀ x ∈ out, ∀ cx, TmR w0 (⟨b2, 0, [.int .i64 k, .string (bstr nm), .slice a ts.length c], 3⟩ :: (Ls ++ Ps)) x cx → FnV P 76 [.agg cx.toArray, .pointer (some ⟨b2, 0, none⟩)] w0 (⟨b2, 0, [.int .i64 k, .string (bstr nm), .slice a ts.length c], 3⟩ :: (Ls ++ Ps)) (fun v => ∃ r, v = .bool r ∧ (r = true ↔ x = .mk k nm ts)) := fun x _ cx hcx => FnG.more (parts1_any w0 (⟨b2, 0, [.int .i64 k, .string (bstr nm), .slice a ts.length c], 3⟩ :: (Ls ++ Ps)) x cx hcx (hx.more (Inc.skip1 (Inc.skip Inc.refl)))) (Inc.cons .here Inc.refl)
  refine TL.cons rfl (T1.callV has_75 rfl rfl (ContainsFunc_any w0 (⟨b2, 0, [.int .i64 k, .string (bstr nm), .slice a ts.length c], 3⟩ :: (Ls ++ Ps)) (fun x => x = .mk k nm ts) has_76 (hC_) (hrow.more (Inc.skip1 Inc.refl)) (hout.more (Inc.skip1 (Inc.skip Inc.refl))) (by unfold maxN; omega)) z_E (fun v_ hv => ?_))
  obtain ⟨r, rfl, hr_⟩ := hv
  rcases Bool.eq_false_or_eq_true r with hrb | hrb <;> rw [hrb] at hr_ ⊢
  ·
    have hin : Tm.mk k nm ts ∈ out := by obtain ⟨x, h1, rfl⟩ := hr_.1 rfl; exact h1
    refine TL.nil ?_
    refine T.cond_t rfl ?_
    refine T.seq ?_
    refine T.region ?_
    refine TL.cons rfl (V1.t (V1.move' z_D) ?_)
    refine TL.cons rfl (V1.t (V1.assign' z_D) ?_)
    refine TL.nil ?_
    refine T.ret ?_
    exact ⟨_, Ls ++ G, _, .cons (.tmp z_D) .nil, z_A, Ls, rfl, xs, hsl, by rw [prt, if_pos hin]; exact hout⟩
  ·
    have hin : Tm.mk k nm ts ∉ out := fun h => by have := hr_.2 ⟨_, h, rfl⟩; cases this
    refine TL.nil ?_
    refine T.cond_f rfl ?_
    refine T.skip ?_
    refine T.seq ?_
    refine T.region ?_
    refine TL.cons rfl (V1.t (V1.move' z_D) ?_)
    refine TL.cons rfl (V1.t (V1.loadN one_24 sz_24 rfl (RdN.whole z_C) (by rfl)) ?_)
    refine TL.cons rfl (T1.buildOne ty_22 sz_24 zr_24 (by decide) z_D (by rfl) (fun b13 => ?_))
    refine TL.cons rfl (T1.append ty_22 kd_22 sz_24 by_24 zr_24 rfl (by decide) (by decide) rfl rfl hsl (.sl (RdN.at0 z_C) rfl) (ones rfl) 3000 (by rw [hout.len]; simp only [List.length_cons, List.length_nil]; omega) (by decide) z_B (fun s2 Ls2 hsl2 => ?_))
    refine TL.cons rfl (V1.t (V1.assign' z_D) ?_)
    refine TL.nil ?_
    refine T.seq ?_
    refine T.seq ?_
    refine T.region ?_
    refine TL.cons rfl (V1.t (V1.fieldAddr fl_24_2 rfl) ?_)
    refine TL.cons rfl (V1.t (V1.load1 one_22 rfl (.own z_C (by rfl))) ?_)
    refine TL.cons rfl (V1.t (V1.lenSl ty_22 rfl) ?_)
    refine TL.cons rfl (V1.t (V1.move' z_D) ?_)
    refine TL.nil ?_
    refine T.block ?_
    refine T.loopL (σ := Nat × Value) (l0 := [(16, _), (17, _)]) (fun x => [(18, .int .i64 (x.1 : Nat)), (1, x.2)]) (fun x L => ∃ xs Ls, L = ⟨b2, 0, [.int .i64 k, .string (bstr nm), .slice a ts.length c], 3⟩ :: (Ls ++ G) ∧ x.1 ≤ ts.length ∧ Sl x.2 xs 3 Ls ∧ TmsR w0 Ps (prtL (ts.take x.1) (out ++ [.mk k nm ts])) xs) (fun x => ts.length - x.1) (0, s2) (.cons rfl (.cons rfl .nil)) (.cons z_D (.cons z_D .nil)) z_A (⟨_, Ls2, rfl, Nat.zero_le _, hsl2, by rw [List.take_zero, prtL]; exact hout.app (TmsR.one hx)⟩) ?_
    rintro ⟨i, s3⟩ e_ L ⟨xs3, Ls3, rfl, hi, hsl3, hout3⟩
    simp only at hi hsl3 hout3
    refine T.seq ?_
    refine T.region ?_
    refine TL.cons rfl (T1.ltI_split rfl rfl (fun h5 => ?_) (fun h5 => ?_))
    ·
      try simp only at h5
      obtain ⟨x, hx0⟩ : ∃ x, ts[i]? = some x := ⟨_, List.getElem?_eq_getElem (by omega)⟩
      have hcx := ih x (List.mem_of_getElem? hx0)
      have htk := prtL_take hx0 (out ++ [.mk k nm ts])
      have hts := tsize_take hx0
      have hpl := prtL_len (ts.take i) (out ++ [.mk k nm ts])
      rw [List.length_append, List.length_singleton] at hpl
      obtain ⟨bx, ox, cs_, rfl, hx, hrdx⟩ := hr.term ht hx0 P
      obtain ⟨kx, nx, asx⟩ := x
      obtain ⟨ax, cx, vsx, rfl, hrx, hlx, htx⟩ := hx.inv
      try simp only at *
      refine TL.nil ?_
      refine T.seq ?_
      refine T.cond_t rfl ?_
      refine T.skip ?_
      refine T.seq ?_
      refine T.block ?_
      refine T.seq ?_
      refine T.region ?_
      refine TL.cons rfl (V1.t (V1.indexAddrS ty_22 sz_24 rfl rfl (by omega) (by omega)) ?_)
      refine TL.cons rfl (V1.t (V1.loadN (vs := [.int .i64 kx, .string (bstr nx), .slice ax asx.length cx]) one_24 sz_24 rfl (hrdx _ rfl rfl _ z_E) rfl) ?_)
      refine TL.cons rfl (T1.allocN 3 zr_24 rfl (fun b6 => ?_))
      refine TL.cons rfl (T1.storeN rfl rfl sz_24 (ones rfl) z_G (by rfl) (by rfl) ?_)
      refine TL.nil ?_
      refine T.region ?_
      refine TL.cons rfl (V1.t (V1.loadN one_24 sz_24 rfl (RdN.whole z_C) (by rfl)) ?_)
      refine TL.cons rfl (V1.t (V1.move' z_D) ?_)
      refine TL.cons rfl (T1.callM (X := Ls3) has_41 rfl rfl (hcx Ps _ _ _ _ _ hx hsl3 hout3 (by omega)) z_A z_E (fun v_ Y_ hY => ?_))
      obtain ⟨xs4, hsl4, hout4⟩ := hY
      refine TL.cons rfl (V1.t (V1.assign' z_D) ?_)
      refine TL.nil ?_
      refine T.region ?_
      refine TL.cons rfl (V1.t (V1.add (c := ((i + 1 : Nat) : Int)) rfl rfl (by rw [wrap_i64 _ (by omega) (by omega)]; omega)) ?_)
      refine TL.cons rfl (V1.t (V1.move' z_D) ?_)
      refine TL.nil ?_
      exact ⟨(i + 1, v_), _, _, (by simp only; omega), (.cons rfl (.cons rfl .nil)), (.cons rfl (.cons rfl .nil)), z_A, ⟨_, _, rfl, by simp only; omega, hsl4, by rw [htk]; exact hout4⟩⟩
    ·
      try simp only at h5
      obtain rfl : i = ts.length := by omega
      rw [List.take_length] at hout3
      refine TL.nil ?_
      refine T.seq ?_
      refine T.cond_f rfl ?_
      refine T.exit ?_
      refine T.seq ?_
      refine T.region ?_
      refine TL.cons rfl (V1.t (V1.move' z_D) ?_)
      refine TL.cons rfl (V1.t (V1.assign' z_D) ?_)
      refine TL.nil ?_
      refine T.ret ?_
      exact ⟨_, Ls3 ++ G, _, .cons (.tmp z_D) .nil, z_A, Ls3, rfl, xs3, hsl3, by rw [prt, if_neg hin]; exact hout3⟩

theorem parts_any (w0 : World) (x : Tm) : PartsAt w0 x := by
  induction x using Tm.ind with
  | h k n xs ih => exact fun Ps cx out s ys Ls h1 h2 h3 h4 => parts_step w0 Ps ih cx out s ys Ls h1 h2 h3 h4
theorem srt_of {us ts : List Tm} (h1 : us.Perm ts) (h2 : ts.Nodup) (h3 : us.Pairwise (fun a b => ¬ cmpT b a < 0)) : Srt us := by
  have hn : us.Nodup := h1.nodup_iff.2 h2
  unfold Srt
  refine (hn.and h3).imp ?_
  rintro a b ⟨hab, hba⟩
  exact (cmpT_ne hab).elim id (fun h => absurd h hba)

set_option maxRecDepth 100000 in
theorem Parts_any (w0 : World) (Ps : List Blk) (x : Tm) (cx : List Value) (hx : TmR w0 Ps x cx) (hB : x.size ≤ 2000) : FnG P 19 [.agg cx.toArray] w0 Ps [] (fun v Y => ∃ us ws, Srt us ∧ (∀ y, y ∈ us ↔ y ∈ subs x) ∧ Sl v ws 3 Y ∧ TmsR w0 Ps us ws) := by
  obtain ⟨k, nm, ts⟩ := x
  obtain ⟨a, c, vs, rfl, hr, hl, ht⟩ := hx.inv
  refine FnG.of 9 [.tmp 2] Go.Proofs.Tryz.func19 rfl rfl rfl rfl (fun G hG => ?_)
  refine T.seq ?_
  refine T.region ?_
  refine TL.cons rfl (T1.boxN 3 rfl rfl (fun b1 => ?_))
  refine TL.cons rfl (V1.t (V1.assign' z_D) ?_)
  refine TL.nil ?_
  refine T.seq ?_
  refine T.region ?_
  refine TL.cons rfl (V1.t (V1.loadN one_24 sz_24 rfl (RdN.whole z_C) (by rfl)) ?_)
  refine TL.cons rfl (T1.callM (X := []) has_41 rfl rfl (parts_any w0 (.mk k nm ts) Ps _ [] (.slice none 0 0) [] [] hx Sl.nil TmsR.nil (by simp only [List.length_nil]; omega)) Take.nil z_E (fun v_ Y_ hY => ?_))
  obtain ⟨xs, hsl, hout⟩ := hY
  have hmem := prt_mem (.mk k nm ts)
  have hnd := prt_nodup (.mk k nm ts)
  have hpl := prt_len (.mk k nm ts) []
  have hne : prt (.mk k nm ts) [] ≠ [] := fun h => by have := (hmem (.mk k nm ts)).2 (subs_self _); rw [h] at this; cases this
  have hpos := List.length_pos_iff.2 hne
  obtain ⟨bs, off, cap, size, rfl, hcap, hsize, rfl⟩ := hsl.blk hout.len hpos
  refine TL.cons rfl (V1.t (V1.assign' z_D) ?_)
  refine TL.nil ?_
  refine T.seq ?_
  refine T.region ?_
  refine TL.cons rfl (V1.t (V1.move' z_D) ?_)
  refine TL.cons rfl (T1.callM (X := [(⟨bs, off, xs, size⟩ : Blk)]) has_42 rfl rfl (SortFunc_any w0 Ps hout hne (by rw [List.length_nil] at hpl; omega)) z_A z_E (fun v_ Y_ hY => ?_))
  obtain ⟨rfl, us, ws, rfl, hp, hsr, hws⟩ := hY
  simp only [List.cons_append, List.nil_append]
  refine TL.nil ?_
  refine T.seq ?_
  refine T.region ?_
  refine TL.cons rfl (V1.t (V1.move' z_D) ?_)
  refine TL.cons rfl (V1.t (V1.assign' z_D) ?_)
  refine TL.nil ?_
  refine T.ret ?_
  exact ⟨_, ⟨bs, off, ws, size⟩ :: G, _, .cons (.tmp z_D) .nil, z_A, [⟨bs, off, ws, size⟩], rfl, us, ws, srt_of hp hnd hsr, fun x => by rw [hp.mem_iff, hmem], by rw [← hp.length_eq] at hcap ⊢; exact SlG.mk hws.len hcap hsize, hws⟩

end Go.Proofs.YtlpkcbkflfbclaaGreatDoor.S
