/- How great a raw term is; and it as the document has it. -/
import Derived.Test.YtlpkcbkflfbclaaGreatDoorP4
import Derived.Test.YtlpkcbkflfbclaaGreatDoorT22
namespace Go.Proofs.YtlpkcbkflfbclaaGreatDoor.S
open Go.RowKit

/-! ### How great it is, counted up to a bound -/
mutual
def bnd : Tm → Int → Nat → Int
  | .mk _ _ ts, s, d => if d = 0 ∨ s ≤ 0 then s + 1 else bndL ts s d 1
def bndL : List Tm → Int → Nat → Int → Int
  | [], _, _, n => n
  | t :: ts, s, d, n => if n > s then n else bndL ts s d (n + bnd t (s - n) (d - 1))
end
theorem bnd_facts (t : Tm) : ∀ (s : Int) (d : Nat), 0 ≤ s → 1 ≤ bnd t s d ∧ bnd t s d ≤ s + 1 ∧ (bnd t s d ≤ s → (t.size : Int) = bnd t s d ∧ t.deep < d) := by
  induction t using Tm.ind with
  | h k nm ts ih =>
    intro s d hs
    rw [bnd]
    split
    · exact ⟨by omega, by omega, fun h => absurd h (by omega)⟩
    · rename_i hc
      have key : ∀ (us : List Tm), (∀ x ∈ us, x ∈ ts) → ∀ n : Int, 1 ≤ n → n ≤ s + 1 → 1 ≤ bndL us s d n ∧ bndL us s d n ≤ s + 1 ∧ (bndL us s d n ≤ s → n + (tsize us : Int) = bndL us s d n ∧ tdeep us < d) := by
        intro us
        induction us with
        | nil =>
          intro _ n h1 h2
          rw [bndL]
          exact ⟨h1, h2, fun h => ⟨by simp [tsize], by simp [tdeep]; omega⟩⟩
        | cons u us ihu =>
          intro hm n h1 h2
          rw [bndL]
          split
          · exact ⟨h1, h2, fun h => absurd h (by omega)⟩
          · obtain ⟨a1, a2, a3⟩ := ih u (hm u (by simp)) (s - n) (d - 1) (by omega)
            obtain ⟨b1, b2, b3⟩ := ihu (fun x hx => hm x (by simp [hx])) (n + bnd u (s - n) (d - 1)) (by omega) (by omega)
            refine ⟨b1, b2, fun h => ?_⟩
            obtain ⟨c1, c2⟩ := b3 h
            obtain ⟨e1, e2⟩ := a3 (by omega)
            rw [tsize, tdeep]
            refine ⟨by omega, ?_⟩
            have := Nat.max_lt.2 ⟨(show u.deep + 1 < d by omega), c2⟩
            exact this
      obtain ⟨h1, h2, h3⟩ := key ts (fun x hx => hx) 1 (by omega) (by omega)
      refine ⟨h1, h2, fun h => ?_⟩
      obtain ⟨h4, h5⟩ := h3 h
      rw [Tm.size, Tm.deep]
      exact ⟨by omega, h5⟩
theorem bndL_drop {ts : List Tm} {i : Nat} {x : Tm} {s n : Int} {d : Nat} (h : ts[i]? = some x) : bndL (ts.drop i) s d n = if n > s then n else bndL (ts.drop (i + 1)) s d (n + bnd x (s - n) (d - 1)) := by
  obtain ⟨h1, h2⟩ := List.getElem?_eq_some_iff.1 h
  rw [List.drop_eq_getElem_cons h1, h2, bndL]
def BndAt (w0 : World) (x : Tm) : Prop := ∀ (Ps : List Blk) (cx : List Value) (s : Int) (d : Nat), TmR w0 Ps x cx → 0 ≤ s → s ≤ 2000 → d ≤ 100 → FnV P 10 [.agg cx.toArray, .int .i64 s, .int .i64 d] w0 Ps (fun v => v = .int .i64 (bnd x s d))
/-! ### A term that may be copied -/
def okP (x : Tm) : Prop := x.size ≤ 2000 ∨ shp x = true
theorem okP.args {k : Int} {nm : List UInt8} {ts : List Tm} (h : okP (.mk k nm ts)) : ts.length ≤ 2000 := by
  rcases h with h | h
  · have := tsize_len ts; rw [Tm.size] at h; omega
  · have := headOk_le4 (shp_mk.1 h).1; omega
theorem okP.sub {k : Int} {nm : List UInt8} {ts : List Tm} (h : okP (.mk k nm ts)) {x : Tm} (hx : x ∈ ts) : okP x := by
  rcases h with h | h
  · have := tsize_mem hx; rw [Tm.size] at h; exact .inl (by omega)
  · exact .inr ((shp_mk.1 h).2 x hx)
def PlnAt (w0 : World) (x : Tm) : Prop := ∀ (Ps : List Blk) (cx : List Value), TmR w0 Ps x cx → okP x → FnG P 11 [.agg cx.toArray] w0 Ps [] (fun v Y => ∃ cy, v = .agg cy.toArray ∧ TmR w0 (Y ++ Ps) x cy)

set_option maxRecDepth 100000 in
set_option maxHeartbeats 8000000 in
theorem bnd_step (w0 : World) (Ps : List Blk) {k : Int} {nm : List UInt8} {ts : List Tm} (ih : ∀ x ∈ ts, BndAt w0 x) (cx : List Value) (s : Int) (d : Nat) (hx_ : TmR w0 Ps (.mk k nm ts) cx) (hs : 0 ≤ s) (hs2 : s ≤ 2000) (hd : d ≤ 100) : FnV P 10 [.agg cx.toArray, .int .i64 s, .int .i64 d] w0 Ps (fun v => v = .int .i64 (bnd (.mk k nm ts) s d)) := by
  obtain ⟨a, c, vs, rfl, hr, hl, ht⟩ := hx_.inv
  unfold maxN at hl
  refine FnV.of 40 [.tmp 6] Go.Proofs.Tryz.func10 rfl rfl rfl rfl (fun G hG => ?_)
  refine T.seq ?_
  refine T.region ?_
  refine TL.cons rfl (T1.boxN 3 rfl rfl (fun b3 => ?_))
  refine TL.cons rfl (V1.t (V1.assign' z_D) ?_)
  refine TL.nil ?_
  refine T.seq ?_
  refine T.seq ?_
  refine T.region ?_
  refine TL.cons rfl (V1.t (V1.move' z_D) ?_)
  refine TL.cons rfl (T1.eqI_split rfl rfl (fun h1 => ?_) (fun h1 => ?_))
  ·
    have hb : bnd (.mk k nm ts) s d = s + 1 := by rw [bnd, if_pos (by omega)]
    refine TL.cons rfl (V1.t (V1.move' z_D) ?_)
    refine TL.no rfl ?_
    refine TL.no rfl ?_
    refine TL.cons rfl (V1.t (V1.pick rfl z_D) ?_)
    refine TL.nil ?_
    refine T.cond_t rfl ?_
    refine T.seq ?_
    refine T.region ?_
    refine TL.cons rfl (V1.t (V1.move' z_D) ?_)
    refine TL.cons rfl (V1.t (V1.add (c := s + 1) rfl rfl (wrap_i64 _ (by omega) (by omega))) ?_)
    refine TL.cons rfl (V1.t (V1.assign' z_D) ?_)
    refine TL.nil ?_
    refine T.ret ?_
    exact ⟨_, G, _, .cons (.tmp z_D) .nil, z_A, rfl, congrArg (Value.int .i64) hb.symm⟩
  ·
    refine TL.cons rfl (V1.t (V1.move' z_D) ?_)
    refine TL.cons rfl (V1.t (V1.move' z_D) ?_)
    refine TL.cons rfl (T1.leI_split rfl rfl (fun h14 => ?_) (fun h14 => ?_))
    ·
      have hb : bnd (.mk k nm ts) s d = s + 1 := by rw [bnd, if_pos (by omega)]
      refine TL.cons rfl (V1.t (V1.pick rfl z_D) ?_)
      refine TL.nil ?_
      refine T.cond_t rfl ?_
      refine T.seq ?_
      refine T.region ?_
      refine TL.cons rfl (V1.t (V1.move' z_D) ?_)
      refine TL.cons rfl (V1.t (V1.add (c := s + 1) rfl rfl (wrap_i64 _ (by omega) (by omega))) ?_)
      refine TL.cons rfl (V1.t (V1.assign' z_D) ?_)
      refine TL.nil ?_
      refine T.ret ?_
      exact ⟨_, G, _, .cons (.tmp z_D) .nil, z_A, rfl, congrArg (Value.int .i64) hb.symm⟩
    ·
      have hb : bnd (.mk k nm ts) s d = bndL ts s d 1 := by rw [bnd, if_neg (by omega)]
      refine TL.cons rfl (V1.t (V1.pick rfl z_D) ?_)
      refine TL.nil ?_
      refine T.cond_f rfl ?_
      refine T.skip ?_
      refine T.seq ?_
      refine T.region ?_
      refine TL.cons rfl (V1.t (V1.assign' z_D) ?_)
      refine TL.nil ?_
      refine T.seq ?_
      refine T.seq ?_
      refine T.region ?_
      refine TL.cons rfl (V1.t (V1.fieldAddr fl_24_2 rfl) ?_)
      refine TL.cons rfl (V1.t (V1.load1 (v := .slice a ts.length c) one_22 rfl (.own (cells := [.int .i64 k, .string (bstr nm), .slice a ts.length c]) z_C (by rfl))) ?_)
      refine TL.cons rfl (V1.t (V1.lenSl ty_22 rfl) ?_)
      refine TL.cons rfl (V1.t (V1.move' z_D) ?_)
      refine TL.nil ?_
      refine T.block ?_
      refine T.loopL (σ := Nat × Int) (l0 := [(1, _), (2, _), (19, _), (20, _)]) (fun x => [(21, .int .i64 (x.1 : Nat)), (7, .int .i64 x.2)]) (fun x L => L = (⟨b3, 0, [.int .i64 k, .string (bstr nm), .slice a ts.length c], 3⟩ : Blk) :: G ∧ x.1 ≤ ts.length ∧ 1 ≤ x.2 ∧ x.2 ≤ s + 1 ∧ bndL ts s d 1 = bndL (ts.drop x.1) s d x.2) (fun x => ts.length - x.1) (0, 1) (.cons rfl (.cons rfl .nil)) (.cons z_D (.cons z_D (.cons z_D (.cons z_D .nil)))) z_A (⟨rfl, Nat.zero_le _, by decide, by simp only; omega, rfl⟩) ?_
      rintro ⟨i, n⟩ e_ L ⟨rfl, hi, hn1, hn2, ho⟩
      simp only at hi hn1 hn2 ho
      dsimp only
      refine T.seq ?_
      refine T.region ?_
      refine TL.cons rfl (T1.ltI_split rfl rfl (fun h5 => ?_) (fun h5 => ?_))
      ·
        obtain ⟨x, hx0⟩ : ∃ x, ts[i]? = some x := ⟨_, List.getElem?_eq_getElem (by omega)⟩
        have hcx := ih x (List.mem_of_getElem? hx0)
        obtain ⟨bx, ox, cs_, rfl, hx, hrdx⟩ := hr.term ht hx0 P
        obtain ⟨kx, nx, asx⟩ := x
        obtain ⟨ax, cx, vsx, rfl, hrx, hlx, htx⟩ := hx.inv
        try simp only at *
        refine TL.nil ?_
        refine T.seq ?_
        refine T.cond_t rfl ?_
        refine T.skip ?_
        refine T.seq ?_
        refine T.block ?_
        refine T.seq ?_
        refine T.region ?_
        refine TL.cons rfl (V1.t (V1.indexAddrS ty_22 sz_24 rfl rfl (by omega) (by omega)) ?_)
        refine TL.cons rfl (V1.t (V1.loadN (vs := [.int .i64 kx, .string (bstr nx), .slice ax asx.length cx]) one_24 sz_24 rfl (hrdx _ rfl rfl _ z_E) rfl) ?_)
        refine TL.cons rfl (T1.allocN 3 zr_24 rfl (fun b9 => ?_))
        refine TL.cons rfl (T1.storeN (vs := [.int .i64 kx, .string (bstr nx), .slice ax asx.length cx]) rfl rfl sz_24 (ones rfl) z_G (by rfl) (by rfl) ?_)
        refine TL.nil ?_
        refine T.seq ?_
        refine T.seq ?_
        refine T.region ?_
        refine TL.cons rfl (V1.t (V1.move' z_D) ?_)
        refine TL.cons rfl (V1.t (V1.move' z_D) ?_)
        refine TL.cons rfl (T1.gtI_split rfl rfl (fun h7 => ?_) (fun h7 => ?_))
        ·
          refine TL.nil ?_
          refine T.cond_t rfl ?_
          refine T.seq ?_
          refine T.region ?_
          refine TL.cons rfl (V1.t (V1.move' z_D) ?_)
          refine TL.cons rfl (V1.t (V1.assign' z_D) ?_)
          refine TL.nil ?_
          refine T.ret ?_
          exact ⟨_, G, _, .cons (.tmp z_D) .nil, z_A, rfl, congrArg (Value.int .i64) (by rw [hb, ho, bndL_drop hx0, if_pos h7])⟩
        ·
          replace h7 : ¬ n > s := by omega
          obtain ⟨hf1, hf2, _⟩ := bnd_facts (.mk kx nx asx) (s - n) (d - 1) (by omega)
          refine TL.nil ?_
          refine T.cond_f rfl ?_
          refine T.skip ?_
          refine T.region ?_
          refine TL.cons rfl (V1.t (V1.move' z_D) ?_)
          refine TL.cons rfl (V1.t (V1.loadN (vs := [.int .i64 kx, .string (bstr nx), .slice ax asx.length cx]) one_24 sz_24 rfl (RdN.whole (cells := [.int .i64 kx, .string (bstr nx), .slice ax asx.length cx]) z_C) rfl) ?_)
          refine TL.cons rfl (V1.t (V1.move' z_D) ?_)
          refine TL.cons rfl (V1.t (V1.move' z_D) ?_)
          refine TL.cons rfl (V1.t (V1.sub (c := s - n) rfl rfl (wrap_i64 _ (by omega) (by omega))) ?_)
          refine TL.cons rfl (V1.t (V1.move' z_D) ?_)
          refine TL.cons rfl (V1.t (V1.sub (c := ((d - 1 : Nat) : Int)) rfl rfl (by rw [wrap_i64 _ (by omega) (by omega)]; omega)) ?_)
          refine TL.cons rfl (T1.callV has_10 rfl rfl (hcx Ps _ (s - n) (d - 1) hx (by omega) (by omega) (by omega)) z_E (fun v_ hv => ?_))
          obtain rfl := hv
          refine TL.cons rfl (V1.t (V1.add (c := n + bnd (.mk kx nx asx) (s - n) (d - 1)) rfl rfl (wrap_i64 _ (by omega) (by omega))) ?_)
          refine TL.cons rfl (V1.t (V1.assign' z_D) ?_)
          refine TL.nil ?_
          refine T.live (l := [(1, _), (2, _), (7, _), (19, _), (20, _), (21, _)]) (.cons z_D (.cons z_D (.cons z_D (.cons z_D (.cons z_D (.cons z_D .nil)))))) (fun e_ => ?_)
          refine T.region ?_
          refine TL.cons rfl (V1.t (V1.add (c := ((i + 1 : Nat) : Int)) rfl rfl (by rw [wrap_i64 _ (by omega) (by omega)]; omega)) ?_)
          refine TL.cons rfl (V1.t (V1.move' z_D) ?_)
          refine TL.nil ?_
          exact ⟨(i + 1, n + bnd (.mk kx nx asx) (s - n) (d - 1)), (⟨b3, 0, [.int .i64 k, .string (bstr nm), .slice (some ⟨bx, ox, none⟩) ts.length c], 3⟩ : Blk) :: G, _, (by simp only; omega), (.cons rfl (.cons rfl .nil)), (.cons rfl (.cons rfl (.cons rfl (.cons rfl .nil)))), z_A, ⟨rfl, by simp only; omega, by simp only; omega, by simp only; omega, by simp only; rw [ho, bndL_drop hx0, if_neg h7]⟩⟩
      ·
        obtain rfl : i = ts.length := by omega
        refine TL.nil ?_
        refine T.seq ?_
        refine T.cond_f rfl ?_
        refine T.exit ?_
        refine T.seq ?_
        refine T.region ?_
        refine TL.cons rfl (V1.t (V1.move' z_D) ?_)
        refine TL.cons rfl (V1.t (V1.assign' z_D) ?_)
        refine TL.nil ?_
        refine T.ret ?_
        exact ⟨_, G, _, .cons (.tmp z_D) .nil, z_A, rfl, congrArg (Value.int .i64) (by rw [hb, ho, List.drop_length, bndL])⟩

theorem bnd_any (w0 : World) (x : Tm) : BndAt w0 x := by
  induction x using Tm.ind with
  | h k n xs ih => exact fun Ps cx s d hx h1 h2 h3 => bnd_step w0 Ps ih cx s d hx h1 h2 h3
set_option maxRecDepth 100000 in
set_option maxHeartbeats 8000000 in
theorem pln_step (w0 : World) (Ps : List Blk) {k : Int} {nm : List UInt8} {ts : List Tm} (ih : ∀ x ∈ ts, PlnAt w0 x) (cx : List Value) (hx : TmR w0 Ps (.mk k nm ts) cx) (hsh : okP (.mk k nm ts)) : FnG P 11 [.agg cx.toArray] w0 Ps [] (fun v Y => ∃ cy, v = .agg cy.toArray ∧ TmR w0 (Y ++ Ps) (.mk k nm ts) cy) := by
  obtain ⟨a, c, vs, rfl, hr, hl, ht⟩ := hx.inv
  unfold maxN at hl
  have hl4 := hsh.args
  refine FnG.of 27 [.cell 2 29] Go.Proofs.Tryz.func11 rfl rfl rfl rfl (fun G hG => ?_)
  refine T.seq ?_
  refine T.region ?_
  refine TL.cons rfl (T1.boxN 3 rfl rfl (fun b1 => ?_))
  refine TL.cons rfl (T1.allocN 3 zr_29 rfl (fun b2 => ?_))
  refine TL.nil ?_
  refine T.seq ?_
  refine T.region ?_
  refine TL.cons rfl (V1.t (V1.fieldAddr fl_24_0 rfl) ?_)
  refine TL.cons rfl (V1.t (V1.load1 one_3 rfl (.own z_C (by rfl))) ?_)
  refine TL.cons rfl (V1.t (V1.fieldAddr fl_24_1 rfl) ?_)
  refine TL.cons rfl (V1.t (V1.load1 one_9 rfl (.own z_C (by rfl))) ?_)
  refine TL.cons rfl (V1.t (V1.buildF pl_29 zr_29 (.one rfl z_D rfl (.one rfl z_D rfl .nil)) (by repeat (first | exact FillL.nil | exact SetN.done | apply SetN.here | apply SetN.there | apply FillL.cons))) ?_)
  refine TL.cons rfl (T1.allocN 3 zr_29 rfl (fun b3 => ?_))
  refine TL.cons rfl (T1.storeN rfl rfl sz_29 (ones rfl) z_G (by rfl) (by rfl) ?_)
  refine TL.nil ?_
  refine T.seq ?_
  refine T.seq ?_
  refine T.region ?_
  refine TL.cons rfl (V1.t (V1.fieldAddr fl_24_2 rfl) ?_)
  refine TL.cons rfl (V1.t (V1.load1 one_22 rfl (.own z_C (by rfl))) ?_)
  refine TL.cons rfl (V1.t (V1.lenSl ty_22 rfl) ?_)
  refine TL.cons rfl (V1.t (V1.move' z_D) ?_)
  refine TL.nil ?_
  refine T.block ?_
  refine T.loopL (σ := Nat) (l0 := [(2, _), (3, _), (12, _), (13, _)]) (fun x => [(14, .int .i64 (x : Nat))]) (fun i L => ∃ s Ls Y xs, L = ⟨b3, 0, [.int .i64 k, .string (bstr nm), s], 3⟩ :: ⟨b2, 0, [.int .i64 0, .string ⟨#[]⟩, .slice none 0 0], 3⟩ :: (Ls ++ (Y ++ G)) ∧ i ≤ ts.length ∧ SlG (some 29) s xs 3 Ls ∧ TmsR w0 (Y ++ Ps) (ts.take i) xs) (fun i => ts.length - i) 0 (.cons rfl .nil) (.cons z_D (.cons z_D (.cons z_D (.cons z_D .nil)))) z_A (⟨_, [], [], [], rfl, Nat.zero_le _, SlG.nil, TmsR.nil⟩) ?_
  rintro i e_ L ⟨s, Ls, Y, xs, rfl, hi, hsl, hxs⟩
  refine T.seq ?_
  refine T.region ?_
  refine TL.cons rfl (T1.ltI_split rfl rfl (fun h3 => ?_) (fun h3 => ?_))
  ·
    obtain ⟨x, hx0⟩ : ∃ x, ts[i]? = some x := ⟨_, List.getElem?_eq_getElem (by omega)⟩
    have hcx := ih x (List.mem_of_getElem? hx0)
    have hsx := hsh.sub (List.mem_of_getElem? hx0)
    have hxl := hxs.len
    rw [List.length_take] at hxl
    obtain ⟨bx, ox, cs_, rfl, hx, hrdx⟩ := hr.term ht hx0 P
    obtain ⟨kx, nx, asx⟩ := x
    obtain ⟨ax, cx, vsx, rfl, hrx, hlx, htx⟩ := hx.inv
    try simp only at *
    refine TL.nil ?_
    refine T.seq ?_
    refine T.cond_t rfl ?_
    refine T.skip ?_
    refine T.seq ?_
    refine T.block ?_
    refine T.seq ?_
    refine T.region ?_
    refine TL.cons rfl (V1.t (V1.indexAddrS ty_22 sz_24 rfl rfl (by omega) (by omega)) ?_)
    refine TL.cons rfl (V1.t (V1.loadN (vs := [.int .i64 kx, .string (bstr nx), .slice ax asx.length cx]) one_24 sz_24 rfl (hrdx _ rfl rfl _ z_E) rfl) ?_)
    refine TL.cons rfl (T1.allocN 3 zr_24 rfl (fun b5 => ?_))
    refine TL.cons rfl (T1.storeN rfl rfl sz_24 (ones rfl) z_G (by rfl) (by rfl) ?_)
    refine TL.nil ?_
    refine T.drawX (fun L_ => Find L_ ⟨b3, 0, [.int .i64 k, .string (bstr nm), s], 3⟩ ∧ Find L_ ⟨b5, 0, [.int .i64 kx, .string (bstr nx), .slice ax asx.length cx], 3⟩) 7 mixed ⟨z_C, z_C⟩ ?_
    refine TX.take 0 rfl (by decide +kernel) (by decide +kernel) (by decide +kernel) (by decide +kernel) rfl (fun _ _ _ h => h) (fun L_ ⟨k1_, k2_⟩ => V1.fieldAddr fl_29_2 rfl) ?_
    refine TX.take 1 rfl (by decide +kernel) (by decide +kernel) (by decide +kernel) (by decide +kernel) rfl (fun _ _ _ h => h) (fun L_ ⟨k1_, k2_⟩ => V1.load1 one_27 rfl (.own z_C (by rfl))) ?_
    refine TX.take 2 rfl (by decide +kernel) (by decide +kernel) (by decide +kernel) (by decide +kernel) rfl (fun _ _ _ h => h) (fun L_ ⟨k1_, k2_⟩ => V1.loadN one_24 sz_24 rfl (RdN.whole z_C) (by rfl)) ?_
    refine TX.one 3 (by decide +kernel) rfl rfl (T1.callC has_11 rfl rfl (hcx Ps _ hx hsx) z_E (fun v_ Y_ hY => ?_))
    obtain ⟨cy, rfl, hcy⟩ := hY
    refine ⟨⟨z_C, z_C⟩, ?_⟩
    refine TX.one 4 (by decide +kernel) rfl rfl (T1.buildOne (cs := cy) ty_27 sz_29 zr_29 (by decide) rfl hcy.len (fun b22 => ?_))
    refine ⟨⟨z_C, z_C⟩, ?_⟩
    refine TX.one 5 (by decide +kernel) rfl rfl (T1.appendG ty_27 kd_27 sz_29 by_29 zr_29 rfl (by decide) (by decide) rfl rfl (.inr rfl) hsl (.sl (RdN.at0 z_C) (by rw [hcy.len])) hcy.ones 2001 (by rw [hxl, hcy.len]; omega) (by decide) z_B (fun s2 Ls2 hsl2 => ?_))
    refine ⟨⟨z_C, z_C⟩, ?_⟩
    refine TX.take 6 rfl (by decide +kernel) (by decide +kernel) (by decide +kernel) (by decide +kernel) rfl (fun _ _ _ h => h) (fun L_ ⟨k1_, k2_⟩ => V1.fieldAddr fl_29_2 rfl) ?_
    refine TX.oneK (by decide +kernel) rfl rfl (T1.store1 rfl rfl sz_27 hsl2.one z_G (Nat.zero_le _) z_H ?_)
    refine TX.done (by decide +kernel) ?_
    refine T.region ?_
    refine TL.cons rfl (V1.t (V1.add (c := ((i + 1 : Nat) : Int)) rfl rfl (by rw [wrap_i64 _ (by omega) (by omega)]; omega)) ?_)
    refine TL.cons rfl (V1.t (V1.move' z_D) ?_)
    refine TL.nil ?_
    exact ⟨i + 1, ⟨b3, 0, [.int .i64 k, .string (bstr nm), s2], 3⟩ :: ⟨b2, 0, [.int .i64 0, .string ⟨#[]⟩, .slice none 0 0], 3⟩ :: (Ls2 ++ (Y_ ++ (Y ++ G))), _, (by simp only; omega), (.cons rfl .nil), (.cons rfl (.cons rfl (.cons rfl (.cons rfl .nil)))), z_A, ⟨s2, Ls2, Y_ ++ Y, _, by rw [List.append_assoc], by omega, hsl2, by rw [List.take_add_one, hx0]; exact (hxs.more (by intro B_ hB_; simp only [List.mem_append, List.mem_cons, List.not_mem_nil, or_false] at hB_ ⊢; grind)).app (TmsR.one (hcy.more (by intro B_ hB_; simp only [List.mem_append, List.mem_cons, List.not_mem_nil, or_false] at hB_ ⊢; grind)))⟩⟩
  ·
    obtain rfl : i = ts.length := by omega
    rw [List.take_length] at hxs
    obtain ⟨as_, ac_, rfl, hrow⟩ := hsl.tm hxs
    refine TL.nil ?_
    refine T.seq ?_
    refine T.cond_f rfl ?_
    refine T.exit ?_
    refine T.seq ?_
    refine T.region ?_
    refine TL.cons rfl (V1.t (V1.loadN one_29 sz_29 rfl (RdN.whole z_C) (by rfl)) ?_)
    refine TL.cons rfl (T1.storeN rfl rfl sz_29 (ones rfl) z_G (by rfl) (by rfl) ?_)
    refine TL.nil ?_
    refine T.ret ?_
    exact ⟨_, Ls ++ (Y ++ G), _, .cons (.cellN z_D one_29 sz_29 (RdN.whole z_C) rfl) .nil, z_A, Ls ++ Y, by rw [List.append_assoc], _, rfl, TmR.mk (hrow.more (by intro B_ hB_; simp only [List.mem_append, List.mem_cons, List.not_mem_nil, or_false] at hB_ ⊢; grind)) (by unfold maxN; omega) (hxs.more (by intro B_ hB_; simp only [List.mem_append, List.mem_cons, List.not_mem_nil, or_false] at hB_ ⊢; grind))⟩

theorem pln_any (w0 : World) (x : Tm) : PlnAt w0 x := by
  induction x using Tm.ind with
  | h k n xs ih => exact fun Ps cx hx hs => pln_step w0 Ps ih cx hx hs
end Go.Proofs.YtlpkcbkflfbclaaGreatDoor.S
