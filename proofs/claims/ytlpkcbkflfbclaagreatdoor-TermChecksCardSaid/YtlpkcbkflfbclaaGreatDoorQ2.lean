/- The document's own check of a term. -/
import Derived.Test.YtlpkcbkflfbclaaGreatDoorQ1
namespace Go.Proofs.YtlpkcbkflfbclaaGreatDoor.S
open Go.RowKit

mutual
def szD : Tm → Int → Int
  | .mk _ _ ts, m => szDL ts m 1
def szDL : List Tm → Int → Int → Int
  | [], _, n => n
  | t :: ts, m, n => if n ≤ m then szDL ts m (n + szD t (m - n)) else n
end
theorem szD_facts (t : Tm) : ∀ m : Int, 0 ≤ m → 1 ≤ szD t m ∧ szD t m ≤ t.size ∧ ((t.size : Int) ≤ m → szD t m = t.size) ∧ (m < t.size → m < szD t m) := by
  induction t using Tm.ind with
  | h k nm ts ih =>
    intro m hm
    rw [szD, Tm.size]
    have key : ∀ (us : List Tm), (∀ x ∈ us, x ∈ ts) → ∀ n : Int, 1 ≤ n → 1 ≤ szDL us m n ∧ szDL us m n ≤ n + tsize us ∧ (n + tsize us ≤ m → szDL us m n = n + tsize us) ∧ (m < n + tsize us → m < szDL us m n) := by
      intro us
      induction us with
      | nil => intro _ n h1; rw [szDL, tsize]; exact ⟨h1, by omega, fun _ => by omega, fun h => by omega⟩
      | cons u us ihu =>
        intro hmm n h1
        rw [szDL, tsize]
        split
        · obtain ⟨a1, a2, a3, a4⟩ := ih u (hmm u (by simp)) (m - n) (by omega)
          obtain ⟨b1, b2, b3, b4⟩ := ihu (fun x hx => hmm x (by simp [hx])) (n + szD u (m - n)) (by omega)
          refine ⟨b1, by omega, fun h => ?_, fun h => ?_⟩
          · have := a3 (by omega); rw [b3 (by omega)]; omega
          · by_cases hc : (u.size : Int) ≤ m - n
            · have := a3 hc; exact b4 (by omega)
            · have := a4 (by omega)
              by_cases h3 : n + szD u (m - n) + tsize us ≤ m
              · omega
              · exact b4 (by omega)
        · have := u.size_pos
          exact ⟨h1, by omega, fun h => by omega, fun h => by omega⟩
    obtain ⟨h1, h2, h3, h4⟩ := key ts (fun x hx => hx) 1 (by omega)
    exact ⟨h1, by omega, fun h => by rw [h3 (by omega)]; omega, fun h => h4 (by omega)⟩
theorem szDL_drop {ts : List Tm} {i : Nat} {x : Tm} {m n : Int} (h : ts[i]? = some x) : szDL (ts.drop i) m n = if n ≤ m then szDL (ts.drop (i + 1)) m (n + szD x (m - n)) else n := by
  obtain ⟨h1, h2⟩ := List.getElem?_eq_some_iff.1 h
  rw [List.drop_eq_getElem_cons h1, h2, szDL]
def SzAt (w0 : World) (x : Tm) : Prop := ∀ (Ps : List Blk) (cx : List Value) (m : Int), TmR w0 Ps x cx → 0 ≤ m → m ≤ 2000 → x.size ≤ 2000 → FnV P 33 [.agg cx.toArray, .int .i64 m] w0 Ps (fun v => v = .int .i64 (szD x m))
def DpAt (w0 : World) (x : Tm) : Prop := ∀ (Ps : List Blk) (cx : List Value) (m : Int), TmR w0 Ps x cx → -1 ≤ m → m ≤ 2000 → FnV P 34 [.agg cx.toArray, .int .i64 m] w0 Ps (fun v => v = .bool (decide (m < (x.deep : Int))))
def ShAt (w0 : World) (x : Tm) : Prop := ∀ (Ps : List Blk) (cx : List Value), TmR w0 Ps x cx → FnV P 35 [.agg cx.toArray] w0 Ps (fun v => v = .bool (shp x))
theorem low_nat : ∀ n < 256, low (UInt8.ofNat n) = decide ((97 ≤ n ∧ n ≤ 122) ∨ (48 ≤ n ∧ n ≤ 57)) := by decide +kernel
theorem low_iff (c : UInt8) : low c = decide ((97 ≤ c.toNat ∧ c.toNat ≤ 122) ∨ (48 ≤ c.toNat ∧ c.toNat ≤ 57)) := by
  have := low_nat c.toNat c.toNat_lt
  rwa [UInt8.ofNat_toNat] at this
theorem low_t {c : UInt8} (h : (97 ≤ c.toNat ∧ c.toNat ≤ 122) ∨ (48 ≤ c.toNat ∧ c.toNat ≤ 57)) : low c = true := by rw [low_iff]; exact decide_eq_true h
theorem low_f {c : UInt8} (h : ¬ ((97 ≤ c.toNat ∧ c.toNat ≤ 122) ∨ (48 ≤ c.toNat ∧ c.toNat ≤ 57))) : low c = false := by rw [low_iff]; exact decide_eq_false h
theorem named_f {s : List UInt8} {i : Nat} {x : UInt8} (hx : s[i]? = some x) (h : low x = false) : named s = false := by
  cases hn : named s with
  | false => rfl
  | true => have := named_all hn x (List.mem_of_getElem? hx); rw [h] at this; cases this
theorem named_t {s : List UInt8} (h1 : s ≠ []) (h2 : s.length ≤ 20) (h3 : ∀ x ∈ s, low x = true) : named s = true := by
  unfold named
  simp only [Bool.and_eq_true, decide_eq_true_iff, List.all_eq_true]
  refine ⟨⟨?_, h2⟩, h3⟩
  cases s with
  | nil => exact absurd rfl h1
  | cons a l => rfl
theorem named_long {s : List UInt8} (h : 20 < s.length) : named s = false := by
  cases hn : named s with
  | false => rfl
  | true => have := (named_len hn).2; omega
theorem named_nil : named [] = false := rfl
theorem headOk_1 (nm : List UInt8) (n : Nat) : headOk 1 nm n = (decide (n = 0) && named nm) := by
  unfold headOk least most; simp; by_cases h : n = 0 <;> simp [h]
theorem headOk_4 (nm : List UInt8) (n : Nat) : headOk 4 nm n = (decide (1 ≤ n) && decide (n ≤ 4) && named nm) := by
  unfold headOk least most; simp
  by_cases h : 1 ≤ n <;> by_cases h2 : n ≤ 4 <;> simp [h, h2] <;> omega
theorem headOk_o {k : Int} {nm : List UInt8} {n m : Nat} (h1 : k ≠ 1) (h4 : k ≠ 4) (hl : least k = m) (hm : most k = m) : headOk k nm n = (decide (n = m) && decide (nm = [])) := by
  unfold headOk
  rw [hl, hm]
  rw [decide_eq_false h1, decide_eq_false h4, decide_eq_true h1, decide_eq_true h4]
  cases nm with
  | nil =>
    rw [named_nil]
    rcases Nat.lt_trichotomy n m with h | h | h
    · simp [h]; omega
    · subst h; simp
    · simp [h]; omega
  | cons a l => simp
theorem headOk_5 (nm : List UInt8) (n : Nat) : headOk 5 nm n = (decide (n = 1) && decide (nm = [])) := headOk_o (by decide) (by decide) rfl rfl
theorem headOk_22 {k : Int} (hk : k = 2 ∨ k = 3 ∨ k = 6 ∨ k = 7 ∨ k = 8) (nm : List UInt8) (n : Nat) : headOk k nm n = (decide (n = 2) && decide (nm = [])) := by
  rcases hk with rfl | rfl | rfl | rfl | rfl <;> exact headOk_o (by decide) (by decide) rfl rfl
theorem headOk_none {k : Int} (hk : ¬ (k = 1 ∨ k = 2 ∨ k = 3 ∨ k = 4 ∨ k = 5 ∨ k = 6 ∨ k = 7 ∨ k = 8)) (nm : List UInt8) (n : Nat) : headOk k nm n = false := by
  cases h : headOk k nm n with
  | false => rfl
  | true => exact absurd (headOk_kinds h) hk

theorem tsz0 (ts : List Tm) (i : Nat) : tsize (ts.take i) ≤ tsize ts := by
  have h2 : tsize (ts.take i) + tsize (ts.drop i) = tsize ts := by rw [← tsize_app, List.take_append_drop]
  omega
set_option maxRecDepth 100000 in
set_option maxHeartbeats 8000000 in
theorem Sz_step (w0 : World) (Ps : List Blk) {k : Int} {nm : List UInt8} {ts : List Tm} (ih : ∀ x ∈ ts, SzAt w0 x) (cx : List Value) (m : Int) (hx_ : TmR w0 Ps (.mk k nm ts) cx) (hm : 0 ≤ m) (hm2 : m ≤ 2000) (hsz : (Tm.mk k nm ts).size ≤ 2000) : FnV P 33 [.agg cx.toArray, .int .i64 m] w0 Ps (fun v => v = .int .i64 (szD (.mk k nm ts) m)) := by
  obtain ⟨a, c, vs, rfl, hr, hl, ht⟩ := hx_.inv
  unfold maxN at hl
  rw [Tm.size] at hsz
  refine FnV.of 31 [.tmp 4] Go.Proofs.Tryz.func33 rfl rfl rfl rfl (fun G hG => ?_)
  refine T.seq ?_
  refine T.region ?_
  refine TL.cons rfl (T1.boxN 3 rfl rfl (fun b2 => ?_))
  refine TL.cons rfl (V1.t (V1.assign' z_D) ?_)
  refine TL.nil ?_
  refine T.seq ?_
  refine T.region ?_
  refine TL.cons rfl (V1.t (V1.assign' z_D) ?_)
  refine TL.nil ?_
  refine T.seq ?_
  refine T.seq ?_
  refine T.region ?_
  refine TL.cons rfl (V1.t (V1.assign' z_D) ?_)
  refine TL.nil ?_
  refine T.block ?_
  refine T.loopL (σ := Nat × Int) (l0 := [(1, _), (2, _)]) (fun x => [(6, .int .i64 (x.1 : Nat)), (5, .int .i64 x.2)]) (fun x L => L = (⟨b2, 0, [.int .i64 k, .string (bstr nm), .slice a ts.length c], 3⟩ : Blk) :: G ∧ x.1 ≤ ts.length ∧ 1 ≤ x.2 ∧ x.2 ≤ 1 + (tsize (ts.take x.1) : Int) ∧ szDL ts m 1 = szDL (ts.drop x.1) m x.2) (fun x => ts.length - x.1) (0, 1) (.cons rfl (.cons rfl .nil)) (.cons z_D (.cons z_D .nil)) z_A (⟨rfl, Nat.zero_le _, by decide, by simp [tsize], rfl⟩) ?_
  rintro ⟨i, n⟩ e_ L ⟨rfl, hi, hn1, hn2, ho⟩
  simp only at hi hn1 hn2 ho
  dsimp only
  have htk := tsz0 ts i
  refine T.seq ?_
  refine T.seq ?_
  refine T.region ?_
  refine TL.cons rfl (V1.t (V1.move' z_D) ?_)
  refine TL.cons rfl (V1.t (V1.fieldAddr fl_29_2 rfl) ?_)
  refine TL.cons rfl (V1.t (V1.load1 (v := .slice a ts.length c) one_27 rfl (.own (cells := [.int .i64 k, .string (bstr nm), .slice a ts.length c]) z_C (by rfl))) ?_)
  refine TL.cons rfl (V1.t (V1.lenSl ty_27 rfl) ?_)
  refine TL.cons rfl (T1.ltI_split rfl rfl (fun h3 => ?_) (fun h3 => ?_))
  ·
    refine TL.cons rfl (V1.t (V1.move' z_D) ?_)
    refine TL.cons rfl (V1.t (V1.move' z_D) ?_)
    refine TL.cons rfl (V1.t (V1.move' z_D) ?_)
    refine TL.cons rfl (T1.leI_split rfl rfl (fun h38 => ?_) (fun h38 => ?_))
    ·
      obtain ⟨x, hx0⟩ : ∃ x, ts[i]? = some x := ⟨_, List.getElem?_eq_getElem (by omega)⟩
      have hcx := ih x (List.mem_of_getElem? hx0)
      obtain ⟨bx, ox, cs_, rfl, hx, hrdx⟩ := hr.term ht hx0 P
      obtain ⟨kx, nx, asx⟩ := x
      obtain ⟨ax, cx, vsx, rfl, hrx, hlx, htx⟩ := hx.inv
      try simp only at *
      obtain ⟨hf1, hf2, _, _⟩ := szD_facts (.mk kx nx asx) (m - n) (by omega)
      have hsx := tsz_le hx0
      refine TL.cons rfl (V1.t (V1.pick rfl z_D) ?_)
      refine TL.nil ?_
      refine T.cond_t rfl ?_
      refine T.skip ?_
      refine T.seq ?_
      refine T.block ?_
      refine T.region ?_
      refine TL.cons rfl (V1.t (V1.move' z_D) ?_)
      refine TL.cons rfl (V1.t (V1.fieldAddr fl_29_2 rfl) ?_)
      refine TL.cons rfl (V1.t (V1.load1 (v := .slice (some ⟨bx, ox, none⟩) ts.length c) one_27 rfl (.own (cells := [.int .i64 k, .string (bstr nm), .slice (some ⟨bx, ox, none⟩) ts.length c]) z_C (by rfl))) ?_)
      refine TL.cons rfl (V1.t (V1.move' z_D) ?_)
      refine TL.cons rfl (V1.t (V1.indexAddrS ty_27 sz_29 rfl rfl (by omega) (by omega)) ?_)
      refine TL.cons rfl (V1.t (V1.loadN (vs := [.int .i64 kx, .string (bstr nx), .slice ax asx.length cx]) one_29 sz_29 rfl (hrdx _ rfl rfl _ z_E) rfl) ?_)
      refine TL.cons rfl (V1.t (V1.move' z_D) ?_)
      refine TL.cons rfl (V1.t (V1.move' z_D) ?_)
      refine TL.cons rfl (V1.t (V1.sub (c := m - n) rfl rfl (wrap_i64 _ (by omega) (by omega))) ?_)
      refine TL.cons rfl (T1.callV has_33 rfl rfl (hcx Ps _ (m - n) hx (by omega) (by omega) (by omega)) z_E (fun v_ hv => ?_))
      obtain rfl := hv
      refine TL.cons rfl (V1.t (V1.add (c := n + szD (.mk kx nx asx) (m - n)) rfl rfl (wrap_i64 _ (by omega) (by omega))) ?_)
      refine TL.cons rfl (V1.t (V1.assign' z_D) ?_)
      refine TL.nil ?_
      refine T.live (l := [(1, _), (2, _), (5, _), (6, _)]) (.cons z_D (.cons z_D (.cons z_D (.cons z_D .nil)))) (fun e_ => ?_)
      refine T.region ?_
      refine TL.cons rfl (V1.t (V1.move' z_D) ?_)
      refine TL.cons rfl (V1.t (V1.add (c := ((i + 1 : Nat) : Int)) rfl rfl (by rw [wrap_i64 _ (by omega) (by omega)]; omega)) ?_)
      refine TL.cons rfl (V1.t (V1.assign' z_D) ?_)
      refine TL.nil ?_
      exact ⟨(i + 1, n + szD (.mk kx nx asx) (m - n)), (⟨b2, 0, [.int .i64 k, .string (bstr nm), .slice (some ⟨bx, ox, none⟩) ts.length c], 3⟩ : Blk) :: G, _, (by simp only; omega), (.cons rfl (.cons rfl .nil)), (.cons rfl (.cons rfl .nil)), z_A, ⟨rfl, by simp only; omega, by simp only; omega, by simp only; have := tsz (sz := 0) hx0; omega, by simp only; rw [ho, szDL_drop hx0, if_pos h38]⟩⟩
    ·
      obtain ⟨x, hx0⟩ : ∃ x, ts[i]? = some x := ⟨_, List.getElem?_eq_getElem (by omega)⟩
      have hend : szDL ts m 1 = n := by rw [ho, szDL_drop hx0, if_neg (by omega)]
      refine TL.cons rfl (V1.t (V1.pick rfl z_D) ?_)
      refine TL.nil ?_
      refine T.cond_f rfl ?_
      refine T.exit ?_
      refine T.seq ?_
      refine T.region ?_
      refine TL.cons rfl (V1.t (V1.move' z_D) ?_)
      refine TL.cons rfl (V1.t (V1.assign' z_D) ?_)
      refine TL.nil ?_
      refine T.ret ?_
      exact ⟨_, G, _, .cons (.tmp z_D) .nil, z_A, rfl, congrArg (Value.int .i64) (by rw [szD, hend])⟩
  ·
    obtain rfl : i = ts.length := by omega
    have hend : szDL ts m 1 = n := by rw [ho, List.drop_length, szDL]
    refine TL.cons rfl (V1.t (V1.move' z_D) ?_)
    refine TL.no rfl ?_
    refine TL.no rfl ?_
    refine TL.no rfl ?_
    refine TL.cons rfl (V1.t (V1.pick rfl z_D) ?_)
    refine TL.nil ?_
    refine T.cond_f rfl ?_
    refine T.exit ?_
    refine T.seq ?_
    refine T.region ?_
    refine TL.cons rfl (V1.t (V1.move' z_D) ?_)
    refine TL.cons rfl (V1.t (V1.assign' z_D) ?_)
    refine TL.nil ?_
    refine T.ret ?_
    exact ⟨_, G, _, .cons (.tmp z_D) .nil, z_A, rfl, congrArg (Value.int .i64) (by rw [szD, hend])⟩

theorem Sz_any (w0 : World) (x : Tm) : SzAt w0 x := by
  induction x using Tm.ind with
  | h k n xs ih => exact fun Ps cx m hx h1 h2 h3 => Sz_step w0 Ps ih cx m hx h1 h2 h3
theorem none_tm {p : Tm → Prop} {ts : List Tm} {i : Nat} {x : Tm} (h : ts[i]? = some x) (ho : ∀ y ∈ ts.take i, p y) (hn : p x) : ∀ y ∈ ts.take (i + 1), p y := by
  rw [List.take_add_one, h]
  intro y hy
  rcases List.mem_append.1 hy with hy | hy
  · exact ho y hy
  · rw [List.mem_singleton.1 (show y ∈ [x] from hy)]; exact hn
set_option maxRecDepth 100000 in
set_option maxHeartbeats 8000000 in
theorem Dp_step (w0 : World) (Ps : List Blk) {k : Int} {nm : List UInt8} {ts : List Tm} (ih : ∀ x ∈ ts, DpAt w0 x) (cx : List Value) (m : Int) (hx_ : TmR w0 Ps (.mk k nm ts) cx) (hm : -1 ≤ m) (hm2 : m ≤ 2000) : FnV P 34 [.agg cx.toArray, .int .i64 m] w0 Ps (fun v => v = .bool (decide (m < ((Tm.mk k nm ts).deep : Int)))) := by
  obtain ⟨a, c, vs, rfl, hr, hl, ht⟩ := hx_.inv
  unfold maxN at hl
  refine FnV.of 23 [.tmp 4] Go.Proofs.Tryz.func34 rfl rfl rfl rfl (fun G hG => ?_)
  refine T.seq ?_
  refine T.region ?_
  refine TL.cons rfl (T1.boxN 3 rfl rfl (fun b2 => ?_))
  refine TL.cons rfl (V1.t (V1.assign' z_D) ?_)
  refine TL.nil ?_
  refine T.seq ?_
  refine T.seq ?_
  refine T.region ?_
  refine TL.cons rfl (V1.t (V1.move' z_D) ?_)
  refine TL.cons rfl (T1.ltI_split rfl rfl (fun h1 => ?_) (fun h1 => ?_))
  ·
    refine TL.nil ?_
    refine T.cond_t rfl ?_
    refine T.seq ?_
    refine T.region ?_
    refine TL.cons rfl (V1.t (V1.assign' z_D) ?_)
    refine TL.nil ?_
    refine T.ret ?_
    exact ⟨_, G, _, .cons (.tmp z_D) .nil, z_A, rfl, congrArg Value.bool (decide_eq_true (by have := Int.natCast_nonneg (Tm.mk k nm ts).deep; omega)).symm⟩
  ·
    refine TL.nil ?_
    refine T.cond_f rfl ?_
    refine T.skip ?_
    refine T.seq ?_
    refine T.seq ?_
    refine T.region ?_
    refine TL.cons rfl (V1.t (V1.assign' z_D) ?_)
    refine TL.nil ?_
    refine T.block ?_
    refine T.loopL (σ := Nat) (l0 := [(1, _), (2, _)]) (fun x => [(5, .int .i64 (x : Nat))]) (fun i L => L = (⟨b2, 0, [.int .i64 k, .string (bstr nm), .slice a ts.length c], 3⟩ : Blk) :: G ∧ i ≤ ts.length ∧ ∀ y ∈ ts.take i, ¬ (m - 1 < (y.deep : Int))) (fun i => ts.length - i) 0 (.cons rfl .nil) (.cons z_D (.cons z_D .nil)) z_A (⟨rfl, Nat.zero_le _, by simp⟩) ?_
    rintro i e_ L ⟨rfl, hi, ho⟩
    refine T.seq ?_
    refine T.seq ?_
    refine T.region ?_
    refine TL.cons rfl (V1.t (V1.move' z_D) ?_)
    refine TL.cons rfl (V1.t (V1.fieldAddr fl_29_2 rfl) ?_)
    refine TL.cons rfl (V1.t (V1.load1 (v := .slice a ts.length c) one_27 rfl (.own (cells := [.int .i64 k, .string (bstr nm), .slice a ts.length c]) z_C (by rfl))) ?_)
    refine TL.cons rfl (V1.t (V1.lenSl ty_27 rfl) ?_)
    refine TL.cons rfl (T1.ltI_split rfl rfl (fun h4 => ?_) (fun h4 => ?_))
    ·
      obtain ⟨x, hx0⟩ : ∃ x, ts[i]? = some x := ⟨_, List.getElem?_eq_getElem (by omega)⟩
      have hcx := ih x (List.mem_of_getElem? hx0)
      obtain ⟨bx, ox, cs_, rfl, hx, hrdx⟩ := hr.term ht hx0 P
      obtain ⟨kx, nx, asx⟩ := x
      obtain ⟨ax, cx, vsx, rfl, hrx, hlx, htx⟩ := hx.inv
      try simp only at *
      refine TL.nil ?_
      refine T.cond_t rfl ?_
      refine T.skip ?_
      refine T.seq ?_
      refine T.block ?_
      refine T.seq ?_
      refine T.region ?_
      refine TL.cons rfl (V1.t (V1.fieldAddr fl_29_2 rfl) ?_)
      refine TL.cons rfl (V1.t (V1.load1 (v := .slice (some ⟨bx, ox, none⟩) ts.length c) one_27 rfl (.own (cells := [.int .i64 k, .string (bstr nm), .slice (some ⟨bx, ox, none⟩) ts.length c]) z_C (by rfl))) ?_)
      refine TL.cons rfl (V1.t (V1.move' z_D) ?_)
      refine TL.cons rfl (V1.t (V1.indexAddrS ty_27 sz_29 rfl rfl (by omega) (by omega)) ?_)
      refine TL.cons rfl (V1.t (V1.loadN (vs := [.int .i64 kx, .string (bstr nx), .slice ax asx.length cx]) one_29 sz_29 rfl (hrdx _ rfl rfl _ z_E) rfl) ?_)
      refine TL.cons rfl (V1.t (V1.move' z_D) ?_)
      refine TL.cons rfl (V1.t (V1.sub (c := m - 1) rfl rfl (wrap_i64 _ (by omega) (by omega))) ?_)
      refine TL.cons rfl (T1.callV has_34 rfl rfl (hcx Ps _ (m - 1) hx (by omega) (by omega)) z_E (fun v_ hv => ?_))
      obtain rfl := hv
      rcases Bool.eq_false_or_eq_true (decide (m - 1 < ((Tm.mk kx nx asx).deep : Int))) with hdp | hdp <;> rw [hdp]
      ·
        refine TL.nil ?_
        refine T.cond_t rfl ?_
        refine T.seq ?_
        refine T.region ?_
        refine TL.cons rfl (V1.t (V1.assign' z_D) ?_)
        refine TL.nil ?_
        refine T.ret ?_
        exact ⟨_, G, _, .cons (.tmp z_D) .nil, z_A, rfl, congrArg Value.bool (decide_eq_true (by have h_ := tdeep_mem (List.mem_of_getElem? hx0); have h2_ := of_decide_eq_true hdp; rw [Tm.deep]; omega)).symm⟩
      ·
        refine TL.nil ?_
        refine T.cond_f rfl ?_
        refine T.skip ?_
        refine T.region ?_
        refine TL.cons rfl (V1.t (V1.move' z_D) ?_)
        refine TL.cons rfl (V1.t (V1.add (c := ((i + 1 : Nat) : Int)) rfl rfl (by rw [wrap_i64 _ (by omega) (by omega)]; omega)) ?_)
        refine TL.cons rfl (V1.t (V1.assign' z_D) ?_)
        refine TL.nil ?_
        exact ⟨i + 1, (⟨b2, 0, [.int .i64 k, .string (bstr nm), .slice (some ⟨bx, ox, none⟩) ts.length c], 3⟩ : Blk) :: G, _, (by simp only; omega), (.cons rfl .nil), (.cons rfl (.cons rfl .nil)), z_A, ⟨rfl, by omega, none_tm hx0 ho (of_decide_eq_false hdp)⟩⟩
    ·
      obtain rfl : i = ts.length := by omega
      rw [List.take_length] at ho
      refine TL.nil ?_
      refine T.cond_f rfl ?_
      refine T.exit ?_
      refine T.seq ?_
      refine T.region ?_
      refine TL.cons rfl (V1.t (V1.assign' z_D) ?_)
      refine TL.nil ?_
      refine T.ret ?_
      exact ⟨_, G, _, .cons (.tmp z_D) .nil, z_A, rfl, congrArg Value.bool (decide_eq_false (by have h_ := tdeep_le (ts := ts) (m := m.toNat) (fun t ht_ => by have := ho t ht_; omega); rw [Tm.deep]; omega)).symm⟩

theorem Dp_any (w0 : World) (x : Tm) : DpAt w0 x := by
  induction x using Tm.ind with
  | h k n xs ih => exact fun Ps cx m hx h1 h2 => Dp_step w0 Ps ih cx m hx h1 h2
set_option maxRecDepth 100000 in
theorem letter_any (w0 : World) (c : UInt8) : FnV P 99 [.int .u8 c.toNat] w0 [] (fun v => v = .bool (low c)) := by
  refine FnV.of 17 [.tmp 2] Go.Proofs.Tryz.func99 rfl rfl rfl rfl (fun G hG => ?_)
  refine T.seq ?_
  refine T.region ?_
  refine TL.cons rfl (V1.t (V1.assign' z_D) ?_)
  refine TL.nil ?_
  refine T.seq ?_
  refine T.region ?_
  refine TL.cons rfl (V1.t (V1.move' z_D) ?_)
  refine TL.cons rfl (T1.geI_split rfl rfl (fun h1 => ?_) (fun h1 => ?_))
  ·
    refine TL.cons rfl (V1.t (V1.move' z_D) ?_)
    refine TL.cons rfl (V1.t (V1.move' z_D) ?_)
    refine TL.cons rfl (T1.leI_split rfl rfl (fun h2 => ?_) (fun h2 => ?_))
    ·
      refine TL.cons rfl (V1.t (V1.pick rfl z_D) ?_)
      refine TL.cons rfl (V1.t (V1.move' z_D) ?_)
      refine TL.no rfl ?_
      refine TL.no rfl ?_
      refine TL.no rfl ?_
      refine TL.no rfl ?_
      refine TL.no rfl ?_
      refine TL.no rfl ?_
      refine TL.cons rfl (V1.t (V1.pick rfl z_D) ?_)
      refine TL.cons rfl (V1.t (V1.assign' z_D) ?_)
      refine TL.nil ?_
      refine T.ret ?_
      exact ⟨_, G, _, .cons (.tmp z_D) .nil, z_A, rfl, congrArg Value.bool (low_t (.inl ⟨by omega, by omega⟩)).symm⟩
    ·
      refine TL.cons rfl (V1.t (V1.pick rfl z_D) ?_)
      refine TL.cons rfl (V1.t (V1.move' z_D) ?_)
      refine TL.cons rfl (V1.t (V1.move' z_D) ?_)
      refine TL.cons rfl (T1.geI_split rfl rfl (fun h3 => ?_) (fun h3 => ?_))
      ·
        refine TL.cons rfl (V1.t (V1.move' z_D) ?_)
        refine TL.cons rfl (V1.t (V1.move' z_D) ?_)
        refine TL.cons rfl (T1.leI_split rfl rfl (fun h4 => ?_) (fun h4 => ?_))
        ·
          refine TL.cons rfl (V1.t (V1.pick rfl z_D) ?_)
          refine TL.cons rfl (V1.t (V1.pick rfl z_D) ?_)
          refine TL.cons rfl (V1.t (V1.assign' z_D) ?_)
          refine TL.nil ?_
          refine T.ret ?_
          exact ⟨_, G, _, .cons (.tmp z_D) .nil, z_A, rfl, congrArg Value.bool (low_t (.inr ⟨by omega, by omega⟩)).symm⟩
        ·
          refine TL.cons rfl (V1.t (V1.pick rfl z_D) ?_)
          refine TL.cons rfl (V1.t (V1.pick rfl z_D) ?_)
          refine TL.cons rfl (V1.t (V1.assign' z_D) ?_)
          refine TL.nil ?_
          refine T.ret ?_
          exact ⟨_, G, _, .cons (.tmp z_D) .nil, z_A, rfl, congrArg Value.bool (low_f (by omega)).symm⟩
      ·
        refine TL.cons rfl (V1.t (V1.move' z_D) ?_)
        refine TL.no rfl ?_
        refine TL.no rfl ?_
        refine TL.cons rfl (V1.t (V1.pick rfl z_D) ?_)
        refine TL.cons rfl (V1.t (V1.pick rfl z_D) ?_)
        refine TL.cons rfl (V1.t (V1.assign' z_D) ?_)
        refine TL.nil ?_
        refine T.ret ?_
        exact ⟨_, G, _, .cons (.tmp z_D) .nil, z_A, rfl, congrArg Value.bool (low_f (by omega)).symm⟩
  ·
    refine TL.cons rfl (V1.t (V1.move' z_D) ?_)
    refine TL.no rfl ?_
    refine TL.no rfl ?_
    refine TL.cons rfl (V1.t (V1.pick rfl z_D) ?_)
    refine TL.cons rfl (V1.t (V1.move' z_D) ?_)
    refine TL.cons rfl (V1.t (V1.move' z_D) ?_)
    refine TL.cons rfl (T1.geI_split rfl rfl (fun h3 => ?_) (fun h3 => ?_))
    ·
      refine TL.cons rfl (V1.t (V1.move' z_D) ?_)
      refine TL.cons rfl (V1.t (V1.move' z_D) ?_)
      refine TL.cons rfl (T1.leI_split rfl rfl (fun h4 => ?_) (fun h4 => ?_))
      ·
        refine TL.cons rfl (V1.t (V1.pick rfl z_D) ?_)
        refine TL.cons rfl (V1.t (V1.pick rfl z_D) ?_)
        refine TL.cons rfl (V1.t (V1.assign' z_D) ?_)
        refine TL.nil ?_
        refine T.ret ?_
        exact ⟨_, G, _, .cons (.tmp z_D) .nil, z_A, rfl, congrArg Value.bool (low_t (.inr ⟨by omega, by omega⟩)).symm⟩
      ·
        refine TL.cons rfl (V1.t (V1.pick rfl z_D) ?_)
        refine TL.cons rfl (V1.t (V1.pick rfl z_D) ?_)
        refine TL.cons rfl (V1.t (V1.assign' z_D) ?_)
        refine TL.nil ?_
        refine T.ret ?_
        exact ⟨_, G, _, .cons (.tmp z_D) .nil, z_A, rfl, congrArg Value.bool (low_f (by omega)).symm⟩
    ·
      refine TL.cons rfl (V1.t (V1.move' z_D) ?_)
      refine TL.no rfl ?_
      refine TL.no rfl ?_
      refine TL.cons rfl (V1.t (V1.pick rfl z_D) ?_)
      refine TL.cons rfl (V1.t (V1.pick rfl z_D) ?_)
      refine TL.cons rfl (V1.t (V1.assign' z_D) ?_)
      refine TL.nil ?_
      refine T.ret ?_
      exact ⟨_, G, _, .cons (.tmp z_D) .nil, z_A, rfl, congrArg Value.bool (low_f (by omega)).symm⟩

set_option maxRecDepth 100000 in
theorem RNamed_any (w0 : World) (s : List UInt8) : FnV P 69 [.string (bstr s)] w0 [] (fun v => v = .bool (named s)) := by
  refine FnV.of 22 [.tmp 2] Go.Proofs.Tryz.func69 rfl rfl rfl rfl (fun G hG => ?_)
  refine T.seq ?_
  refine T.region ?_
  refine TL.cons rfl (V1.t (V1.assign' z_D) ?_)
  refine TL.nil ?_
  refine T.seq ?_
  refine T.seq ?_
  refine T.region ?_
  refine TL.cons rfl (V1.t (V1.move' z_D) ?_)
  refine TL.cons rfl (T1.eqS_split (l := s) (m := []) rfl rfl (fun h1 => ?_) (fun h1 => ?_))
  ·
    refine TL.cons rfl (V1.t (V1.move' z_D) ?_)
    refine TL.no rfl ?_
    refine TL.no rfl ?_
    refine TL.no rfl ?_
    refine TL.cons rfl (V1.t (V1.pick rfl z_D) ?_)
    refine TL.nil ?_
    refine T.cond_t rfl ?_
    refine T.seq ?_
    refine T.region ?_
    refine TL.cons rfl (V1.t (V1.assign' z_D) ?_)
    refine TL.nil ?_
    refine T.ret ?_
    exact ⟨_, G, _, .cons (.tmp z_D) .nil, z_A, rfl, congrArg Value.bool (by rw [h1]; rfl)⟩
  ·
    refine TL.cons rfl (V1.t (V1.move' z_D) ?_)
    refine TL.cons rfl (V1.t (V1.move' z_D) ?_)
    refine TL.cons rfl (V1.t (V1.lenS ty_9 rfl) ?_)
    refine TL.cons rfl (T1.gtI_split (a := ((s.length : Nat) : Int)) rfl rfl (fun h15 => ?_) (fun h15 => ?_))
    ·
      refine TL.cons rfl (V1.t (V1.pick rfl z_D) ?_)
      refine TL.nil ?_
      refine T.cond_t rfl ?_
      refine T.seq ?_
      refine T.region ?_
      refine TL.cons rfl (V1.t (V1.assign' z_D) ?_)
      refine TL.nil ?_
      refine T.ret ?_
      exact ⟨_, G, _, .cons (.tmp z_D) .nil, z_A, rfl, congrArg Value.bool (named_long (by omega)).symm⟩
    ·
      refine TL.cons rfl (V1.t (V1.pick rfl z_D) ?_)
      refine TL.nil ?_
      refine T.cond_f rfl ?_
      refine T.skip ?_
      refine T.seq ?_
      refine T.seq ?_
      refine T.region ?_
      refine TL.cons rfl (V1.t (V1.assign' z_D) ?_)
      refine TL.nil ?_
      refine T.block ?_
      refine T.loopL (σ := Nat) (l0 := [(0, _)]) (fun x => [(3, .int .i64 (x : Nat))]) (fun i L => L = G ∧ i ≤ s.length ∧ ∀ y ∈ s.take i, low y = true) (fun i => s.length - i) 0 (.cons rfl .nil) (.cons z_D .nil) z_A (⟨rfl, Nat.zero_le _, by simp⟩) ?_
      rintro i e_ L ⟨hL, hi, ho⟩
      obtain rfl := hL.symm
      refine T.seq ?_
      refine T.seq ?_
      refine T.region ?_
      refine TL.cons rfl (V1.t (V1.move' z_D) ?_)
      refine TL.cons rfl (V1.t (V1.move' z_D) ?_)
      refine TL.cons rfl (V1.t (V1.lenS ty_9 rfl) ?_)
      refine TL.cons rfl (T1.ltI_split (b := ((s.length : Nat) : Int)) rfl rfl (fun h4 => ?_) (fun h4 => ?_))
      ·
        obtain ⟨x, hx0⟩ : ∃ x, s[i]? = some x := ⟨_, List.getElem?_eq_getElem (by omega)⟩
        refine TL.nil ?_
        refine T.cond_t rfl ?_
        refine T.skip ?_
        refine T.seq ?_
        refine T.block ?_
        refine T.seq ?_
        refine T.region ?_
        refine TL.cons rfl (V1.t (V1.move' z_D) ?_)
        refine TL.cons rfl (V1.t (V1.move' z_D) ?_)
        refine TL.cons rfl (V1.t (V1.indexStr (s := bstr s) (c := x) ty_9 rfl rfl (by omega) (by rw [Int.toNat_natCast]; exact bstr_get hx0)) ?_)
        refine TL.cons rfl (T1.callV has_99 rfl rfl (letter_any w0 x) z_E (fun v_ hv => ?_))
        obtain rfl := hv
        rcases Bool.eq_false_or_eq_true (low x) with hlx | hlx <;> rw [hlx]
        ·
          refine TL.cons rfl (V1.t (V1.not rfl rfl) ?_)
          refine TL.nil ?_
          refine T.cond_f rfl ?_
          refine T.skip ?_
          refine T.region ?_
          refine TL.cons rfl (V1.t (V1.move' z_D) ?_)
          refine TL.cons rfl (V1.t (V1.add (c := ((i + 1 : Nat) : Int)) rfl rfl (by rw [wrap_i64 _ (by omega) (by omega)]; omega)) ?_)
          refine TL.cons rfl (V1.t (V1.assign' z_D) ?_)
          refine TL.nil ?_
          exact ⟨i + 1, G, _, (by simp only; omega), (.cons rfl .nil), (.cons rfl .nil), z_A, ⟨rfl, by omega, by rw [List.take_add_one, hx0]; intro y hy; rcases List.mem_append.1 hy with hy | hy; exact ho y hy; rw [List.mem_singleton.1 (show y ∈ [x] from hy)]; exact hlx⟩⟩
        ·
          refine TL.cons rfl (V1.t (V1.not rfl rfl) ?_)
          refine TL.nil ?_
          refine T.cond_t rfl ?_
          refine T.seq ?_
          refine T.region ?_
          refine TL.cons rfl (V1.t (V1.assign' z_D) ?_)
          refine TL.nil ?_
          refine T.ret ?_
          exact ⟨_, G, _, .cons (.tmp z_D) .nil, z_A, rfl, congrArg Value.bool (named_f hx0 hlx).symm⟩
      ·
        obtain rfl : i = s.length := by omega
        rw [List.take_length] at ho
        refine TL.nil ?_
        refine T.cond_f rfl ?_
        refine T.exit ?_
        refine T.seq ?_
        refine T.region ?_
        refine TL.cons rfl (V1.t (V1.assign' z_D) ?_)
        refine TL.nil ?_
        refine T.ret ?_
        exact ⟨_, G, _, .cons (.tmp z_D) .nil, z_A, rfl, congrArg Value.bool (named_t h1 (by omega) ho).symm⟩

set_option maxRecDepth 100000 in
set_option maxHeartbeats 8000000 in
theorem Sh_step (w0 : World) (Ps : List Blk) {k : Int} {nm : List UInt8} {ts : List Tm} (ih : ∀ x ∈ ts, ShAt w0 x) (cx : List Value) (hx_ : TmR w0 Ps (.mk k nm ts) cx) : FnV P 35 [.agg cx.toArray] w0 Ps (fun v => v = .bool (shp (.mk k nm ts))) := by
  obtain ⟨a, c, vs, rfl, hr, hl, ht⟩ := hx_.inv
  unfold maxN at hl
  refine FnV.of 70 [.tmp 2] Go.Proofs.Tryz.func35 rfl rfl rfl rfl (fun G hG => ?_)
  refine T.seq ?_
  refine T.region ?_
  refine TL.cons rfl (T1.boxN 3 rfl rfl (fun b1 => ?_))
  refine TL.cons rfl (V1.t (V1.assign' z_D) ?_)
  refine TL.nil ?_
  refine T.seq ?_
  refine T.region ?_
  refine TL.cons rfl (V1.t (V1.fieldAddr fl_29_2 rfl) ?_)
  refine TL.cons rfl (V1.t (V1.load1 (v := .slice a ts.length c) one_27 rfl (.own (cells := [.int .i64 k, .string (bstr nm), .slice a ts.length c]) z_C (by rfl))) ?_)
  refine TL.cons rfl (V1.t (V1.lenSl ty_27 rfl) ?_)
  refine TL.cons rfl (V1.t (V1.assign' z_D) ?_)
  refine TL.nil ?_
  refine T.seq ?_
  refine T.region ?_
  refine TL.cons rfl (V1.t (V1.assign' z_D) ?_)
  refine TL.nil ?_
  refine T.cut (σ := Bool) (l0 := [(1, _), (3, _)]) (fun x => [(4, .bool x)]) (fun x L => L = (⟨b1, 0, [.int .i64 k, .string (bstr nm), .slice a ts.length c], 3⟩ : Blk) :: G ∧ x = headOk k nm ts.length) (.cons z_D (.cons z_D .nil)) ?_ ?_
  ·
    refine T.seq ?_
    refine T.region ?_
    refine TL.cons rfl (V1.t (V1.fieldAddr fl_29_0 rfl) ?_)
    refine TL.cons rfl (V1.t (V1.load1 (v := .int .i64 k) one_3 rfl (.own (cells := [.int .i64 k, .string (bstr nm), .slice a ts.length c]) z_C (by rfl))) ?_)
    refine TL.nil ?_
    refine T.block ?_
    refine T.seq ?_
    have hk9 : k = 1 ∨ k = 2 ∨ k = 3 ∨ k = 4 ∨ k = 5 ∨ k = 6 ∨ k = 7 ∨ k = 8 ∨ ¬ (k = 1 ∨ k = 2 ∨ k = 3 ∨ k = 4 ∨ k = 5 ∨ k = 6 ∨ k = 7 ∨ k = 8) := by omega
    rcases hk9 with hk | hk | hk | hk | hk | hk | hk | hk | hk
    ·
      refine T.region ?_
      refine TL.cons rfl (V1.t (V1.eqI (r := true) rfl rfl (decide_eq_true (by omega))) ?_)
      refine TL.cons rfl (V1.t (V1.assign' z_D) ?_)
      refine TL.nil ?_
      refine T.cond_t rfl ?_
      refine T.region ?_
      refine TL.cons rfl (V1.t (V1.move' z_D) ?_)
      refine TL.cons rfl (T1.eqI_split rfl rfl (fun h5 => ?_) (fun h5 => ?_))
      ·
        refine TL.cons rfl (V1.t (V1.move' z_D) ?_)
        refine TL.cons rfl (V1.t (V1.fieldAddr fl_29_1 rfl) ?_)
        refine TL.cons rfl (V1.t (V1.load1 (v := .string (bstr nm)) one_9 rfl (.own (cells := [.int .i64 k, .string (bstr nm), .slice a ts.length c]) z_C (by rfl))) ?_)
        refine TL.cons rfl (T1.callV has_69 rfl rfl (RNamed_any w0 nm) z_E (fun v_ hv => ?_))
        obtain rfl := hv
        refine TL.cons rfl (V1.t (V1.pick rfl z_D) ?_)
        refine TL.cons rfl (V1.t (V1.assign' z_D) ?_)
        refine TL.nil ?_
        exact ⟨named nm, _, _, trivial, (.cons rfl .nil), (.cons rfl (.cons rfl .nil)), z_A, ⟨rfl, by rw [hk, headOk_1, decide_eq_true (show ts.length = 0 by omega)]; rfl⟩⟩
      ·
        refine TL.cons rfl (V1.t (V1.move' z_D) ?_)
        refine TL.no rfl ?_
        refine TL.no rfl ?_
        refine TL.no rfl ?_
        refine TL.cons rfl (V1.t (V1.pick rfl z_D) ?_)
        refine TL.cons rfl (V1.t (V1.assign' z_D) ?_)
        refine TL.nil ?_
        exact ⟨false, _, _, trivial, (.cons rfl .nil), (.cons rfl (.cons rfl .nil)), z_A, ⟨rfl, by rw [hk, headOk_1, decide_eq_false (show ¬ ts.length = 0 by omega)]; rfl⟩⟩
    ·
      refine T.region ?_
      refine TL.cons rfl (V1.t (V1.eqI (r := false) rfl rfl (decide_eq_false (by omega))) ?_)
      refine TL.cons rfl (V1.t (V1.assign' z_D) ?_)
      refine TL.nil ?_
      refine T.cond_f rfl ?_
      refine T.seq ?_
      refine T.region ?_
      refine TL.cons rfl (V1.t (V1.eqI (r := false) rfl rfl (decide_eq_false (by omega))) ?_)
      refine TL.cons rfl (V1.t (V1.assign' z_D) ?_)
      refine TL.nil ?_
      refine T.cond_f rfl ?_
      refine T.seq ?_
      refine T.region ?_
      refine TL.cons rfl (V1.t (V1.eqI (r := false) rfl rfl (decide_eq_false (by omega))) ?_)
      refine TL.cons rfl (V1.t (V1.assign' z_D) ?_)
      refine TL.nil ?_
      refine T.cond_f rfl ?_
      refine T.seq ?_
      refine T.seq ?_
      refine T.live (l := [(1, _), (3, _), (4, _), (10, _)]) (.cons z_D (.cons z_D (.cons z_D (.cons z_D .nil)))) (fun e_ => ?_)
      refine T.region ?_
      refine TL.cons rfl (V1.t (V1.eqI (r := true) rfl rfl (decide_eq_true (by omega))) ?_)
      refine TL.cons rfl (V1.t (V1.assign' z_D) ?_)
      refine TL.nil ?_
      refine T.cond_t rfl ?_
      refine T.skip ?_
      refine T.cond_t rfl ?_
      refine T.region ?_
      refine TL.cons rfl (V1.t (V1.move' z_D) ?_)
      refine TL.cons rfl (T1.eqI_split rfl rfl (fun h15 => ?_) (fun h15 => ?_))
      ·
        refine TL.cons rfl (V1.t (V1.move' z_D) ?_)
        refine TL.cons rfl (V1.t (V1.fieldAddr fl_29_1 rfl) ?_)
        refine TL.cons rfl (V1.t (V1.load1 (v := .string (bstr nm)) one_9 rfl (.own (cells := [.int .i64 k, .string (bstr nm), .slice a ts.length c]) z_C (by rfl))) ?_)
        refine TL.cons rfl (T1.eqS_split (l := nm) (m := []) rfl rfl (fun hs5 => ?_) (fun hs5 => ?_))
        ·
          refine TL.cons rfl (V1.t (V1.pick rfl z_D) ?_)
          refine TL.cons rfl (V1.t (V1.assign' z_D) ?_)
          refine TL.nil ?_
          exact ⟨true, _, _, trivial, (.cons rfl .nil), (.cons rfl (.cons rfl .nil)), z_A, ⟨rfl, by rw [headOk_22 (by omega), decide_eq_true (show ts.length = 2 by omega), decide_eq_true hs5]; rfl⟩⟩
        ·
          refine TL.cons rfl (V1.t (V1.pick rfl z_D) ?_)
          refine TL.cons rfl (V1.t (V1.assign' z_D) ?_)
          refine TL.nil ?_
          exact ⟨false, _, _, trivial, (.cons rfl .nil), (.cons rfl (.cons rfl .nil)), z_A, ⟨rfl, by rw [headOk_22 (by omega), decide_eq_true (show ts.length = 2 by omega), decide_eq_false hs5]; rfl⟩⟩
      ·
        refine TL.cons rfl (V1.t (V1.move' z_D) ?_)
        refine TL.no rfl ?_
        refine TL.no rfl ?_
        refine TL.no rfl ?_
        refine TL.cons rfl (V1.t (V1.pick rfl z_D) ?_)
        refine TL.cons rfl (V1.t (V1.assign' z_D) ?_)
        refine TL.nil ?_
        exact ⟨false, _, _, trivial, (.cons rfl .nil), (.cons rfl (.cons rfl .nil)), z_A, ⟨rfl, by rw [headOk_22 (by omega), decide_eq_false (show ¬ ts.length = 2 by omega)]; rfl⟩⟩
    ·
      refine T.region ?_
      refine TL.cons rfl (V1.t (V1.eqI (r := false) rfl rfl (decide_eq_false (by omega))) ?_)
      refine TL.cons rfl (V1.t (V1.assign' z_D) ?_)
      refine TL.nil ?_
      refine T.cond_f rfl ?_
      refine T.seq ?_
      refine T.region ?_
      refine TL.cons rfl (V1.t (V1.eqI (r := false) rfl rfl (decide_eq_false (by omega))) ?_)
      refine TL.cons rfl (V1.t (V1.assign' z_D) ?_)
      refine TL.nil ?_
      refine T.cond_f rfl ?_
      refine T.seq ?_
      refine T.region ?_
      refine TL.cons rfl (V1.t (V1.eqI (r := false) rfl rfl (decide_eq_false (by omega))) ?_)
      refine TL.cons rfl (V1.t (V1.assign' z_D) ?_)
      refine TL.nil ?_
      refine T.cond_f rfl ?_
      refine T.seq ?_
      refine T.seq ?_
      refine T.live (l := [(1, _), (3, _), (4, _), (10, _)]) (.cons z_D (.cons z_D (.cons z_D (.cons z_D .nil)))) (fun e_ => ?_)
      refine T.region ?_
      refine TL.cons rfl (V1.t (V1.eqI (r := false) rfl rfl (decide_eq_false (by omega))) ?_)
      refine TL.cons rfl (V1.t (V1.assign' z_D) ?_)
      refine TL.nil ?_
      refine T.cond_f rfl ?_
      refine T.seq ?_
      refine T.region ?_
      refine TL.cons rfl (V1.t (V1.eqI (r := true) rfl rfl (decide_eq_true (by omega))) ?_)
      refine TL.cons rfl (V1.t (V1.assign' z_D) ?_)
      refine TL.nil ?_
      refine T.cond_t rfl ?_
      refine T.skip ?_
      refine T.cond_t rfl ?_
      refine T.region ?_
      refine TL.cons rfl (V1.t (V1.move' z_D) ?_)
      refine TL.cons rfl (T1.eqI_split rfl rfl (fun h15 => ?_) (fun h15 => ?_))
      ·
        refine TL.cons rfl (V1.t (V1.move' z_D) ?_)
        refine TL.cons rfl (V1.t (V1.fieldAddr fl_29_1 rfl) ?_)
        refine TL.cons rfl (V1.t (V1.load1 (v := .string (bstr nm)) one_9 rfl (.own (cells := [.int .i64 k, .string (bstr nm), .slice a ts.length c]) z_C (by rfl))) ?_)
        refine TL.cons rfl (T1.eqS_split (l := nm) (m := []) rfl rfl (fun hs5 => ?_) (fun hs5 => ?_))
        ·
          refine TL.cons rfl (V1.t (V1.pick rfl z_D) ?_)
          refine TL.cons rfl (V1.t (V1.assign' z_D) ?_)
          refine TL.nil ?_
          exact ⟨true, _, _, trivial, (.cons rfl .nil), (.cons rfl (.cons rfl .nil)), z_A, ⟨rfl, by rw [headOk_22 (by omega), decide_eq_true (show ts.length = 2 by omega), decide_eq_true hs5]; rfl⟩⟩
        ·
          refine TL.cons rfl (V1.t (V1.pick rfl z_D) ?_)
          refine TL.cons rfl (V1.t (V1.assign' z_D) ?_)
          refine TL.nil ?_
          exact ⟨false, _, _, trivial, (.cons rfl .nil), (.cons rfl (.cons rfl .nil)), z_A, ⟨rfl, by rw [headOk_22 (by omega), decide_eq_true (show ts.length = 2 by omega), decide_eq_false hs5]; rfl⟩⟩
      ·
        refine TL.cons rfl (V1.t (V1.move' z_D) ?_)
        refine TL.no rfl ?_
        refine TL.no rfl ?_
        refine TL.no rfl ?_
        refine TL.cons rfl (V1.t (V1.pick rfl z_D) ?_)
        refine TL.cons rfl (V1.t (V1.assign' z_D) ?_)
        refine TL.nil ?_
        exact ⟨false, _, _, trivial, (.cons rfl .nil), (.cons rfl (.cons rfl .nil)), z_A, ⟨rfl, by rw [headOk_22 (by omega), decide_eq_false (show ¬ ts.length = 2 by omega)]; rfl⟩⟩
    ·
      refine T.region ?_
      refine TL.cons rfl (V1.t (V1.eqI (r := false) rfl rfl (decide_eq_false (by omega))) ?_)
      refine TL.cons rfl (V1.t (V1.assign' z_D) ?_)
      refine TL.nil ?_
      refine T.cond_f rfl ?_
      refine T.seq ?_
      refine T.region ?_
      refine TL.cons rfl (V1.t (V1.eqI (r := true) rfl rfl (decide_eq_true (by omega))) ?_)
      refine TL.cons rfl (V1.t (V1.assign' z_D) ?_)
      refine TL.nil ?_
      refine T.cond_t rfl ?_
      refine T.region ?_
      refine TL.cons rfl (V1.t (V1.move' z_D) ?_)
      refine TL.cons rfl (T1.geI_split rfl rfl (fun h7 => ?_) (fun h7 => ?_))
      ·
        refine TL.cons rfl (V1.t (V1.move' z_D) ?_)
        refine TL.cons rfl (V1.t (V1.move' z_D) ?_)
        refine TL.cons rfl (T1.leI_split rfl rfl (fun h74 => ?_) (fun h74 => ?_))
        ·
          refine TL.cons rfl (V1.t (V1.pick rfl z_D) ?_)
          refine TL.cons rfl (V1.t (V1.move' z_D) ?_)
          refine TL.cons rfl (V1.t (V1.fieldAddr fl_29_1 rfl) ?_)
          refine TL.cons rfl (V1.t (V1.load1 (v := .string (bstr nm)) one_9 rfl (.own (cells := [.int .i64 k, .string (bstr nm), .slice a ts.length c]) z_C (by rfl))) ?_)
          refine TL.cons rfl (T1.callV has_69 rfl rfl (RNamed_any w0 nm) z_E (fun v_ hv => ?_))
          obtain rfl := hv
          refine TL.cons rfl (V1.t (V1.pick rfl z_D) ?_)
          refine TL.cons rfl (V1.t (V1.assign' z_D) ?_)
          refine TL.nil ?_
          exact ⟨named nm, _, _, trivial, (.cons rfl .nil), (.cons rfl (.cons rfl .nil)), z_A, ⟨rfl, by rw [hk, headOk_4, decide_eq_true (show 1 ≤ ts.length by omega), decide_eq_true (show ts.length ≤ 4 by omega)]; rfl⟩⟩
        ·
          refine TL.cons rfl (V1.t (V1.pick rfl z_D) ?_)
          refine TL.cons rfl (V1.t (V1.move' z_D) ?_)
          refine TL.no rfl ?_
          refine TL.no rfl ?_
          refine TL.no rfl ?_
          refine TL.cons rfl (V1.t (V1.pick rfl z_D) ?_)
          refine TL.cons rfl (V1.t (V1.assign' z_D) ?_)
          refine TL.nil ?_
          exact ⟨false, _, _, trivial, (.cons rfl .nil), (.cons rfl (.cons rfl .nil)), z_A, ⟨rfl, by rw [hk, headOk_4, decide_eq_false (show ¬ ts.length ≤ 4 by omega), Bool.and_false]; rfl⟩⟩
      ·
        refine TL.cons rfl (V1.t (V1.move' z_D) ?_)
        refine TL.no rfl ?_
        refine TL.no rfl ?_
        refine TL.cons rfl (V1.t (V1.pick rfl z_D) ?_)
        refine TL.cons rfl (V1.t (V1.move' z_D) ?_)
        refine TL.no rfl ?_
        refine TL.no rfl ?_
        refine TL.no rfl ?_
        refine TL.cons rfl (V1.t (V1.pick rfl z_D) ?_)
        refine TL.cons rfl (V1.t (V1.assign' z_D) ?_)
        refine TL.nil ?_
        exact ⟨false, _, _, trivial, (.cons rfl .nil), (.cons rfl (.cons rfl .nil)), z_A, ⟨rfl, by rw [hk, headOk_4, decide_eq_false (show ¬ 1 ≤ ts.length by omega)]; rfl⟩⟩
    ·
      refine T.region ?_
      refine TL.cons rfl (V1.t (V1.eqI (r := false) rfl rfl (decide_eq_false (by omega))) ?_)
      refine TL.cons rfl (V1.t (V1.assign' z_D) ?_)
      refine TL.nil ?_
      refine T.cond_f rfl ?_
      refine T.seq ?_
      refine T.region ?_
      refine TL.cons rfl (V1.t (V1.eqI (r := false) rfl rfl (decide_eq_false (by omega))) ?_)
      refine TL.cons rfl (V1.t (V1.assign' z_D) ?_)
      refine TL.nil ?_
      refine T.cond_f rfl ?_
      refine T.seq ?_
      refine T.region ?_
      refine TL.cons rfl (V1.t (V1.eqI (r := true) rfl rfl (decide_eq_true (by omega))) ?_)
      refine TL.cons rfl (V1.t (V1.assign' z_D) ?_)
      refine TL.nil ?_
      refine T.cond_t rfl ?_
      refine T.live (l := [(1, _), (3, _)]) (.cons z_D (.cons z_D .nil)) (fun e_ => ?_)
      refine T.region ?_
      refine TL.cons rfl (V1.t (V1.move' z_D) ?_)
      refine TL.cons rfl (T1.eqI_split rfl rfl (fun h9 => ?_) (fun h9 => ?_))
      ·
        refine TL.cons rfl (V1.t (V1.move' z_D) ?_)
        refine TL.cons rfl (V1.t (V1.fieldAddr fl_29_1 rfl) ?_)
        refine TL.cons rfl (V1.t (V1.load1 (v := .string (bstr nm)) one_9 rfl (.own (cells := [.int .i64 k, .string (bstr nm), .slice a ts.length c]) z_C (by rfl))) ?_)
        refine TL.cons rfl (T1.eqS_split (l := nm) (m := []) rfl rfl (fun hs5 => ?_) (fun hs5 => ?_))
        ·
          refine TL.cons rfl (V1.t (V1.pick rfl z_D) ?_)
          refine TL.cons rfl (V1.t (V1.assign' z_D) ?_)
          refine TL.nil ?_
          exact ⟨true, _, _, trivial, (.cons rfl .nil), (.cons rfl (.cons rfl .nil)), z_A, ⟨rfl, by rw [hk, headOk_5, decide_eq_true (show ts.length = 1 by omega), decide_eq_true hs5]; rfl⟩⟩
        ·
          refine TL.cons rfl (V1.t (V1.pick rfl z_D) ?_)
          refine TL.cons rfl (V1.t (V1.assign' z_D) ?_)
          refine TL.nil ?_
          exact ⟨false, _, _, trivial, (.cons rfl .nil), (.cons rfl (.cons rfl .nil)), z_A, ⟨rfl, by rw [hk, headOk_5, decide_eq_true (show ts.length = 1 by omega), decide_eq_false hs5]; rfl⟩⟩
      ·
        refine TL.cons rfl (V1.t (V1.move' z_D) ?_)
        refine TL.no rfl ?_
        refine TL.no rfl ?_
        refine TL.no rfl ?_
        refine TL.cons rfl (V1.t (V1.pick rfl z_D) ?_)
        refine TL.cons rfl (V1.t (V1.assign' z_D) ?_)
        refine TL.nil ?_
        exact ⟨false, _, _, trivial, (.cons rfl .nil), (.cons rfl (.cons rfl .nil)), z_A, ⟨rfl, by rw [hk, headOk_5, decide_eq_false (show ¬ ts.length = 1 by omega)]; rfl⟩⟩
    ·
      refine T.region ?_
      refine TL.cons rfl (V1.t (V1.eqI (r := false) rfl rfl (decide_eq_false (by omega))) ?_)
      refine TL.cons rfl (V1.t (V1.assign' z_D) ?_)
      refine TL.nil ?_
      refine T.cond_f rfl ?_
      refine T.seq ?_
      refine T.region ?_
      refine TL.cons rfl (V1.t (V1.eqI (r := false) rfl rfl (decide_eq_false (by omega))) ?_)
      refine TL.cons rfl (V1.t (V1.assign' z_D) ?_)
      refine TL.nil ?_
      refine T.cond_f rfl ?_
      refine T.seq ?_
      refine T.region ?_
      refine TL.cons rfl (V1.t (V1.eqI (r := false) rfl rfl (decide_eq_false (by omega))) ?_)
      refine TL.cons rfl (V1.t (V1.assign' z_D) ?_)
      refine TL.nil ?_
      refine T.cond_f rfl ?_
      refine T.seq ?_
      refine T.seq ?_
      refine T.live (l := [(1, _), (3, _), (4, _), (10, _)]) (.cons z_D (.cons z_D (.cons z_D (.cons z_D .nil)))) (fun e_ => ?_)
      refine T.region ?_
      refine TL.cons rfl (V1.t (V1.eqI (r := false) rfl rfl (decide_eq_false (by omega))) ?_)
      refine TL.cons rfl (V1.t (V1.assign' z_D) ?_)
      refine TL.nil ?_
      refine T.cond_f rfl ?_
      refine T.seq ?_
      refine T.region ?_
      refine TL.cons rfl (V1.t (V1.eqI (r := false) rfl rfl (decide_eq_false (by omega))) ?_)
      refine TL.cons rfl (V1.t (V1.assign' z_D) ?_)
      refine TL.nil ?_
      refine T.cond_f rfl ?_
      refine T.seq ?_
      refine T.region ?_
      refine TL.cons rfl (V1.t (V1.eqI (r := true) rfl rfl (decide_eq_true (by omega))) ?_)
      refine TL.cons rfl (V1.t (V1.assign' z_D) ?_)
      refine TL.nil ?_
      refine T.cond_t rfl ?_
      refine T.skip ?_
      refine T.cond_t rfl ?_
      refine T.region ?_
      refine TL.cons rfl (V1.t (V1.move' z_D) ?_)
      refine TL.cons rfl (T1.eqI_split rfl rfl (fun h15 => ?_) (fun h15 => ?_))
      ·
        refine TL.cons rfl (V1.t (V1.move' z_D) ?_)
        refine TL.cons rfl (V1.t (V1.fieldAddr fl_29_1 rfl) ?_)
        refine TL.cons rfl (V1.t (V1.load1 (v := .string (bstr nm)) one_9 rfl (.own (cells := [.int .i64 k, .string (bstr nm), .slice a ts.length c]) z_C (by rfl))) ?_)
        refine TL.cons rfl (T1.eqS_split (l := nm) (m := []) rfl rfl (fun hs5 => ?_) (fun hs5 => ?_))
        ·
          refine TL.cons rfl (V1.t (V1.pick rfl z_D) ?_)
          refine TL.cons rfl (V1.t (V1.assign' z_D) ?_)
          refine TL.nil ?_
          exact ⟨true, _, _, trivial, (.cons rfl .nil), (.cons rfl (.cons rfl .nil)), z_A, ⟨rfl, by rw [headOk_22 (by omega), decide_eq_true (show ts.length = 2 by omega), decide_eq_true hs5]; rfl⟩⟩
        ·
          refine TL.cons rfl (V1.t (V1.pick rfl z_D) ?_)
          refine TL.cons rfl (V1.t (V1.assign' z_D) ?_)
          refine TL.nil ?_
          exact ⟨false, _, _, trivial, (.cons rfl .nil), (.cons rfl (.cons rfl .nil)), z_A, ⟨rfl, by rw [headOk_22 (by omega), decide_eq_true (show ts.length = 2 by omega), decide_eq_false hs5]; rfl⟩⟩
      ·
        refine TL.cons rfl (V1.t (V1.move' z_D) ?_)
        refine TL.no rfl ?_
        refine TL.no rfl ?_
        refine TL.no rfl ?_
        refine TL.cons rfl (V1.t (V1.pick rfl z_D) ?_)
        refine TL.cons rfl (V1.t (V1.assign' z_D) ?_)
        refine TL.nil ?_
        exact ⟨false, _, _, trivial, (.cons rfl .nil), (.cons rfl (.cons rfl .nil)), z_A, ⟨rfl, by rw [headOk_22 (by omega), decide_eq_false (show ¬ ts.length = 2 by omega)]; rfl⟩⟩
    ·
      refine T.region ?_
      refine TL.cons rfl (V1.t (V1.eqI (r := false) rfl rfl (decide_eq_false (by omega))) ?_)
      refine TL.cons rfl (V1.t (V1.assign' z_D) ?_)
      refine TL.nil ?_
      refine T.cond_f rfl ?_
      refine T.seq ?_
      refine T.region ?_
      refine TL.cons rfl (V1.t (V1.eqI (r := false) rfl rfl (decide_eq_false (by omega))) ?_)
      refine TL.cons rfl (V1.t (V1.assign' z_D) ?_)
      refine TL.nil ?_
      refine T.cond_f rfl ?_
      refine T.seq ?_
      refine T.region ?_
      refine TL.cons rfl (V1.t (V1.eqI (r := false) rfl rfl (decide_eq_false (by omega))) ?_)
      refine TL.cons rfl (V1.t (V1.assign' z_D) ?_)
      refine TL.nil ?_
      refine T.cond_f rfl ?_
      refine T.seq ?_
      refine T.seq ?_
      refine T.live (l := [(1, _), (3, _), (4, _), (10, _)]) (.cons z_D (.cons z_D (.cons z_D (.cons z_D .nil)))) (fun e_ => ?_)
      refine T.region ?_
      refine TL.cons rfl (V1.t (V1.eqI (r := false) rfl rfl (decide_eq_false (by omega))) ?_)
      refine TL.cons rfl (V1.t (V1.assign' z_D) ?_)
      refine TL.nil ?_
      refine T.cond_f rfl ?_
      refine T.seq ?_
      refine T.region ?_
      refine TL.cons rfl (V1.t (V1.eqI (r := false) rfl rfl (decide_eq_false (by omega))) ?_)
      refine TL.cons rfl (V1.t (V1.assign' z_D) ?_)
      refine TL.nil ?_
      refine T.cond_f rfl ?_
      refine T.seq ?_
      refine T.region ?_
      refine TL.cons rfl (V1.t (V1.eqI (r := false) rfl rfl (decide_eq_false (by omega))) ?_)
      refine TL.cons rfl (V1.t (V1.assign' z_D) ?_)
      refine TL.nil ?_
      refine T.cond_f rfl ?_
      refine T.seq ?_
      refine T.region ?_
      refine TL.cons rfl (V1.t (V1.eqI (r := true) rfl rfl (decide_eq_true (by omega))) ?_)
      refine TL.cons rfl (V1.t (V1.assign' z_D) ?_)
      refine TL.nil ?_
      refine T.cond_t rfl ?_
      refine T.skip ?_
      refine T.cond_t rfl ?_
      refine T.region ?_
      refine TL.cons rfl (V1.t (V1.move' z_D) ?_)
      refine TL.cons rfl (T1.eqI_split rfl rfl (fun h15 => ?_) (fun h15 => ?_))
      ·
        refine TL.cons rfl (V1.t (V1.move' z_D) ?_)
        refine TL.cons rfl (V1.t (V1.fieldAddr fl_29_1 rfl) ?_)
        refine TL.cons rfl (V1.t (V1.load1 (v := .string (bstr nm)) one_9 rfl (.own (cells := [.int .i64 k, .string (bstr nm), .slice a ts.length c]) z_C (by rfl))) ?_)
        refine TL.cons rfl (T1.eqS_split (l := nm) (m := []) rfl rfl (fun hs5 => ?_) (fun hs5 => ?_))
        ·
          refine TL.cons rfl (V1.t (V1.pick rfl z_D) ?_)
          refine TL.cons rfl (V1.t (V1.assign' z_D) ?_)
          refine TL.nil ?_
          exact ⟨true, _, _, trivial, (.cons rfl .nil), (.cons rfl (.cons rfl .nil)), z_A, ⟨rfl, by rw [headOk_22 (by omega), decide_eq_true (show ts.length = 2 by omega), decide_eq_true hs5]; rfl⟩⟩
        ·
          refine TL.cons rfl (V1.t (V1.pick rfl z_D) ?_)
          refine TL.cons rfl (V1.t (V1.assign' z_D) ?_)
          refine TL.nil ?_
          exact ⟨false, _, _, trivial, (.cons rfl .nil), (.cons rfl (.cons rfl .nil)), z_A, ⟨rfl, by rw [headOk_22 (by omega), decide_eq_true (show ts.length = 2 by omega), decide_eq_false hs5]; rfl⟩⟩
      ·
        refine TL.cons rfl (V1.t (V1.move' z_D) ?_)
        refine TL.no rfl ?_
        refine TL.no rfl ?_
        refine TL.no rfl ?_
        refine TL.cons rfl (V1.t (V1.pick rfl z_D) ?_)
        refine TL.cons rfl (V1.t (V1.assign' z_D) ?_)
        refine TL.nil ?_
        exact ⟨false, _, _, trivial, (.cons rfl .nil), (.cons rfl (.cons rfl .nil)), z_A, ⟨rfl, by rw [headOk_22 (by omega), decide_eq_false (show ¬ ts.length = 2 by omega)]; rfl⟩⟩
    ·
      refine T.region ?_
      refine TL.cons rfl (V1.t (V1.eqI (r := false) rfl rfl (decide_eq_false (by omega))) ?_)
      refine TL.cons rfl (V1.t (V1.assign' z_D) ?_)
      refine TL.nil ?_
      refine T.cond_f rfl ?_
      refine T.seq ?_
      refine T.region ?_
      refine TL.cons rfl (V1.t (V1.eqI (r := false) rfl rfl (decide_eq_false (by omega))) ?_)
      refine TL.cons rfl (V1.t (V1.assign' z_D) ?_)
      refine TL.nil ?_
      refine T.cond_f rfl ?_
      refine T.seq ?_
      refine T.region ?_
      refine TL.cons rfl (V1.t (V1.eqI (r := false) rfl rfl (decide_eq_false (by omega))) ?_)
      refine TL.cons rfl (V1.t (V1.assign' z_D) ?_)
      refine TL.nil ?_
      refine T.cond_f rfl ?_
      refine T.seq ?_
      refine T.seq ?_
      refine T.live (l := [(1, _), (3, _), (4, _), (10, _)]) (.cons z_D (.cons z_D (.cons z_D (.cons z_D .nil)))) (fun e_ => ?_)
      refine T.region ?_
      refine TL.cons rfl (V1.t (V1.eqI (r := false) rfl rfl (decide_eq_false (by omega))) ?_)
      refine TL.cons rfl (V1.t (V1.assign' z_D) ?_)
      refine TL.nil ?_
      refine T.cond_f rfl ?_
      refine T.seq ?_
      refine T.region ?_
      refine TL.cons rfl (V1.t (V1.eqI (r := false) rfl rfl (decide_eq_false (by omega))) ?_)
      refine TL.cons rfl (V1.t (V1.assign' z_D) ?_)
      refine TL.nil ?_
      refine T.cond_f rfl ?_
      refine T.seq ?_
      refine T.region ?_
      refine TL.cons rfl (V1.t (V1.eqI (r := false) rfl rfl (decide_eq_false (by omega))) ?_)
      refine TL.cons rfl (V1.t (V1.assign' z_D) ?_)
      refine TL.nil ?_
      refine T.cond_f rfl ?_
      refine T.seq ?_
      refine T.region ?_
      refine TL.cons rfl (V1.t (V1.eqI (r := false) rfl rfl (decide_eq_false (by omega))) ?_)
      refine TL.cons rfl (V1.t (V1.assign' z_D) ?_)
      refine TL.nil ?_
      refine T.cond_f rfl ?_
      refine T.region ?_
      refine TL.cons rfl (V1.t (V1.eqI (r := true) rfl rfl (decide_eq_true (by omega))) ?_)
      refine TL.cons rfl (V1.t (V1.assign' z_D) ?_)
      refine TL.nil ?_
      refine T.cond_t rfl ?_
      refine T.region ?_
      refine TL.cons rfl (V1.t (V1.move' z_D) ?_)
      refine TL.cons rfl (T1.eqI_split rfl rfl (fun h15 => ?_) (fun h15 => ?_))
      ·
        refine TL.cons rfl (V1.t (V1.move' z_D) ?_)
        refine TL.cons rfl (V1.t (V1.fieldAddr fl_29_1 rfl) ?_)
        refine TL.cons rfl (V1.t (V1.load1 (v := .string (bstr nm)) one_9 rfl (.own (cells := [.int .i64 k, .string (bstr nm), .slice a ts.length c]) z_C (by rfl))) ?_)
        refine TL.cons rfl (T1.eqS_split (l := nm) (m := []) rfl rfl (fun hs5 => ?_) (fun hs5 => ?_))
        ·
          refine TL.cons rfl (V1.t (V1.pick rfl z_D) ?_)
          refine TL.cons rfl (V1.t (V1.assign' z_D) ?_)
          refine TL.nil ?_
          exact ⟨true, _, _, trivial, (.cons rfl .nil), (.cons rfl (.cons rfl .nil)), z_A, ⟨rfl, by rw [headOk_22 (by omega), decide_eq_true (show ts.length = 2 by omega), decide_eq_true hs5]; rfl⟩⟩
        ·
          refine TL.cons rfl (V1.t (V1.pick rfl z_D) ?_)
          refine TL.cons rfl (V1.t (V1.assign' z_D) ?_)
          refine TL.nil ?_
          exact ⟨false, _, _, trivial, (.cons rfl .nil), (.cons rfl (.cons rfl .nil)), z_A, ⟨rfl, by rw [headOk_22 (by omega), decide_eq_true (show ts.length = 2 by omega), decide_eq_false hs5]; rfl⟩⟩
      ·
        refine TL.cons rfl (V1.t (V1.move' z_D) ?_)
        refine TL.no rfl ?_
        refine TL.no rfl ?_
        refine TL.no rfl ?_
        refine TL.cons rfl (V1.t (V1.pick rfl z_D) ?_)
        refine TL.cons rfl (V1.t (V1.assign' z_D) ?_)
        refine TL.nil ?_
        exact ⟨false, _, _, trivial, (.cons rfl .nil), (.cons rfl (.cons rfl .nil)), z_A, ⟨rfl, by rw [headOk_22 (by omega), decide_eq_false (show ¬ ts.length = 2 by omega)]; rfl⟩⟩
    ·
      refine T.region ?_
      refine TL.cons rfl (V1.t (V1.eqI (r := false) rfl rfl (decide_eq_false (by omega))) ?_)
      refine TL.cons rfl (V1.t (V1.assign' z_D) ?_)
      refine TL.nil ?_
      refine T.cond_f rfl ?_
      refine T.seq ?_
      refine T.region ?_
      refine TL.cons rfl (V1.t (V1.eqI (r := false) rfl rfl (decide_eq_false (by omega))) ?_)
      refine TL.cons rfl (V1.t (V1.assign' z_D) ?_)
      refine TL.nil ?_
      refine T.cond_f rfl ?_
      refine T.seq ?_
      refine T.region ?_
      refine TL.cons rfl (V1.t (V1.eqI (r := false) rfl rfl (decide_eq_false (by omega))) ?_)
      refine TL.cons rfl (V1.t (V1.assign' z_D) ?_)
      refine TL.nil ?_
      refine T.cond_f rfl ?_
      refine T.seq ?_
      refine T.seq ?_
      refine T.live (l := [(1, _), (3, _), (4, _), (10, _)]) (.cons z_D (.cons z_D (.cons z_D (.cons z_D .nil)))) (fun e_ => ?_)
      refine T.region ?_
      refine TL.cons rfl (V1.t (V1.eqI (r := false) rfl rfl (decide_eq_false (by omega))) ?_)
      refine TL.cons rfl (V1.t (V1.assign' z_D) ?_)
      refine TL.nil ?_
      refine T.cond_f rfl ?_
      refine T.seq ?_
      refine T.region ?_
      refine TL.cons rfl (V1.t (V1.eqI (r := false) rfl rfl (decide_eq_false (by omega))) ?_)
      refine TL.cons rfl (V1.t (V1.assign' z_D) ?_)
      refine TL.nil ?_
      refine T.cond_f rfl ?_
      refine T.seq ?_
      refine T.region ?_
      refine TL.cons rfl (V1.t (V1.eqI (r := false) rfl rfl (decide_eq_false (by omega))) ?_)
      refine TL.cons rfl (V1.t (V1.assign' z_D) ?_)
      refine TL.nil ?_
      refine T.cond_f rfl ?_
      refine T.seq ?_
      refine T.region ?_
      refine TL.cons rfl (V1.t (V1.eqI (r := false) rfl rfl (decide_eq_false (by omega))) ?_)
      refine TL.cons rfl (V1.t (V1.assign' z_D) ?_)
      refine TL.nil ?_
      refine T.cond_f rfl ?_
      refine T.region ?_
      refine TL.cons rfl (V1.t (V1.eqI (r := false) rfl rfl (decide_eq_false (by omega))) ?_)
      refine TL.cons rfl (V1.t (V1.assign' z_D) ?_)
      refine TL.nil ?_
      refine T.cond_f rfl ?_
      refine T.skip ?_
      exact ⟨false, _, _, trivial, (.cons rfl .nil), (.cons rfl (.cons rfl .nil)), z_A, ⟨rfl, (headOk_none (by omega) _ _).symm⟩⟩
  ·
    rintro hd e_ L ⟨rfl, hhd⟩
    refine T.seq ?_
    refine T.seq ?_
    refine T.region ?_
    refine TL.cons rfl (V1.t (V1.assign' z_D) ?_)
    refine TL.nil ?_
    refine T.block ?_
    refine T.loopL (σ := Nat × Bool) (l0 := [(1, _), (3, _)]) (fun x => [(5, .int .i64 (x.1 : Nat)), (4, .bool x.2)]) (fun x L => L = (⟨b1, 0, [.int .i64 k, .string (bstr nm), .slice a ts.length c], 3⟩ : Blk) :: G ∧ x.1 ≤ ts.length ∧ (x.2 = true ↔ headOk k nm ts.length = true ∧ ∀ y ∈ ts.take x.1, shp y = true)) (fun x => ts.length - x.1) (0, hd) (.cons rfl (.cons rfl .nil)) (.cons z_D (.cons z_D .nil)) z_A (⟨rfl, Nat.zero_le _, by rw [hhd]; simp⟩) ?_
    rintro ⟨i, ok⟩ e_ L ⟨rfl, hi, ho⟩
    simp only at hi ho
    dsimp only
    refine T.seq ?_
    refine T.seq ?_
    refine T.region ?_
    refine TL.cons rfl (V1.t (V1.move' z_D) ?_)
    refine TL.cons rfl (V1.t (V1.move' z_D) ?_)
    refine TL.cons rfl (T1.ltI_split rfl rfl (fun h17 => ?_) (fun h17 => ?_))
    ·
      refine TL.cons rfl (V1.t (V1.move' z_D) ?_)
      refine TL.cons rfl (V1.t (V1.move' z_D) ?_)
      cases ok
      ·
        have hres : shp (.mk k nm ts) = false := by
          cases hq : shp (.mk k nm ts) with
          | false => rfl
          | true => exact absurd (ho.2 ⟨(shp_mk.1 hq).1, fun y hy => (shp_mk.1 hq).2 y (List.mem_of_mem_take hy)⟩) (by decide)
        refine TL.cons rfl (V1.t (V1.pick rfl z_D) ?_)
        refine TL.nil ?_
        refine T.cond_f rfl ?_
        refine T.exit ?_
        refine T.seq ?_
        refine T.region ?_
        refine TL.cons rfl (V1.t (V1.move' z_D) ?_)
        refine TL.cons rfl (V1.t (V1.assign' z_D) ?_)
        refine TL.nil ?_
        refine T.ret ?_
        exact ⟨_, G, _, .cons (.tmp z_D) .nil, z_A, rfl, congrArg Value.bool hres.symm⟩
      ·
        obtain ⟨x, hx0⟩ : ∃ x, ts[i]? = some x := ⟨_, List.getElem?_eq_getElem (by omega)⟩
        have hcx := ih x (List.mem_of_getElem? hx0)
        obtain ⟨bx, ox, cs_, rfl, hx, hrdx⟩ := hr.term ht hx0 P
        obtain ⟨kx, nx, asx⟩ := x
        obtain ⟨ax, cx, vsx, rfl, hrx, hlx, htx⟩ := hx.inv
        try simp only at *
        refine TL.cons rfl (V1.t (V1.pick rfl z_D) ?_)
        refine TL.nil ?_
        refine T.cond_t rfl ?_
        refine T.skip ?_
        refine T.seq ?_
        refine T.block ?_
        refine T.region ?_
        refine TL.cons rfl (V1.t (V1.fieldAddr fl_29_2 rfl) ?_)
        refine TL.cons rfl (V1.t (V1.load1 (v := .slice (some ⟨bx, ox, none⟩) ts.length c) one_27 rfl (.own (cells := [.int .i64 k, .string (bstr nm), .slice (some ⟨bx, ox, none⟩) ts.length c]) z_C (by rfl))) ?_)
        refine TL.cons rfl (V1.t (V1.move' z_D) ?_)
        refine TL.cons rfl (V1.t (V1.indexAddrS ty_27 sz_29 rfl rfl (by omega) (by omega)) ?_)
        refine TL.cons rfl (V1.t (V1.loadN (vs := [.int .i64 kx, .string (bstr nx), .slice ax asx.length cx]) one_29 sz_29 rfl (hrdx _ rfl rfl _ z_E) rfl) ?_)
        refine TL.cons rfl (T1.callV has_35 rfl rfl (hcx Ps _ hx) z_E (fun v_ hv => ?_))
        obtain rfl := hv
        refine TL.cons rfl (V1.t (V1.assign' z_D) ?_)
        refine TL.nil ?_
        refine T.region ?_
        refine TL.cons rfl (V1.t (V1.move' z_D) ?_)
        refine TL.cons rfl (V1.t (V1.add (c := ((i + 1 : Nat) : Int)) rfl rfl (by rw [wrap_i64 _ (by omega) (by omega)]; omega)) ?_)
        refine TL.cons rfl (V1.t (V1.assign' z_D) ?_)
        refine TL.nil ?_
        exact ⟨(i + 1, shp (.mk kx nx asx)), (⟨b1, 0, [.int .i64 k, .string (bstr nm), .slice (some ⟨bx, ox, none⟩) ts.length c], 3⟩ : Blk) :: G, _, (by simp only; omega), (.cons rfl (.cons rfl .nil)), (.cons rfl (.cons rfl .nil)), z_A, ⟨rfl, by simp only; omega, by simp only; constructor; exact fun h => ⟨(ho.1 (by simp)).1, none_tm hx0 (ho.1 (by simp)).2 h⟩; exact fun h => h.2 _ (by rw [List.take_add_one, hx0]; simp)⟩⟩
    ·
      obtain rfl : i = ts.length := by omega
      rw [List.take_length] at ho
      have hres : shp (.mk k nm ts) = ok := Bool.eq_iff_iff.2 (shp_mk.trans ho.symm)
      refine TL.cons rfl (V1.t (V1.move' z_D) ?_)
      refine TL.no rfl ?_
      refine TL.cons rfl (V1.t (V1.pick rfl z_D) ?_)
      refine TL.nil ?_
      refine T.cond_f rfl ?_
      refine T.exit ?_
      refine T.seq ?_
      refine T.region ?_
      refine TL.cons rfl (V1.t (V1.move' z_D) ?_)
      refine TL.cons rfl (V1.t (V1.assign' z_D) ?_)
      refine TL.nil ?_
      refine T.ret ?_
      exact ⟨_, G, _, .cons (.tmp z_D) .nil, z_A, rfl, congrArg Value.bool hres.symm⟩

theorem Sh_any (w0 : World) (x : Tm) : ShAt w0 x := by
  induction x using Tm.ind with
  | h k n xs ih => exact fun Ps cx hx => Sh_step w0 Ps ih cx hx
set_option maxRecDepth 100000 in
set_option maxHeartbeats 8000000 in
theorem RCheck_us (w0 : World) (Ps : List Blk) {k : Int} {nm : List UInt8} {ts : List Tm} (cx : List Value) (hx_ : TmR w0 Ps (.mk k nm ts) cx) (hsz : (Tm.mk k nm ts).size ≤ 2000) : FnV P 12 [.agg cx.toArray] w0 Ps (fun v => v = .int .i64 (chk (.mk k nm ts))) := by
  obtain ⟨a, c, vs, rfl, hr, hl, ht⟩ := hx_.inv
  refine FnV.of 13 [.tmp 2] Go.Proofs.Tryz.func12 rfl rfl rfl rfl (fun G hG => ?_)
  refine T.seq ?_
  refine T.region ?_
  refine TL.cons rfl (T1.boxN 3 rfl rfl (fun b1 => ?_))
  refine TL.cons rfl (V1.t (V1.assign' z_D) ?_)
  refine TL.nil ?_
  refine T.seq ?_
  refine T.seq ?_
  refine T.region ?_
  refine TL.cons rfl (V1.t (V1.loadN (vs := [.int .i64 k, .string (bstr nm), .slice a ts.length c]) one_29 sz_29 rfl (RdN.whole (cells := [.int .i64 k, .string (bstr nm), .slice a ts.length c]) z_C) rfl) ?_)
  refine TL.cons rfl (T1.callV has_33 rfl rfl (Sz_any w0 (.mk k nm ts) Ps _ 1000 hx_ (by decide) (by decide) hsz) z_E (fun v_ hv => ?_))
  obtain rfl := hv
  obtain ⟨_, _, hf3, hf4⟩ := szD_facts (.mk k nm ts) 1000 (by decide)
  refine TL.cons rfl (T1.gtI_split rfl rfl (fun h1 => ?_) (fun h1 => ?_))
  ·
    refine TL.cons rfl (V1.t (V1.move' z_D) ?_)
    refine TL.no rfl ?_
    refine TL.no rfl ?_
    refine TL.cons rfl (V1.t (V1.pick rfl z_D) ?_)
    refine TL.nil ?_
    refine T.cond_t rfl ?_
    refine T.seq ?_
    refine T.region ?_
    refine TL.cons rfl (V1.t (V1.assign' z_D) ?_)
    refine TL.nil ?_
    refine T.ret ?_
    exact ⟨_, G, _, .cons (.tmp z_D) .nil, z_A, rfl, congrArg (Value.int .i64) (by unfold chk; rw [if_pos (.inl (by omega))])⟩
  ·
    refine TL.cons rfl (V1.t (V1.move' z_D) ?_)
    refine TL.cons rfl (V1.t (V1.loadN (vs := [.int .i64 k, .string (bstr nm), .slice a ts.length c]) one_29 sz_29 rfl (RdN.whole (cells := [.int .i64 k, .string (bstr nm), .slice a ts.length c]) z_C) rfl) ?_)
    refine TL.cons rfl (T1.callV has_34 rfl rfl (Dp_any w0 (.mk k nm ts) Ps _ 24 hx_ (by decide) (by decide)) z_E (fun v_ hv => ?_))
    obtain rfl := hv
    rcases Bool.eq_false_or_eq_true (decide ((24 : Int) < ((Tm.mk k nm ts).deep : Int))) with hd | hd <;> rw [hd]
    ·
      refine TL.cons rfl (V1.t (V1.pick rfl z_D) ?_)
      refine TL.nil ?_
      refine T.cond_t rfl ?_
      refine T.seq ?_
      refine T.region ?_
      refine TL.cons rfl (V1.t (V1.assign' z_D) ?_)
      refine TL.nil ?_
      refine T.ret ?_
      exact ⟨_, G, _, .cons (.tmp z_D) .nil, z_A, rfl, congrArg (Value.int .i64) (by unfold chk; rw [if_pos (.inr (by have := of_decide_eq_true hd; omega))])⟩
    ·
      refine TL.cons rfl (V1.t (V1.pick rfl z_D) ?_)
      refine TL.nil ?_
      refine T.cond_f rfl ?_
      refine T.skip ?_
      refine T.seq ?_
      refine T.seq ?_
      refine T.region ?_
      refine TL.cons rfl (V1.t (V1.loadN (vs := [.int .i64 k, .string (bstr nm), .slice a ts.length c]) one_29 sz_29 rfl (RdN.whole (cells := [.int .i64 k, .string (bstr nm), .slice a ts.length c]) z_C) rfl) ?_)
      refine TL.cons rfl (T1.callV has_35 rfl rfl (Sh_any w0 (.mk k nm ts) Ps _ hx_) z_E (fun v_ hv => ?_))
      obtain rfl := hv
      rcases Bool.eq_false_or_eq_true (shp (.mk k nm ts)) with hs_ | hs_ <;> rw [hs_]
      ·
        refine TL.cons rfl (V1.t (V1.not rfl rfl) ?_)
        refine TL.nil ?_
        refine T.cond_f rfl ?_
        refine T.skip ?_
        refine T.seq ?_
        refine T.region ?_
        refine TL.cons rfl (V1.t (V1.assign' z_D) ?_)
        refine TL.nil ?_
        refine T.ret ?_
        exact ⟨_, G, _, .cons (.tmp z_D) .nil, z_A, rfl, congrArg (Value.int .i64) (by unfold chk; rw [if_neg (by have := of_decide_eq_false hd; omega), hs_]; rfl)⟩
      ·
        refine TL.cons rfl (V1.t (V1.not rfl rfl) ?_)
        refine TL.nil ?_
        refine T.cond_t rfl ?_
        refine T.seq ?_
        refine T.region ?_
        refine TL.cons rfl (V1.t (V1.assign' z_D) ?_)
        refine TL.nil ?_
        refine T.ret ?_
        exact ⟨_, G, _, .cons (.tmp z_D) .nil, z_A, rfl, congrArg (Value.int .i64) (by unfold chk; rw [if_neg (by have := of_decide_eq_false hd; omega), hs_]; rfl)⟩

theorem RCheck_any (w0 : World) (Ps : List Blk) (x : Tm) (cx : List Value) (hx : TmR w0 Ps x cx) (hsz : x.size ≤ 2000) : FnV P 12 [.agg cx.toArray] w0 Ps (fun v => v = .int .i64 (chk x)) := by
  obtain ⟨k, nm, ts⟩ := x
  exact RCheck_us w0 Ps cx hx hsz
end Go.Proofs.YtlpkcbkflfbclaaGreatDoor.S
