/- The parts of a term, each once, in their order. -/
import Derived.Test.YtlpkcbkflfbclaaGreatDoorT6
namespace Go.Proofs.YtlpkcbkflfbclaaGreatDoor.S
open Go.RowKit

set_option maxRecDepth 100000 in
theorem IndexFunc_any (w0 : World) (Ps : List Blk) (p : Tm → Prop) {g : Nat} {cv : Value} {ts : List Tm} {a : Option Addr} {c : Nat} {vs : List Value} (hf : Has P g) (hC : ∀ x ∈ ts, ∀ cx, TmR w0 Ps x cx → FnV P g [.agg cx.toArray, cv] w0 Ps (fun v => ∃ r, v = .bool r ∧ (r = true ↔ p x))) (hr : RowR w0 Ps 3 (.slice a ts.length c) ts.length vs) (ht : TmsR w0 Ps ts vs) (hl : ts.length ≤ maxN) : FnV P 104 [.slice a ts.length c, .func (.func g) #[] #[cv]] w0 Ps (fun v => ∃ r, v = .int .i64 r ∧ (0 ≤ r ↔ ∃ x ∈ ts, p x)) := by
  unfold maxN at hl
  refine FnV.of 19 [.tmp 4] Go.Proofs.Tryz.func104 rfl rfl rfl rfl (fun G hG => ?_)
  refine T.seq ?_
  refine T.region ?_
  refine TL.cons rfl (V1.t (V1.assign' z_C) ?_)
  refine TL.nil ?_
  refine T.seq ?_
  refine T.seq ?_
  refine T.region ?_
  refine TL.cons rfl (V1.t (V1.move' z_C) ?_)
  refine TL.cons rfl (V1.t (V1.lenSl ty_22 rfl) ?_)
  refine TL.cons rfl (V1.t (V1.move' z_C) ?_)
  refine TL.nil ?_
  refine T.block ?_
  refine T.loopL (σ := Nat) (l0 := [(0, _), (1, _), (7, _)]) (fun x => [(8, .int .i64 (x : Nat))]) (fun i L => L = G ∧ i ≤ ts.length ∧ ∀ x ∈ ts.take i, ¬ p x) (fun i => ts.length - i) 0 (.cons rfl .nil) (.cons z_C (.cons z_C (.cons z_C .nil))) z_A (⟨rfl, Nat.zero_le _, fun x hx => by simp at hx⟩) ?_
  rintro i e_ L ⟨hL, hi, ho⟩
  obtain rfl := hL.symm
  refine T.seq ?_
  refine T.region ?_
  refine TL.cons rfl (T1.ltI_split rfl rfl (fun h2 => ?_) (fun h2 => ?_))
  ·
    obtain ⟨x, hx0⟩ : ∃ x, ts[i]? = some x := ⟨_, List.getElem?_eq_getElem (by omega)⟩
    have hm := List.mem_of_getElem? hx0
    have hcx := hC x hm
    obtain ⟨bx, ox, cs_, rfl, hx, hrdx⟩ := hr.term ht hx0 P
    obtain ⟨kx, nx, asx⟩ := x
    obtain ⟨ax, cx, vsx, rfl, hrx, hlx, htx⟩ := hx.inv
    try simp only at *
    refine TL.nil ?_
    refine T.seq ?_
    refine T.cond_t rfl ?_
    refine T.skip ?_
    refine T.seq ?_
    refine T.block ?_
    refine T.seq ?_
    refine T.region ?_
    refine TL.cons rfl (V1.t (V1.move' z_C) ?_)
    refine TL.cons rfl (V1.t (V1.assign' z_C) ?_)
    refine TL.nil ?_
    refine T.seq ?_
    refine T.region ?_
    refine TL.cons rfl (V1.t (V1.move' z_C) ?_)
    refine TL.cons rfl (V1.t (V1.move' z_C) ?_)
    refine TL.cons rfl (V1.t (V1.move' z_C) ?_)
    refine TL.cons rfl (V1.t (V1.indexAddrS ty_22 sz_24 rfl rfl (by omega) (by omega)) ?_)
    refine TL.cons rfl (V1.t (V1.loadN (vs := [.int .i64 kx, .string (bstr nx), .slice ax asx.length cx]) one_24 sz_24 rfl (hrdx _ rfl rfl _ z_B) rfl) ?_)
    refine TL.cons rfl (T1.callGV (first := #[]) (cap := #[cv]) rfl hf rfl rfl (hcx _ hx) z_B (fun v_ hv => ?_))
    obtain ⟨r, rfl, hr_⟩ := hv
    rcases Bool.eq_false_or_eq_true r with hrb | hrb <;> rw [hrb] at hr_ ⊢
    ·
      refine TL.nil ?_
      refine T.cond_t rfl ?_
      refine T.seq ?_
      refine T.region ?_
      refine TL.cons rfl (V1.t (V1.move' z_C) ?_)
      refine TL.cons rfl (V1.t (V1.assign' z_C) ?_)
      refine TL.nil ?_
      refine T.ret ?_
      exact ⟨_, G, _, .cons (.tmp z_C) .nil, z_A, rfl, ⟨_, rfl, by simp only [Int.natCast_nonneg, true_iff]; exact ⟨_, hm, hr_.1 rfl⟩⟩⟩
    ·
      refine TL.nil ?_
      refine T.cond_f rfl ?_
      refine T.skip ?_
      refine T.region ?_
      refine TL.cons rfl (V1.t (V1.add (c := ((i + 1 : Nat) : Int)) rfl rfl (by rw [wrap_i64 _ (by omega) (by omega)]; omega)) ?_)
      refine TL.cons rfl (V1.t (V1.move' z_C) ?_)
      refine TL.nil ?_
      exact ⟨i + 1, _, _, (by simp only; omega), (.cons rfl .nil), (.cons rfl (.cons rfl (.cons rfl .nil))), z_A, ⟨rfl, by omega, fun z hz => by rw [List.take_add_one, hx0] at hz; rcases List.mem_append.1 hz with hz | hz; exact ho z hz; (simp at hz; subst hz; exact fun h => by simp [h] at hr_)⟩⟩
  ·
    obtain rfl : i = ts.length := by omega
    rw [List.take_length] at ho
    refine TL.nil ?_
    refine T.seq ?_
    refine T.cond_f rfl ?_
    refine T.exit ?_
    refine T.seq ?_
    refine T.region ?_
    refine TL.cons rfl (V1.t (V1.assign' z_C) ?_)
    refine TL.nil ?_
    refine T.ret ?_
    exact ⟨_, G, _, .cons (.tmp z_C) .nil, z_A, rfl, ⟨-1, rfl, by simp only [Int.reduceNeg, show ¬ (0 : Int) ≤ -1 by omega, false_iff]; rintro ⟨x, hx, hp⟩; exact ho x hx hp⟩⟩

set_option maxRecDepth 100000 in
theorem ContainsFunc_any (w0 : World) (Ps : List Blk) (p : Tm → Prop) {g : Nat} {cv : Value} {ts : List Tm} {a : Option Addr} {c : Nat} {vs : List Value} (hf : Has P g) (hC : ∀ x ∈ ts, ∀ cx, TmR w0 Ps x cx → FnV P g [.agg cx.toArray, cv] w0 Ps (fun v => ∃ r, v = .bool r ∧ (r = true ↔ p x))) (hr : RowR w0 Ps 3 (.slice a ts.length c) ts.length vs) (ht : TmsR w0 Ps ts vs) (hl : ts.length ≤ maxN) : FnV P 75 [.slice a ts.length c, .func (.func g) #[] #[cv]] w0 Ps (fun v => ∃ r, v = .bool r ∧ (r = true ↔ ∃ x ∈ ts, p x)) := by
  refine FnV.of 9 [.tmp 4] Go.Proofs.Tryz.func75 rfl rfl rfl rfl (fun G hG => ?_)
  refine T.seq ?_
  refine T.region ?_
  refine TL.cons rfl (V1.t (V1.assign' z_C) ?_)
  refine TL.nil ?_
  refine T.seq ?_
  refine T.region ?_
  refine TL.cons rfl (V1.t (V1.move' z_C) ?_)
  refine TL.cons rfl (V1.t (V1.move' z_C) ?_)
  refine TL.cons rfl (T1.callV has_104 rfl rfl (IndexFunc_any w0 Ps p hf hC hr ht hl) z_B (fun v_ hv => ?_))
  obtain ⟨r, rfl, hr_⟩ := hv
  refine TL.cons rfl (V1.t (V1.geI rfl rfl rfl) ?_)
  refine TL.cons rfl (V1.t (V1.assign' z_C) ?_)
  refine TL.nil ?_
  refine T.ret ?_
  exact ⟨_, G, _, .cons (.tmp z_C) .nil, z_A, rfl, ⟨_, rfl, by rw [decide_eq_true_iff]; exact hr_⟩⟩

end Go.Proofs.YtlpkcbkflfbclaaGreatDoor.S
