/- Sets of terms in their order. -/
import Derived.Test.YtlpkcbkflfbclaaGreatDoorT7
import Derived.Test.YtlpkcbkflfbclaaGreatDoorOps9
import Derived.Test.YtlpkcbkflfbclaaGreatDoorTmSpec
namespace Go.Proofs.YtlpkcbkflfbclaaGreatDoor.S
open Go.RowKit

theorem Srt.at {l : List Tm} (h : Srt l) {i j : Nat} {x y : Tm} (hx : l[i]? = some x) (hy : l[j]? = some y) (hij : i < j) : cmpT x y < 0 := by
  obtain ⟨hi, rfl⟩ := List.getElem?_eq_some_iff.1 hx
  obtain ⟨hj, rfl⟩ := List.getElem?_eq_some_iff.1 hy
  exact List.pairwise_iff_getElem.1 h i j hi hj hij
theorem srt_lo {l : List Tm} {t x : Tm} {h : Nat} (hs : Srt l) (hx : l[h]? = some x) (hlt : cmpT x t < 0) : ∀ y ∈ l.take (h + 1), cmpT y t < 0 := by
  intro y hy
  obtain ⟨j, hj⟩ := List.getElem?_of_mem hy
  have hjl : j < h + 1 := by have := (List.getElem?_eq_some_iff.1 hj).1; rw [List.length_take] at this; omega
  rw [List.getElem?_take, if_pos hjl] at hj
  rcases Nat.lt_or_ge j h with h' | h'
  · exact cmpT_trans (hs.at hj hx h') hlt
  · obtain rfl : j = h := by omega
    rw [hx] at hj; rw [← Option.some.inj hj]; exact hlt
theorem srt_hi {l : List Tm} {t x : Tm} {h : Nat} (hs : Srt l) (hx : l[h]? = some x) (hge : ¬ cmpT x t < 0) : ∀ y ∈ l.drop h, ¬ cmpT y t < 0 := by
  intro y hy hlt
  obtain ⟨j, hj⟩ := List.getElem?_of_mem hy
  rw [List.getElem?_drop] at hj
  rcases Nat.eq_zero_or_pos j with h' | h'
  · subst h'
    rw [Nat.add_zero, hx] at hj; rw [← Option.some.inj hj] at hlt; exact hge hlt
  · exact hge (cmpT_trans (hs.at hx hj (by omega)) hlt)
theorem mem_split {l : List Tm} (i : Nat) {t : Tm} : t ∈ l ↔ t ∈ l.take i ∨ t ∈ l.drop i := by
  conv => lhs; rw [← List.take_append_drop i l]
  exact List.mem_append
theorem bs_found {l : List Tm} {t x : Tm} {i : Nat} (hs : Srt l) (h1 : ∀ y ∈ l.take i, cmpT y t < 0) (h2 : ∀ y ∈ l.drop i, ¬ cmpT y t < 0) (hx : l[i]? = some x) : decide (cmpT x t = 0) = decide (t ∈ l) := by
  rw [decide_eq_decide, cmpT_eq]
  constructor
  · rintro rfl; exact List.mem_of_getElem? hx
  · intro ht
    rcases (mem_split i).1 ht with h | h
    · have := h1 t h; rw [cmpT_self] at this; omega
    · obtain ⟨j, hj⟩ := List.getElem?_of_mem h
      rw [List.getElem?_drop] at hj
      rcases Nat.eq_zero_or_pos j with h' | h'
      · subst h'; rw [Nat.add_zero, hx] at hj; exact Option.some.inj hj
      · exact absurd (hs.at hx hj (by omega)) (h2 x (by rw [List.mem_iff_getElem?]; exact ⟨0, by rw [List.getElem?_drop]; exact hx⟩))
theorem bs_none {l : List Tm} {t : Tm} (h1 : ∀ y ∈ l, cmpT y t < 0) : t ∉ l := fun ht => by have := h1 t ht; rw [cmpT_self] at this; omega

set_option maxRecDepth 100000 in
theorem BinarySearch_any (w0 : World) (Ps : List Blk) {l : List Tm} {a : Option Addr} {c : Nat} {vs : List Value} (hr : RowR w0 Ps 3 (.slice a l.length c) l.length vs) (hl : TmsR w0 Ps l vs) (hn : l.length ≤ maxN) (hs : Srt l) (t : Tm) (ct : List Value) (ht : TmR w0 Ps t ct) : FnV P 124 [.slice a l.length c, .agg ct.toArray, .func (.func 30) #[] #[]] w0 Ps (fun v => v = .tuple #[.int .i64 (lowI l t : Nat), .bool (decide (t ∈ l))]) := by
  obtain ⟨kt, nt, ast⟩ := t
  obtain ⟨at_, ctt, vst, rfl, hrt, hlt_, htt⟩ := ht.inv
  unfold maxN at hn
  refine FnV.of 49 [.tmp 6, .tmp 7] Go.Proofs.Tryz.func124 rfl rfl rfl rfl (fun G hG => ?_)
  refine T.seq ?_
  refine T.region ?_
  refine TL.cons rfl (T1.boxN 3 rfl rfl (fun b4 => ?_))
  refine TL.cons rfl (V1.t (V1.assign' z_C) ?_)
  refine TL.cons rfl (V1.t (V1.assign' z_C) ?_)
  refine TL.nil ?_
  refine T.seq ?_
  refine T.region ?_
  refine TL.cons rfl (V1.t (V1.move' z_C) ?_)
  refine TL.cons rfl (V1.t (V1.lenSl ty_106 rfl) ?_)
  refine TL.cons rfl (V1.t (V1.assign' z_C) ?_)
  refine TL.nil ?_
  refine T.seq ?_
  refine T.region ?_
  refine TL.cons rfl (V1.t (V1.move' z_C) ?_)
  refine TL.cons rfl (V1.t (V1.assign' z_C) ?_)
  refine TL.cons rfl (V1.t (V1.assign' z_C) ?_)
  refine TL.nil ?_
  refine T.seq ?_
  refine T.block ?_
  refine T.loopL (σ := Nat × Nat) (l0 := [(0, _), (2, _), (4, _), (8, _)]) (fun x => [(9, .int .i64 (x.1 : Nat)), (10, .int .i64 (x.2 : Nat))]) (fun x L => L = ⟨b4, 0, [.int .i64 kt, .string (bstr nt), .slice at_ ast.length ctt], 3⟩ :: G ∧ x.1 ≤ x.2 ∧ x.2 ≤ l.length ∧ (∀ y ∈ l.take x.1, cmpT y (.mk kt nt ast) < 0) ∧ (∀ y ∈ l.drop x.2, ¬ cmpT y (.mk kt nt ast) < 0)) (fun x => x.2 - x.1) (0, l.length) (.cons rfl (.cons rfl .nil)) (.cons z_C (.cons z_C (.cons z_C (.cons z_C .nil)))) z_A (⟨rfl, Nat.zero_le _, Nat.le_refl _, fun y hy => by simp at hy, fun y hy => by simp at hy⟩) ?_
  rintro ⟨lo, hi⟩ e_ L ⟨rfl, hle0, hhn, ha, hb⟩
  simp only at hle0 hhn ha hb
  refine T.seq ?_
  refine T.seq ?_
  refine T.region ?_
  refine TL.cons rfl (V1.t (V1.move' z_C) ?_)
  refine TL.cons rfl (V1.t (V1.move' z_C) ?_)
  rcases (show lo < hi ∨ (lo = hi ∧ lo < l.length) ∨ (lo = hi ∧ lo = l.length) from by omega) with hlt | ⟨hle, hlt⟩ | ⟨hle, hlt⟩
  ·
    refine TL.cons rfl (V1.t (V1.ltI (r := true) rfl rfl (decide_eq_true (by omega))) ?_)
    refine TL.nil ?_
    refine T.cond_t rfl ?_
    refine T.skip ?_
    refine T.block ?_
    refine T.seq ?_
    refine T.region ?_
    refine TL.cons rfl (V1.t (V1.move' z_C) ?_)
    refine TL.cons rfl (V1.t (V1.move' z_C) ?_)
    refine TL.cons rfl (V1.t (V1.add (c := ((lo + hi : Nat) : Int)) rfl rfl (by rw [wrap_i64 _ (by omega) (by omega)]; omega)) ?_)
    refine TL.cons rfl (V1.t (V1.conv (c := ((lo + hi : Nat) : Int)) ty_3 ty_132 rfl (wrap_u64 _ (by omega) (by omega))) ?_)
    refine TL.cons rfl (V1.t (V1.shr rfl rfl (by decide) (shr_u (m := 1) (by decide))) ?_)
    refine TL.cons rfl (V1.t (V1.conv (c := ((((lo + hi) / 2) : Nat) : Int)) ty_132 ty_3 rfl (wrap_i64 _ (by omega) (by omega))) ?_)
    refine TL.cons rfl (V1.t (V1.assign' z_C) ?_)
    have hmid : lo ≤ ((lo + hi) / 2) ∧ ((lo + hi) / 2) < hi := by omega
    obtain ⟨m, hm⟩ : ∃ m, m = ((lo + hi) / 2) := ⟨_, rfl⟩
    rw [← hm] at hmid ⊢
    obtain ⟨x, hx0⟩ : ∃ x, l[m]? = some x := ⟨_, List.getElem?_eq_getElem (by omega)⟩
    have hlo_ := fun h => srt_lo (t := .mk kt nt ast) hs hx0 h
    have hhi_ := fun h => srt_hi (t := .mk kt nt ast) hs hx0 h
    obtain ⟨bx, ox, cs_, rfl, hx, hrdx⟩ := hr.term hl hx0 P
    obtain ⟨kx, nx, asx⟩ := x
    obtain ⟨ax, cx, vsx, rfl, hrx, hlx, htx⟩ := hx.inv
    try simp only at *
    rcases (show cmpT (.mk kx nx asx) (.mk kt nt ast) < 0 ∨ 0 ≤ cmpT (.mk kx nx asx) (.mk kt nt ast) from by omega) with hc | hc
    ·
      refine TL.nil ?_
      refine T.seq ?_
      refine T.drawDet' mixed (by decide +kernel) ?_
      refine Det.cons 0 (ins := [(2, _)]) (.old z_C (by decide +kernel) .nil) (fun e_ => .inl ⟨rfl, V1.t (V1.move' z_C) ⟨rfl, rfl⟩⟩) ?_
      refine Det.cons 1 (ins := [(0, _)]) (.old z_C (by decide +kernel) .nil) (fun e_ => .inl ⟨rfl, V1.t (V1.move' z_C) ⟨rfl, rfl⟩⟩) ?_
      refine Det.cons 2 (ins := [(11, _)]) (.old z_C (by decide +kernel) .nil) (fun e_ => .inl ⟨rfl, V1.t (V1.move' z_C) ⟨rfl, rfl⟩⟩) ?_
      refine Det.cons 3 (ins := [(25, _), (26, _)]) (.new 1 1 (by decide +kernel) rfl rfl (.new 2 0 (by decide +kernel) rfl rfl .nil)) (fun e_ => .inl ⟨rfl, V1.t (V1.indexAddrS ty_106 sz_24 rfl rfl (by omega) (by omega)) ⟨rfl, rfl⟩⟩) ?_
      refine Det.cons 4 (ins := [(27, _)]) (.new 3 0 (by decide +kernel) rfl rfl .nil) (fun e_ => .inl ⟨rfl, V1.t (V1.loadN (vs := [.int .i64 kx, .string (bstr nx), .slice ax asx.length cx]) one_24 sz_24 rfl (hrdx _ rfl rfl _ z_B) rfl) ⟨rfl, rfl⟩⟩) ?_
      refine Det.cons 5 (ins := [(4, _)]) (.old z_C (by decide +kernel) .nil) (fun e_ => .inl ⟨rfl, V1.t (V1.loadN one_24 sz_24 rfl (RdN.whole z_D) (by rfl)) ⟨rfl, rfl⟩⟩) ?_
      refine Det.cons 6 (ins := [(24, _), (28, _), (29, _)]) (v := .int .i64 (cmpT (.mk kx nx asx) (.mk kt nt ast))) (.new 0 5 (by decide +kernel) rfl rfl (.new 4 1 (by decide +kernel) rfl rfl (.new 5 0 (by decide +kernel) rfl rfl .nil))) (fun e_ => .inl ⟨rfl, ?_⟩) ?_
      · refine T1.callGV (first := #[]) (cap := #[]) rfl has_30 rfl rfl (Compare_any w0 _ (.mk kt nt ast) _ _ _ hx ht) z_B (fun v_ hv => ?_)
        obtain rfl := hv
        exact ⟨rfl, rfl⟩
      refine Det.cons 7 (ins := [(30, _)]) (.new 6 0 (by decide +kernel) rfl rfl .nil) (fun e_ => .inl ⟨rfl, V1.t (V1.ltI (r := true) rfl rfl (decide_eq_true (by omega))) ⟨rfl, rfl⟩⟩) ?_
      refine Det.nil 8 (l := [(0, _), (2, _), (4, _), (8, _), (9, _), (10, _), (11, _), (31, _)]) (.old z_C (by decide +kernel) (.old z_C (by decide +kernel) (.old z_C (by decide +kernel) (.old z_C (by decide +kernel) (.old z_C (by decide +kernel) (.old z_C (by decide +kernel) (.old z_C (by decide +kernel) (.new 7 0 (by decide +kernel) rfl rfl .nil)))))))) (fun e_ => ?_)
      refine T.cond_t rfl ?_
      refine T.region ?_
      refine TL.cons rfl (V1.t (V1.move' z_C) ?_)
      refine TL.cons rfl (V1.t (V1.add (c := ((m + 1 : Nat) : Int)) rfl rfl (by rw [wrap_i64 _ (by omega) (by omega)]; omega)) ?_)
      refine TL.cons rfl (V1.t (V1.assign' z_C) ?_)
      refine TL.nil ?_
      exact ⟨(m + 1, hi), _, _, (by simp only; omega), (.cons rfl (.cons rfl .nil)), (.cons rfl (.cons rfl (.cons rfl (.cons rfl .nil)))), z_A, ⟨rfl, by simp only; omega, hhn, hlo_ hc, hb⟩⟩
    ·
      refine TL.nil ?_
      refine T.seq ?_
      refine T.drawDet' mixed (by decide +kernel) ?_
      refine Det.cons 0 (ins := [(2, _)]) (.old z_C (by decide +kernel) .nil) (fun e_ => .inl ⟨rfl, V1.t (V1.move' z_C) ⟨rfl, rfl⟩⟩) ?_
      refine Det.cons 1 (ins := [(0, _)]) (.old z_C (by decide +kernel) .nil) (fun e_ => .inl ⟨rfl, V1.t (V1.move' z_C) ⟨rfl, rfl⟩⟩) ?_
      refine Det.cons 2 (ins := [(11, _)]) (.old z_C (by decide +kernel) .nil) (fun e_ => .inl ⟨rfl, V1.t (V1.move' z_C) ⟨rfl, rfl⟩⟩) ?_
      refine Det.cons 3 (ins := [(25, _), (26, _)]) (.new 1 1 (by decide +kernel) rfl rfl (.new 2 0 (by decide +kernel) rfl rfl .nil)) (fun e_ => .inl ⟨rfl, V1.t (V1.indexAddrS ty_106 sz_24 rfl rfl (by omega) (by omega)) ⟨rfl, rfl⟩⟩) ?_
      refine Det.cons 4 (ins := [(27, _)]) (.new 3 0 (by decide +kernel) rfl rfl .nil) (fun e_ => .inl ⟨rfl, V1.t (V1.loadN (vs := [.int .i64 kx, .string (bstr nx), .slice ax asx.length cx]) one_24 sz_24 rfl (hrdx _ rfl rfl _ z_B) rfl) ⟨rfl, rfl⟩⟩) ?_
      refine Det.cons 5 (ins := [(4, _)]) (.old z_C (by decide +kernel) .nil) (fun e_ => .inl ⟨rfl, V1.t (V1.loadN one_24 sz_24 rfl (RdN.whole z_D) (by rfl)) ⟨rfl, rfl⟩⟩) ?_
      refine Det.cons 6 (ins := [(24, _), (28, _), (29, _)]) (v := .int .i64 (cmpT (.mk kx nx asx) (.mk kt nt ast))) (.new 0 5 (by decide +kernel) rfl rfl (.new 4 1 (by decide +kernel) rfl rfl (.new 5 0 (by decide +kernel) rfl rfl .nil))) (fun e_ => .inl ⟨rfl, ?_⟩) ?_
      · refine T1.callGV (first := #[]) (cap := #[]) rfl has_30 rfl rfl (Compare_any w0 _ (.mk kt nt ast) _ _ _ hx ht) z_B (fun v_ hv => ?_)
        obtain rfl := hv
        exact ⟨rfl, rfl⟩
      refine Det.cons 7 (ins := [(30, _)]) (.new 6 0 (by decide +kernel) rfl rfl .nil) (fun e_ => .inl ⟨rfl, V1.t (V1.ltI (r := false) rfl rfl (decide_eq_false (by omega))) ⟨rfl, rfl⟩⟩) ?_
      refine Det.nil 8 (l := [(0, _), (2, _), (4, _), (8, _), (9, _), (10, _), (11, _), (31, _)]) (.old z_C (by decide +kernel) (.old z_C (by decide +kernel) (.old z_C (by decide +kernel) (.old z_C (by decide +kernel) (.old z_C (by decide +kernel) (.old z_C (by decide +kernel) (.old z_C (by decide +kernel) (.new 7 0 (by decide +kernel) rfl rfl .nil)))))))) (fun e_ => ?_)
      refine T.cond_f rfl ?_
      refine T.region ?_
      refine TL.cons rfl (V1.t (V1.move' z_C) ?_)
      refine TL.cons rfl (V1.t (V1.assign' z_C) ?_)
      refine TL.nil ?_
      exact ⟨(lo, m), _, _, (by simp only; omega), (.cons rfl (.cons rfl .nil)), (.cons rfl (.cons rfl (.cons rfl (.cons rfl .nil)))), z_A, ⟨rfl, by simp only; omega, by simp only; omega, ha, hhi_ (by omega)⟩⟩
  ·
    subst hle
    have hbs := fun x hx => bs_found (x := x) hs ha hb hx
    obtain ⟨x, hx0⟩ : ∃ x, l[lo]? = some x := ⟨_, List.getElem?_eq_getElem (by omega)⟩
    have hlo_ := fun h => srt_lo (t := .mk kt nt ast) hs hx0 h
    have hhi_ := fun h => srt_hi (t := .mk kt nt ast) hs hx0 h
    obtain ⟨bx, ox, cs_, rfl, hx, hrdx⟩ := hr.term hl hx0 P
    obtain ⟨kx, nx, asx⟩ := x
    obtain ⟨ax, cx, vsx, rfl, hrx, hlx, htx⟩ := hx.inv
    try simp only at *
    refine TL.cons rfl (V1.t (V1.ltI (r := false) rfl rfl (decide_eq_false (by omega))) ?_)
    refine TL.nil ?_
    refine T.cond_f rfl ?_
    refine T.exit ?_
    refine T.seq ?_
    refine T.drawDet' mixed (by decide +kernel) ?_
    refine Det.cons 0 (ins := [(9, _)]) (.old z_C (by decide +kernel) .nil) (fun e_ => .inl ⟨rfl, V1.t (V1.move' z_C) ⟨rfl, rfl⟩⟩) ?_
    refine Det.cons 1 (ins := [(9, _)]) (.old z_C (by decide +kernel) .nil) (fun e_ => .inl ⟨rfl, V1.t (V1.move' z_C) ⟨rfl, rfl⟩⟩) ?_
    refine Det.cons 2 (ins := [(8, _)]) (.old z_C (by decide +kernel) .nil) (fun e_ => .inl ⟨rfl, V1.t (V1.move' z_C) ⟨rfl, rfl⟩⟩) ?_
    refine Det.cons 3 (ins := [(36, _), (37, _)]) (.new 1 1 (by decide +kernel) rfl rfl (.new 2 0 (by decide +kernel) rfl rfl .nil)) (fun e_ => .inl ⟨rfl, V1.t (V1.ltI (r := true) rfl rfl (decide_eq_true (by omega))) ⟨rfl, rfl⟩⟩) ?_
    refine Det.cons 4 (ins := [(38, _)]) (.new 3 0 (by decide +kernel) rfl rfl .nil) (fun e_ => .inl ⟨rfl, V1.t (V1.move' z_C) ⟨rfl, rfl⟩⟩) ?_
    refine Det.cons 5 (ins := [(2, _), (39, _)]) (.old z_C (by decide +kernel) (.new 4 0 (by decide +kernel) rfl rfl .nil)) (fun e_ => .inl ⟨rfl, V1.t (V1.move' z_C) ⟨rfl, rfl⟩⟩) ?_
    refine Det.cons 6 (ins := [(0, _), (39, _)]) (.old z_C (by decide +kernel) (.new 4 1 (by decide +kernel) rfl rfl .nil)) (fun e_ => .inl ⟨rfl, V1.t (V1.move' z_C) ⟨rfl, rfl⟩⟩) ?_
    refine Det.cons 7 (ins := [(9, _), (39, _)]) (.old z_C (by decide +kernel) (.new 4 2 (by decide +kernel) rfl rfl .nil)) (fun e_ => .inl ⟨rfl, V1.t (V1.move' z_C) ⟨rfl, rfl⟩⟩) ?_
    refine Det.cons 8 (ins := [(39, _), (41, _), (42, _)]) (.new 4 3 (by decide +kernel) rfl rfl (.new 6 1 (by decide +kernel) rfl rfl (.new 7 0 (by decide +kernel) rfl rfl .nil))) (fun e_ => .inl ⟨rfl, V1.t (V1.indexAddrS ty_106 sz_24 rfl rfl (by omega) (by omega)) ⟨rfl, rfl⟩⟩) ?_
    refine Det.cons 9 (ins := [(39, _), (43, _)]) (.new 4 4 (by decide +kernel) rfl rfl (.new 8 0 (by decide +kernel) rfl rfl .nil)) (fun e_ => .inl ⟨rfl, V1.t (V1.loadN (vs := [.int .i64 kx, .string (bstr nx), .slice ax asx.length cx]) one_24 sz_24 rfl (hrdx _ rfl rfl _ z_B) rfl) ⟨rfl, rfl⟩⟩) ?_
    refine Det.cons 10 (ins := [(4, _), (39, _)]) (.old z_C (by decide +kernel) (.new 4 5 (by decide +kernel) rfl rfl .nil)) (fun e_ => .inl ⟨rfl, V1.t (V1.loadN one_24 sz_24 rfl (RdN.whole z_D) (by rfl)) ⟨rfl, rfl⟩⟩) ?_
    refine Det.cons 11 (ins := [(39, _), (40, _), (44, _), (45, _)]) (v := .int .i64 (cmpT (.mk kx nx asx) (.mk kt nt ast))) (.new 4 6 (by decide +kernel) rfl rfl (.new 5 5 (by decide +kernel) rfl rfl (.new 9 1 (by decide +kernel) rfl rfl (.new 10 0 (by decide +kernel) rfl rfl .nil)))) (fun e_ => .inl ⟨rfl, ?_⟩) ?_
    · refine T1.callGV (first := #[]) (cap := #[]) rfl has_30 rfl rfl (Compare_any w0 _ (.mk kt nt ast) _ _ _ hx ht) z_B (fun v_ hv => ?_)
      obtain rfl := hv
      exact ⟨rfl, rfl⟩
    refine Det.cons 12 (ins := [(39, _), (46, _)]) (.new 4 7 (by decide +kernel) rfl rfl (.new 11 0 (by decide +kernel) rfl rfl .nil)) (fun e_ => .inl ⟨rfl, V1.t (V1.eqI rfl rfl rfl) ⟨rfl, rfl⟩⟩) ?_
    refine Det.cons 13 (ins := [(39, _), (47, _)]) (.new 4 8 (by decide +kernel) rfl rfl (.new 12 0 (by decide +kernel) rfl rfl .nil)) (fun e_ => .inl ⟨rfl, V1.t (V1.pick rfl z_C) ⟨rfl, rfl⟩⟩) ?_
    refine Det.cons 14 (ins := [(35, _)]) (.new 0 13 (by decide +kernel) rfl rfl .nil) (fun e_ => .inl ⟨rfl, V1.t (V1.assign' z_C) ⟨rfl, rfl⟩⟩) ?_
    refine Det.cons 15 (ins := [(48, _)]) (.new 13 1 (by decide +kernel) rfl rfl .nil) (fun e_ => .inl ⟨rfl, V1.t (V1.assign' z_C) ⟨rfl, rfl⟩⟩) ?_
    refine Det.nil 16 (l := [(6, _), (7, _)]) (.new 14 1 (by decide +kernel) rfl rfl (.new 15 0 (by decide +kernel) rfl rfl .nil)) (fun e_ => ?_)
    refine T.ret ?_
    exact ⟨_, G, _, .cons (.tmp z_C) (.cons (.tmp z_C) .nil), z_A, rfl, by rw [← lowI_of hhn ha hb, ← hbs _ hx0]; rfl⟩
  ·
    subst hle
    subst hlt
    rw [List.take_length] at ha
    have hbn := bs_none ha
    refine TL.cons rfl (V1.t (V1.ltI (r := false) rfl rfl (decide_eq_false (by omega))) ?_)
    refine TL.nil ?_
    refine T.cond_f rfl ?_
    refine T.exit ?_
    refine T.seq ?_
    refine T.drawDet' mixed (by decide +kernel) ?_
    refine Det.cons 0 (ins := [(9, _)]) (.old z_C (by decide +kernel) .nil) (fun e_ => .inl ⟨rfl, V1.t (V1.move' z_C) ⟨rfl, rfl⟩⟩) ?_
    refine Det.cons 1 (ins := [(9, _)]) (.old z_C (by decide +kernel) .nil) (fun e_ => .inl ⟨rfl, V1.t (V1.move' z_C) ⟨rfl, rfl⟩⟩) ?_
    refine Det.cons 2 (ins := [(8, _)]) (.old z_C (by decide +kernel) .nil) (fun e_ => .inl ⟨rfl, V1.t (V1.move' z_C) ⟨rfl, rfl⟩⟩) ?_
    refine Det.cons 3 (ins := [(36, _), (37, _)]) (.new 1 1 (by decide +kernel) rfl rfl (.new 2 0 (by decide +kernel) rfl rfl .nil)) (fun e_ => .inl ⟨rfl, V1.t (V1.ltI (r := false) rfl rfl (decide_eq_false (by omega))) ⟨rfl, rfl⟩⟩) ?_
    refine Det.cons 4 (ins := [(38, _)]) (.new 3 0 (by decide +kernel) rfl rfl .nil) (fun e_ => .inl ⟨rfl, V1.t (V1.move' z_C) ⟨rfl, rfl⟩⟩) ?_
    refine Det.cons 5 (ins := [(39, _)]) (.new 4 0 (by decide +kernel) rfl rfl .nil) (fun e_ => .inr ⟨rfl, rfl⟩) ?_
    refine Det.cons 6 (ins := [(39, _)]) (.new 4 1 (by decide +kernel) rfl rfl .nil) (fun e_ => .inr ⟨rfl, rfl⟩) ?_
    refine Det.cons 7 (ins := [(39, _)]) (.new 4 2 (by decide +kernel) rfl rfl .nil) (fun e_ => .inr ⟨rfl, rfl⟩) ?_
    refine Det.cons 8 (ins := [(39, _)]) (.new 4 3 (by decide +kernel) rfl rfl .nil) (fun e_ => .inr ⟨rfl, rfl⟩) ?_
    refine Det.cons 9 (ins := [(39, _)]) (.new 4 4 (by decide +kernel) rfl rfl .nil) (fun e_ => .inr ⟨rfl, rfl⟩) ?_
    refine Det.cons 10 (ins := [(39, _)]) (.new 4 5 (by decide +kernel) rfl rfl .nil) (fun e_ => .inr ⟨rfl, rfl⟩) ?_
    refine Det.cons 11 (ins := [(39, _)]) (.new 4 6 (by decide +kernel) rfl rfl .nil) (fun e_ => .inr ⟨rfl, rfl⟩) ?_
    refine Det.cons 12 (ins := [(39, _)]) (.new 4 7 (by decide +kernel) rfl rfl .nil) (fun e_ => .inr ⟨rfl, rfl⟩) ?_
    refine Det.cons 13 (ins := [(39, _), (47, _)]) (.new 4 8 (by decide +kernel) rfl rfl (.new 12 0 (by decide +kernel) rfl rfl .nil)) (fun e_ => .inl ⟨rfl, V1.t (V1.pick rfl z_C) ⟨rfl, rfl⟩⟩) ?_
    refine Det.cons 14 (ins := [(35, _)]) (.new 0 13 (by decide +kernel) rfl rfl .nil) (fun e_ => .inl ⟨rfl, V1.t (V1.assign' z_C) ⟨rfl, rfl⟩⟩) ?_
    refine Det.cons 15 (ins := [(48, _)]) (.new 13 1 (by decide +kernel) rfl rfl .nil) (fun e_ => .inl ⟨rfl, V1.t (V1.assign' z_C) ⟨rfl, rfl⟩⟩) ?_
    refine Det.nil 16 (l := [(6, _), (7, _)]) (.new 14 1 (by decide +kernel) rfl rfl (.new 15 0 (by decide +kernel) rfl rfl .nil)) (fun e_ => ?_)
    refine T.ret ?_
    exact ⟨_, G, _, .cons (.tmp z_C) (.cons (.tmp z_C) .nil), z_A, rfl, by rw [← lowI_of hhn (by rw [List.take_length]; exact ha) hb, decide_eq_false hbn]; rfl⟩

set_option maxRecDepth 100000 in
theorem has_any (w0 : World) (Ps : List Blk) {l : List Tm} {a : Option Addr} {c : Nat} {vs : List Value} (hr : RowR w0 Ps 3 (.slice a l.length c) l.length vs) (hl : TmsR w0 Ps l vs) (hn : l.length ≤ maxN) (hs : Srt l) (t : Tm) (ct : List Value) (ht : TmR w0 Ps t ct) : FnV P 90 [.slice a l.length c, .agg ct.toArray] w0 Ps (fun v => v = .bool (decide (t ∈ l))) := by
  obtain ⟨kt, nt, ast⟩ := t
  obtain ⟨at_, ctt, vst, rfl, hrt, hlt_, htt⟩ := ht.inv
  refine FnV.of 14 [.tmp 4] Go.Proofs.Tryz.func90 rfl rfl rfl rfl (fun G hG => ?_)
  refine T.seq ?_
  refine T.region ?_
  refine TL.cons rfl (T1.boxN 3 rfl rfl (fun b3 => ?_))
  refine TL.cons rfl (V1.t (V1.assign' z_C) ?_)
  refine TL.nil ?_
  refine T.seq ?_
  refine T.region ?_
  refine TL.cons rfl (V1.t (V1.move' z_C) ?_)
  refine TL.cons rfl (V1.t (V1.loadN one_24 sz_24 rfl (RdN.whole z_D) (by rfl)) ?_)
  refine TL.cons rfl (T1.callV has_124 rfl rfl (BinarySearch_any w0 Ps hr hl hn hs _ _ ht) z_B (fun v_ hv => ?_))
  obtain rfl := hv
  refine TL.cons rfl (V1.t (V1.move' z_C) ?_)
  refine TL.cons rfl (V1.t (V1.extract rfl (by rfl)) ?_)
  refine TL.cons rfl (V1.t (V1.extract rfl (by rfl)) ?_)
  refine TL.cons rfl (V1.t (V1.assign' z_C) ?_)
  refine TL.cons rfl (V1.t (V1.assign' z_C) ?_)
  refine TL.nil ?_
  refine T.seq ?_
  refine T.region ?_
  refine TL.cons rfl (V1.t (V1.move' z_C) ?_)
  refine TL.cons rfl (V1.t (V1.assign' z_C) ?_)
  refine TL.nil ?_
  refine T.ret ?_
  exact ⟨_, G, _, .cons (.tmp z_C) .nil, z_A, rfl, rfl⟩

set_option maxRecDepth 100000 in
theorem Clone_any (w0 : World) (Ps : List Blk) {l : List Tm} {a : Option Addr} {c : Nat} {vs : List Value} (hr : RowR w0 Ps 3 (.slice a l.length c) l.length vs) (hl : TmsR w0 Ps l vs) (hn : l.length ≤ 1000000) : FnG P 87 [.slice a l.length c] w0 Ps [] (fun v Y => SlG (some 24) v vs 3 Y) := by
  refine FnG.of 8 [.tmp 2] Go.Proofs.Tryz.func87 rfl rfl rfl rfl (fun G hG => ?_)
  refine T.seq ?_
  refine T.region ?_
  refine TL.cons rfl (V1.t (V1.assign' z_C) ?_)
  refine TL.nil ?_
  refine T.seq ?_
  refine T.seq ?_
  refine T.region ?_
  refine TL.cons rfl (V1.t (V1.move' z_C) ?_)
  rcases (show a = none ∨ a ≠ none from Classical.em _) with ha | ha
  ·
    subst ha
    obtain rfl : l = [] := by rcases Nat.eq_zero_or_pos l.length with h | h; exact List.length_eq_zero_iff.1 h; (obtain ⟨b, o, h1, _⟩ := hr.at h P; cases h1)
    obtain rfl : vs = [] := hl.nil_inv
    refine TL.cons rfl (V1.t (V1.eqSlNil ty_106 rfl rfl) ?_)
    refine TL.nil ?_
    refine T.cond_t rfl ?_
    refine T.seq ?_
    refine T.region ?_
    refine TL.cons rfl (V1.t (V1.assign' z_C) ?_)
    refine TL.nil ?_
    refine T.ret ?_
    exact ⟨_, G, _, .cons (.tmp z_C) .nil, z_A, [], rfl, SlG.nil⟩
  ·
    have han : a.isNone = false := by cases a; exact absurd rfl ha; rfl
    refine TL.cons rfl (V1.t (V1.eqSlNil ty_106 rfl rfl) ?_)
    rw [han]
    refine TL.nil ?_
    refine T.cond_f rfl ?_
    refine T.skip ?_
    refine T.seq ?_
    refine T.region ?_
    refine TL.cons rfl (T1.buildNone ty_106 sz_24 zr_24 (fun b5 => ?_))
    refine TL.cons rfl (V1.t (V1.move' z_C) ?_)
    refine TL.cons rfl (T1.appendG (tg := some 24) ty_106 kd_106 sz_24 by_24 zr_24 rfl (by decide) (by decide) rfl rfl (.inr rfl) (SlG.mk (tg := some 24) (b := b5) (off := 0) (len := 0) (cap := 0) (size := 0) (k := 3) (xs := []) rfl (Nat.le_refl _) (by decide)) (hr.src _ rfl rfl _ z_B) hl.ones 2000000 (by rw [hl.len]; simp only [List.length_nil]; omega) (by decide) z_E (fun s2 Ls2 hsl2 => ?_))
    rw [List.nil_append] at hsl2
    refine TL.cons rfl (V1.t (V1.assign' z_C) ?_)
    refine TL.nil ?_
    refine T.ret ?_
    exact ⟨_, Ls2 ++ G, _, .cons (.tmp z_C) .nil, z_A, Ls2, rfl, hsl2⟩

theorem RdN.pre {C : Ctx} {L : List Blk} {a : Addr} {vs : List Value} (h : RdN C L a vs) (m : Nat) : RdN C L a (vs.take m) := fun i v hv => by
  rw [List.getElem?_take] at hv
  split at hv
  · exact h i v hv
  · cases hv
theorem RdN.dropd {C : Ctx} {L : List Blk} {b off o size : Nat} {tg : Option TypeId} {vs : List Value} (hf : Find L ⟨⟨b, tg⟩, off, vs, size⟩) : RdN C L ⟨b, off + o, none⟩ (vs.drop o) := RdN.own hf fun i v hv => by
  rw [List.getElem?_drop] at hv
  show (bif Nat.ble off (off + o + i) then vs[off + o + i - off]? else none) = some v
  rw [Nat.ble_eq_true_of_le (by omega), cond_true, show off + o + i - off = o + i by omega]; exact hv
theorem ins_place {vs ct : List Value} {i : Nat} (hi : (i + 1) * 3 ≤ vs.length) (hc : ct.length = 3) : putN (vs.take ((i + 1) * 3) ++ vs.drop (i * 3)) (i * 3) ct = vs.take (i * 3) ++ (ct ++ vs.drop (i * 3)) := by
  unfold putN
  rw [List.append_assoc, List.take_append_of_le_length (by rw [List.length_take]; omega), List.take_take, Nat.min_eq_left (by omega)]
  congr 2
  rw [hc, show i * 3 + 3 = (vs.take ((i + 1) * 3)).length by rw [List.length_take]; omega, List.drop_left]
theorem ins_grow {vs ct Z : List Value} {i : Nat} (hi : i * 3 ≤ vs.length) (hc : ct.length = 3) (hz : Z.length = vs.length - i * 3 + 3) : putN (putN (vs.take (i * 3) ++ Z) (i * 3) ct) ((i + 1) * 3) (vs.drop (i * 3)) = vs.take (i * 3) ++ (ct ++ vs.drop (i * 3)) := by
  have hl : (vs.take (i * 3)).length = i * 3 := by rw [List.length_take]; omega
  have h1 : putN (vs.take (i * 3) ++ Z) (i * 3) ct = vs.take (i * 3) ++ (ct ++ Z.drop 3) := by
    unfold putN
    rw [List.take_left' hl, hc, List.append_assoc]
    congr 2
    rw [List.drop_append, List.drop_of_length_le (by omega), List.nil_append, hl]
    congr 1; omega
  rw [h1]
  unfold putN
  have h2 : (vs.take (i * 3) ++ (ct ++ Z.drop 3)).take ((i + 1) * 3) = vs.take (i * 3) ++ ct := by
    rw [← List.append_assoc, List.take_left' (by rw [List.length_append, hl, hc]; omega)]
  have h3 : ((vs.take (i * 3)) ++ (ct ++ Z.drop 3)).drop ((i + 1) * 3 + (vs.drop (i * 3)).length) = [] := List.drop_of_length_le (by simp only [List.length_append, List.length_drop, hl, hc, hz]; omega)
  rw [h2, h3, List.append_nil, List.append_assoc]
theorem TmsR.ins {w0 : World} {Ps : List Blk} {l : List Tm} {vs : List Value} {t : Tm} {ct : List Value} (h : TmsR w0 Ps l vs) (ht : TmR w0 Ps t ct) {i : Nat} (hi : i ≤ l.length) : TmsR w0 Ps (l.take i ++ t :: l.drop i) (vs.take (i * 3) ++ (ct ++ vs.drop (i * 3))) :=
  (h.take i hi).app (TmsR.cons ht (h.drop i hi))
set_option maxRecDepth 100000 in
theorem Insert_end (w0 : World) (Ps : List Blk) {l : List Tm} {vs : List Value} (hl : TmsR w0 Ps l vs) (hn : l.length ≤ 1000000) (t : Tm) {ct : List Value} (ht : TmR w0 Ps t ct) {bv i : Nat} {s : Value} {Ls : List Blk} (hsl : SlG (some 24) s vs 3 Ls) (hi : i = l.length) : FnG P 125 [s, .int .i64 (i : Nat), .slice (some ⟨bv, 0, none⟩) 1 1] w0 (⟨⟨bv, some 24⟩, 0, ct, 3⟩ :: Ps) Ls (fun v Y => ∃ ws, SlG (some 24) v ws 3 Y ∧ TmsR w0 Ps (l.take i ++ t :: l.drop i) ws) := by
  refine FnG.of 95 [.tmp 6] Go.Proofs.Tryz.func125 rfl rfl rfl rfl (fun G hG => ?_)
  have hBV : Find G ⟨⟨bv, some 24⟩, 0, ct, 3⟩ := hG.find (List.mem_cons_self ..)
  have hG2 : Inc Ps G := fun B hB => hG B (List.mem_cons_of_mem _ hB)
  refine T.seq ?_
  refine T.region ?_
  refine TL.cons rfl (V1.t (V1.assign' z_C) ?_)
  refine TL.nil ?_
  refine T.seq ?_
  refine T.region ?_
  refine TL.cons rfl (V1.t (V1.move' z_C) ?_)
  refine TL.cons rfl (V1.t (V1.move' z_C) ?_)
  have hsl0 := hsl
  rcases hsl with ⟨rfl, rfl, rfl⟩ | ⟨b, off, len, cap, size, rfl, h1, h2, h3, rfl⟩
  ·
    obtain rfl : l = [] := List.length_eq_zero_iff.1 (by have := hl.len; simp at this; omega)
    obtain rfl : i = 0 := by simpa using hi
    refine TL.cons rfl (V1.t (V1.sliceNil ty_106 sz_24 rfl rfl rfl) ?_)
    refine TL.nil ?_
    refine T.seq ?_
    refine T.region ?_
    refine TL.cons rfl (V1.t (V1.move' z_C) ?_)
    refine TL.cons rfl (V1.t (V1.lenSl ty_22 rfl) ?_)
    refine TL.cons rfl (V1.t (V1.assign' z_C) ?_)
    refine TL.nil ?_
    refine T.seq ?_
    refine T.seq ?_
    refine T.region ?_
    refine TL.cons rfl (V1.t (V1.move' z_C) ?_)
    refine TL.cons rfl (V1.t (V1.eqI (r := false) rfl rfl (by decide)) ?_)
    refine TL.nil ?_
    refine T.cond_f rfl ?_
    refine T.skip ?_
    refine T.seq ?_
    refine T.region ?_
    refine TL.cons rfl (V1.t (V1.move' z_C) ?_)
    refine TL.cons rfl (V1.t (V1.lenSl ty_106 rfl) ?_)
    refine TL.cons rfl (V1.t (V1.assign' z_C) ?_)
    refine TL.nil ?_
    refine T.seq ?_
    refine T.seq ?_
    refine T.region ?_
    refine TL.cons rfl (V1.t (V1.move' z_C) ?_)
    refine TL.cons rfl (V1.t (V1.move' z_C) ?_)
    refine TL.cons rfl (V1.t (V1.eqI (r := true) rfl rfl (by simp)) ?_)
    refine TL.nil ?_
    refine T.cond_t rfl ?_
    refine T.seq ?_
    refine T.live (l := [(0, _), (2, _)]) (.cons z_C (.cons z_C .nil)) (fun e_ => ?_)
    refine T.region ?_
    refine TL.cons rfl (V1.t (V1.move' z_C) ?_)
    refine TL.cons rfl (V1.t (V1.move' z_C) ?_)
    refine TL.cons rfl (T1.appendG (tg := some 24) ty_106 kd_22 sz_24 by_24 zr_24 rfl (by decide) (by decide) rfl rfl (.inr rfl) hsl0 (.sl (RdN.at0 z_D) (by rw [ht.len])) ht.ones 2000000 (by rw [hl.len, ht.len]; omega) (by decide) z_E (fun s2 Ls2 hsl2 => ?_))
    refine TL.cons rfl (V1.t (V1.assign' z_C) ?_)
    refine TL.nil ?_
    refine T.ret ?_
    exact ⟨_, Ls2 ++ G, _, .cons (.tmp z_C) .nil, z_A, Ls2, rfl, _, hsl2, by first | (rw [List.take_length, List.drop_length]; exact hl.app (TmsR.one ht)) | exact TmsR.one ht⟩
  ·
    obtain rfl : len = l.length := by have := hl.len; omega
    subst hi
    refine TL.cons rfl (V1.t (V1.sliceAny l.length l.length ty_106 sz_24 rfl rfl rfl (Nat.le_refl _) (by omega)) ?_)
    refine TL.nil ?_
    refine T.seq ?_
    refine T.region ?_
    refine TL.cons rfl (V1.t (V1.move' z_C) ?_)
    refine TL.cons rfl (V1.t (V1.lenSl ty_22 rfl) ?_)
    refine TL.cons rfl (V1.t (V1.assign' z_C) ?_)
    refine TL.nil ?_
    refine T.seq ?_
    refine T.seq ?_
    refine T.region ?_
    refine TL.cons rfl (V1.t (V1.move' z_C) ?_)
    refine TL.cons rfl (V1.t (V1.eqI (r := false) rfl rfl (by decide)) ?_)
    refine TL.nil ?_
    refine T.cond_f rfl ?_
    refine T.skip ?_
    refine T.seq ?_
    refine T.region ?_
    refine TL.cons rfl (V1.t (V1.move' z_C) ?_)
    refine TL.cons rfl (V1.t (V1.lenSl ty_106 rfl) ?_)
    refine TL.cons rfl (V1.t (V1.assign' z_C) ?_)
    refine TL.nil ?_
    refine T.seq ?_
    refine T.seq ?_
    refine T.region ?_
    refine TL.cons rfl (V1.t (V1.move' z_C) ?_)
    refine TL.cons rfl (V1.t (V1.move' z_C) ?_)
    refine TL.cons rfl (V1.t (V1.eqI (r := true) rfl rfl (by simp)) ?_)
    refine TL.nil ?_
    refine T.cond_t rfl ?_
    refine T.seq ?_
    refine T.live (l := [(0, _), (2, _)]) (.cons z_C (.cons z_C .nil)) (fun e_ => ?_)
    refine T.region ?_
    refine TL.cons rfl (V1.t (V1.move' z_C) ?_)
    refine TL.cons rfl (V1.t (V1.move' z_C) ?_)
    refine TL.cons rfl (T1.appendG (tg := some 24) ty_106 kd_22 sz_24 by_24 zr_24 rfl (by decide) (by decide) rfl rfl (.inr rfl) hsl0 (.sl (RdN.at0 z_D) (by rw [ht.len])) ht.ones 2000000 (by rw [hl.len, ht.len]; omega) (by decide) z_E (fun s2 Ls2 hsl2 => ?_))
    refine TL.cons rfl (V1.t (V1.assign' z_C) ?_)
    refine TL.nil ?_
    refine T.ret ?_
    exact ⟨_, Ls2 ++ G, _, .cons (.tmp z_C) .nil, z_A, Ls2, rfl, _, hsl2, by first | (rw [List.take_length, List.drop_length]; exact hl.app (TmsR.one ht)) | exact TmsR.one ht⟩

set_option maxRecDepth 100000 in
set_option maxHeartbeats 2000000 in
theorem Insert_mid (w0 : World) (Ps : List Blk) {l : List Tm} {vs : List Value} (hl : TmsR w0 Ps l vs) (hn : l.length ≤ 1000000) (t : Tm) {ct : List Value} (ht : TmR w0 Ps t ct) {bv i : Nat} {b off cap size : Nat} (hcap : l.length ≤ cap) (hsize : off + cap * 3 ≤ size) (hi : i < l.length) : FnG P 125 [.slice (some ⟨b, off, none⟩) l.length cap, .int .i64 (i : Nat), .slice (some ⟨bv, 0, none⟩) 1 1] w0 (⟨⟨bv, some 24⟩, 0, ct, 3⟩ :: Ps) [(⟨⟨b, some 24⟩, off, vs, size⟩ : Blk)] (fun v Y => ∃ ws, SlG (some 24) v ws 3 Y ∧ TmsR w0 Ps (l.take i ++ t :: l.drop i) ws) := by
  have hzl : (List.replicate (l.length + 1 - i) [Value.int .i64 0, Value.string ⟨#[]⟩, Value.slice none 0 0]).flatten.length = (l.length + 1 - i) * 3 := by simp
  have hgl : (vs.take (i * 3) ++ (List.replicate (l.length + 1 - i) [Value.int .i64 0, Value.string ⟨#[]⟩, Value.slice none 0 0]).flatten).length = (l.length + 1) * 3 := by rw [List.length_append, hzl, List.length_take, hl.len]; omega
  refine FnG.of 95 [.tmp 6] Go.Proofs.Tryz.func125 rfl rfl rfl rfl (fun G hG => ?_)
  have hBV : Find G ⟨⟨bv, some 24⟩, 0, ct, 3⟩ := hG.find (List.mem_cons_self ..)
  have hG2 : Inc Ps G := fun B hB => hG B (List.mem_cons_of_mem _ hB)
  simp only [List.cons_append, List.nil_append]
  refine T.have (fun w hs => ne_of_find hs hBV) (fun hne => ?_)
  replace hne : b ≠ bv := hne
  refine T.seq ?_
  refine T.region ?_
  refine TL.cons rfl (V1.t (V1.assign' z_C) ?_)
  refine TL.nil ?_
  refine T.seq ?_
  refine T.region ?_
  refine TL.cons rfl (V1.t (V1.move' z_C) ?_)
  refine TL.cons rfl (V1.t (V1.move' z_C) ?_)
  have hvl := hl.len
  have hctl := ht.len
  rcases Nat.lt_or_ge cap (l.length + 1) with hc | hc
  ·
    refine TL.cons rfl (V1.t (V1.sliceAny i l.length ty_106 sz_24 rfl rfl rfl (by omega) (by omega)) ?_)
    refine TL.nil ?_
    refine T.seq ?_
    refine T.region ?_
    refine TL.cons rfl (V1.t (V1.move' z_C) ?_)
    refine TL.cons rfl (V1.t (V1.lenSl ty_22 rfl) ?_)
    refine TL.cons rfl (V1.t (V1.assign' z_C) ?_)
    refine TL.nil ?_
    refine T.seq ?_
    refine T.seq ?_
    refine T.region ?_
    refine TL.cons rfl (V1.t (V1.move' z_C) ?_)
    refine TL.cons rfl (V1.t (V1.eqI (r := false) rfl rfl (by decide)) ?_)
    refine TL.nil ?_
    refine T.cond_f rfl ?_
    refine T.skip ?_
    refine T.seq ?_
    refine T.region ?_
    refine TL.cons rfl (V1.t (V1.move' z_C) ?_)
    refine TL.cons rfl (V1.t (V1.lenSl ty_106 rfl) ?_)
    refine TL.cons rfl (V1.t (V1.assign' z_C) ?_)
    refine TL.nil ?_
    refine T.seq ?_
    refine T.seq ?_
    refine T.region ?_
    refine TL.cons rfl (V1.t (V1.move' z_C) ?_)
    refine TL.cons rfl (V1.t (V1.move' z_C) ?_)
    refine TL.cons rfl (V1.t (V1.eqI (r := false) rfl rfl (decide_eq_false (by omega))) ?_)
    refine TL.nil ?_
    refine T.cond_f rfl ?_
    refine T.skip ?_
    refine T.seq ?_
    refine T.seq ?_
    refine T.live (l := [(0, _), (1, _), (2, _), (7, _), (8, _)]) (.cons z_C (.cons z_C (.cons z_C (.cons z_C (.cons z_C .nil))))) (fun e_ => ?_)
    refine T.region ?_
    refine TL.cons rfl (V1.t (V1.move' z_C) ?_)
    refine TL.cons rfl (V1.t (V1.move' z_C) ?_)
    refine TL.cons rfl (V1.t (V1.add (c := ((l.length + 1 : Nat) : Int)) rfl rfl (by show IntKind.i64.wrap ((l.length : Int) + 1) = _; rw [wrap_i64 _ (by omega) (by omega)]; omega)) ?_)
    refine TL.cons rfl (V1.t (V1.move' z_C) ?_)
    refine TL.cons rfl (V1.t (V1.capSl ty_106 rfl) ?_)
    refine TL.cons rfl (V1.t (V1.gtI (r := true) rfl rfl (decide_eq_true (by omega))) ?_)
    refine TL.nil ?_
    refine T.cond_t rfl ?_
    refine T.seq ?_
    refine T.region ?_
    refine TL.cons rfl (V1.t (V1.move' z_C) ?_)
    refine TL.cons rfl (V1.t (V1.move' z_C) ?_)
    refine TL.cons rfl (V1.t (V1.sliceK (0) (i) ty_106 sz_24 rfl rfl rfl (by omega) (by omega) (by omega)) ?_)
    refine TL.cons rfl (V1.t (V1.move' z_C) ?_)
    refine TL.cons rfl (V1.t (V1.move' z_C) ?_)
    refine TL.cons rfl (V1.t (V1.add (c := ((l.length + 1 : Nat) : Int)) rfl rfl (by show IntKind.i64.wrap ((l.length : Int) + 1) = _; rw [wrap_i64 _ (by omega) (by omega)]; omega)) ?_)
    refine TL.cons rfl (V1.t (V1.move' z_C) ?_)
    refine TL.cons rfl (V1.t (V1.sub (c := ((l.length + 1 - i : Nat) : Int)) rfl rfl (by rw [wrap_i64 _ (by omega) (by omega)]; omega)) ?_)
    refine TL.cons rfl (T1.appendZK (zl := [Value.int .i64 0, Value.string ⟨#[]⟩, Value.slice none 0 0]) (n := l.length + 1 - i) (old := vs.take (i * 3)) ty_106 ty_3 sz_24 (by decide) by_24 zr_24 (by decide) rfl rfl ((RdN.at0 (show Find _ ⟨⟨b, some 24⟩, off + 0 * 3, vs, size⟩ from z_D)).pre _) (by rw [List.length_take]; show _ = i * 3; omega) (by omega) (by omega) (by omega) (by omega) (fun b9 cap9 hcap9 => ?_))
    refine TL.cons rfl (V1.t (V1.assign' z_C) ?_)
    refine TL.nil ?_
    refine T.seq ?_
    refine T.live (l := [(0, _), (1, _), (2, _), (7, _), (9, _)]) (.cons z_C (.cons z_C (.cons z_C (.cons z_C (.cons z_C .nil))))) (fun e_ => ?_)
    refine T.region ?_
    refine TL.cons rfl (V1.t (V1.move' z_C) ?_)
    refine TL.cons rfl (V1.t (V1.move' z_C) ?_)
    refine TL.cons rfl (V1.t (V1.sliceK (i) (i + (l.length + 1 - i)) ty_106 sz_24 rfl rfl rfl (by omega) (by omega) (by omega)) ?_)
    refine TL.cons rfl (V1.t (V1.move' z_C) ?_)
    refine TL.cons rfl (T1.copy (k := 3) (n := 1) (new := ct) (cells := (vs.take (i * 3) ++ (List.replicate (l.length + 1 - i) [Value.int .i64 0, Value.string ⟨#[]⟩, Value.slice none 0 0]).flatten)) (off := 0) ty_106 sz_24 rfl rfl 1 (by omega) (fun _ => rfl) (fun w hs => firstCells_rd (RdN.at0 z_D) (by rw [hctl]) hs) hctl ht.ones (Nat.zero_le _) (by rw [hgl, hctl]; omega) z_G ?_)
    obtain ⟨c1, hc1⟩ : ∃ c1, c1 = putN (vs.take (i * 3) ++ (List.replicate (l.length + 1 - i) [Value.int .i64 0, Value.string ⟨#[]⟩, Value.slice none 0 0]).flatten) (0 + i * 3 - 0) ct := ⟨_, rfl⟩
    rw [← hc1]
    have hc1l : c1.length = (l.length + 1) * 3 := by rw [hc1, putN_length (by rw [hgl, hctl]; omega), hgl]
    refine TL.nil ?_
    refine T.seq ?_
    refine T.drawTail 8 mixed (by decide +kernel) (by rfl) (by decide +kernel) rfl ?_
    refine Det.cons 0 (ins := [(9, _)]) (.old z_C (by decide +kernel) .nil) (fun e_ => .inl ⟨rfl, V1.t (V1.move' z_C) ⟨rfl, rfl⟩⟩) ?_
    refine Det.cons 1 (ins := [(1, _)]) (.old z_C (by decide +kernel) .nil) (fun e_ => .inl ⟨rfl, V1.t (V1.move' z_C) ⟨rfl, rfl⟩⟩) ?_
    refine Det.cons 2 (ins := [(7, _)]) (.old z_C (by decide +kernel) .nil) (fun e_ => .inl ⟨rfl, V1.t (V1.move' z_C) ⟨rfl, rfl⟩⟩) ?_
    refine Det.cons 3 (ins := [(47, _), (48, _)]) (.new 1 1 (by decide +kernel) rfl rfl (.new 2 0 (by decide +kernel) rfl rfl .nil)) (fun e_ => .inl ⟨rfl, V1.t (V1.add (c := ((i + 1 : Nat) : Int)) rfl rfl (by rw [wrap_i64 _ (by omega) (by omega)]; omega)) ⟨rfl, rfl⟩⟩) ?_
    refine Det.cons 4 (ins := [(46, _), (49, _)]) (.new 0 3 (by decide +kernel) rfl rfl (.new 3 0 (by decide +kernel) rfl rfl .nil)) (fun e_ => .inl ⟨rfl, V1.t (V1.sliceK (i + 1) (i + (l.length + 1 - i)) ty_106 sz_24 rfl rfl rfl (by omega) (by omega) (by omega)) ⟨rfl, rfl⟩⟩) ?_
    refine Det.cons 5 (ins := [(0, _)]) (.old z_C (by decide +kernel) .nil) (fun e_ => .inl ⟨rfl, V1.t (V1.move' z_C) ⟨rfl, rfl⟩⟩) ?_
    refine Det.cons 6 (ins := [(1, _)]) (.old z_C (by decide +kernel) .nil) (fun e_ => .inl ⟨rfl, V1.t (V1.move' z_C) ⟨rfl, rfl⟩⟩) ?_
    refine Det.cons 7 (ins := [(51, _), (52, _)]) (.new 5 1 (by decide +kernel) rfl rfl (.new 6 0 (by decide +kernel) rfl rfl .nil)) (fun e_ => .inl ⟨rfl, V1.t (V1.sliceK (i) (l.length) ty_106 sz_24 rfl rfl rfl (by omega) (by omega) (by omega)) ⟨rfl, rfl⟩⟩) ?_
    refine Det.nil 8 (l := [(9, _), (50, _), (53, _)]) (.old z_C (by decide +kernel) (.new 4 3 (by decide +kernel) rfl rfl (.new 7 0 (by decide +kernel) rfl rfl .nil))) (fun e_ => ?_)
    refine (show TU _ _ _ 1 _ _ _ from ?_)
    refine TU.one 8 (by decide +kernel) rfl rfl (T1.copy (k := 3) (n := l.length - i) (new := vs.drop (i * 3)) (cells := c1) (off := 0) ty_106 sz_24 rfl rfl (l.length - i) (by omega) (fun _ => rfl) (fun w hs => firstCells_rd (RdN.dropd z_D) (by rw [List.length_drop]; omega) hs) (by rw [List.length_drop]; omega) (fun u hu => hl.ones u (List.mem_of_mem_drop hu)) (Nat.zero_le _) (by rw [hc1l, List.length_drop]; omega) z_G ?_)
    have hfin := ins_grow (vs := vs) (ct := ct) (Z := (List.replicate (l.length + 1 - i) [Value.int .i64 0, Value.string ⟨#[]⟩, Value.slice none 0 0]).flatten) (i := i) (by omega) hctl (by rw [hzl]; omega)
    rw [hc1, show 0 + i * 3 - 0 = i * 3 by omega, show 0 + (i + 1) * 3 - 0 = (i + 1) * 3 by omega, hfin]
    refine TU.done (by decide +kernel) ?_
    refine T.seq ?_
    refine T.region ?_
    refine TL.cons rfl (V1.t (V1.move' z_C) ?_)
    refine TL.cons rfl (V1.t (V1.assign' z_C) ?_)
    refine TL.nil ?_
    refine T.ret ?_
    have hI := hl.ins ht (i := i) (by omega)
    have hIl : (vs.take (i * 3) ++ (ct ++ vs.drop (i * 3))).length = (l.length + 1) * 3 := by rw [List.length_append, List.length_append, List.length_take, List.length_drop]; omega
    exact ⟨[.slice (some ⟨b9, 0, none⟩) (i + (l.length + 1 - i)) cap9], ⟨⟨b9, some 24⟩, 0, vs.take (i * 3) ++ (ct ++ vs.drop (i * 3)), cap9 * 3⟩ :: G, _, .cons (.tmp z_C) .nil, z_A, [⟨⟨b9, some 24⟩, 0, vs.take (i * 3) ++ (ct ++ vs.drop (i * 3)), cap9 * 3⟩], rfl, _, SlG.mk (hIl.trans (by omega)) (by omega) (by omega), hI⟩
  ·
    refine TL.cons rfl (V1.t (V1.sliceAny i l.length ty_106 sz_24 rfl rfl rfl (by omega) (by omega)) ?_)
    refine TL.nil ?_
    refine T.seq ?_
    refine T.region ?_
    refine TL.cons rfl (V1.t (V1.move' z_C) ?_)
    refine TL.cons rfl (V1.t (V1.lenSl ty_22 rfl) ?_)
    refine TL.cons rfl (V1.t (V1.assign' z_C) ?_)
    refine TL.nil ?_
    refine T.seq ?_
    refine T.seq ?_
    refine T.region ?_
    refine TL.cons rfl (V1.t (V1.move' z_C) ?_)
    refine TL.cons rfl (V1.t (V1.eqI (r := false) rfl rfl (by decide)) ?_)
    refine TL.nil ?_
    refine T.cond_f rfl ?_
    refine T.skip ?_
    refine T.seq ?_
    refine T.region ?_
    refine TL.cons rfl (V1.t (V1.move' z_C) ?_)
    refine TL.cons rfl (V1.t (V1.lenSl ty_106 rfl) ?_)
    refine TL.cons rfl (V1.t (V1.assign' z_C) ?_)
    refine TL.nil ?_
    refine T.seq ?_
    refine T.seq ?_
    refine T.region ?_
    refine TL.cons rfl (V1.t (V1.move' z_C) ?_)
    refine TL.cons rfl (V1.t (V1.move' z_C) ?_)
    refine TL.cons rfl (V1.t (V1.eqI (r := false) rfl rfl (decide_eq_false (by omega))) ?_)
    refine TL.nil ?_
    refine T.cond_f rfl ?_
    refine T.skip ?_
    refine T.seq ?_
    refine T.seq ?_
    refine T.live (l := [(0, _), (1, _), (2, _), (7, _), (8, _)]) (.cons z_C (.cons z_C (.cons z_C (.cons z_C (.cons z_C .nil))))) (fun e_ => ?_)
    refine T.region ?_
    refine TL.cons rfl (V1.t (V1.move' z_C) ?_)
    refine TL.cons rfl (V1.t (V1.move' z_C) ?_)
    refine TL.cons rfl (V1.t (V1.add (c := ((l.length + 1 : Nat) : Int)) rfl rfl (by show IntKind.i64.wrap ((l.length : Int) + 1) = _; rw [wrap_i64 _ (by omega) (by omega)]; omega)) ?_)
    refine TL.cons rfl (V1.t (V1.move' z_C) ?_)
    refine TL.cons rfl (V1.t (V1.capSl ty_106 rfl) ?_)
    refine TL.cons rfl (V1.t (V1.gtI (r := false) rfl rfl (decide_eq_false (by omega))) ?_)
    refine TL.nil ?_
    refine T.cond_f rfl ?_
    refine T.skip ?_
    refine T.seq ?_
    refine T.region ?_
    refine TL.cons rfl (V1.t (V1.move' z_C) ?_)
    refine TL.cons rfl (V1.t (V1.move' z_C) ?_)
    refine TL.cons rfl (V1.t (V1.move' z_C) ?_)
    refine TL.cons rfl (V1.t (V1.add (c := ((l.length + 1 : Nat) : Int)) rfl rfl (by show IntKind.i64.wrap ((l.length : Int) + 1) = _; rw [wrap_i64 _ (by omega) (by omega)]; omega)) ?_)
    refine TL.cons rfl (V1.t (V1.sliceK (0) (l.length + 1) ty_106 sz_24 rfl rfl rfl (by omega) (by omega) (by omega)) ?_)
    refine TL.cons rfl (V1.t (V1.assign' z_C) ?_)
    refine TL.nil ?_
    refine T.seq ?_
    refine T.seq ?_
    refine T.region ?_
    refine TL.cons rfl (V1.t (V1.move' z_C) ?_)
    refine TL.cons rfl (V1.t (V1.move' z_C) ?_)
    refine TL.cons rfl (V1.t (V1.move' z_C) ?_)
    refine TL.cons rfl (V1.t (V1.move' z_C) ?_)
    refine TL.cons rfl (V1.t (V1.add (c := ((i + 1 : Nat) : Int)) rfl rfl (by rw [wrap_i64 _ (by omega) (by omega)]; omega)) ?_)
    refine TL.cons rfl (V1.t (V1.sliceK (i + 1) (l.length + 1) ty_106 sz_24 rfl rfl rfl (by omega) (by omega) (by omega)) ?_)
    refine TL.cons rfl (V1.t (V1.overlaps (r := 4) (Ea := 24) (fn := Go.Proofs.Tryz.f148) Go.Proofs.Tryz.func148 (by kernel_rfl) (by kernel_rfl) (by kernel_rfl) (by kernel_rfl) ty_22 sz_24 rfl rfl (show Find _ ⟨⟨bv, some 24⟩, 0, ct, 3⟩ from z_D) (show Find _ (⟨⟨b, some 24⟩, off, vs, size⟩ : Blk) from z_D) (fun h => hne h.symm) (by omega)) ?_)
    refine TL.cons rfl (V1.t (V1.not rfl rfl) ?_)
    refine TL.nil ?_
    refine T.cond_t rfl ?_
    refine T.seq ?_
    refine T.live (l := [(0, _), (1, _), (2, _), (7, _)]) (.cons z_C (.cons z_C (.cons z_C (.cons z_C .nil)))) (fun e_ => ?_)
    refine T.drawTail 8 mixed (by decide +kernel) (by rfl) (by decide +kernel) rfl ?_
    refine Det.cons 0 (ins := [(0, _)]) (.old z_C (by decide +kernel) .nil) (fun e_ => .inl ⟨rfl, V1.t (V1.move' z_C) ⟨rfl, rfl⟩⟩) ?_
    refine Det.cons 1 (ins := [(1, _)]) (.old z_C (by decide +kernel) .nil) (fun e_ => .inl ⟨rfl, V1.t (V1.move' z_C) ⟨rfl, rfl⟩⟩) ?_
    refine Det.cons 2 (ins := [(7, _)]) (.old z_C (by decide +kernel) .nil) (fun e_ => .inl ⟨rfl, V1.t (V1.move' z_C) ⟨rfl, rfl⟩⟩) ?_
    refine Det.cons 3 (ins := [(70, _), (71, _)]) (.new 1 1 (by decide +kernel) rfl rfl (.new 2 0 (by decide +kernel) rfl rfl .nil)) (fun e_ => .inl ⟨rfl, V1.t (V1.add (c := ((i + 1 : Nat) : Int)) rfl rfl (by rw [wrap_i64 _ (by omega) (by omega)]; omega)) ⟨rfl, rfl⟩⟩) ?_
    refine Det.cons 4 (ins := [(69, _), (72, _)]) (.new 0 3 (by decide +kernel) rfl rfl (.new 3 0 (by decide +kernel) rfl rfl .nil)) (fun e_ => .inl ⟨rfl, V1.t (V1.sliceK (i + 1) (l.length + 1) ty_106 sz_24 rfl rfl rfl (by omega) (by omega) (by omega)) ⟨rfl, rfl⟩⟩) ?_
    refine Det.cons 5 (ins := [(0, _)]) (.old z_C (by decide +kernel) .nil) (fun e_ => .inl ⟨rfl, V1.t (V1.move' z_C) ⟨rfl, rfl⟩⟩) ?_
    refine Det.cons 6 (ins := [(1, _)]) (.old z_C (by decide +kernel) .nil) (fun e_ => .inl ⟨rfl, V1.t (V1.move' z_C) ⟨rfl, rfl⟩⟩) ?_
    refine Det.cons 7 (ins := [(74, _), (75, _)]) (.new 5 1 (by decide +kernel) rfl rfl (.new 6 0 (by decide +kernel) rfl rfl .nil)) (fun e_ => .inl ⟨rfl, V1.t (V1.sliceK (i) (l.length + 1) ty_106 sz_24 rfl rfl rfl (by omega) (by omega) (by omega)) ⟨rfl, rfl⟩⟩) ?_
    refine Det.nil 8 (l := [(0, _), (1, _), (2, _), (73, _), (76, _)]) (.old z_C (by decide +kernel) (.old z_C (by decide +kernel) (.old z_C (by decide +kernel) (.new 4 3 (by decide +kernel) rfl rfl (.new 7 0 (by decide +kernel) rfl rfl .nil))))) (fun e_ => ?_)
    refine (show TU _ _ _ 1 _ _ _ from ?_)
    refine TU.one 8 (by decide +kernel) rfl rfl (T1.copyX (k := 3) (n := l.length + 1 - i) (new := vs.drop (i * 3)) (cells := vs) (off := off) (size := size) ty_106 sz_24 rfl rfl (l.length - i) (by omega) (fun _ => rfl) (fun w hs => firstCells_rd (RdN.dropd (show Find _ (⟨⟨b, some 24⟩, off, vs, size⟩ : Blk) from z_D)) (by rw [List.length_drop]; omega) hs) (fun u hu => hl.ones u (List.mem_of_mem_drop hu)) (by omega) (by omega) (by rw [List.length_drop]; omega) (by rw [List.length_drop]; omega) z_G ?_)
    rw [show off + 0 * 3 + (i + 1) * 3 - off = (i + 1) * 3 by omega]
    have hpl : (vs.take ((i + 1) * 3) ++ vs.drop (i * 3)).length = (l.length + 1) * 3 := by rw [List.length_append, List.length_take, List.length_drop]; omega
    refine TU.done (by decide +kernel) ?_
    refine T.seq ?_
    refine T.region ?_
    refine TL.cons rfl (V1.t (V1.move' z_C) ?_)
    refine TL.cons rfl (V1.t (V1.move' z_C) ?_)
    refine TL.cons rfl (V1.t (V1.sliceK (i) (l.length + 1) ty_106 sz_24 rfl rfl rfl (by omega) (by omega) (by omega)) ?_)
    refine TL.cons rfl (V1.t (V1.move' z_C) ?_)
    refine TL.cons rfl (T1.copy (k := 3) (n := 1) (new := ct) (cells := vs.take ((i + 1) * 3) ++ vs.drop (i * 3)) (off := off) (size := size) ty_106 sz_24 rfl rfl 1 (by omega) (fun _ => rfl) (fun w hs => firstCells_rd (RdN.at0 z_D) (by rw [hctl]) hs) hctl ht.ones (by omega) (by rw [hpl, hctl]; omega) z_G ?_)
    rw [show off + 0 * 3 + i * 3 - off = i * 3 by omega, ins_place (vs := vs) (ct := ct) (i := i) (by omega) hctl]
    refine TL.nil ?_
    refine T.seq ?_
    refine T.region ?_
    refine TL.cons rfl (V1.t (V1.move' z_C) ?_)
    refine TL.cons rfl (V1.t (V1.assign' z_C) ?_)
    refine TL.nil ?_
    refine T.ret ?_
    have hI := hl.ins ht (i := i) (by omega)
    have hIl : (vs.take (i * 3) ++ (ct ++ vs.drop (i * 3))).length = (l.length + 1) * 3 := by rw [List.length_append, List.length_append, List.length_take, List.length_drop]; omega
    exact ⟨[.slice (some ⟨b, off, none⟩) (l.length + 1) cap], ⟨⟨b, some 24⟩, off, vs.take (i * 3) ++ (ct ++ vs.drop (i * 3)), size⟩ :: G, _, .cons (.tmp z_C) .nil, z_A, [⟨⟨b, some 24⟩, off, vs.take (i * 3) ++ (ct ++ vs.drop (i * 3)), size⟩], rfl, _, SlG.mk (hIl.trans (by omega)) (by omega) (by omega), hI⟩

end Go.Proofs.YtlpkcbkflfbclaaGreatDoor.S
