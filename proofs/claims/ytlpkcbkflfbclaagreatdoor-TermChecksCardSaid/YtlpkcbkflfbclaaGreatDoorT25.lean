/- The parts of a term, as the document has them. -/
import Derived.Test.YtlpkcbkflfbclaaGreatDoorT23
namespace Go.Proofs.YtlpkcbkflfbclaaGreatDoor.S
open Go.RowKit

theorem SlG.none0 {E : TypeId} (b : Nat) : SlG (some E) (.slice (some ⟨b, 0, none⟩) 0 0) [] 3 [⟨⟨b, some E⟩, 0, [], 0⟩] := .inr ⟨b, 0, 0, 0, 0, rfl, rfl, Nat.le_refl _, Nat.le_refl _, rfl⟩
theorem take_all {p : Tm → Prop} {ts : List Tm} {i : Nat} {x : Tm} (hx : ts[i]? = some x) (h : ∀ y ∈ ts.take i, p y) (h2 : p x) : ∀ y ∈ ts.take (i + 1), p y := by
  intro y hy
  rw [List.take_add_one, hx] at hy
  rcases List.mem_append.1 hy with hy | hy
  · exact h y hy
  · simp at hy; subst hy; exact h2
theorem RdN.take {C : Ctx} {L : List Blk} {a : Addr} {vs : List Value} (h : RdN C L a vs) (m : Nat) : RdN C L a (vs.take m) := fun i v hv => h i v (by rw [List.getElem?_take] at hv; split at hv; exact hv; cases hv)
theorem RdN.drop {C : Ctx} {L : List Blk} {b o m : Nat} {vs : List Value} (h : RdN C L ⟨b, o, none⟩ vs) : RdN C L ⟨b, o + m, none⟩ (vs.drop m) := fun i v hv => by
  rw [List.getElem?_drop] at hv
  have := h (m + i) v hv
  show Rd C L ⟨b, o + m + i, none⟩ v
  rw [Nat.add_assoc]; exact this
theorem Src.front {C : Ctx} {L : List Blk} {b o n cap m : Nat} {vs : List Value} (h : RdN C L ⟨b, o, none⟩ vs) (hl : vs.length = n * 3) (hm : m ≤ n) : Src C L 3 (.slice (some ⟨b, if cap = 0 then o else o + 0 * 3, none⟩) (m - 0) (cap - 0)) m (vs.take (m * 3)) := by
  rw [show (if cap = 0 then o else o + 0 * 3) = o by split <;> omega, Nat.sub_zero]
  exact .sl (h.take _) (by rw [List.length_take]; omega)
theorem Src.back {C : Ctx} {L : List Blk} {b o n cap m : Nat} {vs : List Value} (h : RdN C L ⟨b, o, none⟩ vs) (hl : vs.length = n * 3) (hm : m ≤ n) (hc : n ≤ cap) : Src C L 3 (.slice (some ⟨b, if cap = m then o else o + m * 3, none⟩) (n - m) (cap - m)) (n - m) (vs.drop (m * 3)) := by
  by_cases he : n = m
  · subst he
    rw [Nat.sub_self, List.drop_of_length_le (by omega)]
    exact .odd
  · rw [if_neg (by omega)]
    exact .sl h.drop (by rw [List.length_drop]; omega)
/-- How far one has come: the queue, its place, the parts so far. -/
structure PtInv (x : Tm) (q : List Tm) (i : Nat) (us : List Tm) : Prop where
  le : i ≤ q.length
  sz : i + tsize (q.drop i) = x.size
  sub : ∀ y ∈ q, y ∈ subs x
  self : x ∈ q
  cl : ∀ y ∈ q.take i, ∀ a ∈ y.args, a ∈ q
  srt : Srt us
  mem : ∀ y, y ∈ us ↔ y ∈ q.take i
theorem PtInv.start (x : Tm) : PtInv x [x] 0 [] := ⟨by simp, by simp [tsize], fun y hy => by rw [List.mem_singleton] at hy; subst hy; exact subs_self _, by simp, fun y hy => by simp at hy, List.Pairwise.nil, fun y => by simp⟩
theorem PtInv.qlen {x : Tm} {q us : List Tm} {i : Nat} (h : PtInv x q i us) : q.length ≤ x.size ∧ us.length ≤ i := by
  have h1 := tsize_len (q.drop i)
  rw [List.length_drop] at h1
  have h2 := h.sz
  have h3 := nodup_le h.srt.nodup (fun y hy => (h.mem y).1 hy)
  rw [List.length_take] at h3
  have := h.le
  omega
theorem PtInv.next {x y : Tm} {q us us' : List Tm} {i : Nat} (h : PtInv x q i us) (hy : q[i]? = some y) (hs : Srt us') (hm : ∀ z, z ∈ us' ↔ z ∈ us ∨ z = y) : PtInv x (q ++ y.args) (i + 1) us' := by
  have hi := (List.getElem?_eq_some_iff.1 hy).1
  have hyq : q[i] = y := by rw [List.getElem?_eq_getElem hi] at hy; exact Option.some.inj hy
  have htk : (q ++ y.args).take (i + 1) = q.take i ++ [y] := by rw [List.take_append_of_le_length (by omega), List.take_add_one, hy]; rfl
  have hmy := List.mem_of_getElem? hy
  refine ⟨by rw [List.length_append]; omega, ?_, fun z hz => ?_, List.mem_append_left _ h.self, fun z hz a ha => ?_, hs, fun z => ?_⟩
  · rw [List.drop_append_of_le_length (by omega), tsize_app]
    have := h.sz
    rw [List.drop_eq_getElem_cons hi, hyq, tsize] at this
    have hsz : y.size = tsize y.args + 1 := by cases y; rfl
    omega
  · rcases List.mem_append.1 hz with hz | hz
    · exact h.sub z hz
    · exact subs_args (h.sub y hmy) hz
  · rw [htk] at hz
    rcases List.mem_append.1 hz with hz | hz
    · exact List.mem_append_left _ (h.cl z hz a ha)
    · rw [List.mem_singleton] at hz; subst hz; exact List.mem_append_right _ ha
  · rw [htk, hm, h.mem, List.mem_append, List.mem_singleton]
theorem PtInv.done {x : Tm} {q us : List Tm} (h : PtInv x q q.length us) : ∀ y, y ∈ us ↔ y ∈ subs x := by
  have hm := h.mem
  have hc := h.cl
  rw [List.take_length] at hm hc
  have key : ∀ t : Tm, t ∈ q → ∀ y ∈ subs t, y ∈ q := by
    intro t
    induction t using Tm.ind with
    | h k n bs ih =>
      intro ht y hy
      rcases mem_subs.1 hy with rfl | ⟨a, ha, hy⟩
      · exact ht
      · exact ih a ha (hc _ ht a ha) y hy
  intro y
  rw [hm]
  exact ⟨h.sub y, key x h.self y⟩
theorem pt_case (us : List Tm) (m : Nat) (y : Tm) (hm : m ≤ us.length) : m = us.length ∨ (∃ z, us[m]? = some z ∧ cmpT z y < 0) ∨ (∃ z, us[m]? = some z ∧ z = y) ∨ ∃ z, us[m]? = some z ∧ cmpT y z < 0 := by
  rcases Nat.lt_or_ge m us.length with h | h
  · have hz := List.getElem?_eq_getElem h
    by_cases he : us[m] = y
    · exact .inr (.inr (.inl ⟨_, hz, he⟩))
    · rcases cmpT_ne he with h1 | h1
      · exact .inr (.inl ⟨_, hz, h1⟩)
      · exact .inr (.inr (.inr ⟨_, hz, h1⟩))
  · exact .inl (by omega)
theorem ins_ok {us : List Tm} {m : Nat} {y : Tm} (hs : Srt us) (h1 : ∀ z ∈ us.take m, cmpT z y < 0) (h2 : m = us.length ∨ ∃ u, us[m]? = some u ∧ cmpT y u < 0) : Srt (us.take m ++ y :: us.drop m) ∧ ∀ z, z ∈ us.take m ++ y :: us.drop m ↔ z ∈ us ∨ z = y := by
  refine ⟨hs.ins h1 fun z hz => ?_, fun z => ?_⟩
  · rcases h2 with rfl | ⟨u, hu, h2⟩
    · simp at hz
    · have hl := (List.getElem?_eq_some_iff.1 hu).1
      have hue : us[m] = u := by rw [List.getElem?_eq_getElem hl] at hu; exact Option.some.inj hu
      rw [List.drop_eq_getElem_cons hl, hue] at hz
      rcases List.mem_cons.1 hz with rfl | hz
      · exact h2
      · have hd : Srt (us.drop m) := List.Pairwise.sublist (List.drop_sublist _ _) hs
        rw [List.drop_eq_getElem_cons hl, hue] at hd
        exact cmpT_trans h2 ((List.pairwise_cons.1 hd).1 z hz)
  · conv => rhs; rw [← List.take_append_drop m us]
    simp only [List.mem_append, List.mem_cons]
    grind

set_option maxRecDepth 100000 in
set_option maxHeartbeats 8000000 in
theorem RParts_any (w0 : World) (Ps : List Blk) (x0 : Tm) (cx0 : List Value) (hx0_ : TmR w0 Ps x0 cx0) (hB : x0.size ≤ 1000) : FnG P 20 [.agg cx0.toArray] w0 Ps [] (fun v Y => ∃ us xs, Srt us ∧ (∀ y, y ∈ us ↔ y ∈ subs x0) ∧ SlG (some 29) v xs 3 Y ∧ TmsR w0 Ps us xs) := by
  refine FnG.of 68 [.tmp 2] Go.Proofs.Tryz.func20 rfl rfl rfl rfl (fun G hG => ?_)
  refine T.seq ?_
  refine T.region ?_
  refine TL.cons rfl (T1.boxN 3 rfl hx0_.len (fun b1 => ?_))
  refine TL.cons rfl (V1.t (V1.assign' z_D) ?_)
  refine TL.nil ?_
  refine T.seq ?_
  refine T.region ?_
  refine TL.cons rfl (V1.t (V1.loadN (vs := cx0) one_29 sz_29 rfl (RdN.whole z_C) hx0_.len) ?_)
  refine TL.cons rfl (T1.buildOne (cs := cx0) ty_27 sz_29 zr_29 (by decide) rfl hx0_.len (fun b10 => ?_))
  refine TL.cons rfl (V1.t (V1.assign' z_D) ?_)
  refine TL.nil ?_
  refine T.seq ?_
  refine T.region ?_
  refine TL.cons rfl (V1.t (V1.assign' z_D) ?_)
  refine TL.nil ?_
  refine T.seq ?_
  refine T.seq ?_
  refine T.region ?_
  refine TL.cons rfl (V1.t (V1.assign' z_D) ?_)
  refine TL.nil ?_
  refine T.block ?_
  refine T.loopL (σ := Nat × Value × Value) (l0 := []) (fun x => [(5, .int .i64 (x.1 : Nat)), (3, x.2.1), (4, x.2.2)]) (fun x L => ∃ Lq xq q Lo xo us, L = Lq ++ (Lo ++ G) ∧ SlG (some 29) x.2.1 xq 3 Lq ∧ TmsR w0 Ps q xq ∧ SlG (some 29) x.2.2 xo 3 Lo ∧ TmsR w0 Ps us xo ∧ PtInv x0 q x.1 us ∧ ((us = [] ∧ x.2.2 = .slice none 0 0 ∧ Lo = []) ∨ 0 < us.length)) (fun x => x0.size + 1 - x.1) (0, .slice (some ⟨b10, 0, none⟩) 1 1, .slice none 0 0) (.cons rfl (.cons rfl (.cons rfl .nil))) .nil z_A (⟨[⟨⟨b10, some 29⟩, 0, cx0, 3⟩], cx0, [x0], [], [], [], rfl, SlG.mk hx0_.len (Nat.le_refl _) (by decide), TmsR.one hx0_, SlG.nil, TmsR.nil, PtInv.start x0, .inl ⟨rfl, rfl, rfl⟩⟩) ?_
  rintro ⟨i, sq, so⟩ e_ L ⟨Lq, xq, q, Lo, xo, us, rfl, hslq, hxq, hslo, hxo, hpt, hout⟩
  simp only at hslq hslo hpt hout
  obtain ⟨hql, hul⟩ := hpt.qlen
  have hile := hpt.le
  obtain ⟨aq, cq, rfl, hrq⟩ := hslq.tm hxq
  refine T.seq ?_
  refine T.seq ?_
  refine T.region ?_
  refine TL.cons rfl (V1.t (V1.move' z_D) ?_)
  refine TL.cons rfl (V1.t (V1.move' z_D) ?_)
  refine TL.cons rfl (V1.t (V1.lenSl ty_27 rfl) ?_)
  refine TL.cons rfl (T1.ltI_split rfl rfl (fun h4 => ?_) (fun h4 => ?_))
  ·
    obtain ⟨x, hx0⟩ : ∃ x, q[i]? = some x := ⟨_, List.getElem?_eq_getElem (by omega)⟩
    have hxl := hxq.len
    have hsx := subs_size (hpt.sub x (List.mem_of_getElem? hx0))
    obtain ⟨bx, ox, cs_, rfl, hx, hrdx⟩ := hrq.term hxq hx0 P
    obtain ⟨kx, nx, asx⟩ := x
    obtain ⟨ax, cx, vsx, rfl, hrx, hlx, htx⟩ := hx.inv
    try simp only at *
    have hvl := htx.len
    have hal := tsize_len asx
    rw [Tm.size] at hsx
    refine TL.nil ?_
    refine T.cond_t rfl ?_
    refine T.skip ?_
    refine T.seq ?_
    refine T.block ?_
    refine T.seq ?_
    refine T.region ?_
    refine TL.cons rfl (V1.t (V1.move' z_D) ?_)
    refine TL.cons rfl (V1.t (V1.move' z_D) ?_)
    refine TL.cons rfl (V1.t (V1.indexAddrS ty_27 sz_29 rfl rfl (by omega) (by omega)) ?_)
    refine TL.cons rfl (V1.t (V1.loadN (vs := [.int .i64 kx, .string (bstr nx), .slice ax asx.length cx]) one_29 sz_29 rfl (hrdx _ rfl rfl _ z_E) rfl) ?_)
    refine TL.cons rfl (T1.allocN 3 zr_29 rfl (fun b6 => ?_))
    refine TL.cons rfl (T1.storeN rfl rfl sz_29 (ones rfl) z_G (by rfl) (by rfl) ?_)
    refine TL.nil ?_
    refine T.seq ?_
    refine T.region ?_
    refine TL.cons rfl (V1.t (V1.move' z_D) ?_)
    refine TL.cons rfl (V1.t (V1.fieldAddr fl_29_2 rfl) ?_)
    refine TL.cons rfl (V1.t (V1.load1 one_27 rfl (.own z_C (by rfl))) ?_)
    refine TL.cons rfl (T1.appendG ty_27 kd_27 sz_29 by_29 zr_29 rfl (by decide) (by decide) rfl rfl (.inr rfl) hslq (hrx.src _ rfl rfl _ z_E) htx.ones 2002 (by rw [hxl, hvl]; omega) (by decide) z_B (fun s2 Lq2 hsl2 => ?_))
    obtain ⟨ao, co, rfl, hro⟩ := hslo.tm hxo
    refine TL.cons rfl (V1.t (V1.assign' z_D) ?_)
    refine TL.nil ?_
    refine T.seq ?_
    refine T.live (l := [(3, _), (4, _), (5, _), (6, _)]) (.cons z_D (.cons z_D (.cons z_D (.cons z_D .nil)))) (fun e_ => ?_)
    refine T.region ?_
    refine TL.cons rfl (V1.t (V1.assign' z_D) ?_)
    refine TL.nil ?_
    refine T.seq ?_
    refine T.block ?_
    refine T.loopL (σ := Nat) (l0 := [(3, _), (4, _), (5, _), (6, _)]) (fun x => [(7, .int .i64 (x : Nat))]) (fun at_ L => L = ⟨b6, 0, [.int .i64 kx, .string (bstr nx), .slice ax asx.length cx], 3⟩ :: (Lq2 ++ (Lo ++ G)) ∧ at_ ≤ us.length ∧ ∀ z ∈ us.take at_, cmpT z (.mk kx nx asx) < 0) (fun at_ => us.length - at_) 0 (.cons rfl .nil) (.cons z_D (.cons z_D (.cons z_D (.cons z_D .nil)))) z_A (⟨rfl, Nat.zero_le _, by simp⟩) ?_
    rintro at_ e_ L ⟨rfl, hat, hlo⟩
    refine T.seq ?_
    refine T.seq ?_
    rcases pt_case us at_ (.mk kx nx asx) hat with hatl | ⟨z, hz0, hcz⟩ | ⟨z, hz0, hcz⟩ | ⟨z, hz0, hcz⟩
    ·
      refine T.drawDet' mixed (by decide +kernel) ?_
      refine Det.cons 0 (ins := [(7, _)]) (.old z_D (by decide +kernel) .nil) (fun e_ => .inl ⟨rfl, V1.t (V1.move' z_D) ⟨rfl, rfl⟩⟩) ?_
      refine Det.cons 1 (ins := [(4, _)]) (.old z_D (by decide +kernel) .nil) (fun e_ => .inl ⟨rfl, V1.t (V1.move' z_D) ⟨rfl, rfl⟩⟩) ?_
      refine Det.cons 2 (ins := [(26, _)]) (.new 1 0 (by decide +kernel) rfl rfl .nil) (fun e_ => .inl ⟨rfl, V1.t (V1.lenSl ty_27 rfl) ⟨rfl, rfl⟩⟩) ?_
      refine Det.cons 3 (ins := [(25, _), (27, _)]) (.new 0 2 (by decide +kernel) rfl rfl (.new 2 0 (by decide +kernel) rfl rfl .nil)) (fun e_ => .inl ⟨rfl, V1.t (V1.ltI (r := false) rfl rfl (decide_eq_false (by omega))) ⟨rfl, rfl⟩⟩) ?_
      refine Det.cons 4 (ins := [(28, _)]) (.new 3 0 (by decide +kernel) rfl rfl .nil) (fun e_ => .inl ⟨rfl, V1.t (V1.move' z_D) ⟨rfl, rfl⟩⟩) ?_
      refine Det.cons 5 (ins := [(29, _)]) (.new 4 0 (by decide +kernel) rfl rfl .nil) (fun e_ => .inr ⟨rfl, rfl⟩) ?_
      refine Det.cons 6 (ins := [(29, _)]) (.new 4 1 (by decide +kernel) rfl rfl .nil) (fun e_ => .inr ⟨rfl, rfl⟩) ?_
      refine Det.cons 7 (ins := [(29, _)]) (.new 4 2 (by decide +kernel) rfl rfl .nil) (fun e_ => .inr ⟨rfl, rfl⟩) ?_
      refine Det.cons 8 (ins := [(29, _)]) (.new 4 3 (by decide +kernel) rfl rfl .nil) (fun e_ => .inr ⟨rfl, rfl⟩) ?_
      refine Det.cons 9 (ins := [(29, _)]) (.new 4 4 (by decide +kernel) rfl rfl .nil) (fun e_ => .inr ⟨rfl, rfl⟩) ?_
      refine Det.cons 10 (ins := [(29, _)]) (.new 4 5 (by decide +kernel) rfl rfl .nil) (fun e_ => .inr ⟨rfl, rfl⟩) ?_
      refine Det.cons 11 (ins := [(29, _)]) (.new 4 6 (by decide +kernel) rfl rfl .nil) (fun e_ => .inr ⟨rfl, rfl⟩) ?_
      refine Det.cons 12 (ins := [(29, _), (36, _)]) (.new 4 7 (by decide +kernel) rfl rfl (.new 11 0 (by decide +kernel) rfl rfl .nil)) (fun e_ => .inl ⟨rfl, V1.t (V1.pick rfl z_D) ⟨rfl, rfl⟩⟩) ?_
      refine Det.nil 13 (l := [(3, _), (4, _), (5, _), (6, _), (7, _), (37, _)]) (.old z_D (by decide +kernel) (.old z_D (by decide +kernel) (.old z_D (by decide +kernel) (.old z_D (by decide +kernel) (.old z_D (by decide +kernel) (.new 12 0 (by decide +kernel) rfl rfl .nil)))))) (fun e_ => ?_)
      refine T.cond_f rfl ?_
      refine T.exit ?_
      refine T.seq ?_
      refine T.seq ?_
      refine T.drawDet' mixed (by decide +kernel) ?_
      refine Det.cons 0 (ins := [(7, _)]) (.old z_D (by decide +kernel) .nil) (fun e_ => .inl ⟨rfl, V1.t (V1.move' z_D) ⟨rfl, rfl⟩⟩) ?_
      refine Det.cons 1 (ins := [(4, _)]) (.old z_D (by decide +kernel) .nil) (fun e_ => .inl ⟨rfl, V1.t (V1.move' z_D) ⟨rfl, rfl⟩⟩) ?_
      refine Det.cons 2 (ins := [(41, _)]) (.new 1 0 (by decide +kernel) rfl rfl .nil) (fun e_ => .inl ⟨rfl, V1.t (V1.lenSl ty_27 rfl) ⟨rfl, rfl⟩⟩) ?_
      refine Det.cons 3 (ins := [(40, _), (42, _)]) (.new 0 2 (by decide +kernel) rfl rfl (.new 2 0 (by decide +kernel) rfl rfl .nil)) (fun e_ => .inl ⟨rfl, V1.t (V1.ltI (r := false) rfl rfl (decide_eq_false (by omega))) ⟨rfl, rfl⟩⟩) ?_
      refine Det.cons 4 (ins := [(43, _)]) (.new 3 0 (by decide +kernel) rfl rfl .nil) (fun e_ => .inl ⟨rfl, V1.t (V1.move' z_D) ⟨rfl, rfl⟩⟩) ?_
      refine Det.cons 5 (ins := [(44, _)]) (.new 4 0 (by decide +kernel) rfl rfl .nil) (fun e_ => .inr ⟨rfl, rfl⟩) ?_
      refine Det.cons 6 (ins := [(44, _)]) (.new 4 1 (by decide +kernel) rfl rfl .nil) (fun e_ => .inr ⟨rfl, rfl⟩) ?_
      refine Det.cons 7 (ins := [(44, _)]) (.new 4 2 (by decide +kernel) rfl rfl .nil) (fun e_ => .inr ⟨rfl, rfl⟩) ?_
      refine Det.cons 8 (ins := [(44, _)]) (.new 4 3 (by decide +kernel) rfl rfl .nil) (fun e_ => .inr ⟨rfl, rfl⟩) ?_
      refine Det.cons 9 (ins := [(44, _)]) (.new 4 4 (by decide +kernel) rfl rfl .nil) (fun e_ => .inr ⟨rfl, rfl⟩) ?_
      refine Det.cons 10 (ins := [(44, _)]) (.new 4 5 (by decide +kernel) rfl rfl .nil) (fun e_ => .inr ⟨rfl, rfl⟩) ?_
      refine Det.cons 11 (ins := [(44, _)]) (.new 4 6 (by decide +kernel) rfl rfl .nil) (fun e_ => .inr ⟨rfl, rfl⟩) ?_
      refine Det.cons 12 (ins := [(44, _), (51, _)]) (.new 4 7 (by decide +kernel) rfl rfl (.new 11 0 (by decide +kernel) rfl rfl .nil)) (fun e_ => .inl ⟨rfl, V1.t (V1.pick rfl z_D) ⟨rfl, rfl⟩⟩) ?_
      refine Det.nil 13 (l := [(3, _), (4, _), (5, _), (6, _), (7, _), (52, _)]) (.old z_D (by decide +kernel) (.old z_D (by decide +kernel) (.old z_D (by decide +kernel) (.old z_D (by decide +kernel) (.old z_D (by decide +kernel) (.new 12 0 (by decide +kernel) rfl rfl .nil)))))) (fun e_ => ?_)
      refine T.cond_f rfl ?_
      refine T.skip ?_
      refine T.seq ?_
      have hio := ins_ok (y := (.mk kx nx asx)) hpt.srt hlo (.inl hatl)
      have hxol := hxo.len
      rcases hout with ⟨rfl, hso, rfl⟩ | hpos
      ·
        cases hso
        obtain rfl : at_ = 0 := by simpa using hat
        refine T.region ?_
        refine TL.cons rfl (T1.buildNone ty_27 sz_29 zr_29 (fun b53 => ?_))
        refine TL.cons rfl (V1.t (V1.move' z_D) ?_)
        refine TL.cons rfl (V1.t (V1.move' z_D) ?_)
        refine TL.cons rfl (V1.t (V1.sliceNil ty_27 sz_29 rfl rfl rfl) ?_)
        refine TL.cons rfl (T1.appendG ty_27 kd_27 sz_29 by_29 zr_29 rfl (by decide) (by decide) rfl rfl (.inr rfl) (SlG.none0 b53) Src.nil (by simp) 2002 (by simp) (by decide) z_B (fun s3 Ls3 hsl3 => ?_))
        rw [List.nil_append] at hsl3
        refine TL.cons rfl (V1.t (V1.assign' z_D) ?_)
        refine TL.nil ?_
        refine T.seq ?_
        refine T.region ?_
        refine TL.cons rfl (V1.t (V1.move' z_D) ?_)
        refine TL.cons rfl (V1.t (V1.loadN one_29 sz_29 rfl (RdN.whole z_C) (by rfl)) ?_)
        refine TL.cons rfl (T1.buildOne (cs := [.int .i64 kx, .string (bstr nx), .slice ax asx.length cx]) ty_27 sz_29 zr_29 (by decide) rfl (by rfl) (fun b60 => ?_))
        refine TL.cons rfl (T1.appendG ty_27 kd_27 sz_29 by_29 zr_29 rfl (by decide) (by decide) rfl rfl (.inr rfl) hsl3 (.sl (vs := [.int .i64 kx, .string (bstr nx), .slice ax asx.length cx]) (RdN.at0 z_C) (by rfl)) (ones rfl) 2002 (by show _ + 3 ≤ _; omega) (by decide) z_B (fun s4 Ls4 hsl4 => ?_))
        refine TL.cons rfl (V1.t (V1.assign' z_D) ?_)
        refine TL.nil ?_
        refine T.region ?_
        refine TL.cons rfl (V1.t (V1.move' z_D) ?_)
        refine TL.cons rfl (V1.t (V1.move' z_D) ?_)
        refine TL.cons rfl (V1.t (V1.move' z_D) ?_)
        refine TL.cons rfl (V1.t (V1.sliceNil ty_27 sz_29 rfl rfl rfl) ?_)
        refine TL.cons rfl (T1.appendG ty_27 kd_27 sz_29 by_29 zr_29 rfl (by decide) (by decide) rfl rfl (.inr rfl) hsl4 Src.nil (by simp) 2002 (by simp) (by decide) z_B (fun s5 Ls5 hsl5 => ?_))
        refine TL.cons rfl (V1.t (V1.assign' z_D) ?_)
        refine TL.nil ?_
        refine T.live (l := [(3, _), (4, _), (5, _)]) (.cons z_D (.cons z_D (.cons z_D .nil))) (fun e_ => ?_)
        refine T.region ?_
        refine TL.cons rfl (V1.t (V1.move' z_D) ?_)
        refine TL.cons rfl (V1.t (V1.add (c := ((i + 1 : Nat) : Int)) rfl rfl (by rw [wrap_i64 _ (by omega) (by omega)]; omega)) ?_)
        refine TL.cons rfl (V1.t (V1.assign' z_D) ?_)
        refine TL.nil ?_
        exact ⟨(i + 1, s2, s5), Lq2 ++ (Ls5 ++ G), _, (by simp only; omega), (.cons rfl (.cons rfl (.cons rfl .nil))), .nil, z_A, ⟨Lq2, _, _, Ls5, _, _, rfl, hsl2, hxq.app htx, hsl5, (by simpa using TmsR.one hx), hpt.next hx0 hio.1 hio.2, .inr (by rw [List.length_append, List.length_cons]; omega)⟩⟩
      ·
        obtain ⟨bs, off, cap, size, hse, hcap, hsize, hLo⟩ := hslo.blk hxol hpos
        cases hse
        subst hLo
        refine T.region ?_
        refine TL.cons rfl (T1.buildNone ty_27 sz_29 zr_29 (fun b53 => ?_))
        refine TL.cons rfl (V1.t (V1.move' z_D) ?_)
        refine TL.cons rfl (V1.t (V1.move' z_D) ?_)
        refine TL.cons rfl (V1.t (V1.sliceAny 0 at_ ty_27 sz_29 rfl rfl rfl (Nat.zero_le _) (by omega)) ?_)
        refine TL.cons rfl (T1.appendG ty_27 kd_27 sz_29 by_29 zr_29 rfl (by decide) (by decide) rfl rfl (.inr rfl) (SlG.none0 b53) (Src.front (n := us.length) (RdN.at0 z_C) hxol hat) (fun u hu => hxo.ones u (List.mem_of_mem_take hu)) 2002 (by rw [List.length_take]; simp only [List.length_nil]; omega) (by decide) z_B (fun s3 Ls3 hsl3 => ?_))
        rw [List.nil_append] at hsl3
        refine TL.cons rfl (V1.t (V1.assign' z_D) ?_)
        refine TL.nil ?_
        refine T.seq ?_
        refine T.region ?_
        refine TL.cons rfl (V1.t (V1.move' z_D) ?_)
        refine TL.cons rfl (V1.t (V1.loadN one_29 sz_29 rfl (RdN.whole z_C) (by rfl)) ?_)
        refine TL.cons rfl (T1.buildOne (cs := [.int .i64 kx, .string (bstr nx), .slice ax asx.length cx]) ty_27 sz_29 zr_29 (by decide) rfl (by rfl) (fun b60 => ?_))
        refine TL.cons rfl (T1.appendG ty_27 kd_27 sz_29 by_29 zr_29 rfl (by decide) (by decide) rfl rfl (.inr rfl) hsl3 (.sl (vs := [.int .i64 kx, .string (bstr nx), .slice ax asx.length cx]) (RdN.at0 z_C) (by rfl)) (ones rfl) 2002 (by rw [List.length_take]; show _ + 3 ≤ _; omega) (by decide) z_B (fun s4 Ls4 hsl4 => ?_))
        refine TL.cons rfl (V1.t (V1.assign' z_D) ?_)
        refine TL.nil ?_
        refine T.region ?_
        refine TL.cons rfl (V1.t (V1.move' z_D) ?_)
        refine TL.cons rfl (V1.t (V1.move' z_D) ?_)
        refine TL.cons rfl (V1.t (V1.move' z_D) ?_)
        refine TL.cons rfl (V1.t (V1.sliceAny at_ us.length ty_27 sz_29 rfl rfl rfl hat (by omega)) ?_)
        refine TL.cons rfl (T1.appendG ty_27 kd_27 sz_29 by_29 zr_29 rfl (by decide) (by decide) rfl rfl (.inr rfl) hsl4 (Src.back (n := us.length) (RdN.at0 z_C) hxol hat hcap) (fun u hu => hxo.ones u (List.mem_of_mem_drop hu)) 2002 (by rw [List.length_append, List.length_take, List.length_drop]; show _ + 3 + _ ≤ _; omega) (by decide) z_B (fun s5 Ls5 hsl5 => ?_))
        refine TL.cons rfl (V1.t (V1.assign' z_D) ?_)
        refine TL.nil ?_
        refine T.live (l := [(3, _), (4, _), (5, _)]) (.cons z_D (.cons z_D (.cons z_D .nil))) (fun e_ => ?_)
        refine T.region ?_
        refine TL.cons rfl (V1.t (V1.move' z_D) ?_)
        refine TL.cons rfl (V1.t (V1.add (c := ((i + 1 : Nat) : Int)) rfl rfl (by rw [wrap_i64 _ (by omega) (by omega)]; omega)) ?_)
        refine TL.cons rfl (V1.t (V1.assign' z_D) ?_)
        refine TL.nil ?_
        exact ⟨(i + 1, s2, s5), Lq2 ++ (Ls5 ++ G), _, (by simp only; omega), (.cons rfl (.cons rfl (.cons rfl .nil))), .nil, z_A, ⟨Lq2, _, _, Ls5, _, _, rfl, hsl2, hxq.app htx, hsl5, by have h1 := (hxo.take at_ hat).app (TmsR.one hx); have h2 := h1.app (hxo.drop at_ hat); simpa [List.append_assoc] using h2, hpt.next hx0 hio.1 hio.2, .inr (by rw [List.length_append, List.length_cons]; omega)⟩⟩
    ·
      have hzl := (List.getElem?_eq_some_iff.1 hz0).1
      obtain ⟨bo, oo, cs_, rfl, hz, hrdz⟩ := hro.term hxo hz0 P
      obtain ⟨kz, nz, asz⟩ := z
      obtain ⟨az, cz, vsz, rfl, hrz, hlz, htz⟩ := hz.inv
      try simp only at *
      refine T.drawDet' mixed (by decide +kernel) ?_
      refine Det.cons 0 (ins := [(7, _)]) (.old z_D (by decide +kernel) .nil) (fun e_ => .inl ⟨rfl, V1.t (V1.move' z_D) ⟨rfl, rfl⟩⟩) ?_
      refine Det.cons 1 (ins := [(4, _)]) (.old z_D (by decide +kernel) .nil) (fun e_ => .inl ⟨rfl, V1.t (V1.move' z_D) ⟨rfl, rfl⟩⟩) ?_
      refine Det.cons 2 (ins := [(26, _)]) (.new 1 0 (by decide +kernel) rfl rfl .nil) (fun e_ => .inl ⟨rfl, V1.t (V1.lenSl ty_27 rfl) ⟨rfl, rfl⟩⟩) ?_
      refine Det.cons 3 (ins := [(25, _), (27, _)]) (.new 0 2 (by decide +kernel) rfl rfl (.new 2 0 (by decide +kernel) rfl rfl .nil)) (fun e_ => .inl ⟨rfl, V1.t (V1.ltI (r := true) rfl rfl (decide_eq_true (by have := (List.getElem?_eq_some_iff.1 hz0).1; omega))) ⟨rfl, rfl⟩⟩) ?_
      refine Det.cons 4 (ins := [(28, _)]) (.new 3 0 (by decide +kernel) rfl rfl .nil) (fun e_ => .inl ⟨rfl, V1.t (V1.move' z_D) ⟨rfl, rfl⟩⟩) ?_
      refine Det.cons 5 (ins := [(4, _), (29, _)]) (.old z_D (by decide +kernel) (.new 4 0 (by decide +kernel) rfl rfl .nil)) (fun e_ => .inl ⟨rfl, V1.t (V1.move' z_D) ⟨rfl, rfl⟩⟩) ?_
      refine Det.cons 6 (ins := [(7, _), (29, _)]) (.old z_D (by decide +kernel) (.new 4 1 (by decide +kernel) rfl rfl .nil)) (fun e_ => .inl ⟨rfl, V1.t (V1.move' z_D) ⟨rfl, rfl⟩⟩) ?_
      refine Det.cons 7 (ins := [(29, _), (30, _), (31, _)]) (.new 4 2 (by decide +kernel) rfl rfl (.new 5 1 (by decide +kernel) rfl rfl (.new 6 0 (by decide +kernel) rfl rfl .nil))) (fun e_ => .inl ⟨rfl, V1.t (V1.indexAddrS ty_27 sz_29 rfl rfl (by omega) (by omega)) ⟨rfl, rfl⟩⟩) ?_
      refine Det.cons 8 (ins := [(29, _), (32, _)]) (.new 4 3 (by decide +kernel) rfl rfl (.new 7 0 (by decide +kernel) rfl rfl .nil)) (fun e_ => .inl ⟨rfl, V1.t (V1.loadN (vs := [.int .i64 kz, .string (bstr nz), .slice az asz.length cz]) one_29 sz_29 rfl (hrdz _ rfl rfl _ z_E) rfl) ⟨rfl, rfl⟩⟩) ?_
      refine Det.cons 9 (ins := [(6, _), (29, _)]) (.old z_D (by decide +kernel) (.new 4 4 (by decide +kernel) rfl rfl .nil)) (fun e_ => .inl ⟨rfl, V1.t (V1.loadN one_29 sz_29 rfl (RdN.whole z_C) (by rfl)) ⟨rfl, rfl⟩⟩) ?_
      refine Det.cons 10 (ins := [(29, _), (33, _), (34, _)]) (v := .int .i64 (cmpT (.mk kz nz asz) (.mk kx nx asx))) (.new 4 5 (by decide +kernel) rfl rfl (.new 8 1 (by decide +kernel) rfl rfl (.new 9 0 (by decide +kernel) rfl rfl .nil))) (fun e_ => .inl ⟨rfl, ?_⟩) ?_
      · refine T1.callV has_16 rfl rfl (RCompare_any w0 (.mk kz nz asz) (.mk kx nx asx) Ps _ _ hz hx) z_E (fun v_ hv => ?_)
        obtain rfl := hv
        exact ⟨rfl, rfl⟩
      refine Det.cons 11 (ins := [(29, _), (35, _)]) (.new 4 6 (by decide +kernel) rfl rfl (.new 10 0 (by decide +kernel) rfl rfl .nil)) (fun e_ => .inl ⟨rfl, V1.t (V1.ltI (r := true) rfl rfl (decide_eq_true hcz)) ⟨rfl, rfl⟩⟩) ?_
      refine Det.cons 12 (ins := [(29, _), (36, _)]) (.new 4 7 (by decide +kernel) rfl rfl (.new 11 0 (by decide +kernel) rfl rfl .nil)) (fun e_ => .inl ⟨rfl, V1.t (V1.pick rfl z_D) ⟨rfl, rfl⟩⟩) ?_
      refine Det.nil 13 (l := [(3, _), (4, _), (5, _), (6, _), (7, _), (37, _)]) (.old z_D (by decide +kernel) (.old z_D (by decide +kernel) (.old z_D (by decide +kernel) (.old z_D (by decide +kernel) (.old z_D (by decide +kernel) (.new 12 0 (by decide +kernel) rfl rfl .nil)))))) (fun e_ => ?_)
      refine T.cond_t rfl ?_
      refine T.skip ?_
      refine T.block ?_
      refine T.region ?_
      refine TL.cons rfl (V1.t (V1.move' z_D) ?_)
      refine TL.cons rfl (V1.t (V1.add (c := ((at_ + 1 : Nat) : Int)) rfl rfl (by rw [wrap_i64 _ (by omega) (by omega)]; omega)) ?_)
      refine TL.cons rfl (V1.t (V1.assign' z_D) ?_)
      refine TL.nil ?_
      exact ⟨at_ + 1, ⟨b6, 0, [.int .i64 kx, .string (bstr nx), .slice ax asx.length cx], 3⟩ :: (Lq2 ++ (Lo ++ G)), _, (by have := (List.getElem?_eq_some_iff.1 hz0).1; simp only; omega), (.cons rfl .nil), (.cons rfl (.cons rfl (.cons rfl (.cons rfl .nil)))), z_A, ⟨rfl, by have := (List.getElem?_eq_some_iff.1 hz0).1; omega, take_all (p := fun z => cmpT z (.mk kx nx asx) < 0) hz0 hlo hcz⟩⟩
    ·
      have hzl := (List.getElem?_eq_some_iff.1 hz0).1
      obtain ⟨bo, oo, cs_, rfl, hz, hrdz⟩ := hro.term hxo hz0 P
      obtain ⟨kz, nz, asz⟩ := z
      obtain ⟨az, cz, vsz, rfl, hrz, hlz, htz⟩ := hz.inv
      try simp only at *
      refine T.drawDet' mixed (by decide +kernel) ?_
      refine Det.cons 0 (ins := [(7, _)]) (.old z_D (by decide +kernel) .nil) (fun e_ => .inl ⟨rfl, V1.t (V1.move' z_D) ⟨rfl, rfl⟩⟩) ?_
      refine Det.cons 1 (ins := [(4, _)]) (.old z_D (by decide +kernel) .nil) (fun e_ => .inl ⟨rfl, V1.t (V1.move' z_D) ⟨rfl, rfl⟩⟩) ?_
      refine Det.cons 2 (ins := [(26, _)]) (.new 1 0 (by decide +kernel) rfl rfl .nil) (fun e_ => .inl ⟨rfl, V1.t (V1.lenSl ty_27 rfl) ⟨rfl, rfl⟩⟩) ?_
      refine Det.cons 3 (ins := [(25, _), (27, _)]) (.new 0 2 (by decide +kernel) rfl rfl (.new 2 0 (by decide +kernel) rfl rfl .nil)) (fun e_ => .inl ⟨rfl, V1.t (V1.ltI (r := true) rfl rfl (decide_eq_true (by have := (List.getElem?_eq_some_iff.1 hz0).1; omega))) ⟨rfl, rfl⟩⟩) ?_
      refine Det.cons 4 (ins := [(28, _)]) (.new 3 0 (by decide +kernel) rfl rfl .nil) (fun e_ => .inl ⟨rfl, V1.t (V1.move' z_D) ⟨rfl, rfl⟩⟩) ?_
      refine Det.cons 5 (ins := [(4, _), (29, _)]) (.old z_D (by decide +kernel) (.new 4 0 (by decide +kernel) rfl rfl .nil)) (fun e_ => .inl ⟨rfl, V1.t (V1.move' z_D) ⟨rfl, rfl⟩⟩) ?_
      refine Det.cons 6 (ins := [(7, _), (29, _)]) (.old z_D (by decide +kernel) (.new 4 1 (by decide +kernel) rfl rfl .nil)) (fun e_ => .inl ⟨rfl, V1.t (V1.move' z_D) ⟨rfl, rfl⟩⟩) ?_
      refine Det.cons 7 (ins := [(29, _), (30, _), (31, _)]) (.new 4 2 (by decide +kernel) rfl rfl (.new 5 1 (by decide +kernel) rfl rfl (.new 6 0 (by decide +kernel) rfl rfl .nil))) (fun e_ => .inl ⟨rfl, V1.t (V1.indexAddrS ty_27 sz_29 rfl rfl (by omega) (by omega)) ⟨rfl, rfl⟩⟩) ?_
      refine Det.cons 8 (ins := [(29, _), (32, _)]) (.new 4 3 (by decide +kernel) rfl rfl (.new 7 0 (by decide +kernel) rfl rfl .nil)) (fun e_ => .inl ⟨rfl, V1.t (V1.loadN (vs := [.int .i64 kz, .string (bstr nz), .slice az asz.length cz]) one_29 sz_29 rfl (hrdz _ rfl rfl _ z_E) rfl) ⟨rfl, rfl⟩⟩) ?_
      refine Det.cons 9 (ins := [(6, _), (29, _)]) (.old z_D (by decide +kernel) (.new 4 4 (by decide +kernel) rfl rfl .nil)) (fun e_ => .inl ⟨rfl, V1.t (V1.loadN one_29 sz_29 rfl (RdN.whole z_C) (by rfl)) ⟨rfl, rfl⟩⟩) ?_
      refine Det.cons 10 (ins := [(29, _), (33, _), (34, _)]) (v := .int .i64 (cmpT (.mk kz nz asz) (.mk kx nx asx))) (.new 4 5 (by decide +kernel) rfl rfl (.new 8 1 (by decide +kernel) rfl rfl (.new 9 0 (by decide +kernel) rfl rfl .nil))) (fun e_ => .inl ⟨rfl, ?_⟩) ?_
      · refine T1.callV has_16 rfl rfl (RCompare_any w0 (.mk kz nz asz) (.mk kx nx asx) Ps _ _ hz hx) z_E (fun v_ hv => ?_)
        obtain rfl := hv
        exact ⟨rfl, rfl⟩
      refine Det.cons 11 (ins := [(29, _), (35, _)]) (.new 4 6 (by decide +kernel) rfl rfl (.new 10 0 (by decide +kernel) rfl rfl .nil)) (fun e_ => .inl ⟨rfl, V1.t (V1.ltI (r := false) rfl rfl (decide_eq_false (by rw [cmpT_eq.2 hcz]; decide))) ⟨rfl, rfl⟩⟩) ?_
      refine Det.cons 12 (ins := [(29, _), (36, _)]) (.new 4 7 (by decide +kernel) rfl rfl (.new 11 0 (by decide +kernel) rfl rfl .nil)) (fun e_ => .inl ⟨rfl, V1.t (V1.pick rfl z_D) ⟨rfl, rfl⟩⟩) ?_
      refine Det.nil 13 (l := [(3, _), (4, _), (5, _), (6, _), (7, _), (37, _)]) (.old z_D (by decide +kernel) (.old z_D (by decide +kernel) (.old z_D (by decide +kernel) (.old z_D (by decide +kernel) (.old z_D (by decide +kernel) (.new 12 0 (by decide +kernel) rfl rfl .nil)))))) (fun e_ => ?_)
      refine T.cond_f rfl ?_
      refine T.exit ?_
      refine T.seq ?_
      refine T.seq ?_
      refine T.drawDet' mixed (by decide +kernel) ?_
      refine Det.cons 0 (ins := [(7, _)]) (.old z_D (by decide +kernel) .nil) (fun e_ => .inl ⟨rfl, V1.t (V1.move' z_D) ⟨rfl, rfl⟩⟩) ?_
      refine Det.cons 1 (ins := [(4, _)]) (.old z_D (by decide +kernel) .nil) (fun e_ => .inl ⟨rfl, V1.t (V1.move' z_D) ⟨rfl, rfl⟩⟩) ?_
      refine Det.cons 2 (ins := [(41, _)]) (.new 1 0 (by decide +kernel) rfl rfl .nil) (fun e_ => .inl ⟨rfl, V1.t (V1.lenSl ty_27 rfl) ⟨rfl, rfl⟩⟩) ?_
      refine Det.cons 3 (ins := [(40, _), (42, _)]) (.new 0 2 (by decide +kernel) rfl rfl (.new 2 0 (by decide +kernel) rfl rfl .nil)) (fun e_ => .inl ⟨rfl, V1.t (V1.ltI (r := true) rfl rfl (decide_eq_true (by have := (List.getElem?_eq_some_iff.1 hz0).1; omega))) ⟨rfl, rfl⟩⟩) ?_
      refine Det.cons 4 (ins := [(43, _)]) (.new 3 0 (by decide +kernel) rfl rfl .nil) (fun e_ => .inl ⟨rfl, V1.t (V1.move' z_D) ⟨rfl, rfl⟩⟩) ?_
      refine Det.cons 5 (ins := [(4, _), (44, _)]) (.old z_D (by decide +kernel) (.new 4 0 (by decide +kernel) rfl rfl .nil)) (fun e_ => .inl ⟨rfl, V1.t (V1.move' z_D) ⟨rfl, rfl⟩⟩) ?_
      refine Det.cons 6 (ins := [(7, _), (44, _)]) (.old z_D (by decide +kernel) (.new 4 1 (by decide +kernel) rfl rfl .nil)) (fun e_ => .inl ⟨rfl, V1.t (V1.move' z_D) ⟨rfl, rfl⟩⟩) ?_
      refine Det.cons 7 (ins := [(44, _), (45, _), (46, _)]) (.new 4 2 (by decide +kernel) rfl rfl (.new 5 1 (by decide +kernel) rfl rfl (.new 6 0 (by decide +kernel) rfl rfl .nil))) (fun e_ => .inl ⟨rfl, V1.t (V1.indexAddrS ty_27 sz_29 rfl rfl (by omega) (by omega)) ⟨rfl, rfl⟩⟩) ?_
      refine Det.cons 8 (ins := [(44, _), (47, _)]) (.new 4 3 (by decide +kernel) rfl rfl (.new 7 0 (by decide +kernel) rfl rfl .nil)) (fun e_ => .inl ⟨rfl, V1.t (V1.loadN (vs := [.int .i64 kz, .string (bstr nz), .slice az asz.length cz]) one_29 sz_29 rfl (hrdz _ rfl rfl _ z_E) rfl) ⟨rfl, rfl⟩⟩) ?_
      refine Det.cons 9 (ins := [(6, _), (44, _)]) (.old z_D (by decide +kernel) (.new 4 4 (by decide +kernel) rfl rfl .nil)) (fun e_ => .inl ⟨rfl, V1.t (V1.loadN one_29 sz_29 rfl (RdN.whole z_C) (by rfl)) ⟨rfl, rfl⟩⟩) ?_
      refine Det.cons 10 (ins := [(44, _), (48, _), (49, _)]) (v := .int .i64 (cmpT (.mk kz nz asz) (.mk kx nx asx))) (.new 4 5 (by decide +kernel) rfl rfl (.new 8 1 (by decide +kernel) rfl rfl (.new 9 0 (by decide +kernel) rfl rfl .nil))) (fun e_ => .inl ⟨rfl, ?_⟩) ?_
      · refine T1.callV has_16 rfl rfl (RCompare_any w0 (.mk kz nz asz) (.mk kx nx asx) Ps _ _ hz hx) z_E (fun v_ hv => ?_)
        obtain rfl := hv
        exact ⟨rfl, rfl⟩
      refine Det.cons 11 (ins := [(44, _), (50, _)]) (.new 4 6 (by decide +kernel) rfl rfl (.new 10 0 (by decide +kernel) rfl rfl .nil)) (fun e_ => .inl ⟨rfl, V1.t (V1.eqI (r := true) rfl rfl (decide_eq_true (cmpT_eq.2 hcz))) ⟨rfl, rfl⟩⟩) ?_
      refine Det.cons 12 (ins := [(44, _), (51, _)]) (.new 4 7 (by decide +kernel) rfl rfl (.new 11 0 (by decide +kernel) rfl rfl .nil)) (fun e_ => .inl ⟨rfl, V1.t (V1.pick rfl z_D) ⟨rfl, rfl⟩⟩) ?_
      refine Det.nil 13 (l := [(3, _), (4, _), (5, _), (6, _), (7, _), (52, _)]) (.old z_D (by decide +kernel) (.old z_D (by decide +kernel) (.old z_D (by decide +kernel) (.old z_D (by decide +kernel) (.old z_D (by decide +kernel) (.new 12 0 (by decide +kernel) rfl rfl .nil)))))) (fun e_ => ?_)
      refine T.cond_t rfl ?_
      refine T.exit ?_
      refine T.region ?_
      refine TL.cons rfl (V1.t (V1.move' z_D) ?_)
      refine TL.cons rfl (V1.t (V1.add (c := ((i + 1 : Nat) : Int)) rfl rfl (by rw [wrap_i64 _ (by omega) (by omega)]; omega)) ?_)
      refine TL.cons rfl (V1.t (V1.assign' z_D) ?_)
      refine TL.nil ?_
      exact ⟨(i + 1, s2, .slice (some ⟨bo, oo, none⟩) us.length co), Lq2 ++ (Lo ++ G), _, (by simp only; omega), (.cons rfl (.cons rfl (.cons rfl .nil))), .nil, z_A, ⟨Lq2, _, _, Lo, xo, us, rfl, hsl2, hxq.app htx, hslo, hxo, hpt.next hx0 hpt.srt (fun z => ⟨.inl, fun h => h.elim id (fun e => by rw [e]; exact hcz ▸ List.mem_of_getElem? hz0)⟩), .inr (by have := (List.getElem?_eq_some_iff.1 hz0).1; omega)⟩⟩
    ·
      have hzl := (List.getElem?_eq_some_iff.1 hz0).1
      obtain ⟨bo, oo, cs_, rfl, hz, hrdz⟩ := hro.term hxo hz0 P
      obtain ⟨kz, nz, asz⟩ := z
      obtain ⟨az, cz, vsz, rfl, hrz, hlz, htz⟩ := hz.inv
      try simp only at *
      refine T.drawDet' mixed (by decide +kernel) ?_
      refine Det.cons 0 (ins := [(7, _)]) (.old z_D (by decide +kernel) .nil) (fun e_ => .inl ⟨rfl, V1.t (V1.move' z_D) ⟨rfl, rfl⟩⟩) ?_
      refine Det.cons 1 (ins := [(4, _)]) (.old z_D (by decide +kernel) .nil) (fun e_ => .inl ⟨rfl, V1.t (V1.move' z_D) ⟨rfl, rfl⟩⟩) ?_
      refine Det.cons 2 (ins := [(26, _)]) (.new 1 0 (by decide +kernel) rfl rfl .nil) (fun e_ => .inl ⟨rfl, V1.t (V1.lenSl ty_27 rfl) ⟨rfl, rfl⟩⟩) ?_
      refine Det.cons 3 (ins := [(25, _), (27, _)]) (.new 0 2 (by decide +kernel) rfl rfl (.new 2 0 (by decide +kernel) rfl rfl .nil)) (fun e_ => .inl ⟨rfl, V1.t (V1.ltI (r := true) rfl rfl (decide_eq_true (by have := (List.getElem?_eq_some_iff.1 hz0).1; omega))) ⟨rfl, rfl⟩⟩) ?_
      refine Det.cons 4 (ins := [(28, _)]) (.new 3 0 (by decide +kernel) rfl rfl .nil) (fun e_ => .inl ⟨rfl, V1.t (V1.move' z_D) ⟨rfl, rfl⟩⟩) ?_
      refine Det.cons 5 (ins := [(4, _), (29, _)]) (.old z_D (by decide +kernel) (.new 4 0 (by decide +kernel) rfl rfl .nil)) (fun e_ => .inl ⟨rfl, V1.t (V1.move' z_D) ⟨rfl, rfl⟩⟩) ?_
      refine Det.cons 6 (ins := [(7, _), (29, _)]) (.old z_D (by decide +kernel) (.new 4 1 (by decide +kernel) rfl rfl .nil)) (fun e_ => .inl ⟨rfl, V1.t (V1.move' z_D) ⟨rfl, rfl⟩⟩) ?_
      refine Det.cons 7 (ins := [(29, _), (30, _), (31, _)]) (.new 4 2 (by decide +kernel) rfl rfl (.new 5 1 (by decide +kernel) rfl rfl (.new 6 0 (by decide +kernel) rfl rfl .nil))) (fun e_ => .inl ⟨rfl, V1.t (V1.indexAddrS ty_27 sz_29 rfl rfl (by omega) (by omega)) ⟨rfl, rfl⟩⟩) ?_
      refine Det.cons 8 (ins := [(29, _), (32, _)]) (.new 4 3 (by decide +kernel) rfl rfl (.new 7 0 (by decide +kernel) rfl rfl .nil)) (fun e_ => .inl ⟨rfl, V1.t (V1.loadN (vs := [.int .i64 kz, .string (bstr nz), .slice az asz.length cz]) one_29 sz_29 rfl (hrdz _ rfl rfl _ z_E) rfl) ⟨rfl, rfl⟩⟩) ?_
      refine Det.cons 9 (ins := [(6, _), (29, _)]) (.old z_D (by decide +kernel) (.new 4 4 (by decide +kernel) rfl rfl .nil)) (fun e_ => .inl ⟨rfl, V1.t (V1.loadN one_29 sz_29 rfl (RdN.whole z_C) (by rfl)) ⟨rfl, rfl⟩⟩) ?_
      refine Det.cons 10 (ins := [(29, _), (33, _), (34, _)]) (v := .int .i64 (cmpT (.mk kz nz asz) (.mk kx nx asx))) (.new 4 5 (by decide +kernel) rfl rfl (.new 8 1 (by decide +kernel) rfl rfl (.new 9 0 (by decide +kernel) rfl rfl .nil))) (fun e_ => .inl ⟨rfl, ?_⟩) ?_
      · refine T1.callV has_16 rfl rfl (RCompare_any w0 (.mk kz nz asz) (.mk kx nx asx) Ps _ _ hz hx) z_E (fun v_ hv => ?_)
        obtain rfl := hv
        exact ⟨rfl, rfl⟩
      refine Det.cons 11 (ins := [(29, _), (35, _)]) (.new 4 6 (by decide +kernel) rfl rfl (.new 10 0 (by decide +kernel) rfl rfl .nil)) (fun e_ => .inl ⟨rfl, V1.t (V1.ltI (r := false) rfl rfl (decide_eq_false (cmpT_asymm hcz))) ⟨rfl, rfl⟩⟩) ?_
      refine Det.cons 12 (ins := [(29, _), (36, _)]) (.new 4 7 (by decide +kernel) rfl rfl (.new 11 0 (by decide +kernel) rfl rfl .nil)) (fun e_ => .inl ⟨rfl, V1.t (V1.pick rfl z_D) ⟨rfl, rfl⟩⟩) ?_
      refine Det.nil 13 (l := [(3, _), (4, _), (5, _), (6, _), (7, _), (37, _)]) (.old z_D (by decide +kernel) (.old z_D (by decide +kernel) (.old z_D (by decide +kernel) (.old z_D (by decide +kernel) (.old z_D (by decide +kernel) (.new 12 0 (by decide +kernel) rfl rfl .nil)))))) (fun e_ => ?_)
      refine T.cond_f rfl ?_
      refine T.exit ?_
      refine T.seq ?_
      refine T.seq ?_
      refine T.drawDet' mixed (by decide +kernel) ?_
      refine Det.cons 0 (ins := [(7, _)]) (.old z_D (by decide +kernel) .nil) (fun e_ => .inl ⟨rfl, V1.t (V1.move' z_D) ⟨rfl, rfl⟩⟩) ?_
      refine Det.cons 1 (ins := [(4, _)]) (.old z_D (by decide +kernel) .nil) (fun e_ => .inl ⟨rfl, V1.t (V1.move' z_D) ⟨rfl, rfl⟩⟩) ?_
      refine Det.cons 2 (ins := [(41, _)]) (.new 1 0 (by decide +kernel) rfl rfl .nil) (fun e_ => .inl ⟨rfl, V1.t (V1.lenSl ty_27 rfl) ⟨rfl, rfl⟩⟩) ?_
      refine Det.cons 3 (ins := [(40, _), (42, _)]) (.new 0 2 (by decide +kernel) rfl rfl (.new 2 0 (by decide +kernel) rfl rfl .nil)) (fun e_ => .inl ⟨rfl, V1.t (V1.ltI (r := true) rfl rfl (decide_eq_true (by have := (List.getElem?_eq_some_iff.1 hz0).1; omega))) ⟨rfl, rfl⟩⟩) ?_
      refine Det.cons 4 (ins := [(43, _)]) (.new 3 0 (by decide +kernel) rfl rfl .nil) (fun e_ => .inl ⟨rfl, V1.t (V1.move' z_D) ⟨rfl, rfl⟩⟩) ?_
      refine Det.cons 5 (ins := [(4, _), (44, _)]) (.old z_D (by decide +kernel) (.new 4 0 (by decide +kernel) rfl rfl .nil)) (fun e_ => .inl ⟨rfl, V1.t (V1.move' z_D) ⟨rfl, rfl⟩⟩) ?_
      refine Det.cons 6 (ins := [(7, _), (44, _)]) (.old z_D (by decide +kernel) (.new 4 1 (by decide +kernel) rfl rfl .nil)) (fun e_ => .inl ⟨rfl, V1.t (V1.move' z_D) ⟨rfl, rfl⟩⟩) ?_
      refine Det.cons 7 (ins := [(44, _), (45, _), (46, _)]) (.new 4 2 (by decide +kernel) rfl rfl (.new 5 1 (by decide +kernel) rfl rfl (.new 6 0 (by decide +kernel) rfl rfl .nil))) (fun e_ => .inl ⟨rfl, V1.t (V1.indexAddrS ty_27 sz_29 rfl rfl (by omega) (by omega)) ⟨rfl, rfl⟩⟩) ?_
      refine Det.cons 8 (ins := [(44, _), (47, _)]) (.new 4 3 (by decide +kernel) rfl rfl (.new 7 0 (by decide +kernel) rfl rfl .nil)) (fun e_ => .inl ⟨rfl, V1.t (V1.loadN (vs := [.int .i64 kz, .string (bstr nz), .slice az asz.length cz]) one_29 sz_29 rfl (hrdz _ rfl rfl _ z_E) rfl) ⟨rfl, rfl⟩⟩) ?_
      refine Det.cons 9 (ins := [(6, _), (44, _)]) (.old z_D (by decide +kernel) (.new 4 4 (by decide +kernel) rfl rfl .nil)) (fun e_ => .inl ⟨rfl, V1.t (V1.loadN one_29 sz_29 rfl (RdN.whole z_C) (by rfl)) ⟨rfl, rfl⟩⟩) ?_
      refine Det.cons 10 (ins := [(44, _), (48, _), (49, _)]) (v := .int .i64 (cmpT (.mk kz nz asz) (.mk kx nx asx))) (.new 4 5 (by decide +kernel) rfl rfl (.new 8 1 (by decide +kernel) rfl rfl (.new 9 0 (by decide +kernel) rfl rfl .nil))) (fun e_ => .inl ⟨rfl, ?_⟩) ?_
      · refine T1.callV has_16 rfl rfl (RCompare_any w0 (.mk kz nz asz) (.mk kx nx asx) Ps _ _ hz hx) z_E (fun v_ hv => ?_)
        obtain rfl := hv
        exact ⟨rfl, rfl⟩
      refine Det.cons 11 (ins := [(44, _), (50, _)]) (.new 4 6 (by decide +kernel) rfl rfl (.new 10 0 (by decide +kernel) rfl rfl .nil)) (fun e_ => .inl ⟨rfl, V1.t (V1.eqI (r := false) rfl rfl (decide_eq_false (fun h => by rw [cmpT_eq.1 h, cmpT_self] at hcz; omega))) ⟨rfl, rfl⟩⟩) ?_
      refine Det.cons 12 (ins := [(44, _), (51, _)]) (.new 4 7 (by decide +kernel) rfl rfl (.new 11 0 (by decide +kernel) rfl rfl .nil)) (fun e_ => .inl ⟨rfl, V1.t (V1.pick rfl z_D) ⟨rfl, rfl⟩⟩) ?_
      refine Det.nil 13 (l := [(3, _), (4, _), (5, _), (6, _), (7, _), (52, _)]) (.old z_D (by decide +kernel) (.old z_D (by decide +kernel) (.old z_D (by decide +kernel) (.old z_D (by decide +kernel) (.old z_D (by decide +kernel) (.new 12 0 (by decide +kernel) rfl rfl .nil)))))) (fun e_ => ?_)
      refine T.cond_f rfl ?_
      refine T.skip ?_
      refine T.seq ?_
      have hio := ins_ok (y := (.mk kx nx asx)) hpt.srt hlo (.inr ⟨_, hz0, hcz⟩)
      have hxol := hxo.len
      have hpos : 0 < us.length := by have := (List.getElem?_eq_some_iff.1 hz0).1; omega
      obtain ⟨bs, off, cap, size, hse, hcap, hsize, hLo⟩ := hslo.blk hxol hpos
      cases hse
      subst hLo
      ·
        refine T.region ?_
        refine TL.cons rfl (T1.buildNone ty_27 sz_29 zr_29 (fun b53 => ?_))
        refine TL.cons rfl (V1.t (V1.move' z_D) ?_)
        refine TL.cons rfl (V1.t (V1.move' z_D) ?_)
        refine TL.cons rfl (V1.t (V1.sliceAny 0 at_ ty_27 sz_29 rfl rfl rfl (Nat.zero_le _) (by omega)) ?_)
        refine TL.cons rfl (T1.appendG ty_27 kd_27 sz_29 by_29 zr_29 rfl (by decide) (by decide) rfl rfl (.inr rfl) (SlG.none0 b53) (Src.front (n := us.length) (RdN.at0 z_C) hxol hat) (fun u hu => hxo.ones u (List.mem_of_mem_take hu)) 2002 (by rw [List.length_take]; simp only [List.length_nil]; omega) (by decide) z_B (fun s3 Ls3 hsl3 => ?_))
        rw [List.nil_append] at hsl3
        refine TL.cons rfl (V1.t (V1.assign' z_D) ?_)
        refine TL.nil ?_
        refine T.seq ?_
        refine T.region ?_
        refine TL.cons rfl (V1.t (V1.move' z_D) ?_)
        refine TL.cons rfl (V1.t (V1.loadN one_29 sz_29 rfl (RdN.whole z_C) (by rfl)) ?_)
        refine TL.cons rfl (T1.buildOne (cs := [.int .i64 kx, .string (bstr nx), .slice ax asx.length cx]) ty_27 sz_29 zr_29 (by decide) rfl (by rfl) (fun b60 => ?_))
        refine TL.cons rfl (T1.appendG ty_27 kd_27 sz_29 by_29 zr_29 rfl (by decide) (by decide) rfl rfl (.inr rfl) hsl3 (.sl (vs := [.int .i64 kx, .string (bstr nx), .slice ax asx.length cx]) (RdN.at0 z_C) (by rfl)) (ones rfl) 2002 (by rw [List.length_take]; show _ + 3 ≤ _; omega) (by decide) z_B (fun s4 Ls4 hsl4 => ?_))
        refine TL.cons rfl (V1.t (V1.assign' z_D) ?_)
        refine TL.nil ?_
        refine T.region ?_
        refine TL.cons rfl (V1.t (V1.move' z_D) ?_)
        refine TL.cons rfl (V1.t (V1.move' z_D) ?_)
        refine TL.cons rfl (V1.t (V1.move' z_D) ?_)
        refine TL.cons rfl (V1.t (V1.sliceAny at_ us.length ty_27 sz_29 rfl rfl rfl hat (by omega)) ?_)
        refine TL.cons rfl (T1.appendG ty_27 kd_27 sz_29 by_29 zr_29 rfl (by decide) (by decide) rfl rfl (.inr rfl) hsl4 (Src.back (n := us.length) (RdN.at0 z_C) hxol hat hcap) (fun u hu => hxo.ones u (List.mem_of_mem_drop hu)) 2002 (by rw [List.length_append, List.length_take, List.length_drop]; show _ + 3 + _ ≤ _; omega) (by decide) z_B (fun s5 Ls5 hsl5 => ?_))
        refine TL.cons rfl (V1.t (V1.assign' z_D) ?_)
        refine TL.nil ?_
        refine T.live (l := [(3, _), (4, _), (5, _)]) (.cons z_D (.cons z_D (.cons z_D .nil))) (fun e_ => ?_)
        refine T.region ?_
        refine TL.cons rfl (V1.t (V1.move' z_D) ?_)
        refine TL.cons rfl (V1.t (V1.add (c := ((i + 1 : Nat) : Int)) rfl rfl (by rw [wrap_i64 _ (by omega) (by omega)]; omega)) ?_)
        refine TL.cons rfl (V1.t (V1.assign' z_D) ?_)
        refine TL.nil ?_
        exact ⟨(i + 1, s2, s5), Lq2 ++ (Ls5 ++ G), _, (by simp only; omega), (.cons rfl (.cons rfl (.cons rfl .nil))), .nil, z_A, ⟨Lq2, _, _, Ls5, _, _, rfl, hsl2, hxq.app htx, hsl5, by have h1 := (hxo.take at_ hat).app (TmsR.one hx); have h2 := h1.app (hxo.drop at_ hat); simpa [List.append_assoc] using h2, hpt.next hx0 hio.1 hio.2, .inr (by rw [List.length_append, List.length_cons]; omega)⟩⟩
  ·
    obtain rfl : i = q.length := by omega
    obtain ⟨ao, co, rfl, hro⟩ := hslo.tm hxo
    refine TL.nil ?_
    refine T.cond_f rfl ?_
    refine T.exit ?_
    refine T.seq ?_
    refine T.region ?_
    refine TL.cons rfl (V1.t (V1.move' z_D) ?_)
    refine TL.cons rfl (V1.t (V1.assign' z_D) ?_)
    refine TL.nil ?_
    refine T.ret ?_
    exact ⟨_, Lo ++ G, _, .cons (.tmp z_D) .nil, z_A, Lo, rfl, us, xo, hpt.srt, hpt.done, hslo, hxo⟩

end Go.Proofs.YtlpkcbkflfbclaaGreatDoor.S
