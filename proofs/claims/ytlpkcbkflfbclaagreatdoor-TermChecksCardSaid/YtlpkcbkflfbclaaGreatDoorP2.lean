/- A term is read from its text. -/
import Derived.Test.YtlpkcbkflfbclaaGreatDoorP1
import Derived.Test.YtlpkcbkflfbclaaGreatDoorH9
import Derived.Test.YtlpkcbkflfbclaaGreatDoorT6
namespace Go.Proofs.YtlpkcbkflfbclaaGreatDoor.S
open Go.RowKit

theorem V1.sliceSr {C : Ctx} {e : Env} {L : List Blk} {dst : Option Tmp} {ty : TypeId} {pos : String} {after : Array Edge} {guard : Option (Nat × Bool)} {t : TypeId} {x : Operand} {lo hi : Option Operand} {s r : ByteArray} {l h : Int} (hT : C.P.underlying t = some .string) (hx : ev C.n e x = .string s) (hl : bd C.n e lo 0 = some l) (hh : bd C.n e hi s.size = some h) (h0 : 0 ≤ l) (h1 : l ≤ h) (h2 : h ≤ s.size) (hr : s.extract l.toNat h.toNat = r) : V1 C ⟨dst, .slice t x lo hi none, ty, pos, after, guard⟩ e L (.string r) := hr ▸ V1.sliceS hT hx hl hh h0 h1 h2
theorem V1.addSr {C : Ctx} {e : Env} {L : List Blk} {dst : Option Tmp} {ty : TypeId} {pos : String} {after : Array Edge} {guard : Option (Nat × Bool)} {t yt : TypeId} {x y : Operand} {a b r : List UInt8} (hx : ev C.n e x = .string (bstr a)) (hy : ev C.n e y = .string (bstr b)) (h : a.length + b.length < 2 ^ 63) (hr : a ++ b = r) : V1 C ⟨dst, .binOp .add t x y yt, ty, pos, after, guard⟩ e L (.string (bstr r)) := by
  have e1 : bstr a ++ bstr b = bstr r := by rw [← hr]; apply ByteArray.ext; simp [bstr]
  rw [← e1]
  exact V1.addS hx hy (by show a.toArray.size + b.toArray.size < _; simpa using h)

theorem V1.sliceR {C : Ctx} {e : Env} {L : List Blk} {dst : Option Tmp} {ty : TypeId} {pos : String} {after : Array Edge} {guard : Option (Nat × Bool)} {t : TypeId} {x : Operand} {lo hi : Option Operand} {s r : List UInt8} (l h : Nat) (hT : C.P.underlying t = some .string) (hx : ev C.n e x = .string (bstr s)) (hl : bd C.n e lo 0 = some (l : Int)) (hh : bd C.n e hi s.length = some (h : Int)) (h1 : l ≤ h) (h2 : h ≤ s.length) (hr : (s.drop l).take (h - l) = r) :
    V1 C ⟨dst, .slice t x lo hi none, ty, pos, after, guard⟩ e L (.string (bstr r)) := hr ▸ V1.sliceB l h hT hx hl hh h1 h2
/-! ### What a text begins with -/
/-- What may stand behind a term's text. -/
def okM (m : List UInt8) : Prop := m = [] ∨ ∃ c r, m = c :: r ∧ low c = false ∧ c ≠ 40
theorem okM.drop {m : List UInt8} (h : okM m) : m.dropWhile low = m := by
  rcases h with rfl | ⟨c, r, rfl, h1, _⟩
  · rfl
  · rw [List.dropWhile_cons, if_neg (by rw [h1]; decide)]
theorem okM.pre {m : List UInt8} (h : okM m) : preB [40] m = false := by
  rcases h with rfl | ⟨c, r, rfl, _, h2⟩
  · rfl
  · exact decide_eq_false fun h => h2 (by simpa using h)
theorem okM.cons {c : UInt8} {r : List UInt8} (h1 : low c = false) (h2 : c ≠ 40) : okM (c :: r) := .inr ⟨c, r, rfl, h1, h2⟩
def jr (l : List Tm) : List UInt8 := l.flatMap fun x => 44 :: txt x
theorem join_jr (x : Tm) (l : List Tm) : joinC (txtM (x :: l)) = txt x ++ jr l := by
  have h : ∀ l : List Tm, (txtM l).flatMap (fun x => 44 :: x) = jr l := by
    intro l
    rw [txtM_map]
    unfold jr
    induction l with
    | nil => rfl
    | cons a l ih => rw [List.map_cons, List.flatMap_cons, List.flatMap_cons, ih]
  rw [txtM, joinC, h]
theorem jr_ok (l : List Tm) (m : List UInt8) : okM (jr l ++ 41 :: m) := by
  cases l with
  | nil => exact okM.cons (by decide) (by decide)
  | cons x l => exact okM.cons (by decide) (by decide)
/-- What is left to read ahead of the i-th of some terms. -/
def rst (ts : List Tm) (i : Nat) (m : List UInt8) : List UInt8 := joinC (txtM (ts.drop i)) ++ 41 :: m
theorem rst_at {ts : List Tm} {i : Nat} {x : Tm} {m : List UInt8} (h : ts[i]? = some x) : rst ts i m = txt x ++ (jr (ts.drop (i + 1)) ++ 41 :: m) := by
  obtain ⟨h1, h2⟩ := List.getElem?_eq_some_iff.1 h
  unfold rst
  rw [List.drop_eq_getElem_cons h1, h2, join_jr, List.append_assoc]
theorem rst_more {ts : List Tm} {i : Nat} {m : List UInt8} (h : i < ts.length) : jr (ts.drop i) ++ 41 :: m = 44 :: rst ts i m := by
  unfold rst
  rw [List.drop_eq_getElem_cons h, join_jr]
  unfold jr
  rw [List.flatMap_cons]; rfl
theorem rst_end {ts : List Tm} {m : List UInt8} : jr (ts.drop ts.length) ++ 41 :: m = 41 :: m := by rw [List.drop_length]; rfl
theorem tsz {ts : List Tm} {i sz : Nat} {x : Tm} (h : ts[i]? = some x) : sz + 1 + tsize (ts.take i) + x.size = sz + 1 + tsize (ts.take (i + 1)) := by
  rw [List.take_add_one, h, tsize_app]; simp [tsize]; omega
theorem tsz_le {ts : List Tm} {i : Nat} {x : Tm} (h : ts[i]? = some x) : tsize (ts.take i) + x.size ≤ tsize ts := by
  have h1 := List.take_append_drop (i + 1) ts
  have h2 : tsize (ts.take (i + 1)) + tsize (ts.drop (i + 1)) = tsize ts := by rw [← tsize_app, h1]
  have h3 := tsz (sz := 0) h
  omega
/-- The kind that is seen at first. -/
def kdT (k : Int) : Int := if k = 4 then 1 else k
def kv (K : Int) (x : Nat) : Int := if 2 ≤ kdT K ∧ kdT K < x then kdT K else 1
theorem kv_hit {K : Int} {k : Nat} (h : kdT K = k) (h2 : 2 ≤ k) : kv K (k + 1) = k := by unfold kv; rw [if_pos (by omega), h]
theorem kv_miss {K : Int} {k : Nat} (h : kdT K ≠ k) : kv K (k + 1) = kv K k := by
  unfold kv
  by_cases h2 : 2 ≤ kdT K ∧ kdT K < k
  · rw [if_pos h2, if_pos (by omega)]
  · rw [if_neg h2, if_neg (by omega)]
theorem kdT_le {K : Int} {nm : List UInt8} {n : Nat} (h : headOk K nm n = true) : 1 ≤ kdT K ∧ kdT K ≤ 8 := by
  have := headOk_kinds h
  unfold kdT; split <;> omega
theorem kv_2 (K : Int) : kv K 2 = 1 := by unfold kv; rw [if_neg (by omega)]
theorem kv_9 {K : Int} {nm : List UInt8} {n : Nat} (h : headOk K nm n = true) : kv K 9 = kdT K := by
  have := kdT_le h
  unfold kv
  by_cases h2 : 2 ≤ kdT K ∧ kdT K < (9 : Nat)
  · rw [if_pos h2]
  · rw [if_neg h2]; omega
theorem named_all {n : List UInt8} (h : named n = true) : ∀ x ∈ n, low x = true := by
  unfold named at h
  simp only [Bool.and_eq_true, List.all_eq_true] at h
  exact h.2
theorem named_cons {n : List UInt8} (h : named n = true) : ∃ a l, n = a :: l ∧ low a = true := by
  have h1 := named_all h
  cases n with
  | nil => have := (named_len h).1; simp at this
  | cons a l => exact ⟨a, l, rfl, h1 a (by simp)⟩
theorem low_40 {a : UInt8} (h : low a = true) : a ≠ 40 := by rintro rfl; exact absurd h (by decide)
theorem preB2_f {c a b : UInt8} {s : List UInt8} (h : b ≠ 40) : preB [c, 40] (a :: b :: s) = false := decide_eq_false fun e => h (by simp at e; exact e.2)
theorem preB2_1 {c a : UInt8} : preB [c, 40] [a] = false := decide_eq_false fun e => by simp at e
theorem preB1 {c a : UInt8} {s : List UInt8} : preB [c] (a :: s) = decide (a = c) := by unfold preB; simp
theorem preB2 {c a : UInt8} {s : List UInt8} : preB [c, 40] (a :: 40 :: s) = decide (a = c) := by unfold preB; simp
/-- What a term's text looks like. -/
theorem txt_shape {K : Int} {nm : List UInt8} {ts : List Tm} (h : headOk K nm ts.length = true) :
    (K = 1 ∧ ts = [] ∧ named nm = true ∧ txt (.mk K nm ts) = nm) ∨ (K = 4 ∧ 0 < ts.length ∧ named nm = true ∧ txt (.mk K nm ts) = 104 :: (nm ++ (40 :: (joinC (txtM ts) ++ [41])))) ∨
      ((K = 2 ∨ K = 3 ∨ K = 5 ∨ K = 6 ∨ K = 7 ∨ K = 8) ∧ 0 < ts.length ∧ nm = [] ∧ txt (.mk K nm ts) = sgN K.toNat :: 40 :: (joinC (txtM ts) ++ [41])) := by
  rcases headOk_kinds h with rfl | rfl | rfl | rfl | rfl | rfl | rfl | rfl
  · obtain ⟨h1, h2⟩ := headOk_one h
    exact .inl ⟨rfl, List.length_eq_zero_iff.1 h1, h2, by rw [txt, if_pos rfl]⟩
  · obtain ⟨h1, h2⟩ := headOk_two h (by decide); subst h2; exact .inr (.inr ⟨by decide, by omega, rfl, by rw [txt]; rfl⟩)
  · obtain ⟨h1, h2⟩ := headOk_two h (by decide); subst h2; exact .inr (.inr ⟨by decide, by omega, rfl, by rw [txt]; rfl⟩)
  · obtain ⟨h1, h2, h3⟩ := headOk_four h
    exact .inr (.inl ⟨rfl, by omega, h3, by rw [txt, if_neg (by decide), if_pos rfl]; rfl⟩)
  · obtain ⟨h1, h2⟩ := headOk_five h; subst h2; exact .inr (.inr ⟨by decide, by omega, rfl, by rw [txt]; rfl⟩)
  · obtain ⟨h1, h2⟩ := headOk_two h (by decide); subst h2; exact .inr (.inr ⟨by decide, by omega, rfl, by rw [txt]; rfl⟩)
  · obtain ⟨h1, h2⟩ := headOk_two h (by decide); subst h2; exact .inr (.inr ⟨by decide, by omega, rfl, by rw [txt]; rfl⟩)
  · obtain ⟨h1, h2⟩ := headOk_two h (by decide); subst h2; exact .inr (.inr ⟨by decide, by omega, rfl, by rw [txt]; rfl⟩)
theorem sg_inj : ∀ a < 9, ∀ b < 9, 1 < a → 1 < b → sgN a = sgN b → a = b := by decide +kernel
theorem pre2_iff {K : Int} {nm more : List UInt8} {ts : List Tm} (h : headOk K nm ts.length = true) (hm : okM more) {k : Nat} (h2 : 1 < k) (h8 : k < 9) : preB [sgN k, 40] (txt (.mk K nm ts) ++ more) = decide (kdT K = (k : Int)) := by
  rcases txt_shape h with ⟨rfl, rfl, hn, ht⟩ | ⟨rfl, _, hn, ht⟩ | ⟨hK, _, rfl, ht⟩
  · rw [ht, decide_eq_false (show ¬ kdT 1 = (k : Int) from by show ¬ (1 : Int) = _; omega)]
    obtain ⟨a, l, rfl, ha⟩ := named_cons hn
    cases l with
    | nil =>
      rcases hm with rfl | ⟨c, r, rfl, _, hc⟩
      · exact preB2_1
      · exact preB2_f hc
    | cons b l => exact preB2_f (low_40 (named_all hn b (by simp)))
  · rw [ht, decide_eq_false (show ¬ kdT 4 = (k : Int) from by show ¬ (1 : Int) = _; omega)]
    obtain ⟨a, l, rfl, ha⟩ := named_cons hn
    exact preB2_f (low_40 ha)
  · have hk : kdT K = K := by unfold kdT; rw [if_neg (by omega)]
    rw [ht, hk]
    show preB [sgN k, 40] (sgN K.toNat :: 40 :: _) = _
    rw [preB2]
    refine decide_eq_decide.2 ⟨fun e => ?_, fun e => by rw [e, Int.toNat_natCast]⟩
    have := sg_inj K.toNat (by omega) k h8 (by omega) h2 e
    omega
theorem sg_low : ∀ k, k = 5 ∨ k = 6 ∨ k = 7 → low (sgN k) = false ∧ sgN k ≠ 104 := by rintro k (rfl | rfl | rfl) <;> decide
theorem pre1_iff {K : Int} {nm more : List UInt8} {ts : List Tm} (h : headOk K nm ts.length = true) {k : Nat} (h5 : k = 5 ∨ k = 6 ∨ k = 7) : preB [sgN k] (txt (.mk K nm ts) ++ more) = decide (kdT K = (k : Int)) := by
  rcases txt_shape h with ⟨rfl, rfl, hn, ht⟩ | ⟨rfl, _, hn, ht⟩ | ⟨hK, _, rfl, ht⟩
  · rw [ht, decide_eq_false (show ¬ kdT 1 = (k : Int) from by show ¬ (1 : Int) = _; omega)]
    obtain ⟨a, l, rfl, ha⟩ := named_cons hn
    show preB [sgN k] (a :: _) = _
    rw [preB1]
    exact decide_eq_false fun e => by rw [e, (sg_low k h5).1] at ha; cases ha
  · rw [ht, decide_eq_false (show ¬ kdT 4 = (k : Int) from by show ¬ (1 : Int) = _; omega)]
    show preB [sgN k] (104 :: _) = _
    rw [preB1]
    exact decide_eq_false fun e => (sg_low k h5).2 e.symm
  · have hk : kdT K = K := by unfold kdT; rw [if_neg (by omega)]
    rw [ht, hk]
    show preB [sgN k] (sgN K.toNat :: _) = _
    rw [preB1]
    refine decide_eq_decide.2 ⟨fun e => ?_, fun e => by rw [e, Int.toNat_natCast]⟩
    have := sg_inj K.toNat (by omega) k (by omega) (by omega) (by omega) e
    omega
theorem pre2_t {K : Int} {nm more : List UInt8} {ts : List Tm} (h : headOk K nm ts.length = true) (hm : okM more) {k : Nat} (h2 : 1 < k) (h8 : k < 9) (hk : kdT K = (k : Int)) : preB [sgN k, 40] (txt (.mk K nm ts) ++ more) = true := by rw [pre2_iff h hm h2 h8, decide_eq_true hk]
theorem pre2_f {K : Int} {nm more : List UInt8} {ts : List Tm} (h : headOk K nm ts.length = true) (hm : okM more) {k : Nat} (h2 : 1 < k) (h8 : k < 9) (hk : kdT K ≠ (k : Int)) : preB [sgN k, 40] (txt (.mk K nm ts) ++ more) = false := by rw [pre2_iff h hm h2 h8, decide_eq_false hk]
theorem pre1_t {K : Int} {nm more : List UInt8} {ts : List Tm} (h : headOk K nm ts.length = true) {k : Nat} (h5 : k = 5 ∨ k = 6 ∨ k = 7) (hk : kdT K = (k : Int)) : preB [sgN k] (txt (.mk K nm ts) ++ more) = true := by rw [pre1_iff h h5, decide_eq_true hk]
theorem pre1_f {K : Int} {nm more : List UInt8} {ts : List Tm} (h : headOk K nm ts.length = true) {k : Nat} (h5 : k = 5 ∨ k = 6 ∨ k = 7) (hk : kdT K ≠ (k : Int)) : preB [sgN k] (txt (.mk K nm ts) ++ more) = false := by rw [pre1_iff h h5, decide_eq_false hk]
theorem sg_at : ∀ k < 9, sSigns.extract (((k : Nat) : Int)).toNat (((k + 1 : Nat) : Int)).toNat = bstr [sgN k] ∨ k < 2 := by decide +kernel
theorem DefC.of2 {P : Program} {w0 : World} {n : FrS} {f : FuncId} {x : Value} {Ps L G : List Blk} {B1 B2 C1 C2 : Blk} (hf : Has P f) (h : FnD P f [x] w0 Ps [B1, B2] [C1, C2]) (ht : Take L [B1, B2] G) (hi : Inc Ps G) : DefC ⟨P, w0, [], n⟩ ⟨.fn (.func f) #[x], #[]⟩ L (C1 :: C2 :: G) := @DefC.of P w0 n f [x] Ps [B1, B2] [C1, C2] L G hf h ht hi

theorem sign_yes (w0 : World) (br dp sz : Nat) (c : UInt8) (s : List UInt8) : FnG P 96 [.pointer (some ⟨br, 0, none⟩), .string (bstr [c])] w0 [] [(⟨br, 0, [.string (bstr (c :: s)), .int .i64 (dp : Nat), .int .i64 (sz : Nat)], 3⟩ : Blk)] (fun v Y => v = .bool true ∧ Y = [(⟨br, 0, [.string (bstr s), .int .i64 (dp : Nat), .int .i64 (sz : Nat)], 3⟩ : Blk)]) := by
  have h1 : preB [c] (c :: s) = true := by rw [preB1]; exact decide_eq_true rfl
  refine (sign_any w0 br dp sz (c :: s) [c]).mono ?_
  rintro v Y ⟨rfl, rfl⟩
  rw [h1]
  exact ⟨rfl, rfl⟩
theorem sign_no (w0 : World) (br dp sz : Nat) (p s : List UInt8) (h : preB p s = false) : FnG P 96 [.pointer (some ⟨br, 0, none⟩), .string (bstr p)] w0 [] [(⟨br, 0, [.string (bstr s), .int .i64 (dp : Nat), .int .i64 (sz : Nat)], 3⟩ : Blk)] (fun v Y => v = .bool false ∧ Y = [(⟨br, 0, [.string (bstr s), .int .i64 (dp : Nat), .int .i64 (sz : Nat)], 3⟩ : Blk)]) := by
  refine (sign_any w0 br dp sz s p).mono ?_
  rintro v Y ⟨rfl, rfl⟩
  rw [h]
  exact ⟨rfl, rfl⟩
/-- What reading a term comes to. -/
def TermAt (w0 : World) (t : Tm) : Prop := ∀ (br dp sz : Nat) (more : List UInt8), shp t = true → dp + t.deep ≤ 24 → sz + t.size ≤ 1000 → okM more → (txt t ++ more).length ≤ 1000000 →
  FnG P 63 [.pointer (some ⟨br, 0, none⟩)] w0 [] [(⟨br, 0, [.string (bstr (txt t ++ more)), .int .i64 (dp : Nat), .int .i64 (sz : Nat)], 3⟩ : Blk)] (fun v Y => ∃ cs Q, v = .agg cs.toArray ∧ Y = (⟨br, 0, [.string (bstr more), .int .i64 (dp : Nat), .int .i64 (sz + t.size : Nat)], 3⟩ : Blk) :: Q ∧ TmR w0 Q t cs)

theorem join_drop (ts : List Tm) (i : Nat) : (joinC (txtM (ts.drop i))).length ≤ (joinC (txtM ts)).length := by
  have key : ∀ (a b : List (List UInt8)), (joinC b).length ≤ (joinC (a ++ b)).length := by
    intro a b
    cases a with
    | nil => exact Nat.le_refl _
    | cons x a =>
      cases b with
      | nil => simp [joinC]
      | cons y b => simp only [joinC, List.cons_append, List.flatMap_append, List.flatMap_cons, List.length_append, List.length_cons]; omega
  have := key (txtM (ts.take i)) (txtM (ts.drop i))
  rwa [txtM_map, txtM_map, ← List.map_append, List.take_append_drop, ← txtM_map, ← txtM_map] at this
theorem rst_len {K : Int} {nm more : List UInt8} {ts : List Tm} {i : Nat} (hl : (txt (.mk K nm ts) ++ more).length ≤ 1000000) (h : headOk K nm ts.length = true) (h0 : 0 < ts.length) (_ : i < ts.length) : (rst ts i more).length ≤ 1000000 := by
  have h1 := join_drop ts i
  unfold rst
  rw [List.length_append, List.length_cons] at *
  have h2 : (joinC (txtM ts)).length + 1 ≤ (txt (.mk K nm ts)).length := by
    rcases txt_shape h with ⟨_, rfl, _, _⟩ | ⟨_, _, _, ht⟩ | ⟨_, _, _, ht⟩
    · simp at h0
    · rw [ht]; simp only [List.length_cons, List.length_append, List.length_nil]; omega
    · rw [ht]; simp only [List.length_cons, List.length_append, List.length_nil]; omega
  omega

set_option maxRecDepth 100000 in
set_option maxHeartbeats 8000000 in
theorem term_step (w0 : World) {K : Int} {nm : List UInt8} {ts : List Tm} (ih : ∀ x ∈ ts, TermAt w0 x) (br dp sz : Nat) (more : List UInt8) (hsh : shp (.mk K nm ts) = true) (hdp : dp + (Tm.mk K nm ts).deep ≤ 24) (hszt : sz + (Tm.mk K nm ts).size ≤ 1000) (hmore : okM more) (hlen : (txt (.mk K nm ts) ++ more).length ≤ 1000000) : FnG P 63 [.pointer (some ⟨br, 0, none⟩)] w0 [] [(⟨br, 0, [.string (bstr (txt (.mk K nm ts) ++ more)), .int .i64 (dp : Nat), .int .i64 (sz : Nat)], 3⟩ : Blk)] (fun v Y => ∃ cs Q, v = .agg cs.toArray ∧ Y = (⟨br, 0, [.string (bstr more), .int .i64 (dp : Nat), .int .i64 (sz + (Tm.mk K nm ts).size : Nat)], 3⟩ : Blk) :: Q ∧ TmR w0 Q (.mk K nm ts) cs) := by
  obtain ⟨hhd, hss⟩ := shp_mk.1 hsh
  have hsize : sz + (Tm.mk K nm ts).size = sz + 1 + tsize ts := by rw [Tm.size]; omega
  have hlen5 := tsize_len ts
  rw [Tm.deep] at hdp
  refine FnG.ofD 140 Go.Proofs.Tryz.func63 rfl rfl rfl (fun G hG => ?_)
  simp only [List.cons_append, List.nil_append]
  refine TG.seq ?_
  refine T.region ?_
  refine TL.cons rfl (T1.box1 z_D rfl (fun b1 => ?_))
  refine TL.cons rfl (T1.allocN 3 zr_24 rfl (fun b2 => ?_))
  refine TL.nil ?_
  refine TG.seq ?_
  refine T.region ?_
  refine TL.cons rfl (V1.t (V1.load1 (v := .pointer (some ⟨br, 0, none⟩)) one_113 rfl (.own z_C (by rfl))) ?_)
  refine TL.cons rfl (V1.t (V1.nilCheck rfl) ?_)
  refine TL.cons rfl (V1.t (V1.fieldAddr fl_115_1 rfl) ?_)
  refine TL.cons rfl (V1.t (V1.load1 (v := .int .i64 ((dp : Nat) : Int)) one_3 rfl (.own z_C (by rfl))) ?_)
  refine TL.cons rfl (V1.t (V1.add (c := ((dp + 1 : Nat) : Int)) rfl rfl (by rw [wrap_i64 _ (by omega) (by omega)]; omega)) ?_)
  refine TL.cons rfl (V1.t (V1.nilCheck rfl) ?_)
  refine TL.cons rfl (V1.t (V1.fieldAddr fl_115_1 rfl) ?_)
  refine TL.cons rfl (T1.store1 rfl rfl sz_3 rfl z_G (Nat.zero_le _) z_H ?_)
  refine TL.nil ?_
  refine TG.seq ?_
  refine T.region ?_
  refine TL.cons rfl (V1.t (V1.load1 (v := .pointer (some ⟨br, 0, none⟩)) one_113 rfl (.own z_C (by rfl))) ?_)
  refine TL.cons rfl (V1.t (V1.nilCheck rfl) ?_)
  refine TL.cons rfl (V1.t (V1.fieldAddr fl_115_2 rfl) ?_)
  refine TL.cons rfl (V1.t (V1.load1 (v := .int .i64 ((sz : Nat) : Int)) one_3 rfl (.own z_C (by rfl))) ?_)
  refine TL.cons rfl (V1.t (V1.add (c := ((sz + 1 : Nat) : Int)) rfl rfl (by rw [wrap_i64 _ (by omega) (by omega)]; omega)) ?_)
  refine TL.cons rfl (V1.t (V1.nilCheck rfl) ?_)
  refine TL.cons rfl (V1.t (V1.fieldAddr fl_115_2 rfl) ?_)
  refine TL.cons rfl (T1.store1 rfl rfl sz_3 rfl z_G (Nat.zero_le _) z_H ?_)
  refine TL.nil ?_
  refine TG.seq ?_
  refine T.live (l := [(1, _), (2, _)]) (.cons z_D (.cons z_D .nil)) (fun e_ => ?_)
  refine T.drawDet' mixed (by decide +kernel) ?_
  refine Det.cons 0 (ins := [(1, _)]) (.old z_D (by decide +kernel) .nil) (fun e_ => .inl ⟨rfl, V1.t (V1.load1 (v := .pointer (some ⟨br, 0, none⟩)) one_113 rfl (.own z_C (by rfl))) ⟨rfl, rfl⟩⟩) ?_
  refine Det.cons 1 (ins := [(1, _)]) (.old z_D (by decide +kernel) .nil) (fun e_ => .inl ⟨rfl, V1.t (V1.load1 (v := .pointer (some ⟨br, 0, none⟩)) one_113 rfl (.own z_C (by rfl))) ⟨rfl, rfl⟩⟩) ?_
  refine Det.cons 2 (ins := [(21, _)]) (.new 1 0 (by decide +kernel) rfl rfl .nil) (fun e_ => .inl ⟨rfl, V1.t (V1.nilCheck rfl) ⟨rfl, rfl⟩⟩) ?_
  refine Det.cons 3 (ins := [(22, _)]) (.new 2 0 (by decide +kernel) rfl rfl .nil) (fun e_ => .inl ⟨rfl, V1.t (V1.fieldAddr fl_115_1 rfl) ⟨rfl, rfl⟩⟩) ?_
  refine Det.cons 4 (ins := [(23, _)]) (.new 3 0 (by decide +kernel) rfl rfl .nil) (fun e_ => .inl ⟨rfl, V1.t (V1.load1 (v := .int .i64 ((dp + 1 : Nat) : Int)) one_3 rfl (.own z_C (by rfl))) ⟨rfl, rfl⟩⟩) ?_
  refine Det.cons 5 (ins := [(24, _)]) (.new 4 0 (by decide +kernel) rfl rfl .nil) (fun e_ => .inl ⟨rfl, V1.t (V1.leI (r := true) rfl rfl (decide_eq_true (by omega))) ⟨rfl, rfl⟩⟩) ?_
  refine Det.cons 6 (ins := [(25, _)]) (.new 5 0 (by decide +kernel) rfl rfl .nil) (fun e_ => .inl ⟨rfl, V1.t (V1.move' z_D) ⟨rfl, rfl⟩⟩) ?_
  refine Det.cons 7 (ins := [(1, _), (26, _)]) (.old z_D (by decide +kernel) (.new 6 0 (by decide +kernel) rfl rfl .nil)) (fun e_ => .inl ⟨rfl, V1.t (V1.load1 (v := .pointer (some ⟨br, 0, none⟩)) one_113 rfl (.own z_C (by rfl))) ⟨rfl, rfl⟩⟩) ?_
  refine Det.cons 8 (ins := [(26, _), (27, _)]) (.new 6 1 (by decide +kernel) rfl rfl (.new 7 0 (by decide +kernel) rfl rfl .nil)) (fun e_ => .inl ⟨rfl, V1.t (V1.nilCheck rfl) ⟨rfl, rfl⟩⟩) ?_
  refine Det.cons 9 (ins := [(26, _), (28, _)]) (.new 6 2 (by decide +kernel) rfl rfl (.new 8 0 (by decide +kernel) rfl rfl .nil)) (fun e_ => .inl ⟨rfl, V1.t (V1.fieldAddr fl_115_2 rfl) ⟨rfl, rfl⟩⟩) ?_
  refine Det.cons 10 (ins := [(26, _), (29, _)]) (.new 6 3 (by decide +kernel) rfl rfl (.new 9 0 (by decide +kernel) rfl rfl .nil)) (fun e_ => .inl ⟨rfl, V1.t (V1.load1 (v := .int .i64 ((sz + 1 : Nat) : Int)) one_3 rfl (.own z_C (by rfl))) ⟨rfl, rfl⟩⟩) ?_
  refine Det.cons 11 (ins := [(26, _), (30, _)]) (.new 6 4 (by decide +kernel) rfl rfl (.new 10 0 (by decide +kernel) rfl rfl .nil)) (fun e_ => .inl ⟨rfl, V1.t (V1.leI (r := true) rfl rfl (decide_eq_true (by omega))) ⟨rfl, rfl⟩⟩) ?_
  refine Det.cons 12 (ins := [(26, _), (31, _)]) (.new 6 5 (by decide +kernel) rfl rfl (.new 11 0 (by decide +kernel) rfl rfl .nil)) (fun e_ => .inl ⟨rfl, V1.t (V1.pick rfl z_D) ⟨rfl, rfl⟩⟩) ?_
  refine Det.cons 13 (ins := [(20, _), (32, _)]) (v := .tuple #[]) (.new 0 12 (by decide +kernel) rfl rfl (.new 12 0 (by decide +kernel) rfl rfl .nil)) (fun e_ => .inl ⟨rfl, ?_⟩) ?_
  · refine T1.callV has_64 rfl rfl (need_any w0 _) z_E (fun v_ hv => ?_)
    obtain rfl := hv
    exact ⟨rfl, rfl⟩
  refine Det.nil 14 (l := [(1, _), (2, _)]) (.old z_D (by decide +kernel) (.old z_D (by decide +kernel) .nil)) (fun e_ => ?_)
  refine TG.deferSeq ?_
  refine TLG.cons rfl (V1.t (V1.makeFuncC z_D) ?_)
  refine TLG.defer rfl ?_
  refine TG.leave rfl ?_
  refine T.seq ?_
  refine T.region ?_
  refine TL.cons rfl (V1.t (V1.assign' z_D) ?_)
  refine TL.nil ?_
  refine T.seq ?_
  refine T.seq ?_
  refine T.region ?_
  refine TL.cons rfl (V1.t (V1.assign' z_D) ?_)
  refine TL.nil ?_
  refine T.block ?_
  refine T.loopL (σ := Nat) (l0 := [(1, _), (2, _)]) (fun x => [(4, .int .i64 (x : Nat)), (3, .int .i64 (kv K x))]) (fun x L => L = (⟨b2, 0, [.int .i64 0, .string ⟨#[]⟩, .slice none 0 0], 3⟩ : Blk) :: (⟨b1, 0, [.pointer (some ⟨br, 0, none⟩)], 1⟩ : Blk) :: (⟨br, 0, [.string (bstr (txt (.mk K nm ts) ++ more)), .int .i64 (dp + 1 : Nat), .int .i64 (sz + 1 : Nat)], 3⟩ : Blk) :: G ∧ 2 ≤ x ∧ x ≤ 9) (fun x => 9 - x) 2 (.cons rfl (.cons (congrArg (Value.int .i64) (kv_2 K).symm) .nil)) (.cons z_D (.cons z_D .nil)) z_A (⟨rfl, by decide, by decide⟩) ?_
  rintro x e_ L ⟨rfl, hx2, hx9⟩
  refine T.seq ?_
  refine T.seq ?_
  refine T.region ?_
  refine TL.cons rfl (V1.t (V1.move' z_D) ?_)
  refine TL.cons rfl (T1.ltI_split rfl rfl (fun h7 => ?_) (fun h7 => ?_))
  ·
    refine TL.nil ?_
    refine T.cond_t rfl ?_
    refine T.skip ?_
    refine T.seq ?_
    refine T.block ?_
    refine T.seq ?_
    have hx7 : (x = 2 ∧ kdT K = ((2 : Nat) : Int)) ∨ (x = 2 ∧ kdT K ≠ ((2 : Nat) : Int)) ∨ (x = 3 ∧ kdT K = ((3 : Nat) : Int)) ∨ (x = 3 ∧ kdT K ≠ ((3 : Nat) : Int)) ∨ (x = 4 ∧ kdT K = ((4 : Nat) : Int)) ∨ (x = 4 ∧ kdT K ≠ ((4 : Nat) : Int)) ∨ (x = 5 ∧ kdT K = ((5 : Nat) : Int)) ∨ (x = 5 ∧ kdT K ≠ ((5 : Nat) : Int)) ∨ (x = 6 ∧ kdT K = ((6 : Nat) : Int)) ∨ (x = 6 ∧ kdT K ≠ ((6 : Nat) : Int)) ∨ (x = 7 ∧ kdT K = ((7 : Nat) : Int)) ∨ (x = 7 ∧ kdT K ≠ ((7 : Nat) : Int)) ∨ (x = 8 ∧ kdT K = ((8 : Nat) : Int)) ∨ (x = 8 ∧ kdT K ≠ ((8 : Nat) : Int)) := by omega
    obtain ⟨rfl, hkk⟩ | ⟨rfl, hkk⟩ | ⟨rfl, hkk⟩ | ⟨rfl, hkk⟩ | ⟨rfl, hkk⟩ | ⟨rfl, hkk⟩ | ⟨rfl, hkk⟩ | ⟨rfl, hkk⟩ | ⟨rfl, hkk⟩ | ⟨rfl, hkk⟩ | ⟨rfl, hkk⟩ | ⟨rfl, hkk⟩ | ⟨rfl, hkk⟩ | ⟨rfl, hkk⟩ := hx7
    ·
      refine T.drawDet' mixed (by decide +kernel) ?_
      refine Det.cons 0 (ins := [(4, _)]) (.old z_D (by decide +kernel) .nil) (fun e_ => .inl ⟨rfl, V1.t (V1.move' z_D) ⟨rfl, rfl⟩⟩) ?_
      refine Det.cons 1 (ins := [(39, _)]) (.new 0 0 (by decide +kernel) rfl rfl .nil) (fun e_ => .inl ⟨rfl, V1.t (V1.neI (r := true) rfl rfl (by decide)) ⟨rfl, rfl⟩⟩) ?_
      refine Det.cons 2 (ins := [(40, _)]) (.new 1 0 (by decide +kernel) rfl rfl .nil) (fun e_ => .inl ⟨rfl, V1.t (V1.move' z_D) ⟨rfl, rfl⟩⟩) ?_
      refine Det.cons 3 (ins := [(4, _), (41, _)]) (.old z_D (by decide +kernel) (.new 2 0 (by decide +kernel) rfl rfl .nil)) (fun e_ => .inl ⟨rfl, V1.t (V1.move' z_D) ⟨rfl, rfl⟩⟩) ?_
      refine Det.cons 4 (ins := [(41, _), (42, _)]) (.new 2 1 (by decide +kernel) rfl rfl (.new 3 0 (by decide +kernel) rfl rfl .nil)) (fun e_ => .inl ⟨rfl, V1.t (V1.neI (r := false) rfl rfl (by decide)) ⟨rfl, rfl⟩⟩) ?_
      refine Det.cons 5 (ins := [(41, _), (43, _)]) (.new 2 2 (by decide +kernel) rfl rfl (.new 4 0 (by decide +kernel) rfl rfl .nil)) (fun e_ => .inl ⟨rfl, V1.t (V1.pick rfl z_D) ⟨rfl, rfl⟩⟩) ?_
      refine Det.cons 6 (ins := [(44, _)]) (.new 5 0 (by decide +kernel) rfl rfl .nil) (fun e_ => .inl ⟨rfl, V1.t (V1.move' z_D) ⟨rfl, rfl⟩⟩) ?_
      refine Det.cons 7 (ins := [(45, _)]) (.new 6 0 (by decide +kernel) rfl rfl .nil) (fun e_ => .inr ⟨rfl, rfl⟩) ?_
      refine Det.cons 8 (ins := [(45, _)]) (.new 6 1 (by decide +kernel) rfl rfl .nil) (fun e_ => .inr ⟨rfl, rfl⟩) ?_
      refine Det.cons 9 (ins := [(45, _), (47, _)]) (.new 6 2 (by decide +kernel) rfl rfl (.new 8 0 (by decide +kernel) rfl rfl .nil)) (fun e_ => .inl ⟨rfl, V1.t (V1.pick rfl z_D) ⟨rfl, rfl⟩⟩) ?_
      refine Det.cons 10 (ins := [(48, _)]) (.new 9 0 (by decide +kernel) rfl rfl .nil) (fun e_ => .inl ⟨rfl, V1.t (V1.move' z_D) ⟨rfl, rfl⟩⟩) ?_
      refine Det.cons 11 (ins := [(49, _)]) (.new 10 0 (by decide +kernel) rfl rfl .nil) (fun e_ => .inr ⟨rfl, rfl⟩) ?_
      refine Det.cons 12 (ins := [(49, _)]) (.new 10 1 (by decide +kernel) rfl rfl .nil) (fun e_ => .inr ⟨rfl, rfl⟩) ?_
      refine Det.cons 13 (ins := [(49, _), (51, _)]) (.new 10 2 (by decide +kernel) rfl rfl (.new 12 0 (by decide +kernel) rfl rfl .nil)) (fun e_ => .inl ⟨rfl, V1.t (V1.pick rfl z_D) ⟨rfl, rfl⟩⟩) ?_
      refine Det.cons 14 (ins := [(52, _)]) (.new 13 0 (by decide +kernel) rfl rfl .nil) (fun e_ => .inl ⟨rfl, V1.t (V1.move' z_D) ⟨rfl, rfl⟩⟩) ?_
      refine Det.cons 15 (ins := [(53, _)]) (.new 14 0 (by decide +kernel) rfl rfl .nil) (fun e_ => .inr ⟨rfl, rfl⟩) ?_
      refine Det.cons 16 (ins := [(53, _)]) (.new 14 1 (by decide +kernel) rfl rfl .nil) (fun e_ => .inr ⟨rfl, rfl⟩) ?_
      refine Det.cons 17 (ins := [(53, _)]) (.new 14 2 (by decide +kernel) rfl rfl .nil) (fun e_ => .inr ⟨rfl, rfl⟩) ?_
      refine Det.cons 18 (ins := [(53, _)]) (.new 14 3 (by decide +kernel) rfl rfl .nil) (fun e_ => .inr ⟨rfl, rfl⟩) ?_
      refine Det.cons 19 (ins := [(53, _)]) (.new 14 4 (by decide +kernel) rfl rfl .nil) (fun e_ => .inr ⟨rfl, rfl⟩) ?_
      refine Det.cons 20 (ins := [(53, _)]) (.new 14 5 (by decide +kernel) rfl rfl .nil) (fun e_ => .inr ⟨rfl, rfl⟩) ?_
      refine Det.cons 21 (ins := [(53, _)]) (.new 14 6 (by decide +kernel) rfl rfl .nil) (fun e_ => .inr ⟨rfl, rfl⟩) ?_
      refine Det.cons 22 (ins := [(53, _)]) (.new 14 7 (by decide +kernel) rfl rfl .nil) (fun e_ => .inr ⟨rfl, rfl⟩) ?_
      refine Det.cons 23 (ins := [(53, _)]) (.new 14 8 (by decide +kernel) rfl rfl .nil) (fun e_ => .inr ⟨rfl, rfl⟩) ?_
      refine Det.cons 24 (ins := [(53, _), (62, _)]) (.new 14 9 (by decide +kernel) rfl rfl (.new 23 0 (by decide +kernel) rfl rfl .nil)) (fun e_ => .inl ⟨rfl, V1.t (V1.pick rfl z_D) ⟨rfl, rfl⟩⟩) ?_
      refine Det.cons 25 (ins := [(63, _)]) (.new 24 0 (by decide +kernel) rfl rfl .nil) (fun e_ => .inl ⟨rfl, V1.t (V1.move' z_D) ⟨rfl, rfl⟩⟩) ?_
      refine Det.cons 26 (ins := [(1, _), (64, _)]) (.old z_D (by decide +kernel) (.new 25 0 (by decide +kernel) rfl rfl .nil)) (fun e_ => .inl ⟨rfl, V1.t (V1.load1 (v := .pointer (some ⟨br, 0, none⟩)) one_113 rfl (.own z_C (by rfl))) ⟨rfl, rfl⟩⟩) ?_
      refine Det.cons 27 (ins := [(64, _), (65, _)]) (.new 25 1 (by decide +kernel) rfl rfl (.new 26 0 (by decide +kernel) rfl rfl .nil)) (fun e_ => .inl ⟨rfl, V1.t (V1.nilCheck rfl) ⟨rfl, rfl⟩⟩) ?_
      refine Det.cons 28 (ins := [(64, _), (66, _)]) (.new 25 2 (by decide +kernel) rfl rfl (.new 27 0 (by decide +kernel) rfl rfl .nil)) (fun e_ => .inl ⟨rfl, V1.t (V1.fieldAddr fl_115_0 rfl) ⟨rfl, rfl⟩⟩) ?_
      refine Det.cons 29 (ins := [(64, _), (67, _)]) (.new 25 3 (by decide +kernel) rfl rfl (.new 28 0 (by decide +kernel) rfl rfl .nil)) (fun e_ => .inl ⟨rfl, V1.t (V1.load1 (v := .string (bstr (txt (.mk K nm ts) ++ more))) one_9 rfl (.own z_C (by rfl))) ⟨rfl, rfl⟩⟩) ?_
      refine Det.cons 30 (ins := [(4, _), (64, _)]) (.old z_D (by decide +kernel) (.new 25 4 (by decide +kernel) rfl rfl .nil)) (fun e_ => .inl ⟨rfl, V1.t (V1.move' z_D) ⟨rfl, rfl⟩⟩) ?_
      refine Det.cons 31 (ins := [(4, _), (64, _)]) (.old z_D (by decide +kernel) (.new 25 5 (by decide +kernel) rfl rfl .nil)) (fun e_ => .inl ⟨rfl, V1.t (V1.move' z_D) ⟨rfl, rfl⟩⟩) ?_
      refine Det.cons 32 (ins := [(64, _), (70, _)]) (.new 25 6 (by decide +kernel) rfl rfl (.new 31 0 (by decide +kernel) rfl rfl .nil)) (fun e_ => .inl ⟨rfl, V1.t (V1.add (c := ((3 : Nat) : Int)) rfl rfl (by decide)) ⟨rfl, rfl⟩⟩) ?_
      refine Det.cons 33 (ins := [(64, _), (69, _), (71, _)]) (.new 25 7 (by decide +kernel) rfl rfl (.new 30 2 (by decide +kernel) rfl rfl (.new 32 0 (by decide +kernel) rfl rfl .nil))) (fun e_ => .inl ⟨rfl, V1.t (V1.sliceSr (s := sSigns) (l := ((2 : Nat) : Int)) (h := ((3 : Nat) : Int)) ty_9 rfl rfl rfl (by decide) (by decide) (by decide) ((sg_at 2 (by decide)).resolve_right (by decide))) ⟨rfl, rfl⟩⟩) ?_
      refine Det.cons 34 (ins := [(64, _), (72, _)]) (.new 25 8 (by decide +kernel) rfl rfl (.new 33 0 (by decide +kernel) rfl rfl .nil)) (fun e_ => .inl ⟨rfl, V1.t (V1.addSr (a := [sgN 2]) (b := [40]) rfl rfl (by decide) rfl) ⟨rfl, rfl⟩⟩) ?_
      refine Det.cons 35 (ins := [(64, _), (68, _), (73, _)]) (v := .bool true) (.new 25 9 (by decide +kernel) rfl rfl (.new 29 5 (by decide +kernel) rfl rfl (.new 34 0 (by decide +kernel) rfl rfl .nil))) (fun e_ => .inl ⟨rfl, ?_⟩) ?_
      · refine T1.callV has_94 rfl rfl (HasPre_any w0 (txt (.mk K nm ts) ++ more) [sgN 2, 40]) z_E (fun v_ hv => ?_)
        obtain rfl := hv
        rw [pre2_t hhd hmore (by decide) (by decide) hkk]
        exact ⟨rfl, rfl⟩
      refine Det.cons 36 (ins := [(64, _), (74, _)]) (.new 25 10 (by decide +kernel) rfl rfl (.new 35 0 (by decide +kernel) rfl rfl .nil)) (fun e_ => .inl ⟨rfl, V1.t (V1.pick rfl z_D) ⟨rfl, rfl⟩⟩) ?_
      refine Det.nil 37 (l := [(1, _), (2, _), (3, _), (4, _), (75, _)]) (.old z_D (by decide +kernel) (.old z_D (by decide +kernel) (.old z_D (by decide +kernel) (.old z_D (by decide +kernel) (.new 36 0 (by decide +kernel) rfl rfl .nil))))) (fun e_ => ?_)
      refine T.cond_t rfl ?_
      refine T.region ?_
      refine TL.cons rfl (V1.t (V1.move' z_D) ?_)
      refine TL.cons rfl (V1.t (V1.assign' z_D) ?_)
      refine TL.nil ?_
      refine T.region ?_
      refine TL.cons rfl (V1.t (V1.move' z_D) ?_)
      refine TL.cons rfl (V1.t (V1.add (c := ((3 : Nat) : Int)) rfl rfl (by decide)) ?_)
      refine TL.cons rfl (V1.t (V1.assign' z_D) ?_)
      refine TL.nil ?_
      exact ⟨3, (⟨b2, 0, [.int .i64 0, .string ⟨#[]⟩, .slice none 0 0], 3⟩ : Blk) :: (⟨b1, 0, [.pointer (some ⟨br, 0, none⟩)], 1⟩ : Blk) :: (⟨br, 0, [.string (bstr (txt (.mk K nm ts) ++ more)), .int .i64 (dp + 1 : Nat), .int .i64 (sz + 1 : Nat)], 3⟩ : Blk) :: G, _, (by simp only; omega), (.cons rfl (.cons (congrArg (Value.int .i64) (kv_hit (k := 2) hkk (by decide)).symm) .nil)), (.cons rfl (.cons rfl .nil)), z_A, ⟨rfl, by decide, by decide⟩⟩
    ·
      refine T.drawDet' mixed (by decide +kernel) ?_
      refine Det.cons 0 (ins := [(4, _)]) (.old z_D (by decide +kernel) .nil) (fun e_ => .inl ⟨rfl, V1.t (V1.move' z_D) ⟨rfl, rfl⟩⟩) ?_
      refine Det.cons 1 (ins := [(39, _)]) (.new 0 0 (by decide +kernel) rfl rfl .nil) (fun e_ => .inl ⟨rfl, V1.t (V1.neI (r := true) rfl rfl (by decide)) ⟨rfl, rfl⟩⟩) ?_
      refine Det.cons 2 (ins := [(40, _)]) (.new 1 0 (by decide +kernel) rfl rfl .nil) (fun e_ => .inl ⟨rfl, V1.t (V1.move' z_D) ⟨rfl, rfl⟩⟩) ?_
      refine Det.cons 3 (ins := [(4, _), (41, _)]) (.old z_D (by decide +kernel) (.new 2 0 (by decide +kernel) rfl rfl .nil)) (fun e_ => .inl ⟨rfl, V1.t (V1.move' z_D) ⟨rfl, rfl⟩⟩) ?_
      refine Det.cons 4 (ins := [(41, _), (42, _)]) (.new 2 1 (by decide +kernel) rfl rfl (.new 3 0 (by decide +kernel) rfl rfl .nil)) (fun e_ => .inl ⟨rfl, V1.t (V1.neI (r := false) rfl rfl (by decide)) ⟨rfl, rfl⟩⟩) ?_
      refine Det.cons 5 (ins := [(41, _), (43, _)]) (.new 2 2 (by decide +kernel) rfl rfl (.new 4 0 (by decide +kernel) rfl rfl .nil)) (fun e_ => .inl ⟨rfl, V1.t (V1.pick rfl z_D) ⟨rfl, rfl⟩⟩) ?_
      refine Det.cons 6 (ins := [(44, _)]) (.new 5 0 (by decide +kernel) rfl rfl .nil) (fun e_ => .inl ⟨rfl, V1.t (V1.move' z_D) ⟨rfl, rfl⟩⟩) ?_
      refine Det.cons 7 (ins := [(45, _)]) (.new 6 0 (by decide +kernel) rfl rfl .nil) (fun e_ => .inr ⟨rfl, rfl⟩) ?_
      refine Det.cons 8 (ins := [(45, _)]) (.new 6 1 (by decide +kernel) rfl rfl .nil) (fun e_ => .inr ⟨rfl, rfl⟩) ?_
      refine Det.cons 9 (ins := [(45, _), (47, _)]) (.new 6 2 (by decide +kernel) rfl rfl (.new 8 0 (by decide +kernel) rfl rfl .nil)) (fun e_ => .inl ⟨rfl, V1.t (V1.pick rfl z_D) ⟨rfl, rfl⟩⟩) ?_
      refine Det.cons 10 (ins := [(48, _)]) (.new 9 0 (by decide +kernel) rfl rfl .nil) (fun e_ => .inl ⟨rfl, V1.t (V1.move' z_D) ⟨rfl, rfl⟩⟩) ?_
      refine Det.cons 11 (ins := [(49, _)]) (.new 10 0 (by decide +kernel) rfl rfl .nil) (fun e_ => .inr ⟨rfl, rfl⟩) ?_
      refine Det.cons 12 (ins := [(49, _)]) (.new 10 1 (by decide +kernel) rfl rfl .nil) (fun e_ => .inr ⟨rfl, rfl⟩) ?_
      refine Det.cons 13 (ins := [(49, _), (51, _)]) (.new 10 2 (by decide +kernel) rfl rfl (.new 12 0 (by decide +kernel) rfl rfl .nil)) (fun e_ => .inl ⟨rfl, V1.t (V1.pick rfl z_D) ⟨rfl, rfl⟩⟩) ?_
      refine Det.cons 14 (ins := [(52, _)]) (.new 13 0 (by decide +kernel) rfl rfl .nil) (fun e_ => .inl ⟨rfl, V1.t (V1.move' z_D) ⟨rfl, rfl⟩⟩) ?_
      refine Det.cons 15 (ins := [(53, _)]) (.new 14 0 (by decide +kernel) rfl rfl .nil) (fun e_ => .inr ⟨rfl, rfl⟩) ?_
      refine Det.cons 16 (ins := [(53, _)]) (.new 14 1 (by decide +kernel) rfl rfl .nil) (fun e_ => .inr ⟨rfl, rfl⟩) ?_
      refine Det.cons 17 (ins := [(53, _)]) (.new 14 2 (by decide +kernel) rfl rfl .nil) (fun e_ => .inr ⟨rfl, rfl⟩) ?_
      refine Det.cons 18 (ins := [(53, _)]) (.new 14 3 (by decide +kernel) rfl rfl .nil) (fun e_ => .inr ⟨rfl, rfl⟩) ?_
      refine Det.cons 19 (ins := [(53, _)]) (.new 14 4 (by decide +kernel) rfl rfl .nil) (fun e_ => .inr ⟨rfl, rfl⟩) ?_
      refine Det.cons 20 (ins := [(53, _)]) (.new 14 5 (by decide +kernel) rfl rfl .nil) (fun e_ => .inr ⟨rfl, rfl⟩) ?_
      refine Det.cons 21 (ins := [(53, _)]) (.new 14 6 (by decide +kernel) rfl rfl .nil) (fun e_ => .inr ⟨rfl, rfl⟩) ?_
      refine Det.cons 22 (ins := [(53, _)]) (.new 14 7 (by decide +kernel) rfl rfl .nil) (fun e_ => .inr ⟨rfl, rfl⟩) ?_
      refine Det.cons 23 (ins := [(53, _)]) (.new 14 8 (by decide +kernel) rfl rfl .nil) (fun e_ => .inr ⟨rfl, rfl⟩) ?_
      refine Det.cons 24 (ins := [(53, _), (62, _)]) (.new 14 9 (by decide +kernel) rfl rfl (.new 23 0 (by decide +kernel) rfl rfl .nil)) (fun e_ => .inl ⟨rfl, V1.t (V1.pick rfl z_D) ⟨rfl, rfl⟩⟩) ?_
      refine Det.cons 25 (ins := [(63, _)]) (.new 24 0 (by decide +kernel) rfl rfl .nil) (fun e_ => .inl ⟨rfl, V1.t (V1.move' z_D) ⟨rfl, rfl⟩⟩) ?_
      refine Det.cons 26 (ins := [(1, _), (64, _)]) (.old z_D (by decide +kernel) (.new 25 0 (by decide +kernel) rfl rfl .nil)) (fun e_ => .inl ⟨rfl, V1.t (V1.load1 (v := .pointer (some ⟨br, 0, none⟩)) one_113 rfl (.own z_C (by rfl))) ⟨rfl, rfl⟩⟩) ?_
      refine Det.cons 27 (ins := [(64, _), (65, _)]) (.new 25 1 (by decide +kernel) rfl rfl (.new 26 0 (by decide +kernel) rfl rfl .nil)) (fun e_ => .inl ⟨rfl, V1.t (V1.nilCheck rfl) ⟨rfl, rfl⟩⟩) ?_
      refine Det.cons 28 (ins := [(64, _), (66, _)]) (.new 25 2 (by decide +kernel) rfl rfl (.new 27 0 (by decide +kernel) rfl rfl .nil)) (fun e_ => .inl ⟨rfl, V1.t (V1.fieldAddr fl_115_0 rfl) ⟨rfl, rfl⟩⟩) ?_
      refine Det.cons 29 (ins := [(64, _), (67, _)]) (.new 25 3 (by decide +kernel) rfl rfl (.new 28 0 (by decide +kernel) rfl rfl .nil)) (fun e_ => .inl ⟨rfl, V1.t (V1.load1 (v := .string (bstr (txt (.mk K nm ts) ++ more))) one_9 rfl (.own z_C (by rfl))) ⟨rfl, rfl⟩⟩) ?_
      refine Det.cons 30 (ins := [(4, _), (64, _)]) (.old z_D (by decide +kernel) (.new 25 4 (by decide +kernel) rfl rfl .nil)) (fun e_ => .inl ⟨rfl, V1.t (V1.move' z_D) ⟨rfl, rfl⟩⟩) ?_
      refine Det.cons 31 (ins := [(4, _), (64, _)]) (.old z_D (by decide +kernel) (.new 25 5 (by decide +kernel) rfl rfl .nil)) (fun e_ => .inl ⟨rfl, V1.t (V1.move' z_D) ⟨rfl, rfl⟩⟩) ?_
      refine Det.cons 32 (ins := [(64, _), (70, _)]) (.new 25 6 (by decide +kernel) rfl rfl (.new 31 0 (by decide +kernel) rfl rfl .nil)) (fun e_ => .inl ⟨rfl, V1.t (V1.add (c := ((3 : Nat) : Int)) rfl rfl (by decide)) ⟨rfl, rfl⟩⟩) ?_
      refine Det.cons 33 (ins := [(64, _), (69, _), (71, _)]) (.new 25 7 (by decide +kernel) rfl rfl (.new 30 2 (by decide +kernel) rfl rfl (.new 32 0 (by decide +kernel) rfl rfl .nil))) (fun e_ => .inl ⟨rfl, V1.t (V1.sliceSr (s := sSigns) (l := ((2 : Nat) : Int)) (h := ((3 : Nat) : Int)) ty_9 rfl rfl rfl (by decide) (by decide) (by decide) ((sg_at 2 (by decide)).resolve_right (by decide))) ⟨rfl, rfl⟩⟩) ?_
      refine Det.cons 34 (ins := [(64, _), (72, _)]) (.new 25 8 (by decide +kernel) rfl rfl (.new 33 0 (by decide +kernel) rfl rfl .nil)) (fun e_ => .inl ⟨rfl, V1.t (V1.addSr (a := [sgN 2]) (b := [40]) rfl rfl (by decide) rfl) ⟨rfl, rfl⟩⟩) ?_
      refine Det.cons 35 (ins := [(64, _), (68, _), (73, _)]) (v := .bool false) (.new 25 9 (by decide +kernel) rfl rfl (.new 29 5 (by decide +kernel) rfl rfl (.new 34 0 (by decide +kernel) rfl rfl .nil))) (fun e_ => .inl ⟨rfl, ?_⟩) ?_
      · refine T1.callV has_94 rfl rfl (HasPre_any w0 (txt (.mk K nm ts) ++ more) [sgN 2, 40]) z_E (fun v_ hv => ?_)
        obtain rfl := hv
        rw [pre2_f hhd hmore (by decide) (by decide) hkk]
        exact ⟨rfl, rfl⟩
      refine Det.cons 36 (ins := [(64, _), (74, _)]) (.new 25 10 (by decide +kernel) rfl rfl (.new 35 0 (by decide +kernel) rfl rfl .nil)) (fun e_ => .inl ⟨rfl, V1.t (V1.pick rfl z_D) ⟨rfl, rfl⟩⟩) ?_
      refine Det.nil 37 (l := [(1, _), (2, _), (3, _), (4, _), (75, _)]) (.old z_D (by decide +kernel) (.old z_D (by decide +kernel) (.old z_D (by decide +kernel) (.old z_D (by decide +kernel) (.new 36 0 (by decide +kernel) rfl rfl .nil))))) (fun e_ => ?_)
      refine T.cond_f rfl ?_
      refine T.skip ?_
      refine T.region ?_
      refine TL.cons rfl (V1.t (V1.move' z_D) ?_)
      refine TL.cons rfl (V1.t (V1.add (c := ((3 : Nat) : Int)) rfl rfl (by decide)) ?_)
      refine TL.cons rfl (V1.t (V1.assign' z_D) ?_)
      refine TL.nil ?_
      exact ⟨3, (⟨b2, 0, [.int .i64 0, .string ⟨#[]⟩, .slice none 0 0], 3⟩ : Blk) :: (⟨b1, 0, [.pointer (some ⟨br, 0, none⟩)], 1⟩ : Blk) :: (⟨br, 0, [.string (bstr (txt (.mk K nm ts) ++ more)), .int .i64 (dp + 1 : Nat), .int .i64 (sz + 1 : Nat)], 3⟩ : Blk) :: G, _, (by simp only; omega), (.cons rfl (.cons (congrArg (Value.int .i64) (kv_miss (k := 2) hkk).symm) .nil)), (.cons rfl (.cons rfl .nil)), z_A, ⟨rfl, by decide, by decide⟩⟩
    ·
      refine T.drawDet' mixed (by decide +kernel) ?_
      refine Det.cons 0 (ins := [(4, _)]) (.old z_D (by decide +kernel) .nil) (fun e_ => .inl ⟨rfl, V1.t (V1.move' z_D) ⟨rfl, rfl⟩⟩) ?_
      refine Det.cons 1 (ins := [(39, _)]) (.new 0 0 (by decide +kernel) rfl rfl .nil) (fun e_ => .inl ⟨rfl, V1.t (V1.neI (r := true) rfl rfl (by decide)) ⟨rfl, rfl⟩⟩) ?_
      refine Det.cons 2 (ins := [(40, _)]) (.new 1 0 (by decide +kernel) rfl rfl .nil) (fun e_ => .inl ⟨rfl, V1.t (V1.move' z_D) ⟨rfl, rfl⟩⟩) ?_
      refine Det.cons 3 (ins := [(4, _), (41, _)]) (.old z_D (by decide +kernel) (.new 2 0 (by decide +kernel) rfl rfl .nil)) (fun e_ => .inl ⟨rfl, V1.t (V1.move' z_D) ⟨rfl, rfl⟩⟩) ?_
      refine Det.cons 4 (ins := [(41, _), (42, _)]) (.new 2 1 (by decide +kernel) rfl rfl (.new 3 0 (by decide +kernel) rfl rfl .nil)) (fun e_ => .inl ⟨rfl, V1.t (V1.neI (r := true) rfl rfl (by decide)) ⟨rfl, rfl⟩⟩) ?_
      refine Det.cons 5 (ins := [(41, _), (43, _)]) (.new 2 2 (by decide +kernel) rfl rfl (.new 4 0 (by decide +kernel) rfl rfl .nil)) (fun e_ => .inl ⟨rfl, V1.t (V1.pick rfl z_D) ⟨rfl, rfl⟩⟩) ?_
      refine Det.cons 6 (ins := [(44, _)]) (.new 5 0 (by decide +kernel) rfl rfl .nil) (fun e_ => .inl ⟨rfl, V1.t (V1.move' z_D) ⟨rfl, rfl⟩⟩) ?_
      refine Det.cons 7 (ins := [(4, _), (45, _)]) (.old z_D (by decide +kernel) (.new 6 0 (by decide +kernel) rfl rfl .nil)) (fun e_ => .inl ⟨rfl, V1.t (V1.move' z_D) ⟨rfl, rfl⟩⟩) ?_
      refine Det.cons 8 (ins := [(45, _), (46, _)]) (.new 6 1 (by decide +kernel) rfl rfl (.new 7 0 (by decide +kernel) rfl rfl .nil)) (fun e_ => .inl ⟨rfl, V1.t (V1.neI (r := false) rfl rfl (by decide)) ⟨rfl, rfl⟩⟩) ?_
      refine Det.cons 9 (ins := [(45, _), (47, _)]) (.new 6 2 (by decide +kernel) rfl rfl (.new 8 0 (by decide +kernel) rfl rfl .nil)) (fun e_ => .inl ⟨rfl, V1.t (V1.pick rfl z_D) ⟨rfl, rfl⟩⟩) ?_
      refine Det.cons 10 (ins := [(48, _)]) (.new 9 0 (by decide +kernel) rfl rfl .nil) (fun e_ => .inl ⟨rfl, V1.t (V1.move' z_D) ⟨rfl, rfl⟩⟩) ?_
      refine Det.cons 11 (ins := [(49, _)]) (.new 10 0 (by decide +kernel) rfl rfl .nil) (fun e_ => .inr ⟨rfl, rfl⟩) ?_
      refine Det.cons 12 (ins := [(49, _)]) (.new 10 1 (by decide +kernel) rfl rfl .nil) (fun e_ => .inr ⟨rfl, rfl⟩) ?_
      refine Det.cons 13 (ins := [(49, _), (51, _)]) (.new 10 2 (by decide +kernel) rfl rfl (.new 12 0 (by decide +kernel) rfl rfl .nil)) (fun e_ => .inl ⟨rfl, V1.t (V1.pick rfl z_D) ⟨rfl, rfl⟩⟩) ?_
      refine Det.cons 14 (ins := [(52, _)]) (.new 13 0 (by decide +kernel) rfl rfl .nil) (fun e_ => .inl ⟨rfl, V1.t (V1.move' z_D) ⟨rfl, rfl⟩⟩) ?_
      refine Det.cons 15 (ins := [(53, _)]) (.new 14 0 (by decide +kernel) rfl rfl .nil) (fun e_ => .inr ⟨rfl, rfl⟩) ?_
      refine Det.cons 16 (ins := [(53, _)]) (.new 14 1 (by decide +kernel) rfl rfl .nil) (fun e_ => .inr ⟨rfl, rfl⟩) ?_
      refine Det.cons 17 (ins := [(53, _)]) (.new 14 2 (by decide +kernel) rfl rfl .nil) (fun e_ => .inr ⟨rfl, rfl⟩) ?_
      refine Det.cons 18 (ins := [(53, _)]) (.new 14 3 (by decide +kernel) rfl rfl .nil) (fun e_ => .inr ⟨rfl, rfl⟩) ?_
      refine Det.cons 19 (ins := [(53, _)]) (.new 14 4 (by decide +kernel) rfl rfl .nil) (fun e_ => .inr ⟨rfl, rfl⟩) ?_
      refine Det.cons 20 (ins := [(53, _)]) (.new 14 5 (by decide +kernel) rfl rfl .nil) (fun e_ => .inr ⟨rfl, rfl⟩) ?_
      refine Det.cons 21 (ins := [(53, _)]) (.new 14 6 (by decide +kernel) rfl rfl .nil) (fun e_ => .inr ⟨rfl, rfl⟩) ?_
      refine Det.cons 22 (ins := [(53, _)]) (.new 14 7 (by decide +kernel) rfl rfl .nil) (fun e_ => .inr ⟨rfl, rfl⟩) ?_
      refine Det.cons 23 (ins := [(53, _)]) (.new 14 8 (by decide +kernel) rfl rfl .nil) (fun e_ => .inr ⟨rfl, rfl⟩) ?_
      refine Det.cons 24 (ins := [(53, _), (62, _)]) (.new 14 9 (by decide +kernel) rfl rfl (.new 23 0 (by decide +kernel) rfl rfl .nil)) (fun e_ => .inl ⟨rfl, V1.t (V1.pick rfl z_D) ⟨rfl, rfl⟩⟩) ?_
      refine Det.cons 25 (ins := [(63, _)]) (.new 24 0 (by decide +kernel) rfl rfl .nil) (fun e_ => .inl ⟨rfl, V1.t (V1.move' z_D) ⟨rfl, rfl⟩⟩) ?_
      refine Det.cons 26 (ins := [(1, _), (64, _)]) (.old z_D (by decide +kernel) (.new 25 0 (by decide +kernel) rfl rfl .nil)) (fun e_ => .inl ⟨rfl, V1.t (V1.load1 (v := .pointer (some ⟨br, 0, none⟩)) one_113 rfl (.own z_C (by rfl))) ⟨rfl, rfl⟩⟩) ?_
      refine Det.cons 27 (ins := [(64, _), (65, _)]) (.new 25 1 (by decide +kernel) rfl rfl (.new 26 0 (by decide +kernel) rfl rfl .nil)) (fun e_ => .inl ⟨rfl, V1.t (V1.nilCheck rfl) ⟨rfl, rfl⟩⟩) ?_
      refine Det.cons 28 (ins := [(64, _), (66, _)]) (.new 25 2 (by decide +kernel) rfl rfl (.new 27 0 (by decide +kernel) rfl rfl .nil)) (fun e_ => .inl ⟨rfl, V1.t (V1.fieldAddr fl_115_0 rfl) ⟨rfl, rfl⟩⟩) ?_
      refine Det.cons 29 (ins := [(64, _), (67, _)]) (.new 25 3 (by decide +kernel) rfl rfl (.new 28 0 (by decide +kernel) rfl rfl .nil)) (fun e_ => .inl ⟨rfl, V1.t (V1.load1 (v := .string (bstr (txt (.mk K nm ts) ++ more))) one_9 rfl (.own z_C (by rfl))) ⟨rfl, rfl⟩⟩) ?_
      refine Det.cons 30 (ins := [(4, _), (64, _)]) (.old z_D (by decide +kernel) (.new 25 4 (by decide +kernel) rfl rfl .nil)) (fun e_ => .inl ⟨rfl, V1.t (V1.move' z_D) ⟨rfl, rfl⟩⟩) ?_
      refine Det.cons 31 (ins := [(4, _), (64, _)]) (.old z_D (by decide +kernel) (.new 25 5 (by decide +kernel) rfl rfl .nil)) (fun e_ => .inl ⟨rfl, V1.t (V1.move' z_D) ⟨rfl, rfl⟩⟩) ?_
      refine Det.cons 32 (ins := [(64, _), (70, _)]) (.new 25 6 (by decide +kernel) rfl rfl (.new 31 0 (by decide +kernel) rfl rfl .nil)) (fun e_ => .inl ⟨rfl, V1.t (V1.add (c := ((4 : Nat) : Int)) rfl rfl (by decide)) ⟨rfl, rfl⟩⟩) ?_
      refine Det.cons 33 (ins := [(64, _), (69, _), (71, _)]) (.new 25 7 (by decide +kernel) rfl rfl (.new 30 2 (by decide +kernel) rfl rfl (.new 32 0 (by decide +kernel) rfl rfl .nil))) (fun e_ => .inl ⟨rfl, V1.t (V1.sliceSr (s := sSigns) (l := ((3 : Nat) : Int)) (h := ((4 : Nat) : Int)) ty_9 rfl rfl rfl (by decide) (by decide) (by decide) ((sg_at 3 (by decide)).resolve_right (by decide))) ⟨rfl, rfl⟩⟩) ?_
      refine Det.cons 34 (ins := [(64, _), (72, _)]) (.new 25 8 (by decide +kernel) rfl rfl (.new 33 0 (by decide +kernel) rfl rfl .nil)) (fun e_ => .inl ⟨rfl, V1.t (V1.addSr (a := [sgN 3]) (b := [40]) rfl rfl (by decide) rfl) ⟨rfl, rfl⟩⟩) ?_
      refine Det.cons 35 (ins := [(64, _), (68, _), (73, _)]) (v := .bool true) (.new 25 9 (by decide +kernel) rfl rfl (.new 29 5 (by decide +kernel) rfl rfl (.new 34 0 (by decide +kernel) rfl rfl .nil))) (fun e_ => .inl ⟨rfl, ?_⟩) ?_
      · refine T1.callV has_94 rfl rfl (HasPre_any w0 (txt (.mk K nm ts) ++ more) [sgN 3, 40]) z_E (fun v_ hv => ?_)
        obtain rfl := hv
        rw [pre2_t hhd hmore (by decide) (by decide) hkk]
        exact ⟨rfl, rfl⟩
      refine Det.cons 36 (ins := [(64, _), (74, _)]) (.new 25 10 (by decide +kernel) rfl rfl (.new 35 0 (by decide +kernel) rfl rfl .nil)) (fun e_ => .inl ⟨rfl, V1.t (V1.pick rfl z_D) ⟨rfl, rfl⟩⟩) ?_
      refine Det.nil 37 (l := [(1, _), (2, _), (3, _), (4, _), (75, _)]) (.old z_D (by decide +kernel) (.old z_D (by decide +kernel) (.old z_D (by decide +kernel) (.old z_D (by decide +kernel) (.new 36 0 (by decide +kernel) rfl rfl .nil))))) (fun e_ => ?_)
      refine T.cond_t rfl ?_
      refine T.region ?_
      refine TL.cons rfl (V1.t (V1.move' z_D) ?_)
      refine TL.cons rfl (V1.t (V1.assign' z_D) ?_)
      refine TL.nil ?_
      refine T.region ?_
      refine TL.cons rfl (V1.t (V1.move' z_D) ?_)
      refine TL.cons rfl (V1.t (V1.add (c := ((4 : Nat) : Int)) rfl rfl (by decide)) ?_)
      refine TL.cons rfl (V1.t (V1.assign' z_D) ?_)
      refine TL.nil ?_
      exact ⟨4, (⟨b2, 0, [.int .i64 0, .string ⟨#[]⟩, .slice none 0 0], 3⟩ : Blk) :: (⟨b1, 0, [.pointer (some ⟨br, 0, none⟩)], 1⟩ : Blk) :: (⟨br, 0, [.string (bstr (txt (.mk K nm ts) ++ more)), .int .i64 (dp + 1 : Nat), .int .i64 (sz + 1 : Nat)], 3⟩ : Blk) :: G, _, (by simp only; omega), (.cons rfl (.cons (congrArg (Value.int .i64) (kv_hit (k := 3) hkk (by decide)).symm) .nil)), (.cons rfl (.cons rfl .nil)), z_A, ⟨rfl, by decide, by decide⟩⟩
    ·
      refine T.drawDet' mixed (by decide +kernel) ?_
      refine Det.cons 0 (ins := [(4, _)]) (.old z_D (by decide +kernel) .nil) (fun e_ => .inl ⟨rfl, V1.t (V1.move' z_D) ⟨rfl, rfl⟩⟩) ?_
      refine Det.cons 1 (ins := [(39, _)]) (.new 0 0 (by decide +kernel) rfl rfl .nil) (fun e_ => .inl ⟨rfl, V1.t (V1.neI (r := true) rfl rfl (by decide)) ⟨rfl, rfl⟩⟩) ?_
      refine Det.cons 2 (ins := [(40, _)]) (.new 1 0 (by decide +kernel) rfl rfl .nil) (fun e_ => .inl ⟨rfl, V1.t (V1.move' z_D) ⟨rfl, rfl⟩⟩) ?_
      refine Det.cons 3 (ins := [(4, _), (41, _)]) (.old z_D (by decide +kernel) (.new 2 0 (by decide +kernel) rfl rfl .nil)) (fun e_ => .inl ⟨rfl, V1.t (V1.move' z_D) ⟨rfl, rfl⟩⟩) ?_
      refine Det.cons 4 (ins := [(41, _), (42, _)]) (.new 2 1 (by decide +kernel) rfl rfl (.new 3 0 (by decide +kernel) rfl rfl .nil)) (fun e_ => .inl ⟨rfl, V1.t (V1.neI (r := true) rfl rfl (by decide)) ⟨rfl, rfl⟩⟩) ?_
      refine Det.cons 5 (ins := [(41, _), (43, _)]) (.new 2 2 (by decide +kernel) rfl rfl (.new 4 0 (by decide +kernel) rfl rfl .nil)) (fun e_ => .inl ⟨rfl, V1.t (V1.pick rfl z_D) ⟨rfl, rfl⟩⟩) ?_
      refine Det.cons 6 (ins := [(44, _)]) (.new 5 0 (by decide +kernel) rfl rfl .nil) (fun e_ => .inl ⟨rfl, V1.t (V1.move' z_D) ⟨rfl, rfl⟩⟩) ?_
      refine Det.cons 7 (ins := [(4, _), (45, _)]) (.old z_D (by decide +kernel) (.new 6 0 (by decide +kernel) rfl rfl .nil)) (fun e_ => .inl ⟨rfl, V1.t (V1.move' z_D) ⟨rfl, rfl⟩⟩) ?_
      refine Det.cons 8 (ins := [(45, _), (46, _)]) (.new 6 1 (by decide +kernel) rfl rfl (.new 7 0 (by decide +kernel) rfl rfl .nil)) (fun e_ => .inl ⟨rfl, V1.t (V1.neI (r := false) rfl rfl (by decide)) ⟨rfl, rfl⟩⟩) ?_
      refine Det.cons 9 (ins := [(45, _), (47, _)]) (.new 6 2 (by decide +kernel) rfl rfl (.new 8 0 (by decide +kernel) rfl rfl .nil)) (fun e_ => .inl ⟨rfl, V1.t (V1.pick rfl z_D) ⟨rfl, rfl⟩⟩) ?_
      refine Det.cons 10 (ins := [(48, _)]) (.new 9 0 (by decide +kernel) rfl rfl .nil) (fun e_ => .inl ⟨rfl, V1.t (V1.move' z_D) ⟨rfl, rfl⟩⟩) ?_
      refine Det.cons 11 (ins := [(49, _)]) (.new 10 0 (by decide +kernel) rfl rfl .nil) (fun e_ => .inr ⟨rfl, rfl⟩) ?_
      refine Det.cons 12 (ins := [(49, _)]) (.new 10 1 (by decide +kernel) rfl rfl .nil) (fun e_ => .inr ⟨rfl, rfl⟩) ?_
      refine Det.cons 13 (ins := [(49, _), (51, _)]) (.new 10 2 (by decide +kernel) rfl rfl (.new 12 0 (by decide +kernel) rfl rfl .nil)) (fun e_ => .inl ⟨rfl, V1.t (V1.pick rfl z_D) ⟨rfl, rfl⟩⟩) ?_
      refine Det.cons 14 (ins := [(52, _)]) (.new 13 0 (by decide +kernel) rfl rfl .nil) (fun e_ => .inl ⟨rfl, V1.t (V1.move' z_D) ⟨rfl, rfl⟩⟩) ?_
      refine Det.cons 15 (ins := [(53, _)]) (.new 14 0 (by decide +kernel) rfl rfl .nil) (fun e_ => .inr ⟨rfl, rfl⟩) ?_
      refine Det.cons 16 (ins := [(53, _)]) (.new 14 1 (by decide +kernel) rfl rfl .nil) (fun e_ => .inr ⟨rfl, rfl⟩) ?_
      refine Det.cons 17 (ins := [(53, _)]) (.new 14 2 (by decide +kernel) rfl rfl .nil) (fun e_ => .inr ⟨rfl, rfl⟩) ?_
      refine Det.cons 18 (ins := [(53, _)]) (.new 14 3 (by decide +kernel) rfl rfl .nil) (fun e_ => .inr ⟨rfl, rfl⟩) ?_
      refine Det.cons 19 (ins := [(53, _)]) (.new 14 4 (by decide +kernel) rfl rfl .nil) (fun e_ => .inr ⟨rfl, rfl⟩) ?_
      refine Det.cons 20 (ins := [(53, _)]) (.new 14 5 (by decide +kernel) rfl rfl .nil) (fun e_ => .inr ⟨rfl, rfl⟩) ?_
      refine Det.cons 21 (ins := [(53, _)]) (.new 14 6 (by decide +kernel) rfl rfl .nil) (fun e_ => .inr ⟨rfl, rfl⟩) ?_
      refine Det.cons 22 (ins := [(53, _)]) (.new 14 7 (by decide +kernel) rfl rfl .nil) (fun e_ => .inr ⟨rfl, rfl⟩) ?_
      refine Det.cons 23 (ins := [(53, _)]) (.new 14 8 (by decide +kernel) rfl rfl .nil) (fun e_ => .inr ⟨rfl, rfl⟩) ?_
      refine Det.cons 24 (ins := [(53, _), (62, _)]) (.new 14 9 (by decide +kernel) rfl rfl (.new 23 0 (by decide +kernel) rfl rfl .nil)) (fun e_ => .inl ⟨rfl, V1.t (V1.pick rfl z_D) ⟨rfl, rfl⟩⟩) ?_
      refine Det.cons 25 (ins := [(63, _)]) (.new 24 0 (by decide +kernel) rfl rfl .nil) (fun e_ => .inl ⟨rfl, V1.t (V1.move' z_D) ⟨rfl, rfl⟩⟩) ?_
      refine Det.cons 26 (ins := [(1, _), (64, _)]) (.old z_D (by decide +kernel) (.new 25 0 (by decide +kernel) rfl rfl .nil)) (fun e_ => .inl ⟨rfl, V1.t (V1.load1 (v := .pointer (some ⟨br, 0, none⟩)) one_113 rfl (.own z_C (by rfl))) ⟨rfl, rfl⟩⟩) ?_
      refine Det.cons 27 (ins := [(64, _), (65, _)]) (.new 25 1 (by decide +kernel) rfl rfl (.new 26 0 (by decide +kernel) rfl rfl .nil)) (fun e_ => .inl ⟨rfl, V1.t (V1.nilCheck rfl) ⟨rfl, rfl⟩⟩) ?_
      refine Det.cons 28 (ins := [(64, _), (66, _)]) (.new 25 2 (by decide +kernel) rfl rfl (.new 27 0 (by decide +kernel) rfl rfl .nil)) (fun e_ => .inl ⟨rfl, V1.t (V1.fieldAddr fl_115_0 rfl) ⟨rfl, rfl⟩⟩) ?_
      refine Det.cons 29 (ins := [(64, _), (67, _)]) (.new 25 3 (by decide +kernel) rfl rfl (.new 28 0 (by decide +kernel) rfl rfl .nil)) (fun e_ => .inl ⟨rfl, V1.t (V1.load1 (v := .string (bstr (txt (.mk K nm ts) ++ more))) one_9 rfl (.own z_C (by rfl))) ⟨rfl, rfl⟩⟩) ?_
      refine Det.cons 30 (ins := [(4, _), (64, _)]) (.old z_D (by decide +kernel) (.new 25 4 (by decide +kernel) rfl rfl .nil)) (fun e_ => .inl ⟨rfl, V1.t (V1.move' z_D) ⟨rfl, rfl⟩⟩) ?_
      refine Det.cons 31 (ins := [(4, _), (64, _)]) (.old z_D (by decide +kernel) (.new 25 5 (by decide +kernel) rfl rfl .nil)) (fun e_ => .inl ⟨rfl, V1.t (V1.move' z_D) ⟨rfl, rfl⟩⟩) ?_
      refine Det.cons 32 (ins := [(64, _), (70, _)]) (.new 25 6 (by decide +kernel) rfl rfl (.new 31 0 (by decide +kernel) rfl rfl .nil)) (fun e_ => .inl ⟨rfl, V1.t (V1.add (c := ((4 : Nat) : Int)) rfl rfl (by decide)) ⟨rfl, rfl⟩⟩) ?_
      refine Det.cons 33 (ins := [(64, _), (69, _), (71, _)]) (.new 25 7 (by decide +kernel) rfl rfl (.new 30 2 (by decide +kernel) rfl rfl (.new 32 0 (by decide +kernel) rfl rfl .nil))) (fun e_ => .inl ⟨rfl, V1.t (V1.sliceSr (s := sSigns) (l := ((3 : Nat) : Int)) (h := ((4 : Nat) : Int)) ty_9 rfl rfl rfl (by decide) (by decide) (by decide) ((sg_at 3 (by decide)).resolve_right (by decide))) ⟨rfl, rfl⟩⟩) ?_
      refine Det.cons 34 (ins := [(64, _), (72, _)]) (.new 25 8 (by decide +kernel) rfl rfl (.new 33 0 (by decide +kernel) rfl rfl .nil)) (fun e_ => .inl ⟨rfl, V1.t (V1.addSr (a := [sgN 3]) (b := [40]) rfl rfl (by decide) rfl) ⟨rfl, rfl⟩⟩) ?_
      refine Det.cons 35 (ins := [(64, _), (68, _), (73, _)]) (v := .bool false) (.new 25 9 (by decide +kernel) rfl rfl (.new 29 5 (by decide +kernel) rfl rfl (.new 34 0 (by decide +kernel) rfl rfl .nil))) (fun e_ => .inl ⟨rfl, ?_⟩) ?_
      · refine T1.callV has_94 rfl rfl (HasPre_any w0 (txt (.mk K nm ts) ++ more) [sgN 3, 40]) z_E (fun v_ hv => ?_)
        obtain rfl := hv
        rw [pre2_f hhd hmore (by decide) (by decide) hkk]
        exact ⟨rfl, rfl⟩
      refine Det.cons 36 (ins := [(64, _), (74, _)]) (.new 25 10 (by decide +kernel) rfl rfl (.new 35 0 (by decide +kernel) rfl rfl .nil)) (fun e_ => .inl ⟨rfl, V1.t (V1.pick rfl z_D) ⟨rfl, rfl⟩⟩) ?_
      refine Det.nil 37 (l := [(1, _), (2, _), (3, _), (4, _), (75, _)]) (.old z_D (by decide +kernel) (.old z_D (by decide +kernel) (.old z_D (by decide +kernel) (.old z_D (by decide +kernel) (.new 36 0 (by decide +kernel) rfl rfl .nil))))) (fun e_ => ?_)
      refine T.cond_f rfl ?_
      refine T.skip ?_
      refine T.region ?_
      refine TL.cons rfl (V1.t (V1.move' z_D) ?_)
      refine TL.cons rfl (V1.t (V1.add (c := ((4 : Nat) : Int)) rfl rfl (by decide)) ?_)
      refine TL.cons rfl (V1.t (V1.assign' z_D) ?_)
      refine TL.nil ?_
      exact ⟨4, (⟨b2, 0, [.int .i64 0, .string ⟨#[]⟩, .slice none 0 0], 3⟩ : Blk) :: (⟨b1, 0, [.pointer (some ⟨br, 0, none⟩)], 1⟩ : Blk) :: (⟨br, 0, [.string (bstr (txt (.mk K nm ts) ++ more)), .int .i64 (dp + 1 : Nat), .int .i64 (sz + 1 : Nat)], 3⟩ : Blk) :: G, _, (by simp only; omega), (.cons rfl (.cons (congrArg (Value.int .i64) (kv_miss (k := 3) hkk).symm) .nil)), (.cons rfl (.cons rfl .nil)), z_A, ⟨rfl, by decide, by decide⟩⟩
    ·
      refine T.drawDet' mixed (by decide +kernel) ?_
      refine Det.cons 0 (ins := [(4, _)]) (.old z_D (by decide +kernel) .nil) (fun e_ => .inl ⟨rfl, V1.t (V1.move' z_D) ⟨rfl, rfl⟩⟩) ?_
      refine Det.cons 1 (ins := [(39, _)]) (.new 0 0 (by decide +kernel) rfl rfl .nil) (fun e_ => .inl ⟨rfl, V1.t (V1.neI (r := false) rfl rfl (by decide)) ⟨rfl, rfl⟩⟩) ?_
      refine Det.cons 2 (ins := [(40, _)]) (.new 1 0 (by decide +kernel) rfl rfl .nil) (fun e_ => .inl ⟨rfl, V1.t (V1.move' z_D) ⟨rfl, rfl⟩⟩) ?_
      refine Det.cons 3 (ins := [(41, _)]) (.new 2 0 (by decide +kernel) rfl rfl .nil) (fun e_ => .inr ⟨rfl, rfl⟩) ?_
      refine Det.cons 4 (ins := [(41, _)]) (.new 2 1 (by decide +kernel) rfl rfl .nil) (fun e_ => .inr ⟨rfl, rfl⟩) ?_
      refine Det.cons 5 (ins := [(41, _), (43, _)]) (.new 2 2 (by decide +kernel) rfl rfl (.new 4 0 (by decide +kernel) rfl rfl .nil)) (fun e_ => .inl ⟨rfl, V1.t (V1.pick rfl z_D) ⟨rfl, rfl⟩⟩) ?_
      refine Det.cons 6 (ins := [(44, _)]) (.new 5 0 (by decide +kernel) rfl rfl .nil) (fun e_ => .inl ⟨rfl, V1.t (V1.move' z_D) ⟨rfl, rfl⟩⟩) ?_
      refine Det.cons 7 (ins := [(45, _)]) (.new 6 0 (by decide +kernel) rfl rfl .nil) (fun e_ => .inr ⟨rfl, rfl⟩) ?_
      refine Det.cons 8 (ins := [(45, _)]) (.new 6 1 (by decide +kernel) rfl rfl .nil) (fun e_ => .inr ⟨rfl, rfl⟩) ?_
      refine Det.cons 9 (ins := [(45, _), (47, _)]) (.new 6 2 (by decide +kernel) rfl rfl (.new 8 0 (by decide +kernel) rfl rfl .nil)) (fun e_ => .inl ⟨rfl, V1.t (V1.pick rfl z_D) ⟨rfl, rfl⟩⟩) ?_
      refine Det.cons 10 (ins := [(48, _)]) (.new 9 0 (by decide +kernel) rfl rfl .nil) (fun e_ => .inl ⟨rfl, V1.t (V1.move' z_D) ⟨rfl, rfl⟩⟩) ?_
      refine Det.cons 11 (ins := [(49, _)]) (.new 10 0 (by decide +kernel) rfl rfl .nil) (fun e_ => .inr ⟨rfl, rfl⟩) ?_
      refine Det.cons 12 (ins := [(49, _)]) (.new 10 1 (by decide +kernel) rfl rfl .nil) (fun e_ => .inr ⟨rfl, rfl⟩) ?_
      refine Det.cons 13 (ins := [(49, _), (51, _)]) (.new 10 2 (by decide +kernel) rfl rfl (.new 12 0 (by decide +kernel) rfl rfl .nil)) (fun e_ => .inl ⟨rfl, V1.t (V1.pick rfl z_D) ⟨rfl, rfl⟩⟩) ?_
      refine Det.cons 14 (ins := [(52, _)]) (.new 13 0 (by decide +kernel) rfl rfl .nil) (fun e_ => .inl ⟨rfl, V1.t (V1.move' z_D) ⟨rfl, rfl⟩⟩) ?_
      refine Det.cons 15 (ins := [(53, _)]) (.new 14 0 (by decide +kernel) rfl rfl .nil) (fun e_ => .inr ⟨rfl, rfl⟩) ?_
      refine Det.cons 16 (ins := [(53, _)]) (.new 14 1 (by decide +kernel) rfl rfl .nil) (fun e_ => .inr ⟨rfl, rfl⟩) ?_
      refine Det.cons 17 (ins := [(53, _)]) (.new 14 2 (by decide +kernel) rfl rfl .nil) (fun e_ => .inr ⟨rfl, rfl⟩) ?_
      refine Det.cons 18 (ins := [(53, _)]) (.new 14 3 (by decide +kernel) rfl rfl .nil) (fun e_ => .inr ⟨rfl, rfl⟩) ?_
      refine Det.cons 19 (ins := [(53, _)]) (.new 14 4 (by decide +kernel) rfl rfl .nil) (fun e_ => .inr ⟨rfl, rfl⟩) ?_
      refine Det.cons 20 (ins := [(53, _)]) (.new 14 5 (by decide +kernel) rfl rfl .nil) (fun e_ => .inr ⟨rfl, rfl⟩) ?_
      refine Det.cons 21 (ins := [(53, _)]) (.new 14 6 (by decide +kernel) rfl rfl .nil) (fun e_ => .inr ⟨rfl, rfl⟩) ?_
      refine Det.cons 22 (ins := [(53, _)]) (.new 14 7 (by decide +kernel) rfl rfl .nil) (fun e_ => .inr ⟨rfl, rfl⟩) ?_
      refine Det.cons 23 (ins := [(53, _)]) (.new 14 8 (by decide +kernel) rfl rfl .nil) (fun e_ => .inr ⟨rfl, rfl⟩) ?_
      refine Det.cons 24 (ins := [(53, _), (62, _)]) (.new 14 9 (by decide +kernel) rfl rfl (.new 23 0 (by decide +kernel) rfl rfl .nil)) (fun e_ => .inl ⟨rfl, V1.t (V1.pick rfl z_D) ⟨rfl, rfl⟩⟩) ?_
      refine Det.cons 25 (ins := [(63, _)]) (.new 24 0 (by decide +kernel) rfl rfl .nil) (fun e_ => .inl ⟨rfl, V1.t (V1.move' z_D) ⟨rfl, rfl⟩⟩) ?_
      refine Det.cons 26 (ins := [(1, _), (64, _)]) (.old z_D (by decide +kernel) (.new 25 0 (by decide +kernel) rfl rfl .nil)) (fun e_ => .inl ⟨rfl, V1.t (V1.load1 (v := .pointer (some ⟨br, 0, none⟩)) one_113 rfl (.own z_C (by rfl))) ⟨rfl, rfl⟩⟩) ?_
      refine Det.cons 27 (ins := [(64, _), (65, _)]) (.new 25 1 (by decide +kernel) rfl rfl (.new 26 0 (by decide +kernel) rfl rfl .nil)) (fun e_ => .inl ⟨rfl, V1.t (V1.nilCheck rfl) ⟨rfl, rfl⟩⟩) ?_
      refine Det.cons 28 (ins := [(64, _), (66, _)]) (.new 25 2 (by decide +kernel) rfl rfl (.new 27 0 (by decide +kernel) rfl rfl .nil)) (fun e_ => .inl ⟨rfl, V1.t (V1.fieldAddr fl_115_0 rfl) ⟨rfl, rfl⟩⟩) ?_
      refine Det.cons 29 (ins := [(64, _), (67, _)]) (.new 25 3 (by decide +kernel) rfl rfl (.new 28 0 (by decide +kernel) rfl rfl .nil)) (fun e_ => .inl ⟨rfl, V1.t (V1.load1 (v := .string (bstr (txt (.mk K nm ts) ++ more))) one_9 rfl (.own z_C (by rfl))) ⟨rfl, rfl⟩⟩) ?_
      refine Det.cons 30 (ins := [(4, _), (64, _)]) (.old z_D (by decide +kernel) (.new 25 4 (by decide +kernel) rfl rfl .nil)) (fun e_ => .inl ⟨rfl, V1.t (V1.move' z_D) ⟨rfl, rfl⟩⟩) ?_
      refine Det.cons 31 (ins := [(4, _), (64, _)]) (.old z_D (by decide +kernel) (.new 25 5 (by decide +kernel) rfl rfl .nil)) (fun e_ => .inl ⟨rfl, V1.t (V1.move' z_D) ⟨rfl, rfl⟩⟩) ?_
      refine Det.cons 32 (ins := [(64, _), (70, _)]) (.new 25 6 (by decide +kernel) rfl rfl (.new 31 0 (by decide +kernel) rfl rfl .nil)) (fun e_ => .inl ⟨rfl, V1.t (V1.add (c := ((5 : Nat) : Int)) rfl rfl (by decide)) ⟨rfl, rfl⟩⟩) ?_
      refine Det.cons 33 (ins := [(64, _), (69, _), (71, _)]) (.new 25 7 (by decide +kernel) rfl rfl (.new 30 2 (by decide +kernel) rfl rfl (.new 32 0 (by decide +kernel) rfl rfl .nil))) (fun e_ => .inl ⟨rfl, V1.t (V1.sliceSr (s := sSigns) (l := ((4 : Nat) : Int)) (h := ((5 : Nat) : Int)) ty_9 rfl rfl rfl (by decide) (by decide) (by decide) ((sg_at 4 (by decide)).resolve_right (by decide))) ⟨rfl, rfl⟩⟩) ?_
      refine Det.cons 34 (ins := [(64, _), (72, _)]) (.new 25 8 (by decide +kernel) rfl rfl (.new 33 0 (by decide +kernel) rfl rfl .nil)) (fun e_ => .inl ⟨rfl, V1.t (V1.addSr (a := [sgN 4]) (b := [40]) rfl rfl (by decide) rfl) ⟨rfl, rfl⟩⟩) ?_
      refine Det.cons 35 (ins := [(64, _), (68, _), (73, _)]) (v := .bool true) (.new 25 9 (by decide +kernel) rfl rfl (.new 29 5 (by decide +kernel) rfl rfl (.new 34 0 (by decide +kernel) rfl rfl .nil))) (fun e_ => .inl ⟨rfl, ?_⟩) ?_
      · refine T1.callV has_94 rfl rfl (HasPre_any w0 (txt (.mk K nm ts) ++ more) [sgN 4, 40]) z_E (fun v_ hv => ?_)
        obtain rfl := hv
        rw [pre2_t hhd hmore (by decide) (by decide) hkk]
        exact ⟨rfl, rfl⟩
      refine Det.cons 36 (ins := [(64, _), (74, _)]) (.new 25 10 (by decide +kernel) rfl rfl (.new 35 0 (by decide +kernel) rfl rfl .nil)) (fun e_ => .inl ⟨rfl, V1.t (V1.pick rfl z_D) ⟨rfl, rfl⟩⟩) ?_
      refine Det.nil 37 (l := [(1, _), (2, _), (3, _), (4, _), (75, _)]) (.old z_D (by decide +kernel) (.old z_D (by decide +kernel) (.old z_D (by decide +kernel) (.old z_D (by decide +kernel) (.new 36 0 (by decide +kernel) rfl rfl .nil))))) (fun e_ => ?_)
      refine T.cond_t rfl ?_
      refine T.region ?_
      refine TL.cons rfl (V1.t (V1.move' z_D) ?_)
      refine TL.cons rfl (V1.t (V1.assign' z_D) ?_)
      refine TL.nil ?_
      refine T.region ?_
      refine TL.cons rfl (V1.t (V1.move' z_D) ?_)
      refine TL.cons rfl (V1.t (V1.add (c := ((5 : Nat) : Int)) rfl rfl (by decide)) ?_)
      refine TL.cons rfl (V1.t (V1.assign' z_D) ?_)
      refine TL.nil ?_
      exact ⟨5, (⟨b2, 0, [.int .i64 0, .string ⟨#[]⟩, .slice none 0 0], 3⟩ : Blk) :: (⟨b1, 0, [.pointer (some ⟨br, 0, none⟩)], 1⟩ : Blk) :: (⟨br, 0, [.string (bstr (txt (.mk K nm ts) ++ more)), .int .i64 (dp + 1 : Nat), .int .i64 (sz + 1 : Nat)], 3⟩ : Blk) :: G, _, (by simp only; omega), (.cons rfl (.cons (congrArg (Value.int .i64) (kv_hit (k := 4) hkk (by decide)).symm) .nil)), (.cons rfl (.cons rfl .nil)), z_A, ⟨rfl, by decide, by decide⟩⟩
    ·
      refine T.drawDet' mixed (by decide +kernel) ?_
      refine Det.cons 0 (ins := [(4, _)]) (.old z_D (by decide +kernel) .nil) (fun e_ => .inl ⟨rfl, V1.t (V1.move' z_D) ⟨rfl, rfl⟩⟩) ?_
      refine Det.cons 1 (ins := [(39, _)]) (.new 0 0 (by decide +kernel) rfl rfl .nil) (fun e_ => .inl ⟨rfl, V1.t (V1.neI (r := false) rfl rfl (by decide)) ⟨rfl, rfl⟩⟩) ?_
      refine Det.cons 2 (ins := [(40, _)]) (.new 1 0 (by decide +kernel) rfl rfl .nil) (fun e_ => .inl ⟨rfl, V1.t (V1.move' z_D) ⟨rfl, rfl⟩⟩) ?_
      refine Det.cons 3 (ins := [(41, _)]) (.new 2 0 (by decide +kernel) rfl rfl .nil) (fun e_ => .inr ⟨rfl, rfl⟩) ?_
      refine Det.cons 4 (ins := [(41, _)]) (.new 2 1 (by decide +kernel) rfl rfl .nil) (fun e_ => .inr ⟨rfl, rfl⟩) ?_
      refine Det.cons 5 (ins := [(41, _), (43, _)]) (.new 2 2 (by decide +kernel) rfl rfl (.new 4 0 (by decide +kernel) rfl rfl .nil)) (fun e_ => .inl ⟨rfl, V1.t (V1.pick rfl z_D) ⟨rfl, rfl⟩⟩) ?_
      refine Det.cons 6 (ins := [(44, _)]) (.new 5 0 (by decide +kernel) rfl rfl .nil) (fun e_ => .inl ⟨rfl, V1.t (V1.move' z_D) ⟨rfl, rfl⟩⟩) ?_
      refine Det.cons 7 (ins := [(45, _)]) (.new 6 0 (by decide +kernel) rfl rfl .nil) (fun e_ => .inr ⟨rfl, rfl⟩) ?_
      refine Det.cons 8 (ins := [(45, _)]) (.new 6 1 (by decide +kernel) rfl rfl .nil) (fun e_ => .inr ⟨rfl, rfl⟩) ?_
      refine Det.cons 9 (ins := [(45, _), (47, _)]) (.new 6 2 (by decide +kernel) rfl rfl (.new 8 0 (by decide +kernel) rfl rfl .nil)) (fun e_ => .inl ⟨rfl, V1.t (V1.pick rfl z_D) ⟨rfl, rfl⟩⟩) ?_
      refine Det.cons 10 (ins := [(48, _)]) (.new 9 0 (by decide +kernel) rfl rfl .nil) (fun e_ => .inl ⟨rfl, V1.t (V1.move' z_D) ⟨rfl, rfl⟩⟩) ?_
      refine Det.cons 11 (ins := [(49, _)]) (.new 10 0 (by decide +kernel) rfl rfl .nil) (fun e_ => .inr ⟨rfl, rfl⟩) ?_
      refine Det.cons 12 (ins := [(49, _)]) (.new 10 1 (by decide +kernel) rfl rfl .nil) (fun e_ => .inr ⟨rfl, rfl⟩) ?_
      refine Det.cons 13 (ins := [(49, _), (51, _)]) (.new 10 2 (by decide +kernel) rfl rfl (.new 12 0 (by decide +kernel) rfl rfl .nil)) (fun e_ => .inl ⟨rfl, V1.t (V1.pick rfl z_D) ⟨rfl, rfl⟩⟩) ?_
      refine Det.cons 14 (ins := [(52, _)]) (.new 13 0 (by decide +kernel) rfl rfl .nil) (fun e_ => .inl ⟨rfl, V1.t (V1.move' z_D) ⟨rfl, rfl⟩⟩) ?_
      refine Det.cons 15 (ins := [(53, _)]) (.new 14 0 (by decide +kernel) rfl rfl .nil) (fun e_ => .inr ⟨rfl, rfl⟩) ?_
      refine Det.cons 16 (ins := [(53, _)]) (.new 14 1 (by decide +kernel) rfl rfl .nil) (fun e_ => .inr ⟨rfl, rfl⟩) ?_
      refine Det.cons 17 (ins := [(53, _)]) (.new 14 2 (by decide +kernel) rfl rfl .nil) (fun e_ => .inr ⟨rfl, rfl⟩) ?_
      refine Det.cons 18 (ins := [(53, _)]) (.new 14 3 (by decide +kernel) rfl rfl .nil) (fun e_ => .inr ⟨rfl, rfl⟩) ?_
      refine Det.cons 19 (ins := [(53, _)]) (.new 14 4 (by decide +kernel) rfl rfl .nil) (fun e_ => .inr ⟨rfl, rfl⟩) ?_
      refine Det.cons 20 (ins := [(53, _)]) (.new 14 5 (by decide +kernel) rfl rfl .nil) (fun e_ => .inr ⟨rfl, rfl⟩) ?_
      refine Det.cons 21 (ins := [(53, _)]) (.new 14 6 (by decide +kernel) rfl rfl .nil) (fun e_ => .inr ⟨rfl, rfl⟩) ?_
      refine Det.cons 22 (ins := [(53, _)]) (.new 14 7 (by decide +kernel) rfl rfl .nil) (fun e_ => .inr ⟨rfl, rfl⟩) ?_
      refine Det.cons 23 (ins := [(53, _)]) (.new 14 8 (by decide +kernel) rfl rfl .nil) (fun e_ => .inr ⟨rfl, rfl⟩) ?_
      refine Det.cons 24 (ins := [(53, _), (62, _)]) (.new 14 9 (by decide +kernel) rfl rfl (.new 23 0 (by decide +kernel) rfl rfl .nil)) (fun e_ => .inl ⟨rfl, V1.t (V1.pick rfl z_D) ⟨rfl, rfl⟩⟩) ?_
      refine Det.cons 25 (ins := [(63, _)]) (.new 24 0 (by decide +kernel) rfl rfl .nil) (fun e_ => .inl ⟨rfl, V1.t (V1.move' z_D) ⟨rfl, rfl⟩⟩) ?_
      refine Det.cons 26 (ins := [(1, _), (64, _)]) (.old z_D (by decide +kernel) (.new 25 0 (by decide +kernel) rfl rfl .nil)) (fun e_ => .inl ⟨rfl, V1.t (V1.load1 (v := .pointer (some ⟨br, 0, none⟩)) one_113 rfl (.own z_C (by rfl))) ⟨rfl, rfl⟩⟩) ?_
      refine Det.cons 27 (ins := [(64, _), (65, _)]) (.new 25 1 (by decide +kernel) rfl rfl (.new 26 0 (by decide +kernel) rfl rfl .nil)) (fun e_ => .inl ⟨rfl, V1.t (V1.nilCheck rfl) ⟨rfl, rfl⟩⟩) ?_
      refine Det.cons 28 (ins := [(64, _), (66, _)]) (.new 25 2 (by decide +kernel) rfl rfl (.new 27 0 (by decide +kernel) rfl rfl .nil)) (fun e_ => .inl ⟨rfl, V1.t (V1.fieldAddr fl_115_0 rfl) ⟨rfl, rfl⟩⟩) ?_
      refine Det.cons 29 (ins := [(64, _), (67, _)]) (.new 25 3 (by decide +kernel) rfl rfl (.new 28 0 (by decide +kernel) rfl rfl .nil)) (fun e_ => .inl ⟨rfl, V1.t (V1.load1 (v := .string (bstr (txt (.mk K nm ts) ++ more))) one_9 rfl (.own z_C (by rfl))) ⟨rfl, rfl⟩⟩) ?_
      refine Det.cons 30 (ins := [(4, _), (64, _)]) (.old z_D (by decide +kernel) (.new 25 4 (by decide +kernel) rfl rfl .nil)) (fun e_ => .inl ⟨rfl, V1.t (V1.move' z_D) ⟨rfl, rfl⟩⟩) ?_
      refine Det.cons 31 (ins := [(4, _), (64, _)]) (.old z_D (by decide +kernel) (.new 25 5 (by decide +kernel) rfl rfl .nil)) (fun e_ => .inl ⟨rfl, V1.t (V1.move' z_D) ⟨rfl, rfl⟩⟩) ?_
      refine Det.cons 32 (ins := [(64, _), (70, _)]) (.new 25 6 (by decide +kernel) rfl rfl (.new 31 0 (by decide +kernel) rfl rfl .nil)) (fun e_ => .inl ⟨rfl, V1.t (V1.add (c := ((5 : Nat) : Int)) rfl rfl (by decide)) ⟨rfl, rfl⟩⟩) ?_
      refine Det.cons 33 (ins := [(64, _), (69, _), (71, _)]) (.new 25 7 (by decide +kernel) rfl rfl (.new 30 2 (by decide +kernel) rfl rfl (.new 32 0 (by decide +kernel) rfl rfl .nil))) (fun e_ => .inl ⟨rfl, V1.t (V1.sliceSr (s := sSigns) (l := ((4 : Nat) : Int)) (h := ((5 : Nat) : Int)) ty_9 rfl rfl rfl (by decide) (by decide) (by decide) ((sg_at 4 (by decide)).resolve_right (by decide))) ⟨rfl, rfl⟩⟩) ?_
      refine Det.cons 34 (ins := [(64, _), (72, _)]) (.new 25 8 (by decide +kernel) rfl rfl (.new 33 0 (by decide +kernel) rfl rfl .nil)) (fun e_ => .inl ⟨rfl, V1.t (V1.addSr (a := [sgN 4]) (b := [40]) rfl rfl (by decide) rfl) ⟨rfl, rfl⟩⟩) ?_
      refine Det.cons 35 (ins := [(64, _), (68, _), (73, _)]) (v := .bool false) (.new 25 9 (by decide +kernel) rfl rfl (.new 29 5 (by decide +kernel) rfl rfl (.new 34 0 (by decide +kernel) rfl rfl .nil))) (fun e_ => .inl ⟨rfl, ?_⟩) ?_
      · refine T1.callV has_94 rfl rfl (HasPre_any w0 (txt (.mk K nm ts) ++ more) [sgN 4, 40]) z_E (fun v_ hv => ?_)
        obtain rfl := hv
        rw [pre2_f hhd hmore (by decide) (by decide) hkk]
        exact ⟨rfl, rfl⟩
      refine Det.cons 36 (ins := [(64, _), (74, _)]) (.new 25 10 (by decide +kernel) rfl rfl (.new 35 0 (by decide +kernel) rfl rfl .nil)) (fun e_ => .inl ⟨rfl, V1.t (V1.pick rfl z_D) ⟨rfl, rfl⟩⟩) ?_
      refine Det.nil 37 (l := [(1, _), (2, _), (3, _), (4, _), (75, _)]) (.old z_D (by decide +kernel) (.old z_D (by decide +kernel) (.old z_D (by decide +kernel) (.old z_D (by decide +kernel) (.new 36 0 (by decide +kernel) rfl rfl .nil))))) (fun e_ => ?_)
      refine T.cond_f rfl ?_
      refine T.skip ?_
      refine T.region ?_
      refine TL.cons rfl (V1.t (V1.move' z_D) ?_)
      refine TL.cons rfl (V1.t (V1.add (c := ((5 : Nat) : Int)) rfl rfl (by decide)) ?_)
      refine TL.cons rfl (V1.t (V1.assign' z_D) ?_)
      refine TL.nil ?_
      exact ⟨5, (⟨b2, 0, [.int .i64 0, .string ⟨#[]⟩, .slice none 0 0], 3⟩ : Blk) :: (⟨b1, 0, [.pointer (some ⟨br, 0, none⟩)], 1⟩ : Blk) :: (⟨br, 0, [.string (bstr (txt (.mk K nm ts) ++ more)), .int .i64 (dp + 1 : Nat), .int .i64 (sz + 1 : Nat)], 3⟩ : Blk) :: G, _, (by simp only; omega), (.cons rfl (.cons (congrArg (Value.int .i64) (kv_miss (k := 4) hkk).symm) .nil)), (.cons rfl (.cons rfl .nil)), z_A, ⟨rfl, by decide, by decide⟩⟩
    ·
      refine T.drawDet' mixed (by decide +kernel) ?_
      refine Det.cons 0 (ins := [(4, _)]) (.old z_D (by decide +kernel) .nil) (fun e_ => .inl ⟨rfl, V1.t (V1.move' z_D) ⟨rfl, rfl⟩⟩) ?_
      refine Det.cons 1 (ins := [(39, _)]) (.new 0 0 (by decide +kernel) rfl rfl .nil) (fun e_ => .inl ⟨rfl, V1.t (V1.neI (r := true) rfl rfl (by decide)) ⟨rfl, rfl⟩⟩) ?_
      refine Det.cons 2 (ins := [(40, _)]) (.new 1 0 (by decide +kernel) rfl rfl .nil) (fun e_ => .inl ⟨rfl, V1.t (V1.move' z_D) ⟨rfl, rfl⟩⟩) ?_
      refine Det.cons 3 (ins := [(4, _), (41, _)]) (.old z_D (by decide +kernel) (.new 2 0 (by decide +kernel) rfl rfl .nil)) (fun e_ => .inl ⟨rfl, V1.t (V1.move' z_D) ⟨rfl, rfl⟩⟩) ?_
      refine Det.cons 4 (ins := [(41, _), (42, _)]) (.new 2 1 (by decide +kernel) rfl rfl (.new 3 0 (by decide +kernel) rfl rfl .nil)) (fun e_ => .inl ⟨rfl, V1.t (V1.neI (r := true) rfl rfl (by decide)) ⟨rfl, rfl⟩⟩) ?_
      refine Det.cons 5 (ins := [(41, _), (43, _)]) (.new 2 2 (by decide +kernel) rfl rfl (.new 4 0 (by decide +kernel) rfl rfl .nil)) (fun e_ => .inl ⟨rfl, V1.t (V1.pick rfl z_D) ⟨rfl, rfl⟩⟩) ?_
      refine Det.cons 6 (ins := [(44, _)]) (.new 5 0 (by decide +kernel) rfl rfl .nil) (fun e_ => .inl ⟨rfl, V1.t (V1.move' z_D) ⟨rfl, rfl⟩⟩) ?_
      refine Det.cons 7 (ins := [(4, _), (45, _)]) (.old z_D (by decide +kernel) (.new 6 0 (by decide +kernel) rfl rfl .nil)) (fun e_ => .inl ⟨rfl, V1.t (V1.move' z_D) ⟨rfl, rfl⟩⟩) ?_
      refine Det.cons 8 (ins := [(45, _), (46, _)]) (.new 6 1 (by decide +kernel) rfl rfl (.new 7 0 (by decide +kernel) rfl rfl .nil)) (fun e_ => .inl ⟨rfl, V1.t (V1.neI (r := true) rfl rfl (by decide)) ⟨rfl, rfl⟩⟩) ?_
      refine Det.cons 9 (ins := [(45, _), (47, _)]) (.new 6 2 (by decide +kernel) rfl rfl (.new 8 0 (by decide +kernel) rfl rfl .nil)) (fun e_ => .inl ⟨rfl, V1.t (V1.pick rfl z_D) ⟨rfl, rfl⟩⟩) ?_
      refine Det.cons 10 (ins := [(48, _)]) (.new 9 0 (by decide +kernel) rfl rfl .nil) (fun e_ => .inl ⟨rfl, V1.t (V1.move' z_D) ⟨rfl, rfl⟩⟩) ?_
      refine Det.cons 11 (ins := [(4, _), (49, _)]) (.old z_D (by decide +kernel) (.new 10 0 (by decide +kernel) rfl rfl .nil)) (fun e_ => .inl ⟨rfl, V1.t (V1.move' z_D) ⟨rfl, rfl⟩⟩) ?_
      refine Det.cons 12 (ins := [(49, _), (50, _)]) (.new 10 1 (by decide +kernel) rfl rfl (.new 11 0 (by decide +kernel) rfl rfl .nil)) (fun e_ => .inl ⟨rfl, V1.t (V1.neI (r := true) rfl rfl (by decide)) ⟨rfl, rfl⟩⟩) ?_
      refine Det.cons 13 (ins := [(49, _), (51, _)]) (.new 10 2 (by decide +kernel) rfl rfl (.new 12 0 (by decide +kernel) rfl rfl .nil)) (fun e_ => .inl ⟨rfl, V1.t (V1.pick rfl z_D) ⟨rfl, rfl⟩⟩) ?_
      refine Det.cons 14 (ins := [(52, _)]) (.new 13 0 (by decide +kernel) rfl rfl .nil) (fun e_ => .inl ⟨rfl, V1.t (V1.move' z_D) ⟨rfl, rfl⟩⟩) ?_
      refine Det.cons 15 (ins := [(1, _), (53, _)]) (.old z_D (by decide +kernel) (.new 14 0 (by decide +kernel) rfl rfl .nil)) (fun e_ => .inl ⟨rfl, V1.t (V1.load1 (v := .pointer (some ⟨br, 0, none⟩)) one_113 rfl (.own z_C (by rfl))) ⟨rfl, rfl⟩⟩) ?_
      refine Det.cons 16 (ins := [(53, _), (54, _)]) (.new 14 1 (by decide +kernel) rfl rfl (.new 15 0 (by decide +kernel) rfl rfl .nil)) (fun e_ => .inl ⟨rfl, V1.t (V1.nilCheck rfl) ⟨rfl, rfl⟩⟩) ?_
      refine Det.cons 17 (ins := [(53, _), (55, _)]) (.new 14 2 (by decide +kernel) rfl rfl (.new 16 0 (by decide +kernel) rfl rfl .nil)) (fun e_ => .inl ⟨rfl, V1.t (V1.fieldAddr fl_115_0 rfl) ⟨rfl, rfl⟩⟩) ?_
      refine Det.cons 18 (ins := [(53, _), (56, _)]) (.new 14 3 (by decide +kernel) rfl rfl (.new 17 0 (by decide +kernel) rfl rfl .nil)) (fun e_ => .inl ⟨rfl, V1.t (V1.load1 (v := .string (bstr (txt (.mk K nm ts) ++ more))) one_9 rfl (.own z_C (by rfl))) ⟨rfl, rfl⟩⟩) ?_
      refine Det.cons 19 (ins := [(4, _), (53, _)]) (.old z_D (by decide +kernel) (.new 14 4 (by decide +kernel) rfl rfl .nil)) (fun e_ => .inl ⟨rfl, V1.t (V1.move' z_D) ⟨rfl, rfl⟩⟩) ?_
      refine Det.cons 20 (ins := [(4, _), (53, _)]) (.old z_D (by decide +kernel) (.new 14 5 (by decide +kernel) rfl rfl .nil)) (fun e_ => .inl ⟨rfl, V1.t (V1.move' z_D) ⟨rfl, rfl⟩⟩) ?_
      refine Det.cons 21 (ins := [(53, _), (59, _)]) (.new 14 6 (by decide +kernel) rfl rfl (.new 20 0 (by decide +kernel) rfl rfl .nil)) (fun e_ => .inl ⟨rfl, V1.t (V1.add (c := ((6 : Nat) : Int)) rfl rfl (by decide)) ⟨rfl, rfl⟩⟩) ?_
      refine Det.cons 22 (ins := [(53, _), (58, _), (60, _)]) (.new 14 7 (by decide +kernel) rfl rfl (.new 19 2 (by decide +kernel) rfl rfl (.new 21 0 (by decide +kernel) rfl rfl .nil))) (fun e_ => .inl ⟨rfl, V1.t (V1.sliceSr (s := sSigns) (l := ((5 : Nat) : Int)) (h := ((6 : Nat) : Int)) ty_9 rfl rfl rfl (by decide) (by decide) (by decide) ((sg_at 5 (by decide)).resolve_right (by decide))) ⟨rfl, rfl⟩⟩) ?_
      refine Det.cons 23 (ins := [(53, _), (57, _), (61, _)]) (v := .bool true) (.new 14 8 (by decide +kernel) rfl rfl (.new 18 4 (by decide +kernel) rfl rfl (.new 22 0 (by decide +kernel) rfl rfl .nil))) (fun e_ => .inl ⟨rfl, ?_⟩) ?_
      · refine T1.callV has_94 rfl rfl (HasPre_any w0 (txt (.mk K nm ts) ++ more) [sgN 5]) z_E (fun v_ hv => ?_)
        obtain rfl := hv
        rw [pre1_t hhd (by decide) hkk]
        exact ⟨rfl, rfl⟩
      refine Det.cons 24 (ins := [(53, _), (62, _)]) (.new 14 9 (by decide +kernel) rfl rfl (.new 23 0 (by decide +kernel) rfl rfl .nil)) (fun e_ => .inl ⟨rfl, V1.t (V1.pick rfl z_D) ⟨rfl, rfl⟩⟩) ?_
      refine Det.cons 25 (ins := [(63, _)]) (.new 24 0 (by decide +kernel) rfl rfl .nil) (fun e_ => .inl ⟨rfl, V1.t (V1.move' z_D) ⟨rfl, rfl⟩⟩) ?_
      refine Det.cons 26 (ins := [(64, _)]) (.new 25 0 (by decide +kernel) rfl rfl .nil) (fun e_ => .inr ⟨rfl, rfl⟩) ?_
      refine Det.cons 27 (ins := [(64, _)]) (.new 25 1 (by decide +kernel) rfl rfl .nil) (fun e_ => .inr ⟨rfl, rfl⟩) ?_
      refine Det.cons 28 (ins := [(64, _)]) (.new 25 2 (by decide +kernel) rfl rfl .nil) (fun e_ => .inr ⟨rfl, rfl⟩) ?_
      refine Det.cons 29 (ins := [(64, _)]) (.new 25 3 (by decide +kernel) rfl rfl .nil) (fun e_ => .inr ⟨rfl, rfl⟩) ?_
      refine Det.cons 30 (ins := [(64, _)]) (.new 25 4 (by decide +kernel) rfl rfl .nil) (fun e_ => .inr ⟨rfl, rfl⟩) ?_
      refine Det.cons 31 (ins := [(64, _)]) (.new 25 5 (by decide +kernel) rfl rfl .nil) (fun e_ => .inr ⟨rfl, rfl⟩) ?_
      refine Det.cons 32 (ins := [(64, _)]) (.new 25 6 (by decide +kernel) rfl rfl .nil) (fun e_ => .inr ⟨rfl, rfl⟩) ?_
      refine Det.cons 33 (ins := [(64, _)]) (.new 25 7 (by decide +kernel) rfl rfl .nil) (fun e_ => .inr ⟨rfl, rfl⟩) ?_
      refine Det.cons 34 (ins := [(64, _)]) (.new 25 8 (by decide +kernel) rfl rfl .nil) (fun e_ => .inr ⟨rfl, rfl⟩) ?_
      refine Det.cons 35 (ins := [(64, _)]) (.new 25 9 (by decide +kernel) rfl rfl .nil) (fun e_ => .inr ⟨rfl, rfl⟩) ?_
      refine Det.cons 36 (ins := [(64, _), (74, _)]) (.new 25 10 (by decide +kernel) rfl rfl (.new 35 0 (by decide +kernel) rfl rfl .nil)) (fun e_ => .inl ⟨rfl, V1.t (V1.pick rfl z_D) ⟨rfl, rfl⟩⟩) ?_
      refine Det.nil 37 (l := [(1, _), (2, _), (3, _), (4, _), (75, _)]) (.old z_D (by decide +kernel) (.old z_D (by decide +kernel) (.old z_D (by decide +kernel) (.old z_D (by decide +kernel) (.new 36 0 (by decide +kernel) rfl rfl .nil))))) (fun e_ => ?_)
      refine T.cond_t rfl ?_
      refine T.region ?_
      refine TL.cons rfl (V1.t (V1.move' z_D) ?_)
      refine TL.cons rfl (V1.t (V1.assign' z_D) ?_)
      refine TL.nil ?_
      refine T.region ?_
      refine TL.cons rfl (V1.t (V1.move' z_D) ?_)
      refine TL.cons rfl (V1.t (V1.add (c := ((6 : Nat) : Int)) rfl rfl (by decide)) ?_)
      refine TL.cons rfl (V1.t (V1.assign' z_D) ?_)
      refine TL.nil ?_
      exact ⟨6, (⟨b2, 0, [.int .i64 0, .string ⟨#[]⟩, .slice none 0 0], 3⟩ : Blk) :: (⟨b1, 0, [.pointer (some ⟨br, 0, none⟩)], 1⟩ : Blk) :: (⟨br, 0, [.string (bstr (txt (.mk K nm ts) ++ more)), .int .i64 (dp + 1 : Nat), .int .i64 (sz + 1 : Nat)], 3⟩ : Blk) :: G, _, (by simp only; omega), (.cons rfl (.cons (congrArg (Value.int .i64) (kv_hit (k := 5) hkk (by decide)).symm) .nil)), (.cons rfl (.cons rfl .nil)), z_A, ⟨rfl, by decide, by decide⟩⟩
    ·
      refine T.drawDet' mixed (by decide +kernel) ?_
      refine Det.cons 0 (ins := [(4, _)]) (.old z_D (by decide +kernel) .nil) (fun e_ => .inl ⟨rfl, V1.t (V1.move' z_D) ⟨rfl, rfl⟩⟩) ?_
      refine Det.cons 1 (ins := [(39, _)]) (.new 0 0 (by decide +kernel) rfl rfl .nil) (fun e_ => .inl ⟨rfl, V1.t (V1.neI (r := true) rfl rfl (by decide)) ⟨rfl, rfl⟩⟩) ?_
      refine Det.cons 2 (ins := [(40, _)]) (.new 1 0 (by decide +kernel) rfl rfl .nil) (fun e_ => .inl ⟨rfl, V1.t (V1.move' z_D) ⟨rfl, rfl⟩⟩) ?_
      refine Det.cons 3 (ins := [(4, _), (41, _)]) (.old z_D (by decide +kernel) (.new 2 0 (by decide +kernel) rfl rfl .nil)) (fun e_ => .inl ⟨rfl, V1.t (V1.move' z_D) ⟨rfl, rfl⟩⟩) ?_
      refine Det.cons 4 (ins := [(41, _), (42, _)]) (.new 2 1 (by decide +kernel) rfl rfl (.new 3 0 (by decide +kernel) rfl rfl .nil)) (fun e_ => .inl ⟨rfl, V1.t (V1.neI (r := true) rfl rfl (by decide)) ⟨rfl, rfl⟩⟩) ?_
      refine Det.cons 5 (ins := [(41, _), (43, _)]) (.new 2 2 (by decide +kernel) rfl rfl (.new 4 0 (by decide +kernel) rfl rfl .nil)) (fun e_ => .inl ⟨rfl, V1.t (V1.pick rfl z_D) ⟨rfl, rfl⟩⟩) ?_
      refine Det.cons 6 (ins := [(44, _)]) (.new 5 0 (by decide +kernel) rfl rfl .nil) (fun e_ => .inl ⟨rfl, V1.t (V1.move' z_D) ⟨rfl, rfl⟩⟩) ?_
      refine Det.cons 7 (ins := [(4, _), (45, _)]) (.old z_D (by decide +kernel) (.new 6 0 (by decide +kernel) rfl rfl .nil)) (fun e_ => .inl ⟨rfl, V1.t (V1.move' z_D) ⟨rfl, rfl⟩⟩) ?_
      refine Det.cons 8 (ins := [(45, _), (46, _)]) (.new 6 1 (by decide +kernel) rfl rfl (.new 7 0 (by decide +kernel) rfl rfl .nil)) (fun e_ => .inl ⟨rfl, V1.t (V1.neI (r := true) rfl rfl (by decide)) ⟨rfl, rfl⟩⟩) ?_
      refine Det.cons 9 (ins := [(45, _), (47, _)]) (.new 6 2 (by decide +kernel) rfl rfl (.new 8 0 (by decide +kernel) rfl rfl .nil)) (fun e_ => .inl ⟨rfl, V1.t (V1.pick rfl z_D) ⟨rfl, rfl⟩⟩) ?_
      refine Det.cons 10 (ins := [(48, _)]) (.new 9 0 (by decide +kernel) rfl rfl .nil) (fun e_ => .inl ⟨rfl, V1.t (V1.move' z_D) ⟨rfl, rfl⟩⟩) ?_
      refine Det.cons 11 (ins := [(4, _), (49, _)]) (.old z_D (by decide +kernel) (.new 10 0 (by decide +kernel) rfl rfl .nil)) (fun e_ => .inl ⟨rfl, V1.t (V1.move' z_D) ⟨rfl, rfl⟩⟩) ?_
      refine Det.cons 12 (ins := [(49, _), (50, _)]) (.new 10 1 (by decide +kernel) rfl rfl (.new 11 0 (by decide +kernel) rfl rfl .nil)) (fun e_ => .inl ⟨rfl, V1.t (V1.neI (r := true) rfl rfl (by decide)) ⟨rfl, rfl⟩⟩) ?_
      refine Det.cons 13 (ins := [(49, _), (51, _)]) (.new 10 2 (by decide +kernel) rfl rfl (.new 12 0 (by decide +kernel) rfl rfl .nil)) (fun e_ => .inl ⟨rfl, V1.t (V1.pick rfl z_D) ⟨rfl, rfl⟩⟩) ?_
      refine Det.cons 14 (ins := [(52, _)]) (.new 13 0 (by decide +kernel) rfl rfl .nil) (fun e_ => .inl ⟨rfl, V1.t (V1.move' z_D) ⟨rfl, rfl⟩⟩) ?_
      refine Det.cons 15 (ins := [(1, _), (53, _)]) (.old z_D (by decide +kernel) (.new 14 0 (by decide +kernel) rfl rfl .nil)) (fun e_ => .inl ⟨rfl, V1.t (V1.load1 (v := .pointer (some ⟨br, 0, none⟩)) one_113 rfl (.own z_C (by rfl))) ⟨rfl, rfl⟩⟩) ?_
      refine Det.cons 16 (ins := [(53, _), (54, _)]) (.new 14 1 (by decide +kernel) rfl rfl (.new 15 0 (by decide +kernel) rfl rfl .nil)) (fun e_ => .inl ⟨rfl, V1.t (V1.nilCheck rfl) ⟨rfl, rfl⟩⟩) ?_
      refine Det.cons 17 (ins := [(53, _), (55, _)]) (.new 14 2 (by decide +kernel) rfl rfl (.new 16 0 (by decide +kernel) rfl rfl .nil)) (fun e_ => .inl ⟨rfl, V1.t (V1.fieldAddr fl_115_0 rfl) ⟨rfl, rfl⟩⟩) ?_
      refine Det.cons 18 (ins := [(53, _), (56, _)]) (.new 14 3 (by decide +kernel) rfl rfl (.new 17 0 (by decide +kernel) rfl rfl .nil)) (fun e_ => .inl ⟨rfl, V1.t (V1.load1 (v := .string (bstr (txt (.mk K nm ts) ++ more))) one_9 rfl (.own z_C (by rfl))) ⟨rfl, rfl⟩⟩) ?_
      refine Det.cons 19 (ins := [(4, _), (53, _)]) (.old z_D (by decide +kernel) (.new 14 4 (by decide +kernel) rfl rfl .nil)) (fun e_ => .inl ⟨rfl, V1.t (V1.move' z_D) ⟨rfl, rfl⟩⟩) ?_
      refine Det.cons 20 (ins := [(4, _), (53, _)]) (.old z_D (by decide +kernel) (.new 14 5 (by decide +kernel) rfl rfl .nil)) (fun e_ => .inl ⟨rfl, V1.t (V1.move' z_D) ⟨rfl, rfl⟩⟩) ?_
      refine Det.cons 21 (ins := [(53, _), (59, _)]) (.new 14 6 (by decide +kernel) rfl rfl (.new 20 0 (by decide +kernel) rfl rfl .nil)) (fun e_ => .inl ⟨rfl, V1.t (V1.add (c := ((6 : Nat) : Int)) rfl rfl (by decide)) ⟨rfl, rfl⟩⟩) ?_
      refine Det.cons 22 (ins := [(53, _), (58, _), (60, _)]) (.new 14 7 (by decide +kernel) rfl rfl (.new 19 2 (by decide +kernel) rfl rfl (.new 21 0 (by decide +kernel) rfl rfl .nil))) (fun e_ => .inl ⟨rfl, V1.t (V1.sliceSr (s := sSigns) (l := ((5 : Nat) : Int)) (h := ((6 : Nat) : Int)) ty_9 rfl rfl rfl (by decide) (by decide) (by decide) ((sg_at 5 (by decide)).resolve_right (by decide))) ⟨rfl, rfl⟩⟩) ?_
      refine Det.cons 23 (ins := [(53, _), (57, _), (61, _)]) (v := .bool false) (.new 14 8 (by decide +kernel) rfl rfl (.new 18 4 (by decide +kernel) rfl rfl (.new 22 0 (by decide +kernel) rfl rfl .nil))) (fun e_ => .inl ⟨rfl, ?_⟩) ?_
      · refine T1.callV has_94 rfl rfl (HasPre_any w0 (txt (.mk K nm ts) ++ more) [sgN 5]) z_E (fun v_ hv => ?_)
        obtain rfl := hv
        rw [pre1_f hhd (by decide) hkk]
        exact ⟨rfl, rfl⟩
      refine Det.cons 24 (ins := [(53, _), (62, _)]) (.new 14 9 (by decide +kernel) rfl rfl (.new 23 0 (by decide +kernel) rfl rfl .nil)) (fun e_ => .inl ⟨rfl, V1.t (V1.pick rfl z_D) ⟨rfl, rfl⟩⟩) ?_
      refine Det.cons 25 (ins := [(63, _)]) (.new 24 0 (by decide +kernel) rfl rfl .nil) (fun e_ => .inl ⟨rfl, V1.t (V1.move' z_D) ⟨rfl, rfl⟩⟩) ?_
      refine Det.cons 26 (ins := [(1, _), (64, _)]) (.old z_D (by decide +kernel) (.new 25 0 (by decide +kernel) rfl rfl .nil)) (fun e_ => .inl ⟨rfl, V1.t (V1.load1 (v := .pointer (some ⟨br, 0, none⟩)) one_113 rfl (.own z_C (by rfl))) ⟨rfl, rfl⟩⟩) ?_
      refine Det.cons 27 (ins := [(64, _), (65, _)]) (.new 25 1 (by decide +kernel) rfl rfl (.new 26 0 (by decide +kernel) rfl rfl .nil)) (fun e_ => .inl ⟨rfl, V1.t (V1.nilCheck rfl) ⟨rfl, rfl⟩⟩) ?_
      refine Det.cons 28 (ins := [(64, _), (66, _)]) (.new 25 2 (by decide +kernel) rfl rfl (.new 27 0 (by decide +kernel) rfl rfl .nil)) (fun e_ => .inl ⟨rfl, V1.t (V1.fieldAddr fl_115_0 rfl) ⟨rfl, rfl⟩⟩) ?_
      refine Det.cons 29 (ins := [(64, _), (67, _)]) (.new 25 3 (by decide +kernel) rfl rfl (.new 28 0 (by decide +kernel) rfl rfl .nil)) (fun e_ => .inl ⟨rfl, V1.t (V1.load1 (v := .string (bstr (txt (.mk K nm ts) ++ more))) one_9 rfl (.own z_C (by rfl))) ⟨rfl, rfl⟩⟩) ?_
      refine Det.cons 30 (ins := [(4, _), (64, _)]) (.old z_D (by decide +kernel) (.new 25 4 (by decide +kernel) rfl rfl .nil)) (fun e_ => .inl ⟨rfl, V1.t (V1.move' z_D) ⟨rfl, rfl⟩⟩) ?_
      refine Det.cons 31 (ins := [(4, _), (64, _)]) (.old z_D (by decide +kernel) (.new 25 5 (by decide +kernel) rfl rfl .nil)) (fun e_ => .inl ⟨rfl, V1.t (V1.move' z_D) ⟨rfl, rfl⟩⟩) ?_
      refine Det.cons 32 (ins := [(64, _), (70, _)]) (.new 25 6 (by decide +kernel) rfl rfl (.new 31 0 (by decide +kernel) rfl rfl .nil)) (fun e_ => .inl ⟨rfl, V1.t (V1.add (c := ((6 : Nat) : Int)) rfl rfl (by decide)) ⟨rfl, rfl⟩⟩) ?_
      refine Det.cons 33 (ins := [(64, _), (69, _), (71, _)]) (.new 25 7 (by decide +kernel) rfl rfl (.new 30 2 (by decide +kernel) rfl rfl (.new 32 0 (by decide +kernel) rfl rfl .nil))) (fun e_ => .inl ⟨rfl, V1.t (V1.sliceSr (s := sSigns) (l := ((5 : Nat) : Int)) (h := ((6 : Nat) : Int)) ty_9 rfl rfl rfl (by decide) (by decide) (by decide) ((sg_at 5 (by decide)).resolve_right (by decide))) ⟨rfl, rfl⟩⟩) ?_
      refine Det.cons 34 (ins := [(64, _), (72, _)]) (.new 25 8 (by decide +kernel) rfl rfl (.new 33 0 (by decide +kernel) rfl rfl .nil)) (fun e_ => .inl ⟨rfl, V1.t (V1.addSr (a := [sgN 5]) (b := [40]) rfl rfl (by decide) rfl) ⟨rfl, rfl⟩⟩) ?_
      refine Det.cons 35 (ins := [(64, _), (68, _), (73, _)]) (v := .bool false) (.new 25 9 (by decide +kernel) rfl rfl (.new 29 5 (by decide +kernel) rfl rfl (.new 34 0 (by decide +kernel) rfl rfl .nil))) (fun e_ => .inl ⟨rfl, ?_⟩) ?_
      · refine T1.callV has_94 rfl rfl (HasPre_any w0 (txt (.mk K nm ts) ++ more) [sgN 5, 40]) z_E (fun v_ hv => ?_)
        obtain rfl := hv
        rw [pre2_f hhd hmore (by decide) (by decide) hkk]
        exact ⟨rfl, rfl⟩
      refine Det.cons 36 (ins := [(64, _), (74, _)]) (.new 25 10 (by decide +kernel) rfl rfl (.new 35 0 (by decide +kernel) rfl rfl .nil)) (fun e_ => .inl ⟨rfl, V1.t (V1.pick rfl z_D) ⟨rfl, rfl⟩⟩) ?_
      refine Det.nil 37 (l := [(1, _), (2, _), (3, _), (4, _), (75, _)]) (.old z_D (by decide +kernel) (.old z_D (by decide +kernel) (.old z_D (by decide +kernel) (.old z_D (by decide +kernel) (.new 36 0 (by decide +kernel) rfl rfl .nil))))) (fun e_ => ?_)
      refine T.cond_f rfl ?_
      refine T.skip ?_
      refine T.region ?_
      refine TL.cons rfl (V1.t (V1.move' z_D) ?_)
      refine TL.cons rfl (V1.t (V1.add (c := ((6 : Nat) : Int)) rfl rfl (by decide)) ?_)
      refine TL.cons rfl (V1.t (V1.assign' z_D) ?_)
      refine TL.nil ?_
      exact ⟨6, (⟨b2, 0, [.int .i64 0, .string ⟨#[]⟩, .slice none 0 0], 3⟩ : Blk) :: (⟨b1, 0, [.pointer (some ⟨br, 0, none⟩)], 1⟩ : Blk) :: (⟨br, 0, [.string (bstr (txt (.mk K nm ts) ++ more)), .int .i64 (dp + 1 : Nat), .int .i64 (sz + 1 : Nat)], 3⟩ : Blk) :: G, _, (by simp only; omega), (.cons rfl (.cons (congrArg (Value.int .i64) (kv_miss (k := 5) hkk).symm) .nil)), (.cons rfl (.cons rfl .nil)), z_A, ⟨rfl, by decide, by decide⟩⟩
    ·
      refine T.drawDet' mixed (by decide +kernel) ?_
      refine Det.cons 0 (ins := [(4, _)]) (.old z_D (by decide +kernel) .nil) (fun e_ => .inl ⟨rfl, V1.t (V1.move' z_D) ⟨rfl, rfl⟩⟩) ?_
      refine Det.cons 1 (ins := [(39, _)]) (.new 0 0 (by decide +kernel) rfl rfl .nil) (fun e_ => .inl ⟨rfl, V1.t (V1.neI (r := true) rfl rfl (by decide)) ⟨rfl, rfl⟩⟩) ?_
      refine Det.cons 2 (ins := [(40, _)]) (.new 1 0 (by decide +kernel) rfl rfl .nil) (fun e_ => .inl ⟨rfl, V1.t (V1.move' z_D) ⟨rfl, rfl⟩⟩) ?_
      refine Det.cons 3 (ins := [(4, _), (41, _)]) (.old z_D (by decide +kernel) (.new 2 0 (by decide +kernel) rfl rfl .nil)) (fun e_ => .inl ⟨rfl, V1.t (V1.move' z_D) ⟨rfl, rfl⟩⟩) ?_
      refine Det.cons 4 (ins := [(41, _), (42, _)]) (.new 2 1 (by decide +kernel) rfl rfl (.new 3 0 (by decide +kernel) rfl rfl .nil)) (fun e_ => .inl ⟨rfl, V1.t (V1.neI (r := true) rfl rfl (by decide)) ⟨rfl, rfl⟩⟩) ?_
      refine Det.cons 5 (ins := [(41, _), (43, _)]) (.new 2 2 (by decide +kernel) rfl rfl (.new 4 0 (by decide +kernel) rfl rfl .nil)) (fun e_ => .inl ⟨rfl, V1.t (V1.pick rfl z_D) ⟨rfl, rfl⟩⟩) ?_
      refine Det.cons 6 (ins := [(44, _)]) (.new 5 0 (by decide +kernel) rfl rfl .nil) (fun e_ => .inl ⟨rfl, V1.t (V1.move' z_D) ⟨rfl, rfl⟩⟩) ?_
      refine Det.cons 7 (ins := [(4, _), (45, _)]) (.old z_D (by decide +kernel) (.new 6 0 (by decide +kernel) rfl rfl .nil)) (fun e_ => .inl ⟨rfl, V1.t (V1.move' z_D) ⟨rfl, rfl⟩⟩) ?_
      refine Det.cons 8 (ins := [(45, _), (46, _)]) (.new 6 1 (by decide +kernel) rfl rfl (.new 7 0 (by decide +kernel) rfl rfl .nil)) (fun e_ => .inl ⟨rfl, V1.t (V1.neI (r := true) rfl rfl (by decide)) ⟨rfl, rfl⟩⟩) ?_
      refine Det.cons 9 (ins := [(45, _), (47, _)]) (.new 6 2 (by decide +kernel) rfl rfl (.new 8 0 (by decide +kernel) rfl rfl .nil)) (fun e_ => .inl ⟨rfl, V1.t (V1.pick rfl z_D) ⟨rfl, rfl⟩⟩) ?_
      refine Det.cons 10 (ins := [(48, _)]) (.new 9 0 (by decide +kernel) rfl rfl .nil) (fun e_ => .inl ⟨rfl, V1.t (V1.move' z_D) ⟨rfl, rfl⟩⟩) ?_
      refine Det.cons 11 (ins := [(4, _), (49, _)]) (.old z_D (by decide +kernel) (.new 10 0 (by decide +kernel) rfl rfl .nil)) (fun e_ => .inl ⟨rfl, V1.t (V1.move' z_D) ⟨rfl, rfl⟩⟩) ?_
      refine Det.cons 12 (ins := [(49, _), (50, _)]) (.new 10 1 (by decide +kernel) rfl rfl (.new 11 0 (by decide +kernel) rfl rfl .nil)) (fun e_ => .inl ⟨rfl, V1.t (V1.neI (r := true) rfl rfl (by decide)) ⟨rfl, rfl⟩⟩) ?_
      refine Det.cons 13 (ins := [(49, _), (51, _)]) (.new 10 2 (by decide +kernel) rfl rfl (.new 12 0 (by decide +kernel) rfl rfl .nil)) (fun e_ => .inl ⟨rfl, V1.t (V1.pick rfl z_D) ⟨rfl, rfl⟩⟩) ?_
      refine Det.cons 14 (ins := [(52, _)]) (.new 13 0 (by decide +kernel) rfl rfl .nil) (fun e_ => .inl ⟨rfl, V1.t (V1.move' z_D) ⟨rfl, rfl⟩⟩) ?_
      refine Det.cons 15 (ins := [(1, _), (53, _)]) (.old z_D (by decide +kernel) (.new 14 0 (by decide +kernel) rfl rfl .nil)) (fun e_ => .inl ⟨rfl, V1.t (V1.load1 (v := .pointer (some ⟨br, 0, none⟩)) one_113 rfl (.own z_C (by rfl))) ⟨rfl, rfl⟩⟩) ?_
      refine Det.cons 16 (ins := [(53, _), (54, _)]) (.new 14 1 (by decide +kernel) rfl rfl (.new 15 0 (by decide +kernel) rfl rfl .nil)) (fun e_ => .inl ⟨rfl, V1.t (V1.nilCheck rfl) ⟨rfl, rfl⟩⟩) ?_
      refine Det.cons 17 (ins := [(53, _), (55, _)]) (.new 14 2 (by decide +kernel) rfl rfl (.new 16 0 (by decide +kernel) rfl rfl .nil)) (fun e_ => .inl ⟨rfl, V1.t (V1.fieldAddr fl_115_0 rfl) ⟨rfl, rfl⟩⟩) ?_
      refine Det.cons 18 (ins := [(53, _), (56, _)]) (.new 14 3 (by decide +kernel) rfl rfl (.new 17 0 (by decide +kernel) rfl rfl .nil)) (fun e_ => .inl ⟨rfl, V1.t (V1.load1 (v := .string (bstr (txt (.mk K nm ts) ++ more))) one_9 rfl (.own z_C (by rfl))) ⟨rfl, rfl⟩⟩) ?_
      refine Det.cons 19 (ins := [(4, _), (53, _)]) (.old z_D (by decide +kernel) (.new 14 4 (by decide +kernel) rfl rfl .nil)) (fun e_ => .inl ⟨rfl, V1.t (V1.move' z_D) ⟨rfl, rfl⟩⟩) ?_
      refine Det.cons 20 (ins := [(4, _), (53, _)]) (.old z_D (by decide +kernel) (.new 14 5 (by decide +kernel) rfl rfl .nil)) (fun e_ => .inl ⟨rfl, V1.t (V1.move' z_D) ⟨rfl, rfl⟩⟩) ?_
      refine Det.cons 21 (ins := [(53, _), (59, _)]) (.new 14 6 (by decide +kernel) rfl rfl (.new 20 0 (by decide +kernel) rfl rfl .nil)) (fun e_ => .inl ⟨rfl, V1.t (V1.add (c := ((7 : Nat) : Int)) rfl rfl (by decide)) ⟨rfl, rfl⟩⟩) ?_
      refine Det.cons 22 (ins := [(53, _), (58, _), (60, _)]) (.new 14 7 (by decide +kernel) rfl rfl (.new 19 2 (by decide +kernel) rfl rfl (.new 21 0 (by decide +kernel) rfl rfl .nil))) (fun e_ => .inl ⟨rfl, V1.t (V1.sliceSr (s := sSigns) (l := ((6 : Nat) : Int)) (h := ((7 : Nat) : Int)) ty_9 rfl rfl rfl (by decide) (by decide) (by decide) ((sg_at 6 (by decide)).resolve_right (by decide))) ⟨rfl, rfl⟩⟩) ?_
      refine Det.cons 23 (ins := [(53, _), (57, _), (61, _)]) (v := .bool true) (.new 14 8 (by decide +kernel) rfl rfl (.new 18 4 (by decide +kernel) rfl rfl (.new 22 0 (by decide +kernel) rfl rfl .nil))) (fun e_ => .inl ⟨rfl, ?_⟩) ?_
      · refine T1.callV has_94 rfl rfl (HasPre_any w0 (txt (.mk K nm ts) ++ more) [sgN 6]) z_E (fun v_ hv => ?_)
        obtain rfl := hv
        rw [pre1_t hhd (by decide) hkk]
        exact ⟨rfl, rfl⟩
      refine Det.cons 24 (ins := [(53, _), (62, _)]) (.new 14 9 (by decide +kernel) rfl rfl (.new 23 0 (by decide +kernel) rfl rfl .nil)) (fun e_ => .inl ⟨rfl, V1.t (V1.pick rfl z_D) ⟨rfl, rfl⟩⟩) ?_
      refine Det.cons 25 (ins := [(63, _)]) (.new 24 0 (by decide +kernel) rfl rfl .nil) (fun e_ => .inl ⟨rfl, V1.t (V1.move' z_D) ⟨rfl, rfl⟩⟩) ?_
      refine Det.cons 26 (ins := [(64, _)]) (.new 25 0 (by decide +kernel) rfl rfl .nil) (fun e_ => .inr ⟨rfl, rfl⟩) ?_
      refine Det.cons 27 (ins := [(64, _)]) (.new 25 1 (by decide +kernel) rfl rfl .nil) (fun e_ => .inr ⟨rfl, rfl⟩) ?_
      refine Det.cons 28 (ins := [(64, _)]) (.new 25 2 (by decide +kernel) rfl rfl .nil) (fun e_ => .inr ⟨rfl, rfl⟩) ?_
      refine Det.cons 29 (ins := [(64, _)]) (.new 25 3 (by decide +kernel) rfl rfl .nil) (fun e_ => .inr ⟨rfl, rfl⟩) ?_
      refine Det.cons 30 (ins := [(64, _)]) (.new 25 4 (by decide +kernel) rfl rfl .nil) (fun e_ => .inr ⟨rfl, rfl⟩) ?_
      refine Det.cons 31 (ins := [(64, _)]) (.new 25 5 (by decide +kernel) rfl rfl .nil) (fun e_ => .inr ⟨rfl, rfl⟩) ?_
      refine Det.cons 32 (ins := [(64, _)]) (.new 25 6 (by decide +kernel) rfl rfl .nil) (fun e_ => .inr ⟨rfl, rfl⟩) ?_
      refine Det.cons 33 (ins := [(64, _)]) (.new 25 7 (by decide +kernel) rfl rfl .nil) (fun e_ => .inr ⟨rfl, rfl⟩) ?_
      refine Det.cons 34 (ins := [(64, _)]) (.new 25 8 (by decide +kernel) rfl rfl .nil) (fun e_ => .inr ⟨rfl, rfl⟩) ?_
      refine Det.cons 35 (ins := [(64, _)]) (.new 25 9 (by decide +kernel) rfl rfl .nil) (fun e_ => .inr ⟨rfl, rfl⟩) ?_
      refine Det.cons 36 (ins := [(64, _), (74, _)]) (.new 25 10 (by decide +kernel) rfl rfl (.new 35 0 (by decide +kernel) rfl rfl .nil)) (fun e_ => .inl ⟨rfl, V1.t (V1.pick rfl z_D) ⟨rfl, rfl⟩⟩) ?_
      refine Det.nil 37 (l := [(1, _), (2, _), (3, _), (4, _), (75, _)]) (.old z_D (by decide +kernel) (.old z_D (by decide +kernel) (.old z_D (by decide +kernel) (.old z_D (by decide +kernel) (.new 36 0 (by decide +kernel) rfl rfl .nil))))) (fun e_ => ?_)
      refine T.cond_t rfl ?_
      refine T.region ?_
      refine TL.cons rfl (V1.t (V1.move' z_D) ?_)
      refine TL.cons rfl (V1.t (V1.assign' z_D) ?_)
      refine TL.nil ?_
      refine T.region ?_
      refine TL.cons rfl (V1.t (V1.move' z_D) ?_)
      refine TL.cons rfl (V1.t (V1.add (c := ((7 : Nat) : Int)) rfl rfl (by decide)) ?_)
      refine TL.cons rfl (V1.t (V1.assign' z_D) ?_)
      refine TL.nil ?_
      exact ⟨7, (⟨b2, 0, [.int .i64 0, .string ⟨#[]⟩, .slice none 0 0], 3⟩ : Blk) :: (⟨b1, 0, [.pointer (some ⟨br, 0, none⟩)], 1⟩ : Blk) :: (⟨br, 0, [.string (bstr (txt (.mk K nm ts) ++ more)), .int .i64 (dp + 1 : Nat), .int .i64 (sz + 1 : Nat)], 3⟩ : Blk) :: G, _, (by simp only; omega), (.cons rfl (.cons (congrArg (Value.int .i64) (kv_hit (k := 6) hkk (by decide)).symm) .nil)), (.cons rfl (.cons rfl .nil)), z_A, ⟨rfl, by decide, by decide⟩⟩
    ·
      refine T.drawDet' mixed (by decide +kernel) ?_
      refine Det.cons 0 (ins := [(4, _)]) (.old z_D (by decide +kernel) .nil) (fun e_ => .inl ⟨rfl, V1.t (V1.move' z_D) ⟨rfl, rfl⟩⟩) ?_
      refine Det.cons 1 (ins := [(39, _)]) (.new 0 0 (by decide +kernel) rfl rfl .nil) (fun e_ => .inl ⟨rfl, V1.t (V1.neI (r := true) rfl rfl (by decide)) ⟨rfl, rfl⟩⟩) ?_
      refine Det.cons 2 (ins := [(40, _)]) (.new 1 0 (by decide +kernel) rfl rfl .nil) (fun e_ => .inl ⟨rfl, V1.t (V1.move' z_D) ⟨rfl, rfl⟩⟩) ?_
      refine Det.cons 3 (ins := [(4, _), (41, _)]) (.old z_D (by decide +kernel) (.new 2 0 (by decide +kernel) rfl rfl .nil)) (fun e_ => .inl ⟨rfl, V1.t (V1.move' z_D) ⟨rfl, rfl⟩⟩) ?_
      refine Det.cons 4 (ins := [(41, _), (42, _)]) (.new 2 1 (by decide +kernel) rfl rfl (.new 3 0 (by decide +kernel) rfl rfl .nil)) (fun e_ => .inl ⟨rfl, V1.t (V1.neI (r := true) rfl rfl (by decide)) ⟨rfl, rfl⟩⟩) ?_
      refine Det.cons 5 (ins := [(41, _), (43, _)]) (.new 2 2 (by decide +kernel) rfl rfl (.new 4 0 (by decide +kernel) rfl rfl .nil)) (fun e_ => .inl ⟨rfl, V1.t (V1.pick rfl z_D) ⟨rfl, rfl⟩⟩) ?_
      refine Det.cons 6 (ins := [(44, _)]) (.new 5 0 (by decide +kernel) rfl rfl .nil) (fun e_ => .inl ⟨rfl, V1.t (V1.move' z_D) ⟨rfl, rfl⟩⟩) ?_
      refine Det.cons 7 (ins := [(4, _), (45, _)]) (.old z_D (by decide +kernel) (.new 6 0 (by decide +kernel) rfl rfl .nil)) (fun e_ => .inl ⟨rfl, V1.t (V1.move' z_D) ⟨rfl, rfl⟩⟩) ?_
      refine Det.cons 8 (ins := [(45, _), (46, _)]) (.new 6 1 (by decide +kernel) rfl rfl (.new 7 0 (by decide +kernel) rfl rfl .nil)) (fun e_ => .inl ⟨rfl, V1.t (V1.neI (r := true) rfl rfl (by decide)) ⟨rfl, rfl⟩⟩) ?_
      refine Det.cons 9 (ins := [(45, _), (47, _)]) (.new 6 2 (by decide +kernel) rfl rfl (.new 8 0 (by decide +kernel) rfl rfl .nil)) (fun e_ => .inl ⟨rfl, V1.t (V1.pick rfl z_D) ⟨rfl, rfl⟩⟩) ?_
      refine Det.cons 10 (ins := [(48, _)]) (.new 9 0 (by decide +kernel) rfl rfl .nil) (fun e_ => .inl ⟨rfl, V1.t (V1.move' z_D) ⟨rfl, rfl⟩⟩) ?_
      refine Det.cons 11 (ins := [(4, _), (49, _)]) (.old z_D (by decide +kernel) (.new 10 0 (by decide +kernel) rfl rfl .nil)) (fun e_ => .inl ⟨rfl, V1.t (V1.move' z_D) ⟨rfl, rfl⟩⟩) ?_
      refine Det.cons 12 (ins := [(49, _), (50, _)]) (.new 10 1 (by decide +kernel) rfl rfl (.new 11 0 (by decide +kernel) rfl rfl .nil)) (fun e_ => .inl ⟨rfl, V1.t (V1.neI (r := true) rfl rfl (by decide)) ⟨rfl, rfl⟩⟩) ?_
      refine Det.cons 13 (ins := [(49, _), (51, _)]) (.new 10 2 (by decide +kernel) rfl rfl (.new 12 0 (by decide +kernel) rfl rfl .nil)) (fun e_ => .inl ⟨rfl, V1.t (V1.pick rfl z_D) ⟨rfl, rfl⟩⟩) ?_
      refine Det.cons 14 (ins := [(52, _)]) (.new 13 0 (by decide +kernel) rfl rfl .nil) (fun e_ => .inl ⟨rfl, V1.t (V1.move' z_D) ⟨rfl, rfl⟩⟩) ?_
      refine Det.cons 15 (ins := [(1, _), (53, _)]) (.old z_D (by decide +kernel) (.new 14 0 (by decide +kernel) rfl rfl .nil)) (fun e_ => .inl ⟨rfl, V1.t (V1.load1 (v := .pointer (some ⟨br, 0, none⟩)) one_113 rfl (.own z_C (by rfl))) ⟨rfl, rfl⟩⟩) ?_
      refine Det.cons 16 (ins := [(53, _), (54, _)]) (.new 14 1 (by decide +kernel) rfl rfl (.new 15 0 (by decide +kernel) rfl rfl .nil)) (fun e_ => .inl ⟨rfl, V1.t (V1.nilCheck rfl) ⟨rfl, rfl⟩⟩) ?_
      refine Det.cons 17 (ins := [(53, _), (55, _)]) (.new 14 2 (by decide +kernel) rfl rfl (.new 16 0 (by decide +kernel) rfl rfl .nil)) (fun e_ => .inl ⟨rfl, V1.t (V1.fieldAddr fl_115_0 rfl) ⟨rfl, rfl⟩⟩) ?_
      refine Det.cons 18 (ins := [(53, _), (56, _)]) (.new 14 3 (by decide +kernel) rfl rfl (.new 17 0 (by decide +kernel) rfl rfl .nil)) (fun e_ => .inl ⟨rfl, V1.t (V1.load1 (v := .string (bstr (txt (.mk K nm ts) ++ more))) one_9 rfl (.own z_C (by rfl))) ⟨rfl, rfl⟩⟩) ?_
      refine Det.cons 19 (ins := [(4, _), (53, _)]) (.old z_D (by decide +kernel) (.new 14 4 (by decide +kernel) rfl rfl .nil)) (fun e_ => .inl ⟨rfl, V1.t (V1.move' z_D) ⟨rfl, rfl⟩⟩) ?_
      refine Det.cons 20 (ins := [(4, _), (53, _)]) (.old z_D (by decide +kernel) (.new 14 5 (by decide +kernel) rfl rfl .nil)) (fun e_ => .inl ⟨rfl, V1.t (V1.move' z_D) ⟨rfl, rfl⟩⟩) ?_
      refine Det.cons 21 (ins := [(53, _), (59, _)]) (.new 14 6 (by decide +kernel) rfl rfl (.new 20 0 (by decide +kernel) rfl rfl .nil)) (fun e_ => .inl ⟨rfl, V1.t (V1.add (c := ((7 : Nat) : Int)) rfl rfl (by decide)) ⟨rfl, rfl⟩⟩) ?_
      refine Det.cons 22 (ins := [(53, _), (58, _), (60, _)]) (.new 14 7 (by decide +kernel) rfl rfl (.new 19 2 (by decide +kernel) rfl rfl (.new 21 0 (by decide +kernel) rfl rfl .nil))) (fun e_ => .inl ⟨rfl, V1.t (V1.sliceSr (s := sSigns) (l := ((6 : Nat) : Int)) (h := ((7 : Nat) : Int)) ty_9 rfl rfl rfl (by decide) (by decide) (by decide) ((sg_at 6 (by decide)).resolve_right (by decide))) ⟨rfl, rfl⟩⟩) ?_
      refine Det.cons 23 (ins := [(53, _), (57, _), (61, _)]) (v := .bool false) (.new 14 8 (by decide +kernel) rfl rfl (.new 18 4 (by decide +kernel) rfl rfl (.new 22 0 (by decide +kernel) rfl rfl .nil))) (fun e_ => .inl ⟨rfl, ?_⟩) ?_
      · refine T1.callV has_94 rfl rfl (HasPre_any w0 (txt (.mk K nm ts) ++ more) [sgN 6]) z_E (fun v_ hv => ?_)
        obtain rfl := hv
        rw [pre1_f hhd (by decide) hkk]
        exact ⟨rfl, rfl⟩
      refine Det.cons 24 (ins := [(53, _), (62, _)]) (.new 14 9 (by decide +kernel) rfl rfl (.new 23 0 (by decide +kernel) rfl rfl .nil)) (fun e_ => .inl ⟨rfl, V1.t (V1.pick rfl z_D) ⟨rfl, rfl⟩⟩) ?_
      refine Det.cons 25 (ins := [(63, _)]) (.new 24 0 (by decide +kernel) rfl rfl .nil) (fun e_ => .inl ⟨rfl, V1.t (V1.move' z_D) ⟨rfl, rfl⟩⟩) ?_
      refine Det.cons 26 (ins := [(1, _), (64, _)]) (.old z_D (by decide +kernel) (.new 25 0 (by decide +kernel) rfl rfl .nil)) (fun e_ => .inl ⟨rfl, V1.t (V1.load1 (v := .pointer (some ⟨br, 0, none⟩)) one_113 rfl (.own z_C (by rfl))) ⟨rfl, rfl⟩⟩) ?_
      refine Det.cons 27 (ins := [(64, _), (65, _)]) (.new 25 1 (by decide +kernel) rfl rfl (.new 26 0 (by decide +kernel) rfl rfl .nil)) (fun e_ => .inl ⟨rfl, V1.t (V1.nilCheck rfl) ⟨rfl, rfl⟩⟩) ?_
      refine Det.cons 28 (ins := [(64, _), (66, _)]) (.new 25 2 (by decide +kernel) rfl rfl (.new 27 0 (by decide +kernel) rfl rfl .nil)) (fun e_ => .inl ⟨rfl, V1.t (V1.fieldAddr fl_115_0 rfl) ⟨rfl, rfl⟩⟩) ?_
      refine Det.cons 29 (ins := [(64, _), (67, _)]) (.new 25 3 (by decide +kernel) rfl rfl (.new 28 0 (by decide +kernel) rfl rfl .nil)) (fun e_ => .inl ⟨rfl, V1.t (V1.load1 (v := .string (bstr (txt (.mk K nm ts) ++ more))) one_9 rfl (.own z_C (by rfl))) ⟨rfl, rfl⟩⟩) ?_
      refine Det.cons 30 (ins := [(4, _), (64, _)]) (.old z_D (by decide +kernel) (.new 25 4 (by decide +kernel) rfl rfl .nil)) (fun e_ => .inl ⟨rfl, V1.t (V1.move' z_D) ⟨rfl, rfl⟩⟩) ?_
      refine Det.cons 31 (ins := [(4, _), (64, _)]) (.old z_D (by decide +kernel) (.new 25 5 (by decide +kernel) rfl rfl .nil)) (fun e_ => .inl ⟨rfl, V1.t (V1.move' z_D) ⟨rfl, rfl⟩⟩) ?_
      refine Det.cons 32 (ins := [(64, _), (70, _)]) (.new 25 6 (by decide +kernel) rfl rfl (.new 31 0 (by decide +kernel) rfl rfl .nil)) (fun e_ => .inl ⟨rfl, V1.t (V1.add (c := ((7 : Nat) : Int)) rfl rfl (by decide)) ⟨rfl, rfl⟩⟩) ?_
      refine Det.cons 33 (ins := [(64, _), (69, _), (71, _)]) (.new 25 7 (by decide +kernel) rfl rfl (.new 30 2 (by decide +kernel) rfl rfl (.new 32 0 (by decide +kernel) rfl rfl .nil))) (fun e_ => .inl ⟨rfl, V1.t (V1.sliceSr (s := sSigns) (l := ((6 : Nat) : Int)) (h := ((7 : Nat) : Int)) ty_9 rfl rfl rfl (by decide) (by decide) (by decide) ((sg_at 6 (by decide)).resolve_right (by decide))) ⟨rfl, rfl⟩⟩) ?_
      refine Det.cons 34 (ins := [(64, _), (72, _)]) (.new 25 8 (by decide +kernel) rfl rfl (.new 33 0 (by decide +kernel) rfl rfl .nil)) (fun e_ => .inl ⟨rfl, V1.t (V1.addSr (a := [sgN 6]) (b := [40]) rfl rfl (by decide) rfl) ⟨rfl, rfl⟩⟩) ?_
      refine Det.cons 35 (ins := [(64, _), (68, _), (73, _)]) (v := .bool false) (.new 25 9 (by decide +kernel) rfl rfl (.new 29 5 (by decide +kernel) rfl rfl (.new 34 0 (by decide +kernel) rfl rfl .nil))) (fun e_ => .inl ⟨rfl, ?_⟩) ?_
      · refine T1.callV has_94 rfl rfl (HasPre_any w0 (txt (.mk K nm ts) ++ more) [sgN 6, 40]) z_E (fun v_ hv => ?_)
        obtain rfl := hv
        rw [pre2_f hhd hmore (by decide) (by decide) hkk]
        exact ⟨rfl, rfl⟩
      refine Det.cons 36 (ins := [(64, _), (74, _)]) (.new 25 10 (by decide +kernel) rfl rfl (.new 35 0 (by decide +kernel) rfl rfl .nil)) (fun e_ => .inl ⟨rfl, V1.t (V1.pick rfl z_D) ⟨rfl, rfl⟩⟩) ?_
      refine Det.nil 37 (l := [(1, _), (2, _), (3, _), (4, _), (75, _)]) (.old z_D (by decide +kernel) (.old z_D (by decide +kernel) (.old z_D (by decide +kernel) (.old z_D (by decide +kernel) (.new 36 0 (by decide +kernel) rfl rfl .nil))))) (fun e_ => ?_)
      refine T.cond_f rfl ?_
      refine T.skip ?_
      refine T.region ?_
      refine TL.cons rfl (V1.t (V1.move' z_D) ?_)
      refine TL.cons rfl (V1.t (V1.add (c := ((7 : Nat) : Int)) rfl rfl (by decide)) ?_)
      refine TL.cons rfl (V1.t (V1.assign' z_D) ?_)
      refine TL.nil ?_
      exact ⟨7, (⟨b2, 0, [.int .i64 0, .string ⟨#[]⟩, .slice none 0 0], 3⟩ : Blk) :: (⟨b1, 0, [.pointer (some ⟨br, 0, none⟩)], 1⟩ : Blk) :: (⟨br, 0, [.string (bstr (txt (.mk K nm ts) ++ more)), .int .i64 (dp + 1 : Nat), .int .i64 (sz + 1 : Nat)], 3⟩ : Blk) :: G, _, (by simp only; omega), (.cons rfl (.cons (congrArg (Value.int .i64) (kv_miss (k := 6) hkk).symm) .nil)), (.cons rfl (.cons rfl .nil)), z_A, ⟨rfl, by decide, by decide⟩⟩
    ·
      refine T.drawDet' mixed (by decide +kernel) ?_
      refine Det.cons 0 (ins := [(4, _)]) (.old z_D (by decide +kernel) .nil) (fun e_ => .inl ⟨rfl, V1.t (V1.move' z_D) ⟨rfl, rfl⟩⟩) ?_
      refine Det.cons 1 (ins := [(39, _)]) (.new 0 0 (by decide +kernel) rfl rfl .nil) (fun e_ => .inl ⟨rfl, V1.t (V1.neI (r := true) rfl rfl (by decide)) ⟨rfl, rfl⟩⟩) ?_
      refine Det.cons 2 (ins := [(40, _)]) (.new 1 0 (by decide +kernel) rfl rfl .nil) (fun e_ => .inl ⟨rfl, V1.t (V1.move' z_D) ⟨rfl, rfl⟩⟩) ?_
      refine Det.cons 3 (ins := [(4, _), (41, _)]) (.old z_D (by decide +kernel) (.new 2 0 (by decide +kernel) rfl rfl .nil)) (fun e_ => .inl ⟨rfl, V1.t (V1.move' z_D) ⟨rfl, rfl⟩⟩) ?_
      refine Det.cons 4 (ins := [(41, _), (42, _)]) (.new 2 1 (by decide +kernel) rfl rfl (.new 3 0 (by decide +kernel) rfl rfl .nil)) (fun e_ => .inl ⟨rfl, V1.t (V1.neI (r := true) rfl rfl (by decide)) ⟨rfl, rfl⟩⟩) ?_
      refine Det.cons 5 (ins := [(41, _), (43, _)]) (.new 2 2 (by decide +kernel) rfl rfl (.new 4 0 (by decide +kernel) rfl rfl .nil)) (fun e_ => .inl ⟨rfl, V1.t (V1.pick rfl z_D) ⟨rfl, rfl⟩⟩) ?_
      refine Det.cons 6 (ins := [(44, _)]) (.new 5 0 (by decide +kernel) rfl rfl .nil) (fun e_ => .inl ⟨rfl, V1.t (V1.move' z_D) ⟨rfl, rfl⟩⟩) ?_
      refine Det.cons 7 (ins := [(4, _), (45, _)]) (.old z_D (by decide +kernel) (.new 6 0 (by decide +kernel) rfl rfl .nil)) (fun e_ => .inl ⟨rfl, V1.t (V1.move' z_D) ⟨rfl, rfl⟩⟩) ?_
      refine Det.cons 8 (ins := [(45, _), (46, _)]) (.new 6 1 (by decide +kernel) rfl rfl (.new 7 0 (by decide +kernel) rfl rfl .nil)) (fun e_ => .inl ⟨rfl, V1.t (V1.neI (r := true) rfl rfl (by decide)) ⟨rfl, rfl⟩⟩) ?_
      refine Det.cons 9 (ins := [(45, _), (47, _)]) (.new 6 2 (by decide +kernel) rfl rfl (.new 8 0 (by decide +kernel) rfl rfl .nil)) (fun e_ => .inl ⟨rfl, V1.t (V1.pick rfl z_D) ⟨rfl, rfl⟩⟩) ?_
      refine Det.cons 10 (ins := [(48, _)]) (.new 9 0 (by decide +kernel) rfl rfl .nil) (fun e_ => .inl ⟨rfl, V1.t (V1.move' z_D) ⟨rfl, rfl⟩⟩) ?_
      refine Det.cons 11 (ins := [(4, _), (49, _)]) (.old z_D (by decide +kernel) (.new 10 0 (by decide +kernel) rfl rfl .nil)) (fun e_ => .inl ⟨rfl, V1.t (V1.move' z_D) ⟨rfl, rfl⟩⟩) ?_
      refine Det.cons 12 (ins := [(49, _), (50, _)]) (.new 10 1 (by decide +kernel) rfl rfl (.new 11 0 (by decide +kernel) rfl rfl .nil)) (fun e_ => .inl ⟨rfl, V1.t (V1.neI (r := true) rfl rfl (by decide)) ⟨rfl, rfl⟩⟩) ?_
      refine Det.cons 13 (ins := [(49, _), (51, _)]) (.new 10 2 (by decide +kernel) rfl rfl (.new 12 0 (by decide +kernel) rfl rfl .nil)) (fun e_ => .inl ⟨rfl, V1.t (V1.pick rfl z_D) ⟨rfl, rfl⟩⟩) ?_
      refine Det.cons 14 (ins := [(52, _)]) (.new 13 0 (by decide +kernel) rfl rfl .nil) (fun e_ => .inl ⟨rfl, V1.t (V1.move' z_D) ⟨rfl, rfl⟩⟩) ?_
      refine Det.cons 15 (ins := [(1, _), (53, _)]) (.old z_D (by decide +kernel) (.new 14 0 (by decide +kernel) rfl rfl .nil)) (fun e_ => .inl ⟨rfl, V1.t (V1.load1 (v := .pointer (some ⟨br, 0, none⟩)) one_113 rfl (.own z_C (by rfl))) ⟨rfl, rfl⟩⟩) ?_
      refine Det.cons 16 (ins := [(53, _), (54, _)]) (.new 14 1 (by decide +kernel) rfl rfl (.new 15 0 (by decide +kernel) rfl rfl .nil)) (fun e_ => .inl ⟨rfl, V1.t (V1.nilCheck rfl) ⟨rfl, rfl⟩⟩) ?_
      refine Det.cons 17 (ins := [(53, _), (55, _)]) (.new 14 2 (by decide +kernel) rfl rfl (.new 16 0 (by decide +kernel) rfl rfl .nil)) (fun e_ => .inl ⟨rfl, V1.t (V1.fieldAddr fl_115_0 rfl) ⟨rfl, rfl⟩⟩) ?_
      refine Det.cons 18 (ins := [(53, _), (56, _)]) (.new 14 3 (by decide +kernel) rfl rfl (.new 17 0 (by decide +kernel) rfl rfl .nil)) (fun e_ => .inl ⟨rfl, V1.t (V1.load1 (v := .string (bstr (txt (.mk K nm ts) ++ more))) one_9 rfl (.own z_C (by rfl))) ⟨rfl, rfl⟩⟩) ?_
      refine Det.cons 19 (ins := [(4, _), (53, _)]) (.old z_D (by decide +kernel) (.new 14 4 (by decide +kernel) rfl rfl .nil)) (fun e_ => .inl ⟨rfl, V1.t (V1.move' z_D) ⟨rfl, rfl⟩⟩) ?_
      refine Det.cons 20 (ins := [(4, _), (53, _)]) (.old z_D (by decide +kernel) (.new 14 5 (by decide +kernel) rfl rfl .nil)) (fun e_ => .inl ⟨rfl, V1.t (V1.move' z_D) ⟨rfl, rfl⟩⟩) ?_
      refine Det.cons 21 (ins := [(53, _), (59, _)]) (.new 14 6 (by decide +kernel) rfl rfl (.new 20 0 (by decide +kernel) rfl rfl .nil)) (fun e_ => .inl ⟨rfl, V1.t (V1.add (c := ((8 : Nat) : Int)) rfl rfl (by decide)) ⟨rfl, rfl⟩⟩) ?_
      refine Det.cons 22 (ins := [(53, _), (58, _), (60, _)]) (.new 14 7 (by decide +kernel) rfl rfl (.new 19 2 (by decide +kernel) rfl rfl (.new 21 0 (by decide +kernel) rfl rfl .nil))) (fun e_ => .inl ⟨rfl, V1.t (V1.sliceSr (s := sSigns) (l := ((7 : Nat) : Int)) (h := ((8 : Nat) : Int)) ty_9 rfl rfl rfl (by decide) (by decide) (by decide) ((sg_at 7 (by decide)).resolve_right (by decide))) ⟨rfl, rfl⟩⟩) ?_
      refine Det.cons 23 (ins := [(53, _), (57, _), (61, _)]) (v := .bool true) (.new 14 8 (by decide +kernel) rfl rfl (.new 18 4 (by decide +kernel) rfl rfl (.new 22 0 (by decide +kernel) rfl rfl .nil))) (fun e_ => .inl ⟨rfl, ?_⟩) ?_
      · refine T1.callV has_94 rfl rfl (HasPre_any w0 (txt (.mk K nm ts) ++ more) [sgN 7]) z_E (fun v_ hv => ?_)
        obtain rfl := hv
        rw [pre1_t hhd (by decide) hkk]
        exact ⟨rfl, rfl⟩
      refine Det.cons 24 (ins := [(53, _), (62, _)]) (.new 14 9 (by decide +kernel) rfl rfl (.new 23 0 (by decide +kernel) rfl rfl .nil)) (fun e_ => .inl ⟨rfl, V1.t (V1.pick rfl z_D) ⟨rfl, rfl⟩⟩) ?_
      refine Det.cons 25 (ins := [(63, _)]) (.new 24 0 (by decide +kernel) rfl rfl .nil) (fun e_ => .inl ⟨rfl, V1.t (V1.move' z_D) ⟨rfl, rfl⟩⟩) ?_
      refine Det.cons 26 (ins := [(64, _)]) (.new 25 0 (by decide +kernel) rfl rfl .nil) (fun e_ => .inr ⟨rfl, rfl⟩) ?_
      refine Det.cons 27 (ins := [(64, _)]) (.new 25 1 (by decide +kernel) rfl rfl .nil) (fun e_ => .inr ⟨rfl, rfl⟩) ?_
      refine Det.cons 28 (ins := [(64, _)]) (.new 25 2 (by decide +kernel) rfl rfl .nil) (fun e_ => .inr ⟨rfl, rfl⟩) ?_
      refine Det.cons 29 (ins := [(64, _)]) (.new 25 3 (by decide +kernel) rfl rfl .nil) (fun e_ => .inr ⟨rfl, rfl⟩) ?_
      refine Det.cons 30 (ins := [(64, _)]) (.new 25 4 (by decide +kernel) rfl rfl .nil) (fun e_ => .inr ⟨rfl, rfl⟩) ?_
      refine Det.cons 31 (ins := [(64, _)]) (.new 25 5 (by decide +kernel) rfl rfl .nil) (fun e_ => .inr ⟨rfl, rfl⟩) ?_
      refine Det.cons 32 (ins := [(64, _)]) (.new 25 6 (by decide +kernel) rfl rfl .nil) (fun e_ => .inr ⟨rfl, rfl⟩) ?_
      refine Det.cons 33 (ins := [(64, _)]) (.new 25 7 (by decide +kernel) rfl rfl .nil) (fun e_ => .inr ⟨rfl, rfl⟩) ?_
      refine Det.cons 34 (ins := [(64, _)]) (.new 25 8 (by decide +kernel) rfl rfl .nil) (fun e_ => .inr ⟨rfl, rfl⟩) ?_
      refine Det.cons 35 (ins := [(64, _)]) (.new 25 9 (by decide +kernel) rfl rfl .nil) (fun e_ => .inr ⟨rfl, rfl⟩) ?_
      refine Det.cons 36 (ins := [(64, _), (74, _)]) (.new 25 10 (by decide +kernel) rfl rfl (.new 35 0 (by decide +kernel) rfl rfl .nil)) (fun e_ => .inl ⟨rfl, V1.t (V1.pick rfl z_D) ⟨rfl, rfl⟩⟩) ?_
      refine Det.nil 37 (l := [(1, _), (2, _), (3, _), (4, _), (75, _)]) (.old z_D (by decide +kernel) (.old z_D (by decide +kernel) (.old z_D (by decide +kernel) (.old z_D (by decide +kernel) (.new 36 0 (by decide +kernel) rfl rfl .nil))))) (fun e_ => ?_)
      refine T.cond_t rfl ?_
      refine T.region ?_
      refine TL.cons rfl (V1.t (V1.move' z_D) ?_)
      refine TL.cons rfl (V1.t (V1.assign' z_D) ?_)
      refine TL.nil ?_
      refine T.region ?_
      refine TL.cons rfl (V1.t (V1.move' z_D) ?_)
      refine TL.cons rfl (V1.t (V1.add (c := ((8 : Nat) : Int)) rfl rfl (by decide)) ?_)
      refine TL.cons rfl (V1.t (V1.assign' z_D) ?_)
      refine TL.nil ?_
      exact ⟨8, (⟨b2, 0, [.int .i64 0, .string ⟨#[]⟩, .slice none 0 0], 3⟩ : Blk) :: (⟨b1, 0, [.pointer (some ⟨br, 0, none⟩)], 1⟩ : Blk) :: (⟨br, 0, [.string (bstr (txt (.mk K nm ts) ++ more)), .int .i64 (dp + 1 : Nat), .int .i64 (sz + 1 : Nat)], 3⟩ : Blk) :: G, _, (by simp only; omega), (.cons rfl (.cons (congrArg (Value.int .i64) (kv_hit (k := 7) hkk (by decide)).symm) .nil)), (.cons rfl (.cons rfl .nil)), z_A, ⟨rfl, by decide, by decide⟩⟩
    ·
      refine T.drawDet' mixed (by decide +kernel) ?_
      refine Det.cons 0 (ins := [(4, _)]) (.old z_D (by decide +kernel) .nil) (fun e_ => .inl ⟨rfl, V1.t (V1.move' z_D) ⟨rfl, rfl⟩⟩) ?_
      refine Det.cons 1 (ins := [(39, _)]) (.new 0 0 (by decide +kernel) rfl rfl .nil) (fun e_ => .inl ⟨rfl, V1.t (V1.neI (r := true) rfl rfl (by decide)) ⟨rfl, rfl⟩⟩) ?_
      refine Det.cons 2 (ins := [(40, _)]) (.new 1 0 (by decide +kernel) rfl rfl .nil) (fun e_ => .inl ⟨rfl, V1.t (V1.move' z_D) ⟨rfl, rfl⟩⟩) ?_
      refine Det.cons 3 (ins := [(4, _), (41, _)]) (.old z_D (by decide +kernel) (.new 2 0 (by decide +kernel) rfl rfl .nil)) (fun e_ => .inl ⟨rfl, V1.t (V1.move' z_D) ⟨rfl, rfl⟩⟩) ?_
      refine Det.cons 4 (ins := [(41, _), (42, _)]) (.new 2 1 (by decide +kernel) rfl rfl (.new 3 0 (by decide +kernel) rfl rfl .nil)) (fun e_ => .inl ⟨rfl, V1.t (V1.neI (r := true) rfl rfl (by decide)) ⟨rfl, rfl⟩⟩) ?_
      refine Det.cons 5 (ins := [(41, _), (43, _)]) (.new 2 2 (by decide +kernel) rfl rfl (.new 4 0 (by decide +kernel) rfl rfl .nil)) (fun e_ => .inl ⟨rfl, V1.t (V1.pick rfl z_D) ⟨rfl, rfl⟩⟩) ?_
      refine Det.cons 6 (ins := [(44, _)]) (.new 5 0 (by decide +kernel) rfl rfl .nil) (fun e_ => .inl ⟨rfl, V1.t (V1.move' z_D) ⟨rfl, rfl⟩⟩) ?_
      refine Det.cons 7 (ins := [(4, _), (45, _)]) (.old z_D (by decide +kernel) (.new 6 0 (by decide +kernel) rfl rfl .nil)) (fun e_ => .inl ⟨rfl, V1.t (V1.move' z_D) ⟨rfl, rfl⟩⟩) ?_
      refine Det.cons 8 (ins := [(45, _), (46, _)]) (.new 6 1 (by decide +kernel) rfl rfl (.new 7 0 (by decide +kernel) rfl rfl .nil)) (fun e_ => .inl ⟨rfl, V1.t (V1.neI (r := true) rfl rfl (by decide)) ⟨rfl, rfl⟩⟩) ?_
      refine Det.cons 9 (ins := [(45, _), (47, _)]) (.new 6 2 (by decide +kernel) rfl rfl (.new 8 0 (by decide +kernel) rfl rfl .nil)) (fun e_ => .inl ⟨rfl, V1.t (V1.pick rfl z_D) ⟨rfl, rfl⟩⟩) ?_
      refine Det.cons 10 (ins := [(48, _)]) (.new 9 0 (by decide +kernel) rfl rfl .nil) (fun e_ => .inl ⟨rfl, V1.t (V1.move' z_D) ⟨rfl, rfl⟩⟩) ?_
      refine Det.cons 11 (ins := [(4, _), (49, _)]) (.old z_D (by decide +kernel) (.new 10 0 (by decide +kernel) rfl rfl .nil)) (fun e_ => .inl ⟨rfl, V1.t (V1.move' z_D) ⟨rfl, rfl⟩⟩) ?_
      refine Det.cons 12 (ins := [(49, _), (50, _)]) (.new 10 1 (by decide +kernel) rfl rfl (.new 11 0 (by decide +kernel) rfl rfl .nil)) (fun e_ => .inl ⟨rfl, V1.t (V1.neI (r := true) rfl rfl (by decide)) ⟨rfl, rfl⟩⟩) ?_
      refine Det.cons 13 (ins := [(49, _), (51, _)]) (.new 10 2 (by decide +kernel) rfl rfl (.new 12 0 (by decide +kernel) rfl rfl .nil)) (fun e_ => .inl ⟨rfl, V1.t (V1.pick rfl z_D) ⟨rfl, rfl⟩⟩) ?_
      refine Det.cons 14 (ins := [(52, _)]) (.new 13 0 (by decide +kernel) rfl rfl .nil) (fun e_ => .inl ⟨rfl, V1.t (V1.move' z_D) ⟨rfl, rfl⟩⟩) ?_
      refine Det.cons 15 (ins := [(1, _), (53, _)]) (.old z_D (by decide +kernel) (.new 14 0 (by decide +kernel) rfl rfl .nil)) (fun e_ => .inl ⟨rfl, V1.t (V1.load1 (v := .pointer (some ⟨br, 0, none⟩)) one_113 rfl (.own z_C (by rfl))) ⟨rfl, rfl⟩⟩) ?_
      refine Det.cons 16 (ins := [(53, _), (54, _)]) (.new 14 1 (by decide +kernel) rfl rfl (.new 15 0 (by decide +kernel) rfl rfl .nil)) (fun e_ => .inl ⟨rfl, V1.t (V1.nilCheck rfl) ⟨rfl, rfl⟩⟩) ?_
      refine Det.cons 17 (ins := [(53, _), (55, _)]) (.new 14 2 (by decide +kernel) rfl rfl (.new 16 0 (by decide +kernel) rfl rfl .nil)) (fun e_ => .inl ⟨rfl, V1.t (V1.fieldAddr fl_115_0 rfl) ⟨rfl, rfl⟩⟩) ?_
      refine Det.cons 18 (ins := [(53, _), (56, _)]) (.new 14 3 (by decide +kernel) rfl rfl (.new 17 0 (by decide +kernel) rfl rfl .nil)) (fun e_ => .inl ⟨rfl, V1.t (V1.load1 (v := .string (bstr (txt (.mk K nm ts) ++ more))) one_9 rfl (.own z_C (by rfl))) ⟨rfl, rfl⟩⟩) ?_
      refine Det.cons 19 (ins := [(4, _), (53, _)]) (.old z_D (by decide +kernel) (.new 14 4 (by decide +kernel) rfl rfl .nil)) (fun e_ => .inl ⟨rfl, V1.t (V1.move' z_D) ⟨rfl, rfl⟩⟩) ?_
      refine Det.cons 20 (ins := [(4, _), (53, _)]) (.old z_D (by decide +kernel) (.new 14 5 (by decide +kernel) rfl rfl .nil)) (fun e_ => .inl ⟨rfl, V1.t (V1.move' z_D) ⟨rfl, rfl⟩⟩) ?_
      refine Det.cons 21 (ins := [(53, _), (59, _)]) (.new 14 6 (by decide +kernel) rfl rfl (.new 20 0 (by decide +kernel) rfl rfl .nil)) (fun e_ => .inl ⟨rfl, V1.t (V1.add (c := ((8 : Nat) : Int)) rfl rfl (by decide)) ⟨rfl, rfl⟩⟩) ?_
      refine Det.cons 22 (ins := [(53, _), (58, _), (60, _)]) (.new 14 7 (by decide +kernel) rfl rfl (.new 19 2 (by decide +kernel) rfl rfl (.new 21 0 (by decide +kernel) rfl rfl .nil))) (fun e_ => .inl ⟨rfl, V1.t (V1.sliceSr (s := sSigns) (l := ((7 : Nat) : Int)) (h := ((8 : Nat) : Int)) ty_9 rfl rfl rfl (by decide) (by decide) (by decide) ((sg_at 7 (by decide)).resolve_right (by decide))) ⟨rfl, rfl⟩⟩) ?_
      refine Det.cons 23 (ins := [(53, _), (57, _), (61, _)]) (v := .bool false) (.new 14 8 (by decide +kernel) rfl rfl (.new 18 4 (by decide +kernel) rfl rfl (.new 22 0 (by decide +kernel) rfl rfl .nil))) (fun e_ => .inl ⟨rfl, ?_⟩) ?_
      · refine T1.callV has_94 rfl rfl (HasPre_any w0 (txt (.mk K nm ts) ++ more) [sgN 7]) z_E (fun v_ hv => ?_)
        obtain rfl := hv
        rw [pre1_f hhd (by decide) hkk]
        exact ⟨rfl, rfl⟩
      refine Det.cons 24 (ins := [(53, _), (62, _)]) (.new 14 9 (by decide +kernel) rfl rfl (.new 23 0 (by decide +kernel) rfl rfl .nil)) (fun e_ => .inl ⟨rfl, V1.t (V1.pick rfl z_D) ⟨rfl, rfl⟩⟩) ?_
      refine Det.cons 25 (ins := [(63, _)]) (.new 24 0 (by decide +kernel) rfl rfl .nil) (fun e_ => .inl ⟨rfl, V1.t (V1.move' z_D) ⟨rfl, rfl⟩⟩) ?_
      refine Det.cons 26 (ins := [(1, _), (64, _)]) (.old z_D (by decide +kernel) (.new 25 0 (by decide +kernel) rfl rfl .nil)) (fun e_ => .inl ⟨rfl, V1.t (V1.load1 (v := .pointer (some ⟨br, 0, none⟩)) one_113 rfl (.own z_C (by rfl))) ⟨rfl, rfl⟩⟩) ?_
      refine Det.cons 27 (ins := [(64, _), (65, _)]) (.new 25 1 (by decide +kernel) rfl rfl (.new 26 0 (by decide +kernel) rfl rfl .nil)) (fun e_ => .inl ⟨rfl, V1.t (V1.nilCheck rfl) ⟨rfl, rfl⟩⟩) ?_
      refine Det.cons 28 (ins := [(64, _), (66, _)]) (.new 25 2 (by decide +kernel) rfl rfl (.new 27 0 (by decide +kernel) rfl rfl .nil)) (fun e_ => .inl ⟨rfl, V1.t (V1.fieldAddr fl_115_0 rfl) ⟨rfl, rfl⟩⟩) ?_
      refine Det.cons 29 (ins := [(64, _), (67, _)]) (.new 25 3 (by decide +kernel) rfl rfl (.new 28 0 (by decide +kernel) rfl rfl .nil)) (fun e_ => .inl ⟨rfl, V1.t (V1.load1 (v := .string (bstr (txt (.mk K nm ts) ++ more))) one_9 rfl (.own z_C (by rfl))) ⟨rfl, rfl⟩⟩) ?_
      refine Det.cons 30 (ins := [(4, _), (64, _)]) (.old z_D (by decide +kernel) (.new 25 4 (by decide +kernel) rfl rfl .nil)) (fun e_ => .inl ⟨rfl, V1.t (V1.move' z_D) ⟨rfl, rfl⟩⟩) ?_
      refine Det.cons 31 (ins := [(4, _), (64, _)]) (.old z_D (by decide +kernel) (.new 25 5 (by decide +kernel) rfl rfl .nil)) (fun e_ => .inl ⟨rfl, V1.t (V1.move' z_D) ⟨rfl, rfl⟩⟩) ?_
      refine Det.cons 32 (ins := [(64, _), (70, _)]) (.new 25 6 (by decide +kernel) rfl rfl (.new 31 0 (by decide +kernel) rfl rfl .nil)) (fun e_ => .inl ⟨rfl, V1.t (V1.add (c := ((8 : Nat) : Int)) rfl rfl (by decide)) ⟨rfl, rfl⟩⟩) ?_
      refine Det.cons 33 (ins := [(64, _), (69, _), (71, _)]) (.new 25 7 (by decide +kernel) rfl rfl (.new 30 2 (by decide +kernel) rfl rfl (.new 32 0 (by decide +kernel) rfl rfl .nil))) (fun e_ => .inl ⟨rfl, V1.t (V1.sliceSr (s := sSigns) (l := ((7 : Nat) : Int)) (h := ((8 : Nat) : Int)) ty_9 rfl rfl rfl (by decide) (by decide) (by decide) ((sg_at 7 (by decide)).resolve_right (by decide))) ⟨rfl, rfl⟩⟩) ?_
      refine Det.cons 34 (ins := [(64, _), (72, _)]) (.new 25 8 (by decide +kernel) rfl rfl (.new 33 0 (by decide +kernel) rfl rfl .nil)) (fun e_ => .inl ⟨rfl, V1.t (V1.addSr (a := [sgN 7]) (b := [40]) rfl rfl (by decide) rfl) ⟨rfl, rfl⟩⟩) ?_
      refine Det.cons 35 (ins := [(64, _), (68, _), (73, _)]) (v := .bool false) (.new 25 9 (by decide +kernel) rfl rfl (.new 29 5 (by decide +kernel) rfl rfl (.new 34 0 (by decide +kernel) rfl rfl .nil))) (fun e_ => .inl ⟨rfl, ?_⟩) ?_
      · refine T1.callV has_94 rfl rfl (HasPre_any w0 (txt (.mk K nm ts) ++ more) [sgN 7, 40]) z_E (fun v_ hv => ?_)
        obtain rfl := hv
        rw [pre2_f hhd hmore (by decide) (by decide) hkk]
        exact ⟨rfl, rfl⟩
      refine Det.cons 36 (ins := [(64, _), (74, _)]) (.new 25 10 (by decide +kernel) rfl rfl (.new 35 0 (by decide +kernel) rfl rfl .nil)) (fun e_ => .inl ⟨rfl, V1.t (V1.pick rfl z_D) ⟨rfl, rfl⟩⟩) ?_
      refine Det.nil 37 (l := [(1, _), (2, _), (3, _), (4, _), (75, _)]) (.old z_D (by decide +kernel) (.old z_D (by decide +kernel) (.old z_D (by decide +kernel) (.old z_D (by decide +kernel) (.new 36 0 (by decide +kernel) rfl rfl .nil))))) (fun e_ => ?_)
      refine T.cond_f rfl ?_
      refine T.skip ?_
      refine T.region ?_
      refine TL.cons rfl (V1.t (V1.move' z_D) ?_)
      refine TL.cons rfl (V1.t (V1.add (c := ((8 : Nat) : Int)) rfl rfl (by decide)) ?_)
      refine TL.cons rfl (V1.t (V1.assign' z_D) ?_)
      refine TL.nil ?_
      exact ⟨8, (⟨b2, 0, [.int .i64 0, .string ⟨#[]⟩, .slice none 0 0], 3⟩ : Blk) :: (⟨b1, 0, [.pointer (some ⟨br, 0, none⟩)], 1⟩ : Blk) :: (⟨br, 0, [.string (bstr (txt (.mk K nm ts) ++ more)), .int .i64 (dp + 1 : Nat), .int .i64 (sz + 1 : Nat)], 3⟩ : Blk) :: G, _, (by simp only; omega), (.cons rfl (.cons (congrArg (Value.int .i64) (kv_miss (k := 7) hkk).symm) .nil)), (.cons rfl (.cons rfl .nil)), z_A, ⟨rfl, by decide, by decide⟩⟩
    ·
      refine T.drawDet' mixed (by decide +kernel) ?_
      refine Det.cons 0 (ins := [(4, _)]) (.old z_D (by decide +kernel) .nil) (fun e_ => .inl ⟨rfl, V1.t (V1.move' z_D) ⟨rfl, rfl⟩⟩) ?_
      refine Det.cons 1 (ins := [(39, _)]) (.new 0 0 (by decide +kernel) rfl rfl .nil) (fun e_ => .inl ⟨rfl, V1.t (V1.neI (r := true) rfl rfl (by decide)) ⟨rfl, rfl⟩⟩) ?_
      refine Det.cons 2 (ins := [(40, _)]) (.new 1 0 (by decide +kernel) rfl rfl .nil) (fun e_ => .inl ⟨rfl, V1.t (V1.move' z_D) ⟨rfl, rfl⟩⟩) ?_
      refine Det.cons 3 (ins := [(4, _), (41, _)]) (.old z_D (by decide +kernel) (.new 2 0 (by decide +kernel) rfl rfl .nil)) (fun e_ => .inl ⟨rfl, V1.t (V1.move' z_D) ⟨rfl, rfl⟩⟩) ?_
      refine Det.cons 4 (ins := [(41, _), (42, _)]) (.new 2 1 (by decide +kernel) rfl rfl (.new 3 0 (by decide +kernel) rfl rfl .nil)) (fun e_ => .inl ⟨rfl, V1.t (V1.neI (r := true) rfl rfl (by decide)) ⟨rfl, rfl⟩⟩) ?_
      refine Det.cons 5 (ins := [(41, _), (43, _)]) (.new 2 2 (by decide +kernel) rfl rfl (.new 4 0 (by decide +kernel) rfl rfl .nil)) (fun e_ => .inl ⟨rfl, V1.t (V1.pick rfl z_D) ⟨rfl, rfl⟩⟩) ?_
      refine Det.cons 6 (ins := [(44, _)]) (.new 5 0 (by decide +kernel) rfl rfl .nil) (fun e_ => .inl ⟨rfl, V1.t (V1.move' z_D) ⟨rfl, rfl⟩⟩) ?_
      refine Det.cons 7 (ins := [(4, _), (45, _)]) (.old z_D (by decide +kernel) (.new 6 0 (by decide +kernel) rfl rfl .nil)) (fun e_ => .inl ⟨rfl, V1.t (V1.move' z_D) ⟨rfl, rfl⟩⟩) ?_
      refine Det.cons 8 (ins := [(45, _), (46, _)]) (.new 6 1 (by decide +kernel) rfl rfl (.new 7 0 (by decide +kernel) rfl rfl .nil)) (fun e_ => .inl ⟨rfl, V1.t (V1.neI (r := true) rfl rfl (by decide)) ⟨rfl, rfl⟩⟩) ?_
      refine Det.cons 9 (ins := [(45, _), (47, _)]) (.new 6 2 (by decide +kernel) rfl rfl (.new 8 0 (by decide +kernel) rfl rfl .nil)) (fun e_ => .inl ⟨rfl, V1.t (V1.pick rfl z_D) ⟨rfl, rfl⟩⟩) ?_
      refine Det.cons 10 (ins := [(48, _)]) (.new 9 0 (by decide +kernel) rfl rfl .nil) (fun e_ => .inl ⟨rfl, V1.t (V1.move' z_D) ⟨rfl, rfl⟩⟩) ?_
      refine Det.cons 11 (ins := [(4, _), (49, _)]) (.old z_D (by decide +kernel) (.new 10 0 (by decide +kernel) rfl rfl .nil)) (fun e_ => .inl ⟨rfl, V1.t (V1.move' z_D) ⟨rfl, rfl⟩⟩) ?_
      refine Det.cons 12 (ins := [(49, _), (50, _)]) (.new 10 1 (by decide +kernel) rfl rfl (.new 11 0 (by decide +kernel) rfl rfl .nil)) (fun e_ => .inl ⟨rfl, V1.t (V1.neI (r := false) rfl rfl (by decide)) ⟨rfl, rfl⟩⟩) ?_
      refine Det.cons 13 (ins := [(49, _), (51, _)]) (.new 10 2 (by decide +kernel) rfl rfl (.new 12 0 (by decide +kernel) rfl rfl .nil)) (fun e_ => .inl ⟨rfl, V1.t (V1.pick rfl z_D) ⟨rfl, rfl⟩⟩) ?_
      refine Det.cons 14 (ins := [(52, _)]) (.new 13 0 (by decide +kernel) rfl rfl .nil) (fun e_ => .inl ⟨rfl, V1.t (V1.move' z_D) ⟨rfl, rfl⟩⟩) ?_
      refine Det.cons 15 (ins := [(53, _)]) (.new 14 0 (by decide +kernel) rfl rfl .nil) (fun e_ => .inr ⟨rfl, rfl⟩) ?_
      refine Det.cons 16 (ins := [(53, _)]) (.new 14 1 (by decide +kernel) rfl rfl .nil) (fun e_ => .inr ⟨rfl, rfl⟩) ?_
      refine Det.cons 17 (ins := [(53, _)]) (.new 14 2 (by decide +kernel) rfl rfl .nil) (fun e_ => .inr ⟨rfl, rfl⟩) ?_
      refine Det.cons 18 (ins := [(53, _)]) (.new 14 3 (by decide +kernel) rfl rfl .nil) (fun e_ => .inr ⟨rfl, rfl⟩) ?_
      refine Det.cons 19 (ins := [(53, _)]) (.new 14 4 (by decide +kernel) rfl rfl .nil) (fun e_ => .inr ⟨rfl, rfl⟩) ?_
      refine Det.cons 20 (ins := [(53, _)]) (.new 14 5 (by decide +kernel) rfl rfl .nil) (fun e_ => .inr ⟨rfl, rfl⟩) ?_
      refine Det.cons 21 (ins := [(53, _)]) (.new 14 6 (by decide +kernel) rfl rfl .nil) (fun e_ => .inr ⟨rfl, rfl⟩) ?_
      refine Det.cons 22 (ins := [(53, _)]) (.new 14 7 (by decide +kernel) rfl rfl .nil) (fun e_ => .inr ⟨rfl, rfl⟩) ?_
      refine Det.cons 23 (ins := [(53, _)]) (.new 14 8 (by decide +kernel) rfl rfl .nil) (fun e_ => .inr ⟨rfl, rfl⟩) ?_
      refine Det.cons 24 (ins := [(53, _), (62, _)]) (.new 14 9 (by decide +kernel) rfl rfl (.new 23 0 (by decide +kernel) rfl rfl .nil)) (fun e_ => .inl ⟨rfl, V1.t (V1.pick rfl z_D) ⟨rfl, rfl⟩⟩) ?_
      refine Det.cons 25 (ins := [(63, _)]) (.new 24 0 (by decide +kernel) rfl rfl .nil) (fun e_ => .inl ⟨rfl, V1.t (V1.move' z_D) ⟨rfl, rfl⟩⟩) ?_
      refine Det.cons 26 (ins := [(1, _), (64, _)]) (.old z_D (by decide +kernel) (.new 25 0 (by decide +kernel) rfl rfl .nil)) (fun e_ => .inl ⟨rfl, V1.t (V1.load1 (v := .pointer (some ⟨br, 0, none⟩)) one_113 rfl (.own z_C (by rfl))) ⟨rfl, rfl⟩⟩) ?_
      refine Det.cons 27 (ins := [(64, _), (65, _)]) (.new 25 1 (by decide +kernel) rfl rfl (.new 26 0 (by decide +kernel) rfl rfl .nil)) (fun e_ => .inl ⟨rfl, V1.t (V1.nilCheck rfl) ⟨rfl, rfl⟩⟩) ?_
      refine Det.cons 28 (ins := [(64, _), (66, _)]) (.new 25 2 (by decide +kernel) rfl rfl (.new 27 0 (by decide +kernel) rfl rfl .nil)) (fun e_ => .inl ⟨rfl, V1.t (V1.fieldAddr fl_115_0 rfl) ⟨rfl, rfl⟩⟩) ?_
      refine Det.cons 29 (ins := [(64, _), (67, _)]) (.new 25 3 (by decide +kernel) rfl rfl (.new 28 0 (by decide +kernel) rfl rfl .nil)) (fun e_ => .inl ⟨rfl, V1.t (V1.load1 (v := .string (bstr (txt (.mk K nm ts) ++ more))) one_9 rfl (.own z_C (by rfl))) ⟨rfl, rfl⟩⟩) ?_
      refine Det.cons 30 (ins := [(4, _), (64, _)]) (.old z_D (by decide +kernel) (.new 25 4 (by decide +kernel) rfl rfl .nil)) (fun e_ => .inl ⟨rfl, V1.t (V1.move' z_D) ⟨rfl, rfl⟩⟩) ?_
      refine Det.cons 31 (ins := [(4, _), (64, _)]) (.old z_D (by decide +kernel) (.new 25 5 (by decide +kernel) rfl rfl .nil)) (fun e_ => .inl ⟨rfl, V1.t (V1.move' z_D) ⟨rfl, rfl⟩⟩) ?_
      refine Det.cons 32 (ins := [(64, _), (70, _)]) (.new 25 6 (by decide +kernel) rfl rfl (.new 31 0 (by decide +kernel) rfl rfl .nil)) (fun e_ => .inl ⟨rfl, V1.t (V1.add (c := ((9 : Nat) : Int)) rfl rfl (by decide)) ⟨rfl, rfl⟩⟩) ?_
      refine Det.cons 33 (ins := [(64, _), (69, _), (71, _)]) (.new 25 7 (by decide +kernel) rfl rfl (.new 30 2 (by decide +kernel) rfl rfl (.new 32 0 (by decide +kernel) rfl rfl .nil))) (fun e_ => .inl ⟨rfl, V1.t (V1.sliceSr (s := sSigns) (l := ((8 : Nat) : Int)) (h := ((9 : Nat) : Int)) ty_9 rfl rfl rfl (by decide) (by decide) (by decide) ((sg_at 8 (by decide)).resolve_right (by decide))) ⟨rfl, rfl⟩⟩) ?_
      refine Det.cons 34 (ins := [(64, _), (72, _)]) (.new 25 8 (by decide +kernel) rfl rfl (.new 33 0 (by decide +kernel) rfl rfl .nil)) (fun e_ => .inl ⟨rfl, V1.t (V1.addSr (a := [sgN 8]) (b := [40]) rfl rfl (by decide) rfl) ⟨rfl, rfl⟩⟩) ?_
      refine Det.cons 35 (ins := [(64, _), (68, _), (73, _)]) (v := .bool true) (.new 25 9 (by decide +kernel) rfl rfl (.new 29 5 (by decide +kernel) rfl rfl (.new 34 0 (by decide +kernel) rfl rfl .nil))) (fun e_ => .inl ⟨rfl, ?_⟩) ?_
      · refine T1.callV has_94 rfl rfl (HasPre_any w0 (txt (.mk K nm ts) ++ more) [sgN 8, 40]) z_E (fun v_ hv => ?_)
        obtain rfl := hv
        rw [pre2_t hhd hmore (by decide) (by decide) hkk]
        exact ⟨rfl, rfl⟩
      refine Det.cons 36 (ins := [(64, _), (74, _)]) (.new 25 10 (by decide +kernel) rfl rfl (.new 35 0 (by decide +kernel) rfl rfl .nil)) (fun e_ => .inl ⟨rfl, V1.t (V1.pick rfl z_D) ⟨rfl, rfl⟩⟩) ?_
      refine Det.nil 37 (l := [(1, _), (2, _), (3, _), (4, _), (75, _)]) (.old z_D (by decide +kernel) (.old z_D (by decide +kernel) (.old z_D (by decide +kernel) (.old z_D (by decide +kernel) (.new 36 0 (by decide +kernel) rfl rfl .nil))))) (fun e_ => ?_)
      refine T.cond_t rfl ?_
      refine T.region ?_
      refine TL.cons rfl (V1.t (V1.move' z_D) ?_)
      refine TL.cons rfl (V1.t (V1.assign' z_D) ?_)
      refine TL.nil ?_
      refine T.region ?_
      refine TL.cons rfl (V1.t (V1.move' z_D) ?_)
      refine TL.cons rfl (V1.t (V1.add (c := ((9 : Nat) : Int)) rfl rfl (by decide)) ?_)
      refine TL.cons rfl (V1.t (V1.assign' z_D) ?_)
      refine TL.nil ?_
      exact ⟨9, (⟨b2, 0, [.int .i64 0, .string ⟨#[]⟩, .slice none 0 0], 3⟩ : Blk) :: (⟨b1, 0, [.pointer (some ⟨br, 0, none⟩)], 1⟩ : Blk) :: (⟨br, 0, [.string (bstr (txt (.mk K nm ts) ++ more)), .int .i64 (dp + 1 : Nat), .int .i64 (sz + 1 : Nat)], 3⟩ : Blk) :: G, _, (by simp only; omega), (.cons rfl (.cons (congrArg (Value.int .i64) (kv_hit (k := 8) hkk (by decide)).symm) .nil)), (.cons rfl (.cons rfl .nil)), z_A, ⟨rfl, by decide, by decide⟩⟩
    ·
      refine T.drawDet' mixed (by decide +kernel) ?_
      refine Det.cons 0 (ins := [(4, _)]) (.old z_D (by decide +kernel) .nil) (fun e_ => .inl ⟨rfl, V1.t (V1.move' z_D) ⟨rfl, rfl⟩⟩) ?_
      refine Det.cons 1 (ins := [(39, _)]) (.new 0 0 (by decide +kernel) rfl rfl .nil) (fun e_ => .inl ⟨rfl, V1.t (V1.neI (r := true) rfl rfl (by decide)) ⟨rfl, rfl⟩⟩) ?_
      refine Det.cons 2 (ins := [(40, _)]) (.new 1 0 (by decide +kernel) rfl rfl .nil) (fun e_ => .inl ⟨rfl, V1.t (V1.move' z_D) ⟨rfl, rfl⟩⟩) ?_
      refine Det.cons 3 (ins := [(4, _), (41, _)]) (.old z_D (by decide +kernel) (.new 2 0 (by decide +kernel) rfl rfl .nil)) (fun e_ => .inl ⟨rfl, V1.t (V1.move' z_D) ⟨rfl, rfl⟩⟩) ?_
      refine Det.cons 4 (ins := [(41, _), (42, _)]) (.new 2 1 (by decide +kernel) rfl rfl (.new 3 0 (by decide +kernel) rfl rfl .nil)) (fun e_ => .inl ⟨rfl, V1.t (V1.neI (r := true) rfl rfl (by decide)) ⟨rfl, rfl⟩⟩) ?_
      refine Det.cons 5 (ins := [(41, _), (43, _)]) (.new 2 2 (by decide +kernel) rfl rfl (.new 4 0 (by decide +kernel) rfl rfl .nil)) (fun e_ => .inl ⟨rfl, V1.t (V1.pick rfl z_D) ⟨rfl, rfl⟩⟩) ?_
      refine Det.cons 6 (ins := [(44, _)]) (.new 5 0 (by decide +kernel) rfl rfl .nil) (fun e_ => .inl ⟨rfl, V1.t (V1.move' z_D) ⟨rfl, rfl⟩⟩) ?_
      refine Det.cons 7 (ins := [(4, _), (45, _)]) (.old z_D (by decide +kernel) (.new 6 0 (by decide +kernel) rfl rfl .nil)) (fun e_ => .inl ⟨rfl, V1.t (V1.move' z_D) ⟨rfl, rfl⟩⟩) ?_
      refine Det.cons 8 (ins := [(45, _), (46, _)]) (.new 6 1 (by decide +kernel) rfl rfl (.new 7 0 (by decide +kernel) rfl rfl .nil)) (fun e_ => .inl ⟨rfl, V1.t (V1.neI (r := true) rfl rfl (by decide)) ⟨rfl, rfl⟩⟩) ?_
      refine Det.cons 9 (ins := [(45, _), (47, _)]) (.new 6 2 (by decide +kernel) rfl rfl (.new 8 0 (by decide +kernel) rfl rfl .nil)) (fun e_ => .inl ⟨rfl, V1.t (V1.pick rfl z_D) ⟨rfl, rfl⟩⟩) ?_
      refine Det.cons 10 (ins := [(48, _)]) (.new 9 0 (by decide +kernel) rfl rfl .nil) (fun e_ => .inl ⟨rfl, V1.t (V1.move' z_D) ⟨rfl, rfl⟩⟩) ?_
      refine Det.cons 11 (ins := [(4, _), (49, _)]) (.old z_D (by decide +kernel) (.new 10 0 (by decide +kernel) rfl rfl .nil)) (fun e_ => .inl ⟨rfl, V1.t (V1.move' z_D) ⟨rfl, rfl⟩⟩) ?_
      refine Det.cons 12 (ins := [(49, _), (50, _)]) (.new 10 1 (by decide +kernel) rfl rfl (.new 11 0 (by decide +kernel) rfl rfl .nil)) (fun e_ => .inl ⟨rfl, V1.t (V1.neI (r := false) rfl rfl (by decide)) ⟨rfl, rfl⟩⟩) ?_
      refine Det.cons 13 (ins := [(49, _), (51, _)]) (.new 10 2 (by decide +kernel) rfl rfl (.new 12 0 (by decide +kernel) rfl rfl .nil)) (fun e_ => .inl ⟨rfl, V1.t (V1.pick rfl z_D) ⟨rfl, rfl⟩⟩) ?_
      refine Det.cons 14 (ins := [(52, _)]) (.new 13 0 (by decide +kernel) rfl rfl .nil) (fun e_ => .inl ⟨rfl, V1.t (V1.move' z_D) ⟨rfl, rfl⟩⟩) ?_
      refine Det.cons 15 (ins := [(53, _)]) (.new 14 0 (by decide +kernel) rfl rfl .nil) (fun e_ => .inr ⟨rfl, rfl⟩) ?_
      refine Det.cons 16 (ins := [(53, _)]) (.new 14 1 (by decide +kernel) rfl rfl .nil) (fun e_ => .inr ⟨rfl, rfl⟩) ?_
      refine Det.cons 17 (ins := [(53, _)]) (.new 14 2 (by decide +kernel) rfl rfl .nil) (fun e_ => .inr ⟨rfl, rfl⟩) ?_
      refine Det.cons 18 (ins := [(53, _)]) (.new 14 3 (by decide +kernel) rfl rfl .nil) (fun e_ => .inr ⟨rfl, rfl⟩) ?_
      refine Det.cons 19 (ins := [(53, _)]) (.new 14 4 (by decide +kernel) rfl rfl .nil) (fun e_ => .inr ⟨rfl, rfl⟩) ?_
      refine Det.cons 20 (ins := [(53, _)]) (.new 14 5 (by decide +kernel) rfl rfl .nil) (fun e_ => .inr ⟨rfl, rfl⟩) ?_
      refine Det.cons 21 (ins := [(53, _)]) (.new 14 6 (by decide +kernel) rfl rfl .nil) (fun e_ => .inr ⟨rfl, rfl⟩) ?_
      refine Det.cons 22 (ins := [(53, _)]) (.new 14 7 (by decide +kernel) rfl rfl .nil) (fun e_ => .inr ⟨rfl, rfl⟩) ?_
      refine Det.cons 23 (ins := [(53, _)]) (.new 14 8 (by decide +kernel) rfl rfl .nil) (fun e_ => .inr ⟨rfl, rfl⟩) ?_
      refine Det.cons 24 (ins := [(53, _), (62, _)]) (.new 14 9 (by decide +kernel) rfl rfl (.new 23 0 (by decide +kernel) rfl rfl .nil)) (fun e_ => .inl ⟨rfl, V1.t (V1.pick rfl z_D) ⟨rfl, rfl⟩⟩) ?_
      refine Det.cons 25 (ins := [(63, _)]) (.new 24 0 (by decide +kernel) rfl rfl .nil) (fun e_ => .inl ⟨rfl, V1.t (V1.move' z_D) ⟨rfl, rfl⟩⟩) ?_
      refine Det.cons 26 (ins := [(1, _), (64, _)]) (.old z_D (by decide +kernel) (.new 25 0 (by decide +kernel) rfl rfl .nil)) (fun e_ => .inl ⟨rfl, V1.t (V1.load1 (v := .pointer (some ⟨br, 0, none⟩)) one_113 rfl (.own z_C (by rfl))) ⟨rfl, rfl⟩⟩) ?_
      refine Det.cons 27 (ins := [(64, _), (65, _)]) (.new 25 1 (by decide +kernel) rfl rfl (.new 26 0 (by decide +kernel) rfl rfl .nil)) (fun e_ => .inl ⟨rfl, V1.t (V1.nilCheck rfl) ⟨rfl, rfl⟩⟩) ?_
      refine Det.cons 28 (ins := [(64, _), (66, _)]) (.new 25 2 (by decide +kernel) rfl rfl (.new 27 0 (by decide +kernel) rfl rfl .nil)) (fun e_ => .inl ⟨rfl, V1.t (V1.fieldAddr fl_115_0 rfl) ⟨rfl, rfl⟩⟩) ?_
      refine Det.cons 29 (ins := [(64, _), (67, _)]) (.new 25 3 (by decide +kernel) rfl rfl (.new 28 0 (by decide +kernel) rfl rfl .nil)) (fun e_ => .inl ⟨rfl, V1.t (V1.load1 (v := .string (bstr (txt (.mk K nm ts) ++ more))) one_9 rfl (.own z_C (by rfl))) ⟨rfl, rfl⟩⟩) ?_
      refine Det.cons 30 (ins := [(4, _), (64, _)]) (.old z_D (by decide +kernel) (.new 25 4 (by decide +kernel) rfl rfl .nil)) (fun e_ => .inl ⟨rfl, V1.t (V1.move' z_D) ⟨rfl, rfl⟩⟩) ?_
      refine Det.cons 31 (ins := [(4, _), (64, _)]) (.old z_D (by decide +kernel) (.new 25 5 (by decide +kernel) rfl rfl .nil)) (fun e_ => .inl ⟨rfl, V1.t (V1.move' z_D) ⟨rfl, rfl⟩⟩) ?_
      refine Det.cons 32 (ins := [(64, _), (70, _)]) (.new 25 6 (by decide +kernel) rfl rfl (.new 31 0 (by decide +kernel) rfl rfl .nil)) (fun e_ => .inl ⟨rfl, V1.t (V1.add (c := ((9 : Nat) : Int)) rfl rfl (by decide)) ⟨rfl, rfl⟩⟩) ?_
      refine Det.cons 33 (ins := [(64, _), (69, _), (71, _)]) (.new 25 7 (by decide +kernel) rfl rfl (.new 30 2 (by decide +kernel) rfl rfl (.new 32 0 (by decide +kernel) rfl rfl .nil))) (fun e_ => .inl ⟨rfl, V1.t (V1.sliceSr (s := sSigns) (l := ((8 : Nat) : Int)) (h := ((9 : Nat) : Int)) ty_9 rfl rfl rfl (by decide) (by decide) (by decide) ((sg_at 8 (by decide)).resolve_right (by decide))) ⟨rfl, rfl⟩⟩) ?_
      refine Det.cons 34 (ins := [(64, _), (72, _)]) (.new 25 8 (by decide +kernel) rfl rfl (.new 33 0 (by decide +kernel) rfl rfl .nil)) (fun e_ => .inl ⟨rfl, V1.t (V1.addSr (a := [sgN 8]) (b := [40]) rfl rfl (by decide) rfl) ⟨rfl, rfl⟩⟩) ?_
      refine Det.cons 35 (ins := [(64, _), (68, _), (73, _)]) (v := .bool false) (.new 25 9 (by decide +kernel) rfl rfl (.new 29 5 (by decide +kernel) rfl rfl (.new 34 0 (by decide +kernel) rfl rfl .nil))) (fun e_ => .inl ⟨rfl, ?_⟩) ?_
      · refine T1.callV has_94 rfl rfl (HasPre_any w0 (txt (.mk K nm ts) ++ more) [sgN 8, 40]) z_E (fun v_ hv => ?_)
        obtain rfl := hv
        rw [pre2_f hhd hmore (by decide) (by decide) hkk]
        exact ⟨rfl, rfl⟩
      refine Det.cons 36 (ins := [(64, _), (74, _)]) (.new 25 10 (by decide +kernel) rfl rfl (.new 35 0 (by decide +kernel) rfl rfl .nil)) (fun e_ => .inl ⟨rfl, V1.t (V1.pick rfl z_D) ⟨rfl, rfl⟩⟩) ?_
      refine Det.nil 37 (l := [(1, _), (2, _), (3, _), (4, _), (75, _)]) (.old z_D (by decide +kernel) (.old z_D (by decide +kernel) (.old z_D (by decide +kernel) (.old z_D (by decide +kernel) (.new 36 0 (by decide +kernel) rfl rfl .nil))))) (fun e_ => ?_)
      refine T.cond_f rfl ?_
      refine T.skip ?_
      refine T.region ?_
      refine TL.cons rfl (V1.t (V1.move' z_D) ?_)
      refine TL.cons rfl (V1.t (V1.add (c := ((9 : Nat) : Int)) rfl rfl (by decide)) ?_)
      refine TL.cons rfl (V1.t (V1.assign' z_D) ?_)
      refine TL.nil ?_
      exact ⟨9, (⟨b2, 0, [.int .i64 0, .string ⟨#[]⟩, .slice none 0 0], 3⟩ : Blk) :: (⟨b1, 0, [.pointer (some ⟨br, 0, none⟩)], 1⟩ : Blk) :: (⟨br, 0, [.string (bstr (txt (.mk K nm ts) ++ more)), .int .i64 (dp + 1 : Nat), .int .i64 (sz + 1 : Nat)], 3⟩ : Blk) :: G, _, (by simp only; omega), (.cons rfl (.cons (congrArg (Value.int .i64) (kv_miss (k := 8) hkk).symm) .nil)), (.cons rfl (.cons rfl .nil)), z_A, ⟨rfl, by decide, by decide⟩⟩
  ·
    obtain rfl : x = 9 := by omega
    rw [kv_9 hhd]
    refine TL.nil ?_
    refine T.cond_f rfl ?_
    refine T.exit ?_
    refine T.seq ?_
    refine T.region ?_
    refine TL.cons rfl (V1.t (V1.move' z_D) ?_)
    refine TL.cons rfl (V1.t (V1.buildF pl_24 zr_24 (.one rfl z_D rfl .nil) (by repeat (first | exact FillL.nil | exact SetN.done | apply SetN.here | apply SetN.there | apply FillL.cons))) ?_)
    refine TL.cons rfl (T1.allocN 3 zr_24 rfl (fun b5 => ?_))
    refine TL.cons rfl (T1.storeN rfl rfl sz_24 (ones rfl) z_G (by rfl) (by rfl) ?_)
    refine TL.nil ?_
    refine T.cut (σ := Unit) (l0 := [(1, _), (2, _), (5, _)]) (fun x => []) (fun _ L => L = (⟨b5, 0, [.int .i64 K, .string (bstr nm), .slice none 0 0], 3⟩ : Blk) :: (⟨b2, 0, [.int .i64 0, .string ⟨#[]⟩, .slice none 0 0], 3⟩ : Blk) :: (⟨b1, 0, [.pointer (some ⟨br, 0, none⟩)], 1⟩ : Blk) :: (⟨br, 0, [.string (bstr (40 :: (joinC (txtM ts) ++ 41 :: more))), .int .i64 (dp + 1 : Nat), .int .i64 (sz + 1 : Nat)], 3⟩ : Blk) :: G ∧ 0 < ts.length ∧ (txt (.mk K nm ts) ++ more).length ≤ 1000000) (.cons z_D (.cons z_D (.cons z_D .nil))) ?_ ?_
    ·
      refine T.seq ?_
      obtain ⟨rfl, rfl, hn, ht⟩ | ⟨rfl, hts0, hn, ht⟩ | ⟨hK, hts0, rfl, ht⟩ := txt_shape hhd
      ·
        have htx : txt (.mk 1 nm []) ++ more = nm ++ more := by rw [ht]
        rw [htx] at hlen ⊢
        have hnl := named_len hn
        rw [show sz + (Tm.mk 1 nm []).size = sz + 1 from by simp [Tm.size, tsize]]
        refine T.region ?_
        refine TL.cons rfl (V1.t (V1.move' z_D) ?_)
        refine TL.cons rfl (V1.t (V1.eqI (r := true) rfl rfl (by decide)) ?_)
        refine TL.nil ?_
        refine T.cond_t rfl ?_
        refine T.seq ?_
        refine T.region ?_
        refine TL.cons rfl (V1.t (V1.load1 (v := .pointer (some ⟨br, 0, none⟩)) one_113 rfl (.own z_C (by rfl))) ?_)
        refine TL.cons rfl (T1.callM (X := [(⟨br, 0, [.string (bstr (nm ++ more)), .int .i64 (dp + 1 : Nat), .int .i64 (sz + 1 : Nat)], 3⟩ : Blk)]) has_95 rfl rfl (name_any w0 br (dp + 1) (sz + 1) nm more (named_all hn) hmore.drop hlen) z_A z_E (fun v_ Y_ hY => ?_))
        obtain ⟨rfl, rfl⟩ := hY
        simp only [List.cons_append, List.nil_append]
        refine TL.cons rfl (V1.t (V1.fieldAddr fl_24_1 rfl) ?_)
        refine TL.cons rfl (T1.store1 rfl rfl sz_9 rfl z_G (Nat.zero_le _) z_H ?_)
        refine TL.nil ?_
        refine T.seq ?_
        refine T.seq ?_
        refine T.region ?_
        refine TL.cons rfl (V1.t (V1.fieldAddr fl_24_1 rfl) ?_)
        refine TL.cons rfl (V1.t (V1.load1 (v := .string (bstr nm)) one_9 rfl (.own (cells := [.int .i64 1, .string (bstr nm), .slice none 0 0]) z_C (by rfl))) ?_)
        refine TL.cons rfl (V1.t (V1.lenS ty_9 rfl) ?_)
        refine TL.cons rfl (T1.ltI_split rfl rfl (fun h14 => ?_) (fun h14 => ?_))
        ·
          refine TL.cons rfl (V1.t (V1.move' z_D) ?_)
          refine TL.no rfl ?_
          refine TL.no rfl ?_
          refine TL.no rfl ?_
          refine TL.no rfl ?_
          refine TL.cons rfl (V1.t (V1.pick rfl z_D) ?_)
          refine TL.cons rfl (V1.t (V1.move' z_D) ?_)
          refine TL.no rfl ?_
          refine TL.no rfl ?_
          refine TL.no rfl ?_
          refine TL.no rfl ?_
          refine TL.no rfl ?_
          refine TL.no rfl ?_
          refine TL.cons rfl (V1.t (V1.pick rfl z_D) ?_)
          refine TL.nil ?_
          refine T.cond_t rfl ?_
          refine T.seq ?_
          refine T.live (l := [(1, _), (2, _), (5, _)]) (.cons z_D (.cons z_D (.cons z_D .nil))) (fun e_ => ?_)
          refine T.drawDet' mixed (by decide +kernel) ?_
          refine Det.cons 0 (ins := [(1, _)]) (.old z_D (by decide +kernel) .nil) (fun e_ => .inl ⟨rfl, V1.t (V1.load1 (v := .pointer (some ⟨br, 0, none⟩)) one_113 rfl (.own z_C (by rfl))) ⟨rfl, rfl⟩⟩) ?_
          refine Det.cons 1 (ins := [(5, _)]) (.old z_D (by decide +kernel) .nil) (fun e_ => .inl ⟨rfl, V1.t (V1.fieldAddr fl_24_1 rfl) ⟨rfl, rfl⟩⟩) ?_
          refine Det.cons 2 (ins := [(103, _)]) (.new 1 0 (by decide +kernel) rfl rfl .nil) (fun e_ => .inl ⟨rfl, V1.t (V1.load1 (v := .string (bstr nm)) one_9 rfl (.own (cells := [.int .i64 1, .string (bstr nm), .slice none 0 0]) z_C (by rfl))) ⟨rfl, rfl⟩⟩) ?_
          refine Det.cons 3 (ins := [(104, _)]) (v := .bool true) (.new 2 0 (by decide +kernel) rfl rfl .nil) (fun e_ => .inl ⟨rfl, ?_⟩) ?_
          · refine T1.call0 has_71 rfl (fun w hs => named_any nm w) (fun v_ hv => ?_)
            obtain rfl := hv
            rw [hn]
            exact ⟨rfl, rfl⟩
          refine Det.cons 4 (ins := [(102, _), (105, _)]) (v := .tuple #[]) (.new 0 3 (by decide +kernel) rfl rfl (.new 3 0 (by decide +kernel) rfl rfl .nil)) (fun e_ => .inl ⟨rfl, ?_⟩) ?_
          · refine T1.callV has_64 rfl rfl (need_any w0 _) z_E (fun v_ hv => ?_)
            obtain rfl := hv
            exact ⟨rfl, rfl⟩
          refine Det.nil 5 (l := [(2, _), (5, _)]) (.old z_D (by decide +kernel) (.old z_D (by decide +kernel) .nil)) (fun e_ => ?_)
          refine T.seq ?_
          refine T.region ?_
          refine TL.cons rfl (V1.t (V1.loadN (vs := [.int .i64 1, .string (bstr nm), .slice none 0 0]) one_24 sz_24 rfl (RdN.whole z_C) rfl) ?_)
          refine TL.cons rfl (T1.storeN rfl rfl sz_24 (ones rfl) z_G (by rfl) (by rfl) ?_)
          refine TL.nil ?_
          refine T.ret ?_
          exact ⟨_, DefC.of2 has_93 (term1_any w0 b1 br dp (sz + 1) more (by omega)) z_A z_E, _, (⟨br, 0, [.string (bstr more), .int .i64 (dp : Nat), .int .i64 (sz + 1 : Nat)], 3⟩ : Blk) :: ([] ++ G), _, .cons (.cellN z_D one_24 sz_24 (RdN.whole z_C) (by rfl)) .nil, z_A, [(⟨br, 0, [.string (bstr more), .int .i64 (dp : Nat), .int .i64 (sz + 1 : Nat)], 3⟩ : Blk)], rfl, [.int .i64 1, .string (bstr nm), .slice none 0 0], [], rfl, rfl, TmR.atom⟩
        ·
          rw [bstr_len] at h14
          obtain ⟨a_, l_, hnm_, hla⟩ := named_cons hn
          have hna : nm[0]? = some a_ := by rw [hnm_]; rfl
          refine TL.cons rfl (V1.t (V1.move' z_D) ?_)
          refine TL.cons rfl (V1.t (V1.fieldAddr fl_24_1 rfl) ?_)
          refine TL.cons rfl (V1.t (V1.load1 (v := .string (bstr nm)) one_9 rfl (.own (cells := [.int .i64 1, .string (bstr nm), .slice none 0 0]) z_C (by rfl))) ?_)
          refine TL.cons rfl (V1.t (V1.indexStr (s := bstr nm) (c := a_) ty_9 rfl rfl (by decide) (bstr_get hna)) ?_)
          refine TL.cons rfl (T1.neI_split rfl rfl (fun h148 => ?_) (fun h148 => ?_))
          ·
            refine TL.cons rfl (V1.t (V1.pick rfl z_D) ?_)
            refine TL.cons rfl (V1.t (V1.move' z_D) ?_)
            refine TL.no rfl ?_
            refine TL.no rfl ?_
            refine TL.no rfl ?_
            refine TL.no rfl ?_
            refine TL.no rfl ?_
            refine TL.no rfl ?_
            refine TL.cons rfl (V1.t (V1.pick rfl z_D) ?_)
            refine TL.nil ?_
            refine T.cond_t rfl ?_
            refine T.seq ?_
            refine T.live (l := [(1, _), (2, _), (5, _)]) (.cons z_D (.cons z_D (.cons z_D .nil))) (fun e_ => ?_)
            refine T.drawDet' mixed (by decide +kernel) ?_
            refine Det.cons 0 (ins := [(1, _)]) (.old z_D (by decide +kernel) .nil) (fun e_ => .inl ⟨rfl, V1.t (V1.load1 (v := .pointer (some ⟨br, 0, none⟩)) one_113 rfl (.own z_C (by rfl))) ⟨rfl, rfl⟩⟩) ?_
            refine Det.cons 1 (ins := [(5, _)]) (.old z_D (by decide +kernel) .nil) (fun e_ => .inl ⟨rfl, V1.t (V1.fieldAddr fl_24_1 rfl) ⟨rfl, rfl⟩⟩) ?_
            refine Det.cons 2 (ins := [(103, _)]) (.new 1 0 (by decide +kernel) rfl rfl .nil) (fun e_ => .inl ⟨rfl, V1.t (V1.load1 (v := .string (bstr nm)) one_9 rfl (.own (cells := [.int .i64 1, .string (bstr nm), .slice none 0 0]) z_C (by rfl))) ⟨rfl, rfl⟩⟩) ?_
            refine Det.cons 3 (ins := [(104, _)]) (v := .bool true) (.new 2 0 (by decide +kernel) rfl rfl .nil) (fun e_ => .inl ⟨rfl, ?_⟩) ?_
            · refine T1.call0 has_71 rfl (fun w hs => named_any nm w) (fun v_ hv => ?_)
              obtain rfl := hv
              rw [hn]
              exact ⟨rfl, rfl⟩
            refine Det.cons 4 (ins := [(102, _), (105, _)]) (v := .tuple #[]) (.new 0 3 (by decide +kernel) rfl rfl (.new 3 0 (by decide +kernel) rfl rfl .nil)) (fun e_ => .inl ⟨rfl, ?_⟩) ?_
            · refine T1.callV has_64 rfl rfl (need_any w0 _) z_E (fun v_ hv => ?_)
              obtain rfl := hv
              exact ⟨rfl, rfl⟩
            refine Det.nil 5 (l := [(2, _), (5, _)]) (.old z_D (by decide +kernel) (.old z_D (by decide +kernel) .nil)) (fun e_ => ?_)
            refine T.seq ?_
            refine T.region ?_
            refine TL.cons rfl (V1.t (V1.loadN (vs := [.int .i64 1, .string (bstr nm), .slice none 0 0]) one_24 sz_24 rfl (RdN.whole z_C) rfl) ?_)
            refine TL.cons rfl (T1.storeN rfl rfl sz_24 (ones rfl) z_G (by rfl) (by rfl) ?_)
            refine TL.nil ?_
            refine T.ret ?_
            exact ⟨_, DefC.of2 has_93 (term1_any w0 b1 br dp (sz + 1) more (by omega)) z_A z_E, _, (⟨br, 0, [.string (bstr more), .int .i64 (dp : Nat), .int .i64 (sz + 1 : Nat)], 3⟩ : Blk) :: ([] ++ G), _, .cons (.cellN z_D one_24 sz_24 (RdN.whole z_C) (by rfl)) .nil, z_A, [(⟨br, 0, [.string (bstr more), .int .i64 (dp : Nat), .int .i64 (sz + 1 : Nat)], 3⟩ : Blk)], rfl, [.int .i64 1, .string (bstr nm), .slice none 0 0], [], rfl, rfl, TmR.atom⟩
          ·
            refine TL.cons rfl (V1.t (V1.pick rfl z_D) ?_)
            refine TL.cons rfl (V1.t (V1.move' z_D) ?_)
            refine TL.cons rfl (V1.t (V1.load1 (v := .pointer (some ⟨br, 0, none⟩)) one_113 rfl (.own z_C (by rfl))) ?_)
            refine TL.cons rfl (V1.t (V1.nilCheck rfl) ?_)
            refine TL.cons rfl (V1.t (V1.fieldAddr fl_115_0 rfl) ?_)
            refine TL.cons rfl (V1.t (V1.load1 (v := .string (bstr more)) one_9 rfl (.own z_C (by rfl))) ?_)
            refine TL.cons rfl (T1.callV has_94 rfl rfl (HasPre_any w0 more [40]) z_E (fun v_ hv => ?_))
            obtain rfl := hv
            rw [hmore.pre]
            refine TL.cons rfl (V1.t (V1.not rfl rfl) ?_)
            refine TL.cons rfl (V1.t (V1.pick rfl z_D) ?_)
            refine TL.nil ?_
            refine T.cond_t rfl ?_
            refine T.seq ?_
            refine T.live (l := [(1, _), (2, _), (5, _)]) (.cons z_D (.cons z_D (.cons z_D .nil))) (fun e_ => ?_)
            refine T.drawDet' mixed (by decide +kernel) ?_
            refine Det.cons 0 (ins := [(1, _)]) (.old z_D (by decide +kernel) .nil) (fun e_ => .inl ⟨rfl, V1.t (V1.load1 (v := .pointer (some ⟨br, 0, none⟩)) one_113 rfl (.own z_C (by rfl))) ⟨rfl, rfl⟩⟩) ?_
            refine Det.cons 1 (ins := [(5, _)]) (.old z_D (by decide +kernel) .nil) (fun e_ => .inl ⟨rfl, V1.t (V1.fieldAddr fl_24_1 rfl) ⟨rfl, rfl⟩⟩) ?_
            refine Det.cons 2 (ins := [(103, _)]) (.new 1 0 (by decide +kernel) rfl rfl .nil) (fun e_ => .inl ⟨rfl, V1.t (V1.load1 (v := .string (bstr nm)) one_9 rfl (.own (cells := [.int .i64 1, .string (bstr nm), .slice none 0 0]) z_C (by rfl))) ⟨rfl, rfl⟩⟩) ?_
            refine Det.cons 3 (ins := [(104, _)]) (v := .bool true) (.new 2 0 (by decide +kernel) rfl rfl .nil) (fun e_ => .inl ⟨rfl, ?_⟩) ?_
            · refine T1.call0 has_71 rfl (fun w hs => named_any nm w) (fun v_ hv => ?_)
              obtain rfl := hv
              rw [hn]
              exact ⟨rfl, rfl⟩
            refine Det.cons 4 (ins := [(102, _), (105, _)]) (v := .tuple #[]) (.new 0 3 (by decide +kernel) rfl rfl (.new 3 0 (by decide +kernel) rfl rfl .nil)) (fun e_ => .inl ⟨rfl, ?_⟩) ?_
            · refine T1.callV has_64 rfl rfl (need_any w0 _) z_E (fun v_ hv => ?_)
              obtain rfl := hv
              exact ⟨rfl, rfl⟩
            refine Det.nil 5 (l := [(2, _), (5, _)]) (.old z_D (by decide +kernel) (.old z_D (by decide +kernel) .nil)) (fun e_ => ?_)
            refine T.seq ?_
            refine T.region ?_
            refine TL.cons rfl (V1.t (V1.loadN (vs := [.int .i64 1, .string (bstr nm), .slice none 0 0]) one_24 sz_24 rfl (RdN.whole z_C) rfl) ?_)
            refine TL.cons rfl (T1.storeN rfl rfl sz_24 (ones rfl) z_G (by rfl) (by rfl) ?_)
            refine TL.nil ?_
            refine T.ret ?_
            exact ⟨_, DefC.of2 has_93 (term1_any w0 b1 br dp (sz + 1) more (by omega)) z_A z_E, _, (⟨br, 0, [.string (bstr more), .int .i64 (dp : Nat), .int .i64 (sz + 1 : Nat)], 3⟩ : Blk) :: ([] ++ G), _, .cons (.cellN z_D one_24 sz_24 (RdN.whole z_C) (by rfl)) .nil, z_A, [(⟨br, 0, [.string (bstr more), .int .i64 (dp : Nat), .int .i64 (sz + 1 : Nat)], 3⟩ : Blk)], rfl, [.int .i64 1, .string (bstr nm), .slice none 0 0], [], rfl, rfl, TmR.atom⟩
      ·
        have htx : txt (.mk 4 nm ts) ++ more = (104 :: nm) ++ (40 :: (joinC (txtM ts) ++ 41 :: more)) := by rw [ht]; simp
        rw [htx] at hlen ⊢
        have hnl := named_len hn
        rw [hsize]
        refine T.region ?_
        refine TL.cons rfl (V1.t (V1.move' z_D) ?_)
        refine TL.cons rfl (V1.t (V1.eqI (r := true) rfl rfl (by decide)) ?_)
        refine TL.nil ?_
        refine T.cond_t rfl ?_
        refine T.seq ?_
        refine T.region ?_
        refine TL.cons rfl (V1.t (V1.load1 (v := .pointer (some ⟨br, 0, none⟩)) one_113 rfl (.own z_C (by rfl))) ?_)
        refine TL.cons rfl (T1.callM (X := [(⟨br, 0, [.string (bstr ((104 :: nm) ++ (40 :: (joinC (txtM ts) ++ 41 :: more)))), .int .i64 (dp + 1 : Nat), .int .i64 (sz + 1 : Nat)], 3⟩ : Blk)]) has_95 rfl rfl (name_any w0 br (dp + 1) (sz + 1) (104 :: nm) (40 :: (joinC (txtM ts) ++ 41 :: more)) (by intro y hy; rcases List.mem_cons.1 hy with rfl | hy; decide; exact named_all hn y hy) (by rw [List.dropWhile_cons, if_neg (by decide)]) hlen) z_A z_E (fun v_ Y_ hY => ?_))
        obtain ⟨rfl, rfl⟩ := hY
        simp only [List.cons_append, List.nil_append]
        refine TL.cons rfl (V1.t (V1.fieldAddr fl_24_1 rfl) ?_)
        refine TL.cons rfl (T1.store1 rfl rfl sz_9 rfl z_G (Nat.zero_le _) z_H ?_)
        refine TL.nil ?_
        refine T.seq ?_
        refine T.seq ?_
        refine T.region ?_
        refine TL.cons rfl (V1.t (V1.fieldAddr fl_24_1 rfl) ?_)
        refine TL.cons rfl (V1.t (V1.load1 (v := .string (bstr (104 :: nm))) one_9 rfl (.own (cells := [.int .i64 1, .string (bstr (104 :: nm)), .slice none 0 0]) z_C (by rfl))) ?_)
        refine TL.cons rfl (V1.t (V1.lenS ty_9 rfl) ?_)
        refine TL.cons rfl (V1.t (V1.ltI (r := false) rfl rfl (decide_eq_false (by rw [bstr_len, List.length_cons]; omega))) ?_)
        refine TL.cons rfl (V1.t (V1.move' z_D) ?_)
        refine TL.cons rfl (V1.t (V1.fieldAddr fl_24_1 rfl) ?_)
        refine TL.cons rfl (V1.t (V1.load1 (v := .string (bstr (104 :: nm))) one_9 rfl (.own (cells := [.int .i64 1, .string (bstr (104 :: nm)), .slice none 0 0]) z_C (by rfl))) ?_)
        refine TL.cons rfl (V1.t (V1.indexStr (s := bstr (104 :: nm)) (c := 104) ty_9 rfl rfl (by decide) (bstr_get rfl)) ?_)
        refine TL.cons rfl (V1.t (V1.neI (r := false) rfl rfl (by decide)) ?_)
        refine TL.cons rfl (V1.t (V1.pick rfl z_D) ?_)
        refine TL.cons rfl (V1.t (V1.move' z_D) ?_)
        refine TL.cons rfl (V1.t (V1.load1 (v := .pointer (some ⟨br, 0, none⟩)) one_113 rfl (.own z_C (by rfl))) ?_)
        refine TL.cons rfl (V1.t (V1.nilCheck rfl) ?_)
        refine TL.cons rfl (V1.t (V1.fieldAddr fl_115_0 rfl) ?_)
        refine TL.cons rfl (V1.t (V1.load1 (v := .string (bstr (40 :: (joinC (txtM ts) ++ 41 :: more)))) one_9 rfl (.own z_C (by rfl))) ?_)
        refine TL.cons rfl (T1.callV has_94 rfl rfl (HasPre_any w0 (40 :: (joinC (txtM ts) ++ 41 :: more)) [40]) z_E (fun v_ hv => ?_))
        obtain rfl := hv
        rw [show preB [40] (40 :: (joinC (txtM ts) ++ 41 :: more)) = true from by rw [preB1]; rfl]
        refine TL.cons rfl (V1.t (V1.not rfl rfl) ?_)
        refine TL.cons rfl (V1.t (V1.pick rfl z_D) ?_)
        refine TL.nil ?_
        refine T.cond_f rfl ?_
        refine T.skip ?_
        refine T.live (l := [(1, _), (2, _), (5, _)]) (.cons z_D (.cons z_D (.cons z_D .nil))) (fun e_ => ?_)
        refine T.drawU mixed ?_
        refine TU.take 0 rfl (by decide +kernel) (by decide +kernel) (by decide +kernel) rfl (fun _ _ _ h => h) (fun _ => V1.fieldAddr fl_24_1 rfl) ?_
        refine TU.one 1 (by decide +kernel) rfl rfl (V1.t (V1.load1 (v := .string (bstr (104 :: nm))) one_9 rfl (.own (cells := [.int .i64 1, .string (bstr (104 :: nm)), .slice none 0 0]) z_C (by rfl))) ?_)
        refine TU.take 2 rfl (by decide +kernel) (by decide +kernel) (by decide +kernel) rfl (fun _ _ _ h => h) (fun _ => V1.sliceB (s := (104 :: nm)) 1 (nm.length + 1) ty_9 rfl rfl rfl (by omega) (by rw [List.length_cons]; omega)) ?_
        rw [show (((104 :: nm) : List UInt8).drop 1).take (nm.length + 1 - 1) = nm from by rw [List.drop_succ_cons, List.drop_zero, Nat.add_sub_cancel]; exact List.take_length]
        refine TU.take 3 rfl (by decide +kernel) (by decide +kernel) (by decide +kernel) rfl (fun _ _ _ h => h) (fun _ => V1.fieldAddr fl_24_0 rfl) ?_
        refine TU.one 4 (by decide +kernel) rfl rfl (T1.store1 rfl rfl sz_3 rfl z_G (Nat.zero_le _) z_H ?_)
        refine TU.take 5 rfl (by decide +kernel) (by decide +kernel) (by decide +kernel) rfl (fun _ _ _ h => h) (fun _ => V1.fieldAddr fl_24_1 rfl) ?_
        refine TU.one 6 (by decide +kernel) rfl rfl (T1.store1 rfl rfl sz_9 rfl z_G (Nat.zero_le _) z_H ?_)
        refine TU.done (by decide +kernel) ?_
        exact ⟨(), _, _, trivial, .nil, (.cons rfl (.cons rfl (.cons rfl .nil))), z_A, ⟨rfl, hts0, by first | exact hlen | (rw [htx]; exact hlen)⟩⟩
      ·
        have htx : txt (.mk K [] ts) ++ more = sgN K.toNat :: (40 :: (joinC (txtM ts) ++ 41 :: more)) := by rw [ht]; simp
        rw [htx] at hlen ⊢
        rw [hsize]
        have hkd : kdT K = K := by unfold kdT; rw [if_neg (by omega)]
        rw [hkd]
        refine T.region ?_
        refine TL.cons rfl (V1.t (V1.move' z_D) ?_)
        refine TL.cons rfl (V1.t (V1.eqI (r := false) rfl rfl (decide_eq_false (by omega))) ?_)
        refine TL.nil ?_
        refine T.cond_f rfl ?_
        refine T.drawTail 6 mixed (by decide +kernel) (by rfl) (by decide +kernel) rfl ?_
        refine Det.cons 0 (ins := [(1, _)]) (.old z_D (by decide +kernel) .nil) (fun e_ => .inl ⟨rfl, V1.t (V1.load1 (v := .pointer (some ⟨br, 0, none⟩)) one_113 rfl (.own z_C (by rfl))) ⟨rfl, rfl⟩⟩) ?_
        refine Det.cons 1 (ins := [(1, _)]) (.old z_D (by decide +kernel) .nil) (fun e_ => .inl ⟨rfl, V1.t (V1.load1 (v := .pointer (some ⟨br, 0, none⟩)) one_113 rfl (.own z_C (by rfl))) ⟨rfl, rfl⟩⟩) ?_
        refine Det.cons 2 (ins := [(114, _)]) (.new 1 0 (by decide +kernel) rfl rfl .nil) (fun e_ => .inl ⟨rfl, V1.t (V1.nilCheck rfl) ⟨rfl, rfl⟩⟩) ?_
        refine Det.cons 3 (ins := [(115, _)]) (.new 2 0 (by decide +kernel) rfl rfl .nil) (fun e_ => .inl ⟨rfl, V1.t (V1.fieldAddr fl_115_0 rfl) ⟨rfl, rfl⟩⟩) ?_
        refine Det.cons 4 (ins := [(116, _)]) (.new 3 0 (by decide +kernel) rfl rfl .nil) (fun e_ => .inl ⟨rfl, V1.t (V1.load1 (v := .string (bstr (sgN K.toNat :: (40 :: (joinC (txtM ts) ++ 41 :: more))))) one_9 rfl (.own z_C (by rfl))) ⟨rfl, rfl⟩⟩) ?_
        refine Det.cons 5 (ins := [(117, _)]) (.new 4 0 (by decide +kernel) rfl rfl .nil) (fun e_ => .inl ⟨rfl, V1.t (V1.sliceR (s := sgN K.toNat :: (40 :: (joinC (txtM ts) ++ 41 :: more))) (r := (40 :: (joinC (txtM ts) ++ 41 :: more))) 1 ((40 :: (joinC (txtM ts) ++ 41 :: more)).length + 1) ty_9 rfl rfl rfl (by omega) (Nat.le_refl _) (by rw [List.drop_succ_cons, List.drop_zero, Nat.add_sub_cancel]; exact List.take_length)) ⟨rfl, rfl⟩⟩) ?_
        refine Det.nil 6 (l := [(1, _), (2, _), (5, _), (113, _), (118, _)]) (.old z_D (by decide +kernel) (.old z_D (by decide +kernel) (.old z_D (by decide +kernel) (.new 0 5 (by decide +kernel) rfl rfl (.new 5 0 (by decide +kernel) rfl rfl .nil))))) (fun e_ => ?_)
        refine (show TU _ _ _ 3 _ _ _ from ?_)
        refine TU.one 6 (by decide +kernel) rfl rfl (V1.t (V1.nilCheck rfl) ?_)
        refine TU.one 7 (by decide +kernel) rfl rfl (V1.t (V1.fieldAddr fl_115_0 rfl) ?_)
        refine TU.one 8 (by decide +kernel) rfl rfl (T1.store1 rfl rfl sz_9 rfl z_G (Nat.zero_le _) z_H ?_)
        refine TU.done (by decide +kernel) ?_
        exact ⟨(), _, _, trivial, .nil, (.cons rfl (.cons rfl (.cons rfl .nil))), z_A, ⟨rfl, hts0, by first | exact hlen | (rw [htx]; exact hlen)⟩⟩
    ·
      rintro ⟨⟩ e_ L ⟨rfl, hts0, hlen2⟩
      rw [hsize]
      refine T.seq ?_
      refine T.drawK (fun L_ => Find L_ (⟨b1, 0, [.pointer (some ⟨br, 0, none⟩)], 1⟩ : Blk)) mixed z_C ?_
      refine TK.take 0 rfl (by decide +kernel) (by decide +kernel) (by decide +kernel) rfl (fun _ _ _ h => h) (fun L_ k1_ => V1.load1 (v := .pointer (some ⟨br, 0, none⟩)) one_113 rfl (.own z_C (by rfl))) ?_
      refine TK.take 1 rfl (by decide +kernel) (by decide +kernel) (by decide +kernel) rfl (fun _ _ _ h => h) (fun L_ k1_ => V1.load1 (v := .pointer (some ⟨br, 0, none⟩)) one_113 rfl (.own z_C (by rfl))) ?_
      refine TK.one 2 (by decide +kernel) rfl rfl (T1.callM (X := [(⟨br, 0, [.string (bstr (40 :: (joinC (txtM ts) ++ 41 :: more))), .int .i64 (dp + 1 : Nat), .int .i64 (sz + 1 : Nat)], 3⟩ : Blk)]) has_96 rfl rfl (sign_yes w0 br (dp + 1) (sz + 1) 40 (joinC (txtM ts) ++ 41 :: more)) z_A z_E (fun v_ Y_ hY => ?_))
      obtain ⟨rfl, rfl⟩ := hY
      simp only [List.cons_append, List.nil_append]
      refine ⟨z_C, ?_⟩
      refine TK.one 3 (by decide +kernel) rfl rfl (T1.callV has_64 rfl rfl (need_any w0 _) z_E (fun v_ hv => ?_))
      obtain rfl := hv
      refine ⟨z_C, ?_⟩
      refine TD.done (by decide +kernel) ?_
      refine T.seq ?_
      refine T.block ?_
      refine T.loopL (σ := Nat) (l0 := [(1, _), (2, _), (5, _)]) (fun x => []) (fun i L => ∃ va Lv xv Q, L = (⟨b5, 0, [.int .i64 K, .string (bstr nm), va], 3⟩ : Blk) :: (Lv ++ ((⟨b2, 0, [.int .i64 0, .string ⟨#[]⟩, .slice none 0 0], 3⟩ : Blk) :: (⟨b1, 0, [.pointer (some ⟨br, 0, none⟩)], 1⟩ : Blk) :: (⟨br, 0, [.string (bstr (rst ts i more)), .int .i64 (dp + 1 : Nat), .int .i64 (sz + 1 + tsize (ts.take i) : Nat)], 3⟩ : Blk) :: (Q ++ G))) ∧ i < ts.length ∧ SlG (some 24) va xv 3 Lv ∧ TmsR w0 Q (ts.take i) xv) (fun i => ts.length - i) 0 .nil (.cons z_D (.cons z_D (.cons z_D .nil))) z_A (⟨.slice none 0 0, [], [], [], rfl, hts0, SlG.nil, TmsR.nil⟩) ?_
      rintro i e_ L ⟨va, Lv, xv, Q, rfl, hi, hsv, hxv⟩
      obtain ⟨x, hx0⟩ : ∃ x, ts[i]? = some x := ⟨_, List.getElem?_eq_getElem hi⟩
      have hxm := List.mem_of_getElem? hx0
      have hszi := tsz_le hx0
      have hdx := tdeep_mem hxm
      have hcx := ih x hxm br (dp + 1) (sz + 1 + tsize (ts.take i)) (jr (ts.drop (i + 1)) ++ 41 :: more) (hss x hxm) (by omega) (by omega) (jr_ok _ _) (by rw [← rst_at hx0]; exact rst_len hlen2 hhd hts0 hi)
      rw [rst_at hx0]
      rw [tsz hx0] at hcx
      refine T.block ?_
      refine T.seq ?_
      refine T.drawX (fun L_ => Find L_ (⟨b5, 0, [.int .i64 K, .string (bstr nm), va], 3⟩ : Blk) ∧ Find L_ (⟨b1, 0, [.pointer (some ⟨br, 0, none⟩)], 1⟩ : Blk)) 7 mixed ⟨z_C, z_C⟩ ?_
      refine TX.take 0 rfl (by decide +kernel) (by decide +kernel) (by decide +kernel) (by decide +kernel) rfl (fun _ _ _ h => h) (fun L_ ⟨k1_, k2_⟩ => V1.fieldAddr fl_24_2 rfl) ?_
      refine TX.take 1 rfl (by decide +kernel) (by decide +kernel) (by decide +kernel) (by decide +kernel) rfl (fun _ _ _ h => h) (fun L_ ⟨k1_, k2_⟩ => V1.load1 (v := va) one_22 rfl (.own (cells := [.int .i64 K, .string (bstr nm), va]) z_C (by rfl))) ?_
      refine TX.take 2 rfl (by decide +kernel) (by decide +kernel) (by decide +kernel) (by decide +kernel) rfl (fun _ _ _ h => h) (fun L_ ⟨k1_, k2_⟩ => V1.load1 (v := .pointer (some ⟨br, 0, none⟩)) one_113 rfl (.own z_C (by rfl))) ?_
      refine TX.one 3 (by decide +kernel) rfl rfl (T1.callM (X := [(⟨br, 0, [.string (bstr (txt x ++ (jr (ts.drop (i + 1)) ++ 41 :: more))), .int .i64 (dp + 1 : Nat), .int .i64 (sz + 1 + tsize (ts.take i) : Nat)], 3⟩ : Blk)]) has_63 rfl rfl hcx z_A z_E (fun v_ Y_ hY => ?_))
      obtain ⟨cs, Qc, rfl, rfl, hcs⟩ := hY
      simp only [List.cons_append]
      refine ⟨⟨z_C, z_C⟩, ?_⟩
      refine TX.one 4 (by decide +kernel) rfl rfl (T1.buildOne (cs := cs) ty_22 sz_24 zr_24 (by decide) rfl hcs.len (fun b129 => ?_))
      refine ⟨⟨z_C, z_C⟩, ?_⟩
      refine TX.one 5 (by decide +kernel) rfl rfl (T1.appendG ty_22 kd_22 sz_24 by_24 zr_24 rfl (by decide) (by decide) rfl rfl (.inr rfl) hsv (.sl (vs := cs) (RdN.at0 z_C) (by rw [hcs.len])) hcs.ones 2000 (by rw [hxv.len, hcs.len, List.length_take]; omega) (by decide) z_B (fun va2 Lv2 hsv2 => ?_))
      have hxv2 : TmsR w0 (Qc ++ Q) (ts.take (i + 1)) (xv ++ cs) := by rw [List.take_add_one, hx0]; exact (hxv.more (Inc.skip Inc.refl)).app (TmsR.one (hcs.more Inc.here))
      refine ⟨⟨z_C, z_C⟩, ?_⟩
      refine TX.take 6 rfl (by decide +kernel) (by decide +kernel) (by decide +kernel) (by decide +kernel) rfl (fun _ _ _ h => h) (fun L_ ⟨k1_, k2_⟩ => V1.fieldAddr fl_24_2 rfl) ?_
      refine TX.oneK (by decide +kernel) rfl rfl (T1.store1 rfl rfl sz_22 hsv2.one z_G (Nat.zero_le _) z_H ?_)
      refine TX.done (by decide +kernel) ?_
      refine T.seq ?_
      rcases Nat.lt_or_ge (i + 1) ts.length with hi1 | hi1
      ·
        rw [rst_more hi1]
        refine T.region ?_
        refine TL.cons rfl (V1.t (V1.load1 (v := .pointer (some ⟨br, 0, none⟩)) one_113 rfl (.own z_C (by rfl))) ?_)
        refine TL.cons rfl (T1.callM (X := [(⟨br, 0, [.string (bstr (44 :: rst ts (i + 1) more)), .int .i64 (dp + 1 : Nat), .int .i64 (sz + 1 + tsize (ts.take (i + 1)) : Nat)], 3⟩ : Blk)]) has_96 rfl rfl (sign_yes w0 br (dp + 1) (sz + 1 + tsize (ts.take (i + 1))) 44 (rst ts (i + 1) more)) z_A z_E (fun v_ Y_ hY => ?_))
        obtain ⟨rfl, rfl⟩ := hY
        simp only [List.cons_append, List.nil_append]
        refine TL.cons rfl (V1.t (V1.not rfl rfl) ?_)
        refine TL.nil ?_
        refine T.cond_f rfl ?_
        refine T.skip ?_
        exact ⟨i + 1, (⟨b5, 0, [.int .i64 K, .string (bstr nm), va2], 3⟩ : Blk) :: (Lv2 ++ ((⟨b2, 0, [.int .i64 0, .string ⟨#[]⟩, .slice none 0 0], 3⟩ : Blk) :: (⟨b1, 0, [.pointer (some ⟨br, 0, none⟩)], 1⟩ : Blk) :: (⟨br, 0, [.string (bstr (rst ts (i + 1) more)), .int .i64 (dp + 1 : Nat), .int .i64 (sz + 1 + tsize (ts.take (i + 1)) : Nat)], 3⟩ : Blk) :: (Qc ++ (Q ++ G)))), _, (by simp only; omega), .nil, (.cons rfl (.cons rfl (.cons rfl .nil))), z_A, ⟨va2, Lv2, _, Qc ++ Q, (by simp only [List.append_assoc]), hi1, hsv2, hxv2⟩⟩
      ·
        have hie : i + 1 = ts.length := by omega
        rw [hie, rst_end]
        rw [hie, List.take_length] at hxv2
        rw [List.take_length]
        refine T.region ?_
        refine TL.cons rfl (V1.t (V1.load1 (v := .pointer (some ⟨br, 0, none⟩)) one_113 rfl (.own z_C (by rfl))) ?_)
        refine TL.cons rfl (T1.callM (X := [(⟨br, 0, [.string (bstr (41 :: more)), .int .i64 (dp + 1 : Nat), .int .i64 (sz + 1 + tsize ts : Nat)], 3⟩ : Blk)]) has_96 rfl rfl (sign_no w0 br (dp + 1) (sz + 1 + tsize ts) [44] (41 :: more) (by rw [preB1]; decide)) z_A z_E (fun v_ Y_ hY => ?_))
        obtain ⟨rfl, rfl⟩ := hY
        simp only [List.cons_append, List.nil_append]
        obtain ⟨av_, cv_, rfl, hrv⟩ := SlG.tm hsv2 hxv2
        have hres : TmR w0 (Lv2 ++ (Qc ++ Q)) (.mk K nm ts) [.int .i64 K, .string (bstr nm), .slice av_ ts.length cv_] := TmR.mk hrv (by unfold maxN; omega) (hxv2.more (Inc.skip Inc.refl))
        refine TL.cons rfl (V1.t (V1.not rfl rfl) ?_)
        refine TL.nil ?_
        refine T.cond_t rfl ?_
        refine T.exit ?_
        refine T.seq ?_
        refine T.drawK (fun L_ => Find L_ (⟨b1, 0, [.pointer (some ⟨br, 0, none⟩)], 1⟩ : Blk)) mixed z_C ?_
        refine TK.take 0 rfl (by decide +kernel) (by decide +kernel) (by decide +kernel) rfl (fun _ _ _ h => h) (fun L_ k1_ => V1.load1 (v := .pointer (some ⟨br, 0, none⟩)) one_113 rfl (.own z_C (by rfl))) ?_
        refine TK.take 1 rfl (by decide +kernel) (by decide +kernel) (by decide +kernel) rfl (fun _ _ _ h => h) (fun L_ k1_ => V1.load1 (v := .pointer (some ⟨br, 0, none⟩)) one_113 rfl (.own z_C (by rfl))) ?_
        refine TK.one 2 (by decide +kernel) rfl rfl (T1.callM (X := [(⟨br, 0, [.string (bstr (41 :: more)), .int .i64 (dp + 1 : Nat), .int .i64 (sz + 1 + tsize ts : Nat)], 3⟩ : Blk)]) has_96 rfl rfl (sign_yes w0 br (dp + 1) (sz + 1 + tsize ts) 41 more) z_A z_E (fun v_ Y_ hY => ?_))
        obtain ⟨rfl, rfl⟩ := hY
        simp only [List.cons_append, List.nil_append]
        refine ⟨z_C, ?_⟩
        refine TK.one 3 (by decide +kernel) rfl rfl (T1.callV has_64 rfl rfl (need_any w0 _) z_E (fun v_ hv => ?_))
        obtain rfl := hv
        refine ⟨z_C, ?_⟩
        refine TD.done (by decide +kernel) ?_
        refine T.seq ?_
        refine T.live (l := [(2, _), (5, _)]) (.cons z_D (.cons z_D .nil)) (fun e_ => ?_)
        refine T.region ?_
        refine TL.cons rfl (V1.t (V1.loadN (vs := [.int .i64 K, .string (bstr nm), .slice av_ ts.length cv_]) one_24 sz_24 rfl (RdN.whole z_C) rfl) ?_)
        refine TL.cons rfl (T1.storeN rfl rfl sz_24 (ones rfl) z_G (by rfl) (by rfl) ?_)
        refine TL.nil ?_
        refine T.ret ?_
        exact ⟨_, DefC.of2 has_93 (term1_any w0 b1 br dp (sz + 1 + tsize ts) more (by omega)) z_A z_E, _, (⟨br, 0, [.string (bstr more), .int .i64 (dp : Nat), .int .i64 (sz + 1 + tsize ts : Nat)], 3⟩ : Blk) :: (Lv2 ++ (Qc ++ (Q ++ G))), _, .cons (.cellN z_D one_24 sz_24 (RdN.whole z_C) (by rfl)) .nil, z_A, (⟨br, 0, [.string (bstr more), .int .i64 (dp : Nat), .int .i64 (sz + 1 + tsize ts : Nat)], 3⟩ : Blk) :: (Lv2 ++ (Qc ++ Q)), by simp only [List.cons_append, List.append_assoc], [.int .i64 K, .string (bstr nm), .slice av_ ts.length cv_], Lv2 ++ (Qc ++ Q), rfl, rfl, hres⟩

theorem term_any (w0 : World) (x : Tm) : TermAt w0 x := by
  induction x using Tm.ind with
  | h k n xs ih => exact fun br dp sz more h1 h2 h3 h4 h5 => term_step w0 ih br dp sz more h1 h2 h3 h4 h5
end Go.Proofs.YtlpkcbkflfbclaaGreatDoor.S
