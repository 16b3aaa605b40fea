/- Can what was said be had? the document's answer; and what it has in memory of what is told. -/
import Derived.Test.YtlpkcbkflfbclaaGreatDoorG15
import Derived.Test.YtlpkcbkflfbclaaGreatDoorG8
namespace Go.Proofs.YtlpkcbkflfbclaaGreatDoor.S
open Go.RowKit

/-- Something told, as the document has it in memory. -/
structure TdX where
  t : Td
  sec : Bool
  a : Option Addr
  c : Nat
def TdX.cells (e : TdX) : List Value := [iV (e.t).who, iV (e.t).epoch, .slice e.a (e.t).names.length e.c, .string (bstr (nmb sText [(e.t).num])), .bool e.sec]
def tdX (es : List TdX) : List Value := es.flatMap TdX.cells
def TdXA (w0 : World) (Ps : List Blk) (es : List TdX) : Prop := ∀ e ∈ es, RowR w0 Ps 1 (.slice e.a e.t.names.length e.c) e.t.names.length (e.t.names.map iV)
theorem tdX_len : ∀ es : List TdX, (tdX es).length = es.length * 5
  | [] => rfl
  | e :: es => by
    have := tdX_len es
    unfold tdX at *
    rw [List.flatMap_cons, List.length_append, this, List.length_cons]; show 5 + _ = _; omega
theorem tdX_at : ∀ {es : List TdX} {i : Nat} {e : TdX}, es[i]? = some e → ((tdX es).drop (i * 5)).take 5 = e.cells
  | [], i, e, h => by simp at h
  | a :: es, 0, e, h => by simp at h; subst h; rfl
  | a :: es, i + 1, e, h => by
    rw [List.getElem?_cons_succ] at h
    have h1 : tdX (a :: es) = a.cells ++ tdX es := rfl
    rw [h1, show (i + 1) * 5 = a.cells.length + i * 5 by show _ = 5 + _; omega, List.drop_length_add_append]
    exact tdX_at h
theorem tdX_app (us bs : List TdX) : tdX (us ++ bs) = tdX us ++ tdX bs := List.flatMap_append ..
theorem tdX_rd {C : Ctx} {L : List Blk} {b o i : Nat} {es : List TdX} {e : TdX} (he : es[i]? = some e) (hr : RdN C L ⟨b, o, none⟩ (tdX es)) : RdN C L ⟨b, o + i * 5, none⟩ e.cells := by
  have h_ := (hr.elem (k := 5) (n := es.length) (tdX_len es) (List.getElem?_eq_some_iff.1 he).1).1
  rwa [tdX_at he] at h_
theorem set_mid {A C D : List Value} {x y : Value} : (A ++ (C ++ x :: D)).set (A.length + C.length) y = A ++ (C ++ y :: D) := by
  rw [List.set_append_right _ _ (by omega), Nat.add_sub_cancel_left, List.set_append_right _ _ (Nat.le_refl _), Nat.sub_self]; rfl
theorem tdX_set {A B : List TdX} {e : TdX} (s : Bool) : (tdX (A ++ e :: B)).set (A.length * 5 + 4) (.bool s) = tdX (A ++ { e with sec := s } :: B) := by
  have h1 : ∀ e : TdX, tdX (A ++ e :: B) = tdX A ++ (e.cells.take 4 ++ .bool e.sec :: tdX B) := fun e => by rw [tdX_app]; rfl
  rw [h1, h1, ← tdX_len A]
  exact set_mid
theorem TdXA.more {w0 : World} {Ps Qs : List Blk} {es : List TdX} (h : TdXA w0 Ps es) (hi : Inc Ps Qs) : TdXA w0 Qs es := fun e he => (h e he).more hi
theorem TdXA.snoc {w0 : World} {Ps : List Blk} {es : List TdX} {e : TdX} (h : TdXA w0 Ps es) (he : RowR w0 Ps 1 (.slice e.a e.t.names.length e.c) e.t.names.length (e.t.names.map iV)) : TdXA w0 Ps (es ++ [e]) := fun x hx => by
  rcases List.mem_append.1 hx with hx | hx
  · exact h x hx
  · rw [List.mem_singleton.1 hx]; exact he
/-- What the document says of secrets. -/
def finX (s : Sg) (e : TdX) : TdX := { e with sec := !e.t.open s }
def kN (k : Nat × Nat) : Nat := k.1 * 1000 + k.2
theorem key_in {ks : List (Nat × Nat)} {w e : Nat} (h : ∀ k ∈ ks, k.2 < 1000) (he : e < 1000) : decide (w * 1000 + e ∈ ks.map kN) = decide ((w, e) ∈ ks) := by
  refine decide_eq_decide.2 ⟨fun h1 => ?_, fun h1 => List.mem_map.2 ⟨_, h1, rfl⟩⟩
  obtain ⟨⟨x, y⟩, h2, h3⟩ := List.mem_map.1 h1
  have h4 := h _ h2
  simp only [kN] at h3 h4
  have e1 : x = w := by omega
  have e2 : y = e := by omega
  subst e1 e2; exact h2
theorem open_hit {s : Sg} {t : Td} {i n : Nat} (h : t.names[i]? = some n) (hn : n ≠ t.who) (hb : n ∈ s.bare) : t.open s = true := by
  unfold Td.open
  rw [Bool.or_eq_true]
  exact .inl (List.any_eq_true.2 ⟨n, List.mem_of_getElem? h, decide_eq_true ⟨hn, hb⟩⟩)
theorem open_rest {s : Sg} {t : Td} (h : ∀ n ∈ t.names, ¬ (n ≠ t.who ∧ n ∈ s.bare)) : t.open s = (decide (t.who ∈ s.bare ∧ 1 < t.names.length) || decide ((t.who, t.epoch) ∈ s.keys)) := by
  unfold Td.open
  rw [List.any_eq_false.2 fun n hn => by simpa using h n hn]; rfl
theorem none_take {p : Nat → Prop} {ns : List Nat} {i n : Nat} (h : ns[i]? = some n) (ho : ∀ y ∈ ns.take i, ¬ p y) (hn : ¬ p n) : ∀ y ∈ ns.take (i + 1), ¬ p y := by
  rw [take_nat h]
  intro y hy
  rcases List.mem_append.1 hy with hy | hy
  · exact ho y hy
  · rw [List.mem_singleton.1 hy]; exact hn

set_option maxRecDepth 100000 in
set_option maxHeartbeats 8000000 in
theorem open_any (w0 : World) (Ps : List Blk) {s : Sg} {who epoch num : Nat} {names : List Nat} {sec : Bool} {an : Option Addr} {cn : Nat} (hr : RowR w0 Ps 1 (.slice an names.length cn) names.length (names.map iV)) {vb vy : Value} (hrb : RowR w0 Ps 1 vb s.bare.length (s.bare.map iV)) (hb6 : s.bare.length ≤ 1000) (hry : RowR w0 Ps 1 vy (s.keys.map kN).length ((s.keys.map kN).map iV)) (hy6 : (s.keys.map kN).length ≤ 1000) (hky : ∀ k ∈ s.keys, k.2 < 1000) (he : epoch < 1000) (hw : who < 1000) (hn6 : names.length ≤ 1000) : FnV P 57 [.agg ([iV who, iV epoch, .slice an names.length cn, .string (bstr (nmb sText [num])), .bool sec]).toArray, vb, vy] w0 Ps (fun v => v = .bool (Td.open s ⟨who, epoch, names, num⟩)) := by
  refine FnV.of 52 [.tmp 6] Go.Proofs.Tryz.func57 rfl rfl rfl rfl (fun G hG => ?_)
  refine T.seq ?_
  refine T.region ?_
  refine TL.cons rfl (T1.boxN 5 rfl rfl (fun b3 => ?_))
  refine TL.cons rfl (V1.t (V1.assign' z_C) ?_)
  refine TL.nil ?_
  refine T.seq ?_
  refine T.seq ?_
  refine T.region ?_
  refine TL.cons rfl (V1.t (V1.assign' z_C) ?_)
  refine TL.nil ?_
  refine T.block ?_
  refine T.loopL (σ := Nat) (l0 := [(1, _), (2, _), (3, _)]) (fun x => [(7, .int .i64 (x : Nat))]) (fun i L => L = (⟨b3, 0, [iV who, iV epoch, .slice an names.length cn, .string (bstr (nmb sText [num])), .bool sec], 5⟩ : Blk) :: G ∧ i ≤ names.length ∧ ∀ n ∈ names.take i, ¬ (n ≠ who ∧ n ∈ s.bare)) (fun i => names.length - i) 0 (.cons rfl .nil) (.cons z_C (.cons z_C (.cons z_C .nil))) z_A (⟨rfl, Nat.zero_le _, by simp⟩) ?_
  rintro i e_ L ⟨rfl, hi, ho⟩
  refine T.seq ?_
  refine T.seq ?_
  refine T.region ?_
  refine TL.cons rfl (V1.t (V1.move' z_C) ?_)
  refine TL.cons rfl (V1.t (V1.fieldAddr fl_57_2 rfl) ?_)
  refine TL.cons rfl (V1.t (V1.load1 one_44 rfl (.own z_D (by rfl))) ?_)
  refine TL.cons rfl (V1.t (V1.lenSl ty_44 rfl) ?_)
  refine TL.cons rfl (T1.ltI_split rfl rfl (fun h2 => ?_) (fun h2 => ?_))
  ·
    obtain ⟨n, hx0⟩ : ∃ n, names[i]? = some n := ⟨_, List.getElem?_eq_getElem (by omega)⟩
    obtain ⟨b_, o_, rfl, hrd⟩ := hr.at (by omega) P
    refine TL.nil ?_
    refine T.cond_t rfl ?_
    refine T.skip ?_
    refine T.seq ?_
    refine T.block ?_
    refine T.seq ?_
    have hc3 : n = who ∨ (n ≠ who ∧ n ∈ s.bare) ∨ (n ≠ who ∧ n ∉ s.bare) := by rcases Classical.em (n = who) with h | h; exact .inl h; exact .inr ((Classical.em (n ∈ s.bare)).imp (fun h2 => ⟨h, h2⟩) (fun h2 => ⟨h, h2⟩))
    rcases hc3 with hne | ⟨hne, hnb⟩ | ⟨hne, hnb⟩
    ·
      have hno : ¬ (n ≠ who ∧ n ∈ s.bare) := fun h => h.1 hne
      refine T.drawDet' mixed (by decide +kernel) ?_
      refine Det.cons 0 (ins := [(3, _)]) (.old z_C (by decide +kernel) .nil) (fun e_ => .inl ⟨rfl, V1.t (V1.fieldAddr fl_57_2 rfl) ⟨rfl, rfl⟩⟩) ?_
      refine Det.cons 1 (ins := [(15, _)]) (.new 0 0 (by decide +kernel) rfl rfl .nil) (fun e_ => .inl ⟨rfl, V1.t (V1.load1 (v := .slice (some ⟨b_, o_, none⟩) names.length cn) one_44 rfl (.own z_D (by rfl))) ⟨rfl, rfl⟩⟩) ?_
      refine Det.cons 2 (ins := [(7, _)]) (.old z_C (by decide +kernel) .nil) (fun e_ => .inl ⟨rfl, V1.t (V1.move' z_C) ⟨rfl, rfl⟩⟩) ?_
      refine Det.cons 3 (ins := [(16, _), (17, _)]) (.new 1 1 (by decide +kernel) rfl rfl (.new 2 0 (by decide +kernel) rfl rfl .nil)) (fun e_ => .inl ⟨rfl, V1.t (V1.indexAddrS ty_44 sz_3 rfl rfl (by omega) (by omega)) ⟨rfl, rfl⟩⟩) ?_
      refine Det.cons 4 (ins := [(18, _)]) (.new 3 0 (by decide +kernel) rfl rfl .nil) (fun e_ => .inl ⟨rfl, V1.t (V1.load1 (v := iV n) one_3 rfl (show Rd _ _ ⟨_, _ + i * 1, none⟩ _ from by rw [Nat.mul_one]; exact hrd _ rfl rfl _ z_B i _ (by rw [List.getElem?_map, hx0]; rfl))) ⟨rfl, rfl⟩⟩) ?_
      refine Det.cons 5 (ins := [(3, _)]) (.old z_C (by decide +kernel) .nil) (fun e_ => .inl ⟨rfl, V1.t (V1.fieldAddr fl_57_0 rfl) ⟨rfl, rfl⟩⟩) ?_
      refine Det.cons 6 (ins := [(20, _)]) (.new 5 0 (by decide +kernel) rfl rfl .nil) (fun e_ => .inl ⟨rfl, V1.t (V1.load1 (v := iV who) one_3 rfl (.own z_D (by rfl))) ⟨rfl, rfl⟩⟩) ?_
      refine Det.cons 7 (ins := [(19, _), (21, _)]) (.new 4 2 (by decide +kernel) rfl rfl (.new 6 0 (by decide +kernel) rfl rfl .nil)) (fun e_ => .inl ⟨rfl, V1.t (V1.neI (r := false) rfl rfl (decide_eq_false (by omega))) ⟨rfl, rfl⟩⟩) ?_
      refine Det.cons 8 (ins := [(22, _)]) (.new 7 0 (by decide +kernel) rfl rfl .nil) (fun e_ => .inl ⟨rfl, V1.t (V1.move' z_C) ⟨rfl, rfl⟩⟩) ?_
      refine Det.cons 9 (ins := [(23, _)]) (.new 8 0 (by decide +kernel) rfl rfl .nil) (fun e_ => .inr ⟨rfl, rfl⟩) ?_
      refine Det.cons 10 (ins := [(23, _)]) (.new 8 1 (by decide +kernel) rfl rfl .nil) (fun e_ => .inr ⟨rfl, rfl⟩) ?_
      refine Det.cons 11 (ins := [(23, _)]) (.new 8 2 (by decide +kernel) rfl rfl .nil) (fun e_ => .inr ⟨rfl, rfl⟩) ?_
      refine Det.cons 12 (ins := [(23, _)]) (.new 8 3 (by decide +kernel) rfl rfl .nil) (fun e_ => .inr ⟨rfl, rfl⟩) ?_
      refine Det.cons 13 (ins := [(23, _)]) (.new 8 4 (by decide +kernel) rfl rfl .nil) (fun e_ => .inr ⟨rfl, rfl⟩) ?_
      refine Det.cons 14 (ins := [(23, _)]) (.new 8 5 (by decide +kernel) rfl rfl .nil) (fun e_ => .inr ⟨rfl, rfl⟩) ?_
      refine Det.cons 15 (ins := [(23, _)]) (.new 8 6 (by decide +kernel) rfl rfl .nil) (fun e_ => .inr ⟨rfl, rfl⟩) ?_
      refine Det.cons 16 (ins := [(23, _), (30, _)]) (.new 8 7 (by decide +kernel) rfl rfl (.new 15 0 (by decide +kernel) rfl rfl .nil)) (fun e_ => .inl ⟨rfl, V1.t (V1.pick rfl z_C) ⟨rfl, rfl⟩⟩) ?_
      refine Det.nil 17 (l := [(1, _), (2, _), (3, _), (7, _), (31, _)]) (.old z_C (by decide +kernel) (.old z_C (by decide +kernel) (.old z_C (by decide +kernel) (.old z_C (by decide +kernel) (.new 16 0 (by decide +kernel) rfl rfl .nil))))) (fun e_ => ?_)
      refine T.cond_f rfl ?_
      refine T.skip ?_
      refine T.region ?_
      refine TL.cons rfl (V1.t (V1.move' z_C) ?_)
      refine TL.cons rfl (V1.t (V1.add (c := ((i + 1 : Nat) : Int)) rfl rfl (by rw [wrap_i64 _ (by omega) (by omega)]; omega)) ?_)
      refine TL.cons rfl (V1.t (V1.assign' z_C) ?_)
      refine TL.nil ?_
      exact ⟨i + 1, (⟨b3, 0, [iV who, iV epoch, .slice (some ⟨b_, o_, none⟩) names.length cn, .string (bstr (nmb sText [num])), .bool sec], 5⟩ : Blk) :: G, _, (by simp only; omega), (.cons rfl .nil), (.cons rfl (.cons rfl (.cons rfl .nil))), z_A, ⟨rfl, by omega, none_take hx0 ho hno⟩⟩
    ·
      refine T.drawDet' mixed (by decide +kernel) ?_
      refine Det.cons 0 (ins := [(3, _)]) (.old z_C (by decide +kernel) .nil) (fun e_ => .inl ⟨rfl, V1.t (V1.fieldAddr fl_57_2 rfl) ⟨rfl, rfl⟩⟩) ?_
      refine Det.cons 1 (ins := [(15, _)]) (.new 0 0 (by decide +kernel) rfl rfl .nil) (fun e_ => .inl ⟨rfl, V1.t (V1.load1 (v := .slice (some ⟨b_, o_, none⟩) names.length cn) one_44 rfl (.own z_D (by rfl))) ⟨rfl, rfl⟩⟩) ?_
      refine Det.cons 2 (ins := [(7, _)]) (.old z_C (by decide +kernel) .nil) (fun e_ => .inl ⟨rfl, V1.t (V1.move' z_C) ⟨rfl, rfl⟩⟩) ?_
      refine Det.cons 3 (ins := [(16, _), (17, _)]) (.new 1 1 (by decide +kernel) rfl rfl (.new 2 0 (by decide +kernel) rfl rfl .nil)) (fun e_ => .inl ⟨rfl, V1.t (V1.indexAddrS ty_44 sz_3 rfl rfl (by omega) (by omega)) ⟨rfl, rfl⟩⟩) ?_
      refine Det.cons 4 (ins := [(18, _)]) (.new 3 0 (by decide +kernel) rfl rfl .nil) (fun e_ => .inl ⟨rfl, V1.t (V1.load1 (v := iV n) one_3 rfl (show Rd _ _ ⟨_, _ + i * 1, none⟩ _ from by rw [Nat.mul_one]; exact hrd _ rfl rfl _ z_B i _ (by rw [List.getElem?_map, hx0]; rfl))) ⟨rfl, rfl⟩⟩) ?_
      refine Det.cons 5 (ins := [(3, _)]) (.old z_C (by decide +kernel) .nil) (fun e_ => .inl ⟨rfl, V1.t (V1.fieldAddr fl_57_0 rfl) ⟨rfl, rfl⟩⟩) ?_
      refine Det.cons 6 (ins := [(20, _)]) (.new 5 0 (by decide +kernel) rfl rfl .nil) (fun e_ => .inl ⟨rfl, V1.t (V1.load1 (v := iV who) one_3 rfl (.own z_D (by rfl))) ⟨rfl, rfl⟩⟩) ?_
      refine Det.cons 7 (ins := [(19, _), (21, _)]) (.new 4 2 (by decide +kernel) rfl rfl (.new 6 0 (by decide +kernel) rfl rfl .nil)) (fun e_ => .inl ⟨rfl, V1.t (V1.neI (r := true) rfl rfl (decide_eq_true (by omega))) ⟨rfl, rfl⟩⟩) ?_
      refine Det.cons 8 (ins := [(22, _)]) (.new 7 0 (by decide +kernel) rfl rfl .nil) (fun e_ => .inl ⟨rfl, V1.t (V1.move' z_C) ⟨rfl, rfl⟩⟩) ?_
      refine Det.cons 9 (ins := [(1, _), (23, _)]) (.old z_C (by decide +kernel) (.new 8 0 (by decide +kernel) rfl rfl .nil)) (fun e_ => .inl ⟨rfl, V1.t (V1.move' z_C) ⟨rfl, rfl⟩⟩) ?_
      refine Det.cons 10 (ins := [(3, _), (23, _)]) (.old z_C (by decide +kernel) (.new 8 1 (by decide +kernel) rfl rfl .nil)) (fun e_ => .inl ⟨rfl, V1.t (V1.fieldAddr fl_57_2 rfl) ⟨rfl, rfl⟩⟩) ?_
      refine Det.cons 11 (ins := [(23, _), (25, _)]) (.new 8 2 (by decide +kernel) rfl rfl (.new 10 0 (by decide +kernel) rfl rfl .nil)) (fun e_ => .inl ⟨rfl, V1.t (V1.load1 (v := .slice (some ⟨b_, o_, none⟩) names.length cn) one_44 rfl (.own z_D (by rfl))) ⟨rfl, rfl⟩⟩) ?_
      refine Det.cons 12 (ins := [(7, _), (23, _)]) (.old z_C (by decide +kernel) (.new 8 3 (by decide +kernel) rfl rfl .nil)) (fun e_ => .inl ⟨rfl, V1.t (V1.move' z_C) ⟨rfl, rfl⟩⟩) ?_
      refine Det.cons 13 (ins := [(23, _), (26, _), (27, _)]) (.new 8 4 (by decide +kernel) rfl rfl (.new 11 1 (by decide +kernel) rfl rfl (.new 12 0 (by decide +kernel) rfl rfl .nil))) (fun e_ => .inl ⟨rfl, V1.t (V1.indexAddrS ty_44 sz_3 rfl rfl (by omega) (by omega)) ⟨rfl, rfl⟩⟩) ?_
      refine Det.cons 14 (ins := [(23, _), (28, _)]) (.new 8 5 (by decide +kernel) rfl rfl (.new 13 0 (by decide +kernel) rfl rfl .nil)) (fun e_ => .inl ⟨rfl, V1.t (V1.load1 (v := iV n) one_3 rfl (show Rd _ _ ⟨_, _ + i * 1, none⟩ _ from by rw [Nat.mul_one]; exact hrd _ rfl rfl _ z_B i _ (by rw [List.getElem?_map, hx0]; rfl))) ⟨rfl, rfl⟩⟩) ?_
      refine Det.cons 15 (ins := [(23, _), (24, _), (29, _)]) (v := .bool true) (.new 8 6 (by decide +kernel) rfl rfl (.new 9 5 (by decide +kernel) rfl rfl (.new 14 0 (by decide +kernel) rfl rfl .nil))) (fun e_ => .inl ⟨rfl, ?_⟩) ?_
      · refine T1.callV has_54 rfl rfl (rhas_any w0 Ps hrb hb6 n) z_B (fun v_ hv => ?_)
        obtain rfl := hv
        rw [decide_eq_true hnb]
        exact ⟨rfl, rfl⟩
      refine Det.cons 16 (ins := [(23, _), (30, _)]) (.new 8 7 (by decide +kernel) rfl rfl (.new 15 0 (by decide +kernel) rfl rfl .nil)) (fun e_ => .inl ⟨rfl, V1.t (V1.pick rfl z_C) ⟨rfl, rfl⟩⟩) ?_
      refine Det.nil 17 (l := [(1, _), (2, _), (3, _), (7, _), (31, _)]) (.old z_C (by decide +kernel) (.old z_C (by decide +kernel) (.old z_C (by decide +kernel) (.old z_C (by decide +kernel) (.new 16 0 (by decide +kernel) rfl rfl .nil))))) (fun e_ => ?_)
      refine T.cond_t rfl ?_
      refine T.seq ?_
      refine T.region ?_
      refine TL.cons rfl (V1.t (V1.assign' z_C) ?_)
      refine TL.nil ?_
      refine T.ret ?_
      exact ⟨_, G, _, .cons (.tmp z_C) .nil, z_A, rfl, by rw [open_hit (s := s) (t := ⟨who, epoch, names, num⟩) hx0 hne hnb]; rfl⟩
    ·
      have hno : ¬ (n ≠ who ∧ n ∈ s.bare) := fun h => hnb h.2
      refine T.drawDet' mixed (by decide +kernel) ?_
      refine Det.cons 0 (ins := [(3, _)]) (.old z_C (by decide +kernel) .nil) (fun e_ => .inl ⟨rfl, V1.t (V1.fieldAddr fl_57_2 rfl) ⟨rfl, rfl⟩⟩) ?_
      refine Det.cons 1 (ins := [(15, _)]) (.new 0 0 (by decide +kernel) rfl rfl .nil) (fun e_ => .inl ⟨rfl, V1.t (V1.load1 (v := .slice (some ⟨b_, o_, none⟩) names.length cn) one_44 rfl (.own z_D (by rfl))) ⟨rfl, rfl⟩⟩) ?_
      refine Det.cons 2 (ins := [(7, _)]) (.old z_C (by decide +kernel) .nil) (fun e_ => .inl ⟨rfl, V1.t (V1.move' z_C) ⟨rfl, rfl⟩⟩) ?_
      refine Det.cons 3 (ins := [(16, _), (17, _)]) (.new 1 1 (by decide +kernel) rfl rfl (.new 2 0 (by decide +kernel) rfl rfl .nil)) (fun e_ => .inl ⟨rfl, V1.t (V1.indexAddrS ty_44 sz_3 rfl rfl (by omega) (by omega)) ⟨rfl, rfl⟩⟩) ?_
      refine Det.cons 4 (ins := [(18, _)]) (.new 3 0 (by decide +kernel) rfl rfl .nil) (fun e_ => .inl ⟨rfl, V1.t (V1.load1 (v := iV n) one_3 rfl (show Rd _ _ ⟨_, _ + i * 1, none⟩ _ from by rw [Nat.mul_one]; exact hrd _ rfl rfl _ z_B i _ (by rw [List.getElem?_map, hx0]; rfl))) ⟨rfl, rfl⟩⟩) ?_
      refine Det.cons 5 (ins := [(3, _)]) (.old z_C (by decide +kernel) .nil) (fun e_ => .inl ⟨rfl, V1.t (V1.fieldAddr fl_57_0 rfl) ⟨rfl, rfl⟩⟩) ?_
      refine Det.cons 6 (ins := [(20, _)]) (.new 5 0 (by decide +kernel) rfl rfl .nil) (fun e_ => .inl ⟨rfl, V1.t (V1.load1 (v := iV who) one_3 rfl (.own z_D (by rfl))) ⟨rfl, rfl⟩⟩) ?_
      refine Det.cons 7 (ins := [(19, _), (21, _)]) (.new 4 2 (by decide +kernel) rfl rfl (.new 6 0 (by decide +kernel) rfl rfl .nil)) (fun e_ => .inl ⟨rfl, V1.t (V1.neI (r := true) rfl rfl (decide_eq_true (by omega))) ⟨rfl, rfl⟩⟩) ?_
      refine Det.cons 8 (ins := [(22, _)]) (.new 7 0 (by decide +kernel) rfl rfl .nil) (fun e_ => .inl ⟨rfl, V1.t (V1.move' z_C) ⟨rfl, rfl⟩⟩) ?_
      refine Det.cons 9 (ins := [(1, _), (23, _)]) (.old z_C (by decide +kernel) (.new 8 0 (by decide +kernel) rfl rfl .nil)) (fun e_ => .inl ⟨rfl, V1.t (V1.move' z_C) ⟨rfl, rfl⟩⟩) ?_
      refine Det.cons 10 (ins := [(3, _), (23, _)]) (.old z_C (by decide +kernel) (.new 8 1 (by decide +kernel) rfl rfl .nil)) (fun e_ => .inl ⟨rfl, V1.t (V1.fieldAddr fl_57_2 rfl) ⟨rfl, rfl⟩⟩) ?_
      refine Det.cons 11 (ins := [(23, _), (25, _)]) (.new 8 2 (by decide +kernel) rfl rfl (.new 10 0 (by decide +kernel) rfl rfl .nil)) (fun e_ => .inl ⟨rfl, V1.t (V1.load1 (v := .slice (some ⟨b_, o_, none⟩) names.length cn) one_44 rfl (.own z_D (by rfl))) ⟨rfl, rfl⟩⟩) ?_
      refine Det.cons 12 (ins := [(7, _), (23, _)]) (.old z_C (by decide +kernel) (.new 8 3 (by decide +kernel) rfl rfl .nil)) (fun e_ => .inl ⟨rfl, V1.t (V1.move' z_C) ⟨rfl, rfl⟩⟩) ?_
      refine Det.cons 13 (ins := [(23, _), (26, _), (27, _)]) (.new 8 4 (by decide +kernel) rfl rfl (.new 11 1 (by decide +kernel) rfl rfl (.new 12 0 (by decide +kernel) rfl rfl .nil))) (fun e_ => .inl ⟨rfl, V1.t (V1.indexAddrS ty_44 sz_3 rfl rfl (by omega) (by omega)) ⟨rfl, rfl⟩⟩) ?_
      refine Det.cons 14 (ins := [(23, _), (28, _)]) (.new 8 5 (by decide +kernel) rfl rfl (.new 13 0 (by decide +kernel) rfl rfl .nil)) (fun e_ => .inl ⟨rfl, V1.t (V1.load1 (v := iV n) one_3 rfl (show Rd _ _ ⟨_, _ + i * 1, none⟩ _ from by rw [Nat.mul_one]; exact hrd _ rfl rfl _ z_B i _ (by rw [List.getElem?_map, hx0]; rfl))) ⟨rfl, rfl⟩⟩) ?_
      refine Det.cons 15 (ins := [(23, _), (24, _), (29, _)]) (v := .bool false) (.new 8 6 (by decide +kernel) rfl rfl (.new 9 5 (by decide +kernel) rfl rfl (.new 14 0 (by decide +kernel) rfl rfl .nil))) (fun e_ => .inl ⟨rfl, ?_⟩) ?_
      · refine T1.callV has_54 rfl rfl (rhas_any w0 Ps hrb hb6 n) z_B (fun v_ hv => ?_)
        obtain rfl := hv
        rw [decide_eq_false hnb]
        exact ⟨rfl, rfl⟩
      refine Det.cons 16 (ins := [(23, _), (30, _)]) (.new 8 7 (by decide +kernel) rfl rfl (.new 15 0 (by decide +kernel) rfl rfl .nil)) (fun e_ => .inl ⟨rfl, V1.t (V1.pick rfl z_C) ⟨rfl, rfl⟩⟩) ?_
      refine Det.nil 17 (l := [(1, _), (2, _), (3, _), (7, _), (31, _)]) (.old z_C (by decide +kernel) (.old z_C (by decide +kernel) (.old z_C (by decide +kernel) (.old z_C (by decide +kernel) (.new 16 0 (by decide +kernel) rfl rfl .nil))))) (fun e_ => ?_)
      refine T.cond_f rfl ?_
      refine T.skip ?_
      refine T.region ?_
      refine TL.cons rfl (V1.t (V1.move' z_C) ?_)
      refine TL.cons rfl (V1.t (V1.add (c := ((i + 1 : Nat) : Int)) rfl rfl (by rw [wrap_i64 _ (by omega) (by omega)]; omega)) ?_)
      refine TL.cons rfl (V1.t (V1.assign' z_C) ?_)
      refine TL.nil ?_
      exact ⟨i + 1, (⟨b3, 0, [iV who, iV epoch, .slice (some ⟨b_, o_, none⟩) names.length cn, .string (bstr (nmb sText [num])), .bool sec], 5⟩ : Blk) :: G, _, (by simp only; omega), (.cons rfl .nil), (.cons rfl (.cons rfl (.cons rfl .nil))), z_A, ⟨rfl, by omega, none_take hx0 ho hno⟩⟩
  ·
    obtain rfl : i = names.length := by omega
    rw [List.take_length] at ho
    have hop := open_rest (s := s) (t := ⟨who, epoch, names, num⟩) ho
    dsimp only at hop
    refine TL.nil ?_
    refine T.cond_f rfl ?_
    refine T.exit ?_
    refine T.seq ?_
    refine T.region ?_
    refine TL.cons rfl (V1.t (V1.move' z_C) ?_)
    refine TL.cons rfl (V1.t (V1.fieldAddr fl_57_0 rfl) ?_)
    refine TL.cons rfl (V1.t (V1.load1 (v := iV who) one_3 rfl (.own z_D (by rfl))) ?_)
    refine TL.cons rfl (T1.callV has_54 rfl rfl (rhas_any w0 Ps hrb hb6 who) z_B (fun v_ hv => ?_))
    obtain rfl := hv
    rcases Classical.em (who ∈ s.bare) with hwb | hwb
    ·
      rw [decide_eq_true hwb]
      refine TL.cons rfl (V1.t (V1.move' z_C) ?_)
      refine TL.cons rfl (V1.t (V1.fieldAddr fl_57_2 rfl) ?_)
      refine TL.cons rfl (V1.t (V1.load1 (v := .slice an names.length cn) one_44 rfl (.own z_D (by rfl))) ?_)
      refine TL.cons rfl (V1.t (V1.lenSl ty_44 rfl) ?_)
      refine TL.cons rfl (T1.gtI_split rfl rfl (fun h6 => ?_) (fun h6 => ?_))
      ·
        refine TL.cons rfl (V1.t (V1.pick rfl z_C) ?_)
        refine TL.cons rfl (V1.t (V1.move' z_C) ?_)
        refine TL.no rfl ?_
        refine TL.no rfl ?_
        refine TL.no rfl ?_
        refine TL.no rfl ?_
        refine TL.no rfl ?_
        refine TL.no rfl ?_
        refine TL.no rfl ?_
        refine TL.no rfl ?_
        refine TL.cons rfl (V1.t (V1.pick rfl z_C) ?_)
        refine TL.cons rfl (V1.t (V1.assign' z_C) ?_)
        refine TL.nil ?_
        refine T.ret ?_
        exact ⟨_, G, _, .cons (.tmp z_C) .nil, z_A, rfl, by rw [hop, decide_eq_true (show who ∈ s.bare ∧ 1 < names.length from ⟨hwb, by omega⟩)]; rfl⟩
      ·
        refine TL.cons rfl (V1.t (V1.pick rfl z_C) ?_)
        refine TL.cons rfl (V1.t (V1.move' z_C) ?_)
        refine TL.cons rfl (V1.t (V1.move' z_C) ?_)
        refine TL.cons rfl (V1.t (V1.fieldAddr fl_57_0 rfl) ?_)
        refine TL.cons rfl (V1.t (V1.load1 (v := iV who) one_3 rfl (.own z_D (by rfl))) ?_)
        refine TL.cons rfl (V1.t (V1.mul (c := ((who * 1000 : Nat) : Int)) rfl rfl (by rw [wrap_i64 _ (by omega) (by omega)]; omega)) ?_)
        refine TL.cons rfl (V1.t (V1.fieldAddr fl_57_1 rfl) ?_)
        refine TL.cons rfl (V1.t (V1.load1 (v := iV epoch) one_3 rfl (.own z_D (by rfl))) ?_)
        refine TL.cons rfl (V1.t (V1.add (c := ((who * 1000 + epoch : Nat) : Int)) rfl rfl (by rw [wrap_i64 _ (by omega) (by omega)]; omega)) ?_)
        refine TL.cons rfl (T1.callV has_54 rfl rfl (rhas_any w0 Ps hry hy6 (who * 1000 + epoch)) z_B (fun v_ hv => ?_))
        obtain rfl := hv
        rw [key_in hky he]
        refine TL.cons rfl (V1.t (V1.pick rfl z_C) ?_)
        refine TL.cons rfl (V1.t (V1.assign' z_C) ?_)
        refine TL.nil ?_
        refine T.ret ?_
        exact ⟨_, G, _, .cons (.tmp z_C) .nil, z_A, rfl, by rw [hop, decide_eq_false (show ¬ (who ∈ s.bare ∧ 1 < names.length) from fun h => absurd h.2 (by omega))]; rfl⟩
    ·
      rw [decide_eq_false hwb]
      refine TL.cons rfl (V1.t (V1.move' z_C) ?_)
      refine TL.no rfl ?_
      refine TL.no rfl ?_
      refine TL.no rfl ?_
      refine TL.no rfl ?_
      refine TL.cons rfl (V1.t (V1.pick rfl z_C) ?_)
      refine TL.cons rfl (V1.t (V1.move' z_C) ?_)
      refine TL.cons rfl (V1.t (V1.move' z_C) ?_)
      refine TL.cons rfl (V1.t (V1.fieldAddr fl_57_0 rfl) ?_)
      refine TL.cons rfl (V1.t (V1.load1 (v := iV who) one_3 rfl (.own z_D (by rfl))) ?_)
      refine TL.cons rfl (V1.t (V1.mul (c := ((who * 1000 : Nat) : Int)) rfl rfl (by rw [wrap_i64 _ (by omega) (by omega)]; omega)) ?_)
      refine TL.cons rfl (V1.t (V1.fieldAddr fl_57_1 rfl) ?_)
      refine TL.cons rfl (V1.t (V1.load1 (v := iV epoch) one_3 rfl (.own z_D (by rfl))) ?_)
      refine TL.cons rfl (V1.t (V1.add (c := ((who * 1000 + epoch : Nat) : Int)) rfl rfl (by rw [wrap_i64 _ (by omega) (by omega)]; omega)) ?_)
      refine TL.cons rfl (T1.callV has_54 rfl rfl (rhas_any w0 Ps hry hy6 (who * 1000 + epoch)) z_B (fun v_ hv => ?_))
      obtain rfl := hv
      rw [key_in hky he]
      refine TL.cons rfl (V1.t (V1.pick rfl z_C) ?_)
      refine TL.cons rfl (V1.t (V1.assign' z_C) ?_)
      refine TL.nil ?_
      refine T.ret ?_
      exact ⟨_, G, _, .cons (.tmp z_C) .nil, z_A, rfl, by rw [hop, decide_eq_false (show ¬ (who ∈ s.bare ∧ 1 < names.length) from fun h => hwb h.1)]; rfl⟩

end Go.Proofs.YtlpkcbkflfbclaaGreatDoor.S
