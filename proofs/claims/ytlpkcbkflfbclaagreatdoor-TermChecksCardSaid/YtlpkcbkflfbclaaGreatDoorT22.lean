/- The document's terms: as the program's; held against each other. -/
import Derived.Test.YtlpkcbkflfbclaaGreatDoorT7
import Derived.Test.YtlpkcbkflfbclaaGreatDoorP1
namespace Go.Proofs.YtlpkcbkflfbclaaGreatDoor.S
open Go.RowKit

theorem less_cmp : ∀ a b : List UInt8, Op.bytesLess a b = decide (cmpB a b < 0)
  | [], [] => by simp [Op.bytesLess, cmpB, Go.Lib.compareBytes]
  | [], _ :: _ => by simp [Op.bytesLess, cmpB, Go.Lib.compareBytes]
  | _ :: _, [] => by simp [Op.bytesLess, cmpB, Go.Lib.compareBytes]
  | x :: a, y :: b => by
    have ih := less_cmp a b
    unfold cmpB at ih ⊢
    rw [Op.bytesLess, Go.Lib.compareBytes, ih]
    by_cases h1 : x < y
    · simp [h1]
    · by_cases h2 : y < x
      · have : ¬ x = y := by rintro rfl; exact h1 h2
        simp [h1, h2, this]
      · have : x = y := UInt8.le_antisymm (UInt8.not_lt.1 h2) (UInt8.not_lt.1 h1)
        subst this
        simp [h1]
section
variable {C : Ctx} {K : Env → List Blk → Prop} {e : Env} {L : List Blk} {dst : Option Tmp} {ty : TypeId} {pos : String} {after : Array Edge} {guard : Option (Nat × Bool)}
theorem T1.ltS_split {t yt : TypeId} {x y : Operand} {l m : List UInt8} (hx : ev C.n e x = .string (bstr l)) (hy : ev C.n e y = .string (bstr m)) (k1 : cmpB l m < 0 → K (putO e dst (.bool true)) L) (k0 : ¬ cmpB l m < 0 → K (putO e dst (.bool false)) L) : T1 C ⟨dst, .binOp .lss t x y yt, ty, pos, after, guard⟩ K e L := by
  have hl : ∀ l : List UInt8, (bstr l).toList = l := fun l => by rw [ByteArray.toList_eq]; rfl
  by_cases h : cmpB l m < 0
  · exact V1.t (V1.ltS hx hy (by rw [hl, hl, less_cmp]; exact decide_eq_true h)) (k1 h)
  · exact V1.t (V1.ltS hx hy (by rw [hl, hl, less_cmp]; exact decide_eq_false h)) (k0 h)
end
theorem cmp_kind {k k' : Int} {n n' : List UInt8} {xs ys : List Tm} (h : k ≠ k') : cmpT (.mk k n xs) (.mk k' n' ys) = if k < k' then -1 else 1 := by
  rw [cmpT]; unfold orI cmpI; split <;> (try split) <;> (try split) <;> (try split) <;> (try split) <;> omega
theorem cmp_name {k : Int} {n n' : List UInt8} {xs ys : List Tm} (h : n ≠ n') : cmpT (.mk k n xs) (.mk k n' ys) = if cmpB n n' < 0 then -1 else 1 := by
  have h0 : cmpB n n' ≠ 0 := fun e => h (cmpB_eq.1 e)
  have hr := cmpB_range n n'
  rw [cmpT, show cmpI k k = 0 from cmpI_eq.2 rfl]
  unfold orI
  simp only [ne_eq, not_true_eq_false, if_false, h0, not_false_eq_true, if_true]
  split <;> omega
theorem cmp_len {k : Int} {n : List UInt8} {xs ys : List Tm} (h : xs.length ≠ ys.length) : cmpT (.mk k n xs) (.mk k n ys) = if xs.length < ys.length then -1 else 1 := by
  rw [cmpT, show cmpI k k = 0 from cmpI_eq.2 rfl, show cmpB n n = 0 from cmpB_eq.2 rfl]
  unfold orI cmpI
  split <;> (try split) <;> (try split) <;> (try split) <;> (try split) <;> omega
theorem cmp_args {k : Int} {n : List UInt8} {xs ys : List Tm} (h : xs.length = ys.length) : cmpT (.mk k n xs) (.mk k n ys) = cmpTs xs ys := by
  rw [cmpT, show cmpI k k = 0 from cmpI_eq.2 rfl, show cmpB n n = 0 from cmpB_eq.2 rfl, show cmpI xs.length ys.length = 0 from cmpI_eq.2 (by omega)]
  rfl
def RCmpAt (w0 : World) (x : Tm) : Prop := ∀ (y : Tm) (Ps : List Blk) (cx cy : List Value), TmR w0 Ps x cx → TmR w0 Ps y cy → FnV P 16 [.agg cx.toArray, .agg cy.toArray] w0 Ps (fun v => v = .int .i64 (cmpT x y))

set_option maxRecDepth 100000 in
set_option maxHeartbeats 8000000 in
theorem RCompare_step (w0 : World) (Ps : List Blk) {kx : Int} {nx : List UInt8} {asx : List Tm} (ih : ∀ x ∈ asx, RCmpAt w0 x) (y : Tm) (cx cy : List Value) (hx : TmR w0 Ps (.mk kx nx asx) cx) (hy : TmR w0 Ps y cy) : FnV P 16 [.agg cx.toArray, .agg cy.toArray] w0 Ps (fun v => v = .int .i64 (cmpT (.mk kx nx asx) y)) := by
  obtain ⟨ky, ny, asy⟩ := y
  obtain ⟨ax, cx, vsx, rfl, hrx, hlx, htx⟩ := hx.inv
  obtain ⟨ay, cy, vsy, rfl, hry, hly, hty⟩ := hy.inv
  unfold maxN at hlx hly
  refine FnV.of 62 [.tmp 4] Go.Proofs.Tryz.func16 rfl rfl rfl rfl (fun G hG => ?_)
  refine T.seq ?_
  refine T.region ?_
  refine TL.cons rfl (T1.boxN 3 rfl rfl (fun b2 => ?_))
  refine TL.cons rfl (T1.boxN 3 rfl rfl (fun b3 => ?_))
  refine TL.cons rfl (V1.t (V1.assign' z_D) ?_)
  refine TL.nil ?_
  refine T.seq ?_
  refine T.seq ?_
  refine T.region ?_
  refine TL.cons rfl (V1.t (V1.fieldAddr fl_29_0 rfl) ?_)
  refine TL.cons rfl (V1.t (V1.load1 one_3 rfl (.own z_C (by rfl))) ?_)
  refine TL.cons rfl (V1.t (V1.fieldAddr fl_29_0 rfl) ?_)
  refine TL.cons rfl (V1.t (V1.load1 one_3 rfl (.own z_C (by rfl))) ?_)
  refine TL.cons rfl (T1.neI_split rfl rfl (fun h1 => ?_) (fun h1 => ?_))
  ·
    refine TL.nil ?_
    refine T.cond_t rfl ?_
    refine T.seq ?_
    refine T.seq ?_
    refine T.region ?_
    refine TL.cons rfl (V1.t (V1.fieldAddr fl_29_0 rfl) ?_)
    refine TL.cons rfl (V1.t (V1.load1 one_3 rfl (.own z_C (by rfl))) ?_)
    refine TL.cons rfl (V1.t (V1.fieldAddr fl_29_0 rfl) ?_)
    refine TL.cons rfl (V1.t (V1.load1 one_3 rfl (.own z_C (by rfl))) ?_)
    refine TL.cons rfl (T1.ltI_split rfl rfl (fun h2 => ?_) (fun h2 => ?_))
    ·
      refine TL.nil ?_
      refine T.cond_t rfl ?_
      refine T.seq ?_
      refine T.region ?_
      refine TL.cons rfl (V1.t (V1.assign' z_D) ?_)
      refine TL.nil ?_
      refine T.ret ?_
      exact ⟨_, G, _, .cons (.tmp z_D) .nil, z_A, rfl, congrArg (Value.int .i64) (by rw [cmp_kind h1]; first | rw [if_pos h2] | rw [if_neg (by omega)])⟩
    ·
      refine TL.nil ?_
      refine T.cond_f rfl ?_
      refine T.skip ?_
      refine T.seq ?_
      refine T.region ?_
      refine TL.cons rfl (V1.t (V1.assign' z_D) ?_)
      refine TL.nil ?_
      refine T.ret ?_
      exact ⟨_, G, _, .cons (.tmp z_D) .nil, z_A, rfl, congrArg (Value.int .i64) (by rw [cmp_kind h1]; first | rw [if_pos h2] | rw [if_neg (by omega)])⟩
  ·
    obtain rfl : kx = ky := h1
    refine TL.nil ?_
    refine T.cond_f rfl ?_
    refine T.skip ?_
    refine T.seq ?_
    refine T.seq ?_
    refine T.region ?_
    refine TL.cons rfl (V1.t (V1.fieldAddr fl_29_1 rfl) ?_)
    refine TL.cons rfl (V1.t (V1.load1 one_9 rfl (.own z_C (by rfl))) ?_)
    refine TL.cons rfl (V1.t (V1.fieldAddr fl_29_1 rfl) ?_)
    refine TL.cons rfl (V1.t (V1.load1 one_9 rfl (.own z_C (by rfl))) ?_)
    refine TL.cons rfl (T1.neS_split (l := nx) (m := ny) rfl rfl (fun h5 => ?_) (fun h5 => ?_))
    ·
      refine TL.nil ?_
      refine T.cond_t rfl ?_
      refine T.seq ?_
      refine T.seq ?_
      refine T.region ?_
      refine TL.cons rfl (V1.t (V1.fieldAddr fl_29_1 rfl) ?_)
      refine TL.cons rfl (V1.t (V1.load1 one_9 rfl (.own z_C (by rfl))) ?_)
      refine TL.cons rfl (V1.t (V1.fieldAddr fl_29_1 rfl) ?_)
      refine TL.cons rfl (V1.t (V1.load1 one_9 rfl (.own z_C (by rfl))) ?_)
      refine TL.cons rfl (T1.ltS_split (l := nx) (m := ny) rfl rfl (fun h6 => ?_) (fun h6 => ?_))
      ·
        refine TL.nil ?_
        refine T.cond_t rfl ?_
        refine T.seq ?_
        refine T.live (l := []) .nil (fun e_ => ?_)
        refine T.region ?_
        refine TL.cons rfl (V1.t (V1.assign' z_D) ?_)
        refine TL.nil ?_
        refine T.ret ?_
        exact ⟨_, G, _, .cons (.tmp z_D) .nil, z_A, rfl, congrArg (Value.int .i64) (by rw [cmp_name h5]; first | rw [if_pos h6] | rw [if_neg h6])⟩
      ·
        refine TL.nil ?_
        refine T.cond_f rfl ?_
        refine T.skip ?_
        refine T.seq ?_
        refine T.live (l := []) .nil (fun e_ => ?_)
        refine T.region ?_
        refine TL.cons rfl (V1.t (V1.assign' z_D) ?_)
        refine TL.nil ?_
        refine T.ret ?_
        exact ⟨_, G, _, .cons (.tmp z_D) .nil, z_A, rfl, congrArg (Value.int .i64) (by rw [cmp_name h5]; first | rw [if_pos h6] | rw [if_neg h6])⟩
    ·
      obtain rfl : nx = ny := h5
      refine TL.nil ?_
      refine T.cond_f rfl ?_
      refine T.skip ?_
      refine T.seq ?_
      refine T.seq ?_
      refine T.region ?_
      refine TL.cons rfl (V1.t (V1.fieldAddr fl_29_2 rfl) ?_)
      refine TL.cons rfl (V1.t (V1.load1 one_27 rfl (.own z_C (by rfl))) ?_)
      refine TL.cons rfl (V1.t (V1.lenSl ty_27 rfl) ?_)
      refine TL.cons rfl (V1.t (V1.fieldAddr fl_29_2 rfl) ?_)
      refine TL.cons rfl (V1.t (V1.load1 one_27 rfl (.own z_C (by rfl))) ?_)
      refine TL.cons rfl (V1.t (V1.lenSl ty_27 rfl) ?_)
      refine TL.cons rfl (T1.neI_split rfl rfl (fun h9 => ?_) (fun h9 => ?_))
      ·
        refine TL.nil ?_
        refine T.cond_t rfl ?_
        refine T.seq ?_
        refine T.seq ?_
        refine T.live (l := [(2, _), (3, _)]) (.cons z_D (.cons z_D .nil)) (fun e_ => ?_)
        refine T.region ?_
        refine TL.cons rfl (V1.t (V1.fieldAddr fl_29_2 rfl) ?_)
        refine TL.cons rfl (V1.t (V1.load1 one_27 rfl (.own z_C (by rfl))) ?_)
        refine TL.cons rfl (V1.t (V1.lenSl ty_27 rfl) ?_)
        refine TL.cons rfl (V1.t (V1.fieldAddr fl_29_2 rfl) ?_)
        refine TL.cons rfl (V1.t (V1.load1 one_27 rfl (.own z_C (by rfl))) ?_)
        refine TL.cons rfl (V1.t (V1.lenSl ty_27 rfl) ?_)
        refine TL.cons rfl (T1.ltI_split rfl rfl (fun h10 => ?_) (fun h10 => ?_))
        ·
          refine TL.nil ?_
          refine T.cond_t rfl ?_
          refine T.seq ?_
          refine T.region ?_
          refine TL.cons rfl (V1.t (V1.assign' z_D) ?_)
          refine TL.nil ?_
          refine T.ret ?_
          exact ⟨_, G, _, .cons (.tmp z_D) .nil, z_A, rfl, congrArg (Value.int .i64) (by rw [cmp_len (by omega)]; first | rw [if_pos (by omega)] | rw [if_neg (by omega)])⟩
        ·
          refine TL.nil ?_
          refine T.cond_f rfl ?_
          refine T.skip ?_
          refine T.seq ?_
          refine T.region ?_
          refine TL.cons rfl (V1.t (V1.assign' z_D) ?_)
          refine TL.nil ?_
          refine T.ret ?_
          exact ⟨_, G, _, .cons (.tmp z_D) .nil, z_A, rfl, congrArg (Value.int .i64) (by rw [cmp_len (by omega)]; first | rw [if_pos (by omega)] | rw [if_neg (by omega)])⟩
      ·
        have hlen : asx.length = asy.length := by omega
        refine TL.nil ?_
        refine T.cond_f rfl ?_
        refine T.skip ?_
        refine T.seq ?_
        refine T.seq ?_
        refine T.live (l := [(2, _), (3, _)]) (.cons z_D (.cons z_D .nil)) (fun e_ => ?_)
        refine T.region ?_
        refine TL.cons rfl (V1.t (V1.assign' z_D) ?_)
        refine TL.nil ?_
        refine T.block ?_
        refine T.loopL (σ := Nat) (l0 := [(2, _), (3, _)]) (fun x => [(5, .int .i64 (x : Nat))]) (fun i L => L = ⟨b3, 0, [.int .i64 kx, .string (bstr nx), .slice ay asy.length cy], 3⟩ :: ⟨b2, 0, [.int .i64 kx, .string (bstr nx), .slice ax asx.length cx], 3⟩ :: G ∧ i ≤ asx.length ∧ cmpTs asx asy = cmpTs (asx.drop i) (asy.drop i)) (fun i => asx.length - i) 0 (.cons rfl .nil) (.cons z_D (.cons z_D .nil)) z_A (⟨rfl, Nat.zero_le _, by rw [List.drop_zero, List.drop_zero]⟩) ?_
        rintro i e_ L ⟨rfl, hi, ho⟩
        refine T.seq ?_
        refine T.seq ?_
        refine T.region ?_
        refine TL.cons rfl (V1.t (V1.move' z_D) ?_)
        refine TL.cons rfl (V1.t (V1.fieldAddr fl_29_2 rfl) ?_)
        refine TL.cons rfl (V1.t (V1.load1 one_27 rfl (.own z_C (by rfl))) ?_)
        refine TL.cons rfl (V1.t (V1.lenSl ty_27 rfl) ?_)
        refine TL.cons rfl (T1.ltI_split rfl rfl (fun h14 => ?_) (fun h14 => ?_))
        ·
          obtain ⟨p, hx0⟩ : ∃ p, asx[i]? = some p := ⟨_, List.getElem?_eq_getElem (by omega)⟩
          obtain ⟨q, hy0⟩ : ∃ q, asy[i]? = some q := ⟨_, List.getElem?_eq_getElem (by omega)⟩
          have ihp := ih p (List.mem_of_getElem? hx0)
          obtain ⟨bp, op_, cs_, rfl, hp, hrdp⟩ := hrx.term htx hx0 P
          obtain ⟨kp, np, asp⟩ := p
          obtain ⟨ap, cp, vsp, rfl, hrp, hlp, htp⟩ := hp.inv
          try simp only at *
          obtain ⟨bq, oq, cs_, rfl, hq, hrdq⟩ := hry.term hty hy0 P
          obtain ⟨kq, nq, asq⟩ := q
          obtain ⟨aq, cq, vsq, rfl, hrq, hlq, htq⟩ := hq.inv
          try simp only at *
          refine TL.nil ?_
          refine T.cond_t rfl ?_
          refine T.skip ?_
          refine T.seq ?_
          refine T.block ?_
          refine T.seq ?_
          refine T.drawDet' mixed (by decide +kernel) ?_
          refine Det.cons 0 (ins := [(2, _)]) (.old z_D (by decide +kernel) .nil) (fun e_ => .inl ⟨rfl, V1.t (V1.fieldAddr fl_29_2 rfl) ⟨rfl, rfl⟩⟩) ?_
          refine Det.cons 1 (ins := [(48, _)]) (.new 0 0 (by decide +kernel) rfl rfl .nil) (fun e_ => .inl ⟨rfl, V1.t (V1.load1 one_27 rfl (.own z_C (by rfl))) ⟨rfl, rfl⟩⟩) ?_
          refine Det.cons 2 (ins := [(5, _)]) (.old z_D (by decide +kernel) .nil) (fun e_ => .inl ⟨rfl, V1.t (V1.move' z_D) ⟨rfl, rfl⟩⟩) ?_
          refine Det.cons 3 (ins := [(49, _), (50, _)]) (.new 1 1 (by decide +kernel) rfl rfl (.new 2 0 (by decide +kernel) rfl rfl .nil)) (fun e_ => .inl ⟨rfl, V1.t (V1.indexAddrS ty_27 sz_29 rfl rfl (by omega) (by omega)) ⟨rfl, rfl⟩⟩) ?_
          refine Det.cons 4 (ins := [(51, _)]) (.new 3 0 (by decide +kernel) rfl rfl .nil) (fun e_ => .inl ⟨rfl, V1.t (V1.loadN (vs := [.int .i64 kp, .string (bstr np), .slice ap asp.length cp]) one_29 sz_29 rfl (hrdp _ rfl rfl _ z_E) rfl) ⟨rfl, rfl⟩⟩) ?_
          refine Det.cons 5 (ins := [(3, _)]) (.old z_D (by decide +kernel) .nil) (fun e_ => .inl ⟨rfl, V1.t (V1.fieldAddr fl_29_2 rfl) ⟨rfl, rfl⟩⟩) ?_
          refine Det.cons 6 (ins := [(53, _)]) (.new 5 0 (by decide +kernel) rfl rfl .nil) (fun e_ => .inl ⟨rfl, V1.t (V1.load1 one_27 rfl (.own z_C (by rfl))) ⟨rfl, rfl⟩⟩) ?_
          refine Det.cons 7 (ins := [(5, _)]) (.old z_D (by decide +kernel) .nil) (fun e_ => .inl ⟨rfl, V1.t (V1.move' z_D) ⟨rfl, rfl⟩⟩) ?_
          refine Det.cons 8 (ins := [(54, _), (55, _)]) (.new 6 1 (by decide +kernel) rfl rfl (.new 7 0 (by decide +kernel) rfl rfl .nil)) (fun e_ => .inl ⟨rfl, V1.t (V1.indexAddrS ty_27 sz_29 rfl rfl (by omega) (by omega)) ⟨rfl, rfl⟩⟩) ?_
          refine Det.cons 9 (ins := [(56, _)]) (.new 8 0 (by decide +kernel) rfl rfl .nil) (fun e_ => .inl ⟨rfl, V1.t (V1.loadN (vs := [.int .i64 kq, .string (bstr nq), .slice aq asq.length cq]) one_29 sz_29 rfl (hrdq _ rfl rfl _ z_E) rfl) ⟨rfl, rfl⟩⟩) ?_
          refine Det.cons 10 (ins := [(52, _), (57, _)]) (v := .int .i64 (cmpT (.mk kp np asp) (.mk kq nq asq))) (.new 4 5 (by decide +kernel) rfl rfl (.new 9 0 (by decide +kernel) rfl rfl .nil)) (fun e_ => .inl ⟨rfl, ?_⟩) ?_
          · refine T1.callV has_16 rfl rfl (ihp _ Ps _ _ hp hq) z_E (fun v_ hv => ?_)
            obtain rfl := hv
            exact ⟨rfl, rfl⟩
          refine Det.cons 11 (ins := [(58, _)]) (.new 10 0 (by decide +kernel) rfl rfl .nil) (fun e_ => .inl ⟨rfl, V1.t (V1.assign' z_D) ⟨rfl, rfl⟩⟩) ?_
          refine Det.nil 12 (l := [(2, _), (3, _), (5, _), (6, _)]) (.old z_D (by decide +kernel) (.old z_D (by decide +kernel) (.old z_D (by decide +kernel) (.new 11 0 (by decide +kernel) rfl rfl .nil)))) (fun e_ => ?_)
          refine T.seq ?_
          refine T.region ?_
          refine TL.cons rfl (V1.t (V1.move' z_D) ?_)
          refine TL.cons rfl (T1.neI_split rfl rfl (fun h17 => ?_) (fun h17 => ?_))
          ·
            refine TL.nil ?_
            refine T.cond_t rfl ?_
            refine T.seq ?_
            refine T.region ?_
            refine TL.cons rfl (V1.t (V1.move' z_D) ?_)
            refine TL.cons rfl (V1.t (V1.assign' z_D) ?_)
            refine TL.nil ?_
            refine T.ret ?_
            exact ⟨_, G, _, .cons (.tmp z_D) .nil, z_A, rfl, congrArg (Value.int .i64) (by rw [cmp_args (by omega), ho, cmpTs_drop hx0 hy0]; unfold orI; rw [if_pos h17])⟩
          ·
            refine TL.nil ?_
            refine T.cond_f rfl ?_
            refine T.skip ?_
            refine T.region ?_
            refine TL.cons rfl (V1.t (V1.move' z_D) ?_)
            refine TL.cons rfl (V1.t (V1.add (c := ((i + 1 : Nat) : Int)) rfl rfl (by rw [wrap_i64 _ (by omega) (by omega)]; omega)) ?_)
            refine TL.cons rfl (V1.t (V1.assign' z_D) ?_)
            refine TL.nil ?_
            exact ⟨i + 1, ⟨b3, 0, [.int .i64 kx, .string (bstr nx), .slice (some ⟨bq, oq, none⟩) asy.length cy], 3⟩ :: ⟨b2, 0, [.int .i64 kx, .string (bstr nx), .slice (some ⟨bp, op_, none⟩) asx.length cx], 3⟩ :: G, _, (by simp only; omega), (.cons rfl .nil), (.cons rfl (.cons rfl .nil)), z_A, ⟨rfl, by omega, by rw [ho, cmpTs_drop hx0 hy0]; unfold orI; rw [if_neg (by simpa using h17)]⟩⟩
        ·
          obtain rfl : i = asx.length := by omega
          refine TL.nil ?_
          refine T.cond_f rfl ?_
          refine T.exit ?_
          refine T.seq ?_
          refine T.region ?_
          refine TL.cons rfl (V1.t (V1.assign' z_D) ?_)
          refine TL.nil ?_
          refine T.ret ?_
          exact ⟨_, G, _, .cons (.tmp z_D) .nil, z_A, rfl, congrArg (Value.int .i64) (by rw [cmp_args (by omega), ho, List.drop_length, hlen, List.drop_length]; rfl)⟩

theorem RCompare_any (w0 : World) (x : Tm) : RCmpAt w0 x := by
  induction x using Tm.ind with
  | h k n xs ih => exact fun y Ps cx cy hx hy => RCompare_step w0 Ps ih y cx cy hx hy
end Go.Proofs.YtlpkcbkflfbclaaGreatDoor.S
