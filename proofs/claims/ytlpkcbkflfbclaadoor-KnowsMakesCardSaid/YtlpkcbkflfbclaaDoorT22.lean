/- The document's terms: as the program's; held against each other. -/
import Derived.Test.YtlpkcbkflfbclaaDoorT15
namespace Go.Proofs.YtlpkcbkflfbclaaDoor.S
open Go.RowKit

theorem less_cmp : ∀ a b : List UInt8, Op.bytesLess a b = decide (cmpB a b < 0)
  | [], [] => by simp [Op.bytesLess, cmpB, Go.Lib.compareBytes]
  | [], _ :: _ => by simp [Op.bytesLess, cmpB, Go.Lib.compareBytes]
  | _ :: _, [] => by simp [Op.bytesLess, cmpB, Go.Lib.compareBytes]
  | x :: a, y :: b => by
    have ih := less_cmp a b
    unfold cmpB at ih ⊢
    rw [Op.bytesLess, Go.Lib.compareBytes, ih]
    by_cases h1 : x < y
    · simp [h1]
    · by_cases h2 : y < x
      · have : ¬ x = y := by rintro rfl; exact h1 h2
        simp [h1, h2, this]
      · have : x = y := UInt8.le_antisymm (UInt8.not_lt.1 h2) (UInt8.not_lt.1 h1)
        subst this
        simp [h1]
section
variable {C : Ctx} {K : Env → List Blk → Prop} {e : Env} {L : List Blk} {dst : Option Tmp} {ty : TypeId} {pos : String} {after : Array Edge} {guard : Option (Nat × Bool)}
theorem T1.ltS_split {t yt : TypeId} {x y : Operand} {l m : List UInt8} (hx : ev C.n e x = .string (bstr l)) (hy : ev C.n e y = .string (bstr m)) (k1 : cmpB l m < 0 → K (putO e dst (.bool true)) L) (k0 : ¬ cmpB l m < 0 → K (putO e dst (.bool false)) L) : T1 C ⟨dst, .binOp .lss t x y yt, ty, pos, after, guard⟩ K e L := by
  have hl : ∀ l : List UInt8, (bstr l).toList = l := fun l => by rw [ByteArray.toList_eq]; rfl
  by_cases h : cmpB l m < 0
  · exact V1.t (V1.ltS hx hy (by rw [hl, hl, less_cmp]; exact decide_eq_true h)) (k1 h)
  · exact V1.t (V1.ltS hx hy (by rw [hl, hl, less_cmp]; exact decide_eq_false h)) (k0 h)
end
theorem cmp_kind {k k' : Int} {n n' : List UInt8} {xs ys : List Tm} (h : k ≠ k') : cmpT (.mk k n xs) (.mk k' n' ys) = if k < k' then -1 else 1 := by
  rw [cmpT]; unfold orI cmpI; split <;> (try split) <;> (try split) <;> (try split) <;> (try split) <;> omega
theorem cmp_name {k : Int} {n n' : List UInt8} {xs ys : List Tm} (h : n ≠ n') : cmpT (.mk k n xs) (.mk k n' ys) = if cmpB n n' < 0 then -1 else 1 := by
  have h0 : cmpB n n' ≠ 0 := fun e => h (cmpB_eq.1 e)
  have hr := cmpB_range n n'
  rw [cmpT, show cmpI k k = 0 from cmpI_eq.2 rfl]
  unfold orI
  simp only [ne_eq, not_true_eq_false, if_false, h0, not_false_eq_true, if_true]
  split <;> omega
theorem cmp_len {k : Int} {n : List UInt8} {xs ys : List Tm} (h : xs.length ≠ ys.length) : cmpT (.mk k n xs) (.mk k n ys) = if xs.length < ys.length then -1 else 1 := by
  rw [cmpT, show cmpI k k = 0 from cmpI_eq.2 rfl, show cmpB n n = 0 from cmpB_eq.2 rfl]
  unfold orI cmpI
  split <;> (try split) <;> (try split) <;> (try split) <;> (try split) <;> omega
theorem cmp_args {k : Int} {n : List UInt8} {xs ys : List Tm} (h : xs.length = ys.length) : cmpT (.mk k n xs) (.mk k n ys) = cmpTs xs ys := by
  rw [cmpT, show cmpI k k = 0 from cmpI_eq.2 rfl, show cmpB n n = 0 from cmpB_eq.2 rfl, show cmpI xs.length ys.length = 0 from cmpI_eq.2 (by omega)]
  rfl
def RCmpAt (w0 : World) (x : Tm) : Prop := ∀ (y : Tm) (Ps : List Blk) (cx cy : List Value), TmR w0 Ps x cx → TmR w0 Ps y cy → FnV P 51 [.agg cx.toArray, .agg cy.toArray] w0 Ps (fun v => v = .int .i64 (cmpT x y))

set_option maxRecDepth 100000 in
set_option maxHeartbeats 8000000 in
theorem RCompare_step (w0 : World) (Ps : List Blk) {kx : Int} {nx : List UInt8} {asx : List Tm} (ih : ∀ x ∈ asx, RCmpAt w0 x) (y : Tm) (cx cy : List Value) (hx : TmR w0 Ps (.mk kx nx asx) cx) (hy : TmR w0 Ps y cy) : FnV P 51 [.agg cx.toArray, .agg cy.toArray] w0 Ps (fun v => v = .int .i64 (cmpT (.mk kx nx asx) y)) := by
  obtain ⟨ky, ny, asy⟩ := y
  obtain ⟨ax, cx, vsx, rfl, hrx, hlx, htx⟩ := hx.inv
  obtain ⟨ay, cy, vsy, rfl, hry, hly, hty⟩ := hy.inv
  unfold maxN at hlx hly
  refine FnV.of 62 [.tmp 4] Go.Proofs.Tryd.func51 rfl rfl rfl rfl (fun G hG => ?_)
  refine T.seq ?_
  refine T.region ?_
  refine TL.cons rfl (T1.boxN 3 rfl rfl (fun b2 => ?_))
  refine TL.cons rfl (T1.boxN 3 rfl rfl (fun b3 => ?_))
  refine TL.cons rfl (V1.t (V1.assign' (by (conv => lhs; whnf) <;> rfl)) ?_)
  refine TL.nil ?_
  refine T.seq ?_
  refine T.seq ?_
  refine T.region ?_
  refine TL.cons rfl (V1.t (V1.fieldAddr fl_49_0 rfl) ?_)
  refine TL.cons rfl (V1.t (V1.load1 one_3 rfl (.own (by repeat (first | exact Find.here | assumption | apply Find.there | apply Find.far)) (by rfl))) ?_)
  refine TL.cons rfl (V1.t (V1.fieldAddr fl_49_0 rfl) ?_)
  refine TL.cons rfl (V1.t (V1.load1 one_3 rfl (.own (by repeat (first | exact Find.here | assumption | apply Find.there | apply Find.far)) (by rfl))) ?_)
  refine TL.cons rfl (T1.neI_split rfl rfl (fun h1 => ?_) (fun h1 => ?_))
  ·
    refine TL.nil ?_
    refine T.cond_t rfl ?_
    refine T.seq ?_
    refine T.seq ?_
    refine T.region ?_
    refine TL.cons rfl (V1.t (V1.fieldAddr fl_49_0 rfl) ?_)
    refine TL.cons rfl (V1.t (V1.load1 one_3 rfl (.own (by repeat (first | exact Find.here | assumption | apply Find.there | apply Find.far)) (by rfl))) ?_)
    refine TL.cons rfl (V1.t (V1.fieldAddr fl_49_0 rfl) ?_)
    refine TL.cons rfl (V1.t (V1.load1 one_3 rfl (.own (by repeat (first | exact Find.here | assumption | apply Find.there | apply Find.far)) (by rfl))) ?_)
    refine TL.cons rfl (T1.ltI_split rfl rfl (fun h2 => ?_) (fun h2 => ?_))
    ·
      refine TL.nil ?_
      refine T.cond_t rfl ?_
      refine T.seq ?_
      refine T.region ?_
      refine TL.cons rfl (V1.t (V1.assign' (by (conv => lhs; whnf) <;> rfl)) ?_)
      refine TL.nil ?_
      refine T.ret ?_
      exact ⟨_, G, _, .cons (.tmp (by (conv => lhs; whnf) <;> rfl)) .nil, (by repeat (first | exact Take.nil | apply Take.one (by repeat (first | exact Pick.here | apply Pick.there | apply Pick.far)) | apply Take.seg (by repeat (first | exact PickS.last | exact PickS.one | exact PickS.here | exact PickS.nil | apply PickS.there | apply PickS.far)) | exact Take.last (by repeat (first | exact PickS.last | exact PickS.one | exact PickS.here | exact PickS.nil | apply PickS.there | apply PickS.far)))), rfl, congrArg (Value.int .i64) (by rw [cmp_kind h1]; first | rw [if_pos h2] | rw [if_neg (by omega)])⟩
    ·
      refine TL.nil ?_
      refine T.cond_f rfl ?_
      refine T.skip ?_
      refine T.seq ?_
      refine T.region ?_
      refine TL.cons rfl (V1.t (V1.assign' (by (conv => lhs; whnf) <;> rfl)) ?_)
      refine TL.nil ?_
      refine T.ret ?_
      exact ⟨_, G, _, .cons (.tmp (by (conv => lhs; whnf) <;> rfl)) .nil, (by repeat (first | exact Take.nil | apply Take.one (by repeat (first | exact Pick.here | apply Pick.there | apply Pick.far)) | apply Take.seg (by repeat (first | exact PickS.last | exact PickS.one | exact PickS.here | exact PickS.nil | apply PickS.there | apply PickS.far)) | exact Take.last (by repeat (first | exact PickS.last | exact PickS.one | exact PickS.here | exact PickS.nil | apply PickS.there | apply PickS.far)))), rfl, congrArg (Value.int .i64) (by rw [cmp_kind h1]; first | rw [if_pos h2] | rw [if_neg (by omega)])⟩
  ·
    obtain rfl : kx = ky := h1
    refine TL.nil ?_
    refine T.cond_f rfl ?_
    refine T.skip ?_
    refine T.seq ?_
    refine T.seq ?_
    refine T.region ?_
    refine TL.cons rfl (V1.t (V1.fieldAddr fl_49_1 rfl) ?_)
    refine TL.cons rfl (V1.t (V1.load1 one_9 rfl (.own (by repeat (first | exact Find.here | assumption | apply Find.there | apply Find.far)) (by rfl))) ?_)
    refine TL.cons rfl (V1.t (V1.fieldAddr fl_49_1 rfl) ?_)
    refine TL.cons rfl (V1.t (V1.load1 one_9 rfl (.own (by repeat (first | exact Find.here | assumption | apply Find.there | apply Find.far)) (by rfl))) ?_)
    refine TL.cons rfl (T1.neS_split (l := nx) (m := ny) rfl rfl (fun h5 => ?_) (fun h5 => ?_))
    ·
      refine TL.nil ?_
      refine T.cond_t rfl ?_
      refine T.seq ?_
      refine T.seq ?_
      refine T.region ?_
      refine TL.cons rfl (V1.t (V1.fieldAddr fl_49_1 rfl) ?_)
      refine TL.cons rfl (V1.t (V1.load1 one_9 rfl (.own (by repeat (first | exact Find.here | assumption | apply Find.there | apply Find.far)) (by rfl))) ?_)
      refine TL.cons rfl (V1.t (V1.fieldAddr fl_49_1 rfl) ?_)
      refine TL.cons rfl (V1.t (V1.load1 one_9 rfl (.own (by repeat (first | exact Find.here | assumption | apply Find.there | apply Find.far)) (by rfl))) ?_)
      refine TL.cons rfl (T1.ltS_split (l := nx) (m := ny) rfl rfl (fun h6 => ?_) (fun h6 => ?_))
      ·
        refine TL.nil ?_
        refine T.cond_t rfl ?_
        refine T.seq ?_
        refine T.live (l := []) .nil (fun e_ => ?_)
        refine T.region ?_
        refine TL.cons rfl (V1.t (V1.assign' (by (conv => lhs; whnf) <;> rfl)) ?_)
        refine TL.nil ?_
        refine T.ret ?_
        exact ⟨_, G, _, .cons (.tmp (by (conv => lhs; whnf) <;> rfl)) .nil, (by repeat (first | exact Take.nil | apply Take.one (by repeat (first | exact Pick.here | apply Pick.there | apply Pick.far)) | apply Take.seg (by repeat (first | exact PickS.last | exact PickS.one | exact PickS.here | exact PickS.nil | apply PickS.there | apply PickS.far)) | exact Take.last (by repeat (first | exact PickS.last | exact PickS.one | exact PickS.here | exact PickS.nil | apply PickS.there | apply PickS.far)))), rfl, congrArg (Value.int .i64) (by rw [cmp_name h5]; first | rw [if_pos h6] | rw [if_neg h6])⟩
      ·
        refine TL.nil ?_
        refine T.cond_f rfl ?_
        refine T.skip ?_
        refine T.seq ?_
        refine T.live (l := []) .nil (fun e_ => ?_)
        refine T.region ?_
        refine TL.cons rfl (V1.t (V1.assign' (by (conv => lhs; whnf) <;> rfl)) ?_)
        refine TL.nil ?_
        refine T.ret ?_
        exact ⟨_, G, _, .cons (.tmp (by (conv => lhs; whnf) <;> rfl)) .nil, (by repeat (first | exact Take.nil | apply Take.one (by repeat (first | exact Pick.here | apply Pick.there | apply Pick.far)) | apply Take.seg (by repeat (first | exact PickS.last | exact PickS.one | exact PickS.here | exact PickS.nil | apply PickS.there | apply PickS.far)) | exact Take.last (by repeat (first | exact PickS.last | exact PickS.one | exact PickS.here | exact PickS.nil | apply PickS.there | apply PickS.far)))), rfl, congrArg (Value.int .i64) (by rw [cmp_name h5]; first | rw [if_pos h6] | rw [if_neg h6])⟩
    ·
      obtain rfl : nx = ny := h5
      refine TL.nil ?_
      refine T.cond_f rfl ?_
      refine T.skip ?_
      refine T.seq ?_
      refine T.seq ?_
      refine T.region ?_
      refine TL.cons rfl (V1.t (V1.fieldAddr fl_49_2 rfl) ?_)
      refine TL.cons rfl (V1.t (V1.load1 one_47 rfl (.own (by repeat (first | exact Find.here | assumption | apply Find.there | apply Find.far)) (by rfl))) ?_)
      refine TL.cons rfl (V1.t (V1.lenSl ty_47 rfl) ?_)
      refine TL.cons rfl (V1.t (V1.fieldAddr fl_49_2 rfl) ?_)
      refine TL.cons rfl (V1.t (V1.load1 one_47 rfl (.own (by repeat (first | exact Find.here | assumption | apply Find.there | apply Find.far)) (by rfl))) ?_)
      refine TL.cons rfl (V1.t (V1.lenSl ty_47 rfl) ?_)
      refine TL.cons rfl (T1.neI_split rfl rfl (fun h9 => ?_) (fun h9 => ?_))
      ·
        refine TL.nil ?_
        refine T.cond_t rfl ?_
        refine T.seq ?_
        refine T.seq ?_
        refine T.live (l := [(2, _), (3, _)]) (.cons (by (conv => lhs; whnf) <;> rfl) (.cons (by (conv => lhs; whnf) <;> rfl) .nil)) (fun e_ => ?_)
        refine T.region ?_
        refine TL.cons rfl (V1.t (V1.fieldAddr fl_49_2 rfl) ?_)
        refine TL.cons rfl (V1.t (V1.load1 one_47 rfl (.own (by repeat (first | exact Find.here | assumption | apply Find.there | apply Find.far)) (by rfl))) ?_)
        refine TL.cons rfl (V1.t (V1.lenSl ty_47 rfl) ?_)
        refine TL.cons rfl (V1.t (V1.fieldAddr fl_49_2 rfl) ?_)
        refine TL.cons rfl (V1.t (V1.load1 one_47 rfl (.own (by repeat (first | exact Find.here | assumption | apply Find.there | apply Find.far)) (by rfl))) ?_)
        refine TL.cons rfl (V1.t (V1.lenSl ty_47 rfl) ?_)
        refine TL.cons rfl (T1.ltI_split rfl rfl (fun h10 => ?_) (fun h10 => ?_))
        ·
          refine TL.nil ?_
          refine T.cond_t rfl ?_
          refine T.seq ?_
          refine T.region ?_
          refine TL.cons rfl (V1.t (V1.assign' (by (conv => lhs; whnf) <;> rfl)) ?_)
          refine TL.nil ?_
          refine T.ret ?_
          exact ⟨_, G, _, .cons (.tmp (by (conv => lhs; whnf) <;> rfl)) .nil, (by repeat (first | exact Take.nil | apply Take.one (by repeat (first | exact Pick.here | apply Pick.there | apply Pick.far)) | apply Take.seg (by repeat (first | exact PickS.last | exact PickS.one | exact PickS.here | exact PickS.nil | apply PickS.there | apply PickS.far)) | exact Take.last (by repeat (first | exact PickS.last | exact PickS.one | exact PickS.here | exact PickS.nil | apply PickS.there | apply PickS.far)))), rfl, congrArg (Value.int .i64) (by rw [cmp_len (by omega)]; first | rw [if_pos (by omega)] | rw [if_neg (by omega)])⟩
        ·
          refine TL.nil ?_
          refine T.cond_f rfl ?_
          refine T.skip ?_
          refine T.seq ?_
          refine T.region ?_
          refine TL.cons rfl (V1.t (V1.assign' (by (conv => lhs; whnf) <;> rfl)) ?_)
          refine TL.nil ?_
          refine T.ret ?_
          exact ⟨_, G, _, .cons (.tmp (by (conv => lhs; whnf) <;> rfl)) .nil, (by repeat (first | exact Take.nil | apply Take.one (by repeat (first | exact Pick.here | apply Pick.there | apply Pick.far)) | apply Take.seg (by repeat (first | exact PickS.last | exact PickS.one | exact PickS.here | exact PickS.nil | apply PickS.there | apply PickS.far)) | exact Take.last (by repeat (first | exact PickS.last | exact PickS.one | exact PickS.here | exact PickS.nil | apply PickS.there | apply PickS.far)))), rfl, congrArg (Value.int .i64) (by rw [cmp_len (by omega)]; first | rw [if_pos (by omega)] | rw [if_neg (by omega)])⟩
      ·
        have hlen : asx.length = asy.length := by omega
        refine TL.nil ?_
        refine T.cond_f rfl ?_
        refine T.skip ?_
        refine T.seq ?_
        refine T.seq ?_
        refine T.live (l := [(2, _), (3, _)]) (.cons (by (conv => lhs; whnf) <;> rfl) (.cons (by (conv => lhs; whnf) <;> rfl) .nil)) (fun e_ => ?_)
        refine T.region ?_
        refine TL.cons rfl (V1.t (V1.assign' (by (conv => lhs; whnf) <;> rfl)) ?_)
        refine TL.nil ?_
        refine T.block ?_
        refine T.loopL (σ := Nat) (l0 := [(2, _), (3, _)]) (fun x => [(5, .int .i64 (x : Nat))]) (fun i L => L = ⟨b3, 0, [.int .i64 kx, .string (bstr nx), .slice ay asy.length cy], 3⟩ :: ⟨b2, 0, [.int .i64 kx, .string (bstr nx), .slice ax asx.length cx], 3⟩ :: G ∧ i ≤ asx.length ∧ cmpTs asx asy = cmpTs (asx.drop i) (asy.drop i)) (fun i => asx.length - i) 0 (.cons rfl .nil) (.cons (by (conv => lhs; whnf) <;> rfl) (.cons (by (conv => lhs; whnf) <;> rfl) .nil)) (by repeat (first | exact Take.nil | apply Take.one (by repeat (first | exact Pick.here | apply Pick.there | apply Pick.far)) | apply Take.seg (by repeat (first | exact PickS.last | exact PickS.one | exact PickS.here | exact PickS.nil | apply PickS.there | apply PickS.far)) | exact Take.last (by repeat (first | exact PickS.last | exact PickS.one | exact PickS.here | exact PickS.nil | apply PickS.there | apply PickS.far)))) (⟨rfl, Nat.zero_le _, by rw [List.drop_zero, List.drop_zero]⟩) ?_
        rintro i e_ L ⟨rfl, hi, ho⟩
        refine T.seq ?_
        refine T.seq ?_
        refine T.region ?_
        refine TL.cons rfl (V1.t (V1.move' (by (conv => lhs; whnf) <;> rfl)) ?_)
        refine TL.cons rfl (V1.t (V1.fieldAddr fl_49_2 rfl) ?_)
        refine TL.cons rfl (V1.t (V1.load1 one_47 rfl (.own (by repeat (first | exact Find.here | assumption | apply Find.there | apply Find.far)) (by rfl))) ?_)
        refine TL.cons rfl (V1.t (V1.lenSl ty_47 rfl) ?_)
        refine TL.cons rfl (T1.ltI_split rfl rfl (fun h14 => ?_) (fun h14 => ?_))
        ·
          obtain ⟨p, hx0⟩ : ∃ p, asx[i]? = some p := ⟨_, List.getElem?_eq_getElem (by omega)⟩
          obtain ⟨q, hy0⟩ : ∃ q, asy[i]? = some q := ⟨_, List.getElem?_eq_getElem (by omega)⟩
          have ihp := ih p (List.mem_of_getElem? hx0)
          obtain ⟨bp, op_, cs_, rfl, hp, hrdp⟩ := hrx.term htx hx0 P
          obtain ⟨kp, np, asp⟩ := p
          obtain ⟨ap, cp, vsp, rfl, hrp, hlp, htp⟩ := hp.inv
          try simp only at *
          obtain ⟨bq, oq, cs_, rfl, hq, hrdq⟩ := hry.term hty hy0 P
          obtain ⟨kq, nq, asq⟩ := q
          obtain ⟨aq, cq, vsq, rfl, hrq, hlq, htq⟩ := hq.inv
          try simp only at *
          refine TL.nil ?_
          refine T.cond_t rfl ?_
          refine T.skip ?_
          refine T.seq ?_
          refine T.block ?_
          refine T.seq ?_
          refine T.drawDet' mixed (by decide +kernel) ?_
          refine Det.cons 0 (ins := [(2, _)]) (.old (by (conv => lhs; whnf) <;> rfl) (by decide +kernel) .nil) (fun e_ => .inl ⟨rfl, V1.t (V1.fieldAddr fl_49_2 rfl) ⟨rfl, rfl⟩⟩) ?_
          refine Det.cons 1 (ins := [(48, _)]) (.new 0 0 (by decide +kernel) rfl rfl .nil) (fun e_ => .inl ⟨rfl, V1.t (V1.load1 one_47 rfl (.own (by repeat (first | exact Find.here | assumption | apply Find.there | apply Find.far)) (by rfl))) ⟨rfl, rfl⟩⟩) ?_
          refine Det.cons 2 (ins := [(5, _)]) (.old (by (conv => lhs; whnf) <;> rfl) (by decide +kernel) .nil) (fun e_ => .inl ⟨rfl, V1.t (V1.move' (by (conv => lhs; whnf) <;> rfl)) ⟨rfl, rfl⟩⟩) ?_
          refine Det.cons 3 (ins := [(49, _), (50, _)]) (.new 1 1 (by decide +kernel) rfl rfl (.new 2 0 (by decide +kernel) rfl rfl .nil)) (fun e_ => .inl ⟨rfl, V1.t (V1.indexAddrS ty_47 sz_49 rfl rfl (by omega) (by omega)) ⟨rfl, rfl⟩⟩) ?_
          refine Det.cons 4 (ins := [(51, _)]) (.new 3 0 (by decide +kernel) rfl rfl .nil) (fun e_ => .inl ⟨rfl, V1.t (V1.loadN (vs := [.int .i64 kp, .string (bstr np), .slice ap asp.length cp]) one_49 sz_49 rfl (hrdp _ rfl rfl _ (by repeat (first | exact Inc.nil | assumption | exact Inc.refl | exact Inc.here | apply Inc.app | apply Inc.cons (by repeat (first | exact Find.here | assumption | apply Find.there | apply Find.far)) | apply Inc.skip1 | apply Inc.skip))) rfl) ⟨rfl, rfl⟩⟩) ?_
          refine Det.cons 5 (ins := [(3, _)]) (.old (by (conv => lhs; whnf) <;> rfl) (by decide +kernel) .nil) (fun e_ => .inl ⟨rfl, V1.t (V1.fieldAddr fl_49_2 rfl) ⟨rfl, rfl⟩⟩) ?_
          refine Det.cons 6 (ins := [(53, _)]) (.new 5 0 (by decide +kernel) rfl rfl .nil) (fun e_ => .inl ⟨rfl, V1.t (V1.load1 one_47 rfl (.own (by repeat (first | exact Find.here | assumption | apply Find.there | apply Find.far)) (by rfl))) ⟨rfl, rfl⟩⟩) ?_
          refine Det.cons 7 (ins := [(5, _)]) (.old (by (conv => lhs; whnf) <;> rfl) (by decide +kernel) .nil) (fun e_ => .inl ⟨rfl, V1.t (V1.move' (by (conv => lhs; whnf) <;> rfl)) ⟨rfl, rfl⟩⟩) ?_
          refine Det.cons 8 (ins := [(54, _), (55, _)]) (.new 6 1 (by decide +kernel) rfl rfl (.new 7 0 (by decide +kernel) rfl rfl .nil)) (fun e_ => .inl ⟨rfl, V1.t (V1.indexAddrS ty_47 sz_49 rfl rfl (by omega) (by omega)) ⟨rfl, rfl⟩⟩) ?_
          refine Det.cons 9 (ins := [(56, _)]) (.new 8 0 (by decide +kernel) rfl rfl .nil) (fun e_ => .inl ⟨rfl, V1.t (V1.loadN (vs := [.int .i64 kq, .string (bstr nq), .slice aq asq.length cq]) one_49 sz_49 rfl (hrdq _ rfl rfl _ (by repeat (first | exact Inc.nil | assumption | exact Inc.refl | exact Inc.here | apply Inc.app | apply Inc.cons (by repeat (first | exact Find.here | assumption | apply Find.there | apply Find.far)) | apply Inc.skip1 | apply Inc.skip))) rfl) ⟨rfl, rfl⟩⟩) ?_
          refine Det.cons 10 (ins := [(52, _), (57, _)]) (v := .int .i64 (cmpT (.mk kp np asp) (.mk kq nq asq))) (.new 4 5 (by decide +kernel) rfl rfl (.new 9 0 (by decide +kernel) rfl rfl .nil)) (fun e_ => .inl ⟨rfl, ?_⟩) ?_
          · refine T1.callV has_51 rfl rfl (ihp _ Ps _ _ hp hq) (by repeat (first | exact Inc.nil | assumption | exact Inc.refl | exact Inc.here | apply Inc.app | apply Inc.cons (by repeat (first | exact Find.here | assumption | apply Find.there | apply Find.far)) | apply Inc.skip1 | apply Inc.skip)) (fun v_ hv => ?_)
            obtain rfl := hv
            exact ⟨rfl, rfl⟩
          refine Det.cons 11 (ins := [(58, _)]) (.new 10 0 (by decide +kernel) rfl rfl .nil) (fun e_ => .inl ⟨rfl, V1.t (V1.assign' (by (conv => lhs; whnf) <;> rfl)) ⟨rfl, rfl⟩⟩) ?_
          refine Det.nil 12 (l := [(2, _), (3, _), (5, _), (6, _)]) (.old (by (conv => lhs; whnf) <;> rfl) (by decide +kernel) (.old (by (conv => lhs; whnf) <;> rfl) (by decide +kernel) (.old (by (conv => lhs; whnf) <;> rfl) (by decide +kernel) (.new 11 0 (by decide +kernel) rfl rfl .nil)))) (fun e_ => ?_)
          refine T.seq ?_
          refine T.region ?_
          refine TL.cons rfl (V1.t (V1.move' (by (conv => lhs; whnf) <;> rfl)) ?_)
          refine TL.cons rfl (T1.neI_split rfl rfl (fun h17 => ?_) (fun h17 => ?_))
          ·
            refine TL.nil ?_
            refine T.cond_t rfl ?_
            refine T.seq ?_
            refine T.region ?_
            refine TL.cons rfl (V1.t (V1.move' (by (conv => lhs; whnf) <;> rfl)) ?_)
            refine TL.cons rfl (V1.t (V1.assign' (by (conv => lhs; whnf) <;> rfl)) ?_)
            refine TL.nil ?_
            refine T.ret ?_
            exact ⟨_, G, _, .cons (.tmp (by (conv => lhs; whnf) <;> rfl)) .nil, (by repeat (first | exact Take.nil | apply Take.one (by repeat (first | exact Pick.here | apply Pick.there | apply Pick.far)) | apply Take.seg (by repeat (first | exact PickS.last | exact PickS.one | exact PickS.here | exact PickS.nil | apply PickS.there | apply PickS.far)) | exact Take.last (by repeat (first | exact PickS.last | exact PickS.one | exact PickS.here | exact PickS.nil | apply PickS.there | apply PickS.far)))), rfl, congrArg (Value.int .i64) (by rw [cmp_args (by omega), ho, cmpTs_drop hx0 hy0]; unfold orI; rw [if_pos h17])⟩
          ·
            refine TL.nil ?_
            refine T.cond_f rfl ?_
            refine T.skip ?_
            refine T.region ?_
            refine TL.cons rfl (V1.t (V1.move' (by (conv => lhs; whnf) <;> rfl)) ?_)
            refine TL.cons rfl (V1.t (V1.add (c := ((i + 1 : Nat) : Int)) rfl rfl (by rw [wrap_i64 _ (by omega) (by omega)]; omega)) ?_)
            refine TL.cons rfl (V1.t (V1.assign' (by (conv => lhs; whnf) <;> rfl)) ?_)
            refine TL.nil ?_
            exact ⟨i + 1, ⟨b3, 0, [.int .i64 kx, .string (bstr nx), .slice (some ⟨bq, oq, none⟩) asy.length cy], 3⟩ :: ⟨b2, 0, [.int .i64 kx, .string (bstr nx), .slice (some ⟨bp, op_, none⟩) asx.length cx], 3⟩ :: G, _, (by simp only; omega), (.cons rfl .nil), (.cons rfl (.cons rfl .nil)), (by repeat (first | exact Take.nil | apply Take.one (by repeat (first | exact Pick.here | apply Pick.there | apply Pick.far)) | apply Take.seg (by repeat (first | exact PickS.last | exact PickS.one | exact PickS.here | exact PickS.nil | apply PickS.there | apply PickS.far)) | exact Take.last (by repeat (first | exact PickS.last | exact PickS.one | exact PickS.here | exact PickS.nil | apply PickS.there | apply PickS.far)))), ⟨rfl, by omega, by rw [ho, cmpTs_drop hx0 hy0]; unfold orI; rw [if_neg (by simpa using h17)]⟩⟩
        ·
          obtain rfl : i = asx.length := by omega
          refine TL.nil ?_
          refine T.cond_f rfl ?_
          refine T.exit ?_
          refine T.seq ?_
          refine T.region ?_
          refine TL.cons rfl (V1.t (V1.assign' (by (conv => lhs; whnf) <;> rfl)) ?_)
          refine TL.nil ?_
          refine T.ret ?_
          exact ⟨_, G, _, .cons (.tmp (by (conv => lhs; whnf) <;> rfl)) .nil, (by repeat (first | exact Take.nil | apply Take.one (by repeat (first | exact Pick.here | apply Pick.there | apply Pick.far)) | apply Take.seg (by repeat (first | exact PickS.last | exact PickS.one | exact PickS.here | exact PickS.nil | apply PickS.there | apply PickS.far)) | exact Take.last (by repeat (first | exact PickS.last | exact PickS.one | exact PickS.here | exact PickS.nil | apply PickS.there | apply PickS.far)))), rfl, congrArg (Value.int .i64) (by rw [cmp_args (by omega), ho, List.drop_length, hlen, List.drop_length]; rfl)⟩

theorem RCompare_any (w0 : World) (x : Tm) : RCmpAt w0 x := by
  induction x using Tm.ind with
  | h k n xs ih => exact fun y Ps cx cy hx hy => RCompare_step w0 Ps ih y cx cy hx hy
def PlainAt (w0 : World) (x : Tm) : Prop := ∀ (Ps : List Blk) (cx : List Value), TmR w0 Ps x cx → shp x = true → FnG P 29 [.agg cx.toArray] w0 Ps [] (fun v Y => ∃ cy, v = .agg cy.toArray ∧ TmR w0 (Y ++ Ps) x cy)
set_option maxRecDepth 100000 in
set_option maxHeartbeats 8000000 in
theorem plain_step (w0 : World) (Ps : List Blk) {k : Int} {nm : List UInt8} {ts : List Tm} (ih : ∀ x ∈ ts, PlainAt w0 x) (cx : List Value) (hx : TmR w0 Ps (.mk k nm ts) cx) (hsh : shp (.mk k nm ts) = true) : FnG P 29 [.agg cx.toArray] w0 Ps [] (fun v Y => ∃ cy, v = .agg cy.toArray ∧ TmR w0 (Y ++ Ps) (.mk k nm ts) cy) := by
  obtain ⟨a, c, vs, rfl, hr, hl, ht⟩ := hx.inv
  unfold maxN at hl
  have hl4 := headOk_le4 (shp_mk.1 hsh).1
  refine FnG.of 27 [.cell 2 49] Go.Proofs.Tryd.func29 rfl rfl rfl rfl (fun G hG => ?_)
  refine T.seq ?_
  refine T.region ?_
  refine TL.cons rfl (T1.boxN 3 rfl rfl (fun b1 => ?_))
  refine TL.cons rfl (T1.allocN 3 zr_49 rfl (fun b2 => ?_))
  refine TL.nil ?_
  refine T.seq ?_
  refine T.region ?_
  refine TL.cons rfl (V1.t (V1.fieldAddr fl_26_0 rfl) ?_)
  refine TL.cons rfl (V1.t (V1.load1 one_3 rfl (.own (by repeat (first | exact Find.here | assumption | apply Find.there | apply Find.far)) (by rfl))) ?_)
  refine TL.cons rfl (V1.t (V1.fieldAddr fl_26_1 rfl) ?_)
  refine TL.cons rfl (V1.t (V1.load1 one_9 rfl (.own (by repeat (first | exact Find.here | assumption | apply Find.there | apply Find.far)) (by rfl))) ?_)
  refine TL.cons rfl (V1.t (V1.buildF pl_49 zr_49 (.one rfl (by (conv => lhs; whnf) <;> rfl) rfl (.one rfl (by (conv => lhs; whnf) <;> rfl) rfl .nil)) (by repeat (first | exact FillL.nil | exact SetN.done | apply SetN.here | apply SetN.there | apply FillL.cons))) ?_)
  refine TL.cons rfl (T1.allocN 3 zr_49 rfl (fun b3 => ?_))
  refine TL.cons rfl (T1.storeN rfl rfl sz_49 (ones rfl) (by repeat (first | exact Sub.one | apply Sub.there | apply Sub.far)) (by rfl) (by rfl) ?_)
  refine TL.nil ?_
  refine T.seq ?_
  refine T.seq ?_
  refine T.region ?_
  refine TL.cons rfl (V1.t (V1.fieldAddr fl_26_2 rfl) ?_)
  refine TL.cons rfl (V1.t (V1.load1 one_23 rfl (.own (by repeat (first | exact Find.here | assumption | apply Find.there | apply Find.far)) (by rfl))) ?_)
  refine TL.cons rfl (V1.t (V1.lenSl ty_23 rfl) ?_)
  refine TL.cons rfl (V1.t (V1.move' (by (conv => lhs; whnf) <;> rfl)) ?_)
  refine TL.nil ?_
  refine T.block ?_
  refine T.loopL (σ := Nat) (l0 := [(2, _), (3, _), (12, _), (13, _)]) (fun x => [(14, .int .i64 (x : Nat))]) (fun i L => ∃ s Ls Y xs, L = ⟨b3, 0, [.int .i64 k, .string (bstr nm), s], 3⟩ :: ⟨b2, 0, [.int .i64 0, .string ⟨#[]⟩, .slice none 0 0], 3⟩ :: (Ls ++ (Y ++ G)) ∧ i ≤ ts.length ∧ SlG (some 49) s xs 3 Ls ∧ TmsR w0 (Y ++ Ps) (ts.take i) xs) (fun i => ts.length - i) 0 (.cons rfl .nil) (.cons (by (conv => lhs; whnf) <;> rfl) (.cons (by (conv => lhs; whnf) <;> rfl) (.cons (by (conv => lhs; whnf) <;> rfl) (.cons (by (conv => lhs; whnf) <;> rfl) .nil)))) (by repeat (first | exact Take.nil | apply Take.one (by repeat (first | exact Pick.here | apply Pick.there | apply Pick.far)) | apply Take.seg (by repeat (first | exact PickS.last | exact PickS.one | exact PickS.here | exact PickS.nil | apply PickS.there | apply PickS.far)) | exact Take.last (by repeat (first | exact PickS.last | exact PickS.one | exact PickS.here | exact PickS.nil | apply PickS.there | apply PickS.far)))) (⟨_, [], [], [], rfl, Nat.zero_le _, SlG.nil, TmsR.nil⟩) ?_
  rintro i e_ L ⟨s, Ls, Y, xs, rfl, hi, hsl, hxs⟩
  refine T.seq ?_
  refine T.region ?_
  refine TL.cons rfl (T1.ltI_split rfl rfl (fun h3 => ?_) (fun h3 => ?_))
  ·
    obtain ⟨x, hx0⟩ : ∃ x, ts[i]? = some x := ⟨_, List.getElem?_eq_getElem (by omega)⟩
    have hcx := ih x (List.mem_of_getElem? hx0)
    have hsx := (shp_mk.1 hsh).2 x (List.mem_of_getElem? hx0)
    have hxl := hxs.len
    rw [List.length_take] at hxl
    obtain ⟨bx, ox, cs_, rfl, hx, hrdx⟩ := hr.term ht hx0 P
    obtain ⟨kx, nx, asx⟩ := x
    obtain ⟨ax, cx, vsx, rfl, hrx, hlx, htx⟩ := hx.inv
    try simp only at *
    refine TL.nil ?_
    refine T.seq ?_
    refine T.cond_t rfl ?_
    refine T.skip ?_
    refine T.seq ?_
    refine T.block ?_
    refine T.seq ?_
    refine T.region ?_
    refine TL.cons rfl (V1.t (V1.indexAddrS ty_23 sz_26 rfl rfl (by omega) (by omega)) ?_)
    refine TL.cons rfl (V1.t (V1.loadN (vs := [.int .i64 kx, .string (bstr nx), .slice ax asx.length cx]) one_26 sz_26 rfl (hrdx _ rfl rfl _ (by repeat (first | exact Inc.nil | assumption | exact Inc.refl | exact Inc.here | apply Inc.app | apply Inc.cons (by repeat (first | exact Find.here | assumption | apply Find.there | apply Find.far)) | apply Inc.skip1 | apply Inc.skip))) rfl) ?_)
    refine TL.cons rfl (T1.allocN 3 zr_26 rfl (fun b5 => ?_))
    refine TL.cons rfl (T1.storeN rfl rfl sz_26 (ones rfl) (by repeat (first | exact Sub.one | apply Sub.there | apply Sub.far)) (by rfl) (by rfl) ?_)
    refine TL.nil ?_
    refine T.drawX (fun L_ => Find L_ ⟨b3, 0, [.int .i64 k, .string (bstr nm), s], 3⟩ ∧ Find L_ ⟨b5, 0, [.int .i64 kx, .string (bstr nx), .slice ax asx.length cx], 3⟩) 7 mixed ⟨(by repeat (first | exact Find.here | assumption | apply Find.there | apply Find.far)), (by repeat (first | exact Find.here | assumption | apply Find.there | apply Find.far))⟩ ?_
    refine TX.take 0 rfl (by decide +kernel) (by decide +kernel) (by decide +kernel) (by decide +kernel) rfl (fun _ _ _ h => h) (fun L_ ⟨k1_, k2_⟩ => V1.fieldAddr fl_49_2 rfl) ?_
    refine TX.take 1 rfl (by decide +kernel) (by decide +kernel) (by decide +kernel) (by decide +kernel) rfl (fun _ _ _ h => h) (fun L_ ⟨k1_, k2_⟩ => V1.load1 one_47 rfl (.own (by repeat (first | exact Find.here | assumption | apply Find.there | apply Find.far)) (by rfl))) ?_
    refine TX.take 2 rfl (by decide +kernel) (by decide +kernel) (by decide +kernel) (by decide +kernel) rfl (fun _ _ _ h => h) (fun L_ ⟨k1_, k2_⟩ => V1.loadN one_26 sz_26 rfl (RdN.whole (by repeat (first | exact Find.here | assumption | apply Find.there | apply Find.far))) (by rfl)) ?_
    refine TX.one 3 (by decide +kernel) rfl rfl (T1.callC has_29 rfl rfl (hcx Ps _ hx hsx) (by repeat (first | exact Inc.nil | assumption | exact Inc.refl | exact Inc.here | apply Inc.app | apply Inc.cons (by repeat (first | exact Find.here | assumption | apply Find.there | apply Find.far)) | apply Inc.skip1 | apply Inc.skip)) (fun v_ Y_ hY => ?_))
    obtain ⟨cy, rfl, hcy⟩ := hY
    refine ⟨⟨(by repeat (first | exact Find.here | assumption | apply Find.there | apply Find.far)), (by repeat (first | exact Find.here | assumption | apply Find.there | apply Find.far))⟩, ?_⟩
    refine TX.one 4 (by decide +kernel) rfl rfl (T1.buildOne (cs := cy) ty_47 sz_49 zr_49 (by decide) rfl hcy.len (fun b22 => ?_))
    refine ⟨⟨(by repeat (first | exact Find.here | assumption | apply Find.there | apply Find.far)), (by repeat (first | exact Find.here | assumption | apply Find.there | apply Find.far))⟩, ?_⟩
    refine TX.one 5 (by decide +kernel) rfl rfl (T1.appendG ty_47 kd_47 sz_49 by_49 zr_49 rfl (by decide) (by decide) rfl rfl (.inr rfl) hsl (.sl (RdN.at0 (by repeat (first | exact Find.here | assumption | apply Find.there | apply Find.far))) (by rw [hcy.len])) hcy.ones 4 (by rw [hxl, hcy.len]; omega) (by decide) (by repeat (first | exact PickS.last | exact PickS.one | exact PickS.here | exact PickS.nil | apply PickS.there | apply PickS.far)) (fun s2 Ls2 hsl2 => ?_))
    refine ⟨⟨(by repeat (first | exact Find.here | assumption | apply Find.there | apply Find.far)), (by repeat (first | exact Find.here | assumption | apply Find.there | apply Find.far))⟩, ?_⟩
    refine TX.take 6 rfl (by decide +kernel) (by decide +kernel) (by decide +kernel) (by decide +kernel) rfl (fun _ _ _ h => h) (fun L_ ⟨k1_, k2_⟩ => V1.fieldAddr fl_49_2 rfl) ?_
    refine TX.oneK (by decide +kernel) rfl rfl (T1.store1 rfl rfl sz_47 hsl2.one (by repeat (first | exact Sub.one | apply Sub.there | apply Sub.far)) (Nat.zero_le _) (by repeat (first | exact SetAt.here | apply SetAt.there)) ?_)
    refine TX.done (by decide +kernel) ?_
    refine T.region ?_
    refine TL.cons rfl (V1.t (V1.add (c := ((i + 1 : Nat) : Int)) rfl rfl (by rw [wrap_i64 _ (by omega) (by omega)]; omega)) ?_)
    refine TL.cons rfl (V1.t (V1.move' (by (conv => lhs; whnf) <;> rfl)) ?_)
    refine TL.nil ?_
    exact ⟨i + 1, ⟨b3, 0, [.int .i64 k, .string (bstr nm), s2], 3⟩ :: ⟨b2, 0, [.int .i64 0, .string ⟨#[]⟩, .slice none 0 0], 3⟩ :: (Ls2 ++ (Y_ ++ (Y ++ G))), _, (by simp only; omega), (.cons rfl .nil), (.cons rfl (.cons rfl (.cons rfl (.cons rfl .nil)))), (by repeat (first | exact Take.nil | apply Take.one (by repeat (first | exact Pick.here | apply Pick.there | apply Pick.far)) | apply Take.seg (by repeat (first | exact PickS.last | exact PickS.one | exact PickS.here | exact PickS.nil | apply PickS.there | apply PickS.far)) | exact Take.last (by repeat (first | exact PickS.last | exact PickS.one | exact PickS.here | exact PickS.nil | apply PickS.there | apply PickS.far)))), ⟨s2, Ls2, Y_ ++ Y, _, by rw [List.append_assoc], by omega, hsl2, by rw [List.take_add_one, hx0]; exact (hxs.more (by intro B_ hB_; simp only [List.mem_append, List.mem_cons, List.not_mem_nil, or_false] at hB_ ⊢; grind)).app (TmsR.one (hcy.more (by intro B_ hB_; simp only [List.mem_append, List.mem_cons, List.not_mem_nil, or_false] at hB_ ⊢; grind)))⟩⟩
  ·
    obtain rfl : i = ts.length := by omega
    rw [List.take_length] at hxs
    obtain ⟨as_, ac_, rfl, hrow⟩ := hsl.tm hxs
    refine TL.nil ?_
    refine T.seq ?_
    refine T.cond_f rfl ?_
    refine T.exit ?_
    refine T.seq ?_
    refine T.region ?_
    refine TL.cons rfl (V1.t (V1.loadN one_49 sz_49 rfl (RdN.whole (by repeat (first | exact Find.here | assumption | apply Find.there | apply Find.far))) (by rfl)) ?_)
    refine TL.cons rfl (T1.storeN rfl rfl sz_49 (ones rfl) (by repeat (first | exact Sub.one | apply Sub.there | apply Sub.far)) (by rfl) (by rfl) ?_)
    refine TL.nil ?_
    refine T.ret ?_
    exact ⟨_, Ls ++ (Y ++ G), _, .cons (.cellN (by (conv => lhs; whnf) <;> rfl) one_49 sz_49 (RdN.whole (by repeat (first | exact Find.here | assumption | apply Find.there | apply Find.far))) rfl) .nil, (by repeat (first | exact Take.nil | apply Take.one (by repeat (first | exact Pick.here | apply Pick.there | apply Pick.far)) | apply Take.seg (by repeat (first | exact PickS.last | exact PickS.one | exact PickS.here | exact PickS.nil | apply PickS.there | apply PickS.far)) | exact Take.last (by repeat (first | exact PickS.last | exact PickS.one | exact PickS.here | exact PickS.nil | apply PickS.there | apply PickS.far)))), Ls ++ Y, by rw [List.append_assoc], _, rfl, TmR.mk (hrow.more (by intro B_ hB_; simp only [List.mem_append, List.mem_cons, List.not_mem_nil, or_false] at hB_ ⊢; grind)) (by unfold maxN; omega) (hxs.more (by intro B_ hB_; simp only [List.mem_append, List.mem_cons, List.not_mem_nil, or_false] at hB_ ⊢; grind))⟩

theorem plain_any (w0 : World) (x : Tm) : PlainAt w0 x := by
  induction x using Tm.ind with
  | h k n xs ih => exact fun Ps cx hx hs => plain_step w0 Ps ih cx hx hs
end Go.Proofs.YtlpkcbkflfbclaaDoor.S
