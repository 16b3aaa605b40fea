/- Where a term stands; a term more. -/
import Derived.Test.YtlpkcbkflfbclaaDoorT23
namespace Go.Proofs.YtlpkcbkflfbclaaDoor.S
open Go.RowKit

/-- Where a term stands in a list. -/
def FndR (us : List Tm) (x : Tm) (r : Int) : Prop := (x ∉ us ∧ r = -1) ∨ ∃ i : Nat, r = i ∧ us[i]? = some x
theorem FndR.ge {us : List Tm} {x : Tm} {r : Int} (h : FndR us x r) : 0 ≤ r ↔ x ∈ us := by
  rcases h with ⟨h1, rfl⟩ | ⟨i, rfl, h2⟩
  · exact ⟨fun h => by omega, fun h => absurd h h1⟩
  · exact ⟨fun _ => List.mem_of_getElem? h2, fun _ => by omega⟩
theorem FndR.at {us : List Tm} {x : Tm} {r : Int} (h : FndR us x r) (hx : x ∈ us) : ∃ i : Nat, r = i ∧ us[i]? = some x := by
  rcases h with ⟨h1, _⟩ | h
  · exact absurd hx h1
  · exact h
def withT (us : List Tm) (x : Tm) : List Tm := if x ∈ us then us else us ++ [x]
theorem withT_mem {us : List Tm} {x y : Tm} : y ∈ withT us x ↔ y ∈ us ∨ y = x := by
  unfold withT
  split
  · exact ⟨.inl, fun h => h.elim id (fun e => e ▸ by assumption)⟩
  · simp
theorem withT_nodup {us : List Tm} {x : Tm} (h : us.Nodup) : (withT us x).Nodup := by
  unfold withT
  split
  · exact h
  · rename_i hn
    rw [List.nodup_append]
    exact ⟨h, by simp, fun a ha b hb => by rw [List.mem_singleton] at hb; subst hb; rintro rfl; exact hn ha⟩
theorem withT_len (us : List Tm) (x : Tm) : (withT us x).length ≤ us.length + 1 := by
  unfold withT; split <;> simp

set_option maxRecDepth 100000 in
set_option maxHeartbeats 8000000 in
theorem Find_any (w0 : World) (Ps : List Blk) {us : List Tm} {a : Option Addr} {c : Nat} {vs : List Value} (hr : RowR w0 Ps 3 (.slice a us.length c) us.length vs) (ht : TmsR w0 Ps us vs) (hl : us.length ≤ 1000000) (x : Tm) (cx : List Value) (hx : TmR w0 Ps x cx) : FnV P 52 [.slice a us.length c, .agg cx.toArray] w0 Ps (fun v => ∃ r, v = .int .i64 r ∧ FndR us x r) := by
  obtain ⟨kx, nx, asx⟩ := x
  obtain ⟨ax, cx, vsx, rfl, hrx, hlx, htx⟩ := hx.inv
  refine FnV.of 20 [.tmp 4] Go.Proofs.Tryd.func52 rfl rfl rfl rfl (fun G hG => ?_)
  refine T.seq ?_
  refine T.region ?_
  refine TL.cons rfl (T1.boxN 3 rfl rfl (fun b3 => ?_))
  refine TL.cons rfl (V1.t (V1.assign' (by (conv => lhs; whnf) <;> rfl)) ?_)
  refine TL.nil ?_
  refine T.seq ?_
  refine T.seq ?_
  refine T.region ?_
  refine TL.cons rfl (V1.t (V1.assign' (by (conv => lhs; whnf) <;> rfl)) ?_)
  refine TL.nil ?_
  refine T.block ?_
  refine T.loopL (σ := Nat) (l0 := [(0, _), (3, _)]) (fun x => [(5, .int .i64 (x : Nat))]) (fun i L => L = ⟨b3, 0, [.int .i64 kx, .string (bstr nx), .slice ax asx.length cx], 3⟩ :: G ∧ i ≤ us.length ∧ ∀ y ∈ us.take i, y ≠ .mk kx nx asx) (fun i => us.length - i) 0 (.cons rfl .nil) (.cons (by (conv => lhs; whnf) <;> rfl) (.cons (by (conv => lhs; whnf) <;> rfl) .nil)) (by repeat (first | exact Take.nil | apply Take.one (by repeat (first | exact Pick.here | apply Pick.there | apply Pick.far)) | apply Take.seg (by repeat (first | exact PickS.last | exact PickS.one | exact PickS.here | exact PickS.nil | apply PickS.there | apply PickS.far)) | exact Take.last (by repeat (first | exact PickS.last | exact PickS.one | exact PickS.here | exact PickS.nil | apply PickS.there | apply PickS.far)))) (⟨rfl, Nat.zero_le _, by simp⟩) ?_
  rintro i e_ L ⟨rfl, hi, ho⟩
  refine T.seq ?_
  refine T.seq ?_
  refine T.region ?_
  refine TL.cons rfl (V1.t (V1.move' (by (conv => lhs; whnf) <;> rfl)) ?_)
  refine TL.cons rfl (V1.t (V1.move' (by (conv => lhs; whnf) <;> rfl)) ?_)
  refine TL.cons rfl (V1.t (V1.lenSl ty_47 rfl) ?_)
  refine TL.cons rfl (T1.ltI_split rfl rfl (fun h2 => ?_) (fun h2 => ?_))
  ·
    obtain ⟨y, hy0⟩ : ∃ y, us[i]? = some y := ⟨_, List.getElem?_eq_getElem (by omega)⟩
    obtain ⟨b_, o_, cs_, rfl, hy, hrdy⟩ := hr.term ht hy0 P
    obtain ⟨ky, ny, asy⟩ := y
    obtain ⟨ay, cy, vsy, rfl, hry, hly, hty⟩ := hy.inv
    try simp only at *
    refine TL.nil ?_
    refine T.cond_t rfl ?_
    refine T.skip ?_
    refine T.seq ?_
    refine T.block ?_
    refine T.seq ?_
    refine T.drawDet' mixed (by decide +kernel) ?_
    refine Det.cons 0 (ins := [(0, _)]) (.old (by (conv => lhs; whnf) <;> rfl) (by decide +kernel) .nil) (fun e_ => .inl ⟨rfl, V1.t (V1.move' (by (conv => lhs; whnf) <;> rfl)) ⟨rfl, rfl⟩⟩) ?_
    refine Det.cons 1 (ins := [(5, _)]) (.old (by (conv => lhs; whnf) <;> rfl) (by decide +kernel) .nil) (fun e_ => .inl ⟨rfl, V1.t (V1.move' (by (conv => lhs; whnf) <;> rfl)) ⟨rfl, rfl⟩⟩) ?_
    refine Det.cons 2 (ins := [(12, _), (13, _)]) (.new 0 1 (by decide +kernel) rfl rfl (.new 1 0 (by decide +kernel) rfl rfl .nil)) (fun e_ => .inl ⟨rfl, V1.t (V1.indexAddrS ty_47 sz_49 rfl rfl (by omega) (by omega)) ⟨rfl, rfl⟩⟩) ?_
    refine Det.cons 3 (ins := [(14, _)]) (.new 2 0 (by decide +kernel) rfl rfl .nil) (fun e_ => .inl ⟨rfl, V1.t (V1.loadN (vs := [.int .i64 ky, .string (bstr ny), .slice ay asy.length cy]) one_49 sz_49 rfl (hrdy _ rfl rfl _ (by repeat (first | exact Inc.nil | assumption | exact Inc.refl | exact Inc.here | apply Inc.app | apply Inc.cons (by repeat (first | exact Find.here | assumption | apply Find.there | apply Find.far)) | apply Inc.skip1 | apply Inc.skip))) rfl) ⟨rfl, rfl⟩⟩) ?_
    refine Det.cons 4 (ins := [(3, _)]) (.old (by (conv => lhs; whnf) <;> rfl) (by decide +kernel) .nil) (fun e_ => .inl ⟨rfl, V1.t (V1.loadN one_49 sz_49 rfl (RdN.whole (by repeat (first | exact Find.here | assumption | apply Find.there | apply Find.far))) (by rfl)) ⟨rfl, rfl⟩⟩) ?_
    refine Det.cons 5 (ins := [(15, _), (16, _)]) (v := .int .i64 (cmpT (.mk ky ny asy) (.mk kx nx asx))) (.new 3 1 (by decide +kernel) rfl rfl (.new 4 0 (by decide +kernel) rfl rfl .nil)) (fun e_ => .inl ⟨rfl, ?_⟩) ?_
    · refine T1.callV has_51 rfl rfl (RCompare_any w0 (.mk ky ny asy) (.mk kx nx asx) Ps _ _ hy hx) (by repeat (first | exact Inc.nil | assumption | exact Inc.refl | exact Inc.here | apply Inc.app | apply Inc.cons (by repeat (first | exact Find.here | assumption | apply Find.there | apply Find.far)) | apply Inc.skip1 | apply Inc.skip)) (fun v_ hv => ?_)
      obtain rfl := hv
      exact ⟨rfl, rfl⟩
    refine Det.cons 6 (ins := [(17, _)]) (.new 5 0 (by decide +kernel) rfl rfl .nil) (fun e_ => .inl ⟨rfl, V1.t (V1.eqI (r := decide (cmpT (.mk ky ny asy) (.mk kx nx asx) = 0)) rfl rfl rfl) ⟨rfl, rfl⟩⟩) ?_
    refine Det.nil 7 (l := [(0, _), (3, _), (5, _), (18, _)]) (.old (by (conv => lhs; whnf) <;> rfl) (by decide +kernel) (.old (by (conv => lhs; whnf) <;> rfl) (by decide +kernel) (.old (by (conv => lhs; whnf) <;> rfl) (by decide +kernel) (.new 6 0 (by decide +kernel) rfl rfl .nil)))) (fun e_ => ?_)
    refine T.cond_split rfl (fun hc => ?_) (fun hc => ?_)
    ·
      refine T.seq ?_
      refine T.region ?_
      refine TL.cons rfl (V1.t (V1.move' (by (conv => lhs; whnf) <;> rfl)) ?_)
      refine TL.cons rfl (V1.t (V1.assign' (by (conv => lhs; whnf) <;> rfl)) ?_)
      refine TL.nil ?_
      refine T.ret ?_
      first | exact ⟨_, G, _, .cons (.tmp (by (conv => lhs; whnf) <;> rfl)) .nil, (by repeat (first | exact Take.nil | apply Take.one (by repeat (first | exact Pick.here | apply Pick.there | apply Pick.far)) | apply Take.seg (by repeat (first | exact PickS.last | exact PickS.one | exact PickS.here | exact PickS.nil | apply PickS.there | apply PickS.far)) | exact Take.last (by repeat (first | exact PickS.last | exact PickS.one | exact PickS.here | exact PickS.nil | apply PickS.there | apply PickS.far)))), rfl, _, rfl, .inr ⟨i, rfl, by rw [hy0, cmpT_eq.1 (of_decide_eq_true hc)]⟩⟩ | exact ⟨_, G, _, .cons (.tmp (by (conv => lhs; whnf) <;> rfl)) .nil, (by repeat (first | exact Take.nil | apply Take.one (by repeat (first | exact Pick.here | apply Pick.there | apply Pick.far)) | apply Take.seg (by repeat (first | exact PickS.last | exact PickS.one | exact PickS.here | exact PickS.nil | apply PickS.there | apply PickS.far)) | exact Take.last (by repeat (first | exact PickS.last | exact PickS.one | exact PickS.here | exact PickS.nil | apply PickS.there | apply PickS.far)))), rfl, _, rfl, .inl ⟨fun h => ho _ h rfl, rfl⟩⟩
    ·
      refine T.skip ?_
      refine T.region ?_
      refine TL.cons rfl (V1.t (V1.move' (by (conv => lhs; whnf) <;> rfl)) ?_)
      refine TL.cons rfl (V1.t (V1.add (c := ((i + 1 : Nat) : Int)) rfl rfl (by rw [wrap_i64 _ (by omega) (by omega)]; omega)) ?_)
      refine TL.cons rfl (V1.t (V1.assign' (by (conv => lhs; whnf) <;> rfl)) ?_)
      refine TL.nil ?_
      exact ⟨i + 1, ⟨b3, 0, [.int .i64 kx, .string (bstr nx), .slice ax asx.length cx], 3⟩ :: G, _, (by simp only; omega), (.cons rfl .nil), (.cons rfl (.cons rfl .nil)), (by repeat (first | exact Take.nil | apply Take.one (by repeat (first | exact Pick.here | apply Pick.there | apply Pick.far)) | apply Take.seg (by repeat (first | exact PickS.last | exact PickS.one | exact PickS.here | exact PickS.nil | apply PickS.there | apply PickS.far)) | exact Take.last (by repeat (first | exact PickS.last | exact PickS.one | exact PickS.here | exact PickS.nil | apply PickS.there | apply PickS.far)))), ⟨rfl, by omega, take_all hy0 ho (fun e => by rw [e, cmpT_self] at hc; cases hc)⟩⟩
  ·
    obtain rfl : i = us.length := by omega
    rw [List.take_length] at ho
    refine TL.nil ?_
    refine T.cond_f rfl ?_
    refine T.exit ?_
    refine T.seq ?_
    refine T.region ?_
    refine TL.cons rfl (V1.t (V1.assign' (by (conv => lhs; whnf) <;> rfl)) ?_)
    refine TL.nil ?_
    refine T.ret ?_
    first | exact ⟨_, G, _, .cons (.tmp (by (conv => lhs; whnf) <;> rfl)) .nil, (by repeat (first | exact Take.nil | apply Take.one (by repeat (first | exact Pick.here | apply Pick.there | apply Pick.far)) | apply Take.seg (by repeat (first | exact PickS.last | exact PickS.one | exact PickS.here | exact PickS.nil | apply PickS.there | apply PickS.far)) | exact Take.last (by repeat (first | exact PickS.last | exact PickS.one | exact PickS.here | exact PickS.nil | apply PickS.there | apply PickS.far)))), rfl, _, rfl, .inr ⟨i, rfl, by rw [hy0, cmpT_eq.1 (of_decide_eq_true hc)]⟩⟩ | exact ⟨_, G, _, .cons (.tmp (by (conv => lhs; whnf) <;> rfl)) .nil, (by repeat (first | exact Take.nil | apply Take.one (by repeat (first | exact Pick.here | apply Pick.there | apply Pick.far)) | apply Take.seg (by repeat (first | exact PickS.last | exact PickS.one | exact PickS.here | exact PickS.nil | apply PickS.there | apply PickS.far)) | exact Take.last (by repeat (first | exact PickS.last | exact PickS.one | exact PickS.here | exact PickS.nil | apply PickS.there | apply PickS.far)))), rfl, _, rfl, .inl ⟨fun h => ho _ h rfl, rfl⟩⟩

set_option maxRecDepth 100000 in
set_option maxHeartbeats 8000000 in
theorem with_any (w0 : World) (Ps : List Blk) {us : List Tm} {s : Value} {xs : List Value} {Ls : List Blk} (hsl : SlG (some 49) s xs 3 Ls) (hxs : TmsR w0 Ps us xs) (hl : us.length ≤ 1000000) (x : Tm) (cx : List Value) (hx : TmR w0 Ps x cx) : FnG P 96 [s, .agg cx.toArray] w0 Ps Ls (fun v Y => ∃ xs', SlG (some 49) v xs' 3 Y ∧ TmsR w0 Ps (withT us x) xs') := by
  obtain ⟨kx, nx, asx⟩ := x
  obtain ⟨ax, cx, vsx, rfl, hrx, hlx, htx⟩ := hx.inv
  obtain ⟨a, c, rfl, hrow⟩ := hsl.tm hxs
  refine FnG.of 14 [.tmp 4] Go.Proofs.Tryd.func96 rfl rfl rfl rfl (fun G hG => ?_)
  refine T.seq ?_
  refine T.region ?_
  refine TL.cons rfl (T1.boxN 3 rfl rfl (fun b3 => ?_))
  refine TL.cons rfl (V1.t (V1.assign' (by (conv => lhs; whnf) <;> rfl)) ?_)
  refine TL.nil ?_
  refine T.seq ?_
  refine T.seq ?_
  refine T.region ?_
  refine TL.cons rfl (V1.t (V1.move' (by (conv => lhs; whnf) <;> rfl)) ?_)
  refine TL.cons rfl (V1.t (V1.loadN one_49 sz_49 rfl (RdN.whole (by repeat (first | exact Find.here | assumption | apply Find.there | apply Find.far))) (by rfl)) ?_)
  refine TL.cons rfl (T1.callV has_52 rfl rfl (Find_any w0 (Ls ++ Ps) hrow (hxs.more (Inc.skip Inc.refl)) (by omega) (.mk kx nx asx) _ (hx.more (Inc.skip Inc.refl))) (by repeat (first | exact Inc.nil | assumption | exact Inc.refl | exact Inc.here | apply Inc.app | apply Inc.cons (by repeat (first | exact Find.here | assumption | apply Find.there | apply Find.far)) | apply Inc.skip1 | apply Inc.skip)) (fun v_ hv => ?_))
  obtain ⟨r, rfl, hr_⟩ := hv
  have hge := hr_.ge
  rcases Classical.em (Tm.mk kx nx asx ∈ us) with hm | hm
  ·
    refine TL.cons rfl (V1.t (V1.geI (r := true) rfl rfl (decide_eq_true (hge.2 hm))) ?_)
    refine TL.nil ?_
    refine T.cond_t rfl ?_
    refine T.seq ?_
    refine T.region ?_
    refine TL.cons rfl (V1.t (V1.move' (by (conv => lhs; whnf) <;> rfl)) ?_)
    refine TL.cons rfl (V1.t (V1.assign' (by (conv => lhs; whnf) <;> rfl)) ?_)
    refine TL.nil ?_
    refine T.ret ?_
    exact ⟨_, Ls ++ G, _, .cons (.tmp (by (conv => lhs; whnf) <;> rfl)) .nil, (by repeat (first | exact Take.nil | apply Take.one (by repeat (first | exact Pick.here | apply Pick.there | apply Pick.far)) | apply Take.seg (by repeat (first | exact PickS.last | exact PickS.one | exact PickS.here | exact PickS.nil | apply PickS.there | apply PickS.far)) | exact Take.last (by repeat (first | exact PickS.last | exact PickS.one | exact PickS.here | exact PickS.nil | apply PickS.there | apply PickS.far)))), Ls, rfl, xs, hsl, by unfold withT; rw [if_pos hm]; exact hxs⟩
  ·
    refine TL.cons rfl (V1.t (V1.geI (r := false) rfl rfl (decide_eq_false (fun h => hm (hge.1 h)))) ?_)
    refine TL.nil ?_
    refine T.cond_f rfl ?_
    refine T.skip ?_
    refine T.seq ?_
    refine T.region ?_
    refine TL.cons rfl (V1.t (V1.move' (by (conv => lhs; whnf) <;> rfl)) ?_)
    refine TL.cons rfl (V1.t (V1.loadN one_49 sz_49 rfl (RdN.whole (by repeat (first | exact Find.here | assumption | apply Find.there | apply Find.far))) (by rfl)) ?_)
    refine TL.cons rfl (T1.buildOne (cs := [.int .i64 kx, .string (bstr nx), .slice ax asx.length cx]) ty_47 sz_49 zr_49 (by decide) rfl (by rfl) (fun b12 => ?_))
    refine TL.cons rfl (T1.appendG ty_47 kd_47 sz_49 by_49 zr_49 rfl (by decide) (by decide) rfl rfl (.inr rfl) hsl (.sl (vs := [.int .i64 kx, .string (bstr nx), .slice ax asx.length cx]) (RdN.at0 (by repeat (first | exact Find.here | assumption | apply Find.there | apply Find.far))) (by rfl)) (ones rfl) 1000001 (by rw [hxs.len]; show _ + 3 ≤ _; omega) (by decide) (by repeat (first | exact PickS.last | exact PickS.one | exact PickS.here | exact PickS.nil | apply PickS.there | apply PickS.far)) (fun s2 Ls2 hsl2 => ?_))
    refine TL.cons rfl (V1.t (V1.assign' (by (conv => lhs; whnf) <;> rfl)) ?_)
    refine TL.nil ?_
    refine T.ret ?_
    exact ⟨_, Ls2 ++ G, _, .cons (.tmp (by (conv => lhs; whnf) <;> rfl)) .nil, (by repeat (first | exact Take.nil | apply Take.one (by repeat (first | exact Pick.here | apply Pick.there | apply Pick.far)) | apply Take.seg (by repeat (first | exact PickS.last | exact PickS.one | exact PickS.here | exact PickS.nil | apply PickS.there | apply PickS.far)) | exact Take.last (by repeat (first | exact PickS.last | exact PickS.one | exact PickS.here | exact PickS.nil | apply PickS.there | apply PickS.far)))), Ls2, rfl, _, hsl2, by unfold withT; rw [if_neg hm]; exact hxs.app (TmsR.one hx)⟩

end Go.Proofs.YtlpkcbkflfbclaaDoor.S
