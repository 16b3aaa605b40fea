/- A server of which anything is asked answers what the document's does; to all, or to none: walked. -/
import Derived.Test.YtijijaobialncaaR6
namespace Go.Proofs.Ytijijaobialncaa.S
open Go.RowKit

set_option maxRecDepth 100000 in
set_option maxHeartbeats 8000000 in
theorem PostPlays_us (w0 : World) {oa_ : Option Addr} {oc_ : Nat} {os : List OpP} {ocss : List (List Value)} (hos : OpsR w0 (.slice oa_ os.length oc_) os ocss) : FnV P 5 [.slice oa_ os.length oc_] w0 [] (fun v => v = .bool true) := by
  have hfew := hos.few
  refine FnV.of 42 [.tmp 2] Go.Proofs.Try.func5 rfl rfl rfl rfl (fun G hG => ?_)
  refine T.seq ?_
  refine T.region ?_
  refine TL.cons rfl (V1.t (V1.assign' z_B) ?_)
  refine TL.nil ?_
  refine T.seq ?_
  refine T.seq ?_
  refine T.region ?_
  refine TL.cons rfl (T1.callV has_8 rfl rfl (hands_any w0 []) z_F (fun v_ hv => ?_))
  obtain rfl := hv
  refine TL.cons rfl (V1.t (V1.not (r := false) rfl rfl) ?_)
  refine TL.nil ?_
  refine T.cond_f rfl ?_
  refine T.skip ?_
  refine T.seq ?_
  refine T.region ?_
  refine TL.cons rfl (T1.callC has_9 rfl rfl (New_any w0) z_F (fun v_ X0 hv => ?_))
  obtain ⟨p, rfl, hS0⟩ := hv
  refine TL.cons rfl (V1.t (V1.assign' z_B) ?_)
  refine TL.nil ?_
  refine T.seq ?_
  refine T.seq ?_
  refine T.region ?_
  refine TL.cons rfl (V1.t (V1.move' z_B) ?_)
  refine TL.cons rfl (V1.t (V1.eqPn ty_23 rfl rfl) ?_)
  refine TL.cons rfl (V1.t (V1.move' z_B) ?_)
  refine TL.cons rfl (V1.t (V1.move' z_B) ?_)
  refine TL.cons rfl (T1.callV (Ps := []) has_19 rfl rfl (lightG w0 hos) z_F (fun v_ hv => ?_))
  obtain ⟨q, rfl⟩ := hv
  rcases q with _ | _
  ·
    refine TL.cons rfl (V1.t (V1.not rfl rfl) ?_)
    refine TL.cons rfl (V1.t (V1.pick rfl z_B) ?_)
    refine TL.nil ?_
    refine T.cond_t rfl ?_
    refine T.seq ?_
    refine T.region ?_
    refine TL.cons rfl (V1.t (V1.move' z_B) ?_)
    refine TL.cons rfl (V1.t (V1.nePn ty_23 rfl rfl) ?_)
    refine TL.cons rfl (V1.t (V1.assign' z_B) ?_)
    refine TL.nil ?_
    refine T.ret ?_
    exact ⟨_, G, _, .cons (.tmp z_B) .nil, z_A, rfl, rfl⟩
  ·
    refine TL.cons rfl (V1.t (V1.not rfl rfl) ?_)
    refine TL.cons rfl (V1.t (V1.pick rfl z_B) ?_)
    refine TL.nil ?_
    refine T.cond_f rfl ?_
    refine T.skip ?_
    refine T.seq ?_
    refine T.region ?_
    refine TL.cons rfl (V1.t (V1.assign' z_B) ?_)
    refine TL.nil ?_
    refine T.seq ?_
    refine T.region ?_
    refine TL.cons rfl (V1.t (V1.assign' z_B) ?_)
    refine TL.nil ?_
    refine T.seq ?_
    refine T.seq ?_
    refine T.region ?_
    refine TL.cons rfl (V1.t (V1.move' z_B) ?_)
    refine TL.cons rfl (V1.t (V1.lenSl ty_47 rfl) ?_)
    refine TL.cons rfl (V1.t (V1.move' z_B) ?_)
    refine TL.nil ?_
    refine T.block ?_
    refine T.loopL (σ := Nat × Value × List Pr × List Pr × List Blk × List Blk) (l0 := [(3, _), (20, _), (21, _)]) (fun x => [(4, x.2.1), (22, .int .i64 ((x.1 : Nat) : Int))]) (fun x L => L = x.2.2.2.2.1 ++ (x.2.2.2.2.2 ++ G) ∧ x.1 ≤ os.length ∧ SrvO p x.2.2.1 x.2.2.2.2.1 ∧ DocR w0 x.2.2.2.2.2 x.2.1 x.2.2.2.1 ∧ Alike x.2.2.1 x.2.2.2.1) (fun x => os.length - x.1) (0, .slice none 0 0, [], [], X0, []) (.cons rfl (.cons rfl .nil)) (.cons z_B (.cons z_B (.cons z_B .nil))) z_A (⟨rfl, Nat.zero_le _, hS0, DocR.nil, ⟨List.Perm.refl _, List.Pairwise.nil⟩⟩) ?_
    rintro ⟨i, vl, ps, ds, X, Z⟩ e_ L ⟨rfl, hi, hS, hd, hal⟩
    dsimp only at hi hS hd hal
    dsimp only
    obtain ⟨css, hc⟩ := hd
    obtain ⟨la, lc, rfl⟩ := hc.row.row.form
    refine T.seq ?_
    refine T.region ?_
    refine TL.cons rfl (T1.ltI_split rfl rfl (fun h9 => ?_) (fun h9 => ?_))
    ·
      obtain ⟨o, hoi⟩ : ∃ o, os[i]? = some o := ⟨_, List.getElem?_eq_getElem (by omega)⟩
      obtain ⟨qb, qo, ocs, rfl, hop, hrq⟩ := hos.at hoi
      have hoo := hop.ones
      refine TL.nil ?_
      refine T.seq ?_
      refine T.cond_t rfl ?_
      refine T.skip ?_
      refine T.seq ?_
      refine T.block ?_
      refine T.seq ?_
      refine T.region ?_
      refine TL.cons rfl (V1.t (V1.indexAddrS ty_47 sz_51 rfl rfl (by omega) (by omega)) ?_)
      refine TL.cons rfl (V1.t (V1.loadN (vs := ocs) one_51 sz_51 rfl (hrq _ rfl rfl _) hoo.1) ?_)
      refine TL.cons rfl (T1.allocN 6 zr_51 rfl (fun b7 => ?_))
      refine TL.cons rfl (T1.storeN (vs := ocs) rfl rfl sz_51 hoo.2 z_H (by rw [hoo.1]; rfl) hoo.1 ?_)
      refine TL.nil ?_
      refine T.seq ?_
      refine T.region ?_
      refine TL.cons rfl (V1.t (V1.move' z_B) ?_)
      refine TL.cons rfl (V1.t (V1.move' z_B) ?_)
      refine TL.cons rfl (V1.t (V1.loadN (vs := ocs) one_51 sz_51 rfl (RdN.whole z_D) hoo.1) ?_)
      refine TL.cons rfl (T1.callM (Ps := Z) (X := X) has_20 rfl rfl (askG w0 hS hc hal hop) z_A z_F (fun v_ Ya hv => ?_))
      obtain ⟨l1, ps1, ds1, X1, Y1, rfl, rfl, hS1, hd1, hal1⟩ := hv
      simp only [List.append_assoc]
      obtain ⟨css1, hc1⟩ := hd1
      obtain ⟨la1, lc1, rfl⟩ := hc1.row.row.form
      refine TL.cons rfl (V1.t (V1.move' z_B) ?_)
      refine TL.cons rfl (V1.t (V1.extract rfl (by rfl)) ?_)
      refine TL.cons rfl (V1.t (V1.extract rfl (by rfl)) ?_)
      refine TL.cons rfl (V1.t (V1.assign' z_B) ?_)
      refine TL.cons rfl (V1.t (V1.assign' z_B) ?_)
      refine TL.nil ?_
      refine T.seq ?_
      refine T.region ?_
      refine TL.cons rfl (V1.t (V1.move' z_B) ?_)
      refine TL.cons rfl (V1.t (V1.not rfl rfl) ?_)
      refine TL.cons rfl (V1.t (V1.move' z_B) ?_)
      refine TL.cons rfl (V1.t (V1.move' z_B) ?_)
      refine TL.cons rfl (V1.t (V1.move' z_B) ?_)
      refine TL.cons rfl (T1.callC (Ps := X1 ++ (Y1 ++ Z)) has_21 rfl rfl (sameG w0 hS1 Inc.here (hc1.more (Inc.skip Inc.refl)) hal1) z_F (fun v_ Ys hv => ?_))
      subst hv
      refine TL.cons rfl (V1.t (V1.not rfl rfl) ?_)
      refine TL.cons rfl (V1.t (V1.pick rfl z_B) ?_)
      refine TL.nil ?_
      refine T.cond_f rfl ?_
      refine T.skip ?_
      refine T.live (l := [(3, _), (4, _), (20, _), (21, _), (22, _)]) (.cons z_B (.cons z_B (.cons z_B (.cons z_B (.cons z_B .nil))))) (fun e_ => ?_)
      refine T.region ?_
      refine TL.cons rfl (V1.t (V1.add (c := ((i + 1 : Nat) : Int)) rfl rfl (by rw [wrap_i64 _ (by omega) (by omega)]; omega)) ?_)
      refine TL.cons rfl (V1.t (V1.move' z_B) ?_)
      refine TL.nil ?_
      exact ⟨(i + 1, .slice la1 ds1.length lc1, ps1, ds1, X1, Y1 ++ Z), X1 ++ (Y1 ++ (Z ++ G)), _, (by simp only; omega), (.cons rfl (.cons rfl .nil)), (.cons rfl (.cons rfl (.cons rfl .nil))), z_A, ⟨by simp only [List.append_assoc], by simp only; omega, hS1, ⟨_, hc1⟩, hal1⟩⟩
    ·
      refine TL.nil ?_
      refine T.seq ?_
      refine T.cond_f rfl ?_
      refine T.exit ?_
      refine T.seq ?_
      refine T.region ?_
      refine TL.cons rfl (V1.t (V1.assign' z_B) ?_)
      refine TL.nil ?_
      refine T.ret ?_
      exact ⟨_, G, _, .cons (.tmp z_B) .nil, z_A, rfl, rfl⟩

end Go.Proofs.Ytijijaobialncaa.S
