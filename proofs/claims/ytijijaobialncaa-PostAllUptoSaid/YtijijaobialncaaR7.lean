/- A server of which anything is asked answers what the document's does; to all, or to none: walked. -/
import Derived.Test.YtijijaobialncaaR6
namespace Go.Proofs.Ytijijaobialncaa.S
open Go.RowKit

set_option maxRecDepth 100000 in
set_option maxHeartbeats 8000000 in
theorem PostPlays_us (w0 : World) {oa_ : Option Addr} {oc_ : Nat} {os : List OpP} {ocss : List (List Value)} (hos : OpsR w0 (.slice oa_ os.length oc_) os ocss) : FnV P 5 [.slice oa_ os.length oc_] w0 [] (fun v => v = .bool true) := by
  have hfew := hos.few
  refine FnV.of 42 [.tmp 2] Go.Proofs.Try.func5 rfl rfl rfl rfl (fun G hG => ?_)
  refine T.seq ?_
  refine T.region ?_
  refine TL.cons rfl (V1.t (V1.assign' z_B) ?_)
  refine TL.nil ?_
  refine T.seq ?_
  refine T.seq ?_
  refine T.region ?_
  refine TL.cons rfl (T1.callV has_8 rfl rfl (hands_any w0 []) z_E (fun v_ hv => ?_))
  obtain rfl := hv
  refine TL.cons rfl (V1.t (V1.not (r := false) rfl rfl) ?_)
  refine TL.nil ?_
  refine T.cond_f rfl ?_
  refine T.skip ?_
  refine T.seq ?_
  refine T.region ?_
  refine TL.cons rfl (T1.callC has_9 rfl rfl (New_any w0) z_E (fun v_ X0 hv => ?_))
  obtain ⟨p, rfl, hS0⟩ := hv
  refine TL.cons rfl (V1.t (V1.assign' z_B) ?_)
  refine TL.nil ?_
  refine T.seq ?_
  refine T.seq ?_
  refine T.region ?_
  refine TL.cons rfl (V1.t (V1.move' z_B) ?_)
  refine TL.cons rfl (V1.t (V1.eqPn ty_23 rfl rfl) ?_)
  refine TL.cons rfl (V1.t (V1.move' z_B) ?_)
  refine TL.cons rfl (V1.t (V1.move' z_B) ?_)
  refine TL.cons rfl (T1.callV (Ps := []) has_19 rfl rfl (lightG w0 hos) z_E (fun v_ hv => ?_))
  obtain ⟨q, rfl⟩ := hv
  rcases q with _ | _
  ·
    refine TL.cons rfl (V1.t (V1.not rfl rfl) ?_)
    refine TL.cons rfl (V1.t (V1.pick rfl z_B) ?_)
    refine TL.nil ?_
    refine T.cond_t rfl ?_
    refine T.seq ?_
    refine T.region ?_
    refine TL.cons rfl (V1.t (V1.move' z_B) ?_)
    refine TL.cons rfl (V1.t (V1.nePn ty_23 rfl rfl) ?_)
    refine TL.cons rfl (V1.t (V1.assign' z_B) ?_)
    refine TL.nil ?_
    refine T.ret ?_
    exact ⟨_, G, _, .cons (.tmp z_B) .nil, z_A, rfl, rfl⟩
  ·
    refine TL.cons rfl (V1.t (V1.not rfl rfl) ?_)
    refine TL.cons rfl (V1.t (V1.pick rfl z_B) ?_)
    refine TL.nil ?_
    refine T.cond_f rfl ?_
    refine T.skip ?_
    refine T.seq ?_
    refine T.region ?_
    refine TL.cons rfl (V1.t (V1.assign' z_B) ?_)
    refine TL.nil ?_
    refine T.seq ?_
    refine T.region ?_
    refine TL.cons rfl (V1.t (V1.assign' z_B) ?_)
    refine TL.nil ?_
    refine T.seq ?_
    refine T.seq ?_
    refine T.region ?_
    refine TL.cons rfl (V1.t (V1.move' z_B) ?_)
    refine TL.cons rfl (V1.t (V1.lenSl ty_47 rfl) ?_)
    refine TL.cons rfl (V1.t (V1.move' z_B) ?_)
    refine TL.nil ?_
    refine T.block ?_
    refine T.loopL (σ := Nat × Value × List Pr × List Pr × List Blk × List Blk) (l0 := [(3, _), (20, _), (21, _)]) (fun x => [(4, x.2.1), (22, .int .i64 ((x.1 : Nat) : Int))]) (fun x L => L = x.2.2.2.2.1 ++ (x.2.2.2.2.2 ++ G) ∧ x.1 ≤ os.length ∧ SrvO p x.2.2.1 x.2.2.2.2.1 ∧ DocR w0 x.2.2.2.2.2 x.2.1 x.2.2.2.1 ∧ Alike x.2.2.1 x.2.2.2.1) (fun x => os.length - x.1) (0, .slice none 0 0, [], [], X0, []) (.cons rfl (.cons rfl .nil)) (.cons z_B (.cons z_B (.cons z_B .nil))) z_A (⟨rfl, Nat.zero_le _, hS0, DocR.nil, ⟨List.Perm.refl _, List.Pairwise.nil⟩⟩) ?_
    rintro ⟨i, vl, ps, ds, X, Z⟩ e_ L ⟨rfl, hi, hS, hd, hal⟩
    dsimp only at hi hS hd hal
    dsimp only
    obtain ⟨css, hc⟩ := hd
    obtain ⟨la, lc, rfl⟩ := hc.row.row.form
    refine T.seq ?_
    refine T.region ?_
    refine TL.cons rfl (T1.ltI_split rfl rfl (fun h9 => ?_) (fun h9 => ?_))
    ·
      obtain ⟨o, hoi⟩ : ∃ o, os[i]? = some o := ⟨_, List.getElem?_eq_getElem (by omega)⟩
      obtain ⟨qb, qo, ocs, rfl, hop, hrq⟩ := hos.at hoi
      have hoo := hop.ones
      refine TL.nil ?_
      refine T.seq ?_
      refine T.cond_t rfl ?_
      refine T.skip ?_
      refine T.seq ?_
      refine T.block ?_
      refine T.seq ?_
      refine T.region ?_
      refine TL.cons rfl (V1.t (V1.indexAddrS ty_47 sz_51 rfl rfl (by omega) (by omega)) ?_)
      refine TL.cons rfl (V1.t (V1.loadN (vs := ocs) one_51 sz_51 rfl (hrq _ rfl rfl _) hoo.1) ?_)
      refine TL.cons rfl (T1.allocN 6 zr_51 rfl (fun b7 => ?_))
      refine TL.cons rfl (T1.storeN (vs := ocs) rfl rfl sz_51 hoo.2 z_H (by rw [hoo.1]; rfl) hoo.1 ?_)
      refine TL.nil ?_
      refine T.seq ?_
      refine T.region ?_
      refine TL.cons rfl (V1.t (V1.move' z_B) ?_)
      refine TL.cons rfl (V1.t (V1.move' z_B) ?_)
      refine TL.cons rfl (V1.t (V1.loadN (vs := ocs) one_51 sz_51 rfl (RdN.whole z_D) hoo.1) ?_)
      refine TL.cons rfl (T1.callM (Ps := Z) (X := X) has_20 rfl rfl (askG w0 hS hc hal hop) z_A z_E (fun v_ Ya hv => ?_))
      obtain ⟨l1, ps1, ds1, X1, Y1, rfl, rfl, hS1, hd1, hal1⟩ := hv
      simp only [List.append_assoc]
      obtain ⟨css1, hc1⟩ := hd1
      obtain ⟨la1, lc1, rfl⟩ := hc1.row.row.form
      refine TL.cons rfl (V1.t (V1.move' z_B) ?_)
      refine TL.cons rfl (V1.t (V1.extract rfl (by rfl)) ?_)
      refine TL.cons rfl (V1.t (V1.extract rfl (by rfl)) ?_)
      refine TL.cons rfl (V1.t (V1.assign' z_B) ?_)
      refine TL.cons rfl (V1.t (V1.assign' z_B) ?_)
      refine TL.nil ?_
      refine T.seq ?_
      refine T.region ?_
      refine TL.cons rfl (V1.t (V1.move' z_B) ?_)
      refine TL.cons rfl (V1.t (V1.not rfl rfl) ?_)
      refine TL.cons rfl (V1.t (V1.move' z_B) ?_)
      refine TL.cons rfl (V1.t (V1.move' z_B) ?_)
      refine TL.cons rfl (V1.t (V1.move' z_B) ?_)
      refine TL.cons rfl (T1.callC (Ps := X1 ++ (Y1 ++ Z)) has_21 rfl rfl (sameG w0 hS1 Inc.here (hc1.more (Inc.skip Inc.refl)) hal1) z_E (fun v_ Ys hv => ?_))
      subst hv
      refine TL.cons rfl (V1.t (V1.not rfl rfl) ?_)
      refine TL.cons rfl (V1.t (V1.pick rfl z_B) ?_)
      refine TL.nil ?_
      refine T.cond_f rfl ?_
      refine T.skip ?_
      refine T.live (l := [(3, _), (4, _), (20, _), (21, _), (22, _)]) (.cons z_B (.cons z_B (.cons z_B (.cons z_B (.cons z_B .nil))))) (fun e_ => ?_)
      refine T.region ?_
      refine TL.cons rfl (V1.t (V1.add (c := ((i + 1 : Nat) : Int)) rfl rfl (by rw [wrap_i64 _ (by omega) (by omega)]; omega)) ?_)
      refine TL.cons rfl (V1.t (V1.move' z_B) ?_)
      refine TL.nil ?_
      exact ⟨(i + 1, .slice la1 ds1.length lc1, ps1, ds1, X1, Y1 ++ Z), X1 ++ (Y1 ++ (Z ++ G)), _, (by simp only; omega), (.cons rfl (.cons rfl .nil)), (.cons rfl (.cons rfl (.cons rfl .nil))), z_A, ⟨by simp only [List.append_assoc], by simp only; omega, hS1, ⟨_, hc1⟩, hal1⟩⟩
    ·
      refine TL.nil ?_
      refine T.seq ?_
      refine T.cond_f rfl ?_
      refine T.exit ?_
      refine T.seq ?_
      refine T.region ?_
      refine TL.cons rfl (V1.t (V1.assign' z_B) ?_)
      refine TL.nil ?_
      refine T.ret ?_
      exact ⟨_, G, _, .cons (.tmp z_B) .nil, z_A, rfl, rfl⟩

def pA (le : List UInt8) (ns : List Nat) (ps : List Pr) : List Pr := ps.map fun d => if d.name ∈ ns then d.put le else d
theorem pA_nil (le : List UInt8) (ps : List Pr) : pA le [] ps = ps := by unfold pA; simp
theorem pA_name (le : List UInt8) (ns : List Nat) (d : Pr) : (if d.name ∈ ns then d.put le else d).name = d.name := by split <;> rfl
theorem pA_find {le : List UInt8} {ns : List Nat} {ps : List Pr} (hn : (ps.map Pr.name).Nodup) {n : Nat} {d : Pr} (h : findP ps n = some d) (hm : n ∈ ns) : findP (pA le ns ps) n = some (d.put le) := by
  obtain ⟨h1, h2⟩ := (findP_iff hn).1 h
  have hnn : ((pA le ns ps).map Pr.name).Nodup := by
    unfold pA
    rw [List.map_map, show (Pr.name ∘ fun d => if d.name ∈ ns then d.put le else d) = Pr.name from funext fun d => pA_name le ns d]
    exact hn
  refine (findP_iff hnn).2 ⟨?_, h2⟩
  unfold pA
  exact List.mem_map.2 ⟨d, h1, by rw [h2, if_pos hm]⟩
theorem pA_put {le : List UInt8} {n : Nat} {ns : List Nat} {ps : List Pr} {d : Pr} (hn : (ps.map Pr.name).Nodup) (h : findP ps n = some d) (hm : n ∉ ns) : pA le ns (setP ps (d.put le)) = pA le (n :: ns) ps := by
  obtain ⟨h1, h2⟩ := (findP_iff hn).1 h
  unfold pA setP
  rw [List.map_map]
  refine List.map_congr_left fun x hx => ?_
  show (if (if x.name = (d.put le).name then d.put le else x).name ∈ ns then (if x.name = (d.put le).name then d.put le else x).put le else (if x.name = (d.put le).name then d.put le else x)) = _
  by_cases hxn : x.name = n
  · have hxd : x = d := name_inj hn hx h1 (by rw [hxn, h2])
    subst hxd
    rw [if_pos (show x.name = (x.put le).name from rfl)]
    rw [if_neg (by show x.name ∉ ns; rw [hxn]; exact hm), if_pos (by rw [hxn]; exact List.mem_cons_self ..)]
  · rw [if_neg (show ¬ x.name = (d.put le).name by show ¬ x.name = d.name; rw [h2]; exact hxn)]
    by_cases hin : x.name ∈ ns
    · rw [if_pos hin, if_pos (List.mem_cons_of_mem _ hin)]
    · rw [if_neg hin, if_neg (by rw [List.mem_cons, not_or]; exact ⟨hxn, hin⟩)]
theorem pA_back {le : List UInt8} {n : Nat} {ns : List Nat} {ps : List Pr} {d : Pr} (hn : (ps.map Pr.name).Nodup) (h : findP ps n = some d) (hm : n ∉ ns) : setP (pA le (n :: ns) ps) d = pA le ns ps := by
  obtain ⟨h1, h2⟩ := (findP_iff hn).1 h
  unfold pA setP
  rw [List.map_map]
  refine List.map_congr_left fun x hx => ?_
  show (if (if x.name ∈ n :: ns then x.put le else x).name = d.name then d else (if x.name ∈ n :: ns then x.put le else x)) = _
  rw [pA_name]
  by_cases hxn : x.name = n
  · have hxd : x = d := name_inj hn hx h1 (by rw [hxn, h2])
    subst hxd
    rw [if_pos rfl, if_neg (by rw [hxn]; exact hm)]
  · rw [if_neg (by rw [h2]; exact hxn)]
    by_cases hin : x.name ∈ ns
    · rw [if_pos hin, if_pos (List.mem_cons_of_mem _ hin)]
    · rw [if_neg hin, if_neg (by rw [List.mem_cons, not_or]; exact ⟨hxn, hin⟩)]
theorem sendTo_pA {le : List UInt8} : ∀ {ns : List Nat} {ps : List Pr}, ns.Nodup → (ps.map Pr.name).Nodup → (∀ n ∈ ns, ∃ d, findP ps n = some d) → sendTo le ns ps = pA le ns ps
  | [], ps, _, _, _ => (pA_nil le ps).symm
  | n :: ns, ps, hd, hn, hf => by
    rw [List.nodup_cons] at hd
    obtain ⟨d, hfd⟩ := hf n (List.mem_cons_self ..)
    have hdn := ((findP_iff hn).1 hfd).2
    rw [sendTo, hfd]
    show sendTo le ns (setP ps (d.put le)) = _
    rw [sendTo_pA hd.2 (by rw [setP_names]; exact hn) (fun m hm => by
      obtain ⟨d2, h2⟩ := hf m (List.mem_cons_of_mem _ hm)
      exact ⟨d2, by rw [findP_set (by show m ≠ d.name; rw [hdn]; rintro rfl; exact hd.1 hm)]; exact h2⟩), pA_put hn hfd hd.1]
theorem pA_take {le : List UInt8} {n : Nat} {ns : List Nat} {ps : List Pr} {d : Pr} (hn : (ps.map Pr.name).Nodup) (h : findP ps n = some d) (hm : n ∉ ns) : takeP (pA le (n :: ns) ps) n (d.box.length : Nat) = (pA le ns ps, some le) := by
  have hf := pA_find (le := le) hn h (List.mem_cons_self (a := n) (l := ns))
  have hx : (d.put le).box[d.box.length]? = some le := by show (d.box ++ [le])[d.box.length]? = _; rw [List.getElem?_append_right (Nat.le_refl _), Nat.sub_self]; rfl
  rw [takeP_ok hf hx]
  have ht : (d.put le).take d.box.length = d := by
    unfold Pr.take Pr.put
    show ({ name := d.name, offer := d.offer, once := d.once, box := (d.box ++ [le]).eraseIdx d.box.length } : Pr) = d
    rw [List.eraseIdx_append_of_length_le (Nat.le_refl _), Nat.sub_self]
    simp
  rw [ht, pA_back hn h hm]
theorem sendP_fail {ps : List Pr} {n : Nat} {l : List UInt8} {ns : List Nat} (h : (sendP ps n l ns).2 ≠ 0) : (sendP ps n l ns).1 = ps := by
  cases hf : findP ps n with
  | none => rw [sendP_none hf]
  | some d =>
    cases he : (envF n l).enc with
    | error e => rw [sendP_err hf he]
    | ok le =>
      by_cases hb : sendBad ps le.length [] ns = 0
      · rw [sendP_ok hf he hb] at h; exact absurd rfl h
      · rw [sendP_bad hf he rfl hb]
theorem sendP_zero {ps : List Pr} {n : Nat} {l : List UInt8} {ns : List Nat} (h : (sendP ps n l ns).2 = 0) : ∃ d le, findP ps n = some d ∧ (envF n l).enc = .ok le ∧ (sendP ps n l ns).1 = sendTo le ns ps := by
  cases hf : findP ps n with
  | none => rw [sendP_none hf] at h; cases h
  | some d =>
    cases he : (envF n l).enc with
    | error e => rw [sendP_err hf he] at h; rcases enc_errs he with rfl | rfl <;> cases h
    | ok le =>
      by_cases hb : sendBad ps le.length [] ns = 0
      · exact ⟨d, le, rfl, rfl, by rw [sendP_ok hf he hb]⟩
      · rw [sendP_bad hf he rfl hb] at h; exact absurd h hb
def wkv (f : Nat → Nat) (ns : List Nat) : List (Value × Value) := ns.map fun n => (u32V n, .int .i64 (f n : Nat))
theorem wkv_now (f : Nat → Nat) (ns : List Nat) (n : Nat) : ∀ p ∈ wkv f ns, Instr.sameNow (.int .u32) (u32V n) p.1 = some (qU n p.1) := by
  intro p hp
  obtain ⟨x, _, rfl⟩ := List.mem_map.1 hp
  rfl
theorem wkv_bits (f : Nat → Nat) (ns : List Nat) (n : Nat) : ∀ p ∈ wkv f ns, qU n p.1 = true → Instr.sameBits 10000 p.1 (u32V n) = true := by
  intro p hp h
  obtain ⟨x, _, rfl⟩ := List.mem_map.1 hp
  have : (n : Int) = (x : Nat) := by simpa [qU, u32V] using h
  have h2 : n = x := by omega
  subst h2
  simp [Instr.sameBits, u32V]
theorem wkv_none {f : Nat → Nat} {n : Nat} : ∀ {ns : List Nat} {i : Nat}, n ∉ ns → findQ (qU n) (wkv f ns) i = none
  | [], _, _ => rfl
  | m :: ns, i, h => by
    rw [List.mem_cons, not_or] at h
    show findQ (qU n) ((u32V m, _) :: wkv f ns) i = none
    rw [findQ, if_neg (by show ¬ ((n : Int) == (m : Nat)) = true; rw [beq_iff_eq]; omega)]
    exact wkv_none h.2
theorem wkv_upd {f : Nat → Nat} {n : Nat} {ns : List Nat} (h : n ∉ ns) : updQ (qU n) (wkv f ns) (u32V n) (.int .i64 (f n : Nat)) = wkv f (ns ++ [n]) := by
  unfold updQ
  rw [wkv_none h]
  unfold wkv
  rw [List.map_append]; rfl
theorem wkv_find {f : Nat → Nat} {n : Nat} : ∀ {ns : List Nat} {i : Nat}, n ∈ ns → ((findQ (qU n) (wkv f ns) i).map (·.2)).getD (.int .i64 0) = .int .i64 (f n : Nat)
  | m :: ns, i, h => by
    show ((findQ (qU n) ((u32V m, _) :: wkv f ns) i).map (·.2)).getD _ = _
    rw [findQ]
    by_cases hm : n = m
    · subst hm
      rw [if_pos (by show ((n : Int) == (n : Nat)) = true; simp)]; rfl
    · rw [if_neg (by show ¬ ((n : Int) == (m : Nat)) = true; rw [beq_iff_eq]; omega)]
      exact wkv_find (by rcases List.mem_cons.1 h with h | h; exact absurd h hm; exact h)
theorem nd_split {ns : List Nat} (h : ns.Nodup) {i y : Nat} (hy : ns[i]? = some y) : y ∉ ns.take i ∧ y ∉ ns.drop (i + 1) := by
  obtain ⟨hl, hg⟩ := List.getElem?_eq_some_iff.1 hy
  have hs : ns = ns.take i ++ y :: ns.drop (i + 1) := by rw [← hg, ← List.drop_eq_getElem_cons hl, List.take_append_drop]
  rw [hs, List.nodup_append, List.nodup_cons] at h
  exact ⟨fun hm => h.2.2 y hm y (List.mem_cons_self ..) rfl, h.2.1.1⟩
set_option maxRecDepth 100000 in
set_option maxHeartbeats 8000000 in
theorem PostAll_us (w0 : World) {oa_ : Option Addr} {oc_ : Nat} {os : List OpP} {ocss : List (List Value)} (hos : OpsR w0 (.slice oa_ os.length oc_) os ocss) (src : Nat) (hsrc : src < 4294967296) {vb : Value} {l : List UInt8} (hb : RowS w0 [] 1 vb l.length (l.map byteV)) : FnV P 6 [.slice oa_ os.length oc_, u32V src, vb] w0 [] (fun v => v = .bool true) := by
  have hfew := hos.few
  obtain ⟨ba, bc, rfl⟩ := hb.row.form
  refine FnV.of 129 [.tmp 6] Go.Proofs.Try.func6 rfl rfl rfl rfl (fun G hG => ?_)
  refine T.seq ?_
  refine T.region ?_
  refine TL.cons rfl (V1.t (V1.assign' z_B) ?_)
  refine TL.nil ?_
  refine T.seq ?_
  refine T.seq ?_
  refine T.region ?_
  refine TL.cons rfl (T1.callV has_8 rfl rfl (hands_any w0 []) z_E (fun v_ hv => ?_))
  obtain rfl := hv
  refine TL.cons rfl (V1.t (V1.not (r := false) rfl rfl) ?_)
  refine TL.nil ?_
  refine T.cond_f rfl ?_
  refine T.skip ?_
  refine T.seq ?_
  refine T.region ?_
  refine TL.cons rfl (T1.callC has_9 rfl rfl (New_any w0) z_E (fun v_ X0 hv => ?_))
  obtain ⟨p, rfl, hS0⟩ := hv
  refine TL.cons rfl (V1.t (V1.assign' z_B) ?_)
  refine TL.nil ?_
  refine T.seq ?_
  refine T.seq ?_
  refine T.region ?_
  refine TL.cons rfl (V1.t (V1.move' z_B) ?_)
  refine TL.cons rfl (V1.t (V1.eqPn ty_23 rfl rfl) ?_)
  refine TL.cons rfl (V1.t (V1.move' z_B) ?_)
  refine TL.cons rfl (V1.t (V1.move' z_B) ?_)
  refine TL.cons rfl (T1.callV (Ps := []) has_19 rfl rfl (lightG w0 hos) z_E (fun v_ hv => ?_))
  obtain ⟨q, rfl⟩ := hv
  rcases q with _ | _
  ·
    refine TL.cons rfl (V1.t (V1.not rfl rfl) ?_)
    refine TL.cons rfl (V1.t (V1.pick rfl z_B) ?_)
    refine TL.cons rfl (V1.t (V1.move' z_B) ?_)
    refine TL.no rfl ?_
    refine TL.no rfl ?_
    refine TL.no rfl ?_
    refine TL.cons rfl (V1.t (V1.pick rfl z_B) ?_)
    refine TL.nil ?_
    refine T.cond_t rfl ?_
    refine T.seq ?_
    refine T.live (l := [(7, _)]) (.cons z_B .nil) (fun e_ => ?_)
    refine T.region ?_
    refine TL.cons rfl (V1.t (V1.move' z_B) ?_)
    refine TL.cons rfl (V1.t (V1.nePn ty_23 rfl rfl) ?_)
    refine TL.cons rfl (V1.t (V1.assign' z_B) ?_)
    refine TL.nil ?_
    refine T.ret ?_
    exact ⟨_, G, _, .cons (.tmp z_B) .nil, z_A, rfl, rfl⟩
  ·
    refine TL.cons rfl (V1.t (V1.not rfl rfl) ?_)
    refine TL.cons rfl (V1.t (V1.pick rfl z_B) ?_)
    refine TL.cons rfl (V1.t (V1.move' z_B) ?_)
    refine TL.cons rfl (V1.t (V1.move' z_B) ?_)
    refine TL.cons rfl (V1.t (V1.lenSl ty_29 rfl) ?_)
    refine TL.cons rfl (T1.gtI_split rfl rfl (fun h4_10 => ?_) (fun h4_10 => ?_))
    ·
      refine TL.cons rfl (V1.t (V1.pick rfl z_B) ?_)
      refine TL.nil ?_
      refine T.cond_t rfl ?_
      refine T.seq ?_
      refine T.live (l := [(7, _)]) (.cons z_B .nil) (fun e_ => ?_)
      refine T.region ?_
      refine TL.cons rfl (V1.t (V1.move' z_B) ?_)
      refine TL.cons rfl (V1.t (V1.nePn ty_23 rfl rfl) ?_)
      refine TL.cons rfl (V1.t (V1.assign' z_B) ?_)
      refine TL.nil ?_
      refine T.ret ?_
      exact ⟨_, G, _, .cons (.tmp z_B) .nil, z_A, rfl, rfl⟩
    ·
      refine TL.cons rfl (V1.t (V1.pick rfl z_B) ?_)
      refine TL.nil ?_
      refine T.cond_f rfl ?_
      refine T.skip ?_
      refine T.seq ?_
      refine T.live (l := [(0, _), (1, _), (2, _), (7, _)]) (.cons z_B (.cons z_B (.cons z_B (.cons z_B .nil)))) (fun e_ => ?_)
      refine T.region ?_
      refine TL.cons rfl (V1.t (V1.assign' z_B) ?_)
      refine TL.nil ?_
      refine T.seq ?_
      refine T.region ?_
      refine TL.cons rfl (V1.t (V1.assign' z_B) ?_)
      refine TL.nil ?_
      refine T.seq ?_
      refine T.seq ?_
      refine T.region ?_
      refine TL.cons rfl (V1.t (V1.move' z_B) ?_)
      refine TL.cons rfl (V1.t (V1.lenSl ty_47 rfl) ?_)
      refine TL.cons rfl (V1.t (V1.move' z_B) ?_)
      refine TL.nil ?_
      refine T.block ?_
      refine T.loopL (σ := Nat × Value × List Pr × List Pr × List Blk × List Blk) (l0 := [(1, _), (2, _), (7, _), (40, _), (41, _)]) (fun x => [(8, x.2.1), (42, .int .i64 ((x.1 : Nat) : Int))]) (fun x L => L = x.2.2.2.2.1 ++ (x.2.2.2.2.2 ++ G) ∧ x.1 ≤ os.length ∧ SrvO p x.2.2.1 x.2.2.2.2.1 ∧ DocR w0 x.2.2.2.2.2 x.2.1 x.2.2.2.1 ∧ Alike x.2.2.1 x.2.2.2.1) (fun x => os.length - x.1) (0, .slice none 0 0, [], [], X0, []) (.cons rfl (.cons rfl .nil)) (.cons z_B (.cons z_B (.cons z_B (.cons z_B (.cons z_B .nil))))) z_A (⟨rfl, Nat.zero_le _, hS0, DocR.nil, ⟨List.Perm.refl _, List.Pairwise.nil⟩⟩) ?_
      rintro ⟨i, vl, ps, ds, X, Z⟩ e_ L ⟨rfl, hi, hS, hd, hal⟩
      dsimp only at hi hS hd hal
      dsimp only
      obtain ⟨css, hc⟩ := hd
      obtain ⟨la, lc, rfl⟩ := hc.row.row.form
      refine T.seq ?_
      refine T.region ?_
      refine TL.cons rfl (T1.ltI_split rfl rfl (fun h9 => ?_) (fun h9 => ?_))
      ·
        obtain ⟨o, hoi⟩ : ∃ o, os[i]? = some o := ⟨_, List.getElem?_eq_getElem (by omega)⟩
        obtain ⟨qb, qo, ocs, rfl, hop, hrq⟩ := hos.at hoi
        have hoo := hop.ones
        refine TL.nil ?_
        refine T.seq ?_
        refine T.cond_t rfl ?_
        refine T.skip ?_
        refine T.seq ?_
        refine T.block ?_
        refine T.seq ?_
        refine T.region ?_
        refine TL.cons rfl (V1.t (V1.indexAddrS ty_47 sz_51 rfl rfl (by omega) (by omega)) ?_)
        refine TL.cons rfl (V1.t (V1.loadN (vs := ocs) one_51 sz_51 rfl (hrq _ rfl rfl _) hoo.1) ?_)
        refine TL.cons rfl (T1.allocN 6 zr_51 rfl (fun b7 => ?_))
        refine TL.cons rfl (T1.storeN (vs := ocs) rfl rfl sz_51 hoo.2 z_H (by rw [hoo.1]; rfl) hoo.1 ?_)
        refine TL.nil ?_
        refine T.seq ?_
        refine T.region ?_
        refine TL.cons rfl (V1.t (V1.move' z_B) ?_)
        refine TL.cons rfl (V1.t (V1.move' z_B) ?_)
        refine TL.cons rfl (V1.t (V1.loadN (vs := ocs) one_51 sz_51 rfl (RdN.whole z_D) hoo.1) ?_)
        refine TL.cons rfl (T1.callM (Ps := Z) (X := X) has_20 rfl rfl (askG w0 hS hc hal hop) z_A z_E (fun v_ Ya hv => ?_))
        obtain ⟨l1, ps1, ds1, X1, Y1, rfl, rfl, hS1, hd1, hal1⟩ := hv
        simp only [List.append_assoc]
        obtain ⟨css1, hc1⟩ := hd1
        obtain ⟨la1, lc1, rfl⟩ := hc1.row.row.form
        refine TL.cons rfl (V1.t (V1.move' z_B) ?_)
        refine TL.cons rfl (V1.t (V1.extract rfl (by rfl)) ?_)
        refine TL.cons rfl (V1.t (V1.extract rfl (by rfl)) ?_)
        refine TL.cons rfl (V1.t (V1.assign' z_B) ?_)
        refine TL.cons rfl (V1.t (V1.assign' z_B) ?_)
        refine TL.nil ?_
        refine T.seq ?_
        refine T.region ?_
        refine TL.cons rfl (V1.t (V1.move' z_B) ?_)
        refine TL.cons rfl (V1.t (V1.not (r := false) rfl rfl) ?_)
        refine TL.nil ?_
        refine T.cond_f rfl ?_
        refine T.skip ?_
        refine T.live (l := [(1, _), (2, _), (7, _), (8, _), (40, _), (41, _), (42, _)]) (.cons z_B (.cons z_B (.cons z_B (.cons z_B (.cons z_B (.cons z_B (.cons z_B .nil))))))) (fun e_ => ?_)
        refine T.region ?_
        refine TL.cons rfl (V1.t (V1.add (c := ((i + 1 : Nat) : Int)) rfl rfl (by rw [wrap_i64 _ (by omega) (by omega)]; omega)) ?_)
        refine TL.cons rfl (V1.t (V1.move' z_B) ?_)
        refine TL.nil ?_
        exact ⟨(i + 1, .slice la1 ds1.length lc1, ps1, ds1, X1, Y1 ++ Z), X1 ++ (Y1 ++ (Z ++ G)), _, (by simp only; omega), (.cons rfl (.cons rfl .nil)), (.cons rfl (.cons rfl (.cons rfl (.cons rfl (.cons rfl .nil))))), z_A, ⟨by simp only [List.append_assoc], by simp only; omega, hS1, ⟨_, hc1⟩, hal1⟩⟩
      ·
        refine TL.nil ?_
        refine T.seq ?_
        refine T.cond_f rfl ?_
        refine T.exit ?_
        refine T.seq ?_
        refine T.region ?_
        refine TL.cons rfl (V1.t (V1.move' z_B) ?_)
        refine TL.cons rfl (T1.callC (Ps := X) has_22 rfl rfl (People_any w0 hS hS.ok.few) z_E (fun v_ Yp hv => ?_))
        obtain ⟨ns, hpp, hpw, hsl⟩ := hv
        have hok := hS.ok
        have hnd : ns.Nodup := hpp.nodup_iff.2 hok.names
        have hnl : ns.length ≤ 64 := by rw [hpp.length_eq, List.length_map]; exact hok.few
        obtain ⟨pa, pc, rfl⟩ := hsl.of (n := ns.length) (by simp) (by decide)
        have hall : ∀ n ∈ ns, ∃ d, findP ps n = some d := fun n hn => by obtain ⟨d, hd1, hd2⟩ := List.mem_map.1 (hpp.mem_iff.1 hn); exact ⟨d, (findP_iff hok.names).2 ⟨hd1, hd2⟩⟩
        refine TL.cons rfl (V1.t (V1.assign' z_B) ?_)
        refine TL.nil ?_
        refine T.seq ?_
        refine T.region ?_
        refine TL.cons rfl (T1.makeMap (fun bm => ?_))
        refine TL.cons rfl (V1.t (V1.assign' z_B) ?_)
        refine TL.nil ?_
        refine T.seq ?_
        refine T.seq ?_
        refine T.region ?_
        refine TL.cons rfl (V1.t (V1.move' z_B) ?_)
        refine TL.cons rfl (V1.t (V1.lenSl ty_36 rfl) ?_)
        refine TL.cons rfl (V1.t (V1.move' z_B) ?_)
        refine TL.nil ?_
        refine T.block ?_
        refine T.loopL (σ := Nat) (l0 := [(1, _), (2, _), (7, _), (12, _), (13, _), (59, _), (60, _)]) (fun x => [(61, .int .i64 ((x : Nat) : Int))]) (fun i L => L = (MB bm (wkv (waitP ps) (ns.take i)) : Blk) :: (Yp ++ (X ++ G)) ∧ i ≤ ns.length) (fun i => ns.length - i) 0 (.cons rfl .nil) (.cons z_B (.cons z_B (.cons z_B (.cons z_B (.cons z_B (.cons z_B (.cons z_B .nil))))))) z_A (⟨rfl, Nat.zero_le _⟩) ?_
        rintro i e_ L ⟨rfl, hi⟩
        refine T.seq ?_
        refine T.region ?_
        refine TL.cons rfl (T1.ltI_split rfl rfl (fun h18 => ?_) (fun h18 => ?_))
        ·
          obtain ⟨y, hy⟩ : ∃ y, ns[i]? = some y := ⟨_, List.getElem?_eq_getElem (by omega)⟩
          obtain ⟨yb, yo, ysz, rfl, rfl, _⟩ := hsl.someK (by omega)
          simp only [List.cons_append, List.nil_append]
          have hdr : ns.drop i = y :: ns.drop (i + 1) := by rw [List.drop_eq_getElem_cons (by omega)]; congr 1; exact Option.some.inj (by rw [← List.getElem?_eq_getElem, hy])
          have hyn : y ∈ ns := List.mem_of_getElem? hy
          have hyp : y ∈ ps.map Pr.name := hpp.mem_iff.1 hyn
          have hnt : y ∉ ns.take i ∧ y ∉ ns.drop (i + 1) := nd_split hnd hy
          obtain ⟨d, hfd⟩ := hall y hyn
          have hwt : waitP ps y = d.box.length := by unfold waitP; rw [hfd]; rfl
          have hdo : d.Ok := hok.each d (List.mem_of_find?_eq_some hfd)
          have hdx := hdo.box
          have hy32 : y < 4294967296 := by have := ((findP_iff hok.names).1 hfd).2; have h_ := hdo.name; omega
          refine TL.nil ?_
          refine T.seq ?_
          refine T.cond_t rfl ?_
          refine T.skip ?_
          refine T.seq ?_
          refine T.block ?_
          refine T.seq ?_
          refine T.region ?_
          refine TL.cons rfl (V1.t (V1.indexAddrS ty_36 sz_27 rfl rfl (by omega) (by omega)) ?_)
          refine TL.cons rfl (V1.t (V1.load1 (v := u32V y) one_27 rfl (ib_rd (b := yb) (off := yo) (cs := ns.map u32V) (k := i) z_D (by rw [List.getElem?_map, hy]; rfl))) ?_)
          refine TL.cons rfl (V1.t (V1.assign' z_B) ?_)
          refine TL.nil ?_
          refine T.region ?_
          refine TL.cons rfl (V1.t (V1.move' z_B) ?_)
          refine TL.cons rfl (V1.t (V1.move' z_B) ?_)
          refine TL.cons rfl (V1.t (V1.move' z_B) ?_)
          refine TL.cons rfl (V1.t (V1.move' z_B) ?_)
          refine TL.cons rfl (T1.callV («as» := [.pointer (some ⟨p, 0, none⟩), u32V y]) (Ps := X) has_12 rfl rfl (Waiting_any w0 hS y) z_E (fun v_ hv => ?_))
          subst hv
          refine TL.cons rfl (T1.mapUpdate (q := qU y) (kv := wkv (waitP ps) (ns.take i)) (kv' := wkv (waitP ps) (ns.take (i + 1))) ty_56 ty_27 rfl rfl rfl rfl (wkv_now _ _ _) (wkv_bits _ _ _) (by rw [take_nat hy]; exact wkv_upd hnt.1) z_H ?_)
          refine TL.nil ?_
          refine T.region ?_
          refine TL.cons rfl (V1.t (V1.add (c := ((i + 1 : Nat) : Int)) rfl rfl (by rw [wrap_i64 _ (by omega) (by omega)]; omega)) ?_)
          refine TL.cons rfl (V1.t (V1.move' z_B) ?_)
          refine TL.nil ?_
          exact ⟨i + 1, (MB bm (wkv (waitP ps) (ns.take (i + 1))) : Blk) :: ((⟨yb, yo, ns.map u32V, ysz⟩ : Blk) :: (X ++ G)), _, (by simp only; omega), (.cons rfl .nil), (.cons rfl (.cons rfl (.cons rfl (.cons rfl (.cons rfl (.cons rfl (.cons rfl .nil))))))), z_A, ⟨rfl, by omega⟩⟩
        ·
          obtain rfl : i = ns.length := by omega
          rw [List.take_length]
          refine TL.nil ?_
          refine T.seq ?_
          refine T.cond_f rfl ?_
          refine T.exit ?_
          refine T.seq ?_
          refine T.region ?_
          refine TL.cons rfl (V1.t (V1.move' z_B) ?_)
          refine TL.cons rfl (V1.t (V1.move' z_B) ?_)
          refine TL.cons rfl (V1.t (V1.move' z_B) ?_)
          refine TL.cons rfl (V1.t (V1.move' z_B) ?_)
          refine TL.cons rfl (T1.callM («as» := [.pointer (some ⟨p, 0, none⟩), u32V src, .slice ba l.length bc, .slice pa ns.length pc]) (X := X) has_11 rfl rfl (Send_any w0 Yp hS src hsrc (l := l) (hb.row.more Inc.nil) (ns := ns) (RowS.ofSl hsl Inc.refl (by decide) _ (by simp)) (by omega)) z_A z_E (fun v_ X2 hv => ?_))
          obtain ⟨rfl, hS2⟩ := hv
          rcases Classical.em ((sendP ps src l ns).2 = 0) with h0 | h0
          ·
            obtain ⟨dd, le, hfs0, henc, hsx⟩ := sendP_zero h0
            rw [hsx, sendTo_pA hnd hok.names hall] at hS2
            rw [h0]
            refine TL.cons rfl (V1.t (V1.assign' z_B) ?_)
            refine TL.nil ?_
            refine T.seq ?_
            refine T.region ?_
            refine TL.cons rfl (V1.t (V1.assign' z_B) ?_)
            refine TL.nil ?_
            refine T.seq ?_
            refine T.seq ?_
            refine T.region ?_
            refine TL.cons rfl (V1.t (V1.move' z_B) ?_)
            refine TL.cons rfl (V1.t (V1.lenSl ty_36 rfl) ?_)
            refine TL.cons rfl (V1.t (V1.move' z_B) ?_)
            refine TL.nil ?_
            refine T.block ?_
            refine T.loopL (σ := Nat × List Blk) (l0 := [(7, _), (12, _), (13, _), (16, _), (76, _), (77, _)]) (fun x => [(17, .string (bstr (if x.1 = 0 then [] else le))), (78, .int .i64 ((x.1 : Nat) : Int))]) (fun x L => L = x.2 ++ ((MB bm (wkv (waitP ps) (ns)) : Blk) :: (Yp ++ G)) ∧ x.1 ≤ ns.length ∧ SrvO p (pA le (ns.drop x.1) ps) x.2) (fun x => ns.length - x.1) (0, X2) (.cons rfl (.cons rfl .nil)) (.cons z_B (.cons z_B (.cons z_B (.cons z_B (.cons z_B (.cons z_B .nil)))))) z_A (⟨rfl, Nat.zero_le _, hS2⟩) ?_
            rintro ⟨i, Xi⟩ e_ L ⟨rfl, hi, hSi⟩
            dsimp only at hi hSi
            dsimp only
            refine T.seq ?_
            refine T.region ?_
            refine TL.cons rfl (T1.ltI_split rfl rfl (fun h25 => ?_) (fun h25 => ?_))
            ·
              obtain ⟨y, hy⟩ : ∃ y, ns[i]? = some y := ⟨_, List.getElem?_eq_getElem (by omega)⟩
              obtain ⟨yb, yo, ysz, rfl, rfl, _⟩ := hsl.someK (by omega)
              simp only [List.cons_append, List.nil_append]
              have hdr : ns.drop i = y :: ns.drop (i + 1) := by rw [List.drop_eq_getElem_cons (by omega)]; congr 1; exact Option.some.inj (by rw [← List.getElem?_eq_getElem, hy])
              have hyn : y ∈ ns := List.mem_of_getElem? hy
              have hyp : y ∈ ps.map Pr.name := hpp.mem_iff.1 hyn
              have hnt : y ∉ ns.take i ∧ y ∉ ns.drop (i + 1) := nd_split hnd hy
              obtain ⟨d, hfd⟩ := hall y hyn
              have hwt : waitP ps y = d.box.length := by unfold waitP; rw [hfd]; rfl
              have hdo : d.Ok := hok.each d (List.mem_of_find?_eq_some hfd)
              have hdx := hdo.box
              have hy32 : y < 4294967296 := by have := ((findP_iff hok.names).1 hfd).2; have h_ := hdo.name; omega
              refine TL.nil ?_
              refine T.seq ?_
              refine T.cond_t rfl ?_
              refine T.skip ?_
              refine T.seq ?_
              refine T.block ?_
              refine T.seq ?_
              refine T.region ?_
              refine TL.cons rfl (V1.t (V1.move' z_B) ?_)
              refine TL.cons rfl (V1.t (V1.indexAddrS ty_36 sz_27 rfl rfl (by omega) (by omega)) ?_)
              refine TL.cons rfl (V1.t (V1.load1 (v := u32V y) one_27 rfl (ib_rd (b := yb) (off := yo) (cs := ns.map u32V) (k := i) z_D (by rw [List.getElem?_map, hy]; rfl))) ?_)
              refine TL.cons rfl (V1.t (V1.assign' z_B) ?_)
              refine TL.cons rfl (V1.t (V1.assign' z_B) ?_)
              refine TL.nil ?_
              refine T.seq ?_
              refine T.region ?_
              refine TL.cons rfl (V1.t (V1.move' z_B) ?_)
              refine TL.cons rfl (V1.t (V1.move' z_B) ?_)
              refine TL.cons rfl (T1.callV («as» := [.pointer (some ⟨p, 0, none⟩), u32V y]) (Ps := Xi) has_12 rfl rfl (Waiting_any w0 hSi y) z_E (fun v_ hv => ?_))
              have hwq : waitP (pA le (ns.drop i) ps) y = d.box.length + 1 := by unfold waitP; rw [pA_find hok.names hfd (by rw [hdr]; exact List.mem_cons_self ..)]; show (d.box ++ [le]).length = _; rw [List.length_append]; rfl
              rw [hwq] at hv
              subst hv
              refine TL.cons rfl (V1.t (V1.assign' z_B) ?_)
              refine TL.nil ?_
              refine T.seq ?_
              refine T.seq ?_
              refine T.region ?_
              refine TL.cons rfl (V1.t (V1.move' z_B) ?_)
              refine TL.cons rfl (V1.t (V1.neI (r := false) rfl rfl rfl) ?_)
              refine TL.nil ?_
              refine T.cond_f rfl ?_
              refine T.skip ?_
              refine T.seq ?_
              refine T.region ?_
              refine TL.cons rfl (V1.t (V1.move' z_B) ?_)
              refine TL.cons rfl (V1.t (V1.move' z_B) ?_)
              refine TL.cons rfl (V1.t (V1.move' z_B) ?_)
              refine TL.cons rfl (V1.t (V1.sub (c := ((d.box.length : Nat) : Int)) rfl rfl (by rw [wrap_i64 _ (by omega) (by omega)]; omega)) ?_)
              refine TL.cons rfl (T1.callM («as» := [.pointer (some ⟨p, 0, none⟩), u32V y, .int .i64 (d.box.length : Nat)]) (X := Xi) has_13 rfl rfl (Take_any w0 hSi y (d.box.length : Nat)) z_A z_E (fun v_ Y5 hv => ?_))
              obtain ⟨Yf, Xt, rfl, hSt, hT⟩ := hv
              rw [hdr, pA_take hok.names hfd hnt.2] at hSt hT
              obtain ⟨sb, rfl, hsb⟩ := hT
              obtain ⟨ba2, bc2, rfl⟩ := hsb.of (n := le.length) (by simp) (by decide)
              simp only [List.append_assoc]
              refine TL.cons rfl (V1.t (V1.move' z_B) ?_)
              refine TL.cons rfl (V1.t (V1.extract rfl (by rfl)) ?_)
              refine TL.cons rfl (V1.t (V1.extract rfl (by rfl)) ?_)
              refine TL.cons rfl (V1.t (V1.assign' z_B) ?_)
              refine TL.cons rfl (V1.t (V1.assign' z_B) ?_)
              refine TL.nil ?_
              refine T.seq ?_
              refine T.seq ?_
              refine T.live (l := [(7, _), (12, _), (13, _), (16, _), (17, _), (18, _), (19, _), (20, _), (21, _), (22, _), (76, _), (77, _), (78, _)]) (.cons z_B (.cons z_B (.cons z_B (.cons z_B (.cons z_B (.cons z_B (.cons z_B (.cons z_B (.cons z_B (.cons z_B (.cons z_B (.cons z_B (.cons z_B .nil))))))))))))) (fun e_ => ?_)
              refine T.region ?_
              refine TL.cons rfl (V1.t (V1.move' z_B) ?_)
              refine TL.cons rfl (T1.eqI_split rfl rfl (fun h32 => ?_) (fun h32 => ?_))
              ·
                refine TL.nil ?_
                refine T.cond_t rfl ?_
                refine T.region ?_
                refine TL.cons rfl (V1.t (V1.move' z_B) ?_)
                refine TL.cons rfl (V1.t (V1.bytesToStr (l := le) ty_29 ty_5 ty_9 rfl ((hsb.row1 le.length (by simp)).row.src _ rfl rfl _ z_E) (by intro b h; cases h)) ?_)
                refine TL.cons rfl (V1.t (V1.assign' z_B) ?_)
                refine TL.nil ?_
                refine T.seq ?_
                refine T.region ?_
                refine TL.cons rfl (V1.t (V1.move' z_B) ?_)
                refine TL.cons rfl (V1.t (V1.neI (r := false) rfl rfl rfl) ?_)
                refine TL.cons rfl (V1.t (V1.move' z_B) ?_)
                refine TL.cons rfl (V1.t (V1.move' z_B) ?_)
                refine TL.cons rfl (V1.t (V1.move' z_B) ?_)
                refine TL.cons rfl (V1.t (V1.move' z_B) ?_)
                refine TL.cons rfl (V1.t (V1.lookup (q := qU y) (kv := wkv (waitP ps) ns) (v := .int .i64 (d.box.length : Nat)) ty_56 zr_3 ty_27 rfl rfl rfl z_D (wkv_now _ _ _) (by rw [← hwt]; exact wkv_find hyn)) ?_)
                refine TL.cons rfl (V1.t (V1.add (c := ((d.box.length + 1 : Nat) : Int)) rfl rfl (by rw [wrap_i64 _ (by omega) (by omega)]; omega)) ?_)
                refine TL.cons rfl (V1.t (V1.neI (r := false) rfl rfl (decide_eq_false (fun h => h rfl))) ?_)
                refine TL.cons rfl (V1.t (V1.pick rfl z_B) ?_)
                refine TL.cons rfl (V1.t (V1.move' z_B) ?_)
                refine TL.cons rfl (V1.t (V1.move' z_B) ?_)
                refine TL.cons rfl (V1.t (V1.bytesToStr (l := le) ty_29 ty_5 ty_9 rfl ((hsb.row1 le.length (by simp)).row.src _ rfl rfl _ z_E) (by intro b h; cases h)) ?_)
                refine TL.cons rfl (V1.t (V1.move' z_B) ?_)
                refine TL.cons rfl (V1.t (V1.neS (r := false) rfl rfl (decide_eq_false (fun h => h rfl))) ?_)
                refine TL.cons rfl (V1.t (V1.pick rfl z_B) ?_)
                refine TL.nil ?_
                refine T.cond_f rfl ?_
                refine T.skip ?_
                refine T.live (l := [(7, _), (12, _), (13, _), (16, _), (17, _), (76, _), (77, _), (78, _)]) (.cons z_B (.cons z_B (.cons z_B (.cons z_B (.cons z_B (.cons z_B (.cons z_B (.cons z_B .nil)))))))) (fun e_ => ?_)
                refine T.region ?_
                refine TL.cons rfl (V1.t (V1.add (c := ((i + 1 : Nat) : Int)) rfl rfl (by rw [wrap_i64 _ (by omega) (by omega)]; omega)) ?_)
                refine TL.cons rfl (V1.t (V1.move' z_B) ?_)
                refine TL.nil ?_
                exact ⟨(i + 1, Xt), Xt ++ ((MB bm (wkv (waitP ps) (ns)) : Blk) :: ((⟨yb, yo, ns.map u32V, ysz⟩ : Blk) :: G)), _, (by simp only; omega), (.cons (by show Value.string _ = Value.string _; rw [if_neg (show ¬ (i + 1 = 0) by omega)]) (.cons rfl .nil)), (.cons rfl (.cons rfl (.cons rfl (.cons rfl (.cons rfl (.cons rfl .nil)))))), z_A, ⟨rfl, by simp only; omega, hSt⟩⟩
              ·
                rw [if_neg (show ¬ i = 0 by omega)]
                refine TL.nil ?_
                refine T.cond_f rfl ?_
                refine T.skip ?_
                refine T.seq ?_
                refine T.region ?_
                refine TL.cons rfl (V1.t (V1.move' z_B) ?_)
                refine TL.cons rfl (V1.t (V1.neI (r := false) rfl rfl rfl) ?_)
                refine TL.cons rfl (V1.t (V1.move' z_B) ?_)
                refine TL.cons rfl (V1.t (V1.move' z_B) ?_)
                refine TL.cons rfl (V1.t (V1.move' z_B) ?_)
                refine TL.cons rfl (V1.t (V1.move' z_B) ?_)
                refine TL.cons rfl (V1.t (V1.lookup (q := qU y) (kv := wkv (waitP ps) ns) (v := .int .i64 (d.box.length : Nat)) ty_56 zr_3 ty_27 rfl rfl rfl z_D (wkv_now _ _ _) (by rw [← hwt]; exact wkv_find hyn)) ?_)
                refine TL.cons rfl (V1.t (V1.add (c := ((d.box.length + 1 : Nat) : Int)) rfl rfl (by rw [wrap_i64 _ (by omega) (by omega)]; omega)) ?_)
                refine TL.cons rfl (V1.t (V1.neI (r := false) rfl rfl (decide_eq_false (fun h => h rfl))) ?_)
                refine TL.cons rfl (V1.t (V1.pick rfl z_B) ?_)
                refine TL.cons rfl (V1.t (V1.move' z_B) ?_)
                refine TL.cons rfl (V1.t (V1.move' z_B) ?_)
                refine TL.cons rfl (V1.t (V1.bytesToStr (l := le) ty_29 ty_5 ty_9 rfl ((hsb.row1 le.length (by simp)).row.src _ rfl rfl _ z_E) (by intro b h; cases h)) ?_)
                refine TL.cons rfl (V1.t (V1.move' z_B) ?_)
                refine TL.cons rfl (V1.t (V1.neS (r := false) rfl rfl (decide_eq_false (fun h => h rfl))) ?_)
                refine TL.cons rfl (V1.t (V1.pick rfl z_B) ?_)
                refine TL.nil ?_
                refine T.cond_f rfl ?_
                refine T.skip ?_
                refine T.live (l := [(7, _), (12, _), (13, _), (16, _), (17, _), (76, _), (77, _), (78, _)]) (.cons z_B (.cons z_B (.cons z_B (.cons z_B (.cons z_B (.cons z_B (.cons z_B (.cons z_B .nil)))))))) (fun e_ => ?_)
                refine T.region ?_
                refine TL.cons rfl (V1.t (V1.add (c := ((i + 1 : Nat) : Int)) rfl rfl (by rw [wrap_i64 _ (by omega) (by omega)]; omega)) ?_)
                refine TL.cons rfl (V1.t (V1.move' z_B) ?_)
                refine TL.nil ?_
                exact ⟨(i + 1, Xt), Xt ++ ((MB bm (wkv (waitP ps) (ns)) : Blk) :: ((⟨yb, yo, ns.map u32V, ysz⟩ : Blk) :: G)), _, (by simp only; omega), (.cons (by show Value.string _ = Value.string _; rw [if_neg (show ¬ (i + 1 = 0) by omega)]) (.cons rfl .nil)), (.cons rfl (.cons rfl (.cons rfl (.cons rfl (.cons rfl (.cons rfl .nil)))))), z_A, ⟨rfl, by simp only; omega, hSt⟩⟩
            ·
              obtain rfl : i = ns.length := by omega
              refine TL.nil ?_
              refine T.seq ?_
              refine T.cond_f rfl ?_
              refine T.exit ?_
              refine T.seq ?_
              refine T.region ?_
              refine TL.cons rfl (V1.t (V1.move' z_B) ?_)
              refine TL.cons rfl (V1.t (V1.neI (r := false) rfl rfl rfl) ?_)
              refine TL.cons rfl (V1.t (V1.move' z_B) ?_)
              refine TL.cons rfl (V1.t (V1.move' z_B) ?_)
              refine TL.cons rfl (V1.t (V1.lenSl ty_36 rfl) ?_)
              refine TL.cons rfl (V1.t (V1.gtI (r := true) rfl rfl (decide_eq_true (by have hm_ := hpp.mem_iff.2 (List.mem_map.2 ⟨dd, ((findP_iff hok.names).1 hfs0).1, ((findP_iff hok.names).1 hfs0).2⟩); have := List.length_pos_of_mem hm_; omega))) ?_)
              refine TL.cons rfl (V1.t (V1.pick rfl z_B) ?_)
              refine TL.cons rfl (V1.t (V1.assign' z_B) ?_)
              refine TL.nil ?_
              refine T.ret ?_
              exact ⟨_, G, _, .cons (.tmp z_B) .nil, z_A, rfl, rfl⟩
          ·
            rw [sendP_fail h0] at hS2
            refine TL.cons rfl (V1.t (V1.assign' z_B) ?_)
            refine TL.nil ?_
            refine T.seq ?_
            refine T.region ?_
            refine TL.cons rfl (V1.t (V1.assign' z_B) ?_)
            refine TL.nil ?_
            refine T.seq ?_
            refine T.seq ?_
            refine T.region ?_
            refine TL.cons rfl (V1.t (V1.move' z_B) ?_)
            refine TL.cons rfl (V1.t (V1.lenSl ty_36 rfl) ?_)
            refine TL.cons rfl (V1.t (V1.move' z_B) ?_)
            refine TL.nil ?_
            refine T.block ?_
            refine T.loopL (σ := Nat) (l0 := [(7, _), (12, _), (13, _), (16, _), (76, _), (77, _)]) (fun x => [(17, .string (bstr [])), (78, .int .i64 ((x : Nat) : Int))]) (fun i L => L = X2 ++ ((MB bm (wkv (waitP ps) (ns)) : Blk) :: (Yp ++ G)) ∧ i ≤ ns.length) (fun i => ns.length - i) 0 (.cons rfl (.cons rfl .nil)) (.cons z_B (.cons z_B (.cons z_B (.cons z_B (.cons z_B (.cons z_B .nil)))))) z_A (⟨rfl, Nat.zero_le _⟩) ?_
            rintro i e_ L ⟨rfl, hi⟩
            refine T.seq ?_
            refine T.region ?_
            refine TL.cons rfl (T1.ltI_split rfl rfl (fun h25 => ?_) (fun h25 => ?_))
            ·
              obtain ⟨y, hy⟩ : ∃ y, ns[i]? = some y := ⟨_, List.getElem?_eq_getElem (by omega)⟩
              obtain ⟨yb, yo, ysz, rfl, rfl, _⟩ := hsl.someK (by omega)
              simp only [List.cons_append, List.nil_append]
              have hdr : ns.drop i = y :: ns.drop (i + 1) := by rw [List.drop_eq_getElem_cons (by omega)]; congr 1; exact Option.some.inj (by rw [← List.getElem?_eq_getElem, hy])
              have hyn : y ∈ ns := List.mem_of_getElem? hy
              have hyp : y ∈ ps.map Pr.name := hpp.mem_iff.1 hyn
              have hnt : y ∉ ns.take i ∧ y ∉ ns.drop (i + 1) := nd_split hnd hy
              obtain ⟨d, hfd⟩ := hall y hyn
              have hwt : waitP ps y = d.box.length := by unfold waitP; rw [hfd]; rfl
              have hdo : d.Ok := hok.each d (List.mem_of_find?_eq_some hfd)
              have hdx := hdo.box
              have hy32 : y < 4294967296 := by have := ((findP_iff hok.names).1 hfd).2; have h_ := hdo.name; omega
              refine TL.nil ?_
              refine T.seq ?_
              refine T.cond_t rfl ?_
              refine T.skip ?_
              refine T.seq ?_
              refine T.block ?_
              refine T.seq ?_
              refine T.region ?_
              refine TL.cons rfl (V1.t (V1.move' z_B) ?_)
              refine TL.cons rfl (V1.t (V1.indexAddrS ty_36 sz_27 rfl rfl (by omega) (by omega)) ?_)
              refine TL.cons rfl (V1.t (V1.load1 (v := u32V y) one_27 rfl (ib_rd (b := yb) (off := yo) (cs := ns.map u32V) (k := i) z_D (by rw [List.getElem?_map, hy]; rfl))) ?_)
              refine TL.cons rfl (V1.t (V1.assign' z_B) ?_)
              refine TL.cons rfl (V1.t (V1.assign' z_B) ?_)
              refine TL.nil ?_
              refine T.seq ?_
              refine T.region ?_
              refine TL.cons rfl (V1.t (V1.move' z_B) ?_)
              refine TL.cons rfl (V1.t (V1.move' z_B) ?_)
              refine TL.cons rfl (T1.callV («as» := [.pointer (some ⟨p, 0, none⟩), u32V y]) (Ps := X2) has_12 rfl rfl (Waiting_any w0 hS2 y) z_E (fun v_ hv => ?_))
              subst hv
              refine TL.cons rfl (V1.t (V1.assign' z_B) ?_)
              refine TL.nil ?_
              refine T.seq ?_
              refine T.seq ?_
              refine T.region ?_
              refine TL.cons rfl (V1.t (V1.move' z_B) ?_)
              refine TL.cons rfl (V1.t (V1.neI (r := true) rfl rfl (decide_eq_true h0)) ?_)
              refine TL.nil ?_
              refine T.cond_t rfl ?_
              refine T.seq ?_
              refine T.seq ?_
              refine T.region ?_
              refine TL.cons rfl (V1.t (V1.move' z_B) ?_)
              refine TL.cons rfl (V1.t (V1.move' z_B) ?_)
              refine TL.cons rfl (V1.t (V1.move' z_B) ?_)
              refine TL.cons rfl (V1.t (V1.lookup (q := qU y) (kv := wkv (waitP ps) ns) (v := .int .i64 (d.box.length : Nat)) ty_56 zr_3 ty_27 rfl rfl rfl z_D (wkv_now _ _ _) (by rw [← hwt]; exact wkv_find hyn)) ?_)
              refine TL.cons rfl (V1.t (V1.neI (r := false) rfl rfl (decide_eq_false (fun h => h (by rw [hwt])))) ?_)
              refine TL.nil ?_
              refine T.cond_f rfl ?_
              refine T.skip ?_
              refine T.exit ?_
              refine T.live (l := [(7, _), (12, _), (13, _), (16, _), (17, _), (76, _), (77, _), (78, _)]) (.cons z_B (.cons z_B (.cons z_B (.cons z_B (.cons z_B (.cons z_B (.cons z_B (.cons z_B .nil)))))))) (fun e_ => ?_)
              refine T.region ?_
              refine TL.cons rfl (V1.t (V1.add (c := ((i + 1 : Nat) : Int)) rfl rfl (by rw [wrap_i64 _ (by omega) (by omega)]; omega)) ?_)
              refine TL.cons rfl (V1.t (V1.move' z_B) ?_)
              refine TL.nil ?_
              exact ⟨i + 1, X2 ++ ((MB bm (wkv (waitP ps) (ns)) : Blk) :: ((⟨yb, yo, ns.map u32V, ysz⟩ : Blk) :: G)), _, (by simp only; omega), (.cons rfl (.cons rfl .nil)), (.cons rfl (.cons rfl (.cons rfl (.cons rfl (.cons rfl (.cons rfl .nil)))))), z_A, ⟨rfl, by omega⟩⟩
            ·
              obtain rfl : i = ns.length := by omega
              refine TL.nil ?_
              refine T.seq ?_
              refine T.cond_f rfl ?_
              refine T.exit ?_
              refine T.seq ?_
              refine T.region ?_
              refine TL.cons rfl (V1.t (V1.move' z_B) ?_)
              refine TL.cons rfl (V1.t (V1.neI (r := true) rfl rfl (decide_eq_true h0)) ?_)
              refine TL.cons rfl (V1.t (V1.move' z_B) ?_)
              refine TL.no rfl ?_
              refine TL.no rfl ?_
              refine TL.no rfl ?_
              refine TL.cons rfl (V1.t (V1.pick rfl z_B) ?_)
              refine TL.cons rfl (V1.t (V1.assign' z_B) ?_)
              refine TL.nil ?_
              refine T.ret ?_
              exact ⟨_, G, _, .cons (.tmp z_B) .nil, z_A, rfl, rfl⟩

end Go.Proofs.Ytijijaobialncaa.S
