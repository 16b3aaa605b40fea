/- So many people, frames and bytes there are, and no more. -/
import Derived.Test.YtijijaobialncaaOB
namespace Go.Proofs.Ytijijaobialncaa.S
open Go.RowKit

def mk (k : Nat) : List Pr := (List.range k).map fun i => ⟨i + 1, none, [], []⟩
theorem mk_none {k n : Nat} (h : k < n) : findP (mk k) n = none := by
  rw [findP_none]
  intro d hd
  obtain ⟨i, hi, rfl⟩ := List.mem_map.1 hd
  have := List.mem_range.1 hi
  show i + 1 ≠ n
  omega
theorem mk_len (k : Nat) : (mk k).length = k := by unfold mk; rw [List.length_map, List.length_range]
theorem mk_join {k : Nat} (h : k < 64) : joinP (mk k) (k + 1) = (mk (k + 1), 0) := by
  unfold joinP
  rw [mk_none (Nat.lt_succ_self k)]
  dsimp only
  rw [if_neg (by rw [mk_len]; omega)]
  congr 1
  unfold mk
  rw [List.range_succ, List.map_append]; rfl
theorem mk_full {n : Nat} (h : 64 < n) : joinP (mk 64) n = (mk 64, 3) := by
  unfold joinP
  rw [mk_none h]
  dsimp only
  rw [if_pos (mk_len 64)]
def rest3 : List Pr := (List.range 62).map fun i => ⟨i + 3, none, [], []⟩
def mkB (l : List UInt8) (j : Nat) : List Pr := q1 :: ⟨2, none, [], List.replicate j l⟩ :: rest3
theorem mk_mkB (l : List UInt8) : mk 64 = mkB l 0 := by rfl
theorem mkB_find (l : List UInt8) (j : Nat) : findP (mkB l j) 2 = some ⟨2, none, [], List.replicate j l⟩ := by rfl
theorem mkB_find1 (l : List UInt8) (j : Nat) : findP (mkB l j) 1 = some q1 := by rfl
theorem mkB_names (l : List UInt8) (j : Nat) : ((mkB l j).map Pr.name) = (List.range 64).map (· + 1) := by rfl
theorem nd64 : ((List.range 64).map (· + 1)).Nodup := by decide +kernel
theorem mkB_set (l : List UInt8) (j i : Nat) : setP (mkB l j) ⟨2, none, [], List.replicate i l⟩ = mkB l i :=
  setP_at (A := [q1]) (B := rest3) (d := ⟨2, none, [], List.replicate j l⟩) (by have := mkB_names l j; unfold mkB at this; rw [show [q1] ++ (⟨2, none, [], List.replicate j l⟩ : Pr) :: rest3 = q1 :: ⟨2, none, [], List.replicate j l⟩ :: rest3 from rfl, this]; exact nd64) rfl
theorem rep_bytes (l : List UInt8) (j : Nat) : Pr.bytes ⟨2, none, [], List.replicate j l⟩ = j * l.length := by
  unfold Pr.bytes
  rw [List.map_replicate]
  show (List.replicate j l.length).sum = _
  induction j with
  | zero => simp
  | succ j ih => rw [List.replicate_succ, List.sum_cons, ih, Nat.add_mul]; omega
def fits (s : Nat) : Nat := min 200 (65536 / (s + 41))
theorem room_fits {l : List UInt8} {s j : Nat} (hl : l.length = s + 41) : Pr.room ⟨2, none, [], List.replicate j l⟩ l.length = decide (j < fits s) := by
  unfold Pr.room fits
  rw [rep_bytes, hl]
  refine decide_eq_decide.2 ?_
  show (List.replicate j l).length < 200 ∧ _ ↔ _
  rw [List.length_replicate, Nat.lt_min, show (j < 65536 / (s + 41)) = (j + 1 ≤ 65536 / (s + 41)) from rfl, Nat.le_div_iff_mul_le (by omega), Nat.add_mul, Nat.one_mul]
theorem env_ok {s : Nat} (h : s ≤ 2000) : ∃ l, (envF 1 (List.replicate s 0)).enc = .ok l ∧ l.length = s + 41 := by
  refine ⟨_, encF_ok (a := 1) (b := 1) (c := 0) (d := true) rfl rfl rfl rfl (.inl rfl) (by show (List.replicate s (0 : UInt8)).length ≤ 16384; rw [List.length_replicate]; omega), ?_⟩
  simp [envF, be32] <;> omega
theorem mkB_send {l : List UInt8} {s j : Nat} (he : (envF 1 (List.replicate s 0)).enc = .ok l) (hl : l.length = s + 41) : sendP (mkB l j) 1 (List.replicate s 0) [2] = if j < fits s then (mkB l (j + 1), 0) else (mkB l j, 180) := by
  have hb : sendBad (mkB l j) l.length [] [2] = if j < fits s then 0 else 180 := by
    rw [sendBad, mkB_find]; dsimp only
    rw [if_neg (by simp), room_fits hl]
    by_cases h : j < fits s
    · rw [if_pos h, if_pos (by simpa using h)]; rfl
    · rw [if_neg h, if_neg (by simpa using h)]
  by_cases h : j < fits s
  · rw [if_pos h] at hb ⊢
    rw [sendP_ok (mkB_find1 l j) he hb, sendTo, mkB_find]
    dsimp only
    rw [sendTo, show (Pr.put ⟨2, none, [], List.replicate j l⟩ l) = ⟨2, none, [], List.replicate (j + 1) l⟩ from by unfold Pr.put; rw [List.replicate_succ'], mkB_set]
  · rw [if_neg h] at hb ⊢
    exact sendP_bad (mkB_find1 l j) he hb (by decide)
theorem mkB_wait (l : List UInt8) (j : Nat) : waitP (mkB l j) 2 = j := by unfold waitP; rw [mkB_find]; simp
theorem mkB_take {l : List UInt8} {j i : Nat} (h : i < j) : takeP (mkB l j) 2 (i : Nat) = (mkB l (j - 1), some l) := by
  have hx : (List.replicate j l)[i]? = some l := by rw [List.getElem?_replicate, if_pos h]
  rw [takeP_ok (mkB_find l j) hx]
  congr 1
  rw [show (Pr.take ⟨2, none, [], List.replicate j l⟩ i) = ⟨2, none, [], List.replicate (j - 1) l⟩ from by unfold Pr.take; rw [List.eraseIdx_replicate, if_pos h], mkB_set]
set_option maxRecDepth 100000 in
set_option maxHeartbeats 8000000 in
theorem PostLimits_us (w0 : World) (size n : Int) : FnV P 3 [.int .i64 size, .int .i64 n] w0 [] (fun v => v = .bool true) := by
  refine FnV.of 117 [.tmp 4] Go.Proofs.Try.func3 rfl rfl rfl rfl (fun G hG => ?_)
  refine T.seq ?_
  refine T.region ?_
  refine TL.cons rfl (V1.t (V1.assign' z_C) ?_)
  refine TL.nil ?_
  refine T.seq ?_
  refine T.seq ?_
  refine T.region ?_
  refine TL.cons rfl (T1.callV has_8 rfl rfl (hands_any w0 []) z_E (fun v_ hv => ?_))
  obtain rfl := hv
  refine TL.cons rfl (V1.t (V1.not (r := false) rfl rfl) ?_)
  refine TL.nil ?_
  refine T.cond_f rfl ?_
  refine T.skip ?_
  refine T.seq ?_
  refine T.seq ?_
  refine T.region ?_
  refine TL.cons rfl (V1.t (V1.move' z_C) ?_)
  refine TL.cons rfl (T1.ltI_split rfl rfl (fun h3_1 => ?_) (fun h3_1 => ?_))
  ·
    refine TL.cons rfl (V1.t (V1.move' z_C) ?_)
    refine TL.no rfl ?_
    refine TL.no rfl ?_
    refine TL.cons rfl (V1.t (V1.pick rfl z_C) ?_)
    refine TL.cons rfl (V1.t (V1.move' z_C) ?_)
    refine TL.no rfl ?_
    refine TL.no rfl ?_
    refine TL.cons rfl (V1.t (V1.pick rfl z_C) ?_)
    refine TL.cons rfl (V1.t (V1.move' z_C) ?_)
    refine TL.no rfl ?_
    refine TL.no rfl ?_
    refine TL.cons rfl (V1.t (V1.pick rfl z_C) ?_)
    refine TL.nil ?_
    refine T.cond_t rfl ?_
    refine T.seq ?_
    refine T.live (l := []) .nil (fun e_ => ?_)
    refine T.region ?_
    refine TL.cons rfl (V1.t (V1.assign' z_C) ?_)
    refine TL.nil ?_
    refine T.ret ?_
    exact ⟨_, G, _, .cons (.tmp z_C) .nil, z_A, rfl, rfl⟩
  ·
    refine TL.cons rfl (V1.t (V1.move' z_C) ?_)
    refine TL.cons rfl (V1.t (V1.move' z_C) ?_)
    refine TL.cons rfl (T1.gtI_split rfl rfl (fun h3_4 => ?_) (fun h3_4 => ?_))
    ·
      refine TL.cons rfl (V1.t (V1.pick rfl z_C) ?_)
      refine TL.cons rfl (V1.t (V1.move' z_C) ?_)
      refine TL.no rfl ?_
      refine TL.no rfl ?_
      refine TL.cons rfl (V1.t (V1.pick rfl z_C) ?_)
      refine TL.cons rfl (V1.t (V1.move' z_C) ?_)
      refine TL.no rfl ?_
      refine TL.no rfl ?_
      refine TL.cons rfl (V1.t (V1.pick rfl z_C) ?_)
      refine TL.nil ?_
      refine T.cond_t rfl ?_
      refine T.seq ?_
      refine T.live (l := []) .nil (fun e_ => ?_)
      refine T.region ?_
      refine TL.cons rfl (V1.t (V1.assign' z_C) ?_)
      refine TL.nil ?_
      refine T.ret ?_
      exact ⟨_, G, _, .cons (.tmp z_C) .nil, z_A, rfl, rfl⟩
    ·
      refine TL.cons rfl (V1.t (V1.pick rfl z_C) ?_)
      refine TL.cons rfl (V1.t (V1.move' z_C) ?_)
      refine TL.cons rfl (V1.t (V1.move' z_C) ?_)
      refine TL.cons rfl (T1.ltI_split rfl rfl (fun h3_8 => ?_) (fun h3_8 => ?_))
      ·
        refine TL.cons rfl (V1.t (V1.pick rfl z_C) ?_)
        refine TL.cons rfl (V1.t (V1.move' z_C) ?_)
        refine TL.no rfl ?_
        refine TL.no rfl ?_
        refine TL.cons rfl (V1.t (V1.pick rfl z_C) ?_)
        refine TL.nil ?_
        refine T.cond_t rfl ?_
        refine T.seq ?_
        refine T.live (l := []) .nil (fun e_ => ?_)
        refine T.region ?_
        refine TL.cons rfl (V1.t (V1.assign' z_C) ?_)
        refine TL.nil ?_
        refine T.ret ?_
        exact ⟨_, G, _, .cons (.tmp z_C) .nil, z_A, rfl, rfl⟩
      ·
        refine TL.cons rfl (V1.t (V1.pick rfl z_C) ?_)
        refine TL.cons rfl (V1.t (V1.move' z_C) ?_)
        refine TL.cons rfl (V1.t (V1.move' z_C) ?_)
        refine TL.cons rfl (T1.gtI_split rfl rfl (fun h3_12 => ?_) (fun h3_12 => ?_))
        ·
          refine TL.cons rfl (V1.t (V1.pick rfl z_C) ?_)
          refine TL.nil ?_
          refine T.cond_t rfl ?_
          refine T.seq ?_
          refine T.live (l := []) .nil (fun e_ => ?_)
          refine T.region ?_
          refine TL.cons rfl (V1.t (V1.assign' z_C) ?_)
          refine TL.nil ?_
          refine T.ret ?_
          exact ⟨_, G, _, .cons (.tmp z_C) .nil, z_A, rfl, rfl⟩
        ·
          refine TL.cons rfl (V1.t (V1.pick rfl z_C) ?_)
          refine TL.nil ?_
          refine T.cond_f rfl ?_
          refine T.skip ?_
          refine T.seq ?_
          refine T.live (l := [(0, _), (1, _)]) (.cons z_C (.cons z_C .nil)) (fun e_ => ?_)
          refine T.region ?_
          refine TL.cons rfl (T1.callC has_9 rfl rfl (New_any w0) z_E (fun v_ X0 hv => ?_))
          obtain ⟨p, rfl, hS0⟩ := hv
          obtain ⟨s, rfl⟩ : ∃ s : Nat, size = s := ⟨size.toNat, by omega⟩
          obtain ⟨m, rfl⟩ : ∃ m : Nat, n = m := ⟨n.toNat, by omega⟩
          obtain ⟨l, henc, hll⟩ := env_ok (s := s) (by omega)
          have hfit : 32 ≤ fits s ∧ fits s ≤ 200 := by unfold fits; have : 32 ≤ 65536 / (s + 41) := (Nat.le_div_iff_mul_le (by omega)).2 (by omega); omega
          have hrm : ∀ (b_ : Nat) (Qs : List Blk), (⟨b_, 0, List.replicate s (byteV 0), s⟩ : Blk) ∈ Qs → RowS w0 Qs 1 (.slice (some ⟨b_, 0, none⟩) s s) (List.replicate s (0 : UInt8)).length ((List.replicate s (0 : UInt8)).map byteV) := fun b_ Qs hQ => by rw [List.length_replicate, List.map_replicate]; exact RowS.ofSl (tg := none) (Ls := [⟨b_, 0, List.replicate s (byteV 0), s⟩]) (.inr ⟨b_, 0, s, s, s, rfl, by simp, Nat.le_refl _, by omega, rfl⟩) (fun B_ hB_ => by rw [List.mem_singleton] at hB_; subst hB_; exact hQ) (by decide) s (by simp)
          refine TL.cons rfl (V1.t (V1.assign' z_C) ?_)
          refine TL.nil ?_
          refine T.seq ?_
          refine T.seq ?_
          refine T.region ?_
          refine TL.cons rfl (V1.t (V1.move' z_C) ?_)
          refine TL.cons rfl (V1.t (V1.eqPn ty_23 rfl rfl) ?_)
          refine TL.cons rfl (V1.t (V1.move' z_C) ?_)
          refine TL.cons rfl (V1.t (V1.move' z_C) ?_)
          refine TL.cons rfl (T1.callM («as» := [.pointer (some ⟨p, 0, none⟩), u32V 1]) (X := X0) has_10 rfl rfl (Join_any w0 hS0 1 (by decide)) z_A z_E (fun v_ X1 hv => ?_))
          obtain ⟨hv, hS1⟩ := hv
          replace hS1 : SrvO p (mk 1) X1 := hS1
          replace hv : v_ = .int .i64 0 := hv
          subst hv
          refine TL.cons rfl (V1.t (V1.neI (r := false) rfl rfl rfl) ?_)
          refine TL.cons rfl (V1.t (V1.pick rfl z_C) ?_)
          refine TL.nil ?_
          refine T.cond_f rfl ?_
          refine T.skip ?_
          refine T.seq ?_
          refine T.seq ?_
          refine T.region ?_
          refine TL.cons rfl (V1.t (V1.assign' z_C) ?_)
          refine TL.nil ?_
          refine T.block ?_
          refine T.loopL (σ := Nat × List Blk) (l0 := [(0, _), (1, _), (5, _)]) (fun x => [(6, u32V x.1)]) (fun x L => L = x.2 ++ G ∧ 2 ≤ x.1 ∧ x.1 ≤ 67 ∧ SrvO p (mk (min (x.1 - 1) 64)) x.2) (fun x => 67 - x.1) (2, X1) (.cons rfl .nil) (.cons z_C (.cons z_C (.cons z_C .nil))) z_A (⟨rfl, by simp only; omega, by simp only; omega, hS1⟩) ?_
          rintro ⟨i, Xi⟩ e_ L ⟨rfl, hi2, hi, hSi⟩
          dsimp only at hi2 hi hSi
          dsimp only
          refine T.seq ?_
          refine T.seq ?_
          refine T.region ?_
          refine TL.cons rfl (V1.t (V1.move' z_C) ?_)
          refine TL.cons rfl (T1.leI_split (a := ((i : Nat) : Int)) rfl rfl (fun h9 => ?_) (fun h9 => ?_))
          ·
            have hi66 : i ≤ 66 := by omega
            refine TL.nil ?_
            refine T.cond_t rfl ?_
            refine T.skip ?_
            refine T.seq ?_
            refine T.block ?_
            refine T.seq ?_
            refine T.region ?_
            refine TL.cons rfl (V1.t (V1.move' z_C) ?_)
            refine TL.cons rfl (V1.t (V1.move' z_C) ?_)
            refine TL.cons rfl (T1.callM («as» := [.pointer (some ⟨p, 0, none⟩), u32V i]) (X := Xi) has_10 rfl rfl (Join_any w0 hSi i (by omega)) z_A z_E (fun v_ Xj hv => ?_))
            obtain ⟨hv, hSj⟩ := hv
            rcases Nat.lt_or_ge 64 i with h64 | h64
            ·
              rw [show min (i - 1) 64 = 64 by omega, mk_full h64] at hv hSj
              replace hSj : SrvO p (mk (min (i + 1 - 1) 64)) Xj := by rw [show min (i + 1 - 1) 64 = 64 by omega]; exact hSj
              subst hv
              refine TL.cons rfl (V1.t (V1.assign' z_C) ?_)
              refine TL.nil ?_
              refine T.seq ?_
              refine T.region ?_
              refine TL.cons rfl (V1.t (V1.move' z_C) ?_)
              refine TL.cons rfl (V1.t (V1.eqI (r := false) rfl rfl rfl) ?_)
              refine TL.cons rfl (V1.t (V1.move' z_C) ?_)
              refine TL.cons rfl (V1.t (V1.leI (r := false) rfl rfl (decide_eq_false (by omega))) ?_)
              refine TL.cons rfl (V1.t (V1.neB ty_4 rfl rfl (r := false) rfl) ?_)
              refine TL.cons rfl (V1.t (V1.move' z_C) ?_)
              refine TL.cons rfl (V1.t (V1.move' z_C) ?_)
              refine TL.cons rfl (V1.t (V1.neI (r := true) rfl rfl rfl) ?_)
              refine TL.cons rfl (V1.t (V1.move' z_C) ?_)
              refine TL.cons rfl (V1.t (V1.move' z_C) ?_)
              refine TL.cons rfl (V1.t (V1.neI (r := false) rfl rfl rfl) ?_)
              refine TL.cons rfl (V1.t (V1.pick rfl z_C) ?_)
              refine TL.cons rfl (V1.t (V1.pick rfl z_C) ?_)
              refine TL.nil ?_
              refine T.cond_f rfl ?_
              refine T.skip ?_
              refine T.live (l := [(0, _), (1, _), (5, _), (6, _)]) (.cons z_C (.cons z_C (.cons z_C (.cons z_C .nil)))) (fun e_ => ?_)
              refine T.region ?_
              refine TL.cons rfl (V1.t (V1.move' z_C) ?_)
              refine TL.cons rfl (V1.t (V1.add (c := ((i + 1 : Nat) : Int)) rfl rfl (by rw [show ((i + 1 : Nat) : Int) = (i : Nat) + 1 from rfl]; exact wrap_u32 _ (by omega) (by omega))) ?_)
              refine TL.cons rfl (V1.t (V1.assign' z_C) ?_)
              refine TL.nil ?_
              exact ⟨(i + 1, Xj), Xj ++ G, _, (by simp only; omega), (.cons rfl .nil), (.cons rfl (.cons rfl (.cons rfl .nil))), z_A, ⟨rfl, by simp only; omega, by simp only; omega, hSj⟩⟩
            ·
              have hj_ := mk_join (k := i - 1) (by omega)
              rw [show i - 1 + 1 = i by omega] at hj_
              rw [show min (i - 1) 64 = i - 1 by omega, hj_] at hv hSj
              replace hSj : SrvO p (mk (min (i + 1 - 1) 64)) Xj := by rw [show min (i + 1 - 1) 64 = i by omega]; exact hSj
              subst hv
              refine TL.cons rfl (V1.t (V1.assign' z_C) ?_)
              refine TL.nil ?_
              refine T.seq ?_
              refine T.region ?_
              refine TL.cons rfl (V1.t (V1.move' z_C) ?_)
              refine TL.cons rfl (V1.t (V1.eqI (r := true) rfl rfl rfl) ?_)
              refine TL.cons rfl (V1.t (V1.move' z_C) ?_)
              refine TL.cons rfl (V1.t (V1.leI (r := true) rfl rfl (decide_eq_true (by omega))) ?_)
              refine TL.cons rfl (V1.t (V1.neB ty_4 rfl rfl (r := false) rfl) ?_)
              refine TL.cons rfl (V1.t (V1.move' z_C) ?_)
              refine TL.cons rfl (V1.t (V1.move' z_C) ?_)
              refine TL.cons rfl (V1.t (V1.neI (r := false) rfl rfl rfl) ?_)
              refine TL.cons rfl (V1.t (V1.move' z_C) ?_)
              refine TL.no rfl ?_
              refine TL.no rfl ?_
              refine TL.cons rfl (V1.t (V1.pick rfl z_C) ?_)
              refine TL.cons rfl (V1.t (V1.pick rfl z_C) ?_)
              refine TL.nil ?_
              refine T.cond_f rfl ?_
              refine T.skip ?_
              refine T.live (l := [(0, _), (1, _), (5, _), (6, _)]) (.cons z_C (.cons z_C (.cons z_C (.cons z_C .nil)))) (fun e_ => ?_)
              refine T.region ?_
              refine TL.cons rfl (V1.t (V1.move' z_C) ?_)
              refine TL.cons rfl (V1.t (V1.add (c := ((i + 1 : Nat) : Int)) rfl rfl (by rw [show ((i + 1 : Nat) : Int) = (i : Nat) + 1 from rfl]; exact wrap_u32 _ (by omega) (by omega))) ?_)
              refine TL.cons rfl (V1.t (V1.assign' z_C) ?_)
              refine TL.nil ?_
              exact ⟨(i + 1, Xj), Xj ++ G, _, (by simp only; omega), (.cons rfl .nil), (.cons rfl (.cons rfl (.cons rfl .nil))), z_A, ⟨rfl, by simp only; omega, by simp only; omega, hSj⟩⟩
          ·
            obtain rfl : i = 67 := by omega
            replace hSi : SrvO p (mkB l 0) Xi := by rw [← mk_mkB]; exact hSi
            refine TL.nil ?_
            refine T.cond_f rfl ?_
            refine T.exit ?_
            refine T.seq ?_
            refine T.region ?_
            refine TL.cons rfl (V1.t (V1.move' z_C) ?_)
            refine TL.cons rfl (V1.t (V1.add (c := ((s + 41 : Nat) : Int)) rfl rfl (by rw [wrap_i64 _ (by omega) (by omega)]; omega)) ?_)
            obtain ⟨q, hq⟩ : ∃ q, q = 65536 / (s + 41) := ⟨_, rfl⟩
            have hq2 : q ≤ 65536 := by rw [hq]; exact Nat.div_le_self ..
            have hfq : fits s = min 200 q := by unfold fits; rw [hq]
            refine TL.cons rfl (V1.t (V1.assign' z_C) ?_)
            refine TL.nil ?_
            refine T.seq ?_
            refine T.region ?_
            refine TL.cons rfl (V1.t (V1.move' z_C) ?_)
            refine TL.cons rfl (V1.t (V1.quo (c := ((q : Nat) : Int)) rfl rfl (by omega) (by rw [show (65536 : Int).tdiv ((s + 41 : Nat) : Int) = ((q : Nat) : Int) from by rw [hq]; rfl]; exact wrap_i64 _ (by omega) (by omega))) ?_)
            refine TL.cons rfl (V1.t (V1.min2 (c := ((fits s : Nat) : Int)) rfl rfl (by omega)) ?_)
            refine TL.cons rfl (V1.t (V1.assign' z_C) ?_)
            refine TL.nil ?_
            refine T.seq ?_
            refine T.seq ?_
            refine T.region ?_
            refine TL.cons rfl (V1.t (V1.assign' z_C) ?_)
            refine TL.nil ?_
            refine T.block ?_
            refine T.loopL (σ := Nat × List Blk) (l0 := [(0, _), (1, _), (5, _), (9, _)]) (fun x => [(10, .int .i64 (x.1 : Nat))]) (fun x L => L = x.2 ++ G ∧ x.1 ≤ m ∧ SrvO p (mkB l (min x.1 (fits s))) x.2) (fun x => m - x.1) (0, Xi) (.cons rfl .nil) (.cons z_C (.cons z_C (.cons z_C (.cons z_C .nil)))) z_A (⟨rfl, Nat.zero_le _, by rw [Nat.zero_min]; exact hSi⟩) ?_
            rintro ⟨j, Xm⟩ e_ L ⟨rfl, hj, hSm⟩
            dsimp only at hj hSm
            dsimp only
            refine T.seq ?_
            refine T.seq ?_
            refine T.region ?_
            refine TL.cons rfl (V1.t (V1.move' z_C) ?_)
            refine TL.cons rfl (V1.t (V1.move' z_C) ?_)
            refine TL.cons rfl (T1.ltI_split rfl rfl (fun h17 => ?_) (fun h17 => ?_))
            ·
              refine TL.nil ?_
              refine T.cond_t rfl ?_
              refine T.skip ?_
              refine T.seq ?_
              refine T.block ?_
              refine T.seq ?_
              refine T.region ?_
              refine TL.cons rfl (V1.t (V1.move' z_C) ?_)
              refine TL.cons rfl (V1.t (V1.move' z_C) ?_)
              refine TL.cons rfl (T1.make1 s s ty_29 sz_5 by_5 zr_5 rfl rfl rfl (Nat.le_refl _) (by omega) (by omega) (fun b70 => ?_))
              refine TL.cons rfl (T1.buildSl1 (os := [.const (.int .u32 2)]) (vs := [u32V 2]) ty_36 sz_27 zr_27 (by decide) rfl (.cons rfl .nil) rfl (ones rfl) (fun b71 => ?_))
              refine TL.cons rfl (T1.callM («as» := [.pointer (some ⟨p, 0, none⟩), u32V 1, .slice (some ⟨b70, 0, none⟩) s s, .slice (some ⟨b71, 0, none⟩) 1 1]) (X := Xm) has_11 rfl rfl (Send_any w0 [(⟨b70, 0, List.replicate s (byteV 0), s⟩ : Blk), (⟨b71, 0, [u32V 2], 1⟩ : Blk)] hSm 1 (by decide) (l := List.replicate s 0) (hrm b70 _ (by simp)) (ns := [2]) (RowS.ofSl (tg := none) (Ls := [(⟨b71, 0, [u32V 2], 1⟩ : Blk)]) (.inr ⟨b71, 0, 1, 1, 1, rfl, rfl, Nat.le_refl _, Nat.le_refl _, rfl⟩) (fun B_ hB_ => by rw [List.mem_singleton] at hB_; subst hB_; simp) (by decide) 1 rfl) (by decide)) z_A z_E (fun v_ Xn hv => ?_))
              obtain ⟨hv, hSn⟩ := hv
              rcases Nat.lt_or_ge j (fits s) with hjf | hjf
              ·
                rw [show min j (fits s) = j by omega, mkB_send henc hll, if_pos hjf] at hv hSn
                replace hSn : SrvO p (mkB l (min (j + 1) (fits s))) Xn := by rw [show min (j + 1) (fits s) = j + 1 by omega]; exact hSn
                subst hv
                refine TL.cons rfl (V1.t (V1.assign' z_C) ?_)
                refine TL.nil ?_
                refine T.seq ?_
                refine T.region ?_
                refine TL.cons rfl (V1.t (V1.move' z_C) ?_)
                refine TL.cons rfl (V1.t (V1.eqI (r := true) rfl rfl rfl) ?_)
                refine TL.cons rfl (V1.t (V1.move' z_C) ?_)
                refine TL.cons rfl (V1.t (V1.move' z_C) ?_)
                refine TL.cons rfl (V1.t (V1.ltI (r := true) rfl rfl (decide_eq_true (by omega))) ?_)
                refine TL.cons rfl (V1.t (V1.neB ty_4 rfl rfl (r := false) rfl) ?_)
                refine TL.cons rfl (V1.t (V1.move' z_C) ?_)
                refine TL.cons rfl (V1.t (V1.move' z_C) ?_)
                refine TL.cons rfl (V1.t (V1.neI (r := false) rfl rfl rfl) ?_)
                refine TL.cons rfl (V1.t (V1.move' z_C) ?_)
                refine TL.no rfl ?_
                refine TL.no rfl ?_
                refine TL.cons rfl (V1.t (V1.pick rfl z_C) ?_)
                refine TL.cons rfl (V1.t (V1.pick rfl z_C) ?_)
                refine TL.nil ?_
                refine T.cond_f rfl ?_
                refine T.skip ?_
                refine T.live (l := [(0, _), (1, _), (5, _), (9, _), (10, _)]) (.cons z_C (.cons z_C (.cons z_C (.cons z_C (.cons z_C .nil))))) (fun e_ => ?_)
                refine T.region ?_
                refine TL.cons rfl (V1.t (V1.move' z_C) ?_)
                refine TL.cons rfl (V1.t (V1.add (c := ((j + 1 : Nat) : Int)) rfl rfl (by rw [wrap_i64 _ (by omega) (by omega)]; omega)) ?_)
                refine TL.cons rfl (V1.t (V1.assign' z_C) ?_)
                refine TL.nil ?_
                exact ⟨(j + 1, Xn), Xn ++ G, _, (by simp only; omega), (.cons rfl .nil), (.cons rfl (.cons rfl (.cons rfl (.cons rfl .nil)))), z_A, ⟨rfl, by simp only; omega, hSn⟩⟩
              ·
                rw [show min j (fits s) = fits s by omega, mkB_send henc hll, if_neg (by omega)] at hv hSn
                replace hSn : SrvO p (mkB l (min (j + 1) (fits s))) Xn := by rw [show min (j + 1) (fits s) = fits s by omega]; exact hSn
                subst hv
                refine TL.cons rfl (V1.t (V1.assign' z_C) ?_)
                refine TL.nil ?_
                refine T.seq ?_
                refine T.region ?_
                refine TL.cons rfl (V1.t (V1.move' z_C) ?_)
                refine TL.cons rfl (V1.t (V1.eqI (r := false) rfl rfl rfl) ?_)
                refine TL.cons rfl (V1.t (V1.move' z_C) ?_)
                refine TL.cons rfl (V1.t (V1.move' z_C) ?_)
                refine TL.cons rfl (V1.t (V1.ltI (r := false) rfl rfl (decide_eq_false (by omega))) ?_)
                refine TL.cons rfl (V1.t (V1.neB ty_4 rfl rfl (r := false) rfl) ?_)
                refine TL.cons rfl (V1.t (V1.move' z_C) ?_)
                refine TL.cons rfl (V1.t (V1.move' z_C) ?_)
                refine TL.cons rfl (V1.t (V1.neI (r := true) rfl rfl rfl) ?_)
                refine TL.cons rfl (V1.t (V1.move' z_C) ?_)
                refine TL.cons rfl (V1.t (V1.move' z_C) ?_)
                refine TL.cons rfl (V1.t (V1.neI (r := false) rfl rfl rfl) ?_)
                refine TL.cons rfl (V1.t (V1.pick rfl z_C) ?_)
                refine TL.cons rfl (V1.t (V1.pick rfl z_C) ?_)
                refine TL.nil ?_
                refine T.cond_f rfl ?_
                refine T.skip ?_
                refine T.live (l := [(0, _), (1, _), (5, _), (9, _), (10, _)]) (.cons z_C (.cons z_C (.cons z_C (.cons z_C (.cons z_C .nil))))) (fun e_ => ?_)
                refine T.region ?_
                refine TL.cons rfl (V1.t (V1.move' z_C) ?_)
                refine TL.cons rfl (V1.t (V1.add (c := ((j + 1 : Nat) : Int)) rfl rfl (by rw [wrap_i64 _ (by omega) (by omega)]; omega)) ?_)
                refine TL.cons rfl (V1.t (V1.assign' z_C) ?_)
                refine TL.nil ?_
                exact ⟨(j + 1, Xn), Xn ++ G, _, (by simp only; omega), (.cons rfl .nil), (.cons rfl (.cons rfl (.cons rfl (.cons rfl .nil)))), z_A, ⟨rfl, by simp only; omega, hSn⟩⟩
            ·
              obtain rfl : j = m := by omega
              refine TL.nil ?_
              refine T.cond_f rfl ?_
              refine T.exit ?_
              refine T.seq ?_
              refine T.seq ?_
              refine T.region ?_
              refine TL.cons rfl (V1.t (V1.move' z_C) ?_)
              refine TL.cons rfl (V1.t (V1.move' z_C) ?_)
              refine TL.cons rfl (T1.leI_split rfl rfl (fun h22_2 => ?_) (fun h22_2 => ?_))
              ·
                refine TL.nil ?_
                refine T.cond_t rfl ?_
                refine T.seq ?_
                refine T.region ?_
                refine TL.cons rfl (V1.t (V1.move' z_C) ?_)
                refine TL.cons rfl (T1.callV («as» := [.pointer (some ⟨p, 0, none⟩), u32V 2]) (Ps := Xm) has_12 rfl rfl (Waiting_any w0 hSm 2) z_E (fun v_ hv => ?_))
                rw [mkB_wait, show min j (fits s) = j by omega] at hv
                subst hv
                refine TL.cons rfl (V1.t (V1.move' z_C) ?_)
                refine TL.cons rfl (V1.t (V1.eqI (r := true) rfl rfl (by simp)) ?_)
                refine TL.cons rfl (V1.t (V1.assign' z_C) ?_)
                refine TL.nil ?_
                refine T.ret ?_
                exact ⟨_, G, _, .cons (.tmp z_C) .nil, z_A, rfl, rfl⟩
              ·
                refine TL.nil ?_
                refine T.cond_f rfl ?_
                refine T.skip ?_
                refine T.seq ?_
                refine T.region ?_
                refine TL.cons rfl (V1.t (V1.move' z_C) ?_)
                refine TL.cons rfl (V1.t (V1.move' z_C) ?_)
                refine TL.cons rfl (V1.t (V1.quo (c := ((fits s / 2 : Nat) : Int)) rfl rfl (by decide) (by rw [show ((fits s : Nat) : Int).tdiv 2 = ((fits s / 2 : Nat) : Int) from rfl]; exact wrap_i64 _ (by omega) (by omega))) ?_)
                have hmin : min j (fits s) = fits s := by omega
                rw [hmin] at hSm
                refine TL.cons rfl (T1.callM («as» := [.pointer (some ⟨p, 0, none⟩), u32V 2, .int .i64 ((fits s / 2 : Nat) : Int)]) (X := Xm) has_13 rfl rfl (Take_any w0 hSm 2 ((fits s / 2 : Nat) : Int)) z_A z_E (fun v_ Yt hv => ?_))
                obtain ⟨Yf, Xt, rfl, hSt, hT⟩ := hv
                rw [mkB_take (by omega)] at hSt hT
                obtain ⟨sb, rfl, hsb⟩ := hT
                simp only [List.append_assoc]
                refine TL.cons rfl (V1.t (V1.move' z_C) ?_)
                refine TL.cons rfl (V1.t (V1.extract rfl (by rfl)) ?_)
                refine TL.cons rfl (V1.t (V1.extract rfl (by rfl)) ?_)
                refine TL.cons rfl (V1.t (V1.assign' z_C) ?_)
                refine TL.cons rfl (V1.t (V1.assign' z_C) ?_)
                refine TL.nil ?_
                refine T.seq ?_
                refine T.live (l := [(0, _), (5, _), (9, _), (13, _)]) (.cons z_C (.cons z_C (.cons z_C (.cons z_C .nil)))) (fun e_ => ?_)
                refine T.region ?_
                refine TL.cons rfl (V1.t (V1.move' z_C) ?_)
                refine TL.cons rfl (V1.t (V1.eqI (r := true) rfl rfl rfl) ?_)
                refine TL.cons rfl (V1.t (V1.move' z_C) ?_)
                refine TL.cons rfl (V1.t (V1.move' z_C) ?_)
                refine TL.cons rfl (V1.t (V1.move' z_C) ?_)
                refine TL.cons rfl (T1.make1 s s ty_29 sz_5 by_5 zr_5 rfl rfl rfl (Nat.le_refl _) (by omega) (by omega) (fun b106 => ?_))
                refine TL.cons rfl (T1.buildSl1 (os := [.const (.int .u32 2)]) (vs := [u32V 2]) ty_36 sz_27 zr_27 (by decide) rfl (.cons rfl .nil) rfl (ones rfl) (fun b107 => ?_))
                refine TL.cons rfl (T1.callM («as» := [.pointer (some ⟨p, 0, none⟩), u32V 1, .slice (some ⟨b106, 0, none⟩) s s, .slice (some ⟨b107, 0, none⟩) 1 1]) (X := Xt) has_11 rfl rfl (Send_any w0 [(⟨b106, 0, List.replicate s (byteV 0), s⟩ : Blk), (⟨b107, 0, [u32V 2], 1⟩ : Blk)] hSt 1 (by decide) (l := List.replicate s 0) (hrm b106 _ (by simp)) (ns := [2]) (RowS.ofSl (tg := none) (Ls := [(⟨b107, 0, [u32V 2], 1⟩ : Blk)]) (.inr ⟨b107, 0, 1, 1, 1, rfl, rfl, Nat.le_refl _, Nat.le_refl _, rfl⟩) (fun B_ hB_ => by rw [List.mem_singleton] at hB_; subst hB_; simp) (by decide) 1 rfl) (by decide)) z_A z_E (fun v_ Xz hv => ?_))
                obtain ⟨hv, hSz⟩ := hv
                rw [mkB_send henc hll, if_pos (by omega)] at hv hSz
                replace hSz : SrvO p (mkB l (fits s)) Xz := by have h_ := hSz; rw [show fits s - 1 + 1 = fits s by omega] at h_; exact h_
                subst hv
                refine TL.cons rfl (V1.t (V1.eqI (r := true) rfl rfl rfl) ?_)
                refine TL.cons rfl (V1.t (V1.pick rfl z_C) ?_)
                refine TL.cons rfl (V1.t (V1.move' z_C) ?_)
                refine TL.cons rfl (V1.t (V1.move' z_C) ?_)
                refine TL.cons rfl (T1.callV («as» := [.pointer (some ⟨p, 0, none⟩), u32V 2]) (Ps := Xz) has_12 rfl rfl (Waiting_any w0 hSz 2) z_E (fun v_ hv => ?_))
                rw [mkB_wait] at hv
                subst hv
                refine TL.cons rfl (V1.t (V1.move' z_C) ?_)
                refine TL.cons rfl (V1.t (V1.eqI (r := true) rfl rfl (by simp)) ?_)
                refine TL.cons rfl (V1.t (V1.pick rfl z_C) ?_)
                refine TL.cons rfl (V1.t (V1.assign' z_C) ?_)
                refine TL.nil ?_
                refine T.ret ?_
                exact ⟨_, G, _, .cons (.tmp z_C) .nil, z_A, rfl, rfl⟩

theorem PostLimits_any (size n : Int) (w : World) : Fn P 3 [.int .i64 size, .int .i64 n] w [] (fun v _ => v = .bool true) :=
  fun _ _ => (PostLimits_us w size n [] w Inc.nil (St.refl w)).mono fun _ _ ⟨v, Y, e1, e2, e3⟩ => ⟨v, Y, e1, by simpa using e2, e3.2⟩
end Go.Proofs.Ytijijaobialncaa.S
