/- Of two values kept one after the other one is had again, wherever the power went. -/
import Derived.Test.YtmolpgnekcfimaaC6
import Derived.Test.YtmolpgnekcfimaaC9
import Derived.Test.YtmolpgnekcfimaaOpsB
namespace Go.Proofs.Ytmolpgnekcfimaa.S
open Go.RowKit

open Sh
theorem openP_has {x y : List UInt8} (h : (okP x = true ∧ numP x % 2 = 0) ∨ (okP y = true ∧ numP y % 2 = 1)) : ∃ n v, openP x y = some (n, v) ∧ 0 < n ∧ (v.length ≤ x.length ∨ v.length ≤ y.length) := by
  unfold openP
  by_cases h1 : okP y = true ∧ numP y % 2 = 1 ∧ ¬ (okP x = true ∧ numP x % 2 = 0 ∧ numP y < numP x)
  · rw [if_pos h1]
    exact ⟨_, _, rfl, (okP_pos h1.1).1, .inr (okP_pos h1.1).2⟩
  · rw [if_neg h1]
    have hx : okP x = true ∧ numP x % 2 = 0 := by
      rcases h with h | h
      · exact h
      · apply Classical.byContradiction; intro hn
        exact h1 ⟨h.1, h.2, fun hh => hn ⟨hh.1, hh.2.1⟩⟩
    rw [if_pos hx]
    exact ⟨_, _, rfl, (okP_pos hx.1).1, .inl (okP_pos hx.1).2⟩
theorem openP_len {x y : List UInt8} {n : Nat} {v : List UInt8} (h : openP x y = some (n, v)) : v.length ≤ x.length + y.length := by
  unfold openP at h
  split at h
  · rename_i h1; cases h; have := (okP_pos h1.1).2; omega
  · split at h
    · rename_i h1; cases h; have := (okP_pos h1.1).2; omega
    · split at h
      · cases h; simp
      · cases h
/-- What was kept last stands at its place, whatever is done with the other one. -/
theorem disk_has {r n : Nat} {v a b : List UInt8} (h : DiskOf r n v a) (hn0 : 0 < n) (hn : n < 281474976710656) (hv : v.length < 4294967296) (hb : plc r (n % 2) b = plc r (n % 2) a) : (okP (plc r 0 b) = true ∧ numP (plc r 0 b) % 2 = 0) ∨ (okP (plc r 1 b) = true ∧ numP (plc r 1 b) % 2 = 1) := by
  obtain ⟨_, ⟨h0, _⟩ | ⟨_, ⟨rest, hp⟩, _⟩⟩ := h
  · omega
  · obtain ⟨k1, k2, _⟩ := recB_ok n v rest hn0 hn hv
    rw [← hp, ← hb] at k1 k2
    rcases (show n % 2 = 0 ∨ n % 2 = 1 by omega) with e | e
    · rw [e] at k1 k2; exact .inl ⟨k1, by rw [k2]; exact e⟩
    · rw [e] at k1 k2; exact .inr ⟨k1, by rw [k2]; exact e⟩
/-- What is kept while the power may go: the one before or the one behind is had again. -/
theorem KeepW (w0 : World) (bc bd ba r n : Nat) (pv : Value) (v a : List UInt8) (pw : Int) (ps : List (List UInt8)) (Z Ps : List Blk) (hc : Cl bc bd n v Z) (hd : DiskOf r n v a) (hn0 : 0 < n) (hn : n < 1000000) (hv : v.length ≤ 1000000) (hp : PartsR w0 Ps pv ps) (hpn : ps.length ≤ 9223372036854775807) (hr1 : 64 ≤ r) (hr2 : r ≤ 65536) (hpw : -1 ≤ pw) (hpw2 : pw < 9223372036854775808) (hfit : ps.flatten.length ≤ r - 44) :
    FnX P 10 [.pointer (some ⟨bc, 0, none⟩), pv] w0 [] (Z ++ ((⟨bd, 0, [.slice (some ⟨ba, 0, none⟩) a.length a.length, .int .i64 pw], 2⟩ : Blk) :: (⟨ba, 0, List.map byteV a, a.length⟩ : Blk) :: Ps)) (fun x Y => ∃ (a' : List UInt8) (pw' : Int) (Z' : List Blk) (n' : Nat) (v' : List UInt8) (ok : Bool), a'.length = a.length ∧ openP (plc r 0 a') (plc r 1 a') = some (n', v') ∧ v'.length ≤ 2 * r ∧ x = .int .i64 (if ok then 0 else 220) ∧ (ok = true → v' = ps.flatten) ∧ Y = Z' ++ ((⟨bd, 0, [.slice (some ⟨ba, 0, none⟩) a'.length a'.length, .int .i64 pw'], 2⟩ : Blk) :: (⟨ba, 0, List.map byteV a', a'.length⟩ : Blk) :: Ps)) := by
  refine (Keep_any w0 bc bd ba r n pv v a pw ps Z Ps hc hn hp hpn hd.1 hr1 hr2 hpw hpw2).mono fun x Y h => ?_
  have hl := recB_len (n + 1) ps.flatten
  have ha := hd.1
  have hK : ((recB (n + 1) ps.flatten).take (wN pw (recB (n + 1) ps.flatten).length)).length ≤ r := by rw [List.length_take]; omega
  have hb : (n + 1) % 2 * r + ((recB (n + 1) ps.flatten).take (wN pw (recB (n + 1) ps.flatten).length)).length ≤ a.length := by
    rcases (show (n + 1) % 2 = 0 ∨ (n + 1) % 2 = 1 by omega) with e | e <;> rw [e] <;> omega
  have hsl := splice_len hb
  have hp0 : ∀ (b : List UInt8) i, i < 2 → b.length = a.length → (plc r i b).length = r := fun b i hi hbl => plc_len (by rcases (show i = 0 ∨ i = 1 by omega) with rfl | rfl <;> omega)
  rcases h with ⟨h, _⟩ | ⟨h1, h2, h3, h4⟩ | ⟨h1, h2, h3, Z', h4, h5⟩
  · omega
  · obtain ⟨n', v', e1, _, e2⟩ := openP_has (disk_has hd hn0 (by omega) (by omega) (plc_splice_other (s := (recB (n + 1) ps.flatten).take (wN pw (recB (n + 1) ps.flatten).length)) ha (show (n + 1) % 2 < 2 by omega) (show n % 2 < 2 by omega) (by omega) hK))
    rw [hp0 _ 0 (by decide) hsl, hp0 _ 1 (by decide) hsl] at e2
    exact ⟨_, _, Z, n', v', false, hsl, e1, by omega, h3, (fun h => by cases h), by rw [hsl]; exact h4⟩
  · rw [h2, List.take_length] at h5
    rw [h2, List.take_length] at hsl
    have h6 := disk_keep (u := ps.flatten) hd (by omega) (by omega)
    exact ⟨_, _, Z', n + 1, ps.flatten, true, hsl, openP_disk h6 (by omega) (by omega), by omega, h3, (fun _ => rfl), by rw [hsl]; exact h5⟩

set_option maxRecDepth 100000 in
set_option maxHeartbeats 4000000 in
theorem CellWhole_any (v0 v1 : Value) (pa pb : List UInt8) (k : Int) (w0 : World) (sa : SlR w0 v0 1 pa.length (pa.map byteV)) (sb : SlR w0 v1 1 pb.length (pb.map byteV)) (hk : k < 9223372036854775808) : Fn P 4 [v0, v1, .int .i64 k] w0 [] (fun v _ => v = .bool true) := by
  obtain ⟨ga, gc, rfl⟩ := sa.form
  obtain ⟨ka, kc, rfl⟩ := sb.form
  refine Fn.of 121 [.tmp 6] Go.Proofs.Try.func4 rfl rfl rfl rfl ?_
  refine T.seq ?_
  refine T.region ?_
  refine TL.cons rfl (V1.t (V1.assign' (by (conv => lhs; whnf) <;> rfl)) ?_)
  refine TL.nil ?_
  refine T.seq ?_
  refine T.seq ?_
  refine T.region ?_
  refine TL.cons rfl (T1.call0 has_7 rfl (fun w hs => keeps_any w) (fun v hv => ?_))
  obtain rfl := hv
  refine TL.cons rfl (V1.t (V1.not rfl rfl) ?_)
  refine TL.nil ?_
  refine T.cond_f rfl ?_
  refine T.skip ?_
  refine T.seq ?_
  refine T.seq ?_
  refine T.region ?_
  refine TL.cons rfl (V1.t (V1.move' (by (conv => lhs; whnf) <;> rfl)) ?_)
  refine TL.cons rfl (V1.t (V1.lenSl ty_33 rfl) ?_)
  refine TL.cons rfl (T1.gtI_split rfl rfl (fun h3 => ?_) (fun h3 => ?_))
  ·
    refine TL.cons rfl (V1.t (V1.move' (by (conv => lhs; whnf) <;> rfl)) ?_)
    refine TL.no rfl ?_
    refine TL.no rfl ?_
    refine TL.no rfl ?_
    refine TL.cons rfl (V1.t (V1.pick rfl (by (conv => lhs; whnf) <;> rfl)) ?_)
    refine TL.nil ?_
    refine T.cond_t rfl ?_
    refine T.seq ?_
    refine T.region ?_
    refine TL.cons rfl (V1.t (V1.assign' (by (conv => lhs; whnf) <;> rfl)) ?_)
    refine TL.nil ?_
    refine T.ret ?_
    exact ⟨_, [], _, .cons (.tmp (by (conv => lhs; whnf) <;> rfl)) .nil, Take.nil, rfl⟩
  ·
    refine TL.cons rfl (V1.t (V1.move' (by (conv => lhs; whnf) <;> rfl)) ?_)
    refine TL.cons rfl (V1.t (V1.move' (by (conv => lhs; whnf) <;> rfl)) ?_)
    refine TL.cons rfl (V1.t (V1.lenSl ty_33 rfl) ?_)
    refine TL.cons rfl (T1.gtI_split rfl rfl (fun h3b => ?_) (fun h3b => ?_))
    ·
      refine TL.cons rfl (V1.t (V1.pick rfl (by (conv => lhs; whnf) <;> rfl)) ?_)
      refine TL.nil ?_
      refine T.cond_t rfl ?_
      refine T.seq ?_
      refine T.region ?_
      refine TL.cons rfl (V1.t (V1.assign' (by (conv => lhs; whnf) <;> rfl)) ?_)
      refine TL.nil ?_
      refine T.ret ?_
      exact ⟨_, [], _, .cons (.tmp (by (conv => lhs; whnf) <;> rfl)) .nil, Take.nil, rfl⟩
    ·
      refine TL.cons rfl (V1.t (V1.pick rfl (by (conv => lhs; whnf) <;> rfl)) ?_)
      refine TL.nil ?_
      refine T.cond_f rfl ?_
      refine T.skip ?_
      refine T.seq ?_
      refine T.region ?_
      refine TL.cons rfl (T1.callN has_8 rfl (fun w hs => NewDiskD 400 w (by decide) (by decide)) (fun v Y hY => ?_))
      obtain ⟨bd, ba, a, rfl, hd, -, rfl⟩ := hY
      have ha2 : a.length = 2 * 400 := hd.1
      have hal : a.length ≤ 1000000 := by omega
      simp only [List.cons_append, List.nil_append]
      refine TL.cons rfl (V1.t (V1.move' (by (conv => lhs; whnf) <;> rfl)) ?_)
      refine TL.cons rfl (V1.t (V1.extract rfl (by rfl)) ?_)
      refine TL.cons rfl (V1.t (V1.extract rfl (by rfl)) ?_)
      refine TL.cons rfl (V1.t (V1.assign' (by (conv => lhs; whnf) <;> rfl)) ?_)
      refine TL.cons rfl (V1.t (V1.assign' (by (conv => lhs; whnf) <;> rfl)) ?_)
      refine TL.nil ?_
      refine T.seq ?_
      refine T.seq ?_
      refine T.live (l := [(0, _), (1, _), (2, _), (7, _)]) (.cons (by (conv => lhs; whnf) <;> rfl) (.cons (by (conv => lhs; whnf) <;> rfl) (.cons (by (conv => lhs; whnf) <;> rfl) (.cons (by (conv => lhs; whnf) <;> rfl) .nil)))) (fun e_ => ?_)
      refine T.region ?_
      refine TL.cons rfl (V1.t (V1.move' (by (conv => lhs; whnf) <;> rfl)) ?_)
      refine TL.cons rfl (V1.t (V1.eqNil ty_25 rfl rfl) ?_)
      refine TL.nil ?_
      refine T.cond_f rfl ?_
      refine T.skip ?_
      refine T.seq ?_
      refine T.region ?_
      refine TL.cons rfl (V1.t (V1.move' (by (conv => lhs; whnf) <;> rfl)) ?_)
      refine TL.cons rfl (T1.callX (X := [(⟨bd, 0, [.slice (some ⟨ba, 0, none⟩) a.length a.length, .int .i64 (-1)], 2⟩ : Blk), (⟨ba, 0, List.map byteV a, a.length⟩ : Blk)]) has_9 rfl (OpenD _ bd ba 400 0 [] a (-1) hd (by decide) (by decide) (by omega) (by first | omega | decide)) (by repeat (first | exact Take.nil | apply Take.one (by repeat (first | exact Pick.here | apply Pick.there | apply Pick.far)) | apply Take.seg (by repeat (first | exact PickS.last | exact PickS.one | exact PickS.here | exact PickS.nil | apply PickS.there | apply PickS.far)) | exact Take.last (by repeat (first | exact PickS.last | exact PickS.one | exact PickS.here | exact PickS.nil | apply PickS.there | apply PickS.far)))) (fun v_ Y_ hY => ?_))
      obtain ⟨bc, Z, rfl, hc, rfl⟩ := hY
      simp only [List.append_assoc, List.cons_append, List.nil_append]
      refine TL.cons rfl (V1.t (V1.move' (by (conv => lhs; whnf) <;> rfl)) ?_)
      refine TL.cons rfl (V1.t (V1.extract rfl (by rfl)) ?_)
      refine TL.cons rfl (V1.t (V1.extract rfl (by rfl)) ?_)
      refine TL.cons rfl (V1.t (V1.assign' (by (conv => lhs; whnf) <;> rfl)) ?_)
      refine TL.cons rfl (V1.t (V1.assign' (by (conv => lhs; whnf) <;> rfl)) ?_)
      refine TL.nil ?_
      refine T.seq ?_
      refine T.seq ?_
      refine T.region ?_
      refine TL.cons rfl (V1.t (V1.move' (by (conv => lhs; whnf) <;> rfl)) ?_)
      refine TL.cons rfl (V1.t (V1.eqNil ty_29 rfl rfl) ?_)
      refine TL.cons rfl (V1.t (V1.move' (by (conv => lhs; whnf) <;> rfl)) ?_)
      refine TL.cons rfl (V1.t (V1.move' (by (conv => lhs; whnf) <;> rfl)) ?_)
      refine TL.cons rfl (T1.buildSl1 (os := (List.map byteV [102, 105, 114, 115, 116, 32, 111, 102, 32, 97, 108, 108]).map Operand.const) (vs := List.map byteV [102, 105, 114, 115, 116, 32, 111, 102, 32, 97, 108, 108]) ty_33 sz_5 zr_5 (by decide) rfl (Evs.consts _) rfl (ones rfl) (fun b41 => ?_))
      refine TL.cons rfl (T1.convLit ty_33 ty_5 rfl (by repeat (first | exact Sub.one | apply Sub.there | apply Sub.far)) ?_)
      refine TL.cons rfl (T1.buildSl1 (os := [.tmp 42]) (vs := [.slice (some ⟨b41, 0, none⟩) 12 12]) ty_22 sz_33 zr_33 (by decide) rfl (.cons rfl .nil) rfl (ones rfl) (fun b43 => ?_))
      refine TL.cons rfl (T1.callX (X := Z ++ ((⟨bd, 0, [.slice (some ⟨ba, 0, none⟩) a.length a.length, .int .i64 (-1)], 2⟩ : Blk) :: (⟨ba, 0, List.map byteV a, a.length⟩ : Blk) :: ((⟨b43, 0, [.slice (some ⟨b41, 0, none⟩) 12 12], 1⟩ : Blk) :: ⟨b41, 0, List.map byteV [102, 105, 114, 115, 116, 32, 111, 102, 32, 97, 108, 108], 12⟩ :: []))) has_10 rfl (KeepD _ bc bd ba 400 0 _ [] a [[102, 105, 114, 115, 116, 32, 111, 102, 32, 97, 108, 108]] Z ((⟨b43, 0, [.slice (some ⟨b41, 0, none⟩) 12 12], 1⟩ : Blk) :: ⟨b41, 0, List.map byteV [102, 105, 114, 115, 116, 32, 111, 102, 32, 97, 108, 108], 12⟩ :: []) hc hd (by decide) (PartsR.ones (svs := [.slice (some ⟨b41, 0, none⟩) 12 12]) (size := 1) (List.mem_cons_self ..) rfl (one_part (part32 (b := b41) (n := 12) (c := 12) (size := 12) (p := [102, 105, 114, 115, 116, 32, 111, 102, 32, 97, 108, 108]) (by simp) rfl))) (show 1 ≤ 9223372036854775807 by decide) (by decide) (by decide)) (by repeat (first | exact Take.nil | apply Take.one (by repeat (first | exact Pick.here | apply Pick.there | apply Pick.far)) | apply Take.seg (by repeat (first | exact PickS.last | exact PickS.one | exact PickS.here | exact PickS.nil | apply PickS.there | apply PickS.far)) | exact Take.last (by repeat (first | exact PickS.last | exact PickS.one | exact PickS.here | exact PickS.nil | apply PickS.there | apply PickS.far)))) (fun v_ Y_ hY => ?_))
      rcases hY with ⟨h, _, _⟩ | ⟨_, rfl, Z1, a1, hal1, hd1, hc1, rfl⟩
      · exact absurd h (by decide)
      replace hd1 : DiskOf 400 1 [102, 105, 114, 115, 116, 32, 111, 102, 32, 97, 108, 108] a1 := hd1
      replace hc1 : Cl bc bd 1 [102, 105, 114, 115, 116, 32, 111, 102, 32, 97, 108, 108] Z1 := hc1
      simp only [List.append_assoc, List.cons_append, List.nil_append]
      refine TL.cons rfl (V1.t (V1.neI rfl rfl (decide_eq_false (by omega))) ?_)
      refine TL.cons rfl (V1.t (V1.pick rfl (by (conv => lhs; whnf) <;> rfl)) ?_)
      refine TL.cons rfl (V1.t (V1.move' (by (conv => lhs; whnf) <;> rfl)) ?_)
      refine TL.cons rfl (V1.t (V1.move' (by (conv => lhs; whnf) <;> rfl)) ?_)
      refine TL.cons rfl (V1.t (V1.move' (by (conv => lhs; whnf) <;> rfl)) ?_)
      refine TL.cons rfl (T1.buildSl1 (os := [.tmp 49]) (vs := [.slice ga pa.length gc]) ty_22 sz_33 zr_33 (by decide) rfl (.cons rfl .nil) rfl (ones rfl) (fun b50 => ?_))
      refine TL.cons rfl (T1.callX (X := Z1 ++ ((⟨bd, 0, [.slice (some ⟨ba, 0, none⟩) a1.length a1.length, .int .i64 (-1)], 2⟩ : Blk) :: (⟨ba, 0, List.map byteV a1, a1.length⟩ : Blk) :: [(⟨b50, 0, [.slice ga pa.length gc], 1⟩ : Blk)])) has_10 rfl (KeepD _ bc bd ba 400 1 _ [102, 105, 114, 115, 116, 32, 111, 102, 32, 97, 108, 108] a1 [pa] Z1 [(⟨b50, 0, [.slice ga pa.length gc], 1⟩ : Blk)] hc1 hd1 (by omega) (PartsR.ones (svs := [.slice ga pa.length gc]) (size := 1) (List.mem_cons_self ..) rfl (one_part (PartR.old sa))) (show 1 ≤ 9223372036854775807 by decide) (by decide) (by decide)) (by repeat (first | exact Take.nil | apply Take.one (by repeat (first | exact Pick.here | apply Pick.there | apply Pick.far)) | apply Take.seg (by repeat (first | exact PickS.last | exact PickS.one | exact PickS.here | exact PickS.nil | apply PickS.there | apply PickS.far)) | exact Take.last (by repeat (first | exact PickS.last | exact PickS.one | exact PickS.here | exact PickS.nil | apply PickS.there | apply PickS.far)))) (fun v_ Y_ hY => ?_))
      rw [show ([pa] : List (List UInt8)).flatten = pa from by simp] at hY
      rcases hY with ⟨hpl_, _, _⟩ | ⟨_, rfl, Z2, a2, hal2, hd2, hc2, rfl⟩
      · exfalso; omega
      replace hd2 : DiskOf 400 2 pa a2 := hd2
      replace hc2 : Cl bc bd 2 pa Z2 := hc2
      simp only [List.append_assoc, List.cons_append, List.nil_append]
      refine TL.cons rfl (V1.t (V1.neI rfl rfl (decide_eq_false (by omega))) ?_)
      refine TL.cons rfl (V1.t (V1.pick rfl (by (conv => lhs; whnf) <;> rfl)) ?_)
      refine TL.nil ?_
      refine T.cond_f rfl ?_
      refine T.skip ?_
      refine T.seq ?_
      refine T.live (l := [(0, _), (1, _), (2, _), (7, _), (9, _)]) (.cons (by (conv => lhs; whnf) <;> rfl) (.cons (by (conv => lhs; whnf) <;> rfl) (.cons (by (conv => lhs; whnf) <;> rfl) (.cons (by (conv => lhs; whnf) <;> rfl) (.cons (by (conv => lhs; whnf) <;> rfl) .nil))))) (fun e_ => ?_)
      refine T.region ?_
      refine TL.cons rfl (V1.t (V1.move' (by (conv => lhs; whnf) <;> rfl)) ?_)
      refine TL.cons rfl (V1.t (V1.move' (by (conv => lhs; whnf) <;> rfl)) ?_)
      refine TL.cons rfl (T1.callX (X := [(⟨bd, 0, [.slice (some ⟨ba, 0, none⟩) a2.length a2.length, .int .i64 (-1)], 2⟩ : Blk)]) has_13 rfl (Break_any _ bd ba a2.length (-1) k) (by repeat (first | exact Take.nil | apply Take.one (by repeat (first | exact Pick.here | apply Pick.there | apply Pick.far)) | apply Take.seg (by repeat (first | exact PickS.last | exact PickS.one | exact PickS.here | exact PickS.nil | apply PickS.there | apply PickS.far)) | exact Take.last (by repeat (first | exact PickS.last | exact PickS.one | exact PickS.here | exact PickS.nil | apply PickS.there | apply PickS.far)))) (fun v_ Y_ hY => ?_))
      obtain rfl := hY
      simp only [List.cons_append, List.nil_append]
      refine TL.nil ?_
      refine T.seq ?_
      refine T.region ?_
      refine TL.cons rfl (V1.t (V1.move' (by (conv => lhs; whnf) <;> rfl)) ?_)
      refine TL.cons rfl (V1.t (V1.move' (by (conv => lhs; whnf) <;> rfl)) ?_)
      refine TL.cons rfl (T1.buildSl1 (os := [.tmp 58]) (vs := [.slice ka pb.length kc]) ty_22 sz_33 zr_33 (by decide) rfl (.cons rfl .nil) rfl (ones rfl) (fun b59 => ?_))
      refine TL.cons rfl (T1.callX (X := Z2 ++ ((⟨bd, 0, [.slice (some ⟨ba, 0, none⟩) a2.length a2.length, .int .i64 (max k (-1))], 2⟩ : Blk) :: (⟨ba, 0, List.map byteV a2, a2.length⟩ : Blk) :: [(⟨b59, 0, [.slice ka pb.length kc], 1⟩ : Blk)])) has_10 rfl (KeepW _ bc bd ba 400 2 _ pa a2 (max k (-1)) [pb] Z2 [(⟨b59, 0, [.slice ka pb.length kc], 1⟩ : Blk)] hc2 hd2 (by decide) (by decide) (by omega) (PartsR.ones (svs := [.slice ka pb.length kc]) (size := 1) (List.mem_cons_self ..) rfl (one_part (PartR.old sb))) (show 1 ≤ 9223372036854775807 by decide) (by decide) (by decide) (by omega) (by omega) (by rw [show ([pb] : List (List UInt8)).flatten = pb from by simp]; omega)) (by repeat (first | exact Take.nil | apply Take.one (by repeat (first | exact Pick.here | apply Pick.there | apply Pick.far)) | apply Take.seg (by repeat (first | exact PickS.last | exact PickS.one | exact PickS.here | exact PickS.nil | apply PickS.there | apply PickS.far)) | exact Take.last (by repeat (first | exact PickS.last | exact PickS.one | exact PickS.here | exact PickS.nil | apply PickS.there | apply PickS.far)))) (fun v_ Y_ hY => ?_))
      rw [show ([pb] : List (List UInt8)).flatten = pb from by simp] at hY
      obtain ⟨a3, pw3, Z3, n3, v3, ok, hal3, hop, hv3, rfl, hok, rfl⟩ := hY
      simp only [List.append_assoc, List.cons_append, List.nil_append]
      have ha32 : a3.length = 2 * 400 := by have := hd2.1; omega
      cases ok
      ·
        simp only [Bool.false_eq_true, if_false]
        refine TL.cons rfl (V1.t (V1.assign' (by (conv => lhs; whnf) <;> rfl)) ?_)
        refine TL.nil ?_
        refine T.seq ?_
        refine T.region ?_
        refine TL.cons rfl (V1.t (V1.move' (by (conv => lhs; whnf) <;> rfl)) ?_)
        refine TL.cons rfl (T1.callX (X := [(⟨bd, 0, [.slice (some ⟨ba, 0, none⟩) a3.length a3.length, .int .i64 pw3], 2⟩ : Blk)]) has_14 rfl (Mend_any _ bd ba a3.length pw3) (by repeat (first | exact Take.nil | apply Take.one (by repeat (first | exact Pick.here | apply Pick.there | apply Pick.far)) | apply Take.seg (by repeat (first | exact PickS.last | exact PickS.one | exact PickS.here | exact PickS.nil | apply PickS.there | apply PickS.far)) | exact Take.last (by repeat (first | exact PickS.last | exact PickS.one | exact PickS.here | exact PickS.nil | apply PickS.there | apply PickS.far)))) (fun v_ Y_ hY => ?_))
        obtain rfl := hY
        simp only [List.cons_append, List.nil_append]
        refine TL.nil ?_
        refine T.seq ?_
        refine T.region ?_
        refine TL.cons rfl (V1.t (V1.move' (by (conv => lhs; whnf) <;> rfl)) ?_)
        refine TL.cons rfl (T1.callX (X := [(⟨bd, 0, [.slice (some ⟨ba, 0, none⟩) a3.length a3.length, .int .i64 (-1)], 2⟩ : Blk), (⟨ba, 0, List.map byteV a3, a3.length⟩ : Blk)]) has_16 rfl (Bytes_any _ bd ba a3 (-1) (by omega)) (by repeat (first | exact Take.nil | apply Take.one (by repeat (first | exact Pick.here | apply Pick.there | apply Pick.far)) | apply Take.seg (by repeat (first | exact PickS.last | exact PickS.one | exact PickS.here | exact PickS.nil | apply PickS.there | apply PickS.far)) | exact Take.last (by repeat (first | exact PickS.last | exact PickS.one | exact PickS.here | exact PickS.nil | apply PickS.there | apply PickS.far)))) (fun v_ Y_ hY => ?_))
        obtain ⟨Lb, rfl, hsb⟩ := hY
        simp only [List.append_assoc, List.cons_append, List.nil_append]
        refine TL.cons rfl (V1.t (V1.slToStr ty_33 ty_5 ty_9 rfl hsb (by repeat (first | exact Sub.here | exact Sub.last | apply Sub.there | apply Sub.far))) ?_)
        refine TL.cons rfl (V1.t (V1.buildF pl_44 zr_44 (.one rfl (by (conv => lhs; whnf) <;> rfl) rfl .nil) (by repeat (first | exact FillL.nil | exact SetN.done | apply SetN.here | apply SetN.there | apply FillL.cons))) ?_)
        refine TL.cons rfl (T1.call0 has_15 rfl (fun w hs => refOpen_any 400 a3 0 w ha32 (by decide) (by decide)) (fun v_ hv => ?_))
        rw [hop] at hv
        obtain rfl : v_ = .tuple #[.agg #[.int .i64 (n3 : Nat), .string (bstr v3)], .int .i64 0] := hv
        refine TL.cons rfl (V1.t (V1.move' (by (conv => lhs; whnf) <;> rfl)) ?_)
        refine TL.cons rfl (V1.t (V1.extract rfl (by rfl)) ?_)
        refine TL.cons rfl (V1.t (V1.extract rfl (by rfl)) ?_)
        refine TL.cons rfl (T1.allocN 2 zr_40 rfl (fun b12 => ?_))
        refine TL.cons rfl (T1.storeN (vs := [.int .i64 (n3 : Nat), .string (bstr v3)]) rfl rfl sz_40 (ones rfl) (by repeat (first | exact Sub.one | apply Sub.there | apply Sub.far)) (by rfl) (by rfl) ?_)
        refine TL.cons rfl (V1.t (V1.assign' (by (conv => lhs; whnf) <;> rfl)) ?_)
        refine TL.nil ?_
        refine T.seq ?_
        refine T.live (l := [(0, _), (1, _), (7, _), (11, _), (12, _), (13, _)]) (.cons (by (conv => lhs; whnf) <;> rfl) (.cons (by (conv => lhs; whnf) <;> rfl) (.cons (by (conv => lhs; whnf) <;> rfl) (.cons (by (conv => lhs; whnf) <;> rfl) (.cons (by (conv => lhs; whnf) <;> rfl) (.cons (by (conv => lhs; whnf) <;> rfl) .nil)))))) (fun e_ => ?_)
        refine T.region ?_
        refine TL.cons rfl (V1.t (V1.move' (by (conv => lhs; whnf) <;> rfl)) ?_)
        refine TL.cons rfl (T1.callX (X := [(⟨bd, 0, [.slice (some ⟨ba, 0, none⟩) a3.length a3.length, .int .i64 (-1)], 2⟩ : Blk), (⟨ba, 0, List.map byteV a3, a3.length⟩ : Blk)]) has_9 rfl (Open_any _ bd ba 400 a3 (-1) ha32 (by decide) (by decide)) (by repeat (first | exact Take.nil | apply Take.one (by repeat (first | exact Pick.here | apply Pick.there | apply Pick.far)) | apply Take.seg (by repeat (first | exact PickS.last | exact PickS.one | exact PickS.here | exact PickS.nil | apply PickS.there | apply PickS.far)) | exact Take.last (by repeat (first | exact PickS.last | exact PickS.one | exact PickS.here | exact PickS.nil | apply PickS.there | apply PickS.far)))) (fun v_ Y_ hY => ?_))
        rw [hop] at hY
        obtain ⟨bc4, Z4, rfl, hc4, rfl⟩ := hY
        simp only [List.append_assoc, List.cons_append, List.nil_append]
        refine TL.cons rfl (V1.t (V1.move' (by (conv => lhs; whnf) <;> rfl)) ?_)
        refine TL.cons rfl (V1.t (V1.extract rfl (by rfl)) ?_)
        refine TL.cons rfl (V1.t (V1.extract rfl (by rfl)) ?_)
        refine TL.cons rfl (V1.t (V1.assign' (by (conv => lhs; whnf) <;> rfl)) ?_)
        refine TL.cons rfl (V1.t (V1.assign' (by (conv => lhs; whnf) <;> rfl)) ?_)
        refine TL.nil ?_
        refine T.seq ?_
        refine T.seq ?_
        refine T.region ?_
        refine TL.cons rfl (V1.t (V1.move' (by (conv => lhs; whnf) <;> rfl)) ?_)
        refine TL.cons rfl (V1.t (V1.eqNil ty_29 rfl rfl) ?_)
        refine TL.cons rfl (V1.t (V1.move' (by (conv => lhs; whnf) <;> rfl)) ?_)
        refine TL.cons rfl (V1.t (V1.move' (by (conv => lhs; whnf) <;> rfl)) ?_)
        refine TL.cons rfl (V1.t (V1.neI rfl rfl (decide_eq_false (by omega))) ?_)
        refine TL.cons rfl (V1.t (V1.pick rfl (by (conv => lhs; whnf) <;> rfl)) ?_)
        refine TL.cons rfl (V1.t (V1.move' (by (conv => lhs; whnf) <;> rfl)) ?_)
        refine TL.cons rfl (V1.t (V1.move' (by (conv => lhs; whnf) <;> rfl)) ?_)
        refine TL.cons rfl (V1.t (V1.neI rfl rfl (decide_eq_false (by omega))) ?_)
        refine TL.cons rfl (V1.t (V1.pick rfl (by (conv => lhs; whnf) <;> rfl)) ?_)
        refine TL.nil ?_
        refine T.cond_f rfl ?_
        refine T.skip ?_
        refine T.seq ?_
        refine T.live (l := [(0, _), (1, _), (9, _), (11, _), (12, _)]) (.cons (by (conv => lhs; whnf) <;> rfl) (.cons (by (conv => lhs; whnf) <;> rfl) (.cons (by (conv => lhs; whnf) <;> rfl) (.cons (by (conv => lhs; whnf) <;> rfl) (.cons (by (conv => lhs; whnf) <;> rfl) .nil))))) (fun e_ => ?_)
        refine T.region ?_
        refine TL.cons rfl (V1.t (V1.move' (by (conv => lhs; whnf) <;> rfl)) ?_)
        refine TL.cons rfl (T1.callX (X := Z4) has_11 rfl (Value_any _ bc4 bd n3 v3 Z4 hc4 (by omega)) (by repeat (first | exact Take.nil | apply Take.one (by repeat (first | exact Pick.here | apply Pick.there | apply Pick.far)) | apply Take.seg (by repeat (first | exact PickS.last | exact PickS.one | exact PickS.here | exact PickS.nil | apply PickS.there | apply PickS.far)) | exact Take.last (by repeat (first | exact PickS.last | exact PickS.one | exact PickS.here | exact PickS.nil | apply PickS.there | apply PickS.far)))) (fun v_ Y_ hY => ?_))
        obtain ⟨Lz, rfl, hsz⟩ := hY
        simp only [List.append_assoc, List.cons_append, List.nil_append]
        refine TL.cons rfl (V1.t (V1.slToStr ty_33 ty_5 ty_9 rfl hsz (by repeat (first | exact Sub.here | exact Sub.last | apply Sub.there | apply Sub.far))) ?_)
        refine TL.cons rfl (V1.t (V1.assign' (by (conv => lhs; whnf) <;> rfl)) ?_)
        refine TL.nil ?_
        refine T.seq ?_
        refine T.seq ?_
        refine T.region ?_
        refine TL.cons rfl (V1.t (V1.move' (by (conv => lhs; whnf) <;> rfl)) ?_)
        refine TL.cons rfl (V1.t (V1.eqI rfl rfl (decide_eq_false (by omega))) ?_)
        refine TL.cons rfl (V1.t (V1.move' (by (conv => lhs; whnf) <;> rfl)) ?_)
        refine TL.no rfl ?_
        refine TL.no rfl ?_
        refine TL.no rfl ?_
        refine TL.no rfl ?_
        refine TL.cons rfl (V1.t (V1.pick rfl (by (conv => lhs; whnf) <;> rfl)) ?_)
        refine TL.cons rfl (V1.t (V1.move' (by (conv => lhs; whnf) <;> rfl)) ?_)
        refine TL.cons rfl (V1.t (V1.move' (by (conv => lhs; whnf) <;> rfl)) ?_)
        refine TL.cons rfl (V1.t (V1.neI rfl rfl (decide_eq_true (by omega))) ?_)
        refine TL.cons rfl (V1.t (V1.move' (by (conv => lhs; whnf) <;> rfl)) ?_)
        refine TL.cons rfl (V1.t (V1.move' (by (conv => lhs; whnf) <;> rfl)) ?_)
        refine TL.cons rfl (V1.t (V1.neI rfl rfl (decide_eq_false (by omega))) ?_)
        refine TL.cons rfl (V1.t (V1.pick rfl (by (conv => lhs; whnf) <;> rfl)) ?_)
        refine TL.cons rfl (V1.t (V1.pick rfl (by (conv => lhs; whnf) <;> rfl)) ?_)
        refine TL.nil ?_
        refine T.cond_f rfl ?_
        refine T.skip ?_
        refine T.seq ?_
        refine T.live (l := [(0, _), (1, _), (12, _), (15, _)]) (.cons (by (conv => lhs; whnf) <;> rfl) (.cons (by (conv => lhs; whnf) <;> rfl) (.cons (by (conv => lhs; whnf) <;> rfl) (.cons (by (conv => lhs; whnf) <;> rfl) .nil)))) (fun e_ => ?_)
        refine T.region ?_
        refine TL.cons rfl (V1.t (V1.move' (by (conv => lhs; whnf) <;> rfl)) ?_)
        refine TL.cons rfl (V1.t (V1.move' (by (conv => lhs; whnf) <;> rfl)) ?_)
        refine TL.cons rfl (V1.t (V1.bytesToStr (l := pa) ty_33 ty_5 ty_9 rfl ((PartR.old (Ps := []) sa).src _ rfl rfl _ (fun _ h => by cases h)) (by intro b h; cases h)) ?_)
        refine TL.cons rfl (T1.eqS_split rfl rfl (fun h21 => ?_) (fun h21 => ?_))
        ·
          refine TL.cons rfl (V1.t (V1.move' (by (conv => lhs; whnf) <;> rfl)) ?_)
          refine TL.no rfl ?_
          refine TL.no rfl ?_
          refine TL.no rfl ?_
          refine TL.no rfl ?_
          refine TL.cons rfl (V1.t (V1.pick rfl (by (conv => lhs; whnf) <;> rfl)) ?_)
          refine TL.cons rfl (V1.t (V1.move' (by (conv => lhs; whnf) <;> rfl)) ?_)
          refine TL.no rfl ?_
          refine TL.no rfl ?_
          refine TL.no rfl ?_
          refine TL.no rfl ?_
          refine TL.cons rfl (V1.t (V1.pick rfl (by (conv => lhs; whnf) <;> rfl)) ?_)
          refine TL.cons rfl (V1.t (V1.assign' (by (conv => lhs; whnf) <;> rfl)) ?_)
          refine TL.nil ?_
          refine T.ret ?_
          exact ⟨_, [], _, .cons (.tmp (by (conv => lhs; whnf) <;> rfl)) .nil, Take.nil, rfl⟩
        ·
          refine TL.cons rfl (V1.t (V1.move' (by (conv => lhs; whnf) <;> rfl)) ?_)
          refine TL.cons rfl (V1.t (V1.move' (by (conv => lhs; whnf) <;> rfl)) ?_)
          refine TL.cons rfl (V1.t (V1.move' (by (conv => lhs; whnf) <;> rfl)) ?_)
          refine TL.cons rfl (V1.t (V1.bytesToStr (l := pb) ty_33 ty_5 ty_9 rfl ((PartR.old (Ps := []) sb).src _ rfl rfl _ (fun _ h => by cases h)) (by intro b h; cases h)) ?_)
          refine TL.cons rfl (T1.eqS_split rfl rfl (fun h22 => ?_) (fun h22 => ?_))
          ·
            refine TL.cons rfl (V1.t (V1.pick rfl (by (conv => lhs; whnf) <;> rfl)) ?_)
            refine TL.cons rfl (V1.t (V1.move' (by (conv => lhs; whnf) <;> rfl)) ?_)
            refine TL.no rfl ?_
            refine TL.no rfl ?_
            refine TL.no rfl ?_
            refine TL.no rfl ?_
            refine TL.cons rfl (V1.t (V1.pick rfl (by (conv => lhs; whnf) <;> rfl)) ?_)
            refine TL.cons rfl (V1.t (V1.assign' (by (conv => lhs; whnf) <;> rfl)) ?_)
            refine TL.nil ?_
            refine T.ret ?_
            exact ⟨_, [], _, .cons (.tmp (by (conv => lhs; whnf) <;> rfl)) .nil, Take.nil, rfl⟩
          ·
            refine TL.cons rfl (V1.t (V1.pick rfl (by (conv => lhs; whnf) <;> rfl)) ?_)
            refine TL.cons rfl (V1.t (V1.move' (by (conv => lhs; whnf) <;> rfl)) ?_)
            refine TL.cons rfl (V1.t (V1.fieldAddr fl_40_1 rfl) ?_)
            refine TL.cons rfl (V1.t (V1.load1 one_9 rfl (.own (cells := [.int .i64 (n3 : Nat), .string (bstr v3)]) (by repeat (first | exact Find.here | assumption | apply Find.there | apply Find.far)) (by rfl))) ?_)
            refine TL.cons rfl (V1.t (V1.move' (by (conv => lhs; whnf) <;> rfl)) ?_)
            refine TL.cons rfl (V1.t (V1.eqS (r := true) rfl rfl (decide_eq_true rfl)) ?_)
            refine TL.cons rfl (V1.t (V1.pick rfl (by (conv => lhs; whnf) <;> rfl)) ?_)
            refine TL.cons rfl (V1.t (V1.assign' (by (conv => lhs; whnf) <;> rfl)) ?_)
            refine TL.nil ?_
            refine T.ret ?_
            exact ⟨_, [], _, .cons (.tmp (by (conv => lhs; whnf) <;> rfl)) .nil, Take.nil, rfl⟩
      ·
        obtain rfl := hok rfl
        simp only [if_true]
        refine TL.cons rfl (V1.t (V1.assign' (by (conv => lhs; whnf) <;> rfl)) ?_)
        refine TL.nil ?_
        refine T.seq ?_
        refine T.region ?_
        refine TL.cons rfl (V1.t (V1.move' (by (conv => lhs; whnf) <;> rfl)) ?_)
        refine TL.cons rfl (T1.callX (X := [(⟨bd, 0, [.slice (some ⟨ba, 0, none⟩) a3.length a3.length, .int .i64 pw3], 2⟩ : Blk)]) has_14 rfl (Mend_any _ bd ba a3.length pw3) (by repeat (first | exact Take.nil | apply Take.one (by repeat (first | exact Pick.here | apply Pick.there | apply Pick.far)) | apply Take.seg (by repeat (first | exact PickS.last | exact PickS.one | exact PickS.here | exact PickS.nil | apply PickS.there | apply PickS.far)) | exact Take.last (by repeat (first | exact PickS.last | exact PickS.one | exact PickS.here | exact PickS.nil | apply PickS.there | apply PickS.far)))) (fun v_ Y_ hY => ?_))
        obtain rfl := hY
        simp only [List.cons_append, List.nil_append]
        refine TL.nil ?_
        refine T.seq ?_
        refine T.region ?_
        refine TL.cons rfl (V1.t (V1.move' (by (conv => lhs; whnf) <;> rfl)) ?_)
        refine TL.cons rfl (T1.callX (X := [(⟨bd, 0, [.slice (some ⟨ba, 0, none⟩) a3.length a3.length, .int .i64 (-1)], 2⟩ : Blk), (⟨ba, 0, List.map byteV a3, a3.length⟩ : Blk)]) has_16 rfl (Bytes_any _ bd ba a3 (-1) (by omega)) (by repeat (first | exact Take.nil | apply Take.one (by repeat (first | exact Pick.here | apply Pick.there | apply Pick.far)) | apply Take.seg (by repeat (first | exact PickS.last | exact PickS.one | exact PickS.here | exact PickS.nil | apply PickS.there | apply PickS.far)) | exact Take.last (by repeat (first | exact PickS.last | exact PickS.one | exact PickS.here | exact PickS.nil | apply PickS.there | apply PickS.far)))) (fun v_ Y_ hY => ?_))
        obtain ⟨Lb, rfl, hsb⟩ := hY
        simp only [List.append_assoc, List.cons_append, List.nil_append]
        refine TL.cons rfl (V1.t (V1.slToStr ty_33 ty_5 ty_9 rfl hsb (by repeat (first | exact Sub.here | exact Sub.last | apply Sub.there | apply Sub.far))) ?_)
        refine TL.cons rfl (V1.t (V1.buildF pl_44 zr_44 (.one rfl (by (conv => lhs; whnf) <;> rfl) rfl .nil) (by repeat (first | exact FillL.nil | exact SetN.done | apply SetN.here | apply SetN.there | apply FillL.cons))) ?_)
        refine TL.cons rfl (T1.call0 has_15 rfl (fun w hs => refOpen_any 400 a3 0 w ha32 (by decide) (by decide)) (fun v_ hv => ?_))
        rw [hop] at hv
        obtain rfl : v_ = .tuple #[.agg #[.int .i64 (n3 : Nat), .string (bstr v3)], .int .i64 0] := hv
        refine TL.cons rfl (V1.t (V1.move' (by (conv => lhs; whnf) <;> rfl)) ?_)
        refine TL.cons rfl (V1.t (V1.extract rfl (by rfl)) ?_)
        refine TL.cons rfl (V1.t (V1.extract rfl (by rfl)) ?_)
        refine TL.cons rfl (T1.allocN 2 zr_40 rfl (fun b12 => ?_))
        refine TL.cons rfl (T1.storeN (vs := [.int .i64 (n3 : Nat), .string (bstr v3)]) rfl rfl sz_40 (ones rfl) (by repeat (first | exact Sub.one | apply Sub.there | apply Sub.far)) (by rfl) (by rfl) ?_)
        refine TL.cons rfl (V1.t (V1.assign' (by (conv => lhs; whnf) <;> rfl)) ?_)
        refine TL.nil ?_
        refine T.seq ?_
        refine T.live (l := [(0, _), (1, _), (7, _), (11, _), (12, _), (13, _)]) (.cons (by (conv => lhs; whnf) <;> rfl) (.cons (by (conv => lhs; whnf) <;> rfl) (.cons (by (conv => lhs; whnf) <;> rfl) (.cons (by (conv => lhs; whnf) <;> rfl) (.cons (by (conv => lhs; whnf) <;> rfl) (.cons (by (conv => lhs; whnf) <;> rfl) .nil)))))) (fun e_ => ?_)
        refine T.region ?_
        refine TL.cons rfl (V1.t (V1.move' (by (conv => lhs; whnf) <;> rfl)) ?_)
        refine TL.cons rfl (T1.callX (X := [(⟨bd, 0, [.slice (some ⟨ba, 0, none⟩) a3.length a3.length, .int .i64 (-1)], 2⟩ : Blk), (⟨ba, 0, List.map byteV a3, a3.length⟩ : Blk)]) has_9 rfl (Open_any _ bd ba 400 a3 (-1) ha32 (by decide) (by decide)) (by repeat (first | exact Take.nil | apply Take.one (by repeat (first | exact Pick.here | apply Pick.there | apply Pick.far)) | apply Take.seg (by repeat (first | exact PickS.last | exact PickS.one | exact PickS.here | exact PickS.nil | apply PickS.there | apply PickS.far)) | exact Take.last (by repeat (first | exact PickS.last | exact PickS.one | exact PickS.here | exact PickS.nil | apply PickS.there | apply PickS.far)))) (fun v_ Y_ hY => ?_))
        rw [hop] at hY
        obtain ⟨bc4, Z4, rfl, hc4, rfl⟩ := hY
        simp only [List.append_assoc, List.cons_append, List.nil_append]
        refine TL.cons rfl (V1.t (V1.move' (by (conv => lhs; whnf) <;> rfl)) ?_)
        refine TL.cons rfl (V1.t (V1.extract rfl (by rfl)) ?_)
        refine TL.cons rfl (V1.t (V1.extract rfl (by rfl)) ?_)
        refine TL.cons rfl (V1.t (V1.assign' (by (conv => lhs; whnf) <;> rfl)) ?_)
        refine TL.cons rfl (V1.t (V1.assign' (by (conv => lhs; whnf) <;> rfl)) ?_)
        refine TL.nil ?_
        refine T.seq ?_
        refine T.seq ?_
        refine T.region ?_
        refine TL.cons rfl (V1.t (V1.move' (by (conv => lhs; whnf) <;> rfl)) ?_)
        refine TL.cons rfl (V1.t (V1.eqNil ty_29 rfl rfl) ?_)
        refine TL.cons rfl (V1.t (V1.move' (by (conv => lhs; whnf) <;> rfl)) ?_)
        refine TL.cons rfl (V1.t (V1.move' (by (conv => lhs; whnf) <;> rfl)) ?_)
        refine TL.cons rfl (V1.t (V1.neI rfl rfl (decide_eq_false (by omega))) ?_)
        refine TL.cons rfl (V1.t (V1.pick rfl (by (conv => lhs; whnf) <;> rfl)) ?_)
        refine TL.cons rfl (V1.t (V1.move' (by (conv => lhs; whnf) <;> rfl)) ?_)
        refine TL.cons rfl (V1.t (V1.move' (by (conv => lhs; whnf) <;> rfl)) ?_)
        refine TL.cons rfl (V1.t (V1.neI rfl rfl (decide_eq_false (by omega))) ?_)
        refine TL.cons rfl (V1.t (V1.pick rfl (by (conv => lhs; whnf) <;> rfl)) ?_)
        refine TL.nil ?_
        refine T.cond_f rfl ?_
        refine T.skip ?_
        refine T.seq ?_
        refine T.live (l := [(0, _), (1, _), (9, _), (11, _), (12, _)]) (.cons (by (conv => lhs; whnf) <;> rfl) (.cons (by (conv => lhs; whnf) <;> rfl) (.cons (by (conv => lhs; whnf) <;> rfl) (.cons (by (conv => lhs; whnf) <;> rfl) (.cons (by (conv => lhs; whnf) <;> rfl) .nil))))) (fun e_ => ?_)
        refine T.region ?_
        refine TL.cons rfl (V1.t (V1.move' (by (conv => lhs; whnf) <;> rfl)) ?_)
        refine TL.cons rfl (T1.callX (X := Z4) has_11 rfl (Value_any _ bc4 bd n3 v3 Z4 hc4 (by omega)) (by repeat (first | exact Take.nil | apply Take.one (by repeat (first | exact Pick.here | apply Pick.there | apply Pick.far)) | apply Take.seg (by repeat (first | exact PickS.last | exact PickS.one | exact PickS.here | exact PickS.nil | apply PickS.there | apply PickS.far)) | exact Take.last (by repeat (first | exact PickS.last | exact PickS.one | exact PickS.here | exact PickS.nil | apply PickS.there | apply PickS.far)))) (fun v_ Y_ hY => ?_))
        obtain ⟨Lz, rfl, hsz⟩ := hY
        simp only [List.append_assoc, List.cons_append, List.nil_append]
        refine TL.cons rfl (V1.t (V1.slToStr ty_33 ty_5 ty_9 rfl hsz (by repeat (first | exact Sub.here | exact Sub.last | apply Sub.there | apply Sub.far))) ?_)
        refine TL.cons rfl (V1.t (V1.assign' (by (conv => lhs; whnf) <;> rfl)) ?_)
        refine TL.nil ?_
        refine T.seq ?_
        refine T.seq ?_
        refine T.region ?_
        refine TL.cons rfl (V1.t (V1.move' (by (conv => lhs; whnf) <;> rfl)) ?_)
        refine TL.cons rfl (V1.t (V1.eqI rfl rfl (decide_eq_true (by omega))) ?_)
        refine TL.cons rfl (V1.t (V1.move' (by (conv => lhs; whnf) <;> rfl)) ?_)
        refine TL.cons rfl (V1.t (V1.move' (by (conv => lhs; whnf) <;> rfl)) ?_)
        refine TL.cons rfl (V1.t (V1.move' (by (conv => lhs; whnf) <;> rfl)) ?_)
        refine TL.cons rfl (V1.t (V1.bytesToStr (l := v3) ty_33 ty_5 ty_9 rfl ((PartR.old (Ps := []) sb).src _ rfl rfl _ (fun _ h => by cases h)) (by intro b h; cases h)) ?_)
        refine TL.cons rfl (V1.t (V1.neS (r := false) rfl rfl (by simp)) ?_)
        refine TL.cons rfl (V1.t (V1.pick rfl (by (conv => lhs; whnf) <;> rfl)) ?_)
        refine TL.cons rfl (V1.t (V1.move' (by (conv => lhs; whnf) <;> rfl)) ?_)
        refine TL.cons rfl (V1.t (V1.move' (by (conv => lhs; whnf) <;> rfl)) ?_)
        refine TL.cons rfl (V1.t (V1.neI rfl rfl (decide_eq_false (by omega))) ?_)
        refine TL.cons rfl (V1.t (V1.move' (by (conv => lhs; whnf) <;> rfl)) ?_)
        refine TL.no rfl ?_
        refine TL.no rfl ?_
        refine TL.cons rfl (V1.t (V1.pick rfl (by (conv => lhs; whnf) <;> rfl)) ?_)
        refine TL.cons rfl (V1.t (V1.pick rfl (by (conv => lhs; whnf) <;> rfl)) ?_)
        refine TL.nil ?_
        refine T.cond_f rfl ?_
        refine T.skip ?_
        refine T.seq ?_
        refine T.live (l := [(0, _), (1, _), (12, _), (15, _)]) (.cons (by (conv => lhs; whnf) <;> rfl) (.cons (by (conv => lhs; whnf) <;> rfl) (.cons (by (conv => lhs; whnf) <;> rfl) (.cons (by (conv => lhs; whnf) <;> rfl) .nil)))) (fun e_ => ?_)
        refine T.region ?_
        refine TL.cons rfl (V1.t (V1.move' (by (conv => lhs; whnf) <;> rfl)) ?_)
        refine TL.cons rfl (V1.t (V1.move' (by (conv => lhs; whnf) <;> rfl)) ?_)
        refine TL.cons rfl (V1.t (V1.bytesToStr (l := pa) ty_33 ty_5 ty_9 rfl ((PartR.old (Ps := []) sa).src _ rfl rfl _ (fun _ h => by cases h)) (by intro b h; cases h)) ?_)
        refine TL.cons rfl (T1.eqS_split rfl rfl (fun h21 => ?_) (fun h21 => ?_))
        ·
          refine TL.cons rfl (V1.t (V1.move' (by (conv => lhs; whnf) <;> rfl)) ?_)
          refine TL.no rfl ?_
          refine TL.no rfl ?_
          refine TL.no rfl ?_
          refine TL.no rfl ?_
          refine TL.cons rfl (V1.t (V1.pick rfl (by (conv => lhs; whnf) <;> rfl)) ?_)
          refine TL.cons rfl (V1.t (V1.move' (by (conv => lhs; whnf) <;> rfl)) ?_)
          refine TL.no rfl ?_
          refine TL.no rfl ?_
          refine TL.no rfl ?_
          refine TL.no rfl ?_
          refine TL.cons rfl (V1.t (V1.pick rfl (by (conv => lhs; whnf) <;> rfl)) ?_)
          refine TL.cons rfl (V1.t (V1.assign' (by (conv => lhs; whnf) <;> rfl)) ?_)
          refine TL.nil ?_
          refine T.ret ?_
          exact ⟨_, [], _, .cons (.tmp (by (conv => lhs; whnf) <;> rfl)) .nil, Take.nil, rfl⟩
        ·
          refine TL.cons rfl (V1.t (V1.move' (by (conv => lhs; whnf) <;> rfl)) ?_)
          refine TL.cons rfl (V1.t (V1.move' (by (conv => lhs; whnf) <;> rfl)) ?_)
          refine TL.cons rfl (V1.t (V1.move' (by (conv => lhs; whnf) <;> rfl)) ?_)
          refine TL.cons rfl (V1.t (V1.bytesToStr (l := v3) ty_33 ty_5 ty_9 rfl ((PartR.old (Ps := []) sb).src _ rfl rfl _ (fun _ h => by cases h)) (by intro b h; cases h)) ?_)
          refine TL.cons rfl (T1.eqS_split rfl rfl (fun h22 => ?_) (fun h22 => ?_))
          ·
            refine TL.cons rfl (V1.t (V1.pick rfl (by (conv => lhs; whnf) <;> rfl)) ?_)
            refine TL.cons rfl (V1.t (V1.move' (by (conv => lhs; whnf) <;> rfl)) ?_)
            refine TL.no rfl ?_
            refine TL.no rfl ?_
            refine TL.no rfl ?_
            refine TL.no rfl ?_
            refine TL.cons rfl (V1.t (V1.pick rfl (by (conv => lhs; whnf) <;> rfl)) ?_)
            refine TL.cons rfl (V1.t (V1.assign' (by (conv => lhs; whnf) <;> rfl)) ?_)
            refine TL.nil ?_
            refine T.ret ?_
            exact ⟨_, [], _, .cons (.tmp (by (conv => lhs; whnf) <;> rfl)) .nil, Take.nil, rfl⟩
          ·
            refine TL.cons rfl (V1.t (V1.pick rfl (by (conv => lhs; whnf) <;> rfl)) ?_)
            refine TL.cons rfl (V1.t (V1.move' (by (conv => lhs; whnf) <;> rfl)) ?_)
            refine TL.cons rfl (V1.t (V1.fieldAddr fl_40_1 rfl) ?_)
            refine TL.cons rfl (V1.t (V1.load1 one_9 rfl (.own (cells := [.int .i64 (n3 : Nat), .string (bstr v3)]) (by repeat (first | exact Find.here | assumption | apply Find.there | apply Find.far)) (by rfl))) ?_)
            refine TL.cons rfl (V1.t (V1.move' (by (conv => lhs; whnf) <;> rfl)) ?_)
            refine TL.cons rfl (V1.t (V1.eqS (r := true) rfl rfl (decide_eq_true rfl)) ?_)
            refine TL.cons rfl (V1.t (V1.pick rfl (by (conv => lhs; whnf) <;> rfl)) ?_)
            refine TL.cons rfl (V1.t (V1.assign' (by (conv => lhs; whnf) <;> rfl)) ?_)
            refine TL.nil ?_
            refine T.ret ?_
            exact ⟨_, [], _, .cons (.tmp (by (conv => lhs; whnf) <;> rfl)) .nil, Take.nil, rfl⟩

end Go.Proofs.Ytmolpgnekcfimaa.S
