/- Reading data. -/
import Derived.Test.YtijijaobialncaaFr7
namespace Go.Proofs.Ytijijaobialncaa.S
open Go.RowKit

/-- What reading data hands back. -/
def dataR (w0 : World) (b : Nat) (bad : Int) (l : List UInt8) (n : Nat) (v : Value) (Y : List Blk) : Prop :=
  ∃ (rest' : Value) (bad' : Int) (xs : List UInt8) (Ys : List Blk), Sl v (xs.map byteV) 1 Ys ∧ Y = ⟨b, 0, [rest', .int .i64 bad'], 2⟩ :: Ys ∧
    ((bad = 0 ∧ bad' = 0 ∧ 4 ≤ l.length ∧ n ≤ 16384 ∧ 4 + n ≤ l.length ∧ xs = (l.drop 4).take (n) ∧ SlR w0 rest' 1 (l.length - 4 - n) ((l.drop (4 + n)).map byteV)) ∨
     (bad' ≠ 0 ∧ (bad ≠ 0 ∨ l.length < 4 ∨ 16384 < n ∨ l.length < 4 + n) ∧ bad' = (if bad ≠ 0 then bad else if l.length < 4 then 111 else if 16384 < n then 2 else 111)))

set_option maxRecDepth 100000 in
theorem readdata_any (b : Nat) (rest : Value) (bad : Int) (l : List UInt8) (w0 : World) (hr : SlR w0 rest 1 l.length (l.map byteV)) (hl : l.length < 9223372036854775808) (n : Nat) (hn : n = rd32 l 0) : FnX P 32 [.pointer (some ⟨b, 0, none⟩)] w0 [] [⟨b, 0, [rest, .int .i64 bad], 2⟩] (dataR w0 b bad l n) := by
  have hrd := rd32_lt l 0
  rw [← hn] at hrd
  refine FnX.of 29 [.tmp 2] Go.Proofs.Try.func32 rfl rfl rfl rfl (fun G => ?_)
  refine T.seq ?_
  refine T.region ?_
  refine TL.cons rfl (V1.t (V1.assign' z_B) ?_)
  refine TL.nil ?_
  refine T.seq ?_
  refine T.region ?_
  refine TL.cons rfl (V1.t (V1.move' z_B) ?_)
  refine TL.cons rfl (T1.callX has_31 rfl (readnumber_any b rest bad l w0 hr hl) z_A (fun v Y hv => ?_))
  obtain ⟨r2, bad2, m, rfl, rfl, hcase⟩ := hv
  rcases hcase with ⟨rfl, rfl, h4, hn2, hr2⟩ | ⟨h1, h2, rfl, _⟩
  ·
    rw [← hn] at hn2
    replace hn2 := hn2.symm
    subst hn2
    refine TL.cons rfl (V1.t (V1.assign' z_B) ?_)
    refine TL.nil ?_
    refine T.seq ?_
    refine T.seq ?_
    refine T.region ?_
    refine TL.cons rfl (V1.t (V1.move' z_B) ?_)
    refine TL.cons rfl (V1.t (V1.nilCheck rfl) ?_)
    refine TL.cons rfl (V1.t (V1.fieldAddr fl_78_1 rfl) ?_)
    refine TL.cons rfl (V1.t (V1.load1 one_25 rfl (.own z_D (by rfl))) ?_)
    refine TL.cons rfl (V1.t (V1.eqI rfl rfl (decide_eq_true (by omega))) ?_)
    refine TL.cons rfl (V1.t (V1.move' z_B) ?_)
    refine TL.cons rfl (V1.t (V1.move' z_B) ?_)
    refine TL.cons rfl (T1.gtI_split rfl rfl (fun h2_7 => ?_) (fun h2_7 => ?_))
    ·
      refine TL.cons rfl (V1.t (V1.pick rfl z_B) ?_)
      refine TL.nil ?_
      refine T.cond_t rfl ?_
      refine T.region ?_
      refine TL.cons rfl (V1.t (V1.move' z_B) ?_)
      refine TL.cons rfl (V1.t (V1.nilCheck rfl) ?_)
      refine TL.cons rfl (V1.t (V1.fieldAddr fl_78_1 rfl) ?_)
      refine TL.cons rfl (T1.store1 rfl rfl sz_25 rfl z_H (Nat.zero_le _) z_J ?_)
      refine TL.nil ?_
      refine T.seq ?_
      refine T.seq ?_
      refine T.live (l := [(0, _), (3, _)]) (.cons z_B (.cons z_B .nil)) (fun e_ => ?_)
      refine T.region ?_
      refine TL.cons rfl (V1.t (V1.move' z_B) ?_)
      refine TL.cons rfl (V1.t (V1.nilCheck rfl) ?_)
      refine TL.cons rfl (V1.t (V1.fieldAddr fl_78_1 rfl) ?_)
      refine TL.cons rfl (V1.t (V1.load1 one_25 rfl (.own z_D (by rfl))) ?_)
      refine TL.cons rfl (V1.t (V1.neI rfl rfl (decide_eq_true (by omega))) ?_)
      refine TL.nil ?_
      refine T.cond_t rfl ?_
      refine T.seq ?_
      refine T.region ?_
      refine TL.cons rfl (V1.t (V1.assign' z_B) ?_)
      refine TL.nil ?_
      refine T.ret ?_
      exact ⟨_, _, _, .cons (.tmp z_B) .nil, z_A, [⟨b, 0, [r2, .int .i64 2], 2⟩], rfl, r2, 2, [], [], Sl.nil, rfl, .inr ⟨by decide, by omega, by rw [if_neg (by decide), if_neg (by omega), if_pos (by omega)]⟩⟩
    ·
      refine TL.cons rfl (V1.t (V1.pick rfl z_B) ?_)
      refine TL.nil ?_
      refine T.cond_f rfl ?_
      refine T.skip ?_
      refine T.seq ?_
      refine T.seq ?_
      refine T.region ?_
      refine TL.cons rfl (V1.t (V1.move' z_B) ?_)
      refine TL.cons rfl (V1.t (V1.nilCheck rfl) ?_)
      refine TL.cons rfl (V1.t (V1.fieldAddr fl_78_1 rfl) ?_)
      refine TL.cons rfl (V1.t (V1.load1 one_25 rfl (.own z_D (by rfl))) ?_)
      refine TL.cons rfl (V1.t (V1.neI rfl rfl (decide_eq_false (by omega))) ?_)
      refine TL.nil ?_
      refine T.cond_f rfl ?_
      refine T.skip ?_
      refine T.seq ?_
      refine T.live (l := [(0, _), (3, _)]) (.cons z_B (.cons z_B .nil)) (fun e_ => ?_)
      refine T.region ?_
      refine TL.cons rfl (T1.buildSl1 (os := []) ty_29 sz_5 zr_5 (by decide) rfl .nil rfl (ones rfl) (fun b23 => ?_))
      refine TL.cons rfl (V1.t (V1.move' z_B) ?_)
      refine TL.cons rfl (V1.t (V1.move' z_B) ?_)
      refine TL.cons rfl (V1.t (V1.conv ty_27 ty_3 rfl (wrap_i64 _ (by omega) (by omega))) ?_)
      refine TL.cons rfl (T1.callX has_29 rfl (take_any b n r2 0 (l.drop 4) w0 (by rw [List.length_drop]; exact hr2) (by omega) (by rw [List.length_drop]; omega)) z_A (fun v Y hv => ?_))
      rw [takeR, List.length_drop] at hv
      rcases hv with ⟨_, h5, hv3, r3, hr3, rfl⟩ | ⟨h5, bz, r3, rfl, _, rfl⟩
      ·
        dsimp only [List.cons_append, List.nil_append]
        refine TL.cons rfl (T1.append ty_29 kd_29 sz_5 by_5 zr_5 rfl (by decide) (by decide) rfl rfl (Sl.mk (b := b23) (xs := []) (len := 0) (cap := 0) (size := 0) rfl (Nat.le_refl _) (Nat.le_refl _)) (hv3.src rfl) (one_bytes _) 20000 (by simp only [List.length_map, List.length_take, List.length_nil]; omega) (by omega) z_C (fun s' Ls' hsl' => ?_))
        refine TL.cons rfl (V1.t (V1.assign' z_B) ?_)
        refine TL.nil ?_
        refine T.ret ?_
        rw [List.drop_drop] at hr3
        exact ⟨_, _, _, .cons (.tmp z_B) .nil, z_A, ⟨b, 0, [r3, .int .i64 0], 2⟩ :: Ls', rfl, r3, 0, _, Ls', hsl', rfl, .inl ⟨rfl, rfl, h4, by omega, by omega, rfl, hr3⟩⟩
      ·
        dsimp only [List.cons_append, List.nil_append]
        refine TL.cons rfl (T1.append ty_29 kd_29 sz_5 by_5 zr_5 rfl (by decide) (by decide) rfl rfl (Sl.mk (b := b23) (xs := []) (len := 0) (cap := 0) (size := 0) rfl (Nat.le_refl _) (Nat.le_refl _)) (.sl (RdN.whole z_D) (by simp)) (fun u hu => (List.eq_of_mem_replicate hu) ▸ rfl) 20000 (by simp only [List.length_replicate, List.length_nil]; omega) (by omega) z_C (fun s' Ls' hsl' => ?_))
        refine TL.cons rfl (V1.t (V1.assign' z_B) ?_)
        refine TL.nil ?_
        refine T.ret ?_
        exact ⟨_, _, _, .cons (.tmp z_B) .nil, z_A, ⟨b, 0, [r3, .int .i64 111], 2⟩ :: Ls', rfl, r3, 111, List.replicate (min (n) 64) 0, Ls', by rw [List.map_replicate]; exact hsl', rfl, .inr ⟨by decide, by omega, by rw [if_neg (by decide), if_neg (by omega), if_neg (by omega)]⟩⟩
  ·
    have hb2 : bad2 ≠ 0 := by (rw [h2]; split <;> omega)
    refine TL.cons rfl (V1.t (V1.assign' z_B) ?_)
    refine TL.nil ?_
    refine T.seq ?_
    refine T.seq ?_
    refine T.region ?_
    refine TL.cons rfl (V1.t (V1.move' z_B) ?_)
    refine TL.cons rfl (V1.t (V1.nilCheck rfl) ?_)
    refine TL.cons rfl (V1.t (V1.fieldAddr fl_78_1 rfl) ?_)
    refine TL.cons rfl (V1.t (V1.load1 one_25 rfl (.own z_D (by rfl))) ?_)
    refine TL.cons rfl (V1.t (V1.eqI rfl rfl (decide_eq_false (by omega))) ?_)
    refine TL.cons rfl (V1.t (V1.move' z_B) ?_)
    refine TL.no rfl ?_
    refine TL.no rfl ?_
    refine TL.cons rfl (V1.t (V1.pick rfl z_B) ?_)
    refine TL.nil ?_
    refine T.cond_f rfl ?_
    refine T.skip ?_
    refine T.seq ?_
    refine T.seq ?_
    refine T.region ?_
    refine TL.cons rfl (V1.t (V1.move' z_B) ?_)
    refine TL.cons rfl (V1.t (V1.nilCheck rfl) ?_)
    refine TL.cons rfl (V1.t (V1.fieldAddr fl_78_1 rfl) ?_)
    refine TL.cons rfl (V1.t (V1.load1 one_25 rfl (.own z_D (by rfl))) ?_)
    refine TL.cons rfl (V1.t (V1.neI rfl rfl (decide_eq_true (by omega))) ?_)
    refine TL.nil ?_
    refine T.cond_t rfl ?_
    refine T.seq ?_
    refine T.live (l := []) .nil (fun e_ => ?_)
    refine T.region ?_
    refine TL.cons rfl (V1.t (V1.assign' z_B) ?_)
    refine TL.nil ?_
    refine T.ret ?_
    exact ⟨_, _, _, .cons (.tmp z_B) .nil, z_A, [⟨b, 0, [r2, .int .i64 bad2], 2⟩], rfl, r2, bad2, [], [], Sl.nil, rfl, .inr ⟨hb2, by omega, by rw [h2]; by_cases hz : bad = 0 <;> simp [hz] <;> omega⟩⟩

end Go.Proofs.Ytijijaobialncaa.S
