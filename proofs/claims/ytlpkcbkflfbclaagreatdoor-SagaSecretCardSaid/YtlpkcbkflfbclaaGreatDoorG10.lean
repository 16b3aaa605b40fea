/- What two say is not had by a third one who was laid bare. -/
import Derived.Test.YtlpkcbkflfbclaaGreatDoorG8
import Derived.Test.YtlpkcbkflfbclaaGreatDoorG9
namespace Go.Proofs.YtlpkcbkflfbclaaGreatDoor.S
open Go.RowKit

def hidE1 : List (Int × Int) := [(1, 1), (1, 2), (3, 1), (4, 3)]
def hidE2 : List (Int × Int) := [(1, 1), (1, 2), (3, 1), (4, 3), (4, 2)]
def hidT : Td := ⟨1, 2, [1, 2], 1⟩
theorem hid1 : secL hidE1 = [hidT] ∧ (sgRun hidE1).1 = 0 := by decide +kernel
theorem hid2 : secL hidE2 = [] ∧ (sgRun hidE2).1 = 0 := by decide +kernel
/-- A slice of one's own, its form. -/
theorem SlG.formT {tg : Option TypeId} {s : Value} {xs : List Value} {k n : Nat} {Ls : List Blk} (h : SlG tg s xs k Ls) (hk : 0 < k) (hl : xs.length = n * k) : ∃ a c, s = .slice a n c := by
  rcases h with ⟨rfl, rfl, _⟩ | ⟨b, off, len, cap, size, rfl, h1, _⟩
  · have : n = 0 := by
      rcases Nat.eq_zero_or_pos n with h | h
      · exact h
      · have := Nat.mul_pos h hk; simp at hl; omega
    subst this; exact ⟨_, _, rfl⟩
  · have : len = n := Nat.eq_of_mul_eq_mul_right hk (by omega)
    subst this; exact ⟨_, _, rfl⟩
theorem SlG.blkT {tg : Option TypeId} {s : Value} {xs : List Value} {n k : Nat} {Ls : List Blk} (h : SlG tg s xs k Ls) (hk : 0 < k) (hl : xs.length = n * k) (hn : 0 < n) : ∃ b off cap size, s = .slice (some ⟨b, off, none⟩) n cap ∧ n ≤ cap ∧ off + cap * k ≤ size ∧ Ls = [⟨⟨b, tg⟩, off, xs, size⟩] := by
  rcases h with ⟨_, rfl, _⟩ | ⟨b, off, len, cap, size, rfl, h1, h2, h3, rfl⟩
  · have := Nat.mul_pos hn hk; simp at hl; omega
  · have : len = n := Nat.eq_of_mul_eq_mul_right hk (by omega)
    subst this; exact ⟨b, off, cap, size, rfl, h2, h3, rfl⟩
theorem hid_told {w0 : World} {Ps : List Blk} {xt : List Value} (h : TdsR w0 Ps [hidT] xt) : ∃ a c, xt = [iV 1, iV 2, .slice a 2 c, .int .i64 1, .string (bstr (nmb sText [1])), .slice none 0 0] := by
  obtain ⟨cs, rest, rfl, ⟨a, c, rfl, _⟩, h2⟩ := h
  rw [show rest = [] from h2]
  exact ⟨a, c, rfl⟩
/-- A call of Secret, all said with literals. -/
theorem Secret_at (w0 : World) (Ps : List Blk) (es : List (Int × Int)) (T : List Td) (r : Int) (n : Nat) (cs : List Value) (hT : secL es = T) (hr : (sgRun es).1 = r) (hn : es.length = n) (hcs : es.flatMap evC = cs) {a : Option Addr} {c : Nat} (h : RowR w0 Ps 2 (.slice a n c) n cs) : FnG P 26 [.slice a n c] w0 Ps [] (fun v Y => ∃ vt xt Lt Q, Y = Lt ++ Q ∧ v = .tuple #[vt, .int .i64 r] ∧ SlG (some 55) vt xt 6 Lt ∧ TdsR w0 (Q ++ Ps) T xt) := by
  subst hT hr hn hcs
  exact Secret_us w0 Ps h
theorem hidS1 : secL hidE1 = [hidT] := hid1.1
theorem hidN1 : (sgRun hidE1).1 = 0 := hid1.2
theorem hidS2 : secL hidE2 = [] := hid2.1
theorem hidN2 : (sgRun hidE2).1 = 0 := hid2.2
theorem hidL1 : hidE1.length = 4 := rfl
theorem hidL2 : hidE2.length = 5 := rfl
theorem hidC1 : hidE1.flatMap evC = [.int .i64 1, .int .i64 1, .int .i64 1, .int .i64 2, .int .i64 3, .int .i64 1, .int .i64 4, .int .i64 3] := rfl
theorem hidC2 : hidE2.flatMap evC = [.int .i64 1, .int .i64 1, .int .i64 1, .int .i64 2, .int .i64 3, .int .i64 1, .int .i64 4, .int .i64 3] ++ [.int .i64 4, .int .i64 2] := rfl
theorem hid_txt : txt (textT 1) = [116, 101, 120, 116, 49, 120] := by decide +kernel

theorem ld_own {C : Ctx} {L : List Blk} {b off size i : Nat} {tg : Option TypeId} {cs : List Value} {v : Value} (hf : Find L ⟨⟨b, tg⟩, off, cs, size⟩) (h : cs[i]? = some v) : Rd C L ⟨b, off + 0 * 6 + i, none⟩ v := by
  rw [Nat.zero_mul, Nat.add_zero]
  exact RdN.at0 hf i v h
set_option maxRecDepth 100000 in
set_option maxHeartbeats 8000000 in
theorem hides_any (w0 : World) : FnV P 21 [] w0 [] (fun v => v = .bool true) := by
  refine FnV.of 68 [.tmp 0] Go.Proofs.Tryz.func21 rfl rfl rfl rfl (fun G hG => ?_)
  refine T.seq ?_
  refine T.region ?_
  refine TL.cons rfl (V1.t (V1.assign' z_C) ?_)
  refine TL.nil ?_
  refine T.seq ?_
  refine T.region ?_
  refine TL.cons rfl (V1.t (V1.buildF pl_62 zr_62 (.one rfl z_C rfl (.one rfl z_C rfl .nil)) z_H) ?_)
  refine TL.cons rfl (V1.t (V1.buildF pl_62 zr_62 (.one rfl z_C rfl (.one rfl z_C rfl .nil)) z_H) ?_)
  refine TL.cons rfl (V1.t (V1.buildF pl_62 zr_62 (.one rfl z_C rfl (.one rfl z_C rfl .nil)) z_H) ?_)
  refine TL.cons rfl (V1.t (V1.buildF pl_62 zr_62 (.one rfl z_C rfl (.one rfl z_C rfl .nil)) z_H) ?_)
  refine TL.cons rfl (T1.buildMany (vss := [[.int .i64 1, .int .i64 1], [.int .i64 1, .int .i64 2], [.int .i64 3, .int .i64 1], [.int .i64 4, .int .i64 3]]) (os := [.tmp 6, .tmp 7, .tmp 8, .tmp 9]) ty_42 sz_62 zr_62 (by decide) rfl (.cons rfl (.cons rfl (.cons rfl (.cons rfl .nil)))) rfl (by intro l hl; simp only [List.mem_cons, List.not_mem_nil, or_false] at hl; rcases hl with rfl | rfl | rfl | rfl <;> rfl) (fun b10 => ?_))
  refine TL.cons rfl (V1.t (V1.assign' z_C) ?_)
  refine TL.nil ?_
  refine T.seq ?_
  refine T.region ?_
  refine TL.cons rfl (V1.t (V1.move' z_C) ?_)
  refine TL.cons rfl (T1.callC has_26 rfl rfl (Secret_at w0 [(⟨⟨b10, some 62⟩, 0, [[.int .i64 1, .int .i64 1], [.int .i64 1, .int .i64 2], [.int .i64 3, .int .i64 1], [.int .i64 4, .int .i64 3]].flatten, 4 * 2⟩ : Blk)] hidE1 [hidT] 0 4 [.int .i64 1, .int .i64 1, .int .i64 1, .int .i64 2, .int .i64 3, .int .i64 1, .int .i64 4, .int .i64 3] hidS1 hidN1 hidL1 hidC1 (RowR.own (tg := some 62) (size := 4 * 2) (vs := [.int .i64 1, .int .i64 1, .int .i64 1, .int .i64 2, .int .i64 3, .int .i64 1, .int .i64 4, .int .i64 3]) (List.mem_cons_self ..) rfl)) z_B (fun v_ Y1 hY => ?_))
  obtain ⟨vt, xt, Lt, Q, rfl, rfl, hst, hxt⟩ := hY
  obtain ⟨a_, c_, rfl⟩ := hid_told hxt
  obtain ⟨b_, off_, cap_, size_, rfl, hcap_, hsz_, rfl⟩ := hst.blkT (n := 1) (by decide) rfl (by decide)
  simp only [List.cons_append, List.nil_append]
  refine TL.cons rfl (V1.t (V1.move' z_C) ?_)
  refine TL.cons rfl (V1.t (V1.extract rfl (by rfl)) ?_)
  refine TL.cons rfl (V1.t (V1.extract rfl (by rfl)) ?_)
  refine TL.cons rfl (V1.t (V1.assign' z_C) ?_)
  refine TL.cons rfl (V1.t (V1.assign' z_C) ?_)
  refine TL.nil ?_
  refine T.seq ?_
  refine T.region ?_
  refine TL.cons rfl (V1.t (V1.move' z_C) ?_)
  refine TL.cons rfl (V1.t (V1.buildF pl_62 zr_62 (.one rfl z_C rfl (.one rfl z_C rfl .nil)) z_H) ?_)
  refine TL.cons rfl (T1.buildOne (cs := [.int .i64 4, .int .i64 2]) ty_42 sz_62 zr_62 (by decide) rfl (by rfl) (fun b19 => ?_))
  refine TL.cons rfl (T1.appendG ty_42 kd_42 sz_62 by_62 zr_62 rfl (by decide) (by decide) rfl rfl (.inr rfl) (SlG.mk (tg := some 62) (b := b10) (off := 0) (len := 4) (cap := 4) (size := 4 * 2) (k := 2) (xs := [.int .i64 1, .int .i64 1, .int .i64 1, .int .i64 2, .int .i64 3, .int .i64 1, .int .i64 4, .int .i64 3]) rfl (by decide) (by decide)) (.sl (vs := [.int .i64 4, .int .i64 2]) (RdN.at0 z_D) (by rfl)) (ones rfl) 5 (by decide) (by decide) z_E (fun s2 Ls2 hsl2 => ?_))
  obtain ⟨a2, c2, rfl⟩ := hsl2.formT (n := 5) (by decide) rfl
  have hs2 := Secret_at w0 (Ls2 ++ []) hidE2 [] 0 5 _ hidS2 hidN2 hidL2 hidC2 (RowR.ofSl hsl2 Inc.here (by decide) 5 rfl)
  refine TL.cons rfl (T1.callC has_26 rfl rfl hs2 z_B (fun v_ Y2 hY => ?_))
  obtain ⟨vt2, xt2, Lt2, Q2, rfl, rfl, hst2, hxt2⟩ := hY
  obtain ⟨a3, c3, rfl⟩ := hst2.formT (n := 0) (by decide) (by rw [hxt2.of.1]; rfl)
  simp only [List.append_assoc]
  refine TL.cons rfl (V1.t (V1.move' z_C) ?_)
  refine TL.cons rfl (V1.t (V1.extract rfl (by rfl)) ?_)
  refine TL.cons rfl (V1.t (V1.extract rfl (by rfl)) ?_)
  refine TL.cons rfl (V1.t (V1.assign' z_C) ?_)
  refine TL.cons rfl (V1.t (V1.assign' z_C) ?_)
  refine TL.nil ?_
  refine T.seq ?_
  refine T.live (l := [(2, _), (3, _), (4, _), (5, _)]) (.cons z_C (.cons z_C (.cons z_C (.cons z_C .nil)))) (fun e_ => ?_)
  refine T.region ?_
  refine TL.cons rfl (V1.t (V1.move' z_C) ?_)
  refine TL.cons rfl (V1.t (V1.eqI (r := true) rfl rfl (by decide)) ?_)
  refine TL.cons rfl (V1.t (V1.move' z_C) ?_)
  refine TL.cons rfl (V1.t (V1.move' z_C) ?_)
  refine TL.cons rfl (V1.t (V1.eqI (r := true) rfl rfl (by decide)) ?_)
  refine TL.cons rfl (V1.t (V1.pick rfl z_C) ?_)
  refine TL.cons rfl (V1.t (V1.move' z_C) ?_)
  refine TL.cons rfl (V1.t (V1.move' z_C) ?_)
  refine TL.cons rfl (V1.t (V1.lenSl ty_43 rfl) ?_)
  refine TL.cons rfl (V1.t (V1.eqI (r := true) rfl rfl (by decide)) ?_)
  refine TL.cons rfl (V1.t (V1.pick rfl z_C) ?_)
  refine TL.cons rfl (V1.t (V1.move' z_C) ?_)
  refine TL.cons rfl (V1.t (V1.move' z_C) ?_)
  refine TL.cons rfl (V1.t (V1.lenSl ty_43 rfl) ?_)
  refine TL.cons rfl (V1.t (V1.eqI (r := true) rfl rfl (by decide)) ?_)
  refine TL.cons rfl (V1.t (V1.pick rfl z_C) ?_)
  refine TL.cons rfl (V1.t (V1.move' z_C) ?_)
  refine TL.cons rfl (V1.t (V1.move' z_C) ?_)
  refine TL.cons rfl (V1.t (V1.indexAddrS ty_43 sz_55 rfl rfl (by decide) (by decide)) ?_)
  refine TL.cons rfl (V1.t (V1.fieldAddr fl_55_0 rfl) ?_)
  refine TL.cons rfl (V1.t (V1.load1 (v := iV 1) one_3 rfl (ld_own (i := 0) z_D rfl)) ?_)
  refine TL.cons rfl (V1.t (V1.eqI (r := true) rfl rfl (by decide)) ?_)
  refine TL.cons rfl (V1.t (V1.pick rfl z_C) ?_)
  refine TL.cons rfl (V1.t (V1.move' z_C) ?_)
  refine TL.cons rfl (V1.t (V1.move' z_C) ?_)
  refine TL.cons rfl (V1.t (V1.indexAddrS ty_43 sz_55 rfl rfl (by decide) (by decide)) ?_)
  refine TL.cons rfl (V1.t (V1.fieldAddr fl_55_1 rfl) ?_)
  refine TL.cons rfl (V1.t (V1.load1 (v := iV 2) one_3 rfl (ld_own (i := 1) z_D rfl)) ?_)
  refine TL.cons rfl (V1.t (V1.eqI (r := true) rfl rfl (by decide)) ?_)
  refine TL.cons rfl (V1.t (V1.pick rfl z_C) ?_)
  refine TL.cons rfl (V1.t (V1.move' z_C) ?_)
  refine TL.cons rfl (V1.t (V1.move' z_C) ?_)
  refine TL.cons rfl (V1.t (V1.indexAddrS ty_43 sz_55 rfl rfl (by decide) (by decide)) ?_)
  refine TL.cons rfl (V1.t (V1.fieldAddr fl_55_3 rfl) ?_)
  refine TL.cons rfl (V1.t (V1.loadN (vs := [.int .i64 1, .string (bstr (nmb sText [1])), .slice none 0 0]) one_24 sz_24 rfl (RdN.mid2 (pre := [iV 1, iV 2, .slice a_ 2 c_]) (cs := [.int .i64 1, .string (bstr (nmb sText [1])), .slice none 0 0]) (post := []) z_D (by show off_ + 0 * 6 + 3 = off_ + 3; omega)) rfl) ?_)
  refine TL.cons rfl (T1.callV has_14 rfl rfl (TString_any w0 [] (textT 1) TmR.atom (by decide +kernel) (by decide +kernel)) z_B (fun v_ hv => ?_))
  obtain rfl := hv
  rw [hid_txt]
  refine TL.cons rfl (V1.t (V1.eqS (r := true) rfl rfl (decide_eq_true rfl)) ?_)
  refine TL.cons rfl (V1.t (V1.pick rfl z_C) ?_)
  refine TL.cons rfl (V1.t (V1.move' z_C) ?_)
  refine TL.cons rfl (V1.t (V1.pick rfl z_C) ?_)
  refine TL.cons rfl (V1.t (V1.move' z_C) ?_)
  refine TL.cons rfl (V1.t (V1.pick rfl z_C) ?_)
  refine TL.cons rfl (V1.t (V1.move' z_C) ?_)
  refine TL.cons rfl (V1.t (V1.pick rfl z_C) ?_)
  refine TL.cons rfl (V1.t (V1.assign' z_C) ?_)
  refine TL.nil ?_
  refine T.ret ?_
  exact ⟨_, G, _, .cons (.tmp z_C) .nil, z_A, rfl, rfl⟩

end Go.Proofs.YtlpkcbkflfbclaaGreatDoor.S
