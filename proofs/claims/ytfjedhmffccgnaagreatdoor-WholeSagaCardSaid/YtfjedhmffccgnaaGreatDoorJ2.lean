/- The members of a roster: copied, one more, one less. -/
import Derived.Test.YtfjedhmffccgnaaGreatDoorJ1
import Derived.Test.YtfjedhmffccgnaaGreatDoorOpsQ
namespace Go.Proofs.YtfjedhmffccgnaaGreatDoor.S
set_option maxRecDepth 100000
set_option maxHeartbeats 2000000
open Go.RowKit
theorem mbs_one (ms : List Mb) : ∀ u ∈ ms.flatMap mbC, one u = true := by
 intro u hu
 obtain ⟨m, _, h⟩ := List.mem_flatMap.1 hu
 exact mbC_one m u h
theorem mbs_len {ms : List Mb} (h : ∀ m ∈ ms, m.ok) : (ms.flatMap mbC).length = ms.length * 66 := flatK_len mbC 66 ms fun m hm => mbC_len (h m hm)
theorem mbs_ins {ms : List Mb} (h : ∀ m ∈ ms, m.ok) (m : Mb) (i : Nat) : (ms.flatMap mbC).take (i * 66) ++ (mbC m ++ (ms.flatMap mbC).drop (i * 66)) = (ms.take i ++ m :: ms.drop i).flatMap mbC := by
 rw [flatK_take mbC 66 ms i fun m hm => mbC_len (h m hm), flatK_drop mbC 66 ms i fun m hm => mbC_len (h m hm), List.flatMap_append, List.flatMap_cons]
theorem mbs_del {ms : List Mb} (h : ∀ m ∈ ms, m.ok) (i : Nat) : (ms.flatMap mbC).take (i * 66) ++ (ms.flatMap mbC).drop ((i + 1) * 66) = (ms.eraseIdx i).flatMap mbC := by
 rw [flatK_take mbC 66 ms i fun m hm => mbC_len (h m hm), flatK_drop mbC 66 ms (i + 1) fun m hm => mbC_len (h m hm), List.eraseIdx_eq_take_drop_succ, List.flatMap_append]
theorem mbZ_len : (mbC mbZ).length = 66 := rfl
theorem CloneM_any (w0 : World) (Ps : List Blk) {ms : List Mb} {a : Option Addr} {c : Nat} (hr : RowR w0 Ps 66 (.slice a ms.length c) ms.length (ms.flatMap mbC)) (hm : MbsOk ms) : FnG P 30 [.slice a ms.length c] w0 Ps [] (fun v Y => SlG (some 55) v (ms.flatMap mbC) 66 Y) := by
 have hvl := mbs_len hm.each
 have hn := hm.len
 refine FnG.of 8 [.tmp 2] Go.Proofs.Tryz.func30 rfl rfl rfl rfl (fun G hG => ?_)
 refine T.seq (T.region (z1 ?_))
 refine T.seq (T.seq (T.region (z2 ?_)))
 rcases (show a = none ∨ a ≠ none from Classical.em _) with ha | ha
 ·
  subst ha
  obtain rfl : ms = [] := by rcases Nat.eq_zero_or_pos ms.length with h | h; exact List.length_eq_zero_iff.1 h; (obtain ⟨b, o, h1, _⟩ := hr.at h P; cases h1)
  refine z0 (V1.eqSlNil ty_38 rfl rfl) ?_
  refine TL.nil ?_
  refine T.cond_t rfl (zs ?_)
  exact ⟨_, G, _, .cons (.tmp z_C) .nil, z_B, [], rfl, SlG.nil⟩
 ·
  have han : a.isNone = false := by cases a; exact absurd rfl ha; rfl
  refine z0 (V1.eqSlNil ty_38 rfl rfl) ?_
  rw [han]
  refine TL.nil ?_
  refine T.cond_f rfl (zs ?_)
  refine zc (T1.buildNone ty_38 sz_55 zr_55 (fun b5 => zs ?_))
  refine zc (T1.appendG (tg := some 55) ty_38 kd_38 sz_55 by_55 zr_55 rfl ze ze rfl rfl (.inr rfl) (SlG.mk (tg := some 55) (b := b5) (off := 0) (len := 0) (cap := 0) (size := 0) (k := 66) (xs := []) rfl (Nat.le_refl _) ze) (hr.src _ rfl rfl _ z_D) (mbs_one ms) 20000 (by rw [hvl]; simp only [List.length_nil]; omega) ze z_E (fun s2 Ls2 hsl2 => ?_))
  rw [List.nil_append] at hsl2
  refine zs ?_
  exact ⟨_, Ls2 ++ G, _, .cons (.tmp z_C) .nil, z_B, Ls2, rfl, hsl2⟩
theorem InsM_end (w0 : World) (Ps : List Blk) {ms : List Mb} (hm : MbsOk ms) {m : Mb} (hmo : m.ok) {bv i : Nat} {s : Value} {Ls : List Blk} (hsl : SlG (some 55) s (ms.flatMap mbC) 66 Ls) (hi : i = ms.length) : FnG P 32 [s, .int .i64 (i : Nat), .slice (some ⟨bv, 0, none⟩) 1 1] w0 (⟨⟨bv, some 55⟩, 0, mbC m, 66⟩ :: Ps) Ls (fun v Y => SlG (some 55) v ((ms.take i ++ m :: ms.drop i).flatMap mbC) 66 Y) := by
 have hvl := mbs_len hm.each
 have hn := hm.len
 refine FnG.of 95 [.tmp 6] Go.Proofs.Tryz.func32 rfl rfl rfl rfl (fun G hG => ?_)
 have hBV : Find G ⟨⟨bv, some 55⟩, 0, mbC m, 66⟩ := hG.find (List.mem_cons_self ..)
 have hG2 : Inc Ps G := fun B hB => hG B (List.mem_cons_of_mem _ hB)
 refine T.seq (T.region (z1 ?_))
 refine T.seq (T.region (z2 ?_))
 have hsl0 := hsl
 rcases hsl with ⟨rfl, hv0, rfl⟩ | ⟨b, off, len, cap, size, rfl, h1, h2, h3, rfl⟩
 ·
  obtain rfl : ms = [] := List.length_eq_zero_iff.1 (by have := congrArg List.length hv0; rw [hvl] at this; simp only [List.length_nil] at this; omega)
  obtain rfl : i = 0 := by simpa using hi
  refine zq (V1.sliceNil ty_38 sz_55 rfl rfl rfl) ?_
  refine zq (V1.lenSl ty_38 rfl) ?_
  refine z0 (V1.eqI (r := false) rfl rfl ze) ?_
  refine TL.nil ?_
  refine T.cond_f rfl (zs ?_)
  refine zq (V1.lenSl ty_38 rfl) ?_
  refine z0 (V1.eqI (r := true) rfl rfl (decide_eq_true rfl)) ?_
  refine TL.nil ?_
  refine T.cond_t rfl (T.seq (T.live (l := [(0, _), (2, _)]) zT (fun e_ => ?_)))
  refine zs ?_
  refine zc (T1.appendG (tg := some 55) ty_38 kd_38 sz_55 by_55 zr_55 rfl ze ze rfl rfl (.inr rfl) hsl0 (.sl (vs := mbC m) (RdN.at0 z_A) (by rw [mbC_len hmo])) (mbC_one m) 20000 (by rw [mbC_len hmo]; first | (rw [hvl]; omega) | (rw [List.flatMap_nil, List.length_nil]; omega)) ze z_E (fun s2 Ls2 hsl2 => zs ?_))
  exact ⟨_, Ls2 ++ G, _, .cons (.tmp z_C) .nil, z_B, Ls2, rfl, by show SlG (some 55) s2 _ 66 Ls2; rw [List.flatMap_append, List.flatMap_cons]; first | (rw [List.take_length, List.drop_length]; simpa using hsl2) | (simpa using hsl2)⟩
 ·
  obtain rfl : len = ms.length := by omega
  subst hi
  refine zq (V1.sliceAny ms.length ms.length ty_38 sz_55 rfl rfl rfl (Nat.le_refl _) zw) ?_
  refine zq (V1.lenSl ty_38 rfl) ?_
  refine z0 (V1.eqI (r := false) rfl rfl ze) ?_
  refine TL.nil ?_
  refine T.cond_f rfl (zs ?_)
  refine zq (V1.lenSl ty_38 rfl) ?_
  refine z0 (V1.eqI (r := true) rfl rfl (decide_eq_true rfl)) ?_
  refine TL.nil ?_
  refine T.cond_t rfl (T.seq (T.live (l := [(0, _), (2, _)]) zT (fun e_ => ?_)))
  refine zs ?_
  refine zc (T1.appendG (tg := some 55) ty_38 kd_38 sz_55 by_55 zr_55 rfl ze ze rfl rfl (.inr rfl) hsl0 (.sl (vs := mbC m) (RdN.at0 z_A) (by rw [mbC_len hmo])) (mbC_one m) 20000 (by rw [mbC_len hmo]; first | (rw [hvl]; omega) | (rw [List.flatMap_nil, List.length_nil]; omega)) ze z_E (fun s2 Ls2 hsl2 => zs ?_))
  exact ⟨_, Ls2 ++ G, _, .cons (.tmp z_C) .nil, z_B, Ls2, rfl, by show SlG (some 55) s2 _ 66 Ls2; rw [List.flatMap_append, List.flatMap_cons]; first | (rw [List.take_length, List.drop_length]; simpa using hsl2) | (simpa using hsl2)⟩
theorem InsM_mid (w0 : World) (Ps : List Blk) {ms : List Mb} (hm : MbsOk ms) {m : Mb} (hmo : m.ok) {bv i : Nat} {b off cap size : Nat} (hcap : ms.length ≤ cap) (hsize : off + cap * 66 ≤ size) (hi : i < ms.length) : FnG P 32 [.slice (some ⟨b, off, none⟩) ms.length cap, .int .i64 (i : Nat), .slice (some ⟨bv, 0, none⟩) 1 1] w0 (⟨⟨bv, some 55⟩, 0, mbC m, 66⟩ :: Ps) [(⟨⟨b, some 55⟩, off, (ms.flatMap mbC), size⟩ : Blk)] (fun v Y => SlG (some 55) v ((ms.take i ++ m :: ms.drop i).flatMap mbC) 66 Y) := by
 have hvl := mbs_len hm.each
 have hn := hm.len
 have hctl := mbC_len hmo
 have hzl : (List.replicate (ms.length + 1 - i) (mbC mbZ)).flatten.length = (ms.length + 1 - i) * 66 := by rw [List.length_flatten, List.map_replicate, mbZ_len]; simp
 have hgl : ((ms.flatMap mbC).take (i * 66) ++ (List.replicate (ms.length + 1 - i) (mbC mbZ)).flatten).length = (ms.length + 1) * 66 := by rw [List.length_append, hzl, List.length_take, hvl]; omega
 refine FnG.of 95 [.tmp 6] Go.Proofs.Tryz.func32 rfl rfl rfl rfl (fun G hG => ?_)
 have hBV : Find G ⟨⟨bv, some 55⟩, 0, mbC m, 66⟩ := hG.find (List.mem_cons_self ..)
 have hG2 : Inc Ps G := fun B hB => hG B (List.mem_cons_of_mem _ hB)
 simp only [List.cons_append, List.nil_append]
 refine T.have (fun w hs => ne_of_find hs hBV) (fun hne => ?_)
 replace hne : b ≠ bv := hne
 refine T.seq (T.region (z1 ?_))
 refine T.seq (T.region (z2 ?_))
 rcases Nat.lt_or_ge cap (ms.length + 1) with hc | hc
 ·
  refine zq (V1.sliceAny i ms.length ty_38 sz_55 rfl rfl rfl zw zw) ?_
  refine zq (V1.lenSl ty_38 rfl) ?_
  refine z0 (V1.eqI (r := false) rfl rfl ze) ?_
  refine TL.nil ?_
  refine T.cond_f rfl (zs ?_)
  refine zq (V1.lenSl ty_38 rfl) ?_
  refine z0 (V1.eqI (r := false) rfl rfl (decide_eq_false zw)) ?_
  refine TL.nil ?_
  refine T.cond_f rfl (T.skip (T.seq (T.seq (T.live (l := [(0, _), (1, _), (2, _), (7, _), (8, _)]) zT (fun e_ => ?_)))))
  refine zs ?_
  refine zq (V1.add (c := ((ms.length + 1 : Nat) : Int)) rfl rfl (by show IntKind.i64.wrap ((ms.length : Int) + 1) = _; rw [wrap_i64 _ zw (by omega)]; omega)) ?_
  refine z0 (V1.capSl ty_38 rfl) ?_
  refine z0 (V1.gtI (r := true) rfl rfl (decide_eq_true zw)) ?_
  refine TL.nil ?_
  refine T.cond_t rfl (zs ?_)
  refine zq (V1.sliceK (0) (i) ty_38 sz_55 rfl rfl rfl zw zw zw) ?_
  refine zq (V1.add (c := ((ms.length + 1 : Nat) : Int)) rfl rfl (by show IntKind.i64.wrap ((ms.length : Int) + 1) = _; rw [wrap_i64 _ zw (by omega)]; omega)) ?_
  refine z0 (V1.sub (c := ((ms.length + 1 - i : Nat) : Int)) rfl rfl z_J) ?_
  refine zc (T1.appendZK (zl := (mbC mbZ)) (n := ms.length + 1 - i) (old := (ms.flatMap mbC).take (i * 66)) ty_38 ty_3 sz_55 ze by_55 zr_55 ze rfl rfl ((RdN.at0 (show Find _ ⟨⟨b, some 55⟩, off + 0 * 66, (ms.flatMap mbC), size⟩ from z_A)).preK _) (by rw [List.length_take, hvl]; show _ = i * 66; omega) zw zw zw zw (fun b9 cap9 hcap9 => z1 ?_))
  refine T.seq (T.live (l := [(0, _), (1, _), (2, _), (7, _), (9, _)]) zT (fun e_ => ?_))
  refine zs ?_
  refine zq (V1.sliceK (i) (i + (ms.length + 1 - i)) ty_38 sz_55 rfl rfl rfl zw zw zw) ?_
  refine zc (T1.copy (k := 66) (n := 1) (new := mbC m) (cells := ((ms.flatMap mbC).take (i * 66) ++ (List.replicate (ms.length + 1 - i) (mbC mbZ)).flatten)) (off := 0) ty_38 sz_55 rfl rfl 1 zw (fun _ => rfl) (fun w hs => firstCells_rd (RdN.at0 z_A) (by rw [hctl]) hs) hctl (mbC_one m) (Nat.zero_le _) (by rw [hgl, hctl]; omega) z_H ?_)
  obtain ⟨c1, hc1⟩ : ∃ c1, c1 = putN ((ms.flatMap mbC).take (i * 66) ++ (List.replicate (ms.length + 1 - i) (mbC mbZ)).flatten) (0 + i * 66 - 0) (mbC m) := ⟨_, rfl⟩
  rw [← hc1]
  have hc1l : c1.length = (ms.length + 1) * 66 := by rw [hc1, putN_length (by rw [hgl, hctl]; omega), hgl]
  refine TL.nil ?_
  refine T.seq (T.drawTail 8 mixed z_F zr z_F rfl ?_)
  refine zd 0 (zO 9 zZ) (V1.move' z_C) ?_
  refine zd 1 (zO 1 zZ) (V1.move' z_C) ?_
  refine zd 2 (zO 7 zZ) (V1.move' z_C) ?_
  refine zd 3 (zN 47 1 rfl (zN 48 2 rfl zZ)) (V1.add (c := ((i + 1 : Nat) : Int)) rfl rfl (by show IntKind.i64.wrap ((i : Int) + 1) = _; rw [wrap_i64 _ zw (by omega)]; omega)) ?_
  refine zd 4 (zN 46 0 rfl (zN 49 3 rfl zZ)) (V1.sliceK (i + 1) (i + (ms.length + 1 - i)) ty_38 sz_55 rfl rfl rfl zw zw zw) ?_
  refine zd 5 (zO 0 zZ) (V1.move' z_C) ?_
  refine zd 6 (zO 1 zZ) (V1.move' z_C) ?_
  refine zd 7 (zN 51 5 rfl (zN 52 6 rfl zZ)) (V1.sliceK (i) (ms.length) ty_38 sz_55 rfl rfl rfl zw zw zw) ?_
  refine Det.nil 8 (zQ 9 (zR 50 4 rfl (zR 53 7 rfl zW))) (fun e_ => ?_)
  refine (show TU _ _ _ 1 _ _ _ from ?_)
  refine TU.one 8 z_F rfl rfl (T1.copy (k := 66) (n := ms.length - i) (new := (ms.flatMap mbC).drop (i * 66)) (cells := c1) (off := 0) ty_38 sz_55 rfl rfl (ms.length - i) zw (fun _ => rfl) (fun w hs => firstCells_rd (RdN.dropK z_A) (by rw [List.length_drop, hvl]; omega) hs) (by rw [List.length_drop, hvl]; omega) (fun u hu => mbs_one ms u (List.mem_of_mem_drop hu)) (Nat.zero_le _) (by rw [hc1l, List.length_drop, hvl]; omega) z_H ?_)
  have hfin := ins_growK (vs := (ms.flatMap mbC)) (ct := mbC m) (Z := (List.replicate (ms.length + 1 - i) (mbC mbZ)).flatten) (i := i) (k := 66) zw hctl (by rw [hzl, hvl]; omega)
  rw [hc1, show 0 + i * 66 - 0 = i * 66 by omega, show 0 + (i + 1) * 66 - 0 = i * 66 + 66 by omega, hfin]
  refine TU.done z_F ?_
  refine zs ?_
  have hI := mbs_ins hm.each m i
  have hIl : ((ms.flatMap mbC).take (i * 66) ++ (mbC m ++ (ms.flatMap mbC).drop (i * 66))).length = (ms.length + 1) * 66 := by rw [List.length_append, List.length_append, List.length_take, List.length_drop, hvl, hctl]; omega
  exact ⟨[.slice (some ⟨b9, 0, none⟩) (i + (ms.length + 1 - i)) cap9], ⟨⟨b9, some 55⟩, 0, (ms.flatMap mbC).take (i * 66) ++ (mbC m ++ (ms.flatMap mbC).drop (i * 66)), cap9 * 66⟩ :: G, _, .cons (.tmp z_C) .nil, z_B, [⟨⟨b9, some 55⟩, 0, (ms.flatMap mbC).take (i * 66) ++ (mbC m ++ (ms.flatMap mbC).drop (i * 66)), cap9 * 66⟩], rfl, by rw [← hI]; exact SlG.mk (hIl.trans zw) zw zw⟩
 ·
  refine zq (V1.sliceAny i ms.length ty_38 sz_55 rfl rfl rfl zw zw) ?_
  refine zq (V1.lenSl ty_38 rfl) ?_
  refine z0 (V1.eqI (r := false) rfl rfl ze) ?_
  refine TL.nil ?_
  refine T.cond_f rfl (zs ?_)
  refine zq (V1.lenSl ty_38 rfl) ?_
  refine z0 (V1.eqI (r := false) rfl rfl (decide_eq_false zw)) ?_
  refine TL.nil ?_
  refine T.cond_f rfl (T.skip (T.seq (T.seq (T.live (l := [(0, _), (1, _), (2, _), (7, _), (8, _)]) zT (fun e_ => ?_)))))
  refine zs ?_
  refine zq (V1.add (c := ((ms.length + 1 : Nat) : Int)) rfl rfl (by show IntKind.i64.wrap ((ms.length : Int) + 1) = _; rw [wrap_i64 _ zw (by omega)]; omega)) ?_
  refine z0 (V1.capSl ty_38 rfl) ?_
  refine z0 (V1.gtI (r := false) rfl rfl (decide_eq_false zw)) ?_
  refine TL.nil ?_
  refine T.cond_f rfl (zs ?_)
  refine z0 (V1.add (c := ((ms.length + 1 : Nat) : Int)) rfl rfl (by show IntKind.i64.wrap ((ms.length : Int) + 1) = _; rw [wrap_i64 _ zw (by omega)]; omega)) ?_
  refine zq (V1.sliceK (0) (ms.length + 1) ty_38 sz_55 rfl rfl rfl zw zw zw) ?_
  refine z0 (V1.add (c := ((i + 1 : Nat) : Int)) rfl rfl (by show IntKind.i64.wrap ((i : Int) + 1) = _; rw [wrap_i64 _ zw (by omega)]; omega)) ?_
  refine z0 (V1.sliceK (i + 1) (ms.length + 1) ty_38 sz_55 rfl rfl rfl zw zw zw) ?_
  refine z0 (V1.overlaps (r := 4) (Ea := 55) (fn := Go.Proofs.Tryz.f70) Go.Proofs.Tryz.func70 (by kernel_rfl) (by kernel_rfl) (by kernel_rfl) (by kernel_rfl) ty_38 sz_55 rfl rfl (show Find _ ⟨⟨bv, some 55⟩, 0, mbC m, 66⟩ from z_A) (show Find _ (⟨⟨b, some 55⟩, off, (ms.flatMap mbC), size⟩ : Blk) from z_A) (fun h => hne h.symm) zw) ?_
  refine z0 (V1.not rfl rfl) ?_
  refine TL.nil ?_
  refine T.cond_t rfl (T.seq (T.live (l := [(0, _), (1, _), (2, _), (7, _)]) zT (fun e_ => ?_)))
  refine T.drawTail 8 mixed z_F zr z_F rfl ?_
  refine zd 0 (zO 0 zZ) (V1.move' z_C) ?_
  refine zd 1 (zO 1 zZ) (V1.move' z_C) ?_
  refine zd 2 (zO 7 zZ) (V1.move' z_C) ?_
  refine zd 3 (zN 70 1 rfl (zN 71 2 rfl zZ)) (V1.add (c := ((i + 1 : Nat) : Int)) rfl rfl (by show IntKind.i64.wrap ((i : Int) + 1) = _; rw [wrap_i64 _ zw (by omega)]; omega)) ?_
  refine zd 4 (zN 69 0 rfl (zN 72 3 rfl zZ)) (V1.sliceK (i + 1) (ms.length + 1) ty_38 sz_55 rfl rfl rfl zw zw zw) ?_
  refine zd 5 (zO 0 zZ) (V1.move' z_C) ?_
  refine zd 6 (zO 1 zZ) (V1.move' z_C) ?_
  refine zd 7 (zN 74 5 rfl (zN 75 6 rfl zZ)) (V1.sliceK (i) (ms.length + 1) ty_38 sz_55 rfl rfl rfl zw zw zw) ?_
  refine Det.nil 8 (zQ 0 (zQ 1 (zQ 2 (zR 73 4 rfl (zR 76 7 rfl zW))))) (fun e_ => ?_)
  refine (show TU _ _ _ 1 _ _ _ from ?_)
  refine TU.one 8 z_F rfl rfl (T1.copyX (k := 66) (n := ms.length + 1 - i) (new := (ms.flatMap mbC).drop (i * 66)) (cells := (ms.flatMap mbC)) (off := off) (size := size) ty_38 sz_55 rfl rfl (ms.length - i) zw (fun _ => rfl) (fun w hs => firstCells_rd (RdN.dropK (show Find _ (⟨⟨b, some 55⟩, off, (ms.flatMap mbC), size⟩ : Blk) from z_A)) (by rw [List.length_drop, hvl]; omega) hs) (fun u hu => mbs_one ms u (List.mem_of_mem_drop hu)) zw zw (by rw [List.length_drop, hvl]; omega) (by rw [List.length_drop, hvl]; omega) z_H ?_)
  rw [show off + 0 * 66 + (i + 1) * 66 - off = i * 66 + 66 by omega]
  have hpl : ((ms.flatMap mbC).take (i * 66 + 66) ++ (ms.flatMap mbC).drop (i * 66)).length = (ms.length + 1) * 66 := by rw [List.length_append, List.length_take, List.length_drop, hvl]; omega
  refine TU.done z_F ?_
  refine zs ?_
  refine zq (V1.sliceK (i) (ms.length + 1) ty_38 sz_55 rfl rfl rfl zw zw zw) ?_
  refine zc (T1.copy (k := 66) (n := 1) (new := mbC m) (cells := (ms.flatMap mbC).take (i * 66 + 66) ++ (ms.flatMap mbC).drop (i * 66)) (off := off) (size := size) ty_38 sz_55 rfl rfl 1 zw (fun _ => rfl) (fun w hs => firstCells_rd (RdN.at0 z_A) (by rw [hctl]) hs) hctl (mbC_one m) zw (by rw [hpl, hctl]; omega) z_H ?_)
  rw [show off + 0 * 66 + i * 66 - off = i * 66 by omega, ins_placeK (vs := (ms.flatMap mbC)) (ct := mbC m) (i := i) (k := 66) zw hctl]
  refine zs ?_
  have hI := mbs_ins hm.each m i
  have hIl : ((ms.flatMap mbC).take (i * 66) ++ (mbC m ++ (ms.flatMap mbC).drop (i * 66))).length = (ms.length + 1) * 66 := by rw [List.length_append, List.length_append, List.length_take, List.length_drop, hvl, hctl]; omega
  exact ⟨[.slice (some ⟨b, off, none⟩) (ms.length + 1) cap], ⟨⟨b, some 55⟩, off, (ms.flatMap mbC).take (i * 66) ++ (mbC m ++ (ms.flatMap mbC).drop (i * 66)), size⟩ :: G, _, .cons (.tmp z_C) .nil, z_B, [⟨⟨b, some 55⟩, off, (ms.flatMap mbC).take (i * 66) ++ (mbC m ++ (ms.flatMap mbC).drop (i * 66)), size⟩], rfl, by rw [← hI]; exact SlG.mk (hIl.trans zw) zw zw⟩
theorem InsM_any (w0 : World) (Ps : List Blk) {ms : List Mb} (hm : MbsOk ms) {m : Mb} (hmo : m.ok) {bv i : Nat} {s : Value} {Ls : List Blk} (hsl : SlG (some 55) s (ms.flatMap mbC) 66 Ls) (hi : i ≤ ms.length) : FnG P 32 [s, .int .i64 (i : Nat), .slice (some ⟨bv, 0, none⟩) 1 1] w0 (⟨⟨bv, some 55⟩, 0, mbC m, 66⟩ :: Ps) Ls (fun v Y => SlG (some 55) v ((ms.take i ++ m :: ms.drop i).flatMap mbC) 66 Y) := by
 rcases Nat.lt_or_ge i ms.length with h | h
 ·
  rcases hsl with ⟨_, hv0, _⟩ | ⟨b, off, len, cap, size, rfl, h1, h2, h3, rfl⟩
  · have := congrArg List.length hv0; rw [mbs_len hm.each, List.length_nil] at this; omega
  ·
   obtain rfl : len = ms.length := by rw [mbs_len hm.each] at h1; omega
   exact InsM_mid w0 Ps hm hmo h2 h3 h
 · exact InsM_end w0 Ps hm hmo hsl zw
theorem DelM_us (w0 : World) {ms : List Mb} (hm : MbsOk ms) (b off size cap i r : Nat) (hl : ms.length = i + 1 + r) (hc : ms.length ≤ cap) (hcs : off + cap * 66 ≤ size) : FnG P 33 [.slice (some ⟨b, off, none⟩) ms.length cap, .int .i64 (i : Nat), .int .i64 ((i + 1 : Nat) : Int)] w0 [] [(⟨⟨b, some 55⟩, off, (ms.flatMap mbC), size⟩ : Blk)] (fun v Y => SlG (some 55) v ((ms.eraseIdx i).flatMap mbC) 66 Y) := by
 have hvl := mbs_len hm.each
 have hn := hm.len
 have hpe := put_eraseK (xs := (ms.flatMap mbC)) (i := i) (r := r) (k := 66) (by rw [hvl, hl])
 refine FnG.of 33 [.tmp 6] Go.Proofs.Tryz.func33 rfl rfl rfl rfl (fun G hG => ?_)
 simp only [List.cons_append, List.nil_append]
 refine zs ?_
 refine z0 (V1.lenSl ty_38 rfl) ?_
 refine zq (V1.slice3k (i := i) (j := i + 1) (n := ms.length) ty_38 sz_55 rfl rfl rfl rfl zw zw zw) ?_
 refine z0 (V1.eqI (r := false) rfl rfl (decide_eq_false zw)) ?_
 refine TL.nil ?_
 refine T.cond_f rfl (zs ?_)
 refine zq1 (V1.lenSl ty_38 rfl) ?_
 refine T.seq (T.drawTail 6 mixed z_F zr z_F rfl ?_)
 refine zd 0 (zO 0 zZ) (V1.move' z_C) ?_
 refine zd 1 (zO 1 zZ) (V1.move' z_C) ?_
 refine zd 2 (zN 20 0 rfl (zN 21 1 rfl zZ)) (V1.sliceKR 0 i i cap ty_38 sz_55 rfl rfl rfl zw zw zw rfl rfl) ?_
 refine zd 3 (zO 0 zZ) (V1.move' z_C) ?_
 refine zd 4 (zO 2 zZ) (V1.move' z_C) ?_
 refine zd 5 (zN 23 3 rfl (zN 24 4 rfl zZ)) (V1.sliceAnyR (i + 1) ms.length r (cap - (i + 1)) ty_38 sz_55 rfl rfl rfl zw zw zw rfl) ?_
 refine Det.nil 6 (zQ 7 (zR 22 2 rfl (zR 25 5 rfl zW))) (fun e_ => ?_)
 refine (show TU _ _ _ 2 _ _ _ from ?_)
 refine TU.one 6 z_F rfl rfl (T1.appendSelfK (k := 66) (i := i) (xs := (ms.flatMap mbC)) (off := off) (size := size) (cap := cap) ty_38 kd_38 sz_55 by_55 rfl rfl (Src.tailK (i := i + 1) (k := 66) z_A (by rw [hvl, hl]) zw) (fun u hu => mbs_one ms u (List.mem_of_mem_drop hu)) zw hcs (by rw [hvl]; omega) z_H ?_)
 refine TU.one 7 z_F rfl rfl (V1.t (V1.assign' z_C) ?_)
 refine TU.done z_F ?_
 refine zs ?_
 refine zq (V1.lenSl ty_38 rfl) ?_
 refine z0 (V1.sliceKR (i + r) ms.length 1 (cap - (i + r)) ty_38 sz_55 rfl rfl rfl zw zw zw zw rfl) ?_
 refine zc (T1.clearTail (off := off) (size := size) (m := (i + r) * 66) (cells := putN (ms.flatMap mbC) (i * 66) ((ms.flatMap mbC).drop ((i + 1) * 66))) (z := .agg (mbC mbZ).toArray) ty_38 zr_55 (mbC_one mbZ) rfl zw zw (by rw [hpe.2, hvl]; show (i + r) * 66 + 1 * 66 = _; omega) z_H ?_)
 refine zs ?_
 rw [hpe.1, mbs_del hm.each i]
 exact ⟨_, _ :: G, _, .cons (.tmp z_C) .nil, z_B, [_], rfl, SlG.mk (by rw [mbs_len (fun m hx => hm.each m (List.mem_of_mem_eraseIdx hx)), List.length_eraseIdx_of_lt zw, hl]; show (i + 1 + r - 1) * 66 = (i + r) * 66; omega) zw hcs⟩
theorem DelM_any (w0 : World) {ms : List Mb} (hm : MbsOk ms) {i : Nat} {a : Option Addr} {c : Nat} {Ls : List Blk} (hsl : SlG (some 55) (.slice a ms.length c) (ms.flatMap mbC) 66 Ls) (hi : i < ms.length) : FnG P 33 [.slice a ms.length c, .int .i64 (i : Nat), .int .i64 ((i + 1 : Nat) : Int)] w0 [] Ls (fun v Y => SlG (some 55) v ((ms.eraseIdx i).flatMap mbC) 66 Y) := by
 rcases hsl with ⟨_, hv0, _⟩ | ⟨b, off, len, cap, size, e, h1, h2, h3, rfl⟩
 · have := congrArg List.length hv0; rw [mbs_len hm.each, List.length_nil] at this; omega
 ·
  injection e with e1 e2 e3
  subst e1; subst e2; subst e3
  exact DelM_us w0 hm b off size c i (ms.length - i - 1) zw h2 h3
end Go.Proofs.YtfjedhmffccgnaaGreatDoor.S
