/- Where a member of a roster stands; members by their names; all names. -/
import Derived.Test.YtfjedhmffccgnaaGreatDoorTypes
import Derived.Test.YtfjedhmffccgnaaGreatDoorOpsP
namespace Go.Proofs.YtfjedhmffccgnaaGreatDoor.S
set_option maxRecDepth 100000
set_option maxHeartbeats 1000000
open Go.RowKit
theorem place1_any {m : Mb} (hm : m.ok) (n : Nat) (hn : n < 4294967296) (w : World) : Fn P 69 [.agg (mbC m).toArray, .int .u32 (n : Nat)] w [] (fun v Y => Y = [] ∧ v = .int .i64 ((m.name : Int) - (n : Int))) := by
 refine Fn.of 11 [.tmp 4] Go.Proofs.Tryz.func69 rfl rfl rfl rfl ?_
 refine zs ?_
 refine zc (T1.boxN (vs := mbC m) 66 rfl (mbC_len hm) (fun b2 => zs ?_))
 refine z0 (V1.fieldAddr fl_55_0 rfl) ?_
 refine z0 (V1.load1 one_37 rfl (show Rd _ _ ⟨b2, 0 + 0, none⟩ (.int .u32 (m.name : Nat)) from Rd.at (cells := mbC m) z_A rfl)) ?_
 refine zq (V1.conv (c := ((m.name : Nat) : Int)) ty_37 ty_3 rfl (wrap_i64 _ zw (by have := hm.nm; omega))) ?_
 refine z0 (V1.conv (c := ((n : Nat) : Int)) ty_37 ty_3 rfl (wrap_i64 _ zw zw)) ?_
 refine zq (V1.sub (c := (m.name : Int) - (n : Int)) rfl rfl (wrap_i64 _ zw (by have := hm.nm; omega))) ?_
 exact ⟨_, [], _, .cons (.tmp z_C) .nil, Take.nil, rfl, rfl⟩
theorem place1_v (w0 : World) {m : Mb} (hm : m.ok) (n : Nat) (hn : n < 4294967296) : FnV P 69 [.agg (mbC m).toArray, .int .u32 (n : Nat)] w0 [] (fun v => v = .int .i64 ((m.name : Int) - (n : Int))) :=
 FnG.ofFn fun w => place1_any hm n hn w
theorem BinM_any (w0 : World) (Ps : List Blk) {ms : List Mb} {a : Option Addr} {c : Nat} (hr : RowR w0 Ps 66 (.slice a ms.length c) ms.length (ms.flatMap mbC)) (hm : MbsOk ms) (n : Nat) (hn2 : n < 4294967296) : FnV P 68 [.slice a ms.length c, .int .u32 (n : Nat), .func (.func 69) #[] #[]] w0 Ps (fun v => v = .tuple #[.int .i64 (lowN ms n : Nat), .bool (decide (HasM ms n))]) := by
 have hn := hm.len
 refine FnV.of 49 [.tmp 6, .tmp 7] Go.Proofs.Tryz.func68 rfl rfl rfl rfl (fun G hG => ?_)
 refine zs ?_
 refine zq1 (V1.lenSl ty_38 rfl) ?_
 refine T.seq (T.region (z1 ?_))
 refine T.seq (T.block (T.loopL (σ := Nat × Nat) (l0 := [(0, _), (1, _), (2, _), (8, _)]) (fun x => [(9, .int .i64 (x.1 : Nat)), (10, .int .i64 (x.2 : Nat))]) (fun x L => L = G ∧ x.1 ≤ x.2 ∧ x.2 ≤ ms.length ∧ (∀ y ∈ ms.take x.1, y.name < n) ∧ (∀ y ∈ ms.drop x.2, ¬ y.name < n)) (fun x => x.2 - x.1) (0, ms.length) (.cons rfl (.cons rfl .nil)) zT z_B (⟨rfl, Nat.zero_le _, Nat.le_refl _, fun y hy => by simp at hy, fun y hy => by simp at hy⟩) ?_))
 rintro ⟨lo, hi⟩ e_ L ⟨hL, hle0, hhn, ha, hb⟩
 obtain rfl : G = L := hL.symm
 simp only at hle0 hhn ha hb
 refine T.seq (T.seq (T.region (z2 ?_)))
 rcases (show lo < hi ∨ (lo = hi ∧ lo < ms.length) ∨ (lo = hi ∧ lo = ms.length) from by omega) with hlt | ⟨hle, hlt⟩ | ⟨hle, hlt⟩
 ·
  refine z0 (V1.ltI (r := true) rfl rfl (decide_eq_true zw)) ?_
  refine TL.nil ?_
  refine T.cond_t rfl (zs ?_)
  refine z0 (V1.add (c := ((lo + hi : Nat) : Int)) rfl rfl z_J) ?_
  refine z0 (V1.conv (c := ((lo + hi : Nat) : Int)) ty_3 ty_104 rfl (wrap_u64 _ zw zw)) ?_
  refine z0 (V1.shr rfl rfl ze (shr_u (m := 1) ze)) ?_
  refine zq2 (V1.conv (c := ((((lo + hi) / 2) : Nat) : Int)) ty_104 ty_3 rfl (wrap_i64 _ zw zw)) ?_
  have hmid : lo ≤ ((lo + hi) / 2) ∧ ((lo + hi) / 2) < hi := by omega
  obtain ⟨k, hk⟩ : ∃ k, k = ((lo + hi) / 2) := ⟨_, rfl⟩
  rw [← hk] at hmid ⊢
  obtain ⟨x, hx0⟩ : ∃ x, ms[k]? = some x := ⟨_, List.getElem?_eq_getElem zw⟩
  have hxo := hm.each x (List.mem_of_getElem? hx0)
  have hlo_ := fun h => asc_lo (n := n) hm.asc hx0 h
  have hhi_ := fun h => asc_hi (n := n) hm.asc hx0 h
  obtain ⟨b, o, rfl, hrd⟩ := flatK_at mbC 66 (fun x hx => mbC_len (hm.each x hx)) hr zw P
  rcases (show x.name < n ∨ ¬ x.name < n from by omega) with hc | hc
  ·
   refine zs ?_
   refine z0 (V1.indexAddrS ty_38 sz_55 rfl rfl zw zw) ?_
   refine zq (V1.loadN (vs := mbC x) one_55 sz_55 rfl (hrd k x hx0 _ rfl rfl _ z_D) (mbC_len hxo)) ?_
   refine zc (T1.callGV (Ps := []) (first := #[]) (cap := #[]) rfl has_69 rfl rfl (place1_v w0 hxo n hn2) z_D (fun v_ hv => ?_))
   obtain rfl := hv
   refine z0 (V1.ltI (r := true) rfl rfl (decide_eq_true zw)) ?_
   refine TL.nil ?_
   refine T.cond_t rfl (T.live (l := [(0, _), (1, _), (2, _), (8, _), (10, _), (11, _)]) zT (fun e_ => ?_))
   refine zs ?_
   refine zq1 (V1.add (c := ((k + 1 : Nat) : Int)) rfl rfl z_J) ?_
   exact ⟨(k + 1, hi), _, _, z_N, (.cons rfl (.cons rfl .nil)), (.cons rfl (.cons rfl (.cons rfl (.cons rfl .nil)))), z_B, ⟨rfl, by simp only; omega, hhn, hlo_ hc, hb⟩⟩
  ·
   refine zs ?_
   refine z0 (V1.indexAddrS ty_38 sz_55 rfl rfl zw zw) ?_
   refine zq (V1.loadN (vs := mbC x) one_55 sz_55 rfl (hrd k x hx0 _ rfl rfl _ z_D) (mbC_len hxo)) ?_
   refine zc (T1.callGV (Ps := []) (first := #[]) (cap := #[]) rfl has_69 rfl rfl (place1_v w0 hxo n hn2) z_D (fun v_ hv => ?_))
   obtain rfl := hv
   refine z0 (V1.ltI (r := false) rfl rfl (decide_eq_false zw)) ?_
   refine TL.nil ?_
   refine T.cond_f rfl (T.live (l := [(0, _), (1, _), (2, _), (8, _), (9, _), (11, _)]) zT (fun e_ => ?_))
   refine T.region (z1 ?_)
   exact ⟨(lo, k), _, _, z_N, (.cons rfl (.cons rfl .nil)), (.cons rfl (.cons rfl (.cons rfl (.cons rfl .nil)))), z_B, ⟨rfl, by simp only; omega, by simp only; omega, ha, hhi_ hc⟩⟩
 ·
  subst hle
  have hbs := fun x hx => bsn_found (x := x) hm.asc ha hx hb
  obtain ⟨x, hx0⟩ : ∃ x, ms[lo]? = some x := ⟨_, List.getElem?_eq_getElem zw⟩
  have hxo := hm.each x (List.mem_of_getElem? hx0)
  have hlo_ := fun h => asc_lo (n := n) hm.asc hx0 h
  have hhi_ := fun h => asc_hi (n := n) hm.asc hx0 h
  obtain ⟨b, o, rfl, hrd⟩ := flatK_at mbC 66 (fun x hx => mbC_len (hm.each x hx)) hr zw P
  refine z0 (V1.ltI (r := false) rfl rfl (decide_eq_false zw)) ?_
  refine TL.nil ?_
  refine T.cond_f rfl (zs ?_)
  refine zq (V1.ltI (r := true) rfl rfl (decide_eq_true zw)) ?_
  refine z0 (V1.indexAddrS ty_38 sz_55 rfl rfl zw zw) ?_
  refine zq (V1.loadN (vs := mbC x) one_55 sz_55 rfl (hrd lo x hx0 _ rfl rfl _ z_D) (mbC_len hxo)) ?_
  refine zc (T1.callGV (Ps := []) (first := #[]) (cap := #[]) rfl has_69 rfl rfl (place1_v w0 hxo n hn2) z_D (fun v_ hv => ?_))
  obtain rfl := hv
  refine zq (V1.eqI (r := decide (HasM ms n)) rfl rfl (by rw [← hbs _ hx0, decide_eq_decide]; show (x.name : Int) - (n : Int) = 0 ↔ _; omega)) ?_
  exact ⟨_, G, _, .cons (.tmp z_C) (.cons (.tmp z_C) .nil), z_B, rfl, by rw [← lowN_of hhn ha hb]; rfl⟩
 ·
  subst hle
  subst hlt
  rw [List.take_length] at ha
  have hbn := bsn_none ha
  refine z0 (V1.ltI (r := false) rfl rfl (decide_eq_false zw)) ?_
  refine TL.nil ?_
  refine T.cond_f rfl (zs ?_)
  refine zq (V1.ltI (r := false) rfl rfl (decide_eq_false zw)) ?_
  refine TL.no rfl ?_
  refine TL.no rfl ?_
  refine TL.no rfl ?_
  refine TL.no rfl ?_
  refine TL.no rfl ?_
  refine TL.no rfl ?_
  refine TL.no rfl ?_
  refine TL.no rfl ?_
  refine zs ?_
  exact ⟨_, G, _, .cons (.tmp z_C) (.cons (.tmp z_C) .nil), z_B, rfl, by rw [← lowN_of hhn (by rw [List.take_length]; exact ha) hb, decide_eq_false hbn]; rfl⟩
theorem place_any (w0 : World) (Ps : List Blk) {ms : List Mb} {a : Option Addr} {c : Nat} (hr : RowR w0 Ps 66 (.slice a ms.length c) ms.length (ms.flatMap mbC)) (hm : MbsOk ms) (e : Nat) (h : List UInt8) (hh : h.length = 32) (n : Nat) (hn2 : n < 4294967296) : FnV P 31 [.agg (rosC e h (.slice a ms.length c)).toArray, .int .u32 (n : Nat)] w0 Ps (fun v => v = .tuple #[.int .i64 (lowN ms n : Nat), .bool (decide (HasM ms n))]) := by
 refine FnV.of 12 [.tmp 4, .tmp 5] Go.Proofs.Tryz.func31 rfl rfl rfl rfl (fun G hG => ?_)
 refine zs ?_
 refine zc (T1.boxN (vs := rosC e h (.slice a ms.length c)) 34 rfl (rosC_len hh) (fun b2 => zs ?_))
 refine z0 (V1.fieldAddr fl_40_2 rfl) ?_
 refine zq (V1.load1 one_38 rfl (show Rd _ _ ⟨b2, 0 + 33, none⟩ (.slice a ms.length c) from Rd.at (cells := rosC e h (.slice a ms.length c)) z_A (ros_v hh))) ?_
 refine zc (T1.callV has_68 rfl rfl (BinM_any w0 Ps hr hm n hn2) z_D (fun v_ hv => ?_))
 obtain rfl := hv
 refine zs ?_
 exact ⟨_, G, _, .cons (.tmp z_C) (.cons (.tmp z_C) .nil), z_B, rfl, rfl⟩
def mbZ : Mb := ⟨0, false, List.replicate 32 0, List.replicate 32 0⟩
theorem FindM_t (w0 : World) (Ps : List Blk) {ms : List Mb} {a : Option Addr} {c : Nat} (hr : RowR w0 Ps 66 (.slice a ms.length c) ms.length (ms.flatMap mbC)) (hm : MbsOk ms) (e : Nat) (h : List UInt8) (hh : h.length = 32) {m : Mb} (hmm : m ∈ ms) (n : Nat) (hn : m.name = n) : FnV P 8 [.agg (rosC e h (.slice a ms.length c)).toArray, .int .u32 (n : Nat)] w0 Ps (fun v => v = .tuple #[.agg (mbC m).toArray, .bool true]) := by
 have hmo := hm.each m hmm
 have hn2 : n < 4294967296 := by rw [← hn]; exact hmo.nm
 have hf : HasM ms n := ⟨m, hmm, hn⟩
 have hm0 : ms[lowN ms n]? = some m := by rw [← hn]; exact lowN_at hm.asc hmm
 have hml := (List.getElem?_eq_some_iff.1 hm0).1
 have hlen := hm.len
 obtain ⟨b, o, rfl, hrd⟩ := flatK_at mbC 66 (fun x hx => mbC_len (hm.each x hx)) hr zw P
 refine FnV.of 22 [.cell 4 55, .tmp 5] Go.Proofs.Tryz.func8 rfl rfl rfl rfl (fun G hG => ?_)
 refine zs ?_
 refine zc (T1.boxN (vs := rosC e h (.slice (some ⟨b, o, none⟩) ms.length c)) 34 rfl (rosC_len hh) (fun b2 => ?_))
 refine zc (T1.allocN 66 zr_55 rfl (fun b4 => zs ?_))
 refine zq (V1.loadN (vs := rosC e h (.slice (some ⟨b, o, none⟩) ms.length c)) one_40 sz_40 rfl (RdN.whole z_A) (rosC_len hh)) ?_
 refine zc (T1.callV has_31 rfl rfl (place_any w0 Ps hr hm e h hh n hn2) z_D (fun v_ hv => ?_))
 rw [decide_eq_true hf] at hv
 obtain rfl := hv
 refine zs ?_
 refine z0 (V1.not rfl rfl) ?_
 refine TL.nil ?_
 refine T.cond_f rfl (zs ?_)
 refine z0 (V1.fieldAddr fl_40_2 rfl) ?_
 refine zq (V1.load1 one_38 rfl (show Rd _ _ ⟨b2, 0 + 33, none⟩ (.slice (some ⟨b, o, none⟩) ms.length c) from Rd.at (cells := rosC e h (.slice (some ⟨b, o, none⟩) ms.length c)) z_A (ros_v hh))) ?_
 refine z0 (V1.indexAddrS ty_38 sz_55 rfl rfl zw zw) ?_
 refine z0 (V1.loadN (vs := mbC m) one_55 sz_55 rfl (hrd _ m hm0 _ rfl rfl _ z_D) (mbC_len hmo)) ?_
 refine zc (T1.storeN rfl rfl sz_55 (mbC_one m) z_H (by rw [mbC_len hmo]; rfl) (mbC_len hmo) ?_)
 refine zs ?_
 exact ⟨_, G, _, .cons (.cellN z_C one_55 sz_55 (RdN.whole z_A) (mbC_len hmo)) (.cons (.tmp z_C) .nil), z_B, rfl, rfl⟩
theorem FindM_f (w0 : World) (Ps : List Blk) {ms : List Mb} {a : Option Addr} {c : Nat} (hr : RowR w0 Ps 66 (.slice a ms.length c) ms.length (ms.flatMap mbC)) (hm : MbsOk ms) (e : Nat) (h : List UInt8) (hh : h.length = 32) (n : Nat) (hn2 : n < 4294967296) (hf : ¬ HasM ms n) : FnV P 8 [.agg (rosC e h (.slice a ms.length c)).toArray, .int .u32 (n : Nat)] w0 Ps (fun v => v = .tuple #[.agg (mbC mbZ).toArray, .bool false]) := by
 refine FnV.of 22 [.cell 4 55, .tmp 5] Go.Proofs.Tryz.func8 rfl rfl rfl rfl (fun G hG => ?_)
 refine zs ?_
 refine zc (T1.boxN (vs := rosC e h (.slice a ms.length c)) 34 rfl (rosC_len hh) (fun b2 => ?_))
 refine zc (T1.allocN 66 zr_55 rfl (fun b4 => zs ?_))
 refine zq (V1.loadN (vs := rosC e h (.slice a ms.length c)) one_40 sz_40 rfl (RdN.whole z_A) (rosC_len hh)) ?_
 refine zc (T1.callV has_31 rfl rfl (place_any w0 Ps hr hm e h hh n hn2) z_D (fun v_ hv => ?_))
 rw [decide_eq_false hf] at hv
 obtain rfl := hv
 refine zs ?_
 refine z0 (V1.not rfl rfl) ?_
 refine TL.nil ?_
 refine T.cond_t rfl (zs ?_)
 refine z0 (V1.build0 pl_55 zr_55) ?_
 refine zc (T1.storeN rfl rfl sz_55 (ones rfl) z_H zr zr ?_)
 refine zs ?_
 exact ⟨_, G, _, .cons (.cellN z_C one_55 sz_55 (RdN.whole z_A) zr) (.cons (.tmp z_C) .nil), z_B, rfl, rfl⟩
theorem Names_any (w0 : World) (Ps : List Blk) {ms : List Mb} {a : Option Addr} {c : Nat} (hr : RowR w0 Ps 66 (.slice a ms.length c) ms.length (ms.flatMap mbC)) (hm : MbsOk ms) (e : Nat) (h : List UInt8) (hh : h.length = 32) : FnG P 9 [.agg (rosC e h (.slice a ms.length c)).toArray] w0 Ps [] (fun v Y => Sl v (ms.map fun m => u32V m.name) 1 Y) := by
 have hlen := hm.len
 refine FnG.of 20 [.tmp 2] Go.Proofs.Tryz.func9 rfl rfl rfl rfl (fun G hG => ?_)
 refine zs ?_
 refine zc (T1.boxN (vs := rosC e h (.slice a ms.length c)) 34 rfl (rosC_len hh) (fun b1 => zs ?_))
 refine z0 (V1.fieldAddr fl_40_2 rfl) ?_
 refine z0 (V1.load1 one_38 rfl (show Rd _ _ ⟨b1, 0 + 33, none⟩ (.slice a ms.length c) from Rd.at (cells := rosC e h (.slice a ms.length c)) z_A (ros_v hh))) ?_
 refine zq1 (V1.lenSl ty_38 rfl) ?_
 refine T.block (T.loopL (σ := Nat × Value × List Blk) (l0 := [(7, _), (8, _)]) (fun x => [(9, .int .i64 (x.1 : Nat)), (3, x.2.1)]) (fun x L => L = ⟨b1, 0, rosC e h (.slice a ms.length c), 34⟩ :: (x.2.2 ++ G) ∧ x.1 ≤ ms.length ∧ Sl x.2.1 ((ms.take x.1).map fun m => u32V m.name) 1 x.2.2) (fun x => ms.length - x.1) (0, .slice none 0 0, []) (.cons rfl (.cons rfl .nil)) zT z_B (⟨rfl, Nat.zero_le _, Sl.nil⟩) ?_)
 rintro ⟨i, sv, Ls⟩ e_ L ⟨rfl, hi, hsl⟩
 simp only at hi hsl
 refine zs ?_
 refine zc (T1.ltI_split rfl rfl (fun h3 => ?_) (fun h3 => ?_))
 ·
  have hil : i < ms.length := by omega
  obtain ⟨x, hx0⟩ : ∃ x, ms[i]? = some x := ⟨_, List.getElem?_eq_getElem hil⟩
  have hxo := hm.each x (List.mem_of_getElem? hx0)
  obtain ⟨b, o, rfl, hrd⟩ := flatK_at mbC 66 (fun x hx => mbC_len (hm.each x hx)) hr zw P
  refine zs ?_
  refine T.cond_t rfl (zs ?_)
  refine z0 (V1.indexAddrS ty_38 sz_55 rfl rfl zw zw) ?_
  refine z0 (V1.loadN (vs := mbC x) one_55 sz_55 rfl (hrd i x hx0 _ rfl rfl _ z_D) (mbC_len hxo)) ?_
  refine zc (T1.allocN 66 zr_55 rfl (fun b5 => ?_))
  refine zc (T1.storeN rfl rfl sz_55 (mbC_one x) z_H (by rw [mbC_len hxo]; rfl) (mbC_len hxo) ?_)
  refine zs ?_
  refine z0 (V1.fieldAddr fl_55_0 rfl) ?_
  refine z0 (V1.load1 one_37 rfl (show Rd _ _ ⟨b5, 0 + 0, none⟩ (u32V x.name) from Rd.at (cells := mbC x) z_A rfl)) ?_
  refine zc (T1.buildSl1 (os := [.tmp 15]) (vs := [u32V x.name]) ty_42 sz_37 zr_37 ze rfl (.cons z_C .nil) rfl (ones rfl) (fun b16 => ?_))
  refine zc (T1.append ty_42 kd_42 sz_37 by_37 zr_37 rfl ze ze rfl rfl hsl (.sl (n := 1) (RdN.at0 z_A) rfl) (ones rfl) 1000 (by rw [List.length_map, List.length_take]; show _ + 1 ≤ _; omega) ze z_E (fun s1 Ls1 hs1 => ?_))
  replace hs1 : Sl s1 ((ms.take (i + 1)).map fun m => u32V m.name) 1 Ls1 := by rw [List.take_add_one, hx0, List.map_append]; exact hs1
  refine zs ?_
  refine zq1 (V1.add (c := ((i + 1 : Nat) : Int)) rfl rfl z_J) ?_
  exact ⟨(i + 1, s1, Ls1), ⟨b1, 0, rosC e h (.slice (some ⟨b, o, none⟩) ms.length c), 34⟩ :: (Ls1 ++ G), _, z_N, (.cons rfl (.cons rfl .nil)), (.cons rfl (.cons rfl .nil)), z_B, ⟨rfl, by simp only; omega, hs1⟩⟩
 ·
  obtain rfl : i = ms.length := by omega
  rw [List.take_length] at hsl
  refine zs ?_
  refine T.cond_f rfl (zs ?_)
  exact ⟨_, Ls ++ G, _, .cons (.tmp z_C) .nil, z_B, Ls, rfl, hsl⟩
end Go.Proofs.YtfjedhmffccgnaaGreatDoor.S
namespace Go.Proofs.YtfjedhmffccgnaaGreatDoor.S
set_option maxRecDepth 100000
set_option maxHeartbeats 1000000
open Go.RowKit
theorem mbZ_ok : mbZ.ok := ⟨by decide, rfl, rfl⟩
theorem hasM_nil (n : Nat) : ¬ HasM [] n := fun ⟨_, h, _⟩ => by cases h
theorem rights_new (w0 : World) (Ps : List Blk) {ms : List Mb} {a : Option Addr} {c : Nat} (hr : RowR w0 Ps 66 (.slice a ms.length c) ms.length (ms.flatMap mbC)) (hm : MbsOk ms) {e : Nat} {h : List UInt8} (hh : h.length = 32) {sg ag : List UInt8} (h2 : sg.length = 32) (h3 : ag.length = 32) {v : Value} (hv1 : one v = true) {by_ to : Nat} (n2 : by_ < 4294967296) (n3 : to < 4294967296) (h0 : ms = []) (hbt : by_ = to) : FnV P 27 [.agg (rosC e h (.slice a ms.length c)).toArray, .agg (stpC 1 by_ to sg ag v).toArray] w0 Ps (fun v => v = .int .i64 0) := by
 have hlen := hm.len
 subst h0
 refine FnV.of 136 [.tmp 4] Go.Proofs.Tryz.func27 rfl rfl rfl rfl (fun G hG => ?_)
 refine zs ?_
 refine zc (T1.boxN (vs := rosC e h (.slice a ([] : List Mb).length c)) 34 rfl (rosC_len hh) (fun b2 => ?_))
 refine zc (T1.boxN (vs := stpC 1 by_ to sg ag v) 68 rfl (stpC_len h2 h3) (fun b3 => zs ?_))
 refine z0 (V1.loadN (vs := rosC e h (.slice a ([] : List Mb).length c)) one_40 sz_40 rfl (RdN.whole z_A) (rosC_len hh)) ?_
 refine z0 (V1.fieldAddr fl_51_1 rfl) ?_
 refine z0 (V1.load1 one_37 rfl (show Rd _ _ ⟨b3, 0 + 1, none⟩ (u32V by_) from Rd.at (cells := stpC 1 by_ to sg ag v) z_A rfl)) ?_
 refine zc (T1.callV has_8 rfl rfl (FindM_f w0 Ps hr hm e h hh by_ n2 (hasM_nil _)) z_D (fun v_ hv => ?_))
 obtain rfl := hv
 refine zs ?_
 refine zc (T1.allocN 66 zr_55 rfl (fun b5 => ?_))
 refine zc (T1.storeN rfl rfl sz_55 (mbC_one mbZ) z_H (by rw [mbC_len mbZ_ok]; rfl) (mbC_len mbZ_ok) ?_)
 refine zs ?_
 refine z0 (V1.loadN (vs := rosC e h (.slice a ([] : List Mb).length c)) one_40 sz_40 rfl (RdN.whole z_A) (rosC_len hh)) ?_
 refine z0 (V1.fieldAddr fl_51_2 rfl) ?_
 refine z0 (V1.load1 one_37 rfl (show Rd _ _ ⟨b3, 0 + 2, none⟩ (u32V to) from Rd.at (cells := stpC 1 by_ to sg ag v) z_A rfl)) ?_
 refine zc (T1.callV has_8 rfl rfl (FindM_f w0 Ps hr hm e h hh to n3 (hasM_nil _)) z_D (fun v_ hv => ?_))
 obtain rfl := hv
 refine zs ?_
 refine zc (T1.allocN 66 zr_55 rfl (fun b7 => ?_))
 refine zc (T1.storeN rfl rfl sz_55 (mbC_one mbZ) z_H (by rw [mbC_len mbZ_ok]; rfl) (mbC_len mbZ_ok) ?_)
 refine z1 ?_
 refine T.seq (T.block (T.seq (T.live (l := [(2, _), (3, _), (5, _), (6, _), (7, _), (8, _)]) zT (fun e_ => ?_))))
 refine T.region (z0 (V1.fieldAddr fl_51_0 rfl) ?_)
 refine z0 (V1.load1 one_37 rfl (show Rd _ _ ⟨b3, 0 + 0, none⟩ (u32V 1) from Rd.at (cells := stpC 1 by_ to sg ag v) z_A rfl)) ?_
 refine zq (V1.eqI (r := true) rfl rfl ze) ?_
 refine z0 (V1.fieldAddr fl_40_2 rfl) ?_
 refine z0 (V1.load1 one_38 rfl (show Rd _ _ ⟨b2, 0 + 33, none⟩ (.slice a ([] : List Mb).length c) from Rd.at (cells := rosC e h (.slice a ([] : List Mb).length c)) z_A (ros_v hh))) ?_
 refine z0 (V1.lenSl ty_38 rfl) ?_
 refine zq (V1.gtI (r := false) rfl rfl ze) ?_
 refine T.cond_f rfl (zs ?_)
 refine z0 (V1.fieldAddr fl_51_0 rfl) ?_
 refine z0 (V1.load1 one_37 rfl (show Rd _ _ ⟨b3, 0 + 0, none⟩ (u32V 1) from Rd.at (cells := stpC 1 by_ to sg ag v) z_A rfl)) ?_
 refine zq (V1.eqI (r := true) rfl rfl ze) ?_
 refine z0 (V1.fieldAddr fl_51_1 rfl) ?_
 refine z0 (V1.load1 one_37 rfl (show Rd _ _ ⟨b3, 0 + 1, none⟩ (u32V by_) from Rd.at (cells := stpC 1 by_ to sg ag v) z_A rfl)) ?_
 refine z0 (V1.fieldAddr fl_51_2 rfl) ?_
 refine z0 (V1.load1 one_37 rfl (show Rd _ _ ⟨b3, 0 + 2, none⟩ (u32V to) from Rd.at (cells := stpC 1 by_ to sg ag v) z_A rfl)) ?_
 refine zq (V1.neI (r := false) rfl rfl (decide_eq_false zw)) ?_
 refine T.cond_f rfl (T.seq (T.live (l := [(2, _), (3, _), (5, _), (6, _), (7, _), (8, _)]) zT (fun e_ => ?_)))
 refine T.region (z0 (V1.fieldAddr fl_51_0 rfl) ?_)
 refine z0 (V1.load1 one_37 rfl (show Rd _ _ ⟨b3, 0 + 0, none⟩ (u32V 1) from Rd.at (cells := stpC 1 by_ to sg ag v) z_A rfl)) ?_
 refine zq (V1.eqI (r := true) rfl rfl ze) ?_
 refine T.cond_t rfl (zs ?_)
 exact ⟨_, G, _, .cons (.tmp z_C) .nil, z_B, rfl, rfl⟩
theorem rights_add (w0 : World) (Ps : List Blk) {ms : List Mb} {a : Option Addr} {c : Nat} (hr : RowR w0 Ps 66 (.slice a ms.length c) ms.length (ms.flatMap mbC)) (hm : MbsOk ms) {e : Nat} {h : List UInt8} (hh : h.length = 32) {sg ag : List UInt8} (h2 : sg.length = 32) (h3 : ag.length = 32) {v : Value} (hv1 : one v = true) {by_ to : Nat} (n2 : by_ < 4294967296) (n3 : to < 4294967296) {m : Mb} (hmm : m ∈ ms) (hmb : m.name = by_) (had : m.adm = true) (hto : ¬ HasM ms to) (h16 : ms.length < 16) : FnV P 27 [.agg (rosC e h (.slice a ms.length c)).toArray, .agg (stpC 2 by_ to sg ag v).toArray] w0 Ps (fun v => v = .int .i64 0) := by
 have hlen := hm.len
 have hmo := hm.each m hmm
 refine FnV.of 136 [.tmp 4] Go.Proofs.Tryz.func27 rfl rfl rfl rfl (fun G hG => ?_)
 refine zs ?_
 refine zc (T1.boxN (vs := rosC e h (.slice a ms.length c)) 34 rfl (rosC_len hh) (fun b2 => ?_))
 refine zc (T1.boxN (vs := stpC 2 by_ to sg ag v) 68 rfl (stpC_len h2 h3) (fun b3 => zs ?_))
 refine z0 (V1.loadN (vs := rosC e h (.slice a ms.length c)) one_40 sz_40 rfl (RdN.whole z_A) (rosC_len hh)) ?_
 refine z0 (V1.fieldAddr fl_51_1 rfl) ?_
 refine z0 (V1.load1 one_37 rfl (show Rd _ _ ⟨b3, 0 + 1, none⟩ (u32V by_) from Rd.at (cells := stpC 2 by_ to sg ag v) z_A rfl)) ?_
 refine zc (T1.callV has_8 rfl rfl (FindM_t w0 Ps hr hm e h hh hmm by_ hmb) z_D (fun v_ hv => ?_))
 obtain rfl := hv
 refine zs ?_
 refine zc (T1.allocN 66 zr_55 rfl (fun b5 => ?_))
 refine zc (T1.storeN rfl rfl sz_55 (mbC_one m) z_H (by rw [mbC_len hmo]; rfl) (mbC_len hmo) ?_)
 refine zs ?_
 refine z0 (V1.loadN (vs := rosC e h (.slice a ms.length c)) one_40 sz_40 rfl (RdN.whole z_A) (rosC_len hh)) ?_
 refine z0 (V1.fieldAddr fl_51_2 rfl) ?_
 refine z0 (V1.load1 one_37 rfl (show Rd _ _ ⟨b3, 0 + 2, none⟩ (u32V to) from Rd.at (cells := stpC 2 by_ to sg ag v) z_A rfl)) ?_
 refine zc (T1.callV has_8 rfl rfl (FindM_f w0 Ps hr hm e h hh to n3 hto) z_D (fun v_ hv => ?_))
 obtain rfl := hv
 refine zs ?_
 refine zc (T1.allocN 66 zr_55 rfl (fun b7 => ?_))
 refine zc (T1.storeN rfl rfl sz_55 (mbC_one mbZ) z_H (by rw [mbC_len mbZ_ok]; rfl) (mbC_len mbZ_ok) ?_)
 refine z1 ?_
 refine T.seq (T.block (T.seq (T.live (l := [(2, _), (3, _), (5, _), (6, _), (7, _), (8, _)]) zT (fun e_ => ?_))))
 refine T.region (z0 (V1.fieldAddr fl_51_0 rfl) ?_)
 refine z0 (V1.load1 one_37 rfl (show Rd _ _ ⟨b3, 0 + 0, none⟩ (u32V 2) from Rd.at (cells := stpC 2 by_ to sg ag v) z_A rfl)) ?_
 refine zq (V1.eqI (r := false) rfl rfl ze) ?_
 refine TL.no rfl ?_
 refine TL.no rfl ?_
 refine TL.no rfl ?_
 refine TL.no rfl ?_
 refine zs ?_
 refine T.cond_f rfl (zs ?_)
 refine z0 (V1.fieldAddr fl_51_0 rfl) ?_
 refine z0 (V1.load1 one_37 rfl (show Rd _ _ ⟨b3, 0 + 0, none⟩ (u32V 2) from Rd.at (cells := stpC 2 by_ to sg ag v) z_A rfl)) ?_
 refine zq (V1.eqI (r := false) rfl rfl ze) ?_
 refine TL.no rfl ?_
 refine TL.no rfl ?_
 refine TL.no rfl ?_
 refine TL.no rfl ?_
 refine TL.no rfl ?_
 refine zs ?_
 refine T.cond_f rfl (T.seq (T.live (l := [(2, _), (3, _), (5, _), (6, _), (7, _), (8, _)]) zT (fun e_ => ?_)))
 refine T.region (z0 (V1.fieldAddr fl_51_0 rfl) ?_)
 refine z0 (V1.load1 one_37 rfl (show Rd _ _ ⟨b3, 0 + 0, none⟩ (u32V 2) from Rd.at (cells := stpC 2 by_ to sg ag v) z_A rfl)) ?_
 refine zq (V1.eqI (r := false) rfl rfl ze) ?_
 refine T.cond_f rfl (zs ?_)
 refine zq (V1.not rfl rfl) ?_
 refine T.cond_f rfl (zs ?_)
 refine z0 (V1.fieldAddr fl_51_0 rfl) ?_
 refine z0 (V1.load1 one_37 rfl (show Rd _ _ ⟨b3, 0 + 0, none⟩ (u32V 2) from Rd.at (cells := stpC 2 by_ to sg ag v) z_A rfl)) ?_
 refine zq (V1.eqI (r := false) rfl rfl ze) ?_
 refine TL.no rfl ?_
 refine TL.no rfl ?_
 refine TL.no rfl ?_
 refine TL.no rfl ?_
 refine TL.no rfl ?_
 refine zs ?_
 refine T.cond_f rfl (T.live (l := [(2, _), (3, _), (5, _), (7, _), (8, _)]) zT (fun e_ => ?_))
 refine T.region (z0 (V1.fieldAddr fl_51_0 rfl) ?_)
 refine z0 (V1.load1 one_37 rfl (show Rd _ _ ⟨b3, 0 + 0, none⟩ (u32V 2) from Rd.at (cells := stpC 2 by_ to sg ag v) z_A rfl)) ?_
 refine zq (V1.neI (r := true) rfl rfl ze) ?_
 refine z0 (V1.fieldAddr fl_55_1 rfl) ?_
 refine z0 (V1.load1 (v := .bool true) one_4 rfl (show Rd _ _ ⟨b5, 0 + 1, none⟩ _ from by rw [← had]; exact Rd.at (cells := mbC m) z_A rfl)) ?_
 refine zq (V1.not rfl rfl) ?_
 refine T.cond_f rfl (zs ?_)
 refine z0 (V1.fieldAddr fl_51_0 rfl) ?_
 refine z0 (V1.load1 one_37 rfl (show Rd _ _ ⟨b3, 0 + 0, none⟩ (u32V 2) from Rd.at (cells := stpC 2 by_ to sg ag v) z_A rfl)) ?_
 refine zq (V1.eqI (r := true) rfl rfl ze) ?_
 refine T.cond_f rfl (T.seq (T.live (l := [(2, _), (3, _), (7, _), (8, _)]) zT (fun e_ => ?_)))
 refine T.region (z0 (V1.fieldAddr fl_51_0 rfl) ?_)
 refine z0 (V1.load1 one_37 rfl (show Rd _ _ ⟨b3, 0 + 0, none⟩ (u32V 2) from Rd.at (cells := stpC 2 by_ to sg ag v) z_A rfl)) ?_
 refine zq (V1.eqI (r := true) rfl rfl ze) ?_
 refine z0 (V1.fieldAddr fl_40_2 rfl) ?_
 refine z0 (V1.load1 one_38 rfl (show Rd _ _ ⟨b2, 0 + 33, none⟩ (.slice a ms.length c) from Rd.at (cells := rosC e h (.slice a ms.length c)) z_A (ros_v hh))) ?_
 refine z0 (V1.lenSl ty_38 rfl) ?_
 refine zq (V1.eqI (r := false) rfl rfl (decide_eq_false zw)) ?_
 refine T.cond_f rfl (zs ?_)
 refine z0 (V1.fieldAddr fl_51_0 rfl) ?_
 refine z0 (V1.load1 one_37 rfl (show Rd _ _ ⟨b3, 0 + 0, none⟩ (u32V 2) from Rd.at (cells := stpC 2 by_ to sg ag v) z_A rfl)) ?_
 refine zq (V1.eqI (r := true) rfl rfl ze) ?_
 refine T.cond_t rfl (zs ?_)
 exact ⟨_, G, _, .cons (.tmp z_C) .nil, z_B, rfl, rfl⟩
theorem rights_del (w0 : World) (Ps : List Blk) {ms : List Mb} {a : Option Addr} {c : Nat} (hr : RowR w0 Ps 66 (.slice a ms.length c) ms.length (ms.flatMap mbC)) (hm : MbsOk ms) {e : Nat} {h : List UInt8} (hh : h.length = 32) {sg ag : List UInt8} (h2 : sg.length = 32) (h3 : ag.length = 32) {v : Value} (hv1 : one v = true) {by_ to : Nat} (n2 : by_ < 4294967296) (n3 : to < 4294967296) {m k : Mb} (hmm : m ∈ ms) (hmb : m.name = by_) (had : m.adm = true) (hkm : k ∈ ms) (hkb : k.name = to) (hkd : k.adm = false) : FnV P 27 [.agg (rosC e h (.slice a ms.length c)).toArray, .agg (stpC 3 by_ to sg ag v).toArray] w0 Ps (fun v => v = .int .i64 0) := by
 have hlen := hm.len
 have hmo := hm.each m hmm
 have hko := hm.each k hkm
 refine FnV.of 136 [.tmp 4] Go.Proofs.Tryz.func27 rfl rfl rfl rfl (fun G hG => ?_)
 refine zs ?_
 refine zc (T1.boxN (vs := rosC e h (.slice a ms.length c)) 34 rfl (rosC_len hh) (fun b2 => ?_))
 refine zc (T1.boxN (vs := stpC 3 by_ to sg ag v) 68 rfl (stpC_len h2 h3) (fun b3 => zs ?_))
 refine z0 (V1.loadN (vs := rosC e h (.slice a ms.length c)) one_40 sz_40 rfl (RdN.whole z_A) (rosC_len hh)) ?_
 refine z0 (V1.fieldAddr fl_51_1 rfl) ?_
 refine z0 (V1.load1 one_37 rfl (show Rd _ _ ⟨b3, 0 + 1, none⟩ (u32V by_) from Rd.at (cells := stpC 3 by_ to sg ag v) z_A rfl)) ?_
 refine zc (T1.callV has_8 rfl rfl (FindM_t w0 Ps hr hm e h hh hmm by_ hmb) z_D (fun v_ hv => ?_))
 obtain rfl := hv
 refine zs ?_
 refine zc (T1.allocN 66 zr_55 rfl (fun b5 => ?_))
 refine zc (T1.storeN rfl rfl sz_55 (mbC_one m) z_H (by rw [mbC_len hmo]; rfl) (mbC_len hmo) ?_)
 refine zs ?_
 refine z0 (V1.loadN (vs := rosC e h (.slice a ms.length c)) one_40 sz_40 rfl (RdN.whole z_A) (rosC_len hh)) ?_
 refine z0 (V1.fieldAddr fl_51_2 rfl) ?_
 refine z0 (V1.load1 one_37 rfl (show Rd _ _ ⟨b3, 0 + 2, none⟩ (u32V to) from Rd.at (cells := stpC 3 by_ to sg ag v) z_A rfl)) ?_
 refine zc (T1.callV has_8 rfl rfl (FindM_t w0 Ps hr hm e h hh hkm to hkb) z_D (fun v_ hv => ?_))
 obtain rfl := hv
 refine zs ?_
 refine zc (T1.allocN 66 zr_55 rfl (fun b7 => ?_))
 refine zc (T1.storeN rfl rfl sz_55 (mbC_one k) z_H (by rw [mbC_len hko]; rfl) (mbC_len hko) ?_)
 refine z1 ?_
 refine T.seq (T.block (T.seq (T.live (l := [(2, _), (3, _), (5, _), (6, _), (7, _), (8, _)]) zT (fun e_ => ?_))))
 refine T.region (z0 (V1.fieldAddr fl_51_0 rfl) ?_)
 refine z0 (V1.load1 one_37 rfl (show Rd _ _ ⟨b3, 0 + 0, none⟩ (u32V 3) from Rd.at (cells := stpC 3 by_ to sg ag v) z_A rfl)) ?_
 refine zq (V1.eqI (r := false) rfl rfl ze) ?_
 refine TL.no rfl ?_
 refine TL.no rfl ?_
 refine TL.no rfl ?_
 refine TL.no rfl ?_
 refine zs ?_
 refine T.cond_f rfl (zs ?_)
 refine z0 (V1.fieldAddr fl_51_0 rfl) ?_
 refine z0 (V1.load1 one_37 rfl (show Rd _ _ ⟨b3, 0 + 0, none⟩ (u32V 3) from Rd.at (cells := stpC 3 by_ to sg ag v) z_A rfl)) ?_
 refine zq (V1.eqI (r := false) rfl rfl ze) ?_
 refine TL.no rfl ?_
 refine TL.no rfl ?_
 refine TL.no rfl ?_
 refine TL.no rfl ?_
 refine TL.no rfl ?_
 refine zs ?_
 refine T.cond_f rfl (T.seq (T.live (l := [(2, _), (3, _), (5, _), (6, _), (7, _), (8, _)]) zT (fun e_ => ?_)))
 refine T.region (z0 (V1.fieldAddr fl_51_0 rfl) ?_)
 refine z0 (V1.load1 one_37 rfl (show Rd _ _ ⟨b3, 0 + 0, none⟩ (u32V 3) from Rd.at (cells := stpC 3 by_ to sg ag v) z_A rfl)) ?_
 refine zq (V1.eqI (r := false) rfl rfl ze) ?_
 refine T.cond_f rfl (zs ?_)
 refine zq (V1.not rfl rfl) ?_
 refine T.cond_f rfl (zs ?_)
 refine z0 (V1.fieldAddr fl_51_0 rfl) ?_
 refine z0 (V1.load1 one_37 rfl (show Rd _ _ ⟨b3, 0 + 0, none⟩ (u32V 3) from Rd.at (cells := stpC 3 by_ to sg ag v) z_A rfl)) ?_
 refine zq (V1.eqI (r := false) rfl rfl ze) ?_
 refine TL.no rfl ?_
 refine TL.no rfl ?_
 refine TL.no rfl ?_
 refine TL.no rfl ?_
 refine TL.no rfl ?_
 refine zs ?_
 refine T.cond_f rfl (T.live (l := [(2, _), (3, _), (5, _), (7, _), (8, _)]) zT (fun e_ => ?_))
 refine T.region (z0 (V1.fieldAddr fl_51_0 rfl) ?_)
 refine z0 (V1.load1 one_37 rfl (show Rd _ _ ⟨b3, 0 + 0, none⟩ (u32V 3) from Rd.at (cells := stpC 3 by_ to sg ag v) z_A rfl)) ?_
 refine zq (V1.neI (r := true) rfl rfl ze) ?_
 refine z0 (V1.fieldAddr fl_55_1 rfl) ?_
 refine z0 (V1.load1 (v := .bool true) one_4 rfl (show Rd _ _ ⟨b5, 0 + 1, none⟩ _ from by rw [← had]; exact Rd.at (cells := mbC m) z_A rfl)) ?_
 refine zq (V1.not rfl rfl) ?_
 refine T.cond_f rfl (zs ?_)
 refine z0 (V1.fieldAddr fl_51_0 rfl) ?_
 refine z0 (V1.load1 one_37 rfl (show Rd _ _ ⟨b3, 0 + 0, none⟩ (u32V 3) from Rd.at (cells := stpC 3 by_ to sg ag v) z_A rfl)) ?_
 refine zq (V1.eqI (r := false) rfl rfl ze) ?_
 refine TL.no rfl ?_
 refine zs ?_
 refine T.cond_f rfl (T.seq (T.live (l := [(2, _), (3, _), (7, _), (8, _)]) zT (fun e_ => ?_)))
 refine T.region (z0 (V1.fieldAddr fl_51_0 rfl) ?_)
 refine z0 (V1.load1 one_37 rfl (show Rd _ _ ⟨b3, 0 + 0, none⟩ (u32V 3) from Rd.at (cells := stpC 3 by_ to sg ag v) z_A rfl)) ?_
 refine zq (V1.eqI (r := false) rfl rfl ze) ?_
 refine TL.no rfl ?_
 refine TL.no rfl ?_
 refine TL.no rfl ?_
 refine TL.no rfl ?_
 refine zs ?_
 refine T.cond_f rfl (zs ?_)
 refine z0 (V1.fieldAddr fl_51_0 rfl) ?_
 refine z0 (V1.load1 one_37 rfl (show Rd _ _ ⟨b3, 0 + 0, none⟩ (u32V 3) from Rd.at (cells := stpC 3 by_ to sg ag v) z_A rfl)) ?_
 refine zq (V1.eqI (r := false) rfl rfl ze) ?_
 refine T.cond_f rfl (zs ?_)
 refine zq (V1.not rfl rfl) ?_
 refine T.cond_f rfl (T.seq (T.live (l := [(2, _), (3, _), (7, _)]) zT (fun e_ => ?_)))
 refine T.region (z0 (V1.fieldAddr fl_51_0 rfl) ?_)
 refine z0 (V1.load1 one_37 rfl (show Rd _ _ ⟨b3, 0 + 0, none⟩ (u32V 3) from Rd.at (cells := stpC 3 by_ to sg ag v) z_A rfl)) ?_
 refine zq (V1.eqI (r := false) rfl rfl ze) ?_
 refine TL.no rfl ?_
 refine TL.no rfl ?_
 refine zs ?_
 refine z0 (V1.fieldAddr fl_51_0 rfl) ?_
 refine z0 (V1.load1 one_37 rfl (show Rd _ _ ⟨b3, 0 + 0, none⟩ (u32V 3) from Rd.at (cells := stpC 3 by_ to sg ag v) z_A rfl)) ?_
 refine zq (V1.eqI (r := false) rfl rfl ze) ?_
 refine TL.no rfl ?_
 refine TL.no rfl ?_
 refine TL.no rfl ?_
 refine zs ?_
 refine T.cond_f rfl (T.seq (T.live (l := [(2, _), (3, _), (7, _)]) zT (fun e_ => ?_)))
 refine T.region (z0 (V1.fieldAddr fl_51_0 rfl) ?_)
 refine z0 (V1.load1 one_37 rfl (show Rd _ _ ⟨b3, 0 + 0, none⟩ (u32V 3) from Rd.at (cells := stpC 3 by_ to sg ag v) z_A rfl)) ?_
 refine zq (V1.neI (r := true) rfl rfl ze) ?_
 refine z0 (V1.fieldAddr fl_55_1 rfl) ?_
 refine zq (V1.load1 (v := .bool false) one_4 rfl (show Rd _ _ ⟨b7, 0 + 1, none⟩ _ from by rw [← hkd]; exact Rd.at (cells := mbC k) z_A rfl)) ?_
 refine TL.no rfl ?_
 refine TL.no rfl ?_
 refine TL.no rfl ?_
 refine zs ?_
 refine TL.no rfl ?_
 refine TL.no rfl ?_
 refine TL.no rfl ?_
 refine TL.no rfl ?_
 refine TL.no rfl ?_
 refine TL.no rfl ?_
 refine TL.no rfl ?_
 refine TL.no rfl ?_
 refine TL.no rfl ?_
 refine zs ?_
 refine T.cond_f rfl (T.skip (T.seq (T.live (l := []) .nil (fun e_ => ?_))))
 refine zs ?_
 exact ⟨_, G, _, .cons (.tmp z_C) .nil, z_B, rfl, rfl⟩
end Go.Proofs.YtfjedhmffccgnaaGreatDoor.S
