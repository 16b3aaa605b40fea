/- A tale: something more is heard; another epoch. -/
import Derived.Test.YtfjedhmffccgnaaGreatDoorG2
namespace Go.Proofs.YtfjedhmffccgnaaGreatDoor.S
set_option maxRecDepth 100000
set_option maxHeartbeats 8000000
open Go.RowKit
def TaleP (w0 : World) (Ps : List Blk) (bt : Nat) (vn : Value) (Ln : List Blk) (vb : Value) (Lb : List Blk) (s : Sg) (Y : List Blk) : Prop :=
  ∃ vk Lk xk, Y = (⟨bt, 0, [vn, iV (s.epoch), iV (s.says), vk, vb], 5⟩ : Blk) :: (Ln ++ (Lb ++ Lk)) ∧ Sl vn (s.names.map iV) 1 Ln ∧ Sl vb (s.bare.map iV) 1 Lb ∧ SlG (some 32) vk xk 3 Lk ∧ TmsR w0 Ps s.known xk
theorem Sl.nat {w0 : World} {v : Value} {ns : List Nat} {Ls : List Blk} (h : Sl v (ns.map iV) 1 Ls) : RowR w0 Ls 1 v ns.length (ns.map iV) := RowR.ofSl h Inc.refl ze _ (by simp)
def LT (ns : List Nat) (e : Nat) (us : List Nat) : List Tm := us.flatMap fun a => (ns.filter (· ≠ a)).map fun b => letterT a b e
def LT1 (a e : Nat) (us : List Nat) : List Tm := (us.filter (· ≠ a)).map fun b => letterT a b e
theorem LT_take {ns : List Nat} {e i a : Nat} {us : List Nat} (h : us[i]? = some a) : LT ns e (us.take (i + 1)) = LT ns e (us.take i) ++ LT1 a e ns := by
 unfold LT LT1; rw [take_nat h, List.flatMap_append]; simp
theorem LT1_take {a e j b : Nat} {us : List Nat} (h : us[j]? = some b) : LT1 a e (us.take (j + 1)) = LT1 a e (us.take j) ++ if a = b then [] else [letterT a b e] := by
 unfold LT1
 rw [take_nat h, List.filter_append, List.map_append]
 congr 1
 by_cases hn : a = b
 · simp [hn]
 ·
  have : b ≠ a := fun e => hn e.symm
  simp [hn, this]
theorem LT1_len (a e : Nat) (us : List Nat) : (LT1 a e us).length ≤ us.length := by unfold LT1; rw [List.length_map]; exact List.length_filter_le _ _
theorem LT_len (ns : List Nat) (e : Nat) (us : List Nat) (h : ns.length ≤ 6) : (LT ns e us).length ≤ 6 * us.length := len_flatMap _ 6 us fun a _ => by rw [List.length_map]; have := List.length_filter_le (· ≠ a) ns; omega
theorem hear_any (w0 : World) (Ps : List Blk) {bt : Nat} {vn vb : Value} {Ln Lb Y : List Blk} {s : Sg} (ht0 : TaleP w0 Ps bt vn Ln vb Lb s Y) {us : List Tm} {xs : List Value} {a : Option Addr} {n c : Nat} (hr : RowR w0 Ps 3 (.slice a n c) n xs) (hu : TmsR w0 Ps us xs) (hl : s.known.length + us.length ≤ 2000) : FnG P 10 [.pointer (some ⟨bt, 0, none⟩), .slice a n c] w0 Ps Y (fun v Y => TaleP w0 Ps bt vn Ln vb Lb { s with known := s.known ++ us } Y) := by
 obtain ⟨vk, Lk, xk, rfl, hsn, hsb, hsk, hxk⟩ := ht0
 refine FnG.of 13 [] Go.Proofs.Tryz.func10 rfl rfl rfl rfl (fun G hG => ?_)
 simp only [List.cons_append, List.append_assoc]
 refine zs ?_
 refine z0 (V1.nilCheck rfl) ?_
 refine z0 (V1.fieldAddr fl_62_3 rfl) ?_
 refine zq (V1.load1 (v := vk) one_24 rfl (.own z_A zr)) ?_
 refine zc (T1.appendG ty_24 kd_24 sz_32 by_32 zr_32 rfl ze ze rfl rfl (.inr rfl) hsk (hr.src _ rfl rfl _ z_D) hu.ones 2000 (by rw [hxk.len, hu.len]; omega) ze z_E (fun s2 Lk2 hsk2 => ?_))
 refine z0 (V1.nilCheck rfl) ?_
 refine z0 (V1.fieldAddr fl_62_3 rfl) ?_
 refine zc (T1.store1 rfl rfl sz_24 hsk2.one z_H (Nat.zero_le _) z_K ?_)
 refine TL.nil ?_
 exact ⟨_, ⟨bt, 0, [vn, iV (s.epoch), iV (s.says), s2, vb], 5⟩ :: (Ln ++ (Lb ++ (Lk2 ++ G))), _, .nil, z_B, ⟨bt, 0, [vn, iV (s.epoch), iV (s.says), s2, vb], 5⟩ :: (Ln ++ (Lb ++ Lk2)), by simp only [List.cons_append, List.append_assoc], s2, Lk2, _, rfl, hsn, hsb, hsk2, hxk.app hu⟩
theorem turn_any (w0 : World) (Ps : List Blk) {bt : Nat} {vn vb : Value} {Ln Lb Y : List Blk} {s : Sg} (ht0 : TaleP w0 Ps bt vn Ln vb Lb s Y) (hn6 : s.names.length ≤ 6) (h99 : ∀ n ∈ s.names, n < 100) (hep : s.epoch < 98) (hl : s.known.length ≤ 1900) : FnG P 15 [.pointer (some ⟨bt, 0, none⟩)] w0 Ps Y (fun v Y2 => ∃ Y' Q, Y2 = Y' ++ Q ∧ TaleP w0 (Q ++ Ps) bt vn Ln vb Lb (s.turn s.names) Y') := by
 obtain ⟨vk, Lk, xk, rfl, hsn, hsb, hsk, hxk⟩ := ht0
 have hrn := Sl.nat (w0 := w0) hsn
 obtain ⟨an, cn, rfl⟩ := hrn.form
 refine FnG.of 54 [] Go.Proofs.Tryz.func15 rfl rfl rfl rfl (fun G hG => ?_)
 simp only [List.cons_append, List.append_assoc]
 refine zs ?_
 refine z0 (V1.nilCheck rfl) ?_
 refine z0 (V1.fieldAddr fl_62_1 rfl) ?_
 refine z0 (V1.load1 (v := iV s.epoch) one_3 rfl (.own z_A zr)) ?_
 refine z0 (V1.add (c := ((s.epoch + 1 : Nat) : Int)) rfl rfl z_J) ?_
 refine z0 (V1.nilCheck rfl) ?_
 refine z0 (V1.fieldAddr fl_62_1 rfl) ?_
 refine zc (T1.store1 rfl rfl sz_3 rfl z_H (Nat.zero_le _) z_K ?_)
 refine zs ?_
 refine z0 (V1.nilCheck rfl) ?_
 refine z0 (V1.fieldAddr fl_62_0 rfl) ?_
 refine z0 (V1.load1 (v := .slice an s.names.length cn) one_25 rfl (.own z_A zr)) ?_
 refine zq1 (V1.lenSl ty_25 rfl) ?_
 refine T.block (T.loopL (σ := Nat) (l0 := [(0, _), (16, _), (17, _)]) (fun x => [(18, .int .i64 (x : Nat))]) (fun i L => ∃ vk Lk xk Q, L = ⟨bt, 0, [.slice an s.names.length cn, iV (s.epoch + 1), iV (s.says), vk, vb], 5⟩ :: (Ln ++ (Lb ++ (Lk ++ (Q ++ G)))) ∧ i ≤ s.names.length ∧ SlG (some 32) vk xk 3 Lk ∧ TmsR w0 (Q ++ Ps) (s.known ++ LT s.names (s.epoch + 1) (s.names.take i)) xk) (fun i => s.names.length - i) 0 (.cons rfl .nil) zT z_B (⟨vk, Lk, xk, [], rfl, Nat.zero_le _, hsk, by simpa [LT] using hxk⟩) ?_)
 rintro i e_ L ⟨vk, Lk, xk, Q, rfl, hi, hsk, hxk⟩
 have hl1 := LT_len s.names (s.epoch + 1) (s.names.take i) hn6
 rw [List.length_take, Nat.min_eq_left hi] at hl1
 refine zs ?_
 refine zc (T1.ltI_split rfl rfl (fun h2 => ?_) (fun h2 => ?_))
 ·
  obtain ⟨a, hx0⟩ : ∃ a, s.names[i]? = some a := ⟨_, List.getElem?_eq_getElem zw⟩
  have ha := h99 a (List.mem_of_getElem? hx0)
  obtain ⟨b_, o_, rfl, hrd⟩ := hrn.at zw P
  refine zs ?_
  refine T.cond_t rfl (zs ?_)
  refine z0 (V1.indexAddrS ty_25 sz_3 rfl rfl zw zw) ?_
  refine zc (V1.t (V1.load1 (v := iV a) one_3 rfl (show Rd _ _ ⟨_, _ + i * 1, none⟩ _ from by rw [Nat.mul_one]; exact hrd _ rfl rfl _ z_D i _ (by rw [List.getElem?_map, hx0]; rfl))) ?_)
  refine zs ?_
  refine z0 (V1.nilCheck rfl) ?_
  refine z0 (V1.fieldAddr fl_62_0 rfl) ?_
  refine z0 (V1.load1 (v := .slice (some ⟨b_, o_, none⟩) s.names.length cn) one_25 rfl (.own z_A zr)) ?_
  refine zq1 (V1.lenSl ty_25 rfl) ?_
  refine T.block (T.loopL (σ := Nat) (l0 := [(0, _), (3, _), (16, _), (17, _), (18, _), (25, _), (26, _)]) (fun x => [(27, .int .i64 (x : Nat))]) (fun j L => ∃ vk Lk xk Q, L = ⟨bt, 0, [.slice (some ⟨b_, o_, none⟩) s.names.length cn, iV (s.epoch + 1), iV (s.says), vk, vb], 5⟩ :: (Ln ++ (Lb ++ (Lk ++ (Q ++ G)))) ∧ j ≤ s.names.length ∧ SlG (some 32) vk xk 3 Lk ∧ TmsR w0 (Q ++ Ps) (s.known ++ LT s.names (s.epoch + 1) (s.names.take i) ++ LT1 a (s.epoch + 1) (s.names.take j)) xk) (fun j => s.names.length - j) 0 (.cons rfl .nil) zT z_B (⟨vk, Lk, xk, Q, rfl, Nat.zero_le _, hsk, by simpa [LT1] using hxk⟩) ?_)
  rintro j e_ L ⟨vk, Lk, xk, Q, rfl, hj, hsk, hxk⟩
  have hl2 := LT1_len a (s.epoch + 1) (s.names.take j)
  rw [List.length_take, Nat.min_eq_left hj] at hl2
  refine zs ?_
  refine zc (T1.ltI_split rfl rfl (fun h5 => ?_) (fun h5 => ?_))
  ·
   obtain ⟨b, hy0⟩ : ∃ b, s.names[j]? = some b := ⟨_, List.getElem?_eq_getElem zw⟩
   have hb := h99 b (List.mem_of_getElem? hy0)
   refine zs ?_
   refine T.cond_t rfl (zs ?_)
   refine z0 (V1.indexAddrS ty_25 sz_3 rfl rfl zw zw) ?_
   refine zc (V1.t (V1.load1 (v := iV b) one_3 rfl (show Rd _ _ ⟨_, _ + j * 1, none⟩ _ from by rw [Nat.mul_one]; exact hrd _ rfl rfl _ z_D j _ (by rw [List.getElem?_map, hy0]; rfl))) ?_)
   refine zs ?_
   refine zc (T1.neI_split rfl rfl (fun h7 => ?_) (fun h7 => ?_))
   ·
    have hne : a ≠ b := by omega
    refine TL.nil ?_
    refine T.cond_t rfl (T.drawK (fun L_ => True) mixed trivial ?_)
    refine zk 0 rfl (fun _ => V1.move' z_C) ?_
    refine zk 1 rfl (fun _ => V1.move' z_C) ?_
    refine zk 2 rfl (fun _ => V1.move' z_C) ?_
    refine zk 4 rfl (fun _ => V1.move' z_C) ?_
    refine zk 6 rfl (fun _ => V1.move' z_C) ?_
    refine zk 7 rfl (fun _ => V1.move' z_C) ?_
    refine zk 8 rfl (fun _ => V1.nilCheck rfl) ?_
    refine zk 9 rfl (fun _ => V1.fieldAddr fl_62_1 rfl) ?_
    refine TK.two 3 10 z_F rfl rfl rfl rfl (T1.callC has_39 rfl rfl (pair_any w0 (Q ++ Ps) a b ha hb) z_D (fun v_ Yp hY => ?_)) (V1.t (V1.load1 (v := iV (s.epoch + 1)) one_3 rfl (.own z_A zr)) ?_)
    ·
     obtain ⟨cy, rfl, hcy⟩ := hY
     obtain ⟨ap, cp, vp, rfl, hrp, hlp, htp⟩ := (show TmR w0 (Yp ++ (Q ++ Ps)) (.mk 4 sPair [.mk 7 [] [ownT a, pub (ownT b)]]) cy from hcy).inv
     simp only [List.length_singleton] at *
     refine ⟨trivial, TK.two 5 10 z_F rfl rfl rfl rfl (T1.callV has_12 rfl rfl (own_any w0 a ha) z_D (fun v_ hv => ?_)) (V1.t (V1.load1 (v := iV (s.epoch + 1)) one_3 rfl (.own z_A zr)) ?_)⟩
     ·
      obtain rfl := hv
      refine ⟨trivial, zo 10 rfl rfl (V1.t (V1.load1 (v := iV (s.epoch + 1)) one_3 rfl (.own z_A zr)) ?_)⟩
      refine ⟨trivial, zo 11 rfl rfl (T1.callV has_40 rfl rfl (link_any w0 (a) (s.epoch + 1) ha zw) z_D (fun v_ hv => ?_))⟩
      obtain rfl := hv
      refine ⟨trivial, zo 12 rfl rfl (T1.buildTwo (cs := [.int .i64 1, .string (bstr (nmb sOwn [a])), .slice none 0 0]) (ds := [.int .i64 1, .string (bstr (nmb sLink [a, s.epoch + 1])), .slice none 0 0]) ty_24 sz_32 zr_32 ze rfl rfl zr zr (fun b46 => ?_))⟩
      refine ⟨trivial, zo 13 rfl rfl (T1.callV has_11 rfl rfl (one_any w0 _ _ _ _ _) z_D (fun v_ hv => ?_))⟩
      obtain rfl := hv
      refine ⟨trivial, zo 14 rfl rfl (T1.buildTwo (cs := [.int .i64 4, .string (bstr sPair), .slice ap 1 cp]) (ds := [.int .i64 8, .string (bstr []), .slice (some ⟨b46, 0, none⟩) 2 2]) ty_24 sz_32 zr_32 ze rfl rfl zr zr (fun b48 => ?_))⟩
      refine ⟨trivial, zo 15 rfl rfl (T1.callV has_11 rfl rfl (one_any w0 _ _ _ _ _) z_D (fun v_ hv => ?_))⟩
      obtain rfl := hv
      refine ⟨trivial, zo 16 rfl rfl (T1.buildOne (cs := [.int .i64 3, .string (bstr []), .slice (some ⟨b48, 0, none⟩) 2 2]) ty_24 sz_32 zr_32 ze rfl zr (fun b50 => ?_))⟩
      refine ⟨trivial, zo 17 rfl rfl (T1.callM (X := ⟨bt, 0, [.slice (some ⟨b_, o_, none⟩) s.names.length cn, iV (s.epoch + 1), iV (s.says), vk, vb], 5⟩ :: (Ln ++ (Lb ++ Lk))) has_10 rfl rfl (hear_any w0 ((⟨⟨b50, some 32⟩, 0, [.int .i64 3, .string (bstr []), .slice (some ⟨b48, 0, none⟩) 2 2], 3⟩ : Blk) :: (⟨⟨b48, some 32⟩, 0, [.int .i64 4, .string (bstr sPair), .slice ap 1 cp] ++ [.int .i64 8, .string (bstr []), .slice (some ⟨b46, 0, none⟩) 2 2], 2 * 3⟩ : Blk) :: (⟨⟨b46, some 32⟩, 0, [.int .i64 1, .string (bstr (nmb sOwn [a])), .slice none 0 0] ++ [.int .i64 1, .string (bstr (nmb sLink [a, s.epoch + 1])), .slice none 0 0], 2 * 3⟩ : Blk) :: (Yp ++ (Q ++ Ps))) (s := { s with epoch := s.epoch + 1, known := (s.known ++ LT s.names (s.epoch + 1) (s.names.take i) ++ LT1 a (s.epoch + 1) (s.names.take j)) }) (vn := .slice (some ⟨b_, o_, none⟩) s.names.length cn) (vb := vb) (Ln := Ln) (Lb := Lb) ⟨vk, Lk, xk, rfl, hsn, hsb, hsk, hxk.more (Inc.skip1 (Inc.skip1 (Inc.skip1 (Inc.skip Inc.refl))))⟩ (us := [letterT a b (s.epoch + 1)]) (zf) (TmsR.one (TmR.mkN (nm := []) (n := 2) rfl (RowR.own (List.mem_cons_of_mem _ (List.mem_cons_self ..)) rfl) ze (TmsR.cons (hcy.more (Inc.skip1 (Inc.skip1 (Inc.skip1 Inc.refl)))) (TmsR.one (TmR.mkN (nm := []) (n := 2) rfl (RowR.own (List.mem_cons_of_mem _ (List.mem_cons_of_mem _ (List.mem_cons_self ..))) rfl) ze (TmsR.cons TmR.atom (TmsR.one TmR.atom))))))) (by simp only [List.length_append, List.length_singleton]; omega)) z_B z_D (fun v_ Yh hY => ?_))⟩
      obtain ⟨vk2, Lk2, xk2, rfl, _, _, hsk2, hxk2⟩ := hY
      simp only [List.cons_append, List.append_assoc]
      refine ⟨trivial, TD.done z_F ?_⟩
      refine T.live (l := [(0, _), (3, _), (16, _), (17, _), (18, _), (25, _), (26, _), (27, _)]) zT (fun e_ => ?_)
      refine T.region (zq1 (V1.add (c := ((j + 1 : Nat) : Int)) rfl rfl z_J) ?_)
      exact ⟨j + 1, ⟨bt, 0, [.slice (some ⟨b_, o_, none⟩) s.names.length cn, iV (s.epoch + 1), iV (s.says), vk2, vb], 5⟩ :: (Ln ++ (Lb ++ (Lk2 ++ ((⟨⟨b50, some 32⟩, 0, [.int .i64 3, .string (bstr []), .slice (some ⟨b48, 0, none⟩) 2 2], 3⟩ : Blk) :: (⟨⟨b48, some 32⟩, 0, [.int .i64 4, .string (bstr sPair), .slice ap 1 cp] ++ [.int .i64 8, .string (bstr []), .slice (some ⟨b46, 0, none⟩) 2 2], 2 * 3⟩ : Blk) :: (⟨⟨b46, some 32⟩, 0, [.int .i64 1, .string (bstr (nmb sOwn [a])), .slice none 0 0] ++ [.int .i64 1, .string (bstr (nmb sLink [a, s.epoch + 1])), .slice none 0 0], 2 * 3⟩ : Blk) :: (Yp ++ (Q ++ G)))))), _, z_N, (.cons rfl .nil), (.cons rfl (.cons rfl (.cons rfl (.cons rfl (.cons rfl (.cons rfl (.cons rfl .nil))))))), z_B, ⟨vk2, Lk2, xk2, (⟨⟨b50, some 32⟩, 0, [.int .i64 3, .string (bstr []), .slice (some ⟨b48, 0, none⟩) 2 2], 3⟩ : Blk) :: (⟨⟨b48, some 32⟩, 0, [.int .i64 4, .string (bstr sPair), .slice ap 1 cp] ++ [.int .i64 8, .string (bstr []), .slice (some ⟨b46, 0, none⟩) 2 2], 2 * 3⟩ : Blk) :: (⟨⟨b46, some 32⟩, 0, [.int .i64 1, .string (bstr (nmb sOwn [a])), .slice none 0 0] ++ [.int .i64 1, .string (bstr (nmb sLink [a, s.epoch + 1])), .slice none 0 0], 2 * 3⟩ : Blk) :: (Yp ++ Q), by simp only [List.cons_append, List.append_assoc], by omega, hsk2, by rw [LT1_take hy0, if_neg hne, ← List.append_assoc]; simpa only [List.cons_append, List.append_assoc] using hxk2⟩⟩
     ·
      refine ⟨trivial, zo 5 rfl rfl (T1.callV has_12 rfl rfl (own_any w0 a ha) z_D (fun v_ hv => ?_))⟩
      obtain rfl := hv
      refine ⟨trivial, zo 11 rfl rfl (T1.callV has_40 rfl rfl (link_any w0 (a) (s.epoch + 1) ha zw) z_D (fun v_ hv => ?_))⟩
      obtain rfl := hv
      refine ⟨trivial, zo 12 rfl rfl (T1.buildTwo (cs := [.int .i64 1, .string (bstr (nmb sOwn [a])), .slice none 0 0]) (ds := [.int .i64 1, .string (bstr (nmb sLink [a, s.epoch + 1])), .slice none 0 0]) ty_24 sz_32 zr_32 ze rfl rfl zr zr (fun b46 => ?_))⟩
      refine ⟨trivial, zo 13 rfl rfl (T1.callV has_11 rfl rfl (one_any w0 _ _ _ _ _) z_D (fun v_ hv => ?_))⟩
      obtain rfl := hv
      refine ⟨trivial, zo 14 rfl rfl (T1.buildTwo (cs := [.int .i64 4, .string (bstr sPair), .slice ap 1 cp]) (ds := [.int .i64 8, .string (bstr []), .slice (some ⟨b46, 0, none⟩) 2 2]) ty_24 sz_32 zr_32 ze rfl rfl zr zr (fun b48 => ?_))⟩
      refine ⟨trivial, zo 15 rfl rfl (T1.callV has_11 rfl rfl (one_any w0 _ _ _ _ _) z_D (fun v_ hv => ?_))⟩
      obtain rfl := hv
      refine ⟨trivial, zo 16 rfl rfl (T1.buildOne (cs := [.int .i64 3, .string (bstr []), .slice (some ⟨b48, 0, none⟩) 2 2]) ty_24 sz_32 zr_32 ze rfl zr (fun b50 => ?_))⟩
      refine ⟨trivial, zo 17 rfl rfl (T1.callM (X := ⟨bt, 0, [.slice (some ⟨b_, o_, none⟩) s.names.length cn, iV (s.epoch + 1), iV (s.says), vk, vb], 5⟩ :: (Ln ++ (Lb ++ Lk))) has_10 rfl rfl (hear_any w0 ((⟨⟨b50, some 32⟩, 0, [.int .i64 3, .string (bstr []), .slice (some ⟨b48, 0, none⟩) 2 2], 3⟩ : Blk) :: (⟨⟨b48, some 32⟩, 0, [.int .i64 4, .string (bstr sPair), .slice ap 1 cp] ++ [.int .i64 8, .string (bstr []), .slice (some ⟨b46, 0, none⟩) 2 2], 2 * 3⟩ : Blk) :: (⟨⟨b46, some 32⟩, 0, [.int .i64 1, .string (bstr (nmb sOwn [a])), .slice none 0 0] ++ [.int .i64 1, .string (bstr (nmb sLink [a, s.epoch + 1])), .slice none 0 0], 2 * 3⟩ : Blk) :: (Yp ++ (Q ++ Ps))) (s := { s with epoch := s.epoch + 1, known := (s.known ++ LT s.names (s.epoch + 1) (s.names.take i) ++ LT1 a (s.epoch + 1) (s.names.take j)) }) (vn := .slice (some ⟨b_, o_, none⟩) s.names.length cn) (vb := vb) (Ln := Ln) (Lb := Lb) ⟨vk, Lk, xk, rfl, hsn, hsb, hsk, hxk.more (Inc.skip1 (Inc.skip1 (Inc.skip1 (Inc.skip Inc.refl))))⟩ (us := [letterT a b (s.epoch + 1)]) (zf) (TmsR.one (TmR.mkN (nm := []) (n := 2) rfl (RowR.own (List.mem_cons_of_mem _ (List.mem_cons_self ..)) rfl) ze (TmsR.cons (hcy.more (Inc.skip1 (Inc.skip1 (Inc.skip1 Inc.refl)))) (TmsR.one (TmR.mkN (nm := []) (n := 2) rfl (RowR.own (List.mem_cons_of_mem _ (List.mem_cons_of_mem _ (List.mem_cons_self ..))) rfl) ze (TmsR.cons TmR.atom (TmsR.one TmR.atom))))))) (by simp only [List.length_append, List.length_singleton]; omega)) z_B z_D (fun v_ Yh hY => ?_))⟩
      obtain ⟨vk2, Lk2, xk2, rfl, _, _, hsk2, hxk2⟩ := hY
      simp only [List.cons_append, List.append_assoc]
      refine ⟨trivial, TD.done z_F ?_⟩
      refine T.live (l := [(0, _), (3, _), (16, _), (17, _), (18, _), (25, _), (26, _), (27, _)]) zT (fun e_ => ?_)
      refine T.region (zq1 (V1.add (c := ((j + 1 : Nat) : Int)) rfl rfl z_J) ?_)
      exact ⟨j + 1, ⟨bt, 0, [.slice (some ⟨b_, o_, none⟩) s.names.length cn, iV (s.epoch + 1), iV (s.says), vk2, vb], 5⟩ :: (Ln ++ (Lb ++ (Lk2 ++ ((⟨⟨b50, some 32⟩, 0, [.int .i64 3, .string (bstr []), .slice (some ⟨b48, 0, none⟩) 2 2], 3⟩ : Blk) :: (⟨⟨b48, some 32⟩, 0, [.int .i64 4, .string (bstr sPair), .slice ap 1 cp] ++ [.int .i64 8, .string (bstr []), .slice (some ⟨b46, 0, none⟩) 2 2], 2 * 3⟩ : Blk) :: (⟨⟨b46, some 32⟩, 0, [.int .i64 1, .string (bstr (nmb sOwn [a])), .slice none 0 0] ++ [.int .i64 1, .string (bstr (nmb sLink [a, s.epoch + 1])), .slice none 0 0], 2 * 3⟩ : Blk) :: (Yp ++ (Q ++ G)))))), _, z_N, (.cons rfl .nil), (.cons rfl (.cons rfl (.cons rfl (.cons rfl (.cons rfl (.cons rfl (.cons rfl .nil))))))), z_B, ⟨vk2, Lk2, xk2, (⟨⟨b50, some 32⟩, 0, [.int .i64 3, .string (bstr []), .slice (some ⟨b48, 0, none⟩) 2 2], 3⟩ : Blk) :: (⟨⟨b48, some 32⟩, 0, [.int .i64 4, .string (bstr sPair), .slice ap 1 cp] ++ [.int .i64 8, .string (bstr []), .slice (some ⟨b46, 0, none⟩) 2 2], 2 * 3⟩ : Blk) :: (⟨⟨b46, some 32⟩, 0, [.int .i64 1, .string (bstr (nmb sOwn [a])), .slice none 0 0] ++ [.int .i64 1, .string (bstr (nmb sLink [a, s.epoch + 1])), .slice none 0 0], 2 * 3⟩ : Blk) :: (Yp ++ Q), by simp only [List.cons_append, List.append_assoc], by omega, hsk2, by rw [LT1_take hy0, if_neg hne, ← List.append_assoc]; simpa only [List.cons_append, List.append_assoc] using hxk2⟩⟩
    ·
     refine ⟨trivial, zo 3 rfl rfl (T1.callC has_39 rfl rfl (pair_any w0 (Q ++ Ps) a b ha hb) z_D (fun v_ Yp hY => ?_))⟩
     obtain ⟨cy, rfl, hcy⟩ := hY
     obtain ⟨ap, cp, vp, rfl, hrp, hlp, htp⟩ := (show TmR w0 (Yp ++ (Q ++ Ps)) (.mk 4 sPair [.mk 7 [] [ownT a, pub (ownT b)]]) cy from hcy).inv
     simp only [List.length_singleton] at *
     refine ⟨trivial, zo 5 rfl rfl (T1.callV has_12 rfl rfl (own_any w0 a ha) z_D (fun v_ hv => ?_))⟩
     obtain rfl := hv
     refine ⟨trivial, zo 11 rfl rfl (T1.callV has_40 rfl rfl (link_any w0 (a) (s.epoch + 1) ha zw) z_D (fun v_ hv => ?_))⟩
     obtain rfl := hv
     refine ⟨trivial, zo 12 rfl rfl (T1.buildTwo (cs := [.int .i64 1, .string (bstr (nmb sOwn [a])), .slice none 0 0]) (ds := [.int .i64 1, .string (bstr (nmb sLink [a, s.epoch + 1])), .slice none 0 0]) ty_24 sz_32 zr_32 ze rfl rfl zr zr (fun b46 => ?_))⟩
     refine ⟨trivial, zo 13 rfl rfl (T1.callV has_11 rfl rfl (one_any w0 _ _ _ _ _) z_D (fun v_ hv => ?_))⟩
     obtain rfl := hv
     refine ⟨trivial, zo 14 rfl rfl (T1.buildTwo (cs := [.int .i64 4, .string (bstr sPair), .slice ap 1 cp]) (ds := [.int .i64 8, .string (bstr []), .slice (some ⟨b46, 0, none⟩) 2 2]) ty_24 sz_32 zr_32 ze rfl rfl zr zr (fun b48 => ?_))⟩
     refine ⟨trivial, zo 15 rfl rfl (T1.callV has_11 rfl rfl (one_any w0 _ _ _ _ _) z_D (fun v_ hv => ?_))⟩
     obtain rfl := hv
     refine ⟨trivial, zo 16 rfl rfl (T1.buildOne (cs := [.int .i64 3, .string (bstr []), .slice (some ⟨b48, 0, none⟩) 2 2]) ty_24 sz_32 zr_32 ze rfl zr (fun b50 => ?_))⟩
     refine ⟨trivial, zo 17 rfl rfl (T1.callM (X := ⟨bt, 0, [.slice (some ⟨b_, o_, none⟩) s.names.length cn, iV (s.epoch + 1), iV (s.says), vk, vb], 5⟩ :: (Ln ++ (Lb ++ Lk))) has_10 rfl rfl (hear_any w0 ((⟨⟨b50, some 32⟩, 0, [.int .i64 3, .string (bstr []), .slice (some ⟨b48, 0, none⟩) 2 2], 3⟩ : Blk) :: (⟨⟨b48, some 32⟩, 0, [.int .i64 4, .string (bstr sPair), .slice ap 1 cp] ++ [.int .i64 8, .string (bstr []), .slice (some ⟨b46, 0, none⟩) 2 2], 2 * 3⟩ : Blk) :: (⟨⟨b46, some 32⟩, 0, [.int .i64 1, .string (bstr (nmb sOwn [a])), .slice none 0 0] ++ [.int .i64 1, .string (bstr (nmb sLink [a, s.epoch + 1])), .slice none 0 0], 2 * 3⟩ : Blk) :: (Yp ++ (Q ++ Ps))) (s := { s with epoch := s.epoch + 1, known := (s.known ++ LT s.names (s.epoch + 1) (s.names.take i) ++ LT1 a (s.epoch + 1) (s.names.take j)) }) (vn := .slice (some ⟨b_, o_, none⟩) s.names.length cn) (vb := vb) (Ln := Ln) (Lb := Lb) ⟨vk, Lk, xk, rfl, hsn, hsb, hsk, hxk.more (Inc.skip1 (Inc.skip1 (Inc.skip1 (Inc.skip Inc.refl))))⟩ (us := [letterT a b (s.epoch + 1)]) (zf) (TmsR.one (TmR.mkN (nm := []) (n := 2) rfl (RowR.own (List.mem_cons_of_mem _ (List.mem_cons_self ..)) rfl) ze (TmsR.cons (hcy.more (Inc.skip1 (Inc.skip1 (Inc.skip1 Inc.refl)))) (TmsR.one (TmR.mkN (nm := []) (n := 2) rfl (RowR.own (List.mem_cons_of_mem _ (List.mem_cons_of_mem _ (List.mem_cons_self ..))) rfl) ze (TmsR.cons TmR.atom (TmsR.one TmR.atom))))))) (by simp only [List.length_append, List.length_singleton]; omega)) z_B z_D (fun v_ Yh hY => ?_))⟩
     obtain ⟨vk2, Lk2, xk2, rfl, _, _, hsk2, hxk2⟩ := hY
     simp only [List.cons_append, List.append_assoc]
     refine ⟨trivial, TD.done z_F ?_⟩
     refine T.live (l := [(0, _), (3, _), (16, _), (17, _), (18, _), (25, _), (26, _), (27, _)]) zT (fun e_ => ?_)
     refine T.region (zq1 (V1.add (c := ((j + 1 : Nat) : Int)) rfl rfl z_J) ?_)
     exact ⟨j + 1, ⟨bt, 0, [.slice (some ⟨b_, o_, none⟩) s.names.length cn, iV (s.epoch + 1), iV (s.says), vk2, vb], 5⟩ :: (Ln ++ (Lb ++ (Lk2 ++ ((⟨⟨b50, some 32⟩, 0, [.int .i64 3, .string (bstr []), .slice (some ⟨b48, 0, none⟩) 2 2], 3⟩ : Blk) :: (⟨⟨b48, some 32⟩, 0, [.int .i64 4, .string (bstr sPair), .slice ap 1 cp] ++ [.int .i64 8, .string (bstr []), .slice (some ⟨b46, 0, none⟩) 2 2], 2 * 3⟩ : Blk) :: (⟨⟨b46, some 32⟩, 0, [.int .i64 1, .string (bstr (nmb sOwn [a])), .slice none 0 0] ++ [.int .i64 1, .string (bstr (nmb sLink [a, s.epoch + 1])), .slice none 0 0], 2 * 3⟩ : Blk) :: (Yp ++ (Q ++ G)))))), _, z_N, (.cons rfl .nil), (.cons rfl (.cons rfl (.cons rfl (.cons rfl (.cons rfl (.cons rfl (.cons rfl .nil))))))), z_B, ⟨vk2, Lk2, xk2, (⟨⟨b50, some 32⟩, 0, [.int .i64 3, .string (bstr []), .slice (some ⟨b48, 0, none⟩) 2 2], 3⟩ : Blk) :: (⟨⟨b48, some 32⟩, 0, [.int .i64 4, .string (bstr sPair), .slice ap 1 cp] ++ [.int .i64 8, .string (bstr []), .slice (some ⟨b46, 0, none⟩) 2 2], 2 * 3⟩ : Blk) :: (⟨⟨b46, some 32⟩, 0, [.int .i64 1, .string (bstr (nmb sOwn [a])), .slice none 0 0] ++ [.int .i64 1, .string (bstr (nmb sLink [a, s.epoch + 1])), .slice none 0 0], 2 * 3⟩ : Blk) :: (Yp ++ Q), by simp only [List.cons_append, List.append_assoc], by omega, hsk2, by rw [LT1_take hy0, if_neg hne, ← List.append_assoc]; simpa only [List.cons_append, List.append_assoc] using hxk2⟩⟩
   ·
    have hne : a = b := by omega
    refine TL.nil ?_
    refine T.cond_f rfl (zs ?_)
    refine zq1 (V1.add (c := ((j + 1 : Nat) : Int)) rfl rfl z_J) ?_
    exact ⟨j + 1, ⟨bt, 0, [.slice (some ⟨b_, o_, none⟩) s.names.length cn, iV (s.epoch + 1), iV (s.says), vk, vb], 5⟩ :: (Ln ++ (Lb ++ (Lk ++ (Q ++ G)))), _, z_N, (.cons rfl .nil), (.cons rfl (.cons rfl (.cons rfl (.cons rfl (.cons rfl (.cons rfl (.cons rfl .nil))))))), z_B, ⟨vk, Lk, xk, Q, rfl, by omega, hsk, by rw [LT1_take hy0, if_pos hne, List.append_nil]; exact hxk⟩⟩
  ·
   obtain rfl : j = s.names.length := by omega
   rw [List.take_length] at hxk
   refine zs ?_
   refine T.cond_f rfl (zs ?_)
   refine zq1 (V1.add (c := ((i + 1 : Nat) : Int)) rfl rfl z_J) ?_
   exact ⟨i + 1, ⟨bt, 0, [.slice (some ⟨b_, o_, none⟩) s.names.length cn, iV (s.epoch + 1), iV (s.says), vk, vb], 5⟩ :: (Ln ++ (Lb ++ (Lk ++ (Q ++ G)))), _, z_N, (.cons rfl .nil), (.cons rfl (.cons rfl (.cons rfl .nil))), z_B, ⟨vk, Lk, xk, Q, rfl, by omega, hsk, by rw [LT_take hx0, ← List.append_assoc]; exact hxk⟩⟩
 ·
  obtain rfl : i = s.names.length := by omega
  rw [List.take_length] at hxk
  refine zs ?_
  refine T.cond_f rfl (T.exit ?_)
  exact ⟨_, ⟨bt, 0, [.slice an s.names.length cn, iV (s.epoch + 1), iV (s.says), vk, vb], 5⟩ :: (Ln ++ (Lb ++ (Lk ++ (Q ++ G)))), _, .nil, z_B, (⟨bt, 0, [.slice an s.names.length cn, iV (s.epoch + 1), iV (s.says), vk, vb], 5⟩ :: (Ln ++ (Lb ++ Lk))) ++ Q, by simp only [List.cons_append, List.append_assoc], _, Q, rfl, vk, Lk, xk, rfl, hsn, hsb, hsk, hxk⟩
end Go.Proofs.YtfjedhmffccgnaaGreatDoor.S
