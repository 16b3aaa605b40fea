/- A tale: something more is heard; another epoch. -/
import Derived.Test.YtlpkcbkflfbclaaGreatDoorG3
namespace Go.Proofs.YtlpkcbkflfbclaaGreatDoor.S
open Go.RowKit

/-- A tale in memory: its blocks, and what is known read in others. -/
def TaleP (w0 : World) (Ps : List Blk) (bt : Nat) (vn : Value) (Ln : List Blk) (vb : Value) (Lb : List Blk) (s : Sg) (Y : List Blk) : Prop :=
  ∃ vk Lk xk, Y = (⟨bt, 0, [vn, iV (s.epoch), iV (s.says), vk, vb], 5⟩ : Blk) :: (Ln ++ (Lb ++ Lk)) ∧ Sl vn (s.names.map iV) 1 Ln ∧ Sl vb (s.bare.map iV) 1 Lb ∧ SlG (some 24) vk xk 3 Lk ∧ TmsR w0 Ps s.known xk
theorem Sl.nat {w0 : World} {v : Value} {ns : List Nat} {Ls : List Blk} (h : Sl v (ns.map iV) 1 Ls) : RowR w0 Ls 1 v ns.length (ns.map iV) := RowR.ofSl h Inc.refl (by decide) _ (by simp)
/-- The letters of the first some of a group. -/
def LT (ns : List Nat) (e : Nat) (us : List Nat) : List Tm := us.flatMap fun a => (ns.filter (· ≠ a)).map fun b => letterT a b e
def LT1 (a e : Nat) (us : List Nat) : List Tm := (us.filter (· ≠ a)).map fun b => letterT a b e
theorem LT_take {ns : List Nat} {e i a : Nat} {us : List Nat} (h : us[i]? = some a) : LT ns e (us.take (i + 1)) = LT ns e (us.take i) ++ LT1 a e ns := by
  unfold LT LT1; rw [take_nat h, List.flatMap_append]; simp
theorem LT1_take {a e j b : Nat} {us : List Nat} (h : us[j]? = some b) : LT1 a e (us.take (j + 1)) = LT1 a e (us.take j) ++ if a = b then [] else [letterT a b e] := by
  unfold LT1
  rw [take_nat h, List.filter_append, List.map_append]
  congr 1
  by_cases hn : a = b
  · simp [hn]
  · have : b ≠ a := fun e => hn e.symm
    simp [hn, this]
theorem LT1_len (a e : Nat) (us : List Nat) : (LT1 a e us).length ≤ us.length := by unfold LT1; rw [List.length_map]; exact List.length_filter_le _ _
theorem LT_len (ns : List Nat) (e : Nat) (us : List Nat) (h : ns.length ≤ 6) : (LT ns e us).length ≤ 6 * us.length := len_flatMap _ 6 us fun a _ => by rw [List.length_map]; have := List.length_filter_le (· ≠ a) ns; omega

set_option maxRecDepth 100000 in
set_option maxHeartbeats 8000000 in
theorem hear_any (w0 : World) (Ps : List Blk) {bt : Nat} {vn vb : Value} {Ln Lb Y : List Blk} {s : Sg} (ht0 : TaleP w0 Ps bt vn Ln vb Lb s Y) {us : List Tm} {xs : List Value} {a : Option Addr} {n c : Nat} (hr : RowR w0 Ps 3 (.slice a n c) n xs) (hu : TmsR w0 Ps us xs) (hl : s.known.length + us.length ≤ 2000) : FnG P 43 [.pointer (some ⟨bt, 0, none⟩), .slice a n c] w0 Ps Y (fun v Y => TaleP w0 Ps bt vn Ln vb Lb { s with known := s.known ++ us } Y) := by
  obtain ⟨vk, Lk, xk, rfl, hsn, hsb, hsk, hxk⟩ := ht0
  refine FnG.of 13 [] Go.Proofs.Tryz.func43 rfl rfl rfl rfl (fun G hG => ?_)
  simp only [List.cons_append, List.append_assoc]
  refine T.region ?_
  refine TL.cons rfl (V1.t (V1.move' z_C) ?_)
  refine TL.cons rfl (V1.t (V1.move' z_C) ?_)
  refine TL.cons rfl (V1.t (V1.nilCheck rfl) ?_)
  refine TL.cons rfl (V1.t (V1.fieldAddr fl_89_3 rfl) ?_)
  refine TL.cons rfl (V1.t (V1.load1 (v := vk) one_22 rfl (.own z_D (by rfl))) ?_)
  refine TL.cons rfl (V1.t (V1.move' z_C) ?_)
  refine TL.cons rfl (T1.appendG ty_22 kd_22 sz_24 by_24 zr_24 rfl (by decide) (by decide) rfl rfl (.inr rfl) hsk (hr.src _ rfl rfl _ z_B) hu.ones 2000 (by rw [hxk.len, hu.len]; omega) (by decide) z_E (fun s2 Lk2 hsk2 => ?_))
  refine TL.cons rfl (V1.t (V1.nilCheck rfl) ?_)
  refine TL.cons rfl (V1.t (V1.fieldAddr fl_89_3 rfl) ?_)
  refine TL.cons rfl (T1.store1 rfl rfl sz_22 hsk2.one z_G (Nat.zero_le _) (by repeat (first | exact SetAt.here | apply SetAt.there)) ?_)
  refine TL.nil ?_
  -- the end
  exact ⟨_, ⟨bt, 0, [vn, iV (s.epoch), iV (s.says), s2, vb], 5⟩ :: (Ln ++ (Lb ++ (Lk2 ++ G))), _, .nil, z_A, ⟨bt, 0, [vn, iV (s.epoch), iV (s.says), s2, vb], 5⟩ :: (Ln ++ (Lb ++ Lk2)), by simp only [List.cons_append, List.append_assoc], s2, Lk2, _, rfl, hsn, hsb, hsk2, hxk.app hu⟩

set_option maxRecDepth 100000 in
set_option maxHeartbeats 8000000 in
theorem turn_any (w0 : World) (Ps : List Blk) {bt : Nat} {vn vb : Value} {Ln Lb Y : List Blk} {s : Sg} (ht0 : TaleP w0 Ps bt vn Ln vb Lb s Y) (hn6 : s.names.length ≤ 6) (h99 : ∀ n ∈ s.names, n < 100) (hep : s.epoch < 98) (hl : s.known.length ≤ 1900) : FnG P 48 [.pointer (some ⟨bt, 0, none⟩)] w0 Ps Y (fun v Y2 => ∃ Y' Q, Y2 = Y' ++ Q ∧ TaleP w0 (Q ++ Ps) bt vn Ln vb Lb (s.turn s.names) Y') := by
  obtain ⟨vk, Lk, xk, rfl, hsn, hsb, hsk, hxk⟩ := ht0
  have hrn := Sl.nat (w0 := w0) hsn
  obtain ⟨an, cn, rfl⟩ := hrn.form
  refine FnG.of 54 [] Go.Proofs.Tryz.func48 rfl rfl rfl rfl (fun G hG => ?_)
  simp only [List.cons_append, List.append_assoc]
  refine T.seq ?_
  refine T.region ?_
  refine TL.cons rfl (V1.t (V1.move' z_C) ?_)
  refine TL.cons rfl (V1.t (V1.nilCheck rfl) ?_)
  refine TL.cons rfl (V1.t (V1.fieldAddr fl_89_1 rfl) ?_)
  refine TL.cons rfl (V1.t (V1.load1 (v := iV s.epoch) one_3 rfl (.own z_D (by rfl))) ?_)
  refine TL.cons rfl (V1.t (V1.add (c := ((s.epoch + 1 : Nat) : Int)) rfl rfl (by rw [wrap_i64 _ (by omega) (by omega)]; omega)) ?_)
  refine TL.cons rfl (V1.t (V1.nilCheck rfl) ?_)
  refine TL.cons rfl (V1.t (V1.fieldAddr fl_89_1 rfl) ?_)
  refine TL.cons rfl (T1.store1 rfl rfl sz_3 rfl z_G (Nat.zero_le _) (by repeat (first | exact SetAt.here | apply SetAt.there)) ?_)
  refine TL.nil ?_
  refine T.seq ?_
  refine T.region ?_
  refine TL.cons rfl (V1.t (V1.move' z_C) ?_)
  refine TL.cons rfl (V1.t (V1.nilCheck rfl) ?_)
  refine TL.cons rfl (V1.t (V1.fieldAddr fl_89_0 rfl) ?_)
  refine TL.cons rfl (V1.t (V1.load1 (v := .slice an s.names.length cn) one_44 rfl (.own z_D (by rfl))) ?_)
  refine TL.cons rfl (V1.t (V1.lenSl ty_44 rfl) ?_)
  refine TL.cons rfl (V1.t (V1.move' z_C) ?_)
  refine TL.nil ?_
  refine T.block ?_
  refine T.loopL (σ := Nat) (l0 := [(0, _), (16, _), (17, _)]) (fun x => [(18, .int .i64 (x : Nat))]) (fun i L => ∃ vk Lk xk Q, L = ⟨bt, 0, [.slice an s.names.length cn, iV (s.epoch + 1), iV (s.says), vk, vb], 5⟩ :: (Ln ++ (Lb ++ (Lk ++ (Q ++ G)))) ∧ i ≤ s.names.length ∧ SlG (some 24) vk xk 3 Lk ∧ TmsR w0 (Q ++ Ps) (s.known ++ LT s.names (s.epoch + 1) (s.names.take i)) xk) (fun i => s.names.length - i) 0 (.cons rfl .nil) (.cons z_C (.cons z_C (.cons z_C .nil))) z_A (⟨vk, Lk, xk, [], rfl, Nat.zero_le _, hsk, by simpa [LT] using hxk⟩) ?_
  rintro i e_ L ⟨vk, Lk, xk, Q, rfl, hi, hsk, hxk⟩
  have hl1 := LT_len s.names (s.epoch + 1) (s.names.take i) hn6
  rw [List.length_take, Nat.min_eq_left hi] at hl1
  refine T.seq ?_
  refine T.region ?_
  refine TL.cons rfl (T1.ltI_split rfl rfl (fun h2 => ?_) (fun h2 => ?_))
  ·
    obtain ⟨a, hx0⟩ : ∃ a, s.names[i]? = some a := ⟨_, List.getElem?_eq_getElem (by omega)⟩
    have ha := h99 a (List.mem_of_getElem? hx0)
    obtain ⟨b_, o_, rfl, hrd⟩ := hrn.at (by omega) P
    refine TL.nil ?_
    refine T.seq ?_
    refine T.cond_t rfl ?_
    refine T.skip ?_
    refine T.seq ?_
    refine T.block ?_
    refine T.seq ?_
    refine T.region ?_
    refine TL.cons rfl (V1.t (V1.indexAddrS ty_44 sz_3 rfl rfl (by omega) (by omega)) ?_)
    refine TL.cons rfl (V1.t (V1.load1 (v := iV a) one_3 rfl (show Rd _ _ ⟨_, _ + i * 1, none⟩ _ from by rw [Nat.mul_one]; exact hrd _ rfl rfl _ z_B i _ (by rw [List.getElem?_map, hx0]; rfl))) ?_)
    refine TL.cons rfl (V1.t (V1.assign' z_C) ?_)
    refine TL.nil ?_
    refine T.seq ?_
    refine T.region ?_
    refine TL.cons rfl (V1.t (V1.move' z_C) ?_)
    refine TL.cons rfl (V1.t (V1.nilCheck rfl) ?_)
    refine TL.cons rfl (V1.t (V1.fieldAddr fl_89_0 rfl) ?_)
    refine TL.cons rfl (V1.t (V1.load1 (v := .slice (some ⟨b_, o_, none⟩) s.names.length cn) one_44 rfl (.own z_D (by rfl))) ?_)
    refine TL.cons rfl (V1.t (V1.lenSl ty_44 rfl) ?_)
    refine TL.cons rfl (V1.t (V1.move' z_C) ?_)
    refine TL.nil ?_
    refine T.block ?_
    refine T.loopL (σ := Nat) (l0 := [(0, _), (3, _), (16, _), (17, _), (18, _), (25, _), (26, _)]) (fun x => [(27, .int .i64 (x : Nat))]) (fun j L => ∃ vk Lk xk Q, L = ⟨bt, 0, [.slice (some ⟨b_, o_, none⟩) s.names.length cn, iV (s.epoch + 1), iV (s.says), vk, vb], 5⟩ :: (Ln ++ (Lb ++ (Lk ++ (Q ++ G)))) ∧ j ≤ s.names.length ∧ SlG (some 24) vk xk 3 Lk ∧ TmsR w0 (Q ++ Ps) (s.known ++ LT s.names (s.epoch + 1) (s.names.take i) ++ LT1 a (s.epoch + 1) (s.names.take j)) xk) (fun j => s.names.length - j) 0 (.cons rfl .nil) (.cons z_C (.cons z_C (.cons z_C (.cons z_C (.cons z_C (.cons z_C (.cons z_C .nil))))))) z_A (⟨vk, Lk, xk, Q, rfl, Nat.zero_le _, hsk, by simpa [LT1] using hxk⟩) ?_
    rintro j e_ L ⟨vk, Lk, xk, Q, rfl, hj, hsk, hxk⟩
    have hl2 := LT1_len a (s.epoch + 1) (s.names.take j)
    rw [List.length_take, Nat.min_eq_left hj] at hl2
    refine T.seq ?_
    refine T.region ?_
    refine TL.cons rfl (T1.ltI_split rfl rfl (fun h5 => ?_) (fun h5 => ?_))
    ·
      obtain ⟨b, hy0⟩ : ∃ b, s.names[j]? = some b := ⟨_, List.getElem?_eq_getElem (by omega)⟩
      have hb := h99 b (List.mem_of_getElem? hy0)
      refine TL.nil ?_
      refine T.seq ?_
      refine T.cond_t rfl ?_
      refine T.skip ?_
      refine T.seq ?_
      refine T.block ?_
      refine T.seq ?_
      refine T.region ?_
      refine TL.cons rfl (V1.t (V1.indexAddrS ty_44 sz_3 rfl rfl (by omega) (by omega)) ?_)
      refine TL.cons rfl (V1.t (V1.load1 (v := iV b) one_3 rfl (show Rd _ _ ⟨_, _ + j * 1, none⟩ _ from by rw [Nat.mul_one]; exact hrd _ rfl rfl _ z_B j _ (by rw [List.getElem?_map, hy0]; rfl))) ?_)
      refine TL.cons rfl (V1.t (V1.assign' z_C) ?_)
      refine TL.nil ?_
      refine T.seq ?_
      refine T.region ?_
      refine TL.cons rfl (V1.t (V1.move' z_C) ?_)
      refine TL.cons rfl (V1.t (V1.move' z_C) ?_)
      refine TL.cons rfl (T1.neI_split rfl rfl (fun h7 => ?_) (fun h7 => ?_))
      ·
        have hne : a ≠ b := by omega
        refine TL.nil ?_
        refine T.cond_t rfl ?_
        refine T.drawK (fun L_ => True) mixed trivial ?_
        refine TK.take 0 rfl (by decide +kernel) (by decide +kernel) (by decide +kernel) rfl (fun _ _ _ h => h) (fun L_ _ => V1.move' z_C) ?_
        refine TK.take 1 rfl (by decide +kernel) (by decide +kernel) (by decide +kernel) rfl (fun _ _ _ h => h) (fun L_ _ => V1.move' z_C) ?_
        refine TK.take 2 rfl (by decide +kernel) (by decide +kernel) (by decide +kernel) rfl (fun _ _ _ h => h) (fun L_ _ => V1.move' z_C) ?_
        refine TK.take 4 rfl (by decide +kernel) (by decide +kernel) (by decide +kernel) rfl (fun _ _ _ h => h) (fun L_ _ => V1.move' z_C) ?_
        refine TK.take 6 rfl (by decide +kernel) (by decide +kernel) (by decide +kernel) rfl (fun _ _ _ h => h) (fun L_ _ => V1.move' z_C) ?_
        refine TK.take 7 rfl (by decide +kernel) (by decide +kernel) (by decide +kernel) rfl (fun _ _ _ h => h) (fun L_ _ => V1.move' z_C) ?_
        refine TK.take 8 rfl (by decide +kernel) (by decide +kernel) (by decide +kernel) rfl (fun _ _ _ h => h) (fun L_ _ => V1.nilCheck rfl) ?_
        refine TK.take 9 rfl (by decide +kernel) (by decide +kernel) (by decide +kernel) rfl (fun _ _ _ h => h) (fun L_ _ => V1.fieldAddr fl_89_1 rfl) ?_
        refine TK.two 3 10 (by decide +kernel) rfl rfl rfl rfl (T1.callC has_82 rfl rfl (pair_any w0 (Q ++ Ps) a b ha hb) z_B (fun v_ Yp hY => ?_)) (V1.t (V1.load1 (v := iV (s.epoch + 1)) one_3 rfl (.own z_D (by rfl))) ?_)
        ·
          obtain ⟨cy, rfl, hcy⟩ := hY
          obtain ⟨ap, cp, vp, rfl, hrp, hlp, htp⟩ := (show TmR w0 (Yp ++ (Q ++ Ps)) (.mk 4 sPair [.mk 7 [] [ownT a, pub (ownT b)]]) cy from hcy).inv
          simp only [List.length_singleton] at *
          refine ⟨trivial, ?_⟩
          refine TK.two 5 10 (by decide +kernel) rfl rfl rfl rfl (T1.callV has_45 rfl rfl (own_any w0 a ha) z_B (fun v_ hv => ?_)) (V1.t (V1.load1 (v := iV (s.epoch + 1)) one_3 rfl (.own z_D (by rfl))) ?_)
          ·
            obtain rfl := hv
            refine ⟨trivial, ?_⟩
            refine TK.one 10 (by decide +kernel) rfl rfl (V1.t (V1.load1 (v := iV (s.epoch + 1)) one_3 rfl (.own z_D (by rfl))) ?_)
            refine ⟨trivial, ?_⟩
            refine TK.one 11 (by decide +kernel) rfl rfl (T1.callV has_83 rfl rfl (link_any w0 (a) (s.epoch + 1) ha (by omega)) z_B (fun v_ hv => ?_))
            obtain rfl := hv
            refine ⟨trivial, ?_⟩
            refine TK.one 12 (by decide +kernel) rfl rfl (T1.buildTwo (cs := [.int .i64 1, .string (bstr (nmb sOwn [a])), .slice none 0 0]) (ds := [.int .i64 1, .string (bstr (nmb sLink [a, s.epoch + 1])), .slice none 0 0]) ty_22 sz_24 zr_24 (by decide) rfl rfl (by rfl) (by rfl) (fun b46 => ?_))
            refine ⟨trivial, ?_⟩
            refine TK.one 13 (by decide +kernel) rfl rfl (T1.callV has_44 rfl rfl (one_any w0 _ _ _ _ _) z_B (fun v_ hv => ?_))
            obtain rfl := hv
            refine ⟨trivial, ?_⟩
            refine TK.one 14 (by decide +kernel) rfl rfl (T1.buildTwo (cs := [.int .i64 4, .string (bstr sPair), .slice ap 1 cp]) (ds := [.int .i64 8, .string (bstr []), .slice (some ⟨b46, 0, none⟩) 2 2]) ty_22 sz_24 zr_24 (by decide) rfl rfl (by rfl) (by rfl) (fun b48 => ?_))
            refine ⟨trivial, ?_⟩
            refine TK.one 15 (by decide +kernel) rfl rfl (T1.callV has_44 rfl rfl (one_any w0 _ _ _ _ _) z_B (fun v_ hv => ?_))
            obtain rfl := hv
            refine ⟨trivial, ?_⟩
            refine TK.one 16 (by decide +kernel) rfl rfl (T1.buildOne (cs := [.int .i64 3, .string (bstr []), .slice (some ⟨b48, 0, none⟩) 2 2]) ty_22 sz_24 zr_24 (by decide) rfl (by rfl) (fun b50 => ?_))
            refine ⟨trivial, ?_⟩
            refine TK.one 17 (by decide +kernel) rfl rfl (T1.callM (X := ⟨bt, 0, [.slice (some ⟨b_, o_, none⟩) s.names.length cn, iV (s.epoch + 1), iV (s.says), vk, vb], 5⟩ :: (Ln ++ (Lb ++ Lk))) has_43 rfl rfl (hear_any w0 ((⟨⟨b50, some 24⟩, 0, [.int .i64 3, .string (bstr []), .slice (some ⟨b48, 0, none⟩) 2 2], 3⟩ : Blk) :: (⟨⟨b48, some 24⟩, 0, [.int .i64 4, .string (bstr sPair), .slice ap 1 cp] ++ [.int .i64 8, .string (bstr []), .slice (some ⟨b46, 0, none⟩) 2 2], 2 * 3⟩ : Blk) :: (⟨⟨b46, some 24⟩, 0, [.int .i64 1, .string (bstr (nmb sOwn [a])), .slice none 0 0] ++ [.int .i64 1, .string (bstr (nmb sLink [a, s.epoch + 1])), .slice none 0 0], 2 * 3⟩ : Blk) :: (Yp ++ (Q ++ Ps))) (s := { s with epoch := s.epoch + 1, known := (s.known ++ LT s.names (s.epoch + 1) (s.names.take i) ++ LT1 a (s.epoch + 1) (s.names.take j)) }) (vn := .slice (some ⟨b_, o_, none⟩) s.names.length cn) (vb := vb) (Ln := Ln) (Lb := Lb) ⟨vk, Lk, xk, rfl, hsn, hsb, hsk, hxk.more (Inc.skip1 (Inc.skip1 (Inc.skip1 (Inc.skip Inc.refl))))⟩ (us := [letterT a b (s.epoch + 1)]) (RowR.own (List.mem_cons_self ..) rfl) (TmsR.one (TmR.mkN (nm := []) (n := 2) rfl (RowR.own (List.mem_cons_of_mem _ (List.mem_cons_self ..)) rfl) (by decide) (TmsR.cons (hcy.more (Inc.skip1 (Inc.skip1 (Inc.skip1 Inc.refl)))) (TmsR.one (TmR.mkN (nm := []) (n := 2) rfl (RowR.own (List.mem_cons_of_mem _ (List.mem_cons_of_mem _ (List.mem_cons_self ..))) rfl) (by decide) (TmsR.cons TmR.atom (TmsR.one TmR.atom))))))) (by simp only [List.length_append, List.length_singleton]; omega)) z_A z_B (fun v_ Yh hY => ?_))
            obtain ⟨vk2, Lk2, xk2, rfl, _, _, hsk2, hxk2⟩ := hY
            simp only [List.cons_append, List.append_assoc]
            refine ⟨trivial, ?_⟩
            refine TD.done (by decide +kernel) ?_
            refine T.live (l := [(0, _), (3, _), (16, _), (17, _), (18, _), (25, _), (26, _), (27, _)]) (.cons z_C (.cons z_C (.cons z_C (.cons z_C (.cons z_C (.cons z_C (.cons z_C (.cons z_C .nil)))))))) (fun e_ => ?_)
            refine T.region ?_
            refine TL.cons rfl (V1.t (V1.add (c := ((j + 1 : Nat) : Int)) rfl rfl (by rw [wrap_i64 _ (by omega) (by omega)]; omega)) ?_)
            refine TL.cons rfl (V1.t (V1.move' z_C) ?_)
            refine TL.nil ?_
            exact ⟨j + 1, ⟨bt, 0, [.slice (some ⟨b_, o_, none⟩) s.names.length cn, iV (s.epoch + 1), iV (s.says), vk2, vb], 5⟩ :: (Ln ++ (Lb ++ (Lk2 ++ ((⟨⟨b50, some 24⟩, 0, [.int .i64 3, .string (bstr []), .slice (some ⟨b48, 0, none⟩) 2 2], 3⟩ : Blk) :: (⟨⟨b48, some 24⟩, 0, [.int .i64 4, .string (bstr sPair), .slice ap 1 cp] ++ [.int .i64 8, .string (bstr []), .slice (some ⟨b46, 0, none⟩) 2 2], 2 * 3⟩ : Blk) :: (⟨⟨b46, some 24⟩, 0, [.int .i64 1, .string (bstr (nmb sOwn [a])), .slice none 0 0] ++ [.int .i64 1, .string (bstr (nmb sLink [a, s.epoch + 1])), .slice none 0 0], 2 * 3⟩ : Blk) :: (Yp ++ (Q ++ G)))))), _, (by simp only; omega), (.cons rfl .nil), (.cons rfl (.cons rfl (.cons rfl (.cons rfl (.cons rfl (.cons rfl (.cons rfl .nil))))))), z_A, ⟨vk2, Lk2, xk2, (⟨⟨b50, some 24⟩, 0, [.int .i64 3, .string (bstr []), .slice (some ⟨b48, 0, none⟩) 2 2], 3⟩ : Blk) :: (⟨⟨b48, some 24⟩, 0, [.int .i64 4, .string (bstr sPair), .slice ap 1 cp] ++ [.int .i64 8, .string (bstr []), .slice (some ⟨b46, 0, none⟩) 2 2], 2 * 3⟩ : Blk) :: (⟨⟨b46, some 24⟩, 0, [.int .i64 1, .string (bstr (nmb sOwn [a])), .slice none 0 0] ++ [.int .i64 1, .string (bstr (nmb sLink [a, s.epoch + 1])), .slice none 0 0], 2 * 3⟩ : Blk) :: (Yp ++ Q), by simp only [List.cons_append, List.append_assoc], by omega, hsk2, by rw [LT1_take hy0, if_neg hne, ← List.append_assoc]; simpa only [List.cons_append, List.append_assoc] using hxk2⟩⟩
          ·
            refine ⟨trivial, ?_⟩
            refine TK.one 5 (by decide +kernel) rfl rfl (T1.callV has_45 rfl rfl (own_any w0 a ha) z_B (fun v_ hv => ?_))
            obtain rfl := hv
            refine ⟨trivial, ?_⟩
            refine TK.one 11 (by decide +kernel) rfl rfl (T1.callV has_83 rfl rfl (link_any w0 (a) (s.epoch + 1) ha (by omega)) z_B (fun v_ hv => ?_))
            obtain rfl := hv
            refine ⟨trivial, ?_⟩
            refine TK.one 12 (by decide +kernel) rfl rfl (T1.buildTwo (cs := [.int .i64 1, .string (bstr (nmb sOwn [a])), .slice none 0 0]) (ds := [.int .i64 1, .string (bstr (nmb sLink [a, s.epoch + 1])), .slice none 0 0]) ty_22 sz_24 zr_24 (by decide) rfl rfl (by rfl) (by rfl) (fun b46 => ?_))
            refine ⟨trivial, ?_⟩
            refine TK.one 13 (by decide +kernel) rfl rfl (T1.callV has_44 rfl rfl (one_any w0 _ _ _ _ _) z_B (fun v_ hv => ?_))
            obtain rfl := hv
            refine ⟨trivial, ?_⟩
            refine TK.one 14 (by decide +kernel) rfl rfl (T1.buildTwo (cs := [.int .i64 4, .string (bstr sPair), .slice ap 1 cp]) (ds := [.int .i64 8, .string (bstr []), .slice (some ⟨b46, 0, none⟩) 2 2]) ty_22 sz_24 zr_24 (by decide) rfl rfl (by rfl) (by rfl) (fun b48 => ?_))
            refine ⟨trivial, ?_⟩
            refine TK.one 15 (by decide +kernel) rfl rfl (T1.callV has_44 rfl rfl (one_any w0 _ _ _ _ _) z_B (fun v_ hv => ?_))
            obtain rfl := hv
            refine ⟨trivial, ?_⟩
            refine TK.one 16 (by decide +kernel) rfl rfl (T1.buildOne (cs := [.int .i64 3, .string (bstr []), .slice (some ⟨b48, 0, none⟩) 2 2]) ty_22 sz_24 zr_24 (by decide) rfl (by rfl) (fun b50 => ?_))
            refine ⟨trivial, ?_⟩
            refine TK.one 17 (by decide +kernel) rfl rfl (T1.callM (X := ⟨bt, 0, [.slice (some ⟨b_, o_, none⟩) s.names.length cn, iV (s.epoch + 1), iV (s.says), vk, vb], 5⟩ :: (Ln ++ (Lb ++ Lk))) has_43 rfl rfl (hear_any w0 ((⟨⟨b50, some 24⟩, 0, [.int .i64 3, .string (bstr []), .slice (some ⟨b48, 0, none⟩) 2 2], 3⟩ : Blk) :: (⟨⟨b48, some 24⟩, 0, [.int .i64 4, .string (bstr sPair), .slice ap 1 cp] ++ [.int .i64 8, .string (bstr []), .slice (some ⟨b46, 0, none⟩) 2 2], 2 * 3⟩ : Blk) :: (⟨⟨b46, some 24⟩, 0, [.int .i64 1, .string (bstr (nmb sOwn [a])), .slice none 0 0] ++ [.int .i64 1, .string (bstr (nmb sLink [a, s.epoch + 1])), .slice none 0 0], 2 * 3⟩ : Blk) :: (Yp ++ (Q ++ Ps))) (s := { s with epoch := s.epoch + 1, known := (s.known ++ LT s.names (s.epoch + 1) (s.names.take i) ++ LT1 a (s.epoch + 1) (s.names.take j)) }) (vn := .slice (some ⟨b_, o_, none⟩) s.names.length cn) (vb := vb) (Ln := Ln) (Lb := Lb) ⟨vk, Lk, xk, rfl, hsn, hsb, hsk, hxk.more (Inc.skip1 (Inc.skip1 (Inc.skip1 (Inc.skip Inc.refl))))⟩ (us := [letterT a b (s.epoch + 1)]) (RowR.own (List.mem_cons_self ..) rfl) (TmsR.one (TmR.mkN (nm := []) (n := 2) rfl (RowR.own (List.mem_cons_of_mem _ (List.mem_cons_self ..)) rfl) (by decide) (TmsR.cons (hcy.more (Inc.skip1 (Inc.skip1 (Inc.skip1 Inc.refl)))) (TmsR.one (TmR.mkN (nm := []) (n := 2) rfl (RowR.own (List.mem_cons_of_mem _ (List.mem_cons_of_mem _ (List.mem_cons_self ..))) rfl) (by decide) (TmsR.cons TmR.atom (TmsR.one TmR.atom))))))) (by simp only [List.length_append, List.length_singleton]; omega)) z_A z_B (fun v_ Yh hY => ?_))
            obtain ⟨vk2, Lk2, xk2, rfl, _, _, hsk2, hxk2⟩ := hY
            simp only [List.cons_append, List.append_assoc]
            refine ⟨trivial, ?_⟩
            refine TD.done (by decide +kernel) ?_
            refine T.live (l := [(0, _), (3, _), (16, _), (17, _), (18, _), (25, _), (26, _), (27, _)]) (.cons z_C (.cons z_C (.cons z_C (.cons z_C (.cons z_C (.cons z_C (.cons z_C (.cons z_C .nil)))))))) (fun e_ => ?_)
            refine T.region ?_
            refine TL.cons rfl (V1.t (V1.add (c := ((j + 1 : Nat) : Int)) rfl rfl (by rw [wrap_i64 _ (by omega) (by omega)]; omega)) ?_)
            refine TL.cons rfl (V1.t (V1.move' z_C) ?_)
            refine TL.nil ?_
            exact ⟨j + 1, ⟨bt, 0, [.slice (some ⟨b_, o_, none⟩) s.names.length cn, iV (s.epoch + 1), iV (s.says), vk2, vb], 5⟩ :: (Ln ++ (Lb ++ (Lk2 ++ ((⟨⟨b50, some 24⟩, 0, [.int .i64 3, .string (bstr []), .slice (some ⟨b48, 0, none⟩) 2 2], 3⟩ : Blk) :: (⟨⟨b48, some 24⟩, 0, [.int .i64 4, .string (bstr sPair), .slice ap 1 cp] ++ [.int .i64 8, .string (bstr []), .slice (some ⟨b46, 0, none⟩) 2 2], 2 * 3⟩ : Blk) :: (⟨⟨b46, some 24⟩, 0, [.int .i64 1, .string (bstr (nmb sOwn [a])), .slice none 0 0] ++ [.int .i64 1, .string (bstr (nmb sLink [a, s.epoch + 1])), .slice none 0 0], 2 * 3⟩ : Blk) :: (Yp ++ (Q ++ G)))))), _, (by simp only; omega), (.cons rfl .nil), (.cons rfl (.cons rfl (.cons rfl (.cons rfl (.cons rfl (.cons rfl (.cons rfl .nil))))))), z_A, ⟨vk2, Lk2, xk2, (⟨⟨b50, some 24⟩, 0, [.int .i64 3, .string (bstr []), .slice (some ⟨b48, 0, none⟩) 2 2], 3⟩ : Blk) :: (⟨⟨b48, some 24⟩, 0, [.int .i64 4, .string (bstr sPair), .slice ap 1 cp] ++ [.int .i64 8, .string (bstr []), .slice (some ⟨b46, 0, none⟩) 2 2], 2 * 3⟩ : Blk) :: (⟨⟨b46, some 24⟩, 0, [.int .i64 1, .string (bstr (nmb sOwn [a])), .slice none 0 0] ++ [.int .i64 1, .string (bstr (nmb sLink [a, s.epoch + 1])), .slice none 0 0], 2 * 3⟩ : Blk) :: (Yp ++ Q), by simp only [List.cons_append, List.append_assoc], by omega, hsk2, by rw [LT1_take hy0, if_neg hne, ← List.append_assoc]; simpa only [List.cons_append, List.append_assoc] using hxk2⟩⟩
        ·
          refine ⟨trivial, ?_⟩
          refine TK.one 3 (by decide +kernel) rfl rfl (T1.callC has_82 rfl rfl (pair_any w0 (Q ++ Ps) a b ha hb) z_B (fun v_ Yp hY => ?_))
          obtain ⟨cy, rfl, hcy⟩ := hY
          obtain ⟨ap, cp, vp, rfl, hrp, hlp, htp⟩ := (show TmR w0 (Yp ++ (Q ++ Ps)) (.mk 4 sPair [.mk 7 [] [ownT a, pub (ownT b)]]) cy from hcy).inv
          simp only [List.length_singleton] at *
          refine ⟨trivial, ?_⟩
          refine TK.one 5 (by decide +kernel) rfl rfl (T1.callV has_45 rfl rfl (own_any w0 a ha) z_B (fun v_ hv => ?_))
          obtain rfl := hv
          refine ⟨trivial, ?_⟩
          refine TK.one 11 (by decide +kernel) rfl rfl (T1.callV has_83 rfl rfl (link_any w0 (a) (s.epoch + 1) ha (by omega)) z_B (fun v_ hv => ?_))
          obtain rfl := hv
          refine ⟨trivial, ?_⟩
          refine TK.one 12 (by decide +kernel) rfl rfl (T1.buildTwo (cs := [.int .i64 1, .string (bstr (nmb sOwn [a])), .slice none 0 0]) (ds := [.int .i64 1, .string (bstr (nmb sLink [a, s.epoch + 1])), .slice none 0 0]) ty_22 sz_24 zr_24 (by decide) rfl rfl (by rfl) (by rfl) (fun b46 => ?_))
          refine ⟨trivial, ?_⟩
          refine TK.one 13 (by decide +kernel) rfl rfl (T1.callV has_44 rfl rfl (one_any w0 _ _ _ _ _) z_B (fun v_ hv => ?_))
          obtain rfl := hv
          refine ⟨trivial, ?_⟩
          refine TK.one 14 (by decide +kernel) rfl rfl (T1.buildTwo (cs := [.int .i64 4, .string (bstr sPair), .slice ap 1 cp]) (ds := [.int .i64 8, .string (bstr []), .slice (some ⟨b46, 0, none⟩) 2 2]) ty_22 sz_24 zr_24 (by decide) rfl rfl (by rfl) (by rfl) (fun b48 => ?_))
          refine ⟨trivial, ?_⟩
          refine TK.one 15 (by decide +kernel) rfl rfl (T1.callV has_44 rfl rfl (one_any w0 _ _ _ _ _) z_B (fun v_ hv => ?_))
          obtain rfl := hv
          refine ⟨trivial, ?_⟩
          refine TK.one 16 (by decide +kernel) rfl rfl (T1.buildOne (cs := [.int .i64 3, .string (bstr []), .slice (some ⟨b48, 0, none⟩) 2 2]) ty_22 sz_24 zr_24 (by decide) rfl (by rfl) (fun b50 => ?_))
          refine ⟨trivial, ?_⟩
          refine TK.one 17 (by decide +kernel) rfl rfl (T1.callM (X := ⟨bt, 0, [.slice (some ⟨b_, o_, none⟩) s.names.length cn, iV (s.epoch + 1), iV (s.says), vk, vb], 5⟩ :: (Ln ++ (Lb ++ Lk))) has_43 rfl rfl (hear_any w0 ((⟨⟨b50, some 24⟩, 0, [.int .i64 3, .string (bstr []), .slice (some ⟨b48, 0, none⟩) 2 2], 3⟩ : Blk) :: (⟨⟨b48, some 24⟩, 0, [.int .i64 4, .string (bstr sPair), .slice ap 1 cp] ++ [.int .i64 8, .string (bstr []), .slice (some ⟨b46, 0, none⟩) 2 2], 2 * 3⟩ : Blk) :: (⟨⟨b46, some 24⟩, 0, [.int .i64 1, .string (bstr (nmb sOwn [a])), .slice none 0 0] ++ [.int .i64 1, .string (bstr (nmb sLink [a, s.epoch + 1])), .slice none 0 0], 2 * 3⟩ : Blk) :: (Yp ++ (Q ++ Ps))) (s := { s with epoch := s.epoch + 1, known := (s.known ++ LT s.names (s.epoch + 1) (s.names.take i) ++ LT1 a (s.epoch + 1) (s.names.take j)) }) (vn := .slice (some ⟨b_, o_, none⟩) s.names.length cn) (vb := vb) (Ln := Ln) (Lb := Lb) ⟨vk, Lk, xk, rfl, hsn, hsb, hsk, hxk.more (Inc.skip1 (Inc.skip1 (Inc.skip1 (Inc.skip Inc.refl))))⟩ (us := [letterT a b (s.epoch + 1)]) (RowR.own (List.mem_cons_self ..) rfl) (TmsR.one (TmR.mkN (nm := []) (n := 2) rfl (RowR.own (List.mem_cons_of_mem _ (List.mem_cons_self ..)) rfl) (by decide) (TmsR.cons (hcy.more (Inc.skip1 (Inc.skip1 (Inc.skip1 Inc.refl)))) (TmsR.one (TmR.mkN (nm := []) (n := 2) rfl (RowR.own (List.mem_cons_of_mem _ (List.mem_cons_of_mem _ (List.mem_cons_self ..))) rfl) (by decide) (TmsR.cons TmR.atom (TmsR.one TmR.atom))))))) (by simp only [List.length_append, List.length_singleton]; omega)) z_A z_B (fun v_ Yh hY => ?_))
          obtain ⟨vk2, Lk2, xk2, rfl, _, _, hsk2, hxk2⟩ := hY
          simp only [List.cons_append, List.append_assoc]
          refine ⟨trivial, ?_⟩
          refine TD.done (by decide +kernel) ?_
          refine T.live (l := [(0, _), (3, _), (16, _), (17, _), (18, _), (25, _), (26, _), (27, _)]) (.cons z_C (.cons z_C (.cons z_C (.cons z_C (.cons z_C (.cons z_C (.cons z_C (.cons z_C .nil)))))))) (fun e_ => ?_)
          refine T.region ?_
          refine TL.cons rfl (V1.t (V1.add (c := ((j + 1 : Nat) : Int)) rfl rfl (by rw [wrap_i64 _ (by omega) (by omega)]; omega)) ?_)
          refine TL.cons rfl (V1.t (V1.move' z_C) ?_)
          refine TL.nil ?_
          exact ⟨j + 1, ⟨bt, 0, [.slice (some ⟨b_, o_, none⟩) s.names.length cn, iV (s.epoch + 1), iV (s.says), vk2, vb], 5⟩ :: (Ln ++ (Lb ++ (Lk2 ++ ((⟨⟨b50, some 24⟩, 0, [.int .i64 3, .string (bstr []), .slice (some ⟨b48, 0, none⟩) 2 2], 3⟩ : Blk) :: (⟨⟨b48, some 24⟩, 0, [.int .i64 4, .string (bstr sPair), .slice ap 1 cp] ++ [.int .i64 8, .string (bstr []), .slice (some ⟨b46, 0, none⟩) 2 2], 2 * 3⟩ : Blk) :: (⟨⟨b46, some 24⟩, 0, [.int .i64 1, .string (bstr (nmb sOwn [a])), .slice none 0 0] ++ [.int .i64 1, .string (bstr (nmb sLink [a, s.epoch + 1])), .slice none 0 0], 2 * 3⟩ : Blk) :: (Yp ++ (Q ++ G)))))), _, (by simp only; omega), (.cons rfl .nil), (.cons rfl (.cons rfl (.cons rfl (.cons rfl (.cons rfl (.cons rfl (.cons rfl .nil))))))), z_A, ⟨vk2, Lk2, xk2, (⟨⟨b50, some 24⟩, 0, [.int .i64 3, .string (bstr []), .slice (some ⟨b48, 0, none⟩) 2 2], 3⟩ : Blk) :: (⟨⟨b48, some 24⟩, 0, [.int .i64 4, .string (bstr sPair), .slice ap 1 cp] ++ [.int .i64 8, .string (bstr []), .slice (some ⟨b46, 0, none⟩) 2 2], 2 * 3⟩ : Blk) :: (⟨⟨b46, some 24⟩, 0, [.int .i64 1, .string (bstr (nmb sOwn [a])), .slice none 0 0] ++ [.int .i64 1, .string (bstr (nmb sLink [a, s.epoch + 1])), .slice none 0 0], 2 * 3⟩ : Blk) :: (Yp ++ Q), by simp only [List.cons_append, List.append_assoc], by omega, hsk2, by rw [LT1_take hy0, if_neg hne, ← List.append_assoc]; simpa only [List.cons_append, List.append_assoc] using hxk2⟩⟩
      ·
        have hne : a = b := by omega
        refine TL.nil ?_
        refine T.cond_f rfl ?_
        refine T.skip ?_
        refine T.region ?_
        refine TL.cons rfl (V1.t (V1.add (c := ((j + 1 : Nat) : Int)) rfl rfl (by rw [wrap_i64 _ (by omega) (by omega)]; omega)) ?_)
        refine TL.cons rfl (V1.t (V1.move' z_C) ?_)
        refine TL.nil ?_
        exact ⟨j + 1, ⟨bt, 0, [.slice (some ⟨b_, o_, none⟩) s.names.length cn, iV (s.epoch + 1), iV (s.says), vk, vb], 5⟩ :: (Ln ++ (Lb ++ (Lk ++ (Q ++ G)))), _, (by simp only; omega), (.cons rfl .nil), (.cons rfl (.cons rfl (.cons rfl (.cons rfl (.cons rfl (.cons rfl (.cons rfl .nil))))))), z_A, ⟨vk, Lk, xk, Q, rfl, by omega, hsk, by rw [LT1_take hy0, if_pos hne, List.append_nil]; exact hxk⟩⟩
    ·
      obtain rfl : j = s.names.length := by omega
      rw [List.take_length] at hxk
      refine TL.nil ?_
      refine T.seq ?_
      refine T.cond_f rfl ?_
      refine T.exit ?_
      refine T.region ?_
      refine TL.cons rfl (V1.t (V1.add (c := ((i + 1 : Nat) : Int)) rfl rfl (by rw [wrap_i64 _ (by omega) (by omega)]; omega)) ?_)
      refine TL.cons rfl (V1.t (V1.move' z_C) ?_)
      refine TL.nil ?_
      exact ⟨i + 1, ⟨bt, 0, [.slice (some ⟨b_, o_, none⟩) s.names.length cn, iV (s.epoch + 1), iV (s.says), vk, vb], 5⟩ :: (Ln ++ (Lb ++ (Lk ++ (Q ++ G)))), _, (by simp only; omega), (.cons rfl .nil), (.cons rfl (.cons rfl (.cons rfl .nil))), z_A, ⟨vk, Lk, xk, Q, rfl, by omega, hsk, by rw [LT_take hx0, ← List.append_assoc]; exact hxk⟩⟩
  ·
    obtain rfl : i = s.names.length := by omega
    rw [List.take_length] at hxk
    refine TL.nil ?_
    refine T.seq ?_
    refine T.cond_f rfl ?_
    refine T.exit ?_
    -- the end
    exact ⟨_, ⟨bt, 0, [.slice an s.names.length cn, iV (s.epoch + 1), iV (s.says), vk, vb], 5⟩ :: (Ln ++ (Lb ++ (Lk ++ (Q ++ G)))), _, .nil, z_A, (⟨bt, 0, [.slice an s.names.length cn, iV (s.epoch + 1), iV (s.says), vk, vb], 5⟩ :: (Ln ++ (Lb ++ Lk))) ++ Q, by simp only [List.cons_append, List.append_assoc], _, Q, rfl, vk, Lk, xk, rfl, hsn, hsb, hsk, hxk⟩

end Go.Proofs.YtlpkcbkflfbclaaGreatDoor.S
