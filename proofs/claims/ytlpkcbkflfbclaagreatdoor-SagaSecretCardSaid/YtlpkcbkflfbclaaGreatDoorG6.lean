/- A tale: somebody is laid bare. -/
import Derived.Test.YtlpkcbkflfbclaaGreatDoorG5
namespace Go.Proofs.YtlpkcbkflfbclaaGreatDoor.S
open Go.RowKit

theorem lay_bare {s : Sg} {w : Nat} : (s.lay w).bare = if w ∈ s.bare then s.bare else s.bare ++ [w] := rfl
theorem lay_in {s : Sg} {w : Nat} (h : w ∈ s.names) : (s.lay w).known = s.known ++ [ownT w] ++ [linkT w s.epoch] := by show s.known ++ (ownT w :: if w ∈ s.names then [linkT w s.epoch] else []) = _; rw [if_pos h]; simp
theorem lay_out {s : Sg} {w : Nat} (h : w ∉ s.names) : (s.lay w).known = s.known ++ [ownT w] := by show s.known ++ (ownT w :: if w ∈ s.names then [linkT w s.epoch] else []) = _; rw [if_neg h]

set_option maxRecDepth 100000 in
set_option maxHeartbeats 8000000 in
theorem lay_any (w0 : World) (Ps : List Blk) {bt : Nat} {vn vb : Value} {Ln Lb Y : List Blk} {s : Sg} (ht0 : TaleP w0 Ps bt vn Ln vb Lb s Y) (hn6 : s.names.length ≤ 6) (hb6 : s.bare.length ≤ 6) {w : Nat} (hw99 : w < 100) (hep : s.epoch < 98) (hl : s.known.length ≤ 1900) : FnG P 52 [.pointer (some ⟨bt, 0, none⟩), iV w] w0 Ps Y (fun v Y2 => ∃ Y' Q vb2 Lb2, Y2 = Y' ++ Q ∧ TaleP w0 (Q ++ Ps) bt vn Ln vb2 Lb2 (s.lay w) Y') := by
  obtain ⟨vk, Lk, xk, rfl, hsn, hsb, hsk, hxk⟩ := ht0
  have hrn := Sl.nat (w0 := w0) hsn
  have hrb := Sl.nat (w0 := w0) hsb
  obtain ⟨an, cn, rfl⟩ := hrn.form
  obtain ⟨ab, cb, rfl⟩ := hrb.form
  refine FnG.of 41 [] Go.Proofs.Tryz.func52 rfl rfl rfl rfl (fun G hG => ?_)
  simp only [List.cons_append, List.append_assoc]
  refine T.cut (σ := Value × List Blk) (l0 := [(0, _), (1, _)]) (fun x => []) (fun x L => L = (⟨bt, 0, [.slice an s.names.length cn, iV (s.epoch), iV (s.says), vk, x.1], 5⟩ : Blk) :: (Ln ++ (x.2 ++ (Lk ++ G))) ∧ Sl x.1 ((s.lay w).bare.map iV) 1 x.2) (.cons z_C (.cons z_C .nil)) ?_ ?_
  ·
    refine T.seq ?_
    refine T.region ?_
    refine TL.cons rfl (V1.t (V1.move' z_C) ?_)
    refine TL.cons rfl (V1.t (V1.nilCheck rfl) ?_)
    refine TL.cons rfl (V1.t (V1.fieldAddr fl_89_4 rfl) ?_)
    refine TL.cons rfl (V1.t (V1.load1 (v := .slice ab s.bare.length cb) one_44 rfl (.own z_D (by rfl))) ?_)
    refine TL.cons rfl (V1.t (V1.move' z_C) ?_)
    refine TL.cons rfl (T1.callV has_46 rfl rfl (Contains_any w0 Lb hrb (by omega) (w : Int)) z_B (fun v_ hv => ?_))
    obtain rfl := hv
    rcases Classical.em (w ∈ s.bare) with hb | hb
    ·
      rw [inI_t hb]
      refine TL.cons rfl (V1.t (V1.not rfl rfl) ?_)
      refine TL.nil ?_
      refine T.cond_f rfl ?_
      refine T.skip ?_
      exact ⟨(.slice ab s.bare.length cb, Lb), _, _, trivial, .nil, (.cons rfl (.cons rfl .nil)), z_A, ⟨rfl, by rw [lay_bare, if_pos hb]; exact hsb⟩⟩
    ·
      rw [inI_f hb]
      refine TL.cons rfl (V1.t (V1.not rfl rfl) ?_)
      refine TL.nil ?_
      refine T.cond_t rfl ?_
      refine T.region ?_
      refine TL.cons rfl (V1.t (V1.move' z_C) ?_)
      refine TL.cons rfl (V1.t (V1.move' z_C) ?_)
      refine TL.cons rfl (V1.t (V1.nilCheck rfl) ?_)
      refine TL.cons rfl (V1.t (V1.fieldAddr fl_89_4 rfl) ?_)
      refine TL.cons rfl (V1.t (V1.load1 (v := .slice ab s.bare.length cb) one_44 rfl (.own z_D (by rfl))) ?_)
      refine TL.cons rfl (V1.t (V1.move' z_C) ?_)
      refine TL.cons rfl (T1.buildSl1 (os := [.tmp 16]) ty_44 sz_3 zr_3 (by decide) rfl (.cons (v := iV w) rfl .nil) rfl (ones rfl) (fun b17 => ?_))
      refine TL.cons rfl (T1.append ty_44 kd_44 sz_3 by_3 zr_3 rfl (by decide) (by decide) rfl rfl hsb (.sl (vs := [iV w]) (RdN.at0 z_D) (by rfl)) (ones rfl) 1000 (by rw [List.length_map]; show _ + 1 ≤ _; omega) (by decide) z_E (fun s2 Lb2 hsb2 => ?_))
      refine TL.cons rfl (V1.t (V1.nilCheck rfl) ?_)
      refine TL.cons rfl (V1.t (V1.fieldAddr fl_89_4 rfl) ?_)
      refine TL.cons rfl (T1.store1 rfl rfl sz_44 hsb2.one z_G (Nat.zero_le _) (by repeat (first | exact SetAt.here | apply SetAt.there)) ?_)
      refine TL.nil ?_
      exact ⟨(s2, Lb2), _, _, trivial, .nil, (.cons rfl (.cons rfl .nil)), z_A, ⟨rfl, by rw [lay_bare, if_neg hb, List.map_append]; exact hsb2⟩⟩
  ·
    rintro ⟨vb2, Lb2⟩ e_ L ⟨rfl, hsb2⟩
    simp only at hsb2
    dsimp only
    refine T.seq ?_
    refine T.region ?_
    refine TL.cons rfl (V1.t (V1.move' z_C) ?_)
    refine TL.cons rfl (V1.t (V1.move' z_C) ?_)
    refine TL.cons rfl (T1.callV has_45 rfl rfl (own_any w0 w hw99) z_B (fun v_ hv => ?_))
    obtain rfl := hv
    refine TL.cons rfl (T1.buildOne (cs := [.int .i64 1, .string (bstr (nmb sOwn [w])), .slice none 0 0]) ty_22 sz_24 zr_24 (by decide) rfl (by rfl) (fun b24 => ?_))
    refine TL.cons rfl (T1.callM (X := ⟨bt, 0, [.slice an s.names.length cn, iV (s.epoch), iV (s.says), vk, vb2], 5⟩ :: (Ln ++ (Lb2 ++ Lk))) has_43 rfl rfl (hear_any w0 ((⟨⟨b24, some 24⟩, 0, [.int .i64 1, .string (bstr (nmb sOwn [w])), .slice none 0 0], 3⟩ : Blk) :: Ps) (s := { s with bare := (s.lay w).bare }) (vn := .slice an s.names.length cn) (vb := vb2) (Ln := Ln) (Lb := Lb2) ⟨vk, Lk, xk, rfl, hsn, hsb2, hsk, hxk.more (Inc.skip1 Inc.refl)⟩ (us := [ownT w]) (RowR.own (List.mem_cons_self ..) rfl) (TmsR.one TmR.atom) (by show s.known.length + 1 ≤ 2000; omega)) z_A z_B (fun v_ Yh hY => ?_))
    obtain ⟨vk2, Lk2, xk2, rfl, _, _, hsk2, hxk2⟩ := hY
    simp only [List.cons_append, List.append_assoc]
    try dsimp only
    refine TL.nil ?_
    refine T.seq ?_
    refine T.region ?_
    refine TL.cons rfl (V1.t (V1.move' z_C) ?_)
    refine TL.cons rfl (V1.t (V1.nilCheck rfl) ?_)
    refine TL.cons rfl (V1.t (V1.fieldAddr fl_89_0 rfl) ?_)
    refine TL.cons rfl (V1.t (V1.load1 (v := .slice an s.names.length cn) one_44 rfl (.own z_D (by rfl))) ?_)
    refine TL.cons rfl (V1.t (V1.move' z_C) ?_)
    refine TL.cons rfl (T1.callV has_46 rfl rfl (Contains_any w0 Ln hrn (by omega) (w : Int)) z_B (fun v_ hv => ?_))
    obtain rfl := hv
    rcases Classical.em (w ∈ s.names) with hn | hn
    ·
      rw [inI_t hn]
      refine TL.nil ?_
      refine T.cond_t rfl ?_
      refine T.region ?_
      refine TL.cons rfl (V1.t (V1.move' z_C) ?_)
      refine TL.cons rfl (V1.t (V1.move' z_C) ?_)
      refine TL.cons rfl (V1.t (V1.move' z_C) ?_)
      refine TL.cons rfl (V1.t (V1.nilCheck rfl) ?_)
      refine TL.cons rfl (V1.t (V1.fieldAddr fl_89_1 rfl) ?_)
      refine TL.cons rfl (V1.t (V1.load1 (v := iV s.epoch) one_3 rfl (.own z_D (by rfl))) ?_)
      refine TL.cons rfl (T1.callV has_83 rfl rfl (link_any w0 (w) (s.epoch) hw99 (by omega)) z_B (fun v_ hv => ?_))
      obtain rfl := hv
      refine TL.cons rfl (T1.buildOne (cs := [.int .i64 1, .string (bstr (nmb sLink [w, s.epoch])), .slice none 0 0]) ty_22 sz_24 zr_24 (by decide) rfl (by rfl) (fun b39 => ?_))
      refine TL.cons rfl (T1.callM (X := ⟨bt, 0, [.slice an s.names.length cn, iV (s.epoch), iV (s.says), vk2, vb2], 5⟩ :: (Ln ++ (Lb2 ++ Lk2))) has_43 rfl rfl (hear_any w0 ((⟨⟨b39, some 24⟩, 0, [.int .i64 1, .string (bstr (nmb sLink [w, s.epoch])), .slice none 0 0], 3⟩ : Blk) :: (⟨⟨b24, some 24⟩, 0, [.int .i64 1, .string (bstr (nmb sOwn [w])), .slice none 0 0], 3⟩ : Blk) :: Ps) (s := { s with bare := (s.lay w).bare, known := s.known ++ [ownT w] }) (vn := .slice an s.names.length cn) (vb := vb2) (Ln := Ln) (Lb := Lb2) ⟨vk2, Lk2, xk2, rfl, hsn, hsb2, hsk2, hxk2.more (Inc.skip1 Inc.refl)⟩ (us := [linkT w s.epoch]) (RowR.own (List.mem_cons_self ..) rfl) (TmsR.one TmR.atom) (by show (s.known ++ [ownT w]).length + 1 ≤ 2000; rw [List.length_append, List.length_singleton]; omega)) z_A z_B (fun v_ Yh hY => ?_))
      obtain ⟨vk3, Lk3, xk3, rfl, _, _, hsk3, hxk3⟩ := hY
      simp only [List.cons_append, List.append_assoc]
      try dsimp only
      refine TL.nil ?_
      -- the end
      exact ⟨_, ⟨bt, 0, [.slice an s.names.length cn, iV (s.epoch), iV (s.says), vk3, vb2], 5⟩ :: (Ln ++ (Lb2 ++ (Lk3 ++ ((⟨⟨b39, some 24⟩, 0, [.int .i64 1, .string (bstr (nmb sLink [w, s.epoch])), .slice none 0 0], 3⟩ : Blk) :: (⟨⟨b24, some 24⟩, 0, [.int .i64 1, .string (bstr (nmb sOwn [w])), .slice none 0 0], 3⟩ : Blk) :: G)))), _, .nil, z_A, (⟨bt, 0, [.slice an s.names.length cn, iV (s.epoch), iV (s.says), vk3, vb2], 5⟩ :: (Ln ++ (Lb2 ++ Lk3))) ++ [(⟨⟨b39, some 24⟩, 0, [.int .i64 1, .string (bstr (nmb sLink [w, s.epoch])), .slice none 0 0], 3⟩ : Blk), (⟨⟨b24, some 24⟩, 0, [.int .i64 1, .string (bstr (nmb sOwn [w])), .slice none 0 0], 3⟩ : Blk)], by simp only [List.cons_append, List.append_assoc, List.nil_append], _, [(⟨⟨b39, some 24⟩, 0, [.int .i64 1, .string (bstr (nmb sLink [w, s.epoch])), .slice none 0 0], 3⟩ : Blk), (⟨⟨b24, some 24⟩, 0, [.int .i64 1, .string (bstr (nmb sOwn [w])), .slice none 0 0], 3⟩ : Blk)], vb2, Lb2, rfl, vk3, Lk3, xk3, rfl, hsn, hsb2, hsk3, by rw [lay_in hn]; exact hxk3⟩
    ·
      rw [inI_f hn]
      refine TL.nil ?_
      refine T.cond_f rfl ?_
      refine T.skip ?_
      -- the end
      exact ⟨_, ⟨bt, 0, [.slice an s.names.length cn, iV (s.epoch), iV (s.says), vk2, vb2], 5⟩ :: (Ln ++ (Lb2 ++ (Lk2 ++ ((⟨⟨b24, some 24⟩, 0, [.int .i64 1, .string (bstr (nmb sOwn [w])), .slice none 0 0], 3⟩ : Blk) :: G)))), _, .nil, z_A, (⟨bt, 0, [.slice an s.names.length cn, iV (s.epoch), iV (s.says), vk2, vb2], 5⟩ :: (Ln ++ (Lb2 ++ Lk2))) ++ [(⟨⟨b24, some 24⟩, 0, [.int .i64 1, .string (bstr (nmb sOwn [w])), .slice none 0 0], 3⟩ : Blk)], by simp only [List.cons_append, List.append_assoc, List.nil_append], _, [(⟨⟨b24, some 24⟩, 0, [.int .i64 1, .string (bstr (nmb sOwn [w])), .slice none 0 0], 3⟩ : Blk)], vb2, Lb2, rfl, vk2, Lk2, xk2, rfl, hsn, hsb2, hsk2, by rw [lay_out hn]; exact hxk2⟩

end Go.Proofs.YtlpkcbkflfbclaaGreatDoor.S
