/- A tale: somebody says something; somebody is laid bare. -/
import Derived.Test.YtfjedhmffccgnaaGreatDoorG4
namespace Go.Proofs.YtfjedhmffccgnaaGreatDoor.S
open Go.RowKit
theorem inI_nat (ns : List Nat) (w : Nat) : inI ns (w : Int) = decide (w ∈ ns) := by
 unfold inI
 exact decide_eq_decide.2 ⟨fun ⟨n, hn, e⟩ => by rw [show w = n by omega]; exact hn, fun h => ⟨w, h, rfl⟩⟩
theorem inI_t {ns : List Nat} {w : Nat} (h : w ∈ ns) : inI ns (w : Int) = true := by rw [inI_nat]; exact decide_eq_true h
theorem inI_f {ns : List Nat} {w : Nat} (h : w ∉ ns) : inI ns (w : Int) = false := by rw [inI_nat]; exact decide_eq_false h
def TdR (w0 : World) (Ps : List Blk) (t : Td) (cs : List Value) : Prop := ∃ a c, cs = [iV t.who, iV t.epoch, .slice a t.names.length c, .int .i64 1, .string (bstr (nmb sText [t.num])), .slice none 0 0] ∧ RowR w0 Ps 1 (.slice a t.names.length c) t.names.length (t.names.map iV)
theorem TdR.more {w0 : World} {Ps Qs : List Blk} {t : Td} {cs : List Value} (h : TdR w0 Ps t cs) (hi : Inc Ps Qs) : TdR w0 Qs t cs := by
 obtain ⟨a, c, h1, h2⟩ := h; exact ⟨a, c, h1, h2.more hi⟩
theorem TdR.len {w0 : World} {Ps : List Blk} {t : Td} {cs : List Value} (h : TdR w0 Ps t cs) : cs.length = 6 ∧ ∀ u ∈ cs, one u = true := by
 obtain ⟨a, c, rfl, _⟩ := h
 exact ⟨rfl, by intro u hu; simp only [List.mem_cons, List.not_mem_nil, or_false] at hu; rcases hu with rfl | rfl | rfl | rfl | rfl | rfl <;> rfl⟩
def MTm (w0 : World) (Ps : List Blk) (k : Int) (nm : List UInt8) (n : Nat) (ts : List Tm) : Value → List Blk → Prop := fun v Y => ∃ a c, v = .agg [.int .i64 k, .string (bstr nm), .slice a n c].toArray ∧ TmR w0 (Y ++ Ps) (.mk k nm ts) [.int .i64 k, .string (bstr nm), .slice a n c]
theorem mo_inc {Y Z Ps : List Blk} : Inc (Y ++ Ps) (Z ++ Y ++ Ps) := Inc.app (Inc.left (Inc.skip Inc.refl)) (Inc.skip Inc.refl)
theorem MTm.mono {w0 : World} {Ps : List Blk} {k : Int} {nm : List UInt8} {n : Nat} {ts : List Tm} (v : Value) (Y Z : List Blk) (h : MTm w0 Ps k nm n ts v Y) : MTm w0 Ps k nm n ts v (Z ++ Y) := by
 obtain ⟨a, c, h1, h2⟩ := h; exact ⟨a, c, h1, h2.more mo_inc⟩
def MTms (w0 : World) (Ps : List Blk) (n : Nat) (ts : List Tm) : Value → List Blk → Prop := fun v Y => ∃ a c vs, v = .slice a n c ∧ RowR w0 (Y ++ Ps) 3 (.slice a n c) n vs ∧ TmsR w0 (Y ++ Ps) ts vs
theorem MTms.mono {w0 : World} {Ps : List Blk} {n : Nat} {ts : List Tm} (v : Value) (Y Z : List Blk) (h : MTms w0 Ps n ts v Y) : MTms w0 Ps n ts v (Z ++ Y) := by
 obtain ⟨a, c, vs, h1, h2, h3⟩ := h; exact ⟨a, c, vs, h1, h2.more mo_inc, h3.more mo_inc⟩
def MRowI (w0 : World) (Ps : List Blk) (n : Nat) (vs : List Value) : Value → List Blk → Prop := fun v Y => ∃ a c, v = .slice a n c ∧ RowR w0 (Y ++ Ps) 1 (.slice a n c) n vs
theorem MRowI.mono {w0 : World} {Ps : List Blk} {n : Nat} {vs : List Value} (v : Value) (Y Z : List Blk) (h : MRowI w0 Ps n vs v Y) : MRowI w0 Ps n vs v (Z ++ Y) := by
 obtain ⟨a, c, h1, h2⟩ := h; exact ⟨a, c, h1, h2.more mo_inc⟩
set_option maxRecDepth 100000 in
set_option maxHeartbeats 8000000 in
theorem say_any (w0 : World) (Ps : List Blk) {bt : Nat} {vn vb : Value} {Ln Lb Y : List Blk} {s : Sg} (ht0 : TaleP w0 Ps bt vn Ln vb Lb s Y) (hn6 : s.names.length ≤ 6) {w : Nat} (hw : w ∈ s.names) (hw99 : w < 100) (hep : s.epoch < 98) (hsa : s.says < 98) (hl : s.known.length ≤ 1900) : FnG P 18 [.pointer (some ⟨bt, 0, none⟩), iV w] w0 Ps Y (fun v Y2 => ∃ Y' Q cs, Y2 = Y' ++ Q ∧ v = .tuple #[.agg cs.toArray, .int .i64 0] ∧ TaleP w0 (Q ++ Ps) bt vn Ln vb Lb (s.say w) Y' ∧ TdR w0 (Q ++ Ps) ⟨w, s.epoch, s.names, s.says + 1⟩ cs) := by
 obtain ⟨vk, Lk, xk, rfl, hsn, hsb, hsk, hxk⟩ := ht0
 have hrn := Sl.nat (w0 := w0) hsn
 obtain ⟨an, cn, rfl⟩ := hrn.form
 refine FnG.of 75 [.cell 4 34, .tmp 5] Go.Proofs.Tryz.func18 rfl rfl rfl rfl (fun G hG => ?_)
 simp only [List.cons_append, List.append_assoc]
 refine zs ?_
 refine zc (T1.allocN 6 zr_34 rfl (fun b4 => zs ?_))
 refine z0 (V1.nilCheck rfl) ?_
 refine z0 (V1.fieldAddr fl_62_0 rfl) ?_
 refine zq (V1.load1 (v := .slice an s.names.length cn) one_25 rfl (.own z_A zr)) ?_
 refine zc (T1.callV has_13 rfl rfl (Contains_any w0 Ln hrn zw (w : Int)) z_D (fun v_ hv => ?_))
 obtain rfl := hv
 rw [inI_t hw]
 refine z0 (V1.not rfl rfl) ?_
 refine TL.nil ?_
 refine T.cond_f rfl (zs ?_)
 refine z0 (V1.nilCheck rfl) ?_
 refine z0 (V1.fieldAddr fl_62_2 rfl) ?_
 refine z0 (V1.load1 (v := iV (s.says)) one_3 rfl (.own z_A zr)) ?_
 refine z0 (V1.add (c := ((s.says + 1 : Nat) : Int)) rfl rfl z_J) ?_
 refine z0 (V1.nilCheck rfl) ?_
 refine z0 (V1.fieldAddr fl_62_2 rfl) ?_
 refine zc (T1.store1 rfl rfl sz_3 rfl z_H (Nat.zero_le _) z_K ?_)
 refine TL.nil ?_
 refine T.seq (T.live (l := [(0, _), (1, _), (4, _)]) zT (fun e_ => ?_))
 refine zs ?_
 refine z0 (V1.nilCheck rfl) ?_
 refine z0 (V1.fieldAddr fl_62_2 rfl) ?_
 refine z0 (V1.load1 (v := iV (s.says + 1)) one_3 rfl (.own z_A zr)) ?_
 refine zc (T1.buildSl1 (os := [.tmp 26]) ty_25 sz_3 zr_3 ze rfl (.cons (v := iV (s.says + 1)) rfl .nil) rfl (ones rfl) (fun b27 => ?_))
 refine zc (T1.callV has_35 rfl rfl (number_any w0 [⟨b27, 0, [iV (s.says + 1)], 1⟩] sText ze (ns := [s.says + 1]) rfl (zf) (by simp) z_O) z_D (fun v_ hv => ?_))
 obtain rfl := hv
 refine zc (T1.callV has_34 rfl rfl (Of_any w0 [] (nmb sText [s.says + 1])) z_D (fun v_ hv => ?_))
 obtain rfl := hv
 refine zc (T1.allocN 3 zr_32 rfl (fun b6 => ?_))
 refine zc (T1.storeN rfl rfl sz_32 (ones rfl) z_H zr zr ?_)
 refine TL.nil ?_
 refine T.cut (σ := Nat × Nat) (l0 := [(0, _), (1, _), (4, _), (6, _)]) (fun x => [(7, .pointer (some ⟨x.1, 0, none⟩))]) (fun x L => L = ⟨x.1, 0, [.int .i64 4, .string (bstr sPost), .slice (some ⟨x.2, 0, none⟩) 2 2], 3⟩ :: (⟨⟨x.2, some 32⟩, 0, [.int .i64 1, .string (bstr (nmb sLink [w, s.epoch])), .slice none 0 0] ++ [.int .i64 1, .string (bstr (nmb sIndex [s.says + 1])), .slice none 0 0], 2 * 3⟩ : Blk) :: ⟨b6, 0, [.int .i64 1, .string (bstr (nmb sText [s.says + 1])), .slice none 0 0], 3⟩ :: ⟨b4, 0, [.int .i64 0, .int .i64 0, .slice none 0 0, .int .i64 0, .string ⟨#[]⟩, .slice none 0 0], 6⟩ :: (⟨bt, 0, [.slice an s.names.length cn, iV (s.epoch), iV (s.says + 1), vk, vb], 5⟩ :: (Ln ++ (Lb ++ (Lk ++ G))))) (.cons z_C (.cons z_C (.cons z_C (.cons z_C .nil)))) ?_ ?_
 ·
  refine T.drawK (fun L_ => Find L_ (⟨bt, 0, [.slice an s.names.length cn, iV (s.epoch), iV (s.says + 1), vk, vb], 5⟩ : Blk)) mixed z_A ?_
  refine zk 0 rfl (fun k1_ => V1.move' z_C) ?_
  refine zk 1 rfl (fun k1_ => V1.move' z_C) ?_
  refine zk 2 rfl (fun k1_ => V1.nilCheck rfl) ?_
  refine zk 3 rfl (fun k1_ => V1.fieldAddr fl_62_1 rfl) ?_
  refine zk 4 rfl (fun k1_ => V1.load1 (v := iV (s.epoch)) one_3 rfl (.own z_A zr)) ?_
  refine zk 6 rfl (fun k1_ => V1.move' z_C) ?_
  refine zk 7 rfl (fun k1_ => V1.nilCheck rfl) ?_
  refine zk 8 rfl (fun k1_ => V1.fieldAddr fl_62_2 rfl) ?_
  refine zk 9 rfl (fun k1_ => V1.load1 (v := iV (s.says + 1)) one_3 rfl (.own z_A zr)) ?_
  refine TK.three 5 10 15 z_F rfl rfl rfl rfl rfl rfl (T1.callV has_40 rfl rfl (link_any w0 (w) (s.epoch) hw99 zw) z_D (fun v_ hv => ?_)) (T1.buildSl1 (os := [.tmp 39]) ty_25 sz_3 zr_3 ze rfl (.cons (v := iV (s.says + 1)) rfl .nil) rfl (ones rfl) (fun b40 => ?_)) (T1.allocN 3 zr_32 rfl (fun b7 => ?_))
  ·
   obtain rfl := hv
   refine ⟨z_A, TK.two 10 15 z_F rfl rfl rfl rfl (T1.buildSl1 (os := [.tmp 39]) ty_25 sz_3 zr_3 ze rfl (.cons (v := iV (s.says + 1)) rfl .nil) rfl (ones rfl) (fun b40 => ?_)) (T1.allocN 3 zr_32 rfl (fun b7 => ?_))⟩
   ·
    refine ⟨z_A, TK.two 11 15 z_F rfl rfl rfl rfl (T1.callV has_35 rfl rfl (number_any w0 [⟨b40, 0, [iV (s.says + 1)], 1⟩] sIndex ze (ns := [s.says + 1]) rfl (zf) (by simp) z_O) z_D (fun v_ hv => ?_)) (T1.allocN 3 zr_32 rfl (fun b7 => ?_))⟩
    ·
     obtain rfl := hv
     refine ⟨z_A, TK.two 12 15 z_F rfl rfl rfl rfl (T1.callV has_34 rfl rfl (Of_any w0 [] (nmb sIndex [s.says + 1])) z_D (fun v_ hv => ?_)) (T1.allocN 3 zr_32 rfl (fun b7 => ?_))⟩
     ·
      obtain rfl := hv
      refine ⟨z_A, TK.two 13 15 z_F rfl rfl rfl rfl (T1.buildTwo (cs := [.int .i64 1, .string (bstr (nmb sLink [w, s.epoch])), .slice none 0 0]) (ds := [.int .i64 1, .string (bstr (nmb sIndex [s.says + 1])), .slice none 0 0]) ty_24 sz_32 zr_32 ze rfl rfl zr zr (fun b43 => ?_)) (T1.allocN 3 zr_32 rfl (fun b7 => ?_))⟩
      ·
       refine ⟨z_A, TK.two 14 15 z_F rfl rfl rfl rfl (T1.callV has_11 rfl rfl (one_any w0 _ _ _ _ _) z_D (fun v_ hv => ?_)) (T1.allocN 3 zr_32 rfl (fun b7 => ?_))⟩
       ·
        obtain rfl := hv
        refine ⟨z_A, zo 15 rfl rfl (T1.allocN 3 zr_32 rfl (fun b7 => ?_))⟩
        refine ⟨z_A, zo 16 rfl rfl (T1.storeN rfl rfl sz_32 (ones rfl) z_H zr zr ?_)⟩
        exact ⟨z_A, TD.done z_F ⟨(b7, b43), _, _, trivial, (.cons rfl .nil), (.cons rfl (.cons rfl (.cons rfl (.cons rfl .nil)))), z_B, rfl⟩⟩
       ·
        refine ⟨z_A, zo 14 rfl rfl (T1.callV has_11 rfl rfl (one_any w0 _ _ _ _ _) z_D (fun v_ hv => ?_))⟩
        obtain rfl := hv
        refine ⟨z_A, zo 16 rfl rfl (T1.storeN rfl rfl sz_32 (ones rfl) z_H zr zr ?_)⟩
        exact ⟨z_A, TD.done z_F ⟨(b7, b43), _, _, trivial, (.cons rfl .nil), (.cons rfl (.cons rfl (.cons rfl (.cons rfl .nil)))), z_B, rfl⟩⟩
      ·
       refine ⟨z_A, zo 13 rfl rfl (T1.buildTwo (cs := [.int .i64 1, .string (bstr (nmb sLink [w, s.epoch])), .slice none 0 0]) (ds := [.int .i64 1, .string (bstr (nmb sIndex [s.says + 1])), .slice none 0 0]) ty_24 sz_32 zr_32 ze rfl rfl zr zr (fun b43 => ?_))⟩
       refine ⟨z_A, zo 14 rfl rfl (T1.callV has_11 rfl rfl (one_any w0 _ _ _ _ _) z_D (fun v_ hv => ?_))⟩
       obtain rfl := hv
       refine ⟨z_A, zo 16 rfl rfl (T1.storeN rfl rfl sz_32 (ones rfl) z_H zr zr ?_)⟩
       exact ⟨z_A, TD.done z_F ⟨(b7, b43), _, _, trivial, (.cons rfl .nil), (.cons rfl (.cons rfl (.cons rfl (.cons rfl .nil)))), z_B, rfl⟩⟩
     ·
      refine ⟨z_A, zo 12 rfl rfl (T1.callV has_34 rfl rfl (Of_any w0 [] (nmb sIndex [s.says + 1])) z_D (fun v_ hv => ?_))⟩
      obtain rfl := hv
      refine ⟨z_A, zo 13 rfl rfl (T1.buildTwo (cs := [.int .i64 1, .string (bstr (nmb sLink [w, s.epoch])), .slice none 0 0]) (ds := [.int .i64 1, .string (bstr (nmb sIndex [s.says + 1])), .slice none 0 0]) ty_24 sz_32 zr_32 ze rfl rfl zr zr (fun b43 => ?_))⟩
      refine ⟨z_A, zo 14 rfl rfl (T1.callV has_11 rfl rfl (one_any w0 _ _ _ _ _) z_D (fun v_ hv => ?_))⟩
      obtain rfl := hv
      refine ⟨z_A, zo 16 rfl rfl (T1.storeN rfl rfl sz_32 (ones rfl) z_H zr zr ?_)⟩
      exact ⟨z_A, TD.done z_F ⟨(b7, b43), _, _, trivial, (.cons rfl .nil), (.cons rfl (.cons rfl (.cons rfl (.cons rfl .nil)))), z_B, rfl⟩⟩
    ·
     refine ⟨z_A, zo 11 rfl rfl (T1.callV has_35 rfl rfl (number_any w0 [⟨b40, 0, [iV (s.says + 1)], 1⟩] sIndex ze (ns := [s.says + 1]) rfl (zf) (by simp) z_O) z_D (fun v_ hv => ?_))⟩
     obtain rfl := hv
     refine ⟨z_A, zo 12 rfl rfl (T1.callV has_34 rfl rfl (Of_any w0 [] (nmb sIndex [s.says + 1])) z_D (fun v_ hv => ?_))⟩
     obtain rfl := hv
     refine ⟨z_A, zo 13 rfl rfl (T1.buildTwo (cs := [.int .i64 1, .string (bstr (nmb sLink [w, s.epoch])), .slice none 0 0]) (ds := [.int .i64 1, .string (bstr (nmb sIndex [s.says + 1])), .slice none 0 0]) ty_24 sz_32 zr_32 ze rfl rfl zr zr (fun b43 => ?_))⟩
     refine ⟨z_A, zo 14 rfl rfl (T1.callV has_11 rfl rfl (one_any w0 _ _ _ _ _) z_D (fun v_ hv => ?_))⟩
     obtain rfl := hv
     refine ⟨z_A, zo 16 rfl rfl (T1.storeN rfl rfl sz_32 (ones rfl) z_H zr zr ?_)⟩
     exact ⟨z_A, TD.done z_F ⟨(b7, b43), _, _, trivial, (.cons rfl .nil), (.cons rfl (.cons rfl (.cons rfl (.cons rfl .nil)))), z_B, rfl⟩⟩
   ·
    refine ⟨z_A, zo 10 rfl rfl (T1.buildSl1 (os := [.tmp 39]) ty_25 sz_3 zr_3 ze rfl (.cons (v := iV (s.says + 1)) rfl .nil) rfl (ones rfl) (fun b40 => ?_))⟩
    refine ⟨z_A, zo 11 rfl rfl (T1.callV has_35 rfl rfl (number_any w0 [⟨b40, 0, [iV (s.says + 1)], 1⟩] sIndex ze (ns := [s.says + 1]) rfl (zf) (by simp) z_O) z_D (fun v_ hv => ?_))⟩
    obtain rfl := hv
    refine ⟨z_A, zo 12 rfl rfl (T1.callV has_34 rfl rfl (Of_any w0 [] (nmb sIndex [s.says + 1])) z_D (fun v_ hv => ?_))⟩
    obtain rfl := hv
    refine ⟨z_A, zo 13 rfl rfl (T1.buildTwo (cs := [.int .i64 1, .string (bstr (nmb sLink [w, s.epoch])), .slice none 0 0]) (ds := [.int .i64 1, .string (bstr (nmb sIndex [s.says + 1])), .slice none 0 0]) ty_24 sz_32 zr_32 ze rfl rfl zr zr (fun b43 => ?_))⟩
    refine ⟨z_A, zo 14 rfl rfl (T1.callV has_11 rfl rfl (one_any w0 _ _ _ _ _) z_D (fun v_ hv => ?_))⟩
    obtain rfl := hv
    refine ⟨z_A, zo 16 rfl rfl (T1.storeN rfl rfl sz_32 (ones rfl) z_H zr zr ?_)⟩
    exact ⟨z_A, TD.done z_F ⟨(b7, b43), _, _, trivial, (.cons rfl .nil), (.cons rfl (.cons rfl (.cons rfl (.cons rfl .nil)))), z_B, rfl⟩⟩
  ·
   refine ⟨z_A, TK.two 5 15 z_F rfl rfl rfl rfl (T1.callV has_40 rfl rfl (link_any w0 (w) (s.epoch) hw99 zw) z_D (fun v_ hv => ?_)) (T1.allocN 3 zr_32 rfl (fun b7 => ?_))⟩
   ·
    obtain rfl := hv
    refine ⟨z_A, TK.two 11 15 z_F rfl rfl rfl rfl (T1.callV has_35 rfl rfl (number_any w0 [⟨b40, 0, [iV (s.says + 1)], 1⟩] sIndex ze (ns := [s.says + 1]) rfl (zf) (by simp) z_O) z_D (fun v_ hv => ?_)) (T1.allocN 3 zr_32 rfl (fun b7 => ?_))⟩
    ·
     obtain rfl := hv
     refine ⟨z_A, TK.two 12 15 z_F rfl rfl rfl rfl (T1.callV has_34 rfl rfl (Of_any w0 [] (nmb sIndex [s.says + 1])) z_D (fun v_ hv => ?_)) (T1.allocN 3 zr_32 rfl (fun b7 => ?_))⟩
     ·
      obtain rfl := hv
      refine ⟨z_A, TK.two 13 15 z_F rfl rfl rfl rfl (T1.buildTwo (cs := [.int .i64 1, .string (bstr (nmb sLink [w, s.epoch])), .slice none 0 0]) (ds := [.int .i64 1, .string (bstr (nmb sIndex [s.says + 1])), .slice none 0 0]) ty_24 sz_32 zr_32 ze rfl rfl zr zr (fun b43 => ?_)) (T1.allocN 3 zr_32 rfl (fun b7 => ?_))⟩
      ·
       refine ⟨z_A, TK.two 14 15 z_F rfl rfl rfl rfl (T1.callV has_11 rfl rfl (one_any w0 _ _ _ _ _) z_D (fun v_ hv => ?_)) (T1.allocN 3 zr_32 rfl (fun b7 => ?_))⟩
       ·
        obtain rfl := hv
        refine ⟨z_A, zo 15 rfl rfl (T1.allocN 3 zr_32 rfl (fun b7 => ?_))⟩
        refine ⟨z_A, zo 16 rfl rfl (T1.storeN rfl rfl sz_32 (ones rfl) z_H zr zr ?_)⟩
        exact ⟨z_A, TD.done z_F ⟨(b7, b43), _, _, trivial, (.cons rfl .nil), (.cons rfl (.cons rfl (.cons rfl (.cons rfl .nil)))), z_B, rfl⟩⟩
       ·
        refine ⟨z_A, zo 14 rfl rfl (T1.callV has_11 rfl rfl (one_any w0 _ _ _ _ _) z_D (fun v_ hv => ?_))⟩
        obtain rfl := hv
        refine ⟨z_A, zo 16 rfl rfl (T1.storeN rfl rfl sz_32 (ones rfl) z_H zr zr ?_)⟩
        exact ⟨z_A, TD.done z_F ⟨(b7, b43), _, _, trivial, (.cons rfl .nil), (.cons rfl (.cons rfl (.cons rfl (.cons rfl .nil)))), z_B, rfl⟩⟩
      ·
       refine ⟨z_A, zo 13 rfl rfl (T1.buildTwo (cs := [.int .i64 1, .string (bstr (nmb sLink [w, s.epoch])), .slice none 0 0]) (ds := [.int .i64 1, .string (bstr (nmb sIndex [s.says + 1])), .slice none 0 0]) ty_24 sz_32 zr_32 ze rfl rfl zr zr (fun b43 => ?_))⟩
       refine ⟨z_A, zo 14 rfl rfl (T1.callV has_11 rfl rfl (one_any w0 _ _ _ _ _) z_D (fun v_ hv => ?_))⟩
       obtain rfl := hv
       refine ⟨z_A, zo 16 rfl rfl (T1.storeN rfl rfl sz_32 (ones rfl) z_H zr zr ?_)⟩
       exact ⟨z_A, TD.done z_F ⟨(b7, b43), _, _, trivial, (.cons rfl .nil), (.cons rfl (.cons rfl (.cons rfl (.cons rfl .nil)))), z_B, rfl⟩⟩
     ·
      refine ⟨z_A, zo 12 rfl rfl (T1.callV has_34 rfl rfl (Of_any w0 [] (nmb sIndex [s.says + 1])) z_D (fun v_ hv => ?_))⟩
      obtain rfl := hv
      refine ⟨z_A, zo 13 rfl rfl (T1.buildTwo (cs := [.int .i64 1, .string (bstr (nmb sLink [w, s.epoch])), .slice none 0 0]) (ds := [.int .i64 1, .string (bstr (nmb sIndex [s.says + 1])), .slice none 0 0]) ty_24 sz_32 zr_32 ze rfl rfl zr zr (fun b43 => ?_))⟩
      refine ⟨z_A, zo 14 rfl rfl (T1.callV has_11 rfl rfl (one_any w0 _ _ _ _ _) z_D (fun v_ hv => ?_))⟩
      obtain rfl := hv
      refine ⟨z_A, zo 16 rfl rfl (T1.storeN rfl rfl sz_32 (ones rfl) z_H zr zr ?_)⟩
      exact ⟨z_A, TD.done z_F ⟨(b7, b43), _, _, trivial, (.cons rfl .nil), (.cons rfl (.cons rfl (.cons rfl (.cons rfl .nil)))), z_B, rfl⟩⟩
    ·
     refine ⟨z_A, zo 11 rfl rfl (T1.callV has_35 rfl rfl (number_any w0 [⟨b40, 0, [iV (s.says + 1)], 1⟩] sIndex ze (ns := [s.says + 1]) rfl (zf) (by simp) z_O) z_D (fun v_ hv => ?_))⟩
     obtain rfl := hv
     refine ⟨z_A, zo 12 rfl rfl (T1.callV has_34 rfl rfl (Of_any w0 [] (nmb sIndex [s.says + 1])) z_D (fun v_ hv => ?_))⟩
     obtain rfl := hv
     refine ⟨z_A, zo 13 rfl rfl (T1.buildTwo (cs := [.int .i64 1, .string (bstr (nmb sLink [w, s.epoch])), .slice none 0 0]) (ds := [.int .i64 1, .string (bstr (nmb sIndex [s.says + 1])), .slice none 0 0]) ty_24 sz_32 zr_32 ze rfl rfl zr zr (fun b43 => ?_))⟩
     refine ⟨z_A, zo 14 rfl rfl (T1.callV has_11 rfl rfl (one_any w0 _ _ _ _ _) z_D (fun v_ hv => ?_))⟩
     obtain rfl := hv
     refine ⟨z_A, zo 16 rfl rfl (T1.storeN rfl rfl sz_32 (ones rfl) z_H zr zr ?_)⟩
     exact ⟨z_A, TD.done z_F ⟨(b7, b43), _, _, trivial, (.cons rfl .nil), (.cons rfl (.cons rfl (.cons rfl (.cons rfl .nil)))), z_B, rfl⟩⟩
   ·
    refine ⟨z_A, zo 5 rfl rfl (T1.callV has_40 rfl rfl (link_any w0 (w) (s.epoch) hw99 zw) z_D (fun v_ hv => ?_))⟩
    obtain rfl := hv
    refine ⟨z_A, zo 11 rfl rfl (T1.callV has_35 rfl rfl (number_any w0 [⟨b40, 0, [iV (s.says + 1)], 1⟩] sIndex ze (ns := [s.says + 1]) rfl (zf) (by simp) z_O) z_D (fun v_ hv => ?_))⟩
    obtain rfl := hv
    refine ⟨z_A, zo 12 rfl rfl (T1.callV has_34 rfl rfl (Of_any w0 [] (nmb sIndex [s.says + 1])) z_D (fun v_ hv => ?_))⟩
    obtain rfl := hv
    refine ⟨z_A, zo 13 rfl rfl (T1.buildTwo (cs := [.int .i64 1, .string (bstr (nmb sLink [w, s.epoch])), .slice none 0 0]) (ds := [.int .i64 1, .string (bstr (nmb sIndex [s.says + 1])), .slice none 0 0]) ty_24 sz_32 zr_32 ze rfl rfl zr zr (fun b43 => ?_))⟩
    refine ⟨z_A, zo 14 rfl rfl (T1.callV has_11 rfl rfl (one_any w0 _ _ _ _ _) z_D (fun v_ hv => ?_))⟩
    obtain rfl := hv
    refine ⟨z_A, zo 16 rfl rfl (T1.storeN rfl rfl sz_32 (ones rfl) z_H zr zr ?_)⟩
    exact ⟨z_A, TD.done z_F ⟨(b7, b43), _, _, trivial, (.cons rfl .nil), (.cons rfl (.cons rfl (.cons rfl (.cons rfl .nil)))), z_B, rfl⟩⟩
  ·
   refine ⟨z_A, TK.two 5 10 z_F rfl rfl rfl rfl (T1.callV has_40 rfl rfl (link_any w0 (w) (s.epoch) hw99 zw) z_D (fun v_ hv => ?_)) (T1.buildSl1 (os := [.tmp 39]) ty_25 sz_3 zr_3 ze rfl (.cons (v := iV (s.says + 1)) rfl .nil) rfl (ones rfl) (fun b40 => ?_))⟩
   ·
    obtain rfl := hv
    refine ⟨z_A, zo 10 rfl rfl (T1.buildSl1 (os := [.tmp 39]) ty_25 sz_3 zr_3 ze rfl (.cons (v := iV (s.says + 1)) rfl .nil) rfl (ones rfl) (fun b40 => ?_))⟩
    refine ⟨z_A, zo 11 rfl rfl (T1.callV has_35 rfl rfl (number_any w0 [⟨b40, 0, [iV (s.says + 1)], 1⟩] sIndex ze (ns := [s.says + 1]) rfl (zf) (by simp) z_O) z_D (fun v_ hv => ?_))⟩
    obtain rfl := hv
    refine ⟨z_A, zo 12 rfl rfl (T1.callV has_34 rfl rfl (Of_any w0 [] (nmb sIndex [s.says + 1])) z_D (fun v_ hv => ?_))⟩
    obtain rfl := hv
    refine ⟨z_A, zo 13 rfl rfl (T1.buildTwo (cs := [.int .i64 1, .string (bstr (nmb sLink [w, s.epoch])), .slice none 0 0]) (ds := [.int .i64 1, .string (bstr (nmb sIndex [s.says + 1])), .slice none 0 0]) ty_24 sz_32 zr_32 ze rfl rfl zr zr (fun b43 => ?_))⟩
    refine ⟨z_A, zo 14 rfl rfl (T1.callV has_11 rfl rfl (one_any w0 _ _ _ _ _) z_D (fun v_ hv => ?_))⟩
    obtain rfl := hv
    refine ⟨z_A, zo 16 rfl rfl (T1.storeN rfl rfl sz_32 (ones rfl) z_H zr zr ?_)⟩
    exact ⟨z_A, TD.done z_F ⟨(b7, b43), _, _, trivial, (.cons rfl .nil), (.cons rfl (.cons rfl (.cons rfl (.cons rfl .nil)))), z_B, rfl⟩⟩
   ·
    refine ⟨z_A, zo 5 rfl rfl (T1.callV has_40 rfl rfl (link_any w0 (w) (s.epoch) hw99 zw) z_D (fun v_ hv => ?_))⟩
    obtain rfl := hv
    refine ⟨z_A, zo 11 rfl rfl (T1.callV has_35 rfl rfl (number_any w0 [⟨b40, 0, [iV (s.says + 1)], 1⟩] sIndex ze (ns := [s.says + 1]) rfl (zf) (by simp) z_O) z_D (fun v_ hv => ?_))⟩
    obtain rfl := hv
    refine ⟨z_A, zo 12 rfl rfl (T1.callV has_34 rfl rfl (Of_any w0 [] (nmb sIndex [s.says + 1])) z_D (fun v_ hv => ?_))⟩
    obtain rfl := hv
    refine ⟨z_A, zo 13 rfl rfl (T1.buildTwo (cs := [.int .i64 1, .string (bstr (nmb sLink [w, s.epoch])), .slice none 0 0]) (ds := [.int .i64 1, .string (bstr (nmb sIndex [s.says + 1])), .slice none 0 0]) ty_24 sz_32 zr_32 ze rfl rfl zr zr (fun b43 => ?_))⟩
    refine ⟨z_A, zo 14 rfl rfl (T1.callV has_11 rfl rfl (one_any w0 _ _ _ _ _) z_D (fun v_ hv => ?_))⟩
    obtain rfl := hv
    refine ⟨z_A, zo 16 rfl rfl (T1.storeN rfl rfl sz_32 (ones rfl) z_H zr zr ?_)⟩
    exact ⟨z_A, TD.done z_F ⟨(b7, b43), _, _, trivial, (.cons rfl .nil), (.cons rfl (.cons rfl (.cons rfl (.cons rfl .nil)))), z_B, rfl⟩⟩
 ·
  rintro ⟨b7, b43⟩ e_ L rfl
  have hP43 : TmR w0 ((⟨⟨b43, some 32⟩, 0, [.int .i64 1, .string (bstr (nmb sLink [w, s.epoch])), .slice none 0 0] ++ [.int .i64 1, .string (bstr (nmb sIndex [s.says + 1])), .slice none 0 0], 2 * 3⟩ : Blk) :: Ps) (postT w s.epoch (s.says + 1)) [.int .i64 4, .string (bstr sPost), .slice (some ⟨b43, 0, none⟩) 2 2] := TmR.mkN (nm := sPost) (n := 2) rfl (zf) ze (TmsR.cons TmR.atom (TmsR.one TmR.atom))
  dsimp only
  refine T.cut (σ := Value × List Blk × List Value × List Blk) (l0 := [(0, _), (1, _), (4, _), (6, _)]) (fun x => []) (fun x L => L = ⟨bt, 0, [.slice an s.names.length cn, iV (s.epoch), iV (s.says + 1), x.1, vb], 5⟩ :: (Ln ++ (Lb ++ (x.2.1 ++ (x.2.2.2 ++ ((⟨⟨b43, some 32⟩, 0, [.int .i64 1, .string (bstr (nmb sLink [w, s.epoch])), .slice none 0 0] ++ [.int .i64 1, .string (bstr (nmb sIndex [s.says + 1])), .slice none 0 0], 2 * 3⟩ : Blk) :: ⟨b6, 0, [.int .i64 1, .string (bstr (nmb sText [s.says + 1])), .slice none 0 0], 3⟩ :: ⟨b4, 0, [.int .i64 0, .int .i64 0, .slice none 0 0, .int .i64 0, .string ⟨#[]⟩, .slice none 0 0], 6⟩ :: G))))) ∧ SlG (some 32) x.1 x.2.2.1 3 x.2.1 ∧ TmsR w0 (x.2.2.2 ++ ((⟨⟨b43, some 32⟩, 0, [.int .i64 1, .string (bstr (nmb sLink [w, s.epoch])), .slice none 0 0] ++ [.int .i64 1, .string (bstr (nmb sIndex [s.says + 1])), .slice none 0 0], 2 * 3⟩ : Blk) :: Ps)) (s.known ++ [indexT (s.says + 1), msgT w s.epoch (s.says + 1)]) x.2.2.1) (.cons z_C (.cons z_C (.cons z_C (.cons z_C .nil)))) ?_ ?_
  ·
   refine T.drawM (FL [MV (.pointer (some ⟨bt, 0, none⟩)), MV (.pointer (some ⟨bt, 0, none⟩)), MV (.pointer (some ⟨bt, 0, none⟩)), MV (.pointer (some ⟨bt, 0 + 2, none⟩)), MV (iV (s.says + 1)), MRowI w0 ((⟨⟨b43, some 32⟩, 0, [.int .i64 1, .string (bstr (nmb sLink [w, s.epoch])), .slice none 0 0] ++ [.int .i64 1, .string (bstr (nmb sIndex [s.says + 1])), .slice none 0 0], 2 * 3⟩ : Blk) :: Ps) 1 ([iV (s.says + 1)]), MV (.string (bstr (nmb sIndex [s.says + 1]))), MV (.agg ([.int .i64 1, .string (bstr (nmb sIndex [s.says + 1])), .slice none 0 0]).toArray), MV (iV w), MV (.agg ([.int .i64 1, .string (bstr (nmb sOwn [w])), .slice none 0 0]).toArray), MV (.agg ([.int .i64 4, .string (bstr sPost), .slice (some ⟨b43, 0, none⟩) 2 2]).toArray), MV (.agg ([.int .i64 1, .string (bstr (nmb sText [s.says + 1])), .slice none 0 0]).toArray), MTms w0 ((⟨⟨b43, some 32⟩, 0, [.int .i64 1, .string (bstr (nmb sLink [w, s.epoch])), .slice none 0 0] ++ [.int .i64 1, .string (bstr (nmb sIndex [s.says + 1])), .slice none 0 0], 2 * 3⟩ : Blk) :: Ps) 2 ([postT w s.epoch (s.says + 1), textT (s.says + 1)]), MTm w0 ((⟨⟨b43, some 32⟩, 0, [.int .i64 1, .string (bstr (nmb sLink [w, s.epoch])), .slice none 0 0] ++ [.int .i64 1, .string (bstr (nmb sIndex [s.says + 1])), .slice none 0 0], 2 * 3⟩ : Blk) :: Ps) 3 [] 2 ([postT w s.epoch (s.says + 1), textT (s.says + 1)]), MTms w0 ((⟨⟨b43, some 32⟩, 0, [.int .i64 1, .string (bstr (nmb sLink [w, s.epoch])), .slice none 0 0] ++ [.int .i64 1, .string (bstr (nmb sIndex [s.says + 1])), .slice none 0 0], 2 * 3⟩ : Blk) :: Ps) 2 ([ownT w, sealT w s.epoch (s.says + 1)]), MTm w0 ((⟨⟨b43, some 32⟩, 0, [.int .i64 1, .string (bstr (nmb sLink [w, s.epoch])), .slice none 0 0] ++ [.int .i64 1, .string (bstr (nmb sIndex [s.says + 1])), .slice none 0 0], 2 * 3⟩ : Blk) :: Ps) 8 [] 2 ([ownT w, sealT w s.epoch (s.says + 1)]), MTms w0 ((⟨⟨b43, some 32⟩, 0, [.int .i64 1, .string (bstr (nmb sLink [w, s.epoch])), .slice none 0 0] ++ [.int .i64 1, .string (bstr (nmb sIndex [s.says + 1])), .slice none 0 0], 2 * 3⟩ : Blk) :: Ps) 2 ([indexT (s.says + 1), msgT w s.epoch (s.says + 1)]), MT]) 17 mixed z_F z_F (FMono.at (.cons MV.mono (.cons MV.mono (.cons MV.mono (.cons MV.mono (.cons MV.mono (.cons MRowI.mono (.cons MV.mono (.cons MV.mono (.cons MV.mono (.cons MV.mono (.cons MV.mono (.cons MV.mono (.cons MTms.mono (.cons MTm.mono (.cons MTms.mono (.cons MTm.mono (.cons MTms.mono (.cons MT.mono .nil))))))))))))))))))) ?_ ?_
   ·
    refine zm (zS 0 zE) (V1.move' z_C) ?_
    refine zm (zS 0 zE) (V1.move' z_C) ?_
    refine zm (zP 1 46 rfl zE) (V1.nilCheck rfl) ?_
    refine zm (zP 2 47 rfl zE) (V1.fieldAddr fl_62_2 rfl) ?_
    refine zm (zP 3 48 rfl zE) (V1.load1 (v := iV (s.says + 1)) one_3 rfl (.own z_A zr)) ?_
    refine zt (zP 4 49 rfl zE) (fun e_ Y_ => T1.buildSl1 (os := [.tmp 49]) ty_25 sz_3 zr_3 ze rfl (.cons (v := iV (s.says + 1)) rfl .nil) rfl (ones rfl) (fun b50 => ?_)) ?_
    ·
     exact ⟨_, [⟨b50, 0, [iV (s.says + 1)], 1⟩], rfl, rfl, ⟨_, _, rfl, zf⟩⟩
    refine MOps.cons (fun e_ Y_ hp_ hs_ => ?_) ?_
    ·
     obtain ⟨a50, c50, h50, f50⟩ := (show (MRowI w0 ((⟨⟨b43, some 32⟩, 0, [.int .i64 1, .string (bstr (nmb sLink [w, s.epoch])), .slice none 0 0] ++ [.int .i64 1, .string (bstr (nmb sIndex [s.says + 1])), .slice none 0 0], 2 * 3⟩ : Blk) :: Ps) 1 ([iV (s.says + 1)])) (e_ 50) Y_ from hp_ 5 50 zr zr)
     refine MOp.of (tr := [(50, _)]) (.cons h50 .nil) ?_
     refine T1.callV has_35 rfl rfl (number_any w0 (Y_ ++ ((⟨⟨b43, some 32⟩, 0, [.int .i64 1, .string (bstr (nmb sLink [w, s.epoch])), .slice none 0 0] ++ [.int .i64 1, .string (bstr (nmb sIndex [s.says + 1])), .slice none 0 0], 2 * 3⟩ : Blk) :: Ps)) sIndex ze (ns := [s.says + 1]) (k := 1) rfl f50 (by simp) z_O) z_D (fun v_ hv => ?_)
     obtain rfl := hv
     exact ⟨_, [], rfl, rfl, rfl⟩
    refine zt (zP 6 51 rfl zE) (fun _ _ => T1.callV has_34 rfl rfl (Of_any w0 [] (nmb sIndex [s.says + 1])) z_D (fun _ hv => ⟨_, [], rfl, rfl, hv⟩)) ?_
    refine zm (zS 1 zE) (V1.move' z_C) ?_
    refine zt (zP 8 53 rfl zE) (fun _ _ => T1.callV has_12 rfl rfl (own_any w0 w hw99) z_D (fun _ hv => ⟨_, [], rfl, rfl, hv⟩)) ?_
    refine zm (zS 7 zE) (V1.loadN (vs := [.int .i64 4, .string (bstr sPost), .slice (some ⟨b43, 0, none⟩) 2 2]) one_32 sz_32 rfl (RdN.whole z_A) rfl) ?_
    refine zm (zS 6 zE) (V1.loadN (vs := [.int .i64 1, .string (bstr (nmb sText [s.says + 1])), .slice none 0 0]) one_32 sz_32 rfl (RdN.whole z_A) rfl) ?_
    refine zt (zP 10 55 rfl (zP 11 56 rfl zE)) (fun e_ Y_ => T1.buildTwo (cs := [.int .i64 4, .string (bstr sPost), .slice (some ⟨b43, 0, none⟩) 2 2]) (ds := [.int .i64 1, .string (bstr (nmb sText [s.says + 1])), .slice none 0 0]) ty_24 sz_32 zr_32 ze rfl rfl zr zr (fun b57 => ?_)) ?_
    ·
     exact ⟨_, [(⟨⟨b57, some 32⟩, 0, [.int .i64 4, .string (bstr sPost), .slice (some ⟨b43, 0, none⟩) 2 2] ++ [.int .i64 1, .string (bstr (nmb sText [s.says + 1])), .slice none 0 0], 2 * 3⟩ : Blk)], rfl, rfl, ⟨_, _, _, rfl, zf, TmsR.cons (hP43.more (Inc.skip Inc.refl)) (TmsR.one TmR.atom)⟩⟩
    refine MOps.cons (fun e_ Y_ hp_ hs_ => ?_) ?_
    ·
     obtain ⟨a57, c57, vs57, h57, f57, g57⟩ := (show (MTms w0 ((⟨⟨b43, some 32⟩, 0, [.int .i64 1, .string (bstr (nmb sLink [w, s.epoch])), .slice none 0 0] ++ [.int .i64 1, .string (bstr (nmb sIndex [s.says + 1])), .slice none 0 0], 2 * 3⟩ : Blk) :: Ps) 2 ([postT w s.epoch (s.says + 1), textT (s.says + 1)])) (e_ 57) Y_ from hp_ 12 57 zr zr)
     refine MOp.of (tr := [(57, _)]) (.cons h57 .nil) ?_
     refine T1.callV has_11 rfl rfl (one_any w0 _ _ _ _ _) z_D (fun v_ hv => ?_)
     obtain rfl := hv
     exact ⟨_, [], rfl, rfl, ⟨_, _, rfl, TmR.mkN (n := 2) rfl f57 ze g57⟩⟩
    refine MOps.cons (fun e_ Y_ hp_ hs_ => ?_) ?_
    ·
     obtain ⟨a58, c58, h58, f58⟩ := (show (MTm w0 ((⟨⟨b43, some 32⟩, 0, [.int .i64 1, .string (bstr (nmb sLink [w, s.epoch])), .slice none 0 0] ++ [.int .i64 1, .string (bstr (nmb sIndex [s.says + 1])), .slice none 0 0], 2 * 3⟩ : Blk) :: Ps) 3 [] 2 ([postT w s.epoch (s.says + 1), textT (s.says + 1)])) (e_ 58) Y_ from hp_ 13 58 zr zr)
     refine MOp.of (tr := [(54, _), (58, _)]) (.cons (show MV (.agg ([.int .i64 1, .string (bstr (nmb sOwn [w])), .slice none 0 0]).toArray) (e_ 54) Y_ from hp_ 9 54 zr zr) (.cons h58 .nil)) ?_
     refine T1.buildTwo (cs := [.int .i64 1, .string (bstr (nmb sOwn [w])), .slice none 0 0]) (ds := [.int .i64 3, .string (bstr []), .slice a58 2 c58]) ty_24 sz_32 zr_32 ze rfl rfl zr zr (fun b59 => ?_)
     exact ⟨_, [⟨⟨b59, some 32⟩, 0, [.int .i64 1, .string (bstr (nmb sOwn [w])), .slice none 0 0] ++ [.int .i64 3, .string (bstr []), .slice a58 2 c58], 2 * 3⟩], rfl, rfl, ⟨_, _, _, rfl, zf, TmsR.cons TmR.atom (TmsR.one (f58.more mo_inc))⟩⟩
    refine MOps.cons (fun e_ Y_ hp_ hs_ => ?_) ?_
    ·
     obtain ⟨a59, c59, vs59, h59, f59, g59⟩ := (show (MTms w0 ((⟨⟨b43, some 32⟩, 0, [.int .i64 1, .string (bstr (nmb sLink [w, s.epoch])), .slice none 0 0] ++ [.int .i64 1, .string (bstr (nmb sIndex [s.says + 1])), .slice none 0 0], 2 * 3⟩ : Blk) :: Ps) 2 ([ownT w, sealT w s.epoch (s.says + 1)])) (e_ 59) Y_ from hp_ 14 59 zr zr)
     refine MOp.of (tr := [(59, _)]) (.cons h59 .nil) ?_
     refine T1.callV has_11 rfl rfl (one_any w0 _ _ _ _ _) z_D (fun v_ hv => ?_)
     obtain rfl := hv
     exact ⟨_, [], rfl, rfl, ⟨_, _, rfl, TmR.mkN (n := 2) rfl f59 ze g59⟩⟩
    refine MOps.cons (fun e_ Y_ hp_ hs_ => ?_) ?_
    ·
     obtain ⟨a60, c60, h60, f60⟩ := (show (MTm w0 ((⟨⟨b43, some 32⟩, 0, [.int .i64 1, .string (bstr (nmb sLink [w, s.epoch])), .slice none 0 0] ++ [.int .i64 1, .string (bstr (nmb sIndex [s.says + 1])), .slice none 0 0], 2 * 3⟩ : Blk) :: Ps) 8 [] 2 ([ownT w, sealT w s.epoch (s.says + 1)])) (e_ 60) Y_ from hp_ 15 60 zr zr)
     refine MOp.of (tr := [(52, _), (60, _)]) (.cons (show MV (.agg ([.int .i64 1, .string (bstr (nmb sIndex [s.says + 1])), .slice none 0 0]).toArray) (e_ 52) Y_ from hp_ 7 52 zr zr) (.cons h60 .nil)) ?_
     refine T1.buildTwo (cs := [.int .i64 1, .string (bstr (nmb sIndex [s.says + 1])), .slice none 0 0]) (ds := [.int .i64 8, .string (bstr []), .slice a60 2 c60]) ty_24 sz_32 zr_32 ze rfl rfl zr zr (fun b61 => ?_)
     exact ⟨_, [⟨⟨b61, some 32⟩, 0, [.int .i64 1, .string (bstr (nmb sIndex [s.says + 1])), .slice none 0 0] ++ [.int .i64 8, .string (bstr []), .slice a60 2 c60], 2 * 3⟩], rfl, rfl, ⟨_, _, _, rfl, zf, TmsR.cons TmR.atom (TmsR.one (f60.more mo_inc))⟩⟩
    refine MOps.last ?_
    exact MOps.nil
   ·
    intro e_ Y_ hp_ hs_
    obtain ⟨a61, c61, vs61, h61, f61, g61⟩ := (show (MTms w0 ((⟨⟨b43, some 32⟩, 0, [.int .i64 1, .string (bstr (nmb sLink [w, s.epoch])), .slice none 0 0] ++ [.int .i64 1, .string (bstr (nmb sIndex [s.says + 1])), .slice none 0 0], 2 * 3⟩ : Blk) :: Ps) 2 ([indexT (s.says + 1), msgT w s.epoch (s.says + 1)])) (e_ 61) Y_ from hp_ 16 61 ze zr)
    refine T1.known (tr := [(0, _), (1, _), (4, _), (6, _), (45, _), (61, _)]) (.cons ((hs_ 0 zr).trans z_C) (.cons ((hs_ 1 zr).trans z_C) (.cons ((hs_ 4 zr).trans z_C) (.cons ((hs_ 6 zr).trans z_C) (.cons (hp_ 0 45 ze zr) (.cons h61 .nil)))))) ?_
    refine T1.callM (X := ⟨bt, 0, [.slice an s.names.length cn, iV (s.epoch), iV (s.says + 1), vk, vb], 5⟩ :: (Ln ++ (Lb ++ Lk))) has_10 rfl rfl (hear_any w0 (Y_ ++ ((⟨⟨b43, some 32⟩, 0, [.int .i64 1, .string (bstr (nmb sLink [w, s.epoch])), .slice none 0 0] ++ [.int .i64 1, .string (bstr (nmb sIndex [s.says + 1])), .slice none 0 0], 2 * 3⟩ : Blk) :: Ps)) (s := { s with says := s.says + 1 }) (vn := .slice an s.names.length cn) (vb := vb) (Ln := Ln) (Lb := Lb) ⟨vk, Lk, xk, rfl, hsn, hsb, hsk, hxk.more (Inc.skip (Inc.skip1 Inc.refl))⟩ f61 g61 (by show s.known.length + 2 ≤ 2000; omega)) z_B z_D (fun v_ Yh hY => ?_)
    obtain ⟨vk2, Lk2, xk2, rfl, _, _, hsk2, hxk2⟩ := hY
    simp only [List.cons_append, List.append_assoc]
    try dsimp only
    exact ⟨(vk2, Lk2, xk2, Y_), _, _, trivial, .nil, (.cons rfl (.cons rfl (.cons rfl (.cons rfl .nil)))), z_B, ⟨rfl, hsk2, hxk2⟩⟩
  ·
   rintro ⟨vk2, Lk2, xk2, Z⟩ e_ L ⟨rfl, hsk2, hxk2⟩
   simp only at hsk2 hxk2
   try dsimp only
   refine T.seq (T.drawK (fun L_ => Find L_ (⟨bt, 0, [.slice an s.names.length cn, iV (s.epoch), iV (s.says + 1), vk2, vb], 5⟩ : Blk) ∧ Find L_ (⟨b6, 0, [.int .i64 1, .string (bstr (nmb sText [s.says + 1])), .slice none 0 0], 3⟩ : Blk)) mixed ⟨z_A, z_A⟩ ?_)
   refine zk 0 rfl (fun ⟨k1_, k2_⟩ => V1.move' z_C) ?_
   refine zk 1 rfl (fun ⟨k1_, k2_⟩ => V1.move' z_C) ?_
   refine zk 2 rfl (fun ⟨k1_, k2_⟩ => V1.nilCheck rfl) ?_
   refine zk 3 rfl (fun ⟨k1_, k2_⟩ => V1.fieldAddr fl_62_1 rfl) ?_
   refine zk 4 rfl (fun ⟨k1_, k2_⟩ => V1.load1 (v := iV (s.epoch)) one_3 rfl (.own z_A zr)) ?_
   refine zk 5 rfl (fun ⟨k1_, k2_⟩ => V1.move' z_C) ?_
   refine zk 6 rfl (fun ⟨k1_, k2_⟩ => V1.nilCheck rfl) ?_
   refine zk 7 rfl (fun ⟨k1_, k2_⟩ => V1.fieldAddr fl_62_0 rfl) ?_
   refine zk 8 rfl (fun ⟨k1_, k2_⟩ => V1.load1 (v := .slice an s.names.length cn) one_25 rfl (.own z_A zr)) ?_
   refine zk 10 rfl (fun ⟨k1_, k2_⟩ => V1.loadN one_32 sz_32 rfl (RdN.whole z_A) zr) ?_
   refine zo 9 rfl rfl (T1.callC has_42 rfl rfl (CloneI_any w0 Ln hrn (List.length_pos_of_mem hw) zw) z_D (fun v_ Lc hY => ?_))
   have hrc := RowR.ofSl (w0 := w0) hY Inc.refl ze s.names.length (by simp)
   obtain ⟨ac, cc, rfl⟩ := hrc.form
   refine ⟨⟨z_A, z_A⟩, zk 11 rfl (fun ⟨k1_, k2_⟩ => V1.buildF pl_34 zr_34 (.one rfl z_C rfl (.one rfl z_C rfl (.one rfl z_C rfl (.many rfl z_C rfl .nil)))) z_I) ?_⟩
   refine zo 12 rfl rfl (T1.storeN rfl rfl sz_34 (ones rfl) z_H zr zr ?_)
   refine ⟨⟨z_A, z_A⟩, zk 13 rfl (fun ⟨k1_, k2_⟩ => V1.assign' z_C) ?_⟩
   refine TD.done z_F ?_
   refine T.ret ?_
   exact ⟨_, ⟨bt, 0, [.slice an s.names.length cn, iV (s.epoch), iV (s.says + 1), vk2, vb], 5⟩ :: (Ln ++ (Lb ++ (Lk2 ++ (Lc ++ (Z ++ ((⟨⟨b43, some 32⟩, 0, [.int .i64 1, .string (bstr (nmb sLink [w, s.epoch])), .slice none 0 0] ++ [.int .i64 1, .string (bstr (nmb sIndex [s.says + 1])), .slice none 0 0], 2 * 3⟩ : Blk) :: G)))))), _, .cons (.cellN z_C one_34 sz_34 (RdN.whole z_A) zr) (.cons (.tmp z_C) .nil), z_B, (⟨bt, 0, [.slice an s.names.length cn, iV (s.epoch), iV (s.says + 1), vk2, vb], 5⟩ :: (Ln ++ (Lb ++ Lk2))) ++ (Lc ++ (Z ++ [(⟨⟨b43, some 32⟩, 0, [.int .i64 1, .string (bstr (nmb sLink [w, s.epoch])), .slice none 0 0] ++ [.int .i64 1, .string (bstr (nmb sIndex [s.says + 1])), .slice none 0 0], 2 * 3⟩ : Blk)])), by simp only [List.cons_append, List.append_assoc, List.nil_append], _, (Lc ++ (Z ++ [(⟨⟨b43, some 32⟩, 0, [.int .i64 1, .string (bstr (nmb sLink [w, s.epoch])), .slice none 0 0] ++ [.int .i64 1, .string (bstr (nmb sIndex [s.says + 1])), .slice none 0 0], 2 * 3⟩ : Blk)])), _, rfl, rfl, ⟨vk2, Lk2, xk2, rfl, hsn, hsb, hsk2, hxk2.more (by simp only [List.append_assoc, List.cons_append, List.nil_append]; exact Inc.skip Inc.refl)⟩, ac, cc, rfl, hrc.more (by simp only [List.append_assoc]; exact Inc.here)⟩
end Go.Proofs.YtfjedhmffccgnaaGreatDoor.S
namespace Go.Proofs.YtfjedhmffccgnaaGreatDoor.S
open Go.RowKit
theorem lay_bare {s : Sg} {w : Nat} : (s.lay w).bare = if w ∈ s.bare then s.bare else s.bare ++ [w] := rfl
theorem lay_in {s : Sg} {w : Nat} (h : w ∈ s.names) : (s.lay w).known = s.known ++ [ownT w] ++ [linkT w s.epoch] := by show s.known ++ (ownT w :: if w ∈ s.names then [linkT w s.epoch] else []) = _; rw [if_pos h]; simp
theorem lay_out {s : Sg} {w : Nat} (h : w ∉ s.names) : (s.lay w).known = s.known ++ [ownT w] := by show s.known ++ (ownT w :: if w ∈ s.names then [linkT w s.epoch] else []) = _; rw [if_neg h]
set_option maxRecDepth 100000 in
set_option maxHeartbeats 8000000 in
theorem lay_any (w0 : World) (Ps : List Blk) {bt : Nat} {vn vb : Value} {Ln Lb Y : List Blk} {s : Sg} (ht0 : TaleP w0 Ps bt vn Ln vb Lb s Y) (hn6 : s.names.length ≤ 6) (hb6 : s.bare.length ≤ 6) {w : Nat} (hw99 : w < 100) (hep : s.epoch < 98) (hl : s.known.length ≤ 1900) : FnG P 19 [.pointer (some ⟨bt, 0, none⟩), iV w] w0 Ps Y (fun v Y2 => ∃ Y' Q vb2 Lb2, Y2 = Y' ++ Q ∧ TaleP w0 (Q ++ Ps) bt vn Ln vb2 Lb2 (s.lay w) Y') := by
 obtain ⟨vk, Lk, xk, rfl, hsn, hsb, hsk, hxk⟩ := ht0
 have hrn := Sl.nat (w0 := w0) hsn
 have hrb := Sl.nat (w0 := w0) hsb
 obtain ⟨an, cn, rfl⟩ := hrn.form
 obtain ⟨ab, cb, rfl⟩ := hrb.form
 refine FnG.of 41 [] Go.Proofs.Tryz.func19 rfl rfl rfl rfl (fun G hG => ?_)
 simp only [List.cons_append, List.append_assoc]
 refine T.cut (σ := Value × List Blk) (l0 := [(0, _), (1, _)]) (fun x => []) (fun x L => L = (⟨bt, 0, [.slice an s.names.length cn, iV (s.epoch), iV (s.says), vk, x.1], 5⟩ : Blk) :: (Ln ++ (x.2 ++ (Lk ++ G))) ∧ Sl x.1 ((s.lay w).bare.map iV) 1 x.2) (.cons z_C (.cons z_C .nil)) ?_ ?_
 ·
  refine zs ?_
  refine z0 (V1.nilCheck rfl) ?_
  refine z0 (V1.fieldAddr fl_62_4 rfl) ?_
  refine zq (V1.load1 (v := .slice ab s.bare.length cb) one_25 rfl (.own z_A zr)) ?_
  refine zc (T1.callV has_13 rfl rfl (Contains_any w0 Lb hrb zw (w : Int)) z_D (fun v_ hv => ?_))
  obtain rfl := hv
  rcases Classical.em (w ∈ s.bare) with hb | hb
  ·
   rw [inI_t hb]
   refine z0 (V1.not rfl rfl) ?_
   refine TL.nil ?_
   refine T.cond_f rfl (T.skip ?_)
   exact ⟨(.slice ab s.bare.length cb, Lb), _, _, trivial, .nil, (.cons rfl (.cons rfl .nil)), z_B, ⟨rfl, by rw [lay_bare, if_pos hb]; exact hsb⟩⟩
  ·
   rw [inI_f hb]
   refine z0 (V1.not rfl rfl) ?_
   refine TL.nil ?_
   refine T.cond_t rfl (zs ?_)
   refine z0 (V1.nilCheck rfl) ?_
   refine z0 (V1.fieldAddr fl_62_4 rfl) ?_
   refine zq (V1.load1 (v := .slice ab s.bare.length cb) one_25 rfl (.own z_A zr)) ?_
   refine zc (T1.buildSl1 (os := [.tmp 16]) ty_25 sz_3 zr_3 ze rfl (.cons (v := iV w) rfl .nil) rfl (ones rfl) (fun b17 => ?_))
   refine zc (T1.append ty_25 kd_25 sz_3 by_3 zr_3 rfl ze ze rfl rfl hsb (.sl (vs := [iV w]) (RdN.at0 z_A) zr) (ones rfl) 1000 (by rw [List.length_map]; show _ + 1 ≤ _; omega) ze z_E (fun s2 Lb2 hsb2 => ?_))
   refine z0 (V1.nilCheck rfl) ?_
   refine z0 (V1.fieldAddr fl_62_4 rfl) ?_
   refine zc (T1.store1 rfl rfl sz_25 hsb2.one z_H (Nat.zero_le _) z_K ?_)
   refine TL.nil ?_
   exact ⟨(s2, Lb2), _, _, trivial, .nil, (.cons rfl (.cons rfl .nil)), z_B, ⟨rfl, by rw [lay_bare, if_neg hb, List.map_append]; exact hsb2⟩⟩
 ·
  rintro ⟨vb2, Lb2⟩ e_ L ⟨rfl, hsb2⟩
  simp only at hsb2
  dsimp only
  refine zs ?_
  refine zc (T1.callV has_12 rfl rfl (own_any w0 w hw99) z_D (fun v_ hv => ?_))
  obtain rfl := hv
  refine zc (T1.buildOne (cs := [.int .i64 1, .string (bstr (nmb sOwn [w])), .slice none 0 0]) ty_24 sz_32 zr_32 ze rfl zr (fun b24 => ?_))
  refine zc (T1.callM (X := ⟨bt, 0, [.slice an s.names.length cn, iV (s.epoch), iV (s.says), vk, vb2], 5⟩ :: (Ln ++ (Lb2 ++ Lk))) has_10 rfl rfl (hear_any w0 ((⟨⟨b24, some 32⟩, 0, [.int .i64 1, .string (bstr (nmb sOwn [w])), .slice none 0 0], 3⟩ : Blk) :: Ps) (s := { s with bare := (s.lay w).bare }) (vn := .slice an s.names.length cn) (vb := vb2) (Ln := Ln) (Lb := Lb2) ⟨vk, Lk, xk, rfl, hsn, hsb2, hsk, hxk.more (Inc.skip1 Inc.refl)⟩ (us := [ownT w]) (zf) (TmsR.one TmR.atom) (by show s.known.length + 1 ≤ 2000; omega)) z_B z_D (fun v_ Yh hY => ?_))
  obtain ⟨vk2, Lk2, xk2, rfl, _, _, hsk2, hxk2⟩ := hY
  simp only [List.cons_append, List.append_assoc]
  try dsimp only
  refine zs ?_
  refine z0 (V1.nilCheck rfl) ?_
  refine z0 (V1.fieldAddr fl_62_0 rfl) ?_
  refine zq (V1.load1 (v := .slice an s.names.length cn) one_25 rfl (.own z_A zr)) ?_
  refine zc (T1.callV has_13 rfl rfl (Contains_any w0 Ln hrn zw (w : Int)) z_D (fun v_ hv => ?_))
  obtain rfl := hv
  rcases Classical.em (w ∈ s.names) with hn | hn
  ·
   rw [inI_t hn]
   refine TL.nil ?_
   refine T.cond_t rfl (zs ?_)
   refine z0 (V1.nilCheck rfl) ?_
   refine z0 (V1.fieldAddr fl_62_1 rfl) ?_
   refine z0 (V1.load1 (v := iV s.epoch) one_3 rfl (.own z_A zr)) ?_
   refine zc (T1.callV has_40 rfl rfl (link_any w0 (w) (s.epoch) hw99 zw) z_D (fun v_ hv => ?_))
   obtain rfl := hv
   refine zc (T1.buildOne (cs := [.int .i64 1, .string (bstr (nmb sLink [w, s.epoch])), .slice none 0 0]) ty_24 sz_32 zr_32 ze rfl zr (fun b39 => ?_))
   refine zc (T1.callM (X := ⟨bt, 0, [.slice an s.names.length cn, iV (s.epoch), iV (s.says), vk2, vb2], 5⟩ :: (Ln ++ (Lb2 ++ Lk2))) has_10 rfl rfl (hear_any w0 ((⟨⟨b39, some 32⟩, 0, [.int .i64 1, .string (bstr (nmb sLink [w, s.epoch])), .slice none 0 0], 3⟩ : Blk) :: (⟨⟨b24, some 32⟩, 0, [.int .i64 1, .string (bstr (nmb sOwn [w])), .slice none 0 0], 3⟩ : Blk) :: Ps) (s := { s with bare := (s.lay w).bare, known := s.known ++ [ownT w] }) (vn := .slice an s.names.length cn) (vb := vb2) (Ln := Ln) (Lb := Lb2) ⟨vk2, Lk2, xk2, rfl, hsn, hsb2, hsk2, hxk2.more (Inc.skip1 Inc.refl)⟩ (us := [linkT w s.epoch]) (zf) (TmsR.one TmR.atom) (by show (s.known ++ [ownT w]).length + 1 ≤ 2000; rw [List.length_append, List.length_singleton]; omega)) z_B z_D (fun v_ Yh hY => ?_))
   obtain ⟨vk3, Lk3, xk3, rfl, _, _, hsk3, hxk3⟩ := hY
   simp only [List.cons_append, List.append_assoc]
   try dsimp only
   refine TL.nil ?_
   exact ⟨_, ⟨bt, 0, [.slice an s.names.length cn, iV (s.epoch), iV (s.says), vk3, vb2], 5⟩ :: (Ln ++ (Lb2 ++ (Lk3 ++ ((⟨⟨b39, some 32⟩, 0, [.int .i64 1, .string (bstr (nmb sLink [w, s.epoch])), .slice none 0 0], 3⟩ : Blk) :: (⟨⟨b24, some 32⟩, 0, [.int .i64 1, .string (bstr (nmb sOwn [w])), .slice none 0 0], 3⟩ : Blk) :: G)))), _, .nil, z_B, (⟨bt, 0, [.slice an s.names.length cn, iV (s.epoch), iV (s.says), vk3, vb2], 5⟩ :: (Ln ++ (Lb2 ++ Lk3))) ++ [(⟨⟨b39, some 32⟩, 0, [.int .i64 1, .string (bstr (nmb sLink [w, s.epoch])), .slice none 0 0], 3⟩ : Blk), (⟨⟨b24, some 32⟩, 0, [.int .i64 1, .string (bstr (nmb sOwn [w])), .slice none 0 0], 3⟩ : Blk)], by simp only [List.cons_append, List.append_assoc, List.nil_append], _, [(⟨⟨b39, some 32⟩, 0, [.int .i64 1, .string (bstr (nmb sLink [w, s.epoch])), .slice none 0 0], 3⟩ : Blk), (⟨⟨b24, some 32⟩, 0, [.int .i64 1, .string (bstr (nmb sOwn [w])), .slice none 0 0], 3⟩ : Blk)], vb2, Lb2, rfl, vk3, Lk3, xk3, rfl, hsn, hsb2, hsk3, by rw [lay_in hn]; exact hxk3⟩
  ·
   rw [inI_f hn]
   refine TL.nil ?_
   refine T.cond_f rfl (T.skip ?_)
   exact ⟨_, ⟨bt, 0, [.slice an s.names.length cn, iV (s.epoch), iV (s.says), vk2, vb2], 5⟩ :: (Ln ++ (Lb2 ++ (Lk2 ++ ((⟨⟨b24, some 32⟩, 0, [.int .i64 1, .string (bstr (nmb sOwn [w])), .slice none 0 0], 3⟩ : Blk) :: G)))), _, .nil, z_B, (⟨bt, 0, [.slice an s.names.length cn, iV (s.epoch), iV (s.says), vk2, vb2], 5⟩ :: (Ln ++ (Lb2 ++ Lk2))) ++ [(⟨⟨b24, some 32⟩, 0, [.int .i64 1, .string (bstr (nmb sOwn [w])), .slice none 0 0], 3⟩ : Blk)], by simp only [List.cons_append, List.append_assoc, List.nil_append], _, [(⟨⟨b24, some 32⟩, 0, [.int .i64 1, .string (bstr (nmb sOwn [w])), .slice none 0 0], 3⟩ : Blk)], vb2, Lb2, rfl, vk2, Lk2, xk2, rfl, hsn, hsb2, hsk2, by rw [lay_out hn]; exact hxk2⟩
end Go.Proofs.YtfjedhmffccgnaaGreatDoor.S
