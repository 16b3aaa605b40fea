/- A tale: somebody says something; somebody is laid bare. -/
import Derived.Test.YtlpkcbkflfbclaaGreatDoorG4
namespace Go.Proofs.YtlpkcbkflfbclaaGreatDoor.S
open Go.RowKit

theorem inI_nat (ns : List Nat) (w : Nat) : inI ns (w : Int) = decide (w ∈ ns) := by
  unfold inI
  exact decide_eq_decide.2 ⟨fun ⟨n, hn, e⟩ => by rw [show w = n by omega]; exact hn, fun h => ⟨w, h, rfl⟩⟩
theorem inI_t {ns : List Nat} {w : Nat} (h : w ∈ ns) : inI ns (w : Int) = true := by rw [inI_nat]; exact decide_eq_true h
theorem inI_f {ns : List Nat} {w : Nat} (h : w ∉ ns) : inI ns (w : Int) = false := by rw [inI_nat]; exact decide_eq_false h
/-- Something told, in cells. -/
def TdR (w0 : World) (Ps : List Blk) (t : Td) (cs : List Value) : Prop := ∃ a c, cs = [iV t.who, iV t.epoch, .slice a t.names.length c, .int .i64 1, .string (bstr (nmb sText [t.num])), .slice none 0 0] ∧ RowR w0 Ps 1 (.slice a t.names.length c) t.names.length (t.names.map iV)
theorem TdR.more {w0 : World} {Ps Qs : List Blk} {t : Td} {cs : List Value} (h : TdR w0 Ps t cs) (hi : Inc Ps Qs) : TdR w0 Qs t cs := by
  obtain ⟨a, c, h1, h2⟩ := h; exact ⟨a, c, h1, h2.more hi⟩
theorem TdR.len {w0 : World} {Ps : List Blk} {t : Td} {cs : List Value} (h : TdR w0 Ps t cs) : cs.length = 6 ∧ ∀ u ∈ cs, one u = true := by
  obtain ⟨a, c, rfl, _⟩ := h
  exact ⟨rfl, by intro u hu; simp only [List.mem_cons, List.not_mem_nil, or_false] at hu; rcases hu with rfl | rfl | rfl | rfl | rfl | rfl <;> rfl⟩

/-- A term, among new blocks. -/
def MTm (w0 : World) (Ps : List Blk) (k : Int) (nm : List UInt8) (n : Nat) (ts : List Tm) : Value → List Blk → Prop := fun v Y => ∃ a c, v = .agg [.int .i64 k, .string (bstr nm), .slice a n c].toArray ∧ TmR w0 (Y ++ Ps) (.mk k nm ts) [.int .i64 k, .string (bstr nm), .slice a n c]
theorem mo_inc {Y Z Ps : List Blk} : Inc (Y ++ Ps) (Z ++ Y ++ Ps) := Inc.app (Inc.left (Inc.skip Inc.refl)) (Inc.skip Inc.refl)
theorem MTm.mono {w0 : World} {Ps : List Blk} {k : Int} {nm : List UInt8} {n : Nat} {ts : List Tm} (v : Value) (Y Z : List Blk) (h : MTm w0 Ps k nm n ts v Y) : MTm w0 Ps k nm n ts v (Z ++ Y) := by
  obtain ⟨a, c, h1, h2⟩ := h; exact ⟨a, c, h1, h2.more mo_inc⟩
/-- A slice of terms. -/
def MTms (w0 : World) (Ps : List Blk) (n : Nat) (ts : List Tm) : Value → List Blk → Prop := fun v Y => ∃ a c vs, v = .slice a n c ∧ RowR w0 (Y ++ Ps) 3 (.slice a n c) n vs ∧ TmsR w0 (Y ++ Ps) ts vs
theorem MTms.mono {w0 : World} {Ps : List Blk} {n : Nat} {ts : List Tm} (v : Value) (Y Z : List Blk) (h : MTms w0 Ps n ts v Y) : MTms w0 Ps n ts v (Z ++ Y) := by
  obtain ⟨a, c, vs, h1, h2, h3⟩ := h; exact ⟨a, c, vs, h1, h2.more mo_inc, h3.more mo_inc⟩
/-- A slice of numbers. -/
def MRowI (w0 : World) (Ps : List Blk) (n : Nat) (vs : List Value) : Value → List Blk → Prop := fun v Y => ∃ a c, v = .slice a n c ∧ RowR w0 (Y ++ Ps) 1 (.slice a n c) n vs
theorem MRowI.mono {w0 : World} {Ps : List Blk} {n : Nat} {vs : List Value} (v : Value) (Y Z : List Blk) (h : MRowI w0 Ps n vs v Y) : MRowI w0 Ps n vs v (Z ++ Y) := by
  obtain ⟨a, c, h1, h2⟩ := h; exact ⟨a, c, h1, h2.more mo_inc⟩

set_option maxRecDepth 100000 in
set_option maxHeartbeats 8000000 in
theorem say_any (w0 : World) (Ps : List Blk) {bt : Nat} {vn vb : Value} {Ln Lb Y : List Blk} {s : Sg} (ht0 : TaleP w0 Ps bt vn Ln vb Lb s Y) (hn6 : s.names.length ≤ 6) {w : Nat} (hw : w ∈ s.names) (hw99 : w < 100) (hep : s.epoch < 98) (hsa : s.says < 98) (hl : s.known.length ≤ 1900) : FnG P 51 [.pointer (some ⟨bt, 0, none⟩), iV w] w0 Ps Y (fun v Y2 => ∃ Y' Q cs, Y2 = Y' ++ Q ∧ v = .tuple #[.agg cs.toArray, .int .i64 0] ∧ TaleP w0 (Q ++ Ps) bt vn Ln vb Lb (s.say w) Y' ∧ TdR w0 (Q ++ Ps) ⟨w, s.epoch, s.names, s.says + 1⟩ cs) := by
  obtain ⟨vk, Lk, xk, rfl, hsn, hsb, hsk, hxk⟩ := ht0
  have hrn := Sl.nat (w0 := w0) hsn
  obtain ⟨an, cn, rfl⟩ := hrn.form
  refine FnG.of 75 [.cell 4 55, .tmp 5] Go.Proofs.Tryz.func51 rfl rfl rfl rfl (fun G hG => ?_)
  simp only [List.cons_append, List.append_assoc]
  refine T.seq ?_
  refine T.region ?_
  refine TL.cons rfl (T1.allocN 6 zr_55 rfl (fun b4 => ?_))
  refine TL.cons rfl (V1.t (V1.assign' z_C) ?_)
  refine TL.nil ?_
  refine T.seq ?_
  refine T.seq ?_
  refine T.region ?_
  refine TL.cons rfl (V1.t (V1.move' z_C) ?_)
  refine TL.cons rfl (V1.t (V1.nilCheck rfl) ?_)
  refine TL.cons rfl (V1.t (V1.fieldAddr fl_89_0 rfl) ?_)
  refine TL.cons rfl (V1.t (V1.load1 (v := .slice an s.names.length cn) one_44 rfl (.own z_D (by rfl))) ?_)
  refine TL.cons rfl (V1.t (V1.move' z_C) ?_)
  refine TL.cons rfl (T1.callV has_46 rfl rfl (Contains_any w0 Ln hrn (by omega) (w : Int)) z_B (fun v_ hv => ?_))
  obtain rfl := hv
  rw [inI_t hw]
  refine TL.cons rfl (V1.t (V1.not rfl rfl) ?_)
  refine TL.nil ?_
  refine T.cond_f rfl ?_
  refine T.skip ?_
  refine T.seq ?_
  refine T.region ?_
  refine TL.cons rfl (V1.t (V1.move' z_C) ?_)
  refine TL.cons rfl (V1.t (V1.nilCheck rfl) ?_)
  refine TL.cons rfl (V1.t (V1.fieldAddr fl_89_2 rfl) ?_)
  refine TL.cons rfl (V1.t (V1.load1 (v := iV (s.says)) one_3 rfl (.own z_D (by rfl))) ?_)
  refine TL.cons rfl (V1.t (V1.add (c := ((s.says + 1 : Nat) : Int)) rfl rfl (by rw [wrap_i64 _ (by omega) (by omega)]; omega)) ?_)
  refine TL.cons rfl (V1.t (V1.nilCheck rfl) ?_)
  refine TL.cons rfl (V1.t (V1.fieldAddr fl_89_2 rfl) ?_)
  refine TL.cons rfl (T1.store1 rfl rfl sz_3 rfl z_G (Nat.zero_le _) (by repeat (first | exact SetAt.here | apply SetAt.there)) ?_)
  refine TL.nil ?_
  refine T.seq ?_
  refine T.live (l := [(0, _), (1, _), (4, _)]) (.cons z_C (.cons z_C (.cons z_C .nil))) (fun e_ => ?_)
  refine T.region ?_
  refine TL.cons rfl (V1.t (V1.move' z_C) ?_)
  refine TL.cons rfl (V1.t (V1.nilCheck rfl) ?_)
  refine TL.cons rfl (V1.t (V1.fieldAddr fl_89_2 rfl) ?_)
  refine TL.cons rfl (V1.t (V1.load1 (v := iV (s.says + 1)) one_3 rfl (.own z_D (by rfl))) ?_)
  refine TL.cons rfl (T1.buildSl1 (os := [.tmp 26]) ty_44 sz_3 zr_3 (by decide) rfl (.cons (v := iV (s.says + 1)) rfl .nil) rfl (ones rfl) (fun b27 => ?_))
  refine TL.cons rfl (T1.callV has_79 rfl rfl (number_any w0 [⟨b27, 0, [iV (s.says + 1)], 1⟩] sText (by decide) (ns := [s.says + 1]) rfl (RowR.own (List.mem_cons_self ..) rfl) (by simp) (by intro x_ hx_; simp only [List.mem_cons, List.not_mem_nil, or_false] at hx_; omega)) z_B (fun v_ hv => ?_))
  obtain rfl := hv
  refine TL.cons rfl (T1.callV has_32 rfl rfl (Of_any w0 [] (nmb sText [s.says + 1])) z_B (fun v_ hv => ?_))
  obtain rfl := hv
  refine TL.cons rfl (T1.allocN 3 zr_24 rfl (fun b6 => ?_))
  refine TL.cons rfl (T1.storeN rfl rfl sz_24 (ones rfl) z_G (by rfl) (by rfl) ?_)
  refine TL.nil ?_
  refine T.cut (σ := Nat × Nat) (l0 := [(0, _), (1, _), (4, _), (6, _)]) (fun x => [(7, .pointer (some ⟨x.1, 0, none⟩))]) (fun x L => L = ⟨x.1, 0, [.int .i64 4, .string (bstr sPost), .slice (some ⟨x.2, 0, none⟩) 2 2], 3⟩ :: (⟨⟨x.2, some 24⟩, 0, [.int .i64 1, .string (bstr (nmb sLink [w, s.epoch])), .slice none 0 0] ++ [.int .i64 1, .string (bstr (nmb sIndex [s.says + 1])), .slice none 0 0], 2 * 3⟩ : Blk) :: ⟨b6, 0, [.int .i64 1, .string (bstr (nmb sText [s.says + 1])), .slice none 0 0], 3⟩ :: ⟨b4, 0, [.int .i64 0, .int .i64 0, .slice none 0 0, .int .i64 0, .string ⟨#[]⟩, .slice none 0 0], 6⟩ :: (⟨bt, 0, [.slice an s.names.length cn, iV (s.epoch), iV (s.says + 1), vk, vb], 5⟩ :: (Ln ++ (Lb ++ (Lk ++ G))))) (.cons z_C (.cons z_C (.cons z_C (.cons z_C .nil)))) ?_ ?_
  ·
    refine T.drawK (fun L_ => Find L_ (⟨bt, 0, [.slice an s.names.length cn, iV (s.epoch), iV (s.says + 1), vk, vb], 5⟩ : Blk)) mixed z_D ?_
    refine TK.take 0 rfl (by decide +kernel) (by decide +kernel) (by decide +kernel) rfl (fun _ _ _ h => h) (fun L_ k1_ => V1.move' z_C) ?_
    refine TK.take 1 rfl (by decide +kernel) (by decide +kernel) (by decide +kernel) rfl (fun _ _ _ h => h) (fun L_ k1_ => V1.move' z_C) ?_
    refine TK.take 2 rfl (by decide +kernel) (by decide +kernel) (by decide +kernel) rfl (fun _ _ _ h => h) (fun L_ k1_ => V1.nilCheck rfl) ?_
    refine TK.take 3 rfl (by decide +kernel) (by decide +kernel) (by decide +kernel) rfl (fun _ _ _ h => h) (fun L_ k1_ => V1.fieldAddr fl_89_1 rfl) ?_
    refine TK.take 4 rfl (by decide +kernel) (by decide +kernel) (by decide +kernel) rfl (fun _ _ _ h => h) (fun L_ k1_ => V1.load1 (v := iV (s.epoch)) one_3 rfl (.own z_D (by rfl))) ?_
    refine TK.take 6 rfl (by decide +kernel) (by decide +kernel) (by decide +kernel) rfl (fun _ _ _ h => h) (fun L_ k1_ => V1.move' z_C) ?_
    refine TK.take 7 rfl (by decide +kernel) (by decide +kernel) (by decide +kernel) rfl (fun _ _ _ h => h) (fun L_ k1_ => V1.nilCheck rfl) ?_
    refine TK.take 8 rfl (by decide +kernel) (by decide +kernel) (by decide +kernel) rfl (fun _ _ _ h => h) (fun L_ k1_ => V1.fieldAddr fl_89_2 rfl) ?_
    refine TK.take 9 rfl (by decide +kernel) (by decide +kernel) (by decide +kernel) rfl (fun _ _ _ h => h) (fun L_ k1_ => V1.load1 (v := iV (s.says + 1)) one_3 rfl (.own z_D (by rfl))) ?_
    refine TK.three 5 10 15 (by decide +kernel) rfl rfl rfl rfl rfl rfl (T1.callV has_83 rfl rfl (link_any w0 (w) (s.epoch) hw99 (by omega)) z_B (fun v_ hv => ?_)) (T1.buildSl1 (os := [.tmp 39]) ty_44 sz_3 zr_3 (by decide) rfl (.cons (v := iV (s.says + 1)) rfl .nil) rfl (ones rfl) (fun b40 => ?_)) (T1.allocN 3 zr_24 rfl (fun b7 => ?_))
    ·
      obtain rfl := hv
      refine ⟨z_D, ?_⟩
      refine TK.two 10 15 (by decide +kernel) rfl rfl rfl rfl (T1.buildSl1 (os := [.tmp 39]) ty_44 sz_3 zr_3 (by decide) rfl (.cons (v := iV (s.says + 1)) rfl .nil) rfl (ones rfl) (fun b40 => ?_)) (T1.allocN 3 zr_24 rfl (fun b7 => ?_))
      ·
        refine ⟨z_D, ?_⟩
        refine TK.two 11 15 (by decide +kernel) rfl rfl rfl rfl (T1.callV has_79 rfl rfl (number_any w0 [⟨b40, 0, [iV (s.says + 1)], 1⟩] sIndex (by decide) (ns := [s.says + 1]) rfl (RowR.own (List.mem_cons_self ..) rfl) (by simp) (by intro x_ hx_; simp only [List.mem_cons, List.not_mem_nil, or_false] at hx_; omega)) z_B (fun v_ hv => ?_)) (T1.allocN 3 zr_24 rfl (fun b7 => ?_))
        ·
          obtain rfl := hv
          refine ⟨z_D, ?_⟩
          refine TK.two 12 15 (by decide +kernel) rfl rfl rfl rfl (T1.callV has_32 rfl rfl (Of_any w0 [] (nmb sIndex [s.says + 1])) z_B (fun v_ hv => ?_)) (T1.allocN 3 zr_24 rfl (fun b7 => ?_))
          ·
            obtain rfl := hv
            refine ⟨z_D, ?_⟩
            refine TK.two 13 15 (by decide +kernel) rfl rfl rfl rfl (T1.buildTwo (cs := [.int .i64 1, .string (bstr (nmb sLink [w, s.epoch])), .slice none 0 0]) (ds := [.int .i64 1, .string (bstr (nmb sIndex [s.says + 1])), .slice none 0 0]) ty_22 sz_24 zr_24 (by decide) rfl rfl (by rfl) (by rfl) (fun b43 => ?_)) (T1.allocN 3 zr_24 rfl (fun b7 => ?_))
            ·
              refine ⟨z_D, ?_⟩
              refine TK.two 14 15 (by decide +kernel) rfl rfl rfl rfl (T1.callV has_44 rfl rfl (one_any w0 _ _ _ _ _) z_B (fun v_ hv => ?_)) (T1.allocN 3 zr_24 rfl (fun b7 => ?_))
              ·
                obtain rfl := hv
                refine ⟨z_D, ?_⟩
                refine TK.one 15 (by decide +kernel) rfl rfl (T1.allocN 3 zr_24 rfl (fun b7 => ?_))
                refine ⟨z_D, ?_⟩
                refine TK.one 16 (by decide +kernel) rfl rfl (T1.storeN rfl rfl sz_24 (ones rfl) z_G (by rfl) (by rfl) ?_)
                refine ⟨z_D, ?_⟩
                refine TD.done (by decide +kernel) ?_
                exact ⟨(b7, b43), _, _, trivial, (.cons rfl .nil), (.cons rfl (.cons rfl (.cons rfl (.cons rfl .nil)))), z_A, rfl⟩
              ·
                refine ⟨z_D, ?_⟩
                refine TK.one 14 (by decide +kernel) rfl rfl (T1.callV has_44 rfl rfl (one_any w0 _ _ _ _ _) z_B (fun v_ hv => ?_))
                obtain rfl := hv
                refine ⟨z_D, ?_⟩
                refine TK.one 16 (by decide +kernel) rfl rfl (T1.storeN rfl rfl sz_24 (ones rfl) z_G (by rfl) (by rfl) ?_)
                refine ⟨z_D, ?_⟩
                refine TD.done (by decide +kernel) ?_
                exact ⟨(b7, b43), _, _, trivial, (.cons rfl .nil), (.cons rfl (.cons rfl (.cons rfl (.cons rfl .nil)))), z_A, rfl⟩
            ·
              refine ⟨z_D, ?_⟩
              refine TK.one 13 (by decide +kernel) rfl rfl (T1.buildTwo (cs := [.int .i64 1, .string (bstr (nmb sLink [w, s.epoch])), .slice none 0 0]) (ds := [.int .i64 1, .string (bstr (nmb sIndex [s.says + 1])), .slice none 0 0]) ty_22 sz_24 zr_24 (by decide) rfl rfl (by rfl) (by rfl) (fun b43 => ?_))
              refine ⟨z_D, ?_⟩
              refine TK.one 14 (by decide +kernel) rfl rfl (T1.callV has_44 rfl rfl (one_any w0 _ _ _ _ _) z_B (fun v_ hv => ?_))
              obtain rfl := hv
              refine ⟨z_D, ?_⟩
              refine TK.one 16 (by decide +kernel) rfl rfl (T1.storeN rfl rfl sz_24 (ones rfl) z_G (by rfl) (by rfl) ?_)
              refine ⟨z_D, ?_⟩
              refine TD.done (by decide +kernel) ?_
              exact ⟨(b7, b43), _, _, trivial, (.cons rfl .nil), (.cons rfl (.cons rfl (.cons rfl (.cons rfl .nil)))), z_A, rfl⟩
          ·
            refine ⟨z_D, ?_⟩
            refine TK.one 12 (by decide +kernel) rfl rfl (T1.callV has_32 rfl rfl (Of_any w0 [] (nmb sIndex [s.says + 1])) z_B (fun v_ hv => ?_))
            obtain rfl := hv
            refine ⟨z_D, ?_⟩
            refine TK.one 13 (by decide +kernel) rfl rfl (T1.buildTwo (cs := [.int .i64 1, .string (bstr (nmb sLink [w, s.epoch])), .slice none 0 0]) (ds := [.int .i64 1, .string (bstr (nmb sIndex [s.says + 1])), .slice none 0 0]) ty_22 sz_24 zr_24 (by decide) rfl rfl (by rfl) (by rfl) (fun b43 => ?_))
            refine ⟨z_D, ?_⟩
            refine TK.one 14 (by decide +kernel) rfl rfl (T1.callV has_44 rfl rfl (one_any w0 _ _ _ _ _) z_B (fun v_ hv => ?_))
            obtain rfl := hv
            refine ⟨z_D, ?_⟩
            refine TK.one 16 (by decide +kernel) rfl rfl (T1.storeN rfl rfl sz_24 (ones rfl) z_G (by rfl) (by rfl) ?_)
            refine ⟨z_D, ?_⟩
            refine TD.done (by decide +kernel) ?_
            exact ⟨(b7, b43), _, _, trivial, (.cons rfl .nil), (.cons rfl (.cons rfl (.cons rfl (.cons rfl .nil)))), z_A, rfl⟩
        ·
          refine ⟨z_D, ?_⟩
          refine TK.one 11 (by decide +kernel) rfl rfl (T1.callV has_79 rfl rfl (number_any w0 [⟨b40, 0, [iV (s.says + 1)], 1⟩] sIndex (by decide) (ns := [s.says + 1]) rfl (RowR.own (List.mem_cons_self ..) rfl) (by simp) (by intro x_ hx_; simp only [List.mem_cons, List.not_mem_nil, or_false] at hx_; omega)) z_B (fun v_ hv => ?_))
          obtain rfl := hv
          refine ⟨z_D, ?_⟩
          refine TK.one 12 (by decide +kernel) rfl rfl (T1.callV has_32 rfl rfl (Of_any w0 [] (nmb sIndex [s.says + 1])) z_B (fun v_ hv => ?_))
          obtain rfl := hv
          refine ⟨z_D, ?_⟩
          refine TK.one 13 (by decide +kernel) rfl rfl (T1.buildTwo (cs := [.int .i64 1, .string (bstr (nmb sLink [w, s.epoch])), .slice none 0 0]) (ds := [.int .i64 1, .string (bstr (nmb sIndex [s.says + 1])), .slice none 0 0]) ty_22 sz_24 zr_24 (by decide) rfl rfl (by rfl) (by rfl) (fun b43 => ?_))
          refine ⟨z_D, ?_⟩
          refine TK.one 14 (by decide +kernel) rfl rfl (T1.callV has_44 rfl rfl (one_any w0 _ _ _ _ _) z_B (fun v_ hv => ?_))
          obtain rfl := hv
          refine ⟨z_D, ?_⟩
          refine TK.one 16 (by decide +kernel) rfl rfl (T1.storeN rfl rfl sz_24 (ones rfl) z_G (by rfl) (by rfl) ?_)
          refine ⟨z_D, ?_⟩
          refine TD.done (by decide +kernel) ?_
          exact ⟨(b7, b43), _, _, trivial, (.cons rfl .nil), (.cons rfl (.cons rfl (.cons rfl (.cons rfl .nil)))), z_A, rfl⟩
      ·
        refine ⟨z_D, ?_⟩
        refine TK.one 10 (by decide +kernel) rfl rfl (T1.buildSl1 (os := [.tmp 39]) ty_44 sz_3 zr_3 (by decide) rfl (.cons (v := iV (s.says + 1)) rfl .nil) rfl (ones rfl) (fun b40 => ?_))
        refine ⟨z_D, ?_⟩
        refine TK.one 11 (by decide +kernel) rfl rfl (T1.callV has_79 rfl rfl (number_any w0 [⟨b40, 0, [iV (s.says + 1)], 1⟩] sIndex (by decide) (ns := [s.says + 1]) rfl (RowR.own (List.mem_cons_self ..) rfl) (by simp) (by intro x_ hx_; simp only [List.mem_cons, List.not_mem_nil, or_false] at hx_; omega)) z_B (fun v_ hv => ?_))
        obtain rfl := hv
        refine ⟨z_D, ?_⟩
        refine TK.one 12 (by decide +kernel) rfl rfl (T1.callV has_32 rfl rfl (Of_any w0 [] (nmb sIndex [s.says + 1])) z_B (fun v_ hv => ?_))
        obtain rfl := hv
        refine ⟨z_D, ?_⟩
        refine TK.one 13 (by decide +kernel) rfl rfl (T1.buildTwo (cs := [.int .i64 1, .string (bstr (nmb sLink [w, s.epoch])), .slice none 0 0]) (ds := [.int .i64 1, .string (bstr (nmb sIndex [s.says + 1])), .slice none 0 0]) ty_22 sz_24 zr_24 (by decide) rfl rfl (by rfl) (by rfl) (fun b43 => ?_))
        refine ⟨z_D, ?_⟩
        refine TK.one 14 (by decide +kernel) rfl rfl (T1.callV has_44 rfl rfl (one_any w0 _ _ _ _ _) z_B (fun v_ hv => ?_))
        obtain rfl := hv
        refine ⟨z_D, ?_⟩
        refine TK.one 16 (by decide +kernel) rfl rfl (T1.storeN rfl rfl sz_24 (ones rfl) z_G (by rfl) (by rfl) ?_)
        refine ⟨z_D, ?_⟩
        refine TD.done (by decide +kernel) ?_
        exact ⟨(b7, b43), _, _, trivial, (.cons rfl .nil), (.cons rfl (.cons rfl (.cons rfl (.cons rfl .nil)))), z_A, rfl⟩
    ·
      refine ⟨z_D, ?_⟩
      refine TK.two 5 15 (by decide +kernel) rfl rfl rfl rfl (T1.callV has_83 rfl rfl (link_any w0 (w) (s.epoch) hw99 (by omega)) z_B (fun v_ hv => ?_)) (T1.allocN 3 zr_24 rfl (fun b7 => ?_))
      ·
        obtain rfl := hv
        refine ⟨z_D, ?_⟩
        refine TK.two 11 15 (by decide +kernel) rfl rfl rfl rfl (T1.callV has_79 rfl rfl (number_any w0 [⟨b40, 0, [iV (s.says + 1)], 1⟩] sIndex (by decide) (ns := [s.says + 1]) rfl (RowR.own (List.mem_cons_self ..) rfl) (by simp) (by intro x_ hx_; simp only [List.mem_cons, List.not_mem_nil, or_false] at hx_; omega)) z_B (fun v_ hv => ?_)) (T1.allocN 3 zr_24 rfl (fun b7 => ?_))
        ·
          obtain rfl := hv
          refine ⟨z_D, ?_⟩
          refine TK.two 12 15 (by decide +kernel) rfl rfl rfl rfl (T1.callV has_32 rfl rfl (Of_any w0 [] (nmb sIndex [s.says + 1])) z_B (fun v_ hv => ?_)) (T1.allocN 3 zr_24 rfl (fun b7 => ?_))
          ·
            obtain rfl := hv
            refine ⟨z_D, ?_⟩
            refine TK.two 13 15 (by decide +kernel) rfl rfl rfl rfl (T1.buildTwo (cs := [.int .i64 1, .string (bstr (nmb sLink [w, s.epoch])), .slice none 0 0]) (ds := [.int .i64 1, .string (bstr (nmb sIndex [s.says + 1])), .slice none 0 0]) ty_22 sz_24 zr_24 (by decide) rfl rfl (by rfl) (by rfl) (fun b43 => ?_)) (T1.allocN 3 zr_24 rfl (fun b7 => ?_))
            ·
              refine ⟨z_D, ?_⟩
              refine TK.two 14 15 (by decide +kernel) rfl rfl rfl rfl (T1.callV has_44 rfl rfl (one_any w0 _ _ _ _ _) z_B (fun v_ hv => ?_)) (T1.allocN 3 zr_24 rfl (fun b7 => ?_))
              ·
                obtain rfl := hv
                refine ⟨z_D, ?_⟩
                refine TK.one 15 (by decide +kernel) rfl rfl (T1.allocN 3 zr_24 rfl (fun b7 => ?_))
                refine ⟨z_D, ?_⟩
                refine TK.one 16 (by decide +kernel) rfl rfl (T1.storeN rfl rfl sz_24 (ones rfl) z_G (by rfl) (by rfl) ?_)
                refine ⟨z_D, ?_⟩
                refine TD.done (by decide +kernel) ?_
                exact ⟨(b7, b43), _, _, trivial, (.cons rfl .nil), (.cons rfl (.cons rfl (.cons rfl (.cons rfl .nil)))), z_A, rfl⟩
              ·
                refine ⟨z_D, ?_⟩
                refine TK.one 14 (by decide +kernel) rfl rfl (T1.callV has_44 rfl rfl (one_any w0 _ _ _ _ _) z_B (fun v_ hv => ?_))
                obtain rfl := hv
                refine ⟨z_D, ?_⟩
                refine TK.one 16 (by decide +kernel) rfl rfl (T1.storeN rfl rfl sz_24 (ones rfl) z_G (by rfl) (by rfl) ?_)
                refine ⟨z_D, ?_⟩
                refine TD.done (by decide +kernel) ?_
                exact ⟨(b7, b43), _, _, trivial, (.cons rfl .nil), (.cons rfl (.cons rfl (.cons rfl (.cons rfl .nil)))), z_A, rfl⟩
            ·
              refine ⟨z_D, ?_⟩
              refine TK.one 13 (by decide +kernel) rfl rfl (T1.buildTwo (cs := [.int .i64 1, .string (bstr (nmb sLink [w, s.epoch])), .slice none 0 0]) (ds := [.int .i64 1, .string (bstr (nmb sIndex [s.says + 1])), .slice none 0 0]) ty_22 sz_24 zr_24 (by decide) rfl rfl (by rfl) (by rfl) (fun b43 => ?_))
              refine ⟨z_D, ?_⟩
              refine TK.one 14 (by decide +kernel) rfl rfl (T1.callV has_44 rfl rfl (one_any w0 _ _ _ _ _) z_B (fun v_ hv => ?_))
              obtain rfl := hv
              refine ⟨z_D, ?_⟩
              refine TK.one 16 (by decide +kernel) rfl rfl (T1.storeN rfl rfl sz_24 (ones rfl) z_G (by rfl) (by rfl) ?_)
              refine ⟨z_D, ?_⟩
              refine TD.done (by decide +kernel) ?_
              exact ⟨(b7, b43), _, _, trivial, (.cons rfl .nil), (.cons rfl (.cons rfl (.cons rfl (.cons rfl .nil)))), z_A, rfl⟩
          ·
            refine ⟨z_D, ?_⟩
            refine TK.one 12 (by decide +kernel) rfl rfl (T1.callV has_32 rfl rfl (Of_any w0 [] (nmb sIndex [s.says + 1])) z_B (fun v_ hv => ?_))
            obtain rfl := hv
            refine ⟨z_D, ?_⟩
            refine TK.one 13 (by decide +kernel) rfl rfl (T1.buildTwo (cs := [.int .i64 1, .string (bstr (nmb sLink [w, s.epoch])), .slice none 0 0]) (ds := [.int .i64 1, .string (bstr (nmb sIndex [s.says + 1])), .slice none 0 0]) ty_22 sz_24 zr_24 (by decide) rfl rfl (by rfl) (by rfl) (fun b43 => ?_))
            refine ⟨z_D, ?_⟩
            refine TK.one 14 (by decide +kernel) rfl rfl (T1.callV has_44 rfl rfl (one_any w0 _ _ _ _ _) z_B (fun v_ hv => ?_))
            obtain rfl := hv
            refine ⟨z_D, ?_⟩
            refine TK.one 16 (by decide +kernel) rfl rfl (T1.storeN rfl rfl sz_24 (ones rfl) z_G (by rfl) (by rfl) ?_)
            refine ⟨z_D, ?_⟩
            refine TD.done (by decide +kernel) ?_
            exact ⟨(b7, b43), _, _, trivial, (.cons rfl .nil), (.cons rfl (.cons rfl (.cons rfl (.cons rfl .nil)))), z_A, rfl⟩
        ·
          refine ⟨z_D, ?_⟩
          refine TK.one 11 (by decide +kernel) rfl rfl (T1.callV has_79 rfl rfl (number_any w0 [⟨b40, 0, [iV (s.says + 1)], 1⟩] sIndex (by decide) (ns := [s.says + 1]) rfl (RowR.own (List.mem_cons_self ..) rfl) (by simp) (by intro x_ hx_; simp only [List.mem_cons, List.not_mem_nil, or_false] at hx_; omega)) z_B (fun v_ hv => ?_))
          obtain rfl := hv
          refine ⟨z_D, ?_⟩
          refine TK.one 12 (by decide +kernel) rfl rfl (T1.callV has_32 rfl rfl (Of_any w0 [] (nmb sIndex [s.says + 1])) z_B (fun v_ hv => ?_))
          obtain rfl := hv
          refine ⟨z_D, ?_⟩
          refine TK.one 13 (by decide +kernel) rfl rfl (T1.buildTwo (cs := [.int .i64 1, .string (bstr (nmb sLink [w, s.epoch])), .slice none 0 0]) (ds := [.int .i64 1, .string (bstr (nmb sIndex [s.says + 1])), .slice none 0 0]) ty_22 sz_24 zr_24 (by decide) rfl rfl (by rfl) (by rfl) (fun b43 => ?_))
          refine ⟨z_D, ?_⟩
          refine TK.one 14 (by decide +kernel) rfl rfl (T1.callV has_44 rfl rfl (one_any w0 _ _ _ _ _) z_B (fun v_ hv => ?_))
          obtain rfl := hv
          refine ⟨z_D, ?_⟩
          refine TK.one 16 (by decide +kernel) rfl rfl (T1.storeN rfl rfl sz_24 (ones rfl) z_G (by rfl) (by rfl) ?_)
          refine ⟨z_D, ?_⟩
          refine TD.done (by decide +kernel) ?_
          exact ⟨(b7, b43), _, _, trivial, (.cons rfl .nil), (.cons rfl (.cons rfl (.cons rfl (.cons rfl .nil)))), z_A, rfl⟩
      ·
        refine ⟨z_D, ?_⟩
        refine TK.one 5 (by decide +kernel) rfl rfl (T1.callV has_83 rfl rfl (link_any w0 (w) (s.epoch) hw99 (by omega)) z_B (fun v_ hv => ?_))
        obtain rfl := hv
        refine ⟨z_D, ?_⟩
        refine TK.one 11 (by decide +kernel) rfl rfl (T1.callV has_79 rfl rfl (number_any w0 [⟨b40, 0, [iV (s.says + 1)], 1⟩] sIndex (by decide) (ns := [s.says + 1]) rfl (RowR.own (List.mem_cons_self ..) rfl) (by simp) (by intro x_ hx_; simp only [List.mem_cons, List.not_mem_nil, or_false] at hx_; omega)) z_B (fun v_ hv => ?_))
        obtain rfl := hv
        refine ⟨z_D, ?_⟩
        refine TK.one 12 (by decide +kernel) rfl rfl (T1.callV has_32 rfl rfl (Of_any w0 [] (nmb sIndex [s.says + 1])) z_B (fun v_ hv => ?_))
        obtain rfl := hv
        refine ⟨z_D, ?_⟩
        refine TK.one 13 (by decide +kernel) rfl rfl (T1.buildTwo (cs := [.int .i64 1, .string (bstr (nmb sLink [w, s.epoch])), .slice none 0 0]) (ds := [.int .i64 1, .string (bstr (nmb sIndex [s.says + 1])), .slice none 0 0]) ty_22 sz_24 zr_24 (by decide) rfl rfl (by rfl) (by rfl) (fun b43 => ?_))
        refine ⟨z_D, ?_⟩
        refine TK.one 14 (by decide +kernel) rfl rfl (T1.callV has_44 rfl rfl (one_any w0 _ _ _ _ _) z_B (fun v_ hv => ?_))
        obtain rfl := hv
        refine ⟨z_D, ?_⟩
        refine TK.one 16 (by decide +kernel) rfl rfl (T1.storeN rfl rfl sz_24 (ones rfl) z_G (by rfl) (by rfl) ?_)
        refine ⟨z_D, ?_⟩
        refine TD.done (by decide +kernel) ?_
        exact ⟨(b7, b43), _, _, trivial, (.cons rfl .nil), (.cons rfl (.cons rfl (.cons rfl (.cons rfl .nil)))), z_A, rfl⟩
    ·
      refine ⟨z_D, ?_⟩
      refine TK.two 5 10 (by decide +kernel) rfl rfl rfl rfl (T1.callV has_83 rfl rfl (link_any w0 (w) (s.epoch) hw99 (by omega)) z_B (fun v_ hv => ?_)) (T1.buildSl1 (os := [.tmp 39]) ty_44 sz_3 zr_3 (by decide) rfl (.cons (v := iV (s.says + 1)) rfl .nil) rfl (ones rfl) (fun b40 => ?_))
      ·
        obtain rfl := hv
        refine ⟨z_D, ?_⟩
        refine TK.one 10 (by decide +kernel) rfl rfl (T1.buildSl1 (os := [.tmp 39]) ty_44 sz_3 zr_3 (by decide) rfl (.cons (v := iV (s.says + 1)) rfl .nil) rfl (ones rfl) (fun b40 => ?_))
        refine ⟨z_D, ?_⟩
        refine TK.one 11 (by decide +kernel) rfl rfl (T1.callV has_79 rfl rfl (number_any w0 [⟨b40, 0, [iV (s.says + 1)], 1⟩] sIndex (by decide) (ns := [s.says + 1]) rfl (RowR.own (List.mem_cons_self ..) rfl) (by simp) (by intro x_ hx_; simp only [List.mem_cons, List.not_mem_nil, or_false] at hx_; omega)) z_B (fun v_ hv => ?_))
        obtain rfl := hv
        refine ⟨z_D, ?_⟩
        refine TK.one 12 (by decide +kernel) rfl rfl (T1.callV has_32 rfl rfl (Of_any w0 [] (nmb sIndex [s.says + 1])) z_B (fun v_ hv => ?_))
        obtain rfl := hv
        refine ⟨z_D, ?_⟩
        refine TK.one 13 (by decide +kernel) rfl rfl (T1.buildTwo (cs := [.int .i64 1, .string (bstr (nmb sLink [w, s.epoch])), .slice none 0 0]) (ds := [.int .i64 1, .string (bstr (nmb sIndex [s.says + 1])), .slice none 0 0]) ty_22 sz_24 zr_24 (by decide) rfl rfl (by rfl) (by rfl) (fun b43 => ?_))
        refine ⟨z_D, ?_⟩
        refine TK.one 14 (by decide +kernel) rfl rfl (T1.callV has_44 rfl rfl (one_any w0 _ _ _ _ _) z_B (fun v_ hv => ?_))
        obtain rfl := hv
        refine ⟨z_D, ?_⟩
        refine TK.one 16 (by decide +kernel) rfl rfl (T1.storeN rfl rfl sz_24 (ones rfl) z_G (by rfl) (by rfl) ?_)
        refine ⟨z_D, ?_⟩
        refine TD.done (by decide +kernel) ?_
        exact ⟨(b7, b43), _, _, trivial, (.cons rfl .nil), (.cons rfl (.cons rfl (.cons rfl (.cons rfl .nil)))), z_A, rfl⟩
      ·
        refine ⟨z_D, ?_⟩
        refine TK.one 5 (by decide +kernel) rfl rfl (T1.callV has_83 rfl rfl (link_any w0 (w) (s.epoch) hw99 (by omega)) z_B (fun v_ hv => ?_))
        obtain rfl := hv
        refine ⟨z_D, ?_⟩
        refine TK.one 11 (by decide +kernel) rfl rfl (T1.callV has_79 rfl rfl (number_any w0 [⟨b40, 0, [iV (s.says + 1)], 1⟩] sIndex (by decide) (ns := [s.says + 1]) rfl (RowR.own (List.mem_cons_self ..) rfl) (by simp) (by intro x_ hx_; simp only [List.mem_cons, List.not_mem_nil, or_false] at hx_; omega)) z_B (fun v_ hv => ?_))
        obtain rfl := hv
        refine ⟨z_D, ?_⟩
        refine TK.one 12 (by decide +kernel) rfl rfl (T1.callV has_32 rfl rfl (Of_any w0 [] (nmb sIndex [s.says + 1])) z_B (fun v_ hv => ?_))
        obtain rfl := hv
        refine ⟨z_D, ?_⟩
        refine TK.one 13 (by decide +kernel) rfl rfl (T1.buildTwo (cs := [.int .i64 1, .string (bstr (nmb sLink [w, s.epoch])), .slice none 0 0]) (ds := [.int .i64 1, .string (bstr (nmb sIndex [s.says + 1])), .slice none 0 0]) ty_22 sz_24 zr_24 (by decide) rfl rfl (by rfl) (by rfl) (fun b43 => ?_))
        refine ⟨z_D, ?_⟩
        refine TK.one 14 (by decide +kernel) rfl rfl (T1.callV has_44 rfl rfl (one_any w0 _ _ _ _ _) z_B (fun v_ hv => ?_))
        obtain rfl := hv
        refine ⟨z_D, ?_⟩
        refine TK.one 16 (by decide +kernel) rfl rfl (T1.storeN rfl rfl sz_24 (ones rfl) z_G (by rfl) (by rfl) ?_)
        refine ⟨z_D, ?_⟩
        refine TD.done (by decide +kernel) ?_
        exact ⟨(b7, b43), _, _, trivial, (.cons rfl .nil), (.cons rfl (.cons rfl (.cons rfl (.cons rfl .nil)))), z_A, rfl⟩
  ·
    rintro ⟨b7, b43⟩ e_ L rfl
    have hP43 : TmR w0 ((⟨⟨b43, some 24⟩, 0, [.int .i64 1, .string (bstr (nmb sLink [w, s.epoch])), .slice none 0 0] ++ [.int .i64 1, .string (bstr (nmb sIndex [s.says + 1])), .slice none 0 0], 2 * 3⟩ : Blk) :: Ps) (postT w s.epoch (s.says + 1)) [.int .i64 4, .string (bstr sPost), .slice (some ⟨b43, 0, none⟩) 2 2] := TmR.mkN (nm := sPost) (n := 2) rfl (RowR.own (List.mem_cons_self ..) rfl) (by decide) (TmsR.cons TmR.atom (TmsR.one TmR.atom))
    dsimp only
    refine T.cut (σ := Value × List Blk × List Value × List Blk) (l0 := [(0, _), (1, _), (4, _), (6, _)]) (fun x => []) (fun x L => L = ⟨bt, 0, [.slice an s.names.length cn, iV (s.epoch), iV (s.says + 1), x.1, vb], 5⟩ :: (Ln ++ (Lb ++ (x.2.1 ++ (x.2.2.2 ++ ((⟨⟨b43, some 24⟩, 0, [.int .i64 1, .string (bstr (nmb sLink [w, s.epoch])), .slice none 0 0] ++ [.int .i64 1, .string (bstr (nmb sIndex [s.says + 1])), .slice none 0 0], 2 * 3⟩ : Blk) :: ⟨b6, 0, [.int .i64 1, .string (bstr (nmb sText [s.says + 1])), .slice none 0 0], 3⟩ :: ⟨b4, 0, [.int .i64 0, .int .i64 0, .slice none 0 0, .int .i64 0, .string ⟨#[]⟩, .slice none 0 0], 6⟩ :: G))))) ∧ SlG (some 24) x.1 x.2.2.1 3 x.2.1 ∧ TmsR w0 (x.2.2.2 ++ ((⟨⟨b43, some 24⟩, 0, [.int .i64 1, .string (bstr (nmb sLink [w, s.epoch])), .slice none 0 0] ++ [.int .i64 1, .string (bstr (nmb sIndex [s.says + 1])), .slice none 0 0], 2 * 3⟩ : Blk) :: Ps)) (s.known ++ [indexT (s.says + 1), msgT w s.epoch (s.says + 1)]) x.2.2.1) (.cons z_C (.cons z_C (.cons z_C (.cons z_C .nil)))) ?_ ?_
    ·
      refine T.drawM (FL [MV (.pointer (some ⟨bt, 0, none⟩)), MV (.pointer (some ⟨bt, 0, none⟩)), MV (.pointer (some ⟨bt, 0, none⟩)), MV (.pointer (some ⟨bt, 0 + 2, none⟩)), MV (iV (s.says + 1)), MRowI w0 ((⟨⟨b43, some 24⟩, 0, [.int .i64 1, .string (bstr (nmb sLink [w, s.epoch])), .slice none 0 0] ++ [.int .i64 1, .string (bstr (nmb sIndex [s.says + 1])), .slice none 0 0], 2 * 3⟩ : Blk) :: Ps) 1 ([iV (s.says + 1)]), MV (.string (bstr (nmb sIndex [s.says + 1]))), MV (.agg ([.int .i64 1, .string (bstr (nmb sIndex [s.says + 1])), .slice none 0 0]).toArray), MV (iV w), MV (.agg ([.int .i64 1, .string (bstr (nmb sOwn [w])), .slice none 0 0]).toArray), MV (.agg ([.int .i64 4, .string (bstr sPost), .slice (some ⟨b43, 0, none⟩) 2 2]).toArray), MV (.agg ([.int .i64 1, .string (bstr (nmb sText [s.says + 1])), .slice none 0 0]).toArray), MTms w0 ((⟨⟨b43, some 24⟩, 0, [.int .i64 1, .string (bstr (nmb sLink [w, s.epoch])), .slice none 0 0] ++ [.int .i64 1, .string (bstr (nmb sIndex [s.says + 1])), .slice none 0 0], 2 * 3⟩ : Blk) :: Ps) 2 ([postT w s.epoch (s.says + 1), textT (s.says + 1)]), MTm w0 ((⟨⟨b43, some 24⟩, 0, [.int .i64 1, .string (bstr (nmb sLink [w, s.epoch])), .slice none 0 0] ++ [.int .i64 1, .string (bstr (nmb sIndex [s.says + 1])), .slice none 0 0], 2 * 3⟩ : Blk) :: Ps) 3 [] 2 ([postT w s.epoch (s.says + 1), textT (s.says + 1)]), MTms w0 ((⟨⟨b43, some 24⟩, 0, [.int .i64 1, .string (bstr (nmb sLink [w, s.epoch])), .slice none 0 0] ++ [.int .i64 1, .string (bstr (nmb sIndex [s.says + 1])), .slice none 0 0], 2 * 3⟩ : Blk) :: Ps) 2 ([ownT w, sealT w s.epoch (s.says + 1)]), MTm w0 ((⟨⟨b43, some 24⟩, 0, [.int .i64 1, .string (bstr (nmb sLink [w, s.epoch])), .slice none 0 0] ++ [.int .i64 1, .string (bstr (nmb sIndex [s.says + 1])), .slice none 0 0], 2 * 3⟩ : Blk) :: Ps) 8 [] 2 ([ownT w, sealT w s.epoch (s.says + 1)]), MTms w0 ((⟨⟨b43, some 24⟩, 0, [.int .i64 1, .string (bstr (nmb sLink [w, s.epoch])), .slice none 0 0] ++ [.int .i64 1, .string (bstr (nmb sIndex [s.says + 1])), .slice none 0 0], 2 * 3⟩ : Blk) :: Ps) 2 ([indexT (s.says + 1), msgT w s.epoch (s.says + 1)]), MT]) 17 mixed (by decide +kernel) (by decide +kernel) (FMono.at (.cons MV.mono (.cons MV.mono (.cons MV.mono (.cons MV.mono (.cons MV.mono (.cons MRowI.mono (.cons MV.mono (.cons MV.mono (.cons MV.mono (.cons MV.mono (.cons MV.mono (.cons MV.mono (.cons MTms.mono (.cons MTm.mono (.cons MTms.mono (.cons MTm.mono (.cons MTms.mono (.cons MT.mono .nil))))))))))))))))))) ?_ ?_
      ·
        refine MOps.cons (fun e_ Y_ hp_ hs_ => ?_) ?_
        ·
          refine MOp.of (tr := [(0, _)]) (.cons ((hs_ 0 (by rfl)).trans z_C) .nil) ?_
          refine V1.t (V1.move' z_C) ?_
          exact ⟨_, [], rfl, rfl, rfl⟩
        refine MOps.cons (fun e_ Y_ hp_ hs_ => ?_) ?_
        ·
          refine MOp.of (tr := [(0, _)]) (.cons ((hs_ 0 (by rfl)).trans z_C) .nil) ?_
          refine V1.t (V1.move' z_C) ?_
          exact ⟨_, [], rfl, rfl, rfl⟩
        refine MOps.cons (fun e_ Y_ hp_ hs_ => ?_) ?_
        ·
          refine MOp.of (tr := [(46, _)]) (.cons (show MV (.pointer (some ⟨bt, 0, none⟩)) (e_ 46) Y_ from hp_ 1 46 (by rfl) (by rfl)) .nil) ?_
          refine V1.t (V1.nilCheck rfl) ?_
          exact ⟨_, [], rfl, rfl, rfl⟩
        refine MOps.cons (fun e_ Y_ hp_ hs_ => ?_) ?_
        ·
          refine MOp.of (tr := [(47, _)]) (.cons (show MV (.pointer (some ⟨bt, 0, none⟩)) (e_ 47) Y_ from hp_ 2 47 (by rfl) (by rfl)) .nil) ?_
          refine V1.t (V1.fieldAddr fl_89_2 rfl) ?_
          exact ⟨_, [], rfl, rfl, rfl⟩
        refine MOps.cons (fun e_ Y_ hp_ hs_ => ?_) ?_
        ·
          refine MOp.of (tr := [(48, _)]) (.cons (show MV (.pointer (some ⟨bt, 0 + 2, none⟩)) (e_ 48) Y_ from hp_ 3 48 (by rfl) (by rfl)) .nil) ?_
          refine V1.t (V1.load1 (v := iV (s.says + 1)) one_3 rfl (.own z_D (by rfl))) ?_
          exact ⟨_, [], rfl, rfl, rfl⟩
        refine MOps.cons (fun e_ Y_ hp_ hs_ => ?_) ?_
        ·
          refine MOp.of (tr := [(49, _)]) (.cons (show MV (iV (s.says + 1)) (e_ 49) Y_ from hp_ 4 49 (by rfl) (by rfl)) .nil) ?_
          refine T1.buildSl1 (os := [.tmp 49]) ty_44 sz_3 zr_3 (by decide) rfl (.cons (v := iV (s.says + 1)) rfl .nil) rfl (ones rfl) (fun b50 => ?_)
          exact ⟨_, [⟨b50, 0, [iV (s.says + 1)], 1⟩], rfl, rfl, ⟨_, _, rfl, RowR.own (List.mem_cons_self ..) rfl⟩⟩
        refine MOps.cons (fun e_ Y_ hp_ hs_ => ?_) ?_
        ·
          obtain ⟨a50, c50, h50, f50⟩ := (show (MRowI w0 ((⟨⟨b43, some 24⟩, 0, [.int .i64 1, .string (bstr (nmb sLink [w, s.epoch])), .slice none 0 0] ++ [.int .i64 1, .string (bstr (nmb sIndex [s.says + 1])), .slice none 0 0], 2 * 3⟩ : Blk) :: Ps) 1 ([iV (s.says + 1)])) (e_ 50) Y_ from hp_ 5 50 (by rfl) (by rfl))
          refine MOp.of (tr := [(50, _)]) (.cons h50 .nil) ?_
          refine T1.callV has_79 rfl rfl (number_any w0 (Y_ ++ ((⟨⟨b43, some 24⟩, 0, [.int .i64 1, .string (bstr (nmb sLink [w, s.epoch])), .slice none 0 0] ++ [.int .i64 1, .string (bstr (nmb sIndex [s.says + 1])), .slice none 0 0], 2 * 3⟩ : Blk) :: Ps)) sIndex (by decide) (ns := [s.says + 1]) (k := 1) rfl f50 (by simp) (by intro x_ hx_; simp only [List.mem_cons, List.not_mem_nil, or_false] at hx_; omega)) z_B (fun v_ hv => ?_)
          obtain rfl := hv
          exact ⟨_, [], rfl, rfl, rfl⟩
        refine MOps.cons (fun e_ Y_ hp_ hs_ => ?_) ?_
        ·
          refine MOp.of (tr := [(51, _)]) (.cons (show MV (.string (bstr (nmb sIndex [s.says + 1]))) (e_ 51) Y_ from hp_ 6 51 (by rfl) (by rfl)) .nil) ?_
          refine T1.callV has_32 rfl rfl (Of_any w0 [] (nmb sIndex [s.says + 1])) z_B (fun v_ hv => ?_)
          obtain rfl := hv
          exact ⟨_, [], rfl, rfl, rfl⟩
        refine MOps.cons (fun e_ Y_ hp_ hs_ => ?_) ?_
        ·
          refine MOp.of (tr := [(1, _)]) (.cons ((hs_ 1 (by rfl)).trans z_C) .nil) ?_
          refine V1.t (V1.move' z_C) ?_
          exact ⟨_, [], rfl, rfl, rfl⟩
        refine MOps.cons (fun e_ Y_ hp_ hs_ => ?_) ?_
        ·
          refine MOp.of (tr := [(53, _)]) (.cons (show MV (iV w) (e_ 53) Y_ from hp_ 8 53 (by rfl) (by rfl)) .nil) ?_
          refine T1.callV has_45 rfl rfl (own_any w0 w hw99) z_B (fun v_ hv => ?_)
          obtain rfl := hv
          exact ⟨_, [], rfl, rfl, rfl⟩
        refine MOps.cons (fun e_ Y_ hp_ hs_ => ?_) ?_
        ·
          refine MOp.of (tr := [(7, _)]) (.cons ((hs_ 7 (by rfl)).trans z_C) .nil) ?_
          refine V1.t (V1.loadN (vs := [.int .i64 4, .string (bstr sPost), .slice (some ⟨b43, 0, none⟩) 2 2]) one_24 sz_24 rfl (RdN.whole z_D) rfl) ?_
          exact ⟨_, [], rfl, rfl, rfl⟩
        refine MOps.cons (fun e_ Y_ hp_ hs_ => ?_) ?_
        ·
          refine MOp.of (tr := [(6, _)]) (.cons ((hs_ 6 (by rfl)).trans z_C) .nil) ?_
          refine V1.t (V1.loadN (vs := [.int .i64 1, .string (bstr (nmb sText [s.says + 1])), .slice none 0 0]) one_24 sz_24 rfl (RdN.whole z_D) rfl) ?_
          exact ⟨_, [], rfl, rfl, rfl⟩
        refine MOps.cons (fun e_ Y_ hp_ hs_ => ?_) ?_
        ·
          refine MOp.of (tr := [(55, _), (56, _)]) (.cons (show MV (.agg ([.int .i64 4, .string (bstr sPost), .slice (some ⟨b43, 0, none⟩) 2 2]).toArray) (e_ 55) Y_ from hp_ 10 55 (by rfl) (by rfl)) (.cons (show MV (.agg ([.int .i64 1, .string (bstr (nmb sText [s.says + 1])), .slice none 0 0]).toArray) (e_ 56) Y_ from hp_ 11 56 (by rfl) (by rfl)) .nil)) ?_
          refine T1.buildTwo (cs := [.int .i64 4, .string (bstr sPost), .slice (some ⟨b43, 0, none⟩) 2 2]) (ds := [.int .i64 1, .string (bstr (nmb sText [s.says + 1])), .slice none 0 0]) ty_22 sz_24 zr_24 (by decide) rfl rfl (by rfl) (by rfl) (fun b57 => ?_)
          exact ⟨_, [(⟨⟨b57, some 24⟩, 0, [.int .i64 4, .string (bstr sPost), .slice (some ⟨b43, 0, none⟩) 2 2] ++ [.int .i64 1, .string (bstr (nmb sText [s.says + 1])), .slice none 0 0], 2 * 3⟩ : Blk)], rfl, rfl, ⟨_, _, _, rfl, RowR.own (List.mem_cons_self ..) rfl, TmsR.cons (hP43.more (Inc.skip Inc.refl)) (TmsR.one TmR.atom)⟩⟩
        refine MOps.cons (fun e_ Y_ hp_ hs_ => ?_) ?_
        ·
          obtain ⟨a57, c57, vs57, h57, f57, g57⟩ := (show (MTms w0 ((⟨⟨b43, some 24⟩, 0, [.int .i64 1, .string (bstr (nmb sLink [w, s.epoch])), .slice none 0 0] ++ [.int .i64 1, .string (bstr (nmb sIndex [s.says + 1])), .slice none 0 0], 2 * 3⟩ : Blk) :: Ps) 2 ([postT w s.epoch (s.says + 1), textT (s.says + 1)])) (e_ 57) Y_ from hp_ 12 57 (by rfl) (by rfl))
          refine MOp.of (tr := [(57, _)]) (.cons h57 .nil) ?_
          refine T1.callV has_44 rfl rfl (one_any w0 _ _ _ _ _) z_B (fun v_ hv => ?_)
          obtain rfl := hv
          exact ⟨_, [], rfl, rfl, ⟨_, _, rfl, TmR.mkN (n := 2) rfl f57 (by decide) g57⟩⟩
        refine MOps.cons (fun e_ Y_ hp_ hs_ => ?_) ?_
        ·
          obtain ⟨a58, c58, h58, f58⟩ := (show (MTm w0 ((⟨⟨b43, some 24⟩, 0, [.int .i64 1, .string (bstr (nmb sLink [w, s.epoch])), .slice none 0 0] ++ [.int .i64 1, .string (bstr (nmb sIndex [s.says + 1])), .slice none 0 0], 2 * 3⟩ : Blk) :: Ps) 3 [] 2 ([postT w s.epoch (s.says + 1), textT (s.says + 1)])) (e_ 58) Y_ from hp_ 13 58 (by rfl) (by rfl))
          refine MOp.of (tr := [(54, _), (58, _)]) (.cons (show MV (.agg ([.int .i64 1, .string (bstr (nmb sOwn [w])), .slice none 0 0]).toArray) (e_ 54) Y_ from hp_ 9 54 (by rfl) (by rfl)) (.cons h58 .nil)) ?_
          refine T1.buildTwo (cs := [.int .i64 1, .string (bstr (nmb sOwn [w])), .slice none 0 0]) (ds := [.int .i64 3, .string (bstr []), .slice a58 2 c58]) ty_22 sz_24 zr_24 (by decide) rfl rfl (by rfl) (by rfl) (fun b59 => ?_)
          exact ⟨_, [⟨⟨b59, some 24⟩, 0, [.int .i64 1, .string (bstr (nmb sOwn [w])), .slice none 0 0] ++ [.int .i64 3, .string (bstr []), .slice a58 2 c58], 2 * 3⟩], rfl, rfl, ⟨_, _, _, rfl, RowR.own (List.mem_cons_self ..) rfl, TmsR.cons TmR.atom (TmsR.one (f58.more mo_inc))⟩⟩
        refine MOps.cons (fun e_ Y_ hp_ hs_ => ?_) ?_
        ·
          obtain ⟨a59, c59, vs59, h59, f59, g59⟩ := (show (MTms w0 ((⟨⟨b43, some 24⟩, 0, [.int .i64 1, .string (bstr (nmb sLink [w, s.epoch])), .slice none 0 0] ++ [.int .i64 1, .string (bstr (nmb sIndex [s.says + 1])), .slice none 0 0], 2 * 3⟩ : Blk) :: Ps) 2 ([ownT w, sealT w s.epoch (s.says + 1)])) (e_ 59) Y_ from hp_ 14 59 (by rfl) (by rfl))
          refine MOp.of (tr := [(59, _)]) (.cons h59 .nil) ?_
          refine T1.callV has_44 rfl rfl (one_any w0 _ _ _ _ _) z_B (fun v_ hv => ?_)
          obtain rfl := hv
          exact ⟨_, [], rfl, rfl, ⟨_, _, rfl, TmR.mkN (n := 2) rfl f59 (by decide) g59⟩⟩
        refine MOps.cons (fun e_ Y_ hp_ hs_ => ?_) ?_
        ·
          obtain ⟨a60, c60, h60, f60⟩ := (show (MTm w0 ((⟨⟨b43, some 24⟩, 0, [.int .i64 1, .string (bstr (nmb sLink [w, s.epoch])), .slice none 0 0] ++ [.int .i64 1, .string (bstr (nmb sIndex [s.says + 1])), .slice none 0 0], 2 * 3⟩ : Blk) :: Ps) 8 [] 2 ([ownT w, sealT w s.epoch (s.says + 1)])) (e_ 60) Y_ from hp_ 15 60 (by rfl) (by rfl))
          refine MOp.of (tr := [(52, _), (60, _)]) (.cons (show MV (.agg ([.int .i64 1, .string (bstr (nmb sIndex [s.says + 1])), .slice none 0 0]).toArray) (e_ 52) Y_ from hp_ 7 52 (by rfl) (by rfl)) (.cons h60 .nil)) ?_
          refine T1.buildTwo (cs := [.int .i64 1, .string (bstr (nmb sIndex [s.says + 1])), .slice none 0 0]) (ds := [.int .i64 8, .string (bstr []), .slice a60 2 c60]) ty_22 sz_24 zr_24 (by decide) rfl rfl (by rfl) (by rfl) (fun b61 => ?_)
          exact ⟨_, [⟨⟨b61, some 24⟩, 0, [.int .i64 1, .string (bstr (nmb sIndex [s.says + 1])), .slice none 0 0] ++ [.int .i64 8, .string (bstr []), .slice a60 2 c60], 2 * 3⟩], rfl, rfl, ⟨_, _, _, rfl, RowR.own (List.mem_cons_self ..) rfl, TmsR.cons TmR.atom (TmsR.one (f60.more mo_inc))⟩⟩
        refine MOps.last ?_
        exact MOps.nil
      · intro e_ Y_ hp_ hs_
        obtain ⟨a61, c61, vs61, h61, f61, g61⟩ := (show (MTms w0 ((⟨⟨b43, some 24⟩, 0, [.int .i64 1, .string (bstr (nmb sLink [w, s.epoch])), .slice none 0 0] ++ [.int .i64 1, .string (bstr (nmb sIndex [s.says + 1])), .slice none 0 0], 2 * 3⟩ : Blk) :: Ps) 2 ([indexT (s.says + 1), msgT w s.epoch (s.says + 1)])) (e_ 61) Y_ from hp_ 16 61 (by decide) (by rfl))
        refine T1.known (tr := [(0, _), (1, _), (4, _), (6, _), (45, _), (61, _)]) (.cons ((hs_ 0 (by rfl)).trans z_C) (.cons ((hs_ 1 (by rfl)).trans z_C) (.cons ((hs_ 4 (by rfl)).trans z_C) (.cons ((hs_ 6 (by rfl)).trans z_C) (.cons (show MV (.pointer (some ⟨bt, 0, none⟩)) (e_ 45) Y_ from hp_ 0 45 (by decide) (by rfl)) (.cons h61 .nil)))))) ?_
        refine T1.callM (X := ⟨bt, 0, [.slice an s.names.length cn, iV (s.epoch), iV (s.says + 1), vk, vb], 5⟩ :: (Ln ++ (Lb ++ Lk))) has_43 rfl rfl (hear_any w0 (Y_ ++ ((⟨⟨b43, some 24⟩, 0, [.int .i64 1, .string (bstr (nmb sLink [w, s.epoch])), .slice none 0 0] ++ [.int .i64 1, .string (bstr (nmb sIndex [s.says + 1])), .slice none 0 0], 2 * 3⟩ : Blk) :: Ps)) (s := { s with says := s.says + 1 }) (vn := .slice an s.names.length cn) (vb := vb) (Ln := Ln) (Lb := Lb) ⟨vk, Lk, xk, rfl, hsn, hsb, hsk, hxk.more (Inc.skip (Inc.skip1 Inc.refl))⟩ f61 g61 (by show s.known.length + 2 ≤ 2000; omega)) z_A z_B (fun v_ Yh hY => ?_)
        obtain ⟨vk2, Lk2, xk2, rfl, _, _, hsk2, hxk2⟩ := hY
        simp only [List.cons_append, List.append_assoc]
        try dsimp only
        exact ⟨(vk2, Lk2, xk2, Y_), _, _, trivial, .nil, (.cons rfl (.cons rfl (.cons rfl (.cons rfl .nil)))), z_A, ⟨rfl, hsk2, hxk2⟩⟩
    ·
      rintro ⟨vk2, Lk2, xk2, Z⟩ e_ L ⟨rfl, hsk2, hxk2⟩
      simp only at hsk2 hxk2
      try dsimp only
      refine T.seq ?_
      refine T.drawK (fun L_ => Find L_ (⟨bt, 0, [.slice an s.names.length cn, iV (s.epoch), iV (s.says + 1), vk2, vb], 5⟩ : Blk) ∧ Find L_ (⟨b6, 0, [.int .i64 1, .string (bstr (nmb sText [s.says + 1])), .slice none 0 0], 3⟩ : Blk)) mixed ⟨z_D, z_D⟩ ?_
      refine TK.take 0 rfl (by decide +kernel) (by decide +kernel) (by decide +kernel) rfl (fun _ _ _ h => h) (fun L_ ⟨k1_, k2_⟩ => V1.move' z_C) ?_
      refine TK.take 1 rfl (by decide +kernel) (by decide +kernel) (by decide +kernel) rfl (fun _ _ _ h => h) (fun L_ ⟨k1_, k2_⟩ => V1.move' z_C) ?_
      refine TK.take 2 rfl (by decide +kernel) (by decide +kernel) (by decide +kernel) rfl (fun _ _ _ h => h) (fun L_ ⟨k1_, k2_⟩ => V1.nilCheck rfl) ?_
      refine TK.take 3 rfl (by decide +kernel) (by decide +kernel) (by decide +kernel) rfl (fun _ _ _ h => h) (fun L_ ⟨k1_, k2_⟩ => V1.fieldAddr fl_89_1 rfl) ?_
      refine TK.take 4 rfl (by decide +kernel) (by decide +kernel) (by decide +kernel) rfl (fun _ _ _ h => h) (fun L_ ⟨k1_, k2_⟩ => V1.load1 (v := iV (s.epoch)) one_3 rfl (.own z_D (by rfl))) ?_
      refine TK.take 5 rfl (by decide +kernel) (by decide +kernel) (by decide +kernel) rfl (fun _ _ _ h => h) (fun L_ ⟨k1_, k2_⟩ => V1.move' z_C) ?_
      refine TK.take 6 rfl (by decide +kernel) (by decide +kernel) (by decide +kernel) rfl (fun _ _ _ h => h) (fun L_ ⟨k1_, k2_⟩ => V1.nilCheck rfl) ?_
      refine TK.take 7 rfl (by decide +kernel) (by decide +kernel) (by decide +kernel) rfl (fun _ _ _ h => h) (fun L_ ⟨k1_, k2_⟩ => V1.fieldAddr fl_89_0 rfl) ?_
      refine TK.take 8 rfl (by decide +kernel) (by decide +kernel) (by decide +kernel) rfl (fun _ _ _ h => h) (fun L_ ⟨k1_, k2_⟩ => V1.load1 (v := .slice an s.names.length cn) one_44 rfl (.own z_D (by rfl))) ?_
      refine TK.take 10 rfl (by decide +kernel) (by decide +kernel) (by decide +kernel) rfl (fun _ _ _ h => h) (fun L_ ⟨k1_, k2_⟩ => V1.loadN one_24 sz_24 rfl (RdN.whole z_D) (by rfl)) ?_
      refine TK.one 9 (by decide +kernel) rfl rfl (T1.callC has_85 rfl rfl (CloneI_any w0 Ln hrn (List.length_pos_of_mem hw) (by omega)) z_B (fun v_ Lc hY => ?_))
      have hrc := RowR.ofSl (w0 := w0) hY Inc.refl (by decide) s.names.length (by simp)
      obtain ⟨ac, cc, rfl⟩ := hrc.form
      refine ⟨⟨z_D, z_D⟩, ?_⟩
      refine TK.take 11 rfl (by decide +kernel) (by decide +kernel) (by decide +kernel) rfl (fun _ _ _ h => h) (fun L_ ⟨k1_, k2_⟩ => V1.buildF pl_55 zr_55 (.one rfl z_C rfl (.one rfl z_C rfl (.one rfl z_C rfl (.many rfl z_C rfl .nil)))) z_H) ?_
      refine TK.one 12 (by decide +kernel) rfl rfl (T1.storeN rfl rfl sz_55 (ones rfl) z_G (by rfl) (by rfl) ?_)
      refine ⟨⟨z_D, z_D⟩, ?_⟩
      refine TK.take 13 rfl (by decide +kernel) (by decide +kernel) (by decide +kernel) rfl (fun _ _ _ h => h) (fun L_ ⟨k1_, k2_⟩ => V1.assign' z_C) ?_
      refine TD.done (by decide +kernel) ?_
      refine T.ret ?_
      exact ⟨_, ⟨bt, 0, [.slice an s.names.length cn, iV (s.epoch), iV (s.says + 1), vk2, vb], 5⟩ :: (Ln ++ (Lb ++ (Lk2 ++ (Lc ++ (Z ++ ((⟨⟨b43, some 24⟩, 0, [.int .i64 1, .string (bstr (nmb sLink [w, s.epoch])), .slice none 0 0] ++ [.int .i64 1, .string (bstr (nmb sIndex [s.says + 1])), .slice none 0 0], 2 * 3⟩ : Blk) :: G)))))), _, .cons (.cellN z_C one_55 sz_55 (RdN.whole z_D) (by rfl)) (.cons (.tmp z_C) .nil), z_A, (⟨bt, 0, [.slice an s.names.length cn, iV (s.epoch), iV (s.says + 1), vk2, vb], 5⟩ :: (Ln ++ (Lb ++ Lk2))) ++ (Lc ++ (Z ++ [(⟨⟨b43, some 24⟩, 0, [.int .i64 1, .string (bstr (nmb sLink [w, s.epoch])), .slice none 0 0] ++ [.int .i64 1, .string (bstr (nmb sIndex [s.says + 1])), .slice none 0 0], 2 * 3⟩ : Blk)])), by simp only [List.cons_append, List.append_assoc, List.nil_append], _, (Lc ++ (Z ++ [(⟨⟨b43, some 24⟩, 0, [.int .i64 1, .string (bstr (nmb sLink [w, s.epoch])), .slice none 0 0] ++ [.int .i64 1, .string (bstr (nmb sIndex [s.says + 1])), .slice none 0 0], 2 * 3⟩ : Blk)])), _, rfl, rfl, ⟨vk2, Lk2, xk2, rfl, hsn, hsb, hsk2, hxk2.more (by simp only [List.append_assoc, List.cons_append, List.nil_append]; exact Inc.skip Inc.refl)⟩, ac, cc, rfl, hrc.more (by simp only [List.append_assoc]; exact Inc.here)⟩

end Go.Proofs.YtlpkcbkflfbclaaGreatDoor.S
