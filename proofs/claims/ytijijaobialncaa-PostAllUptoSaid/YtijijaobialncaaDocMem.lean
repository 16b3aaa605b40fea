/- The document's memory: it is only read, and grows. -/
import Derived.Test.YtijijaobialncaaDocSpec
import Derived.Test.YtijijaobialncaaOD
import Derived.Test.YtijijaobialncaaOpen
import Derived.Test.YtijijaobialncaaFrA
import Derived.ProofKit
import Derived.SizedLaws
import Derived.Test.YtijijaobialncaaFr5
namespace Go.Proofs.Ytijijaobialncaa.S
open Go.RowKit
abbrev strV (l : List UInt8) : Value := .string (bstr l)
/-- A frame that can be read, its data as well. -/
structure FrmS (w0 : World) (Ps : List Blk) (v : Value) (f : Frm) : Prop where
  form : ∃ sk sn ss sd, v = .agg (List.toArray [.int .i64 f.kind, sk, sn, ss, sd]) ∧ RowS w0 Ps 32 sk f.keys.length (f.keys.flatten.map byteV) ∧ RowS w0 Ps 1 sn f.nums.length (f.nums.map u32V) ∧ RowS w0 Ps 64 ss f.sigs.length (f.sigs.flatten.map byteV) ∧ RowS w0 Ps 1 sd f.data.length (f.data.map byteV)
  wf : f.Wf
  len : f.keys.length < 9223372036854775808 ∧ f.nums.length < 9223372036854775808 ∧ f.sigs.length < 9223372036854775808 ∧ f.data.length < 9223372036854775808
theorem FrmS.toR {w0 : World} {Ps : List Blk} {v : Value} {f : Frm} (h : FrmS w0 Ps v f) : FrmR w0 Ps v f := by
  obtain ⟨⟨sk, sn, ss, sd, e, h1, h2, h3, h4⟩, hw, _⟩ := h
  exact ⟨⟨sk, sn, ss, sd, e, h1, h2, h3, h4.row⟩, hw⟩
theorem FrmS.more {w0 : World} {Ps Qs : List Blk} {v : Value} {f : Frm} (h : FrmS w0 Ps v f) (hi : Inc Ps Qs) : FrmS w0 Qs v f := by
  obtain ⟨⟨sk, sn, ss, sd, e, h1, h2, h3, h4⟩, hw, hl⟩ := h
  exact ⟨⟨sk, sn, ss, sd, e, h1.more hi, h2.more hi, h3.more hi, h4.more hi⟩, hw, hl⟩
theorem FrmO.readS {cs : List Value} {f : Frm} {X Ps : List Blk} {w0 : World} (h : FrmO cs f X) (hw : f.Wf) (hf : f.Few) (hi : Inc X Ps) : FrmS w0 Ps (.agg cs.toArray) f := by
  obtain ⟨sk, sn, ss, sd, Xk, Xn, Xs, Xd, rfl, h1, h2, h3, h4, rfl⟩ := h
  have i1 : Inc Xk Ps := Inc.trans Inc.here hi
  have i2 : Inc (Xn ++ (Xs ++ Xd)) Ps := Inc.trans (Inc.skip Inc.refl) hi
  have i3 : Inc (Xs ++ Xd) Ps := Inc.trans (Inc.skip Inc.refl) i2
  have e1 := hf.keys
  have e2 := hf.nums
  have e3 := hf.sigs
  have e4 := hf.data
  exact ⟨⟨sk, sn, ss, sd, rfl, RowS.ofSl h1 i1 (by decide) _ (flat_mul _ hw.keys), RowS.ofSl h2 (Inc.trans Inc.here i2) (by decide) _ (by rw [List.length_map, Nat.mul_one]), RowS.ofSl h3 (Inc.trans Inc.here i3) (by decide) _ (flat_mul _ hw.sigs), RowS.ofSl h4 (Inc.trans (Inc.skip Inc.refl) i3) (by decide) _ (by rw [List.length_map, Nat.mul_one])⟩, hw, by omega, by omega, by omega, by omega⟩
theorem FrmS.is {w0 w : World} {Ps L : List Blk} {v : Value} {f : Frm} (h : FrmS w0 Ps v f) (hi : Inc Ps L) (hs : St w0 [] L w) : FrIs w v f.kind f.keys f.nums f.sigs f.data := by
  obtain ⟨⟨sk, sn, ss, sd, e, h1, h2, h3, h4⟩, hw, hl⟩ := h
  exact ⟨⟨sk, sn, ss, sd, e, h1.slR hi hs, h2.slR hi hs, h3.slR hi hs, h4.slR hi hs⟩, hw.keys, hw.nums, hw.sigs, hl⟩
def zeroF : Frm := ⟨0, [], [], [], []⟩
abbrev zeroC : List Value := [.int .i64 0, .slice none 0 0, .slice none 0 0, .slice none 0 0, .slice none 0 0]
theorem RowS.nil {w0 : World} {Ps : List Blk} {k : Nat} : RowS w0 Ps k (.slice none 0 0) 0 [] := ⟨RowR.nil, .inl (.inl rfl)⟩
theorem zeroF_is {w0 : World} {Ps : List Blk} : FrmS w0 Ps (.agg zeroC.toArray) zeroF :=
  ⟨⟨_, _, _, _, rfl, RowS.nil, RowS.nil, RowS.nil, RowS.nil⟩, ⟨by simp [zeroF], by simp [zeroF], by simp [zeroF]⟩, by simp [zeroF]⟩
/-- Rows of so many cells each, in one row. -/
theorem flatk {k : Nat} : ∀ {css : List (List Value)}, (∀ cs ∈ css, cs.length = k) → css.flatten.length = css.length * k
  | [], _ => by simp
  | c :: css, h => by rw [List.flatten_cons, List.length_append, h c (by simp), flatk fun x hx => h x (by simp [hx]), List.length_cons, Nat.add_mul]; omega
theorem flatk_at {k : Nat} : ∀ {css : List (List Value)} {i : Nat} {cs : List Value}, (∀ cs ∈ css, cs.length = k) → css[i]? = some cs → ∃ a b, css.flatten = a ++ (cs ++ b) ∧ a.length = i * k ∧ ∀ cs', (css.set i cs').flatten = a ++ (cs' ++ b)
  | c :: css, 0, cs, _, h => by simp at h; subst h; exact ⟨[], css.flatten, by simp, by simp, fun cs' => by simp⟩
  | c :: css, i + 1, cs, h5, h => by
    obtain ⟨a, b, h1, h2, h3⟩ := flatk_at (css := css) (fun x hx => h5 x (by simp [hx])) (by simpa using h)
    exact ⟨c ++ a, b, by rw [List.flatten_cons, h1, List.append_assoc], by rw [List.length_append, h5 c (by simp), h2, Nat.add_mul]; omega, fun cs' => by rw [List.set_cons_succ, List.flatten_cons, h3, List.append_assoc]⟩
theorem RdN.midk {C : Ctx} {L : List Blk} {b o : Nat} {a xs ys : List Value} {k : Nat} (h : RdN C L ⟨b, o, none⟩ (a ++ (xs ++ ys))) (ha : a.length = k) : RdN C L ⟨b, o + k, none⟩ xs := RdN.mid5 h ha
/-- A piece of a row. -/
def sliceV (a : Option Addr) (c k l h : Nat) : Value := match a with
  | none => .slice none 0 0
  | some ⟨b, o, sp⟩ => .slice (some ⟨b, if c = l then o else o + l * k, if c = l then sp else none⟩) (h - l) (c - l)
theorem RowS.slice {w0 : World} {Ps : List Blk} {k n c l h : Nat} {a : Option Addr} {vs : List Value} (hr : RowS w0 Ps k (.slice a n c) n vs) (h1 : l ≤ h) (h2 : h ≤ n) : RowS w0 Ps k (sliceV a c k l h) (h - l) ((vs.drop (l * k)).take ((h - l) * k)) := by
  have hl := hr.row.len
  rcases hr.cap with (h0 | ⟨⟨b, o, sp⟩, h0⟩) | ⟨b, o, c', h0, hc⟩
  · cases h0
    obtain rfl : h = 0 := by omega
    obtain rfl : l = 0 := by omega
    simp [sliceV]
    exact RowS.nil
  · cases h0
    obtain rfl : h = 0 := by omega
    obtain rfl : l = 0 := by omega
    simp [sliceV]
    exact ⟨RowR.odd, .inl (.inr ⟨_, rfl⟩)⟩
  · cases h0
    have hsv : sliceV (some ⟨b, o, none⟩) c k l h = .slice (some ⟨b, if c = l then o else o + l * k, none⟩) (h - l) (c - l) := by show Value.slice (some ⟨b, if c = l then o else o + l * k, if c = l then none else none⟩) (h - l) (c - l) = _; rw [show (if c = l then (none : Option Nat) else none) = none from by split <;> rfl]
    rw [hsv]
    refine ⟨?_, .inr ⟨b, _, c - l, rfl, by omega⟩⟩
    show RowR w0 Ps k (.slice (some ⟨b, if c = l then o else o + l * k, none⟩) (h - l) (c - l)) (h - l) _
    rcases Nat.eq_zero_or_pos (h - l) with h3 | h3
    · rw [h3, Nat.zero_mul, List.take_zero]; exact RowR.odd
    · rw [if_neg (by omega)]
      have hn : 0 < n := by omega
      obtain ⟨b', o', e, hrd⟩ := hr.row.at hn P
      cases e
      have hm : h * k ≤ n * k := Nat.mul_le_mul_right _ h2
      have hm2 : l * k + (h - l) * k = h * k := by rw [← Nat.add_mul]; congr 1; omega
      have hlen : ((vs.drop (l * k)).take ((h - l) * k)).length = (h - l) * k := by rw [List.length_take, List.length_drop]; omega
      refine ⟨⟨_, _, rfl⟩, hlen, fun C e1 e2 L hL => .sl (fun i v hv => ?_) hlen⟩
      rw [List.getElem?_take] at hv
      split at hv
      · rw [List.getElem?_drop] at hv
        have := hrd C e1 e2 L hL (l * k + i) v hv
        show Rd C L ⟨b, o + l * k + i, none⟩ v
        rw [Nat.add_assoc]; exact this
      · cases hv
theorem sliceV_form {w0 : World} {Ps : List Blk} {k n c l h : Nat} {a : Option Addr} {vs : List Value} (hr : RowS w0 Ps k (.slice a n c) n vs) (h1 : l ≤ h) (h2 : h ≤ n) : ∃ a' c', sliceV a c k l h = .slice a' (h - l) c' := (hr.slice h1 h2).row.form
section
variable {C : Ctx} {e : Env} {L : List Blk} {dst : Option Tmp} {ty : TypeId} {pos : String} {after : Array Edge} {guard : Option (Nat × Bool)}
theorem V1.sliceRow {t el : TypeId} {x : Operand} {lo hi : Option Operand} {w0 : World} {Ps : List Blk} {k n c : Nat} {a : Option Addr} {vs : List Value} (hT : C.P.underlying t = some (.slice el)) (hk : SizeIs C.P el k) (hx : ev C.n e x = .slice a n c) (hr : RowS w0 Ps k (.slice a n c) n vs) (l h : Nat)
    (hl : bd C.n e lo 0 = some (l : Int)) (hh : bd C.n e hi n = some (h : Int)) (h1 : l ≤ h) (h2 : h ≤ n) : V1 C ⟨dst, .slice t x lo hi none, ty, pos, after, guard⟩ e L (sliceV a c k l h) := by
  rcases hr.cap with (h0 | ⟨⟨b, o, sp⟩, h0⟩) | ⟨b, o, c', h0, hc⟩
  · cases h0
    obtain rfl : h = 0 := by omega
    obtain rfl : l = 0 := by omega
    exact V1.sliceNil hT hk hx hl hh
  · cases h0
    obtain rfl : h = 0 := by omega
    obtain rfl : l = 0 := by omega
    exact V1.sliceOdd hT hk hx hl hh
  · cases h0
    have hsv : sliceV (some ⟨b, o, none⟩) c k l h = .slice (some ⟨b, if c = l then o else o + l * k, none⟩) (h - l) (c - l) := by show Value.slice (some ⟨b, if c = l then o else o + l * k, if c = l then none else none⟩) (h - l) (c - l) = _; rw [show (if c = l then (none : Option Nat) else none) = none from by split <;> rfl]
    rw [hsv]
    exact V1.sliceAny l h hT hk hx hl hh h1 (by omega)
end
/-- Frames that can be read. -/
structure FrsS (w0 : World) (Ps : List Blk) (v : Value) (fs : List Frm) (css : List (List Value)) : Prop where
  row : RowS w0 Ps 5 v fs.length css.flatten
  len : css.length = fs.length
  each : ∀ (i : Nat) (f : Frm) (cs : List Value), fs[i]? = some f → css[i]? = some cs → FrmS w0 Ps (.agg cs.toArray) f
theorem FrsS.five {w0 : World} {Ps : List Blk} {v : Value} {fs : List Frm} {css : List (List Value)} (h : FrsS w0 Ps v fs css) : ∀ cs ∈ css, cs.length = 5 ∧ ∀ u ∈ cs, one u = true := fun cs hc => by
  obtain ⟨i, hi⟩ := List.getElem?_of_mem hc
  have hl := (List.getElem?_eq_some_iff.1 hi).1
  have := (h.each i _ cs (List.getElem?_eq_getElem (by rw [← h.len]; exact hl)) hi).toR.cells2
  exact ⟨this.1, this.2.1⟩
theorem FrsS.toR {w0 : World} {Ps : List Blk} {v : Value} {fs : List Frm} {css : List (List Value)} (h : FrsS w0 Ps v fs css) : FrsR w0 Ps v fs css := ⟨h.row.row, h.len, h.five, fun i f cs h1 h2 => (h.each i f cs h1 h2).toR⟩
theorem FrsS.more {w0 : World} {Ps Qs : List Blk} {v : Value} {fs : List Frm} {css : List (List Value)} (h : FrsS w0 Ps v fs css) (hi : Inc Ps Qs) : FrsS w0 Qs v fs css := ⟨h.row.more hi, h.len, fun i f cs h1 h2 => (h.each i f cs h1 h2).more hi⟩
theorem FrsS.nil {w0 : World} {Ps : List Blk} : FrsS w0 Ps (.slice none 0 0) [] [] := ⟨RowS.nil, rfl, fun i f cs h1 _ => by simp at h1⟩
theorem FrsS.at {w0 : World} {Ps : List Blk} {a : Option Addr} {n c i : Nat} {fs : List Frm} {css : List (List Value)} {f : Frm} (h : FrsS w0 Ps (.slice a n c) fs css) (hf : fs[i]? = some f) : ∃ b o cs, a = some ⟨b, o, none⟩ ∧ css[i]? = some cs ∧ FrmS w0 Ps (.agg cs.toArray) f ∧ cs.length = 5 ∧ (∀ u ∈ cs, one u = true) ∧ ∀ C : Ctx, C.w0 = w0 → C.M = [] → ∀ L, Inc Ps L → RdN C L ⟨b, o + i * 5, none⟩ cs := by
  have hl := (List.getElem?_eq_some_iff.1 hf).1
  obtain ⟨a', c', e⟩ := h.row.row.form
  cases e
  obtain ⟨b, o, e, hr⟩ := h.row.row.at (by omega) P
  have hcl : i < css.length := by rw [h.len]; exact hl
  have hc : css[i]? = some css[i] := List.getElem?_eq_getElem hcl
  have hfv := h.five _ (List.mem_of_getElem? hc)
  obtain ⟨x, y, h1, h2, _⟩ := flatk_at (k := 5) (fun cs hc => (h.five cs hc).1) hc
  exact ⟨b, o, _, e, hc, h.each i f _ hf hc, hfv.1, hfv.2, fun C e1 e2 L hL => RdN.midk (a := x) (ys := y) (by rw [← h1]; exact hr C e1 e2 L hL) h2⟩
theorem FrsS.tail {w0 : World} {Ps : List Blk} {a : Option Addr} {n c : Nat} {f : Frm} {fs : List Frm} {css : List (List Value)} (h : FrsS w0 Ps (.slice a n c) (f :: fs) css) : ∃ cs css', css = cs :: css' ∧ FrsS w0 Ps (sliceV a c 5 1 n) fs css' := by
  obtain ⟨a', c', e⟩ := h.row.row.form
  cases e
  match css, h with
  | [], h => have := h.len; simp at this
  | cs :: css', h =>
    have h5 := (h.five cs (List.mem_cons_self ..)).1
    have hs := h.row.slice (l := 1) (h := (f :: fs).length) (by simp) (Nat.le_refl _)
    have hlen : css'.length = fs.length := by have := h.len; simpa using this
    have hfl : ((List.drop (1 * 5) (cs :: css').flatten).take (((f :: fs).length - 1) * 5)) = css'.flatten := by
      rw [List.flatten_cons, Nat.one_mul, List.drop_left' h5, List.length_cons, Nat.add_sub_cancel, List.take_of_length_le]
      rw [flatk (k := 5) (fun c hc => (h.five c (List.mem_cons_of_mem _ hc)).1), hlen]; exact Nat.le_refl _
    rw [hfl] at hs
    exact ⟨cs, css', rfl, hs, hlen, fun i g c hg hc => h.each (i + 1) g c (by simpa using hg) (by simpa using hc)⟩
/-- Somebody, as the document has him. -/
def PerR (w0 : World) (Ps : List Blk) (d : Pr) (cs : List Value) : Prop :=
  ∃ so sn sb oc nc, cs = [.int .i64 (d.name : Nat), so, sn, sb] ∧ FrsS w0 Ps so d.offer.toList oc ∧ FrsS w0 Ps sn d.once nc ∧ RowS w0 Ps 1 sb d.box.length (d.box.map strV)
theorem PerR.more {w0 : World} {Ps Qs : List Blk} {d : Pr} {cs : List Value} (h : PerR w0 Ps d cs) (hi : Inc Ps Qs) : PerR w0 Qs d cs := by
  obtain ⟨so, sn, sb, oc, nc, e, h1, h2, h3⟩ := h
  exact ⟨so, sn, sb, oc, nc, e, h1.more hi, h2.more hi, h3.more hi⟩
theorem PerR.ones {w0 : World} {Ps : List Blk} {d : Pr} {cs : List Value} (h : PerR w0 Ps d cs) : cs.length = 4 ∧ ∀ u ∈ cs, one u = true := by
  obtain ⟨so, sn, sb, oc, nc, rfl, h1, h2, h3⟩ := h
  obtain ⟨a1, c1, rfl⟩ := h1.row.row.form
  obtain ⟨a2, c2, rfl⟩ := h2.row.row.form
  obtain ⟨a3, c3, rfl⟩ := h3.row.form
  refine ⟨rfl, fun u hu => ?_⟩
  simp only [List.mem_cons, List.not_mem_nil, or_false] at hu
  rcases hu with rfl | rfl | rfl | rfl <;> rfl
/-- The document's people. -/
structure DocC (w0 : World) (Ps : List Blk) (v : Value) (ds : List Pr) (css : List (List Value)) : Prop where
  row : RowS w0 Ps 4 v ds.length css.flatten
  len : css.length = ds.length
  each : ∀ (i : Nat) (d : Pr) (cs : List Value), ds[i]? = some d → css[i]? = some cs → PerR w0 Ps d cs
def DocR (w0 : World) (Ps : List Blk) (v : Value) (ds : List Pr) : Prop := ∃ css, DocC w0 Ps v ds css
theorem DocC.four {w0 : World} {Ps : List Blk} {v : Value} {ds : List Pr} {css : List (List Value)} (h : DocC w0 Ps v ds css) : ∀ cs ∈ css, cs.length = 4 ∧ ∀ u ∈ cs, one u = true := fun cs hc => by
  obtain ⟨i, hi⟩ := List.getElem?_of_mem hc
  have hl := (List.getElem?_eq_some_iff.1 hi).1
  exact (h.each i _ cs (List.getElem?_eq_getElem (by rw [← h.len]; exact hl)) hi).ones
theorem DocC.ones {w0 : World} {Ps : List Blk} {v : Value} {ds : List Pr} {css : List (List Value)} (h : DocC w0 Ps v ds css) : ∀ u ∈ css.flatten, one u = true := fun u hu => by
  obtain ⟨cs, hc, hu⟩ := List.mem_flatten.1 hu
  exact (h.four cs hc).2 u hu
theorem DocC.more {w0 : World} {Ps Qs : List Blk} {v : Value} {ds : List Pr} {css : List (List Value)} (h : DocC w0 Ps v ds css) (hi : Inc Ps Qs) : DocC w0 Qs v ds css := ⟨h.row.more hi, h.len, fun i d cs h1 h2 => (h.each i d cs h1 h2).more hi⟩
theorem DocR.nil {w0 : World} {Ps : List Blk} : DocR w0 Ps (.slice none 0 0) [] := ⟨[], RowS.nil, rfl, fun i d cs h1 _ => by simp at h1⟩
theorem DocC.at {w0 : World} {Ps : List Blk} {a : Option Addr} {n c i : Nat} {ds : List Pr} {css : List (List Value)} {d : Pr} (h : DocC w0 Ps (.slice a n c) ds css) (hd : ds[i]? = some d) : ∃ b o so sn sb oc nc, a = some ⟨b, o, none⟩ ∧ css[i]? = some [.int .i64 (d.name : Nat), so, sn, sb] ∧ FrsS w0 Ps so d.offer.toList oc ∧ FrsS w0 Ps sn d.once nc ∧ RowS w0 Ps 1 sb d.box.length (d.box.map strV) ∧
    ∀ C : Ctx, C.w0 = w0 → C.M = [] → ∀ L, Inc Ps L → RdN C L ⟨b, o + i * 4, none⟩ [.int .i64 (d.name : Nat), so, sn, sb] := by
  have hl := (List.getElem?_eq_some_iff.1 hd).1
  obtain ⟨a', c', e⟩ := h.row.row.form
  cases e
  obtain ⟨b, o, e, hr⟩ := h.row.row.at (by omega) P
  have hcl : i < css.length := by rw [h.len]; exact hl
  have hc : css[i]? = some css[i] := List.getElem?_eq_getElem hcl
  obtain ⟨so, sn, sb, oc, nc, e4, p1, p2, p3⟩ := h.each i d _ hd hc
  rw [e4] at hc
  obtain ⟨x, y, h1, h2, _⟩ := flatk_at (k := 4) (fun cs hc => (h.four cs hc).1) hc
  exact ⟨b, o, so, sn, sb, oc, nc, e, hc, p1, p2, p3, fun C e1 e2 L hL => RdN.midk (a := x) (ys := y) (by rw [← h1]; exact hr C e1 e2 L hL) h2⟩
/-- One of them turned, in memory of one's own. -/
theorem DocC.set {w0 : World} {Ps : List Blk} {b off size cap i : Nat} {ds : List Pr} {css : List (List Value)} {d' : Pr} {cs' : List Value} {a0 : Option Addr} {n0 c0 : Nat} (h : DocC w0 Ps (.slice a0 n0 c0) ds css) (hi : i < ds.length) (hd : PerR w0 Ps d' cs') (hc : ds.length ≤ cap) {Qs : List Blk} (hq : Inc Ps Qs) (hB : (⟨b, off, (css.set i cs').flatten, size⟩ : Blk) ∈ Qs) : DocC w0 Qs (.slice (some ⟨b, off, none⟩) ds.length cap) (ds.set i d') (css.set i cs') := by
  have h4 : ∀ c ∈ css.set i cs', c.length = 4 := fun c hc => by
    rcases List.mem_or_eq_of_mem_set hc with hc | rfl
    · exact (h.four c hc).1
    · exact hd.ones.1
  refine ⟨⟨?_, .inr ⟨b, off, cap, by rw [List.length_set], by rw [List.length_set]; exact hc⟩⟩, by rw [List.length_set, List.length_set, h.len], fun j d cs h1 h2 => ?_⟩
  · rw [List.length_set]
    exact RowR.own (tg := none) (size := size) hB (by rw [flatk h4, List.length_set, h.len])
  · rw [List.getElem?_set] at h1 h2
    by_cases hij : i = j
    · subst hij
      rw [if_pos rfl, if_pos hi] at h1
      rw [if_pos rfl, if_pos (by rw [h.len]; exact hi)] at h2
      cases h1; cases h2; exact hd.more hq
    · rw [if_neg hij] at h1 h2
      exact (h.each j d cs h1 h2).more hq
theorem put_set {css : List (List Value)} {i : Nat} {cs cs' : List Value} (h4 : ∀ cs ∈ css, cs.length = 4) (hc : css[i]? = some cs) (hl : cs'.length = 4) : putN css.flatten (i * 4) cs' = (css.set i cs').flatten := by
  obtain ⟨a, b, h1, h2, h3⟩ := flatk_at h4 hc
  have hcl := h4 cs (List.mem_of_getElem? hc)
  rw [h3, h1, putN, List.take_left' h2, ← List.append_assoc, List.drop_left' (by rw [List.length_append, h2, hcl, hl]), List.append_assoc]
theorem RdN.i1 {C : Ctx} {L : List Blk} {b o i : Nat} {vs : List Value} {v : Value} (h : RdN C L ⟨b, o, none⟩ vs) (hv : vs[i]? = some v) : Rd C L ⟨b, o + i * 1, none⟩ v := by rw [Nat.mul_one]; exact h i v hv
theorem find_first {ds : List Pr} {n i : Nat} {d : Pr} (h : ∀ x ∈ ds.take i, x.name ≠ n) (hd : ds[i]? = some d) (hn : d.name = n) : findP ds n = some d := by
  obtain ⟨hl, hg⟩ := List.getElem?_eq_some_iff.1 hd
  unfold findP
  refine List.find?_eq_some_iff_append.2 ⟨by simpa using hn, ds.take i, ds.drop (i + 1), by rw [← hg, ← List.drop_eq_getElem_cons hl, List.take_append_drop], fun x hx => by simpa using h x hx⟩
theorem piece_flat {css : List (List Value)} {k l h : Nat} (h4 : ∀ cs ∈ css, cs.length = k) (h2 : h ≤ css.length) : (css.flatten.drop (l * k)).take ((h - l) * k) = ((css.drop l).take (h - l)).flatten := by
  have hd : ∀ (l : Nat) (css : List (List Value)), (∀ cs ∈ css, cs.length = k) → css.flatten.drop (l * k) = (css.drop l).flatten := by
    intro l
    induction l with
    | zero => intro css _; simp
    | succ l ih =>
      intro css hc
      match css, hc with
      | [], _ => simp
      | c :: css, hc =>
        rw [List.flatten_cons, List.drop_succ_cons, Nat.add_mul, Nat.one_mul, Nat.add_comm, ← List.drop_drop, List.drop_left' (hc c (by simp))]
        exact ih css fun x hx => hc x (by simp [hx])
  have ht : ∀ (m : Nat) (css : List (List Value)), (∀ cs ∈ css, cs.length = k) → css.flatten.take (m * k) = (css.take m).flatten := by
    intro m
    induction m with
    | zero => intro css _; simp
    | succ m ih =>
      intro css hc
      match css, hc with
      | [], _ => simp
      | c :: css, hc =>
        rw [List.flatten_cons, List.take_succ_cons, List.flatten_cons, List.take_append, hc c (by simp), List.take_of_length_le (by rw [hc c (by simp), Nat.add_mul]; omega), Nat.add_mul, Nat.one_mul, Nat.add_sub_cancel, ih css fun x hx => hc x (by simp [hx])]
  rw [hd l css h4, ht (h - l) _ (fun cs hc => h4 cs (List.mem_of_mem_drop hc))]
/-- One more let in, in memory of one's own. -/
theorem DocC.joined {w0 : World} {Ps Qs Ls : List Blk} {a : Option Addr} {m c k : Nat} {ds : List Pr} {css : List (List Value)} {d : Pr} {cs : List Value} {s : Value} (h : DocC w0 Ps (.slice a m c) ds css) (hk : k ≤ ds.length) (hd : PerR w0 Qs d cs) (hq : Inc Ps Qs) (hs : Sl s ((css.take k).flatten ++ cs ++ (css.drop k).flatten) 4 Ls) (hl : Inc Ls Qs) : DocC w0 Qs s (ds.take k ++ d :: ds.drop k) (css.take k ++ cs :: css.drop k) := by
  have hlen := h.len
  have e1 : (ds.take k ++ d :: ds.drop k).length = ds.length + 1 := by rw [List.length_append, List.length_cons, List.length_take, List.length_drop]; omega
  have e2 : (css.take k ++ cs :: css.drop k).length = ds.length + 1 := by rw [List.length_append, List.length_cons, List.length_take, List.length_drop]; omega
  have hfl : (css.take k ++ cs :: css.drop k).flatten = (css.take k).flatten ++ cs ++ (css.drop k).flatten := by simp
  have h4 : ∀ c ∈ css.take k ++ cs :: css.drop k, c.length = 4 := fun x hx => by
    rcases List.mem_append.1 hx with hx | hx
    · exact (h.four x (List.mem_of_mem_take hx)).1
    · rcases List.mem_cons.1 hx with rfl | hx
      · exact hd.ones.1
      · exact (h.four x (List.mem_of_mem_drop hx)).1
  refine ⟨?_, by rw [e1, e2], fun i g x h1 h2 => ?_⟩
  · rw [e1, hfl]
    refine RowS.ofSl hs hl (by decide) _ ?_
    rw [← hfl, flatk h4, e2]
  · have l1 : (ds.take k).length = k := by rw [List.length_take]; omega
    have l2 : (css.take k).length = k := by rw [List.length_take]; omega
    rcases Nat.lt_trichotomy i k with hi | hi | hi
    · rw [List.getElem?_append_left (by omega), List.getElem?_take, if_pos hi] at h1 h2
      exact (h.each i g x h1 h2).more hq
    · subst hi
      rw [List.getElem?_append_right (by omega), l1, Nat.sub_self] at h1
      rw [List.getElem?_append_right (by omega), l2, Nat.sub_self] at h2
      simp at h1 h2; subst h1; subst h2; exact hd
    · rw [List.getElem?_append_right (by omega), l1, show i - k = (i - k - 1) + 1 by omega, List.getElem?_cons_succ, List.getElem?_drop] at h1
      rw [List.getElem?_append_right (by omega), l2, show i - k = (i - k - 1) + 1 by omega, List.getElem?_cons_succ, List.getElem?_drop] at h2
      exact (h.each _ g x h1 h2).more hq
section
variable {C : Ctx} {K : Env → List Blk → Prop} {e : Env} {L : List Blk} {dst : Option Tmp} {ty : TypeId} {pos : String} {after : Array Edge} {guard : Option (Nat × Bool)}
theorem T1.storeK {t : TypeId} {x y : Operand} {b o off size k : Nat} {tg : Option TypeId} {cells cells' vs : List Value} {L' : List Blk} (hp : ev C.n e x = .pointer (some ⟨b, o, none⟩)) (hv : ev C.n e y = .agg vs.toArray) (hk : SizeIs C.P t k) (hl : vs.length = k) (h1 : off ≤ o) (h2 : o + k ≤ off + cells.length) (hone : ∀ u ∈ vs, one u = true)
    (hset : putN cells (o - off) vs = cells') (hu : Sub L [⟨⟨b, tg⟩, off, cells, size⟩] L' [⟨⟨b, tg⟩, off, cells', size⟩]) (kk : K (putO e dst undef) L') : T1 C ⟨dst, .store t x y, ty, pos, after, guard⟩ K e L := by
  subst hset
  refine T1.store (tg := tg) (cells := cells) (off := off) (size := size) hp hv (by subst hl; simpa [Value.cells] using hk) h1 (by simp [Value.cells, hl]; exact h2) (by simpa [Value.cells] using hone) (L' := L') ?_ kk
  simp only [Value.cells]; exact hu
end
end Go.Proofs.Ytijijaobialncaa.S
