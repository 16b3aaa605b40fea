/- Structs of arrays: put together, and a field taken; pieces of blocks; parts put behind parts. Holds for every program. -/
import Derived.Test.YtfjedhmffccgnaaGreatDoorOps9
namespace Go.Proofs.YtfjedhmffccgnaaGreatDoor.S
open Go.RowKit
theorem SetN.mid : ∀ (pre old vs post : List Value), old.length = vs.length → SetN (pre ++ (old ++ post)) pre.length vs (pre ++ (vs ++ post))
 | [], [], [], post, _ => .done
 | [], _ :: old, v :: vs, post, h => .here (SetN.mid [] old vs post (by simpa using h))
 | p :: pre, old, vs, post, h => .there (SetN.mid pre old vs post h)
def offsL : Nat → List (List Value) → List (Nat × List Value)
  | _, [] => []
  | n, s :: ss => (n, s) :: offsL (n + s.length) ss
theorem FillL.segs : ∀ (ss : List (List Value)) (pre zl : List Value), zl.length = ss.flatten.length → FillL (pre ++ zl) (offsL pre.length ss) (pre ++ ss.flatten)
 | [], pre, zl, h => by
  obtain rfl : zl = [] := List.eq_nil_of_length_eq_zero (by simpa using h)
  exact .nil
 | s :: ss, pre, zl, h => by
  rw [List.flatten_cons, List.length_append] at h
  have h1 : zl = zl.take s.length ++ zl.drop s.length := (List.take_append_drop ..).symm
  have l1 : (zl.take s.length).length = s.length := by rw [List.length_take]; omega
  rw [h1]
  refine .cons (SetN.mid pre (zl.take s.length) s (zl.drop s.length) l1) ?_
  have := FillL.segs ss (pre ++ s) (zl.drop s.length) (by rw [List.length_drop]; omega)
  rw [List.length_append, List.append_assoc, List.append_assoc] at this
  rw [List.flatten_cons]; exact this
theorem FillL.of_segs {zl : List Value} {qs : List (Nat × List Value)} {out : List Value} (ss : List (List Value)) (hq : qs = offsL 0 ss) (hl : zl.length = ss.flatten.length) (ho : out = ss.flatten) : FillL zl qs out := by
 subst hq ho
 have := FillL.segs ss [] zl hl
 simpa using this
def fieldTy (P : Program) (s : TypeId) (f : Nat) : Option (Nat × TypeId) :=
  match P.underlying s with
  | some (.struct fields) => (fields[f]?).map fun fl => (fl.offset, fl.type)
  | _ => none
section
variable {C : Ctx} {e : Env} {L : List Blk} {dst : Option Tmp} {ty : TypeId} {pos : String} {after : Array Edge} {guard : Option (Nat × Bool)}
theorem V1.fieldG {s : TypeId} {x : Operand} {f o : Nat} {t : TypeId} {cs : Array Value} {v : Value} (hF : fieldTy C.P s f = some (o, t)) (hx : ev C.n e x = .agg cs) (hv : ∀ w, (part t cs o).run C.P w = .ok v w) : V1 C ⟨dst, .field s x f, ty, pos, after, guard⟩ e L v := by
 unfold fieldTy at hF
 split at hF
 ·
  rename_i fields hT
  obtain ⟨fl, h1, h2⟩ := Option.map_eq_some_iff.1 hF
  simp only [Prod.mk.injEq] at h2
  obtain ⟨rfl, rfl⟩ := h2
  exact V1.field hT h1 hx hv
 · cases hF
theorem V1.fieldN {s : TypeId} {x : Operand} {f o k : Nat} {t : TypeId} {vs us : List Value} (hF : fieldTy C.P s f = some (o, t)) (hT : OneT C.P t false) (hk : SizeIs C.P t k) (hx : ev C.n e x = .agg vs.toArray) (hu : (vs.drop o).take k = us) : V1 C ⟨dst, .field s x f, ty, pos, after, guard⟩ e L (.agg us.toArray) := by
 refine V1.fieldG hF hx fun w => ?_
 rw [run_partN hT hk]
 subst hu
 have : (vs.toArray.extract o (o + k)) = ((vs.drop o).take k).toArray := by
  rw [List.extract_toArray]
  show ((vs.drop o).take (o + k - o)).toArray = _
  rw [Nat.add_sub_cancel_left]
 rw [this]
end
theorem RowR.piece {w0 : World} {Ps : List Blk} {k n b off o c size : Nat} {cells vs : List Value} (hB : (⟨b, off, cells, size⟩ : Blk) ∈ Ps) (hp : (cells.drop o).take (n * k) = vs) (hl : vs.length = n * k) : RowR w0 Ps k (.slice (some ⟨b, off + o, none⟩) n c) n vs :=
 ⟨⟨_, _, rfl⟩, hl, fun C _ _ L hL => .sl (by rw [← hp]; exact RdN.sub (hL.find hB)) hl⟩
theorem RowR.part {w0 : World} {Ps : List Blk} {v : Value} {p : List UInt8} {n : Nat} (hn : p.length = n) (h : RowR w0 Ps 1 v n (p.map byteV)) : PartR w0 Ps v p := by
 subst hn; exact ⟨h.form, h.src⟩
theorem PartsR.ofSl {w0 : World} {Ps Ls : List Blk} {s : Value} {svs : List Value} {ps : List (List UInt8)} {tg : Option TypeId} (h : SlG tg s svs 1 Ls) (hi : Inc Ls Ps) (hl : svs.length = ps.length) (hel : ∀ (i : Nat) (sv : Value) (p : List UInt8), svs[i]? = some sv → ps[i]? = some p → PartR w0 Ps sv p) : PartsR w0 Ps s ps := by
 have r := RowR.ofSl (w0 := w0) h hi ze ps.length zw
 exact ⟨r.form, svs, hl, r.src, hel⟩
theorem PartsR.more {w0 : World} {Ps Qs : List Blk} {v : Value} {ps : List (List UInt8)} (h : PartsR w0 Ps v ps) (hi : Inc Ps Qs) : PartsR w0 Qs v ps := by
 obtain ⟨hf, svs, hl, hs, hel⟩ := h
 exact ⟨hf, svs, hl, fun C h0 hm L hL => hs C h0 hm L (hi.trans hL), fun i sv p h1 h2 => (hel i sv p h1 h2).more hi⟩
theorem PartsR.svs {w0 : World} {Ps : List Blk} {v : Value} {ps : List (List UInt8)} (h : PartsR w0 Ps v ps) : ∃ svs : List Value, svs.length = ps.length ∧ (∀ u ∈ svs, one u = true) ∧ (∀ C : Ctx, C.w0 = w0 → C.M = [] → ∀ L, Inc Ps L → Src C L 1 v ps.length svs) ∧ ∀ (i : Nat) (sv : Value) (p : List UInt8), svs[i]? = some sv → ps[i]? = some p → PartR w0 Ps sv p := by
 obtain ⟨_, svs, hl, hs, hel⟩ := h
 refine ⟨svs, hl, fun u hu => ?_, hs, hel⟩
 obtain ⟨i, hi, rfl⟩ := List.mem_iff_getElem.1 hu
 have := hel i svs[i] (ps[i]'(by omega)) (List.getElem?_eq_getElem hi) (List.getElem?_eq_getElem zw)
 obtain ⟨a, c, hv⟩ := this.form
 rw [hv]; rfl
theorem FnX.v {P : Program} {f : FuncId} {as : List Value} {w0 : World} {Ps : List Blk} {x : Value} (h : ∀ Qs, Inc Ps Qs → FnX P f as w0 [] Qs (fun v Y => v = x ∧ Y = Qs)) : FnV P f as w0 Ps (fun v => v = x) := fun G w hG hs => by
 have := h G hG [] w (by simpa using hs)
 exact this.mono fun _ _ ⟨v, Y, h1, h2, h3, h4⟩ => ⟨v, [], h1, by subst h4; simpa using h2, rfl, h3⟩
theorem EvsP.consts {n : FrS} {e : Env} : ∀ vs : List Value, Evs n e (vs.map Operand.const) vs
 | [] => .nil
 | _ :: vs => .cons rfl (EvsP.consts vs)
theorem FillL.segsR : ∀ (ss : List (List Value)) (pre zl : List Value), ss.flatten.length ≤ zl.length → FillL (pre ++ zl) (offsL pre.length ss) (pre ++ (ss.flatten ++ zl.drop ss.flatten.length))
 | [], pre, zl, _ => by simp only [List.flatten_nil, List.nil_append, List.length_nil, List.drop_zero]; exact .nil
 | s :: ss, pre, zl, h => by
  rw [List.flatten_cons, List.length_append] at h
  have h1 : zl = zl.take s.length ++ zl.drop s.length := (List.take_append_drop ..).symm
  have l1 : (zl.take s.length).length = s.length := by rw [List.length_take]; omega
  have := FillL.segsR ss (pre ++ s) (zl.drop s.length) (by rw [List.length_drop]; omega)
  rw [List.length_append, List.append_assoc, List.append_assoc, List.drop_drop] at this
  rw [List.flatten_cons, List.length_append, List.append_assoc]
  refine .cons (l1 := pre ++ (s ++ zl.drop s.length)) ?_ this
  have m := SetN.mid pre (zl.take s.length) s (zl.drop s.length) l1
  rw [← h1] at m; exact m
theorem FillL.of_segsR {zl : List Value} {qs : List (Nat × List Value)} {out : List Value} (ss : List (List Value)) (hq : qs = offsL 0 ss) (hl : ss.flatten.length ≤ zl.length) (ho : out = ss.flatten ++ zl.drop ss.flatten.length) : FillL zl qs out := by
 subst hq ho
 have := FillL.segsR ss [] zl hl
 simpa using this
theorem SlG.form2 {tg : Option TypeId} {v : Value} {vs : List Value} {k n : Nat} {Ls : List Blk} (h : SlG tg v vs k Ls) (hk : 0 < k) (hn : vs.length = n * k) : ∃ a c, v = .slice a n c := by
 rcases h with ⟨rfl, rfl, _⟩ | ⟨b, off, len, cap, size, rfl, h1, _⟩
 ·
  have : n = 0 := by
   rcases Nat.eq_zero_or_pos n with h | h
   · exact h
   · have := Nat.mul_pos h hk; simp at hn; omega
  subst this; exact ⟨_, _, rfl⟩
 ·
  obtain rfl : n = len := Nat.eq_of_mul_eq_mul_right hk zw
  exact ⟨_, _, rfl⟩
end Go.Proofs.YtfjedhmffccgnaaGreatDoor.S
namespace Go.Proofs.YtfjedhmffccgnaaGreatDoor.S
open Go.RowKit
structure Mb where
  name : Nat
  adm : Bool
  sg : List UInt8
  ag : List UInt8
def mbC (m : Mb) : List Value := .int .u32 (m.name : Nat) :: .bool m.adm :: (m.sg ++ m.ag).map byteV
structure Mb.ok (m : Mb) : Prop where
  nm : m.name < 4294967296
  sg : m.sg.length = 32
  ag : m.ag.length = 32
theorem mbC_len {m : Mb} (h : m.ok) : (mbC m).length = 66 := by
 unfold mbC; rw [List.length_cons, List.length_cons, List.length_map, List.length_append, h.sg, h.ag]
theorem mbC_one (m : Mb) : ∀ u ∈ mbC m, one u = true := by
 intro u hu
 unfold mbC at hu
 rcases List.mem_cons.1 hu with rfl | hu
 · rfl
 ·
  rcases List.mem_cons.1 hu with rfl | hu
  · rfl
  · exact one_bytes _ u hu
structure MbsOk (ms : List Mb) : Prop where
  len : ms.length ≤ 100
  each : ∀ m ∈ ms, m.ok
  asc : ms.Pairwise (fun a b => a.name < b.name)
theorem flatK_len {α : Type} (f : α → List Value) (k : Nat) : ∀ l : List α, (∀ x ∈ l, (f x).length = k) → (l.flatMap f).length = l.length * k
 | [], _ => by simp
 | x :: l, h => by
  rw [List.flatMap_cons, List.length_append, flatK_len f k l (fun y hy => h y (List.mem_cons_of_mem _ hy)), h x (List.mem_cons_self ..), List.length_cons, Nat.add_mul]; omega
theorem flatK_get {α : Type} (f : α → List Value) (k : Nat) : ∀ (l : List α) (i : Nat) (x : α) (j : Nat) (v : Value), (∀ x ∈ l, (f x).length = k) → l[i]? = some x → (f x)[j]? = some v → (l.flatMap f)[i * k + j]? = some v
 | [], i, x, j, v, _, h, _ => by simp at h
 | y :: l, 0, x, j, v, hk, h, hv => by
  simp only [List.getElem?_cons_zero, Option.some.injEq] at h
  subst h
  rw [List.flatMap_cons, Nat.zero_mul, Nat.zero_add, List.getElem?_append_left (List.getElem?_eq_some_iff.1 hv).1]; exact hv
 | y :: l, i + 1, x, j, v, hk, h, hv => by
  have hy := hk y (List.mem_cons_self ..)
  rw [List.flatMap_cons, List.getElem?_append_right (by rw [hy, Nat.add_mul]; omega), hy, show (i + 1) * k + j - k = i * k + j from by rw [Nat.add_mul]; omega]
  exact flatK_get f k l i x j v (fun z hz => hk z (List.mem_cons_of_mem _ hz)) (by simpa using h) hv
theorem flatK_at {α : Type} (f : α → List Value) (k : Nat) {w0 : World} {Ps : List Blk} {a : Option Addr} {n c : Nat} {l : List α} (hk : ∀ x ∈ l, (f x).length = k) (h : RowR w0 Ps k (.slice a n c) n (l.flatMap f)) (hn : 0 < n) (P : Program) :
 ∃ b o, a = some ⟨b, o, none⟩ ∧ ∀ i x, l[i]? = some x → ∀ C : Ctx, C.w0 = w0 → C.M = [] → ∀ L, Inc Ps L → RdN C L ⟨b, o + i * k, none⟩ (f x) := by
 obtain ⟨b, o, e, hr⟩ := h.at hn P
 refine ⟨b, o, e, fun i x hx C h0 hm L hL j v hv => ?_⟩
 have := hr C h0 hm L hL (i * k + j) v (flatK_get f k l i x j v hk hx hv)
 rw [← Nat.add_assoc] at this
 exact this
theorem flatK_drop {α : Type} (f : α → List Value) (k : Nat) : ∀ (l : List α) (i : Nat), (∀ x ∈ l, (f x).length = k) → (l.flatMap f).drop (i * k) = (l.drop i).flatMap f
 | l, 0, _ => by simp
 | [], i + 1, _ => by simp
 | x :: l, i + 1, h => by
  have hx := h x (List.mem_cons_self ..)
  rw [List.flatMap_cons, show (i + 1) * k = (f x).length + i * k from by rw [hx, Nat.add_mul]; omega, List.drop_length_add_append, List.drop_succ_cons]
  exact flatK_drop f k l i fun y hy => h y (List.mem_cons_of_mem _ hy)
theorem flatK_take {α : Type} (f : α → List Value) (k : Nat) : ∀ (l : List α) (i : Nat), (∀ x ∈ l, (f x).length = k) → (l.flatMap f).take (i * k) = (l.take i).flatMap f
 | l, 0, _ => by simp
 | [], i + 1, _ => by simp
 | x :: l, i + 1, h => by
  have hx := h x (List.mem_cons_self ..)
  rw [List.flatMap_cons, show (i + 1) * k = (f x).length + i * k from by rw [hx, Nat.add_mul]; omega, List.take_length_add_append, List.take_succ_cons, List.flatMap_cons, flatK_take f k l i fun y hy => h y (List.mem_cons_of_mem _ hy)]
def lowN (ms : List Mb) (n : Nat) : Nat := ms.countP (fun x => decide (x.name < n))
theorem lowN_of {ms : List Mb} {n i : Nat} (hi : i ≤ ms.length) (h1 : ∀ x ∈ ms.take i, x.name < n) (h2 : ∀ x ∈ ms.drop i, ¬ x.name < n) : i = lowN ms n := by
 unfold lowN
 conv => rhs; rw [← List.take_append_drop i ms]
 rw [List.countP_append, List.countP_eq_length.2 (fun x hx => by simpa using h1 x hx), List.countP_eq_zero.2 (fun x hx => by simpa using h2 x hx), List.length_take]
 omega
theorem lowN_le (ms : List Mb) (n : Nat) : lowN ms n ≤ ms.length := List.countP_le_length
theorem asc_at {ms : List Mb} (h : ms.Pairwise (fun a b => a.name < b.name)) {i j : Nat} {x y : Mb} (hx : ms[i]? = some x) (hy : ms[j]? = some y) (hij : i < j) : x.name < y.name := by
 obtain ⟨hi, rfl⟩ := List.getElem?_eq_some_iff.1 hx
 obtain ⟨hj, rfl⟩ := List.getElem?_eq_some_iff.1 hy
 exact List.pairwise_iff_getElem.1 h i j hi hj hij
theorem asc_lo {ms : List Mb} {n h : Nat} {x : Mb} (hs : ms.Pairwise (fun a b => a.name < b.name)) (hx : ms[h]? = some x) (hlt : x.name < n) : ∀ y ∈ ms.take (h + 1), y.name < n := by
 intro y hy
 obtain ⟨j, hj⟩ := List.getElem?_of_mem hy
 have hjl : j < h + 1 := by have := (List.getElem?_eq_some_iff.1 hj).1; rw [List.length_take] at this; omega
 rw [List.getElem?_take, if_pos hjl] at hj
 rcases Nat.lt_or_ge j h with h' | h'
 · exact Nat.lt_trans (asc_at hs hj hx h') hlt
 ·
  obtain rfl : j = h := by omega
  rw [hx] at hj; rw [← Option.some.inj hj]; exact hlt
theorem asc_hi {ms : List Mb} {n h : Nat} {x : Mb} (hs : ms.Pairwise (fun a b => a.name < b.name)) (hx : ms[h]? = some x) (hge : ¬ x.name < n) : ∀ y ∈ ms.drop h, ¬ y.name < n := by
 intro y hy hlt
 obtain ⟨j, hj⟩ := List.getElem?_of_mem hy
 rw [List.getElem?_drop] at hj
 rcases Nat.eq_zero_or_pos j with h' | h'
 ·
  subst h'
  rw [Nat.add_zero, hx] at hj; rw [← Option.some.inj hj] at hlt; exact hge hlt
 · exact hge (Nat.lt_trans (asc_at hs hx hj zw) hlt)
def HasM (ms : List Mb) (n : Nat) : Prop := ∃ m ∈ ms, m.name = n
noncomputable instance (ms : List Mb) (n : Nat) : Decidable (HasM ms n) := Classical.propDecidable _
theorem bsn_found {ms : List Mb} {n i : Nat} {x : Mb} (hs : ms.Pairwise (fun a b => a.name < b.name)) (h1 : ∀ y ∈ ms.take i, y.name < n) (hx : ms[i]? = some x) (h2 : ∀ y ∈ ms.drop i, ¬ y.name < n) : decide (x.name = n) = decide (HasM ms n) := by
 rw [decide_eq_decide]
 constructor
 · intro h; exact ⟨x, List.mem_of_getElem? hx, h⟩
 ·
  rintro ⟨m, hm, rfl⟩
  obtain ⟨j, hj⟩ := List.getElem?_of_mem hm
  rcases Nat.lt_trichotomy j i with h | h | h
  · exact absurd (h1 m (by rw [List.mem_iff_getElem?]; exact ⟨j, by rw [List.getElem?_take, if_pos h]; exact hj⟩)) (Nat.lt_irrefl _)
  · subst h; rw [hx] at hj; rw [Option.some.inj hj]
  · exact absurd (asc_at hs hx hj h) (h2 x (by rw [List.mem_iff_getElem?]; exact ⟨0, by rw [List.getElem?_drop]; exact hx⟩))
theorem bsn_none {ms : List Mb} {n : Nat} (h1 : ∀ y ∈ ms, y.name < n) : ¬ HasM ms n := fun ⟨m, hm, e⟩ => by have := h1 m hm; omega
theorem lowN_split {ms : List Mb} (h : ms.Pairwise (fun a b => a.name < b.name)) (n : Nat) : (∀ x ∈ ms.take (lowN ms n), x.name < n) ∧ ∀ x ∈ ms.drop (lowN ms n), ¬ x.name < n := by
 unfold lowN
 induction ms with
 | nil => simp
 | cons a l ih =>
  have hl := (List.pairwise_cons.1 h).2
  have ha := (List.pairwise_cons.1 h).1
  obtain ⟨i1, i2⟩ := ih hl
  by_cases hc : a.name < n
  ·
   rw [List.countP_cons_of_pos (by simpa using hc), List.take_succ_cons, List.drop_succ_cons]
   exact ⟨fun x hx => (List.mem_cons.1 hx).elim (fun e => e ▸ hc) (i1 x), i2⟩
  ·
   have h0 : l.countP (fun x => decide (x.name < n)) = 0 := List.countP_eq_zero.2 fun x hx => by have := ha x hx; simp; omega
   rw [List.countP_cons_of_neg (by simpa using hc), h0]
   exact ⟨by simp, fun x hx => by
    simp only [List.drop_zero] at hx
    rcases List.mem_cons.1 hx with rfl | hx
    · exact hc
    · have := ha x hx; omega⟩
theorem lowN_at {ms : List Mb} (h : ms.Pairwise (fun a b => a.name < b.name)) {m : Mb} (hm : m ∈ ms) : ms[lowN ms m.name]? = some m := by
 obtain ⟨j, hj⟩ := List.getElem?_of_mem hm
 obtain ⟨h1, h2⟩ := lowN_split h m.name
 have hjl := (List.getElem?_eq_some_iff.1 hj).1
 have e : j = lowN ms m.name := lowN_of zw (fun x hx => by
  obtain ⟨k, hk⟩ := List.getElem?_of_mem hx
  have hkl := (List.getElem?_eq_some_iff.1 hk).1
  rw [List.length_take] at hkl
  rw [List.getElem?_take, if_pos (by omega)] at hk
  exact asc_at h hk hj zw) fun x hx => by
  obtain ⟨k, hk⟩ := List.getElem?_of_mem hx
  rw [List.getElem?_drop] at hk
  rcases Nat.eq_zero_or_pos k with hz | hz
  · subst hz; rw [Nat.add_zero, hj] at hk; rw [← Option.some.inj hk]; exact Nat.lt_irrefl _
  · have := asc_at h hj hk zw; omega
 rw [← e]; exact hj
def rosC (e : Nat) (h : List UInt8) (v : Value) : List Value := .int .u32 (e : Nat) :: (h.map byteV ++ [v])
theorem rosC_len {e : Nat} {h : List UInt8} {v : Value} (hh : h.length = 32) : (rosC e h v).length = 34 := by unfold rosC; rw [List.length_cons, List.length_append, List.length_map, hh]; rfl
theorem rosC_one {e : Nat} {h : List UInt8} {v : Value} (hv : one v = true) : ∀ u ∈ rosC e h v, one u = true := by
 intro u hu
 unfold rosC at hu
 rcases List.mem_cons.1 hu with rfl | hu
 · rfl
 ·
  rcases List.mem_append.1 hu with hu | hu
  · exact one_bytes _ u hu
  · rw [List.mem_singleton] at hu; subst hu; exact hv
theorem ros_v {e : Nat} {h : List UInt8} {v : Value} (hh : h.length = 32) : (rosC e h v)[33]? = some v := by
 unfold rosC
 rw [List.getElem?_cons_succ, List.getElem?_append_right (by rw [List.length_map, hh]; exact Nat.le_refl _), List.length_map, hh]; rfl
theorem ros_h {e : Nat} {h : List UInt8} {v : Value} (hh : h.length = 32) : ((rosC e h v).drop 1).take 32 = h.map byteV := by
 unfold rosC
 rw [List.drop_succ_cons, List.drop_zero, List.take_left' (by rw [List.length_map, hh])]
def stpC (op by_ to : Nat) (sg ag : List UInt8) (v : Value) : List Value := .int .u32 (op : Nat) :: .int .u32 (by_ : Nat) :: .int .u32 (to : Nat) :: (sg.map byteV ++ (ag.map byteV ++ [v]))
section
variable {op by_ to : Nat} {sg ag : List UInt8} {v : Value} (hs : sg.length = 32) (ha : ag.length = 32)
theorem stp_sg (hs : sg.length = 32) : ((stpC op by_ to sg ag v).drop 3).take 32 = sg.map byteV := by
 unfold stpC
 rw [List.drop_succ_cons, List.drop_succ_cons, List.drop_succ_cons, List.drop_zero, List.take_left' (by rw [List.length_map, hs])]
include hs ha
theorem stpC_len : (stpC op by_ to sg ag v).length = 68 := by unfold stpC; simp only [List.length_cons, List.length_append, List.length_map, hs, ha, List.length_nil]
theorem stp_ag : ((stpC op by_ to sg ag v).drop 35).take 32 = ag.map byteV := by
 unfold stpC
 rw [show (35 : Nat) = 3 + 32 from rfl, ← List.drop_drop, List.drop_succ_cons, List.drop_succ_cons, List.drop_succ_cons, List.drop_zero, List.drop_left' (by rw [List.length_map, hs]), List.take_left' (by rw [List.length_map, ha])]
theorem stp_v : (stpC op by_ to sg ag v)[67]? = some v := by
 unfold stpC
 rw [List.getElem?_cons_succ, List.getElem?_cons_succ, List.getElem?_cons_succ, List.getElem?_append_right (by rw [List.length_map, hs]; decide), List.length_map, hs, List.getElem?_append_right (by rw [List.length_map, ha]; decide), List.length_map, ha]; rfl
end
theorem stpC_one {op by_ to : Nat} {sg ag : List UInt8} {v : Value} (hv : one v = true) : ∀ u ∈ stpC op by_ to sg ag v, one u = true := by
 intro u hu
 unfold stpC at hu
 simp only [List.mem_cons, List.mem_append, List.not_mem_nil, or_false] at hu
 rcases hu with rfl | rfl | rfl | hu | hu | rfl
 · rfl
 · rfl
 · rfl
 · exact one_bytes _ u hu
 · exact one_bytes _ u hu
 · exact hv
end Go.Proofs.YtfjedhmffccgnaaGreatDoor.S
