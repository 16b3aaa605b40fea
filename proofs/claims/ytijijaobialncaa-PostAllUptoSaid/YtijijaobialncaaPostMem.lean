/- A server's memory. -/
import Derived.Test.YtijijaobialncaaPostSpec
import Derived.Test.YtijijaobialncaaFr3
import Derived.Test.YtijijaobialncaaFr9
import Derived.Test.YtijijaobialncaaO2
import Derived.Test.YtijijaobialncaaOps9
import Derived.Recover
namespace Go.Proofs.Ytijijaobialncaa.S
open Go.RowKit

/-- A slice that can be read, and whose length is within its capacity. -/
structure RowS (w0 : World) (Ps : List Blk) (k : Nat) (v : Value) (n : Nat) (vs : List Value) : Prop where
  row : RowR w0 Ps k v n vs
  cap : Nilish v ∨ ∃ b o c, v = .slice (some ⟨b, o, none⟩) n c ∧ n ≤ c
theorem RowS.more {w0 : World} {Ps Qs : List Blk} {k n : Nat} {v : Value} {vs : List Value} (h : RowS w0 Ps k v n vs) (hi : Inc Ps Qs) : RowS w0 Qs k v n vs := ⟨h.row.more hi, h.cap⟩
theorem RowS.old {w0 : World} {Ps : List Blk} {k n : Nat} {v : Value} {vs : List Value} (h : SlR w0 v k n vs) : RowS w0 Ps k v n vs :=
  ⟨RowR.old h, by rcases h with ⟨h1, _, _⟩ | ⟨b, o, c, h1, h2, _⟩; exact .inl h1; exact .inr ⟨b, o, c, h1, h2⟩⟩
theorem RowS.ofSl {w0 : World} {Ps Ls : List Blk} {k : Nat} {tg : Option TypeId} {v : Value} {vs : List Value} (h : SlG tg v vs k Ls) (hi : Inc Ls Ps) (hk : 0 < k) (n : Nat) (hn : vs.length = n * k) : RowS w0 Ps k v n vs := by
  refine ⟨RowR.ofSl h hi hk n hn, ?_⟩
  rcases h with ⟨rfl, _, _⟩ | ⟨b, off, len, cap, size, rfl, h1, h2, _, _⟩
  · exact .inl (.inl rfl)
  · obtain rfl : len = n := Nat.eq_of_mul_eq_mul_right hk (h1.symm.trans hn)
    exact .inr ⟨b, off, cap, rfl, h2⟩
theorem RowS.slR {w0 w : World} {Ps L : List Blk} {k n : Nat} {v : Value} {vs : List Value} (h : RowS w0 Ps k v n vs) (hi : Inc Ps L) (hs : St w0 [] L w) : SlR w v k n vs := by
  have hl := h.row.len
  rcases h.cap with hv | ⟨b, o, c, rfl, hc⟩
  · obtain ⟨a, c, e⟩ := h.row.form
    have h0 : n = 0 := by
      rcases hv with hv | ⟨_, hv⟩
      · rw [hv] at e; injection e with e1 e2 e3; exact e2.symm
      · rw [hv] at e; injection e with e1 e2 e3; exact e2.symm
    subst h0
    exact .inl ⟨hv, rfl, List.eq_nil_of_length_eq_zero (by rw [hl, Nat.zero_mul])⟩
  · refine .inr ⟨b, o, c, rfl, hc, hl, ?_⟩
    rcases Nat.eq_zero_or_pos n with h0 | h0
    · subst h0
      have : vs = [] := List.eq_nil_of_length_eq_zero (by rw [hl, Nat.zero_mul])
      subst this
      intro i u hu; simp at hu
    · obtain ⟨b', o', e, hr⟩ := h.row.at h0 P
      cases e
      exact (hr ⟨P, w0, [], 0⟩ rfl rfl L hi).cells hs
/-- A frame that can be read. -/
structure FrmR (w0 : World) (Ps : List Blk) (v : Value) (f : Frm) : Prop where
  form : ∃ sk sn ss sd, v = .agg (List.toArray [.int .i64 f.kind, sk, sn, ss, sd]) ∧ RowS w0 Ps 32 sk f.keys.length (f.keys.flatten.map byteV) ∧ RowS w0 Ps 1 sn f.nums.length (f.nums.map u32V) ∧ RowS w0 Ps 64 ss f.sigs.length (f.sigs.flatten.map byteV) ∧ RowR w0 Ps 1 sd f.data.length (f.data.map byteV)
  wf : f.Wf
/-- A frame of one's own. -/
def FrmO (cs : List Value) (f : Frm) (X : List Blk) : Prop :=
  ∃ sk sn ss sd Xk Xn Xs Xd, cs = [.int .i64 f.kind, sk, sn, ss, sd] ∧ Sl sk (f.keys.flatten.map byteV) 32 Xk ∧ Sl sn (f.nums.map u32V) 1 Xn ∧ Sl ss (f.sigs.flatten.map byteV) 64 Xs ∧ Sl sd (f.data.map byteV) 1 Xd ∧ X = Xk ++ (Xn ++ (Xs ++ Xd))
theorem flat_mul {k : Nat} (l : List (List UInt8)) (h : ∀ x ∈ l, x.length = k) : (l.flatten.map byteV).length = l.length * k := by rw [List.length_map]; exact flat_len l h
theorem FrmO.read {cs : List Value} {f : Frm} {X Ps : List Blk} {w0 : World} (h : FrmO cs f X) (hw : f.Wf) (hi : Inc X Ps) : FrmR w0 Ps (.agg cs.toArray) f := by
  obtain ⟨sk, sn, ss, sd, Xk, Xn, Xs, Xd, rfl, h1, h2, h3, h4, rfl⟩ := h
  have i1 : Inc Xk Ps := Inc.trans Inc.here hi
  have i2 : Inc (Xn ++ (Xs ++ Xd)) Ps := Inc.trans (Inc.skip Inc.refl) hi
  have i3 : Inc (Xs ++ Xd) Ps := Inc.trans (Inc.skip Inc.refl) i2
  exact ⟨⟨sk, sn, ss, sd, rfl, RowS.ofSl h1 i1 (by decide) _ (flat_mul _ hw.keys), RowS.ofSl h2 (Inc.trans Inc.here i2) (by decide) _ (by rw [List.length_map, Nat.mul_one]), RowS.ofSl h3 (Inc.trans Inc.here i3) (by decide) _ (flat_mul _ hw.sigs), RowR.ofSl h4 (Inc.trans (Inc.skip Inc.refl) i3) (by decide) _ (by rw [List.length_map, Nat.mul_one])⟩, hw⟩
theorem FrmO.len {cs : List Value} {f : Frm} {X : List Blk} (h : FrmO cs f X) : cs.length = 5 := by obtain ⟨sk, sn, ss, sd, Xk, Xn, Xs, Xd, rfl, _⟩ := h; rfl
theorem FrmO.one {cs : List Value} {f : Frm} {X : List Blk} (h : FrmO cs f X) : ∀ v ∈ cs, one v = true := by
  obtain ⟨sk, sn, ss, sd, Xk, Xn, Xs, Xd, rfl, h1, h2, h3, h4, _⟩ := h
  intro u hu
  simp only [List.mem_cons, List.not_mem_nil, or_false] at hu
  rcases hu with rfl | rfl | rfl | rfl | rfl
  · rfl
  · exact h1.one
  · exact h2.one
  · exact h3.one
  · exact h4.one
theorem Src.rebaseP {C0 : Ctx} {L0 : List Blk} {k n : Nat} {v : Value} {vs : List Value} {w : World} (h : Src C0 L0 k v n vs) (hs : St C0.w0 C0.M L0 w) : ∀ C : Ctx, C.w0 = w → C.M = [] → ∀ L, Src C L k v n vs := by
  intro C h0 hm L
  cases h with
  | nil => exact .nil
  | odd => exact .odd
  | sl hr hl => exact .sl (RdN.old (by rw [h0]; exact hr.cells hs) (by rw [hm]; simp)) hl
  | str hk => exact .str hk
theorem Encode_G (w0 : World) {Ps : List Blk} {v : Value} {f : Frm} (h : FrmR w0 Ps v f) : FnG P 25 [v] w0 Ps [] (fun v Y => encR f.kind f.keys f.nums f.sigs f.data v Y) := by
  intro G w hG hs
  rw [List.nil_append] at hs
  obtain ⟨⟨sk, sn, ss, sd, rfl, h1, h2, h3, h4⟩, hw⟩ := h
  exact (Encode_src f.kind f.keys f.nums f.sigs f.data sk sn ss sd w (h1.slR hG hs) hw.keys (h2.slR hG hs) hw.nums (h3.slR hG hs) hw.sigs ⟨h4.form, (h4.src ⟨P, w0, [], 0⟩ rfl rfl G hG).rebaseP hs⟩ (by simp) (by simp)).mono fun _ _ ⟨v, Y, e1, e2, e3⟩ => ⟨v, Y, e1, hs.call_add e2, e3⟩
theorem Decode_G (w0 : World) {Ps : List Blk} {v : Value} {l : List UInt8} (h : RowS w0 Ps 1 v l.length (l.map byteV)) (hl : l.length < 9223372036854775808) : FnG P 14 [v] w0 Ps [] (fun v Y => decR l v Y) := by
  intro G w hG hs
  rw [List.nil_append] at hs
  exact (Decode_any v l w (h.slR hG hs) hl (by simp) (by simp)).mono fun _ _ ⟨v, Y, e1, e2, e3⟩ => ⟨v, Y, e1, hs.call_add e2, e3⟩
/-- The offer. -/
def OffO (v : Value) (o : Option Frm) (X : List Blk) : Prop := match o with
  | none => v = .pointer none ∧ X = []
  | some f => ∃ ob cs Xf, v = .pointer (some ⟨ob, 0, none⟩) ∧ FrmO cs f Xf ∧ X = ⟨ob, 0, cs, 5⟩ :: Xf
inductive FrmsO : List Value → List Frm → List Blk → Prop
  | nil : FrmsO [] [] []
  | cons {cs ds : List Value} {f : Frm} {fs : List Frm} {X Y : List Blk} : FrmO cs f X → FrmsO ds fs Y → FrmsO (cs ++ ds) (f :: fs) (X ++ Y)
theorem FrmsO.len {cs : List Value} {fs : List Frm} {X : List Blk} (h : FrmsO cs fs X) : cs.length = fs.length * 5 := by
  induction h with
  | nil => rfl
  | cons h1 _ ih => rw [List.length_append, h1.len, ih, List.length_cons]; omega
theorem FrmsO.snoc {cs ds : List Value} {fs : List Frm} {f : Frm} {X Y : List Blk} (h : FrmsO cs fs X) (h1 : FrmO ds f Y) : FrmsO (cs ++ ds) (fs ++ [f]) (X ++ Y) := by
  induction h with
  | nil => have := FrmsO.cons h1 .nil; simpa using this
  | cons h2 _ ih => have := FrmsO.cons h2 ih; simpa using this
inductive BytO : List Value → List (List UInt8) → List Blk → Prop
  | nil : BytO [] [] []
  | cons {v : Value} {vs : List Value} {l : List UInt8} {ls : List (List UInt8)} {X Y : List Blk} : Sl v (l.map byteV) 1 X → BytO vs ls Y → BytO (v :: vs) (l :: ls) (X ++ Y)
theorem BytO.len {vs : List Value} {ls : List (List UInt8)} {X : List Blk} (h : BytO vs ls X) : vs.length = ls.length := by
  induction h with
  | nil => rfl
  | cons _ _ ih => rw [List.length_cons, List.length_cons, ih]
theorem BytO.one {vs : List Value} {ls : List (List UInt8)} {X : List Blk} (h : BytO vs ls X) : ∀ v ∈ vs, one v = true := by
  induction h with
  | nil => intro v hv; cases hv
  | cons h1 _ ih => intro v hv; rcases List.mem_cons.1 hv with rfl | hv; exact h1.one; exact ih v hv
theorem BytO.snoc {vs : List Value} {ls : List (List UInt8)} {v : Value} {l : List UInt8} {X Y : List Blk} (h : BytO vs ls X) (h1 : Sl v (l.map byteV) 1 Y) : BytO (vs ++ [v]) (ls ++ [l]) (X ++ Y) := by
  induction h with
  | nil => have := BytO.cons h1 .nil; simpa using this
  | cons h2 _ ih => have := BytO.cons h2 ih; simpa using this
/-- One taken out. -/
theorem BytO.at {vs : List Value} {ls : List (List UInt8)} {X : List Blk} (h : BytO vs ls X) : ∀ {i : Nat} {l : List UInt8}, ls[i]? = some l → ∃ v XA Y XB, vs[i]? = some v ∧ X = XA ++ (Y ++ XB) ∧ Sl v (l.map byteV) 1 Y ∧ BytO (vs.eraseIdx i) (ls.eraseIdx i) (XA ++ XB) := by
  induction h with
  | nil => intro i l hl; simp at hl
  | @cons v vs l ls X Y h1 h2 ih =>
    intro i m hm
    cases i with
    | zero =>
      simp at hm; subst hm
      exact ⟨v, [], X, Y, rfl, rfl, h1, by simpa using h2⟩
    | succ i =>
      obtain ⟨u, XA, Z, XB, e1, rfl, e3, e4⟩ := ih (by simpa using hm)
      exact ⟨u, X ++ XA, Z, XB, by simpa using e1, by simp, e3, by simpa using BytO.cons h1 e4⟩
/-- Somebody. -/
def PrO (pb : Nat) (d : Pr) (X : List Blk) : Prop :=
  ∃ ov sv fv cs vs Xo Xr Xc Xb Xl, OffO ov d.offer Xo ∧ Sl sv cs 5 Xr ∧ FrmsO cs d.once Xc ∧ Sl fv vs 1 Xb ∧ BytO vs d.box Xl ∧ X = ⟨pb, 0, [ov, sv, fv, .int .i64 (d.bytes : Nat)], 4⟩ :: (Xo ++ (Xr ++ (Xc ++ (Xb ++ Xl))))
inductive MsO : List (Nat × Pr) → List Blk → Prop
  | nil : MsO [] []
  | cons {pb : Nat} {d : Pr} {ms : List (Nat × Pr)} {X Y : List Blk} : PrO pb d X → MsO ms Y → MsO ((pb, d) :: ms) (X ++ Y)
theorem MsO.app {A B : List (Nat × Pr)} {X Y : List Blk} (h : MsO A X) (h2 : MsO B Y) : MsO (A ++ B) (X ++ Y) := by
  induction h with
  | nil => exact h2
  | cons h1 _ ih => rw [List.cons_append, List.append_assoc]; exact MsO.cons h1 ih
theorem MsO.split : ∀ {A B : List (Nat × Pr)} {X : List Blk}, MsO (A ++ B) X → ∃ XA XB, X = XA ++ XB ∧ MsO A XA ∧ MsO B XB
  | [], _, X, h => ⟨[], X, rfl, .nil, h⟩
  | (pb, d) :: A, B, _, h => by
    cases h with
    | cons h1 h2 =>
      obtain ⟨XA, XB, rfl, h3, h4⟩ := MsO.split h2
      exact ⟨_ ++ XA, XB, by rw [List.append_assoc], .cons h1 h3, h4⟩
/-- Whom the map leads to. -/
def kvM (ms : List (Nat × Pr)) : List (Nat × Value) := ms.map fun x => (x.2.name, .pointer (some ⟨x.1, 0, none⟩))
abbrev mapM (b : Nat) (ms : List (Nat × Pr)) : Blk := MB b ((kvM ms).map fun x => (u32V x.1, x.2))
/-- A server's memory. -/
def SrvO (p : Nat) (ps : List Pr) (X : List Blk) : Prop := ∃ b ms Z, X.Perm (⟨p, 0, [.map (some b)], 1⟩ :: mapM b ms :: Z) ∧ MsO ms Z ∧ ms.map Prod.snd = ps ∧ SrvOk ps
theorem FnG.perm {P : Program} {f : FuncId} {ar : List Value} {w0 : World} {Ps X X' : List Blk} {R : Value → List Blk → Prop} (hX : X.Perm X') (h : FnG P f ar w0 Ps X' R) : FnG P f ar w0 Ps X R :=
  fun G w hG hs => h G w hG (hs.perm (hX.symm.append_right G))
/-! ### Looking up -/
def qU (n : Nat) (v : Value) : Bool := match v with
  | .int _ m => (n : Int) == m
  | _ => false
theorem kvM_now (ms : List (Nat × Pr)) (n : Nat) : ∀ p ∈ (kvM ms).map fun x => (u32V x.1, x.2), Instr.sameNow (.int .u32) (u32V n) p.1 = some (qU n p.1) := by
  intro p hp
  obtain ⟨x, _, rfl⟩ := List.mem_map.1 hp
  rfl
theorem kvM_bits (ms : List (Nat × Pr)) (n : Nat) : ∀ p ∈ (kvM ms).map fun x => (u32V x.1, x.2), qU n p.1 = true → Instr.sameBits 10000 p.1 (u32V n) = true := by
  intro p hp h
  obtain ⟨x, _, rfl⟩ := List.mem_map.1 hp
  have : (n : Int) = (x.1 : Nat) := by simpa [qU, u32V] using h
  have h2 : n = x.1 := by omega
  subst h2
  simp [Instr.sameBits, u32V]
def atM (ms : List (Nat × Pr)) (n : Nat) : Option (Nat × Pr) := ms.find? fun x => x.2.name == n
def ptrM (o : Option (Nat × Pr)) : Value := .pointer (o.map fun x => ⟨x.1, 0, none⟩)
theorem kvM_find (n : Nat) : ∀ (ms : List (Nat × Pr)) (i : Nat), ((findQ (qU n) ((kvM ms).map fun x => (u32V x.1, x.2)) i).map (·.2)).getD (.pointer none) = ptrM (atM ms n)
  | [], _ => rfl
  | x :: ms, i => by
    have ih := kvM_find n ms (i + 1)
    unfold atM at ih ⊢
    rw [List.find?_cons]
    show ((findQ (qU n) ((u32V x.2.name, Value.pointer (some ⟨x.1, 0, none⟩)) :: _) i).map (·.2)).getD _ = _
    rw [findQ]
    have hq : qU n (u32V x.2.name) = (x.2.name == n) := by
      show ((n : Int) == (x.2.name : Nat)) = _
      by_cases h : x.2.name = n
      · subst h; simp
      · rw [beq_eq_false_iff_ne.2 (show (n : Int) ≠ (x.2.name : Nat) by omega)]; simp [h]
    simp only [hq]
    cases h : x.2.name == n with
    | true => rfl
    | false => exact ih
theorem atM_none {ms : List (Nat × Pr)} {n : Nat} (h : atM ms n = none) : findP (ms.map Prod.snd) n = none := by
  rw [findP_none]
  intro d hd
  obtain ⟨x, hx, rfl⟩ := List.mem_map.1 hd
  unfold atM at h
  rw [List.find?_eq_none] at h
  simpa using h x hx
theorem atM_some {ms : List (Nat × Pr)} {n pb : Nat} {d : Pr} (h : atM ms n = some (pb, d)) : ∃ A B, ms = A ++ (pb, d) :: B ∧ d.name = n ∧ findP (ms.map Prod.snd) n = some d := by
  obtain ⟨h1, A, B, h2, h3⟩ := List.find?_eq_some_iff_append.1 h
  refine ⟨A, B, h2, by simpa using h1, ?_⟩
  rw [h2, List.map_append, List.map_cons]
  refine List.find?_eq_some_iff_append.2 ⟨h1, A.map Prod.snd, B.map Prod.snd, rfl, fun x hx => ?_⟩
  obtain ⟨y, hy, rfl⟩ := List.mem_map.1 hx
  exact h3 y hy
theorem kvM_set (A B : List (Nat × Pr)) {pb : Nat} {d d' : Pr} (h : d'.name = d.name) : kvM (A ++ (pb, d') :: B) = kvM (A ++ (pb, d) :: B) := by
  simp [kvM, h]
theorem updQ_new {n : Nat} {ms : List (Nat × Pr)} {v : Value} (h : atM ms n = none) : updQ (qU n) ((kvM ms).map fun x => (u32V x.1, x.2)) (u32V n) v = ((kvM ms).map fun x => (u32V x.1, x.2)) ++ [(u32V n, v)] := by
  have hq : ∀ (l : List (Nat × Pr)) (i : Nat), (∀ x ∈ l, x.2.name ≠ n) → findQ (qU n) ((kvM l).map fun x => (u32V x.1, x.2)) i = none := by
    intro l
    induction l with
    | nil => intro i _; rfl
    | cons x l ih =>
      intro i hl
      show findQ (qU n) ((u32V x.2.name, Value.pointer (some ⟨x.1, 0, none⟩)) :: _) i = none
      rw [findQ, if_neg]
      · exact ih (i + 1) fun y hy => hl y (by simp [hy])
      · show ¬ ((n : Int) == (x.2.name : Nat)) = true
        have := hl x (by simp)
        rw [beq_iff_eq]; omega
  unfold updQ
  rw [hq ms 0 fun x hx => by unfold atM at h; rw [List.find?_eq_none] at h; simpa using h x hx]
theorem MsO.at {A B : List (Nat × Pr)} {pb : Nat} {d : Pr} {Z : List Blk} (h : MsO (A ++ (pb, d) :: B) Z) : ∃ XA X XB, Z = XA ++ (X ++ XB) ∧ PrO pb d X ∧ ∀ d' X', PrO pb d' X' → MsO (A ++ (pb, d') :: B) (XA ++ (X' ++ XB)) := by
  obtain ⟨XA, Y, rfl, h1, h2⟩ := h.split
  cases h2 with
  | @cons _ _ _ X XB h3 h4 => exact ⟨XA, X, XB, rfl, h3, fun d' X' h' => h1.app (.cons h' h4)⟩
theorem mapM_set (b : Nat) (A B : List (Nat × Pr)) {pb : Nat} {d d' : Pr} (h : d'.name = d.name) : mapM b (A ++ (pb, d') :: B) = mapM b (A ++ (pb, d) :: B) := by unfold mapM; rw [kvM_set A B h]
theorem MsO.rd {ms : List (Nat × Pr)} {Z : List Blk} {n pb : Nat} {d : Pr} (h : MsO ms Z) (hat : atM ms n = some (pb, d)) : ∃ ov sa sc fa fc, (⟨pb, 0, [ov, .slice sa d.once.length sc, .slice fa d.box.length fc, .int .i64 (d.bytes : Nat)], 4⟩ : Blk) ∈ Z := by
  obtain ⟨A, B, rfl, _, _⟩ := atM_some hat
  obtain ⟨XA, X1, XB, rfl, hpr, _⟩ := h.at
  obtain ⟨ov, sv, fv, cs, vs, Xo, Xr, Xc, Xb, Xl, ho, hs, hc, hbx, hl, rfl⟩ := hpr
  have e1 : ∃ a c, sv = .slice a d.once.length c := by
    rcases hs with ⟨rfl, rfl, rfl⟩ | ⟨b, off, len, cap, size, rfl, h1, _⟩
    · have := hc.len; simp at this
      exact ⟨none, 0, by rw [show d.once.length = 0 from by omega]⟩
    · exact ⟨_, _, by rw [show len = d.once.length from Nat.eq_of_mul_eq_mul_right (by decide : 0 < 5) (h1.symm.trans hc.len)]⟩
  have e2 : ∃ a c, fv = .slice a d.box.length c := by
    rcases hbx with ⟨rfl, rfl, rfl⟩ | ⟨b, off, len, cap, size, rfl, h1, _⟩
    · have := hl.len; simp at this
      exact ⟨none, 0, by rw [show d.box.length = 0 from by omega]⟩
    · exact ⟨_, _, by rw [show len = d.box.length from by have := hl.len; omega]⟩
  obtain ⟨sa, sc, rfl⟩ := e1
  obtain ⟨fa, fc, rfl⟩ := e2
  exact ⟨ov, sa, sc, fa, fc, by simp⟩
theorem RowR.take1 {w0 : World} {Ps : List Blk} {n c i : Nat} {a : Option Addr} {vs : List Value} (h : RowR w0 Ps 1 (.slice a n c) n vs) (hi : i ≤ n) (hn : 0 < n) : RowR w0 Ps 1 (.slice a i c) i (vs.take i) := by
  obtain ⟨b, o, rfl, hr⟩ := h.at hn P
  have hl := h.len
  refine ⟨⟨_, _, rfl⟩, by rw [List.length_take]; omega, fun C h0 hm L hL => ?_⟩
  refine .sl (fun j v hv => hr C h0 hm L hL j v ?_) (by rw [List.length_take]; omega)
  rw [List.getElem?_take] at hv
  split at hv
  · exact hv
  · cases hv
theorem encO_cases {f : Frm} {v : Value} {Y : List Blk} (h : encR f.kind f.keys f.nums f.sigs f.data v Y) : (∃ e, f.enc = .error e ∧ (e = 110 ∨ e = 2) ∧ v = .tuple #[.slice none 0 0, .int .i64 e] ∧ Y = []) ∨ (∃ l a c, f.enc = .ok l ∧ v = .tuple #[.slice a l.length c, .int .i64 0] ∧ Sl (.slice a l.length c) (l.map byteV) 1 Y) := by
  unfold encR at h
  cases he : encF f.kind f.keys f.nums f.sigs f.data with
  | error e =>
    rw [he] at h
    refine .inl ⟨e, he, ?_, h.1, h.2⟩
    unfold encF at he
    split at he
    · cases he; exact .inl rfl
    · split at he
      · cases he; exact .inl rfl
      · split at he
        · cases he; exact .inr rfl
        · cases he
  | ok l =>
    rw [he] at h
    obtain ⟨s, rfl, hs⟩ := h
    have : ∃ a c, s = .slice a l.length c := by
      rcases hs with ⟨rfl, h2, _⟩ | ⟨b, off, len, cap, size, rfl, h1, _⟩
      · have : l = [] := by simpa using h2
        subst this; exact ⟨_, _, rfl⟩
      · rw [List.length_map, Nat.mul_one] at h1
        subst h1; exact ⟨_, _, rfl⟩
    obtain ⟨a, c, rfl⟩ := this
    exact .inr ⟨l, a, c, he, rfl, hs⟩
theorem atM_of {ms : List (Nat × Pr)} {n : Nat} {d : Pr} (h : findP (ms.map Prod.snd) n = some d) : ∃ pb, atM ms n = some (pb, d) := by
  cases ha : atM ms n with
  | none => rw [atM_none ha] at h; cases h
  | some x =>
    obtain ⟨pb, d'⟩ := x
    obtain ⟨_, _, _, _, h2⟩ := atM_some ha
    rw [h2] at h; cases h; exact ⟨pb, rfl⟩
theorem T1.sliceFwdK {C : Ctx} {K : Env → List Blk → Prop} {e : Env} {L : List Blk} {dst : Option Tmp} {ty : TypeId} {pos : String} {after : Array Edge} {guard : Option (Nat × Bool)} {t el : TypeId} {x : Operand} {lo hi : Option Operand} {v : Value} {cells : List Value} {Ls G : List Blk} {kz n : Nat} (hT : C.P.underlying t = some (.slice el)) (hk : SizeIs C.P el kz) (hkz : 0 < kz) (hx : ev C.n e x = v) (hsl : Sl v cells kz Ls) (hn : cells.length = n * kz) (hp : PickS L Ls G) (l : Nat)
    (hl : bd C.n e lo 0 = some (l : Int)) (hh : bd C.n e hi n = some (n : Int)) (hle : l ≤ n) (k : ∀ v' Ls', Sl v' (cells.drop (l * kz)) kz Ls' → K (putO e dst v') (Ls' ++ G)) : T1 C ⟨dst, .slice t x lo hi none, ty, pos, after, guard⟩ K e L := by
  rcases hsl with ⟨rfl, rfl, rfl⟩ | ⟨b, off, len, cap, size, rfl, h1, h2, h3, rfl⟩
  · have h0 : n = 0 := by
      rcases Nat.eq_zero_or_pos n with h | h
      · exact h
      · have := Nat.mul_pos h hkz; simp at hn; omega
    subst h0
    obtain rfl : l = 0 := by omega
    exact T1.re (V1.sliceNil hT hk hx hl hh) (fun w hs => hs.perm hp.perm.symm) (k _ [] (by rw [Nat.zero_mul]; exact Sl.nil))
  · obtain rfl : len = n := Nat.eq_of_mul_eq_mul_right hkz (h1.symm.trans hn)
    have hlk : l * kz ≤ cells.length := by rw [h1]; exact Nat.mul_le_mul_right _ hle
    by_cases hc : cap = l
    · subst hc
      have hd : cells.drop (cap * kz) = [] := List.drop_eq_nil_of_le (by rw [h1]; exact Nat.mul_le_mul_right _ h2)
      refine T1.re (V1.sliceSl hT hk hx hl hh (by omega) (by omega) (by omega)) (L' := ⟨b, off, cells.drop (cap * kz), size⟩ :: G) (fun w hs => ?_) (k _ [_] (.inr ⟨b, off, len - cap, cap - cap, size, ?_, ?_, by omega, by rw [Nat.sub_self, Nat.zero_mul]; have := Nat.zero_le (cap * kz); omega, rfl⟩))
      · rw [hd]; exact (hs.perm hp.perm.symm).view rfl Blk.In.none
      · simp
      · rw [hd, Nat.sub_eq_zero_of_le (by omega), Nat.zero_mul]; rfl
    · have hm : (cap - l) * kz + l * kz = cap * kz := by rw [← Nat.add_mul, Nat.sub_add_cancel (by omega)]
      refine T1.re (V1.sliceSl hT hk hx hl hh (by omega) (by omega) (by omega)) (L' := ⟨b, off + l * kz, cells.drop (l * kz), size⟩ :: G) (fun w hs => (hs.perm hp.perm.symm).view rfl (fun h => h.fwd hlk)) (k _ [_] (.inr ⟨b, off + l * kz, len - l, cap - l, size, ?_, by rw [List.length_drop, h1, Nat.sub_mul], by omega, by omega, rfl⟩))
      simp [hc]
theorem RdN.pre {C : Ctx} {L : List Blk} {a : Addr} {xs ys : List Value} (h : RdN C L a (xs ++ ys)) : RdN C L a xs := fun i v hv => h i v (by rw [List.getElem?_append_left (List.getElem?_eq_some_iff.1 hv).1]; exact hv)
theorem Sl.someK {a : Option Addr} {n c k : Nat} {xs : List Value} {X : List Blk} (h : Sl (.slice a n c) xs k X) (hn : 0 < n) : ∃ rb ro size, a = some ⟨rb, ro, none⟩ ∧ X = [⟨rb, ro, xs, size⟩] ∧ n ≤ c := by
  rcases h with ⟨e, _, _⟩ | ⟨b, off, len, cap, size, e, h1, h2, h3, rfl⟩
  · injection e with _ e2 _; omega
  · injection e with e1 e2 e3
    subst e1; subst e2; subst e3
    exact ⟨b, off, size, rfl, rfl, h2⟩
section
variable {C : Ctx} {K : Env → List Blk → Prop} {e : Env} {L : List Blk} {dst : Option Tmp} {ty : TypeId} {pos : String} {after : Array Edge} {guard : Option (Nat × Bool)}
/-- A row of one's own, some of whose cells are laid over others: 'append(s[:i], s[j:]...)'. -/
theorem T1.appendSelf {x y : Operand} {t yt el : TypeId} {n bytes b off size cap i : Nat} {tg : Option TypeId} {v : Value} {xs new : List Value} {L' : List Blk} (hT : C.P.underlying t = some (.slice el)) (hY : Kd C.P yt)
    (hk : SizeIs C.P el 1) (hb : BytesIs C.P el bytes) (hx : ev C.n e x = .slice (some ⟨b, off, none⟩) i cap) (hyv : ev C.n e y = v) (hsrc : Src C L 1 v n new) (hone : ∀ u ∈ new, one u = true)
    (hle : i + n ≤ cap) (hcap : off + cap ≤ size) (hil : i + n ≤ xs.length) (hu : Sub L [⟨⟨b, tg⟩, off, xs, size⟩] L' [⟨⟨b, tg⟩, off, putN xs i new, size⟩])
    (kk : K (putO e dst (.slice (some ⟨b, off, none⟩) (i + n) cap)) L') : T1 C ⟨dst, .call ⟨.builtin .append, (List.toArray [x, y]), (List.toArray [t, yt])⟩, ty, pos, after, guard⟩ K e L := by
  intro a w K' Q' hr hs hK
  unfold Oper.wp
  rw [hr.eval]
  have hnl := hsrc.len
  obtain ⟨iel, hiel, hibytes⟩ := Option.map_eq_some_iff.1 hb
  have hik : iel.size = 1 := by have := hk; unfold SizeIs at this; rw [hiel] at this; simpa using this
  have hexec : execOp (ev C.n e) ⟨dst, .call ⟨.builtin .append, (List.toArray [x, y]), (List.toArray [t, yt])⟩, ty, pos, after, guard⟩ = (do pure (Next.value (← Builtin.append_ #[t, yt] ty #[.slice (some ⟨b, off, none⟩) i cap, v])) : Sem Next) := by
    show Go.builtin .append #[t, yt] ty ((List.toArray [x, y]).map fun | .const _ => true | _ => false) ((List.toArray [x, y]).map (ev C.n e)) = _
    rw [show (List.toArray [x, y]).map (ev C.n e) = #[.slice (some ⟨b, off, none⟩) i cap, v] from by rw [List.map_toArray]; simp [hx, hyv]]
    rfl
  rw [hexec]
  have hin := (hs.piece hu).2 ⟨⟨b, tg⟩, off, xs, size⟩ (by simp)
  obtain ⟨c, E, lo, hi, hh, hsz, _, hf⟩ := hin.here
  have hsz' : c.size = size := hsz
  have hst := run_storeCells (P := C.P) new (off + i * 1) 0 w c E lo hi hh (by rw [hnl, hsz']; omega) (by intro q hq; have hf' : lo = hi ∨ size ≤ lo := hf.1; omega) hone
  rw [run_value (run_append_room' hT hY hiel (run_lenOf hsrc w) (by rw [hik]; exact run_firstCells hsrc hs) hle (by rw [hik]; exact hst))]
  obtain ⟨f1, f2, f3, f4, f5⟩ := setCellsAt_fields b new (off + i * 1 + 0) w
  refine hK _ _ _ _ (hr.put _ _) (hs.turn hu rfl f1 f2 f3 f4 f5 ?_) kk
  have := In_setCellsAt hin (o := off + i * 1 + 0) (vs := new) (by show off ≤ _; omega) (by show off + i * 1 + 0 + new.length ≤ off + xs.length; omega)
  simpa using this
theorem V1.slice3r {t el : TypeId} {x u y z : Operand} {b o len cap i j n : Nat} {k0 k1 k2 : IntKind} (hT : C.P.underlying t = some (.slice el)) (hk : SizeIs C.P el 1) (hx : ev C.n e x = .slice (some ⟨b, o, none⟩) len cap) (hw : ev C.n e u = .int k0 (i : Int)) (hy : ev C.n e y = .int k1 (j : Int)) (hz : ev C.n e z = .int k2 (n : Int)) (h1 : i ≤ j) (h2 : j ≤ n) (h : n ≤ cap) :
    V1 C ⟨dst, .slice t x (some u) (some y) (some z), ty, pos, after, guard⟩ e L (.slice (if n = i then some ⟨b, o, none⟩ else some ⟨b, o + i * 1, none⟩) (j - i) (n - i)) :=
  V1.run (s := Instr.sliceAt t (ev C.n e x) (some (ev C.n e u)) (some (ev C.n e y)) (some (ev C.n e z))) rfl (fun w _ => by
    rw [hx, hy, hz, hw]
    unfold Instr.sliceAt
    rw [run_bind (run_underlying hT w)]
    show (Instr.slice t (.slice (some ⟨b, o, none⟩) len cap) (some (.int k0 (i : Int))) (some (.int k1 (j : Int))) (some (.int k2 (n : Int)))).run C.P w = _
    unfold Instr.slice
    rw [run_bind (run_underlying hT w)]
    show (do let (l, h, m) ← Instr.sliceBounds true len cap (some (.int k0 (i : Int))) (some (.int k1 (j : Int))) (some (.int k2 (n : Int))); let size ← sizeOf el; pure (Value.slice (if m = l then some ⟨b, o, none⟩ else (some (⟨b, o, none⟩ : Addr)).map (·.add (l * size))) (h - l) (m - l)) : Sem Value).run C.P w = _
    have hb : (Instr.sliceBounds true len cap (some (.int k0 (i : Int))) (some (.int k1 (j : Int))) (some (.int k2 (n : Int)))).run C.P w = .ok (i, j, n) w := by
      unfold Instr.sliceBounds
      show (do let m ← Instr.sliceBound (.int k2 (n : Int)) cap .slice3Acap; let h ← Instr.sliceBound (.int k1 (j : Int)) m .slice3B; let l ← Instr.sliceBound (.int k0 (i : Int)) h .slice3C; pure (l, h, m) : Sem (Nat × Nat × Nat)).run C.P w = _
      rw [run_bind (run_sliceBound (by omega) (by omega) w), run_bind (run_sliceBound (by omega) (by omega) w), run_bind (run_sliceBound (by omega) (by omega) w)]
      rfl
    rw [run_bind hb]
    simp only
    rw [run_bind (run_sizeOf hk w)]
    simp [pure, Sem.run, addr_add])
end
theorem Src.tail {C : Ctx} {L : List Blk} {b off size cap i r c : Nat} {tg : Option TypeId} {xs : List Value} (hf : Find L ⟨⟨b, tg⟩, off, xs, size⟩) (hl : xs.length = i + r) (hc : xs.length ≤ cap) : Src C L 1 (.slice (some ⟨b, if cap = i then off else off + i * 1, none⟩) r c) r (xs.drop i) := by
  by_cases h : cap = i
  · obtain rfl : r = 0 := by omega
    rw [List.drop_eq_nil_of_le (by omega)]
    exact .odd
  · rw [if_neg h]
    refine .sl (fun j v hv => ?_) (by rw [List.length_drop]; omega)
    rw [List.getElem?_drop] at hv
    have := RdN.at0 (C := C) hf (i + j) v hv
    show Rd C L ⟨b, off + i * 1 + j, none⟩ v
    rw [show off + i * 1 + j = off + (i + j) by omega]; exact this
theorem V1.sliceAny2 {C : Ctx} {e : Env} {L : List Blk} {dst : Option Tmp} {ty : TypeId} {pos : String} {after : Array Edge} {guard : Option (Nat × Bool)} {t el : TypeId} {x : Operand} {lo hi : Option Operand} {b o len cap kz : Nat} (l h r c : Nat) (hT : C.P.underlying t = some (.slice el)) (hk : SizeIs C.P el kz) (hx : ev C.n e x = .slice (some ⟨b, o, none⟩) len cap) (hl : bd C.n e lo 0 = some (l : Int)) (hh : bd C.n e hi len = some (h : Int)) (h1 : l ≤ h) (h2 : h ≤ cap) (hr : h - l = r) (hc : cap - l = c) :
    V1 C ⟨dst, .slice t x lo hi none, ty, pos, after, guard⟩ e L (.slice (some ⟨b, if cap = l then o else o + l * kz, none⟩) r c) := by
  subst hr; subst hc; exact V1.sliceAny l h hT hk hx hl hh h1 h2
theorem V1.sliceK2 {C : Ctx} {e : Env} {L : List Blk} {dst : Option Tmp} {ty : TypeId} {pos : String} {after : Array Edge} {guard : Option (Nat × Bool)} {t el : TypeId} {x : Operand} {lo hi : Option Operand} {b o len cap kz : Nat} (l h r c : Nat) (hT : C.P.underlying t = some (.slice el)) (hk : SizeIs C.P el kz) (hx : ev C.n e x = .slice (some ⟨b, o, none⟩) len cap) (hl : bd C.n e lo 0 = some (l : Int)) (hh : bd C.n e hi len = some (h : Int)) (h1 : l ≤ h) (h2 : h ≤ cap) (h3 : l < cap) (hr : h - l = r) (hc : cap - l = c) :
    V1 C ⟨dst, .slice t x lo hi none, ty, pos, after, guard⟩ e L (.slice (some ⟨b, o + l * kz, none⟩) r c) := by
  subst hr; subst hc; exact V1.sliceK l h hT hk hx hl hh h1 h2 h3
theorem put_erase {xs : List Value} {i r : Nat} (h : xs.length = i + 1 + r) : (putN xs i (xs.drop (i + 1))).take (i + r) = xs.eraseIdx i ∧ (putN xs i (xs.drop (i + 1))).length = xs.length := by
  unfold putN
  rw [List.length_drop, List.eraseIdx_eq_take_drop_succ]
  refine ⟨?_, by simp only [List.length_append, List.length_take, List.length_drop]; omega⟩
  rw [List.take_append_of_le_length (by simp only [List.length_append, List.length_take, List.length_drop]; omega), List.take_of_length_le (by simp only [List.length_append, List.length_take, List.length_drop]; omega)]
theorem map_snd_set (A B : List (Nat × Pr)) (pb : Nat) (d : Pr) : (A ++ (pb, d) :: B).map Prod.snd = A.map Prod.snd ++ d :: B.map Prod.snd := by simp
/-- What of the server is as it was, somebody else's memory being another. -/
theorem SrvO.set {p b pb : Nat} {A B : List (Nat × Pr)} {d d' : Pr} {Z : List Blk} (hok : SrvOk ((A ++ (pb, d) :: B).map Prod.snd)) (hn : d'.name = d.name) (ho : d'.Ok) (hZ : MsO (A ++ (pb, d') :: B) Z) :
    SrvO p (setP ((A ++ (pb, d) :: B).map Prod.snd) d') (⟨p, 0, [.map (some b)], 1⟩ :: mapM b (A ++ (pb, d) :: B) :: Z) := by
  rw [map_snd_set] at hok ⊢
  rw [setP_at hok.names hn]
  exact ⟨b, A ++ (pb, d') :: B, Z, by unfold mapM; rw [kvM_set A B hn], hZ, map_snd_set .., hok.set hn ho⟩
section
variable {C : Ctx} {K : Env → List Blk → Prop} {e : Env} {L : List Blk} {dst : Option Tmp} {ty : TypeId} {pos : String} {after : Array Edge} {guard : Option (Nat × Bool)}
theorem run_equalPn {P : Program} {t el : TypeId} {a : Option Addr} (hT : P.underlying t = some (.pointer el)) (w : World) : (Op.equal t (.pointer a) (.pointer none)).run P w = .ok a.isNone w := by
  unfold Op.equal Op.maxDepth Op.equalIn
  rw [run_bind (run_underlying hT w)]
  cases a <;> rfl
theorem V1.eqPn {t yt el : TypeId} {x y : Operand} {a : Option Addr} (hT : C.P.underlying t = some (.pointer el)) (hx : ev C.n e x = .pointer a) (hy : ev C.n e y = .pointer none) : V1 C ⟨dst, .binOp .eql t x y yt, ty, pos, after, guard⟩ e L (.bool a.isNone) :=
  V1.run (s := do eqGuard .eql t x y (ev C.n e x) (ev C.n e y); binOp .eql t (ev C.n e x) (ev C.n e y)) rfl (fun w _ => by
    rw [hx, hy]
    show (do pure (Value.bool (← Op.equal t (.pointer a) (.pointer none))) : Sem Value).run C.P w = _
    rw [run_bind (run_equalPn hT w)]; rfl)
theorem V1.nePn {t yt el : TypeId} {x y : Operand} {a : Option Addr} (hT : C.P.underlying t = some (.pointer el)) (hx : ev C.n e x = .pointer a) (hy : ev C.n e y = .pointer none) : V1 C ⟨dst, .binOp .neq t x y yt, ty, pos, after, guard⟩ e L (.bool (!a.isNone)) :=
  V1.run (s := do eqGuard .neq t x y (ev C.n e x) (ev C.n e y); binOp .neq t (ev C.n e x) (ev C.n e y)) rfl (fun w _ => by
    rw [hx, hy]
    show (do pure (Value.bool (!(← Op.equal t (.pointer a) (.pointer none)))) : Sem Value).run C.P w = _
    rw [run_bind (run_equalPn hT w)]; rfl)
end
theorem V1.lenMap {C : Ctx} {e : Env} {L : List Blk} {dst : Option Tmp} {ty : TypeId} {pos : String} {after : Array Edge} {guard : Option (Nat × Bool)} {x : Operand} {t kt et : TypeId} {b : Nat} {kv : List (Value × Value)} (hT : C.P.underlying t = some (.map kt et)) (hx : ev C.n e x = .map (some b)) (hf : Find L (MB b kv)) : V1 C ⟨dst, .call ⟨.builtin .len, #[x], #[t]⟩, ty, pos, after, guard⟩ e L (.int .i64 (kv.length : Nat)) :=
  V1.builtin (args := [x]) (s := Builtin.len_ #[t] ty #[ev C.n e x]) (fun _ => rfl) (fun w hs => by
    obtain ⟨es, clock, h1, h2⟩ := MB.inv (hs.inw _ hf.mem)
    have hg : (getObj b).run C.P w = .ok (.map es clock) w := by simp [getObj, Sem.run, h1]
    have hl : es.size = kv.length := by have := congrArg List.length h2; simpa using this
    rw [hx]
    show (do match ← underlying t, Value.map (some b) with | _, _ => _ : Sem Value).run C.P w = _
    rw [run_bind (run_underlying hT w)]
    show (getObj b >>= _).run C.P w = _
    rw [run_bind hg, ← hl]; rfl)
theorem joinO {p b pb n : Nat} {ms : List (Nat × Pr)} {Z : List Blk} (hZ : MsO ms Z) (hok : SrvOk (ms.map Prod.snd)) (hn : n < 4294967296) (hf : findP (ms.map Prod.snd) n = none) (hl : ms.length ≠ 64) :
    SrvO p (joinP (ms.map Prod.snd) n).1 (⟨p, 0, [.map (some b)], 1⟩ :: MB b (((kvM ms).map fun x => (u32V x.1, x.2)) ++ [(u32V n, .pointer (some ⟨pb, 0, none⟩))]) :: ⟨pb, 0, [.pointer none, .slice none 0 0, .slice none 0 0, .int .i64 0], 4⟩ :: Z) := by
  have h2 := joinP_ok hok hn
  unfold joinP at h2 ⊢
  rw [hf] at h2 ⊢
  dsimp only at h2 ⊢
  rw [if_neg (by rw [List.length_map]; exact hl)] at h2 ⊢
  have hk : ((kvM ms).map fun x => (u32V x.1, x.2)) ++ [(u32V n, Value.pointer (some ⟨pb, 0, none⟩))] = (kvM (ms ++ [(pb, ⟨n, none, [], []⟩)])).map fun x => (u32V x.1, x.2) := by simp [kvM]
  rw [hk]
  refine ⟨b, ms ++ [(pb, ⟨n, none, [], []⟩)], _, (List.Perm.cons _ (List.Perm.cons _ (List.perm_append_singleton _ Z).symm)), hZ.app ?_, by simp, h2⟩
  have : PrO pb ⟨n, none, [], []⟩ [⟨pb, 0, [.pointer none, .slice none 0 0, .slice none 0 0, .int .i64 0], 4⟩] := ⟨_, _, _, [], [], [], [], [], [], [], ⟨rfl, rfl⟩, Sl.nil, .nil, Sl.nil, .nil, rfl⟩
  have h := MsO.cons this MsO.nil
  simpa using h
theorem T1.buildNone0 {C : Ctx} {K : Env → List Blk → Prop} {e : Env} {L : List Blk} {dst : Option Tmp} {ty : TypeId} {pos : String} {after : Array Edge} {guard : Option (Nat × Bool)} {t el : TypeId} {k : Nat} {z : Value} (hT : C.P.underlying t = some (.slice el)) (hk : SizeIs C.P el k) (hz : ZeroIs C.P el z)
    (kk : ∀ b, K (putO e dst (.slice (some ⟨b, 0, none⟩) 0 0)) (⟨b, 0, [], 0⟩ :: L)) : T1 C ⟨dst, .buildSlice t 0 (List.toArray []), ty, pos, after, guard⟩ K e L := by
  refine T1.buildSliceG (tg := none) (vs := []) (ps := []) hT hk hz (by omega) rfl rfl (by simp) (.inl rfl) (fun b => ?_)
  have := kk b
  simpa using this
theorem Sl.none0 {b k : Nat} : Sl (.slice (some ⟨b, 0, none⟩) 0 0) [] k [⟨b, 0, [], 0⟩] := .inr ⟨b, 0, 0, 0, 0, rfl, by simp, Nat.le_refl _, by simp, rfl⟩
theorem RowR.none0 {w0 : World} {Ps : List Blk} {k n c : Nat} {vs : List Value} (h : RowR w0 Ps k (.slice none n c) n vs) (P : Program) : n = 0 ∧ vs = [] := by
  rcases Nat.eq_zero_or_pos n with h0 | h0
  · exact ⟨h0, List.eq_nil_of_length_eq_zero (by rw [h.len, h0, Nat.zero_mul])⟩
  · obtain ⟨b, o, e, _⟩ := h.at h0 P; cases e
theorem Sl.of {v : Value} {xs : List Value} {k n : Nat} {X : List Blk} (h : Sl v xs k X) (hl : xs.length = n * k) (hk : 0 < k) : ∃ a c, v = .slice a n c := by
  rcases h with ⟨rfl, rfl, rfl⟩ | ⟨b, off, len, cap, size, rfl, h1, h2, h3, rfl⟩
  · have : n = 0 := by
      rcases Nat.eq_zero_or_pos n with h | h
      · exact h
      · have := Nat.mul_pos h hk; simp at hl; omega
    subst this
    exact ⟨_, _, rfl⟩
  · obtain rfl : len = n := Nat.eq_of_mul_eq_mul_right hk (h1.symm.trans hl)
    exact ⟨_, _, rfl⟩
end Go.Proofs.Ytijijaobialncaa.S
