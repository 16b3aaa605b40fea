/- The document's answer to what can be made: of all that could matter what can be had, rule by rule. Plain Lean: no walk in this text. The rounds of the document's answer. Plain Lean: no walk in this text. -/
import Derived.Test.YtlpkcbkflfbclaaDoorT24
import Derived.Test.YtlpkcbkflfbclaaDoorTmSpec6
namespace Go.Proofs.YtlpkcbkflfbclaaDoor.S

/-! ### What could matter -/
def MatP (p y : Tm) : Prop := y = p ∨ ∃ n a b, p = .mk 6 n [a, b] ∧ (y = pub a ∨ y = pub b)
def Mat (l : List Tm) (y : Tm) : Prop := ∃ x ∈ l, ∃ p ∈ subs x, MatP p y
structure MatInv (l : List Tm) (i : Nat) (us : List Tm) (k : Nat) (out : List Tm) : Prop where
  nd : out.Nodup
  mem : ∀ y, y ∈ out ↔ Mat (l.take i) y ∨ ∃ p ∈ us.take k, MatP p y
  len : out.length ≤ 3 * (nparts (l.take i) + k)
theorem MatInv.start (l us : List Tm) : MatInv l 0 us 0 [] := ⟨by simp, fun y => by simp [Mat], by simp⟩
theorem MatInv.parts {l us vs : List Tm} {i : Nat} {out : List Tm} (h : MatInv l i us 0 out) : MatInv l i vs 0 out := ⟨h.nd, fun y => by rw [h.mem]; simp, h.len⟩
theorem MatP.ne6 {k : Int} {n : List UInt8} {as_ : List Tm} {y : Tm} (hk : k ≠ 6) : MatP (.mk k n as_) y ↔ y = .mk k n as_ := by
  refine ⟨fun h => h.elim id fun ⟨_, _, _, e, _⟩ => ?_, .inl⟩
  injection e with e; exact absurd e hk
theorem MatP.six {n : List UInt8} {a b y : Tm} : MatP (.mk 6 n [a, b]) y ↔ y = .mk 6 n [a, b] ∨ y = pub a ∨ y = pub b := by
  refine ⟨fun h => ?_, fun h => ?_⟩
  · rcases h with h | ⟨_, _, _, e, h⟩
    · exact .inl h
    · injection e with _ _ e
      simp only [List.cons.injEq, and_true] at e
      obtain ⟨rfl, rfl⟩ := e
      exact .inr h
  · rcases h with h | h
    · exact .inl h
    · exact .inr ⟨_, _, _, rfl, h⟩
theorem MatInv.next {l us : List Tm} {i k : Nat} {out : List Tm} {kp : Int} {np : List UInt8} {asp : List Tm} (h : MatInv l i us k out) (hp : us[k]? = some (.mk kp np asp)) (h6 : kp ≠ 6) : MatInv l i us (k + 1) (withT out (.mk kp np asp)) := by
  refine ⟨withT_nodup h.nd, fun y => ?_, ?_⟩
  · rw [withT_mem, h.mem, List.take_add_one, hp]
    simp only [Option.toList_some, List.mem_append, List.mem_singleton, or_and_right, exists_or, exists_eq_left, MatP.ne6 h6]
    exact or_assoc
  · have := withT_len out (.mk kp np asp); have := h.len; omega
theorem MatInv.next6 {l us : List Tm} {i k : Nat} {out : List Tm} {n : List UInt8} {a b : Tm} (h : MatInv l i us k out) (hp : us[k]? = some (.mk 6 n [a, b])) : MatInv l i us (k + 1) (withT (withT (withT out (.mk 6 n [a, b])) (pub a)) (pub b)) := by
  refine ⟨withT_nodup (withT_nodup (withT_nodup h.nd)), fun y => ?_, ?_⟩
  · rw [withT_mem, withT_mem, withT_mem, h.mem, List.take_add_one, hp]
    simp only [Option.toList_some, List.mem_append, List.mem_singleton, or_and_right, exists_or, exists_eq_left, MatP.six]
    grind
  · have := withT_len out (.mk 6 n [a, b]); have := withT_len (withT out (.mk 6 n [a, b])) (pub a); have := withT_len (withT (withT out (.mk 6 n [a, b])) (pub a)) (pub b); have := h.len; omega
theorem MatInv.close {l us : List Tm} {i : Nat} {out : List Tm} {x : Tm} (h : MatInv l i us us.length out) (hx : l[i]? = some x) (hn : us.Nodup) (hu : ∀ y, y ∈ us ↔ y ∈ subs x) : MatInv l (i + 1) us 0 out := by
  refine ⟨h.nd, fun y => ?_, ?_⟩
  · rw [h.mem, List.take_length, List.take_add_one, hx]
    unfold Mat
    simp only [Option.toList_some, List.mem_append, List.mem_singleton, or_and_right, exists_or, exists_eq_left, List.take_zero, List.not_mem_nil, false_and, exists_false, or_false, hu]
  · have h1 := h.len
    rw [npart_of hn hu] at h1
    rw [List.take_add_one, hx, Option.toList_some, nparts_app, nparts_cons, nparts_nil]; omega

/-! ### What can be had of it -/
def Had (al : List Tm) (hd : List Bool) (y : Tm) : Prop := ∃ i : Nat, al[i]? = some y ∧ hd[i]? = some true
theorem had_at {al : List Tm} {hd : List Bool} (hn : al.Nodup) {i : Nat} {x : Tm} (hx : al[i]? = some x) : Had al hd x ↔ hd[i]? = some true := by
  refine ⟨fun ⟨j, hj, hh⟩ => ?_, fun h => ⟨i, hx, h⟩⟩
  have hi := (List.getElem?_eq_some_iff.1 hx)
  have hj' := (List.getElem?_eq_some_iff.1 hj)
  obtain ⟨i1, i2⟩ := hi
  obtain ⟨j1, j2⟩ := hj'
  have : i = j := by
    have hpw := List.pairwise_iff_getElem.1 hn
    rcases Nat.lt_trichotomy i j with h | h | h
    · exact absurd (i2.trans j2.symm) (hpw i j i1 j1 h)
    · exact h
    · exact absurd (j2.trans i2.symm) (hpw j i j1 i1 h)
  rw [this]; exact hh
def Whole (H : Tm → Prop) (x : Tm) : Prop := (x.kind = 6 ∧ ∃ a b, x.args = [a, b] ∧ ((H a ∧ H (pub b)) ∨ (H b ∧ H (pub a)))) ∨ (x.kind ≠ 6 ∧ x.args ≠ [] ∧ ∀ a ∈ x.args, H a)
def Opens (H : Tm → Prop) (x : Tm) : Prop := (∀ a ∈ x.args, x.kind = 2 → H a) ∧ (∀ a b, x.args = [a, b] → (x.kind = 8 → H b) ∧ (x.kind = 3 → H a → H b))
/-- The rules tell of nothing more at this one. -/
def FinAt (H : Tm → Prop) (x : Tm) : Prop := (Whole H x → H x) ∧ (H x → Opens H x)
/-- The rules tell of nothing more: then what is had is all that can be had of it. -/
theorem fin_der {K H : Tm → Prop} {al : List Tm} (hs : ∀ x, H x → x ∈ al) (hshp : ∀ x ∈ al, shp x = true) (hsub : ∀ x ∈ al, ∀ a ∈ x.args, a ∈ al) (hpub : ∀ n a b, Tm.mk 6 n [a, b] ∈ al → pub a ∈ al ∧ pub b ∈ al) (hK : ∀ x, K x → H x) (hf : ∀ x ∈ al, FinAt H x) {x : Tm} (hx : x ∈ al) (hd : Der K x) : H x := by
  have loc : ∀ y, Mk H y → y ∈ al → H y := by
    intro y hy
    induction hy with
    | known h => intro _; exact h
    | @comp k n ts h1 h2 _ ih =>
      intro hin
      refine (hf _ hin).1 (.inr ⟨h2, ?_, fun a ha => ih a ha (hsub _ hin a ha)⟩)
      rintro (he : ts = [])
      subst he
      have hh := (shp_mk.1 (hshp _ hin)).1
      rcases headOk_kinds hh with rfl | rfl | rfl | rfl | rfl | rfl | rfl | rfl
      · exact h1 rfl
      · exact absurd (headOk_two hh (by decide)).1 (by decide)
      · exact absurd (headOk_two hh (by decide)).1 (by decide)
      · exact absurd (headOk_four hh).1 (by decide)
      · exact absurd (headOk_five hh).1 (by decide)
      · exact h2 rfl
      · exact absurd (headOk_two hh (by decide)).1 (by decide)
      · exact absurd (headOk_two hh (by decide)).1 (by decide)
    | @sh1 n a b _ _ i1 i2 =>
      intro hin
      exact (hf _ hin).1 (.inl ⟨rfl, a, b, rfl, .inl ⟨i1 (hsub _ hin a (by simp [Tm.args])), i2 (hpub n a b hin).2⟩⟩)
    | @sh2 n a b _ _ i1 i2 =>
      intro hin
      exact (hf _ hin).1 (.inl ⟨rfl, a, b, rfl, .inr ⟨i1 (hsub _ hin b (by simp [Tm.args])), i2 (hpub n a b hin).1⟩⟩)
  have hc : Closed H := by
    intro t ht
    have hin := hs t ht
    have ho := (hf t hin).2 ht
    refine ⟨fun n a b e => ?_, fun n a b e => ?_, fun n a b e => ?_⟩
    · subst e; exact ⟨ho.1 a (by simp [Tm.args]) rfl, ho.1 b (by simp [Tm.args]) rfl⟩
    · subst e; exact (ho.2 a b rfl).1 rfl
    · subst e
      by_cases ha : Mk H a
      · exact .inl ((ho.2 a b rfl).2 rfl (loc a ha (hsub _ hin a (by simp [Tm.args]))))
      · exact .inr ha
  exact loc x (hc.der (hd.mono hK)) hx
theorem whole_der {K H : Tm → Prop} (h : ∀ x, H x → Der K x) {x : Tm} (hs : shp x = true) (hw : Whole H x) : Der K x := by
  obtain ⟨k, n, ts⟩ := x
  rcases hw with ⟨hk, a, b, ha, hh⟩ | ⟨hk, hne, hall⟩
  · have hk' : k = 6 := hk
    have ha' : ts = [a, b] := ha
    subst hk'; subst ha'
    rcases hh with ⟨h1, h2⟩ | ⟨h1, h2⟩
    · exact .sh1 (h _ h1) (h _ h2)
    · exact .sh2 (h _ h1) (h _ h2)
  · refine .comp (fun h1 => ?_) hk fun a ha => h a (hall a ha)
    subst h1
    have := (headOk_one (shp_mk.1 hs).1).1
    exact hne (List.length_eq_zero_iff.1 this)
end Go.Proofs.YtlpkcbkflfbclaaDoor.S

namespace Go.Proofs.YtlpkcbkflfbclaaDoor.S

section
variable {l : List Tm}
theorem mat_self {x : Tm} (h : x ∈ l) : Mat l x := ⟨x, h, x, subs_self x, .inl rfl⟩
theorem mat_shp (hl : ∀ x ∈ l, shp x = true) {y : Tm} (h : Mat l y) : shp y = true := by
  obtain ⟨x, hx, p, hp, h⟩ := h
  have hsp := shp_sub (hl x hx) hp
  rcases h with rfl | ⟨n, a, b, rfl, h⟩
  · exact hsp
  · have ha := (shp_mk.1 hsp).2 a (by simp)
    have hb := (shp_mk.1 hsp).2 b (by simp)
    rcases h with rfl | rfl
    · exact shp_mk.2 ⟨(show headOk 5 [] 1 = true by decide), by intro c hc; rw [List.mem_singleton] at hc; subst hc; exact ha⟩
    · exact shp_mk.2 ⟨(show headOk 5 [] 1 = true by decide), by intro c hc; rw [List.mem_singleton] at hc; subst hc; exact hb⟩
theorem mat_arg {y a : Tm} (h : Mat l y) (ha : a ∈ y.args) : Mat l a := by
  obtain ⟨x, hx, p, hp, h⟩ := h
  rcases h with rfl | ⟨n, c, d, rfl, h⟩
  · exact ⟨x, hx, a, subs_args hp ha, .inl rfl⟩
  · rcases h with rfl | rfl
    · simp only [pub, Tm.args, List.mem_singleton] at ha; subst ha
      exact ⟨x, hx, a, subs_trans (subs_arg (by simp) (subs_self a)) hp, .inl rfl⟩
    · simp only [pub, Tm.args, List.mem_singleton] at ha; subst ha
      exact ⟨x, hx, a, subs_trans (subs_arg (by simp) (subs_self a)) hp, .inl rfl⟩
theorem mat_pub {n : List UInt8} {a b : Tm} (h : Mat l (.mk 6 n [a, b])) : Mat l (pub a) ∧ Mat l (pub b) := by
  obtain ⟨x, hx, p, hp, h⟩ := h
  rcases h with rfl | ⟨n, c, d, rfl, h⟩
  · exact ⟨⟨x, hx, _, hp, .inr ⟨n, a, b, rfl, .inl rfl⟩⟩, ⟨x, hx, _, hp, .inr ⟨n, a, b, rfl, .inr rfl⟩⟩⟩
  · rcases h with h | h <;> cases h
end

def cntT (hd : List Bool) : Nat := hd.count true
theorem cnt_set {hd : List Bool} : ∀ {j : Nat}, hd[j]? = some false → cntT (hd.set j true) = cntT hd + 1 := by
  unfold cntT
  induction hd with
  | nil => intro j h; simp at h
  | cons b hd ih =>
    intro j h
    cases j with
    | zero => simp at h; subst h; simp
    | succ j =>
      rw [List.getElem?_cons_succ] at h
      have := ih h
      rw [List.set_cons_succ, List.count_cons, List.count_cons]; omega
theorem cnt_le (hd : List Bool) : cntT hd ≤ hd.length := List.count_le_length
theorem had_set {al : List Tm} {hd : List Bool} {j : Nat} {x y : Tm} (hx : al[j]? = some x) (h : Had al (hd.set j true) y) : Had al hd y ∨ y = x := by
  obtain ⟨i, hi, hh⟩ := h
  by_cases hij : j = i
  · subst hij; rw [hx] at hi; exact .inr (Option.some.inj hi).symm
  · rw [List.getElem?_set_ne hij] at hh; exact .inl ⟨i, hi, hh⟩
theorem had_mono {al : List Tm} {hd : List Bool} {j : Nat} {y : Tm} (h : Had al hd y) : Had al (hd.set j true) y := by
  obtain ⟨i, hi, hh⟩ := h
  refine ⟨i, hi, ?_⟩
  by_cases hij : j = i
  · subst hij
    have hl := (List.getElem?_eq_some_iff.1 hh).1
    rw [List.getElem?_set_self hl]
  · rw [List.getElem?_set_ne hij]; exact hh
/-- What is had so far: each of it can be had. -/
structure HdI (K : Tm → Prop) (al : List Tm) (hd : List Bool) : Prop where
  len : hd.length = al.length
  snd : ∀ x, Had al hd x → Der K x
  kn : ∀ x, K x → Had al hd x
theorem HdI.set {K : Tm → Prop} {al : List Tm} {hd : List Bool} {j : Nat} {x : Tm} (h : HdI K al hd) (hx : al[j]? = some x) (hd' : Der K x) : HdI K al (hd.set j true) :=
  ⟨by rw [List.length_set]; exact h.len, fun y hy => (had_set hx hy).elim (h.snd y) fun e => e ▸ hd', fun y hy => had_mono (h.kn y hy)⟩
/-- One thing of which a thing had may be taken apart. -/
def OpenK (H : Tm → Prop) (x : Tm) (k : Nat) : Prop := x.kind = 2 ∨ (x.kind = 8 ∧ k = 1) ∨ (x.kind = 3 ∧ k = 1 ∧ ∃ b, x.args[0]? = some b ∧ H b)
def OpenAt (H : Tm → Prop) (x : Tm) (k : Nat) : Prop := ∀ a, x.args[k]? = some a → OpenK H x k → H a
theorem opens_of {H : Tm → Prop} {x : Tm} (h : ∀ k, k < x.args.length → OpenAt H x k) : Opens H x := by
  have at0 : ∀ {k : Nat} {a : Tm}, x.args[k]? = some a → OpenK H x k → H a := fun {k a} ha ho => h k (List.getElem?_eq_some_iff.1 ha).1 a ha ho
  refine ⟨fun a ha hk => ?_, fun a b e => ⟨fun hk => ?_, fun hk hb => ?_⟩⟩
  · obtain ⟨k, hk'⟩ := List.getElem?_of_mem ha
    exact at0 hk' (.inl hk)
  · exact at0 (k := 1) (by rw [e]; rfl) (.inr (.inl ⟨hk, rfl⟩))
  · exact at0 (k := 1) (by rw [e]; rfl) (.inr (.inr ⟨hk, rfl, a, by rw [e]; rfl, hb⟩))
theorem open_der {K H : Tm → Prop} (h : ∀ x, H x → Der K x) {x a : Tm} {k : Nat} (hs : shp x = true) (hx : H x) (ha : x.args[k]? = some a) (ho : OpenK H x k) : Der K a := by
  obtain ⟨kd, n, ts⟩ := x
  have ha' : ts[k]? = some a := ha
  have two_ : kd = 2 ∨ kd = 3 ∨ kd = 8 → ∃ p q, ts = [p, q] := fun hk => by
    have := (headOk_two (shp_mk.1 hs).1 (by omega)).1
    match ts, this with
    | [p, q], _ => exact ⟨p, q, rfl⟩
  rcases ho with hk | ⟨hk, rfl⟩ | ⟨hk, rfl, b, hb, hHb⟩
  · have hk' : kd = 2 := hk
    obtain ⟨p, q, rfl⟩ := two_ (.inl hk'); subst hk'
    match k, ha' with
    | 0, ha' => simp at ha'; subst ha'; exact .fst (h _ hx)
    | 1, ha' => simp at ha'; subst ha'; exact .snd (h _ hx)
    | k + 2, ha' => simp at ha'
  · have hk' : kd = 8 := hk
    obtain ⟨p, q, rfl⟩ := two_ (.inr (.inr hk')); subst hk'
    simp at ha'; subst ha'; exact .sig (h _ hx)
  · have hk' : kd = 3 := hk
    obtain ⟨p, q, rfl⟩ := two_ (.inr (.inl hk')); subst hk'
    have hb' : [p, q][0]? = some b := hb
    simp at ha' hb'; subst ha'; subst hb'; exact .opn (h _ hx) (h _ hHb)
/-- One round: number i of all comes next. -/
structure Rnd (K : Tm → Prop) (al : List Tm) (hd0 : List Bool) (i : Nat) (more : Bool) (hd : List Bool) : Prop where
  base : HdI K al hd
  le : cntT hd0 ≤ cntT hd
  no : more = false → hd = hd0 ∧ ∀ j : Nat, j < i → ∀ x, al[j]? = some x → FinAt (Had al hd0) x
  yes : more = true → cntT hd0 < cntT hd
theorem Rnd.start {K : Tm → Prop} {al : List Tm} {hd : List Bool} (h : HdI K al hd) : Rnd K al hd 0 false hd := ⟨h, Nat.le_refl _, fun _ => ⟨rfl, fun j hj => absurd hj (Nat.not_lt_zero j)⟩, fun h => by cases h⟩
/-- .. with number i before it: put together or not, and so many of its parts looked at. -/
structure RndX (K : Tm → Prop) (al : List Tm) (hd0 : List Bool) (i : Nat) (x : Tm) (k : Nat) (more : Bool) (hd : List Bool) : Prop where
  r : Rnd K al hd0 i more hd
  had : Had al hd x
  no : more = false → ∀ j : Nat, j < k → OpenAt (Had al hd0) x j
theorem Rnd.put {K : Tm → Prop} {al : List Tm} {hd0 hd : List Bool} {i j : Nat} {more : Bool} {x : Tm} (h : Rnd K al hd0 i more hd) (hx : al[j]? = some x) (hf : hd[j]? = some false) (hdr : Der K x) : Rnd K al hd0 i true (hd.set j true) :=
  ⟨h.base.set hx hdr, by rw [cnt_set hf]; have := h.le; omega, fun h => (by cases h), fun _ => by rw [cnt_set hf]; have := h.le; omega⟩
theorem Rnd.open0 {K : Tm → Prop} {al : List Tm} {hd0 hd : List Bool} {i : Nat} {more : Bool} {x : Tm} (h : Rnd K al hd0 i more hd) (hx : Had al hd x) : RndX K al hd0 i x 0 more hd := ⟨h, hx, fun _ j hj => absurd hj (Nat.not_lt_zero j)⟩
theorem RndX.skip {K : Tm → Prop} {al : List Tm} {hd0 hd : List Bool} {i k : Nat} {more : Bool} {x : Tm} (h : RndX K al hd0 i x k more hd) (hk : ∀ a, x.args[k]? = some a → OpenK (Had al hd) x k → Had al hd a) : RndX K al hd0 i x (k + 1) more hd :=
  ⟨h.r, h.had, fun hm j hj => by
    rcases Nat.lt_succ_iff_lt_or_eq.1 hj with hj | rfl
    · exact h.no hm j hj
    · have e := (h.r.no hm).1; subst e; exact hk⟩
theorem RndX.put {K : Tm → Prop} {al : List Tm} {hd0 hd : List Bool} {i k j : Nat} {more : Bool} {x a : Tm} (h : RndX K al hd0 i x k more hd) (hs : shp x = true) (ha : x.args[k]? = some a) (ho : OpenK (Had al hd) x k) (hj : al[j]? = some a) (hf : hd[j]? = some false) : RndX K al hd0 i x (k + 1) true (hd.set j true) :=
  ⟨h.r.put hj hf (open_der h.r.base.snd hs h.had ha ho), had_mono h.had, fun h => (by cases h)⟩
theorem RndX.done {K : Tm → Prop} {al : List Tm} {hd0 hd : List Bool} {i : Nat} {more : Bool} {x : Tm} (h : RndX K al hd0 i x x.args.length more hd) (hx : al[i]? = some x) : Rnd K al hd0 (i + 1) more hd :=
  ⟨h.r.base, h.r.le, fun hm => ⟨(h.r.no hm).1, fun j hj y hy => by
    have e := (h.r.no hm).1
    rcases Nat.lt_succ_iff_lt_or_eq.1 hj with hj | rfl
    · exact (h.r.no hm).2 j hj y hy
    · rw [hx] at hy; obtain rfl := Option.some.inj hy
      have hh := h.had
      rw [e] at hh
      exact ⟨fun _ => hh, fun _ => opens_of (h.no hm)⟩⟩, h.r.yes⟩
theorem Rnd.none {K : Tm → Prop} {al : List Tm} {hd0 hd : List Bool} {i : Nat} {more : Bool} {x : Tm} (h : Rnd K al hd0 i more hd) (hx : al[i]? = some x) (hn : ¬ Had al hd x) (hw : ¬ Whole (Had al hd) x) : Rnd K al hd0 (i + 1) more hd :=
  ⟨h.base, h.le, fun hm => ⟨(h.no hm).1, fun j hj y hy => by
    have e := (h.no hm).1
    rcases Nat.lt_succ_iff_lt_or_eq.1 hj with hj | rfl
    · exact (h.no hm).2 j hj y hy
    · rw [hx] at hy; obtain rfl := Option.some.inj hy
      subst e
      exact ⟨fun h => absurd h hw, fun h => absurd h hn⟩⟩, h.yes⟩
/-- Behind a round in which nothing came. -/
theorem Rnd.law {l al : List Tm} {K : Tm → Prop} {hd : List Bool} (h : Rnd K al hd al.length false hd) (hl : ∀ x ∈ l, shp x = true) (hm : ∀ y, y ∈ al ↔ Mat l y) {x : Tm} (hx : x ∈ al) : Had al hd x ↔ Der K x := by
  refine ⟨h.base.snd x, fun hdr => fin_der (H := Had al hd) (K := K) (al := al) (fun y ⟨i, hi, _⟩ => List.mem_of_getElem? hi) (fun y hy => mat_shp hl ((hm y).1 hy)) (fun y hy a ha => (hm a).2 (mat_arg ((hm y).1 hy) ha)) (fun n a b hy => ⟨(hm _).2 (mat_pub ((hm _).1 hy)).1, (hm _).2 (mat_pub ((hm _).1 hy)).2⟩) h.base.kn (fun y hy => ?_) hx hdr⟩
  obtain ⟨j, hj⟩ := List.getElem?_of_mem hy
  exact (h.no rfl).2 j (List.getElem?_eq_some_iff.1 hj).1 y hj
end Go.Proofs.YtlpkcbkflfbclaaDoor.S
