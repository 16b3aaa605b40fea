/- Regions that draw their order, gone through once: each operation has a fact of its own, which stays true as blocks come. Holds for every program. -/
import Derived.Test.YtlpkcbkflfbclaaDoorOpsH
namespace Go.Proofs.YtlpkcbkflfbclaaDoor.S
open Go.RowKit

/-- Does an operation wait for number j? -/
def predB (o : Oper) (j : Nat) : Bool := o.after.toList.any (fun e => Region.binds .any e && e.on == j)
def dstOf (l : List Oper) (j : Nat) : Option Nat := (l[j]?).bind (·.dst)
def notDstM (l : List Oper) (t : Nat) : Bool := l.all fun o => !(o.dst == some t)
/-- Edges lead back; no slot is written twice; no operation hangs on a guard. -/
def mGood (l : List Oper) : Bool :=
  (List.range l.length).all fun i => match l[i]? with
    | some o => o.guard.isNone && (o.after.toList.all fun e => !Region.binds .any e || Nat.blt e.on i) && (List.range l.length).all fun j => j == i || (match o.dst, dstOf l j with | some a, some b => !(a == b) | _, _ => true)
    | none => true
/-- Number k waits for all others. -/
def mLast (l : List Oper) (k : Nat) : Bool := match l[k]? with
  | some o => (List.range l.length).all fun i => i == k || predB o i
  | none => true
section
variable {C : Ctx} {Q : Post} {l : List Oper} {F : Nat → Value → List Blk → Prop} {e0 : Env} {L0 : List Blk} {k : Nat}
/-- One operation of such a region. -/
def MOp (C : Ctx) (l : List Oper) (F : Nat → Value → List Blk → Prop) (e0 : Env) (L0 : List Blk) (i : Nat) (o : Oper) : Prop :=
  ∀ (e : Env) (Y : List Blk), (∀ j d, predB o j = true → dstOf l j = some d → F j (e d) Y) → (∀ t, notDstM l t = true → e t = e0 t) → T1 C o (fun e' L' => ∃ v Z, e' = putO e o.dst v ∧ L' = Z ++ (Y ++ L0) ∧ F i v (Z ++ Y)) e (Y ++ L0)
inductive MOps (C : Ctx) (l : List Oper) (F : Nat → Value → List Blk → Prop) (e0 : Env) (L0 : List Blk) (k : Nat) : Nat → List Oper → Prop
  | nil {i : Nat} : MOps C l F e0 L0 k i []
  | cons {i : Nat} {o : Oper} {os : List Oper} : MOp C l F e0 L0 i o → MOps C l F e0 L0 k (i + 1) os → MOps C l F e0 L0 k i (o :: os)
  | last {o : Oper} {os : List Oper} : MOps C l F e0 L0 k (k + 1) os → MOps C l F e0 L0 k k (o :: os)
theorem MOps.at {i0 : Nat} {os : List Oper} (h : MOps C l F e0 L0 k i0 os) : ∀ {i : Nat} {o : Oper}, os[i]? = some o → i0 + i ≠ k → MOp C l F e0 L0 (i0 + i) o := by
  induction h with
  | nil => intro i o h; simp at h
  | @cons i0 o' os h1 _ ih =>
    intro i o ho hk
    cases i with
    | zero => simp at ho; subst ho; exact h1
    | succ i =>
      rw [List.getElem?_cons_succ] at ho
      have := ih ho (by omega)
      rwa [show i0 + 1 + i = i0 + (i + 1) by omega] at this
  | @last o' os _ ih =>
    intro i o ho hk
    cases i with
    | zero => exact absurd rfl hk
    | succ i =>
      rw [List.getElem?_cons_succ] at ho
      have := ih ho (by omega)
      rwa [show k + 1 + i = k + (i + 1) by omega] at this
structure MInv (l : List Oper) (F : Nat → Value → List Blk → Prop) (e0 : Env) (k : Nat) (listed : Array Bool) (e : Env) (Y : List Blk) : Prop where
  size : listed.size = l.length
  fact : ∀ j d, listed.getD j false = true → dstOf l j = some d → F j (e d) Y
  same : ∀ t, notDstM l t = true → e t = e0 t
  nok : listed.getD k false = false
theorem put_other {e : Env} {d t : Nat} {v : Value} (h : t ≠ d) : put e d v t = e t := by
  unfold put
  rw [show Nat.beq t d = false from Bool.eq_false_iff.2 fun hb => h (Nat.eq_of_beq_eq_true hb)]; rfl
theorem setD {listed : Array Bool} {i j : Nat} (hi : i < listed.size) : (listed.setIfInBounds i true).getD j false = if i = j then true else listed.getD j false := by
  by_cases h : i = j
  · subst h; simp [hi]
  · rw [if_neg h]
    simp only [Array.getD_eq_getD_getElem?, Array.getElem?_setIfInBounds_ne h]
theorem count_set {l : List Bool} : ∀ {i : Nat}, l[i]? = some false → (l.set i true).count false + 1 = l.count false := by
  induction l with
  | nil => intro i h; simp at h
  | cons a l ih =>
    intro i h
    cases i with
    | zero => simp at h; subst h; simp
    | succ i =>
      rw [List.getElem?_cons_succ] at h
      have := ih h
      rw [List.set_cons_succ, List.count_cons, List.count_cons]; omega
theorem getD_true {listed : Array Bool} {j : Nat} : listed.getD j true = false ↔ listed[j]? = some false := by
  rw [Array.getD_eq_getD_getElem?]
  cases h : listed[j]? with
  | none => simp
  | some b => simp
theorem getD_false {listed : Array Bool} {j : Nat} : listed.getD j false = true ↔ listed[j]? = some true := by
  rw [Array.getD_eq_getD_getElem?]
  cases h : listed[j]? with
  | none => simp
  | some b => simp
theorem TM.run (hg : mGood l = true) (hlast : mLast l k = true) (hF : ∀ i v Y Z, F i v Y → F i v (Z ++ Y)) (hops : MOps C l F e0 L0 k 0 l)
    (hend : ∀ (e : Env) (Y : List Blk), (∀ j d, j ≠ k → dstOf l j = some d → F j (e d) Y) → (∀ t, notDstM l t = true → e t = e0 t) → match l[k]? with | some o => T1 C o (fun e' L' => Q .normal e' L') e (Y ++ L0) | none => Q .normal e (Y ++ L0)) :
    ∀ (fuel : Nat) (listed : Array Bool) (e : Env) (Y : List Blk), MInv l F e0 k listed e Y → listed.toList.count false ≤ fuel → TX C (fun _ => True) l.length l.toArray Q fuel listed e (Y ++ L0) := by
  have good : ∀ i o, l[i]? = some o → o.guard = none ∧ (∀ ed ∈ o.after, Region.binds .any ed = true → ed.on < i) ∧ ∀ j d, j ≠ i → o.dst = some d → dstOf l j ≠ some d := by
    intro i o ho
    have hi : i < l.length := (List.getElem?_eq_some_iff.1 ho).1
    have := List.all_eq_true.1 hg i (List.mem_range.2 hi)
    rw [ho] at this
    simp only [Bool.and_eq_true] at this
    obtain ⟨⟨h1, h2⟩, h3⟩ := this
    refine ⟨by simpa using h1, fun ed he hb => ?_, fun j d hj hd hdj => ?_⟩
    · have := List.all_eq_true.1 h2 ed (by simpa using he)
      rw [hb] at this
      simpa using this
    · have hjl : j < l.length := by
        unfold dstOf at hdj
        rcases Nat.lt_or_ge j l.length with h | h
        · exact h
        · rw [List.getElem?_eq_none h] at hdj; cases hdj
      have := List.all_eq_true.1 h3 j (List.mem_range.2 hjl)
      rw [hd, hdj] at this
      simp [hj] at this
  intro fuel
  induction fuel with
  | zero =>
    intro listed e Y hI hc
    have hall : ∀ j, j < l.length → listed[j]? = some true := by
      intro j hj
      rw [← hI.size] at hj
      rw [Array.getElem?_eq_getElem hj]
      cases hb : listed[j] with
      | true => rfl
      | false =>
        have : false ∈ listed.toList := by rw [← hb]; exact Array.getElem_mem_toList hj
        have := List.count_pos_iff.2 this
        omega
    have hkn : l[k]? = none := by
      rcases Nat.lt_or_ge k l.length with h | h
      · have := getD_false.2 (hall k h)
        rw [hI.nok] at this; cases this
      · exact List.getElem?_eq_none h
    have hQ := hend e Y (fun j d hj hd => by
      have hjl : j < l.length := by
        unfold dstOf at hd
        rcases Nat.lt_or_ge j l.length with h | h
        · exact h
        · rw [List.getElem?_eq_none h] at hd; cases hd
      exact hI.fact j d (getD_false.2 (hall j hjl)) hd) hI.same
    rw [hkn] at hQ
    refine TX.done ?_ hQ
    rw [List.eq_nil_iff_forall_not_mem]
    intro j hj
    have h1 := (mem_ready.1 hj).1
    rw [getD_true] at h1
    have hjl : j < listed.size := (Array.getElem?_eq_some_iff.1 h1).1
    rw [hall j (by rw [← hI.size]; exact hjl)] at h1
    cases h1
  | succ fuel ih =>
    intro listed e Y hI hc
    by_cases hun : ∃ j : Nat, j < l.length ∧ listed[j]? = some false
    · -- the least one may come
      obtain ⟨m, hm, hmin⟩ : ∃ m : Nat, (m < l.length ∧ listed[m]? = some false) ∧ ∀ j : Nat, j < m → listed[j]? = some true := by
        obtain ⟨j0, hj0⟩ := hun
        have key : ∀ n : Nat, (∀ j : Nat, j < n → listed[j]? = some true) ∨ ∃ m : Nat, (m < l.length ∧ listed[m]? = some false) ∧ ∀ j : Nat, j < m → listed[j]? = some true := by
          intro n
          induction n with
          | zero => exact .inl fun j h => absurd h (Nat.not_lt_zero j)
          | succ n ihn =>
            rcases ihn with h | h
            · by_cases hn : n < l.length
              · rw [← hI.size] at hn
                cases hb : listed[n] with
                | true =>
                  refine .inl fun j hj => ?_
                  rcases Nat.lt_succ_iff_lt_or_eq.1 hj with hj | rfl
                  · exact h j hj
                  · rw [Array.getElem?_eq_getElem hn, hb]
                | false => exact .inr ⟨n, ⟨by rw [← hI.size]; exact hn, by rw [Array.getElem?_eq_getElem hn, hb]⟩, h⟩
              · have h' := h j0 (by omega)
                rw [hj0.2] at h'; cases h'
            · exact .inr h
        rcases key (j0 + 1) with h | h
        · have h' := h j0 (by omega)
          rw [hj0.2] at h'; cases h'
        · exact h
      have hmr : m ∈ Region.ready .any l.toArray listed := by
        refine mem_ready.2 ⟨getD_true.2 hm.2, l[m]'hm.1, by simp [hm.1], fun ed he hb => ?_⟩
        exact getD_false.2 (hmin _ ((good m _ (List.getElem?_eq_getElem hm.1)).2.1 ed he hb))
      refine TX.all rfl (fun h => by rw [h] at hmr; cases hmr) fun i hi => ?_
      obtain ⟨hil, o, ho, hpre⟩ := mem_ready.1 hi
      rw [getD_true] at hil
      have hil2 : i < listed.size := (Array.getElem?_eq_some_iff.1 hil).1
      have ho' : l[i]? = some o := by simpa using ho
      obtain ⟨hgd, _, hdist⟩ := good i o ho'
      refine ⟨o, ho, fun _ => ?_, fun h0 => by rw [hgd] at h0; cases h0⟩
      have hcnt : (listed.setIfInBounds i true).toList.count false ≤ fuel := by
        rw [Array.toList_setIfInBounds]
        have := count_set (l := listed.toList) (i := i) (by simpa using hil)
        omega
      have hpreds : ∀ j d, predB o j = true → dstOf l j = some d → F j (e d) Y := by
        intro j d hp hd
        unfold predB at hp
        rw [List.any_eq_true] at hp
        obtain ⟨ed, he, hb⟩ := hp
        simp only [Bool.and_eq_true, beq_iff_eq] at hb
        obtain ⟨hb, rfl⟩ := hb
        exact hI.fact _ d (hpre ed (by simpa using he) hb) hd
      by_cases hik : i = k
      · subst hik
        have hall : ∀ j, j ≠ i → j < l.length → listed.getD j false = true := by
          intro j hj hjl
          unfold mLast at hlast
          rw [ho'] at hlast
          have := List.all_eq_true.1 hlast j (List.mem_range.2 hjl)
          simp only [Bool.or_eq_true, beq_iff_eq, hj, false_or] at this
          unfold predB at this
          rw [List.any_eq_true] at this
          obtain ⟨ed, he, hb⟩ := this
          simp only [Bool.and_eq_true, beq_iff_eq] at hb
          obtain ⟨hb, rfl⟩ := hb
          exact hpre ed (by simpa using he) hb
        have hT := hend e Y (fun j d hj hd => by
          have hjl : j < l.length := by
            unfold dstOf at hd
            rcases Nat.lt_or_ge j l.length with h | h
            · exact h
            · rw [List.getElem?_eq_none h] at hd; cases hd
          exact hI.fact j d (hall j hj hjl) hd) hI.same
        rw [ho'] at hT
        refine T1.and hT fun e' L' hq => ⟨fun _ => trivial, TX.done ?_ hq⟩
        rw [List.eq_nil_iff_forall_not_mem]
        intro j hj
        have h1 := (mem_ready.1 hj).1
        rw [getD_true] at h1
        have hjl : j < l.length := by have := (Array.getElem?_eq_some_iff.1 h1).1; simpa [hI.size] using this
        have h2 : (listed.setIfInBounds i true).getD j false = true := by
          rw [setD hil2]
          split
          · rfl
          · rename_i hne; exact hall j (Ne.symm hne) hjl
        rw [getD_false, h1] at h2
        cases h2
      · have hO := (MOps.at hops ho' (by omega)) e Y (fun j d hp hd => hpreds j d hp hd) hI.same
        rw [Nat.zero_add] at hO
        refine T1.and hO fun e' L' ⟨v, Z, he', hL', hf⟩ => ⟨fun _ => trivial, ?_⟩
        subst he'; subst hL'
        rw [← List.append_assoc]
        refine ih _ _ _ ⟨by simpa using hI.size, fun j d hj hd => ?_, fun t ht => ?_, ?_⟩ hcnt
        · rw [setD hil2] at hj
          by_cases hij : i = j
          · subst hij
            unfold dstOf at hd
            rw [ho'] at hd
            simp only [Option.bind_some] at hd
            rw [hd]
            show F i (put e d v d) _
            simpa [put] using hf
          · rw [if_neg hij] at hj
            have hfj := hF j (e d) Y Z (hI.fact j d hj hd)
            cases hod : o.dst with
            | none => exact hfj
            | some d' =>
              have hne : d' ≠ d := fun h => hdist j d (Ne.symm hij) (by rw [hod, h]) hd
              show F j (put e d' v d) _
              rw [put_other (Ne.symm hne)]
              exact hfj
        · rw [← hI.same t ht]
          cases hod : o.dst with
          | none => rfl
          | some d' =>
            have hne : d' ≠ t := by
              rintro rfl
              have := List.all_eq_true.1 ht o (List.mem_of_getElem? ho')
              rw [hod] at this
              simp at this
            exact put_other (Ne.symm hne)
        · rw [setD hil2, if_neg hik]; exact hI.nok
    · -- all have come
      have hall : ∀ j, j < l.length → listed[j]? = some true := by
        intro j hj
        have hjs := hj
        rw [← hI.size] at hjs
        cases hb : listed[j] with
        | true => rw [Array.getElem?_eq_getElem hjs, hb]
        | false => exact absurd ⟨j, hj, by rw [Array.getElem?_eq_getElem hjs, hb]⟩ hun
      have hkn : l[k]? = none := by
        rcases Nat.lt_or_ge k l.length with h | h
        · have := getD_false.2 (hall k h)
          rw [hI.nok] at this; cases this
        · exact List.getElem?_eq_none h
      have hQ := hend e Y (fun j d hj hd => by
        have hjl : j < l.length := by
          unfold dstOf at hd
          rcases Nat.lt_or_ge j l.length with h | h
          · exact h
          · rw [List.getElem?_eq_none h] at hd; cases hd
        exact hI.fact j d (getD_false.2 (hall j hjl)) hd) hI.same
      rw [hkn] at hQ
      refine TX.done ?_ hQ
      rw [List.eq_nil_iff_forall_not_mem]
      intro j hj
      have h1 := (mem_ready.1 hj).1
      rw [getD_true] at h1
      have hjl : j < listed.size := (Array.getElem?_eq_some_iff.1 h1).1
      rw [hall j (by rw [← hI.size]; exact hjl)] at h1
      cases h1
/-- A region that draws its order, each operation with a fact of its own. -/
theorem T.drawM {id : Nat} (F : Nat → Value → List Blk → Prop) (k : Nat) (hm : C.P.follows .mixedOrders = true) (hg : mGood l = true) (hlast : mLast l k = true) (hF : ∀ i v Y Z, F i v Y → F i v (Z ++ Y)) (hops : MOps C l F e0 L0 k 0 l)
    (hend : ∀ (e : Env) (Y : List Blk), (∀ j d, j ≠ k → dstOf l j = some d → F j (e d) Y) → (∀ t, notDstM l t = true → e t = e0 t) → match l[k]? with | some o => T1 C o (fun e' L' => Q .normal e' L') e (Y ++ L0) | none => Q .normal e (Y ++ L0)) :
    T C (.region id l.toArray true) Q e0 L0 := by
  refine T.drawX (fun _ => True) l.length hm trivial ?_
  refine TM.run hg hlast hF hops hend _ _ e0 [] ⟨by simp, fun j d hj => ?_, fun _ _ => rfl, ?_⟩ ?_
  · rw [getD_false, Array.getElem?_replicate] at hj
    split at hj <;> cases hj
  · rw [Array.getD_eq_getD_getElem?]
    rcases Nat.lt_or_ge k l.length with h | h
    · simp [h]
    · simp [h]
  · simp
/-- What some slots hold, named. -/
theorem T1.known {o : Oper} {K : Env → List Blk → Prop} {e : Env} {L : List Blk} {tr : List (Nat × Value)} (h : Trk e tr) (hT : T1 C o K (putAll tr e) L) : T1 C o K e L := by rwa [h.put] at hT
theorem Post.known {e : Env} {L : List Blk} {tr : List (Nat × Value)} (h : Trk e tr) (hT : Q .normal (putAll tr e) L) : Q .normal e L := by rwa [h.put] at hT
theorem MOp.of {i : Nat} {o : Oper} {e : Env} {Y : List Blk} {tr : List (Nat × Value)} (h : Trk e tr) (hT : T1 C o (fun e' L' => ∃ v Z, e' = putO (putAll tr e) o.dst v ∧ L' = Z ++ (Y ++ L0) ∧ F i v (Z ++ Y)) (putAll tr e) (Y ++ L0)) :
    T1 C o (fun e' L' => ∃ v Z, e' = putO e o.dst v ∧ L' = Z ++ (Y ++ L0) ∧ F i v (Z ++ Y)) e (Y ++ L0) := by rwa [h.put] at hT
end

/-! ### Facts that stay true -/
inductive FMono : List (Value → List Blk → Prop) → Prop
  | nil : FMono []
  | cons {f : Value → List Blk → Prop} {fs : List (Value → List Blk → Prop)} : (∀ v Y Z, f v Y → f v (Z ++ Y)) → FMono fs → FMono (f :: fs)
def FL (fs : List (Value → List Blk → Prop)) (i : Nat) : Value → List Blk → Prop := match fs, i with
  | [], _ => fun _ _ => True
  | f :: _, 0 => f
  | _ :: fs, i + 1 => FL fs i
theorem FMono.at {fs : List (Value → List Blk → Prop)} (h : FMono fs) : ∀ (i : Nat) (v : Value) (Y Z : List Blk), FL fs i v Y → FL fs i v (Z ++ Y) := by
  induction h with
  | nil => intro i v Y Z _; unfold FL; trivial
  | @cons f fs h1 _ ih =>
    intro i v Y Z hf
    cases i with
    | zero => exact h1 v Y Z hf
    | succ i => exact ih i v Y Z hf
def MT : Value → List Blk → Prop := fun _ _ => True
theorem MT.mono (v : Value) (Y Z : List Blk) (_ : MT v Y) : MT v (Z ++ Y) := trivial
def MV (x : Value) : Value → List Blk → Prop := fun v _ => v = x
theorem MV.mono {x : Value} (v : Value) (Y Z : List Blk) (h : MV x v Y) : MV x v (Z ++ Y) := h
/-- A slice of elements of three cells. -/
def MRow (w0 : World) (Ps : List Blk) (n : Nat) (vs : List Value) : Value → List Blk → Prop := fun v Y => ∃ a c, v = .slice a n c ∧ RowR w0 (Y ++ Ps) 3 (.slice a n c) n vs
theorem MRow.mono {w0 : World} {Ps : List Blk} {n : Nat} {vs : List Value} (v : Value) (Y Z : List Blk) (h : MRow w0 Ps n vs v Y) : MRow w0 Ps n vs v (Z ++ Y) := by
  obtain ⟨a, c, h1, h2⟩ := h
  exact ⟨a, c, h1, h2.more (Inc.app (Inc.left (Inc.skip Inc.refl)) (Inc.skip Inc.refl))⟩
end Go.Proofs.YtlpkcbkflfbclaaDoor.S
