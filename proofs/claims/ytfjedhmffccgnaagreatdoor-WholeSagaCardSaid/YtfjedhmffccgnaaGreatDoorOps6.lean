/- Regions that draw their order and leave memory as it is: each operation has its one value, in whatever order; each is walked once. Holds for every program. Numbers without sign by their bits: each rule says the answer as an operation on bit vectors. Holds for every program. Regions that draw their order and write: some blocks are kept in mind, so that what reads them is taken first; method values; numbers by their bits. Holds for every program. -/
import Derived.Test.YtfjedhmffccgnaaGreatDoorOps3
namespace Go.Proofs.YtfjedhmffccgnaaGreatDoor.S
open Go.RowKit
def isPred (ops : List Oper) (i p : Nat) : Bool := match ops[i]? with | some o => o.after.toList.any (fun e => Region.binds .any e && e.on == p) | none => false
def dstIs (ops : List Oper) (p t : Nat) : Bool := match ops[p]? with | some o => o.dst == some t | none => false
def notBefore (ops : List Oper) (i t : Nat) : Bool := (List.range ops.length).all fun j => !(dstIs ops j t) || isPred ops j i
def notDst (ops : List Oper) (t : Nat) : Bool := (List.range ops.length).all fun j => !(dstIs ops j t)
def wellLaid (ops : List Oper) : Bool :=
  (List.range ops.length).all fun i => (match ops[i]? with | some o => o.after.toList.all (fun e => !(Region.binds .any e) || Nat.blt e.on i) | none => true) &&
    (List.range ops.length).all fun j => Nat.beq i j || (match ops[i]? with | some o => (match o.dst with | some d => !(dstIs ops j d) | none => true) | none => true)
inductive Ins (ops : List Oper) (vals : List Value) (e0 : Env) (i : Nat) : List (Nat × Value) → Prop
  | nil : Ins ops vals e0 i []
  | old {t : Nat} {v : Value} {l : List (Nat × Value)} : e0 t = v → notBefore ops i t = true → Ins ops vals e0 i l → Ins ops vals e0 i ((t, v) :: l)
  | new {t : Nat} {v : Value} {l : List (Nat × Value)} (p : Nat) : isPred ops i p = true → dstIs ops p t = true → vals[p]? = some v → Ins ops vals e0 i l → Ins ops vals e0 i ((t, v) :: l)
inductive Outs (ops : List Oper) (vals : List Value) (e0 : Env) : List (Nat × Value) → Prop
  | nil : Outs ops vals e0 []
  | old {t : Nat} {v : Value} {l : List (Nat × Value)} : e0 t = v → notDst ops t = true → Outs ops vals e0 l → Outs ops vals e0 ((t, v) :: l)
  | new {t : Nat} {v : Value} {l : List (Nat × Value)} (p : Nat) : dstIs ops p t = true → vals[p]? = some v → Outs ops vals e0 l → Outs ops vals e0 ((t, v) :: l)
def StepD (C : Ctx) (ops : Array Oper) (o : Oper) (ins : List (Nat × Value)) (v : Value) (L : List Blk) : Prop :=
  ∀ e, (wantedE C.n ops (putAll ins e) o.guard = true ∧ T1 C o (fun e' L' => e' = putO (putAll ins e) o.dst v ∧ L' = L) (putAll ins e) L) ∨ (wantedE C.n ops (putAll ins e) o.guard = false ∧ v = undef)
inductive DetS (C : Ctx) (ops : List Oper) (e0 : Env) (L : List Blk) (Q : Post) : List Value → List Oper → Prop
  | nil {done : List Value} {l : List (Nat × Value)} : Outs ops done e0 l → (∀ e, Q .normal (putAll l e) L) → DetS C ops e0 L Q done []
  | cons {done : List Value} {o : Oper} {rest : List Oper} {ins : List (Nat × Value)} {v : Value} : Ins ops done e0 done.length ins → StepD C ops.toArray o ins v L → DetS C ops e0 L Q (done ++ [v]) rest → DetS C ops e0 L Q done (o :: rest)
theorem Ins.more {ops : List Oper} {vals vals' : List Value} {e0 : Env} {i : Nat} {l : List (Nat × Value)} (h : Ins ops vals e0 i l) (hv : ∀ (p : Nat) (v : Value), vals[p]? = some v → vals'[p]? = some v) : Ins ops vals' e0 i l := by
 induction h with
 | nil => exact .nil
 | old h1 h2 _ ih => exact .old h1 h2 ih
 | new p h1 h2 h3 _ ih => exact .new p h1 h2 (hv _ _ h3) ih
theorem DetS.out {C : Ctx} {ops : List Oper} {e0 : Env} {L : List Blk} {Q : Post} {done : List Value} {rest : List Oper} (h : DetS C ops e0 L Q done rest) :
 ∀ pre, ops = pre ++ rest → pre.length = done.length → ∃ vals : List Value, vals.length = ops.length ∧ (∀ (p : Nat) (v : Value), done[p]? = some v → vals[p]? = some v) ∧
  (∀ (i : Nat) (o : Oper), done.length ≤ i → ops[i]? = some o → ∃ ins v, vals[i]? = some v ∧ Ins ops vals e0 i ins ∧ StepD C ops.toArray o ins v L) ∧ ∃ l, Outs ops vals e0 l ∧ ∀ e, Q .normal (putAll l e) L := by
 induction h with
 | @nil done l ho hq =>
  intro pre hpre hlen
  rw [List.append_nil] at hpre
  subst hpre
  exact ⟨done, hlen.symm, fun _ _ h => h, (fun i o hi ho => by rw [List.getElem?_eq_none (by omega)] at ho; cases ho), l, ho, hq⟩
 | @cons done o rest ins v hi hs _ ih =>
  intro pre hpre hlen
  obtain ⟨vals, h1, h2, h3, h4⟩ := ih (pre ++ [o]) (by rw [hpre]; simp) (by simp [hlen])
  have hd : ∀ p u, done[p]? = some u → vals[p]? = some u := fun p u hu => h2 p u (by
   have hp : p < done.length := (List.getElem?_eq_some_iff.1 hu).1
   rw [List.getElem?_append_left hp]; exact hu)
  refine ⟨vals, h1, hd, fun i o' hge ho' => ?_, h4⟩
  rcases Nat.eq_or_lt_of_le hge with heq | hlt
  ·
   subst heq
   have e1 : ops[done.length]? = some o := by rw [hpre, ← hlen, List.getElem?_append_right (Nat.le_refl _), Nat.sub_self]; rfl
   rw [e1] at ho'
   obtain rfl := Option.some.inj ho'
   exact ⟨ins, v, h2 _ _ (by simp), hi.more hd, hs⟩
  · exact h3 i o' (by simp; omega) ho'
section
variable {C : Ctx} {ops : List Oper} {e0 : Env} {L : List Blk} {Q : Post} {vals : List Value}
def unl (listed : Array Bool) : Nat := listed.toList.count false
structure Lst (ops : List Oper) (vals : List Value) (e0 : Env) (listed : Array Bool) (e : Env) : Prop where
  size : listed.size = ops.length
  closed : ∀ j p, listed.getD j false = true → isPred ops j p = true → listed.getD p false = true
  val : ∀ j d v, listed.getD j false = true → dstIs ops j d = true → vals[j]? = some v → e d = v
  rest : ∀ t, (∀ j, listed.getD j false = true → dstIs ops j t = false) → e t = e0 t
theorem isPred_iff {i p : Nat} {o : Oper} (ho : ops[i]? = some o) : isPred ops i p = true ↔ ∃ e ∈ o.after, Region.binds .any e = true ∧ e.on = p := by
 unfold isPred
 rw [ho]
 simp only [List.any_eq_true, Bool.and_eq_true, beq_iff_eq, Array.mem_toList_iff]
theorem Lst.trk {listed : Array Bool} {e : Env} (h : Lst ops vals e0 listed e) {i : Nat} (hp : ∀ p, isPred ops i p = true → listed.getD p false = true) (hi : listed.getD i true = false) {ins : List (Nat × Value)} (hins : Ins ops vals e0 i ins) : Trk e ins := by
 induction hins with
 | nil => exact .nil
 | @old t v l h1 h2 _ ih =>
  refine .cons ?_ ih
  rw [h.rest t ?_]; exact h1
  intro j hj
  unfold notBefore at h2
  rw [List.all_eq_true] at h2
  cases hd : dstIs ops j t with
  | false => rfl
  | true =>
   have hjl : j < ops.length := by
    unfold dstIs at hd
    split at hd
    · rename_i o ho; exact (List.getElem?_eq_some_iff.1 ho).1
    · cases hd
   have := h2 j (by simpa using hjl)
   rw [hd] at this
   have := h.closed j i hj (by simpa using this)
   have hil : i < listed.size := by
    rcases Nat.lt_or_ge i listed.size with h' | h'
    · exact h'
    · simp [Array.getElem?_eq_none h'] at this
   simp [hil] at this hi
   rw [this] at hi; cases hi
 | @new t v l p h1 h2 h3 _ ih => exact .cons (h.val p t v (hp p h1) h2 h3) ih
theorem Lst.outs {listed : Array Bool} {e : Env} (h : Lst ops vals e0 listed e) (hall : ∀ j, j < ops.length → listed.getD j false = true) {l : List (Nat × Value)} (ho : Outs ops vals e0 l) : Trk e l := by
 induction ho with
 | nil => exact .nil
 | @old t v l h1 h2 _ ih =>
  refine .cons ?_ ih
  rw [h.rest t ?_]; exact h1
  intro j hj
  unfold notDst at h2
  rw [List.all_eq_true] at h2
  rcases Nat.lt_or_ge j ops.length with hjl | hjl
  · simpa using h2 j (by simpa using hjl)
  · unfold dstIs; rw [List.getElem?_eq_none hjl]
 | @new t v l p h1 h2 _ ih =>
  have hpl : p < ops.length := by
   unfold dstIs at h1
   split at h1
   · rename_i o ho; exact (List.getElem?_eq_some_iff.1 ho).1
   · cases h1
  exact .cons (h.val p t v (hall p hpl) h1 h2) ih
theorem wellLaid_pred (h : wellLaid ops = true) {i p : Nat} (hp : isPred ops i p = true) : p < i := by
 unfold wellLaid at h
 rw [List.all_eq_true] at h
 unfold isPred at hp
 split at hp
 ·
  rename_i o ho
  have hil := (List.getElem?_eq_some_iff.1 ho).1
  have := h i (by simpa using hil)
  rw [ho] at this
  simp only [Bool.and_eq_true, List.all_eq_true] at this
  rw [List.any_eq_true] at hp
  obtain ⟨e, he, hb⟩ := hp
  simp only [Bool.and_eq_true, beq_iff_eq] at hb
  have h1 := this.1 e he
  rw [hb.1] at h1
  rw [← hb.2]
  simpa [Nat.blt_eq] using h1
 · cases hp
theorem wellLaid_dst (h : wellLaid ops = true) {i j d : Nat} (hi : dstIs ops i d = true) (hj : dstIs ops j d = true) : i = j := by
 unfold wellLaid at h
 rw [List.all_eq_true] at h
 have hil : ∀ {i}, dstIs ops i d = true → ∃ o, ops[i]? = some o ∧ o.dst = some d ∧ i < ops.length := by
  intro i hi
  unfold dstIs at hi
  split at hi
  · rename_i o ho; exact ⟨o, ho, by simpa using hi, (List.getElem?_eq_some_iff.1 ho).1⟩
  · cases hi
 obtain ⟨o, ho, hd, hl⟩ := hil hi
 obtain ⟨o', ho', hd', hl'⟩ := hil hj
 have := h i (by simpa using hl)
 simp only [Bool.and_eq_true, List.all_eq_true] at this
 have := this.2 j (by simpa using hl')
 rw [ho] at this
 simp only [hd, hj, Bool.not_true, Bool.or_false] at this
 exact Nat.eq_of_beq_eq_true this
theorem unl_set {listed : Array Bool} {i : Nat} (hi : listed.getD i true = false) : unl listed = unl (listed.setIfInBounds i true) + 1 := by
 have hil : i < listed.size := by
  rcases Nat.lt_or_ge i listed.size with h' | h'
  · exact h'
  · simp [Array.getElem?_eq_none h'] at hi
 simp [hil] at hi
 unfold unl
 rw [Array.toList_setIfInBounds]
 have hil' : i < listed.toList.length := by simpa using hil
 have hg : listed.toList[i] = false := by simpa using hi
 have e1 : listed.toList = listed.toList.take i ++ (false :: listed.toList.drop (i + 1)) := by
  rw [← hg, List.getElem_cons_drop, List.take_append_drop]
 have e2 : listed.toList.set i true = listed.toList.take i ++ (true :: listed.toList.drop (i + 1)) := by
  rw [List.set_eq_take_append_cons_drop, if_pos hil']
 rw [e2]
 conv => lhs; rw [e1]
 simp [List.count_append]; omega
theorem TD.det (hw : wellLaid ops = true) (hvl : vals.length = ops.length) (hst : ∀ i o, ops[i]? = some o → ∃ ins v, vals[i]? = some v ∧ Ins ops vals e0 i ins ∧ StepD C ops.toArray o ins v L) {l : List (Nat × Value)} (ho : Outs ops vals e0 l) (hq : ∀ e, Q .normal (putAll l e) L) :
 ∀ fuel listed e, Lst ops vals e0 listed e → unl listed ≤ fuel → TD C (fun L' => L' = L) ops.toArray Q fuel listed e L := by
 intro fuel
 induction fuel with
 | zero =>
  intro listed e hl hu
  have hall : ∀ j, j < ops.length → listed.getD j false = true := by
   intro j hj
   have hjl : j < listed.size := by rw [hl.size]; exact hj
   have h0 : listed.toList.count false = 0 := by unfold unl at hu; omega
   rw [List.count_eq_zero] at h0
   cases hb : listed[j] with
   | true => simp [hjl, hb]
   | false => exact absurd (by rw [← hb]; simp) h0
  have hr : Region.ready .any ops.toArray listed = [] := by
   rw [List.eq_nil_iff_forall_not_mem]
   intro j hj
   rw [mem_ready] at hj
   obtain ⟨h1, o, ho', _⟩ := hj
   have hjl : j < ops.length := by simpa using (Array.getElem?_eq_some_iff.1 ho').1
   have h2 := hall j hjl
   have hjs : j < listed.size := by rw [hl.size]; exact hjl
   simp [hjs] at h1 h2
   rw [h2] at h1; cases h1
  exact TD.done hr (by have := hq e; rwa [(hl.outs hall ho).put] at this)
 | succ fuel ih =>
  intro listed e hl hu
  cases hr : Region.ready .any ops.toArray listed with
  | nil =>
   have hall : ∀ j, j < ops.length → listed.getD j false = true := by
    intro j
    induction j using Nat.strongRecOn with
    | ind j ihj =>
     intro hj
     have hjs : j < listed.size := by rw [hl.size]; exact hj
     cases hb : listed[j] with
     | true => simp [hjs, hb]
     | false =>
      exfalso
      have : j ∈ Region.ready .any ops.toArray listed := by
       rw [mem_ready]
       have hoj : ops[j]? = some ops[j] := List.getElem?_eq_getElem hj
       refine ⟨by simp [hjs, hb], ops[j], by simp, fun ed hed hbd => ?_⟩
       have hp : isPred ops j ed.on = true := (isPred_iff hoj).2 ⟨ed, hed, hbd, rfl⟩
       have hlt := wellLaid_pred hw hp
       exact ihj ed.on hlt (by omega)
      rw [hr] at this; cases this
   exact TD.done hr (by have := hq e; rwa [(hl.outs hall ho).put] at this)
  | cons i0 rs =>
   refine TD.all hr (by simp) fun i hi => ?_
   rw [← hr, mem_ready] at hi
   obtain ⟨h1, o, ho', h2⟩ := hi
   have hoi : ops[i]? = some o := by simpa using ho'
   have hpl : ∀ p, isPred ops i p = true → listed.getD p false = true := by
    intro p hp
    obtain ⟨ed, hed, hb, rfl⟩ := (isPred_iff hoi).1 hp
    exact h2 ed hed hb
   obtain ⟨ins, v, hv, hins, hstep⟩ := hst i o hoi
   have htrk := hl.trk hpl h1 hins
   have hs := hstep e
   rw [htrk.put] at hs
   have his : i < listed.size := by
    rcases Nat.lt_or_ge i listed.size with h' | h'
    · exact h'
    · simp [Array.getElem?_eq_none h'] at h1
   have hnext : Lst ops vals e0 (listed.setIfInBounds i true) (putO e o.dst v) := by
    refine ⟨by simpa using hl.size, ?_, ?_, ?_⟩
    ·
     intro j p hj hp
     by_cases hij : i = j
     · subst hij; exact getD_set_true (hpl p hp)
     ·
      rw [getD_set_ne false hij] at hj
      exact getD_set_true (hl.closed j p hj hp)
    ·
     intro j d u hj hd hu
     by_cases hij : i = j
     ·
      subst hij
      have hdd : o.dst = some d := by unfold dstIs at hd; rw [hoi] at hd; simpa using hd
      rw [hdd]
      show (bif Nat.beq d d then v else e d) = u
      rw [Nat.beq_refl, hv] at *
      exact Option.some.inj hu
     ·
      rw [getD_set_ne false hij] at hj
      have := hl.val j d u hj hd hu
      cases hod : o.dst with
      | none => exact this
      | some d' =>
       show (bif Nat.beq d d' then v else e d) = u
       cases hb : Nat.beq d d' with
       | false => exact this
       | true =>
        have hdd := Nat.eq_of_beq_eq_true hb
        subst hdd
        have : dstIs ops i d = true := by unfold dstIs; rw [hoi]; simpa using hod
        exact absurd (wellLaid_dst hw this hd) hij
    ·
     intro t ht
     have hni := ht i (by simp [his])
     have hold := hl.rest t (fun j hj => ht j (getD_set_true hj))
     cases hod : o.dst with
     | none => exact hold
     | some d' =>
      show (bif Nat.beq t d' then v else e t) = e0 t
      cases hb : Nat.beq t d' with
      | false => exact hold
      | true =>
       have hdd := Nat.eq_of_beq_eq_true hb
       subst hdd
       have : dstIs ops i t = true := by unfold dstIs; rw [hoi]; simpa using hod
       rw [hni] at this; cases this
   have hun : unl (listed.setIfInBounds i true) ≤ fuel := by have := unl_set h1; omega
   refine ⟨o, ho', fun hg => ?_, fun hg => ?_⟩
   ·
    rcases hs with ⟨_, hs⟩ | ⟨h0, _⟩
    ·
     intro a w K' Q' hr' hs' hK
     refine hs a w K' Q' hr' hs' fun a' w' e' L' x1 x2 ⟨x3, x4⟩ => hK a' w' e' L' x1 x2 ⟨x4, ?_⟩
     subst x3; subst x4
     exact ih _ _ hnext hun
    · rw [hg] at h0; cases h0
   ·
    rcases hs with ⟨h0, _⟩ | ⟨_, rfl⟩
    · rw [hg] at h0; cases h0
    · exact ⟨rfl, ih _ _ hnext hun⟩
theorem T.drawDet {id : Nat} (hm : C.P.follows .mixedOrders = true) (hw : wellLaid ops = true) (h : DetS C ops e0 L Q [] ops) : T C (.region id ops.toArray true) Q e0 L := by
 obtain ⟨vals, h1, _, h3, l, h4, h5⟩ := h.out [] rfl rfl
 refine T.draw (fun L' => L' = L) hm rfl (TD.det hw h1 (fun i o ho => h3 i o (Nat.zero_le _) ho) h4 h5 _ _ _ ⟨by simp, ?_, ?_, ?_⟩ ?_)
 · intro j p hj _; exfalso; rcases Nat.lt_or_ge j ops.length with h' | h' <;> simp [h'] at hj
 · intro j d v hj; exfalso; rcases Nat.lt_or_ge j ops.length with h' | h' <;> simp [h'] at hj
 · intro t _; rfl
 · simp [unl]
end
def nthR : List Value → Nat → Option Value
  | [], _ => none
  | v :: _, 0 => some v
  | _ :: l, j + 1 => nthR l j
theorem nthR_eq : ∀ (l : List Value) (j : Nat), nthR l j = l[j]?
 | [], _ => rfl
 | _ :: _, 0 => rfl
 | _ :: l, j + 1 => by rw [List.getElem?_cons_succ]; exact nthR_eq l j
theorem nthR_rev {done : List Value} {p j : Nat} {v : Value} (h : nthR done j = some v) (hk : Nat.beq (p + j + 1) done.length = true) : done.reverse[p]? = some v := by
 have hk' := Nat.eq_of_beq_eq_true hk
 rw [nthR_eq] at h
 rw [List.getElem?_reverse (by omega), show done.length - 1 - p = j from by omega]
 exact h
inductive InsR (ops : List Oper) (e0 : Env) (k : Nat) (done : List Value) : List (Nat × Value) → Prop
  | nil : InsR ops e0 k done []
  | old {t : Nat} {v : Value} {l : List (Nat × Value)} : e0 t = v → notBefore ops k t = true → InsR ops e0 k done l → InsR ops e0 k done ((t, v) :: l)
  | new {t : Nat} {v : Value} {l : List (Nat × Value)} (p j : Nat) : (isPred ops k p && dstIs ops p t) = true → nthR done j = some v → Nat.beq (p + j + 1) k = true → InsR ops e0 k done l → InsR ops e0 k done ((t, v) :: l)
inductive OutsR (ops : List Oper) (e0 : Env) (k : Nat) (done : List Value) : List (Nat × Value) → Prop
  | nil : OutsR ops e0 k done []
  | old {t : Nat} {v : Value} {l : List (Nat × Value)} : e0 t = v → notDst ops t = true → OutsR ops e0 k done l → OutsR ops e0 k done ((t, v) :: l)
  | new {t : Nat} {v : Value} {l : List (Nat × Value)} (p j : Nat) : dstIs ops p t = true → nthR done j = some v → Nat.beq (p + j + 1) k = true → OutsR ops e0 k done l → OutsR ops e0 k done ((t, v) :: l)
theorem InsR.ins {ops : List Oper} {e0 : Env} {done : List Value} {l : List (Nat × Value)} (h : InsR ops e0 done.length done l) : Ins ops done.reverse e0 done.reverse.length l := by
 rw [List.length_reverse]
 induction h with
 | nil => exact .nil
 | old h1 h2 _ ih => exact .old h1 h2 ih
 | new p j h1 h2 h3 _ ih =>
  rw [Bool.and_eq_true] at h1
  exact .new p h1.1 h1.2 (nthR_rev h2 h3) ih
theorem OutsR.outs {ops : List Oper} {e0 : Env} {done : List Value} {l : List (Nat × Value)} (h : OutsR ops e0 done.length done l) : Outs ops done.reverse e0 l := by
 induction h with
 | nil => exact .nil
 | old h1 h2 _ ih => exact .old h1 h2 ih
 | new p j h1 h2 h3 _ ih => exact .new p h1 (nthR_rev h2 h3) ih
def Det (C : Ctx) (ops : List Oper) (e0 : Env) (L : List Blk) (Q : Post) (k : Nat) (done : List Value) (rest : List Oper) : Prop := done.length = k → DetS C ops e0 L Q done.reverse rest
theorem Det.nil {C : Ctx} {ops : List Oper} {e0 : Env} {L : List Blk} {Q : Post} (k : Nat) {done : List Value} {l : List (Nat × Value)} (h : OutsR ops e0 k done l) (hq : ∀ e, Q .normal (putAll l e) L) : Det C ops e0 L Q k done [] := by
 rintro rfl
 exact .nil h.outs hq
theorem Det.cons {C : Ctx} {ops : List Oper} {e0 : Env} {L : List Blk} {Q : Post} (k : Nat) {done : List Value} {o : Oper} {rest : List Oper} {ins : List (Nat × Value)} {v : Value} (hi : InsR ops e0 k done ins) (hs : StepD C ops.toArray o ins v L) (h : Det C ops e0 L Q (k + 1) (v :: done) rest) : Det C ops e0 L Q k done (o :: rest) := by
 rintro rfl
 refine .cons hi.ins hs ?_
 have := h (by simp)
 rwa [List.reverse_cons] at this
theorem T.drawDet' {C : Ctx} {ops : List Oper} {e0 : Env} {L : List Blk} {Q : Post} {id : Nat} (hm : C.P.follows .mixedOrders = true) (hw : wellLaid ops = true) (h : Det C ops e0 L Q 0 [] ops) : T C (.region id ops.toArray true) Q e0 L :=
 T.drawDet hm hw (h rfl)
def anc (ops : List Oper) : Nat → Nat → Nat → Bool
  | 0, i, j => isPred ops i j
  | f + 1, i, j => isPred ops i j || (List.range i).any fun p => isPred ops i p && anc ops f p j
def tailed (ops : List Oper) (k : Nat) : Bool := (List.range ops.length).all fun i => Nat.blt i k || (List.range i).all fun j => anc ops 12 i j
theorem DetS.outK {C : Ctx} {ops : List Oper} {e0 : Env} {L : List Blk} {Q : Post} {done : List Value} {rest : List Oper} (h : DetS C ops e0 L Q done rest) :
 (∀ (j : Nat) (o : Oper), rest[j]? = some o → ops[done.length + j]? = some o) → ∃ vals : List Value, vals.length = done.length + rest.length ∧ (∀ (p : Nat) (v : Value), done[p]? = some v → vals[p]? = some v) ∧
  (∀ (i : Nat) (o : Oper), done.length ≤ i → i < vals.length → ops[i]? = some o → ∃ ins v, vals[i]? = some v ∧ Ins ops vals e0 i ins ∧ StepD C ops.toArray o ins v L) ∧ ∃ l, Outs ops vals e0 l ∧ ∀ e, Q .normal (putAll l e) L := by
 induction h with
 | @nil done l ho hq =>
  intro _
  exact ⟨done, rfl, fun _ _ h => h, (fun i o hi hil _ => by omega), l, ho, hq⟩
 | @cons done o rest ins v hi hs _ ih =>
  intro hr
  obtain ⟨vals, h1, h2, h3, h4⟩ := ih (fun j o' ho' => by
   have := hr (j + 1) o' (by rw [List.getElem?_cons_succ]; exact ho')
   rw [List.length_append, List.length_singleton, Nat.add_assoc, Nat.add_comm 1 j]; exact this)
  rw [List.length_append, List.length_singleton] at h1
  have hd : ∀ p u, done[p]? = some u → vals[p]? = some u := fun p u hu => h2 p u (by
   have hp : p < done.length := (List.getElem?_eq_some_iff.1 hu).1
   rw [List.getElem?_append_left hp]; exact hu)
  refine ⟨vals, by rw [h1, List.length_cons]; omega, hd, fun i o' hge hil ho' => ?_, h4⟩
  rcases Nat.eq_or_lt_of_le hge with heq | hlt
  ·
   subst heq
   have e1 : ops[done.length]? = some o := hr 0 o rfl
   rw [e1] at ho'
   obtain rfl := Option.some.inj ho'
   exact ⟨ins, v, h2 _ _ (by simp), hi.more hd, hs⟩
  · exact h3 i o' (by simp; omega) hil ho'
section
variable {C : Ctx} {ops : List Oper} {e0 : Env} {L : List Blk} {Q : Post} {vals : List Value}
def unlK (listed : Array Bool) (k : Nat) : Nat := (listed.toList.take k).count false
theorem anc_listed {e : Env} {listed : Array Bool} (hl : Lst ops vals e0 listed e) {j : Nat} : ∀ (f i : Nat), (∀ p, isPred ops i p = true → listed.getD p false = true) → anc ops f i j = true → listed.getD j false = true
 | 0, _, hpl, h => hpl j h
 | f + 1, i, hpl, h => by
  unfold anc at h
  rw [Bool.or_eq_true, List.any_eq_true] at h
  rcases h with h | ⟨p, _, h⟩
  · exact hpl j h
  ·
   rw [Bool.and_eq_true] at h
   exact anc_listed hl f p (fun q hq => hl.closed p q (hpl p h.1) hq) h.2
theorem tailed_pred {e : Env} {listed : Array Bool} (hl : Lst ops vals e0 listed e) {k i j : Nat} (h : tailed ops k = true) (hi : k ≤ i) (hil : i < ops.length) (hj : j < i) (hpl : ∀ p, isPred ops i p = true → listed.getD p false = true) : listed.getD j false = true := by
 unfold tailed at h
 rw [List.all_eq_true] at h
 have := h i (by simpa using hil)
 rw [Bool.or_eq_true, List.all_eq_true] at this
 rcases this with h' | h'
 · rw [Nat.blt_eq] at h'; omega
 · exact anc_listed hl 12 i hpl (h' j (by simpa using hj))
theorem TD.detK {k : Nat} (hkl : k ≤ ops.length) (htl : tailed ops k = true) (hw : wellLaid ops = true) (hvl : vals.length = k) (hst : ∀ i o, i < k → ops[i]? = some o → ∃ ins v, vals[i]? = some v ∧ Ins ops vals e0 i ins ∧ StepD C ops.toArray o ins v L) {l : List (Nat × Value)} (ho : Outs (ops.take k) vals e0 l)
 (hq : ∀ e, TD C (fun _ => True) ops.toArray Q (ops.length - k) (List.replicate k true ++ List.replicate (ops.length - k) false).toArray (putAll l e) L) :
 ∀ m listed e, Lst ops vals e0 listed e → (∀ i, k ≤ i → listed.getD i false = false) → unlK listed k = m → TD C (fun _ => True) ops.toArray Q (ops.length - k + m) listed e L := by
 have hdt : ∀ p t, p < k → dstIs (ops.take k) p t = dstIs ops p t := fun p t hp => by unfold dstIs; rw [List.getElem?_take_of_lt hp]
 intro m
 induction m with
 | zero =>
  intro listed e hl htail hu
  have hall : ∀ j, j < k → listed.getD j false = true := by
   intro j hj
   have hjl : j < listed.size := by rw [hl.size]; omega
   have h0 : (listed.toList.take k).count false = 0 := hu
   rw [List.count_eq_zero] at h0
   cases hb : listed[j] with
   | true => simp [hjl, hb]
   | false =>
    refine absurd ?_ h0
    rw [List.mem_iff_getElem?]
    exact ⟨j, by rw [List.getElem?_take_of_lt hj]; simp [hjl, hb]⟩
  have he : listed = (List.replicate k true ++ List.replicate (ops.length - k) false).toArray := by
   apply Array.ext
   · rw [hl.size]; simp; omega
   ·
    intro j h1 h2
    rcases Nat.lt_or_ge j k with hj | hj
    ·
     have := hall j hj
     simp [h1] at this
     rw [this]
     simp [List.getElem_append, hj]
    ·
     have := htail j hj
     simp [h1] at this
     rw [this]
     simp [List.getElem_append, Nat.not_lt.2 hj]
  have htrk : Trk e l := by
   clear hq
   induction ho with
   | nil => exact .nil
   | @old t v l h1 h2 _ ih =>
    refine .cons ?_ ih
    rw [hl.rest t ?_]; exact h1
    intro j hj
    rcases Nat.lt_or_ge j k with hjk | hjk
    ·
     unfold notDst at h2
     rw [List.all_eq_true] at h2
     have := h2 j (by simp; omega)
     rw [hdt j t hjk] at this
     simpa using this
    · rw [htail j hjk] at hj; cases hj
   | @new t v l p h1 h2 _ ih =>
    have hpl : p < k := by rw [← hvl]; exact (List.getElem?_eq_some_iff.1 h2).1
    rw [hdt p t hpl] at h1
    exact .cons (hl.val p t v (hall p hpl) h1 h2) ih
  subst he
  have := hq e
  rwa [htrk.put] at this
 | succ m ih =>
  intro listed e hl htail hu
  have hex : ∃ j, j < k ∧ listed.getD j true = false := by
   have hpos : 0 < (listed.toList.take k).count false := by unfold unlK at hu; omega
   rw [List.count_pos_iff, List.mem_iff_getElem?] at hpos
   obtain ⟨j, hj⟩ := hpos
   have hjk : j < k := by
    have := (List.getElem?_eq_some_iff.1 hj).1
    rw [List.length_take] at this; omega
   rw [List.getElem?_take_of_lt hjk] at hj
   refine ⟨j, hjk, ?_⟩
   rw [Array.getElem?_toList] at hj
   simp [Array.getD_eq_getD_getElem?, hj]
  cases hr : Region.ready .any ops.toArray listed with
  | nil =>
   exfalso
   obtain ⟨j0, hj0, hf0⟩ := hex
   have hall : ∀ j, j < k → listed.getD j false = true := by
    intro j
    induction j using Nat.strongRecOn with
    | ind j ihj =>
     intro hj
     have hjo : j < ops.length := by omega
     have hjs : j < listed.size := by rw [hl.size]; exact hjo
     cases hb : listed[j] with
     | true => simp [hjs, hb]
     | false =>
      exfalso
      have : j ∈ Region.ready .any ops.toArray listed := by
       rw [mem_ready]
       have hoj : ops[j]? = some ops[j] := List.getElem?_eq_getElem hjo
       refine ⟨by simp [hjs, hb], ops[j], by simp, fun ed hed hbd => ?_⟩
       have hp : isPred ops j ed.on = true := (isPred_iff hoj).2 ⟨ed, hed, hbd, rfl⟩
       have hlt := wellLaid_pred hw hp
       exact ihj ed.on hlt (by omega)
      rw [hr] at this; cases this
   have hjs : j0 < listed.size := by rw [hl.size]; omega
   have h2 := hall j0 hj0
   simp [hjs] at h2 hf0
   rw [h2] at hf0; cases hf0
  | cons i0 rs =>
   rw [← Nat.add_assoc]
   refine TD.all hr (by simp) fun i hi => ?_
   rw [← hr, mem_ready] at hi
   obtain ⟨h1, o, ho', h2⟩ := hi
   have hoi : ops[i]? = some o := by simpa using ho'
   have hil : i < ops.length := (List.getElem?_eq_some_iff.1 hoi).1
   have hpl : ∀ p, isPred ops i p = true → listed.getD p false = true := by
    intro p hp
    obtain ⟨ed, hed, hb, rfl⟩ := (isPred_iff hoi).1 hp
    exact h2 ed hed hb
   have hik : i < k := by
    rcases Nat.lt_or_ge i k with h' | h'
    · exact h'
    ·
     exfalso
     obtain ⟨j0, hj0, hf0⟩ := hex
     have := tailed_pred hl htl h' hil (j := j0) (by omega) hpl
     have hjs : j0 < listed.size := by rw [hl.size]; omega
     simp [hjs] at this hf0
     rw [this] at hf0; cases hf0
   obtain ⟨ins, v, hv, hins, hstep⟩ := hst i o hik hoi
   have htrk := hl.trk hpl h1 hins
   have hs := hstep e
   rw [htrk.put] at hs
   have his : i < listed.size := by rw [hl.size]; exact hil
   have hnext : Lst ops vals e0 (listed.setIfInBounds i true) (putO e o.dst v) := by
    refine ⟨by simpa using hl.size, ?_, ?_, ?_⟩
    ·
     intro j p hj hp
     by_cases hij : i = j
     · subst hij; exact getD_set_true (hpl p hp)
     ·
      rw [getD_set_ne false hij] at hj
      exact getD_set_true (hl.closed j p hj hp)
    ·
     intro j d u hj hd hu
     by_cases hij : i = j
     ·
      subst hij
      have hdd : o.dst = some d := by unfold dstIs at hd; rw [hoi] at hd; simpa using hd
      rw [hdd]
      show (bif Nat.beq d d then v else e d) = u
      rw [Nat.beq_refl, hv] at *
      exact Option.some.inj hu
     ·
      rw [getD_set_ne false hij] at hj
      have := hl.val j d u hj hd hu
      cases hod : o.dst with
      | none => exact this
      | some d' =>
       show (bif Nat.beq d d' then v else e d) = u
       cases hb : Nat.beq d d' with
       | false => exact this
       | true =>
        have hdd := Nat.eq_of_beq_eq_true hb
        subst hdd
        have : dstIs ops i d = true := by unfold dstIs; rw [hoi]; simpa using hod
        exact absurd (wellLaid_dst hw this hd) hij
    ·
     intro t ht
     have hni := ht i (by simp [his])
     have hold := hl.rest t (fun j hj => ht j (getD_set_true hj))
     cases hod : o.dst with
     | none => exact hold
     | some d' =>
      show (bif Nat.beq t d' then v else e t) = e0 t
      cases hb : Nat.beq t d' with
      | false => exact hold
      | true =>
       have hdd := Nat.eq_of_beq_eq_true hb
       subst hdd
       have : dstIs ops i t = true := by unfold dstIs; rw [hoi]; simpa using hod
       rw [hni] at this; cases this
   have htail' : ∀ j, k ≤ j → (listed.setIfInBounds i true).getD j false = false := fun j hj => by
    rw [getD_set_ne false (by omega)]; exact htail j hj
   have hun : unlK (listed.setIfInBounds i true) k = m := by
    have hlf : listed.toList[i]'(by simpa using his) = false := by simp [his] at h1; simpa using h1
    unfold unlK at hu ⊢
    rw [Array.toList_setIfInBounds, List.take_set]
    have hil' : i < (listed.toList.take k).length := by rw [List.length_take]; simp; omega
    have hlf' : (listed.toList.take k)[i] = false := by rw [List.getElem_take]; exact hlf
    have e1 : listed.toList.take k = (listed.toList.take k).take i ++ (false :: (listed.toList.take k).drop (i + 1)) := by
     rw [← hlf', List.getElem_cons_drop, List.take_append_drop]
    rw [List.set_eq_take_append_cons_drop, if_pos hil']
    rw [e1] at hu
    simp only [List.count_append, List.count_cons] at hu ⊢
    simp at hu ⊢
    omega
   refine ⟨o, ho', fun hg => ?_, fun hg => ?_⟩
   ·
    rcases hs with ⟨_, hs⟩ | ⟨h0, _⟩
    ·
     intro a w K' Q' hr' hs' hK
     refine hs a w K' Q' hr' hs' fun a' w' e' L' x1 x2 ⟨x3, x4⟩ => hK a' w' e' L' x1 x2 ⟨trivial, ?_⟩
     subst x3; subst x4
     exact ih _ _ hnext htail' hun
    · rw [hg] at h0; cases h0
   ·
    rcases hs with ⟨h0, _⟩ | ⟨_, rfl⟩
    · rw [hg] at h0; cases h0
    · exact ⟨trivial, ih _ _ hnext htail' hun⟩
end
def Fin (F : Env → Prop) : Post := fun _ e _ => F e
theorem T.drawTail {C : Ctx} {ops : List Oper} {e0 : Env} {L : List Blk} {Q : Post} {id : Nat} (k : Nat) (hm : C.P.follows .mixedOrders = true) (hw : wellLaid ops = true) (hkl : Nat.ble k ops.length = true) (htl : tailed ops k = true) {pre : List Oper} (hpre : ops.take k = pre)
 (h : Det C ops e0 L (Fin fun e => TD C (fun _ => True) ops.toArray Q (ops.length - k) (List.replicate k true ++ List.replicate (ops.length - k) false).toArray e L) 0 [] pre) : T C (.region id ops.toArray true) Q e0 L := by
 subst hpre
 have hkl' : k ≤ ops.length := Nat.le_of_ble_eq_true hkl
 obtain ⟨vals, h1, _, h3, l, h4, h5⟩ := (h rfl).outK (fun j o ho => by
  show ops[0 + j]? = some o
  rw [Nat.zero_add]
  rcases Nat.lt_or_ge j k with h' | h'
  · rwa [List.getElem?_take_of_lt h'] at ho
  · rw [List.getElem?_eq_none (by rw [List.length_take]; omega)] at ho; cases ho)
 have hvl : vals.length = k := by rw [h1, List.length_take]; simp; omega
 have ho : Outs (ops.take k) vals e0 l := by
  have hd : ∀ p t, dstIs (ops.take k) p t = true → dstIs ops p t = true := fun p t h => by
   unfold dstIs at *
   rcases Nat.lt_or_ge p k with h' | h'
   · rwa [List.getElem?_take_of_lt h'] at h
   · rw [List.getElem?_eq_none (by rw [List.length_take]; omega)] at h; cases h
  clear h5 h1 h3 h
  induction h4 with
  | nil => exact .nil
  | @old t v l h1 h2 _ ih =>
   refine .old h1 ?_ ih
   unfold notDst at h2 ⊢
   rw [List.all_eq_true] at h2 ⊢
   intro j hj
   have hj' : j < (ops.take k).length := by simpa using hj
   rw [List.length_take] at hj'
   have := h2 j (by simp; omega)
   cases hb : dstIs (ops.take k) j t with
   | false => rfl
   | true => rw [hd j t hb] at this; exact this
  | @new t v l p h1 h2 _ ih =>
   refine .new p ?_ h2 ih
   have hp : p < k := by rw [← hvl]; exact (List.getElem?_eq_some_iff.1 h2).1
   unfold dstIs at h1 ⊢
   rwa [List.getElem?_take_of_lt hp]
 have key := TD.detK (Q := Q) hkl' htl hw hvl (fun i o hi ho => h3 i o (Nat.zero_le _) (by omega) ho) ho h5 (unlK (Array.replicate ops.length false) k) (Array.replicate ops.length false) e0 ⟨by simp, ?_, ?_, ?_⟩ ?_ rfl
 ·
  refine T.draw (fun _ => True) hm trivial ?_
  have hun : unlK (Array.replicate ops.length false) k = k := by
   unfold unlK
   rw [Array.toList_replicate, List.take_replicate, List.count_replicate_self]; omega
  rw [hun, Nat.sub_add_cancel hkl'] at key
  simpa using key
 · intro j p hj _; exfalso; rcases Nat.lt_or_ge j ops.length with h' | h' <;> simp [h'] at hj
 · intro j d v hj; exfalso; rcases Nat.lt_or_ge j ops.length with h' | h' <;> simp [h'] at hj
 · intro t _; rfl
 · intro i _; rcases Nat.lt_or_ge i ops.length with h' | h' <;> simp [h']
end Go.Proofs.YtfjedhmffccgnaaGreatDoor.S
namespace Go.Proofs.YtfjedhmffccgnaaGreatDoor.S
open Go.RowKit
def Uns (kd : IntKind) (n : Nat) : Prop := kd.signed = false ∧ kd.bits = n
theorem u8U : Uns .u8 8 := ⟨rfl, rfl⟩
theorem u32U : Uns .u32 32 := ⟨rfl, rfl⟩
theorem u64U : Uns .u64 64 := ⟨rfl, rfl⟩
theorem wrapU {kd : IntKind} {n : Nat} (hk : Uns kd n) (z : Int) : kd.wrap z = z % (2 ^ n : Int) := by
 obtain ⟨h1, h2⟩ := hk
 subst h2
 unfold IntKind.wrap
 rw [h1]; simp
theorem wrapUN {kd : IntKind} {n : Nat} (hk : Uns kd n) (z : Nat) : kd.wrap (z : Int) = ((z % 2 ^ n : Nat) : Int) := by
 rw [wrapU hk]; simp
theorem ofInt_toNat {n : Nat} (x : BitVec n) : BitVec.ofInt n (x.toNat : Int) = x := by
 rw [BitVec.ofInt_natCast, BitVec.ofNat_toNat, BitVec.setWidth_eq]
section
variable {C : Ctx} {e : Env} {L : List Blk} {dst : Option Tmp} {ty : TypeId} {pos : String} {after : Array Edge} {guard : Option (Nat × Bool)}
variable {t yt : TypeId} {x y : Operand} {kd : IntKind} {n : Nat}
theorem V1.addW {a b : BitVec n} (hk : Uns kd n) (hx : ev C.n e x = .int kd a.toNat) (hy : ev C.n e y = .int kd b.toNat) : V1 C ⟨dst, .binOp .add t x y yt, ty, pos, after, guard⟩ e L (.int kd (a + b).toNat) :=
 V1.add hx hy (by rw [BitVec.toNat_add, ← Int.natCast_add, wrapUN hk])
theorem V1.subW {a b : BitVec n} (hk : Uns kd n) (hx : ev C.n e x = .int kd a.toNat) (hy : ev C.n e y = .int kd b.toNat) : V1 C ⟨dst, .binOp .sub t x y yt, ty, pos, after, guard⟩ e L (.int kd (a - b).toNat) :=
 V1.sub hx hy (by
  rw [BitVec.toNat_sub, wrapU hk]
  have hb := b.isLt
  have ha := a.isLt
  have : ((a.toNat : Int) - b.toNat) = ((2 ^ n - b.toNat + a.toNat : Nat) : Int) - (2 ^ n : Int) := by
   rw [Int.natCast_add, Int.natCast_sub (Nat.le_of_lt hb)]; simp; omega
  rw [this, Int.sub_emod_right]; simp)
theorem V1.mulW {a b : BitVec n} (hk : Uns kd n) (hx : ev C.n e x = .int kd a.toNat) (hy : ev C.n e y = .int kd b.toNat) : V1 C ⟨dst, .binOp .mul t x y yt, ty, pos, after, guard⟩ e L (.int kd (a * b).toNat) :=
 V1.mul hx hy (by rw [BitVec.toNat_mul, ← Int.natCast_mul, wrapUN hk])
theorem bitW {kd : IntKind} {n : Nat} (hk : Uns kd n) (z : BitVec n) : kd.wrap (z.toNat : Int) = (z.toNat : Int) := by
 rw [wrapUN hk, Nat.mod_eq_of_lt z.isLt]
theorem V1.andW {a b : BitVec n} (hk : Uns kd n) (hx : ev C.n e x = .int kd a.toNat) (hy : ev C.n e y = .int kd b.toNat) : V1 C ⟨dst, .binOp .and t x y yt, ty, pos, after, guard⟩ e L (.int kd (a &&& b).toNat) :=
 V1.bits rfl hx hy (by obtain ⟨h1, rfl⟩ := hk; show kd.wrap (((BitVec.ofInt kd.bits _) &&& (BitVec.ofInt kd.bits _)).toNat : Int) = _; rw [ofInt_toNat, ofInt_toNat, bitW ⟨h1, rfl⟩])
theorem V1.orW {a b : BitVec n} (hk : Uns kd n) (hx : ev C.n e x = .int kd a.toNat) (hy : ev C.n e y = .int kd b.toNat) : V1 C ⟨dst, .binOp .or t x y yt, ty, pos, after, guard⟩ e L (.int kd (a ||| b).toNat) :=
 V1.bits rfl hx hy (by obtain ⟨h1, rfl⟩ := hk; show kd.wrap (((BitVec.ofInt kd.bits _) ||| (BitVec.ofInt kd.bits _)).toNat : Int) = _; rw [ofInt_toNat, ofInt_toNat, bitW ⟨h1, rfl⟩])
theorem V1.xorW {a b : BitVec n} (hk : Uns kd n) (hx : ev C.n e x = .int kd a.toNat) (hy : ev C.n e y = .int kd b.toNat) : V1 C ⟨dst, .binOp .xor t x y yt, ty, pos, after, guard⟩ e L (.int kd (a ^^^ b).toNat) :=
 V1.bits rfl hx hy (by obtain ⟨h1, rfl⟩ := hk; show kd.wrap (((BitVec.ofInt kd.bits _) ^^^ (BitVec.ofInt kd.bits _)).toNat : Int) = _; rw [ofInt_toNat, ofInt_toNat, bitW ⟨h1, rfl⟩])
theorem V1.complW {a : BitVec n} (hk : Uns kd n) (hx : ev C.n e x = .int kd a.toNat) : V1 C ⟨dst, .unOp .xor t x, ty, pos, after, guard⟩ e L (.int kd (~~~a).toNat) :=
 V1.compl hx (by
  obtain ⟨h1, rfl⟩ := hk
  show kd.wrap (((BitVec.ofInt kd.bits _) ^^^ (BitVec.ofInt kd.bits _)).toNat : Int) = _
  rw [ofInt_toNat, bitW ⟨h1, rfl⟩]
  congr 2
  unfold IntKind.max
  rw [h1]
  simp only [Bool.false_eq_true, if_false]
  have : BitVec.ofInt kd.bits (2 ^ kd.bits - 1) = BitVec.allOnes kd.bits := by
   apply BitVec.eq_of_toNat_eq
   have hp : 0 < 2 ^ kd.bits := Nat.two_pow_pos _
   rw [BitVec.toNat_ofInt, BitVec.toNat_allOnes, show ((2 : Int) ^ kd.bits - 1) = ((2 ^ kd.bits - 1 : Nat) : Int) from by rw [Int.natCast_sub hp]; simp, ← Int.natCast_emod, Int.toNat_natCast, Nat.mod_eq_of_lt (by omega)]
  rw [this, BitVec.allOnes_xor])
theorem V1.shlW {ky : IntKind} {a : BitVec n} {k : Nat} (hk : Uns kd n) (hx : ev C.n e x = .int kd a.toNat) (hy : ev C.n e y = .int ky k) : V1 C ⟨dst, .binOp .shl t x y yt, ty, pos, after, guard⟩ e L (.int kd (a <<< k).toNat) :=
 V1.shl hx hy (by omega) (by
  have hk' := hk
  obtain ⟨h1, rfl⟩ := hk'
  rw [Int.toNat_natCast, show ((a.toNat : Int) * 2 ^ (min k kd.bits)) = ((a.toNat * 2 ^ (min k kd.bits) : Nat) : Int) from by simp, wrapUN hk, BitVec.toNat_shiftLeft, Nat.shiftLeft_eq]
  rcases Nat.le_total k kd.bits with h | h
  · rw [Nat.min_eq_left h]
  · rw [Nat.min_eq_right h, Nat.mul_mod_left, show k = kd.bits + (k - kd.bits) from by omega, Nat.pow_add, ← Nat.mul_assoc, Nat.mul_right_comm, Nat.mul_mod_left])
theorem V1.shrW {ky : IntKind} {a : BitVec n} {k : Nat} (hk : Uns kd n) (hx : ev C.n e x = .int kd a.toNat) (hy : ev C.n e y = .int ky k) : V1 C ⟨dst, .binOp .shr t x y yt, ty, pos, after, guard⟩ e L (.int kd (a >>> k).toNat) :=
 V1.shr hx hy (by omega) (by
  obtain ⟨h1, rfl⟩ := hk
  rw [Int.toNat_natCast, show ((2 : Int) ^ (min k kd.bits)) = ((2 ^ (min k kd.bits) : Nat) : Int) from by simp, Int.fdiv_eq_ediv_of_nonneg _ (Int.natCast_nonneg _), BitVec.toNat_ushiftRight, Nat.shiftRight_eq_div_pow, ← Int.natCast_ediv]
  rcases Nat.le_total k kd.bits with h | h
  · rw [Nat.min_eq_left h]
  · rw [Nat.min_eq_right h, Nat.div_eq_of_lt a.isLt, Nat.div_eq_of_lt (Nat.lt_of_lt_of_le a.isLt (Nat.pow_le_pow_right (by omega) h))])
theorem V1.convW {s d : TypeId} {k1 k2 : IntKind} {ds : TypeDesc} {a : BitVec n} (m : Nat) (hk : Uns k2 m) (hs : C.P.underlying s = some ds) (hd : C.P.underlying d = some (.int k2)) (hx : ev C.n e x = .int k1 a.toNat) : V1 C ⟨dst, .convert s d x, ty, pos, after, guard⟩ e L (.int k2 (a.setWidth m).toNat) :=
 V1.conv hs hd hx (by rw [wrapUN hk, BitVec.toNat_setWidth])
end
end Go.Proofs.YtfjedhmffccgnaaGreatDoor.S
namespace Go.Proofs.YtfjedhmffccgnaaGreatDoor.S
open Go.RowKit
section
variable {C : Ctx} {K : Env → List Blk → Prop} {e : Env} {L : List Blk} {dst : Option Tmp} {ty : TypeId} {pos : String} {after : Array Edge} {guard : Option (Nat × Bool)}
theorem V1.convI {s d : TypeId} {x : Operand} {k1 k2 : IntKind} {ds : TypeDesc} {a : Int} (m : Nat) (hk : Uns k2 m) (hs : C.P.underlying s = some ds) (hd : C.P.underlying d = some (.int k2)) (hx : ev C.n e x = .int k1 a) : V1 C ⟨dst, .convert s d x, ty, pos, after, guard⟩ e L (.int k2 (BitVec.ofInt m a).toNat) :=
 V1.conv hs hd hx (by
  rw [wrapU hk, BitVec.toNat_ofInt]
  have h : (0 : Int) < ((2 ^ m : Nat) : Int) := by exact_mod_cast Nat.two_pow_pos m
  rw [Int.toNat_of_nonneg (Int.emod_nonneg _ (by omega))]; simp)
theorem V1.makeFunc {fn : Go.Fn} {first cap : Array Operand} : V1 C ⟨dst, .makeFunc fn first cap, ty, pos, after, guard⟩ e L (.func fn (first.map (ev C.n e)) (cap.map (ev C.n e))) :=
 V1.run (s := Instr.makeFunc fn (first.map (ev C.n e)) (cap.map (ev C.n e))) rfl (fun _ _ => rfl)
theorem T1.callGX {g : Operand} {args : List Operand} {ts : Array TypeId} {f : FuncId} {first cap : Array Value} {as : List Value} {X G : List Blk} {R : Value → List Blk → Prop} (hg : ev C.n e g = .func (.func f) first cap) (hf : Has C.P f) (has : first ++ (args.map (ev C.n e)).toArray ++ cap = as.toArray)
 (hc : FnX C.P f as C.w0 C.M X R) (ht : Take L X G) (k : ∀ v Y, R v Y → K (putO e dst v) (Y ++ G)) : T1 C ⟨dst, .call ⟨.value g, args.toArray, ts⟩, ty, pos, after, guard⟩ K e L :=
 T1.call (R := fun v L' => ∃ Y, L' = Y ++ G ∧ R v Y) hg hf has (fun w hs => (hc G w (hs.perm ht.perm.symm)).mono fun en w' ⟨v, Y, h1, h2, h3⟩ => ⟨v, Y ++ G, h1, h2, Y, rfl, h3⟩) (fun v L' ⟨Y, h, hR⟩ => h ▸ k v Y hR)
theorem T.drawK {id : Nat} {l : List Oper} {Q : Post} (S : List Blk → Prop) (hm : C.P.follows .mixedOrders = true) (hS : S L) (h : TD C S l.toArray Q l.toArray.size (Array.replicate l.toArray.size false) e L) : T C (.region id l.toArray true) Q e L := T.draw S hm hS h
theorem TK.take {S : List Blk → Prop} {ops : Array Oper} {Q : Post} {fuel : Nat} {listed : Array Bool} (i : Nat) {o : Oper} {v : Value} (hi : ops[i]? = some o) (hsel : Region.noSelect ops = true) (hf : Region.free .any ops listed i = true) (hr : (Region.ready .any ops listed).contains i = true)
 (hg : wantedE C.n ops e o.guard = true) (hQ : ∀ c e L, ¬ Q (.panic c) e L) (hy : ∀ L, S L → V1 C o e L v)
 (h : TD C S ops Q fuel (listed.setIfInBounds i true) (putO e o.dst v) L) : TD C S ops Q (fuel + 1) listed e L := TD.take v hi hsel hf hr hg hQ hy h
theorem TK.one {S : List Blk → Prop} {ops : Array Oper} {Q : Post} {fuel : Nat} {listed : Array Bool} (i : Nat) {o : Oper} (hr : Region.ready .any ops listed = [i]) (ho : ops[i]? = some o) (hg : wantedE C.n ops e o.guard = true)
 (h : T1 C o (fun e' L' => S L' ∧ TD C S ops Q fuel (listed.setIfInBounds i true) e' L') e L) : TD C S ops Q (fuel + 1) listed e L := TD.one hr ho hg h
theorem TK.two {S : List Blk → Prop} {ops : Array Oper} {Q : Post} {fuel : Nat} {listed : Array Bool} (i j : Nat) {oi oj : Oper} (hr : Region.ready .any ops listed = [i, j]) (hoi : ops[i]? = some oi) (hoj : ops[j]? = some oj) (hgi : wantedE C.n ops e oi.guard = true) (hgj : wantedE C.n ops e oj.guard = true)
 (hi : T1 C oi (fun e' L' => S L' ∧ TD C S ops Q fuel (listed.setIfInBounds i true) e' L') e L) (hj : T1 C oj (fun e' L' => S L' ∧ TD C S ops Q fuel (listed.setIfInBounds j true) e' L') e L) : TD C S ops Q (fuel + 1) listed e L :=
 TD.all hr (by simp) fun k hk => by
  simp only [List.mem_cons, List.not_mem_nil, or_false] at hk
  rcases hk with rfl | rfl
  · exact ⟨oi, hoi, fun _ => hi, fun h0 => by rw [hgi] at h0; cases h0⟩
  · exact ⟨oj, hoj, fun _ => hj, fun h0 => by rw [hgj] at h0; cases h0⟩
theorem RdN.sub {b off o k size : Nat} {cells : List Value} (hf : Find L ⟨b, off, cells, size⟩) : RdN C L ⟨b, off + o, none⟩ ((cells.drop o).take k) :=
 RdN.own hf fun i v hv => by
  rw [List.getElem?_take] at hv
  split at hv
  ·
   rw [List.getElem?_drop] at hv
   show (bif Nat.ble off (off + o + i) then cells[off + o + i - off]? else none) = some v
   rw [Nat.ble_eq_true_of_le (by omega), show off + o + i - off = o + i from by omega]; exact hv
  · cases hv
end
/-! Short names for the steps of drawn regions. -/
theorem zO {ops : List Oper} {e0 : Env} {k : Nat} {done : List Value} {v : Value} {l : List (Nat × Value)} (t : Nat) (r : InsR ops e0 k done l) (h : e0 t = v := by (conv => lhs; whnf) <;> rfl) (hn : notBefore ops k t = true := by decide +kernel) : InsR ops e0 k done ((t, v) :: l) := .old h hn r
theorem zN {ops : List Oper} {e0 : Env} {k : Nat} {done : List Value} {v : Value} {l : List (Nat × Value)} (t p : Nat) (h : nthR done (k - p - 1) = some v) (r : InsR ops e0 k done l) (hp : (isPred ops k p && dstIs ops p t) = true := by decide +kernel) (hb : Nat.beq (p + (k - p - 1) + 1) k = true := by exact rfl) : InsR ops e0 k done ((t, v) :: l) := .new p (k - p - 1) hp h hb r
theorem zZ {ops : List Oper} {e0 : Env} {k : Nat} {done : List Value} : InsR ops e0 k done [] := .nil
theorem zQ {ops : List Oper} {e0 : Env} {k : Nat} {done : List Value} {v : Value} {l : List (Nat × Value)} (t : Nat) (r : OutsR ops e0 k done l) (h : e0 t = v := by (conv => lhs; whnf) <;> rfl) (hn : notDst ops t = true := by decide +kernel) : OutsR ops e0 k done ((t, v) :: l) := .old h hn r
theorem zR {ops : List Oper} {e0 : Env} {k : Nat} {done : List Value} {v : Value} {l : List (Nat × Value)} (t p : Nat) (h : nthR done (k - p - 1) = some v) (r : OutsR ops e0 k done l) (hp : dstIs ops p t = true := by decide +kernel) (hb : Nat.beq (p + (k - p - 1) + 1) k = true := by exact rfl) : OutsR ops e0 k done ((t, v) :: l) := .new p (k - p - 1) hp h hb r
theorem zW {ops : List Oper} {e0 : Env} {k : Nat} {done : List Value} : OutsR ops e0 k done [] := .nil
theorem zd {C : Ctx} {ops : List Oper} {e0 : Env} {L : List Blk} {Q : Post} (k : Nat) {done : List Value} {o : Oper} {rest : List Oper} {ins : List (Nat × Value)} {v : Value} (hi : InsR ops e0 k done ins) (hs : ∀ {e_ : Env}, V1 C o (putAll ins e_) L v) (h : Det C ops e0 L Q (k + 1) (v :: done) rest) (hg : ∀ e, wantedE C.n ops.toArray (putAll ins e) o.guard = true := by exact fun _ => rfl) : Det C ops e0 L Q k done (o :: rest) := Det.cons k hi (fun e => .inl ⟨hg e, V1.t hs ⟨rfl, rfl⟩⟩) h
theorem zT {e : Env} {l : List (Nat × Value)} (h : Trk e l := by repeat (first | exact Trk.nil | refine Trk.cons (by (conv => lhs; whnf) <;> rfl) ?_)) : Trk e l := h
theorem zk {C : Ctx} {e : Env} {L : List Blk} {S : List Blk → Prop} {ops : Array Oper} {Q : Post} {fuel : Nat} {listed : Array Bool} (i : Nat) {o : Oper} {v : Value} (hi : ops[i]? = some o) (hy : ∀ {L}, S L → V1 C o e L v) (h : TD C S ops Q fuel (listed.setIfInBounds i true) (putO e o.dst v) L) (hsel : Region.noSelect ops = true := by decide +kernel) (hf : Region.free .any ops listed i = true := by decide +kernel) (hr : (Region.ready .any ops listed).contains i = true := by decide +kernel)
    (hg : wantedE C.n ops e o.guard = true := by exact rfl) (hQ : ∀ c e L, ¬ Q (.panic c) e L := by exact fun _ _ _ h => h) : TD C S ops Q (fuel + 1) listed e L := TK.take i hi hsel hf hr hg hQ (fun _ h => hy h) h
theorem zo {C : Ctx} {e : Env} {L : List Blk} {S : List Blk → Prop} {ops : Array Oper} {Q : Post} {fuel : Nat} {listed : Array Bool} (i : Nat) {o : Oper} (ho : ops[i]? = some o) (hg : wantedE C.n ops e o.guard = true) (h : T1 C o (fun e' L' => S L' ∧ TD C S ops Q fuel (listed.setIfInBounds i true) e' L') e L) (hr : Region.ready .any ops listed = [i] := by decide +kernel) : TD C S ops Q (fuel + 1) listed e L := TK.one i hr ho hg h
end Go.Proofs.YtfjedhmffccgnaaGreatDoor.S
