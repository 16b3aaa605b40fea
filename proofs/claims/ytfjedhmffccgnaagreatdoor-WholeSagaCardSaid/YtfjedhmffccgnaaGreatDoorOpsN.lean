/- Regions that draw their order, gone through once, with several operations at the end that come one after the other. Holds for every program. -/
import Derived.Test.YtfjedhmffccgnaaGreatDoorOps9
namespace Go.Proofs.YtfjedhmffccgnaaGreatDoor.S
open Go.RowKit
def mTail (l : List Oper) (k : Nat) : Bool :=
  ((List.range k).all fun j => (List.range (k + 1)).any fun i => Nat.blt j i && (match l[i]? with | some o => predB o j | none => false)) &&
  ((List.range l.length).all fun i => !(Nat.blt k i) || (match l[i]? with | some o => predB o (i - 1) | none => false))
section
variable {C : Ctx} {Q : Post} {l : List Oper} {F : Nat → Value → List Blk → Prop} {e0 : Env} {L0 : List Blk} {k : Nat}
def Pairs (l : List Oper) (A : Nat → Bool) (don : Nat → Bool) (e : Env) : Prop := ∀ i j di dj a b, i ≠ j → A i = true → A j = true → don i = true → don j = true → dstOf l i = some di → dstOf l j = some dj → e di = .pointer (some ⟨a, 0, none⟩) → e dj = .pointer (some ⟨b, 0, none⟩) → a ≠ b
def MOpN (C : Ctx) (F : Nat → Value → List Blk → Prop) (L0 : List Blk) (i : Nat) (o : Oper) : Prop :=
  ∀ (e : Env) (Y : List Blk), T1 C o (fun e' L' => ∃ b Z, e' = putO e o.dst (.pointer (some ⟨b, 0, none⟩)) ∧ L' = Z ++ (Y ++ L0) ∧ F i (.pointer (some ⟨b, 0, none⟩)) (Z ++ Y) ∧ ∃ B ∈ Z, B.id = b) e (Y ++ L0)
theorem two_ids {Z Y L0 : List Blk} {B D : Blk} (h : ((Z ++ Y ++ L0).map Blk.id).Nodup) (hB : B ∈ Z) (hD : D ∈ Y) : B.id ≠ D.id := by
 rw [List.map_append, List.map_append, List.nodup_append] at h
 have := (List.nodup_append.1 h.1).2.2
 exact this _ (List.mem_map_of_mem hB) _ (List.mem_map_of_mem hD)
structure MInv2 (l : List Oper) (F : Nat → Value → List Blk → Prop) (e0 : Env) (k : Nat) (listed : Array Bool) (e : Env) (Y : List Blk) : Prop where
  size : listed.size = l.length
  fact : ∀ j d, listed.getD j false = true → dstOf l j = some d → F j (e d) Y
  same : ∀ t, notDstM l t = true → e t = e0 t
  nok : ∀ j, k ≤ j → listed.getD j false = false
  closed : ∀ (i j : Nat) (o : Oper), l[i]? = some o → listed.getD i false = true → predB o j = true → listed.getD j false = true
theorem TM.run2 {A : Nat → Bool} (hA : ∀ i v Y, A i = true → F i v Y → ∃ b, v = .pointer (some ⟨b, 0, none⟩) ∧ ∃ B ∈ Y, B.id = b) (hN : ∀ i o, A i = true → l[i]? = some o → MOpN C F L0 i o) (hg : mGood l = true) (ht : mTail l k = true) (hk : k < l.length) (hF : ∀ i v Y Z, F i v Y → F i v (Z ++ Y)) (hops : MOps C l F e0 L0 l.length 0 (l.take k))
 (hend : ∀ (e : Env) (Y : List Blk), (∀ j d, j < k → dstOf l j = some d → F j (e d) Y) → (∀ t, notDstM l t = true → e t = e0 t) → Pairs l A (fun j => Nat.blt j k) e → TX C (fun _ => True) l.length l.toArray Q (l.length - k) (List.replicate k true ++ List.replicate (l.length - k) false).toArray e (Y ++ L0)) :
 ∀ (fuel : Nat) (listed : Array Bool) (e : Env) (Y : List Blk), MInv2 l F e0 k listed e Y → Pairs l A (fun j => listed.getD j false) e → listed.toList.count false = fuel → TX C (fun _ => True) l.length l.toArray Q fuel listed e (Y ++ L0) := by
 have good : ∀ i o, l[i]? = some o → o.guard = none ∧ (∀ ed ∈ o.after, Region.binds .any ed = true → ed.on < i) ∧ ∀ j d, j ≠ i → o.dst = some d → dstOf l j ≠ some d := by
  intro i o ho
  have hi : i < l.length := (List.getElem?_eq_some_iff.1 ho).1
  have := List.all_eq_true.1 hg i (List.mem_range.2 hi)
  rw [ho] at this
  simp only [Bool.and_eq_true] at this
  obtain ⟨⟨h1, h2⟩, h3⟩ := this
  refine ⟨by simpa using h1, fun ed he hb => ?_, fun j d hj hd hdj => ?_⟩
  ·
   have := List.all_eq_true.1 h2 ed (by simpa using he)
   rw [hb] at this
   simpa using this
  ·
   have hjl : j < l.length := by
    unfold dstOf at hdj
    rcases Nat.lt_or_ge j l.length with h | h
    · exact h
    · rw [List.getElem?_eq_none h] at hdj; cases hdj
   have := List.all_eq_true.1 h3 j (List.mem_range.2 hjl)
   rw [hd, hdj] at this
   simp [hj] at this
 unfold mTail at ht
 rw [Bool.and_eq_true] at ht
 intro fuel
 induction fuel with
 | zero =>
  intro listed e Y hI hP hc
  exfalso
  have hkl : listed[k]? = some false := by
   have := hI.nok k (Nat.le_refl k)
   have hk' : k < listed.size := by rw [hI.size]; exact hk
   rw [Array.getElem?_eq_getElem hk']
   cases hb : listed[k] with
   | false => rfl
   | true => rw [getD_false.2 (by rw [Array.getElem?_eq_getElem hk', hb])] at this; cases this
  have : false ∈ listed.toList := by
   obtain ⟨h1, h2⟩ := Array.getElem?_eq_some_iff.1 hkl
   rw [← h2]; exact Array.getElem_mem_toList h1
  have := List.count_pos_iff.2 this
  omega
 | succ fuel ih =>
  intro listed e Y hI hP hc
  by_cases hall : ∀ j, j < k → listed.getD j false = true
  ·
   have hl : listed = (List.replicate k true ++ List.replicate (l.length - k) false).toArray := by
    apply Array.ext
    · simp [hI.size]; omega
    ·
     intro j h1 h2
     rcases Nat.lt_or_ge j k with h | h
     ·
      have := hall j h
      rw [getD_false, Array.getElem?_eq_getElem h1] at this
      simp only [Option.some.injEq] at this
      rw [this]; simp [List.getElem_append, h]
     ·
      have := hI.nok j h
      cases hb : listed[j] with
      | true => rw [getD_false.2 (by rw [Array.getElem?_eq_getElem h1, hb])] at this; cases this
      | false => simp [List.getElem_append, Nat.not_lt.2 h]
   have hf : fuel + 1 = l.length - k := by
    rw [← hc, hl]
    simp [List.count_append, List.count_replicate]
   rw [hf]
   have := hend e Y (fun j d hj hd => hI.fact j d (hall j hj) hd) hI.same (fun i j di dj a b hij hi hj hdi hdj => hP i j di dj a b hij hi hj (hall i (by simpa [Nat.blt_eq] using hdi)) (hall j (by simpa [Nat.blt_eq] using hdj)))
   rwa [← hl] at this
  ·
   have hun : ∃ j : Nat, j < k ∧ listed.getD j false = false := Classical.byContradiction fun h => hall fun j hj => by
    cases hb : listed.getD j false with
    | true => rfl
    | false => exact absurd ⟨j, hj, hb⟩ h
   obtain ⟨m, hm, hmin⟩ : ∃ m : Nat, (m < k ∧ listed.getD m false = false) ∧ ∀ j : Nat, j < m → listed.getD j false = true := by
    obtain ⟨j0, hj0⟩ := hun
    have key : ∀ n : Nat, n ≤ k → (∀ j : Nat, j < n → listed.getD j false = true) ∨ ∃ m : Nat, (m < k ∧ listed.getD m false = false) ∧ ∀ j : Nat, j < m → listed.getD j false = true := by
     intro n
     induction n with
     | zero => exact fun _ => .inl fun j h => absurd h (Nat.not_lt_zero j)
     | succ n ihn =>
      intro hn
      rcases ihn zw with h | h
      ·
       cases hb : listed.getD n false with
       | true =>
        refine .inl fun j hj => ?_
        rcases Nat.lt_succ_iff_lt_or_eq.1 hj with hj | rfl
        · exact h j hj
        · exact hb
       | false => exact .inr ⟨n, ⟨by omega, hb⟩, h⟩
      · exact .inr h
    rcases key k (Nat.le_refl k) with h | h
    · exact absurd h hall
    · exact h
   have unl : ∀ j, j < l.length → listed.getD j false = false → listed[j]? = some false := by
    intro j hj hb
    have hjs : j < listed.size := by rw [hI.size]; exact hj
    rw [Array.getElem?_eq_getElem hjs]
    cases h : listed[j] with
    | false => rfl
    | true => rw [getD_false.2 (by rw [Array.getElem?_eq_getElem hjs, h])] at hb; cases hb
   have hml : m < l.length := by omega
   have hmr : m ∈ Region.ready .any l.toArray listed := by
    refine mem_ready.2 ⟨getD_true.2 (unl m hml hm.2), l[m]'hml, by simp [hml], fun ed he hb => ?_⟩
    exact hmin _ ((good m _ (List.getElem?_eq_getElem hml)).2.1 ed he hb)
   refine TX.all rfl (fun h => by rw [h] at hmr; cases hmr) fun i hi => ?_
   obtain ⟨hil, o, ho, hpre⟩ := mem_ready.1 hi
   rw [getD_true] at hil
   have hil2 : i < listed.size := (Array.getElem?_eq_some_iff.1 hil).1
   have ho' : l[i]? = some o := by simpa using ho
   obtain ⟨hgd, _, hdist⟩ := good i o ho'
   have hpredL : ∀ j, predB o j = true → listed.getD j false = true := by
    intro j hp
    unfold predB at hp
    rw [List.any_eq_true] at hp
    obtain ⟨ed, he, hb⟩ := hp
    simp only [Bool.and_eq_true, beq_iff_eq] at hb
    obtain ⟨hb, rfl⟩ := hb
    exact hpre ed (by simpa using he) hb
   have hik : i < k := by
    refine Classical.byContradiction fun hge => ?_
    rcases Nat.lt_or_ge k i with hlt | hle
    ·
     have h1 := List.all_eq_true.1 ht.2 i (List.mem_range.2 (by rw [hI.size] at hil2; exact hil2))
     rw [ho'] at h1
     have hb : Nat.blt k i = true := by rw [Nat.blt_eq]; exact hlt
     rw [hb] at h1
     simp only [Bool.not_true, Bool.false_or] at h1
     have := hpredL _ h1
     rw [hI.nok (i - 1) (by omega)] at this; cases this
    ·
     have hie : i = k := by omega
     subst hie
     refine hall fun j hj => ?_
     generalize hg' : i - j = g
     induction g using Nat.strongRecOn generalizing j with
     | ind g ihg =>
      have h1 := List.all_eq_true.1 ht.1 j (List.mem_range.2 hj)
      simp only [List.any_eq_true, List.mem_range, Bool.and_eq_true] at h1
      obtain ⟨i', hi'l, hlt, hp⟩ := h1
      have hlt' : j < i' := by simpa [Nat.blt_eq] using hlt
      have hi'n : i' < l.length := by omega
      rw [List.getElem?_eq_getElem hi'n] at hp
      simp only at hp
      by_cases hii : i' = i
      ·
       subst hii
       have ho2 : l[i']'hi'n = o := by rw [List.getElem?_eq_getElem hi'n] at ho'; exact Option.some.inj ho'
       rw [ho2] at hp
       exact hpredL j hp
      · exact hI.closed i' j _ (List.getElem?_eq_getElem hi'n) (ihg (i - i') zw i' zw rfl) hp
   refine ⟨o, ho, fun _ => ?_, fun h0 => by rw [hgd] at h0; cases h0⟩
   have hcnt : (listed.setIfInBounds i true).toList.count false = fuel := by
    rw [Array.toList_setIfInBounds]
    have := count_set (l := listed.toList) (i := i) (by simpa using hil)
    omega
   have hpreds : ∀ j d, predB o j = true → dstOf l j = some d → F j (e d) Y := fun j d hp hd => hI.fact j d (hpredL j hp) hd
   have hO := (MOps.at hops (by rw [List.getElem?_take_of_lt hik]; exact ho') zw) e Y (fun j d hp hd => hpreds j d hp hd) hI.same
   rw [Nat.zero_add] at hO
   have hO2 : T1 C o (fun e' L' => ∃ v Z, e' = putO e o.dst v ∧ L' = Z ++ (Y ++ L0) ∧ F i v (Z ++ Y) ∧ (A i = true → ∃ b, v = .pointer (some ⟨b, 0, none⟩) ∧ ∃ B ∈ Z, B.id = b)) e (Y ++ L0) := by
    cases hAi : A i with
    | true => exact T1.and (hN i o hAi ho' e Y) fun e' L' ⟨b, Z, h1, h2, h3, h4⟩ => ⟨_, Z, h1, h2, h3, fun _ => ⟨b, rfl, h4⟩⟩
    | false => exact T1.and hO fun e' L' ⟨v, Z, h1, h2, h3⟩ => ⟨v, Z, h1, h2, h3, fun h => by cases h⟩
   refine T1.and hO2 fun e' L' ⟨v, Z, he', hL', hf, hnw⟩ => ⟨fun _ => trivial, ?_⟩
   subst he'; subst hL'
   rw [← List.append_assoc]
   refine fun a_ w_ hr_ hs_ hS_ => ?_
   have hPn : Pairs l A (fun j => (listed.setIfInBounds i true).getD j false) (putO e o.dst v) := by
    have old : ∀ j d, j ≠ i → dstOf l j = some d → putO e o.dst v d = e d := by
     intro j d hj hd
     cases hod : o.dst with
     | none => rfl
     | some d' => exact put_other (fun h => hdist j d hj (by rw [hod, h]) hd)
    have new : ∀ d, dstOf l i = some d → putO e o.dst v d = v := by
     intro d hd
     unfold dstOf at hd
     rw [ho'] at hd
     simp only [Option.bind_some] at hd
     rw [hd]; simp [putO, put]
    have one : ∀ j dj a b, j ≠ i → A i = true → A j = true → (listed.setIfInBounds i true).getD j false = true → dstOf l j = some dj → v = .pointer (some ⟨a, 0, none⟩) → e dj = .pointer (some ⟨b, 0, none⟩) → a ≠ b := by
     intro j dj a b hj hAi hAj hl hd hv hb
     rw [setD hil2, if_neg (Ne.symm hj)] at hl
     obtain ⟨b0, h1, B, hB, hBi⟩ := hnw hAi
     obtain ⟨b1, h2, D, hD, hDi⟩ := hA j _ _ hAj (hI.fact j dj hl hd)
     rw [hv] at h1; rw [hb] at h2
     cases h1; cases h2
     rw [← hBi, ← hDi]
     exact two_ids hs_.distinct hB hD
    intro i1 j1 di dj a b hij hi1 hj1 hl1 hl2 hdi hdj ha hb
    by_cases h1 : i1 = i
    ·
     subst h1
     rw [new di hdi] at ha; rw [old j1 dj (Ne.symm hij) hdj] at hb
     exact one j1 dj a b (Ne.symm hij) hi1 hj1 hl2 hdj ha hb
    ·
     by_cases h2 : j1 = i
     ·
      subst h2
      rw [new dj hdj] at hb; rw [old i1 di hij hdi] at ha
      exact (one i1 di b a hij hj1 hi1 hl1 hdi hb ha).symm
     ·
      rw [old i1 di h1 hdi] at ha; rw [old j1 dj h2 hdj] at hb
      have q1 : listed.getD i1 false = true := by have := hl1; simp only at this; rwa [setD hil2, if_neg (Ne.symm h1)] at this
      have q2 : listed.getD j1 false = true := by have := hl2; simp only at this; rwa [setD hil2, if_neg (Ne.symm h2)] at this
      exact hP i1 j1 di dj a b hij hi1 hj1 q1 q2 hdi hdj ha hb
   refine (show TX _ _ _ _ _ _ _ _ _ from ?_) a_ w_ hr_ hs_ hS_
   refine ih _ _ _ ⟨by simpa using hI.size, fun j d hj hd => ?_, fun t ht => ?_, ?_, fun i' j' o' ho2 hl2 hp2 => ?_⟩ hPn hcnt
   ·
    rw [setD hil2] at hj
    by_cases hij : i = j
    ·
     subst hij
     unfold dstOf at hd
     rw [ho'] at hd
     simp only [Option.bind_some] at hd
     rw [hd]
     show F i (put e d v d) _
     simpa [put] using hf
    ·
     rw [if_neg hij] at hj
     have hfj := hF j (e d) Y Z (hI.fact j d hj hd)
     cases hod : o.dst with
     | none => exact hfj
     | some d' =>
      have hne : d' ≠ d := fun h => hdist j d (Ne.symm hij) (by rw [hod, h]) hd
      show F j (put e d' v d) _
      rw [put_other (Ne.symm hne)]
      exact hfj
   ·
    rw [← hI.same t ht]
    cases hod : o.dst with
    | none => rfl
    | some d' =>
     have hne : d' ≠ t := by
      rintro rfl
      have := List.all_eq_true.1 ht o (List.mem_of_getElem? ho')
      rw [hod] at this
      simp at this
     exact put_other (Ne.symm hne)
   · intro j hj; rw [setD hil2, if_neg (by omega)]; exact hI.nok j hj
   ·
    have hj2 : listed.getD j' false = true := by
     rw [setD hil2] at hl2
     by_cases hii : i = i'
     ·
      subst hii
      rw [ho'] at ho2
      obtain rfl := Option.some.inj ho2
      unfold predB at hp2
      rw [List.any_eq_true] at hp2
      obtain ⟨ed, he, hb⟩ := hp2
      simp only [Bool.and_eq_true, beq_iff_eq] at hb
      obtain ⟨hb, rfl⟩ := hb
      exact hpre ed (by simpa using he) hb
     ·
      rw [if_neg hii] at hl2
      exact hI.closed i' j' o' ho2 hl2 hp2
    rw [setD hil2]
    split
    · rfl
    · exact hj2
theorem T.drawMT {id : Nat} (F : Nat → Value → List Blk → Prop) (A : Nat → Bool) (k : Nat) (hA : ∀ i v Y, A i = true → F i v Y → ∃ b, v = .pointer (some ⟨b, 0, none⟩) ∧ ∃ B ∈ Y, B.id = b) (hN : ∀ i o, A i = true → l[i]? = some o → MOpN C F L0 i o) (hm : C.P.follows .mixedOrders = true) (hg : mGood l = true) (ht : mTail l k = true) (hk : Nat.blt k l.length = true) (hF : ∀ i v Y Z, F i v Y → F i v (Z ++ Y)) (hops : MOps C l F e0 L0 l.length 0 (l.take k))
 (hend : ∀ (e : Env) (Y : List Blk), (∀ j d, j < k → dstOf l j = some d → F j (e d) Y) → (∀ t, notDstM l t = true → e t = e0 t) → Pairs l A (fun j => Nat.blt j k) e → TX C (fun _ => True) l.length l.toArray Q (l.length - k) (List.replicate k true ++ List.replicate (l.length - k) false).toArray e (Y ++ L0)) :
 T C (.region id l.toArray true) Q e0 L0 := by
 refine T.drawX (fun _ => True) l.length hm trivial ?_
 refine TM.run2 hA hN hg ht (by simpa [Nat.blt_eq] using hk) hF hops hend _ _ e0 [] ⟨by simp, fun j d hj => ?_, fun _ _ => rfl, fun j _ => ?_, fun i j o _ hi _ => ?_⟩ (fun i j _ _ _ _ _ _ _ hi => ?_) ?_
 ·
  rw [getD_false, Array.getElem?_replicate] at hj
  split at hj <;> cases hj
 ·
  rw [Array.getD_eq_getD_getElem?]
  rcases Nat.lt_or_ge j l.length with h | h
  · simp [h]
  · simp [h]
 ·
  rw [getD_false, Array.getElem?_replicate] at hi
  split at hi <;> cases hi
 ·
  simp only at hi
  rw [getD_false, Array.getElem?_replicate] at hi
  split at hi <;> cases hi
 · simp
theorem TX.oneU {ops : Array Oper} {n fuel : Nat} {listed : Array Bool} {e : Env} {L : List Blk} (i : Nat) {o : Oper} (hr : Region.ready .any ops listed = [i]) (ho : ops[i]? = some o) (hg : wantedE C.n ops e o.guard = true)
 (h : T1 C o (TX C (fun _ => True) n ops Q fuel (listed.setIfInBounds i true)) e L) : TX C (fun _ => True) n ops Q (fuel + 1) listed e L :=
 TX.one i hr ho hg fun a w K' Q' hr hs hK => h a w K' Q' hr hs fun a' w' e' L' h1 h2 h3 => hK a' w' e' L' h1 h2 ⟨trivial, h3⟩
theorem TX.known {ops : Array Oper} {n fuel : Nat} {listed : Array Bool} {e : Env} {L : List Blk} {tr : List (Nat × Value)} (h : Trk e tr) (hT : TX C (fun _ => True) n ops Q fuel listed (putAll tr e) L) : TX C (fun _ => True) n ops Q fuel listed e L := by rwa [h.put] at hT
end
end Go.Proofs.YtfjedhmffccgnaaGreatDoor.S
namespace Go.Proofs.YtfjedhmffccgnaaGreatDoor.S
open Go.RowKit
theorem ahead : ∀ (X Y : List Blk), X.Nodup → (∀ B ∈ X, B ∈ Y) → ∃ R, (X ++ R).Perm Y
 | [], Y, _, _ => ⟨Y, .refl _⟩
 | B :: X, Y, hn, hs => by
  obtain ⟨s, t, rfl⟩ := List.append_of_mem (hs B (List.mem_cons_self ..))
  have hn' := List.nodup_cons.1 hn
  obtain ⟨R, hR⟩ := ahead X (s ++ t) hn'.2 (fun D hD => by
   have := hs D (List.mem_cons_of_mem _ hD)
   rw [List.mem_append, List.mem_cons] at this
   rw [List.mem_append]
   rcases this with h | rfl | h
   · exact .inl h
   · exact absurd hD hn'.1
   · exact .inr h)
  exact ⟨R, (List.Perm.cons B hR).trans List.perm_middle.symm⟩
theorem TX.front {C : Ctx} {Q : Post} {ops : Array Oper} {n fuel : Nat} {listed : Array Bool} {e : Env} {X Y L0 : List Blk} (hn : X.Nodup) (hs : ∀ B ∈ X, B ∈ Y) (h : TX C (fun _ => True) n ops Q fuel listed e (X ++ L0)) : TX C (fun _ => True) n ops Q fuel listed e (Y ++ L0) := by
 obtain ⟨R, hR⟩ := ahead X Y hn hs
 intro a w hr hst _
 refine h a w hr ((hst.perm (hR.append_right L0)).sub ?_) (fun _ => trivial)
 rw [List.append_assoc]
 exact List.Sublist.append (List.Sublist.refl _) (List.sublist_append_right _ _)
end Go.Proofs.YtfjedhmffccgnaaGreatDoor.S
