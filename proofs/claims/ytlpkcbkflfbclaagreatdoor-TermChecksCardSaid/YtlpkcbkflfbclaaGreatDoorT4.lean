/- Whether a term is one: how great and how deep it is, its head, its name. -/
import Derived.Test.YtlpkcbkflfbclaaGreatDoorT3
namespace Go.Proofs.YtlpkcbkflfbclaaGreatDoor.S
open Go.RowKit

mutual
/-- As the program measures. -/
def meas (d : Nat) : Tm → Nat × Nat
  | .mk _ _ ts => if 24 < d then (1, d) else measL d 1 d ts
def measL (d s m : Nat) : List Tm → Nat × Nat
  | [] => (s, m)
  | t :: ts => if 1000 < s + (meas (d + 1) t).1 then (s + (meas (d + 1) t).1, max m (meas (d + 1) t).2) else measL d (s + (meas (d + 1) t).1) (max m (meas (d + 1) t).2) ts
end
theorem meas_le (t : Tm) : ∀ d, d ≤ 25 → (meas d t).1 ≤ 1001 * (26 - d) + 1 ∧ (meas d t).2 ≤ 25 := by
  induction t using Tm.ind with
  | h k n ts ih =>
    intro d hd
    rw [meas]
    split
    · exact ⟨by simp only; omega, hd⟩
    · have key : ∀ (us : List Tm), (∀ u ∈ us, u ∈ ts) → ∀ s m, s ≤ 1000 → m ≤ 25 → (measL d s m us).1 ≤ 1001 * (26 - d) + 1 ∧ (measL d s m us).2 ≤ 25 := by
        intro us
        induction us with
        | nil => intro _ s m hs hm; rw [measL]; exact ⟨by simp only; omega, hm⟩
        | cons u us ihu =>
          intro hu s m hs hm
          obtain ⟨h1, h2⟩ := ih u (hu u (by simp)) (d + 1) (by omega)
          rw [measL]
          split
          · exact ⟨by simp only; omega, by simp only; omega⟩
          · exact ihu (fun v hv => hu v (by simp [hv])) _ _ (by omega) (by omega)
      exact key ts (fun _ h => h) 1 d (by omega) hd
theorem measL_spec (d : Nat) : ∀ (ts : List Tm), (∀ t ∈ ts, ((meas (d + 1) t).1 ≤ 1000 ∧ (meas (d + 1) t).2 ≤ 24 ↔ t.size ≤ 1000 ∧ d + 1 + t.deep ≤ 24) ∧ (t.size ≤ 1000 → d + 1 + t.deep ≤ 24 → meas (d + 1) t = (t.size, d + 1 + t.deep))) → ∀ s m, d ≤ m →
    ((measL d s m ts).1 ≤ 1000 ∧ (measL d s m ts).2 ≤ 24 ↔ s + tsize ts ≤ 1000 ∧ max m (d + tdeep ts) ≤ 24) ∧ (s + tsize ts ≤ 1000 → max m (d + tdeep ts) ≤ 24 → measL d s m ts = (s + tsize ts, max m (d + tdeep ts)))
  | [], _, s, m, hm => by
    rw [measL, tsize, tdeep]
    refine ⟨by simp only; omega, fun _ _ => ?_⟩
    rw [Nat.add_zero, Nat.add_zero, Nat.max_eq_left hm]
  | t :: ts, h, s, m, hm => by
    obtain ⟨h1, h2⟩ := h t (by simp)
    rw [measL, tsize, tdeep]
    by_cases hg : t.size ≤ 1000 ∧ d + 1 + t.deep ≤ 24
    · have he := h2 hg.1 hg.2
      rw [he]
      by_cases hb : 1000 < s + t.size
      · rw [if_pos hb]
        exact ⟨⟨fun ⟨h3, _⟩ => by simp only at h3; omega, fun ⟨h3, _⟩ => by omega⟩, fun h3 => by omega⟩
      · rw [if_neg hb]
        obtain ⟨i1, i2⟩ := measL_spec d ts (fun u hu => h u (by simp [hu])) (s + t.size) (max m (d + 1 + t.deep)) (by omega)
        refine ⟨by rw [i1]; omega, fun h3 h4 => ?_⟩
        rw [i2 (by omega) (by omega)]
        congr 1 <;> omega
    · have hn : ¬ ((meas (d + 1) t).1 ≤ 1000 ∧ (meas (d + 1) t).2 ≤ 24) := fun h3 => hg (h1.1 h3)
      have hbad : ¬ (s + (t.size + tsize ts) ≤ 1000 ∧ max m (d + max (t.deep + 1) (tdeep ts)) ≤ 24) := by omega
      refine ⟨⟨fun h3 => ?_, fun h3 => absurd h3 hbad⟩, fun h3 h4 => absurd ⟨h3, h4⟩ hbad⟩
      exfalso
      by_cases hb : 1000 < s + (meas (d + 1) t).1
      · rw [if_pos hb] at h3; simp only at h3; omega
      · rw [if_neg hb] at h3
        have mono : ∀ (us : List Tm) s m, s ≤ (measL d s m us).1 ∧ m ≤ (measL d s m us).2 := by
          intro us
          induction us with
          | nil => intro s m; rw [measL]; exact ⟨Nat.le_refl _, Nat.le_refl _⟩
          | cons u us ihu =>
            intro s m
            rw [measL]
            split
            · exact ⟨by simp only; omega, by simp only; omega⟩
            · have := ihu (s + (meas (d + 1) u).1) (max m (meas (d + 1) u).2); omega
        have := mono ts (s + (meas (d + 1) t).1) (max m (meas (d + 1) t).2)
        omega
theorem meas_spec (t : Tm) : ∀ d, ((meas d t).1 ≤ 1000 ∧ (meas d t).2 ≤ 24 ↔ t.size ≤ 1000 ∧ d + t.deep ≤ 24) ∧ (t.size ≤ 1000 → d + t.deep ≤ 24 → meas d t = (t.size, d + t.deep)) := by
  induction t using Tm.ind with
  | h k n ts ih =>
    intro d
    rw [meas, Tm.size, Tm.deep]
    by_cases hd : 24 < d
    · rw [if_pos hd]
      exact ⟨⟨fun ⟨_, h⟩ => by simp only at h; omega, fun ⟨_, h⟩ => by omega⟩, fun _ h => by omega⟩
    · rw [if_neg hd]
      obtain ⟨i1, i2⟩ := measL_spec d ts (fun t ht => ih t ht (d + 1)) 1 d (Nat.le_refl _)
      refine ⟨by rw [i1]; omega, fun h1 h2 => ?_⟩
      rw [i2 (by omega) (by omega)]
      congr 1 <;> omega
theorem measL_drop {d s m i : Nat} {ts : List Tm} {x : Tm} (h : ts[i]? = some x) : measL d s m (ts.drop i) = if 1000 < s + (meas (d + 1) x).1 then (s + (meas (d + 1) x).1, max m (meas (d + 1) x).2) else measL d (s + (meas (d + 1) x).1) (max m (meas (d + 1) x).2) (ts.drop (i + 1)) := by
  have hi := (List.getElem?_eq_some_iff.1 h).1
  rw [List.drop_eq_getElem_cons hi, show ts[i] = x from by rw [List.getElem?_eq_getElem hi] at h; exact Option.some.inj h, measL]
theorem shpL_drop {i : Nat} {ts : List Tm} {x : Tm} (h : ts[i]? = some x) : shpL (ts.drop i) = (shp x && shpL (ts.drop (i + 1))) := by
  have hi := (List.getElem?_eq_some_iff.1 h).1
  rw [List.drop_eq_getElem_cons hi, show ts[i] = x from by rw [List.getElem?_eq_getElem hi] at h; exact Option.some.inj h, shpL]
theorem named_iff {s : List UInt8} : named s = true ↔ s ≠ [] ∧ s.length ≤ 20 ∧ ∀ x ∈ s, low x = true := by
  unfold named
  rw [Bool.and_eq_true, Bool.and_eq_true, List.all_eq_true, decide_eq_true_iff]
  cases s <;> simp
def MeasAt (w0 : World) (x : Tm) : Prop := ∀ (d : Nat) (Ps : List Blk) (cx : List Value), d ≤ 25 → TmR w0 Ps x cx → FnV P 36 [.agg cx.toArray, .int .i64 (d : Nat)] w0 Ps (fun v => v = .tuple #[.int .i64 ((meas d x).1 : Nat), .int .i64 ((meas d x).2 : Nat)])
def CheckAt (w0 : World) (x : Tm) : Prop := ∀ (Ps : List Blk) (cx : List Value), TmR w0 Ps x cx → FnV P 37 [.agg cx.toArray] w0 Ps (fun v => v = .int .i64 (if shp x = true then 0 else 190))
theorem head_cases (k : Int) (n : List UInt8) (len : Nat) :
    (len < least k ∧ headOk k n len = false) ∨ (least k ≤ len ∧ most k < len ∧ headOk k n len = false) ∨
    (least k ≤ len ∧ len ≤ most k ∧ k = 1 ∧ named n = true ∧ headOk k n len = true) ∨ (least k ≤ len ∧ len ≤ most k ∧ k = 1 ∧ named n = false ∧ headOk k n len = false) ∨
    (least k ≤ len ∧ len ≤ most k ∧ k = 4 ∧ named n = true ∧ headOk k n len = true) ∨ (least k ≤ len ∧ len ≤ most k ∧ k = 4 ∧ named n = false ∧ headOk k n len = false) ∨
    (least k ≤ len ∧ len ≤ most k ∧ k ≠ 1 ∧ k ≠ 4 ∧ named n = true ∧ headOk k n len = false) ∨ (least k ≤ len ∧ len ≤ most k ∧ k ≠ 1 ∧ k ≠ 4 ∧ named n = false ∧ n ≠ [] ∧ headOk k n len = false) ∨
    (least k ≤ len ∧ len ≤ most k ∧ k ≠ 1 ∧ k ≠ 4 ∧ named n = false ∧ n = [] ∧ headOk k n len = true) := by
  unfold headOk
  by_cases h1 : len < least k
  · exact .inl ⟨h1, by simp [h1]⟩
  · by_cases h2 : most k < len
    · exact .inr (.inl ⟨by omega, h2, by simp [h2]⟩)
    · have a1 : least k ≤ len := by omega
      have a2 : len ≤ most k := by omega
      by_cases h3 : k = 1
      · cases hn : named n <;> simp [a1, a2, h1, h2, h3, hn]
        all_goals (subst h3; simp [a1, a2, h1, h2, hn])
      · by_cases h4 : k = 4
        · cases hn : named n <;> simp [a1, a2, h1, h2, h3, h4, hn]
          all_goals (subst h4; simp [a1, a2, h1, h2, hn])
        · cases hn : named n
          · by_cases hz : n = []
            · simp [a1, a2, h1, h2, h3, h4, hn, hz]
            · simp [a1, a2, h1, h2, h3, h4, hn, hz]
          · simp [a1, a2, h1, h2, h3, h4, hn]

set_option maxRecDepth 100000 in
theorem counts_any (k : Int) (w : World) : Fn P 70 [.int .i64 k] w [] (fun v Y => Y = [] ∧ v = .tuple #[.int .i64 (least k : Nat), .int .i64 (most k : Nat)]) := by
  refine Fn.of 17 [.tmp 2, .tmp 3] Go.Proofs.Tryz.func70 rfl rfl rfl rfl ?_
  refine T.seq ?_
  refine T.region ?_
  refine TL.cons rfl (V1.t (V1.assign' z_D) ?_)
  refine TL.cons rfl (V1.t (V1.assign' z_D) ?_)
  refine TL.nil ?_
  refine T.seq ?_
  refine T.seq ?_
  refine T.region ?_
  refine TL.cons rfl (V1.t (V1.move' z_D) ?_)
  refine TL.nil ?_
  refine T.block ?_
  refine T.seq ?_
  refine T.region ?_
  refine TL.cons rfl (T1.eqI_split rfl rfl (fun h2_0 => ?_) (fun h2_0 => ?_))
  ·
    refine TL.cons rfl (V1.t (V1.assign' z_D) ?_)
    refine TL.nil ?_
    refine T.cond_t rfl ?_
    refine T.seq ?_
    refine T.region ?_
    refine TL.cons rfl (V1.t (V1.assign' z_D) ?_)
    refine TL.cons rfl (V1.t (V1.assign' z_D) ?_)
    refine TL.nil ?_
    refine T.ret ?_
    obtain ⟨e1, e2⟩ : least k = 0 ∧ most k = 0 := by unfold least most; constructor <;> (repeat' split) <;> omega
    exact ⟨_, [], _, .cons (.tmp z_D) (.cons (.tmp z_D) .nil), Take.nil, rfl, by rw [e1, e2]; rfl⟩
  ·
    refine TL.cons rfl (V1.t (V1.assign' z_D) ?_)
    refine TL.nil ?_
    refine T.cond_f rfl ?_
    refine T.seq ?_
    refine T.region ?_
    refine TL.cons rfl (T1.eqI_split rfl rfl (fun h4_0 => ?_) (fun h4_0 => ?_))
    ·
      refine TL.cons rfl (V1.t (V1.assign' z_D) ?_)
      refine TL.nil ?_
      refine T.cond_t rfl ?_
      refine T.seq ?_
      refine T.region ?_
      refine TL.cons rfl (V1.t (V1.assign' z_D) ?_)
      refine TL.cons rfl (V1.t (V1.assign' z_D) ?_)
      refine TL.nil ?_
      refine T.ret ?_
      obtain ⟨e1, e2⟩ : least k = 1 ∧ most k = 4 := by unfold least most; constructor <;> (repeat' split) <;> omega
      exact ⟨_, [], _, .cons (.tmp z_D) (.cons (.tmp z_D) .nil), Take.nil, rfl, by rw [e1, e2]; rfl⟩
    ·
      refine TL.cons rfl (V1.t (V1.assign' z_D) ?_)
      refine TL.nil ?_
      refine T.cond_f rfl ?_
      refine T.seq ?_
      refine T.region ?_
      refine TL.cons rfl (T1.eqI_split rfl rfl (fun h6_0 => ?_) (fun h6_0 => ?_))
      ·
        refine TL.cons rfl (V1.t (V1.assign' z_D) ?_)
        refine TL.nil ?_
        refine T.cond_t rfl ?_
        refine T.seq ?_
        refine T.region ?_
        refine TL.cons rfl (V1.t (V1.assign' z_D) ?_)
        refine TL.cons rfl (V1.t (V1.assign' z_D) ?_)
        refine TL.nil ?_
        refine T.ret ?_
        obtain ⟨e1, e2⟩ : least k = 1 ∧ most k = 1 := by unfold least most; constructor <;> (repeat' split) <;> omega
        exact ⟨_, [], _, .cons (.tmp z_D) (.cons (.tmp z_D) .nil), Take.nil, rfl, by rw [e1, e2]; rfl⟩
      ·
        refine TL.cons rfl (V1.t (V1.assign' z_D) ?_)
        refine TL.nil ?_
        refine T.cond_f rfl ?_
        refine T.seq ?_
        refine T.seq ?_
        refine T.region ?_
        refine TL.cons rfl (T1.eqI_split rfl rfl (fun h8_0 => ?_) (fun h8_0 => ?_))
        ·
          refine TL.cons rfl (V1.t (V1.assign' z_D) ?_)
          refine TL.nil ?_
          refine T.cond_t rfl ?_
          refine T.skip ?_
          refine T.cond_t rfl ?_
          refine T.seq ?_
          refine T.region ?_
          refine TL.cons rfl (V1.t (V1.assign' z_D) ?_)
          refine TL.cons rfl (V1.t (V1.assign' z_D) ?_)
          refine TL.nil ?_
          refine T.ret ?_
          obtain ⟨e1, e2⟩ : least k = 2 ∧ most k = 2 := by unfold least most; constructor <;> (repeat' split) <;> omega
          exact ⟨_, [], _, .cons (.tmp z_D) (.cons (.tmp z_D) .nil), Take.nil, rfl, by rw [e1, e2]; rfl⟩
        ·
          refine TL.cons rfl (V1.t (V1.assign' z_D) ?_)
          refine TL.nil ?_
          refine T.cond_f rfl ?_
          refine T.seq ?_
          refine T.region ?_
          refine TL.cons rfl (T1.eqI_split rfl rfl (fun h9_0 => ?_) (fun h9_0 => ?_))
          ·
            refine TL.cons rfl (V1.t (V1.assign' z_D) ?_)
            refine TL.nil ?_
            refine T.cond_t rfl ?_
            refine T.skip ?_
            refine T.cond_t rfl ?_
            refine T.seq ?_
            refine T.region ?_
            refine TL.cons rfl (V1.t (V1.assign' z_D) ?_)
            refine TL.cons rfl (V1.t (V1.assign' z_D) ?_)
            refine TL.nil ?_
            refine T.ret ?_
            obtain ⟨e1, e2⟩ : least k = 2 ∧ most k = 2 := by unfold least most; constructor <;> (repeat' split) <;> omega
            exact ⟨_, [], _, .cons (.tmp z_D) (.cons (.tmp z_D) .nil), Take.nil, rfl, by rw [e1, e2]; rfl⟩
          ·
            refine TL.cons rfl (V1.t (V1.assign' z_D) ?_)
            refine TL.nil ?_
            refine T.cond_f rfl ?_
            refine T.seq ?_
            refine T.region ?_
            refine TL.cons rfl (T1.eqI_split rfl rfl (fun h10_0 => ?_) (fun h10_0 => ?_))
            ·
              refine TL.cons rfl (V1.t (V1.assign' z_D) ?_)
              refine TL.nil ?_
              refine T.cond_t rfl ?_
              refine T.skip ?_
              refine T.cond_t rfl ?_
              refine T.seq ?_
              refine T.live (l := []) .nil (fun e_ => ?_)
              refine T.region ?_
              refine TL.cons rfl (V1.t (V1.assign' z_D) ?_)
              refine TL.cons rfl (V1.t (V1.assign' z_D) ?_)
              refine TL.nil ?_
              refine T.ret ?_
              obtain ⟨e1, e2⟩ : least k = 2 ∧ most k = 2 := by unfold least most; constructor <;> (repeat' split) <;> omega
              exact ⟨_, [], _, .cons (.tmp z_D) (.cons (.tmp z_D) .nil), Take.nil, rfl, by rw [e1, e2]; rfl⟩
            ·
              refine TL.cons rfl (V1.t (V1.assign' z_D) ?_)
              refine TL.nil ?_
              refine T.cond_f rfl ?_
              refine T.seq ?_
              refine T.live (l := [(4, _)]) (.cons z_D .nil) (fun e_ => ?_)
              refine T.region ?_
              refine TL.cons rfl (T1.eqI_split rfl rfl (fun h11_0 => ?_) (fun h11_0 => ?_))
              ·
                refine TL.cons rfl (V1.t (V1.assign' z_D) ?_)
                refine TL.nil ?_
                refine T.cond_t rfl ?_
                refine T.skip ?_
                refine T.cond_t rfl ?_
                refine T.seq ?_
                refine T.region ?_
                refine TL.cons rfl (V1.t (V1.assign' z_D) ?_)
                refine TL.cons rfl (V1.t (V1.assign' z_D) ?_)
                refine TL.nil ?_
                refine T.ret ?_
                obtain ⟨e1, e2⟩ : least k = 2 ∧ most k = 2 := by unfold least most; constructor <;> (repeat' split) <;> omega
                exact ⟨_, [], _, .cons (.tmp z_D) (.cons (.tmp z_D) .nil), Take.nil, rfl, by rw [e1, e2]; rfl⟩
              ·
                refine TL.cons rfl (V1.t (V1.assign' z_D) ?_)
                refine TL.nil ?_
                refine T.cond_f rfl ?_
                refine T.region ?_
                refine TL.cons rfl (T1.eqI_split rfl rfl (fun h12_0 => ?_) (fun h12_0 => ?_))
                ·
                  refine TL.cons rfl (V1.t (V1.assign' z_D) ?_)
                  refine TL.nil ?_
                  refine T.cond_t rfl ?_
                  refine T.seq ?_
                  refine T.region ?_
                  refine TL.cons rfl (V1.t (V1.assign' z_D) ?_)
                  refine TL.cons rfl (V1.t (V1.assign' z_D) ?_)
                  refine TL.nil ?_
                  refine T.ret ?_
                  obtain ⟨e1, e2⟩ : least k = 2 ∧ most k = 2 := by unfold least most; constructor <;> (repeat' split) <;> omega
                  exact ⟨_, [], _, .cons (.tmp z_D) (.cons (.tmp z_D) .nil), Take.nil, rfl, by rw [e1, e2]; rfl⟩
                ·
                  refine TL.cons rfl (V1.t (V1.assign' z_D) ?_)
                  refine TL.nil ?_
                  refine T.cond_f rfl ?_
                  refine T.skip ?_
                  refine T.seq ?_
                  refine T.region ?_
                  refine TL.cons rfl (V1.t (V1.assign' z_D) ?_)
                  refine TL.cons rfl (V1.t (V1.assign' z_D) ?_)
                  refine TL.nil ?_
                  refine T.ret ?_
                  obtain ⟨e1, e2⟩ : least k = 1 ∧ most k = 0 := by unfold least most; constructor <;> (repeat' split) <;> omega
                  exact ⟨_, [], _, .cons (.tmp z_D) (.cons (.tmp z_D) .nil), Take.nil, rfl, by rw [e1, e2]; rfl⟩

set_option maxRecDepth 100000 in
theorem named_any (s : List UInt8) (w : World) : Fn P 71 [.string (bstr s)] w [] (fun v Y => Y = [] ∧ v = .bool (named s)) := by
  refine Fn.of 15 [.tmp 2] Go.Proofs.Tryz.func71 rfl rfl rfl rfl ?_
  refine T.seq ?_
  refine T.region ?_
  refine TL.cons rfl (V1.t (V1.assign' z_D) ?_)
  refine TL.nil ?_
  refine T.seq ?_
  refine T.region ?_
  refine TL.cons rfl (V1.t (V1.move' z_D) ?_)
  refine TL.cons rfl (T1.neS_split (l := s) (m := []) rfl rfl (fun h1 => ?_) (fun h1 => ?_))
  ·
    refine TL.cons rfl (V1.t (V1.move' z_D) ?_)
    refine TL.cons rfl (V1.t (V1.move' z_D) ?_)
    refine TL.cons rfl (V1.t (V1.lenS ty_9 rfl) ?_)
    refine TL.cons rfl (T1.leI_split rfl rfl (fun h5 => ?_) (fun h5 => ?_))
    ·
      rw [bstr_size] at h5
      refine TL.cons rfl (V1.t (V1.pick rfl z_D) ?_)
      refine TL.cons rfl (V1.t (V1.move' z_D) ?_)
      refine TL.cons rfl (V1.t (V1.move' z_D) ?_)
      refine TL.cons rfl (T1.call0 has_100 rfl (fun w hs => Trim_any s w (by omega)) (fun v_ hv => ?_))
      obtain ⟨r, rfl, hr⟩ := hv
      refine TL.cons rfl (T1.eqS_split (l := r) (m := []) rfl rfl (fun h10 => ?_) (fun h10 => ?_))
      ·
        refine TL.cons rfl (V1.t (V1.pick rfl z_D) ?_)
        refine TL.cons rfl (V1.t (V1.assign' z_D) ?_)
        refine TL.nil ?_
        refine T.ret ?_
        exact ⟨_, [], _, .cons (.tmp z_D) .nil, Take.nil, rfl, congrArg Value.bool (named_iff.2 ⟨h1, by omega, hr.1 h10⟩).symm⟩
      ·
        refine TL.cons rfl (V1.t (V1.pick rfl z_D) ?_)
        refine TL.cons rfl (V1.t (V1.assign' z_D) ?_)
        refine TL.nil ?_
        refine T.ret ?_
        exact ⟨_, [], _, .cons (.tmp z_D) .nil, Take.nil, rfl, congrArg Value.bool (Bool.eq_false_iff.2 (fun h => by have h2 := named_iff.1 h; first | exact h2.1 h1 | (exfalso; omega) | exact h10 (hr.2 h2.2.2))).symm⟩
    ·
      rw [bstr_size] at h5
      refine TL.cons rfl (V1.t (V1.pick rfl z_D) ?_)
      refine TL.cons rfl (V1.t (V1.move' z_D) ?_)
      refine TL.no rfl ?_
      refine TL.no rfl ?_
      refine TL.no rfl ?_
      refine TL.cons rfl (V1.t (V1.pick rfl z_D) ?_)
      refine TL.cons rfl (V1.t (V1.assign' z_D) ?_)
      refine TL.nil ?_
      refine T.ret ?_
      exact ⟨_, [], _, .cons (.tmp z_D) .nil, Take.nil, rfl, congrArg Value.bool (Bool.eq_false_iff.2 (fun h => by have h2 := named_iff.1 h; first | exact h2.1 h1 | (exfalso; omega) | exact h10 (hr.2 h2.2.2))).symm⟩
  ·
    refine TL.cons rfl (V1.t (V1.move' z_D) ?_)
    refine TL.no rfl ?_
    refine TL.no rfl ?_
    refine TL.no rfl ?_
    refine TL.cons rfl (V1.t (V1.pick rfl z_D) ?_)
    refine TL.cons rfl (V1.t (V1.move' z_D) ?_)
    refine TL.no rfl ?_
    refine TL.no rfl ?_
    refine TL.no rfl ?_
    refine TL.cons rfl (V1.t (V1.pick rfl z_D) ?_)
    refine TL.cons rfl (V1.t (V1.assign' z_D) ?_)
    refine TL.nil ?_
    refine T.ret ?_
    exact ⟨_, [], _, .cons (.tmp z_D) .nil, Take.nil, rfl, congrArg Value.bool (Bool.eq_false_iff.2 (fun h => by have h2 := named_iff.1 h; first | exact h2.1 h1 | (exfalso; omega) | exact h10 (hr.2 h2.2.2))).symm⟩

set_option maxRecDepth 100000 in
theorem Meas_step (w0 : World) (Ps : List Blk) {k : Int} {nm : List UInt8} {ts : List Tm} (ih : ∀ x ∈ ts, MeasAt w0 x) (d : Nat) (cx : List Value) (hd : d ≤ 25) (hx : TmR w0 Ps (.mk k nm ts) cx) : FnV P 36 [.agg cx.toArray, .int .i64 (d : Nat)] w0 Ps (fun v => v = .tuple #[.int .i64 ((meas d (.mk k nm ts)).1 : Nat), .int .i64 ((meas d (.mk k nm ts)).2 : Nat)]) := by
  obtain ⟨a, c, vs, rfl, hr, hl, ht⟩ := hx.inv
  unfold maxN at hl
  refine FnV.of 41 [.tmp 4, .tmp 5] Go.Proofs.Tryz.func36 rfl rfl rfl rfl (fun G hG => ?_)
  refine T.seq ?_
  refine T.region ?_
  refine TL.cons rfl (T1.boxN 3 rfl rfl (fun b2 => ?_))
  refine TL.cons rfl (V1.t (V1.assign' z_D) ?_)
  refine TL.cons rfl (V1.t (V1.assign' z_D) ?_)
  refine TL.nil ?_
  refine T.seq ?_
  refine T.seq ?_
  refine T.region ?_
  refine TL.cons rfl (V1.t (V1.move' z_D) ?_)
  refine TL.cons rfl (T1.gtI_split rfl rfl (fun h1 => ?_) (fun h1 => ?_))
  ·
    refine TL.nil ?_
    refine T.cond_t rfl ?_
    refine T.seq ?_
    refine T.region ?_
    refine TL.cons rfl (V1.t (V1.move' z_D) ?_)
    refine TL.cons rfl (V1.t (V1.assign' z_D) ?_)
    refine TL.cons rfl (V1.t (V1.assign' z_D) ?_)
    refine TL.nil ?_
    refine T.ret ?_
    rw [meas, if_pos (by omega)]
    exact ⟨_, G, _, .cons (.tmp z_D) (.cons (.tmp z_D) .nil), z_A, rfl, rfl⟩
  ·
    refine TL.nil ?_
    refine T.cond_f rfl ?_
    refine T.skip ?_
    refine T.seq ?_
    refine T.region ?_
    refine TL.cons rfl (V1.t (V1.move' z_D) ?_)
    refine TL.cons rfl (V1.t (V1.assign' z_D) ?_)
    refine TL.cons rfl (V1.t (V1.assign' z_D) ?_)
    refine TL.nil ?_
    refine T.seq ?_
    refine T.seq ?_
    refine T.region ?_
    refine TL.cons rfl (V1.t (V1.fieldAddr fl_24_2 rfl) ?_)
    refine TL.cons rfl (V1.t (V1.load1 one_22 rfl (.own z_C (by rfl))) ?_)
    refine TL.cons rfl (V1.t (V1.lenSl ty_22 rfl) ?_)
    refine TL.cons rfl (V1.t (V1.move' z_D) ?_)
    refine TL.nil ?_
    refine T.block ?_
    refine T.loopL (σ := Nat × Nat × Nat) (l0 := [(1, _), (17, _), (18, _)]) (fun x => [(6, .int .i64 (x.1 : Nat)), (7, .int .i64 (x.2.1 : Nat)), (19, .int .i64 (x.2.2 : Nat))]) (fun x L => L = ⟨b2, 0, [.int .i64 k, .string (bstr nm), .slice a ts.length c], 3⟩ :: G ∧ x.2.2 ≤ ts.length ∧ x.1 ≤ 1000 ∧ x.2.1 ≤ 25 ∧ measL d 1 d ts = measL d x.1 x.2.1 (ts.drop x.2.2)) (fun x => ts.length - x.2.2) (1, d, 0) (.cons rfl (.cons rfl (.cons rfl .nil))) (.cons z_D (.cons z_D (.cons z_D .nil))) z_A (⟨rfl, Nat.zero_le _, (show 1 ≤ 1000 by decide), hd, by rw [List.drop_zero]⟩) ?_
    rintro ⟨s, m, i⟩ e_ L ⟨rfl, hi, hs, hm, ho⟩
    simp only at hi hs hm ho
    refine T.seq ?_
    refine T.region ?_
    refine TL.cons rfl (T1.ltI_split rfl rfl (fun h5 => ?_) (fun h5 => ?_))
    ·
      try simp only at h5
      obtain ⟨x, hx0⟩ : ∃ x, ts[i]? = some x := ⟨_, List.getElem?_eq_getElem (by omega)⟩
      have hcx := ih x (List.mem_of_getElem? hx0)
      have hdr := measL_drop (d := d) (s := s) (m := m) hx0
      obtain ⟨hb1, hb2⟩ := meas_le x (d + 1) (by omega)
      obtain ⟨bx, ox, cs_, rfl, hx, hrdx⟩ := hr.term ht hx0 P
      obtain ⟨kx, nx, asx⟩ := x
      obtain ⟨ax, cx, vsx, rfl, hrx, hlx, htx⟩ := hx.inv
      try simp only at *
      refine TL.nil ?_
      refine T.seq ?_
      refine T.cond_t rfl ?_
      refine T.skip ?_
      refine T.seq ?_
      refine T.block ?_
      refine T.seq ?_
      refine T.region ?_
      refine TL.cons rfl (V1.t (V1.indexAddrS ty_22 sz_24 rfl rfl (by omega) (by omega)) ?_)
      refine TL.cons rfl (V1.t (V1.loadN (vs := [.int .i64 kx, .string (bstr nx), .slice ax asx.length cx]) one_24 sz_24 rfl (hrdx _ rfl rfl _ z_E) rfl) ?_)
      refine TL.cons rfl (T1.allocN 3 zr_24 rfl (fun b9 => ?_))
      refine TL.cons rfl (T1.storeN rfl rfl sz_24 (ones rfl) z_G (by rfl) (by rfl) ?_)
      refine TL.nil ?_
      refine T.seq ?_
      refine T.region ?_
      refine TL.cons rfl (V1.t (V1.loadN one_24 sz_24 rfl (RdN.whole z_C) (by rfl)) ?_)
      refine TL.cons rfl (V1.t (V1.move' z_D) ?_)
      refine TL.cons rfl (V1.t (V1.add (c := ((d + 1 : Nat) : Int)) rfl rfl (by rw [wrap_i64 _ (by omega) (by omega)]; omega)) ?_)
      refine TL.cons rfl (T1.callV has_36 rfl rfl (hcx (d + 1) _ _ (by omega) hx) z_E (fun v_ hv => ?_))
      obtain rfl := hv
      refine TL.cons rfl (V1.t (V1.move' z_D) ?_)
      refine TL.cons rfl (V1.t (V1.extract rfl (by rfl)) ?_)
      refine TL.cons rfl (V1.t (V1.extract rfl (by rfl)) ?_)
      refine TL.cons rfl (V1.t (V1.assign' z_D) ?_)
      refine TL.cons rfl (V1.t (V1.assign' z_D) ?_)
      refine TL.nil ?_
      refine T.seq ?_
      refine T.region ?_
      refine TL.cons rfl (V1.t (V1.move' z_D) ?_)
      refine TL.cons rfl (V1.t (V1.move' z_D) ?_)
      refine TL.cons rfl (V1.t (V1.add (c := ((s + (meas (d + 1) (.mk kx nx asx)).1 : Nat) : Int)) rfl rfl (by rw [wrap_i64 _ (by omega) (by omega)]; omega)) ?_)
      refine TL.cons rfl (V1.t (V1.move' z_D) ?_)
      refine TL.cons rfl (V1.t (V1.move' z_D) ?_)
      refine TL.cons rfl (V1.t (V1.max2 (c := ((max m (meas (d + 1) (.mk kx nx asx)).2 : Nat) : Int)) rfl rfl (by omega)) ?_)
      refine TL.cons rfl (V1.t (V1.assign' z_D) ?_)
      refine TL.cons rfl (V1.t (V1.assign' z_D) ?_)
      refine TL.nil ?_
      refine T.seq ?_
      refine T.live (l := [(1, _), (6, _), (7, _), (17, _), (18, _), (19, _)]) (.cons z_D (.cons z_D (.cons z_D (.cons z_D (.cons z_D (.cons z_D .nil)))))) (fun e_ => ?_)
      refine T.region ?_
      refine TL.cons rfl (V1.t (V1.move' z_D) ?_)
      refine TL.cons rfl (T1.gtI_split rfl rfl (fun h9 => ?_) (fun h9 => ?_))
      ·
        rw [hdr, if_pos (by omega)] at ho
        refine TL.nil ?_
        refine T.cond_t rfl ?_
        refine T.exit ?_
        refine T.seq ?_
        refine T.region ?_
        refine TL.cons rfl (V1.t (V1.move' z_D) ?_)
        refine TL.cons rfl (V1.t (V1.move' z_D) ?_)
        refine TL.cons rfl (V1.t (V1.assign' z_D) ?_)
        refine TL.cons rfl (V1.t (V1.assign' z_D) ?_)
        refine TL.nil ?_
        refine T.ret ?_
        rw [meas, if_neg (by omega), ho]
        exact ⟨_, G, _, .cons (.tmp z_D) (.cons (.tmp z_D) .nil), z_A, rfl, rfl⟩
      ·
        rw [hdr, if_neg (by omega)] at ho
        refine TL.nil ?_
        refine T.cond_f rfl ?_
        refine T.skip ?_
        refine T.region ?_
        refine TL.cons rfl (V1.t (V1.add (c := ((i + 1 : Nat) : Int)) rfl rfl (by rw [wrap_i64 _ (by omega) (by omega)]; omega)) ?_)
        refine TL.cons rfl (V1.t (V1.move' z_D) ?_)
        refine TL.nil ?_
        exact ⟨(s + (meas (d + 1) (.mk kx nx asx)).1, max m (meas (d + 1) (.mk kx nx asx)).2, i + 1), _, _, (by simp only; omega), (.cons rfl (.cons rfl (.cons rfl .nil))), (.cons rfl (.cons rfl (.cons rfl .nil))), z_A, ⟨rfl, by simp only; omega, by simp only; omega, by simp only; omega, ho⟩⟩
    ·
      try simp only at h5
      obtain rfl : i = ts.length := by omega
      rw [List.drop_length, measL] at ho
      refine TL.nil ?_
      refine T.seq ?_
      refine T.cond_f rfl ?_
      refine T.exit ?_
      refine T.seq ?_
      refine T.region ?_
      refine TL.cons rfl (V1.t (V1.move' z_D) ?_)
      refine TL.cons rfl (V1.t (V1.move' z_D) ?_)
      refine TL.cons rfl (V1.t (V1.assign' z_D) ?_)
      refine TL.cons rfl (V1.t (V1.assign' z_D) ?_)
      refine TL.nil ?_
      refine T.ret ?_
      rw [meas, if_neg (by omega), ho]
      exact ⟨_, G, _, .cons (.tmp z_D) (.cons (.tmp z_D) .nil), z_A, rfl, rfl⟩

theorem Meas_any (w0 : World) (x : Tm) : MeasAt w0 x := by
  induction x using Tm.ind with
  | h k n xs ih => exact fun d Ps cx hd hx => Meas_step w0 Ps ih d cx hd hx
set_option maxRecDepth 100000 in
theorem Check_step (w0 : World) (Ps : List Blk) {k : Int} {nm : List UInt8} {ts : List Tm} (ih : ∀ x ∈ ts, CheckAt w0 x) (cx : List Value) (hx : TmR w0 Ps (.mk k nm ts) cx) : FnV P 37 [.agg cx.toArray] w0 Ps (fun v => v = .int .i64 (if shp (.mk k nm ts) = true then 0 else 190)) := by
  obtain ⟨a, c, vs, rfl, hr, hl, ht⟩ := hx.inv
  unfold maxN at hl
  refine FnV.of 68 [.tmp 2] Go.Proofs.Tryz.func37 rfl rfl rfl rfl (fun G hG => ?_)
  refine T.seq ?_
  refine T.region ?_
  refine TL.cons rfl (T1.boxN 3 rfl rfl (fun b1 => ?_))
  refine TL.cons rfl (V1.t (V1.assign' z_D) ?_)
  refine TL.nil ?_
  refine T.seq ?_
  refine T.region ?_
  refine TL.cons rfl (V1.t (V1.fieldAddr fl_24_0 rfl) ?_)
  refine TL.cons rfl (V1.t (V1.load1 one_3 rfl (.own z_C (by rfl))) ?_)
  refine TL.cons rfl (T1.call0 has_70 rfl (fun w hs => counts_any k w) (fun v_ hv => ?_))
  obtain rfl := hv
  refine TL.cons rfl (V1.t (V1.move' z_D) ?_)
  refine TL.cons rfl (V1.t (V1.extract rfl (by rfl)) ?_)
  refine TL.cons rfl (V1.t (V1.extract rfl (by rfl)) ?_)
  refine TL.cons rfl (V1.t (V1.assign' z_D) ?_)
  rcases head_cases k nm ts.length with ⟨q1, qh⟩ | ⟨q1, q2, qh⟩ | ⟨q1, q2, q3, qn, qh⟩ | ⟨q1, q2, q3, qn, qh⟩ | ⟨q1, q2, q3, qn, qh⟩ | ⟨q1, q2, q3, qn, qh⟩ | ⟨q1, q2, q3, q4, qn, qh⟩ | ⟨q1, q2, q3, q4, qn, q5, qh⟩ | ⟨q1, q2, q3, q4, qn, q5, qh⟩
  ·
    refine TL.cons rfl (V1.t (V1.assign' z_D) ?_)
    refine TL.nil ?_
    refine T.cut (σ := Unit) (l0 := [(1, _)]) (fun x => []) (fun _ L => L = ⟨b1, 0, [.int .i64 k, .string (bstr nm), .slice a ts.length c], 3⟩ :: G ∧ headOk k nm ts.length = true) (.cons z_D .nil) ?_ ?_
    ·
      refine T.seq ?_
      refine T.drawDet' mixed (by decide +kernel) ?_
      refine Det.cons 0 (ins := [(1, _)]) (.old z_D (by decide +kernel) .nil) (fun e_ => .inl ⟨rfl, V1.t (V1.fieldAddr fl_24_2 rfl) ⟨rfl, rfl⟩⟩) ?_
      refine Det.cons 1 (ins := [(14, _)]) (.new 0 0 (by decide +kernel) rfl rfl .nil) (fun e_ => .inl ⟨rfl, V1.t (V1.load1 one_22 rfl (.own z_C (by rfl))) ⟨rfl, rfl⟩⟩) ?_
      refine Det.cons 2 (ins := [(15, _)]) (.new 1 0 (by decide +kernel) rfl rfl .nil) (fun e_ => .inl ⟨rfl, V1.t (V1.lenSl ty_22 rfl) ⟨rfl, rfl⟩⟩) ?_
      refine Det.cons 3 (ins := [(3, _)]) (.old z_D (by decide +kernel) .nil) (fun e_ => .inl ⟨rfl, V1.t (V1.move' z_D) ⟨rfl, rfl⟩⟩) ?_
      refine Det.cons 4 (ins := [(16, _), (17, _)]) (.new 2 1 (by decide +kernel) rfl rfl (.new 3 0 (by decide +kernel) rfl rfl .nil)) (fun e_ => .inl ⟨rfl, V1.t (V1.ltI rfl rfl (decide_eq_true (by omega))) ⟨rfl, rfl⟩⟩) ?_
      refine Det.cons 5 (ins := [(18, _)]) (.new 4 0 (by decide +kernel) rfl rfl .nil) (fun e_ => .inl ⟨rfl, V1.t (V1.move' z_D) ⟨rfl, rfl⟩⟩) ?_
      refine Det.cons 6 (ins := [(19, _)]) (.new 5 0 (by decide +kernel) rfl rfl .nil) (fun e_ => .inr ⟨rfl, rfl⟩) ?_
      refine Det.cons 7 (ins := [(19, _)]) (.new 5 1 (by decide +kernel) rfl rfl .nil) (fun e_ => .inr ⟨rfl, rfl⟩) ?_
      refine Det.cons 8 (ins := [(19, _)]) (.new 5 2 (by decide +kernel) rfl rfl .nil) (fun e_ => .inr ⟨rfl, rfl⟩) ?_
      refine Det.cons 9 (ins := [(19, _)]) (.new 5 3 (by decide +kernel) rfl rfl .nil) (fun e_ => .inr ⟨rfl, rfl⟩) ?_
      refine Det.cons 10 (ins := [(19, _)]) (.new 5 4 (by decide +kernel) rfl rfl .nil) (fun e_ => .inr ⟨rfl, rfl⟩) ?_
      refine Det.cons 11 (ins := [(19, _), (24, _)]) (.new 5 5 (by decide +kernel) rfl rfl (.new 10 0 (by decide +kernel) rfl rfl .nil)) (fun e_ => .inl ⟨rfl, V1.t (V1.pick rfl z_D) ⟨rfl, rfl⟩⟩) ?_
      refine Det.cons 12 (ins := [(25, _)]) (.new 11 0 (by decide +kernel) rfl rfl .nil) (fun e_ => .inl ⟨rfl, V1.t (V1.move' z_D) ⟨rfl, rfl⟩⟩) ?_
      refine Det.cons 13 (ins := [(26, _)]) (.new 12 0 (by decide +kernel) rfl rfl .nil) (fun e_ => .inr ⟨rfl, rfl⟩) ?_
      refine Det.cons 14 (ins := [(26, _)]) (.new 12 1 (by decide +kernel) rfl rfl .nil) (fun e_ => .inr ⟨rfl, rfl⟩) ?_
      refine Det.cons 15 (ins := [(26, _)]) (.new 12 2 (by decide +kernel) rfl rfl .nil) (fun e_ => .inr ⟨rfl, rfl⟩) ?_
      refine Det.cons 16 (ins := [(26, _)]) (.new 12 3 (by decide +kernel) rfl rfl .nil) (fun e_ => .inr ⟨rfl, rfl⟩) ?_
      refine Det.cons 17 (ins := [(30, _)]) (.new 16 0 (by decide +kernel) rfl rfl .nil) (fun e_ => .inr ⟨rfl, rfl⟩) ?_
      refine Det.cons 18 (ins := [(30, _)]) (.new 16 1 (by decide +kernel) rfl rfl .nil) (fun e_ => .inr ⟨rfl, rfl⟩) ?_
      refine Det.cons 19 (ins := [(30, _)]) (.new 16 2 (by decide +kernel) rfl rfl .nil) (fun e_ => .inr ⟨rfl, rfl⟩) ?_
      refine Det.cons 20 (ins := [(26, _)]) (.new 12 7 (by decide +kernel) rfl rfl .nil) (fun e_ => .inr ⟨rfl, rfl⟩) ?_
      refine Det.cons 21 (ins := [(26, _)]) (.new 12 8 (by decide +kernel) rfl rfl .nil) (fun e_ => .inr ⟨rfl, rfl⟩) ?_
      refine Det.cons 22 (ins := [(26, _)]) (.new 12 9 (by decide +kernel) rfl rfl .nil) (fun e_ => .inr ⟨rfl, rfl⟩) ?_
      refine Det.cons 23 (ins := [(26, _)]) (.new 12 10 (by decide +kernel) rfl rfl .nil) (fun e_ => .inr ⟨rfl, rfl⟩) ?_
      refine Det.cons 24 (ins := [(26, _)]) (.new 12 11 (by decide +kernel) rfl rfl .nil) (fun e_ => .inr ⟨rfl, rfl⟩) ?_
      refine Det.cons 25 (ins := [(26, _), (38, _)]) (.new 12 12 (by decide +kernel) rfl rfl (.new 24 0 (by decide +kernel) rfl rfl .nil)) (fun e_ => .inl ⟨rfl, V1.t (V1.pick rfl z_D) ⟨rfl, rfl⟩⟩) ?_
      refine Det.cons 26 (ins := [(39, _)]) (.new 25 0 (by decide +kernel) rfl rfl .nil) (fun e_ => .inl ⟨rfl, V1.t (V1.move' z_D) ⟨rfl, rfl⟩⟩) ?_
      refine Det.cons 27 (ins := [(40, _)]) (.new 26 0 (by decide +kernel) rfl rfl .nil) (fun e_ => .inr ⟨rfl, rfl⟩) ?_
      refine Det.cons 28 (ins := [(40, _)]) (.new 26 1 (by decide +kernel) rfl rfl .nil) (fun e_ => .inr ⟨rfl, rfl⟩) ?_
      refine Det.cons 29 (ins := [(40, _)]) (.new 26 2 (by decide +kernel) rfl rfl .nil) (fun e_ => .inr ⟨rfl, rfl⟩) ?_
      refine Det.cons 30 (ins := [(40, _)]) (.new 26 3 (by decide +kernel) rfl rfl .nil) (fun e_ => .inr ⟨rfl, rfl⟩) ?_
      refine Det.cons 31 (ins := [(44, _)]) (.new 30 0 (by decide +kernel) rfl rfl .nil) (fun e_ => .inr ⟨rfl, rfl⟩) ?_
      refine Det.cons 32 (ins := [(44, _)]) (.new 30 1 (by decide +kernel) rfl rfl .nil) (fun e_ => .inr ⟨rfl, rfl⟩) ?_
      refine Det.cons 33 (ins := [(44, _)]) (.new 30 2 (by decide +kernel) rfl rfl .nil) (fun e_ => .inr ⟨rfl, rfl⟩) ?_
      refine Det.cons 34 (ins := [(40, _)]) (.new 26 7 (by decide +kernel) rfl rfl .nil) (fun e_ => .inr ⟨rfl, rfl⟩) ?_
      refine Det.cons 35 (ins := [(40, _)]) (.new 26 8 (by decide +kernel) rfl rfl .nil) (fun e_ => .inr ⟨rfl, rfl⟩) ?_
      refine Det.cons 36 (ins := [(49, _)]) (.new 35 0 (by decide +kernel) rfl rfl .nil) (fun e_ => .inr ⟨rfl, rfl⟩) ?_
      refine Det.cons 37 (ins := [(49, _)]) (.new 35 1 (by decide +kernel) rfl rfl .nil) (fun e_ => .inr ⟨rfl, rfl⟩) ?_
      refine Det.cons 38 (ins := [(49, _)]) (.new 35 2 (by decide +kernel) rfl rfl .nil) (fun e_ => .inr ⟨rfl, rfl⟩) ?_
      refine Det.cons 39 (ins := [(40, _)]) (.new 26 12 (by decide +kernel) rfl rfl .nil) (fun e_ => .inr ⟨rfl, rfl⟩) ?_
      refine Det.cons 40 (ins := [(40, _), (53, _)]) (.new 26 13 (by decide +kernel) rfl rfl (.new 39 0 (by decide +kernel) rfl rfl .nil)) (fun e_ => .inl ⟨rfl, V1.t (V1.pick rfl z_D) ⟨rfl, rfl⟩⟩) ?_
      refine Det.nil 41 (l := [(1, _), (54, _)]) (.old z_D (by decide +kernel) (.new 40 0 (by decide +kernel) rfl rfl .nil)) (fun e_ => ?_)
      refine T.cond_t rfl ?_
      refine T.seq ?_
      refine T.region ?_
      refine TL.cons rfl (V1.t (V1.assign' z_D) ?_)
      refine TL.nil ?_
      refine T.ret ?_
      exact ⟨_, G, _, .cons (.tmp z_D) .nil, z_A, rfl, congrArg (Value.int .i64) (by rw [if_neg (by rw [shp, qh, Bool.false_and]; decide)])⟩
    ·
      rintro _ e_ L ⟨rfl, qh⟩
      refine T.seq ?_
      refine T.seq ?_
      refine T.region ?_
      refine TL.cons rfl (V1.t (V1.fieldAddr fl_24_2 rfl) ?_)
      refine TL.cons rfl (V1.t (V1.load1 one_22 rfl (.own z_C (by rfl))) ?_)
      refine TL.cons rfl (V1.t (V1.lenSl ty_22 rfl) ?_)
      refine TL.cons rfl (V1.t (V1.move' z_D) ?_)
      refine TL.nil ?_
      refine T.block ?_
      refine T.loopL (σ := Nat) (l0 := [(56, _), (57, _)]) (fun x => [(58, .int .i64 (x : Nat))]) (fun i L => L = ⟨b1, 0, [.int .i64 k, .string (bstr nm), .slice a ts.length c], 3⟩ :: G ∧ i ≤ ts.length ∧ shpL ts = shpL (ts.drop i)) (fun i => ts.length - i) 0 (.cons rfl .nil) (.cons z_D (.cons z_D .nil)) z_A (⟨rfl, Nat.zero_le _, by rw [List.drop_zero]⟩) ?_
      rintro i e_ L ⟨rfl, hi, ho⟩
      refine T.seq ?_
      refine T.region ?_
      refine TL.cons rfl (T1.ltI_split rfl rfl (fun h5 => ?_) (fun h5 => ?_))
      ·
        obtain ⟨x, hx0⟩ : ∃ x, ts[i]? = some x := ⟨_, List.getElem?_eq_getElem (by omega)⟩
        have hcx := ih x (List.mem_of_getElem? hx0)
        have hdr := shpL_drop hx0
        obtain ⟨bx, ox, cs_, rfl, hx, hrdx⟩ := hr.term ht hx0 P
        obtain ⟨kx, nx, asx⟩ := x
        obtain ⟨ax, cx, vsx, rfl, hrx, hlx, htx⟩ := hx.inv
        try simp only at *
        refine TL.nil ?_
        refine T.seq ?_
        refine T.cond_t rfl ?_
        refine T.skip ?_
        refine T.seq ?_
        refine T.block ?_
        refine T.seq ?_
        refine T.region ?_
        refine TL.cons rfl (V1.t (V1.indexAddrS ty_22 sz_24 rfl rfl (by omega) (by omega)) ?_)
        refine TL.cons rfl (V1.t (V1.loadN (vs := [.int .i64 kx, .string (bstr nx), .slice ax asx.length cx]) one_24 sz_24 rfl (hrdx _ rfl rfl _ z_E) rfl) ?_)
        refine TL.cons rfl (T1.allocN 3 zr_24 rfl (fun b6 => ?_))
        refine TL.cons rfl (T1.storeN rfl rfl sz_24 (ones rfl) z_G (by rfl) (by rfl) ?_)
        refine TL.nil ?_
        refine T.seq ?_
        refine T.region ?_
        refine TL.cons rfl (V1.t (V1.loadN one_24 sz_24 rfl (RdN.whole z_C) (by rfl)) ?_)
        refine TL.cons rfl (T1.callV has_37 rfl rfl (hcx _ _ hx) z_E (fun v_ hv => ?_))
        obtain rfl := hv
        refine TL.cons rfl (V1.t (V1.assign' z_D) ?_)
        refine TL.nil ?_
        refine T.seq ?_
        refine T.region ?_
        refine TL.cons rfl (V1.t (V1.move' z_D) ?_)
        refine TL.cons rfl (T1.neI_split rfl rfl (fun h8 => ?_) (fun h8 => ?_))
        ·
          have hsx : shp (.mk kx nx asx) = false := by simpa using h8
          rw [hdr, hsx, Bool.false_and] at ho
          refine TL.nil ?_
          refine T.cond_t rfl ?_
          refine T.seq ?_
          refine T.region ?_
          refine TL.cons rfl (V1.t (V1.move' z_D) ?_)
          refine TL.cons rfl (V1.t (V1.assign' z_D) ?_)
          refine TL.nil ?_
          refine T.ret ?_
          exact ⟨_, G, _, .cons (.tmp z_D) .nil, z_A, rfl, congrArg (Value.int .i64) (by rw [hsx, if_neg (by decide), if_neg (by rw [shp, qh, ho]; decide)])⟩
        ·
          have hsx : shp (.mk kx nx asx) = true := by simpa using h8
          rw [hdr, hsx, Bool.true_and] at ho
          refine TL.nil ?_
          refine T.cond_f rfl ?_
          refine T.skip ?_
          refine T.region ?_
          refine TL.cons rfl (V1.t (V1.add (c := ((i + 1 : Nat) : Int)) rfl rfl (by rw [wrap_i64 _ (by omega) (by omega)]; omega)) ?_)
          refine TL.cons rfl (V1.t (V1.move' z_D) ?_)
          refine TL.nil ?_
          exact ⟨i + 1, _, _, (by simp only; omega), (.cons rfl .nil), (.cons rfl (.cons rfl .nil)), z_A, ⟨rfl, by omega, ho⟩⟩
      ·
        obtain rfl : i = ts.length := by omega
        rw [List.drop_length, shpL] at ho
        refine TL.nil ?_
        refine T.seq ?_
        refine T.cond_f rfl ?_
        refine T.exit ?_
        refine T.seq ?_
        refine T.region ?_
        refine TL.cons rfl (V1.t (V1.assign' z_D) ?_)
        refine TL.nil ?_
        refine T.ret ?_
        exact ⟨_, G, _, .cons (.tmp z_D) .nil, z_A, rfl, congrArg (Value.int .i64) (by rw [if_pos (by rw [shp, qh, ho]; rfl)])⟩
  ·
    refine TL.cons rfl (V1.t (V1.assign' z_D) ?_)
    refine TL.nil ?_
    refine T.cut (σ := Unit) (l0 := [(1, _)]) (fun x => []) (fun _ L => L = ⟨b1, 0, [.int .i64 k, .string (bstr nm), .slice a ts.length c], 3⟩ :: G ∧ headOk k nm ts.length = true) (.cons z_D .nil) ?_ ?_
    ·
      refine T.seq ?_
      refine T.drawDet' mixed (by decide +kernel) ?_
      refine Det.cons 0 (ins := [(1, _)]) (.old z_D (by decide +kernel) .nil) (fun e_ => .inl ⟨rfl, V1.t (V1.fieldAddr fl_24_2 rfl) ⟨rfl, rfl⟩⟩) ?_
      refine Det.cons 1 (ins := [(14, _)]) (.new 0 0 (by decide +kernel) rfl rfl .nil) (fun e_ => .inl ⟨rfl, V1.t (V1.load1 one_22 rfl (.own z_C (by rfl))) ⟨rfl, rfl⟩⟩) ?_
      refine Det.cons 2 (ins := [(15, _)]) (.new 1 0 (by decide +kernel) rfl rfl .nil) (fun e_ => .inl ⟨rfl, V1.t (V1.lenSl ty_22 rfl) ⟨rfl, rfl⟩⟩) ?_
      refine Det.cons 3 (ins := [(3, _)]) (.old z_D (by decide +kernel) .nil) (fun e_ => .inl ⟨rfl, V1.t (V1.move' z_D) ⟨rfl, rfl⟩⟩) ?_
      refine Det.cons 4 (ins := [(16, _), (17, _)]) (.new 2 1 (by decide +kernel) rfl rfl (.new 3 0 (by decide +kernel) rfl rfl .nil)) (fun e_ => .inl ⟨rfl, V1.t (V1.ltI rfl rfl (decide_eq_false (by omega))) ⟨rfl, rfl⟩⟩) ?_
      refine Det.cons 5 (ins := [(18, _)]) (.new 4 0 (by decide +kernel) rfl rfl .nil) (fun e_ => .inl ⟨rfl, V1.t (V1.move' z_D) ⟨rfl, rfl⟩⟩) ?_
      refine Det.cons 6 (ins := [(1, _), (19, _)]) (.old z_D (by decide +kernel) (.new 5 0 (by decide +kernel) rfl rfl .nil)) (fun e_ => .inl ⟨rfl, V1.t (V1.fieldAddr fl_24_2 rfl) ⟨rfl, rfl⟩⟩) ?_
      refine Det.cons 7 (ins := [(19, _), (20, _)]) (.new 5 1 (by decide +kernel) rfl rfl (.new 6 0 (by decide +kernel) rfl rfl .nil)) (fun e_ => .inl ⟨rfl, V1.t (V1.load1 one_22 rfl (.own z_C (by rfl))) ⟨rfl, rfl⟩⟩) ?_
      refine Det.cons 8 (ins := [(19, _), (21, _)]) (.new 5 2 (by decide +kernel) rfl rfl (.new 7 0 (by decide +kernel) rfl rfl .nil)) (fun e_ => .inl ⟨rfl, V1.t (V1.lenSl ty_22 rfl) ⟨rfl, rfl⟩⟩) ?_
      refine Det.cons 9 (ins := [(4, _), (19, _)]) (.old z_D (by decide +kernel) (.new 5 3 (by decide +kernel) rfl rfl .nil)) (fun e_ => .inl ⟨rfl, V1.t (V1.move' z_D) ⟨rfl, rfl⟩⟩) ?_
      refine Det.cons 10 (ins := [(19, _), (22, _), (23, _)]) (.new 5 4 (by decide +kernel) rfl rfl (.new 8 1 (by decide +kernel) rfl rfl (.new 9 0 (by decide +kernel) rfl rfl .nil))) (fun e_ => .inl ⟨rfl, V1.t (V1.gtI rfl rfl (decide_eq_true (by omega))) ⟨rfl, rfl⟩⟩) ?_
      refine Det.cons 11 (ins := [(19, _), (24, _)]) (.new 5 5 (by decide +kernel) rfl rfl (.new 10 0 (by decide +kernel) rfl rfl .nil)) (fun e_ => .inl ⟨rfl, V1.t (V1.pick rfl z_D) ⟨rfl, rfl⟩⟩) ?_
      refine Det.cons 12 (ins := [(25, _)]) (.new 11 0 (by decide +kernel) rfl rfl .nil) (fun e_ => .inl ⟨rfl, V1.t (V1.move' z_D) ⟨rfl, rfl⟩⟩) ?_
      refine Det.cons 13 (ins := [(26, _)]) (.new 12 0 (by decide +kernel) rfl rfl .nil) (fun e_ => .inr ⟨rfl, rfl⟩) ?_
      refine Det.cons 14 (ins := [(26, _)]) (.new 12 1 (by decide +kernel) rfl rfl .nil) (fun e_ => .inr ⟨rfl, rfl⟩) ?_
      refine Det.cons 15 (ins := [(26, _)]) (.new 12 2 (by decide +kernel) rfl rfl .nil) (fun e_ => .inr ⟨rfl, rfl⟩) ?_
      refine Det.cons 16 (ins := [(26, _)]) (.new 12 3 (by decide +kernel) rfl rfl .nil) (fun e_ => .inr ⟨rfl, rfl⟩) ?_
      refine Det.cons 17 (ins := [(30, _)]) (.new 16 0 (by decide +kernel) rfl rfl .nil) (fun e_ => .inr ⟨rfl, rfl⟩) ?_
      refine Det.cons 18 (ins := [(30, _)]) (.new 16 1 (by decide +kernel) rfl rfl .nil) (fun e_ => .inr ⟨rfl, rfl⟩) ?_
      refine Det.cons 19 (ins := [(30, _)]) (.new 16 2 (by decide +kernel) rfl rfl .nil) (fun e_ => .inr ⟨rfl, rfl⟩) ?_
      refine Det.cons 20 (ins := [(26, _)]) (.new 12 7 (by decide +kernel) rfl rfl .nil) (fun e_ => .inr ⟨rfl, rfl⟩) ?_
      refine Det.cons 21 (ins := [(26, _)]) (.new 12 8 (by decide +kernel) rfl rfl .nil) (fun e_ => .inr ⟨rfl, rfl⟩) ?_
      refine Det.cons 22 (ins := [(26, _)]) (.new 12 9 (by decide +kernel) rfl rfl .nil) (fun e_ => .inr ⟨rfl, rfl⟩) ?_
      refine Det.cons 23 (ins := [(26, _)]) (.new 12 10 (by decide +kernel) rfl rfl .nil) (fun e_ => .inr ⟨rfl, rfl⟩) ?_
      refine Det.cons 24 (ins := [(26, _)]) (.new 12 11 (by decide +kernel) rfl rfl .nil) (fun e_ => .inr ⟨rfl, rfl⟩) ?_
      refine Det.cons 25 (ins := [(26, _), (38, _)]) (.new 12 12 (by decide +kernel) rfl rfl (.new 24 0 (by decide +kernel) rfl rfl .nil)) (fun e_ => .inl ⟨rfl, V1.t (V1.pick rfl z_D) ⟨rfl, rfl⟩⟩) ?_
      refine Det.cons 26 (ins := [(39, _)]) (.new 25 0 (by decide +kernel) rfl rfl .nil) (fun e_ => .inl ⟨rfl, V1.t (V1.move' z_D) ⟨rfl, rfl⟩⟩) ?_
      refine Det.cons 27 (ins := [(40, _)]) (.new 26 0 (by decide +kernel) rfl rfl .nil) (fun e_ => .inr ⟨rfl, rfl⟩) ?_
      refine Det.cons 28 (ins := [(40, _)]) (.new 26 1 (by decide +kernel) rfl rfl .nil) (fun e_ => .inr ⟨rfl, rfl⟩) ?_
      refine Det.cons 29 (ins := [(40, _)]) (.new 26 2 (by decide +kernel) rfl rfl .nil) (fun e_ => .inr ⟨rfl, rfl⟩) ?_
      refine Det.cons 30 (ins := [(40, _)]) (.new 26 3 (by decide +kernel) rfl rfl .nil) (fun e_ => .inr ⟨rfl, rfl⟩) ?_
      refine Det.cons 31 (ins := [(44, _)]) (.new 30 0 (by decide +kernel) rfl rfl .nil) (fun e_ => .inr ⟨rfl, rfl⟩) ?_
      refine Det.cons 32 (ins := [(44, _)]) (.new 30 1 (by decide +kernel) rfl rfl .nil) (fun e_ => .inr ⟨rfl, rfl⟩) ?_
      refine Det.cons 33 (ins := [(44, _)]) (.new 30 2 (by decide +kernel) rfl rfl .nil) (fun e_ => .inr ⟨rfl, rfl⟩) ?_
      refine Det.cons 34 (ins := [(40, _)]) (.new 26 7 (by decide +kernel) rfl rfl .nil) (fun e_ => .inr ⟨rfl, rfl⟩) ?_
      refine Det.cons 35 (ins := [(40, _)]) (.new 26 8 (by decide +kernel) rfl rfl .nil) (fun e_ => .inr ⟨rfl, rfl⟩) ?_
      refine Det.cons 36 (ins := [(49, _)]) (.new 35 0 (by decide +kernel) rfl rfl .nil) (fun e_ => .inr ⟨rfl, rfl⟩) ?_
      refine Det.cons 37 (ins := [(49, _)]) (.new 35 1 (by decide +kernel) rfl rfl .nil) (fun e_ => .inr ⟨rfl, rfl⟩) ?_
      refine Det.cons 38 (ins := [(49, _)]) (.new 35 2 (by decide +kernel) rfl rfl .nil) (fun e_ => .inr ⟨rfl, rfl⟩) ?_
      refine Det.cons 39 (ins := [(40, _)]) (.new 26 12 (by decide +kernel) rfl rfl .nil) (fun e_ => .inr ⟨rfl, rfl⟩) ?_
      refine Det.cons 40 (ins := [(40, _), (53, _)]) (.new 26 13 (by decide +kernel) rfl rfl (.new 39 0 (by decide +kernel) rfl rfl .nil)) (fun e_ => .inl ⟨rfl, V1.t (V1.pick rfl z_D) ⟨rfl, rfl⟩⟩) ?_
      refine Det.nil 41 (l := [(1, _), (54, _)]) (.old z_D (by decide +kernel) (.new 40 0 (by decide +kernel) rfl rfl .nil)) (fun e_ => ?_)
      refine T.cond_t rfl ?_
      refine T.seq ?_
      refine T.region ?_
      refine TL.cons rfl (V1.t (V1.assign' z_D) ?_)
      refine TL.nil ?_
      refine T.ret ?_
      exact ⟨_, G, _, .cons (.tmp z_D) .nil, z_A, rfl, congrArg (Value.int .i64) (by rw [if_neg (by rw [shp, qh, Bool.false_and]; decide)])⟩
    ·
      rintro _ e_ L ⟨rfl, qh⟩
      refine T.seq ?_
      refine T.seq ?_
      refine T.region ?_
      refine TL.cons rfl (V1.t (V1.fieldAddr fl_24_2 rfl) ?_)
      refine TL.cons rfl (V1.t (V1.load1 one_22 rfl (.own z_C (by rfl))) ?_)
      refine TL.cons rfl (V1.t (V1.lenSl ty_22 rfl) ?_)
      refine TL.cons rfl (V1.t (V1.move' z_D) ?_)
      refine TL.nil ?_
      refine T.block ?_
      refine T.loopL (σ := Nat) (l0 := [(56, _), (57, _)]) (fun x => [(58, .int .i64 (x : Nat))]) (fun i L => L = ⟨b1, 0, [.int .i64 k, .string (bstr nm), .slice a ts.length c], 3⟩ :: G ∧ i ≤ ts.length ∧ shpL ts = shpL (ts.drop i)) (fun i => ts.length - i) 0 (.cons rfl .nil) (.cons z_D (.cons z_D .nil)) z_A (⟨rfl, Nat.zero_le _, by rw [List.drop_zero]⟩) ?_
      rintro i e_ L ⟨rfl, hi, ho⟩
      refine T.seq ?_
      refine T.region ?_
      refine TL.cons rfl (T1.ltI_split rfl rfl (fun h5 => ?_) (fun h5 => ?_))
      ·
        obtain ⟨x, hx0⟩ : ∃ x, ts[i]? = some x := ⟨_, List.getElem?_eq_getElem (by omega)⟩
        have hcx := ih x (List.mem_of_getElem? hx0)
        have hdr := shpL_drop hx0
        obtain ⟨bx, ox, cs_, rfl, hx, hrdx⟩ := hr.term ht hx0 P
        obtain ⟨kx, nx, asx⟩ := x
        obtain ⟨ax, cx, vsx, rfl, hrx, hlx, htx⟩ := hx.inv
        try simp only at *
        refine TL.nil ?_
        refine T.seq ?_
        refine T.cond_t rfl ?_
        refine T.skip ?_
        refine T.seq ?_
        refine T.block ?_
        refine T.seq ?_
        refine T.region ?_
        refine TL.cons rfl (V1.t (V1.indexAddrS ty_22 sz_24 rfl rfl (by omega) (by omega)) ?_)
        refine TL.cons rfl (V1.t (V1.loadN (vs := [.int .i64 kx, .string (bstr nx), .slice ax asx.length cx]) one_24 sz_24 rfl (hrdx _ rfl rfl _ z_E) rfl) ?_)
        refine TL.cons rfl (T1.allocN 3 zr_24 rfl (fun b6 => ?_))
        refine TL.cons rfl (T1.storeN rfl rfl sz_24 (ones rfl) z_G (by rfl) (by rfl) ?_)
        refine TL.nil ?_
        refine T.seq ?_
        refine T.region ?_
        refine TL.cons rfl (V1.t (V1.loadN one_24 sz_24 rfl (RdN.whole z_C) (by rfl)) ?_)
        refine TL.cons rfl (T1.callV has_37 rfl rfl (hcx _ _ hx) z_E (fun v_ hv => ?_))
        obtain rfl := hv
        refine TL.cons rfl (V1.t (V1.assign' z_D) ?_)
        refine TL.nil ?_
        refine T.seq ?_
        refine T.region ?_
        refine TL.cons rfl (V1.t (V1.move' z_D) ?_)
        refine TL.cons rfl (T1.neI_split rfl rfl (fun h8 => ?_) (fun h8 => ?_))
        ·
          have hsx : shp (.mk kx nx asx) = false := by simpa using h8
          rw [hdr, hsx, Bool.false_and] at ho
          refine TL.nil ?_
          refine T.cond_t rfl ?_
          refine T.seq ?_
          refine T.region ?_
          refine TL.cons rfl (V1.t (V1.move' z_D) ?_)
          refine TL.cons rfl (V1.t (V1.assign' z_D) ?_)
          refine TL.nil ?_
          refine T.ret ?_
          exact ⟨_, G, _, .cons (.tmp z_D) .nil, z_A, rfl, congrArg (Value.int .i64) (by rw [hsx, if_neg (by decide), if_neg (by rw [shp, qh, ho]; decide)])⟩
        ·
          have hsx : shp (.mk kx nx asx) = true := by simpa using h8
          rw [hdr, hsx, Bool.true_and] at ho
          refine TL.nil ?_
          refine T.cond_f rfl ?_
          refine T.skip ?_
          refine T.region ?_
          refine TL.cons rfl (V1.t (V1.add (c := ((i + 1 : Nat) : Int)) rfl rfl (by rw [wrap_i64 _ (by omega) (by omega)]; omega)) ?_)
          refine TL.cons rfl (V1.t (V1.move' z_D) ?_)
          refine TL.nil ?_
          exact ⟨i + 1, _, _, (by simp only; omega), (.cons rfl .nil), (.cons rfl (.cons rfl .nil)), z_A, ⟨rfl, by omega, ho⟩⟩
      ·
        obtain rfl : i = ts.length := by omega
        rw [List.drop_length, shpL] at ho
        refine TL.nil ?_
        refine T.seq ?_
        refine T.cond_f rfl ?_
        refine T.exit ?_
        refine T.seq ?_
        refine T.region ?_
        refine TL.cons rfl (V1.t (V1.assign' z_D) ?_)
        refine TL.nil ?_
        refine T.ret ?_
        exact ⟨_, G, _, .cons (.tmp z_D) .nil, z_A, rfl, congrArg (Value.int .i64) (by rw [if_pos (by rw [shp, qh, ho]; rfl)])⟩
  ·
    refine TL.cons rfl (V1.t (V1.assign' z_D) ?_)
    refine TL.nil ?_
    refine T.cut (σ := Unit) (l0 := [(1, _)]) (fun x => []) (fun _ L => L = ⟨b1, 0, [.int .i64 k, .string (bstr nm), .slice a ts.length c], 3⟩ :: G ∧ headOk k nm ts.length = true) (.cons z_D .nil) ?_ ?_
    ·
      refine T.seq ?_
      refine T.drawDet' mixed (by decide +kernel) ?_
      refine Det.cons 0 (ins := [(1, _)]) (.old z_D (by decide +kernel) .nil) (fun e_ => .inl ⟨rfl, V1.t (V1.fieldAddr fl_24_2 rfl) ⟨rfl, rfl⟩⟩) ?_
      refine Det.cons 1 (ins := [(14, _)]) (.new 0 0 (by decide +kernel) rfl rfl .nil) (fun e_ => .inl ⟨rfl, V1.t (V1.load1 one_22 rfl (.own z_C (by rfl))) ⟨rfl, rfl⟩⟩) ?_
      refine Det.cons 2 (ins := [(15, _)]) (.new 1 0 (by decide +kernel) rfl rfl .nil) (fun e_ => .inl ⟨rfl, V1.t (V1.lenSl ty_22 rfl) ⟨rfl, rfl⟩⟩) ?_
      refine Det.cons 3 (ins := [(3, _)]) (.old z_D (by decide +kernel) .nil) (fun e_ => .inl ⟨rfl, V1.t (V1.move' z_D) ⟨rfl, rfl⟩⟩) ?_
      refine Det.cons 4 (ins := [(16, _), (17, _)]) (.new 2 1 (by decide +kernel) rfl rfl (.new 3 0 (by decide +kernel) rfl rfl .nil)) (fun e_ => .inl ⟨rfl, V1.t (V1.ltI rfl rfl (decide_eq_false (by omega))) ⟨rfl, rfl⟩⟩) ?_
      refine Det.cons 5 (ins := [(18, _)]) (.new 4 0 (by decide +kernel) rfl rfl .nil) (fun e_ => .inl ⟨rfl, V1.t (V1.move' z_D) ⟨rfl, rfl⟩⟩) ?_
      refine Det.cons 6 (ins := [(1, _), (19, _)]) (.old z_D (by decide +kernel) (.new 5 0 (by decide +kernel) rfl rfl .nil)) (fun e_ => .inl ⟨rfl, V1.t (V1.fieldAddr fl_24_2 rfl) ⟨rfl, rfl⟩⟩) ?_
      refine Det.cons 7 (ins := [(19, _), (20, _)]) (.new 5 1 (by decide +kernel) rfl rfl (.new 6 0 (by decide +kernel) rfl rfl .nil)) (fun e_ => .inl ⟨rfl, V1.t (V1.load1 one_22 rfl (.own z_C (by rfl))) ⟨rfl, rfl⟩⟩) ?_
      refine Det.cons 8 (ins := [(19, _), (21, _)]) (.new 5 2 (by decide +kernel) rfl rfl (.new 7 0 (by decide +kernel) rfl rfl .nil)) (fun e_ => .inl ⟨rfl, V1.t (V1.lenSl ty_22 rfl) ⟨rfl, rfl⟩⟩) ?_
      refine Det.cons 9 (ins := [(4, _), (19, _)]) (.old z_D (by decide +kernel) (.new 5 3 (by decide +kernel) rfl rfl .nil)) (fun e_ => .inl ⟨rfl, V1.t (V1.move' z_D) ⟨rfl, rfl⟩⟩) ?_
      refine Det.cons 10 (ins := [(19, _), (22, _), (23, _)]) (.new 5 4 (by decide +kernel) rfl rfl (.new 8 1 (by decide +kernel) rfl rfl (.new 9 0 (by decide +kernel) rfl rfl .nil))) (fun e_ => .inl ⟨rfl, V1.t (V1.gtI rfl rfl (decide_eq_false (by omega))) ⟨rfl, rfl⟩⟩) ?_
      refine Det.cons 11 (ins := [(19, _), (24, _)]) (.new 5 5 (by decide +kernel) rfl rfl (.new 10 0 (by decide +kernel) rfl rfl .nil)) (fun e_ => .inl ⟨rfl, V1.t (V1.pick rfl z_D) ⟨rfl, rfl⟩⟩) ?_
      refine Det.cons 12 (ins := [(25, _)]) (.new 11 0 (by decide +kernel) rfl rfl .nil) (fun e_ => .inl ⟨rfl, V1.t (V1.move' z_D) ⟨rfl, rfl⟩⟩) ?_
      refine Det.cons 13 (ins := [(1, _), (26, _)]) (.old z_D (by decide +kernel) (.new 12 0 (by decide +kernel) rfl rfl .nil)) (fun e_ => .inl ⟨rfl, V1.t (V1.fieldAddr fl_24_0 rfl) ⟨rfl, rfl⟩⟩) ?_
      refine Det.cons 14 (ins := [(26, _), (27, _)]) (.new 12 1 (by decide +kernel) rfl rfl (.new 13 0 (by decide +kernel) rfl rfl .nil)) (fun e_ => .inl ⟨rfl, V1.t (V1.load1 one_3 rfl (.own z_C (by rfl))) ⟨rfl, rfl⟩⟩) ?_
      refine Det.cons 15 (ins := [(26, _), (28, _)]) (.new 12 2 (by decide +kernel) rfl rfl (.new 14 0 (by decide +kernel) rfl rfl .nil)) (fun e_ => .inl ⟨rfl, V1.t (V1.eqI rfl rfl (decide_eq_true (by omega))) ⟨rfl, rfl⟩⟩) ?_
      refine Det.cons 16 (ins := [(26, _), (29, _)]) (.new 12 3 (by decide +kernel) rfl rfl (.new 15 0 (by decide +kernel) rfl rfl .nil)) (fun e_ => .inl ⟨rfl, V1.t (V1.move' z_D) ⟨rfl, rfl⟩⟩) ?_
      refine Det.cons 17 (ins := [(30, _)]) (.new 16 0 (by decide +kernel) rfl rfl .nil) (fun e_ => .inr ⟨rfl, rfl⟩) ?_
      refine Det.cons 18 (ins := [(30, _)]) (.new 16 1 (by decide +kernel) rfl rfl .nil) (fun e_ => .inr ⟨rfl, rfl⟩) ?_
      refine Det.cons 19 (ins := [(30, _)]) (.new 16 2 (by decide +kernel) rfl rfl .nil) (fun e_ => .inr ⟨rfl, rfl⟩) ?_
      refine Det.cons 20 (ins := [(26, _), (30, _), (33, _)]) (.new 12 7 (by decide +kernel) rfl rfl (.new 16 3 (by decide +kernel) rfl rfl (.new 19 0 (by decide +kernel) rfl rfl .nil))) (fun e_ => .inl ⟨rfl, V1.t (V1.pick rfl z_D) ⟨rfl, rfl⟩⟩) ?_
      refine Det.cons 21 (ins := [(1, _), (26, _)]) (.old z_D (by decide +kernel) (.new 12 8 (by decide +kernel) rfl rfl .nil)) (fun e_ => .inl ⟨rfl, V1.t (V1.fieldAddr fl_24_1 rfl) ⟨rfl, rfl⟩⟩) ?_
      refine Det.cons 22 (ins := [(26, _), (35, _)]) (.new 12 9 (by decide +kernel) rfl rfl (.new 21 0 (by decide +kernel) rfl rfl .nil)) (fun e_ => .inl ⟨rfl, V1.t (V1.load1 one_9 rfl (.own z_C (by rfl))) ⟨rfl, rfl⟩⟩) ?_
      refine Det.cons 23 (ins := [(26, _), (36, _)]) (v := .bool (named nm)) (.new 12 10 (by decide +kernel) rfl rfl (.new 22 0 (by decide +kernel) rfl rfl .nil)) (fun e_ => .inl ⟨rfl, ?_⟩) ?_
      · refine T1.call0 has_71 rfl (fun w hs => named_any nm w) (fun v_ hv => ?_)
        obtain rfl := hv
        exact ⟨rfl, rfl⟩
      refine Det.cons 24 (ins := [(26, _), (34, _), (37, _)]) (.new 12 11 (by decide +kernel) rfl rfl (.new 20 3 (by decide +kernel) rfl rfl (.new 23 0 (by decide +kernel) rfl rfl .nil))) (fun e_ => .inl ⟨rfl, V1.t (V1.neB ty_4 rfl rfl (r := false) (by rw [qn]; rfl)) ⟨rfl, rfl⟩⟩) ?_
      refine Det.cons 25 (ins := [(26, _), (38, _)]) (.new 12 12 (by decide +kernel) rfl rfl (.new 24 0 (by decide +kernel) rfl rfl .nil)) (fun e_ => .inl ⟨rfl, V1.t (V1.pick rfl z_D) ⟨rfl, rfl⟩⟩) ?_
      refine Det.cons 26 (ins := [(39, _)]) (.new 25 0 (by decide +kernel) rfl rfl .nil) (fun e_ => .inl ⟨rfl, V1.t (V1.move' z_D) ⟨rfl, rfl⟩⟩) ?_
      refine Det.cons 27 (ins := [(1, _), (40, _)]) (.old z_D (by decide +kernel) (.new 26 0 (by decide +kernel) rfl rfl .nil)) (fun e_ => .inl ⟨rfl, V1.t (V1.fieldAddr fl_24_0 rfl) ⟨rfl, rfl⟩⟩) ?_
      refine Det.cons 28 (ins := [(40, _), (41, _)]) (.new 26 1 (by decide +kernel) rfl rfl (.new 27 0 (by decide +kernel) rfl rfl .nil)) (fun e_ => .inl ⟨rfl, V1.t (V1.load1 one_3 rfl (.own z_C (by rfl))) ⟨rfl, rfl⟩⟩) ?_
      refine Det.cons 29 (ins := [(40, _), (42, _)]) (.new 26 2 (by decide +kernel) rfl rfl (.new 28 0 (by decide +kernel) rfl rfl .nil)) (fun e_ => .inl ⟨rfl, V1.t (V1.neI rfl rfl (decide_eq_false (by omega))) ⟨rfl, rfl⟩⟩) ?_
      refine Det.cons 30 (ins := [(40, _), (43, _)]) (.new 26 3 (by decide +kernel) rfl rfl (.new 29 0 (by decide +kernel) rfl rfl .nil)) (fun e_ => .inl ⟨rfl, V1.t (V1.move' z_D) ⟨rfl, rfl⟩⟩) ?_
      refine Det.cons 31 (ins := [(44, _)]) (.new 30 0 (by decide +kernel) rfl rfl .nil) (fun e_ => .inr ⟨rfl, rfl⟩) ?_
      refine Det.cons 32 (ins := [(44, _)]) (.new 30 1 (by decide +kernel) rfl rfl .nil) (fun e_ => .inr ⟨rfl, rfl⟩) ?_
      refine Det.cons 33 (ins := [(44, _)]) (.new 30 2 (by decide +kernel) rfl rfl .nil) (fun e_ => .inr ⟨rfl, rfl⟩) ?_
      refine Det.cons 34 (ins := [(40, _), (44, _), (47, _)]) (.new 26 7 (by decide +kernel) rfl rfl (.new 30 3 (by decide +kernel) rfl rfl (.new 33 0 (by decide +kernel) rfl rfl .nil))) (fun e_ => .inl ⟨rfl, V1.t (V1.pick rfl z_D) ⟨rfl, rfl⟩⟩) ?_
      refine Det.cons 35 (ins := [(40, _), (48, _)]) (.new 26 8 (by decide +kernel) rfl rfl (.new 34 0 (by decide +kernel) rfl rfl .nil)) (fun e_ => .inl ⟨rfl, V1.t (V1.move' z_D) ⟨rfl, rfl⟩⟩) ?_
      refine Det.cons 36 (ins := [(49, _)]) (.new 35 0 (by decide +kernel) rfl rfl .nil) (fun e_ => .inr ⟨rfl, rfl⟩) ?_
      refine Det.cons 37 (ins := [(49, _)]) (.new 35 1 (by decide +kernel) rfl rfl .nil) (fun e_ => .inr ⟨rfl, rfl⟩) ?_
      refine Det.cons 38 (ins := [(49, _)]) (.new 35 2 (by decide +kernel) rfl rfl .nil) (fun e_ => .inr ⟨rfl, rfl⟩) ?_
      refine Det.cons 39 (ins := [(40, _), (49, _), (52, _)]) (.new 26 12 (by decide +kernel) rfl rfl (.new 35 3 (by decide +kernel) rfl rfl (.new 38 0 (by decide +kernel) rfl rfl .nil))) (fun e_ => .inl ⟨rfl, V1.t (V1.pick rfl z_D) ⟨rfl, rfl⟩⟩) ?_
      refine Det.cons 40 (ins := [(40, _), (53, _)]) (.new 26 13 (by decide +kernel) rfl rfl (.new 39 0 (by decide +kernel) rfl rfl .nil)) (fun e_ => .inl ⟨rfl, V1.t (V1.pick rfl z_D) ⟨rfl, rfl⟩⟩) ?_
      refine Det.nil 41 (l := [(1, _), (54, _)]) (.old z_D (by decide +kernel) (.new 40 0 (by decide +kernel) rfl rfl .nil)) (fun e_ => ?_)
      refine T.cond_f rfl ?_
      refine T.skip ?_
      exact ⟨(), _, _, trivial, .nil, (.cons rfl .nil), z_A, ⟨rfl, qh⟩⟩
    ·
      rintro _ e_ L ⟨rfl, qh⟩
      refine T.seq ?_
      refine T.seq ?_
      refine T.region ?_
      refine TL.cons rfl (V1.t (V1.fieldAddr fl_24_2 rfl) ?_)
      refine TL.cons rfl (V1.t (V1.load1 one_22 rfl (.own z_C (by rfl))) ?_)
      refine TL.cons rfl (V1.t (V1.lenSl ty_22 rfl) ?_)
      refine TL.cons rfl (V1.t (V1.move' z_D) ?_)
      refine TL.nil ?_
      refine T.block ?_
      refine T.loopL (σ := Nat) (l0 := [(56, _), (57, _)]) (fun x => [(58, .int .i64 (x : Nat))]) (fun i L => L = ⟨b1, 0, [.int .i64 k, .string (bstr nm), .slice a ts.length c], 3⟩ :: G ∧ i ≤ ts.length ∧ shpL ts = shpL (ts.drop i)) (fun i => ts.length - i) 0 (.cons rfl .nil) (.cons z_D (.cons z_D .nil)) z_A (⟨rfl, Nat.zero_le _, by rw [List.drop_zero]⟩) ?_
      rintro i e_ L ⟨rfl, hi, ho⟩
      refine T.seq ?_
      refine T.region ?_
      refine TL.cons rfl (T1.ltI_split rfl rfl (fun h5 => ?_) (fun h5 => ?_))
      ·
        obtain ⟨x, hx0⟩ : ∃ x, ts[i]? = some x := ⟨_, List.getElem?_eq_getElem (by omega)⟩
        have hcx := ih x (List.mem_of_getElem? hx0)
        have hdr := shpL_drop hx0
        obtain ⟨bx, ox, cs_, rfl, hx, hrdx⟩ := hr.term ht hx0 P
        obtain ⟨kx, nx, asx⟩ := x
        obtain ⟨ax, cx, vsx, rfl, hrx, hlx, htx⟩ := hx.inv
        try simp only at *
        refine TL.nil ?_
        refine T.seq ?_
        refine T.cond_t rfl ?_
        refine T.skip ?_
        refine T.seq ?_
        refine T.block ?_
        refine T.seq ?_
        refine T.region ?_
        refine TL.cons rfl (V1.t (V1.indexAddrS ty_22 sz_24 rfl rfl (by omega) (by omega)) ?_)
        refine TL.cons rfl (V1.t (V1.loadN (vs := [.int .i64 kx, .string (bstr nx), .slice ax asx.length cx]) one_24 sz_24 rfl (hrdx _ rfl rfl _ z_E) rfl) ?_)
        refine TL.cons rfl (T1.allocN 3 zr_24 rfl (fun b6 => ?_))
        refine TL.cons rfl (T1.storeN rfl rfl sz_24 (ones rfl) z_G (by rfl) (by rfl) ?_)
        refine TL.nil ?_
        refine T.seq ?_
        refine T.region ?_
        refine TL.cons rfl (V1.t (V1.loadN one_24 sz_24 rfl (RdN.whole z_C) (by rfl)) ?_)
        refine TL.cons rfl (T1.callV has_37 rfl rfl (hcx _ _ hx) z_E (fun v_ hv => ?_))
        obtain rfl := hv
        refine TL.cons rfl (V1.t (V1.assign' z_D) ?_)
        refine TL.nil ?_
        refine T.seq ?_
        refine T.region ?_
        refine TL.cons rfl (V1.t (V1.move' z_D) ?_)
        refine TL.cons rfl (T1.neI_split rfl rfl (fun h8 => ?_) (fun h8 => ?_))
        ·
          have hsx : shp (.mk kx nx asx) = false := by simpa using h8
          rw [hdr, hsx, Bool.false_and] at ho
          refine TL.nil ?_
          refine T.cond_t rfl ?_
          refine T.seq ?_
          refine T.region ?_
          refine TL.cons rfl (V1.t (V1.move' z_D) ?_)
          refine TL.cons rfl (V1.t (V1.assign' z_D) ?_)
          refine TL.nil ?_
          refine T.ret ?_
          exact ⟨_, G, _, .cons (.tmp z_D) .nil, z_A, rfl, congrArg (Value.int .i64) (by rw [hsx, if_neg (by decide), if_neg (by rw [shp, qh, ho]; decide)])⟩
        ·
          have hsx : shp (.mk kx nx asx) = true := by simpa using h8
          rw [hdr, hsx, Bool.true_and] at ho
          refine TL.nil ?_
          refine T.cond_f rfl ?_
          refine T.skip ?_
          refine T.region ?_
          refine TL.cons rfl (V1.t (V1.add (c := ((i + 1 : Nat) : Int)) rfl rfl (by rw [wrap_i64 _ (by omega) (by omega)]; omega)) ?_)
          refine TL.cons rfl (V1.t (V1.move' z_D) ?_)
          refine TL.nil ?_
          exact ⟨i + 1, _, _, (by simp only; omega), (.cons rfl .nil), (.cons rfl (.cons rfl .nil)), z_A, ⟨rfl, by omega, ho⟩⟩
      ·
        obtain rfl : i = ts.length := by omega
        rw [List.drop_length, shpL] at ho
        refine TL.nil ?_
        refine T.seq ?_
        refine T.cond_f rfl ?_
        refine T.exit ?_
        refine T.seq ?_
        refine T.region ?_
        refine TL.cons rfl (V1.t (V1.assign' z_D) ?_)
        refine TL.nil ?_
        refine T.ret ?_
        exact ⟨_, G, _, .cons (.tmp z_D) .nil, z_A, rfl, congrArg (Value.int .i64) (by rw [if_pos (by rw [shp, qh, ho]; rfl)])⟩
  ·
    refine TL.cons rfl (V1.t (V1.assign' z_D) ?_)
    refine TL.nil ?_
    refine T.cut (σ := Unit) (l0 := [(1, _)]) (fun x => []) (fun _ L => L = ⟨b1, 0, [.int .i64 k, .string (bstr nm), .slice a ts.length c], 3⟩ :: G ∧ headOk k nm ts.length = true) (.cons z_D .nil) ?_ ?_
    ·
      refine T.seq ?_
      refine T.drawDet' mixed (by decide +kernel) ?_
      refine Det.cons 0 (ins := [(1, _)]) (.old z_D (by decide +kernel) .nil) (fun e_ => .inl ⟨rfl, V1.t (V1.fieldAddr fl_24_2 rfl) ⟨rfl, rfl⟩⟩) ?_
      refine Det.cons 1 (ins := [(14, _)]) (.new 0 0 (by decide +kernel) rfl rfl .nil) (fun e_ => .inl ⟨rfl, V1.t (V1.load1 one_22 rfl (.own z_C (by rfl))) ⟨rfl, rfl⟩⟩) ?_
      refine Det.cons 2 (ins := [(15, _)]) (.new 1 0 (by decide +kernel) rfl rfl .nil) (fun e_ => .inl ⟨rfl, V1.t (V1.lenSl ty_22 rfl) ⟨rfl, rfl⟩⟩) ?_
      refine Det.cons 3 (ins := [(3, _)]) (.old z_D (by decide +kernel) .nil) (fun e_ => .inl ⟨rfl, V1.t (V1.move' z_D) ⟨rfl, rfl⟩⟩) ?_
      refine Det.cons 4 (ins := [(16, _), (17, _)]) (.new 2 1 (by decide +kernel) rfl rfl (.new 3 0 (by decide +kernel) rfl rfl .nil)) (fun e_ => .inl ⟨rfl, V1.t (V1.ltI rfl rfl (decide_eq_false (by omega))) ⟨rfl, rfl⟩⟩) ?_
      refine Det.cons 5 (ins := [(18, _)]) (.new 4 0 (by decide +kernel) rfl rfl .nil) (fun e_ => .inl ⟨rfl, V1.t (V1.move' z_D) ⟨rfl, rfl⟩⟩) ?_
      refine Det.cons 6 (ins := [(1, _), (19, _)]) (.old z_D (by decide +kernel) (.new 5 0 (by decide +kernel) rfl rfl .nil)) (fun e_ => .inl ⟨rfl, V1.t (V1.fieldAddr fl_24_2 rfl) ⟨rfl, rfl⟩⟩) ?_
      refine Det.cons 7 (ins := [(19, _), (20, _)]) (.new 5 1 (by decide +kernel) rfl rfl (.new 6 0 (by decide +kernel) rfl rfl .nil)) (fun e_ => .inl ⟨rfl, V1.t (V1.load1 one_22 rfl (.own z_C (by rfl))) ⟨rfl, rfl⟩⟩) ?_
      refine Det.cons 8 (ins := [(19, _), (21, _)]) (.new 5 2 (by decide +kernel) rfl rfl (.new 7 0 (by decide +kernel) rfl rfl .nil)) (fun e_ => .inl ⟨rfl, V1.t (V1.lenSl ty_22 rfl) ⟨rfl, rfl⟩⟩) ?_
      refine Det.cons 9 (ins := [(4, _), (19, _)]) (.old z_D (by decide +kernel) (.new 5 3 (by decide +kernel) rfl rfl .nil)) (fun e_ => .inl ⟨rfl, V1.t (V1.move' z_D) ⟨rfl, rfl⟩⟩) ?_
      refine Det.cons 10 (ins := [(19, _), (22, _), (23, _)]) (.new 5 4 (by decide +kernel) rfl rfl (.new 8 1 (by decide +kernel) rfl rfl (.new 9 0 (by decide +kernel) rfl rfl .nil))) (fun e_ => .inl ⟨rfl, V1.t (V1.gtI rfl rfl (decide_eq_false (by omega))) ⟨rfl, rfl⟩⟩) ?_
      refine Det.cons 11 (ins := [(19, _), (24, _)]) (.new 5 5 (by decide +kernel) rfl rfl (.new 10 0 (by decide +kernel) rfl rfl .nil)) (fun e_ => .inl ⟨rfl, V1.t (V1.pick rfl z_D) ⟨rfl, rfl⟩⟩) ?_
      refine Det.cons 12 (ins := [(25, _)]) (.new 11 0 (by decide +kernel) rfl rfl .nil) (fun e_ => .inl ⟨rfl, V1.t (V1.move' z_D) ⟨rfl, rfl⟩⟩) ?_
      refine Det.cons 13 (ins := [(1, _), (26, _)]) (.old z_D (by decide +kernel) (.new 12 0 (by decide +kernel) rfl rfl .nil)) (fun e_ => .inl ⟨rfl, V1.t (V1.fieldAddr fl_24_0 rfl) ⟨rfl, rfl⟩⟩) ?_
      refine Det.cons 14 (ins := [(26, _), (27, _)]) (.new 12 1 (by decide +kernel) rfl rfl (.new 13 0 (by decide +kernel) rfl rfl .nil)) (fun e_ => .inl ⟨rfl, V1.t (V1.load1 one_3 rfl (.own z_C (by rfl))) ⟨rfl, rfl⟩⟩) ?_
      refine Det.cons 15 (ins := [(26, _), (28, _)]) (.new 12 2 (by decide +kernel) rfl rfl (.new 14 0 (by decide +kernel) rfl rfl .nil)) (fun e_ => .inl ⟨rfl, V1.t (V1.eqI rfl rfl (decide_eq_true (by omega))) ⟨rfl, rfl⟩⟩) ?_
      refine Det.cons 16 (ins := [(26, _), (29, _)]) (.new 12 3 (by decide +kernel) rfl rfl (.new 15 0 (by decide +kernel) rfl rfl .nil)) (fun e_ => .inl ⟨rfl, V1.t (V1.move' z_D) ⟨rfl, rfl⟩⟩) ?_
      refine Det.cons 17 (ins := [(30, _)]) (.new 16 0 (by decide +kernel) rfl rfl .nil) (fun e_ => .inr ⟨rfl, rfl⟩) ?_
      refine Det.cons 18 (ins := [(30, _)]) (.new 16 1 (by decide +kernel) rfl rfl .nil) (fun e_ => .inr ⟨rfl, rfl⟩) ?_
      refine Det.cons 19 (ins := [(30, _)]) (.new 16 2 (by decide +kernel) rfl rfl .nil) (fun e_ => .inr ⟨rfl, rfl⟩) ?_
      refine Det.cons 20 (ins := [(26, _), (30, _), (33, _)]) (.new 12 7 (by decide +kernel) rfl rfl (.new 16 3 (by decide +kernel) rfl rfl (.new 19 0 (by decide +kernel) rfl rfl .nil))) (fun e_ => .inl ⟨rfl, V1.t (V1.pick rfl z_D) ⟨rfl, rfl⟩⟩) ?_
      refine Det.cons 21 (ins := [(1, _), (26, _)]) (.old z_D (by decide +kernel) (.new 12 8 (by decide +kernel) rfl rfl .nil)) (fun e_ => .inl ⟨rfl, V1.t (V1.fieldAddr fl_24_1 rfl) ⟨rfl, rfl⟩⟩) ?_
      refine Det.cons 22 (ins := [(26, _), (35, _)]) (.new 12 9 (by decide +kernel) rfl rfl (.new 21 0 (by decide +kernel) rfl rfl .nil)) (fun e_ => .inl ⟨rfl, V1.t (V1.load1 one_9 rfl (.own z_C (by rfl))) ⟨rfl, rfl⟩⟩) ?_
      refine Det.cons 23 (ins := [(26, _), (36, _)]) (v := .bool (named nm)) (.new 12 10 (by decide +kernel) rfl rfl (.new 22 0 (by decide +kernel) rfl rfl .nil)) (fun e_ => .inl ⟨rfl, ?_⟩) ?_
      · refine T1.call0 has_71 rfl (fun w hs => named_any nm w) (fun v_ hv => ?_)
        obtain rfl := hv
        exact ⟨rfl, rfl⟩
      refine Det.cons 24 (ins := [(26, _), (34, _), (37, _)]) (.new 12 11 (by decide +kernel) rfl rfl (.new 20 3 (by decide +kernel) rfl rfl (.new 23 0 (by decide +kernel) rfl rfl .nil))) (fun e_ => .inl ⟨rfl, V1.t (V1.neB ty_4 rfl rfl (r := true) (by rw [qn]; rfl)) ⟨rfl, rfl⟩⟩) ?_
      refine Det.cons 25 (ins := [(26, _), (38, _)]) (.new 12 12 (by decide +kernel) rfl rfl (.new 24 0 (by decide +kernel) rfl rfl .nil)) (fun e_ => .inl ⟨rfl, V1.t (V1.pick rfl z_D) ⟨rfl, rfl⟩⟩) ?_
      refine Det.cons 26 (ins := [(39, _)]) (.new 25 0 (by decide +kernel) rfl rfl .nil) (fun e_ => .inl ⟨rfl, V1.t (V1.move' z_D) ⟨rfl, rfl⟩⟩) ?_
      refine Det.cons 27 (ins := [(40, _)]) (.new 26 0 (by decide +kernel) rfl rfl .nil) (fun e_ => .inr ⟨rfl, rfl⟩) ?_
      refine Det.cons 28 (ins := [(40, _)]) (.new 26 1 (by decide +kernel) rfl rfl .nil) (fun e_ => .inr ⟨rfl, rfl⟩) ?_
      refine Det.cons 29 (ins := [(40, _)]) (.new 26 2 (by decide +kernel) rfl rfl .nil) (fun e_ => .inr ⟨rfl, rfl⟩) ?_
      refine Det.cons 30 (ins := [(40, _)]) (.new 26 3 (by decide +kernel) rfl rfl .nil) (fun e_ => .inr ⟨rfl, rfl⟩) ?_
      refine Det.cons 31 (ins := [(44, _)]) (.new 30 0 (by decide +kernel) rfl rfl .nil) (fun e_ => .inr ⟨rfl, rfl⟩) ?_
      refine Det.cons 32 (ins := [(44, _)]) (.new 30 1 (by decide +kernel) rfl rfl .nil) (fun e_ => .inr ⟨rfl, rfl⟩) ?_
      refine Det.cons 33 (ins := [(44, _)]) (.new 30 2 (by decide +kernel) rfl rfl .nil) (fun e_ => .inr ⟨rfl, rfl⟩) ?_
      refine Det.cons 34 (ins := [(40, _)]) (.new 26 7 (by decide +kernel) rfl rfl .nil) (fun e_ => .inr ⟨rfl, rfl⟩) ?_
      refine Det.cons 35 (ins := [(40, _)]) (.new 26 8 (by decide +kernel) rfl rfl .nil) (fun e_ => .inr ⟨rfl, rfl⟩) ?_
      refine Det.cons 36 (ins := [(49, _)]) (.new 35 0 (by decide +kernel) rfl rfl .nil) (fun e_ => .inr ⟨rfl, rfl⟩) ?_
      refine Det.cons 37 (ins := [(49, _)]) (.new 35 1 (by decide +kernel) rfl rfl .nil) (fun e_ => .inr ⟨rfl, rfl⟩) ?_
      refine Det.cons 38 (ins := [(49, _)]) (.new 35 2 (by decide +kernel) rfl rfl .nil) (fun e_ => .inr ⟨rfl, rfl⟩) ?_
      refine Det.cons 39 (ins := [(40, _)]) (.new 26 12 (by decide +kernel) rfl rfl .nil) (fun e_ => .inr ⟨rfl, rfl⟩) ?_
      refine Det.cons 40 (ins := [(40, _), (53, _)]) (.new 26 13 (by decide +kernel) rfl rfl (.new 39 0 (by decide +kernel) rfl rfl .nil)) (fun e_ => .inl ⟨rfl, V1.t (V1.pick rfl z_D) ⟨rfl, rfl⟩⟩) ?_
      refine Det.nil 41 (l := [(1, _), (54, _)]) (.old z_D (by decide +kernel) (.new 40 0 (by decide +kernel) rfl rfl .nil)) (fun e_ => ?_)
      refine T.cond_t rfl ?_
      refine T.seq ?_
      refine T.region ?_
      refine TL.cons rfl (V1.t (V1.assign' z_D) ?_)
      refine TL.nil ?_
      refine T.ret ?_
      exact ⟨_, G, _, .cons (.tmp z_D) .nil, z_A, rfl, congrArg (Value.int .i64) (by rw [if_neg (by rw [shp, qh, Bool.false_and]; decide)])⟩
    ·
      rintro _ e_ L ⟨rfl, qh⟩
      refine T.seq ?_
      refine T.seq ?_
      refine T.region ?_
      refine TL.cons rfl (V1.t (V1.fieldAddr fl_24_2 rfl) ?_)
      refine TL.cons rfl (V1.t (V1.load1 one_22 rfl (.own z_C (by rfl))) ?_)
      refine TL.cons rfl (V1.t (V1.lenSl ty_22 rfl) ?_)
      refine TL.cons rfl (V1.t (V1.move' z_D) ?_)
      refine TL.nil ?_
      refine T.block ?_
      refine T.loopL (σ := Nat) (l0 := [(56, _), (57, _)]) (fun x => [(58, .int .i64 (x : Nat))]) (fun i L => L = ⟨b1, 0, [.int .i64 k, .string (bstr nm), .slice a ts.length c], 3⟩ :: G ∧ i ≤ ts.length ∧ shpL ts = shpL (ts.drop i)) (fun i => ts.length - i) 0 (.cons rfl .nil) (.cons z_D (.cons z_D .nil)) z_A (⟨rfl, Nat.zero_le _, by rw [List.drop_zero]⟩) ?_
      rintro i e_ L ⟨rfl, hi, ho⟩
      refine T.seq ?_
      refine T.region ?_
      refine TL.cons rfl (T1.ltI_split rfl rfl (fun h5 => ?_) (fun h5 => ?_))
      ·
        obtain ⟨x, hx0⟩ : ∃ x, ts[i]? = some x := ⟨_, List.getElem?_eq_getElem (by omega)⟩
        have hcx := ih x (List.mem_of_getElem? hx0)
        have hdr := shpL_drop hx0
        obtain ⟨bx, ox, cs_, rfl, hx, hrdx⟩ := hr.term ht hx0 P
        obtain ⟨kx, nx, asx⟩ := x
        obtain ⟨ax, cx, vsx, rfl, hrx, hlx, htx⟩ := hx.inv
        try simp only at *
        refine TL.nil ?_
        refine T.seq ?_
        refine T.cond_t rfl ?_
        refine T.skip ?_
        refine T.seq ?_
        refine T.block ?_
        refine T.seq ?_
        refine T.region ?_
        refine TL.cons rfl (V1.t (V1.indexAddrS ty_22 sz_24 rfl rfl (by omega) (by omega)) ?_)
        refine TL.cons rfl (V1.t (V1.loadN (vs := [.int .i64 kx, .string (bstr nx), .slice ax asx.length cx]) one_24 sz_24 rfl (hrdx _ rfl rfl _ z_E) rfl) ?_)
        refine TL.cons rfl (T1.allocN 3 zr_24 rfl (fun b6 => ?_))
        refine TL.cons rfl (T1.storeN rfl rfl sz_24 (ones rfl) z_G (by rfl) (by rfl) ?_)
        refine TL.nil ?_
        refine T.seq ?_
        refine T.region ?_
        refine TL.cons rfl (V1.t (V1.loadN one_24 sz_24 rfl (RdN.whole z_C) (by rfl)) ?_)
        refine TL.cons rfl (T1.callV has_37 rfl rfl (hcx _ _ hx) z_E (fun v_ hv => ?_))
        obtain rfl := hv
        refine TL.cons rfl (V1.t (V1.assign' z_D) ?_)
        refine TL.nil ?_
        refine T.seq ?_
        refine T.region ?_
        refine TL.cons rfl (V1.t (V1.move' z_D) ?_)
        refine TL.cons rfl (T1.neI_split rfl rfl (fun h8 => ?_) (fun h8 => ?_))
        ·
          have hsx : shp (.mk kx nx asx) = false := by simpa using h8
          rw [hdr, hsx, Bool.false_and] at ho
          refine TL.nil ?_
          refine T.cond_t rfl ?_
          refine T.seq ?_
          refine T.region ?_
          refine TL.cons rfl (V1.t (V1.move' z_D) ?_)
          refine TL.cons rfl (V1.t (V1.assign' z_D) ?_)
          refine TL.nil ?_
          refine T.ret ?_
          exact ⟨_, G, _, .cons (.tmp z_D) .nil, z_A, rfl, congrArg (Value.int .i64) (by rw [hsx, if_neg (by decide), if_neg (by rw [shp, qh, ho]; decide)])⟩
        ·
          have hsx : shp (.mk kx nx asx) = true := by simpa using h8
          rw [hdr, hsx, Bool.true_and] at ho
          refine TL.nil ?_
          refine T.cond_f rfl ?_
          refine T.skip ?_
          refine T.region ?_
          refine TL.cons rfl (V1.t (V1.add (c := ((i + 1 : Nat) : Int)) rfl rfl (by rw [wrap_i64 _ (by omega) (by omega)]; omega)) ?_)
          refine TL.cons rfl (V1.t (V1.move' z_D) ?_)
          refine TL.nil ?_
          exact ⟨i + 1, _, _, (by simp only; omega), (.cons rfl .nil), (.cons rfl (.cons rfl .nil)), z_A, ⟨rfl, by omega, ho⟩⟩
      ·
        obtain rfl : i = ts.length := by omega
        rw [List.drop_length, shpL] at ho
        refine TL.nil ?_
        refine T.seq ?_
        refine T.cond_f rfl ?_
        refine T.exit ?_
        refine T.seq ?_
        refine T.region ?_
        refine TL.cons rfl (V1.t (V1.assign' z_D) ?_)
        refine TL.nil ?_
        refine T.ret ?_
        exact ⟨_, G, _, .cons (.tmp z_D) .nil, z_A, rfl, congrArg (Value.int .i64) (by rw [if_pos (by rw [shp, qh, ho]; rfl)])⟩
  ·
    refine TL.cons rfl (V1.t (V1.assign' z_D) ?_)
    refine TL.nil ?_
    refine T.cut (σ := Unit) (l0 := [(1, _)]) (fun x => []) (fun _ L => L = ⟨b1, 0, [.int .i64 k, .string (bstr nm), .slice a ts.length c], 3⟩ :: G ∧ headOk k nm ts.length = true) (.cons z_D .nil) ?_ ?_
    ·
      refine T.seq ?_
      refine T.drawDet' mixed (by decide +kernel) ?_
      refine Det.cons 0 (ins := [(1, _)]) (.old z_D (by decide +kernel) .nil) (fun e_ => .inl ⟨rfl, V1.t (V1.fieldAddr fl_24_2 rfl) ⟨rfl, rfl⟩⟩) ?_
      refine Det.cons 1 (ins := [(14, _)]) (.new 0 0 (by decide +kernel) rfl rfl .nil) (fun e_ => .inl ⟨rfl, V1.t (V1.load1 one_22 rfl (.own z_C (by rfl))) ⟨rfl, rfl⟩⟩) ?_
      refine Det.cons 2 (ins := [(15, _)]) (.new 1 0 (by decide +kernel) rfl rfl .nil) (fun e_ => .inl ⟨rfl, V1.t (V1.lenSl ty_22 rfl) ⟨rfl, rfl⟩⟩) ?_
      refine Det.cons 3 (ins := [(3, _)]) (.old z_D (by decide +kernel) .nil) (fun e_ => .inl ⟨rfl, V1.t (V1.move' z_D) ⟨rfl, rfl⟩⟩) ?_
      refine Det.cons 4 (ins := [(16, _), (17, _)]) (.new 2 1 (by decide +kernel) rfl rfl (.new 3 0 (by decide +kernel) rfl rfl .nil)) (fun e_ => .inl ⟨rfl, V1.t (V1.ltI rfl rfl (decide_eq_false (by omega))) ⟨rfl, rfl⟩⟩) ?_
      refine Det.cons 5 (ins := [(18, _)]) (.new 4 0 (by decide +kernel) rfl rfl .nil) (fun e_ => .inl ⟨rfl, V1.t (V1.move' z_D) ⟨rfl, rfl⟩⟩) ?_
      refine Det.cons 6 (ins := [(1, _), (19, _)]) (.old z_D (by decide +kernel) (.new 5 0 (by decide +kernel) rfl rfl .nil)) (fun e_ => .inl ⟨rfl, V1.t (V1.fieldAddr fl_24_2 rfl) ⟨rfl, rfl⟩⟩) ?_
      refine Det.cons 7 (ins := [(19, _), (20, _)]) (.new 5 1 (by decide +kernel) rfl rfl (.new 6 0 (by decide +kernel) rfl rfl .nil)) (fun e_ => .inl ⟨rfl, V1.t (V1.load1 one_22 rfl (.own z_C (by rfl))) ⟨rfl, rfl⟩⟩) ?_
      refine Det.cons 8 (ins := [(19, _), (21, _)]) (.new 5 2 (by decide +kernel) rfl rfl (.new 7 0 (by decide +kernel) rfl rfl .nil)) (fun e_ => .inl ⟨rfl, V1.t (V1.lenSl ty_22 rfl) ⟨rfl, rfl⟩⟩) ?_
      refine Det.cons 9 (ins := [(4, _), (19, _)]) (.old z_D (by decide +kernel) (.new 5 3 (by decide +kernel) rfl rfl .nil)) (fun e_ => .inl ⟨rfl, V1.t (V1.move' z_D) ⟨rfl, rfl⟩⟩) ?_
      refine Det.cons 10 (ins := [(19, _), (22, _), (23, _)]) (.new 5 4 (by decide +kernel) rfl rfl (.new 8 1 (by decide +kernel) rfl rfl (.new 9 0 (by decide +kernel) rfl rfl .nil))) (fun e_ => .inl ⟨rfl, V1.t (V1.gtI rfl rfl (decide_eq_false (by omega))) ⟨rfl, rfl⟩⟩) ?_
      refine Det.cons 11 (ins := [(19, _), (24, _)]) (.new 5 5 (by decide +kernel) rfl rfl (.new 10 0 (by decide +kernel) rfl rfl .nil)) (fun e_ => .inl ⟨rfl, V1.t (V1.pick rfl z_D) ⟨rfl, rfl⟩⟩) ?_
      refine Det.cons 12 (ins := [(25, _)]) (.new 11 0 (by decide +kernel) rfl rfl .nil) (fun e_ => .inl ⟨rfl, V1.t (V1.move' z_D) ⟨rfl, rfl⟩⟩) ?_
      refine Det.cons 13 (ins := [(1, _), (26, _)]) (.old z_D (by decide +kernel) (.new 12 0 (by decide +kernel) rfl rfl .nil)) (fun e_ => .inl ⟨rfl, V1.t (V1.fieldAddr fl_24_0 rfl) ⟨rfl, rfl⟩⟩) ?_
      refine Det.cons 14 (ins := [(26, _), (27, _)]) (.new 12 1 (by decide +kernel) rfl rfl (.new 13 0 (by decide +kernel) rfl rfl .nil)) (fun e_ => .inl ⟨rfl, V1.t (V1.load1 one_3 rfl (.own z_C (by rfl))) ⟨rfl, rfl⟩⟩) ?_
      refine Det.cons 15 (ins := [(26, _), (28, _)]) (.new 12 2 (by decide +kernel) rfl rfl (.new 14 0 (by decide +kernel) rfl rfl .nil)) (fun e_ => .inl ⟨rfl, V1.t (V1.eqI rfl rfl (decide_eq_false (by omega))) ⟨rfl, rfl⟩⟩) ?_
      refine Det.cons 16 (ins := [(26, _), (29, _)]) (.new 12 3 (by decide +kernel) rfl rfl (.new 15 0 (by decide +kernel) rfl rfl .nil)) (fun e_ => .inl ⟨rfl, V1.t (V1.move' z_D) ⟨rfl, rfl⟩⟩) ?_
      refine Det.cons 17 (ins := [(1, _), (30, _)]) (.old z_D (by decide +kernel) (.new 16 0 (by decide +kernel) rfl rfl .nil)) (fun e_ => .inl ⟨rfl, V1.t (V1.fieldAddr fl_24_0 rfl) ⟨rfl, rfl⟩⟩) ?_
      refine Det.cons 18 (ins := [(30, _), (31, _)]) (.new 16 1 (by decide +kernel) rfl rfl (.new 17 0 (by decide +kernel) rfl rfl .nil)) (fun e_ => .inl ⟨rfl, V1.t (V1.load1 one_3 rfl (.own z_C (by rfl))) ⟨rfl, rfl⟩⟩) ?_
      refine Det.cons 19 (ins := [(30, _), (32, _)]) (.new 16 2 (by decide +kernel) rfl rfl (.new 18 0 (by decide +kernel) rfl rfl .nil)) (fun e_ => .inl ⟨rfl, V1.t (V1.eqI rfl rfl (decide_eq_true (by omega))) ⟨rfl, rfl⟩⟩) ?_
      refine Det.cons 20 (ins := [(26, _), (30, _), (33, _)]) (.new 12 7 (by decide +kernel) rfl rfl (.new 16 3 (by decide +kernel) rfl rfl (.new 19 0 (by decide +kernel) rfl rfl .nil))) (fun e_ => .inl ⟨rfl, V1.t (V1.pick rfl z_D) ⟨rfl, rfl⟩⟩) ?_
      refine Det.cons 21 (ins := [(1, _), (26, _)]) (.old z_D (by decide +kernel) (.new 12 8 (by decide +kernel) rfl rfl .nil)) (fun e_ => .inl ⟨rfl, V1.t (V1.fieldAddr fl_24_1 rfl) ⟨rfl, rfl⟩⟩) ?_
      refine Det.cons 22 (ins := [(26, _), (35, _)]) (.new 12 9 (by decide +kernel) rfl rfl (.new 21 0 (by decide +kernel) rfl rfl .nil)) (fun e_ => .inl ⟨rfl, V1.t (V1.load1 one_9 rfl (.own z_C (by rfl))) ⟨rfl, rfl⟩⟩) ?_
      refine Det.cons 23 (ins := [(26, _), (36, _)]) (v := .bool (named nm)) (.new 12 10 (by decide +kernel) rfl rfl (.new 22 0 (by decide +kernel) rfl rfl .nil)) (fun e_ => .inl ⟨rfl, ?_⟩) ?_
      · refine T1.call0 has_71 rfl (fun w hs => named_any nm w) (fun v_ hv => ?_)
        obtain rfl := hv
        exact ⟨rfl, rfl⟩
      refine Det.cons 24 (ins := [(26, _), (34, _), (37, _)]) (.new 12 11 (by decide +kernel) rfl rfl (.new 20 3 (by decide +kernel) rfl rfl (.new 23 0 (by decide +kernel) rfl rfl .nil))) (fun e_ => .inl ⟨rfl, V1.t (V1.neB ty_4 rfl rfl (r := false) (by rw [qn]; rfl)) ⟨rfl, rfl⟩⟩) ?_
      refine Det.cons 25 (ins := [(26, _), (38, _)]) (.new 12 12 (by decide +kernel) rfl rfl (.new 24 0 (by decide +kernel) rfl rfl .nil)) (fun e_ => .inl ⟨rfl, V1.t (V1.pick rfl z_D) ⟨rfl, rfl⟩⟩) ?_
      refine Det.cons 26 (ins := [(39, _)]) (.new 25 0 (by decide +kernel) rfl rfl .nil) (fun e_ => .inl ⟨rfl, V1.t (V1.move' z_D) ⟨rfl, rfl⟩⟩) ?_
      refine Det.cons 27 (ins := [(1, _), (40, _)]) (.old z_D (by decide +kernel) (.new 26 0 (by decide +kernel) rfl rfl .nil)) (fun e_ => .inl ⟨rfl, V1.t (V1.fieldAddr fl_24_0 rfl) ⟨rfl, rfl⟩⟩) ?_
      refine Det.cons 28 (ins := [(40, _), (41, _)]) (.new 26 1 (by decide +kernel) rfl rfl (.new 27 0 (by decide +kernel) rfl rfl .nil)) (fun e_ => .inl ⟨rfl, V1.t (V1.load1 one_3 rfl (.own z_C (by rfl))) ⟨rfl, rfl⟩⟩) ?_
      refine Det.cons 29 (ins := [(40, _), (42, _)]) (.new 26 2 (by decide +kernel) rfl rfl (.new 28 0 (by decide +kernel) rfl rfl .nil)) (fun e_ => .inl ⟨rfl, V1.t (V1.neI rfl rfl (decide_eq_true (by omega))) ⟨rfl, rfl⟩⟩) ?_
      refine Det.cons 30 (ins := [(40, _), (43, _)]) (.new 26 3 (by decide +kernel) rfl rfl (.new 29 0 (by decide +kernel) rfl rfl .nil)) (fun e_ => .inl ⟨rfl, V1.t (V1.move' z_D) ⟨rfl, rfl⟩⟩) ?_
      refine Det.cons 31 (ins := [(1, _), (44, _)]) (.old z_D (by decide +kernel) (.new 30 0 (by decide +kernel) rfl rfl .nil)) (fun e_ => .inl ⟨rfl, V1.t (V1.fieldAddr fl_24_0 rfl) ⟨rfl, rfl⟩⟩) ?_
      refine Det.cons 32 (ins := [(44, _), (45, _)]) (.new 30 1 (by decide +kernel) rfl rfl (.new 31 0 (by decide +kernel) rfl rfl .nil)) (fun e_ => .inl ⟨rfl, V1.t (V1.load1 one_3 rfl (.own z_C (by rfl))) ⟨rfl, rfl⟩⟩) ?_
      refine Det.cons 33 (ins := [(44, _), (46, _)]) (.new 30 2 (by decide +kernel) rfl rfl (.new 32 0 (by decide +kernel) rfl rfl .nil)) (fun e_ => .inl ⟨rfl, V1.t (V1.neI rfl rfl (decide_eq_false (by omega))) ⟨rfl, rfl⟩⟩) ?_
      refine Det.cons 34 (ins := [(40, _), (44, _), (47, _)]) (.new 26 7 (by decide +kernel) rfl rfl (.new 30 3 (by decide +kernel) rfl rfl (.new 33 0 (by decide +kernel) rfl rfl .nil))) (fun e_ => .inl ⟨rfl, V1.t (V1.pick rfl z_D) ⟨rfl, rfl⟩⟩) ?_
      refine Det.cons 35 (ins := [(40, _), (48, _)]) (.new 26 8 (by decide +kernel) rfl rfl (.new 34 0 (by decide +kernel) rfl rfl .nil)) (fun e_ => .inl ⟨rfl, V1.t (V1.move' z_D) ⟨rfl, rfl⟩⟩) ?_
      refine Det.cons 36 (ins := [(49, _)]) (.new 35 0 (by decide +kernel) rfl rfl .nil) (fun e_ => .inr ⟨rfl, rfl⟩) ?_
      refine Det.cons 37 (ins := [(49, _)]) (.new 35 1 (by decide +kernel) rfl rfl .nil) (fun e_ => .inr ⟨rfl, rfl⟩) ?_
      refine Det.cons 38 (ins := [(49, _)]) (.new 35 2 (by decide +kernel) rfl rfl .nil) (fun e_ => .inr ⟨rfl, rfl⟩) ?_
      refine Det.cons 39 (ins := [(40, _), (49, _), (52, _)]) (.new 26 12 (by decide +kernel) rfl rfl (.new 35 3 (by decide +kernel) rfl rfl (.new 38 0 (by decide +kernel) rfl rfl .nil))) (fun e_ => .inl ⟨rfl, V1.t (V1.pick rfl z_D) ⟨rfl, rfl⟩⟩) ?_
      refine Det.cons 40 (ins := [(40, _), (53, _)]) (.new 26 13 (by decide +kernel) rfl rfl (.new 39 0 (by decide +kernel) rfl rfl .nil)) (fun e_ => .inl ⟨rfl, V1.t (V1.pick rfl z_D) ⟨rfl, rfl⟩⟩) ?_
      refine Det.nil 41 (l := [(1, _), (54, _)]) (.old z_D (by decide +kernel) (.new 40 0 (by decide +kernel) rfl rfl .nil)) (fun e_ => ?_)
      refine T.cond_f rfl ?_
      refine T.skip ?_
      exact ⟨(), _, _, trivial, .nil, (.cons rfl .nil), z_A, ⟨rfl, qh⟩⟩
    ·
      rintro _ e_ L ⟨rfl, qh⟩
      refine T.seq ?_
      refine T.seq ?_
      refine T.region ?_
      refine TL.cons rfl (V1.t (V1.fieldAddr fl_24_2 rfl) ?_)
      refine TL.cons rfl (V1.t (V1.load1 one_22 rfl (.own z_C (by rfl))) ?_)
      refine TL.cons rfl (V1.t (V1.lenSl ty_22 rfl) ?_)
      refine TL.cons rfl (V1.t (V1.move' z_D) ?_)
      refine TL.nil ?_
      refine T.block ?_
      refine T.loopL (σ := Nat) (l0 := [(56, _), (57, _)]) (fun x => [(58, .int .i64 (x : Nat))]) (fun i L => L = ⟨b1, 0, [.int .i64 k, .string (bstr nm), .slice a ts.length c], 3⟩ :: G ∧ i ≤ ts.length ∧ shpL ts = shpL (ts.drop i)) (fun i => ts.length - i) 0 (.cons rfl .nil) (.cons z_D (.cons z_D .nil)) z_A (⟨rfl, Nat.zero_le _, by rw [List.drop_zero]⟩) ?_
      rintro i e_ L ⟨rfl, hi, ho⟩
      refine T.seq ?_
      refine T.region ?_
      refine TL.cons rfl (T1.ltI_split rfl rfl (fun h5 => ?_) (fun h5 => ?_))
      ·
        obtain ⟨x, hx0⟩ : ∃ x, ts[i]? = some x := ⟨_, List.getElem?_eq_getElem (by omega)⟩
        have hcx := ih x (List.mem_of_getElem? hx0)
        have hdr := shpL_drop hx0
        obtain ⟨bx, ox, cs_, rfl, hx, hrdx⟩ := hr.term ht hx0 P
        obtain ⟨kx, nx, asx⟩ := x
        obtain ⟨ax, cx, vsx, rfl, hrx, hlx, htx⟩ := hx.inv
        try simp only at *
        refine TL.nil ?_
        refine T.seq ?_
        refine T.cond_t rfl ?_
        refine T.skip ?_
        refine T.seq ?_
        refine T.block ?_
        refine T.seq ?_
        refine T.region ?_
        refine TL.cons rfl (V1.t (V1.indexAddrS ty_22 sz_24 rfl rfl (by omega) (by omega)) ?_)
        refine TL.cons rfl (V1.t (V1.loadN (vs := [.int .i64 kx, .string (bstr nx), .slice ax asx.length cx]) one_24 sz_24 rfl (hrdx _ rfl rfl _ z_E) rfl) ?_)
        refine TL.cons rfl (T1.allocN 3 zr_24 rfl (fun b6 => ?_))
        refine TL.cons rfl (T1.storeN rfl rfl sz_24 (ones rfl) z_G (by rfl) (by rfl) ?_)
        refine TL.nil ?_
        refine T.seq ?_
        refine T.region ?_
        refine TL.cons rfl (V1.t (V1.loadN one_24 sz_24 rfl (RdN.whole z_C) (by rfl)) ?_)
        refine TL.cons rfl (T1.callV has_37 rfl rfl (hcx _ _ hx) z_E (fun v_ hv => ?_))
        obtain rfl := hv
        refine TL.cons rfl (V1.t (V1.assign' z_D) ?_)
        refine TL.nil ?_
        refine T.seq ?_
        refine T.region ?_
        refine TL.cons rfl (V1.t (V1.move' z_D) ?_)
        refine TL.cons rfl (T1.neI_split rfl rfl (fun h8 => ?_) (fun h8 => ?_))
        ·
          have hsx : shp (.mk kx nx asx) = false := by simpa using h8
          rw [hdr, hsx, Bool.false_and] at ho
          refine TL.nil ?_
          refine T.cond_t rfl ?_
          refine T.seq ?_
          refine T.region ?_
          refine TL.cons rfl (V1.t (V1.move' z_D) ?_)
          refine TL.cons rfl (V1.t (V1.assign' z_D) ?_)
          refine TL.nil ?_
          refine T.ret ?_
          exact ⟨_, G, _, .cons (.tmp z_D) .nil, z_A, rfl, congrArg (Value.int .i64) (by rw [hsx, if_neg (by decide), if_neg (by rw [shp, qh, ho]; decide)])⟩
        ·
          have hsx : shp (.mk kx nx asx) = true := by simpa using h8
          rw [hdr, hsx, Bool.true_and] at ho
          refine TL.nil ?_
          refine T.cond_f rfl ?_
          refine T.skip ?_
          refine T.region ?_
          refine TL.cons rfl (V1.t (V1.add (c := ((i + 1 : Nat) : Int)) rfl rfl (by rw [wrap_i64 _ (by omega) (by omega)]; omega)) ?_)
          refine TL.cons rfl (V1.t (V1.move' z_D) ?_)
          refine TL.nil ?_
          exact ⟨i + 1, _, _, (by simp only; omega), (.cons rfl .nil), (.cons rfl (.cons rfl .nil)), z_A, ⟨rfl, by omega, ho⟩⟩
      ·
        obtain rfl : i = ts.length := by omega
        rw [List.drop_length, shpL] at ho
        refine TL.nil ?_
        refine T.seq ?_
        refine T.cond_f rfl ?_
        refine T.exit ?_
        refine T.seq ?_
        refine T.region ?_
        refine TL.cons rfl (V1.t (V1.assign' z_D) ?_)
        refine TL.nil ?_
        refine T.ret ?_
        exact ⟨_, G, _, .cons (.tmp z_D) .nil, z_A, rfl, congrArg (Value.int .i64) (by rw [if_pos (by rw [shp, qh, ho]; rfl)])⟩
  ·
    refine TL.cons rfl (V1.t (V1.assign' z_D) ?_)
    refine TL.nil ?_
    refine T.cut (σ := Unit) (l0 := [(1, _)]) (fun x => []) (fun _ L => L = ⟨b1, 0, [.int .i64 k, .string (bstr nm), .slice a ts.length c], 3⟩ :: G ∧ headOk k nm ts.length = true) (.cons z_D .nil) ?_ ?_
    ·
      refine T.seq ?_
      refine T.drawDet' mixed (by decide +kernel) ?_
      refine Det.cons 0 (ins := [(1, _)]) (.old z_D (by decide +kernel) .nil) (fun e_ => .inl ⟨rfl, V1.t (V1.fieldAddr fl_24_2 rfl) ⟨rfl, rfl⟩⟩) ?_
      refine Det.cons 1 (ins := [(14, _)]) (.new 0 0 (by decide +kernel) rfl rfl .nil) (fun e_ => .inl ⟨rfl, V1.t (V1.load1 one_22 rfl (.own z_C (by rfl))) ⟨rfl, rfl⟩⟩) ?_
      refine Det.cons 2 (ins := [(15, _)]) (.new 1 0 (by decide +kernel) rfl rfl .nil) (fun e_ => .inl ⟨rfl, V1.t (V1.lenSl ty_22 rfl) ⟨rfl, rfl⟩⟩) ?_
      refine Det.cons 3 (ins := [(3, _)]) (.old z_D (by decide +kernel) .nil) (fun e_ => .inl ⟨rfl, V1.t (V1.move' z_D) ⟨rfl, rfl⟩⟩) ?_
      refine Det.cons 4 (ins := [(16, _), (17, _)]) (.new 2 1 (by decide +kernel) rfl rfl (.new 3 0 (by decide +kernel) rfl rfl .nil)) (fun e_ => .inl ⟨rfl, V1.t (V1.ltI rfl rfl (decide_eq_false (by omega))) ⟨rfl, rfl⟩⟩) ?_
      refine Det.cons 5 (ins := [(18, _)]) (.new 4 0 (by decide +kernel) rfl rfl .nil) (fun e_ => .inl ⟨rfl, V1.t (V1.move' z_D) ⟨rfl, rfl⟩⟩) ?_
      refine Det.cons 6 (ins := [(1, _), (19, _)]) (.old z_D (by decide +kernel) (.new 5 0 (by decide +kernel) rfl rfl .nil)) (fun e_ => .inl ⟨rfl, V1.t (V1.fieldAddr fl_24_2 rfl) ⟨rfl, rfl⟩⟩) ?_
      refine Det.cons 7 (ins := [(19, _), (20, _)]) (.new 5 1 (by decide +kernel) rfl rfl (.new 6 0 (by decide +kernel) rfl rfl .nil)) (fun e_ => .inl ⟨rfl, V1.t (V1.load1 one_22 rfl (.own z_C (by rfl))) ⟨rfl, rfl⟩⟩) ?_
      refine Det.cons 8 (ins := [(19, _), (21, _)]) (.new 5 2 (by decide +kernel) rfl rfl (.new 7 0 (by decide +kernel) rfl rfl .nil)) (fun e_ => .inl ⟨rfl, V1.t (V1.lenSl ty_22 rfl) ⟨rfl, rfl⟩⟩) ?_
      refine Det.cons 9 (ins := [(4, _), (19, _)]) (.old z_D (by decide +kernel) (.new 5 3 (by decide +kernel) rfl rfl .nil)) (fun e_ => .inl ⟨rfl, V1.t (V1.move' z_D) ⟨rfl, rfl⟩⟩) ?_
      refine Det.cons 10 (ins := [(19, _), (22, _), (23, _)]) (.new 5 4 (by decide +kernel) rfl rfl (.new 8 1 (by decide +kernel) rfl rfl (.new 9 0 (by decide +kernel) rfl rfl .nil))) (fun e_ => .inl ⟨rfl, V1.t (V1.gtI rfl rfl (decide_eq_false (by omega))) ⟨rfl, rfl⟩⟩) ?_
      refine Det.cons 11 (ins := [(19, _), (24, _)]) (.new 5 5 (by decide +kernel) rfl rfl (.new 10 0 (by decide +kernel) rfl rfl .nil)) (fun e_ => .inl ⟨rfl, V1.t (V1.pick rfl z_D) ⟨rfl, rfl⟩⟩) ?_
      refine Det.cons 12 (ins := [(25, _)]) (.new 11 0 (by decide +kernel) rfl rfl .nil) (fun e_ => .inl ⟨rfl, V1.t (V1.move' z_D) ⟨rfl, rfl⟩⟩) ?_
      refine Det.cons 13 (ins := [(1, _), (26, _)]) (.old z_D (by decide +kernel) (.new 12 0 (by decide +kernel) rfl rfl .nil)) (fun e_ => .inl ⟨rfl, V1.t (V1.fieldAddr fl_24_0 rfl) ⟨rfl, rfl⟩⟩) ?_
      refine Det.cons 14 (ins := [(26, _), (27, _)]) (.new 12 1 (by decide +kernel) rfl rfl (.new 13 0 (by decide +kernel) rfl rfl .nil)) (fun e_ => .inl ⟨rfl, V1.t (V1.load1 one_3 rfl (.own z_C (by rfl))) ⟨rfl, rfl⟩⟩) ?_
      refine Det.cons 15 (ins := [(26, _), (28, _)]) (.new 12 2 (by decide +kernel) rfl rfl (.new 14 0 (by decide +kernel) rfl rfl .nil)) (fun e_ => .inl ⟨rfl, V1.t (V1.eqI rfl rfl (decide_eq_false (by omega))) ⟨rfl, rfl⟩⟩) ?_
      refine Det.cons 16 (ins := [(26, _), (29, _)]) (.new 12 3 (by decide +kernel) rfl rfl (.new 15 0 (by decide +kernel) rfl rfl .nil)) (fun e_ => .inl ⟨rfl, V1.t (V1.move' z_D) ⟨rfl, rfl⟩⟩) ?_
      refine Det.cons 17 (ins := [(1, _), (30, _)]) (.old z_D (by decide +kernel) (.new 16 0 (by decide +kernel) rfl rfl .nil)) (fun e_ => .inl ⟨rfl, V1.t (V1.fieldAddr fl_24_0 rfl) ⟨rfl, rfl⟩⟩) ?_
      refine Det.cons 18 (ins := [(30, _), (31, _)]) (.new 16 1 (by decide +kernel) rfl rfl (.new 17 0 (by decide +kernel) rfl rfl .nil)) (fun e_ => .inl ⟨rfl, V1.t (V1.load1 one_3 rfl (.own z_C (by rfl))) ⟨rfl, rfl⟩⟩) ?_
      refine Det.cons 19 (ins := [(30, _), (32, _)]) (.new 16 2 (by decide +kernel) rfl rfl (.new 18 0 (by decide +kernel) rfl rfl .nil)) (fun e_ => .inl ⟨rfl, V1.t (V1.eqI rfl rfl (decide_eq_true (by omega))) ⟨rfl, rfl⟩⟩) ?_
      refine Det.cons 20 (ins := [(26, _), (30, _), (33, _)]) (.new 12 7 (by decide +kernel) rfl rfl (.new 16 3 (by decide +kernel) rfl rfl (.new 19 0 (by decide +kernel) rfl rfl .nil))) (fun e_ => .inl ⟨rfl, V1.t (V1.pick rfl z_D) ⟨rfl, rfl⟩⟩) ?_
      refine Det.cons 21 (ins := [(1, _), (26, _)]) (.old z_D (by decide +kernel) (.new 12 8 (by decide +kernel) rfl rfl .nil)) (fun e_ => .inl ⟨rfl, V1.t (V1.fieldAddr fl_24_1 rfl) ⟨rfl, rfl⟩⟩) ?_
      refine Det.cons 22 (ins := [(26, _), (35, _)]) (.new 12 9 (by decide +kernel) rfl rfl (.new 21 0 (by decide +kernel) rfl rfl .nil)) (fun e_ => .inl ⟨rfl, V1.t (V1.load1 one_9 rfl (.own z_C (by rfl))) ⟨rfl, rfl⟩⟩) ?_
      refine Det.cons 23 (ins := [(26, _), (36, _)]) (v := .bool (named nm)) (.new 12 10 (by decide +kernel) rfl rfl (.new 22 0 (by decide +kernel) rfl rfl .nil)) (fun e_ => .inl ⟨rfl, ?_⟩) ?_
      · refine T1.call0 has_71 rfl (fun w hs => named_any nm w) (fun v_ hv => ?_)
        obtain rfl := hv
        exact ⟨rfl, rfl⟩
      refine Det.cons 24 (ins := [(26, _), (34, _), (37, _)]) (.new 12 11 (by decide +kernel) rfl rfl (.new 20 3 (by decide +kernel) rfl rfl (.new 23 0 (by decide +kernel) rfl rfl .nil))) (fun e_ => .inl ⟨rfl, V1.t (V1.neB ty_4 rfl rfl (r := true) (by rw [qn]; rfl)) ⟨rfl, rfl⟩⟩) ?_
      refine Det.cons 25 (ins := [(26, _), (38, _)]) (.new 12 12 (by decide +kernel) rfl rfl (.new 24 0 (by decide +kernel) rfl rfl .nil)) (fun e_ => .inl ⟨rfl, V1.t (V1.pick rfl z_D) ⟨rfl, rfl⟩⟩) ?_
      refine Det.cons 26 (ins := [(39, _)]) (.new 25 0 (by decide +kernel) rfl rfl .nil) (fun e_ => .inl ⟨rfl, V1.t (V1.move' z_D) ⟨rfl, rfl⟩⟩) ?_
      refine Det.cons 27 (ins := [(40, _)]) (.new 26 0 (by decide +kernel) rfl rfl .nil) (fun e_ => .inr ⟨rfl, rfl⟩) ?_
      refine Det.cons 28 (ins := [(40, _)]) (.new 26 1 (by decide +kernel) rfl rfl .nil) (fun e_ => .inr ⟨rfl, rfl⟩) ?_
      refine Det.cons 29 (ins := [(40, _)]) (.new 26 2 (by decide +kernel) rfl rfl .nil) (fun e_ => .inr ⟨rfl, rfl⟩) ?_
      refine Det.cons 30 (ins := [(40, _)]) (.new 26 3 (by decide +kernel) rfl rfl .nil) (fun e_ => .inr ⟨rfl, rfl⟩) ?_
      refine Det.cons 31 (ins := [(44, _)]) (.new 30 0 (by decide +kernel) rfl rfl .nil) (fun e_ => .inr ⟨rfl, rfl⟩) ?_
      refine Det.cons 32 (ins := [(44, _)]) (.new 30 1 (by decide +kernel) rfl rfl .nil) (fun e_ => .inr ⟨rfl, rfl⟩) ?_
      refine Det.cons 33 (ins := [(44, _)]) (.new 30 2 (by decide +kernel) rfl rfl .nil) (fun e_ => .inr ⟨rfl, rfl⟩) ?_
      refine Det.cons 34 (ins := [(40, _)]) (.new 26 7 (by decide +kernel) rfl rfl .nil) (fun e_ => .inr ⟨rfl, rfl⟩) ?_
      refine Det.cons 35 (ins := [(40, _)]) (.new 26 8 (by decide +kernel) rfl rfl .nil) (fun e_ => .inr ⟨rfl, rfl⟩) ?_
      refine Det.cons 36 (ins := [(49, _)]) (.new 35 0 (by decide +kernel) rfl rfl .nil) (fun e_ => .inr ⟨rfl, rfl⟩) ?_
      refine Det.cons 37 (ins := [(49, _)]) (.new 35 1 (by decide +kernel) rfl rfl .nil) (fun e_ => .inr ⟨rfl, rfl⟩) ?_
      refine Det.cons 38 (ins := [(49, _)]) (.new 35 2 (by decide +kernel) rfl rfl .nil) (fun e_ => .inr ⟨rfl, rfl⟩) ?_
      refine Det.cons 39 (ins := [(40, _)]) (.new 26 12 (by decide +kernel) rfl rfl .nil) (fun e_ => .inr ⟨rfl, rfl⟩) ?_
      refine Det.cons 40 (ins := [(40, _), (53, _)]) (.new 26 13 (by decide +kernel) rfl rfl (.new 39 0 (by decide +kernel) rfl rfl .nil)) (fun e_ => .inl ⟨rfl, V1.t (V1.pick rfl z_D) ⟨rfl, rfl⟩⟩) ?_
      refine Det.nil 41 (l := [(1, _), (54, _)]) (.old z_D (by decide +kernel) (.new 40 0 (by decide +kernel) rfl rfl .nil)) (fun e_ => ?_)
      refine T.cond_t rfl ?_
      refine T.seq ?_
      refine T.region ?_
      refine TL.cons rfl (V1.t (V1.assign' z_D) ?_)
      refine TL.nil ?_
      refine T.ret ?_
      exact ⟨_, G, _, .cons (.tmp z_D) .nil, z_A, rfl, congrArg (Value.int .i64) (by rw [if_neg (by rw [shp, qh, Bool.false_and]; decide)])⟩
    ·
      rintro _ e_ L ⟨rfl, qh⟩
      refine T.seq ?_
      refine T.seq ?_
      refine T.region ?_
      refine TL.cons rfl (V1.t (V1.fieldAddr fl_24_2 rfl) ?_)
      refine TL.cons rfl (V1.t (V1.load1 one_22 rfl (.own z_C (by rfl))) ?_)
      refine TL.cons rfl (V1.t (V1.lenSl ty_22 rfl) ?_)
      refine TL.cons rfl (V1.t (V1.move' z_D) ?_)
      refine TL.nil ?_
      refine T.block ?_
      refine T.loopL (σ := Nat) (l0 := [(56, _), (57, _)]) (fun x => [(58, .int .i64 (x : Nat))]) (fun i L => L = ⟨b1, 0, [.int .i64 k, .string (bstr nm), .slice a ts.length c], 3⟩ :: G ∧ i ≤ ts.length ∧ shpL ts = shpL (ts.drop i)) (fun i => ts.length - i) 0 (.cons rfl .nil) (.cons z_D (.cons z_D .nil)) z_A (⟨rfl, Nat.zero_le _, by rw [List.drop_zero]⟩) ?_
      rintro i e_ L ⟨rfl, hi, ho⟩
      refine T.seq ?_
      refine T.region ?_
      refine TL.cons rfl (T1.ltI_split rfl rfl (fun h5 => ?_) (fun h5 => ?_))
      ·
        obtain ⟨x, hx0⟩ : ∃ x, ts[i]? = some x := ⟨_, List.getElem?_eq_getElem (by omega)⟩
        have hcx := ih x (List.mem_of_getElem? hx0)
        have hdr := shpL_drop hx0
        obtain ⟨bx, ox, cs_, rfl, hx, hrdx⟩ := hr.term ht hx0 P
        obtain ⟨kx, nx, asx⟩ := x
        obtain ⟨ax, cx, vsx, rfl, hrx, hlx, htx⟩ := hx.inv
        try simp only at *
        refine TL.nil ?_
        refine T.seq ?_
        refine T.cond_t rfl ?_
        refine T.skip ?_
        refine T.seq ?_
        refine T.block ?_
        refine T.seq ?_
        refine T.region ?_
        refine TL.cons rfl (V1.t (V1.indexAddrS ty_22 sz_24 rfl rfl (by omega) (by omega)) ?_)
        refine TL.cons rfl (V1.t (V1.loadN (vs := [.int .i64 kx, .string (bstr nx), .slice ax asx.length cx]) one_24 sz_24 rfl (hrdx _ rfl rfl _ z_E) rfl) ?_)
        refine TL.cons rfl (T1.allocN 3 zr_24 rfl (fun b6 => ?_))
        refine TL.cons rfl (T1.storeN rfl rfl sz_24 (ones rfl) z_G (by rfl) (by rfl) ?_)
        refine TL.nil ?_
        refine T.seq ?_
        refine T.region ?_
        refine TL.cons rfl (V1.t (V1.loadN one_24 sz_24 rfl (RdN.whole z_C) (by rfl)) ?_)
        refine TL.cons rfl (T1.callV has_37 rfl rfl (hcx _ _ hx) z_E (fun v_ hv => ?_))
        obtain rfl := hv
        refine TL.cons rfl (V1.t (V1.assign' z_D) ?_)
        refine TL.nil ?_
        refine T.seq ?_
        refine T.region ?_
        refine TL.cons rfl (V1.t (V1.move' z_D) ?_)
        refine TL.cons rfl (T1.neI_split rfl rfl (fun h8 => ?_) (fun h8 => ?_))
        ·
          have hsx : shp (.mk kx nx asx) = false := by simpa using h8
          rw [hdr, hsx, Bool.false_and] at ho
          refine TL.nil ?_
          refine T.cond_t rfl ?_
          refine T.seq ?_
          refine T.region ?_
          refine TL.cons rfl (V1.t (V1.move' z_D) ?_)
          refine TL.cons rfl (V1.t (V1.assign' z_D) ?_)
          refine TL.nil ?_
          refine T.ret ?_
          exact ⟨_, G, _, .cons (.tmp z_D) .nil, z_A, rfl, congrArg (Value.int .i64) (by rw [hsx, if_neg (by decide), if_neg (by rw [shp, qh, ho]; decide)])⟩
        ·
          have hsx : shp (.mk kx nx asx) = true := by simpa using h8
          rw [hdr, hsx, Bool.true_and] at ho
          refine TL.nil ?_
          refine T.cond_f rfl ?_
          refine T.skip ?_
          refine T.region ?_
          refine TL.cons rfl (V1.t (V1.add (c := ((i + 1 : Nat) : Int)) rfl rfl (by rw [wrap_i64 _ (by omega) (by omega)]; omega)) ?_)
          refine TL.cons rfl (V1.t (V1.move' z_D) ?_)
          refine TL.nil ?_
          exact ⟨i + 1, _, _, (by simp only; omega), (.cons rfl .nil), (.cons rfl (.cons rfl .nil)), z_A, ⟨rfl, by omega, ho⟩⟩
      ·
        obtain rfl : i = ts.length := by omega
        rw [List.drop_length, shpL] at ho
        refine TL.nil ?_
        refine T.seq ?_
        refine T.cond_f rfl ?_
        refine T.exit ?_
        refine T.seq ?_
        refine T.region ?_
        refine TL.cons rfl (V1.t (V1.assign' z_D) ?_)
        refine TL.nil ?_
        refine T.ret ?_
        exact ⟨_, G, _, .cons (.tmp z_D) .nil, z_A, rfl, congrArg (Value.int .i64) (by rw [if_pos (by rw [shp, qh, ho]; rfl)])⟩
  ·
    refine TL.cons rfl (V1.t (V1.assign' z_D) ?_)
    refine TL.nil ?_
    refine T.cut (σ := Unit) (l0 := [(1, _)]) (fun x => []) (fun _ L => L = ⟨b1, 0, [.int .i64 k, .string (bstr nm), .slice a ts.length c], 3⟩ :: G ∧ headOk k nm ts.length = true) (.cons z_D .nil) ?_ ?_
    ·
      refine T.seq ?_
      refine T.drawDet' mixed (by decide +kernel) ?_
      refine Det.cons 0 (ins := [(1, _)]) (.old z_D (by decide +kernel) .nil) (fun e_ => .inl ⟨rfl, V1.t (V1.fieldAddr fl_24_2 rfl) ⟨rfl, rfl⟩⟩) ?_
      refine Det.cons 1 (ins := [(14, _)]) (.new 0 0 (by decide +kernel) rfl rfl .nil) (fun e_ => .inl ⟨rfl, V1.t (V1.load1 one_22 rfl (.own z_C (by rfl))) ⟨rfl, rfl⟩⟩) ?_
      refine Det.cons 2 (ins := [(15, _)]) (.new 1 0 (by decide +kernel) rfl rfl .nil) (fun e_ => .inl ⟨rfl, V1.t (V1.lenSl ty_22 rfl) ⟨rfl, rfl⟩⟩) ?_
      refine Det.cons 3 (ins := [(3, _)]) (.old z_D (by decide +kernel) .nil) (fun e_ => .inl ⟨rfl, V1.t (V1.move' z_D) ⟨rfl, rfl⟩⟩) ?_
      refine Det.cons 4 (ins := [(16, _), (17, _)]) (.new 2 1 (by decide +kernel) rfl rfl (.new 3 0 (by decide +kernel) rfl rfl .nil)) (fun e_ => .inl ⟨rfl, V1.t (V1.ltI rfl rfl (decide_eq_false (by omega))) ⟨rfl, rfl⟩⟩) ?_
      refine Det.cons 5 (ins := [(18, _)]) (.new 4 0 (by decide +kernel) rfl rfl .nil) (fun e_ => .inl ⟨rfl, V1.t (V1.move' z_D) ⟨rfl, rfl⟩⟩) ?_
      refine Det.cons 6 (ins := [(1, _), (19, _)]) (.old z_D (by decide +kernel) (.new 5 0 (by decide +kernel) rfl rfl .nil)) (fun e_ => .inl ⟨rfl, V1.t (V1.fieldAddr fl_24_2 rfl) ⟨rfl, rfl⟩⟩) ?_
      refine Det.cons 7 (ins := [(19, _), (20, _)]) (.new 5 1 (by decide +kernel) rfl rfl (.new 6 0 (by decide +kernel) rfl rfl .nil)) (fun e_ => .inl ⟨rfl, V1.t (V1.load1 one_22 rfl (.own z_C (by rfl))) ⟨rfl, rfl⟩⟩) ?_
      refine Det.cons 8 (ins := [(19, _), (21, _)]) (.new 5 2 (by decide +kernel) rfl rfl (.new 7 0 (by decide +kernel) rfl rfl .nil)) (fun e_ => .inl ⟨rfl, V1.t (V1.lenSl ty_22 rfl) ⟨rfl, rfl⟩⟩) ?_
      refine Det.cons 9 (ins := [(4, _), (19, _)]) (.old z_D (by decide +kernel) (.new 5 3 (by decide +kernel) rfl rfl .nil)) (fun e_ => .inl ⟨rfl, V1.t (V1.move' z_D) ⟨rfl, rfl⟩⟩) ?_
      refine Det.cons 10 (ins := [(19, _), (22, _), (23, _)]) (.new 5 4 (by decide +kernel) rfl rfl (.new 8 1 (by decide +kernel) rfl rfl (.new 9 0 (by decide +kernel) rfl rfl .nil))) (fun e_ => .inl ⟨rfl, V1.t (V1.gtI rfl rfl (decide_eq_false (by omega))) ⟨rfl, rfl⟩⟩) ?_
      refine Det.cons 11 (ins := [(19, _), (24, _)]) (.new 5 5 (by decide +kernel) rfl rfl (.new 10 0 (by decide +kernel) rfl rfl .nil)) (fun e_ => .inl ⟨rfl, V1.t (V1.pick rfl z_D) ⟨rfl, rfl⟩⟩) ?_
      refine Det.cons 12 (ins := [(25, _)]) (.new 11 0 (by decide +kernel) rfl rfl .nil) (fun e_ => .inl ⟨rfl, V1.t (V1.move' z_D) ⟨rfl, rfl⟩⟩) ?_
      refine Det.cons 13 (ins := [(1, _), (26, _)]) (.old z_D (by decide +kernel) (.new 12 0 (by decide +kernel) rfl rfl .nil)) (fun e_ => .inl ⟨rfl, V1.t (V1.fieldAddr fl_24_0 rfl) ⟨rfl, rfl⟩⟩) ?_
      refine Det.cons 14 (ins := [(26, _), (27, _)]) (.new 12 1 (by decide +kernel) rfl rfl (.new 13 0 (by decide +kernel) rfl rfl .nil)) (fun e_ => .inl ⟨rfl, V1.t (V1.load1 one_3 rfl (.own z_C (by rfl))) ⟨rfl, rfl⟩⟩) ?_
      refine Det.cons 15 (ins := [(26, _), (28, _)]) (.new 12 2 (by decide +kernel) rfl rfl (.new 14 0 (by decide +kernel) rfl rfl .nil)) (fun e_ => .inl ⟨rfl, V1.t (V1.eqI rfl rfl (decide_eq_false (by omega))) ⟨rfl, rfl⟩⟩) ?_
      refine Det.cons 16 (ins := [(26, _), (29, _)]) (.new 12 3 (by decide +kernel) rfl rfl (.new 15 0 (by decide +kernel) rfl rfl .nil)) (fun e_ => .inl ⟨rfl, V1.t (V1.move' z_D) ⟨rfl, rfl⟩⟩) ?_
      refine Det.cons 17 (ins := [(1, _), (30, _)]) (.old z_D (by decide +kernel) (.new 16 0 (by decide +kernel) rfl rfl .nil)) (fun e_ => .inl ⟨rfl, V1.t (V1.fieldAddr fl_24_0 rfl) ⟨rfl, rfl⟩⟩) ?_
      refine Det.cons 18 (ins := [(30, _), (31, _)]) (.new 16 1 (by decide +kernel) rfl rfl (.new 17 0 (by decide +kernel) rfl rfl .nil)) (fun e_ => .inl ⟨rfl, V1.t (V1.load1 one_3 rfl (.own z_C (by rfl))) ⟨rfl, rfl⟩⟩) ?_
      refine Det.cons 19 (ins := [(30, _), (32, _)]) (.new 16 2 (by decide +kernel) rfl rfl (.new 18 0 (by decide +kernel) rfl rfl .nil)) (fun e_ => .inl ⟨rfl, V1.t (V1.eqI rfl rfl (decide_eq_false (by omega))) ⟨rfl, rfl⟩⟩) ?_
      refine Det.cons 20 (ins := [(26, _), (30, _), (33, _)]) (.new 12 7 (by decide +kernel) rfl rfl (.new 16 3 (by decide +kernel) rfl rfl (.new 19 0 (by decide +kernel) rfl rfl .nil))) (fun e_ => .inl ⟨rfl, V1.t (V1.pick rfl z_D) ⟨rfl, rfl⟩⟩) ?_
      refine Det.cons 21 (ins := [(1, _), (26, _)]) (.old z_D (by decide +kernel) (.new 12 8 (by decide +kernel) rfl rfl .nil)) (fun e_ => .inl ⟨rfl, V1.t (V1.fieldAddr fl_24_1 rfl) ⟨rfl, rfl⟩⟩) ?_
      refine Det.cons 22 (ins := [(26, _), (35, _)]) (.new 12 9 (by decide +kernel) rfl rfl (.new 21 0 (by decide +kernel) rfl rfl .nil)) (fun e_ => .inl ⟨rfl, V1.t (V1.load1 one_9 rfl (.own z_C (by rfl))) ⟨rfl, rfl⟩⟩) ?_
      refine Det.cons 23 (ins := [(26, _), (36, _)]) (v := .bool (named nm)) (.new 12 10 (by decide +kernel) rfl rfl (.new 22 0 (by decide +kernel) rfl rfl .nil)) (fun e_ => .inl ⟨rfl, ?_⟩) ?_
      · refine T1.call0 has_71 rfl (fun w hs => named_any nm w) (fun v_ hv => ?_)
        obtain rfl := hv
        exact ⟨rfl, rfl⟩
      refine Det.cons 24 (ins := [(26, _), (34, _), (37, _)]) (.new 12 11 (by decide +kernel) rfl rfl (.new 20 3 (by decide +kernel) rfl rfl (.new 23 0 (by decide +kernel) rfl rfl .nil))) (fun e_ => .inl ⟨rfl, V1.t (V1.neB ty_4 rfl rfl (r := true) (by rw [qn]; rfl)) ⟨rfl, rfl⟩⟩) ?_
      refine Det.cons 25 (ins := [(26, _), (38, _)]) (.new 12 12 (by decide +kernel) rfl rfl (.new 24 0 (by decide +kernel) rfl rfl .nil)) (fun e_ => .inl ⟨rfl, V1.t (V1.pick rfl z_D) ⟨rfl, rfl⟩⟩) ?_
      refine Det.cons 26 (ins := [(39, _)]) (.new 25 0 (by decide +kernel) rfl rfl .nil) (fun e_ => .inl ⟨rfl, V1.t (V1.move' z_D) ⟨rfl, rfl⟩⟩) ?_
      refine Det.cons 27 (ins := [(40, _)]) (.new 26 0 (by decide +kernel) rfl rfl .nil) (fun e_ => .inr ⟨rfl, rfl⟩) ?_
      refine Det.cons 28 (ins := [(40, _)]) (.new 26 1 (by decide +kernel) rfl rfl .nil) (fun e_ => .inr ⟨rfl, rfl⟩) ?_
      refine Det.cons 29 (ins := [(40, _)]) (.new 26 2 (by decide +kernel) rfl rfl .nil) (fun e_ => .inr ⟨rfl, rfl⟩) ?_
      refine Det.cons 30 (ins := [(40, _)]) (.new 26 3 (by decide +kernel) rfl rfl .nil) (fun e_ => .inr ⟨rfl, rfl⟩) ?_
      refine Det.cons 31 (ins := [(44, _)]) (.new 30 0 (by decide +kernel) rfl rfl .nil) (fun e_ => .inr ⟨rfl, rfl⟩) ?_
      refine Det.cons 32 (ins := [(44, _)]) (.new 30 1 (by decide +kernel) rfl rfl .nil) (fun e_ => .inr ⟨rfl, rfl⟩) ?_
      refine Det.cons 33 (ins := [(44, _)]) (.new 30 2 (by decide +kernel) rfl rfl .nil) (fun e_ => .inr ⟨rfl, rfl⟩) ?_
      refine Det.cons 34 (ins := [(40, _)]) (.new 26 7 (by decide +kernel) rfl rfl .nil) (fun e_ => .inr ⟨rfl, rfl⟩) ?_
      refine Det.cons 35 (ins := [(40, _)]) (.new 26 8 (by decide +kernel) rfl rfl .nil) (fun e_ => .inr ⟨rfl, rfl⟩) ?_
      refine Det.cons 36 (ins := [(49, _)]) (.new 35 0 (by decide +kernel) rfl rfl .nil) (fun e_ => .inr ⟨rfl, rfl⟩) ?_
      refine Det.cons 37 (ins := [(49, _)]) (.new 35 1 (by decide +kernel) rfl rfl .nil) (fun e_ => .inr ⟨rfl, rfl⟩) ?_
      refine Det.cons 38 (ins := [(49, _)]) (.new 35 2 (by decide +kernel) rfl rfl .nil) (fun e_ => .inr ⟨rfl, rfl⟩) ?_
      refine Det.cons 39 (ins := [(40, _)]) (.new 26 12 (by decide +kernel) rfl rfl .nil) (fun e_ => .inr ⟨rfl, rfl⟩) ?_
      refine Det.cons 40 (ins := [(40, _), (53, _)]) (.new 26 13 (by decide +kernel) rfl rfl (.new 39 0 (by decide +kernel) rfl rfl .nil)) (fun e_ => .inl ⟨rfl, V1.t (V1.pick rfl z_D) ⟨rfl, rfl⟩⟩) ?_
      refine Det.nil 41 (l := [(1, _), (54, _)]) (.old z_D (by decide +kernel) (.new 40 0 (by decide +kernel) rfl rfl .nil)) (fun e_ => ?_)
      refine T.cond_t rfl ?_
      refine T.seq ?_
      refine T.region ?_
      refine TL.cons rfl (V1.t (V1.assign' z_D) ?_)
      refine TL.nil ?_
      refine T.ret ?_
      exact ⟨_, G, _, .cons (.tmp z_D) .nil, z_A, rfl, congrArg (Value.int .i64) (by rw [if_neg (by rw [shp, qh, Bool.false_and]; decide)])⟩
    ·
      rintro _ e_ L ⟨rfl, qh⟩
      refine T.seq ?_
      refine T.seq ?_
      refine T.region ?_
      refine TL.cons rfl (V1.t (V1.fieldAddr fl_24_2 rfl) ?_)
      refine TL.cons rfl (V1.t (V1.load1 one_22 rfl (.own z_C (by rfl))) ?_)
      refine TL.cons rfl (V1.t (V1.lenSl ty_22 rfl) ?_)
      refine TL.cons rfl (V1.t (V1.move' z_D) ?_)
      refine TL.nil ?_
      refine T.block ?_
      refine T.loopL (σ := Nat) (l0 := [(56, _), (57, _)]) (fun x => [(58, .int .i64 (x : Nat))]) (fun i L => L = ⟨b1, 0, [.int .i64 k, .string (bstr nm), .slice a ts.length c], 3⟩ :: G ∧ i ≤ ts.length ∧ shpL ts = shpL (ts.drop i)) (fun i => ts.length - i) 0 (.cons rfl .nil) (.cons z_D (.cons z_D .nil)) z_A (⟨rfl, Nat.zero_le _, by rw [List.drop_zero]⟩) ?_
      rintro i e_ L ⟨rfl, hi, ho⟩
      refine T.seq ?_
      refine T.region ?_
      refine TL.cons rfl (T1.ltI_split rfl rfl (fun h5 => ?_) (fun h5 => ?_))
      ·
        obtain ⟨x, hx0⟩ : ∃ x, ts[i]? = some x := ⟨_, List.getElem?_eq_getElem (by omega)⟩
        have hcx := ih x (List.mem_of_getElem? hx0)
        have hdr := shpL_drop hx0
        obtain ⟨bx, ox, cs_, rfl, hx, hrdx⟩ := hr.term ht hx0 P
        obtain ⟨kx, nx, asx⟩ := x
        obtain ⟨ax, cx, vsx, rfl, hrx, hlx, htx⟩ := hx.inv
        try simp only at *
        refine TL.nil ?_
        refine T.seq ?_
        refine T.cond_t rfl ?_
        refine T.skip ?_
        refine T.seq ?_
        refine T.block ?_
        refine T.seq ?_
        refine T.region ?_
        refine TL.cons rfl (V1.t (V1.indexAddrS ty_22 sz_24 rfl rfl (by omega) (by omega)) ?_)
        refine TL.cons rfl (V1.t (V1.loadN (vs := [.int .i64 kx, .string (bstr nx), .slice ax asx.length cx]) one_24 sz_24 rfl (hrdx _ rfl rfl _ z_E) rfl) ?_)
        refine TL.cons rfl (T1.allocN 3 zr_24 rfl (fun b6 => ?_))
        refine TL.cons rfl (T1.storeN rfl rfl sz_24 (ones rfl) z_G (by rfl) (by rfl) ?_)
        refine TL.nil ?_
        refine T.seq ?_
        refine T.region ?_
        refine TL.cons rfl (V1.t (V1.loadN one_24 sz_24 rfl (RdN.whole z_C) (by rfl)) ?_)
        refine TL.cons rfl (T1.callV has_37 rfl rfl (hcx _ _ hx) z_E (fun v_ hv => ?_))
        obtain rfl := hv
        refine TL.cons rfl (V1.t (V1.assign' z_D) ?_)
        refine TL.nil ?_
        refine T.seq ?_
        refine T.region ?_
        refine TL.cons rfl (V1.t (V1.move' z_D) ?_)
        refine TL.cons rfl (T1.neI_split rfl rfl (fun h8 => ?_) (fun h8 => ?_))
        ·
          have hsx : shp (.mk kx nx asx) = false := by simpa using h8
          rw [hdr, hsx, Bool.false_and] at ho
          refine TL.nil ?_
          refine T.cond_t rfl ?_
          refine T.seq ?_
          refine T.region ?_
          refine TL.cons rfl (V1.t (V1.move' z_D) ?_)
          refine TL.cons rfl (V1.t (V1.assign' z_D) ?_)
          refine TL.nil ?_
          refine T.ret ?_
          exact ⟨_, G, _, .cons (.tmp z_D) .nil, z_A, rfl, congrArg (Value.int .i64) (by rw [hsx, if_neg (by decide), if_neg (by rw [shp, qh, ho]; decide)])⟩
        ·
          have hsx : shp (.mk kx nx asx) = true := by simpa using h8
          rw [hdr, hsx, Bool.true_and] at ho
          refine TL.nil ?_
          refine T.cond_f rfl ?_
          refine T.skip ?_
          refine T.region ?_
          refine TL.cons rfl (V1.t (V1.add (c := ((i + 1 : Nat) : Int)) rfl rfl (by rw [wrap_i64 _ (by omega) (by omega)]; omega)) ?_)
          refine TL.cons rfl (V1.t (V1.move' z_D) ?_)
          refine TL.nil ?_
          exact ⟨i + 1, _, _, (by simp only; omega), (.cons rfl .nil), (.cons rfl (.cons rfl .nil)), z_A, ⟨rfl, by omega, ho⟩⟩
      ·
        obtain rfl : i = ts.length := by omega
        rw [List.drop_length, shpL] at ho
        refine TL.nil ?_
        refine T.seq ?_
        refine T.cond_f rfl ?_
        refine T.exit ?_
        refine T.seq ?_
        refine T.region ?_
        refine TL.cons rfl (V1.t (V1.assign' z_D) ?_)
        refine TL.nil ?_
        refine T.ret ?_
        exact ⟨_, G, _, .cons (.tmp z_D) .nil, z_A, rfl, congrArg (Value.int .i64) (by rw [if_pos (by rw [shp, qh, ho]; rfl)])⟩
  ·
    refine TL.cons rfl (V1.t (V1.assign' z_D) ?_)
    refine TL.nil ?_
    refine T.cut (σ := Unit) (l0 := [(1, _)]) (fun x => []) (fun _ L => L = ⟨b1, 0, [.int .i64 k, .string (bstr nm), .slice a ts.length c], 3⟩ :: G ∧ headOk k nm ts.length = true) (.cons z_D .nil) ?_ ?_
    ·
      refine T.seq ?_
      refine T.drawDet' mixed (by decide +kernel) ?_
      refine Det.cons 0 (ins := [(1, _)]) (.old z_D (by decide +kernel) .nil) (fun e_ => .inl ⟨rfl, V1.t (V1.fieldAddr fl_24_2 rfl) ⟨rfl, rfl⟩⟩) ?_
      refine Det.cons 1 (ins := [(14, _)]) (.new 0 0 (by decide +kernel) rfl rfl .nil) (fun e_ => .inl ⟨rfl, V1.t (V1.load1 one_22 rfl (.own z_C (by rfl))) ⟨rfl, rfl⟩⟩) ?_
      refine Det.cons 2 (ins := [(15, _)]) (.new 1 0 (by decide +kernel) rfl rfl .nil) (fun e_ => .inl ⟨rfl, V1.t (V1.lenSl ty_22 rfl) ⟨rfl, rfl⟩⟩) ?_
      refine Det.cons 3 (ins := [(3, _)]) (.old z_D (by decide +kernel) .nil) (fun e_ => .inl ⟨rfl, V1.t (V1.move' z_D) ⟨rfl, rfl⟩⟩) ?_
      refine Det.cons 4 (ins := [(16, _), (17, _)]) (.new 2 1 (by decide +kernel) rfl rfl (.new 3 0 (by decide +kernel) rfl rfl .nil)) (fun e_ => .inl ⟨rfl, V1.t (V1.ltI rfl rfl (decide_eq_false (by omega))) ⟨rfl, rfl⟩⟩) ?_
      refine Det.cons 5 (ins := [(18, _)]) (.new 4 0 (by decide +kernel) rfl rfl .nil) (fun e_ => .inl ⟨rfl, V1.t (V1.move' z_D) ⟨rfl, rfl⟩⟩) ?_
      refine Det.cons 6 (ins := [(1, _), (19, _)]) (.old z_D (by decide +kernel) (.new 5 0 (by decide +kernel) rfl rfl .nil)) (fun e_ => .inl ⟨rfl, V1.t (V1.fieldAddr fl_24_2 rfl) ⟨rfl, rfl⟩⟩) ?_
      refine Det.cons 7 (ins := [(19, _), (20, _)]) (.new 5 1 (by decide +kernel) rfl rfl (.new 6 0 (by decide +kernel) rfl rfl .nil)) (fun e_ => .inl ⟨rfl, V1.t (V1.load1 one_22 rfl (.own z_C (by rfl))) ⟨rfl, rfl⟩⟩) ?_
      refine Det.cons 8 (ins := [(19, _), (21, _)]) (.new 5 2 (by decide +kernel) rfl rfl (.new 7 0 (by decide +kernel) rfl rfl .nil)) (fun e_ => .inl ⟨rfl, V1.t (V1.lenSl ty_22 rfl) ⟨rfl, rfl⟩⟩) ?_
      refine Det.cons 9 (ins := [(4, _), (19, _)]) (.old z_D (by decide +kernel) (.new 5 3 (by decide +kernel) rfl rfl .nil)) (fun e_ => .inl ⟨rfl, V1.t (V1.move' z_D) ⟨rfl, rfl⟩⟩) ?_
      refine Det.cons 10 (ins := [(19, _), (22, _), (23, _)]) (.new 5 4 (by decide +kernel) rfl rfl (.new 8 1 (by decide +kernel) rfl rfl (.new 9 0 (by decide +kernel) rfl rfl .nil))) (fun e_ => .inl ⟨rfl, V1.t (V1.gtI rfl rfl (decide_eq_false (by omega))) ⟨rfl, rfl⟩⟩) ?_
      refine Det.cons 11 (ins := [(19, _), (24, _)]) (.new 5 5 (by decide +kernel) rfl rfl (.new 10 0 (by decide +kernel) rfl rfl .nil)) (fun e_ => .inl ⟨rfl, V1.t (V1.pick rfl z_D) ⟨rfl, rfl⟩⟩) ?_
      refine Det.cons 12 (ins := [(25, _)]) (.new 11 0 (by decide +kernel) rfl rfl .nil) (fun e_ => .inl ⟨rfl, V1.t (V1.move' z_D) ⟨rfl, rfl⟩⟩) ?_
      refine Det.cons 13 (ins := [(1, _), (26, _)]) (.old z_D (by decide +kernel) (.new 12 0 (by decide +kernel) rfl rfl .nil)) (fun e_ => .inl ⟨rfl, V1.t (V1.fieldAddr fl_24_0 rfl) ⟨rfl, rfl⟩⟩) ?_
      refine Det.cons 14 (ins := [(26, _), (27, _)]) (.new 12 1 (by decide +kernel) rfl rfl (.new 13 0 (by decide +kernel) rfl rfl .nil)) (fun e_ => .inl ⟨rfl, V1.t (V1.load1 one_3 rfl (.own z_C (by rfl))) ⟨rfl, rfl⟩⟩) ?_
      refine Det.cons 15 (ins := [(26, _), (28, _)]) (.new 12 2 (by decide +kernel) rfl rfl (.new 14 0 (by decide +kernel) rfl rfl .nil)) (fun e_ => .inl ⟨rfl, V1.t (V1.eqI rfl rfl (decide_eq_false (by omega))) ⟨rfl, rfl⟩⟩) ?_
      refine Det.cons 16 (ins := [(26, _), (29, _)]) (.new 12 3 (by decide +kernel) rfl rfl (.new 15 0 (by decide +kernel) rfl rfl .nil)) (fun e_ => .inl ⟨rfl, V1.t (V1.move' z_D) ⟨rfl, rfl⟩⟩) ?_
      refine Det.cons 17 (ins := [(1, _), (30, _)]) (.old z_D (by decide +kernel) (.new 16 0 (by decide +kernel) rfl rfl .nil)) (fun e_ => .inl ⟨rfl, V1.t (V1.fieldAddr fl_24_0 rfl) ⟨rfl, rfl⟩⟩) ?_
      refine Det.cons 18 (ins := [(30, _), (31, _)]) (.new 16 1 (by decide +kernel) rfl rfl (.new 17 0 (by decide +kernel) rfl rfl .nil)) (fun e_ => .inl ⟨rfl, V1.t (V1.load1 one_3 rfl (.own z_C (by rfl))) ⟨rfl, rfl⟩⟩) ?_
      refine Det.cons 19 (ins := [(30, _), (32, _)]) (.new 16 2 (by decide +kernel) rfl rfl (.new 18 0 (by decide +kernel) rfl rfl .nil)) (fun e_ => .inl ⟨rfl, V1.t (V1.eqI rfl rfl (decide_eq_false (by omega))) ⟨rfl, rfl⟩⟩) ?_
      refine Det.cons 20 (ins := [(26, _), (30, _), (33, _)]) (.new 12 7 (by decide +kernel) rfl rfl (.new 16 3 (by decide +kernel) rfl rfl (.new 19 0 (by decide +kernel) rfl rfl .nil))) (fun e_ => .inl ⟨rfl, V1.t (V1.pick rfl z_D) ⟨rfl, rfl⟩⟩) ?_
      refine Det.cons 21 (ins := [(1, _), (26, _)]) (.old z_D (by decide +kernel) (.new 12 8 (by decide +kernel) rfl rfl .nil)) (fun e_ => .inl ⟨rfl, V1.t (V1.fieldAddr fl_24_1 rfl) ⟨rfl, rfl⟩⟩) ?_
      refine Det.cons 22 (ins := [(26, _), (35, _)]) (.new 12 9 (by decide +kernel) rfl rfl (.new 21 0 (by decide +kernel) rfl rfl .nil)) (fun e_ => .inl ⟨rfl, V1.t (V1.load1 one_9 rfl (.own z_C (by rfl))) ⟨rfl, rfl⟩⟩) ?_
      refine Det.cons 23 (ins := [(26, _), (36, _)]) (v := .bool (named nm)) (.new 12 10 (by decide +kernel) rfl rfl (.new 22 0 (by decide +kernel) rfl rfl .nil)) (fun e_ => .inl ⟨rfl, ?_⟩) ?_
      · refine T1.call0 has_71 rfl (fun w hs => named_any nm w) (fun v_ hv => ?_)
        obtain rfl := hv
        exact ⟨rfl, rfl⟩
      refine Det.cons 24 (ins := [(26, _), (34, _), (37, _)]) (.new 12 11 (by decide +kernel) rfl rfl (.new 20 3 (by decide +kernel) rfl rfl (.new 23 0 (by decide +kernel) rfl rfl .nil))) (fun e_ => .inl ⟨rfl, V1.t (V1.neB ty_4 rfl rfl (r := false) (by rw [qn]; rfl)) ⟨rfl, rfl⟩⟩) ?_
      refine Det.cons 25 (ins := [(26, _), (38, _)]) (.new 12 12 (by decide +kernel) rfl rfl (.new 24 0 (by decide +kernel) rfl rfl .nil)) (fun e_ => .inl ⟨rfl, V1.t (V1.pick rfl z_D) ⟨rfl, rfl⟩⟩) ?_
      refine Det.cons 26 (ins := [(39, _)]) (.new 25 0 (by decide +kernel) rfl rfl .nil) (fun e_ => .inl ⟨rfl, V1.t (V1.move' z_D) ⟨rfl, rfl⟩⟩) ?_
      refine Det.cons 27 (ins := [(1, _), (40, _)]) (.old z_D (by decide +kernel) (.new 26 0 (by decide +kernel) rfl rfl .nil)) (fun e_ => .inl ⟨rfl, V1.t (V1.fieldAddr fl_24_0 rfl) ⟨rfl, rfl⟩⟩) ?_
      refine Det.cons 28 (ins := [(40, _), (41, _)]) (.new 26 1 (by decide +kernel) rfl rfl (.new 27 0 (by decide +kernel) rfl rfl .nil)) (fun e_ => .inl ⟨rfl, V1.t (V1.load1 one_3 rfl (.own z_C (by rfl))) ⟨rfl, rfl⟩⟩) ?_
      refine Det.cons 29 (ins := [(40, _), (42, _)]) (.new 26 2 (by decide +kernel) rfl rfl (.new 28 0 (by decide +kernel) rfl rfl .nil)) (fun e_ => .inl ⟨rfl, V1.t (V1.neI rfl rfl (decide_eq_true (by omega))) ⟨rfl, rfl⟩⟩) ?_
      refine Det.cons 30 (ins := [(40, _), (43, _)]) (.new 26 3 (by decide +kernel) rfl rfl (.new 29 0 (by decide +kernel) rfl rfl .nil)) (fun e_ => .inl ⟨rfl, V1.t (V1.move' z_D) ⟨rfl, rfl⟩⟩) ?_
      refine Det.cons 31 (ins := [(1, _), (44, _)]) (.old z_D (by decide +kernel) (.new 30 0 (by decide +kernel) rfl rfl .nil)) (fun e_ => .inl ⟨rfl, V1.t (V1.fieldAddr fl_24_0 rfl) ⟨rfl, rfl⟩⟩) ?_
      refine Det.cons 32 (ins := [(44, _), (45, _)]) (.new 30 1 (by decide +kernel) rfl rfl (.new 31 0 (by decide +kernel) rfl rfl .nil)) (fun e_ => .inl ⟨rfl, V1.t (V1.load1 one_3 rfl (.own z_C (by rfl))) ⟨rfl, rfl⟩⟩) ?_
      refine Det.cons 33 (ins := [(44, _), (46, _)]) (.new 30 2 (by decide +kernel) rfl rfl (.new 32 0 (by decide +kernel) rfl rfl .nil)) (fun e_ => .inl ⟨rfl, V1.t (V1.neI rfl rfl (decide_eq_true (by omega))) ⟨rfl, rfl⟩⟩) ?_
      refine Det.cons 34 (ins := [(40, _), (44, _), (47, _)]) (.new 26 7 (by decide +kernel) rfl rfl (.new 30 3 (by decide +kernel) rfl rfl (.new 33 0 (by decide +kernel) rfl rfl .nil))) (fun e_ => .inl ⟨rfl, V1.t (V1.pick rfl z_D) ⟨rfl, rfl⟩⟩) ?_
      refine Det.cons 35 (ins := [(40, _), (48, _)]) (.new 26 8 (by decide +kernel) rfl rfl (.new 34 0 (by decide +kernel) rfl rfl .nil)) (fun e_ => .inl ⟨rfl, V1.t (V1.move' z_D) ⟨rfl, rfl⟩⟩) ?_
      refine Det.cons 36 (ins := [(1, _), (49, _)]) (.old z_D (by decide +kernel) (.new 35 0 (by decide +kernel) rfl rfl .nil)) (fun e_ => .inl ⟨rfl, V1.t (V1.fieldAddr fl_24_1 rfl) ⟨rfl, rfl⟩⟩) ?_
      refine Det.cons 37 (ins := [(49, _), (50, _)]) (.new 35 1 (by decide +kernel) rfl rfl (.new 36 0 (by decide +kernel) rfl rfl .nil)) (fun e_ => .inl ⟨rfl, V1.t (V1.load1 one_9 rfl (.own z_C (by rfl))) ⟨rfl, rfl⟩⟩) ?_
      refine Det.cons 38 (ins := [(49, _), (51, _)]) (.new 35 2 (by decide +kernel) rfl rfl (.new 37 0 (by decide +kernel) rfl rfl .nil)) (fun e_ => .inl ⟨rfl, V1.t (V1.neS (a := bstr nm) (b := bstr []) (r := true) rfl rfl (by rw [decide_eq_true_iff]; exact fun h => q5 (bstr_inj h))) ⟨rfl, rfl⟩⟩) ?_
      refine Det.cons 39 (ins := [(40, _), (49, _), (52, _)]) (.new 26 12 (by decide +kernel) rfl rfl (.new 35 3 (by decide +kernel) rfl rfl (.new 38 0 (by decide +kernel) rfl rfl .nil))) (fun e_ => .inl ⟨rfl, V1.t (V1.pick rfl z_D) ⟨rfl, rfl⟩⟩) ?_
      refine Det.cons 40 (ins := [(40, _), (53, _)]) (.new 26 13 (by decide +kernel) rfl rfl (.new 39 0 (by decide +kernel) rfl rfl .nil)) (fun e_ => .inl ⟨rfl, V1.t (V1.pick rfl z_D) ⟨rfl, rfl⟩⟩) ?_
      refine Det.nil 41 (l := [(1, _), (54, _)]) (.old z_D (by decide +kernel) (.new 40 0 (by decide +kernel) rfl rfl .nil)) (fun e_ => ?_)
      refine T.cond_t rfl ?_
      refine T.seq ?_
      refine T.region ?_
      refine TL.cons rfl (V1.t (V1.assign' z_D) ?_)
      refine TL.nil ?_
      refine T.ret ?_
      exact ⟨_, G, _, .cons (.tmp z_D) .nil, z_A, rfl, congrArg (Value.int .i64) (by rw [if_neg (by rw [shp, qh, Bool.false_and]; decide)])⟩
    ·
      rintro _ e_ L ⟨rfl, qh⟩
      refine T.seq ?_
      refine T.seq ?_
      refine T.region ?_
      refine TL.cons rfl (V1.t (V1.fieldAddr fl_24_2 rfl) ?_)
      refine TL.cons rfl (V1.t (V1.load1 one_22 rfl (.own z_C (by rfl))) ?_)
      refine TL.cons rfl (V1.t (V1.lenSl ty_22 rfl) ?_)
      refine TL.cons rfl (V1.t (V1.move' z_D) ?_)
      refine TL.nil ?_
      refine T.block ?_
      refine T.loopL (σ := Nat) (l0 := [(56, _), (57, _)]) (fun x => [(58, .int .i64 (x : Nat))]) (fun i L => L = ⟨b1, 0, [.int .i64 k, .string (bstr nm), .slice a ts.length c], 3⟩ :: G ∧ i ≤ ts.length ∧ shpL ts = shpL (ts.drop i)) (fun i => ts.length - i) 0 (.cons rfl .nil) (.cons z_D (.cons z_D .nil)) z_A (⟨rfl, Nat.zero_le _, by rw [List.drop_zero]⟩) ?_
      rintro i e_ L ⟨rfl, hi, ho⟩
      refine T.seq ?_
      refine T.region ?_
      refine TL.cons rfl (T1.ltI_split rfl rfl (fun h5 => ?_) (fun h5 => ?_))
      ·
        obtain ⟨x, hx0⟩ : ∃ x, ts[i]? = some x := ⟨_, List.getElem?_eq_getElem (by omega)⟩
        have hcx := ih x (List.mem_of_getElem? hx0)
        have hdr := shpL_drop hx0
        obtain ⟨bx, ox, cs_, rfl, hx, hrdx⟩ := hr.term ht hx0 P
        obtain ⟨kx, nx, asx⟩ := x
        obtain ⟨ax, cx, vsx, rfl, hrx, hlx, htx⟩ := hx.inv
        try simp only at *
        refine TL.nil ?_
        refine T.seq ?_
        refine T.cond_t rfl ?_
        refine T.skip ?_
        refine T.seq ?_
        refine T.block ?_
        refine T.seq ?_
        refine T.region ?_
        refine TL.cons rfl (V1.t (V1.indexAddrS ty_22 sz_24 rfl rfl (by omega) (by omega)) ?_)
        refine TL.cons rfl (V1.t (V1.loadN (vs := [.int .i64 kx, .string (bstr nx), .slice ax asx.length cx]) one_24 sz_24 rfl (hrdx _ rfl rfl _ z_E) rfl) ?_)
        refine TL.cons rfl (T1.allocN 3 zr_24 rfl (fun b6 => ?_))
        refine TL.cons rfl (T1.storeN rfl rfl sz_24 (ones rfl) z_G (by rfl) (by rfl) ?_)
        refine TL.nil ?_
        refine T.seq ?_
        refine T.region ?_
        refine TL.cons rfl (V1.t (V1.loadN one_24 sz_24 rfl (RdN.whole z_C) (by rfl)) ?_)
        refine TL.cons rfl (T1.callV has_37 rfl rfl (hcx _ _ hx) z_E (fun v_ hv => ?_))
        obtain rfl := hv
        refine TL.cons rfl (V1.t (V1.assign' z_D) ?_)
        refine TL.nil ?_
        refine T.seq ?_
        refine T.region ?_
        refine TL.cons rfl (V1.t (V1.move' z_D) ?_)
        refine TL.cons rfl (T1.neI_split rfl rfl (fun h8 => ?_) (fun h8 => ?_))
        ·
          have hsx : shp (.mk kx nx asx) = false := by simpa using h8
          rw [hdr, hsx, Bool.false_and] at ho
          refine TL.nil ?_
          refine T.cond_t rfl ?_
          refine T.seq ?_
          refine T.region ?_
          refine TL.cons rfl (V1.t (V1.move' z_D) ?_)
          refine TL.cons rfl (V1.t (V1.assign' z_D) ?_)
          refine TL.nil ?_
          refine T.ret ?_
          exact ⟨_, G, _, .cons (.tmp z_D) .nil, z_A, rfl, congrArg (Value.int .i64) (by rw [hsx, if_neg (by decide), if_neg (by rw [shp, qh, ho]; decide)])⟩
        ·
          have hsx : shp (.mk kx nx asx) = true := by simpa using h8
          rw [hdr, hsx, Bool.true_and] at ho
          refine TL.nil ?_
          refine T.cond_f rfl ?_
          refine T.skip ?_
          refine T.region ?_
          refine TL.cons rfl (V1.t (V1.add (c := ((i + 1 : Nat) : Int)) rfl rfl (by rw [wrap_i64 _ (by omega) (by omega)]; omega)) ?_)
          refine TL.cons rfl (V1.t (V1.move' z_D) ?_)
          refine TL.nil ?_
          exact ⟨i + 1, _, _, (by simp only; omega), (.cons rfl .nil), (.cons rfl (.cons rfl .nil)), z_A, ⟨rfl, by omega, ho⟩⟩
      ·
        obtain rfl : i = ts.length := by omega
        rw [List.drop_length, shpL] at ho
        refine TL.nil ?_
        refine T.seq ?_
        refine T.cond_f rfl ?_
        refine T.exit ?_
        refine T.seq ?_
        refine T.region ?_
        refine TL.cons rfl (V1.t (V1.assign' z_D) ?_)
        refine TL.nil ?_
        refine T.ret ?_
        exact ⟨_, G, _, .cons (.tmp z_D) .nil, z_A, rfl, congrArg (Value.int .i64) (by rw [if_pos (by rw [shp, qh, ho]; rfl)])⟩
  ·
    refine TL.cons rfl (V1.t (V1.assign' z_D) ?_)
    refine TL.nil ?_
    refine T.cut (σ := Unit) (l0 := [(1, _)]) (fun x => []) (fun _ L => L = ⟨b1, 0, [.int .i64 k, .string (bstr nm), .slice a ts.length c], 3⟩ :: G ∧ headOk k nm ts.length = true) (.cons z_D .nil) ?_ ?_
    ·
      refine T.seq ?_
      refine T.drawDet' mixed (by decide +kernel) ?_
      refine Det.cons 0 (ins := [(1, _)]) (.old z_D (by decide +kernel) .nil) (fun e_ => .inl ⟨rfl, V1.t (V1.fieldAddr fl_24_2 rfl) ⟨rfl, rfl⟩⟩) ?_
      refine Det.cons 1 (ins := [(14, _)]) (.new 0 0 (by decide +kernel) rfl rfl .nil) (fun e_ => .inl ⟨rfl, V1.t (V1.load1 one_22 rfl (.own z_C (by rfl))) ⟨rfl, rfl⟩⟩) ?_
      refine Det.cons 2 (ins := [(15, _)]) (.new 1 0 (by decide +kernel) rfl rfl .nil) (fun e_ => .inl ⟨rfl, V1.t (V1.lenSl ty_22 rfl) ⟨rfl, rfl⟩⟩) ?_
      refine Det.cons 3 (ins := [(3, _)]) (.old z_D (by decide +kernel) .nil) (fun e_ => .inl ⟨rfl, V1.t (V1.move' z_D) ⟨rfl, rfl⟩⟩) ?_
      refine Det.cons 4 (ins := [(16, _), (17, _)]) (.new 2 1 (by decide +kernel) rfl rfl (.new 3 0 (by decide +kernel) rfl rfl .nil)) (fun e_ => .inl ⟨rfl, V1.t (V1.ltI rfl rfl (decide_eq_false (by omega))) ⟨rfl, rfl⟩⟩) ?_
      refine Det.cons 5 (ins := [(18, _)]) (.new 4 0 (by decide +kernel) rfl rfl .nil) (fun e_ => .inl ⟨rfl, V1.t (V1.move' z_D) ⟨rfl, rfl⟩⟩) ?_
      refine Det.cons 6 (ins := [(1, _), (19, _)]) (.old z_D (by decide +kernel) (.new 5 0 (by decide +kernel) rfl rfl .nil)) (fun e_ => .inl ⟨rfl, V1.t (V1.fieldAddr fl_24_2 rfl) ⟨rfl, rfl⟩⟩) ?_
      refine Det.cons 7 (ins := [(19, _), (20, _)]) (.new 5 1 (by decide +kernel) rfl rfl (.new 6 0 (by decide +kernel) rfl rfl .nil)) (fun e_ => .inl ⟨rfl, V1.t (V1.load1 one_22 rfl (.own z_C (by rfl))) ⟨rfl, rfl⟩⟩) ?_
      refine Det.cons 8 (ins := [(19, _), (21, _)]) (.new 5 2 (by decide +kernel) rfl rfl (.new 7 0 (by decide +kernel) rfl rfl .nil)) (fun e_ => .inl ⟨rfl, V1.t (V1.lenSl ty_22 rfl) ⟨rfl, rfl⟩⟩) ?_
      refine Det.cons 9 (ins := [(4, _), (19, _)]) (.old z_D (by decide +kernel) (.new 5 3 (by decide +kernel) rfl rfl .nil)) (fun e_ => .inl ⟨rfl, V1.t (V1.move' z_D) ⟨rfl, rfl⟩⟩) ?_
      refine Det.cons 10 (ins := [(19, _), (22, _), (23, _)]) (.new 5 4 (by decide +kernel) rfl rfl (.new 8 1 (by decide +kernel) rfl rfl (.new 9 0 (by decide +kernel) rfl rfl .nil))) (fun e_ => .inl ⟨rfl, V1.t (V1.gtI rfl rfl (decide_eq_false (by omega))) ⟨rfl, rfl⟩⟩) ?_
      refine Det.cons 11 (ins := [(19, _), (24, _)]) (.new 5 5 (by decide +kernel) rfl rfl (.new 10 0 (by decide +kernel) rfl rfl .nil)) (fun e_ => .inl ⟨rfl, V1.t (V1.pick rfl z_D) ⟨rfl, rfl⟩⟩) ?_
      refine Det.cons 12 (ins := [(25, _)]) (.new 11 0 (by decide +kernel) rfl rfl .nil) (fun e_ => .inl ⟨rfl, V1.t (V1.move' z_D) ⟨rfl, rfl⟩⟩) ?_
      refine Det.cons 13 (ins := [(1, _), (26, _)]) (.old z_D (by decide +kernel) (.new 12 0 (by decide +kernel) rfl rfl .nil)) (fun e_ => .inl ⟨rfl, V1.t (V1.fieldAddr fl_24_0 rfl) ⟨rfl, rfl⟩⟩) ?_
      refine Det.cons 14 (ins := [(26, _), (27, _)]) (.new 12 1 (by decide +kernel) rfl rfl (.new 13 0 (by decide +kernel) rfl rfl .nil)) (fun e_ => .inl ⟨rfl, V1.t (V1.load1 one_3 rfl (.own z_C (by rfl))) ⟨rfl, rfl⟩⟩) ?_
      refine Det.cons 15 (ins := [(26, _), (28, _)]) (.new 12 2 (by decide +kernel) rfl rfl (.new 14 0 (by decide +kernel) rfl rfl .nil)) (fun e_ => .inl ⟨rfl, V1.t (V1.eqI rfl rfl (decide_eq_false (by omega))) ⟨rfl, rfl⟩⟩) ?_
      refine Det.cons 16 (ins := [(26, _), (29, _)]) (.new 12 3 (by decide +kernel) rfl rfl (.new 15 0 (by decide +kernel) rfl rfl .nil)) (fun e_ => .inl ⟨rfl, V1.t (V1.move' z_D) ⟨rfl, rfl⟩⟩) ?_
      refine Det.cons 17 (ins := [(1, _), (30, _)]) (.old z_D (by decide +kernel) (.new 16 0 (by decide +kernel) rfl rfl .nil)) (fun e_ => .inl ⟨rfl, V1.t (V1.fieldAddr fl_24_0 rfl) ⟨rfl, rfl⟩⟩) ?_
      refine Det.cons 18 (ins := [(30, _), (31, _)]) (.new 16 1 (by decide +kernel) rfl rfl (.new 17 0 (by decide +kernel) rfl rfl .nil)) (fun e_ => .inl ⟨rfl, V1.t (V1.load1 one_3 rfl (.own z_C (by rfl))) ⟨rfl, rfl⟩⟩) ?_
      refine Det.cons 19 (ins := [(30, _), (32, _)]) (.new 16 2 (by decide +kernel) rfl rfl (.new 18 0 (by decide +kernel) rfl rfl .nil)) (fun e_ => .inl ⟨rfl, V1.t (V1.eqI rfl rfl (decide_eq_false (by omega))) ⟨rfl, rfl⟩⟩) ?_
      refine Det.cons 20 (ins := [(26, _), (30, _), (33, _)]) (.new 12 7 (by decide +kernel) rfl rfl (.new 16 3 (by decide +kernel) rfl rfl (.new 19 0 (by decide +kernel) rfl rfl .nil))) (fun e_ => .inl ⟨rfl, V1.t (V1.pick rfl z_D) ⟨rfl, rfl⟩⟩) ?_
      refine Det.cons 21 (ins := [(1, _), (26, _)]) (.old z_D (by decide +kernel) (.new 12 8 (by decide +kernel) rfl rfl .nil)) (fun e_ => .inl ⟨rfl, V1.t (V1.fieldAddr fl_24_1 rfl) ⟨rfl, rfl⟩⟩) ?_
      refine Det.cons 22 (ins := [(26, _), (35, _)]) (.new 12 9 (by decide +kernel) rfl rfl (.new 21 0 (by decide +kernel) rfl rfl .nil)) (fun e_ => .inl ⟨rfl, V1.t (V1.load1 one_9 rfl (.own z_C (by rfl))) ⟨rfl, rfl⟩⟩) ?_
      refine Det.cons 23 (ins := [(26, _), (36, _)]) (v := .bool (named nm)) (.new 12 10 (by decide +kernel) rfl rfl (.new 22 0 (by decide +kernel) rfl rfl .nil)) (fun e_ => .inl ⟨rfl, ?_⟩) ?_
      · refine T1.call0 has_71 rfl (fun w hs => named_any nm w) (fun v_ hv => ?_)
        obtain rfl := hv
        exact ⟨rfl, rfl⟩
      refine Det.cons 24 (ins := [(26, _), (34, _), (37, _)]) (.new 12 11 (by decide +kernel) rfl rfl (.new 20 3 (by decide +kernel) rfl rfl (.new 23 0 (by decide +kernel) rfl rfl .nil))) (fun e_ => .inl ⟨rfl, V1.t (V1.neB ty_4 rfl rfl (r := false) (by rw [qn]; rfl)) ⟨rfl, rfl⟩⟩) ?_
      refine Det.cons 25 (ins := [(26, _), (38, _)]) (.new 12 12 (by decide +kernel) rfl rfl (.new 24 0 (by decide +kernel) rfl rfl .nil)) (fun e_ => .inl ⟨rfl, V1.t (V1.pick rfl z_D) ⟨rfl, rfl⟩⟩) ?_
      refine Det.cons 26 (ins := [(39, _)]) (.new 25 0 (by decide +kernel) rfl rfl .nil) (fun e_ => .inl ⟨rfl, V1.t (V1.move' z_D) ⟨rfl, rfl⟩⟩) ?_
      refine Det.cons 27 (ins := [(1, _), (40, _)]) (.old z_D (by decide +kernel) (.new 26 0 (by decide +kernel) rfl rfl .nil)) (fun e_ => .inl ⟨rfl, V1.t (V1.fieldAddr fl_24_0 rfl) ⟨rfl, rfl⟩⟩) ?_
      refine Det.cons 28 (ins := [(40, _), (41, _)]) (.new 26 1 (by decide +kernel) rfl rfl (.new 27 0 (by decide +kernel) rfl rfl .nil)) (fun e_ => .inl ⟨rfl, V1.t (V1.load1 one_3 rfl (.own z_C (by rfl))) ⟨rfl, rfl⟩⟩) ?_
      refine Det.cons 29 (ins := [(40, _), (42, _)]) (.new 26 2 (by decide +kernel) rfl rfl (.new 28 0 (by decide +kernel) rfl rfl .nil)) (fun e_ => .inl ⟨rfl, V1.t (V1.neI rfl rfl (decide_eq_true (by omega))) ⟨rfl, rfl⟩⟩) ?_
      refine Det.cons 30 (ins := [(40, _), (43, _)]) (.new 26 3 (by decide +kernel) rfl rfl (.new 29 0 (by decide +kernel) rfl rfl .nil)) (fun e_ => .inl ⟨rfl, V1.t (V1.move' z_D) ⟨rfl, rfl⟩⟩) ?_
      refine Det.cons 31 (ins := [(1, _), (44, _)]) (.old z_D (by decide +kernel) (.new 30 0 (by decide +kernel) rfl rfl .nil)) (fun e_ => .inl ⟨rfl, V1.t (V1.fieldAddr fl_24_0 rfl) ⟨rfl, rfl⟩⟩) ?_
      refine Det.cons 32 (ins := [(44, _), (45, _)]) (.new 30 1 (by decide +kernel) rfl rfl (.new 31 0 (by decide +kernel) rfl rfl .nil)) (fun e_ => .inl ⟨rfl, V1.t (V1.load1 one_3 rfl (.own z_C (by rfl))) ⟨rfl, rfl⟩⟩) ?_
      refine Det.cons 33 (ins := [(44, _), (46, _)]) (.new 30 2 (by decide +kernel) rfl rfl (.new 32 0 (by decide +kernel) rfl rfl .nil)) (fun e_ => .inl ⟨rfl, V1.t (V1.neI rfl rfl (decide_eq_true (by omega))) ⟨rfl, rfl⟩⟩) ?_
      refine Det.cons 34 (ins := [(40, _), (44, _), (47, _)]) (.new 26 7 (by decide +kernel) rfl rfl (.new 30 3 (by decide +kernel) rfl rfl (.new 33 0 (by decide +kernel) rfl rfl .nil))) (fun e_ => .inl ⟨rfl, V1.t (V1.pick rfl z_D) ⟨rfl, rfl⟩⟩) ?_
      refine Det.cons 35 (ins := [(40, _), (48, _)]) (.new 26 8 (by decide +kernel) rfl rfl (.new 34 0 (by decide +kernel) rfl rfl .nil)) (fun e_ => .inl ⟨rfl, V1.t (V1.move' z_D) ⟨rfl, rfl⟩⟩) ?_
      refine Det.cons 36 (ins := [(1, _), (49, _)]) (.old z_D (by decide +kernel) (.new 35 0 (by decide +kernel) rfl rfl .nil)) (fun e_ => .inl ⟨rfl, V1.t (V1.fieldAddr fl_24_1 rfl) ⟨rfl, rfl⟩⟩) ?_
      refine Det.cons 37 (ins := [(49, _), (50, _)]) (.new 35 1 (by decide +kernel) rfl rfl (.new 36 0 (by decide +kernel) rfl rfl .nil)) (fun e_ => .inl ⟨rfl, V1.t (V1.load1 one_9 rfl (.own z_C (by rfl))) ⟨rfl, rfl⟩⟩) ?_
      refine Det.cons 38 (ins := [(49, _), (51, _)]) (.new 35 2 (by decide +kernel) rfl rfl (.new 37 0 (by decide +kernel) rfl rfl .nil)) (fun e_ => .inl ⟨rfl, V1.t (V1.neS (a := bstr nm) (b := bstr []) (r := false) rfl rfl (by subst q5; simp)) ⟨rfl, rfl⟩⟩) ?_
      refine Det.cons 39 (ins := [(40, _), (49, _), (52, _)]) (.new 26 12 (by decide +kernel) rfl rfl (.new 35 3 (by decide +kernel) rfl rfl (.new 38 0 (by decide +kernel) rfl rfl .nil))) (fun e_ => .inl ⟨rfl, V1.t (V1.pick rfl z_D) ⟨rfl, rfl⟩⟩) ?_
      refine Det.cons 40 (ins := [(40, _), (53, _)]) (.new 26 13 (by decide +kernel) rfl rfl (.new 39 0 (by decide +kernel) rfl rfl .nil)) (fun e_ => .inl ⟨rfl, V1.t (V1.pick rfl z_D) ⟨rfl, rfl⟩⟩) ?_
      refine Det.nil 41 (l := [(1, _), (54, _)]) (.old z_D (by decide +kernel) (.new 40 0 (by decide +kernel) rfl rfl .nil)) (fun e_ => ?_)
      refine T.cond_f rfl ?_
      refine T.skip ?_
      exact ⟨(), _, _, trivial, .nil, (.cons rfl .nil), z_A, ⟨rfl, qh⟩⟩
    ·
      rintro _ e_ L ⟨rfl, qh⟩
      refine T.seq ?_
      refine T.seq ?_
      refine T.region ?_
      refine TL.cons rfl (V1.t (V1.fieldAddr fl_24_2 rfl) ?_)
      refine TL.cons rfl (V1.t (V1.load1 one_22 rfl (.own z_C (by rfl))) ?_)
      refine TL.cons rfl (V1.t (V1.lenSl ty_22 rfl) ?_)
      refine TL.cons rfl (V1.t (V1.move' z_D) ?_)
      refine TL.nil ?_
      refine T.block ?_
      refine T.loopL (σ := Nat) (l0 := [(56, _), (57, _)]) (fun x => [(58, .int .i64 (x : Nat))]) (fun i L => L = ⟨b1, 0, [.int .i64 k, .string (bstr nm), .slice a ts.length c], 3⟩ :: G ∧ i ≤ ts.length ∧ shpL ts = shpL (ts.drop i)) (fun i => ts.length - i) 0 (.cons rfl .nil) (.cons z_D (.cons z_D .nil)) z_A (⟨rfl, Nat.zero_le _, by rw [List.drop_zero]⟩) ?_
      rintro i e_ L ⟨rfl, hi, ho⟩
      refine T.seq ?_
      refine T.region ?_
      refine TL.cons rfl (T1.ltI_split rfl rfl (fun h5 => ?_) (fun h5 => ?_))
      ·
        obtain ⟨x, hx0⟩ : ∃ x, ts[i]? = some x := ⟨_, List.getElem?_eq_getElem (by omega)⟩
        have hcx := ih x (List.mem_of_getElem? hx0)
        have hdr := shpL_drop hx0
        obtain ⟨bx, ox, cs_, rfl, hx, hrdx⟩ := hr.term ht hx0 P
        obtain ⟨kx, nx, asx⟩ := x
        obtain ⟨ax, cx, vsx, rfl, hrx, hlx, htx⟩ := hx.inv
        try simp only at *
        refine TL.nil ?_
        refine T.seq ?_
        refine T.cond_t rfl ?_
        refine T.skip ?_
        refine T.seq ?_
        refine T.block ?_
        refine T.seq ?_
        refine T.region ?_
        refine TL.cons rfl (V1.t (V1.indexAddrS ty_22 sz_24 rfl rfl (by omega) (by omega)) ?_)
        refine TL.cons rfl (V1.t (V1.loadN (vs := [.int .i64 kx, .string (bstr nx), .slice ax asx.length cx]) one_24 sz_24 rfl (hrdx _ rfl rfl _ z_E) rfl) ?_)
        refine TL.cons rfl (T1.allocN 3 zr_24 rfl (fun b6 => ?_))
        refine TL.cons rfl (T1.storeN rfl rfl sz_24 (ones rfl) z_G (by rfl) (by rfl) ?_)
        refine TL.nil ?_
        refine T.seq ?_
        refine T.region ?_
        refine TL.cons rfl (V1.t (V1.loadN one_24 sz_24 rfl (RdN.whole z_C) (by rfl)) ?_)
        refine TL.cons rfl (T1.callV has_37 rfl rfl (hcx _ _ hx) z_E (fun v_ hv => ?_))
        obtain rfl := hv
        refine TL.cons rfl (V1.t (V1.assign' z_D) ?_)
        refine TL.nil ?_
        refine T.seq ?_
        refine T.region ?_
        refine TL.cons rfl (V1.t (V1.move' z_D) ?_)
        refine TL.cons rfl (T1.neI_split rfl rfl (fun h8 => ?_) (fun h8 => ?_))
        ·
          have hsx : shp (.mk kx nx asx) = false := by simpa using h8
          rw [hdr, hsx, Bool.false_and] at ho
          refine TL.nil ?_
          refine T.cond_t rfl ?_
          refine T.seq ?_
          refine T.region ?_
          refine TL.cons rfl (V1.t (V1.move' z_D) ?_)
          refine TL.cons rfl (V1.t (V1.assign' z_D) ?_)
          refine TL.nil ?_
          refine T.ret ?_
          exact ⟨_, G, _, .cons (.tmp z_D) .nil, z_A, rfl, congrArg (Value.int .i64) (by rw [hsx, if_neg (by decide), if_neg (by rw [shp, qh, ho]; decide)])⟩
        ·
          have hsx : shp (.mk kx nx asx) = true := by simpa using h8
          rw [hdr, hsx, Bool.true_and] at ho
          refine TL.nil ?_
          refine T.cond_f rfl ?_
          refine T.skip ?_
          refine T.region ?_
          refine TL.cons rfl (V1.t (V1.add (c := ((i + 1 : Nat) : Int)) rfl rfl (by rw [wrap_i64 _ (by omega) (by omega)]; omega)) ?_)
          refine TL.cons rfl (V1.t (V1.move' z_D) ?_)
          refine TL.nil ?_
          exact ⟨i + 1, _, _, (by simp only; omega), (.cons rfl .nil), (.cons rfl (.cons rfl .nil)), z_A, ⟨rfl, by omega, ho⟩⟩
      ·
        obtain rfl : i = ts.length := by omega
        rw [List.drop_length, shpL] at ho
        refine TL.nil ?_
        refine T.seq ?_
        refine T.cond_f rfl ?_
        refine T.exit ?_
        refine T.seq ?_
        refine T.region ?_
        refine TL.cons rfl (V1.t (V1.assign' z_D) ?_)
        refine TL.nil ?_
        refine T.ret ?_
        exact ⟨_, G, _, .cons (.tmp z_D) .nil, z_A, rfl, congrArg (Value.int .i64) (by rw [if_pos (by rw [shp, qh, ho]; rfl)])⟩

theorem CheckA_any (w0 : World) (x : Tm) : CheckAt w0 x := by
  induction x using Tm.ind with
  | h k n xs ih => exact fun Ps cx hx => Check_step w0 Ps ih cx hx
set_option maxRecDepth 100000 in
theorem Check_any (w0 : World) (Ps : List Blk) (t : Tm) (cx : List Value) (hx : TmR w0 Ps t cx) : FnV P 13 [.agg cx.toArray] w0 Ps (fun v => v = .int .i64 (chk t)) := by
  obtain ⟨k, nm, ts⟩ := t
  obtain ⟨a, c, vs, rfl, hr, hl, ht⟩ := hx.inv
  refine FnV.of 18 [.tmp 2] Go.Proofs.Tryz.func13 rfl rfl rfl rfl (fun G hG => ?_)
  refine T.seq ?_
  refine T.region ?_
  refine TL.cons rfl (T1.boxN 3 rfl rfl (fun b1 => ?_))
  refine TL.cons rfl (V1.t (V1.assign' z_D) ?_)
  refine TL.nil ?_
  refine T.seq ?_
  refine T.seq ?_
  refine T.region ?_
  refine TL.cons rfl (V1.t (V1.loadN one_24 sz_24 rfl (RdN.whole z_C) (by rfl)) ?_)
  refine TL.cons rfl (T1.callV has_36 rfl rfl (Meas_any w0 (.mk k nm ts) 0 Ps _ (by decide) hx) z_E (fun v_ hv => ?_))
  obtain rfl := hv
  have hsp := (meas_spec (.mk k nm ts) 0).1
  rw [Nat.zero_add] at hsp
  refine TL.cons rfl (V1.t (V1.move' z_D) ?_)
  refine TL.cons rfl (V1.t (V1.extract rfl (by rfl)) ?_)
  refine TL.cons rfl (V1.t (V1.extract rfl (by rfl)) ?_)
  refine TL.cons rfl (V1.t (V1.assign' z_D) ?_)
  refine TL.cons rfl (V1.t (V1.assign' z_D) ?_)
  refine TL.nil ?_
  refine T.seq ?_
  refine T.region ?_
  refine TL.cons rfl (V1.t (V1.move' z_D) ?_)
  refine TL.cons rfl (T1.gtI_split rfl rfl (fun h2 => ?_) (fun h2 => ?_))
  ·
    refine TL.cons rfl (V1.t (V1.move' z_D) ?_)
    refine TL.no rfl ?_
    refine TL.no rfl ?_
    refine TL.cons rfl (V1.t (V1.pick rfl z_D) ?_)
    refine TL.nil ?_
    refine T.cond_t rfl ?_
    refine T.seq ?_
    refine T.live (l := []) .nil (fun e_ => ?_)
    refine T.region ?_
    refine TL.cons rfl (V1.t (V1.assign' z_D) ?_)
    refine TL.nil ?_
    refine T.ret ?_
    exact ⟨_, G, _, .cons (.tmp z_D) .nil, z_A, rfl, congrArg (Value.int .i64) (by unfold chk; exact (if_pos (by omega)).symm)⟩
  ·
    refine TL.cons rfl (V1.t (V1.move' z_D) ?_)
    refine TL.cons rfl (V1.t (V1.move' z_D) ?_)
    refine TL.cons rfl (T1.gtI_split rfl rfl (fun h3 => ?_) (fun h3 => ?_))
    ·
      refine TL.cons rfl (V1.t (V1.pick rfl z_D) ?_)
      refine TL.nil ?_
      refine T.cond_t rfl ?_
      refine T.seq ?_
      refine T.live (l := []) .nil (fun e_ => ?_)
      refine T.region ?_
      refine TL.cons rfl (V1.t (V1.assign' z_D) ?_)
      refine TL.nil ?_
      refine T.ret ?_
      exact ⟨_, G, _, .cons (.tmp z_D) .nil, z_A, rfl, congrArg (Value.int .i64) (by unfold chk; exact (if_pos (by omega)).symm)⟩
    ·
      refine TL.cons rfl (V1.t (V1.pick rfl z_D) ?_)
      refine TL.nil ?_
      refine T.cond_f rfl ?_
      refine T.skip ?_
      refine T.seq ?_
      refine T.live (l := [(1, _)]) (.cons z_D .nil) (fun e_ => ?_)
      refine T.region ?_
      refine TL.cons rfl (V1.t (V1.loadN one_24 sz_24 rfl (RdN.whole z_C) (by rfl)) ?_)
      refine TL.cons rfl (T1.callV has_37 rfl rfl (CheckA_any w0 (.mk k nm ts) Ps _ hx) z_E (fun v_ hv => ?_))
      obtain rfl := hv
      refine TL.cons rfl (V1.t (V1.assign' z_D) ?_)
      refine TL.nil ?_
      refine T.ret ?_
      exact ⟨_, G, _, .cons (.tmp z_D) .nil, z_A, rfl, congrArg (Value.int .i64) (by unfold chk; exact (if_neg (by omega)).symm)⟩

end Go.Proofs.YtlpkcbkflfbclaaGreatDoor.S
