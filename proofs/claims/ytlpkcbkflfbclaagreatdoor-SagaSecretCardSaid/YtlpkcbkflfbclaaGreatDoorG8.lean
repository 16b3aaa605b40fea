/- Of what was told that which can be had is struck out. -/
import Derived.Test.YtlpkcbkflfbclaaGreatDoorG7
import Derived.Test.YtlpkcbkflfbclaaGreatDoorT13
namespace Go.Proofs.YtlpkcbkflfbclaaGreatDoor.S
open Go.RowKit

abbrev TdE := Td × List Value
def tdC (es : List TdE) : List Value := (es.map (·.2)).flatten
def TdA (w0 : World) (Ps : List Blk) (es : List TdE) : Prop := ∀ e ∈ es, TdR w0 Ps e.1 e.2
section
variable {w0 : World} {Ps : List Blk}
theorem TdsR.items : ∀ {ts : List Td} {vs : List Value}, TdsR w0 Ps ts vs → ∃ es : List TdE, es.map (·.1) = ts ∧ tdC es = vs ∧ TdA w0 Ps es
  | [], vs, h => ⟨[], rfl, (show vs = [] from h).symm, fun e h => by cases h⟩
  | t :: ts, vs, h => by
    obtain ⟨cs, rest, rfl, h1, h2⟩ := h
    obtain ⟨es, rfl, rfl, h3⟩ := TdsR.items h2
    exact ⟨(t, cs) :: es, rfl, rfl, fun e he => by rcases List.mem_cons.1 he with rfl | he; exact h1; exact h3 e he⟩
theorem TdsR.ofItems : ∀ {es : List TdE}, TdA w0 Ps es → TdsR w0 Ps (es.map (·.1)) (tdC es)
  | [], _ => rfl
  | e :: es, h => ⟨e.2, tdC es, rfl, h e (by simp), TdsR.ofItems fun x hx => h x (by simp [hx])⟩
theorem tdC_all {es : List TdE} (h : TdA w0 Ps es) : ∀ x ∈ es.map (·.2), x.length = 6 := fun x hx => by obtain ⟨e, he, rfl⟩ := List.mem_map.1 hx; exact (h e he).len.1
theorem tdC_len {es : List TdE} (h : TdA w0 Ps es) : (tdC es).length = es.length * 6 := by have := (TdsR.ofItems h).of.1; rwa [List.length_map] at this
theorem tdC_at {es : List TdE} (h : TdA w0 Ps es) {i : Nat} {e : TdE} (he : es[i]? = some e) : ((tdC es).drop (i * 6)).take 6 = e.2 :=
  flatten_drop _ i (tdC_all h) e.2 (by rw [List.getElem?_map, he]; rfl)
theorem tdC_rd {C : Ctx} {L : List Blk} {b o i : Nat} {es : List TdE} {e : TdE} {xs : List Value} (h : TdA w0 Ps es) (he : es[i]? = some e) (hx : e.2 = xs) (hr : RdN C L ⟨b, o, none⟩ (tdC es)) : RdN C L ⟨b, o + i * 6, none⟩ xs := by
  have h_ := (hr.elem (k := 6) (n := es.length) (tdC_len h) (List.getElem?_eq_some_iff.1 he).1).1
  rw [tdC_at h he, hx] at h_; exact h_
theorem tdC_take {es : List TdE} (h : TdA w0 Ps es) (i : Nat) (hi : i ≤ es.length) : (tdC es).take (i * 6) = tdC (es.take i) := by
  have h1 : tdC es = tdC (es.take i) ++ tdC (es.drop i) := by unfold tdC; rw [← List.flatten_append, ← List.map_append, List.take_append_drop]
  have h2 : (tdC (es.take i)).length = i * 6 := by rw [tdC_len (fun e he => h e (List.mem_of_mem_take he)), List.length_take, Nat.min_eq_left hi]
  rw [h1, ← h2, List.take_left]
theorem tdC_set {es : List TdE} (h : TdA w0 Ps es) {i : Nat} (hi : i < es.length) {e : TdE} (he : e.2.length = 6) : putN (tdC es) (i * 6) e.2 = tdC (es.set i e) := by
  have h1 : tdC es = tdC (es.take i) ++ ((es[i]).2 ++ tdC (es.drop (i + 1))) := by
    unfold tdC
    conv => lhs; rw [← List.take_append_drop i es, List.drop_eq_getElem_cons hi]
    rw [List.map_append, List.flatten_append, List.map_cons, List.flatten_cons]
  have h2 : (tdC (es.take i)).length = i * 6 := by rw [tdC_len (fun e he => h e (List.mem_of_mem_take he)), List.length_take, Nat.min_eq_left (by omega)]
  have h3 : (es[i]).2.length = 6 := (h _ (List.getElem_mem hi)).len.1
  have h4 : tdC (es.set i e) = tdC (es.take i) ++ (e.2 ++ tdC (es.drop (i + 1))) := by
    unfold tdC
    rw [List.set_eq_take_append_cons_drop, if_pos hi, List.map_append, List.flatten_append, List.map_cons, List.flatten_cons]
  rw [h4]
  unfold putN
  rw [h1, ← h2, List.take_left, he, List.append_assoc]
  congr 1
  rw [← List.drop_drop, List.drop_left, ← h3, List.drop_left]
theorem TdA.set {es : List TdE} (h : TdA w0 Ps es) {i : Nat} {e : TdE} (he : TdR w0 Ps e.1 e.2) : TdA w0 Ps (es.set i e) := fun x hx => by
  rcases List.mem_or_eq_of_mem_set hx with hx | rfl
  · exact h x hx
  · exact he
end
def keepE (q : Td → Bool) (es : List TdE) : List TdE := es.filter fun e => !q e.1
theorem keep_take {q : Td → Bool} {es : List TdE} {j : Nat} {e : TdE} (h : es[j]? = some e) : keepE q (es.take (j + 1)) = keepE q (es.take j) ++ if q e.1 then [] else [e] := by
  unfold keepE
  rw [List.take_add_one, h, List.filter_append]
  congr 1
  cases hq : q e.1 <;> simp [hq]
theorem keep_none {q : Td → Bool} {es : List TdE} (h : ∀ e ∈ es, q e.1 = false) : keepE q es = es := by
  unfold keepE
  rw [List.filter_eq_self]
  intro e he; rw [h e he]; rfl
theorem takeE_set {es : List TdE} {i : Nat} {e : TdE} (h : i < es.length) : (es.set i e).take (i + 1) = es.take i ++ [e] := by
  rw [List.take_add_one, List.getElem?_set_self h, List.take_set_of_le (Nat.le_refl _)]; rfl
theorem takeE_one {es : List TdE} {i : Nat} {e : TdE} (h : es[i]? = some e) : es.take (i + 1) = es.take i ++ [e] := by rw [List.take_add_one, h]; rfl
theorem T1.storeP {C : Ctx} {K : Env → List Blk → Prop} {e : Env} {L : List Blk} {dst : Option Tmp} {ty : TypeId} {pos : String} {after : Array Edge} {guard : Option (Nat × Bool)} {t : TypeId} {x y : Operand} {b o off size k : Nat} {tg : Option TypeId} {cells cells' vs : List Value} {L' : List Blk} (hp : ev C.n e x = .pointer (some ⟨b, o, none⟩)) (hv : ev C.n e y = .agg vs.toArray)
    (hk : SizeIs C.P t k) (hlk : vs.length = k) (h1 : off ≤ o) (h2 : o + vs.length ≤ off + cells.length) (hone : ∀ u ∈ vs, one u = true) (hset : putN cells (o - off) vs = cells')
    (hu : Sub L [⟨⟨b, tg⟩, off, cells, size⟩] L' [⟨⟨b, tg⟩, off, cells', size⟩]) (kk : K (putO e dst undef) L') : T1 C ⟨dst, .store t x y, ty, pos, after, guard⟩ K e L := by
  subst hset
  exact T1.store (v := .agg vs.toArray) hp hv (by subst hlk; simpa [Value.cells] using hk) h1 (by simpa [Value.cells] using h2) (by simpa [Value.cells] using hone) (by simpa [Value.cells] using hu) kk

set_option maxRecDepth 100000 in
theorem IndexT_us (w0 : World) (Ps : List Blk) {es : List TdE} (hA : TdA w0 Ps es) {a : Option Addr} {c : Nat} (hr : RowR w0 Ps 6 (.slice a es.length c) es.length (tdC es)) (hn : es.length ≤ 1000) (q : Td → Bool) (cv : Value) (hcl : ∀ t ∈ es.map (·.1), ∀ Qs cs, Inc Ps Qs → TdR w0 Qs t cs → FnV P 59 [.agg cs.toArray, cv] w0 Qs (fun v => v = .bool (q t))) : FnV P 86 [.slice a es.length c, .func (.func 59) #[] #[cv]] w0 Ps (fun v => (∃ (i : Nat) (x : TdE), v = .int .i64 i ∧ es[i]? = some x ∧ q x.1 = true ∧ ∀ y ∈ es.take i, q y.1 = false) ∨ (v = .int .i64 (-1) ∧ ∀ y ∈ es, q y.1 = false)) := by
  refine FnV.of 19 [.tmp 4] Go.Proofs.Tryz.func86 rfl rfl rfl rfl (fun G hG => ?_)
  refine T.seq ?_
  refine T.region ?_
  refine TL.cons rfl (V1.t (V1.assign' z_C) ?_)
  refine TL.nil ?_
  refine T.seq ?_
  refine T.seq ?_
  refine T.region ?_
  refine TL.cons rfl (V1.t (V1.move' z_C) ?_)
  refine TL.cons rfl (V1.t (V1.lenSl ty_43 rfl) ?_)
  refine TL.cons rfl (V1.t (V1.move' z_C) ?_)
  refine TL.nil ?_
  refine T.block ?_
  refine T.loopL (σ := Nat) (l0 := [(0, _), (1, _), (7, _)]) (fun x => [(8, .int .i64 (x : Nat))]) (fun i L => L = G ∧ i ≤ es.length ∧ ∀ y ∈ es.take i, q y.1 = false) (fun i => es.length - i) 0 (.cons rfl .nil) (.cons z_C (.cons z_C (.cons z_C .nil))) z_A (⟨rfl, Nat.zero_le _, by simp⟩) ?_
  rintro i e_ L ⟨hL, hi, ho⟩
  obtain rfl := hL.symm
  refine T.seq ?_
  refine T.region ?_
  refine TL.cons rfl (T1.ltI_split rfl rfl (fun h2 => ?_) (fun h2 => ?_))
  ·
    obtain ⟨x, hx0⟩ : ∃ x, es[i]? = some x := ⟨_, List.getElem?_eq_getElem (by omega)⟩
    have hx := hA x (List.mem_of_getElem? hx0)
    obtain ⟨b, o, rfl, hrd⟩ := hr.at (by omega) P
    refine TL.nil ?_
    refine T.seq ?_
    refine T.cond_t rfl ?_
    refine T.skip ?_
    refine T.seq ?_
    refine T.block ?_
    refine T.seq ?_
    refine T.region ?_
    refine TL.cons rfl (V1.t (V1.move' z_C) ?_)
    refine TL.cons rfl (V1.t (V1.assign' z_C) ?_)
    refine TL.nil ?_
    refine T.seq ?_
    refine T.region ?_
    refine TL.cons rfl (V1.t (V1.move' z_C) ?_)
    refine TL.cons rfl (V1.t (V1.move' z_C) ?_)
    refine TL.cons rfl (V1.t (V1.move' z_C) ?_)
    refine TL.cons rfl (V1.t (V1.indexAddrS ty_43 sz_55 rfl rfl (by omega) (by omega)) ?_)
    refine TL.cons rfl (V1.t (V1.loadN (vs := x.2) one_55 sz_55 rfl (tdC_rd hA hx0 rfl (hrd _ rfl rfl _ z_B)) hx.len.1) ?_)
    refine TL.cons rfl (T1.callGV (first := #[]) (cap := #[cv]) rfl has_59 rfl rfl (hcl x.1 (List.mem_map_of_mem (List.mem_of_getElem? hx0)) Ps x.2 Inc.refl hx) z_B (fun v_ hv => ?_))
    obtain rfl := hv
    rcases Bool.eq_false_or_eq_true (q x.1) with hq | hq <;> rw [hq]
    ·
      refine TL.nil ?_
      refine T.cond_t rfl ?_
      refine T.seq ?_
      refine T.region ?_
      refine TL.cons rfl (V1.t (V1.move' z_C) ?_)
      refine TL.cons rfl (V1.t (V1.assign' z_C) ?_)
      refine TL.nil ?_
      refine T.ret ?_
      exact ⟨_, G, _, .cons (.tmp z_C) .nil, z_A, rfl, .inl ⟨i, x, rfl, hx0, hq, ho⟩⟩
    ·
      refine TL.nil ?_
      refine T.cond_f rfl ?_
      refine T.skip ?_
      refine T.region ?_
      refine TL.cons rfl (V1.t (V1.add (c := ((i + 1 : Nat) : Int)) rfl rfl (by rw [wrap_i64 _ (by omega) (by omega)]; omega)) ?_)
      refine TL.cons rfl (V1.t (V1.move' z_C) ?_)
      refine TL.nil ?_
      exact ⟨i + 1, G, _, (by simp only; omega), (.cons rfl .nil), (.cons rfl (.cons rfl (.cons rfl .nil))), z_A, ⟨rfl, by omega, by rw [takeE_one hx0]; intro y hy; rcases List.mem_append.1 hy with hy | hy; exact ho y hy; rw [List.mem_singleton] at hy; subst hy; exact hq⟩⟩
  ·
    obtain rfl : i = es.length := by omega
    rw [List.take_length] at ho
    refine TL.nil ?_
    refine T.seq ?_
    refine T.cond_f rfl ?_
    refine T.exit ?_
    refine T.seq ?_
    refine T.region ?_
    refine TL.cons rfl (V1.t (V1.assign' z_C) ?_)
    refine TL.nil ?_
    refine T.ret ?_
    exact ⟨_, G, _, .cons (.tmp z_C) .nil, z_A, rfl, .inr ⟨rfl, ho⟩⟩

set_option maxRecDepth 100000 in
set_option maxHeartbeats 8000000 in
theorem DeleteT_us (w0 : World) (Ps : List Blk) (b off size cap : Nat) {es : List TdE} (hA : TdA w0 Ps es) (hn : es.length ≤ 1000) (hcap : es.length ≤ cap) (q : Td → Bool) (cv : Value) (hcl : ∀ t ∈ es.map (·.1), ∀ Qs cs, Inc Ps Qs → TdR w0 Qs t cs → FnV P 59 [.agg cs.toArray, cv] w0 Qs (fun v => v = .bool (q t))) : FnG P 58 [.slice (some ⟨b, off, none⟩) es.length cap, .func (.func 59) #[] #[cv]] w0 Ps [⟨⟨b, some 55⟩, off, tdC es, size⟩] (fun v Y => v = .slice (some ⟨b, off, none⟩) (keepE q es).length cap ∧ (keepE q es).length ≤ cap ∧ Y = [⟨⟨b, some 55⟩, off, tdC (keepE q es), size⟩]) := by
  refine FnG.of 42 [.tmp 4] Go.Proofs.Tryz.func58 rfl rfl rfl rfl (fun G hG => ?_)
  simp only [List.cons_append, List.nil_append]
  refine T.seq ?_
  refine T.region ?_
  refine TL.cons rfl (V1.t (V1.assign' z_C) ?_)
  refine TL.nil ?_
  refine T.seq ?_
  refine T.region ?_
  refine TL.cons rfl (V1.t (V1.move' z_C) ?_)
  refine TL.cons rfl (V1.t (V1.move' z_C) ?_)
  refine TL.cons rfl (T1.callV has_86 rfl rfl (IndexT_us w0 ((⟨⟨b, some 55⟩, off, tdC (es), size⟩ : Blk) :: Ps) (fun e he => (hA e he).more (Inc.skip1 Inc.refl)) (RowR.own (List.mem_cons_self ..) (tdC_len hA)) hn q cv (fun t ht Qs cs hi hcs => hcl t ht Qs cs (fun B hB => hi B (List.mem_cons_of_mem _ hB)) hcs)) z_B (fun v_ hv => ?_))
  rcases hv with ⟨i0, x0, rfl, hx0, hq0, ho⟩ | ⟨rfl, ho⟩
  ·
    have hi0 := (List.getElem?_eq_some_iff.1 hx0).1
    refine TL.cons rfl (V1.t (V1.assign' z_C) ?_)
    refine TL.nil ?_
    refine T.seq ?_
    refine T.seq ?_
    refine T.region ?_
    refine TL.cons rfl (V1.t (V1.move' z_C) ?_)
    refine TL.cons rfl (V1.t (V1.eqI (r := false) rfl rfl (decide_eq_false (by omega))) ?_)
    refine TL.nil ?_
    refine T.cond_f rfl ?_
    refine T.skip ?_
    refine T.seq ?_
    refine T.seq ?_
    refine T.region ?_
    refine TL.cons rfl (V1.t (V1.move' z_C) ?_)
    refine TL.cons rfl (V1.t (V1.add (c := ((i0 + 1 : Nat) : Int)) rfl rfl (by rw [wrap_i64 _ (by omega) (by omega)]; omega)) ?_)
    refine TL.cons rfl (V1.t (V1.assign' z_C) ?_)
    refine TL.nil ?_
    refine T.block ?_
    refine T.loopL (σ := Nat × Nat × List TdE) (l0 := [(0, _), (1, _)]) (fun x => [(5, .int .i64 (x.1 : Nat)), (6, .int .i64 (x.2.1 : Nat))]) (fun x L => L = (⟨⟨b, some 55⟩, off, tdC (x.2.2), size⟩ : Blk) :: G ∧ x.2.2.length = es.length ∧ x.1 < x.2.1 ∧ x.2.1 ≤ es.length ∧ x.2.2.take x.1 = keepE q (es.take x.2.1) ∧ x.2.2.drop x.2.1 = es.drop x.2.1 ∧ TdA w0 Ps x.2.2) (fun x => es.length - x.2.1) (i0, i0 + 1, es) (.cons rfl (.cons rfl .nil)) (.cons z_C (.cons z_C .nil)) z_A (⟨rfl, rfl, by simp only; omega, by simp only; omega, by simp only; rw [keep_take hx0, if_pos hq0, List.append_nil]; exact (keep_none ho).symm, rfl, hA⟩) ?_
    rintro ⟨i, j, cs⟩ e_ L ⟨rfl, hcl_, hij, hjn, hti, hdj, hCA⟩
    simp only at hcl_ hij hjn hti hdj hCA
    have htl : (keepE q (es.take j)).length = i := by rw [← hti, List.length_take]; omega
    have hCl := tdC_len hCA
    dsimp only
    refine T.seq ?_
    refine T.seq ?_
    refine T.region ?_
    refine TL.cons rfl (V1.t (V1.move' z_C) ?_)
    refine TL.cons rfl (V1.t (V1.move' z_C) ?_)
    refine TL.cons rfl (V1.t (V1.lenSl ty_43 rfl) ?_)
    refine TL.cons rfl (T1.ltI_split rfl rfl (fun h5 => ?_) (fun h5 => ?_))
    ·
      obtain ⟨x, hxj⟩ : ∃ x, es[j]? = some x := ⟨_, List.getElem?_eq_getElem (by omega)⟩
      have hcj : cs[j]? = some x := by have h_ := congrArg (fun l => l[0]?) hdj; simpa [List.getElem?_drop, hxj] using h_
      have hx := hA x (List.mem_of_getElem? hxj)
      obtain ⟨hxl, hx1⟩ := hx.len
      obtain ⟨x1, x2, x3, x4, x5, x6, hx6⟩ : ∃ x1 x2 x3 x4 x5 x6, x.2 = [x1, x2, x3, x4, x5, x6] := by match x.2, hxl with | [x1, x2, x3, x4, x5, x6], _ => exact ⟨x1, x2, x3, x4, x5, x6, rfl⟩
      have hic : i < cs.length := by omega
      refine TL.nil ?_
      refine T.cond_t rfl ?_
      refine T.skip ?_
      refine T.seq ?_
      refine T.block ?_
      refine T.seq ?_
      refine T.region ?_
      refine TL.cons rfl (V1.t (V1.move' z_C) ?_)
      refine TL.cons rfl (V1.t (V1.move' z_C) ?_)
      refine TL.cons rfl (V1.t (V1.indexAddrS ty_43 sz_55 rfl rfl (by omega) (by omega)) ?_)
      refine TL.cons rfl (V1.t (V1.loadN (vs := [x1, x2, x3, x4, x5, x6]) one_55 sz_55 rfl (tdC_rd hCA hcj hx6 (RdN.at0 (cells := tdC cs) (off := off) (size := size) z_D)) rfl) ?_)
      refine TL.cons rfl (T1.allocN 6 zr_55 rfl (fun b7 => ?_))
      refine TL.cons rfl (T1.storeN rfl rfl sz_55 (by rw [← hx6]; exact hx1) z_G (by rfl) (by rfl) ?_)
      refine TL.nil ?_
      refine T.seq ?_
      refine T.region ?_
      refine TL.cons rfl (V1.t (V1.move' z_C) ?_)
      refine TL.cons rfl (V1.t (V1.loadN one_55 sz_55 rfl (RdN.whole z_D) (by rfl)) ?_)
      refine TL.cons rfl (T1.callGV (first := #[]) (cap := #[cv]) rfl has_59 rfl rfl (hcl x.1 (List.mem_map_of_mem (List.mem_of_getElem? hxj)) Ps [x1, x2, x3, x4, x5, x6] Inc.refl (by rw [← hx6]; exact hx)) z_B (fun v_ hv => ?_))
      obtain rfl := hv
      rcases Bool.eq_false_or_eq_true (q x.1) with hq | hq <;> rw [hq]
      ·
        refine TL.cons rfl (V1.t (V1.not rfl rfl) ?_)
        refine TL.nil ?_
        refine T.cond_f rfl ?_
        refine T.skip ?_
        refine T.region ?_
        refine TL.cons rfl (V1.t (V1.move' z_C) ?_)
        refine TL.cons rfl (V1.t (V1.add (c := ((j + 1 : Nat) : Int)) rfl rfl (by rw [wrap_i64 _ (by omega) (by omega)]; omega)) ?_)
        refine TL.cons rfl (V1.t (V1.assign' z_C) ?_)
        refine TL.nil ?_
        exact ⟨(i, j + 1, cs), (⟨⟨b, some 55⟩, off, tdC (cs), size⟩ : Blk) :: G, _, (by simp only; omega), (.cons rfl (.cons rfl .nil)), (.cons rfl (.cons rfl .nil)), z_A, ⟨rfl, hcl_, by simp only; omega, by simp only; omega, by simp only; rw [keep_take hxj, hq, if_pos rfl, List.append_nil]; exact hti, by simp only; rw [← List.drop_drop, hdj, List.drop_drop], hCA⟩⟩
      ·
        refine TL.cons rfl (V1.t (V1.not rfl rfl) ?_)
        refine TL.nil ?_
        refine T.cond_t rfl ?_
        refine T.seq ?_
        refine T.region ?_
        refine TL.cons rfl (V1.t (V1.move' z_C) ?_)
        refine TL.cons rfl (V1.t (V1.move' z_C) ?_)
        refine TL.cons rfl (V1.t (V1.loadN one_55 sz_55 rfl (RdN.whole z_D) (by rfl)) ?_)
        refine TL.cons rfl (V1.t (V1.indexAddrS ty_43 sz_55 rfl rfl (by omega) (by omega)) ?_)
        refine TL.cons rfl (T1.storeP (o := off + i * 6) (off := off) (size := size) (vs := [x1, x2, x3, x4, x5, x6]) (cells := tdC cs) (cells' := tdC (cs.set i x)) rfl rfl sz_55 rfl (by omega) (by rw [hCl]; show _ + 6 ≤ _; omega) (by rw [← hx6]; exact hx1) (by rw [show off + i * 6 - off = i * 6 by omega, ← hx6]; exact tdC_set hCA hic hxl) z_G ?_)
        refine TL.nil ?_
        refine T.live (l := [(0, _), (1, _), (5, _), (6, _)]) (.cons z_C (.cons z_C (.cons z_C (.cons z_C .nil)))) (fun e_ => ?_)
        refine T.region ?_
        refine TL.cons rfl (V1.t (V1.move' z_C) ?_)
        refine TL.cons rfl (V1.t (V1.add (c := ((i + 1 : Nat) : Int)) rfl rfl (by rw [wrap_i64 _ (by omega) (by omega)]; omega)) ?_)
        refine TL.cons rfl (V1.t (V1.assign' z_C) ?_)
        refine TL.nil ?_
        refine T.region ?_
        refine TL.cons rfl (V1.t (V1.move' z_C) ?_)
        refine TL.cons rfl (V1.t (V1.add (c := ((j + 1 : Nat) : Int)) rfl rfl (by rw [wrap_i64 _ (by omega) (by omega)]; omega)) ?_)
        refine TL.cons rfl (V1.t (V1.assign' z_C) ?_)
        refine TL.nil ?_
        exact ⟨(i + 1, j + 1, cs.set i x), (⟨⟨b, some 55⟩, off, tdC (cs.set i x), size⟩ : Blk) :: G, _, (by simp only; omega), (.cons rfl (.cons rfl .nil)), (.cons rfl (.cons rfl .nil)), z_A, ⟨rfl, by simp only; rw [List.length_set]; exact hcl_, by simp only; omega, by simp only; omega, by simp only; rw [keep_take hxj, hq, ← hti]; exact takeE_set hic, by simp only; rw [List.drop_set_of_lt (by omega), ← List.drop_drop, hdj, List.drop_drop], hCA.set hx⟩⟩
    ·
      obtain rfl : j = es.length := by omega
      rw [List.take_length] at hti htl
      refine TL.nil ?_
      refine T.cond_f rfl ?_
      refine T.exit ?_
      refine T.seq ?_
      refine T.region ?_
      refine TL.cons rfl (V1.t (V1.move' z_C) ?_)
      refine TL.cons rfl (V1.t (V1.move' z_C) ?_)
      refine TL.cons rfl (V1.t (V1.sliceK i es.length ty_43 sz_55 rfl rfl rfl (by omega) hcap (by omega)) ?_)
      refine TL.cons rfl (T1.clearTail (off := off) (size := size) (m := i * 6) (cells := tdC cs) (z := .agg #[.int .i64 0, .int .i64 0, .slice none 0 0, .int .i64 0, .string ⟨#[]⟩, .slice none 0 0]) ty_43 zr_55 (ones rfl) rfl rfl (by omega) (by show i * 6 + (es.length - i) * 6 = _; omega) z_G ?_)
      refine TL.nil ?_
      refine T.seq ?_
      refine T.region ?_
      refine TL.cons rfl (V1.t (V1.move' z_C) ?_)
      refine TL.cons rfl (V1.t (V1.move' z_C) ?_)
      refine TL.cons rfl (V1.t (V1.sliceK 0 i ty_43 sz_55 rfl rfl rfl (by omega) (by omega) (by omega)) ?_)
      refine TL.cons rfl (V1.t (V1.assign' z_C) ?_)
      refine TL.nil ?_
      refine T.ret ?_
      rw [tdC_take hCA i (by omega), hti]
      exact ⟨_, _ :: G, _, .cons (.tmp z_C) .nil, z_A, [_], rfl, by rw [htl]; rfl, by omega, rfl⟩
  ·
    have hke := keep_none ho
    refine TL.cons rfl (V1.t (V1.assign' z_C) ?_)
    refine TL.nil ?_
    refine T.seq ?_
    refine T.seq ?_
    refine T.region ?_
    refine TL.cons rfl (V1.t (V1.move' z_C) ?_)
    refine TL.cons rfl (V1.t (V1.eqI (r := true) rfl rfl (by decide)) ?_)
    refine TL.nil ?_
    refine T.cond_t rfl ?_
    refine T.seq ?_
    refine T.region ?_
    refine TL.cons rfl (V1.t (V1.move' z_C) ?_)
    refine TL.cons rfl (V1.t (V1.assign' z_C) ?_)
    refine TL.nil ?_
    refine T.ret ?_
    exact ⟨_, _ :: G, _, .cons (.tmp z_C) .nil, z_A, [_], rfl, by rw [hke]; rfl, by rw [hke]; exact hcap, by rw [hke]⟩

set_option maxRecDepth 100000 in
set_option maxHeartbeats 8000000 in
theorem DeleteT_nil (w0 : World) (Ps : List Blk) (q : Td → Bool) (cv : Value) : FnG P 58 [.slice none 0 0, .func (.func 59) #[] #[cv]] w0 Ps [] (fun v Y => v = .slice none 0 0 ∧ Y = []) := by
  refine FnG.of 42 [.tmp 4] Go.Proofs.Tryz.func58 rfl rfl rfl rfl (fun G hG => ?_)
  refine T.seq ?_
  refine T.region ?_
  refine TL.cons rfl (V1.t (V1.assign' z_C) ?_)
  refine TL.nil ?_
  refine T.seq ?_
  refine T.region ?_
  refine TL.cons rfl (V1.t (V1.move' z_C) ?_)
  refine TL.cons rfl (V1.t (V1.move' z_C) ?_)
  refine TL.cons rfl (T1.callV has_86 rfl rfl (IndexT_us w0 Ps (es := []) (by intro e he; cases he) RowR.nil (by simp) q cv (by intro t ht; cases ht)) z_B (fun v_ hv => ?_))
  obtain rfl : v_ = .int .i64 (-1) := by rcases hv with ⟨i0, x0, _, hx0, _⟩ | ⟨h, _⟩; simp at hx0; exact h
  refine TL.cons rfl (V1.t (V1.assign' z_C) ?_)
  refine TL.nil ?_
  refine T.seq ?_
  refine T.seq ?_
  refine T.region ?_
  refine TL.cons rfl (V1.t (V1.move' z_C) ?_)
  refine TL.cons rfl (V1.t (V1.eqI (r := true) rfl rfl (by decide)) ?_)
  refine TL.nil ?_
  refine T.cond_t rfl ?_
  refine T.seq ?_
  refine T.region ?_
  refine TL.cons rfl (V1.t (V1.move' z_C) ?_)
  refine TL.cons rfl (V1.t (V1.assign' z_C) ?_)
  refine TL.nil ?_
  refine T.ret ?_
  exact ⟨_, G, _, .cons (.tmp z_C) .nil, z_A, [], rfl, rfl, rfl⟩

theorem keep_map (q : Td → Bool) (es : List TdE) : (keepE q es).map (·.1) = (es.map (·.1)).filter fun t => !q t := by
  unfold keepE
  induction es with
  | nil => rfl
  | cons e es ih => cases hq : q e.1 <;> simp [hq, ih]
theorem DeleteT_any (w0 : World) (Ps : List Blk) {s : Value} {xs : List Value} {Ls : List Blk} {ts : List Td} (hsl : SlG (some 55) s xs 6 Ls) (hx : TdsR w0 Ps ts xs) (hn : ts.length ≤ 1000) (q : Td → Bool) (cv : Value) (hcl : ∀ t ∈ ts, ∀ Qs cs, Inc Ps Qs → TdR w0 Qs t cs → FnV P 59 [.agg cs.toArray, cv] w0 Qs (fun v => v = .bool (q t))) :
    FnG P 58 [s, .func (.func 59) #[] #[cv]] w0 Ps Ls (fun v Y => ∃ xs', SlG (some 55) v xs' 6 Y ∧ TdsR w0 Ps (ts.filter fun t => !q t) xs') := by
  obtain ⟨es, rfl, rfl, hA⟩ := hx.items
  have hl := tdC_len hA
  rcases hsl with ⟨rfl, h0, rfl⟩ | ⟨b, off, len, cap, size, rfl, h1, h2, h3, rfl⟩
  · have he : es = [] := by rw [h0] at hl; exact List.length_eq_zero_iff.1 (by simp at hl; omega)
    subst he
    refine (DeleteT_nil w0 Ps q cv).mono ?_
    rintro v Y ⟨rfl, rfl⟩
    exact ⟨[], SlG.nil, rfl⟩
  · obtain rfl : len = es.length := by omega
    rw [List.length_map] at hn
    refine (DeleteT_us w0 Ps b off size cap hA hn h2 q cv hcl).mono ?_
    rintro v Y ⟨rfl, h4, rfl⟩
    have hK : TdA w0 Ps (keepE q es) := fun e he => hA e (List.mem_filter.1 he).1
    exact ⟨_, SlG.mk (tdC_len hK) h4 h3, by rw [← keep_map]; exact TdsR.ofItems hK⟩
/-- What was told and can't be had. -/
def secL (es : List (Int × Int)) : List Td := (sgOut es).told.filter fun t => !t.open (sgOut es)
theorem out_inv {es : List (Int × Int)} (h : (sgRun es).1 = 0) : SgInv 24 (sgOut es) := by unfold sgOut; rw [if_pos h]; exact sgRun_inv es
theorem sec_new {w0 : World} {Ps Y : List Blk} {s : Sg} {v : Value} (hI : SgInv 24 s) (hY : NewR w0 Ps s.known v Y) : ∃ kb l, v = .tuple #[.pointer (some ⟨kb, 0, none⟩), .int .i64 0] ∧ KnO w0 Ps kb l Y ∧ Kn s.known l := by
  rcases hY with ⟨e, he, _, _, hl⟩ | ⟨kb, l, rfl, hk, hl⟩
  · exact absurd (hI.new (by omega) hl).1 he
  · exact ⟨kb, l, rfl, hk, (hI.new (by omega) hl).2⟩

set_option maxRecDepth 100000 in
set_option maxHeartbeats 8000000 in
theorem secf_any (w0 : World) (Qs : List Blk) {s : Sg} (hI : SgInv 24 s) {t : Td} (ht : t ∈ s.told) {cs : List Value} (hTd : TdR w0 Qs t cs) {Ps Yk : List Blk} {kb b8 : Nat} {l : List Tm} (hkn : KnO w0 Ps kb l Yk) (hk : Kn s.known l) (hB : (⟨b8, 0, [.pointer (some ⟨kb, 0, none⟩)], 1⟩ : Blk) ∈ Qs) (hi : Inc (Yk ++ Ps) Qs) : FnV P 59 [.agg cs.toArray, .pointer (some ⟨b8, 0, none⟩)] w0 Qs (fun v => v = .bool (t.open s)) := by
  obtain ⟨a, c, rfl, hrn⟩ := hTd
  refine FnV.of 8 [.tmp 3] Go.Proofs.Tryz.func59 rfl rfl rfl rfl (fun G hG => ?_)
  have hBf := hG.find hB
  have hiG : Inc (Yk ++ ([] ++ Ps)) G := hi.trans hG
  refine T.seq ?_
  refine T.region ?_
  refine TL.cons rfl (T1.boxN 6 rfl rfl (fun b2 => ?_))
  refine TL.cons rfl (V1.t (V1.assign' z_C) ?_)
  refine TL.nil ?_
  refine T.seq ?_
  refine T.region ?_
  refine TL.cons rfl (V1.t (V1.load1 (v := .pointer (some ⟨kb, 0, none⟩)) one_65 rfl (.own (cells := [.pointer (some ⟨kb, 0, none⟩)]) z_D (by rfl))) ?_)
  refine TL.cons rfl (V1.t (V1.fieldAddr fl_55_3 rfl) ?_)
  refine TL.cons rfl (V1.t (V1.loadN (vs := [.int .i64 1, .string (bstr (nmb sText [t.num])), .slice none 0 0]) one_24 sz_24 rfl (RdN.mid2 (pre := [iV t.who, iV t.epoch, .slice a t.names.length c]) (cs := [.int .i64 1, .string (bstr (nmb sText [t.num])), .slice none 0 0]) (post := []) z_D rfl) rfl) ?_)
  refine TL.cons rfl (T1.callV has_28 rfl rfl (Makes_k hkn hk [] (t := textT t.num) (ct := [.int .i64 1, .string (bstr (nmb sText [t.num])), .slice none 0 0]) TmR.atom) (Inc.skip1 hiG) (fun v_ hv => ?_))
  obtain ⟨r, rfl, hr_⟩ := hv
  refine TL.cons rfl (V1.t (V1.assign' z_C) ?_)
  refine TL.nil ?_
  refine T.ret ?_
  exact ⟨_, G, _, .cons (.tmp z_C) .nil, z_A, rfl, congrArg Value.bool (by rw [Bool.eq_iff_iff, hr_]; exact sg_text hI ht)⟩

set_option maxRecDepth 100000 in
set_option maxHeartbeats 8000000 in
theorem Secret_us (w0 : World) (Ps : List Blk) {es : List (Int × Int)} {a : Option Addr} {c : Nat} (hr : RowR w0 Ps 2 (.slice a es.length c) es.length (es.flatMap evC)) : FnG P 26 [.slice a es.length c] w0 Ps [] (fun v Y => ∃ vt xt Lt Q, Y = Lt ++ Q ∧ v = .tuple #[vt, .int .i64 (sgRun es).1] ∧ SlG (some 55) vt xt 6 Lt ∧ TdsR w0 (Q ++ Ps) (secL es) xt) := by
  refine FnG.of 30 [.tmp 2, .tmp 3] Go.Proofs.Tryz.func26 rfl rfl rfl rfl (fun G hG => ?_)
  refine T.seq ?_
  refine T.region ?_
  refine TL.cons rfl (V1.t (V1.assign' z_C) ?_)
  refine TL.cons rfl (V1.t (V1.assign' z_C) ?_)
  refine TL.nil ?_
  refine T.seq ?_
  refine T.region ?_
  refine TL.cons rfl (V1.t (V1.move' z_C) ?_)
  refine TL.cons rfl (T1.callC has_22 rfl rfl (Run_us w0 Ps hr) z_B (fun v_ Y_ hY => ?_))
  obtain ⟨vt, vk, vb, Lt, Lk, Lb, Q, xt, xk, rfl, rfl, hst, hxt, hsk, hxk, hsb⟩ := hY
  simp only [List.append_assoc]
  refine TL.cons rfl (V1.t (V1.move' z_C) ?_)
  refine TL.cons rfl (V1.t (V1.extract rfl (by rfl)) ?_)
  refine TL.cons rfl (V1.t (V1.extract rfl (by rfl)) ?_)
  refine TL.cons rfl (V1.t (V1.extract rfl (by rfl)) ?_)
  refine TL.cons rfl (V1.t (V1.extract rfl (by rfl)) ?_)
  refine TL.cons rfl (V1.t (V1.assign' z_C) ?_)
  refine TL.cons rfl (V1.t (V1.assign' z_C) ?_)
  refine TL.cons rfl (V1.t (V1.assign' z_C) ?_)
  refine TL.cons rfl (V1.t (V1.assign' z_C) ?_)
  refine TL.nil ?_
  refine T.seq ?_
  refine T.seq ?_
  refine T.region ?_
  refine TL.cons rfl (V1.t (V1.move' z_C) ?_)
  refine TL.cons rfl (V1.t (V1.neI (r := decide ((sgRun es).1 ≠ 0)) rfl rfl rfl) ?_)
  rcases Classical.em ((sgRun es).1 = 0) with hc0 | hc0
  ·
    rw [decide_eq_false (by simpa using hc0)]
    have hI := out_inv hc0
    have hkl := hI.kl
    have htl := hI.tl
    obtain ⟨ak, ck, rfl, hrk⟩ := hsk.tm hxk
    refine TL.nil ?_
    refine T.cond_f rfl ?_
    refine T.skip ?_
    refine T.seq ?_
    refine T.live (l := [(4, _), (5, _)]) (.cons z_C (.cons z_C .nil)) (fun e_ => ?_)
    refine T.region ?_
    refine TL.cons rfl (V1.t (V1.move' z_C) ?_)
    refine TL.cons rfl (T1.callC has_27 rfl rfl (New_any w0 (Lk ++ (Q ++ Ps)) hrk (hxk.more (Inc.skip Inc.refl)) (by omega)) z_B (fun v_ Yk hY => ?_))
    obtain ⟨kb, l, rfl, hkn, hk⟩ := sec_new hI hY
    refine TL.cons rfl (V1.t (V1.move' z_C) ?_)
    refine TL.cons rfl (V1.t (V1.extract rfl (by rfl)) ?_)
    refine TL.cons rfl (V1.t (V1.extract rfl (by rfl)) ?_)
    refine TL.cons rfl (T1.alloc1 zr_65 rfl (fun b8 => ?_))
    refine TL.cons rfl (T1.store1 rfl rfl sz_65 rfl z_G (Nat.zero_le _) (by repeat (first | exact SetAt.here | apply SetAt.there)) ?_)
    refine TL.cons rfl (V1.t (V1.assign' z_C) ?_)
    refine TL.nil ?_
    refine T.seq ?_
    refine T.seq ?_
    refine T.region ?_
    refine TL.cons rfl (V1.t (V1.move' z_C) ?_)
    refine TL.cons rfl (V1.t (V1.neI (r := false) rfl rfl (by decide)) ?_)
    refine TL.nil ?_
    refine T.cond_f rfl ?_
    refine T.skip ?_
    refine T.seq ?_
    refine T.region ?_
    refine TL.cons rfl (V1.t (V1.move' z_C) ?_)
    refine TL.cons rfl (V1.t (V1.makeFuncC z_C) ?_)
    refine TL.cons rfl (T1.callM (X := Lt) has_58 rfl rfl (DeleteT_any w0 ((⟨b8, 0, [.pointer (some ⟨kb, 0, none⟩)], 1⟩ : Blk) :: (Yk ++ (Lk ++ (Q ++ Ps)))) hst (hxt.more (Inc.skip1 (Inc.skip (Inc.skip Inc.refl)))) (by omega) (fun t => t.open (sgOut es)) (.pointer (some ⟨b8, 0, none⟩)) (fun t ht Qs cs hi hcs => secf_any w0 Qs hI ht hcs hkn hk (hi _ (List.mem_cons_self ..)) (Inc.trans (Inc.skip1 Inc.refl) hi))) z_A z_B (fun v_ Y_ hY => ?_))
    obtain ⟨xs2, hsl2, hxs2⟩ := hY
    refine TL.cons rfl (V1.t (V1.assign' z_C) ?_)
    refine TL.cons rfl (V1.t (V1.assign' z_C) ?_)
    refine TL.nil ?_
    refine T.ret ?_
    exact ⟨_, Y_ ++ ((⟨b8, 0, [.pointer (some ⟨kb, 0, none⟩)], 1⟩ : Blk) :: (Yk ++ (Lk ++ (Q ++ G)))), _, .cons (.tmp z_C) (.cons (.tmp z_C) .nil), z_A, Y_ ++ ((⟨b8, 0, [.pointer (some ⟨kb, 0, none⟩)], 1⟩ : Blk) :: (Yk ++ (Lk ++ Q))), by simp only [List.cons_append, List.append_assoc], _, xs2, Y_, (⟨b8, 0, [.pointer (some ⟨kb, 0, none⟩)], 1⟩ : Blk) :: (Yk ++ (Lk ++ Q)), rfl, by rw [hc0]; rfl, hsl2, hxs2.more (by intro B_ hB_; simp only [List.mem_append, List.mem_cons, List.not_mem_nil, or_false] at hB_ ⊢; grind)⟩
  ·
    rw [decide_eq_true hc0]
    have hO := sgOut_err hc0
    refine TL.nil ?_
    refine T.cond_t rfl ?_
    refine T.seq ?_
    refine T.live (l := [(7, _)]) (.cons z_C .nil) (fun e_ => ?_)
    refine T.region ?_
    refine TL.cons rfl (V1.t (V1.move' z_C) ?_)
    refine TL.cons rfl (V1.t (V1.assign' z_C) ?_)
    refine TL.cons rfl (V1.t (V1.assign' z_C) ?_)
    refine TL.nil ?_
    refine T.ret ?_
    exact ⟨_, G, _, .cons (.tmp z_C) (.cons (.tmp z_C) .nil), z_A, [], rfl, _, [], [], [], rfl, rfl, SlG.nil, by unfold secL; rw [hO]; exact TdsR.nil⟩

end Go.Proofs.YtlpkcbkflfbclaaGreatDoor.S
