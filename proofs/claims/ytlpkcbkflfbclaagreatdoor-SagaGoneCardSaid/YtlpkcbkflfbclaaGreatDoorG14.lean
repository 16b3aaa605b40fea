/- Who was removed, and who never belonged. -/
import Derived.Test.YtlpkcbkflfbclaaGreatDoorG13
import Derived.Test.YtlpkcbkflfbclaaGreatDoorGE
namespace Go.Proofs.YtlpkcbkflfbclaaGreatDoor.S
open Go.RowKit

section
variable {C : Ctx} {e : Env} {L : List Blk} {dst : Option Tmp} {ty : TypeId} {pos : String} {after : Array Edge} {guard : Option (Nat × Bool)}
theorem V1.lenMap {x : Operand} {t kt et : TypeId} {b : Nat} {kv : List (Value × Value)} (hT : C.P.underlying t = some (.map kt et)) (hx : ev C.n e x = .map (some b)) (hf : Find L (MB b kv)) : V1 C ⟨dst, .call ⟨.builtin .len, #[x], #[t]⟩, ty, pos, after, guard⟩ e L (.int .i64 kv.length) :=
  V1.builtin (args := [x]) (s := Builtin.len_ #[t] ty #[ev C.n e x]) (fun _ => rfl) (fun w hs => by
    obtain ⟨es, clock, h1, h2⟩ := MB.inv (hs.inw _ hf.mem)
    have hg : (getObj b).run C.P w = .ok (.map es clock) w := by simp [getObj, Sem.run, h1]
    rw [hx]
    show (do match ← underlying t, Value.map (some b) with | _, _ => _ : Sem Value).run C.P w = _
    rw [run_bind (run_underlying hT w)]
    show (getObj b >>= _).run C.P w = _
    rw [run_bind hg]
    have : es.size = kv.length := by rw [← h2]; simp
    rw [← this]; rfl)
end
/-! ### A set of few numbers, as a map -/
def kvI (ns : List Nat) : List (Value × Value) := ns.map fun n => (iV n, .bool true)
def qI (n : Int) (v : Value) : Bool := match v with
  | .int _ m => n == m
  | _ => false
theorem kvI_now (ns : List Nat) (n : Int) : ∀ p ∈ kvI ns, Instr.sameNow (.int .i64) (.int .i64 n) p.1 = some (qI n p.1) := by
  intro p hp
  obtain ⟨m, _, rfl⟩ := List.mem_map.1 hp
  rfl
theorem kvI_find : ∀ (ns : List Nat) (n i : Nat), ((findQ (qI (n : Int)) (kvI ns) i).map (·.2)).getD (.bool false) = .bool (decide (n ∈ ns))
  | [], n, i => by simp [kvI, findQ]
  | m :: ns, n, i => by
    show ((findQ (qI (n : Int)) ((iV m, .bool true) :: kvI ns) i).map (·.2)).getD (.bool false) = _
    rw [findQ]
    by_cases h : n = m
    · subst h
      rw [if_pos (by show ((n : Int) == (n : Int)) = true; simp)]
      simp
    · rw [if_neg (by show ¬ ((n : Int) == (m : Int)) = true; simp; omega), kvI_find ns n (i + 1)]
      simp [h]
theorem kvI_bits (ns : List Nat) (n : Int) : ∀ p ∈ kvI ns, qI n p.1 = true → Instr.sameBits 10000 p.1 (.int .i64 n) = true := by
  intro p hp h
  obtain ⟨m, _, rfl⟩ := List.mem_map.1 hp
  have h : ((n : Int) == (m : Int)) = true := h
  show (IntKind.i64 == IntKind.i64 && ((m : Int) == n)) = true
  rw [eq_of_beq h]; simp
def addI (ns : List Nat) (n : Nat) : List Nat := if n ∈ ns then ns else ns ++ [n]
theorem findQ_has {ns : List Nat} {n : Nat} (h : n ∈ ns) : ∀ i, ∃ j, findQ (qI (n : Int)) (kvI ns) i = some (i + j, .bool true) ∧ (kvI ns)[j]? = some (iV n, .bool true) := by
  induction ns with
  | nil => cases h
  | cons m ns ih =>
    intro i
    show ∃ j, findQ (qI (n : Int)) ((iV m, .bool true) :: kvI ns) i = some (i + j, .bool true) ∧ ((iV m, Value.bool true) :: kvI ns)[j]? = _
    rw [findQ]
    by_cases hm : n = m
    · subst hm
      rw [if_pos (by show ((n : Int) == (n : Int)) = true; simp)]
      exact ⟨0, rfl, rfl⟩
    · obtain ⟨j, h1, h2⟩ := ih ((List.mem_cons.1 h).resolve_left hm) (i + 1)
      rw [if_neg (by show ¬ ((n : Int) == (m : Int)) = true; simp; omega)]
      exact ⟨j + 1, by rw [h1]; congr 2; omega, h2⟩
theorem kvI_upd (ns : List Nat) (n : Nat) : updQ (qI (n : Int)) (kvI ns) (iV n) (.bool true) = kvI (addI ns n) := by
  unfold updQ addI
  by_cases h : n ∈ ns
  · obtain ⟨j, h1, h2⟩ := findQ_has h 0
    rw [h1, if_pos h]
    dsimp only
    rw [Nat.zero_add]
    apply List.ext_getElem?
    intro i
    rw [List.getElem?_modify]
    by_cases hij : j = i
    · subst hij; rw [h2]; simp
    · simp [hij]
  · have : findQ (qI (n : Int)) (kvI ns) 0 = none := findQ_none fun p hp => by
      obtain ⟨m, hm, rfl⟩ := List.mem_map.1 hp
      show ((n : Int) == (m : Int)) = false
      have : n ≠ m := fun e => h (e ▸ hm)
      simp; omega
    rw [this, if_neg h]
    unfold kvI
    rw [List.map_append]; rfl
theorem addI_6 {ns : List Nat} {n : Nat} (h : ∀ m ∈ ns, 1 ≤ m ∧ m ≤ 6) (hn : 1 ≤ n ∧ n ≤ 6) : ∀ m ∈ addI ns n, 1 ≤ m ∧ m ≤ 6 := by
  intro m hm
  unfold addI at hm
  split at hm
  · exact h m hm
  · rcases List.mem_append.1 hm with hm | hm
    · exact h m hm
    · rw [List.mem_singleton] at hm; subst hm; exact hn

set_option maxRecDepth 100000 in
set_option maxHeartbeats 8000000 in
theorem SagaGone_any (w0 : World) (Ps : List Blk) {es : List (Int × Int)} {a : Option Addr} {c : Nat} (hr : RowR w0 Ps 2 (.slice a es.length c) es.length (es.flatMap evC)) {gs : List Int} {ag : Option Addr} {cg : Nat} (hel : es.length ≤ 1000000000000000) (hgl : gs.length ≤ 1000000000000000) (hg0 : RowR w0 Ps 1 (.slice ag gs.length cg) gs.length (gs.map (Value.int .i64))) : FnV P 6 [.slice a es.length c, .slice ag gs.length cg] w0 Ps (fun v => v = .bool true) := by
  refine FnV.of 164 [.tmp 4] Go.Proofs.Tryz.func6 rfl rfl rfl rfl (fun G hG => ?_)
  refine T.seq ?_
  refine T.region ?_
  refine TL.cons rfl (V1.t (V1.assign' z_E) ?_)
  refine TL.nil ?_
  refine T.seq ?_
  refine T.seq ?_
  refine T.region ?_
  refine TL.cons rfl (T1.callV has_21 rfl rfl (hides_any w0) z_D (fun v_ hv => ?_))
  obtain rfl := hv
  refine TL.cons rfl (V1.t (V1.not rfl rfl) ?_)
  refine TL.nil ?_
  refine T.cond_f rfl ?_
  refine T.skip ?_
  refine T.seq ?_
  refine T.region ?_
  refine TL.cons rfl (V1.t (V1.assign' z_E) ?_)
  refine TL.nil ?_
  refine T.seq ?_
  refine T.seq ?_
  refine T.region ?_
  refine TL.cons rfl (V1.t (V1.move' z_E) ?_)
  refine TL.cons rfl (V1.t (V1.lenSl ty_42 rfl) ?_)
  refine TL.cons rfl (V1.t (V1.move' z_E) ?_)
  refine TL.nil ?_
  refine T.block ?_
  refine T.loopL (σ := Nat × Value × List Blk × List (Int × Int)) (l0 := [(1, _), (28, _), (29, _)]) (fun x => [(30, .int .i64 (x.1 : Nat)), (5, x.2.1)]) (fun x L => L = x.2.2.1 ++ G ∧ x.1 ≤ es.length ∧ SlG (some 62) x.2.1 (x.2.2.2.flatMap evC) 2 x.2.2.1 ∧ x.2.2.2.length ≤ 16 ∧ ∀ e ∈ x.2.2.2, goneE e = true) (fun x => es.length - x.1) (0, .slice none 0 0, [], []) (.cons rfl (.cons rfl .nil)) (.cons z_E (.cons z_E (.cons z_E .nil))) z_A (⟨rfl, Nat.zero_le _, SlG.nil, Nat.zero_le _, fun e h => by cases h⟩) ?_
  rintro ⟨i, s0, Ls, acc⟩ e_ L ⟨rfl, hi, hsl, hac, hgo⟩
  simp only at hi hsl hac hgo
  dsimp only
  refine T.seq ?_
  refine T.region ?_
  refine TL.cons rfl (T1.ltI_split rfl rfl (fun h5 => ?_) (fun h5 => ?_))
  ·
    obtain ⟨⟨k, w⟩, hx0⟩ : ∃ e, es[i]? = some e := ⟨_, List.getElem?_eq_getElem (by omega)⟩
    obtain ⟨b_, o_, rfl, hrd⟩ := hr.at (by omega) P
    have hrde : ∀ C : Ctx, C.w0 = w0 → C.M = [] → ∀ L, Inc Ps L → RdN C L ⟨b_, o_ + i * 2, none⟩ [.int .i64 k, .int .i64 w] := fun C h0 hm L hL => by have h_ := ((hrd C h0 hm L hL).elem (k := 2) (n := es.length) (ev_len es) (by omega : i < es.length)).1; rwa [ev_at hx0] at h_
    obtain ⟨as_, cs_, hse⟩ := hsl.formT (n := acc.length) (by decide) (ev_len acc)
    subst hse
    refine TL.nil ?_
    refine T.seq ?_
    refine T.cond_t rfl ?_
    refine T.skip ?_
    refine T.seq ?_
    refine T.block ?_
    refine T.seq ?_
    refine T.region ?_
    refine TL.cons rfl (V1.t (V1.indexAddrS ty_42 sz_62 rfl rfl (by omega) (by omega)) ?_)
    refine TL.cons rfl (V1.t (V1.loadN (vs := [.int .i64 k, .int .i64 w]) one_62 sz_62 rfl (hrde _ rfl rfl _ z_D) rfl) ?_)
    refine TL.cons rfl (T1.allocN 2 zr_62 rfl (fun b7 => ?_))
    refine TL.cons rfl (T1.storeN rfl rfl sz_62 (ones rfl) z_G (by rfl) (by rfl) ?_)
    refine TL.nil ?_
    refine T.seq ?_
    obtain hg | hg | hg | hg | hg | hg : k < 1 ∨ (1 ≤ k ∧ 4 ≤ k) ∨ (1 ≤ k ∧ k < 4 ∧ w < 1) ∨ (1 ≤ k ∧ k < 4 ∧ 1 ≤ w ∧ 6 < w) ∨ (1 ≤ k ∧ k < 4 ∧ 1 ≤ w ∧ w ≤ 6 ∧ 16 ≤ acc.length) ∨ (1 ≤ k ∧ k < 4 ∧ 1 ≤ w ∧ w ≤ 6 ∧ acc.length < 16) := by omega
    ·
      refine T.region ?_
      refine TL.cons rfl (V1.t (V1.fieldAddr fl_62_0 rfl) ?_)
      refine TL.cons rfl (V1.t (V1.load1 (v := .int .i64 k) one_3 rfl (rd_at (off := 0) (i := 0) (cs := [.int .i64 k, .int .i64 w]) z_B rfl)) ?_)
      refine TL.cons rfl (V1.t (V1.geI (r := false) rfl rfl (decide_eq_false (by omega))) ?_)
      refine TL.cons rfl (V1.t (V1.move' z_E) ?_)
      refine TL.no rfl ?_
      refine TL.no rfl ?_
      refine TL.no rfl ?_
      refine TL.cons rfl (V1.t (V1.pick rfl z_E) ?_)
      refine TL.cons rfl (V1.t (V1.move' z_E) ?_)
      refine TL.no rfl ?_
      refine TL.no rfl ?_
      refine TL.no rfl ?_
      refine TL.cons rfl (V1.t (V1.pick rfl z_E) ?_)
      refine TL.cons rfl (V1.t (V1.move' z_E) ?_)
      refine TL.no rfl ?_
      refine TL.no rfl ?_
      refine TL.no rfl ?_
      refine TL.cons rfl (V1.t (V1.pick rfl z_E) ?_)
      refine TL.cons rfl (V1.t (V1.move' z_E) ?_)
      refine TL.no rfl ?_
      refine TL.no rfl ?_
      refine TL.no rfl ?_
      refine TL.cons rfl (V1.t (V1.pick rfl z_E) ?_)
      refine TL.nil ?_
      refine T.cond_f rfl ?_
      refine T.skip ?_
      refine T.live (l := [(1, _), (5, _), (28, _), (29, _), (30, _)]) (.cons z_E (.cons z_E (.cons z_E (.cons z_E (.cons z_E .nil))))) (fun e_ => ?_)
      refine T.region ?_
      refine TL.cons rfl (V1.t (V1.add (c := ((i + 1 : Nat) : Int)) rfl rfl (by rw [wrap_i64 _ (by omega) (by omega)]; omega)) ?_)
      refine TL.cons rfl (V1.t (V1.move' z_E) ?_)
      refine TL.nil ?_
      exact ⟨(i + 1, .slice as_ acc.length cs_, Ls, acc), Ls ++ G, _, (by simp only; omega), (.cons rfl (.cons rfl .nil)), (.cons rfl (.cons rfl (.cons rfl .nil))), z_A, ⟨rfl, by simp only; omega, hsl, hac, hgo⟩⟩
    ·
      refine T.region ?_
      refine TL.cons rfl (V1.t (V1.fieldAddr fl_62_0 rfl) ?_)
      refine TL.cons rfl (V1.t (V1.load1 (v := .int .i64 k) one_3 rfl (rd_at (off := 0) (i := 0) (cs := [.int .i64 k, .int .i64 w]) z_B rfl)) ?_)
      refine TL.cons rfl (V1.t (V1.geI (r := true) rfl rfl (decide_eq_true (by omega))) ?_)
      refine TL.cons rfl (V1.t (V1.move' z_E) ?_)
      refine TL.cons rfl (V1.t (V1.fieldAddr fl_62_0 rfl) ?_)
      refine TL.cons rfl (V1.t (V1.load1 (v := .int .i64 k) one_3 rfl (rd_at (off := 0) (i := 0) (cs := [.int .i64 k, .int .i64 w]) z_B rfl)) ?_)
      refine TL.cons rfl (V1.t (V1.ltI (r := false) rfl rfl (decide_eq_false (by omega))) ?_)
      refine TL.cons rfl (V1.t (V1.pick rfl z_E) ?_)
      refine TL.cons rfl (V1.t (V1.move' z_E) ?_)
      refine TL.no rfl ?_
      refine TL.no rfl ?_
      refine TL.no rfl ?_
      refine TL.cons rfl (V1.t (V1.pick rfl z_E) ?_)
      refine TL.cons rfl (V1.t (V1.move' z_E) ?_)
      refine TL.no rfl ?_
      refine TL.no rfl ?_
      refine TL.no rfl ?_
      refine TL.cons rfl (V1.t (V1.pick rfl z_E) ?_)
      refine TL.cons rfl (V1.t (V1.move' z_E) ?_)
      refine TL.no rfl ?_
      refine TL.no rfl ?_
      refine TL.no rfl ?_
      refine TL.cons rfl (V1.t (V1.pick rfl z_E) ?_)
      refine TL.nil ?_
      refine T.cond_f rfl ?_
      refine T.skip ?_
      refine T.live (l := [(1, _), (5, _), (28, _), (29, _), (30, _)]) (.cons z_E (.cons z_E (.cons z_E (.cons z_E (.cons z_E .nil))))) (fun e_ => ?_)
      refine T.region ?_
      refine TL.cons rfl (V1.t (V1.add (c := ((i + 1 : Nat) : Int)) rfl rfl (by rw [wrap_i64 _ (by omega) (by omega)]; omega)) ?_)
      refine TL.cons rfl (V1.t (V1.move' z_E) ?_)
      refine TL.nil ?_
      exact ⟨(i + 1, .slice as_ acc.length cs_, Ls, acc), Ls ++ G, _, (by simp only; omega), (.cons rfl (.cons rfl .nil)), (.cons rfl (.cons rfl (.cons rfl .nil))), z_A, ⟨rfl, by simp only; omega, hsl, hac, hgo⟩⟩
    ·
      refine T.region ?_
      refine TL.cons rfl (V1.t (V1.fieldAddr fl_62_0 rfl) ?_)
      refine TL.cons rfl (V1.t (V1.load1 (v := .int .i64 k) one_3 rfl (rd_at (off := 0) (i := 0) (cs := [.int .i64 k, .int .i64 w]) z_B rfl)) ?_)
      refine TL.cons rfl (V1.t (V1.geI (r := true) rfl rfl (decide_eq_true (by omega))) ?_)
      refine TL.cons rfl (V1.t (V1.move' z_E) ?_)
      refine TL.cons rfl (V1.t (V1.fieldAddr fl_62_0 rfl) ?_)
      refine TL.cons rfl (V1.t (V1.load1 (v := .int .i64 k) one_3 rfl (rd_at (off := 0) (i := 0) (cs := [.int .i64 k, .int .i64 w]) z_B rfl)) ?_)
      refine TL.cons rfl (V1.t (V1.ltI (r := true) rfl rfl (decide_eq_true (by omega))) ?_)
      refine TL.cons rfl (V1.t (V1.pick rfl z_E) ?_)
      refine TL.cons rfl (V1.t (V1.move' z_E) ?_)
      refine TL.cons rfl (V1.t (V1.fieldAddr fl_62_1 rfl) ?_)
      refine TL.cons rfl (V1.t (V1.load1 (v := .int .i64 w) one_3 rfl (rd_at (off := 0) (i := 1) (cs := [.int .i64 k, .int .i64 w]) z_B rfl)) ?_)
      refine TL.cons rfl (V1.t (V1.geI (r := false) rfl rfl (decide_eq_false (by omega))) ?_)
      refine TL.cons rfl (V1.t (V1.pick rfl z_E) ?_)
      refine TL.cons rfl (V1.t (V1.move' z_E) ?_)
      refine TL.no rfl ?_
      refine TL.no rfl ?_
      refine TL.no rfl ?_
      refine TL.cons rfl (V1.t (V1.pick rfl z_E) ?_)
      refine TL.cons rfl (V1.t (V1.move' z_E) ?_)
      refine TL.no rfl ?_
      refine TL.no rfl ?_
      refine TL.no rfl ?_
      refine TL.cons rfl (V1.t (V1.pick rfl z_E) ?_)
      refine TL.nil ?_
      refine T.cond_f rfl ?_
      refine T.skip ?_
      refine T.live (l := [(1, _), (5, _), (28, _), (29, _), (30, _)]) (.cons z_E (.cons z_E (.cons z_E (.cons z_E (.cons z_E .nil))))) (fun e_ => ?_)
      refine T.region ?_
      refine TL.cons rfl (V1.t (V1.add (c := ((i + 1 : Nat) : Int)) rfl rfl (by rw [wrap_i64 _ (by omega) (by omega)]; omega)) ?_)
      refine TL.cons rfl (V1.t (V1.move' z_E) ?_)
      refine TL.nil ?_
      exact ⟨(i + 1, .slice as_ acc.length cs_, Ls, acc), Ls ++ G, _, (by simp only; omega), (.cons rfl (.cons rfl .nil)), (.cons rfl (.cons rfl (.cons rfl .nil))), z_A, ⟨rfl, by simp only; omega, hsl, hac, hgo⟩⟩
    ·
      refine T.region ?_
      refine TL.cons rfl (V1.t (V1.fieldAddr fl_62_0 rfl) ?_)
      refine TL.cons rfl (V1.t (V1.load1 (v := .int .i64 k) one_3 rfl (rd_at (off := 0) (i := 0) (cs := [.int .i64 k, .int .i64 w]) z_B rfl)) ?_)
      refine TL.cons rfl (V1.t (V1.geI (r := true) rfl rfl (decide_eq_true (by omega))) ?_)
      refine TL.cons rfl (V1.t (V1.move' z_E) ?_)
      refine TL.cons rfl (V1.t (V1.fieldAddr fl_62_0 rfl) ?_)
      refine TL.cons rfl (V1.t (V1.load1 (v := .int .i64 k) one_3 rfl (rd_at (off := 0) (i := 0) (cs := [.int .i64 k, .int .i64 w]) z_B rfl)) ?_)
      refine TL.cons rfl (V1.t (V1.ltI (r := true) rfl rfl (decide_eq_true (by omega))) ?_)
      refine TL.cons rfl (V1.t (V1.pick rfl z_E) ?_)
      refine TL.cons rfl (V1.t (V1.move' z_E) ?_)
      refine TL.cons rfl (V1.t (V1.fieldAddr fl_62_1 rfl) ?_)
      refine TL.cons rfl (V1.t (V1.load1 (v := .int .i64 w) one_3 rfl (rd_at (off := 0) (i := 1) (cs := [.int .i64 k, .int .i64 w]) z_B rfl)) ?_)
      refine TL.cons rfl (V1.t (V1.geI (r := true) rfl rfl (decide_eq_true (by omega))) ?_)
      refine TL.cons rfl (V1.t (V1.pick rfl z_E) ?_)
      refine TL.cons rfl (V1.t (V1.move' z_E) ?_)
      refine TL.cons rfl (V1.t (V1.fieldAddr fl_62_1 rfl) ?_)
      refine TL.cons rfl (V1.t (V1.load1 (v := .int .i64 w) one_3 rfl (rd_at (off := 0) (i := 1) (cs := [.int .i64 k, .int .i64 w]) z_B rfl)) ?_)
      refine TL.cons rfl (V1.t (V1.leI (r := false) rfl rfl (decide_eq_false (by omega))) ?_)
      refine TL.cons rfl (V1.t (V1.pick rfl z_E) ?_)
      refine TL.cons rfl (V1.t (V1.move' z_E) ?_)
      refine TL.no rfl ?_
      refine TL.no rfl ?_
      refine TL.no rfl ?_
      refine TL.cons rfl (V1.t (V1.pick rfl z_E) ?_)
      refine TL.nil ?_
      refine T.cond_f rfl ?_
      refine T.skip ?_
      refine T.live (l := [(1, _), (5, _), (28, _), (29, _), (30, _)]) (.cons z_E (.cons z_E (.cons z_E (.cons z_E (.cons z_E .nil))))) (fun e_ => ?_)
      refine T.region ?_
      refine TL.cons rfl (V1.t (V1.add (c := ((i + 1 : Nat) : Int)) rfl rfl (by rw [wrap_i64 _ (by omega) (by omega)]; omega)) ?_)
      refine TL.cons rfl (V1.t (V1.move' z_E) ?_)
      refine TL.nil ?_
      exact ⟨(i + 1, .slice as_ acc.length cs_, Ls, acc), Ls ++ G, _, (by simp only; omega), (.cons rfl (.cons rfl .nil)), (.cons rfl (.cons rfl (.cons rfl .nil))), z_A, ⟨rfl, by simp only; omega, hsl, hac, hgo⟩⟩
    ·
      refine T.region ?_
      refine TL.cons rfl (V1.t (V1.fieldAddr fl_62_0 rfl) ?_)
      refine TL.cons rfl (V1.t (V1.load1 (v := .int .i64 k) one_3 rfl (rd_at (off := 0) (i := 0) (cs := [.int .i64 k, .int .i64 w]) z_B rfl)) ?_)
      refine TL.cons rfl (V1.t (V1.geI (r := true) rfl rfl (decide_eq_true (by omega))) ?_)
      refine TL.cons rfl (V1.t (V1.move' z_E) ?_)
      refine TL.cons rfl (V1.t (V1.fieldAddr fl_62_0 rfl) ?_)
      refine TL.cons rfl (V1.t (V1.load1 (v := .int .i64 k) one_3 rfl (rd_at (off := 0) (i := 0) (cs := [.int .i64 k, .int .i64 w]) z_B rfl)) ?_)
      refine TL.cons rfl (V1.t (V1.ltI (r := true) rfl rfl (decide_eq_true (by omega))) ?_)
      refine TL.cons rfl (V1.t (V1.pick rfl z_E) ?_)
      refine TL.cons rfl (V1.t (V1.move' z_E) ?_)
      refine TL.cons rfl (V1.t (V1.fieldAddr fl_62_1 rfl) ?_)
      refine TL.cons rfl (V1.t (V1.load1 (v := .int .i64 w) one_3 rfl (rd_at (off := 0) (i := 1) (cs := [.int .i64 k, .int .i64 w]) z_B rfl)) ?_)
      refine TL.cons rfl (V1.t (V1.geI (r := true) rfl rfl (decide_eq_true (by omega))) ?_)
      refine TL.cons rfl (V1.t (V1.pick rfl z_E) ?_)
      refine TL.cons rfl (V1.t (V1.move' z_E) ?_)
      refine TL.cons rfl (V1.t (V1.fieldAddr fl_62_1 rfl) ?_)
      refine TL.cons rfl (V1.t (V1.load1 (v := .int .i64 w) one_3 rfl (rd_at (off := 0) (i := 1) (cs := [.int .i64 k, .int .i64 w]) z_B rfl)) ?_)
      refine TL.cons rfl (V1.t (V1.leI (r := true) rfl rfl (decide_eq_true (by omega))) ?_)
      refine TL.cons rfl (V1.t (V1.pick rfl z_E) ?_)
      refine TL.cons rfl (V1.t (V1.move' z_E) ?_)
      refine TL.cons rfl (V1.t (V1.move' z_E) ?_)
      refine TL.cons rfl (V1.t (V1.lenSl ty_42 rfl) ?_)
      refine TL.cons rfl (V1.t (V1.ltI (r := false) rfl rfl (decide_eq_false (by omega))) ?_)
      refine TL.cons rfl (V1.t (V1.pick rfl z_E) ?_)
      refine TL.nil ?_
      refine T.cond_f rfl ?_
      refine T.skip ?_
      refine T.live (l := [(1, _), (5, _), (28, _), (29, _), (30, _)]) (.cons z_E (.cons z_E (.cons z_E (.cons z_E (.cons z_E .nil))))) (fun e_ => ?_)
      refine T.region ?_
      refine TL.cons rfl (V1.t (V1.add (c := ((i + 1 : Nat) : Int)) rfl rfl (by rw [wrap_i64 _ (by omega) (by omega)]; omega)) ?_)
      refine TL.cons rfl (V1.t (V1.move' z_E) ?_)
      refine TL.nil ?_
      exact ⟨(i + 1, .slice as_ acc.length cs_, Ls, acc), Ls ++ G, _, (by simp only; omega), (.cons rfl (.cons rfl .nil)), (.cons rfl (.cons rfl (.cons rfl .nil))), z_A, ⟨rfl, by simp only; omega, hsl, hac, hgo⟩⟩
    ·
      have hok : goneE (k, w) = true := decide_eq_true ⟨hg.1, hg.2.1, hg.2.2.1, hg.2.2.2.1⟩
      refine T.region ?_
      refine TL.cons rfl (V1.t (V1.fieldAddr fl_62_0 rfl) ?_)
      refine TL.cons rfl (V1.t (V1.load1 (v := .int .i64 k) one_3 rfl (rd_at (off := 0) (i := 0) (cs := [.int .i64 k, .int .i64 w]) z_B rfl)) ?_)
      refine TL.cons rfl (V1.t (V1.geI (r := true) rfl rfl (decide_eq_true (by omega))) ?_)
      refine TL.cons rfl (V1.t (V1.move' z_E) ?_)
      refine TL.cons rfl (V1.t (V1.fieldAddr fl_62_0 rfl) ?_)
      refine TL.cons rfl (V1.t (V1.load1 (v := .int .i64 k) one_3 rfl (rd_at (off := 0) (i := 0) (cs := [.int .i64 k, .int .i64 w]) z_B rfl)) ?_)
      refine TL.cons rfl (V1.t (V1.ltI (r := true) rfl rfl (decide_eq_true (by omega))) ?_)
      refine TL.cons rfl (V1.t (V1.pick rfl z_E) ?_)
      refine TL.cons rfl (V1.t (V1.move' z_E) ?_)
      refine TL.cons rfl (V1.t (V1.fieldAddr fl_62_1 rfl) ?_)
      refine TL.cons rfl (V1.t (V1.load1 (v := .int .i64 w) one_3 rfl (rd_at (off := 0) (i := 1) (cs := [.int .i64 k, .int .i64 w]) z_B rfl)) ?_)
      refine TL.cons rfl (V1.t (V1.geI (r := true) rfl rfl (decide_eq_true (by omega))) ?_)
      refine TL.cons rfl (V1.t (V1.pick rfl z_E) ?_)
      refine TL.cons rfl (V1.t (V1.move' z_E) ?_)
      refine TL.cons rfl (V1.t (V1.fieldAddr fl_62_1 rfl) ?_)
      refine TL.cons rfl (V1.t (V1.load1 (v := .int .i64 w) one_3 rfl (rd_at (off := 0) (i := 1) (cs := [.int .i64 k, .int .i64 w]) z_B rfl)) ?_)
      refine TL.cons rfl (V1.t (V1.leI (r := true) rfl rfl (decide_eq_true (by omega))) ?_)
      refine TL.cons rfl (V1.t (V1.pick rfl z_E) ?_)
      refine TL.cons rfl (V1.t (V1.move' z_E) ?_)
      refine TL.cons rfl (V1.t (V1.move' z_E) ?_)
      refine TL.cons rfl (V1.t (V1.lenSl ty_42 rfl) ?_)
      refine TL.cons rfl (V1.t (V1.ltI (r := true) rfl rfl (decide_eq_true (by omega))) ?_)
      refine TL.cons rfl (V1.t (V1.pick rfl z_E) ?_)
      refine TL.nil ?_
      refine T.cond_t rfl ?_
      refine T.live (l := [(1, _), (5, _), (7, _), (28, _), (29, _), (30, _)]) (.cons z_E (.cons z_E (.cons z_E (.cons z_E (.cons z_E (.cons z_E .nil)))))) (fun e_ => ?_)
      refine T.region ?_
      refine TL.cons rfl (V1.t (V1.move' z_E) ?_)
      refine TL.cons rfl (V1.t (V1.loadN (vs := [.int .i64 k, .int .i64 w]) one_62 sz_62 rfl (RdN.whole z_B) rfl) ?_)
      refine TL.cons rfl (T1.buildOne (cs := [.int .i64 k, .int .i64 w]) ty_42 sz_62 zr_62 (by decide) rfl (by rfl) (fun b59 => ?_))
      refine TL.cons rfl (T1.appendG ty_42 kd_42 sz_62 by_62 zr_62 rfl (by decide) (by decide) rfl rfl (.inr rfl) hsl (.sl (vs := [.int .i64 k, .int .i64 w]) (RdN.at0 z_B) (by rfl)) (ones rfl) 16 (by rw [ev_len]; show _ + 2 ≤ _; omega) (by decide) z_C (fun s2 Ls2 hsl2 => ?_))
      rw [ev_snoc] at hsl2
      refine TL.cons rfl (V1.t (V1.assign' z_E) ?_)
      refine TL.nil ?_
      refine T.region ?_
      refine TL.cons rfl (V1.t (V1.add (c := ((i + 1 : Nat) : Int)) rfl rfl (by rw [wrap_i64 _ (by omega) (by omega)]; omega)) ?_)
      refine TL.cons rfl (V1.t (V1.move' z_E) ?_)
      refine TL.nil ?_
      exact ⟨(i + 1, s2, Ls2, acc ++ [(k, w)]), Ls2 ++ G, _, (by simp only; omega), (.cons rfl (.cons rfl .nil)), (.cons rfl (.cons rfl (.cons rfl .nil))), z_A, ⟨rfl, by simp only; omega, hsl2, by simp only [List.length_append, List.length_singleton]; omega, fun e he => by rcases List.mem_append.1 he with he | he; exact hgo e he; rw [List.mem_singleton] at he; subst he; exact hok⟩⟩
  ·
    obtain rfl : i = es.length := by omega
    obtain ⟨a5, c5, hse⟩ := hsl.formT (n := acc.length) (by decide) (ev_len acc)
    subst hse
    refine TL.nil ?_
    refine T.seq ?_
    refine T.cond_f rfl ?_
    refine T.exit ?_
    refine T.seq ?_
    refine T.region ?_
    refine TL.cons rfl (V1.t (V1.move' z_E) ?_)
    refine TL.cons rfl (T1.callC has_22 rfl rfl (Run_own w0 (Ls ++ []) (RowR.ofSl hsl Inc.here (by decide) acc.length (ev_len acc))) z_D (fun v_ Y_ hY => ?_))
    obtain ⟨vt, vk, vb, Lt, Lk, Lb, Q, xt, xk, rfl, rfl, hst, hxt, hsk, hxk, hsb⟩ := hY
    simp only [List.append_assoc]
    obtain ⟨ts, hts, rfl, hA⟩ := hxt.items
    have hlt : ts.length = (sgOut acc).told.length := by rw [← hts, List.length_map]
    have hrt := RowR.ofSl (w0 := w0) hst Inc.refl (by decide) ts.length (tdC_len hA)
    obtain ⟨at_, ct_, rfl⟩ := hrt.form
    refine TL.cons rfl (V1.t (V1.move' z_E) ?_)
    refine TL.cons rfl (V1.t (V1.extract rfl (by rfl)) ?_)
    refine TL.cons rfl (V1.t (V1.extract rfl (by rfl)) ?_)
    refine TL.cons rfl (V1.t (V1.extract rfl (by rfl)) ?_)
    refine TL.cons rfl (V1.t (V1.extract rfl (by rfl)) ?_)
    refine TL.cons rfl (V1.t (V1.assign' z_E) ?_)
    refine TL.cons rfl (V1.t (V1.assign' z_E) ?_)
    refine TL.cons rfl (V1.t (V1.assign' z_E) ?_)
    refine TL.cons rfl (V1.t (V1.assign' z_E) ?_)
    refine TL.nil ?_
    refine T.seq ?_
    refine T.region ?_
    refine TL.cons rfl (T1.makeMap (fun b12 => ?_))
    refine TL.cons rfl (V1.t (V1.assign' z_E) ?_)
    refine TL.nil ?_
    refine T.seq ?_
    refine T.seq ?_
    refine T.region ?_
    refine TL.cons rfl (V1.t (V1.move' z_E) ?_)
    refine TL.cons rfl (V1.t (V1.lenSl ty_44 rfl) ?_)
    refine TL.cons rfl (V1.t (V1.move' z_E) ?_)
    refine TL.nil ?_
    refine T.block ?_
    refine T.loopL (σ := Nat × List Nat) (l0 := [(5, _), (8, _), (11, _), (12, _), (70, _), (71, _)]) (fun x => [(72, .int .i64 (x.1 : Nat))]) (fun x L => L = (MB b12 (kvI x.2) : Blk) :: (Lt ++ (Lk ++ (Lb ++ (Q ++ (Ls ++ G))))) ∧ x.1 ≤ gs.length ∧ ∀ n ∈ x.2, 1 ≤ n ∧ n ≤ 6) (fun x => gs.length - x.1) (0, []) (.cons rfl .nil) (.cons z_E (.cons z_E (.cons z_E (.cons z_E (.cons z_E (.cons z_E .nil)))))) z_A (⟨rfl, Nat.zero_le _, fun n h => by cases h⟩) ?_
    rintro ⟨j, ns⟩ e_ L ⟨rfl, hj, hns⟩
    simp only at hj hns
    dsimp only
    refine T.seq ?_
    refine T.region ?_
    refine TL.cons rfl (T1.ltI_split rfl rfl (fun h13 => ?_) (fun h13 => ?_))
    ·
      obtain ⟨g, hg1⟩ : ∃ g, gs[j]? = some g := ⟨_, List.getElem?_eq_getElem (by omega)⟩
      obtain ⟨bg_, og_, rfl, hrdg⟩ := hg0.at (by omega) P
      refine TL.nil ?_
      refine T.seq ?_
      refine T.cond_t rfl ?_
      refine T.skip ?_
      refine T.seq ?_
      refine T.block ?_
      refine T.seq ?_
      refine T.region ?_
      refine TL.cons rfl (V1.t (V1.indexAddrS ty_44 sz_3 rfl rfl (by omega) (by omega)) ?_)
      refine TL.cons rfl (V1.t (V1.load1 (v := .int .i64 g) one_3 rfl (show Rd _ _ ⟨_, _ + j * 1, none⟩ _ from by rw [Nat.mul_one]; exact hrdg _ rfl rfl _ z_D j _ (by rw [List.getElem?_map, hg1]; rfl))) ?_)
      refine TL.cons rfl (V1.t (V1.assign' z_E) ?_)
      refine TL.nil ?_
      refine T.seq ?_
      obtain hg | hg | hg | hg : g < 1 ∨ (1 ≤ g ∧ 6 < g) ∨ (1 ≤ g ∧ g ≤ 6 ∧ 6 ≤ ns.length) ∨ (1 ≤ g ∧ g ≤ 6 ∧ ns.length < 6) := by omega
      ·
        refine T.region ?_
        refine TL.cons rfl (V1.t (V1.move' z_E) ?_)
        refine TL.cons rfl (V1.t (V1.geI (r := false) rfl rfl (decide_eq_false (by omega))) ?_)
        refine TL.cons rfl (V1.t (V1.move' z_E) ?_)
        refine TL.no rfl ?_
        refine TL.no rfl ?_
        refine TL.cons rfl (V1.t (V1.pick rfl z_E) ?_)
        refine TL.cons rfl (V1.t (V1.move' z_E) ?_)
        refine TL.no rfl ?_
        refine TL.no rfl ?_
        refine TL.no rfl ?_
        refine TL.cons rfl (V1.t (V1.pick rfl z_E) ?_)
        refine TL.nil ?_
        refine T.cond_f rfl ?_
        refine T.skip ?_
        refine T.live (l := [(5, _), (8, _), (11, _), (12, _), (70, _), (71, _), (72, _)]) (.cons z_E (.cons z_E (.cons z_E (.cons z_E (.cons z_E (.cons z_E (.cons z_E .nil))))))) (fun e_ => ?_)
        refine T.region ?_
        refine TL.cons rfl (V1.t (V1.add (c := ((j + 1 : Nat) : Int)) rfl rfl (by rw [wrap_i64 _ (by omega) (by omega)]; omega)) ?_)
        refine TL.cons rfl (V1.t (V1.move' z_E) ?_)
        refine TL.nil ?_
        exact ⟨(j + 1, ns), (MB b12 (kvI (ns)) : Blk) :: (Lt ++ (Lk ++ (Lb ++ (Q ++ (Ls ++ G))))), _, (by simp only; omega), (.cons rfl .nil), (.cons rfl (.cons rfl (.cons rfl (.cons rfl (.cons rfl (.cons rfl .nil)))))), z_A, ⟨rfl, by simp only; omega, hns⟩⟩
      ·
        refine T.region ?_
        refine TL.cons rfl (V1.t (V1.move' z_E) ?_)
        refine TL.cons rfl (V1.t (V1.geI (r := true) rfl rfl (decide_eq_true (by omega))) ?_)
        refine TL.cons rfl (V1.t (V1.move' z_E) ?_)
        refine TL.cons rfl (V1.t (V1.move' z_E) ?_)
        refine TL.cons rfl (V1.t (V1.leI (r := false) rfl rfl (decide_eq_false (by omega))) ?_)
        refine TL.cons rfl (V1.t (V1.pick rfl z_E) ?_)
        refine TL.cons rfl (V1.t (V1.move' z_E) ?_)
        refine TL.no rfl ?_
        refine TL.no rfl ?_
        refine TL.no rfl ?_
        refine TL.cons rfl (V1.t (V1.pick rfl z_E) ?_)
        refine TL.nil ?_
        refine T.cond_f rfl ?_
        refine T.skip ?_
        refine T.live (l := [(5, _), (8, _), (11, _), (12, _), (70, _), (71, _), (72, _)]) (.cons z_E (.cons z_E (.cons z_E (.cons z_E (.cons z_E (.cons z_E (.cons z_E .nil))))))) (fun e_ => ?_)
        refine T.region ?_
        refine TL.cons rfl (V1.t (V1.add (c := ((j + 1 : Nat) : Int)) rfl rfl (by rw [wrap_i64 _ (by omega) (by omega)]; omega)) ?_)
        refine TL.cons rfl (V1.t (V1.move' z_E) ?_)
        refine TL.nil ?_
        exact ⟨(j + 1, ns), (MB b12 (kvI (ns)) : Blk) :: (Lt ++ (Lk ++ (Lb ++ (Q ++ (Ls ++ G))))), _, (by simp only; omega), (.cons rfl .nil), (.cons rfl (.cons rfl (.cons rfl (.cons rfl (.cons rfl (.cons rfl .nil)))))), z_A, ⟨rfl, by simp only; omega, hns⟩⟩
      ·
        refine T.region ?_
        refine TL.cons rfl (V1.t (V1.move' z_E) ?_)
        refine TL.cons rfl (V1.t (V1.geI (r := true) rfl rfl (decide_eq_true (by omega))) ?_)
        refine TL.cons rfl (V1.t (V1.move' z_E) ?_)
        refine TL.cons rfl (V1.t (V1.move' z_E) ?_)
        refine TL.cons rfl (V1.t (V1.leI (r := true) rfl rfl (decide_eq_true (by omega))) ?_)
        refine TL.cons rfl (V1.t (V1.pick rfl z_E) ?_)
        refine TL.cons rfl (V1.t (V1.move' z_E) ?_)
        refine TL.cons rfl (V1.t (V1.move' z_E) ?_)
        refine TL.cons rfl (V1.t (V1.lenMap ty_63 rfl z_B) ?_)
        rw [show (kvI ns).length = ns.length from List.length_map ..]
        refine TL.cons rfl (V1.t (V1.ltI (r := false) rfl rfl (decide_eq_false (by omega))) ?_)
        refine TL.cons rfl (V1.t (V1.pick rfl z_E) ?_)
        refine TL.nil ?_
        refine T.cond_f rfl ?_
        refine T.skip ?_
        refine T.live (l := [(5, _), (8, _), (11, _), (12, _), (70, _), (71, _), (72, _)]) (.cons z_E (.cons z_E (.cons z_E (.cons z_E (.cons z_E (.cons z_E (.cons z_E .nil))))))) (fun e_ => ?_)
        refine T.region ?_
        refine TL.cons rfl (V1.t (V1.add (c := ((j + 1 : Nat) : Int)) rfl rfl (by rw [wrap_i64 _ (by omega) (by omega)]; omega)) ?_)
        refine TL.cons rfl (V1.t (V1.move' z_E) ?_)
        refine TL.nil ?_
        exact ⟨(j + 1, ns), (MB b12 (kvI (ns)) : Blk) :: (Lt ++ (Lk ++ (Lb ++ (Q ++ (Ls ++ G))))), _, (by simp only; omega), (.cons rfl .nil), (.cons rfl (.cons rfl (.cons rfl (.cons rfl (.cons rfl (.cons rfl .nil)))))), z_A, ⟨rfl, by simp only; omega, hns⟩⟩
      ·
        obtain ⟨n, rfl⟩ : ∃ n : Nat, g = (n : Int) := ⟨g.toNat, by omega⟩
        have hn6 : 1 ≤ n ∧ n ≤ 6 := by omega
        refine T.region ?_
        refine TL.cons rfl (V1.t (V1.move' z_E) ?_)
        refine TL.cons rfl (V1.t (V1.geI (r := true) rfl rfl (decide_eq_true (by omega))) ?_)
        refine TL.cons rfl (V1.t (V1.move' z_E) ?_)
        refine TL.cons rfl (V1.t (V1.move' z_E) ?_)
        refine TL.cons rfl (V1.t (V1.leI (r := true) rfl rfl (decide_eq_true (by omega))) ?_)
        refine TL.cons rfl (V1.t (V1.pick rfl z_E) ?_)
        refine TL.cons rfl (V1.t (V1.move' z_E) ?_)
        refine TL.cons rfl (V1.t (V1.move' z_E) ?_)
        refine TL.cons rfl (V1.t (V1.lenMap ty_63 rfl z_B) ?_)
        rw [show (kvI ns).length = ns.length from List.length_map ..]
        refine TL.cons rfl (V1.t (V1.ltI (r := true) rfl rfl (decide_eq_true (by omega))) ?_)
        refine TL.cons rfl (V1.t (V1.pick rfl z_E) ?_)
        refine TL.nil ?_
        refine T.cond_t rfl ?_
        refine T.live (l := [(5, _), (8, _), (11, _), (12, _), (14, _), (70, _), (71, _), (72, _)]) (.cons z_E (.cons z_E (.cons z_E (.cons z_E (.cons z_E (.cons z_E (.cons z_E (.cons z_E .nil)))))))) (fun e_ => ?_)
        refine T.region ?_
        refine TL.cons rfl (V1.t (V1.move' z_E) ?_)
        refine TL.cons rfl (V1.t (V1.move' z_E) ?_)
        refine TL.cons rfl (T1.mapUpdate (q := qI (n : Int)) (kv' := kvI (addI ns n)) ty_63 ty_3 rfl rfl rfl rfl (kvI_now _ _) (kvI_bits _ _) (kvI_upd _ _) z_G ?_)
        refine TL.nil ?_
        refine T.region ?_
        refine TL.cons rfl (V1.t (V1.add (c := ((j + 1 : Nat) : Int)) rfl rfl (by rw [wrap_i64 _ (by omega) (by omega)]; omega)) ?_)
        refine TL.cons rfl (V1.t (V1.move' z_E) ?_)
        refine TL.nil ?_
        exact ⟨(j + 1, addI ns n), (MB b12 (kvI (addI ns n)) : Blk) :: (Lt ++ (Lk ++ (Lb ++ (Q ++ (Ls ++ G))))), _, (by simp only; omega), (.cons rfl .nil), (.cons rfl (.cons rfl (.cons rfl (.cons rfl (.cons rfl (.cons rfl .nil)))))), z_A, ⟨rfl, by simp only; omega, addI_6 hns hn6⟩⟩
    ·
      obtain rfl : j = gs.length := by omega
      refine TL.nil ?_
      refine T.seq ?_
      refine T.cond_f rfl ?_
      refine T.exit ?_
      refine T.seq ?_
      refine T.seq ?_
      refine T.region ?_
      refine TL.cons rfl (V1.t (V1.assign' z_E) ?_)
      refine TL.nil ?_
      refine T.block ?_
      refine T.loopL (σ := Nat × Value × List Blk × List (Int × Int) × List (Int × Int)) (l0 := [(8, _), (11, _), (12, _)]) (fun x => [(15, .int .i64 (x.1 : Nat)), (5, x.2.1)]) (fun x L => L = x.2.2.1 ++ ((MB b12 (kvI ns) : Blk) :: (Lt ++ (Lk ++ (Lb ++ (Q ++ G))))) ∧ 1 ≤ x.1 ∧ x.1 ≤ 7 ∧ SlG (some 62) x.2.1 ((x.2.2.2.1 ++ (acc ++ x.2.2.2.2)).flatMap evC) 2 x.2.2.1 ∧ x.2.2.2.1.length + x.2.2.2.2.length + 2 ≤ 2 * x.1 ∧ (∀ e ∈ x.2.2.2.1, BareE ns e) ∧ ∀ e ∈ x.2.2.2.2, BareE ns e) (fun x => 7 - x.1) (1, .slice a5 acc.length c5, Ls, [], []) (.cons rfl (.cons rfl .nil)) (.cons z_E (.cons z_E (.cons z_E .nil))) z_A (⟨rfl, Nat.le_refl _, by simp, by simpa using hsl, by simp, (fun e h => by cases h), fun e h => by cases h⟩) ?_
      rintro ⟨n, s0, Ls0, A, B⟩ e_ L ⟨rfl, hn1, hn7, hsl0, hAB, hbA, hbB⟩
      simp only at hn1 hn7 hsl0 hAB hbA hbB
      dsimp only
      refine T.seq ?_
      refine T.seq ?_
      refine T.region ?_
      refine TL.cons rfl (V1.t (V1.move' z_E) ?_)
      refine TL.cons rfl (T1.leI_split rfl rfl (fun h19 => ?_) (fun h19 => ?_))
      ·
        obtain ⟨a6, c6, hse⟩ := hsl0.formT (n := (A ++ (acc ++ B)).length) (by decide) (ev_len _)
        subst hse
        refine TL.nil ?_
        refine T.cond_t rfl ?_
        refine T.skip ?_
        refine T.seq ?_
        refine T.block ?_
        refine T.seq ?_
        refine T.region ?_
        refine TL.cons rfl (V1.t (V1.move' z_E) ?_)
        refine TL.cons rfl (V1.t (V1.move' z_E) ?_)
        refine TL.cons rfl (V1.t (V1.lookup (q := qI (n : Int)) (kv := kvI ns) (v := .bool (decide (n ∈ ns))) ty_63 zr_4 ty_3 rfl rfl rfl z_B (kvI_now _ _) (kvI_find _ _ _)) ?_)
        rcases Classical.em (n ∈ ns) with hin | hin
        ·
          rw [decide_eq_true hin]
          have hbn : BareE ns (4, (n : Int)) := ⟨rfl, n, hin, rfl, by omega, by omega⟩
          refine TL.nil ?_
          refine T.cond_t rfl ?_
          refine T.region ?_
          refine TL.cons rfl (V1.t (V1.move' z_E) ?_)
          refine TL.cons rfl (V1.t (V1.buildF pl_62 zr_62 (.one rfl z_E rfl (.one rfl z_E rfl .nil)) z_H) ?_)
          refine TL.cons rfl (T1.buildOne (cs := [.int .i64 4, .int .i64 (n : Nat)]) ty_42 sz_62 zr_62 (by decide) rfl (by rfl) (fun b99 => ?_))
          refine TL.cons rfl (V1.t (V1.move' z_E) ?_)
          refine TL.cons rfl (V1.t (V1.move' z_E) ?_)
          refine TL.cons rfl (V1.t (V1.buildF pl_62 zr_62 (.one rfl z_E rfl (.one rfl z_E rfl .nil)) z_H) ?_)
          refine TL.cons rfl (T1.buildOne (cs := [.int .i64 4, .int .i64 (n : Nat)]) ty_42 sz_62 zr_62 (by decide) rfl (by rfl) (fun b103 => ?_))
          refine TL.cons rfl (T1.appendG ty_42 kd_42 sz_62 by_62 zr_62 rfl (by decide) (by decide) rfl rfl (.inr rfl) hsl0 (.sl (vs := [.int .i64 4, .int .i64 (n : Nat)]) (RdN.at0 z_B) (by rfl)) (ones rfl) 100 (by rw [ev_len]; simp only [List.length_append]; show _ + 2 ≤ _; omega) (by decide) z_C (fun s3 Ls3 hsl3 => ?_))
          rw [ev_snoc] at hsl3
          have hr3 := RowR.ofSl (w0 := w0) hsl3 Inc.refl (by decide) ((A ++ (acc ++ B)) ++ [((4 : Int), (n : Int))]).length (ev_len _)
          obtain ⟨a7, c7, hse⟩ := hr3.form
          subst hse
          refine TL.cons rfl (T1.appendG ty_42 kd_42 sz_62 by_62 zr_62 rfl (by decide) (by decide) rfl rfl (.inr rfl) (SlG.mk (tg := some 62) (b := b99) (off := 0) (len := 1) (cap := 1) (size := 2) (k := 2) (xs := [.int .i64 4, .int .i64 (n : Nat)]) rfl (by decide) (by decide)) (hr3.src _ rfl rfl _ z_D) ev_ones 100 (by rw [ev_len]; simp only [List.length_append, List.length_singleton]; show 2 + _ ≤ _; omega) (by decide) z_C (fun s4 Ls4 hsl4 => ?_))
          have hsl5 : SlG (some 62) s4 (((4, (n : Int)) :: A ++ (acc ++ (B ++ [(4, (n : Int))]))).flatMap evC) 2 Ls4 := by have e_ : [Value.int .i64 4, Value.int .i64 (n : Int)] ++ ((A ++ (acc ++ B)) ++ [((4 : Int), (n : Int))]).flatMap evC = ((4, (n : Int)) :: A ++ (acc ++ (B ++ [(4, (n : Int))]))).flatMap evC := (by simp [evC]); rw [← e_]; exact hsl4
          refine TL.cons rfl (V1.t (V1.assign' z_E) ?_)
          refine TL.nil ?_
          refine T.live (l := [(5, _), (8, _), (11, _), (12, _), (15, _)]) (.cons z_E (.cons z_E (.cons z_E (.cons z_E (.cons z_E .nil))))) (fun e_ => ?_)
          refine T.region ?_
          refine TL.cons rfl (V1.t (V1.move' z_E) ?_)
          refine TL.cons rfl (V1.t (V1.add rfl rfl (wrap_i64 _ (by omega) (by omega))) ?_)
          refine TL.cons rfl (V1.t (V1.assign' z_E) ?_)
          refine TL.nil ?_
          exact ⟨(n + 1, s4, Ls4, (4, (n : Int)) :: A, B ++ [(4, (n : Int))]), Ls4 ++ ((MB b12 (kvI ns) : Blk) :: (Lt ++ (Lk ++ (Lb ++ (Q ++ G))))), _, (by simp only; omega), (.cons rfl (.cons rfl .nil)), (.cons rfl (.cons rfl (.cons rfl .nil))), z_A, ⟨rfl, by simp only; omega, by simp only; omega, hsl5, by simp only [List.length_cons, List.length_append, List.length_nil]; omega, fun e he => by rcases List.mem_cons.1 he with rfl | he; exact hbn; exact hbA e he, fun e he => by rcases List.mem_append.1 he with he | he; exact hbB e he; rw [List.mem_singleton] at he; subst he; exact hbn⟩⟩
        ·
          rw [decide_eq_false hin]
          refine TL.nil ?_
          refine T.cond_f rfl ?_
          refine T.skip ?_
          refine T.region ?_
          refine TL.cons rfl (V1.t (V1.move' z_E) ?_)
          refine TL.cons rfl (V1.t (V1.add rfl rfl (wrap_i64 _ (by omega) (by omega))) ?_)
          refine TL.cons rfl (V1.t (V1.assign' z_E) ?_)
          refine TL.nil ?_
          exact ⟨(n + 1, .slice a6 (A ++ (acc ++ B)).length c6, Ls0, A, B), Ls0 ++ ((MB b12 (kvI ns) : Blk) :: (Lt ++ (Lk ++ (Lb ++ (Q ++ G))))), _, (by simp only; omega), (.cons rfl (.cons rfl .nil)), (.cons rfl (.cons rfl (.cons rfl .nil))), z_A, ⟨rfl, by simp only; omega, by simp only; omega, hsl0, by simp only; omega, hbA, hbB⟩⟩
      ·
        obtain rfl : n = 7 := by omega
        obtain ⟨a6, c6, hse⟩ := hsl0.formT (n := (A ++ (acc ++ B)).length) (by decide) (ev_len _)
        subst hse
        refine TL.nil ?_
        refine T.cond_f rfl ?_
        refine T.exit ?_
        refine T.seq ?_
        refine T.seq ?_
        refine T.region ?_
        refine TL.cons rfl (V1.t (V1.move' z_E) ?_)
        refine TL.cons rfl (V1.t (V1.lenSl ty_42 rfl) ?_)
        refine TL.cons rfl (T1.gtI_split rfl rfl (fun h23 => ?_) (fun h23 => ?_))
        ·
          refine TL.nil ?_
          refine T.cond_t rfl ?_
          refine T.seq ?_
          refine T.region ?_
          refine TL.cons rfl (V1.t (V1.assign' z_E) ?_)
          refine TL.nil ?_
          refine T.ret ?_
          exact ⟨_, G, _, .cons (.tmp z_E) .nil, z_A, rfl, rfl⟩
        ·
          have hlaw := gone_law hbA hbB hgo (by omega)
          refine TL.nil ?_
          refine T.cond_f rfl ?_
          refine T.skip ?_
          refine T.seq ?_
          refine T.region ?_
          refine TL.cons rfl (V1.t (V1.move' z_E) ?_)
          refine TL.cons rfl (T1.callC has_26 rfl rfl (Secret_us w0 (Ls0 ++ []) (es := A ++ (acc ++ B)) (RowR.ofSl hsl0 Inc.here (by decide) _ (ev_len _))) z_D (fun v_ Y2 hY => ?_))
          obtain ⟨vt2, xt2, Lt2, Q2, rfl, rfl, hst2, hxt2⟩ := hY
          simp only [List.append_assoc]
          obtain ⟨ts2, hts2, rfl, hA2⟩ := hxt2.items
          have hlt2 : ts2.length = (secL (A ++ (acc ++ B))).length := by rw [← hts2, List.length_map]
          have hrt2 := RowR.ofSl (w0 := w0) hst2 Inc.refl (by decide) ts2.length (tdC_len hA2)
          obtain ⟨at2, ct2, rfl⟩ := hrt2.form
          have htb : (secL (A ++ (acc ++ B))).length ≤ 24 := Nat.le_trans (List.length_filter_le _ _) (out_inv hlaw.2.1).tl
          have hta := (out_inv hlaw.1).tl
          refine TL.cons rfl (V1.t (V1.move' z_E) ?_)
          refine TL.cons rfl (V1.t (V1.extract rfl (by rfl)) ?_)
          refine TL.cons rfl (V1.t (V1.extract rfl (by rfl)) ?_)
          refine TL.cons rfl (V1.t (V1.assign' z_E) ?_)
          refine TL.cons rfl (V1.t (V1.assign' z_E) ?_)
          refine TL.nil ?_
          refine T.seq ?_
          refine T.seq ?_
          refine T.region ?_
          refine TL.cons rfl (V1.t (V1.move' z_E) ?_)
          refine TL.cons rfl (V1.t (V1.neI (r := false) rfl rfl (decide_eq_false (fun h => h hlaw.1))) ?_)
          refine TL.cons rfl (V1.t (V1.move' z_E) ?_)
          refine TL.cons rfl (V1.t (V1.move' z_E) ?_)
          refine TL.cons rfl (V1.t (V1.neI (r := false) rfl rfl (decide_eq_false (fun h => h hlaw.2.1))) ?_)
          refine TL.cons rfl (V1.t (V1.pick rfl z_E) ?_)
          refine TL.nil ?_
          refine T.cond_f rfl ?_
          refine T.skip ?_
          refine T.seq ?_
          refine T.seq ?_
          refine T.live (l := [(8, _), (12, _), (16, _)]) (.cons z_E (.cons z_E (.cons z_E .nil))) (fun e_ => ?_)
          refine T.region ?_
          refine TL.cons rfl (V1.t (V1.move' z_E) ?_)
          refine TL.cons rfl (V1.t (V1.lenSl ty_43 rfl) ?_)
          refine TL.cons rfl (V1.t (V1.move' z_E) ?_)
          refine TL.nil ?_
          refine T.block ?_
          refine T.loopL (σ := Nat) (l0 := [(12, _), (16, _), (120, _), (121, _)]) (fun x => [(122, .int .i64 (x : Nat))]) (fun i L => L = (Lt2 ++ (Q2 ++ (Ls0 ++ ((MB b12 (kvI ns) : Blk) :: (Lt ++ (Lk ++ (Lb ++ (Q ++ G)))))))) ∧ i ≤ ts.length) (fun i => ts.length - i) 0 (.cons rfl .nil) (.cons z_E (.cons z_E (.cons z_E (.cons z_E .nil)))) z_A (⟨rfl, Nat.zero_le _⟩) ?_
          rintro i e_ L ⟨rfl, hi⟩
          refine T.seq ?_
          refine T.region ?_
          refine TL.cons rfl (T1.ltI_split rfl rfl (fun h29 => ?_) (fun h29 => ?_))
          ·
            obtain ⟨x, hx0⟩ : ∃ x, ts[i]? = some x := ⟨_, List.getElem?_eq_getElem (by omega)⟩
            have hx := hA x (List.mem_of_getElem? hx0)
            have hx1 : (sgOut acc).told[i]? = some x.1 := by rw [← hts, List.getElem?_map, hx0]; rfl
            obtain ⟨_, _, hwho, _, _, hl6⟩ := tells_at (out_inv hlaw.1) hx1
            have hin := hlaw.2.2 x.1 (List.mem_of_getElem? hx1)
            obtain ⟨⟨wh, ep, nms, num⟩, cs⟩ := x
            dsimp only at hwho hl6 hx hin hx1
            obtain ⟨a1, c1, rfl, hrn⟩ := hx
            dsimp only at hrn
            obtain ⟨b2_, o2_, rfl, hrd2⟩ := hrn.at (List.length_pos_of_mem hwho) P
            obtain ⟨b_, o_, rfl, hrd⟩ := hrt.at (by omega) P
            refine TL.nil ?_
            refine T.seq ?_
            refine T.cond_t rfl ?_
            refine T.skip ?_
            refine T.seq ?_
            refine T.block ?_
            refine T.seq ?_
            refine T.region ?_
            refine TL.cons rfl (V1.t (V1.indexAddrS ty_43 sz_55 rfl rfl (by omega) (by omega)) ?_)
            refine TL.cons rfl (V1.t (V1.loadN (vs := [iV wh, iV ep, .slice (some ⟨b2_, o2_, none⟩) nms.length c1, .int .i64 1, .string (bstr (nmb sText [num])), .slice none 0 0]) one_55 sz_55 rfl (tdC_rd hA hx0 rfl (hrd _ rfl rfl _ z_D)) rfl) ?_)
            refine TL.cons rfl (T1.allocN 6 zr_55 rfl (fun b19 => ?_))
            refine TL.cons rfl (T1.storeN rfl rfl sz_55 (ones rfl) z_G (by rfl) (by rfl) ?_)
            refine TL.nil ?_
            refine T.seq ?_
            refine T.region ?_
            refine TL.cons rfl (V1.t (V1.assign' z_E) ?_)
            refine TL.nil ?_
            refine T.seq ?_
            refine T.seq ?_
            refine T.region ?_
            refine TL.cons rfl (V1.t (V1.fieldAddr fl_55_2 rfl) ?_)
            refine TL.cons rfl (V1.t (V1.load1 (v := .slice (some ⟨b2_, o2_, none⟩) nms.length c1) one_44 rfl (rd_at (off := 0) (i := 2) (cs := [iV wh, iV ep, .slice (some ⟨b2_, o2_, none⟩) nms.length c1, .int .i64 1, .string (bstr (nmb sText [num])), .slice none 0 0]) z_B rfl)) ?_)
            refine TL.cons rfl (V1.t (V1.lenSl ty_44 rfl) ?_)
            refine TL.cons rfl (V1.t (V1.move' z_E) ?_)
            refine TL.nil ?_
            refine T.block ?_
            refine T.loopL (σ := Nat × Bool) (l0 := [(12, _), (16, _), (19, _), (120, _), (121, _), (122, _), (127, _), (128, _)]) (fun x => [(129, .int .i64 (x.1 : Nat)), (20, .bool x.2)]) (fun x L => L = (⟨b19, 0, [iV wh, iV ep, .slice (some ⟨b2_, o2_, none⟩) nms.length c1, .int .i64 1, .string (bstr (nmb sText [num])), .slice none 0 0], 6⟩ : Blk) :: (Lt2 ++ (Q2 ++ (Ls0 ++ ((MB b12 (kvI ns) : Blk) :: (Lt ++ (Lk ++ (Lb ++ (Q ++ G)))))))) ∧ x.1 ≤ nms.length ∧ x.2 = (nms.take x.1).any (fun n => decide (n ∈ ns))) (fun x => nms.length - x.1) (0, false) (.cons rfl (.cons rfl .nil)) (.cons z_E (.cons z_E (.cons z_E (.cons z_E (.cons z_E (.cons z_E (.cons z_E (.cons z_E .nil)))))))) z_A (⟨rfl, Nat.zero_le _, rfl⟩) ?_
            rintro ⟨k, r⟩ e_ L ⟨rfl, hk_, hr_⟩
            simp only at hk_ hr_
            dsimp only
            refine T.seq ?_
            refine T.region ?_
            refine TL.cons rfl (T1.ltI_split rfl rfl (fun h33 => ?_) (fun h33 => ?_))
            ·
              obtain ⟨m, hm0⟩ : ∃ m, nms[k]? = some m := ⟨_, List.getElem?_eq_getElem (by omega)⟩
              refine TL.nil ?_
              refine T.seq ?_
              refine T.cond_t rfl ?_
              refine T.skip ?_
              refine T.seq ?_
              refine T.block ?_
              refine T.seq ?_
              refine T.region ?_
              refine TL.cons rfl (V1.t (V1.indexAddrS ty_44 sz_3 rfl rfl (by omega) (by omega)) ?_)
              refine TL.cons rfl (V1.t (V1.load1 (v := iV m) one_3 rfl (show Rd _ _ ⟨_, _ + k * 1, none⟩ _ from by rw [Nat.mul_one]; exact hrd2 _ rfl rfl _ z_D k _ (by rw [List.getElem?_map, hm0]; rfl))) ?_)
              refine TL.cons rfl (V1.t (V1.assign' z_E) ?_)
              refine TL.nil ?_
              obtain hcc | hcc | hcc : r = true ∨ (r = false ∧ m ∈ ns) ∨ (r = false ∧ m ∉ ns) := by cases r <;> simp [Classical.em]
              ·
                subst hcc
                refine T.region ?_
                refine TL.cons rfl (V1.t (V1.move' z_E) ?_)
                refine TL.cons rfl (V1.t (V1.move' z_E) ?_)
                refine TL.no rfl ?_
                refine TL.no rfl ?_
                refine TL.no rfl ?_
                refine TL.cons rfl (V1.t (V1.pick rfl z_E) ?_)
                refine TL.cons rfl (V1.t (V1.assign' z_E) ?_)
                refine TL.nil ?_
                refine T.region ?_
                refine TL.cons rfl (V1.t (V1.add (c := ((k + 1 : Nat) : Int)) rfl rfl (by rw [wrap_i64 _ (by omega) (by omega)]; omega)) ?_)
                refine TL.cons rfl (V1.t (V1.move' z_E) ?_)
                refine TL.nil ?_
                exact ⟨(k + 1, true), (⟨b19, 0, [iV wh, iV ep, .slice (some ⟨b2_, o2_, none⟩) nms.length c1, .int .i64 1, .string (bstr (nmb sText [num])), .slice none 0 0], 6⟩ : Blk) :: (Lt2 ++ (Q2 ++ (Ls0 ++ ((MB b12 (kvI ns) : Blk) :: (Lt ++ (Lk ++ (Lb ++ (Q ++ G)))))))), _, (by simp only; omega), (.cons rfl (.cons rfl .nil)), (.cons rfl (.cons rfl (.cons rfl (.cons rfl (.cons rfl (.cons rfl (.cons rfl (.cons rfl .nil)))))))), z_A, ⟨rfl, by simp only; omega, by simp only; rw [List.take_add_one, hm0, List.any_append, ← hr_]; simp⟩⟩
              ·
                obtain ⟨rfl, hcc⟩ := hcc
                refine T.region ?_
                refine TL.cons rfl (V1.t (V1.move' z_E) ?_)
                refine TL.cons rfl (V1.t (V1.move' z_E) ?_)
                refine TL.cons rfl (V1.t (V1.move' z_E) ?_)
                refine TL.cons rfl (V1.t (V1.move' z_E) ?_)
                refine TL.cons rfl (V1.t (V1.lookup (q := qI (m : Int)) (kv := kvI ns) (v := .bool (decide (m ∈ ns))) ty_63 zr_4 ty_3 rfl rfl rfl z_B (kvI_now _ _) (kvI_find _ _ _)) ?_)
                rw [decide_eq_true hcc]
                refine TL.cons rfl (V1.t (V1.pick rfl z_E) ?_)
                refine TL.cons rfl (V1.t (V1.assign' z_E) ?_)
                refine TL.nil ?_
                refine T.region ?_
                refine TL.cons rfl (V1.t (V1.add (c := ((k + 1 : Nat) : Int)) rfl rfl (by rw [wrap_i64 _ (by omega) (by omega)]; omega)) ?_)
                refine TL.cons rfl (V1.t (V1.move' z_E) ?_)
                refine TL.nil ?_
                exact ⟨(k + 1, true), (⟨b19, 0, [iV wh, iV ep, .slice (some ⟨b2_, o2_, none⟩) nms.length c1, .int .i64 1, .string (bstr (nmb sText [num])), .slice none 0 0], 6⟩ : Blk) :: (Lt2 ++ (Q2 ++ (Ls0 ++ ((MB b12 (kvI ns) : Blk) :: (Lt ++ (Lk ++ (Lb ++ (Q ++ G)))))))), _, (by simp only; omega), (.cons rfl (.cons rfl .nil)), (.cons rfl (.cons rfl (.cons rfl (.cons rfl (.cons rfl (.cons rfl (.cons rfl (.cons rfl .nil)))))))), z_A, ⟨rfl, by simp only; omega, by simp only; rw [List.take_add_one, hm0, List.any_append, ← hr_]; simp [hcc]⟩⟩
              ·
                obtain ⟨rfl, hcc⟩ := hcc
                refine T.region ?_
                refine TL.cons rfl (V1.t (V1.move' z_E) ?_)
                refine TL.cons rfl (V1.t (V1.move' z_E) ?_)
                refine TL.cons rfl (V1.t (V1.move' z_E) ?_)
                refine TL.cons rfl (V1.t (V1.move' z_E) ?_)
                refine TL.cons rfl (V1.t (V1.lookup (q := qI (m : Int)) (kv := kvI ns) (v := .bool (decide (m ∈ ns))) ty_63 zr_4 ty_3 rfl rfl rfl z_B (kvI_now _ _) (kvI_find _ _ _)) ?_)
                rw [decide_eq_false hcc]
                refine TL.cons rfl (V1.t (V1.pick rfl z_E) ?_)
                refine TL.cons rfl (V1.t (V1.assign' z_E) ?_)
                refine TL.nil ?_
                refine T.region ?_
                refine TL.cons rfl (V1.t (V1.add (c := ((k + 1 : Nat) : Int)) rfl rfl (by rw [wrap_i64 _ (by omega) (by omega)]; omega)) ?_)
                refine TL.cons rfl (V1.t (V1.move' z_E) ?_)
                refine TL.nil ?_
                exact ⟨(k + 1, false), (⟨b19, 0, [iV wh, iV ep, .slice (some ⟨b2_, o2_, none⟩) nms.length c1, .int .i64 1, .string (bstr (nmb sText [num])), .slice none 0 0], 6⟩ : Blk) :: (Lt2 ++ (Q2 ++ (Ls0 ++ ((MB b12 (kvI ns) : Blk) :: (Lt ++ (Lk ++ (Lb ++ (Q ++ G)))))))), _, (by simp only; omega), (.cons rfl (.cons rfl .nil)), (.cons rfl (.cons rfl (.cons rfl (.cons rfl (.cons rfl (.cons rfl (.cons rfl (.cons rfl .nil)))))))), z_A, ⟨rfl, by simp only; omega, by simp only; rw [List.take_add_one, hm0, List.any_append, ← hr_]; simp [hcc]⟩⟩
            ·
              obtain rfl : k = nms.length := by omega
              rw [List.take_length] at hr_
              refine TL.nil ?_
              refine T.seq ?_
              refine T.cond_f rfl ?_
              refine T.exit ?_
              refine T.seq ?_
              refine T.region ?_
              refine TL.cons rfl (V1.t (V1.assign' z_E) ?_)
              refine TL.nil ?_
              refine T.seq ?_
              refine T.seq ?_
              refine T.region ?_
              refine TL.cons rfl (V1.t (V1.move' z_E) ?_)
              refine TL.cons rfl (V1.t (V1.lenSl ty_43 rfl) ?_)
              refine TL.cons rfl (V1.t (V1.move' z_E) ?_)
              refine TL.nil ?_
              refine T.block ?_
              refine T.loopL (σ := Nat × Bool) (l0 := [(12, _), (16, _), (19, _), (20, _), (120, _), (121, _), (122, _), (140, _), (141, _)]) (fun x => [(142, .int .i64 (x.1 : Nat)), (23, .bool x.2)]) (fun x L => L = (⟨b19, 0, [iV wh, iV ep, .slice (some ⟨b2_, o2_, none⟩) nms.length c1, .int .i64 1, .string (bstr (nmb sText [num])), .slice none 0 0], 6⟩ : Blk) :: (Lt2 ++ (Q2 ++ (Ls0 ++ ((MB b12 (kvI ns) : Blk) :: (Lt ++ (Lk ++ (Lb ++ (Q ++ G)))))))) ∧ x.1 ≤ ts2.length ∧ x.2 = ((secL (A ++ (acc ++ B))).take x.1).any (fun t => decide (t.num = num))) (fun x => ts2.length - x.1) (0, false) (.cons rfl (.cons rfl .nil)) (.cons z_E (.cons z_E (.cons z_E (.cons z_E (.cons z_E (.cons z_E (.cons z_E (.cons z_E (.cons z_E .nil))))))))) z_A (⟨rfl, Nat.zero_le _, rfl⟩) ?_
              rintro ⟨k, f⟩ e_ L ⟨rfl, hk_, hf_⟩
              simp only at hk_ hf_
              dsimp only
              refine T.seq ?_
              refine T.region ?_
              refine TL.cons rfl (T1.ltI_split rfl rfl (fun h39 => ?_) (fun h39 => ?_))
              ·
                obtain ⟨y, hy0⟩ : ∃ y, ts2[k]? = some y := ⟨_, List.getElem?_eq_getElem (by omega)⟩
                have hy := hA2 y (List.mem_of_getElem? hy0)
                have hy1 : (secL (A ++ (acc ++ B)))[k]? = some y.1 := by rw [← hts2, List.getElem?_map, hy0]; rfl
                have hny := sec_num y.1 (List.mem_of_getElem? hy1)
                obtain ⟨⟨why, epy, nmsy, numy⟩, csy⟩ := y
                dsimp only at hy hy1 hny
                obtain ⟨ay, cy, rfl, _⟩ := hy
                obtain ⟨by_, oy_, rfl, hrdy⟩ := hrt2.at (by omega) P
                have hnx : num < 26 := by have := (tells_at (out_inv hlaw.1) hx1).1; have := (out_inv hlaw.1).tl; simp only at *; omega
                refine TL.nil ?_
                refine T.seq ?_
                refine T.cond_t rfl ?_
                refine T.skip ?_
                refine T.seq ?_
                refine T.block ?_
                refine T.seq ?_
                refine T.region ?_
                refine TL.cons rfl (V1.t (V1.indexAddrS ty_43 sz_55 rfl rfl (by omega) (by omega)) ?_)
                refine TL.cons rfl (V1.t (V1.loadN (vs := [iV why, iV epy, .slice ay nmsy.length cy, .int .i64 1, .string (bstr (nmb sText [numy])), .slice none 0 0]) one_55 sz_55 rfl (tdC_rd hA2 hy0 rfl (hrdy _ rfl rfl _ z_D)) rfl) ?_)
                refine TL.cons rfl (T1.allocN 6 zr_55 rfl (fun b25 => ?_))
                refine TL.cons rfl (T1.storeN rfl rfl sz_55 (ones rfl) z_G (by rfl) (by rfl) ?_)
                refine TL.nil ?_
                obtain hcc | hcc | hcc : f = true ∨ (f = false ∧ numy = num) ∨ (f = false ∧ numy ≠ num) := by cases f <;> simp [Classical.em]
                ·
                  subst hcc
                  refine T.drawTail 10 mixed (by decide +kernel) (by rfl) (by decide +kernel) rfl ?_
                  refine Det.cons 0 (ins := [(23, _)]) (.old z_E (by decide +kernel) .nil) (fun e_ => .inl ⟨rfl, V1.t (V1.move' z_E) ⟨rfl, rfl⟩⟩) ?_
                  refine Det.cons 1 (ins := [(146, _)]) (.new 0 0 (by decide +kernel) rfl rfl .nil) (fun e_ => .inl ⟨rfl, V1.t (V1.move' z_E) ⟨rfl, rfl⟩⟩) ?_
                  refine Det.cons 2 (ins := [(147, _)]) (.new 1 0 (by decide +kernel) rfl rfl .nil) (fun e_ => .inr ⟨rfl, rfl⟩) ?_
                  refine Det.cons 3 (ins := [(147, _)]) (.new 1 1 (by decide +kernel) rfl rfl .nil) (fun e_ => .inr ⟨rfl, rfl⟩) ?_
                  refine Det.cons 4 (ins := [(147, _)]) (.new 1 2 (by decide +kernel) rfl rfl .nil) (fun e_ => .inr ⟨rfl, rfl⟩) ?_
                  refine Det.cons 5 (ins := [(147, _)]) (.new 1 3 (by decide +kernel) rfl rfl .nil) (fun e_ => .inr ⟨rfl, rfl⟩) ?_
                  refine Det.cons 6 (ins := [(147, _)]) (.new 1 4 (by decide +kernel) rfl rfl .nil) (fun e_ => .inr ⟨rfl, rfl⟩) ?_
                  refine Det.cons 7 (ins := [(147, _)]) (.new 1 5 (by decide +kernel) rfl rfl .nil) (fun e_ => .inr ⟨rfl, rfl⟩) ?_
                  refine Det.cons 8 (ins := [(147, _)]) (.new 1 6 (by decide +kernel) rfl rfl .nil) (fun e_ => .inr ⟨rfl, rfl⟩) ?_
                  refine Det.cons 9 (ins := [(147, _), (154, _)]) (.new 1 7 (by decide +kernel) rfl rfl (.new 8 0 (by decide +kernel) rfl rfl .nil)) (fun e_ => .inl ⟨rfl, V1.t (V1.pick rfl z_E) ⟨rfl, rfl⟩⟩) ?_
                  refine Det.nil 10 (l := [(12, _), (16, _), (19, _), (20, _), (120, _), (121, _), (122, _), (140, _), (141, _), (142, _), (155, _)]) (.old z_E (by decide +kernel) (.old z_E (by decide +kernel) (.old z_E (by decide +kernel) (.old z_E (by decide +kernel) (.old z_E (by decide +kernel) (.old z_E (by decide +kernel) (.old z_E (by decide +kernel) (.old z_E (by decide +kernel) (.old z_E (by decide +kernel) (.old z_E (by decide +kernel) (.new 9 0 (by decide +kernel) rfl rfl .nil))))))))))) (fun e_ => ?_)
                  refine (show TU _ _ _ 1 _ _ _ from ?_)
                  refine TU.one 10 (by decide +kernel) rfl rfl (V1.t (V1.assign' z_E) ?_)
                  refine TU.done (by decide +kernel) ?_
                  refine T.region ?_
                  refine TL.cons rfl (V1.t (V1.add (c := ((k + 1 : Nat) : Int)) rfl rfl (by rw [wrap_i64 _ (by omega) (by omega)]; omega)) ?_)
                  refine TL.cons rfl (V1.t (V1.move' z_E) ?_)
                  refine TL.nil ?_
                  exact ⟨(k + 1, true), (⟨b19, 0, [iV wh, iV ep, .slice (some ⟨b2_, o2_, none⟩) nms.length c1, .int .i64 1, .string (bstr (nmb sText [num])), .slice none 0 0], 6⟩ : Blk) :: (Lt2 ++ (Q2 ++ (Ls0 ++ ((MB b12 (kvI ns) : Blk) :: (Lt ++ (Lk ++ (Lb ++ (Q ++ G)))))))), _, (by simp only; omega), (.cons rfl (.cons rfl .nil)), (.cons rfl (.cons rfl (.cons rfl (.cons rfl (.cons rfl (.cons rfl (.cons rfl (.cons rfl (.cons rfl .nil))))))))), z_A, ⟨rfl, by simp only; omega, by simp only; rw [List.take_add_one, hy1, List.any_append, ← hf_]; simp⟩⟩
                ·
                  obtain ⟨rfl, hcc⟩ := hcc
                  refine T.drawTail 10 mixed (by decide +kernel) (by rfl) (by decide +kernel) rfl ?_
                  refine Det.cons 0 (ins := [(23, _)]) (.old z_E (by decide +kernel) .nil) (fun e_ => .inl ⟨rfl, V1.t (V1.move' z_E) ⟨rfl, rfl⟩⟩) ?_
                  refine Det.cons 1 (ins := [(146, _)]) (.new 0 0 (by decide +kernel) rfl rfl .nil) (fun e_ => .inl ⟨rfl, V1.t (V1.move' z_E) ⟨rfl, rfl⟩⟩) ?_
                  refine Det.cons 2 (ins := [(25, _), (147, _)]) (.old z_E (by decide +kernel) (.new 1 0 (by decide +kernel) rfl rfl .nil)) (fun e_ => .inl ⟨rfl, V1.t (V1.fieldAddr fl_55_3 rfl) ⟨rfl, rfl⟩⟩) ?_
                  refine Det.cons 3 (ins := [(147, _), (148, _)]) (.new 1 1 (by decide +kernel) rfl rfl (.new 2 0 (by decide +kernel) rfl rfl .nil)) (fun e_ => .inl ⟨rfl, V1.t (V1.loadN (vs := [.int .i64 1, .string (bstr (nmb sText [numy])), .slice none 0 0]) one_24 sz_24 rfl (RdN.mid2 (pre := [iV why, iV epy, .slice ay nmsy.length cy]) (cs := [.int .i64 1, .string (bstr (nmb sText [numy])), .slice none 0 0]) (post := []) z_B rfl) rfl) ⟨rfl, rfl⟩⟩) ?_
                  refine Det.cons 4 (ins := [(147, _), (149, _)]) (v := keyT numy) (.new 1 2 (by decide +kernel) rfl rfl (.new 3 0 (by decide +kernel) rfl rfl .nil)) (fun e_ => .inl ⟨rfl, ?_⟩) ?_
                  · refine T1.callV has_14 rfl rfl (TString_text w0 numy hny) z_D (fun v_ hv => ?_)
                    obtain rfl := hv
                    exact ⟨rfl, rfl⟩
                  refine Det.cons 5 (ins := [(19, _), (147, _)]) (.old z_E (by decide +kernel) (.new 1 3 (by decide +kernel) rfl rfl .nil)) (fun e_ => .inl ⟨rfl, V1.t (V1.fieldAddr fl_55_3 rfl) ⟨rfl, rfl⟩⟩) ?_
                  refine Det.cons 6 (ins := [(147, _), (151, _)]) (.new 1 4 (by decide +kernel) rfl rfl (.new 5 0 (by decide +kernel) rfl rfl .nil)) (fun e_ => .inl ⟨rfl, V1.t (V1.loadN (vs := [.int .i64 1, .string (bstr (nmb sText [num])), .slice none 0 0]) one_24 sz_24 rfl (RdN.mid2 (pre := [iV wh, iV ep, .slice (some ⟨b2_, o2_, none⟩) nms.length c1]) (cs := [.int .i64 1, .string (bstr (nmb sText [num])), .slice none 0 0]) (post := []) z_B rfl) rfl) ⟨rfl, rfl⟩⟩) ?_
                  refine Det.cons 7 (ins := [(147, _), (152, _)]) (v := keyT num) (.new 1 5 (by decide +kernel) rfl rfl (.new 6 0 (by decide +kernel) rfl rfl .nil)) (fun e_ => .inl ⟨rfl, ?_⟩) ?_
                  · refine T1.callV has_14 rfl rfl (TString_text w0 num hnx) z_D (fun v_ hv => ?_)
                    obtain rfl := hv
                    exact ⟨rfl, rfl⟩
                  refine Det.cons 8 (ins := [(147, _), (150, _), (153, _)]) (.new 1 6 (by decide +kernel) rfl rfl (.new 4 3 (by decide +kernel) rfl rfl (.new 7 0 (by decide +kernel) rfl rfl .nil))) (fun e_ => .inl ⟨rfl, V1.t (V1.eqS (r := true) rfl rfl (decide_eq_true (by rw [hcc]))) ⟨rfl, rfl⟩⟩) ?_
                  refine Det.cons 9 (ins := [(147, _), (154, _)]) (.new 1 7 (by decide +kernel) rfl rfl (.new 8 0 (by decide +kernel) rfl rfl .nil)) (fun e_ => .inl ⟨rfl, V1.t (V1.pick rfl z_E) ⟨rfl, rfl⟩⟩) ?_
                  refine Det.nil 10 (l := [(12, _), (16, _), (19, _), (20, _), (120, _), (121, _), (122, _), (140, _), (141, _), (142, _), (155, _)]) (.old z_E (by decide +kernel) (.old z_E (by decide +kernel) (.old z_E (by decide +kernel) (.old z_E (by decide +kernel) (.old z_E (by decide +kernel) (.old z_E (by decide +kernel) (.old z_E (by decide +kernel) (.old z_E (by decide +kernel) (.old z_E (by decide +kernel) (.old z_E (by decide +kernel) (.new 9 0 (by decide +kernel) rfl rfl .nil))))))))))) (fun e_ => ?_)
                  refine (show TU _ _ _ 1 _ _ _ from ?_)
                  refine TU.one 10 (by decide +kernel) rfl rfl (V1.t (V1.assign' z_E) ?_)
                  refine TU.done (by decide +kernel) ?_
                  refine T.region ?_
                  refine TL.cons rfl (V1.t (V1.add (c := ((k + 1 : Nat) : Int)) rfl rfl (by rw [wrap_i64 _ (by omega) (by omega)]; omega)) ?_)
                  refine TL.cons rfl (V1.t (V1.move' z_E) ?_)
                  refine TL.nil ?_
                  exact ⟨(k + 1, true), (⟨b19, 0, [iV wh, iV ep, .slice (some ⟨b2_, o2_, none⟩) nms.length c1, .int .i64 1, .string (bstr (nmb sText [num])), .slice none 0 0], 6⟩ : Blk) :: (Lt2 ++ (Q2 ++ (Ls0 ++ ((MB b12 (kvI ns) : Blk) :: (Lt ++ (Lk ++ (Lb ++ (Q ++ G)))))))), _, (by simp only; omega), (.cons rfl (.cons rfl .nil)), (.cons rfl (.cons rfl (.cons rfl (.cons rfl (.cons rfl (.cons rfl (.cons rfl (.cons rfl (.cons rfl .nil))))))))), z_A, ⟨rfl, by simp only; omega, by simp only; rw [List.take_add_one, hy1, List.any_append, ← hf_]; simp [hcc]⟩⟩
                ·
                  obtain ⟨rfl, hcc⟩ := hcc
                  refine T.drawTail 10 mixed (by decide +kernel) (by rfl) (by decide +kernel) rfl ?_
                  refine Det.cons 0 (ins := [(23, _)]) (.old z_E (by decide +kernel) .nil) (fun e_ => .inl ⟨rfl, V1.t (V1.move' z_E) ⟨rfl, rfl⟩⟩) ?_
                  refine Det.cons 1 (ins := [(146, _)]) (.new 0 0 (by decide +kernel) rfl rfl .nil) (fun e_ => .inl ⟨rfl, V1.t (V1.move' z_E) ⟨rfl, rfl⟩⟩) ?_
                  refine Det.cons 2 (ins := [(25, _), (147, _)]) (.old z_E (by decide +kernel) (.new 1 0 (by decide +kernel) rfl rfl .nil)) (fun e_ => .inl ⟨rfl, V1.t (V1.fieldAddr fl_55_3 rfl) ⟨rfl, rfl⟩⟩) ?_
                  refine Det.cons 3 (ins := [(147, _), (148, _)]) (.new 1 1 (by decide +kernel) rfl rfl (.new 2 0 (by decide +kernel) rfl rfl .nil)) (fun e_ => .inl ⟨rfl, V1.t (V1.loadN (vs := [.int .i64 1, .string (bstr (nmb sText [numy])), .slice none 0 0]) one_24 sz_24 rfl (RdN.mid2 (pre := [iV why, iV epy, .slice ay nmsy.length cy]) (cs := [.int .i64 1, .string (bstr (nmb sText [numy])), .slice none 0 0]) (post := []) z_B rfl) rfl) ⟨rfl, rfl⟩⟩) ?_
                  refine Det.cons 4 (ins := [(147, _), (149, _)]) (v := keyT numy) (.new 1 2 (by decide +kernel) rfl rfl (.new 3 0 (by decide +kernel) rfl rfl .nil)) (fun e_ => .inl ⟨rfl, ?_⟩) ?_
                  · refine T1.callV has_14 rfl rfl (TString_text w0 numy hny) z_D (fun v_ hv => ?_)
                    obtain rfl := hv
                    exact ⟨rfl, rfl⟩
                  refine Det.cons 5 (ins := [(19, _), (147, _)]) (.old z_E (by decide +kernel) (.new 1 3 (by decide +kernel) rfl rfl .nil)) (fun e_ => .inl ⟨rfl, V1.t (V1.fieldAddr fl_55_3 rfl) ⟨rfl, rfl⟩⟩) ?_
                  refine Det.cons 6 (ins := [(147, _), (151, _)]) (.new 1 4 (by decide +kernel) rfl rfl (.new 5 0 (by decide +kernel) rfl rfl .nil)) (fun e_ => .inl ⟨rfl, V1.t (V1.loadN (vs := [.int .i64 1, .string (bstr (nmb sText [num])), .slice none 0 0]) one_24 sz_24 rfl (RdN.mid2 (pre := [iV wh, iV ep, .slice (some ⟨b2_, o2_, none⟩) nms.length c1]) (cs := [.int .i64 1, .string (bstr (nmb sText [num])), .slice none 0 0]) (post := []) z_B rfl) rfl) ⟨rfl, rfl⟩⟩) ?_
                  refine Det.cons 7 (ins := [(147, _), (152, _)]) (v := keyT num) (.new 1 5 (by decide +kernel) rfl rfl (.new 6 0 (by decide +kernel) rfl rfl .nil)) (fun e_ => .inl ⟨rfl, ?_⟩) ?_
                  · refine T1.callV has_14 rfl rfl (TString_text w0 num hnx) z_D (fun v_ hv => ?_)
                    obtain rfl := hv
                    exact ⟨rfl, rfl⟩
                  refine Det.cons 8 (ins := [(147, _), (150, _), (153, _)]) (.new 1 6 (by decide +kernel) rfl rfl (.new 4 3 (by decide +kernel) rfl rfl (.new 7 0 (by decide +kernel) rfl rfl .nil))) (fun e_ => .inl ⟨rfl, V1.t (V1.eqS (r := false) rfl rfl (decide_eq_false (fun h => absurd ((nmb_ne _ hny _ hnx).trans (decide_eq_true hcc)) (by rw [h]; simp)))) ⟨rfl, rfl⟩⟩) ?_
                  refine Det.cons 9 (ins := [(147, _), (154, _)]) (.new 1 7 (by decide +kernel) rfl rfl (.new 8 0 (by decide +kernel) rfl rfl .nil)) (fun e_ => .inl ⟨rfl, V1.t (V1.pick rfl z_E) ⟨rfl, rfl⟩⟩) ?_
                  refine Det.nil 10 (l := [(12, _), (16, _), (19, _), (20, _), (120, _), (121, _), (122, _), (140, _), (141, _), (142, _), (155, _)]) (.old z_E (by decide +kernel) (.old z_E (by decide +kernel) (.old z_E (by decide +kernel) (.old z_E (by decide +kernel) (.old z_E (by decide +kernel) (.old z_E (by decide +kernel) (.old z_E (by decide +kernel) (.old z_E (by decide +kernel) (.old z_E (by decide +kernel) (.old z_E (by decide +kernel) (.new 9 0 (by decide +kernel) rfl rfl .nil))))))))))) (fun e_ => ?_)
                  refine (show TU _ _ _ 1 _ _ _ from ?_)
                  refine TU.one 10 (by decide +kernel) rfl rfl (V1.t (V1.assign' z_E) ?_)
                  refine TU.done (by decide +kernel) ?_
                  refine T.region ?_
                  refine TL.cons rfl (V1.t (V1.add (c := ((k + 1 : Nat) : Int)) rfl rfl (by rw [wrap_i64 _ (by omega) (by omega)]; omega)) ?_)
                  refine TL.cons rfl (V1.t (V1.move' z_E) ?_)
                  refine TL.nil ?_
                  exact ⟨(k + 1, false), (⟨b19, 0, [iV wh, iV ep, .slice (some ⟨b2_, o2_, none⟩) nms.length c1, .int .i64 1, .string (bstr (nmb sText [num])), .slice none 0 0], 6⟩ : Blk) :: (Lt2 ++ (Q2 ++ (Ls0 ++ ((MB b12 (kvI ns) : Blk) :: (Lt ++ (Lk ++ (Lb ++ (Q ++ G)))))))), _, (by simp only; omega), (.cons rfl (.cons rfl .nil)), (.cons rfl (.cons rfl (.cons rfl (.cons rfl (.cons rfl (.cons rfl (.cons rfl (.cons rfl (.cons rfl .nil))))))))), z_A, ⟨rfl, by simp only; omega, by simp only; rw [List.take_add_one, hy1, List.any_append, ← hf_]; simp [hcc]⟩⟩
              ·
                obtain rfl : k = ts2.length := by omega
                rw [hlt2, List.take_length] at hf_
                refine TL.nil ?_
                refine T.seq ?_
                refine T.cond_f rfl ?_
                refine T.exit ?_
                refine T.seq ?_
                obtain hcc | ⟨hc1, hc2⟩ : r = true ∨ (r = false ∧ f = true) := by cases r with | true => exact .inl rfl | false => exact .inr ⟨rfl, by rw [hf_, List.any_eq_true]; exact ⟨_, hin (fun n hn hns => by have h_ := List.any_eq_false.1 hr_.symm n hn; simp [hns] at h_), by simp⟩⟩
                ·
                  subst hcc
                  refine T.region ?_
                  refine TL.cons rfl (V1.t (V1.move' z_E) ?_)
                  refine TL.cons rfl (V1.t (V1.not rfl rfl) ?_)
                  refine TL.cons rfl (V1.t (V1.move' z_E) ?_)
                  refine TL.no rfl ?_
                  refine TL.no rfl ?_
                  refine TL.cons rfl (V1.t (V1.pick rfl z_E) ?_)
                  refine TL.nil ?_
                  refine T.cond_f rfl ?_
                  refine T.skip ?_
                  refine T.region ?_
                  refine TL.cons rfl (V1.t (V1.add (c := ((i + 1 : Nat) : Int)) rfl rfl (by rw [wrap_i64 _ (by omega) (by omega)]; omega)) ?_)
                  refine TL.cons rfl (V1.t (V1.move' z_E) ?_)
                  refine TL.nil ?_
                  exact ⟨i + 1, (Lt2 ++ (Q2 ++ (Ls0 ++ ((MB b12 (kvI ns) : Blk) :: (Lt ++ (Lk ++ (Lb ++ (Q ++ G)))))))), _, (by simp only; omega), (.cons rfl .nil), (.cons rfl (.cons rfl (.cons rfl (.cons rfl .nil)))), z_A, ⟨rfl, by omega⟩⟩
                ·
                  subst hc1 hc2
                  refine T.region ?_
                  refine TL.cons rfl (V1.t (V1.move' z_E) ?_)
                  refine TL.cons rfl (V1.t (V1.not rfl rfl) ?_)
                  refine TL.cons rfl (V1.t (V1.move' z_E) ?_)
                  refine TL.cons rfl (V1.t (V1.move' z_E) ?_)
                  refine TL.cons rfl (V1.t (V1.not rfl rfl) ?_)
                  refine TL.cons rfl (V1.t (V1.pick rfl z_E) ?_)
                  refine TL.nil ?_
                  refine T.cond_f rfl ?_
                  refine T.skip ?_
                  refine T.region ?_
                  refine TL.cons rfl (V1.t (V1.add (c := ((i + 1 : Nat) : Int)) rfl rfl (by rw [wrap_i64 _ (by omega) (by omega)]; omega)) ?_)
                  refine TL.cons rfl (V1.t (V1.move' z_E) ?_)
                  refine TL.nil ?_
                  exact ⟨i + 1, (Lt2 ++ (Q2 ++ (Ls0 ++ ((MB b12 (kvI ns) : Blk) :: (Lt ++ (Lk ++ (Lb ++ (Q ++ G)))))))), _, (by simp only; omega), (.cons rfl .nil), (.cons rfl (.cons rfl (.cons rfl (.cons rfl .nil)))), z_A, ⟨rfl, by omega⟩⟩
          ·
            obtain rfl : i = ts.length := by omega
            refine TL.nil ?_
            refine T.seq ?_
            refine T.cond_f rfl ?_
            refine T.exit ?_
            refine T.seq ?_
            refine T.region ?_
            refine TL.cons rfl (V1.t (V1.assign' z_E) ?_)
            refine TL.nil ?_
            refine T.ret ?_
            exact ⟨_, G, _, .cons (.tmp z_E) .nil, z_A, rfl, rfl⟩

end Go.Proofs.YtlpkcbkflfbclaaGreatDoor.S
