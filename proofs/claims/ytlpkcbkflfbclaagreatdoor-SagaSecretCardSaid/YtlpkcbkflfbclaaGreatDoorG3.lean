/- A row of few numbers put in order; a number struck out of it. -/
import Derived.Test.YtlpkcbkflfbclaaGreatDoorG2
namespace Go.Proofs.YtlpkcbkflfbclaaGreatDoor.S
open Go.RowKit

def sLen : ByteArray := ⟨((List.range 256).map fun n => if n = 0 then 0 else UInt8.ofNat (Nat.log2 n + 1)).toArray⟩
theorem sLen_at {n : Nat} (h : n < 256) : ∃ c, sLen[((n : Nat) : Int).toNat]? = some c := by
  have hs : sLen.size = 256 := by decide +kernel
  exact ⟨_, getElem?_pos sLen _ (by rw [Int.toNat_natCast, hs]; exact h)⟩
theorem asc_eq : ∀ {a b : List Nat}, a.Pairwise (· < ·) → b.Pairwise (· < ·) → (∀ x, x ∈ a ↔ x ∈ b) → a = b
  | [], [], _, _, _ => rfl
  | [], y :: b, _, _, h => absurd ((h y).2 (by simp)) (by simp)
  | x :: a, [], _, _, h => absurd ((h x).1 (by simp)) (by simp)
  | x :: a, y :: b, ha, hb, h => by
    obtain ⟨h1, h2⟩ := List.pairwise_cons.1 ha
    obtain ⟨h3, h4⟩ := List.pairwise_cons.1 hb
    have hxy : x = y := by
      rcases List.mem_cons.1 ((h x).1 (by simp)) with e | e
      · exact e
      · rcases List.mem_cons.1 ((h y).2 (by simp)) with e' | e'
        · exact e'.symm
        · have := h3 x e; have := h1 y e'; omega
    subst hxy
    rw [asc_eq h2 h4 fun z => ⟨fun hz => ?_, fun hz => ?_⟩]
    · rcases List.mem_cons.1 ((h z).1 (by simp [hz])) with e | e
      · subst e; have := h1 z hz; omega
      · exact e
    · rcases List.mem_cons.1 ((h z).2 (by simp [hz])) with e | e
      · subst e; have := h3 z hz; omega
      · exact e
/-- One more, put in order. -/
theorem sorted_add {ns ms : List Nat} {w : Nat} (h : ns.Pairwise (· < ·)) (h6 : ∀ n ∈ ns, 1 ≤ n ∧ n ≤ 6) (hw : 1 ≤ w ∧ w ≤ 6) (hn : w ∉ ns) (hp : ms.Perm (ns ++ [w])) (hs : ms.Pairwise (· ≤ ·)) : ms = addN ns w := by
  have hnd : ms.Nodup := hp.nodup_iff.2 (by
    rw [List.nodup_append]
    exact ⟨h.imp fun h => Nat.ne_of_lt h, by simp, fun a ha b hb => by rw [List.mem_singleton] at hb; subst hb; rintro rfl; exact hn ha⟩)
  have hlt : ms.Pairwise (· < ·) := (hs.and hnd).imp fun ⟨h1, h2⟩ => by omega
  exact asc_eq hlt (addN_asc ns w) fun x => by rw [hp.mem_iff, addN_mem h6 hw]; simp
theorem del_take {ns : List Nat} {j n w : Nat} (h : ns[j]? = some n) : delN (ns.take (j + 1)) w = delN (ns.take j) w ++ if n = w then [] else [n] := by
  unfold delN
  rw [take_nat h, List.filter_append]
  congr 1
  by_cases hn : n = w <;> simp [hn]

set_option maxRecDepth 100000 in
theorem Len64_any (w0 : World) (n : Nat) (hn : n < 256) : FnV P 113 [.int .u64 (n : Nat)] w0 [] (fun v => ∃ m, v = .int .i64 m) := by
  obtain ⟨c, hc⟩ := sLen_at hn
  refine FnV.of 25 [.tmp 2] Go.Proofs.Tryz.func113 rfl rfl rfl rfl (fun G hG => ?_)
  refine T.seq ?_
  refine T.region ?_
  refine TL.cons rfl (V1.t (V1.assign' z_C) ?_)
  refine TL.nil ?_
  refine T.seq ?_
  refine T.seq ?_
  refine T.region ?_
  refine TL.cons rfl (V1.t (V1.move' z_C) ?_)
  refine TL.cons rfl (V1.t (V1.geI (r := false) rfl rfl (decide_eq_false (by omega))) ?_)
  refine TL.nil ?_
  refine T.cond_f rfl ?_
  refine T.skip ?_
  refine T.seq ?_
  refine T.seq ?_
  refine T.region ?_
  refine TL.cons rfl (V1.t (V1.move' z_C) ?_)
  refine TL.cons rfl (V1.t (V1.geI (r := false) rfl rfl (decide_eq_false (by omega))) ?_)
  refine TL.nil ?_
  refine T.cond_f rfl ?_
  refine T.skip ?_
  refine T.seq ?_
  refine T.seq ?_
  refine T.region ?_
  refine TL.cons rfl (V1.t (V1.move' z_C) ?_)
  refine TL.cons rfl (V1.t (V1.geI (r := false) rfl rfl (decide_eq_false (by omega))) ?_)
  refine TL.nil ?_
  refine T.cond_f rfl ?_
  refine T.skip ?_
  refine T.seq ?_
  refine T.region ?_
  refine TL.cons rfl (V1.t (V1.move' z_C) ?_)
  refine TL.cons rfl (V1.t (V1.move' z_C) ?_)
  refine TL.cons rfl (V1.t (V1.conv (c := (n : Int)) ty_157 ty_5 rfl (wrap_u8 _ (by omega) (by omega))) ?_)
  refine TL.cons rfl (V1.t (V1.indexStr (s := sLen) (c := c) ty_9 (show _ = Value.string sLen from congrArg Value.string (by decide +kernel)) rfl (by omega) hc) ?_)
  have hc8 := c.toNat_lt
  refine TL.cons rfl (V1.t (V1.conv (c := ((c.toNat : Nat) : Int)) ty_5 ty_3 rfl (wrap_i64 _ (by omega) (by omega))) ?_)
  refine TL.cons rfl (V1.t (V1.add (c := ((c.toNat : Nat) : Int)) rfl rfl (by rw [wrap_i64 _ (by omega) (by omega)]; omega)) ?_)
  refine TL.cons rfl (V1.t (V1.assign' z_C) ?_)
  refine TL.nil ?_
  refine T.ret ?_
  exact ⟨_, G, _, .cons (.tmp z_C) .nil, z_A, rfl, _, rfl⟩

set_option maxRecDepth 100000 in
theorem Len_any (w0 : World) (n : Nat) (hn : n < 256) : FnV P 78 [.int .u64 (n : Nat)] w0 [] (fun v => ∃ m, v = .int .i64 m) := by
  refine FnV.of 8 [.tmp 2] Go.Proofs.Tryz.func78 rfl rfl rfl rfl (fun G hG => ?_)
  refine T.seq ?_
  refine T.region ?_
  refine TL.cons rfl (V1.t (V1.assign' z_C) ?_)
  refine TL.nil ?_
  refine T.seq ?_
  refine T.cond_f rfl ?_
  refine T.skip ?_
  refine T.seq ?_
  refine T.region ?_
  refine TL.cons rfl (V1.t (V1.move' z_C) ?_)
  refine TL.cons rfl (T1.callV has_113 rfl rfl (Len64_any w0 n hn) z_B (fun v_ hv => ?_))
  obtain ⟨m, rfl⟩ := hv
  refine TL.cons rfl (V1.t (V1.assign' z_C) ?_)
  refine TL.nil ?_
  refine T.ret ?_
  exact ⟨_, G, _, .cons (.tmp z_C) .nil, z_A, rfl, _, rfl⟩

set_option maxRecDepth 100000 in
set_option maxHeartbeats 8000000 in
theorem pdqI_us (w0 : World) (b off size cap : Nat) (n0 : Nat) (ns0 : List Nat) (hn : ns0.length ≤ 11) (m : Int) : FnG P 81 [.slice (some ⟨b, off, none⟩) (ns0.length + 1) cap, .int .i64 0, .int .i64 ((ns0.length + 1 : Nat) : Int), .int .i64 m] w0 [] [⟨b, off, (n0 :: ns0).map iV, size⟩] (fun v Y => ∃ ms : List Nat, Y = [⟨b, off, ms.map iV, size⟩] ∧ ms.Perm (n0 :: ns0) ∧ ms.Pairwise (· ≤ ·)) := by
  refine FnG.of 134 [] Go.Proofs.Tryz.func81 rfl rfl rfl rfl (fun G hG => ?_)
  simp only [List.cons_append, List.nil_append]
  refine T.seq ?_
  refine T.region ?_
  refine TL.cons rfl (V1.t (V1.assign' z_C) ?_)
  refine TL.nil ?_
  refine T.seq ?_
  refine T.region ?_
  refine TL.cons rfl (V1.t (V1.assign' z_C) ?_)
  refine TL.nil ?_
  refine T.block ?_
  refine T.rounds 1 (TR.step ?_)
  refine T.block ?_
  refine T.seq ?_
  refine T.region ?_
  refine TL.cons rfl (V1.t (V1.move' z_C) ?_)
  refine TL.cons rfl (V1.t (V1.move' z_C) ?_)
  refine TL.cons rfl (V1.t (V1.sub (c := ((ns0.length + 1 : Nat) : Int)) rfl rfl (by rw [wrap_i64 _ (by omega) (by omega)]; omega)) ?_)
  refine TL.cons rfl (V1.t (V1.assign' z_C) ?_)
  refine TL.nil ?_
  refine T.seq ?_
  refine T.seq ?_
  refine T.region ?_
  refine TL.cons rfl (V1.t (V1.move' z_C) ?_)
  refine TL.cons rfl (V1.t (V1.leI (r := true) rfl rfl (decide_eq_true (by omega))) ?_)
  refine TL.nil ?_
  refine T.cond_t rfl ?_
  refine T.seq ?_
  refine T.region ?_
  refine TL.cons rfl (V1.t (V1.move' z_C) ?_)
  refine TL.cons rfl (V1.t (V1.move' z_C) ?_)
  refine TL.cons rfl (V1.t (V1.move' z_C) ?_)
  refine TL.cons rfl (T1.callM (X := [⟨b, off, (n0 :: ns0).map iV, size⟩]) has_115 rfl rfl (insert_us w0 b off size cap n0 ns0 hn) z_A z_B (fun v Z hZ => ?_))
  obtain ⟨ms, rfl, hp, hs⟩ := hZ
  simp only [List.cons_append, List.nil_append]
  refine TL.nil ?_
  refine T.ret ?_
  exact ⟨_, _ :: G, _, .nil, z_A, [_], rfl, ms, rfl, hp, hs⟩

set_option maxRecDepth 100000 in
set_option maxHeartbeats 8000000 in
theorem SortI_us (w0 : World) (b off size cap : Nat) (n0 : Nat) (ns0 : List Nat) (hn : ns0.length ≤ 11) : FnG P 47 [.slice (some ⟨b, off, none⟩) (ns0.length + 1) cap] w0 [] [⟨b, off, (n0 :: ns0).map iV, size⟩] (fun v Y => ∃ ms : List Nat, Y = [⟨b, off, ms.map iV, size⟩] ∧ ms.Perm (n0 :: ns0) ∧ ms.Pairwise (· ≤ ·)) := by
  refine FnG.of 11 [] Go.Proofs.Tryz.func47 rfl rfl rfl rfl (fun G hG => ?_)
  simp only [List.cons_append, List.nil_append]
  refine T.seq ?_
  refine T.region ?_
  refine TL.cons rfl (V1.t (V1.move' z_C) ?_)
  refine TL.cons rfl (V1.t (V1.lenSl ty_44 rfl) ?_)
  refine TL.cons rfl (V1.t (V1.assign' z_C) ?_)
  refine TL.nil ?_
  refine T.region ?_
  refine TL.cons rfl (V1.t (V1.move' z_C) ?_)
  refine TL.cons rfl (V1.t (V1.move' z_C) ?_)
  refine TL.cons rfl (V1.t (V1.move' z_C) ?_)
  refine TL.cons rfl (V1.t (V1.conv (c := ((ns0.length + 1 : Nat) : Int)) ty_3 ty_132 rfl (wrap_u64 _ (by omega) (by omega))) ?_)
  refine TL.cons rfl (T1.callV has_78 rfl rfl (Len_any w0 (ns0.length + 1) (by omega)) z_B (fun v_ hv => ?_))
  obtain ⟨m, rfl⟩ := hv
  refine TL.cons rfl (T1.callM (X := [⟨b, off, (n0 :: ns0).map iV, size⟩]) has_81 rfl rfl (pdqI_us w0 b off size cap n0 ns0 hn m) z_A z_B (fun v Z hZ => ?_))
  obtain ⟨ms, rfl, hp, hs⟩ := hZ
  simp only [List.cons_append, List.nil_append]
  refine TL.nil ?_
  -- the end
  exact ⟨_, _ :: G, _, .nil, z_A, [_], rfl, ms, rfl, hp, hs⟩

theorem SortI_any (w0 : World) (b off size cap : Nat) {ns : List Nat} (hn0 : 0 < ns.length) (hn : ns.length ≤ 12) : FnG P 47 [.slice (some ⟨b, off, none⟩) ns.length cap] w0 [] [⟨b, off, ns.map iV, size⟩] (fun v Y => ∃ ms : List Nat, Y = [⟨b, off, ms.map iV, size⟩] ∧ ms.Perm ns ∧ ms.Pairwise (· ≤ ·)) := by
  match ns, hn0 with
  | n0 :: ns0, _ => exact SortI_us w0 b off size cap n0 ns0 (by simp only [List.length_cons] at hn; omega)
set_option maxRecDepth 100000 in
theorem run1_any (w0 : World) (Ps : List Blk) (eb : Nat) (k w : Int) (hE : (⟨eb, 0, [.int .i64 k, .int .i64 w], 2⟩ : Blk) ∈ Ps) (n : Nat) : FnV P 50 [iV n, .pointer (some ⟨eb, 0, none⟩)] w0 Ps (fun v => v = .bool (decide ((n : Int) = w))) := by
  refine FnV.of 8 [.tmp 3] Go.Proofs.Tryz.func50 rfl rfl rfl rfl (fun G hG => ?_)
  have hEf := hG.find hE
  refine T.seq ?_
  refine T.region ?_
  refine TL.cons rfl (V1.t (V1.assign' z_C) ?_)
  refine TL.nil ?_
  refine T.seq ?_
  refine T.region ?_
  refine TL.cons rfl (V1.t (V1.move' z_C) ?_)
  refine TL.cons rfl (V1.t (V1.fieldAddr fl_62_1 rfl) ?_)
  refine TL.cons rfl (V1.t (V1.load1 (v := .int .i64 w) one_3 rfl (.own (cells := [.int .i64 k, .int .i64 w]) z_D (by rfl))) ?_)
  refine TL.cons rfl (V1.t (V1.eqI (r := decide ((n : Int) = w)) rfl rfl rfl) ?_)
  refine TL.cons rfl (V1.t (V1.assign' z_C) ?_)
  refine TL.nil ?_
  refine T.ret ?_
  exact ⟨_, G, _, .cons (.tmp z_C) .nil, z_A, rfl, rfl⟩

set_option maxRecDepth 100000 in
theorem IndexF_us (w0 : World) (Ps : List Blk) {ns : List Nat} {a : Option Addr} {c : Nat} (hr : RowR w0 Ps 1 (.slice a ns.length c) ns.length (ns.map iV)) (hn6 : ns.length ≤ 1000) (eb : Nat) (k w : Int) (hE : (⟨eb, 0, [.int .i64 k, .int .i64 w], 2⟩ : Blk) ∈ Ps) (hm : ∃ n ∈ ns, (n : Int) = w) : FnV P 84 [.slice a ns.length c, .func (.func 50) #[] #[.pointer (some ⟨eb, 0, none⟩)]] w0 Ps (fun v => ∃ (i n : Nat), v = iV i ∧ ns[i]? = some n ∧ (n : Int) = w ∧ ∀ y ∈ ns.take i, (y : Int) ≠ w) := by
  refine FnV.of 19 [.tmp 4] Go.Proofs.Tryz.func84 rfl rfl rfl rfl (fun G hG => ?_)
  refine T.seq ?_
  refine T.region ?_
  refine TL.cons rfl (V1.t (V1.assign' z_C) ?_)
  refine TL.nil ?_
  refine T.seq ?_
  refine T.seq ?_
  refine T.region ?_
  refine TL.cons rfl (V1.t (V1.move' z_C) ?_)
  refine TL.cons rfl (V1.t (V1.lenSl ty_44 rfl) ?_)
  refine TL.cons rfl (V1.t (V1.move' z_C) ?_)
  refine TL.nil ?_
  refine T.block ?_
  refine T.loopL (σ := Nat) (l0 := [(0, _), (1, _), (7, _)]) (fun x => [(8, .int .i64 (x : Nat))]) (fun i L => L = G ∧ i ≤ ns.length ∧ ∀ y ∈ ns.take i, (y : Int) ≠ w) (fun i => ns.length - i) 0 (.cons rfl .nil) (.cons z_C (.cons z_C (.cons z_C .nil))) z_A (⟨rfl, Nat.zero_le _, by simp⟩) ?_
  rintro i e_ L ⟨hL, hi, ho⟩
  obtain rfl := hL.symm
  refine T.seq ?_
  refine T.region ?_
  refine TL.cons rfl (T1.ltI_split rfl rfl (fun h2 => ?_) (fun h2 => ?_))
  ·
    refine TL.nil ?_
    refine T.seq ?_
    refine T.cond_t rfl ?_
    refine T.skip ?_
    refine T.seq ?_
    refine T.block ?_
    refine T.seq ?_
    refine T.region ?_
    refine TL.cons rfl (V1.t (V1.move' z_C) ?_)
    obtain ⟨n, hx0⟩ : ∃ n, ns[i]? = some n := ⟨_, List.getElem?_eq_getElem (by omega)⟩
    obtain ⟨b, o, rfl, hrd⟩ := hr.at (by omega) P
    refine TL.cons rfl (V1.t (V1.assign' z_C) ?_)
    refine TL.nil ?_
    refine T.seq ?_
    refine T.region ?_
    refine TL.cons rfl (V1.t (V1.move' z_C) ?_)
    refine TL.cons rfl (V1.t (V1.move' z_C) ?_)
    refine TL.cons rfl (V1.t (V1.move' z_C) ?_)
    refine TL.cons rfl (V1.t (V1.indexAddrS ty_44 sz_3 rfl rfl (by omega) (by omega)) ?_)
    refine TL.cons rfl (V1.t (V1.load1 (v := iV n) one_3 rfl (show Rd _ _ ⟨_, _ + i * 1, none⟩ _ from by rw [Nat.mul_one]; exact hrd _ rfl rfl _ z_B i _ (by rw [List.getElem?_map, hx0]; rfl))) ?_)
    refine TL.cons rfl (T1.callGV (first := #[]) (cap := #[.pointer (some ⟨eb, 0, none⟩)]) rfl has_50 rfl rfl (run1_any w0 Ps eb k w hE n) z_B (fun v_ hv => ?_))
    obtain rfl := hv
    rcases Classical.em ((n : Int) = w) with hnw | hnw
    ·
      rw [decide_eq_true hnw]
      refine TL.nil ?_
      refine T.cond_t rfl ?_
      refine T.seq ?_
      refine T.region ?_
      refine TL.cons rfl (V1.t (V1.move' z_C) ?_)
      refine TL.cons rfl (V1.t (V1.assign' z_C) ?_)
      refine TL.nil ?_
      refine T.ret ?_
      exact ⟨_, G, _, .cons (.tmp z_C) .nil, z_A, rfl, i, n, rfl, hx0, hnw, ho⟩
    ·
      rw [decide_eq_false hnw]
      refine TL.nil ?_
      refine T.cond_f rfl ?_
      refine T.skip ?_
      refine T.region ?_
      refine TL.cons rfl (V1.t (V1.add (c := ((i + 1 : Nat) : Int)) rfl rfl (by rw [wrap_i64 _ (by omega) (by omega)]; omega)) ?_)
      refine TL.cons rfl (V1.t (V1.move' z_C) ?_)
      refine TL.nil ?_
      exact ⟨i + 1, G, _, (by simp only; omega), (.cons rfl .nil), (.cons rfl (.cons rfl (.cons rfl .nil))), z_A, ⟨rfl, by omega, by rw [take_nat hx0]; intro y hy; rcases List.mem_append.1 hy with hy | hy; exact ho y hy; rw [List.mem_singleton] at hy; subst hy; exact hnw⟩⟩
  ·
    obtain rfl : i = ns.length := by omega
    rw [List.take_length] at ho
    obtain ⟨y, hy, e⟩ := hm
    exact absurd e (ho y hy)

theorem del_none {ns : List Nat} {i x0 : Nat} {w : Int} (ho : ∀ y ∈ ns.take i, (y : Int) ≠ w) (hw : (x0 : Int) = w) : delN (ns.take i) x0 = ns.take i := by
  unfold delN
  rw [List.filter_eq_self]
  intro y hy
  have := ho y hy
  rw [decide_eq_true_iff]; omega
theorem take_set {cs : List Nat} {i x : Nat} (h : i < cs.length) : (cs.set i x).take (i + 1) = cs.take i ++ [x] := by
  rw [List.take_add_one, List.getElem?_set_self h, List.take_set_of_le (Nat.le_refl _)]; rfl
set_option maxRecDepth 100000 in
set_option maxHeartbeats 8000000 in
theorem DeleteI_us (w0 : World) (Ps : List Blk) (b off size cap : Nat) {ns : List Nat} (hn6 : ns.length ≤ 1000) (hcap : ns.length ≤ cap) (eb : Nat) (k w : Int) (hE : (⟨eb, 0, [.int .i64 k, .int .i64 w], 2⟩ : Blk) ∈ Ps) (w1 : Nat) (hw1 : (w1 : Int) = w) (hmw : w1 ∈ ns) : FnG P 49 [.slice (some ⟨b, off, none⟩) ns.length cap, .func (.func 50) #[] #[.pointer (some ⟨eb, 0, none⟩)]] w0 Ps [⟨b, off, ns.map iV, size⟩] (fun v Y => v = .slice (some ⟨b, off, none⟩) (delN ns w1).length cap ∧ Y = [⟨b, off, (delN ns w1).map iV, size⟩]) := by
  have hm : ∃ n ∈ ns, (n : Int) = w := ⟨w1, hmw, hw1⟩
  refine FnG.of 42 [.tmp 4] Go.Proofs.Tryz.func49 rfl rfl rfl rfl (fun G hG => ?_)
  have hEf := hG.find hE
  simp only [List.cons_append, List.nil_append]
  refine T.seq ?_
  refine T.region ?_
  refine TL.cons rfl (V1.t (V1.assign' z_C) ?_)
  refine TL.nil ?_
  refine T.seq ?_
  refine T.region ?_
  refine TL.cons rfl (V1.t (V1.move' z_C) ?_)
  refine TL.cons rfl (V1.t (V1.move' z_C) ?_)
  refine TL.cons rfl (T1.callV has_84 rfl rfl (IndexF_us w0 ((⟨b, off, (ns).map iV, size⟩ : Blk) :: Ps) (RowR.own (List.mem_cons_self ..) (by simp)) hn6 eb k w (List.mem_cons_of_mem _ hE) hm) z_B (fun v_ hv => ?_))
  obtain ⟨i0, x0, rfl, hx0, hxw, ho⟩ := hv
  have hi0 := (List.getElem?_eq_some_iff.1 hx0).1
  obtain rfl : x0 = w1 := by omega
  refine TL.cons rfl (V1.t (V1.assign' z_C) ?_)
  refine TL.nil ?_
  refine T.seq ?_
  refine T.seq ?_
  refine T.region ?_
  refine TL.cons rfl (V1.t (V1.move' z_C) ?_)
  refine TL.cons rfl (V1.t (V1.eqI (r := false) rfl rfl (decide_eq_false (by omega))) ?_)
  refine TL.nil ?_
  refine T.cond_f rfl ?_
  refine T.skip ?_
  refine T.seq ?_
  refine T.seq ?_
  refine T.region ?_
  refine TL.cons rfl (V1.t (V1.move' z_C) ?_)
  refine TL.cons rfl (V1.t (V1.add (c := ((i0 + 1 : Nat) : Int)) rfl rfl (by rw [wrap_i64 _ (by omega) (by omega)]; omega)) ?_)
  refine TL.cons rfl (V1.t (V1.assign' z_C) ?_)
  refine TL.nil ?_
  refine T.block ?_
  refine T.loopL (σ := Nat × Nat × List Nat) (l0 := [(0, _), (1, _)]) (fun x => [(5, .int .i64 (x.1 : Nat)), (6, .int .i64 (x.2.1 : Nat))]) (fun x L => L = (⟨b, off, (x.2.2).map iV, size⟩ : Blk) :: G ∧ x.2.2.length = ns.length ∧ x.1 < x.2.1 ∧ x.2.1 ≤ ns.length ∧ x.2.2.take x.1 = delN (ns.take x.2.1) x0 ∧ x.2.2.drop x.2.1 = ns.drop x.2.1) (fun x => ns.length - x.2.1) (i0, i0 + 1, ns) (.cons rfl (.cons rfl .nil)) (.cons z_C (.cons z_C .nil)) z_A (⟨rfl, rfl, by simp only; omega, by simp only; omega, by simp only; rw [del_take hx0, if_pos rfl, List.append_nil]; exact (del_none ho hxw).symm, rfl⟩) ?_
  rintro ⟨i, j, cs⟩ e_ L ⟨rfl, hcl, hij, hjn, hti, hdj⟩
  simp only at hcl hij hjn hti hdj
  have htl : (delN (ns.take j) x0).length = i := by rw [← hti, List.length_take]; omega
  dsimp only
  refine T.seq ?_
  refine T.seq ?_
  refine T.region ?_
  refine TL.cons rfl (V1.t (V1.move' z_C) ?_)
  refine TL.cons rfl (V1.t (V1.move' z_C) ?_)
  refine TL.cons rfl (V1.t (V1.lenSl ty_44 rfl) ?_)
  refine TL.cons rfl (T1.ltI_split rfl rfl (fun h5 => ?_) (fun h5 => ?_))
  ·
    obtain ⟨x, hxj⟩ : ∃ x, ns[j]? = some x := ⟨_, List.getElem?_eq_getElem (by omega)⟩
    have hcj : cs[j]? = some x := by have h_ := congrArg (fun l => l[0]?) hdj; simpa [List.getElem?_drop, hxj] using h_
    have hic : i < cs.length := by omega
    refine TL.nil ?_
    refine T.cond_t rfl ?_
    refine T.skip ?_
    refine T.seq ?_
    refine T.block ?_
    refine T.seq ?_
    refine T.region ?_
    refine TL.cons rfl (V1.t (V1.move' z_C) ?_)
    refine TL.cons rfl (V1.t (V1.move' z_C) ?_)
    refine TL.cons rfl (V1.t (V1.indexAddrS ty_44 sz_3 rfl rfl (by omega) (by omega)) ?_)
    refine TL.cons rfl (V1.t (V1.load1 (v := iV x) one_3 rfl (ib_rd (cs := cs.map iV) (k := j) z_D (by rw [List.getElem?_map, hcj]; rfl))) ?_)
    refine TL.cons rfl (V1.t (V1.assign' z_C) ?_)
    refine TL.nil ?_
    refine T.seq ?_
    refine T.region ?_
    refine TL.cons rfl (V1.t (V1.move' z_C) ?_)
    refine TL.cons rfl (V1.t (V1.move' z_C) ?_)
    refine TL.cons rfl (T1.callGV (first := #[]) (cap := #[.pointer (some ⟨eb, 0, none⟩)]) rfl has_50 rfl rfl (run1_any w0 Ps eb k w hE x) z_B (fun v_ hv => ?_))
    obtain rfl := hv
    rcases Classical.em (x = x0) with hxw2 | hxw2
    ·
      rw [decide_eq_true (show ((x : Nat) : Int) = w by omega)]
      refine TL.cons rfl (V1.t (V1.not rfl rfl) ?_)
      refine TL.nil ?_
      refine T.cond_f rfl ?_
      refine T.skip ?_
      refine T.region ?_
      refine TL.cons rfl (V1.t (V1.move' z_C) ?_)
      refine TL.cons rfl (V1.t (V1.add (c := ((j + 1 : Nat) : Int)) rfl rfl (by rw [wrap_i64 _ (by omega) (by omega)]; omega)) ?_)
      refine TL.cons rfl (V1.t (V1.assign' z_C) ?_)
      refine TL.nil ?_
      exact ⟨(i, j + 1, cs), (⟨b, off, (cs).map iV, size⟩ : Blk) :: G, _, (by simp only; omega), (.cons rfl (.cons rfl .nil)), (.cons rfl (.cons rfl .nil)), z_A, ⟨rfl, hcl, by simp only; omega, by simp only; omega, by simp only; rw [del_take hxj, if_pos hxw2, List.append_nil]; exact hti, by simp only; rw [← List.drop_drop, hdj, List.drop_drop]⟩⟩
    ·
      rw [decide_eq_false (show ¬ ((x : Nat) : Int) = w by omega)]
      refine TL.cons rfl (V1.t (V1.not rfl rfl) ?_)
      refine TL.nil ?_
      refine T.cond_t rfl ?_
      refine T.seq ?_
      refine T.region ?_
      refine TL.cons rfl (V1.t (V1.move' z_C) ?_)
      refine TL.cons rfl (V1.t (V1.move' z_C) ?_)
      refine TL.cons rfl (V1.t (V1.move' z_C) ?_)
      refine TL.cons rfl (V1.t (V1.indexAddrS ty_44 sz_3 rfl rfl (by omega) (by omega)) ?_)
      refine TL.cons rfl (T1.storeE (o := off + i * 1) (off := off) (size := size) (cells := cs.map iV) (cells' := (cs.set i x).map iV) (v := iV x) rfl rfl sz_3 rfl (by rw [show off + i * 1 - off = i by omega, List.map_set]) z_G (by omega) (by rw [List.length_map]; omega) ?_)
      refine TL.nil ?_
      refine T.live (l := [(0, _), (1, _), (5, _), (6, _)]) (.cons z_C (.cons z_C (.cons z_C (.cons z_C .nil)))) (fun e_ => ?_)
      refine T.region ?_
      refine TL.cons rfl (V1.t (V1.move' z_C) ?_)
      refine TL.cons rfl (V1.t (V1.add (c := ((i + 1 : Nat) : Int)) rfl rfl (by rw [wrap_i64 _ (by omega) (by omega)]; omega)) ?_)
      refine TL.cons rfl (V1.t (V1.assign' z_C) ?_)
      refine TL.nil ?_
      refine T.region ?_
      refine TL.cons rfl (V1.t (V1.move' z_C) ?_)
      refine TL.cons rfl (V1.t (V1.add (c := ((j + 1 : Nat) : Int)) rfl rfl (by rw [wrap_i64 _ (by omega) (by omega)]; omega)) ?_)
      refine TL.cons rfl (V1.t (V1.assign' z_C) ?_)
      refine TL.nil ?_
      exact ⟨(i + 1, j + 1, cs.set i x), (⟨b, off, (cs.set i x).map iV, size⟩ : Blk) :: G, _, (by simp only; omega), (.cons rfl (.cons rfl .nil)), (.cons rfl (.cons rfl .nil)), z_A, ⟨rfl, by simp only; rw [List.length_set]; exact hcl, by simp only; omega, by simp only; omega, by simp only; rw [del_take hxj, if_neg hxw2, ← hti]; exact take_set hic, by simp only; rw [List.drop_set_of_lt (by omega), ← List.drop_drop, hdj, List.drop_drop]⟩⟩
  ·
    obtain rfl : j = ns.length := by omega
    rw [List.take_length] at hti htl
    refine TL.nil ?_
    refine T.cond_f rfl ?_
    refine T.exit ?_
    refine T.seq ?_
    refine T.region ?_
    refine TL.cons rfl (V1.t (V1.move' z_C) ?_)
    refine TL.cons rfl (V1.t (V1.move' z_C) ?_)
    refine TL.cons rfl (V1.t (V1.sliceK i ns.length ty_44 sz_3 rfl rfl rfl (by omega) hcap (by omega)) ?_)
    refine TL.cons rfl (T1.clearTail (off := off) (size := size) (m := i * 1) (cells := cs.map iV) (z := .int .i64 0) ty_44 zr_3 (ones rfl) rfl rfl (by omega) (by rw [List.length_map, show (Value.int IntKind.i64 0).cells.size = 1 from rfl]; omega) z_G ?_)
    refine TL.nil ?_
    refine T.seq ?_
    refine T.region ?_
    refine TL.cons rfl (V1.t (V1.move' z_C) ?_)
    refine TL.cons rfl (V1.t (V1.move' z_C) ?_)
    refine TL.cons rfl (V1.t (V1.sliceK 0 i ty_44 sz_3 rfl rfl rfl (by omega) (by omega) (by omega)) ?_)
    refine TL.cons rfl (V1.t (V1.assign' z_C) ?_)
    refine TL.nil ?_
    refine T.ret ?_
    rw [Nat.mul_one, ← List.map_take, hti]
    exact ⟨_, _ :: G, _, .cons (.tmp z_C) .nil, z_A, [_], rfl, by rw [htl]; rfl, rfl⟩

end Go.Proofs.YtlpkcbkflfbclaaGreatDoor.S
