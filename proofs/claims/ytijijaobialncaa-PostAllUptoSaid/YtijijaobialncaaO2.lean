/- The keys of a map, put in order; who is known. -/
import Derived.Test.YtijijaobialncaaPeopleF
import Derived.Test.YtijijaobialncaaO1
import Derived.Test.YtijijaobialncaaQ4
namespace Go.Proofs.Ytijijaobialncaa.S
open Go.RowKit

/-- How many can be put in order. -/
abbrev maxSort : Nat := 64
set_option maxRecDepth 100000 in
set_option maxHeartbeats 8000000 in
theorem insertNil (w0 : World) (a : Option Addr) (c : Nat) : FnG P 60 [.slice a 0 c, .int .i64 0, .int .i64 0] w0 [] [] (fun v Y => Y = []) := by
  refine FnG.of 49 [] Go.Proofs.Try.func60 rfl rfl rfl rfl (fun G hG => ?_)
  refine T.seq ?_
  refine T.region ?_
  refine TL.cons rfl (V1.t (V1.move' z_B) ?_)
  refine TL.cons rfl (V1.t (V1.add (c := 1) rfl rfl (by decide)) ?_)
  refine TL.cons rfl (V1.t (V1.assign' z_B) ?_)
  refine TL.nil ?_
  refine T.block ?_
  refine T.rounds 1 (TR.step ?_)
  refine T.seq ?_
  refine T.seq ?_
  refine T.region ?_
  refine TL.cons rfl (V1.t (V1.move' z_B) ?_)
  refine TL.cons rfl (V1.t (V1.move' z_B) ?_)
  refine TL.cons rfl (V1.t (V1.ltI (r := false) rfl rfl rfl) ?_)
  refine TL.nil ?_
  refine T.cond_f rfl ?_
  refine T.exit ?_
  -- the end
  exact ⟨_, G, _, .nil, z_A, [], rfl, rfl⟩

set_option maxRecDepth 100000 in
set_option maxHeartbeats 8000000 in
theorem pdqNil (w0 : World) (a : Option Addr) (c : Nat) (m : Int) : FnG P 58 [.slice a 0 c, .int .i64 0, .int .i64 0, .int .i64 m] w0 [] [] (fun v Y => Y = []) := by
  refine FnG.of 134 [] Go.Proofs.Try.func58 rfl rfl rfl rfl (fun G hG => ?_)
  refine T.seq ?_
  refine T.region ?_
  refine TL.cons rfl (V1.t (V1.assign' z_B) ?_)
  refine TL.nil ?_
  refine T.seq ?_
  refine T.region ?_
  refine TL.cons rfl (V1.t (V1.assign' z_B) ?_)
  refine TL.nil ?_
  refine T.block ?_
  refine T.rounds 1 (TR.step ?_)
  refine T.block ?_
  refine T.seq ?_
  refine T.region ?_
  refine TL.cons rfl (V1.t (V1.move' z_B) ?_)
  refine TL.cons rfl (V1.t (V1.move' z_B) ?_)
  refine TL.cons rfl (V1.t (V1.sub (c := 0) rfl rfl (by decide)) ?_)
  refine TL.cons rfl (V1.t (V1.assign' z_B) ?_)
  refine TL.nil ?_
  refine T.seq ?_
  refine T.seq ?_
  refine T.region ?_
  refine TL.cons rfl (V1.t (V1.move' z_B) ?_)
  refine TL.cons rfl (V1.t (V1.leI (r := true) rfl rfl rfl) ?_)
  refine TL.nil ?_
  refine T.cond_t rfl ?_
  refine T.seq ?_
  refine T.region ?_
  refine TL.cons rfl (V1.t (V1.move' z_B) ?_)
  refine TL.cons rfl (V1.t (V1.move' z_B) ?_)
  refine TL.cons rfl (V1.t (V1.move' z_B) ?_)
  refine TL.cons rfl (T1.callC has_60 rfl rfl (insertNil w0 a c) z_E (fun v_ Y_ hY => ?_))
  obtain rfl := hY
  rw [List.nil_append]
  refine TL.nil ?_
  refine T.ret ?_
  exact ⟨_, G, _, .nil, z_A, [], rfl, rfl⟩

set_option maxRecDepth 100000 in
set_option maxHeartbeats 8000000 in
theorem SortNil (w0 : World) (a : Option Addr) (c : Nat) : FnG P 53 [.slice a 0 c] w0 [] [] (fun v Y => Y = []) := by
  refine FnG.of 11 [] Go.Proofs.Try.func53 rfl rfl rfl rfl (fun G hG => ?_)
  refine T.seq ?_
  refine T.region ?_
  refine TL.cons rfl (V1.t (V1.move' z_B) ?_)
  refine TL.cons rfl (V1.t (V1.lenSl ty_36 rfl) ?_)
  refine TL.cons rfl (V1.t (V1.assign' z_B) ?_)
  refine TL.nil ?_
  refine T.region ?_
  refine TL.cons rfl (V1.t (V1.move' z_B) ?_)
  refine TL.cons rfl (V1.t (V1.move' z_B) ?_)
  refine TL.cons rfl (V1.t (V1.move' z_B) ?_)
  refine TL.cons rfl (V1.t (V1.conv (c := ((0 : Nat) : Int)) ty_3 ty_110 rfl (by decide)) ?_)
  refine TL.cons rfl (T1.callV has_59 rfl rfl (Len_any w0 0 (by omega)) z_E (fun v_ hv => ?_))
  obtain ⟨m, rfl⟩ := hv
  refine TL.cons rfl (T1.callC has_58 rfl rfl (pdqNil w0 a c m) z_E (fun v_ Y_ hY => ?_))
  obtain rfl := hY
  rw [List.nil_append]
  refine TL.nil ?_
  -- the end
  exact ⟨_, G, _, .nil, z_A, [], rfl, rfl⟩

/-- A row of one's own put in order. -/
theorem Sort_any (w0 : World) {v : Value} {ns : List Nat} {X : List Blk} (h : Sl v (ns.map u32V) 1 X) (hn : ns.length ≤ maxSort) (hnd : ns.Nodup) : FnG P 53 [v] w0 [] X (fun _ Y => ∃ ms : List Nat, ms.Perm ns ∧ ms.Pairwise (· ≤ ·) ∧ Sl v (ms.map u32V) 1 Y) := by
  rcases h with ⟨rfl, h1, rfl⟩ | ⟨b, off, len, cap, size, rfl, h1, h2, h3, rfl⟩
  · have : ns = [] := by simpa using h1
    subst this
    exact (SortNil w0 none 0).mono fun _ Y hY => by subst hY; exact ⟨[], List.Perm.refl _, List.Pairwise.nil, Sl.nil⟩
  · obtain rfl : len = ns.length := by rw [List.length_map, Nat.mul_one] at h1; exact h1.symm
    match ns, hn, hnd with
    | [], _, _ =>
      intro G w _ hs
      refine (SortNil w0 (some ⟨b, off, none⟩) cap _ w Inc.nil hs).mono ?_
      rintro en w' ⟨v, Y, e1, e2, rfl⟩
      exact ⟨v, _, e1, e2, [], List.Perm.refl _, List.Pairwise.nil, .inr ⟨b, off, 0, cap, size, rfl, rfl, h2, h3, rfl⟩⟩
    | n :: ns, hn, hnd => exact (SortW w0 b off size cap (n :: ns).length (n :: ns) rfl (Nat.le_trans hn (by decide)) (by simp) hnd).mono fun _ Y ⟨ms, e1, e2, e3⟩ => by subst e1; exact ⟨ms, e2, e3, .inr ⟨b, off, ms.length, cap, size, by rw [e2.length_eq], by simp, by rw [e2.length_eq]; exact h2, h3, rfl⟩⟩
set_option maxRecDepth 100000 in
theorem Keys_any (w0 : World) (b : Nat) : FnG P 41 [.map (some b)] w0 [] [] (fun v Y => ∃ kb, v = .func (.func 54) #[] #[.pointer (some ⟨kb, 0, none⟩)] ∧ Y = [(⟨kb, 0, [.map (some b)], 1⟩ : Blk)]) := by
  refine FnG.of 4 [.tmp 2] Go.Proofs.Try.func41 rfl rfl rfl rfl (fun G hG => ?_)
  refine T.seq ?_
  refine T.region ?_
  refine TL.cons rfl (T1.box1 z_B rfl (fun b1 => ?_))
  refine TL.cons rfl (V1.t (V1.assign' z_B) ?_)
  refine TL.nil ?_
  refine T.seq ?_
  refine T.region ?_
  refine TL.cons rfl (V1.t (V1.makeFuncC z_B) ?_)
  refine TL.cons rfl (V1.t (V1.assign' z_B) ?_)
  refine TL.nil ?_
  refine T.ret ?_
  exact ⟨_, _ :: G, _, .cons (.tmp z_B) .nil, z_A, [_], rfl, _, rfl, rfl⟩

set_option maxRecDepth 100000 in
theorem Sorted_any (w0 : World) (kb : Nat) (b : Nat) (kv : List (Nat × Value)) (hd : (kv.map (·.1)).Nodup) (hlt : ∀ x ∈ kv, x.1 < 4294967296) (hlen : kv.length ≤ maxSort) : FnG P 40 [.func (.func 54) #[] #[.pointer (some ⟨kb, 0, none⟩)]] w0 [⟨kb, 0, [.map (some b)], 1⟩, MB b (kv.map fun x => (u32V x.1, x.2))] [] (fun v Y => ∃ ms : List Nat, ms.Perm (kv.map (·.1)) ∧ ms.Pairwise (· ≤ ·) ∧ Sl v (ms.map u32V) 1 Y) := by
  refine FnG.of 9 [.tmp 2] Go.Proofs.Try.func40 rfl rfl rfl rfl (fun G hG => ?_)
  have hKf := hG.find (List.mem_cons_self ..)
  have hMf := hG.find (List.mem_cons_of_mem _ (List.mem_cons_self ..))
  refine T.seq ?_
  refine T.region ?_
  refine TL.cons rfl (V1.t (V1.assign' z_B) ?_)
  refine TL.nil ?_
  refine T.seq ?_
  refine T.region ?_
  refine TL.cons rfl (V1.t (V1.move' z_B) ?_)
  refine TL.cons rfl (T1.callC has_52 rfl rfl (Collect_any w0 kb b kv hd hlt (Nat.le_trans hlen (by decide))) z_E (fun v_ Y_ hY => ?_))
  obtain ⟨ms, hp, hsl⟩ := hY
  refine TL.cons rfl (V1.t (V1.assign' z_B) ?_)
  refine TL.nil ?_
  refine T.seq ?_
  refine T.region ?_
  refine TL.cons rfl (V1.t (V1.move' z_B) ?_)
  refine TL.cons rfl (T1.callM («as» := [v_]) has_53 rfl rfl (Sort_any w0 (v := v_) hsl (by rw [hp.length_eq, List.length_map]; exact hlen) (hp.nodup_iff.2 hd)) z_A z_E (fun v1_ Z hZ => ?_))
  obtain ⟨ms2, hp2, hs2, hsl2⟩ := hZ
  refine TL.nil ?_
  refine T.seq ?_
  refine T.region ?_
  refine TL.cons rfl (V1.t (V1.move' z_B) ?_)
  refine TL.cons rfl (V1.t (V1.assign' z_B) ?_)
  refine TL.nil ?_
  refine T.ret ?_
  exact ⟨_, Z ++ G, _, .cons (.tmp z_B) .nil, z_A, Z, rfl, ms2, hp2.trans hp, hs2, hsl2⟩

end Go.Proofs.Ytijijaobialncaa.S
