/- SHA-256: a hash that is being made, and the sums. -/
import Derived.Test.YtmolpgnekcfimaaS2
namespace Go.Proofs.Ytmolpgnekcfimaa.S
open Go.RowKit

open Sh
/-- A hash that is being made: l came in. -/
def HB {w : Nat} (Tp : Sp w) (wv : BitVec w → Value) (bh : Nat) (l : List UInt8) (X : List Blk) : Prop := ∃ s Lr, X = ⟨bh, 0, s :: w64 (BitVec.ofNat 64 l.length) :: (stL (absorb Tp Tp.init l).1).map wv, 10⟩ :: Lr ∧ Sl s ((absorb Tp Tp.init l).2.map byteV) 1 Lr
theorem cnt_add {l p : List UInt8} : BitVec.ofNat 64 l.length + BitVec.ofInt 64 (p.length : Int) = BitVec.ofNat 64 (l ++ p).length := by
  rw [BitVec.ofInt_natCast, List.length_append, ← BitVec.ofNat_add]
theorem take_flat {ps : List (List UInt8)} {k : Nat} {p : List UInt8} (h : ps[k]? = some p) : (ps.take (k + 1)).flatten = (ps.take k).flatten ++ p := by
  rw [List.take_add_one, h]; simp
theorem fill_end {α : Type} {f : α → Value} {WW : List α} {z : Value} {m : Nat} (h : WW.length = m) : (WW.take m).map f ++ List.replicate (m - m) z = WW.map f := by
  rw [List.take_of_length_le (by omega), Nat.sub_self]; simp
theorem getD_of {α : Type} {l : List α} {i : Nat} {x d : α} (h : l[i]? = some x) : l.getD i d = x := by rw [List.getD_eq_getElem?_getD, h]; rfl

theorem state32 {st : R8 32} {i : Nat} (h : i < 8) : ((stL st).map w32)[i]? = some (w32 ((stL st).getD i 0)) := by
  rw [List.getElem?_map, List.getD_eq_getElem?_getD, List.getElem?_eq_getElem (show i < (stL st).length from h)]; rfl
theorem outbyte32 {st : R8 32} {i : Nat} (h : i < 32) : ((((stL st).getD (i / 4) 0) >>> (8 * (3 - i % 4))).setWidth 8).toNat = ((outB st).getD i 0).toNat := by
  rw [getD_of (outB_get (by decide) h), byte_shift]

theorem feed256 (w0 : World) (bh : Nat) (s pv : Value) (n : BitVec 64) (st : R8 32) (r p : List UInt8) (Lr Ps : List Blk) (hs : Sl s (r.map byteV) 1 Lr) (hp : PartR w0 Ps pv p) (hr : r.length < 2 * 32) (hpl : p.length ≤ 200000000000000) : FnX P 32 [.pointer (some ⟨bh, 0, none⟩), .int .i64 64, pv, .func (.func 33) #[.pointer (some ⟨bh, 0, none⟩)] #[]] w0 [] (⟨bh, 0, s :: w64 n :: (stL st).map w32, 10⟩ :: (Lr ++ Ps))
    (fun _ Y => ∃ s' Lr', Sl s' ((absorb T256 st (r ++ p)).2.map byteV) 1 Lr' ∧ Y = ⟨bh, 0, s' :: w64 (n + BitVec.ofInt 64 (p.length : Int)) :: (stL (absorb T256 st (r ++ p)).1).map w32, 10⟩ :: (Lr' ++ Ps)) :=
  feed_any T256 w32 33 has_33 (by decide) (by decide) blockC256 w0 bh s pv n st r p Lr Ps hs hp hr hpl

set_option maxRecDepth 100000 in
theorem New256_any (w : World) : Fn P 28 [] w [] (fun v Y => ∃ b, v = .pointer (some ⟨b, 0, none⟩) ∧ HB T256 w32 b [] Y) := by
  refine Fn.of 4 [.tmp 0] Go.Proofs.Try.func28 rfl rfl rfl rfl ?_
  refine T.seq ?_
  refine T.region ?_
  refine TL.cons rfl (V1.t (V1.assign' (by (conv => lhs; whnf) <;> rfl)) ?_)
  refine TL.nil ?_
  refine T.seq ?_
  refine T.region ?_
  refine TL.cons rfl (V1.t (V1.buildFA ty_78 sz_77 zr_78 (.one rfl (by (conv => lhs; whnf) <;> rfl) rfl (.one rfl (by (conv => lhs; whnf) <;> rfl) rfl (.one rfl (by (conv => lhs; whnf) <;> rfl) rfl (.one rfl (by (conv => lhs; whnf) <;> rfl) rfl (.one rfl (by (conv => lhs; whnf) <;> rfl) rfl (.one rfl (by (conv => lhs; whnf) <;> rfl) rfl (.one rfl (by (conv => lhs; whnf) <;> rfl) rfl (.one rfl (by (conv => lhs; whnf) <;> rfl) rfl .nil)))))))) (by repeat (first | exact FillL.nil | exact SetN.done | apply SetN.here | apply SetN.there | apply FillL.cons))) ?_)
  refine TL.cons rfl (V1.t (V1.buildF pl_82 zr_82 (.many rfl (by (conv => lhs; whnf) <;> rfl) rfl .nil) (by repeat (first | exact FillL.nil | exact SetN.done | apply SetN.here | apply SetN.there | apply FillL.cons))) ?_)
  refine TL.cons rfl (T1.boxN 10 rfl rfl (fun b3 => ?_))
  refine TL.cons rfl (V1.t (V1.assign' (by (conv => lhs; whnf) <;> rfl)) ?_)
  refine TL.nil ?_
  refine T.ret ?_
  exact ⟨_, [⟨b3, 0, .slice none 0 0 :: w64 0 :: (stL (absorb T256 T256.init []).1).map w32, 10⟩], _, .cons (.tmp (by (conv => lhs; whnf) <;> rfl)) .nil, (by repeat (first | exact Take.nil | apply Take.one (by repeat (first | exact Pick.here | apply Pick.there | apply Pick.far)) | apply Take.seg (by repeat (first | exact PickS.last | exact PickS.one | exact PickS.here | exact PickS.nil | apply PickS.there | apply PickS.far)) | exact Take.last (by repeat (first | exact PickS.last | exact PickS.one | exact PickS.here | exact PickS.nil | apply PickS.there | apply PickS.far)))), b3, rfl, _, [], rfl, Sl.nil⟩

set_option maxRecDepth 100000 in
set_option maxHeartbeats 2000000 in
theorem Write256_any (w0 : World) (bh : Nat) (v : Value) (l : List UInt8) (ps : List (List UInt8)) (X Ps : List Blk) (hb : HB T256 w32 bh l X) (hp : PartsR w0 Ps v ps) (hlen : ∀ p ∈ ps, p.length ≤ 200000000000000) (hpn : ps.length < 9223372036854775807) : FnX P 29 [.pointer (some ⟨bh, 0, none⟩), v] w0 [] (X ++ Ps) (fun _ Y => ∃ X', HB T256 w32 bh (l ++ ps.flatten) X' ∧ Y = X' ++ Ps) := by
  obtain ⟨s0, Lr0, rfl, hs0⟩ := hb
  obtain ⟨pa, pc, rfl⟩ := hp.form
  refine FnX.of 20 [] Go.Proofs.Try.func29 rfl rfl rfl rfl (fun G => ?_)
  simp only [List.cons_append, List.append_assoc]
  refine T.seq ?_
  refine T.region ?_
  refine TL.cons rfl (V1.t (V1.move' (by (conv => lhs; whnf) <;> rfl)) ?_)
  refine TL.cons rfl (V1.t (V1.lenSl ty_22 rfl) ?_)
  refine TL.cons rfl (V1.t (V1.move' (by (conv => lhs; whnf) <;> rfl)) ?_)
  refine TL.nil ?_
  refine T.block ?_
  refine T.loopL (σ := Nat × Value × List Blk × List UInt8) (l0 := [(0, _), (6, _), (7, _)]) (fun x => [(8, .int .i64 (x.1 : Nat))]) (fun x L => L = ⟨bh, 0, x.2.1 :: w64 (BitVec.ofNat 64 (x.2.2.2).length) :: (stL (absorb T256 T256.init (x.2.2.2)).1).map w32, 10⟩ :: (x.2.2.1 ++ (Ps ++ G)) ∧ Sl x.2.1 ((absorb T256 T256.init x.2.2.2).2.map byteV) 1 x.2.2.1 ∧ x.2.2.2 = l ++ (ps.take x.1).flatten ∧ x.1 ≤ ps.length) (fun x => ps.length - x.1) (0, s0, Lr0, l) (.cons rfl .nil) (.cons (by (conv => lhs; whnf) <;> rfl) (.cons (by (conv => lhs; whnf) <;> rfl) (.cons (by (conv => lhs; whnf) <;> rfl) .nil))) (by repeat (first | exact Take.nil | apply Take.one (by repeat (first | exact Pick.here | apply Pick.there | apply Pick.far)) | apply Take.seg (by repeat (first | exact PickS.last | exact PickS.one | exact PickS.here | exact PickS.nil | apply PickS.there | apply PickS.far)) | exact Take.last (by repeat (first | exact PickS.last | exact PickS.one | exact PickS.here | exact PickS.nil | apply PickS.there | apply PickS.far)))) (⟨rfl, hs0, by simp only [List.take_zero, List.flatten_nil, List.append_nil], Nat.zero_le _⟩) ?_
  rintro ⟨q, s, Lr, lk⟩ e_ L ⟨rfl, hsl, hlk, hq⟩
  simp only at hsl hq hlk
  refine T.seq ?_
  refine T.region ?_
  refine TL.cons rfl (T1.ltI_split rfl rfl (fun h1_0 => ?_) (fun h1_0 => ?_))
  ·
    simp only at h1_0
    obtain ⟨ba, oa, sv, p, rfl, hpk, hpr, hrd⟩ := hp.at (P := P) (k := q) (by omega)
    obtain ⟨st_, hst_⟩ : ∃ z, z = (absorb T256 T256.init lk).1 := ⟨_, rfl⟩
    obtain ⟨r_, hr_⟩ : ∃ z, z = (absorb T256 T256.init lk).2 := ⟨_, rfl⟩
    have hrl : r_.length < 2 * 32 := by rw [hr_]; exact (absorb_rest T256 (by decide) _ _ _ (Nat.le_refl _)).1
    rw [← hr_] at hsl
    rw [← hst_]
    refine TL.nil ?_
    refine T.seq ?_
    refine T.cond_t rfl ?_
    refine T.skip ?_
    refine T.seq ?_
    refine T.block ?_
    refine T.seq ?_
    refine T.region ?_
    refine TL.cons rfl (V1.t (V1.indexAddrS ty_22 sz_33 rfl rfl (by omega) (by omega)) ?_)
    refine TL.cons rfl (V1.t (V1.load1 one_33 rfl (hrd _ rfl rfl _ (by intro B hB; simp only [List.mem_cons, List.mem_append]; simp [hB]))) ?_)
    refine TL.cons rfl (V1.t (V1.assign' (by (conv => lhs; whnf) <;> rfl)) ?_)
    refine TL.nil ?_
    refine T.region ?_
    refine TL.cons rfl (V1.t (V1.move' (by (conv => lhs; whnf) <;> rfl)) ?_)
    refine TL.cons rfl (V1.t (V1.nilCheck rfl) ?_)
    refine TL.cons rfl (V1.t (V1.fieldAddr fl_82_0 rfl) ?_)
    refine TL.cons rfl (V1.t (V1.move' (by (conv => lhs; whnf) <;> rfl)) ?_)
    refine TL.cons rfl (V1.t (V1.move' (by (conv => lhs; whnf) <;> rfl)) ?_)
    refine TL.cons rfl (V1.t (V1.makeFunc1 (by (conv => lhs; whnf) <;> rfl)) ?_)
    refine TL.cons rfl (T1.callX («as» := [.pointer (some ⟨bh, 0, none⟩), .int .i64 64, sv, .func (.func 33) #[.pointer (some ⟨bh, 0, none⟩)] #[]]) has_32 rfl (feed256 _ bh s sv (BitVec.ofNat 64 lk.length) st_ r_ p Lr Ps hsl hpr hrl (hlen p (List.mem_of_getElem? hpk))) (by repeat (first | exact Take.nil | apply Take.one (by repeat (first | exact Pick.here | apply Pick.there | apply Pick.far)) | apply Take.seg (by repeat (first | exact PickS.last | exact PickS.one | exact PickS.here | exact PickS.nil | apply PickS.there | apply PickS.far)) | exact Take.last (by repeat (first | exact PickS.last | exact PickS.one | exact PickS.here | exact PickS.nil | apply PickS.there | apply PickS.far)))) (fun v Y hY => ?_))
    obtain ⟨s', Lr', hsl', rfl⟩ := hY
    rw [hst_, hr_] at hsl' ⊢
    rw [← absorb_append T256 (by decide) _ _ _ _ (Nat.le_refl _)] at hsl'
    rw [← absorb_append T256 (by decide) _ _ _ _ (Nat.le_refl _), cnt_add]
    simp only [List.cons_append, List.append_assoc]
    refine TL.nil ?_
    refine T.region ?_
    refine TL.cons rfl (V1.t (V1.add rfl rfl (wrap_i64 _ (by omega) (by omega))) ?_)
    refine TL.cons rfl (V1.t (V1.move' (by (conv => lhs; whnf) <;> rfl)) ?_)
    refine TL.nil ?_
    exact ⟨(q + 1, s', Lr', lk ++ p), _, _, (by simp only; omega), (.cons rfl .nil), (.cons rfl (.cons rfl (.cons rfl .nil))), (by repeat (first | exact Take.nil | apply Take.one (by repeat (first | exact Pick.here | apply Pick.there | apply Pick.far)) | apply Take.seg (by repeat (first | exact PickS.last | exact PickS.one | exact PickS.here | exact PickS.nil | apply PickS.there | apply PickS.far)) | exact Take.last (by repeat (first | exact PickS.last | exact PickS.one | exact PickS.here | exact PickS.nil | apply PickS.there | apply PickS.far)))), ⟨rfl, hsl', by simp only; rw [hlk, take_flat hpk, List.append_assoc], by simp only; omega⟩⟩
  ·
    simp only at h1_0
    obtain rfl : q = ps.length := by omega
    refine TL.nil ?_
    refine T.seq ?_
    refine T.cond_f rfl ?_
    refine T.exit ?_
    -- the end
    rw [List.take_of_length_le (Nat.le_refl _)] at hlk
    subst hlk
    exact ⟨_, ⟨bh, 0, s :: w64 (BitVec.ofNat 64 (l ++ ps.flatten).length) :: (stL (absorb T256 T256.init (l ++ ps.flatten)).1).map w32, 10⟩ :: (Lr ++ (Ps ++ G)), _, .nil, (by repeat (first | exact Take.nil | apply Take.one (by repeat (first | exact Pick.here | apply Pick.there | apply Pick.far)) | apply Take.seg (by repeat (first | exact PickS.last | exact PickS.one | exact PickS.here | exact PickS.nil | apply PickS.there | apply PickS.far)) | exact Take.last (by repeat (first | exact PickS.last | exact PickS.one | exact PickS.here | exact PickS.nil | apply PickS.there | apply PickS.far)))), ⟨bh, 0, s :: w64 (BitVec.ofNat 64 (l ++ ps.flatten).length) :: (stL (absorb T256 T256.init (l ++ ps.flatten)).1).map w32, 10⟩ :: (Lr ++ Ps), by simp only [List.cons_append, List.append_assoc], ⟨bh, 0, s :: w64 (BitVec.ofNat 64 (l ++ ps.flatten).length) :: (stL (absorb T256 T256.init (l ++ ps.flatten)).1).map w32, 10⟩ :: Lr, ⟨s, Lr, rfl, hsl⟩, rfl⟩

theorem tquoN (m k : Nat) : (m : Int).tdiv (k : Int) = ((m / k : Nat) : Int) := (Int.ofNat_tdiv m k).symm
theorem one_part {w0 : World} {Ps : List Blk} {v : Value} {p : List UInt8} (h : PartR w0 Ps v p) : ∀ (i : Nat) (sv : Value) (q : List UInt8), [v][i]? = some sv → [p][i]? = some q → PartR w0 Ps sv q := by
  intro i sv q h1 h2
  match i with
  | 0 => cases h1; cases h2; exact h
  | i + 1 => simp at h1
theorem one_len {p : List UInt8} {N : Nat} (h : p.length ≤ N) : ∀ q ∈ [p], q.length ≤ N := by
  intro q hq; obtain rfl := List.mem_singleton.1 hq; exact h
theorem pad_length (w n : Nat) : (pad w n).length = 1 + zmax w n + w / 4 := by rw [← padTo_pad, padTo_len (Nat.le_refl _)]

set_option maxRecDepth 100000 in
set_option maxHeartbeats 2000000 in
theorem HSum256_any (w0 : World) (bh : Nat) (l : List UInt8) (X : List Blk) (hb : HB T256 w32 bh l X) (hl : l.length < 4611686018427387904) : FnX P 30 [.pointer (some ⟨bh, 0, none⟩)] w0 [] X (fun v Y => v = .agg ((sha T256 l).map byteV).toArray ∧ Y = X) := by
  obtain ⟨s, Lr, rfl, hs⟩ := hb
  have hln : (BitVec.ofNat 64 l.length).toNat = l.length := by rw [BitVec.toNat_ofNat]; exact Nat.mod_eq_of_lt (by omega)
  have hzm := zmax_lt (w := 32) l.length (by decide)
  have hrl := (absorb_rest T256 (by decide) _ T256.init l (Nat.le_refl _)).1
  have hlr := hs
  refine FnX.of 52 [.cell 2 63] Go.Proofs.Try.func30 rfl rfl rfl rfl (fun G => ?_)
  rw [List.cons_append]
  refine T.seq ?_
  refine T.region ?_
  refine TL.cons rfl (T1.allocN 32 zr_63 rfl (fun b2 => ?_))
  refine TL.nil ?_
  refine T.seq ?_
  refine T.drawK (fun L_ => Find L_ ⟨bh, 0, s :: w64 (BitVec.ofNat 64 l.length) :: (stL (absorb T256 T256.init (l)).1).map w32, 10⟩) mixed (by repeat (first | exact Find.here | assumption | apply Find.there | apply Find.far)) ?_
  refine TK.take 1 rfl (by decide +kernel) (by decide +kernel) (by decide +kernel) rfl (fun _ _ _ h => h) (fun L_ k1_ => V1.move' (by (conv => lhs; whnf) <;> rfl)) ?_
  refine TK.take 2 rfl (by decide +kernel) (by decide +kernel) (by decide +kernel) rfl (fun _ _ _ h => h) (fun L_ k1_ => V1.nilCheck rfl) ?_
  refine TK.take 3 rfl (by decide +kernel) (by decide +kernel) (by decide +kernel) rfl (fun _ _ _ h => h) (fun L_ k1_ => V1.fieldAddr fl_82_0 rfl) ?_
  refine TK.take 4 rfl (by decide +kernel) (by decide +kernel) (by decide +kernel) rfl (fun _ _ _ h => h) (fun L_ k1_ => V1.fieldAddr fl_80_0 rfl) ?_
  refine TK.take 5 rfl (by decide +kernel) (by decide +kernel) (by decide +kernel) rfl (fun _ _ _ h => h) (fun L_ k1_ => V1.load1 one_33 rfl (.own (by repeat (first | exact Find.here | assumption | apply Find.there | apply Find.far)) (by rfl))) ?_
  refine TK.take 7 rfl (by decide +kernel) (by decide +kernel) (by decide +kernel) rfl (fun _ _ _ h => h) (fun L_ k1_ => V1.move' (by (conv => lhs; whnf) <;> rfl)) ?_
  refine TK.take 8 rfl (by decide +kernel) (by decide +kernel) (by decide +kernel) rfl (fun _ _ _ h => h) (fun L_ k1_ => V1.nilCheck rfl) ?_
  refine TK.take 9 rfl (by decide +kernel) (by decide +kernel) (by decide +kernel) rfl (fun _ _ _ h => h) (fun L_ k1_ => V1.fieldAddr fl_82_0 rfl) ?_
  refine TK.take 10 rfl (by decide +kernel) (by decide +kernel) (by decide +kernel) rfl (fun _ _ _ h => h) (fun L_ k1_ => V1.fieldAddr fl_80_1 rfl) ?_
  refine TK.take 11 rfl (by decide +kernel) (by decide +kernel) (by decide +kernel) rfl (fun _ _ _ h => h) (fun L_ k1_ => V1.load1 one_32 rfl (.own (by repeat (first | exact Find.here | assumption | apply Find.there | apply Find.far)) (by rfl))) ?_
  refine TK.take 13 rfl (by decide +kernel) (by decide +kernel) (by decide +kernel) rfl (fun _ _ _ h => h) (fun L_ k1_ => V1.move' (by (conv => lhs; whnf) <;> rfl)) ?_
  refine TK.take 14 rfl (by decide +kernel) (by decide +kernel) (by decide +kernel) rfl (fun _ _ _ h => h) (fun L_ k1_ => V1.nilCheck rfl) ?_
  refine TK.take 15 rfl (by decide +kernel) (by decide +kernel) (by decide +kernel) rfl (fun _ _ _ h => h) (fun L_ k1_ => V1.fieldAddr fl_82_1 rfl) ?_
  refine TK.take 16 rfl (by decide +kernel) (by decide +kernel) (by decide +kernel) rfl (fun _ _ _ h => h) (fun L_ k1_ => V1.loadN (vs := (stL (absorb T256 T256.init l).1).map w32) one_78 sz_78 rfl (RdN.sub (o := 2) (k := 8) (cells := s :: w64 (BitVec.ofNat 64 l.length) :: (stL (absorb T256 T256.init l).1).map w32) (by repeat (first | exact Find.here | assumption | apply Find.there | apply Find.far))) rfl) ?_
  refine TK.one 0 (by decide +kernel) rfl rfl (T1.buildSl1 (os := []) ty_33 sz_5 zr_5 (by decide) rfl .nil rfl (ones rfl) (fun b6 => ?_))
  refine ⟨(by repeat (first | exact Find.here | assumption | apply Find.there | apply Find.far)), ?_⟩
  refine TK.one 6 (by decide +kernel) rfl rfl (T1.append ty_33 kd_33 sz_5 by_5 zr_5 rfl (by decide) (by decide) rfl rfl (Sl.mk (b := b6) (xs := []) (len := 0) (cap := 0) (size := 0) rfl (Nat.le_refl _) (Nat.le_refl _)) ((PartR.own (w0 := w0) (Ps := Lr) hs (fun _ h => h)).src _ rfl rfl _ (by intro B hB; simp only [List.mem_cons, List.mem_append]; simp [hB])) (one_bytes _) 128 (by simp only [List.length_map, List.length_nil]; omega) (by omega) (by repeat (first | exact PickS.last | exact PickS.one | exact PickS.here | exact PickS.nil | apply PickS.there | apply PickS.far)) (fun s1 Ls1 hs1 => ?_))
  rw [List.nil_append] at hs1
  refine ⟨(by repeat (first | exact Find.here | assumption | apply Find.there | apply Find.far)), ?_⟩
  refine TK.take 12 rfl (by decide +kernel) (by decide +kernel) (by decide +kernel) rfl (fun _ _ _ h => h) (fun L_ k1_ => V1.buildF pl_80 zr_80 (.one rfl (by (conv => lhs; whnf) <;> rfl) hs1.one (.one rfl (by (conv => lhs; whnf) <;> rfl) rfl .nil)) (by repeat (first | exact FillL.nil | exact SetN.done | apply SetN.here | apply SetN.there | apply FillL.cons))) ?_
  refine TK.take 17 rfl (by decide +kernel) (by decide +kernel) (by decide +kernel) rfl (fun _ _ _ h => h) (fun L_ k1_ => V1.buildF pl_82 zr_82 (.many rfl (by (conv => lhs; whnf) <;> rfl) rfl (.many rfl (by (conv => lhs; whnf) <;> rfl) rfl .nil)) (by repeat (first | exact FillL.nil | exact SetN.done | apply SetN.here | apply SetN.there | apply FillL.cons))) ?_
  refine TK.one 18 (by decide +kernel) rfl rfl (T1.boxN 10 rfl rfl (fun b24 => ?_))
  refine ⟨(by repeat (first | exact Find.here | assumption | apply Find.there | apply Find.far)), ?_⟩
  refine TK.take 19 rfl (by decide +kernel) (by decide +kernel) (by decide +kernel) rfl (fun _ _ _ h => h) (fun L_ k1_ => V1.assign' (by (conv => lhs; whnf) <;> rfl)) ?_
  refine TD.done (by decide +kernel) ?_
  refine T.seq ?_
  refine T.live (l := [(0, _), (2, _), (3, _)]) (.cons (by (conv => lhs; whnf) <;> rfl) (.cons (by (conv => lhs; whnf) <;> rfl) (.cons (by (conv => lhs; whnf) <;> rfl) .nil))) (fun e_ => ?_)
  refine T.region ?_
  refine TL.cons rfl (V1.t (V1.move' (by (conv => lhs; whnf) <;> rfl)) ?_)
  refine TL.cons rfl (V1.t (V1.move' (by (conv => lhs; whnf) <;> rfl)) ?_)
  refine TL.cons rfl (V1.t (V1.nilCheck rfl) ?_)
  refine TL.cons rfl (V1.t (V1.fieldAddr fl_82_0 rfl) ?_)
  refine TL.cons rfl (T1.callX has_34 rfl (padding32_any _ bh s (BitVec.ofNat 64 l.length) _ (by rw [hln]; omega)) (by repeat (first | exact Take.nil | apply Take.one (by repeat (first | exact Pick.here | apply Pick.there | apply Pick.far)) | apply Take.seg (by repeat (first | exact PickS.last | exact PickS.one | exact PickS.here | exact PickS.nil | apply PickS.there | apply PickS.far)) | exact Take.last (by repeat (first | exact PickS.last | exact PickS.one | exact PickS.here | exact PickS.nil | apply PickS.there | apply PickS.far)))) (fun v Y hY => ?_))
  obtain ⟨Lp, hlp, rfl⟩ := hY
  rw [hln] at hlp
  simp only [List.append_assoc, List.cons_append, List.nil_append]
  refine TL.cons rfl (T1.buildSl1 (os := [.tmp 29]) ty_22 sz_33 zr_33 (by decide) rfl (.cons (by (conv => lhs; whnf) <;> rfl) .nil) rfl (by intro u hu; obtain rfl := List.mem_singleton.1 hu; exact hlp.one) (fun b30 => ?_))
  refine TL.cons rfl (T1.callX has_29 rfl (Write256_any _ b24 _ l [pad 32 l.length] (⟨b24, 0, s1 :: w64 (BitVec.ofNat 64 l.length) :: (stL (absorb T256 T256.init (l)).1).map w32, 10⟩ :: Ls1) (⟨b30, 0, [v], 1⟩ :: Lp) ⟨s1, Ls1, rfl, hs1⟩ (PartsR.ones (svs := [v]) (size := 1) (by simp) rfl (one_part (PartR.own hlp (fun _ h => List.mem_cons_of_mem _ h)))) (one_len (by rw [pad_length]; omega)) (show 1 < 9223372036854775807 by decide)) (by repeat (first | exact Take.nil | apply Take.one (by repeat (first | exact Pick.here | apply Pick.there | apply Pick.far)) | apply Take.seg (by repeat (first | exact PickS.last | exact PickS.one | exact PickS.here | exact PickS.nil | apply PickS.there | apply PickS.far)) | exact Take.last (by repeat (first | exact PickS.last | exact PickS.one | exact PickS.here | exact PickS.nil | apply PickS.there | apply PickS.far)))) (fun v2 Y hY => ?_))
  obtain ⟨X', ⟨s', Lr', rfl, hs'⟩, rfl⟩ := hY
  obtain ⟨st, hst⟩ : ∃ z, z = (absorb T256 T256.init (l ++ [pad 32 l.length].flatten)).1 := ⟨_, rfl⟩
  rw [← hst]
  simp only [List.append_assoc, List.cons_append, List.nil_append]
  refine TL.nil ?_
  refine T.seq ?_
  refine T.region ?_
  refine TL.cons rfl (T1.allocN 32 zr_63 rfl (fun b4 => ?_))
  refine TL.nil ?_
  refine T.seq ?_
  refine T.seq ?_
  refine T.region ?_
  refine TL.cons rfl (V1.t (V1.move' (by (conv => lhs; whnf) <;> rfl)) ?_)
  refine TL.nil ?_
  refine T.block ?_
  refine T.loopL (σ := Nat) (l0 := [(2, _), (3, _), (4, _)]) (fun x => [(32, .int .i64 (x : Nat))]) (fun x L => L = ⟨b4, 0, ((outB st).take x).map byteV ++ List.replicate (32 - x) (.int .u8 0), 32⟩ :: ⟨b24, 0, s' :: w64 (BitVec.ofNat 64 (l ++ [pad 32 l.length].flatten).length) :: (stL st).map w32, 10⟩ :: ⟨b2, 0, List.replicate 32 (.int .u8 0), 32⟩ :: ⟨bh, 0, s :: w64 (BitVec.ofNat 64 l.length) :: (stL (absorb T256 T256.init (l)).1).map w32, 10⟩ :: (Lr ++ G) ∧ x ≤ 32) (fun x => 32 - x) 0 (.cons rfl .nil) (.cons (by (conv => lhs; whnf) <;> rfl) (.cons (by (conv => lhs; whnf) <;> rfl) (.cons (by (conv => lhs; whnf) <;> rfl) .nil))) (by repeat (first | exact Take.nil | apply Take.one (by repeat (first | exact Pick.here | apply Pick.there | apply Pick.far)) | apply Take.seg (by repeat (first | exact PickS.last | exact PickS.one | exact PickS.here | exact PickS.nil | apply PickS.there | apply PickS.far)) | exact Take.last (by repeat (first | exact PickS.last | exact PickS.one | exact PickS.here | exact PickS.nil | apply PickS.there | apply PickS.far)))) (⟨rfl, Nat.zero_le _⟩) ?_
  rintro i e_ L ⟨rfl, hi⟩
  refine T.seq ?_
  refine T.region ?_
  refine TL.cons rfl (T1.ltI_split rfl rfl (fun h5_0 => ?_) (fun h5_0 => ?_))
  ·
    refine TL.nil ?_
    refine T.seq ?_
    refine T.cond_t rfl ?_
    refine T.skip ?_
    refine T.seq ?_
    refine T.block ?_
    refine T.seq ?_
    refine T.region ?_
    refine TL.cons rfl (V1.t (V1.move' (by (conv => lhs; whnf) <;> rfl)) ?_)
    refine TL.cons rfl (V1.t (V1.assign' (by (conv => lhs; whnf) <;> rfl)) ?_)
    refine TL.nil ?_
    refine T.region ?_
    refine TL.cons rfl (V1.t (V1.move' (by (conv => lhs; whnf) <;> rfl)) ?_)
    refine TL.cons rfl (V1.t (V1.move' (by (conv => lhs; whnf) <;> rfl)) ?_)
    refine TL.cons rfl (V1.t (V1.move' (by (conv => lhs; whnf) <;> rfl)) ?_)
    refine TL.cons rfl (V1.t (V1.quo (c := ((i / 4 : Nat) : Int)) rfl rfl (by omega) (by rw [show ((i : Int).tdiv 4) = ((i / 4 : Nat) : Int) from tquoN i 4]; exact wrap_i64 _ (by omega) (by omega))) ?_)
    refine TL.cons rfl (V1.t (V1.nilCheck rfl) ?_)
    refine TL.cons rfl (V1.t (V1.fieldAddr fl_82_1 rfl) ?_)
    refine TL.cons rfl (V1.t (V1.indexAddrA ty_78 sz_77 rfl rfl (by omega) (by omega)) ?_)
    refine TL.cons rfl (V1.t (V1.load1 one_77 rfl (show Rd _ _ ⟨b24, 0 + 2 + (i / 4) * 1, none⟩ (w32 ((stL st).getD (i / 4) 0)) from by rw [show 0 + 2 + (i / 4) * 1 = 0 + (i / 4 + 2) from by omega]; exact Rd.at (cells := s' :: w64 (BitVec.ofNat 64 (l ++ [pad 32 l.length].flatten).length) :: (stL st).map w32) (by repeat (first | exact Find.here | assumption | apply Find.there | apply Find.far)) (state32 (by omega)))) ?_)
    refine TL.cons rfl (V1.t (V1.move' (by (conv => lhs; whnf) <;> rfl)) ?_)
    refine TL.cons rfl (V1.t (V1.rem (c := ((i % 4 : Nat) : Int)) rfl rfl (by omega) (tmodN i 4)) ?_)
    refine TL.cons rfl (V1.t (V1.mul (c := ((8 * (i % 4) : Nat) : Int)) rfl rfl (by rw [wrap_i64 _ (by omega) (by omega)]; omega)) ?_)
    refine TL.cons rfl (V1.t (V1.sub (c := ((8 * (3 - i % 4) : Nat) : Int)) rfl rfl (by rw [wrap_i64 _ (by omega) (by omega)]; omega)) ?_)
    refine TL.cons rfl (V1.t (V1.shrW u32U rfl rfl) ?_)
    refine TL.cons rfl (V1.t (V1.convW 8 u8U ty_77 ty_5 rfl) ?_)
    refine TL.cons rfl (V1.t (V1.indexAddrA ty_63 sz_5 rfl rfl (by omega) (by omega)) ?_)
    refine TL.cons rfl (T1.storeE (o := 0 + i * 1) (cells := ((outB st).take i).map byteV ++ List.replicate (32 - i) (.int .u8 0)) (cells' := ((outB st).take (i + 1)).map byteV ++ List.replicate (32 - (i + 1)) (.int .u8 0)) rfl (congrArg (fun z : Nat => Value.int .u8 (z : Int)) (outbyte32 (by omega))) sz_5 rfl (by rw [show 0 + i * 1 - 0 = i from by omega]; exact fill_set 0 (outB_len _) (by omega)) (by repeat (first | exact Sub.one | apply Sub.there | apply Sub.far)) (Nat.zero_le _) (by rw [List.length_append, List.length_map, List.length_take, List.length_replicate, outB_len]; omega) ?_)
    refine TL.nil ?_
    refine T.live (l := [(2, _), (3, _), (4, _), (32, _)]) (.cons (by (conv => lhs; whnf) <;> rfl) (.cons (by (conv => lhs; whnf) <;> rfl) (.cons (by (conv => lhs; whnf) <;> rfl) (.cons (by (conv => lhs; whnf) <;> rfl) .nil)))) (fun e_ => ?_)
    refine T.region ?_
    refine TL.cons rfl (V1.t (V1.add rfl rfl (wrap_i64 _ (by omega) (by omega))) ?_)
    refine TL.cons rfl (V1.t (V1.move' (by (conv => lhs; whnf) <;> rfl)) ?_)
    refine TL.nil ?_
    exact ⟨i + 1, _, _, (by simp only; omega), (.cons rfl .nil), (.cons rfl (.cons rfl (.cons rfl .nil))), (by repeat (first | exact Take.nil | apply Take.one (by repeat (first | exact Pick.here | apply Pick.there | apply Pick.far)) | apply Take.seg (by repeat (first | exact PickS.last | exact PickS.one | exact PickS.here | exact PickS.nil | apply PickS.there | apply PickS.far)) | exact Take.last (by repeat (first | exact PickS.last | exact PickS.one | exact PickS.here | exact PickS.nil | apply PickS.there | apply PickS.far)))), ⟨rfl, by omega⟩⟩
  ·
    obtain rfl : i = 32 := by omega
    rw [fill_end (show (outB st).length = 32 from outB_len st)]
    refine TL.nil ?_
    refine T.seq ?_
    refine T.cond_f rfl ?_
    refine T.exit ?_
    refine T.seq ?_
    refine T.region ?_
    refine TL.cons rfl (V1.t (V1.loadN one_63 sz_63 rfl (RdN.whole (by repeat (first | exact Find.here | assumption | apply Find.there | apply Find.far))) (by rw [List.length_map, outB_len])) ?_)
    refine TL.cons rfl (T1.storeN rfl rfl sz_63 (one_bytes _) (by repeat (first | exact Sub.one | apply Sub.there | apply Sub.far)) (by rw [List.length_map, outB_len, List.length_replicate]) (by rw [List.length_map, outB_len]) ?_)
    refine TL.nil ?_
    refine T.ret ?_
    exact ⟨_, ⟨bh, 0, s :: w64 (BitVec.ofNat 64 l.length) :: (stL (absorb T256 T256.init (l)).1).map w32, 10⟩ :: (Lr ++ G), _, .cons (.cellN (by (conv => lhs; whnf) <;> rfl) one_63 sz_63 (RdN.whole (by repeat (first | exact Find.here | assumption | apply Find.there | apply Find.far))) (by rw [List.length_map, outB_len])) .nil, (by repeat (first | exact Take.nil | apply Take.one (by repeat (first | exact Pick.here | apply Pick.there | apply Pick.far)) | apply Take.seg (by repeat (first | exact PickS.last | exact PickS.one | exact PickS.here | exact PickS.nil | apply PickS.there | apply PickS.far)) | exact Take.last (by repeat (first | exact PickS.last | exact PickS.one | exact PickS.here | exact PickS.nil | apply PickS.there | apply PickS.far)))), ⟨bh, 0, s :: w64 (BitVec.ofNat 64 l.length) :: (stL (absorb T256 T256.init (l)).1).map w32, 10⟩ :: Lr, by rw [List.cons_append], by rw [hst]; simp only [sha, List.flatten_cons, List.flatten_nil, List.append_nil]; rfl, rfl⟩

theorem sha_len {w : Nat} (Tp : Sp w) (l : List UInt8) : (sha Tp l).length = 8 * (w / 8) := outB_len _

set_option maxRecDepth 100000 in
set_option maxHeartbeats 2000000 in
theorem Sum256_any (w0 : World) (v : Value) (ps : List (List UInt8)) (Ps : List Blk) (hp : PartsR w0 Ps v ps) (hlen : ∀ p ∈ ps, p.length ≤ 200000000000000) (hpn : ps.length < 9223372036854775807) (hfl : ps.flatten.length < 4611686018427387904) : FnX P 22 [v] w0 [] Ps (fun v Y => v = .agg ((sha T256 ps.flatten).map byteV).toArray ∧ Y = Ps) := by
  refine FnX.of 10 [.cell 2 63] Go.Proofs.Try.func22 rfl rfl rfl rfl (fun G => ?_)
  refine T.seq ?_
  refine T.region ?_
  refine TL.cons rfl (T1.allocN 32 zr_63 rfl (fun b2 => ?_))
  refine TL.nil ?_
  refine T.seq ?_
  refine T.region ?_
  refine TL.cons rfl (T1.callN has_28 rfl (fun w hs => New256_any w) (fun v Y hY => ?_))
  obtain ⟨bh, rfl, hb⟩ := hY
  refine TL.cons rfl (V1.t (V1.assign' (by (conv => lhs; whnf) <;> rfl)) ?_)
  refine TL.nil ?_
  refine T.seq ?_
  refine T.region ?_
  refine TL.cons rfl (V1.t (V1.move' (by (conv => lhs; whnf) <;> rfl)) ?_)
  refine TL.cons rfl (V1.t (V1.move' (by (conv => lhs; whnf) <;> rfl)) ?_)
  refine TL.cons rfl (T1.callX has_29 rfl (Write256_any _ bh _ [] ps Y Ps hb hp hlen hpn) (by repeat (first | exact Take.nil | apply Take.one (by repeat (first | exact Pick.here | apply Pick.there | apply Pick.far)) | apply Take.seg (by repeat (first | exact PickS.last | exact PickS.one | exact PickS.here | exact PickS.nil | apply PickS.there | apply PickS.far)) | exact Take.last (by repeat (first | exact PickS.last | exact PickS.one | exact PickS.here | exact PickS.nil | apply PickS.there | apply PickS.far)))) (fun v2 Z hZ => ?_))
  obtain ⟨X', hx', rfl⟩ := hZ
  rw [List.nil_append] at hx'
  simp only [List.append_assoc]
  refine TL.nil ?_
  refine T.seq ?_
  refine T.region ?_
  refine TL.cons rfl (V1.t (V1.move' (by (conv => lhs; whnf) <;> rfl)) ?_)
  refine TL.cons rfl (T1.callX has_30 rfl (HSum256_any _ bh ps.flatten X' hx' hfl) (by repeat (first | exact Take.nil | apply Take.one (by repeat (first | exact Pick.here | apply Pick.there | apply Pick.far)) | apply Take.seg (by repeat (first | exact PickS.last | exact PickS.one | exact PickS.here | exact PickS.nil | apply PickS.there | apply PickS.far)) | exact Take.last (by repeat (first | exact PickS.last | exact PickS.one | exact PickS.here | exact PickS.nil | apply PickS.there | apply PickS.far)))) (fun v3 Z hZ => ?_))
  obtain ⟨rfl, rfl⟩ := hZ
  refine TL.cons rfl (T1.storeN rfl rfl sz_63 (one_bytes _) (by repeat (first | exact Sub.one | apply Sub.there | apply Sub.far)) (by rw [List.length_map, sha_len]; rfl) (by rw [List.length_map, sha_len]) ?_)
  refine TL.nil ?_
  refine T.ret ?_
  exact ⟨_, Ps ++ G, _, .cons (.cellN (by (conv => lhs; whnf) <;> rfl) one_63 sz_63 (RdN.whole (by repeat (first | exact Find.here | assumption | apply Find.there | apply Find.far))) (by rw [List.length_map, sha_len])) .nil, (by repeat (first | exact Take.nil | apply Take.one (by repeat (first | exact Pick.here | apply Pick.there | apply Pick.far)) | apply Take.seg (by repeat (first | exact PickS.last | exact PickS.one | exact PickS.here | exact PickS.nil | apply PickS.there | apply PickS.far)) | exact Take.last (by repeat (first | exact PickS.last | exact PickS.one | exact PickS.here | exact PickS.nil | apply PickS.there | apply PickS.far)))), Ps, rfl, rfl, rfl⟩

end Go.Proofs.Ytmolpgnekcfimaa.S
