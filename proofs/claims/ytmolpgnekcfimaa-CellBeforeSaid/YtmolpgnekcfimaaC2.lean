/- Bytes written as long as there is power. -/
import Derived.Test.YtmolpgnekcfimaaC1
namespace Go.Proofs.Ytmolpgnekcfimaa.S
open Go.RowKit

open Sh
theorem flat_take (ps : List (List UInt8)) (k : Nat) : (ps.take k).flatten.length ≤ ps.flatten.length := by
  have h : ps.flatten = (ps.take k).flatten ++ (ps.drop k).flatten := by rw [← List.flatten_append, List.take_append_drop]
  rw [h, List.length_append]; omega
/-- What is left of the power. -/
def pwF (pw : Int) (c : Nat) : Int := if pw < 0 then pw else pw - c
/-- So many bytes are written. -/
def wN (pw : Int) (n : Nat) : Nat := if pw < 0 then n else min n pw.toNat
theorem pwF_zero (pw : Int) : pwF pw 0 = pw := by unfold pwF; split <;> omega
theorem flat_pre {ps : List (List UInt8)} {k j : Nat} {p : List UInt8} (h : ps[k]? = some p) (hj : j ≤ p.length) : ps.flatten.take ((ps.take k).flatten.length + j) = (ps.take k).flatten ++ p.take j := by
  have hk := (List.getElem?_eq_some_iff.1 h).1
  have h1 : ps.flatten = ((ps.take k).flatten ++ p) ++ (ps.drop (k + 1)).flatten := by rw [← take_flat h, ← List.flatten_append, List.take_append_drop]
  rw [h1, List.append_assoc, List.take_length_add_append, List.take_append_of_le_length hj]

set_option maxRecDepth 100000 in
set_option maxHeartbeats 2000000 in
theorem write_any (w0 : World) (bd ba at_ : Nat) (v : Value) (a : List UInt8) (pw : Int) (ps : List (List UInt8)) (Ps : List Blk) (hp : PartsR w0 Ps v ps) (hpn : ps.length < 9223372036854775807) (hat : at_ + ps.flatten.length ≤ a.length) (hal : a.length ≤ 1000000) (hpw : -1 ≤ pw) (hpw2 : pw < 9223372036854775808) : FnX P 23 [.pointer (some ⟨bd, 0, none⟩), .int .i64 (at_ : Int), v] w0 [] ((⟨bd, 0, [.slice (some ⟨ba, 0, none⟩) a.length a.length, .int .i64 pw], 2⟩ : Blk) :: (⟨ba, 0, List.map byteV a, a.length⟩ : Blk) :: Ps) (fun r Y => r = .int .i64 (if wN pw ps.flatten.length < ps.flatten.length then 220 else 0) ∧ Y = (⟨bd, 0, [.slice (some ⟨ba, 0, none⟩) a.length a.length, .int .i64 (pwF pw (wN pw ps.flatten.length))], 2⟩ : Blk) :: (⟨ba, 0, List.map byteV (splice a at_ (ps.flatten.take (wN pw ps.flatten.length))), a.length⟩ : Blk) :: Ps) := by
  obtain ⟨pa, pc, rfl⟩ := hp.form
  refine FnX.of 51 [.tmp 6] Go.Proofs.Try.func23 rfl rfl rfl rfl (fun G => ?_)
  simp only [List.cons_append]
  rw [show (⟨bd, 0, [.slice (some ⟨ba, 0, none⟩) a.length a.length, .int .i64 pw], 2⟩ : Blk) = (⟨bd, 0, [.slice (some ⟨ba, 0, none⟩) a.length a.length, .int .i64 (pwF pw (0))], 2⟩ : Blk) from by rw [pwF_zero]]
  rw [show (⟨ba, 0, List.map byteV a, a.length⟩ : Blk) = (⟨ba, 0, List.map byteV (splice a at_ ([] : List UInt8)), a.length⟩ : Blk) from by rw [splice_nil]]
  refine T.seq ?_
  refine T.region ?_
  refine TL.cons rfl (V1.t (V1.assign' (by (conv => lhs; whnf) <;> rfl)) ?_)
  refine TL.nil ?_
  refine T.seq ?_
  refine T.seq ?_
  refine T.region ?_
  refine TL.cons rfl (V1.t (V1.move' (by (conv => lhs; whnf) <;> rfl)) ?_)
  refine TL.cons rfl (V1.t (V1.lenSl ty_22 rfl) ?_)
  refine TL.cons rfl (V1.t (V1.move' (by (conv => lhs; whnf) <;> rfl)) ?_)
  refine TL.nil ?_
  refine T.block ?_
  refine T.loopL (σ := Nat) (l0 := [(0, _), (11, _), (12, _)]) (fun x => [(13, .int .i64 (x : Nat)), (1, .int .i64 (at_ + (ps.take x).flatten.length : Nat))]) (fun k L => L = (⟨bd, 0, [.slice (some ⟨ba, 0, none⟩) a.length a.length, .int .i64 (pwF pw ((ps.take k).flatten.length))], 2⟩ : Blk) :: (⟨ba, 0, List.map byteV (splice a at_ (ps.take k).flatten), a.length⟩ : Blk) :: (Ps ++ G) ∧ k ≤ ps.length ∧ (pw < 0 ∨ (((ps.take k).flatten.length : Nat) : Int) ≤ pw)) (fun x => ps.length - x) 0 (.cons rfl (.cons rfl .nil)) (.cons (by (conv => lhs; whnf) <;> rfl) (.cons (by (conv => lhs; whnf) <;> rfl) (.cons (by (conv => lhs; whnf) <;> rfl) .nil))) (by repeat (first | exact Take.nil | apply Take.one (by repeat (first | exact Pick.here | apply Pick.there | apply Pick.far)) | apply Take.seg (by repeat (first | exact PickS.last | exact PickS.one | exact PickS.here | exact PickS.nil | apply PickS.there | apply PickS.far)) | exact Take.last (by repeat (first | exact PickS.last | exact PickS.one | exact PickS.here | exact PickS.nil | apply PickS.there | apply PickS.far)))) (⟨rfl, Nat.zero_le _, by simp; omega⟩) ?_
  rintro k e_ L ⟨rfl, hk, hcw⟩
  refine T.seq ?_
  refine T.region ?_
  refine TL.cons rfl (T1.ltI_split rfl rfl (fun h2 => ?_) (fun h2 => ?_))
  ·
    obtain ⟨bb_, ob_, sv, p, rfl, hpk, hpr, hrd⟩ := hp.at (P := P) (k := k) (by omega)
    obtain ⟨sa, sc, rfl⟩ := hpr.form
    have hfl := flat_take ps (k + 1)
    rw [take_flat hpk, List.length_append] at hfl
    refine TL.nil ?_
    refine T.seq ?_
    refine T.cond_t rfl ?_
    refine T.skip ?_
    refine T.seq ?_
    refine T.block ?_
    refine T.seq ?_
    refine T.region ?_
    refine TL.cons rfl (V1.t (V1.indexAddrS ty_22 sz_33 rfl rfl (by omega) (by omega)) ?_)
    refine TL.cons rfl (V1.t (V1.load1 one_33 rfl (hrd _ rfl rfl _ (by intro B hB; simp only [List.mem_cons, List.mem_append]; simp [hB]))) ?_)
    refine TL.cons rfl (V1.t (V1.assign' (by (conv => lhs; whnf) <;> rfl)) ?_)
    refine TL.nil ?_
    refine T.seq ?_
    refine T.region ?_
    refine TL.cons rfl (V1.t (V1.move' (by (conv => lhs; whnf) <;> rfl)) ?_)
    refine TL.cons rfl (V1.t (V1.lenSl ty_33 rfl) ?_)
    refine TL.cons rfl (V1.t (V1.move' (by (conv => lhs; whnf) <;> rfl)) ?_)
    refine TL.nil ?_
    refine T.block ?_
    refine T.loopL (σ := Nat) (l0 := [(0, _), (11, _), (12, _), (13, _), (17, _), (18, _)]) (fun x => [(19, .int .i64 (x : Nat)), (1, .int .i64 (at_ + ((ps.take k).flatten.length + x) : Nat))]) (fun j L => L = (⟨bd, 0, [.slice (some ⟨ba, 0, none⟩) a.length a.length, .int .i64 (pwF pw ((ps.take k).flatten.length + j))], 2⟩ : Blk) :: (⟨ba, 0, List.map byteV (splice a at_ ((ps.take k).flatten ++ p.take j)), a.length⟩ : Blk) :: (Ps ++ G) ∧ j ≤ p.length ∧ (pw < 0 ∨ (((ps.take k).flatten.length + j : Nat) : Int) ≤ pw)) (fun x => p.length - x) 0 (.cons rfl (.cons rfl .nil)) (.cons (by (conv => lhs; whnf) <;> rfl) (.cons (by (conv => lhs; whnf) <;> rfl) (.cons (by (conv => lhs; whnf) <;> rfl) (.cons (by (conv => lhs; whnf) <;> rfl) (.cons (by (conv => lhs; whnf) <;> rfl) (.cons (by (conv => lhs; whnf) <;> rfl) .nil)))))) (by repeat (first | exact Take.nil | apply Take.one (by repeat (first | exact Pick.here | apply Pick.there | apply Pick.far)) | apply Take.seg (by repeat (first | exact PickS.last | exact PickS.one | exact PickS.here | exact PickS.nil | apply PickS.there | apply PickS.far)) | exact Take.last (by repeat (first | exact PickS.last | exact PickS.one | exact PickS.here | exact PickS.nil | apply PickS.there | apply PickS.far)))) (⟨(by rw [List.take_zero, List.append_nil, Nat.add_zero] : ((⟨bd, 0, [.slice (some ⟨ba, 0, none⟩) a.length a.length, .int .i64 (pwF pw ((ps.take k).flatten.length))], 2⟩ : Blk) :: (⟨ba, 0, List.map byteV (splice a at_ (ps.take k).flatten), a.length⟩ : Blk) :: (Ps ++ G) : List Blk) = (⟨bd, 0, [.slice (some ⟨ba, 0, none⟩) a.length a.length, .int .i64 (pwF pw ((ps.take k).flatten.length + 0))], 2⟩ : Blk) :: (⟨ba, 0, List.map byteV (splice a at_ ((ps.take k).flatten ++ p.take 0)), a.length⟩ : Blk) :: (Ps ++ G)), Nat.zero_le _, by simpa using hcw⟩) ?_
    rintro j e_ L ⟨rfl, hj, hcj⟩
    refine T.seq ?_
    refine T.region ?_
    refine TL.cons rfl (T1.ltI_split rfl rfl (fun h5 => ?_) (fun h5 => ?_))
    ·
      obtain ⟨x, hx⟩ : ∃ x, p[j]? = some x := ⟨_, List.getElem?_eq_getElem (by omega)⟩
      obtain ⟨bx_, ox_, rfl, hrdx⟩ := hpr.byte (C := ⟨P, w0, [], 51⟩) rfl rfl (L := ((⟨bd, 0, [.slice (some ⟨ba, 0, none⟩) a.length a.length, .int .i64 (pwF pw ((ps.take k).flatten.length + j))], 2⟩ : Blk) :: (⟨ba, 0, List.map byteV (splice a at_ ((ps.take k).flatten ++ p.take j)), a.length⟩ : Blk) :: (Ps ++ G) : List Blk)) (by intro B hB; simp [hB]) hx
      have hbd : at_ + ((ps.take k).flatten ++ p.take j).length ≤ a.length := by rw [List.length_append, List.length_take]; omega
      refine TL.nil ?_
      refine T.seq ?_
      refine T.cond_t rfl ?_
      refine T.skip ?_
      refine T.seq ?_
      refine T.block ?_
      refine T.seq ?_
      refine T.region ?_
      refine TL.cons rfl (V1.t (V1.indexAddrS ty_33 sz_5 rfl rfl (by omega) (by omega)) ?_)
      refine TL.cons rfl (V1.t (V1.load1 one_5 rfl hrdx) ?_)
      refine TL.cons rfl (V1.t (V1.assign' (by (conv => lhs; whnf) <;> rfl)) ?_)
      refine TL.nil ?_
      refine T.seq ?_
      refine T.seq ?_
      refine T.region ?_
      refine TL.cons rfl (V1.t (V1.move' (by (conv => lhs; whnf) <;> rfl)) ?_)
      refine TL.cons rfl (V1.t (V1.nilCheck rfl) ?_)
      refine TL.cons rfl (V1.t (V1.fieldAddr fl_53_1 rfl) ?_)
      refine TL.cons rfl (V1.t (V1.load1 one_3 rfl (.own (cells := [.slice (some ⟨ba, 0, none⟩) a.length a.length, .int .i64 (pwF pw ((ps.take k).flatten.length + j))]) (by repeat (first | exact Find.here | assumption | apply Find.there | apply Find.far)) (by rfl))) ?_)
      refine TL.cons rfl (T1.eqI_split rfl rfl (fun h7 => ?_) (fun h7 => ?_))
      ·
        have hpc : pw = (((ps.take k).flatten.length + j : Nat) : Int) := by unfold pwF at h7; split at h7 <;> omega
        refine TL.nil ?_
        refine T.cond_t rfl ?_
        refine T.seq ?_
        refine T.region ?_
        refine TL.cons rfl (V1.t (V1.assign' (by (conv => lhs; whnf) <;> rfl)) ?_)
        refine TL.nil ?_
        refine T.ret ?_
        have hw : wN pw ps.flatten.length = (ps.take k).flatten.length + j := by unfold wN; split <;> omega
        exact ⟨_, (⟨bd, 0, [.slice (some ⟨ba, 0, none⟩) a.length a.length, .int .i64 (pwF pw ((ps.take k).flatten.length + j))], 2⟩ : Blk) :: (⟨ba, 0, List.map byteV (splice a at_ ((ps.take k).flatten ++ p.take j)), a.length⟩ : Blk) :: (Ps ++ G), _, .cons (.tmp (by (conv => lhs; whnf) <;> rfl)) .nil, (by repeat (first | exact Take.nil | apply Take.one (by repeat (first | exact Pick.here | apply Pick.there | apply Pick.far)) | apply Take.seg (by repeat (first | exact PickS.last | exact PickS.one | exact PickS.here | exact PickS.nil | apply PickS.there | apply PickS.far)) | exact Take.last (by repeat (first | exact PickS.last | exact PickS.one | exact PickS.here | exact PickS.nil | apply PickS.there | apply PickS.far)))), (⟨bd, 0, [.slice (some ⟨ba, 0, none⟩) a.length a.length, .int .i64 (pwF pw ((ps.take k).flatten.length + j))], 2⟩ : Blk) :: (⟨ba, 0, List.map byteV (splice a at_ ((ps.take k).flatten ++ p.take j)), a.length⟩ : Blk) :: Ps, rfl, by rw [hw, if_pos (by omega)]; rfl, by rw [hw, flat_pre hpk (by omega)]⟩
      ·
        have hpn : pw < 0 ∨ (((ps.take k).flatten.length + j + 1 : Nat) : Int) ≤ pw := by unfold pwF at h7; split at h7 <;> omega
        refine TL.nil ?_
        refine T.cond_f rfl ?_
        refine T.skip ?_
        refine T.seq ?_
        refine T.seq ?_
        refine T.region ?_
        refine TL.cons rfl (V1.t (V1.move' (by (conv => lhs; whnf) <;> rfl)) ?_)
        refine TL.cons rfl (V1.t (V1.nilCheck rfl) ?_)
        refine TL.cons rfl (V1.t (V1.fieldAddr fl_53_1 rfl) ?_)
        refine TL.cons rfl (V1.t (V1.load1 one_3 rfl (.own (cells := [.slice (some ⟨ba, 0, none⟩) a.length a.length, .int .i64 (pwF pw ((ps.take k).flatten.length + j))]) (by repeat (first | exact Find.here | assumption | apply Find.there | apply Find.far)) (by rfl))) ?_)
        refine TL.cons rfl (T1.gtI_split rfl rfl (fun h9 => ?_) (fun h9 => ?_))
        ·
          have hp0 : ¬ pw < 0 := by unfold pwF at h9; split at h9 <;> omega
          refine TL.nil ?_
          refine T.cond_t rfl ?_
          refine T.region ?_
          refine TL.cons rfl (V1.t (V1.move' (by (conv => lhs; whnf) <;> rfl)) ?_)
          refine TL.cons rfl (V1.t (V1.nilCheck rfl) ?_)
          refine TL.cons rfl (V1.t (V1.fieldAddr fl_53_1 rfl) ?_)
          refine TL.cons rfl (V1.t (V1.load1 one_3 rfl (.own (cells := [.slice (some ⟨ba, 0, none⟩) a.length a.length, .int .i64 (pwF pw ((ps.take k).flatten.length + j))]) (by repeat (first | exact Find.here | assumption | apply Find.there | apply Find.far)) (by rfl))) ?_)
          refine TL.cons rfl (V1.t (V1.sub (c := pwF pw ((ps.take k).flatten.length + j + 1)) rfl rfl (by unfold pwF; rw [if_neg hp0, if_neg hp0, wrap_i64 _ (by omega) (by omega)]; omega)) ?_)
          refine TL.cons rfl (V1.t (V1.nilCheck rfl) ?_)
          refine TL.cons rfl (V1.t (V1.fieldAddr fl_53_1 rfl) ?_)
          refine TL.cons rfl (T1.store1 (cells := [.slice (some ⟨ba, 0, none⟩) a.length a.length, .int .i64 (pwF pw ((ps.take k).flatten.length + j))]) (cells' := [.slice (some ⟨ba, 0, none⟩) a.length a.length, .int .i64 (pwF pw ((ps.take k).flatten.length + j + 1))]) (v := .int .i64 (pwF pw ((ps.take k).flatten.length + j + 1))) rfl rfl sz_3 rfl (by repeat (first | exact Sub.one | apply Sub.there | apply Sub.far)) (Nat.zero_le _) (by repeat (first | exact SetAt.here | apply SetAt.there)) ?_)
          refine TL.nil ?_
          refine T.seq ?_
          refine T.live (l := [(0, _), (1, _), (10, _), (11, _), (12, _), (13, _), (17, _), (18, _), (19, _)]) (.cons (by (conv => lhs; whnf) <;> rfl) (.cons (by (conv => lhs; whnf) <;> rfl) (.cons (by (conv => lhs; whnf) <;> rfl) (.cons (by (conv => lhs; whnf) <;> rfl) (.cons (by (conv => lhs; whnf) <;> rfl) (.cons (by (conv => lhs; whnf) <;> rfl) (.cons (by (conv => lhs; whnf) <;> rfl) (.cons (by (conv => lhs; whnf) <;> rfl) (.cons (by (conv => lhs; whnf) <;> rfl) .nil))))))))) (fun e_ => ?_)
          refine T.region ?_
          refine TL.cons rfl (V1.t (V1.move' (by (conv => lhs; whnf) <;> rfl)) ?_)
          refine TL.cons rfl (V1.t (V1.nilCheck rfl) ?_)
          refine TL.cons rfl (V1.t (V1.fieldAddr fl_53_0 rfl) ?_)
          refine TL.cons rfl (V1.t (V1.load1 one_33 rfl (.own (cells := [.slice (some ⟨ba, 0, none⟩) a.length a.length, .int .i64 (pwF pw ((ps.take k).flatten.length + j + 1))]) (by repeat (first | exact Find.here | assumption | apply Find.there | apply Find.far)) (by rfl))) ?_)
          refine TL.cons rfl (V1.t (V1.move' (by (conv => lhs; whnf) <;> rfl)) ?_)
          refine TL.cons rfl (V1.t (V1.move' (by (conv => lhs; whnf) <;> rfl)) ?_)
          refine TL.cons rfl (V1.t (V1.indexAddrS ty_33 sz_5 rfl rfl (by omega) (by rw [List.length_append, List.length_take] at hbd; omega)) ?_)
          refine TL.cons rfl (T1.storeE (o := 0 + (at_ + ((ps.take k).flatten.length + j)) * 1) (cells := List.map byteV (splice a at_ ((ps.take k).flatten ++ p.take j))) (cells' := List.map byteV (splice a at_ ((ps.take k).flatten ++ p.take (j + 1)))) (v := byteV x) rfl rfl sz_5 rfl (by rw [← List.map_set, show 0 + (at_ + ((ps.take k).flatten.length + j)) * 1 - 0 = at_ + ((ps.take k).flatten ++ p.take j).length from by rw [List.length_append, List.length_take]; omega, splice_set (by rw [List.length_append, List.length_take]; omega), List.append_assoc, List.take_add_one, hx]; rfl) (by repeat (first | exact Sub.one | apply Sub.there | apply Sub.far)) (Nat.zero_le _) (by rw [List.length_map, splice_len hbd]; omega) ?_)
          refine TL.nil ?_
          refine T.region ?_
          refine TL.cons rfl (V1.t (V1.move' (by (conv => lhs; whnf) <;> rfl)) ?_)
          refine TL.cons rfl (V1.t (V1.add (c := ((at_ + ((ps.take k).flatten.length + (j + 1)) : Nat) : Int)) rfl rfl (by rw [wrap_i64 _ (by omega) (by omega)]; omega)) ?_)
          refine TL.cons rfl (V1.t (V1.assign' (by (conv => lhs; whnf) <;> rfl)) ?_)
          refine TL.nil ?_
          refine T.region ?_
          refine TL.cons rfl (V1.t (V1.add rfl rfl (wrap_i64 _ (by omega) (by omega))) ?_)
          refine TL.cons rfl (V1.t (V1.move' (by (conv => lhs; whnf) <;> rfl)) ?_)
          refine TL.nil ?_
          exact ⟨j + 1, _, _, (by simp only; omega), (.cons rfl (.cons rfl .nil)), (.cons rfl (.cons rfl (.cons rfl (.cons rfl (.cons rfl (.cons rfl .nil)))))), (by repeat (first | exact Take.nil | apply Take.one (by repeat (first | exact Pick.here | apply Pick.there | apply Pick.far)) | apply Take.seg (by repeat (first | exact PickS.last | exact PickS.one | exact PickS.here | exact PickS.nil | apply PickS.there | apply PickS.far)) | exact Take.last (by repeat (first | exact PickS.last | exact PickS.one | exact PickS.here | exact PickS.nil | apply PickS.there | apply PickS.far)))), ⟨rfl, by omega, by omega⟩⟩
        ·
          have hp0 : pw < 0 := by unfold pwF at h9; split at h9 <;> omega
          rw [show pwF pw ((ps.take k).flatten.length + j) = pwF pw ((ps.take k).flatten.length + j + 1) from by unfold pwF; rw [if_pos hp0, if_pos hp0]]
          refine TL.nil ?_
          refine T.cond_f rfl ?_
          refine T.skip ?_
          refine T.seq ?_
          refine T.region ?_
          refine TL.cons rfl (V1.t (V1.move' (by (conv => lhs; whnf) <;> rfl)) ?_)
          refine TL.cons rfl (V1.t (V1.nilCheck rfl) ?_)
          refine TL.cons rfl (V1.t (V1.fieldAddr fl_53_0 rfl) ?_)
          refine TL.cons rfl (V1.t (V1.load1 one_33 rfl (.own (cells := [.slice (some ⟨ba, 0, none⟩) a.length a.length, .int .i64 (pwF pw ((ps.take k).flatten.length + j + 1))]) (by repeat (first | exact Find.here | assumption | apply Find.there | apply Find.far)) (by rfl))) ?_)
          refine TL.cons rfl (V1.t (V1.move' (by (conv => lhs; whnf) <;> rfl)) ?_)
          refine TL.cons rfl (V1.t (V1.move' (by (conv => lhs; whnf) <;> rfl)) ?_)
          refine TL.cons rfl (V1.t (V1.indexAddrS ty_33 sz_5 rfl rfl (by omega) (by rw [List.length_append, List.length_take] at hbd; omega)) ?_)
          refine TL.cons rfl (T1.storeE (o := 0 + (at_ + ((ps.take k).flatten.length + j)) * 1) (cells := List.map byteV (splice a at_ ((ps.take k).flatten ++ p.take j))) (cells' := List.map byteV (splice a at_ ((ps.take k).flatten ++ p.take (j + 1)))) (v := byteV x) rfl rfl sz_5 rfl (by rw [← List.map_set, show 0 + (at_ + ((ps.take k).flatten.length + j)) * 1 - 0 = at_ + ((ps.take k).flatten ++ p.take j).length from by rw [List.length_append, List.length_take]; omega, splice_set (by rw [List.length_append, List.length_take]; omega), List.append_assoc, List.take_add_one, hx]; rfl) (by repeat (first | exact Sub.one | apply Sub.there | apply Sub.far)) (Nat.zero_le _) (by rw [List.length_map, splice_len hbd]; omega) ?_)
          refine TL.nil ?_
          refine T.live (l := [(0, _), (1, _), (11, _), (12, _), (13, _), (17, _), (18, _), (19, _)]) (.cons (by (conv => lhs; whnf) <;> rfl) (.cons (by (conv => lhs; whnf) <;> rfl) (.cons (by (conv => lhs; whnf) <;> rfl) (.cons (by (conv => lhs; whnf) <;> rfl) (.cons (by (conv => lhs; whnf) <;> rfl) (.cons (by (conv => lhs; whnf) <;> rfl) (.cons (by (conv => lhs; whnf) <;> rfl) (.cons (by (conv => lhs; whnf) <;> rfl) .nil)))))))) (fun e_ => ?_)
          refine T.region ?_
          refine TL.cons rfl (V1.t (V1.move' (by (conv => lhs; whnf) <;> rfl)) ?_)
          refine TL.cons rfl (V1.t (V1.add (c := ((at_ + ((ps.take k).flatten.length + (j + 1)) : Nat) : Int)) rfl rfl (by rw [wrap_i64 _ (by omega) (by omega)]; omega)) ?_)
          refine TL.cons rfl (V1.t (V1.assign' (by (conv => lhs; whnf) <;> rfl)) ?_)
          refine TL.nil ?_
          refine T.region ?_
          refine TL.cons rfl (V1.t (V1.add rfl rfl (wrap_i64 _ (by omega) (by omega))) ?_)
          refine TL.cons rfl (V1.t (V1.move' (by (conv => lhs; whnf) <;> rfl)) ?_)
          refine TL.nil ?_
          exact ⟨j + 1, _, _, (by simp only; omega), (.cons rfl (.cons rfl .nil)), (.cons rfl (.cons rfl (.cons rfl (.cons rfl (.cons rfl (.cons rfl .nil)))))), (by repeat (first | exact Take.nil | apply Take.one (by repeat (first | exact Pick.here | apply Pick.there | apply Pick.far)) | apply Take.seg (by repeat (first | exact PickS.last | exact PickS.one | exact PickS.here | exact PickS.nil | apply PickS.there | apply PickS.far)) | exact Take.last (by repeat (first | exact PickS.last | exact PickS.one | exact PickS.here | exact PickS.nil | apply PickS.there | apply PickS.far)))), ⟨rfl, by omega, by omega⟩⟩
    ·
      obtain rfl : j = p.length := by omega
      rw [List.take_of_length_le (Nat.le_refl _), ← take_flat hpk, show (ps.take k).flatten.length + p.length = (ps.take (k + 1)).flatten.length from by rw [take_flat hpk, List.length_append]]
      replace hcj : pw < 0 ∨ (((ps.take (k + 1)).flatten.length : Nat) : Int) ≤ pw := by rw [take_flat hpk, List.length_append]; omega
      refine TL.nil ?_
      refine T.seq ?_
      refine T.cond_f rfl ?_
      refine T.exit ?_
      refine T.region ?_
      refine TL.cons rfl (V1.t (V1.add rfl rfl (wrap_i64 _ (by omega) (by omega))) ?_)
      refine TL.cons rfl (V1.t (V1.move' (by (conv => lhs; whnf) <;> rfl)) ?_)
      refine TL.nil ?_
      exact ⟨k + 1, _, _, (by simp only; omega), (.cons rfl (.cons rfl .nil)), (.cons rfl (.cons rfl (.cons rfl .nil))), (by repeat (first | exact Take.nil | apply Take.one (by repeat (first | exact Pick.here | apply Pick.there | apply Pick.far)) | apply Take.seg (by repeat (first | exact PickS.last | exact PickS.one | exact PickS.here | exact PickS.nil | apply PickS.there | apply PickS.far)) | exact Take.last (by repeat (first | exact PickS.last | exact PickS.one | exact PickS.here | exact PickS.nil | apply PickS.there | apply PickS.far)))), ⟨rfl, by omega, hcj⟩⟩
  ·
    obtain rfl : k = ps.length := by omega
    rw [List.take_length] at hcw ⊢
    refine TL.nil ?_
    refine T.seq ?_
    refine T.cond_f rfl ?_
    refine T.exit ?_
    refine T.seq ?_
    refine T.region ?_
    refine TL.cons rfl (V1.t (V1.assign' (by (conv => lhs; whnf) <;> rfl)) ?_)
    refine TL.nil ?_
    refine T.ret ?_
    have hw : wN pw ps.flatten.length = ps.flatten.length := by unfold wN; split <;> omega
    exact ⟨_, (⟨bd, 0, [.slice (some ⟨ba, 0, none⟩) a.length a.length, .int .i64 (pwF pw (ps.flatten.length))], 2⟩ : Blk) :: (⟨ba, 0, List.map byteV (splice a at_ ps.flatten), a.length⟩ : Blk) :: (Ps ++ G), _, .cons (.tmp (by (conv => lhs; whnf) <;> rfl)) .nil, (by repeat (first | exact Take.nil | apply Take.one (by repeat (first | exact Pick.here | apply Pick.there | apply Pick.far)) | apply Take.seg (by repeat (first | exact PickS.last | exact PickS.one | exact PickS.here | exact PickS.nil | apply PickS.there | apply PickS.far)) | exact Take.last (by repeat (first | exact PickS.last | exact PickS.one | exact PickS.here | exact PickS.nil | apply PickS.there | apply PickS.far)))), (⟨bd, 0, [.slice (some ⟨ba, 0, none⟩) a.length a.length, .int .i64 (pwF pw (ps.flatten.length))], 2⟩ : Blk) :: (⟨ba, 0, List.map byteV (splice a at_ ps.flatten), a.length⟩ : Blk) :: Ps, rfl, by rw [hw, if_neg (by omega)]; rfl, by rw [hw, List.take_length]⟩

/-- A cell that keeps v as the n-th value on the disk bd. -/
def Cl (bc bd n : Nat) (v : List UInt8) (X : List Blk) : Prop := ∃ s Ls, X = (⟨bc, 0, [.int .u64 (n : Nat), s, .pointer (some ⟨bd, 0, none⟩)], 3⟩ : Blk) :: Ls ∧ Sl s (v.map byteV) 1 Ls

set_option maxRecDepth 100000 in
theorem Number_any (w0 : World) (bc bd n : Nat) (v : List UInt8) (X : List Blk) (hc : Cl bc bd n v X) : FnX P 12 [.pointer (some ⟨bc, 0, none⟩)] w0 [] X (fun r Y => r = .int .u64 (n : Nat) ∧ Y = X) := by
  obtain ⟨s, Ls, rfl, hs⟩ := hc
  refine FnX.of 8 [.tmp 2] Go.Proofs.Try.func12 rfl rfl rfl rfl (fun G => ?_)
  simp only [List.cons_append]
  refine T.seq ?_
  refine T.region ?_
  refine TL.cons rfl (V1.t (V1.assign' (by (conv => lhs; whnf) <;> rfl)) ?_)
  refine TL.nil ?_
  refine T.seq ?_
  refine T.region ?_
  refine TL.cons rfl (V1.t (V1.move' (by (conv => lhs; whnf) <;> rfl)) ?_)
  refine TL.cons rfl (V1.t (V1.nilCheck rfl) ?_)
  refine TL.cons rfl (V1.t (V1.fieldAddr fl_57_0 rfl) ?_)
  refine TL.cons rfl (V1.t (V1.fieldAddr fl_55_0 rfl) ?_)
  refine TL.cons rfl (V1.t (V1.load1 one_32 rfl (.own (cells := [.int .u64 (n : Nat), s, .pointer (some ⟨bd, 0, none⟩)]) (by repeat (first | exact Find.here | assumption | apply Find.there | apply Find.far)) (by rfl))) ?_)
  refine TL.cons rfl (V1.t (V1.assign' (by (conv => lhs; whnf) <;> rfl)) ?_)
  refine TL.nil ?_
  refine T.ret ?_
  exact ⟨_, (⟨bc, 0, [.int .u64 (n : Nat), s, .pointer (some ⟨bd, 0, none⟩)], 3⟩ : Blk) :: (Ls ++ G), _, .cons (.tmp (by (conv => lhs; whnf) <;> rfl)) .nil, (by repeat (first | exact Take.nil | apply Take.one (by repeat (first | exact Pick.here | apply Pick.there | apply Pick.far)) | apply Take.seg (by repeat (first | exact PickS.last | exact PickS.one | exact PickS.here | exact PickS.nil | apply PickS.there | apply PickS.far)) | exact Take.last (by repeat (first | exact PickS.last | exact PickS.one | exact PickS.here | exact PickS.nil | apply PickS.there | apply PickS.far)))), (⟨bc, 0, [.int .u64 (n : Nat), s, .pointer (some ⟨bd, 0, none⟩)], 3⟩ : Blk) :: Ls, by rw [List.cons_append], rfl, rfl⟩

set_option maxRecDepth 100000 in
theorem Value_any (w0 : World) (bc bd n : Nat) (v : List UInt8) (X : List Blk) (hc : Cl bc bd n v X) (hv : v.length ≤ 1000000) : FnX P 11 [.pointer (some ⟨bc, 0, none⟩)] w0 [] X (fun r Y => ∃ Ls, Y = Ls ++ X ∧ Sl r (v.map byteV) 1 Ls) := by
  obtain ⟨s, Ls, rfl, hs⟩ := hc
  refine FnX.of 10 [.tmp 2] Go.Proofs.Try.func11 rfl rfl rfl rfl (fun G => ?_)
  simp only [List.cons_append]
  refine T.seq ?_
  refine T.region ?_
  refine TL.cons rfl (V1.t (V1.assign' (by (conv => lhs; whnf) <;> rfl)) ?_)
  refine TL.nil ?_
  refine T.seq ?_
  refine T.region ?_
  refine TL.cons rfl (T1.buildSl1 (os := []) ty_33 sz_5 zr_5 (by decide) rfl .nil rfl (ones rfl) (fun b3 => ?_))
  refine TL.cons rfl (V1.t (V1.move' (by (conv => lhs; whnf) <;> rfl)) ?_)
  refine TL.cons rfl (V1.t (V1.nilCheck rfl) ?_)
  refine TL.cons rfl (V1.t (V1.fieldAddr fl_57_0 rfl) ?_)
  refine TL.cons rfl (V1.t (V1.fieldAddr fl_55_1 rfl) ?_)
  refine TL.cons rfl (V1.t (V1.load1 one_33 rfl (.own (cells := [.int .u64 (n : Nat), s, .pointer (some ⟨bd, 0, none⟩)]) (by repeat (first | exact Find.here | assumption | apply Find.there | apply Find.far)) (by rfl))) ?_)
  refine TL.cons rfl (T1.append ty_33 kd_33 sz_5 by_5 zr_5 rfl (by decide) (by decide) rfl rfl (Sl.mk (b := b3) (xs := []) (len := 0) (cap := 0) (size := 0) rfl (Nat.le_refl _) (Nat.le_refl _)) ((PartR.own (w0 := w0) (Ps := Ls) hs (fun _ h => h)).src _ rfl rfl _ (by intro B hB; simp only [List.mem_cons, List.mem_append]; simp [hB])) (one_bytes _) 200000000000000 (by simp only [List.length_map, List.length_nil]; omega) (by omega) (by repeat (first | exact PickS.last | exact PickS.one | exact PickS.here | exact PickS.nil | apply PickS.there | apply PickS.far)) (fun s1 Ls1 hs1 => ?_))
  rw [List.nil_append] at hs1
  refine TL.cons rfl (V1.t (V1.assign' (by (conv => lhs; whnf) <;> rfl)) ?_)
  refine TL.nil ?_
  refine T.ret ?_
  exact ⟨_, Ls1 ++ ((⟨bc, 0, [.int .u64 (n : Nat), s, .pointer (some ⟨bd, 0, none⟩)], 3⟩ : Blk) :: (Ls ++ G)), _, .cons (.tmp (by (conv => lhs; whnf) <;> rfl)) .nil, (by repeat (first | exact Take.nil | apply Take.one (by repeat (first | exact Pick.here | apply Pick.there | apply Pick.far)) | apply Take.seg (by repeat (first | exact PickS.last | exact PickS.one | exact PickS.here | exact PickS.nil | apply PickS.there | apply PickS.far)) | exact Take.last (by repeat (first | exact PickS.last | exact PickS.one | exact PickS.here | exact PickS.nil | apply PickS.there | apply PickS.far)))), Ls1 ++ ((⟨bc, 0, [.int .u64 (n : Nat), s, .pointer (some ⟨bd, 0, none⟩)], 3⟩ : Blk) :: Ls), by simp, _, rfl, hs1⟩

end Go.Proofs.Ytmolpgnekcfimaa.S
