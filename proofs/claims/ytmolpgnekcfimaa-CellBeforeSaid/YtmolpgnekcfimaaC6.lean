/- A value is kept, and had again. -/
import Derived.Test.YtmolpgnekcfimaaC5
namespace Go.Proofs.Ytmolpgnekcfimaa.S
open Go.RowKit

open Sh
theorem V1.neNil {C : Ctx} {e : Env} {L : List Blk} {dst : Option Tmp} {ty : TypeId} {pos : String} {after : Array Edge} {guard : Option (Nat × Bool)} {t yt el : TypeId} {x y : Operand} {a : Addr} (hT : C.P.underlying t = some (.pointer el)) (hx : ev C.n e x = .pointer (some a)) (hy : ev C.n e y = .pointer none) : V1 C ⟨dst, .binOp .neq t x y yt, ty, pos, after, guard⟩ e L (.bool true) :=
  V1.run (s := do eqGuard .neq t x y (ev C.n e x) (ev C.n e y); binOp .neq t (ev C.n e x) (ev C.n e y)) rfl (fun w _ => by
    rw [hx, hy]
    show (do pure (Value.bool (!(← Op.equal t (.pointer (some a)) (.pointer none)))) : Sem Value).run C.P w = _
    rw [run_bind (run_eqNil hT a w)]; rfl)
theorem FnX.mono {P : Program} {f : FuncId} {xs : List Value} {w0 : World} {M : List Nat} {X : List Blk} {R R' : Value → List Blk → Prop} (h : FnX P f xs w0 M X R) (g : ∀ v Y, R v Y → R' v Y) : FnX P f xs w0 M X R' :=
  fun G w hs => (h G w hs).mono fun _ _ ⟨v, Y, h1, h2, h3⟩ => ⟨v, Y, h1, h2, g v Y h3⟩
theorem Fn.mono {P : Program} {f : FuncId} {xs : List Value} {w : World} {X : List Blk} {R R' : Value → List Blk → Prop} (h : Fn P f xs w X R) (g : ∀ v Y, R v Y → R' v Y) : Fn P f xs w X R' :=
  fun hd hs => (h hd hs).mono fun _ _ ⟨v, Y, h1, h2, h3⟩ => ⟨v, Y, h1, h2, g v Y h3⟩
/-- A disk of noughts. -/
theorem NewDiskD (m : Nat) (w : World) (h1 : 64 ≤ m) (h2 : m ≤ 65536) : Fn P 8 [.int .i64 (m : Int)] w [] (fun v Y => ∃ (bd ba : Nat) (a : List UInt8), v = .tuple #[.pointer (some ⟨bd, 0, none⟩), .int .i64 0] ∧ DiskOf m 0 [] a ∧ (∀ x ∈ a, x = 0) ∧ Y = [(⟨bd, 0, [.slice (some ⟨ba, 0, none⟩) a.length a.length, .int .i64 (-1)], 2⟩ : Blk), (⟨ba, 0, List.map byteV a, a.length⟩ : Blk)]) := by
  refine (NewDisk_any m w h1 h2).mono fun v Y ⟨bd, ba, h3, h4⟩ => ⟨bd, ba, List.replicate (2 * m) 0, h3, ?_, ?_, ?_⟩
  · exact ⟨List.length_replicate, .inl ⟨rfl, rfl, fun x hx => List.eq_of_mem_replicate hx⟩⟩
  · exact fun x hx => List.eq_of_mem_replicate hx
  · rw [h4, List.length_replicate]
/-- What lies on a disk is had again. -/
theorem OpenD (w0 : World) (bd ba r n : Nat) (v a : List UInt8) (pw : Int) (hd : DiskOf r n v a) (hr1 : 64 ≤ r) (hr2 : r ≤ 65536) (hn : n < 281474976710656) (hv : v.length < 4294967296) : FnX P 9 [.pointer (some ⟨bd, 0, none⟩)] w0 [] [(⟨bd, 0, [.slice (some ⟨ba, 0, none⟩) a.length a.length, .int .i64 pw], 2⟩ : Blk), (⟨ba, 0, List.map byteV a, a.length⟩ : Blk)] (fun x Y => ∃ bc Z, x = .tuple #[.pointer (some ⟨bc, 0, none⟩), .int .i64 0] ∧ Cl bc bd n v Z ∧ Y = Z ++ [(⟨bd, 0, [.slice (some ⟨ba, 0, none⟩) a.length a.length, .int .i64 pw], 2⟩ : Blk), (⟨ba, 0, List.map byteV a, a.length⟩ : Blk)]) := by
  refine (Open_any w0 bd ba r a pw hd.1 hr1 hr2).mono fun x Y h => ?_
  rw [openP_disk hd hn hv] at h
  exact h
/-- What is kept while there is power lies there. -/
theorem KeepD (w0 : World) (bc bd ba r n : Nat) (pv : Value) (v a : List UInt8) (ps : List (List UInt8)) (Z Ps : List Blk) (hc : Cl bc bd n v Z) (hd : DiskOf r n v a) (hn : n < 1000000) (hp : PartsR w0 Ps pv ps) (hpn : ps.length ≤ 9223372036854775807) (hr1 : 64 ≤ r) (hr2 : r ≤ 65536) :
    FnX P 10 [.pointer (some ⟨bc, 0, none⟩), pv] w0 [] (Z ++ ((⟨bd, 0, [.slice (some ⟨ba, 0, none⟩) a.length a.length, .int .i64 (-1)], 2⟩ : Blk) :: (⟨ba, 0, List.map byteV a, a.length⟩ : Blk) :: Ps)) (fun x Y => (r - 44 < ps.flatten.length ∧ x = .int .i64 3 ∧ Y = Z ++ ((⟨bd, 0, [.slice (some ⟨ba, 0, none⟩) a.length a.length, .int .i64 (-1)], 2⟩ : Blk) :: (⟨ba, 0, List.map byteV a, a.length⟩ : Blk) :: Ps)) ∨
      (ps.flatten.length ≤ r - 44 ∧ x = .int .i64 0 ∧ ∃ Z' a', a'.length = a.length ∧ DiskOf r (n + 1) ps.flatten a' ∧ Cl bc bd (n + 1) ps.flatten Z' ∧ Y = Z' ++ ((⟨bd, 0, [.slice (some ⟨ba, 0, none⟩) a'.length a'.length, .int .i64 (-1)], 2⟩ : Blk) :: (⟨ba, 0, List.map byteV a', a'.length⟩ : Blk) :: Ps))) := by
  refine (Keep_any w0 bc bd ba r n pv v a (-1) ps Z Ps hc hn hp hpn hd.1 hr1 hr2 (by decide) (by decide)).mono fun x Y h => ?_
  have hw : ∀ k, wN (-1) k = k := fun k => by unfold wN; rw [if_pos (by decide)]
  have hp : ∀ k, pwF (-1) k = -1 := fun k => by unfold pwF; rw [if_pos (by decide)]
  rcases h with h | ⟨_, h, _⟩ | ⟨h1, h2, h3, Z', h4, h5⟩
  · exact .inl h
  · rw [hw] at h; omega
  · rw [hw, hp, List.take_length] at h5
    have h6 := disk_keep (u := ps.flatten) hd (by omega) (by omega)
    have hl : (splice a ((n + 1) % 2 * r) (recB (n + 1) ps.flatten)).length = a.length := h6.1.trans hd.1.symm
    exact .inr ⟨h1, h3, Z', _, hl, h6, h4, by rw [hl]; exact h5⟩

set_option maxRecDepth 100000 in
theorem keeps_any (w : World) : Fn P 7 [] w [] (fun v Y => Y = [] ∧ v = .bool true) := by
  refine Fn.of 67 [.tmp 0] Go.Proofs.Try.func7 rfl rfl rfl rfl ?_
  refine T.seq ?_
  refine T.region ?_
  refine TL.cons rfl (V1.t (V1.assign' (by (conv => lhs; whnf) <;> rfl)) ?_)
  refine TL.nil ?_
  refine T.seq ?_
  refine T.region ?_
  refine TL.cons rfl (T1.callN has_8 rfl (fun w hs => NewDiskD 100 w (by decide) (by decide)) (fun v Y hY => ?_))
  obtain ⟨bd, ba, a, rfl, hd, -, rfl⟩ := hY
  have ha2 : a.length = 2 * 100 := hd.1
  have hal : a.length ≤ 1000000 := by omega
  simp only [List.cons_append, List.nil_append]
  refine TL.cons rfl (V1.t (V1.move' (by (conv => lhs; whnf) <;> rfl)) ?_)
  refine TL.cons rfl (V1.t (V1.extract rfl (by rfl)) ?_)
  refine TL.cons rfl (V1.t (V1.extract rfl (by rfl)) ?_)
  refine TL.cons rfl (V1.t (V1.assign' (by (conv => lhs; whnf) <;> rfl)) ?_)
  refine TL.cons rfl (V1.t (V1.assign' (by (conv => lhs; whnf) <;> rfl)) ?_)
  refine TL.nil ?_
  refine T.seq ?_
  refine T.seq ?_
  refine T.region ?_
  refine TL.cons rfl (V1.t (V1.move' (by (conv => lhs; whnf) <;> rfl)) ?_)
  refine TL.cons rfl (V1.t (V1.eqNil ty_25 rfl rfl) ?_)
  refine TL.cons rfl (V1.t (V1.move' (by (conv => lhs; whnf) <;> rfl)) ?_)
  refine TL.cons rfl (V1.t (V1.move' (by (conv => lhs; whnf) <;> rfl)) ?_)
  refine TL.cons rfl (V1.t (V1.neI rfl rfl (decide_eq_false (by omega))) ?_)
  refine TL.cons rfl (V1.t (V1.pick rfl (by (conv => lhs; whnf) <;> rfl)) ?_)
  refine TL.nil ?_
  refine T.cond_f rfl ?_
  refine T.skip ?_
  refine T.seq ?_
  refine T.region ?_
  refine TL.cons rfl (V1.t (V1.move' (by (conv => lhs; whnf) <;> rfl)) ?_)
  refine TL.cons rfl (T1.callX (X := [(⟨bd, 0, [.slice (some ⟨ba, 0, none⟩) a.length a.length, .int .i64 (-1)], 2⟩ : Blk), (⟨ba, 0, List.map byteV a, a.length⟩ : Blk)]) has_9 rfl (OpenD _ bd ba 100 0 [] a (-1) hd (by decide) (by decide) (by omega) (by first | omega | decide)) (by repeat (first | exact Take.nil | apply Take.one (by repeat (first | exact Pick.here | apply Pick.there | apply Pick.far)) | apply Take.seg (by repeat (first | exact PickS.last | exact PickS.one | exact PickS.here | exact PickS.nil | apply PickS.there | apply PickS.far)) | exact Take.last (by repeat (first | exact PickS.last | exact PickS.one | exact PickS.here | exact PickS.nil | apply PickS.there | apply PickS.far)))) (fun v_ Y_ hY => ?_))
  obtain ⟨bc, Z, rfl, hc, rfl⟩ := hY
  simp only [List.append_assoc, List.cons_append, List.nil_append]
  refine TL.cons rfl (V1.t (V1.move' (by (conv => lhs; whnf) <;> rfl)) ?_)
  refine TL.cons rfl (V1.t (V1.extract rfl (by rfl)) ?_)
  refine TL.cons rfl (V1.t (V1.extract rfl (by rfl)) ?_)
  refine TL.cons rfl (V1.t (V1.assign' (by (conv => lhs; whnf) <;> rfl)) ?_)
  refine TL.cons rfl (V1.t (V1.assign' (by (conv => lhs; whnf) <;> rfl)) ?_)
  refine TL.nil ?_
  refine T.seq ?_
  refine T.seq ?_
  refine T.live (l := [(1, _), (3, _), (4, _)]) (.cons (by (conv => lhs; whnf) <;> rfl) (.cons (by (conv => lhs; whnf) <;> rfl) (.cons (by (conv => lhs; whnf) <;> rfl) .nil))) (fun e_ => ?_)
  refine T.region ?_
  refine TL.cons rfl (V1.t (V1.move' (by (conv => lhs; whnf) <;> rfl)) ?_)
  refine TL.cons rfl (V1.t (V1.eqNil ty_29 rfl rfl) ?_)
  refine TL.cons rfl (V1.t (V1.move' (by (conv => lhs; whnf) <;> rfl)) ?_)
  refine TL.cons rfl (V1.t (V1.move' (by (conv => lhs; whnf) <;> rfl)) ?_)
  refine TL.cons rfl (V1.t (V1.neI rfl rfl (decide_eq_false (by omega))) ?_)
  refine TL.cons rfl (V1.t (V1.pick rfl (by (conv => lhs; whnf) <;> rfl)) ?_)
  refine TL.cons rfl (V1.t (V1.move' (by (conv => lhs; whnf) <;> rfl)) ?_)
  refine TL.cons rfl (V1.t (V1.move' (by (conv => lhs; whnf) <;> rfl)) ?_)
  refine TL.cons rfl (T1.callX (X := Z) has_12 rfl (Number_any _ bc bd 0 [] Z hc) (by repeat (first | exact Take.nil | apply Take.one (by repeat (first | exact Pick.here | apply Pick.there | apply Pick.far)) | apply Take.seg (by repeat (first | exact PickS.last | exact PickS.one | exact PickS.here | exact PickS.nil | apply PickS.there | apply PickS.far)) | exact Take.last (by repeat (first | exact PickS.last | exact PickS.one | exact PickS.here | exact PickS.nil | apply PickS.there | apply PickS.far)))) (fun v_ Y_ hY => ?_))
  obtain ⟨rfl, hzz⟩ := hY
  rw [hzz]
  refine TL.cons rfl (V1.t (V1.neI rfl rfl (decide_eq_false (by omega))) ?_)
  refine TL.cons rfl (V1.t (V1.pick rfl (by (conv => lhs; whnf) <;> rfl)) ?_)
  refine TL.cons rfl (V1.t (V1.move' (by (conv => lhs; whnf) <;> rfl)) ?_)
  refine TL.cons rfl (V1.t (V1.move' (by (conv => lhs; whnf) <;> rfl)) ?_)
  refine TL.cons rfl (T1.buildSl1 (os := [.const (.int .u8 97)]) (vs := List.map byteV [97]) ty_33 sz_5 zr_5 (by decide) rfl (.cons rfl .nil) rfl (ones rfl) (fun b33 => ?_))
  refine TL.cons rfl (T1.convLit ty_33 ty_5 rfl (by repeat (first | exact Sub.one | apply Sub.there | apply Sub.far)) ?_)
  refine TL.cons rfl (T1.buildSl1 (os := [.const (.int .u8 98)]) (vs := List.map byteV [98]) ty_33 sz_5 zr_5 (by decide) rfl (.cons rfl .nil) rfl (ones rfl) (fun b35 => ?_))
  refine TL.cons rfl (T1.convLit ty_33 ty_5 rfl (by repeat (first | exact Sub.one | apply Sub.there | apply Sub.far)) ?_)
  refine TL.cons rfl (T1.buildSl1 (os := [.tmp 34, .tmp 36]) (vs := [.slice (some ⟨b33, 0, none⟩) 1 1, .slice (some ⟨b35, 0, none⟩) 1 1]) ty_22 sz_33 zr_33 (by decide) rfl (.cons rfl (.cons rfl .nil)) rfl (ones rfl) (fun b37 => ?_))
  refine TL.cons rfl (T1.callX (X := Z ++ ((⟨bd, 0, [.slice (some ⟨ba, 0, none⟩) a.length a.length, .int .i64 (-1)], 2⟩ : Blk) :: (⟨ba, 0, List.map byteV a, a.length⟩ : Blk) :: ((⟨b37, 0, [.slice (some ⟨b33, 0, none⟩) 1 1, .slice (some ⟨b35, 0, none⟩) 1 1], 2⟩ : Blk) :: ⟨b35, 0, List.map byteV [98], 1⟩ :: ⟨b33, 0, List.map byteV [97], 1⟩ :: []))) has_10 rfl (KeepD _ bc bd ba 100 0 _ [] a [[97], [98]] Z ((⟨b37, 0, [.slice (some ⟨b33, 0, none⟩) 1 1, .slice (some ⟨b35, 0, none⟩) 1 1], 2⟩ : Blk) :: ⟨b35, 0, List.map byteV [98], 1⟩ :: ⟨b33, 0, List.map byteV [97], 1⟩ :: []) hc hd (by decide) (PartsR.ones (svs := [.slice (some ⟨b33, 0, none⟩) 1 1, .slice (some ⟨b35, 0, none⟩) 1 1]) (size := 2) (by simp) rfl (two_parts (part32 (b := b33) (n := 1) (c := 1) (size := 1) (p := [97]) (by simp) rfl) (part32 (b := b35) (n := 1) (c := 1) (size := 1) (p := [98]) (by simp) rfl))) (by decide) (by decide) (by decide)) (by repeat (first | exact Take.nil | apply Take.one (by repeat (first | exact Pick.here | apply Pick.there | apply Pick.far)) | apply Take.seg (by repeat (first | exact PickS.last | exact PickS.one | exact PickS.here | exact PickS.nil | apply PickS.there | apply PickS.far)) | exact Take.last (by repeat (first | exact PickS.last | exact PickS.one | exact PickS.here | exact PickS.nil | apply PickS.there | apply PickS.far)))) (fun v_ Y_ hY => ?_))
  rcases hY with ⟨h, _, _⟩ | ⟨_, rfl, Z', a', ha', hd', hc', rfl⟩
  · exact absurd h (by decide)
  rw [show ([[97], [98]] : List (List UInt8)).flatten = [97, 98] from rfl, show 0 + 1 = 1 from rfl] at hd' hc'
  simp only [List.append_assoc, List.cons_append, List.nil_append]
  refine TL.cons rfl (V1.t (V1.neI rfl rfl (decide_eq_false (by omega))) ?_)
  refine TL.cons rfl (V1.t (V1.pick rfl (by (conv => lhs; whnf) <;> rfl)) ?_)
  refine TL.nil ?_
  refine T.cond_f rfl ?_
  refine T.skip ?_
  refine T.seq ?_
  refine T.live (l := [(1, _)]) (.cons (by (conv => lhs; whnf) <;> rfl) .nil) (fun e_ => ?_)
  refine T.region ?_
  refine TL.cons rfl (V1.t (V1.move' (by (conv => lhs; whnf) <;> rfl)) ?_)
  refine TL.cons rfl (T1.callX (X := [(⟨bd, 0, [.slice (some ⟨ba, 0, none⟩) a'.length a'.length, .int .i64 (-1)], 2⟩ : Blk), (⟨ba, 0, List.map byteV a', a'.length⟩ : Blk)]) has_9 rfl (OpenD _ bd ba 100 1 [97, 98] a' (-1) hd' (by decide) (by decide) (by omega) (by first | omega | decide)) (by repeat (first | exact Take.nil | apply Take.one (by repeat (first | exact Pick.here | apply Pick.there | apply Pick.far)) | apply Take.seg (by repeat (first | exact PickS.last | exact PickS.one | exact PickS.here | exact PickS.nil | apply PickS.there | apply PickS.far)) | exact Take.last (by repeat (first | exact PickS.last | exact PickS.one | exact PickS.here | exact PickS.nil | apply PickS.there | apply PickS.far)))) (fun v_ Y_ hY => ?_))
  obtain ⟨bc2, Z2, rfl, hc2, rfl⟩ := hY
  simp only [List.append_assoc, List.cons_append, List.nil_append]
  refine TL.cons rfl (V1.t (V1.move' (by (conv => lhs; whnf) <;> rfl)) ?_)
  refine TL.cons rfl (V1.t (V1.extract rfl (by rfl)) ?_)
  refine TL.cons rfl (V1.t (V1.extract rfl (by rfl)) ?_)
  refine TL.cons rfl (V1.t (V1.assign' (by (conv => lhs; whnf) <;> rfl)) ?_)
  refine TL.cons rfl (V1.t (V1.assign' (by (conv => lhs; whnf) <;> rfl)) ?_)
  refine TL.nil ?_
  refine T.seq ?_
  refine T.region ?_
  refine TL.cons rfl (V1.t (V1.move' (by (conv => lhs; whnf) <;> rfl)) ?_)
  refine TL.cons rfl (V1.t (V1.neNil ty_29 rfl rfl) ?_)
  refine TL.cons rfl (V1.t (V1.move' (by (conv => lhs; whnf) <;> rfl)) ?_)
  refine TL.cons rfl (V1.t (V1.move' (by (conv => lhs; whnf) <;> rfl)) ?_)
  refine TL.cons rfl (V1.t (V1.eqI rfl rfl (decide_eq_true (by omega))) ?_)
  refine TL.cons rfl (V1.t (V1.pick rfl (by (conv => lhs; whnf) <;> rfl)) ?_)
  refine TL.cons rfl (V1.t (V1.move' (by (conv => lhs; whnf) <;> rfl)) ?_)
  refine TL.cons rfl (V1.t (V1.move' (by (conv => lhs; whnf) <;> rfl)) ?_)
  refine TL.cons rfl (T1.callX (X := Z2) has_11 rfl (Value_any _ bc2 bd 1 [97, 98] Z2 hc2 (by first | omega | decide)) (by repeat (first | exact Take.nil | apply Take.one (by repeat (first | exact Pick.here | apply Pick.there | apply Pick.far)) | apply Take.seg (by repeat (first | exact PickS.last | exact PickS.one | exact PickS.here | exact PickS.nil | apply PickS.there | apply PickS.far)) | exact Take.last (by repeat (first | exact PickS.last | exact PickS.one | exact PickS.here | exact PickS.nil | apply PickS.there | apply PickS.far)))) (fun v_ Y_ hY => ?_))
  obtain ⟨Lz, rfl, hsz⟩ := hY
  simp only [List.append_assoc, List.cons_append, List.nil_append]
  refine TL.cons rfl (V1.t (V1.slToStr ty_33 ty_5 ty_9 rfl hsz (by repeat (first | exact Sub.here | exact Sub.last | apply Sub.there | apply Sub.far))) ?_)
  refine TL.cons rfl (V1.t (V1.eqS (r := true) rfl rfl (decide_eq_true rfl)) ?_)
  refine TL.cons rfl (V1.t (V1.pick rfl (by (conv => lhs; whnf) <;> rfl)) ?_)
  refine TL.cons rfl (V1.t (V1.move' (by (conv => lhs; whnf) <;> rfl)) ?_)
  refine TL.cons rfl (V1.t (V1.move' (by (conv => lhs; whnf) <;> rfl)) ?_)
  refine TL.cons rfl (T1.callX (X := Z2) has_12 rfl (Number_any _ bc2 bd 1 [97, 98] Z2 hc2) (by repeat (first | exact Take.nil | apply Take.one (by repeat (first | exact Pick.here | apply Pick.there | apply Pick.far)) | apply Take.seg (by repeat (first | exact PickS.last | exact PickS.one | exact PickS.here | exact PickS.nil | apply PickS.there | apply PickS.far)) | exact Take.last (by repeat (first | exact PickS.last | exact PickS.one | exact PickS.here | exact PickS.nil | apply PickS.there | apply PickS.far)))) (fun v_ Y_ hY => ?_))
  obtain ⟨rfl, hzz⟩ := hY
  rw [hzz]
  refine TL.cons rfl (V1.t (V1.eqI rfl rfl (decide_eq_true (by omega))) ?_)
  refine TL.cons rfl (V1.t (V1.pick rfl (by (conv => lhs; whnf) <;> rfl)) ?_)
  refine TL.cons rfl (V1.t (V1.move' (by (conv => lhs; whnf) <;> rfl)) ?_)
  refine TL.cons rfl (V1.t (V1.pick rfl (by (conv => lhs; whnf) <;> rfl)) ?_)
  refine TL.cons rfl (V1.t (V1.move' (by (conv => lhs; whnf) <;> rfl)) ?_)
  refine TL.cons rfl (V1.t (V1.pick rfl (by (conv => lhs; whnf) <;> rfl)) ?_)
  refine TL.cons rfl (V1.t (V1.assign' (by (conv => lhs; whnf) <;> rfl)) ?_)
  refine TL.nil ?_
  refine T.ret ?_
  exact ⟨_, [], _, .cons (.tmp (by (conv => lhs; whnf) <;> rfl)) .nil, Take.nil, rfl, rfl⟩

end Go.Proofs.Ytmolpgnekcfimaa.S
