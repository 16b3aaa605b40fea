/- So many bytes of a key. -/
import Derived.Test.YtelcmllfojfbfaaM5
namespace Go.Proofs.Ytelcmllfojfbfaa.S
open Go.RowKit

open Sh
section
variable {C : Ctx} {K : Env → List Blk → Prop} {e : Env} {L : List Blk} {dst : Option Tmp} {ty : TypeId} {pos : String} {after : Array Edge} {guard : Option (Nat × Bool)}
theorem V1.slice3 {t el : TypeId} {x y z : Operand} {a : Option Addr} {len cap n : Nat} {k1 k2 : IntKind} (hT : C.P.underlying t = some (.slice el)) (hk : SizeIs C.P el 1) (hx : ev C.n e x = .slice a len cap) (ha : a = none ∨ ∃ b o, a = some ⟨b, o, none⟩) (hy : ev C.n e y = .int k1 (n : Int)) (hz : ev C.n e z = .int k2 (n : Int)) (h : n ≤ cap) :
    V1 C ⟨dst, .slice t x none (some y) (some z), ty, pos, after, guard⟩ e L (.slice a n n) :=
  V1.run (s := Instr.sliceAt t (ev C.n e x) none (some (ev C.n e y)) (some (ev C.n e z))) rfl (fun w _ => by
    rw [hx, hy, hz]
    unfold Instr.sliceAt
    rw [run_bind (run_underlying hT w)]
    show (Instr.slice t (.slice a len cap) none (some (.int k1 (n : Int))) (some (.int k2 (n : Int)))).run C.P w = _
    unfold Instr.slice
    rw [run_bind (run_underlying hT w)]
    show (do let (l, h, m) ← Instr.sliceBounds true len cap none (some (.int k1 (n : Int))) (some (.int k2 (n : Int))); let size ← sizeOf el; pure (Value.slice (if m = l then a else a.map (·.add (l * size))) (h - l) (m - l)) : Sem Value).run C.P w = _
    have hb : (Instr.sliceBounds true len cap none (some (.int k1 (n : Int))) (some (.int k2 (n : Int)))).run C.P w = .ok (0, n, n) w := by
      unfold Instr.sliceBounds
      show (do let m ← Instr.sliceBound (.int k2 (n : Int)) cap .slice3Acap; let h ← Instr.sliceBound (.int k1 (n : Int)) m .slice3B; let l ← pure 0; pure (l, h, m) : Sem (Nat × Nat × Nat)).run C.P w = _
      rw [run_bind (run_sliceBound (by omega) (by omega) w), run_bind (run_sliceBound (by omega) (by omega) w)]
      rfl
    rw [run_bind hb]
    simp only
    rw [run_bind (run_sizeOf hk w)]
    rcases ha with rfl | ⟨b, o, rfl⟩
    · simp [pure, Sem.run]
    · simp [pure, Sem.run, addr_add])
theorem Blk.In.pre {b off size n : Nat} {cells : List Value} {w : World} (h : Blk.In ⟨b, off, cells, size⟩ w) : Blk.In ⟨b, off, cells.take n, size⟩ w := by
  obtain ⟨c, E, lo, hi, h1, h2, h3, h4⟩ := h.here
  have hr : off + cells.length ≤ size := h.room
  refine ⟨by show off + (cells.take n).length ≤ size; rw [List.length_take]; omega, c, E, lo, hi, h1, h2, fun i hi => ?_, h4⟩
  have hi' : i < (cells.take n).length := hi
  rw [List.length_take] at hi'
  show c[off + i]? = (cells.take n)[i]?
  rw [List.getElem?_take_of_lt (by omega)]
  exact h3 i (by show i < cells.length; omega)
theorem T1.slice3 {t el : TypeId} {x y z : Operand} {v : Value} {cells : List Value} {Ls G : List Blk} {n : Nat} {k1 k2 : IntKind} (hT : C.P.underlying t = some (.slice el)) (hk : SizeIs C.P el 1) (hx : ev C.n e x = v) (hsl : Sl v cells 1 Ls) (hp : PickS L Ls G) (hy : ev C.n e y = .int k1 (n : Int)) (hz : ev C.n e z = .int k2 (n : Int)) (h : n ≤ cells.length)
    (k : ∀ v' Ls', Sl v' (cells.take n) 1 Ls' → K (putO e dst v') (Ls' ++ G)) : T1 C ⟨dst, .slice t x none (some y) (some z), ty, pos, after, guard⟩ K e L := by
  rcases hsl with ⟨rfl, rfl, rfl⟩ | ⟨b, off, len, cap, size, rfl, h1, h2, h3, rfl⟩
  · obtain rfl : n = 0 := by simpa using h
    exact T1.re (V1.slice3 hT hk hx (.inl rfl) hy hz (Nat.le_refl _)) (fun w hs => hs.perm hp.perm.symm) (k _ [] (by simpa using Sl.nil))
  · rw [Nat.mul_one] at h1 h3
    exact T1.re (V1.slice3 hT hk hx (.inr ⟨_, _, rfl⟩) hy hz (by omega)) (L' := ⟨b, off, cells.take n, size⟩ :: G) (fun w hs => (hs.perm hp.perm.symm).view rfl Blk.In.pre) (k _ [_] (.inr ⟨b, off, n, n, size, rfl, by rw [List.length_take]; omega, Nat.le_refl _, by omega, rfl⟩))
end
/-- What is made of a key, block by block: all, and the last block. -/
def exS (key info : List UInt8) : Nat → List UInt8 × List UInt8
  | 0 => ([], [])
  | i + 1 => ((exS key info i).1 ++ hmac key ((exS key info i).2 ++ info ++ [UInt8.ofNat (i + 1)]), hmac key ((exS key info i).2 ++ info ++ [UInt8.ofNat (i + 1)]))
theorem exS_len (key info : List UInt8) : ∀ i, (exS key info i).1.length = 32 * i ∧ (exS key info i).2.length ≤ 32
  | 0 => ⟨rfl, by simp [exS]⟩
  | i + 1 => by
    have := exS_len key info i
    unfold exS
    rw [List.length_append, hmac_len]
    exact ⟨by omega, Nat.le_refl _⟩
def expB (key info : List UInt8) (n : Nat) : List UInt8 := (exS key info ((n + 31) / 32)).1.take n
theorem byte_next (i : Nat) : (BitVec.ofNat 8 (i + 1) + 1#8) = BitVec.ofNat 8 (i + 1 + 1) := by rw [BitVec.ofNat_add (i + 1) 1]

set_option maxRecDepth 100000 in
set_option maxHeartbeats 4000000 in
theorem Expand_any (w0 : World) (v : Value) (key info : List UInt8) (nn : Int) (ps : List (List UInt8)) (Ps : List Blk) (hkl : key.length = 32) (hinfo : ps.flatten = info) (hp : PartsR w0 Ps v ps) (hlen : ∀ p ∈ ps, p.length ≤ 200000000000000) (hpn : ps.length < 9223372036854775807) (hfl : info.length < 4611686018427380000) : FnX P 33 [.agg (key.map byteV).toArray, .int .i64 nn, v] w0 [] Ps (fun r Y => ((nn < 0 ∨ 8160 < nn) ∧ r = .tuple #[.slice none 0 0, .int .i64 1] ∧ Y = Ps) ∨ ∃ (n : Nat) (s : Value) (Ls : List Blk), nn = (n : Int) ∧ n ≤ 8160 ∧ r = .tuple #[s, .int .i64 0] ∧ Sl s ((expB key info n).map byteV) 1 Ls ∧ Y = Ls ++ Ps) := by
  refine FnX.of 58 [.tmp 6, .tmp 7] Go.Proofs.Try.func33 rfl rfl rfl rfl (fun G => ?_)
  refine T.seq ?_
  refine T.region ?_
  refine TL.cons rfl (T1.boxN (vs := key.map byteV) 32 rfl (by rw [List.length_map]; exact hkl) (fun b3 => ?_))
  refine TL.cons rfl (V1.t (V1.assign' (by (conv => lhs; whnf) <;> rfl)) ?_)
  refine TL.cons rfl (V1.t (V1.assign' (by (conv => lhs; whnf) <;> rfl)) ?_)
  refine TL.nil ?_
  refine T.seq ?_
  refine T.seq ?_
  refine T.region ?_
  refine TL.cons rfl (V1.t (V1.move' (by (conv => lhs; whnf) <;> rfl)) ?_)
  refine TL.cons rfl (T1.ltI_split rfl rfl (fun h1_1 => ?_) (fun h1_1 => ?_))
  ·
    refine TL.cons rfl (V1.t (V1.move' (by (conv => lhs; whnf) <;> rfl)) ?_)
    refine TL.no rfl ?_
    refine TL.no rfl ?_
    refine TL.cons rfl (V1.t (V1.pick rfl (by (conv => lhs; whnf) <;> rfl)) ?_)
    refine TL.nil ?_
    refine T.cond_t rfl ?_
    refine T.seq ?_
    refine T.region ?_
    refine TL.cons rfl (V1.t (V1.assign' (by (conv => lhs; whnf) <;> rfl)) ?_)
    refine TL.cons rfl (V1.t (V1.assign' (by (conv => lhs; whnf) <;> rfl)) ?_)
    refine TL.nil ?_
    refine T.ret ?_
    exact ⟨_, Ps ++ G, _, .cons (.tmp (by (conv => lhs; whnf) <;> rfl)) (.cons (.tmp (by (conv => lhs; whnf) <;> rfl)) .nil), (by repeat (first | exact Take.nil | apply Take.one (by repeat (first | exact Pick.here | apply Pick.there | apply Pick.far)) | apply Take.seg (by repeat (first | exact PickS.last | exact PickS.one | exact PickS.here | exact PickS.nil | apply PickS.there | apply PickS.far)) | exact Take.last (by repeat (first | exact PickS.last | exact PickS.one | exact PickS.here | exact PickS.nil | apply PickS.there | apply PickS.far)))), Ps, rfl, .inl ⟨by omega, rfl, rfl⟩⟩
  ·
    refine TL.cons rfl (V1.t (V1.move' (by (conv => lhs; whnf) <;> rfl)) ?_)
    refine TL.cons rfl (V1.t (V1.move' (by (conv => lhs; whnf) <;> rfl)) ?_)
    refine TL.cons rfl (T1.gtI_split rfl rfl (fun h1_4 => ?_) (fun h1_4 => ?_))
    ·
      refine TL.cons rfl (V1.t (V1.pick rfl (by (conv => lhs; whnf) <;> rfl)) ?_)
      refine TL.nil ?_
      refine T.cond_t rfl ?_
      refine T.seq ?_
      refine T.region ?_
      refine TL.cons rfl (V1.t (V1.assign' (by (conv => lhs; whnf) <;> rfl)) ?_)
      refine TL.cons rfl (V1.t (V1.assign' (by (conv => lhs; whnf) <;> rfl)) ?_)
      refine TL.nil ?_
      refine T.ret ?_
      exact ⟨_, Ps ++ G, _, .cons (.tmp (by (conv => lhs; whnf) <;> rfl)) (.cons (.tmp (by (conv => lhs; whnf) <;> rfl)) .nil), (by repeat (first | exact Take.nil | apply Take.one (by repeat (first | exact Pick.here | apply Pick.there | apply Pick.far)) | apply Take.seg (by repeat (first | exact PickS.last | exact PickS.one | exact PickS.here | exact PickS.nil | apply PickS.there | apply PickS.far)) | exact Take.last (by repeat (first | exact PickS.last | exact PickS.one | exact PickS.here | exact PickS.nil | apply PickS.there | apply PickS.far)))), Ps, rfl, .inl ⟨by omega, rfl, rfl⟩⟩
    ·
      obtain ⟨n, rfl⟩ : ∃ n : Nat, nn = (n : Int) := ⟨nn.toNat, by omega⟩
      have hn8 : n ≤ 8160 := by omega
      refine TL.cons rfl (V1.t (V1.pick rfl (by (conv => lhs; whnf) <;> rfl)) ?_)
      refine TL.nil ?_
      refine T.cond_f rfl ?_
      refine T.skip ?_
      refine T.seq ?_
      refine T.region ?_
      refine TL.cons rfl (V1.t (V1.assign' (by (conv => lhs; whnf) <;> rfl)) ?_)
      refine TL.cons rfl (V1.t (V1.assign' (by (conv => lhs; whnf) <;> rfl)) ?_)
      refine TL.nil ?_
      refine T.seq ?_
      refine T.seq ?_
      refine T.region ?_
      refine TL.cons rfl (V1.t (V1.assign' (by (conv => lhs; whnf) <;> rfl)) ?_)
      refine TL.nil ?_
      refine T.block ?_
      refine T.loopL (σ := Nat × Value × Value × List Blk × List Blk) (l0 := [(1, _), (2, _), (3, _)]) (fun x => [(10, .int .u8 ((BitVec.ofNat 8 (x.1 + 1)).toNat : Int)), (8, x.2.1), (9, x.2.2.1)]) (fun x L => L = x.2.2.2.1 ++ (x.2.2.2.2 ++ (⟨b3, 0, key.map byteV, 32⟩ :: (Ps ++ G))) ∧ Sl x.2.1 ((exS key info x.1).1.map byteV) 1 x.2.2.2.1 ∧ Sl x.2.2.1 ((exS key info x.1).2.map byteV) 1 x.2.2.2.2 ∧ (x.1 = 0 ∨ 32 * x.1 < n + 32)) (fun x => 256 - x.1) (0, .slice none 0 0, .slice none 0 0, [], []) (.cons rfl (.cons rfl (.cons rfl .nil))) (.cons (by (conv => lhs; whnf) <;> rfl) (.cons (by (conv => lhs; whnf) <;> rfl) (.cons (by (conv => lhs; whnf) <;> rfl) .nil))) (by repeat (first | exact Take.nil | apply Take.one (by repeat (first | exact Pick.here | apply Pick.there | apply Pick.far)) | apply Take.seg (by repeat (first | exact PickS.last | exact PickS.one | exact PickS.here | exact PickS.nil | apply PickS.there | apply PickS.far)) | exact Take.last (by repeat (first | exact PickS.last | exact PickS.one | exact PickS.here | exact PickS.nil | apply PickS.there | apply PickS.far)))) (⟨rfl, Sl.nil, Sl.nil, .inl rfl⟩) ?_
      rintro ⟨i, so, sl, Lo, Ll⟩ e_ L ⟨rfl, hso, hsl, hi⟩
      simp only at hso hsl hi
      obtain ⟨oa, oc, rfl⟩ := hso.form1
      obtain ⟨la, lc, rfl⟩ := hsl.form1
      have hol := (exS_len key info i).1
      have hll := (exS_len key info i).2
      refine T.seq ?_
      refine T.seq ?_
      refine T.region ?_
      refine TL.cons rfl (V1.t (V1.move' (by (conv => lhs; whnf) <;> rfl)) ?_)
      refine TL.cons rfl (V1.t (V1.lenSl ty_22 rfl) ?_)
      refine TL.cons rfl (V1.t (V1.move' (by (conv => lhs; whnf) <;> rfl)) ?_)
      refine TL.cons rfl (T1.ltI_split rfl rfl (fun h5_3 => ?_) (fun h5_3 => ?_))
      ·
        rw [hol] at h5_3
        refine TL.nil ?_
        refine T.cond_t rfl ?_
        refine T.skip ?_
        refine T.seq ?_
        refine T.block ?_
        refine T.seq ?_
        refine T.region ?_
        refine TL.cons rfl (V1.t (V1.sliceA ty_26 sz_5 rfl rfl rfl (by decide) (by decide) (by decide)) ?_)
        refine TL.cons rfl (T1.callX (X := [⟨b3, 0, key.map byteV, 32⟩]) has_27 rfl (macNew_any _ _ key [⟨b3, 0, key.map byteV, 32⟩] (part64 (size := 32) (by simp) hkl) (by omega)) (by repeat (first | exact Take.nil | apply Take.one (by repeat (first | exact Pick.here | apply Pick.there | apply Pick.far)) | apply Take.seg (by repeat (first | exact PickS.last | exact PickS.one | exact PickS.here | exact PickS.nil | apply PickS.there | apply PickS.far)) | exact Take.last (by repeat (first | exact PickS.last | exact PickS.one | exact PickS.here | exact PickS.nil | apply PickS.there | apply PickS.far)))) (fun v2 Y hY => ?_))
        obtain ⟨bm, bh, X', rfl, rfl, hx⟩ := hY
        simp only [List.cons_append, List.nil_append, List.append_assoc]
        refine TL.cons rfl (V1.t (V1.assign' (by (conv => lhs; whnf) <;> rfl)) ?_)
        refine TL.nil ?_
        refine T.seq ?_
        refine T.region ?_
        refine TL.cons rfl (V1.t (V1.move' (by (conv => lhs; whnf) <;> rfl)) ?_)
        refine TL.cons rfl (V1.t (V1.nilCheck rfl) ?_)
        refine TL.cons rfl (V1.t (V1.fieldAddr fl_42_0 rfl) ?_)
        refine TL.cons rfl (V1.t (V1.load1 one_40 rfl (.own (cells := .pointer (some ⟨bh, 0, none⟩) :: (opad key).map byteV) (by repeat (first | exact Find.here | assumption | apply Find.there | apply Find.far)) (by rfl))) ?_)
        refine TL.cons rfl (V1.t (V1.move' (by (conv => lhs; whnf) <;> rfl)) ?_)
        refine TL.cons rfl (T1.buildSl1 (os := [.tmp 31]) (vs := [.slice la (exS key info i).2.length lc]) ty_44 sz_22 zr_22 (by decide) rfl (.cons (by (conv => lhs; whnf) <;> rfl) .nil) rfl (ones rfl) (fun b32 => ?_))
        refine TL.cons rfl (T1.callX (X := X' ++ (⟨b32, 0, [.slice la (exS key info i).2.length lc], 1⟩ :: Ll : List Blk)) has_28 rfl (Write256_any _ bh _ _ [(exS key info i).2] X' (⟨b32, 0, [.slice la (exS key info i).2.length lc], 1⟩ :: Ll : List Blk) hx (PartsR.ones (svs := [.slice la (exS key info i).2.length lc]) (size := 1) (by simp) rfl (one_part (PartR.own hsl (fun _ h => List.mem_cons_of_mem _ h)))) (one_len (by omega)) (show 1 < 9223372036854775807 by decide)) (by repeat (first | exact Take.nil | apply Take.one (by repeat (first | exact Pick.here | apply Pick.there | apply Pick.far)) | apply Take.seg (by repeat (first | exact PickS.last | exact PickS.one | exact PickS.here | exact PickS.nil | apply PickS.there | apply PickS.far)) | exact Take.last (by repeat (first | exact PickS.last | exact PickS.one | exact PickS.here | exact PickS.nil | apply PickS.there | apply PickS.far)))) (fun v3 Y hY => ?_))
        obtain ⟨X2, hx2, rfl⟩ := hY
        simp only [List.append_assoc, List.cons_append, List.nil_append]
        refine TL.nil ?_
        refine T.seq ?_
        refine T.region ?_
        refine TL.cons rfl (V1.t (V1.move' (by (conv => lhs; whnf) <;> rfl)) ?_)
        refine TL.cons rfl (V1.t (V1.nilCheck rfl) ?_)
        refine TL.cons rfl (V1.t (V1.fieldAddr fl_42_0 rfl) ?_)
        refine TL.cons rfl (V1.t (V1.load1 one_40 rfl (.own (cells := .pointer (some ⟨bh, 0, none⟩) :: (opad key).map byteV) (by repeat (first | exact Find.here | assumption | apply Find.there | apply Find.far)) (by rfl))) ?_)
        refine TL.cons rfl (V1.t (V1.move' (by (conv => lhs; whnf) <;> rfl)) ?_)
        refine TL.cons rfl (T1.callX (X := X2 ++ Ps) has_28 rfl (Write256_any _ bh _ _ ps X2 Ps hx2 hp hlen hpn) (by repeat (first | exact Take.nil | apply Take.one (by repeat (first | exact Pick.here | apply Pick.there | apply Pick.far)) | apply Take.seg (by repeat (first | exact PickS.last | exact PickS.one | exact PickS.here | exact PickS.nil | apply PickS.there | apply PickS.far)) | exact Take.last (by repeat (first | exact PickS.last | exact PickS.one | exact PickS.here | exact PickS.nil | apply PickS.there | apply PickS.far)))) (fun v3 Y hY => ?_))
        obtain ⟨X3, hx3, rfl⟩ := hY
        simp only [List.append_assoc, List.cons_append, List.nil_append]
        refine TL.nil ?_
        refine T.seq ?_
        refine T.live (l := [(1, _), (2, _), (3, _), (8, _), (10, _), (11, _)]) (.cons (by (conv => lhs; whnf) <;> rfl) (.cons (by (conv => lhs; whnf) <;> rfl) (.cons (by (conv => lhs; whnf) <;> rfl) (.cons (by (conv => lhs; whnf) <;> rfl) (.cons (by (conv => lhs; whnf) <;> rfl) (.cons (by (conv => lhs; whnf) <;> rfl) .nil)))))) (fun e_ => ?_)
        refine T.region ?_
        refine TL.cons rfl (V1.t (V1.move' (by (conv => lhs; whnf) <;> rfl)) ?_)
        refine TL.cons rfl (V1.t (V1.nilCheck rfl) ?_)
        refine TL.cons rfl (V1.t (V1.fieldAddr fl_42_0 rfl) ?_)
        refine TL.cons rfl (V1.t (V1.load1 one_40 rfl (.own (cells := .pointer (some ⟨bh, 0, none⟩) :: (opad key).map byteV) (by repeat (first | exact Find.here | assumption | apply Find.there | apply Find.far)) (by rfl))) ?_)
        refine TL.cons rfl (V1.t (V1.move' (by (conv => lhs; whnf) <;> rfl)) ?_)
        refine TL.cons rfl (T1.buildSl1 (os := [.tmp 44]) (vs := [byteV (UInt8.ofNat (i + 1))]) ty_22 sz_5 zr_5 (by decide) rfl (.cons rfl .nil) rfl (ones rfl) (fun b45 => ?_))
        refine TL.cons rfl (T1.buildSl1 (os := [.tmp 45]) (vs := [.slice (some ⟨b45, 0, none⟩) 1 1]) ty_44 sz_22 zr_22 (by decide) rfl (.cons (by (conv => lhs; whnf) <;> rfl) .nil) rfl (ones rfl) (fun b46 => ?_))
        refine TL.cons rfl (T1.callX (X := X3 ++ ([⟨b46, 0, [.slice (some ⟨b45, 0, none⟩) 1 1], 1⟩, ⟨b45, 0, [byteV (UInt8.ofNat (i + 1))], 1⟩] : List Blk)) has_28 rfl (Write256_any _ bh _ _ [[(UInt8.ofNat (i + 1))]] X3 ([⟨b46, 0, [.slice (some ⟨b45, 0, none⟩) 1 1], 1⟩, ⟨b45, 0, [byteV (UInt8.ofNat (i + 1))], 1⟩] : List Blk) hx3 (PartsR.ones (svs := [.slice (some ⟨b45, 0, none⟩) 1 1]) (size := 1) (by simp) rfl (one_part (part64 (p := [(UInt8.ofNat (i + 1))]) (size := 1) (by simp) rfl))) (one_len (by simp)) (show 1 < 9223372036854775807 by decide)) (by repeat (first | exact Take.nil | apply Take.one (by repeat (first | exact Pick.here | apply Pick.there | apply Pick.far)) | apply Take.seg (by repeat (first | exact PickS.last | exact PickS.one | exact PickS.here | exact PickS.nil | apply PickS.there | apply PickS.far)) | exact Take.last (by repeat (first | exact PickS.last | exact PickS.one | exact PickS.here | exact PickS.nil | apply PickS.there | apply PickS.far)))) (fun v3 Y hY => ?_))
        obtain ⟨X4, hx4, rfl⟩ := hY
        rw [hinfo, show (ipad key ++ ([(exS key info i).2] : List (List UInt8)).flatten ++ info ++ ([[(UInt8.ofNat (i + 1))]] : List (List UInt8)).flatten) = ipad key ++ ((exS key info i).2 ++ info ++ [(UInt8.ofNat (i + 1))]) from by simp [List.append_assoc]] at hx4
        simp only [List.append_assoc, List.cons_append, List.nil_append]
        refine TL.nil ?_
        refine T.seq ?_
        refine T.region ?_
        refine TL.cons rfl (V1.t (V1.move' (by (conv => lhs; whnf) <;> rfl)) ?_)
        refine TL.cons rfl (T1.callX (X := ⟨bm, 0, .pointer (some ⟨bh, 0, none⟩) :: (opad key).map byteV, 65⟩ :: X4) has_29 rfl (MSum_any _ bm key ((exS key info i).2 ++ info ++ [(UInt8.ofNat (i + 1))]) (⟨bm, 0, .pointer (some ⟨bh, 0, none⟩) :: (opad key).map byteV, 65⟩ :: X4) ⟨bh, X4, rfl, hx4⟩ (by rw [List.length_append, List.length_append, List.length_singleton]; omega)) (by repeat (first | exact Take.nil | apply Take.one (by repeat (first | exact Pick.here | apply Pick.there | apply Pick.far)) | apply Take.seg (by repeat (first | exact PickS.last | exact PickS.one | exact PickS.here | exact PickS.nil | apply PickS.there | apply PickS.far)) | exact Take.last (by repeat (first | exact PickS.last | exact PickS.one | exact PickS.here | exact PickS.nil | apply PickS.there | apply PickS.far)))) (fun v3 Y hY => ?_))
        obtain ⟨rfl, hzz⟩ := hY
        rw [hzz]
        simp only [List.cons_append]
        refine TL.cons rfl (T1.allocN 32 zr_26 rfl (fun b12 => ?_))
        refine TL.cons rfl (T1.storeN rfl rfl sz_26 (one_bytes _) (by repeat (first | exact Sub.one | apply Sub.there | apply Sub.far)) (by rw [List.length_map, hmac_len]; rfl) (by rw [List.length_map, hmac_len]) ?_)
        refine TL.nil ?_
        refine T.seq ?_
        refine T.region ?_
        refine TL.cons rfl (V1.t (V1.sliceA ty_26 sz_5 rfl rfl rfl (by decide) (by decide) (by decide)) ?_)
        refine TL.cons rfl (V1.t (V1.assign' (by (conv => lhs; whnf) <;> rfl)) ?_)
        refine TL.nil ?_
        refine T.region ?_
        refine TL.cons rfl (V1.t (V1.move' (by (conv => lhs; whnf) <;> rfl)) ?_)
        refine TL.cons rfl (V1.t (V1.move' (by (conv => lhs; whnf) <;> rfl)) ?_)
        refine TL.cons rfl (T1.append ty_22 kd_22 sz_5 by_5 zr_5 rfl (by decide) (by decide) rfl rfl hso (.sl (n := 32) (RdN.at0 (cells := (hmac key ((exS key info i).2 ++ info ++ [(UInt8.ofNat (i + 1))])).map byteV) (by repeat (first | exact Find.here | assumption | apply Find.there | apply Find.far))) (by rw [List.length_map, hmac_len])) (one_bytes _) 20000 (by simp only [List.length_map, hmac_len]; omega) (by omega) (by repeat (first | exact PickS.last | exact PickS.one | exact PickS.here | exact PickS.nil | apply PickS.there | apply PickS.far)) (fun s2 Ls2 hs2 => ?_))
        rw [← List.map_append] at hs2
        refine TL.cons rfl (V1.t (V1.assign' (by (conv => lhs; whnf) <;> rfl)) ?_)
        refine TL.nil ?_
        refine T.live (l := [(1, _), (2, _), (3, _), (8, _), (9, _), (10, _)]) (.cons (by (conv => lhs; whnf) <;> rfl) (.cons (by (conv => lhs; whnf) <;> rfl) (.cons (by (conv => lhs; whnf) <;> rfl) (.cons (by (conv => lhs; whnf) <;> rfl) (.cons (by (conv => lhs; whnf) <;> rfl) (.cons (by (conv => lhs; whnf) <;> rfl) .nil)))))) (fun e_ => ?_)
        refine T.region ?_
        refine TL.cons rfl (V1.t (V1.move' (by (conv => lhs; whnf) <;> rfl)) ?_)
        refine TL.cons rfl (V1.t (V1.addW (a := BitVec.ofNat 8 (i + 1)) (b := 1#8) u8U rfl rfl) ?_)
        refine TL.cons rfl (V1.t (V1.assign' (by (conv => lhs; whnf) <;> rfl)) ?_)
        refine TL.nil ?_
        exact ⟨(i + 1, s2, .slice (some ⟨b12, 0, none⟩) 32 32, Ls2, [⟨b12, 0, (hmac key ((exS key info i).2 ++ info ++ [(UInt8.ofNat (i + 1))])).map byteV, 32⟩]), _, _, (by simp only; omega), (.cons (congrArg (fun z : BitVec 8 => Value.int .u8 (z.toNat : Int)) (byte_next i)) (.cons rfl (.cons rfl .nil))), (.cons rfl (.cons rfl (.cons rfl .nil))), (by repeat (first | exact Take.nil | apply Take.one (by repeat (first | exact Pick.here | apply Pick.there | apply Pick.far)) | apply Take.seg (by repeat (first | exact PickS.last | exact PickS.one | exact PickS.here | exact PickS.nil | apply PickS.there | apply PickS.far)) | exact Take.last (by repeat (first | exact PickS.last | exact PickS.one | exact PickS.here | exact PickS.nil | apply PickS.there | apply PickS.far)))), ⟨rfl, hs2, .inr ⟨b12, 0, 32, 32, 32, rfl, by rw [List.length_map]; exact hmac_len _ _, by decide, by decide, rfl⟩, .inr (by simp only; omega)⟩⟩
      ·
        rw [hol] at h5_3
        have hin : i = (n + 31) / 32 := by omega
        refine TL.nil ?_
        refine T.cond_f rfl ?_
        refine T.exit ?_
        refine T.seq ?_
        refine T.region ?_
        refine TL.cons rfl (V1.t (V1.move' (by (conv => lhs; whnf) <;> rfl)) ?_)
        refine TL.cons rfl (V1.t (V1.move' (by (conv => lhs; whnf) <;> rfl)) ?_)
        refine TL.cons rfl (V1.t (V1.move' (by (conv => lhs; whnf) <;> rfl)) ?_)
        refine TL.cons rfl (T1.slice3 ty_22 sz_5 rfl hso (by repeat (first | exact PickS.last | exact PickS.one | exact PickS.here | exact PickS.nil | apply PickS.there | apply PickS.far)) rfl rfl (by rw [List.length_map]; omega) (fun s3 Ls3 hs3 => ?_))
        rw [← List.map_take, hin] at hs3
        refine TL.cons rfl (V1.t (V1.assign' (by (conv => lhs; whnf) <;> rfl)) ?_)
        refine TL.cons rfl (V1.t (V1.assign' (by (conv => lhs; whnf) <;> rfl)) ?_)
        refine TL.nil ?_
        refine T.ret ?_
        exact ⟨_, Ls3 ++ (Ps ++ G), _, .cons (.tmp (by (conv => lhs; whnf) <;> rfl)) (.cons (.tmp (by (conv => lhs; whnf) <;> rfl)) .nil), (by repeat (first | exact Take.nil | apply Take.one (by repeat (first | exact Pick.here | apply Pick.there | apply Pick.far)) | apply Take.seg (by repeat (first | exact PickS.last | exact PickS.one | exact PickS.here | exact PickS.nil | apply PickS.there | apply PickS.far)) | exact Take.last (by repeat (first | exact PickS.last | exact PickS.one | exact PickS.here | exact PickS.nil | apply PickS.there | apply PickS.far)))), Ls3 ++ Ps, by rw [List.append_assoc], .inr ⟨n, s3, Ls3, rfl, hn8, rfl, hs3, rfl⟩⟩

end Go.Proofs.Ytelcmllfojfbfaa.S
