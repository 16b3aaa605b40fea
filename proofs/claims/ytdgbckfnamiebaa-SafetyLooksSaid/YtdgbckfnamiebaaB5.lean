/- The groups of a name and its keys, as the document has them; both are the same. -/
import Derived.Test.YtdgbckfnamiebaaB4
namespace Go.Proofs.Ytdgbckfnamiebaa.S
open Go.RowKit

open Sh
/-- What stands in front, sum by sum. -/
def frH (rest : List UInt8) : Nat → List UInt8
  | 0 => frontS
  | k + 1 => ofH rest k
theorem frH_sum (rest : List UInt8) (r : Nat) : sha T512 (frH rest r ++ rest) = ofH rest r := by cases r <;> rfl
theorem frH_len (rest : List UInt8) (r : Nat) : (frH rest r).length ≤ 64 := by
  cases r with
  | zero => show frontS.length ≤ 64; decide
  | succ r => show (ofH rest r).length ≤ 64; rw [ofH_len]; exact Nat.le_refl _
theorem flat32 : ∀ l : List (List UInt8), (∀ k ∈ l, k.length = 32) → l.flatten.length = 32 * l.length
  | [], _ => rfl
  | a :: l, h => by rw [List.flatten_cons, List.length_append, flat32 l (fun k hk => h k (by simp [hk])), h a (by simp), List.length_cons]; omega
theorem V1.sliceToR {C : Ctx} {e : Env} {L : List Blk} {dst : Option Tmp} {ty : TypeId} {pos : String} {after : Array Edge} {guard : Option (Nat × Bool)} {t el : TypeId} {x : Operand} {lo hi : Option Operand} {w0 : World} {a : Option Addr} {n c kz : Nat} {vs : List Value} (h : Nat) (hT : C.P.underlying t = some (.slice el)) (hk : SizeIs C.P el kz) (hs : SlR w0 (.slice a n c) kz n vs) (hx : ev C.n e x = .slice a n c)
    (hl : bd C.n e lo 0 = some 0) (hh : bd C.n e hi n = some (h : Int)) (h1 : h ≤ n) : V1 C ⟨dst, .slice t x lo hi none, ty, pos, after, guard⟩ e L (.slice a h c) := by
  rcases hs with ⟨h0, rfl, rfl⟩ | ⟨b, o, c', h0, hle, hlen, hc⟩
  · cases h0
    obtain rfl : h = 0 := by omega
    exact V1.sliceNil hT hk hx hl hh
  · cases h0
    have := V1.sliceSl (dst := dst) (ty := ty) (pos := pos) (after := after) (guard := guard) (L := L) hT hk hx hl hh (by omega) (by omega) (by omega)
    simpa using this
theorem SlR.pre {w : World} {a : Option Addr} {k n c h : Nat} {vs : List Value} (hs : SlR w (.slice a n c) k n vs) (h1 : h ≤ n) : SlR w (.slice a h c) k h (vs.take (h * k)) := by
  rcases hs with ⟨h0, rfl, rfl⟩ | ⟨b, o, c', h0, hle, hlen, hc⟩
  · cases h0
    obtain rfl : h = 0 := by omega
    exact .inl ⟨rfl, rfl, by simp⟩
  · cases h0
    have := Nat.mul_le_mul_right k h1
    refine .inr ⟨b, o, c, rfl, by omega, by rw [List.length_take]; omega, ?_⟩
    intro i v hv
    rw [List.getElem?_take] at hv
    split at hv
    · exact hc i v hv
    · cases hv
theorem flat_take32 : ∀ (keys : List (List UInt8)) (h : Nat), (∀ k ∈ keys, k.length = 32) → keys.flatten.take (h * 32) = (keys.take h).flatten
  | [], h, _ => by simp
  | a :: keys, 0, _ => by simp
  | a :: keys, h + 1, hl => by
    have ha := hl a (by simp)
    rw [List.flatten_cons, List.take_succ_cons, List.flatten_cons, List.take_append, List.take_of_length_le (by omega), ha, show (h + 1) * 32 - 32 = h * 32 from by omega, flat_take32 keys h (fun k hk => hl k (by simp [hk]))]
theorem KeysR.old {w0 : World} {v : Value} {keys : List (List UInt8)} (h : SlR w0 v 32 keys.length (keys.flatten.map byteV)) (hl : ∀ k ∈ keys, k.length = 32) : KeysR w0 [] v keys :=
  ⟨h.form, hl, fun C h0 hm L _ => by subst h0; exact h.src hm⟩
theorem u32V_map (l : List Nat) : l.map u32V = (l.map fun n : Nat => (n : Int)).map (Value.int .u32) := by rw [List.map_map]; rfl
theorem V1.eqU32s {C : Ctx} {e : Env} {L : List Blk} {dst : Option Tmp} {ty : TypeId} {pos : String} {after : Array Edge} {guard : Option (Nat × Bool)} {t el yt : TypeId} {x y : Operand} {n : Nat} {l m : List Nat} {r : Bool} (hT : C.P.underlying t = some (.array n el)) (hE : C.P.underlying el = some (.int .u32)) (hk : SizeIs C.P el 1) (hg : Program.eqGuardType C.P C.P.depth t = false)
    (hx : ev C.n e x = .agg (l.map u32V).toArray) (hy : ev C.n e y = .agg (m.map u32V).toArray) (hxl : l.length = n) (hyl : m.length = n) (h : decide (l = m) = r) : V1 C ⟨dst, .binOp .eql t x y yt, ty, pos, after, guard⟩ e L (.bool r) :=
  V1.eqA (xs := l.map fun n : Nat => (n : Int)) (ys := m.map fun n : Nat => (n : Int)) hT hE hk hg (by rw [hx, u32V_map]) (by rw [hy, u32V_map]) (by simpa using hxl) (by simpa using hyl) (by
    rw [← h, decide_eq_decide]
    constructor
    · intro h'
      have hinj : Function.Injective (fun n : Nat => (n : Int)) := fun a b hab => Int.ofNat.inj hab
      exact (List.map_inj_right (fun a b hab => hinj hab)).1 h'
    · intro h'; rw [h'])

set_option maxRecDepth 100000 in
set_option maxHeartbeats 4000000 in
theorem refOf_any (w0 : World) (kv : Value) (name : List UInt8) (keys : List (List UInt8)) (Ps : List Blk) (hk : KeysR w0 Ps kv keys) (hn : name.length ≤ 1000000) (hkn : keys.length ≤ 1000) : FnX P 11 [.string (bstr name), kv] w0 [] Ps (fun v Y => v = .agg ((ofG (ofH (name ++ keys.flatten) 16)).map u32V).toArray ∧ Y = Ps) := by
  obtain ⟨ka, kc, rfl⟩ := hk.form
  have hfs : frontS.length = 13 := rfl
  have hfl32 := flat32 keys hk.each
  refine FnX.of 80 [.cell 4 26] Go.Proofs.Try.func11 rfl rfl rfl rfl (fun G => ?_)
  refine T.seq ?_
  refine T.region ?_
  refine TL.cons rfl (T1.allocN 6 zr_26 rfl (fun b4 => ?_))
  refine TL.nil ?_
  refine T.seq ?_
  refine T.region ?_
  refine TL.cons rfl (V1.t (V1.move' (by (conv => lhs; whnf) <;> rfl)) ?_)
  refine TL.cons rfl (V1.t (V1.assign' (by (conv => lhs; whnf) <;> rfl)) ?_)
  refine TL.nil ?_
  refine T.seq ?_
  refine T.seq ?_
  refine T.region ?_
  refine TL.cons rfl (V1.t (V1.assign' (by (conv => lhs; whnf) <;> rfl)) ?_)
  refine TL.nil ?_
  refine T.block ?_
  refine T.loopL (σ := Nat) (l0 := [(1, _), (4, _)]) (fun x => [(6, .int .i64 (x : Nat)), (5, .string (bstr (name ++ (keys.take x).flatten)))]) (fun x L => L = (⟨b4, 0, [.int .u32 0, .int .u32 0, .int .u32 0, .int .u32 0, .int .u32 0, .int .u32 0], 6⟩ : Blk) :: (Ps ++ G) ∧ x ≤ keys.length) (fun x => keys.length - x) 0 (.cons rfl (.cons (congrArg (fun q => Value.string (bstr q)) (by simp)) .nil)) (.cons (by (conv => lhs; whnf) <;> rfl) (.cons (by (conv => lhs; whnf) <;> rfl) .nil)) (by repeat (first | exact Take.nil | apply Take.one (by repeat (first | exact Pick.here | apply Pick.there | apply Pick.far)) | apply Take.seg (by repeat (first | exact PickS.last | exact PickS.one | exact PickS.here | exact PickS.nil | apply PickS.there | apply PickS.far)) | exact Take.last (by repeat (first | exact PickS.last | exact PickS.one | exact PickS.here | exact PickS.nil | apply PickS.there | apply PickS.far)))) (⟨rfl, Nat.zero_le _⟩) ?_
  rintro i e_ L ⟨rfl, hi⟩
  refine T.seq ?_
  refine T.seq ?_
  refine T.region ?_
  refine TL.cons rfl (V1.t (V1.move' (by (conv => lhs; whnf) <;> rfl)) ?_)
  refine TL.cons rfl (V1.t (V1.move' (by (conv => lhs; whnf) <;> rfl)) ?_)
  refine TL.cons rfl (V1.t (V1.lenSl ty_24 rfl) ?_)
  refine TL.cons rfl (T1.ltI_split rfl rfl (fun h3 => ?_) (fun h3 => ?_))
  ·
    obtain ⟨key, hkey⟩ : ∃ z, keys[i]? = some z := ⟨_, List.getElem?_eq_getElem (by omega)⟩
    have hk32 := hk.each key (List.mem_of_getElem? hkey)
    obtain ⟨ba_, oa_, rfl, hrd⟩ := hk.at (P := P) hkey
    have htk : (keys.take i).flatten.length ≤ 32 * i := by rw [flat32 _ (fun k h => hk.each k (List.mem_of_mem_take h)), List.length_take]; omega
    refine TL.nil ?_
    refine T.cond_t rfl ?_
    refine T.skip ?_
    refine T.seq ?_
    refine T.block ?_
    refine T.seq ?_
    refine T.region ?_
    refine TL.cons rfl (V1.t (V1.assign' (by (conv => lhs; whnf) <;> rfl)) ?_)
    refine TL.nil ?_
    refine T.block ?_
    refine T.loopL (σ := Nat) (l0 := [(1, _), (4, _), (6, _)]) (fun x => [(7, .int .i64 (x : Nat)), (5, .string (bstr (name ++ (keys.take i).flatten ++ key.take x)))]) (fun x L => L = (⟨b4, 0, [.int .u32 0, .int .u32 0, .int .u32 0, .int .u32 0, .int .u32 0, .int .u32 0], 6⟩ : Blk) :: (Ps ++ G) ∧ x ≤ 32) (fun x => 32 - x) 0 (.cons rfl (.cons (congrArg (fun q => Value.string (bstr q)) (by rw [List.take_zero, List.append_nil])) .nil)) (.cons (by (conv => lhs; whnf) <;> rfl) (.cons (by (conv => lhs; whnf) <;> rfl) (.cons (by (conv => lhs; whnf) <;> rfl) .nil))) (by repeat (first | exact Take.nil | apply Take.one (by repeat (first | exact Pick.here | apply Pick.there | apply Pick.far)) | apply Take.seg (by repeat (first | exact PickS.last | exact PickS.one | exact PickS.here | exact PickS.nil | apply PickS.there | apply PickS.far)) | exact Take.last (by repeat (first | exact PickS.last | exact PickS.one | exact PickS.here | exact PickS.nil | apply PickS.there | apply PickS.far)))) (⟨rfl, Nat.zero_le _⟩) ?_
    rintro k e_ L ⟨rfl, hkk⟩
    refine T.seq ?_
    refine T.seq ?_
    refine T.region ?_
    refine TL.cons rfl (V1.t (V1.move' (by (conv => lhs; whnf) <;> rfl)) ?_)
    refine TL.cons rfl (T1.ltI_split rfl rfl (fun h6 => ?_) (fun h6 => ?_))
    ·
      obtain ⟨x, hx⟩ : ∃ z, key[k]? = some z := ⟨_, List.getElem?_eq_getElem (by omega)⟩
      refine TL.nil ?_
      refine T.cond_t rfl ?_
      refine T.skip ?_
      refine T.seq ?_
      refine T.block ?_
      refine T.region ?_
      refine TL.cons rfl (V1.t (V1.move' (by (conv => lhs; whnf) <;> rfl)) ?_)
      refine TL.cons rfl (V1.t (V1.move' (by (conv => lhs; whnf) <;> rfl)) ?_)
      refine TL.cons rfl (V1.t (V1.move' (by (conv => lhs; whnf) <;> rfl)) ?_)
      refine TL.cons rfl (V1.t (V1.move' (by (conv => lhs; whnf) <;> rfl)) ?_)
      refine TL.cons rfl (V1.t (V1.indexAddrS ty_24 sz_36 rfl rfl (by omega) (by omega)) ?_)
      refine TL.cons rfl (V1.t (V1.indexAddrA ty_36 sz_5 rfl rfl (by omega) (by omega)) ?_)
      refine TL.cons rfl (V1.t (V1.load1 one_5 rfl (show Rd _ _ ⟨ba_, oa_ + i * 32 + k * 1, none⟩ (byteV x) from by rw [Nat.mul_one]; exact hrd _ rfl rfl _ (by intro B hB; simp only [List.mem_cons, List.mem_append]; simp [hB]) k _ (by rw [List.getElem?_map, hx]; rfl))) ?_)
      refine TL.cons rfl (T1.buildSl1 (os := [.tmp 33]) (vs := [byteV x]) ty_42 sz_5 zr_5 (by decide) rfl (.cons rfl .nil) rfl (ones rfl) (fun b34 => ?_))
      refine TL.cons rfl (V1.t (V1.bytesToStr (l := [x]) ty_42 ty_5 ty_9 rfl (.sl (n := 1) (RdN.at0 (cells := [byteV x]) (by repeat (first | exact Find.here | assumption | apply Find.there | apply Find.far))) rfl) (by intro b h; cases h)) ?_)
      refine TL.cons rfl (V1.t (V1.addB rfl rfl (by simp only [List.length_append, List.length_singleton, List.length_take]; omega)) ?_)
      refine TL.cons rfl (V1.t (V1.assign' (by (conv => lhs; whnf) <;> rfl)) ?_)
      refine TL.nil ?_
      refine T.region ?_
      refine TL.cons rfl (V1.t (V1.move' (by (conv => lhs; whnf) <;> rfl)) ?_)
      refine TL.cons rfl (V1.t (V1.add rfl rfl (wrap_i64 _ (by omega) (by omega))) ?_)
      refine TL.cons rfl (V1.t (V1.assign' (by (conv => lhs; whnf) <;> rfl)) ?_)
      refine TL.nil ?_
      exact ⟨k + 1, _, _, (by simp only; omega), (.cons rfl (.cons (congrArg (fun q => Value.string (bstr q)) (by rw [List.take_add_one, hx, List.append_assoc]; rfl)) .nil)), (.cons rfl (.cons rfl (.cons rfl .nil))), (by repeat (first | exact Take.nil | apply Take.one (by repeat (first | exact Pick.here | apply Pick.there | apply Pick.far)) | apply Take.seg (by repeat (first | exact PickS.last | exact PickS.one | exact PickS.here | exact PickS.nil | apply PickS.there | apply PickS.far)) | exact Take.last (by repeat (first | exact PickS.last | exact PickS.one | exact PickS.here | exact PickS.nil | apply PickS.there | apply PickS.far)))), ⟨rfl, by omega⟩⟩
    ·
      obtain rfl : k = 32 := by omega
      rw [show key.take 32 = key from List.take_of_length_le (by omega)]
      refine TL.nil ?_
      refine T.cond_f rfl ?_
      refine T.exit ?_
      refine T.region ?_
      refine TL.cons rfl (V1.t (V1.move' (by (conv => lhs; whnf) <;> rfl)) ?_)
      refine TL.cons rfl (V1.t (V1.add rfl rfl (wrap_i64 _ (by omega) (by omega))) ?_)
      refine TL.cons rfl (V1.t (V1.assign' (by (conv => lhs; whnf) <;> rfl)) ?_)
      refine TL.nil ?_
      exact ⟨i + 1, _, _, (by simp only; omega), (.cons rfl (.cons (congrArg (fun q => Value.string (bstr q)) (by rw [take_flat hkey, List.append_assoc])) .nil)), (.cons rfl (.cons rfl .nil)), (by repeat (first | exact Take.nil | apply Take.one (by repeat (first | exact Pick.here | apply Pick.there | apply Pick.far)) | apply Take.seg (by repeat (first | exact PickS.last | exact PickS.one | exact PickS.here | exact PickS.nil | apply PickS.there | apply PickS.far)) | exact Take.last (by repeat (first | exact PickS.last | exact PickS.one | exact PickS.here | exact PickS.nil | apply PickS.there | apply PickS.far)))), ⟨rfl, by omega⟩⟩
  ·
    obtain rfl : i = keys.length := by omega
    rw [List.take_length]
    refine TL.nil ?_
    refine T.cond_f rfl ?_
    refine T.exit ?_
    refine T.seq ?_
    refine T.region ?_
    refine TL.cons rfl (V1.t (V1.assign' (v := .string (bstr (frH (name ++ keys.flatten) 0))) rfl) ?_)
    refine TL.nil ?_
    refine T.seq ?_
    refine T.seq ?_
    refine T.region ?_
    refine TL.cons rfl (V1.t (V1.assign' (by (conv => lhs; whnf) <;> rfl)) ?_)
    refine TL.nil ?_
    refine T.block ?_
    refine T.loopL (σ := Nat) (l0 := [(4, _), (5, _)]) (fun x => [(9, .int .i64 (x : Nat)), (8, .string (bstr (frH (name ++ keys.flatten) x)))]) (fun x L => L = (⟨b4, 0, [.int .u32 0, .int .u32 0, .int .u32 0, .int .u32 0, .int .u32 0, .int .u32 0], 6⟩ : Blk) :: (Ps ++ G) ∧ x ≤ 17) (fun x => 17 - x) 0 (.cons rfl (.cons rfl .nil)) (.cons (by (conv => lhs; whnf) <;> rfl) (.cons (by (conv => lhs; whnf) <;> rfl) .nil)) (by repeat (first | exact Take.nil | apply Take.one (by repeat (first | exact Pick.here | apply Pick.there | apply Pick.far)) | apply Take.seg (by repeat (first | exact PickS.last | exact PickS.one | exact PickS.here | exact PickS.nil | apply PickS.there | apply PickS.far)) | exact Take.last (by repeat (first | exact PickS.last | exact PickS.one | exact PickS.here | exact PickS.nil | apply PickS.there | apply PickS.far)))) (⟨rfl, Nat.zero_le _⟩) ?_
    rintro r e_ L ⟨rfl, hr⟩
    refine T.seq ?_
    refine T.seq ?_
    refine T.region ?_
    refine TL.cons rfl (V1.t (V1.move' (by (conv => lhs; whnf) <;> rfl)) ?_)
    refine TL.cons rfl (T1.ltI_split rfl rfl (fun h11 => ?_) (fun h11 => ?_))
    ·
      have hfl := frH_len (name ++ keys.flatten) r
      refine TL.nil ?_
      refine T.cond_t rfl ?_
      refine T.skip ?_
      refine T.seq ?_
      refine T.block ?_
      refine T.seq ?_
      refine T.region ?_
      refine TL.cons rfl (V1.t (V1.move' (by (conv => lhs; whnf) <;> rfl)) ?_)
      refine TL.cons rfl (V1.t (V1.move' (by (conv => lhs; whnf) <;> rfl)) ?_)
      refine TL.cons rfl (V1.t (V1.addB rfl rfl (by simp only [List.length_append, hfl32]; omega)) ?_)
      refine TL.cons rfl (T1.call0 has_18 rfl (fun w hs => refSum512_any (frH (name ++ keys.flatten) r ++ (name ++ keys.flatten)) w (by simp only [List.length_append, hfl32]; omega)) (fun v hv => ?_))
      subst hv
      rw [frH_sum]
      refine TL.cons rfl (T1.allocN 64 zr_45 rfl (fun b10 => ?_))
      refine TL.cons rfl (T1.storeN (vs := (ofH (name ++ keys.flatten) r).map byteV) rfl rfl sz_45 (one_bytes _) (by repeat (first | exact Sub.one | apply Sub.there | apply Sub.far)) (by rw [List.length_map, ofH_len]; rfl) (by rw [List.length_map, ofH_len]) ?_)
      refine TL.nil ?_
      refine T.seq ?_
      refine T.region ?_
      refine TL.cons rfl (V1.t (V1.assign' (v := .string (bstr ((ofH (name ++ keys.flatten) r).take 0))) rfl) ?_)
      refine TL.nil ?_
      refine T.seq ?_
      refine T.region ?_
      refine TL.cons rfl (V1.t (V1.assign' (by (conv => lhs; whnf) <;> rfl)) ?_)
      refine TL.nil ?_
      refine T.block ?_
      refine T.loopL (σ := Nat) (l0 := [(4, _), (5, _), (9, _), (10, _)]) (fun x => [(11, .int .i64 (x : Nat)), (8, .string (bstr ((ofH (name ++ keys.flatten) r).take x)))]) (fun x L => L = ⟨b10, 0, (ofH (name ++ keys.flatten) r).map byteV, 64⟩ :: (⟨b4, 0, [.int .u32 0, .int .u32 0, .int .u32 0, .int .u32 0, .int .u32 0, .int .u32 0], 6⟩ : Blk) :: (Ps ++ G) ∧ x ≤ 64) (fun x => 64 - x) 0 (.cons rfl (.cons rfl .nil)) (.cons (by (conv => lhs; whnf) <;> rfl) (.cons (by (conv => lhs; whnf) <;> rfl) (.cons (by (conv => lhs; whnf) <;> rfl) (.cons (by (conv => lhs; whnf) <;> rfl) .nil)))) (by repeat (first | exact Take.nil | apply Take.one (by repeat (first | exact Pick.here | apply Pick.there | apply Pick.far)) | apply Take.seg (by repeat (first | exact PickS.last | exact PickS.one | exact PickS.here | exact PickS.nil | apply PickS.there | apply PickS.far)) | exact Take.last (by repeat (first | exact PickS.last | exact PickS.one | exact PickS.here | exact PickS.nil | apply PickS.there | apply PickS.far)))) (⟨rfl, Nat.zero_le _⟩) ?_
      rintro k e_ L ⟨rfl, hkk⟩
      refine T.seq ?_
      refine T.seq ?_
      refine T.region ?_
      refine TL.cons rfl (V1.t (V1.move' (by (conv => lhs; whnf) <;> rfl)) ?_)
      refine TL.cons rfl (T1.ltI_split rfl rfl (fun h16 => ?_) (fun h16 => ?_))
      ·
        obtain ⟨x, hx⟩ : ∃ z, (ofH (name ++ keys.flatten) r)[k]? = some z := ⟨_, List.getElem?_eq_getElem (by rw [ofH_len]; omega)⟩
        refine TL.nil ?_
        refine T.cond_t rfl ?_
        refine T.skip ?_
        refine T.seq ?_
        refine T.block ?_
        refine T.region ?_
        refine TL.cons rfl (V1.t (V1.move' (by (conv => lhs; whnf) <;> rfl)) ?_)
        refine TL.cons rfl (V1.t (V1.move' (by (conv => lhs; whnf) <;> rfl)) ?_)
        refine TL.cons rfl (V1.t (V1.indexAddrA ty_45 sz_5 rfl rfl (by omega) (by omega)) ?_)
        refine TL.cons rfl (V1.t (V1.load1 one_5 rfl (show Rd _ _ ⟨b10, 0 + k * 1, none⟩ (byteV x) from by rw [Nat.mul_one]; exact Rd.at (cells := (ofH (name ++ keys.flatten) r).map byteV) (by repeat (first | exact Find.here | assumption | apply Find.there | apply Find.far)) (by rw [List.getElem?_map, hx]; rfl))) ?_)
        refine TL.cons rfl (T1.buildSl1 (os := [.tmp 52]) (vs := [byteV x]) ty_42 sz_5 zr_5 (by decide) rfl (.cons rfl .nil) rfl (ones rfl) (fun b53 => ?_))
        refine TL.cons rfl (V1.t (V1.bytesToStr (l := [x]) ty_42 ty_5 ty_9 rfl (.sl (n := 1) (RdN.at0 (cells := [byteV x]) (by repeat (first | exact Find.here | assumption | apply Find.there | apply Find.far))) rfl) (by intro b h; cases h)) ?_)
        refine TL.cons rfl (V1.t (V1.addB rfl rfl (by simp only [List.length_singleton, List.length_take, ofH_len]; omega)) ?_)
        refine TL.cons rfl (V1.t (V1.assign' (by (conv => lhs; whnf) <;> rfl)) ?_)
        refine TL.nil ?_
        refine T.region ?_
        refine TL.cons rfl (V1.t (V1.move' (by (conv => lhs; whnf) <;> rfl)) ?_)
        refine TL.cons rfl (V1.t (V1.add rfl rfl (wrap_i64 _ (by omega) (by omega))) ?_)
        refine TL.cons rfl (V1.t (V1.assign' (by (conv => lhs; whnf) <;> rfl)) ?_)
        refine TL.nil ?_
        exact ⟨k + 1, _, _, (by simp only; omega), (.cons rfl (.cons (congrArg (fun q => Value.string (bstr q)) (by rw [List.take_add_one, hx]; rfl)) .nil)), (.cons rfl (.cons rfl (.cons rfl (.cons rfl .nil)))), (by repeat (first | exact Take.nil | apply Take.one (by repeat (first | exact Pick.here | apply Pick.there | apply Pick.far)) | apply Take.seg (by repeat (first | exact PickS.last | exact PickS.one | exact PickS.here | exact PickS.nil | apply PickS.there | apply PickS.far)) | exact Take.last (by repeat (first | exact PickS.last | exact PickS.one | exact PickS.here | exact PickS.nil | apply PickS.there | apply PickS.far)))), ⟨rfl, by omega⟩⟩
      ·
        obtain rfl : k = 64 := by omega
        rw [show (ofH (name ++ keys.flatten) r).take 64 = ofH (name ++ keys.flatten) r from List.take_of_length_le (by rw [ofH_len]; exact Nat.le_refl _)]
        refine TL.nil ?_
        refine T.cond_f rfl ?_
        refine T.exit ?_
        refine T.region ?_
        refine TL.cons rfl (V1.t (V1.move' (by (conv => lhs; whnf) <;> rfl)) ?_)
        refine TL.cons rfl (V1.t (V1.add rfl rfl (wrap_i64 _ (by omega) (by omega))) ?_)
        refine TL.cons rfl (V1.t (V1.assign' (by (conv => lhs; whnf) <;> rfl)) ?_)
        refine TL.nil ?_
        exact ⟨r + 1, _, _, (by simp only; omega), (.cons rfl (.cons rfl .nil)), (.cons rfl (.cons rfl .nil)), (by repeat (first | exact Take.nil | apply Take.one (by repeat (first | exact Pick.here | apply Pick.there | apply Pick.far)) | apply Take.seg (by repeat (first | exact PickS.last | exact PickS.one | exact PickS.here | exact PickS.nil | apply PickS.there | apply PickS.far)) | exact Take.last (by repeat (first | exact PickS.last | exact PickS.one | exact PickS.here | exact PickS.nil | apply PickS.there | apply PickS.far)))), ⟨rfl, by omega⟩⟩
    ·
      obtain rfl : r = 17 := by omega
      have hHl := ofH_len (name ++ keys.flatten) 16
      refine TL.nil ?_
      refine T.cond_f rfl ?_
      refine T.exit ?_
      refine T.seq ?_
      refine T.region ?_
      refine TL.cons rfl (T1.allocN 6 zr_26 rfl (fun b12 => ?_))
      refine TL.nil ?_
      refine T.seq ?_
      refine T.seq ?_
      refine T.region ?_
      refine TL.cons rfl (V1.t (V1.assign' (by (conv => lhs; whnf) <;> rfl)) ?_)
      refine TL.nil ?_
      refine T.block ?_
      refine T.loopL (σ := Nat) (l0 := [(4, _), (8, _), (12, _)]) (fun x => [(13, .int .i64 (x : Nat))]) (fun x L => L = ⟨b12, 0, ((ofG (ofH (name ++ keys.flatten) 16)).take x).map u32V ++ List.replicate (6 - x) (.int .u32 0), 6⟩ :: (⟨b4, 0, [.int .u32 0, .int .u32 0, .int .u32 0, .int .u32 0, .int .u32 0, .int .u32 0], 6⟩ : Blk) :: (Ps ++ G) ∧ x ≤ 6) (fun x => 6 - x) 0 (.cons rfl .nil) (.cons (by (conv => lhs; whnf) <;> rfl) (.cons (by (conv => lhs; whnf) <;> rfl) (.cons (by (conv => lhs; whnf) <;> rfl) .nil))) (by repeat (first | exact Take.nil | apply Take.one (by repeat (first | exact Pick.here | apply Pick.there | apply Pick.far)) | apply Take.seg (by repeat (first | exact PickS.last | exact PickS.one | exact PickS.here | exact PickS.nil | apply PickS.there | apply PickS.far)) | exact Take.last (by repeat (first | exact PickS.last | exact PickS.one | exact PickS.here | exact PickS.nil | apply PickS.there | apply PickS.far)))) (⟨rfl, Nat.zero_le _⟩) ?_
      rintro i e_ L ⟨rfl, hi⟩
      refine T.seq ?_
      refine T.seq ?_
      refine T.region ?_
      refine TL.cons rfl (V1.t (V1.move' (by (conv => lhs; whnf) <;> rfl)) ?_)
      refine TL.cons rfl (T1.ltI_split rfl rfl (fun h21 => ?_) (fun h21 => ?_))
      ·
        have hql : (((ofH (name ++ keys.flatten) 16).drop (5 * i)).take 5).length = 5 := by rw [List.length_take, List.length_drop, ofH_len]; omega
        refine TL.nil ?_
        refine T.cond_t rfl ?_
        refine T.skip ?_
        refine T.seq ?_
        refine T.block ?_
        refine T.seq ?_
        refine T.region ?_
        refine TL.cons rfl (V1.t (V1.assign' (by (conv => lhs; whnf) <;> rfl)) ?_)
        refine TL.nil ?_
        refine T.seq ?_
        refine T.seq ?_
        refine T.region ?_
        refine TL.cons rfl (V1.t (V1.assign' (by (conv => lhs; whnf) <;> rfl)) ?_)
        refine TL.nil ?_
        refine T.block ?_
        refine T.loopL (σ := Nat) (l0 := [(4, _), (8, _), (12, _), (13, _)]) (fun x => [(15, .int .i64 (x : Nat)), (14, .int .i64 (be ((((ofH (name ++ keys.flatten) 16).drop (5 * i)).take 5).take x) : Nat))]) (fun x L => L = ⟨b12, 0, ((ofG (ofH (name ++ keys.flatten) 16)).take i).map u32V ++ List.replicate (6 - i) (.int .u32 0), 6⟩ :: (⟨b4, 0, [.int .u32 0, .int .u32 0, .int .u32 0, .int .u32 0, .int .u32 0, .int .u32 0], 6⟩ : Blk) :: (Ps ++ G) ∧ x ≤ 5) (fun x => 5 - x) 0 (.cons rfl (.cons rfl .nil)) (.cons (by (conv => lhs; whnf) <;> rfl) (.cons (by (conv => lhs; whnf) <;> rfl) (.cons (by (conv => lhs; whnf) <;> rfl) (.cons (by (conv => lhs; whnf) <;> rfl) .nil)))) (by repeat (first | exact Take.nil | apply Take.one (by repeat (first | exact Pick.here | apply Pick.there | apply Pick.far)) | apply Take.seg (by repeat (first | exact PickS.last | exact PickS.one | exact PickS.here | exact PickS.nil | apply PickS.there | apply PickS.far)) | exact Take.last (by repeat (first | exact PickS.last | exact PickS.one | exact PickS.here | exact PickS.nil | apply PickS.there | apply PickS.far)))) (⟨rfl, Nat.zero_le _⟩) ?_
        rintro c e_ L ⟨rfl, hc⟩
        refine T.seq ?_
        refine T.seq ?_
        refine T.region ?_
        refine TL.cons rfl (V1.t (V1.move' (by (conv => lhs; whnf) <;> rfl)) ?_)
        refine TL.cons rfl (T1.ltI_split rfl rfl (fun h25 => ?_) (fun h25 => ?_))
        ·
          obtain ⟨x, hx⟩ : ∃ z, (((ofH (name ++ keys.flatten) 16).drop (5 * i)).take 5)[c]? = some z := ⟨_, List.getElem?_eq_getElem (by omega)⟩
          have hxH : (ofH (name ++ keys.flatten) 16)[5 * i + c]? = some x := by rw [List.getElem?_take, if_pos (by omega), List.getElem?_drop] at hx; exact hx
          have hx8 := x.toNat_lt
          have hbc := be5 ((((ofH (name ++ keys.flatten) 16).drop (5 * i)).take 5).take c) (by rw [List.length_take]; omega)
          refine TL.nil ?_
          refine T.cond_t rfl ?_
          refine T.skip ?_
          refine T.seq ?_
          refine T.block ?_
          refine T.region ?_
          refine TL.cons rfl (V1.t (V1.move' (by (conv => lhs; whnf) <;> rfl)) ?_)
          refine TL.cons rfl (V1.t (V1.mul (c := ((be ((((ofH (name ++ keys.flatten) 16).drop (5 * i)).take 5).take c) * 256 : Nat) : Int)) rfl rfl (by rw [wrap_i64 _ (by omega) (by omega)]; omega)) ?_)
          refine TL.cons rfl (V1.t (V1.move' (by (conv => lhs; whnf) <;> rfl)) ?_)
          refine TL.cons rfl (V1.t (V1.move' (by (conv => lhs; whnf) <;> rfl)) ?_)
          refine TL.cons rfl (V1.t (V1.mul rfl rfl (wrap_i64 _ (by omega) (by omega))) ?_)
          refine TL.cons rfl (V1.t (V1.move' (by (conv => lhs; whnf) <;> rfl)) ?_)
          refine TL.cons rfl (V1.t (V1.add rfl rfl (wrap_i64 _ (by omega) (by omega))) ?_)
          refine TL.cons rfl (V1.t (V1.indexStr (s := bstr (ofH (name ++ keys.flatten) 16)) (c := x) ty_9 rfl rfl (by omega) (by rw [show (5 * (i : Int) + (c : Int)).toNat = 5 * i + c from by omega]; exact bstr_get hxH)) ?_)
          refine TL.cons rfl (V1.t (V1.conv ty_5 ty_3 rfl (wrap_i64 _ (by omega) (by omega))) ?_)
          refine TL.cons rfl (V1.t (V1.add (c := ((be ((((ofH (name ++ keys.flatten) 16).drop (5 * i)).take 5).take c) * 256 + x.toNat : Nat) : Int)) rfl rfl (by rw [wrap_i64 _ (by omega) (by omega)]; omega)) ?_)
          refine TL.cons rfl (V1.t (V1.assign' (by (conv => lhs; whnf) <;> rfl)) ?_)
          refine TL.nil ?_
          refine T.region ?_
          refine TL.cons rfl (V1.t (V1.move' (by (conv => lhs; whnf) <;> rfl)) ?_)
          refine TL.cons rfl (V1.t (V1.add rfl rfl (wrap_i64 _ (by omega) (by omega))) ?_)
          refine TL.cons rfl (V1.t (V1.assign' (by (conv => lhs; whnf) <;> rfl)) ?_)
          refine TL.nil ?_
          exact ⟨c + 1, _, _, (by simp only; omega), (.cons rfl (.cons (congrArg (fun z : Nat => Value.int .i64 (z : Int)) (be_take hx).symm) .nil)), (.cons rfl (.cons rfl (.cons rfl (.cons rfl .nil)))), (by repeat (first | exact Take.nil | apply Take.one (by repeat (first | exact Pick.here | apply Pick.there | apply Pick.far)) | apply Take.seg (by repeat (first | exact PickS.last | exact PickS.one | exact PickS.here | exact PickS.nil | apply PickS.there | apply PickS.far)) | exact Take.last (by repeat (first | exact PickS.last | exact PickS.one | exact PickS.here | exact PickS.nil | apply PickS.there | apply PickS.far)))), ⟨rfl, by omega⟩⟩
        ·
          obtain rfl : c = 5 := by omega
          rw [show (((ofH (name ++ keys.flatten) 16).drop (5 * i)).take 5).take 5 = (((ofH (name ++ keys.flatten) 16).drop (5 * i)).take 5) from List.take_of_length_le (by omega)]
          have hb5 := be5 (((ofH (name ++ keys.flatten) 16).drop (5 * i)).take 5) (by omega)
          obtain ⟨bq, hbq⟩ : ∃ z, z = be (((ofH (name ++ keys.flatten) 16).drop (5 * i)).take 5) := ⟨_, rfl⟩
          rw [← hbq] at hb5 ⊢
          refine TL.nil ?_
          refine T.cond_f rfl ?_
          refine T.exit ?_
          refine T.region ?_
          refine TL.cons rfl (V1.t (V1.move' (by (conv => lhs; whnf) <;> rfl)) ?_)
          refine TL.cons rfl (V1.t (V1.move' (by (conv => lhs; whnf) <;> rfl)) ?_)
          refine TL.cons rfl (V1.t (V1.rem (c := ((bq % 100000 : Nat) : Int)) rfl rfl (by decide) (tmodM _ 100000)) ?_)
          refine TL.cons rfl (V1.t (V1.conv (c := ((bq % 100000 : Nat) : Int)) ty_3 ty_25 rfl (wrapN_u32 (by omega))) ?_)
          refine TL.cons rfl (V1.t (V1.indexAddrA ty_26 sz_25 rfl rfl (by omega) (by omega)) ?_)
          refine TL.cons rfl (T1.storeE (o := 0 + i * 1) (cells := ((ofG (ofH (name ++ keys.flatten) 16)).take i).map u32V ++ List.replicate (6 - i) (.int .u32 0)) (cells' := ((ofG (ofH (name ++ keys.flatten) 16)).take (i + 1)).map u32V ++ List.replicate (6 - (i + 1)) (.int .u32 0)) (v := u32V ((ofG (ofH (name ++ keys.flatten) 16)).getD i 0)) rfl (congrArg (fun z : Nat => Value.int .u32 (z : Int)) (by rw [ofG_get (by omega), hbq])) sz_25 rfl (by rw [show 0 + i * 1 - 0 = i from by omega]; exact fill_set 0 (ofG_len _) (by omega)) (by repeat (first | exact Sub.one | apply Sub.there | apply Sub.far)) (Nat.zero_le _) (by rw [List.length_append, List.length_map, List.length_take, List.length_replicate, ofG_len]; omega) ?_)
          refine TL.nil ?_
          refine T.region ?_
          refine TL.cons rfl (V1.t (V1.move' (by (conv => lhs; whnf) <;> rfl)) ?_)
          refine TL.cons rfl (V1.t (V1.add rfl rfl (wrap_i64 _ (by omega) (by omega))) ?_)
          refine TL.cons rfl (V1.t (V1.assign' (by (conv => lhs; whnf) <;> rfl)) ?_)
          refine TL.nil ?_
          exact ⟨i + 1, _, _, (by simp only; omega), (.cons rfl .nil), (.cons rfl (.cons rfl (.cons rfl .nil))), (by repeat (first | exact Take.nil | apply Take.one (by repeat (first | exact Pick.here | apply Pick.there | apply Pick.far)) | apply Take.seg (by repeat (first | exact PickS.last | exact PickS.one | exact PickS.here | exact PickS.nil | apply PickS.there | apply PickS.far)) | exact Take.last (by repeat (first | exact PickS.last | exact PickS.one | exact PickS.here | exact PickS.nil | apply PickS.there | apply PickS.far)))), ⟨rfl, by omega⟩⟩
      ·
        obtain rfl : i = 6 := by omega
        rw [fill_end (ofG_len _)]
        refine TL.nil ?_
        refine T.cond_f rfl ?_
        refine T.exit ?_
        refine T.seq ?_
        refine T.region ?_
        refine TL.cons rfl (V1.t (V1.loadN (vs := (ofG (ofH (name ++ keys.flatten) 16)).map u32V) one_26 sz_26 rfl (RdN.whole (by repeat (first | exact Find.here | assumption | apply Find.there | apply Find.far))) (by rw [List.length_map, ofG_len])) ?_)
        refine TL.cons rfl (T1.storeN (vs := (ofG (ofH (name ++ keys.flatten) 16)).map u32V) rfl rfl sz_26 (ones_u32 _) (by repeat (first | exact Sub.one | apply Sub.there | apply Sub.far)) (by rw [List.length_map, ofG_len]; rfl) (by rw [List.length_map, ofG_len]) ?_)
        refine TL.nil ?_
        refine T.ret ?_
        exact ⟨_, Ps ++ G, _, .cons (.cellN (by (conv => lhs; whnf) <;> rfl) one_26 sz_26 (RdN.whole (cells := (ofG (ofH (name ++ keys.flatten) 16)).map u32V) (by repeat (first | exact Find.here | assumption | apply Find.there | apply Find.far))) (by rw [List.length_map, ofG_len])) .nil, (by repeat (first | exact Take.nil | apply Take.one (by repeat (first | exact Pick.here | apply Pick.there | apply Pick.far)) | apply Take.seg (by repeat (first | exact PickS.last | exact PickS.one | exact PickS.here | exact PickS.nil | apply PickS.there | apply PickS.far)) | exact Take.last (by repeat (first | exact PickS.last | exact PickS.one | exact PickS.here | exact PickS.nil | apply PickS.there | apply PickS.far)))), Ps, rfl, rfl, rfl⟩

set_option maxRecDepth 100000 in
set_option maxHeartbeats 2000000 in
theorem SafetyGroups_any (v1 : Value) (l : List UInt8) (keys : List (List UInt8)) (w0 : World) (hk : SlR w0 v1 32 keys.length (keys.flatten.map byteV)) (he : ∀ k ∈ keys, k.length = 32) : Fn P 4 [.string (bstr l), v1] w0 [] (fun v _ => v = .bool true) := by
  obtain ⟨ka, kc, rfl⟩ := hk.form
  refine Fn.of 24 [.tmp 4] Go.Proofs.Try.func4 rfl rfl rfl rfl ?_
  refine T.seq ?_
  refine T.region ?_
  refine TL.cons rfl (V1.t (V1.assign' (by (conv => lhs; whnf) <;> rfl)) ?_)
  refine TL.nil ?_
  refine T.seq ?_
  refine T.seq ?_
  refine T.region ?_
  refine TL.cons rfl (T1.call0 has_7 rfl (fun w hs => writes_any w) (fun v hv => ?_))
  subst hv
  refine TL.cons rfl (V1.t (V1.not rfl rfl) ?_)
  refine TL.nil ?_
  refine T.cond_f rfl ?_
  refine T.skip ?_
  refine T.seq ?_
  refine T.drawR mixed ?_
  refine TD.takeR 0 rfl (by decide +kernel) (by decide +kernel) (by decide +kernel) rfl (fun _ _ _ h => h) (V1.move' (by (conv => lhs; whnf) <;> rfl)) ?_
  refine TD.takeR 1 rfl (by decide +kernel) (by decide +kernel) (by decide +kernel) rfl (fun _ _ _ h => h) (V1.move' (by (conv => lhs; whnf) <;> rfl)) ?_
  refine TD.takeR 2 rfl (by decide +kernel) (by decide +kernel) (by decide +kernel) rfl (fun _ _ _ h => h) (V1.lenS ty_9 rfl) ?_
  refine TD.takeR 3 rfl (by decide +kernel) (by decide +kernel) (by decide +kernel) rfl (fun _ _ _ h => h) (V1.min2 (c := ((min l.length 100 : Nat) : Int)) rfl rfl (by show min ((l.length : Nat) : Int) 100 = _; omega)) ?_
  refine TD.takeR 4 rfl (by decide +kernel) (by decide +kernel) (by decide +kernel) rfl (fun _ _ _ h => h) (V1.sliceB (s := l) 0 (min l.length 100) ty_9 rfl rfl rfl (Nat.zero_le _) (Nat.min_le_left _ _)) ?_
  obtain ⟨m, hm⟩ : ∃ z, z = (l.drop 0).take (min l.length 100 - 0) := ⟨_, rfl⟩
  have hml : m.length ≤ 100 := by rw [hm, List.length_take]; omega
  rw [← hm]
  refine TD.takeR 5 rfl (by decide +kernel) (by decide +kernel) (by decide +kernel) rfl (fun _ _ _ h => h) (V1.move' (by (conv => lhs; whnf) <;> rfl)) ?_
  refine TD.takeR 6 rfl (by decide +kernel) (by decide +kernel) (by decide +kernel) rfl (fun _ _ _ h => h) (V1.move' (by (conv => lhs; whnf) <;> rfl)) ?_
  refine TD.takeR 7 rfl (by decide +kernel) (by decide +kernel) (by decide +kernel) rfl (fun _ _ _ h => h) (V1.lenSl ty_24 rfl) ?_
  refine TD.takeR 8 rfl (by decide +kernel) (by decide +kernel) (by decide +kernel) rfl (fun _ _ _ h => h) (V1.min2 (c := ((min keys.length 4 : Nat) : Int)) rfl rfl (by omega)) ?_
  refine TD.takeR 9 rfl (by decide +kernel) (by decide +kernel) (by decide +kernel) rfl (fun _ _ _ h => h) (V1.sliceToR (min keys.length 4) ty_24 sz_36 hk rfl rfl rfl (Nat.min_le_left _ _)) ?_
  refine TD.takeR 10 rfl (by decide +kernel) (by decide +kernel) (by decide +kernel) rfl (fun _ _ _ h => h) (V1.assign' (by (conv => lhs; whnf) <;> rfl)) ?_
  refine TD.takeR 11 rfl (by decide +kernel) (by decide +kernel) (by decide +kernel) rfl (fun _ _ _ h => h) (V1.assign' rfl) ?_
  have hk4 := hk.pre (h := min keys.length 4) (Nat.min_le_left _ _)
  rw [← List.map_take, flat_take32 _ _ he] at hk4
  obtain ⟨ks, hks⟩ : ∃ z, z = keys.take (min keys.length 4) := ⟨_, rfl⟩
  have hksl : ks.length = min keys.length 4 := by rw [hks, List.length_take]; omega
  rw [← hks, ← hksl] at hk4
  rw [← hksl]
  have hKR := KeysR.old hk4 (fun k h => he k (by rw [hks] at h; exact List.mem_of_mem_take h))
  refine TD.done (by decide +kernel) ?_
  refine T.seq ?_
  refine T.live (l := [(0, _), (1, _)]) (.cons (by (conv => lhs; whnf) <;> rfl) (.cons (by (conv => lhs; whnf) <;> rfl) .nil)) (fun e_ => ?_)
  refine T.region ?_
  refine TL.cons rfl (V1.t (V1.move' (by (conv => lhs; whnf) <;> rfl)) ?_)
  refine TL.cons rfl (V1.t (V1.move' (by (conv => lhs; whnf) <;> rfl)) ?_)
  refine TL.cons rfl (T1.callX (X := []) has_10 rfl (Of_any _ _ m ks [] hKR (by omega) (by omega)) Take.nil (fun v Y hY => ?_))
  obtain ⟨rfl, hzz⟩ := hY
  rw [hzz, List.nil_append]
  refine TL.cons rfl (V1.t (V1.move' (by (conv => lhs; whnf) <;> rfl)) ?_)
  refine TL.cons rfl (V1.t (V1.move' (by (conv => lhs; whnf) <;> rfl)) ?_)
  refine TL.cons rfl (T1.callX (X := []) has_11 rfl (refOf_any _ _ m ks [] hKR (by omega) (by omega)) Take.nil (fun v Y hY => ?_))
  obtain ⟨rfl, hzz⟩ := hY
  rw [hzz, List.nil_append]
  refine TL.cons rfl (V1.t (V1.eqU32s (r := true) ty_26 ty_25 sz_25 eg_26 rfl rfl (ofG_len _) (ofG_len _) (by simp)) ?_)
  refine TL.cons rfl (V1.t (V1.assign' (by (conv => lhs; whnf) <;> rfl)) ?_)
  refine TL.nil ?_
  refine T.ret ?_
  exact ⟨_, [], _, .cons (.tmp (by (conv => lhs; whnf) <;> rfl)) .nil, Take.nil, rfl⟩

end Go.Proofs.Ytdgbckfnamiebaa.S
