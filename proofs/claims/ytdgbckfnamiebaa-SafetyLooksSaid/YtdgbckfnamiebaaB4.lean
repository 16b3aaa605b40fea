/- The groups of a name and its keys. -/
import Derived.Test.YtdgbckfnamiebaaSB
import Derived.Test.YtdgbckfnamiebaaB3
import Derived.Test.YtdgbckfnamiebaaCellSpec
namespace Go.Proofs.Ytdgbckfnamiebaa.S
open Go.RowKit

open Sh
def frontS : List UInt8 := [115, 105, 103, 110, 101, 116, 32, 115, 97, 102, 101, 116, 121]
/-- What a name and its keys come to, summed again and again. -/
def ofH (rest : List UInt8) : Nat → List UInt8
  | 0 => sha T512 (frontS ++ rest)
  | k + 1 => sha T512 (ofH rest k ++ rest)
theorem ofH_len (rest : List UInt8) (k : Nat) : (ofH rest k).length = 64 := by cases k <;> exact sha_len _ _
def ofG (h : List UInt8) : List Nat := (List.range 6).map fun i => be ((h.drop (5 * i)).take 5) % 100000
theorem ofG_len (h : List UInt8) : (ofG h).length = 6 := by simp [ofG]
theorem ofG_get {h : List UInt8} {i : Nat} (hi : i < 6) : (ofG h).getD i 0 = be ((h.drop (5 * i)).take 5) % 100000 := by
  rw [List.getD_eq_getElem?_getD, ofG, List.getElem?_map, List.getElem?_range hi]; rfl
/-- Keys: thirty-two bytes each, one behind the other. -/
structure KeysR (w0 : World) (Ps : List Blk) (v : Value) (keys : List (List UInt8)) : Prop where
  form : ∃ a c, v = .slice a keys.length c
  each : ∀ k ∈ keys, k.length = 32
  src : ∀ C : Ctx, C.w0 = w0 → C.M = [] → ∀ L, (∀ B ∈ Ps, B ∈ L) → Src C L 32 v keys.length (keys.flatten.map byteV)
theorem flat_at : ∀ (keys : List (List UInt8)), (∀ k ∈ keys, k.length = 32) → ∀ (k i : Nat) (key : List UInt8) (x : UInt8), keys[k]? = some key → key[i]? = some x → keys.flatten[k * 32 + i]? = some x
  | [], _, k, i, key, x, h, _ => by simp at h
  | a :: keys, hl, 0, i, key, x, h, hx => by
    simp only [List.getElem?_cons_zero, Option.some.injEq] at h
    subst h
    rw [List.flatten_cons, Nat.zero_mul, Nat.zero_add, List.getElem?_append_left (List.getElem?_eq_some_iff.1 hx).1]; exact hx
  | a :: keys, hl, k + 1, i, key, x, h, hx => by
    have ha := hl a (by simp)
    rw [List.flatten_cons, List.getElem?_append_right (by omega), ha, show (k + 1) * 32 + i - 32 = k * 32 + i from by omega]
    exact flat_at keys (fun q hq => hl q (by simp [hq])) k i key x (by simpa using h) hx
theorem KeysR.at {P : Program} {w0 : World} {Ps : List Blk} {a : Option Addr} {n c : Nat} {keys : List (List UInt8)} (h : KeysR w0 Ps (.slice a n c) keys) {k : Nat} {key : List UInt8} (hk : keys[k]? = some key) :
    ∃ b o, a = some ⟨b, o, none⟩ ∧ ∀ C : Ctx, C.w0 = w0 → C.M = [] → ∀ L, (∀ B ∈ Ps, B ∈ L) → RdN C L ⟨b, o + k * 32, none⟩ (key.map byteV) := by
  have hkl := (List.getElem?_eq_some_iff.1 hk).1
  obtain ⟨b, o, rfl⟩ : ∃ b o, a = some ⟨b, o, none⟩ := by
    rcases (h.src ⟨P, w0, [], 0⟩ rfl rfl Ps (fun _ h => h)).inv _ _ _ rfl with h0 | ⟨b, o, h0, _⟩
    · omega
    · exact ⟨b, o, h0⟩
  refine ⟨b, o, rfl, fun C h0 hm L hL i v hv => ?_⟩
  rcases (h.src C h0 hm L hL).inv _ _ _ rfl with h0 | ⟨b', o', h0, hr⟩
  · omega
  · cases h0
    rw [List.getElem?_map] at hv
    obtain ⟨x, hx, rfl⟩ := Option.map_eq_some_iff.1 hv
    have := hr (k * 32 + i) (byteV x) (by rw [List.getElem?_map, flat_at keys h.each k i key x hk hx]; rfl)
    rw [← Nat.add_assoc] at this
    exact this
theorem PartsR.blk {w0 : World} {Ps : List Blk} {b off : Nat} {svs : List Value} {ps : List (List UInt8)} {c size : Nat} (hB : (⟨b, off, svs, size⟩ : Blk) ∈ Ps) (hl : svs.length = ps.length) (h : ∀ (i : Nat) (sv : Value) (p : List UInt8), svs[i]? = some sv → ps[i]? = some p → PartR w0 Ps sv p) : PartsR w0 Ps (.slice (some ⟨b, off, none⟩) ps.length c) ps :=
  ⟨⟨_, _, rfl⟩, svs, hl, fun C _ _ L hL => .sl (RdN.at0 (Find.of_mem (hL _ hB))) (by omega), h⟩
theorem parts_snoc {w0 : World} {Bs Bs' : List Blk} {svs : List Value} {ps : List (List UInt8)} {sv : Value} {p : List UInt8} (hl : svs.length = ps.length) (h : ∀ (i : Nat) (sv : Value) (p : List UInt8), svs[i]? = some sv → ps[i]? = some p → PartR w0 Bs sv p) (hs : ∀ B ∈ Bs, B ∈ Bs') (hn : PartR w0 Bs' sv p) :
    ∀ (i : Nat) (sv' : Value) (p' : List UInt8), (svs ++ [sv])[i]? = some sv' → (ps ++ [p])[i]? = some p' → PartR w0 Bs' sv' p' := by
  intro i sv' p' h1 h2
  rcases Nat.lt_or_ge i svs.length with hi | hi
  · rw [List.getElem?_append_left hi] at h1
    rw [List.getElem?_append_left (by omega)] at h2
    exact (h i _ _ h1 h2).more hs
  · rw [List.getElem?_append_right hi] at h1
    rw [List.getElem?_append_right (by omega)] at h2
    rcases hj : i - svs.length with _ | j
    · rw [hj] at h1; rw [show i - ps.length = 0 from by omega] at h2
      cases h1; cases h2; exact hn
    · rw [hj] at h1; simp at h1
theorem parts_head {w0 : World} {Bs Bs' : List Blk} {sv0 sv : Value} {svs : List Value} {p0 p : List UInt8} {ps : List (List UInt8)} (h : ∀ (i : Nat) (sv : Value) (p : List UInt8), (sv0 :: svs)[i]? = some sv → (p0 :: ps)[i]? = some p → PartR w0 Bs sv p) (hs : ∀ B ∈ Bs, B ∈ Bs') (hn : PartR w0 Bs' sv p) :
    ∀ (i : Nat) (sv' : Value) (p' : List UInt8), (sv :: svs)[i]? = some sv' → (p :: ps)[i]? = some p' → PartR w0 Bs' sv' p' := by
  intro i sv' p' h1 h2
  cases i with
  | zero => cases h1; cases h2; exact hn
  | succ i => exact (h (i + 1) _ _ h1 h2).more hs
theorem part64 {w0 : World} {Ps : List Blk} {b n c size : Nat} {p : List UInt8} (hB : (⟨b, 0, p.map byteV, size⟩ : Blk) ∈ Ps) (hn : p.length = n) : PartR w0 Ps (.slice (some ⟨b, 0, none⟩) n c) p := by
  subst hn; exact PartR.front hB (by rw [List.take_of_length_le (by rw [List.length_map]; exact Nat.le_refl _)])
theorem V1.sliceAn {C : Ctx} {e : Env} {L : List Blk} {dst : Option Tmp} {ty : TypeId} {pos : String} {after : Array Edge} {guard : Option (Nat × Bool)} {t el : TypeId} {x : Operand} {lo hi : Option Operand} {b o m : Nat} (l n : Nat) (hT : C.P.underlying t = some (.array m el)) (hk : SizeIs C.P el 1) (hx : ev C.n e x = .pointer (some ⟨b, o, none⟩))
    (hl : bd C.n e lo 0 = some (l : Int)) (hh : bd C.n e hi m = some ((l + n : Nat) : Int)) (h1 : l + n ≤ m) (h2 : l < m) : V1 C ⟨dst, .slice t x lo hi none, ty, pos, after, guard⟩ e L (.slice (some ⟨b, o + l, none⟩) n (m - l)) := by
  have := V1.sliceA (dst := dst) (ty := ty) (pos := pos) (after := after) (guard := guard) (L := L) hT hk hx hl hh (by omega) (by omega) (by omega)
  rw [Int.toNat_natCast, Int.toNat_natCast, if_neg (by omega), Nat.mul_one, show l + n - l = n from by omega] at this
  exact this
theorem be_step {q : List UInt8} {c : Nat} {x : UInt8} (hx : q[c]? = some x) (hq : q.length ≤ 5) : (BitVec.ofNat 64 (be (q.take c)) <<< 8) ||| x.toBitVec.setWidth 64 = BitVec.ofNat 64 (be (q.take (c + 1))) := by
  have hlt := be_lt (q.take c)
  have hle : (256 : Nat) ^ (q.take c).length ≤ 256 ^ 5 := Nat.pow_le_pow_right (by omega) (by rw [List.length_take]; omega)
  have hx8 := x.toNat_lt
  have e5 : (256 : Nat) ^ 5 = 1099511627776 := by decide
  apply BitVec.eq_of_toNat_eq
  rw [BitVec.toNat_or, BitVec.toNat_shiftLeft, BitVec.toNat_setWidth, BitVec.toNat_ofNat, BitVec.toNat_ofNat, be_take hx, Nat.shiftLeft_eq]
  have hX : x.toBitVec.toNat = x.toNat := rfl
  rw [hX, Nat.mod_eq_of_lt (show be (q.take c) < 2 ^ 64 by omega), Nat.mod_eq_of_lt (show x.toNat < 2 ^ 64 by omega), Nat.mod_eq_of_lt (show be (q.take c) * 2 ^ 8 < 2 ^ 64 by omega), Nat.mod_eq_of_lt (show be (q.take c) * 256 + x.toNat < 2 ^ 64 by omega), show (2 : Nat) ^ 8 = 256 from rfl, Nat.mul_comm]
  exact (Nat.two_pow_add_eq_or_of_lt (i := 8) hx8 _).symm
theorem be_mod {n : Nat} (h : n < 1099511627776) : ((BitVec.ofNat 64 n % 100000#64).setWidth 32).toNat = n % 100000 := by
  have hm : n % 100000 < 100000 := Nat.mod_lt _ (by decide)
  rw [BitVec.toNat_setWidth, BitVec.toNat_umod, BitVec.toNat_ofNat, Nat.mod_eq_of_lt (show n < 2 ^ 64 by omega)]
  show n % 100000 % 2 ^ 32 = _
  omega
theorem be5 (q : List UInt8) (h : q.length ≤ 5) : be q < 1099511627776 := by
  have h1 := be_lt q
  have h2 : (256 : Nat) ^ q.length ≤ 256 ^ 5 := Nat.pow_le_pow_right (by omega) h
  have e5 : (256 : Nat) ^ 5 = 1099511627776 := by decide
  omega

set_option maxRecDepth 100000 in
set_option maxHeartbeats 4000000 in
theorem Of_any (w0 : World) (kv : Value) (name : List UInt8) (keys : List (List UInt8)) (Ps : List Blk) (hk : KeysR w0 Ps kv keys) (hn : name.length ≤ 1000000) (hkn : keys.length ≤ 1000) : FnX P 10 [.string (bstr name), kv] w0 [] Ps (fun v Y => v = .agg ((ofG (ofH (name ++ keys.flatten) 16)).map u32V).toArray ∧ Y = Ps) := by
  obtain ⟨ka, kc, rfl⟩ := hk.form
  have hfs : frontS.length = 13 := rfl
  have hfl32 : keys.flatten.length = 32 * keys.length := by
    have : ∀ l : List (List UInt8), (∀ k ∈ l, k.length = 32) → l.flatten.length = 32 * l.length := by
      intro l
      induction l with
      | nil => intro _; rfl
      | cons a l ih => intro h; rw [List.flatten_cons, List.length_append, ih (fun k hk => h k (by simp [hk])), h a (by simp), List.length_cons]; omega
    exact this keys hk.each
  have hlens : ∀ q : List UInt8, q.length ≤ 200000000000000 → ∀ p ∈ q :: name :: keys, p.length ≤ 200000000000000 := by
    intro q hq p hp
    rcases List.mem_cons.1 hp with rfl | hp
    · exact hq
    · rcases List.mem_cons.1 hp with rfl | hp
      · omega
      · have := hk.each p hp; omega
  refine FnX.of 67 [.cell 4 27] Go.Proofs.Try.func10 rfl rfl rfl rfl (fun G => ?_)
  refine T.seq ?_
  refine T.region ?_
  refine TL.cons rfl (T1.allocN 6 zr_27 rfl (fun b4 => ?_))
  refine TL.nil ?_
  refine T.seq ?_
  refine T.region ?_
  refine TL.cons rfl (T1.buildSl1 (os := [.const (.int .u8 115), .const (.int .u8 105), .const (.int .u8 103), .const (.int .u8 110), .const (.int .u8 101), .const (.int .u8 116), .const (.int .u8 32), .const (.int .u8 115), .const (.int .u8 97), .const (.int .u8 102), .const (.int .u8 101), .const (.int .u8 116), .const (.int .u8 121)]) (vs := frontS.map byteV) ty_42 sz_5 zr_5 (by decide) rfl (.cons rfl (.cons rfl (.cons rfl (.cons rfl (.cons rfl (.cons rfl (.cons rfl (.cons rfl (.cons rfl (.cons rfl (.cons rfl (.cons rfl (.cons rfl .nil))))))))))))) rfl (ones rfl) (fun b14 => ?_))
  refine TL.cons rfl (T1.convLit ty_42 ty_5 rfl (by repeat (first | exact Sub.one | apply Sub.there | apply Sub.far)) ?_)
  refine TL.cons rfl (V1.t (V1.move' (by (conv => lhs; whnf) <;> rfl)) ?_)
  refine TL.cons rfl (T1.strToBytes ty_9 ty_42 ty_5 rfl (fun b17 c17 hc17 => ?_))
  replace hc17 : name.length ≤ c17 := hc17
  refine TL.cons rfl (T1.buildSl1 (os := [.tmp 15, .tmp 17]) (vs := [.slice (some ⟨b14, 0, none⟩) 13 13, .slice (some ⟨b17, 0, none⟩) name.length c17]) ty_43 sz_42 zr_42 (by decide) rfl (.cons rfl (.cons rfl .nil)) rfl (ones rfl) (fun b18 => ?_))
  refine TL.cons rfl (V1.t (V1.assign' (by (conv => lhs; whnf) <;> rfl)) ?_)
  refine TL.nil ?_
  refine T.seq ?_
  refine T.seq ?_
  refine T.region ?_
  refine TL.cons rfl (V1.t (V1.move' (by (conv => lhs; whnf) <;> rfl)) ?_)
  refine TL.cons rfl (V1.t (V1.lenSl ty_24 rfl) ?_)
  refine TL.cons rfl (V1.t (V1.move' (by (conv => lhs; whnf) <;> rfl)) ?_)
  refine TL.nil ?_
  refine T.block ?_
  refine T.loopL (σ := Nat × Value × List Value × List Blk × List Blk) (l0 := [(4, _), (19, _), (20, _)]) (fun x => [(21, .int .i64 (x.1 : Nat)), (5, x.2.1)]) (fun x L => L = x.2.2.2.1 ++ (x.2.2.2.2 ++ ((⟨b4, 0, [.int .u32 0, .int .u32 0, .int .u32 0, .int .u32 0, .int .u32 0, .int .u32 0], 6⟩ : Blk) :: (Ps ++ G))) ∧ Sl x.2.1 x.2.2.1 1 x.2.2.2.1 ∧ x.2.2.1.length = 2 + x.1 ∧ (∀ (i : Nat) (sv : Value) (p : List UInt8), x.2.2.1[i]? = some sv → (frontS :: name :: keys.take x.1)[i]? = some p → PartR w0 x.2.2.2.2 sv p) ∧ x.1 ≤ keys.length) (fun x => keys.length - x.1) (0, .slice (some ⟨b18, 0, none⟩) 2 2, [.slice (some ⟨b14, 0, none⟩) 13 13, .slice (some ⟨b17, 0, none⟩) name.length c17], [⟨b18, 0, [.slice (some ⟨b14, 0, none⟩) 13 13, .slice (some ⟨b17, 0, none⟩) name.length c17], 2⟩], ([⟨b17, 0, name.map byteV, c17⟩, ⟨b14, 0, frontS.map byteV, 13⟩] : List Blk)) (.cons rfl (.cons rfl .nil)) (.cons (by (conv => lhs; whnf) <;> rfl) (.cons (by (conv => lhs; whnf) <;> rfl) (.cons (by (conv => lhs; whnf) <;> rfl) .nil))) (by repeat (first | exact Take.nil | apply Take.one (by repeat (first | exact Pick.here | apply Pick.there | apply Pick.far)) | apply Take.seg (by repeat (first | exact PickS.last | exact PickS.one | exact PickS.here | exact PickS.nil | apply PickS.there | apply PickS.far)) | exact Take.last (by repeat (first | exact PickS.last | exact PickS.one | exact PickS.here | exact PickS.nil | apply PickS.there | apply PickS.far)))) (⟨(rfl : (⟨b18, 0, [.slice (some ⟨b14, 0, none⟩) 13 13, .slice (some ⟨b17, 0, none⟩) name.length c17], 2⟩ : Blk) :: ⟨b17, 0, name.map byteV, c17⟩ :: ⟨b14, 0, frontS.map byteV, 13⟩ :: (⟨b4, 0, [.int .u32 0, .int .u32 0, .int .u32 0, .int .u32 0, .int .u32 0, .int .u32 0], 6⟩ : Blk) :: (Ps ++ G) = _), Sl.mk rfl (Nat.le_refl _) (by decide), rfl, two_parts (PartR.own (Ls := [⟨b14, 0, frontS.map byteV, 13⟩]) (.inr ⟨b14, 0, 13, 13, 13, rfl, rfl, Nat.le_refl _, by decide, rfl⟩) (by intro B hB; simp only [List.mem_singleton] at hB; subst hB; simp)) (PartR.own (Ls := [⟨b17, 0, name.map byteV, c17⟩]) (.inr ⟨b17, 0, name.length, c17, c17, rfl, by simp, hc17, by omega, rfl⟩) (by intro B hB; simp only [List.mem_singleton] at hB; subst hB; simp)), Nat.zero_le _⟩) ?_
  rintro ⟨k, s, svs, Ls, Bs⟩ e_ L ⟨rfl, hsl, hlen, hel, hkk⟩
  simp only at hsl hlen hel hkk
  refine T.seq ?_
  refine T.region ?_
  refine TL.cons rfl (T1.ltI_split rfl rfl (fun h3 => ?_) (fun h3 => ?_))
  ·
    simp only at h3
    obtain ⟨key, hkey⟩ : ∃ z, keys[k]? = some z := ⟨_, List.getElem?_eq_getElem (by omega)⟩
    have hk32 := hk.each key (List.mem_of_getElem? hkey)
    obtain ⟨ba_, oa_, rfl, hrd⟩ := hk.at (P := P) hkey
    refine TL.nil ?_
    refine T.seq ?_
    refine T.cond_t rfl ?_
    refine T.skip ?_
    refine T.seq ?_
    refine T.block ?_
    refine T.seq ?_
    refine T.region ?_
    refine TL.cons rfl (V1.t (V1.indexAddrS ty_24 sz_36 rfl rfl (by omega) (by omega)) ?_)
    refine TL.cons rfl (V1.t (V1.loadN (vs := key.map byteV) one_36 sz_36 rfl (hrd _ rfl rfl _ (by intro B hB; simp only [List.mem_cons, List.mem_append]; simp [hB])) (by rw [List.length_map]; exact hk32)) ?_)
    refine TL.cons rfl (T1.allocN 32 zr_36 rfl (fun b7 => ?_))
    refine TL.cons rfl (T1.storeN (vs := key.map byteV) rfl rfl sz_36 (one_bytes _) (by repeat (first | exact Sub.one | apply Sub.there | apply Sub.far)) (by rw [List.length_map, hk32]; rfl) (by rw [List.length_map]; exact hk32) ?_)
    refine TL.nil ?_
    refine T.region ?_
    refine TL.cons rfl (V1.t (V1.move' (by (conv => lhs; whnf) <;> rfl)) ?_)
    refine TL.cons rfl (V1.t (V1.sliceA ty_36 sz_5 rfl rfl rfl (by decide) (by decide) (by decide)) ?_)
    refine TL.cons rfl (T1.buildSl1 (os := [.tmp 26]) (vs := [.slice (some ⟨b7, 0, none⟩) 32 32]) ty_43 sz_42 zr_42 (by decide) rfl (.cons rfl .nil) rfl (ones rfl) (fun b27 => ?_))
    refine TL.cons rfl (T1.append ty_43 kd_43 sz_42 by_42 zr_42 rfl (by decide) (by decide) rfl rfl hsl (.sl (n := 1) (RdN.at0 (cells := [.slice (some ⟨b7, 0, none⟩) 32 32]) (by repeat (first | exact Find.here | assumption | apply Find.there | apply Find.far))) rfl) (ones rfl) 100000 (by simp only [List.length_singleton]; omega) (by decide) (by repeat (first | exact PickS.last | exact PickS.one | exact PickS.here | exact PickS.nil | apply PickS.there | apply PickS.far)) (fun s1 Ls1 hs1 => ?_))
    refine TL.cons rfl (V1.t (V1.assign' (by (conv => lhs; whnf) <;> rfl)) ?_)
    refine TL.nil ?_
    refine T.region ?_
    refine TL.cons rfl (V1.t (V1.add rfl rfl (wrap_i64 _ (by omega) (by omega))) ?_)
    refine TL.cons rfl (V1.t (V1.move' (by (conv => lhs; whnf) <;> rfl)) ?_)
    refine TL.nil ?_
    exact ⟨(k + 1, _, svs ++ [.slice (some ⟨b7, 0, none⟩) 32 32], Ls1, (⟨b7, 0, key.map byteV, 32⟩ :: Bs : List Blk)), _, _, (by simp only; omega), (.cons rfl (.cons rfl .nil)), (.cons rfl (.cons rfl (.cons rfl .nil))), (by repeat (first | exact Take.nil | apply Take.one (by repeat (first | exact Pick.here | apply Pick.there | apply Pick.far)) | apply Take.seg (by repeat (first | exact PickS.last | exact PickS.one | exact PickS.here | exact PickS.nil | apply PickS.there | apply PickS.far)) | exact Take.last (by repeat (first | exact PickS.last | exact PickS.one | exact PickS.here | exact PickS.nil | apply PickS.there | apply PickS.far)))), ⟨rfl, hs1, by simp only [List.length_append, List.length_singleton]; omega, by simp only; rw [List.take_add_one, hkey]; exact parts_snoc (ps := frontS :: name :: keys.take k) (by simp only [List.length_cons, List.length_take]; omega) hel (fun B hB => List.mem_cons_of_mem _ hB) (part64 (size := 32) (by simp) hk32), by simp only; omega⟩⟩
  ·
    simp only at h3
    obtain rfl : k = keys.length := by omega
    rw [List.take_length] at hel
    obtain ⟨bp, op_, cp, zp, rfl, hcp, hzp, rfl⟩ := hsl.block (by intro h; rw [h] at hlen; simp at hlen; omega)
    rw [show svs.length = (frontS :: name :: keys).length from by rw [hlen]; simp only [List.length_cons]; omega] at hcp ⊢
    obtain ⟨sv0, svr, rfl⟩ : ∃ a r, svs = a :: r := by cases svs with | nil => simp at hlen; omega | cons a r => exact ⟨a, r, rfl⟩
    have hsvr : svr.length = (name :: keys).length := by simp only [List.length_cons] at hlen ⊢; omega
    refine TL.nil ?_
    refine T.seq ?_
    refine T.cond_f rfl ?_
    refine T.exit ?_
    refine T.seq ?_
    refine T.region ?_
    refine TL.cons rfl (V1.t (V1.move' (by (conv => lhs; whnf) <;> rfl)) ?_)
    refine TL.cons rfl (T1.callX (X := (⟨bp, op_, sv0 :: svr, zp⟩ :: Bs : List Blk)) has_17 rfl (Sum512_any _ _ (frontS :: name :: keys) ((⟨bp, op_, sv0 :: svr, zp⟩ :: Bs : List Blk)) (PartsR.blk (size := zp) (by simp) (by simp only [List.length_cons] at hsvr ⊢; omega) (fun i sv p h1 h2 => (hel i sv p h1 h2).more (fun B hB => List.mem_cons_of_mem _ hB))) (hlens _ (by decide)) (by simp only [List.length_cons]; omega) (by rw [show (frontS :: name :: keys).flatten = frontS ++ (name ++ keys.flatten) from by simp]; simp only [List.length_append, hfl32]; omega)) (by repeat (first | exact Take.nil | apply Take.one (by repeat (first | exact Pick.here | apply Pick.there | apply Pick.far)) | apply Take.seg (by repeat (first | exact PickS.last | exact PickS.one | exact PickS.here | exact PickS.nil | apply PickS.there | apply PickS.far)) | exact Take.last (by repeat (first | exact PickS.last | exact PickS.one | exact PickS.here | exact PickS.nil | apply PickS.there | apply PickS.far)))) (fun v Y hY => ?_))
    obtain ⟨rfl, hzz⟩ := hY
    rw [hzz]
    simp only [List.append_assoc, List.cons_append, List.nil_append]
    rw [show (frontS :: name :: keys).flatten = frontS ++ (name ++ keys.flatten) from by simp]
    refine TL.cons rfl (T1.allocN 64 zr_45 rfl (fun b8 => ?_))
    refine TL.cons rfl (T1.storeN rfl rfl sz_45 (one_bytes _) (by repeat (first | exact Sub.one | apply Sub.there | apply Sub.far)) (by rw [List.length_map, sha_len]; rfl) (by rw [List.length_map, sha_len]) ?_)
    refine TL.nil ?_
    refine T.seq ?_
    refine T.seq ?_
    refine T.region ?_
    refine TL.cons rfl (V1.t (V1.move' (by (conv => lhs; whnf) <;> rfl)) ?_)
    refine TL.nil ?_
    refine T.block ?_
    refine T.loopL (σ := Nat × Value) (l0 := [(4, _), (5, _), (8, _)]) (fun x => [(32, .int .i64 (x.1 : Nat))]) (fun x L => L = ⟨bp, op_, x.2 :: svr, zp⟩ :: ⟨b8, 0, (ofH (name ++ keys.flatten) x.1).map byteV, 64⟩ :: (Bs ++ ((⟨b4, 0, [.int .u32 0, .int .u32 0, .int .u32 0, .int .u32 0, .int .u32 0, .int .u32 0], 6⟩ : Blk) :: (Ps ++ G))) ∧ x.1 ≤ 16) (fun x => 16 - x.1) (0, sv0) (.cons rfl .nil) (.cons (by (conv => lhs; whnf) <;> rfl) (.cons (by (conv => lhs; whnf) <;> rfl) (.cons (by (conv => lhs; whnf) <;> rfl) .nil))) (by repeat (first | exact Take.nil | apply Take.one (by repeat (first | exact Pick.here | apply Pick.there | apply Pick.far)) | apply Take.seg (by repeat (first | exact PickS.last | exact PickS.one | exact PickS.here | exact PickS.nil | apply PickS.there | apply PickS.far)) | exact Take.last (by repeat (first | exact PickS.last | exact PickS.one | exact PickS.here | exact PickS.nil | apply PickS.there | apply PickS.far)))) (⟨rfl, Nat.zero_le _⟩) ?_
    rintro ⟨r, sv0'⟩ e_ L ⟨rfl, hr⟩
    simp only at hr
    refine T.seq ?_
    refine T.region ?_
    refine TL.cons rfl (T1.ltI_split rfl rfl (fun h9 => ?_) (fun h9 => ?_))
    ·
      simp only at h9
      refine TL.nil ?_
      refine T.seq ?_
      refine T.cond_t rfl ?_
      refine T.skip ?_
      refine T.seq ?_
      refine T.block ?_
      refine T.seq ?_
      refine T.region ?_
      refine TL.cons rfl (V1.t (V1.move' (by (conv => lhs; whnf) <;> rfl)) ?_)
      refine TL.cons rfl (V1.t (V1.sliceA ty_45 sz_5 rfl rfl rfl (by decide) (by decide) (by decide)) ?_)
      refine TL.cons rfl (V1.t (V1.indexAddrS ty_43 sz_42 rfl rfl (by decide) (by simp only [List.length_cons]; omega)) ?_)
      refine TL.cons rfl (T1.storeE (o := op_ + 0 * 1) (cells := sv0' :: svr) (cells' := .slice (some ⟨b8, 0, none⟩) 64 64 :: svr) rfl rfl sz_42 rfl (by rw [show op_ + 0 * 1 - op_ = 0 from by omega]; rfl) (by repeat (first | exact Sub.one | apply Sub.there | apply Sub.far)) (by omega) (by simp only [List.length_cons]; omega) ?_)
      refine TL.nil ?_
      refine T.region ?_
      refine TL.cons rfl (V1.t (V1.move' (by (conv => lhs; whnf) <;> rfl)) ?_)
      refine TL.cons rfl (T1.callX (X := (⟨bp, op_, .slice (some ⟨b8, 0, none⟩) 64 64 :: svr, zp⟩ :: ⟨b8, 0, (ofH (name ++ keys.flatten) r).map byteV, 64⟩ :: Bs : List Blk)) has_17 rfl (Sum512_any _ _ (ofH (name ++ keys.flatten) r :: name :: keys) ((⟨bp, op_, .slice (some ⟨b8, 0, none⟩) 64 64 :: svr, zp⟩ :: ⟨b8, 0, (ofH (name ++ keys.flatten) r).map byteV, 64⟩ :: Bs : List Blk)) (PartsR.blk (b := bp) (off := op_) (svs := .slice (some ⟨b8, 0, none⟩) 64 64 :: svr) (size := zp) (List.mem_cons_self ..) (by simp only [List.length_cons] at hsvr ⊢; omega) (parts_head hel (fun B hB => List.mem_cons_of_mem _ (List.mem_cons_of_mem _ hB)) (part64 (b := b8) (n := 64) (c := 64) (size := 64) (List.mem_cons_of_mem _ (List.mem_cons_self ..)) (ofH_len _ _)))) (hlens _ (by rw [ofH_len]; decide)) (by simp only [List.length_cons]; omega) (by rw [show (ofH (name ++ keys.flatten) r :: name :: keys).flatten = ofH (name ++ keys.flatten) r ++ (name ++ keys.flatten) from by simp]; simp only [List.length_append, hfl32, ofH_len]; omega)) (by repeat (first | exact Take.nil | apply Take.one (by repeat (first | exact Pick.here | apply Pick.there | apply Pick.far)) | apply Take.seg (by repeat (first | exact PickS.last | exact PickS.one | exact PickS.here | exact PickS.nil | apply PickS.there | apply PickS.far)) | exact Take.last (by repeat (first | exact PickS.last | exact PickS.one | exact PickS.here | exact PickS.nil | apply PickS.there | apply PickS.far)))) (fun v Y hY => ?_))
      obtain ⟨rfl, hzz⟩ := hY
      rw [hzz]
      simp only [List.append_assoc, List.cons_append, List.nil_append]
      rw [show (ofH (name ++ keys.flatten) r :: name :: keys).flatten = ofH (name ++ keys.flatten) r ++ (name ++ keys.flatten) from by simp]
      refine TL.cons rfl (T1.storeN (vs := (ofH (name ++ keys.flatten) (r + 1)).map byteV) rfl rfl sz_45 (one_bytes _) (by repeat (first | exact Sub.one | apply Sub.there | apply Sub.far)) (by rw [List.length_map, List.length_map, ofH_len, ofH_len]) (by rw [List.length_map, ofH_len]) ?_)
      refine TL.nil ?_
      refine T.region ?_
      refine TL.cons rfl (V1.t (V1.add rfl rfl (wrap_i64 _ (by omega) (by omega))) ?_)
      refine TL.cons rfl (V1.t (V1.move' (by (conv => lhs; whnf) <;> rfl)) ?_)
      refine TL.nil ?_
      exact ⟨(r + 1, .slice (some ⟨b8, 0, none⟩) 64 64), _, _, (by simp only; omega), (.cons rfl .nil), (.cons rfl (.cons rfl (.cons rfl .nil))), (by repeat (first | exact Take.nil | apply Take.one (by repeat (first | exact Pick.here | apply Pick.there | apply Pick.far)) | apply Take.seg (by repeat (first | exact PickS.last | exact PickS.one | exact PickS.here | exact PickS.nil | apply PickS.there | apply PickS.far)) | exact Take.last (by repeat (first | exact PickS.last | exact PickS.one | exact PickS.here | exact PickS.nil | apply PickS.there | apply PickS.far)))), ⟨rfl, by simp only; omega⟩⟩
    ·
      simp only at h9
      obtain rfl : r = 16 := by omega
      have hHl := ofH_len (name ++ keys.flatten) 16
      refine TL.nil ?_
      refine T.seq ?_
      refine T.cond_f rfl ?_
      refine T.exit ?_
      refine T.seq ?_
      refine T.region ?_
      refine TL.cons rfl (T1.allocN 6 zr_27 rfl (fun b9 => ?_))
      refine TL.nil ?_
      refine T.seq ?_
      refine T.seq ?_
      refine T.region ?_
      refine TL.cons rfl (V1.t (V1.move' (by (conv => lhs; whnf) <;> rfl)) ?_)
      refine TL.nil ?_
      refine T.block ?_
      refine T.loopL (σ := Nat) (l0 := [(4, _), (8, _), (9, _)]) (fun x => [(40, .int .i64 (x : Nat))]) (fun x L => L = ⟨b9, 0, ((ofG (ofH (name ++ keys.flatten) 16)).take x).map u32V ++ List.replicate (6 - x) (.int .u32 0), 6⟩ :: ⟨b8, 0, (ofH (name ++ keys.flatten) 16).map byteV, 64⟩ :: (⟨b4, 0, [.int .u32 0, .int .u32 0, .int .u32 0, .int .u32 0, .int .u32 0, .int .u32 0], 6⟩ : Blk) :: (Ps ++ G) ∧ x ≤ 6) (fun x => 6 - x) 0 (.cons rfl .nil) (.cons (by (conv => lhs; whnf) <;> rfl) (.cons (by (conv => lhs; whnf) <;> rfl) (.cons (by (conv => lhs; whnf) <;> rfl) .nil))) (by repeat (first | exact Take.nil | apply Take.one (by repeat (first | exact Pick.here | apply Pick.there | apply Pick.far)) | apply Take.seg (by repeat (first | exact PickS.last | exact PickS.one | exact PickS.here | exact PickS.nil | apply PickS.there | apply PickS.far)) | exact Take.last (by repeat (first | exact PickS.last | exact PickS.one | exact PickS.here | exact PickS.nil | apply PickS.there | apply PickS.far)))) (⟨rfl, Nat.zero_le _⟩) ?_
      rintro i e_ L ⟨rfl, hi⟩
      refine T.seq ?_
      refine T.region ?_
      refine TL.cons rfl (T1.ltI_split rfl rfl (fun h15 => ?_) (fun h15 => ?_))
      ·
        have hql : (((ofH (name ++ keys.flatten) 16).drop (5 * i)).take 5).length = 5 := by rw [List.length_take, List.length_drop, ofH_len]; omega
        refine TL.nil ?_
        refine T.seq ?_
        refine T.cond_t rfl ?_
        refine T.skip ?_
        refine T.seq ?_
        refine T.block ?_
        refine T.seq ?_
        refine T.region ?_
        refine TL.cons rfl (V1.t (V1.move' (by (conv => lhs; whnf) <;> rfl)) ?_)
        refine TL.cons rfl (V1.t (V1.assign' (by (conv => lhs; whnf) <;> rfl)) ?_)
        refine TL.nil ?_
        refine T.seq ?_
        refine T.region ?_
        refine TL.cons rfl (V1.t (V1.assign' (by (conv => lhs; whnf) <;> rfl)) ?_)
        refine TL.nil ?_
        refine T.seq ?_
        refine T.seq ?_
        refine T.region ?_
        refine TL.cons rfl (V1.t (V1.move' (by (conv => lhs; whnf) <;> rfl)) ?_)
        refine TL.cons rfl (V1.t (V1.mul rfl rfl (wrap_i64 _ (by omega) (by omega))) ?_)
        refine TL.cons rfl (V1.t (V1.move' (by (conv => lhs; whnf) <;> rfl)) ?_)
        refine TL.cons rfl (V1.t (V1.mul rfl rfl (wrap_i64 _ (by omega) (by omega))) ?_)
        refine TL.cons rfl (V1.t (V1.add rfl rfl (wrap_i64 _ (by omega) (by omega))) ?_)
        refine TL.cons rfl (V1.t (V1.sliceAn (5 * i) 5 ty_45 sz_5 rfl rfl rfl (by omega) (by omega)) ?_)
        refine TL.cons rfl (V1.t (V1.lenSl ty_42 rfl) ?_)
        refine TL.cons rfl (V1.t (V1.move' (by (conv => lhs; whnf) <;> rfl)) ?_)
        refine TL.nil ?_
        refine T.block ?_
        refine T.loopL (σ := Nat) (l0 := [(4, _), (8, _), (9, _), (10, _), (40, _), (48, _), (49, _)]) (fun x => [(50, .int .i64 (x : Nat)), (11, w64 (BitVec.ofNat 64 (be ((((ofH (name ++ keys.flatten) 16).drop (5 * i)).take 5).take x))))]) (fun x L => L = ⟨b9, 0, ((ofG (ofH (name ++ keys.flatten) 16)).take i).map u32V ++ List.replicate (6 - i) (.int .u32 0), 6⟩ :: ⟨b8, 0, (ofH (name ++ keys.flatten) 16).map byteV, 64⟩ :: (⟨b4, 0, [.int .u32 0, .int .u32 0, .int .u32 0, .int .u32 0, .int .u32 0, .int .u32 0], 6⟩ : Blk) :: (Ps ++ G) ∧ x ≤ 5) (fun x => 5 - x) 0 (.cons rfl (.cons rfl .nil)) (.cons (by (conv => lhs; whnf) <;> rfl) (.cons (by (conv => lhs; whnf) <;> rfl) (.cons (by (conv => lhs; whnf) <;> rfl) (.cons (by (conv => lhs; whnf) <;> rfl) (.cons (by (conv => lhs; whnf) <;> rfl) (.cons (by (conv => lhs; whnf) <;> rfl) (.cons (by (conv => lhs; whnf) <;> rfl) .nil))))))) (by repeat (first | exact Take.nil | apply Take.one (by repeat (first | exact Pick.here | apply Pick.there | apply Pick.far)) | apply Take.seg (by repeat (first | exact PickS.last | exact PickS.one | exact PickS.here | exact PickS.nil | apply PickS.there | apply PickS.far)) | exact Take.last (by repeat (first | exact PickS.last | exact PickS.one | exact PickS.here | exact PickS.nil | apply PickS.there | apply PickS.far)))) (⟨rfl, Nat.zero_le _⟩) ?_
        rintro c e_ L ⟨rfl, hc⟩
        refine T.seq ?_
        refine T.region ?_
        refine TL.cons rfl (T1.ltI_split rfl rfl (fun h19 => ?_) (fun h19 => ?_))
        ·
          obtain ⟨x, hx⟩ : ∃ z, (((ofH (name ++ keys.flatten) 16).drop (5 * i)).take 5)[c]? = some z := ⟨_, List.getElem?_eq_getElem (by omega)⟩
          have hxH : (ofH (name ++ keys.flatten) 16)[5 * i + c]? = some x := by rw [List.getElem?_take, if_pos (by omega), List.getElem?_drop] at hx; exact hx
          refine TL.nil ?_
          refine T.seq ?_
          refine T.cond_t rfl ?_
          refine T.skip ?_
          refine T.seq ?_
          refine T.block ?_
          refine T.seq ?_
          refine T.region ?_
          refine TL.cons rfl (V1.t (V1.indexAddrS ty_42 sz_5 rfl rfl (by omega) (by omega)) ?_)
          refine TL.cons rfl (V1.t (V1.load1 one_5 rfl (show Rd _ _ ⟨b8, 0 + 5 * i + c * 1, none⟩ (byteV x) from by rw [Nat.mul_one, Nat.add_assoc]; exact Rd.at (cells := (ofH (name ++ keys.flatten) 16).map byteV) (by repeat (first | exact Find.here | assumption | apply Find.there | apply Find.far)) (by rw [List.getElem?_map, hxH]; rfl))) ?_)
          refine TL.cons rfl (V1.t (V1.assign' (by (conv => lhs; whnf) <;> rfl)) ?_)
          refine TL.nil ?_
          refine T.region ?_
          refine TL.cons rfl (V1.t (V1.move' (by (conv => lhs; whnf) <;> rfl)) ?_)
          refine TL.cons rfl (V1.t (V1.shlW (k := 8) u64U rfl rfl) ?_)
          refine TL.cons rfl (V1.t (V1.move' (by (conv => lhs; whnf) <;> rfl)) ?_)
          refine TL.cons rfl (V1.t (V1.convW 64 u64U ty_5 ty_47 rfl) ?_)
          refine TL.cons rfl (V1.t (V1.orW u64U rfl rfl) ?_)
          refine TL.cons rfl (V1.t (V1.assign' (by (conv => lhs; whnf) <;> rfl)) ?_)
          refine TL.nil ?_
          refine T.region ?_
          refine TL.cons rfl (V1.t (V1.add rfl rfl (wrap_i64 _ (by omega) (by omega))) ?_)
          refine TL.cons rfl (V1.t (V1.move' (by (conv => lhs; whnf) <;> rfl)) ?_)
          refine TL.nil ?_
          exact ⟨c + 1, _, _, (by simp only; omega), (.cons rfl (.cons (congrArg w64 (be_step hx (by omega))) .nil)), (.cons rfl (.cons rfl (.cons rfl (.cons rfl (.cons rfl (.cons rfl (.cons rfl .nil))))))), (by repeat (first | exact Take.nil | apply Take.one (by repeat (first | exact Pick.here | apply Pick.there | apply Pick.far)) | apply Take.seg (by repeat (first | exact PickS.last | exact PickS.one | exact PickS.here | exact PickS.nil | apply PickS.there | apply PickS.far)) | exact Take.last (by repeat (first | exact PickS.last | exact PickS.one | exact PickS.here | exact PickS.nil | apply PickS.there | apply PickS.far)))), ⟨rfl, by omega⟩⟩
        ·
          obtain rfl : c = 5 := by omega
          rw [show (((ofH (name ++ keys.flatten) 16).drop (5 * i)).take 5).take 5 = (((ofH (name ++ keys.flatten) 16).drop (5 * i)).take 5) from List.take_of_length_le (by omega)]
          have hb5 := be5 (((ofH (name ++ keys.flatten) 16).drop (5 * i)).take 5) (by omega)
          refine TL.nil ?_
          refine T.seq ?_
          refine T.cond_f rfl ?_
          refine T.exit ?_
          refine T.region ?_
          refine TL.cons rfl (V1.t (V1.move' (by (conv => lhs; whnf) <;> rfl)) ?_)
          refine TL.cons rfl (V1.t (V1.move' (by (conv => lhs; whnf) <;> rfl)) ?_)
          refine TL.cons rfl (V1.t (V1.remW (b := 100000#64) rfl rfl (by decide)) ?_)
          refine TL.cons rfl (V1.t (V1.convW 32 u32U ty_47 ty_25 rfl) ?_)
          refine TL.cons rfl (V1.t (V1.indexAddrA ty_27 sz_25 rfl rfl (by omega) (by omega)) ?_)
          refine TL.cons rfl (T1.storeE (o := 0 + i * 1) (cells := ((ofG (ofH (name ++ keys.flatten) 16)).take i).map u32V ++ List.replicate (6 - i) (.int .u32 0)) (cells' := ((ofG (ofH (name ++ keys.flatten) 16)).take (i + 1)).map u32V ++ List.replicate (6 - (i + 1)) (.int .u32 0)) (v := u32V ((ofG (ofH (name ++ keys.flatten) 16)).getD i 0)) rfl (congrArg (fun z : Nat => Value.int .u32 (z : Int)) (by rw [ofG_get (by omega)]; exact be_mod hb5)) sz_25 rfl (by rw [show 0 + i * 1 - 0 = i from by omega]; exact fill_set 0 (ofG_len _) (by omega)) (by repeat (first | exact Sub.one | apply Sub.there | apply Sub.far)) (Nat.zero_le _) (by rw [List.length_append, List.length_map, List.length_take, List.length_replicate, ofG_len]; omega) ?_)
          refine TL.nil ?_
          refine T.region ?_
          refine TL.cons rfl (V1.t (V1.add rfl rfl (wrap_i64 _ (by omega) (by omega))) ?_)
          refine TL.cons rfl (V1.t (V1.move' (by (conv => lhs; whnf) <;> rfl)) ?_)
          refine TL.nil ?_
          exact ⟨i + 1, _, _, (by simp only; omega), (.cons rfl .nil), (.cons rfl (.cons rfl (.cons rfl .nil))), (by repeat (first | exact Take.nil | apply Take.one (by repeat (first | exact Pick.here | apply Pick.there | apply Pick.far)) | apply Take.seg (by repeat (first | exact PickS.last | exact PickS.one | exact PickS.here | exact PickS.nil | apply PickS.there | apply PickS.far)) | exact Take.last (by repeat (first | exact PickS.last | exact PickS.one | exact PickS.here | exact PickS.nil | apply PickS.there | apply PickS.far)))), ⟨rfl, by omega⟩⟩
      ·
        obtain rfl : i = 6 := by omega
        rw [fill_end (ofG_len _)]
        refine TL.nil ?_
        refine T.seq ?_
        refine T.cond_f rfl ?_
        refine T.exit ?_
        refine T.seq ?_
        refine T.region ?_
        refine TL.cons rfl (V1.t (V1.loadN (vs := (ofG (ofH (name ++ keys.flatten) 16)).map u32V) one_27 sz_27 rfl (RdN.whole (by repeat (first | exact Find.here | assumption | apply Find.there | apply Find.far))) (by rw [List.length_map, ofG_len])) ?_)
        refine TL.cons rfl (T1.storeN (vs := (ofG (ofH (name ++ keys.flatten) 16)).map u32V) rfl rfl sz_27 (ones_u32 _) (by repeat (first | exact Sub.one | apply Sub.there | apply Sub.far)) (by rw [List.length_map, ofG_len]; rfl) (by rw [List.length_map, ofG_len]) ?_)
        refine TL.nil ?_
        refine T.ret ?_
        exact ⟨_, Ps ++ G, _, .cons (.cellN (by (conv => lhs; whnf) <;> rfl) one_27 sz_27 (RdN.whole (cells := (ofG (ofH (name ++ keys.flatten) 16)).map u32V) (by repeat (first | exact Find.here | assumption | apply Find.there | apply Find.far))) (by rw [List.length_map, ofG_len])) .nil, (by repeat (first | exact Take.nil | apply Take.one (by repeat (first | exact Pick.here | apply Pick.there | apply Pick.far)) | apply Take.seg (by repeat (first | exact PickS.last | exact PickS.one | exact PickS.here | exact PickS.nil | apply PickS.there | apply PickS.far)) | exact Take.last (by repeat (first | exact PickS.last | exact PickS.one | exact PickS.here | exact PickS.nil | apply PickS.there | apply PickS.far)))), Ps, rfl, rfl, rfl⟩

end Go.Proofs.Ytdgbckfnamiebaa.S
