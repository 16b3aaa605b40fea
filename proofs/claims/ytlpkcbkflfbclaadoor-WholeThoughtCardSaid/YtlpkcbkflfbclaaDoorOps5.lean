/- Slices that came in, strings of bytes, numbers: more rules. Holds for every program. -/
import Derived.Test.YtlpkcbkflfbclaaDoorOps4
namespace Go.Proofs.YtlpkcbkflfbclaaDoor.S

theorem shr_u {n : Nat} {k : Int} {b m : Nat} (h : min k.toNat b = m) : (n : Int).fdiv (2 ^ min k.toNat b) = ((n / 2 ^ m : Nat) : Int) := by
  rw [h, Int.fdiv_eq_ediv_of_nonneg _ (Int.pow_nonneg (by decide))]
  simp
theorem u8_nat (m : Nat) : IntKind.u8.wrap (m : Int) = ((UInt8.ofNat m).toNat : Int) := by
  rw [wrap_u8_mod]; simp
theorem quo_nat {n : Nat} {k : Int} (m : Nat) (hk : k = m) (hn : n < 9223372036854775808) : IntKind.i64.wrap ((n : Int).tdiv k) = ((n / m : Nat) : Int) := by
  subst hk
  rw [← Int.ofNat_tdiv]
  have h1 := Nat.div_le_self n m
  generalize n / m = q at *
  exact wrap_i64 _ (by omega) (by omega)
theorem rem_nat {n : Nat} {k : Int} (m : Nat) (hk : k = m) : (n : Int).tmod k = ((n % m : Nat) : Int) := by
  subst hk; rw [Int.ofNat_tmod]
theorem u8_kind {k : Int} (h1 : 0 ≤ k) (h2 : k < 256) : IntKind.u8.wrap k = ((UInt8.ofNat k.toNat).toNat : Int) := by
  rw [wrap_u8 k h1 h2]; simp; omega
theorem ofNat_mod (m : Nat) : UInt8.ofNat (m % 256) = UInt8.ofNat m := by
  apply UInt8.toNat_inj.1; simp
theorem u8_lt (c : UInt8) : c.toNat < 256 := c.toNat_lt

/-- What a slice that came in, or that another function made, holds. -/
def SlR (w : World) (v : Value) (k n : Nat) (vs : List Value) : Prop :=
  (v = .slice none 0 0 ∧ n = 0 ∧ vs = []) ∨ ∃ b o c, v = .slice (some ⟨b, o, none⟩) n c ∧ n ≤ c ∧ vs.length = n * k ∧ CellsAt w ⟨b, o, none⟩ vs

theorem SlR.len {w : World} {v : Value} {k n : Nat} {vs : List Value} (h : SlR w v k n vs) : vs.length = n * k := by
  rcases h with ⟨_, rfl, rfl⟩ | ⟨_, _, _, _, _, h, _⟩
  · simp
  · exact h

/-- In a call that writes no old memory. -/
theorem SlR.src {C : Ctx} {L : List Blk} {v : Value} {k n : Nat} {vs : List Value} (h : SlR C.w0 v k n vs) (hm : C.M = []) : Src C L k v n vs := by
  rcases h with ⟨rfl, rfl, rfl⟩ | ⟨b, o, c, rfl, _, hl, hc⟩
  · exact .nil
  · exact .sl (RdN.old hc (by rw [hm]; simp)) hl

theorem Sl.slr {C : Ctx} {L Ls G : List Blk} {v : Value} {k : Nat} {vs : List Value} {w : World} (h : Sl v vs k Ls) (hp : PickS L Ls G) (hs : St C.w0 C.M L w) : ∃ n, vs.length = n * k ∧ SlR w v k n vs := by
  have hs' := hs.perm hp.perm.symm
  rcases h with ⟨rfl, rfl, rfl⟩ | ⟨b, off, len, cap, size, rfl, h1, h2, h3, rfl⟩
  · exact ⟨0, by simp, .inl ⟨rfl, rfl, rfl⟩⟩
  · refine ⟨len, h1, .inr ⟨b, off, cap, rfl, h2, h1, fun i u hu => ?_⟩⟩
    have hin := hs'.inw ⟨b, off, vs, size⟩ (by simp)
    refine hin.cell (o := off + i) ?_
    show (bif Nat.ble off (off + i) then vs[off + i - off]? else none) = some u
    rw [Nat.ble_eq_true_of_le (Nat.le_add_right off i), Nat.add_sub_cancel_left]; exact hu

/-- One element of it. -/
theorem SlR.elem {C : Ctx} {L : List Blk} {b o c k n i : Nat} {vs : List Value} (h : SlR C.w0 (.slice (some ⟨b, o, none⟩) n c) k n vs) (hm : C.M = []) (hi : i < n) : ((vs.drop (i * k)).take k).length = k ∧ RdN C L ⟨b, o + i * k, none⟩ ((vs.drop (i * k)).take k) := by
  rcases h with ⟨h, _, _⟩ | ⟨b', o', c', h, _, hl, hc⟩
  · cases h
  · cases h
    have hle : i * k + k ≤ n * k := by rw [← Nat.succ_mul]; exact Nat.mul_le_mul_right _ hi
    refine ⟨by simp; omega, RdN.old (fun j v hv => ?_) (by rw [hm]; simp)⟩
    show C.w0.cell? ⟨b, o + i * k + j, none⟩ = some v
    rw [List.getElem?_take] at hv
    split at hv
    · rw [List.getElem?_drop] at hv
      have := hc (i * k + j) v hv
      rw [Nat.add_assoc]; exact this
    · cases hv

theorem flatten_drop {α : Type} {k : Nat} : ∀ (l : List (List α)) (i : Nat), (∀ x ∈ l, x.length = k) → ∀ x, l[i]? = some x → (l.flatten.drop (i * k)).take k = x := by
  intro l
  induction l with
  | nil => intro i _ x h; simp at h
  | cons y l ih =>
    intro i hl x hx
    cases i with
    | zero =>
      simp only [List.getElem?_cons_zero, Option.some.injEq] at hx; subst hx
      have := hl y (by simp)
      simp [← this]
    | succ i =>
      simp only [List.getElem?_cons_succ] at hx
      have hy := hl y (by simp)
      rw [List.flatten_cons, Nat.succ_mul, List.drop_append, List.drop_eq_nil_of_le (by omega), List.nil_append, hy, Nat.add_sub_cancel]
      exact ih i (fun z hz => hl z (by simp [hz])) x hx

theorem SlR.form {w : World} {v : Value} {k n : Nat} {vs : List Value} (h : SlR w v k n vs) : ∃ a c, v = .slice a n c := by
  rcases h with ⟨rfl, rfl, _⟩ | ⟨b, o, c, rfl, _⟩
  · exact ⟨_, _, rfl⟩
  · exact ⟨_, _, rfl⟩

theorem SlR.isSome {w : World} {a : Option Addr} {k n c : Nat} {vs : List Value} (h : SlR w (.slice a n c) k n vs) (hn : 0 < n) : ∃ b o, a = some ⟨b, o, none⟩ := by
  rcases h with ⟨_, rfl, _⟩ | ⟨b, o, c, h, _⟩
  · omega
  · cases h; exact ⟨b, o, rfl⟩

theorem SlR.elemB {C : Ctx} {L : List Blk} {b o c k n i : Nat} {xs : List (List UInt8)} {x : List UInt8} (h : SlR C.w0 (.slice (Option.some ⟨b, o, none⟩) n c) k n (xs.flatten.map byteV)) (hm : C.M = []) (hl : ∀ x ∈ xs, x.length = k) (hi : i < n) (hx : xs[i]? = Option.some x) : RdN C L ⟨b, o + i * k, none⟩ (x.map byteV) := by
  have := (SlR.elem (L := L) h hm hi).2
  rw [← List.map_drop, ← List.map_take, flatten_drop xs i hl x hx] at this
  exact this

/-- One cell of it. -/
theorem SlR.cell {C : Ctx} {L : List Blk} {b o c n i : Nat} {vs : List Value} {v : Value} (h : SlR C.w0 (.slice (Option.some ⟨b, o, none⟩) n c) 1 n vs) (hm : C.M = []) (hv : vs[i]? = Option.some v) : Rd C L ⟨b, o + i * 1, none⟩ v := by
  rcases h with ⟨h, _, _⟩ | ⟨b', o', c', h, _, hl, hc⟩
  · cases h
  · cases h
    rw [Nat.mul_one]
    exact .old (hc i v hv) (by rw [hm]; simp)

theorem Rd.at {C : Ctx} {L : List Blk} {b off size i : Nat} {tg : Option TypeId} {cells : List Value} {v : Value} (hf : Find L ⟨⟨b, tg⟩, off, cells, size⟩) (h : cells[i]? = Option.some v) : Rd C L ⟨b, off + i, none⟩ v :=
  .own hf (by
    show (bif Nat.ble off (off + i) then cells[off + i - off]? else none) = Option.some v
    rw [Nat.ble_eq_true_of_le (Nat.le_add_right off i), Nat.add_sub_cancel_left]; exact h)

theorem SlR.one {w : World} {v : Value} {k n : Nat} {vs : List Value} (h : SlR w v k n vs) : S.one v = true := by
  rcases h with ⟨rfl, _, _⟩ | ⟨_, _, _, rfl, _⟩ <;> rfl

/-- Two numbers whose bits do not meet. -/
theorem or_u32 {a b : Int} (i : Nat) (x y : Nat) (ha : a = ((2 ^ i * x : Nat) : Int)) (hb : b = (y : Int)) (hy : y < 2 ^ i) (h : 2 ^ i * x + y < 4294967296) : bitop .or .u32 a b = ((2 ^ i * x + y : Nat) : Int) := by
  subst ha; subst hb
  have hx : 2 ^ i * x < 4294967296 := by omega
  have e1 : BitVec.ofInt IntKind.u32.bits ((2 ^ i * x : Nat) : Int) = BitVec.ofNat 32 (2 ^ i * x) := by show BitVec.ofInt 32 _ = _; exact BitVec.ofInt_natCast ..
  have e2 : BitVec.ofInt IntKind.u32.bits ((y : Nat) : Int) = BitVec.ofNat 32 y := by show BitVec.ofInt 32 _ = _; exact BitVec.ofInt_natCast ..
  unfold bitop
  simp only [e1, e2]
  rw [wrap_u32_mod]
  show (((BitVec.ofNat 32 (2 ^ i * x) ||| BitVec.ofNat 32 y).toNat : Int)) % 4294967296 = _
  rw [BitVec.toNat_or, BitVec.toNat_ofNat, BitVec.toNat_ofNat, Nat.mod_eq_of_lt (by omega), Nat.mod_eq_of_lt (by omega), ← Nat.two_pow_add_eq_or_of_lt hy]
  omega

theorem SlG.one {tg : Option TypeId} {s : Value} {xs : List Value} {k : Nat} {Ls : List Blk} (h : SlG tg s xs k Ls) : S.one s = true := by
  rcases h with ⟨rfl, _, _⟩ | ⟨_, _, _, _, _, rfl, _⟩ <;> rfl
theorem Sl.one {s : Value} {xs : List Value} {k : Nat} {Ls : List Blk} (h : Sl s xs k Ls) : S.one s = true := by
  rcases h with ⟨rfl, _, _⟩ | ⟨_, _, _, _, _, rfl, _⟩ <;> rfl

theorem bstr_get {l : List UInt8} {i : Nat} {c : UInt8} (h : l[i]? = some c) : (bstr l)[i]? = some c := by
  have hi : i < l.length := by
    rcases Nat.lt_or_ge i l.length with h' | h'
    · exact h'
    · rw [List.getElem?_eq_none h'] at h; cases h
  have hs : i < (bstr l).size := hi
  rw [getElem?_pos (bstr l) i hs]
  rw [List.getElem?_eq_getElem hi] at h
  exact h

theorem bstr_append (l m : List UInt8) : bstr l ++ bstr m = bstr (l ++ m) := by
  apply ByteArray.ext
  simp [bstr]
theorem bstr_size (l : List UInt8) : (bstr l).size = l.length := rfl

/-- Two strings, one behind the other. -/
theorem V1.addB {C : Ctx} {e : Env} {L : List Blk} {dst : Option Tmp} {ty : TypeId} {pos : String} {after : Array Edge} {guard : Option (Nat × Bool)} {t yt : TypeId} {x y : Operand} {l m : List UInt8} (hx : ev C.n e x = .string (bstr l)) (hy : ev C.n e y = .string (bstr m)) (h : l.length + m.length < 9223372036854775808) :
    V1 C ⟨dst, .binOp .add t x y yt, ty, pos, after, guard⟩ e L (.string (bstr (l ++ m))) := by
  rw [← bstr_append]
  exact V1.addS hx hy h

/-- The bytes of a slice of one's own, as a string. -/
theorem V1.slToStr {C : Ctx} {e : Env} {L Ls L' : List Blk} {dst : Option Tmp} {ty : TypeId} {pos : String} {after : Array Edge} {guard : Option (Nat × Bool)} {s d el : TypeId} {x : Operand} {v : Value} {l : List UInt8} (hs : C.P.underlying s = some (.slice el)) (hel : C.P.underlying el = some (.int .u8)) (hd : C.P.underlying d = some .string)
    (hx : ev C.n e x = v) (hsl : Sl v (l.map byteV) 1 Ls) (hsub : Sub L Ls L' Ls) : V1 C ⟨dst, .convert s d x, ty, pos, after, guard⟩ e L (.string (bstr l)) := by
  obtain ⟨n, _, hsrc⟩ := hsl.src (C := C) hsub
  refine V1.bytesToStr hs hel hd hx hsrc ?_
  rcases hsl with ⟨rfl, _, _⟩ | ⟨_, _, _, _, _, rfl, _⟩ <;> (intro b h; cases h)

/-- One cell of an element of it. -/
theorem SlR.byte {C : Ctx} {L : List Blk} {b o c k n i j : Nat} {l : List UInt8} {x : UInt8} (h : SlR C.w0 (.slice (Option.some ⟨b, o, none⟩) n c) k n (l.map byteV)) (hm : C.M = []) (hx : l[i * k + j]? = Option.some x) : Rd C L ⟨b, o + i * k + j * 1, none⟩ (byteV x) := by
  rcases h with ⟨h, _, _⟩ | ⟨b', o', c', h, _, hl, hc⟩
  · cases h
  · cases h
    rw [Nat.mul_one, Nat.add_assoc]
    exact .old (hc (i * k + j) (byteV x) (by rw [List.getElem?_map, hx]; rfl)) (by rw [hm]; simp)

theorem getD_some {l : List UInt8} {i : Nat} (h : i < l.length) : l[i]? = some (l.getD i 0) := by
  rw [List.getD_eq_getElem?_getD, List.getElem?_eq_getElem h]; rfl

def u32V (n : Nat) : Value := .int .u32 n

theorem take_succ_flatten {α : Type} (l : List (List α)) (i : Nat) (x : List α) (h : l[i]? = some x) : (l.take (i + 1)).flatten = (l.take i).flatten ++ x := by
  rw [List.take_add_one, h]; simp


theorem SlR.st {C : Ctx} {L : List Blk} {v : Value} {k n : Nat} {vs : List Value} {w : World} (h : SlR C.w0 v k n vs) (hm : C.M = []) (hs : St C.w0 C.M L w) : SlR w v k n vs := by
  rcases h with h | ⟨b, o, c, rfl, hle, hl, hc⟩
  · exact .inl h
  · exact .inr ⟨b, o, c, rfl, hle, hl, fun i u hu => (Rd.old (L := L) (hc i u hu) (by rw [hm]; simp)).cell hs⟩

section
variable {C : Ctx} {K : Env → List Blk → Prop} {e : Env} {L : List Blk} {dst : Option Tmp} {ty : TypeId} {pos : String} {after : Array Edge} {guard : Option (Nat × Bool)}

theorem CellsAt.part {w : World} {b o l m : Nat} {vs : List Value} (h : CellsAt w ⟨b, o, none⟩ vs) : CellsAt w ⟨b, o + l, none⟩ ((vs.drop l).take m) := by
  intro i v hv
  rw [List.getElem?_take] at hv
  split at hv
  · rw [List.getElem?_drop] at hv
    have := h (l + i) v hv
    show w.cell? ⟨b, o + l + i, none⟩ = some v
    rw [Nat.add_assoc]; exact this
  · cases hv

/-- A slice that came in, sliced. -/
theorem T1.sliceR {t el : TypeId} {x : Operand} {lo hi : Option Operand} {v : Value} {n kz : Nat} {vs : List Value} {w0 : World} (hT : C.P.underlying t = some (.slice el)) (hk : SizeIs C.P el kz) (hx : ev C.n e x = v) (hs : SlR w0 v kz n vs) (l h : Nat)
    (hl : bd C.n e lo 0 = some (l : Int)) (hh : bd C.n e hi n = some (h : Int)) (h1 : l ≤ h) (h2 : h ≤ n) (k : ∀ v', SlR w0 v' kz (h - l) ((vs.drop (l * kz)).take ((h - l) * kz)) → K (putO e dst v') L) : T1 C ⟨dst, .slice t x lo hi none, ty, pos, after, guard⟩ K e L := by
  rcases hs with ⟨rfl, rfl, rfl⟩ | ⟨b, o, c, rfl, hle, hlen, hc⟩
  · obtain rfl : h = 0 := by omega
    obtain rfl : l = 0 := by omega
    exact V1.t (V1.sliceNil hT hk hx hl hh) (k _ (.inl ⟨rfl, rfl, by simp⟩))
  · refine V1.t (V1.sliceSl hT hk hx hl hh (by omega) (by omega) (by omega)) (k _ ?_)
    simp only [Int.toNat_natCast]
    have hm : h * kz ≤ n * kz := Nat.mul_le_mul_right _ h2
    have hml : l * kz ≤ h * kz := Nat.mul_le_mul_right _ h1
    refine .inr ⟨b, _, _, rfl, by omega, ?_, ?_⟩
    · rw [List.length_take, List.length_drop, hlen, Nat.sub_mul]; omega
    · split
      · have : h - l = 0 := by omega
        rw [this, Nat.zero_mul, List.take_zero]
        intro i u hu; simp at hu
      · exact hc.part

/-- make of cells of one kind. -/
theorem T1.make1 {t el : TypeId} {x y : Operand} {z : Value} {bytes : Nat} {kl kc : IntKind} (n m : Nat) (hT : C.P.underlying t = some (.slice el)) (hk : SizeIs C.P el 1) (hb : BytesIs C.P el bytes) (hz : ZeroIs C.P el z) (h1 : one z = true) (hx : ev C.n e x = .int kl n) (hy : ev C.n e y = .int kc m) (hnm : n ≤ m) (hroom : m * bytes ≤ 281474976710656) (h63 : m ≤ 9223372036854775807)
    (k : ∀ b, K (putO e dst (.slice (some ⟨b, 0, none⟩) n m)) (⟨b, 0, List.replicate n z, m⟩ :: L)) : T1 C ⟨dst, .makeSlice t x y, ty, pos, after, guard⟩ K e L := by
  intro a w K' Q' hr hs hK
  unfold Oper.wp
  rw [hr.eval]
  obtain ⟨i, hi, hib⟩ := Option.map_eq_some_iff.1 hb
  have hik : i.size = 1 := by have := hk; unfold SizeIs at this; rw [hi] at this; simpa using this
  have hiz : i.zero = some z := by have := hz; unfold ZeroIs at this; rw [hi] at this; simpa using this
  have hrun : (execOp (ev C.n e) ⟨dst, .makeSlice t x y, ty, pos, after, guard⟩).run C.P w = .ok (.value (.slice (some ⟨w.heap.size, 0, none⟩) n m)) (w.alloc (.cells (madeCells z.cells (m * 1)) el)) := by
    show (do pure (Next.value (← Instr.makeSlice t (ev C.n e x) (ev C.n e y))) : Sem Next).run C.P w = _
    rw [hx, hy]
    refine run_value ?_
    have hbm : (i.bytes : Int) * (m : Int) ≤ 281474976710656 := by
      rw [hib, ← Int.natCast_mul, Nat.mul_comm]; omega
    have := run_make (P := C.P) w t el i z hT hi hiz kl kc (n : Int) (m : Int) (by omega) (by omega) hbm (by omega)
    rw [hik] at this
    simpa using this
  rw [hrun]
  have hcs : madeCells z.cells (m * 1) = Array.replicate m z := by
    rw [cells_one h1, Nat.mul_one]
    apply Array.ext
    · simp [madeCells]
    · intro j h1 h2
      simp [madeCells, Nat.mod_one]
  have hst := hs.push (B := ⟨w.heap.size, 0, List.replicate n z, m⟩) (c := madeCells z.cells (m * 1)) (E := el) (lo := 0) (hi := 0) (k := w.drawn) rfl (by show 0 + (List.replicate n z).length ≤ m; simp; omega) (by rw [hcs]; simp) (by
    intro j hj
    have hj' : j < n := by simpa using hj
    rw [hcs]
    show (Array.replicate m z)[0 + j]? = (List.replicate n z)[j]?
    rw [Nat.zero_add, List.getElem?_replicate, if_pos hj']
    rw [Array.getElem?_replicate, if_pos (by omega)]) (.inl rfl)
  exact hK _ _ _ _ (hr.put _ _) hst (k _)

/-- A string of bytes, sliced. -/
theorem V1.sliceB {t : TypeId} {x : Operand} {lo hi : Option Operand} {s : List UInt8} (l h : Nat) (hT : C.P.underlying t = some .string) (hx : ev C.n e x = .string (bstr s)) (hl : bd C.n e lo 0 = some (l : Int)) (hh : bd C.n e hi s.length = some (h : Int)) (h1 : l ≤ h) (h2 : h ≤ s.length) :
    V1 C ⟨dst, .slice t x lo hi none, ty, pos, after, guard⟩ e L (.string (bstr ((s.drop l).take (h - l)))) := by
  have := V1.sliceS (C := C) (e := e) (L := L) (dst := dst) (ty := ty) (pos := pos) (after := after) (guard := guard) (s := bstr s) hT hx (l := (l : Int)) (h := (h : Int)) hl hh (by omega) (by omega) (by show (h : Int) ≤ ((bstr s).size : Nat); rw [bstr_size]; omega)
  have e1 : (bstr s).extract (l : Int).toNat (h : Int).toNat = bstr ((s.drop l).take (h - l)) := by
    apply ByteArray.ext
    apply Array.ext'
    simp [bstr, ByteArray.data_extract, List.extract_eq_take_drop]
  rw [e1] at this
  exact this
theorem map_byteV (l : List UInt8) : l.map byteV = (l.map fun c => (c.toNat : Int)).map (Value.int .u8) := by
  rw [List.map_map]; rfl
theorem map_toNat_inj {l m : List UInt8} (h : (l.map fun c => (c.toNat : Int)) = m.map fun c => (c.toNat : Int)) : l = m := by
  induction l generalizing m with
  | nil => cases m with
    | nil => rfl
    | cons _ _ => simp at h
  | cons c l ih => cases m with
    | nil => simp at h
    | cons d m =>
      simp only [List.map_cons, List.cons.injEq] at h
      have : c = d := UInt8.toNat_inj.1 (by omega)
      rw [this, ih h.2]

/-- Two arrays of bytes. -/
theorem V1.neBs {t el yt : TypeId} {x y : Operand} {n : Nat} {l m : List UInt8} {r : Bool} (hT : C.P.underlying t = some (.array n el)) (hE : C.P.underlying el = some (.int .u8)) (hk : SizeIs C.P el 1) (hg : Program.eqGuardType C.P C.P.depth t = false)
    (hx : ev C.n e x = .agg (l.map byteV).toArray) (hy : ev C.n e y = .agg (m.map byteV).toArray) (hxl : l.length = n) (hyl : m.length = n) (h : decide (l ≠ m) = r) : V1 C ⟨dst, .binOp .neq t x y yt, ty, pos, after, guard⟩ e L (.bool r) :=
  V1.neA (xs := l.map fun c => (c.toNat : Int)) (ys := m.map fun c => (c.toNat : Int)) hT hE hk hg (by rw [hx, map_byteV]) (by rw [hy, map_byteV]) (by simpa using hxl) (by simpa using hyl) (by
    rw [← h]
    by_cases he : l = m
    · subst he; simp
    · have : ¬ ((l.map fun c => (c.toNat : Int)) = m.map fun c => (c.toNat : Int)) := fun h' => he (map_toNat_inj h')
      simp [he, this])
theorem V1.eqBs {t el yt : TypeId} {x y : Operand} {n : Nat} {l m : List UInt8} {r : Bool} (hT : C.P.underlying t = some (.array n el)) (hE : C.P.underlying el = some (.int .u8)) (hk : SizeIs C.P el 1) (hg : Program.eqGuardType C.P C.P.depth t = false)
    (hx : ev C.n e x = .agg (l.map byteV).toArray) (hy : ev C.n e y = .agg (m.map byteV).toArray) (hxl : l.length = n) (hyl : m.length = n) (h : decide (l = m) = r) : V1 C ⟨dst, .binOp .eql t x y yt, ty, pos, after, guard⟩ e L (.bool r) :=
  V1.eqA (xs := l.map fun c => (c.toNat : Int)) (ys := m.map fun c => (c.toNat : Int)) hT hE hk hg (by rw [hx, map_byteV]) (by rw [hy, map_byteV]) (by simpa using hxl) (by simpa using hyl) (by
    rw [← h]
    by_cases he : l = m
    · subst he; simp
    · have : ¬ ((l.map fun c => (c.toNat : Int)) = m.map fun c => (c.toNat : Int)) := fun h' => he (map_toNat_inj h')
      simp [he, this])

theorem bstr_inj {l m : List UInt8} (h : bstr l = bstr m) : l = m := by
  have := congrArg (fun a => a.data.toList) h
  simpa [bstr] using this
/-- Two strings of bytes. -/
theorem T1.neS_split {t yt : TypeId} {x y : Operand} {l m : List UInt8} (hx : ev C.n e x = .string (bstr l)) (hy : ev C.n e y = .string (bstr m)) (k1 : l ≠ m → K (putO e dst (.bool true)) L) (k0 : l = m → K (putO e dst (.bool false)) L) : T1 C ⟨dst, .binOp .neq t x y yt, ty, pos, after, guard⟩ K e L := by
  by_cases h : l = m
  · exact V1.t (V1.neS hx hy (r := false) (by subst h; simp)) (k0 h)
  · exact V1.t (V1.neS hx hy (r := true) (by simp; exact fun h' => h (bstr_inj h'))) (k1 h)
theorem T1.eqS_split {t yt : TypeId} {x y : Operand} {l m : List UInt8} (hx : ev C.n e x = .string (bstr l)) (hy : ev C.n e y = .string (bstr m)) (k1 : l = m → K (putO e dst (.bool true)) L) (k0 : l ≠ m → K (putO e dst (.bool false)) L) : T1 C ⟨dst, .binOp .eql t x y yt, ty, pos, after, guard⟩ K e L := by
  by_cases h : l = m
  · exact V1.t (V1.eqS hx hy (r := true) (by subst h; simp)) (k1 h)
  · exact V1.t (V1.eqS hx hy (r := false) (by simp; exact fun h' => h (bstr_inj h'))) (k0 h)

/-- One cell, at a place that is reckoned; what the cells are then is said by whoever calls. -/
theorem T1.storeE {t : TypeId} {x y : Operand} {b o off size : Nat} {cells cells' : List Value} {L' : List Blk} {v : Value} (hp : ev C.n e x = .pointer (some ⟨b, o, none⟩)) (hv : ev C.n e y = v) (hk : SizeIs C.P t 1) (hone : S.one v = true)
    (hset : cells.set (o - off) v = cells') (hu : Sub L [⟨b, off, cells, size⟩] L' [⟨b, off, cells', size⟩]) (h1 : off ≤ o) (h2 : o < off + cells.length) (k : K (putO e dst undef) L') : T1 C ⟨dst, .store t x y, ty, pos, after, guard⟩ K e L := by
  subst hset
  exact T1.storeI hp hv hk hone hu h1 h2 k

/-- A slice of one's own that holds something, by its block. -/
theorem Sl.block {s : Value} {xs : List Value} {Ls : List Blk} (h : Sl s xs 1 Ls) (hne : xs ≠ []) : ∃ b off cap size, s = .slice (some ⟨b, off, none⟩) xs.length cap ∧ xs.length ≤ cap ∧ off + cap ≤ size ∧ Ls = [⟨b, off, xs, size⟩] := by
  rcases h with ⟨_, h, _⟩ | ⟨b, off, len, cap, size, rfl, h1, h2, h3, rfl⟩
  · exact absurd h hne
  · rw [Nat.mul_one] at h1 h3
    subst h1
    exact ⟨b, off, cap, size, rfl, h2, h3, rfl⟩
theorem RdN.at0 {L : List Blk} {b off size : Nat} {tg : Option TypeId} {cells : List Value} (hf : Find L ⟨⟨b, tg⟩, off, cells, size⟩) : RdN C L ⟨b, off, none⟩ cells := fun _ _ hv => Rd.at hf hv

/-- A slice of cells of one's own block, sliced: whoever is called next reads it. -/
theorem T1.sliceOwn {t el : TypeId} {x : Operand} {lo hi : Option Operand} {b off cap size : Nat} {cells : List Value} (hT : C.P.underlying t = some (.slice el)) (hk : SizeIs C.P el 1) (hf : Find L ⟨b, off, cells, size⟩) (hx : ev C.n e x = .slice (some ⟨b, off, none⟩) cells.length cap) (hle : cells.length ≤ cap) (l h : Nat)
    (hl : bd C.n e lo 0 = some (l : Int)) (hh : bd C.n e hi cells.length = some (h : Int)) (h1 : l ≤ h) (h2 : h ≤ cells.length) (k : ∀ v', (∀ w, St C.w0 C.M L w → SlR w v' 1 (h - l) ((cells.drop l).take (h - l))) → K (putO e dst v') L) : T1 C ⟨dst, .slice t x lo hi none, ty, pos, after, guard⟩ K e L := by
  refine V1.t (V1.sliceSl hT hk hx hl hh (by omega) (by omega) (by omega)) (k _ fun w hs => ?_)
  simp only [Int.toNat_natCast, Nat.mul_one]
  have hc : CellsAt w ⟨b, off, none⟩ cells := (RdN.at0 hf).cells hs
  refine .inr ⟨b, _, _, rfl, by omega, by rw [List.length_take, List.length_drop]; omega, ?_⟩
  split
  · have : h - l = 0 := by omega
    rw [this, List.take_zero]
    intro i u hu; simp at hu
  · exact hc.part

end

end Go.Proofs.YtlpkcbkflfbclaaDoor.S
