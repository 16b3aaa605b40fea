/- Frames as lists of bytes: plain definitions and laws, with no program in sight. -/
import Derived.Test.YtgibhdjhgobdnaaOps4
namespace Go.Proofs.Ytgibhdjhgobdnaa.S

/-- Four bytes of a number. -/
def be32 (n : Nat) : List UInt8 := [UInt8.ofNat (n / 16777216), UInt8.ofNat (n / 65536), UInt8.ofNat (n / 256), UInt8.ofNat n]

/-- How many keys, numbers and signatures a kind of frame has, and whether it has data. -/
def shp (k : Int) : Option (Nat × Nat × Nat × Bool) :=
  if k = 1 then some (4, 2, 1, false) else if k = 2 then some (3, 2, 0, true) else if k = 3 then some (1, 2, 0, true) else if k = 4 then some (3, 2, 0, false)
  else if k = 5 then some (1, 2, 1, true) else if k = 6 then some (3, 3, 1, true) else if k = 7 then some (1, 1, 0, true) else none

/-- A frame's bytes, or the error's number. -/
def encF (kind : Int) (keys : List (List UInt8)) (nums : List Nat) (sigs : List (List UInt8)) (data : List UInt8) : Except Int (List UInt8) :=
  match shp kind with
  | none => .error 110
  | some (a, b, c, d) =>
    if keys.length ≠ a ∨ nums.length ≠ b ∨ sigs.length ≠ c ∨ (d = false ∧ 0 < data.length) then .error 110
    else if 16384 < data.length then .error 2
    else .ok (UInt8.ofNat kind.toNat :: (keys.flatten ++ (nums.flatMap be32 ++ (sigs.flatten ++ (if d then be32 data.length ++ data else [])))))

theorem shp_range {k : Int} {x : Nat × Nat × Nat × Bool} (h : shp k = some x) : 1 ≤ k ∧ k ≤ 7 := by
  unfold shp at h
  repeat (split at h; · omega)
  cases h

theorem shr_u {n : Nat} {k : Int} {b m : Nat} (h : min k.toNat b = m) : (n : Int).fdiv (2 ^ min k.toNat b) = ((n / 2 ^ m : Nat) : Int) := by
  rw [h, Int.fdiv_eq_ediv_of_nonneg _ (Int.pow_nonneg (by decide))]
  simp
theorem u8_nat (m : Nat) : IntKind.u8.wrap (m : Int) = ((UInt8.ofNat m).toNat : Int) := by
  rw [wrap_u8_mod]; simp [UInt8.toNat_ofNat]
theorem quo_nat {n : Nat} {k : Int} (m : Nat) (hk : k = m) (hn : n < 9223372036854775808) : IntKind.i64.wrap ((n : Int).tdiv k) = ((n / m : Nat) : Int) := by
  subst hk
  rw [← Int.ofNat_tdiv]
  have h1 := Nat.div_le_self n m
  generalize n / m = q at *
  exact wrap_i64 _ (by omega) (by omega)
theorem rem_nat {n : Nat} {k : Int} (m : Nat) (hk : k = m) : (n : Int).tmod k = ((n % m : Nat) : Int) := by
  subst hk; rw [Int.ofNat_tmod]
theorem u8_kind {k : Int} (h1 : 0 ≤ k) (h2 : k < 256) : IntKind.u8.wrap k = ((UInt8.ofNat k.toNat).toNat : Int) := by
  rw [wrap_u8 k h1 h2]; simp [UInt8.toNat_ofNat]; omega
theorem ofNat_mod (m : Nat) : UInt8.ofNat (m % 256) = UInt8.ofNat m := by
  apply UInt8.toNat_inj.1; simp [UInt8.toNat_ofNat]
theorem u8_lt (c : UInt8) : c.toNat < 256 := c.toNat_lt

/-- What a slice that came in, or that another function made, holds. -/
def SlR (w : World) (v : Value) (k n : Nat) (vs : List Value) : Prop :=
  (v = .slice none 0 0 ∧ n = 0 ∧ vs = []) ∨ ∃ b o c, v = .slice (some ⟨b, o, none⟩) n c ∧ vs.length = n * k ∧ CellsAt w ⟨b, o, none⟩ vs

theorem SlR.len {w : World} {v : Value} {k n : Nat} {vs : List Value} (h : SlR w v k n vs) : vs.length = n * k := by
  rcases h with ⟨_, rfl, rfl⟩ | ⟨_, _, _, _, h, _⟩
  · simp
  · exact h

/-- In a call that writes no old memory. -/
theorem SlR.src {C : Ctx} {L : List Blk} {v : Value} {k n : Nat} {vs : List Value} (h : SlR C.w0 v k n vs) (hm : C.M = []) : Src C L k v n vs := by
  rcases h with ⟨rfl, rfl, rfl⟩ | ⟨b, o, c, rfl, hl, hc⟩
  · exact .nil
  · exact .sl (RdN.old hc (by rw [hm]; simp)) hl

theorem Src.slr {C : Ctx} {L : List Blk} {v : Value} {k n : Nat} {vs : List Value} {w : World} (h : Src C L k v n vs) (hs : St C.w0 C.M L w) (hv : ∀ b, v ≠ .string b) (hn : v = .slice none 0 0 ∨ ∃ a b c, v = .slice (some a) b c) : SlR w v k n vs := by
  cases h with
  | nil =>
    rcases hn with h | ⟨_, _, _, h⟩
    · exact .inl ⟨h, rfl, rfl⟩
    · cases h
  | sl hr hl => exact .inr ⟨_, _, _, rfl, hl, hr.cells hs⟩
  | str _ => exact absurd rfl (hv _)

theorem Sl.slr {C : Ctx} {L Ls G : List Blk} {v : Value} {k : Nat} {vs : List Value} {w : World} (h : Sl v vs k Ls) (hp : PickS L Ls G) (hs : St C.w0 C.M L w) : ∃ n, vs.length = n * k ∧ SlR w v k n vs := by
  have hs' := hs.perm hp.perm.symm
  rcases h with ⟨rfl, rfl, rfl⟩ | ⟨b, off, len, cap, size, rfl, h1, h2, h3, rfl⟩
  · exact ⟨0, by simp, .inl ⟨rfl, rfl, rfl⟩⟩
  · refine ⟨len, h1, .inr ⟨b, off, cap, rfl, h1, fun i u hu => ?_⟩⟩
    have hin := hs'.inw ⟨b, off, vs, size⟩ (by simp)
    refine hin.cell (o := off + i) ?_
    show (bif Nat.ble off (off + i) then vs[off + i - off]? else none) = some u
    rw [Nat.ble_eq_true_of_le (Nat.le_add_right off i), Nat.add_sub_cancel_left]; exact hu

/-- One element of it. -/
theorem SlR.elem {C : Ctx} {L : List Blk} {b o c k n i : Nat} {vs : List Value} (h : SlR C.w0 (.slice (some ⟨b, o, none⟩) n c) k n vs) (hm : C.M = []) (hi : i < n) : ((vs.drop (i * k)).take k).length = k ∧ RdN C L ⟨b, o + i * k, none⟩ ((vs.drop (i * k)).take k) := by
  rcases h with ⟨h, _, _⟩ | ⟨b', o', c', h, hl, hc⟩
  · cases h
  · cases h
    have hle : i * k + k ≤ n * k := by rw [← Nat.succ_mul]; exact Nat.mul_le_mul_right _ hi
    refine ⟨by simp; omega, RdN.old (fun j v hv => ?_) (by rw [hm]; simp)⟩
    show C.w0.cell? ⟨b, o + i * k + j, none⟩ = some v
    rw [List.getElem?_take] at hv
    split at hv
    · rw [List.getElem?_drop] at hv
      have := hc (i * k + j) v hv
      rw [Nat.add_assoc]; exact this
    · cases hv

theorem flatten_drop {α : Type} {k : Nat} : ∀ (l : List (List α)) (i : Nat), (∀ x ∈ l, x.length = k) → ∀ x, l[i]? = some x → (l.flatten.drop (i * k)).take k = x := by
  intro l
  induction l with
  | nil => intro i _ x h; simp at h
  | cons y l ih =>
    intro i hl x hx
    cases i with
    | zero =>
      simp only [List.getElem?_cons_zero, Option.some.injEq] at hx; subst hx
      have := hl y (by simp)
      simp [← this]
    | succ i =>
      simp only [List.getElem?_cons_succ] at hx
      have hy := hl y (by simp)
      rw [List.flatten_cons, Nat.succ_mul, List.drop_append, List.drop_eq_nil_of_le (by omega), List.nil_append, hy, Nat.add_sub_cancel]
      exact ih i (fun z hz => hl z (by simp [hz])) x hx

theorem SlR.form {w : World} {v : Value} {k n : Nat} {vs : List Value} (h : SlR w v k n vs) : ∃ a c, v = .slice a n c := by
  rcases h with ⟨rfl, rfl, _⟩ | ⟨b, o, c, rfl, _⟩
  · exact ⟨_, _, rfl⟩
  · exact ⟨_, _, rfl⟩

theorem SlR.isSome {w : World} {a : Option Addr} {k n c : Nat} {vs : List Value} (h : SlR w (.slice a n c) k n vs) (hn : 0 < n) : ∃ b o, a = some ⟨b, o, none⟩ := by
  rcases h with ⟨_, rfl, _⟩ | ⟨b, o, c, h, _⟩
  · omega
  · cases h; exact ⟨b, o, rfl⟩

theorem SlR.elemB {C : Ctx} {L : List Blk} {b o c k n i : Nat} {xs : List (List UInt8)} {x : List UInt8} (h : SlR C.w0 (.slice (Option.some ⟨b, o, none⟩) n c) k n (xs.flatten.map byteV)) (hm : C.M = []) (hl : ∀ x ∈ xs, x.length = k) (hi : i < n) (hx : xs[i]? = Option.some x) : RdN C L ⟨b, o + i * k, none⟩ (x.map byteV) := by
  have := (SlR.elem (L := L) h hm hi).2
  rw [← List.map_drop, ← List.map_take, flatten_drop xs i hl x hx] at this
  exact this

/-- One cell of it. -/
theorem SlR.cell {C : Ctx} {L : List Blk} {b o c n i : Nat} {vs : List Value} {v : Value} (h : SlR C.w0 (.slice (Option.some ⟨b, o, none⟩) n c) 1 n vs) (hm : C.M = []) (hv : vs[i]? = Option.some v) : Rd C L ⟨b, o + i * 1, none⟩ v := by
  rcases h with ⟨h, _, _⟩ | ⟨b', o', c', h, hl, hc⟩
  · cases h
  · cases h
    rw [Nat.mul_one]
    exact .old (hc i v hv) (by rw [hm]; simp)

theorem Rd.at {C : Ctx} {L : List Blk} {b off size i : Nat} {cells : List Value} {v : Value} (hf : Find L ⟨b, off, cells, size⟩) (h : cells[i]? = Option.some v) : Rd C L ⟨b, off + i, none⟩ v :=
  .own hf (by
    show (bif Nat.ble off (off + i) then cells[off + i - off]? else none) = Option.some v
    rw [Nat.ble_eq_true_of_le (Nat.le_add_right off i), Nat.add_sub_cancel_left]; exact h)

theorem Sl.one {s : Value} {xs : List Value} {k : Nat} {Ls : List Blk} (h : Sl s xs k Ls) : S.one s = true := by
  rcases h with ⟨rfl, _, _⟩ | ⟨_, _, _, _, _, rfl, _⟩ <;> rfl

theorem bstr_get {l : List UInt8} {i : Nat} {c : UInt8} (h : l[i]? = some c) : (bstr l)[i]? = some c := by
  have hi : i < l.length := by
    rcases Nat.lt_or_ge i l.length with h' | h'
    · exact h'
    · rw [List.getElem?_eq_none h'] at h; cases h
  have hs : i < (bstr l).size := hi
  rw [getElem?_pos (bstr l) i hs]
  rw [List.getElem?_eq_getElem hi] at h
  exact h

theorem bstr_append (l m : List UInt8) : bstr l ++ bstr m = bstr (l ++ m) := by
  apply ByteArray.ext
  simp [bstr]
theorem bstr_size (l : List UInt8) : (bstr l).size = l.length := rfl

/-- Two strings, one behind the other. -/
theorem V1.addB {C : Ctx} {e : Env} {L : List Blk} {dst : Option Tmp} {ty : TypeId} {pos : String} {after : Array Edge} {guard : Option (Nat × Bool)} {t yt : TypeId} {x y : Operand} {l m : List UInt8} (hx : ev C.n e x = .string (bstr l)) (hy : ev C.n e y = .string (bstr m)) (h : l.length + m.length < 9223372036854775808) :
    V1 C ⟨dst, .binOp .add t x y yt, ty, pos, after, guard⟩ e L (.string (bstr (l ++ m))) := by
  rw [← bstr_append]
  exact V1.addS hx hy h

/-- The bytes of a slice of one's own, as a string. -/
theorem V1.slToStr {C : Ctx} {e : Env} {L Ls L' : List Blk} {dst : Option Tmp} {ty : TypeId} {pos : String} {after : Array Edge} {guard : Option (Nat × Bool)} {s d el : TypeId} {x : Operand} {v : Value} {l : List UInt8} (hs : C.P.underlying s = some (.slice el)) (hel : C.P.underlying el = some (.int .u8)) (hd : C.P.underlying d = some .string)
    (hx : ev C.n e x = v) (hsl : Sl v (l.map byteV) 1 Ls) (hsub : Sub L Ls L' Ls) : V1 C ⟨dst, .convert s d x, ty, pos, after, guard⟩ e L (.string (bstr l)) := by
  obtain ⟨n, _, hsrc⟩ := hsl.src (C := C) hsub
  refine V1.bytesToStr hs hel hd hx hsrc ?_
  rcases hsl with ⟨rfl, _, _⟩ | ⟨_, _, _, _, _, rfl, _⟩ <;> (intro b h; cases h)

/-- One cell of an element of it. -/
theorem SlR.byte {C : Ctx} {L : List Blk} {b o c k n i j : Nat} {l : List UInt8} {x : UInt8} (h : SlR C.w0 (.slice (Option.some ⟨b, o, none⟩) n c) k n (l.map byteV)) (hm : C.M = []) (hx : l[i * k + j]? = Option.some x) : Rd C L ⟨b, o + i * k + j * 1, none⟩ (byteV x) := by
  rcases h with ⟨h, _, _⟩ | ⟨b', o', c', h, hl, hc⟩
  · cases h
  · cases h
    rw [Nat.mul_one, Nat.add_assoc]
    exact .old (hc (i * k + j) (byteV x) (by rw [List.getElem?_map, hx]; rfl)) (by rw [hm]; simp)

/-- The number of four bytes at a place. -/
def rd32 (l : List UInt8) (i : Nat) : Nat := (l.getD i 0).toNat * 16777216 + (l.getD (i + 1) 0).toNat * 65536 + (l.getD (i + 2) 0).toNat * 256 + (l.getD (i + 3) 0).toNat

theorem getD_some {l : List UInt8} {i : Nat} (h : i < l.length) : l[i]? = some (l.getD i 0) := by
  rw [List.getD_eq_getElem?_getD, List.getElem?_eq_getElem h]; rfl

def u32V (n : Nat) : Value := .int .u32 n

theorem take_succ_flatten {α : Type} (l : List (List α)) (i : Nat) (x : List α) (h : l[i]? = some x) : (l.take (i + 1)).flatten = (l.take i).flatten ++ x := by
  rw [List.take_add_one, h]; simp

end Go.Proofs.Ytgibhdjhgobdnaa.S
