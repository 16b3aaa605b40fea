/- What lies in the memory of a frame that was copied; a frame that came in, opened. -/
import Derived.Test.YtijijaobialncaaOD
import Derived.Test.YtijijaobialncaaOpen
import Derived.Test.YtijijaobialncaaFrA
import Derived.ProofKit
import Derived.SizedLaws
namespace Go.Proofs.Ytijijaobialncaa.S
open Go.RowKit

theorem Sl.form1 {s : Value} {l : List UInt8} {Ls : List Blk} (h : Sl s (l.map byteV) 1 Ls) : ∃ a c, s = .slice a l.length c := by
  rcases h with ⟨rfl, h, _⟩ | ⟨b, off, len, cap, size, rfl, h1, h2, h3, rfl⟩
  · obtain rfl : l = [] := by simpa using h
    exact ⟨_, _, rfl⟩
  · rw [List.length_map, Nat.mul_one] at h1
    subst h1
    exact ⟨_, _, rfl⟩
theorem Sl.own1 {a : Option Addr} {n c : Nat} {l : List UInt8} {Ls : List Blk} (h : Sl (.slice a n c) (l.map byteV) 1 Ls) (hn : 0 < n) : ∃ b off size, a = some ⟨b, off, none⟩ ∧ l.length = n ∧ n ≤ c ∧ off + c * 1 ≤ size ∧ Ls = [⟨b, off, l.map byteV, size⟩] := by
  rcases h with ⟨h, _, _⟩ | ⟨b, off, len, cap, size, h0, h1, h2, h3, rfl⟩
  · cases h; omega
  · cases h0
    rw [List.length_map, Nat.mul_one] at h1
    exact ⟨b, off, size, rfl, h1, h2, h3, rfl⟩
theorem xor8 : ∀ k : Nat, k < 256 → ∀ n : Nat, n < 256 → bitop .xor .u8 (n : Int) (k : Int) = (((UInt8.ofNat n) ^^^ (UInt8.ofNat k)).toNat : Int) := by
  intro k hk n hn
  show IntKind.u8.wrap (((BitVec.ofInt 8 (n : Int)) ^^^ (BitVec.ofInt 8 (k : Int))).toNat : Int) = _
  rw [BitVec.ofInt_natCast, BitVec.ofInt_natCast, BitVec.toNat_xor, BitVec.toNat_ofNat, BitVec.toNat_ofNat, UInt8.toNat_xor, UInt8.toNat_ofNat', UInt8.toNat_ofNat', Nat.mod_eq_of_lt hn, Nat.mod_eq_of_lt hk]
  have h : n ^^^ k < 2 ^ 8 := Nat.xor_lt_two_pow hn hk
  exact wrap_u8 _ (by omega) (by omega)
theorem xorB {x : UInt8} (k : Nat) (hk : k < 256) : bitop .xor .u8 (x.toNat : Int) (k : Int) = ((x ^^^ UInt8.ofNat k).toNat : Int) := by
  have := xor8 k hk x.toNat x.toNat_lt
  rwa [UInt8.ofNat_toNat] at this

theorem addB : ∀ n : Nat, n < 256 → IntKind.u8.wrap ((n : Int) + 1) = (((UInt8.ofNat n) + 1).toNat : Int) := by decide +kernel
theorem addB1 (x : UInt8) : IntKind.u8.wrap ((x.toNat : Int) + 1) = ((x + 1).toNat : Int) := by
  have := addB x.toNat x.toNat_lt
  rwa [UInt8.ofNat_toNat] at this
/-- A slice of one's own, or one of nothing that has an address. -/
def SlE (s : Value) (xs : List Value) (k : Nat) (Ls : List Blk) : Prop := Sl s xs k Ls ∨ ∃ b o, s = .slice (some ⟨b, o, none⟩) 0 0 ∧ xs = [] ∧ Ls = []
theorem SlE.row {s : Value} {xs : List Value} {k : Nat} {Ls : List Blk} (h : SlE s xs k Ls) (w0 : World) {Ps : List Blk} (hi : Inc Ls Ps) (hk : 0 < k) (n : Nat) (hn : xs.length = n * k) : RowS w0 Ps k s n xs := by
  rcases h with h | ⟨b, o, rfl, rfl, rfl⟩
  · exact RowS.ofSl h hi hk n hn
  · have h0 : n = 0 := by
      rcases Nat.eq_zero_or_pos n with h | h
      · exact h
      · have := Nat.mul_pos h hk
        simp at hn; omega
    subst h0
    exact ⟨RowR.odd, .inr ⟨b, o, 0, rfl, Nat.le_refl _⟩⟩
theorem SlE.block {a : Option Addr} {n c k : Nat} {xs : List Value} {Ls : List Blk} (h : SlE (.slice a n c) xs k Ls) (hn : 0 < n) : ∃ b off size, a = some ⟨b, off, none⟩ ∧ xs.length = n * k ∧ n ≤ c ∧ off + c * k ≤ size ∧ Ls = [⟨b, off, xs, size⟩] := by
  rcases h with (⟨h, _, _⟩ | ⟨b, off, len, cap, size, h0, h1, h2, h3, rfl⟩) | ⟨b, o, h0, _, _⟩
  · cases h; omega
  · cases h0
    exact ⟨b, off, size, rfl, h1, h2, h3, rfl⟩
  · cases h0; omega
theorem SlE.cells {s : Value} {xs : List Value} {k : Nat} {Ls : List Blk} (h : SlE s xs k Ls) : ∀ B ∈ Ls, B.cells = xs := by
  rcases h with (⟨_, _, rfl⟩ | ⟨b, off, len, cap, size, _, _, _, _, rfl⟩) | ⟨b, o, _, _, rfl⟩
  · intro B hB; cases hB
  · intro B hB; rw [List.mem_singleton] at hB; subst hB; rfl
  · intro B hB; cases hB
theorem SlE.form {s : Value} {xs : List Value} {k : Nat} {Ls : List Blk} (h : SlE s xs k Ls) (n : Nat) (hn : xs.length = n * k) (hk : 0 < k) : ∃ a c, s = .slice a n c := by
  rcases h with (⟨rfl, rfl, _⟩ | ⟨b, off, len, cap, size, rfl, h1, _⟩) | ⟨b, o, rfl, rfl, _⟩
  · have h0 : n = 0 := by
      rcases Nat.eq_zero_or_pos n with h | h
      · exact h
      · have := Nat.mul_pos h hk
        simp at hn; omega
    subst h0; exact ⟨_, _, rfl⟩
  · obtain rfl : len = n := Nat.eq_of_mul_eq_mul_right hk (h1.symm.trans hn)
    exact ⟨_, _, rfl⟩
  · have h0 : n = 0 := by
      rcases Nat.eq_zero_or_pos n with h | h
      · exact h
      · have := Nat.mul_pos h hk
        simp at hn; omega
    subst h0; exact ⟨_, _, rfl⟩
/-- Of two finds in the same blocks: both at once. -/
theorem perm_two {Y Y1 Y2 Ls : List Blk} {B : Blk} (h1 : Y.Perm (B :: Y1)) (h2 : Y.Perm (Ls ++ Y2)) (hn : B ∉ Ls) : ∃ Y3, Y.Perm (B :: (Ls ++ Y3)) := by
  have hB : B ∈ Ls ++ Y2 := h2.mem_iff.1 (h1.mem_iff.2 (List.mem_cons_self ..))
  rcases List.mem_append.1 hB with hB | hB
  · exact absurd hB hn
  · obtain ⟨A, C, rfl⟩ := List.append_of_mem hB
    exact ⟨A ++ C, h2.trans (by rw [← List.append_assoc]; exact List.perm_middle.trans (by rw [List.append_assoc]))⟩
theorem T1.less {C : Ctx} {o : Oper} {K : Env → List Blk → Prop} {e : Env} {L L' J : List Blk} (hp : L.Perm (L' ++ J)) (h : T1 C o K e L') : T1 C o K e L :=
  fun a w K' Q' hr hs hK => h a w K' Q' hr ((hs.perm hp.symm).sub (List.sublist_append_left ..)) hK
section
variable {C : Ctx} {K : Env → List Blk → Prop} {e : Env} {L : List Blk} {dst : Option Tmp} {ty : TypeId} {pos : String} {after : Array Edge} {guard : Option (Nat × Bool)}
/-- append onto a slice of nothing. -/
theorem T1.appendOdd {x y : Operand} {t yt el : TypeId} {k n bytes b o : Nat} {v : Value} {new : List Value} {z : Value} (hT : C.P.underlying t = some (.slice el)) (hY : Kd C.P yt)
    (hk : SizeIs C.P el k) (hb : BytesIs C.P el bytes) (hz : ZeroIs C.P el z) (hzk : z.cells.size = k) (hkpos : 0 < k) (hbpos : 0 < bytes) (hx : ev C.n e x = .slice (some ⟨b, o, none⟩) 0 0) (hyv : ev C.n e y = v) (hsrc : Src C L k v n new) (hone : ∀ u ∈ new, one u = true)
    (hroom : (n + n / 4 + 192) * bytes ≤ 281474976710656)
    (kk : ∀ s' Ls', SlE s' new k Ls' → K (putO e dst s') (Ls' ++ L)) : T1 C ⟨dst, .call ⟨.builtin .append, (List.toArray [x, y]), (List.toArray [t, yt])⟩, ty, pos, after, guard⟩ K e L := by
  intro a w K' Q' hr hs hK
  unfold Oper.wp
  rw [hr.eval]
  have hnl := hsrc.len
  obtain ⟨iel, hiel, hibytes⟩ := Option.map_eq_some_iff.1 hb
  have hik : iel.size = k := by have := hk; unfold SizeIs at this; rw [hiel] at this; simpa using this
  have hiz : iel.zero = some z := by have := hz; unfold ZeroIs at this; rw [hiel] at this; simpa using this
  have hexec : execOp (ev C.n e) ⟨dst, .call ⟨.builtin .append, (List.toArray [x, y]), (List.toArray [t, yt])⟩, ty, pos, after, guard⟩ = (do pure (Next.value (← Builtin.append_ #[t, yt] ty #[.slice (some ⟨b, o, none⟩) 0 0, v])) : Sem Next) := by
    show Go.builtin .append #[t, yt] ty ((List.toArray [x, y]).map fun | .const _ => true | _ => false) ((List.toArray [x, y]).map (ev C.n e)) = _
    rw [show (List.toArray [x, y]).map (ev C.n e) = #[.slice (some ⟨b, o, none⟩) 0 0, v] from by rw [List.map_toArray]; simp [hx, hyv]]
    rfl
  rw [hexec]
  rcases Nat.eq_zero_or_pos n with h0 | h0
  · subst h0
    have : new = [] := List.eq_nil_of_length_eq_zero (by rw [hnl]; simp)
    subst this
    have hrun : (Builtin.append_ #[t, yt] ty #[.slice (some ⟨b, o, none⟩) 0 0, v]).run C.P w = .ok (.slice (some ⟨b, o, none⟩) 0 0) w :=
      run_append_room' (n := 0) (new := []) hT hY hiel (run_lenOf hsrc w) (by rw [hik]; exact run_firstCells hsrc hs) (Nat.le_refl _) rfl
    rw [run_value hrun]
    exact hK _ _ _ _ (hr.put _ _) hs (kk _ [] (.inr ⟨b, o, rfl, rfl, rfl⟩))
  · have hs1 : St C.w0 C.M L w.drew := hs.drew _ (Nat.le_succ _)
    have hnb : n ≤ 281474976710656 := by
      have : n * 1 ≤ (n + n / 4 + 192) * bytes := Nat.mul_le_mul (by omega) hbpos
      omega
    have hfit := growslice_fits_wide (need := 0 + n) (old := 0) (bytes := iel.bytes) (by omega) (by rw [hibytes, Nat.zero_add]; exact hroom)
    have hrun := run_append_grow' (ty := ty) (base := some ⟨b, o, none⟩) (sLen := 0) (sCap := 0) (old := []) hT hY hiel hiz (run_lenOf hsrc w) (by rw [hik]; exact run_firstCells hsrc hs1) (by rw [hik]; exact run_firstCells (C := C) (L := L) (k := k) (x := .slice (some ⟨b, o, none⟩) 0 0) .odd hs1) (by omega) (by omega) hfit
    have hge : 0 + n ≤ grownCap w (0 + n) 0 el := by unfold grownCap Question.cut; exact Nat.le_add_right _ _
    generalize grownCap w (0 + n) 0 el = nc at hge hrun
    rw [Nat.zero_add] at hge hrun
    have hzc : (Builtin.zeroCells z.cells (nc - n)).size = (nc - n) * k := by simp [Builtin.zeroCells, hzk]
    rw [run_value hrun]
    refine hK _ _ _ _ (hr.put _ _) (hs1.push (B := ⟨w.heap.size, 0, new, nc * k⟩) (c := ([] ++ new).toArray ++ Builtin.zeroCells z.cells (nc - n)) (E := el) (lo := 0) (hi := 0) (k := w.drawn + 1) rfl ?_ ?_ ?_ (by omega)) (kk _ [⟨w.heap.size, 0, new, nc * k⟩] (.inl (Sl.mk hnl hge (by omega))))
    · show 0 + new.length ≤ nc * k
      rw [hnl, Nat.zero_add]; exact Nat.mul_le_mul_right _ hge
    · have hsum : n * k + (nc - n) * k = nc * k := by rw [← Nat.add_mul]; congr 1; omega
      simp only [List.nil_append, Array.size_append, List.size_toArray, hnl, hzc]; exact hsum
    · intro i hi
      have hi' : i < new.length := hi
      show (([] ++ new).toArray ++ _)[0 + i]? = new[i]?
      rw [List.nil_append, Nat.zero_add, Array.getElem?_append, if_pos (by simpa using hi')]
      simp
theorem T1.storeY {t : TypeId} {x y : Operand} {b size k : Nat} {cells vs : List Value} {Y Y1 Y2 Ls : List Blk} (hp : ev C.n e x = .pointer (some ⟨b, 0, none⟩)) (hv : ev C.n e y = .agg vs.toArray) (hk : SizeIs C.P t k) (hone : ∀ u ∈ vs, one u = true)
    (h1 : Y.Perm (⟨b, 0, cells, size⟩ :: Y1)) (h2 : Y.Perm (Ls ++ Y2)) (hn : (⟨b, 0, cells, size⟩ : Blk) ∉ Ls) (hl : vs.length = cells.length) (hlk : vs.length = k)
    (kk : ∀ Y3, Y.Perm (⟨b, 0, cells, size⟩ :: (Ls ++ Y3)) → K (putO e dst undef) (⟨b, 0, vs, size⟩ :: (Ls ++ (Y3 ++ L)))) : T1 C ⟨dst, .store t x y, ty, pos, after, guard⟩ K e (Y ++ L) := by
  obtain ⟨Y3, h3⟩ := perm_two h1 h2 hn
  refine T1.less (L' := ⟨b, 0, cells, size⟩ :: (Ls ++ (Y3 ++ L))) (J := []) (by simpa using h3.append_right L) (T1.storeN hp hv hk hone Sub.one hl hlk (kk Y3 h3))
end
/-- A slice of nothing that has an address. -/
def ME : Value → List Blk → Prop := fun v _ => ∃ b, v = .slice (some ⟨b, 0, none⟩) 0 0
theorem ME.mono (v : Value) (Y Z : List Blk) (h : ME v Y) : ME v (Z ++ Y) := h
def MApp (k n : Nat) (xs : List Value) : Value → List Blk → Prop := fun v Y => ∃ a c Ls Y', v = .slice a n c ∧ Y.Perm (Ls ++ Y') ∧ SlE (.slice a n c) xs k Ls
theorem perm_more {Y Ls Y' : List Blk} (Z : List Blk) (h : Y.Perm (Ls ++ Y')) : (Z ++ Y).Perm (Ls ++ (Z ++ Y')) := ((List.Perm.append_left Z h).trans (by rw [← List.append_assoc, ← List.append_assoc]; exact List.perm_append_comm.append_right _))
theorem MApp.mono {k n : Nat} {xs : List Value} (v : Value) (Y Z : List Blk) (h : MApp k n xs v Y) : MApp k n xs v (Z ++ Y) := by
  obtain ⟨a, c, Ls, Y', h1, h2, h3⟩ := h
  exact ⟨a, c, Ls, _, h1, perm_more Z h2, h3⟩
theorem MApp.new {k n : Nat} {xs : List Value} {s : Value} {Ls Y : List Blk} (h : SlE s xs k Ls) (hn : xs.length = n * k) (hk : 0 < k) : MApp k n xs s (Ls ++ Y) := by
  obtain ⟨a, c, rfl⟩ := h.form n hn hk
  exact ⟨a, c, Ls, Y, rfl, List.Perm.refl _, h⟩
def MPtr (z : List Value) : Value → List Blk → Prop := fun v Y => ∃ b Y', v = .pointer (some ⟨b, 0, none⟩) ∧ Y.Perm (⟨b, 0, z, 5⟩ :: Y')
theorem MPtr.mono {z : List Value} (v : Value) (Y Z : List Blk) (h : MPtr z v Y) : MPtr z v (Z ++ Y) := by
  obtain ⟨b, Y', h1, h2⟩ := h
  exact ⟨b, _, h1, perm_more (Ls := [_]) Z h2⟩
def MFrm (f : Frm) : Value → List Blk → Prop := fun v Y => ∃ ka kc na nc sa sc da dc Lk Yk Ln Yn Ls Ys Ld Yd, v = .agg (List.toArray [.int .i64 f.kind, .slice ka f.keys.length kc, .slice na f.nums.length nc, .slice sa f.sigs.length sc, .slice da f.data.length dc]) ∧
  (Y.Perm (Lk ++ Yk) ∧ SlE (.slice ka f.keys.length kc) (f.keys.flatten.map byteV) 32 Lk) ∧ (Y.Perm (Ln ++ Yn) ∧ SlE (.slice na f.nums.length nc) (f.nums.map u32V) 1 Ln) ∧ (Y.Perm (Ls ++ Ys) ∧ SlE (.slice sa f.sigs.length sc) (f.sigs.flatten.map byteV) 64 Ls) ∧ (Y.Perm (Ld ++ Yd) ∧ SlE (.slice da f.data.length dc) (f.data.map byteV) 1 Ld)
theorem MFrm.mono {f : Frm} (v : Value) (Y Z : List Blk) (h : MFrm f v Y) : MFrm f v (Z ++ Y) := by
  obtain ⟨ka, kc, na, nc, sa, sc, da, dc, Lk, Yk, Ln, Yn, Ls, Ys, Ld, Yd, h1, ⟨p1, q1⟩, ⟨p2, q2⟩, ⟨p3, q3⟩, ⟨p4, q4⟩⟩ := h
  exact ⟨ka, kc, na, nc, sa, sc, da, dc, Lk, _, Ln, _, Ls, _, Ld, _, h1, ⟨perm_more Z p1, q1⟩, ⟨perm_more Z p2, q2⟩, ⟨perm_more Z p3, q3⟩, ⟨perm_more Z p4, q4⟩⟩
def zF : List Value := [.int .i64 0, .slice none 0 0, .slice none 0 0, .slice none 0 0, .slice none 0 0]
theorem notin {s : Value} {xs : List Value} {k : Nat} {Ls : List Blk} {b : Nat} (h : SlE s xs k Ls) (hx : ∀ u ∈ xs, u ≠ .int .i64 0) : (⟨b, 0, zF, 5⟩ : Blk) ∉ Ls := by
  intro hB
  have := h.cells _ hB
  dsimp only at this
  exact hx (.int .i64 0) (by rw [← this]; exact List.mem_cons_self ..) rfl
theorem byte_no (l : List UInt8) : ∀ u ∈ l.map byteV, u ≠ .int .i64 0 := by
  intro u hu h
  obtain ⟨c, _, rfl⟩ := List.mem_map.1 hu
  cases h
theorem u32_no (l : List Nat) : ∀ u ∈ l.map u32V, u ≠ .int .i64 0 := by
  intro u hu h
  obtain ⟨c, _, rfl⟩ := List.mem_map.1 hu
  cases h
theorem inc_rest {Y Ls Y' Lk Y3 : List Blk} {B : Blk} (h : Y.Perm (Ls ++ Y')) (h3 : Y.Perm (B :: (Lk ++ Y3))) (hn : B ∉ Ls) : Inc Ls (Lk ++ Y3) := fun x hx => by
  have := h3.mem_iff.1 (h.mem_iff.2 (List.mem_append_left _ hx))
  rcases List.mem_cons.1 this with rfl | this
  · exact absurd hx hn
  · exact this
end Go.Proofs.Ytijijaobialncaa.S
