/- Append, copy, make, strings and bytes, equality of arrays; regions that draw their order. Holds for every program. -/
import Derived.Test.YtlpkcbkflfbclaaDoorOps2
import Derived.Deep.AppendSrc
import Derived.Deep.DeepAppendWide
namespace Go.Proofs.YtlpkcbkflfbclaaDoor.S
open Go.RowKit

/-- A byte as a value. -/
def byteV (c : UInt8) : Value := .int .u8 c.toNat
/-- A list of bytes as a string. -/
def bstr (l : List UInt8) : ByteArray := ⟨l.toArray⟩
theorem one_byteV (c : UInt8) : one (byteV c) = true := rfl
theorem one_bytes (l : List UInt8) : ∀ v ∈ l.map byteV, one v = true := fun v hv => by obtain ⟨c, _, rfl⟩ := List.mem_map.1 hv; rfl

/-- A slice of the call's own: nil and empty, or its elements' cells lie in a block (and nothing is known behind them); tg: the type as which the block was made, where that matters. -/
def SlG (tg : Option TypeId) (s : Value) (xs : List Value) (k : Nat) (Ls : List Blk) : Prop :=
  (s = .slice none 0 0 ∧ xs = [] ∧ Ls = []) ∨
  ∃ b off len cap size, s = .slice (some ⟨b, off, none⟩) len cap ∧ xs.length = len * k ∧ len ≤ cap ∧ off + cap * k ≤ size ∧ Ls = [⟨⟨b, tg⟩, off, xs, size⟩]
def Sl (s : Value) (xs : List Value) (k : Nat) (Ls : List Blk) : Prop := SlG none s xs k Ls

theorem SlG.nil {tg : Option TypeId} {k : Nat} : SlG tg (.slice none 0 0) [] k [] := .inl ⟨rfl, rfl, rfl⟩
theorem SlG.mk {tg : Option TypeId} {b off len cap size k : Nat} {xs : List Value} (h1 : xs.length = len * k) (h2 : len ≤ cap) (h3 : off + cap * k ≤ size) : SlG tg (.slice (some ⟨b, off, none⟩) len cap) xs k [⟨⟨b, tg⟩, off, xs, size⟩] :=
  .inr ⟨b, off, len, cap, size, rfl, h1, h2, h3, rfl⟩
theorem Sl.nil {k : Nat} : Sl (.slice none 0 0) [] k [] := .inl ⟨rfl, rfl, rfl⟩
theorem Sl.mk {b off len cap size k : Nat} {xs : List Value} (h1 : xs.length = len * k) (h2 : len ≤ cap) (h3 : off + cap * k ≤ size) : Sl (.slice (some ⟨b, off, none⟩) len cap) xs k [⟨b, off, xs, size⟩] :=
  .inr ⟨b, off, len, cap, size, rfl, h1, h2, h3, rfl⟩

/-- What a slice or a string that is read holds: n elements of k cells each. -/
inductive Src (C : Ctx) (L : List Blk) (k : Nat) : Value → Nat → List Value → Prop
  | nil {c : Nat} : Src C L k (.slice none 0 c) 0 []
  | odd {a : Addr} {c : Nat} : Src C L k (.slice (some a) 0 c) 0 []
  | sl {b o n c : Nat} {vs : List Value} : RdN C L ⟨b, o, none⟩ vs → vs.length = n * k → Src C L k (.slice (some ⟨b, o, none⟩) n c) n vs
  | str {s : ByteArray} : k = 1 → Src C L k (.string s) s.size (s.data.toList.map byteV)

theorem Sub.find {L L' Y : List Blk} {B : Blk} (h : Sub L [B] L' Y) : Find L B := by
  obtain ⟨F, G, rfl, _⟩ := h.split
  exact .far .here

theorem SlG.src {tg : Option TypeId} {C : Ctx} {s : Value} {xs : List Value} {k : Nat} {L Ls L' Y : List Blk} (h : SlG tg s xs k Ls) (hs : Sub L Ls L' Y) : ∃ n, xs.length = n * k ∧ Src C L k s n xs := by
  rcases h with ⟨rfl, rfl, rfl⟩ | ⟨b, off, len, cap, size, rfl, h1, h2, h3, rfl⟩
  · exact ⟨0, by simp, .nil⟩
  · exact ⟨len, h1, .sl (RdN.own hs.find fun i v hv => by
      show (bif Nat.ble off (off + i) then xs[off + i - off]? else none) = some v
      rw [Nat.ble_eq_true_of_le (Nat.le_add_right off i), Nat.add_sub_cancel_left]; exact hv) h1⟩

theorem Sl.src {C : Ctx} {s : Value} {xs : List Value} {k : Nat} {L Ls L' Y : List Blk} (h : Sl s xs k Ls) (hs : Sub L Ls L' Y) : ∃ n, xs.length = n * k ∧ Src C L k s n xs := SlG.src h hs

section rules
variable {C : Ctx} {K : Env → List Blk → Prop} {e : Env} {L : List Blk}
variable {dst : Option Tmp} {ty : TypeId} {pos : String} {after : Array Edge} {guard : Option (Nat × Bool)}

theorem run_lenOf {P : Program} {k n : Nat} {x : Value} {vs : List Value} (h : Src C L k x n vs) (w : World) : (Builtin.lenOf x).run P w = .ok n w := by cases h <;> rfl

theorem run_firstCells {k n : Nat} {x : Value} {vs : List Value} (h : Src C L k x n vs) {w : World} (hs : St C.w0 C.M L w) : (Builtin.firstCells k n x).run C.P w = .ok vs.toArray w := by
  cases h with
  | nil => rfl
  | @odd a c =>
    show (loadCells a (0 * k)).run C.P w = _
    rw [Nat.zero_mul]; rfl
  | sl hr hl => exact run_loadCells hl (hr.cells hs)
  | @str s hk =>
    subst hk
    exact Go.firstCells_string s w

theorem Src.len {k n : Nat} {x : Value} {vs : List Value} (h : Src C L k x n vs) : vs.length = n * k := by
  cases h with
  | nil => simp
  | odd => simp
  | sl _ hl => exact hl
  | @str s hk => subst hk; rw [List.length_map, Array.length_toList, Nat.mul_one]; rfl

theorem SlG.form {tg : Option TypeId} {s : Value} {xs : List Value} {k : Nat} {Ls : List Blk} (h : SlG tg s xs k Ls) (hk : 0 < k) {F G : List Blk} : ∃ base sLen sCap, s = .slice base sLen sCap ∧ xs.length = sLen * k ∧ Src C (F ++ (Ls ++ G)) k s sLen xs := by
  rcases h with ⟨rfl, rfl, rfl⟩ | ⟨b, off, len, cap, size, rfl, h1, h2, h3, rfl⟩
  · exact ⟨none, 0, 0, rfl, by simp, .nil⟩
  · obtain ⟨m, hm, hsr⟩ := SlG.src (C := C) (SlG.mk (tg := tg) (b := b) (off := off) h1 h2 h3) (.far .here : Sub (F ++ ([⟨⟨b, tg⟩, off, xs, size⟩] ++ G)) _ (F ++ ([] ++ G)) [])
    have : m = len := Nat.eq_of_mul_eq_mul_right hk (by omega)
    subst this
    exact ⟨_, _, _, rfl, h1, hsr⟩

theorem Sl.form {s : Value} {xs : List Value} {k : Nat} {Ls : List Blk} (h : Sl s xs k Ls) (hk : 0 < k) {F G : List Blk} : ∃ base sLen sCap, s = .slice base sLen sCap ∧ xs.length = sLen * k ∧ Src C (F ++ (Ls ++ G)) k s sLen xs := SlG.form h hk

/-- The type of what is appended: a slice's or a string's. -/
def Kd (P : Program) (t : TypeId) : Prop := (∃ e', P.underlying t = some (.slice e')) ∨ P.underlying t = some .string

theorem run_append_room' {P : Program} {t yt el : TypeId} {i : TypeInfo} (hT : P.underlying t = some (.slice el)) (hY : Kd P yt) (hi : P.info? el = some i) {b off sLen sCap n : Nat} {v : Value} {new : List Value} {w w' : World}
    (h1 : (Builtin.lenOf v).run P w = .ok n w) (h2 : (Builtin.firstCells i.size n v).run P w = .ok new.toArray w) (hle : sLen + n ≤ sCap) (h3 : (storeCells ⟨b, off + sLen * i.size, none⟩ new 0).run P w = .ok () w') :
    (Builtin.append_ #[t, yt] ty #[.slice (some ⟨b, off, none⟩) sLen sCap, v]).run P w = .ok (.slice (some ⟨b, off, none⟩) (sLen + n) sCap) w' := by
  rcases hY with ⟨e', hY⟩ | hY <;> simp [Builtin.append_, Go.run_underlying hT, Go.run_underlying hY, sizeOf, typeInfo, hi, h1, hle, h2, addr_add, h3]

theorem run_append_room0 {P : Program} {t yt el : TypeId} {i : TypeInfo} (hT : P.underlying t = some (.slice el)) (hY : Kd P yt) (hi : P.info? el = some i) {v : Value} {w : World}
    (h1 : (Builtin.lenOf v).run P w = .ok 0 w) (h2 : (Builtin.firstCells i.size 0 v).run P w = .ok #[] w) :
    (Builtin.append_ #[t, yt] ty #[.slice none 0 0, v]).run P w = .ok (.slice none 0 0) w := by
  rcases hY with ⟨e', hY⟩ | hY <;> simp [Builtin.append_, Go.run_underlying hT, Go.run_underlying hY, sizeOf, typeInfo, hi, h1, h2]

theorem run_append_grow' {P : Program} {t yt el : TypeId} {i : TypeInfo} {z : Value} (hT : P.underlying t = some (.slice el)) (hY : Kd P yt) (hi : P.info? el = some i) (hz : i.zero = some z) {base : Option Addr} {sLen sCap n : Nat} {v : Value} {old new : List Value} {w : World}
    (h1 : (Builtin.lenOf v).run P w = .ok n w) (h2 : (Builtin.firstCells i.size n v).run P w.drew = .ok new.toArray w.drew) (h3 : (Builtin.firstCells i.size sLen (.slice base sLen sCap)).run P w.drew = .ok old.toArray w.drew) (hlt : sCap < sLen + n)
    (h63 : ((sLen + n : Nat) : Int) ≤ 9223372036854775807) (hfit : Builtin.nextslicecap (sLen + n) sCap * i.bytes ≤ 281474976710656) :
    (Builtin.append_ #[t, yt] ty #[.slice base sLen sCap, v]).run P w = .ok (.slice (some ⟨w.heap.size, 0, none⟩) (sLen + n) (grownCap w (sLen + n) sCap el))
      (w.drew.alloc (.cells ((old ++ new).toArray ++ Builtin.zeroCells z.cells (grownCap w (sLen + n) sCap el - (sLen + n))) el)) := by
  have hn : ¬ (sLen + n ≤ sCap) := by omega
  have h63' : ¬ (9223372036854775807 < ((sLen : Int) + (n : Int))) := by omega
  have h48' : ¬ (281474976710656 < Builtin.nextslicecap (sLen + n) sCap * i.bytes) := by omega
  rcases hY with ⟨e', hY⟩ | hY <;> (simp [Builtin.append_, Go.run_underlying hT, Go.run_underlying hY, sizeOf, typeInfo, zeroValue, hi, hz, h1, hn, h63', h48', Question.forced, h2, h3, newRow, grownCap]; congr 2; apply Array.ext'; simp [List.append_assoc])

/-- append: the slice is the call's own; what is appended is read where it lies. -/
theorem T1.appendG {tg : Option TypeId} {x y : Operand} {t yt el : TypeId} {k n bytes : Nat} {s v : Value} {xs new : List Value} {Ls G : List Blk} {z : Value} (hT : C.P.underlying t = some (.slice el)) (hY : Kd C.P yt)
    (hk : SizeIs C.P el k) (hb : BytesIs C.P el bytes) (hz : ZeroIs C.P el z) (hzk : z.cells.size = k) (hkpos : 0 < k) (hbpos : 0 < bytes) (hx : ev C.n e x = s) (hyv : ev C.n e y = v) (htg : tg = none ∨ tg = some el) (hsl : SlG tg s xs k Ls) (hsrc : Src C L k v n new) (hone : ∀ u ∈ new, one u = true)
    (N : Nat) (hN : xs.length + new.length ≤ N * k) (hroom : (N + N / 4 + 192) * bytes ≤ 281474976710656) (hpk : PickS L Ls G)
    (kk : ∀ s' Ls', SlG tg s' (xs ++ new) k Ls' → K (putO e dst s') (Ls' ++ G)) : T1 C ⟨dst, .call ⟨.builtin .append, (List.toArray [x, y]), (List.toArray [t, yt])⟩, ty, pos, after, guard⟩ K e L := by
  intro a w K' Q' hr hs hK
  unfold Oper.wp
  rw [hr.eval]
  have hst0 := hs
  replace hs : St C.w0 C.M ([] ++ (Ls ++ G)) w := hs.perm hpk.perm.symm
  have hsubs : ∀ Y, Sub ([] ++ (Ls ++ G)) Ls ([] ++ (Y ++ G)) Y := fun Y => .far .here
  have hnl := hsrc.len
  obtain ⟨iel, hiel, hibytes⟩ := Option.map_eq_some_iff.1 hb
  have hik : iel.size = k := by have := hk; unfold SizeIs at this; rw [hiel] at this; simpa using this
  have hiz : iel.zero = some z := by have := hz; unfold ZeroIs at this; rw [hiel] at this; simpa using this
  have hexec : execOp (ev C.n e) ⟨dst, .call ⟨.builtin .append, (List.toArray [x, y]), (List.toArray [t, yt])⟩, ty, pos, after, guard⟩ = (do pure (Next.value (← Builtin.append_ #[t, yt] ty #[s, v])) : Sem Next) := by
    show Go.builtin .append #[t, yt] ty ((List.toArray [x, y]).map fun | .const _ => true | _ => false) ((List.toArray [x, y]).map (ev C.n e)) = _
    rw [show (List.toArray [x, y]).map (ev C.n e) = #[s, v] from by rw [List.map_toArray]; simp [hx, hyv]]
    rfl
  rw [hexec]
  obtain ⟨base, sLen, sCap, rfl, hxl, hself⟩ := hsl.form (C := C) hkpos (F := []) (G := G)
  have hneed : sLen + n ≤ N := by
    have : (sLen + n) * k ≤ N * k := by rw [Nat.add_mul]; omega
    exact Nat.le_of_mul_le_mul_right this hkpos
  have hnb : N ≤ 281474976710656 := by
    have : N * 1 ≤ (N + N / 4 + 192) * bytes := Nat.mul_le_mul (by omega) hbpos
    omega
  have hrunA : ∃ w' s', (Builtin.append_ #[t, yt] ty #[.slice base sLen sCap, v]).run C.P w = .ok s' w' ∧ ∃ Ls', St C.w0 C.M ([] ++ (Ls' ++ G)) w' ∧ SlG tg s' (xs ++ new) k Ls' := by
    by_cases hle : sLen + n ≤ sCap
    · rcases hsl with ⟨heq, rfl, rfl⟩ | ⟨b, off, len, cap, size, heq, h1, h2, h3, rfl⟩
      · cases heq
        have hn0 : n = 0 := by omega
        subst hn0
        have : new = [] := List.eq_nil_of_length_eq_zero (by rw [hnl]; simp)
        subst this
        exact ⟨w, _, run_append_room0 hT hY hiel (run_lenOf hsrc w) (by rw [hik]; exact run_firstCells hsrc hst0), [], hs, .inl ⟨rfl, rfl, rfl⟩⟩
      · cases heq
        have hin := (hs.piece (hsubs [])).2 ⟨⟨b, tg⟩, off, xs, size⟩ (by simp)
        obtain ⟨c, E, lo, hi, hh, hsz, _, hf⟩ := hin.here
        have hcap : sLen * k + n * k ≤ sCap * k := by rw [← Nat.add_mul]; exact Nat.mul_le_mul_right _ hle
        have hsz' : c.size = size := hsz
        have hst := run_storeCells (P := C.P) new (off + sLen * k) 0 w c E lo hi hh (by rw [hnl, hsz']; omega) (by intro q hq; have hf' : lo = hi ∨ size ≤ lo := hf.1; omega) hone
        refine ⟨_, _, run_append_room' hT hY hiel (run_lenOf hsrc w) (by rw [hik]; exact run_firstCells hsrc hst0) hle (by rw [hik]; exact hst), [⟨⟨b, tg⟩, off, xs ++ new, size⟩], ?_, SlG.mk (by simp [h1, hnl, Nat.add_mul]) (by omega) h3⟩
        obtain ⟨f1, f2, f3, f4, f5⟩ := setCellsAt_fields b new (off + sLen * k + 0) w
        refine hs.turn (hsubs _) rfl f1 f2 f3 f4 f5 ?_
        have := In_extend hin (vs := new) (by show off + xs.length + new.length ≤ size; rw [h1, hnl]; omega)
        simpa [h1] using this
    · have hs1 : St C.w0 C.M ([] ++ (Ls ++ G)) w.drew := hs.drew _ (Nat.le_succ _)
      have hst1 : St C.w0 C.M L w.drew := hst0.drew _ (Nat.le_succ _)
      have hfit := growslice_fits_wide (need := sLen + n) (old := sCap) (bytes := iel.bytes) (by omega) (by
        rw [hibytes]
        exact Nat.le_trans (Nat.mul_le_mul_right _ (by omega)) hroom)
      have hrun := run_append_grow' (ty := ty) (base := base) hT hY hiel hiz (run_lenOf hsrc w) (by rw [hik]; exact run_firstCells hsrc hst1) (by rw [hik]; exact run_firstCells hself hs1) (by omega) (by omega) hfit
      have hge : sLen + n ≤ grownCap w (sLen + n) sCap el := by unfold grownCap Question.cut; exact Nat.le_add_right _ _
      generalize grownCap w (sLen + n) sCap el = nc at hge hrun
      have hzc : (Builtin.zeroCells z.cells (nc - (sLen + n))).size = (nc - (sLen + n)) * k := by simp [Builtin.zeroCells, hzk]
      refine ⟨_, _, hrun, [⟨⟨w.heap.size, tg⟩, 0, xs ++ new, nc * k⟩], ?_, SlG.mk (by simp [hxl, hnl, Nat.add_mul]) hge (by omega)⟩
      have hbase : St C.w0 C.M G w.drew := hs1.sub (List.sublist_append_right _ _)
      have hpush := hbase.push (B := ⟨⟨w.heap.size, tg⟩, 0, xs ++ new, nc * k⟩) (c := (xs ++ new).toArray ++ Builtin.zeroCells z.cells (nc - (sLen + n))) (E := el) (lo := 0) (hi := 0) (k := w.drawn + 1) rfl
        (by show 0 + (xs ++ new).length ≤ nc * k; simp only [List.length_append, hxl, hnl, ← Nat.add_mul, Nat.zero_add]; exact Nat.mul_le_mul_right _ hge)
        (by
          have hsum : sLen * k + n * k + (nc - (sLen + n)) * k = nc * k := by rw [← Nat.add_mul, ← Nat.add_mul]; congr 1; omega
          show ((xs ++ new).toArray ++ _).size = nc * k
          simp only [Array.size_append, List.size_toArray, List.length_append, hxl, hnl, hzc]; exact hsum)
        (by
          intro i hi
          show ((xs ++ new).toArray ++ _)[0 + i]? = (xs ++ new)[i]?
          have hi' : i < (xs ++ new).length := hi
          rw [Nat.zero_add, Array.getElem?_append, if_pos (by simpa using hi')]
          simp)
        (by omega) (htg.imp (fun h => h) (fun h => ⟨h, rfl⟩))
      exact hpush
  obtain ⟨w', s', hrun, Ls', hst', hsl'⟩ := hrunA
  rw [run_value hrun]
  exact hK _ _ _ _ (hr.put _ _) hst' (kk s' Ls' hsl')
theorem T1.append {x y : Operand} {t yt el : TypeId} {k n bytes : Nat} {s v : Value} {xs new : List Value} {Ls G : List Blk} {z : Value} (hT : C.P.underlying t = some (.slice el)) (hY : Kd C.P yt)
    (hk : SizeIs C.P el k) (hb : BytesIs C.P el bytes) (hz : ZeroIs C.P el z) (hzk : z.cells.size = k) (hkpos : 0 < k) (hbpos : 0 < bytes) (hx : ev C.n e x = s) (hyv : ev C.n e y = v) (hsl : Sl s xs k Ls) (hsrc : Src C L k v n new) (hone : ∀ u ∈ new, one u = true)
    (N : Nat) (hN : xs.length + new.length ≤ N * k) (hroom : (N + N / 4 + 192) * bytes ≤ 281474976710656) (hpk : PickS L Ls G)
    (kk : ∀ s' Ls', Sl s' (xs ++ new) k Ls' → K (putO e dst s') (Ls' ++ G)) : T1 C ⟨dst, .call ⟨.builtin .append, (List.toArray [x, y]), (List.toArray [t, yt])⟩, ty, pos, after, guard⟩ K e L :=
  T1.appendG hT hY hk hb hz hzk hkpos hbpos hx hyv (.inl rfl) hsl hsrc hone N hN hroom hpk kk

/-- copy onto a slice of the call's own: its first cells are turned. -/
theorem T1.copy {x y : Operand} {t yt el : TypeId} {k n len cap b o off size : Nat} {tg : Option TypeId} {v : Value} {cells new : List Value} {L' : List Blk} (hT : C.P.underlying t = some (.slice el)) (hk : SizeIs C.P el k)
    (hx : ev C.n e x = .slice (some ⟨b, o, none⟩) len cap) (hyv : ev C.n e y = v) (m : Nat) (hm : m = min n len) (hlen : ∀ w, (Builtin.lenOf v).run C.P w = .ok n w) (hsrc : ∀ w, St C.w0 C.M L w → (Builtin.firstCells k m v).run C.P w = .ok new.toArray w) (hnl : new.length = m * k) (hone : ∀ u ∈ new, one u = true)
    (h1 : off ≤ o) (h2 : o + new.length ≤ off + cells.length) (hu : Sub L [⟨⟨b, tg⟩, off, cells, size⟩] L' [⟨⟨b, tg⟩, off, putN cells (o - off) new, size⟩]) (kk : K (putO e dst (.int .i64 m)) L') :
    T1 C ⟨dst, .call ⟨.builtin .copy, (List.toArray [x, y]), (List.toArray [t, yt])⟩, ty, pos, after, guard⟩ K e L := by
  intro a w K' Q' hr hs hK
  unfold Oper.wp
  rw [hr.eval]
  have hexec : execOp (ev C.n e) ⟨dst, .call ⟨.builtin .copy, (List.toArray [x, y]), (List.toArray [t, yt])⟩, ty, pos, after, guard⟩ = (do pure (Next.value (← Builtin.copy_ #[t, yt] ty #[.slice (some ⟨b, o, none⟩) len cap, v])) : Sem Next) := by
    show Go.builtin .copy #[t, yt] ty ((List.toArray [x, y]).map fun | .const _ => true | _ => false) ((List.toArray [x, y]).map (ev C.n e)) = _
    rw [show (List.toArray [x, y]).map (ev C.n e) = #[.slice (some ⟨b, o, none⟩) len cap, v] from by rw [List.map_toArray]; simp [hx, hyv]]
    rfl
  rw [hexec]
  have hin := (hs.piece hu).2 ⟨⟨b, tg⟩, off, cells, size⟩ (by simp)
  obtain ⟨c, E, lo, hi, hh, hsz, _, hf⟩ := hin.here
  have hroom : off + cells.length ≤ size := hin.room
  have hsz' : c.size = size := hsz
  have hst := run_storeCells (P := C.P) new o 0 w c E lo hi hh (by omega) (by intro q hq; have hf' : lo = hi ∨ size ≤ lo := hf.1; omega) hone
  have hrun : (Builtin.copy_ #[t, yt] ty #[.slice (some ⟨b, o, none⟩) len cap, v]).run C.P w = .ok (.int .i64 m) (setCellsAt w b (o + 0) new) := by
    unfold Builtin.copy_
    simp only [List.getElem?_toArray, List.getElem?_cons_zero, List.getElem?_cons_succ]
    rw [run_bind (run_underlying hT w)]
    simp only
    rw [run_bind (hlen w), run_bind (run_sizeOf hk w), show Nat.min n len = m from hm.symm, run_bind (hsrc w hs)]
    simp only
    rw [run_bind hst]; rfl
  rw [run_value hrun]
  obtain ⟨f1, f2, f3, f4, f5⟩ := setCellsAt_fields b new (o + 0) w
  refine hK _ _ _ _ (hr.put _ _) (hs.turn hu rfl f1 f2 f3 f4 f5 ?_) kk
  exact In_setCellsAt hin h1 h2

/-! ### Strings and bytes -/

theorem foldl_push (l : List UInt8) : ∀ (r : ByteArray), (l.map (fun c => (c.toNat : Int))).foldl (fun r n => r.push (UInt8.ofNat n.toNat)) r = ⟨r.data ++ l.toArray⟩ := by
  induction l with
  | nil => intro r; simp
  | cons c l ih =>
    intro r
    simp only [List.map_cons, List.foldl_cons]
    rw [ih]
    simp [ByteArray.push]

/-- The string of some bytes. -/
theorem V1.bytesToStr {s d el : TypeId} {x : Operand} {v : Value} {n : Nat} {l : List UInt8} (hs : C.P.underlying s = some (.slice el)) (hel : C.P.underlying el = some (.int .u8)) (hd : C.P.underlying d = some .string) (hx : ev C.n e x = v) (hsrc : Src C L 1 v n (l.map byteV)) (hslice : ∀ b, v ≠ .string b) : V1 C ⟨dst, .convert s d x, ty, pos, after, guard⟩ e L (.string (bstr l)) := 
  V1.run (s := convert s d (ev C.n e x)) rfl (fun w hst => by
    rw [hx]
    generalize hvs : l.map byteV = vs at hsrc
    cases hsrc with
    | nil =>
      have hl : l = [] := by cases l with | nil => rfl | cons _ _ => simp at hvs
      subst hl
      rw [Go.run_convert_bytes_string w s d el none 0 _ hs hel hd]; rfl
    | @odd a c =>
      have hl : l = [] := by cases l with | nil => rfl | cons _ _ => simp at hvs
      subst hl
      rw [Go.run_convert_bytes_string w s d el _ 0 _ hs hel hd]
      exact Go.run_bytesToString (P := C.P) w a 0 c [] rfl
    | @sl b o n c vs hr hl =>
      rw [Go.run_convert_bytes_string w s d el _ _ _ hs hel hd]
      subst hvs
      have hlc := run_loadCells (P := C.P) (hl.trans (Nat.mul_one n)) (hr.cells hst)
      have := Go.run_bytesToString (P := C.P) w ⟨b, o, none⟩ n c (l.map (fun c => (c.toNat : Int))) (by rw [hlc, List.map_map]; rfl)
      rw [this, foldl_push]
      simp [bstr]
    | str _ => exact absurd rfl (hslice _))

/-- The bytes of a string, in new memory. -/
theorem T1.strToBytes {s d el : TypeId} {x : Operand} {a : ByteArray} {ds : TypeDesc} (hs : C.P.underlying s = some ds) (hd : C.P.underlying d = some (.slice el)) (hel : C.P.underlying el = some (.int .u8)) (hx : ev C.n e x = .string a)
    (k : ∀ b cap, a.size ≤ cap → K (putO e dst (.slice (some ⟨b, 0, none⟩) a.size cap)) (⟨b, 0, a.data.toList.map byteV, cap⟩ :: L)) : T1 C ⟨dst, .convert s d x, ty, pos, after, guard⟩ K e L := by
  intro ac w K' Q' hr hst hK
  unfold Oper.wp
  rw [hr.eval]
  have hrun := Go.Lib.run_convert_string_bytes (P := C.P) w s d el a hs hd hel
  have hexec : (execOp (ev C.n e) ⟨dst, .convert s d x, ty, pos, after, guard⟩).run C.P w = .ok (.value (.slice (some ⟨w.heap.size, 0, none⟩) a.size (grownCap w a.size 0 el))) (Go.Lib.bytesWorld w el a) := by
    show (do pure (Next.value (← convert s d (ev C.n e x))) : Sem Next).run C.P w = _
    rw [hx]; exact run_value hrun
  rw [hexec]
  have hge : a.size ≤ grownCap w a.size 0 el := by unfold grownCap Question.cut; exact Nat.le_add_right _ _
  have hcs : (Go.Lib.bytesCells w el a).size = grownCap w a.size 0 el := by
    unfold Go.Lib.bytesCells
    rw [Array.size_append, Array.size_map, Array.size_replicate]
    show a.size + _ = _
    omega
  have hnew := hst.new (w' := Go.Lib.bytesWorld w el a) (B := ⟨w.heap.size, 0, a.data.toList.map byteV, grownCap w a.size 0 el⟩) (c := Go.Lib.bytesCells w el a) (E := el) (lo := (Go.Lib.bytesCells w el a).size) (hi := (Go.Lib.bytesCells w el a).size + 1)
    (by simp [Go.Lib.bytesWorld, World.freeze, World.alloc, World.drew, -World.alloc_eq, -World.drew_eq]) (by simp [Go.Lib.bytesWorld, World.freeze, World.alloc, World.drew, -World.alloc_eq, -World.drew_eq]) (by simp [Go.Lib.bytesWorld, World.freeze, World.alloc, World.drew, -World.alloc_eq, -World.drew_eq])
    (Go.Lib.bytesWorld_size w el a) (Go.Lib.bytesWorld_at_old w el a) (Go.Lib.bytesWorld_at_new w el a) rfl
    (by show 0 + (a.data.toList.map byteV).length ≤ grownCap w a.size 0 el; rw [List.length_map, Array.length_toList]; show 0 + a.size ≤ grownCap w a.size 0 el; omega) hcs
    (by
      intro i hi
      show (Go.Lib.bytesCells w el a)[0 + i]? = (a.data.toList.map byteV)[i]?
      have hi' : i < a.size := by have : i < (a.data.toList.map byteV).length := hi; rw [List.length_map, Array.length_toList] at this; exact this
      unfold Go.Lib.bytesCells
      rw [Nat.zero_add, Array.getElem?_append, if_pos (by rw [Array.size_map]; exact hi')]
      simp only [Array.getElem?_map, List.getElem?_map, Array.getElem?_toList]; rfl)
    (.inr (by show grownCap w a.size 0 el ≤ _; rw [hcs]; exact Nat.le_refl _)) (by simp [Go.Lib.bytesWorld, World.freeze, World.alloc, World.drew, -World.alloc_eq, -World.drew_eq])
  exact hK _ _ _ _ (hr.put _ _) hnew (k _ _ hge)

/-- The conversion that stands behind a literal's row: the block gets the run time's mark, behind its cells. -/
theorem T1.convLit {t el : TypeId} {x : Operand} {b o len cap off size : Nat} {cells : List Value} {L' : List Blk} (hT : C.P.underlying t = some (.slice el)) (hel : C.P.underlying el = some (.int .u8)) (hx : ev C.n e x = .slice (some ⟨b, o, none⟩) len cap)
    (hu : Sub L [⟨b, off, cells, size⟩] L' [⟨b, off, cells, size⟩]) (k : K (putO e dst (.slice (some ⟨b, o, none⟩) len cap)) L') : T1 C ⟨dst, .convert t t x, ty, pos, after, guard⟩ K e L := by
  intro ac w K' Q' hr hst hK
  unfold Oper.wp
  rw [hr.eval]
  have hin := (hst.piece hu).2 ⟨b, off, cells, size⟩ (by simp)
  obtain ⟨c, E, lo, hi, hh, hsz, hk, hf⟩ := hin.here
  have hsz' : c.size = size := hsz
  have hf' : lo = hi ∨ size ≤ lo := hf.1
  have hh' : w.heap[b]? = some (.cells c E (lo, hi)) := hh
  have hsh : w.shape? b = some (E, c.size) := by unfold World.shape?; rw [hh']
  have hexec : (execOp (ev C.n e) ⟨dst, .convert t t x, ty, pos, after, guard⟩).run C.P w = .ok (.value (.slice (some ⟨b, o, none⟩) len cap)) (w.freeze ⟨b, c.size, none⟩ 1) := by
    show (do pure (Next.value (← convert t t (ev C.n e x))) : Sem Next).run C.P w = _
    rw [hx]
    refine run_value ?_
    simp [convert, Go.run_underlying hT, Go.run_underlying hel, markStringish, hsh]
  rw [hexec]
  refine hK _ _ _ _ (hr.put _ _) ?_ k
  obtain ⟨fz, hfz, hfv⟩ : ∃ f : Obj → Obj, (w.freeze ⟨b, c.size, none⟩ 1) = { w with heap := w.heap.modify b f } ∧ f (.cells c E (lo, hi)) = .cells c E (if lo == hi then (size, size + 1) else (min lo size, max hi (size + 1))) := by
    refine ⟨_, by unfold World.freeze; rw [if_neg (by decide)], ?_⟩
    rw [hsz']
  rw [hfz]
  refine hst.turn hu rfl rfl rfl rfl (by show (w.heap.modify _ _).size = _; simp) ?_ ?_
  · intro b' hb'
    show (w.heap.modify _ _)[b']? = _
    rw [Array.getElem?_modify, if_neg (Ne.symm hb')]
  · refine Blk.In.ofCells hin.room ⟨c, E, (if lo == hi then (size, size + 1) else (min lo size, max hi (size + 1))).1, (if lo == hi then (size, size + 1) else (min lo size, max hi (size + 1))).2, ?_, hsz, hk, .inr ?_, .inl rfl⟩
    · show (w.heap.modify _ _)[b]? = _
      rw [Array.getElem?_modify, if_pos rfl, hh', Option.map_some, hfv]
    · show size ≤ _
      split
      · exact Nat.le_refl _
      · rename_i h
        have : ¬ lo = hi := by simpa using h
        show size ≤ min lo size
        omega

/-! ### Equality of arrays -/

theorem run_forIn_range {P : Program} {σ : Type} (f : Nat → σ → Sem (ForInStep σ)) (g : Nat → σ → ForInStep σ) (w : World) (h : ∀ i s, (f i s).run P w = .ok (g i s) w) : ∀ (l : List Nat) (s : σ),
    (forIn l s f).run P w = .ok (Id.run (forIn l s (fun i s => pure (g i s)))) w := by
  intro l
  induction l with
  | nil => intro s; rfl
  | cons i l ih =>
    intro s
    rw [List.forIn_cons, run_bind (h i s), List.forIn_cons]
    cases hg : g i s with
    | done s' => simp
    | yield s' => simp only []; rw [ih]; simp

end rules
end Go.Proofs.YtlpkcbkflfbclaaDoor.S
