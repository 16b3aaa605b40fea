/- Append, copy, make, strings and bytes, equality of arrays; regions that draw their order. Holds for every program. Stores in forms that keep the lists of cells written out; equality of arrays; regions that draw their order. Holds for every program. Slices that came in, strings of bytes, numbers: more rules. Holds for every program. -/
import Derived.Test.YtfjedhmffccgnaaGreatDoorCore
import Derived.Deep.AppendSrc
import Derived.Deep.DeepAppendWide
namespace Go.Proofs.YtfjedhmffccgnaaGreatDoor.S
open Go.RowKit
def byteV (c : UInt8) : Value := .int .u8 c.toNat
def bstr (l : List UInt8) : ByteArray := ⟨l.toArray⟩
theorem one_bytes (l : List UInt8) : ∀ v ∈ l.map byteV, one v = true := fun v hv => by obtain ⟨c, _, rfl⟩ := List.mem_map.1 hv; rfl
def SlG (tg : Option TypeId) (s : Value) (xs : List Value) (k : Nat) (Ls : List Blk) : Prop :=
  (s = .slice none 0 0 ∧ xs = [] ∧ Ls = []) ∨
  ∃ b off len cap size, s = .slice (some ⟨b, off, none⟩) len cap ∧ xs.length = len * k ∧ len ≤ cap ∧ off + cap * k ≤ size ∧ Ls = [⟨⟨b, tg⟩, off, xs, size⟩]
def Sl (s : Value) (xs : List Value) (k : Nat) (Ls : List Blk) : Prop := SlG none s xs k Ls
theorem SlG.nil {tg : Option TypeId} {k : Nat} : SlG tg (.slice none 0 0) [] k [] := .inl ⟨rfl, rfl, rfl⟩
theorem SlG.mk {tg : Option TypeId} {b off len cap size k : Nat} {xs : List Value} (h1 : xs.length = len * k) (h2 : len ≤ cap) (h3 : off + cap * k ≤ size) : SlG tg (.slice (some ⟨b, off, none⟩) len cap) xs k [⟨⟨b, tg⟩, off, xs, size⟩] :=
 .inr ⟨b, off, len, cap, size, rfl, h1, h2, h3, rfl⟩
theorem Sl.nil {k : Nat} : Sl (.slice none 0 0) [] k [] := .inl ⟨rfl, rfl, rfl⟩
theorem Sl.mk {b off len cap size k : Nat} {xs : List Value} (h1 : xs.length = len * k) (h2 : len ≤ cap) (h3 : off + cap * k ≤ size) : Sl (.slice (some ⟨b, off, none⟩) len cap) xs k [⟨b, off, xs, size⟩] :=
 .inr ⟨b, off, len, cap, size, rfl, h1, h2, h3, rfl⟩
inductive Src (C : Ctx) (L : List Blk) (k : Nat) : Value → Nat → List Value → Prop
  | nil {c : Nat} : Src C L k (.slice none 0 c) 0 []
  | odd {a : Addr} {c : Nat} : Src C L k (.slice (some a) 0 c) 0 []
  | sl {b o n c : Nat} {vs : List Value} : RdN C L ⟨b, o, none⟩ vs → vs.length = n * k → Src C L k (.slice (some ⟨b, o, none⟩) n c) n vs
  | str {s : ByteArray} : k = 1 → Src C L k (.string s) s.size (s.data.toList.map byteV)
theorem Sub.find {L L' Y : List Blk} {B : Blk} (h : Sub L [B] L' Y) : Find L B := by
 obtain ⟨F, G, rfl, _⟩ := h.split
 exact .far .here
theorem SlG.src {tg : Option TypeId} {C : Ctx} {s : Value} {xs : List Value} {k : Nat} {L Ls L' Y : List Blk} (h : SlG tg s xs k Ls) (hs : Sub L Ls L' Y) : ∃ n, xs.length = n * k ∧ Src C L k s n xs := by
 rcases h with ⟨rfl, rfl, rfl⟩ | ⟨b, off, len, cap, size, rfl, h1, h2, h3, rfl⟩
 · exact ⟨0, by simp, .nil⟩
 ·
  exact ⟨len, h1, .sl (RdN.own hs.find fun i v hv => by
   show (bif Nat.ble off (off + i) then xs[off + i - off]? else none) = some v
   rw [Nat.ble_eq_true_of_le (Nat.le_add_right off i), Nat.add_sub_cancel_left]; exact hv) h1⟩
section rules
variable {C : Ctx} {K : Env → List Blk → Prop} {e : Env} {L : List Blk}
variable {dst : Option Tmp} {ty : TypeId} {pos : String} {after : Array Edge} {guard : Option (Nat × Bool)}
theorem run_lenOf {P : Program} {k n : Nat} {x : Value} {vs : List Value} (h : Src C L k x n vs) (w : World) : (Builtin.lenOf x).run P w = .ok n w := by cases h <;> rfl
theorem run_firstCells {k n : Nat} {x : Value} {vs : List Value} (h : Src C L k x n vs) {w : World} (hs : St C.w0 C.M L w) : (Builtin.firstCells k n x).run C.P w = .ok vs.toArray w := by
 cases h with
 | nil => rfl
 | @odd a c =>
  show (loadCells a (0 * k)).run C.P w = _
  rw [Nat.zero_mul]; rfl
 | sl hr hl => exact run_loadCells hl (hr.cells hs)
 | @str s hk =>
  subst hk
  exact Go.firstCells_string s w
theorem Src.len {k n : Nat} {x : Value} {vs : List Value} (h : Src C L k x n vs) : vs.length = n * k := by
 cases h with
 | nil => simp
 | odd => simp
 | sl _ hl => exact hl
 | @str s hk => subst hk; rw [List.length_map, Array.length_toList, Nat.mul_one]; rfl
theorem SlG.form {tg : Option TypeId} {s : Value} {xs : List Value} {k : Nat} {Ls : List Blk} (h : SlG tg s xs k Ls) (hk : 0 < k) {F G : List Blk} : ∃ base sLen sCap, s = .slice base sLen sCap ∧ xs.length = sLen * k ∧ Src C (F ++ (Ls ++ G)) k s sLen xs := by
 rcases h with ⟨rfl, rfl, rfl⟩ | ⟨b, off, len, cap, size, rfl, h1, h2, h3, rfl⟩
 · exact ⟨none, 0, 0, rfl, by simp, .nil⟩
 ·
  obtain ⟨m, hm, hsr⟩ := SlG.src (C := C) (SlG.mk (tg := tg) (b := b) (off := off) h1 h2 h3) (.far .here : Sub (F ++ ([⟨⟨b, tg⟩, off, xs, size⟩] ++ G)) _ (F ++ ([] ++ G)) [])
  have : m = len := Nat.eq_of_mul_eq_mul_right hk (by omega)
  subst this
  exact ⟨_, _, _, rfl, h1, hsr⟩
theorem Sl.form {s : Value} {xs : List Value} {k : Nat} {Ls : List Blk} (h : Sl s xs k Ls) (hk : 0 < k) {F G : List Blk} : ∃ base sLen sCap, s = .slice base sLen sCap ∧ xs.length = sLen * k ∧ Src C (F ++ (Ls ++ G)) k s sLen xs := SlG.form h hk
def Kd (P : Program) (t : TypeId) : Prop := (∃ e', P.underlying t = some (.slice e')) ∨ P.underlying t = some .string
theorem run_append_room' {P : Program} {t yt el : TypeId} {i : TypeInfo} (hT : P.underlying t = some (.slice el)) (hY : Kd P yt) (hi : P.info? el = some i) {b off sLen sCap n : Nat} {v : Value} {new : List Value} {w w' : World}
 (h1 : (Builtin.lenOf v).run P w = .ok n w) (h2 : (Builtin.firstCells i.size n v).run P w = .ok new.toArray w) (hle : sLen + n ≤ sCap) (h3 : (storeCells ⟨b, off + sLen * i.size, none⟩ new 0).run P w = .ok () w') :
 (Builtin.append_ #[t, yt] ty #[.slice (some ⟨b, off, none⟩) sLen sCap, v]).run P w = .ok (.slice (some ⟨b, off, none⟩) (sLen + n) sCap) w' := by
 rcases hY with ⟨e', hY⟩ | hY <;> simp [Builtin.append_, Go.run_underlying hT, Go.run_underlying hY, sizeOf, typeInfo, hi, h1, hle, h2, addr_add, h3]
theorem run_append_room0 {P : Program} {t yt el : TypeId} {i : TypeInfo} (hT : P.underlying t = some (.slice el)) (hY : Kd P yt) (hi : P.info? el = some i) {v : Value} {w : World}
 (h1 : (Builtin.lenOf v).run P w = .ok 0 w) (h2 : (Builtin.firstCells i.size 0 v).run P w = .ok #[] w) :
 (Builtin.append_ #[t, yt] ty #[.slice none 0 0, v]).run P w = .ok (.slice none 0 0) w := by
 rcases hY with ⟨e', hY⟩ | hY <;> simp [Builtin.append_, Go.run_underlying hT, Go.run_underlying hY, sizeOf, typeInfo, hi, h1, h2]
theorem run_append_grow' {P : Program} {t yt el : TypeId} {i : TypeInfo} {z : Value} (hT : P.underlying t = some (.slice el)) (hY : Kd P yt) (hi : P.info? el = some i) (hz : i.zero = some z) {base : Option Addr} {sLen sCap n : Nat} {v : Value} {old new : List Value} {w : World}
 (h1 : (Builtin.lenOf v).run P w = .ok n w) (h2 : (Builtin.firstCells i.size n v).run P w.drew = .ok new.toArray w.drew) (h3 : (Builtin.firstCells i.size sLen (.slice base sLen sCap)).run P w.drew = .ok old.toArray w.drew) (hlt : sCap < sLen + n)
 (h63 : ((sLen + n : Nat) : Int) ≤ 9223372036854775807) (hfit : Builtin.nextslicecap (sLen + n) sCap * i.bytes ≤ 281474976710656) :
 (Builtin.append_ #[t, yt] ty #[.slice base sLen sCap, v]).run P w = .ok (.slice (some ⟨w.heap.size, 0, none⟩) (sLen + n) (grownCap w (sLen + n) sCap el))
  (w.drew.alloc (.cells ((old ++ new).toArray ++ Builtin.zeroCells z.cells (grownCap w (sLen + n) sCap el - (sLen + n))) el)) := by
 have hn : ¬ (sLen + n ≤ sCap) := by omega
 have h63' : ¬ (9223372036854775807 < ((sLen : Int) + (n : Int))) := by omega
 have h48' : ¬ (281474976710656 < Builtin.nextslicecap (sLen + n) sCap * i.bytes) := by omega
 rcases hY with ⟨e', hY⟩ | hY <;> (simp [Builtin.append_, Go.run_underlying hT, Go.run_underlying hY, sizeOf, typeInfo, zeroValue, hi, hz, h1, hn, h63', h48', Question.forced, h2, h3, newRow, grownCap]; congr 2; apply Array.ext'; simp [List.append_assoc])
theorem T1.appendG {tg : Option TypeId} {x y : Operand} {t yt el : TypeId} {k n bytes : Nat} {s v : Value} {xs new : List Value} {Ls G : List Blk} {z : Value} (hT : C.P.underlying t = some (.slice el)) (hY : Kd C.P yt)
 (hk : SizeIs C.P el k) (hb : BytesIs C.P el bytes) (hz : ZeroIs C.P el z) (hzk : z.cells.size = k) (hkpos : 0 < k) (hbpos : 0 < bytes) (hx : ev C.n e x = s) (hyv : ev C.n e y = v) (htg : tg = none ∨ tg = some el) (hsl : SlG tg s xs k Ls) (hsrc : Src C L k v n new) (hone : ∀ u ∈ new, one u = true)
 (N : Nat) (hN : xs.length + new.length ≤ N * k) (hroom : (N + N / 4 + 192) * bytes ≤ 281474976710656) (hpk : PickS L Ls G)
 (kk : ∀ s' Ls', SlG tg s' (xs ++ new) k Ls' → K (putO e dst s') (Ls' ++ G)) : T1 C ⟨dst, .call ⟨.builtin .append, (List.toArray [x, y]), (List.toArray [t, yt])⟩, ty, pos, after, guard⟩ K e L := by
 intro a w K' Q' hr hs hK
 unfold Oper.wp
 rw [hr.eval]
 have hst0 := hs
 replace hs : St C.w0 C.M ([] ++ (Ls ++ G)) w := hs.perm hpk.perm.symm
 have hsubs : ∀ Y, Sub ([] ++ (Ls ++ G)) Ls ([] ++ (Y ++ G)) Y := fun Y => .far .here
 have hnl := hsrc.len
 obtain ⟨iel, hiel, hibytes⟩ := Option.map_eq_some_iff.1 hb
 have hik : iel.size = k := by have := hk; unfold SizeIs at this; rw [hiel] at this; simpa using this
 have hiz : iel.zero = some z := by have := hz; unfold ZeroIs at this; rw [hiel] at this; simpa using this
 have hexec : execOp (ev C.n e) ⟨dst, .call ⟨.builtin .append, (List.toArray [x, y]), (List.toArray [t, yt])⟩, ty, pos, after, guard⟩ = (do pure (Next.value (← Builtin.append_ #[t, yt] ty #[s, v])) : Sem Next) := by
  show Go.builtin .append #[t, yt] ty ((List.toArray [x, y]).map fun | .const _ => true | _ => false) ((List.toArray [x, y]).map (ev C.n e)) = _
  rw [show (List.toArray [x, y]).map (ev C.n e) = #[s, v] from by rw [List.map_toArray]; simp [hx, hyv]]
  rfl
 rw [hexec]
 obtain ⟨base, sLen, sCap, rfl, hxl, hself⟩ := hsl.form (C := C) hkpos (F := []) (G := G)
 have hneed : sLen + n ≤ N := by
  have : (sLen + n) * k ≤ N * k := by rw [Nat.add_mul]; omega
  exact Nat.le_of_mul_le_mul_right this hkpos
 have hnb : N ≤ 281474976710656 := by
  have : N * 1 ≤ (N + N / 4 + 192) * bytes := Nat.mul_le_mul (by omega) hbpos
  omega
 have hrunA : ∃ w' s', (Builtin.append_ #[t, yt] ty #[.slice base sLen sCap, v]).run C.P w = .ok s' w' ∧ ∃ Ls', St C.w0 C.M ([] ++ (Ls' ++ G)) w' ∧ SlG tg s' (xs ++ new) k Ls' := by
  by_cases hle : sLen + n ≤ sCap
  ·
   rcases hsl with ⟨heq, rfl, rfl⟩ | ⟨b, off, len, cap, size, heq, h1, h2, h3, rfl⟩
   ·
    cases heq
    have hn0 : n = 0 := by omega
    subst hn0
    have : new = [] := List.eq_nil_of_length_eq_zero (by rw [hnl]; simp)
    subst this
    exact ⟨w, _, run_append_room0 hT hY hiel (run_lenOf hsrc w) (by rw [hik]; exact run_firstCells hsrc hst0), [], hs, .inl ⟨rfl, rfl, rfl⟩⟩
   ·
    cases heq
    have hin := (hs.piece (hsubs [])).2 ⟨⟨b, tg⟩, off, xs, size⟩ (by simp)
    obtain ⟨c, E, lo, hi, hh, hsz, _, hf⟩ := hin.here
    have hcap : sLen * k + n * k ≤ sCap * k := by rw [← Nat.add_mul]; exact Nat.mul_le_mul_right _ hle
    have hsz' : c.size = size := hsz
    have hst := run_storeCells (P := C.P) new (off + sLen * k) 0 w c E lo hi hh (by rw [hnl, hsz']; omega) (by intro q hq; have hf' : lo = hi ∨ size ≤ lo := hf.1; omega) hone
    refine ⟨_, _, run_append_room' hT hY hiel (run_lenOf hsrc w) (by rw [hik]; exact run_firstCells hsrc hst0) hle (by rw [hik]; exact hst), [⟨⟨b, tg⟩, off, xs ++ new, size⟩], ?_, SlG.mk (by simp [h1, hnl, Nat.add_mul]) (by omega) h3⟩
    obtain ⟨f1, f2, f3, f4, f5⟩ := setCellsAt_fields b new (off + sLen * k + 0) w
    refine hs.turn (hsubs _) rfl f1 f2 f3 f4 f5 ?_
    have := In_extend hin (vs := new) (by show off + xs.length + new.length ≤ size; rw [h1, hnl]; omega)
    simpa [h1] using this
  ·
   have hs1 : St C.w0 C.M ([] ++ (Ls ++ G)) w.drew := hs.drew _ (Nat.le_succ _)
   have hst1 : St C.w0 C.M L w.drew := hst0.drew _ (Nat.le_succ _)
   have hfit := growslice_fits_wide (need := sLen + n) (old := sCap) (bytes := iel.bytes) (by omega) (by
    rw [hibytes]
    exact Nat.le_trans (Nat.mul_le_mul_right _ (by omega)) hroom)
   have hrun := run_append_grow' (ty := ty) (base := base) hT hY hiel hiz (run_lenOf hsrc w) (by rw [hik]; exact run_firstCells hsrc hst1) (by rw [hik]; exact run_firstCells hself hs1) (by omega) (by omega) hfit
   have hge : sLen + n ≤ grownCap w (sLen + n) sCap el := by unfold grownCap Question.cut; exact Nat.le_add_right _ _
   generalize grownCap w (sLen + n) sCap el = nc at hge hrun
   have hzc : (Builtin.zeroCells z.cells (nc - (sLen + n))).size = (nc - (sLen + n)) * k := by simp [Builtin.zeroCells, hzk]
   refine ⟨_, _, hrun, [⟨⟨w.heap.size, tg⟩, 0, xs ++ new, nc * k⟩], ?_, SlG.mk (by simp [hxl, hnl, Nat.add_mul]) hge (by omega)⟩
   have hbase : St C.w0 C.M G w.drew := hs1.sub (List.sublist_append_right _ _)
   have hpush := hbase.push (B := ⟨⟨w.heap.size, tg⟩, 0, xs ++ new, nc * k⟩) (c := (xs ++ new).toArray ++ Builtin.zeroCells z.cells (nc - (sLen + n))) (E := el) (lo := 0) (hi := 0) (k := w.drawn + 1) rfl
    (by show 0 + (xs ++ new).length ≤ nc * k; simp only [List.length_append, hxl, hnl, ← Nat.add_mul, Nat.zero_add]; exact Nat.mul_le_mul_right _ hge)
    (by
     have hsum : sLen * k + n * k + (nc - (sLen + n)) * k = nc * k := by rw [← Nat.add_mul, ← Nat.add_mul]; congr 1; omega
     show ((xs ++ new).toArray ++ _).size = nc * k
     simp only [Array.size_append, List.size_toArray, List.length_append, hxl, hnl, hzc]; exact hsum)
    (by
     intro i hi
     show ((xs ++ new).toArray ++ _)[0 + i]? = (xs ++ new)[i]?
     have hi' : i < (xs ++ new).length := hi
     rw [Nat.zero_add, Array.getElem?_append, if_pos (by simpa using hi')]
     simp)
    (by omega) (htg.imp (fun h => h) (fun h => ⟨h, rfl⟩))
   exact hpush
 obtain ⟨w', s', hrun, Ls', hst', hsl'⟩ := hrunA
 rw [run_value hrun]
 exact hK _ _ _ _ (hr.put _ _) hst' (kk s' Ls' hsl')
theorem T1.append {x y : Operand} {t yt el : TypeId} {k n bytes : Nat} {s v : Value} {xs new : List Value} {Ls G : List Blk} {z : Value} (hT : C.P.underlying t = some (.slice el)) (hY : Kd C.P yt)
 (hk : SizeIs C.P el k) (hb : BytesIs C.P el bytes) (hz : ZeroIs C.P el z) (hzk : z.cells.size = k) (hkpos : 0 < k) (hbpos : 0 < bytes) (hx : ev C.n e x = s) (hyv : ev C.n e y = v) (hsl : Sl s xs k Ls) (hsrc : Src C L k v n new) (hone : ∀ u ∈ new, one u = true)
 (N : Nat) (hN : xs.length + new.length ≤ N * k) (hroom : (N + N / 4 + 192) * bytes ≤ 281474976710656) (hpk : PickS L Ls G)
 (kk : ∀ s' Ls', Sl s' (xs ++ new) k Ls' → K (putO e dst s') (Ls' ++ G)) : T1 C ⟨dst, .call ⟨.builtin .append, (List.toArray [x, y]), (List.toArray [t, yt])⟩, ty, pos, after, guard⟩ K e L :=
 T1.appendG hT hY hk hb hz hzk hkpos hbpos hx hyv (.inl rfl) hsl hsrc hone N hN hroom hpk kk
theorem T1.copy {x y : Operand} {t yt el : TypeId} {k n len cap b o off size : Nat} {tg : Option TypeId} {v : Value} {cells new : List Value} {L' : List Blk} (hT : C.P.underlying t = some (.slice el)) (hk : SizeIs C.P el k)
 (hx : ev C.n e x = .slice (some ⟨b, o, none⟩) len cap) (hyv : ev C.n e y = v) (m : Nat) (hm : m = min n len) (hlen : ∀ w, (Builtin.lenOf v).run C.P w = .ok n w) (hsrc : ∀ w, St C.w0 C.M L w → (Builtin.firstCells k m v).run C.P w = .ok new.toArray w) (hnl : new.length = m * k) (hone : ∀ u ∈ new, one u = true)
 (h1 : off ≤ o) (h2 : o + new.length ≤ off + cells.length) (hu : Sub L [⟨⟨b, tg⟩, off, cells, size⟩] L' [⟨⟨b, tg⟩, off, putN cells (o - off) new, size⟩]) (kk : K (putO e dst (.int .i64 m)) L') :
 T1 C ⟨dst, .call ⟨.builtin .copy, (List.toArray [x, y]), (List.toArray [t, yt])⟩, ty, pos, after, guard⟩ K e L := by
 intro a w K' Q' hr hs hK
 unfold Oper.wp
 rw [hr.eval]
 have hexec : execOp (ev C.n e) ⟨dst, .call ⟨.builtin .copy, (List.toArray [x, y]), (List.toArray [t, yt])⟩, ty, pos, after, guard⟩ = (do pure (Next.value (← Builtin.copy_ #[t, yt] ty #[.slice (some ⟨b, o, none⟩) len cap, v])) : Sem Next) := by
  show Go.builtin .copy #[t, yt] ty ((List.toArray [x, y]).map fun | .const _ => true | _ => false) ((List.toArray [x, y]).map (ev C.n e)) = _
  rw [show (List.toArray [x, y]).map (ev C.n e) = #[.slice (some ⟨b, o, none⟩) len cap, v] from by rw [List.map_toArray]; simp [hx, hyv]]
  rfl
 rw [hexec]
 have hin := (hs.piece hu).2 ⟨⟨b, tg⟩, off, cells, size⟩ (by simp)
 obtain ⟨c, E, lo, hi, hh, hsz, _, hf⟩ := hin.here
 have hroom : off + cells.length ≤ size := hin.room
 have hsz' : c.size = size := hsz
 have hst := run_storeCells (P := C.P) new o 0 w c E lo hi hh (by omega) (by intro q hq; have hf' : lo = hi ∨ size ≤ lo := hf.1; omega) hone
 have hrun : (Builtin.copy_ #[t, yt] ty #[.slice (some ⟨b, o, none⟩) len cap, v]).run C.P w = .ok (.int .i64 m) (setCellsAt w b (o + 0) new) := by
  unfold Builtin.copy_
  simp only [List.getElem?_toArray, List.getElem?_cons_zero, List.getElem?_cons_succ]
  rw [run_bind (run_underlying hT w)]
  simp only
  rw [run_bind (hlen w), run_bind (run_sizeOf hk w), show Nat.min n len = m from hm.symm, run_bind (hsrc w hs)]
  simp only
  rw [run_bind hst]; rfl
 rw [run_value hrun]
 obtain ⟨f1, f2, f3, f4, f5⟩ := setCellsAt_fields b new (o + 0) w
 refine hK _ _ _ _ (hr.put _ _) (hs.turn hu rfl f1 f2 f3 f4 f5 ?_) kk
 exact In_setCellsAt hin h1 h2
theorem T1.convLit {t el : TypeId} {x : Operand} {b o len cap off size : Nat} {cells : List Value} {L' : List Blk} (hT : C.P.underlying t = some (.slice el)) (hel : C.P.underlying el = some (.int .u8)) (hx : ev C.n e x = .slice (some ⟨b, o, none⟩) len cap)
 (hu : Sub L [⟨b, off, cells, size⟩] L' [⟨b, off, cells, size⟩]) (k : K (putO e dst (.slice (some ⟨b, o, none⟩) len cap)) L') : T1 C ⟨dst, .convert t t x, ty, pos, after, guard⟩ K e L := by
 intro ac w K' Q' hr hst hK
 unfold Oper.wp
 rw [hr.eval]
 have hin := (hst.piece hu).2 ⟨b, off, cells, size⟩ (by simp)
 obtain ⟨c, E, lo, hi, hh, hsz, hk, hf⟩ := hin.here
 have hsz' : c.size = size := hsz
 have hf' : lo = hi ∨ size ≤ lo := hf.1
 have hh' : w.heap[b]? = some (.cells c E (lo, hi)) := hh
 have hsh : w.shape? b = some (E, c.size) := by unfold World.shape?; rw [hh']
 have hexec : (execOp (ev C.n e) ⟨dst, .convert t t x, ty, pos, after, guard⟩).run C.P w = .ok (.value (.slice (some ⟨b, o, none⟩) len cap)) (w.freeze ⟨b, c.size, none⟩ 1) := by
  show (do pure (Next.value (← convert t t (ev C.n e x))) : Sem Next).run C.P w = _
  rw [hx]
  refine run_value ?_
  simp [convert, Go.run_underlying hT, Go.run_underlying hel, markStringish, hsh]
 rw [hexec]
 refine hK _ _ _ _ (hr.put _ _) ?_ k
 obtain ⟨fz, hfz, hfv⟩ : ∃ f : Obj → Obj, (w.freeze ⟨b, c.size, none⟩ 1) = { w with heap := w.heap.modify b f } ∧ f (.cells c E (lo, hi)) = .cells c E (if lo == hi then (size, size + 1) else (min lo size, max hi (size + 1))) := by
  refine ⟨_, by unfold World.freeze; rw [if_neg (by decide)], ?_⟩
  rw [hsz']
 rw [hfz]
 refine hst.turn hu rfl rfl rfl rfl (by show (w.heap.modify _ _).size = _; simp) ?_ ?_
 ·
  intro b' hb'
  show (w.heap.modify _ _)[b']? = _
  rw [Array.getElem?_modify, if_neg (Ne.symm hb')]
 ·
  refine Blk.In.ofCells hin.room ⟨c, E, (if lo == hi then (size, size + 1) else (min lo size, max hi (size + 1))).1, (if lo == hi then (size, size + 1) else (min lo size, max hi (size + 1))).2, ?_, hsz, hk, .inr ?_, .inl rfl⟩
  ·
   show (w.heap.modify _ _)[b]? = _
   rw [Array.getElem?_modify, if_pos rfl, hh', Option.map_some, hfv]
  ·
   show size ≤ _
   split
   · exact Nat.le_refl _
   ·
    rename_i h
    have : ¬ lo = hi := by simpa using h
    show size ≤ min lo size
    omega
end rules
end Go.Proofs.YtfjedhmffccgnaaGreatDoor.S
namespace Go.Proofs.YtfjedhmffccgnaaGreatDoor.S
open Go.RowKit
inductive SetAt : List Value → Nat → Value → List Value → Prop
  | here {x v : Value} {l : List Value} : SetAt (x :: l) 0 v (v :: l)
  | there {x v : Value} {l l' : List Value} {n : Nat} : SetAt l n v l' → SetAt (x :: l) (n + 1) v (x :: l')
theorem SetAt.eq {l l' : List Value} {n : Nat} {v : Value} (h : SetAt l n v l') : n < l.length ∧ putN l n [v] = l' := by
 induction h with
 | here => exact ⟨by simp, by simp [putN]⟩
 | there _ ih => exact ⟨by simp [ih.1], by have := ih.2; simp only [putN, List.length_singleton] at this ⊢; rw [← this]; simp⟩
theorem cells_one {v : Value} (h : one v = true) : v.cells = #[v] := by cases v <;> first | (cases h; done) | rfl
section rules
variable {C : Ctx} {K : Env → List Blk → Prop} {e : Env} {L : List Blk}
variable {dst : Option Tmp} {ty : TypeId} {pos : String} {after : Array Edge} {guard : Option (Nat × Bool)}
theorem T1.allocN {elem : TypeId} {zl : List Value} (n : Nat) (hz : ZeroIs C.P elem (.agg zl.toArray)) (hn : zl.length = n) (k : ∀ b, K (putO e dst (.pointer (some ⟨b, 0, none⟩))) (⟨b, 0, zl, n⟩ :: L)) : T1 C ⟨dst, .alloc elem, ty, pos, after, guard⟩ K e L :=
 T1.alloc hz fun b => by have := k b; simpa [Value.cells, hn] using this
theorem T1.boxN {elem : TypeId} {x : Operand} {vs : List Value} (n : Nat) (hv : ev C.n e x = .agg vs.toArray) (hn : vs.length = n) (k : ∀ b, K (putO e dst (.pointer (some ⟨b, 0, none⟩))) (⟨b, 0, vs, n⟩ :: L)) : T1 C ⟨dst, .box elem x, ty, pos, after, guard⟩ K e L :=
 T1.box hv fun b => by have := k b; simpa [Value.cells, hn] using this
theorem T1.store1 {t : TypeId} {x y : Operand} {b o off size : Nat} {tg : Option TypeId} {cells cells' : List Value} {L' : List Blk} {v : Value} (hp : ev C.n e x = .pointer (some ⟨b, o, none⟩)) (hv : ev C.n e y = v) (hk : SizeIs C.P t 1) (hone : one v = true)
 (hu : Sub L [⟨⟨b, tg⟩, off, cells, size⟩] L' [⟨⟨b, tg⟩, off, cells', size⟩]) (h1 : off ≤ o) (hset : SetAt cells (o - off) v cells') (k : K (putO e dst undef) L') : T1 C ⟨dst, .store t x y, ty, pos, after, guard⟩ K e L := by
 have hc := cells_one hone
 obtain ⟨s1, s2⟩ := hset.eq
 refine T1.store (tg := tg) (cells := cells) (off := off) (size := size) hp hv (by rw [hc]; exact hk) h1 (by rw [hc]; simp; omega) (by rw [hc]; simpa using hone) (L' := L') ?_ k
 rw [hc]; simp only; rw [s2]; exact hu
theorem T1.storeI {t : TypeId} {x y : Operand} {b o off size : Nat} {tg : Option TypeId} {cells : List Value} {L' : List Blk} {v : Value} (hp : ev C.n e x = .pointer (some ⟨b, o, none⟩)) (hv : ev C.n e y = v) (hk : SizeIs C.P t 1) (hone : one v = true)
 (hu : Sub L [⟨⟨b, tg⟩, off, cells, size⟩] L' [⟨⟨b, tg⟩, off, cells.set (o - off) v, size⟩]) (h1 : off ≤ o) (h2 : o < off + cells.length) (k : K (putO e dst undef) L') : T1 C ⟨dst, .store t x y, ty, pos, after, guard⟩ K e L := by
 have hc := cells_one hone
 refine T1.store (tg := tg) (cells := cells) (off := off) (size := size) hp hv (by rw [hc]; exact hk) h1 (by rw [hc]; simp; omega) (by rw [hc]; simpa using hone) (L' := L') ?_ k
 rw [hc]
 have : putN cells (o - off) #[v].toList = cells.set (o - off) v := by
  apply List.ext_getElem?
  intro i
  rw [putN_get (by simp; omega), List.getElem?_set]
  by_cases hi : o - off = i
  · subst hi; simp; omega
  · rw [if_neg (by simp; omega), if_neg hi]
 rw [this]; exact hu
theorem T1.storeN {t : TypeId} {x y : Operand} {b size k : Nat} {tg : Option TypeId} {cells vs : List Value} {L' : List Blk} (hp : ev C.n e x = .pointer (some ⟨b, 0, none⟩)) (hv : ev C.n e y = .agg vs.toArray) (hk : SizeIs C.P t k) (hone : ∀ u ∈ vs, one u = true)
 (hu : Sub L [⟨⟨b, tg⟩, 0, cells, size⟩] L' [⟨⟨b, tg⟩, 0, vs, size⟩]) (hl : vs.length = cells.length) (hlk : vs.length = k) (kk : K (putO e dst undef) L') : T1 C ⟨dst, .store t x y, ty, pos, after, guard⟩ K e L := by
 refine T1.store (tg := tg) (cells := cells) (off := 0) (size := size) hp hv (by subst hlk; simpa [Value.cells] using hk) (Nat.le_refl 0) (by simp [Value.cells, hl]) (by simpa [Value.cells] using hone) (L' := L') ?_ kk
 have : putN cells 0 vs = vs := by simp [putN, hl]
 simp only [Value.cells, Nat.sub_self]
 rw [this]; exact hu
theorem run_eqInt {P : Program} {t : TypeId} {kd : IntKind} {d : Nat} (hT : P.underlying t = some (.int kd)) (a b : Int) (w : World) : (Op.equalIn (d + 1) t (.int kd a) (.int kd b)).run P w = .ok (a == b) w := by
 unfold Op.equalIn
 rw [run_bind (run_underlying hT w)]
 simp [pure]
theorem run_eqArr {P : Program} {t el : TypeId} {kd : IntKind} {n : Nat} (hT : P.underlying t = some (.array n el)) (hE : P.underlying el = some (.int kd)) (hk : SizeIs P el 1) (xs ys : List Int) (hx : xs.length = n) (hy : ys.length = n) (w : World) :
 (Op.equal t (.agg (xs.map (Value.int kd)).toArray) (.agg (ys.map (Value.int kd)).toArray)).run P w = .ok (decide (xs = ys)) w := by
 unfold Op.equal Op.maxDepth
 unfold Op.equalIn
 rw [run_bind (run_underlying hT w)]
 simp only
 rw [run_bind (run_sizeOf hk w)]
 simp only [Nat.mul_one, Std.Legacy.Range.forIn_eq_forIn_range', Std.Legacy.Range.size]
 have hone : OneT P el true := by unfold OneT; rw [hE]; rfl
 have key : ∀ (m i : Nat), i + m = n → ∀ (f : Nat → Option Bool × Unit → Sem (ForInStep (Option Bool × Unit))),
  (∀ j, j < n → (f j (none, ())).run P w = .ok (if xs[j]? = ys[j]? then .yield (none, ()) else .done (some false, ())) w) →
  (forIn (List.range' i m 1) ((none, ()) : Option Bool × Unit) f).run P w = .ok (if xs.drop i = ys.drop i then (none, ()) else (some false, ())) w := by
  intro m
  induction m with
  | zero =>
   intro i hi f _
   rw [List.drop_eq_nil_of_le (by omega), List.drop_eq_nil_of_le (by omega)]
   simp [pure]
  | succ m ih =>
   intro i hi f hf
   rw [List.range'_succ, List.forIn_cons, run_bind (hf i (by omega))]
   have hxi : i < xs.length := by omega
   have hyi : i < ys.length := by omega
   rw [List.drop_eq_getElem_cons hxi, List.drop_eq_getElem_cons hyi]
   rw [List.getElem?_eq_getElem hxi, List.getElem?_eq_getElem hyi]
   by_cases hc : xs[i] = ys[i]
   ·
    rw [if_pos (by rw [hc])]
    simp only [hc, List.cons.injEq, true_and]
    exact ih (i + 1) (by omega) f hf
   ·
    rw [if_neg (by simpa using hc)]
    rw [if_neg (by intro h; exact hc (List.cons.inj h).1)]
    simp [pure]
 have hstep : ∀ j, j < n → ((do
  if !(← Op.equalIn 9999 el (← part el (xs.map (Value.int kd)).toArray j) (← part el (ys.map (Value.int kd)).toArray j)) then pure (ForInStep.done ((some false, ()) : Option Bool × Unit))
  else pure (ForInStep.yield (none, ()))) : Sem (ForInStep (Option Bool × Unit))).run P w = .ok (if xs[j]? = ys[j]? then .yield (none, ()) else .done (some false, ())) w := by
  intro j hj
  have h1 : (part el (xs.map (Value.int kd)).toArray j).run P w = .ok (.int kd (xs[j]'(by omega))) w := run_part1 hone (by simp [show j < xs.length by omega]) w
  have h2 : (part el (ys.map (Value.int kd)).toArray j).run P w = .ok (.int kd (ys[j]'(by omega))) w := run_part1 hone (by simp [show j < ys.length by omega]) w
  rw [run_bind h1, run_bind h2, run_bind (run_eqInt hE _ _ w)]
  rw [List.getElem?_eq_getElem (by omega : j < xs.length), List.getElem?_eq_getElem (by omega : j < ys.length)]
  by_cases hc : xs[j]'(by omega) = ys[j]'(by omega) <;> simp [hc, pure]
 have := key n 0 (by omega) (fun j _ => do
  if !(← Op.equalIn 9999 el (← part el (xs.map (Value.int kd)).toArray j) (← part el (ys.map (Value.int kd)).toArray j)) then pure (ForInStep.done ((some false, ()) : Option Bool × Unit))
  else pure (ForInStep.yield (none, ()))) hstep
 simp only [List.drop_zero] at this
 rw [show (n - 0 + 1 - 1) / 1 = n by omega, run_bind this]
 by_cases hc : xs = ys <;> simp [hc, pure]
theorem V1.eqA {t el yt : TypeId} {x y : Operand} {kd : IntKind} {n : Nat} {xs ys : List Int} {r : Bool} (hT : C.P.underlying t = some (.array n el)) (hE : C.P.underlying el = some (.int kd)) (hk : SizeIs C.P el 1) (hg : Program.eqGuardType C.P C.P.depth t = false)
 (hx : ev C.n e x = .agg (xs.map (Value.int kd)).toArray) (hy : ev C.n e y = .agg (ys.map (Value.int kd)).toArray) (hxl : xs.length = n) (hyl : ys.length = n) (h : decide (xs = ys) = r) : V1 C ⟨dst, .binOp .eql t x y yt, ty, pos, after, guard⟩ e L (.bool r) :=
 V1.run (s := do eqGuard .eql t x y (ev C.n e x) (ev C.n e y); binOp .eql t (ev C.n e x) (ev C.n e y)) rfl (fun w _ => by
  rw [hx, hy]; subst h
  have h1 : (eqGuard .eql t x y (.agg (xs.map (Value.int kd)).toArray) (.agg (ys.map (Value.int kd)).toArray)).run C.P w = .ok () w := by
   simp [eqGuard, program, bind, Sem.bind, pure, Sem.run, hg]
  rw [run_bind h1]
  show (do pure (Value.bool (← Op.equal t (.agg (xs.map (Value.int kd)).toArray) (.agg (ys.map (Value.int kd)).toArray))) : Sem Value).run C.P w = _
  rw [run_bind (run_eqArr hT hE hk xs ys hxl hyl w)]; rfl)
theorem V1.neA {t el yt : TypeId} {x y : Operand} {kd : IntKind} {n : Nat} {xs ys : List Int} {r : Bool} (hT : C.P.underlying t = some (.array n el)) (hE : C.P.underlying el = some (.int kd)) (hk : SizeIs C.P el 1) (hg : Program.eqGuardType C.P C.P.depth t = false)
 (hx : ev C.n e x = .agg (xs.map (Value.int kd)).toArray) (hy : ev C.n e y = .agg (ys.map (Value.int kd)).toArray) (hxl : xs.length = n) (hyl : ys.length = n) (h : decide (xs ≠ ys) = r) : V1 C ⟨dst, .binOp .neq t x y yt, ty, pos, after, guard⟩ e L (.bool r) :=
 V1.run (s := do eqGuard .neq t x y (ev C.n e x) (ev C.n e y); binOp .neq t (ev C.n e x) (ev C.n e y)) rfl (fun w _ => by
  rw [hx, hy]; subst h
  have h1 : (eqGuard .neq t x y (.agg (xs.map (Value.int kd)).toArray) (.agg (ys.map (Value.int kd)).toArray)).run C.P w = .ok () w := by
   simp [eqGuard, program, bind, Sem.bind, pure, Sem.run, hg]
  rw [run_bind h1]
  show (do pure (Value.bool (!(← Op.equal t (.agg (xs.map (Value.int kd)).toArray) (.agg (ys.map (Value.int kd)).toArray)))) : Sem Value).run C.P w = _
  rw [run_bind (run_eqArr hT hE hk xs ys hxl hyl w)]
  by_cases hc : xs = ys <;> simp [hc, pure])
def Tg (C : Ctx) (ops : Array Oper) (o : Oper) (K : Env → List Blk → Prop) (e : Env) (L : List Blk) : Prop :=
  (wantedE C.n ops e o.guard = true → T1 C o K e L) ∧ (wantedE C.n ops e o.guard = false → K (putO e o.dst undef) L)
def TD (C : Ctx) (S : List Blk → Prop) (ops : Array Oper) (Q : Post) (fuel : Nat) (listed : Array Bool) (e : Env) (L : List Blk) : Prop :=
  ∀ a w, Rel C.n e a → St C.w0 C.M L w → S L → wpAnyH C.P .any ops (lift C Q) (fun w => ∃ L, St C.w0 C.M L w ∧ S L) fuel listed a w
theorem T.draw {id : Nat} {l : List Oper} {Q : Post} (S : List Blk → Prop) (hm : C.P.follows .mixedOrders = true) (hS : S L) (h : TD C S l.toArray Q l.toArray.size (Array.replicate l.toArray.size false) e L) : T C (.region id l.toArray true) Q e L :=
 fun a _ hr hs => wp_region_held hm (h a _ hr (hs.drew _ (Nat.le_succ _)) hS)
theorem TD.done {S : List Blk → Prop} {ops : Array Oper} {Q : Post} {fuel : Nat} {listed : Array Bool} (hr : Region.ready .any ops listed = []) (h : Q .normal e L) : TD C S ops Q fuel listed e L :=
 fun _ _ hrel hs _ => wpAnyH_done hr ⟨e, L, hrel, hs, h⟩ fuel
theorem TD.all {S : List Blk → Prop} {ops : Array Oper} {Q : Post} {fuel : Nat} {listed : Array Bool} {rs : List Nat} (hr : Region.ready .any ops listed = rs) (hne : rs ≠ [])
 (h : ∀ i ∈ rs, ∃ o, ops[i]? = some o ∧ Tg C ops o (fun e' L' => S L' ∧ TD C S ops Q fuel (listed.setIfInBounds i true) e' L') e L) : TD C S ops Q (fuel + 1) listed e L := by
 intro a w hrel hs hS
 refine wpAnyH_all hr hne fun i hi => ?_
 obtain ⟨o, ho, hg1, hg0⟩ := h i hi
 unfold wpOp
 simp only [ho]
 rw [wanted_eq hrel]
 cases hw : wantedE C.n ops e o.guard with
 | true =>
  simp only [if_true]
  refine .inl (hg1 hw a w _ _ hrel hs ?_)
  intro a' w' e' L' hr' hs' ⟨hS', hT'⟩
  exact ⟨⟨L', hs', hS'⟩, hT' a' w' hr' hs' hS'⟩
 | false =>
  simp only [Bool.false_eq_true, if_false]
  obtain ⟨hS', hT'⟩ := hg0 hw
  exact ⟨⟨L, hs, hS'⟩, hT' _ _ (hrel.put _ _) hs hS'⟩
theorem TD.one {S : List Blk → Prop} {ops : Array Oper} {Q : Post} {fuel : Nat} {listed : Array Bool} {i : Nat} {o : Oper} (hr : Region.ready .any ops listed = [i]) (ho : ops[i]? = some o) (hg : wantedE C.n ops e o.guard = true)
 (h : T1 C o (fun e' L' => S L' ∧ TD C S ops Q fuel (listed.setIfInBounds i true) e' L') e L) : TD C S ops Q (fuel + 1) listed e L :=
 TD.all hr (by simp) fun j hj => by
  have : j = i := by simpa using hj
  subst this
  exact ⟨o, ho, fun _ => h, fun h0 => by rw [hg] at h0; cases h0⟩
theorem TD.take {S : List Blk → Prop} {ops : Array Oper} {Q : Post} {fuel : Nat} {listed : Array Bool} {i : Nat} {o : Oper} (v : Value) (hi : ops[i]? = some o) (hsel : Region.noSelect ops = true) (hf : Region.free .any ops listed i = true) (hr : (Region.ready .any ops listed).contains i = true)
 (hg : wantedE C.n ops e o.guard = true) (hQ : ∀ c e L, ¬ Q (.panic c) e L) (hy : ∀ L, S L → V1 C o e L v)
 (h : TD C S ops Q fuel (listed.setIfInBounds i true) (putO e o.dst v) L) : TD C S ops Q (fuel + 1) listed e L := by
 intro a w hrel hs hS
 refine wpAnyH_take (v := v) hi hsel hf hr ?_ ?_ ⟨L, hs, hS⟩ (h _ _ (hrel.put _ _) hs hS)
 ·
  rintro c a w ⟨e', L', _, _, hq⟩
  exact absurd hq (hQ c e' L')
 ·
  refine .inl ⟨by rw [wanted_eq hrel]; exact hg, ?_⟩
  rintro w' ⟨L', hs', hS'⟩
  rw [hrel.eval]
  exact hy L' hS' w' hs'
def TU (C : Ctx) (ops : Array Oper) (Q : Post) (fuel : Nat) (listed : Array Bool) (e : Env) (L : List Blk) : Prop := TD C (fun _ => True) ops Q fuel listed e L
theorem T.drawU {id : Nat} {l : List Oper} {Q : Post} (hm : C.P.follows .mixedOrders = true) (h : TU C l.toArray Q l.toArray.size (Array.replicate l.toArray.size false) e L) : T C (.region id l.toArray true) Q e L :=
 T.draw (fun _ => True) hm trivial h
theorem TU.done {ops : Array Oper} {Q : Post} {fuel : Nat} {listed : Array Bool} (hr : Region.ready .any ops listed = []) (h : Q .normal e L) : TU C ops Q fuel listed e L := TD.done hr h
theorem TU.take {ops : Array Oper} {Q : Post} {fuel : Nat} {listed : Array Bool} (i : Nat) {o : Oper} {v : Value} (hi : ops[i]? = some o) (hsel : Region.noSelect ops = true) (hf : Region.free .any ops listed i = true) (hr : (Region.ready .any ops listed).contains i = true)
 (hg : wantedE C.n ops e o.guard = true) (hQ : ∀ c e L, ¬ Q (.panic c) e L) (hy : ∀ L, V1 C o e L v) (h : TU C ops Q fuel (listed.setIfInBounds i true) (putO e o.dst v) L) : TU C ops Q (fuel + 1) listed e L :=
 TD.take v hi hsel hf hr hg hQ (fun L _ => hy L) h
theorem TU.one {ops : Array Oper} {Q : Post} {fuel : Nat} {listed : Array Bool} (i : Nat) {o : Oper} (hr : Region.ready .any ops listed = [i]) (ho : ops[i]? = some o) (hg : wantedE C.n ops e o.guard = true)
 (h : T1 C o (TU C ops Q fuel (listed.setIfInBounds i true)) e L) : TU C ops Q (fuel + 1) listed e L :=
 TD.one hr ho hg (fun a w K' Q' hr hs hK => h a w K' Q' hr hs fun a' w' e' L' h1 h2 h3 => hK a' w' e' L' h1 h2 ⟨trivial, h3⟩)
theorem TU.two {ops : Array Oper} {Q : Post} {fuel : Nat} {listed : Array Bool} (i j : Nat) {oi oj : Oper} (hr : Region.ready .any ops listed = [i, j]) (hoi : ops[i]? = some oi) (hoj : ops[j]? = some oj) (hgi : wantedE C.n ops e oi.guard = true) (hgj : wantedE C.n ops e oj.guard = true)
 (hi : T1 C oi (TU C ops Q fuel (listed.setIfInBounds i true)) e L) (hj : T1 C oj (TU C ops Q fuel (listed.setIfInBounds j true)) e L) : TU C ops Q (fuel + 1) listed e L :=
 TD.all hr (by simp) fun k hk => by
  simp only [List.mem_cons, List.not_mem_nil, or_false] at hk
  rcases hk with rfl | rfl
  · exact ⟨oi, hoi, fun _ a w K' Q' hr hs hK => hi a w K' Q' hr hs fun a' w' e' L' h1 h2 h3 => hK a' w' e' L' h1 h2 ⟨trivial, h3⟩, fun h0 => by rw [hgi] at h0; cases h0⟩
  · exact ⟨oj, hoj, fun _ a w K' Q' hr hs hK => hj a w K' Q' hr hs fun a' w' e' L' h1 h2 h3 => hK a' w' e' L' h1 h2 ⟨trivial, h3⟩, fun h0 => by rw [hgj] at h0; cases h0⟩
inductive Evs (n : FrS) (e : Env) : List Operand → List Value → Prop
  | nil : Evs n e [] []
  | cons {o : Operand} {v : Value} {os : List Operand} {vs : List Value} : ev n e o = v → Evs n e os vs → Evs n e (o :: os) (v :: vs)
theorem Evs.eq {n : FrS} {e : Env} {os : List Operand} {vs : List Value} (h : Evs n e os vs) : os.map (ev n e) = vs := by
 induction h with
 | nil => rfl
 | cons h _ ih => rw [List.map_cons, h, ih]
theorem ones {vs : List Value} (h : vs.all one = true) : ∀ u ∈ vs, one u = true := by simpa using h
theorem flatten_ones {vs : List Value} (h : ∀ u ∈ vs, one u = true) : (vs.map (fun v => v.cells.toList)).flatten = vs := by
 induction vs with
 | nil => rfl
 | cons v vs ih =>
  rw [List.map_cons, List.flatten_cons, ih (fun u hu => h u (by simp [hu])), cells_one (h v (by simp))]; rfl
theorem parts_eq {n : FrS} {e : Env} {os : List Operand} {vs : List Value} (h : Evs n e os vs) : (((os.zipIdx 0).map (fun p => (p.2, p.1))).map (fun p => (p.1, ev n e p.2))) = (vs.zipIdx 0).map (fun p => (p.2, p.1)) := by
 rw [← h.eq, List.map_map]
 have : ∀ (os : List Operand) (k : Nat), ((os.zipIdx k).map ((fun p : Nat × Operand => (p.1, ev n e p.2)) ∘ fun p : Operand × Nat => (p.2, p.1))) = ((os.map (ev n e)).zipIdx k).map (fun p => (p.2, p.1)) := by
  intro os
  induction os with
  | nil => intro k; rfl
  | cons o os ih => intro k; simp only [List.zipIdx_cons, List.map_cons, ih]; rfl
 exact this os 0
theorem T1.buildSl1 {t el : TypeId} {len : Nat} {ps : List (Nat × Operand)} {os : List Operand} {vs : List Value} {z : Value} (hT : C.P.underlying t = some (.slice el)) (hk : SizeIs C.P el 1) (hz : ZeroIs C.P el z)
 (hlen : len ≤ 16777216) (hps : ps = (os.zipIdx 0).map (fun p => (p.2, p.1))) (hev : Evs C.n e os vs) (hl : vs.length = len) (hone : ∀ u ∈ vs, one u = true)
 (k : ∀ b, K (putO e dst (.slice (some ⟨b, 0, none⟩) len len)) (⟨b, 0, vs, len⟩ :: L)) : T1 C ⟨dst, .buildSlice t len ps.toArray, ty, pos, after, guard⟩ K e L := by
 subst hps
 refine T1.buildSlice hT hk hz (by omega) (parts_eq hev) hl (fun v hv => by rw [cells_one (hone v hv)]; rfl) (fun b => ?_)
 rw [flatten_ones hone, Nat.mul_one]
 exact k b
inductive SetN : List Value → Nat → List Value → List Value → Prop
  | done {l : List Value} : SetN l 0 [] l
  | here {x v : Value} {l l' vs : List Value} : SetN l 0 vs l' → SetN (x :: l) 0 (v :: vs) (v :: l')
  | there {x : Value} {l l' vs : List Value} {n : Nat} : SetN l n vs l' → SetN (x :: l) (n + 1) vs (x :: l')
theorem SetN.eq {l l' vs : List Value} {n : Nat} (h : SetN l n vs l') : n + vs.length ≤ l.length ∧ putN l n vs = l' := by
 induction h with
 | done => exact ⟨by simp, by simp [putN]⟩
 | here _ ih => exact ⟨by have := ih.1; simp at this ⊢; omega, by have := ih.2; simp only [putN, Nat.zero_add, List.length_cons] at this ⊢; rw [← this]; simp⟩
 | there _ ih => exact ⟨by have := ih.1; simp at this ⊢; omega, by have := ih.2; simp only [putN] at this ⊢; rw [← this]; simp [Nat.add_right_comm]⟩
inductive FillL : List Value → List (Nat × List Value) → List Value → Prop
  | nil {l : List Value} : FillL l [] l
  | cons {l l1 out vs : List Value} {off : Nat} {qs : List (Nat × List Value)} : SetN l off vs l1 → FillL l1 qs out → FillL l ((off, vs) :: qs) out
inductive Parts (n : FrS) (e : Env) (place : Nat → Option (Nat × Nat)) : List (Nat × Operand) → List (Nat × List Value) → Prop
  | nil : Parts n e place [] []
  | one {i off : Nat} {o : Operand} {v : Value} {ps : List (Nat × Operand)} {qs : List (Nat × List Value)} : place i = some (off, 1) → ev n e o = v → one v = true → Parts n e place ps qs → Parts n e place ((i, o) :: ps) ((off, [v]) :: qs)
  | many {i off k : Nat} {o : Operand} {l : List Value} {ps : List (Nat × Operand)} {qs : List (Nat × List Value)} : place i = some (off, k) → ev n e o = .agg l.toArray → l.length = k → Parts n e place ps qs → Parts n e place ((i, o) :: ps) ((off, l) :: qs)
theorem fold_putN {v : Value} {off : Nat} {l : List Value} (h : off + v.cells.size ≤ l.length) : (v.cells.zipIdx.foldl (fun cs (c, j) => cs.setIfInBounds (off + j) c) l.toArray).toList = putN l off v.cells.toList := by
 rw [zip_foldl_toList]
 obtain ⟨h1, h2⟩ := foldl_set v.cells.toList off 0 l.toArray (by simpa using h)
 apply List.ext_getElem?
 intro i
 rw [Array.getElem?_toList, h2, putN_get (by simpa using h)]
 simp
theorem fill_parts {n : FrS} {e : Env} {place : Nat → Option (Nat × Nat)} {ps : List (Nat × Operand)} {qs : List (Nat × List Value)} (h : Parts n e place ps qs) : ∀ {l out : List Value}, FillL l qs out →
 Instr.fill place l.toArray (ps.map (fun p => (p.1, ev n e p.2))) = some out.toArray := by
 have step : ∀ {i off k : Nat} {v : Value} {l l1 vs : List Value} {rest : List (Nat × Value)}, place i = some (off, k) → v.cells.size = k → v.cells.toList = vs → SetN l off vs l1 → Instr.fill place l.toArray ((i, v) :: rest) = Instr.fill place l1.toArray rest := by
  intro i off k v l l1 vs rest hp hk hvs hset
  subst hk; subst hvs
  obtain ⟨s1, s2⟩ := hset.eq
  simp only [Array.length_toList] at s1
  have := fold_putN (v := v) (off := off) (l := l) s1
  rw [s2] at this
  have hcells : (v.cells.zipIdx.foldl (fun cs (c, j) => cs.setIfInBounds (off + j) c) l.toArray) = l1.toArray := by rw [← this, Array.toArray_toList]
  simp only [Instr.fill, hp]
  rw [if_neg (by simp; omega)]
  rw [← hcells]
 induction h with
 | nil => intro l out hf; cases hf; rfl
 | @one i off o v ps qs h1 h2 h3 _ ih =>
  intro l out hf
  cases hf with
  | cons hs hr =>
   rw [List.map_cons, step h1 (by show (ev n e o).cells.size = 1; rw [h2, cells_one h3]; rfl) (by show (ev n e o).cells.toList = [v]; rw [h2, cells_one h3]) hs]
   exact ih hr
 | @many i off k o l' ps qs h1 h2 h3 _ ih =>
  intro l out hf
  cases hf with
  | cons hs hr =>
   rw [List.map_cons, step h1 (by show (ev n e o).cells.size = k; rw [h2]; simpa [Value.cells] using h3) (by show (ev n e o).cells.toList = l'; rw [h2]; rfl) hs]
   exact ih hr
theorem V1.buildF {t : TypeId} {ps : List (Nat × Operand)} {qs : List (Nat × List Value)} {places : Array (Nat × Nat)} {zl out : List Value} (hP : PlacesAre C.P t places) (hz : ZeroIs C.P t (.agg zl.toArray)) (hp : Parts C.n e (fun i => places[i]?) ps qs) (hf : FillL zl qs out) :
 V1 C ⟨dst, .build t ps.toArray, ty, pos, after, guard⟩ e L (.agg out.toArray) := V1.build hP hz (fill_parts hp hf)
theorem V1.buildFA {t el : TypeId} {n size : Nat} {ps : List (Nat × Operand)} {qs : List (Nat × List Value)} {zl out : List Value} (hT : C.P.underlying t = some (.array n el)) (hk : SizeIs C.P el size) (hz : ZeroIs C.P t (.agg zl.toArray)) (hp : Parts C.n e (fun i => some (i * size, size)) ps qs) (hf : FillL zl qs out) :
 V1 C ⟨dst, .build t ps.toArray, ty, pos, after, guard⟩ e L (.agg out.toArray) := V1.buildA hT hk hz (fill_parts hp hf)
end rules
theorem wrap_i64 (x : Int) (h1 : -9223372036854775808 ≤ x) (h2 : x < 9223372036854775808) : IntKind.i64.wrap x = x := by unfold IntKind.wrap IntKind.bits IntKind.signed; simp; omega
theorem wrap_u8 (x : Int) (h1 : 0 ≤ x) (h2 : x < 256) : IntKind.u8.wrap x = x := by unfold IntKind.wrap IntKind.bits IntKind.signed; simp; omega
theorem wrap_u32 (x : Int) (h1 : 0 ≤ x) (h2 : x < 4294967296) : IntKind.u32.wrap x = x := by unfold IntKind.wrap IntKind.bits IntKind.signed; simp; omega
theorem wrap_u64 (x : Int) (h1 : 0 ≤ x) (h2 : x < 18446744073709551616) : IntKind.u64.wrap x = x := by unfold IntKind.wrap IntKind.bits IntKind.signed; simp; omega
theorem wrap_u8_mod (x : Int) : IntKind.u8.wrap x = x % 256 := by unfold IntKind.wrap IntKind.bits IntKind.signed; simp
def putAll : List (Nat × Value) → Env → Env
  | [], e => e
  | (t, v) :: l, e => put (putAll l e) t v
inductive Trk (e : Env) : List (Nat × Value) → Prop
  | nil : Trk e []
  | cons {t : Nat} {v : Value} {l : List (Nat × Value)} : e t = v → Trk e l → Trk e ((t, v) :: l)
def Off (S : List Nat) (e' e : Env) : Prop := ∀ t, S.contains t = false → e' t = e t
theorem Trk.put {e : Env} {l : List (Nat × Value)} (h : Trk e l) : putAll l e = e := by
 induction h with
 | nil => rfl
 | @cons t v l ht _ ih =>
  simp only [putAll, ih]
  funext u
  show (bif Nat.beq u t then v else e u) = e u
  cases hb : Nat.beq u t with
  | true => rw [Nat.eq_of_beq_eq_true hb, ht]; rfl
  | false => rfl
def rndF {σ : Type} (S : List Nat) (e0 : Env) (tr : σ → List (Nat × Value)) (I : σ → List Blk → Prop) (μ : σ → Nat) (s : σ) (Q : Post) : Post
  | .normal, e, L => ∃ s' L2 G, μ s' < μ s ∧ Trk e (tr s') ∧ Take L L2 G ∧ I s' L2 ∧ Off S e e0
  | x, e, L => Q x e L
theorem T.live {C : Ctx} {Q : Post} {e : Env} {L : List Blk} {c : Code} {l : List (Nat × Value)} (h : Trk e l) (k : ∀ e', T C c Q (putAll l e') L) : T C c Q e L := by
 have := k e
 rwa [h.put] at this
def rndL {σ : Type} (l0 : List (Nat × Value)) (tr : σ → List (Nat × Value)) (I : σ → List Blk → Prop) (ok : σ → Prop) (Q : Post) : Post
  | .normal, e, L => ∃ s' L2 G, ok s' ∧ Trk e (tr s') ∧ Trk e l0 ∧ Take L L2 G ∧ I s' L2
  | x, e, L => Q x e L
theorem T.loopL {C : Ctx} {Q : Post} {e : Env} {L : List Blk} {c : Code} {σ : Type} {l0 : List (Nat × Value)} (tr : σ → List (Nat × Value)) (I : σ → List Blk → Prop) (μ : σ → Nat) (s0 : σ) (h0 : Trk e (tr s0)) (h1 : Trk e l0) {L0 G0 : List Blk} (ht0 : Take L L0 G0) (hI : I s0 L0)
 (round : ∀ s e' L, I s L → T C c (rndL l0 tr I (fun s' => μ s' < μ s) Q) (putAll (tr s) (putAll l0 e')) L) : T C (.loop c) Q e L := by
 refine T.loop (fun s e' L => (∃ L2 G, Take L L2 G ∧ I s L2) ∧ Trk e' (tr s) ∧ Trk e' l0) μ s0 ⟨⟨L0, G0, ht0, hI⟩, h0, h1⟩ ?_
 rintro s e' L ⟨⟨L2, G2, htk, hI⟩, ht, hl⟩
 refine T.perm (T.sub (L' := L2) ?_ (List.sublist_append_left L2 G2)) htk.perm.symm
 have := round s e' L2 hI
 rw [hl.put, ht.put] at this
 refine this.mono ?_
 intro x e L hq
 cases x with
 | normal =>
  obtain ⟨s', L3, G3, h1, h2, h3, h4, h5⟩ := hq
  exact ⟨s', h1, ⟨L3, G3, h4, h5⟩, h2, h3⟩
 | _ => exact hq
theorem T.cut {C : Ctx} {Q : Post} {e : Env} {L : List Blk} {x y : Code} {σ : Type} {l0 : List (Nat × Value)} (tr : σ → List (Nat × Value)) (I : σ → List Blk → Prop) (_ : Trk e l0) (hx : T C x (rndL l0 tr I (fun _ => True) Q) e L)
 (hy : ∀ s e' L, I s L → T C y Q (putAll (tr s) (putAll l0 e')) L) : T C (.seq x y) Q e L := by
 refine T.seq (hx.mono ?_)
 intro ex e L hq
 cases ex with
 | normal =>
  obtain ⟨s', L3, G3, _, h2, h3, h4, h5⟩ := hq
  have := hy s' e L3 h5
  rw [h3.put, h2.put] at this
  exact T.perm (T.sub this (List.sublist_append_left L3 G3)) h4.perm.symm
 | _ => exact hq
end Go.Proofs.YtfjedhmffccgnaaGreatDoor.S
namespace Go.Proofs.YtfjedhmffccgnaaGreatDoor.S
theorem shr_u {n : Nat} {k : Int} {b m : Nat} (h : min k.toNat b = m) : (n : Int).fdiv (2 ^ min k.toNat b) = ((n / 2 ^ m : Nat) : Int) := by
 rw [h, Int.fdiv_eq_ediv_of_nonneg _ (Int.pow_nonneg (by decide))]
 simp
theorem u8_nat (m : Nat) : IntKind.u8.wrap (m : Int) = ((UInt8.ofNat m).toNat : Int) := by
 rw [wrap_u8_mod]; simp
theorem u8_kind {k : Int} (h1 : 0 ≤ k) (h2 : k < 256) : IntKind.u8.wrap k = ((UInt8.ofNat k.toNat).toNat : Int) := by
 rw [wrap_u8 k h1 h2]; simp; omega
def Nilish (v : Value) : Prop := v = .slice none 0 0 ∨ ∃ a, v = .slice (some a) 0 0
def SlR (w : World) (v : Value) (k n : Nat) (vs : List Value) : Prop :=
  (Nilish v ∧ n = 0 ∧ vs = []) ∨ ∃ b o c, v = .slice (some ⟨b, o, none⟩) n c ∧ n ≤ c ∧ vs.length = n * k ∧ CellsAt w ⟨b, o, none⟩ vs
theorem SlR.len {w : World} {v : Value} {k n : Nat} {vs : List Value} (h : SlR w v k n vs) : vs.length = n * k := by
 rcases h with ⟨_, rfl, rfl⟩ | ⟨_, _, _, _, _, h, _⟩
 · simp
 · exact h
theorem SlR.src {C : Ctx} {L : List Blk} {v : Value} {k n : Nat} {vs : List Value} (h : SlR C.w0 v k n vs) (hm : C.M = []) : Src C L k v n vs := by
 rcases h with ⟨rfl | ⟨a, rfl⟩, rfl, rfl⟩ | ⟨b, o, c, rfl, _, hl, hc⟩
 · exact .nil
 · exact .odd
 · exact .sl (RdN.old hc (by rw [hm]; simp)) hl
theorem SlR.elem {C : Ctx} {L : List Blk} {b o c k n i : Nat} {vs : List Value} (h : SlR C.w0 (.slice (some ⟨b, o, none⟩) n c) k n vs) (hm : C.M = []) (hi : i < n) : ((vs.drop (i * k)).take k).length = k ∧ RdN C L ⟨b, o + i * k, none⟩ ((vs.drop (i * k)).take k) := by
 rcases h with ⟨_, h, _⟩ | ⟨b', o', c', h, _, hl, hc⟩
 · omega
 ·
  cases h
  have hle : i * k + k ≤ n * k := by rw [← Nat.succ_mul]; exact Nat.mul_le_mul_right _ hi
  refine ⟨by simp; omega, RdN.old (fun j v hv => ?_) (by rw [hm]; simp)⟩
  show C.w0.cell? ⟨b, o + i * k + j, none⟩ = some v
  rw [List.getElem?_take] at hv
  split at hv
  ·
   rw [List.getElem?_drop] at hv
   have := hc (i * k + j) v hv
   rw [Nat.add_assoc]; exact this
  · cases hv
theorem flatten_drop {α : Type} {k : Nat} : ∀ (l : List (List α)) (i : Nat), (∀ x ∈ l, x.length = k) → ∀ x, l[i]? = some x → (l.flatten.drop (i * k)).take k = x := by
 intro l
 induction l with
 | nil => intro i _ x h; simp at h
 | cons y l ih =>
  intro i hl x hx
  cases i with
  | zero =>
   simp only [List.getElem?_cons_zero, Option.some.injEq] at hx; subst hx
   have := hl y (by simp)
   simp [← this]
  | succ i =>
   simp only [List.getElem?_cons_succ] at hx
   have hy := hl y (by simp)
   rw [List.flatten_cons, Nat.succ_mul, List.drop_append, List.drop_eq_nil_of_le (by omega), List.nil_append, hy, Nat.add_sub_cancel]
   exact ih i (fun z hz => hl z (by simp [hz])) x hx
theorem SlR.form {w : World} {v : Value} {k n : Nat} {vs : List Value} (h : SlR w v k n vs) : ∃ a c, v = .slice a n c := by
 rcases h with ⟨rfl | ⟨a, rfl⟩, rfl, _⟩ | ⟨b, o, c, rfl, _⟩
 · exact ⟨_, _, rfl⟩
 · exact ⟨_, _, rfl⟩
 · exact ⟨_, _, rfl⟩
theorem SlR.isSome {w : World} {a : Option Addr} {k n c : Nat} {vs : List Value} (h : SlR w (.slice a n c) k n vs) (hn : 0 < n) : ∃ b o, a = some ⟨b, o, none⟩ := by
 rcases h with ⟨_, rfl, _⟩ | ⟨b, o, c, h, _⟩
 · omega
 · cases h; exact ⟨b, o, rfl⟩
theorem SlR.elemB {C : Ctx} {L : List Blk} {b o c k n i : Nat} {xs : List (List UInt8)} {x : List UInt8} (h : SlR C.w0 (.slice (Option.some ⟨b, o, none⟩) n c) k n (xs.flatten.map byteV)) (hm : C.M = []) (hl : ∀ x ∈ xs, x.length = k) (hi : i < n) (hx : xs[i]? = Option.some x) : RdN C L ⟨b, o + i * k, none⟩ (x.map byteV) := by
 have := (SlR.elem (L := L) h hm hi).2
 rw [← List.map_drop, ← List.map_take, flatten_drop xs i hl x hx] at this
 exact this
theorem SlR.cell {C : Ctx} {L : List Blk} {b o c n i : Nat} {vs : List Value} {v : Value} (h : SlR C.w0 (.slice (Option.some ⟨b, o, none⟩) n c) 1 n vs) (hm : C.M = []) (hv : vs[i]? = Option.some v) : Rd C L ⟨b, o + i * 1, none⟩ v := by
 rcases h with ⟨_, _, h⟩ | ⟨b', o', c', h, _, hl, hc⟩
 · subst h; simp at hv
 ·
  cases h
  rw [Nat.mul_one]
  exact .old (hc i v hv) (by rw [hm]; simp)
theorem Rd.at {C : Ctx} {L : List Blk} {b off size i : Nat} {tg : Option TypeId} {cells : List Value} {v : Value} (hf : Find L ⟨⟨b, tg⟩, off, cells, size⟩) (h : cells[i]? = Option.some v) : Rd C L ⟨b, off + i, none⟩ v :=
 .own hf (by
  show (bif Nat.ble off (off + i) then cells[off + i - off]? else none) = Option.some v
  rw [Nat.ble_eq_true_of_le (Nat.le_add_right off i), Nat.add_sub_cancel_left]; exact h)
theorem SlG.one {tg : Option TypeId} {s : Value} {xs : List Value} {k : Nat} {Ls : List Blk} (h : SlG tg s xs k Ls) : S.one s = true := by
 rcases h with ⟨rfl, _, _⟩ | ⟨_, _, _, _, _, rfl, _⟩ <;> rfl
theorem Sl.one {s : Value} {xs : List Value} {k : Nat} {Ls : List Blk} (h : Sl s xs k Ls) : S.one s = true := by
 rcases h with ⟨rfl, _, _⟩ | ⟨_, _, _, _, _, rfl, _⟩ <;> rfl
theorem getD_some {l : List UInt8} {i : Nat} (h : i < l.length) : l[i]? = some (l.getD i 0) := by
 rw [List.getD_eq_getElem?_getD, List.getElem?_eq_getElem h]; rfl
def u32V (n : Nat) : Value := .int .u32 n
theorem take_succ_flatten {α : Type} (l : List (List α)) (i : Nat) (x : List α) (h : l[i]? = some x) : (l.take (i + 1)).flatten = (l.take i).flatten ++ x := by
 rw [List.take_add_one, h]; simp
section
variable {C : Ctx} {K : Env → List Blk → Prop} {e : Env} {L : List Blk} {dst : Option Tmp} {ty : TypeId} {pos : String} {after : Array Edge} {guard : Option (Nat × Bool)}
theorem T1.make1 {t el : TypeId} {x y : Operand} {z : Value} {bytes : Nat} {kl kc : IntKind} (n m : Nat) (hT : C.P.underlying t = some (.slice el)) (hk : SizeIs C.P el 1) (hb : BytesIs C.P el bytes) (hz : ZeroIs C.P el z) (h1 : one z = true) (hx : ev C.n e x = .int kl n) (hy : ev C.n e y = .int kc m) (hnm : n ≤ m) (hroom : m * bytes ≤ 281474976710656) (h63 : m ≤ 9223372036854775807)
 (k : ∀ b, K (putO e dst (.slice (some ⟨b, 0, none⟩) n m)) (⟨b, 0, List.replicate n z, m⟩ :: L)) : T1 C ⟨dst, .makeSlice t x y, ty, pos, after, guard⟩ K e L := by
 intro a w K' Q' hr hs hK
 unfold Oper.wp
 rw [hr.eval]
 obtain ⟨i, hi, hib⟩ := Option.map_eq_some_iff.1 hb
 have hik : i.size = 1 := by have := hk; unfold SizeIs at this; rw [hi] at this; simpa using this
 have hiz : i.zero = some z := by have := hz; unfold ZeroIs at this; rw [hi] at this; simpa using this
 have hrun : (execOp (ev C.n e) ⟨dst, .makeSlice t x y, ty, pos, after, guard⟩).run C.P w = .ok (.value (.slice (some ⟨w.heap.size, 0, none⟩) n m)) (w.alloc (.cells (madeCells z.cells (m * 1)) el)) := by
  show (do pure (Next.value (← Instr.makeSlice t (ev C.n e x) (ev C.n e y))) : Sem Next).run C.P w = _
  rw [hx, hy]
  refine run_value ?_
  have hbm : (i.bytes : Int) * (m : Int) ≤ 281474976710656 := by
   rw [hib, ← Int.natCast_mul, Nat.mul_comm]; omega
  have := run_make (P := C.P) w t el i z hT hi hiz kl kc (n : Int) (m : Int) (by omega) (by omega) hbm (by omega)
  rw [hik] at this
  simpa using this
 rw [hrun]
 have hcs : madeCells z.cells (m * 1) = Array.replicate m z := by
  rw [cells_one h1, Nat.mul_one]
  apply Array.ext
  · simp [madeCells]
  ·
   intro j h1 h2
   simp [madeCells, Nat.mod_one]
 have hst := hs.push (B := ⟨w.heap.size, 0, List.replicate n z, m⟩) (c := madeCells z.cells (m * 1)) (E := el) (lo := 0) (hi := 0) (k := w.drawn) rfl (by show 0 + (List.replicate n z).length ≤ m; simp; omega) (by rw [hcs]; simp) (by
  intro j hj
  have hj' : j < n := by simpa using hj
  rw [hcs]
  show (Array.replicate m z)[0 + j]? = (List.replicate n z)[j]?
  rw [Nat.zero_add, List.getElem?_replicate, if_pos hj']
  rw [Array.getElem?_replicate, if_pos (by omega)]) (.inl rfl)
 exact hK _ _ _ _ (hr.put _ _) hst (k _)
theorem map_byteV (l : List UInt8) : l.map byteV = (l.map fun c => (c.toNat : Int)).map (Value.int .u8) := by
 rw [List.map_map]; rfl
theorem map_toNat_inj {l m : List UInt8} (h : (l.map fun c => (c.toNat : Int)) = m.map fun c => (c.toNat : Int)) : l = m := by
 induction l generalizing m with
 | nil => cases m with
  | nil => rfl
  | cons _ _ => simp at h
 | cons c l ih => cases m with
  | nil => simp at h
  | cons d m =>
   simp only [List.map_cons, List.cons.injEq] at h
   have : c = d := UInt8.toNat_inj.1 (by omega)
   rw [this, ih h.2]
theorem V1.neBs {t el yt : TypeId} {x y : Operand} {n : Nat} {l m : List UInt8} {r : Bool} (hT : C.P.underlying t = some (.array n el)) (hE : C.P.underlying el = some (.int .u8)) (hk : SizeIs C.P el 1) (hg : Program.eqGuardType C.P C.P.depth t = false)
 (hx : ev C.n e x = .agg (l.map byteV).toArray) (hy : ev C.n e y = .agg (m.map byteV).toArray) (hxl : l.length = n) (hyl : m.length = n) (h : decide (l ≠ m) = r) : V1 C ⟨dst, .binOp .neq t x y yt, ty, pos, after, guard⟩ e L (.bool r) :=
 V1.neA (xs := l.map fun c => (c.toNat : Int)) (ys := m.map fun c => (c.toNat : Int)) hT hE hk hg (by rw [hx, map_byteV]) (by rw [hy, map_byteV]) (by simpa using hxl) (by simpa using hyl) (by
  rw [← h]
  by_cases he : l = m
  · subst he; simp
  ·
   have : ¬ ((l.map fun c => (c.toNat : Int)) = m.map fun c => (c.toNat : Int)) := fun h' => he (map_toNat_inj h')
   simp [he, this])
theorem V1.eqBs {t el yt : TypeId} {x y : Operand} {n : Nat} {l m : List UInt8} {r : Bool} (hT : C.P.underlying t = some (.array n el)) (hE : C.P.underlying el = some (.int .u8)) (hk : SizeIs C.P el 1) (hg : Program.eqGuardType C.P C.P.depth t = false)
 (hx : ev C.n e x = .agg (l.map byteV).toArray) (hy : ev C.n e y = .agg (m.map byteV).toArray) (hxl : l.length = n) (hyl : m.length = n) (h : decide (l = m) = r) : V1 C ⟨dst, .binOp .eql t x y yt, ty, pos, after, guard⟩ e L (.bool r) :=
 V1.eqA (xs := l.map fun c => (c.toNat : Int)) (ys := m.map fun c => (c.toNat : Int)) hT hE hk hg (by rw [hx, map_byteV]) (by rw [hy, map_byteV]) (by simpa using hxl) (by simpa using hyl) (by
  rw [← h]
  by_cases he : l = m
  · subst he; simp
  ·
   have : ¬ ((l.map fun c => (c.toNat : Int)) = m.map fun c => (c.toNat : Int)) := fun h' => he (map_toNat_inj h')
   simp [he, this])
theorem T1.storeE {t : TypeId} {x y : Operand} {b o off size : Nat} {cells cells' : List Value} {L' : List Blk} {v : Value} (hp : ev C.n e x = .pointer (some ⟨b, o, none⟩)) (hv : ev C.n e y = v) (hk : SizeIs C.P t 1) (hone : S.one v = true)
 (hset : cells.set (o - off) v = cells') (hu : Sub L [⟨b, off, cells, size⟩] L' [⟨b, off, cells', size⟩]) (h1 : off ≤ o) (h2 : o < off + cells.length) (k : K (putO e dst undef) L') : T1 C ⟨dst, .store t x y, ty, pos, after, guard⟩ K e L := by
 subst hset
 exact T1.storeI hp hv hk hone hu h1 h2 k
theorem Sl.block {s : Value} {xs : List Value} {Ls : List Blk} (h : Sl s xs 1 Ls) (hne : xs ≠ []) : ∃ b off cap size, s = .slice (some ⟨b, off, none⟩) xs.length cap ∧ xs.length ≤ cap ∧ off + cap ≤ size ∧ Ls = [⟨b, off, xs, size⟩] := by
 rcases h with ⟨_, h, _⟩ | ⟨b, off, len, cap, size, rfl, h1, h2, h3, rfl⟩
 · exact absurd h hne
 ·
  rw [Nat.mul_one] at h1 h3
  subst h1
  exact ⟨b, off, cap, size, rfl, h2, h3, rfl⟩
theorem RdN.at0 {L : List Blk} {b off size : Nat} {tg : Option TypeId} {cells : List Value} (hf : Find L ⟨⟨b, tg⟩, off, cells, size⟩) : RdN C L ⟨b, off, none⟩ cells := fun _ _ hv => Rd.at hf hv
end
end Go.Proofs.YtfjedhmffccgnaaGreatDoor.S
