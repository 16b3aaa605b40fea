/- Slices of one's own taken from their front; what is read wherever some blocks lie. Holds for every program. Append of made noughts. Holds for every program. Slices of slices that came in: an inner one that is empty may lie anywhere. Holds for every program. Laws for what strings.Builder does: blocks that bear their type, pointers turned and turned back, bytes handed on as a string. Holds for every program. Loops gone through round by round. Holds for every program. Contracts that read some blocks and write others, told in terms of the world in which the law began. Holds for every program. Regions that draw their order, with something kept in mind until one operation (number k, which waits for the readers) has come: behind it nothing is asked. Holds for every program. Slices of elements of several cells put together. Holds for every program. Slices of one's own cut, copied onto themselves, grown by noughts; whether two slices overlap. Holds for every program. Regions that draw their order, gone through once: each operation has a fact of its own, which stays true as blocks come. Holds for every program. -/
import Derived.Test.YtfjedhmffccgnaaGreatDoorOps6
import Derived.Lib.Builder
import Derived.Lib.UnsafeStr
import Derived.Lib.MakeNoZero
import Derived.Laws.Externs
import Derived.LoopN
import Derived.Lib.Overlaps
namespace Go.Proofs.YtfjedhmffccgnaaGreatDoor.S
open Go.RowKit
theorem Find.of_mem {B : Blk} : ∀ {L : List Blk}, B ∈ L → Find L B
 | _ :: _, h => by
  rcases List.mem_cons.1 h with rfl | h
  · exact .here
  · exact .there (Find.of_mem h)
theorem Blk.In.fwd {b off size l : Nat} {cells : List Value} {w : World} (h : Blk.In ⟨b, off, cells, size⟩ w) (hl : l ≤ cells.length) : Blk.In ⟨b, off + l, cells.drop l, size⟩ w := by
 obtain ⟨c, E, lo, hi, h1, h2, h3, h4⟩ := h.here
 have hr : off + cells.length ≤ size := h.room
 refine Blk.In.ofCells (by show off + l + (cells.drop l).length ≤ size; rw [List.length_drop]; omega) ⟨c, E, lo, hi, h1, h2, fun i hi => ?_, h4⟩
 show c[off + l + i]? = (cells.drop l)[i]?
 have hi' : i < (cells.drop l).length := hi
 rw [List.length_drop] at hi'
 have := h3 (l + i) (by show l + i < cells.length; omega)
 rw [List.getElem?_drop, Nat.add_assoc]; exact this
theorem Blk.In.none {b off size : Nat} {cells : List Value} {w : World} (h : Blk.In ⟨b, off, cells, size⟩ w) : Blk.In ⟨b, off, [], size⟩ w := by
 obtain ⟨c, E, lo, hi, h1, h2, h3, h4⟩ := h.here
 have hr : off + cells.length ≤ size := h.room
 exact Blk.In.ofCells (by show off + 0 ≤ size; omega) ⟨c, E, lo, hi, h1, h2, fun i hi => absurd hi (by show ¬ i < 0; omega), h4⟩
theorem St.view {w0 : World} {M : List Nat} {B B' : Blk} {L : List Blk} {w : World} (h : St w0 M (B :: L) w) (hid : B'.id = B.id) (hin : B.In w → B'.In w) : St w0 M (B' :: L) w :=
 h.turn (L' := B' :: L) .one hid rfl rfl rfl rfl (fun _ _ => rfl) (hin (h.inw B (by simp)))
section
variable {C : Ctx} {K : Env → List Blk → Prop} {e : Env} {L : List Blk} {dst : Option Tmp} {ty : TypeId} {pos : String} {after : Array Edge} {guard : Option (Nat × Bool)}
theorem T1.re {o : Oper} {v : Value} {L' : List Blk} (hv : V1 C o e L v) (hL : ∀ w, St C.w0 C.M L w → St C.w0 C.M L' w) (k : K (putO e o.dst v) L') : T1 C o K e L := by
 intro a w K' Q' hr hs hK
 unfold Oper.wp
 rw [hr.eval, hv w hs]
 exact hK _ _ _ _ (hr.put _ _) (hL w hs) k
theorem T1.sliceFwd {t el : TypeId} {x : Operand} {lo hi : Option Operand} {v : Value} {cells : List Value} {Ls G : List Blk} (hT : C.P.underlying t = some (.slice el)) (hk : SizeIs C.P el 1) (hx : ev C.n e x = v) (hsl : Sl v cells 1 Ls) (hp : PickS L Ls G) (l : Nat)
 (hl : bd C.n e lo 0 = some (l : Int)) (hh : bd C.n e hi cells.length = some (cells.length : Int)) (hle : l ≤ cells.length) (k : ∀ v' Ls', Sl v' (cells.drop l) 1 Ls' → K (putO e dst v') (Ls' ++ G)) : T1 C ⟨dst, .slice t x lo hi none, ty, pos, after, guard⟩ K e L := by
 rcases hsl with ⟨rfl, rfl, rfl⟩ | ⟨b, off, len, cap, size, rfl, h1, h2, h3, rfl⟩
 ·
  obtain rfl : l = 0 := by simpa using hle
  exact T1.re (V1.sliceNil hT hk hx hl hh) (fun w hs => hs.perm hp.perm.symm) (k _ [] Sl.nil)
 ·
  rw [Nat.mul_one] at h1 h3
  subst h1
  by_cases hc : cap = l
  ·
   subst hc
   have hlen : cells.length = cap := by omega
   have hd : cells.drop cap = [] := List.drop_eq_nil_of_le (by omega)
   refine T1.re (V1.sliceSl hT hk hx hl hh (by omega) (by omega) (by omega)) (L' := ⟨b, off, cells.drop cap, size⟩ :: G) (fun w hs => ?_) (k _ [_] (.inr ⟨b, off, cells.length - cap, cap - cap, size, ?_, ?_, by omega, by omega, rfl⟩))
   · rw [hd]; exact (hs.perm hp.perm.symm).view rfl Blk.In.none
   · simp
   · rw [hd]; simp; omega
  ·
   refine T1.re (V1.sliceSl hT hk hx hl hh (by omega) (by omega) (by omega)) (L' := ⟨b, off + l, cells.drop l, size⟩ :: G) (fun w hs => (hs.perm hp.perm.symm).view rfl (fun h => h.fwd hle)) (k _ [_] (.inr ⟨b, off + l, cells.length - l, cap - l, size, ?_, by simp, by omega, by omega, rfl⟩))
   simp [hc]
theorem V1.sliceTo {t el : TypeId} {x : Operand} {lo hi : Option Operand} {b o len cap : Nat} (h : Nat) (hT : C.P.underlying t = some (.slice el)) (hk : SizeIs C.P el 1) (hx : ev C.n e x = .slice (some ⟨b, o, none⟩) len cap)
 (hl : bd C.n e lo 0 = some 0) (hh : bd C.n e hi len = some (h : Int)) (h1 : h ≤ len) (h2 : len ≤ cap) : V1 C ⟨dst, .slice t x lo hi none, ty, pos, after, guard⟩ e L (.slice (some ⟨b, o, none⟩) h cap) := by
 have := V1.sliceSl (dst := dst) (ty := ty) (pos := pos) (after := after) (guard := guard) (L := L) hT hk hx hl hh (by omega) (by omega) (by omega)
 simpa using this
theorem V1.makeFunc1 {fn : Go.Fn} {x : Operand} {v : Value} (hx : ev C.n e x = v) : V1 C ⟨dst, .makeFunc fn #[x] #[], ty, pos, after, guard⟩ e L (.func fn #[v] #[]) := by
 have := V1.makeFunc (C := C) (e := e) (L := L) (dst := dst) (ty := ty) (pos := pos) (after := after) (guard := guard) (fn := fn) (first := #[x]) (cap := #[])
 simp only [List.map_toArray, List.map_cons, List.map_nil] at this
 rw [hx] at this; exact this
end
structure PartR (w0 : World) (Ps : List Blk) (v : Value) (p : List UInt8) : Prop where
  form : ∃ a c, v = .slice a p.length c
  src : ∀ C : Ctx, C.w0 = w0 → C.M = [] → ∀ L, (∀ B ∈ Ps, B ∈ L) → Src C L 1 v p.length (p.map byteV)
theorem PartR.own {w0 : World} {Ps Ls : List Blk} {v : Value} {p : List UInt8} (h : Sl v (p.map byteV) 1 Ls) (hs : ∀ B ∈ Ls, B ∈ Ps) : PartR w0 Ps v p := by
 rcases h with ⟨rfl, h, rfl⟩ | ⟨b, off, len, cap, size, rfl, h1, h2, h3, rfl⟩
 ·
  obtain rfl : p = [] := by simpa using h
  exact ⟨⟨_, _, rfl⟩, fun C _ _ L _ => .nil⟩
 ·
  rw [List.length_map, Nat.mul_one] at h1
  subst h1
  exact ⟨⟨_, _, rfl⟩, fun C _ _ L hL => .sl (RdN.at0 (Find.of_mem (hL _ (hs ⟨b, off, p.map byteV, size⟩ (by simp))))) (by simp)⟩
theorem PartR.more {w0 : World} {Ps Qs : List Blk} {v : Value} {p : List UInt8} (h : PartR w0 Ps v p) (hs : ∀ B ∈ Ps, B ∈ Qs) : PartR w0 Qs v p :=
 ⟨h.form, fun C h0 hm L hL => h.src C h0 hm L fun B hB => hL B (hs B hB)⟩
structure PartsR (w0 : World) (Ps : List Blk) (v : Value) (ps : List (List UInt8)) : Prop where
  form : ∃ a c, v = .slice a ps.length c
  elems : ∃ svs : List Value, svs.length = ps.length ∧ (∀ C : Ctx, C.w0 = w0 → C.M = [] → ∀ L, (∀ B ∈ Ps, B ∈ L) → Src C L 1 v ps.length svs) ∧ ∀ (i : Nat) (sv : Value) (p : List UInt8), svs[i]? = some sv → ps[i]? = some p → PartR w0 Ps sv p
theorem Src.inv {C : Ctx} {L : List Blk} {k m : Nat} {v : Value} {vs : List Value} (h : Src C L k v m vs) : ∀ a n c, v = .slice a n c → m = 0 ∨ ∃ b o, a = some ⟨b, o, none⟩ ∧ RdN C L ⟨b, o, none⟩ vs := by
 cases h with
 | nil => intro _ _ _ _; exact .inl rfl
 | odd => intro _ _ _ _; exact .inl rfl
 | sl hr _ => intro a n c hv; cases hv; exact .inr ⟨_, _, rfl, hr⟩
 | str _ => intro a n c hv; cases hv
theorem PartsR.at {P : Program} {w0 : World} {Ps : List Blk} {a : Option Addr} {n c : Nat} {ps : List (List UInt8)} (h : PartsR w0 Ps (.slice a n c) ps) {k : Nat} (hk : k < ps.length) :
 ∃ b o sv p, a = some ⟨b, o, none⟩ ∧ ps[k]? = some p ∧ PartR w0 Ps sv p ∧ ∀ C : Ctx, C.w0 = w0 → C.M = [] → ∀ L, (∀ B ∈ Ps, B ∈ L) → Rd C L ⟨b, o + k * 1, none⟩ sv := by
 obtain ⟨svs, hl, hsrc, hel⟩ := h.elems
 have hsv : svs[k]? = some svs[k] := List.getElem?_eq_getElem (by omega)
 have hp : ps[k]? = some ps[k] := List.getElem?_eq_getElem hk
 obtain ⟨b, o, rfl⟩ : ∃ b o, a = some ⟨b, o, none⟩ := by
  rcases (hsrc ⟨P, w0, [], 0⟩ rfl rfl Ps (fun _ h => h)).inv _ _ _ rfl with h0 | ⟨b, o, h0, _⟩
  · omega
  · exact ⟨b, o, h0⟩
 refine ⟨b, o, svs[k], ps[k], rfl, hp, hel k _ _ hsv hp, fun C h0 hm L hL => ?_⟩
 rcases (hsrc C h0 hm L hL).inv _ _ _ rfl with h0 | ⟨b', o', h0, hr⟩
 · omega
 ·
  cases h0
  rw [Nat.mul_one]
  exact hr k _ hsv
theorem PartsR.ones {w0 : World} {Ps : List Blk} {b : Nat} {svs : List Value} {ps : List (List UInt8)} {c size : Nat} (hB : (⟨b, 0, svs, size⟩ : Blk) ∈ Ps) (hl : svs.length = ps.length) (h : ∀ (i : Nat) (sv : Value) (p : List UInt8), svs[i]? = some sv → ps[i]? = some p → PartR w0 Ps sv p) : PartsR w0 Ps (.slice (some ⟨b, 0, none⟩) ps.length c) ps :=
 ⟨⟨_, _, rfl⟩, svs, hl, fun C _ _ L hL => .sl (RdN.at0 (Find.of_mem (hL _ hB))) (by omega), h⟩
section
variable {C : Ctx} {K : Env → List Blk → Prop} {e : Env} {L : List Blk} {dst : Option Tmp} {ty : TypeId} {pos : String} {after : Array Edge} {guard : Option (Nat × Bool)}
end
end Go.Proofs.YtfjedhmffccgnaaGreatDoor.S
namespace Go.Proofs.YtfjedhmffccgnaaGreatDoor.S
open Go.RowKit
section rules
variable {C : Ctx} {K : Env → List Blk → Prop} {e : Env} {L : List Blk}
variable {dst : Option Tmp} {ty : TypeId} {pos : String} {after : Array Edge} {guard : Option (Nat × Bool)}
theorem zero_cells1 {z : Value} (n : Nat) : Builtin.zeroCells #[z] n = (List.replicate n z).toArray := by
 unfold Builtin.zeroCells
 apply Array.ext'
 apply List.ext_getElem?
 intro i
 simp only [List.size_toArray, List.length_cons, List.length_nil, Nat.zero_add, Nat.mul_one, Nat.mod_one, Array.toList_map, Array.toList_range]
 rcases Nat.lt_or_ge i n with h | h
 · rw [List.getElem?_map, List.getElem?_replicate, List.getElem?_range h]; simp [h]
 · rw [List.getElem?_eq_none (by simpa using h), List.getElem?_eq_none (by simpa using h)]
theorem wrap64n {n : Nat} (h : n ≤ 281474976710656) : IntKind.i64.wrap (n : Int) = (n : Int) := wrap_i64 _ (by omega) (by omega)
theorem made_fits {n k : Nat} (hn : n * k ≤ 281474976710656) : ¬ (281474976710656 < (n : Int) * (k : Int)) := by
 obtain ⟨q, hq⟩ : ∃ q, q = n * k := ⟨_, rfl⟩
 rw [← Int.natCast_mul, ← hq]; omega
theorem run_appendZ_room {P : Program} {t yt el : TypeId} {i : TypeInfo} {z : Value} (hT : P.underlying t = some (.slice el)) (hY : P.underlying yt = some (.int .i64)) (hi : P.info? el = some i) (hk : i.size = 1) (hz : i.zero = some z) (hzc : z.cells = #[z]) {b off sLen sCap n : Nat} {w w' : World}
 (hn : n * i.bytes ≤ 281474976710656) (hn2 : n ≤ 281474976710656) (hle : sLen + n ≤ sCap) (h3 : (storeCells ⟨b, off + sLen, none⟩ (List.replicate n z) 0).run P w = .ok () w') :
 (Builtin.append_ #[t, yt] ty #[.slice (some ⟨b, off, none⟩) sLen sCap, .int .i64 n]).run P w = .ok (.slice (some ⟨b, off, none⟩) (sLen + n) sCap) w' := by
 have h1 : ¬ ((n : Int) < 0) := by omega
 have h2 := made_fits hn
 have hw := wrap64n hn2
 by_cases h0 : n = 0
 ·
  subst h0
  simp [Builtin.append_, Go.run_underlying hT, Go.run_underlying hY, sizeOf, typeInfo, hi, asInt, asIntOf, hw, hle, hk, addr_add] at hle h3 ⊢
  simp_all
 · simp [Builtin.append_, Go.run_underlying hT, Go.run_underlying hY, sizeOf, typeInfo, zeroValue, hi, hz, hzc, asInt, asIntOf, hw, h1, h2, hle, hk, h0, addr_add, zero_cells1, h3]
theorem run_appendZ_nil {P : Program} {t yt el : TypeId} {i : TypeInfo} (hT : P.underlying t = some (.slice el)) (hY : P.underlying yt = some (.int .i64)) (hi : P.info? el = some i) {w : World} :
 (Builtin.append_ #[t, yt] ty #[.slice none 0 0, .int .i64 0]).run P w = .ok (.slice none 0 0) w := by
 have hw := wrap64n (n := 0) (by decide)
 simp [Builtin.append_, Go.run_underlying hT, Go.run_underlying hY, sizeOf, typeInfo, hi, asInt, asIntOf, show IntKind.i64.wrap 0 = 0 from hw]
theorem run_appendZ_grow {P : Program} {t yt el : TypeId} {i : TypeInfo} {z : Value} (hT : P.underlying t = some (.slice el)) (hY : P.underlying yt = some (.int .i64)) (hi : P.info? el = some i) (hk : i.size = 1) (hz : i.zero = some z) (hzc : z.cells = #[z]) {base : Option Addr} {sLen sCap n : Nat} {old : List Value} {w : World}
 (hn : n * i.bytes ≤ 281474976710656) (hn2 : n ≤ 281474976710656) (h3 : (Builtin.firstCells 1 sLen (.slice base sLen sCap)).run P w.drew = .ok old.toArray w.drew) (hlt : sCap < sLen + n)
 (h0 : n ≠ 0) (h63 : ((sLen + n : Nat) : Int) ≤ 9223372036854775807) (hfit : Builtin.nextslicecap (sLen + n) sCap * i.bytes ≤ 281474976710656) :
 (Builtin.append_ #[t, yt] ty #[.slice base sLen sCap, .int .i64 n]).run P w = .ok (.slice (some ⟨w.heap.size, 0, none⟩) (sLen + n) (grownCap w (sLen + n) sCap el))
  (w.drew.alloc (.cells ((old ++ List.replicate n z).toArray ++ Builtin.zeroCells z.cells (grownCap w (sLen + n) sCap el - (sLen + n))) el)) := by
 have h1 : ¬ ((n : Int) < 0) := by omega
 have h2 := made_fits hn
 have hw := wrap64n hn2
 have hn' : ¬ (sLen + n ≤ sCap) := by omega
 have h63' : ¬ (9223372036854775807 < ((sLen : Int) + (n : Int))) := by omega
 have h48' : ¬ (281474976710656 < Builtin.nextslicecap (sLen + n) sCap * i.bytes) := by omega
 simp [Builtin.append_, Go.run_underlying hT, Go.run_underlying hY, sizeOf, typeInfo, zeroValue, hi, hz, hzc, asInt, asIntOf, hw, h1, h2, hk, h0, hn', h63', h48', Question.forced, h3, newRow, grownCap, zero_cells1]
 congr 2
 apply Array.ext'
 simp only [Array.toList_append, Array.toList_replicate, List.append_assoc, List.replicate_append_replicate]
theorem T1.appendZ {x y : Operand} {t yt el : TypeId} {n bytes : Nat} {s : Value} {xs : List Value} {Ls G : List Blk} {z : Value} (hT : C.P.underlying t = some (.slice el)) (hY : C.P.underlying yt = some (.int .i64))
 (hk : SizeIs C.P el 1) (hb : BytesIs C.P el bytes) (hz : ZeroIs C.P el z) (hzc : z.cells = #[z]) (hz1 : one z = true) (hbpos : 0 < bytes) (hx : ev C.n e x = s) (hyv : ev C.n e y = .int .i64 (n : Int)) (hsl : Sl s xs 1 Ls)
 (N : Nat) (hN : xs.length + n ≤ N) (hroom : (N + N / 4 + 192) * bytes ≤ 281474976710656) (hpk : PickS L Ls G)
 (kk : ∀ s' Ls', Sl s' (xs ++ List.replicate n z) 1 Ls' → K (putO e dst s') (Ls' ++ G)) : T1 C ⟨dst, .call ⟨.builtin .append, (List.toArray [x, y]), (List.toArray [t, yt])⟩, ty, pos, after, guard⟩ K e L := by
 intro a w K' Q' hr hs hK
 unfold Oper.wp
 rw [hr.eval]
 replace hs : St C.w0 C.M ([] ++ (Ls ++ G)) w := hs.perm hpk.perm.symm
 have hsubs : ∀ Y, Sub ([] ++ (Ls ++ G)) Ls ([] ++ (Y ++ G)) Y := fun Y => .far .here
 obtain ⟨iel, hiel, hibytes⟩ := Option.map_eq_some_iff.1 hb
 have hik : iel.size = 1 := by have := hk; unfold SizeIs at this; rw [hiel] at this; simpa using this
 have hiz : iel.zero = some z := by have := hz; unfold ZeroIs at this; rw [hiel] at this; simpa using this
 have hexec : execOp (ev C.n e) ⟨dst, .call ⟨.builtin .append, (List.toArray [x, y]), (List.toArray [t, yt])⟩, ty, pos, after, guard⟩ = (do pure (Next.value (← Builtin.append_ #[t, yt] ty #[s, .int .i64 (n : Int)])) : Sem Next) := by
  show Go.builtin .append #[t, yt] ty ((List.toArray [x, y]).map fun | .const _ => true | _ => false) ((List.toArray [x, y]).map (ev C.n e)) = _
  rw [show (List.toArray [x, y]).map (ev C.n e) = #[s, .int .i64 (n : Int)] from by rw [List.map_toArray]; simp [hx, hyv]]
  rfl
 rw [hexec]
 obtain ⟨base, sLen, sCap, rfl, hxl, hself⟩ := hsl.form (C := C) Nat.one_pos (F := []) (G := G)
 rw [Nat.mul_one] at hxl
 have hneed : sLen + n ≤ N := by omega
 have hnb : N ≤ 281474976710656 := by
  have : N * 1 ≤ (N + N / 4 + 192) * bytes := Nat.mul_le_mul (by omega) hbpos
  omega
 have hnbytes : n * iel.bytes ≤ 281474976710656 := by
  rw [hibytes]
  exact Nat.le_trans (Nat.mul_le_mul_right _ (by omega)) hroom
 have hnl : (List.replicate n z).length = n := List.length_replicate
 have hrunA : ∃ w' s', (Builtin.append_ #[t, yt] ty #[.slice base sLen sCap, .int .i64 (n : Int)]).run C.P w = .ok s' w' ∧ ∃ Ls', St C.w0 C.M ([] ++ (Ls' ++ G)) w' ∧ Sl s' (xs ++ List.replicate n z) 1 Ls' := by
  by_cases hle : sLen + n ≤ sCap
  ·
   rcases hsl with ⟨heq, rfl, rfl⟩ | ⟨b, off, len, cap, size, heq, h1, h2, h3, rfl⟩
   ·
    cases heq
    have hn0 : n = 0 := by omega
    subst hn0
    exact ⟨w, _, run_appendZ_nil hT hY hiel, [], hs, .inl ⟨rfl, rfl, rfl⟩⟩
   ·
    cases heq
    rw [Nat.mul_one] at h1 h3
    have hin := (hs.piece (hsubs [])).2 ⟨b, off, xs, size⟩ (by simp)
    obtain ⟨c, E, lo, hi, hh, hsz, _, hf⟩ := hin.here
    have hsz' : c.size = size := hsz
    have hst := run_storeCells (P := C.P) (List.replicate n z) (off + sLen) 0 w c E lo hi hh (by rw [hnl, hsz']; omega) (by intro q hq; have hf' : lo = hi ∨ size ≤ lo := hf.1; omega) (fun u hu => by rw [List.eq_of_mem_replicate hu]; exact hz1)
    refine ⟨_, _, run_appendZ_room hT hY hiel hik hiz hzc hnbytes (by omega) hle hst, [⟨b, off, xs ++ List.replicate n z, size⟩], ?_, Sl.mk (by simp [h1]) (by omega) (by omega)⟩
    obtain ⟨f1, f2, f3, f4, f5⟩ := setCellsAt_fields b (List.replicate n z) (off + sLen + 0) w
    refine hs.turn (hsubs _) rfl f1 f2 f3 f4 f5 ?_
    have := In_extend hin (vs := List.replicate n z) (by show off + xs.length + (List.replicate n z).length ≤ size; rw [h1, hnl]; omega)
    simpa [h1] using this
  ·
   have hle2 : sLen ≤ sCap := by
    rcases hsl with ⟨heq, _, _⟩ | ⟨b, off, len, cap, size, heq, h1, h2, h3, rfl⟩ <;> cases heq
    · exact Nat.le_refl _
    · exact h2
   have hs1 : St C.w0 C.M ([] ++ (Ls ++ G)) w.drew := hs.drew _ (Nat.le_succ _)
   have hfit := growslice_fits_wide (need := sLen + n) (old := sCap) (bytes := iel.bytes) (by omega) (by
    rw [hibytes]
    exact Nat.le_trans (Nat.mul_le_mul_right _ (by omega)) hroom)
   have hrun := run_appendZ_grow (ty := ty) (base := base) (old := xs) hT hY hiel hik hiz hzc hnbytes (by omega) (run_firstCells hself hs1) (by omega) (by omega) (by omega) hfit
   have hge : sLen + n ≤ grownCap w (sLen + n) sCap el := by unfold grownCap Question.cut; exact Nat.le_add_right _ _
   generalize grownCap w (sLen + n) sCap el = nc at hge hrun
   have hzcs : (Builtin.zeroCells z.cells (nc - (sLen + n))).size = nc - (sLen + n) := by rw [hzc, zero_cells1]; simp
   refine ⟨_, _, hrun, [⟨w.heap.size, 0, xs ++ List.replicate n z, nc⟩], ?_, Sl.mk (by simp [hxl]) hge (by omega)⟩
   have hbase : St C.w0 C.M G w.drew := hs1.sub (List.sublist_append_right _ _)
   exact hbase.push (B := ⟨w.heap.size, 0, xs ++ List.replicate n z, nc⟩) (c := (xs ++ List.replicate n z).toArray ++ Builtin.zeroCells z.cells (nc - (sLen + n))) (E := el) (lo := 0) (hi := 0) (k := w.drawn + 1) rfl
    (by show 0 + (xs ++ List.replicate n z).length ≤ nc; simp only [List.length_append, hxl, hnl, Nat.zero_add]; exact hge)
    (by
     show ((xs ++ List.replicate n z).toArray ++ _).size = nc
     simp only [Array.size_append, List.size_toArray, List.length_append, hxl, hnl, hzcs]; omega)
    (by
     intro i hi
     show ((xs ++ List.replicate n z).toArray ++ _)[0 + i]? = (xs ++ List.replicate n z)[i]?
     have hi' : i < (xs ++ List.replicate n z).length := hi
     rw [Nat.zero_add, Array.getElem?_append, if_pos (by simpa using hi')]
     simp)
    (by omega)
 obtain ⟨w', s', hrun, Ls', hst', hsl'⟩ := hrunA
 rw [run_value hrun]
 exact hK _ _ _ _ (hr.put _ _) hst' (kk s' Ls' hsl')
end rules
end Go.Proofs.YtfjedhmffccgnaaGreatDoor.S
namespace Go.Proofs.YtfjedhmffccgnaaGreatDoor.S
open Go.RowKit
section
variable {C : Ctx} {e : Env} {L : List Blk} {dst : Option Tmp} {ty : TypeId} {pos : String} {after : Array Edge} {guard : Option (Nat × Bool)}
end
end Go.Proofs.YtfjedhmffccgnaaGreatDoor.S
namespace Go.Proofs.YtfjedhmffccgnaaGreatDoor.S
open Go.RowKit
section
variable {C : Ctx} {K : Env → List Blk → Prop} {e : Env} {L : List Blk}
variable {dst : Option Tmp} {ty : TypeId} {pos : String} {after : Array Edge} {guard : Option (Nat × Bool)}
theorem Blk.In.shape {b off size : Nat} {tg : Option TypeId} {cells : List Value} {w : World} (h : Blk.In ⟨⟨b, tg⟩, off, cells, size⟩ w) : ∃ E, w.shape? b = some (E, size) ∧ (tg = Option.none ∨ tg = some E) := by
 obtain ⟨c, E, lo, hi, hh, hsz, _, _, ht⟩ := h.here
 refine ⟨E, ?_, ht.imp (fun h => h) And.left⟩
 have hh' : w.heap[b]? = some (.cells c E (lo, hi)) := hh
 have hsz' : c.size = size := hsz
 simp only [World.shape?, hh', hsz']
end
end Go.Proofs.YtfjedhmffccgnaaGreatDoor.S
namespace Go.Proofs.YtfjedhmffccgnaaGreatDoor.S
open Go.RowKit
def TR (C : Ctx) (c : Code) (Q : Post) (n : Nat) (e : Env) (L : List Blk) : Prop := ∀ a w, Rel C.n e a → St C.w0 C.M L w → Code.rounds C.P c (lift C Q) n a w
def rndU (C : Ctx) (c : Code) (Q : Post) (n : Nat) : Post
  | .normal, e, L => TR C c Q n e L
  | x, e, L => Q x e L
theorem T.rounds {C : Ctx} {c : Code} {Q : Post} {e : Env} {L : List Blk} (n : Nat) (h : TR C c Q n e L) : T C (.loop c) Q e L := fun a w hr hs => wp_loop_rounds n (h a w hr hs)
theorem TR.step {C : Ctx} {c : Code} {Q : Post} {n : Nat} {e : Env} {L : List Blk} (h : T C c (rndU C c Q n) e L) : TR C c Q (n + 1) e L := by
 intro a w hr hs
 show c.wp C.P (Exit.then (Code.rounds C.P c (lift C Q) n) (lift C Q)) a w
 refine wp_mono (h a w hr hs) ?_
 intro ex a' w' ⟨e', L', hr', hs', hq⟩
 cases ex with
 | normal => exact hq a' w' hr' hs'
 | _ => exact ⟨e', L', hr', hs', hq⟩
section
variable {C : Ctx} {e : Env} {L : List Blk}
theorem TK.three {S : List Blk → Prop} {ops : Array Oper} {Q : Post} {fuel : Nat} {listed : Array Bool} (i j k : Nat) {oi oj ok : Oper} (hr : Region.ready .any ops listed = [i, j, k]) (hoi : ops[i]? = some oi) (hoj : ops[j]? = some oj) (hok : ops[k]? = some ok) (hgi : wantedE C.n ops e oi.guard = true) (hgj : wantedE C.n ops e oj.guard = true) (hgk : wantedE C.n ops e ok.guard = true)
 (hi : T1 C oi (fun e' L' => S L' ∧ TD C S ops Q fuel (listed.setIfInBounds i true) e' L') e L) (hj : T1 C oj (fun e' L' => S L' ∧ TD C S ops Q fuel (listed.setIfInBounds j true) e' L') e L) (hk : T1 C ok (fun e' L' => S L' ∧ TD C S ops Q fuel (listed.setIfInBounds k true) e' L') e L) : TD C S ops Q (fuel + 1) listed e L :=
 TD.all hr (by simp) fun q hq => by
  simp only [List.mem_cons, List.not_mem_nil, or_false] at hq
  rcases hq with rfl | rfl | rfl
  · exact ⟨oi, hoi, fun _ => hi, fun h0 => by rw [hgi] at h0; cases h0⟩
  · exact ⟨oj, hoj, fun _ => hj, fun h0 => by rw [hgj] at h0; cases h0⟩
  · exact ⟨ok, hok, fun _ => hk, fun h0 => by rw [hgk] at h0; cases h0⟩
end
end Go.Proofs.YtfjedhmffccgnaaGreatDoor.S
namespace Go.Proofs.YtfjedhmffccgnaaGreatDoor.S
open Go.RowKit
def Inc (A L : List Blk) : Prop := ∀ B ∈ A, B ∈ L
theorem Inc.nil {L : List Blk} : Inc [] L := fun _ h => by cases h
theorem Inc.refl {L : List Blk} : Inc L L := fun _ h => h
theorem Inc.here {A L : List Blk} : Inc A (A ++ L) := fun _ h => List.mem_append_left _ h
theorem Inc.skip {A X L : List Blk} (h : Inc A L) : Inc A (X ++ L) := fun B hB => List.mem_append_right _ (h B hB)
theorem Inc.skip1 {A L : List Blk} {X : Blk} (h : Inc A L) : Inc A (X :: L) := fun B hB => List.mem_cons_of_mem _ (h B hB)
theorem Inc.app {A B L : List Blk} (h1 : Inc A L) (h2 : Inc B L) : Inc (A ++ B) L := fun X hX => (List.mem_append.1 hX).elim (h1 X) (h2 X)
theorem Inc.cons {A L : List Blk} {B : Blk} (h1 : Find L B) (h2 : Inc A L) : Inc (B :: A) L := fun X hX => (List.mem_cons.1 hX).elim (fun h => h ▸ h1.mem) (h2 X)
theorem Inc.left {A X L : List Blk} (h : Inc A X) : Inc A (X ++ L) := fun B hB => List.mem_append_left _ (h B hB)
theorem Inc.trans {A B L : List Blk} (h1 : Inc A B) (h2 : Inc B L) : Inc A L := fun X hX => h2 X (h1 X hX)
theorem Inc.find {A L : List Blk} {B : Blk} (h : Inc A L) (hB : B ∈ A) : Find L B := Find.of_mem (h B hB)
def FnG (P : Program) (f : FuncId) (as : List Value) (w0 : World) (Ps X : List Blk) (R : Value → List Blk → Prop) : Prop :=
  ∀ G w, Inc Ps G → St w0 [] (X ++ G) w → Calls P f as.toArray w fun en w' => ∃ v Y, en = .returned v ∧ St w0 [] (Y ++ G) w' ∧ R v Y
def FnV (P : Program) (f : FuncId) (as : List Value) (w0 : World) (Ps : List Blk) (R : Value → Prop) : Prop := FnG P f as w0 Ps [] fun v Y => Y = [] ∧ R v
theorem FnG.mono {P : Program} {f : FuncId} {as : List Value} {w0 : World} {Ps X : List Blk} {R R' : Value → List Blk → Prop} (h : FnG P f as w0 Ps X R) (hR : ∀ v Y, R v Y → R' v Y) : FnG P f as w0 Ps X R' :=
 fun G w hG hs => (h G w hG hs).mono fun _ _ ⟨v, Y, h1, h2, h3⟩ => ⟨v, Y, h1, h2, hR v Y h3⟩
theorem FnG.ofFn {P : Program} {f : FuncId} {as : List Value} {w0 : World} {R : Value → List Blk → Prop} (h : ∀ w, Fn P f as w [] R) : FnG P f as w0 [] [] R :=
 fun G w _ hs => (h w (by simp) (by simp)).mono fun _ _ ⟨v, Y, h1, h2, h3⟩ => ⟨v, Y, h1, hs.call_add h2, h3⟩
section
variable {C : Ctx} {K : Env → List Blk → Prop} {e : Env} {L : List Blk} {dst : Option Tmp} {ty : TypeId} {pos : String} {after : Array Edge} {guard : Option (Nat × Bool)}
theorem T1.callGG {g : Operand} {args : List Operand} {ts : Array TypeId} {f : FuncId} {first cap : Array Value} {as : List Value} {Ps X G : List Blk} {R : Value → List Blk → Prop} (hg : ev C.n e g = .func (.func f) first cap) (hf : Has C.P f) (has : first ++ (args.map (ev C.n e)).toArray ++ cap = as.toArray) (hm : C.M = [])
 (hc : FnG C.P f as C.w0 Ps X R) (ht : Take L X G) (hi : Inc Ps G) (k : ∀ v Y, R v Y → K (putO e dst v) (Y ++ G)) : T1 C ⟨dst, .call ⟨.value g, args.toArray, ts⟩, ty, pos, after, guard⟩ K e L :=
 T1.call (R := fun v L' => ∃ Y, L' = Y ++ G ∧ R v Y) hg hf has (fun w hs => by
  rw [hm] at hs ⊢
  exact (hc G w hi (hs.perm ht.perm.symm)).mono fun _ _ ⟨v, Y, h1, h2, h3⟩ => ⟨v, Y ++ G, h1, h2, Y, rfl, h3⟩) (fun v _ ⟨Y, h, hR⟩ => h ▸ k v Y hR)
theorem T1.callGV {g : Operand} {args : List Operand} {ts : Array TypeId} {f : FuncId} {first cap : Array Value} {as : List Value} {Ps : List Blk} {R : Value → Prop} (hg : ev C.n e g = .func (.func f) first cap) (hf : Has C.P f) (has : first ++ (args.map (ev C.n e)).toArray ++ cap = as.toArray) (hm : C.M = [])
 (hc : FnV C.P f as C.w0 Ps R) (hi : Inc Ps L) (k : ∀ v, R v → K (putO e dst v) L) : T1 C ⟨dst, .call ⟨.value g, args.toArray, ts⟩, ty, pos, after, guard⟩ K e L :=
 T1.callGG hg hf has hm hc Take.nil hi fun v Y ⟨h1, h2⟩ => by subst h1; exact k v h2
theorem T1.callM {args : List Operand} {ts : Array TypeId} {f : FuncId} {as : List Value} {Ps X G : List Blk} {R : Value → List Blk → Prop} (hf : Has C.P f) (has : args.map (ev C.n e) = as) (hm : C.M = [])
 (hc : FnG C.P f as C.w0 Ps X R) (ht : Take L X G) (hi : Inc Ps G) (k : ∀ v Y, R v Y → K (putO e dst v) (Y ++ G)) : T1 C ⟨dst, .call ⟨.value (.func f), args.toArray, ts⟩, ty, pos, after, guard⟩ K e L :=
 T1.callGG (first := #[]) (cap := #[]) rfl hf (by simp [has]) hm hc ht hi k
theorem T1.callC {args : List Operand} {ts : Array TypeId} {f : FuncId} {as : List Value} {Ps : List Blk} {R : Value → List Blk → Prop} (hf : Has C.P f) (has : args.map (ev C.n e) = as) (hm : C.M = [])
 (hc : FnG C.P f as C.w0 Ps [] R) (hi : Inc Ps L) (k : ∀ v Y, R v Y → K (putO e dst v) (Y ++ L)) : T1 C ⟨dst, .call ⟨.value (.func f), args.toArray, ts⟩, ty, pos, after, guard⟩ K e L :=
 T1.callM hf has hm hc Take.nil hi k
theorem T1.callV {args : List Operand} {ts : Array TypeId} {f : FuncId} {as : List Value} {Ps : List Blk} {R : Value → Prop} (hf : Has C.P f) (has : args.map (ev C.n e) = as) (hm : C.M = [])
 (hc : FnV C.P f as C.w0 Ps R) (hi : Inc Ps L) (k : ∀ v, R v → K (putO e dst v) L) : T1 C ⟨dst, .call ⟨.value (.func f), args.toArray, ts⟩, ty, pos, after, guard⟩ K e L :=
 T1.callGV (first := #[]) (cap := #[]) rfl hf (by simp [has]) hm hc hi k
theorem FnG.of {P : Program} {f : FuncId} {fn : Func} {c : Code} {as : List Value} {w0 : World} {Ps X : List Blk} {R : Value → List Blk → Prop} (n : Nat) (rs : List ResultVar) (hf : P.funcs[f]? = some fn) (hb : fn.body = some c) (hnt : fn.ntmps = n) (hrs : fn.results = rs.toArray) (hn : Nat.ble as.length n = true)
 (h : ∀ G, Inc Ps G → T ⟨P, w0, [], n⟩ c (ends ⟨P, w0, [], n⟩ rs (fun v L' => ∃ Y, L' = Y ++ G ∧ R v Y)) (env0 as) (X ++ G)) : FnG P f as w0 Ps X R := by
 intro G w hG hst
 subst hnt
 refine calls_of_wp hf hb ?_
 have := h G hG { tmps := as.toArray ++ Array.replicate (fn.ntmps - as.toArray.size) undef, defers := [] } w (rel_start (Nat.le_of_ble_eq_true hn)) hst
 refine wp_mono this ?_
 intro ex a w' ⟨e', L', hr', hs', hq⟩
 cases ex with
 | normal =>
  obtain ⟨vs, L2, G2, h1, hk, Y, rfl, h2⟩ := hq
  exact ⟨hr'.defers, _, run_res (C := ⟨P, w0, [], fn.ntmps⟩) hrs hr' hs' h1, _, Y, rfl, hk.keep hs', h2⟩
 | ret =>
  obtain ⟨vs, L2, G2, h1, hk, Y, rfl, h2⟩ := hq
  exact ⟨hr'.defers, _, run_res (C := ⟨P, w0, [], fn.ntmps⟩) hrs hr' hs' h1, _, Y, rfl, hk.keep hs', h2⟩
 | _ => exact hq.elim
theorem FnV.of {P : Program} {f : FuncId} {fn : Func} {c : Code} {as : List Value} {w0 : World} {Ps : List Blk} {R : Value → Prop} (n : Nat) (rs : List ResultVar) (hf : P.funcs[f]? = some fn) (hb : fn.body = some c) (hnt : fn.ntmps = n) (hrs : fn.results = rs.toArray) (hn : Nat.ble as.length n = true)
 (h : ∀ G, Inc Ps G → T ⟨P, w0, [], n⟩ c (ends ⟨P, w0, [], n⟩ rs (fun v L' => L' = G ∧ R v)) (env0 as) G) : FnV P f as w0 Ps R := by
 refine FnG.of n rs hf hb hnt hrs hn fun G hG => (h G hG).mono ?_
 intro x e L hq
 cases x with
 | normal => obtain ⟨vs, L2, G2, h1, hk, rfl, h2⟩ := hq; exact ⟨vs, L2, G2, h1, hk, [], rfl, rfl, h2⟩
 | ret => obtain ⟨vs, L2, G2, h1, hk, rfl, h2⟩ := hq; exact ⟨vs, L2, G2, h1, hk, [], rfl, rfl, h2⟩
 | _ => exact hq
theorem FnV.fn {P : Program} {f : FuncId} {as : List Value} {w : World} {R : Value → Prop} (h : FnV P f as w [] R) : Fn P f as w [] (fun v _ => R v) := by
 intro _ _
 have := h [] w Inc.nil (by simpa using St.start (L := []) (by simp) (by simp))
 exact this.mono fun _ _ ⟨v, Y, h1, h2, h3, h4⟩ => ⟨v, Y, h1, by simpa using h2, h4⟩
end
structure RowR (w0 : World) (Ps : List Blk) (k : Nat) (v : Value) (n : Nat) (vs : List Value) : Prop where
  form : ∃ a c, v = .slice a n c
  len : vs.length = n * k
  src : ∀ C : Ctx, C.w0 = w0 → C.M = [] → ∀ L, Inc Ps L → Src C L k v n vs
theorem RowR.more {w0 : World} {Ps Qs : List Blk} {k n : Nat} {v : Value} {vs : List Value} (h : RowR w0 Ps k v n vs) (hi : Inc Ps Qs) : RowR w0 Qs k v n vs :=
 ⟨h.form, h.len, fun C h0 hm L hL => h.src C h0 hm L (hi.trans hL)⟩
theorem RowR.nil {w0 : World} {Ps : List Blk} {k c : Nat} : RowR w0 Ps k (.slice none 0 c) 0 [] := ⟨⟨_, _, rfl⟩, by simp, fun _ _ _ _ _ => .nil⟩
theorem RowR.old {w0 : World} {Ps : List Blk} {k n : Nat} {v : Value} {vs : List Value} (h : SlR w0 v k n vs) : RowR w0 Ps k v n vs :=
 ⟨h.form, h.len, fun C h0 hm L _ => by subst h0; exact h.src hm⟩
theorem RowR.odd {w0 : World} {Ps : List Blk} {k c : Nat} {a : Addr} : RowR w0 Ps k (.slice (some a) 0 c) 0 [] := ⟨⟨_, _, rfl⟩, by simp, fun _ _ _ _ _ => .odd⟩
theorem RowR.own {w0 : World} {Ps : List Blk} {k n b off c size : Nat} {tg : Option TypeId} {vs : List Value} (hB : (⟨⟨b, tg⟩, off, vs, size⟩ : Blk) ∈ Ps) (hl : vs.length = n * k) : RowR w0 Ps k (.slice (some ⟨b, off, none⟩) n c) n vs :=
 ⟨⟨_, _, rfl⟩, hl, fun C _ _ L hL => .sl (RdN.at0 (hL.find hB)) hl⟩
theorem RowR.ofSl {w0 : World} {Ps Ls : List Blk} {k : Nat} {tg : Option TypeId} {v : Value} {vs : List Value} (h : SlG tg v vs k Ls) (hi : Inc Ls Ps) (hk : 0 < k) (n : Nat) (hn : vs.length = n * k) : RowR w0 Ps k v n vs := by
 rcases h with ⟨rfl, rfl, rfl⟩ | ⟨b, off, len, cap, size, rfl, h1, h2, h3, rfl⟩
 ·
  have : n = 0 := by
   rcases Nat.eq_zero_or_pos n with h | h
   · exact h
   · have := Nat.mul_pos h hk; simp at hn; omega
  subst this; exact RowR.nil
 ·
  have : n = len := Nat.eq_of_mul_eq_mul_right hk (by omega)
  subst this
  exact RowR.own (tg := tg) (size := size) (hi _ (List.mem_cons_self ..)) h1
theorem RowR.at {w0 : World} {Ps : List Blk} {k n c : Nat} {a : Option Addr} {vs : List Value} (h : RowR w0 Ps k (.slice a n c) n vs) (hn : 0 < n) (P : Program) : ∃ b o, a = some ⟨b, o, none⟩ ∧ ∀ C : Ctx, C.w0 = w0 → C.M = [] → ∀ L, Inc Ps L → RdN C L ⟨b, o, none⟩ vs := by
 obtain ⟨b, o, rfl⟩ : ∃ b o, a = some ⟨b, o, none⟩ := by
  rcases (h.src ⟨P, w0, [], 0⟩ rfl rfl Ps Inc.refl).inv _ _ _ rfl with h0 | ⟨b, o, h0, _⟩
  · omega
  · exact ⟨b, o, h0⟩
 refine ⟨b, o, rfl, fun C h0 hm L hL => ?_⟩
 rcases (h.src C h0 hm L hL).inv _ _ _ rfl with h0 | ⟨b', o', h0, hr⟩
 · omega
 · cases h0; exact hr
theorem RdN.elem {C : Ctx} {L : List Blk} {b o k n i : Nat} {vs : List Value} (h : RdN C L ⟨b, o, none⟩ vs) (hl : vs.length = n * k) (hi : i < n) : RdN C L ⟨b, o + i * k, none⟩ ((vs.drop (i * k)).take k) ∧ ((vs.drop (i * k)).take k).length = k := by
 have hle : i * k + k ≤ n * k := by rw [← Nat.succ_mul]; exact Nat.mul_le_mul_right _ hi
 refine ⟨fun j v hv => ?_, by simp; omega⟩
 rw [List.getElem?_take] at hv
 split at hv
 ·
  rw [List.getElem?_drop] at hv
  have := h (i * k + j) v hv
  show Rd C L ⟨b, o + i * k + j, none⟩ v
  rw [Nat.add_assoc]; exact this
 · cases hv
end Go.Proofs.YtfjedhmffccgnaaGreatDoor.S
namespace Go.Proofs.YtfjedhmffccgnaaGreatDoor.S
open Go.RowKit
section
variable {P : Program} {ops : Array Oper} {Q : Exit → Act → World → Prop} {S : World → Prop} {k : Nat}
def wpAnyK (P : Program) (ops : Array Oper) (Q : Exit → Act → World → Prop) (S : World → Prop) (k : Nat) : Nat → Array Bool → Act → World → Prop
  | 0, listed, a, w => Region.ready .any ops listed = [] ∧ Q .normal a w
  | fuel + 1, listed, a, w => (Region.ready .any ops listed = [] → Q .normal a w) ∧ ∀ i ∈ Region.ready .any ops listed, wpOp P ops Q i (fun a' w' => (i ≠ k → S w') ∧ wpAnyK P ops Q S k fuel (listed.setIfInBounds i true) a' w') a w
theorem wpAnyK.any : ∀ {fuel : Nat} {listed : Array Bool} {a : Act} {w : World}, wpAnyK P ops Q S k fuel listed a w → wpAny P .any ops Q fuel listed a w
 | 0, _, _, _, h => h
 | _ + 1, _, _, _, h => ⟨h.1, fun i hi => wpOp_mono (fun _ _ h' => h'.2.any) (h.2 i hi)⟩
def waits (ops : Array Oper) (k i : Nat) : Bool := match ops[k]? with | some o => o.after.toList.any (fun e => Region.binds .any e && e.on == i) | none => false
theorem waits_spec {i : Nat} (h : waits ops k i = true) : ∃ o, ops[k]? = some o ∧ ∃ e ∈ o.after, Region.binds .any e = true ∧ e.on = i := by
 unfold waits at h
 split at h
 ·
  rename_i o ho
  rw [List.any_eq_true] at h
  obtain ⟨e, he, hb⟩ := h
  simp only [Bool.and_eq_true, beq_iff_eq] at hb
  exact ⟨o, ho, e, by simpa using he, hb.1, hb.2⟩
 · cases h
end
section
variable {C : Ctx} {e : Env} {L : List Blk} {S : List Blk → Prop} {k : Nat} {ops : Array Oper} {Q : Post} {fuel : Nat} {listed : Array Bool}
def TX (C : Ctx) (S : List Blk → Prop) (k : Nat) (ops : Array Oper) (Q : Post) (fuel : Nat) (listed : Array Bool) (e : Env) (L : List Blk) : Prop :=
  ∀ a w, Rel C.n e a → St C.w0 C.M L w → (listed.getD k true = false → S L) → wpAnyK C.P ops (lift C Q) (fun w => ∃ L, St C.w0 C.M L w ∧ S L) k fuel listed a w
theorem T.drawX {id : Nat} {l : List Oper} {Q : Post} (S : List Blk → Prop) (k : Nat) (hm : C.P.follows .mixedOrders = true) (hS : S L) (h : TX C S k l.toArray Q l.toArray.size (Array.replicate l.toArray.size false) e L) : T C (.region id l.toArray true) Q e L :=
 fun a _ hr hs => wp_region_any hm (wpAnyK.any (h a _ hr (hs.drew _ (Nat.le_succ _)) (fun _ => hS)))
theorem TX.done (hr : Region.ready .any ops listed = []) (h : Q .normal e L) : TX C S k ops Q fuel listed e L := by
 intro a w hrel hs _
 cases fuel with
 | zero => exact ⟨hr, e, L, hrel, hs, h⟩
 | succ n => exact ⟨fun _ => ⟨e, L, hrel, hs, h⟩, by rw [hr]; simp⟩
def okX (ops : Array Oper) (k : Nat) (listed : Array Bool) (i : Nat) : Bool := waits ops k i && !(Nat.beq i k) && !(listed.getD k true)
theorem TX.all {rs : List Nat} (hr : Region.ready .any ops listed = rs) (hne : rs ≠ [])
 (h : ∀ i ∈ rs, ∃ o, ops[i]? = some o ∧ Tg C ops o (fun e' L' => (i ≠ k → S L') ∧ TX C S k ops Q fuel (listed.setIfInBounds i true) e' L') e L) : TX C S k ops Q (fuel + 1) listed e L := by
 intro a w hrel hs _
 refine ⟨fun h0 => absurd (hr ▸ h0) hne, fun i hi => ?_⟩
 have hi' := hi
 rw [hr] at hi
 obtain ⟨o, ho, hg1, hg0⟩ := h i hi
 have hil : i < listed.size := by
  have := (mem_ready.1 hi').1
  rcases Nat.lt_or_ge i listed.size with h' | h'
  · exact h'
  · simp [Array.getElem?_eq_none h'] at this
 have hnext : ∀ L', (i ≠ k → S L') → (listed.setIfInBounds i true).getD k true = false → S L' := by
  intro L' hS' hk
  refine hS' fun he => ?_
  subst he
  simp [hil] at hk
 unfold wpOp
 simp only [ho]
 rw [wanted_eq hrel]
 cases hw : wantedE C.n ops e o.guard with
 | true =>
  simp only [if_true]
  refine .inl (hg1 hw a w _ _ hrel hs ?_)
  intro a' w' e' L' hr' hs' ⟨hS', hT'⟩
  exact ⟨fun hik => ⟨L', hs', hS' hik⟩, hT' a' w' hr' hs' (hnext L' hS')⟩
 | false =>
  simp only [Bool.false_eq_true, if_false]
  obtain ⟨hS', hT'⟩ := hg0 hw
  exact ⟨fun hik => ⟨L, hs, hS' hik⟩, hT' _ _ (hrel.put _ _) hs (hnext L hS')⟩
theorem T1.and {o : Oper} {K K' : Env → List Blk → Prop} (h : T1 C o K e L) (hk : ∀ e L, K e L → K' e L) : T1 C o K' e L := fun a w K'' Q' hr hs hK => h a w K'' Q' hr hs fun a' w' e' L' h1 h2 h3 => hK a' w' e' L' h1 h2 (hk _ _ h3)
theorem TX.one (i : Nat) {o : Oper} (hr : Region.ready .any ops listed = [i]) (ho : ops[i]? = some o) (hg : wantedE C.n ops e o.guard = true)
 (h : T1 C o (fun e' L' => S L' ∧ TX C S k ops Q fuel (listed.setIfInBounds i true) e' L') e L) : TX C S k ops Q (fuel + 1) listed e L :=
 TX.all hr (by simp) fun j hj => by
  obtain rfl : j = i := by simpa using hj
  exact ⟨o, ho, fun _ => T1.and h fun _ _ h => ⟨fun _ => h.1, h.2⟩, fun h0 => by rw [hg] at h0; cases h0⟩
end
end Go.Proofs.YtfjedhmffccgnaaGreatDoor.S
namespace Go.Proofs.YtfjedhmffccgnaaGreatDoor.S
open Go.RowKit
section
variable {C : Ctx} {K : Env → List Blk → Prop} {e : Env} {L : List Blk} {dst : Option Tmp} {ty : TypeId} {pos : String} {after : Array Edge} {guard : Option (Nat × Bool)}
theorem V1.makeFuncC {fn : Go.Fn} {x : Operand} {v : Value} (hx : ev C.n e x = v) : V1 C ⟨dst, .makeFunc fn #[] #[x], ty, pos, after, guard⟩ e L (.func fn #[] #[v]) := by
 subst hx
 have := V1.makeFunc (C := C) (e := e) (L := L) (dst := dst) (ty := ty) (pos := pos) (after := after) (guard := guard) (fn := fn) (first := #[]) (cap := #[x])
 simpa using this
theorem T1.buildOne {t el : TypeId} {k : Nat} {x : Operand} {cs : List Value} {z : Value} (hT : C.P.underlying t = some (.slice el)) (hk : SizeIs C.P el k) (hz : ZeroIs C.P el z) (h16 : k ≤ 16777216) (hx : ev C.n e x = .agg cs.toArray) (hl : cs.length = k)
 (kk : ∀ b, K (putO e dst (.slice (some ⟨b, 0, none⟩) 1 1)) (⟨⟨b, some el⟩, 0, cs, k⟩ :: L)) : T1 C ⟨dst, .buildSlice t 1 (List.toArray [(0, x)]), ty, pos, after, guard⟩ K e L := by
 refine T1.buildSliceG (tg := some el) (vs := [.agg cs.toArray]) hT hk hz (by omega) (by simp [hx]) rfl (fun v hv => by rw [List.mem_singleton] at hv; subst hv; simpa [Value.cells] using hl) (.inr rfl) (fun b => ?_)
 have := kk b
 simpa [Value.cells] using this
theorem T1.buildTwo {t el : TypeId} {k : Nat} {x y : Operand} {cs ds : List Value} {z : Value} (hT : C.P.underlying t = some (.slice el)) (hk : SizeIs C.P el k) (hz : ZeroIs C.P el z) (h16 : 2 * k ≤ 16777216) (hx : ev C.n e x = .agg cs.toArray) (hy : ev C.n e y = .agg ds.toArray) (hl : cs.length = k) (hl2 : ds.length = k)
 (kk : ∀ b, K (putO e dst (.slice (some ⟨b, 0, none⟩) 2 2)) (⟨⟨b, some el⟩, 0, cs ++ ds, 2 * k⟩ :: L)) : T1 C ⟨dst, .buildSlice t 2 (List.toArray [(0, x), (1, y)]), ty, pos, after, guard⟩ K e L := by
 refine T1.buildSliceG (tg := some el) (vs := [.agg cs.toArray, .agg ds.toArray]) hT hk hz h16 (by simp [hx, hy]) rfl (fun v hv => by simp at hv; rcases hv with rfl | rfl <;> simpa [Value.cells]) (.inr rfl) (fun b => ?_)
 have := kk b
 simpa [Value.cells] using this
theorem T1.buildMany {t el : TypeId} {k n : Nat} {ps : List (Nat × Operand)} {os : List Operand} {vss : List (List Value)} {z : Value} (hT : C.P.underlying t = some (.slice el)) (hk : SizeIs C.P el k) (hz : ZeroIs C.P el z) (h16 : n * k ≤ 16777216) (hps : ps = (os.zipIdx 0).map (fun p => (p.2, p.1))) (hev : Evs C.n e os (vss.map fun l => .agg l.toArray)) (hn : vss.length = n) (hl : ∀ l ∈ vss, l.length = k)
 (kk : ∀ b, K (putO e dst (.slice (some ⟨b, 0, none⟩) n n)) (⟨⟨b, some el⟩, 0, vss.flatten, n * k⟩ :: L)) : T1 C ⟨dst, .buildSlice t n ps.toArray, ty, pos, after, guard⟩ K e L := by
 subst hps
 refine T1.buildSliceG (tg := some el) hT hk hz h16 (parts_eq hev) (by simpa using hn) (fun v hv => by obtain ⟨l, hl', rfl⟩ := List.mem_map.1 hv; simpa [Value.cells] using hl l hl') (.inr rfl) (fun b => ?_)
 have : ((vss.map fun l => Value.agg l.toArray).map (fun v => v.cells.toList)).flatten = vss.flatten := by
  rw [List.map_map]; congr 1
  conv => rhs; rw [← List.map_id vss]
  exact List.map_congr_left fun l _ => by simp [Value.cells]
 rw [this]
 exact kk b
end
end Go.Proofs.YtfjedhmffccgnaaGreatDoor.S
namespace Go.Proofs.YtfjedhmffccgnaaGreatDoor.S
open Go.RowKit
section
variable {C : Ctx} {K : Env → List Blk → Prop} {e : Env} {L : List Blk} {dst : Option Tmp} {ty : TypeId} {pos : String} {after : Array Edge} {guard : Option (Nat × Bool)}
theorem V1.sliceK {t el : TypeId} {x : Operand} {lo hi : Option Operand} {b o len cap kz : Nat} (l h : Nat) (hT : C.P.underlying t = some (.slice el)) (hk : SizeIs C.P el kz) (hx : ev C.n e x = .slice (some ⟨b, o, none⟩) len cap) (hl : bd C.n e lo 0 = some (l : Int)) (hh : bd C.n e hi len = some (h : Int)) (h1 : l ≤ h) (h2 : h ≤ cap) (h3 : l < cap) :
 V1 C ⟨dst, .slice t x lo hi none, ty, pos, after, guard⟩ e L (.slice (some ⟨b, o + l * kz, none⟩) (h - l) (cap - l)) := by
 have := V1.sliceSl (C := C) (e := e) (L := L) (dst := dst) (ty := ty) (pos := pos) (after := after) (guard := guard) hT hk hx hl hh (by omega) (by omega) (by omega)
 simp only [Int.toNat_natCast] at this
 rwa [if_neg (by omega)] at this
theorem V1.sliceAny {t el : TypeId} {x : Operand} {lo hi : Option Operand} {b o len cap kz : Nat} (l h : Nat) (hT : C.P.underlying t = some (.slice el)) (hk : SizeIs C.P el kz) (hx : ev C.n e x = .slice (some ⟨b, o, none⟩) len cap) (hl : bd C.n e lo 0 = some (l : Int)) (hh : bd C.n e hi len = some (h : Int)) (h1 : l ≤ h) (h2 : h ≤ cap) :
 V1 C ⟨dst, .slice t x lo hi none, ty, pos, after, guard⟩ e L (.slice (some ⟨b, if cap = l then o else o + l * kz, none⟩) (h - l) (cap - l)) := by
 have := V1.sliceSl (C := C) (e := e) (L := L) (dst := dst) (ty := ty) (pos := pos) (after := after) (guard := guard) hT hk hx hl hh (by omega) (by omega) (by omega)
 simpa only [Int.toNat_natCast] using this
theorem In_over {w : World} {B : Blk} (h : B.In w) {o : Nat} {vs : List Value} (h1 : B.off ≤ o) (h2 : o ≤ B.off + B.cells.length) (h3 : B.off + B.cells.length ≤ o + vs.length) (h4 : o + vs.length ≤ B.size) (hm : B.key.mp.v = false := by rfl) :
 (⟨B.key, B.off, B.cells.take (o - B.off) ++ vs, B.size⟩ : Blk).In (setCellsAt w B.id o vs) := by
 obtain ⟨c, E, lo, hi, hh, hsz, hk, hf⟩ := h.here hm
 obtain ⟨c', g1, g2, g3⟩ := setCellsAt_block B.id vs o w c E (lo, hi) hh
 refine Blk.In.ofCells (by simp; omega) ⟨c', E, lo, hi, g1, by show c'.size = B.size; omega, fun i hi' => ?_, hf⟩ hm
 show c'[B.off + i]? = (B.cells.take (o - B.off) ++ vs)[i]?
 simp only [List.length_append, List.length_take] at hi'
 rw [g3, List.getElem?_append, List.length_take]
 by_cases hc : i < min (o - B.off) B.cells.length
 · rw [if_neg (by omega), if_pos hc, List.getElem?_take, if_pos (by omega)]; exact hk i (by omega)
 · rw [if_pos ⟨by omega, by omega, by omega⟩, if_neg hc]; congr 1; omega
theorem T1.copyX {x y : Operand} {t yt el : TypeId} {k n len cap b o off size : Nat} {tg : Option TypeId} {v : Value} {cells new : List Value} {L' : List Blk} (hT : C.P.underlying t = some (.slice el)) (hk : SizeIs C.P el k)
 (hx : ev C.n e x = .slice (some ⟨b, o, none⟩) len cap) (hyv : ev C.n e y = v) (m : Nat) (hm : m = min n len) (hlen : ∀ w, (Builtin.lenOf v).run C.P w = .ok n w) (hsrc : ∀ w, St C.w0 C.M L w → (Builtin.firstCells k m v).run C.P w = .ok new.toArray w) (hone : ∀ u ∈ new, one u = true)
 (h1 : off ≤ o) (h2 : o ≤ off + cells.length) (h3 : off + cells.length ≤ o + new.length) (h4 : o + new.length ≤ size) (hu : Sub L [⟨⟨b, tg⟩, off, cells, size⟩] L' [⟨⟨b, tg⟩, off, cells.take (o - off) ++ new, size⟩]) (kk : K (putO e dst (.int .i64 m)) L') :
 T1 C ⟨dst, .call ⟨.builtin .copy, (List.toArray [x, y]), (List.toArray [t, yt])⟩, ty, pos, after, guard⟩ K e L := by
 intro a w K' Q' hr hs hK
 unfold Oper.wp
 rw [hr.eval]
 have hexec : execOp (ev C.n e) ⟨dst, .call ⟨.builtin .copy, (List.toArray [x, y]), (List.toArray [t, yt])⟩, ty, pos, after, guard⟩ = (do pure (Next.value (← Builtin.copy_ #[t, yt] ty #[.slice (some ⟨b, o, none⟩) len cap, v])) : Sem Next) := by
  show Go.builtin .copy #[t, yt] ty ((List.toArray [x, y]).map fun | .const _ => true | _ => false) ((List.toArray [x, y]).map (ev C.n e)) = _
  rw [show (List.toArray [x, y]).map (ev C.n e) = #[.slice (some ⟨b, o, none⟩) len cap, v] from by rw [List.map_toArray]; simp [hx, hyv]]
  rfl
 rw [hexec]
 have hin := (hs.piece hu).2 ⟨⟨b, tg⟩, off, cells, size⟩ (by simp)
 obtain ⟨c, E, lo, hi, hh, hsz, _, hf⟩ := hin.here
 have hsz' : c.size = size := hsz
 have hst := run_storeCells (P := C.P) new o 0 w c E lo hi hh (by omega) (by intro q hq; have hf' : lo = hi ∨ size ≤ lo := hf.1; omega) hone
 have hrun : (Builtin.copy_ #[t, yt] ty #[.slice (some ⟨b, o, none⟩) len cap, v]).run C.P w = .ok (.int .i64 m) (setCellsAt w b (o + 0) new) := by
  unfold Builtin.copy_
  simp only [List.getElem?_toArray, List.getElem?_cons_zero, List.getElem?_cons_succ]
  rw [run_bind (run_underlying hT w)]
  simp only
  rw [run_bind (hlen w), run_bind (run_sizeOf hk w), show Nat.min n len = m from hm.symm, run_bind (hsrc w hs)]
  simp only
  rw [run_bind hst]; rfl
 rw [run_value hrun]
 obtain ⟨f1, f2, f3, f4, f5⟩ := setCellsAt_fields b new (o + 0) w
 refine hK _ _ _ _ (hr.put _ _) (hs.turn hu rfl f1 f2 f3 f4 f5 ?_) kk
 exact In_over hin h1 h2 h3 h4
theorem firstCells_rd {k m b o n c : Nat} {vs : List Value} (hrd : RdN C L ⟨b, o, none⟩ vs) (hl : vs.length = m * k) {w : World} (hs : St C.w0 C.M L w) : (Builtin.firstCells k m (.slice (some ⟨b, o, none⟩) n c)).run C.P w = .ok vs.toArray w := run_loadCells hl (hrd.cells hs)
theorem zero_cells {zl : List Value} (h0 : 0 < zl.length) (n : Nat) : Builtin.zeroCells zl.toArray n = (List.replicate n zl).flatten.toArray := by
 unfold Builtin.zeroCells
 apply Array.ext'
 have hfl : ∀ (m : Nat), (List.replicate m zl).flatten.length = m * zl.length := fun m => by simp
 apply List.ext_getElem?
 intro i
 simp only [List.size_toArray, Array.toList_map, Array.toList_range]
 by_cases h : i < n * zl.length
 ·
  have hq : i / zl.length < n := Nat.div_lt_of_lt_mul (by rwa [Nat.mul_comm] at h)
  have hx : (List.replicate n zl)[i / zl.length]? = some zl := by rw [List.getElem?_replicate, if_pos hq]
  have hd := flatten_drop (List.replicate n zl) (i / zl.length) (fun x hx => by rw [List.eq_of_mem_replicate hx]) zl hx
  have hm := Nat.mod_lt i h0
  have e : (List.replicate n zl).flatten[i]? = zl[i % zl.length]? := by
   have h2 : (((List.replicate n zl).flatten.drop (i / zl.length * zl.length)).take zl.length)[i % zl.length]? = zl[i % zl.length]? := by rw [hd]
   rw [← h2, List.getElem?_take, if_pos hm, List.getElem?_drop]
   congr 1
   have := Nat.div_add_mod i zl.length
   rw [Nat.mul_comm] at this; omega
  rw [List.getElem?_map, List.getElem?_range h, Option.map_some, e, List.getElem?_eq_getElem hm, getElem!_pos zl.toArray (i % zl.length) (by simpa using hm)]
  simp
 · rw [List.getElem?_eq_none (by simpa using h), List.getElem?_eq_none (by rw [hfl]; omega)]
theorem run_appendZK {P : Program} {t yt el : TypeId} {i : TypeInfo} {zl : List Value} (hT : P.underlying t = some (.slice el)) (hY : P.underlying yt = some (.int .i64)) (hi : P.info? el = some i) (hk : i.size = zl.length) (hk0 : 0 < zl.length) (hz : i.zero = some (.agg zl.toArray)) {base : Option Addr} {sLen sCap n : Nat} {old : List Value} {w : World}
 (hn : n * i.bytes ≤ 281474976710656) (hn2 : n ≤ 281474976710656) (h3 : (Builtin.firstCells zl.length sLen (.slice base sLen sCap)).run P w.drew = .ok old.toArray w.drew) (hlt : sCap < sLen + n)
 (h0 : n ≠ 0) (h63 : ((sLen + n : Nat) : Int) ≤ 9223372036854775807) (hfit : Builtin.nextslicecap (sLen + n) sCap * i.bytes ≤ 281474976710656) :
 (Builtin.append_ #[t, yt] ty #[.slice base sLen sCap, .int .i64 n]).run P w = .ok (.slice (some ⟨w.heap.size, 0, none⟩) (sLen + n) (grownCap w (sLen + n) sCap el))
  (w.drew.alloc (.cells ((old ++ (List.replicate n zl).flatten).toArray ++ Builtin.zeroCells zl.toArray (grownCap w (sLen + n) sCap el - (sLen + n))) el)) := by
 have h1 : ¬ ((n : Int) < 0) := by omega
 have h2 := made_fits hn
 have hw := wrap64n hn2
 have hn' : ¬ (sLen + n ≤ sCap) := by omega
 have h63' : ¬ (9223372036854775807 < ((sLen : Int) + (n : Int))) := by omega
 have h48' : ¬ (281474976710656 < Builtin.nextslicecap (sLen + n) sCap * i.bytes) := by omega
 have hzc : (Value.agg zl.toArray).cells = zl.toArray := rfl
 simp [Builtin.append_, Go.run_underlying hT, Go.run_underlying hY, sizeOf, typeInfo, zeroValue, hi, hz, hzc, asInt, asIntOf, hw, h1, h2, hk, h0, hn', h63', h48', Question.forced, h3, newRow, grownCap, zero_cells hk0]
 intro hz0
 rcases Nat.mul_eq_zero.1 hz0 with h | h <;> omega
theorem T1.appendZK {x y : Operand} {t yt el : TypeId} {n bytes b o sLen sCap : Nat} {zl old : List Value} (hT : C.P.underlying t = some (.slice el)) (hY : C.P.underlying yt = some (.int .i64))
 (hk : SizeIs C.P el zl.length) (hk0 : 0 < zl.length) (hb : BytesIs C.P el bytes) (hz : ZeroIs C.P el (.agg zl.toArray)) (hbpos : 0 < bytes) (hx : ev C.n e x = .slice (some ⟨b, o, none⟩) sLen sCap) (hyv : ev C.n e y = .int .i64 (n : Int)) (hrd : RdN C L ⟨b, o, none⟩ old) (hl : old.length = sLen * zl.length) (hcap : sLen ≤ sCap) (hlt : sCap < sLen + n) (h0 : n ≠ 0)
 (hroom : ((sLen + n) + (sLen + n) / 4 + 192) * bytes ≤ 281474976710656)
 (kk : ∀ b' cap', sLen + n ≤ cap' → K (putO e dst (.slice (some ⟨b', 0, none⟩) (sLen + n) cap')) (⟨⟨b', some el⟩, 0, old ++ (List.replicate n zl).flatten, cap' * zl.length⟩ :: L)) : T1 C ⟨dst, .call ⟨.builtin .append, (List.toArray [x, y]), (List.toArray [t, yt])⟩, ty, pos, after, guard⟩ K e L := by
 intro a w K' Q' hr hs hK
 unfold Oper.wp
 rw [hr.eval]
 obtain ⟨iel, hiel, hibytes⟩ := Option.map_eq_some_iff.1 hb
 have hik : iel.size = zl.length := by have := hk; unfold SizeIs at this; rw [hiel] at this; simpa using this
 have hiz : iel.zero = some (.agg zl.toArray) := by have := hz; unfold ZeroIs at this; rw [hiel] at this; simpa using this
 have hexec : execOp (ev C.n e) ⟨dst, .call ⟨.builtin .append, (List.toArray [x, y]), (List.toArray [t, yt])⟩, ty, pos, after, guard⟩ = (do pure (Next.value (← Builtin.append_ #[t, yt] ty #[.slice (some ⟨b, o, none⟩) sLen sCap, .int .i64 (n : Int)])) : Sem Next) := by
  show Go.builtin .append #[t, yt] ty ((List.toArray [x, y]).map fun | .const _ => true | _ => false) ((List.toArray [x, y]).map (ev C.n e)) = _
  rw [show (List.toArray [x, y]).map (ev C.n e) = #[.slice (some ⟨b, o, none⟩) sLen sCap, .int .i64 (n : Int)] from by rw [List.map_toArray]; simp [hx, hyv]]
  rfl
 rw [hexec]
 have hnb : sLen + n ≤ 281474976710656 := by
  have : (sLen + n) * 1 ≤ ((sLen + n) + (sLen + n) / 4 + 192) * bytes := Nat.mul_le_mul (by omega) hbpos
  omega
 have hnbytes : n * iel.bytes ≤ 281474976710656 := by
  rw [hibytes]
  exact Nat.le_trans (Nat.mul_le_mul_right _ (by omega)) hroom
 have hs1 : St C.w0 C.M L w.drew := hs.drew _ (Nat.le_succ _)
 have hfit := growslice_fits_wide (need := sLen + n) (old := sCap) (bytes := iel.bytes) (by omega) (by rw [hibytes]; exact hroom)
 have hrun := run_appendZK (ty := ty) (base := some ⟨b, o, none⟩) (old := old) hT hY hiel hik hk0 hiz hnbytes (by omega) (firstCells_rd hrd hl hs1) hlt h0 (by omega) hfit
 have hge : sLen + n ≤ grownCap w (sLen + n) sCap el := by unfold grownCap Question.cut; exact Nat.le_add_right _ _
 generalize grownCap w (sLen + n) sCap el = nc at hge hrun
 rw [run_value hrun]
 have hfl : ∀ (m : Nat), (List.replicate m zl).flatten.length = m * zl.length := fun m => by simp
 have hol : (old ++ (List.replicate n zl).flatten).length = (sLen + n) * zl.length := by rw [List.length_append, hl, hfl, Nat.add_mul]
 refine hK _ _ _ _ (hr.put _ _) ?_ (kk _ nc hge)
 exact hs1.push (B := ⟨⟨w.heap.size, some el⟩, 0, old ++ (List.replicate n zl).flatten, nc * zl.length⟩) (c := (old ++ (List.replicate n zl).flatten).toArray ++ Builtin.zeroCells zl.toArray (nc - (sLen + n))) (E := el) (lo := 0) (hi := 0) (k := w.drawn + 1) rfl
  (by show 0 + (old ++ (List.replicate n zl).flatten).length ≤ nc * zl.length; rw [hol, Nat.zero_add]; exact Nat.mul_le_mul_right _ hge)
  (by
   show ((old ++ (List.replicate n zl).flatten).toArray ++ _).size = nc * zl.length
   rw [Array.size_append, List.size_toArray, hol, zero_cells hk0, List.size_toArray, hfl, ← Nat.add_mul]; congr 1; omega)
  (by
   intro i hi
   show ((old ++ (List.replicate n zl).flatten).toArray ++ _)[0 + i]? = (old ++ (List.replicate n zl).flatten)[i]?
   have hi' : i < (old ++ (List.replicate n zl).flatten).length := hi
   rw [Nat.zero_add, Array.getElem?_append, if_pos (by simpa using hi')]
   simp)
  (.inl rfl) (.inr ⟨rfl, rfl⟩)
theorem not_frozen {w : World} {b off size : Nat} {E : TypeId} {cells : List Value} (h : Blk.In ⟨⟨b, some E⟩, off, cells, size⟩ w) (o : Nat) : w.frozen? ⟨b, o, none⟩ = false := by
 obtain ⟨c, E', lo, hi, hh, _, _, _, ht⟩ := h.here
 rcases ht with ht | ⟨_, rfl⟩
 · cases ht
 ·
  have hh' : w.heap[b]? = some (.cells c E' (lo, lo)) := hh
  simp only [World.frozen?, hh', Bool.and_eq_false_iff, decide_eq_false_iff_not]
  omega
theorem V1.overlaps {f : FuncId} {fn : Func} {x y : Operand} {ts : Array TypeId} {t r el Ea : TypeId} {kz ba oa la ca bb ob lb cb offa sza offb szb : Nat} {tb : Option TypeId} {csa csb : List Value} (hf : C.P.funcs[f]? = some fn) (h1 : (fn.name == "runtime.NumGoroutine") = false) (h2 : fn.body.isNone = true) (h3 : Extern.findNext fn = none) (h4 : Extern.find fn = some (Extern.SlicesOverlaps.overlaps #[t, t] #[r])) (hT : C.P.underlying t = some (.slice el)) (hk : SizeIs C.P el kz)
 (hx : ev C.n e x = .slice (some ⟨ba, oa, none⟩) la ca) (hy : ev C.n e y = .slice (some ⟨bb, ob, none⟩) lb cb) (ha : Find L ⟨⟨ba, some Ea⟩, offa, csa, sza⟩) (hb : Find L ⟨⟨bb, tb⟩, offb, csb, szb⟩) (hne : ba ≠ bb) (hs0 : 0 < szb) :
 V1 C ⟨dst, .call ⟨.value (.func f), #[x, y], ts⟩, ty, pos, after, guard⟩ e L (.bool false) := fun w hs => by
 show (do let d ← Deferred.ofValue (.func (.func f) #[] #[]) ((List.toArray [x, y]).map (ev C.n e)); Go.invoke d.target d.args : Sem Next).run C.P w = _
 rw [show (List.toArray [x, y]).map (ev C.n e) = #[.slice (some ⟨ba, oa, none⟩) la ca, .slice (some ⟨bb, ob, none⟩) lb cb] from by rw [List.map_toArray]; simp [hx, hy]]
 have ia := hs.inw _ ha.mem
 have ib := hs.inw _ hb.mem
 obtain ⟨Ta, sa, _⟩ := ia.shape
 obtain ⟨Tb, sb, _⟩ := ib.shape
 show (callFunc f ((#[] ++ #[.slice (some ⟨ba, oa, none⟩) la ca, .slice (some ⟨bb, ob, none⟩) lb cb]) ++ #[])).run C.P w = _
 rw [show ((#[] ++ #[.slice (some ⟨ba, oa, none⟩) la ca, .slice (some ⟨bb, ob, none⟩) lb cb]) ++ #[] : Array Value) = #[.slice (some ⟨ba, oa, none⟩) la ca, .slice (some ⟨bb, ob, none⟩) lb cb] from by simp, run_callFunc_extern hf h1 h2 h3 h4,
  Go.Lib.run_overlaps_apart w t r el hT kz (fun w => run_sizeOf hk w) ⟨ba, oa, none⟩ ⟨bb, ob, none⟩ la ca lb cb hne Ta Tb sza szb sa sb (by omega) (not_frozen ia _) (not_frozen ia _)]; rfl
theorem V1.eqSlNil {t yt el : TypeId} {x y : Operand} {a : Option Addr} {n c : Nat} (hT : C.P.underlying t = some (.slice el)) (hx : ev C.n e x = .slice a n c) (hy : ev C.n e y = .slice none 0 0) : V1 C ⟨dst, .binOp .eql t x y yt, ty, pos, after, guard⟩ e L (.bool a.isNone) :=
 V1.run (s := do eqGuard .eql t x y (ev C.n e x) (ev C.n e y); binOp .eql t (ev C.n e x) (ev C.n e y)) rfl (fun w _ => by
  rw [hx, hy]
  show (do pure (Value.bool (← Op.equal t (.slice a n c) (.slice none 0 0))) : Sem Value).run C.P w = _
  have : (Op.equal t (.slice a n c) (.slice none 0 0)).run C.P w = .ok a.isNone w := by
   unfold Op.equal Op.maxDepth Op.equalIn
   rw [run_bind (run_underlying hT w)]
   cases a <;> rfl
  rw [run_bind this]; rfl)
theorem T1.buildNone {t el : TypeId} {k : Nat} {z : Value} (hT : C.P.underlying t = some (.slice el)) (hk : SizeIs C.P el k) (hz : ZeroIs C.P el z)
 (kk : ∀ b, K (putO e dst (.slice (some ⟨b, 0, none⟩) 0 0)) (⟨⟨b, some el⟩, 0, [], 0⟩ :: L)) : T1 C ⟨dst, .buildSlice t 0 (List.toArray []), ty, pos, after, guard⟩ K e L := by
 refine T1.buildSliceG (tg := some el) (vs := []) (ps := []) hT hk hz (by omega) rfl rfl (by simp) (.inr rfl) (fun b => ?_)
 have := kk b
 simpa using this
theorem ne_of_find {L : List Blk} {w0 w : World} {M : List Nat} {X Y : Blk} (h : St w0 M (X :: L) w) (hf : Find L Y) : X.id ≠ Y.id := by
 have hd := h.distinct
 rw [List.map_cons, List.nodup_cons] at hd
 exact fun he => hd.1 (he ▸ List.mem_map_of_mem hf.mem)
theorem T.have {c : Code} {Q : Post} {p : Prop} (hp : ∀ w, St C.w0 C.M L w → p) (h : p → T C c Q e L) : T C c Q e L := fun a w hr hs => h (hp w hs) a w hr hs
end
end Go.Proofs.YtfjedhmffccgnaaGreatDoor.S
namespace Go.Proofs.YtfjedhmffccgnaaGreatDoor.S
open Go.RowKit
def predB (o : Oper) (j : Nat) : Bool := o.after.toList.any (fun e => Region.binds .any e && e.on == j)
def dstOf (l : List Oper) (j : Nat) : Option Nat := (l[j]?).bind (·.dst)
def notDstM (l : List Oper) (t : Nat) : Bool := l.all fun o => !(o.dst == some t)
def mGood (l : List Oper) : Bool :=
  (List.range l.length).all fun i => match l[i]? with
    | some o => o.guard.isNone && (o.after.toList.all fun e => !Region.binds .any e || Nat.blt e.on i) && (List.range l.length).all fun j => j == i || (match o.dst, dstOf l j with | some a, some b => !(a == b) | _, _ => true)
    | none => true
def mLast (l : List Oper) (k : Nat) : Bool :=
  (List.range l.length).all fun j => j == k || (List.range l.length).any fun i => Nat.blt j i && (match l[i]? with | some o => predB o j | none => false)
section
variable {C : Ctx} {Q : Post} {l : List Oper} {F : Nat → Value → List Blk → Prop} {e0 : Env} {L0 : List Blk} {k : Nat}
def MOp (C : Ctx) (l : List Oper) (F : Nat → Value → List Blk → Prop) (e0 : Env) (L0 : List Blk) (i : Nat) (o : Oper) : Prop :=
  ∀ (e : Env) (Y : List Blk), (∀ j d, predB o j = true → dstOf l j = some d → F j (e d) Y) → (∀ t, notDstM l t = true → e t = e0 t) → T1 C o (fun e' L' => ∃ v Z, e' = putO e o.dst v ∧ L' = Z ++ (Y ++ L0) ∧ F i v (Z ++ Y)) e (Y ++ L0)
inductive MOps (C : Ctx) (l : List Oper) (F : Nat → Value → List Blk → Prop) (e0 : Env) (L0 : List Blk) (k : Nat) : Nat → List Oper → Prop
  | nil {i : Nat} : MOps C l F e0 L0 k i []
  | cons {i : Nat} {o : Oper} {os : List Oper} : MOp C l F e0 L0 i o → MOps C l F e0 L0 k (i + 1) os → MOps C l F e0 L0 k i (o :: os)
  | last {o : Oper} {os : List Oper} : MOps C l F e0 L0 k (k + 1) os → MOps C l F e0 L0 k k (o :: os)
theorem MOps.at {i0 : Nat} {os : List Oper} (h : MOps C l F e0 L0 k i0 os) : ∀ {i : Nat} {o : Oper}, os[i]? = some o → i0 + i ≠ k → MOp C l F e0 L0 (i0 + i) o := by
 induction h with
 | nil => intro i o h; simp at h
 | @cons i0 o' os h1 _ ih =>
  intro i o ho hk
  cases i with
  | zero => simp at ho; subst ho; exact h1
  | succ i =>
   rw [List.getElem?_cons_succ] at ho
   have := ih ho (by omega)
   rwa [show i0 + 1 + i = i0 + (i + 1) by omega] at this
 | @last o' os _ ih =>
  intro i o ho hk
  cases i with
  | zero => exact absurd rfl hk
  | succ i =>
   rw [List.getElem?_cons_succ] at ho
   have := ih ho (by omega)
   rwa [show k + 1 + i = k + (i + 1) by omega] at this
structure MInv (l : List Oper) (F : Nat → Value → List Blk → Prop) (e0 : Env) (k : Nat) (listed : Array Bool) (e : Env) (Y : List Blk) : Prop where
  size : listed.size = l.length
  fact : ∀ j d, listed.getD j false = true → dstOf l j = some d → F j (e d) Y
  same : ∀ t, notDstM l t = true → e t = e0 t
  nok : listed.getD k false = false
  closed : ∀ (i j : Nat) (o : Oper), l[i]? = some o → listed.getD i false = true → predB o j = true → listed.getD j false = true
theorem put_other {e : Env} {d t : Nat} {v : Value} (h : t ≠ d) : put e d v t = e t := by
 unfold put
 rw [show Nat.beq t d = false from Bool.eq_false_iff.2 fun hb => h (Nat.eq_of_beq_eq_true hb)]; rfl
theorem setD {listed : Array Bool} {i j : Nat} (hi : i < listed.size) : (listed.setIfInBounds i true).getD j false = if i = j then true else listed.getD j false := by
 by_cases h : i = j
 · subst h; simp [hi]
 ·
  rw [if_neg h]
  simp only [Array.getD_eq_getD_getElem?, Array.getElem?_setIfInBounds_ne h]
theorem count_set {l : List Bool} : ∀ {i : Nat}, l[i]? = some false → (l.set i true).count false + 1 = l.count false := by
 induction l with
 | nil => intro i h; simp at h
 | cons a l ih =>
  intro i h
  cases i with
  | zero => simp at h; subst h; simp
  | succ i =>
   rw [List.getElem?_cons_succ] at h
   have := ih h
   rw [List.set_cons_succ, List.count_cons, List.count_cons]; omega
theorem getD_true {listed : Array Bool} {j : Nat} : listed.getD j true = false ↔ listed[j]? = some false := by
 rw [Array.getD_eq_getD_getElem?]
 cases h : listed[j]? with
 | none => simp
 | some b => simp
theorem getD_false {listed : Array Bool} {j : Nat} : listed.getD j false = true ↔ listed[j]? = some true := by
 rw [Array.getD_eq_getD_getElem?]
 cases h : listed[j]? with
 | none => simp
 | some b => simp
theorem TM.run (hg : mGood l = true) (hlast : mLast l k = true) (hF : ∀ i v Y Z, F i v Y → F i v (Z ++ Y)) (hops : MOps C l F e0 L0 k 0 l)
 (hend : ∀ (e : Env) (Y : List Blk), (∀ j d, j ≠ k → dstOf l j = some d → F j (e d) Y) → (∀ t, notDstM l t = true → e t = e0 t) → match l[k]? with | some o => T1 C o (fun e' L' => Q .normal e' L') e (Y ++ L0) | none => Q .normal e (Y ++ L0)) :
 ∀ (fuel : Nat) (listed : Array Bool) (e : Env) (Y : List Blk), MInv l F e0 k listed e Y → listed.toList.count false ≤ fuel → TX C (fun _ => True) l.length l.toArray Q fuel listed e (Y ++ L0) := by
 have good : ∀ i o, l[i]? = some o → o.guard = none ∧ (∀ ed ∈ o.after, Region.binds .any ed = true → ed.on < i) ∧ ∀ j d, j ≠ i → o.dst = some d → dstOf l j ≠ some d := by
  intro i o ho
  have hi : i < l.length := (List.getElem?_eq_some_iff.1 ho).1
  have := List.all_eq_true.1 hg i (List.mem_range.2 hi)
  rw [ho] at this
  simp only [Bool.and_eq_true] at this
  obtain ⟨⟨h1, h2⟩, h3⟩ := this
  refine ⟨by simpa using h1, fun ed he hb => ?_, fun j d hj hd hdj => ?_⟩
  ·
   have := List.all_eq_true.1 h2 ed (by simpa using he)
   rw [hb] at this
   simpa using this
  ·
   have hjl : j < l.length := by
    unfold dstOf at hdj
    rcases Nat.lt_or_ge j l.length with h | h
    · exact h
    · rw [List.getElem?_eq_none h] at hdj; cases hdj
   have := List.all_eq_true.1 h3 j (List.mem_range.2 hjl)
   rw [hd, hdj] at this
   simp [hj] at this
 intro fuel
 induction fuel with
 | zero =>
  intro listed e Y hI hc
  have hall : ∀ j, j < l.length → listed[j]? = some true := by
   intro j hj
   rw [← hI.size] at hj
   rw [Array.getElem?_eq_getElem hj]
   cases hb : listed[j] with
   | true => rfl
   | false =>
    have : false ∈ listed.toList := by rw [← hb]; exact Array.getElem_mem_toList hj
    have := List.count_pos_iff.2 this
    omega
  have hkn : l[k]? = none := by
   rcases Nat.lt_or_ge k l.length with h | h
   ·
    have := getD_false.2 (hall k h)
    rw [hI.nok] at this; cases this
   · exact List.getElem?_eq_none h
  have hQ := hend e Y (fun j d hj hd => by
   have hjl : j < l.length := by
    unfold dstOf at hd
    rcases Nat.lt_or_ge j l.length with h | h
    · exact h
    · rw [List.getElem?_eq_none h] at hd; cases hd
   exact hI.fact j d (getD_false.2 (hall j hjl)) hd) hI.same
  rw [hkn] at hQ
  refine TX.done ?_ hQ
  rw [List.eq_nil_iff_forall_not_mem]
  intro j hj
  have h1 := (mem_ready.1 hj).1
  rw [getD_true] at h1
  have hjl : j < listed.size := (Array.getElem?_eq_some_iff.1 h1).1
  rw [hall j (by rw [← hI.size]; exact hjl)] at h1
  cases h1
 | succ fuel ih =>
  intro listed e Y hI hc
  by_cases hun : ∃ j : Nat, j < l.length ∧ listed[j]? = some false
  ·
   obtain ⟨m, hm, hmin⟩ : ∃ m : Nat, (m < l.length ∧ listed[m]? = some false) ∧ ∀ j : Nat, j < m → listed[j]? = some true := by
    obtain ⟨j0, hj0⟩ := hun
    have key : ∀ n : Nat, (∀ j : Nat, j < n → listed[j]? = some true) ∨ ∃ m : Nat, (m < l.length ∧ listed[m]? = some false) ∧ ∀ j : Nat, j < m → listed[j]? = some true := by
     intro n
     induction n with
     | zero => exact .inl fun j h => absurd h (Nat.not_lt_zero j)
     | succ n ihn =>
      rcases ihn with h | h
      ·
       by_cases hn : n < l.length
       ·
        rw [← hI.size] at hn
        cases hb : listed[n] with
        | true =>
         refine .inl fun j hj => ?_
         rcases Nat.lt_succ_iff_lt_or_eq.1 hj with hj | rfl
         · exact h j hj
         · rw [Array.getElem?_eq_getElem hn, hb]
        | false => exact .inr ⟨n, ⟨by rw [← hI.size]; exact hn, by rw [Array.getElem?_eq_getElem hn, hb]⟩, h⟩
       ·
        have h' := h j0 (by omega)
        rw [hj0.2] at h'; cases h'
      · exact .inr h
    rcases key (j0 + 1) with h | h
    ·
     have h' := h j0 (by omega)
     rw [hj0.2] at h'; cases h'
    · exact h
   have hmr : m ∈ Region.ready .any l.toArray listed := by
    refine mem_ready.2 ⟨getD_true.2 hm.2, l[m]'hm.1, by simp [hm.1], fun ed he hb => ?_⟩
    exact getD_false.2 (hmin _ ((good m _ (List.getElem?_eq_getElem hm.1)).2.1 ed he hb))
   refine TX.all rfl (fun h => by rw [h] at hmr; cases hmr) fun i hi => ?_
   obtain ⟨hil, o, ho, hpre⟩ := mem_ready.1 hi
   rw [getD_true] at hil
   have hil2 : i < listed.size := (Array.getElem?_eq_some_iff.1 hil).1
   have ho' : l[i]? = some o := by simpa using ho
   obtain ⟨hgd, _, hdist⟩ := good i o ho'
   refine ⟨o, ho, fun _ => ?_, fun h0 => by rw [hgd] at h0; cases h0⟩
   have hcnt : (listed.setIfInBounds i true).toList.count false ≤ fuel := by
    rw [Array.toList_setIfInBounds]
    have := count_set (l := listed.toList) (i := i) (by simpa using hil)
    omega
   have hpreds : ∀ j d, predB o j = true → dstOf l j = some d → F j (e d) Y := by
    intro j d hp hd
    unfold predB at hp
    rw [List.any_eq_true] at hp
    obtain ⟨ed, he, hb⟩ := hp
    simp only [Bool.and_eq_true, beq_iff_eq] at hb
    obtain ⟨hb, rfl⟩ := hb
    exact hI.fact _ d (hpre ed (by simpa using he) hb) hd
   by_cases hik : i = k
   ·
    subst hik
    have hall : ∀ j, j ≠ i → j < l.length → listed.getD j false = true := by
     intro j hj hjl
     generalize hg' : l.length - j = g
     induction g using Nat.strongRecOn generalizing j with
     | ind g ihg =>
      have h1 := List.all_eq_true.1 hlast j (List.mem_range.2 hjl)
      simp only [Bool.or_eq_true, beq_iff_eq, hj, false_or, List.any_eq_true, List.mem_range, Bool.and_eq_true] at h1
      obtain ⟨i', hi'l, hlt, hp⟩ := h1
      have hlt' : j < i' := by simpa [Nat.blt_eq] using hlt
      rw [List.getElem?_eq_getElem hi'l] at hp
      simp only at hp
      by_cases hii : i' = i
      ·
       subst hii
       have ho2 : l[i']'hi'l = o := by rw [List.getElem?_eq_getElem hi'l] at ho'; exact Option.some.inj ho'
       rw [ho2] at hp
       unfold predB at hp
       rw [List.any_eq_true] at hp
       obtain ⟨ed, he, hb⟩ := hp
       simp only [Bool.and_eq_true, beq_iff_eq] at hb
       obtain ⟨hb, rfl⟩ := hb
       exact hpre ed (by simpa using he) hb
      · exact hI.closed i' j _ (List.getElem?_eq_getElem hi'l) (ihg (l.length - i') (by omega) i' hii hi'l rfl) hp
    have hT := hend e Y (fun j d hj hd => by
     have hjl : j < l.length := by
      unfold dstOf at hd
      rcases Nat.lt_or_ge j l.length with h | h
      · exact h
      · rw [List.getElem?_eq_none h] at hd; cases hd
     exact hI.fact j d (hall j hj hjl) hd) hI.same
    rw [ho'] at hT
    refine T1.and hT fun e' L' hq => ⟨fun _ => trivial, TX.done ?_ hq⟩
    rw [List.eq_nil_iff_forall_not_mem]
    intro j hj
    have h1 := (mem_ready.1 hj).1
    rw [getD_true] at h1
    have hjl : j < l.length := by have := (Array.getElem?_eq_some_iff.1 h1).1; simpa [hI.size] using this
    have h2 : (listed.setIfInBounds i true).getD j false = true := by
     rw [setD hil2]
     split
     · rfl
     · rename_i hne; exact hall j (Ne.symm hne) hjl
    rw [getD_false, h1] at h2
    cases h2
   ·
    have hO := (MOps.at hops ho' (by omega)) e Y (fun j d hp hd => hpreds j d hp hd) hI.same
    rw [Nat.zero_add] at hO
    refine T1.and hO fun e' L' ⟨v, Z, he', hL', hf⟩ => ⟨fun _ => trivial, ?_⟩
    subst he'; subst hL'
    rw [← List.append_assoc]
    refine ih _ _ _ ⟨by simpa using hI.size, fun j d hj hd => ?_, fun t ht => ?_, ?_, fun i' j' o' ho2 hl2 hp2 => ?_⟩ hcnt
    ·
     rw [setD hil2] at hj
     by_cases hij : i = j
     ·
      subst hij
      unfold dstOf at hd
      rw [ho'] at hd
      simp only [Option.bind_some] at hd
      rw [hd]
      show F i (put e d v d) _
      simpa [put] using hf
     ·
      rw [if_neg hij] at hj
      have hfj := hF j (e d) Y Z (hI.fact j d hj hd)
      cases hod : o.dst with
      | none => exact hfj
      | some d' =>
       have hne : d' ≠ d := fun h => hdist j d (Ne.symm hij) (by rw [hod, h]) hd
       show F j (put e d' v d) _
       rw [put_other (Ne.symm hne)]
       exact hfj
    ·
     rw [← hI.same t ht]
     cases hod : o.dst with
     | none => rfl
     | some d' =>
      have hne : d' ≠ t := by
       rintro rfl
       have := List.all_eq_true.1 ht o (List.mem_of_getElem? ho')
       rw [hod] at this
       simp at this
      exact put_other (Ne.symm hne)
    · rw [setD hil2, if_neg hik]; exact hI.nok
    ·
     have hj2 : listed.getD j' false = true := by
      rw [setD hil2] at hl2
      by_cases hii : i = i'
      ·
       subst hii
       rw [ho'] at ho2
       obtain rfl := Option.some.inj ho2
       unfold predB at hp2
       rw [List.any_eq_true] at hp2
       obtain ⟨ed, he, hb⟩ := hp2
       simp only [Bool.and_eq_true, beq_iff_eq] at hb
       obtain ⟨hb, rfl⟩ := hb
       exact hpre ed (by simpa using he) hb
      ·
       rw [if_neg hii] at hl2
       exact hI.closed i' j' o' ho2 hl2 hp2
     rw [setD hil2]
     split
     · rfl
     · exact hj2
  ·
   have hall : ∀ j, j < l.length → listed[j]? = some true := by
    intro j hj
    have hjs := hj
    rw [← hI.size] at hjs
    cases hb : listed[j] with
    | true => rw [Array.getElem?_eq_getElem hjs, hb]
    | false => exact absurd ⟨j, hj, by rw [Array.getElem?_eq_getElem hjs, hb]⟩ hun
   have hkn : l[k]? = none := by
    rcases Nat.lt_or_ge k l.length with h | h
    ·
     have := getD_false.2 (hall k h)
     rw [hI.nok] at this; cases this
    · exact List.getElem?_eq_none h
   have hQ := hend e Y (fun j d hj hd => by
    have hjl : j < l.length := by
     unfold dstOf at hd
     rcases Nat.lt_or_ge j l.length with h | h
     · exact h
     · rw [List.getElem?_eq_none h] at hd; cases hd
    exact hI.fact j d (getD_false.2 (hall j hjl)) hd) hI.same
   rw [hkn] at hQ
   refine TX.done ?_ hQ
   rw [List.eq_nil_iff_forall_not_mem]
   intro j hj
   have h1 := (mem_ready.1 hj).1
   rw [getD_true] at h1
   have hjl : j < listed.size := (Array.getElem?_eq_some_iff.1 h1).1
   rw [hall j (by rw [← hI.size]; exact hjl)] at h1
   cases h1
theorem T.drawM {id : Nat} (F : Nat → Value → List Blk → Prop) (k : Nat) (hm : C.P.follows .mixedOrders = true) (hg : mGood l = true) (hlast : mLast l k = true) (hF : ∀ i v Y Z, F i v Y → F i v (Z ++ Y)) (hops : MOps C l F e0 L0 k 0 l)
 (hend : ∀ (e : Env) (Y : List Blk), (∀ j d, j ≠ k → dstOf l j = some d → F j (e d) Y) → (∀ t, notDstM l t = true → e t = e0 t) → match l[k]? with | some o => T1 C o (fun e' L' => Q .normal e' L') e (Y ++ L0) | none => Q .normal e (Y ++ L0)) :
 T C (.region id l.toArray true) Q e0 L0 := by
 refine T.drawX (fun _ => True) l.length hm trivial ?_
 refine TM.run hg hlast hF hops hend _ _ e0 [] ⟨by simp, fun j d hj => ?_, fun _ _ => rfl, ?_, fun i j o _ hi _ => ?_⟩ ?_
 ·
  rw [getD_false, Array.getElem?_replicate] at hj
  split at hj <;> cases hj
 ·
  rw [Array.getD_eq_getD_getElem?]
  rcases Nat.lt_or_ge k l.length with h | h
  · simp [h]
  · simp [h]
 ·
  rw [getD_false, Array.getElem?_replicate] at hi
  split at hi <;> cases hi
 · simp
theorem T1.known {o : Oper} {K : Env → List Blk → Prop} {e : Env} {L : List Blk} {tr : List (Nat × Value)} (h : Trk e tr) (hT : T1 C o K (putAll tr e) L) : T1 C o K e L := by rwa [h.put] at hT
theorem MOp.of {i : Nat} {o : Oper} {e : Env} {Y : List Blk} {tr : List (Nat × Value)} (h : Trk e tr) (hT : T1 C o (fun e' L' => ∃ v Z, e' = putO (putAll tr e) o.dst v ∧ L' = Z ++ (Y ++ L0) ∧ F i v (Z ++ Y)) (putAll tr e) (Y ++ L0)) :
 T1 C o (fun e' L' => ∃ v Z, e' = putO e o.dst v ∧ L' = Z ++ (Y ++ L0) ∧ F i v (Z ++ Y)) e (Y ++ L0) := by rwa [h.put] at hT
end
inductive FMono : List (Value → List Blk → Prop) → Prop
  | nil : FMono []
  | cons {f : Value → List Blk → Prop} {fs : List (Value → List Blk → Prop)} : (∀ v Y Z, f v Y → f v (Z ++ Y)) → FMono fs → FMono (f :: fs)
def FL (fs : List (Value → List Blk → Prop)) (i : Nat) : Value → List Blk → Prop := match fs, i with
  | [], _ => fun _ _ => True
  | f :: _, 0 => f
  | _ :: fs, i + 1 => FL fs i
theorem FMono.at {fs : List (Value → List Blk → Prop)} (h : FMono fs) : ∀ (i : Nat) (v : Value) (Y Z : List Blk), FL fs i v Y → FL fs i v (Z ++ Y) := by
 induction h with
 | nil => intro i v Y Z _; unfold FL; trivial
 | @cons f fs h1 _ ih =>
  intro i v Y Z hf
  cases i with
  | zero => exact h1 v Y Z hf
  | succ i => exact ih i v Y Z hf
def MT : Value → List Blk → Prop := fun _ _ => True
theorem MT.mono (v : Value) (Y Z : List Blk) (_ : MT v Y) : MT v (Z ++ Y) := trivial
def MV (x : Value) : Value → List Blk → Prop := fun v _ => v = x
theorem MV.mono {x : Value} (v : Value) (Y Z : List Blk) (h : MV x v Y) : MV x v (Z ++ Y) := h
/-! Short names for the steps of drawn regions with facts. -/
def TrkM (l : List Oper) (F : Nat → Value → List Blk → Prop) (e0 : Env) (o : Oper) (tr : List (Nat × Value)) : Prop := ∀ (e : Env) (Y : List Blk), (∀ j d, predB o j = true → dstOf l j = some d → F j (e d) Y) → (∀ t, notDstM l t = true → e t = e0 t) → Trk e tr
theorem zP {l : List Oper} {F : Nat → Value → List Blk → Prop} {e0 : Env} {o : Oper} {tr : List (Nat × Value)} {v : Value} (j t : Nat) (h : F j = MV v) (r : TrkM l F e0 o tr) (h1 : predB o j = true := by rfl) (h2 : dstOf l j = some t := by rfl) : TrkM l F e0 o ((t, v) :: tr) := fun e Y hp hs => .cons (by have := hp j t h1 h2; rw [h] at this; exact this) (r e Y hp hs)
theorem zS {l : List Oper} {F : Nat → Value → List Blk → Prop} {e0 : Env} {o : Oper} {tr : List (Nat × Value)} {v : Value} (t : Nat) (r : TrkM l F e0 o tr) (h1 : notDstM l t = true := by rfl) (h : e0 t = v := by (conv => lhs; whnf) <;> rfl) : TrkM l F e0 o ((t, v) :: tr) := fun e Y hp hs => .cons ((hs t h1).trans h) (r e Y hp hs)
theorem zE {l : List Oper} {F : Nat → Value → List Blk → Prop} {e0 : Env} {o : Oper} : TrkM l F e0 o [] := fun _ _ _ _ => .nil
theorem zm {C : Ctx} {l : List Oper} {F : Nat → Value → List Blk → Prop} {e0 : Env} {L0 : List Blk} {k i : Nat} {o : Oper} {os : List Oper} {v : Value} {tr : List (Nat × Value)} (h : TrkM l F e0 o tr) (hv : ∀ {e_ : Env} {Y_ : List Blk}, V1 C o (putAll tr e_) (Y_ ++ L0) v) (k' : MOps C l F e0 L0 k (i + 1) os) (hF : ∀ Y, F i v Y := by exact fun _ => rfl) : MOps C l F e0 L0 k i (o :: os) :=
  MOps.cons (fun e Y hp hs => MOp.of (h e Y hp hs) (V1.t hv ⟨_, [], rfl, rfl, hF _⟩)) k'
theorem zt {C : Ctx} {l : List Oper} {F : Nat → Value → List Blk → Prop} {e0 : Env} {L0 : List Blk} {k i : Nat} {o : Oper} {os : List Oper} {tr : List (Nat × Value)} (h : TrkM l F e0 o tr) (hv : ∀ (e_ : Env) (Y_ : List Blk), T1 C o (fun e' L' => ∃ v Z, e' = putO (putAll tr e_) o.dst v ∧ L' = Z ++ (Y_ ++ L0) ∧ F i v (Z ++ Y_)) (putAll tr e_) (Y_ ++ L0)) (k' : MOps C l F e0 L0 k (i + 1) os) : MOps C l F e0 L0 k i (o :: os) :=
  MOps.cons (fun e Y hp hs => MOp.of (h e Y hp hs) (hv e Y)) k'
theorem zM {F : Nat → Value → List Blk → Prop} (h : ∀ i v Y Z, F i v Y → F i v (Z ++ Y) := by refine FMono.at ?_; repeat (first | exact FMono.nil | refine FMono.cons MV.mono ?_ | refine FMono.cons MAl.mono ?_ | refine FMono.cons MT.mono ?_)) : ∀ i v Y Z, F i v Y → F i v (Z ++ Y) := h
theorem zf {w0 : World} {L : List Blk} {k n b off c size : Nat} {tg : Option TypeId} {vs : List Value} (hl : vs.length = n * k := by exact rfl) : RowR w0 (⟨⟨b, tg⟩, off, vs, size⟩ :: L) k (.slice (some ⟨b, off, none⟩) n c) n vs := RowR.own (List.mem_cons_self ..) hl
abbrev zp (b o : Nat) : Value → List Blk → Prop := MV (.pointer (some ⟨b, o, none⟩))
end Go.Proofs.YtfjedhmffccgnaaGreatDoor.S
