/- Names of atoms, made of letters and numbers. -/
import Derived.Test.YtlpkcbkflfbclaaGreatDoorT6
import Derived.Test.YtlpkcbkflfbclaaGreatDoorSgSpec
namespace Go.Proofs.YtlpkcbkflfbclaaGreatDoor.S
open Go.RowKit

def iV (n : Nat) : Value := .int .i64 (n : Nat)
theorem V1.sliceSr {C : Ctx} {e : Env} {L : List Blk} {dst : Option Tmp} {ty : TypeId} {pos : String} {after : Array Edge} {guard : Option (Nat × Bool)} {t : TypeId} {x : Operand} {lo hi : Option Operand} {s r : ByteArray} {l h : Int} (hT : C.P.underlying t = some .string) (hx : ev C.n e x = .string s) (hl : bd C.n e lo 0 = some l) (hh : bd C.n e hi s.size = some h) (h0 : 0 ≤ l) (h1 : l ≤ h) (h2 : h ≤ s.size) (hr : s.extract l.toNat h.toNat = r) : V1 C ⟨dst, .slice t x lo hi none, ty, pos, after, guard⟩ e L (.string r) := hr ▸ V1.sliceS hT hx hl hh h0 h1 h2
theorem V1.addSr {C : Ctx} {e : Env} {L : List Blk} {dst : Option Tmp} {ty : TypeId} {pos : String} {after : Array Edge} {guard : Option (Nat × Bool)} {t yt : TypeId} {x y : Operand} {a b r : List UInt8} (hx : ev C.n e x = .string (bstr a)) (hy : ev C.n e y = .string (bstr b)) (h : a.length + b.length < 2 ^ 63) (hr : a ++ b = r) : V1 C ⟨dst, .binOp .add t x y yt, ty, pos, after, guard⟩ e L (.string (bstr r)) := by
  have e1 : bstr a ++ bstr b = bstr r := by rw [← hr]; apply ByteArray.ext; simp [bstr]
  rw [← e1]
  exact V1.addS hx hy (by show a.toArray.size + b.toArray.size < _; simpa using h)
def sDig : ByteArray := ⟨#[48, 49, 50, 51, 52, 53, 54, 55, 56, 57, 97, 98, 99, 100, 101, 102, 103, 104, 105, 106, 107, 108, 109, 110, 111, 112, 113, 114, 115, 116, 117, 118, 119, 120, 121, 122]⟩
def sDig2 : ByteArray := ⟨((List.range 100).flatMap fun n => [UInt8.ofNat (48 + n / 10), UInt8.ofNat (48 + n % 10)]).toArray⟩
theorem dig1 : ∀ n < 10, sDig.extract ((n : Nat) : Int).toNat (((n + 1 : Nat) : Int)).toNat = bstr (dgN n) := by decide +kernel
theorem dig2 : ∀ n < 100, 10 ≤ n → sDig2.extract (((n * 2 : Nat) : Int)).toNat (((n * 2 + 2 : Nat) : Int)).toNat = bstr (dgN n) := by decide +kernel
theorem dgN_len (n : Nat) : (dgN n).length ≤ 2 := by unfold dgN; split <;> simp
theorem nmb_take {l : List UInt8} {ns : List Nat} {i n : Nat} (h : ns[i]? = some n) : nmb l (ns.take (i + 1)) = nmb l (ns.take i) ++ (dgN n ++ [120]) := by
  unfold nmb; rw [List.take_add_one, h, List.flatMap_append, List.append_assoc]; simp
theorem nmb_len (l : List UInt8) (ns : List Nat) : (nmb l ns).length ≤ l.length + 3 * ns.length := by
  unfold nmb
  rw [List.length_append]
  have := len_flatMap (fun n => dgN n ++ [120]) 3 ns fun n _ => by have := dgN_len n; rw [List.length_append, List.length_singleton]; omega
  omega

set_option maxRecDepth 100000 in
theorem small_any (w0 : World) (n : Nat) (hn : n < 100) : FnV P 163 [iV n] w0 [] (fun v => v = .string (bstr (dgN n))) := by
  refine FnV.of 15 [.tmp 2] Go.Proofs.Tryz.func163 rfl rfl rfl rfl (fun G hG => ?_)
  refine T.seq ?_
  refine T.region ?_
  refine TL.cons rfl (V1.t (V1.assign' z_C) ?_)
  refine TL.nil ?_
  refine T.seq ?_
  refine T.seq ?_
  refine T.region ?_
  refine TL.cons rfl (V1.t (V1.move' z_C) ?_)
  refine TL.cons rfl (T1.ltI_split rfl rfl (fun h1 => ?_) (fun h1 => ?_))
  ·
    refine TL.nil ?_
    refine T.cond_t rfl ?_
    refine T.seq ?_
    refine T.region ?_
    refine TL.cons rfl (V1.t (V1.move' z_C) ?_)
    refine TL.cons rfl (V1.t (V1.move' z_C) ?_)
    refine TL.cons rfl (V1.t (V1.add (c := ((n + 1 : Nat) : Int)) rfl rfl (by rw [wrap_i64 _ (by omega) (by omega)]; omega)) ?_)
    refine TL.cons rfl (V1.t (V1.sliceSr (s := sDig) (l := ((n : Nat) : Int)) (h := ((n + 1 : Nat) : Int)) ty_9 rfl rfl rfl (by omega) (by omega) (by show _ ≤ ((36 : Nat) : Int); omega) (dig1 n (by omega))) ?_)
    refine TL.cons rfl (V1.t (V1.assign' z_C) ?_)
    refine TL.nil ?_
    refine T.ret ?_
    exact ⟨_, G, _, .cons (.tmp z_C) .nil, z_A, rfl, rfl⟩
  ·
    refine TL.nil ?_
    refine T.cond_f rfl ?_
    refine T.skip ?_
    refine T.seq ?_
    refine T.region ?_
    refine TL.cons rfl (V1.t (V1.move' z_C) ?_)
    refine TL.cons rfl (V1.t (V1.mul (c := ((n * 2 : Nat) : Int)) rfl rfl (by rw [wrap_i64 _ (by omega) (by omega)]; omega)) ?_)
    refine TL.cons rfl (V1.t (V1.move' z_C) ?_)
    refine TL.cons rfl (V1.t (V1.mul (c := ((n * 2 : Nat) : Int)) rfl rfl (by rw [wrap_i64 _ (by omega) (by omega)]; omega)) ?_)
    refine TL.cons rfl (V1.t (V1.add (c := ((n * 2 + 2 : Nat) : Int)) rfl rfl (by rw [wrap_i64 _ (by omega) (by omega)]; omega)) ?_)
    refine TL.cons rfl (V1.t (V1.sliceSr (s := sDig2) (l := ((n * 2 : Nat) : Int)) (h := ((n * 2 + 2 : Nat) : Int)) ty_9 (show _ = Value.string sDig2 from congrArg Value.string (by decide +kernel)) rfl rfl (by omega) (by omega) (by rw [show sDig2.size = 200 by decide +kernel]; omega) (dig2 n (by omega) (by omega))) ?_)
    refine TL.cons rfl (V1.t (V1.assign' z_C) ?_)
    refine TL.nil ?_
    refine T.ret ?_
    exact ⟨_, G, _, .cons (.tmp z_C) .nil, z_A, rfl, rfl⟩

set_option maxRecDepth 100000 in
theorem FormatInt_any (w0 : World) (n : Nat) (hn : n < 100) : FnV P 157 [iV n, .int .i64 10] w0 [] (fun v => v = .string (bstr (dgN n))) := by
  refine FnV.of 54 [.tmp 4] Go.Proofs.Tryz.func157 rfl rfl rfl rfl (fun G hG => ?_)
  refine T.seq ?_
  refine T.region ?_
  refine TL.cons rfl (V1.t (V1.assign' z_C) ?_)
  refine TL.nil ?_
  refine T.seq ?_
  refine T.seq ?_
  refine T.region ?_
  refine TL.cons rfl (V1.t (V1.move' z_C) ?_)
  refine TL.cons rfl (V1.t (V1.eqI rfl rfl (decide_eq_true (by omega))) ?_)
  refine TL.nil ?_
  refine T.cond_t rfl ?_
  refine T.seq ?_
  refine T.seq ?_
  refine T.region ?_
  refine TL.cons rfl (V1.t (V1.move' z_C) ?_)
  refine TL.cons rfl (V1.t (V1.leI (r := true) rfl rfl (decide_eq_true (by omega))) ?_)
  refine TL.cons rfl (V1.t (V1.move' z_C) ?_)
  refine TL.cons rfl (V1.t (V1.move' z_C) ?_)
  refine TL.cons rfl (V1.t (V1.ltI (r := true) rfl rfl (decide_eq_true (by omega))) ?_)
  refine TL.cons rfl (V1.t (V1.pick rfl z_C) ?_)
  refine TL.nil ?_
  refine T.cond_t rfl ?_
  refine T.seq ?_
  refine T.region ?_
  refine TL.cons rfl (V1.t (V1.move' z_C) ?_)
  refine TL.cons rfl (T1.callV has_163 rfl rfl (small_any w0 n hn) z_B (fun v_ hv => ?_))
  obtain rfl := hv
  refine TL.cons rfl (V1.t (V1.assign' z_C) ?_)
  refine TL.nil ?_
  refine T.ret ?_
  exact ⟨_, G, _, .cons (.tmp z_C) .nil, z_A, rfl, rfl⟩

set_option maxRecDepth 100000 in
theorem Itoa0_any (w0 : World) (n : Nat) (hn : n < 100) : FnV P 144 [iV n] w0 [] (fun v => v = .string (bstr (dgN n))) := by
  refine FnV.of 5 [.tmp 2] Go.Proofs.Tryz.func144 rfl rfl rfl rfl (fun G hG => ?_)
  refine T.seq ?_
  refine T.region ?_
  refine TL.cons rfl (V1.t (V1.assign' z_C) ?_)
  refine TL.nil ?_
  refine T.seq ?_
  refine T.region ?_
  refine TL.cons rfl (V1.t (V1.move' z_C) ?_)
  refine TL.cons rfl (T1.callV has_157 rfl rfl (FormatInt_any w0 n hn) z_B (fun v_ hv => ?_))
  obtain rfl := hv
  refine TL.cons rfl (V1.t (V1.assign' z_C) ?_)
  refine TL.nil ?_
  refine T.ret ?_
  exact ⟨_, G, _, .cons (.tmp z_C) .nil, z_A, rfl, rfl⟩

set_option maxRecDepth 100000 in
theorem Itoa_any (w0 : World) (n : Nat) (hn : n < 100) : FnV P 114 [iV n] w0 [] (fun v => v = .string (bstr (dgN n))) := by
  refine FnV.of 5 [.tmp 2] Go.Proofs.Tryz.func114 rfl rfl rfl rfl (fun G hG => ?_)
  refine T.seq ?_
  refine T.region ?_
  refine TL.cons rfl (V1.t (V1.assign' z_C) ?_)
  refine TL.nil ?_
  refine T.seq ?_
  refine T.region ?_
  refine TL.cons rfl (V1.t (V1.move' z_C) ?_)
  refine TL.cons rfl (T1.callV has_144 rfl rfl (Itoa0_any w0 n hn) z_B (fun v_ hv => ?_))
  obtain rfl := hv
  refine TL.cons rfl (V1.t (V1.assign' z_C) ?_)
  refine TL.nil ?_
  refine T.ret ?_
  exact ⟨_, G, _, .cons (.tmp z_C) .nil, z_A, rfl, rfl⟩

set_option maxRecDepth 100000 in
theorem number_us (w0 : World) (Ps : List Blk) (l : List UInt8) (hl : l.length ≤ 1000) {ns : List Nat} {a : Option Addr} {c : Nat} (hr : RowR w0 Ps 1 (.slice a ns.length c) ns.length (ns.map iV)) (hn6 : ns.length ≤ 1000) (h99 : ∀ n ∈ ns, n < 100) : FnV P 79 [.string (bstr l), .slice a ns.length c] w0 Ps (fun v => v = .string (bstr (nmb l ns))) := by
  refine FnV.of 20 [.tmp 4] Go.Proofs.Tryz.func79 rfl rfl rfl rfl (fun G hG => ?_)
  refine T.seq ?_
  refine T.region ?_
  refine TL.cons rfl (V1.t (V1.assign' z_C) ?_)
  refine TL.nil ?_
  refine T.seq ?_
  refine T.seq ?_
  refine T.region ?_
  refine TL.cons rfl (V1.t (V1.move' z_C) ?_)
  refine TL.cons rfl (V1.t (V1.lenSl ty_44 rfl) ?_)
  refine TL.cons rfl (V1.t (V1.move' z_C) ?_)
  refine TL.nil ?_
  refine T.block ?_
  refine T.loopL (σ := Nat) (l0 := [(7, _), (8, _)]) (fun x => [(9, .int .i64 (x : Nat)), (0, .string (bstr (nmb l (ns.take x))))]) (fun i L => L = G ∧ i ≤ ns.length) (fun i => ns.length - i) 0 (.cons rfl (.cons (by show Value.string _ = Value.string _; simp [nmb]) .nil)) (.cons z_C (.cons z_C .nil)) z_A (⟨rfl, Nat.zero_le _⟩) ?_
  rintro i e_ L ⟨hL, hi⟩
  obtain rfl := hL.symm
  have hnl := nmb_len l (ns.take i)
  rw [List.length_take, Nat.min_eq_left hi] at hnl
  refine T.seq ?_
  refine T.region ?_
  refine TL.cons rfl (T1.ltI_split rfl rfl (fun h2 => ?_) (fun h2 => ?_))
  ·
    obtain ⟨n, hx0⟩ : ∃ n, ns[i]? = some n := ⟨_, List.getElem?_eq_getElem (by omega)⟩
    have hn := h99 n (List.mem_of_getElem? hx0)
    have hd := dgN_len n
    obtain ⟨b, o, rfl, hrd⟩ := hr.at (by omega) P
    refine TL.nil ?_
    refine T.seq ?_
    refine T.cond_t rfl ?_
    refine T.skip ?_
    refine T.seq ?_
    refine T.block ?_
    refine T.seq ?_
    refine T.region ?_
    refine TL.cons rfl (V1.t (V1.indexAddrS ty_44 sz_3 rfl rfl (by omega) (by omega)) ?_)
    refine TL.cons rfl (V1.t (V1.load1 (v := iV n) one_3 rfl (show Rd _ _ ⟨_, _ + i * 1, none⟩ _ from by rw [Nat.mul_one]; exact hrd _ rfl rfl _ z_B i _ (by rw [List.getElem?_map, hx0]; rfl))) ?_)
    refine TL.cons rfl (V1.t (V1.assign' z_C) ?_)
    refine TL.nil ?_
    refine T.region ?_
    refine TL.cons rfl (V1.t (V1.move' z_C) ?_)
    refine TL.cons rfl (V1.t (V1.move' z_C) ?_)
    refine TL.cons rfl (T1.callV has_114 rfl rfl (Itoa_any w0 n hn) z_B (fun v_ hv => ?_))
    obtain rfl := hv
    refine TL.cons rfl (V1.t (V1.addSr (a := dgN n) (b := [120]) rfl rfl (by simp; omega) rfl) ?_)
    refine TL.cons rfl (V1.t (V1.addSr (a := nmb l (ns.take i)) (b := dgN n ++ [120]) rfl rfl (by rw [List.length_append, List.length_singleton]; omega) rfl) ?_)
    refine TL.cons rfl (V1.t (V1.assign' z_C) ?_)
    refine TL.nil ?_
    refine T.region ?_
    refine TL.cons rfl (V1.t (V1.add (c := ((i + 1 : Nat) : Int)) rfl rfl (by rw [wrap_i64 _ (by omega) (by omega)]; omega)) ?_)
    refine TL.cons rfl (V1.t (V1.move' z_C) ?_)
    refine TL.nil ?_
    exact ⟨i + 1, G, _, (by simp only; omega), (.cons rfl (.cons (by show Value.string _ = Value.string _; rw [nmb_take hx0]) .nil)), (.cons rfl (.cons rfl .nil)), z_A, ⟨rfl, by omega⟩⟩
  ·
    obtain rfl : i = ns.length := by omega
    rw [List.take_length] at *
    refine TL.nil ?_
    refine T.seq ?_
    refine T.cond_f rfl ?_
    refine T.exit ?_
    refine T.seq ?_
    refine T.region ?_
    refine TL.cons rfl (V1.t (V1.move' z_C) ?_)
    refine TL.cons rfl (V1.t (V1.assign' z_C) ?_)
    refine TL.nil ?_
    refine T.ret ?_
    exact ⟨_, G, _, .cons (.tmp z_C) .nil, z_A, rfl, rfl⟩

theorem number_any (w0 : World) (Ps : List Blk) (l : List UInt8) (hl : l.length ≤ 1000) {ns : List Nat} {a : Option Addr} {c k : Nat} (hk : k = ns.length) (hr : RowR w0 Ps 1 (.slice a k c) k (ns.map iV)) (hn6 : ns.length ≤ 1000) (h99 : ∀ n ∈ ns, n < 100) : FnV P 79 [.string (bstr l), .slice a k c] w0 Ps (fun v => v = .string (bstr (nmb l ns))) := by subst hk; exact number_us w0 Ps l hl hr hn6 h99
set_option maxRecDepth 100000 in
theorem own_any (w0 : World) (n : Nat) (hn : n < 100) : FnV P 45 [iV n] w0 [] (fun v => v = .agg ([.int .i64 1, .string (bstr (nmb sOwn [n])), .slice none 0 0]).toArray) := by
  refine FnV.of 7 [.cell 2 24] Go.Proofs.Tryz.func45 rfl rfl rfl rfl (fun G hG => ?_)
  refine T.seq ?_
  refine T.region ?_
  refine TL.cons rfl (T1.allocN 3 zr_24 rfl (fun b2 => ?_))
  refine TL.nil ?_
  refine T.seq ?_
  refine T.region ?_
  refine TL.cons rfl (V1.t (V1.move' z_C) ?_)
  refine TL.cons rfl (T1.buildSl1 (os := [.tmp 3]) ty_44 sz_3 zr_3 (by decide) rfl (.cons (v := iV n) rfl .nil) rfl (ones rfl) (fun b4 => ?_))
  refine TL.cons rfl (T1.callV has_79 rfl rfl (number_any w0 [⟨b4, 0, [iV n], 1⟩] sOwn (by decide) (ns := [n]) rfl (RowR.own (List.mem_cons_self ..) rfl) (by simp) (by intro x_ hx_; simp only [List.mem_cons, List.not_mem_nil, or_false] at hx_; omega)) z_B (fun v_ hv => ?_))
  obtain rfl := hv
  refine TL.cons rfl (T1.callV has_32 rfl rfl (Of_any w0 [] (nmb sOwn [n])) z_B (fun v_ hv => ?_))
  obtain rfl := hv
  refine TL.cons rfl (T1.storeN rfl rfl sz_24 (ones rfl) z_G (by rfl) (by rfl) ?_)
  refine TL.nil ?_
  refine T.ret ?_
  exact ⟨_, G, _, .cons (.cellN z_C one_24 sz_24 (RdN.whole z_D) (by rfl)) .nil, z_A, rfl, rfl⟩

set_option maxRecDepth 100000 in
theorem link_any (w0 : World) (n e : Nat) (hn : n < 100) (he : e < 100) : FnV P 83 [iV n, iV e] w0 [] (fun v => v = .agg ([.int .i64 1, .string (bstr (nmb sLink [n, e])), .slice none 0 0]).toArray) := by
  refine FnV.of 10 [.cell 4 24] Go.Proofs.Tryz.func83 rfl rfl rfl rfl (fun G hG => ?_)
  refine T.seq ?_
  refine T.region ?_
  refine TL.cons rfl (T1.allocN 3 zr_24 rfl (fun b4 => ?_))
  refine TL.nil ?_
  refine T.seq ?_
  refine T.region ?_
  refine TL.cons rfl (V1.t (V1.move' z_C) ?_)
  refine TL.cons rfl (V1.t (V1.move' z_C) ?_)
  refine TL.cons rfl (T1.buildSl1 (os := [.tmp 5, .tmp 6]) ty_44 sz_3 zr_3 (by decide) rfl (.cons (v := iV n) rfl (.cons (v := iV e) rfl .nil)) rfl (ones rfl) (fun b7 => ?_))
  refine TL.cons rfl (T1.callV has_79 rfl rfl (number_any w0 [⟨b7, 0, [iV n, iV e], 2⟩] sLink (by decide) (ns := [n, e]) rfl (RowR.own (List.mem_cons_self ..) rfl) (by simp) (by intro x_ hx_; simp only [List.mem_cons, List.not_mem_nil, or_false] at hx_; omega)) z_B (fun v_ hv => ?_))
  obtain rfl := hv
  refine TL.cons rfl (T1.callV has_32 rfl rfl (Of_any w0 [] (nmb sLink [n, e])) z_B (fun v_ hv => ?_))
  obtain rfl := hv
  refine TL.cons rfl (T1.storeN rfl rfl sz_24 (ones rfl) z_G (by rfl) (by rfl) ?_)
  refine TL.nil ?_
  refine T.ret ?_
  exact ⟨_, G, _, .cons (.cellN z_C one_24 sz_24 (RdN.whole z_D) (by rfl)) .nil, z_A, rfl, rfl⟩

set_option maxRecDepth 100000 in
theorem one_any (w0 : World) (k : Int) (nm : ByteArray) (a : Option Addr) (n c : Nat) : FnV P 44 [.int .i64 k, .string nm, .slice a n c] w0 [] (fun v => v = .agg [.int .i64 k, .string nm, .slice a n c].toArray) := by
  refine FnV.of 11 [.cell 6 24] Go.Proofs.Tryz.func44 rfl rfl rfl rfl (fun G hG => ?_)
  refine T.seq ?_
  refine T.region ?_
  refine TL.cons rfl (T1.allocN 3 zr_24 rfl (fun b6 => ?_))
  refine TL.nil ?_
  refine T.seq ?_
  refine T.region ?_
  refine TL.cons rfl (V1.t (V1.move' z_C) ?_)
  refine TL.cons rfl (V1.t (V1.move' z_C) ?_)
  refine TL.cons rfl (V1.t (V1.move' z_C) ?_)
  refine TL.cons rfl (V1.t (V1.buildF pl_24 zr_24 (.one rfl z_C rfl (.one rfl z_C rfl (.one rfl z_C rfl .nil))) z_H) ?_)
  refine TL.cons rfl (T1.storeN rfl rfl sz_24 (ones rfl) z_G (by rfl) (by rfl) ?_)
  refine TL.nil ?_
  refine T.ret ?_
  exact ⟨_, G, _, .cons (.cellN z_C one_24 sz_24 (RdN.whole z_D) (by rfl)) .nil, z_A, rfl, rfl⟩

set_option maxRecDepth 100000 in
theorem pair_any (w0 : World) (Ps : List Blk) (a b : Nat) (ha : a < 100) (hb : b < 100) : FnG P 82 [iV a, iV b] w0 Ps [] (fun v Y => ∃ cy, v = .agg cy.toArray ∧ TmR w0 (Y ++ Ps) (pairT a b) cy) := by
  refine FnG.of 15 [.cell 4 24] Go.Proofs.Tryz.func82 rfl rfl rfl rfl (fun G hG => ?_)
  refine T.seq ?_
  refine T.region ?_
  refine TL.cons rfl (T1.allocN 3 zr_24 rfl (fun b4 => ?_))
  refine TL.nil ?_
  refine T.seq ?_
  refine T.region ?_
  refine TL.cons rfl (V1.t (V1.move' z_C) ?_)
  refine TL.cons rfl (T1.callV has_45 rfl rfl (own_any w0 a ha) z_B (fun v_ hv => ?_))
  obtain rfl := hv
  refine TL.cons rfl (V1.t (V1.move' z_C) ?_)
  refine TL.cons rfl (T1.callV has_45 rfl rfl (own_any w0 b hb) z_B (fun v_ hv => ?_))
  obtain rfl := hv
  refine TL.cons rfl (T1.buildOne (cs := [.int .i64 1, .string (bstr (nmb sOwn [b])), .slice none 0 0]) ty_22 sz_24 zr_24 (by decide) rfl (by rfl) (fun b9 => ?_))
  refine TL.cons rfl (T1.callV has_44 rfl rfl (one_any w0 _ _ _ _ _) z_B (fun v_ hv => ?_))
  obtain rfl := hv
  refine TL.cons rfl (T1.buildTwo (cs := [.int .i64 1, .string (bstr (nmb sOwn [a])), .slice none 0 0]) (ds := [.int .i64 5, .string (bstr []), .slice (some ⟨b9, 0, none⟩) 1 1]) ty_22 sz_24 zr_24 (by decide) rfl rfl (by rfl) (by rfl) (fun b11 => ?_))
  refine TL.cons rfl (T1.callV has_44 rfl rfl (one_any w0 _ _ _ _ _) z_B (fun v_ hv => ?_))
  obtain rfl := hv
  refine TL.cons rfl (T1.buildOne (cs := [.int .i64 7, .string (bstr []), .slice (some ⟨b11, 0, none⟩) 2 2]) ty_22 sz_24 zr_24 (by decide) rfl (by rfl) (fun b13 => ?_))
  refine TL.cons rfl (T1.callV has_44 rfl rfl (one_any w0 _ _ _ _ _) z_B (fun v_ hv => ?_))
  obtain rfl := hv
  refine TL.cons rfl (T1.storeN rfl rfl sz_24 (ones rfl) z_G (by rfl) (by rfl) ?_)
  refine TL.nil ?_
  refine T.ret ?_
  have hm9 : (⟨⟨b9, some 24⟩, 0, [.int .i64 1, .string (bstr (nmb sOwn [b])), .slice none 0 0], 3⟩ : Blk) ∈ [⟨⟨b13, some 24⟩, 0, [.int .i64 7, .string (bstr []), .slice (some ⟨b11, 0, none⟩) 2 2], 3⟩, ⟨⟨b11, some 24⟩, 0, [.int .i64 1, .string (bstr (nmb sOwn [a])), .slice none 0 0] ++ [.int .i64 5, .string (bstr []), .slice (some ⟨b9, 0, none⟩) 1 1], 2 * 3⟩, ⟨⟨b9, some 24⟩, 0, [.int .i64 1, .string (bstr (nmb sOwn [b])), .slice none 0 0], 3⟩] ++ Ps := by simp
  have hm11 : (⟨⟨b11, some 24⟩, 0, [.int .i64 1, .string (bstr (nmb sOwn [a])), .slice none 0 0] ++ [.int .i64 5, .string (bstr []), .slice (some ⟨b9, 0, none⟩) 1 1], 2 * 3⟩ : Blk) ∈ [⟨⟨b13, some 24⟩, 0, [.int .i64 7, .string (bstr []), .slice (some ⟨b11, 0, none⟩) 2 2], 3⟩, ⟨⟨b11, some 24⟩, 0, [.int .i64 1, .string (bstr (nmb sOwn [a])), .slice none 0 0] ++ [.int .i64 5, .string (bstr []), .slice (some ⟨b9, 0, none⟩) 1 1], 2 * 3⟩, ⟨⟨b9, some 24⟩, 0, [.int .i64 1, .string (bstr (nmb sOwn [b])), .slice none 0 0], 3⟩] ++ Ps := by simp
  have hm13 : (⟨⟨b13, some 24⟩, 0, [.int .i64 7, .string (bstr []), .slice (some ⟨b11, 0, none⟩) 2 2], 3⟩ : Blk) ∈ [⟨⟨b13, some 24⟩, 0, [.int .i64 7, .string (bstr []), .slice (some ⟨b11, 0, none⟩) 2 2], 3⟩, ⟨⟨b11, some 24⟩, 0, [.int .i64 1, .string (bstr (nmb sOwn [a])), .slice none 0 0] ++ [.int .i64 5, .string (bstr []), .slice (some ⟨b9, 0, none⟩) 1 1], 2 * 3⟩, ⟨⟨b9, some 24⟩, 0, [.int .i64 1, .string (bstr (nmb sOwn [b])), .slice none 0 0], 3⟩] ++ Ps := by simp
  have h5 : TmR w0 ([⟨⟨b13, some 24⟩, 0, [.int .i64 7, .string (bstr []), .slice (some ⟨b11, 0, none⟩) 2 2], 3⟩, ⟨⟨b11, some 24⟩, 0, [.int .i64 1, .string (bstr (nmb sOwn [a])), .slice none 0 0] ++ [.int .i64 5, .string (bstr []), .slice (some ⟨b9, 0, none⟩) 1 1], 2 * 3⟩, ⟨⟨b9, some 24⟩, 0, [.int .i64 1, .string (bstr (nmb sOwn [b])), .slice none 0 0], 3⟩] ++ Ps) (pub (ownT b)) [.int .i64 5, .string (bstr []), .slice (some ⟨b9, 0, none⟩) 1 1] := TmR.mkN (nm := []) (n := 1) rfl (RowR.own hm9 rfl) (by decide) (TmsR.one TmR.atom)
  have h7 : TmR w0 ([⟨⟨b13, some 24⟩, 0, [.int .i64 7, .string (bstr []), .slice (some ⟨b11, 0, none⟩) 2 2], 3⟩, ⟨⟨b11, some 24⟩, 0, [.int .i64 1, .string (bstr (nmb sOwn [a])), .slice none 0 0] ++ [.int .i64 5, .string (bstr []), .slice (some ⟨b9, 0, none⟩) 1 1], 2 * 3⟩, ⟨⟨b9, some 24⟩, 0, [.int .i64 1, .string (bstr (nmb sOwn [b])), .slice none 0 0], 3⟩] ++ Ps) (.mk 7 [] [ownT a, pub (ownT b)]) [.int .i64 7, .string (bstr []), .slice (some ⟨b11, 0, none⟩) 2 2] := TmR.mkN (nm := []) (n := 2) rfl (RowR.own hm11 rfl) (by decide) (TmsR.cons TmR.atom (TmsR.one h5))
  exact ⟨_, ⟨⟨b13, some 24⟩, 0, [.int .i64 7, .string (bstr []), .slice (some ⟨b11, 0, none⟩) 2 2], 3⟩ :: ⟨⟨b11, some 24⟩, 0, [.int .i64 1, .string (bstr (nmb sOwn [a])), .slice none 0 0] ++ [.int .i64 5, .string (bstr []), .slice (some ⟨b9, 0, none⟩) 1 1], 2 * 3⟩ :: ⟨⟨b9, some 24⟩, 0, [.int .i64 1, .string (bstr (nmb sOwn [b])), .slice none 0 0], 3⟩ :: G, _, .cons (.cellN z_C one_24 sz_24 (RdN.whole z_D) (by rfl)) .nil, z_A, [⟨⟨b13, some 24⟩, 0, [.int .i64 7, .string (bstr []), .slice (some ⟨b11, 0, none⟩) 2 2], 3⟩, ⟨⟨b11, some 24⟩, 0, [.int .i64 1, .string (bstr (nmb sOwn [a])), .slice none 0 0] ++ [.int .i64 5, .string (bstr []), .slice (some ⟨b9, 0, none⟩) 1 1], 2 * 3⟩, ⟨⟨b9, some 24⟩, 0, [.int .i64 1, .string (bstr (nmb sOwn [b])), .slice none 0 0], 3⟩], rfl, _, rfl, TmR.mkN (nm := sPair) (n := 1) rfl (RowR.own hm13 rfl) (by decide) (TmsR.one h7)⟩

end Go.Proofs.YtlpkcbkflfbclaaGreatDoor.S
