/- Names of atoms, made of letters and numbers. -/
import Derived.Test.YtfjedhmffccgnaaGreatDoorT6
import Derived.Test.YtfjedhmffccgnaaGreatDoorSgSpec
namespace Go.Proofs.YtfjedhmffccgnaaGreatDoor.S
set_option maxRecDepth 100000
open Go.RowKit
def iV (n : Nat) : Value := .int .i64 (n : Nat)
theorem V1.sliceSr {C : Ctx} {e : Env} {L : List Blk} {dst : Option Tmp} {ty : TypeId} {pos : String} {after : Array Edge} {guard : Option (Nat × Bool)} {t : TypeId} {x : Operand} {lo hi : Option Operand} {s r : ByteArray} {l h : Int} (hT : C.P.underlying t = some .string) (hx : ev C.n e x = .string s) (hl : bd C.n e lo 0 = some l) (hh : bd C.n e hi s.size = some h) (h0 : 0 ≤ l) (h1 : l ≤ h) (h2 : h ≤ s.size) (hr : s.extract l.toNat h.toNat = r) : V1 C ⟨dst, .slice t x lo hi none, ty, pos, after, guard⟩ e L (.string r) := hr ▸ V1.sliceS hT hx hl hh h0 h1 h2
theorem V1.addSr {C : Ctx} {e : Env} {L : List Blk} {dst : Option Tmp} {ty : TypeId} {pos : String} {after : Array Edge} {guard : Option (Nat × Bool)} {t yt : TypeId} {x y : Operand} {a b r : List UInt8} (hx : ev C.n e x = .string (bstr a)) (hy : ev C.n e y = .string (bstr b)) (h : a.length + b.length < 2 ^ 63) (hr : a ++ b = r) : V1 C ⟨dst, .binOp .add t x y yt, ty, pos, after, guard⟩ e L (.string (bstr r)) := by
 have e1 : bstr a ++ bstr b = bstr r := by rw [← hr]; apply ByteArray.ext; simp [bstr]
 rw [← e1]
 exact V1.addS hx hy (by show a.toArray.size + b.toArray.size < _; simpa using h)
def sDig : ByteArray := ⟨#[48, 49, 50, 51, 52, 53, 54, 55, 56, 57, 97, 98, 99, 100, 101, 102, 103, 104, 105, 106, 107, 108, 109, 110, 111, 112, 113, 114, 115, 116, 117, 118, 119, 120, 121, 122]⟩
def sDig2 : ByteArray := ⟨((List.range 100).flatMap fun n => [UInt8.ofNat (48 + n / 10), UInt8.ofNat (48 + n % 10)]).toArray⟩
theorem dig1 : ∀ n < 10, sDig.extract ((n : Nat) : Int).toNat (((n + 1 : Nat) : Int)).toNat = bstr (dgN n) := by decide +kernel
theorem dig2 : ∀ n < 100, 10 ≤ n → sDig2.extract (((n * 2 : Nat) : Int)).toNat (((n * 2 + 2 : Nat) : Int)).toNat = bstr (dgN n) := by decide +kernel
theorem dgN_len (n : Nat) : (dgN n).length ≤ 2 := by unfold dgN; split <;> simp
theorem nmb_take {l : List UInt8} {ns : List Nat} {i n : Nat} (h : ns[i]? = some n) : nmb l (ns.take (i + 1)) = nmb l (ns.take i) ++ (dgN n ++ [120]) := by
 unfold nmb; rw [List.take_add_one, h, List.flatMap_append, List.append_assoc]; simp
theorem nmb_len (l : List UInt8) (ns : List Nat) : (nmb l ns).length ≤ l.length + 3 * ns.length := by
 unfold nmb
 rw [List.length_append]
 have := len_flatMap (fun n => dgN n ++ [120]) 3 ns fun n _ => by have := dgN_len n; rw [List.length_append, List.length_singleton]; omega
 omega
theorem small_any (w0 : World) (n : Nat) (hn : n < 100) : FnV P 133 [iV n] w0 [] (fun v => v = .string (bstr (dgN n))) := by
 refine FnV.of 15 [.tmp 2] Go.Proofs.Tryz.func133 rfl rfl rfl rfl (fun G hG => ?_)
 refine zs ?_
 refine zc (T1.ltI_split rfl rfl (fun h1 => ?_) (fun h1 => ?_))
 ·
  refine TL.nil ?_
  refine T.cond_t rfl (zs ?_)
  refine z0 (V1.add (c := ((n + 1 : Nat) : Int)) rfl rfl z_J) ?_
  refine zq (V1.sliceSr (s := sDig) (l := ((n : Nat) : Int)) (h := ((n + 1 : Nat) : Int)) ty_9 rfl rfl rfl zw zw (by show _ ≤ ((36 : Nat) : Int); omega) (dig1 n zw)) ?_
  exact ⟨_, G, _, .cons (.tmp z_C) .nil, z_B, rfl, rfl⟩
 ·
  refine TL.nil ?_
  refine T.cond_f rfl (zs ?_)
  refine zq (V1.mul (c := ((n * 2 : Nat) : Int)) rfl rfl z_J) ?_
  refine z0 (V1.mul (c := ((n * 2 : Nat) : Int)) rfl rfl z_J) ?_
  refine z0 (V1.add (c := ((n * 2 + 2 : Nat) : Int)) rfl rfl z_J) ?_
  refine zq (V1.sliceSr (s := sDig2) (l := ((n * 2 : Nat) : Int)) (h := ((n * 2 + 2 : Nat) : Int)) ty_9 (show _ = Value.string sDig2 from congrArg Value.string z_F) rfl rfl zw zw (by rw [show sDig2.size = 200 by decide +kernel]; omega) (dig2 n zw zw)) ?_
  exact ⟨_, G, _, .cons (.tmp z_C) .nil, z_B, rfl, rfl⟩
theorem FormatInt_any (w0 : World) (n : Nat) (hn : n < 100) : FnV P 130 [iV n, .int .i64 10] w0 [] (fun v => v = .string (bstr (dgN n))) := by
 refine FnV.of 54 [.tmp 4] Go.Proofs.Tryz.func130 rfl rfl rfl rfl (fun G hG => ?_)
 refine zs ?_
 refine z0 (V1.eqI rfl rfl (decide_eq_true zw)) ?_
 refine TL.nil ?_
 refine T.cond_t rfl (zs ?_)
 refine zq (V1.leI (r := true) rfl rfl (decide_eq_true zw)) ?_
 refine zq (V1.ltI (r := true) rfl rfl (decide_eq_true zw)) ?_
 refine T.cond_t rfl (zs ?_)
 refine zc (T1.callV has_133 rfl rfl (small_any w0 n hn) z_D (fun v_ hv => ?_))
 obtain rfl := hv
 refine zs ?_
 exact ⟨_, G, _, .cons (.tmp z_C) .nil, z_B, rfl, rfl⟩
theorem Itoa0_any (w0 : World) (n : Nat) (hn : n < 100) : FnV P 114 [iV n] w0 [] (fun v => v = .string (bstr (dgN n))) := by
 refine FnV.of 5 [.tmp 2] Go.Proofs.Tryz.func114 rfl rfl rfl rfl (fun G hG => ?_)
 refine zs ?_
 refine zc (T1.callV has_130 rfl rfl (FormatInt_any w0 n hn) z_D (fun v_ hv => ?_))
 obtain rfl := hv
 refine zs ?_
 exact ⟨_, G, _, .cons (.tmp z_C) .nil, z_B, rfl, rfl⟩
theorem Itoa_any (w0 : World) (n : Nat) (hn : n < 100) : FnV P 72 [iV n] w0 [] (fun v => v = .string (bstr (dgN n))) := by
 refine FnV.of 5 [.tmp 2] Go.Proofs.Tryz.func72 rfl rfl rfl rfl (fun G hG => ?_)
 refine zs ?_
 refine zc (T1.callV has_114 rfl rfl (Itoa0_any w0 n hn) z_D (fun v_ hv => ?_))
 obtain rfl := hv
 refine zs ?_
 exact ⟨_, G, _, .cons (.tmp z_C) .nil, z_B, rfl, rfl⟩
theorem number_us (w0 : World) (Ps : List Blk) (l : List UInt8) (hl : l.length ≤ 1000) {ns : List Nat} {a : Option Addr} {c : Nat} (hr : RowR w0 Ps 1 (.slice a ns.length c) ns.length (ns.map iV)) (hn6 : ns.length ≤ 1000) (h99 : ∀ n ∈ ns, n < 100) : FnV P 35 [.string (bstr l), .slice a ns.length c] w0 Ps (fun v => v = .string (bstr (nmb l ns))) := by
 refine FnV.of 20 [.tmp 4] Go.Proofs.Tryz.func35 rfl rfl rfl rfl (fun G hG => ?_)
 refine zs ?_
 refine zq1 (V1.lenSl ty_25 rfl) ?_
 refine T.block (T.loopL (σ := Nat) (l0 := [(7, _), (8, _)]) (fun x => [(9, .int .i64 (x : Nat)), (0, .string (bstr (nmb l (ns.take x))))]) (fun i L => L = G ∧ i ≤ ns.length) (fun i => ns.length - i) 0 (.cons rfl (.cons (by show Value.string _ = Value.string _; simp [nmb]) .nil)) zT z_B (⟨rfl, Nat.zero_le _⟩) ?_)
 rintro i e_ L ⟨hL, hi⟩
 obtain rfl := hL.symm
 have hnl := nmb_len l (ns.take i)
 rw [List.length_take, Nat.min_eq_left hi] at hnl
 refine zs ?_
 refine zc (T1.ltI_split rfl rfl (fun h2 => ?_) (fun h2 => ?_))
 ·
  obtain ⟨n, hx0⟩ : ∃ n, ns[i]? = some n := ⟨_, List.getElem?_eq_getElem zw⟩
  have hn := h99 n (List.mem_of_getElem? hx0)
  have hd := dgN_len n
  obtain ⟨b, o, rfl, hrd⟩ := hr.at zw P
  refine zs ?_
  refine T.cond_t rfl (zs ?_)
  refine z0 (V1.indexAddrS ty_25 sz_3 rfl rfl zw zw) ?_
  refine zc (V1.t (V1.load1 (v := iV n) one_3 rfl (show Rd _ _ ⟨_, _ + i * 1, none⟩ _ from by rw [Nat.mul_one]; exact hrd _ rfl rfl _ z_D i _ (by rw [List.getElem?_map, hx0]; rfl))) ?_)
  refine zs ?_
  refine zc (T1.callV has_72 rfl rfl (Itoa_any w0 n hn) z_D (fun v_ hv => ?_))
  obtain rfl := hv
  refine z0 (V1.addSr (a := dgN n) (b := [120]) rfl rfl (by simp; omega) rfl) ?_
  refine zq (V1.addSr (a := nmb l (ns.take i)) (b := dgN n ++ [120]) rfl rfl (by rw [List.length_append, List.length_singleton]; omega) rfl) ?_
  refine zq1 (V1.add (c := ((i + 1 : Nat) : Int)) rfl rfl z_J) ?_
  exact ⟨i + 1, G, _, z_N, (.cons rfl (.cons (by show Value.string _ = Value.string _; rw [nmb_take hx0]) .nil)), (.cons rfl (.cons rfl .nil)), z_B, ⟨rfl, by omega⟩⟩
 ·
  obtain rfl : i = ns.length := by omega
  rw [List.take_length] at *
  refine zs ?_
  refine T.cond_f rfl (zs ?_)
  exact ⟨_, G, _, .cons (.tmp z_C) .nil, z_B, rfl, rfl⟩
theorem number_any (w0 : World) (Ps : List Blk) (l : List UInt8) (hl : l.length ≤ 1000) {ns : List Nat} {a : Option Addr} {c k : Nat} (hk : k = ns.length) (hr : RowR w0 Ps 1 (.slice a k c) k (ns.map iV)) (hn6 : ns.length ≤ 1000) (h99 : ∀ n ∈ ns, n < 100) : FnV P 35 [.string (bstr l), .slice a k c] w0 Ps (fun v => v = .string (bstr (nmb l ns))) := by subst hk; exact number_us w0 Ps l hl hr hn6 h99
theorem own_any (w0 : World) (n : Nat) (hn : n < 100) : FnV P 12 [iV n] w0 [] (fun v => v = .agg ([.int .i64 1, .string (bstr (nmb sOwn [n])), .slice none 0 0]).toArray) := by
 refine FnV.of 7 [.cell 2 32] Go.Proofs.Tryz.func12 rfl rfl rfl rfl (fun G hG => ?_)
 refine zs ?_
 refine zc (T1.allocN 3 zr_32 rfl (fun b2 => zs ?_))
 refine zc (T1.buildSl1 (os := [.tmp 3]) ty_25 sz_3 zr_3 ze rfl (.cons (v := iV n) rfl .nil) rfl (ones rfl) (fun b4 => ?_))
 refine zc (T1.callV has_35 rfl rfl (number_any w0 [⟨b4, 0, [iV n], 1⟩] sOwn ze (ns := [n]) rfl (zf) (by simp) z_O) z_D (fun v_ hv => ?_))
 obtain rfl := hv
 refine zc (T1.callV has_34 rfl rfl (Of_any w0 [] (nmb sOwn [n])) z_D (fun v_ hv => ?_))
 obtain rfl := hv
 refine zc (T1.storeN rfl rfl sz_32 (ones rfl) z_H zr zr ?_)
 refine zs ?_
 exact ⟨_, G, _, .cons (.cellN z_C one_32 sz_32 (RdN.whole z_A) zr) .nil, z_B, rfl, rfl⟩
theorem link_any (w0 : World) (n e : Nat) (hn : n < 100) (he : e < 100) : FnV P 40 [iV n, iV e] w0 [] (fun v => v = .agg ([.int .i64 1, .string (bstr (nmb sLink [n, e])), .slice none 0 0]).toArray) := by
 refine FnV.of 10 [.cell 4 32] Go.Proofs.Tryz.func40 rfl rfl rfl rfl (fun G hG => ?_)
 refine zs ?_
 refine zc (T1.allocN 3 zr_32 rfl (fun b4 => zs ?_))
 refine zc (T1.buildSl1 (os := [.tmp 5, .tmp 6]) ty_25 sz_3 zr_3 ze rfl (.cons (v := iV n) rfl (.cons (v := iV e) rfl .nil)) rfl (ones rfl) (fun b7 => ?_))
 refine zc (T1.callV has_35 rfl rfl (number_any w0 [⟨b7, 0, [iV n, iV e], 2⟩] sLink ze (ns := [n, e]) rfl (zf) (by simp) z_O) z_D (fun v_ hv => ?_))
 obtain rfl := hv
 refine zc (T1.callV has_34 rfl rfl (Of_any w0 [] (nmb sLink [n, e])) z_D (fun v_ hv => ?_))
 obtain rfl := hv
 refine zc (T1.storeN rfl rfl sz_32 (ones rfl) z_H zr zr ?_)
 refine zs ?_
 exact ⟨_, G, _, .cons (.cellN z_C one_32 sz_32 (RdN.whole z_A) zr) .nil, z_B, rfl, rfl⟩
theorem one_any (w0 : World) (k : Int) (nm : ByteArray) (a : Option Addr) (n c : Nat) : FnV P 11 [.int .i64 k, .string nm, .slice a n c] w0 [] (fun v => v = .agg [.int .i64 k, .string nm, .slice a n c].toArray) := by
 refine FnV.of 11 [.cell 6 32] Go.Proofs.Tryz.func11 rfl rfl rfl rfl (fun G hG => ?_)
 refine zs ?_
 refine zc (T1.allocN 3 zr_32 rfl (fun b6 => zs ?_))
 refine z0 (V1.buildF pl_32 zr_32 (.one rfl z_C rfl (.one rfl z_C rfl (.one rfl z_C rfl .nil))) z_I) ?_
 refine zc (T1.storeN rfl rfl sz_32 (ones rfl) z_H zr zr ?_)
 refine zs ?_
 exact ⟨_, G, _, .cons (.cellN z_C one_32 sz_32 (RdN.whole z_A) zr) .nil, z_B, rfl, rfl⟩
theorem pair_any (w0 : World) (Ps : List Blk) (a b : Nat) (ha : a < 100) (hb : b < 100) : FnG P 39 [iV a, iV b] w0 Ps [] (fun v Y => ∃ cy, v = .agg cy.toArray ∧ TmR w0 (Y ++ Ps) (pairT a b) cy) := by
 refine FnG.of 15 [.cell 4 32] Go.Proofs.Tryz.func39 rfl rfl rfl rfl (fun G hG => ?_)
 refine zs ?_
 refine zc (T1.allocN 3 zr_32 rfl (fun b4 => zs ?_))
 refine zc (T1.callV has_12 rfl rfl (own_any w0 a ha) z_D (fun v_ hv => ?_))
 obtain rfl := hv
 refine zs ?_
 refine zc (T1.callV has_12 rfl rfl (own_any w0 b hb) z_D (fun v_ hv => ?_))
 obtain rfl := hv
 refine zc (T1.buildOne (cs := [.int .i64 1, .string (bstr (nmb sOwn [b])), .slice none 0 0]) ty_24 sz_32 zr_32 ze rfl zr (fun b9 => ?_))
 refine zc (T1.callV has_11 rfl rfl (one_any w0 _ _ _ _ _) z_D (fun v_ hv => ?_))
 obtain rfl := hv
 refine zc (T1.buildTwo (cs := [.int .i64 1, .string (bstr (nmb sOwn [a])), .slice none 0 0]) (ds := [.int .i64 5, .string (bstr []), .slice (some ⟨b9, 0, none⟩) 1 1]) ty_24 sz_32 zr_32 ze rfl rfl zr zr (fun b11 => ?_))
 refine zc (T1.callV has_11 rfl rfl (one_any w0 _ _ _ _ _) z_D (fun v_ hv => ?_))
 obtain rfl := hv
 refine zc (T1.buildOne (cs := [.int .i64 7, .string (bstr []), .slice (some ⟨b11, 0, none⟩) 2 2]) ty_24 sz_32 zr_32 ze rfl zr (fun b13 => ?_))
 refine zc (T1.callV has_11 rfl rfl (one_any w0 _ _ _ _ _) z_D (fun v_ hv => ?_))
 obtain rfl := hv
 refine zc (T1.storeN rfl rfl sz_32 (ones rfl) z_H zr zr ?_)
 refine zs ?_
 have hm9 : (⟨⟨b9, some 32⟩, 0, [.int .i64 1, .string (bstr (nmb sOwn [b])), .slice none 0 0], 3⟩ : Blk) ∈ [⟨⟨b13, some 32⟩, 0, [.int .i64 7, .string (bstr []), .slice (some ⟨b11, 0, none⟩) 2 2], 3⟩, ⟨⟨b11, some 32⟩, 0, [.int .i64 1, .string (bstr (nmb sOwn [a])), .slice none 0 0] ++ [.int .i64 5, .string (bstr []), .slice (some ⟨b9, 0, none⟩) 1 1], 2 * 3⟩, ⟨⟨b9, some 32⟩, 0, [.int .i64 1, .string (bstr (nmb sOwn [b])), .slice none 0 0], 3⟩] ++ Ps := by simp
 have hm11 : (⟨⟨b11, some 32⟩, 0, [.int .i64 1, .string (bstr (nmb sOwn [a])), .slice none 0 0] ++ [.int .i64 5, .string (bstr []), .slice (some ⟨b9, 0, none⟩) 1 1], 2 * 3⟩ : Blk) ∈ [⟨⟨b13, some 32⟩, 0, [.int .i64 7, .string (bstr []), .slice (some ⟨b11, 0, none⟩) 2 2], 3⟩, ⟨⟨b11, some 32⟩, 0, [.int .i64 1, .string (bstr (nmb sOwn [a])), .slice none 0 0] ++ [.int .i64 5, .string (bstr []), .slice (some ⟨b9, 0, none⟩) 1 1], 2 * 3⟩, ⟨⟨b9, some 32⟩, 0, [.int .i64 1, .string (bstr (nmb sOwn [b])), .slice none 0 0], 3⟩] ++ Ps := by simp
 have hm13 : (⟨⟨b13, some 32⟩, 0, [.int .i64 7, .string (bstr []), .slice (some ⟨b11, 0, none⟩) 2 2], 3⟩ : Blk) ∈ [⟨⟨b13, some 32⟩, 0, [.int .i64 7, .string (bstr []), .slice (some ⟨b11, 0, none⟩) 2 2], 3⟩, ⟨⟨b11, some 32⟩, 0, [.int .i64 1, .string (bstr (nmb sOwn [a])), .slice none 0 0] ++ [.int .i64 5, .string (bstr []), .slice (some ⟨b9, 0, none⟩) 1 1], 2 * 3⟩, ⟨⟨b9, some 32⟩, 0, [.int .i64 1, .string (bstr (nmb sOwn [b])), .slice none 0 0], 3⟩] ++ Ps := by simp
 have h5 : TmR w0 ([⟨⟨b13, some 32⟩, 0, [.int .i64 7, .string (bstr []), .slice (some ⟨b11, 0, none⟩) 2 2], 3⟩, ⟨⟨b11, some 32⟩, 0, [.int .i64 1, .string (bstr (nmb sOwn [a])), .slice none 0 0] ++ [.int .i64 5, .string (bstr []), .slice (some ⟨b9, 0, none⟩) 1 1], 2 * 3⟩, ⟨⟨b9, some 32⟩, 0, [.int .i64 1, .string (bstr (nmb sOwn [b])), .slice none 0 0], 3⟩] ++ Ps) (pub (ownT b)) [.int .i64 5, .string (bstr []), .slice (some ⟨b9, 0, none⟩) 1 1] := TmR.mkN (nm := []) (n := 1) rfl (RowR.own hm9 rfl) ze (TmsR.one TmR.atom)
 have h7 : TmR w0 ([⟨⟨b13, some 32⟩, 0, [.int .i64 7, .string (bstr []), .slice (some ⟨b11, 0, none⟩) 2 2], 3⟩, ⟨⟨b11, some 32⟩, 0, [.int .i64 1, .string (bstr (nmb sOwn [a])), .slice none 0 0] ++ [.int .i64 5, .string (bstr []), .slice (some ⟨b9, 0, none⟩) 1 1], 2 * 3⟩, ⟨⟨b9, some 32⟩, 0, [.int .i64 1, .string (bstr (nmb sOwn [b])), .slice none 0 0], 3⟩] ++ Ps) (.mk 7 [] [ownT a, pub (ownT b)]) [.int .i64 7, .string (bstr []), .slice (some ⟨b11, 0, none⟩) 2 2] := TmR.mkN (nm := []) (n := 2) rfl (RowR.own hm11 rfl) ze (TmsR.cons TmR.atom (TmsR.one h5))
 exact ⟨_, ⟨⟨b13, some 32⟩, 0, [.int .i64 7, .string (bstr []), .slice (some ⟨b11, 0, none⟩) 2 2], 3⟩ :: ⟨⟨b11, some 32⟩, 0, [.int .i64 1, .string (bstr (nmb sOwn [a])), .slice none 0 0] ++ [.int .i64 5, .string (bstr []), .slice (some ⟨b9, 0, none⟩) 1 1], 2 * 3⟩ :: ⟨⟨b9, some 32⟩, 0, [.int .i64 1, .string (bstr (nmb sOwn [b])), .slice none 0 0], 3⟩ :: G, _, .cons (.cellN z_C one_32 sz_32 (RdN.whole z_A) zr) .nil, z_B, [⟨⟨b13, some 32⟩, 0, [.int .i64 7, .string (bstr []), .slice (some ⟨b11, 0, none⟩) 2 2], 3⟩, ⟨⟨b11, some 32⟩, 0, [.int .i64 1, .string (bstr (nmb sOwn [a])), .slice none 0 0] ++ [.int .i64 5, .string (bstr []), .slice (some ⟨b9, 0, none⟩) 1 1], 2 * 3⟩, ⟨⟨b9, some 32⟩, 0, [.int .i64 1, .string (bstr (nmb sOwn [b])), .slice none 0 0], 3⟩], rfl, _, rfl, TmR.mkN (nm := sPair) (n := 1) rfl (RowR.own hm13 rfl) ze (TmsR.one h7)⟩
end Go.Proofs.YtfjedhmffccgnaaGreatDoor.S
