/- Numbers in words of 32 bits: of bytes, as bytes, which is less. -/
import Derived.Test.YtfjedhmffccgnaaGreatDoorH4
namespace Go.Proofs.YtfjedhmffccgnaaGreatDoor.S
set_option maxRecDepth 100000
set_option maxHeartbeats 1000000
open Go.RowKit
open Ed
noncomputable def wsF (k n : Nat) : List (BitVec 32) := lock (ws k n)
theorem wsF_eq (k n : Nat) : wsF k n = ws k n := lock_eq _
theorem wsF_len (k n : Nat) : (wsF k n).length = k := by rw [wsF_eq]; exact ws_len k n
theorem wsF_N (k n : Nat) (h : n < 2 ^ (32 * k)) : wsN (wsF k n) = n := by rw [wsF_eq, wsN_ws, Nat.mod_eq_of_lt h]
attribute [irreducible] wsF
theorem wsF_of {l : List (BitVec 32)} {k n : Nat} (hl : l.length = k) (h : wsN l = n) : l = wsF k n := by rw [wsF_eq, ← ws_wsN l, hl, h]
theorem ws_zero (m n : Nat) : List.replicate m (Value.int .u32 0) = (wsF m (n % 2 ^ (8 * 0))).map w32 := by
 have : List.replicate m 0 = wsF m (n % 2 ^ (8 * 0)) := wsF_of (List.length_replicate ..) (by rw [wsN_zero, Nat.mul_zero, Nat.pow_zero, Nat.mod_one])
 rw [← this, List.map_replicate]; rfl
theorem w32_get {l : List (BitVec 32)} {j : Nat} (h : j < l.length) : (l.map w32)[j]? = some (w32 (l.getD j 0)) := by
 rw [List.getElem?_map, List.getD_eq_getElem?_getD, List.getElem?_eq_getElem h]; rfl
theorem of_ws {p : List UInt8} {m i : Nat} (hi : i < p.length) (hm : i / 4 < m) : (wsF m (leN p % 2 ^ (8 * i))).set (i / 4) ((wsF m (leN p % 2 ^ (8 * i))).getD (i / 4) 0 ||| ((p.getD i 0).toBitVec.setWidth 32) <<< (8 * (i % 4))) = wsF m (leN p % 2 ^ (8 * (i + 1))) := by
 have := ws_byte (n := leN p) hm
 rw [leN_byte hi] at this
 rw [wsF_eq, wsF_eq, ← this]
 congr 3
 exact (BitVec.ofNat_toNat ..).symm
theorem leN_all (p : List UInt8) : leN p % 2 ^ (8 * p.length) = leN p := by
 have := leN_lt p
 rw [show (256 : Nat) = 2 ^ 8 from rfl, ← Nat.pow_mul] at this
 exact Nat.mod_eq_of_lt this
def brw (x y b : BitVec 32) : BitVec 32 := ((~~~x &&& y) ||| (~~~(x ^^^ y) &&& (x - y - b))) >>> 31
theorem msb31 (u : BitVec 32) : (u >>> 31).toNat = if u.msb then 1 else 0 := by
 rw [BitVec.toNat_ushiftRight, Nat.shiftRight_eq_div_pow, BitVec.msb_eq_decide]
 have := u.isLt
 by_cases h : 2 ^ (32 - 1) ≤ u.toNat
 · rw [decide_eq_true h, if_pos rfl]; omega
 · rw [decide_eq_false h, if_neg (by simp)]; omega
theorem brw_spec {x y b : BitVec 32} (hb : b.toNat ≤ 1) : (brw x y b).toNat = if x.toNat < y.toNat + b.toNat then 1 else 0 := by
 unfold brw
 rw [msb31, BitVec.msb_or, BitVec.msb_and, BitVec.msb_and, BitVec.msb_not, BitVec.msb_not, BitVec.msb_xor]
 have hx := x.isLt; have hy := y.isLt
 have e : (x - y - b).toNat = (x.toNat + (2 ^ 32 - y.toNat) + (2 ^ 32 - b.toNat)) % 2 ^ 32 := by rw [BitVec.toNat_sub, BitVec.toNat_sub]; omega
 rw [BitVec.msb_eq_decide x, BitVec.msb_eq_decide y, BitVec.msb_eq_decide (x - y - b), e]
 rw [show decide (0 < 32) = true from rfl, Bool.true_and, Bool.true_and, show ∀ p q r : Bool, ((!p && q) || (!(p ^^ q) && r)) = if p = q then r else q from by decide]
 by_cases h1 : 2 ^ (32 - 1) ≤ x.toNat <;> by_cases h2 : 2 ^ (32 - 1) ≤ y.toNat <;> by_cases h3 : 2 ^ (32 - 1) ≤ (x.toNat + (2 ^ 32 - y.toNat) + (2 ^ 32 - b.toNat)) % 2 ^ 32 <;>
  simp only [h1, h2, h3, decide_true, decide_false, Bool.true_eq_false, Bool.false_eq_true, if_true, if_false] <;> split <;> omega
theorem brw_le {x y b : BitVec 32} (hb : b.toNat ≤ 1) : (brw x y b).toNat ≤ 1 := by rw [brw_spec hb]; split <;> decide
def sum32 (x y c : BitVec 32) : BitVec 64 := x.setWidth 64 + y.setWidth 64 + c.setWidth 64
theorem sum32_nat (x y c : BitVec 32) : (sum32 x y c).toNat = x.toNat + y.toNat + c.toNat := by
 unfold sum32
 have := x.isLt; have := y.isLt; have := c.isLt
 simp only [BitVec.toNat_add, BitVec.toNat_setWidth]; omega
theorem sum32_spec (x y c : BitVec 32) : ((sum32 x y c).setWidth 32).toNat + 4294967296 * ((sum32 x y c >>> 32).setWidth 32).toNat = x.toNat + y.toNat + c.toNat := by
 have e := sum32_nat x y c
 have := x.isLt; have := y.isLt; have := c.isLt
 rw [BitVec.toNat_setWidth, BitVec.toNat_setWidth, BitVec.toNat_ushiftRight, Nat.shiftRight_eq_div_pow, e]; omega
theorem Add32_any (x y c : BitVec 32) (w : World) : Fn P 121 [w32 x, w32 y, w32 c] w [] (fun v Y => Y = [] ∧ v = .tuple #[w32 ((sum32 x y c).setWidth 32), w32 ((sum32 x y c >>> 32).setWidth 32)]) := by
 refine Fn.of 22 [.tmp 6, .tmp 7] Go.Proofs.Tryz.func121 rfl rfl rfl rfl ?_
 refine T.seq (T.region (z0 (V1.assign' (v := w32 0#32) rfl) ?_))
 refine zq (V1.assign' (v := w32 0#32) rfl) ?_
 refine zq (V1.convW 64 u64U ty_37 ty_79 rfl) ?_
 refine z0 (V1.convW 64 u64U ty_37 ty_79 rfl) ?_
 refine zq (V1.addW u64U rfl rfl) ?_
 refine z0 (V1.convW 64 u64U ty_37 ty_79 rfl) ?_
 refine zq (V1.addW u64U rfl rfl) ?_
 refine zq (V1.convW 32 u32U ty_79 ty_37 rfl) ?_
 refine z0 (V1.shrW (k := 32) u64U rfl rfl) ?_
 refine zq (V1.convW 32 u32U ty_79 ty_37 rfl) ?_
 exact ⟨_, [], _, .cons (.tmp z_C) (.cons (.tmp z_C) .nil), Take.nil, rfl, rfl⟩
theorem Sub32_any (x y b : BitVec 32) (w : World) : Fn P 122 [w32 x, w32 y, w32 b] w [] (fun v Y => Y = [] ∧ v = .tuple #[w32 (x - y - b), w32 (brw x y b)]) := by
 refine Fn.of 25 [.tmp 6, .tmp 7] Go.Proofs.Tryz.func122 rfl rfl rfl rfl ?_
 refine T.seq (T.region (z0 (V1.assign' (v := w32 0#32) rfl) ?_))
 refine zq (V1.assign' (v := w32 0#32) rfl) ?_
 refine zq (V1.subW u32U rfl rfl) ?_
 refine zq (V1.subW u32U rfl rfl) ?_
 refine zq (V1.complW u32U rfl) ?_
 refine zq (V1.andW u32U rfl rfl) ?_
 refine z0 (V1.xorW u32U rfl rfl) ?_
 refine zq (V1.complW u32U rfl) ?_
 refine z0 (V1.andW u32U rfl rfl) ?_
 refine z0 (V1.orW u32U rfl rfl) ?_
 refine zq (V1.shrW (k := 31) u32U rfl rfl) ?_
 exact ⟨_, [], _, .cons (.tmp z_C) (.cons (.tmp z_C) .nil), Take.nil, rfl, rfl⟩
theorem order_ws : ([1559614445#32, 1477600026#32, 2734136534#32, 350157278#32, 0#32, 0#32, 0#32, 268435456#32] : List (BitVec 32)) = wsF 8 Lo := wsF_of rfl z_F
theorem order_any (w0 : World) : FnG P 109 [] w0 [] [] (fun v Y => RowR w0 Y 1 v 8 ((wsF 8 Lo).map w32)) := by
 refine FnG.of 2 [.tmp 0] Go.Proofs.Tryz.func109 rfl rfl rfl rfl (fun G hG => ?_)
 refine zs ?_
 refine zc (T1.buildSl1 (os := [.const (.int .u32 1559614445), .const (.int .u32 1477600026), .const (.int .u32 2734136534), .const (.int .u32 350157278), .const (.int .u32 0), .const (.int .u32 0), .const (.int .u32 0), .const (.int .u32 268435456)]) ty_148 sz_37 zr_37 ze rfl (.cons z_C (.cons z_C (.cons z_C (.cons z_C (.cons z_C (.cons z_C (.cons z_C (.cons z_C .nil)))))))) rfl (ones rfl) (fun b1 => zs ?_))
 exact ⟨_, _ :: G, _, .cons (.tmp z_C) .nil, z_B, [_], rfl, by rw [← order_ws]; exact zf⟩
theorem of_any (w0 : World) (Ps : List Blk) {v : Value} (p : List UInt8) (h : RowR w0 Ps 1 v p.length (p.map byteV)) (hl : p.length ≤ 1000) : FnG P 85 [v] w0 Ps [] (fun v Y => RowR w0 Y 1 v ((p.length + 3) / 4) ((wsF ((p.length + 3) / 4) (leN p)).map w32)) := by
 obtain ⟨a, c, rfl⟩ := h.form
 refine FnG.of 33 [.tmp 2] Go.Proofs.Tryz.func85 rfl rfl rfl rfl (fun G hG => ?_)
 refine zs ?_
 refine z0 (V1.lenSl ty_44 rfl) ?_
 refine z0 (V1.add (c := ((p.length + 3 : Nat) : Int)) rfl rfl z_J) ?_
 refine z0 (V1.quo (c := (((p.length + 3) / 4 : Nat) : Int)) rfl rfl ze (by rw [show (((p.length + 3 : Nat) : Int).tdiv 4) = (((p.length + 3) / 4 : Nat) : Int) from (Int.ofNat_tdiv (p.length + 3) 4).symm]; exact wrap_i64 _ zw zw)) ?_
 refine zc (T1.make1 ((p.length + 3) / 4) ((p.length + 3) / 4) ty_148 sz_37 by_37 zr_37 rfl rfl rfl (Nat.le_refl _) zw zw (fun b10 => zs ?_))
 refine zq1 (V1.lenSl ty_44 rfl) ?_
 refine T.block ?_
 obtain ⟨m, hm⟩ : ∃ m, m = (p.length + 3) / 4 := ⟨_, rfl⟩
 rw [← hm]
 refine T.loopL (σ := Nat) (l0 := [(3, _), (11, _), (12, _)]) (fun x => [(13, .int .i64 (x : Nat))]) (fun x L => L = ⟨b10, 0, (wsF m (leN p % 2 ^ (8 * x))).map w32, m⟩ :: G ∧ x ≤ p.length) (fun x => p.length - x) 0 (.cons rfl .nil) zT z_B (⟨(show (⟨b10, 0, List.replicate m (Value.int .u32 0), m⟩ :: G : List Blk) = ⟨b10, 0, (wsF m (leN p % 2 ^ (8 * 0))).map w32, m⟩ :: G from by rw [ws_zero]), Nat.zero_le _⟩) ?_
 rintro i e_ L ⟨rfl, hi⟩
 refine zs ?_
 refine zc (T1.ltI_split rfl rfl (fun h3 => ?_) (fun h3 => ?_))
 ·
  have hip : i < p.length := by omega
  obtain ⟨bl, ol, rfl, hrd⟩ := h.at zw P
  refine zs ?_
  refine T.cond_t rfl (zs ?_)
  refine z0 (V1.indexAddrS ty_44 sz_5 rfl rfl zw zw) ?_
  refine zq1 (V1.load1 one_5 rfl (show Rd _ _ ⟨bl, ol + i * 1, none⟩ (byteV (p.getD i 0)) from by rw [Nat.mul_one]; exact hrd _ rfl rfl _ z_D i _ (bytes_get hip))) ?_
  refine T.drawTail 13 mixed z_F zr z_F rfl ?_
  refine zd 0 (zO 3 zZ) (V1.move' z_C) ?_
  refine zd 1 (zO 4 zZ) (V1.move' z_C) ?_
  refine zd 2 (zN 19 1 rfl zZ) (V1.quo (c := (((i) / 4 : Nat) : Int)) rfl rfl ze (by rw [show (((i : Nat) : Int).tdiv 4) = (((i) / 4 : Nat) : Int) from (Int.ofNat_tdiv (i) 4).symm]; exact wrap_i64 _ zw zw)) ?_
  refine zd 3 (zN 18 0 rfl (zN 20 2 rfl zZ)) (V1.indexAddrS ty_148 sz_37 rfl rfl zw zw) ?_
  refine Det.cons 4 (zN 21 3 rfl zZ) (fun e_ => .inl ⟨rfl, V1.t (V1.load1 one_37 rfl (show Rd _ _ ⟨b10, 0 + (i / 4) * 1, none⟩ (w32 ((wsF m (leN p % 2 ^ (8 * i))).getD (i / 4) 0)) from by rw [Nat.mul_one]; exact Rd.at z_A (w32_get (by rw [wsF_len]; omega)))) ⟨rfl, rfl⟩⟩) ?_
  refine zd 5 (zO 5 zZ) (V1.move' z_C) ?_
  refine zd 6 (zN 23 5 rfl zZ) (V1.convW 32 u32U ty_5 ty_37 rfl) ?_
  refine zd 7 (zO 4 zZ) (V1.move' z_C) ?_
  refine zd 8 (zN 25 7 rfl zZ) (V1.rem (c := (((i) % 4 : Nat) : Int)) rfl rfl ze (by rw [show (((i : Nat) : Int).tmod 4) = (((i) % 4 : Nat) : Int) from (Int.ofNat_tmod (i) 4).symm])) ?_
  refine zd 9 (zN 26 8 rfl zZ) (V1.mul (c := ((8 * (i % 4) : Nat) : Int)) rfl rfl z_J) ?_
  refine zd 10 (zN 24 6 rfl (zN 27 9 rfl zZ)) (V1.shlW (a := (p.getD i 0).toBitVec.setWidth 32) (k := 8 * (i % 4)) u32U rfl rfl) ?_
  refine zd 11 (zN 22 4 rfl (zN 28 10 rfl zZ)) (V1.orW (a := (wsF m (leN p % 2 ^ (8 * i))).getD (i / 4) 0) (b := ((p.getD i 0).toBitVec.setWidth 32) <<< (8 * (i % 4))) u32U rfl rfl) ?_
  refine zd 12 (zN 18 0 rfl (zN 20 2 rfl zZ)) (V1.indexAddrS ty_148 sz_37 rfl rfl zw zw) ?_
  refine Det.nil 13 (zQ 3 (zQ 11 (zQ 12 (zQ 13 (zR 29 11 rfl (zR 30 12 rfl zW)))))) (fun e_ => ?_)
  refine (show TU _ _ _ 1 _ _ _ from ?_)
  refine TU.one 13 z_F rfl rfl (T1.storeE (o := 0 + (i / 4) * 1) (cells := (wsF m (leN p % 2 ^ (8 * i))).map w32) (cells' := (wsF m (leN p % 2 ^ (8 * (i + 1)))).map w32) rfl rfl sz_37 rfl (by rw [show 0 + (i / 4) * 1 - 0 = i / 4 from by omega, ← of_ws hip (show i / 4 < m by omega), List.map_set]; rfl) z_H (Nat.zero_le _) (by rw [List.length_map, wsF_len]; omega) ?_)
  refine TU.done z_F ?_
  refine T.region (zq1 (V1.add rfl rfl (wrap_i64 _ zw zw)) ?_)
  exact ⟨i + 1, ⟨b10, 0, (wsF m (leN p % 2 ^ (8 * (i + 1)))).map w32, m⟩ :: G, _, z_N, (.cons rfl .nil), (.cons rfl (.cons rfl (.cons rfl .nil))), z_B, ⟨rfl, by omega⟩⟩
 ·
  obtain rfl : i = p.length := by omega
  rw [leN_all]
  refine zs ?_
  refine T.cond_f rfl (zs ?_)
  exact ⟨_, _ :: G, _, .cons (.tmp z_C) .nil, z_B, [_], rfl, RowR.own (List.mem_cons_self ..) (by rw [List.length_map, wsF_len, Nat.mul_one])⟩
theorem bytes_step {l : List (BitVec 32)} {i : Nat} (hl : l.length = 8) (hi : i < 32) : ((leF (wsN l)).take i ++ List.replicate (32 - i) 0).set i (UInt8.ofBitVec (((l.getD (i / 4) 0) >>> (8 * (i % 4))).setWidth 8)) = (leF (wsN l)).take (i + 1) ++ List.replicate (32 - (i + 1)) 0 := by
 have hlen : ((leF (wsN l)).take i).length = i := by rw [List.length_take, leF_len]; omega
 rw [List.set_append, hlen, if_neg zw, Nat.sub_self, show 32 - i = (32 - (i + 1)) + 1 from by omega, List.replicate_succ, List.set_cons_zero, List.take_add_one, List.append_assoc]
 congr 1
 have hb := ws_bytes (l := l) (i := i) zw
 have hg : (leF (wsN l))[i]? = some (UInt8.ofBitVec (((l.getD (i / 4) 0) >>> (8 * (i % 4))).setWidth 8)) := by
  rw [leF_eq, List.getElem?_eq_getElem (by rw [le_len]; exact hi)]
  congr 1
  have := le_getD (k := 32) (n := wsN l) hi
  rw [List.getD_eq_getElem?_getD, List.getElem?_eq_getElem (by rw [le_len]; exact hi)] at this
  simp only [Option.getD_some] at this
  rw [this]
  apply UInt8.toNat_inj.1
  rw [UInt8.toNat_ofNat']
  show _ = (((l.getD (i / 4) 0) >>> (8 * (i % 4))).setWidth 8).toNat
  rw [BitVec.toNat_setWidth]
  exact zw
 rw [hg]; rfl
theorem bytes_any (w0 : World) (Ps : List Blk) {v : Value} (l : List (BitVec 32)) (h : RowR w0 Ps 1 v 8 (l.map w32)) (hl : l.length = 8) : FnV P 89 [v] w0 Ps (fun v => v = .agg ((leF (wsN l)).map byteV).toArray) := by
 obtain ⟨a, c, rfl⟩ := h.form
 obtain ⟨bl, ol, rfl, hrd⟩ := h.at ze P
 refine FnV.of 22 [.cell 2 36] Go.Proofs.Tryz.func89 rfl rfl rfl rfl (fun G hG => ?_)
 refine zs ?_
 refine zc (T1.allocN 32 zr_36 rfl (fun b2 => zs ?_))
 refine zc (T1.allocN 32 zr_36 rfl (fun b3 => ?_))
 refine TL.nil ?_
 refine T.seq (T.seq (T.region (z1 ?_)))
 refine T.block (T.loopL (σ := Nat) (l0 := [(0, _), (2, _), (3, _)]) (fun x => [(5, .int .i64 (x : Nat))]) (fun x L => L = ⟨b3, 0, ((leF (wsN l)).take x ++ List.replicate (32 - x) 0).map byteV, 32⟩ :: ⟨b2, 0, List.replicate 32 (.int .u8 0), 32⟩ :: G ∧ x ≤ 32) (fun x => 32 - x) 0 (.cons rfl .nil) zT z_B (⟨(show (⟨b3, 0, List.replicate 32 (.int .u8 0), 32⟩ :: ⟨b2, 0, List.replicate 32 (.int .u8 0), 32⟩ :: G : List Blk) = ⟨b3, 0, ((leF (wsN l)).take 0 ++ List.replicate (32 - 0) 0).map byteV, 32⟩ :: ⟨b2, 0, List.replicate 32 (.int .u8 0), 32⟩ :: G from by rw [List.take_zero, List.nil_append, Nat.sub_zero, List.map_replicate]; rfl), Nat.zero_le _⟩) ?_)
 rintro i e_ L ⟨rfl, hi⟩
 refine zs ?_
 refine zc (T1.ltI_split rfl rfl (fun h3 => ?_) (fun h3 => ?_))
 ·
  have hip : i < 32 := by omega
  refine zs ?_
  refine T.cond_t rfl (zs ?_)
  refine z0 (V1.quo (c := (((i) / 4 : Nat) : Int)) rfl rfl ze (by rw [show (((i : Nat) : Int).tdiv 4) = (((i) / 4 : Nat) : Int) from (Int.ofNat_tdiv (i) 4).symm]; exact wrap_i64 _ zw zw)) ?_
  refine z0 (V1.indexAddrS ty_148 sz_37 rfl rfl zw zw) ?_
  refine zq (V1.load1 one_37 rfl (show Rd _ _ ⟨bl, ol + (i / 4) * 1, none⟩ (w32 (l.getD (i / 4) 0)) from by rw [Nat.mul_one]; exact hrd _ rfl rfl _ z_D _ _ (w32_get zw))) ?_
  refine z0 (V1.rem (c := (((i) % 4 : Nat) : Int)) rfl rfl ze (by rw [show (((i : Nat) : Int).tmod 4) = (((i) % 4 : Nat) : Int) from (Int.ofNat_tmod (i) 4).symm])) ?_
  refine z0 (V1.mul (c := ((8 * (i % 4) : Nat) : Int)) rfl rfl z_J) ?_
  refine z0 (V1.shrW (a := l.getD (i / 4) 0) (k := 8 * (i % 4)) u32U rfl rfl) ?_
  refine z0 (V1.convW 8 u8U ty_37 ty_5 rfl) ?_
  refine z0 (V1.indexAddrA ty_36 sz_5 rfl rfl zw zw) ?_
  refine zc (T1.storeE (o := 0 + i * 1) (cells := ((leF (wsN l)).take i ++ List.replicate (32 - i) 0).map byteV) (cells' := ((leF (wsN l)).take (i + 1) ++ List.replicate (32 - (i + 1)) 0).map byteV) rfl rfl sz_5 rfl (by rw [show 0 + i * 1 - 0 = i from by omega, ← bytes_step hl hip, List.map_set]; rfl) z_H (Nat.zero_le _) (by rw [List.length_map, List.length_append, List.length_take, leF_len, List.length_replicate]; omega) ?_)
  refine TL.nil ?_
  refine T.live (l := [(0, _), (2, _), (3, _), (5, _)]) zT (fun e_ => ?_)
  refine T.region (zq1 (V1.add rfl rfl (wrap_i64 _ zw zw)) ?_)
  exact ⟨i + 1, ⟨b3, 0, ((leF (wsN l)).take (i + 1) ++ List.replicate (32 - (i + 1)) 0).map byteV, 32⟩ :: ⟨b2, 0, List.replicate 32 (.int .u8 0), 32⟩ :: G, _, z_N, (.cons rfl .nil), (.cons rfl (.cons rfl (.cons rfl .nil))), z_B, ⟨rfl, by omega⟩⟩
 ·
  obtain rfl : i = 32 := by omega
  rw [Nat.sub_self, List.replicate_zero, List.append_nil, List.take_of_length_le (by rw [leF_len]; exact Nat.le_refl _)]
  refine zs ?_
  refine T.cond_f rfl (zs ?_)
  refine z0 (V1.loadN (vs := (leF (wsN l)).map byteV) one_36 sz_36 rfl (RdN.whole z_A) z_M) ?_
  refine zc (T1.storeN rfl rfl sz_36 (one_bytes _) z_H z_Q z_M ?_)
  refine zs ?_
  exact ⟨_, G, _, .cons (.cellN z_C one_36 sz_36 (RdN.whole z_A) z_M) .nil, z_B, rfl, rfl⟩
theorem less_end {a w o : List (BitVec 32)} {c : BitVec 32} (ha : a.length = 8) (hw : w.length = 8) (ho : o.length = 8) (hc : c.toNat ≤ 1) (h : wsN a + wsN (o.take 8) = wsN (w.take 8) + 2 ^ (32 * 8) * c.toNat) : decide ((c.toNat : Int) = ((1#32).toNat : Nat)) = decide (wsN w < wsN o) := by
 rw [List.take_of_length_le zw, List.take_of_length_le (by omega)] at h
 have la := wsN_lt a; rw [ha] at la
 have lw := wsN_lt w; rw [hw] at lw
 have lo := wsN_lt o; rw [ho] at lo
 rw [decide_eq_decide]
 show (c.toNat : Int) = 1 ↔ _
 rcases (show c.toNat = 0 ∨ c.toNat = 1 by omega) with e | e
 · rw [e, Nat.mul_zero] at h; rw [e]; omega
 · rw [e, Nat.mul_one] at h; rw [e]; omega
theorem less_any (w0 : World) (Ps : List Blk) {v u : Value} (l m : List (BitVec 32)) (h : RowR w0 Ps 1 v 8 (l.map w32)) (hl : l.length = 8) (h2 : RowR w0 Ps 1 u 8 (m.map w32)) (hm : m.length = 8) : FnV P 108 [v, u] w0 Ps (fun v => v = .bool (decide (wsN l < wsN m))) := by
 obtain ⟨a_, c_, rfl⟩ := h.form
 obtain ⟨a2_, c2_, rfl⟩ := h2.form
 obtain ⟨bl, ol, rfl, hrd⟩ := h.at ze P
 obtain ⟨bm, om, rfl, hrm⟩ := h2.at ze P
 refine FnV.of 28 [.tmp 4] Go.Proofs.Tryz.func108 rfl rfl rfl rfl (fun G hG => ?_)
 refine T.seq (T.region (z1 ?_))
 refine T.seq (T.region (zq (V1.assign' (v := w32 0#32) rfl) ?_))
 refine zq1 (V1.lenSl ty_148 rfl) ?_
 refine T.block (T.loopL (σ := Nat × List (BitVec 32) × BitVec 32) (l0 := [(0, _), (1, _), (8, _)]) (fun x => [(9, .int .i64 (x.1 : Nat)), (5, w32 x.2.2)]) (fun x L => L = G ∧ x.1 ≤ 8 ∧ x.2.1.length = x.1 ∧ x.2.2.toNat ≤ 1 ∧ wsN x.2.1 + wsN (m.take x.1) = wsN (l.take x.1) + 2 ^ (32 * x.1) * x.2.2.toNat) (fun x => 8 - x.1) (0, [], 0#32) (.cons rfl (.cons rfl .nil)) zT z_B (⟨rfl, Nat.zero_le _, rfl, by decide, rfl⟩) ?_)
 rintro ⟨i, a, c⟩ e_ L ⟨hL, hi, ha, hc, hs⟩
 obtain rfl : G = L := hL.symm
 simp only at hi ha hc hs
 refine zs ?_
 refine zc (T1.ltI_split rfl rfl (fun h3 => ?_) (fun h3 => ?_))
 ·
  have hip : i < 8 := by omega
  refine zs ?_
  refine T.cond_t rfl (T.skip (T.seq (T.block (T.seq (T.region (z1 ?_))))))
  refine T.drawTail 13 mixed z_F zr z_F rfl ?_
  refine zd 0 (zO 0 zZ) (V1.move' z_C) ?_
  refine zd 1 (zO 6 zZ) (V1.move' z_C) ?_
  refine zd 2 (zN 13 0 rfl (zN 14 1 rfl zZ)) (V1.indexAddrS ty_148 sz_37 rfl rfl zw zw) ?_
  refine Det.cons 3 (zN 15 2 rfl zZ) (fun e_ => .inl ⟨rfl, V1.t (V1.load1 one_37 rfl (show Rd _ _ ⟨bl, ol + i * 1, none⟩ (w32 (l.getD i 0)) from by rw [Nat.mul_one]; exact hrd _ rfl rfl _ z_D _ _ (w32_get zw))) ⟨rfl, rfl⟩⟩) ?_
  refine zd 4 (zO 1 zZ) (V1.move' z_C) ?_
  refine zd 5 (zO 6 zZ) (V1.move' z_C) ?_
  refine zd 6 (zN 17 4 rfl (zN 18 5 rfl zZ)) (V1.indexAddrS ty_148 sz_37 rfl rfl zw zw) ?_
  refine Det.cons 7 (zN 19 6 rfl zZ) (fun e_ => .inl ⟨rfl, V1.t (V1.load1 one_37 rfl (show Rd _ _ ⟨bm, om + i * 1, none⟩ (w32 (m.getD i 0)) from by rw [Nat.mul_one]; exact hrm _ rfl rfl _ z_D _ _ (w32_get zw))) ⟨rfl, rfl⟩⟩) ?_
  refine zd 8 (zO 5 zZ) (V1.move' z_C) ?_
  refine Det.cons 9 (v := .tuple #[w32 (l.getD i 0 - m.getD i 0 - c), w32 (brw (l.getD i 0) (m.getD i 0) c)]) (zN 16 3 rfl (zN 20 7 rfl (zN 21 8 rfl zZ))) (fun e_ => .inl ⟨rfl, ?_⟩) ?_
  ·
   refine T1.call0 has_122 rfl (fun w hs => Sub32_any (l.getD i 0) (m.getD i 0) c w) (fun v hv => ?_)
   subst hv
   exact ⟨rfl, rfl⟩
  refine zd 10 (zN 22 9 rfl zZ) (V1.move' z_C) ?_
  refine zd 11 (zN 12 10 rfl zZ) (V1.extract rfl zr) ?_
  refine zd 12 (zN 12 10 rfl zZ) (V1.extract rfl zr) ?_
  refine Det.nil 13 (zQ 0 (zQ 1 (zQ 8 (zQ 9 (zR 24 12 rfl zW))))) (fun e_ => ?_)
  refine (show TU _ _ _ 1 _ _ _ from ?_)
  refine TU.one 13 z_F rfl rfl (V1.t (V1.assign' z_C) ?_)
  refine TU.done z_F ?_
  refine T.region (zq1 (V1.add rfl rfl (wrap_i64 _ zw zw)) ?_)
  exact ⟨(i + 1, a ++ [l.getD i 0 - m.getD i 0 - c], brw (l.getD i 0) (m.getD i 0) c), _, _, z_N, (.cons rfl (.cons rfl .nil)), (.cons rfl (.cons rfl (.cons rfl .nil))), z_B, ⟨rfl, by omega, by rw [List.length_append, ha]; rfl, brw_le hc, sub_step ha zw zw (by rw [brw_spec hc]; exact sub_word hc) hs⟩⟩
 ·
  obtain rfl : i = 8 := by omega
  refine zs ?_
  refine T.cond_f rfl (zs ?_)
  refine zq (V1.eqI (r := decide (wsN l < wsN m)) rfl rfl (less_end ha hl hm hc hs)) ?_
  exact ⟨_, G, _, .cons (.tmp z_C) .nil, z_B, rfl, rfl⟩
end Go.Proofs.YtfjedhmffccgnaaGreatDoor.S
