/- The small functions of the frames: what each call hands back, for every argument. -/
import Derived.Test.YtfjedhmffccgnaaGreatDoorTypes
import Derived.Test.YtfjedhmffccgnaaGreatDoorFrSpec
namespace Go.Proofs.YtfjedhmffccgnaaGreatDoor.S
open Go.RowKit
def shapeV (k : Int) : Value :=
  match shpF k with
  | some (a, b, c, d) => .tuple #[.agg #[.int .i64 a, .int .i64 b, .int .i64 c, .bool d], .int .i64 0]
  | none => .tuple #[.agg #[.int .i64 0, .int .i64 0, .int .i64 0, .bool false], .int .i64 110]
theorem kinds (k : Int) : k = 1 ∨ k = 2 ∨ k = 3 ∨ k = 4 ∨ k = 5 ∨ k = 6 ∨ k = 7 ∨ ((k < 1 ∨ 7 < k) ∧ shpF k = none) := by
 by_cases h : 1 ≤ k ∧ k ≤ 7
 · omega
 ·
  have h' : k < 1 ∨ 7 < k := by omega
  refine .inr (.inr (.inr (.inr (.inr (.inr (.inr ⟨h', ?_⟩))))))
  unfold shpF
  repeat (rw [if_neg (by omega)])
set_option maxRecDepth 100000 in
theorem ShapeOf_any (k : Int) (w : World) : Fn P 43 [.int .i64 k] w [] (fun v Y => Y = [] ∧ v = shapeV k) := by
 refine Fn.of 27 [.cell 2 109, .tmp 3] Go.Proofs.Tryz.func43 rfl rfl rfl rfl ?_
 refine zs ?_
 refine TL.cons rfl (T1.allocN 4 zr_109 rfl (fun b2 => zs ?_))
 refine TL.cons rfl (T1.eqI_split rfl rfl (fun h2_0 => ?_) (fun h2_0 => ?_))
 ·
  refine zs ?_
  refine T.cond_t rfl (zs ?_)
  refine z0 (V1.buildF pl_109 zr_109 (.one rfl z_C rfl (.one rfl z_C rfl (.one rfl z_C rfl (.one rfl z_C rfl .nil)))) z_I) ?_
  refine TL.cons rfl (T1.storeN rfl rfl sz_109 (ones rfl) z_H (by rfl) (by rfl) ?_)
  refine zs ?_
  refine ⟨_, [], _, .cons (.cellN rfl one_109 sz_109 (RdN.whole z_A) (by rfl)) (.cons (.tmp z_C) .nil), Take.nil, rfl, ?_⟩
  simp_all [shapeV, shpF, res1]
 ·
  refine zs ?_
  refine T.cond_f rfl (zs ?_)
  refine TL.cons rfl (T1.eqI_split rfl rfl (fun h4_0 => ?_) (fun h4_0 => ?_))
  ·
   refine zs ?_
   refine T.cond_t rfl (zs ?_)
   refine z0 (V1.buildF pl_109 zr_109 (.one rfl z_C rfl (.one rfl z_C rfl (.one rfl z_C rfl (.one rfl z_C rfl .nil)))) z_I) ?_
   refine TL.cons rfl (T1.storeN rfl rfl sz_109 (ones rfl) z_H (by rfl) (by rfl) ?_)
   refine zs ?_
   refine ⟨_, [], _, .cons (.cellN rfl one_109 sz_109 (RdN.whole z_A) (by rfl)) (.cons (.tmp z_C) .nil), Take.nil, rfl, ?_⟩
   simp_all [shapeV, shpF, res1]
  ·
   refine zs ?_
   refine T.cond_f rfl (zs ?_)
   refine TL.cons rfl (T1.eqI_split rfl rfl (fun h6_0 => ?_) (fun h6_0 => ?_))
   ·
    refine zs ?_
    refine T.cond_t rfl (zs ?_)
    refine z0 (V1.buildF pl_109 zr_109 (.one rfl z_C rfl (.one rfl z_C rfl (.one rfl z_C rfl (.one rfl z_C rfl .nil)))) z_I) ?_
    refine TL.cons rfl (T1.storeN rfl rfl sz_109 (ones rfl) z_H (by rfl) (by rfl) ?_)
    refine zs ?_
    refine ⟨_, [], _, .cons (.cellN rfl one_109 sz_109 (RdN.whole z_A) (by rfl)) (.cons (.tmp z_C) .nil), Take.nil, rfl, ?_⟩
    simp_all [shapeV, shpF, res1]
   ·
    refine zs ?_
    refine T.cond_f rfl (zs ?_)
    refine TL.cons rfl (T1.eqI_split rfl rfl (fun h8_0 => ?_) (fun h8_0 => ?_))
    ·
     refine zs ?_
     refine T.cond_t rfl (zs ?_)
     refine z0 (V1.buildF pl_109 zr_109 (.one rfl z_C rfl (.one rfl z_C rfl (.one rfl z_C rfl (.one rfl z_C rfl .nil)))) z_I) ?_
     refine TL.cons rfl (T1.storeN rfl rfl sz_109 (ones rfl) z_H (by rfl) (by rfl) ?_)
     refine zs ?_
     refine ⟨_, [], _, .cons (.cellN rfl one_109 sz_109 (RdN.whole z_A) (by rfl)) (.cons (.tmp z_C) .nil), Take.nil, rfl, ?_⟩
     simp_all [shapeV, shpF, res1]
    ·
     refine zs ?_
     refine T.cond_f rfl (zs ?_)
     refine TL.cons rfl (T1.eqI_split rfl rfl (fun h10_0 => ?_) (fun h10_0 => ?_))
     ·
      refine zs ?_
      refine T.cond_t rfl (zs ?_)
      refine z0 (V1.buildF pl_109 zr_109 (.one rfl z_C rfl (.one rfl z_C rfl (.one rfl z_C rfl (.one rfl z_C rfl .nil)))) z_I) ?_
      refine TL.cons rfl (T1.storeN rfl rfl sz_109 (ones rfl) z_H (by rfl) (by rfl) ?_)
      refine zs ?_
      refine ⟨_, [], _, .cons (.cellN rfl one_109 sz_109 (RdN.whole z_A) (by rfl)) (.cons (.tmp z_C) .nil), Take.nil, rfl, ?_⟩
      simp_all [shapeV, shpF, res1]
     ·
      refine zs ?_
      refine T.cond_f rfl (zs ?_)
      refine TL.cons rfl (T1.eqI_split rfl rfl (fun h12_0 => ?_) (fun h12_0 => ?_))
      ·
       refine zs ?_
       refine T.cond_t rfl (T.seq (T.live (l := [(2, _)]) zT (fun e_ => ?_)))
       refine T.region (z0 (V1.buildF pl_109 zr_109 (.one rfl z_C rfl (.one rfl z_C rfl (.one rfl z_C rfl (.one rfl z_C rfl .nil)))) z_I) ?_)
       refine TL.cons rfl (T1.storeN rfl rfl sz_109 (ones rfl) z_H (by rfl) (by rfl) ?_)
       refine zs ?_
       refine ⟨_, [], _, .cons (.cellN rfl one_109 sz_109 (RdN.whole z_A) (by rfl)) (.cons (.tmp z_C) .nil), Take.nil, rfl, ?_⟩
       simp_all [shapeV, shpF, res1]
      ·
       refine zs ?_
       refine T.cond_f rfl (T.seq (T.live (l := [(2, _), (4, _)]) zT (fun e_ => ?_)))
       refine T.region (TL.cons rfl (T1.eqI_split rfl rfl (fun h14_0 => ?_) (fun h14_0 => ?_)))
       ·
        refine zs ?_
        refine T.cond_t rfl (zs ?_)
        refine z0 (V1.buildF pl_109 zr_109 (.one rfl z_C rfl (.one rfl z_C rfl (.one rfl z_C rfl (.one rfl z_C rfl .nil)))) z_I) ?_
        refine TL.cons rfl (T1.storeN rfl rfl sz_109 (ones rfl) z_H (by rfl) (by rfl) ?_)
        refine zs ?_
        refine ⟨_, [], _, .cons (.cellN rfl one_109 sz_109 (RdN.whole z_A) (by rfl)) (.cons (.tmp z_C) .nil), Take.nil, rfl, ?_⟩
        simp_all [shapeV, shpF, res1]
       ·
        refine zs ?_
        refine T.cond_f rfl (zs ?_)
        refine z0 (V1.build0 pl_109 zr_109) ?_
        refine TL.cons rfl (T1.storeN rfl rfl sz_109 (ones rfl) z_H (by rfl) (by rfl) ?_)
        refine zs ?_
        refine ⟨_, [], _, .cons (.cellN rfl one_109 sz_109 (RdN.whole z_A) (by rfl)) (.cons (.tmp z_C) .nil), Take.nil, rfl, ?_⟩
        simp_all [shapeV, shpF, res1]
theorem shapeV_form (k : Int) : ∃ a b c : Nat, ∃ d : Bool, ∃ e : Int, shapeV k = .tuple #[.agg #[.int .i64 a, .int .i64 b, .int .i64 c, .bool d], .int .i64 e] ∧ a ≤ 4 ∧ b ≤ 3 ∧ c ≤ 1 ∧ (e = 0 ∨ e = 110) ∧
 ((e = 0 ∧ shpF k = some (a, b, c, d)) ∨ (e = 110 ∧ shpF k = none ∧ a = 0 ∧ b = 0 ∧ c = 0 ∧ d = false)) := by
 rcases kinds k with rfl | rfl | rfl | rfl | rfl | rfl | rfl | ⟨hk, hn⟩
 · exact ⟨4, 2, 1, false, 0, rfl, by omega, by omega, by omega, .inl rfl, .inl ⟨rfl, rfl⟩⟩
 · exact ⟨3, 2, 0, true, 0, rfl, by omega, by omega, by omega, .inl rfl, .inl ⟨rfl, rfl⟩⟩
 · exact ⟨1, 2, 0, true, 0, rfl, by omega, by omega, by omega, .inl rfl, .inl ⟨rfl, rfl⟩⟩
 · exact ⟨3, 2, 0, false, 0, rfl, by omega, by omega, by omega, .inl rfl, .inl ⟨rfl, rfl⟩⟩
 · exact ⟨1, 2, 1, true, 0, rfl, by omega, by omega, by omega, .inl rfl, .inl ⟨rfl, rfl⟩⟩
 · exact ⟨3, 3, 1, true, 0, rfl, by omega, by omega, by omega, .inl rfl, .inl ⟨rfl, rfl⟩⟩
 · exact ⟨1, 1, 0, true, 0, rfl, by omega, by omega, by omega, .inl rfl, .inl ⟨rfl, rfl⟩⟩
 · exact ⟨0, 0, 0, false, 110, by unfold shapeV; rw [hn]; rfl, by omega, by omega, by omega, .inr rfl, .inr ⟨rfl, hn, rfl, rfl, rfl, rfl⟩⟩
end Go.Proofs.YtfjedhmffccgnaaGreatDoor.S
namespace Go.Proofs.YtfjedhmffccgnaaGreatDoor.S
open Go.RowKit
set_option maxRecDepth 100000 in
theorem fnumber_any (b : Nat) (s : Value) (out : List UInt8) (Ls : List Blk) (n : Nat) (w : World) (hn : n < 4294967296) (ho : out.length ≤ 1099511627776) (hsl : Sl s (out.map byteV) 1 Ls) : Fn P 44 [.pointer (some ⟨b, 0, none⟩), .int .u32 n] w (⟨b, 0, [s], 1⟩ :: Ls) (fun _ Y => ∃ s' Ls', Y = ⟨b, 0, [s'], 1⟩ :: Ls' ∧ Sl s' ((out ++ be32 n).map byteV) 1 Ls') := by
 refine Fn.of 24 [] Go.Proofs.Tryz.func44 rfl rfl rfl rfl ?_
 refine zs ?_
 refine z0 (V1.nilCheck rfl) ?_
 refine z0 (V1.fieldAddr fl_113_0 rfl) ?_
 refine zq (V1.load1 one_44 rfl (.own z_A (by rfl))) ?_
 refine z0 (V1.shr rfl rfl (by decide) (shr_u (m := 24) rfl)) ?_
 refine zq (V1.conv ty_37 ty_5 rfl (u8_nat _)) ?_
 refine z0 (V1.shr rfl rfl (by decide) (shr_u (m := 16) rfl)) ?_
 refine zq (V1.conv ty_37 ty_5 rfl (u8_nat _)) ?_
 refine z0 (V1.shr rfl rfl (by decide) (shr_u (m := 8) rfl)) ?_
 refine zq (V1.conv ty_37 ty_5 rfl (u8_nat _)) ?_
 refine z0 (V1.conv ty_37 ty_5 rfl (u8_nat _)) ?_
 refine TL.cons rfl (T1.buildSl1 (os := [.tmp 11, .tmp 14, .tmp 17, .tmp 19]) ty_44 sz_5 zr_5 (by decide) rfl (.cons z_C (.cons z_C (.cons z_C (.cons z_C .nil)))) rfl (ones rfl) (fun b20 => ?_))
 refine TL.cons rfl (T1.append ty_44 kd_44 sz_5 by_5 zr_5 rfl (by decide) (by decide) rfl rfl hsl (.sl (RdN.whole z_A) (by rfl)) (ones rfl) (out.length + 4) (by simp) (by omega) z_E (fun s' Ls' hsl' => ?_))
 refine z0 (V1.nilCheck rfl) ?_
 refine z0 (V1.fieldAddr fl_113_0 rfl) ?_
 refine TL.cons rfl (T1.store1 rfl rfl sz_44 hsl'.one z_H (Nat.zero_le _) z_K ?_)
 refine TL.nil ?_
 exact ⟨[], ⟨b, 0, [s'], 1⟩ :: Ls', _, .nil, z_B, s', Ls', rfl, by rw [List.map_append]; exact hsl'⟩
end Go.Proofs.YtfjedhmffccgnaaGreatDoor.S
namespace Go.Proofs.YtfjedhmffccgnaaGreatDoor.S
open Go.RowKit
def encR (kind : Int) (keys : List (List UInt8)) (nums : List Nat) (sigs : List (List UInt8)) (data : List UInt8) (v : Value) (Y : List Blk) : Prop :=
  match encF kind keys nums sigs data with
  | .error c => v = .tuple #[.slice none 0 0, .int .i64 c] ∧ Y = []
  | .ok bytes => ∃ s, v = .tuple #[s, .int .i64 0] ∧ Sl s (bytes.map byteV) 1 Y
section
variable {kind : Int} {keys : List (List UInt8)} {nums : List Nat} {sigs : List (List UInt8)} {data : List UInt8} {a b c : Nat} {d : Bool}
theorem encF_none (h : shpF kind = none) : encF kind keys nums sigs data = .error 110 := by unfold encF; rw [h]
theorem encF_count (h : shpF kind = some (a, b, c, d)) (hc : keys.length ≠ a ∨ nums.length ≠ b ∨ sigs.length ≠ c ∨ (d = false ∧ 0 < data.length)) : encF kind keys nums sigs data = .error 110 := by
 unfold encF; rw [h]; simp only; rw [if_pos hc]
theorem encF_long (h : shpF kind = some (a, b, c, d)) (h1 : keys.length = a) (h2 : nums.length = b) (h3 : sigs.length = c) (h4 : d = true ∨ data.length = 0) (hl : 16384 < data.length) : encF kind keys nums sigs data = .error 2 := by
 unfold encF; rw [h]; simp only
 rw [if_neg (by rcases h4 with h4 | h4 <;> simp [h1, h2, h3, h4]), if_pos hl]
theorem encF_ok (h : shpF kind = some (a, b, c, d)) (h1 : keys.length = a) (h2 : nums.length = b) (h3 : sigs.length = c) (h4 : d = true ∨ data.length = 0) (hl : data.length ≤ 16384) :
 encF kind keys nums sigs data = .ok (UInt8.ofNat kind.toNat :: (keys.flatten ++ (nums.flatMap be32 ++ (sigs.flatten ++ (if d then be32 data.length ++ data else []))))) := by
 unfold encF; rw [h]; simp only
 rw [if_neg (by rcases h4 with h4 | h4 <;> simp [h1, h2, h3, h4]), if_neg (by omega)]
theorem encR_err {e : Int} (h : encF kind keys nums sigs data = .error e) : encR kind keys nums sigs data (.tuple #[.slice none 0 0, .int .i64 e]) [] := by
 unfold encR; rw [h]; exact ⟨rfl, rfl⟩
theorem encR_ok {bytes : List UInt8} {s : Value} {Y : List Blk} (h : encF kind keys nums sigs data = .ok bytes) (hs : Sl s (bytes.map byteV) 1 Y) : encR kind keys nums sigs data (.tuple #[s, .int .i64 0]) Y := by
 unfold encR; rw [h]; exact ⟨s, rfl, hs⟩
end
theorem nums_get {nums : List Nat} {k : Nat} (h : k < nums.length) : (nums.map u32V)[k]? = some (.int .u32 (nums[k] : Nat)) := by simp [u32V, h]
theorem flat_len {α : Type} {k : Nat} : ∀ (l : List (List α)), (∀ x ∈ l, x.length = k) → l.flatten.length = l.length * k := by
 intro l
 induction l with
 | nil => intro _; simp
 | cons x l ih => intro h; simp only [List.flatten_cons, List.length_append, List.length_cons, h x (by simp), ih (fun y hy => h y (by simp [hy])), Nat.add_mul]; omega
theorem take_succ_flatMap {nums : List Nat} {k : Nat} (h : k < nums.length) : (nums.take (k + 1)).flatMap be32 = (nums.take k).flatMap be32 ++ be32 nums[k] := by
 rw [List.take_add_one, List.getElem?_eq_getElem h, List.flatMap_append]; simp only [Option.toList, List.flatMap_cons, List.flatMap_nil, List.append_nil]
theorem flatMap_be32_len (l : List Nat) : (l.flatMap be32).length = 4 * l.length := by
 induction l with
 | nil => rfl
 | cons n l ih => rw [List.flatMap_cons, List.length_append, ih]; simp [be32]; omega
set_option maxRecDepth 100000 in
set_option maxHeartbeats 2000000 in
theorem Encode_src (kind : Int) (keys : List (List UInt8)) (nums : List Nat) (sigs : List (List UInt8)) (data : List UInt8) (vk vn vs vd : Value) (w : World)
 (hk : SlR w vk 32 keys.length (keys.flatten.map byteV)) (hkeys : ∀ x ∈ keys, x.length = 32) (hn : SlR w vn 1 nums.length (nums.map u32V)) (hnums : ∀ x ∈ nums, x < 4294967296) (hs : SlR w vs 64 sigs.length (sigs.flatten.map byteV)) (hsigs : ∀ x ∈ sigs, x.length = 64) (hd : (∃ a c, vd = .slice a data.length c) ∧ ∀ C : Ctx, C.w0 = w → C.M = [] → ∀ L, Src C L 1 vd data.length (data.map byteV)) : Fn P 20 [.agg (List.toArray [.int .i64 kind, vk, vn, vs, vd])] w [] (encR kind keys nums sigs data) := by
 obtain ⟨ak, ck, rfl⟩ := hk.form
 obtain ⟨an, cn, rfl⟩ := hn.form
 obtain ⟨ags, cs, rfl⟩ := hs.form
 obtain ⟨ad, cd, rfl⟩ := hd.1
 refine Fn.of 118 [.tmp 2, .tmp 3] Go.Proofs.Tryz.func20 rfl rfl rfl rfl ?_
 refine zs ?_
 refine TL.cons rfl (T1.boxN 5 rfl rfl (fun b1 => zs ?_))
 refine z0 (V1.fieldAddr fl_46_0 rfl) ?_
 refine z0 (V1.load1 one_3 rfl (.own z_A (by rfl))) ?_
 refine TL.cons rfl (T1.call0 has_43 rfl (fun w hs => ShapeOf_any _ w) (fun v hv => ?_))
 obtain ⟨sa, sb, sc, sd, se, hsv, ha, hb, hc, he, hsh⟩ := shapeV_form kind
 rw [hsv] at hv
 subst hv
 rcases sd with _ | _
 ·
  refine zs ?_
  refine TL.cons rfl (T1.allocN 4 zr_109 rfl (fun b4 => ?_))
  refine TL.cons rfl (T1.storeN rfl rfl sz_109 (ones rfl) z_H (by rfl) (by rfl) ?_)
  refine zs ?_
  refine TL.cons rfl (T1.neI_split rfl rfl (fun h2_1 => ?_) (fun h2_1 => ?_))
  ·
   refine zs ?_
   refine T.cond_t rfl (T.seq (T.live (l := [(5, _)]) zT (fun e_ => ?_)))
   refine zs ?_
   rcases hsh with ⟨h1, h2⟩ | ⟨h1, h2, _⟩
   · exact absurd h1 h2_1
   ·
    subst h1
    exact ⟨_, [], _, .cons (.tmp z_C) (.cons (.tmp z_C) .nil), Take.nil, encR_err (encF_none h2)⟩
  ·
   refine zs ?_
   refine T.cond_f rfl (T.seq (T.live (l := [(1, _), (4, _)]) zT (fun e_ => ?_)))
   refine T.region (z0 (V1.fieldAddr fl_46_1 rfl) ?_)
   refine z0 (V1.load1 one_41 rfl (.own z_A (by rfl))) ?_
   refine z0 (V1.lenSl ty_41 rfl) ?_
   refine z0 (V1.fieldAddr fl_109_0 rfl) ?_
   refine z0 (V1.load1 one_3 rfl (.own z_A (by rfl))) ?_
   refine TL.cons rfl (T1.neI_split rfl rfl (fun h4_5 => ?_) (fun h4_5 => ?_))
   ·
    refine zs ?_
    refine TL.no rfl ?_
    refine TL.no rfl ?_
    refine TL.no rfl ?_
    refine TL.no rfl ?_
    refine TL.no rfl ?_
    refine TL.no rfl ?_
    refine zs ?_
    refine TL.no rfl ?_
    refine TL.no rfl ?_
    refine TL.no rfl ?_
    refine TL.no rfl ?_
    refine TL.no rfl ?_
    refine TL.no rfl ?_
    refine zs ?_
    refine TL.no rfl ?_
    refine TL.no rfl ?_
    refine TL.no rfl ?_
    refine TL.no rfl ?_
    refine TL.no rfl ?_
    refine TL.no rfl ?_
    refine TL.no rfl ?_
    refine TL.no rfl ?_
    refine TL.no rfl ?_
    refine zs ?_
    refine T.cond_t rfl (T.seq (T.live (l := []) .nil (fun e_ => ?_)))
    refine zs ?_
    have hshp : shpF kind = some (sa, sb, sc, false) := by rcases hsh with ⟨_, h⟩ | ⟨h, _⟩ <;> first | exact h | omega
    exact ⟨_, [], _, .cons (.tmp z_C) (.cons (.tmp z_C) .nil), Take.nil, encR_err (encF_count hshp (by first | (left; omega) | (right; left; omega) | (right; right; left; omega) | (right; right; right; exact ⟨rfl, by omega⟩)))⟩
   ·
    refine zs ?_
    refine z0 (V1.fieldAddr fl_46_2 rfl) ?_
    refine z0 (V1.load1 one_42 rfl (.own z_A (by rfl))) ?_
    refine z0 (V1.lenSl ty_42 rfl) ?_
    refine z0 (V1.fieldAddr fl_109_1 rfl) ?_
    refine z0 (V1.load1 one_3 rfl (.own z_A (by rfl))) ?_
    refine TL.cons rfl (T1.neI_split rfl rfl (fun h4_12 => ?_) (fun h4_12 => ?_))
    ·
     refine zs ?_
     refine TL.no rfl ?_
     refine TL.no rfl ?_
     refine TL.no rfl ?_
     refine TL.no rfl ?_
     refine TL.no rfl ?_
     refine TL.no rfl ?_
     refine zs ?_
     refine TL.no rfl ?_
     refine TL.no rfl ?_
     refine TL.no rfl ?_
     refine TL.no rfl ?_
     refine TL.no rfl ?_
     refine TL.no rfl ?_
     refine TL.no rfl ?_
     refine TL.no rfl ?_
     refine TL.no rfl ?_
     refine zs ?_
     refine T.cond_t rfl (T.seq (T.live (l := []) .nil (fun e_ => ?_)))
     refine zs ?_
     have hshp : shpF kind = some (sa, sb, sc, false) := by rcases hsh with ⟨_, h⟩ | ⟨h, _⟩ <;> first | exact h | omega
     exact ⟨_, [], _, .cons (.tmp z_C) (.cons (.tmp z_C) .nil), Take.nil, encR_err (encF_count hshp (by first | (left; omega) | (right; left; omega) | (right; right; left; omega) | (right; right; right; exact ⟨rfl, by omega⟩)))⟩
    ·
     refine zs ?_
     refine z0 (V1.fieldAddr fl_46_3 rfl) ?_
     refine z0 (V1.load1 one_43 rfl (.own z_A (by rfl))) ?_
     refine z0 (V1.lenSl ty_43 rfl) ?_
     refine z0 (V1.fieldAddr fl_109_2 rfl) ?_
     refine z0 (V1.load1 one_3 rfl (.own z_A (by rfl))) ?_
     refine TL.cons rfl (T1.neI_split rfl rfl (fun h4_20 => ?_) (fun h4_20 => ?_))
     ·
      refine zs ?_
      refine TL.no rfl ?_
      refine TL.no rfl ?_
      refine TL.no rfl ?_
      refine TL.no rfl ?_
      refine TL.no rfl ?_
      refine TL.no rfl ?_
      refine TL.no rfl ?_
      refine TL.no rfl ?_
      refine TL.no rfl ?_
      refine zs ?_
      refine T.cond_t rfl (T.seq (T.live (l := []) .nil (fun e_ => ?_)))
      refine zs ?_
      have hshp : shpF kind = some (sa, sb, sc, false) := by rcases hsh with ⟨_, h⟩ | ⟨h, _⟩ <;> first | exact h | omega
      exact ⟨_, [], _, .cons (.tmp z_C) (.cons (.tmp z_C) .nil), Take.nil, encR_err (encF_count hshp (by first | (left; omega) | (right; left; omega) | (right; right; left; omega) | (right; right; right; exact ⟨rfl, by omega⟩)))⟩
     ·
      refine zs ?_
      refine z0 (V1.fieldAddr fl_109_3 rfl) ?_
      refine z0 (V1.load1 one_4 rfl (.own z_A (by rfl))) ?_
      refine zq (V1.not rfl rfl) ?_
      refine z0 (V1.fieldAddr fl_46_4 rfl) ?_
      refine z0 (V1.load1 one_44 rfl (.own z_A (by rfl))) ?_
      refine z0 (V1.lenSl ty_44 rfl) ?_
      refine TL.cons rfl (T1.gtI_split rfl rfl (fun h4_30 => ?_) (fun h4_30 => ?_))
      ·
       refine zs ?_
       refine T.cond_t rfl (T.seq (T.live (l := []) .nil (fun e_ => ?_)))
       refine zs ?_
       have hshp : shpF kind = some (sa, sb, sc, false) := by rcases hsh with ⟨_, h⟩ | ⟨h, _⟩ <;> first | exact h | omega
       exact ⟨_, [], _, .cons (.tmp z_C) (.cons (.tmp z_C) .nil), Take.nil, encR_err (encF_count hshp (by first | (left; omega) | (right; left; omega) | (right; right; left; omega) | (right; right; right; exact ⟨rfl, by omega⟩)))⟩
      ·
       refine zs ?_
       refine T.cond_f rfl (T.seq (T.live (l := [(1, _), (4, _)]) zT (fun e_ => ?_)))
       refine T.region (z0 (V1.fieldAddr fl_46_4 rfl) ?_)
       refine z0 (V1.load1 one_44 rfl (.own z_A (by rfl))) ?_
       refine z0 (V1.lenSl ty_44 rfl) ?_
       refine TL.cons rfl (T1.gtI_split rfl rfl (fun h6_3 => ?_) (fun h6_3 => ?_))
       ·
        refine zs ?_
        refine T.cond_t rfl (zs ?_)
        have hshp : shpF kind = some (sa, sb, sc, false) := by rcases hsh with ⟨_, h⟩ | ⟨h, _⟩ <;> first | exact h | omega
        exact ⟨_, [], _, .cons (.tmp z_C) (.cons (.tmp z_C) .nil), Take.nil, encR_err (encF_long hshp (by omega) (by omega) (by omega) (by first | exact .inl rfl | (right; omega)) (by omega))⟩
       ·
        refine zs ?_
        refine T.cond_f rfl (zs ?_)
        refine z0 (V1.fieldAddr fl_46_0 rfl) ?_
        have hshp : shpF kind = some (sa, sb, sc, false) := by rcases hsh with ⟨_, h⟩ | ⟨h, _⟩ <;> first | exact h | omega
        have hkr := shp_range hshp
        refine z0 (V1.load1 one_3 rfl (.own z_A (by rfl))) ?_
        refine z0 (V1.conv ty_3 ty_5 rfl (u8_kind (by omega) (by omega))) ?_
        refine TL.cons rfl (T1.buildSl1 (os := [.tmp 64]) ty_44 sz_5 zr_5 (by decide) rfl (.cons z_C .nil) rfl (ones rfl) (fun b65 => ?_))
        refine z0 (V1.buildF pl_113 zr_113 (.one rfl z_C rfl .nil) z_I) ?_
        refine TL.cons rfl (T1.allocN 1 zr_113 rfl (fun b6 => ?_))
        refine TL.cons rfl (T1.storeN rfl rfl sz_113 (ones rfl) z_H (by rfl) (by rfl) ?_)
        refine zs ?_
        refine z0 (V1.fieldAddr fl_46_1 rfl) ?_
        refine z0 (V1.load1 one_41 rfl (.own z_A (by rfl))) ?_
        refine zq1 (V1.lenSl ty_41 rfl) ?_
        refine T.block (T.loopL (σ := Nat × Value × List Blk) (l0 := [(1, _), (4, _), (6, _), (68, _), (69, _)]) (fun x => [(70, .int .i64 (x.1 : Nat))]) (fun x L => L = ⟨b6, 0, [x.2.1], 1⟩ :: ⟨b4, 0, [.int .i64 sa, .int .i64 sb, .int .i64 sc, .bool false], 4⟩ :: ⟨b1, 0, [.int .i64 kind, .slice ak keys.length ck, .slice an nums.length cn, .slice ags sigs.length cs, .slice ad data.length cd], 5⟩ :: x.2.2 ∧ x.1 ≤ keys.length ∧ Sl x.2.1 ((UInt8.ofNat kind.toNat :: (keys.take x.1).flatten).map byteV) 1 x.2.2) (fun x => keys.length - x.1) (0, _, _) (.cons rfl .nil) zT z_B (⟨rfl, Nat.zero_le _, Sl.mk (b := b65) (xs := [byteV (UInt8.ofNat kind.toNat)]) (len := 1) (cap := 1) (size := 1) rfl (Nat.le_refl _) (Nat.le_refl _)⟩) ?_)
        rintro ⟨k, s, Ls⟩ e_ L ⟨rfl, hkle, hsl⟩
        simp only at hkle hsl
        refine zs ?_
        refine TL.cons rfl (T1.ltI_split rfl rfl (fun h10_0 => ?_) (fun h10_0 => ?_))
        ·
         have hf1 := flat_len keys hkeys
         have hf2 := flatMap_be32_len (nums.take k)
         have hf3 := flatMap_be32_len nums
         rw [List.length_take] at hf2
         have hf4 := flat_len (keys.take k) (fun y hy => hkeys y (List.mem_of_mem_take hy))
         rw [List.length_take] at hf4
         have hkn : k < keys.length := by omega
         obtain ⟨bk, ok, rfl⟩ := hk.isSome (by omega)
         obtain ⟨x, hx⟩ : ∃ x, keys[k]? = some x := ⟨_, List.getElem?_eq_getElem hkn⟩
         have hxl : x.length = 32 := hkeys x (List.mem_of_getElem? hx)
         refine zs ?_
         refine T.cond_t rfl (zs ?_)
         refine z0 (V1.indexAddrS ty_41 sz_36 rfl rfl (by omega) (by omega)) ?_
         refine z0 (V1.loadN one_36 sz_36 rfl (hk.elemB rfl hkeys hkn hx) (by rw [List.length_map]; exact hxl)) ?_
         refine TL.cons rfl (T1.allocN 32 zr_36 rfl (fun b8 => ?_))
         refine TL.cons rfl (T1.storeN rfl rfl sz_36 (one_bytes x) z_H (by rw [List.length_map]; exact hxl) (by rw [List.length_map]; exact hxl) ?_)
         refine TL.nil ?_
         refine T.drawU mixed ?_
         refine TU.take 0 rfl z_F z_F z_F rfl (fun _ _ _ h => h) (fun _ => V1.fieldAddr fl_113_0 rfl) ?_
         refine TU.take 2 rfl z_F z_F z_F rfl (fun _ _ _ h => h) (fun _ => V1.sliceA ty_36 sz_5 rfl rfl rfl (by decide) (by decide) (by decide)) ?_
         refine TU.one 1 z_F rfl rfl (V1.t (V1.load1 one_44 rfl (.own z_A (by rfl))) ?_)
         refine TU.one 3 z_F rfl rfl (T1.append ty_44 kd_44 sz_5 by_5 zr_5 rfl (by decide) (by decide) rfl rfl hsl (.sl (RdN.whole z_A) (by rw [List.length_map]; exact hxl)) (one_bytes x) 1000 (by simp only [List.length_map, List.length_cons, List.length_append]; omega) (by omega) z_E (fun s' Ls' hsl' => ?_))
         refine TU.take 4 rfl z_F z_F z_F rfl (fun _ _ _ h => h) (fun _ => V1.fieldAddr fl_113_0 rfl) ?_
         refine TU.one 5 z_F rfl rfl (T1.store1 rfl rfl sz_44 hsl'.one z_H (Nat.zero_le _) z_K ?_)
         refine TU.done z_F ?_
         refine T.region (zq1 (V1.add rfl rfl (wrap_i64 _ (by omega) (by omega))) ?_)
         exact ⟨(k + 1, s', Ls'), _, _, z_N, (.cons rfl .nil), (.cons rfl (.cons rfl (.cons rfl (.cons rfl (.cons rfl .nil))))), z_B, ⟨rfl, by simp only; omega, by rw [take_succ_flatten keys k x hx]; simpa using hsl'⟩⟩
        ·
         refine zs ?_
         refine T.cond_f rfl (zs ?_)
         refine z0 (V1.fieldAddr fl_46_2 rfl) ?_
         refine z0 (V1.load1 one_42 rfl (.own z_A (by rfl))) ?_
         refine zq1 (V1.lenSl ty_42 rfl) ?_
         refine T.block (T.loopL (σ := Nat × Value × List Blk) (l0 := [(1, _), (4, _), (6, _), (81, _), (82, _)]) (fun x => [(83, .int .i64 (x.1 : Nat))]) (fun x L => L = ⟨b6, 0, [x.2.1], 1⟩ :: ⟨b4, 0, [.int .i64 sa, .int .i64 sb, .int .i64 sc, .bool false], 4⟩ :: ⟨b1, 0, [.int .i64 kind, .slice ak keys.length ck, .slice an nums.length cn, .slice ags sigs.length cs, .slice ad data.length cd], 5⟩ :: x.2.2 ∧ x.1 ≤ nums.length ∧ Sl x.2.1 ((UInt8.ofNat kind.toNat :: (keys.flatten ++ (nums.take x.1).flatMap be32)).map byteV) 1 x.2.2) (fun x => nums.length - x.1) (0, s, Ls) (.cons rfl .nil) zT z_B (⟨rfl, Nat.zero_le _, by (have hke : k = keys.length := (by omega)); subst hke; simpa using hsl⟩) ?_)
         rintro ⟨k, s, Ls⟩ e_ L ⟨rfl, hkle, hsl⟩
         simp only at hkle hsl
         refine zs ?_
         refine TL.cons rfl (T1.ltI_split rfl rfl (fun h15_0 => ?_) (fun h15_0 => ?_))
         ·
          have hf1 := flat_len keys hkeys
          have hf2 := flatMap_be32_len (nums.take k)
          have hf3 := flatMap_be32_len nums
          rw [List.length_take] at hf2
          have hkn : k < nums.length := by omega
          obtain ⟨bk, ok, rfl⟩ := hn.isSome (by omega)
          refine zs ?_
          refine T.cond_t rfl (zs ?_)
          refine z0 (V1.indexAddrS ty_42 sz_37 rfl rfl (by omega) (by omega)) ?_
          refine zq (V1.load1 one_37 rfl (hn.cell rfl (nums_get hkn))) ?_
          refine TL.cons rfl (T1.callP («as» := [.pointer (some ⟨b6, 0, none⟩), .int .u32 (nums[k] : Nat)]) has_44 rfl (fun w hs => fnumber_any b6 _ _ _ nums[k] w (hnums _ (List.getElem_mem hkn)) (by simp only [List.length_cons, List.length_append]; omega) hsl) z_B (fun v Y hv => ?_))
          obtain ⟨s', Ls', rfl, hsl'⟩ := hv
          refine zs ?_
          refine zq1 (V1.add rfl rfl (wrap_i64 _ (by omega) (by omega))) ?_
          exact ⟨(k + 1, s', Ls'), _, _, z_N, (.cons rfl .nil), (.cons rfl (.cons rfl (.cons rfl (.cons rfl (.cons rfl .nil))))), z_B, ⟨rfl, by simp only; omega, by rw [take_succ_flatMap hkn]; simpa using hsl'⟩⟩
         ·
          refine zs ?_
          refine T.cond_f rfl (zs ?_)
          refine z0 (V1.fieldAddr fl_46_3 rfl) ?_
          refine z0 (V1.load1 one_43 rfl (.own z_A (by rfl))) ?_
          refine zq1 (V1.lenSl ty_43 rfl) ?_
          refine T.block (T.loopL (σ := Nat × Value × List Blk) (l0 := [(1, _), (4, _), (6, _), (91, _), (92, _)]) (fun x => [(93, .int .i64 (x.1 : Nat))]) (fun x L => L = ⟨b6, 0, [x.2.1], 1⟩ :: ⟨b4, 0, [.int .i64 sa, .int .i64 sb, .int .i64 sc, .bool false], 4⟩ :: ⟨b1, 0, [.int .i64 kind, .slice ak keys.length ck, .slice an nums.length cn, .slice ags sigs.length cs, .slice ad data.length cd], 5⟩ :: x.2.2 ∧ x.1 ≤ sigs.length ∧ Sl x.2.1 ((UInt8.ofNat kind.toNat :: (keys.flatten ++ (nums.flatMap be32 ++ (sigs.take x.1).flatten))).map byteV) 1 x.2.2) (fun x => sigs.length - x.1) (0, s, Ls) (.cons rfl .nil) zT z_B (⟨rfl, Nat.zero_le _, by (have hke : k = nums.length := (by omega)); subst hke; simpa using hsl⟩) ?_)
          rintro ⟨k, s, Ls⟩ e_ L ⟨rfl, hkle, hsl⟩
          simp only at hkle hsl
          refine zs ?_
          refine TL.cons rfl (T1.ltI_split rfl rfl (fun h20_0 => ?_) (fun h20_0 => ?_))
          ·
           have hf1 := flat_len keys hkeys
           have hf2 := flatMap_be32_len (nums.take k)
           have hf3 := flatMap_be32_len nums
           rw [List.length_take] at hf2
           have hf4 := flat_len (sigs.take k) (fun y hy => hsigs y (List.mem_of_mem_take hy))
           rw [List.length_take] at hf4
           have hkn : k < sigs.length := by omega
           obtain ⟨bk, ok, rfl⟩ := hs.isSome (by omega)
           obtain ⟨x, hx⟩ : ∃ x, sigs[k]? = some x := ⟨_, List.getElem?_eq_getElem hkn⟩
           have hxl : x.length = 64 := hsigs x (List.mem_of_getElem? hx)
           refine zs ?_
           refine T.cond_t rfl (zs ?_)
           refine z0 (V1.indexAddrS ty_43 sz_74 rfl rfl (by omega) (by omega)) ?_
           refine z0 (V1.loadN one_74 sz_74 rfl (hs.elemB rfl hsigs hkn hx) (by rw [List.length_map]; exact hxl)) ?_
           refine TL.cons rfl (T1.allocN 64 zr_74 rfl (fun b12 => ?_))
           refine TL.cons rfl (T1.storeN rfl rfl sz_74 (one_bytes x) z_H (by rw [List.length_map]; exact hxl) (by rw [List.length_map]; exact hxl) ?_)
           refine TL.nil ?_
           refine T.drawU mixed ?_
           refine TU.take 0 rfl z_F z_F z_F rfl (fun _ _ _ h => h) (fun _ => V1.fieldAddr fl_113_0 rfl) ?_
           refine TU.take 2 rfl z_F z_F z_F rfl (fun _ _ _ h => h) (fun _ => V1.sliceA ty_74 sz_5 rfl rfl rfl (by decide) (by decide) (by decide)) ?_
           refine TU.one 1 z_F rfl rfl (V1.t (V1.load1 one_44 rfl (.own z_A (by rfl))) ?_)
           refine TU.one 3 z_F rfl rfl (T1.append ty_44 kd_44 sz_5 by_5 zr_5 rfl (by decide) (by decide) rfl rfl hsl (.sl (RdN.whole z_A) (by rw [List.length_map]; exact hxl)) (one_bytes x) 1000 (by simp only [List.length_map, List.length_cons, List.length_append]; omega) (by omega) z_E (fun s' Ls' hsl' => ?_))
           refine TU.take 4 rfl z_F z_F z_F rfl (fun _ _ _ h => h) (fun _ => V1.fieldAddr fl_113_0 rfl) ?_
           refine TU.one 5 z_F rfl rfl (T1.store1 rfl rfl sz_44 hsl'.one z_H (Nat.zero_le _) z_K ?_)
           refine TU.done z_F ?_
           refine T.region (zq1 (V1.add rfl rfl (wrap_i64 _ (by omega) (by omega))) ?_)
           exact ⟨(k + 1, s', Ls'), _, _, z_N, (.cons rfl .nil), (.cons rfl (.cons rfl (.cons rfl (.cons rfl (.cons rfl .nil))))), z_B, ⟨rfl, by simp only; omega, by rw [take_succ_flatten sigs k x hx]; simpa using hsl'⟩⟩
          ·
           refine zs ?_
           refine T.cond_f rfl (zs ?_)
           refine z0 (V1.fieldAddr fl_109_3 rfl) ?_
           refine z0 (V1.load1 one_4 rfl (.own z_A (by rfl))) ?_
           refine TL.nil ?_
           refine T.cond_f rfl (zs ?_)
           refine z0 (V1.fieldAddr fl_113_0 rfl) ?_
           refine zq (V1.load1 one_44 rfl (.own z_A (by rfl))) ?_
           exact ⟨_, Ls, _, .cons (.tmp z_C) (.cons (.tmp z_C) .nil), z_B, encR_ok (encF_ok hshp (by omega) (by omega) (by omega) (.inr (by omega)) (by omega)) (by (have hke : k = sigs.length := (by omega)); subst hke; simpa using hsl)⟩
 ·
  refine zs ?_
  refine TL.cons rfl (T1.allocN 4 zr_109 rfl (fun b4 => ?_))
  refine TL.cons rfl (T1.storeN rfl rfl sz_109 (ones rfl) z_H (by rfl) (by rfl) ?_)
  refine zs ?_
  refine TL.cons rfl (T1.neI_split rfl rfl (fun h2_1 => ?_) (fun h2_1 => ?_))
  ·
   refine zs ?_
   refine T.cond_t rfl (T.seq (T.live (l := [(5, _)]) zT (fun e_ => ?_)))
   refine zs ?_
   rcases hsh with ⟨h1, h2⟩ | ⟨h1, h2, _⟩
   · exact absurd h1 h2_1
   ·
    subst h1
    exact ⟨_, [], _, .cons (.tmp z_C) (.cons (.tmp z_C) .nil), Take.nil, encR_err (encF_none h2)⟩
  ·
   refine zs ?_
   refine T.cond_f rfl (T.seq (T.live (l := [(1, _), (4, _)]) zT (fun e_ => ?_)))
   refine T.region (z0 (V1.fieldAddr fl_46_1 rfl) ?_)
   refine z0 (V1.load1 one_41 rfl (.own z_A (by rfl))) ?_
   refine z0 (V1.lenSl ty_41 rfl) ?_
   refine z0 (V1.fieldAddr fl_109_0 rfl) ?_
   refine z0 (V1.load1 one_3 rfl (.own z_A (by rfl))) ?_
   refine TL.cons rfl (T1.neI_split rfl rfl (fun h4_5 => ?_) (fun h4_5 => ?_))
   ·
    refine zs ?_
    refine TL.no rfl ?_
    refine TL.no rfl ?_
    refine TL.no rfl ?_
    refine TL.no rfl ?_
    refine TL.no rfl ?_
    refine TL.no rfl ?_
    refine zs ?_
    refine TL.no rfl ?_
    refine TL.no rfl ?_
    refine TL.no rfl ?_
    refine TL.no rfl ?_
    refine TL.no rfl ?_
    refine TL.no rfl ?_
    refine zs ?_
    refine TL.no rfl ?_
    refine TL.no rfl ?_
    refine TL.no rfl ?_
    refine TL.no rfl ?_
    refine TL.no rfl ?_
    refine TL.no rfl ?_
    refine TL.no rfl ?_
    refine TL.no rfl ?_
    refine TL.no rfl ?_
    refine zs ?_
    refine T.cond_t rfl (T.seq (T.live (l := []) .nil (fun e_ => ?_)))
    refine zs ?_
    have hshp : shpF kind = some (sa, sb, sc, true) := by rcases hsh with ⟨_, h⟩ | ⟨h, _⟩ <;> first | exact h | omega
    exact ⟨_, [], _, .cons (.tmp z_C) (.cons (.tmp z_C) .nil), Take.nil, encR_err (encF_count hshp (by first | (left; omega) | (right; left; omega) | (right; right; left; omega) | (right; right; right; exact ⟨rfl, by omega⟩)))⟩
   ·
    refine zs ?_
    refine z0 (V1.fieldAddr fl_46_2 rfl) ?_
    refine z0 (V1.load1 one_42 rfl (.own z_A (by rfl))) ?_
    refine z0 (V1.lenSl ty_42 rfl) ?_
    refine z0 (V1.fieldAddr fl_109_1 rfl) ?_
    refine z0 (V1.load1 one_3 rfl (.own z_A (by rfl))) ?_
    refine TL.cons rfl (T1.neI_split rfl rfl (fun h4_12 => ?_) (fun h4_12 => ?_))
    ·
     refine zs ?_
     refine TL.no rfl ?_
     refine TL.no rfl ?_
     refine TL.no rfl ?_
     refine TL.no rfl ?_
     refine TL.no rfl ?_
     refine TL.no rfl ?_
     refine zs ?_
     refine TL.no rfl ?_
     refine TL.no rfl ?_
     refine TL.no rfl ?_
     refine TL.no rfl ?_
     refine TL.no rfl ?_
     refine TL.no rfl ?_
     refine TL.no rfl ?_
     refine TL.no rfl ?_
     refine TL.no rfl ?_
     refine zs ?_
     refine T.cond_t rfl (T.seq (T.live (l := []) .nil (fun e_ => ?_)))
     refine zs ?_
     have hshp : shpF kind = some (sa, sb, sc, true) := by rcases hsh with ⟨_, h⟩ | ⟨h, _⟩ <;> first | exact h | omega
     exact ⟨_, [], _, .cons (.tmp z_C) (.cons (.tmp z_C) .nil), Take.nil, encR_err (encF_count hshp (by first | (left; omega) | (right; left; omega) | (right; right; left; omega) | (right; right; right; exact ⟨rfl, by omega⟩)))⟩
    ·
     refine zs ?_
     refine z0 (V1.fieldAddr fl_46_3 rfl) ?_
     refine z0 (V1.load1 one_43 rfl (.own z_A (by rfl))) ?_
     refine z0 (V1.lenSl ty_43 rfl) ?_
     refine z0 (V1.fieldAddr fl_109_2 rfl) ?_
     refine z0 (V1.load1 one_3 rfl (.own z_A (by rfl))) ?_
     refine TL.cons rfl (T1.neI_split rfl rfl (fun h4_20 => ?_) (fun h4_20 => ?_))
     ·
      refine zs ?_
      refine TL.no rfl ?_
      refine TL.no rfl ?_
      refine TL.no rfl ?_
      refine TL.no rfl ?_
      refine TL.no rfl ?_
      refine TL.no rfl ?_
      refine TL.no rfl ?_
      refine TL.no rfl ?_
      refine TL.no rfl ?_
      refine zs ?_
      refine T.cond_t rfl (T.seq (T.live (l := []) .nil (fun e_ => ?_)))
      refine zs ?_
      have hshp : shpF kind = some (sa, sb, sc, true) := by rcases hsh with ⟨_, h⟩ | ⟨h, _⟩ <;> first | exact h | omega
      exact ⟨_, [], _, .cons (.tmp z_C) (.cons (.tmp z_C) .nil), Take.nil, encR_err (encF_count hshp (by first | (left; omega) | (right; left; omega) | (right; right; left; omega) | (right; right; right; exact ⟨rfl, by omega⟩)))⟩
     ·
      refine zs ?_
      refine z0 (V1.fieldAddr fl_109_3 rfl) ?_
      refine z0 (V1.load1 one_4 rfl (.own z_A (by rfl))) ?_
      refine zq (V1.not rfl rfl) ?_
      refine TL.no rfl ?_
      refine TL.no rfl ?_
      refine TL.no rfl ?_
      refine TL.no rfl ?_
      refine zs ?_
      refine T.cond_f rfl (T.seq (T.live (l := [(1, _), (4, _)]) zT (fun e_ => ?_)))
      refine T.region (z0 (V1.fieldAddr fl_46_4 rfl) ?_)
      refine z0 (V1.load1 one_44 rfl (.own z_A (by rfl))) ?_
      refine z0 (V1.lenSl ty_44 rfl) ?_
      refine TL.cons rfl (T1.gtI_split rfl rfl (fun h6_3 => ?_) (fun h6_3 => ?_))
      ·
       refine zs ?_
       refine T.cond_t rfl (zs ?_)
       have hshp : shpF kind = some (sa, sb, sc, true) := by rcases hsh with ⟨_, h⟩ | ⟨h, _⟩ <;> first | exact h | omega
       exact ⟨_, [], _, .cons (.tmp z_C) (.cons (.tmp z_C) .nil), Take.nil, encR_err (encF_long hshp (by omega) (by omega) (by omega) (by first | exact .inl rfl | (right; omega)) (by omega))⟩
      ·
       refine zs ?_
       refine T.cond_f rfl (zs ?_)
       refine z0 (V1.fieldAddr fl_46_0 rfl) ?_
       have hshp : shpF kind = some (sa, sb, sc, true) := by rcases hsh with ⟨_, h⟩ | ⟨h, _⟩ <;> first | exact h | omega
       have hkr := shp_range hshp
       refine z0 (V1.load1 one_3 rfl (.own z_A (by rfl))) ?_
       refine z0 (V1.conv ty_3 ty_5 rfl (u8_kind (by omega) (by omega))) ?_
       refine TL.cons rfl (T1.buildSl1 (os := [.tmp 64]) ty_44 sz_5 zr_5 (by decide) rfl (.cons z_C .nil) rfl (ones rfl) (fun b65 => ?_))
       refine z0 (V1.buildF pl_113 zr_113 (.one rfl z_C rfl .nil) z_I) ?_
       refine TL.cons rfl (T1.allocN 1 zr_113 rfl (fun b6 => ?_))
       refine TL.cons rfl (T1.storeN rfl rfl sz_113 (ones rfl) z_H (by rfl) (by rfl) ?_)
       refine zs ?_
       refine z0 (V1.fieldAddr fl_46_1 rfl) ?_
       refine z0 (V1.load1 one_41 rfl (.own z_A (by rfl))) ?_
       refine zq1 (V1.lenSl ty_41 rfl) ?_
       refine T.block (T.loopL (σ := Nat × Value × List Blk) (l0 := [(1, _), (4, _), (6, _), (68, _), (69, _)]) (fun x => [(70, .int .i64 (x.1 : Nat))]) (fun x L => L = ⟨b6, 0, [x.2.1], 1⟩ :: ⟨b4, 0, [.int .i64 sa, .int .i64 sb, .int .i64 sc, .bool true], 4⟩ :: ⟨b1, 0, [.int .i64 kind, .slice ak keys.length ck, .slice an nums.length cn, .slice ags sigs.length cs, .slice ad data.length cd], 5⟩ :: x.2.2 ∧ x.1 ≤ keys.length ∧ Sl x.2.1 ((UInt8.ofNat kind.toNat :: (keys.take x.1).flatten).map byteV) 1 x.2.2) (fun x => keys.length - x.1) (0, _, _) (.cons rfl .nil) zT z_B (⟨rfl, Nat.zero_le _, Sl.mk (b := b65) (xs := [byteV (UInt8.ofNat kind.toNat)]) (len := 1) (cap := 1) (size := 1) rfl (Nat.le_refl _) (Nat.le_refl _)⟩) ?_)
       rintro ⟨k, s, Ls⟩ e_ L ⟨rfl, hkle, hsl⟩
       simp only at hkle hsl
       refine zs ?_
       refine TL.cons rfl (T1.ltI_split rfl rfl (fun h10_0 => ?_) (fun h10_0 => ?_))
       ·
        have hf1 := flat_len keys hkeys
        have hf2 := flatMap_be32_len (nums.take k)
        have hf3 := flatMap_be32_len nums
        rw [List.length_take] at hf2
        have hf4 := flat_len (keys.take k) (fun y hy => hkeys y (List.mem_of_mem_take hy))
        rw [List.length_take] at hf4
        have hkn : k < keys.length := by omega
        obtain ⟨bk, ok, rfl⟩ := hk.isSome (by omega)
        obtain ⟨x, hx⟩ : ∃ x, keys[k]? = some x := ⟨_, List.getElem?_eq_getElem hkn⟩
        have hxl : x.length = 32 := hkeys x (List.mem_of_getElem? hx)
        refine zs ?_
        refine T.cond_t rfl (zs ?_)
        refine z0 (V1.indexAddrS ty_41 sz_36 rfl rfl (by omega) (by omega)) ?_
        refine z0 (V1.loadN one_36 sz_36 rfl (hk.elemB rfl hkeys hkn hx) (by rw [List.length_map]; exact hxl)) ?_
        refine TL.cons rfl (T1.allocN 32 zr_36 rfl (fun b8 => ?_))
        refine TL.cons rfl (T1.storeN rfl rfl sz_36 (one_bytes x) z_H (by rw [List.length_map]; exact hxl) (by rw [List.length_map]; exact hxl) ?_)
        refine TL.nil ?_
        refine T.drawU mixed ?_
        refine TU.take 0 rfl z_F z_F z_F rfl (fun _ _ _ h => h) (fun _ => V1.fieldAddr fl_113_0 rfl) ?_
        refine TU.take 2 rfl z_F z_F z_F rfl (fun _ _ _ h => h) (fun _ => V1.sliceA ty_36 sz_5 rfl rfl rfl (by decide) (by decide) (by decide)) ?_
        refine TU.one 1 z_F rfl rfl (V1.t (V1.load1 one_44 rfl (.own z_A (by rfl))) ?_)
        refine TU.one 3 z_F rfl rfl (T1.append ty_44 kd_44 sz_5 by_5 zr_5 rfl (by decide) (by decide) rfl rfl hsl (.sl (RdN.whole z_A) (by rw [List.length_map]; exact hxl)) (one_bytes x) 1000 (by simp only [List.length_map, List.length_cons, List.length_append]; omega) (by omega) z_E (fun s' Ls' hsl' => ?_))
        refine TU.take 4 rfl z_F z_F z_F rfl (fun _ _ _ h => h) (fun _ => V1.fieldAddr fl_113_0 rfl) ?_
        refine TU.one 5 z_F rfl rfl (T1.store1 rfl rfl sz_44 hsl'.one z_H (Nat.zero_le _) z_K ?_)
        refine TU.done z_F ?_
        refine T.region (zq1 (V1.add rfl rfl (wrap_i64 _ (by omega) (by omega))) ?_)
        exact ⟨(k + 1, s', Ls'), _, _, z_N, (.cons rfl .nil), (.cons rfl (.cons rfl (.cons rfl (.cons rfl (.cons rfl .nil))))), z_B, ⟨rfl, by simp only; omega, by rw [take_succ_flatten keys k x hx]; simpa using hsl'⟩⟩
       ·
        refine zs ?_
        refine T.cond_f rfl (zs ?_)
        refine z0 (V1.fieldAddr fl_46_2 rfl) ?_
        refine z0 (V1.load1 one_42 rfl (.own z_A (by rfl))) ?_
        refine zq1 (V1.lenSl ty_42 rfl) ?_
        refine T.block (T.loopL (σ := Nat × Value × List Blk) (l0 := [(1, _), (4, _), (6, _), (81, _), (82, _)]) (fun x => [(83, .int .i64 (x.1 : Nat))]) (fun x L => L = ⟨b6, 0, [x.2.1], 1⟩ :: ⟨b4, 0, [.int .i64 sa, .int .i64 sb, .int .i64 sc, .bool true], 4⟩ :: ⟨b1, 0, [.int .i64 kind, .slice ak keys.length ck, .slice an nums.length cn, .slice ags sigs.length cs, .slice ad data.length cd], 5⟩ :: x.2.2 ∧ x.1 ≤ nums.length ∧ Sl x.2.1 ((UInt8.ofNat kind.toNat :: (keys.flatten ++ (nums.take x.1).flatMap be32)).map byteV) 1 x.2.2) (fun x => nums.length - x.1) (0, s, Ls) (.cons rfl .nil) zT z_B (⟨rfl, Nat.zero_le _, by (have hke : k = keys.length := (by omega)); subst hke; simpa using hsl⟩) ?_)
        rintro ⟨k, s, Ls⟩ e_ L ⟨rfl, hkle, hsl⟩
        simp only at hkle hsl
        refine zs ?_
        refine TL.cons rfl (T1.ltI_split rfl rfl (fun h15_0 => ?_) (fun h15_0 => ?_))
        ·
         have hf1 := flat_len keys hkeys
         have hf2 := flatMap_be32_len (nums.take k)
         have hf3 := flatMap_be32_len nums
         rw [List.length_take] at hf2
         have hkn : k < nums.length := by omega
         obtain ⟨bk, ok, rfl⟩ := hn.isSome (by omega)
         refine zs ?_
         refine T.cond_t rfl (zs ?_)
         refine z0 (V1.indexAddrS ty_42 sz_37 rfl rfl (by omega) (by omega)) ?_
         refine zq (V1.load1 one_37 rfl (hn.cell rfl (nums_get hkn))) ?_
         refine TL.cons rfl (T1.callP («as» := [.pointer (some ⟨b6, 0, none⟩), .int .u32 (nums[k] : Nat)]) has_44 rfl (fun w hs => fnumber_any b6 _ _ _ nums[k] w (hnums _ (List.getElem_mem hkn)) (by simp only [List.length_cons, List.length_append]; omega) hsl) z_B (fun v Y hv => ?_))
         obtain ⟨s', Ls', rfl, hsl'⟩ := hv
         refine zs ?_
         refine zq1 (V1.add rfl rfl (wrap_i64 _ (by omega) (by omega))) ?_
         exact ⟨(k + 1, s', Ls'), _, _, z_N, (.cons rfl .nil), (.cons rfl (.cons rfl (.cons rfl (.cons rfl (.cons rfl .nil))))), z_B, ⟨rfl, by simp only; omega, by rw [take_succ_flatMap hkn]; simpa using hsl'⟩⟩
        ·
         refine zs ?_
         refine T.cond_f rfl (zs ?_)
         refine z0 (V1.fieldAddr fl_46_3 rfl) ?_
         refine z0 (V1.load1 one_43 rfl (.own z_A (by rfl))) ?_
         refine zq1 (V1.lenSl ty_43 rfl) ?_
         refine T.block (T.loopL (σ := Nat × Value × List Blk) (l0 := [(1, _), (4, _), (6, _), (91, _), (92, _)]) (fun x => [(93, .int .i64 (x.1 : Nat))]) (fun x L => L = ⟨b6, 0, [x.2.1], 1⟩ :: ⟨b4, 0, [.int .i64 sa, .int .i64 sb, .int .i64 sc, .bool true], 4⟩ :: ⟨b1, 0, [.int .i64 kind, .slice ak keys.length ck, .slice an nums.length cn, .slice ags sigs.length cs, .slice ad data.length cd], 5⟩ :: x.2.2 ∧ x.1 ≤ sigs.length ∧ Sl x.2.1 ((UInt8.ofNat kind.toNat :: (keys.flatten ++ (nums.flatMap be32 ++ (sigs.take x.1).flatten))).map byteV) 1 x.2.2) (fun x => sigs.length - x.1) (0, s, Ls) (.cons rfl .nil) zT z_B (⟨rfl, Nat.zero_le _, by (have hke : k = nums.length := (by omega)); subst hke; simpa using hsl⟩) ?_)
         rintro ⟨k, s, Ls⟩ e_ L ⟨rfl, hkle, hsl⟩
         simp only at hkle hsl
         refine zs ?_
         refine TL.cons rfl (T1.ltI_split rfl rfl (fun h20_0 => ?_) (fun h20_0 => ?_))
         ·
          have hf1 := flat_len keys hkeys
          have hf2 := flatMap_be32_len (nums.take k)
          have hf3 := flatMap_be32_len nums
          rw [List.length_take] at hf2
          have hf4 := flat_len (sigs.take k) (fun y hy => hsigs y (List.mem_of_mem_take hy))
          rw [List.length_take] at hf4
          have hkn : k < sigs.length := by omega
          obtain ⟨bk, ok, rfl⟩ := hs.isSome (by omega)
          obtain ⟨x, hx⟩ : ∃ x, sigs[k]? = some x := ⟨_, List.getElem?_eq_getElem hkn⟩
          have hxl : x.length = 64 := hsigs x (List.mem_of_getElem? hx)
          refine zs ?_
          refine T.cond_t rfl (zs ?_)
          refine z0 (V1.indexAddrS ty_43 sz_74 rfl rfl (by omega) (by omega)) ?_
          refine z0 (V1.loadN one_74 sz_74 rfl (hs.elemB rfl hsigs hkn hx) (by rw [List.length_map]; exact hxl)) ?_
          refine TL.cons rfl (T1.allocN 64 zr_74 rfl (fun b12 => ?_))
          refine TL.cons rfl (T1.storeN rfl rfl sz_74 (one_bytes x) z_H (by rw [List.length_map]; exact hxl) (by rw [List.length_map]; exact hxl) ?_)
          refine TL.nil ?_
          refine T.drawU mixed ?_
          refine TU.take 0 rfl z_F z_F z_F rfl (fun _ _ _ h => h) (fun _ => V1.fieldAddr fl_113_0 rfl) ?_
          refine TU.take 2 rfl z_F z_F z_F rfl (fun _ _ _ h => h) (fun _ => V1.sliceA ty_74 sz_5 rfl rfl rfl (by decide) (by decide) (by decide)) ?_
          refine TU.one 1 z_F rfl rfl (V1.t (V1.load1 one_44 rfl (.own z_A (by rfl))) ?_)
          refine TU.one 3 z_F rfl rfl (T1.append ty_44 kd_44 sz_5 by_5 zr_5 rfl (by decide) (by decide) rfl rfl hsl (.sl (RdN.whole z_A) (by rw [List.length_map]; exact hxl)) (one_bytes x) 1000 (by simp only [List.length_map, List.length_cons, List.length_append]; omega) (by omega) z_E (fun s' Ls' hsl' => ?_))
          refine TU.take 4 rfl z_F z_F z_F rfl (fun _ _ _ h => h) (fun _ => V1.fieldAddr fl_113_0 rfl) ?_
          refine TU.one 5 z_F rfl rfl (T1.store1 rfl rfl sz_44 hsl'.one z_H (Nat.zero_le _) z_K ?_)
          refine TU.done z_F ?_
          refine T.region (zq1 (V1.add rfl rfl (wrap_i64 _ (by omega) (by omega))) ?_)
          exact ⟨(k + 1, s', Ls'), _, _, z_N, (.cons rfl .nil), (.cons rfl (.cons rfl (.cons rfl (.cons rfl (.cons rfl .nil))))), z_B, ⟨rfl, by simp only; omega, by rw [take_succ_flatten sigs k x hx]; simpa using hsl'⟩⟩
         ·
          refine zs ?_
          refine T.cond_f rfl (zs ?_)
          refine z0 (V1.fieldAddr fl_109_3 rfl) ?_
          refine z0 (V1.load1 one_4 rfl (.own z_A (by rfl))) ?_
          refine TL.nil ?_
          refine T.cond_t rfl (zs ?_)
          refine z0 (V1.fieldAddr fl_46_4 rfl) ?_
          have hke : k = sigs.length := by omega
          subst hke
          rw [List.take_length] at hsl
          have hl1 := flat_len keys hkeys
          have hl2 := flat_len sigs hsigs
          have hl3 := flatMap_be32_len nums
          refine z0 (V1.load1 one_44 rfl (.own z_A (by rfl))) ?_
          refine z0 (V1.lenSl ty_44 rfl) ?_
          refine z0 (V1.conv ty_3 ty_37 rfl (wrap_u32 _ (by omega) (by omega))) ?_
          refine TL.cons rfl (T1.callP («as» := [.pointer (some ⟨b6, 0, none⟩), .int .u32 (data.length : Nat)]) has_44 rfl (fun w hs => fnumber_any b6 _ _ _ data.length w (by omega) (by simp only [List.length_cons, List.length_append]; omega) hsl) z_B (fun v Y hv => ?_))
          obtain ⟨s', Ls', rfl, hsl'⟩ := hv
          refine zs ?_
          refine z0 (V1.fieldAddr fl_113_0 rfl) ?_
          refine z0 (V1.load1 one_44 rfl (.own z_A (by rfl))) ?_
          refine z0 (V1.fieldAddr fl_46_4 rfl) ?_
          refine z0 (V1.load1 one_44 rfl (.own z_A (by rfl))) ?_
          refine TL.cons rfl (T1.append ty_44 kd_44 sz_5 by_5 zr_5 rfl (by decide) (by decide) rfl rfl hsl' (hd.2 _ rfl rfl _) (one_bytes data) 20000 (by simp only [List.length_map, List.length_cons, List.length_append, be32, List.length_nil]; omega) (by omega) z_E (fun s2 Ls2 hsl2 => ?_))
          refine z0 (V1.fieldAddr fl_113_0 rfl) ?_
          refine TL.cons rfl (T1.store1 rfl rfl sz_44 hsl2.one z_H (Nat.zero_le _) z_K ?_)
          refine TL.nil ?_
          refine T.seq (T.live (l := [(6, _)]) zT (fun e_ => ?_))
          refine T.region (z0 (V1.fieldAddr fl_113_0 rfl) ?_)
          refine zq (V1.load1 one_44 rfl (.own z_A (by rfl))) ?_
          exact ⟨_, Ls2, _, .cons (.tmp z_C) (.cons (.tmp z_C) .nil), z_B, encR_ok (encF_ok hshp (by omega) (by omega) (by omega) (.inl rfl) (by omega)) (by simpa using hsl2)⟩
theorem Encode_any (kind : Int) (keys : List (List UInt8)) (nums : List Nat) (sigs : List (List UInt8)) (data : List UInt8) (vk vn vs vd : Value) (w : World)
 (hk : SlR w vk 32 keys.length (keys.flatten.map byteV)) (hkeys : ∀ x ∈ keys, x.length = 32) (hn : SlR w vn 1 nums.length (nums.map u32V)) (hnums : ∀ x ∈ nums, x < 4294967296) (hs : SlR w vs 64 sigs.length (sigs.flatten.map byteV)) (hsigs : ∀ x ∈ sigs, x.length = 64) (hd : SlR w vd 1 data.length (data.map byteV)) :
 Fn P 20 [.agg (List.toArray [.int .i64 kind, vk, vn, vs, vd])] w [] (encR kind keys nums sigs data) :=
 Encode_src kind keys nums sigs data vk vn vs vd w hk hkeys hn hnums hs hsigs ⟨hd.form, fun C h0 hm L => by subst h0; exact hd.src hm⟩
end Go.Proofs.YtfjedhmffccgnaaGreatDoor.S
