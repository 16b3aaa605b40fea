/- The document's Encode. -/
import Derived.Test.YtijijaobialncaaFr3
namespace Go.Proofs.Ytijijaobialncaa.S
open Go.RowKit

/-- What the document's Encode hands back. -/
def encS (kind : Int) (keys : List (List UInt8)) (nums : List Nat) (sigs : List (List UInt8)) (data : List UInt8) : Value :=
  match encF kind keys nums sigs data with
  | .error c => .tuple #[.string (bstr []), .int .i64 c]
  | .ok bytes => .tuple #[.string (bstr bytes), .int .i64 0]
theorem encS_err {kind : Int} {keys : List (List UInt8)} {nums : List Nat} {sigs : List (List UInt8)} {data : List UInt8} {e : Int} (h : encF kind keys nums sigs data = .error e) : (.tuple #[.string (bstr []), .int .i64 e] : Value) = encS kind keys nums sigs data := by
  unfold encS; rw [h]
theorem encS_ok {kind : Int} {keys : List (List UInt8)} {nums : List Nat} {sigs : List (List UInt8)} {data : List UInt8} {l : List UInt8} (h : encF kind keys nums sigs data = .ok l) {l' : List UInt8} (hl : l' = l) : (.tuple #[.string (bstr l'), .int .i64 0] : Value) = encS kind keys nums sigs data := by
  unfold encS; rw [h, hl]
theorem shapeR_cases (k : Int) : (∃ a b c : Nat, a ≤ 4 ∧ b ≤ 3 ∧ c ≤ 1 ∧ shp k = some (a, b, c, true) ∧ shapeR k = .tuple #[.agg #[.int .i64 a, .int .i64 b, .int .i64 c, .int .i64 1], .bool true]) ∨
    (∃ a b c : Nat, a ≤ 4 ∧ b ≤ 3 ∧ c ≤ 1 ∧ shp k = some (a, b, c, false) ∧ shapeR k = .tuple #[.agg #[.int .i64 a, .int .i64 b, .int .i64 c, .int .i64 0], .bool true]) ∨
    (∃ a b c : Nat, a = 0 ∧ b = 0 ∧ c = 0 ∧ shp k = none ∧ shapeR k = .tuple #[.agg #[.int .i64 a, .int .i64 b, .int .i64 c, .int .i64 0], .bool false]) := by
  rcases kinds k with rfl | rfl | rfl | rfl | rfl | rfl | rfl | ⟨hk, hn⟩
  · exact .inr (.inl ⟨4, 2, 1, by omega, by omega, by omega, rfl, rfl⟩)
  · exact .inl ⟨3, 2, 0, by omega, by omega, by omega, rfl, rfl⟩
  · exact .inl ⟨1, 2, 0, by omega, by omega, by omega, rfl, rfl⟩
  · exact .inr (.inl ⟨3, 2, 0, by omega, by omega, by omega, rfl, rfl⟩)
  · exact .inl ⟨1, 2, 1, by omega, by omega, by omega, rfl, rfl⟩
  · exact .inl ⟨3, 3, 1, by omega, by omega, by omega, rfl, rfl⟩
  · exact .inl ⟨1, 1, 0, by omega, by omega, by omega, rfl, rfl⟩
  · exact .inr (.inr ⟨0, 0, 0, rfl, rfl, rfl, hn, by unfold shapeR; rw [hn]; rfl⟩)
theorem take_one_more {l : List UInt8} {k : Nat} {c : UInt8} (h : l[k]? = some c) : l.take (k + 1) = l.take k ++ [c] := by
  rw [List.take_add_one, h]; rfl

set_option maxRecDepth 100000 in
set_option maxHeartbeats 2000000 in
theorem refEncode_any (kind : Int) (keys : List (List UInt8)) (nums : List Nat) (sigs : List (List UInt8)) (data : List UInt8) (vk vn vs vd : Value) (w : World)
    (hk : SlR w vk 32 keys.length (keys.flatten.map byteV)) (hkeys : ∀ x ∈ keys, x.length = 32) (hn : SlR w vn 1 nums.length (nums.map u32V)) (hnums : ∀ x ∈ nums, x < 4294967296) (hs : SlR w vs 64 sigs.length (sigs.flatten.map byteV)) (hsigs : ∀ x ∈ sigs, x.length = 64) (hd : SlR w vd 1 data.length (data.map byteV)) : Fn P 50 [.agg (List.toArray [.int .i64 kind, vk, vn, vs, vd])] w [] (fun v Y => Y = [] ∧ v = encS kind keys nums sigs data) := by
  obtain ⟨ak, ck, rfl⟩ := hk.form
  obtain ⟨an, cn, rfl⟩ := hn.form
  obtain ⟨ags, cs, rfl⟩ := hs.form
  obtain ⟨ad, cd, rfl⟩ := hd.form
  refine Fn.of 138 [.tmp 2, .tmp 3] Go.Proofs.Try.func50 rfl rfl rfl rfl ?_
  refine T.seq ?_
  refine T.region ?_
  refine TL.cons rfl (T1.boxN 5 rfl rfl (fun b1 => ?_))
  refine TL.cons rfl (V1.t (V1.assign' z_B) ?_)
  refine TL.cons rfl (V1.t (V1.assign' z_B) ?_)
  refine TL.nil ?_
  refine T.seq ?_
  refine T.region ?_
  refine TL.cons rfl (V1.t (V1.fieldAddr fl_39_0 rfl) ?_)
  refine TL.cons rfl (V1.t (V1.load1 one_3 rfl (.own z_D (by rfl))) ?_)
  refine TL.cons rfl (T1.call0 has_55 rfl (fun w hs => refShape_any _ w) (fun v hv => ?_))
  rcases shapeR_cases kind with ⟨sa, sb, sc, ha, hb, hc, hshp, h2⟩ | ⟨sa, sb, sc, ha, hb, hc, hshp, h2⟩ | ⟨sa, sb, sc, ha, hb, hc, hshp, h2⟩ <;> rw [h2] at hv <;> subst hv
  ·
    refine TL.cons rfl (V1.t (V1.move' z_B) ?_)
    refine TL.cons rfl (V1.t (V1.extract rfl (by rfl)) ?_)
    refine TL.cons rfl (V1.t (V1.extract rfl (by rfl)) ?_)
    refine TL.cons rfl (T1.allocN 4 zr_123 rfl (fun b4 => ?_))
    refine TL.cons rfl (T1.storeN rfl rfl sz_123 (ones rfl) z_H (by rfl) (by rfl) ?_)
    refine TL.cons rfl (V1.t (V1.assign' z_B) ?_)
    refine TL.nil ?_
    refine T.seq ?_
    refine T.seq ?_
    refine T.region ?_
    refine TL.cons rfl (V1.t (V1.move' z_B) ?_)
    refine TL.cons rfl (V1.t (V1.not rfl rfl) ?_)
    refine TL.cons rfl (V1.t (V1.move' z_B) ?_)
    refine TL.cons rfl (V1.t (V1.fieldAddr fl_39_1 rfl) ?_)
    refine TL.cons rfl (V1.t (V1.load1 one_35 rfl (.own z_D (by rfl))) ?_)
    refine TL.cons rfl (V1.t (V1.lenSl ty_35 rfl) ?_)
    refine TL.cons rfl (V1.t (V1.indexAddrA ty_123 sz_3 rfl rfl (by decide) (by decide)) ?_)
    refine TL.cons rfl (V1.t (V1.load1 one_3 rfl (.own z_D (by rfl))) ?_)
    refine TL.cons rfl (T1.neI_split rfl rfl (fun h2_8 => ?_) (fun h2_8 => ?_))
    ·
      refine TL.cons rfl (V1.t (V1.pick rfl z_B) ?_)
      refine TL.cons rfl (V1.t (V1.move' z_B) ?_)
      refine TL.no rfl ?_
      refine TL.no rfl ?_
      refine TL.no rfl ?_
      refine TL.no rfl ?_
      refine TL.no rfl ?_
      refine TL.no rfl ?_
      refine TL.cons rfl (V1.t (V1.pick rfl z_B) ?_)
      refine TL.cons rfl (V1.t (V1.move' z_B) ?_)
      refine TL.no rfl ?_
      refine TL.no rfl ?_
      refine TL.no rfl ?_
      refine TL.no rfl ?_
      refine TL.no rfl ?_
      refine TL.no rfl ?_
      refine TL.cons rfl (V1.t (V1.pick rfl z_B) ?_)
      refine TL.cons rfl (V1.t (V1.move' z_B) ?_)
      refine TL.no rfl ?_
      refine TL.no rfl ?_
      refine TL.no rfl ?_
      refine TL.no rfl ?_
      refine TL.no rfl ?_
      refine TL.no rfl ?_
      refine TL.no rfl ?_
      refine TL.no rfl ?_
      refine TL.no rfl ?_
      refine TL.cons rfl (V1.t (V1.pick rfl z_B) ?_)
      refine TL.nil ?_
      refine T.cond_t rfl ?_
      refine T.seq ?_
      refine T.live (l := []) .nil (fun e_ => ?_)
      refine T.region ?_
      refine TL.cons rfl (V1.t (V1.assign' z_B) ?_)
      refine TL.cons rfl (V1.t (V1.assign' z_B) ?_)
      refine TL.nil ?_
      refine T.ret ?_
      exact ⟨_, [], _, .cons (.tmp z_B) (.cons (.tmp z_B) .nil), z_A, rfl, encS_err (encF_count hshp (by first | (left; omega) | (right; left; omega) | (right; right; left; omega) | (right; right; right; exact ⟨rfl, by omega⟩)))⟩
    ·
      refine TL.cons rfl (V1.t (V1.pick rfl z_B) ?_)
      refine TL.cons rfl (V1.t (V1.move' z_B) ?_)
      refine TL.cons rfl (V1.t (V1.fieldAddr fl_39_2 rfl) ?_)
      refine TL.cons rfl (V1.t (V1.load1 one_36 rfl (.own z_D (by rfl))) ?_)
      refine TL.cons rfl (V1.t (V1.lenSl ty_36 rfl) ?_)
      refine TL.cons rfl (V1.t (V1.indexAddrA ty_123 sz_3 rfl rfl (by decide) (by decide)) ?_)
      refine TL.cons rfl (V1.t (V1.load1 one_3 rfl (.own z_D (by rfl))) ?_)
      refine TL.cons rfl (T1.neI_split rfl rfl (fun h2_16 => ?_) (fun h2_16 => ?_))
      ·
        refine TL.cons rfl (V1.t (V1.pick rfl z_B) ?_)
        refine TL.cons rfl (V1.t (V1.move' z_B) ?_)
        refine TL.no rfl ?_
        refine TL.no rfl ?_
        refine TL.no rfl ?_
        refine TL.no rfl ?_
        refine TL.no rfl ?_
        refine TL.no rfl ?_
        refine TL.cons rfl (V1.t (V1.pick rfl z_B) ?_)
        refine TL.cons rfl (V1.t (V1.move' z_B) ?_)
        refine TL.no rfl ?_
        refine TL.no rfl ?_
        refine TL.no rfl ?_
        refine TL.no rfl ?_
        refine TL.no rfl ?_
        refine TL.no rfl ?_
        refine TL.no rfl ?_
        refine TL.no rfl ?_
        refine TL.no rfl ?_
        refine TL.cons rfl (V1.t (V1.pick rfl z_B) ?_)
        refine TL.nil ?_
        refine T.cond_t rfl ?_
        refine T.seq ?_
        refine T.live (l := []) .nil (fun e_ => ?_)
        refine T.region ?_
        refine TL.cons rfl (V1.t (V1.assign' z_B) ?_)
        refine TL.cons rfl (V1.t (V1.assign' z_B) ?_)
        refine TL.nil ?_
        refine T.ret ?_
        exact ⟨_, [], _, .cons (.tmp z_B) (.cons (.tmp z_B) .nil), z_A, rfl, encS_err (encF_count hshp (by first | (left; omega) | (right; left; omega) | (right; right; left; omega) | (right; right; right; exact ⟨rfl, by omega⟩)))⟩
      ·
        refine TL.cons rfl (V1.t (V1.pick rfl z_B) ?_)
        refine TL.cons rfl (V1.t (V1.move' z_B) ?_)
        refine TL.cons rfl (V1.t (V1.fieldAddr fl_39_3 rfl) ?_)
        refine TL.cons rfl (V1.t (V1.load1 one_37 rfl (.own z_D (by rfl))) ?_)
        refine TL.cons rfl (V1.t (V1.lenSl ty_37 rfl) ?_)
        refine TL.cons rfl (V1.t (V1.indexAddrA ty_123 sz_3 rfl rfl (by decide) (by decide)) ?_)
        refine TL.cons rfl (V1.t (V1.load1 one_3 rfl (.own z_D (by rfl))) ?_)
        refine TL.cons rfl (T1.neI_split rfl rfl (fun h2_24 => ?_) (fun h2_24 => ?_))
        ·
          refine TL.cons rfl (V1.t (V1.pick rfl z_B) ?_)
          refine TL.cons rfl (V1.t (V1.move' z_B) ?_)
          refine TL.no rfl ?_
          refine TL.no rfl ?_
          refine TL.no rfl ?_
          refine TL.no rfl ?_
          refine TL.no rfl ?_
          refine TL.no rfl ?_
          refine TL.no rfl ?_
          refine TL.no rfl ?_
          refine TL.no rfl ?_
          refine TL.cons rfl (V1.t (V1.pick rfl z_B) ?_)
          refine TL.nil ?_
          refine T.cond_t rfl ?_
          refine T.seq ?_
          refine T.live (l := []) .nil (fun e_ => ?_)
          refine T.region ?_
          refine TL.cons rfl (V1.t (V1.assign' z_B) ?_)
          refine TL.cons rfl (V1.t (V1.assign' z_B) ?_)
          refine TL.nil ?_
          refine T.ret ?_
          exact ⟨_, [], _, .cons (.tmp z_B) (.cons (.tmp z_B) .nil), z_A, rfl, encS_err (encF_count hshp (by first | (left; omega) | (right; left; omega) | (right; right; left; omega) | (right; right; right; exact ⟨rfl, by omega⟩)))⟩
        ·
          refine TL.cons rfl (V1.t (V1.pick rfl z_B) ?_)
          refine TL.cons rfl (V1.t (V1.move' z_B) ?_)
          refine TL.cons rfl (V1.t (V1.indexAddrA ty_123 sz_3 rfl rfl (by decide) (by decide)) ?_)
          refine TL.cons rfl (V1.t (V1.load1 one_3 rfl (.own z_D (by rfl))) ?_)
          refine TL.cons rfl (V1.t (V1.eqI rfl rfl (decide_eq_false (by omega))) ?_)
          refine TL.cons rfl (V1.t (V1.move' z_B) ?_)
          refine TL.no rfl ?_
          refine TL.no rfl ?_
          refine TL.no rfl ?_
          refine TL.no rfl ?_
          refine TL.cons rfl (V1.t (V1.pick rfl z_B) ?_)
          refine TL.cons rfl (V1.t (V1.pick rfl z_B) ?_)
          refine TL.nil ?_
          refine T.cond_f rfl ?_
          refine T.skip ?_
          refine T.seq ?_
          refine T.seq ?_
          refine T.live (l := [(1, _), (4, _)]) (.cons z_B (.cons z_B .nil)) (fun e_ => ?_)
          refine T.region ?_
          refine TL.cons rfl (V1.t (V1.fieldAddr fl_39_4 rfl) ?_)
          refine TL.cons rfl (V1.t (V1.load1 one_29 rfl (.own z_D (by rfl))) ?_)
          refine TL.cons rfl (V1.t (V1.lenSl ty_29 rfl) ?_)
          refine TL.cons rfl (T1.gtI_split rfl rfl (fun h4_3 => ?_) (fun h4_3 => ?_))
          ·
            refine TL.nil ?_
            refine T.cond_t rfl ?_
            refine T.seq ?_
            refine T.region ?_
            refine TL.cons rfl (V1.t (V1.assign' z_B) ?_)
            refine TL.cons rfl (V1.t (V1.assign' z_B) ?_)
            refine TL.nil ?_
            refine T.ret ?_
            exact ⟨_, [], _, .cons (.tmp z_B) (.cons (.tmp z_B) .nil), z_A, rfl, encS_err (encF_long hshp (by omega) (by omega) (by omega) (by first | exact .inl rfl | (right; omega)) (by omega))⟩
          ·
            refine TL.nil ?_
            refine T.cond_f rfl ?_
            refine T.skip ?_
            refine T.seq ?_
            refine T.region ?_
            refine TL.cons rfl (V1.t (V1.fieldAddr fl_39_0 rfl) ?_)
            have hkr := shp_range hshp
            have hl1 := flat_len keys hkeys
            have hl2 := flat_len sigs hsigs
            have hl3 := flatMap_be32_len nums
            refine TL.cons rfl (V1.t (V1.load1 one_3 rfl (.own z_D (by rfl))) ?_)
            refine TL.cons rfl (V1.t (V1.conv ty_3 ty_5 rfl (u8_kind (by omega) (by omega))) ?_)
            refine TL.cons rfl (T1.buildSl1 (os := [.tmp 61]) ty_29 sz_5 zr_5 (by decide) rfl (.cons z_B .nil) rfl (ones rfl) (fun b62 => ?_))
            refine TL.cons rfl (V1.t (V1.bytesToStr (l := [UInt8.ofNat kind.toNat]) ty_29 ty_5 ty_9 rfl (.sl (RdN.whole z_D) (by rfl)) (by intro b h; cases h)) ?_)
            refine TL.cons rfl (V1.t (V1.assign' z_B) ?_)
            refine TL.nil ?_
            refine T.seq ?_
            refine T.seq ?_
            refine T.region ?_
            refine TL.cons rfl (V1.t (V1.assign' z_B) ?_)
            refine TL.nil ?_
            refine T.block ?_
            refine T.loopL (σ := Nat) (l0 := [(1, _), (4, _)]) (fun x => [(6, .string (bstr (UInt8.ofNat kind.toNat :: (keys.flatten.take (32 * x))))), (7, .int .i64 (x : Nat))]) (fun x L => L = ⟨b4, 0, [.int .i64 sa, .int .i64 sb, .int .i64 sc, .int .i64 1], 4⟩ :: ⟨b1, 0, [.int .i64 kind, .slice ak keys.length ck, .slice an nums.length cn, .slice ags sigs.length cs, .slice ad data.length cd], 5⟩ :: [] ∧ x ≤ keys.length) (fun x => keys.length - x) 0 (.cons rfl (.cons rfl .nil)) (.cons z_B (.cons z_B .nil)) z_A (⟨rfl, Nat.zero_le _⟩) ?_
            rintro i e_ L ⟨rfl, hile⟩
            refine T.seq ?_
            refine T.seq ?_
            refine T.region ?_
            refine TL.cons rfl (V1.t (V1.move' z_B) ?_)
            refine TL.cons rfl (V1.t (V1.fieldAddr fl_39_1 rfl) ?_)
            refine TL.cons rfl (V1.t (V1.load1 one_35 rfl (.own z_D (by rfl))) ?_)
            refine TL.cons rfl (V1.t (V1.lenSl ty_35 rfl) ?_)
            refine TL.cons rfl (T1.ltI_split rfl rfl (fun h8_4 => ?_) (fun h8_4 => ?_))
            ·
              refine TL.nil ?_
              refine T.cond_t rfl ?_
              refine T.skip ?_
              refine T.seq ?_
              refine T.block ?_
              refine T.seq ?_
              refine T.region ?_
              refine TL.cons rfl (V1.t (V1.assign' z_B) ?_)
              refine TL.nil ?_
              refine T.block ?_
              refine T.loopL (σ := Nat) (l0 := [(1, _), (4, _), (7, _)]) (fun x => [(6, .string (bstr (UInt8.ofNat kind.toNat :: (keys.flatten.take (32 * i + x))))), (8, .int .i64 (x : Nat))]) (fun x L => L = ⟨b4, 0, [.int .i64 sa, .int .i64 sb, .int .i64 sc, .int .i64 1], 4⟩ :: ⟨b1, 0, [.int .i64 kind, .slice ak keys.length ck, .slice an nums.length cn, .slice ags sigs.length cs, .slice ad data.length cd], 5⟩ :: [] ∧ x ≤ 32) (fun x => 32 - x) 0 (.cons rfl (.cons rfl .nil)) (.cons z_B (.cons z_B (.cons z_B .nil))) z_A (⟨rfl, Nat.zero_le _⟩) ?_
              rintro j e_ L ⟨rfl, hjle⟩
              refine T.seq ?_
              refine T.seq ?_
              refine T.region ?_
              refine TL.cons rfl (V1.t (V1.move' z_B) ?_)
              refine TL.cons rfl (T1.ltI_split rfl rfl (fun h11_1 => ?_) (fun h11_1 => ?_))
              ·
                obtain ⟨bk, ok, rfl⟩ := hk.isSome (by omega)
                have hlt : 32 * i + j < keys.flatten.length := by omega
                have hi32 : i * 32 = 32 * i := Nat.mul_comm _ _
                obtain ⟨c, hx⟩ : ∃ c, keys.flatten[i * 32 + j]? = some c := ⟨_, List.getElem?_eq_getElem (by omega)⟩
                have hstep : ((UInt8.ofNat kind.toNat :: (keys.flatten.take (32 * i + j))) ++ [c]) = UInt8.ofNat kind.toNat :: (keys.flatten.take (32 * i + (j + 1))) := by rw [hi32] at hx; rw [← Nat.add_assoc, take_one_more hx]; simp
                have hf2 := List.length_take_le (32 * i + j) keys.flatten
                refine TL.nil ?_
                refine T.cond_t rfl ?_
                refine T.skip ?_
                refine T.seq ?_
                refine T.block ?_
                refine T.region ?_
                refine TL.cons rfl (V1.t (V1.move' z_B) ?_)
                refine TL.cons rfl (V1.t (V1.fieldAddr fl_39_1 rfl) ?_)
                refine TL.cons rfl (V1.t (V1.load1 one_35 rfl (.own z_D (by rfl))) ?_)
                refine TL.cons rfl (V1.t (V1.move' z_B) ?_)
                refine TL.cons rfl (V1.t (V1.move' z_B) ?_)
                refine TL.cons rfl (V1.t (V1.indexAddrS ty_35 sz_60 rfl rfl (by omega) (by omega)) ?_)
                refine TL.cons rfl (V1.t (V1.indexAddrA ty_60 sz_5 rfl rfl (by omega) (by omega)) ?_)
                refine TL.cons rfl (V1.t (V1.load1 one_5 rfl (hk.byte rfl hx)) ?_)
                refine TL.cons rfl (T1.buildSl1 (os := [.tmp 82]) ty_29 sz_5 zr_5 (by decide) rfl (.cons z_B .nil) rfl (ones rfl) (fun b83 => ?_))
                refine TL.cons rfl (V1.t (V1.bytesToStr (l := [c]) ty_29 ty_5 ty_9 rfl (.sl (RdN.whole z_D) (by rfl)) (by intro b h; cases h)) ?_)
                refine TL.cons rfl (V1.t (V1.addB rfl rfl (by simp only [List.length_cons, List.length_append, List.length_nil]; omega)) ?_)
                refine TL.cons rfl (V1.t (V1.assign' z_B) ?_)
                refine TL.nil ?_
                refine T.region ?_
                refine TL.cons rfl (V1.t (V1.move' z_B) ?_)
                refine TL.cons rfl (V1.t (V1.add rfl rfl (wrap_i64 _ (by omega) (by omega))) ?_)
                refine TL.cons rfl (V1.t (V1.assign' z_B) ?_)
                refine TL.nil ?_
                exact ⟨j + 1, _, _, (by simp only; omega), (.cons (congrArg (fun l => Value.string (bstr l)) hstep) (.cons rfl .nil)), (.cons rfl (.cons rfl (.cons rfl .nil))), z_A, ⟨rfl, by omega⟩⟩
              ·
                obtain rfl : j = 32 := by omega
                refine TL.nil ?_
                refine T.cond_f rfl ?_
                refine T.exit ?_
                refine T.region ?_
                refine TL.cons rfl (V1.t (V1.move' z_B) ?_)
                refine TL.cons rfl (V1.t (V1.add rfl rfl (wrap_i64 _ (by omega) (by omega))) ?_)
                refine TL.cons rfl (V1.t (V1.assign' z_B) ?_)
                refine TL.nil ?_
                exact ⟨i + 1, _, _, (by simp only; omega), (.cons rfl (.cons rfl .nil)), (.cons rfl (.cons rfl .nil)), z_A, ⟨rfl, by omega⟩⟩
            ·
              refine TL.nil ?_
              refine T.cond_f rfl ?_
              refine T.exit ?_
              refine T.seq ?_
              refine T.seq ?_
              refine T.region ?_
              refine TL.cons rfl (V1.t (V1.assign' z_B) ?_)
              refine TL.nil ?_
              refine T.block ?_
              obtain rfl : i = keys.length := by omega
              have h60 : (UInt8.ofNat kind.toNat :: (keys.flatten.take (32 * keys.length))) = UInt8.ofNat kind.toNat :: (keys.flatten ++ (nums.take 0).flatMap be32) := by rw [List.take_of_length_le (by omega)]; simp
              refine T.loopL (σ := Nat) (l0 := [(1, _), (4, _)]) (fun x => [(6, .string (bstr (UInt8.ofNat kind.toNat :: (keys.flatten ++ (nums.take x).flatMap be32)))), (9, .int .i64 (x : Nat))]) (fun x L => L = ⟨b4, 0, [.int .i64 sa, .int .i64 sb, .int .i64 sc, .int .i64 1], 4⟩ :: ⟨b1, 0, [.int .i64 kind, .slice ak keys.length ck, .slice an nums.length cn, .slice ags sigs.length cs, .slice ad data.length cd], 5⟩ :: [] ∧ x ≤ nums.length) (fun x => nums.length - x) 0 (.cons (congrArg (fun l => Value.string (bstr l)) h60) (.cons rfl .nil)) (.cons z_B (.cons z_B .nil)) z_A (⟨rfl, Nat.zero_le _⟩) ?_
              rintro m e_ L ⟨rfl, hmle⟩
              refine T.seq ?_
              refine T.seq ?_
              refine T.region ?_
              refine TL.cons rfl (V1.t (V1.move' z_B) ?_)
              refine TL.cons rfl (V1.t (V1.fieldAddr fl_39_2 rfl) ?_)
              refine TL.cons rfl (V1.t (V1.load1 one_36 rfl (.own z_D (by rfl))) ?_)
              refine TL.cons rfl (V1.t (V1.lenSl ty_36 rfl) ?_)
              refine TL.cons rfl (T1.ltI_split rfl rfl (fun h15_4 => ?_) (fun h15_4 => ?_))
              ·
                obtain ⟨bk, ok, rfl⟩ := hn.isSome (by omega)
                have hmn : m < nums.length := by omega
                have hf2 := flatMap_be32_len (nums.take m)
                rw [List.length_take] at hf2
                have hum : nums[m] < 4294967296 := hnums _ (List.getElem_mem hmn)
                have hstep : ((UInt8.ofNat kind.toNat :: (keys.flatten ++ (nums.take m).flatMap be32)) ++ be32 nums[m]) = UInt8.ofNat kind.toNat :: (keys.flatten ++ (nums.take (m + 1)).flatMap be32) := by rw [take_succ_flatMap hmn]; simp
                refine TL.nil ?_
                refine T.cond_t rfl ?_
                refine T.skip ?_
                refine T.seq ?_
                refine T.block ?_
                refine T.region ?_
                refine TL.cons rfl (V1.t (V1.move' z_B) ?_)
                refine TL.cons rfl (V1.t (V1.fieldAddr fl_39_2 rfl) ?_)
                refine TL.cons rfl (V1.t (V1.load1 one_36 rfl (.own z_D (by rfl))) ?_)
                refine TL.cons rfl (V1.t (V1.move' z_B) ?_)
                refine TL.cons rfl (V1.t (V1.indexAddrS ty_36 sz_27 rfl rfl (by omega) (by omega)) ?_)
                refine TL.cons rfl (V1.t (V1.load1 one_27 rfl (hn.cell rfl (nums_get hmn))) ?_)
                refine TL.cons rfl (V1.t (V1.conv ty_27 ty_3 rfl (wrap_i64 _ (by omega) (by omega))) ?_)
                refine TL.cons rfl (T1.call0 («as» := [.int .i64 (nums[m] : Nat)]) has_56 rfl (fun w hs => refnumber_any nums[m] w (by omega)) (fun v hv => ?_))
                subst hv
                refine TL.cons rfl (V1.t (V1.addB rfl rfl (by simp only [List.length_cons, List.length_append, be32, List.length_nil]; omega)) ?_)
                refine TL.cons rfl (V1.t (V1.assign' z_B) ?_)
                refine TL.nil ?_
                refine T.live (l := [(1, _), (4, _), (6, _), (9, _)]) (.cons z_B (.cons z_B (.cons z_B (.cons z_B .nil)))) (fun e_ => ?_)
                refine T.region ?_
                refine TL.cons rfl (V1.t (V1.move' z_B) ?_)
                refine TL.cons rfl (V1.t (V1.add rfl rfl (wrap_i64 _ (by omega) (by omega))) ?_)
                refine TL.cons rfl (V1.t (V1.assign' z_B) ?_)
                refine TL.nil ?_
                exact ⟨m + 1, _, _, (by simp only; omega), (.cons (congrArg (fun l => Value.string (bstr l)) hstep) (.cons rfl .nil)), (.cons rfl (.cons rfl .nil)), z_A, ⟨rfl, by omega⟩⟩
              ·
                refine TL.nil ?_
                refine T.cond_f rfl ?_
                refine T.exit ?_
                refine T.seq ?_
                refine T.seq ?_
                refine T.region ?_
                refine TL.cons rfl (V1.t (V1.assign' z_B) ?_)
                refine TL.nil ?_
                refine T.block ?_
                obtain rfl : m = nums.length := by omega
                have h61 : (UInt8.ofNat kind.toNat :: (keys.flatten ++ (nums.take nums.length).flatMap be32)) = UInt8.ofNat kind.toNat :: (keys.flatten ++ (nums.flatMap be32 ++ sigs.flatten.take (64 * 0))) := by rw [List.take_of_length_le (Nat.le_refl _)]; simp
                refine T.loopL (σ := Nat) (l0 := [(1, _), (4, _)]) (fun x => [(6, .string (bstr (UInt8.ofNat kind.toNat :: (keys.flatten ++ (nums.flatMap be32 ++ sigs.flatten.take (64 * x)))))), (10, .int .i64 (x : Nat))]) (fun x L => L = ⟨b4, 0, [.int .i64 sa, .int .i64 sb, .int .i64 sc, .int .i64 1], 4⟩ :: ⟨b1, 0, [.int .i64 kind, .slice ak keys.length ck, .slice an nums.length cn, .slice ags sigs.length cs, .slice ad data.length cd], 5⟩ :: [] ∧ x ≤ sigs.length) (fun x => sigs.length - x) 0 (.cons (congrArg (fun l => Value.string (bstr l)) h61) (.cons rfl .nil)) (.cons z_B (.cons z_B .nil)) z_A (⟨rfl, Nat.zero_le _⟩) ?_
                rintro i e_ L ⟨rfl, hile⟩
                refine T.seq ?_
                refine T.seq ?_
                refine T.region ?_
                refine TL.cons rfl (V1.t (V1.move' z_B) ?_)
                refine TL.cons rfl (V1.t (V1.fieldAddr fl_39_3 rfl) ?_)
                refine TL.cons rfl (V1.t (V1.load1 one_37 rfl (.own z_D (by rfl))) ?_)
                refine TL.cons rfl (V1.t (V1.lenSl ty_37 rfl) ?_)
                refine TL.cons rfl (T1.ltI_split rfl rfl (fun h19_4 => ?_) (fun h19_4 => ?_))
                ·
                  refine TL.nil ?_
                  refine T.cond_t rfl ?_
                  refine T.skip ?_
                  refine T.seq ?_
                  refine T.block ?_
                  refine T.seq ?_
                  refine T.region ?_
                  refine TL.cons rfl (V1.t (V1.assign' z_B) ?_)
                  refine TL.nil ?_
                  refine T.block ?_
                  refine T.loopL (σ := Nat) (l0 := [(1, _), (4, _), (10, _)]) (fun x => [(6, .string (bstr (UInt8.ofNat kind.toNat :: (keys.flatten ++ (nums.flatMap be32 ++ sigs.flatten.take (64 * i + x)))))), (11, .int .i64 (x : Nat))]) (fun x L => L = ⟨b4, 0, [.int .i64 sa, .int .i64 sb, .int .i64 sc, .int .i64 1], 4⟩ :: ⟨b1, 0, [.int .i64 kind, .slice ak keys.length ck, .slice an nums.length cn, .slice ags sigs.length cs, .slice ad data.length cd], 5⟩ :: [] ∧ x ≤ 64) (fun x => 64 - x) 0 (.cons rfl (.cons rfl .nil)) (.cons z_B (.cons z_B (.cons z_B .nil))) z_A (⟨rfl, Nat.zero_le _⟩) ?_
                  rintro j e_ L ⟨rfl, hjle⟩
                  refine T.seq ?_
                  refine T.seq ?_
                  refine T.region ?_
                  refine TL.cons rfl (V1.t (V1.move' z_B) ?_)
                  refine TL.cons rfl (T1.ltI_split rfl rfl (fun h22_1 => ?_) (fun h22_1 => ?_))
                  ·
                    obtain ⟨bk, ok, rfl⟩ := hs.isSome (by omega)
                    have hlt : 64 * i + j < sigs.flatten.length := by omega
                    have hi32 : i * 64 = 64 * i := Nat.mul_comm _ _
                    obtain ⟨c, hx⟩ : ∃ c, sigs.flatten[i * 64 + j]? = some c := ⟨_, List.getElem?_eq_getElem (by omega)⟩
                    have hstep : ((UInt8.ofNat kind.toNat :: (keys.flatten ++ (nums.flatMap be32 ++ sigs.flatten.take (64 * i + j)))) ++ [c]) = UInt8.ofNat kind.toNat :: (keys.flatten ++ (nums.flatMap be32 ++ sigs.flatten.take (64 * i + (j + 1)))) := by rw [hi32] at hx; rw [← Nat.add_assoc, take_one_more hx]; simp
                    have hf2 := List.length_take_le (64 * i + j) sigs.flatten
                    refine TL.nil ?_
                    refine T.cond_t rfl ?_
                    refine T.skip ?_
                    refine T.seq ?_
                    refine T.block ?_
                    refine T.region ?_
                    refine TL.cons rfl (V1.t (V1.move' z_B) ?_)
                    refine TL.cons rfl (V1.t (V1.fieldAddr fl_39_3 rfl) ?_)
                    refine TL.cons rfl (V1.t (V1.load1 one_37 rfl (.own z_D (by rfl))) ?_)
                    refine TL.cons rfl (V1.t (V1.move' z_B) ?_)
                    refine TL.cons rfl (V1.t (V1.move' z_B) ?_)
                    refine TL.cons rfl (V1.t (V1.indexAddrS ty_37 sz_86 rfl rfl (by omega) (by omega)) ?_)
                    refine TL.cons rfl (V1.t (V1.indexAddrA ty_86 sz_5 rfl rfl (by omega) (by omega)) ?_)
                    refine TL.cons rfl (V1.t (V1.load1 one_5 rfl (hs.byte rfl hx)) ?_)
                    refine TL.cons rfl (T1.buildSl1 (os := [.tmp 120]) ty_29 sz_5 zr_5 (by decide) rfl (.cons z_B .nil) rfl (ones rfl) (fun b121 => ?_))
                    refine TL.cons rfl (V1.t (V1.bytesToStr (l := [c]) ty_29 ty_5 ty_9 rfl (.sl (RdN.whole z_D) (by rfl)) (by intro b h; cases h)) ?_)
                    refine TL.cons rfl (V1.t (V1.addB rfl rfl (by simp only [List.length_cons, List.length_append, List.length_nil]; omega)) ?_)
                    refine TL.cons rfl (V1.t (V1.assign' z_B) ?_)
                    refine TL.nil ?_
                    refine T.region ?_
                    refine TL.cons rfl (V1.t (V1.move' z_B) ?_)
                    refine TL.cons rfl (V1.t (V1.add rfl rfl (wrap_i64 _ (by omega) (by omega))) ?_)
                    refine TL.cons rfl (V1.t (V1.assign' z_B) ?_)
                    refine TL.nil ?_
                    exact ⟨j + 1, _, _, (by simp only; omega), (.cons (congrArg (fun l => Value.string (bstr l)) hstep) (.cons rfl .nil)), (.cons rfl (.cons rfl (.cons rfl .nil))), z_A, ⟨rfl, by omega⟩⟩
                  ·
                    obtain rfl : j = 64 := by omega
                    refine TL.nil ?_
                    refine T.cond_f rfl ?_
                    refine T.exit ?_
                    refine T.region ?_
                    refine TL.cons rfl (V1.t (V1.move' z_B) ?_)
                    refine TL.cons rfl (V1.t (V1.add rfl rfl (wrap_i64 _ (by omega) (by omega))) ?_)
                    refine TL.cons rfl (V1.t (V1.assign' z_B) ?_)
                    refine TL.nil ?_
                    exact ⟨i + 1, _, _, (by simp only; omega), (.cons rfl (.cons rfl .nil)), (.cons rfl (.cons rfl .nil)), z_A, ⟨rfl, by omega⟩⟩
                ·
                  refine TL.nil ?_
                  refine T.cond_f rfl ?_
                  refine T.exit ?_
                  refine T.seq ?_
                  refine T.seq ?_
                  refine T.region ?_
                  refine TL.cons rfl (V1.t (V1.indexAddrA ty_123 sz_3 rfl rfl (by decide) (by decide)) ?_)
                  obtain rfl : i = sigs.length := by omega
                  have h62 : (UInt8.ofNat kind.toNat :: (keys.flatten ++ (nums.flatMap be32 ++ sigs.flatten.take (64 * sigs.length)))) = UInt8.ofNat kind.toNat :: (keys.flatten ++ (nums.flatMap be32 ++ sigs.flatten)) := by rw [List.take_of_length_le (by omega)]
                  refine TL.cons rfl (V1.t (V1.load1 one_3 rfl (.own z_D (by rfl))) ?_)
                  refine TL.cons rfl (V1.t (V1.eqI rfl rfl (decide_eq_true (by omega))) ?_)
                  refine TL.nil ?_
                  refine T.cond_t rfl ?_
                  refine T.drawU mixed ?_
                  refine TU.take 0 rfl z_F z_F z_F rfl (fun _ _ _ h => h) (fun _ => V1.move' z_B) ?_
                  refine TU.take 1 rfl z_F z_F z_F rfl (fun _ _ _ h => h) (fun _ => V1.fieldAddr fl_39_4 rfl) ?_
                  refine TU.take 5 rfl z_F z_F z_F rfl (fun _ _ _ h => h) (fun _ => V1.fieldAddr fl_39_4 rfl) ?_
                  refine TU.two 2 6 z_F rfl rfl rfl rfl (V1.t (V1.load1 one_29 rfl (.own z_D (by rfl))) ?_) (V1.t (V1.load1 one_29 rfl (.own z_D (by rfl))) ?_)
                  ·
                    refine TU.take 3 rfl z_F z_F z_F rfl (fun _ _ _ h => h) (fun _ => V1.lenSl ty_29 rfl) ?_
                    refine TU.two 4 6 z_F rfl rfl rfl rfl (T1.call0 («as» := [.int .i64 (data.length : Nat)]) has_56 rfl (fun w hs => refnumber_any data.length w (by omega)) (fun v hv => ?_)) (V1.t (V1.load1 one_29 rfl (.own z_D (by rfl))) ?_)
                    ·
                      subst hv
                      refine TU.one 6 z_F rfl rfl (V1.t (V1.load1 one_29 rfl (.own z_D (by rfl))) ?_)
                      refine TU.one 7 z_F rfl rfl (V1.t (V1.bytesToStr (l := data) ty_29 ty_5 ty_9 rfl (hd.src rfl) (by intro b h; cases h)) ?_)
                      refine TU.take 8 rfl z_F z_F z_F rfl (fun _ _ _ h => h) (fun _ => V1.addB rfl rfl (by simp only [List.length_cons, List.length_append, be32, List.length_nil]; omega)) ?_
                      refine TU.take 9 rfl z_F z_F z_F rfl (fun _ _ _ h => h) (fun _ => V1.addB rfl rfl (by rw [h62]; simp only [List.length_cons, List.length_append, be32, List.length_nil]; omega)) ?_
                      refine TU.take 10 rfl z_F z_F z_F rfl (fun _ _ _ h => h) (fun _ => V1.assign' z_B) ?_
                      refine TU.done z_F ?_
                      refine T.seq ?_
                      refine T.live (l := [(6, _)]) (.cons z_B .nil) (fun e_ => ?_)
                      refine T.region ?_
                      refine TL.cons rfl (V1.t (V1.move' z_B) ?_)
                      refine TL.cons rfl (V1.t (V1.assign' z_B) ?_)
                      refine TL.cons rfl (V1.t (V1.assign' z_B) ?_)
                      refine TL.nil ?_
                      refine T.ret ?_
                      exact ⟨_, [], _, .cons (.tmp z_B) (.cons (.tmp z_B) .nil), z_A, rfl, encS_ok (encF_ok hshp (by omega) (by omega) (by omega) (by first | exact .inl rfl | (right; omega)) (by omega)) (by rw [h62]; simp)⟩
                    ·
                      refine TU.two 4 7 z_F rfl rfl rfl rfl (T1.call0 («as» := [.int .i64 (data.length : Nat)]) has_56 rfl (fun w hs => refnumber_any data.length w (by omega)) (fun v hv => ?_)) (V1.t (V1.bytesToStr (l := data) ty_29 ty_5 ty_9 rfl (hd.src rfl) (by intro b h; cases h)) ?_)
                      ·
                        subst hv
                        refine TU.one 7 z_F rfl rfl (V1.t (V1.bytesToStr (l := data) ty_29 ty_5 ty_9 rfl (hd.src rfl) (by intro b h; cases h)) ?_)
                        refine TU.take 8 rfl z_F z_F z_F rfl (fun _ _ _ h => h) (fun _ => V1.addB rfl rfl (by simp only [List.length_cons, List.length_append, be32, List.length_nil]; omega)) ?_
                        refine TU.take 9 rfl z_F z_F z_F rfl (fun _ _ _ h => h) (fun _ => V1.addB rfl rfl (by rw [h62]; simp only [List.length_cons, List.length_append, be32, List.length_nil]; omega)) ?_
                        refine TU.take 10 rfl z_F z_F z_F rfl (fun _ _ _ h => h) (fun _ => V1.assign' z_B) ?_
                        refine TU.done z_F ?_
                        refine T.seq ?_
                        refine T.live (l := [(6, _)]) (.cons z_B .nil) (fun e_ => ?_)
                        refine T.region ?_
                        refine TL.cons rfl (V1.t (V1.move' z_B) ?_)
                        refine TL.cons rfl (V1.t (V1.assign' z_B) ?_)
                        refine TL.cons rfl (V1.t (V1.assign' z_B) ?_)
                        refine TL.nil ?_
                        refine T.ret ?_
                        exact ⟨_, [], _, .cons (.tmp z_B) (.cons (.tmp z_B) .nil), z_A, rfl, encS_ok (encF_ok hshp (by omega) (by omega) (by omega) (by first | exact .inl rfl | (right; omega)) (by omega)) (by rw [h62]; simp)⟩
                      ·
                        refine TU.one 4 z_F rfl rfl (T1.call0 («as» := [.int .i64 (data.length : Nat)]) has_56 rfl (fun w hs => refnumber_any data.length w (by omega)) (fun v hv => ?_))
                        subst hv
                        refine TU.take 8 rfl z_F z_F z_F rfl (fun _ _ _ h => h) (fun _ => V1.addB rfl rfl (by simp only [List.length_cons, List.length_append, be32, List.length_nil]; omega)) ?_
                        refine TU.take 9 rfl z_F z_F z_F rfl (fun _ _ _ h => h) (fun _ => V1.addB rfl rfl (by rw [h62]; simp only [List.length_cons, List.length_append, be32, List.length_nil]; omega)) ?_
                        refine TU.take 10 rfl z_F z_F z_F rfl (fun _ _ _ h => h) (fun _ => V1.assign' z_B) ?_
                        refine TU.done z_F ?_
                        refine T.seq ?_
                        refine T.live (l := [(6, _)]) (.cons z_B .nil) (fun e_ => ?_)
                        refine T.region ?_
                        refine TL.cons rfl (V1.t (V1.move' z_B) ?_)
                        refine TL.cons rfl (V1.t (V1.assign' z_B) ?_)
                        refine TL.cons rfl (V1.t (V1.assign' z_B) ?_)
                        refine TL.nil ?_
                        refine T.ret ?_
                        exact ⟨_, [], _, .cons (.tmp z_B) (.cons (.tmp z_B) .nil), z_A, rfl, encS_ok (encF_ok hshp (by omega) (by omega) (by omega) (by first | exact .inl rfl | (right; omega)) (by omega)) (by rw [h62]; simp)⟩
                  ·
                    refine TU.two 2 7 z_F rfl rfl rfl rfl (V1.t (V1.load1 one_29 rfl (.own z_D (by rfl))) ?_) (V1.t (V1.bytesToStr (l := data) ty_29 ty_5 ty_9 rfl (hd.src rfl) (by intro b h; cases h)) ?_)
                    ·
                      refine TU.take 3 rfl z_F z_F z_F rfl (fun _ _ _ h => h) (fun _ => V1.lenSl ty_29 rfl) ?_
                      refine TU.two 4 7 z_F rfl rfl rfl rfl (T1.call0 («as» := [.int .i64 (data.length : Nat)]) has_56 rfl (fun w hs => refnumber_any data.length w (by omega)) (fun v hv => ?_)) (V1.t (V1.bytesToStr (l := data) ty_29 ty_5 ty_9 rfl (hd.src rfl) (by intro b h; cases h)) ?_)
                      ·
                        subst hv
                        refine TU.one 7 z_F rfl rfl (V1.t (V1.bytesToStr (l := data) ty_29 ty_5 ty_9 rfl (hd.src rfl) (by intro b h; cases h)) ?_)
                        refine TU.take 8 rfl z_F z_F z_F rfl (fun _ _ _ h => h) (fun _ => V1.addB rfl rfl (by simp only [List.length_cons, List.length_append, be32, List.length_nil]; omega)) ?_
                        refine TU.take 9 rfl z_F z_F z_F rfl (fun _ _ _ h => h) (fun _ => V1.addB rfl rfl (by rw [h62]; simp only [List.length_cons, List.length_append, be32, List.length_nil]; omega)) ?_
                        refine TU.take 10 rfl z_F z_F z_F rfl (fun _ _ _ h => h) (fun _ => V1.assign' z_B) ?_
                        refine TU.done z_F ?_
                        refine T.seq ?_
                        refine T.live (l := [(6, _)]) (.cons z_B .nil) (fun e_ => ?_)
                        refine T.region ?_
                        refine TL.cons rfl (V1.t (V1.move' z_B) ?_)
                        refine TL.cons rfl (V1.t (V1.assign' z_B) ?_)
                        refine TL.cons rfl (V1.t (V1.assign' z_B) ?_)
                        refine TL.nil ?_
                        refine T.ret ?_
                        exact ⟨_, [], _, .cons (.tmp z_B) (.cons (.tmp z_B) .nil), z_A, rfl, encS_ok (encF_ok hshp (by omega) (by omega) (by omega) (by first | exact .inl rfl | (right; omega)) (by omega)) (by rw [h62]; simp)⟩
                      ·
                        refine TU.one 4 z_F rfl rfl (T1.call0 («as» := [.int .i64 (data.length : Nat)]) has_56 rfl (fun w hs => refnumber_any data.length w (by omega)) (fun v hv => ?_))
                        subst hv
                        refine TU.take 8 rfl z_F z_F z_F rfl (fun _ _ _ h => h) (fun _ => V1.addB rfl rfl (by simp only [List.length_cons, List.length_append, be32, List.length_nil]; omega)) ?_
                        refine TU.take 9 rfl z_F z_F z_F rfl (fun _ _ _ h => h) (fun _ => V1.addB rfl rfl (by rw [h62]; simp only [List.length_cons, List.length_append, be32, List.length_nil]; omega)) ?_
                        refine TU.take 10 rfl z_F z_F z_F rfl (fun _ _ _ h => h) (fun _ => V1.assign' z_B) ?_
                        refine TU.done z_F ?_
                        refine T.seq ?_
                        refine T.live (l := [(6, _)]) (.cons z_B .nil) (fun e_ => ?_)
                        refine T.region ?_
                        refine TL.cons rfl (V1.t (V1.move' z_B) ?_)
                        refine TL.cons rfl (V1.t (V1.assign' z_B) ?_)
                        refine TL.cons rfl (V1.t (V1.assign' z_B) ?_)
                        refine TL.nil ?_
                        refine T.ret ?_
                        exact ⟨_, [], _, .cons (.tmp z_B) (.cons (.tmp z_B) .nil), z_A, rfl, encS_ok (encF_ok hshp (by omega) (by omega) (by omega) (by first | exact .inl rfl | (right; omega)) (by omega)) (by rw [h62]; simp)⟩
                    ·
                      refine TU.one 2 z_F rfl rfl (V1.t (V1.load1 one_29 rfl (.own z_D (by rfl))) ?_)
                      refine TU.take 3 rfl z_F z_F z_F rfl (fun _ _ _ h => h) (fun _ => V1.lenSl ty_29 rfl) ?_
                      refine TU.one 4 z_F rfl rfl (T1.call0 («as» := [.int .i64 (data.length : Nat)]) has_56 rfl (fun w hs => refnumber_any data.length w (by omega)) (fun v hv => ?_))
                      subst hv
                      refine TU.take 8 rfl z_F z_F z_F rfl (fun _ _ _ h => h) (fun _ => V1.addB rfl rfl (by simp only [List.length_cons, List.length_append, be32, List.length_nil]; omega)) ?_
                      refine TU.take 9 rfl z_F z_F z_F rfl (fun _ _ _ h => h) (fun _ => V1.addB rfl rfl (by rw [h62]; simp only [List.length_cons, List.length_append, be32, List.length_nil]; omega)) ?_
                      refine TU.take 10 rfl z_F z_F z_F rfl (fun _ _ _ h => h) (fun _ => V1.assign' z_B) ?_
                      refine TU.done z_F ?_
                      refine T.seq ?_
                      refine T.live (l := [(6, _)]) (.cons z_B .nil) (fun e_ => ?_)
                      refine T.region ?_
                      refine TL.cons rfl (V1.t (V1.move' z_B) ?_)
                      refine TL.cons rfl (V1.t (V1.assign' z_B) ?_)
                      refine TL.cons rfl (V1.t (V1.assign' z_B) ?_)
                      refine TL.nil ?_
                      refine T.ret ?_
                      exact ⟨_, [], _, .cons (.tmp z_B) (.cons (.tmp z_B) .nil), z_A, rfl, encS_ok (encF_ok hshp (by omega) (by omega) (by omega) (by first | exact .inl rfl | (right; omega)) (by omega)) (by rw [h62]; simp)⟩
  ·
    refine TL.cons rfl (V1.t (V1.move' z_B) ?_)
    refine TL.cons rfl (V1.t (V1.extract rfl (by rfl)) ?_)
    refine TL.cons rfl (V1.t (V1.extract rfl (by rfl)) ?_)
    refine TL.cons rfl (T1.allocN 4 zr_123 rfl (fun b4 => ?_))
    refine TL.cons rfl (T1.storeN rfl rfl sz_123 (ones rfl) z_H (by rfl) (by rfl) ?_)
    refine TL.cons rfl (V1.t (V1.assign' z_B) ?_)
    refine TL.nil ?_
    refine T.seq ?_
    refine T.seq ?_
    refine T.region ?_
    refine TL.cons rfl (V1.t (V1.move' z_B) ?_)
    refine TL.cons rfl (V1.t (V1.not rfl rfl) ?_)
    refine TL.cons rfl (V1.t (V1.move' z_B) ?_)
    refine TL.cons rfl (V1.t (V1.fieldAddr fl_39_1 rfl) ?_)
    refine TL.cons rfl (V1.t (V1.load1 one_35 rfl (.own z_D (by rfl))) ?_)
    refine TL.cons rfl (V1.t (V1.lenSl ty_35 rfl) ?_)
    refine TL.cons rfl (V1.t (V1.indexAddrA ty_123 sz_3 rfl rfl (by decide) (by decide)) ?_)
    refine TL.cons rfl (V1.t (V1.load1 one_3 rfl (.own z_D (by rfl))) ?_)
    refine TL.cons rfl (T1.neI_split rfl rfl (fun h2_8 => ?_) (fun h2_8 => ?_))
    ·
      refine TL.cons rfl (V1.t (V1.pick rfl z_B) ?_)
      refine TL.cons rfl (V1.t (V1.move' z_B) ?_)
      refine TL.no rfl ?_
      refine TL.no rfl ?_
      refine TL.no rfl ?_
      refine TL.no rfl ?_
      refine TL.no rfl ?_
      refine TL.no rfl ?_
      refine TL.cons rfl (V1.t (V1.pick rfl z_B) ?_)
      refine TL.cons rfl (V1.t (V1.move' z_B) ?_)
      refine TL.no rfl ?_
      refine TL.no rfl ?_
      refine TL.no rfl ?_
      refine TL.no rfl ?_
      refine TL.no rfl ?_
      refine TL.no rfl ?_
      refine TL.cons rfl (V1.t (V1.pick rfl z_B) ?_)
      refine TL.cons rfl (V1.t (V1.move' z_B) ?_)
      refine TL.no rfl ?_
      refine TL.no rfl ?_
      refine TL.no rfl ?_
      refine TL.no rfl ?_
      refine TL.no rfl ?_
      refine TL.no rfl ?_
      refine TL.no rfl ?_
      refine TL.no rfl ?_
      refine TL.no rfl ?_
      refine TL.cons rfl (V1.t (V1.pick rfl z_B) ?_)
      refine TL.nil ?_
      refine T.cond_t rfl ?_
      refine T.seq ?_
      refine T.live (l := []) .nil (fun e_ => ?_)
      refine T.region ?_
      refine TL.cons rfl (V1.t (V1.assign' z_B) ?_)
      refine TL.cons rfl (V1.t (V1.assign' z_B) ?_)
      refine TL.nil ?_
      refine T.ret ?_
      exact ⟨_, [], _, .cons (.tmp z_B) (.cons (.tmp z_B) .nil), z_A, rfl, encS_err (encF_count hshp (by first | (left; omega) | (right; left; omega) | (right; right; left; omega) | (right; right; right; exact ⟨rfl, by omega⟩)))⟩
    ·
      refine TL.cons rfl (V1.t (V1.pick rfl z_B) ?_)
      refine TL.cons rfl (V1.t (V1.move' z_B) ?_)
      refine TL.cons rfl (V1.t (V1.fieldAddr fl_39_2 rfl) ?_)
      refine TL.cons rfl (V1.t (V1.load1 one_36 rfl (.own z_D (by rfl))) ?_)
      refine TL.cons rfl (V1.t (V1.lenSl ty_36 rfl) ?_)
      refine TL.cons rfl (V1.t (V1.indexAddrA ty_123 sz_3 rfl rfl (by decide) (by decide)) ?_)
      refine TL.cons rfl (V1.t (V1.load1 one_3 rfl (.own z_D (by rfl))) ?_)
      refine TL.cons rfl (T1.neI_split rfl rfl (fun h2_16 => ?_) (fun h2_16 => ?_))
      ·
        refine TL.cons rfl (V1.t (V1.pick rfl z_B) ?_)
        refine TL.cons rfl (V1.t (V1.move' z_B) ?_)
        refine TL.no rfl ?_
        refine TL.no rfl ?_
        refine TL.no rfl ?_
        refine TL.no rfl ?_
        refine TL.no rfl ?_
        refine TL.no rfl ?_
        refine TL.cons rfl (V1.t (V1.pick rfl z_B) ?_)
        refine TL.cons rfl (V1.t (V1.move' z_B) ?_)
        refine TL.no rfl ?_
        refine TL.no rfl ?_
        refine TL.no rfl ?_
        refine TL.no rfl ?_
        refine TL.no rfl ?_
        refine TL.no rfl ?_
        refine TL.no rfl ?_
        refine TL.no rfl ?_
        refine TL.no rfl ?_
        refine TL.cons rfl (V1.t (V1.pick rfl z_B) ?_)
        refine TL.nil ?_
        refine T.cond_t rfl ?_
        refine T.seq ?_
        refine T.live (l := []) .nil (fun e_ => ?_)
        refine T.region ?_
        refine TL.cons rfl (V1.t (V1.assign' z_B) ?_)
        refine TL.cons rfl (V1.t (V1.assign' z_B) ?_)
        refine TL.nil ?_
        refine T.ret ?_
        exact ⟨_, [], _, .cons (.tmp z_B) (.cons (.tmp z_B) .nil), z_A, rfl, encS_err (encF_count hshp (by first | (left; omega) | (right; left; omega) | (right; right; left; omega) | (right; right; right; exact ⟨rfl, by omega⟩)))⟩
      ·
        refine TL.cons rfl (V1.t (V1.pick rfl z_B) ?_)
        refine TL.cons rfl (V1.t (V1.move' z_B) ?_)
        refine TL.cons rfl (V1.t (V1.fieldAddr fl_39_3 rfl) ?_)
        refine TL.cons rfl (V1.t (V1.load1 one_37 rfl (.own z_D (by rfl))) ?_)
        refine TL.cons rfl (V1.t (V1.lenSl ty_37 rfl) ?_)
        refine TL.cons rfl (V1.t (V1.indexAddrA ty_123 sz_3 rfl rfl (by decide) (by decide)) ?_)
        refine TL.cons rfl (V1.t (V1.load1 one_3 rfl (.own z_D (by rfl))) ?_)
        refine TL.cons rfl (T1.neI_split rfl rfl (fun h2_24 => ?_) (fun h2_24 => ?_))
        ·
          refine TL.cons rfl (V1.t (V1.pick rfl z_B) ?_)
          refine TL.cons rfl (V1.t (V1.move' z_B) ?_)
          refine TL.no rfl ?_
          refine TL.no rfl ?_
          refine TL.no rfl ?_
          refine TL.no rfl ?_
          refine TL.no rfl ?_
          refine TL.no rfl ?_
          refine TL.no rfl ?_
          refine TL.no rfl ?_
          refine TL.no rfl ?_
          refine TL.cons rfl (V1.t (V1.pick rfl z_B) ?_)
          refine TL.nil ?_
          refine T.cond_t rfl ?_
          refine T.seq ?_
          refine T.live (l := []) .nil (fun e_ => ?_)
          refine T.region ?_
          refine TL.cons rfl (V1.t (V1.assign' z_B) ?_)
          refine TL.cons rfl (V1.t (V1.assign' z_B) ?_)
          refine TL.nil ?_
          refine T.ret ?_
          exact ⟨_, [], _, .cons (.tmp z_B) (.cons (.tmp z_B) .nil), z_A, rfl, encS_err (encF_count hshp (by first | (left; omega) | (right; left; omega) | (right; right; left; omega) | (right; right; right; exact ⟨rfl, by omega⟩)))⟩
        ·
          refine TL.cons rfl (V1.t (V1.pick rfl z_B) ?_)
          refine TL.cons rfl (V1.t (V1.move' z_B) ?_)
          refine TL.cons rfl (V1.t (V1.indexAddrA ty_123 sz_3 rfl rfl (by decide) (by decide)) ?_)
          refine TL.cons rfl (V1.t (V1.load1 one_3 rfl (.own z_D (by rfl))) ?_)
          refine TL.cons rfl (V1.t (V1.eqI rfl rfl (decide_eq_true (by omega))) ?_)
          refine TL.cons rfl (V1.t (V1.move' z_B) ?_)
          refine TL.cons rfl (V1.t (V1.fieldAddr fl_39_4 rfl) ?_)
          refine TL.cons rfl (V1.t (V1.load1 one_29 rfl (.own z_D (by rfl))) ?_)
          refine TL.cons rfl (V1.t (V1.lenSl ty_29 rfl) ?_)
          refine TL.cons rfl (T1.gtI_split rfl rfl (fun h2_34 => ?_) (fun h2_34 => ?_))
          ·
            refine TL.cons rfl (V1.t (V1.pick rfl z_B) ?_)
            refine TL.cons rfl (V1.t (V1.pick rfl z_B) ?_)
            refine TL.nil ?_
            refine T.cond_t rfl ?_
            refine T.seq ?_
            refine T.live (l := []) .nil (fun e_ => ?_)
            refine T.region ?_
            refine TL.cons rfl (V1.t (V1.assign' z_B) ?_)
            refine TL.cons rfl (V1.t (V1.assign' z_B) ?_)
            refine TL.nil ?_
            refine T.ret ?_
            exact ⟨_, [], _, .cons (.tmp z_B) (.cons (.tmp z_B) .nil), z_A, rfl, encS_err (encF_count hshp (by first | (left; omega) | (right; left; omega) | (right; right; left; omega) | (right; right; right; exact ⟨rfl, by omega⟩)))⟩
          ·
            refine TL.cons rfl (V1.t (V1.pick rfl z_B) ?_)
            refine TL.cons rfl (V1.t (V1.pick rfl z_B) ?_)
            refine TL.nil ?_
            refine T.cond_f rfl ?_
            refine T.skip ?_
            refine T.seq ?_
            refine T.seq ?_
            refine T.live (l := [(1, _), (4, _)]) (.cons z_B (.cons z_B .nil)) (fun e_ => ?_)
            refine T.region ?_
            refine TL.cons rfl (V1.t (V1.fieldAddr fl_39_4 rfl) ?_)
            refine TL.cons rfl (V1.t (V1.load1 one_29 rfl (.own z_D (by rfl))) ?_)
            refine TL.cons rfl (V1.t (V1.lenSl ty_29 rfl) ?_)
            refine TL.cons rfl (T1.gtI_split rfl rfl (fun h4_3 => ?_) (fun h4_3 => ?_))
            ·
              refine TL.nil ?_
              refine T.cond_t rfl ?_
              refine T.seq ?_
              refine T.region ?_
              refine TL.cons rfl (V1.t (V1.assign' z_B) ?_)
              refine TL.cons rfl (V1.t (V1.assign' z_B) ?_)
              refine TL.nil ?_
              refine T.ret ?_
              exact ⟨_, [], _, .cons (.tmp z_B) (.cons (.tmp z_B) .nil), z_A, rfl, encS_err (encF_long hshp (by omega) (by omega) (by omega) (by first | exact .inl rfl | (right; omega)) (by omega))⟩
            ·
              refine TL.nil ?_
              refine T.cond_f rfl ?_
              refine T.skip ?_
              refine T.seq ?_
              refine T.region ?_
              refine TL.cons rfl (V1.t (V1.fieldAddr fl_39_0 rfl) ?_)
              have hkr := shp_range hshp
              have hl1 := flat_len keys hkeys
              have hl2 := flat_len sigs hsigs
              have hl3 := flatMap_be32_len nums
              refine TL.cons rfl (V1.t (V1.load1 one_3 rfl (.own z_D (by rfl))) ?_)
              refine TL.cons rfl (V1.t (V1.conv ty_3 ty_5 rfl (u8_kind (by omega) (by omega))) ?_)
              refine TL.cons rfl (T1.buildSl1 (os := [.tmp 61]) ty_29 sz_5 zr_5 (by decide) rfl (.cons z_B .nil) rfl (ones rfl) (fun b62 => ?_))
              refine TL.cons rfl (V1.t (V1.bytesToStr (l := [UInt8.ofNat kind.toNat]) ty_29 ty_5 ty_9 rfl (.sl (RdN.whole z_D) (by rfl)) (by intro b h; cases h)) ?_)
              refine TL.cons rfl (V1.t (V1.assign' z_B) ?_)
              refine TL.nil ?_
              refine T.seq ?_
              refine T.seq ?_
              refine T.region ?_
              refine TL.cons rfl (V1.t (V1.assign' z_B) ?_)
              refine TL.nil ?_
              refine T.block ?_
              refine T.loopL (σ := Nat) (l0 := [(1, _), (4, _)]) (fun x => [(6, .string (bstr (UInt8.ofNat kind.toNat :: (keys.flatten.take (32 * x))))), (7, .int .i64 (x : Nat))]) (fun x L => L = ⟨b4, 0, [.int .i64 sa, .int .i64 sb, .int .i64 sc, .int .i64 0], 4⟩ :: ⟨b1, 0, [.int .i64 kind, .slice ak keys.length ck, .slice an nums.length cn, .slice ags sigs.length cs, .slice ad data.length cd], 5⟩ :: [] ∧ x ≤ keys.length) (fun x => keys.length - x) 0 (.cons rfl (.cons rfl .nil)) (.cons z_B (.cons z_B .nil)) z_A (⟨rfl, Nat.zero_le _⟩) ?_
              rintro i e_ L ⟨rfl, hile⟩
              refine T.seq ?_
              refine T.seq ?_
              refine T.region ?_
              refine TL.cons rfl (V1.t (V1.move' z_B) ?_)
              refine TL.cons rfl (V1.t (V1.fieldAddr fl_39_1 rfl) ?_)
              refine TL.cons rfl (V1.t (V1.load1 one_35 rfl (.own z_D (by rfl))) ?_)
              refine TL.cons rfl (V1.t (V1.lenSl ty_35 rfl) ?_)
              refine TL.cons rfl (T1.ltI_split rfl rfl (fun h8_4 => ?_) (fun h8_4 => ?_))
              ·
                refine TL.nil ?_
                refine T.cond_t rfl ?_
                refine T.skip ?_
                refine T.seq ?_
                refine T.block ?_
                refine T.seq ?_
                refine T.region ?_
                refine TL.cons rfl (V1.t (V1.assign' z_B) ?_)
                refine TL.nil ?_
                refine T.block ?_
                refine T.loopL (σ := Nat) (l0 := [(1, _), (4, _), (7, _)]) (fun x => [(6, .string (bstr (UInt8.ofNat kind.toNat :: (keys.flatten.take (32 * i + x))))), (8, .int .i64 (x : Nat))]) (fun x L => L = ⟨b4, 0, [.int .i64 sa, .int .i64 sb, .int .i64 sc, .int .i64 0], 4⟩ :: ⟨b1, 0, [.int .i64 kind, .slice ak keys.length ck, .slice an nums.length cn, .slice ags sigs.length cs, .slice ad data.length cd], 5⟩ :: [] ∧ x ≤ 32) (fun x => 32 - x) 0 (.cons rfl (.cons rfl .nil)) (.cons z_B (.cons z_B (.cons z_B .nil))) z_A (⟨rfl, Nat.zero_le _⟩) ?_
                rintro j e_ L ⟨rfl, hjle⟩
                refine T.seq ?_
                refine T.seq ?_
                refine T.region ?_
                refine TL.cons rfl (V1.t (V1.move' z_B) ?_)
                refine TL.cons rfl (T1.ltI_split rfl rfl (fun h11_1 => ?_) (fun h11_1 => ?_))
                ·
                  obtain ⟨bk, ok, rfl⟩ := hk.isSome (by omega)
                  have hlt : 32 * i + j < keys.flatten.length := by omega
                  have hi32 : i * 32 = 32 * i := Nat.mul_comm _ _
                  obtain ⟨c, hx⟩ : ∃ c, keys.flatten[i * 32 + j]? = some c := ⟨_, List.getElem?_eq_getElem (by omega)⟩
                  have hstep : ((UInt8.ofNat kind.toNat :: (keys.flatten.take (32 * i + j))) ++ [c]) = UInt8.ofNat kind.toNat :: (keys.flatten.take (32 * i + (j + 1))) := by rw [hi32] at hx; rw [← Nat.add_assoc, take_one_more hx]; simp
                  have hf2 := List.length_take_le (32 * i + j) keys.flatten
                  refine TL.nil ?_
                  refine T.cond_t rfl ?_
                  refine T.skip ?_
                  refine T.seq ?_
                  refine T.block ?_
                  refine T.region ?_
                  refine TL.cons rfl (V1.t (V1.move' z_B) ?_)
                  refine TL.cons rfl (V1.t (V1.fieldAddr fl_39_1 rfl) ?_)
                  refine TL.cons rfl (V1.t (V1.load1 one_35 rfl (.own z_D (by rfl))) ?_)
                  refine TL.cons rfl (V1.t (V1.move' z_B) ?_)
                  refine TL.cons rfl (V1.t (V1.move' z_B) ?_)
                  refine TL.cons rfl (V1.t (V1.indexAddrS ty_35 sz_60 rfl rfl (by omega) (by omega)) ?_)
                  refine TL.cons rfl (V1.t (V1.indexAddrA ty_60 sz_5 rfl rfl (by omega) (by omega)) ?_)
                  refine TL.cons rfl (V1.t (V1.load1 one_5 rfl (hk.byte rfl hx)) ?_)
                  refine TL.cons rfl (T1.buildSl1 (os := [.tmp 82]) ty_29 sz_5 zr_5 (by decide) rfl (.cons z_B .nil) rfl (ones rfl) (fun b83 => ?_))
                  refine TL.cons rfl (V1.t (V1.bytesToStr (l := [c]) ty_29 ty_5 ty_9 rfl (.sl (RdN.whole z_D) (by rfl)) (by intro b h; cases h)) ?_)
                  refine TL.cons rfl (V1.t (V1.addB rfl rfl (by simp only [List.length_cons, List.length_append, List.length_nil]; omega)) ?_)
                  refine TL.cons rfl (V1.t (V1.assign' z_B) ?_)
                  refine TL.nil ?_
                  refine T.region ?_
                  refine TL.cons rfl (V1.t (V1.move' z_B) ?_)
                  refine TL.cons rfl (V1.t (V1.add rfl rfl (wrap_i64 _ (by omega) (by omega))) ?_)
                  refine TL.cons rfl (V1.t (V1.assign' z_B) ?_)
                  refine TL.nil ?_
                  exact ⟨j + 1, _, _, (by simp only; omega), (.cons (congrArg (fun l => Value.string (bstr l)) hstep) (.cons rfl .nil)), (.cons rfl (.cons rfl (.cons rfl .nil))), z_A, ⟨rfl, by omega⟩⟩
                ·
                  obtain rfl : j = 32 := by omega
                  refine TL.nil ?_
                  refine T.cond_f rfl ?_
                  refine T.exit ?_
                  refine T.region ?_
                  refine TL.cons rfl (V1.t (V1.move' z_B) ?_)
                  refine TL.cons rfl (V1.t (V1.add rfl rfl (wrap_i64 _ (by omega) (by omega))) ?_)
                  refine TL.cons rfl (V1.t (V1.assign' z_B) ?_)
                  refine TL.nil ?_
                  exact ⟨i + 1, _, _, (by simp only; omega), (.cons rfl (.cons rfl .nil)), (.cons rfl (.cons rfl .nil)), z_A, ⟨rfl, by omega⟩⟩
              ·
                refine TL.nil ?_
                refine T.cond_f rfl ?_
                refine T.exit ?_
                refine T.seq ?_
                refine T.seq ?_
                refine T.region ?_
                refine TL.cons rfl (V1.t (V1.assign' z_B) ?_)
                refine TL.nil ?_
                refine T.block ?_
                obtain rfl : i = keys.length := by omega
                have h60 : (UInt8.ofNat kind.toNat :: (keys.flatten.take (32 * keys.length))) = UInt8.ofNat kind.toNat :: (keys.flatten ++ (nums.take 0).flatMap be32) := by rw [List.take_of_length_le (by omega)]; simp
                refine T.loopL (σ := Nat) (l0 := [(1, _), (4, _)]) (fun x => [(6, .string (bstr (UInt8.ofNat kind.toNat :: (keys.flatten ++ (nums.take x).flatMap be32)))), (9, .int .i64 (x : Nat))]) (fun x L => L = ⟨b4, 0, [.int .i64 sa, .int .i64 sb, .int .i64 sc, .int .i64 0], 4⟩ :: ⟨b1, 0, [.int .i64 kind, .slice ak keys.length ck, .slice an nums.length cn, .slice ags sigs.length cs, .slice ad data.length cd], 5⟩ :: [] ∧ x ≤ nums.length) (fun x => nums.length - x) 0 (.cons (congrArg (fun l => Value.string (bstr l)) h60) (.cons rfl .nil)) (.cons z_B (.cons z_B .nil)) z_A (⟨rfl, Nat.zero_le _⟩) ?_
                rintro m e_ L ⟨rfl, hmle⟩
                refine T.seq ?_
                refine T.seq ?_
                refine T.region ?_
                refine TL.cons rfl (V1.t (V1.move' z_B) ?_)
                refine TL.cons rfl (V1.t (V1.fieldAddr fl_39_2 rfl) ?_)
                refine TL.cons rfl (V1.t (V1.load1 one_36 rfl (.own z_D (by rfl))) ?_)
                refine TL.cons rfl (V1.t (V1.lenSl ty_36 rfl) ?_)
                refine TL.cons rfl (T1.ltI_split rfl rfl (fun h15_4 => ?_) (fun h15_4 => ?_))
                ·
                  obtain ⟨bk, ok, rfl⟩ := hn.isSome (by omega)
                  have hmn : m < nums.length := by omega
                  have hf2 := flatMap_be32_len (nums.take m)
                  rw [List.length_take] at hf2
                  have hum : nums[m] < 4294967296 := hnums _ (List.getElem_mem hmn)
                  have hstep : ((UInt8.ofNat kind.toNat :: (keys.flatten ++ (nums.take m).flatMap be32)) ++ be32 nums[m]) = UInt8.ofNat kind.toNat :: (keys.flatten ++ (nums.take (m + 1)).flatMap be32) := by rw [take_succ_flatMap hmn]; simp
                  refine TL.nil ?_
                  refine T.cond_t rfl ?_
                  refine T.skip ?_
                  refine T.seq ?_
                  refine T.block ?_
                  refine T.region ?_
                  refine TL.cons rfl (V1.t (V1.move' z_B) ?_)
                  refine TL.cons rfl (V1.t (V1.fieldAddr fl_39_2 rfl) ?_)
                  refine TL.cons rfl (V1.t (V1.load1 one_36 rfl (.own z_D (by rfl))) ?_)
                  refine TL.cons rfl (V1.t (V1.move' z_B) ?_)
                  refine TL.cons rfl (V1.t (V1.indexAddrS ty_36 sz_27 rfl rfl (by omega) (by omega)) ?_)
                  refine TL.cons rfl (V1.t (V1.load1 one_27 rfl (hn.cell rfl (nums_get hmn))) ?_)
                  refine TL.cons rfl (V1.t (V1.conv ty_27 ty_3 rfl (wrap_i64 _ (by omega) (by omega))) ?_)
                  refine TL.cons rfl (T1.call0 («as» := [.int .i64 (nums[m] : Nat)]) has_56 rfl (fun w hs => refnumber_any nums[m] w (by omega)) (fun v hv => ?_))
                  subst hv
                  refine TL.cons rfl (V1.t (V1.addB rfl rfl (by simp only [List.length_cons, List.length_append, be32, List.length_nil]; omega)) ?_)
                  refine TL.cons rfl (V1.t (V1.assign' z_B) ?_)
                  refine TL.nil ?_
                  refine T.live (l := [(1, _), (4, _), (6, _), (9, _)]) (.cons z_B (.cons z_B (.cons z_B (.cons z_B .nil)))) (fun e_ => ?_)
                  refine T.region ?_
                  refine TL.cons rfl (V1.t (V1.move' z_B) ?_)
                  refine TL.cons rfl (V1.t (V1.add rfl rfl (wrap_i64 _ (by omega) (by omega))) ?_)
                  refine TL.cons rfl (V1.t (V1.assign' z_B) ?_)
                  refine TL.nil ?_
                  exact ⟨m + 1, _, _, (by simp only; omega), (.cons (congrArg (fun l => Value.string (bstr l)) hstep) (.cons rfl .nil)), (.cons rfl (.cons rfl .nil)), z_A, ⟨rfl, by omega⟩⟩
                ·
                  refine TL.nil ?_
                  refine T.cond_f rfl ?_
                  refine T.exit ?_
                  refine T.seq ?_
                  refine T.seq ?_
                  refine T.region ?_
                  refine TL.cons rfl (V1.t (V1.assign' z_B) ?_)
                  refine TL.nil ?_
                  refine T.block ?_
                  obtain rfl : m = nums.length := by omega
                  have h61 : (UInt8.ofNat kind.toNat :: (keys.flatten ++ (nums.take nums.length).flatMap be32)) = UInt8.ofNat kind.toNat :: (keys.flatten ++ (nums.flatMap be32 ++ sigs.flatten.take (64 * 0))) := by rw [List.take_of_length_le (Nat.le_refl _)]; simp
                  refine T.loopL (σ := Nat) (l0 := [(1, _), (4, _)]) (fun x => [(6, .string (bstr (UInt8.ofNat kind.toNat :: (keys.flatten ++ (nums.flatMap be32 ++ sigs.flatten.take (64 * x)))))), (10, .int .i64 (x : Nat))]) (fun x L => L = ⟨b4, 0, [.int .i64 sa, .int .i64 sb, .int .i64 sc, .int .i64 0], 4⟩ :: ⟨b1, 0, [.int .i64 kind, .slice ak keys.length ck, .slice an nums.length cn, .slice ags sigs.length cs, .slice ad data.length cd], 5⟩ :: [] ∧ x ≤ sigs.length) (fun x => sigs.length - x) 0 (.cons (congrArg (fun l => Value.string (bstr l)) h61) (.cons rfl .nil)) (.cons z_B (.cons z_B .nil)) z_A (⟨rfl, Nat.zero_le _⟩) ?_
                  rintro i e_ L ⟨rfl, hile⟩
                  refine T.seq ?_
                  refine T.seq ?_
                  refine T.region ?_
                  refine TL.cons rfl (V1.t (V1.move' z_B) ?_)
                  refine TL.cons rfl (V1.t (V1.fieldAddr fl_39_3 rfl) ?_)
                  refine TL.cons rfl (V1.t (V1.load1 one_37 rfl (.own z_D (by rfl))) ?_)
                  refine TL.cons rfl (V1.t (V1.lenSl ty_37 rfl) ?_)
                  refine TL.cons rfl (T1.ltI_split rfl rfl (fun h19_4 => ?_) (fun h19_4 => ?_))
                  ·
                    refine TL.nil ?_
                    refine T.cond_t rfl ?_
                    refine T.skip ?_
                    refine T.seq ?_
                    refine T.block ?_
                    refine T.seq ?_
                    refine T.region ?_
                    refine TL.cons rfl (V1.t (V1.assign' z_B) ?_)
                    refine TL.nil ?_
                    refine T.block ?_
                    refine T.loopL (σ := Nat) (l0 := [(1, _), (4, _), (10, _)]) (fun x => [(6, .string (bstr (UInt8.ofNat kind.toNat :: (keys.flatten ++ (nums.flatMap be32 ++ sigs.flatten.take (64 * i + x)))))), (11, .int .i64 (x : Nat))]) (fun x L => L = ⟨b4, 0, [.int .i64 sa, .int .i64 sb, .int .i64 sc, .int .i64 0], 4⟩ :: ⟨b1, 0, [.int .i64 kind, .slice ak keys.length ck, .slice an nums.length cn, .slice ags sigs.length cs, .slice ad data.length cd], 5⟩ :: [] ∧ x ≤ 64) (fun x => 64 - x) 0 (.cons rfl (.cons rfl .nil)) (.cons z_B (.cons z_B (.cons z_B .nil))) z_A (⟨rfl, Nat.zero_le _⟩) ?_
                    rintro j e_ L ⟨rfl, hjle⟩
                    refine T.seq ?_
                    refine T.seq ?_
                    refine T.region ?_
                    refine TL.cons rfl (V1.t (V1.move' z_B) ?_)
                    refine TL.cons rfl (T1.ltI_split rfl rfl (fun h22_1 => ?_) (fun h22_1 => ?_))
                    ·
                      obtain ⟨bk, ok, rfl⟩ := hs.isSome (by omega)
                      have hlt : 64 * i + j < sigs.flatten.length := by omega
                      have hi32 : i * 64 = 64 * i := Nat.mul_comm _ _
                      obtain ⟨c, hx⟩ : ∃ c, sigs.flatten[i * 64 + j]? = some c := ⟨_, List.getElem?_eq_getElem (by omega)⟩
                      have hstep : ((UInt8.ofNat kind.toNat :: (keys.flatten ++ (nums.flatMap be32 ++ sigs.flatten.take (64 * i + j)))) ++ [c]) = UInt8.ofNat kind.toNat :: (keys.flatten ++ (nums.flatMap be32 ++ sigs.flatten.take (64 * i + (j + 1)))) := by rw [hi32] at hx; rw [← Nat.add_assoc, take_one_more hx]; simp
                      have hf2 := List.length_take_le (64 * i + j) sigs.flatten
                      refine TL.nil ?_
                      refine T.cond_t rfl ?_
                      refine T.skip ?_
                      refine T.seq ?_
                      refine T.block ?_
                      refine T.region ?_
                      refine TL.cons rfl (V1.t (V1.move' z_B) ?_)
                      refine TL.cons rfl (V1.t (V1.fieldAddr fl_39_3 rfl) ?_)
                      refine TL.cons rfl (V1.t (V1.load1 one_37 rfl (.own z_D (by rfl))) ?_)
                      refine TL.cons rfl (V1.t (V1.move' z_B) ?_)
                      refine TL.cons rfl (V1.t (V1.move' z_B) ?_)
                      refine TL.cons rfl (V1.t (V1.indexAddrS ty_37 sz_86 rfl rfl (by omega) (by omega)) ?_)
                      refine TL.cons rfl (V1.t (V1.indexAddrA ty_86 sz_5 rfl rfl (by omega) (by omega)) ?_)
                      refine TL.cons rfl (V1.t (V1.load1 one_5 rfl (hs.byte rfl hx)) ?_)
                      refine TL.cons rfl (T1.buildSl1 (os := [.tmp 120]) ty_29 sz_5 zr_5 (by decide) rfl (.cons z_B .nil) rfl (ones rfl) (fun b121 => ?_))
                      refine TL.cons rfl (V1.t (V1.bytesToStr (l := [c]) ty_29 ty_5 ty_9 rfl (.sl (RdN.whole z_D) (by rfl)) (by intro b h; cases h)) ?_)
                      refine TL.cons rfl (V1.t (V1.addB rfl rfl (by simp only [List.length_cons, List.length_append, List.length_nil]; omega)) ?_)
                      refine TL.cons rfl (V1.t (V1.assign' z_B) ?_)
                      refine TL.nil ?_
                      refine T.region ?_
                      refine TL.cons rfl (V1.t (V1.move' z_B) ?_)
                      refine TL.cons rfl (V1.t (V1.add rfl rfl (wrap_i64 _ (by omega) (by omega))) ?_)
                      refine TL.cons rfl (V1.t (V1.assign' z_B) ?_)
                      refine TL.nil ?_
                      exact ⟨j + 1, _, _, (by simp only; omega), (.cons (congrArg (fun l => Value.string (bstr l)) hstep) (.cons rfl .nil)), (.cons rfl (.cons rfl (.cons rfl .nil))), z_A, ⟨rfl, by omega⟩⟩
                    ·
                      obtain rfl : j = 64 := by omega
                      refine TL.nil ?_
                      refine T.cond_f rfl ?_
                      refine T.exit ?_
                      refine T.region ?_
                      refine TL.cons rfl (V1.t (V1.move' z_B) ?_)
                      refine TL.cons rfl (V1.t (V1.add rfl rfl (wrap_i64 _ (by omega) (by omega))) ?_)
                      refine TL.cons rfl (V1.t (V1.assign' z_B) ?_)
                      refine TL.nil ?_
                      exact ⟨i + 1, _, _, (by simp only; omega), (.cons rfl (.cons rfl .nil)), (.cons rfl (.cons rfl .nil)), z_A, ⟨rfl, by omega⟩⟩
                  ·
                    refine TL.nil ?_
                    refine T.cond_f rfl ?_
                    refine T.exit ?_
                    refine T.seq ?_
                    refine T.seq ?_
                    refine T.region ?_
                    refine TL.cons rfl (V1.t (V1.indexAddrA ty_123 sz_3 rfl rfl (by decide) (by decide)) ?_)
                    obtain rfl : i = sigs.length := by omega
                    have h62 : (UInt8.ofNat kind.toNat :: (keys.flatten ++ (nums.flatMap be32 ++ sigs.flatten.take (64 * sigs.length)))) = UInt8.ofNat kind.toNat :: (keys.flatten ++ (nums.flatMap be32 ++ sigs.flatten)) := by rw [List.take_of_length_le (by omega)]
                    refine TL.cons rfl (V1.t (V1.load1 one_3 rfl (.own z_D (by rfl))) ?_)
                    refine TL.cons rfl (V1.t (V1.eqI rfl rfl (decide_eq_false (by omega))) ?_)
                    refine TL.nil ?_
                    refine T.cond_f rfl ?_
                    refine T.skip ?_
                    refine T.seq ?_
                    refine T.region ?_
                    refine TL.cons rfl (V1.t (V1.move' z_B) ?_)
                    refine TL.cons rfl (V1.t (V1.assign' z_B) ?_)
                    refine TL.cons rfl (V1.t (V1.assign' z_B) ?_)
                    refine TL.nil ?_
                    refine T.ret ?_
                    exact ⟨_, [], _, .cons (.tmp z_B) (.cons (.tmp z_B) .nil), z_A, rfl, encS_ok (encF_ok hshp (by omega) (by omega) (by omega) (by first | exact .inl rfl | (right; omega)) (by omega)) (by rw [h62]; simp)⟩
  ·
    refine TL.cons rfl (V1.t (V1.move' z_B) ?_)
    refine TL.cons rfl (V1.t (V1.extract rfl (by rfl)) ?_)
    refine TL.cons rfl (V1.t (V1.extract rfl (by rfl)) ?_)
    refine TL.cons rfl (T1.allocN 4 zr_123 rfl (fun b4 => ?_))
    refine TL.cons rfl (T1.storeN rfl rfl sz_123 (ones rfl) z_H (by rfl) (by rfl) ?_)
    refine TL.cons rfl (V1.t (V1.assign' z_B) ?_)
    refine TL.nil ?_
    refine T.seq ?_
    refine T.seq ?_
    refine T.region ?_
    refine TL.cons rfl (V1.t (V1.move' z_B) ?_)
    refine TL.cons rfl (V1.t (V1.not rfl rfl) ?_)
    refine TL.cons rfl (V1.t (V1.move' z_B) ?_)
    refine TL.no rfl ?_
    refine TL.no rfl ?_
    refine TL.no rfl ?_
    refine TL.no rfl ?_
    refine TL.no rfl ?_
    refine TL.no rfl ?_
    refine TL.cons rfl (V1.t (V1.pick rfl z_B) ?_)
    refine TL.cons rfl (V1.t (V1.move' z_B) ?_)
    refine TL.no rfl ?_
    refine TL.no rfl ?_
    refine TL.no rfl ?_
    refine TL.no rfl ?_
    refine TL.no rfl ?_
    refine TL.no rfl ?_
    refine TL.cons rfl (V1.t (V1.pick rfl z_B) ?_)
    refine TL.cons rfl (V1.t (V1.move' z_B) ?_)
    refine TL.no rfl ?_
    refine TL.no rfl ?_
    refine TL.no rfl ?_
    refine TL.no rfl ?_
    refine TL.no rfl ?_
    refine TL.no rfl ?_
    refine TL.cons rfl (V1.t (V1.pick rfl z_B) ?_)
    refine TL.cons rfl (V1.t (V1.move' z_B) ?_)
    refine TL.no rfl ?_
    refine TL.no rfl ?_
    refine TL.no rfl ?_
    refine TL.no rfl ?_
    refine TL.no rfl ?_
    refine TL.no rfl ?_
    refine TL.no rfl ?_
    refine TL.no rfl ?_
    refine TL.no rfl ?_
    refine TL.cons rfl (V1.t (V1.pick rfl z_B) ?_)
    refine TL.nil ?_
    refine T.cond_t rfl ?_
    refine T.seq ?_
    refine T.live (l := []) .nil (fun e_ => ?_)
    refine T.region ?_
    refine TL.cons rfl (V1.t (V1.assign' z_B) ?_)
    refine TL.cons rfl (V1.t (V1.assign' z_B) ?_)
    refine TL.nil ?_
    refine T.ret ?_
    exact ⟨_, [], _, .cons (.tmp z_B) (.cons (.tmp z_B) .nil), z_A, rfl, encS_err (encF_none hshp)⟩

end Go.Proofs.Ytijijaobialncaa.S
