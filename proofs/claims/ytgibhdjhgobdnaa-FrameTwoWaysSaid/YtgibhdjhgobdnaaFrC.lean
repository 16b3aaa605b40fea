/- Raw bytes are read as the document says. -/
import Derived.Test.YtgibhdjhgobdnaaFr4
import Derived.Test.YtgibhdjhgobdnaaFrA
import Derived.Test.YtgibhdjhgobdnaaFrB
namespace Go.Proofs.Ytgibhdjhgobdnaa.S
open Go.RowKit

theorem chunks_len {k n : Nat} {l : List UInt8} (h : k * n ≤ l.length) : ∀ x ∈ chunks k n l, x.length = k := by
  intro x hx
  obtain ⟨i, hi, rfl⟩ := List.mem_map.1 hx
  have hi' : i < n := by simpa using hi
  have : k * i + k ≤ k * n := by rw [← Nat.mul_succ]; exact Nat.mul_le_mul_left _ hi'
  rw [List.length_take, List.length_drop]; omega
theorem nums32_lt {n : Nat} {l : List UInt8} : ∀ x ∈ nums32 n l, x < 4294967296 := by
  intro x hx
  obtain ⟨i, _, rfl⟩ := List.mem_map.1 hx
  exact rd32_lt _ _
theorem shp_le {k : Int} {a b c : Nat} {d : Bool} (h : shp k = some (a, b, c, d)) : a ≤ 4 ∧ b ≤ 3 ∧ c ≤ 1 := by
  rcases shapeR_cases k with ⟨a', b', c', ha, hb, hc, h', _⟩ | ⟨a', b', c', ha, hb, hc, h', _⟩ | ⟨_, _, _, _, _, _, h', _⟩ <;> rw [h] at h'
  · simp only [Option.some.injEq, Prod.mk.injEq] at h'; omega
  · simp only [Option.some.injEq, Prod.mk.injEq] at h'; omega
  · cases h'
/-- What is known of a frame that was read. -/
theorem decF_props {l : List UInt8} {kind : Int} {keys : List (List UInt8)} {nums : List Nat} {sigs : List (List UInt8)} {data : List UInt8} (h : decF l = .ok (kind, keys, nums, sigs, data)) :
    (∀ x ∈ keys, x.length = 32) ∧ (∀ x ∈ nums, x < 4294967296) ∧ (∀ x ∈ sigs, x.length = 64) ∧ (keys.length < 9223372036854775808 ∧ nums.length < 9223372036854775808 ∧ sigs.length < 9223372036854775808 ∧ data.length < 9223372036854775808) := by
  cases l with
  | nil => cases h
  | cons c1 tl =>
    cases hs : shp (c1.toNat : Nat) with
    | none => rw [decF_none hs] at h; cases h
    | some q =>
      obtain ⟨a, b, c, d⟩ := q
      have hle := shp_le hs
      cases d with
      | false =>
        rw [decF_bare rfl hs] at h
        split at h
        · cases h
        · split at h
          · cases h
          · simp only [Except.ok.injEq, Prod.mk.injEq] at h
            obtain ⟨_, rfl, rfl, rfl, rfl⟩ := h
            refine ⟨chunks_len (by rw [List.length_drop]; omega), nums32_lt, chunks_len (by rw [List.length_drop]; omega), ?_⟩
            simp [chunks, nums32]; omega
      | true =>
        obtain ⟨n, hn⟩ : ∃ n, n = rd32 ((c1 :: tl).drop (1 + 32 * a + 4 * b + 64 * c)) 0 := ⟨_, rfl⟩
        rw [decF_data rfl hs hn] at h
        split at h
        · cases h
        · split at h
          · cases h
          · split at h
            · cases h
            · split at h
              · cases h
              · simp only [Except.ok.injEq, Prod.mk.injEq] at h
                obtain ⟨_, rfl, rfl, rfl, rfl⟩ := h
                refine ⟨chunks_len (by rw [List.length_drop]; omega), nums32_lt, chunks_len (by rw [List.length_drop]; omega), ?_⟩
                simp only [chunks, nums32, List.length_map, List.length_range, List.length_drop]; omega
theorem FrIs.zero {w : World} : FrIs w (.agg (List.toArray [.int .i64 0, .slice none 0 0, .slice none 0 0, .slice none 0 0, .slice none 0 0])) 0 [] [] [] [] :=
  ⟨⟨_, _, _, _, rfl, .inl ⟨rfl, rfl, rfl⟩, .inl ⟨rfl, rfl, rfl⟩, .inl ⟨rfl, rfl, rfl⟩, .inl ⟨rfl, rfl, rfl⟩⟩, by simp, by simp, by simp, by simp⟩
/-- A frame of one's own memory. -/
theorem FrIs.own {C : Ctx} {L G1 G2 G3 G4 Yk Yn Ys Yd : List Blk} {w : World} {kind : Int} {keys : List (List UInt8)} {nums : List Nat} {sigs : List (List UInt8)} {data : List UInt8} {sk sn ss sd : Value} (hs : St C.w0 C.M L w)
    (h : (∀ x ∈ keys, x.length = 32) ∧ (∀ x ∈ nums, x < 4294967296) ∧ (∀ x ∈ sigs, x.length = 64) ∧ (keys.length < 9223372036854775808 ∧ nums.length < 9223372036854775808 ∧ sigs.length < 9223372036854775808 ∧ data.length < 9223372036854775808))
    (h1 : Sl sk (keys.flatten.map byteV) 32 Yk) (p1 : PickS L Yk G1) (h2 : Sl sn (nums.map u32V) 1 Yn) (p2 : PickS L Yn G2) (h3 : Sl ss (sigs.flatten.map byteV) 64 Ys) (p3 : PickS L Ys G3) (h4 : Sl sd (data.map byteV) 1 Yd) (p4 : PickS L Yd G4) :
    FrIs w (.agg (List.toArray [.int .i64 kind, sk, sn, ss, sd])) kind keys nums sigs data := by
  obtain ⟨e1, e2, e3, e4⟩ := h
  obtain ⟨n1, l1, r1⟩ := h1.slr p1 hs
  obtain ⟨n2, l2, r2⟩ := h2.slr p2 hs
  obtain ⟨n3, l3, r3⟩ := h3.slr p3 hs
  obtain ⟨n4, l4, r4⟩ := h4.slr p4 hs
  rw [List.length_map, flat_len keys e1] at l1
  rw [List.length_map] at l2 l4
  rw [List.length_map, flat_len sigs e3] at l3
  obtain rfl : n1 = keys.length := by omega
  obtain rfl : n2 = nums.length := by omega
  obtain rfl : n3 = sigs.length := by omega
  obtain rfl : n4 = data.length := by omega
  exact ⟨⟨sk, sn, ss, sd, rfl, r1, r2, r3, r4⟩, e1, e2, e3, e4⟩
theorem decR_cases {l : List UInt8} {v : Value} {Y : List Blk} (h : decR l v Y) : (∃ e, decF l = .error e ∧ v = .tuple #[.agg (List.toArray [.int .i64 0, .slice none 0 0, .slice none 0 0, .slice none 0 0, .slice none 0 0]), .int .i64 e] ∧ Y = []) ∨
    ∃ kind keys nums sigs data sk sn ss sd Yk Yn Ys Yd, decF l = .ok (kind, keys, nums, sigs, data) ∧ v = .tuple #[.agg (List.toArray [.int .i64 kind, sk, sn, ss, sd]), .int .i64 0] ∧ Sl sk (keys.flatten.map byteV) 32 Yk ∧ Sl sn (nums.map u32V) 1 Yn ∧ Sl ss (sigs.flatten.map byteV) 64 Ys ∧ Sl sd (data.map byteV) 1 Yd ∧ Y = Yk ++ (Yn ++ (Ys ++ Yd)) := by
  unfold decR at h
  cases hd : decF l with
  | error e => rw [hd] at h; exact .inl ⟨e, rfl, h⟩
  | ok q =>
    obtain ⟨kind, keys, nums, sigs, data⟩ := q
    rw [hd] at h
    obtain ⟨sk, sn, ss, sd, Yk, Yn, Ys, Yd, h⟩ := h
    exact .inr ⟨kind, keys, nums, sigs, data, sk, sn, ss, sd, Yk, Yn, Ys, Yd, rfl, h⟩

theorem FrameReads_any (v0 : Value) (l : List UInt8) (w : World) (h : SlR w v0 1 l.length (l.map byteV)) (hl : l.length < 9223372036854775808) : Fn P 5 [v0] w [] (fun v _ => v = .bool true) := by
  obtain ⟨va, vc, rfl⟩ := h.form
  refine Fn.of 28 [.tmp 2] Go.Proofs.Try.func5 rfl rfl rfl rfl ?_
  refine T.seq ?_
  refine T.region ?_
  refine TL.cons rfl (V1.t (V1.assign' (by (conv => lhs; whnf) <;> rfl)) ?_)
  refine TL.nil ?_
  refine T.seq ?_
  refine T.seq ?_
  refine T.region ?_
  refine TL.cons rfl (T1.call0 has_9 rfl (fun w hs => writes_any w) (fun v hv => ?_))
  subst hv
  refine TL.cons rfl (V1.t (V1.not rfl rfl) ?_)
  refine TL.nil ?_
  refine T.cond_f rfl ?_
  refine T.skip ?_
  refine T.seq ?_
  refine T.region ?_
  refine TL.cons rfl (V1.t (V1.move' (by (conv => lhs; whnf) <;> rfl)) ?_)
  refine TL.cons rfl (T1.callN has_15 rfl (fun w hs => Decode_any _ l w (h.st rfl hs) hl) (fun v Y hv => ?_))
  rcases decR_cases hv with ⟨e1, hd1, rfl, rfl⟩ | ⟨kind, keys, nums, sigs, data, sk, sn, sx, sd, Yk, Yn, Yx, Yd, hd1, rfl, s1, s2, s3, s4, rfl⟩
  ·
    refine TL.cons rfl (V1.t (V1.move' (by (conv => lhs; whnf) <;> rfl)) ?_)
    refine TL.cons rfl (V1.t (V1.extract rfl (by rfl)) ?_)
    refine TL.cons rfl (V1.t (V1.extract rfl (by rfl)) ?_)
    refine TL.cons rfl (T1.allocN 5 zr_27 rfl (fun b3 => ?_))
    refine TL.cons rfl (T1.storeN rfl rfl sz_27 (by intro u hu; simp only [List.mem_cons, List.not_mem_nil, or_false] at hu; rcases hu with rfl | rfl | rfl | rfl | rfl; rfl; all_goals rfl) (by repeat (first | exact Sub.one | apply Sub.there | apply Sub.far)) (by rfl) (by rfl) ?_)
    refine TL.cons rfl (V1.t (V1.assign' (by (conv => lhs; whnf) <;> rfl)) ?_)
    refine TL.nil ?_
    refine T.seq ?_
    refine T.region ?_
    refine TL.cons rfl (V1.t (V1.move' (by (conv => lhs; whnf) <;> rfl)) ?_)
    refine TL.cons rfl (V1.t (V1.bytesToStr (l := l) ty_25 ty_5 ty_9 rfl (h.src rfl) (by intro b h; cases h)) ?_)
    refine TL.cons rfl (T1.callN has_16 rfl (fun w hs => refDecode_any l w hl) (fun v Y hv => ?_))
    rcases decR_cases hv with ⟨e2, hd2, rfl, rfl⟩ | ⟨kind2, keys2, nums2, sigs2, data2, tk, tn, tx, td, Zk, Zn, Zx, Zd, hd2, rfl, t1, t2, t3, t4, rfl⟩
    all_goals rw [hd1] at hd2
    rotate_left
    · cases hd2
    simp only [Except.error.injEq] at hd2
    subst hd2
    ·
      refine TL.cons rfl (V1.t (V1.move' (by (conv => lhs; whnf) <;> rfl)) ?_)
      refine TL.cons rfl (V1.t (V1.extract rfl (by rfl)) ?_)
      refine TL.cons rfl (V1.t (V1.extract rfl (by rfl)) ?_)
      refine TL.cons rfl (T1.allocN 5 zr_27 rfl (fun b5 => ?_))
      refine TL.cons rfl (T1.storeN rfl rfl sz_27 (by intro u hu; simp only [List.mem_cons, List.not_mem_nil, or_false] at hu; rcases hu with rfl | rfl | rfl | rfl | rfl; rfl; all_goals rfl) (by repeat (first | exact Sub.one | apply Sub.there | apply Sub.far)) (by rfl) (by rfl) ?_)
      refine TL.cons rfl (V1.t (V1.assign' (by (conv => lhs; whnf) <;> rfl)) ?_)
      refine TL.nil ?_
      refine T.seq ?_
      refine T.live (l := [(3, _), (4, _), (5, _), (6, _)]) (.cons (by (conv => lhs; whnf) <;> rfl) (.cons (by (conv => lhs; whnf) <;> rfl) (.cons (by (conv => lhs; whnf) <;> rfl) (.cons (by (conv => lhs; whnf) <;> rfl) .nil)))) (fun e_ => ?_)
      refine T.region ?_
      refine TL.cons rfl (V1.t (V1.move' (by (conv => lhs; whnf) <;> rfl)) ?_)
      refine TL.cons rfl (V1.t (V1.move' (by (conv => lhs; whnf) <;> rfl)) ?_)
      refine TL.cons rfl (V1.t (V1.eqI rfl rfl (decide_eq_true (by omega))) ?_)
      refine TL.cons rfl (V1.t (V1.move' (by (conv => lhs; whnf) <;> rfl)) ?_)
      refine TL.cons rfl (V1.t (V1.loadN one_27 sz_27 rfl (RdN.whole (by repeat (first | exact Find.here | apply Find.there | apply Find.far))) (by rfl)) ?_)
      refine TL.cons rfl (V1.t (V1.loadN one_27 sz_27 rfl (RdN.whole (by repeat (first | exact Find.here | apply Find.there | apply Find.far))) (by rfl)) ?_)
      refine TL.cons rfl (T1.call0 has_17 rfl (fun w hs => Same_any _ _ _ _ _ _ _ _ _ _ _ _ w FrIs.zero FrIs.zero) (fun v hv => ?_))
      obtain ⟨r, rfl, hr⟩ := hv
      obtain rfl : r = true := hr.2 ⟨rfl, rfl, rfl, rfl, rfl⟩
      refine TL.cons rfl (V1.t (V1.pick rfl (by (conv => lhs; whnf) <;> rfl)) ?_)
      refine TL.cons rfl (V1.t (V1.assign' (by (conv => lhs; whnf) <;> rfl)) ?_)
      refine TL.nil ?_
      refine T.ret ?_
      exact ⟨_, [], _, .cons (.tmp (by (conv => lhs; whnf) <;> rfl)) .nil, Take.nil, rfl⟩
  ·
    simp only [List.append_assoc]
    have hp1 := decF_props hd1
    refine TL.cons rfl (V1.t (V1.move' (by (conv => lhs; whnf) <;> rfl)) ?_)
    refine TL.cons rfl (V1.t (V1.extract rfl (by rfl)) ?_)
    refine TL.cons rfl (V1.t (V1.extract rfl (by rfl)) ?_)
    refine TL.cons rfl (T1.allocN 5 zr_27 rfl (fun b3 => ?_))
    refine TL.cons rfl (T1.storeN rfl rfl sz_27 (by intro u hu; simp only [List.mem_cons, List.not_mem_nil, or_false] at hu; rcases hu with rfl | rfl | rfl | rfl | rfl; rfl; exact s1.one; exact s2.one; exact s3.one; exact s4.one) (by repeat (first | exact Sub.one | apply Sub.there | apply Sub.far)) (by rfl) (by rfl) ?_)
    refine TL.cons rfl (V1.t (V1.assign' (by (conv => lhs; whnf) <;> rfl)) ?_)
    refine TL.nil ?_
    refine T.seq ?_
    refine T.region ?_
    refine TL.cons rfl (V1.t (V1.move' (by (conv => lhs; whnf) <;> rfl)) ?_)
    refine TL.cons rfl (V1.t (V1.bytesToStr (l := l) ty_25 ty_5 ty_9 rfl (h.src rfl) (by intro b h; cases h)) ?_)
    refine TL.cons rfl (T1.callN has_16 rfl (fun w hs => refDecode_any l w hl) (fun v Y hv => ?_))
    rcases decR_cases hv with ⟨e2, hd2, rfl, rfl⟩ | ⟨kind2, keys2, nums2, sigs2, data2, tk, tn, tx, td, Zk, Zn, Zx, Zd, hd2, rfl, t1, t2, t3, t4, rfl⟩
    all_goals rw [hd1] at hd2
    · cases hd2
    simp only [Except.ok.injEq, Prod.mk.injEq] at hd2
    obtain ⟨rfl, rfl, rfl, rfl, rfl⟩ := hd2
    simp only [List.append_assoc]
    ·
      refine TL.cons rfl (V1.t (V1.move' (by (conv => lhs; whnf) <;> rfl)) ?_)
      refine TL.cons rfl (V1.t (V1.extract rfl (by rfl)) ?_)
      refine TL.cons rfl (V1.t (V1.extract rfl (by rfl)) ?_)
      refine TL.cons rfl (T1.allocN 5 zr_27 rfl (fun b5 => ?_))
      refine TL.cons rfl (T1.storeN rfl rfl sz_27 (by intro u hu; simp only [List.mem_cons, List.not_mem_nil, or_false] at hu; rcases hu with rfl | rfl | rfl | rfl | rfl; rfl; exact t1.one; exact t2.one; exact t3.one; exact t4.one) (by repeat (first | exact Sub.one | apply Sub.there | apply Sub.far)) (by rfl) (by rfl) ?_)
      refine TL.cons rfl (V1.t (V1.assign' (by (conv => lhs; whnf) <;> rfl)) ?_)
      refine TL.nil ?_
      refine T.seq ?_
      refine T.live (l := [(3, _), (4, _), (5, _), (6, _)]) (.cons (by (conv => lhs; whnf) <;> rfl) (.cons (by (conv => lhs; whnf) <;> rfl) (.cons (by (conv => lhs; whnf) <;> rfl) (.cons (by (conv => lhs; whnf) <;> rfl) .nil)))) (fun e_ => ?_)
      refine T.region ?_
      refine TL.cons rfl (V1.t (V1.move' (by (conv => lhs; whnf) <;> rfl)) ?_)
      refine TL.cons rfl (V1.t (V1.move' (by (conv => lhs; whnf) <;> rfl)) ?_)
      refine TL.cons rfl (V1.t (V1.eqI rfl rfl (decide_eq_true (by omega))) ?_)
      refine TL.cons rfl (V1.t (V1.move' (by (conv => lhs; whnf) <;> rfl)) ?_)
      refine TL.cons rfl (V1.t (V1.loadN one_27 sz_27 rfl (RdN.whole (by repeat (first | exact Find.here | apply Find.there | apply Find.far))) (by rfl)) ?_)
      refine TL.cons rfl (V1.t (V1.loadN one_27 sz_27 rfl (RdN.whole (by repeat (first | exact Find.here | apply Find.there | apply Find.far))) (by rfl)) ?_)
      refine TL.cons rfl (T1.call0 has_17 rfl (fun w hs => Same_any _ _ _ _ _ _ _ _ _ _ _ _ w (FrIs.own hs hp1 s1 (by repeat (first | exact PickS.last | exact PickS.one | exact PickS.here | exact PickS.nil | apply PickS.there | apply PickS.far)) s2 (by repeat (first | exact PickS.last | exact PickS.one | exact PickS.here | exact PickS.nil | apply PickS.there | apply PickS.far)) s3 (by repeat (first | exact PickS.last | exact PickS.one | exact PickS.here | exact PickS.nil | apply PickS.there | apply PickS.far)) s4 (by repeat (first | exact PickS.last | exact PickS.one | exact PickS.here | exact PickS.nil | apply PickS.there | apply PickS.far))) (FrIs.own hs hp1 t1 (by repeat (first | exact PickS.last | exact PickS.one | exact PickS.here | exact PickS.nil | apply PickS.there | apply PickS.far)) t2 (by repeat (first | exact PickS.last | exact PickS.one | exact PickS.here | exact PickS.nil | apply PickS.there | apply PickS.far)) t3 (by repeat (first | exact PickS.last | exact PickS.one | exact PickS.here | exact PickS.nil | apply PickS.there | apply PickS.far)) t4 (by repeat (first | exact PickS.last | exact PickS.one | exact PickS.here | exact PickS.nil | apply PickS.there | apply PickS.far)))) (fun v hv => ?_))
      obtain ⟨r, rfl, hr⟩ := hv
      obtain rfl : r = true := hr.2 ⟨rfl, rfl, rfl, rfl, rfl⟩
      refine TL.cons rfl (V1.t (V1.pick rfl (by (conv => lhs; whnf) <;> rfl)) ?_)
      refine TL.cons rfl (V1.t (V1.assign' (by (conv => lhs; whnf) <;> rfl)) ?_)
      refine TL.nil ?_
      refine T.ret ?_
      exact ⟨_, [], _, .cons (.tmp (by (conv => lhs; whnf) <;> rfl)) .nil, Take.nil, rfl⟩

end Go.Proofs.Ytgibhdjhgobdnaa.S
