/- What is written is read again, and the other way round. -/
import Derived.Test.YtgibhdjhgobdnaaFrD
import Derived.Test.YtgibhdjhgobdnaaOps6
namespace Go.Proofs.Ytgibhdjhgobdnaa.S
open Go.RowKit

theorem size_enc {w : World} {v : Value} {kind : Int} {keys : List (List UInt8)} {nums : List Nat} {sigs : List (List UInt8)} {data bytes : List UInt8} (fr : FrIs w v kind keys nums sigs data) (h : encF kind keys nums sigs data = .ok bytes) : (bytes.length : Int) = sizeV kind + data.length ∧ 0 ≤ sizeV kind ∧ sizeV kind ≤ 1000 := by
  obtain ⟨a, b, c, d, h1, rfl, rfl, rfl, h5, h6, rfl⟩ := encF_inv h
  have hle := shp_le h1
  have l1 := flat_len keys fr.hkeys
  have l2 := flatMap_be32_len nums
  have l3 := flat_len sigs fr.hsigs
  have hs : sizeV kind = 1 + 32 * keys.length + 4 * nums.length + 64 * sigs.length + (if d then 4 else 0) := by unfold sizeV; rw [h1]
  rw [hs]
  cases d
  · obtain rfl : data = [] := by rcases h5 with h5 | h5; cases h5; exact h5
    simp only [Bool.false_eq_true, if_false, List.length_cons, List.length_append, List.length_nil, l1, l2, l3]; omega
  · simp only [if_true, List.length_cons, List.length_append, be32_len, l1, l2, l3]; omega
theorem decF_ne {l : List UInt8} {e : Int} (h : decF l = .error e) : e ≠ 0 := by
  cases l with
  | nil => have : decF [] = .error 111 := rfl; rw [this] at h; simp only [Except.error.injEq] at h; omega
  | cons c1 tl =>
    cases hs : shp (c1.toNat : Nat) with
    | none => rw [decF_none hs] at h; simp only [Except.error.injEq] at h; omega
    | some q =>
      obtain ⟨a, b, c, d⟩ := q
      cases d with
      | false =>
        rw [decF_bare rfl hs] at h
        split at h
        · simp only [Except.error.injEq] at h; omega
        · split at h
          · simp only [Except.error.injEq] at h; omega
          · cases h
      | true =>
        obtain ⟨n, hn⟩ : ∃ n, n = rd32 ((c1 :: tl).drop (1 + 32 * a + 4 * b + 64 * c)) 0 := ⟨_, rfl⟩
        rw [decF_data rfl hs hn] at h
        split at h
        · simp only [Except.error.injEq] at h; omega
        · split at h
          · simp only [Except.error.injEq] at h; omega
          · split at h
            · simp only [Except.error.injEq] at h; omega
            · split at h
              · simp only [Except.error.injEq] at h; omega
              · cases h
theorem enc_inj {w1 w2 : World} {v1 v2 : Value} {kind kindb : Int} {keys keysb : List (List UInt8)} {nums numsb : List Nat} {sigs sigsb : List (List UInt8)} {data datab x y : List UInt8} (fr : FrIs w1 v1 kind keys nums sigs data) (fs : FrIs w2 v2 kindb keysb numsb sigsb datab)
    (h : encF kind keys nums sigs data = .ok x) (g : encF kindb keysb numsb sigsb datab = .ok y) : x = y ↔ (kind = kindb ∧ keys = keysb ∧ nums = numsb ∧ sigs = sigsb ∧ data = datab) := by
  constructor
  · intro e
    have h1 := dec_enc fr.hkeys fr.hnums fr.hsigs h []
    have h2 := dec_enc fs.hkeys fs.hnums fs.hsigs g []
    rw [if_pos rfl, List.append_nil] at h1 h2
    rw [e, h2] at h1
    simp only [Except.ok.injEq, Prod.mk.injEq] at h1
    obtain ⟨e1, e2, e3, e4, e5⟩ := h1
    exact ⟨e1.symm, e2.symm, e3.symm, e4.symm, e5.symm⟩
  · rintro ⟨rfl, rfl, rfl, rfl, rfl⟩
    rw [h] at g; exact Except.ok.inj g

set_option maxHeartbeats 20000000 in
theorem FrameTwoWays_any (v0 v1 v2 : Value) (kind : Int) (keys : List (List UInt8)) (nums : List Nat) (sigs : List (List UInt8)) (data : List UInt8) (kindb : Int) (keysb : List (List UInt8)) (numsb : List Nat) (sigsb : List (List UInt8)) (datab : List UInt8) (l : List UInt8) (w : World) (fr : FrIs w v0 kind keys nums sigs data) (fs : FrIs w v1 kindb keysb numsb sigsb datab) (h : SlR w v2 1 l.length (l.map byteV)) (hl : l.length < 9223372036854775808) : Fn P 8 [v0, v1, v2] w [] (fun v _ => v = .bool true) := by
  have fr2 := fr
  obtain ⟨⟨va, vb, vc, vd, rfl, _, _, _, hda⟩, _, _, _, hlen⟩ := fr2
  obtain ⟨d1, d2, rfl⟩ := hda.form
  obtain ⟨vaB, vbB, vcB, vdB, rfl⟩ := fs.form
  obtain ⟨ma, mc, rfl⟩ := h.form
  refine Fn.of 97 [.tmp 6] Go.Proofs.Try.func8 rfl rfl rfl rfl ?_
  refine T.seq ?_
  refine T.region ?_
  refine TL.cons rfl (T1.boxN 5 rfl rfl (fun b3 => ?_))
  refine TL.cons rfl (T1.boxN 5 rfl rfl (fun b4 => ?_))
  refine TL.cons rfl (V1.t (V1.assign' (by (conv => lhs; whnf) <;> rfl)) ?_)
  refine TL.nil ?_
  refine T.seq ?_
  refine T.seq ?_
  refine T.region ?_
  refine TL.cons rfl (T1.call0 has_9 rfl (fun w hs => writes_any w) (fun v hv => ?_))
  subst hv
  refine TL.cons rfl (V1.t (V1.not rfl rfl) ?_)
  refine TL.nil ?_
  refine T.cond_f rfl ?_
  refine T.skip ?_
  refine T.seq ?_
  refine T.region ?_
  refine TL.cons rfl (V1.t (V1.loadN one_27 sz_27 rfl (RdN.whole (by repeat (first | exact Find.here | apply Find.there | apply Find.far))) (by rfl)) ?_)
  refine TL.cons rfl (T1.callN has_10 rfl (fun w hs => encode_any (fr.st rfl hs)) (fun v Y hv => ?_))
  rcases encR_cases hv with ⟨c1, enc1, rfl, rfl⟩ | ⟨by1, sl1, enc1, rfl, hsl1⟩
  ·
    have hce1 := encF_errs enc1
    refine TL.cons rfl (V1.t (V1.move' (by (conv => lhs; whnf) <;> rfl)) ?_)
    refine TL.cons rfl (V1.t (V1.extract rfl (by rfl)) ?_)
    refine TL.cons rfl (V1.t (V1.extract rfl (by rfl)) ?_)
    refine TL.cons rfl (V1.t (V1.assign' (by (conv => lhs; whnf) <;> rfl)) ?_)
    refine TL.cons rfl (V1.t (V1.assign' (by (conv => lhs; whnf) <;> rfl)) ?_)
    refine TL.nil ?_
    refine T.seq ?_
    refine T.region ?_
    refine TL.cons rfl (V1.t (V1.loadN one_27 sz_27 rfl (RdN.whole (by repeat (first | exact Find.here | apply Find.there | apply Find.far))) (by rfl)) ?_)
    refine TL.cons rfl (T1.callN has_10 rfl (fun w hs => encode_any (fs.st rfl hs)) (fun v Y hv => ?_))
    rcases encR_cases hv with ⟨c2, enc2, rfl, rfl⟩ | ⟨by2, sl2, enc2, rfl, hsl2⟩
    ·
      have hce2 := encF_errs enc2
      refine TL.cons rfl (V1.t (V1.move' (by (conv => lhs; whnf) <;> rfl)) ?_)
      refine TL.cons rfl (V1.t (V1.extract rfl (by rfl)) ?_)
      refine TL.cons rfl (V1.t (V1.extract rfl (by rfl)) ?_)
      refine TL.cons rfl (V1.t (V1.assign' (by (conv => lhs; whnf) <;> rfl)) ?_)
      refine TL.cons rfl (V1.t (V1.assign' (by (conv => lhs; whnf) <;> rfl)) ?_)
      refine TL.nil ?_
      refine T.seq ?_
      refine T.seq ?_
      refine T.live (l := [(2, _), (3, _), (4, _), (7, _), (8, _), (9, _), (10, _)]) (.cons (by (conv => lhs; whnf) <;> rfl) (.cons (by (conv => lhs; whnf) <;> rfl) (.cons (by (conv => lhs; whnf) <;> rfl) (.cons (by (conv => lhs; whnf) <;> rfl) (.cons (by (conv => lhs; whnf) <;> rfl) (.cons (by (conv => lhs; whnf) <;> rfl) (.cons (by (conv => lhs; whnf) <;> rfl) .nil))))))) (fun e_ => ?_)
      refine T.region ?_
      refine TL.cons rfl (V1.t (V1.move' (by (conv => lhs; whnf) <;> rfl)) ?_)
      refine TL.cons rfl (V1.t (V1.eqI rfl rfl (decide_eq_false (by omega))) ?_)
      refine TL.nil ?_
      refine T.cond_f rfl ?_
      refine T.skip ?_
      refine T.cut (σ := Unit) (l0 := [(2, _)]) (fun x => []) (fun _ _ => True) (.cons (by (conv => lhs; whnf) <;> rfl) .nil) ?_ ?_
      ·
        refine T.seq ?_
        refine T.drawDet' mixed (by decide +kernel) ?_
        refine Det.cons 0 (ins := [(8, _)]) (.old (by (conv => lhs; whnf) <;> rfl) (by decide +kernel) .nil) (fun e_ => .inl ⟨rfl, V1.t (V1.move' (by (conv => lhs; whnf) <;> rfl)) ⟨rfl, rfl⟩⟩) ?_
        refine Det.cons 1 (ins := [(56, _)]) (.new 0 0 (by decide +kernel) rfl rfl .nil) (fun e_ => .inl ⟨rfl, V1.t (V1.eqI rfl rfl (decide_eq_false (by omega))) ⟨rfl, rfl⟩⟩) ?_
        refine Det.cons 2 (ins := [(57, _)]) (.new 1 0 (by decide +kernel) rfl rfl .nil) (fun e_ => .inl ⟨rfl, V1.t (V1.move' (by (conv => lhs; whnf) <;> rfl)) ⟨rfl, rfl⟩⟩) ?_
        refine Det.cons 3 (ins := [(58, _)]) (.new 2 0 (by decide +kernel) rfl rfl .nil) (fun e_ => .inr ⟨rfl, rfl⟩) ?_
        refine Det.cons 4 (ins := [(58, _)]) (.new 2 1 (by decide +kernel) rfl rfl .nil) (fun e_ => .inr ⟨rfl, rfl⟩) ?_
        refine Det.cons 5 (ins := [(58, _), (60, _)]) (.new 2 2 (by decide +kernel) rfl rfl (.new 4 0 (by decide +kernel) rfl rfl .nil)) (fun e_ => .inl ⟨rfl, V1.t (V1.pick rfl (by (conv => lhs; whnf) <;> rfl)) ⟨rfl, rfl⟩⟩) ?_
        refine Det.cons 6 (ins := [(61, _)]) (.new 5 0 (by decide +kernel) rfl rfl .nil) (fun e_ => .inl ⟨rfl, V1.t (V1.move' (by (conv => lhs; whnf) <;> rfl)) ⟨rfl, rfl⟩⟩) ?_
        refine Det.cons 7 (ins := [(62, _)]) (.new 6 0 (by decide +kernel) rfl rfl .nil) (fun e_ => .inr ⟨rfl, rfl⟩) ?_
        refine Det.cons 8 (ins := [(62, _)]) (.new 6 1 (by decide +kernel) rfl rfl .nil) (fun e_ => .inr ⟨rfl, rfl⟩) ?_
        refine Det.cons 9 (ins := [(62, _)]) (.new 6 2 (by decide +kernel) rfl rfl .nil) (fun e_ => .inr ⟨rfl, rfl⟩) ?_
        refine Det.cons 10 (ins := [(62, _)]) (.new 6 3 (by decide +kernel) rfl rfl .nil) (fun e_ => .inr ⟨rfl, rfl⟩) ?_
        refine Det.cons 11 (ins := [(62, _)]) (.new 6 4 (by decide +kernel) rfl rfl .nil) (fun e_ => .inr ⟨rfl, rfl⟩) ?_
        refine Det.cons 12 (ins := [(62, _)]) (.new 6 5 (by decide +kernel) rfl rfl .nil) (fun e_ => .inr ⟨rfl, rfl⟩) ?_
        refine Det.cons 13 (ins := [(62, _)]) (.new 6 6 (by decide +kernel) rfl rfl .nil) (fun e_ => .inr ⟨rfl, rfl⟩) ?_
        refine Det.cons 14 (ins := [(62, _)]) (.new 6 7 (by decide +kernel) rfl rfl .nil) (fun e_ => .inr ⟨rfl, rfl⟩) ?_
        refine Det.cons 15 (ins := [(62, _)]) (.new 6 8 (by decide +kernel) rfl rfl .nil) (fun e_ => .inr ⟨rfl, rfl⟩) ?_
        refine Det.cons 16 (ins := [(62, _), (71, _)]) (.new 6 9 (by decide +kernel) rfl rfl (.new 15 0 (by decide +kernel) rfl rfl .nil)) (fun e_ => .inl ⟨rfl, V1.t (V1.pick rfl (by (conv => lhs; whnf) <;> rfl)) ⟨rfl, rfl⟩⟩) ?_
        refine Det.nil 17 (l := [(2, _), (72, _)]) (.old (by (conv => lhs; whnf) <;> rfl) (by decide +kernel) (.new 16 0 (by decide +kernel) rfl rfl .nil)) (fun e_ => ?_)
        refine T.cond_f rfl ?_
        refine T.skip ?_
        exact ⟨(), _, _, trivial, .nil, (.cons rfl .nil), Take.nil, trivial⟩
      ·
        rintro _ e_ L _
        refine T.seq ?_
        refine T.region ?_
        refine TL.cons rfl (V1.t (V1.move' (by (conv => lhs; whnf) <;> rfl)) ?_)
        refine TL.cons rfl (T1.callN has_15 rfl (fun w hs => Decode_any _ l w (h.st rfl hs) hl) (fun v Y hv => ?_))
        rcases decR_cases hv with ⟨e1, hd1, rfl, rfl⟩ | ⟨kind, keys, nums, sigs, data, sk, sn, sx, sd, Yk, Yn, Yx, Yd, hd1, rfl, s1, s2, s3, s4, rfl⟩
        ·
          have he1 : e1 ≠ 0 := decF_ne hd1
          refine TL.cons rfl (V1.t (V1.move' (by (conv => lhs; whnf) <;> rfl)) ?_)
          refine TL.cons rfl (V1.t (V1.extract rfl (by rfl)) ?_)
          refine TL.cons rfl (V1.t (V1.extract rfl (by rfl)) ?_)
          refine TL.cons rfl (T1.allocN 5 zr_27 rfl (fun b13 => ?_))
          refine TL.cons rfl (T1.storeN rfl rfl sz_27 (by intro u hu; simp only [List.mem_cons, List.not_mem_nil, or_false] at hu; rcases hu with rfl | rfl | rfl | rfl | rfl; rfl; all_goals rfl) (by repeat (first | exact Sub.one | apply Sub.there | apply Sub.far)) (by rfl) (by rfl) ?_)
          refine TL.cons rfl (V1.t (V1.assign' (by (conv => lhs; whnf) <;> rfl)) ?_)
          refine TL.nil ?_
          refine T.seq ?_
          refine T.seq ?_
          refine T.region ?_
          refine TL.cons rfl (V1.t (V1.move' (by (conv => lhs; whnf) <;> rfl)) ?_)
          refine TL.cons rfl (V1.t (V1.neI rfl rfl (decide_eq_true (by omega))) ?_)
          refine TL.nil ?_
          refine T.cond_t rfl ?_
          refine T.seq ?_
          refine T.region ?_
          refine TL.cons rfl (V1.t (V1.loadN one_27 sz_27 rfl (RdN.whole (by repeat (first | exact Find.here | apply Find.there | apply Find.far))) (by rfl)) ?_)
          refine TL.cons rfl (V1.t (V1.build0 pl_27 zr_27) ?_)
          refine TL.cons rfl (T1.call0 has_17 rfl (fun w hs => Same_any _ _ _ _ _ _ _ _ _ _ _ _ w FrIs.zero FrIs.zero) (fun v hv => ?_))
          obtain ⟨r, rfl, hr⟩ := hv
          obtain rfl : r = true := hr.2 ⟨rfl, rfl, rfl, rfl, rfl⟩
          refine TL.cons rfl (V1.t (V1.assign' (by (conv => lhs; whnf) <;> rfl)) ?_)
          refine TL.nil ?_
          refine T.ret ?_
          exact ⟨_, [], _, .cons (.tmp (by (conv => lhs; whnf) <;> rfl)) .nil, Take.nil, rfl⟩
        ·
          simp only [List.append_assoc]
          have hp1 := decF_props hd1
          refine TL.cons rfl (V1.t (V1.move' (by (conv => lhs; whnf) <;> rfl)) ?_)
          refine TL.cons rfl (V1.t (V1.extract rfl (by rfl)) ?_)
          refine TL.cons rfl (V1.t (V1.extract rfl (by rfl)) ?_)
          refine TL.cons rfl (T1.allocN 5 zr_27 rfl (fun b13 => ?_))
          refine TL.cons rfl (T1.storeN rfl rfl sz_27 (by intro u hu; simp only [List.mem_cons, List.not_mem_nil, or_false] at hu; rcases hu with rfl | rfl | rfl | rfl | rfl; rfl; exact s1.one; exact s2.one; exact s3.one; exact s4.one) (by repeat (first | exact Sub.one | apply Sub.there | apply Sub.far)) (by rfl) (by rfl) ?_)
          refine TL.cons rfl (V1.t (V1.assign' (by (conv => lhs; whnf) <;> rfl)) ?_)
          refine TL.nil ?_
          refine T.seq ?_
          refine T.seq ?_
          refine T.region ?_
          refine TL.cons rfl (V1.t (V1.move' (by (conv => lhs; whnf) <;> rfl)) ?_)
          refine TL.cons rfl (V1.t (V1.neI rfl rfl (decide_eq_false (by omega))) ?_)
          refine TL.nil ?_
          refine T.cond_f rfl ?_
          refine T.skip ?_
          refine T.seq ?_
          refine T.region ?_
          refine TL.cons rfl (V1.t (V1.loadN one_27 sz_27 rfl (RdN.whole (by repeat (first | exact Find.here | apply Find.there | apply Find.far))) (by rfl)) ?_)
          refine TL.cons rfl (T1.callN has_10 rfl (fun w hs => encode_any (FrIs.own hs hp1 s1 (by repeat (first | exact PickS.last | exact PickS.one | exact PickS.here | exact PickS.nil | apply PickS.there | apply PickS.far)) s2 (by repeat (first | exact PickS.last | exact PickS.one | exact PickS.here | exact PickS.nil | apply PickS.there | apply PickS.far)) s3 (by repeat (first | exact PickS.last | exact PickS.one | exact PickS.here | exact PickS.nil | apply PickS.there | apply PickS.far)) s4 (by repeat (first | exact PickS.last | exact PickS.one | exact PickS.here | exact PickS.nil | apply PickS.there | apply PickS.far)))) (fun v Y hv => ?_))
          have henc := enc_dec hd1
          rcases encR_cases hv with ⟨c3, enc3, rfl, rfl⟩ | ⟨by3, sl3, enc3, rfl, hsl3⟩
          all_goals rw [henc] at enc3
          · cases enc3
          obtain rfl := Except.ok.inj enc3
          ·
            refine TL.cons rfl (V1.t (V1.move' (by (conv => lhs; whnf) <;> rfl)) ?_)
            refine TL.cons rfl (V1.t (V1.extract rfl (by rfl)) ?_)
            refine TL.cons rfl (V1.t (V1.extract rfl (by rfl)) ?_)
            refine TL.cons rfl (V1.t (V1.assign' (by (conv => lhs; whnf) <;> rfl)) ?_)
            refine TL.cons rfl (V1.t (V1.assign' (by (conv => lhs; whnf) <;> rfl)) ?_)
            refine TL.nil ?_
            refine T.seq ?_
            refine T.live (l := [(2, _), (15, _), (16, _)]) (.cons (by (conv => lhs; whnf) <;> rfl) (.cons (by (conv => lhs; whnf) <;> rfl) (.cons (by (conv => lhs; whnf) <;> rfl) .nil))) (fun e_ => ?_)
            refine T.region ?_
            refine TL.cons rfl (V1.t (V1.move' (by (conv => lhs; whnf) <;> rfl)) ?_)
            refine TL.cons rfl (V1.t (V1.eqI rfl rfl (decide_eq_true (by omega))) ?_)
            refine TL.cons rfl (V1.t (V1.move' (by (conv => lhs; whnf) <;> rfl)) ?_)
            refine TL.cons rfl (V1.t (V1.move' (by (conv => lhs; whnf) <;> rfl)) ?_)
            refine TL.cons rfl (V1.t (V1.slToStr ty_25 ty_5 ty_9 rfl hsl3 (by repeat (first | exact Sub.here | exact Sub.last | apply Sub.there | apply Sub.far))) ?_)
            refine TL.cons rfl (V1.t (V1.move' (by (conv => lhs; whnf) <;> rfl)) ?_)
            refine TL.cons rfl (V1.t (V1.bytesToStr (l := l) ty_25 ty_5 ty_9 rfl (h.src rfl) (by intro b h; cases h)) ?_)
            refine TL.cons rfl (V1.t (V1.eqS (r := true) rfl rfl (by simp)) ?_)
            refine TL.cons rfl (V1.t (V1.pick rfl (by (conv => lhs; whnf) <;> rfl)) ?_)
            refine TL.cons rfl (V1.t (V1.assign' (by (conv => lhs; whnf) <;> rfl)) ?_)
            refine TL.nil ?_
            refine T.ret ?_
            exact ⟨_, [], _, .cons (.tmp (by (conv => lhs; whnf) <;> rfl)) .nil, Take.nil, rfl⟩
    ·
      have hbl2 := enc_len fs enc2
      have hsz2 := size_enc fs enc2
      obtain ⟨bb2, off2, cap2, size2, rfl, hcap2, hsize2, rfl⟩ := hsl2.block (by intro h; have := congrArg List.length h; simp only [List.length_map, List.length_nil] at this; omega)
      rw [List.length_map] at hcap2 hsl2 ⊢
      dsimp only [List.cons_append, List.nil_append]
      refine TL.cons rfl (V1.t (V1.move' (by (conv => lhs; whnf) <;> rfl)) ?_)
      refine TL.cons rfl (V1.t (V1.extract rfl (by rfl)) ?_)
      refine TL.cons rfl (V1.t (V1.extract rfl (by rfl)) ?_)
      refine TL.cons rfl (V1.t (V1.assign' (by (conv => lhs; whnf) <;> rfl)) ?_)
      refine TL.cons rfl (V1.t (V1.assign' (by (conv => lhs; whnf) <;> rfl)) ?_)
      refine TL.nil ?_
      refine T.seq ?_
      refine T.seq ?_
      refine T.live (l := [(2, _), (3, _), (4, _), (7, _), (8, _), (9, _), (10, _)]) (.cons (by (conv => lhs; whnf) <;> rfl) (.cons (by (conv => lhs; whnf) <;> rfl) (.cons (by (conv => lhs; whnf) <;> rfl) (.cons (by (conv => lhs; whnf) <;> rfl) (.cons (by (conv => lhs; whnf) <;> rfl) (.cons (by (conv => lhs; whnf) <;> rfl) (.cons (by (conv => lhs; whnf) <;> rfl) .nil))))))) (fun e_ => ?_)
      refine T.region ?_
      refine TL.cons rfl (V1.t (V1.move' (by (conv => lhs; whnf) <;> rfl)) ?_)
      refine TL.cons rfl (V1.t (V1.eqI rfl rfl (decide_eq_false (by omega))) ?_)
      refine TL.nil ?_
      refine T.cond_f rfl ?_
      refine T.skip ?_
      refine T.cut (σ := Unit) (l0 := [(2, _)]) (fun x => []) (fun _ _ => True) (.cons (by (conv => lhs; whnf) <;> rfl) .nil) ?_ ?_
      ·
        refine T.seq ?_
        refine T.drawDet' mixed (by decide +kernel) ?_
        refine Det.cons 0 (ins := [(8, _)]) (.old (by (conv => lhs; whnf) <;> rfl) (by decide +kernel) .nil) (fun e_ => .inl ⟨rfl, V1.t (V1.move' (by (conv => lhs; whnf) <;> rfl)) ⟨rfl, rfl⟩⟩) ?_
        refine Det.cons 1 (ins := [(56, _)]) (.new 0 0 (by decide +kernel) rfl rfl .nil) (fun e_ => .inl ⟨rfl, V1.t (V1.eqI rfl rfl (decide_eq_false (by omega))) ⟨rfl, rfl⟩⟩) ?_
        refine Det.cons 2 (ins := [(57, _)]) (.new 1 0 (by decide +kernel) rfl rfl .nil) (fun e_ => .inl ⟨rfl, V1.t (V1.move' (by (conv => lhs; whnf) <;> rfl)) ⟨rfl, rfl⟩⟩) ?_
        refine Det.cons 3 (ins := [(58, _)]) (.new 2 0 (by decide +kernel) rfl rfl .nil) (fun e_ => .inr ⟨rfl, rfl⟩) ?_
        refine Det.cons 4 (ins := [(58, _)]) (.new 2 1 (by decide +kernel) rfl rfl .nil) (fun e_ => .inr ⟨rfl, rfl⟩) ?_
        refine Det.cons 5 (ins := [(58, _), (60, _)]) (.new 2 2 (by decide +kernel) rfl rfl (.new 4 0 (by decide +kernel) rfl rfl .nil)) (fun e_ => .inl ⟨rfl, V1.t (V1.pick rfl (by (conv => lhs; whnf) <;> rfl)) ⟨rfl, rfl⟩⟩) ?_
        refine Det.cons 6 (ins := [(61, _)]) (.new 5 0 (by decide +kernel) rfl rfl .nil) (fun e_ => .inl ⟨rfl, V1.t (V1.move' (by (conv => lhs; whnf) <;> rfl)) ⟨rfl, rfl⟩⟩) ?_
        refine Det.cons 7 (ins := [(62, _)]) (.new 6 0 (by decide +kernel) rfl rfl .nil) (fun e_ => .inr ⟨rfl, rfl⟩) ?_
        refine Det.cons 8 (ins := [(62, _)]) (.new 6 1 (by decide +kernel) rfl rfl .nil) (fun e_ => .inr ⟨rfl, rfl⟩) ?_
        refine Det.cons 9 (ins := [(62, _)]) (.new 6 2 (by decide +kernel) rfl rfl .nil) (fun e_ => .inr ⟨rfl, rfl⟩) ?_
        refine Det.cons 10 (ins := [(62, _)]) (.new 6 3 (by decide +kernel) rfl rfl .nil) (fun e_ => .inr ⟨rfl, rfl⟩) ?_
        refine Det.cons 11 (ins := [(62, _)]) (.new 6 4 (by decide +kernel) rfl rfl .nil) (fun e_ => .inr ⟨rfl, rfl⟩) ?_
        refine Det.cons 12 (ins := [(62, _)]) (.new 6 5 (by decide +kernel) rfl rfl .nil) (fun e_ => .inr ⟨rfl, rfl⟩) ?_
        refine Det.cons 13 (ins := [(62, _)]) (.new 6 6 (by decide +kernel) rfl rfl .nil) (fun e_ => .inr ⟨rfl, rfl⟩) ?_
        refine Det.cons 14 (ins := [(62, _)]) (.new 6 7 (by decide +kernel) rfl rfl .nil) (fun e_ => .inr ⟨rfl, rfl⟩) ?_
        refine Det.cons 15 (ins := [(62, _)]) (.new 6 8 (by decide +kernel) rfl rfl .nil) (fun e_ => .inr ⟨rfl, rfl⟩) ?_
        refine Det.cons 16 (ins := [(62, _), (71, _)]) (.new 6 9 (by decide +kernel) rfl rfl (.new 15 0 (by decide +kernel) rfl rfl .nil)) (fun e_ => .inl ⟨rfl, V1.t (V1.pick rfl (by (conv => lhs; whnf) <;> rfl)) ⟨rfl, rfl⟩⟩) ?_
        refine Det.nil 17 (l := [(2, _), (72, _)]) (.old (by (conv => lhs; whnf) <;> rfl) (by decide +kernel) (.new 16 0 (by decide +kernel) rfl rfl .nil)) (fun e_ => ?_)
        refine T.cond_f rfl ?_
        refine T.skip ?_
        exact ⟨(), _, _, trivial, .nil, (.cons rfl .nil), Take.nil, trivial⟩
      ·
        rintro _ e_ L _
        refine T.seq ?_
        refine T.region ?_
        refine TL.cons rfl (V1.t (V1.move' (by (conv => lhs; whnf) <;> rfl)) ?_)
        refine TL.cons rfl (T1.callN has_15 rfl (fun w hs => Decode_any _ l w (h.st rfl hs) hl) (fun v Y hv => ?_))
        rcases decR_cases hv with ⟨e1, hd1, rfl, rfl⟩ | ⟨kind, keys, nums, sigs, data, sk, sn, sx, sd, Yk, Yn, Yx, Yd, hd1, rfl, s1, s2, s3, s4, rfl⟩
        ·
          have he1 : e1 ≠ 0 := decF_ne hd1
          refine TL.cons rfl (V1.t (V1.move' (by (conv => lhs; whnf) <;> rfl)) ?_)
          refine TL.cons rfl (V1.t (V1.extract rfl (by rfl)) ?_)
          refine TL.cons rfl (V1.t (V1.extract rfl (by rfl)) ?_)
          refine TL.cons rfl (T1.allocN 5 zr_27 rfl (fun b13 => ?_))
          refine TL.cons rfl (T1.storeN rfl rfl sz_27 (by intro u hu; simp only [List.mem_cons, List.not_mem_nil, or_false] at hu; rcases hu with rfl | rfl | rfl | rfl | rfl; rfl; all_goals rfl) (by repeat (first | exact Sub.one | apply Sub.there | apply Sub.far)) (by rfl) (by rfl) ?_)
          refine TL.cons rfl (V1.t (V1.assign' (by (conv => lhs; whnf) <;> rfl)) ?_)
          refine TL.nil ?_
          refine T.seq ?_
          refine T.seq ?_
          refine T.region ?_
          refine TL.cons rfl (V1.t (V1.move' (by (conv => lhs; whnf) <;> rfl)) ?_)
          refine TL.cons rfl (V1.t (V1.neI rfl rfl (decide_eq_true (by omega))) ?_)
          refine TL.nil ?_
          refine T.cond_t rfl ?_
          refine T.seq ?_
          refine T.region ?_
          refine TL.cons rfl (V1.t (V1.loadN one_27 sz_27 rfl (RdN.whole (by repeat (first | exact Find.here | apply Find.there | apply Find.far))) (by rfl)) ?_)
          refine TL.cons rfl (V1.t (V1.build0 pl_27 zr_27) ?_)
          refine TL.cons rfl (T1.call0 has_17 rfl (fun w hs => Same_any _ _ _ _ _ _ _ _ _ _ _ _ w FrIs.zero FrIs.zero) (fun v hv => ?_))
          obtain ⟨r, rfl, hr⟩ := hv
          obtain rfl : r = true := hr.2 ⟨rfl, rfl, rfl, rfl, rfl⟩
          refine TL.cons rfl (V1.t (V1.assign' (by (conv => lhs; whnf) <;> rfl)) ?_)
          refine TL.nil ?_
          refine T.ret ?_
          exact ⟨_, [], _, .cons (.tmp (by (conv => lhs; whnf) <;> rfl)) .nil, Take.nil, rfl⟩
        ·
          simp only [List.append_assoc]
          have hp1 := decF_props hd1
          refine TL.cons rfl (V1.t (V1.move' (by (conv => lhs; whnf) <;> rfl)) ?_)
          refine TL.cons rfl (V1.t (V1.extract rfl (by rfl)) ?_)
          refine TL.cons rfl (V1.t (V1.extract rfl (by rfl)) ?_)
          refine TL.cons rfl (T1.allocN 5 zr_27 rfl (fun b13 => ?_))
          refine TL.cons rfl (T1.storeN rfl rfl sz_27 (by intro u hu; simp only [List.mem_cons, List.not_mem_nil, or_false] at hu; rcases hu with rfl | rfl | rfl | rfl | rfl; rfl; exact s1.one; exact s2.one; exact s3.one; exact s4.one) (by repeat (first | exact Sub.one | apply Sub.there | apply Sub.far)) (by rfl) (by rfl) ?_)
          refine TL.cons rfl (V1.t (V1.assign' (by (conv => lhs; whnf) <;> rfl)) ?_)
          refine TL.nil ?_
          refine T.seq ?_
          refine T.seq ?_
          refine T.region ?_
          refine TL.cons rfl (V1.t (V1.move' (by (conv => lhs; whnf) <;> rfl)) ?_)
          refine TL.cons rfl (V1.t (V1.neI rfl rfl (decide_eq_false (by omega))) ?_)
          refine TL.nil ?_
          refine T.cond_f rfl ?_
          refine T.skip ?_
          refine T.seq ?_
          refine T.region ?_
          refine TL.cons rfl (V1.t (V1.loadN one_27 sz_27 rfl (RdN.whole (by repeat (first | exact Find.here | apply Find.there | apply Find.far))) (by rfl)) ?_)
          refine TL.cons rfl (T1.callN has_10 rfl (fun w hs => encode_any (FrIs.own hs hp1 s1 (by repeat (first | exact PickS.last | exact PickS.one | exact PickS.here | exact PickS.nil | apply PickS.there | apply PickS.far)) s2 (by repeat (first | exact PickS.last | exact PickS.one | exact PickS.here | exact PickS.nil | apply PickS.there | apply PickS.far)) s3 (by repeat (first | exact PickS.last | exact PickS.one | exact PickS.here | exact PickS.nil | apply PickS.there | apply PickS.far)) s4 (by repeat (first | exact PickS.last | exact PickS.one | exact PickS.here | exact PickS.nil | apply PickS.there | apply PickS.far)))) (fun v Y hv => ?_))
          have henc := enc_dec hd1
          rcases encR_cases hv with ⟨c3, enc3, rfl, rfl⟩ | ⟨by3, sl3, enc3, rfl, hsl3⟩
          all_goals rw [henc] at enc3
          · cases enc3
          obtain rfl := Except.ok.inj enc3
          ·
            refine TL.cons rfl (V1.t (V1.move' (by (conv => lhs; whnf) <;> rfl)) ?_)
            refine TL.cons rfl (V1.t (V1.extract rfl (by rfl)) ?_)
            refine TL.cons rfl (V1.t (V1.extract rfl (by rfl)) ?_)
            refine TL.cons rfl (V1.t (V1.assign' (by (conv => lhs; whnf) <;> rfl)) ?_)
            refine TL.cons rfl (V1.t (V1.assign' (by (conv => lhs; whnf) <;> rfl)) ?_)
            refine TL.nil ?_
            refine T.seq ?_
            refine T.live (l := [(2, _), (15, _), (16, _)]) (.cons (by (conv => lhs; whnf) <;> rfl) (.cons (by (conv => lhs; whnf) <;> rfl) (.cons (by (conv => lhs; whnf) <;> rfl) .nil))) (fun e_ => ?_)
            refine T.region ?_
            refine TL.cons rfl (V1.t (V1.move' (by (conv => lhs; whnf) <;> rfl)) ?_)
            refine TL.cons rfl (V1.t (V1.eqI rfl rfl (decide_eq_true (by omega))) ?_)
            refine TL.cons rfl (V1.t (V1.move' (by (conv => lhs; whnf) <;> rfl)) ?_)
            refine TL.cons rfl (V1.t (V1.move' (by (conv => lhs; whnf) <;> rfl)) ?_)
            refine TL.cons rfl (V1.t (V1.slToStr ty_25 ty_5 ty_9 rfl hsl3 (by repeat (first | exact Sub.here | exact Sub.last | apply Sub.there | apply Sub.far))) ?_)
            refine TL.cons rfl (V1.t (V1.move' (by (conv => lhs; whnf) <;> rfl)) ?_)
            refine TL.cons rfl (V1.t (V1.bytesToStr (l := l) ty_25 ty_5 ty_9 rfl (h.src rfl) (by intro b h; cases h)) ?_)
            refine TL.cons rfl (V1.t (V1.eqS (r := true) rfl rfl (by simp)) ?_)
            refine TL.cons rfl (V1.t (V1.pick rfl (by (conv => lhs; whnf) <;> rfl)) ?_)
            refine TL.cons rfl (V1.t (V1.assign' (by (conv => lhs; whnf) <;> rfl)) ?_)
            refine TL.nil ?_
            refine T.ret ?_
            exact ⟨_, [], _, .cons (.tmp (by (conv => lhs; whnf) <;> rfl)) .nil, Take.nil, rfl⟩
  ·
    have hbl1 := enc_len fr enc1
    have hsz1 := size_enc fr enc1
    obtain ⟨bb1, off1, cap1, size1, rfl, hcap1, hsize1, rfl⟩ := hsl1.block (by intro h; have := congrArg List.length h; simp only [List.length_map, List.length_nil] at this; omega)
    rw [List.length_map] at hcap1 hsl1 ⊢
    dsimp only [List.cons_append, List.nil_append]
    refine TL.cons rfl (V1.t (V1.move' (by (conv => lhs; whnf) <;> rfl)) ?_)
    refine TL.cons rfl (V1.t (V1.extract rfl (by rfl)) ?_)
    refine TL.cons rfl (V1.t (V1.extract rfl (by rfl)) ?_)
    refine TL.cons rfl (V1.t (V1.assign' (by (conv => lhs; whnf) <;> rfl)) ?_)
    refine TL.cons rfl (V1.t (V1.assign' (by (conv => lhs; whnf) <;> rfl)) ?_)
    refine TL.nil ?_
    refine T.seq ?_
    refine T.region ?_
    refine TL.cons rfl (V1.t (V1.loadN one_27 sz_27 rfl (RdN.whole (by repeat (first | exact Find.here | apply Find.there | apply Find.far))) (by rfl)) ?_)
    refine TL.cons rfl (T1.callN has_10 rfl (fun w hs => encode_any (fs.st rfl hs)) (fun v Y hv => ?_))
    rcases encR_cases hv with ⟨c2, enc2, rfl, rfl⟩ | ⟨by2, sl2, enc2, rfl, hsl2⟩
    ·
      have hce2 := encF_errs enc2
      refine TL.cons rfl (V1.t (V1.move' (by (conv => lhs; whnf) <;> rfl)) ?_)
      refine TL.cons rfl (V1.t (V1.extract rfl (by rfl)) ?_)
      refine TL.cons rfl (V1.t (V1.extract rfl (by rfl)) ?_)
      refine TL.cons rfl (V1.t (V1.assign' (by (conv => lhs; whnf) <;> rfl)) ?_)
      refine TL.cons rfl (V1.t (V1.assign' (by (conv => lhs; whnf) <;> rfl)) ?_)
      refine TL.nil ?_
      refine T.seq ?_
      refine T.seq ?_
      refine T.live (l := [(2, _), (3, _), (4, _), (7, _), (8, _), (9, _), (10, _)]) (.cons (by (conv => lhs; whnf) <;> rfl) (.cons (by (conv => lhs; whnf) <;> rfl) (.cons (by (conv => lhs; whnf) <;> rfl) (.cons (by (conv => lhs; whnf) <;> rfl) (.cons (by (conv => lhs; whnf) <;> rfl) (.cons (by (conv => lhs; whnf) <;> rfl) (.cons (by (conv => lhs; whnf) <;> rfl) .nil))))))) (fun e_ => ?_)
      refine T.region ?_
      refine TL.cons rfl (V1.t (V1.move' (by (conv => lhs; whnf) <;> rfl)) ?_)
      refine TL.cons rfl (V1.t (V1.eqI rfl rfl (decide_eq_true (by omega))) ?_)
      refine TL.nil ?_
      refine T.cond_t rfl ?_
      refine T.seq ?_
      refine T.region ?_
      refine TL.cons rfl (V1.t (V1.move' (by (conv => lhs; whnf) <;> rfl)) ?_)
      refine TL.cons rfl (T1.callN has_15 rfl (fun w hs => Decode_any _ by1 w (by obtain ⟨n, hn, h⟩ := hsl1.slr (by repeat (first | exact PickS.last | exact PickS.one | exact PickS.here | exact PickS.nil | apply PickS.there | apply PickS.far)) hs; rw [List.length_map, Nat.mul_one] at hn; subst hn; exact h) (by omega)) (fun v Y hv => ?_))
      have hde := dec_enc fr.hkeys fr.hnums fr.hsigs enc1 []
      rw [if_pos rfl, List.append_nil] at hde
      rcases decR_cases hv with ⟨e1, hd1, rfl, rfl⟩ | ⟨kind3, keys3, nums3, sigs3, data3, sk, sn, sx, sd, Yk, Yn, Yx, Yd, hd1, rfl, s1, s2, s3, s4, rfl⟩
      all_goals rw [hde] at hd1
      · cases hd1
      have hp1 := decF_props hde
      simp only [Except.ok.injEq, Prod.mk.injEq] at hd1
      obtain ⟨rfl, rfl, rfl, rfl, rfl⟩ := hd1
      simp only [List.append_assoc]
      ·
        refine TL.cons rfl (V1.t (V1.move' (by (conv => lhs; whnf) <;> rfl)) ?_)
        refine TL.cons rfl (V1.t (V1.extract rfl (by rfl)) ?_)
        refine TL.cons rfl (V1.t (V1.extract rfl (by rfl)) ?_)
        refine TL.cons rfl (T1.allocN 5 zr_27 rfl (fun b11 => ?_))
        refine TL.cons rfl (T1.storeN rfl rfl sz_27 (by intro u hu; simp only [List.mem_cons, List.not_mem_nil, or_false] at hu; rcases hu with rfl | rfl | rfl | rfl | rfl; rfl; exact s1.one; exact s2.one; exact s3.one; exact s4.one) (by repeat (first | exact Sub.one | apply Sub.there | apply Sub.far)) (by rfl) (by rfl) ?_)
        refine TL.cons rfl (V1.t (V1.assign' (by (conv => lhs; whnf) <;> rfl)) ?_)
        refine TL.nil ?_
        refine T.seq ?_
        refine T.drawDet' mixed (by decide +kernel) ?_
        refine Det.cons 0 (ins := [(12, _)]) (.old (by (conv => lhs; whnf) <;> rfl) (by decide +kernel) .nil) (fun e_ => .inl ⟨rfl, V1.t (V1.move' (by (conv => lhs; whnf) <;> rfl)) ⟨rfl, rfl⟩⟩) ?_
        refine Det.cons 1 (ins := [(36, _)]) (.new 0 0 (by decide +kernel) rfl rfl .nil) (fun e_ => .inl ⟨rfl, V1.t (V1.neI rfl rfl (decide_eq_false (by omega))) ⟨rfl, rfl⟩⟩) ?_
        refine Det.cons 2 (ins := [(37, _)]) (.new 1 0 (by decide +kernel) rfl rfl .nil) (fun e_ => .inl ⟨rfl, V1.t (V1.move' (by (conv => lhs; whnf) <;> rfl)) ⟨rfl, rfl⟩⟩) ?_
        refine Det.cons 3 (ins := [(11, _), (38, _)]) (.old (by (conv => lhs; whnf) <;> rfl) (by decide +kernel) (.new 2 0 (by decide +kernel) rfl rfl .nil)) (fun e_ => .inl ⟨rfl, V1.t (V1.loadN one_27 sz_27 rfl (RdN.whole (by repeat (first | exact Find.here | apply Find.there | apply Find.far))) (by rfl)) ⟨rfl, rfl⟩⟩) ?_
        refine Det.cons 4 (ins := [(3, _), (38, _)]) (.old (by (conv => lhs; whnf) <;> rfl) (by decide +kernel) (.new 2 1 (by decide +kernel) rfl rfl .nil)) (fun e_ => .inl ⟨rfl, V1.t (V1.loadN one_27 sz_27 rfl (RdN.whole (by repeat (first | exact Find.here | apply Find.there | apply Find.far))) (by rfl)) ⟨rfl, rfl⟩⟩) ?_
        refine Det.cons 5 (ins := [(38, _), (39, _), (40, _)]) (v := .bool true) (.new 2 2 (by decide +kernel) rfl rfl (.new 3 1 (by decide +kernel) rfl rfl (.new 4 0 (by decide +kernel) rfl rfl .nil))) (fun e_ => .inl ⟨rfl, ?_⟩) ?_
        · refine T1.call0 has_17 rfl (fun w hs => Same_any _ _ _ _ _ _ _ _ _ _ _ _ w (FrIs.own hs hp1 s1 (by repeat (first | exact PickS.last | exact PickS.one | exact PickS.here | exact PickS.nil | apply PickS.there | apply PickS.far)) s2 (by repeat (first | exact PickS.last | exact PickS.one | exact PickS.here | exact PickS.nil | apply PickS.there | apply PickS.far)) s3 (by repeat (first | exact PickS.last | exact PickS.one | exact PickS.here | exact PickS.nil | apply PickS.there | apply PickS.far)) s4 (by repeat (first | exact PickS.last | exact PickS.one | exact PickS.here | exact PickS.nil | apply PickS.there | apply PickS.far))) (fr.st rfl hs)) (fun v hv => ?_)
          obtain ⟨r, rfl, hr⟩ := hv
          obtain rfl : r = true := hr.2 ⟨rfl, rfl, rfl, rfl, rfl⟩
          exact ⟨rfl, rfl⟩
        refine Det.cons 6 (ins := [(38, _), (41, _)]) (.new 2 3 (by decide +kernel) rfl rfl (.new 5 0 (by decide +kernel) rfl rfl .nil)) (fun e_ => .inl ⟨rfl, V1.t (V1.not rfl rfl) ⟨rfl, rfl⟩⟩) ?_
        refine Det.cons 7 (ins := [(38, _), (42, _)]) (.new 2 4 (by decide +kernel) rfl rfl (.new 6 0 (by decide +kernel) rfl rfl .nil)) (fun e_ => .inl ⟨rfl, V1.t (V1.pick rfl (by (conv => lhs; whnf) <;> rfl)) ⟨rfl, rfl⟩⟩) ?_
        refine Det.cons 8 (ins := [(43, _)]) (.new 7 0 (by decide +kernel) rfl rfl .nil) (fun e_ => .inl ⟨rfl, V1.t (V1.move' (by (conv => lhs; whnf) <;> rfl)) ⟨rfl, rfl⟩⟩) ?_
        refine Det.cons 9 (ins := [(7, _), (44, _)]) (.old (by (conv => lhs; whnf) <;> rfl) (by decide +kernel) (.new 8 0 (by decide +kernel) rfl rfl .nil)) (fun e_ => .inl ⟨rfl, V1.t (V1.move' (by (conv => lhs; whnf) <;> rfl)) ⟨rfl, rfl⟩⟩) ?_
        refine Det.cons 10 (ins := [(44, _), (45, _)]) (.new 8 1 (by decide +kernel) rfl rfl (.new 9 0 (by decide +kernel) rfl rfl .nil)) (fun e_ => .inl ⟨rfl, V1.t (V1.lenSl ty_25 rfl) ⟨rfl, rfl⟩⟩) ?_
        refine Det.cons 11 (ins := [(3, _), (44, _)]) (.old (by (conv => lhs; whnf) <;> rfl) (by decide +kernel) (.new 8 2 (by decide +kernel) rfl rfl .nil)) (fun e_ => .inl ⟨rfl, V1.t (V1.fieldAddr fl_27_0 rfl) ⟨rfl, rfl⟩⟩) ?_
        refine Det.cons 12 (ins := [(44, _), (47, _)]) (.new 8 3 (by decide +kernel) rfl rfl (.new 11 0 (by decide +kernel) rfl rfl .nil)) (fun e_ => .inl ⟨rfl, V1.t (V1.load1 one_3 rfl (.own (by repeat (first | exact Find.here | apply Find.there | apply Find.far)) (by rfl))) ⟨rfl, rfl⟩⟩) ?_
        refine Det.cons 13 (ins := [(44, _), (48, _)]) (v := .int .i64 (sizeV kind)) (.new 8 4 (by decide +kernel) rfl rfl (.new 12 0 (by decide +kernel) rfl rfl .nil)) (fun e_ => .inl ⟨rfl, ?_⟩) ?_
        · refine T1.call0 has_14 rfl (fun w hs => Size_any _ w) (fun v hv => ?_)
          subst hv
          exact ⟨rfl, rfl⟩
        refine Det.cons 14 (ins := [(3, _), (44, _)]) (.old (by (conv => lhs; whnf) <;> rfl) (by decide +kernel) (.new 8 5 (by decide +kernel) rfl rfl .nil)) (fun e_ => .inl ⟨rfl, V1.t (V1.fieldAddr fl_27_4 rfl) ⟨rfl, rfl⟩⟩) ?_
        refine Det.cons 15 (ins := [(44, _), (50, _)]) (.new 8 6 (by decide +kernel) rfl rfl (.new 14 0 (by decide +kernel) rfl rfl .nil)) (fun e_ => .inl ⟨rfl, V1.t (V1.load1 one_25 rfl (.own (by repeat (first | exact Find.here | apply Find.there | apply Find.far)) (by rfl))) ⟨rfl, rfl⟩⟩) ?_
        refine Det.cons 16 (ins := [(44, _), (51, _)]) (.new 8 7 (by decide +kernel) rfl rfl (.new 15 0 (by decide +kernel) rfl rfl .nil)) (fun e_ => .inl ⟨rfl, V1.t (V1.lenSl ty_25 rfl) ⟨rfl, rfl⟩⟩) ?_
        refine Det.cons 17 (ins := [(44, _), (49, _), (52, _)]) (.new 8 8 (by decide +kernel) rfl rfl (.new 13 3 (by decide +kernel) rfl rfl (.new 16 0 (by decide +kernel) rfl rfl .nil))) (fun e_ => .inl ⟨rfl, V1.t (V1.add rfl rfl (wrap_i64 _ (by omega) (by omega))) ⟨rfl, rfl⟩⟩) ?_
        refine Det.cons 18 (ins := [(44, _), (46, _), (53, _)]) (.new 8 9 (by decide +kernel) rfl rfl (.new 10 7 (by decide +kernel) rfl rfl (.new 17 0 (by decide +kernel) rfl rfl .nil))) (fun e_ => .inl ⟨rfl, V1.t (V1.neI rfl rfl (decide_eq_false (by omega))) ⟨rfl, rfl⟩⟩) ?_
        refine Det.cons 19 (ins := [(44, _), (54, _)]) (.new 8 10 (by decide +kernel) rfl rfl (.new 18 0 (by decide +kernel) rfl rfl .nil)) (fun e_ => .inl ⟨rfl, V1.t (V1.pick rfl (by (conv => lhs; whnf) <;> rfl)) ⟨rfl, rfl⟩⟩) ?_
        refine Det.nil 20 (l := [(2, _), (3, _), (4, _), (7, _), (8, _), (9, _), (10, _), (55, _)]) (.old (by (conv => lhs; whnf) <;> rfl) (by decide +kernel) (.old (by (conv => lhs; whnf) <;> rfl) (by decide +kernel) (.old (by (conv => lhs; whnf) <;> rfl) (by decide +kernel) (.old (by (conv => lhs; whnf) <;> rfl) (by decide +kernel) (.old (by (conv => lhs; whnf) <;> rfl) (by decide +kernel) (.old (by (conv => lhs; whnf) <;> rfl) (by decide +kernel) (.old (by (conv => lhs; whnf) <;> rfl) (by decide +kernel) (.new 19 0 (by decide +kernel) rfl rfl .nil)))))))) (fun e_ => ?_)
        refine T.cond_f rfl ?_
        refine T.skip ?_
        refine T.cut (σ := Unit) (l0 := [(2, _)]) (fun x => []) (fun _ _ => True) (.cons (by (conv => lhs; whnf) <;> rfl) .nil) ?_ ?_
        ·
          refine T.seq ?_
          refine T.drawDet' mixed (by decide +kernel) ?_
          refine Det.cons 0 (ins := [(8, _)]) (.old (by (conv => lhs; whnf) <;> rfl) (by decide +kernel) .nil) (fun e_ => .inl ⟨rfl, V1.t (V1.move' (by (conv => lhs; whnf) <;> rfl)) ⟨rfl, rfl⟩⟩) ?_
          refine Det.cons 1 (ins := [(56, _)]) (.new 0 0 (by decide +kernel) rfl rfl .nil) (fun e_ => .inl ⟨rfl, V1.t (V1.eqI rfl rfl (decide_eq_true (by omega))) ⟨rfl, rfl⟩⟩) ?_
          refine Det.cons 2 (ins := [(57, _)]) (.new 1 0 (by decide +kernel) rfl rfl .nil) (fun e_ => .inl ⟨rfl, V1.t (V1.move' (by (conv => lhs; whnf) <;> rfl)) ⟨rfl, rfl⟩⟩) ?_
          refine Det.cons 3 (ins := [(10, _), (58, _)]) (.old (by (conv => lhs; whnf) <;> rfl) (by decide +kernel) (.new 2 0 (by decide +kernel) rfl rfl .nil)) (fun e_ => .inl ⟨rfl, V1.t (V1.move' (by (conv => lhs; whnf) <;> rfl)) ⟨rfl, rfl⟩⟩) ?_
          refine Det.cons 4 (ins := [(58, _), (59, _)]) (.new 2 1 (by decide +kernel) rfl rfl (.new 3 0 (by decide +kernel) rfl rfl .nil)) (fun e_ => .inl ⟨rfl, V1.t (V1.eqI rfl rfl (decide_eq_false (by omega))) ⟨rfl, rfl⟩⟩) ?_
          refine Det.cons 5 (ins := [(58, _), (60, _)]) (.new 2 2 (by decide +kernel) rfl rfl (.new 4 0 (by decide +kernel) rfl rfl .nil)) (fun e_ => .inl ⟨rfl, V1.t (V1.pick rfl (by (conv => lhs; whnf) <;> rfl)) ⟨rfl, rfl⟩⟩) ?_
          refine Det.cons 6 (ins := [(61, _)]) (.new 5 0 (by decide +kernel) rfl rfl .nil) (fun e_ => .inl ⟨rfl, V1.t (V1.move' (by (conv => lhs; whnf) <;> rfl)) ⟨rfl, rfl⟩⟩) ?_
          refine Det.cons 7 (ins := [(62, _)]) (.new 6 0 (by decide +kernel) rfl rfl .nil) (fun e_ => .inr ⟨rfl, rfl⟩) ?_
          refine Det.cons 8 (ins := [(62, _)]) (.new 6 1 (by decide +kernel) rfl rfl .nil) (fun e_ => .inr ⟨rfl, rfl⟩) ?_
          refine Det.cons 9 (ins := [(62, _)]) (.new 6 2 (by decide +kernel) rfl rfl .nil) (fun e_ => .inr ⟨rfl, rfl⟩) ?_
          refine Det.cons 10 (ins := [(62, _)]) (.new 6 3 (by decide +kernel) rfl rfl .nil) (fun e_ => .inr ⟨rfl, rfl⟩) ?_
          refine Det.cons 11 (ins := [(62, _)]) (.new 6 4 (by decide +kernel) rfl rfl .nil) (fun e_ => .inr ⟨rfl, rfl⟩) ?_
          refine Det.cons 12 (ins := [(62, _)]) (.new 6 5 (by decide +kernel) rfl rfl .nil) (fun e_ => .inr ⟨rfl, rfl⟩) ?_
          refine Det.cons 13 (ins := [(62, _)]) (.new 6 6 (by decide +kernel) rfl rfl .nil) (fun e_ => .inr ⟨rfl, rfl⟩) ?_
          refine Det.cons 14 (ins := [(62, _)]) (.new 6 7 (by decide +kernel) rfl rfl .nil) (fun e_ => .inr ⟨rfl, rfl⟩) ?_
          refine Det.cons 15 (ins := [(62, _)]) (.new 6 8 (by decide +kernel) rfl rfl .nil) (fun e_ => .inr ⟨rfl, rfl⟩) ?_
          refine Det.cons 16 (ins := [(62, _), (71, _)]) (.new 6 9 (by decide +kernel) rfl rfl (.new 15 0 (by decide +kernel) rfl rfl .nil)) (fun e_ => .inl ⟨rfl, V1.t (V1.pick rfl (by (conv => lhs; whnf) <;> rfl)) ⟨rfl, rfl⟩⟩) ?_
          refine Det.nil 17 (l := [(2, _), (72, _)]) (.old (by (conv => lhs; whnf) <;> rfl) (by decide +kernel) (.new 16 0 (by decide +kernel) rfl rfl .nil)) (fun e_ => ?_)
          refine T.cond_f rfl ?_
          refine T.skip ?_
          exact ⟨(), _, _, trivial, .nil, (.cons rfl .nil), Take.nil, trivial⟩
        ·
          rintro _ e_ L _
          refine T.seq ?_
          refine T.region ?_
          refine TL.cons rfl (V1.t (V1.move' (by (conv => lhs; whnf) <;> rfl)) ?_)
          refine TL.cons rfl (T1.callN has_15 rfl (fun w hs => Decode_any _ l w (h.st rfl hs) hl) (fun v Y hv => ?_))
          rcases decR_cases hv with ⟨e1, hd1, rfl, rfl⟩ | ⟨kind, keys, nums, sigs, data, sk, sn, sx, sd, Yk, Yn, Yx, Yd, hd1, rfl, s1, s2, s3, s4, rfl⟩
          ·
            have he1 : e1 ≠ 0 := decF_ne hd1
            refine TL.cons rfl (V1.t (V1.move' (by (conv => lhs; whnf) <;> rfl)) ?_)
            refine TL.cons rfl (V1.t (V1.extract rfl (by rfl)) ?_)
            refine TL.cons rfl (V1.t (V1.extract rfl (by rfl)) ?_)
            refine TL.cons rfl (T1.allocN 5 zr_27 rfl (fun b13 => ?_))
            refine TL.cons rfl (T1.storeN rfl rfl sz_27 (by intro u hu; simp only [List.mem_cons, List.not_mem_nil, or_false] at hu; rcases hu with rfl | rfl | rfl | rfl | rfl; rfl; all_goals rfl) (by repeat (first | exact Sub.one | apply Sub.there | apply Sub.far)) (by rfl) (by rfl) ?_)
            refine TL.cons rfl (V1.t (V1.assign' (by (conv => lhs; whnf) <;> rfl)) ?_)
            refine TL.nil ?_
            refine T.seq ?_
            refine T.seq ?_
            refine T.region ?_
            refine TL.cons rfl (V1.t (V1.move' (by (conv => lhs; whnf) <;> rfl)) ?_)
            refine TL.cons rfl (V1.t (V1.neI rfl rfl (decide_eq_true (by omega))) ?_)
            refine TL.nil ?_
            refine T.cond_t rfl ?_
            refine T.seq ?_
            refine T.region ?_
            refine TL.cons rfl (V1.t (V1.loadN one_27 sz_27 rfl (RdN.whole (by repeat (first | exact Find.here | apply Find.there | apply Find.far))) (by rfl)) ?_)
            refine TL.cons rfl (V1.t (V1.build0 pl_27 zr_27) ?_)
            refine TL.cons rfl (T1.call0 has_17 rfl (fun w hs => Same_any _ _ _ _ _ _ _ _ _ _ _ _ w FrIs.zero FrIs.zero) (fun v hv => ?_))
            obtain ⟨r, rfl, hr⟩ := hv
            obtain rfl : r = true := hr.2 ⟨rfl, rfl, rfl, rfl, rfl⟩
            refine TL.cons rfl (V1.t (V1.assign' (by (conv => lhs; whnf) <;> rfl)) ?_)
            refine TL.nil ?_
            refine T.ret ?_
            exact ⟨_, [], _, .cons (.tmp (by (conv => lhs; whnf) <;> rfl)) .nil, Take.nil, rfl⟩
          ·
            simp only [List.append_assoc]
            have hp1 := decF_props hd1
            refine TL.cons rfl (V1.t (V1.move' (by (conv => lhs; whnf) <;> rfl)) ?_)
            refine TL.cons rfl (V1.t (V1.extract rfl (by rfl)) ?_)
            refine TL.cons rfl (V1.t (V1.extract rfl (by rfl)) ?_)
            refine TL.cons rfl (T1.allocN 5 zr_27 rfl (fun b13 => ?_))
            refine TL.cons rfl (T1.storeN rfl rfl sz_27 (by intro u hu; simp only [List.mem_cons, List.not_mem_nil, or_false] at hu; rcases hu with rfl | rfl | rfl | rfl | rfl; rfl; exact s1.one; exact s2.one; exact s3.one; exact s4.one) (by repeat (first | exact Sub.one | apply Sub.there | apply Sub.far)) (by rfl) (by rfl) ?_)
            refine TL.cons rfl (V1.t (V1.assign' (by (conv => lhs; whnf) <;> rfl)) ?_)
            refine TL.nil ?_
            refine T.seq ?_
            refine T.seq ?_
            refine T.region ?_
            refine TL.cons rfl (V1.t (V1.move' (by (conv => lhs; whnf) <;> rfl)) ?_)
            refine TL.cons rfl (V1.t (V1.neI rfl rfl (decide_eq_false (by omega))) ?_)
            refine TL.nil ?_
            refine T.cond_f rfl ?_
            refine T.skip ?_
            refine T.seq ?_
            refine T.region ?_
            refine TL.cons rfl (V1.t (V1.loadN one_27 sz_27 rfl (RdN.whole (by repeat (first | exact Find.here | apply Find.there | apply Find.far))) (by rfl)) ?_)
            refine TL.cons rfl (T1.callN has_10 rfl (fun w hs => encode_any (FrIs.own hs hp1 s1 (by repeat (first | exact PickS.last | exact PickS.one | exact PickS.here | exact PickS.nil | apply PickS.there | apply PickS.far)) s2 (by repeat (first | exact PickS.last | exact PickS.one | exact PickS.here | exact PickS.nil | apply PickS.there | apply PickS.far)) s3 (by repeat (first | exact PickS.last | exact PickS.one | exact PickS.here | exact PickS.nil | apply PickS.there | apply PickS.far)) s4 (by repeat (first | exact PickS.last | exact PickS.one | exact PickS.here | exact PickS.nil | apply PickS.there | apply PickS.far)))) (fun v Y hv => ?_))
            have henc := enc_dec hd1
            rcases encR_cases hv with ⟨c3, enc3, rfl, rfl⟩ | ⟨by3, sl3, enc3, rfl, hsl3⟩
            all_goals rw [henc] at enc3
            · cases enc3
            obtain rfl := Except.ok.inj enc3
            ·
              refine TL.cons rfl (V1.t (V1.move' (by (conv => lhs; whnf) <;> rfl)) ?_)
              refine TL.cons rfl (V1.t (V1.extract rfl (by rfl)) ?_)
              refine TL.cons rfl (V1.t (V1.extract rfl (by rfl)) ?_)
              refine TL.cons rfl (V1.t (V1.assign' (by (conv => lhs; whnf) <;> rfl)) ?_)
              refine TL.cons rfl (V1.t (V1.assign' (by (conv => lhs; whnf) <;> rfl)) ?_)
              refine TL.nil ?_
              refine T.seq ?_
              refine T.live (l := [(2, _), (15, _), (16, _)]) (.cons (by (conv => lhs; whnf) <;> rfl) (.cons (by (conv => lhs; whnf) <;> rfl) (.cons (by (conv => lhs; whnf) <;> rfl) .nil))) (fun e_ => ?_)
              refine T.region ?_
              refine TL.cons rfl (V1.t (V1.move' (by (conv => lhs; whnf) <;> rfl)) ?_)
              refine TL.cons rfl (V1.t (V1.eqI rfl rfl (decide_eq_true (by omega))) ?_)
              refine TL.cons rfl (V1.t (V1.move' (by (conv => lhs; whnf) <;> rfl)) ?_)
              refine TL.cons rfl (V1.t (V1.move' (by (conv => lhs; whnf) <;> rfl)) ?_)
              refine TL.cons rfl (V1.t (V1.slToStr ty_25 ty_5 ty_9 rfl hsl3 (by repeat (first | exact Sub.here | exact Sub.last | apply Sub.there | apply Sub.far))) ?_)
              refine TL.cons rfl (V1.t (V1.move' (by (conv => lhs; whnf) <;> rfl)) ?_)
              refine TL.cons rfl (V1.t (V1.bytesToStr (l := l) ty_25 ty_5 ty_9 rfl (h.src rfl) (by intro b h; cases h)) ?_)
              refine TL.cons rfl (V1.t (V1.eqS (r := true) rfl rfl (by simp)) ?_)
              refine TL.cons rfl (V1.t (V1.pick rfl (by (conv => lhs; whnf) <;> rfl)) ?_)
              refine TL.cons rfl (V1.t (V1.assign' (by (conv => lhs; whnf) <;> rfl)) ?_)
              refine TL.nil ?_
              refine T.ret ?_
              exact ⟨_, [], _, .cons (.tmp (by (conv => lhs; whnf) <;> rfl)) .nil, Take.nil, rfl⟩
    ·
      have hbl2 := enc_len fs enc2
      have hsz2 := size_enc fs enc2
      obtain ⟨bb2, off2, cap2, size2, rfl, hcap2, hsize2, rfl⟩ := hsl2.block (by intro h; have := congrArg List.length h; simp only [List.length_map, List.length_nil] at this; omega)
      rw [List.length_map] at hcap2 hsl2 ⊢
      dsimp only [List.cons_append, List.nil_append]
      refine TL.cons rfl (V1.t (V1.move' (by (conv => lhs; whnf) <;> rfl)) ?_)
      refine TL.cons rfl (V1.t (V1.extract rfl (by rfl)) ?_)
      refine TL.cons rfl (V1.t (V1.extract rfl (by rfl)) ?_)
      refine TL.cons rfl (V1.t (V1.assign' (by (conv => lhs; whnf) <;> rfl)) ?_)
      refine TL.cons rfl (V1.t (V1.assign' (by (conv => lhs; whnf) <;> rfl)) ?_)
      refine TL.nil ?_
      refine T.seq ?_
      refine T.seq ?_
      refine T.live (l := [(2, _), (3, _), (4, _), (7, _), (8, _), (9, _), (10, _)]) (.cons (by (conv => lhs; whnf) <;> rfl) (.cons (by (conv => lhs; whnf) <;> rfl) (.cons (by (conv => lhs; whnf) <;> rfl) (.cons (by (conv => lhs; whnf) <;> rfl) (.cons (by (conv => lhs; whnf) <;> rfl) (.cons (by (conv => lhs; whnf) <;> rfl) (.cons (by (conv => lhs; whnf) <;> rfl) .nil))))))) (fun e_ => ?_)
      refine T.region ?_
      refine TL.cons rfl (V1.t (V1.move' (by (conv => lhs; whnf) <;> rfl)) ?_)
      refine TL.cons rfl (V1.t (V1.eqI rfl rfl (decide_eq_true (by omega))) ?_)
      refine TL.nil ?_
      refine T.cond_t rfl ?_
      refine T.seq ?_
      refine T.region ?_
      refine TL.cons rfl (V1.t (V1.move' (by (conv => lhs; whnf) <;> rfl)) ?_)
      refine TL.cons rfl (T1.callN has_15 rfl (fun w hs => Decode_any _ by1 w (by obtain ⟨n, hn, h⟩ := hsl1.slr (by repeat (first | exact PickS.last | exact PickS.one | exact PickS.here | exact PickS.nil | apply PickS.there | apply PickS.far)) hs; rw [List.length_map, Nat.mul_one] at hn; subst hn; exact h) (by omega)) (fun v Y hv => ?_))
      have hde := dec_enc fr.hkeys fr.hnums fr.hsigs enc1 []
      rw [if_pos rfl, List.append_nil] at hde
      rcases decR_cases hv with ⟨e1, hd1, rfl, rfl⟩ | ⟨kind3, keys3, nums3, sigs3, data3, sk, sn, sx, sd, Yk, Yn, Yx, Yd, hd1, rfl, s1, s2, s3, s4, rfl⟩
      all_goals rw [hde] at hd1
      · cases hd1
      have hp1 := decF_props hde
      simp only [Except.ok.injEq, Prod.mk.injEq] at hd1
      obtain ⟨rfl, rfl, rfl, rfl, rfl⟩ := hd1
      simp only [List.append_assoc]
      ·
        refine TL.cons rfl (V1.t (V1.move' (by (conv => lhs; whnf) <;> rfl)) ?_)
        refine TL.cons rfl (V1.t (V1.extract rfl (by rfl)) ?_)
        refine TL.cons rfl (V1.t (V1.extract rfl (by rfl)) ?_)
        refine TL.cons rfl (T1.allocN 5 zr_27 rfl (fun b11 => ?_))
        refine TL.cons rfl (T1.storeN rfl rfl sz_27 (by intro u hu; simp only [List.mem_cons, List.not_mem_nil, or_false] at hu; rcases hu with rfl | rfl | rfl | rfl | rfl; rfl; exact s1.one; exact s2.one; exact s3.one; exact s4.one) (by repeat (first | exact Sub.one | apply Sub.there | apply Sub.far)) (by rfl) (by rfl) ?_)
        refine TL.cons rfl (V1.t (V1.assign' (by (conv => lhs; whnf) <;> rfl)) ?_)
        refine TL.nil ?_
        refine T.seq ?_
        refine T.drawDet' mixed (by decide +kernel) ?_
        refine Det.cons 0 (ins := [(12, _)]) (.old (by (conv => lhs; whnf) <;> rfl) (by decide +kernel) .nil) (fun e_ => .inl ⟨rfl, V1.t (V1.move' (by (conv => lhs; whnf) <;> rfl)) ⟨rfl, rfl⟩⟩) ?_
        refine Det.cons 1 (ins := [(36, _)]) (.new 0 0 (by decide +kernel) rfl rfl .nil) (fun e_ => .inl ⟨rfl, V1.t (V1.neI rfl rfl (decide_eq_false (by omega))) ⟨rfl, rfl⟩⟩) ?_
        refine Det.cons 2 (ins := [(37, _)]) (.new 1 0 (by decide +kernel) rfl rfl .nil) (fun e_ => .inl ⟨rfl, V1.t (V1.move' (by (conv => lhs; whnf) <;> rfl)) ⟨rfl, rfl⟩⟩) ?_
        refine Det.cons 3 (ins := [(11, _), (38, _)]) (.old (by (conv => lhs; whnf) <;> rfl) (by decide +kernel) (.new 2 0 (by decide +kernel) rfl rfl .nil)) (fun e_ => .inl ⟨rfl, V1.t (V1.loadN one_27 sz_27 rfl (RdN.whole (by repeat (first | exact Find.here | apply Find.there | apply Find.far))) (by rfl)) ⟨rfl, rfl⟩⟩) ?_
        refine Det.cons 4 (ins := [(3, _), (38, _)]) (.old (by (conv => lhs; whnf) <;> rfl) (by decide +kernel) (.new 2 1 (by decide +kernel) rfl rfl .nil)) (fun e_ => .inl ⟨rfl, V1.t (V1.loadN one_27 sz_27 rfl (RdN.whole (by repeat (first | exact Find.here | apply Find.there | apply Find.far))) (by rfl)) ⟨rfl, rfl⟩⟩) ?_
        refine Det.cons 5 (ins := [(38, _), (39, _), (40, _)]) (v := .bool true) (.new 2 2 (by decide +kernel) rfl rfl (.new 3 1 (by decide +kernel) rfl rfl (.new 4 0 (by decide +kernel) rfl rfl .nil))) (fun e_ => .inl ⟨rfl, ?_⟩) ?_
        · refine T1.call0 has_17 rfl (fun w hs => Same_any _ _ _ _ _ _ _ _ _ _ _ _ w (FrIs.own hs hp1 s1 (by repeat (first | exact PickS.last | exact PickS.one | exact PickS.here | exact PickS.nil | apply PickS.there | apply PickS.far)) s2 (by repeat (first | exact PickS.last | exact PickS.one | exact PickS.here | exact PickS.nil | apply PickS.there | apply PickS.far)) s3 (by repeat (first | exact PickS.last | exact PickS.one | exact PickS.here | exact PickS.nil | apply PickS.there | apply PickS.far)) s4 (by repeat (first | exact PickS.last | exact PickS.one | exact PickS.here | exact PickS.nil | apply PickS.there | apply PickS.far))) (fr.st rfl hs)) (fun v hv => ?_)
          obtain ⟨r, rfl, hr⟩ := hv
          obtain rfl : r = true := hr.2 ⟨rfl, rfl, rfl, rfl, rfl⟩
          exact ⟨rfl, rfl⟩
        refine Det.cons 6 (ins := [(38, _), (41, _)]) (.new 2 3 (by decide +kernel) rfl rfl (.new 5 0 (by decide +kernel) rfl rfl .nil)) (fun e_ => .inl ⟨rfl, V1.t (V1.not rfl rfl) ⟨rfl, rfl⟩⟩) ?_
        refine Det.cons 7 (ins := [(38, _), (42, _)]) (.new 2 4 (by decide +kernel) rfl rfl (.new 6 0 (by decide +kernel) rfl rfl .nil)) (fun e_ => .inl ⟨rfl, V1.t (V1.pick rfl (by (conv => lhs; whnf) <;> rfl)) ⟨rfl, rfl⟩⟩) ?_
        refine Det.cons 8 (ins := [(43, _)]) (.new 7 0 (by decide +kernel) rfl rfl .nil) (fun e_ => .inl ⟨rfl, V1.t (V1.move' (by (conv => lhs; whnf) <;> rfl)) ⟨rfl, rfl⟩⟩) ?_
        refine Det.cons 9 (ins := [(7, _), (44, _)]) (.old (by (conv => lhs; whnf) <;> rfl) (by decide +kernel) (.new 8 0 (by decide +kernel) rfl rfl .nil)) (fun e_ => .inl ⟨rfl, V1.t (V1.move' (by (conv => lhs; whnf) <;> rfl)) ⟨rfl, rfl⟩⟩) ?_
        refine Det.cons 10 (ins := [(44, _), (45, _)]) (.new 8 1 (by decide +kernel) rfl rfl (.new 9 0 (by decide +kernel) rfl rfl .nil)) (fun e_ => .inl ⟨rfl, V1.t (V1.lenSl ty_25 rfl) ⟨rfl, rfl⟩⟩) ?_
        refine Det.cons 11 (ins := [(3, _), (44, _)]) (.old (by (conv => lhs; whnf) <;> rfl) (by decide +kernel) (.new 8 2 (by decide +kernel) rfl rfl .nil)) (fun e_ => .inl ⟨rfl, V1.t (V1.fieldAddr fl_27_0 rfl) ⟨rfl, rfl⟩⟩) ?_
        refine Det.cons 12 (ins := [(44, _), (47, _)]) (.new 8 3 (by decide +kernel) rfl rfl (.new 11 0 (by decide +kernel) rfl rfl .nil)) (fun e_ => .inl ⟨rfl, V1.t (V1.load1 one_3 rfl (.own (by repeat (first | exact Find.here | apply Find.there | apply Find.far)) (by rfl))) ⟨rfl, rfl⟩⟩) ?_
        refine Det.cons 13 (ins := [(44, _), (48, _)]) (v := .int .i64 (sizeV kind)) (.new 8 4 (by decide +kernel) rfl rfl (.new 12 0 (by decide +kernel) rfl rfl .nil)) (fun e_ => .inl ⟨rfl, ?_⟩) ?_
        · refine T1.call0 has_14 rfl (fun w hs => Size_any _ w) (fun v hv => ?_)
          subst hv
          exact ⟨rfl, rfl⟩
        refine Det.cons 14 (ins := [(3, _), (44, _)]) (.old (by (conv => lhs; whnf) <;> rfl) (by decide +kernel) (.new 8 5 (by decide +kernel) rfl rfl .nil)) (fun e_ => .inl ⟨rfl, V1.t (V1.fieldAddr fl_27_4 rfl) ⟨rfl, rfl⟩⟩) ?_
        refine Det.cons 15 (ins := [(44, _), (50, _)]) (.new 8 6 (by decide +kernel) rfl rfl (.new 14 0 (by decide +kernel) rfl rfl .nil)) (fun e_ => .inl ⟨rfl, V1.t (V1.load1 one_25 rfl (.own (by repeat (first | exact Find.here | apply Find.there | apply Find.far)) (by rfl))) ⟨rfl, rfl⟩⟩) ?_
        refine Det.cons 16 (ins := [(44, _), (51, _)]) (.new 8 7 (by decide +kernel) rfl rfl (.new 15 0 (by decide +kernel) rfl rfl .nil)) (fun e_ => .inl ⟨rfl, V1.t (V1.lenSl ty_25 rfl) ⟨rfl, rfl⟩⟩) ?_
        refine Det.cons 17 (ins := [(44, _), (49, _), (52, _)]) (.new 8 8 (by decide +kernel) rfl rfl (.new 13 3 (by decide +kernel) rfl rfl (.new 16 0 (by decide +kernel) rfl rfl .nil))) (fun e_ => .inl ⟨rfl, V1.t (V1.add rfl rfl (wrap_i64 _ (by omega) (by omega))) ⟨rfl, rfl⟩⟩) ?_
        refine Det.cons 18 (ins := [(44, _), (46, _), (53, _)]) (.new 8 9 (by decide +kernel) rfl rfl (.new 10 7 (by decide +kernel) rfl rfl (.new 17 0 (by decide +kernel) rfl rfl .nil))) (fun e_ => .inl ⟨rfl, V1.t (V1.neI rfl rfl (decide_eq_false (by omega))) ⟨rfl, rfl⟩⟩) ?_
        refine Det.cons 19 (ins := [(44, _), (54, _)]) (.new 8 10 (by decide +kernel) rfl rfl (.new 18 0 (by decide +kernel) rfl rfl .nil)) (fun e_ => .inl ⟨rfl, V1.t (V1.pick rfl (by (conv => lhs; whnf) <;> rfl)) ⟨rfl, rfl⟩⟩) ?_
        refine Det.nil 20 (l := [(2, _), (3, _), (4, _), (7, _), (8, _), (9, _), (10, _), (55, _)]) (.old (by (conv => lhs; whnf) <;> rfl) (by decide +kernel) (.old (by (conv => lhs; whnf) <;> rfl) (by decide +kernel) (.old (by (conv => lhs; whnf) <;> rfl) (by decide +kernel) (.old (by (conv => lhs; whnf) <;> rfl) (by decide +kernel) (.old (by (conv => lhs; whnf) <;> rfl) (by decide +kernel) (.old (by (conv => lhs; whnf) <;> rfl) (by decide +kernel) (.old (by (conv => lhs; whnf) <;> rfl) (by decide +kernel) (.new 19 0 (by decide +kernel) rfl rfl .nil)))))))) (fun e_ => ?_)
        refine T.cond_f rfl ?_
        refine T.skip ?_
        refine T.cut (σ := Unit) (l0 := [(2, _)]) (fun x => []) (fun _ _ => True) (.cons (by (conv => lhs; whnf) <;> rfl) .nil) ?_ ?_
        ·
          refine T.seq ?_
          refine T.drawDet' mixed (by decide +kernel) ?_
          refine Det.cons 0 (ins := [(8, _)]) (.old (by (conv => lhs; whnf) <;> rfl) (by decide +kernel) .nil) (fun e_ => .inl ⟨rfl, V1.t (V1.move' (by (conv => lhs; whnf) <;> rfl)) ⟨rfl, rfl⟩⟩) ?_
          refine Det.cons 1 (ins := [(56, _)]) (.new 0 0 (by decide +kernel) rfl rfl .nil) (fun e_ => .inl ⟨rfl, V1.t (V1.eqI rfl rfl (decide_eq_true (by omega))) ⟨rfl, rfl⟩⟩) ?_
          refine Det.cons 2 (ins := [(57, _)]) (.new 1 0 (by decide +kernel) rfl rfl .nil) (fun e_ => .inl ⟨rfl, V1.t (V1.move' (by (conv => lhs; whnf) <;> rfl)) ⟨rfl, rfl⟩⟩) ?_
          refine Det.cons 3 (ins := [(10, _), (58, _)]) (.old (by (conv => lhs; whnf) <;> rfl) (by decide +kernel) (.new 2 0 (by decide +kernel) rfl rfl .nil)) (fun e_ => .inl ⟨rfl, V1.t (V1.move' (by (conv => lhs; whnf) <;> rfl)) ⟨rfl, rfl⟩⟩) ?_
          refine Det.cons 4 (ins := [(58, _), (59, _)]) (.new 2 1 (by decide +kernel) rfl rfl (.new 3 0 (by decide +kernel) rfl rfl .nil)) (fun e_ => .inl ⟨rfl, V1.t (V1.eqI rfl rfl (decide_eq_true (by omega))) ⟨rfl, rfl⟩⟩) ?_
          refine Det.cons 5 (ins := [(58, _), (60, _)]) (.new 2 2 (by decide +kernel) rfl rfl (.new 4 0 (by decide +kernel) rfl rfl .nil)) (fun e_ => .inl ⟨rfl, V1.t (V1.pick rfl (by (conv => lhs; whnf) <;> rfl)) ⟨rfl, rfl⟩⟩) ?_
          refine Det.cons 6 (ins := [(61, _)]) (.new 5 0 (by decide +kernel) rfl rfl .nil) (fun e_ => .inl ⟨rfl, V1.t (V1.move' (by (conv => lhs; whnf) <;> rfl)) ⟨rfl, rfl⟩⟩) ?_
          refine Det.cons 7 (ins := [(7, _), (62, _)]) (.old (by (conv => lhs; whnf) <;> rfl) (by decide +kernel) (.new 6 0 (by decide +kernel) rfl rfl .nil)) (fun e_ => .inl ⟨rfl, V1.t (V1.move' (by (conv => lhs; whnf) <;> rfl)) ⟨rfl, rfl⟩⟩) ?_
          refine Det.cons 8 (ins := [(62, _), (63, _)]) (.new 6 1 (by decide +kernel) rfl rfl (.new 7 0 (by decide +kernel) rfl rfl .nil)) (fun e_ => .inl ⟨rfl, V1.t (V1.slToStr ty_25 ty_5 ty_9 rfl hsl1 (by repeat (first | exact Sub.one | apply Sub.there | apply Sub.far))) ⟨rfl, rfl⟩⟩) ?_
          refine Det.cons 9 (ins := [(9, _), (62, _)]) (.old (by (conv => lhs; whnf) <;> rfl) (by decide +kernel) (.new 6 2 (by decide +kernel) rfl rfl .nil)) (fun e_ => .inl ⟨rfl, V1.t (V1.move' (by (conv => lhs; whnf) <;> rfl)) ⟨rfl, rfl⟩⟩) ?_
          refine Det.cons 10 (ins := [(62, _), (65, _)]) (.new 6 3 (by decide +kernel) rfl rfl (.new 9 0 (by decide +kernel) rfl rfl .nil)) (fun e_ => .inl ⟨rfl, V1.t (V1.slToStr ty_25 ty_5 ty_9 rfl hsl2 (by repeat (first | exact Sub.one | apply Sub.there | apply Sub.far))) ⟨rfl, rfl⟩⟩) ?_
          refine Det.cons 11 (ins := [(62, _), (64, _), (66, _)]) (.new 6 4 (by decide +kernel) rfl rfl (.new 8 2 (by decide +kernel) rfl rfl (.new 10 0 (by decide +kernel) rfl rfl .nil))) (fun e_ => .inl ⟨rfl, V1.t (V1.eqS (r := decide (by1 = by2)) rfl rfl (by rw [decide_eq_decide]; exact ⟨fun h => bstr_inj h, fun h => by rw [h]⟩)) ⟨rfl, rfl⟩⟩) ?_
          refine Det.cons 12 (ins := [(3, _), (62, _)]) (.old (by (conv => lhs; whnf) <;> rfl) (by decide +kernel) (.new 6 5 (by decide +kernel) rfl rfl .nil)) (fun e_ => .inl ⟨rfl, V1.t (V1.loadN one_27 sz_27 rfl (RdN.whole (by repeat (first | exact Find.here | apply Find.there | apply Find.far))) (by rfl)) ⟨rfl, rfl⟩⟩) ?_
          refine Det.cons 13 (ins := [(4, _), (62, _)]) (.old (by (conv => lhs; whnf) <;> rfl) (by decide +kernel) (.new 6 6 (by decide +kernel) rfl rfl .nil)) (fun e_ => .inl ⟨rfl, V1.t (V1.loadN one_27 sz_27 rfl (RdN.whole (by repeat (first | exact Find.here | apply Find.there | apply Find.far))) (by rfl)) ⟨rfl, rfl⟩⟩) ?_
          refine Det.cons 14 (ins := [(62, _), (68, _), (69, _)]) (v := .bool (decide (by1 = by2))) (.new 6 7 (by decide +kernel) rfl rfl (.new 12 1 (by decide +kernel) rfl rfl (.new 13 0 (by decide +kernel) rfl rfl .nil))) (fun e_ => .inl ⟨rfl, ?_⟩) ?_
          · refine T1.call0 has_17 rfl (fun w hs => Same_any _ _ _ _ _ _ _ _ _ _ _ _ w (fr.st rfl hs) (fs.st rfl hs)) (fun v hv => ?_)
            obtain ⟨r, rfl, hr⟩ := hv
            obtain rfl : r = decide (by1 = by2) := by rw [Bool.eq_iff_iff, hr, decide_eq_true_iff]; exact (enc_inj fr fs enc1 enc2).symm
            exact ⟨rfl, rfl⟩
          refine Det.cons 15 (ins := [(62, _), (67, _), (70, _)]) (.new 6 8 (by decide +kernel) rfl rfl (.new 11 3 (by decide +kernel) rfl rfl (.new 14 0 (by decide +kernel) rfl rfl .nil))) (fun e_ => .inl ⟨rfl, V1.t (V1.neB (r := false) ty_4 rfl rfl (by simp)) ⟨rfl, rfl⟩⟩) ?_
          refine Det.cons 16 (ins := [(62, _), (71, _)]) (.new 6 9 (by decide +kernel) rfl rfl (.new 15 0 (by decide +kernel) rfl rfl .nil)) (fun e_ => .inl ⟨rfl, V1.t (V1.pick rfl (by (conv => lhs; whnf) <;> rfl)) ⟨rfl, rfl⟩⟩) ?_
          refine Det.nil 17 (l := [(2, _), (72, _)]) (.old (by (conv => lhs; whnf) <;> rfl) (by decide +kernel) (.new 16 0 (by decide +kernel) rfl rfl .nil)) (fun e_ => ?_)
          refine T.cond_f rfl ?_
          refine T.skip ?_
          exact ⟨(), _, _, trivial, .nil, (.cons rfl .nil), Take.nil, trivial⟩
        ·
          rintro _ e_ L _
          refine T.seq ?_
          refine T.region ?_
          refine TL.cons rfl (V1.t (V1.move' (by (conv => lhs; whnf) <;> rfl)) ?_)
          refine TL.cons rfl (T1.callN has_15 rfl (fun w hs => Decode_any _ l w (h.st rfl hs) hl) (fun v Y hv => ?_))
          rcases decR_cases hv with ⟨e1, hd1, rfl, rfl⟩ | ⟨kind, keys, nums, sigs, data, sk, sn, sx, sd, Yk, Yn, Yx, Yd, hd1, rfl, s1, s2, s3, s4, rfl⟩
          ·
            have he1 : e1 ≠ 0 := decF_ne hd1
            refine TL.cons rfl (V1.t (V1.move' (by (conv => lhs; whnf) <;> rfl)) ?_)
            refine TL.cons rfl (V1.t (V1.extract rfl (by rfl)) ?_)
            refine TL.cons rfl (V1.t (V1.extract rfl (by rfl)) ?_)
            refine TL.cons rfl (T1.allocN 5 zr_27 rfl (fun b13 => ?_))
            refine TL.cons rfl (T1.storeN rfl rfl sz_27 (by intro u hu; simp only [List.mem_cons, List.not_mem_nil, or_false] at hu; rcases hu with rfl | rfl | rfl | rfl | rfl; rfl; all_goals rfl) (by repeat (first | exact Sub.one | apply Sub.there | apply Sub.far)) (by rfl) (by rfl) ?_)
            refine TL.cons rfl (V1.t (V1.assign' (by (conv => lhs; whnf) <;> rfl)) ?_)
            refine TL.nil ?_
            refine T.seq ?_
            refine T.seq ?_
            refine T.region ?_
            refine TL.cons rfl (V1.t (V1.move' (by (conv => lhs; whnf) <;> rfl)) ?_)
            refine TL.cons rfl (V1.t (V1.neI rfl rfl (decide_eq_true (by omega))) ?_)
            refine TL.nil ?_
            refine T.cond_t rfl ?_
            refine T.seq ?_
            refine T.region ?_
            refine TL.cons rfl (V1.t (V1.loadN one_27 sz_27 rfl (RdN.whole (by repeat (first | exact Find.here | apply Find.there | apply Find.far))) (by rfl)) ?_)
            refine TL.cons rfl (V1.t (V1.build0 pl_27 zr_27) ?_)
            refine TL.cons rfl (T1.call0 has_17 rfl (fun w hs => Same_any _ _ _ _ _ _ _ _ _ _ _ _ w FrIs.zero FrIs.zero) (fun v hv => ?_))
            obtain ⟨r, rfl, hr⟩ := hv
            obtain rfl : r = true := hr.2 ⟨rfl, rfl, rfl, rfl, rfl⟩
            refine TL.cons rfl (V1.t (V1.assign' (by (conv => lhs; whnf) <;> rfl)) ?_)
            refine TL.nil ?_
            refine T.ret ?_
            exact ⟨_, [], _, .cons (.tmp (by (conv => lhs; whnf) <;> rfl)) .nil, Take.nil, rfl⟩
          ·
            simp only [List.append_assoc]
            have hp1 := decF_props hd1
            refine TL.cons rfl (V1.t (V1.move' (by (conv => lhs; whnf) <;> rfl)) ?_)
            refine TL.cons rfl (V1.t (V1.extract rfl (by rfl)) ?_)
            refine TL.cons rfl (V1.t (V1.extract rfl (by rfl)) ?_)
            refine TL.cons rfl (T1.allocN 5 zr_27 rfl (fun b13 => ?_))
            refine TL.cons rfl (T1.storeN rfl rfl sz_27 (by intro u hu; simp only [List.mem_cons, List.not_mem_nil, or_false] at hu; rcases hu with rfl | rfl | rfl | rfl | rfl; rfl; exact s1.one; exact s2.one; exact s3.one; exact s4.one) (by repeat (first | exact Sub.one | apply Sub.there | apply Sub.far)) (by rfl) (by rfl) ?_)
            refine TL.cons rfl (V1.t (V1.assign' (by (conv => lhs; whnf) <;> rfl)) ?_)
            refine TL.nil ?_
            refine T.seq ?_
            refine T.seq ?_
            refine T.region ?_
            refine TL.cons rfl (V1.t (V1.move' (by (conv => lhs; whnf) <;> rfl)) ?_)
            refine TL.cons rfl (V1.t (V1.neI rfl rfl (decide_eq_false (by omega))) ?_)
            refine TL.nil ?_
            refine T.cond_f rfl ?_
            refine T.skip ?_
            refine T.seq ?_
            refine T.region ?_
            refine TL.cons rfl (V1.t (V1.loadN one_27 sz_27 rfl (RdN.whole (by repeat (first | exact Find.here | apply Find.there | apply Find.far))) (by rfl)) ?_)
            refine TL.cons rfl (T1.callN has_10 rfl (fun w hs => encode_any (FrIs.own hs hp1 s1 (by repeat (first | exact PickS.last | exact PickS.one | exact PickS.here | exact PickS.nil | apply PickS.there | apply PickS.far)) s2 (by repeat (first | exact PickS.last | exact PickS.one | exact PickS.here | exact PickS.nil | apply PickS.there | apply PickS.far)) s3 (by repeat (first | exact PickS.last | exact PickS.one | exact PickS.here | exact PickS.nil | apply PickS.there | apply PickS.far)) s4 (by repeat (first | exact PickS.last | exact PickS.one | exact PickS.here | exact PickS.nil | apply PickS.there | apply PickS.far)))) (fun v Y hv => ?_))
            have henc := enc_dec hd1
            rcases encR_cases hv with ⟨c3, enc3, rfl, rfl⟩ | ⟨by3, sl3, enc3, rfl, hsl3⟩
            all_goals rw [henc] at enc3
            · cases enc3
            obtain rfl := Except.ok.inj enc3
            ·
              refine TL.cons rfl (V1.t (V1.move' (by (conv => lhs; whnf) <;> rfl)) ?_)
              refine TL.cons rfl (V1.t (V1.extract rfl (by rfl)) ?_)
              refine TL.cons rfl (V1.t (V1.extract rfl (by rfl)) ?_)
              refine TL.cons rfl (V1.t (V1.assign' (by (conv => lhs; whnf) <;> rfl)) ?_)
              refine TL.cons rfl (V1.t (V1.assign' (by (conv => lhs; whnf) <;> rfl)) ?_)
              refine TL.nil ?_
              refine T.seq ?_
              refine T.live (l := [(2, _), (15, _), (16, _)]) (.cons (by (conv => lhs; whnf) <;> rfl) (.cons (by (conv => lhs; whnf) <;> rfl) (.cons (by (conv => lhs; whnf) <;> rfl) .nil))) (fun e_ => ?_)
              refine T.region ?_
              refine TL.cons rfl (V1.t (V1.move' (by (conv => lhs; whnf) <;> rfl)) ?_)
              refine TL.cons rfl (V1.t (V1.eqI rfl rfl (decide_eq_true (by omega))) ?_)
              refine TL.cons rfl (V1.t (V1.move' (by (conv => lhs; whnf) <;> rfl)) ?_)
              refine TL.cons rfl (V1.t (V1.move' (by (conv => lhs; whnf) <;> rfl)) ?_)
              refine TL.cons rfl (V1.t (V1.slToStr ty_25 ty_5 ty_9 rfl hsl3 (by repeat (first | exact Sub.here | exact Sub.last | apply Sub.there | apply Sub.far))) ?_)
              refine TL.cons rfl (V1.t (V1.move' (by (conv => lhs; whnf) <;> rfl)) ?_)
              refine TL.cons rfl (V1.t (V1.bytesToStr (l := l) ty_25 ty_5 ty_9 rfl (h.src rfl) (by intro b h; cases h)) ?_)
              refine TL.cons rfl (V1.t (V1.eqS (r := true) rfl rfl (by simp)) ?_)
              refine TL.cons rfl (V1.t (V1.pick rfl (by (conv => lhs; whnf) <;> rfl)) ?_)
              refine TL.cons rfl (V1.t (V1.assign' (by (conv => lhs; whnf) <;> rfl)) ?_)
              refine TL.nil ?_
              refine T.ret ?_
              exact ⟨_, [], _, .cons (.tmp (by (conv => lhs; whnf) <;> rfl)) .nil, Take.nil, rfl⟩

end Go.Proofs.Ytgibhdjhgobdnaa.S
