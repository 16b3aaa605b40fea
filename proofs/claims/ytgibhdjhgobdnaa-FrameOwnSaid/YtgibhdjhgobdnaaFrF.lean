/- What is handed in stays as it is, and what is answered is new memory. -/
import Derived.Test.YtgibhdjhgobdnaaFrD
namespace Go.Proofs.Ytgibhdjhgobdnaa.S
open Go.RowKit

theorem Sl.form1 {s : Value} {l : List UInt8} {Ls : List Blk} (h : Sl s (l.map byteV) 1 Ls) : ∃ a c, s = .slice a l.length c := by
  rcases h with ⟨rfl, h, _⟩ | ⟨b, off, len, cap, size, rfl, h1, h2, h3, rfl⟩
  · obtain rfl : l = [] := by simpa using h
    exact ⟨_, _, rfl⟩
  · rw [List.length_map, Nat.mul_one] at h1
    subst h1
    exact ⟨_, _, rfl⟩
theorem Sl.own1 {a : Option Addr} {n c : Nat} {l : List UInt8} {Ls : List Blk} (h : Sl (.slice a n c) (l.map byteV) 1 Ls) (hn : 0 < n) : ∃ b off size, a = some ⟨b, off, none⟩ ∧ l.length = n ∧ n ≤ c ∧ off + c * 1 ≤ size ∧ Ls = [⟨b, off, l.map byteV, size⟩] := by
  rcases h with ⟨h, _, _⟩ | ⟨b, off, len, cap, size, h0, h1, h2, h3, rfl⟩
  · cases h; omega
  · cases h0
    rw [List.length_map, Nat.mul_one] at h1
    exact ⟨b, off, size, rfl, h1, h2, h3, rfl⟩
theorem xor8 : ∀ k : Nat, k < 256 → ∀ n : Nat, n < 256 → bitop .xor .u8 (n : Int) (k : Int) = (((UInt8.ofNat n) ^^^ (UInt8.ofNat k)).toNat : Int) := by
  intro k hk n hn
  show IntKind.u8.wrap (((BitVec.ofInt 8 (n : Int)) ^^^ (BitVec.ofInt 8 (k : Int))).toNat : Int) = _
  rw [BitVec.ofInt_natCast, BitVec.ofInt_natCast, BitVec.toNat_xor, BitVec.toNat_ofNat, BitVec.toNat_ofNat, UInt8.toNat_xor, UInt8.toNat_ofNat', UInt8.toNat_ofNat', Nat.mod_eq_of_lt hn, Nat.mod_eq_of_lt hk]
  have h : n ^^^ k < 2 ^ 8 := Nat.xor_lt_two_pow hn hk
  exact wrap_u8 _ (by omega) (by omega)
theorem xorB {x : UInt8} (k : Nat) (hk : k < 256) : bitop .xor .u8 (x.toNat : Int) (k : Int) = ((x ^^^ UInt8.ofNat k).toNat : Int) := by
  have := xor8 k hk x.toNat x.toNat_lt
  rwa [UInt8.ofNat_toNat] at this
/-- The answer of reading some bytes, whichever it is. -/
def decAll (l : List UInt8) : Int × Int × List (List UInt8) × List Nat × List (List UInt8) × List UInt8 := match decF l with
  | .error e => (e, 0, [], [], [], [])
  | .ok (kind, keys, nums, sigs, data) => (0, kind, keys, nums, sigs, data)
theorem decR_all {l : List UInt8} {v : Value} {Y : List Blk} (h : decR l v Y) : ∃ c kind keys nums sigs data sk sn ss sd Yk Yn Ys Yd, decAll l = (c, kind, keys, nums, sigs, data) ∧ v = .tuple #[.agg (List.toArray [.int .i64 kind, sk, sn, ss, sd]), .int .i64 c] ∧
    Sl sk (keys.flatten.map byteV) 32 Yk ∧ Sl sn (nums.map u32V) 1 Yn ∧ Sl ss (sigs.flatten.map byteV) 64 Ys ∧ Sl sd (data.map byteV) 1 Yd ∧ Y = Yk ++ (Yn ++ (Ys ++ Yd)) ∧
    ((∀ x ∈ keys, x.length = 32) ∧ (∀ x ∈ nums, x < 4294967296) ∧ (∀ x ∈ sigs, x.length = 64) ∧ (keys.length < 9223372036854775808 ∧ nums.length < 9223372036854775808 ∧ sigs.length < 9223372036854775808 ∧ data.length < 9223372036854775808)) := by
  rcases decR_cases h with ⟨e, hd, rfl, rfl⟩ | ⟨kind, keys, nums, sigs, data, sk, sn, ss, sd, Yk, Yn, Ys, Yd, hd, rfl, h1, h2, h3, h4, rfl⟩
  · exact ⟨e, 0, [], [], [], [], _, _, _, _, [], [], [], [], by unfold decAll; rw [hd], rfl, Sl.nil, Sl.nil, Sl.nil, Sl.nil, rfl, by simp⟩
  · exact ⟨0, kind, keys, nums, sigs, data, sk, sn, ss, sd, Yk, Yn, Ys, Yd, by unfold decAll; rw [hd], rfl, h1, h2, h3, h4, rfl, decF_props hd⟩
theorem encR_all {kind : Int} {keys : List (List UInt8)} {nums : List Nat} {sigs : List (List UInt8)} {data : List UInt8} {v : Value} {Y : List Blk} (h : encR kind keys nums sigs data v Y) : ∃ x s c, v = .tuple #[s, .int .i64 c] ∧ Sl s (List.map byteV x) 1 Y := by
  rcases encR_cases h with ⟨c, _, rfl, rfl⟩ | ⟨x, s, _, rfl, h2⟩
  · exact ⟨[], _, c, rfl, Sl.nil⟩
  · exact ⟨x, s, 0, rfl, h2⟩
/-- A frame that came in, with data of one's own. -/
theorem FrIs.withData {C : Ctx} {L Ls G : List Blk} {w : World} {a b c d d' : Value} {kind : Int} {keys : List (List UInt8)} {nums : List Nat} {sigs : List (List UInt8)} {data : List UInt8} (h : FrIs C.w0 (.agg (List.toArray [.int .i64 kind, a, b, c, d])) kind keys nums sigs data) (hm : C.M = []) (hs : St C.w0 C.M L w)
    (hd : Sl d' (data.map byteV) 1 Ls) (hp : PickS L Ls G) : FrIs w (.agg (List.toArray [.int .i64 kind, a, b, c, d'])) kind keys nums sigs data := by
  obtain ⟨⟨vk, vn, vs, vd, he, h1, h2, h3, h4⟩, h5, h6, h7, h8⟩ := h
  cases he
  obtain ⟨n, hn, hr⟩ := hd.slr hp hs
  rw [List.length_map, Nat.mul_one] at hn
  subst hn
  exact ⟨⟨_, _, _, _, rfl, h1.st hm hs, h2.st hm hs, h3.st hm hs, hr⟩, h5, h6, h7, h8⟩

set_option maxHeartbeats 2000000 in
theorem FrameOwn_any (v0 v1 : Value) (kind : Int) (keys : List (List UInt8)) (nums : List Nat) (sigs : List (List UInt8)) (data l : List UInt8) (w : World) (fr : FrIs w v0 kind keys nums sigs data) (sm : SlR w v1 1 l.length (l.map byteV)) (hm : l.length ≤ 140737488351232) (hdl : data.length ≤ 140737488351232) : Fn P 6 [v0, v1] w [] (fun v _ => v = .bool true) := by
  have fr2 := fr
  obtain ⟨⟨va, vb, vc, vd, rfl, _, _, _, hda⟩, _, _, _, hlen⟩ := fr2
  obtain ⟨d1, d2, rfl⟩ := hda.form
  obtain ⟨ma, mc, rfl⟩ := sm.form
  refine Fn.of 84 [.tmp 4] Go.Proofs.Try.func6 rfl rfl rfl rfl ?_
  refine T.seq ?_
  refine T.region ?_
  refine TL.cons rfl (T1.boxN 5 rfl rfl (fun b2 => ?_))
  refine TL.cons rfl (V1.t (V1.assign' (by (conv => lhs; whnf) <;> rfl)) ?_)
  refine TL.nil ?_
  refine T.seq ?_
  refine T.seq ?_
  refine T.region ?_
  refine TL.cons rfl (T1.call0 has_9 rfl (fun w hs => writes_any w) (fun v hv => ?_))
  subst hv
  refine TL.cons rfl (V1.t (V1.not rfl rfl) ?_)
  refine TL.nil ?_
  refine T.cond_f rfl ?_
  refine T.skip ?_
  refine T.seq ?_
  refine T.region ?_
  refine TL.cons rfl (T1.buildSl1 (os := []) ty_25 sz_5 zr_5 (by decide) rfl .nil rfl (ones rfl) (fun b18 => ?_))
  refine TL.cons rfl (V1.t (V1.fieldAddr fl_27_4 rfl) ?_)
  refine TL.cons rfl (V1.t (V1.load1 one_25 rfl (.own (by repeat (first | exact Find.here | apply Find.there | apply Find.far)) (by rfl))) ?_)
  refine TL.cons rfl (T1.append ty_25 kd_25 sz_5 by_5 zr_5 rfl (by decide) (by decide) rfl rfl (Sl.mk (b := b18) (xs := []) (len := 0) (cap := 0) (size := 0) rfl (Nat.le_refl _) (Nat.le_refl _)) (hda.src rfl) (one_bytes _) data.length (by simp only [List.length_map, List.length_nil]; omega) (by omega) (by repeat (first | exact PickS.last | exact PickS.one | exact PickS.here | exact PickS.nil | apply PickS.there | apply PickS.far)) (fun s1 Ls1 hs1 => ?_))
  rw [List.nil_append] at hs1
  have hs1F := hs1
  obtain ⟨s1a, s1c, rfl⟩ := hs1.form1
  refine TL.cons rfl (V1.t (V1.fieldAddr fl_27_4 rfl) ?_)
  refine TL.cons rfl (T1.store1 rfl rfl sz_25 rfl (by repeat (first | exact Sub.one | apply Sub.there | apply Sub.far)) (Nat.zero_le _) (by repeat (first | exact SetAt.here | apply SetAt.there)) ?_)
  refine TL.nil ?_
  refine T.seq ?_
  refine T.region ?_
  refine TL.cons rfl (V1.t (V1.loadN one_27 sz_27 rfl (RdN.whole (by repeat (first | exact Find.here | apply Find.there | apply Find.far))) (by rfl)) ?_)
  refine TL.cons rfl (T1.callN has_10 rfl (fun w hs => encode_any (fr.withData rfl hs hs1 (by repeat (first | exact PickS.last | exact PickS.one | exact PickS.here | exact PickS.nil | apply PickS.there | apply PickS.far)))) (fun v Y hv => ?_))
  obtain ⟨x, sx, cx, rfl, hslx⟩ := encR_all hv
  refine TL.cons rfl (V1.t (V1.move' (by (conv => lhs; whnf) <;> rfl)) ?_)
  refine TL.cons rfl (V1.t (V1.extract rfl (by rfl)) ?_)
  refine TL.cons rfl (V1.t (V1.extract rfl (by rfl)) ?_)
  refine TL.cons rfl (V1.t (V1.assign' (by (conv => lhs; whnf) <;> rfl)) ?_)
  refine TL.cons rfl (V1.t (V1.assign' (by (conv => lhs; whnf) <;> rfl)) ?_)
  refine TL.nil ?_
  refine T.seq ?_
  refine T.live (l := [(1, _), (2, _), (5, _)]) (.cons (by (conv => lhs; whnf) <;> rfl) (.cons (by (conv => lhs; whnf) <;> rfl) (.cons (by (conv => lhs; whnf) <;> rfl) .nil))) (fun e_ => ?_)
  refine T.region ?_
  refine TL.cons rfl (V1.t (V1.move' (by (conv => lhs; whnf) <;> rfl)) ?_)
  refine TL.cons rfl (V1.t (V1.slToStr (l := x) ty_25 ty_5 ty_9 rfl hslx (by repeat (first | exact Sub.here | exact Sub.last | apply Sub.there | apply Sub.far))) ?_)
  refine TL.cons rfl (V1.t (V1.assign' (by (conv => lhs; whnf) <;> rfl)) ?_)
  refine TL.nil ?_
  refine T.seq ?_
  refine T.seq ?_
  refine T.region ?_
  refine TL.cons rfl (V1.t (V1.fieldAddr fl_27_4 rfl) ?_)
  refine TL.cons rfl (V1.t (V1.load1 one_25 rfl (.own (by repeat (first | exact Find.here | apply Find.there | apply Find.far)) (by rfl))) ?_)
  refine TL.cons rfl (V1.t (V1.lenSl ty_25 rfl) ?_)
  refine TL.cons rfl (V1.t (V1.move' (by (conv => lhs; whnf) <;> rfl)) ?_)
  refine TL.nil ?_
  refine T.block ?_
  refine T.loopL (σ := Nat × List UInt8 × List Blk) (l0 := [(1, _), (2, _), (5, _), (7, _), (32, _)]) (fun x => [(33, .int .i64 (x.1 : Nat))]) (fun x L => L = ⟨b2, 0, [.int .i64 kind, va, vb, vc, .slice s1a data.length s1c], 5⟩ :: (Y ++ x.2.2) ∧ Sl (.slice s1a data.length s1c) (x.2.1.map byteV) 1 x.2.2 ∧ x.1 ≤ data.length ∧ x.2.1.length = data.length) (fun x => data.length - x.1) (0, data, _) (.cons rfl .nil) (.cons (by (conv => lhs; whnf) <;> rfl) (.cons (by (conv => lhs; whnf) <;> rfl) (.cons (by (conv => lhs; whnf) <;> rfl) (.cons (by (conv => lhs; whnf) <;> rfl) (.cons (by (conv => lhs; whnf) <;> rfl) .nil))))) (by repeat (first | exact Take.nil | apply Take.one (by repeat (first | exact Pick.here | apply Pick.there | apply Pick.far)) | apply Take.seg (by repeat (first | exact PickS.last | exact PickS.one | exact PickS.here | exact PickS.nil | apply PickS.there | apply PickS.far)) | exact Take.last (by repeat (first | exact PickS.last | exact PickS.one | exact PickS.here | exact PickS.nil | apply PickS.there | apply PickS.far)))) (⟨rfl, hs1, Nat.zero_le _, rfl⟩) ?_
  rintro ⟨is1, yss1, Lxs1⟩ e_ L ⟨rfl, hxs1, hles1, hyls1⟩
  simp only at hxs1 hles1 hyls1
  refine T.seq ?_
  refine T.region ?_
  refine TL.cons rfl (T1.ltI_split rfl rfl (fun h7_0 => ?_) (fun h7_0 => ?_))
  ·
    obtain ⟨bb, off, size, rfl, hyl2, hcap, hsz, rfl⟩ := hxs1.own1 (by omega)
    obtain ⟨x, hx⟩ : ∃ x, yss1[is1]? = some x := ⟨_, List.getElem?_eq_getElem (by omega)⟩
    refine TL.nil ?_
    refine T.seq ?_
    refine T.cond_t rfl ?_
    refine T.skip ?_
    refine T.seq ?_
    refine T.block ?_
    refine T.seq ?_
    refine T.region ?_
    refine TL.cons rfl (V1.t (V1.move' (by (conv => lhs; whnf) <;> rfl)) ?_)
    refine TL.cons rfl (V1.t (V1.assign' (by (conv => lhs; whnf) <;> rfl)) ?_)
    refine TL.nil ?_
    refine T.region ?_
    refine TL.cons rfl (V1.t (V1.fieldAddr fl_27_4 rfl) ?_)
    refine TL.cons rfl (V1.t (V1.load1 one_25 rfl (.own (by repeat (first | exact Find.here | apply Find.there | apply Find.far)) (by rfl))) ?_)
    refine TL.cons rfl (V1.t (V1.move' (by (conv => lhs; whnf) <;> rfl)) ?_)
    refine TL.cons rfl (V1.t (V1.indexAddrS ty_25 sz_5 rfl rfl (by omega) (by omega)) ?_)
    refine TL.cons rfl (V1.t (V1.load1 one_5 rfl (show Rd _ _ ⟨bb, off + is1 * 1, none⟩ (byteV x) from by rw [Nat.mul_one]; exact Rd.at (by repeat (first | exact Find.here | apply Find.there | apply Find.far)) (by rw [List.getElem?_map, hx]; rfl))) ?_)
    refine TL.cons rfl (V1.t (V1.bits rfl rfl rfl (xorB 1 (by decide))) ?_)
    refine TL.cons rfl (V1.t (V1.indexAddrS ty_25 sz_5 rfl rfl (by omega) (by omega)) ?_)
    refine TL.cons rfl (T1.storeE (o := off + is1 * 1) (cells := yss1.map byteV) (cells' := (yss1.set is1 (x ^^^ UInt8.ofNat 1)).map byteV) rfl rfl sz_5 rfl (by rw [show off + is1 * 1 - off = is1 from by omega, List.map_set]; rfl) (by repeat (first | exact Sub.one | apply Sub.there | apply Sub.far)) (by omega) (by rw [List.length_map]; omega) ?_)
    refine TL.nil ?_
    refine T.region ?_
    refine TL.cons rfl (V1.t (V1.add rfl rfl (wrap_i64 _ (by omega) (by omega))) ?_)
    refine TL.cons rfl (V1.t (V1.move' (by (conv => lhs; whnf) <;> rfl)) ?_)
    refine TL.nil ?_
    exact ⟨(is1 + 1, yss1.set is1 (x ^^^ UInt8.ofNat 1), [⟨bb, off, (yss1.set is1 (x ^^^ UInt8.ofNat 1)).map byteV, size⟩]), _, _, (by simp only; omega), (.cons rfl .nil), (.cons rfl (.cons rfl (.cons rfl (.cons rfl (.cons rfl .nil))))), (by repeat (first | exact Take.nil | apply Take.one (by repeat (first | exact Pick.here | apply Pick.there | apply Pick.far)) | apply Take.seg (by repeat (first | exact PickS.last | exact PickS.one | exact PickS.here | exact PickS.nil | apply PickS.there | apply PickS.far)) | exact Take.last (by repeat (first | exact PickS.last | exact PickS.one | exact PickS.here | exact PickS.nil | apply PickS.there | apply PickS.far)))), ⟨rfl, Sl.mk (by simp only [List.length_map, List.length_set]; omega) hcap hsz, by simp only; omega, by simp only [List.length_set]; exact hyls1⟩⟩
  ·
    refine TL.nil ?_
    refine T.seq ?_
    refine T.cond_f rfl ?_
    refine T.exit ?_
    refine T.seq ?_
    refine T.region ?_
    refine TL.cons rfl (T1.buildSl1 (os := []) ty_25 sz_5 zr_5 (by decide) rfl .nil rfl (ones rfl) (fun b44 => ?_))
    refine TL.cons rfl (V1.t (V1.move' (by (conv => lhs; whnf) <;> rfl)) ?_)
    refine TL.cons rfl (T1.append ty_25 kd_25 sz_5 by_5 zr_5 rfl (by decide) (by decide) rfl rfl (Sl.mk (b := b44) (xs := []) (len := 0) (cap := 0) (size := 0) rfl (Nat.le_refl _) (Nat.le_refl _)) (sm.src rfl) (one_bytes _) l.length (by simp only [List.length_map, List.length_nil]; omega) (by omega) (by repeat (first | exact PickS.last | exact PickS.one | exact PickS.here | exact PickS.nil | apply PickS.there | apply PickS.far)) (fun s2 Ls2 hs2 => ?_))
    rw [List.nil_append] at hs2
    have hs2F := hs2
    obtain ⟨s2a, s2c, rfl⟩ := hs2.form1
    refine TL.cons rfl (V1.t (V1.assign' (by (conv => lhs; whnf) <;> rfl)) ?_)
    refine TL.nil ?_
    refine T.seq ?_
    refine T.region ?_
    refine TL.cons rfl (V1.t (V1.move' (by (conv => lhs; whnf) <;> rfl)) ?_)
    refine TL.cons rfl (T1.callN has_15 rfl (fun w hs => Decode_any _ l w (by obtain ⟨n, hn, h⟩ := hs2.slr (by repeat (first | exact PickS.last | exact PickS.one | exact PickS.here | exact PickS.nil | apply PickS.there | apply PickS.far)) hs; rw [List.length_map, Nat.mul_one] at hn; subst hn; exact h) (by omega)) (fun v Y hv => ?_))
    obtain ⟨c1, kindc1, keysc1, numsc1, sigsc1, datac1, gk, gn, gx, gd, Ygk, Ygn, Ygx, Ygd, hdc1, rfl, g1, g2, g3, g4, rfl, hpc1⟩ := decR_all hv
    simp only [List.append_assoc]
    refine TL.cons rfl (V1.t (V1.move' (by (conv => lhs; whnf) <;> rfl)) ?_)
    refine TL.cons rfl (V1.t (V1.extract rfl (by rfl)) ?_)
    refine TL.cons rfl (V1.t (V1.extract rfl (by rfl)) ?_)
    refine TL.cons rfl (T1.allocN 5 zr_27 rfl (fun b10 => ?_))
    refine TL.cons rfl (T1.storeN rfl rfl sz_27 (by intro u hu; simp only [List.mem_cons, List.not_mem_nil, or_false] at hu; rcases hu with rfl | rfl | rfl | rfl | rfl; rfl; exact g1.one; exact g2.one; exact g3.one; exact g4.one) (by repeat (first | exact Sub.one | apply Sub.there | apply Sub.far)) (by rfl) (by rfl) ?_)
    refine TL.cons rfl (V1.t (V1.assign' (by (conv => lhs; whnf) <;> rfl)) ?_)
    refine TL.nil ?_
    refine T.seq ?_
    refine T.seq ?_
    refine T.region ?_
    refine TL.cons rfl (V1.t (V1.move' (by (conv => lhs; whnf) <;> rfl)) ?_)
    refine TL.cons rfl (V1.t (V1.lenSl ty_25 rfl) ?_)
    refine TL.cons rfl (V1.t (V1.move' (by (conv => lhs; whnf) <;> rfl)) ?_)
    refine TL.nil ?_
    refine T.block ?_
    refine T.loopL (σ := Nat × List UInt8 × List Blk) (l0 := [(1, _), (5, _), (7, _), (9, _), (10, _), (11, _), (53, _)]) (fun x => [(54, .int .i64 (x.1 : Nat))]) (fun x L => L = ⟨b10, 0, [.int .i64 kindc1, gk, gn, gx, gd], 5⟩ :: (Ygk ++ (Ygn ++ (Ygx ++ (Ygd ++ (Y ++ x.2.2))))) ∧ Sl (.slice s2a l.length s2c) (x.2.1.map byteV) 1 x.2.2 ∧ x.1 ≤ l.length ∧ x.2.1.length = l.length) (fun x => l.length - x.1) (0, l, _) (.cons rfl .nil) (.cons (by (conv => lhs; whnf) <;> rfl) (.cons (by (conv => lhs; whnf) <;> rfl) (.cons (by (conv => lhs; whnf) <;> rfl) (.cons (by (conv => lhs; whnf) <;> rfl) (.cons (by (conv => lhs; whnf) <;> rfl) (.cons (by (conv => lhs; whnf) <;> rfl) (.cons (by (conv => lhs; whnf) <;> rfl) .nil))))))) (by repeat (first | exact Take.nil | apply Take.one (by repeat (first | exact Pick.here | apply Pick.there | apply Pick.far)) | apply Take.seg (by repeat (first | exact PickS.last | exact PickS.one | exact PickS.here | exact PickS.nil | apply PickS.there | apply PickS.far)) | exact Take.last (by repeat (first | exact PickS.last | exact PickS.one | exact PickS.here | exact PickS.nil | apply PickS.there | apply PickS.far)))) (⟨rfl, hs2, Nat.zero_le _, rfl⟩) ?_
    rintro ⟨is2, yss2, Lxs2⟩ e_ L ⟨rfl, hxs2, hles2, hyls2⟩
    simp only at hxs2 hles2 hyls2
    refine T.seq ?_
    refine T.region ?_
    refine TL.cons rfl (T1.ltI_split rfl rfl (fun h14_0 => ?_) (fun h14_0 => ?_))
    ·
      obtain ⟨bb, off, size, rfl, hyl2, hcap, hsz, rfl⟩ := hxs2.own1 (by omega)
      obtain ⟨x, hx⟩ : ∃ x, yss2[is2]? = some x := ⟨_, List.getElem?_eq_getElem (by omega)⟩
      refine TL.nil ?_
      refine T.seq ?_
      refine T.cond_t rfl ?_
      refine T.skip ?_
      refine T.seq ?_
      refine T.block ?_
      refine T.seq ?_
      refine T.region ?_
      refine TL.cons rfl (V1.t (V1.move' (by (conv => lhs; whnf) <;> rfl)) ?_)
      refine TL.cons rfl (V1.t (V1.assign' (by (conv => lhs; whnf) <;> rfl)) ?_)
      refine TL.nil ?_
      refine T.region ?_
      refine TL.cons rfl (V1.t (V1.move' (by (conv => lhs; whnf) <;> rfl)) ?_)
      refine TL.cons rfl (V1.t (V1.move' (by (conv => lhs; whnf) <;> rfl)) ?_)
      refine TL.cons rfl (V1.t (V1.indexAddrS ty_25 sz_5 rfl rfl (by omega) (by omega)) ?_)
      refine TL.cons rfl (V1.t (V1.load1 one_5 rfl (show Rd _ _ ⟨bb, off + is2 * 1, none⟩ (byteV x) from by rw [Nat.mul_one]; exact Rd.at (by repeat (first | exact Find.here | apply Find.there | apply Find.far)) (by rw [List.getElem?_map, hx]; rfl))) ?_)
      refine TL.cons rfl (V1.t (V1.bits rfl rfl rfl (xorB 255 (by decide))) ?_)
      refine TL.cons rfl (V1.t (V1.indexAddrS ty_25 sz_5 rfl rfl (by omega) (by omega)) ?_)
      refine TL.cons rfl (T1.storeE (o := off + is2 * 1) (cells := yss2.map byteV) (cells' := (yss2.set is2 (x ^^^ UInt8.ofNat 255)).map byteV) rfl rfl sz_5 rfl (by rw [show off + is2 * 1 - off = is2 from by omega, List.map_set]; rfl) (by repeat (first | exact Sub.one | apply Sub.there | apply Sub.far)) (by omega) (by rw [List.length_map]; omega) ?_)
      refine TL.nil ?_
      refine T.region ?_
      refine TL.cons rfl (V1.t (V1.add rfl rfl (wrap_i64 _ (by omega) (by omega))) ?_)
      refine TL.cons rfl (V1.t (V1.move' (by (conv => lhs; whnf) <;> rfl)) ?_)
      refine TL.nil ?_
      exact ⟨(is2 + 1, yss2.set is2 (x ^^^ UInt8.ofNat 255), [⟨bb, off, (yss2.set is2 (x ^^^ UInt8.ofNat 255)).map byteV, size⟩]), _, _, (by simp only; omega), (.cons rfl .nil), (.cons rfl (.cons rfl (.cons rfl (.cons rfl (.cons rfl (.cons rfl (.cons rfl .nil))))))), (by repeat (first | exact Take.nil | apply Take.one (by repeat (first | exact Pick.here | apply Pick.there | apply Pick.far)) | apply Take.seg (by repeat (first | exact PickS.last | exact PickS.one | exact PickS.here | exact PickS.nil | apply PickS.there | apply PickS.far)) | exact Take.last (by repeat (first | exact PickS.last | exact PickS.one | exact PickS.here | exact PickS.nil | apply PickS.there | apply PickS.far)))), ⟨rfl, Sl.mk (by simp only [List.length_map, List.length_set]; omega) hcap hsz, by simp only; omega, by simp only [List.length_set]; exact hyls2⟩⟩
    ·
      refine TL.nil ?_
      refine T.seq ?_
      refine T.cond_f rfl ?_
      refine T.exit ?_
      refine T.seq ?_
      refine T.region ?_
      refine TL.cons rfl (V1.t (V1.move' (by (conv => lhs; whnf) <;> rfl)) ?_)
      refine TL.cons rfl (T1.callN has_15 rfl (fun w hs => Decode_any _ l w (sm.st rfl hs) (by omega)) (fun v Y hv => ?_))
      obtain ⟨c2, kindc2, keysc2, numsc2, sigsc2, datac2, kk, kn, kx, kd, Ykk, Ykn, Ykx, Ykd, hdc2, rfl, k1, k2, k3, k4, rfl, hpc2⟩ := decR_all hv
      simp only [List.append_assoc]
      rw [hdc1] at hdc2
      simp only [Prod.mk.injEq] at hdc2
      obtain ⟨rfl, rfl, rfl, rfl, rfl, rfl⟩ := hdc2
      refine TL.cons rfl (V1.t (V1.move' (by (conv => lhs; whnf) <;> rfl)) ?_)
      refine TL.cons rfl (V1.t (V1.extract rfl (by rfl)) ?_)
      refine TL.cons rfl (V1.t (V1.extract rfl (by rfl)) ?_)
      refine TL.cons rfl (T1.allocN 5 zr_27 rfl (fun b13 => ?_))
      refine TL.cons rfl (T1.storeN rfl rfl sz_27 (by intro u hu; simp only [List.mem_cons, List.not_mem_nil, or_false] at hu; rcases hu with rfl | rfl | rfl | rfl | rfl; rfl; exact k1.one; exact k2.one; exact k3.one; exact k4.one) (by repeat (first | exact Sub.one | apply Sub.there | apply Sub.far)) (by rfl) (by rfl) ?_)
      refine TL.cons rfl (V1.t (V1.assign' (by (conv => lhs; whnf) <;> rfl)) ?_)
      refine TL.nil ?_
      refine T.seq ?_
      refine T.region ?_
      refine TL.cons rfl (V1.t (V1.move' (by (conv => lhs; whnf) <;> rfl)) ?_)
      refine TL.cons rfl (V1.t (V1.move' (by (conv => lhs; whnf) <;> rfl)) ?_)
      refine TL.cons rfl (V1.t (V1.eqI rfl rfl (decide_eq_true (by omega))) ?_)
      refine TL.cons rfl (V1.t (V1.move' (by (conv => lhs; whnf) <;> rfl)) ?_)
      refine TL.cons rfl (V1.t (V1.loadN one_27 sz_27 rfl (RdN.whole (by repeat (first | exact Find.here | apply Find.there | apply Find.far))) (by rfl)) ?_)
      refine TL.cons rfl (V1.t (V1.loadN one_27 sz_27 rfl (RdN.whole (by repeat (first | exact Find.here | apply Find.there | apply Find.far))) (by rfl)) ?_)
      refine TL.cons rfl (T1.call0 has_17 rfl (fun w hs => Same_any _ _ _ _ _ _ _ _ _ _ _ _ w (FrIs.own hs hpc1 g1 (by repeat (first | exact PickS.last | exact PickS.one | exact PickS.here | exact PickS.nil | apply PickS.there | apply PickS.far)) g2 (by repeat (first | exact PickS.last | exact PickS.one | exact PickS.here | exact PickS.nil | apply PickS.there | apply PickS.far)) g3 (by repeat (first | exact PickS.last | exact PickS.one | exact PickS.here | exact PickS.nil | apply PickS.there | apply PickS.far)) g4 (by repeat (first | exact PickS.last | exact PickS.one | exact PickS.here | exact PickS.nil | apply PickS.there | apply PickS.far))) (FrIs.own hs hpc1 k1 (by repeat (first | exact PickS.last | exact PickS.one | exact PickS.here | exact PickS.nil | apply PickS.there | apply PickS.far)) k2 (by repeat (first | exact PickS.last | exact PickS.one | exact PickS.here | exact PickS.nil | apply PickS.there | apply PickS.far)) k3 (by repeat (first | exact PickS.last | exact PickS.one | exact PickS.here | exact PickS.nil | apply PickS.there | apply PickS.far)) k4 (by repeat (first | exact PickS.last | exact PickS.one | exact PickS.here | exact PickS.nil | apply PickS.there | apply PickS.far)))) (fun v hv => ?_))
      obtain ⟨r, rfl, hr⟩ := hv
      obtain rfl : r = true := hr.2 ⟨rfl, rfl, rfl, rfl, rfl⟩
      refine TL.cons rfl (V1.t (V1.pick rfl (by (conv => lhs; whnf) <;> rfl)) ?_)
      refine TL.cons rfl (V1.t (V1.assign' (by (conv => lhs; whnf) <;> rfl)) ?_)
      refine TL.nil ?_
      refine T.seq ?_
      refine T.live (l := [(5, _), (7, _), (15, _)]) (.cons (by (conv => lhs; whnf) <;> rfl) (.cons (by (conv => lhs; whnf) <;> rfl) (.cons (by (conv => lhs; whnf) <;> rfl) .nil))) (fun e_ => ?_)
      refine T.region ?_
      refine TL.cons rfl (V1.t (V1.move' (by (conv => lhs; whnf) <;> rfl)) ?_)
      refine TL.cons rfl (V1.t (V1.slToStr (l := x) ty_25 ty_5 ty_9 rfl hslx (by repeat (first | exact Sub.here | exact Sub.last | apply Sub.there | apply Sub.far))) ?_)
      refine TL.cons rfl (V1.t (V1.move' (by (conv => lhs; whnf) <;> rfl)) ?_)
      refine TL.cons rfl (V1.t (V1.eqS (r := true) rfl rfl (by simp)) ?_)
      refine TL.cons rfl (V1.t (V1.move' (by (conv => lhs; whnf) <;> rfl)) ?_)
      refine TL.cons rfl (V1.t (V1.move' (by (conv => lhs; whnf) <;> rfl)) ?_)
      refine TL.cons rfl (V1.t (V1.pick rfl (by (conv => lhs; whnf) <;> rfl)) ?_)
      refine TL.cons rfl (V1.t (V1.assign' (by (conv => lhs; whnf) <;> rfl)) ?_)
      refine TL.nil ?_
      refine T.ret ?_
      exact ⟨_, [], _, .cons (.tmp (by (conv => lhs; whnf) <;> rfl)) .nil, Take.nil, rfl⟩

end Go.Proofs.Ytgibhdjhgobdnaa.S
