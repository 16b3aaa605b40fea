/- The law that frames are written as the document says. -/
import Derived.Test.YtgibhdjhgobdnaaFr4
import Derived.Test.YtgibhdjhgobdnaaFr5
namespace Go.Proofs.Ytgibhdjhgobdnaa.S
open Go.RowKit

/-- A frame that came in, or that lies in memory. -/
structure FrIs (w : World) (v : Value) (kind : Int) (keys : List (List UInt8)) (nums : List Nat) (sigs : List (List UInt8)) (data : List UInt8) : Prop where
  at_ : ∃ vk vn vs vd, v = .agg (List.toArray [.int .i64 kind, vk, vn, vs, vd]) ∧ SlR w vk 32 keys.length (keys.flatten.map byteV) ∧ SlR w vn 1 nums.length (nums.map u32V) ∧ SlR w vs 64 sigs.length (sigs.flatten.map byteV) ∧ SlR w vd 1 data.length (data.map byteV)
  hkeys : ∀ x ∈ keys, x.length = 32
  hnums : ∀ x ∈ nums, x < 4294967296
  hsigs : ∀ x ∈ sigs, x.length = 64
  hlen : keys.length < 9223372036854775808 ∧ nums.length < 9223372036854775808 ∧ sigs.length < 9223372036854775808 ∧ data.length < 9223372036854775808
theorem FrIs.st {C : Ctx} {L : List Blk} {v : Value} {kind : Int} {keys : List (List UInt8)} {nums : List Nat} {sigs : List (List UInt8)} {data : List UInt8} {w : World} (h : FrIs C.w0 v kind keys nums sigs data) (hm : C.M = []) (hs : St C.w0 C.M L w) : FrIs w v kind keys nums sigs data := by
  obtain ⟨⟨vk, vn, vs, vd, rfl, h1, h2, h3, h4⟩, h5, h6, h7, h8⟩ := h
  exact ⟨⟨vk, vn, vs, vd, rfl, h1.st hm hs, h2.st hm hs, h3.st hm hs, h4.st hm hs⟩, h5, h6, h7, h8⟩
section
variable {w : World} {v : Value} {kind : Int} {keys : List (List UInt8)} {nums : List Nat} {sigs : List (List UInt8)} {data : List UInt8}
theorem FrIs.form (h : FrIs w v kind keys nums sigs data) : ∃ a b c d, v = .agg (List.toArray [.int .i64 kind, a, b, c, d]) := by
  obtain ⟨⟨vk, vn, vs, vd, rfl, _⟩, _⟩ := h
  exact ⟨_, _, _, _, rfl⟩
theorem encode_any (h : FrIs w v kind keys nums sigs data) : Fn P 10 [v] w [] (encR kind keys nums sigs data) := by
  obtain ⟨⟨vk, vn, vs, vd, rfl, h1, h2, h3, h4⟩, h5, h6, h7, h8⟩ := h
  exact Encode_any kind keys nums sigs data vk vn vs vd w h1 h5 h2 h6 h3 h7 h4
theorem refencode_any (h : FrIs w v kind keys nums sigs data) : Fn P 11 [v] w [] (fun v Y => Y = [] ∧ v = encS kind keys nums sigs data) := by
  obtain ⟨⟨vk, vn, vs, vd, rfl, h1, h2, h3, h4⟩, h5, h6, h7, h8⟩ := h
  exact refEncode_any kind keys nums sigs data vk vn vs vd w h1 h5 h2 h6 h3 h7 h4
end
theorem encR_cases {kind : Int} {keys : List (List UInt8)} {nums : List Nat} {sigs : List (List UInt8)} {data : List UInt8} {v : Value} {Y : List Blk} (h : encR kind keys nums sigs data v Y) :
    (∃ c, encF kind keys nums sigs data = .error c ∧ v = .tuple #[.slice none 0 0, .int .i64 c] ∧ Y = []) ∨ ∃ bytes s, encF kind keys nums sigs data = .ok bytes ∧ v = .tuple #[s, .int .i64 0] ∧ Sl s (bytes.map byteV) 1 Y := by
  unfold encR at h
  cases he : encF kind keys nums sigs data with
  | error c => rw [he] at h; exact .inl ⟨c, rfl, h⟩
  | ok bytes => rw [he] at h; obtain ⟨s, h1, h2⟩ := h; exact .inr ⟨bytes, s, rfl, h1, h2⟩

theorem FrameWrites_any (v0 : Value) (kind : Int) (keys : List (List UInt8)) (nums : List Nat) (sigs : List (List UInt8)) (data : List UInt8) (w : World) (h : FrIs w v0 kind keys nums sigs data) : Fn P 3 [v0] w [] (fun v _ => v = .bool true) := by
  obtain ⟨va, vb, vc, vd, rfl⟩ := h.form
  refine Fn.of 28 [.tmp 2] Go.Proofs.Try.func3 rfl rfl rfl rfl ?_
  refine T.seq ?_
  refine T.region ?_
  refine TL.cons rfl (T1.boxN 5 rfl rfl (fun b1 => ?_))
  refine TL.cons rfl (V1.t (V1.assign' (by (conv => lhs; whnf) <;> rfl)) ?_)
  refine TL.nil ?_
  refine T.seq ?_
  refine T.seq ?_
  refine T.region ?_
  refine TL.cons rfl (T1.call0 has_9 rfl (fun w hs => writes_any w) (fun v hv => ?_))
  subst hv
  refine TL.cons rfl (V1.t (V1.not rfl rfl) ?_)
  refine TL.nil ?_
  refine T.cond_f rfl ?_
  refine T.skip ?_
  refine T.seq ?_
  refine T.region ?_
  refine TL.cons rfl (V1.t (V1.loadN one_27 sz_27 rfl (RdN.whole (by repeat (first | exact Find.here | apply Find.there | apply Find.far))) (by rfl)) ?_)
  refine TL.cons rfl (T1.callN has_10 rfl (fun w hs => encode_any (h.st rfl hs)) (fun v Y hv => ?_))
  rcases encR_cases hv with ⟨c, henc, rfl, rfl⟩ | ⟨bytes, sl, henc, rfl, hsl⟩
  ·
    refine TL.cons rfl (V1.t (V1.move' (by (conv => lhs; whnf) <;> rfl)) ?_)
    refine TL.cons rfl (V1.t (V1.extract rfl (by rfl)) ?_)
    refine TL.cons rfl (V1.t (V1.extract rfl (by rfl)) ?_)
    refine TL.cons rfl (V1.t (V1.assign' (by (conv => lhs; whnf) <;> rfl)) ?_)
    refine TL.cons rfl (V1.t (V1.assign' (by (conv => lhs; whnf) <;> rfl)) ?_)
    refine TL.nil ?_
    refine T.seq ?_
    refine T.region ?_
    refine TL.cons rfl (V1.t (V1.loadN one_27 sz_27 rfl (RdN.whole (by repeat (first | exact Find.here | apply Find.there | apply Find.far))) (by rfl)) ?_)
    refine TL.cons rfl (T1.call0 has_11 rfl (fun w hs => refencode_any (h.st rfl hs)) (fun v hv => ?_))
    unfold encS at hv
    rw [henc] at hv
    subst hv
    refine TL.cons rfl (V1.t (V1.move' (by (conv => lhs; whnf) <;> rfl)) ?_)
    refine TL.cons rfl (V1.t (V1.extract rfl (by rfl)) ?_)
    refine TL.cons rfl (V1.t (V1.extract rfl (by rfl)) ?_)
    refine TL.cons rfl (V1.t (V1.assign' (by (conv => lhs; whnf) <;> rfl)) ?_)
    refine TL.cons rfl (V1.t (V1.assign' (by (conv => lhs; whnf) <;> rfl)) ?_)
    refine TL.nil ?_
    refine T.seq ?_
    refine T.live (l := [(3, _), (4, _), (5, _), (6, _)]) (.cons (by (conv => lhs; whnf) <;> rfl) (.cons (by (conv => lhs; whnf) <;> rfl) (.cons (by (conv => lhs; whnf) <;> rfl) (.cons (by (conv => lhs; whnf) <;> rfl) .nil)))) (fun e_ => ?_)
    refine T.region ?_
    refine TL.cons rfl (V1.t (V1.move' (by (conv => lhs; whnf) <;> rfl)) ?_)
    refine TL.cons rfl (V1.t (V1.bytesToStr (l := []) ty_25 ty_5 ty_9 rfl .nil (by intro b h; cases h)) ?_)
    refine TL.cons rfl (V1.t (V1.move' (by (conv => lhs; whnf) <;> rfl)) ?_)
    refine TL.cons rfl (V1.t (V1.eqS rfl rfl (decide_eq_true rfl)) ?_)
    refine TL.cons rfl (V1.t (V1.move' (by (conv => lhs; whnf) <;> rfl)) ?_)
    refine TL.cons rfl (V1.t (V1.move' (by (conv => lhs; whnf) <;> rfl)) ?_)
    refine TL.cons rfl (V1.t (V1.move' (by (conv => lhs; whnf) <;> rfl)) ?_)
    refine TL.cons rfl (V1.t (V1.eqI rfl rfl (decide_eq_true (by omega))) ?_)
    refine TL.cons rfl (V1.t (V1.pick rfl (by (conv => lhs; whnf) <;> rfl)) ?_)
    refine TL.cons rfl (V1.t (V1.assign' (by (conv => lhs; whnf) <;> rfl)) ?_)
    refine TL.nil ?_
    refine T.ret ?_
    exact ⟨_, [], _, .cons (.tmp (by (conv => lhs; whnf) <;> rfl)) .nil, (by repeat (first | exact Take.nil | apply Take.one (by repeat (first | exact Pick.here | apply Pick.there | apply Pick.far)) | apply Take.seg (by repeat (first | exact PickS.last | exact PickS.one | exact PickS.here | exact PickS.nil | apply PickS.there | apply PickS.far)) | exact Take.last (by repeat (first | exact PickS.last | exact PickS.one | exact PickS.here | exact PickS.nil | apply PickS.there | apply PickS.far)))), rfl⟩
  ·
    refine TL.cons rfl (V1.t (V1.move' (by (conv => lhs; whnf) <;> rfl)) ?_)
    refine TL.cons rfl (V1.t (V1.extract rfl (by rfl)) ?_)
    refine TL.cons rfl (V1.t (V1.extract rfl (by rfl)) ?_)
    refine TL.cons rfl (V1.t (V1.assign' (by (conv => lhs; whnf) <;> rfl)) ?_)
    refine TL.cons rfl (V1.t (V1.assign' (by (conv => lhs; whnf) <;> rfl)) ?_)
    refine TL.nil ?_
    refine T.seq ?_
    refine T.region ?_
    refine TL.cons rfl (V1.t (V1.loadN one_27 sz_27 rfl (RdN.whole (by repeat (first | exact Find.here | apply Find.there | apply Find.far))) (by rfl)) ?_)
    refine TL.cons rfl (T1.call0 has_11 rfl (fun w hs => refencode_any (h.st rfl hs)) (fun v hv => ?_))
    unfold encS at hv
    rw [henc] at hv
    subst hv
    refine TL.cons rfl (V1.t (V1.move' (by (conv => lhs; whnf) <;> rfl)) ?_)
    refine TL.cons rfl (V1.t (V1.extract rfl (by rfl)) ?_)
    refine TL.cons rfl (V1.t (V1.extract rfl (by rfl)) ?_)
    refine TL.cons rfl (V1.t (V1.assign' (by (conv => lhs; whnf) <;> rfl)) ?_)
    refine TL.cons rfl (V1.t (V1.assign' (by (conv => lhs; whnf) <;> rfl)) ?_)
    refine TL.nil ?_
    refine T.seq ?_
    refine T.live (l := [(3, _), (4, _), (5, _), (6, _)]) (.cons (by (conv => lhs; whnf) <;> rfl) (.cons (by (conv => lhs; whnf) <;> rfl) (.cons (by (conv => lhs; whnf) <;> rfl) (.cons (by (conv => lhs; whnf) <;> rfl) .nil)))) (fun e_ => ?_)
    refine T.region ?_
    refine TL.cons rfl (V1.t (V1.move' (by (conv => lhs; whnf) <;> rfl)) ?_)
    refine TL.cons rfl (V1.t (V1.slToStr (l := bytes) ty_25 ty_5 ty_9 rfl hsl (by repeat (first | exact Sub.here | exact Sub.last | apply Sub.there | apply Sub.far))) ?_)
    refine TL.cons rfl (V1.t (V1.move' (by (conv => lhs; whnf) <;> rfl)) ?_)
    refine TL.cons rfl (V1.t (V1.eqS rfl rfl (decide_eq_true rfl)) ?_)
    refine TL.cons rfl (V1.t (V1.move' (by (conv => lhs; whnf) <;> rfl)) ?_)
    refine TL.cons rfl (V1.t (V1.move' (by (conv => lhs; whnf) <;> rfl)) ?_)
    refine TL.cons rfl (V1.t (V1.move' (by (conv => lhs; whnf) <;> rfl)) ?_)
    refine TL.cons rfl (V1.t (V1.eqI rfl rfl (decide_eq_true (by omega))) ?_)
    refine TL.cons rfl (V1.t (V1.pick rfl (by (conv => lhs; whnf) <;> rfl)) ?_)
    refine TL.cons rfl (V1.t (V1.assign' (by (conv => lhs; whnf) <;> rfl)) ?_)
    refine TL.nil ?_
    refine T.ret ?_
    exact ⟨_, [], _, .cons (.tmp (by (conv => lhs; whnf) <;> rfl)) .nil, (by repeat (first | exact Take.nil | apply Take.one (by repeat (first | exact Pick.here | apply Pick.there | apply Pick.far)) | apply Take.seg (by repeat (first | exact PickS.last | exact PickS.one | exact PickS.here | exact PickS.nil | apply PickS.there | apply PickS.far)) | exact Take.last (by repeat (first | exact PickS.last | exact PickS.one | exact PickS.here | exact PickS.nil | apply PickS.there | apply PickS.far)))), rfl⟩

end Go.Proofs.Ytgibhdjhgobdnaa.S
