/- The number of two has sixty digits in twelve groups: the walk. -/
import Derived.Test.YtdgbckfnamiebaaB8
namespace Go.Proofs.Ytdgbckfnamiebaa.S
open Go.RowKit

set_option maxRecDepth 100000 in
set_option maxHeartbeats 16000000 in
theorem SafetyLooks_any (n0 n1 k0 k1 : List UInt8) (w : World) (hk0l : k0.length = 32) (hk1l : k1.length = 32) (hn0 : n0.length ≤ 140737488355328) (hn1 : n1.length ≤ 140737488355328) : Fn P 6 [.agg #[.string (bstr n0), .string (bstr n1)], .agg ((k0 ++ k1).map byteV).toArray] w [] (fun v _ => v = .bool true) := by
  refine Fn.of 103 [.tmp 4] Go.Proofs.Try.func6 rfl rfl rfl rfl ?_
  refine T.seq ?_
  refine T.region ?_
  refine TL.cons rfl (T1.boxN (vs := [.string (bstr n0), .string (bstr n1)]) 2 rfl rfl (fun b2 => ?_))
  refine TL.cons rfl (T1.boxN (vs := (k0 ++ k1).map byteV) 64 rfl (by rw [List.length_map, List.length_append]; omega) (fun b3 => ?_))
  refine TL.cons rfl (V1.t (V1.assign' (by (conv => lhs; whnf) <;> rfl)) ?_)
  refine TL.nil ?_
  refine T.seq ?_
  refine T.seq ?_
  refine T.region ?_
  refine TL.cons rfl (T1.call0 has_7 rfl (fun w hs => writes_any w) (fun v hv => ?_))
  subst hv
  refine TL.cons rfl (V1.t (V1.not rfl rfl) ?_)
  refine TL.nil ?_
  refine T.cond_f rfl ?_
  refine T.skip ?_
  refine T.seq ?_
  refine T.seq ?_
  refine T.region ?_
  refine TL.cons rfl (V1.t (V1.indexAddrA ty_34 sz_9 rfl rfl (by decide) (by decide)) ?_)
  refine TL.cons rfl (V1.t (V1.load1 one_9 rfl (.own (cells := [.string (bstr n0), .string (bstr n1)]) (by repeat (first | exact Find.here | assumption | apply Find.there | apply Find.far)) (by rfl))) ?_)
  refine TL.cons rfl (V1.t (V1.lenS ty_9 rfl) ?_)
  refine TL.cons rfl (V1.t (V1.indexAddrA ty_34 sz_9 rfl rfl (by decide) (by decide)) ?_)
  refine TL.cons rfl (V1.t (V1.load1 one_9 rfl (.own (cells := [.string (bstr n0), .string (bstr n1)]) (by repeat (first | exact Find.here | assumption | apply Find.there | apply Find.far)) (by rfl))) ?_)
  refine TL.cons rfl (V1.t (V1.lenS ty_9 rfl) ?_)
  refine TL.cons rfl (V1.t (V1.add (c := ((n0.length + n1.length : Nat) : Int)) rfl rfl (by show IntKind.i64.wrap ((n0.length : Int) + (n1.length : Int)) = _; rw [wrap_i64 _ (by omega) (by omega)]; omega)) ?_)
  refine TL.cons rfl (T1.gtI_split rfl rfl (fun h3 => ?_) (fun h3 => ?_))
  ·
   refine TL.nil ?_
   refine T.cond_t rfl ?_
   refine T.seq ?_
   refine T.region ?_
   refine TL.cons rfl (V1.t (V1.assign' (by (conv => lhs; whnf) <;> rfl)) ?_)
   refine TL.nil ?_
   refine T.ret ?_
   exact ⟨_, [], _, .cons (.tmp (by (conv => lhs; whnf) <;> rfl)) .nil, Take.nil, rfl⟩
  ·
   refine TL.nil ?_
   refine T.cond_f rfl ?_
   refine T.skip ?_
   refine T.cut (σ := Nat × Nat) (l0 := []) (fun x => [(5, .pointer (some ⟨x.1, 0, none⟩)), (6, .pointer (some ⟨x.2, 0, none⟩))]) (fun x L => L = ⟨x.1, 0, (ofG (ofH (n0 ++ k0) 16)).map u32V, 6⟩ :: ⟨x.2, 0, (ofG (ofH (n1 ++ k1) 16)).map u32V, 6⟩ :: []) .nil ?_ ?_
   ·
    refine T.drawK (fun L_ => Find L_ ⟨b2, 0, [.string (bstr n0), .string (bstr n1)], 2⟩ ∧ Find L_ ⟨b3, 0, (k0 ++ k1).map byteV, 64⟩) mixed ⟨.of_mem (by simp), .of_mem (by simp)⟩ ?_
    refine TK.take 0 rfl (by decide +kernel) (by decide +kernel) (by decide +kernel) rfl (fun _ _ _ h => h) (fun L_ ⟨k1_, k2_⟩ => V1.indexAddrA ty_34 sz_9 rfl rfl (by decide) (by decide)) ?_
    refine TK.take 1 rfl (by decide +kernel) (by decide +kernel) (by decide +kernel) rfl (fun _ _ _ h => h) (fun L_ ⟨k1_, k2_⟩ => V1.load1 one_9 rfl (.own (cells := [.string (bstr n0), .string (bstr n1)]) (by repeat (first | exact Find.here | assumption | apply Find.there | apply Find.far)) (by rfl))) ?_
    refine TK.take 2 rfl (by decide +kernel) (by decide +kernel) (by decide +kernel) rfl (fun _ _ _ h => h) (fun L_ ⟨k1_, k2_⟩ => V1.indexAddrA ty_37 sz_36 rfl rfl (by decide) (by decide)) ?_
    refine TK.take 3 rfl (by decide +kernel) (by decide +kernel) (by decide +kernel) rfl (fun _ _ _ h => h) (fun L_ ⟨k1_, k2_⟩ => V1.loadN (vs := k0.map byteV) one_36 sz_36 rfl (rd_fst (k1 := k1) hk0l k2_) (by rw [List.length_map]; exact hk0l)) ?_
    refine TK.take 6 rfl (by decide +kernel) (by decide +kernel) (by decide +kernel) rfl (fun _ _ _ h => h) (fun L_ ⟨k1_, k2_⟩ => V1.indexAddrA ty_34 sz_9 rfl rfl (by decide) (by decide)) ?_
    refine TK.take 7 rfl (by decide +kernel) (by decide +kernel) (by decide +kernel) rfl (fun _ _ _ h => h) (fun L_ ⟨k1_, k2_⟩ => V1.load1 one_9 rfl (.own (cells := [.string (bstr n0), .string (bstr n1)]) (by repeat (first | exact Find.here | assumption | apply Find.there | apply Find.far)) (by rfl))) ?_
    refine TK.take 8 rfl (by decide +kernel) (by decide +kernel) (by decide +kernel) rfl (fun _ _ _ h => h) (fun L_ ⟨k1_, k2_⟩ => V1.indexAddrA ty_37 sz_36 rfl rfl (by decide) (by decide)) ?_
    refine TK.take 9 rfl (by decide +kernel) (by decide +kernel) (by decide +kernel) rfl (fun _ _ _ h => h) (fun L_ ⟨k1_, k2_⟩ => V1.loadN (vs := k1.map byteV) one_36 sz_36 rfl (rd_snd (k0 := k0) hk0l hk1l k2_) (by rw [List.length_map]; exact hk1l)) ?_
    refine TK.four 4 10 12 13 (by decide +kernel) rfl rfl rfl rfl rfl rfl rfl rfl (T1.buildSlN (os := [.tmp 23]) (vs := [.agg (k0.map byteV).toArray]) (vss := [k0.map byteV]) ty_24 sz_36 zr_36 (by decide) rfl (.cons rfl .nil) (by exact Aggs.cons rfl Aggs.nil) rfl (by intro l hl; obtain rfl := List.mem_singleton.1 hl; rw [List.length_map]; exact hk0l) (fun b24 => ?_)) (T1.buildSlN (os := [.tmp 29]) (vs := [.agg (k1.map byteV).toArray]) (vss := [k1.map byteV]) ty_24 sz_36 zr_36 (by decide) rfl (.cons rfl .nil) (by exact Aggs.cons rfl Aggs.nil) rfl (by intro l hl; obtain rfl := List.mem_singleton.1 hl; rw [List.length_map]; exact hk1l) (fun b30 => ?_)) (T1.allocN 6 zr_27 rfl (fun b5 => ?_)) (T1.allocN 6 zr_27 rfl (fun b6 => ?_))
    ·
     simp only [List.flatten_cons, List.flatten_nil, List.append_nil, Nat.one_mul]
     refine ⟨⟨.of_mem (by simp), .of_mem (by simp)⟩, ?_⟩
     refine TK.four 5 10 12 13 (by decide +kernel) rfl rfl rfl rfl rfl rfl rfl rfl (T1.callX (X := [⟨b24, 0, k0.map byteV, 32⟩]) has_10 rfl (Of_any _ _ n0 [k0] [⟨b24, 0, k0.map byteV, 32⟩] (KeysR.one (by simp) hk0l) (by omega) (by simp)) (by repeat (first | exact Take.nil | apply Take.one (by repeat (first | exact Pick.here | apply Pick.there | apply Pick.far)) | apply Take.seg (by repeat (first | exact PickS.last | exact PickS.one | exact PickS.here | exact PickS.nil | apply PickS.there | apply PickS.far)) | exact Take.last (by repeat (first | exact PickS.last | exact PickS.one | exact PickS.here | exact PickS.nil | apply PickS.there | apply PickS.far)))) (fun v5 Y5 hY5 => ?_)) (T1.buildSlN (os := [.tmp 29]) (vs := [.agg (k1.map byteV).toArray]) (vss := [k1.map byteV]) ty_24 sz_36 zr_36 (by decide) rfl (.cons rfl .nil) (by exact Aggs.cons rfl Aggs.nil) rfl (by intro l hl; obtain rfl := List.mem_singleton.1 hl; rw [List.length_map]; exact hk1l) (fun b30 => ?_)) (T1.allocN 6 zr_27 rfl (fun b5 => ?_)) (T1.allocN 6 zr_27 rfl (fun b6 => ?_))
     ·
      obtain ⟨rfl, hzzY5⟩ := hY5
      rw [hzzY5, show ([k0] : List (List UInt8)).flatten = k0 from by simp]
      simp only [List.cons_append, List.nil_append]
      refine ⟨⟨.of_mem (by simp), .of_mem (by simp)⟩, ?_⟩
      refine TK.three 10 12 13 (by decide +kernel) rfl rfl rfl rfl rfl rfl (T1.buildSlN (os := [.tmp 29]) (vs := [.agg (k1.map byteV).toArray]) (vss := [k1.map byteV]) ty_24 sz_36 zr_36 (by decide) rfl (.cons rfl .nil) (by exact Aggs.cons rfl Aggs.nil) rfl (by intro l hl; obtain rfl := List.mem_singleton.1 hl; rw [List.length_map]; exact hk1l) (fun b30 => ?_)) (T1.allocN 6 zr_27 rfl (fun b5 => ?_)) (T1.allocN 6 zr_27 rfl (fun b6 => ?_))
      ·
       simp only [List.flatten_cons, List.flatten_nil, List.append_nil, Nat.one_mul]
       refine ⟨⟨.of_mem (by simp), .of_mem (by simp)⟩, ?_⟩
       refine TK.three 11 12 13 (by decide +kernel) rfl rfl rfl rfl rfl rfl (T1.callX (X := [⟨b30, 0, k1.map byteV, 32⟩]) has_10 rfl (Of_any _ _ n1 [k1] [⟨b30, 0, k1.map byteV, 32⟩] (KeysR.one (by simp) hk1l) (by omega) (by simp)) (by repeat (first | exact Take.nil | apply Take.one (by repeat (first | exact Pick.here | apply Pick.there | apply Pick.far)) | apply Take.seg (by repeat (first | exact PickS.last | exact PickS.one | exact PickS.here | exact PickS.nil | apply PickS.there | apply PickS.far)) | exact Take.last (by repeat (first | exact PickS.last | exact PickS.one | exact PickS.here | exact PickS.nil | apply PickS.there | apply PickS.far)))) (fun v11 Y11 hY11 => ?_)) (T1.allocN 6 zr_27 rfl (fun b5 => ?_)) (T1.allocN 6 zr_27 rfl (fun b6 => ?_))
       ·
        obtain ⟨rfl, hzzY11⟩ := hY11
        rw [hzzY11, show ([k1] : List (List UInt8)).flatten = k1 from by simp]
        simp only [List.cons_append, List.nil_append]
        refine ⟨⟨.of_mem (by simp), .of_mem (by simp)⟩, ?_⟩
        refine TK.two 12 13 (by decide +kernel) rfl rfl rfl rfl (T1.allocN 6 zr_27 rfl (fun b5 => ?_)) (T1.allocN 6 zr_27 rfl (fun b6 => ?_))
        ·
         refine ⟨⟨.of_mem (by simp), .of_mem (by simp)⟩, ?_⟩
         refine TK.one 13 (by decide +kernel) rfl rfl (T1.allocN 6 zr_27 rfl (fun b6 => ?_))
         refine ⟨⟨.of_mem (by simp), .of_mem (by simp)⟩, ?_⟩
         refine TK.one 14 (by decide +kernel) rfl rfl (T1.storeN (vs := (ofG (ofH (n0 ++ k0) 16)).map u32V) rfl rfl sz_27 (ones_u32 _) (by repeat (first | exact Sub.one | apply Sub.there | apply Sub.far)) (by rw [List.length_map, ofG_len]; rfl) (by rw [List.length_map, ofG_len]) ?_)
         refine ⟨⟨.of_mem (by simp), .of_mem (by simp)⟩, ?_⟩
         refine TK.one 15 (by decide +kernel) rfl rfl (T1.storeN (vs := (ofG (ofH (n1 ++ k1) 16)).map u32V) rfl rfl sz_27 (ones_u32 _) (by repeat (first | exact Sub.one | apply Sub.there | apply Sub.far)) (by rw [List.length_map, ofG_len]; rfl) (by rw [List.length_map, ofG_len]) ?_)
         refine ⟨⟨.of_mem (by simp), .of_mem (by simp)⟩, ?_⟩
         refine TD.done (by decide +kernel) ?_
         exact ⟨(b5, b6), _, _, trivial, (.cons rfl (.cons rfl .nil)), .nil, (by repeat (first | exact Take.nil | apply Take.one (by repeat (first | exact Pick.here | apply Pick.there | apply Pick.far)) | apply Take.seg (by repeat (first | exact PickS.last | exact PickS.one | exact PickS.here | exact PickS.nil | apply PickS.there | apply PickS.far)) | exact Take.last (by repeat (first | exact PickS.last | exact PickS.one | exact PickS.here | exact PickS.nil | apply PickS.there | apply PickS.far)))), rfl⟩
        ·
         refine ⟨⟨.of_mem (by simp), .of_mem (by simp)⟩, ?_⟩
         refine TK.one 12 (by decide +kernel) rfl rfl (T1.allocN 6 zr_27 rfl (fun b5 => ?_))
         refine ⟨⟨.of_mem (by simp), .of_mem (by simp)⟩, ?_⟩
         refine TK.one 14 (by decide +kernel) rfl rfl (T1.storeN (vs := (ofG (ofH (n0 ++ k0) 16)).map u32V) rfl rfl sz_27 (ones_u32 _) (by repeat (first | exact Sub.one | apply Sub.there | apply Sub.far)) (by rw [List.length_map, ofG_len]; rfl) (by rw [List.length_map, ofG_len]) ?_)
         refine ⟨⟨.of_mem (by simp), .of_mem (by simp)⟩, ?_⟩
         refine TK.one 15 (by decide +kernel) rfl rfl (T1.storeN (vs := (ofG (ofH (n1 ++ k1) 16)).map u32V) rfl rfl sz_27 (ones_u32 _) (by repeat (first | exact Sub.one | apply Sub.there | apply Sub.far)) (by rw [List.length_map, ofG_len]; rfl) (by rw [List.length_map, ofG_len]) ?_)
         refine ⟨⟨.of_mem (by simp), .of_mem (by simp)⟩, ?_⟩
         refine TD.done (by decide +kernel) ?_
         exact ⟨(b5, b6), _, _, trivial, (.cons rfl (.cons rfl .nil)), .nil, (by repeat (first | exact Take.nil | apply Take.one (by repeat (first | exact Pick.here | apply Pick.there | apply Pick.far)) | apply Take.seg (by repeat (first | exact PickS.last | exact PickS.one | exact PickS.here | exact PickS.nil | apply PickS.there | apply PickS.far)) | exact Take.last (by repeat (first | exact PickS.last | exact PickS.one | exact PickS.here | exact PickS.nil | apply PickS.there | apply PickS.far)))), rfl⟩
       ·
        refine ⟨⟨.of_mem (by simp), .of_mem (by simp)⟩, ?_⟩
        refine TK.two 11 13 (by decide +kernel) rfl rfl rfl rfl (T1.callX (X := [⟨b30, 0, k1.map byteV, 32⟩]) has_10 rfl (Of_any _ _ n1 [k1] [⟨b30, 0, k1.map byteV, 32⟩] (KeysR.one (by simp) hk1l) (by omega) (by simp)) (by repeat (first | exact Take.nil | apply Take.one (by repeat (first | exact Pick.here | apply Pick.there | apply Pick.far)) | apply Take.seg (by repeat (first | exact PickS.last | exact PickS.one | exact PickS.here | exact PickS.nil | apply PickS.there | apply PickS.far)) | exact Take.last (by repeat (first | exact PickS.last | exact PickS.one | exact PickS.here | exact PickS.nil | apply PickS.there | apply PickS.far)))) (fun v11 Y11 hY11 => ?_)) (T1.allocN 6 zr_27 rfl (fun b6 => ?_))
        ·
         obtain ⟨rfl, hzzY11⟩ := hY11
         rw [hzzY11, show ([k1] : List (List UInt8)).flatten = k1 from by simp]
         simp only [List.cons_append, List.nil_append]
         refine ⟨⟨.of_mem (by simp), .of_mem (by simp)⟩, ?_⟩
         refine TK.one 13 (by decide +kernel) rfl rfl (T1.allocN 6 zr_27 rfl (fun b6 => ?_))
         refine ⟨⟨.of_mem (by simp), .of_mem (by simp)⟩, ?_⟩
         refine TK.one 14 (by decide +kernel) rfl rfl (T1.storeN (vs := (ofG (ofH (n0 ++ k0) 16)).map u32V) rfl rfl sz_27 (ones_u32 _) (by repeat (first | exact Sub.one | apply Sub.there | apply Sub.far)) (by rw [List.length_map, ofG_len]; rfl) (by rw [List.length_map, ofG_len]) ?_)
         refine ⟨⟨.of_mem (by simp), .of_mem (by simp)⟩, ?_⟩
         refine TK.one 15 (by decide +kernel) rfl rfl (T1.storeN (vs := (ofG (ofH (n1 ++ k1) 16)).map u32V) rfl rfl sz_27 (ones_u32 _) (by repeat (first | exact Sub.one | apply Sub.there | apply Sub.far)) (by rw [List.length_map, ofG_len]; rfl) (by rw [List.length_map, ofG_len]) ?_)
         refine ⟨⟨.of_mem (by simp), .of_mem (by simp)⟩, ?_⟩
         refine TD.done (by decide +kernel) ?_
         exact ⟨(b5, b6), _, _, trivial, (.cons rfl (.cons rfl .nil)), .nil, (by repeat (first | exact Take.nil | apply Take.one (by repeat (first | exact Pick.here | apply Pick.there | apply Pick.far)) | apply Take.seg (by repeat (first | exact PickS.last | exact PickS.one | exact PickS.here | exact PickS.nil | apply PickS.there | apply PickS.far)) | exact Take.last (by repeat (first | exact PickS.last | exact PickS.one | exact PickS.here | exact PickS.nil | apply PickS.there | apply PickS.far)))), rfl⟩
        ·
         refine ⟨⟨.of_mem (by simp), .of_mem (by simp)⟩, ?_⟩
         refine TK.one 11 (by decide +kernel) rfl rfl (T1.callX (X := [⟨b30, 0, k1.map byteV, 32⟩]) has_10 rfl (Of_any _ _ n1 [k1] [⟨b30, 0, k1.map byteV, 32⟩] (KeysR.one (by simp) hk1l) (by omega) (by simp)) (by repeat (first | exact Take.nil | apply Take.one (by repeat (first | exact Pick.here | apply Pick.there | apply Pick.far)) | apply Take.seg (by repeat (first | exact PickS.last | exact PickS.one | exact PickS.here | exact PickS.nil | apply PickS.there | apply PickS.far)) | exact Take.last (by repeat (first | exact PickS.last | exact PickS.one | exact PickS.here | exact PickS.nil | apply PickS.there | apply PickS.far)))) (fun v11 Y11 hY11 => ?_))
         obtain ⟨rfl, hzzY11⟩ := hY11
         rw [hzzY11, show ([k1] : List (List UInt8)).flatten = k1 from by simp]
         simp only [List.cons_append, List.nil_append]
         refine ⟨⟨.of_mem (by simp), .of_mem (by simp)⟩, ?_⟩
         refine TK.one 14 (by decide +kernel) rfl rfl (T1.storeN (vs := (ofG (ofH (n0 ++ k0) 16)).map u32V) rfl rfl sz_27 (ones_u32 _) (by repeat (first | exact Sub.one | apply Sub.there | apply Sub.far)) (by rw [List.length_map, ofG_len]; rfl) (by rw [List.length_map, ofG_len]) ?_)
         refine ⟨⟨.of_mem (by simp), .of_mem (by simp)⟩, ?_⟩
         refine TK.one 15 (by decide +kernel) rfl rfl (T1.storeN (vs := (ofG (ofH (n1 ++ k1) 16)).map u32V) rfl rfl sz_27 (ones_u32 _) (by repeat (first | exact Sub.one | apply Sub.there | apply Sub.far)) (by rw [List.length_map, ofG_len]; rfl) (by rw [List.length_map, ofG_len]) ?_)
         refine ⟨⟨.of_mem (by simp), .of_mem (by simp)⟩, ?_⟩
         refine TD.done (by decide +kernel) ?_
         exact ⟨(b5, b6), _, _, trivial, (.cons rfl (.cons rfl .nil)), .nil, (by repeat (first | exact Take.nil | apply Take.one (by repeat (first | exact Pick.here | apply Pick.there | apply Pick.far)) | apply Take.seg (by repeat (first | exact PickS.last | exact PickS.one | exact PickS.here | exact PickS.nil | apply PickS.there | apply PickS.far)) | exact Take.last (by repeat (first | exact PickS.last | exact PickS.one | exact PickS.here | exact PickS.nil | apply PickS.there | apply PickS.far)))), rfl⟩
       ·
        refine ⟨⟨.of_mem (by simp), .of_mem (by simp)⟩, ?_⟩
        refine TK.two 11 12 (by decide +kernel) rfl rfl rfl rfl (T1.callX (X := [⟨b30, 0, k1.map byteV, 32⟩]) has_10 rfl (Of_any _ _ n1 [k1] [⟨b30, 0, k1.map byteV, 32⟩] (KeysR.one (by simp) hk1l) (by omega) (by simp)) (by repeat (first | exact Take.nil | apply Take.one (by repeat (first | exact Pick.here | apply Pick.there | apply Pick.far)) | apply Take.seg (by repeat (first | exact PickS.last | exact PickS.one | exact PickS.here | exact PickS.nil | apply PickS.there | apply PickS.far)) | exact Take.last (by repeat (first | exact PickS.last | exact PickS.one | exact PickS.here | exact PickS.nil | apply PickS.there | apply PickS.far)))) (fun v11 Y11 hY11 => ?_)) (T1.allocN 6 zr_27 rfl (fun b5 => ?_))
        ·
         obtain ⟨rfl, hzzY11⟩ := hY11
         rw [hzzY11, show ([k1] : List (List UInt8)).flatten = k1 from by simp]
         simp only [List.cons_append, List.nil_append]
         refine ⟨⟨.of_mem (by simp), .of_mem (by simp)⟩, ?_⟩
         refine TK.one 12 (by decide +kernel) rfl rfl (T1.allocN 6 zr_27 rfl (fun b5 => ?_))
         refine ⟨⟨.of_mem (by simp), .of_mem (by simp)⟩, ?_⟩
         refine TK.one 14 (by decide +kernel) rfl rfl (T1.storeN (vs := (ofG (ofH (n0 ++ k0) 16)).map u32V) rfl rfl sz_27 (ones_u32 _) (by repeat (first | exact Sub.one | apply Sub.there | apply Sub.far)) (by rw [List.length_map, ofG_len]; rfl) (by rw [List.length_map, ofG_len]) ?_)
         refine ⟨⟨.of_mem (by simp), .of_mem (by simp)⟩, ?_⟩
         refine TK.one 15 (by decide +kernel) rfl rfl (T1.storeN (vs := (ofG (ofH (n1 ++ k1) 16)).map u32V) rfl rfl sz_27 (ones_u32 _) (by repeat (first | exact Sub.one | apply Sub.there | apply Sub.far)) (by rw [List.length_map, ofG_len]; rfl) (by rw [List.length_map, ofG_len]) ?_)
         refine ⟨⟨.of_mem (by simp), .of_mem (by simp)⟩, ?_⟩
         refine TD.done (by decide +kernel) ?_
         exact ⟨(b5, b6), _, _, trivial, (.cons rfl (.cons rfl .nil)), .nil, (by repeat (first | exact Take.nil | apply Take.one (by repeat (first | exact Pick.here | apply Pick.there | apply Pick.far)) | apply Take.seg (by repeat (first | exact PickS.last | exact PickS.one | exact PickS.here | exact PickS.nil | apply PickS.there | apply PickS.far)) | exact Take.last (by repeat (first | exact PickS.last | exact PickS.one | exact PickS.here | exact PickS.nil | apply PickS.there | apply PickS.far)))), rfl⟩
        ·
         refine ⟨⟨.of_mem (by simp), .of_mem (by simp)⟩, ?_⟩
         refine TK.one 11 (by decide +kernel) rfl rfl (T1.callX (X := [⟨b30, 0, k1.map byteV, 32⟩]) has_10 rfl (Of_any _ _ n1 [k1] [⟨b30, 0, k1.map byteV, 32⟩] (KeysR.one (by simp) hk1l) (by omega) (by simp)) (by repeat (first | exact Take.nil | apply Take.one (by repeat (first | exact Pick.here | apply Pick.there | apply Pick.far)) | apply Take.seg (by repeat (first | exact PickS.last | exact PickS.one | exact PickS.here | exact PickS.nil | apply PickS.there | apply PickS.far)) | exact Take.last (by repeat (first | exact PickS.last | exact PickS.one | exact PickS.here | exact PickS.nil | apply PickS.there | apply PickS.far)))) (fun v11 Y11 hY11 => ?_))
         obtain ⟨rfl, hzzY11⟩ := hY11
         rw [hzzY11, show ([k1] : List (List UInt8)).flatten = k1 from by simp]
         simp only [List.cons_append, List.nil_append]
         refine ⟨⟨.of_mem (by simp), .of_mem (by simp)⟩, ?_⟩
         refine TK.one 14 (by decide +kernel) rfl rfl (T1.storeN (vs := (ofG (ofH (n0 ++ k0) 16)).map u32V) rfl rfl sz_27 (ones_u32 _) (by repeat (first | exact Sub.one | apply Sub.there | apply Sub.far)) (by rw [List.length_map, ofG_len]; rfl) (by rw [List.length_map, ofG_len]) ?_)
         refine ⟨⟨.of_mem (by simp), .of_mem (by simp)⟩, ?_⟩
         refine TK.one 15 (by decide +kernel) rfl rfl (T1.storeN (vs := (ofG (ofH (n1 ++ k1) 16)).map u32V) rfl rfl sz_27 (ones_u32 _) (by repeat (first | exact Sub.one | apply Sub.there | apply Sub.far)) (by rw [List.length_map, ofG_len]; rfl) (by rw [List.length_map, ofG_len]) ?_)
         refine ⟨⟨.of_mem (by simp), .of_mem (by simp)⟩, ?_⟩
         refine TD.done (by decide +kernel) ?_
         exact ⟨(b5, b6), _, _, trivial, (.cons rfl (.cons rfl .nil)), .nil, (by repeat (first | exact Take.nil | apply Take.one (by repeat (first | exact Pick.here | apply Pick.there | apply Pick.far)) | apply Take.seg (by repeat (first | exact PickS.last | exact PickS.one | exact PickS.here | exact PickS.nil | apply PickS.there | apply PickS.far)) | exact Take.last (by repeat (first | exact PickS.last | exact PickS.one | exact PickS.here | exact PickS.nil | apply PickS.there | apply PickS.far)))), rfl⟩
      ·
       refine ⟨⟨.of_mem (by simp), .of_mem (by simp)⟩, ?_⟩
       refine TK.two 10 13 (by decide +kernel) rfl rfl rfl rfl (T1.buildSlN (os := [.tmp 29]) (vs := [.agg (k1.map byteV).toArray]) (vss := [k1.map byteV]) ty_24 sz_36 zr_36 (by decide) rfl (.cons rfl .nil) (by exact Aggs.cons rfl Aggs.nil) rfl (by intro l hl; obtain rfl := List.mem_singleton.1 hl; rw [List.length_map]; exact hk1l) (fun b30 => ?_)) (T1.allocN 6 zr_27 rfl (fun b6 => ?_))
       ·
        simp only [List.flatten_cons, List.flatten_nil, List.append_nil, Nat.one_mul]
        refine ⟨⟨.of_mem (by simp), .of_mem (by simp)⟩, ?_⟩
        refine TK.two 11 13 (by decide +kernel) rfl rfl rfl rfl (T1.callX (X := [⟨b30, 0, k1.map byteV, 32⟩]) has_10 rfl (Of_any _ _ n1 [k1] [⟨b30, 0, k1.map byteV, 32⟩] (KeysR.one (by simp) hk1l) (by omega) (by simp)) (by repeat (first | exact Take.nil | apply Take.one (by repeat (first | exact Pick.here | apply Pick.there | apply Pick.far)) | apply Take.seg (by repeat (first | exact PickS.last | exact PickS.one | exact PickS.here | exact PickS.nil | apply PickS.there | apply PickS.far)) | exact Take.last (by repeat (first | exact PickS.last | exact PickS.one | exact PickS.here | exact PickS.nil | apply PickS.there | apply PickS.far)))) (fun v11 Y11 hY11 => ?_)) (T1.allocN 6 zr_27 rfl (fun b6 => ?_))
        ·
         obtain ⟨rfl, hzzY11⟩ := hY11
         rw [hzzY11, show ([k1] : List (List UInt8)).flatten = k1 from by simp]
         simp only [List.cons_append, List.nil_append]
         refine ⟨⟨.of_mem (by simp), .of_mem (by simp)⟩, ?_⟩
         refine TK.one 13 (by decide +kernel) rfl rfl (T1.allocN 6 zr_27 rfl (fun b6 => ?_))
         refine ⟨⟨.of_mem (by simp), .of_mem (by simp)⟩, ?_⟩
         refine TK.one 14 (by decide +kernel) rfl rfl (T1.storeN (vs := (ofG (ofH (n0 ++ k0) 16)).map u32V) rfl rfl sz_27 (ones_u32 _) (by repeat (first | exact Sub.one | apply Sub.there | apply Sub.far)) (by rw [List.length_map, ofG_len]; rfl) (by rw [List.length_map, ofG_len]) ?_)
         refine ⟨⟨.of_mem (by simp), .of_mem (by simp)⟩, ?_⟩
         refine TK.one 15 (by decide +kernel) rfl rfl (T1.storeN (vs := (ofG (ofH (n1 ++ k1) 16)).map u32V) rfl rfl sz_27 (ones_u32 _) (by repeat (first | exact Sub.one | apply Sub.there | apply Sub.far)) (by rw [List.length_map, ofG_len]; rfl) (by rw [List.length_map, ofG_len]) ?_)
         refine ⟨⟨.of_mem (by simp), .of_mem (by simp)⟩, ?_⟩
         refine TD.done (by decide +kernel) ?_
         exact ⟨(b5, b6), _, _, trivial, (.cons rfl (.cons rfl .nil)), .nil, (by repeat (first | exact Take.nil | apply Take.one (by repeat (first | exact Pick.here | apply Pick.there | apply Pick.far)) | apply Take.seg (by repeat (first | exact PickS.last | exact PickS.one | exact PickS.here | exact PickS.nil | apply PickS.there | apply PickS.far)) | exact Take.last (by repeat (first | exact PickS.last | exact PickS.one | exact PickS.here | exact PickS.nil | apply PickS.there | apply PickS.far)))), rfl⟩
        ·
         refine ⟨⟨.of_mem (by simp), .of_mem (by simp)⟩, ?_⟩
         refine TK.one 11 (by decide +kernel) rfl rfl (T1.callX (X := [⟨b30, 0, k1.map byteV, 32⟩]) has_10 rfl (Of_any _ _ n1 [k1] [⟨b30, 0, k1.map byteV, 32⟩] (KeysR.one (by simp) hk1l) (by omega) (by simp)) (by repeat (first | exact Take.nil | apply Take.one (by repeat (first | exact Pick.here | apply Pick.there | apply Pick.far)) | apply Take.seg (by repeat (first | exact PickS.last | exact PickS.one | exact PickS.here | exact PickS.nil | apply PickS.there | apply PickS.far)) | exact Take.last (by repeat (first | exact PickS.last | exact PickS.one | exact PickS.here | exact PickS.nil | apply PickS.there | apply PickS.far)))) (fun v11 Y11 hY11 => ?_))
         obtain ⟨rfl, hzzY11⟩ := hY11
         rw [hzzY11, show ([k1] : List (List UInt8)).flatten = k1 from by simp]
         simp only [List.cons_append, List.nil_append]
         refine ⟨⟨.of_mem (by simp), .of_mem (by simp)⟩, ?_⟩
         refine TK.one 14 (by decide +kernel) rfl rfl (T1.storeN (vs := (ofG (ofH (n0 ++ k0) 16)).map u32V) rfl rfl sz_27 (ones_u32 _) (by repeat (first | exact Sub.one | apply Sub.there | apply Sub.far)) (by rw [List.length_map, ofG_len]; rfl) (by rw [List.length_map, ofG_len]) ?_)
         refine ⟨⟨.of_mem (by simp), .of_mem (by simp)⟩, ?_⟩
         refine TK.one 15 (by decide +kernel) rfl rfl (T1.storeN (vs := (ofG (ofH (n1 ++ k1) 16)).map u32V) rfl rfl sz_27 (ones_u32 _) (by repeat (first | exact Sub.one | apply Sub.there | apply Sub.far)) (by rw [List.length_map, ofG_len]; rfl) (by rw [List.length_map, ofG_len]) ?_)
         refine ⟨⟨.of_mem (by simp), .of_mem (by simp)⟩, ?_⟩
         refine TD.done (by decide +kernel) ?_
         exact ⟨(b5, b6), _, _, trivial, (.cons rfl (.cons rfl .nil)), .nil, (by repeat (first | exact Take.nil | apply Take.one (by repeat (first | exact Pick.here | apply Pick.there | apply Pick.far)) | apply Take.seg (by repeat (first | exact PickS.last | exact PickS.one | exact PickS.here | exact PickS.nil | apply PickS.there | apply PickS.far)) | exact Take.last (by repeat (first | exact PickS.last | exact PickS.one | exact PickS.here | exact PickS.nil | apply PickS.there | apply PickS.far)))), rfl⟩
       ·
        refine ⟨⟨.of_mem (by simp), .of_mem (by simp)⟩, ?_⟩
        refine TK.one 10 (by decide +kernel) rfl rfl (T1.buildSlN (os := [.tmp 29]) (vs := [.agg (k1.map byteV).toArray]) (vss := [k1.map byteV]) ty_24 sz_36 zr_36 (by decide) rfl (.cons rfl .nil) (by exact Aggs.cons rfl Aggs.nil) rfl (by intro l hl; obtain rfl := List.mem_singleton.1 hl; rw [List.length_map]; exact hk1l) (fun b30 => ?_))
        simp only [List.flatten_cons, List.flatten_nil, List.append_nil, Nat.one_mul]
        refine ⟨⟨.of_mem (by simp), .of_mem (by simp)⟩, ?_⟩
        refine TK.one 11 (by decide +kernel) rfl rfl (T1.callX (X := [⟨b30, 0, k1.map byteV, 32⟩]) has_10 rfl (Of_any _ _ n1 [k1] [⟨b30, 0, k1.map byteV, 32⟩] (KeysR.one (by simp) hk1l) (by omega) (by simp)) (by repeat (first | exact Take.nil | apply Take.one (by repeat (first | exact Pick.here | apply Pick.there | apply Pick.far)) | apply Take.seg (by repeat (first | exact PickS.last | exact PickS.one | exact PickS.here | exact PickS.nil | apply PickS.there | apply PickS.far)) | exact Take.last (by repeat (first | exact PickS.last | exact PickS.one | exact PickS.here | exact PickS.nil | apply PickS.there | apply PickS.far)))) (fun v11 Y11 hY11 => ?_))
        obtain ⟨rfl, hzzY11⟩ := hY11
        rw [hzzY11, show ([k1] : List (List UInt8)).flatten = k1 from by simp]
        simp only [List.cons_append, List.nil_append]
        refine ⟨⟨.of_mem (by simp), .of_mem (by simp)⟩, ?_⟩
        refine TK.one 14 (by decide +kernel) rfl rfl (T1.storeN (vs := (ofG (ofH (n0 ++ k0) 16)).map u32V) rfl rfl sz_27 (ones_u32 _) (by repeat (first | exact Sub.one | apply Sub.there | apply Sub.far)) (by rw [List.length_map, ofG_len]; rfl) (by rw [List.length_map, ofG_len]) ?_)
        refine ⟨⟨.of_mem (by simp), .of_mem (by simp)⟩, ?_⟩
        refine TK.one 15 (by decide +kernel) rfl rfl (T1.storeN (vs := (ofG (ofH (n1 ++ k1) 16)).map u32V) rfl rfl sz_27 (ones_u32 _) (by repeat (first | exact Sub.one | apply Sub.there | apply Sub.far)) (by rw [List.length_map, ofG_len]; rfl) (by rw [List.length_map, ofG_len]) ?_)
        refine ⟨⟨.of_mem (by simp), .of_mem (by simp)⟩, ?_⟩
        refine TD.done (by decide +kernel) ?_
        exact ⟨(b5, b6), _, _, trivial, (.cons rfl (.cons rfl .nil)), .nil, (by repeat (first | exact Take.nil | apply Take.one (by repeat (first | exact Pick.here | apply Pick.there | apply Pick.far)) | apply Take.seg (by repeat (first | exact PickS.last | exact PickS.one | exact PickS.here | exact PickS.nil | apply PickS.there | apply PickS.far)) | exact Take.last (by repeat (first | exact PickS.last | exact PickS.one | exact PickS.here | exact PickS.nil | apply PickS.there | apply PickS.far)))), rfl⟩
      ·
       refine ⟨⟨.of_mem (by simp), .of_mem (by simp)⟩, ?_⟩
       refine TK.two 10 12 (by decide +kernel) rfl rfl rfl rfl (T1.buildSlN (os := [.tmp 29]) (vs := [.agg (k1.map byteV).toArray]) (vss := [k1.map byteV]) ty_24 sz_36 zr_36 (by decide) rfl (.cons rfl .nil) (by exact Aggs.cons rfl Aggs.nil) rfl (by intro l hl; obtain rfl := List.mem_singleton.1 hl; rw [List.length_map]; exact hk1l) (fun b30 => ?_)) (T1.allocN 6 zr_27 rfl (fun b5 => ?_))
       ·
        simp only [List.flatten_cons, List.flatten_nil, List.append_nil, Nat.one_mul]
        refine ⟨⟨.of_mem (by simp), .of_mem (by simp)⟩, ?_⟩
        refine TK.two 11 12 (by decide +kernel) rfl rfl rfl rfl (T1.callX (X := [⟨b30, 0, k1.map byteV, 32⟩]) has_10 rfl (Of_any _ _ n1 [k1] [⟨b30, 0, k1.map byteV, 32⟩] (KeysR.one (by simp) hk1l) (by omega) (by simp)) (by repeat (first | exact Take.nil | apply Take.one (by repeat (first | exact Pick.here | apply Pick.there | apply Pick.far)) | apply Take.seg (by repeat (first | exact PickS.last | exact PickS.one | exact PickS.here | exact PickS.nil | apply PickS.there | apply PickS.far)) | exact Take.last (by repeat (first | exact PickS.last | exact PickS.one | exact PickS.here | exact PickS.nil | apply PickS.there | apply PickS.far)))) (fun v11 Y11 hY11 => ?_)) (T1.allocN 6 zr_27 rfl (fun b5 => ?_))
        ·
         obtain ⟨rfl, hzzY11⟩ := hY11
         rw [hzzY11, show ([k1] : List (List UInt8)).flatten = k1 from by simp]
         simp only [List.cons_append, List.nil_append]
         refine ⟨⟨.of_mem (by simp), .of_mem (by simp)⟩, ?_⟩
         refine TK.one 12 (by decide +kernel) rfl rfl (T1.allocN 6 zr_27 rfl (fun b5 => ?_))
         refine ⟨⟨.of_mem (by simp), .of_mem (by simp)⟩, ?_⟩
         refine TK.one 14 (by decide +kernel) rfl rfl (T1.storeN (vs := (ofG (ofH (n0 ++ k0) 16)).map u32V) rfl rfl sz_27 (ones_u32 _) (by repeat (first | exact Sub.one | apply Sub.there | apply Sub.far)) (by rw [List.length_map, ofG_len]; rfl) (by rw [List.length_map, ofG_len]) ?_)
         refine ⟨⟨.of_mem (by simp), .of_mem (by simp)⟩, ?_⟩
         refine TK.one 15 (by decide +kernel) rfl rfl (T1.storeN (vs := (ofG (ofH (n1 ++ k1) 16)).map u32V) rfl rfl sz_27 (ones_u32 _) (by repeat (first | exact Sub.one | apply Sub.there | apply Sub.far)) (by rw [List.length_map, ofG_len]; rfl) (by rw [List.length_map, ofG_len]) ?_)
         refine ⟨⟨.of_mem (by simp), .of_mem (by simp)⟩, ?_⟩
         refine TD.done (by decide +kernel) ?_
         exact ⟨(b5, b6), _, _, trivial, (.cons rfl (.cons rfl .nil)), .nil, (by repeat (first | exact Take.nil | apply Take.one (by repeat (first | exact Pick.here | apply Pick.there | apply Pick.far)) | apply Take.seg (by repeat (first | exact PickS.last | exact PickS.one | exact PickS.here | exact PickS.nil | apply PickS.there | apply PickS.far)) | exact Take.last (by repeat (first | exact PickS.last | exact PickS.one | exact PickS.here | exact PickS.nil | apply PickS.there | apply PickS.far)))), rfl⟩
        ·
         refine ⟨⟨.of_mem (by simp), .of_mem (by simp)⟩, ?_⟩
         refine TK.one 11 (by decide +kernel) rfl rfl (T1.callX (X := [⟨b30, 0, k1.map byteV, 32⟩]) has_10 rfl (Of_any _ _ n1 [k1] [⟨b30, 0, k1.map byteV, 32⟩] (KeysR.one (by simp) hk1l) (by omega) (by simp)) (by repeat (first | exact Take.nil | apply Take.one (by repeat (first | exact Pick.here | apply Pick.there | apply Pick.far)) | apply Take.seg (by repeat (first | exact PickS.last | exact PickS.one | exact PickS.here | exact PickS.nil | apply PickS.there | apply PickS.far)) | exact Take.last (by repeat (first | exact PickS.last | exact PickS.one | exact PickS.here | exact PickS.nil | apply PickS.there | apply PickS.far)))) (fun v11 Y11 hY11 => ?_))
         obtain ⟨rfl, hzzY11⟩ := hY11
         rw [hzzY11, show ([k1] : List (List UInt8)).flatten = k1 from by simp]
         simp only [List.cons_append, List.nil_append]
         refine ⟨⟨.of_mem (by simp), .of_mem (by simp)⟩, ?_⟩
         refine TK.one 14 (by decide +kernel) rfl rfl (T1.storeN (vs := (ofG (ofH (n0 ++ k0) 16)).map u32V) rfl rfl sz_27 (ones_u32 _) (by repeat (first | exact Sub.one | apply Sub.there | apply Sub.far)) (by rw [List.length_map, ofG_len]; rfl) (by rw [List.length_map, ofG_len]) ?_)
         refine ⟨⟨.of_mem (by simp), .of_mem (by simp)⟩, ?_⟩
         refine TK.one 15 (by decide +kernel) rfl rfl (T1.storeN (vs := (ofG (ofH (n1 ++ k1) 16)).map u32V) rfl rfl sz_27 (ones_u32 _) (by repeat (first | exact Sub.one | apply Sub.there | apply Sub.far)) (by rw [List.length_map, ofG_len]; rfl) (by rw [List.length_map, ofG_len]) ?_)
         refine ⟨⟨.of_mem (by simp), .of_mem (by simp)⟩, ?_⟩
         refine TD.done (by decide +kernel) ?_
         exact ⟨(b5, b6), _, _, trivial, (.cons rfl (.cons rfl .nil)), .nil, (by repeat (first | exact Take.nil | apply Take.one (by repeat (first | exact Pick.here | apply Pick.there | apply Pick.far)) | apply Take.seg (by repeat (first | exact PickS.last | exact PickS.one | exact PickS.here | exact PickS.nil | apply PickS.there | apply PickS.far)) | exact Take.last (by repeat (first | exact PickS.last | exact PickS.one | exact PickS.here | exact PickS.nil | apply PickS.there | apply PickS.far)))), rfl⟩
       ·
        refine ⟨⟨.of_mem (by simp), .of_mem (by simp)⟩, ?_⟩
        refine TK.one 10 (by decide +kernel) rfl rfl (T1.buildSlN (os := [.tmp 29]) (vs := [.agg (k1.map byteV).toArray]) (vss := [k1.map byteV]) ty_24 sz_36 zr_36 (by decide) rfl (.cons rfl .nil) (by exact Aggs.cons rfl Aggs.nil) rfl (by intro l hl; obtain rfl := List.mem_singleton.1 hl; rw [List.length_map]; exact hk1l) (fun b30 => ?_))
        simp only [List.flatten_cons, List.flatten_nil, List.append_nil, Nat.one_mul]
        refine ⟨⟨.of_mem (by simp), .of_mem (by simp)⟩, ?_⟩
        refine TK.one 11 (by decide +kernel) rfl rfl (T1.callX (X := [⟨b30, 0, k1.map byteV, 32⟩]) has_10 rfl (Of_any _ _ n1 [k1] [⟨b30, 0, k1.map byteV, 32⟩] (KeysR.one (by simp) hk1l) (by omega) (by simp)) (by repeat (first | exact Take.nil | apply Take.one (by repeat (first | exact Pick.here | apply Pick.there | apply Pick.far)) | apply Take.seg (by repeat (first | exact PickS.last | exact PickS.one | exact PickS.here | exact PickS.nil | apply PickS.there | apply PickS.far)) | exact Take.last (by repeat (first | exact PickS.last | exact PickS.one | exact PickS.here | exact PickS.nil | apply PickS.there | apply PickS.far)))) (fun v11 Y11 hY11 => ?_))
        obtain ⟨rfl, hzzY11⟩ := hY11
        rw [hzzY11, show ([k1] : List (List UInt8)).flatten = k1 from by simp]
        simp only [List.cons_append, List.nil_append]
        refine ⟨⟨.of_mem (by simp), .of_mem (by simp)⟩, ?_⟩
        refine TK.one 14 (by decide +kernel) rfl rfl (T1.storeN (vs := (ofG (ofH (n0 ++ k0) 16)).map u32V) rfl rfl sz_27 (ones_u32 _) (by repeat (first | exact Sub.one | apply Sub.there | apply Sub.far)) (by rw [List.length_map, ofG_len]; rfl) (by rw [List.length_map, ofG_len]) ?_)
        refine ⟨⟨.of_mem (by simp), .of_mem (by simp)⟩, ?_⟩
        refine TK.one 15 (by decide +kernel) rfl rfl (T1.storeN (vs := (ofG (ofH (n1 ++ k1) 16)).map u32V) rfl rfl sz_27 (ones_u32 _) (by repeat (first | exact Sub.one | apply Sub.there | apply Sub.far)) (by rw [List.length_map, ofG_len]; rfl) (by rw [List.length_map, ofG_len]) ?_)
        refine ⟨⟨.of_mem (by simp), .of_mem (by simp)⟩, ?_⟩
        refine TD.done (by decide +kernel) ?_
        exact ⟨(b5, b6), _, _, trivial, (.cons rfl (.cons rfl .nil)), .nil, (by repeat (first | exact Take.nil | apply Take.one (by repeat (first | exact Pick.here | apply Pick.there | apply Pick.far)) | apply Take.seg (by repeat (first | exact PickS.last | exact PickS.one | exact PickS.here | exact PickS.nil | apply PickS.there | apply PickS.far)) | exact Take.last (by repeat (first | exact PickS.last | exact PickS.one | exact PickS.here | exact PickS.nil | apply PickS.there | apply PickS.far)))), rfl⟩
     ·
      simp only [List.flatten_cons, List.flatten_nil, List.append_nil, Nat.one_mul]
      refine ⟨⟨.of_mem (by simp), .of_mem (by simp)⟩, ?_⟩
      refine TK.three 5 12 13 (by decide +kernel) rfl rfl rfl rfl rfl rfl (T1.callX (X := [⟨b24, 0, k0.map byteV, 32⟩]) has_10 rfl (Of_any _ _ n0 [k0] [⟨b24, 0, k0.map byteV, 32⟩] (KeysR.one (by simp) hk0l) (by omega) (by simp)) (by repeat (first | exact Take.nil | apply Take.one (by repeat (first | exact Pick.here | apply Pick.there | apply Pick.far)) | apply Take.seg (by repeat (first | exact PickS.last | exact PickS.one | exact PickS.here | exact PickS.nil | apply PickS.there | apply PickS.far)) | exact Take.last (by repeat (first | exact PickS.last | exact PickS.one | exact PickS.here | exact PickS.nil | apply PickS.there | apply PickS.far)))) (fun v5 Y5 hY5 => ?_)) (T1.allocN 6 zr_27 rfl (fun b5 => ?_)) (T1.allocN 6 zr_27 rfl (fun b6 => ?_))
      ·
       obtain ⟨rfl, hzzY5⟩ := hY5
       rw [hzzY5, show ([k0] : List (List UInt8)).flatten = k0 from by simp]
       simp only [List.cons_append, List.nil_append]
       refine ⟨⟨.of_mem (by simp), .of_mem (by simp)⟩, ?_⟩
       refine TK.three 11 12 13 (by decide +kernel) rfl rfl rfl rfl rfl rfl (T1.callX (X := [⟨b30, 0, k1.map byteV, 32⟩]) has_10 rfl (Of_any _ _ n1 [k1] [⟨b30, 0, k1.map byteV, 32⟩] (KeysR.one (by simp) hk1l) (by omega) (by simp)) (by repeat (first | exact Take.nil | apply Take.one (by repeat (first | exact Pick.here | apply Pick.there | apply Pick.far)) | apply Take.seg (by repeat (first | exact PickS.last | exact PickS.one | exact PickS.here | exact PickS.nil | apply PickS.there | apply PickS.far)) | exact Take.last (by repeat (first | exact PickS.last | exact PickS.one | exact PickS.here | exact PickS.nil | apply PickS.there | apply PickS.far)))) (fun v11 Y11 hY11 => ?_)) (T1.allocN 6 zr_27 rfl (fun b5 => ?_)) (T1.allocN 6 zr_27 rfl (fun b6 => ?_))
       ·
        obtain ⟨rfl, hzzY11⟩ := hY11
        rw [hzzY11, show ([k1] : List (List UInt8)).flatten = k1 from by simp]
        simp only [List.cons_append, List.nil_append]
        refine ⟨⟨.of_mem (by simp), .of_mem (by simp)⟩, ?_⟩
        refine TK.two 12 13 (by decide +kernel) rfl rfl rfl rfl (T1.allocN 6 zr_27 rfl (fun b5 => ?_)) (T1.allocN 6 zr_27 rfl (fun b6 => ?_))
        ·
         refine ⟨⟨.of_mem (by simp), .of_mem (by simp)⟩, ?_⟩
         refine TK.one 13 (by decide +kernel) rfl rfl (T1.allocN 6 zr_27 rfl (fun b6 => ?_))
         refine ⟨⟨.of_mem (by simp), .of_mem (by simp)⟩, ?_⟩
         refine TK.one 14 (by decide +kernel) rfl rfl (T1.storeN (vs := (ofG (ofH (n0 ++ k0) 16)).map u32V) rfl rfl sz_27 (ones_u32 _) (by repeat (first | exact Sub.one | apply Sub.there | apply Sub.far)) (by rw [List.length_map, ofG_len]; rfl) (by rw [List.length_map, ofG_len]) ?_)
         refine ⟨⟨.of_mem (by simp), .of_mem (by simp)⟩, ?_⟩
         refine TK.one 15 (by decide +kernel) rfl rfl (T1.storeN (vs := (ofG (ofH (n1 ++ k1) 16)).map u32V) rfl rfl sz_27 (ones_u32 _) (by repeat (first | exact Sub.one | apply Sub.there | apply Sub.far)) (by rw [List.length_map, ofG_len]; rfl) (by rw [List.length_map, ofG_len]) ?_)
         refine ⟨⟨.of_mem (by simp), .of_mem (by simp)⟩, ?_⟩
         refine TD.done (by decide +kernel) ?_
         exact ⟨(b5, b6), _, _, trivial, (.cons rfl (.cons rfl .nil)), .nil, (by repeat (first | exact Take.nil | apply Take.one (by repeat (first | exact Pick.here | apply Pick.there | apply Pick.far)) | apply Take.seg (by repeat (first | exact PickS.last | exact PickS.one | exact PickS.here | exact PickS.nil | apply PickS.there | apply PickS.far)) | exact Take.last (by repeat (first | exact PickS.last | exact PickS.one | exact PickS.here | exact PickS.nil | apply PickS.there | apply PickS.far)))), rfl⟩
        ·
         refine ⟨⟨.of_mem (by simp), .of_mem (by simp)⟩, ?_⟩
         refine TK.one 12 (by decide +kernel) rfl rfl (T1.allocN 6 zr_27 rfl (fun b5 => ?_))
         refine ⟨⟨.of_mem (by simp), .of_mem (by simp)⟩, ?_⟩
         refine TK.one 14 (by decide +kernel) rfl rfl (T1.storeN (vs := (ofG (ofH (n0 ++ k0) 16)).map u32V) rfl rfl sz_27 (ones_u32 _) (by repeat (first | exact Sub.one | apply Sub.there | apply Sub.far)) (by rw [List.length_map, ofG_len]; rfl) (by rw [List.length_map, ofG_len]) ?_)
         refine ⟨⟨.of_mem (by simp), .of_mem (by simp)⟩, ?_⟩
         refine TK.one 15 (by decide +kernel) rfl rfl (T1.storeN (vs := (ofG (ofH (n1 ++ k1) 16)).map u32V) rfl rfl sz_27 (ones_u32 _) (by repeat (first | exact Sub.one | apply Sub.there | apply Sub.far)) (by rw [List.length_map, ofG_len]; rfl) (by rw [List.length_map, ofG_len]) ?_)
         refine ⟨⟨.of_mem (by simp), .of_mem (by simp)⟩, ?_⟩
         refine TD.done (by decide +kernel) ?_
         exact ⟨(b5, b6), _, _, trivial, (.cons rfl (.cons rfl .nil)), .nil, (by repeat (first | exact Take.nil | apply Take.one (by repeat (first | exact Pick.here | apply Pick.there | apply Pick.far)) | apply Take.seg (by repeat (first | exact PickS.last | exact PickS.one | exact PickS.here | exact PickS.nil | apply PickS.there | apply PickS.far)) | exact Take.last (by repeat (first | exact PickS.last | exact PickS.one | exact PickS.here | exact PickS.nil | apply PickS.there | apply PickS.far)))), rfl⟩
       ·
        refine ⟨⟨.of_mem (by simp), .of_mem (by simp)⟩, ?_⟩
        refine TK.two 11 13 (by decide +kernel) rfl rfl rfl rfl (T1.callX (X := [⟨b30, 0, k1.map byteV, 32⟩]) has_10 rfl (Of_any _ _ n1 [k1] [⟨b30, 0, k1.map byteV, 32⟩] (KeysR.one (by simp) hk1l) (by omega) (by simp)) (by repeat (first | exact Take.nil | apply Take.one (by repeat (first | exact Pick.here | apply Pick.there | apply Pick.far)) | apply Take.seg (by repeat (first | exact PickS.last | exact PickS.one | exact PickS.here | exact PickS.nil | apply PickS.there | apply PickS.far)) | exact Take.last (by repeat (first | exact PickS.last | exact PickS.one | exact PickS.here | exact PickS.nil | apply PickS.there | apply PickS.far)))) (fun v11 Y11 hY11 => ?_)) (T1.allocN 6 zr_27 rfl (fun b6 => ?_))
        ·
         obtain ⟨rfl, hzzY11⟩ := hY11
         rw [hzzY11, show ([k1] : List (List UInt8)).flatten = k1 from by simp]
         simp only [List.cons_append, List.nil_append]
         refine ⟨⟨.of_mem (by simp), .of_mem (by simp)⟩, ?_⟩
         refine TK.one 13 (by decide +kernel) rfl rfl (T1.allocN 6 zr_27 rfl (fun b6 => ?_))
         refine ⟨⟨.of_mem (by simp), .of_mem (by simp)⟩, ?_⟩
         refine TK.one 14 (by decide +kernel) rfl rfl (T1.storeN (vs := (ofG (ofH (n0 ++ k0) 16)).map u32V) rfl rfl sz_27 (ones_u32 _) (by repeat (first | exact Sub.one | apply Sub.there | apply Sub.far)) (by rw [List.length_map, ofG_len]; rfl) (by rw [List.length_map, ofG_len]) ?_)
         refine ⟨⟨.of_mem (by simp), .of_mem (by simp)⟩, ?_⟩
         refine TK.one 15 (by decide +kernel) rfl rfl (T1.storeN (vs := (ofG (ofH (n1 ++ k1) 16)).map u32V) rfl rfl sz_27 (ones_u32 _) (by repeat (first | exact Sub.one | apply Sub.there | apply Sub.far)) (by rw [List.length_map, ofG_len]; rfl) (by rw [List.length_map, ofG_len]) ?_)
         refine ⟨⟨.of_mem (by simp), .of_mem (by simp)⟩, ?_⟩
         refine TD.done (by decide +kernel) ?_
         exact ⟨(b5, b6), _, _, trivial, (.cons rfl (.cons rfl .nil)), .nil, (by repeat (first | exact Take.nil | apply Take.one (by repeat (first | exact Pick.here | apply Pick.there | apply Pick.far)) | apply Take.seg (by repeat (first | exact PickS.last | exact PickS.one | exact PickS.here | exact PickS.nil | apply PickS.there | apply PickS.far)) | exact Take.last (by repeat (first | exact PickS.last | exact PickS.one | exact PickS.here | exact PickS.nil | apply PickS.there | apply PickS.far)))), rfl⟩
        ·
         refine ⟨⟨.of_mem (by simp), .of_mem (by simp)⟩, ?_⟩
         refine TK.one 11 (by decide +kernel) rfl rfl (T1.callX (X := [⟨b30, 0, k1.map byteV, 32⟩]) has_10 rfl (Of_any _ _ n1 [k1] [⟨b30, 0, k1.map byteV, 32⟩] (KeysR.one (by simp) hk1l) (by omega) (by simp)) (by repeat (first | exact Take.nil | apply Take.one (by repeat (first | exact Pick.here | apply Pick.there | apply Pick.far)) | apply Take.seg (by repeat (first | exact PickS.last | exact PickS.one | exact PickS.here | exact PickS.nil | apply PickS.there | apply PickS.far)) | exact Take.last (by repeat (first | exact PickS.last | exact PickS.one | exact PickS.here | exact PickS.nil | apply PickS.there | apply PickS.far)))) (fun v11 Y11 hY11 => ?_))
         obtain ⟨rfl, hzzY11⟩ := hY11
         rw [hzzY11, show ([k1] : List (List UInt8)).flatten = k1 from by simp]
         simp only [List.cons_append, List.nil_append]
         refine ⟨⟨.of_mem (by simp), .of_mem (by simp)⟩, ?_⟩
         refine TK.one 14 (by decide +kernel) rfl rfl (T1.storeN (vs := (ofG (ofH (n0 ++ k0) 16)).map u32V) rfl rfl sz_27 (ones_u32 _) (by repeat (first | exact Sub.one | apply Sub.there | apply Sub.far)) (by rw [List.length_map, ofG_len]; rfl) (by rw [List.length_map, ofG_len]) ?_)
         refine ⟨⟨.of_mem (by simp), .of_mem (by simp)⟩, ?_⟩
         refine TK.one 15 (by decide +kernel) rfl rfl (T1.storeN (vs := (ofG (ofH (n1 ++ k1) 16)).map u32V) rfl rfl sz_27 (ones_u32 _) (by repeat (first | exact Sub.one | apply Sub.there | apply Sub.far)) (by rw [List.length_map, ofG_len]; rfl) (by rw [List.length_map, ofG_len]) ?_)
         refine ⟨⟨.of_mem (by simp), .of_mem (by simp)⟩, ?_⟩
         refine TD.done (by decide +kernel) ?_
         exact ⟨(b5, b6), _, _, trivial, (.cons rfl (.cons rfl .nil)), .nil, (by repeat (first | exact Take.nil | apply Take.one (by repeat (first | exact Pick.here | apply Pick.there | apply Pick.far)) | apply Take.seg (by repeat (first | exact PickS.last | exact PickS.one | exact PickS.here | exact PickS.nil | apply PickS.there | apply PickS.far)) | exact Take.last (by repeat (first | exact PickS.last | exact PickS.one | exact PickS.here | exact PickS.nil | apply PickS.there | apply PickS.far)))), rfl⟩
       ·
        refine ⟨⟨.of_mem (by simp), .of_mem (by simp)⟩, ?_⟩
        refine TK.two 11 12 (by decide +kernel) rfl rfl rfl rfl (T1.callX (X := [⟨b30, 0, k1.map byteV, 32⟩]) has_10 rfl (Of_any _ _ n1 [k1] [⟨b30, 0, k1.map byteV, 32⟩] (KeysR.one (by simp) hk1l) (by omega) (by simp)) (by repeat (first | exact Take.nil | apply Take.one (by repeat (first | exact Pick.here | apply Pick.there | apply Pick.far)) | apply Take.seg (by repeat (first | exact PickS.last | exact PickS.one | exact PickS.here | exact PickS.nil | apply PickS.there | apply PickS.far)) | exact Take.last (by repeat (first | exact PickS.last | exact PickS.one | exact PickS.here | exact PickS.nil | apply PickS.there | apply PickS.far)))) (fun v11 Y11 hY11 => ?_)) (T1.allocN 6 zr_27 rfl (fun b5 => ?_))
        ·
         obtain ⟨rfl, hzzY11⟩ := hY11
         rw [hzzY11, show ([k1] : List (List UInt8)).flatten = k1 from by simp]
         simp only [List.cons_append, List.nil_append]
         refine ⟨⟨.of_mem (by simp), .of_mem (by simp)⟩, ?_⟩
         refine TK.one 12 (by decide +kernel) rfl rfl (T1.allocN 6 zr_27 rfl (fun b5 => ?_))
         refine ⟨⟨.of_mem (by simp), .of_mem (by simp)⟩, ?_⟩
         refine TK.one 14 (by decide +kernel) rfl rfl (T1.storeN (vs := (ofG (ofH (n0 ++ k0) 16)).map u32V) rfl rfl sz_27 (ones_u32 _) (by repeat (first | exact Sub.one | apply Sub.there | apply Sub.far)) (by rw [List.length_map, ofG_len]; rfl) (by rw [List.length_map, ofG_len]) ?_)
         refine ⟨⟨.of_mem (by simp), .of_mem (by simp)⟩, ?_⟩
         refine TK.one 15 (by decide +kernel) rfl rfl (T1.storeN (vs := (ofG (ofH (n1 ++ k1) 16)).map u32V) rfl rfl sz_27 (ones_u32 _) (by repeat (first | exact Sub.one | apply Sub.there | apply Sub.far)) (by rw [List.length_map, ofG_len]; rfl) (by rw [List.length_map, ofG_len]) ?_)
         refine ⟨⟨.of_mem (by simp), .of_mem (by simp)⟩, ?_⟩
         refine TD.done (by decide +kernel) ?_
         exact ⟨(b5, b6), _, _, trivial, (.cons rfl (.cons rfl .nil)), .nil, (by repeat (first | exact Take.nil | apply Take.one (by repeat (first | exact Pick.here | apply Pick.there | apply Pick.far)) | apply Take.seg (by repeat (first | exact PickS.last | exact PickS.one | exact PickS.here | exact PickS.nil | apply PickS.there | apply PickS.far)) | exact Take.last (by repeat (first | exact PickS.last | exact PickS.one | exact PickS.here | exact PickS.nil | apply PickS.there | apply PickS.far)))), rfl⟩
        ·
         refine ⟨⟨.of_mem (by simp), .of_mem (by simp)⟩, ?_⟩
         refine TK.one 11 (by decide +kernel) rfl rfl (T1.callX (X := [⟨b30, 0, k1.map byteV, 32⟩]) has_10 rfl (Of_any _ _ n1 [k1] [⟨b30, 0, k1.map byteV, 32⟩] (KeysR.one (by simp) hk1l) (by omega) (by simp)) (by repeat (first | exact Take.nil | apply Take.one (by repeat (first | exact Pick.here | apply Pick.there | apply Pick.far)) | apply Take.seg (by repeat (first | exact PickS.last | exact PickS.one | exact PickS.here | exact PickS.nil | apply PickS.there | apply PickS.far)) | exact Take.last (by repeat (first | exact PickS.last | exact PickS.one | exact PickS.here | exact PickS.nil | apply PickS.there | apply PickS.far)))) (fun v11 Y11 hY11 => ?_))
         obtain ⟨rfl, hzzY11⟩ := hY11
         rw [hzzY11, show ([k1] : List (List UInt8)).flatten = k1 from by simp]
         simp only [List.cons_append, List.nil_append]
         refine ⟨⟨.of_mem (by simp), .of_mem (by simp)⟩, ?_⟩
         refine TK.one 14 (by decide +kernel) rfl rfl (T1.storeN (vs := (ofG (ofH (n0 ++ k0) 16)).map u32V) rfl rfl sz_27 (ones_u32 _) (by repeat (first | exact Sub.one | apply Sub.there | apply Sub.far)) (by rw [List.length_map, ofG_len]; rfl) (by rw [List.length_map, ofG_len]) ?_)
         refine ⟨⟨.of_mem (by simp), .of_mem (by simp)⟩, ?_⟩
         refine TK.one 15 (by decide +kernel) rfl rfl (T1.storeN (vs := (ofG (ofH (n1 ++ k1) 16)).map u32V) rfl rfl sz_27 (ones_u32 _) (by repeat (first | exact Sub.one | apply Sub.there | apply Sub.far)) (by rw [List.length_map, ofG_len]; rfl) (by rw [List.length_map, ofG_len]) ?_)
         refine ⟨⟨.of_mem (by simp), .of_mem (by simp)⟩, ?_⟩
         refine TD.done (by decide +kernel) ?_
         exact ⟨(b5, b6), _, _, trivial, (.cons rfl (.cons rfl .nil)), .nil, (by repeat (first | exact Take.nil | apply Take.one (by repeat (first | exact Pick.here | apply Pick.there | apply Pick.far)) | apply Take.seg (by repeat (first | exact PickS.last | exact PickS.one | exact PickS.here | exact PickS.nil | apply PickS.there | apply PickS.far)) | exact Take.last (by repeat (first | exact PickS.last | exact PickS.one | exact PickS.here | exact PickS.nil | apply PickS.there | apply PickS.far)))), rfl⟩
      ·
       refine ⟨⟨.of_mem (by simp), .of_mem (by simp)⟩, ?_⟩
       refine TK.two 5 13 (by decide +kernel) rfl rfl rfl rfl (T1.callX (X := [⟨b24, 0, k0.map byteV, 32⟩]) has_10 rfl (Of_any _ _ n0 [k0] [⟨b24, 0, k0.map byteV, 32⟩] (KeysR.one (by simp) hk0l) (by omega) (by simp)) (by repeat (first | exact Take.nil | apply Take.one (by repeat (first | exact Pick.here | apply Pick.there | apply Pick.far)) | apply Take.seg (by repeat (first | exact PickS.last | exact PickS.one | exact PickS.here | exact PickS.nil | apply PickS.there | apply PickS.far)) | exact Take.last (by repeat (first | exact PickS.last | exact PickS.one | exact PickS.here | exact PickS.nil | apply PickS.there | apply PickS.far)))) (fun v5 Y5 hY5 => ?_)) (T1.allocN 6 zr_27 rfl (fun b6 => ?_))
       ·
        obtain ⟨rfl, hzzY5⟩ := hY5
        rw [hzzY5, show ([k0] : List (List UInt8)).flatten = k0 from by simp]
        simp only [List.cons_append, List.nil_append]
        refine ⟨⟨.of_mem (by simp), .of_mem (by simp)⟩, ?_⟩
        refine TK.two 11 13 (by decide +kernel) rfl rfl rfl rfl (T1.callX (X := [⟨b30, 0, k1.map byteV, 32⟩]) has_10 rfl (Of_any _ _ n1 [k1] [⟨b30, 0, k1.map byteV, 32⟩] (KeysR.one (by simp) hk1l) (by omega) (by simp)) (by repeat (first | exact Take.nil | apply Take.one (by repeat (first | exact Pick.here | apply Pick.there | apply Pick.far)) | apply Take.seg (by repeat (first | exact PickS.last | exact PickS.one | exact PickS.here | exact PickS.nil | apply PickS.there | apply PickS.far)) | exact Take.last (by repeat (first | exact PickS.last | exact PickS.one | exact PickS.here | exact PickS.nil | apply PickS.there | apply PickS.far)))) (fun v11 Y11 hY11 => ?_)) (T1.allocN 6 zr_27 rfl (fun b6 => ?_))
        ·
         obtain ⟨rfl, hzzY11⟩ := hY11
         rw [hzzY11, show ([k1] : List (List UInt8)).flatten = k1 from by simp]
         simp only [List.cons_append, List.nil_append]
         refine ⟨⟨.of_mem (by simp), .of_mem (by simp)⟩, ?_⟩
         refine TK.one 13 (by decide +kernel) rfl rfl (T1.allocN 6 zr_27 rfl (fun b6 => ?_))
         refine ⟨⟨.of_mem (by simp), .of_mem (by simp)⟩, ?_⟩
         refine TK.one 14 (by decide +kernel) rfl rfl (T1.storeN (vs := (ofG (ofH (n0 ++ k0) 16)).map u32V) rfl rfl sz_27 (ones_u32 _) (by repeat (first | exact Sub.one | apply Sub.there | apply Sub.far)) (by rw [List.length_map, ofG_len]; rfl) (by rw [List.length_map, ofG_len]) ?_)
         refine ⟨⟨.of_mem (by simp), .of_mem (by simp)⟩, ?_⟩
         refine TK.one 15 (by decide +kernel) rfl rfl (T1.storeN (vs := (ofG (ofH (n1 ++ k1) 16)).map u32V) rfl rfl sz_27 (ones_u32 _) (by repeat (first | exact Sub.one | apply Sub.there | apply Sub.far)) (by rw [List.length_map, ofG_len]; rfl) (by rw [List.length_map, ofG_len]) ?_)
         refine ⟨⟨.of_mem (by simp), .of_mem (by simp)⟩, ?_⟩
         refine TD.done (by decide +kernel) ?_
         exact ⟨(b5, b6), _, _, trivial, (.cons rfl (.cons rfl .nil)), .nil, (by repeat (first | exact Take.nil | apply Take.one (by repeat (first | exact Pick.here | apply Pick.there | apply Pick.far)) | apply Take.seg (by repeat (first | exact PickS.last | exact PickS.one | exact PickS.here | exact PickS.nil | apply PickS.there | apply PickS.far)) | exact Take.last (by repeat (first | exact PickS.last | exact PickS.one | exact PickS.here | exact PickS.nil | apply PickS.there | apply PickS.far)))), rfl⟩
        ·
         refine ⟨⟨.of_mem (by simp), .of_mem (by simp)⟩, ?_⟩
         refine TK.one 11 (by decide +kernel) rfl rfl (T1.callX (X := [⟨b30, 0, k1.map byteV, 32⟩]) has_10 rfl (Of_any _ _ n1 [k1] [⟨b30, 0, k1.map byteV, 32⟩] (KeysR.one (by simp) hk1l) (by omega) (by simp)) (by repeat (first | exact Take.nil | apply Take.one (by repeat (first | exact Pick.here | apply Pick.there | apply Pick.far)) | apply Take.seg (by repeat (first | exact PickS.last | exact PickS.one | exact PickS.here | exact PickS.nil | apply PickS.there | apply PickS.far)) | exact Take.last (by repeat (first | exact PickS.last | exact PickS.one | exact PickS.here | exact PickS.nil | apply PickS.there | apply PickS.far)))) (fun v11 Y11 hY11 => ?_))
         obtain ⟨rfl, hzzY11⟩ := hY11
         rw [hzzY11, show ([k1] : List (List UInt8)).flatten = k1 from by simp]
         simp only [List.cons_append, List.nil_append]
         refine ⟨⟨.of_mem (by simp), .of_mem (by simp)⟩, ?_⟩
         refine TK.one 14 (by decide +kernel) rfl rfl (T1.storeN (vs := (ofG (ofH (n0 ++ k0) 16)).map u32V) rfl rfl sz_27 (ones_u32 _) (by repeat (first | exact Sub.one | apply Sub.there | apply Sub.far)) (by rw [List.length_map, ofG_len]; rfl) (by rw [List.length_map, ofG_len]) ?_)
         refine ⟨⟨.of_mem (by simp), .of_mem (by simp)⟩, ?_⟩
         refine TK.one 15 (by decide +kernel) rfl rfl (T1.storeN (vs := (ofG (ofH (n1 ++ k1) 16)).map u32V) rfl rfl sz_27 (ones_u32 _) (by repeat (first | exact Sub.one | apply Sub.there | apply Sub.far)) (by rw [List.length_map, ofG_len]; rfl) (by rw [List.length_map, ofG_len]) ?_)
         refine ⟨⟨.of_mem (by simp), .of_mem (by simp)⟩, ?_⟩
         refine TD.done (by decide +kernel) ?_
         exact ⟨(b5, b6), _, _, trivial, (.cons rfl (.cons rfl .nil)), .nil, (by repeat (first | exact Take.nil | apply Take.one (by repeat (first | exact Pick.here | apply Pick.there | apply Pick.far)) | apply Take.seg (by repeat (first | exact PickS.last | exact PickS.one | exact PickS.here | exact PickS.nil | apply PickS.there | apply PickS.far)) | exact Take.last (by repeat (first | exact PickS.last | exact PickS.one | exact PickS.here | exact PickS.nil | apply PickS.there | apply PickS.far)))), rfl⟩
       ·
        refine ⟨⟨.of_mem (by simp), .of_mem (by simp)⟩, ?_⟩
        refine TK.one 5 (by decide +kernel) rfl rfl (T1.callX (X := [⟨b24, 0, k0.map byteV, 32⟩]) has_10 rfl (Of_any _ _ n0 [k0] [⟨b24, 0, k0.map byteV, 32⟩] (KeysR.one (by simp) hk0l) (by omega) (by simp)) (by repeat (first | exact Take.nil | apply Take.one (by repeat (first | exact Pick.here | apply Pick.there | apply Pick.far)) | apply Take.seg (by repeat (first | exact PickS.last | exact PickS.one | exact PickS.here | exact PickS.nil | apply PickS.there | apply PickS.far)) | exact Take.last (by repeat (first | exact PickS.last | exact PickS.one | exact PickS.here | exact PickS.nil | apply PickS.there | apply PickS.far)))) (fun v5 Y5 hY5 => ?_))
        obtain ⟨rfl, hzzY5⟩ := hY5
        rw [hzzY5, show ([k0] : List (List UInt8)).flatten = k0 from by simp]
        simp only [List.cons_append, List.nil_append]
        refine ⟨⟨.of_mem (by simp), .of_mem (by simp)⟩, ?_⟩
        refine TK.one 11 (by decide +kernel) rfl rfl (T1.callX (X := [⟨b30, 0, k1.map byteV, 32⟩]) has_10 rfl (Of_any _ _ n1 [k1] [⟨b30, 0, k1.map byteV, 32⟩] (KeysR.one (by simp) hk1l) (by omega) (by simp)) (by repeat (first | exact Take.nil | apply Take.one (by repeat (first | exact Pick.here | apply Pick.there | apply Pick.far)) | apply Take.seg (by repeat (first | exact PickS.last | exact PickS.one | exact PickS.here | exact PickS.nil | apply PickS.there | apply PickS.far)) | exact Take.last (by repeat (first | exact PickS.last | exact PickS.one | exact PickS.here | exact PickS.nil | apply PickS.there | apply PickS.far)))) (fun v11 Y11 hY11 => ?_))
        obtain ⟨rfl, hzzY11⟩ := hY11
        rw [hzzY11, show ([k1] : List (List UInt8)).flatten = k1 from by simp]
        simp only [List.cons_append, List.nil_append]
        refine ⟨⟨.of_mem (by simp), .of_mem (by simp)⟩, ?_⟩
        refine TK.one 14 (by decide +kernel) rfl rfl (T1.storeN (vs := (ofG (ofH (n0 ++ k0) 16)).map u32V) rfl rfl sz_27 (ones_u32 _) (by repeat (first | exact Sub.one | apply Sub.there | apply Sub.far)) (by rw [List.length_map, ofG_len]; rfl) (by rw [List.length_map, ofG_len]) ?_)
        refine ⟨⟨.of_mem (by simp), .of_mem (by simp)⟩, ?_⟩
        refine TK.one 15 (by decide +kernel) rfl rfl (T1.storeN (vs := (ofG (ofH (n1 ++ k1) 16)).map u32V) rfl rfl sz_27 (ones_u32 _) (by repeat (first | exact Sub.one | apply Sub.there | apply Sub.far)) (by rw [List.length_map, ofG_len]; rfl) (by rw [List.length_map, ofG_len]) ?_)
        refine ⟨⟨.of_mem (by simp), .of_mem (by simp)⟩, ?_⟩
        refine TD.done (by decide +kernel) ?_
        exact ⟨(b5, b6), _, _, trivial, (.cons rfl (.cons rfl .nil)), .nil, (by repeat (first | exact Take.nil | apply Take.one (by repeat (first | exact Pick.here | apply Pick.there | apply Pick.far)) | apply Take.seg (by repeat (first | exact PickS.last | exact PickS.one | exact PickS.here | exact PickS.nil | apply PickS.there | apply PickS.far)) | exact Take.last (by repeat (first | exact PickS.last | exact PickS.one | exact PickS.here | exact PickS.nil | apply PickS.there | apply PickS.far)))), rfl⟩
      ·
       refine ⟨⟨.of_mem (by simp), .of_mem (by simp)⟩, ?_⟩
       refine TK.two 5 12 (by decide +kernel) rfl rfl rfl rfl (T1.callX (X := [⟨b24, 0, k0.map byteV, 32⟩]) has_10 rfl (Of_any _ _ n0 [k0] [⟨b24, 0, k0.map byteV, 32⟩] (KeysR.one (by simp) hk0l) (by omega) (by simp)) (by repeat (first | exact Take.nil | apply Take.one (by repeat (first | exact Pick.here | apply Pick.there | apply Pick.far)) | apply Take.seg (by repeat (first | exact PickS.last | exact PickS.one | exact PickS.here | exact PickS.nil | apply PickS.there | apply PickS.far)) | exact Take.last (by repeat (first | exact PickS.last | exact PickS.one | exact PickS.here | exact PickS.nil | apply PickS.there | apply PickS.far)))) (fun v5 Y5 hY5 => ?_)) (T1.allocN 6 zr_27 rfl (fun b5 => ?_))
       ·
        obtain ⟨rfl, hzzY5⟩ := hY5
        rw [hzzY5, show ([k0] : List (List UInt8)).flatten = k0 from by simp]
        simp only [List.cons_append, List.nil_append]
        refine ⟨⟨.of_mem (by simp), .of_mem (by simp)⟩, ?_⟩
        refine TK.two 11 12 (by decide +kernel) rfl rfl rfl rfl (T1.callX (X := [⟨b30, 0, k1.map byteV, 32⟩]) has_10 rfl (Of_any _ _ n1 [k1] [⟨b30, 0, k1.map byteV, 32⟩] (KeysR.one (by simp) hk1l) (by omega) (by simp)) (by repeat (first | exact Take.nil | apply Take.one (by repeat (first | exact Pick.here | apply Pick.there | apply Pick.far)) | apply Take.seg (by repeat (first | exact PickS.last | exact PickS.one | exact PickS.here | exact PickS.nil | apply PickS.there | apply PickS.far)) | exact Take.last (by repeat (first | exact PickS.last | exact PickS.one | exact PickS.here | exact PickS.nil | apply PickS.there | apply PickS.far)))) (fun v11 Y11 hY11 => ?_)) (T1.allocN 6 zr_27 rfl (fun b5 => ?_))
        ·
         obtain ⟨rfl, hzzY11⟩ := hY11
         rw [hzzY11, show ([k1] : List (List UInt8)).flatten = k1 from by simp]
         simp only [List.cons_append, List.nil_append]
         refine ⟨⟨.of_mem (by simp), .of_mem (by simp)⟩, ?_⟩
         refine TK.one 12 (by decide +kernel) rfl rfl (T1.allocN 6 zr_27 rfl (fun b5 => ?_))
         refine ⟨⟨.of_mem (by simp), .of_mem (by simp)⟩, ?_⟩
         refine TK.one 14 (by decide +kernel) rfl rfl (T1.storeN (vs := (ofG (ofH (n0 ++ k0) 16)).map u32V) rfl rfl sz_27 (ones_u32 _) (by repeat (first | exact Sub.one | apply Sub.there | apply Sub.far)) (by rw [List.length_map, ofG_len]; rfl) (by rw [List.length_map, ofG_len]) ?_)
         refine ⟨⟨.of_mem (by simp), .of_mem (by simp)⟩, ?_⟩
         refine TK.one 15 (by decide +kernel) rfl rfl (T1.storeN (vs := (ofG (ofH (n1 ++ k1) 16)).map u32V) rfl rfl sz_27 (ones_u32 _) (by repeat (first | exact Sub.one | apply Sub.there | apply Sub.far)) (by rw [List.length_map, ofG_len]; rfl) (by rw [List.length_map, ofG_len]) ?_)
         refine ⟨⟨.of_mem (by simp), .of_mem (by simp)⟩, ?_⟩
         refine TD.done (by decide +kernel) ?_
         exact ⟨(b5, b6), _, _, trivial, (.cons rfl (.cons rfl .nil)), .nil, (by repeat (first | exact Take.nil | apply Take.one (by repeat (first | exact Pick.here | apply Pick.there | apply Pick.far)) | apply Take.seg (by repeat (first | exact PickS.last | exact PickS.one | exact PickS.here | exact PickS.nil | apply PickS.there | apply PickS.far)) | exact Take.last (by repeat (first | exact PickS.last | exact PickS.one | exact PickS.here | exact PickS.nil | apply PickS.there | apply PickS.far)))), rfl⟩
        ·
         refine ⟨⟨.of_mem (by simp), .of_mem (by simp)⟩, ?_⟩
         refine TK.one 11 (by decide +kernel) rfl rfl (T1.callX (X := [⟨b30, 0, k1.map byteV, 32⟩]) has_10 rfl (Of_any _ _ n1 [k1] [⟨b30, 0, k1.map byteV, 32⟩] (KeysR.one (by simp) hk1l) (by omega) (by simp)) (by repeat (first | exact Take.nil | apply Take.one (by repeat (first | exact Pick.here | apply Pick.there | apply Pick.far)) | apply Take.seg (by repeat (first | exact PickS.last | exact PickS.one | exact PickS.here | exact PickS.nil | apply PickS.there | apply PickS.far)) | exact Take.last (by repeat (first | exact PickS.last | exact PickS.one | exact PickS.here | exact PickS.nil | apply PickS.there | apply PickS.far)))) (fun v11 Y11 hY11 => ?_))
         obtain ⟨rfl, hzzY11⟩ := hY11
         rw [hzzY11, show ([k1] : List (List UInt8)).flatten = k1 from by simp]
         simp only [List.cons_append, List.nil_append]
         refine ⟨⟨.of_mem (by simp), .of_mem (by simp)⟩, ?_⟩
         refine TK.one 14 (by decide +kernel) rfl rfl (T1.storeN (vs := (ofG (ofH (n0 ++ k0) 16)).map u32V) rfl rfl sz_27 (ones_u32 _) (by repeat (first | exact Sub.one | apply Sub.there | apply Sub.far)) (by rw [List.length_map, ofG_len]; rfl) (by rw [List.length_map, ofG_len]) ?_)
         refine ⟨⟨.of_mem (by simp), .of_mem (by simp)⟩, ?_⟩
         refine TK.one 15 (by decide +kernel) rfl rfl (T1.storeN (vs := (ofG (ofH (n1 ++ k1) 16)).map u32V) rfl rfl sz_27 (ones_u32 _) (by repeat (first | exact Sub.one | apply Sub.there | apply Sub.far)) (by rw [List.length_map, ofG_len]; rfl) (by rw [List.length_map, ofG_len]) ?_)
         refine ⟨⟨.of_mem (by simp), .of_mem (by simp)⟩, ?_⟩
         refine TD.done (by decide +kernel) ?_
         exact ⟨(b5, b6), _, _, trivial, (.cons rfl (.cons rfl .nil)), .nil, (by repeat (first | exact Take.nil | apply Take.one (by repeat (first | exact Pick.here | apply Pick.there | apply Pick.far)) | apply Take.seg (by repeat (first | exact PickS.last | exact PickS.one | exact PickS.here | exact PickS.nil | apply PickS.there | apply PickS.far)) | exact Take.last (by repeat (first | exact PickS.last | exact PickS.one | exact PickS.here | exact PickS.nil | apply PickS.there | apply PickS.far)))), rfl⟩
       ·
        refine ⟨⟨.of_mem (by simp), .of_mem (by simp)⟩, ?_⟩
        refine TK.one 5 (by decide +kernel) rfl rfl (T1.callX (X := [⟨b24, 0, k0.map byteV, 32⟩]) has_10 rfl (Of_any _ _ n0 [k0] [⟨b24, 0, k0.map byteV, 32⟩] (KeysR.one (by simp) hk0l) (by omega) (by simp)) (by repeat (first | exact Take.nil | apply Take.one (by repeat (first | exact Pick.here | apply Pick.there | apply Pick.far)) | apply Take.seg (by repeat (first | exact PickS.last | exact PickS.one | exact PickS.here | exact PickS.nil | apply PickS.there | apply PickS.far)) | exact Take.last (by repeat (first | exact PickS.last | exact PickS.one | exact PickS.here | exact PickS.nil | apply PickS.there | apply PickS.far)))) (fun v5 Y5 hY5 => ?_))
        obtain ⟨rfl, hzzY5⟩ := hY5
        rw [hzzY5, show ([k0] : List (List UInt8)).flatten = k0 from by simp]
        simp only [List.cons_append, List.nil_append]
        refine ⟨⟨.of_mem (by simp), .of_mem (by simp)⟩, ?_⟩
        refine TK.one 11 (by decide +kernel) rfl rfl (T1.callX (X := [⟨b30, 0, k1.map byteV, 32⟩]) has_10 rfl (Of_any _ _ n1 [k1] [⟨b30, 0, k1.map byteV, 32⟩] (KeysR.one (by simp) hk1l) (by omega) (by simp)) (by repeat (first | exact Take.nil | apply Take.one (by repeat (first | exact Pick.here | apply Pick.there | apply Pick.far)) | apply Take.seg (by repeat (first | exact PickS.last | exact PickS.one | exact PickS.here | exact PickS.nil | apply PickS.there | apply PickS.far)) | exact Take.last (by repeat (first | exact PickS.last | exact PickS.one | exact PickS.here | exact PickS.nil | apply PickS.there | apply PickS.far)))) (fun v11 Y11 hY11 => ?_))
        obtain ⟨rfl, hzzY11⟩ := hY11
        rw [hzzY11, show ([k1] : List (List UInt8)).flatten = k1 from by simp]
        simp only [List.cons_append, List.nil_append]
        refine ⟨⟨.of_mem (by simp), .of_mem (by simp)⟩, ?_⟩
        refine TK.one 14 (by decide +kernel) rfl rfl (T1.storeN (vs := (ofG (ofH (n0 ++ k0) 16)).map u32V) rfl rfl sz_27 (ones_u32 _) (by repeat (first | exact Sub.one | apply Sub.there | apply Sub.far)) (by rw [List.length_map, ofG_len]; rfl) (by rw [List.length_map, ofG_len]) ?_)
        refine ⟨⟨.of_mem (by simp), .of_mem (by simp)⟩, ?_⟩
        refine TK.one 15 (by decide +kernel) rfl rfl (T1.storeN (vs := (ofG (ofH (n1 ++ k1) 16)).map u32V) rfl rfl sz_27 (ones_u32 _) (by repeat (first | exact Sub.one | apply Sub.there | apply Sub.far)) (by rw [List.length_map, ofG_len]; rfl) (by rw [List.length_map, ofG_len]) ?_)
        refine ⟨⟨.of_mem (by simp), .of_mem (by simp)⟩, ?_⟩
        refine TD.done (by decide +kernel) ?_
        exact ⟨(b5, b6), _, _, trivial, (.cons rfl (.cons rfl .nil)), .nil, (by repeat (first | exact Take.nil | apply Take.one (by repeat (first | exact Pick.here | apply Pick.there | apply Pick.far)) | apply Take.seg (by repeat (first | exact PickS.last | exact PickS.one | exact PickS.here | exact PickS.nil | apply PickS.there | apply PickS.far)) | exact Take.last (by repeat (first | exact PickS.last | exact PickS.one | exact PickS.here | exact PickS.nil | apply PickS.there | apply PickS.far)))), rfl⟩
     ·
      refine ⟨⟨.of_mem (by simp), .of_mem (by simp)⟩, ?_⟩
      refine TK.three 5 10 13 (by decide +kernel) rfl rfl rfl rfl rfl rfl (T1.callX (X := [⟨b24, 0, k0.map byteV, 32⟩]) has_10 rfl (Of_any _ _ n0 [k0] [⟨b24, 0, k0.map byteV, 32⟩] (KeysR.one (by simp) hk0l) (by omega) (by simp)) (by repeat (first | exact Take.nil | apply Take.one (by repeat (first | exact Pick.here | apply Pick.there | apply Pick.far)) | apply Take.seg (by repeat (first | exact PickS.last | exact PickS.one | exact PickS.here | exact PickS.nil | apply PickS.there | apply PickS.far)) | exact Take.last (by repeat (first | exact PickS.last | exact PickS.one | exact PickS.here | exact PickS.nil | apply PickS.there | apply PickS.far)))) (fun v5 Y5 hY5 => ?_)) (T1.buildSlN (os := [.tmp 29]) (vs := [.agg (k1.map byteV).toArray]) (vss := [k1.map byteV]) ty_24 sz_36 zr_36 (by decide) rfl (.cons rfl .nil) (by exact Aggs.cons rfl Aggs.nil) rfl (by intro l hl; obtain rfl := List.mem_singleton.1 hl; rw [List.length_map]; exact hk1l) (fun b30 => ?_)) (T1.allocN 6 zr_27 rfl (fun b6 => ?_))
      ·
       obtain ⟨rfl, hzzY5⟩ := hY5
       rw [hzzY5, show ([k0] : List (List UInt8)).flatten = k0 from by simp]
       simp only [List.cons_append, List.nil_append]
       refine ⟨⟨.of_mem (by simp), .of_mem (by simp)⟩, ?_⟩
       refine TK.two 10 13 (by decide +kernel) rfl rfl rfl rfl (T1.buildSlN (os := [.tmp 29]) (vs := [.agg (k1.map byteV).toArray]) (vss := [k1.map byteV]) ty_24 sz_36 zr_36 (by decide) rfl (.cons rfl .nil) (by exact Aggs.cons rfl Aggs.nil) rfl (by intro l hl; obtain rfl := List.mem_singleton.1 hl; rw [List.length_map]; exact hk1l) (fun b30 => ?_)) (T1.allocN 6 zr_27 rfl (fun b6 => ?_))
       ·
        simp only [List.flatten_cons, List.flatten_nil, List.append_nil, Nat.one_mul]
        refine ⟨⟨.of_mem (by simp), .of_mem (by simp)⟩, ?_⟩
        refine TK.two 11 13 (by decide +kernel) rfl rfl rfl rfl (T1.callX (X := [⟨b30, 0, k1.map byteV, 32⟩]) has_10 rfl (Of_any _ _ n1 [k1] [⟨b30, 0, k1.map byteV, 32⟩] (KeysR.one (by simp) hk1l) (by omega) (by simp)) (by repeat (first | exact Take.nil | apply Take.one (by repeat (first | exact Pick.here | apply Pick.there | apply Pick.far)) | apply Take.seg (by repeat (first | exact PickS.last | exact PickS.one | exact PickS.here | exact PickS.nil | apply PickS.there | apply PickS.far)) | exact Take.last (by repeat (first | exact PickS.last | exact PickS.one | exact PickS.here | exact PickS.nil | apply PickS.there | apply PickS.far)))) (fun v11 Y11 hY11 => ?_)) (T1.allocN 6 zr_27 rfl (fun b6 => ?_))
        ·
         obtain ⟨rfl, hzzY11⟩ := hY11
         rw [hzzY11, show ([k1] : List (List UInt8)).flatten = k1 from by simp]
         simp only [List.cons_append, List.nil_append]
         refine ⟨⟨.of_mem (by simp), .of_mem (by simp)⟩, ?_⟩
         refine TK.one 13 (by decide +kernel) rfl rfl (T1.allocN 6 zr_27 rfl (fun b6 => ?_))
         refine ⟨⟨.of_mem (by simp), .of_mem (by simp)⟩, ?_⟩
         refine TK.one 14 (by decide +kernel) rfl rfl (T1.storeN (vs := (ofG (ofH (n0 ++ k0) 16)).map u32V) rfl rfl sz_27 (ones_u32 _) (by repeat (first | exact Sub.one | apply Sub.there | apply Sub.far)) (by rw [List.length_map, ofG_len]; rfl) (by rw [List.length_map, ofG_len]) ?_)
         refine ⟨⟨.of_mem (by simp), .of_mem (by simp)⟩, ?_⟩
         refine TK.one 15 (by decide +kernel) rfl rfl (T1.storeN (vs := (ofG (ofH (n1 ++ k1) 16)).map u32V) rfl rfl sz_27 (ones_u32 _) (by repeat (first | exact Sub.one | apply Sub.there | apply Sub.far)) (by rw [List.length_map, ofG_len]; rfl) (by rw [List.length_map, ofG_len]) ?_)
         refine ⟨⟨.of_mem (by simp), .of_mem (by simp)⟩, ?_⟩
         refine TD.done (by decide +kernel) ?_
         exact ⟨(b5, b6), _, _, trivial, (.cons rfl (.cons rfl .nil)), .nil, (by repeat (first | exact Take.nil | apply Take.one (by repeat (first | exact Pick.here | apply Pick.there | apply Pick.far)) | apply Take.seg (by repeat (first | exact PickS.last | exact PickS.one | exact PickS.here | exact PickS.nil | apply PickS.there | apply PickS.far)) | exact Take.last (by repeat (first | exact PickS.last | exact PickS.one | exact PickS.here | exact PickS.nil | apply PickS.there | apply PickS.far)))), rfl⟩
        ·
         refine ⟨⟨.of_mem (by simp), .of_mem (by simp)⟩, ?_⟩
         refine TK.one 11 (by decide +kernel) rfl rfl (T1.callX (X := [⟨b30, 0, k1.map byteV, 32⟩]) has_10 rfl (Of_any _ _ n1 [k1] [⟨b30, 0, k1.map byteV, 32⟩] (KeysR.one (by simp) hk1l) (by omega) (by simp)) (by repeat (first | exact Take.nil | apply Take.one (by repeat (first | exact Pick.here | apply Pick.there | apply Pick.far)) | apply Take.seg (by repeat (first | exact PickS.last | exact PickS.one | exact PickS.here | exact PickS.nil | apply PickS.there | apply PickS.far)) | exact Take.last (by repeat (first | exact PickS.last | exact PickS.one | exact PickS.here | exact PickS.nil | apply PickS.there | apply PickS.far)))) (fun v11 Y11 hY11 => ?_))
         obtain ⟨rfl, hzzY11⟩ := hY11
         rw [hzzY11, show ([k1] : List (List UInt8)).flatten = k1 from by simp]
         simp only [List.cons_append, List.nil_append]
         refine ⟨⟨.of_mem (by simp), .of_mem (by simp)⟩, ?_⟩
         refine TK.one 14 (by decide +kernel) rfl rfl (T1.storeN (vs := (ofG (ofH (n0 ++ k0) 16)).map u32V) rfl rfl sz_27 (ones_u32 _) (by repeat (first | exact Sub.one | apply Sub.there | apply Sub.far)) (by rw [List.length_map, ofG_len]; rfl) (by rw [List.length_map, ofG_len]) ?_)
         refine ⟨⟨.of_mem (by simp), .of_mem (by simp)⟩, ?_⟩
         refine TK.one 15 (by decide +kernel) rfl rfl (T1.storeN (vs := (ofG (ofH (n1 ++ k1) 16)).map u32V) rfl rfl sz_27 (ones_u32 _) (by repeat (first | exact Sub.one | apply Sub.there | apply Sub.far)) (by rw [List.length_map, ofG_len]; rfl) (by rw [List.length_map, ofG_len]) ?_)
         refine ⟨⟨.of_mem (by simp), .of_mem (by simp)⟩, ?_⟩
         refine TD.done (by decide +kernel) ?_
         exact ⟨(b5, b6), _, _, trivial, (.cons rfl (.cons rfl .nil)), .nil, (by repeat (first | exact Take.nil | apply Take.one (by repeat (first | exact Pick.here | apply Pick.there | apply Pick.far)) | apply Take.seg (by repeat (first | exact PickS.last | exact PickS.one | exact PickS.here | exact PickS.nil | apply PickS.there | apply PickS.far)) | exact Take.last (by repeat (first | exact PickS.last | exact PickS.one | exact PickS.here | exact PickS.nil | apply PickS.there | apply PickS.far)))), rfl⟩
       ·
        refine ⟨⟨.of_mem (by simp), .of_mem (by simp)⟩, ?_⟩
        refine TK.one 10 (by decide +kernel) rfl rfl (T1.buildSlN (os := [.tmp 29]) (vs := [.agg (k1.map byteV).toArray]) (vss := [k1.map byteV]) ty_24 sz_36 zr_36 (by decide) rfl (.cons rfl .nil) (by exact Aggs.cons rfl Aggs.nil) rfl (by intro l hl; obtain rfl := List.mem_singleton.1 hl; rw [List.length_map]; exact hk1l) (fun b30 => ?_))
        simp only [List.flatten_cons, List.flatten_nil, List.append_nil, Nat.one_mul]
        refine ⟨⟨.of_mem (by simp), .of_mem (by simp)⟩, ?_⟩
        refine TK.one 11 (by decide +kernel) rfl rfl (T1.callX (X := [⟨b30, 0, k1.map byteV, 32⟩]) has_10 rfl (Of_any _ _ n1 [k1] [⟨b30, 0, k1.map byteV, 32⟩] (KeysR.one (by simp) hk1l) (by omega) (by simp)) (by repeat (first | exact Take.nil | apply Take.one (by repeat (first | exact Pick.here | apply Pick.there | apply Pick.far)) | apply Take.seg (by repeat (first | exact PickS.last | exact PickS.one | exact PickS.here | exact PickS.nil | apply PickS.there | apply PickS.far)) | exact Take.last (by repeat (first | exact PickS.last | exact PickS.one | exact PickS.here | exact PickS.nil | apply PickS.there | apply PickS.far)))) (fun v11 Y11 hY11 => ?_))
        obtain ⟨rfl, hzzY11⟩ := hY11
        rw [hzzY11, show ([k1] : List (List UInt8)).flatten = k1 from by simp]
        simp only [List.cons_append, List.nil_append]
        refine ⟨⟨.of_mem (by simp), .of_mem (by simp)⟩, ?_⟩
        refine TK.one 14 (by decide +kernel) rfl rfl (T1.storeN (vs := (ofG (ofH (n0 ++ k0) 16)).map u32V) rfl rfl sz_27 (ones_u32 _) (by repeat (first | exact Sub.one | apply Sub.there | apply Sub.far)) (by rw [List.length_map, ofG_len]; rfl) (by rw [List.length_map, ofG_len]) ?_)
        refine ⟨⟨.of_mem (by simp), .of_mem (by simp)⟩, ?_⟩
        refine TK.one 15 (by decide +kernel) rfl rfl (T1.storeN (vs := (ofG (ofH (n1 ++ k1) 16)).map u32V) rfl rfl sz_27 (ones_u32 _) (by repeat (first | exact Sub.one | apply Sub.there | apply Sub.far)) (by rw [List.length_map, ofG_len]; rfl) (by rw [List.length_map, ofG_len]) ?_)
        refine ⟨⟨.of_mem (by simp), .of_mem (by simp)⟩, ?_⟩
        refine TD.done (by decide +kernel) ?_
        exact ⟨(b5, b6), _, _, trivial, (.cons rfl (.cons rfl .nil)), .nil, (by repeat (first | exact Take.nil | apply Take.one (by repeat (first | exact Pick.here | apply Pick.there | apply Pick.far)) | apply Take.seg (by repeat (first | exact PickS.last | exact PickS.one | exact PickS.here | exact PickS.nil | apply PickS.there | apply PickS.far)) | exact Take.last (by repeat (first | exact PickS.last | exact PickS.one | exact PickS.here | exact PickS.nil | apply PickS.there | apply PickS.far)))), rfl⟩
      ·
       simp only [List.flatten_cons, List.flatten_nil, List.append_nil, Nat.one_mul]
       refine ⟨⟨.of_mem (by simp), .of_mem (by simp)⟩, ?_⟩
       refine TK.two 5 13 (by decide +kernel) rfl rfl rfl rfl (T1.callX (X := [⟨b24, 0, k0.map byteV, 32⟩]) has_10 rfl (Of_any _ _ n0 [k0] [⟨b24, 0, k0.map byteV, 32⟩] (KeysR.one (by simp) hk0l) (by omega) (by simp)) (by repeat (first | exact Take.nil | apply Take.one (by repeat (first | exact Pick.here | apply Pick.there | apply Pick.far)) | apply Take.seg (by repeat (first | exact PickS.last | exact PickS.one | exact PickS.here | exact PickS.nil | apply PickS.there | apply PickS.far)) | exact Take.last (by repeat (first | exact PickS.last | exact PickS.one | exact PickS.here | exact PickS.nil | apply PickS.there | apply PickS.far)))) (fun v5 Y5 hY5 => ?_)) (T1.allocN 6 zr_27 rfl (fun b6 => ?_))
       ·
        obtain ⟨rfl, hzzY5⟩ := hY5
        rw [hzzY5, show ([k0] : List (List UInt8)).flatten = k0 from by simp]
        simp only [List.cons_append, List.nil_append]
        refine ⟨⟨.of_mem (by simp), .of_mem (by simp)⟩, ?_⟩
        refine TK.two 11 13 (by decide +kernel) rfl rfl rfl rfl (T1.callX (X := [⟨b30, 0, k1.map byteV, 32⟩]) has_10 rfl (Of_any _ _ n1 [k1] [⟨b30, 0, k1.map byteV, 32⟩] (KeysR.one (by simp) hk1l) (by omega) (by simp)) (by repeat (first | exact Take.nil | apply Take.one (by repeat (first | exact Pick.here | apply Pick.there | apply Pick.far)) | apply Take.seg (by repeat (first | exact PickS.last | exact PickS.one | exact PickS.here | exact PickS.nil | apply PickS.there | apply PickS.far)) | exact Take.last (by repeat (first | exact PickS.last | exact PickS.one | exact PickS.here | exact PickS.nil | apply PickS.there | apply PickS.far)))) (fun v11 Y11 hY11 => ?_)) (T1.allocN 6 zr_27 rfl (fun b6 => ?_))
        ·
         obtain ⟨rfl, hzzY11⟩ := hY11
         rw [hzzY11, show ([k1] : List (List UInt8)).flatten = k1 from by simp]
         simp only [List.cons_append, List.nil_append]
         refine ⟨⟨.of_mem (by simp), .of_mem (by simp)⟩, ?_⟩
         refine TK.one 13 (by decide +kernel) rfl rfl (T1.allocN 6 zr_27 rfl (fun b6 => ?_))
         refine ⟨⟨.of_mem (by simp), .of_mem (by simp)⟩, ?_⟩
         refine TK.one 14 (by decide +kernel) rfl rfl (T1.storeN (vs := (ofG (ofH (n0 ++ k0) 16)).map u32V) rfl rfl sz_27 (ones_u32 _) (by repeat (first | exact Sub.one | apply Sub.there | apply Sub.far)) (by rw [List.length_map, ofG_len]; rfl) (by rw [List.length_map, ofG_len]) ?_)
         refine ⟨⟨.of_mem (by simp), .of_mem (by simp)⟩, ?_⟩
         refine TK.one 15 (by decide +kernel) rfl rfl (T1.storeN (vs := (ofG (ofH (n1 ++ k1) 16)).map u32V) rfl rfl sz_27 (ones_u32 _) (by repeat (first | exact Sub.one | apply Sub.there | apply Sub.far)) (by rw [List.length_map, ofG_len]; rfl) (by rw [List.length_map, ofG_len]) ?_)
         refine ⟨⟨.of_mem (by simp), .of_mem (by simp)⟩, ?_⟩
         refine TD.done (by decide +kernel) ?_
         exact ⟨(b5, b6), _, _, trivial, (.cons rfl (.cons rfl .nil)), .nil, (by repeat (first | exact Take.nil | apply Take.one (by repeat (first | exact Pick.here | apply Pick.there | apply Pick.far)) | apply Take.seg (by repeat (first | exact PickS.last | exact PickS.one | exact PickS.here | exact PickS.nil | apply PickS.there | apply PickS.far)) | exact Take.last (by repeat (first | exact PickS.last | exact PickS.one | exact PickS.here | exact PickS.nil | apply PickS.there | apply PickS.far)))), rfl⟩
        ·
         refine ⟨⟨.of_mem (by simp), .of_mem (by simp)⟩, ?_⟩
         refine TK.one 11 (by decide +kernel) rfl rfl (T1.callX (X := [⟨b30, 0, k1.map byteV, 32⟩]) has_10 rfl (Of_any _ _ n1 [k1] [⟨b30, 0, k1.map byteV, 32⟩] (KeysR.one (by simp) hk1l) (by omega) (by simp)) (by repeat (first | exact Take.nil | apply Take.one (by repeat (first | exact Pick.here | apply Pick.there | apply Pick.far)) | apply Take.seg (by repeat (first | exact PickS.last | exact PickS.one | exact PickS.here | exact PickS.nil | apply PickS.there | apply PickS.far)) | exact Take.last (by repeat (first | exact PickS.last | exact PickS.one | exact PickS.here | exact PickS.nil | apply PickS.there | apply PickS.far)))) (fun v11 Y11 hY11 => ?_))
         obtain ⟨rfl, hzzY11⟩ := hY11
         rw [hzzY11, show ([k1] : List (List UInt8)).flatten = k1 from by simp]
         simp only [List.cons_append, List.nil_append]
         refine ⟨⟨.of_mem (by simp), .of_mem (by simp)⟩, ?_⟩
         refine TK.one 14 (by decide +kernel) rfl rfl (T1.storeN (vs := (ofG (ofH (n0 ++ k0) 16)).map u32V) rfl rfl sz_27 (ones_u32 _) (by repeat (first | exact Sub.one | apply Sub.there | apply Sub.far)) (by rw [List.length_map, ofG_len]; rfl) (by rw [List.length_map, ofG_len]) ?_)
         refine ⟨⟨.of_mem (by simp), .of_mem (by simp)⟩, ?_⟩
         refine TK.one 15 (by decide +kernel) rfl rfl (T1.storeN (vs := (ofG (ofH (n1 ++ k1) 16)).map u32V) rfl rfl sz_27 (ones_u32 _) (by repeat (first | exact Sub.one | apply Sub.there | apply Sub.far)) (by rw [List.length_map, ofG_len]; rfl) (by rw [List.length_map, ofG_len]) ?_)
         refine ⟨⟨.of_mem (by simp), .of_mem (by simp)⟩, ?_⟩
         refine TD.done (by decide +kernel) ?_
         exact ⟨(b5, b6), _, _, trivial, (.cons rfl (.cons rfl .nil)), .nil, (by repeat (first | exact Take.nil | apply Take.one (by repeat (first | exact Pick.here | apply Pick.there | apply Pick.far)) | apply Take.seg (by repeat (first | exact PickS.last | exact PickS.one | exact PickS.here | exact PickS.nil | apply PickS.there | apply PickS.far)) | exact Take.last (by repeat (first | exact PickS.last | exact PickS.one | exact PickS.here | exact PickS.nil | apply PickS.there | apply PickS.far)))), rfl⟩
       ·
        refine ⟨⟨.of_mem (by simp), .of_mem (by simp)⟩, ?_⟩
        refine TK.one 5 (by decide +kernel) rfl rfl (T1.callX (X := [⟨b24, 0, k0.map byteV, 32⟩]) has_10 rfl (Of_any _ _ n0 [k0] [⟨b24, 0, k0.map byteV, 32⟩] (KeysR.one (by simp) hk0l) (by omega) (by simp)) (by repeat (first | exact Take.nil | apply Take.one (by repeat (first | exact Pick.here | apply Pick.there | apply Pick.far)) | apply Take.seg (by repeat (first | exact PickS.last | exact PickS.one | exact PickS.here | exact PickS.nil | apply PickS.there | apply PickS.far)) | exact Take.last (by repeat (first | exact PickS.last | exact PickS.one | exact PickS.here | exact PickS.nil | apply PickS.there | apply PickS.far)))) (fun v5 Y5 hY5 => ?_))
        obtain ⟨rfl, hzzY5⟩ := hY5
        rw [hzzY5, show ([k0] : List (List UInt8)).flatten = k0 from by simp]
        simp only [List.cons_append, List.nil_append]
        refine ⟨⟨.of_mem (by simp), .of_mem (by simp)⟩, ?_⟩
        refine TK.one 11 (by decide +kernel) rfl rfl (T1.callX (X := [⟨b30, 0, k1.map byteV, 32⟩]) has_10 rfl (Of_any _ _ n1 [k1] [⟨b30, 0, k1.map byteV, 32⟩] (KeysR.one (by simp) hk1l) (by omega) (by simp)) (by repeat (first | exact Take.nil | apply Take.one (by repeat (first | exact Pick.here | apply Pick.there | apply Pick.far)) | apply Take.seg (by repeat (first | exact PickS.last | exact PickS.one | exact PickS.here | exact PickS.nil | apply PickS.there | apply PickS.far)) | exact Take.last (by repeat (first | exact PickS.last | exact PickS.one | exact PickS.here | exact PickS.nil | apply PickS.there | apply PickS.far)))) (fun v11 Y11 hY11 => ?_))
        obtain ⟨rfl, hzzY11⟩ := hY11
        rw [hzzY11, show ([k1] : List (List UInt8)).flatten = k1 from by simp]
        simp only [List.cons_append, List.nil_append]
        refine ⟨⟨.of_mem (by simp), .of_mem (by simp)⟩, ?_⟩
        refine TK.one 14 (by decide +kernel) rfl rfl (T1.storeN (vs := (ofG (ofH (n0 ++ k0) 16)).map u32V) rfl rfl sz_27 (ones_u32 _) (by repeat (first | exact Sub.one | apply Sub.there | apply Sub.far)) (by rw [List.length_map, ofG_len]; rfl) (by rw [List.length_map, ofG_len]) ?_)
        refine ⟨⟨.of_mem (by simp), .of_mem (by simp)⟩, ?_⟩
        refine TK.one 15 (by decide +kernel) rfl rfl (T1.storeN (vs := (ofG (ofH (n1 ++ k1) 16)).map u32V) rfl rfl sz_27 (ones_u32 _) (by repeat (first | exact Sub.one | apply Sub.there | apply Sub.far)) (by rw [List.length_map, ofG_len]; rfl) (by rw [List.length_map, ofG_len]) ?_)
        refine ⟨⟨.of_mem (by simp), .of_mem (by simp)⟩, ?_⟩
        refine TD.done (by decide +kernel) ?_
        exact ⟨(b5, b6), _, _, trivial, (.cons rfl (.cons rfl .nil)), .nil, (by repeat (first | exact Take.nil | apply Take.one (by repeat (first | exact Pick.here | apply Pick.there | apply Pick.far)) | apply Take.seg (by repeat (first | exact PickS.last | exact PickS.one | exact PickS.here | exact PickS.nil | apply PickS.there | apply PickS.far)) | exact Take.last (by repeat (first | exact PickS.last | exact PickS.one | exact PickS.here | exact PickS.nil | apply PickS.there | apply PickS.far)))), rfl⟩
      ·
       refine ⟨⟨.of_mem (by simp), .of_mem (by simp)⟩, ?_⟩
       refine TK.two 5 10 (by decide +kernel) rfl rfl rfl rfl (T1.callX (X := [⟨b24, 0, k0.map byteV, 32⟩]) has_10 rfl (Of_any _ _ n0 [k0] [⟨b24, 0, k0.map byteV, 32⟩] (KeysR.one (by simp) hk0l) (by omega) (by simp)) (by repeat (first | exact Take.nil | apply Take.one (by repeat (first | exact Pick.here | apply Pick.there | apply Pick.far)) | apply Take.seg (by repeat (first | exact PickS.last | exact PickS.one | exact PickS.here | exact PickS.nil | apply PickS.there | apply PickS.far)) | exact Take.last (by repeat (first | exact PickS.last | exact PickS.one | exact PickS.here | exact PickS.nil | apply PickS.there | apply PickS.far)))) (fun v5 Y5 hY5 => ?_)) (T1.buildSlN (os := [.tmp 29]) (vs := [.agg (k1.map byteV).toArray]) (vss := [k1.map byteV]) ty_24 sz_36 zr_36 (by decide) rfl (.cons rfl .nil) (by exact Aggs.cons rfl Aggs.nil) rfl (by intro l hl; obtain rfl := List.mem_singleton.1 hl; rw [List.length_map]; exact hk1l) (fun b30 => ?_))
       ·
        obtain ⟨rfl, hzzY5⟩ := hY5
        rw [hzzY5, show ([k0] : List (List UInt8)).flatten = k0 from by simp]
        simp only [List.cons_append, List.nil_append]
        refine ⟨⟨.of_mem (by simp), .of_mem (by simp)⟩, ?_⟩
        refine TK.one 10 (by decide +kernel) rfl rfl (T1.buildSlN (os := [.tmp 29]) (vs := [.agg (k1.map byteV).toArray]) (vss := [k1.map byteV]) ty_24 sz_36 zr_36 (by decide) rfl (.cons rfl .nil) (by exact Aggs.cons rfl Aggs.nil) rfl (by intro l hl; obtain rfl := List.mem_singleton.1 hl; rw [List.length_map]; exact hk1l) (fun b30 => ?_))
        simp only [List.flatten_cons, List.flatten_nil, List.append_nil, Nat.one_mul]
        refine ⟨⟨.of_mem (by simp), .of_mem (by simp)⟩, ?_⟩
        refine TK.one 11 (by decide +kernel) rfl rfl (T1.callX (X := [⟨b30, 0, k1.map byteV, 32⟩]) has_10 rfl (Of_any _ _ n1 [k1] [⟨b30, 0, k1.map byteV, 32⟩] (KeysR.one (by simp) hk1l) (by omega) (by simp)) (by repeat (first | exact Take.nil | apply Take.one (by repeat (first | exact Pick.here | apply Pick.there | apply Pick.far)) | apply Take.seg (by repeat (first | exact PickS.last | exact PickS.one | exact PickS.here | exact PickS.nil | apply PickS.there | apply PickS.far)) | exact Take.last (by repeat (first | exact PickS.last | exact PickS.one | exact PickS.here | exact PickS.nil | apply PickS.there | apply PickS.far)))) (fun v11 Y11 hY11 => ?_))
        obtain ⟨rfl, hzzY11⟩ := hY11
        rw [hzzY11, show ([k1] : List (List UInt8)).flatten = k1 from by simp]
        simp only [List.cons_append, List.nil_append]
        refine ⟨⟨.of_mem (by simp), .of_mem (by simp)⟩, ?_⟩
        refine TK.one 14 (by decide +kernel) rfl rfl (T1.storeN (vs := (ofG (ofH (n0 ++ k0) 16)).map u32V) rfl rfl sz_27 (ones_u32 _) (by repeat (first | exact Sub.one | apply Sub.there | apply Sub.far)) (by rw [List.length_map, ofG_len]; rfl) (by rw [List.length_map, ofG_len]) ?_)
        refine ⟨⟨.of_mem (by simp), .of_mem (by simp)⟩, ?_⟩
        refine TK.one 15 (by decide +kernel) rfl rfl (T1.storeN (vs := (ofG (ofH (n1 ++ k1) 16)).map u32V) rfl rfl sz_27 (ones_u32 _) (by repeat (first | exact Sub.one | apply Sub.there | apply Sub.far)) (by rw [List.length_map, ofG_len]; rfl) (by rw [List.length_map, ofG_len]) ?_)
        refine ⟨⟨.of_mem (by simp), .of_mem (by simp)⟩, ?_⟩
        refine TD.done (by decide +kernel) ?_
        exact ⟨(b5, b6), _, _, trivial, (.cons rfl (.cons rfl .nil)), .nil, (by repeat (first | exact Take.nil | apply Take.one (by repeat (first | exact Pick.here | apply Pick.there | apply Pick.far)) | apply Take.seg (by repeat (first | exact PickS.last | exact PickS.one | exact PickS.here | exact PickS.nil | apply PickS.there | apply PickS.far)) | exact Take.last (by repeat (first | exact PickS.last | exact PickS.one | exact PickS.here | exact PickS.nil | apply PickS.there | apply PickS.far)))), rfl⟩
       ·
        simp only [List.flatten_cons, List.flatten_nil, List.append_nil, Nat.one_mul]
        refine ⟨⟨.of_mem (by simp), .of_mem (by simp)⟩, ?_⟩
        refine TK.one 5 (by decide +kernel) rfl rfl (T1.callX (X := [⟨b24, 0, k0.map byteV, 32⟩]) has_10 rfl (Of_any _ _ n0 [k0] [⟨b24, 0, k0.map byteV, 32⟩] (KeysR.one (by simp) hk0l) (by omega) (by simp)) (by repeat (first | exact Take.nil | apply Take.one (by repeat (first | exact Pick.here | apply Pick.there | apply Pick.far)) | apply Take.seg (by repeat (first | exact PickS.last | exact PickS.one | exact PickS.here | exact PickS.nil | apply PickS.there | apply PickS.far)) | exact Take.last (by repeat (first | exact PickS.last | exact PickS.one | exact PickS.here | exact PickS.nil | apply PickS.there | apply PickS.far)))) (fun v5 Y5 hY5 => ?_))
        obtain ⟨rfl, hzzY5⟩ := hY5
        rw [hzzY5, show ([k0] : List (List UInt8)).flatten = k0 from by simp]
        simp only [List.cons_append, List.nil_append]
        refine ⟨⟨.of_mem (by simp), .of_mem (by simp)⟩, ?_⟩
        refine TK.one 11 (by decide +kernel) rfl rfl (T1.callX (X := [⟨b30, 0, k1.map byteV, 32⟩]) has_10 rfl (Of_any _ _ n1 [k1] [⟨b30, 0, k1.map byteV, 32⟩] (KeysR.one (by simp) hk1l) (by omega) (by simp)) (by repeat (first | exact Take.nil | apply Take.one (by repeat (first | exact Pick.here | apply Pick.there | apply Pick.far)) | apply Take.seg (by repeat (first | exact PickS.last | exact PickS.one | exact PickS.here | exact PickS.nil | apply PickS.there | apply PickS.far)) | exact Take.last (by repeat (first | exact PickS.last | exact PickS.one | exact PickS.here | exact PickS.nil | apply PickS.there | apply PickS.far)))) (fun v11 Y11 hY11 => ?_))
        obtain ⟨rfl, hzzY11⟩ := hY11
        rw [hzzY11, show ([k1] : List (List UInt8)).flatten = k1 from by simp]
        simp only [List.cons_append, List.nil_append]
        refine ⟨⟨.of_mem (by simp), .of_mem (by simp)⟩, ?_⟩
        refine TK.one 14 (by decide +kernel) rfl rfl (T1.storeN (vs := (ofG (ofH (n0 ++ k0) 16)).map u32V) rfl rfl sz_27 (ones_u32 _) (by repeat (first | exact Sub.one | apply Sub.there | apply Sub.far)) (by rw [List.length_map, ofG_len]; rfl) (by rw [List.length_map, ofG_len]) ?_)
        refine ⟨⟨.of_mem (by simp), .of_mem (by simp)⟩, ?_⟩
        refine TK.one 15 (by decide +kernel) rfl rfl (T1.storeN (vs := (ofG (ofH (n1 ++ k1) 16)).map u32V) rfl rfl sz_27 (ones_u32 _) (by repeat (first | exact Sub.one | apply Sub.there | apply Sub.far)) (by rw [List.length_map, ofG_len]; rfl) (by rw [List.length_map, ofG_len]) ?_)
        refine ⟨⟨.of_mem (by simp), .of_mem (by simp)⟩, ?_⟩
        refine TD.done (by decide +kernel) ?_
        exact ⟨(b5, b6), _, _, trivial, (.cons rfl (.cons rfl .nil)), .nil, (by repeat (first | exact Take.nil | apply Take.one (by repeat (first | exact Pick.here | apply Pick.there | apply Pick.far)) | apply Take.seg (by repeat (first | exact PickS.last | exact PickS.one | exact PickS.here | exact PickS.nil | apply PickS.there | apply PickS.far)) | exact Take.last (by repeat (first | exact PickS.last | exact PickS.one | exact PickS.here | exact PickS.nil | apply PickS.there | apply PickS.far)))), rfl⟩
     ·
      refine ⟨⟨.of_mem (by simp), .of_mem (by simp)⟩, ?_⟩
      refine TK.three 5 10 12 (by decide +kernel) rfl rfl rfl rfl rfl rfl (T1.callX (X := [⟨b24, 0, k0.map byteV, 32⟩]) has_10 rfl (Of_any _ _ n0 [k0] [⟨b24, 0, k0.map byteV, 32⟩] (KeysR.one (by simp) hk0l) (by omega) (by simp)) (by repeat (first | exact Take.nil | apply Take.one (by repeat (first | exact Pick.here | apply Pick.there | apply Pick.far)) | apply Take.seg (by repeat (first | exact PickS.last | exact PickS.one | exact PickS.here | exact PickS.nil | apply PickS.there | apply PickS.far)) | exact Take.last (by repeat (first | exact PickS.last | exact PickS.one | exact PickS.here | exact PickS.nil | apply PickS.there | apply PickS.far)))) (fun v5 Y5 hY5 => ?_)) (T1.buildSlN (os := [.tmp 29]) (vs := [.agg (k1.map byteV).toArray]) (vss := [k1.map byteV]) ty_24 sz_36 zr_36 (by decide) rfl (.cons rfl .nil) (by exact Aggs.cons rfl Aggs.nil) rfl (by intro l hl; obtain rfl := List.mem_singleton.1 hl; rw [List.length_map]; exact hk1l) (fun b30 => ?_)) (T1.allocN 6 zr_27 rfl (fun b5 => ?_))
      ·
       obtain ⟨rfl, hzzY5⟩ := hY5
       rw [hzzY5, show ([k0] : List (List UInt8)).flatten = k0 from by simp]
       simp only [List.cons_append, List.nil_append]
       refine ⟨⟨.of_mem (by simp), .of_mem (by simp)⟩, ?_⟩
       refine TK.two 10 12 (by decide +kernel) rfl rfl rfl rfl (T1.buildSlN (os := [.tmp 29]) (vs := [.agg (k1.map byteV).toArray]) (vss := [k1.map byteV]) ty_24 sz_36 zr_36 (by decide) rfl (.cons rfl .nil) (by exact Aggs.cons rfl Aggs.nil) rfl (by intro l hl; obtain rfl := List.mem_singleton.1 hl; rw [List.length_map]; exact hk1l) (fun b30 => ?_)) (T1.allocN 6 zr_27 rfl (fun b5 => ?_))
       ·
        simp only [List.flatten_cons, List.flatten_nil, List.append_nil, Nat.one_mul]
        refine ⟨⟨.of_mem (by simp), .of_mem (by simp)⟩, ?_⟩
        refine TK.two 11 12 (by decide +kernel) rfl rfl rfl rfl (T1.callX (X := [⟨b30, 0, k1.map byteV, 32⟩]) has_10 rfl (Of_any _ _ n1 [k1] [⟨b30, 0, k1.map byteV, 32⟩] (KeysR.one (by simp) hk1l) (by omega) (by simp)) (by repeat (first | exact Take.nil | apply Take.one (by repeat (first | exact Pick.here | apply Pick.there | apply Pick.far)) | apply Take.seg (by repeat (first | exact PickS.last | exact PickS.one | exact PickS.here | exact PickS.nil | apply PickS.there | apply PickS.far)) | exact Take.last (by repeat (first | exact PickS.last | exact PickS.one | exact PickS.here | exact PickS.nil | apply PickS.there | apply PickS.far)))) (fun v11 Y11 hY11 => ?_)) (T1.allocN 6 zr_27 rfl (fun b5 => ?_))
        ·
         obtain ⟨rfl, hzzY11⟩ := hY11
         rw [hzzY11, show ([k1] : List (List UInt8)).flatten = k1 from by simp]
         simp only [List.cons_append, List.nil_append]
         refine ⟨⟨.of_mem (by simp), .of_mem (by simp)⟩, ?_⟩
         refine TK.one 12 (by decide +kernel) rfl rfl (T1.allocN 6 zr_27 rfl (fun b5 => ?_))
         refine ⟨⟨.of_mem (by simp), .of_mem (by simp)⟩, ?_⟩
         refine TK.one 14 (by decide +kernel) rfl rfl (T1.storeN (vs := (ofG (ofH (n0 ++ k0) 16)).map u32V) rfl rfl sz_27 (ones_u32 _) (by repeat (first | exact Sub.one | apply Sub.there | apply Sub.far)) (by rw [List.length_map, ofG_len]; rfl) (by rw [List.length_map, ofG_len]) ?_)
         refine ⟨⟨.of_mem (by simp), .of_mem (by simp)⟩, ?_⟩
         refine TK.one 15 (by decide +kernel) rfl rfl (T1.storeN (vs := (ofG (ofH (n1 ++ k1) 16)).map u32V) rfl rfl sz_27 (ones_u32 _) (by repeat (first | exact Sub.one | apply Sub.there | apply Sub.far)) (by rw [List.length_map, ofG_len]; rfl) (by rw [List.length_map, ofG_len]) ?_)
         refine ⟨⟨.of_mem (by simp), .of_mem (by simp)⟩, ?_⟩
         refine TD.done (by decide +kernel) ?_
         exact ⟨(b5, b6), _, _, trivial, (.cons rfl (.cons rfl .nil)), .nil, (by repeat (first | exact Take.nil | apply Take.one (by repeat (first | exact Pick.here | apply Pick.there | apply Pick.far)) | apply Take.seg (by repeat (first | exact PickS.last | exact PickS.one | exact PickS.here | exact PickS.nil | apply PickS.there | apply PickS.far)) | exact Take.last (by repeat (first | exact PickS.last | exact PickS.one | exact PickS.here | exact PickS.nil | apply PickS.there | apply PickS.far)))), rfl⟩
        ·
         refine ⟨⟨.of_mem (by simp), .of_mem (by simp)⟩, ?_⟩
         refine TK.one 11 (by decide +kernel) rfl rfl (T1.callX (X := [⟨b30, 0, k1.map byteV, 32⟩]) has_10 rfl (Of_any _ _ n1 [k1] [⟨b30, 0, k1.map byteV, 32⟩] (KeysR.one (by simp) hk1l) (by omega) (by simp)) (by repeat (first | exact Take.nil | apply Take.one (by repeat (first | exact Pick.here | apply Pick.there | apply Pick.far)) | apply Take.seg (by repeat (first | exact PickS.last | exact PickS.one | exact PickS.here | exact PickS.nil | apply PickS.there | apply PickS.far)) | exact Take.last (by repeat (first | exact PickS.last | exact PickS.one | exact PickS.here | exact PickS.nil | apply PickS.there | apply PickS.far)))) (fun v11 Y11 hY11 => ?_))
         obtain ⟨rfl, hzzY11⟩ := hY11
         rw [hzzY11, show ([k1] : List (List UInt8)).flatten = k1 from by simp]
         simp only [List.cons_append, List.nil_append]
         refine ⟨⟨.of_mem (by simp), .of_mem (by simp)⟩, ?_⟩
         refine TK.one 14 (by decide +kernel) rfl rfl (T1.storeN (vs := (ofG (ofH (n0 ++ k0) 16)).map u32V) rfl rfl sz_27 (ones_u32 _) (by repeat (first | exact Sub.one | apply Sub.there | apply Sub.far)) (by rw [List.length_map, ofG_len]; rfl) (by rw [List.length_map, ofG_len]) ?_)
         refine ⟨⟨.of_mem (by simp), .of_mem (by simp)⟩, ?_⟩
         refine TK.one 15 (by decide +kernel) rfl rfl (T1.storeN (vs := (ofG (ofH (n1 ++ k1) 16)).map u32V) rfl rfl sz_27 (ones_u32 _) (by repeat (first | exact Sub.one | apply Sub.there | apply Sub.far)) (by rw [List.length_map, ofG_len]; rfl) (by rw [List.length_map, ofG_len]) ?_)
         refine ⟨⟨.of_mem (by simp), .of_mem (by simp)⟩, ?_⟩
         refine TD.done (by decide +kernel) ?_
         exact ⟨(b5, b6), _, _, trivial, (.cons rfl (.cons rfl .nil)), .nil, (by repeat (first | exact Take.nil | apply Take.one (by repeat (first | exact Pick.here | apply Pick.there | apply Pick.far)) | apply Take.seg (by repeat (first | exact PickS.last | exact PickS.one | exact PickS.here | exact PickS.nil | apply PickS.there | apply PickS.far)) | exact Take.last (by repeat (first | exact PickS.last | exact PickS.one | exact PickS.here | exact PickS.nil | apply PickS.there | apply PickS.far)))), rfl⟩
       ·
        refine ⟨⟨.of_mem (by simp), .of_mem (by simp)⟩, ?_⟩
        refine TK.one 10 (by decide +kernel) rfl rfl (T1.buildSlN (os := [.tmp 29]) (vs := [.agg (k1.map byteV).toArray]) (vss := [k1.map byteV]) ty_24 sz_36 zr_36 (by decide) rfl (.cons rfl .nil) (by exact Aggs.cons rfl Aggs.nil) rfl (by intro l hl; obtain rfl := List.mem_singleton.1 hl; rw [List.length_map]; exact hk1l) (fun b30 => ?_))
        simp only [List.flatten_cons, List.flatten_nil, List.append_nil, Nat.one_mul]
        refine ⟨⟨.of_mem (by simp), .of_mem (by simp)⟩, ?_⟩
        refine TK.one 11 (by decide +kernel) rfl rfl (T1.callX (X := [⟨b30, 0, k1.map byteV, 32⟩]) has_10 rfl (Of_any _ _ n1 [k1] [⟨b30, 0, k1.map byteV, 32⟩] (KeysR.one (by simp) hk1l) (by omega) (by simp)) (by repeat (first | exact Take.nil | apply Take.one (by repeat (first | exact Pick.here | apply Pick.there | apply Pick.far)) | apply Take.seg (by repeat (first | exact PickS.last | exact PickS.one | exact PickS.here | exact PickS.nil | apply PickS.there | apply PickS.far)) | exact Take.last (by repeat (first | exact PickS.last | exact PickS.one | exact PickS.here | exact PickS.nil | apply PickS.there | apply PickS.far)))) (fun v11 Y11 hY11 => ?_))
        obtain ⟨rfl, hzzY11⟩ := hY11
        rw [hzzY11, show ([k1] : List (List UInt8)).flatten = k1 from by simp]
        simp only [List.cons_append, List.nil_append]
        refine ⟨⟨.of_mem (by simp), .of_mem (by simp)⟩, ?_⟩
        refine TK.one 14 (by decide +kernel) rfl rfl (T1.storeN (vs := (ofG (ofH (n0 ++ k0) 16)).map u32V) rfl rfl sz_27 (ones_u32 _) (by repeat (first | exact Sub.one | apply Sub.there | apply Sub.far)) (by rw [List.length_map, ofG_len]; rfl) (by rw [List.length_map, ofG_len]) ?_)
        refine ⟨⟨.of_mem (by simp), .of_mem (by simp)⟩, ?_⟩
        refine TK.one 15 (by decide +kernel) rfl rfl (T1.storeN (vs := (ofG (ofH (n1 ++ k1) 16)).map u32V) rfl rfl sz_27 (ones_u32 _) (by repeat (first | exact Sub.one | apply Sub.there | apply Sub.far)) (by rw [List.length_map, ofG_len]; rfl) (by rw [List.length_map, ofG_len]) ?_)
        refine ⟨⟨.of_mem (by simp), .of_mem (by simp)⟩, ?_⟩
        refine TD.done (by decide +kernel) ?_
        exact ⟨(b5, b6), _, _, trivial, (.cons rfl (.cons rfl .nil)), .nil, (by repeat (first | exact Take.nil | apply Take.one (by repeat (first | exact Pick.here | apply Pick.there | apply Pick.far)) | apply Take.seg (by repeat (first | exact PickS.last | exact PickS.one | exact PickS.here | exact PickS.nil | apply PickS.there | apply PickS.far)) | exact Take.last (by repeat (first | exact PickS.last | exact PickS.one | exact PickS.here | exact PickS.nil | apply PickS.there | apply PickS.far)))), rfl⟩
      ·
       simp only [List.flatten_cons, List.flatten_nil, List.append_nil, Nat.one_mul]
       refine ⟨⟨.of_mem (by simp), .of_mem (by simp)⟩, ?_⟩
       refine TK.two 5 12 (by decide +kernel) rfl rfl rfl rfl (T1.callX (X := [⟨b24, 0, k0.map byteV, 32⟩]) has_10 rfl (Of_any _ _ n0 [k0] [⟨b24, 0, k0.map byteV, 32⟩] (KeysR.one (by simp) hk0l) (by omega) (by simp)) (by repeat (first | exact Take.nil | apply Take.one (by repeat (first | exact Pick.here | apply Pick.there | apply Pick.far)) | apply Take.seg (by repeat (first | exact PickS.last | exact PickS.one | exact PickS.here | exact PickS.nil | apply PickS.there | apply PickS.far)) | exact Take.last (by repeat (first | exact PickS.last | exact PickS.one | exact PickS.here | exact PickS.nil | apply PickS.there | apply PickS.far)))) (fun v5 Y5 hY5 => ?_)) (T1.allocN 6 zr_27 rfl (fun b5 => ?_))
       ·
        obtain ⟨rfl, hzzY5⟩ := hY5
        rw [hzzY5, show ([k0] : List (List UInt8)).flatten = k0 from by simp]
        simp only [List.cons_append, List.nil_append]
        refine ⟨⟨.of_mem (by simp), .of_mem (by simp)⟩, ?_⟩
        refine TK.two 11 12 (by decide +kernel) rfl rfl rfl rfl (T1.callX (X := [⟨b30, 0, k1.map byteV, 32⟩]) has_10 rfl (Of_any _ _ n1 [k1] [⟨b30, 0, k1.map byteV, 32⟩] (KeysR.one (by simp) hk1l) (by omega) (by simp)) (by repeat (first | exact Take.nil | apply Take.one (by repeat (first | exact Pick.here | apply Pick.there | apply Pick.far)) | apply Take.seg (by repeat (first | exact PickS.last | exact PickS.one | exact PickS.here | exact PickS.nil | apply PickS.there | apply PickS.far)) | exact Take.last (by repeat (first | exact PickS.last | exact PickS.one | exact PickS.here | exact PickS.nil | apply PickS.there | apply PickS.far)))) (fun v11 Y11 hY11 => ?_)) (T1.allocN 6 zr_27 rfl (fun b5 => ?_))
        ·
         obtain ⟨rfl, hzzY11⟩ := hY11
         rw [hzzY11, show ([k1] : List (List UInt8)).flatten = k1 from by simp]
         simp only [List.cons_append, List.nil_append]
         refine ⟨⟨.of_mem (by simp), .of_mem (by simp)⟩, ?_⟩
         refine TK.one 12 (by decide +kernel) rfl rfl (T1.allocN 6 zr_27 rfl (fun b5 => ?_))
         refine ⟨⟨.of_mem (by simp), .of_mem (by simp)⟩, ?_⟩
         refine TK.one 14 (by decide +kernel) rfl rfl (T1.storeN (vs := (ofG (ofH (n0 ++ k0) 16)).map u32V) rfl rfl sz_27 (ones_u32 _) (by repeat (first | exact Sub.one | apply Sub.there | apply Sub.far)) (by rw [List.length_map, ofG_len]; rfl) (by rw [List.length_map, ofG_len]) ?_)
         refine ⟨⟨.of_mem (by simp), .of_mem (by simp)⟩, ?_⟩
         refine TK.one 15 (by decide +kernel) rfl rfl (T1.storeN (vs := (ofG (ofH (n1 ++ k1) 16)).map u32V) rfl rfl sz_27 (ones_u32 _) (by repeat (first | exact Sub.one | apply Sub.there | apply Sub.far)) (by rw [List.length_map, ofG_len]; rfl) (by rw [List.length_map, ofG_len]) ?_)
         refine ⟨⟨.of_mem (by simp), .of_mem (by simp)⟩, ?_⟩
         refine TD.done (by decide +kernel) ?_
         exact ⟨(b5, b6), _, _, trivial, (.cons rfl (.cons rfl .nil)), .nil, (by repeat (first | exact Take.nil | apply Take.one (by repeat (first | exact Pick.here | apply Pick.there | apply Pick.far)) | apply Take.seg (by repeat (first | exact PickS.last | exact PickS.one | exact PickS.here | exact PickS.nil | apply PickS.there | apply PickS.far)) | exact Take.last (by repeat (first | exact PickS.last | exact PickS.one | exact PickS.here | exact PickS.nil | apply PickS.there | apply PickS.far)))), rfl⟩
        ·
         refine ⟨⟨.of_mem (by simp), .of_mem (by simp)⟩, ?_⟩
         refine TK.one 11 (by decide +kernel) rfl rfl (T1.callX (X := [⟨b30, 0, k1.map byteV, 32⟩]) has_10 rfl (Of_any _ _ n1 [k1] [⟨b30, 0, k1.map byteV, 32⟩] (KeysR.one (by simp) hk1l) (by omega) (by simp)) (by repeat (first | exact Take.nil | apply Take.one (by repeat (first | exact Pick.here | apply Pick.there | apply Pick.far)) | apply Take.seg (by repeat (first | exact PickS.last | exact PickS.one | exact PickS.here | exact PickS.nil | apply PickS.there | apply PickS.far)) | exact Take.last (by repeat (first | exact PickS.last | exact PickS.one | exact PickS.here | exact PickS.nil | apply PickS.there | apply PickS.far)))) (fun v11 Y11 hY11 => ?_))
         obtain ⟨rfl, hzzY11⟩ := hY11
         rw [hzzY11, show ([k1] : List (List UInt8)).flatten = k1 from by simp]
         simp only [List.cons_append, List.nil_append]
         refine ⟨⟨.of_mem (by simp), .of_mem (by simp)⟩, ?_⟩
         refine TK.one 14 (by decide +kernel) rfl rfl (T1.storeN (vs := (ofG (ofH (n0 ++ k0) 16)).map u32V) rfl rfl sz_27 (ones_u32 _) (by repeat (first | exact Sub.one | apply Sub.there | apply Sub.far)) (by rw [List.length_map, ofG_len]; rfl) (by rw [List.length_map, ofG_len]) ?_)
         refine ⟨⟨.of_mem (by simp), .of_mem (by simp)⟩, ?_⟩
         refine TK.one 15 (by decide +kernel) rfl rfl (T1.storeN (vs := (ofG (ofH (n1 ++ k1) 16)).map u32V) rfl rfl sz_27 (ones_u32 _) (by repeat (first | exact Sub.one | apply Sub.there | apply Sub.far)) (by rw [List.length_map, ofG_len]; rfl) (by rw [List.length_map, ofG_len]) ?_)
         refine ⟨⟨.of_mem (by simp), .of_mem (by simp)⟩, ?_⟩
         refine TD.done (by decide +kernel) ?_
         exact ⟨(b5, b6), _, _, trivial, (.cons rfl (.cons rfl .nil)), .nil, (by repeat (first | exact Take.nil | apply Take.one (by repeat (first | exact Pick.here | apply Pick.there | apply Pick.far)) | apply Take.seg (by repeat (first | exact PickS.last | exact PickS.one | exact PickS.here | exact PickS.nil | apply PickS.there | apply PickS.far)) | exact Take.last (by repeat (first | exact PickS.last | exact PickS.one | exact PickS.here | exact PickS.nil | apply PickS.there | apply PickS.far)))), rfl⟩
       ·
        refine ⟨⟨.of_mem (by simp), .of_mem (by simp)⟩, ?_⟩
        refine TK.one 5 (by decide +kernel) rfl rfl (T1.callX (X := [⟨b24, 0, k0.map byteV, 32⟩]) has_10 rfl (Of_any _ _ n0 [k0] [⟨b24, 0, k0.map byteV, 32⟩] (KeysR.one (by simp) hk0l) (by omega) (by simp)) (by repeat (first | exact Take.nil | apply Take.one (by repeat (first | exact Pick.here | apply Pick.there | apply Pick.far)) | apply Take.seg (by repeat (first | exact PickS.last | exact PickS.one | exact PickS.here | exact PickS.nil | apply PickS.there | apply PickS.far)) | exact Take.last (by repeat (first | exact PickS.last | exact PickS.one | exact PickS.here | exact PickS.nil | apply PickS.there | apply PickS.far)))) (fun v5 Y5 hY5 => ?_))
        obtain ⟨rfl, hzzY5⟩ := hY5
        rw [hzzY5, show ([k0] : List (List UInt8)).flatten = k0 from by simp]
        simp only [List.cons_append, List.nil_append]
        refine ⟨⟨.of_mem (by simp), .of_mem (by simp)⟩, ?_⟩
        refine TK.one 11 (by decide +kernel) rfl rfl (T1.callX (X := [⟨b30, 0, k1.map byteV, 32⟩]) has_10 rfl (Of_any _ _ n1 [k1] [⟨b30, 0, k1.map byteV, 32⟩] (KeysR.one (by simp) hk1l) (by omega) (by simp)) (by repeat (first | exact Take.nil | apply Take.one (by repeat (first | exact Pick.here | apply Pick.there | apply Pick.far)) | apply Take.seg (by repeat (first | exact PickS.last | exact PickS.one | exact PickS.here | exact PickS.nil | apply PickS.there | apply PickS.far)) | exact Take.last (by repeat (first | exact PickS.last | exact PickS.one | exact PickS.here | exact PickS.nil | apply PickS.there | apply PickS.far)))) (fun v11 Y11 hY11 => ?_))
        obtain ⟨rfl, hzzY11⟩ := hY11
        rw [hzzY11, show ([k1] : List (List UInt8)).flatten = k1 from by simp]
        simp only [List.cons_append, List.nil_append]
        refine ⟨⟨.of_mem (by simp), .of_mem (by simp)⟩, ?_⟩
        refine TK.one 14 (by decide +kernel) rfl rfl (T1.storeN (vs := (ofG (ofH (n0 ++ k0) 16)).map u32V) rfl rfl sz_27 (ones_u32 _) (by repeat (first | exact Sub.one | apply Sub.there | apply Sub.far)) (by rw [List.length_map, ofG_len]; rfl) (by rw [List.length_map, ofG_len]) ?_)
        refine ⟨⟨.of_mem (by simp), .of_mem (by simp)⟩, ?_⟩
        refine TK.one 15 (by decide +kernel) rfl rfl (T1.storeN (vs := (ofG (ofH (n1 ++ k1) 16)).map u32V) rfl rfl sz_27 (ones_u32 _) (by repeat (first | exact Sub.one | apply Sub.there | apply Sub.far)) (by rw [List.length_map, ofG_len]; rfl) (by rw [List.length_map, ofG_len]) ?_)
        refine ⟨⟨.of_mem (by simp), .of_mem (by simp)⟩, ?_⟩
        refine TD.done (by decide +kernel) ?_
        exact ⟨(b5, b6), _, _, trivial, (.cons rfl (.cons rfl .nil)), .nil, (by repeat (first | exact Take.nil | apply Take.one (by repeat (first | exact Pick.here | apply Pick.there | apply Pick.far)) | apply Take.seg (by repeat (first | exact PickS.last | exact PickS.one | exact PickS.here | exact PickS.nil | apply PickS.there | apply PickS.far)) | exact Take.last (by repeat (first | exact PickS.last | exact PickS.one | exact PickS.here | exact PickS.nil | apply PickS.there | apply PickS.far)))), rfl⟩
      ·
       refine ⟨⟨.of_mem (by simp), .of_mem (by simp)⟩, ?_⟩
       refine TK.two 5 10 (by decide +kernel) rfl rfl rfl rfl (T1.callX (X := [⟨b24, 0, k0.map byteV, 32⟩]) has_10 rfl (Of_any _ _ n0 [k0] [⟨b24, 0, k0.map byteV, 32⟩] (KeysR.one (by simp) hk0l) (by omega) (by simp)) (by repeat (first | exact Take.nil | apply Take.one (by repeat (first | exact Pick.here | apply Pick.there | apply Pick.far)) | apply Take.seg (by repeat (first | exact PickS.last | exact PickS.one | exact PickS.here | exact PickS.nil | apply PickS.there | apply PickS.far)) | exact Take.last (by repeat (first | exact PickS.last | exact PickS.one | exact PickS.here | exact PickS.nil | apply PickS.there | apply PickS.far)))) (fun v5 Y5 hY5 => ?_)) (T1.buildSlN (os := [.tmp 29]) (vs := [.agg (k1.map byteV).toArray]) (vss := [k1.map byteV]) ty_24 sz_36 zr_36 (by decide) rfl (.cons rfl .nil) (by exact Aggs.cons rfl Aggs.nil) rfl (by intro l hl; obtain rfl := List.mem_singleton.1 hl; rw [List.length_map]; exact hk1l) (fun b30 => ?_))
       ·
        obtain ⟨rfl, hzzY5⟩ := hY5
        rw [hzzY5, show ([k0] : List (List UInt8)).flatten = k0 from by simp]
        simp only [List.cons_append, List.nil_append]
        refine ⟨⟨.of_mem (by simp), .of_mem (by simp)⟩, ?_⟩
        refine TK.one 10 (by decide +kernel) rfl rfl (T1.buildSlN (os := [.tmp 29]) (vs := [.agg (k1.map byteV).toArray]) (vss := [k1.map byteV]) ty_24 sz_36 zr_36 (by decide) rfl (.cons rfl .nil) (by exact Aggs.cons rfl Aggs.nil) rfl (by intro l hl; obtain rfl := List.mem_singleton.1 hl; rw [List.length_map]; exact hk1l) (fun b30 => ?_))
        simp only [List.flatten_cons, List.flatten_nil, List.append_nil, Nat.one_mul]
        refine ⟨⟨.of_mem (by simp), .of_mem (by simp)⟩, ?_⟩
        refine TK.one 11 (by decide +kernel) rfl rfl (T1.callX (X := [⟨b30, 0, k1.map byteV, 32⟩]) has_10 rfl (Of_any _ _ n1 [k1] [⟨b30, 0, k1.map byteV, 32⟩] (KeysR.one (by simp) hk1l) (by omega) (by simp)) (by repeat (first | exact Take.nil | apply Take.one (by repeat (first | exact Pick.here | apply Pick.there | apply Pick.far)) | apply Take.seg (by repeat (first | exact PickS.last | exact PickS.one | exact PickS.here | exact PickS.nil | apply PickS.there | apply PickS.far)) | exact Take.last (by repeat (first | exact PickS.last | exact PickS.one | exact PickS.here | exact PickS.nil | apply PickS.there | apply PickS.far)))) (fun v11 Y11 hY11 => ?_))
        obtain ⟨rfl, hzzY11⟩ := hY11
        rw [hzzY11, show ([k1] : List (List UInt8)).flatten = k1 from by simp]
        simp only [List.cons_append, List.nil_append]
        refine ⟨⟨.of_mem (by simp), .of_mem (by simp)⟩, ?_⟩
        refine TK.one 14 (by decide +kernel) rfl rfl (T1.storeN (vs := (ofG (ofH (n0 ++ k0) 16)).map u32V) rfl rfl sz_27 (ones_u32 _) (by repeat (first | exact Sub.one | apply Sub.there | apply Sub.far)) (by rw [List.length_map, ofG_len]; rfl) (by rw [List.length_map, ofG_len]) ?_)
        refine ⟨⟨.of_mem (by simp), .of_mem (by simp)⟩, ?_⟩
        refine TK.one 15 (by decide +kernel) rfl rfl (T1.storeN (vs := (ofG (ofH (n1 ++ k1) 16)).map u32V) rfl rfl sz_27 (ones_u32 _) (by repeat (first | exact Sub.one | apply Sub.there | apply Sub.far)) (by rw [List.length_map, ofG_len]; rfl) (by rw [List.length_map, ofG_len]) ?_)
        refine ⟨⟨.of_mem (by simp), .of_mem (by simp)⟩, ?_⟩
        refine TD.done (by decide +kernel) ?_
        exact ⟨(b5, b6), _, _, trivial, (.cons rfl (.cons rfl .nil)), .nil, (by repeat (first | exact Take.nil | apply Take.one (by repeat (first | exact Pick.here | apply Pick.there | apply Pick.far)) | apply Take.seg (by repeat (first | exact PickS.last | exact PickS.one | exact PickS.here | exact PickS.nil | apply PickS.there | apply PickS.far)) | exact Take.last (by repeat (first | exact PickS.last | exact PickS.one | exact PickS.here | exact PickS.nil | apply PickS.there | apply PickS.far)))), rfl⟩
       ·
        simp only [List.flatten_cons, List.flatten_nil, List.append_nil, Nat.one_mul]
        refine ⟨⟨.of_mem (by simp), .of_mem (by simp)⟩, ?_⟩
        refine TK.one 5 (by decide +kernel) rfl rfl (T1.callX (X := [⟨b24, 0, k0.map byteV, 32⟩]) has_10 rfl (Of_any _ _ n0 [k0] [⟨b24, 0, k0.map byteV, 32⟩] (KeysR.one (by simp) hk0l) (by omega) (by simp)) (by repeat (first | exact Take.nil | apply Take.one (by repeat (first | exact Pick.here | apply Pick.there | apply Pick.far)) | apply Take.seg (by repeat (first | exact PickS.last | exact PickS.one | exact PickS.here | exact PickS.nil | apply PickS.there | apply PickS.far)) | exact Take.last (by repeat (first | exact PickS.last | exact PickS.one | exact PickS.here | exact PickS.nil | apply PickS.there | apply PickS.far)))) (fun v5 Y5 hY5 => ?_))
        obtain ⟨rfl, hzzY5⟩ := hY5
        rw [hzzY5, show ([k0] : List (List UInt8)).flatten = k0 from by simp]
        simp only [List.cons_append, List.nil_append]
        refine ⟨⟨.of_mem (by simp), .of_mem (by simp)⟩, ?_⟩
        refine TK.one 11 (by decide +kernel) rfl rfl (T1.callX (X := [⟨b30, 0, k1.map byteV, 32⟩]) has_10 rfl (Of_any _ _ n1 [k1] [⟨b30, 0, k1.map byteV, 32⟩] (KeysR.one (by simp) hk1l) (by omega) (by simp)) (by repeat (first | exact Take.nil | apply Take.one (by repeat (first | exact Pick.here | apply Pick.there | apply Pick.far)) | apply Take.seg (by repeat (first | exact PickS.last | exact PickS.one | exact PickS.here | exact PickS.nil | apply PickS.there | apply PickS.far)) | exact Take.last (by repeat (first | exact PickS.last | exact PickS.one | exact PickS.here | exact PickS.nil | apply PickS.there | apply PickS.far)))) (fun v11 Y11 hY11 => ?_))
        obtain ⟨rfl, hzzY11⟩ := hY11
        rw [hzzY11, show ([k1] : List (List UInt8)).flatten = k1 from by simp]
        simp only [List.cons_append, List.nil_append]
        refine ⟨⟨.of_mem (by simp), .of_mem (by simp)⟩, ?_⟩
        refine TK.one 14 (by decide +kernel) rfl rfl (T1.storeN (vs := (ofG (ofH (n0 ++ k0) 16)).map u32V) rfl rfl sz_27 (ones_u32 _) (by repeat (first | exact Sub.one | apply Sub.there | apply Sub.far)) (by rw [List.length_map, ofG_len]; rfl) (by rw [List.length_map, ofG_len]) ?_)
        refine ⟨⟨.of_mem (by simp), .of_mem (by simp)⟩, ?_⟩
        refine TK.one 15 (by decide +kernel) rfl rfl (T1.storeN (vs := (ofG (ofH (n1 ++ k1) 16)).map u32V) rfl rfl sz_27 (ones_u32 _) (by repeat (first | exact Sub.one | apply Sub.there | apply Sub.far)) (by rw [List.length_map, ofG_len]; rfl) (by rw [List.length_map, ofG_len]) ?_)
        refine ⟨⟨.of_mem (by simp), .of_mem (by simp)⟩, ?_⟩
        refine TD.done (by decide +kernel) ?_
        exact ⟨(b5, b6), _, _, trivial, (.cons rfl (.cons rfl .nil)), .nil, (by repeat (first | exact Take.nil | apply Take.one (by repeat (first | exact Pick.here | apply Pick.there | apply Pick.far)) | apply Take.seg (by repeat (first | exact PickS.last | exact PickS.one | exact PickS.here | exact PickS.nil | apply PickS.there | apply PickS.far)) | exact Take.last (by repeat (first | exact PickS.last | exact PickS.one | exact PickS.here | exact PickS.nil | apply PickS.there | apply PickS.far)))), rfl⟩
    ·
     simp only [List.flatten_cons, List.flatten_nil, List.append_nil, Nat.one_mul]
     refine ⟨⟨.of_mem (by simp), .of_mem (by simp)⟩, ?_⟩
     refine TK.three 4 12 13 (by decide +kernel) rfl rfl rfl rfl rfl rfl (T1.buildSlN (os := [.tmp 23]) (vs := [.agg (k0.map byteV).toArray]) (vss := [k0.map byteV]) ty_24 sz_36 zr_36 (by decide) rfl (.cons rfl .nil) (by exact Aggs.cons rfl Aggs.nil) rfl (by intro l hl; obtain rfl := List.mem_singleton.1 hl; rw [List.length_map]; exact hk0l) (fun b24 => ?_)) (T1.allocN 6 zr_27 rfl (fun b5 => ?_)) (T1.allocN 6 zr_27 rfl (fun b6 => ?_))
     ·
      simp only [List.flatten_cons, List.flatten_nil, List.append_nil, Nat.one_mul]
      refine ⟨⟨.of_mem (by simp), .of_mem (by simp)⟩, ?_⟩
      refine TK.three 5 12 13 (by decide +kernel) rfl rfl rfl rfl rfl rfl (T1.callX (X := [⟨b24, 0, k0.map byteV, 32⟩]) has_10 rfl (Of_any _ _ n0 [k0] [⟨b24, 0, k0.map byteV, 32⟩] (KeysR.one (by simp) hk0l) (by omega) (by simp)) (by repeat (first | exact Take.nil | apply Take.one (by repeat (first | exact Pick.here | apply Pick.there | apply Pick.far)) | apply Take.seg (by repeat (first | exact PickS.last | exact PickS.one | exact PickS.here | exact PickS.nil | apply PickS.there | apply PickS.far)) | exact Take.last (by repeat (first | exact PickS.last | exact PickS.one | exact PickS.here | exact PickS.nil | apply PickS.there | apply PickS.far)))) (fun v5 Y5 hY5 => ?_)) (T1.allocN 6 zr_27 rfl (fun b5 => ?_)) (T1.allocN 6 zr_27 rfl (fun b6 => ?_))
      ·
       obtain ⟨rfl, hzzY5⟩ := hY5
       rw [hzzY5, show ([k0] : List (List UInt8)).flatten = k0 from by simp]
       simp only [List.cons_append, List.nil_append]
       refine ⟨⟨.of_mem (by simp), .of_mem (by simp)⟩, ?_⟩
       refine TK.three 11 12 13 (by decide +kernel) rfl rfl rfl rfl rfl rfl (T1.callX (X := [⟨b30, 0, k1.map byteV, 32⟩]) has_10 rfl (Of_any _ _ n1 [k1] [⟨b30, 0, k1.map byteV, 32⟩] (KeysR.one (by simp) hk1l) (by omega) (by simp)) (by repeat (first | exact Take.nil | apply Take.one (by repeat (first | exact Pick.here | apply Pick.there | apply Pick.far)) | apply Take.seg (by repeat (first | exact PickS.last | exact PickS.one | exact PickS.here | exact PickS.nil | apply PickS.there | apply PickS.far)) | exact Take.last (by repeat (first | exact PickS.last | exact PickS.one | exact PickS.here | exact PickS.nil | apply PickS.there | apply PickS.far)))) (fun v11 Y11 hY11 => ?_)) (T1.allocN 6 zr_27 rfl (fun b5 => ?_)) (T1.allocN 6 zr_27 rfl (fun b6 => ?_))
       ·
        obtain ⟨rfl, hzzY11⟩ := hY11
        rw [hzzY11, show ([k1] : List (List UInt8)).flatten = k1 from by simp]
        simp only [List.cons_append, List.nil_append]
        refine ⟨⟨.of_mem (by simp), .of_mem (by simp)⟩, ?_⟩
        refine TK.two 12 13 (by decide +kernel) rfl rfl rfl rfl (T1.allocN 6 zr_27 rfl (fun b5 => ?_)) (T1.allocN 6 zr_27 rfl (fun b6 => ?_))
        ·
         refine ⟨⟨.of_mem (by simp), .of_mem (by simp)⟩, ?_⟩
         refine TK.one 13 (by decide +kernel) rfl rfl (T1.allocN 6 zr_27 rfl (fun b6 => ?_))
         refine ⟨⟨.of_mem (by simp), .of_mem (by simp)⟩, ?_⟩
         refine TK.one 14 (by decide +kernel) rfl rfl (T1.storeN (vs := (ofG (ofH (n0 ++ k0) 16)).map u32V) rfl rfl sz_27 (ones_u32 _) (by repeat (first | exact Sub.one | apply Sub.there | apply Sub.far)) (by rw [List.length_map, ofG_len]; rfl) (by rw [List.length_map, ofG_len]) ?_)
         refine ⟨⟨.of_mem (by simp), .of_mem (by simp)⟩, ?_⟩
         refine TK.one 15 (by decide +kernel) rfl rfl (T1.storeN (vs := (ofG (ofH (n1 ++ k1) 16)).map u32V) rfl rfl sz_27 (ones_u32 _) (by repeat (first | exact Sub.one | apply Sub.there | apply Sub.far)) (by rw [List.length_map, ofG_len]; rfl) (by rw [List.length_map, ofG_len]) ?_)
         refine ⟨⟨.of_mem (by simp), .of_mem (by simp)⟩, ?_⟩
         refine TD.done (by decide +kernel) ?_
         exact ⟨(b5, b6), _, _, trivial, (.cons rfl (.cons rfl .nil)), .nil, (by repeat (first | exact Take.nil | apply Take.one (by repeat (first | exact Pick.here | apply Pick.there | apply Pick.far)) | apply Take.seg (by repeat (first | exact PickS.last | exact PickS.one | exact PickS.here | exact PickS.nil | apply PickS.there | apply PickS.far)) | exact Take.last (by repeat (first | exact PickS.last | exact PickS.one | exact PickS.here | exact PickS.nil | apply PickS.there | apply PickS.far)))), rfl⟩
        ·
         refine ⟨⟨.of_mem (by simp), .of_mem (by simp)⟩, ?_⟩
         refine TK.one 12 (by decide +kernel) rfl rfl (T1.allocN 6 zr_27 rfl (fun b5 => ?_))
         refine ⟨⟨.of_mem (by simp), .of_mem (by simp)⟩, ?_⟩
         refine TK.one 14 (by decide +kernel) rfl rfl (T1.storeN (vs := (ofG (ofH (n0 ++ k0) 16)).map u32V) rfl rfl sz_27 (ones_u32 _) (by repeat (first | exact Sub.one | apply Sub.there | apply Sub.far)) (by rw [List.length_map, ofG_len]; rfl) (by rw [List.length_map, ofG_len]) ?_)
         refine ⟨⟨.of_mem (by simp), .of_mem (by simp)⟩, ?_⟩
         refine TK.one 15 (by decide +kernel) rfl rfl (T1.storeN (vs := (ofG (ofH (n1 ++ k1) 16)).map u32V) rfl rfl sz_27 (ones_u32 _) (by repeat (first | exact Sub.one | apply Sub.there | apply Sub.far)) (by rw [List.length_map, ofG_len]; rfl) (by rw [List.length_map, ofG_len]) ?_)
         refine ⟨⟨.of_mem (by simp), .of_mem (by simp)⟩, ?_⟩
         refine TD.done (by decide +kernel) ?_
         exact ⟨(b5, b6), _, _, trivial, (.cons rfl (.cons rfl .nil)), .nil, (by repeat (first | exact Take.nil | apply Take.one (by repeat (first | exact Pick.here | apply Pick.there | apply Pick.far)) | apply Take.seg (by repeat (first | exact PickS.last | exact PickS.one | exact PickS.here | exact PickS.nil | apply PickS.there | apply PickS.far)) | exact Take.last (by repeat (first | exact PickS.last | exact PickS.one | exact PickS.here | exact PickS.nil | apply PickS.there | apply PickS.far)))), rfl⟩
       ·
        refine ⟨⟨.of_mem (by simp), .of_mem (by simp)⟩, ?_⟩
        refine TK.two 11 13 (by decide +kernel) rfl rfl rfl rfl (T1.callX (X := [⟨b30, 0, k1.map byteV, 32⟩]) has_10 rfl (Of_any _ _ n1 [k1] [⟨b30, 0, k1.map byteV, 32⟩] (KeysR.one (by simp) hk1l) (by omega) (by simp)) (by repeat (first | exact Take.nil | apply Take.one (by repeat (first | exact Pick.here | apply Pick.there | apply Pick.far)) | apply Take.seg (by repeat (first | exact PickS.last | exact PickS.one | exact PickS.here | exact PickS.nil | apply PickS.there | apply PickS.far)) | exact Take.last (by repeat (first | exact PickS.last | exact PickS.one | exact PickS.here | exact PickS.nil | apply PickS.there | apply PickS.far)))) (fun v11 Y11 hY11 => ?_)) (T1.allocN 6 zr_27 rfl (fun b6 => ?_))
        ·
         obtain ⟨rfl, hzzY11⟩ := hY11
         rw [hzzY11, show ([k1] : List (List UInt8)).flatten = k1 from by simp]
         simp only [List.cons_append, List.nil_append]
         refine ⟨⟨.of_mem (by simp), .of_mem (by simp)⟩, ?_⟩
         refine TK.one 13 (by decide +kernel) rfl rfl (T1.allocN 6 zr_27 rfl (fun b6 => ?_))
         refine ⟨⟨.of_mem (by simp), .of_mem (by simp)⟩, ?_⟩
         refine TK.one 14 (by decide +kernel) rfl rfl (T1.storeN (vs := (ofG (ofH (n0 ++ k0) 16)).map u32V) rfl rfl sz_27 (ones_u32 _) (by repeat (first | exact Sub.one | apply Sub.there | apply Sub.far)) (by rw [List.length_map, ofG_len]; rfl) (by rw [List.length_map, ofG_len]) ?_)
         refine ⟨⟨.of_mem (by simp), .of_mem (by simp)⟩, ?_⟩
         refine TK.one 15 (by decide +kernel) rfl rfl (T1.storeN (vs := (ofG (ofH (n1 ++ k1) 16)).map u32V) rfl rfl sz_27 (ones_u32 _) (by repeat (first | exact Sub.one | apply Sub.there | apply Sub.far)) (by rw [List.length_map, ofG_len]; rfl) (by rw [List.length_map, ofG_len]) ?_)
         refine ⟨⟨.of_mem (by simp), .of_mem (by simp)⟩, ?_⟩
         refine TD.done (by decide +kernel) ?_
         exact ⟨(b5, b6), _, _, trivial, (.cons rfl (.cons rfl .nil)), .nil, (by repeat (first | exact Take.nil | apply Take.one (by repeat (first | exact Pick.here | apply Pick.there | apply Pick.far)) | apply Take.seg (by repeat (first | exact PickS.last | exact PickS.one | exact PickS.here | exact PickS.nil | apply PickS.there | apply PickS.far)) | exact Take.last (by repeat (first | exact PickS.last | exact PickS.one | exact PickS.here | exact PickS.nil | apply PickS.there | apply PickS.far)))), rfl⟩
        ·
         refine ⟨⟨.of_mem (by simp), .of_mem (by simp)⟩, ?_⟩
         refine TK.one 11 (by decide +kernel) rfl rfl (T1.callX (X := [⟨b30, 0, k1.map byteV, 32⟩]) has_10 rfl (Of_any _ _ n1 [k1] [⟨b30, 0, k1.map byteV, 32⟩] (KeysR.one (by simp) hk1l) (by omega) (by simp)) (by repeat (first | exact Take.nil | apply Take.one (by repeat (first | exact Pick.here | apply Pick.there | apply Pick.far)) | apply Take.seg (by repeat (first | exact PickS.last | exact PickS.one | exact PickS.here | exact PickS.nil | apply PickS.there | apply PickS.far)) | exact Take.last (by repeat (first | exact PickS.last | exact PickS.one | exact PickS.here | exact PickS.nil | apply PickS.there | apply PickS.far)))) (fun v11 Y11 hY11 => ?_))
         obtain ⟨rfl, hzzY11⟩ := hY11
         rw [hzzY11, show ([k1] : List (List UInt8)).flatten = k1 from by simp]
         simp only [List.cons_append, List.nil_append]
         refine ⟨⟨.of_mem (by simp), .of_mem (by simp)⟩, ?_⟩
         refine TK.one 14 (by decide +kernel) rfl rfl (T1.storeN (vs := (ofG (ofH (n0 ++ k0) 16)).map u32V) rfl rfl sz_27 (ones_u32 _) (by repeat (first | exact Sub.one | apply Sub.there | apply Sub.far)) (by rw [List.length_map, ofG_len]; rfl) (by rw [List.length_map, ofG_len]) ?_)
         refine ⟨⟨.of_mem (by simp), .of_mem (by simp)⟩, ?_⟩
         refine TK.one 15 (by decide +kernel) rfl rfl (T1.storeN (vs := (ofG (ofH (n1 ++ k1) 16)).map u32V) rfl rfl sz_27 (ones_u32 _) (by repeat (first | exact Sub.one | apply Sub.there | apply Sub.far)) (by rw [List.length_map, ofG_len]; rfl) (by rw [List.length_map, ofG_len]) ?_)
         refine ⟨⟨.of_mem (by simp), .of_mem (by simp)⟩, ?_⟩
         refine TD.done (by decide +kernel) ?_
         exact ⟨(b5, b6), _, _, trivial, (.cons rfl (.cons rfl .nil)), .nil, (by repeat (first | exact Take.nil | apply Take.one (by repeat (first | exact Pick.here | apply Pick.there | apply Pick.far)) | apply Take.seg (by repeat (first | exact PickS.last | exact PickS.one | exact PickS.here | exact PickS.nil | apply PickS.there | apply PickS.far)) | exact Take.last (by repeat (first | exact PickS.last | exact PickS.one | exact PickS.here | exact PickS.nil | apply PickS.there | apply PickS.far)))), rfl⟩
       ·
        refine ⟨⟨.of_mem (by simp), .of_mem (by simp)⟩, ?_⟩
        refine TK.two 11 12 (by decide +kernel) rfl rfl rfl rfl (T1.callX (X := [⟨b30, 0, k1.map byteV, 32⟩]) has_10 rfl (Of_any _ _ n1 [k1] [⟨b30, 0, k1.map byteV, 32⟩] (KeysR.one (by simp) hk1l) (by omega) (by simp)) (by repeat (first | exact Take.nil | apply Take.one (by repeat (first | exact Pick.here | apply Pick.there | apply Pick.far)) | apply Take.seg (by repeat (first | exact PickS.last | exact PickS.one | exact PickS.here | exact PickS.nil | apply PickS.there | apply PickS.far)) | exact Take.last (by repeat (first | exact PickS.last | exact PickS.one | exact PickS.here | exact PickS.nil | apply PickS.there | apply PickS.far)))) (fun v11 Y11 hY11 => ?_)) (T1.allocN 6 zr_27 rfl (fun b5 => ?_))
        ·
         obtain ⟨rfl, hzzY11⟩ := hY11
         rw [hzzY11, show ([k1] : List (List UInt8)).flatten = k1 from by simp]
         simp only [List.cons_append, List.nil_append]
         refine ⟨⟨.of_mem (by simp), .of_mem (by simp)⟩, ?_⟩
         refine TK.one 12 (by decide +kernel) rfl rfl (T1.allocN 6 zr_27 rfl (fun b5 => ?_))
         refine ⟨⟨.of_mem (by simp), .of_mem (by simp)⟩, ?_⟩
         refine TK.one 14 (by decide +kernel) rfl rfl (T1.storeN (vs := (ofG (ofH (n0 ++ k0) 16)).map u32V) rfl rfl sz_27 (ones_u32 _) (by repeat (first | exact Sub.one | apply Sub.there | apply Sub.far)) (by rw [List.length_map, ofG_len]; rfl) (by rw [List.length_map, ofG_len]) ?_)
         refine ⟨⟨.of_mem (by simp), .of_mem (by simp)⟩, ?_⟩
         refine TK.one 15 (by decide +kernel) rfl rfl (T1.storeN (vs := (ofG (ofH (n1 ++ k1) 16)).map u32V) rfl rfl sz_27 (ones_u32 _) (by repeat (first | exact Sub.one | apply Sub.there | apply Sub.far)) (by rw [List.length_map, ofG_len]; rfl) (by rw [List.length_map, ofG_len]) ?_)
         refine ⟨⟨.of_mem (by simp), .of_mem (by simp)⟩, ?_⟩
         refine TD.done (by decide +kernel) ?_
         exact ⟨(b5, b6), _, _, trivial, (.cons rfl (.cons rfl .nil)), .nil, (by repeat (first | exact Take.nil | apply Take.one (by repeat (first | exact Pick.here | apply Pick.there | apply Pick.far)) | apply Take.seg (by repeat (first | exact PickS.last | exact PickS.one | exact PickS.here | exact PickS.nil | apply PickS.there | apply PickS.far)) | exact Take.last (by repeat (first | exact PickS.last | exact PickS.one | exact PickS.here | exact PickS.nil | apply PickS.there | apply PickS.far)))), rfl⟩
        ·
         refine ⟨⟨.of_mem (by simp), .of_mem (by simp)⟩, ?_⟩
         refine TK.one 11 (by decide +kernel) rfl rfl (T1.callX (X := [⟨b30, 0, k1.map byteV, 32⟩]) has_10 rfl (Of_any _ _ n1 [k1] [⟨b30, 0, k1.map byteV, 32⟩] (KeysR.one (by simp) hk1l) (by omega) (by simp)) (by repeat (first | exact Take.nil | apply Take.one (by repeat (first | exact Pick.here | apply Pick.there | apply Pick.far)) | apply Take.seg (by repeat (first | exact PickS.last | exact PickS.one | exact PickS.here | exact PickS.nil | apply PickS.there | apply PickS.far)) | exact Take.last (by repeat (first | exact PickS.last | exact PickS.one | exact PickS.here | exact PickS.nil | apply PickS.there | apply PickS.far)))) (fun v11 Y11 hY11 => ?_))
         obtain ⟨rfl, hzzY11⟩ := hY11
         rw [hzzY11, show ([k1] : List (List UInt8)).flatten = k1 from by simp]
         simp only [List.cons_append, List.nil_append]
         refine ⟨⟨.of_mem (by simp), .of_mem (by simp)⟩, ?_⟩
         refine TK.one 14 (by decide +kernel) rfl rfl (T1.storeN (vs := (ofG (ofH (n0 ++ k0) 16)).map u32V) rfl rfl sz_27 (ones_u32 _) (by repeat (first | exact Sub.one | apply Sub.there | apply Sub.far)) (by rw [List.length_map, ofG_len]; rfl) (by rw [List.length_map, ofG_len]) ?_)
         refine ⟨⟨.of_mem (by simp), .of_mem (by simp)⟩, ?_⟩
         refine TK.one 15 (by decide +kernel) rfl rfl (T1.storeN (vs := (ofG (ofH (n1 ++ k1) 16)).map u32V) rfl rfl sz_27 (ones_u32 _) (by repeat (first | exact Sub.one | apply Sub.there | apply Sub.far)) (by rw [List.length_map, ofG_len]; rfl) (by rw [List.length_map, ofG_len]) ?_)
         refine ⟨⟨.of_mem (by simp), .of_mem (by simp)⟩, ?_⟩
         refine TD.done (by decide +kernel) ?_
         exact ⟨(b5, b6), _, _, trivial, (.cons rfl (.cons rfl .nil)), .nil, (by repeat (first | exact Take.nil | apply Take.one (by repeat (first | exact Pick.here | apply Pick.there | apply Pick.far)) | apply Take.seg (by repeat (first | exact PickS.last | exact PickS.one | exact PickS.here | exact PickS.nil | apply PickS.there | apply PickS.far)) | exact Take.last (by repeat (first | exact PickS.last | exact PickS.one | exact PickS.here | exact PickS.nil | apply PickS.there | apply PickS.far)))), rfl⟩
      ·
       refine ⟨⟨.of_mem (by simp), .of_mem (by simp)⟩, ?_⟩
       refine TK.two 5 13 (by decide +kernel) rfl rfl rfl rfl (T1.callX (X := [⟨b24, 0, k0.map byteV, 32⟩]) has_10 rfl (Of_any _ _ n0 [k0] [⟨b24, 0, k0.map byteV, 32⟩] (KeysR.one (by simp) hk0l) (by omega) (by simp)) (by repeat (first | exact Take.nil | apply Take.one (by repeat (first | exact Pick.here | apply Pick.there | apply Pick.far)) | apply Take.seg (by repeat (first | exact PickS.last | exact PickS.one | exact PickS.here | exact PickS.nil | apply PickS.there | apply PickS.far)) | exact Take.last (by repeat (first | exact PickS.last | exact PickS.one | exact PickS.here | exact PickS.nil | apply PickS.there | apply PickS.far)))) (fun v5 Y5 hY5 => ?_)) (T1.allocN 6 zr_27 rfl (fun b6 => ?_))
       ·
        obtain ⟨rfl, hzzY5⟩ := hY5
        rw [hzzY5, show ([k0] : List (List UInt8)).flatten = k0 from by simp]
        simp only [List.cons_append, List.nil_append]
        refine ⟨⟨.of_mem (by simp), .of_mem (by simp)⟩, ?_⟩
        refine TK.two 11 13 (by decide +kernel) rfl rfl rfl rfl (T1.callX (X := [⟨b30, 0, k1.map byteV, 32⟩]) has_10 rfl (Of_any _ _ n1 [k1] [⟨b30, 0, k1.map byteV, 32⟩] (KeysR.one (by simp) hk1l) (by omega) (by simp)) (by repeat (first | exact Take.nil | apply Take.one (by repeat (first | exact Pick.here | apply Pick.there | apply Pick.far)) | apply Take.seg (by repeat (first | exact PickS.last | exact PickS.one | exact PickS.here | exact PickS.nil | apply PickS.there | apply PickS.far)) | exact Take.last (by repeat (first | exact PickS.last | exact PickS.one | exact PickS.here | exact PickS.nil | apply PickS.there | apply PickS.far)))) (fun v11 Y11 hY11 => ?_)) (T1.allocN 6 zr_27 rfl (fun b6 => ?_))
        ·
         obtain ⟨rfl, hzzY11⟩ := hY11
         rw [hzzY11, show ([k1] : List (List UInt8)).flatten = k1 from by simp]
         simp only [List.cons_append, List.nil_append]
         refine ⟨⟨.of_mem (by simp), .of_mem (by simp)⟩, ?_⟩
         refine TK.one 13 (by decide +kernel) rfl rfl (T1.allocN 6 zr_27 rfl (fun b6 => ?_))
         refine ⟨⟨.of_mem (by simp), .of_mem (by simp)⟩, ?_⟩
         refine TK.one 14 (by decide +kernel) rfl rfl (T1.storeN (vs := (ofG (ofH (n0 ++ k0) 16)).map u32V) rfl rfl sz_27 (ones_u32 _) (by repeat (first | exact Sub.one | apply Sub.there | apply Sub.far)) (by rw [List.length_map, ofG_len]; rfl) (by rw [List.length_map, ofG_len]) ?_)
         refine ⟨⟨.of_mem (by simp), .of_mem (by simp)⟩, ?_⟩
         refine TK.one 15 (by decide +kernel) rfl rfl (T1.storeN (vs := (ofG (ofH (n1 ++ k1) 16)).map u32V) rfl rfl sz_27 (ones_u32 _) (by repeat (first | exact Sub.one | apply Sub.there | apply Sub.far)) (by rw [List.length_map, ofG_len]; rfl) (by rw [List.length_map, ofG_len]) ?_)
         refine ⟨⟨.of_mem (by simp), .of_mem (by simp)⟩, ?_⟩
         refine TD.done (by decide +kernel) ?_
         exact ⟨(b5, b6), _, _, trivial, (.cons rfl (.cons rfl .nil)), .nil, (by repeat (first | exact Take.nil | apply Take.one (by repeat (first | exact Pick.here | apply Pick.there | apply Pick.far)) | apply Take.seg (by repeat (first | exact PickS.last | exact PickS.one | exact PickS.here | exact PickS.nil | apply PickS.there | apply PickS.far)) | exact Take.last (by repeat (first | exact PickS.last | exact PickS.one | exact PickS.here | exact PickS.nil | apply PickS.there | apply PickS.far)))), rfl⟩
        ·
         refine ⟨⟨.of_mem (by simp), .of_mem (by simp)⟩, ?_⟩
         refine TK.one 11 (by decide +kernel) rfl rfl (T1.callX (X := [⟨b30, 0, k1.map byteV, 32⟩]) has_10 rfl (Of_any _ _ n1 [k1] [⟨b30, 0, k1.map byteV, 32⟩] (KeysR.one (by simp) hk1l) (by omega) (by simp)) (by repeat (first | exact Take.nil | apply Take.one (by repeat (first | exact Pick.here | apply Pick.there | apply Pick.far)) | apply Take.seg (by repeat (first | exact PickS.last | exact PickS.one | exact PickS.here | exact PickS.nil | apply PickS.there | apply PickS.far)) | exact Take.last (by repeat (first | exact PickS.last | exact PickS.one | exact PickS.here | exact PickS.nil | apply PickS.there | apply PickS.far)))) (fun v11 Y11 hY11 => ?_))
         obtain ⟨rfl, hzzY11⟩ := hY11
         rw [hzzY11, show ([k1] : List (List UInt8)).flatten = k1 from by simp]
         simp only [List.cons_append, List.nil_append]
         refine ⟨⟨.of_mem (by simp), .of_mem (by simp)⟩, ?_⟩
         refine TK.one 14 (by decide +kernel) rfl rfl (T1.storeN (vs := (ofG (ofH (n0 ++ k0) 16)).map u32V) rfl rfl sz_27 (ones_u32 _) (by repeat (first | exact Sub.one | apply Sub.there | apply Sub.far)) (by rw [List.length_map, ofG_len]; rfl) (by rw [List.length_map, ofG_len]) ?_)
         refine ⟨⟨.of_mem (by simp), .of_mem (by simp)⟩, ?_⟩
         refine TK.one 15 (by decide +kernel) rfl rfl (T1.storeN (vs := (ofG (ofH (n1 ++ k1) 16)).map u32V) rfl rfl sz_27 (ones_u32 _) (by repeat (first | exact Sub.one | apply Sub.there | apply Sub.far)) (by rw [List.length_map, ofG_len]; rfl) (by rw [List.length_map, ofG_len]) ?_)
         refine ⟨⟨.of_mem (by simp), .of_mem (by simp)⟩, ?_⟩
         refine TD.done (by decide +kernel) ?_
         exact ⟨(b5, b6), _, _, trivial, (.cons rfl (.cons rfl .nil)), .nil, (by repeat (first | exact Take.nil | apply Take.one (by repeat (first | exact Pick.here | apply Pick.there | apply Pick.far)) | apply Take.seg (by repeat (first | exact PickS.last | exact PickS.one | exact PickS.here | exact PickS.nil | apply PickS.there | apply PickS.far)) | exact Take.last (by repeat (first | exact PickS.last | exact PickS.one | exact PickS.here | exact PickS.nil | apply PickS.there | apply PickS.far)))), rfl⟩
       ·
        refine ⟨⟨.of_mem (by simp), .of_mem (by simp)⟩, ?_⟩
        refine TK.one 5 (by decide +kernel) rfl rfl (T1.callX (X := [⟨b24, 0, k0.map byteV, 32⟩]) has_10 rfl (Of_any _ _ n0 [k0] [⟨b24, 0, k0.map byteV, 32⟩] (KeysR.one (by simp) hk0l) (by omega) (by simp)) (by repeat (first | exact Take.nil | apply Take.one (by repeat (first | exact Pick.here | apply Pick.there | apply Pick.far)) | apply Take.seg (by repeat (first | exact PickS.last | exact PickS.one | exact PickS.here | exact PickS.nil | apply PickS.there | apply PickS.far)) | exact Take.last (by repeat (first | exact PickS.last | exact PickS.one | exact PickS.here | exact PickS.nil | apply PickS.there | apply PickS.far)))) (fun v5 Y5 hY5 => ?_))
        obtain ⟨rfl, hzzY5⟩ := hY5
        rw [hzzY5, show ([k0] : List (List UInt8)).flatten = k0 from by simp]
        simp only [List.cons_append, List.nil_append]
        refine ⟨⟨.of_mem (by simp), .of_mem (by simp)⟩, ?_⟩
        refine TK.one 11 (by decide +kernel) rfl rfl (T1.callX (X := [⟨b30, 0, k1.map byteV, 32⟩]) has_10 rfl (Of_any _ _ n1 [k1] [⟨b30, 0, k1.map byteV, 32⟩] (KeysR.one (by simp) hk1l) (by omega) (by simp)) (by repeat (first | exact Take.nil | apply Take.one (by repeat (first | exact Pick.here | apply Pick.there | apply Pick.far)) | apply Take.seg (by repeat (first | exact PickS.last | exact PickS.one | exact PickS.here | exact PickS.nil | apply PickS.there | apply PickS.far)) | exact Take.last (by repeat (first | exact PickS.last | exact PickS.one | exact PickS.here | exact PickS.nil | apply PickS.there | apply PickS.far)))) (fun v11 Y11 hY11 => ?_))
        obtain ⟨rfl, hzzY11⟩ := hY11
        rw [hzzY11, show ([k1] : List (List UInt8)).flatten = k1 from by simp]
        simp only [List.cons_append, List.nil_append]
        refine ⟨⟨.of_mem (by simp), .of_mem (by simp)⟩, ?_⟩
        refine TK.one 14 (by decide +kernel) rfl rfl (T1.storeN (vs := (ofG (ofH (n0 ++ k0) 16)).map u32V) rfl rfl sz_27 (ones_u32 _) (by repeat (first | exact Sub.one | apply Sub.there | apply Sub.far)) (by rw [List.length_map, ofG_len]; rfl) (by rw [List.length_map, ofG_len]) ?_)
        refine ⟨⟨.of_mem (by simp), .of_mem (by simp)⟩, ?_⟩
        refine TK.one 15 (by decide +kernel) rfl rfl (T1.storeN (vs := (ofG (ofH (n1 ++ k1) 16)).map u32V) rfl rfl sz_27 (ones_u32 _) (by repeat (first | exact Sub.one | apply Sub.there | apply Sub.far)) (by rw [List.length_map, ofG_len]; rfl) (by rw [List.length_map, ofG_len]) ?_)
        refine ⟨⟨.of_mem (by simp), .of_mem (by simp)⟩, ?_⟩
        refine TD.done (by decide +kernel) ?_
        exact ⟨(b5, b6), _, _, trivial, (.cons rfl (.cons rfl .nil)), .nil, (by repeat (first | exact Take.nil | apply Take.one (by repeat (first | exact Pick.here | apply Pick.there | apply Pick.far)) | apply Take.seg (by repeat (first | exact PickS.last | exact PickS.one | exact PickS.here | exact PickS.nil | apply PickS.there | apply PickS.far)) | exact Take.last (by repeat (first | exact PickS.last | exact PickS.one | exact PickS.here | exact PickS.nil | apply PickS.there | apply PickS.far)))), rfl⟩
      ·
       refine ⟨⟨.of_mem (by simp), .of_mem (by simp)⟩, ?_⟩
       refine TK.two 5 12 (by decide +kernel) rfl rfl rfl rfl (T1.callX (X := [⟨b24, 0, k0.map byteV, 32⟩]) has_10 rfl (Of_any _ _ n0 [k0] [⟨b24, 0, k0.map byteV, 32⟩] (KeysR.one (by simp) hk0l) (by omega) (by simp)) (by repeat (first | exact Take.nil | apply Take.one (by repeat (first | exact Pick.here | apply Pick.there | apply Pick.far)) | apply Take.seg (by repeat (first | exact PickS.last | exact PickS.one | exact PickS.here | exact PickS.nil | apply PickS.there | apply PickS.far)) | exact Take.last (by repeat (first | exact PickS.last | exact PickS.one | exact PickS.here | exact PickS.nil | apply PickS.there | apply PickS.far)))) (fun v5 Y5 hY5 => ?_)) (T1.allocN 6 zr_27 rfl (fun b5 => ?_))
       ·
        obtain ⟨rfl, hzzY5⟩ := hY5
        rw [hzzY5, show ([k0] : List (List UInt8)).flatten = k0 from by simp]
        simp only [List.cons_append, List.nil_append]
        refine ⟨⟨.of_mem (by simp), .of_mem (by simp)⟩, ?_⟩
        refine TK.two 11 12 (by decide +kernel) rfl rfl rfl rfl (T1.callX (X := [⟨b30, 0, k1.map byteV, 32⟩]) has_10 rfl (Of_any _ _ n1 [k1] [⟨b30, 0, k1.map byteV, 32⟩] (KeysR.one (by simp) hk1l) (by omega) (by simp)) (by repeat (first | exact Take.nil | apply Take.one (by repeat (first | exact Pick.here | apply Pick.there | apply Pick.far)) | apply Take.seg (by repeat (first | exact PickS.last | exact PickS.one | exact PickS.here | exact PickS.nil | apply PickS.there | apply PickS.far)) | exact Take.last (by repeat (first | exact PickS.last | exact PickS.one | exact PickS.here | exact PickS.nil | apply PickS.there | apply PickS.far)))) (fun v11 Y11 hY11 => ?_)) (T1.allocN 6 zr_27 rfl (fun b5 => ?_))
        ·
         obtain ⟨rfl, hzzY11⟩ := hY11
         rw [hzzY11, show ([k1] : List (List UInt8)).flatten = k1 from by simp]
         simp only [List.cons_append, List.nil_append]
         refine ⟨⟨.of_mem (by simp), .of_mem (by simp)⟩, ?_⟩
         refine TK.one 12 (by decide +kernel) rfl rfl (T1.allocN 6 zr_27 rfl (fun b5 => ?_))
         refine ⟨⟨.of_mem (by simp), .of_mem (by simp)⟩, ?_⟩
         refine TK.one 14 (by decide +kernel) rfl rfl (T1.storeN (vs := (ofG (ofH (n0 ++ k0) 16)).map u32V) rfl rfl sz_27 (ones_u32 _) (by repeat (first | exact Sub.one | apply Sub.there | apply Sub.far)) (by rw [List.length_map, ofG_len]; rfl) (by rw [List.length_map, ofG_len]) ?_)
         refine ⟨⟨.of_mem (by simp), .of_mem (by simp)⟩, ?_⟩
         refine TK.one 15 (by decide +kernel) rfl rfl (T1.storeN (vs := (ofG (ofH (n1 ++ k1) 16)).map u32V) rfl rfl sz_27 (ones_u32 _) (by repeat (first | exact Sub.one | apply Sub.there | apply Sub.far)) (by rw [List.length_map, ofG_len]; rfl) (by rw [List.length_map, ofG_len]) ?_)
         refine ⟨⟨.of_mem (by simp), .of_mem (by simp)⟩, ?_⟩
         refine TD.done (by decide +kernel) ?_
         exact ⟨(b5, b6), _, _, trivial, (.cons rfl (.cons rfl .nil)), .nil, (by repeat (first | exact Take.nil | apply Take.one (by repeat (first | exact Pick.here | apply Pick.there | apply Pick.far)) | apply Take.seg (by repeat (first | exact PickS.last | exact PickS.one | exact PickS.here | exact PickS.nil | apply PickS.there | apply PickS.far)) | exact Take.last (by repeat (first | exact PickS.last | exact PickS.one | exact PickS.here | exact PickS.nil | apply PickS.there | apply PickS.far)))), rfl⟩
        ·
         refine ⟨⟨.of_mem (by simp), .of_mem (by simp)⟩, ?_⟩
         refine TK.one 11 (by decide +kernel) rfl rfl (T1.callX (X := [⟨b30, 0, k1.map byteV, 32⟩]) has_10 rfl (Of_any _ _ n1 [k1] [⟨b30, 0, k1.map byteV, 32⟩] (KeysR.one (by simp) hk1l) (by omega) (by simp)) (by repeat (first | exact Take.nil | apply Take.one (by repeat (first | exact Pick.here | apply Pick.there | apply Pick.far)) | apply Take.seg (by repeat (first | exact PickS.last | exact PickS.one | exact PickS.here | exact PickS.nil | apply PickS.there | apply PickS.far)) | exact Take.last (by repeat (first | exact PickS.last | exact PickS.one | exact PickS.here | exact PickS.nil | apply PickS.there | apply PickS.far)))) (fun v11 Y11 hY11 => ?_))
         obtain ⟨rfl, hzzY11⟩ := hY11
         rw [hzzY11, show ([k1] : List (List UInt8)).flatten = k1 from by simp]
         simp only [List.cons_append, List.nil_append]
         refine ⟨⟨.of_mem (by simp), .of_mem (by simp)⟩, ?_⟩
         refine TK.one 14 (by decide +kernel) rfl rfl (T1.storeN (vs := (ofG (ofH (n0 ++ k0) 16)).map u32V) rfl rfl sz_27 (ones_u32 _) (by repeat (first | exact Sub.one | apply Sub.there | apply Sub.far)) (by rw [List.length_map, ofG_len]; rfl) (by rw [List.length_map, ofG_len]) ?_)
         refine ⟨⟨.of_mem (by simp), .of_mem (by simp)⟩, ?_⟩
         refine TK.one 15 (by decide +kernel) rfl rfl (T1.storeN (vs := (ofG (ofH (n1 ++ k1) 16)).map u32V) rfl rfl sz_27 (ones_u32 _) (by repeat (first | exact Sub.one | apply Sub.there | apply Sub.far)) (by rw [List.length_map, ofG_len]; rfl) (by rw [List.length_map, ofG_len]) ?_)
         refine ⟨⟨.of_mem (by simp), .of_mem (by simp)⟩, ?_⟩
         refine TD.done (by decide +kernel) ?_
         exact ⟨(b5, b6), _, _, trivial, (.cons rfl (.cons rfl .nil)), .nil, (by repeat (first | exact Take.nil | apply Take.one (by repeat (first | exact Pick.here | apply Pick.there | apply Pick.far)) | apply Take.seg (by repeat (first | exact PickS.last | exact PickS.one | exact PickS.here | exact PickS.nil | apply PickS.there | apply PickS.far)) | exact Take.last (by repeat (first | exact PickS.last | exact PickS.one | exact PickS.here | exact PickS.nil | apply PickS.there | apply PickS.far)))), rfl⟩
       ·
        refine ⟨⟨.of_mem (by simp), .of_mem (by simp)⟩, ?_⟩
        refine TK.one 5 (by decide +kernel) rfl rfl (T1.callX (X := [⟨b24, 0, k0.map byteV, 32⟩]) has_10 rfl (Of_any _ _ n0 [k0] [⟨b24, 0, k0.map byteV, 32⟩] (KeysR.one (by simp) hk0l) (by omega) (by simp)) (by repeat (first | exact Take.nil | apply Take.one (by repeat (first | exact Pick.here | apply Pick.there | apply Pick.far)) | apply Take.seg (by repeat (first | exact PickS.last | exact PickS.one | exact PickS.here | exact PickS.nil | apply PickS.there | apply PickS.far)) | exact Take.last (by repeat (first | exact PickS.last | exact PickS.one | exact PickS.here | exact PickS.nil | apply PickS.there | apply PickS.far)))) (fun v5 Y5 hY5 => ?_))
        obtain ⟨rfl, hzzY5⟩ := hY5
        rw [hzzY5, show ([k0] : List (List UInt8)).flatten = k0 from by simp]
        simp only [List.cons_append, List.nil_append]
        refine ⟨⟨.of_mem (by simp), .of_mem (by simp)⟩, ?_⟩
        refine TK.one 11 (by decide +kernel) rfl rfl (T1.callX (X := [⟨b30, 0, k1.map byteV, 32⟩]) has_10 rfl (Of_any _ _ n1 [k1] [⟨b30, 0, k1.map byteV, 32⟩] (KeysR.one (by simp) hk1l) (by omega) (by simp)) (by repeat (first | exact Take.nil | apply Take.one (by repeat (first | exact Pick.here | apply Pick.there | apply Pick.far)) | apply Take.seg (by repeat (first | exact PickS.last | exact PickS.one | exact PickS.here | exact PickS.nil | apply PickS.there | apply PickS.far)) | exact Take.last (by repeat (first | exact PickS.last | exact PickS.one | exact PickS.here | exact PickS.nil | apply PickS.there | apply PickS.far)))) (fun v11 Y11 hY11 => ?_))
        obtain ⟨rfl, hzzY11⟩ := hY11
        rw [hzzY11, show ([k1] : List (List UInt8)).flatten = k1 from by simp]
        simp only [List.cons_append, List.nil_append]
        refine ⟨⟨.of_mem (by simp), .of_mem (by simp)⟩, ?_⟩
        refine TK.one 14 (by decide +kernel) rfl rfl (T1.storeN (vs := (ofG (ofH (n0 ++ k0) 16)).map u32V) rfl rfl sz_27 (ones_u32 _) (by repeat (first | exact Sub.one | apply Sub.there | apply Sub.far)) (by rw [List.length_map, ofG_len]; rfl) (by rw [List.length_map, ofG_len]) ?_)
        refine ⟨⟨.of_mem (by simp), .of_mem (by simp)⟩, ?_⟩
        refine TK.one 15 (by decide +kernel) rfl rfl (T1.storeN (vs := (ofG (ofH (n1 ++ k1) 16)).map u32V) rfl rfl sz_27 (ones_u32 _) (by repeat (first | exact Sub.one | apply Sub.there | apply Sub.far)) (by rw [List.length_map, ofG_len]; rfl) (by rw [List.length_map, ofG_len]) ?_)
        refine ⟨⟨.of_mem (by simp), .of_mem (by simp)⟩, ?_⟩
        refine TD.done (by decide +kernel) ?_
        exact ⟨(b5, b6), _, _, trivial, (.cons rfl (.cons rfl .nil)), .nil, (by repeat (first | exact Take.nil | apply Take.one (by repeat (first | exact Pick.here | apply Pick.there | apply Pick.far)) | apply Take.seg (by repeat (first | exact PickS.last | exact PickS.one | exact PickS.here | exact PickS.nil | apply PickS.there | apply PickS.far)) | exact Take.last (by repeat (first | exact PickS.last | exact PickS.one | exact PickS.here | exact PickS.nil | apply PickS.there | apply PickS.far)))), rfl⟩
     ·
      refine ⟨⟨.of_mem (by simp), .of_mem (by simp)⟩, ?_⟩
      refine TK.two 4 13 (by decide +kernel) rfl rfl rfl rfl (T1.buildSlN (os := [.tmp 23]) (vs := [.agg (k0.map byteV).toArray]) (vss := [k0.map byteV]) ty_24 sz_36 zr_36 (by decide) rfl (.cons rfl .nil) (by exact Aggs.cons rfl Aggs.nil) rfl (by intro l hl; obtain rfl := List.mem_singleton.1 hl; rw [List.length_map]; exact hk0l) (fun b24 => ?_)) (T1.allocN 6 zr_27 rfl (fun b6 => ?_))
      ·
       simp only [List.flatten_cons, List.flatten_nil, List.append_nil, Nat.one_mul]
       refine ⟨⟨.of_mem (by simp), .of_mem (by simp)⟩, ?_⟩
       refine TK.two 5 13 (by decide +kernel) rfl rfl rfl rfl (T1.callX (X := [⟨b24, 0, k0.map byteV, 32⟩]) has_10 rfl (Of_any _ _ n0 [k0] [⟨b24, 0, k0.map byteV, 32⟩] (KeysR.one (by simp) hk0l) (by omega) (by simp)) (by repeat (first | exact Take.nil | apply Take.one (by repeat (first | exact Pick.here | apply Pick.there | apply Pick.far)) | apply Take.seg (by repeat (first | exact PickS.last | exact PickS.one | exact PickS.here | exact PickS.nil | apply PickS.there | apply PickS.far)) | exact Take.last (by repeat (first | exact PickS.last | exact PickS.one | exact PickS.here | exact PickS.nil | apply PickS.there | apply PickS.far)))) (fun v5 Y5 hY5 => ?_)) (T1.allocN 6 zr_27 rfl (fun b6 => ?_))
       ·
        obtain ⟨rfl, hzzY5⟩ := hY5
        rw [hzzY5, show ([k0] : List (List UInt8)).flatten = k0 from by simp]
        simp only [List.cons_append, List.nil_append]
        refine ⟨⟨.of_mem (by simp), .of_mem (by simp)⟩, ?_⟩
        refine TK.two 11 13 (by decide +kernel) rfl rfl rfl rfl (T1.callX (X := [⟨b30, 0, k1.map byteV, 32⟩]) has_10 rfl (Of_any _ _ n1 [k1] [⟨b30, 0, k1.map byteV, 32⟩] (KeysR.one (by simp) hk1l) (by omega) (by simp)) (by repeat (first | exact Take.nil | apply Take.one (by repeat (first | exact Pick.here | apply Pick.there | apply Pick.far)) | apply Take.seg (by repeat (first | exact PickS.last | exact PickS.one | exact PickS.here | exact PickS.nil | apply PickS.there | apply PickS.far)) | exact Take.last (by repeat (first | exact PickS.last | exact PickS.one | exact PickS.here | exact PickS.nil | apply PickS.there | apply PickS.far)))) (fun v11 Y11 hY11 => ?_)) (T1.allocN 6 zr_27 rfl (fun b6 => ?_))
        ·
         obtain ⟨rfl, hzzY11⟩ := hY11
         rw [hzzY11, show ([k1] : List (List UInt8)).flatten = k1 from by simp]
         simp only [List.cons_append, List.nil_append]
         refine ⟨⟨.of_mem (by simp), .of_mem (by simp)⟩, ?_⟩
         refine TK.one 13 (by decide +kernel) rfl rfl (T1.allocN 6 zr_27 rfl (fun b6 => ?_))
         refine ⟨⟨.of_mem (by simp), .of_mem (by simp)⟩, ?_⟩
         refine TK.one 14 (by decide +kernel) rfl rfl (T1.storeN (vs := (ofG (ofH (n0 ++ k0) 16)).map u32V) rfl rfl sz_27 (ones_u32 _) (by repeat (first | exact Sub.one | apply Sub.there | apply Sub.far)) (by rw [List.length_map, ofG_len]; rfl) (by rw [List.length_map, ofG_len]) ?_)
         refine ⟨⟨.of_mem (by simp), .of_mem (by simp)⟩, ?_⟩
         refine TK.one 15 (by decide +kernel) rfl rfl (T1.storeN (vs := (ofG (ofH (n1 ++ k1) 16)).map u32V) rfl rfl sz_27 (ones_u32 _) (by repeat (first | exact Sub.one | apply Sub.there | apply Sub.far)) (by rw [List.length_map, ofG_len]; rfl) (by rw [List.length_map, ofG_len]) ?_)
         refine ⟨⟨.of_mem (by simp), .of_mem (by simp)⟩, ?_⟩
         refine TD.done (by decide +kernel) ?_
         exact ⟨(b5, b6), _, _, trivial, (.cons rfl (.cons rfl .nil)), .nil, (by repeat (first | exact Take.nil | apply Take.one (by repeat (first | exact Pick.here | apply Pick.there | apply Pick.far)) | apply Take.seg (by repeat (first | exact PickS.last | exact PickS.one | exact PickS.here | exact PickS.nil | apply PickS.there | apply PickS.far)) | exact Take.last (by repeat (first | exact PickS.last | exact PickS.one | exact PickS.here | exact PickS.nil | apply PickS.there | apply PickS.far)))), rfl⟩
        ·
         refine ⟨⟨.of_mem (by simp), .of_mem (by simp)⟩, ?_⟩
         refine TK.one 11 (by decide +kernel) rfl rfl (T1.callX (X := [⟨b30, 0, k1.map byteV, 32⟩]) has_10 rfl (Of_any _ _ n1 [k1] [⟨b30, 0, k1.map byteV, 32⟩] (KeysR.one (by simp) hk1l) (by omega) (by simp)) (by repeat (first | exact Take.nil | apply Take.one (by repeat (first | exact Pick.here | apply Pick.there | apply Pick.far)) | apply Take.seg (by repeat (first | exact PickS.last | exact PickS.one | exact PickS.here | exact PickS.nil | apply PickS.there | apply PickS.far)) | exact Take.last (by repeat (first | exact PickS.last | exact PickS.one | exact PickS.here | exact PickS.nil | apply PickS.there | apply PickS.far)))) (fun v11 Y11 hY11 => ?_))
         obtain ⟨rfl, hzzY11⟩ := hY11
         rw [hzzY11, show ([k1] : List (List UInt8)).flatten = k1 from by simp]
         simp only [List.cons_append, List.nil_append]
         refine ⟨⟨.of_mem (by simp), .of_mem (by simp)⟩, ?_⟩
         refine TK.one 14 (by decide +kernel) rfl rfl (T1.storeN (vs := (ofG (ofH (n0 ++ k0) 16)).map u32V) rfl rfl sz_27 (ones_u32 _) (by repeat (first | exact Sub.one | apply Sub.there | apply Sub.far)) (by rw [List.length_map, ofG_len]; rfl) (by rw [List.length_map, ofG_len]) ?_)
         refine ⟨⟨.of_mem (by simp), .of_mem (by simp)⟩, ?_⟩
         refine TK.one 15 (by decide +kernel) rfl rfl (T1.storeN (vs := (ofG (ofH (n1 ++ k1) 16)).map u32V) rfl rfl sz_27 (ones_u32 _) (by repeat (first | exact Sub.one | apply Sub.there | apply Sub.far)) (by rw [List.length_map, ofG_len]; rfl) (by rw [List.length_map, ofG_len]) ?_)
         refine ⟨⟨.of_mem (by simp), .of_mem (by simp)⟩, ?_⟩
         refine TD.done (by decide +kernel) ?_
         exact ⟨(b5, b6), _, _, trivial, (.cons rfl (.cons rfl .nil)), .nil, (by repeat (first | exact Take.nil | apply Take.one (by repeat (first | exact Pick.here | apply Pick.there | apply Pick.far)) | apply Take.seg (by repeat (first | exact PickS.last | exact PickS.one | exact PickS.here | exact PickS.nil | apply PickS.there | apply PickS.far)) | exact Take.last (by repeat (first | exact PickS.last | exact PickS.one | exact PickS.here | exact PickS.nil | apply PickS.there | apply PickS.far)))), rfl⟩
       ·
        refine ⟨⟨.of_mem (by simp), .of_mem (by simp)⟩, ?_⟩
        refine TK.one 5 (by decide +kernel) rfl rfl (T1.callX (X := [⟨b24, 0, k0.map byteV, 32⟩]) has_10 rfl (Of_any _ _ n0 [k0] [⟨b24, 0, k0.map byteV, 32⟩] (KeysR.one (by simp) hk0l) (by omega) (by simp)) (by repeat (first | exact Take.nil | apply Take.one (by repeat (first | exact Pick.here | apply Pick.there | apply Pick.far)) | apply Take.seg (by repeat (first | exact PickS.last | exact PickS.one | exact PickS.here | exact PickS.nil | apply PickS.there | apply PickS.far)) | exact Take.last (by repeat (first | exact PickS.last | exact PickS.one | exact PickS.here | exact PickS.nil | apply PickS.there | apply PickS.far)))) (fun v5 Y5 hY5 => ?_))
        obtain ⟨rfl, hzzY5⟩ := hY5
        rw [hzzY5, show ([k0] : List (List UInt8)).flatten = k0 from by simp]
        simp only [List.cons_append, List.nil_append]
        refine ⟨⟨.of_mem (by simp), .of_mem (by simp)⟩, ?_⟩
        refine TK.one 11 (by decide +kernel) rfl rfl (T1.callX (X := [⟨b30, 0, k1.map byteV, 32⟩]) has_10 rfl (Of_any _ _ n1 [k1] [⟨b30, 0, k1.map byteV, 32⟩] (KeysR.one (by simp) hk1l) (by omega) (by simp)) (by repeat (first | exact Take.nil | apply Take.one (by repeat (first | exact Pick.here | apply Pick.there | apply Pick.far)) | apply Take.seg (by repeat (first | exact PickS.last | exact PickS.one | exact PickS.here | exact PickS.nil | apply PickS.there | apply PickS.far)) | exact Take.last (by repeat (first | exact PickS.last | exact PickS.one | exact PickS.here | exact PickS.nil | apply PickS.there | apply PickS.far)))) (fun v11 Y11 hY11 => ?_))
        obtain ⟨rfl, hzzY11⟩ := hY11
        rw [hzzY11, show ([k1] : List (List UInt8)).flatten = k1 from by simp]
        simp only [List.cons_append, List.nil_append]
        refine ⟨⟨.of_mem (by simp), .of_mem (by simp)⟩, ?_⟩
        refine TK.one 14 (by decide +kernel) rfl rfl (T1.storeN (vs := (ofG (ofH (n0 ++ k0) 16)).map u32V) rfl rfl sz_27 (ones_u32 _) (by repeat (first | exact Sub.one | apply Sub.there | apply Sub.far)) (by rw [List.length_map, ofG_len]; rfl) (by rw [List.length_map, ofG_len]) ?_)
        refine ⟨⟨.of_mem (by simp), .of_mem (by simp)⟩, ?_⟩
        refine TK.one 15 (by decide +kernel) rfl rfl (T1.storeN (vs := (ofG (ofH (n1 ++ k1) 16)).map u32V) rfl rfl sz_27 (ones_u32 _) (by repeat (first | exact Sub.one | apply Sub.there | apply Sub.far)) (by rw [List.length_map, ofG_len]; rfl) (by rw [List.length_map, ofG_len]) ?_)
        refine ⟨⟨.of_mem (by simp), .of_mem (by simp)⟩, ?_⟩
        refine TD.done (by decide +kernel) ?_
        exact ⟨(b5, b6), _, _, trivial, (.cons rfl (.cons rfl .nil)), .nil, (by repeat (first | exact Take.nil | apply Take.one (by repeat (first | exact Pick.here | apply Pick.there | apply Pick.far)) | apply Take.seg (by repeat (first | exact PickS.last | exact PickS.one | exact PickS.here | exact PickS.nil | apply PickS.there | apply PickS.far)) | exact Take.last (by repeat (first | exact PickS.last | exact PickS.one | exact PickS.here | exact PickS.nil | apply PickS.there | apply PickS.far)))), rfl⟩
      ·
       refine ⟨⟨.of_mem (by simp), .of_mem (by simp)⟩, ?_⟩
       refine TK.one 4 (by decide +kernel) rfl rfl (T1.buildSlN (os := [.tmp 23]) (vs := [.agg (k0.map byteV).toArray]) (vss := [k0.map byteV]) ty_24 sz_36 zr_36 (by decide) rfl (.cons rfl .nil) (by exact Aggs.cons rfl Aggs.nil) rfl (by intro l hl; obtain rfl := List.mem_singleton.1 hl; rw [List.length_map]; exact hk0l) (fun b24 => ?_))
       simp only [List.flatten_cons, List.flatten_nil, List.append_nil, Nat.one_mul]
       refine ⟨⟨.of_mem (by simp), .of_mem (by simp)⟩, ?_⟩
       refine TK.one 5 (by decide +kernel) rfl rfl (T1.callX (X := [⟨b24, 0, k0.map byteV, 32⟩]) has_10 rfl (Of_any _ _ n0 [k0] [⟨b24, 0, k0.map byteV, 32⟩] (KeysR.one (by simp) hk0l) (by omega) (by simp)) (by repeat (first | exact Take.nil | apply Take.one (by repeat (first | exact Pick.here | apply Pick.there | apply Pick.far)) | apply Take.seg (by repeat (first | exact PickS.last | exact PickS.one | exact PickS.here | exact PickS.nil | apply PickS.there | apply PickS.far)) | exact Take.last (by repeat (first | exact PickS.last | exact PickS.one | exact PickS.here | exact PickS.nil | apply PickS.there | apply PickS.far)))) (fun v5 Y5 hY5 => ?_))
       obtain ⟨rfl, hzzY5⟩ := hY5
       rw [hzzY5, show ([k0] : List (List UInt8)).flatten = k0 from by simp]
       simp only [List.cons_append, List.nil_append]
       refine ⟨⟨.of_mem (by simp), .of_mem (by simp)⟩, ?_⟩
       refine TK.one 11 (by decide +kernel) rfl rfl (T1.callX (X := [⟨b30, 0, k1.map byteV, 32⟩]) has_10 rfl (Of_any _ _ n1 [k1] [⟨b30, 0, k1.map byteV, 32⟩] (KeysR.one (by simp) hk1l) (by omega) (by simp)) (by repeat (first | exact Take.nil | apply Take.one (by repeat (first | exact Pick.here | apply Pick.there | apply Pick.far)) | apply Take.seg (by repeat (first | exact PickS.last | exact PickS.one | exact PickS.here | exact PickS.nil | apply PickS.there | apply PickS.far)) | exact Take.last (by repeat (first | exact PickS.last | exact PickS.one | exact PickS.here | exact PickS.nil | apply PickS.there | apply PickS.far)))) (fun v11 Y11 hY11 => ?_))
       obtain ⟨rfl, hzzY11⟩ := hY11
       rw [hzzY11, show ([k1] : List (List UInt8)).flatten = k1 from by simp]
       simp only [List.cons_append, List.nil_append]
       refine ⟨⟨.of_mem (by simp), .of_mem (by simp)⟩, ?_⟩
       refine TK.one 14 (by decide +kernel) rfl rfl (T1.storeN (vs := (ofG (ofH (n0 ++ k0) 16)).map u32V) rfl rfl sz_27 (ones_u32 _) (by repeat (first | exact Sub.one | apply Sub.there | apply Sub.far)) (by rw [List.length_map, ofG_len]; rfl) (by rw [List.length_map, ofG_len]) ?_)
       refine ⟨⟨.of_mem (by simp), .of_mem (by simp)⟩, ?_⟩
       refine TK.one 15 (by decide +kernel) rfl rfl (T1.storeN (vs := (ofG (ofH (n1 ++ k1) 16)).map u32V) rfl rfl sz_27 (ones_u32 _) (by repeat (first | exact Sub.one | apply Sub.there | apply Sub.far)) (by rw [List.length_map, ofG_len]; rfl) (by rw [List.length_map, ofG_len]) ?_)
       refine ⟨⟨.of_mem (by simp), .of_mem (by simp)⟩, ?_⟩
       refine TD.done (by decide +kernel) ?_
       exact ⟨(b5, b6), _, _, trivial, (.cons rfl (.cons rfl .nil)), .nil, (by repeat (first | exact Take.nil | apply Take.one (by repeat (first | exact Pick.here | apply Pick.there | apply Pick.far)) | apply Take.seg (by repeat (first | exact PickS.last | exact PickS.one | exact PickS.here | exact PickS.nil | apply PickS.there | apply PickS.far)) | exact Take.last (by repeat (first | exact PickS.last | exact PickS.one | exact PickS.here | exact PickS.nil | apply PickS.there | apply PickS.far)))), rfl⟩
     ·
      refine ⟨⟨.of_mem (by simp), .of_mem (by simp)⟩, ?_⟩
      refine TK.two 4 12 (by decide +kernel) rfl rfl rfl rfl (T1.buildSlN (os := [.tmp 23]) (vs := [.agg (k0.map byteV).toArray]) (vss := [k0.map byteV]) ty_24 sz_36 zr_36 (by decide) rfl (.cons rfl .nil) (by exact Aggs.cons rfl Aggs.nil) rfl (by intro l hl; obtain rfl := List.mem_singleton.1 hl; rw [List.length_map]; exact hk0l) (fun b24 => ?_)) (T1.allocN 6 zr_27 rfl (fun b5 => ?_))
      ·
       simp only [List.flatten_cons, List.flatten_nil, List.append_nil, Nat.one_mul]
       refine ⟨⟨.of_mem (by simp), .of_mem (by simp)⟩, ?_⟩
       refine TK.two 5 12 (by decide +kernel) rfl rfl rfl rfl (T1.callX (X := [⟨b24, 0, k0.map byteV, 32⟩]) has_10 rfl (Of_any _ _ n0 [k0] [⟨b24, 0, k0.map byteV, 32⟩] (KeysR.one (by simp) hk0l) (by omega) (by simp)) (by repeat (first | exact Take.nil | apply Take.one (by repeat (first | exact Pick.here | apply Pick.there | apply Pick.far)) | apply Take.seg (by repeat (first | exact PickS.last | exact PickS.one | exact PickS.here | exact PickS.nil | apply PickS.there | apply PickS.far)) | exact Take.last (by repeat (first | exact PickS.last | exact PickS.one | exact PickS.here | exact PickS.nil | apply PickS.there | apply PickS.far)))) (fun v5 Y5 hY5 => ?_)) (T1.allocN 6 zr_27 rfl (fun b5 => ?_))
       ·
        obtain ⟨rfl, hzzY5⟩ := hY5
        rw [hzzY5, show ([k0] : List (List UInt8)).flatten = k0 from by simp]
        simp only [List.cons_append, List.nil_append]
        refine ⟨⟨.of_mem (by simp), .of_mem (by simp)⟩, ?_⟩
        refine TK.two 11 12 (by decide +kernel) rfl rfl rfl rfl (T1.callX (X := [⟨b30, 0, k1.map byteV, 32⟩]) has_10 rfl (Of_any _ _ n1 [k1] [⟨b30, 0, k1.map byteV, 32⟩] (KeysR.one (by simp) hk1l) (by omega) (by simp)) (by repeat (first | exact Take.nil | apply Take.one (by repeat (first | exact Pick.here | apply Pick.there | apply Pick.far)) | apply Take.seg (by repeat (first | exact PickS.last | exact PickS.one | exact PickS.here | exact PickS.nil | apply PickS.there | apply PickS.far)) | exact Take.last (by repeat (first | exact PickS.last | exact PickS.one | exact PickS.here | exact PickS.nil | apply PickS.there | apply PickS.far)))) (fun v11 Y11 hY11 => ?_)) (T1.allocN 6 zr_27 rfl (fun b5 => ?_))
        ·
         obtain ⟨rfl, hzzY11⟩ := hY11
         rw [hzzY11, show ([k1] : List (List UInt8)).flatten = k1 from by simp]
         simp only [List.cons_append, List.nil_append]
         refine ⟨⟨.of_mem (by simp), .of_mem (by simp)⟩, ?_⟩
         refine TK.one 12 (by decide +kernel) rfl rfl (T1.allocN 6 zr_27 rfl (fun b5 => ?_))
         refine ⟨⟨.of_mem (by simp), .of_mem (by simp)⟩, ?_⟩
         refine TK.one 14 (by decide +kernel) rfl rfl (T1.storeN (vs := (ofG (ofH (n0 ++ k0) 16)).map u32V) rfl rfl sz_27 (ones_u32 _) (by repeat (first | exact Sub.one | apply Sub.there | apply Sub.far)) (by rw [List.length_map, ofG_len]; rfl) (by rw [List.length_map, ofG_len]) ?_)
         refine ⟨⟨.of_mem (by simp), .of_mem (by simp)⟩, ?_⟩
         refine TK.one 15 (by decide +kernel) rfl rfl (T1.storeN (vs := (ofG (ofH (n1 ++ k1) 16)).map u32V) rfl rfl sz_27 (ones_u32 _) (by repeat (first | exact Sub.one | apply Sub.there | apply Sub.far)) (by rw [List.length_map, ofG_len]; rfl) (by rw [List.length_map, ofG_len]) ?_)
         refine ⟨⟨.of_mem (by simp), .of_mem (by simp)⟩, ?_⟩
         refine TD.done (by decide +kernel) ?_
         exact ⟨(b5, b6), _, _, trivial, (.cons rfl (.cons rfl .nil)), .nil, (by repeat (first | exact Take.nil | apply Take.one (by repeat (first | exact Pick.here | apply Pick.there | apply Pick.far)) | apply Take.seg (by repeat (first | exact PickS.last | exact PickS.one | exact PickS.here | exact PickS.nil | apply PickS.there | apply PickS.far)) | exact Take.last (by repeat (first | exact PickS.last | exact PickS.one | exact PickS.here | exact PickS.nil | apply PickS.there | apply PickS.far)))), rfl⟩
        ·
         refine ⟨⟨.of_mem (by simp), .of_mem (by simp)⟩, ?_⟩
         refine TK.one 11 (by decide +kernel) rfl rfl (T1.callX (X := [⟨b30, 0, k1.map byteV, 32⟩]) has_10 rfl (Of_any _ _ n1 [k1] [⟨b30, 0, k1.map byteV, 32⟩] (KeysR.one (by simp) hk1l) (by omega) (by simp)) (by repeat (first | exact Take.nil | apply Take.one (by repeat (first | exact Pick.here | apply Pick.there | apply Pick.far)) | apply Take.seg (by repeat (first | exact PickS.last | exact PickS.one | exact PickS.here | exact PickS.nil | apply PickS.there | apply PickS.far)) | exact Take.last (by repeat (first | exact PickS.last | exact PickS.one | exact PickS.here | exact PickS.nil | apply PickS.there | apply PickS.far)))) (fun v11 Y11 hY11 => ?_))
         obtain ⟨rfl, hzzY11⟩ := hY11
         rw [hzzY11, show ([k1] : List (List UInt8)).flatten = k1 from by simp]
         simp only [List.cons_append, List.nil_append]
         refine ⟨⟨.of_mem (by simp), .of_mem (by simp)⟩, ?_⟩
         refine TK.one 14 (by decide +kernel) rfl rfl (T1.storeN (vs := (ofG (ofH (n0 ++ k0) 16)).map u32V) rfl rfl sz_27 (ones_u32 _) (by repeat (first | exact Sub.one | apply Sub.there | apply Sub.far)) (by rw [List.length_map, ofG_len]; rfl) (by rw [List.length_map, ofG_len]) ?_)
         refine ⟨⟨.of_mem (by simp), .of_mem (by simp)⟩, ?_⟩
         refine TK.one 15 (by decide +kernel) rfl rfl (T1.storeN (vs := (ofG (ofH (n1 ++ k1) 16)).map u32V) rfl rfl sz_27 (ones_u32 _) (by repeat (first | exact Sub.one | apply Sub.there | apply Sub.far)) (by rw [List.length_map, ofG_len]; rfl) (by rw [List.length_map, ofG_len]) ?_)
         refine ⟨⟨.of_mem (by simp), .of_mem (by simp)⟩, ?_⟩
         refine TD.done (by decide +kernel) ?_
         exact ⟨(b5, b6), _, _, trivial, (.cons rfl (.cons rfl .nil)), .nil, (by repeat (first | exact Take.nil | apply Take.one (by repeat (first | exact Pick.here | apply Pick.there | apply Pick.far)) | apply Take.seg (by repeat (first | exact PickS.last | exact PickS.one | exact PickS.here | exact PickS.nil | apply PickS.there | apply PickS.far)) | exact Take.last (by repeat (first | exact PickS.last | exact PickS.one | exact PickS.here | exact PickS.nil | apply PickS.there | apply PickS.far)))), rfl⟩
       ·
        refine ⟨⟨.of_mem (by simp), .of_mem (by simp)⟩, ?_⟩
        refine TK.one 5 (by decide +kernel) rfl rfl (T1.callX (X := [⟨b24, 0, k0.map byteV, 32⟩]) has_10 rfl (Of_any _ _ n0 [k0] [⟨b24, 0, k0.map byteV, 32⟩] (KeysR.one (by simp) hk0l) (by omega) (by simp)) (by repeat (first | exact Take.nil | apply Take.one (by repeat (first | exact Pick.here | apply Pick.there | apply Pick.far)) | apply Take.seg (by repeat (first | exact PickS.last | exact PickS.one | exact PickS.here | exact PickS.nil | apply PickS.there | apply PickS.far)) | exact Take.last (by repeat (first | exact PickS.last | exact PickS.one | exact PickS.here | exact PickS.nil | apply PickS.there | apply PickS.far)))) (fun v5 Y5 hY5 => ?_))
        obtain ⟨rfl, hzzY5⟩ := hY5
        rw [hzzY5, show ([k0] : List (List UInt8)).flatten = k0 from by simp]
        simp only [List.cons_append, List.nil_append]
        refine ⟨⟨.of_mem (by simp), .of_mem (by simp)⟩, ?_⟩
        refine TK.one 11 (by decide +kernel) rfl rfl (T1.callX (X := [⟨b30, 0, k1.map byteV, 32⟩]) has_10 rfl (Of_any _ _ n1 [k1] [⟨b30, 0, k1.map byteV, 32⟩] (KeysR.one (by simp) hk1l) (by omega) (by simp)) (by repeat (first | exact Take.nil | apply Take.one (by repeat (first | exact Pick.here | apply Pick.there | apply Pick.far)) | apply Take.seg (by repeat (first | exact PickS.last | exact PickS.one | exact PickS.here | exact PickS.nil | apply PickS.there | apply PickS.far)) | exact Take.last (by repeat (first | exact PickS.last | exact PickS.one | exact PickS.here | exact PickS.nil | apply PickS.there | apply PickS.far)))) (fun v11 Y11 hY11 => ?_))
        obtain ⟨rfl, hzzY11⟩ := hY11
        rw [hzzY11, show ([k1] : List (List UInt8)).flatten = k1 from by simp]
        simp only [List.cons_append, List.nil_append]
        refine ⟨⟨.of_mem (by simp), .of_mem (by simp)⟩, ?_⟩
        refine TK.one 14 (by decide +kernel) rfl rfl (T1.storeN (vs := (ofG (ofH (n0 ++ k0) 16)).map u32V) rfl rfl sz_27 (ones_u32 _) (by repeat (first | exact Sub.one | apply Sub.there | apply Sub.far)) (by rw [List.length_map, ofG_len]; rfl) (by rw [List.length_map, ofG_len]) ?_)
        refine ⟨⟨.of_mem (by simp), .of_mem (by simp)⟩, ?_⟩
        refine TK.one 15 (by decide +kernel) rfl rfl (T1.storeN (vs := (ofG (ofH (n1 ++ k1) 16)).map u32V) rfl rfl sz_27 (ones_u32 _) (by repeat (first | exact Sub.one | apply Sub.there | apply Sub.far)) (by rw [List.length_map, ofG_len]; rfl) (by rw [List.length_map, ofG_len]) ?_)
        refine ⟨⟨.of_mem (by simp), .of_mem (by simp)⟩, ?_⟩
        refine TD.done (by decide +kernel) ?_
        exact ⟨(b5, b6), _, _, trivial, (.cons rfl (.cons rfl .nil)), .nil, (by repeat (first | exact Take.nil | apply Take.one (by repeat (first | exact Pick.here | apply Pick.there | apply Pick.far)) | apply Take.seg (by repeat (first | exact PickS.last | exact PickS.one | exact PickS.here | exact PickS.nil | apply PickS.there | apply PickS.far)) | exact Take.last (by repeat (first | exact PickS.last | exact PickS.one | exact PickS.here | exact PickS.nil | apply PickS.there | apply PickS.far)))), rfl⟩
      ·
       refine ⟨⟨.of_mem (by simp), .of_mem (by simp)⟩, ?_⟩
       refine TK.one 4 (by decide +kernel) rfl rfl (T1.buildSlN (os := [.tmp 23]) (vs := [.agg (k0.map byteV).toArray]) (vss := [k0.map byteV]) ty_24 sz_36 zr_36 (by decide) rfl (.cons rfl .nil) (by exact Aggs.cons rfl Aggs.nil) rfl (by intro l hl; obtain rfl := List.mem_singleton.1 hl; rw [List.length_map]; exact hk0l) (fun b24 => ?_))
       simp only [List.flatten_cons, List.flatten_nil, List.append_nil, Nat.one_mul]
       refine ⟨⟨.of_mem (by simp), .of_mem (by simp)⟩, ?_⟩
       refine TK.one 5 (by decide +kernel) rfl rfl (T1.callX (X := [⟨b24, 0, k0.map byteV, 32⟩]) has_10 rfl (Of_any _ _ n0 [k0] [⟨b24, 0, k0.map byteV, 32⟩] (KeysR.one (by simp) hk0l) (by omega) (by simp)) (by repeat (first | exact Take.nil | apply Take.one (by repeat (first | exact Pick.here | apply Pick.there | apply Pick.far)) | apply Take.seg (by repeat (first | exact PickS.last | exact PickS.one | exact PickS.here | exact PickS.nil | apply PickS.there | apply PickS.far)) | exact Take.last (by repeat (first | exact PickS.last | exact PickS.one | exact PickS.here | exact PickS.nil | apply PickS.there | apply PickS.far)))) (fun v5 Y5 hY5 => ?_))
       obtain ⟨rfl, hzzY5⟩ := hY5
       rw [hzzY5, show ([k0] : List (List UInt8)).flatten = k0 from by simp]
       simp only [List.cons_append, List.nil_append]
       refine ⟨⟨.of_mem (by simp), .of_mem (by simp)⟩, ?_⟩
       refine TK.one 11 (by decide +kernel) rfl rfl (T1.callX (X := [⟨b30, 0, k1.map byteV, 32⟩]) has_10 rfl (Of_any _ _ n1 [k1] [⟨b30, 0, k1.map byteV, 32⟩] (KeysR.one (by simp) hk1l) (by omega) (by simp)) (by repeat (first | exact Take.nil | apply Take.one (by repeat (first | exact Pick.here | apply Pick.there | apply Pick.far)) | apply Take.seg (by repeat (first | exact PickS.last | exact PickS.one | exact PickS.here | exact PickS.nil | apply PickS.there | apply PickS.far)) | exact Take.last (by repeat (first | exact PickS.last | exact PickS.one | exact PickS.here | exact PickS.nil | apply PickS.there | apply PickS.far)))) (fun v11 Y11 hY11 => ?_))
       obtain ⟨rfl, hzzY11⟩ := hY11
       rw [hzzY11, show ([k1] : List (List UInt8)).flatten = k1 from by simp]
       simp only [List.cons_append, List.nil_append]
       refine ⟨⟨.of_mem (by simp), .of_mem (by simp)⟩, ?_⟩
       refine TK.one 14 (by decide +kernel) rfl rfl (T1.storeN (vs := (ofG (ofH (n0 ++ k0) 16)).map u32V) rfl rfl sz_27 (ones_u32 _) (by repeat (first | exact Sub.one | apply Sub.there | apply Sub.far)) (by rw [List.length_map, ofG_len]; rfl) (by rw [List.length_map, ofG_len]) ?_)
       refine ⟨⟨.of_mem (by simp), .of_mem (by simp)⟩, ?_⟩
       refine TK.one 15 (by decide +kernel) rfl rfl (T1.storeN (vs := (ofG (ofH (n1 ++ k1) 16)).map u32V) rfl rfl sz_27 (ones_u32 _) (by repeat (first | exact Sub.one | apply Sub.there | apply Sub.far)) (by rw [List.length_map, ofG_len]; rfl) (by rw [List.length_map, ofG_len]) ?_)
       refine ⟨⟨.of_mem (by simp), .of_mem (by simp)⟩, ?_⟩
       refine TD.done (by decide +kernel) ?_
       exact ⟨(b5, b6), _, _, trivial, (.cons rfl (.cons rfl .nil)), .nil, (by repeat (first | exact Take.nil | apply Take.one (by repeat (first | exact Pick.here | apply Pick.there | apply Pick.far)) | apply Take.seg (by repeat (first | exact PickS.last | exact PickS.one | exact PickS.here | exact PickS.nil | apply PickS.there | apply PickS.far)) | exact Take.last (by repeat (first | exact PickS.last | exact PickS.one | exact PickS.here | exact PickS.nil | apply PickS.there | apply PickS.far)))), rfl⟩
    ·
     refine ⟨⟨.of_mem (by simp), .of_mem (by simp)⟩, ?_⟩
     refine TK.three 4 10 13 (by decide +kernel) rfl rfl rfl rfl rfl rfl (T1.buildSlN (os := [.tmp 23]) (vs := [.agg (k0.map byteV).toArray]) (vss := [k0.map byteV]) ty_24 sz_36 zr_36 (by decide) rfl (.cons rfl .nil) (by exact Aggs.cons rfl Aggs.nil) rfl (by intro l hl; obtain rfl := List.mem_singleton.1 hl; rw [List.length_map]; exact hk0l) (fun b24 => ?_)) (T1.buildSlN (os := [.tmp 29]) (vs := [.agg (k1.map byteV).toArray]) (vss := [k1.map byteV]) ty_24 sz_36 zr_36 (by decide) rfl (.cons rfl .nil) (by exact Aggs.cons rfl Aggs.nil) rfl (by intro l hl; obtain rfl := List.mem_singleton.1 hl; rw [List.length_map]; exact hk1l) (fun b30 => ?_)) (T1.allocN 6 zr_27 rfl (fun b6 => ?_))
     ·
      simp only [List.flatten_cons, List.flatten_nil, List.append_nil, Nat.one_mul]
      refine ⟨⟨.of_mem (by simp), .of_mem (by simp)⟩, ?_⟩
      refine TK.three 5 10 13 (by decide +kernel) rfl rfl rfl rfl rfl rfl (T1.callX (X := [⟨b24, 0, k0.map byteV, 32⟩]) has_10 rfl (Of_any _ _ n0 [k0] [⟨b24, 0, k0.map byteV, 32⟩] (KeysR.one (by simp) hk0l) (by omega) (by simp)) (by repeat (first | exact Take.nil | apply Take.one (by repeat (first | exact Pick.here | apply Pick.there | apply Pick.far)) | apply Take.seg (by repeat (first | exact PickS.last | exact PickS.one | exact PickS.here | exact PickS.nil | apply PickS.there | apply PickS.far)) | exact Take.last (by repeat (first | exact PickS.last | exact PickS.one | exact PickS.here | exact PickS.nil | apply PickS.there | apply PickS.far)))) (fun v5 Y5 hY5 => ?_)) (T1.buildSlN (os := [.tmp 29]) (vs := [.agg (k1.map byteV).toArray]) (vss := [k1.map byteV]) ty_24 sz_36 zr_36 (by decide) rfl (.cons rfl .nil) (by exact Aggs.cons rfl Aggs.nil) rfl (by intro l hl; obtain rfl := List.mem_singleton.1 hl; rw [List.length_map]; exact hk1l) (fun b30 => ?_)) (T1.allocN 6 zr_27 rfl (fun b6 => ?_))
      ·
       obtain ⟨rfl, hzzY5⟩ := hY5
       rw [hzzY5, show ([k0] : List (List UInt8)).flatten = k0 from by simp]
       simp only [List.cons_append, List.nil_append]
       refine ⟨⟨.of_mem (by simp), .of_mem (by simp)⟩, ?_⟩
       refine TK.two 10 13 (by decide +kernel) rfl rfl rfl rfl (T1.buildSlN (os := [.tmp 29]) (vs := [.agg (k1.map byteV).toArray]) (vss := [k1.map byteV]) ty_24 sz_36 zr_36 (by decide) rfl (.cons rfl .nil) (by exact Aggs.cons rfl Aggs.nil) rfl (by intro l hl; obtain rfl := List.mem_singleton.1 hl; rw [List.length_map]; exact hk1l) (fun b30 => ?_)) (T1.allocN 6 zr_27 rfl (fun b6 => ?_))
       ·
        simp only [List.flatten_cons, List.flatten_nil, List.append_nil, Nat.one_mul]
        refine ⟨⟨.of_mem (by simp), .of_mem (by simp)⟩, ?_⟩
        refine TK.two 11 13 (by decide +kernel) rfl rfl rfl rfl (T1.callX (X := [⟨b30, 0, k1.map byteV, 32⟩]) has_10 rfl (Of_any _ _ n1 [k1] [⟨b30, 0, k1.map byteV, 32⟩] (KeysR.one (by simp) hk1l) (by omega) (by simp)) (by repeat (first | exact Take.nil | apply Take.one (by repeat (first | exact Pick.here | apply Pick.there | apply Pick.far)) | apply Take.seg (by repeat (first | exact PickS.last | exact PickS.one | exact PickS.here | exact PickS.nil | apply PickS.there | apply PickS.far)) | exact Take.last (by repeat (first | exact PickS.last | exact PickS.one | exact PickS.here | exact PickS.nil | apply PickS.there | apply PickS.far)))) (fun v11 Y11 hY11 => ?_)) (T1.allocN 6 zr_27 rfl (fun b6 => ?_))
        ·
         obtain ⟨rfl, hzzY11⟩ := hY11
         rw [hzzY11, show ([k1] : List (List UInt8)).flatten = k1 from by simp]
         simp only [List.cons_append, List.nil_append]
         refine ⟨⟨.of_mem (by simp), .of_mem (by simp)⟩, ?_⟩
         refine TK.one 13 (by decide +kernel) rfl rfl (T1.allocN 6 zr_27 rfl (fun b6 => ?_))
         refine ⟨⟨.of_mem (by simp), .of_mem (by simp)⟩, ?_⟩
         refine TK.one 14 (by decide +kernel) rfl rfl (T1.storeN (vs := (ofG (ofH (n0 ++ k0) 16)).map u32V) rfl rfl sz_27 (ones_u32 _) (by repeat (first | exact Sub.one | apply Sub.there | apply Sub.far)) (by rw [List.length_map, ofG_len]; rfl) (by rw [List.length_map, ofG_len]) ?_)
         refine ⟨⟨.of_mem (by simp), .of_mem (by simp)⟩, ?_⟩
         refine TK.one 15 (by decide +kernel) rfl rfl (T1.storeN (vs := (ofG (ofH (n1 ++ k1) 16)).map u32V) rfl rfl sz_27 (ones_u32 _) (by repeat (first | exact Sub.one | apply Sub.there | apply Sub.far)) (by rw [List.length_map, ofG_len]; rfl) (by rw [List.length_map, ofG_len]) ?_)
         refine ⟨⟨.of_mem (by simp), .of_mem (by simp)⟩, ?_⟩
         refine TD.done (by decide +kernel) ?_
         exact ⟨(b5, b6), _, _, trivial, (.cons rfl (.cons rfl .nil)), .nil, (by repeat (first | exact Take.nil | apply Take.one (by repeat (first | exact Pick.here | apply Pick.there | apply Pick.far)) | apply Take.seg (by repeat (first | exact PickS.last | exact PickS.one | exact PickS.here | exact PickS.nil | apply PickS.there | apply PickS.far)) | exact Take.last (by repeat (first | exact PickS.last | exact PickS.one | exact PickS.here | exact PickS.nil | apply PickS.there | apply PickS.far)))), rfl⟩
        ·
         refine ⟨⟨.of_mem (by simp), .of_mem (by simp)⟩, ?_⟩
         refine TK.one 11 (by decide +kernel) rfl rfl (T1.callX (X := [⟨b30, 0, k1.map byteV, 32⟩]) has_10 rfl (Of_any _ _ n1 [k1] [⟨b30, 0, k1.map byteV, 32⟩] (KeysR.one (by simp) hk1l) (by omega) (by simp)) (by repeat (first | exact Take.nil | apply Take.one (by repeat (first | exact Pick.here | apply Pick.there | apply Pick.far)) | apply Take.seg (by repeat (first | exact PickS.last | exact PickS.one | exact PickS.here | exact PickS.nil | apply PickS.there | apply PickS.far)) | exact Take.last (by repeat (first | exact PickS.last | exact PickS.one | exact PickS.here | exact PickS.nil | apply PickS.there | apply PickS.far)))) (fun v11 Y11 hY11 => ?_))
         obtain ⟨rfl, hzzY11⟩ := hY11
         rw [hzzY11, show ([k1] : List (List UInt8)).flatten = k1 from by simp]
         simp only [List.cons_append, List.nil_append]
         refine ⟨⟨.of_mem (by simp), .of_mem (by simp)⟩, ?_⟩
         refine TK.one 14 (by decide +kernel) rfl rfl (T1.storeN (vs := (ofG (ofH (n0 ++ k0) 16)).map u32V) rfl rfl sz_27 (ones_u32 _) (by repeat (first | exact Sub.one | apply Sub.there | apply Sub.far)) (by rw [List.length_map, ofG_len]; rfl) (by rw [List.length_map, ofG_len]) ?_)
         refine ⟨⟨.of_mem (by simp), .of_mem (by simp)⟩, ?_⟩
         refine TK.one 15 (by decide +kernel) rfl rfl (T1.storeN (vs := (ofG (ofH (n1 ++ k1) 16)).map u32V) rfl rfl sz_27 (ones_u32 _) (by repeat (first | exact Sub.one | apply Sub.there | apply Sub.far)) (by rw [List.length_map, ofG_len]; rfl) (by rw [List.length_map, ofG_len]) ?_)
         refine ⟨⟨.of_mem (by simp), .of_mem (by simp)⟩, ?_⟩
         refine TD.done (by decide +kernel) ?_
         exact ⟨(b5, b6), _, _, trivial, (.cons rfl (.cons rfl .nil)), .nil, (by repeat (first | exact Take.nil | apply Take.one (by repeat (first | exact Pick.here | apply Pick.there | apply Pick.far)) | apply Take.seg (by repeat (first | exact PickS.last | exact PickS.one | exact PickS.here | exact PickS.nil | apply PickS.there | apply PickS.far)) | exact Take.last (by repeat (first | exact PickS.last | exact PickS.one | exact PickS.here | exact PickS.nil | apply PickS.there | apply PickS.far)))), rfl⟩
       ·
        refine ⟨⟨.of_mem (by simp), .of_mem (by simp)⟩, ?_⟩
        refine TK.one 10 (by decide +kernel) rfl rfl (T1.buildSlN (os := [.tmp 29]) (vs := [.agg (k1.map byteV).toArray]) (vss := [k1.map byteV]) ty_24 sz_36 zr_36 (by decide) rfl (.cons rfl .nil) (by exact Aggs.cons rfl Aggs.nil) rfl (by intro l hl; obtain rfl := List.mem_singleton.1 hl; rw [List.length_map]; exact hk1l) (fun b30 => ?_))
        simp only [List.flatten_cons, List.flatten_nil, List.append_nil, Nat.one_mul]
        refine ⟨⟨.of_mem (by simp), .of_mem (by simp)⟩, ?_⟩
        refine TK.one 11 (by decide +kernel) rfl rfl (T1.callX (X := [⟨b30, 0, k1.map byteV, 32⟩]) has_10 rfl (Of_any _ _ n1 [k1] [⟨b30, 0, k1.map byteV, 32⟩] (KeysR.one (by simp) hk1l) (by omega) (by simp)) (by repeat (first | exact Take.nil | apply Take.one (by repeat (first | exact Pick.here | apply Pick.there | apply Pick.far)) | apply Take.seg (by repeat (first | exact PickS.last | exact PickS.one | exact PickS.here | exact PickS.nil | apply PickS.there | apply PickS.far)) | exact Take.last (by repeat (first | exact PickS.last | exact PickS.one | exact PickS.here | exact PickS.nil | apply PickS.there | apply PickS.far)))) (fun v11 Y11 hY11 => ?_))
        obtain ⟨rfl, hzzY11⟩ := hY11
        rw [hzzY11, show ([k1] : List (List UInt8)).flatten = k1 from by simp]
        simp only [List.cons_append, List.nil_append]
        refine ⟨⟨.of_mem (by simp), .of_mem (by simp)⟩, ?_⟩
        refine TK.one 14 (by decide +kernel) rfl rfl (T1.storeN (vs := (ofG (ofH (n0 ++ k0) 16)).map u32V) rfl rfl sz_27 (ones_u32 _) (by repeat (first | exact Sub.one | apply Sub.there | apply Sub.far)) (by rw [List.length_map, ofG_len]; rfl) (by rw [List.length_map, ofG_len]) ?_)
        refine ⟨⟨.of_mem (by simp), .of_mem (by simp)⟩, ?_⟩
        refine TK.one 15 (by decide +kernel) rfl rfl (T1.storeN (vs := (ofG (ofH (n1 ++ k1) 16)).map u32V) rfl rfl sz_27 (ones_u32 _) (by repeat (first | exact Sub.one | apply Sub.there | apply Sub.far)) (by rw [List.length_map, ofG_len]; rfl) (by rw [List.length_map, ofG_len]) ?_)
        refine ⟨⟨.of_mem (by simp), .of_mem (by simp)⟩, ?_⟩
        refine TD.done (by decide +kernel) ?_
        exact ⟨(b5, b6), _, _, trivial, (.cons rfl (.cons rfl .nil)), .nil, (by repeat (first | exact Take.nil | apply Take.one (by repeat (first | exact Pick.here | apply Pick.there | apply Pick.far)) | apply Take.seg (by repeat (first | exact PickS.last | exact PickS.one | exact PickS.here | exact PickS.nil | apply PickS.there | apply PickS.far)) | exact Take.last (by repeat (first | exact PickS.last | exact PickS.one | exact PickS.here | exact PickS.nil | apply PickS.there | apply PickS.far)))), rfl⟩
      ·
       simp only [List.flatten_cons, List.flatten_nil, List.append_nil, Nat.one_mul]
       refine ⟨⟨.of_mem (by simp), .of_mem (by simp)⟩, ?_⟩
       refine TK.two 5 13 (by decide +kernel) rfl rfl rfl rfl (T1.callX (X := [⟨b24, 0, k0.map byteV, 32⟩]) has_10 rfl (Of_any _ _ n0 [k0] [⟨b24, 0, k0.map byteV, 32⟩] (KeysR.one (by simp) hk0l) (by omega) (by simp)) (by repeat (first | exact Take.nil | apply Take.one (by repeat (first | exact Pick.here | apply Pick.there | apply Pick.far)) | apply Take.seg (by repeat (first | exact PickS.last | exact PickS.one | exact PickS.here | exact PickS.nil | apply PickS.there | apply PickS.far)) | exact Take.last (by repeat (first | exact PickS.last | exact PickS.one | exact PickS.here | exact PickS.nil | apply PickS.there | apply PickS.far)))) (fun v5 Y5 hY5 => ?_)) (T1.allocN 6 zr_27 rfl (fun b6 => ?_))
       ·
        obtain ⟨rfl, hzzY5⟩ := hY5
        rw [hzzY5, show ([k0] : List (List UInt8)).flatten = k0 from by simp]
        simp only [List.cons_append, List.nil_append]
        refine ⟨⟨.of_mem (by simp), .of_mem (by simp)⟩, ?_⟩
        refine TK.two 11 13 (by decide +kernel) rfl rfl rfl rfl (T1.callX (X := [⟨b30, 0, k1.map byteV, 32⟩]) has_10 rfl (Of_any _ _ n1 [k1] [⟨b30, 0, k1.map byteV, 32⟩] (KeysR.one (by simp) hk1l) (by omega) (by simp)) (by repeat (first | exact Take.nil | apply Take.one (by repeat (first | exact Pick.here | apply Pick.there | apply Pick.far)) | apply Take.seg (by repeat (first | exact PickS.last | exact PickS.one | exact PickS.here | exact PickS.nil | apply PickS.there | apply PickS.far)) | exact Take.last (by repeat (first | exact PickS.last | exact PickS.one | exact PickS.here | exact PickS.nil | apply PickS.there | apply PickS.far)))) (fun v11 Y11 hY11 => ?_)) (T1.allocN 6 zr_27 rfl (fun b6 => ?_))
        ·
         obtain ⟨rfl, hzzY11⟩ := hY11
         rw [hzzY11, show ([k1] : List (List UInt8)).flatten = k1 from by simp]
         simp only [List.cons_append, List.nil_append]
         refine ⟨⟨.of_mem (by simp), .of_mem (by simp)⟩, ?_⟩
         refine TK.one 13 (by decide +kernel) rfl rfl (T1.allocN 6 zr_27 rfl (fun b6 => ?_))
         refine ⟨⟨.of_mem (by simp), .of_mem (by simp)⟩, ?_⟩
         refine TK.one 14 (by decide +kernel) rfl rfl (T1.storeN (vs := (ofG (ofH (n0 ++ k0) 16)).map u32V) rfl rfl sz_27 (ones_u32 _) (by repeat (first | exact Sub.one | apply Sub.there | apply Sub.far)) (by rw [List.length_map, ofG_len]; rfl) (by rw [List.length_map, ofG_len]) ?_)
         refine ⟨⟨.of_mem (by simp), .of_mem (by simp)⟩, ?_⟩
         refine TK.one 15 (by decide +kernel) rfl rfl (T1.storeN (vs := (ofG (ofH (n1 ++ k1) 16)).map u32V) rfl rfl sz_27 (ones_u32 _) (by repeat (first | exact Sub.one | apply Sub.there | apply Sub.far)) (by rw [List.length_map, ofG_len]; rfl) (by rw [List.length_map, ofG_len]) ?_)
         refine ⟨⟨.of_mem (by simp), .of_mem (by simp)⟩, ?_⟩
         refine TD.done (by decide +kernel) ?_
         exact ⟨(b5, b6), _, _, trivial, (.cons rfl (.cons rfl .nil)), .nil, (by repeat (first | exact Take.nil | apply Take.one (by repeat (first | exact Pick.here | apply Pick.there | apply Pick.far)) | apply Take.seg (by repeat (first | exact PickS.last | exact PickS.one | exact PickS.here | exact PickS.nil | apply PickS.there | apply PickS.far)) | exact Take.last (by repeat (first | exact PickS.last | exact PickS.one | exact PickS.here | exact PickS.nil | apply PickS.there | apply PickS.far)))), rfl⟩
        ·
         refine ⟨⟨.of_mem (by simp), .of_mem (by simp)⟩, ?_⟩
         refine TK.one 11 (by decide +kernel) rfl rfl (T1.callX (X := [⟨b30, 0, k1.map byteV, 32⟩]) has_10 rfl (Of_any _ _ n1 [k1] [⟨b30, 0, k1.map byteV, 32⟩] (KeysR.one (by simp) hk1l) (by omega) (by simp)) (by repeat (first | exact Take.nil | apply Take.one (by repeat (first | exact Pick.here | apply Pick.there | apply Pick.far)) | apply Take.seg (by repeat (first | exact PickS.last | exact PickS.one | exact PickS.here | exact PickS.nil | apply PickS.there | apply PickS.far)) | exact Take.last (by repeat (first | exact PickS.last | exact PickS.one | exact PickS.here | exact PickS.nil | apply PickS.there | apply PickS.far)))) (fun v11 Y11 hY11 => ?_))
         obtain ⟨rfl, hzzY11⟩ := hY11
         rw [hzzY11, show ([k1] : List (List UInt8)).flatten = k1 from by simp]
         simp only [List.cons_append, List.nil_append]
         refine ⟨⟨.of_mem (by simp), .of_mem (by simp)⟩, ?_⟩
         refine TK.one 14 (by decide +kernel) rfl rfl (T1.storeN (vs := (ofG (ofH (n0 ++ k0) 16)).map u32V) rfl rfl sz_27 (ones_u32 _) (by repeat (first | exact Sub.one | apply Sub.there | apply Sub.far)) (by rw [List.length_map, ofG_len]; rfl) (by rw [List.length_map, ofG_len]) ?_)
         refine ⟨⟨.of_mem (by simp), .of_mem (by simp)⟩, ?_⟩
         refine TK.one 15 (by decide +kernel) rfl rfl (T1.storeN (vs := (ofG (ofH (n1 ++ k1) 16)).map u32V) rfl rfl sz_27 (ones_u32 _) (by repeat (first | exact Sub.one | apply Sub.there | apply Sub.far)) (by rw [List.length_map, ofG_len]; rfl) (by rw [List.length_map, ofG_len]) ?_)
         refine ⟨⟨.of_mem (by simp), .of_mem (by simp)⟩, ?_⟩
         refine TD.done (by decide +kernel) ?_
         exact ⟨(b5, b6), _, _, trivial, (.cons rfl (.cons rfl .nil)), .nil, (by repeat (first | exact Take.nil | apply Take.one (by repeat (first | exact Pick.here | apply Pick.there | apply Pick.far)) | apply Take.seg (by repeat (first | exact PickS.last | exact PickS.one | exact PickS.here | exact PickS.nil | apply PickS.there | apply PickS.far)) | exact Take.last (by repeat (first | exact PickS.last | exact PickS.one | exact PickS.here | exact PickS.nil | apply PickS.there | apply PickS.far)))), rfl⟩
       ·
        refine ⟨⟨.of_mem (by simp), .of_mem (by simp)⟩, ?_⟩
        refine TK.one 5 (by decide +kernel) rfl rfl (T1.callX (X := [⟨b24, 0, k0.map byteV, 32⟩]) has_10 rfl (Of_any _ _ n0 [k0] [⟨b24, 0, k0.map byteV, 32⟩] (KeysR.one (by simp) hk0l) (by omega) (by simp)) (by repeat (first | exact Take.nil | apply Take.one (by repeat (first | exact Pick.here | apply Pick.there | apply Pick.far)) | apply Take.seg (by repeat (first | exact PickS.last | exact PickS.one | exact PickS.here | exact PickS.nil | apply PickS.there | apply PickS.far)) | exact Take.last (by repeat (first | exact PickS.last | exact PickS.one | exact PickS.here | exact PickS.nil | apply PickS.there | apply PickS.far)))) (fun v5 Y5 hY5 => ?_))
        obtain ⟨rfl, hzzY5⟩ := hY5
        rw [hzzY5, show ([k0] : List (List UInt8)).flatten = k0 from by simp]
        simp only [List.cons_append, List.nil_append]
        refine ⟨⟨.of_mem (by simp), .of_mem (by simp)⟩, ?_⟩
        refine TK.one 11 (by decide +kernel) rfl rfl (T1.callX (X := [⟨b30, 0, k1.map byteV, 32⟩]) has_10 rfl (Of_any _ _ n1 [k1] [⟨b30, 0, k1.map byteV, 32⟩] (KeysR.one (by simp) hk1l) (by omega) (by simp)) (by repeat (first | exact Take.nil | apply Take.one (by repeat (first | exact Pick.here | apply Pick.there | apply Pick.far)) | apply Take.seg (by repeat (first | exact PickS.last | exact PickS.one | exact PickS.here | exact PickS.nil | apply PickS.there | apply PickS.far)) | exact Take.last (by repeat (first | exact PickS.last | exact PickS.one | exact PickS.here | exact PickS.nil | apply PickS.there | apply PickS.far)))) (fun v11 Y11 hY11 => ?_))
        obtain ⟨rfl, hzzY11⟩ := hY11
        rw [hzzY11, show ([k1] : List (List UInt8)).flatten = k1 from by simp]
        simp only [List.cons_append, List.nil_append]
        refine ⟨⟨.of_mem (by simp), .of_mem (by simp)⟩, ?_⟩
        refine TK.one 14 (by decide +kernel) rfl rfl (T1.storeN (vs := (ofG (ofH (n0 ++ k0) 16)).map u32V) rfl rfl sz_27 (ones_u32 _) (by repeat (first | exact Sub.one | apply Sub.there | apply Sub.far)) (by rw [List.length_map, ofG_len]; rfl) (by rw [List.length_map, ofG_len]) ?_)
        refine ⟨⟨.of_mem (by simp), .of_mem (by simp)⟩, ?_⟩
        refine TK.one 15 (by decide +kernel) rfl rfl (T1.storeN (vs := (ofG (ofH (n1 ++ k1) 16)).map u32V) rfl rfl sz_27 (ones_u32 _) (by repeat (first | exact Sub.one | apply Sub.there | apply Sub.far)) (by rw [List.length_map, ofG_len]; rfl) (by rw [List.length_map, ofG_len]) ?_)
        refine ⟨⟨.of_mem (by simp), .of_mem (by simp)⟩, ?_⟩
        refine TD.done (by decide +kernel) ?_
        exact ⟨(b5, b6), _, _, trivial, (.cons rfl (.cons rfl .nil)), .nil, (by repeat (first | exact Take.nil | apply Take.one (by repeat (first | exact Pick.here | apply Pick.there | apply Pick.far)) | apply Take.seg (by repeat (first | exact PickS.last | exact PickS.one | exact PickS.here | exact PickS.nil | apply PickS.there | apply PickS.far)) | exact Take.last (by repeat (first | exact PickS.last | exact PickS.one | exact PickS.here | exact PickS.nil | apply PickS.there | apply PickS.far)))), rfl⟩
      ·
       refine ⟨⟨.of_mem (by simp), .of_mem (by simp)⟩, ?_⟩
       refine TK.two 5 10 (by decide +kernel) rfl rfl rfl rfl (T1.callX (X := [⟨b24, 0, k0.map byteV, 32⟩]) has_10 rfl (Of_any _ _ n0 [k0] [⟨b24, 0, k0.map byteV, 32⟩] (KeysR.one (by simp) hk0l) (by omega) (by simp)) (by repeat (first | exact Take.nil | apply Take.one (by repeat (first | exact Pick.here | apply Pick.there | apply Pick.far)) | apply Take.seg (by repeat (first | exact PickS.last | exact PickS.one | exact PickS.here | exact PickS.nil | apply PickS.there | apply PickS.far)) | exact Take.last (by repeat (first | exact PickS.last | exact PickS.one | exact PickS.here | exact PickS.nil | apply PickS.there | apply PickS.far)))) (fun v5 Y5 hY5 => ?_)) (T1.buildSlN (os := [.tmp 29]) (vs := [.agg (k1.map byteV).toArray]) (vss := [k1.map byteV]) ty_24 sz_36 zr_36 (by decide) rfl (.cons rfl .nil) (by exact Aggs.cons rfl Aggs.nil) rfl (by intro l hl; obtain rfl := List.mem_singleton.1 hl; rw [List.length_map]; exact hk1l) (fun b30 => ?_))
       ·
        obtain ⟨rfl, hzzY5⟩ := hY5
        rw [hzzY5, show ([k0] : List (List UInt8)).flatten = k0 from by simp]
        simp only [List.cons_append, List.nil_append]
        refine ⟨⟨.of_mem (by simp), .of_mem (by simp)⟩, ?_⟩
        refine TK.one 10 (by decide +kernel) rfl rfl (T1.buildSlN (os := [.tmp 29]) (vs := [.agg (k1.map byteV).toArray]) (vss := [k1.map byteV]) ty_24 sz_36 zr_36 (by decide) rfl (.cons rfl .nil) (by exact Aggs.cons rfl Aggs.nil) rfl (by intro l hl; obtain rfl := List.mem_singleton.1 hl; rw [List.length_map]; exact hk1l) (fun b30 => ?_))
        simp only [List.flatten_cons, List.flatten_nil, List.append_nil, Nat.one_mul]
        refine ⟨⟨.of_mem (by simp), .of_mem (by simp)⟩, ?_⟩
        refine TK.one 11 (by decide +kernel) rfl rfl (T1.callX (X := [⟨b30, 0, k1.map byteV, 32⟩]) has_10 rfl (Of_any _ _ n1 [k1] [⟨b30, 0, k1.map byteV, 32⟩] (KeysR.one (by simp) hk1l) (by omega) (by simp)) (by repeat (first | exact Take.nil | apply Take.one (by repeat (first | exact Pick.here | apply Pick.there | apply Pick.far)) | apply Take.seg (by repeat (first | exact PickS.last | exact PickS.one | exact PickS.here | exact PickS.nil | apply PickS.there | apply PickS.far)) | exact Take.last (by repeat (first | exact PickS.last | exact PickS.one | exact PickS.here | exact PickS.nil | apply PickS.there | apply PickS.far)))) (fun v11 Y11 hY11 => ?_))
        obtain ⟨rfl, hzzY11⟩ := hY11
        rw [hzzY11, show ([k1] : List (List UInt8)).flatten = k1 from by simp]
        simp only [List.cons_append, List.nil_append]
        refine ⟨⟨.of_mem (by simp), .of_mem (by simp)⟩, ?_⟩
        refine TK.one 14 (by decide +kernel) rfl rfl (T1.storeN (vs := (ofG (ofH (n0 ++ k0) 16)).map u32V) rfl rfl sz_27 (ones_u32 _) (by repeat (first | exact Sub.one | apply Sub.there | apply Sub.far)) (by rw [List.length_map, ofG_len]; rfl) (by rw [List.length_map, ofG_len]) ?_)
        refine ⟨⟨.of_mem (by simp), .of_mem (by simp)⟩, ?_⟩
        refine TK.one 15 (by decide +kernel) rfl rfl (T1.storeN (vs := (ofG (ofH (n1 ++ k1) 16)).map u32V) rfl rfl sz_27 (ones_u32 _) (by repeat (first | exact Sub.one | apply Sub.there | apply Sub.far)) (by rw [List.length_map, ofG_len]; rfl) (by rw [List.length_map, ofG_len]) ?_)
        refine ⟨⟨.of_mem (by simp), .of_mem (by simp)⟩, ?_⟩
        refine TD.done (by decide +kernel) ?_
        exact ⟨(b5, b6), _, _, trivial, (.cons rfl (.cons rfl .nil)), .nil, (by repeat (first | exact Take.nil | apply Take.one (by repeat (first | exact Pick.here | apply Pick.there | apply Pick.far)) | apply Take.seg (by repeat (first | exact PickS.last | exact PickS.one | exact PickS.here | exact PickS.nil | apply PickS.there | apply PickS.far)) | exact Take.last (by repeat (first | exact PickS.last | exact PickS.one | exact PickS.here | exact PickS.nil | apply PickS.there | apply PickS.far)))), rfl⟩
       ·
        simp only [List.flatten_cons, List.flatten_nil, List.append_nil, Nat.one_mul]
        refine ⟨⟨.of_mem (by simp), .of_mem (by simp)⟩, ?_⟩
        refine TK.one 5 (by decide +kernel) rfl rfl (T1.callX (X := [⟨b24, 0, k0.map byteV, 32⟩]) has_10 rfl (Of_any _ _ n0 [k0] [⟨b24, 0, k0.map byteV, 32⟩] (KeysR.one (by simp) hk0l) (by omega) (by simp)) (by repeat (first | exact Take.nil | apply Take.one (by repeat (first | exact Pick.here | apply Pick.there | apply Pick.far)) | apply Take.seg (by repeat (first | exact PickS.last | exact PickS.one | exact PickS.here | exact PickS.nil | apply PickS.there | apply PickS.far)) | exact Take.last (by repeat (first | exact PickS.last | exact PickS.one | exact PickS.here | exact PickS.nil | apply PickS.there | apply PickS.far)))) (fun v5 Y5 hY5 => ?_))
        obtain ⟨rfl, hzzY5⟩ := hY5
        rw [hzzY5, show ([k0] : List (List UInt8)).flatten = k0 from by simp]
        simp only [List.cons_append, List.nil_append]
        refine ⟨⟨.of_mem (by simp), .of_mem (by simp)⟩, ?_⟩
        refine TK.one 11 (by decide +kernel) rfl rfl (T1.callX (X := [⟨b30, 0, k1.map byteV, 32⟩]) has_10 rfl (Of_any _ _ n1 [k1] [⟨b30, 0, k1.map byteV, 32⟩] (KeysR.one (by simp) hk1l) (by omega) (by simp)) (by repeat (first | exact Take.nil | apply Take.one (by repeat (first | exact Pick.here | apply Pick.there | apply Pick.far)) | apply Take.seg (by repeat (first | exact PickS.last | exact PickS.one | exact PickS.here | exact PickS.nil | apply PickS.there | apply PickS.far)) | exact Take.last (by repeat (first | exact PickS.last | exact PickS.one | exact PickS.here | exact PickS.nil | apply PickS.there | apply PickS.far)))) (fun v11 Y11 hY11 => ?_))
        obtain ⟨rfl, hzzY11⟩ := hY11
        rw [hzzY11, show ([k1] : List (List UInt8)).flatten = k1 from by simp]
        simp only [List.cons_append, List.nil_append]
        refine ⟨⟨.of_mem (by simp), .of_mem (by simp)⟩, ?_⟩
        refine TK.one 14 (by decide +kernel) rfl rfl (T1.storeN (vs := (ofG (ofH (n0 ++ k0) 16)).map u32V) rfl rfl sz_27 (ones_u32 _) (by repeat (first | exact Sub.one | apply Sub.there | apply Sub.far)) (by rw [List.length_map, ofG_len]; rfl) (by rw [List.length_map, ofG_len]) ?_)
        refine ⟨⟨.of_mem (by simp), .of_mem (by simp)⟩, ?_⟩
        refine TK.one 15 (by decide +kernel) rfl rfl (T1.storeN (vs := (ofG (ofH (n1 ++ k1) 16)).map u32V) rfl rfl sz_27 (ones_u32 _) (by repeat (first | exact Sub.one | apply Sub.there | apply Sub.far)) (by rw [List.length_map, ofG_len]; rfl) (by rw [List.length_map, ofG_len]) ?_)
        refine ⟨⟨.of_mem (by simp), .of_mem (by simp)⟩, ?_⟩
        refine TD.done (by decide +kernel) ?_
        exact ⟨(b5, b6), _, _, trivial, (.cons rfl (.cons rfl .nil)), .nil, (by repeat (first | exact Take.nil | apply Take.one (by repeat (first | exact Pick.here | apply Pick.there | apply Pick.far)) | apply Take.seg (by repeat (first | exact PickS.last | exact PickS.one | exact PickS.here | exact PickS.nil | apply PickS.there | apply PickS.far)) | exact Take.last (by repeat (first | exact PickS.last | exact PickS.one | exact PickS.here | exact PickS.nil | apply PickS.there | apply PickS.far)))), rfl⟩
     ·
      simp only [List.flatten_cons, List.flatten_nil, List.append_nil, Nat.one_mul]
      refine ⟨⟨.of_mem (by simp), .of_mem (by simp)⟩, ?_⟩
      refine TK.two 4 13 (by decide +kernel) rfl rfl rfl rfl (T1.buildSlN (os := [.tmp 23]) (vs := [.agg (k0.map byteV).toArray]) (vss := [k0.map byteV]) ty_24 sz_36 zr_36 (by decide) rfl (.cons rfl .nil) (by exact Aggs.cons rfl Aggs.nil) rfl (by intro l hl; obtain rfl := List.mem_singleton.1 hl; rw [List.length_map]; exact hk0l) (fun b24 => ?_)) (T1.allocN 6 zr_27 rfl (fun b6 => ?_))
      ·
       simp only [List.flatten_cons, List.flatten_nil, List.append_nil, Nat.one_mul]
       refine ⟨⟨.of_mem (by simp), .of_mem (by simp)⟩, ?_⟩
       refine TK.two 5 13 (by decide +kernel) rfl rfl rfl rfl (T1.callX (X := [⟨b24, 0, k0.map byteV, 32⟩]) has_10 rfl (Of_any _ _ n0 [k0] [⟨b24, 0, k0.map byteV, 32⟩] (KeysR.one (by simp) hk0l) (by omega) (by simp)) (by repeat (first | exact Take.nil | apply Take.one (by repeat (first | exact Pick.here | apply Pick.there | apply Pick.far)) | apply Take.seg (by repeat (first | exact PickS.last | exact PickS.one | exact PickS.here | exact PickS.nil | apply PickS.there | apply PickS.far)) | exact Take.last (by repeat (first | exact PickS.last | exact PickS.one | exact PickS.here | exact PickS.nil | apply PickS.there | apply PickS.far)))) (fun v5 Y5 hY5 => ?_)) (T1.allocN 6 zr_27 rfl (fun b6 => ?_))
       ·
        obtain ⟨rfl, hzzY5⟩ := hY5
        rw [hzzY5, show ([k0] : List (List UInt8)).flatten = k0 from by simp]
        simp only [List.cons_append, List.nil_append]
        refine ⟨⟨.of_mem (by simp), .of_mem (by simp)⟩, ?_⟩
        refine TK.two 11 13 (by decide +kernel) rfl rfl rfl rfl (T1.callX (X := [⟨b30, 0, k1.map byteV, 32⟩]) has_10 rfl (Of_any _ _ n1 [k1] [⟨b30, 0, k1.map byteV, 32⟩] (KeysR.one (by simp) hk1l) (by omega) (by simp)) (by repeat (first | exact Take.nil | apply Take.one (by repeat (first | exact Pick.here | apply Pick.there | apply Pick.far)) | apply Take.seg (by repeat (first | exact PickS.last | exact PickS.one | exact PickS.here | exact PickS.nil | apply PickS.there | apply PickS.far)) | exact Take.last (by repeat (first | exact PickS.last | exact PickS.one | exact PickS.here | exact PickS.nil | apply PickS.there | apply PickS.far)))) (fun v11 Y11 hY11 => ?_)) (T1.allocN 6 zr_27 rfl (fun b6 => ?_))
        ·
         obtain ⟨rfl, hzzY11⟩ := hY11
         rw [hzzY11, show ([k1] : List (List UInt8)).flatten = k1 from by simp]
         simp only [List.cons_append, List.nil_append]
         refine ⟨⟨.of_mem (by simp), .of_mem (by simp)⟩, ?_⟩
         refine TK.one 13 (by decide +kernel) rfl rfl (T1.allocN 6 zr_27 rfl (fun b6 => ?_))
         refine ⟨⟨.of_mem (by simp), .of_mem (by simp)⟩, ?_⟩
         refine TK.one 14 (by decide +kernel) rfl rfl (T1.storeN (vs := (ofG (ofH (n0 ++ k0) 16)).map u32V) rfl rfl sz_27 (ones_u32 _) (by repeat (first | exact Sub.one | apply Sub.there | apply Sub.far)) (by rw [List.length_map, ofG_len]; rfl) (by rw [List.length_map, ofG_len]) ?_)
         refine ⟨⟨.of_mem (by simp), .of_mem (by simp)⟩, ?_⟩
         refine TK.one 15 (by decide +kernel) rfl rfl (T1.storeN (vs := (ofG (ofH (n1 ++ k1) 16)).map u32V) rfl rfl sz_27 (ones_u32 _) (by repeat (first | exact Sub.one | apply Sub.there | apply Sub.far)) (by rw [List.length_map, ofG_len]; rfl) (by rw [List.length_map, ofG_len]) ?_)
         refine ⟨⟨.of_mem (by simp), .of_mem (by simp)⟩, ?_⟩
         refine TD.done (by decide +kernel) ?_
         exact ⟨(b5, b6), _, _, trivial, (.cons rfl (.cons rfl .nil)), .nil, (by repeat (first | exact Take.nil | apply Take.one (by repeat (first | exact Pick.here | apply Pick.there | apply Pick.far)) | apply Take.seg (by repeat (first | exact PickS.last | exact PickS.one | exact PickS.here | exact PickS.nil | apply PickS.there | apply PickS.far)) | exact Take.last (by repeat (first | exact PickS.last | exact PickS.one | exact PickS.here | exact PickS.nil | apply PickS.there | apply PickS.far)))), rfl⟩
        ·
         refine ⟨⟨.of_mem (by simp), .of_mem (by simp)⟩, ?_⟩
         refine TK.one 11 (by decide +kernel) rfl rfl (T1.callX (X := [⟨b30, 0, k1.map byteV, 32⟩]) has_10 rfl (Of_any _ _ n1 [k1] [⟨b30, 0, k1.map byteV, 32⟩] (KeysR.one (by simp) hk1l) (by omega) (by simp)) (by repeat (first | exact Take.nil | apply Take.one (by repeat (first | exact Pick.here | apply Pick.there | apply Pick.far)) | apply Take.seg (by repeat (first | exact PickS.last | exact PickS.one | exact PickS.here | exact PickS.nil | apply PickS.there | apply PickS.far)) | exact Take.last (by repeat (first | exact PickS.last | exact PickS.one | exact PickS.here | exact PickS.nil | apply PickS.there | apply PickS.far)))) (fun v11 Y11 hY11 => ?_))
         obtain ⟨rfl, hzzY11⟩ := hY11
         rw [hzzY11, show ([k1] : List (List UInt8)).flatten = k1 from by simp]
         simp only [List.cons_append, List.nil_append]
         refine ⟨⟨.of_mem (by simp), .of_mem (by simp)⟩, ?_⟩
         refine TK.one 14 (by decide +kernel) rfl rfl (T1.storeN (vs := (ofG (ofH (n0 ++ k0) 16)).map u32V) rfl rfl sz_27 (ones_u32 _) (by repeat (first | exact Sub.one | apply Sub.there | apply Sub.far)) (by rw [List.length_map, ofG_len]; rfl) (by rw [List.length_map, ofG_len]) ?_)
         refine ⟨⟨.of_mem (by simp), .of_mem (by simp)⟩, ?_⟩
         refine TK.one 15 (by decide +kernel) rfl rfl (T1.storeN (vs := (ofG (ofH (n1 ++ k1) 16)).map u32V) rfl rfl sz_27 (ones_u32 _) (by repeat (first | exact Sub.one | apply Sub.there | apply Sub.far)) (by rw [List.length_map, ofG_len]; rfl) (by rw [List.length_map, ofG_len]) ?_)
         refine ⟨⟨.of_mem (by simp), .of_mem (by simp)⟩, ?_⟩
         refine TD.done (by decide +kernel) ?_
         exact ⟨(b5, b6), _, _, trivial, (.cons rfl (.cons rfl .nil)), .nil, (by repeat (first | exact Take.nil | apply Take.one (by repeat (first | exact Pick.here | apply Pick.there | apply Pick.far)) | apply Take.seg (by repeat (first | exact PickS.last | exact PickS.one | exact PickS.here | exact PickS.nil | apply PickS.there | apply PickS.far)) | exact Take.last (by repeat (first | exact PickS.last | exact PickS.one | exact PickS.here | exact PickS.nil | apply PickS.there | apply PickS.far)))), rfl⟩
       ·
        refine ⟨⟨.of_mem (by simp), .of_mem (by simp)⟩, ?_⟩
        refine TK.one 5 (by decide +kernel) rfl rfl (T1.callX (X := [⟨b24, 0, k0.map byteV, 32⟩]) has_10 rfl (Of_any _ _ n0 [k0] [⟨b24, 0, k0.map byteV, 32⟩] (KeysR.one (by simp) hk0l) (by omega) (by simp)) (by repeat (first | exact Take.nil | apply Take.one (by repeat (first | exact Pick.here | apply Pick.there | apply Pick.far)) | apply Take.seg (by repeat (first | exact PickS.last | exact PickS.one | exact PickS.here | exact PickS.nil | apply PickS.there | apply PickS.far)) | exact Take.last (by repeat (first | exact PickS.last | exact PickS.one | exact PickS.here | exact PickS.nil | apply PickS.there | apply PickS.far)))) (fun v5 Y5 hY5 => ?_))
        obtain ⟨rfl, hzzY5⟩ := hY5
        rw [hzzY5, show ([k0] : List (List UInt8)).flatten = k0 from by simp]
        simp only [List.cons_append, List.nil_append]
        refine ⟨⟨.of_mem (by simp), .of_mem (by simp)⟩, ?_⟩
        refine TK.one 11 (by decide +kernel) rfl rfl (T1.callX (X := [⟨b30, 0, k1.map byteV, 32⟩]) has_10 rfl (Of_any _ _ n1 [k1] [⟨b30, 0, k1.map byteV, 32⟩] (KeysR.one (by simp) hk1l) (by omega) (by simp)) (by repeat (first | exact Take.nil | apply Take.one (by repeat (first | exact Pick.here | apply Pick.there | apply Pick.far)) | apply Take.seg (by repeat (first | exact PickS.last | exact PickS.one | exact PickS.here | exact PickS.nil | apply PickS.there | apply PickS.far)) | exact Take.last (by repeat (first | exact PickS.last | exact PickS.one | exact PickS.here | exact PickS.nil | apply PickS.there | apply PickS.far)))) (fun v11 Y11 hY11 => ?_))
        obtain ⟨rfl, hzzY11⟩ := hY11
        rw [hzzY11, show ([k1] : List (List UInt8)).flatten = k1 from by simp]
        simp only [List.cons_append, List.nil_append]
        refine ⟨⟨.of_mem (by simp), .of_mem (by simp)⟩, ?_⟩
        refine TK.one 14 (by decide +kernel) rfl rfl (T1.storeN (vs := (ofG (ofH (n0 ++ k0) 16)).map u32V) rfl rfl sz_27 (ones_u32 _) (by repeat (first | exact Sub.one | apply Sub.there | apply Sub.far)) (by rw [List.length_map, ofG_len]; rfl) (by rw [List.length_map, ofG_len]) ?_)
        refine ⟨⟨.of_mem (by simp), .of_mem (by simp)⟩, ?_⟩
        refine TK.one 15 (by decide +kernel) rfl rfl (T1.storeN (vs := (ofG (ofH (n1 ++ k1) 16)).map u32V) rfl rfl sz_27 (ones_u32 _) (by repeat (first | exact Sub.one | apply Sub.there | apply Sub.far)) (by rw [List.length_map, ofG_len]; rfl) (by rw [List.length_map, ofG_len]) ?_)
        refine ⟨⟨.of_mem (by simp), .of_mem (by simp)⟩, ?_⟩
        refine TD.done (by decide +kernel) ?_
        exact ⟨(b5, b6), _, _, trivial, (.cons rfl (.cons rfl .nil)), .nil, (by repeat (first | exact Take.nil | apply Take.one (by repeat (first | exact Pick.here | apply Pick.there | apply Pick.far)) | apply Take.seg (by repeat (first | exact PickS.last | exact PickS.one | exact PickS.here | exact PickS.nil | apply PickS.there | apply PickS.far)) | exact Take.last (by repeat (first | exact PickS.last | exact PickS.one | exact PickS.here | exact PickS.nil | apply PickS.there | apply PickS.far)))), rfl⟩
      ·
       refine ⟨⟨.of_mem (by simp), .of_mem (by simp)⟩, ?_⟩
       refine TK.one 4 (by decide +kernel) rfl rfl (T1.buildSlN (os := [.tmp 23]) (vs := [.agg (k0.map byteV).toArray]) (vss := [k0.map byteV]) ty_24 sz_36 zr_36 (by decide) rfl (.cons rfl .nil) (by exact Aggs.cons rfl Aggs.nil) rfl (by intro l hl; obtain rfl := List.mem_singleton.1 hl; rw [List.length_map]; exact hk0l) (fun b24 => ?_))
       simp only [List.flatten_cons, List.flatten_nil, List.append_nil, Nat.one_mul]
       refine ⟨⟨.of_mem (by simp), .of_mem (by simp)⟩, ?_⟩
       refine TK.one 5 (by decide +kernel) rfl rfl (T1.callX (X := [⟨b24, 0, k0.map byteV, 32⟩]) has_10 rfl (Of_any _ _ n0 [k0] [⟨b24, 0, k0.map byteV, 32⟩] (KeysR.one (by simp) hk0l) (by omega) (by simp)) (by repeat (first | exact Take.nil | apply Take.one (by repeat (first | exact Pick.here | apply Pick.there | apply Pick.far)) | apply Take.seg (by repeat (first | exact PickS.last | exact PickS.one | exact PickS.here | exact PickS.nil | apply PickS.there | apply PickS.far)) | exact Take.last (by repeat (first | exact PickS.last | exact PickS.one | exact PickS.here | exact PickS.nil | apply PickS.there | apply PickS.far)))) (fun v5 Y5 hY5 => ?_))
       obtain ⟨rfl, hzzY5⟩ := hY5
       rw [hzzY5, show ([k0] : List (List UInt8)).flatten = k0 from by simp]
       simp only [List.cons_append, List.nil_append]
       refine ⟨⟨.of_mem (by simp), .of_mem (by simp)⟩, ?_⟩
       refine TK.one 11 (by decide +kernel) rfl rfl (T1.callX (X := [⟨b30, 0, k1.map byteV, 32⟩]) has_10 rfl (Of_any _ _ n1 [k1] [⟨b30, 0, k1.map byteV, 32⟩] (KeysR.one (by simp) hk1l) (by omega) (by simp)) (by repeat (first | exact Take.nil | apply Take.one (by repeat (first | exact Pick.here | apply Pick.there | apply Pick.far)) | apply Take.seg (by repeat (first | exact PickS.last | exact PickS.one | exact PickS.here | exact PickS.nil | apply PickS.there | apply PickS.far)) | exact Take.last (by repeat (first | exact PickS.last | exact PickS.one | exact PickS.here | exact PickS.nil | apply PickS.there | apply PickS.far)))) (fun v11 Y11 hY11 => ?_))
       obtain ⟨rfl, hzzY11⟩ := hY11
       rw [hzzY11, show ([k1] : List (List UInt8)).flatten = k1 from by simp]
       simp only [List.cons_append, List.nil_append]
       refine ⟨⟨.of_mem (by simp), .of_mem (by simp)⟩, ?_⟩
       refine TK.one 14 (by decide +kernel) rfl rfl (T1.storeN (vs := (ofG (ofH (n0 ++ k0) 16)).map u32V) rfl rfl sz_27 (ones_u32 _) (by repeat (first | exact Sub.one | apply Sub.there | apply Sub.far)) (by rw [List.length_map, ofG_len]; rfl) (by rw [List.length_map, ofG_len]) ?_)
       refine ⟨⟨.of_mem (by simp), .of_mem (by simp)⟩, ?_⟩
       refine TK.one 15 (by decide +kernel) rfl rfl (T1.storeN (vs := (ofG (ofH (n1 ++ k1) 16)).map u32V) rfl rfl sz_27 (ones_u32 _) (by repeat (first | exact Sub.one | apply Sub.there | apply Sub.far)) (by rw [List.length_map, ofG_len]; rfl) (by rw [List.length_map, ofG_len]) ?_)
       refine ⟨⟨.of_mem (by simp), .of_mem (by simp)⟩, ?_⟩
       refine TD.done (by decide +kernel) ?_
       exact ⟨(b5, b6), _, _, trivial, (.cons rfl (.cons rfl .nil)), .nil, (by repeat (first | exact Take.nil | apply Take.one (by repeat (first | exact Pick.here | apply Pick.there | apply Pick.far)) | apply Take.seg (by repeat (first | exact PickS.last | exact PickS.one | exact PickS.here | exact PickS.nil | apply PickS.there | apply PickS.far)) | exact Take.last (by repeat (first | exact PickS.last | exact PickS.one | exact PickS.here | exact PickS.nil | apply PickS.there | apply PickS.far)))), rfl⟩
     ·
      refine ⟨⟨.of_mem (by simp), .of_mem (by simp)⟩, ?_⟩
      refine TK.two 4 10 (by decide +kernel) rfl rfl rfl rfl (T1.buildSlN (os := [.tmp 23]) (vs := [.agg (k0.map byteV).toArray]) (vss := [k0.map byteV]) ty_24 sz_36 zr_36 (by decide) rfl (.cons rfl .nil) (by exact Aggs.cons rfl Aggs.nil) rfl (by intro l hl; obtain rfl := List.mem_singleton.1 hl; rw [List.length_map]; exact hk0l) (fun b24 => ?_)) (T1.buildSlN (os := [.tmp 29]) (vs := [.agg (k1.map byteV).toArray]) (vss := [k1.map byteV]) ty_24 sz_36 zr_36 (by decide) rfl (.cons rfl .nil) (by exact Aggs.cons rfl Aggs.nil) rfl (by intro l hl; obtain rfl := List.mem_singleton.1 hl; rw [List.length_map]; exact hk1l) (fun b30 => ?_))
      ·
       simp only [List.flatten_cons, List.flatten_nil, List.append_nil, Nat.one_mul]
       refine ⟨⟨.of_mem (by simp), .of_mem (by simp)⟩, ?_⟩
       refine TK.two 5 10 (by decide +kernel) rfl rfl rfl rfl (T1.callX (X := [⟨b24, 0, k0.map byteV, 32⟩]) has_10 rfl (Of_any _ _ n0 [k0] [⟨b24, 0, k0.map byteV, 32⟩] (KeysR.one (by simp) hk0l) (by omega) (by simp)) (by repeat (first | exact Take.nil | apply Take.one (by repeat (first | exact Pick.here | apply Pick.there | apply Pick.far)) | apply Take.seg (by repeat (first | exact PickS.last | exact PickS.one | exact PickS.here | exact PickS.nil | apply PickS.there | apply PickS.far)) | exact Take.last (by repeat (first | exact PickS.last | exact PickS.one | exact PickS.here | exact PickS.nil | apply PickS.there | apply PickS.far)))) (fun v5 Y5 hY5 => ?_)) (T1.buildSlN (os := [.tmp 29]) (vs := [.agg (k1.map byteV).toArray]) (vss := [k1.map byteV]) ty_24 sz_36 zr_36 (by decide) rfl (.cons rfl .nil) (by exact Aggs.cons rfl Aggs.nil) rfl (by intro l hl; obtain rfl := List.mem_singleton.1 hl; rw [List.length_map]; exact hk1l) (fun b30 => ?_))
       ·
        obtain ⟨rfl, hzzY5⟩ := hY5
        rw [hzzY5, show ([k0] : List (List UInt8)).flatten = k0 from by simp]
        simp only [List.cons_append, List.nil_append]
        refine ⟨⟨.of_mem (by simp), .of_mem (by simp)⟩, ?_⟩
        refine TK.one 10 (by decide +kernel) rfl rfl (T1.buildSlN (os := [.tmp 29]) (vs := [.agg (k1.map byteV).toArray]) (vss := [k1.map byteV]) ty_24 sz_36 zr_36 (by decide) rfl (.cons rfl .nil) (by exact Aggs.cons rfl Aggs.nil) rfl (by intro l hl; obtain rfl := List.mem_singleton.1 hl; rw [List.length_map]; exact hk1l) (fun b30 => ?_))
        simp only [List.flatten_cons, List.flatten_nil, List.append_nil, Nat.one_mul]
        refine ⟨⟨.of_mem (by simp), .of_mem (by simp)⟩, ?_⟩
        refine TK.one 11 (by decide +kernel) rfl rfl (T1.callX (X := [⟨b30, 0, k1.map byteV, 32⟩]) has_10 rfl (Of_any _ _ n1 [k1] [⟨b30, 0, k1.map byteV, 32⟩] (KeysR.one (by simp) hk1l) (by omega) (by simp)) (by repeat (first | exact Take.nil | apply Take.one (by repeat (first | exact Pick.here | apply Pick.there | apply Pick.far)) | apply Take.seg (by repeat (first | exact PickS.last | exact PickS.one | exact PickS.here | exact PickS.nil | apply PickS.there | apply PickS.far)) | exact Take.last (by repeat (first | exact PickS.last | exact PickS.one | exact PickS.here | exact PickS.nil | apply PickS.there | apply PickS.far)))) (fun v11 Y11 hY11 => ?_))
        obtain ⟨rfl, hzzY11⟩ := hY11
        rw [hzzY11, show ([k1] : List (List UInt8)).flatten = k1 from by simp]
        simp only [List.cons_append, List.nil_append]
        refine ⟨⟨.of_mem (by simp), .of_mem (by simp)⟩, ?_⟩
        refine TK.one 14 (by decide +kernel) rfl rfl (T1.storeN (vs := (ofG (ofH (n0 ++ k0) 16)).map u32V) rfl rfl sz_27 (ones_u32 _) (by repeat (first | exact Sub.one | apply Sub.there | apply Sub.far)) (by rw [List.length_map, ofG_len]; rfl) (by rw [List.length_map, ofG_len]) ?_)
        refine ⟨⟨.of_mem (by simp), .of_mem (by simp)⟩, ?_⟩
        refine TK.one 15 (by decide +kernel) rfl rfl (T1.storeN (vs := (ofG (ofH (n1 ++ k1) 16)).map u32V) rfl rfl sz_27 (ones_u32 _) (by repeat (first | exact Sub.one | apply Sub.there | apply Sub.far)) (by rw [List.length_map, ofG_len]; rfl) (by rw [List.length_map, ofG_len]) ?_)
        refine ⟨⟨.of_mem (by simp), .of_mem (by simp)⟩, ?_⟩
        refine TD.done (by decide +kernel) ?_
        exact ⟨(b5, b6), _, _, trivial, (.cons rfl (.cons rfl .nil)), .nil, (by repeat (first | exact Take.nil | apply Take.one (by repeat (first | exact Pick.here | apply Pick.there | apply Pick.far)) | apply Take.seg (by repeat (first | exact PickS.last | exact PickS.one | exact PickS.here | exact PickS.nil | apply PickS.there | apply PickS.far)) | exact Take.last (by repeat (first | exact PickS.last | exact PickS.one | exact PickS.here | exact PickS.nil | apply PickS.there | apply PickS.far)))), rfl⟩
       ·
        simp only [List.flatten_cons, List.flatten_nil, List.append_nil, Nat.one_mul]
        refine ⟨⟨.of_mem (by simp), .of_mem (by simp)⟩, ?_⟩
        refine TK.one 5 (by decide +kernel) rfl rfl (T1.callX (X := [⟨b24, 0, k0.map byteV, 32⟩]) has_10 rfl (Of_any _ _ n0 [k0] [⟨b24, 0, k0.map byteV, 32⟩] (KeysR.one (by simp) hk0l) (by omega) (by simp)) (by repeat (first | exact Take.nil | apply Take.one (by repeat (first | exact Pick.here | apply Pick.there | apply Pick.far)) | apply Take.seg (by repeat (first | exact PickS.last | exact PickS.one | exact PickS.here | exact PickS.nil | apply PickS.there | apply PickS.far)) | exact Take.last (by repeat (first | exact PickS.last | exact PickS.one | exact PickS.here | exact PickS.nil | apply PickS.there | apply PickS.far)))) (fun v5 Y5 hY5 => ?_))
        obtain ⟨rfl, hzzY5⟩ := hY5
        rw [hzzY5, show ([k0] : List (List UInt8)).flatten = k0 from by simp]
        simp only [List.cons_append, List.nil_append]
        refine ⟨⟨.of_mem (by simp), .of_mem (by simp)⟩, ?_⟩
        refine TK.one 11 (by decide +kernel) rfl rfl (T1.callX (X := [⟨b30, 0, k1.map byteV, 32⟩]) has_10 rfl (Of_any _ _ n1 [k1] [⟨b30, 0, k1.map byteV, 32⟩] (KeysR.one (by simp) hk1l) (by omega) (by simp)) (by repeat (first | exact Take.nil | apply Take.one (by repeat (first | exact Pick.here | apply Pick.there | apply Pick.far)) | apply Take.seg (by repeat (first | exact PickS.last | exact PickS.one | exact PickS.here | exact PickS.nil | apply PickS.there | apply PickS.far)) | exact Take.last (by repeat (first | exact PickS.last | exact PickS.one | exact PickS.here | exact PickS.nil | apply PickS.there | apply PickS.far)))) (fun v11 Y11 hY11 => ?_))
        obtain ⟨rfl, hzzY11⟩ := hY11
        rw [hzzY11, show ([k1] : List (List UInt8)).flatten = k1 from by simp]
        simp only [List.cons_append, List.nil_append]
        refine ⟨⟨.of_mem (by simp), .of_mem (by simp)⟩, ?_⟩
        refine TK.one 14 (by decide +kernel) rfl rfl (T1.storeN (vs := (ofG (ofH (n0 ++ k0) 16)).map u32V) rfl rfl sz_27 (ones_u32 _) (by repeat (first | exact Sub.one | apply Sub.there | apply Sub.far)) (by rw [List.length_map, ofG_len]; rfl) (by rw [List.length_map, ofG_len]) ?_)
        refine ⟨⟨.of_mem (by simp), .of_mem (by simp)⟩, ?_⟩
        refine TK.one 15 (by decide +kernel) rfl rfl (T1.storeN (vs := (ofG (ofH (n1 ++ k1) 16)).map u32V) rfl rfl sz_27 (ones_u32 _) (by repeat (first | exact Sub.one | apply Sub.there | apply Sub.far)) (by rw [List.length_map, ofG_len]; rfl) (by rw [List.length_map, ofG_len]) ?_)
        refine ⟨⟨.of_mem (by simp), .of_mem (by simp)⟩, ?_⟩
        refine TD.done (by decide +kernel) ?_
        exact ⟨(b5, b6), _, _, trivial, (.cons rfl (.cons rfl .nil)), .nil, (by repeat (first | exact Take.nil | apply Take.one (by repeat (first | exact Pick.here | apply Pick.there | apply Pick.far)) | apply Take.seg (by repeat (first | exact PickS.last | exact PickS.one | exact PickS.here | exact PickS.nil | apply PickS.there | apply PickS.far)) | exact Take.last (by repeat (first | exact PickS.last | exact PickS.one | exact PickS.here | exact PickS.nil | apply PickS.there | apply PickS.far)))), rfl⟩
      ·
       simp only [List.flatten_cons, List.flatten_nil, List.append_nil, Nat.one_mul]
       refine ⟨⟨.of_mem (by simp), .of_mem (by simp)⟩, ?_⟩
       refine TK.one 4 (by decide +kernel) rfl rfl (T1.buildSlN (os := [.tmp 23]) (vs := [.agg (k0.map byteV).toArray]) (vss := [k0.map byteV]) ty_24 sz_36 zr_36 (by decide) rfl (.cons rfl .nil) (by exact Aggs.cons rfl Aggs.nil) rfl (by intro l hl; obtain rfl := List.mem_singleton.1 hl; rw [List.length_map]; exact hk0l) (fun b24 => ?_))
       simp only [List.flatten_cons, List.flatten_nil, List.append_nil, Nat.one_mul]
       refine ⟨⟨.of_mem (by simp), .of_mem (by simp)⟩, ?_⟩
       refine TK.one 5 (by decide +kernel) rfl rfl (T1.callX (X := [⟨b24, 0, k0.map byteV, 32⟩]) has_10 rfl (Of_any _ _ n0 [k0] [⟨b24, 0, k0.map byteV, 32⟩] (KeysR.one (by simp) hk0l) (by omega) (by simp)) (by repeat (first | exact Take.nil | apply Take.one (by repeat (first | exact Pick.here | apply Pick.there | apply Pick.far)) | apply Take.seg (by repeat (first | exact PickS.last | exact PickS.one | exact PickS.here | exact PickS.nil | apply PickS.there | apply PickS.far)) | exact Take.last (by repeat (first | exact PickS.last | exact PickS.one | exact PickS.here | exact PickS.nil | apply PickS.there | apply PickS.far)))) (fun v5 Y5 hY5 => ?_))
       obtain ⟨rfl, hzzY5⟩ := hY5
       rw [hzzY5, show ([k0] : List (List UInt8)).flatten = k0 from by simp]
       simp only [List.cons_append, List.nil_append]
       refine ⟨⟨.of_mem (by simp), .of_mem (by simp)⟩, ?_⟩
       refine TK.one 11 (by decide +kernel) rfl rfl (T1.callX (X := [⟨b30, 0, k1.map byteV, 32⟩]) has_10 rfl (Of_any _ _ n1 [k1] [⟨b30, 0, k1.map byteV, 32⟩] (KeysR.one (by simp) hk1l) (by omega) (by simp)) (by repeat (first | exact Take.nil | apply Take.one (by repeat (first | exact Pick.here | apply Pick.there | apply Pick.far)) | apply Take.seg (by repeat (first | exact PickS.last | exact PickS.one | exact PickS.here | exact PickS.nil | apply PickS.there | apply PickS.far)) | exact Take.last (by repeat (first | exact PickS.last | exact PickS.one | exact PickS.here | exact PickS.nil | apply PickS.there | apply PickS.far)))) (fun v11 Y11 hY11 => ?_))
       obtain ⟨rfl, hzzY11⟩ := hY11
       rw [hzzY11, show ([k1] : List (List UInt8)).flatten = k1 from by simp]
       simp only [List.cons_append, List.nil_append]
       refine ⟨⟨.of_mem (by simp), .of_mem (by simp)⟩, ?_⟩
       refine TK.one 14 (by decide +kernel) rfl rfl (T1.storeN (vs := (ofG (ofH (n0 ++ k0) 16)).map u32V) rfl rfl sz_27 (ones_u32 _) (by repeat (first | exact Sub.one | apply Sub.there | apply Sub.far)) (by rw [List.length_map, ofG_len]; rfl) (by rw [List.length_map, ofG_len]) ?_)
       refine ⟨⟨.of_mem (by simp), .of_mem (by simp)⟩, ?_⟩
       refine TK.one 15 (by decide +kernel) rfl rfl (T1.storeN (vs := (ofG (ofH (n1 ++ k1) 16)).map u32V) rfl rfl sz_27 (ones_u32 _) (by repeat (first | exact Sub.one | apply Sub.there | apply Sub.far)) (by rw [List.length_map, ofG_len]; rfl) (by rw [List.length_map, ofG_len]) ?_)
       refine ⟨⟨.of_mem (by simp), .of_mem (by simp)⟩, ?_⟩
       refine TD.done (by decide +kernel) ?_
       exact ⟨(b5, b6), _, _, trivial, (.cons rfl (.cons rfl .nil)), .nil, (by repeat (first | exact Take.nil | apply Take.one (by repeat (first | exact Pick.here | apply Pick.there | apply Pick.far)) | apply Take.seg (by repeat (first | exact PickS.last | exact PickS.one | exact PickS.here | exact PickS.nil | apply PickS.there | apply PickS.far)) | exact Take.last (by repeat (first | exact PickS.last | exact PickS.one | exact PickS.here | exact PickS.nil | apply PickS.there | apply PickS.far)))), rfl⟩
    ·
     refine ⟨⟨.of_mem (by simp), .of_mem (by simp)⟩, ?_⟩
     refine TK.three 4 10 12 (by decide +kernel) rfl rfl rfl rfl rfl rfl (T1.buildSlN (os := [.tmp 23]) (vs := [.agg (k0.map byteV).toArray]) (vss := [k0.map byteV]) ty_24 sz_36 zr_36 (by decide) rfl (.cons rfl .nil) (by exact Aggs.cons rfl Aggs.nil) rfl (by intro l hl; obtain rfl := List.mem_singleton.1 hl; rw [List.length_map]; exact hk0l) (fun b24 => ?_)) (T1.buildSlN (os := [.tmp 29]) (vs := [.agg (k1.map byteV).toArray]) (vss := [k1.map byteV]) ty_24 sz_36 zr_36 (by decide) rfl (.cons rfl .nil) (by exact Aggs.cons rfl Aggs.nil) rfl (by intro l hl; obtain rfl := List.mem_singleton.1 hl; rw [List.length_map]; exact hk1l) (fun b30 => ?_)) (T1.allocN 6 zr_27 rfl (fun b5 => ?_))
     ·
      simp only [List.flatten_cons, List.flatten_nil, List.append_nil, Nat.one_mul]
      refine ⟨⟨.of_mem (by simp), .of_mem (by simp)⟩, ?_⟩
      refine TK.three 5 10 12 (by decide +kernel) rfl rfl rfl rfl rfl rfl (T1.callX (X := [⟨b24, 0, k0.map byteV, 32⟩]) has_10 rfl (Of_any _ _ n0 [k0] [⟨b24, 0, k0.map byteV, 32⟩] (KeysR.one (by simp) hk0l) (by omega) (by simp)) (by repeat (first | exact Take.nil | apply Take.one (by repeat (first | exact Pick.here | apply Pick.there | apply Pick.far)) | apply Take.seg (by repeat (first | exact PickS.last | exact PickS.one | exact PickS.here | exact PickS.nil | apply PickS.there | apply PickS.far)) | exact Take.last (by repeat (first | exact PickS.last | exact PickS.one | exact PickS.here | exact PickS.nil | apply PickS.there | apply PickS.far)))) (fun v5 Y5 hY5 => ?_)) (T1.buildSlN (os := [.tmp 29]) (vs := [.agg (k1.map byteV).toArray]) (vss := [k1.map byteV]) ty_24 sz_36 zr_36 (by decide) rfl (.cons rfl .nil) (by exact Aggs.cons rfl Aggs.nil) rfl (by intro l hl; obtain rfl := List.mem_singleton.1 hl; rw [List.length_map]; exact hk1l) (fun b30 => ?_)) (T1.allocN 6 zr_27 rfl (fun b5 => ?_))
      ·
       obtain ⟨rfl, hzzY5⟩ := hY5
       rw [hzzY5, show ([k0] : List (List UInt8)).flatten = k0 from by simp]
       simp only [List.cons_append, List.nil_append]
       refine ⟨⟨.of_mem (by simp), .of_mem (by simp)⟩, ?_⟩
       refine TK.two 10 12 (by decide +kernel) rfl rfl rfl rfl (T1.buildSlN (os := [.tmp 29]) (vs := [.agg (k1.map byteV).toArray]) (vss := [k1.map byteV]) ty_24 sz_36 zr_36 (by decide) rfl (.cons rfl .nil) (by exact Aggs.cons rfl Aggs.nil) rfl (by intro l hl; obtain rfl := List.mem_singleton.1 hl; rw [List.length_map]; exact hk1l) (fun b30 => ?_)) (T1.allocN 6 zr_27 rfl (fun b5 => ?_))
       ·
        simp only [List.flatten_cons, List.flatten_nil, List.append_nil, Nat.one_mul]
        refine ⟨⟨.of_mem (by simp), .of_mem (by simp)⟩, ?_⟩
        refine TK.two 11 12 (by decide +kernel) rfl rfl rfl rfl (T1.callX (X := [⟨b30, 0, k1.map byteV, 32⟩]) has_10 rfl (Of_any _ _ n1 [k1] [⟨b30, 0, k1.map byteV, 32⟩] (KeysR.one (by simp) hk1l) (by omega) (by simp)) (by repeat (first | exact Take.nil | apply Take.one (by repeat (first | exact Pick.here | apply Pick.there | apply Pick.far)) | apply Take.seg (by repeat (first | exact PickS.last | exact PickS.one | exact PickS.here | exact PickS.nil | apply PickS.there | apply PickS.far)) | exact Take.last (by repeat (first | exact PickS.last | exact PickS.one | exact PickS.here | exact PickS.nil | apply PickS.there | apply PickS.far)))) (fun v11 Y11 hY11 => ?_)) (T1.allocN 6 zr_27 rfl (fun b5 => ?_))
        ·
         obtain ⟨rfl, hzzY11⟩ := hY11
         rw [hzzY11, show ([k1] : List (List UInt8)).flatten = k1 from by simp]
         simp only [List.cons_append, List.nil_append]
         refine ⟨⟨.of_mem (by simp), .of_mem (by simp)⟩, ?_⟩
         refine TK.one 12 (by decide +kernel) rfl rfl (T1.allocN 6 zr_27 rfl (fun b5 => ?_))
         refine ⟨⟨.of_mem (by simp), .of_mem (by simp)⟩, ?_⟩
         refine TK.one 14 (by decide +kernel) rfl rfl (T1.storeN (vs := (ofG (ofH (n0 ++ k0) 16)).map u32V) rfl rfl sz_27 (ones_u32 _) (by repeat (first | exact Sub.one | apply Sub.there | apply Sub.far)) (by rw [List.length_map, ofG_len]; rfl) (by rw [List.length_map, ofG_len]) ?_)
         refine ⟨⟨.of_mem (by simp), .of_mem (by simp)⟩, ?_⟩
         refine TK.one 15 (by decide +kernel) rfl rfl (T1.storeN (vs := (ofG (ofH (n1 ++ k1) 16)).map u32V) rfl rfl sz_27 (ones_u32 _) (by repeat (first | exact Sub.one | apply Sub.there | apply Sub.far)) (by rw [List.length_map, ofG_len]; rfl) (by rw [List.length_map, ofG_len]) ?_)
         refine ⟨⟨.of_mem (by simp), .of_mem (by simp)⟩, ?_⟩
         refine TD.done (by decide +kernel) ?_
         exact ⟨(b5, b6), _, _, trivial, (.cons rfl (.cons rfl .nil)), .nil, (by repeat (first | exact Take.nil | apply Take.one (by repeat (first | exact Pick.here | apply Pick.there | apply Pick.far)) | apply Take.seg (by repeat (first | exact PickS.last | exact PickS.one | exact PickS.here | exact PickS.nil | apply PickS.there | apply PickS.far)) | exact Take.last (by repeat (first | exact PickS.last | exact PickS.one | exact PickS.here | exact PickS.nil | apply PickS.there | apply PickS.far)))), rfl⟩
        ·
         refine ⟨⟨.of_mem (by simp), .of_mem (by simp)⟩, ?_⟩
         refine TK.one 11 (by decide +kernel) rfl rfl (T1.callX (X := [⟨b30, 0, k1.map byteV, 32⟩]) has_10 rfl (Of_any _ _ n1 [k1] [⟨b30, 0, k1.map byteV, 32⟩] (KeysR.one (by simp) hk1l) (by omega) (by simp)) (by repeat (first | exact Take.nil | apply Take.one (by repeat (first | exact Pick.here | apply Pick.there | apply Pick.far)) | apply Take.seg (by repeat (first | exact PickS.last | exact PickS.one | exact PickS.here | exact PickS.nil | apply PickS.there | apply PickS.far)) | exact Take.last (by repeat (first | exact PickS.last | exact PickS.one | exact PickS.here | exact PickS.nil | apply PickS.there | apply PickS.far)))) (fun v11 Y11 hY11 => ?_))
         obtain ⟨rfl, hzzY11⟩ := hY11
         rw [hzzY11, show ([k1] : List (List UInt8)).flatten = k1 from by simp]
         simp only [List.cons_append, List.nil_append]
         refine ⟨⟨.of_mem (by simp), .of_mem (by simp)⟩, ?_⟩
         refine TK.one 14 (by decide +kernel) rfl rfl (T1.storeN (vs := (ofG (ofH (n0 ++ k0) 16)).map u32V) rfl rfl sz_27 (ones_u32 _) (by repeat (first | exact Sub.one | apply Sub.there | apply Sub.far)) (by rw [List.length_map, ofG_len]; rfl) (by rw [List.length_map, ofG_len]) ?_)
         refine ⟨⟨.of_mem (by simp), .of_mem (by simp)⟩, ?_⟩
         refine TK.one 15 (by decide +kernel) rfl rfl (T1.storeN (vs := (ofG (ofH (n1 ++ k1) 16)).map u32V) rfl rfl sz_27 (ones_u32 _) (by repeat (first | exact Sub.one | apply Sub.there | apply Sub.far)) (by rw [List.length_map, ofG_len]; rfl) (by rw [List.length_map, ofG_len]) ?_)
         refine ⟨⟨.of_mem (by simp), .of_mem (by simp)⟩, ?_⟩
         refine TD.done (by decide +kernel) ?_
         exact ⟨(b5, b6), _, _, trivial, (.cons rfl (.cons rfl .nil)), .nil, (by repeat (first | exact Take.nil | apply Take.one (by repeat (first | exact Pick.here | apply Pick.there | apply Pick.far)) | apply Take.seg (by repeat (first | exact PickS.last | exact PickS.one | exact PickS.here | exact PickS.nil | apply PickS.there | apply PickS.far)) | exact Take.last (by repeat (first | exact PickS.last | exact PickS.one | exact PickS.here | exact PickS.nil | apply PickS.there | apply PickS.far)))), rfl⟩
       ·
        refine ⟨⟨.of_mem (by simp), .of_mem (by simp)⟩, ?_⟩
        refine TK.one 10 (by decide +kernel) rfl rfl (T1.buildSlN (os := [.tmp 29]) (vs := [.agg (k1.map byteV).toArray]) (vss := [k1.map byteV]) ty_24 sz_36 zr_36 (by decide) rfl (.cons rfl .nil) (by exact Aggs.cons rfl Aggs.nil) rfl (by intro l hl; obtain rfl := List.mem_singleton.1 hl; rw [List.length_map]; exact hk1l) (fun b30 => ?_))
        simp only [List.flatten_cons, List.flatten_nil, List.append_nil, Nat.one_mul]
        refine ⟨⟨.of_mem (by simp), .of_mem (by simp)⟩, ?_⟩
        refine TK.one 11 (by decide +kernel) rfl rfl (T1.callX (X := [⟨b30, 0, k1.map byteV, 32⟩]) has_10 rfl (Of_any _ _ n1 [k1] [⟨b30, 0, k1.map byteV, 32⟩] (KeysR.one (by simp) hk1l) (by omega) (by simp)) (by repeat (first | exact Take.nil | apply Take.one (by repeat (first | exact Pick.here | apply Pick.there | apply Pick.far)) | apply Take.seg (by repeat (first | exact PickS.last | exact PickS.one | exact PickS.here | exact PickS.nil | apply PickS.there | apply PickS.far)) | exact Take.last (by repeat (first | exact PickS.last | exact PickS.one | exact PickS.here | exact PickS.nil | apply PickS.there | apply PickS.far)))) (fun v11 Y11 hY11 => ?_))
        obtain ⟨rfl, hzzY11⟩ := hY11
        rw [hzzY11, show ([k1] : List (List UInt8)).flatten = k1 from by simp]
        simp only [List.cons_append, List.nil_append]
        refine ⟨⟨.of_mem (by simp), .of_mem (by simp)⟩, ?_⟩
        refine TK.one 14 (by decide +kernel) rfl rfl (T1.storeN (vs := (ofG (ofH (n0 ++ k0) 16)).map u32V) rfl rfl sz_27 (ones_u32 _) (by repeat (first | exact Sub.one | apply Sub.there | apply Sub.far)) (by rw [List.length_map, ofG_len]; rfl) (by rw [List.length_map, ofG_len]) ?_)
        refine ⟨⟨.of_mem (by simp), .of_mem (by simp)⟩, ?_⟩
        refine TK.one 15 (by decide +kernel) rfl rfl (T1.storeN (vs := (ofG (ofH (n1 ++ k1) 16)).map u32V) rfl rfl sz_27 (ones_u32 _) (by repeat (first | exact Sub.one | apply Sub.there | apply Sub.far)) (by rw [List.length_map, ofG_len]; rfl) (by rw [List.length_map, ofG_len]) ?_)
        refine ⟨⟨.of_mem (by simp), .of_mem (by simp)⟩, ?_⟩
        refine TD.done (by decide +kernel) ?_
        exact ⟨(b5, b6), _, _, trivial, (.cons rfl (.cons rfl .nil)), .nil, (by repeat (first | exact Take.nil | apply Take.one (by repeat (first | exact Pick.here | apply Pick.there | apply Pick.far)) | apply Take.seg (by repeat (first | exact PickS.last | exact PickS.one | exact PickS.here | exact PickS.nil | apply PickS.there | apply PickS.far)) | exact Take.last (by repeat (first | exact PickS.last | exact PickS.one | exact PickS.here | exact PickS.nil | apply PickS.there | apply PickS.far)))), rfl⟩
      ·
       simp only [List.flatten_cons, List.flatten_nil, List.append_nil, Nat.one_mul]
       refine ⟨⟨.of_mem (by simp), .of_mem (by simp)⟩, ?_⟩
       refine TK.two 5 12 (by decide +kernel) rfl rfl rfl rfl (T1.callX (X := [⟨b24, 0, k0.map byteV, 32⟩]) has_10 rfl (Of_any _ _ n0 [k0] [⟨b24, 0, k0.map byteV, 32⟩] (KeysR.one (by simp) hk0l) (by omega) (by simp)) (by repeat (first | exact Take.nil | apply Take.one (by repeat (first | exact Pick.here | apply Pick.there | apply Pick.far)) | apply Take.seg (by repeat (first | exact PickS.last | exact PickS.one | exact PickS.here | exact PickS.nil | apply PickS.there | apply PickS.far)) | exact Take.last (by repeat (first | exact PickS.last | exact PickS.one | exact PickS.here | exact PickS.nil | apply PickS.there | apply PickS.far)))) (fun v5 Y5 hY5 => ?_)) (T1.allocN 6 zr_27 rfl (fun b5 => ?_))
       ·
        obtain ⟨rfl, hzzY5⟩ := hY5
        rw [hzzY5, show ([k0] : List (List UInt8)).flatten = k0 from by simp]
        simp only [List.cons_append, List.nil_append]
        refine ⟨⟨.of_mem (by simp), .of_mem (by simp)⟩, ?_⟩
        refine TK.two 11 12 (by decide +kernel) rfl rfl rfl rfl (T1.callX (X := [⟨b30, 0, k1.map byteV, 32⟩]) has_10 rfl (Of_any _ _ n1 [k1] [⟨b30, 0, k1.map byteV, 32⟩] (KeysR.one (by simp) hk1l) (by omega) (by simp)) (by repeat (first | exact Take.nil | apply Take.one (by repeat (first | exact Pick.here | apply Pick.there | apply Pick.far)) | apply Take.seg (by repeat (first | exact PickS.last | exact PickS.one | exact PickS.here | exact PickS.nil | apply PickS.there | apply PickS.far)) | exact Take.last (by repeat (first | exact PickS.last | exact PickS.one | exact PickS.here | exact PickS.nil | apply PickS.there | apply PickS.far)))) (fun v11 Y11 hY11 => ?_)) (T1.allocN 6 zr_27 rfl (fun b5 => ?_))
        ·
         obtain ⟨rfl, hzzY11⟩ := hY11
         rw [hzzY11, show ([k1] : List (List UInt8)).flatten = k1 from by simp]
         simp only [List.cons_append, List.nil_append]
         refine ⟨⟨.of_mem (by simp), .of_mem (by simp)⟩, ?_⟩
         refine TK.one 12 (by decide +kernel) rfl rfl (T1.allocN 6 zr_27 rfl (fun b5 => ?_))
         refine ⟨⟨.of_mem (by simp), .of_mem (by simp)⟩, ?_⟩
         refine TK.one 14 (by decide +kernel) rfl rfl (T1.storeN (vs := (ofG (ofH (n0 ++ k0) 16)).map u32V) rfl rfl sz_27 (ones_u32 _) (by repeat (first | exact Sub.one | apply Sub.there | apply Sub.far)) (by rw [List.length_map, ofG_len]; rfl) (by rw [List.length_map, ofG_len]) ?_)
         refine ⟨⟨.of_mem (by simp), .of_mem (by simp)⟩, ?_⟩
         refine TK.one 15 (by decide +kernel) rfl rfl (T1.storeN (vs := (ofG (ofH (n1 ++ k1) 16)).map u32V) rfl rfl sz_27 (ones_u32 _) (by repeat (first | exact Sub.one | apply Sub.there | apply Sub.far)) (by rw [List.length_map, ofG_len]; rfl) (by rw [List.length_map, ofG_len]) ?_)
         refine ⟨⟨.of_mem (by simp), .of_mem (by simp)⟩, ?_⟩
         refine TD.done (by decide +kernel) ?_
         exact ⟨(b5, b6), _, _, trivial, (.cons rfl (.cons rfl .nil)), .nil, (by repeat (first | exact Take.nil | apply Take.one (by repeat (first | exact Pick.here | apply Pick.there | apply Pick.far)) | apply Take.seg (by repeat (first | exact PickS.last | exact PickS.one | exact PickS.here | exact PickS.nil | apply PickS.there | apply PickS.far)) | exact Take.last (by repeat (first | exact PickS.last | exact PickS.one | exact PickS.here | exact PickS.nil | apply PickS.there | apply PickS.far)))), rfl⟩
        ·
         refine ⟨⟨.of_mem (by simp), .of_mem (by simp)⟩, ?_⟩
         refine TK.one 11 (by decide +kernel) rfl rfl (T1.callX (X := [⟨b30, 0, k1.map byteV, 32⟩]) has_10 rfl (Of_any _ _ n1 [k1] [⟨b30, 0, k1.map byteV, 32⟩] (KeysR.one (by simp) hk1l) (by omega) (by simp)) (by repeat (first | exact Take.nil | apply Take.one (by repeat (first | exact Pick.here | apply Pick.there | apply Pick.far)) | apply Take.seg (by repeat (first | exact PickS.last | exact PickS.one | exact PickS.here | exact PickS.nil | apply PickS.there | apply PickS.far)) | exact Take.last (by repeat (first | exact PickS.last | exact PickS.one | exact PickS.here | exact PickS.nil | apply PickS.there | apply PickS.far)))) (fun v11 Y11 hY11 => ?_))
         obtain ⟨rfl, hzzY11⟩ := hY11
         rw [hzzY11, show ([k1] : List (List UInt8)).flatten = k1 from by simp]
         simp only [List.cons_append, List.nil_append]
         refine ⟨⟨.of_mem (by simp), .of_mem (by simp)⟩, ?_⟩
         refine TK.one 14 (by decide +kernel) rfl rfl (T1.storeN (vs := (ofG (ofH (n0 ++ k0) 16)).map u32V) rfl rfl sz_27 (ones_u32 _) (by repeat (first | exact Sub.one | apply Sub.there | apply Sub.far)) (by rw [List.length_map, ofG_len]; rfl) (by rw [List.length_map, ofG_len]) ?_)
         refine ⟨⟨.of_mem (by simp), .of_mem (by simp)⟩, ?_⟩
         refine TK.one 15 (by decide +kernel) rfl rfl (T1.storeN (vs := (ofG (ofH (n1 ++ k1) 16)).map u32V) rfl rfl sz_27 (ones_u32 _) (by repeat (first | exact Sub.one | apply Sub.there | apply Sub.far)) (by rw [List.length_map, ofG_len]; rfl) (by rw [List.length_map, ofG_len]) ?_)
         refine ⟨⟨.of_mem (by simp), .of_mem (by simp)⟩, ?_⟩
         refine TD.done (by decide +kernel) ?_
         exact ⟨(b5, b6), _, _, trivial, (.cons rfl (.cons rfl .nil)), .nil, (by repeat (first | exact Take.nil | apply Take.one (by repeat (first | exact Pick.here | apply Pick.there | apply Pick.far)) | apply Take.seg (by repeat (first | exact PickS.last | exact PickS.one | exact PickS.here | exact PickS.nil | apply PickS.there | apply PickS.far)) | exact Take.last (by repeat (first | exact PickS.last | exact PickS.one | exact PickS.here | exact PickS.nil | apply PickS.there | apply PickS.far)))), rfl⟩
       ·
        refine ⟨⟨.of_mem (by simp), .of_mem (by simp)⟩, ?_⟩
        refine TK.one 5 (by decide +kernel) rfl rfl (T1.callX (X := [⟨b24, 0, k0.map byteV, 32⟩]) has_10 rfl (Of_any _ _ n0 [k0] [⟨b24, 0, k0.map byteV, 32⟩] (KeysR.one (by simp) hk0l) (by omega) (by simp)) (by repeat (first | exact Take.nil | apply Take.one (by repeat (first | exact Pick.here | apply Pick.there | apply Pick.far)) | apply Take.seg (by repeat (first | exact PickS.last | exact PickS.one | exact PickS.here | exact PickS.nil | apply PickS.there | apply PickS.far)) | exact Take.last (by repeat (first | exact PickS.last | exact PickS.one | exact PickS.here | exact PickS.nil | apply PickS.there | apply PickS.far)))) (fun v5 Y5 hY5 => ?_))
        obtain ⟨rfl, hzzY5⟩ := hY5
        rw [hzzY5, show ([k0] : List (List UInt8)).flatten = k0 from by simp]
        simp only [List.cons_append, List.nil_append]
        refine ⟨⟨.of_mem (by simp), .of_mem (by simp)⟩, ?_⟩
        refine TK.one 11 (by decide +kernel) rfl rfl (T1.callX (X := [⟨b30, 0, k1.map byteV, 32⟩]) has_10 rfl (Of_any _ _ n1 [k1] [⟨b30, 0, k1.map byteV, 32⟩] (KeysR.one (by simp) hk1l) (by omega) (by simp)) (by repeat (first | exact Take.nil | apply Take.one (by repeat (first | exact Pick.here | apply Pick.there | apply Pick.far)) | apply Take.seg (by repeat (first | exact PickS.last | exact PickS.one | exact PickS.here | exact PickS.nil | apply PickS.there | apply PickS.far)) | exact Take.last (by repeat (first | exact PickS.last | exact PickS.one | exact PickS.here | exact PickS.nil | apply PickS.there | apply PickS.far)))) (fun v11 Y11 hY11 => ?_))
        obtain ⟨rfl, hzzY11⟩ := hY11
        rw [hzzY11, show ([k1] : List (List UInt8)).flatten = k1 from by simp]
        simp only [List.cons_append, List.nil_append]
        refine ⟨⟨.of_mem (by simp), .of_mem (by simp)⟩, ?_⟩
        refine TK.one 14 (by decide +kernel) rfl rfl (T1.storeN (vs := (ofG (ofH (n0 ++ k0) 16)).map u32V) rfl rfl sz_27 (ones_u32 _) (by repeat (first | exact Sub.one | apply Sub.there | apply Sub.far)) (by rw [List.length_map, ofG_len]; rfl) (by rw [List.length_map, ofG_len]) ?_)
        refine ⟨⟨.of_mem (by simp), .of_mem (by simp)⟩, ?_⟩
        refine TK.one 15 (by decide +kernel) rfl rfl (T1.storeN (vs := (ofG (ofH (n1 ++ k1) 16)).map u32V) rfl rfl sz_27 (ones_u32 _) (by repeat (first | exact Sub.one | apply Sub.there | apply Sub.far)) (by rw [List.length_map, ofG_len]; rfl) (by rw [List.length_map, ofG_len]) ?_)
        refine ⟨⟨.of_mem (by simp), .of_mem (by simp)⟩, ?_⟩
        refine TD.done (by decide +kernel) ?_
        exact ⟨(b5, b6), _, _, trivial, (.cons rfl (.cons rfl .nil)), .nil, (by repeat (first | exact Take.nil | apply Take.one (by repeat (first | exact Pick.here | apply Pick.there | apply Pick.far)) | apply Take.seg (by repeat (first | exact PickS.last | exact PickS.one | exact PickS.here | exact PickS.nil | apply PickS.there | apply PickS.far)) | exact Take.last (by repeat (first | exact PickS.last | exact PickS.one | exact PickS.here | exact PickS.nil | apply PickS.there | apply PickS.far)))), rfl⟩
      ·
       refine ⟨⟨.of_mem (by simp), .of_mem (by simp)⟩, ?_⟩
       refine TK.two 5 10 (by decide +kernel) rfl rfl rfl rfl (T1.callX (X := [⟨b24, 0, k0.map byteV, 32⟩]) has_10 rfl (Of_any _ _ n0 [k0] [⟨b24, 0, k0.map byteV, 32⟩] (KeysR.one (by simp) hk0l) (by omega) (by simp)) (by repeat (first | exact Take.nil | apply Take.one (by repeat (first | exact Pick.here | apply Pick.there | apply Pick.far)) | apply Take.seg (by repeat (first | exact PickS.last | exact PickS.one | exact PickS.here | exact PickS.nil | apply PickS.there | apply PickS.far)) | exact Take.last (by repeat (first | exact PickS.last | exact PickS.one | exact PickS.here | exact PickS.nil | apply PickS.there | apply PickS.far)))) (fun v5 Y5 hY5 => ?_)) (T1.buildSlN (os := [.tmp 29]) (vs := [.agg (k1.map byteV).toArray]) (vss := [k1.map byteV]) ty_24 sz_36 zr_36 (by decide) rfl (.cons rfl .nil) (by exact Aggs.cons rfl Aggs.nil) rfl (by intro l hl; obtain rfl := List.mem_singleton.1 hl; rw [List.length_map]; exact hk1l) (fun b30 => ?_))
       ·
        obtain ⟨rfl, hzzY5⟩ := hY5
        rw [hzzY5, show ([k0] : List (List UInt8)).flatten = k0 from by simp]
        simp only [List.cons_append, List.nil_append]
        refine ⟨⟨.of_mem (by simp), .of_mem (by simp)⟩, ?_⟩
        refine TK.one 10 (by decide +kernel) rfl rfl (T1.buildSlN (os := [.tmp 29]) (vs := [.agg (k1.map byteV).toArray]) (vss := [k1.map byteV]) ty_24 sz_36 zr_36 (by decide) rfl (.cons rfl .nil) (by exact Aggs.cons rfl Aggs.nil) rfl (by intro l hl; obtain rfl := List.mem_singleton.1 hl; rw [List.length_map]; exact hk1l) (fun b30 => ?_))
        simp only [List.flatten_cons, List.flatten_nil, List.append_nil, Nat.one_mul]
        refine ⟨⟨.of_mem (by simp), .of_mem (by simp)⟩, ?_⟩
        refine TK.one 11 (by decide +kernel) rfl rfl (T1.callX (X := [⟨b30, 0, k1.map byteV, 32⟩]) has_10 rfl (Of_any _ _ n1 [k1] [⟨b30, 0, k1.map byteV, 32⟩] (KeysR.one (by simp) hk1l) (by omega) (by simp)) (by repeat (first | exact Take.nil | apply Take.one (by repeat (first | exact Pick.here | apply Pick.there | apply Pick.far)) | apply Take.seg (by repeat (first | exact PickS.last | exact PickS.one | exact PickS.here | exact PickS.nil | apply PickS.there | apply PickS.far)) | exact Take.last (by repeat (first | exact PickS.last | exact PickS.one | exact PickS.here | exact PickS.nil | apply PickS.there | apply PickS.far)))) (fun v11 Y11 hY11 => ?_))
        obtain ⟨rfl, hzzY11⟩ := hY11
        rw [hzzY11, show ([k1] : List (List UInt8)).flatten = k1 from by simp]
        simp only [List.cons_append, List.nil_append]
        refine ⟨⟨.of_mem (by simp), .of_mem (by simp)⟩, ?_⟩
        refine TK.one 14 (by decide +kernel) rfl rfl (T1.storeN (vs := (ofG (ofH (n0 ++ k0) 16)).map u32V) rfl rfl sz_27 (ones_u32 _) (by repeat (first | exact Sub.one | apply Sub.there | apply Sub.far)) (by rw [List.length_map, ofG_len]; rfl) (by rw [List.length_map, ofG_len]) ?_)
        refine ⟨⟨.of_mem (by simp), .of_mem (by simp)⟩, ?_⟩
        refine TK.one 15 (by decide +kernel) rfl rfl (T1.storeN (vs := (ofG (ofH (n1 ++ k1) 16)).map u32V) rfl rfl sz_27 (ones_u32 _) (by repeat (first | exact Sub.one | apply Sub.there | apply Sub.far)) (by rw [List.length_map, ofG_len]; rfl) (by rw [List.length_map, ofG_len]) ?_)
        refine ⟨⟨.of_mem (by simp), .of_mem (by simp)⟩, ?_⟩
        refine TD.done (by decide +kernel) ?_
        exact ⟨(b5, b6), _, _, trivial, (.cons rfl (.cons rfl .nil)), .nil, (by repeat (first | exact Take.nil | apply Take.one (by repeat (first | exact Pick.here | apply Pick.there | apply Pick.far)) | apply Take.seg (by repeat (first | exact PickS.last | exact PickS.one | exact PickS.here | exact PickS.nil | apply PickS.there | apply PickS.far)) | exact Take.last (by repeat (first | exact PickS.last | exact PickS.one | exact PickS.here | exact PickS.nil | apply PickS.there | apply PickS.far)))), rfl⟩
       ·
        simp only [List.flatten_cons, List.flatten_nil, List.append_nil, Nat.one_mul]
        refine ⟨⟨.of_mem (by simp), .of_mem (by simp)⟩, ?_⟩
        refine TK.one 5 (by decide +kernel) rfl rfl (T1.callX (X := [⟨b24, 0, k0.map byteV, 32⟩]) has_10 rfl (Of_any _ _ n0 [k0] [⟨b24, 0, k0.map byteV, 32⟩] (KeysR.one (by simp) hk0l) (by omega) (by simp)) (by repeat (first | exact Take.nil | apply Take.one (by repeat (first | exact Pick.here | apply Pick.there | apply Pick.far)) | apply Take.seg (by repeat (first | exact PickS.last | exact PickS.one | exact PickS.here | exact PickS.nil | apply PickS.there | apply PickS.far)) | exact Take.last (by repeat (first | exact PickS.last | exact PickS.one | exact PickS.here | exact PickS.nil | apply PickS.there | apply PickS.far)))) (fun v5 Y5 hY5 => ?_))
        obtain ⟨rfl, hzzY5⟩ := hY5
        rw [hzzY5, show ([k0] : List (List UInt8)).flatten = k0 from by simp]
        simp only [List.cons_append, List.nil_append]
        refine ⟨⟨.of_mem (by simp), .of_mem (by simp)⟩, ?_⟩
        refine TK.one 11 (by decide +kernel) rfl rfl (T1.callX (X := [⟨b30, 0, k1.map byteV, 32⟩]) has_10 rfl (Of_any _ _ n1 [k1] [⟨b30, 0, k1.map byteV, 32⟩] (KeysR.one (by simp) hk1l) (by omega) (by simp)) (by repeat (first | exact Take.nil | apply Take.one (by repeat (first | exact Pick.here | apply Pick.there | apply Pick.far)) | apply Take.seg (by repeat (first | exact PickS.last | exact PickS.one | exact PickS.here | exact PickS.nil | apply PickS.there | apply PickS.far)) | exact Take.last (by repeat (first | exact PickS.last | exact PickS.one | exact PickS.here | exact PickS.nil | apply PickS.there | apply PickS.far)))) (fun v11 Y11 hY11 => ?_))
        obtain ⟨rfl, hzzY11⟩ := hY11
        rw [hzzY11, show ([k1] : List (List UInt8)).flatten = k1 from by simp]
        simp only [List.cons_append, List.nil_append]
        refine ⟨⟨.of_mem (by simp), .of_mem (by simp)⟩, ?_⟩
        refine TK.one 14 (by decide +kernel) rfl rfl (T1.storeN (vs := (ofG (ofH (n0 ++ k0) 16)).map u32V) rfl rfl sz_27 (ones_u32 _) (by repeat (first | exact Sub.one | apply Sub.there | apply Sub.far)) (by rw [List.length_map, ofG_len]; rfl) (by rw [List.length_map, ofG_len]) ?_)
        refine ⟨⟨.of_mem (by simp), .of_mem (by simp)⟩, ?_⟩
        refine TK.one 15 (by decide +kernel) rfl rfl (T1.storeN (vs := (ofG (ofH (n1 ++ k1) 16)).map u32V) rfl rfl sz_27 (ones_u32 _) (by repeat (first | exact Sub.one | apply Sub.there | apply Sub.far)) (by rw [List.length_map, ofG_len]; rfl) (by rw [List.length_map, ofG_len]) ?_)
        refine ⟨⟨.of_mem (by simp), .of_mem (by simp)⟩, ?_⟩
        refine TD.done (by decide +kernel) ?_
        exact ⟨(b5, b6), _, _, trivial, (.cons rfl (.cons rfl .nil)), .nil, (by repeat (first | exact Take.nil | apply Take.one (by repeat (first | exact Pick.here | apply Pick.there | apply Pick.far)) | apply Take.seg (by repeat (first | exact PickS.last | exact PickS.one | exact PickS.here | exact PickS.nil | apply PickS.there | apply PickS.far)) | exact Take.last (by repeat (first | exact PickS.last | exact PickS.one | exact PickS.here | exact PickS.nil | apply PickS.there | apply PickS.far)))), rfl⟩
     ·
      simp only [List.flatten_cons, List.flatten_nil, List.append_nil, Nat.one_mul]
      refine ⟨⟨.of_mem (by simp), .of_mem (by simp)⟩, ?_⟩
      refine TK.two 4 12 (by decide +kernel) rfl rfl rfl rfl (T1.buildSlN (os := [.tmp 23]) (vs := [.agg (k0.map byteV).toArray]) (vss := [k0.map byteV]) ty_24 sz_36 zr_36 (by decide) rfl (.cons rfl .nil) (by exact Aggs.cons rfl Aggs.nil) rfl (by intro l hl; obtain rfl := List.mem_singleton.1 hl; rw [List.length_map]; exact hk0l) (fun b24 => ?_)) (T1.allocN 6 zr_27 rfl (fun b5 => ?_))
      ·
       simp only [List.flatten_cons, List.flatten_nil, List.append_nil, Nat.one_mul]
       refine ⟨⟨.of_mem (by simp), .of_mem (by simp)⟩, ?_⟩
       refine TK.two 5 12 (by decide +kernel) rfl rfl rfl rfl (T1.callX (X := [⟨b24, 0, k0.map byteV, 32⟩]) has_10 rfl (Of_any _ _ n0 [k0] [⟨b24, 0, k0.map byteV, 32⟩] (KeysR.one (by simp) hk0l) (by omega) (by simp)) (by repeat (first | exact Take.nil | apply Take.one (by repeat (first | exact Pick.here | apply Pick.there | apply Pick.far)) | apply Take.seg (by repeat (first | exact PickS.last | exact PickS.one | exact PickS.here | exact PickS.nil | apply PickS.there | apply PickS.far)) | exact Take.last (by repeat (first | exact PickS.last | exact PickS.one | exact PickS.here | exact PickS.nil | apply PickS.there | apply PickS.far)))) (fun v5 Y5 hY5 => ?_)) (T1.allocN 6 zr_27 rfl (fun b5 => ?_))
       ·
        obtain ⟨rfl, hzzY5⟩ := hY5
        rw [hzzY5, show ([k0] : List (List UInt8)).flatten = k0 from by simp]
        simp only [List.cons_append, List.nil_append]
        refine ⟨⟨.of_mem (by simp), .of_mem (by simp)⟩, ?_⟩
        refine TK.two 11 12 (by decide +kernel) rfl rfl rfl rfl (T1.callX (X := [⟨b30, 0, k1.map byteV, 32⟩]) has_10 rfl (Of_any _ _ n1 [k1] [⟨b30, 0, k1.map byteV, 32⟩] (KeysR.one (by simp) hk1l) (by omega) (by simp)) (by repeat (first | exact Take.nil | apply Take.one (by repeat (first | exact Pick.here | apply Pick.there | apply Pick.far)) | apply Take.seg (by repeat (first | exact PickS.last | exact PickS.one | exact PickS.here | exact PickS.nil | apply PickS.there | apply PickS.far)) | exact Take.last (by repeat (first | exact PickS.last | exact PickS.one | exact PickS.here | exact PickS.nil | apply PickS.there | apply PickS.far)))) (fun v11 Y11 hY11 => ?_)) (T1.allocN 6 zr_27 rfl (fun b5 => ?_))
        ·
         obtain ⟨rfl, hzzY11⟩ := hY11
         rw [hzzY11, show ([k1] : List (List UInt8)).flatten = k1 from by simp]
         simp only [List.cons_append, List.nil_append]
         refine ⟨⟨.of_mem (by simp), .of_mem (by simp)⟩, ?_⟩
         refine TK.one 12 (by decide +kernel) rfl rfl (T1.allocN 6 zr_27 rfl (fun b5 => ?_))
         refine ⟨⟨.of_mem (by simp), .of_mem (by simp)⟩, ?_⟩
         refine TK.one 14 (by decide +kernel) rfl rfl (T1.storeN (vs := (ofG (ofH (n0 ++ k0) 16)).map u32V) rfl rfl sz_27 (ones_u32 _) (by repeat (first | exact Sub.one | apply Sub.there | apply Sub.far)) (by rw [List.length_map, ofG_len]; rfl) (by rw [List.length_map, ofG_len]) ?_)
         refine ⟨⟨.of_mem (by simp), .of_mem (by simp)⟩, ?_⟩
         refine TK.one 15 (by decide +kernel) rfl rfl (T1.storeN (vs := (ofG (ofH (n1 ++ k1) 16)).map u32V) rfl rfl sz_27 (ones_u32 _) (by repeat (first | exact Sub.one | apply Sub.there | apply Sub.far)) (by rw [List.length_map, ofG_len]; rfl) (by rw [List.length_map, ofG_len]) ?_)
         refine ⟨⟨.of_mem (by simp), .of_mem (by simp)⟩, ?_⟩
         refine TD.done (by decide +kernel) ?_
         exact ⟨(b5, b6), _, _, trivial, (.cons rfl (.cons rfl .nil)), .nil, (by repeat (first | exact Take.nil | apply Take.one (by repeat (first | exact Pick.here | apply Pick.there | apply Pick.far)) | apply Take.seg (by repeat (first | exact PickS.last | exact PickS.one | exact PickS.here | exact PickS.nil | apply PickS.there | apply PickS.far)) | exact Take.last (by repeat (first | exact PickS.last | exact PickS.one | exact PickS.here | exact PickS.nil | apply PickS.there | apply PickS.far)))), rfl⟩
        ·
         refine ⟨⟨.of_mem (by simp), .of_mem (by simp)⟩, ?_⟩
         refine TK.one 11 (by decide +kernel) rfl rfl (T1.callX (X := [⟨b30, 0, k1.map byteV, 32⟩]) has_10 rfl (Of_any _ _ n1 [k1] [⟨b30, 0, k1.map byteV, 32⟩] (KeysR.one (by simp) hk1l) (by omega) (by simp)) (by repeat (first | exact Take.nil | apply Take.one (by repeat (first | exact Pick.here | apply Pick.there | apply Pick.far)) | apply Take.seg (by repeat (first | exact PickS.last | exact PickS.one | exact PickS.here | exact PickS.nil | apply PickS.there | apply PickS.far)) | exact Take.last (by repeat (first | exact PickS.last | exact PickS.one | exact PickS.here | exact PickS.nil | apply PickS.there | apply PickS.far)))) (fun v11 Y11 hY11 => ?_))
         obtain ⟨rfl, hzzY11⟩ := hY11
         rw [hzzY11, show ([k1] : List (List UInt8)).flatten = k1 from by simp]
         simp only [List.cons_append, List.nil_append]
         refine ⟨⟨.of_mem (by simp), .of_mem (by simp)⟩, ?_⟩
         refine TK.one 14 (by decide +kernel) rfl rfl (T1.storeN (vs := (ofG (ofH (n0 ++ k0) 16)).map u32V) rfl rfl sz_27 (ones_u32 _) (by repeat (first | exact Sub.one | apply Sub.there | apply Sub.far)) (by rw [List.length_map, ofG_len]; rfl) (by rw [List.length_map, ofG_len]) ?_)
         refine ⟨⟨.of_mem (by simp), .of_mem (by simp)⟩, ?_⟩
         refine TK.one 15 (by decide +kernel) rfl rfl (T1.storeN (vs := (ofG (ofH (n1 ++ k1) 16)).map u32V) rfl rfl sz_27 (ones_u32 _) (by repeat (first | exact Sub.one | apply Sub.there | apply Sub.far)) (by rw [List.length_map, ofG_len]; rfl) (by rw [List.length_map, ofG_len]) ?_)
         refine ⟨⟨.of_mem (by simp), .of_mem (by simp)⟩, ?_⟩
         refine TD.done (by decide +kernel) ?_
         exact ⟨(b5, b6), _, _, trivial, (.cons rfl (.cons rfl .nil)), .nil, (by repeat (first | exact Take.nil | apply Take.one (by repeat (first | exact Pick.here | apply Pick.there | apply Pick.far)) | apply Take.seg (by repeat (first | exact PickS.last | exact PickS.one | exact PickS.here | exact PickS.nil | apply PickS.there | apply PickS.far)) | exact Take.last (by repeat (first | exact PickS.last | exact PickS.one | exact PickS.here | exact PickS.nil | apply PickS.there | apply PickS.far)))), rfl⟩
       ·
        refine ⟨⟨.of_mem (by simp), .of_mem (by simp)⟩, ?_⟩
        refine TK.one 5 (by decide +kernel) rfl rfl (T1.callX (X := [⟨b24, 0, k0.map byteV, 32⟩]) has_10 rfl (Of_any _ _ n0 [k0] [⟨b24, 0, k0.map byteV, 32⟩] (KeysR.one (by simp) hk0l) (by omega) (by simp)) (by repeat (first | exact Take.nil | apply Take.one (by repeat (first | exact Pick.here | apply Pick.there | apply Pick.far)) | apply Take.seg (by repeat (first | exact PickS.last | exact PickS.one | exact PickS.here | exact PickS.nil | apply PickS.there | apply PickS.far)) | exact Take.last (by repeat (first | exact PickS.last | exact PickS.one | exact PickS.here | exact PickS.nil | apply PickS.there | apply PickS.far)))) (fun v5 Y5 hY5 => ?_))
        obtain ⟨rfl, hzzY5⟩ := hY5
        rw [hzzY5, show ([k0] : List (List UInt8)).flatten = k0 from by simp]
        simp only [List.cons_append, List.nil_append]
        refine ⟨⟨.of_mem (by simp), .of_mem (by simp)⟩, ?_⟩
        refine TK.one 11 (by decide +kernel) rfl rfl (T1.callX (X := [⟨b30, 0, k1.map byteV, 32⟩]) has_10 rfl (Of_any _ _ n1 [k1] [⟨b30, 0, k1.map byteV, 32⟩] (KeysR.one (by simp) hk1l) (by omega) (by simp)) (by repeat (first | exact Take.nil | apply Take.one (by repeat (first | exact Pick.here | apply Pick.there | apply Pick.far)) | apply Take.seg (by repeat (first | exact PickS.last | exact PickS.one | exact PickS.here | exact PickS.nil | apply PickS.there | apply PickS.far)) | exact Take.last (by repeat (first | exact PickS.last | exact PickS.one | exact PickS.here | exact PickS.nil | apply PickS.there | apply PickS.far)))) (fun v11 Y11 hY11 => ?_))
        obtain ⟨rfl, hzzY11⟩ := hY11
        rw [hzzY11, show ([k1] : List (List UInt8)).flatten = k1 from by simp]
        simp only [List.cons_append, List.nil_append]
        refine ⟨⟨.of_mem (by simp), .of_mem (by simp)⟩, ?_⟩
        refine TK.one 14 (by decide +kernel) rfl rfl (T1.storeN (vs := (ofG (ofH (n0 ++ k0) 16)).map u32V) rfl rfl sz_27 (ones_u32 _) (by repeat (first | exact Sub.one | apply Sub.there | apply Sub.far)) (by rw [List.length_map, ofG_len]; rfl) (by rw [List.length_map, ofG_len]) ?_)
        refine ⟨⟨.of_mem (by simp), .of_mem (by simp)⟩, ?_⟩
        refine TK.one 15 (by decide +kernel) rfl rfl (T1.storeN (vs := (ofG (ofH (n1 ++ k1) 16)).map u32V) rfl rfl sz_27 (ones_u32 _) (by repeat (first | exact Sub.one | apply Sub.there | apply Sub.far)) (by rw [List.length_map, ofG_len]; rfl) (by rw [List.length_map, ofG_len]) ?_)
        refine ⟨⟨.of_mem (by simp), .of_mem (by simp)⟩, ?_⟩
        refine TD.done (by decide +kernel) ?_
        exact ⟨(b5, b6), _, _, trivial, (.cons rfl (.cons rfl .nil)), .nil, (by repeat (first | exact Take.nil | apply Take.one (by repeat (first | exact Pick.here | apply Pick.there | apply Pick.far)) | apply Take.seg (by repeat (first | exact PickS.last | exact PickS.one | exact PickS.here | exact PickS.nil | apply PickS.there | apply PickS.far)) | exact Take.last (by repeat (first | exact PickS.last | exact PickS.one | exact PickS.here | exact PickS.nil | apply PickS.there | apply PickS.far)))), rfl⟩
      ·
       refine ⟨⟨.of_mem (by simp), .of_mem (by simp)⟩, ?_⟩
       refine TK.one 4 (by decide +kernel) rfl rfl (T1.buildSlN (os := [.tmp 23]) (vs := [.agg (k0.map byteV).toArray]) (vss := [k0.map byteV]) ty_24 sz_36 zr_36 (by decide) rfl (.cons rfl .nil) (by exact Aggs.cons rfl Aggs.nil) rfl (by intro l hl; obtain rfl := List.mem_singleton.1 hl; rw [List.length_map]; exact hk0l) (fun b24 => ?_))
       simp only [List.flatten_cons, List.flatten_nil, List.append_nil, Nat.one_mul]
       refine ⟨⟨.of_mem (by simp), .of_mem (by simp)⟩, ?_⟩
       refine TK.one 5 (by decide +kernel) rfl rfl (T1.callX (X := [⟨b24, 0, k0.map byteV, 32⟩]) has_10 rfl (Of_any _ _ n0 [k0] [⟨b24, 0, k0.map byteV, 32⟩] (KeysR.one (by simp) hk0l) (by omega) (by simp)) (by repeat (first | exact Take.nil | apply Take.one (by repeat (first | exact Pick.here | apply Pick.there | apply Pick.far)) | apply Take.seg (by repeat (first | exact PickS.last | exact PickS.one | exact PickS.here | exact PickS.nil | apply PickS.there | apply PickS.far)) | exact Take.last (by repeat (first | exact PickS.last | exact PickS.one | exact PickS.here | exact PickS.nil | apply PickS.there | apply PickS.far)))) (fun v5 Y5 hY5 => ?_))
       obtain ⟨rfl, hzzY5⟩ := hY5
       rw [hzzY5, show ([k0] : List (List UInt8)).flatten = k0 from by simp]
       simp only [List.cons_append, List.nil_append]
       refine ⟨⟨.of_mem (by simp), .of_mem (by simp)⟩, ?_⟩
       refine TK.one 11 (by decide +kernel) rfl rfl (T1.callX (X := [⟨b30, 0, k1.map byteV, 32⟩]) has_10 rfl (Of_any _ _ n1 [k1] [⟨b30, 0, k1.map byteV, 32⟩] (KeysR.one (by simp) hk1l) (by omega) (by simp)) (by repeat (first | exact Take.nil | apply Take.one (by repeat (first | exact Pick.here | apply Pick.there | apply Pick.far)) | apply Take.seg (by repeat (first | exact PickS.last | exact PickS.one | exact PickS.here | exact PickS.nil | apply PickS.there | apply PickS.far)) | exact Take.last (by repeat (first | exact PickS.last | exact PickS.one | exact PickS.here | exact PickS.nil | apply PickS.there | apply PickS.far)))) (fun v11 Y11 hY11 => ?_))
       obtain ⟨rfl, hzzY11⟩ := hY11
       rw [hzzY11, show ([k1] : List (List UInt8)).flatten = k1 from by simp]
       simp only [List.cons_append, List.nil_append]
       refine ⟨⟨.of_mem (by simp), .of_mem (by simp)⟩, ?_⟩
       refine TK.one 14 (by decide +kernel) rfl rfl (T1.storeN (vs := (ofG (ofH (n0 ++ k0) 16)).map u32V) rfl rfl sz_27 (ones_u32 _) (by repeat (first | exact Sub.one | apply Sub.there | apply Sub.far)) (by rw [List.length_map, ofG_len]; rfl) (by rw [List.length_map, ofG_len]) ?_)
       refine ⟨⟨.of_mem (by simp), .of_mem (by simp)⟩, ?_⟩
       refine TK.one 15 (by decide +kernel) rfl rfl (T1.storeN (vs := (ofG (ofH (n1 ++ k1) 16)).map u32V) rfl rfl sz_27 (ones_u32 _) (by repeat (first | exact Sub.one | apply Sub.there | apply Sub.far)) (by rw [List.length_map, ofG_len]; rfl) (by rw [List.length_map, ofG_len]) ?_)
       refine ⟨⟨.of_mem (by simp), .of_mem (by simp)⟩, ?_⟩
       refine TD.done (by decide +kernel) ?_
       exact ⟨(b5, b6), _, _, trivial, (.cons rfl (.cons rfl .nil)), .nil, (by repeat (first | exact Take.nil | apply Take.one (by repeat (first | exact Pick.here | apply Pick.there | apply Pick.far)) | apply Take.seg (by repeat (first | exact PickS.last | exact PickS.one | exact PickS.here | exact PickS.nil | apply PickS.there | apply PickS.far)) | exact Take.last (by repeat (first | exact PickS.last | exact PickS.one | exact PickS.here | exact PickS.nil | apply PickS.there | apply PickS.far)))), rfl⟩
     ·
      refine ⟨⟨.of_mem (by simp), .of_mem (by simp)⟩, ?_⟩
      refine TK.two 4 10 (by decide +kernel) rfl rfl rfl rfl (T1.buildSlN (os := [.tmp 23]) (vs := [.agg (k0.map byteV).toArray]) (vss := [k0.map byteV]) ty_24 sz_36 zr_36 (by decide) rfl (.cons rfl .nil) (by exact Aggs.cons rfl Aggs.nil) rfl (by intro l hl; obtain rfl := List.mem_singleton.1 hl; rw [List.length_map]; exact hk0l) (fun b24 => ?_)) (T1.buildSlN (os := [.tmp 29]) (vs := [.agg (k1.map byteV).toArray]) (vss := [k1.map byteV]) ty_24 sz_36 zr_36 (by decide) rfl (.cons rfl .nil) (by exact Aggs.cons rfl Aggs.nil) rfl (by intro l hl; obtain rfl := List.mem_singleton.1 hl; rw [List.length_map]; exact hk1l) (fun b30 => ?_))
      ·
       simp only [List.flatten_cons, List.flatten_nil, List.append_nil, Nat.one_mul]
       refine ⟨⟨.of_mem (by simp), .of_mem (by simp)⟩, ?_⟩
       refine TK.two 5 10 (by decide +kernel) rfl rfl rfl rfl (T1.callX (X := [⟨b24, 0, k0.map byteV, 32⟩]) has_10 rfl (Of_any _ _ n0 [k0] [⟨b24, 0, k0.map byteV, 32⟩] (KeysR.one (by simp) hk0l) (by omega) (by simp)) (by repeat (first | exact Take.nil | apply Take.one (by repeat (first | exact Pick.here | apply Pick.there | apply Pick.far)) | apply Take.seg (by repeat (first | exact PickS.last | exact PickS.one | exact PickS.here | exact PickS.nil | apply PickS.there | apply PickS.far)) | exact Take.last (by repeat (first | exact PickS.last | exact PickS.one | exact PickS.here | exact PickS.nil | apply PickS.there | apply PickS.far)))) (fun v5 Y5 hY5 => ?_)) (T1.buildSlN (os := [.tmp 29]) (vs := [.agg (k1.map byteV).toArray]) (vss := [k1.map byteV]) ty_24 sz_36 zr_36 (by decide) rfl (.cons rfl .nil) (by exact Aggs.cons rfl Aggs.nil) rfl (by intro l hl; obtain rfl := List.mem_singleton.1 hl; rw [List.length_map]; exact hk1l) (fun b30 => ?_))
       ·
        obtain ⟨rfl, hzzY5⟩ := hY5
        rw [hzzY5, show ([k0] : List (List UInt8)).flatten = k0 from by simp]
        simp only [List.cons_append, List.nil_append]
        refine ⟨⟨.of_mem (by simp), .of_mem (by simp)⟩, ?_⟩
        refine TK.one 10 (by decide +kernel) rfl rfl (T1.buildSlN (os := [.tmp 29]) (vs := [.agg (k1.map byteV).toArray]) (vss := [k1.map byteV]) ty_24 sz_36 zr_36 (by decide) rfl (.cons rfl .nil) (by exact Aggs.cons rfl Aggs.nil) rfl (by intro l hl; obtain rfl := List.mem_singleton.1 hl; rw [List.length_map]; exact hk1l) (fun b30 => ?_))
        simp only [List.flatten_cons, List.flatten_nil, List.append_nil, Nat.one_mul]
        refine ⟨⟨.of_mem (by simp), .of_mem (by simp)⟩, ?_⟩
        refine TK.one 11 (by decide +kernel) rfl rfl (T1.callX (X := [⟨b30, 0, k1.map byteV, 32⟩]) has_10 rfl (Of_any _ _ n1 [k1] [⟨b30, 0, k1.map byteV, 32⟩] (KeysR.one (by simp) hk1l) (by omega) (by simp)) (by repeat (first | exact Take.nil | apply Take.one (by repeat (first | exact Pick.here | apply Pick.there | apply Pick.far)) | apply Take.seg (by repeat (first | exact PickS.last | exact PickS.one | exact PickS.here | exact PickS.nil | apply PickS.there | apply PickS.far)) | exact Take.last (by repeat (first | exact PickS.last | exact PickS.one | exact PickS.here | exact PickS.nil | apply PickS.there | apply PickS.far)))) (fun v11 Y11 hY11 => ?_))
        obtain ⟨rfl, hzzY11⟩ := hY11
        rw [hzzY11, show ([k1] : List (List UInt8)).flatten = k1 from by simp]
        simp only [List.cons_append, List.nil_append]
        refine ⟨⟨.of_mem (by simp), .of_mem (by simp)⟩, ?_⟩
        refine TK.one 14 (by decide +kernel) rfl rfl (T1.storeN (vs := (ofG (ofH (n0 ++ k0) 16)).map u32V) rfl rfl sz_27 (ones_u32 _) (by repeat (first | exact Sub.one | apply Sub.there | apply Sub.far)) (by rw [List.length_map, ofG_len]; rfl) (by rw [List.length_map, ofG_len]) ?_)
        refine ⟨⟨.of_mem (by simp), .of_mem (by simp)⟩, ?_⟩
        refine TK.one 15 (by decide +kernel) rfl rfl (T1.storeN (vs := (ofG (ofH (n1 ++ k1) 16)).map u32V) rfl rfl sz_27 (ones_u32 _) (by repeat (first | exact Sub.one | apply Sub.there | apply Sub.far)) (by rw [List.length_map, ofG_len]; rfl) (by rw [List.length_map, ofG_len]) ?_)
        refine ⟨⟨.of_mem (by simp), .of_mem (by simp)⟩, ?_⟩
        refine TD.done (by decide +kernel) ?_
        exact ⟨(b5, b6), _, _, trivial, (.cons rfl (.cons rfl .nil)), .nil, (by repeat (first | exact Take.nil | apply Take.one (by repeat (first | exact Pick.here | apply Pick.there | apply Pick.far)) | apply Take.seg (by repeat (first | exact PickS.last | exact PickS.one | exact PickS.here | exact PickS.nil | apply PickS.there | apply PickS.far)) | exact Take.last (by repeat (first | exact PickS.last | exact PickS.one | exact PickS.here | exact PickS.nil | apply PickS.there | apply PickS.far)))), rfl⟩
       ·
        simp only [List.flatten_cons, List.flatten_nil, List.append_nil, Nat.one_mul]
        refine ⟨⟨.of_mem (by simp), .of_mem (by simp)⟩, ?_⟩
        refine TK.one 5 (by decide +kernel) rfl rfl (T1.callX (X := [⟨b24, 0, k0.map byteV, 32⟩]) has_10 rfl (Of_any _ _ n0 [k0] [⟨b24, 0, k0.map byteV, 32⟩] (KeysR.one (by simp) hk0l) (by omega) (by simp)) (by repeat (first | exact Take.nil | apply Take.one (by repeat (first | exact Pick.here | apply Pick.there | apply Pick.far)) | apply Take.seg (by repeat (first | exact PickS.last | exact PickS.one | exact PickS.here | exact PickS.nil | apply PickS.there | apply PickS.far)) | exact Take.last (by repeat (first | exact PickS.last | exact PickS.one | exact PickS.here | exact PickS.nil | apply PickS.there | apply PickS.far)))) (fun v5 Y5 hY5 => ?_))
        obtain ⟨rfl, hzzY5⟩ := hY5
        rw [hzzY5, show ([k0] : List (List UInt8)).flatten = k0 from by simp]
        simp only [List.cons_append, List.nil_append]
        refine ⟨⟨.of_mem (by simp), .of_mem (by simp)⟩, ?_⟩
        refine TK.one 11 (by decide +kernel) rfl rfl (T1.callX (X := [⟨b30, 0, k1.map byteV, 32⟩]) has_10 rfl (Of_any _ _ n1 [k1] [⟨b30, 0, k1.map byteV, 32⟩] (KeysR.one (by simp) hk1l) (by omega) (by simp)) (by repeat (first | exact Take.nil | apply Take.one (by repeat (first | exact Pick.here | apply Pick.there | apply Pick.far)) | apply Take.seg (by repeat (first | exact PickS.last | exact PickS.one | exact PickS.here | exact PickS.nil | apply PickS.there | apply PickS.far)) | exact Take.last (by repeat (first | exact PickS.last | exact PickS.one | exact PickS.here | exact PickS.nil | apply PickS.there | apply PickS.far)))) (fun v11 Y11 hY11 => ?_))
        obtain ⟨rfl, hzzY11⟩ := hY11
        rw [hzzY11, show ([k1] : List (List UInt8)).flatten = k1 from by simp]
        simp only [List.cons_append, List.nil_append]
        refine ⟨⟨.of_mem (by simp), .of_mem (by simp)⟩, ?_⟩
        refine TK.one 14 (by decide +kernel) rfl rfl (T1.storeN (vs := (ofG (ofH (n0 ++ k0) 16)).map u32V) rfl rfl sz_27 (ones_u32 _) (by repeat (first | exact Sub.one | apply Sub.there | apply Sub.far)) (by rw [List.length_map, ofG_len]; rfl) (by rw [List.length_map, ofG_len]) ?_)
        refine ⟨⟨.of_mem (by simp), .of_mem (by simp)⟩, ?_⟩
        refine TK.one 15 (by decide +kernel) rfl rfl (T1.storeN (vs := (ofG (ofH (n1 ++ k1) 16)).map u32V) rfl rfl sz_27 (ones_u32 _) (by repeat (first | exact Sub.one | apply Sub.there | apply Sub.far)) (by rw [List.length_map, ofG_len]; rfl) (by rw [List.length_map, ofG_len]) ?_)
        refine ⟨⟨.of_mem (by simp), .of_mem (by simp)⟩, ?_⟩
        refine TD.done (by decide +kernel) ?_
        exact ⟨(b5, b6), _, _, trivial, (.cons rfl (.cons rfl .nil)), .nil, (by repeat (first | exact Take.nil | apply Take.one (by repeat (first | exact Pick.here | apply Pick.there | apply Pick.far)) | apply Take.seg (by repeat (first | exact PickS.last | exact PickS.one | exact PickS.here | exact PickS.nil | apply PickS.there | apply PickS.far)) | exact Take.last (by repeat (first | exact PickS.last | exact PickS.one | exact PickS.here | exact PickS.nil | apply PickS.there | apply PickS.far)))), rfl⟩
      ·
       simp only [List.flatten_cons, List.flatten_nil, List.append_nil, Nat.one_mul]
       refine ⟨⟨.of_mem (by simp), .of_mem (by simp)⟩, ?_⟩
       refine TK.one 4 (by decide +kernel) rfl rfl (T1.buildSlN (os := [.tmp 23]) (vs := [.agg (k0.map byteV).toArray]) (vss := [k0.map byteV]) ty_24 sz_36 zr_36 (by decide) rfl (.cons rfl .nil) (by exact Aggs.cons rfl Aggs.nil) rfl (by intro l hl; obtain rfl := List.mem_singleton.1 hl; rw [List.length_map]; exact hk0l) (fun b24 => ?_))
       simp only [List.flatten_cons, List.flatten_nil, List.append_nil, Nat.one_mul]
       refine ⟨⟨.of_mem (by simp), .of_mem (by simp)⟩, ?_⟩
       refine TK.one 5 (by decide +kernel) rfl rfl (T1.callX (X := [⟨b24, 0, k0.map byteV, 32⟩]) has_10 rfl (Of_any _ _ n0 [k0] [⟨b24, 0, k0.map byteV, 32⟩] (KeysR.one (by simp) hk0l) (by omega) (by simp)) (by repeat (first | exact Take.nil | apply Take.one (by repeat (first | exact Pick.here | apply Pick.there | apply Pick.far)) | apply Take.seg (by repeat (first | exact PickS.last | exact PickS.one | exact PickS.here | exact PickS.nil | apply PickS.there | apply PickS.far)) | exact Take.last (by repeat (first | exact PickS.last | exact PickS.one | exact PickS.here | exact PickS.nil | apply PickS.there | apply PickS.far)))) (fun v5 Y5 hY5 => ?_))
       obtain ⟨rfl, hzzY5⟩ := hY5
       rw [hzzY5, show ([k0] : List (List UInt8)).flatten = k0 from by simp]
       simp only [List.cons_append, List.nil_append]
       refine ⟨⟨.of_mem (by simp), .of_mem (by simp)⟩, ?_⟩
       refine TK.one 11 (by decide +kernel) rfl rfl (T1.callX (X := [⟨b30, 0, k1.map byteV, 32⟩]) has_10 rfl (Of_any _ _ n1 [k1] [⟨b30, 0, k1.map byteV, 32⟩] (KeysR.one (by simp) hk1l) (by omega) (by simp)) (by repeat (first | exact Take.nil | apply Take.one (by repeat (first | exact Pick.here | apply Pick.there | apply Pick.far)) | apply Take.seg (by repeat (first | exact PickS.last | exact PickS.one | exact PickS.here | exact PickS.nil | apply PickS.there | apply PickS.far)) | exact Take.last (by repeat (first | exact PickS.last | exact PickS.one | exact PickS.here | exact PickS.nil | apply PickS.there | apply PickS.far)))) (fun v11 Y11 hY11 => ?_))
       obtain ⟨rfl, hzzY11⟩ := hY11
       rw [hzzY11, show ([k1] : List (List UInt8)).flatten = k1 from by simp]
       simp only [List.cons_append, List.nil_append]
       refine ⟨⟨.of_mem (by simp), .of_mem (by simp)⟩, ?_⟩
       refine TK.one 14 (by decide +kernel) rfl rfl (T1.storeN (vs := (ofG (ofH (n0 ++ k0) 16)).map u32V) rfl rfl sz_27 (ones_u32 _) (by repeat (first | exact Sub.one | apply Sub.there | apply Sub.far)) (by rw [List.length_map, ofG_len]; rfl) (by rw [List.length_map, ofG_len]) ?_)
       refine ⟨⟨.of_mem (by simp), .of_mem (by simp)⟩, ?_⟩
       refine TK.one 15 (by decide +kernel) rfl rfl (T1.storeN (vs := (ofG (ofH (n1 ++ k1) 16)).map u32V) rfl rfl sz_27 (ones_u32 _) (by repeat (first | exact Sub.one | apply Sub.there | apply Sub.far)) (by rw [List.length_map, ofG_len]; rfl) (by rw [List.length_map, ofG_len]) ?_)
       refine ⟨⟨.of_mem (by simp), .of_mem (by simp)⟩, ?_⟩
       refine TD.done (by decide +kernel) ?_
       exact ⟨(b5, b6), _, _, trivial, (.cons rfl (.cons rfl .nil)), .nil, (by repeat (first | exact Take.nil | apply Take.one (by repeat (first | exact Pick.here | apply Pick.there | apply Pick.far)) | apply Take.seg (by repeat (first | exact PickS.last | exact PickS.one | exact PickS.here | exact PickS.nil | apply PickS.there | apply PickS.far)) | exact Take.last (by repeat (first | exact PickS.last | exact PickS.one | exact PickS.here | exact PickS.nil | apply PickS.there | apply PickS.far)))), rfl⟩
   ·
    rintro ⟨b5, b6⟩ e_ L rfl
    refine T.seq ?_
    refine T.region ?_
    refine TL.cons rfl (V1.t (V1.loadN (vs := (ofG (ofH (n0 ++ k0) 16)).map u32V) one_27 sz_27 rfl (RdN.whole (by repeat (first | exact Find.here | assumption | apply Find.there | apply Find.far))) (by rw [List.length_map, ofG_len])) ?_)
    refine TL.cons rfl (V1.t (V1.loadN (vs := (ofG (ofH (n1 ++ k1) 16)).map u32V) one_27 sz_27 rfl (RdN.whole (by repeat (first | exact Find.here | assumption | apply Find.there | apply Find.far))) (by rw [List.length_map, ofG_len])) ?_)
    refine TL.cons rfl (T1.call0 has_12 rfl (fun w hs => Number_any (ofG (ofH (n0 ++ k0) 16)) (ofG (ofH (n1 ++ k1) 16)) w (ofG_len _) (ofG_len _) (ofG_small _) (ofG_small _)) (fun v hv => ?_))
    subst hv
    obtain ⟨p, q, hpq, hpl, hql, hlt, hlk⟩ := numT_looks (ofG (ofH (n0 ++ k0) 16)) (ofG (ofH (n1 ++ k1) 16)) (ofG_len _) (ofG_len _)
    obtain ⟨s, hs⟩ : ∃ z, z = numT (ofG (ofH (n0 ++ k0) 16)) (ofG (ofH (n1 ++ k1) 16)) := ⟨_, rfl⟩
    rw [← hs] at hpq hlk ⊢
    have hsl : s.length = 71 := by rw [hpq, List.length_append, List.length_cons]; omega
    have hbs : (bstr s).size = 71 := hsl
    refine TL.cons rfl (V1.t (V1.assign' (by (conv => lhs; whnf) <;> rfl)) ?_)
    refine TL.nil ?_
    refine T.seq ?_
    refine T.seq ?_
    refine T.live (l := [(7, _)]) (.cons (by (conv => lhs; whnf) <;> rfl) .nil) (fun e_ => ?_)
    refine T.drawR mixed ?_
    refine TD.takeR 0 rfl (by decide +kernel) (by decide +kernel) (by decide +kernel) rfl (fun _ _ _ h => h) (V1.move' (by (conv => lhs; whnf) <;> rfl)) ?_
    refine TD.takeR 1 rfl (by decide +kernel) (by decide +kernel) (by decide +kernel) rfl (fun _ _ _ h => h) (V1.lenS ty_9 rfl) ?_
    refine TD.takeR 2 rfl (by decide +kernel) (by decide +kernel) (by decide +kernel) rfl (fun _ _ _ h => h) (V1.neI (r := false) rfl rfl (by rw [hbs]; decide)) ?_
    refine TD.takeR 3 rfl (by decide +kernel) (by decide +kernel) (by decide +kernel) rfl (fun _ _ _ h => h) (V1.move' (by (conv => lhs; whnf) <;> rfl)) ?_
    refine TD.takeR 4 rfl (by decide +kernel) (by decide +kernel) (by decide +kernel) rfl (fun _ _ _ h => h) (V1.move' (by (conv => lhs; whnf) <;> rfl)) ?_
    refine TD.takeR 5 rfl (by decide +kernel) (by decide +kernel) (by decide +kernel) rfl (fun _ _ _ h => h) (V1.sliceB (s := s) 0 35 ty_9 rfl rfl rfl (by decide) (by omega)) ?_
    refine TD.takeR 6 rfl (by decide +kernel) (by decide +kernel) (by decide +kernel) rfl (fun _ _ _ h => h) (V1.move' (by (conv => lhs; whnf) <;> rfl)) ?_
    refine TD.takeR 7 rfl (by decide +kernel) (by decide +kernel) (by decide +kernel) rfl (fun _ _ _ h => h) (V1.sliceB (s := s) 36 s.length ty_9 rfl rfl rfl (by omega) (Nat.le_refl _)) ?_
    refine TD.takeR 8 rfl (by decide +kernel) (by decide +kernel) (by decide +kernel) rfl (fun _ _ _ h => h) (V1.gtS (r := false) rfl rfl (by rw [bstr_list, bstr_list, show (s.drop 0).take (35 - 0) = p from by rw [hpq, List.drop_zero]; exact List.take_left' hpl, show (s.drop 36).take (s.length - 36) = q from by rw [hsl, hpq, show p ++ 32 :: q = (p ++ [32]) ++ q from by simp, List.drop_left' (by rw [List.length_append, List.length_singleton]; omega)]; exact List.take_of_length_le (by omega)]; cases hpq2 : Op.bytesLess p q with | true => rfl | false => rw [bl_total p q hpq2 hlt]; simp)) ?_
    refine TD.takeR 9 rfl (by decide +kernel) (by decide +kernel) (by decide +kernel) rfl (fun _ _ _ h => h) (V1.pick rfl (by (conv => lhs; whnf) <;> rfl)) ?_
    refine TD.done (by decide +kernel) ?_
    refine T.cond_f rfl ?_
    refine T.skip ?_
    refine T.seq ?_
    refine T.region ?_
    refine TL.cons rfl (V1.t (V1.assign' (v := .string (bstr (bareS (s.take 0)))) rfl) ?_)
    refine TL.nil ?_
    refine T.seq ?_
    refine T.seq ?_
    refine T.region ?_
    refine TL.cons rfl (V1.t (V1.assign' (by (conv => lhs; whnf) <;> rfl)) ?_)
    refine TL.nil ?_
    refine T.block ?_
    refine T.loopL (σ := Nat) (l0 := [(7, _)]) (fun x => [(9, .int .i64 (x : Nat)), (8, .string (bstr (bareS (s.take x))))]) (fun x L => L = [] ∧ x ≤ 71) (fun x => 71 - x) 0 (.cons rfl (.cons rfl .nil)) (.cons (by (conv => lhs; whnf) <;> rfl) .nil) Take.nil (⟨rfl, Nat.zero_le _⟩) ?_
    rintro i e_ L ⟨rfl, hi⟩
    refine T.seq ?_
    refine T.seq ?_
    refine T.region ?_
    refine TL.cons rfl (V1.t (V1.move' (by (conv => lhs; whnf) <;> rfl)) ?_)
    refine TL.cons rfl (V1.t (V1.move' (by (conv => lhs; whnf) <;> rfl)) ?_)
    refine TL.cons rfl (V1.t (V1.lenS ty_9 rfl) ?_)
    refine TL.cons rfl (T1.ltI_split rfl rfl (fun h11 => ?_) (fun h11 => ?_))
    ·
     rw [hbs] at h11
     obtain ⟨x, hx⟩ : ∃ z, s[i]? = some z := ⟨_, List.getElem?_eq_getElem (by omega)⟩
     have hbl := bare_len (s.take i)
     rw [List.length_take] at hbl
     refine TL.nil ?_
     refine T.cond_t rfl ?_
     refine T.skip ?_
     refine T.seq ?_
     refine T.block ?_
     refine T.seq ?_
     refine T.seq ?_
     refine T.region ?_
     refine TL.cons rfl (V1.t (V1.move' (by (conv => lhs; whnf) <;> rfl)) ?_)
     refine TL.cons rfl (V1.t (V1.move' (by (conv => lhs; whnf) <;> rfl)) ?_)
     refine TL.cons rfl (V1.t (V1.indexStr (c := x) ty_9 rfl rfl (by omega) (by rw [Int.toNat_natCast]; exact bstr_get hx)) ?_)
     rcases Decidable.em (i % 6 = 5) with h6 | h6
     ·
      have hx32 : x = 32 := (hlk i x hx).1 h6
      have hxn : x.toNat = 32 := by rw [hx32]; rfl
      refine TL.cons rfl (V1.t (V1.eqI (r := true) rfl rfl (decide_eq_true (by omega))) ?_)
      refine TL.cons rfl (V1.t (V1.move' (by (conv => lhs; whnf) <;> rfl)) ?_)
      refine TL.cons rfl (V1.t (V1.rem (c := ((i % 6 : Nat) : Int)) rfl rfl (by decide) (tmodM _ 6)) ?_)
      refine TL.cons rfl (V1.t (V1.eqI (r := true) rfl rfl (decide_eq_true (by omega))) ?_)
      refine TL.cons rfl (V1.t (V1.neB ty_4 rfl rfl rfl) ?_)
      refine TL.cons rfl (V1.t (V1.move' (by (conv => lhs; whnf) <;> rfl)) ?_)
      refine TL.cons rfl (V1.t (V1.move' (by (conv => lhs; whnf) <;> rfl)) ?_)
      refine TL.cons rfl (V1.t (V1.move' (by (conv => lhs; whnf) <;> rfl)) ?_)
      refine TL.cons rfl (V1.t (V1.indexStr (c := x) ty_9 rfl rfl (by omega) (by rw [Int.toNat_natCast]; exact bstr_get hx)) ?_)
      refine TL.cons rfl (V1.t (V1.neI (r := false) rfl rfl (decide_eq_false (by omega))) ?_)
      refine TL.cons rfl (V1.t (V1.move' (by (conv => lhs; whnf) <;> rfl)) ?_)
      refine TL.no rfl ?_
      refine TL.no rfl ?_
      refine TL.no rfl ?_
      refine TL.no rfl ?_
      refine TL.no rfl ?_
      refine TL.no rfl ?_
      refine TL.no rfl ?_
      refine TL.no rfl ?_
      refine TL.no rfl ?_
      refine TL.no rfl ?_
      refine TL.cons rfl (V1.t (V1.pick rfl (by (conv => lhs; whnf) <;> rfl)) ?_)
      refine TL.cons rfl (V1.t (V1.pick rfl (by (conv => lhs; whnf) <;> rfl)) ?_)
      refine TL.nil ?_
      refine T.cond_f rfl ?_
      refine T.skip ?_
      refine T.seq ?_
      refine T.live (l := [(7, _), (8, _), (9, _)]) (.cons (by (conv => lhs; whnf) <;> rfl) (.cons (by (conv => lhs; whnf) <;> rfl) (.cons (by (conv => lhs; whnf) <;> rfl) .nil))) (fun e_ => ?_)
      refine T.region ?_
      refine TL.cons rfl (V1.t (V1.move' (by (conv => lhs; whnf) <;> rfl)) ?_)
      refine TL.cons rfl (V1.t (V1.move' (by (conv => lhs; whnf) <;> rfl)) ?_)
      refine TL.cons rfl (V1.t (V1.indexStr (c := x) ty_9 rfl rfl (by omega) (by rw [Int.toNat_natCast]; exact bstr_get hx)) ?_)
      refine TL.cons rfl (V1.t (V1.neI (r := false) rfl rfl (decide_eq_false (by omega))) ?_)
      refine TL.nil ?_
      refine T.cond_f rfl ?_
      refine T.skip ?_
      refine T.region ?_
      refine TL.cons rfl (V1.t (V1.move' (by (conv => lhs; whnf) <;> rfl)) ?_)
      refine TL.cons rfl (V1.t (V1.add rfl rfl (wrap_i64 _ (by omega) (by omega))) ?_)
      refine TL.cons rfl (V1.t (V1.assign' (by (conv => lhs; whnf) <;> rfl)) ?_)
      refine TL.nil ?_
      exact ⟨i + 1, _, _, (by simp only; omega), (.cons rfl (.cons (congrArg (fun q => Value.string (bstr q)) (by rw [bare_take hx, if_pos hx32, List.append_nil])) .nil)), (.cons rfl .nil), (by repeat (first | exact Take.nil | apply Take.one (by repeat (first | exact Pick.here | apply Pick.there | apply Pick.far)) | apply Take.seg (by repeat (first | exact PickS.last | exact PickS.one | exact PickS.here | exact PickS.nil | apply PickS.there | apply PickS.far)) | exact Take.last (by repeat (first | exact PickS.last | exact PickS.one | exact PickS.here | exact PickS.nil | apply PickS.there | apply PickS.far)))), ⟨rfl, by omega⟩⟩
     ·
      have hdg := of_decide_eq_true ((hlk i x hx).2 h6)
      have hx32 : x ≠ 32 := by rintro rfl; revert hdg; decide
      have hxn : x.toNat ≠ 32 := by omega
      refine TL.cons rfl (V1.t (V1.eqI (r := false) rfl rfl (decide_eq_false (by omega))) ?_)
      refine TL.cons rfl (V1.t (V1.move' (by (conv => lhs; whnf) <;> rfl)) ?_)
      refine TL.cons rfl (V1.t (V1.rem (c := ((i % 6 : Nat) : Int)) rfl rfl (by decide) (tmodM _ 6)) ?_)
      refine TL.cons rfl (V1.t (V1.eqI (r := false) rfl rfl (decide_eq_false (by omega))) ?_)
      refine TL.cons rfl (V1.t (V1.neB ty_4 rfl rfl rfl) ?_)
      refine TL.cons rfl (V1.t (V1.move' (by (conv => lhs; whnf) <;> rfl)) ?_)
      refine TL.cons rfl (V1.t (V1.move' (by (conv => lhs; whnf) <;> rfl)) ?_)
      refine TL.cons rfl (V1.t (V1.move' (by (conv => lhs; whnf) <;> rfl)) ?_)
      refine TL.cons rfl (V1.t (V1.indexStr (c := x) ty_9 rfl rfl (by omega) (by rw [Int.toNat_natCast]; exact bstr_get hx)) ?_)
      refine TL.cons rfl (V1.t (V1.neI (r := true) rfl rfl (decide_eq_true (by omega))) ?_)
      refine TL.cons rfl (V1.t (V1.move' (by (conv => lhs; whnf) <;> rfl)) ?_)
      refine TL.cons rfl (V1.t (V1.move' (by (conv => lhs; whnf) <;> rfl)) ?_)
      refine TL.cons rfl (V1.t (V1.move' (by (conv => lhs; whnf) <;> rfl)) ?_)
      refine TL.cons rfl (V1.t (V1.indexStr (c := x) ty_9 rfl rfl (by omega) (by rw [Int.toNat_natCast]; exact bstr_get hx)) ?_)
      refine TL.cons rfl (V1.t (V1.ltI (r := false) rfl rfl (decide_eq_false (by omega))) ?_)
      refine TL.cons rfl (V1.t (V1.move' (by (conv => lhs; whnf) <;> rfl)) ?_)
      refine TL.cons rfl (V1.t (V1.move' (by (conv => lhs; whnf) <;> rfl)) ?_)
      refine TL.cons rfl (V1.t (V1.move' (by (conv => lhs; whnf) <;> rfl)) ?_)
      refine TL.cons rfl (V1.t (V1.indexStr (c := x) ty_9 rfl rfl (by omega) (by rw [Int.toNat_natCast]; exact bstr_get hx)) ?_)
      refine TL.cons rfl (V1.t (V1.gtI (r := false) rfl rfl (decide_eq_false (by omega))) ?_)
      refine TL.cons rfl (V1.t (V1.pick rfl (by (conv => lhs; whnf) <;> rfl)) ?_)
      refine TL.cons rfl (V1.t (V1.pick rfl (by (conv => lhs; whnf) <;> rfl)) ?_)
      refine TL.cons rfl (V1.t (V1.pick rfl (by (conv => lhs; whnf) <;> rfl)) ?_)
      refine TL.nil ?_
      refine T.cond_f rfl ?_
      refine T.skip ?_
      refine T.seq ?_
      refine T.live (l := [(7, _), (8, _), (9, _)]) (.cons (by (conv => lhs; whnf) <;> rfl) (.cons (by (conv => lhs; whnf) <;> rfl) (.cons (by (conv => lhs; whnf) <;> rfl) .nil))) (fun e_ => ?_)
      refine T.region ?_
      refine TL.cons rfl (V1.t (V1.move' (by (conv => lhs; whnf) <;> rfl)) ?_)
      refine TL.cons rfl (V1.t (V1.move' (by (conv => lhs; whnf) <;> rfl)) ?_)
      refine TL.cons rfl (V1.t (V1.indexStr (c := x) ty_9 rfl rfl (by omega) (by rw [Int.toNat_natCast]; exact bstr_get hx)) ?_)
      refine TL.cons rfl (V1.t (V1.neI (r := true) rfl rfl (decide_eq_true (by omega))) ?_)
      refine TL.nil ?_
      refine T.cond_t rfl ?_
      refine T.region ?_
      refine TL.cons rfl (V1.t (V1.move' (by (conv => lhs; whnf) <;> rfl)) ?_)
      refine TL.cons rfl (V1.t (V1.move' (by (conv => lhs; whnf) <;> rfl)) ?_)
      refine TL.cons rfl (V1.t (V1.move' (by (conv => lhs; whnf) <;> rfl)) ?_)
      refine TL.cons rfl (V1.t (V1.move' (by (conv => lhs; whnf) <;> rfl)) ?_)
      refine TL.cons rfl (V1.t (V1.add (c := ((i + 1 : Nat) : Int)) rfl rfl (by rw [wrap_i64 _ (by omega) (by omega)]; omega)) ?_)
      refine TL.cons rfl (V1.t (V1.sliceB (s := s) i (i + 1) ty_9 rfl rfl rfl (by omega) (by omega)) ?_)
      rw [one_at hx]
      refine TL.cons rfl (V1.t (V1.addB rfl rfl (by rw [List.length_singleton]; omega)) ?_)
      refine TL.cons rfl (V1.t (V1.assign' (by (conv => lhs; whnf) <;> rfl)) ?_)
      refine TL.nil ?_
      refine T.region ?_
      refine TL.cons rfl (V1.t (V1.move' (by (conv => lhs; whnf) <;> rfl)) ?_)
      refine TL.cons rfl (V1.t (V1.add rfl rfl (wrap_i64 _ (by omega) (by omega))) ?_)
      refine TL.cons rfl (V1.t (V1.assign' (by (conv => lhs; whnf) <;> rfl)) ?_)
      refine TL.nil ?_
      exact ⟨i + 1, _, _, (by simp only; omega), (.cons rfl (.cons (congrArg (fun q => Value.string (bstr q)) (by rw [bare_take hx, if_neg hx32])) .nil)), (.cons rfl .nil), (by repeat (first | exact Take.nil | apply Take.one (by repeat (first | exact Pick.here | apply Pick.there | apply Pick.far)) | apply Take.seg (by repeat (first | exact PickS.last | exact PickS.one | exact PickS.here | exact PickS.nil | apply PickS.there | apply PickS.far)) | exact Take.last (by repeat (first | exact PickS.last | exact PickS.one | exact PickS.here | exact PickS.nil | apply PickS.there | apply PickS.far)))), ⟨rfl, by omega⟩⟩
    ·
     rw [hbs] at h11
     obtain rfl : i = 71 := by omega
     rw [show s.take 71 = s from List.take_of_length_le (by omega)]
     have hbl := bare_len s
     refine TL.nil ?_
     refine T.cond_f rfl ?_
     refine T.exit ?_
     refine T.seq ?_
     refine T.region ?_
     refine TL.cons rfl (V1.t (V1.move' (by (conv => lhs; whnf) <;> rfl)) ?_)
     refine TL.cons rfl (V1.t (V1.move' (by (conv => lhs; whnf) <;> rfl)) ?_)
     refine TL.cons rfl (T1.call0 has_8 rfl (fun w hs => Same_any s (bareS s) w (by omega) (by omega)) (fun v hv => ?_))
     subst hv
     rw [show decide (flt s = flt (bareS s)) = true from decide_eq_true (flt_bare s).symm]
     refine TL.cons rfl (V1.t (V1.move' (by (conv => lhs; whnf) <;> rfl)) ?_)
     refine TL.cons rfl (V1.t (V1.move' (by (conv => lhs; whnf) <;> rfl)) ?_)
     refine TL.cons rfl (V1.t (V1.move' (by (conv => lhs; whnf) <;> rfl)) ?_)
     refine TL.cons rfl (T1.call0 has_8 rfl (fun w hs => Same_any (bareS s) s w (by omega) (by omega)) (fun v hv => ?_))
     subst hv
     rw [show decide (flt (bareS s) = flt s) = true from decide_eq_true (flt_bare s)]
     refine TL.cons rfl (V1.t (V1.pick rfl (by (conv => lhs; whnf) <;> rfl)) ?_)
     refine TL.cons rfl (V1.t (V1.move' (by (conv => lhs; whnf) <;> rfl)) ?_)
     refine TL.cons rfl (V1.t (V1.move' (by (conv => lhs; whnf) <;> rfl)) ?_)
     refine TL.cons rfl (V1.t (V1.move' (by (conv => lhs; whnf) <;> rfl)) ?_)
     refine TL.cons rfl (V1.t (V1.addB (m := [48]) rfl rfl (by rw [List.length_singleton]; omega)) ?_)
     refine TL.cons rfl (T1.call0 has_8 rfl (fun w hs => Same_any s (bareS s ++ [48]) w (by omega) (by rw [List.length_append, List.length_singleton]; omega)) (fun v hv => ?_))
     subst hv
     rw [show decide (flt s = flt (bareS s ++ [48])) = false from decide_eq_false (flt_more s)]
     refine TL.cons rfl (V1.t (V1.not rfl rfl) ?_)
     refine TL.cons rfl (V1.t (V1.pick rfl (by (conv => lhs; whnf) <;> rfl)) ?_)
     refine TL.cons rfl (V1.t (V1.assign' (by (conv => lhs; whnf) <;> rfl)) ?_)
     refine TL.nil ?_
     refine T.ret ?_
     exact ⟨_, [], _, .cons (.tmp (by (conv => lhs; whnf) <;> rfl)) .nil, Take.nil, rfl⟩

end Go.Proofs.Ytdgbckfnamiebaa.S
