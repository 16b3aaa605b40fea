/- Groups that are written are read again. -/
import Derived.Test.YtdgbckfnamiebaaDoorD4
namespace Go.Proofs.YtdgbckfnamiebaaDoor.S
open Go.RowKit

/-- The first so many groups cut to five digits. -/
def gm (g : List Nat) (i : Nat) : List Nat := (g.take i).map (· % 100000) ++ g.drop i
theorem gm_len {g : List Nat} {i : Nat} (h : i ≤ g.length) : (gm g i).length = g.length := by
  unfold gm; rw [List.length_append, List.length_map, List.length_take, List.length_drop]; omega
theorem gm_get {g : List Nat} {i n : Nat} (h : g[i]? = some n) : (gm g i)[i]? = some n := by
  have hi := (List.getElem?_eq_some_iff.1 h).1
  unfold gm
  rw [List.getElem?_append_right (by rw [List.length_map, List.length_take]; omega), List.length_map, List.length_take, List.getElem?_drop, show i + (i - min i g.length) = i from by omega]; exact h
theorem gm_set {g : List Nat} {i n : Nat} (h : g[i]? = some n) : (gm g i).set i (n % 100000) = gm g (i + 1) := by
  have hi := (List.getElem?_eq_some_iff.1 h).1
  have hd : g.drop i = n :: g.drop (i + 1) := by
    rw [List.drop_eq_getElem_cons hi]
    rw [List.getElem?_eq_getElem hi] at h
    rw [Option.some.inj h]
  unfold gm
  rw [hd, List.set_append_right _ _ (by rw [List.length_map, List.length_take]; omega), List.length_map, List.length_take, show i - min i g.length = 0 from by omega, List.set_cons_zero, List.take_add_one, h, List.map_append, List.append_assoc]; rfl
theorem gm_all {g : List Nat} (h : g.length = 6) : gm g 6 = g.map (· % 100000) := by
  unfold gm; rw [List.take_of_length_le (by omega), List.drop_of_length_le (by omega), List.append_nil]
theorem gm_zero (g : List Nat) : gm g 0 = g := by unfold gm; simp

set_option maxRecDepth 100000 in
set_option maxHeartbeats 2000000 in
theorem SafetyBack_any (g : List Nat) (at_ : Int) (d : UInt8) (w : World) (hg : g.length = 6) (h32 : ∀ x ∈ g, x < 4294967296) : Fn P 4 [.agg (g.map u32V).toArray, .int .i64 at_, byteV d] w [] (fun v _ => v = .bool true) := by
  refine Fn.of 96 [.tmp 6] Go.Proofs.Tryd.func4 rfl rfl rfl rfl ?_
  refine T.seq ?_
  refine T.region ?_
  refine TL.cons rfl (T1.boxN (vs := g.map u32V) 6 rfl (by rw [List.length_map]; exact hg) (fun b3 => ?_))
  rw [show g.map u32V = (gm g 0).map u32V from by rw [gm_zero]]
  refine TL.cons rfl (V1.t (V1.assign' (by (conv => lhs; whnf) <;> rfl)) ?_)
  refine TL.nil ?_
  refine T.seq ?_
  refine T.seq ?_
  refine T.region ?_
  refine TL.cons rfl (T1.call0 has_5 rfl (fun w hs => writes_any w) (fun v hv => ?_))
  subst hv
  refine TL.cons rfl (V1.t (V1.not rfl rfl) ?_)
  refine TL.nil ?_
  refine T.cond_f rfl ?_
  refine T.skip ?_
  refine T.seq ?_
  refine T.seq ?_
  refine T.region ?_
  refine TL.cons rfl (V1.t (V1.move' (by (conv => lhs; whnf) <;> rfl)) ?_)
  refine TL.nil ?_
  refine T.block ?_
  refine T.loopL (σ := Nat) (l0 := [(1, _), (2, _), (3, _)]) (fun x => [(16, .int .i64 (x : Nat))]) (fun i L => L = ⟨b3, 0, (gm g i).map u32V, 6⟩ :: [] ∧ i ≤ 6) (fun x => 6 - x) 0 (.cons rfl .nil) (.cons (by (conv => lhs; whnf) <;> rfl) (.cons (by (conv => lhs; whnf) <;> rfl) (.cons (by (conv => lhs; whnf) <;> rfl) .nil))) (by repeat (first | exact Take.nil | apply Take.one (by repeat (first | exact Pick.here | apply Pick.there | apply Pick.far)) | apply Take.seg (by repeat (first | exact PickS.last | exact PickS.one | exact PickS.here | exact PickS.nil | apply PickS.there | apply PickS.far)) | exact Take.last (by repeat (first | exact PickS.last | exact PickS.one | exact PickS.here | exact PickS.nil | apply PickS.there | apply PickS.far)))) (⟨rfl, Nat.zero_le _⟩) ?_
  rintro i e_ L ⟨rfl, hi⟩
  refine T.seq ?_
  refine T.region ?_
  refine TL.cons rfl (T1.ltI_split rfl rfl (fun h4 => ?_) (fun h4 => ?_))
  ·
    try simp only at h4
    obtain ⟨n, hn⟩ : ∃ n, g[i]? = some n := ⟨_, List.getElem?_eq_getElem (by omega)⟩
    have hn32 := h32 n (List.mem_of_getElem? hn)
    have hml := gm_len (g := g) (i := i) (by omega)
    refine TL.nil ?_
    refine T.seq ?_
    refine T.cond_t rfl ?_
    refine T.skip ?_
    refine T.seq ?_
    refine T.block ?_
    refine T.seq ?_
    refine T.region ?_
    refine TL.cons rfl (V1.t (V1.move' (by (conv => lhs; whnf) <;> rfl)) ?_)
    refine TL.cons rfl (V1.t (V1.assign' (by (conv => lhs; whnf) <;> rfl)) ?_)
    refine TL.nil ?_
    refine T.region ?_
    refine TL.cons rfl (V1.t (V1.move' (by (conv => lhs; whnf) <;> rfl)) ?_)
    refine TL.cons rfl (V1.t (V1.indexAddrA ty_24 sz_22 rfl rfl (by omega) (by omega)) ?_)
    refine TL.cons rfl (V1.t (V1.load1 one_22 rfl (show Rd _ _ ⟨b3, 0 + i * 1, none⟩ (u32V n) from by rw [Nat.mul_one]; exact Rd.at (cells := (gm g i).map u32V) (by repeat (first | exact Find.here | assumption | apply Find.there | apply Find.far)) (by rw [List.getElem?_map, gm_get hn]; rfl))) ?_)
    refine TL.cons rfl (V1.t (V1.rem (c := ((n % 100000 : Nat) : Int)) rfl rfl (by decide) ((Int.ofNat_tmod _ 100000).symm)) ?_)
    refine TL.cons rfl (V1.t (V1.indexAddrA ty_24 sz_22 rfl rfl (by omega) (by omega)) ?_)
    refine TL.cons rfl (T1.storeE (o := 0 + i * 1) (v := u32V (n % 100000)) (cells := (gm g i).map u32V) (cells' := (gm g (i + 1)).map u32V) rfl rfl sz_22 rfl (by rw [show 0 + i * 1 - 0 = i from by omega, ← List.map_set, gm_set hn]) (by repeat (first | exact Sub.one | apply Sub.there | apply Sub.far)) (Nat.zero_le _) (by rw [List.length_map, hml]; omega) ?_)
    refine TL.nil ?_
    refine T.region ?_
    refine TL.cons rfl (V1.t (V1.add rfl rfl (wrap_i64 _ (by omega) (by omega))) ?_)
    refine TL.cons rfl (V1.t (V1.move' (by (conv => lhs; whnf) <;> rfl)) ?_)
    refine TL.nil ?_
    exact ⟨i + 1, _, _, (by simp only; omega), (.cons rfl .nil), (.cons rfl (.cons rfl (.cons rfl .nil))), (by repeat (first | exact Take.nil | apply Take.one (by repeat (first | exact Pick.here | apply Pick.there | apply Pick.far)) | apply Take.seg (by repeat (first | exact PickS.last | exact PickS.one | exact PickS.here | exact PickS.nil | apply PickS.there | apply PickS.far)) | exact Take.last (by repeat (first | exact PickS.last | exact PickS.one | exact PickS.here | exact PickS.nil | apply PickS.there | apply PickS.far)))), ⟨rfl, by omega⟩⟩
  ·
    try simp only at h4
    obtain rfl : i = 6 := by omega
    obtain ⟨q, hq⟩ : ∃ q, q = gm g 6 := ⟨_, rfl⟩
    rw [← hq]
    rw [gm_all hg] at hq
    have hql : q.length = 6 := by rw [hq, List.length_map]; exact hg
    have hq5 : ∀ v ∈ q, v < 100000 := by intro v hv; rw [hq] at hv; obtain ⟨n, _, rfl⟩ := List.mem_map.1 hv; exact Nat.mod_lt _ (by decide)
    have h35 := len35 q hql
    refine TL.nil ?_
    refine T.seq ?_
    refine T.cond_f rfl ?_
    refine T.exit ?_
    refine T.seq ?_
    refine T.region ?_
    refine TL.cons rfl (V1.t (V1.loadN (vs := q.map u32V) one_24 sz_24 rfl (RdN.whole (by repeat (first | exact Find.here | assumption | apply Find.there | apply Find.far))) (by rw [List.length_map]; exact hql)) ?_)
    refine TL.cons rfl (T1.call0 has_8 rfl (fun w hs => groupsString_any q w hql (fun v hv => Nat.lt_trans (hq5 v hv) (by decide))) (fun v_ hv => ?_))
    obtain rfl := hv
    refine TL.cons rfl (V1.t (V1.assign' (by (conv => lhs; whnf) <;> rfl)) ?_)
    refine TL.nil ?_
    refine T.seq ?_
    refine T.region ?_
    refine TL.cons rfl (V1.t (V1.move' (by (conv => lhs; whnf) <;> rfl)) ?_)
    refine TL.cons rfl (T1.call0 has_6 rfl (fun w hs => Parse_any (textG q) w (by omega)) (fun v_ hv => ?_))
    rw [parse_text hql hq5] at hv
    obtain rfl : v_ = .tuple #[.agg (q.map u32V).toArray, .int .i64 0] := hv
    refine TL.cons rfl (V1.t (V1.move' (by (conv => lhs; whnf) <;> rfl)) ?_)
    refine TL.cons rfl (V1.t (V1.extract rfl (by rfl)) ?_)
    refine TL.cons rfl (V1.t (V1.extract rfl (by rfl)) ?_)
    refine TL.cons rfl (T1.allocN 6 zr_24 rfl (fun b9 => ?_))
    refine TL.cons rfl (T1.storeN (vs := q.map u32V) rfl rfl sz_24 (ones_u32 _) (by repeat (first | exact Sub.one | apply Sub.there | apply Sub.far)) (by rw [List.length_map]; exact hql) (by rw [List.length_map]; exact hql) ?_)
    refine TL.cons rfl (V1.t (V1.assign' (by (conv => lhs; whnf) <;> rfl)) ?_)
    refine TL.nil ?_
    refine T.seq ?_
    refine T.seq ?_
    refine T.region ?_
    refine TL.cons rfl (V1.t (V1.move' (by (conv => lhs; whnf) <;> rfl)) ?_)
    refine TL.cons rfl (V1.t (V1.neI rfl rfl (decide_eq_false (by omega))) ?_)
    refine TL.cons rfl (V1.t (V1.move' (by (conv => lhs; whnf) <;> rfl)) ?_)
    refine TL.cons rfl (V1.t (V1.loadN (vs := q.map u32V) one_24 sz_24 rfl (RdN.whole (by repeat (first | exact Find.here | assumption | apply Find.there | apply Find.far))) (by rw [List.length_map]; exact hql)) ?_)
    refine TL.cons rfl (V1.t (V1.loadN (vs := q.map u32V) one_24 sz_24 rfl (RdN.whole (by repeat (first | exact Find.here | assumption | apply Find.there | apply Find.far))) (by rw [List.length_map]; exact hql)) ?_)
    refine TL.cons rfl (V1.t (V1.neU32q (l := q) (m := q) (r := false) ty_24 ty_22 sz_22 eg_24 rfl rfl hql hql (by simp)) ?_)
    refine TL.cons rfl (V1.t (V1.pick rfl (by (conv => lhs; whnf) <;> rfl)) ?_)
    refine TL.nil ?_
    refine T.cond_f rfl ?_
    refine T.skip ?_
    refine T.seq ?_
    refine T.seq ?_
    refine T.live (l := [(1, _), (2, _), (3, _), (8, _)]) (.cons (by (conv => lhs; whnf) <;> rfl) (.cons (by (conv => lhs; whnf) <;> rfl) (.cons (by (conv => lhs; whnf) <;> rfl) (.cons (by (conv => lhs; whnf) <;> rfl) .nil)))) (fun e_ => ?_)
    refine T.region ?_
    refine TL.cons rfl (V1.t (V1.move' (by (conv => lhs; whnf) <;> rfl)) ?_)
    refine TL.cons rfl (T1.ltI_split rfl rfl (fun h12 => ?_) (fun h12 => ?_))
    ·
      refine TL.cons rfl (V1.t (V1.move' (by (conv => lhs; whnf) <;> rfl)) ?_)
      refine TL.no rfl ?_
      refine TL.no rfl ?_
      refine TL.no rfl ?_
      refine TL.no rfl ?_
      refine TL.cons rfl (V1.t (V1.pick rfl (by (conv => lhs; whnf) <;> rfl)) ?_)
      refine TL.cons rfl (V1.t (V1.move' (by (conv => lhs; whnf) <;> rfl)) ?_)
      refine TL.no rfl ?_
      refine TL.no rfl ?_
      refine TL.no rfl ?_
      refine TL.no rfl ?_
      refine TL.cons rfl (V1.t (V1.pick rfl (by (conv => lhs; whnf) <;> rfl)) ?_)
      refine TL.cons rfl (V1.t (V1.move' (by (conv => lhs; whnf) <;> rfl)) ?_)
      refine TL.no rfl ?_
      refine TL.no rfl ?_
      refine TL.cons rfl (V1.t (V1.pick rfl (by (conv => lhs; whnf) <;> rfl)) ?_)
      refine TL.cons rfl (V1.t (V1.move' (by (conv => lhs; whnf) <;> rfl)) ?_)
      refine TL.no rfl ?_
      refine TL.no rfl ?_
      refine TL.no rfl ?_
      refine TL.no rfl ?_
      refine TL.no rfl ?_
      refine TL.no rfl ?_
      refine TL.cons rfl (V1.t (V1.pick rfl (by (conv => lhs; whnf) <;> rfl)) ?_)
      refine TL.nil ?_
      refine T.cond_t rfl ?_
      refine T.seq ?_
      refine T.live (l := []) .nil (fun e_ => ?_)
      refine T.region ?_
      refine TL.cons rfl (V1.t (V1.assign' (by (conv => lhs; whnf) <;> rfl)) ?_)
      refine TL.nil ?_
      refine T.ret ?_
      exact ⟨_, [], _, .cons (.tmp (by (conv => lhs; whnf) <;> rfl)) .nil, Take.nil, rfl⟩
    ·
      refine TL.cons rfl (V1.t (V1.move' (by (conv => lhs; whnf) <;> rfl)) ?_)
      refine TL.cons rfl (V1.t (V1.move' (by (conv => lhs; whnf) <;> rfl)) ?_)
      refine TL.cons rfl (V1.t (V1.move' (by (conv => lhs; whnf) <;> rfl)) ?_)
      refine TL.cons rfl (V1.t (V1.lenS ty_9 rfl) ?_)
      refine TL.cons rfl (T1.geI_split rfl rfl (fun h12b => ?_) (fun h12b => ?_))
      ·
        refine TL.cons rfl (V1.t (V1.pick rfl (by (conv => lhs; whnf) <;> rfl)) ?_)
        refine TL.cons rfl (V1.t (V1.move' (by (conv => lhs; whnf) <;> rfl)) ?_)
        refine TL.no rfl ?_
        refine TL.no rfl ?_
        refine TL.no rfl ?_
        refine TL.no rfl ?_
        refine TL.cons rfl (V1.t (V1.pick rfl (by (conv => lhs; whnf) <;> rfl)) ?_)
        refine TL.cons rfl (V1.t (V1.move' (by (conv => lhs; whnf) <;> rfl)) ?_)
        refine TL.no rfl ?_
        refine TL.no rfl ?_
        refine TL.cons rfl (V1.t (V1.pick rfl (by (conv => lhs; whnf) <;> rfl)) ?_)
        refine TL.cons rfl (V1.t (V1.move' (by (conv => lhs; whnf) <;> rfl)) ?_)
        refine TL.no rfl ?_
        refine TL.no rfl ?_
        refine TL.no rfl ?_
        refine TL.no rfl ?_
        refine TL.no rfl ?_
        refine TL.no rfl ?_
        refine TL.cons rfl (V1.t (V1.pick rfl (by (conv => lhs; whnf) <;> rfl)) ?_)
        refine TL.nil ?_
        refine T.cond_t rfl ?_
        refine T.seq ?_
        refine T.live (l := []) .nil (fun e_ => ?_)
        refine T.region ?_
        refine TL.cons rfl (V1.t (V1.assign' (by (conv => lhs; whnf) <;> rfl)) ?_)
        refine TL.nil ?_
        refine T.ret ?_
        exact ⟨_, [], _, .cons (.tmp (by (conv => lhs; whnf) <;> rfl)) .nil, Take.nil, rfl⟩
      ·
        rw [bstr_size] at h12b
        obtain ⟨m, rfl⟩ : ∃ m : Nat, at_ = m := ⟨at_.toNat, by omega⟩
        obtain ⟨x, hx⟩ : ∃ x, (textG q)[m]? = some x := ⟨_, List.getElem?_eq_getElem (by omega)⟩
        refine TL.cons rfl (V1.t (V1.pick rfl (by (conv => lhs; whnf) <;> rfl)) ?_)
        refine TL.cons rfl (V1.t (V1.move' (by (conv => lhs; whnf) <;> rfl)) ?_)
        refine TL.cons rfl (V1.t (V1.move' (by (conv => lhs; whnf) <;> rfl)) ?_)
        refine TL.cons rfl (V1.t (V1.move' (by (conv => lhs; whnf) <;> rfl)) ?_)
        refine TL.cons rfl (V1.t (V1.indexStr (s := bstr (textG q)) (c := x) ty_9 rfl rfl (by omega) (by rw [Int.toNat_natCast]; exact bstr_get hx)) ?_)
        refine TL.cons rfl (T1.eqI_split rfl rfl (fun h12c => ?_) (fun h12c => ?_))
        ·
          refine TL.cons rfl (V1.t (V1.pick rfl (by (conv => lhs; whnf) <;> rfl)) ?_)
          refine TL.cons rfl (V1.t (V1.move' (by (conv => lhs; whnf) <;> rfl)) ?_)
          refine TL.no rfl ?_
          refine TL.no rfl ?_
          refine TL.cons rfl (V1.t (V1.pick rfl (by (conv => lhs; whnf) <;> rfl)) ?_)
          refine TL.cons rfl (V1.t (V1.move' (by (conv => lhs; whnf) <;> rfl)) ?_)
          refine TL.no rfl ?_
          refine TL.no rfl ?_
          refine TL.no rfl ?_
          refine TL.no rfl ?_
          refine TL.no rfl ?_
          refine TL.no rfl ?_
          refine TL.cons rfl (V1.t (V1.pick rfl (by (conv => lhs; whnf) <;> rfl)) ?_)
          refine TL.nil ?_
          refine T.cond_t rfl ?_
          refine T.seq ?_
          refine T.live (l := []) .nil (fun e_ => ?_)
          refine T.region ?_
          refine TL.cons rfl (V1.t (V1.assign' (by (conv => lhs; whnf) <;> rfl)) ?_)
          refine TL.nil ?_
          refine T.ret ?_
          exact ⟨_, [], _, .cons (.tmp (by (conv => lhs; whnf) <;> rfl)) .nil, Take.nil, rfl⟩
        ·
          have hx32 : x ≠ 32 := by rintro rfl; exact h12c rfl
          refine TL.cons rfl (V1.t (V1.pick rfl (by (conv => lhs; whnf) <;> rfl)) ?_)
          refine TL.cons rfl (V1.t (V1.move' (by (conv => lhs; whnf) <;> rfl)) ?_)
          refine TL.cons rfl (V1.t (V1.move' (by (conv => lhs; whnf) <;> rfl)) ?_)
          refine TL.cons rfl (T1.gtI_split rfl rfl (fun h12d => ?_) (fun h12d => ?_))
          ·
            refine TL.cons rfl (V1.t (V1.pick rfl (by (conv => lhs; whnf) <;> rfl)) ?_)
            refine TL.cons rfl (V1.t (V1.move' (by (conv => lhs; whnf) <;> rfl)) ?_)
            refine TL.no rfl ?_
            refine TL.no rfl ?_
            refine TL.no rfl ?_
            refine TL.no rfl ?_
            refine TL.no rfl ?_
            refine TL.no rfl ?_
            refine TL.cons rfl (V1.t (V1.pick rfl (by (conv => lhs; whnf) <;> rfl)) ?_)
            refine TL.nil ?_
            refine T.cond_t rfl ?_
            refine T.seq ?_
            refine T.live (l := []) .nil (fun e_ => ?_)
            refine T.region ?_
            refine TL.cons rfl (V1.t (V1.assign' (by (conv => lhs; whnf) <;> rfl)) ?_)
            refine TL.nil ?_
            refine T.ret ?_
            exact ⟨_, [], _, .cons (.tmp (by (conv => lhs; whnf) <;> rfl)) .nil, Take.nil, rfl⟩
          ·
            obtain ⟨y, hy⟩ : ∃ y : UInt8, y.toNat = 48 + d.toNat := ⟨UInt8.ofNat (48 + d.toNat), by rw [UInt8.toNat_ofNat', show (2 : Nat) ^ 8 = 256 from rfl]; omega⟩
            have hyd : digitB y = true := by unfold digitB; exact decide_eq_true (by omega)
            refine TL.cons rfl (V1.t (V1.pick rfl (by (conv => lhs; whnf) <;> rfl)) ?_)
            refine TL.cons rfl (V1.t (V1.move' (by (conv => lhs; whnf) <;> rfl)) ?_)
            refine TL.cons rfl (V1.t (V1.move' (by (conv => lhs; whnf) <;> rfl)) ?_)
            refine TL.cons rfl (V1.t (V1.move' (by (conv => lhs; whnf) <;> rfl)) ?_)
            refine TL.cons rfl (V1.t (V1.indexStr (s := bstr (textG q)) (c := x) ty_9 rfl rfl (by omega) (by rw [Int.toNat_natCast]; exact bstr_get hx)) ?_)
            refine TL.cons rfl (V1.t (V1.move' (by (conv => lhs; whnf) <;> rfl)) ?_)
            refine TL.cons rfl (V1.t (V1.add (c := ((y.toNat : Nat) : Int)) rfl rfl (by rw [wrap_u8 _ (by omega) (by omega)]; omega)) ?_)
            refine TL.cons rfl (T1.eqI_split rfl rfl (fun h12e => ?_) (fun h12e => ?_))
            ·
              refine TL.cons rfl (V1.t (V1.pick rfl (by (conv => lhs; whnf) <;> rfl)) ?_)
              refine TL.nil ?_
              refine T.cond_t rfl ?_
              refine T.seq ?_
              refine T.live (l := []) .nil (fun e_ => ?_)
              refine T.region ?_
              refine TL.cons rfl (V1.t (V1.assign' (by (conv => lhs; whnf) <;> rfl)) ?_)
              refine TL.nil ?_
              refine T.ret ?_
              exact ⟨_, [], _, .cons (.tmp (by (conv => lhs; whnf) <;> rfl)) .nil, Take.nil, rfl⟩
            ·
              have hxy : x ≠ y := by rintro rfl; exact h12e rfl
              obtain ⟨ks, hpk, hks, hk5, hne, hflt⟩ := text_turned hql hq5 hx hx32 hyd hxy
              refine TL.cons rfl (V1.t (V1.pick rfl (by (conv => lhs; whnf) <;> rfl)) ?_)
              refine TL.nil ?_
              refine T.cond_f rfl ?_
              refine T.skip ?_
              refine T.seq ?_
              refine T.live (l := [(1, _), (2, _), (3, _), (8, _)]) (.cons (by (conv => lhs; whnf) <;> rfl) (.cons (by (conv => lhs; whnf) <;> rfl) (.cons (by (conv => lhs; whnf) <;> rfl) (.cons (by (conv => lhs; whnf) <;> rfl) .nil)))) (fun e_ => ?_)
              refine T.drawK (fun L_ => True) mixed trivial ?_
              refine TK.take 0 rfl (by decide +kernel) (by decide +kernel) (by decide +kernel) rfl (fun _ _ _ h => h) (fun L_ _ => V1.move' (by (conv => lhs; whnf) <;> rfl)) ?_
              refine TK.take 1 rfl (by decide +kernel) (by decide +kernel) (by decide +kernel) rfl (fun _ _ _ h => h) (fun L_ _ => V1.move' (by (conv => lhs; whnf) <;> rfl)) ?_
              refine TK.take 2 rfl (by decide +kernel) (by decide +kernel) (by decide +kernel) rfl (fun _ _ _ h => h) (fun L_ _ => V1.sliceB (s := (textG q)) 0 m ty_9 rfl rfl rfl (by omega) (by omega)) ?_
              refine TK.take 3 rfl (by decide +kernel) (by decide +kernel) (by decide +kernel) rfl (fun _ _ _ h => h) (fun L_ _ => V1.move' (by (conv => lhs; whnf) <;> rfl)) ?_
              refine TK.take 4 rfl (by decide +kernel) (by decide +kernel) (by decide +kernel) rfl (fun _ _ _ h => h) (fun L_ _ => V1.add (c := ((y.toNat : Nat) : Int)) rfl rfl (by rw [wrap_u8 _ (by omega) (by omega)]; omega)) ?_
              refine TK.take 8 rfl (by decide +kernel) (by decide +kernel) (by decide +kernel) rfl (fun _ _ _ h => h) (fun L_ _ => V1.move' (by (conv => lhs; whnf) <;> rfl)) ?_
              refine TK.take 9 rfl (by decide +kernel) (by decide +kernel) (by decide +kernel) rfl (fun _ _ _ h => h) (fun L_ _ => V1.move' (by (conv => lhs; whnf) <;> rfl)) ?_
              refine TK.take 10 rfl (by decide +kernel) (by decide +kernel) (by decide +kernel) rfl (fun _ _ _ h => h) (fun L_ _ => V1.add (c := ((m + 1 : Nat) : Int)) rfl rfl (by rw [wrap_i64 _ (by omega) (by omega)]; omega)) ?_
              refine TK.take 11 rfl (by decide +kernel) (by decide +kernel) (by decide +kernel) rfl (fun _ _ _ h => h) (fun L_ _ => V1.sliceB (s := (textG q)) (m + 1) (textG q).length ty_9 rfl rfl rfl (by omega) (Nat.le_refl _)) ?_
              refine TK.one 5 (by decide +kernel) rfl rfl (T1.buildSl1 (os := [.tmp 69]) (vs := List.map byteV [y]) ty_34 sz_5 zr_5 (by decide) rfl (.cons rfl .nil) rfl (ones rfl) (fun b70 => ?_))
              refine ⟨trivial, ?_⟩
              refine TK.one 6 (by decide +kernel) rfl rfl (V1.t (V1.bytesToStr (l := [y]) ty_34 ty_5 ty_9 rfl (.sl (n := 1) (RdN.at0 (cells := ([y] : List UInt8).map byteV) (by repeat (first | exact Find.here | assumption | apply Find.there | apply Find.far))) rfl) (by intro b h; cases h)) ?_)
              refine ⟨trivial, ?_⟩
              refine TK.take 7 rfl (by decide +kernel) (by decide +kernel) (by decide +kernel) rfl (fun _ _ _ h => h) (fun L_ _ => V1.addB (l := ((textG q).drop 0).take (m - 0)) (m := [y]) rfl rfl (by rw [List.length_take, List.length_drop, List.length_singleton]; omega)) ?_
              refine TK.take 12 rfl (by decide +kernel) (by decide +kernel) (by decide +kernel) rfl (fun _ _ _ h => h) (fun L_ _ => V1.addB (l := ((textG q).drop 0).take (m - 0) ++ [y]) (m := ((textG q).drop (m + 1)).take ((textG q).length - (m + 1))) rfl rfl (by rw [List.length_append, List.length_take, List.length_drop, List.length_take, List.length_drop, List.length_singleton]; omega)) ?_
              refine TK.take 13 rfl (by decide +kernel) (by decide +kernel) (by decide +kernel) rfl (fun _ _ _ h => h) (fun L_ _ => V1.assign' rfl) ?_
              rw [show ((textG q).drop 0).take (m - 0) ++ [y] ++ ((textG q).drop (m + 1)).take ((textG q).length - (m + 1)) = (textG q).set m y from by rw [List.drop_zero, Nat.sub_zero, show ((textG q).drop (m + 1)).take ((textG q).length - (m + 1)) = (textG q).drop (m + 1) from List.take_of_length_le (by rw [List.length_drop]; exact Nat.le_refl _), List.set_eq_take_append_cons_drop, if_pos (by omega), List.append_assoc]; rfl]
              refine TD.done (by decide +kernel) ?_
              refine T.seq ?_
              refine T.region ?_
              refine TL.cons rfl (V1.t (V1.move' (by (conv => lhs; whnf) <;> rfl)) ?_)
              refine TL.cons rfl (T1.call0 has_6 rfl (fun w hs => Parse_any ((textG q).set m y) w (by rw [List.length_set]; omega)) (fun v_ hv => ?_))
              rw [hpk] at hv
              obtain rfl : v_ = .tuple #[.agg (ks.map u32V).toArray, .int .i64 0] := hv
              refine TL.cons rfl (V1.t (V1.move' (by (conv => lhs; whnf) <;> rfl)) ?_)
              refine TL.cons rfl (V1.t (V1.extract rfl (by rfl)) ?_)
              refine TL.cons rfl (V1.t (V1.extract rfl (by rfl)) ?_)
              refine TL.cons rfl (T1.allocN 6 zr_24 rfl (fun b12 => ?_))
              refine TL.cons rfl (T1.storeN (vs := ks.map u32V) rfl rfl sz_24 (ones_u32 _) (by repeat (first | exact Sub.one | apply Sub.there | apply Sub.far)) (by rw [List.length_map]; exact hks) (by rw [List.length_map]; exact hks) ?_)
              refine TL.cons rfl (V1.t (V1.assign' (by (conv => lhs; whnf) <;> rfl)) ?_)
              refine TL.nil ?_
              refine T.seq ?_
              refine T.live (l := [(3, _), (8, _), (11, _), (12, _), (13, _)]) (.cons (by (conv => lhs; whnf) <;> rfl) (.cons (by (conv => lhs; whnf) <;> rfl) (.cons (by (conv => lhs; whnf) <;> rfl) (.cons (by (conv => lhs; whnf) <;> rfl) (.cons (by (conv => lhs; whnf) <;> rfl) .nil))))) (fun e_ => ?_)
              refine T.region ?_
              refine TL.cons rfl (V1.t (V1.move' (by (conv => lhs; whnf) <;> rfl)) ?_)
              refine TL.cons rfl (V1.t (V1.eqI rfl rfl (decide_eq_true (by omega))) ?_)
              refine TL.cons rfl (V1.t (V1.move' (by (conv => lhs; whnf) <;> rfl)) ?_)
              refine TL.cons rfl (V1.t (V1.loadN (vs := ks.map u32V) one_24 sz_24 rfl (RdN.whole (by repeat (first | exact Find.here | assumption | apply Find.there | apply Find.far))) (by rw [List.length_map]; exact hks)) ?_)
              refine TL.cons rfl (V1.t (V1.loadN (vs := q.map u32V) one_24 sz_24 rfl (RdN.whole (by repeat (first | exact Find.here | assumption | apply Find.there | apply Find.far))) (by rw [List.length_map]; exact hql)) ?_)
              refine TL.cons rfl (V1.t (V1.neU32q (l := ks) (m := q) (r := true) ty_24 ty_22 sz_22 eg_24 rfl rfl hks hql (decide_eq_true hne)) ?_)
              refine TL.cons rfl (V1.t (V1.pick rfl (by (conv => lhs; whnf) <;> rfl)) ?_)
              refine TL.cons rfl (V1.t (V1.move' (by (conv => lhs; whnf) <;> rfl)) ?_)
              refine TL.cons rfl (V1.t (V1.move' (by (conv => lhs; whnf) <;> rfl)) ?_)
              refine TL.cons rfl (V1.t (V1.move' (by (conv => lhs; whnf) <;> rfl)) ?_)
              refine TL.cons rfl (T1.call0 has_10 rfl (fun w hs => Same_any (textG q) ((textG q).set m y) w (by omega) (by rw [List.length_set]; omega)) (fun v_ hv => ?_))
              obtain rfl := hv
              rw [decide_eq_false hflt]
              refine TL.cons rfl (V1.t (V1.not rfl rfl) ?_)
              refine TL.cons rfl (V1.t (V1.pick rfl (by (conv => lhs; whnf) <;> rfl)) ?_)
              refine TL.cons rfl (V1.t (V1.assign' (by (conv => lhs; whnf) <;> rfl)) ?_)
              refine TL.nil ?_
              refine T.ret ?_
              exact ⟨_, [], _, .cons (.tmp (by (conv => lhs; whnf) <;> rfl)) .nil, Take.nil, rfl⟩

end Go.Proofs.YtdgbckfnamiebaaDoor.S
