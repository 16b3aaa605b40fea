/- Rows of numbers put in order: the whole sort joined. -/
import Derived.Test.YtijijaobialncaaQ3
namespace Go.Proofs.Ytijijaobialncaa.S
open Go.RowKit

set_option maxRecDepth 100000 in
set_option maxHeartbeats 8000000 in
theorem pdqStep (w0 : World) (b off size cap n : Nat) (xs0 : List Nat) (hxl : xs0.length = n) (hn : n ≤ 150) (a e lim N : Nat) (hN : e - a ≤ N) (hae : a ≤ e) (hen : e ≤ n) (hlim : lim ≤ 1000) (hlb : Lb a e xs0) (hnd : xs0.Nodup) (ih : ∀ (a e lim : Nat) (xs0 : List Nat), xs0.length = n → e - a < N → lim ≤ 1000 → a ≤ e → e ≤ n → Lb a e xs0 → xs0.Nodup → FnG P 58 [.slice (some ⟨b, off, none⟩) n cap, .int .i64 ((a : Nat) : Int), .int .i64 ((e : Nat) : Int), .int .i64 ((lim : Nat) : Int)] w0 [] [(⟨b, off, (xs0).map u32V, size⟩ : Blk)] (fun v Y => ∃ ys, Y = [(⟨b, off, (ys).map u32V, size⟩ : Blk)] ∧ Sw a e xs0 ys ∧ Asc a e ys)) : FnG P 58 [.slice (some ⟨b, off, none⟩) n cap, .int .i64 ((a : Nat) : Int), .int .i64 ((e : Nat) : Int), .int .i64 ((lim : Nat) : Int)] w0 [] [(⟨b, off, (xs0).map u32V, size⟩ : Blk)] (fun v Y => ∃ ys, Y = [(⟨b, off, (ys).map u32V, size⟩ : Blk)] ∧ Sw a e xs0 ys ∧ Asc a e ys) := by
  refine FnG.of 134 [] Go.Proofs.Try.func58 rfl rfl rfl rfl (fun G hG => ?_)
  simp only [List.cons_append, List.nil_append]
  refine T.seq ?_
  refine T.region ?_
  refine TL.cons rfl (V1.t (V1.assign' z_B) ?_)
  refine TL.nil ?_
  refine T.seq ?_
  refine T.region ?_
  refine TL.cons rfl (V1.t (V1.assign' z_B) ?_)
  refine TL.nil ?_
  refine T.block ?_
  refine T.loopL (σ := Nat × Nat × Nat × Bool × Bool × List Nat) (l0 := [(0, _)]) (fun x => [(1, .int .i64 ((x.1 : Nat) : Int)), (2, .int .i64 ((x.2.1 : Nat) : Int)), (3, .int .i64 ((x.2.2.1 : Nat) : Int)), (8, .bool x.2.2.2.1), (9, .bool x.2.2.2.2.1)]) (fun x L => L = (⟨b, off, (x.2.2.2.2.2).map u32V, size⟩ : Blk) :: G ∧ (a ≤ x.1 ∧ x.1 ≤ x.2.1 ∧ x.2.1 ≤ e) ∧ x.2.2.1 ≤ lim ∧ Sw a e xs0 x.2.2.2.2.2 ∧ But a e x.1 x.2.1 x.2.2.2.2.2 ∧ Lb x.1 x.2.1 x.2.2.2.2.2) (fun x => x.2.1 - x.1) (a, e, lim, true, true, xs0) (.cons rfl (.cons rfl (.cons rfl (.cons rfl (.cons rfl .nil))))) (.cons z_B .nil) z_A (⟨rfl, ⟨Nat.le_refl _, hae, Nat.le_refl _⟩, Nat.le_refl _, Sw.refl, But.start, hlb⟩) ?_
  rintro ⟨c, d, l1, wb, wp, xs⟩ e_ L ⟨rfl, ⟨hac, hcd, hde⟩, hl1, hsw, hbut, hlb1⟩
  dsimp only at hac hcd hde hl1 hsw hbut hlb1
  dsimp only
  have hxn := hsw.len
  obtain ⟨m, hm⟩ : ∃ m, c + m = d := ⟨d - c, by omega⟩
  refine T.block ?_
  refine T.seq ?_
  refine T.region ?_
  refine TL.cons rfl (V1.t (V1.move' z_B) ?_)
  refine TL.cons rfl (V1.t (V1.move' z_B) ?_)
  refine TL.cons rfl (V1.t (V1.sub (c := ((m : Nat) : Int)) rfl rfl (by rw [wrap_i64 _ (by omega) (by omega)]; omega)) ?_)
  refine TL.cons rfl (V1.t (V1.assign' z_B) ?_)
  refine TL.nil ?_
  refine T.seq ?_
  refine T.seq ?_
  refine T.region ?_
  refine TL.cons rfl (V1.t (V1.move' z_B) ?_)
  refine TL.cons rfl (T1.leI_split rfl rfl (fun h3 => ?_) (fun h3 => ?_))
  ·
    refine TL.nil ?_
    refine T.cond_t rfl ?_
    refine T.seq ?_
    refine T.region ?_
    refine TL.cons rfl (V1.t (V1.move' z_B) ?_)
    refine TL.cons rfl (V1.t (V1.move' z_B) ?_)
    refine TL.cons rfl (V1.t (V1.move' z_B) ?_)
    refine TL.cons rfl (T1.callM (X := [(⟨b, off, (xs).map u32V, size⟩ : Blk)]) has_60 rfl rfl (insG w0 b off size cap n xs (by omega) (by omega) c d (by omega) (by omega)) z_A z_E (fun v_ Y_ hv => ?_))
    obtain ⟨ys, rfl, hs2, has2⟩ := hv
    simp only [List.cons_append, List.nil_append]
    have hfin : Sw a e xs0 ys ∧ Asc a e ys := ⟨hsw.trans (hs2.wide (by omega) (by omega)), (hbut.sw hs2 (by omega) (by omega)).done has2⟩
    refine TL.nil ?_
    refine T.ret ?_
    exact ⟨_, _ :: G, _, .nil, z_A, [_], rfl, _, rfl, hfin⟩
  ·
    refine TL.nil ?_
    refine T.cond_f rfl ?_
    refine T.skip ?_
    refine T.seq ?_
    refine T.seq ?_
    refine T.region ?_
    refine TL.cons rfl (V1.t (V1.move' z_B) ?_)
    refine TL.cons rfl (T1.eqI_split rfl rfl (fun h5 => ?_) (fun h5 => ?_))
    ·
      refine TL.nil ?_
      refine T.cond_t rfl ?_
      refine T.seq ?_
      refine T.region ?_
      refine TL.cons rfl (V1.t (V1.move' z_B) ?_)
      refine TL.cons rfl (V1.t (V1.move' z_B) ?_)
      refine TL.cons rfl (V1.t (V1.move' z_B) ?_)
      refine TL.cons rfl (T1.callM (X := [(⟨b, off, (xs).map u32V, size⟩ : Blk)]) has_61 rfl rfl (heapG w0 b off size cap n xs (by omega) (by omega) c d m ((m - 1) / 2) hm (by omega) rfl (by omega)) z_A z_E (fun v_ Y_ hv => ?_))
      obtain ⟨ys, rfl, hs2, has2⟩ := hv
      simp only [List.cons_append, List.nil_append]
      have hfin : Sw a e xs0 ys ∧ Asc a e ys := ⟨hsw.trans (hs2.wide (by omega) (by omega)), (hbut.sw hs2 (by omega) (by omega)).done has2⟩
      refine TL.nil ?_
      refine T.ret ?_
      exact ⟨_, _ :: G, _, .nil, z_A, [_], rfl, _, rfl, hfin⟩
    ·
      refine TL.nil ?_
      refine T.cond_f rfl ?_
      refine T.skip ?_
      refine T.cut (σ := Nat × List Nat) (l0 := [(0, _), (1, _), (2, _), (8, _), (9, _), (10, _)]) (fun x => [(3, .int .i64 ((x.1 : Nat) : Int))]) (fun x L => L = (⟨b, off, (x.2).map u32V, size⟩ : Blk) :: G ∧ x.1 ≤ lim ∧ Sw c d xs x.2) (.cons z_B (.cons z_B (.cons z_B (.cons z_B (.cons z_B (.cons z_B .nil)))))) ?_ ?_
      ·
        refine T.seq ?_
        rcases wb with _ | _
        ·
          refine T.region ?_
          refine TL.cons rfl (V1.t (V1.move' z_B) ?_)
          refine TL.cons rfl (V1.t (V1.not rfl rfl) ?_)
          refine TL.nil ?_
          refine T.cond_t rfl ?_
          refine T.seq ?_
          refine T.region ?_
          refine TL.cons rfl (V1.t (V1.move' z_B) ?_)
          refine TL.cons rfl (V1.t (V1.move' z_B) ?_)
          refine TL.cons rfl (V1.t (V1.move' z_B) ?_)
          refine TL.cons rfl (T1.callM (X := [(⟨b, off, (xs).map u32V, size⟩ : Blk)]) has_62 rfl rfl (brkG w0 b off size cap n xs (by omega) (by omega) c d m (m / 4) hm (by omega) (by omega) rfl (by omega)) z_A z_E (fun v_ Y_ hv => ?_))
          obtain ⟨ys, rfl, hs2⟩ := hv
          simp only [List.cons_append, List.nil_append]
          refine TL.nil ?_
          refine T.region ?_
          refine TL.cons rfl (V1.t (V1.move' z_B) ?_)
          refine TL.cons rfl (V1.t (V1.sub (c := ((l1 - 1 : Nat) : Int)) rfl rfl (by rw [wrap_i64 _ (by omega) (by omega)]; omega)) ?_)
          refine TL.cons rfl (V1.t (V1.assign' z_B) ?_)
          refine TL.nil ?_
          exact ⟨(l1 - 1, ys), _, _, trivial, (.cons rfl .nil), (.cons rfl (.cons rfl (.cons rfl (.cons rfl (.cons rfl (.cons rfl .nil)))))), z_A, ⟨rfl, by simp only; omega, hs2⟩⟩
        ·
          refine T.region ?_
          refine TL.cons rfl (V1.t (V1.move' z_B) ?_)
          refine TL.cons rfl (V1.t (V1.not rfl rfl) ?_)
          refine TL.nil ?_
          refine T.cond_f rfl ?_
          refine T.skip ?_
          exact ⟨(l1, xs), _, _, trivial, (.cons rfl .nil), (.cons rfl (.cons rfl (.cons rfl (.cons rfl (.cons rfl (.cons rfl .nil)))))), z_A, ⟨rfl, hl1, Sw.refl⟩⟩
      ·
        rintro ⟨l2, zs⟩ e_ L ⟨rfl, hl2, hswZ⟩
        dsimp only at hl2 hswZ
        dsimp only
        have hzn := hswZ.len
        refine T.seq ?_
        refine T.region ?_
        refine TL.cons rfl (V1.t (V1.move' z_B) ?_)
        refine TL.cons rfl (V1.t (V1.move' z_B) ?_)
        refine TL.cons rfl (V1.t (V1.move' z_B) ?_)
        refine TL.cons rfl (T1.callC (Ps := [(⟨b, off, (zs).map u32V, size⟩ : Blk)]) has_63 rfl rfl (pivG w0 b off size cap n zs (by omega) (by omega) c d m (m / 4) hm (by omega) rfl (by omega)) z_E (fun v_ Y_ hv => ?_))
        obtain ⟨rfl, u, h, rfl, hu1, hu2⟩ := hv
        simp only [List.nil_append]
        refine TL.cons rfl (V1.t (V1.move' z_B) ?_)
        refine TL.cons rfl (V1.t (V1.extract rfl (by rfl)) ?_)
        refine TL.cons rfl (V1.t (V1.extract rfl (by rfl)) ?_)
        refine TL.cons rfl (V1.t (V1.assign' z_B) ?_)
        refine TL.cons rfl (V1.t (V1.assign' z_B) ?_)
        refine TL.nil ?_
        refine T.cut (σ := Nat × Int × List Nat) (l0 := [(0, _), (1, _), (2, _), (3, _), (8, _), (9, _), (10, _)]) (fun x => [(11, .int .i64 ((x.1 : Nat) : Int)), (12, .int .i64 x.2.1)]) (fun x L => L = (⟨b, off, (x.2.2).map u32V, size⟩ : Blk) :: G ∧ (c ≤ x.1 ∧ x.1 < d) ∧ Sw c d xs x.2.2) (.cons z_B (.cons z_B (.cons z_B (.cons z_B (.cons z_B (.cons z_B (.cons z_B .nil))))))) ?_ ?_
        ·
          refine T.seq ?_
          refine T.live (l := [(0, _), (1, _), (2, _), (3, _), (8, _), (9, _), (10, _), (11, _), (12, _)]) (.cons z_B (.cons z_B (.cons z_B (.cons z_B (.cons z_B (.cons z_B (.cons z_B (.cons z_B (.cons z_B .nil))))))))) (fun e_ => ?_)
          refine T.region ?_
          refine TL.cons rfl (V1.t (V1.move' z_B) ?_)
          refine TL.cons rfl (T1.eqI_split rfl rfl (fun h11 => ?_) (fun h11 => ?_))
          ·
            refine TL.nil ?_
            refine T.cond_t rfl ?_
            refine T.seq ?_
            refine T.region ?_
            refine TL.cons rfl (V1.t (V1.move' z_B) ?_)
            refine TL.cons rfl (V1.t (V1.move' z_B) ?_)
            refine TL.cons rfl (V1.t (V1.move' z_B) ?_)
            refine TL.cons rfl (T1.callM (X := [(⟨b, off, (zs).map u32V, size⟩ : Blk)]) has_64 rfl rfl (revG w0 b off size cap n zs (by omega) (by omega) c d (by omega) (by omega)) z_A z_E (fun v_ Y_ hv => ?_))
            obtain ⟨ys, rfl, hs2⟩ := hv
            simp only [List.cons_append, List.nil_append]
            refine TL.nil ?_
            refine T.seq ?_
            refine T.region ?_
            refine TL.cons rfl (V1.t (V1.move' z_B) ?_)
            refine TL.cons rfl (V1.t (V1.sub (c := ((d - 1 : Nat) : Int)) rfl rfl (by rw [wrap_i64 _ (by omega) (by omega)]; omega)) ?_)
            refine TL.cons rfl (V1.t (V1.move' z_B) ?_)
            refine TL.cons rfl (V1.t (V1.move' z_B) ?_)
            refine TL.cons rfl (V1.t (V1.sub (c := ((u - c : Nat) : Int)) rfl rfl (by rw [wrap_i64 _ (by omega) (by omega)]; omega)) ?_)
            refine TL.cons rfl (V1.t (V1.sub (c := ((d - 1 - (u - c) : Nat) : Int)) rfl rfl (by rw [wrap_i64 _ (by omega) (by omega)]; omega)) ?_)
            refine TL.cons rfl (V1.t (V1.assign' z_B) ?_)
            refine TL.nil ?_
            refine T.region ?_
            refine TL.cons rfl (V1.t (V1.assign' z_B) ?_)
            refine TL.nil ?_
            exact ⟨(d - 1 - (u - c), 1, ys), _, _, trivial, (.cons rfl (.cons rfl .nil)), (.cons rfl (.cons rfl (.cons rfl (.cons rfl (.cons rfl (.cons rfl (.cons rfl .nil))))))), z_A, ⟨rfl, ⟨by simp only; omega, by simp only; omega⟩, hswZ.trans hs2⟩⟩
          ·
            refine TL.nil ?_
            refine T.cond_f rfl ?_
            refine T.skip ?_
            exact ⟨(u, h, zs), _, _, trivial, (.cons rfl (.cons rfl .nil)), (.cons rfl (.cons rfl (.cons rfl (.cons rfl (.cons rfl (.cons rfl (.cons rfl .nil))))))), z_A, ⟨rfl, ⟨hu1, hu2⟩, hswZ⟩⟩
        ·
          rintro ⟨pv, h, ts⟩ e_ L ⟨rfl, ⟨hv1, hv2⟩, hswT⟩
          dsimp only at hv1 hv2 hswT
          dsimp only
          have htn := hswT.len
          have hlbT := hlb1.sw hswT
          refine T.cut (σ := List Nat) (l0 := [(0, _), (1, _), (2, _), (3, _), (8, _), (9, _), (10, _), (11, _)]) (fun x => []) (fun x L => L = (⟨b, off, (x).map u32V, size⟩ : Blk) :: G ∧ Sw c d xs x) (.cons z_B (.cons z_B (.cons z_B (.cons z_B (.cons z_B (.cons z_B (.cons z_B (.cons z_B .nil)))))))) ?_ ?_
          ·
            refine T.seq ?_
            rcases wb with _ | _
            rotate_left
            rcases wp with _ | _
            rotate_left
            rcases Classical.em (h = 1) with h1_ | h1_
            ·
              refine T.live (l := [(0, _), (1, _), (2, _), (3, _), (8, _), (9, _), (10, _), (11, _), (12, _)]) (.cons z_B (.cons z_B (.cons z_B (.cons z_B (.cons z_B (.cons z_B (.cons z_B (.cons z_B (.cons z_B .nil))))))))) (fun e_ => ?_)
              refine T.region ?_
              refine TL.cons rfl (V1.t (V1.move' z_B) ?_)
              refine TL.cons rfl (V1.t (V1.move' z_B) ?_)
              refine TL.cons rfl (V1.t (V1.move' z_B) ?_)
              refine TL.cons rfl (V1.t (V1.pick rfl z_B) ?_)
              refine TL.cons rfl (V1.t (V1.move' z_B) ?_)
              refine TL.cons rfl (V1.t (V1.move' z_B) ?_)
              refine TL.cons rfl (V1.t (V1.eqI (r := true) rfl rfl (decide_eq_true h1_)) ?_)
              refine TL.cons rfl (V1.t (V1.pick rfl z_B) ?_)
              refine TL.nil ?_
              refine T.cond_t rfl ?_
              refine T.seq ?_
              refine T.region ?_
              refine TL.cons rfl (V1.t (V1.move' z_B) ?_)
              refine TL.cons rfl (V1.t (V1.move' z_B) ?_)
              refine TL.cons rfl (V1.t (V1.move' z_B) ?_)
              refine TL.cons rfl (T1.callM (X := [(⟨b, off, (ts).map u32V, size⟩ : Blk)]) has_65 rfl rfl (pisG w0 b off size cap n ts (by omega) (by omega) c d (by omega) (by omega) hlbT) z_A z_E (fun v_ Y_ hv => ?_))
              obtain ⟨ys, q0, rfl, rfl, hs2, has2⟩ := hv
              simp only [List.cons_append, List.nil_append]
              refine TL.nil ?_
              refine T.cond_split rfl (fun hc => ?_) (fun hc => ?_)
              ·
                refine T.ret ?_
                have hfin : Sw a e xs0 ys ∧ Asc a e ys := ⟨hsw.trans ((hswT.trans hs2).wide (by omega) (by omega)), (hbut.sw (hswT.trans hs2) (by omega) (by omega)).done (has2 hc)⟩
                exact ⟨_, _ :: G, _, .nil, z_A, [_], rfl, _, rfl, hfin⟩
              ·
                refine T.skip ?_
                exact ⟨ys, _, _, trivial, .nil, (.cons rfl (.cons rfl (.cons rfl (.cons rfl (.cons rfl (.cons rfl (.cons rfl (.cons rfl .nil)))))))), z_A, ⟨rfl, hswT.trans hs2⟩⟩
            ·
              refine T.live (l := [(0, _), (1, _), (2, _), (3, _), (8, _), (9, _), (10, _), (11, _), (12, _)]) (.cons z_B (.cons z_B (.cons z_B (.cons z_B (.cons z_B (.cons z_B (.cons z_B (.cons z_B (.cons z_B .nil))))))))) (fun e_ => ?_)
              refine T.region ?_
              refine TL.cons rfl (V1.t (V1.move' z_B) ?_)
              refine TL.cons rfl (V1.t (V1.move' z_B) ?_)
              refine TL.cons rfl (V1.t (V1.move' z_B) ?_)
              refine TL.cons rfl (V1.t (V1.pick rfl z_B) ?_)
              refine TL.cons rfl (V1.t (V1.move' z_B) ?_)
              refine TL.cons rfl (V1.t (V1.move' z_B) ?_)
              refine TL.cons rfl (V1.t (V1.eqI (r := false) rfl rfl (decide_eq_false h1_)) ?_)
              refine TL.cons rfl (V1.t (V1.pick rfl z_B) ?_)
              refine TL.nil ?_
              refine T.cond_f rfl ?_
              refine T.skip ?_
              exact ⟨ts, _, _, trivial, .nil, (.cons rfl (.cons rfl (.cons rfl (.cons rfl (.cons rfl (.cons rfl (.cons rfl (.cons rfl .nil)))))))), z_A, ⟨rfl, hswT⟩⟩
            ·
              refine T.live (l := [(0, _), (1, _), (2, _), (3, _), (8, _), (9, _), (10, _), (11, _), (12, _)]) (.cons z_B (.cons z_B (.cons z_B (.cons z_B (.cons z_B (.cons z_B (.cons z_B (.cons z_B (.cons z_B .nil))))))))) (fun e_ => ?_)
              refine T.region ?_
              refine TL.cons rfl (V1.t (V1.move' z_B) ?_)
              refine TL.cons rfl (V1.t (V1.move' z_B) ?_)
              refine TL.no rfl ?_
              refine TL.cons rfl (V1.t (V1.pick rfl z_B) ?_)
              refine TL.cons rfl (V1.t (V1.move' z_B) ?_)
              refine TL.no rfl ?_
              refine TL.no rfl ?_
              refine TL.cons rfl (V1.t (V1.pick rfl z_B) ?_)
              refine TL.nil ?_
              refine T.cond_f rfl ?_
              refine T.skip ?_
              exact ⟨ts, _, _, trivial, .nil, (.cons rfl (.cons rfl (.cons rfl (.cons rfl (.cons rfl (.cons rfl (.cons rfl (.cons rfl .nil)))))))), z_A, ⟨rfl, hswT⟩⟩
            ·
              refine T.live (l := [(0, _), (1, _), (2, _), (3, _), (8, _), (9, _), (10, _), (11, _), (12, _)]) (.cons z_B (.cons z_B (.cons z_B (.cons z_B (.cons z_B (.cons z_B (.cons z_B (.cons z_B (.cons z_B .nil))))))))) (fun e_ => ?_)
              refine T.region ?_
              refine TL.cons rfl (V1.t (V1.move' z_B) ?_)
              refine TL.cons rfl (V1.t (V1.move' z_B) ?_)
              refine TL.cons rfl (V1.t (V1.move' z_B) ?_)
              refine TL.cons rfl (V1.t (V1.pick rfl z_B) ?_)
              refine TL.cons rfl (V1.t (V1.move' z_B) ?_)
              refine TL.no rfl ?_
              refine TL.no rfl ?_
              refine TL.cons rfl (V1.t (V1.pick rfl z_B) ?_)
              refine TL.nil ?_
              refine T.cond_f rfl ?_
              refine T.skip ?_
              exact ⟨ts, _, _, trivial, .nil, (.cons rfl (.cons rfl (.cons rfl (.cons rfl (.cons rfl (.cons rfl (.cons rfl (.cons rfl .nil)))))))), z_A, ⟨rfl, hswT⟩⟩
          ·
            rintro us e_ L ⟨rfl, hswU⟩
            have hun := hswU.len
            have hlbU := hlb1.sw hswU
            have hbutU0 := hbut.sw hswU hac hde
            refine T.seq ?_
            refine T.seq ?_
            rcases Nat.eq_zero_or_pos c with hc0 | hc0
            ·
              refine T.live (l := [(0, _), (1, _), (2, _), (3, _), (8, _), (9, _), (10, _), (11, _)]) (.cons z_B (.cons z_B (.cons z_B (.cons z_B (.cons z_B (.cons z_B (.cons z_B (.cons z_B .nil)))))))) (fun e_ => ?_)
              refine T.drawDet' mixed z_F ?_
              refine Det.cons 0 (ins := [(1, _)]) (.old z_B z_F .nil) (fun e_ => .inl ⟨rfl, V1.t (V1.move' z_B) ⟨rfl, rfl⟩⟩) ?_
              refine Det.cons 1 (ins := [(73, _)]) (.new 0 0 z_F rfl rfl .nil) (fun e_ => .inl ⟨rfl, V1.t (V1.gtI (r := false) rfl rfl (decide_eq_false (by omega))) ⟨rfl, rfl⟩⟩) ?_
              refine Det.cons 2 (ins := [(74, _)]) (.new 1 0 z_F rfl rfl .nil) (fun e_ => .inl ⟨rfl, V1.t (V1.move' z_B) ⟨rfl, rfl⟩⟩) ?_
              refine Det.cons 3 (ins := [(75, _)]) (.new 2 0 z_F rfl rfl .nil) (fun e_ => .inr ⟨rfl, rfl⟩) ?_
              refine Det.cons 4 (ins := [(75, _)]) (.new 2 1 z_F rfl rfl .nil) (fun e_ => .inr ⟨rfl, rfl⟩) ?_
              refine Det.cons 5 (ins := [(75, _)]) (.new 2 2 z_F rfl rfl .nil) (fun e_ => .inr ⟨rfl, rfl⟩) ?_
              refine Det.cons 6 (ins := [(75, _)]) (.new 2 3 z_F rfl rfl .nil) (fun e_ => .inr ⟨rfl, rfl⟩) ?_
              refine Det.cons 7 (ins := [(75, _)]) (.new 2 4 z_F rfl rfl .nil) (fun e_ => .inr ⟨rfl, rfl⟩) ?_
              refine Det.cons 8 (ins := [(75, _)]) (.new 2 5 z_F rfl rfl .nil) (fun e_ => .inr ⟨rfl, rfl⟩) ?_
              refine Det.cons 9 (ins := [(75, _)]) (.new 2 6 z_F rfl rfl .nil) (fun e_ => .inr ⟨rfl, rfl⟩) ?_
              refine Det.cons 10 (ins := [(75, _)]) (.new 2 7 z_F rfl rfl .nil) (fun e_ => .inr ⟨rfl, rfl⟩) ?_
              refine Det.cons 11 (ins := [(75, _)]) (.new 2 8 z_F rfl rfl .nil) (fun e_ => .inr ⟨rfl, rfl⟩) ?_
              refine Det.cons 12 (ins := [(75, _)]) (.new 2 9 z_F rfl rfl .nil) (fun e_ => .inr ⟨rfl, rfl⟩) ?_
              refine Det.cons 13 (ins := [(75, _)]) (.new 2 10 z_F rfl rfl .nil) (fun e_ => .inr ⟨rfl, rfl⟩) ?_
              refine Det.cons 14 (ins := [(75, _), (86, _)]) (.new 2 11 z_F rfl rfl (.new 13 0 z_F rfl rfl .nil)) (fun e_ => .inl ⟨rfl, V1.t (V1.pick rfl z_B) ⟨rfl, rfl⟩⟩) ?_
              refine Det.nil 15 (l := [(0, _), (1, _), (2, _), (3, _), (8, _), (9, _), (10, _), (11, _), (87, _)]) (.old z_B z_F (.old z_B z_F (.old z_B z_F (.old z_B z_F (.old z_B z_F (.old z_B z_F (.old z_B z_F (.old z_B z_F (.new 14 0 z_F rfl rfl .nil))))))))) (fun e_ => ?_)
              refine T.cond_f rfl ?_
              refine T.skip ?_
              refine T.seq ?_
              refine T.region ?_
              refine TL.cons rfl (V1.t (V1.move' z_B) ?_)
              refine TL.cons rfl (V1.t (V1.move' z_B) ?_)
              refine TL.cons rfl (V1.t (V1.move' z_B) ?_)
              refine TL.cons rfl (V1.t (V1.move' z_B) ?_)
              refine TL.cons rfl (T1.callM (X := [(⟨b, off, (us).map u32V, size⟩ : Blk)]) has_68 rfl rfl (partG w0 b off size cap n us (by omega) (by omega) c d pv (by omega) (by omega) (by omega)) z_A z_E (fun v_ Y_ hv => ?_))
              obtain ⟨ws, mid, q1, rfl, rfl, hs3, hpW⟩ := hv
              simp only [List.cons_append, List.nil_append]
              have hswW : Sw c d xs ws := hswU.trans hs3
              have hwn := hswW.len
              have hmlo := hpW.lo
              have hmhi := hpW.hi
              have hlbU := hlb1.sw hswW
              have hbutU := hbut.sw hswW hac hde
              have hswA : Sw a e xs0 ws := hsw.trans (hswW.wide hac hde)
              have hndW : ws.Nodup := hswA.perm.nodup_iff.2 hnd
              refine TL.cons rfl (V1.t (V1.move' z_B) ?_)
              refine TL.cons rfl (V1.t (V1.extract rfl (by rfl)) ?_)
              refine TL.cons rfl (V1.t (V1.extract rfl (by rfl)) ?_)
              refine TL.cons rfl (V1.t (V1.assign' z_B) ?_)
              refine TL.cons rfl (V1.t (V1.assign' z_B) ?_)
              refine TL.nil ?_
              refine T.seq ?_
              refine T.region ?_
              refine TL.cons rfl (V1.t (V1.move' z_B) ?_)
              refine TL.cons rfl (V1.t (V1.assign' z_B) ?_)
              refine TL.nil ?_
              refine T.seq ?_
              refine T.region ?_
              refine TL.cons rfl (V1.t (V1.move' z_B) ?_)
              refine TL.cons rfl (V1.t (V1.move' z_B) ?_)
              refine TL.cons rfl (V1.t (V1.sub (c := ((mid - c : Nat) : Int)) rfl rfl (by rw [wrap_i64 _ (by omega) (by omega)]; omega)) ?_)
              refine TL.cons rfl (V1.t (V1.move' z_B) ?_)
              refine TL.cons rfl (V1.t (V1.move' z_B) ?_)
              refine TL.cons rfl (V1.t (V1.sub (c := ((d - mid : Nat) : Int)) rfl rfl (by rw [wrap_i64 _ (by omega) (by omega)]; omega)) ?_)
              refine TL.cons rfl (V1.t (V1.assign' z_B) ?_)
              refine TL.cons rfl (V1.t (V1.assign' z_B) ?_)
              refine TL.nil ?_
              refine T.seq ?_
              refine T.live (l := [(0, _), (1, _), (2, _), (3, _), (9, _), (10, _), (14, _), (16, _), (17, _)]) (.cons z_B (.cons z_B (.cons z_B (.cons z_B (.cons z_B (.cons z_B (.cons z_B (.cons z_B (.cons z_B .nil))))))))) (fun e_ => ?_)
              refine T.region ?_
              refine TL.cons rfl (V1.t (V1.move' z_B) ?_)
              refine TL.cons rfl (V1.t (V1.quo (c := ((m / 8 : Nat) : Int)) rfl rfl (by decide) (by rw [show ((m : Nat) : Int).tdiv 8 = ((m / 8 : Nat) : Int) from rfl]; exact wrap_i64 _ (by omega) (by omega))) ?_)
              refine TL.cons rfl (V1.t (V1.assign' z_B) ?_)
              refine TL.nil ?_
              refine T.seq ?_
              refine T.region ?_
              refine TL.cons rfl (V1.t (V1.move' z_B) ?_)
              refine TL.cons rfl (V1.t (V1.move' z_B) ?_)
              refine TL.cons rfl (T1.ltI_split rfl rfl (fun h24 => ?_) (fun h24 => ?_))
              ·
                refine TL.nil ?_
                refine T.cond_t rfl ?_
                refine T.seq ?_
                refine T.region ?_
                refine TL.cons rfl (V1.t (V1.move' z_B) ?_)
                refine TL.cons rfl (V1.t (V1.move' z_B) ?_)
                refine TL.cons rfl (V1.t (V1.geI rfl rfl rfl) ?_)
                refine TL.cons rfl (V1.t (V1.assign' z_B) ?_)
                refine TL.nil ?_
                refine T.seq ?_
                refine T.region ?_
                refine TL.cons rfl (V1.t (V1.move' z_B) ?_)
                refine TL.cons rfl (V1.t (V1.move' z_B) ?_)
                refine TL.cons rfl (V1.t (V1.move' z_B) ?_)
                refine TL.cons rfl (V1.t (V1.move' z_B) ?_)
                refine TL.cons rfl (T1.callM (X := [(⟨b, off, (ws).map u32V, size⟩ : Blk)]) has_58 rfl rfl (ih c mid l2 ws (by omega) (by omega) (by omega) (by omega) (by omega) (hlbU.sub (by omega)) hndW) z_A z_E (fun v_ Y_ hv => ?_))
                obtain ⟨vs, rfl, hswR, hasR⟩ := hv
                simp only [List.cons_append, List.nil_append]
                have hpV : Parted c d mid vs := hpW.sw hswR (.inl ⟨Nat.le_refl _, Nat.le_refl _⟩)
                have hswV : Sw a e xs0 vs := hswA.trans (hswR.wide (by omega) (by omega))
                have hvn := hswV.len
                refine TL.nil ?_
                refine T.live (l := [(0, _), (2, _), (3, _), (8, _), (9, _), (14, _)]) (.cons z_B (.cons z_B (.cons z_B (.cons z_B (.cons z_B (.cons z_B .nil)))))) (fun e_ => ?_)
                refine T.region ?_
                refine TL.cons rfl (V1.t (V1.move' z_B) ?_)
                refine TL.cons rfl (V1.t (V1.add (c := ((mid + 1 : Nat) : Int)) rfl rfl (by rw [wrap_i64 _ (by omega) (by omega)]; omega)) ?_)
                refine TL.cons rfl (V1.t (V1.assign' z_B) ?_)
                refine TL.nil ?_
                exact ⟨(mid + 1, d, l2, _, _, vs), (⟨b, off, (vs).map u32V, size⟩ : Blk) :: G, _, (by simp only; omega), (.cons rfl (.cons rfl (.cons rfl (.cons rfl (.cons rfl .nil))))), (.cons rfl .nil), z_A, ⟨rfl, ⟨by simp only; omega, by simp only; omega, by simp only; omega⟩, by simp only; omega, hswV, (hbutU.sw (hswR.wide (Nat.le_refl _) (by omega)) (by omega) (by omega)).left hpV hasR, hpV.lb (hswV.perm.nodup_iff.2 hnd) (by omega)⟩⟩
              ·
                refine TL.nil ?_
                refine T.cond_f rfl ?_
                refine T.seq ?_
                refine T.region ?_
                refine TL.cons rfl (V1.t (V1.move' z_B) ?_)
                refine TL.cons rfl (V1.t (V1.move' z_B) ?_)
                refine TL.cons rfl (V1.t (V1.geI rfl rfl rfl) ?_)
                refine TL.cons rfl (V1.t (V1.assign' z_B) ?_)
                refine TL.nil ?_
                refine T.seq ?_
                refine T.region ?_
                refine TL.cons rfl (V1.t (V1.move' z_B) ?_)
                refine TL.cons rfl (V1.t (V1.move' z_B) ?_)
                refine TL.cons rfl (V1.t (V1.add (c := ((mid + 1 : Nat) : Int)) rfl rfl (by rw [wrap_i64 _ (by omega) (by omega)]; omega)) ?_)
                refine TL.cons rfl (V1.t (V1.move' z_B) ?_)
                refine TL.cons rfl (V1.t (V1.move' z_B) ?_)
                refine TL.cons rfl (T1.callM (X := [(⟨b, off, (ws).map u32V, size⟩ : Blk)]) has_58 rfl rfl (ih (mid + 1) d l2 ws (by omega) (by omega) (by omega) (by omega) (by omega) (hpW.lb hndW (by omega)) hndW) z_A z_E (fun v_ Y_ hv => ?_))
                obtain ⟨vs, rfl, hswR, hasR⟩ := hv
                simp only [List.cons_append, List.nil_append]
                have hpV : Parted c d mid vs := hpW.sw hswR (.inr ⟨Nat.lt_succ_self _, Nat.le_refl _⟩)
                have hswV : Sw a e xs0 vs := hswA.trans (hswR.wide (by omega) (by omega))
                have hvn := hswV.len
                refine TL.nil ?_
                refine T.live (l := [(0, _), (1, _), (3, _), (8, _), (9, _), (14, _)]) (.cons z_B (.cons z_B (.cons z_B (.cons z_B (.cons z_B (.cons z_B .nil)))))) (fun e_ => ?_)
                refine T.region ?_
                refine TL.cons rfl (V1.t (V1.move' z_B) ?_)
                refine TL.cons rfl (V1.t (V1.assign' z_B) ?_)
                refine TL.nil ?_
                exact ⟨(c, mid, l2, _, _, vs), (⟨b, off, (vs).map u32V, size⟩ : Blk) :: G, _, (by simp only; omega), (.cons rfl (.cons rfl (.cons rfl (.cons rfl (.cons rfl .nil))))), (.cons rfl .nil), z_A, ⟨rfl, ⟨by simp only; omega, by simp only; omega, by simp only; omega⟩, by simp only; omega, hswV, (hbutU.sw (hswR.wide (by omega) (Nat.le_refl _)) (by omega) (by omega)).right hpV hasR, (hlbU.sw (hswR.wide (by omega) (Nat.le_refl _))).sub (by simp only; omega)⟩⟩
            ·
              have hl : g us (c - 1) < g us pv := by rcases hlbU with h_ | h_; omega; exact h_ pv (by omega) (by omega)
              refine T.live (l := [(0, _), (1, _), (2, _), (3, _), (8, _), (9, _), (10, _), (11, _)]) (.cons z_B (.cons z_B (.cons z_B (.cons z_B (.cons z_B (.cons z_B (.cons z_B (.cons z_B .nil)))))))) (fun e_ => ?_)
              refine T.drawDet' mixed z_F ?_
              refine Det.cons 0 (ins := [(1, _)]) (.old z_B z_F .nil) (fun e_ => .inl ⟨rfl, V1.t (V1.move' z_B) ⟨rfl, rfl⟩⟩) ?_
              refine Det.cons 1 (ins := [(73, _)]) (.new 0 0 z_F rfl rfl .nil) (fun e_ => .inl ⟨rfl, V1.t (V1.gtI (r := true) rfl rfl (decide_eq_true (by omega))) ⟨rfl, rfl⟩⟩) ?_
              refine Det.cons 2 (ins := [(74, _)]) (.new 1 0 z_F rfl rfl .nil) (fun e_ => .inl ⟨rfl, V1.t (V1.move' z_B) ⟨rfl, rfl⟩⟩) ?_
              refine Det.cons 3 (ins := [(0, _), (75, _)]) (.old z_B z_F (.new 2 0 z_F rfl rfl .nil)) (fun e_ => .inl ⟨rfl, V1.t (V1.move' z_B) ⟨rfl, rfl⟩⟩) ?_
              refine Det.cons 4 (ins := [(1, _), (75, _)]) (.old z_B z_F (.new 2 1 z_F rfl rfl .nil)) (fun e_ => .inl ⟨rfl, V1.t (V1.move' z_B) ⟨rfl, rfl⟩⟩) ?_
              refine Det.cons 5 (ins := [(75, _), (77, _)]) (.new 2 2 z_F rfl rfl (.new 4 0 z_F rfl rfl .nil)) (fun e_ => .inl ⟨rfl, V1.t (V1.sub (c := ((c - 1 : Nat) : Int)) rfl rfl (by rw [wrap_i64 _ (by omega) (by omega)]; omega)) ⟨rfl, rfl⟩⟩) ?_
              refine Det.cons 6 (ins := [(75, _), (76, _), (78, _)]) (.new 2 3 z_F rfl rfl (.new 3 2 z_F rfl rfl (.new 5 0 z_F rfl rfl .nil))) (fun e_ => .inl ⟨rfl, V1.t (V1.indexAddrS ty_36 sz_27 rfl rfl (by omega) (by omega)) ⟨rfl, rfl⟩⟩) ?_
              refine Det.cons 7 (ins := [(75, _), (79, _)]) (.new 2 4 z_F rfl rfl (.new 6 0 z_F rfl rfl .nil)) (fun e_ => .inl ⟨rfl, V1.t (V1.load1 (v := u32V (g us (c - 1))) one_27 rfl (ib_rd (cs := (us).map u32V) (k := c - 1) z_D (gV (by omega)))) ⟨rfl, rfl⟩⟩) ?_
              refine Det.cons 8 (ins := [(0, _), (75, _)]) (.old z_B z_F (.new 2 5 z_F rfl rfl .nil)) (fun e_ => .inl ⟨rfl, V1.t (V1.move' z_B) ⟨rfl, rfl⟩⟩) ?_
              refine Det.cons 9 (ins := [(11, _), (75, _)]) (.old z_B z_F (.new 2 6 z_F rfl rfl .nil)) (fun e_ => .inl ⟨rfl, V1.t (V1.move' z_B) ⟨rfl, rfl⟩⟩) ?_
              refine Det.cons 10 (ins := [(75, _), (81, _), (82, _)]) (.new 2 7 z_F rfl rfl (.new 8 1 z_F rfl rfl (.new 9 0 z_F rfl rfl .nil))) (fun e_ => .inl ⟨rfl, V1.t (V1.indexAddrS ty_36 sz_27 rfl rfl (by omega) (by omega)) ⟨rfl, rfl⟩⟩) ?_
              refine Det.cons 11 (ins := [(75, _), (83, _)]) (.new 2 8 z_F rfl rfl (.new 10 0 z_F rfl rfl .nil)) (fun e_ => .inl ⟨rfl, V1.t (V1.load1 (v := u32V (g us (pv))) one_27 rfl (ib_rd (cs := (us).map u32V) (k := pv) z_D (gV (by omega)))) ⟨rfl, rfl⟩⟩) ?_
              refine Det.cons 12 (ins := [(75, _), (80, _), (84, _)]) (v := .bool true) (.new 2 9 z_F rfl rfl (.new 7 4 z_F rfl rfl (.new 11 0 z_F rfl rfl .nil))) (fun e_ => .inl ⟨rfl, ?_⟩) ?_
              · refine T1.call0 has_66 rfl (fun w hs => LessI_any (g us (c - 1) : Int) (g us (pv) : Int) w) (fun v_ hv => ?_)
                obtain rfl := hv
                rw [decide_eq_true (by omega)]
                exact ⟨rfl, rfl⟩
              refine Det.cons 13 (ins := [(75, _), (85, _)]) (.new 2 10 z_F rfl rfl (.new 12 0 z_F rfl rfl .nil)) (fun e_ => .inl ⟨rfl, V1.t (V1.not rfl rfl) ⟨rfl, rfl⟩⟩) ?_
              refine Det.cons 14 (ins := [(75, _), (86, _)]) (.new 2 11 z_F rfl rfl (.new 13 0 z_F rfl rfl .nil)) (fun e_ => .inl ⟨rfl, V1.t (V1.pick rfl z_B) ⟨rfl, rfl⟩⟩) ?_
              refine Det.nil 15 (l := [(0, _), (1, _), (2, _), (3, _), (8, _), (9, _), (10, _), (11, _), (87, _)]) (.old z_B z_F (.old z_B z_F (.old z_B z_F (.old z_B z_F (.old z_B z_F (.old z_B z_F (.old z_B z_F (.old z_B z_F (.new 14 0 z_F rfl rfl .nil))))))))) (fun e_ => ?_)
              refine T.cond_f rfl ?_
              refine T.skip ?_
              refine T.seq ?_
              refine T.region ?_
              refine TL.cons rfl (V1.t (V1.move' z_B) ?_)
              refine TL.cons rfl (V1.t (V1.move' z_B) ?_)
              refine TL.cons rfl (V1.t (V1.move' z_B) ?_)
              refine TL.cons rfl (V1.t (V1.move' z_B) ?_)
              refine TL.cons rfl (T1.callM (X := [(⟨b, off, (us).map u32V, size⟩ : Blk)]) has_68 rfl rfl (partG w0 b off size cap n us (by omega) (by omega) c d pv (by omega) (by omega) (by omega)) z_A z_E (fun v_ Y_ hv => ?_))
              obtain ⟨ws, mid, q1, rfl, rfl, hs3, hpW⟩ := hv
              simp only [List.cons_append, List.nil_append]
              have hswW : Sw c d xs ws := hswU.trans hs3
              have hwn := hswW.len
              have hmlo := hpW.lo
              have hmhi := hpW.hi
              have hlbU := hlb1.sw hswW
              have hbutU := hbut.sw hswW hac hde
              have hswA : Sw a e xs0 ws := hsw.trans (hswW.wide hac hde)
              have hndW : ws.Nodup := hswA.perm.nodup_iff.2 hnd
              refine TL.cons rfl (V1.t (V1.move' z_B) ?_)
              refine TL.cons rfl (V1.t (V1.extract rfl (by rfl)) ?_)
              refine TL.cons rfl (V1.t (V1.extract rfl (by rfl)) ?_)
              refine TL.cons rfl (V1.t (V1.assign' z_B) ?_)
              refine TL.cons rfl (V1.t (V1.assign' z_B) ?_)
              refine TL.nil ?_
              refine T.seq ?_
              refine T.region ?_
              refine TL.cons rfl (V1.t (V1.move' z_B) ?_)
              refine TL.cons rfl (V1.t (V1.assign' z_B) ?_)
              refine TL.nil ?_
              refine T.seq ?_
              refine T.region ?_
              refine TL.cons rfl (V1.t (V1.move' z_B) ?_)
              refine TL.cons rfl (V1.t (V1.move' z_B) ?_)
              refine TL.cons rfl (V1.t (V1.sub (c := ((mid - c : Nat) : Int)) rfl rfl (by rw [wrap_i64 _ (by omega) (by omega)]; omega)) ?_)
              refine TL.cons rfl (V1.t (V1.move' z_B) ?_)
              refine TL.cons rfl (V1.t (V1.move' z_B) ?_)
              refine TL.cons rfl (V1.t (V1.sub (c := ((d - mid : Nat) : Int)) rfl rfl (by rw [wrap_i64 _ (by omega) (by omega)]; omega)) ?_)
              refine TL.cons rfl (V1.t (V1.assign' z_B) ?_)
              refine TL.cons rfl (V1.t (V1.assign' z_B) ?_)
              refine TL.nil ?_
              refine T.seq ?_
              refine T.live (l := [(0, _), (1, _), (2, _), (3, _), (9, _), (10, _), (14, _), (16, _), (17, _)]) (.cons z_B (.cons z_B (.cons z_B (.cons z_B (.cons z_B (.cons z_B (.cons z_B (.cons z_B (.cons z_B .nil))))))))) (fun e_ => ?_)
              refine T.region ?_
              refine TL.cons rfl (V1.t (V1.move' z_B) ?_)
              refine TL.cons rfl (V1.t (V1.quo (c := ((m / 8 : Nat) : Int)) rfl rfl (by decide) (by rw [show ((m : Nat) : Int).tdiv 8 = ((m / 8 : Nat) : Int) from rfl]; exact wrap_i64 _ (by omega) (by omega))) ?_)
              refine TL.cons rfl (V1.t (V1.assign' z_B) ?_)
              refine TL.nil ?_
              refine T.seq ?_
              refine T.region ?_
              refine TL.cons rfl (V1.t (V1.move' z_B) ?_)
              refine TL.cons rfl (V1.t (V1.move' z_B) ?_)
              refine TL.cons rfl (T1.ltI_split rfl rfl (fun h24 => ?_) (fun h24 => ?_))
              ·
                refine TL.nil ?_
                refine T.cond_t rfl ?_
                refine T.seq ?_
                refine T.region ?_
                refine TL.cons rfl (V1.t (V1.move' z_B) ?_)
                refine TL.cons rfl (V1.t (V1.move' z_B) ?_)
                refine TL.cons rfl (V1.t (V1.geI rfl rfl rfl) ?_)
                refine TL.cons rfl (V1.t (V1.assign' z_B) ?_)
                refine TL.nil ?_
                refine T.seq ?_
                refine T.region ?_
                refine TL.cons rfl (V1.t (V1.move' z_B) ?_)
                refine TL.cons rfl (V1.t (V1.move' z_B) ?_)
                refine TL.cons rfl (V1.t (V1.move' z_B) ?_)
                refine TL.cons rfl (V1.t (V1.move' z_B) ?_)
                refine TL.cons rfl (T1.callM (X := [(⟨b, off, (ws).map u32V, size⟩ : Blk)]) has_58 rfl rfl (ih c mid l2 ws (by omega) (by omega) (by omega) (by omega) (by omega) (hlbU.sub (by omega)) hndW) z_A z_E (fun v_ Y_ hv => ?_))
                obtain ⟨vs, rfl, hswR, hasR⟩ := hv
                simp only [List.cons_append, List.nil_append]
                have hpV : Parted c d mid vs := hpW.sw hswR (.inl ⟨Nat.le_refl _, Nat.le_refl _⟩)
                have hswV : Sw a e xs0 vs := hswA.trans (hswR.wide (by omega) (by omega))
                have hvn := hswV.len
                refine TL.nil ?_
                refine T.live (l := [(0, _), (2, _), (3, _), (8, _), (9, _), (14, _)]) (.cons z_B (.cons z_B (.cons z_B (.cons z_B (.cons z_B (.cons z_B .nil)))))) (fun e_ => ?_)
                refine T.region ?_
                refine TL.cons rfl (V1.t (V1.move' z_B) ?_)
                refine TL.cons rfl (V1.t (V1.add (c := ((mid + 1 : Nat) : Int)) rfl rfl (by rw [wrap_i64 _ (by omega) (by omega)]; omega)) ?_)
                refine TL.cons rfl (V1.t (V1.assign' z_B) ?_)
                refine TL.nil ?_
                exact ⟨(mid + 1, d, l2, _, _, vs), (⟨b, off, (vs).map u32V, size⟩ : Blk) :: G, _, (by simp only; omega), (.cons rfl (.cons rfl (.cons rfl (.cons rfl (.cons rfl .nil))))), (.cons rfl .nil), z_A, ⟨rfl, ⟨by simp only; omega, by simp only; omega, by simp only; omega⟩, by simp only; omega, hswV, (hbutU.sw (hswR.wide (Nat.le_refl _) (by omega)) (by omega) (by omega)).left hpV hasR, hpV.lb (hswV.perm.nodup_iff.2 hnd) (by omega)⟩⟩
              ·
                refine TL.nil ?_
                refine T.cond_f rfl ?_
                refine T.seq ?_
                refine T.region ?_
                refine TL.cons rfl (V1.t (V1.move' z_B) ?_)
                refine TL.cons rfl (V1.t (V1.move' z_B) ?_)
                refine TL.cons rfl (V1.t (V1.geI rfl rfl rfl) ?_)
                refine TL.cons rfl (V1.t (V1.assign' z_B) ?_)
                refine TL.nil ?_
                refine T.seq ?_
                refine T.region ?_
                refine TL.cons rfl (V1.t (V1.move' z_B) ?_)
                refine TL.cons rfl (V1.t (V1.move' z_B) ?_)
                refine TL.cons rfl (V1.t (V1.add (c := ((mid + 1 : Nat) : Int)) rfl rfl (by rw [wrap_i64 _ (by omega) (by omega)]; omega)) ?_)
                refine TL.cons rfl (V1.t (V1.move' z_B) ?_)
                refine TL.cons rfl (V1.t (V1.move' z_B) ?_)
                refine TL.cons rfl (T1.callM (X := [(⟨b, off, (ws).map u32V, size⟩ : Blk)]) has_58 rfl rfl (ih (mid + 1) d l2 ws (by omega) (by omega) (by omega) (by omega) (by omega) (hpW.lb hndW (by omega)) hndW) z_A z_E (fun v_ Y_ hv => ?_))
                obtain ⟨vs, rfl, hswR, hasR⟩ := hv
                simp only [List.cons_append, List.nil_append]
                have hpV : Parted c d mid vs := hpW.sw hswR (.inr ⟨Nat.lt_succ_self _, Nat.le_refl _⟩)
                have hswV : Sw a e xs0 vs := hswA.trans (hswR.wide (by omega) (by omega))
                have hvn := hswV.len
                refine TL.nil ?_
                refine T.live (l := [(0, _), (1, _), (3, _), (8, _), (9, _), (14, _)]) (.cons z_B (.cons z_B (.cons z_B (.cons z_B (.cons z_B (.cons z_B .nil)))))) (fun e_ => ?_)
                refine T.region ?_
                refine TL.cons rfl (V1.t (V1.move' z_B) ?_)
                refine TL.cons rfl (V1.t (V1.assign' z_B) ?_)
                refine TL.nil ?_
                exact ⟨(c, mid, l2, _, _, vs), (⟨b, off, (vs).map u32V, size⟩ : Blk) :: G, _, (by simp only; omega), (.cons rfl (.cons rfl (.cons rfl (.cons rfl (.cons rfl .nil))))), (.cons rfl .nil), z_A, ⟨rfl, ⟨by simp only; omega, by simp only; omega, by simp only; omega⟩, by simp only; omega, hswV, (hbutU.sw (hswR.wide (by omega) (Nat.le_refl _)) (by omega) (by omega)).right hpV hasR, (hlbU.sw (hswR.wide (by omega) (Nat.le_refl _))).sub (by simp only; omega)⟩⟩

theorem pdqG (w0 : World) (b off size cap n : Nat) (hn : n ≤ 150) (N : Nat) : ∀ (a e lim : Nat) (xs0 : List Nat), xs0.length = n → e - a ≤ N → lim ≤ 1000 → a ≤ e → e ≤ n → Lb a e xs0 → xs0.Nodup → FnG P 58 [.slice (some ⟨b, off, none⟩) n cap, .int .i64 ((a : Nat) : Int), .int .i64 ((e : Nat) : Int), .int .i64 ((lim : Nat) : Int)] w0 [] [(⟨b, off, (xs0).map u32V, size⟩ : Blk)] (fun v Y => ∃ ys, Y = [(⟨b, off, (ys).map u32V, size⟩ : Blk)] ∧ Sw a e xs0 ys ∧ Asc a e ys) := by
  induction N using Nat.strongRecOn with
  | ind N ih =>
    intro a e lim xs0 hxl hN hlim hae hen hlb hnd
    exact pdqStep w0 b off size cap n xs0 hxl hn a e lim N hN hae hen hlim hlb hnd (fun a2 e2 l2 ys h1 h2 h3 h4 h5 h6 h7 => ih (e2 - a2) h2 a2 e2 l2 ys h1 (Nat.le_refl _) h3 h4 h5 h6 h7)
set_option maxRecDepth 100000 in
set_option maxHeartbeats 8000000 in
theorem SortW (w0 : World) (b off size cap n : Nat) (xs0 : List Nat) (hxl : xs0.length = n) (hn : n ≤ 150) (h0 : 0 < n) (hnd : xs0.Nodup) : FnG P 53 [.slice (some ⟨b, off, none⟩) n cap] w0 [] [(⟨b, off, (xs0).map u32V, size⟩ : Blk)] (fun v Y => ∃ ms : List Nat, Y = [(⟨b, off, (ms).map u32V, size⟩ : Blk)] ∧ ms.Perm xs0 ∧ ms.Pairwise (· ≤ ·)) := by
  refine FnG.of 11 [] Go.Proofs.Try.func53 rfl rfl rfl rfl (fun G hG => ?_)
  simp only [List.cons_append, List.nil_append]
  refine T.seq ?_
  refine T.region ?_
  refine TL.cons rfl (V1.t (V1.move' z_B) ?_)
  refine TL.cons rfl (V1.t (V1.lenSl ty_36 rfl) ?_)
  refine TL.cons rfl (V1.t (V1.assign' z_B) ?_)
  refine TL.nil ?_
  refine T.region ?_
  refine TL.cons rfl (V1.t (V1.move' z_B) ?_)
  refine TL.cons rfl (V1.t (V1.move' z_B) ?_)
  refine TL.cons rfl (V1.t (V1.move' z_B) ?_)
  refine TL.cons rfl (V1.t (V1.conv (c := ((n : Nat) : Int)) ty_3 ty_110 rfl (wrap_u64 _ (by omega) (by omega))) ?_)
  refine TL.cons rfl (T1.callV has_59 rfl rfl (LenX w0 n (by omega) h0) z_E (fun v_ hv => ?_))
  subst hv
  have hlg := (lenC n (by omega) h0).2
  refine TL.cons rfl (T1.callM (X := [(⟨b, off, (xs0).map u32V, size⟩ : Blk)]) has_58 rfl rfl (pdqG w0 b off size cap n hn n 0 n (Nat.log2 n + 1) xs0 hxl (by omega) (by omega) (by omega) (by omega) (.inl rfl) hnd) z_A z_E (fun v_ Y_ hv => ?_))
  obtain ⟨ys, rfl, hsw, has⟩ := hv
  simp only [List.cons_append, List.nil_append]
  refine TL.nil ?_
  -- the end
  exact ⟨_, _ :: G, _, .nil, z_A, [_], rfl, ys, rfl, hsw.perm, asc_pairwise (by rw [hsw.len, hxl]; exact has)⟩

end Go.Proofs.Ytijijaobialncaa.S
