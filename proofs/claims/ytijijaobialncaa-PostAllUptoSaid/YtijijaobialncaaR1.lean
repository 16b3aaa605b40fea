/- The document's people: found, turned, counted, let in. -/
import Derived.Test.YtijijaobialncaaDocMem
import Derived.Test.YtijijaobialncaaOpen
namespace Go.Proofs.Ytijijaobialncaa.S
open Go.RowKit

set_option maxRecDepth 100000 in
theorem FindG (w0 : World) {Ps : List Blk} {la : Option Addr} {lc : Nat} {ds : List Pr} {css : List (List Value)} (hc : DocC w0 Ps (.slice la ds.length lc) ds css) (hdl : ds.length ≤ 100) (n : Nat) : FnV P 47 [.slice la ds.length lc, .int .i64 (n : Nat)] w0 Ps (fun v => (v = .int .i64 (-1) ∧ findP ds n = none) ∨ ∃ (i : Nat) (d : Pr), v = .int .i64 (i : Nat) ∧ ds[i]? = some d ∧ findP ds n = some d) := by
  refine FnV.of 20 [.tmp 4] Go.Proofs.Try.func47 rfl rfl rfl rfl (fun G hG => ?_)
  refine T.seq ?_
  refine T.region ?_
  refine TL.cons rfl (V1.t (V1.assign' z_B) ?_)
  refine TL.nil ?_
  refine T.seq ?_
  refine T.seq ?_
  refine T.region ?_
  refine TL.cons rfl (V1.t (V1.assign' z_B) ?_)
  refine TL.nil ?_
  refine T.block ?_
  refine T.loopL (σ := Nat) (l0 := [(0, _), (1, _)]) (fun x => [(5, .int .i64 ((x : Nat) : Int))]) (fun i L => G = L ∧ i ≤ ds.length ∧ ∀ d ∈ ds.take i, d.name ≠ n) (fun i => ds.length - i) 0 (.cons rfl .nil) (.cons z_B (.cons z_B .nil)) z_A (⟨rfl, Nat.zero_le _, by simp⟩) ?_
  rintro i e_ L ⟨rfl, hi, hall⟩
  refine T.seq ?_
  refine T.seq ?_
  refine T.region ?_
  refine TL.cons rfl (V1.t (V1.move' z_B) ?_)
  refine TL.cons rfl (V1.t (V1.move' z_B) ?_)
  refine TL.cons rfl (V1.t (V1.lenSl ty_49 rfl) ?_)
  refine TL.cons rfl (T1.ltI_split rfl rfl (fun h2 => ?_) (fun h2 => ?_))
  ·
    obtain ⟨d, hdi⟩ : ∃ d, ds[i]? = some d := ⟨_, List.getElem?_eq_getElem (by omega)⟩
    obtain ⟨lb, lo, so, sn, sb, oc, nc, rfl, hcs, p1, p2, p3, hrd⟩ := hc.at hdi
    refine TL.nil ?_
    refine T.cond_t rfl ?_
    refine T.skip ?_
    refine T.seq ?_
    refine T.block ?_
    refine T.seq ?_
    refine T.region ?_
    refine TL.cons rfl (V1.t (V1.move' z_B) ?_)
    refine TL.cons rfl (V1.t (V1.move' z_B) ?_)
    refine TL.cons rfl (V1.t (V1.indexAddrS ty_49 sz_101 rfl rfl (by omega) (by omega)) ?_)
    refine TL.cons rfl (V1.t (V1.fieldAddr fl_101_0 rfl) ?_)
    refine TL.cons rfl (V1.t (V1.load1 one_3 rfl (hrd _ rfl rfl _ z_E 0 _ rfl)) ?_)
    refine TL.cons rfl (V1.t (V1.move' z_B) ?_)
    refine TL.cons rfl (T1.eqI_split rfl rfl (fun h4 => ?_) (fun h4 => ?_))
    ·
      refine TL.nil ?_
      refine T.cond_t rfl ?_
      refine T.seq ?_
      refine T.region ?_
      refine TL.cons rfl (V1.t (V1.move' z_B) ?_)
      refine TL.cons rfl (V1.t (V1.assign' z_B) ?_)
      refine TL.nil ?_
      refine T.ret ?_
      exact ⟨_, G, _, .cons (.tmp z_B) .nil, z_A, rfl, .inr ⟨i, d, rfl, hdi, find_first hall hdi (by omega)⟩⟩
    ·
      refine TL.nil ?_
      refine T.cond_f rfl ?_
      refine T.skip ?_
      refine T.region ?_
      refine TL.cons rfl (V1.t (V1.move' z_B) ?_)
      refine TL.cons rfl (V1.t (V1.add (c := ((i + 1 : Nat) : Int)) rfl rfl (by rw [wrap_i64 _ (by omega) (by omega)]; omega)) ?_)
      refine TL.cons rfl (V1.t (V1.assign' z_B) ?_)
      refine TL.nil ?_
      exact ⟨i + 1, _, _, (by simp only; omega), (.cons rfl .nil), (.cons rfl (.cons rfl .nil)), z_A, ⟨rfl, by omega, fun x hx => by rw [List.take_add_one, hdi] at hx; rcases List.mem_append.1 hx with hx | hx; exact hall x hx; simp only [Option.toList, List.mem_singleton] at hx; subst hx; omega⟩⟩
  ·
    obtain rfl : i = ds.length := by omega
    rw [List.take_length] at hall
    refine TL.nil ?_
    refine T.cond_f rfl ?_
    refine T.exit ?_
    refine T.seq ?_
    refine T.region ?_
    refine TL.cons rfl (V1.t (V1.assign' z_B) ?_)
    refine TL.nil ?_
    refine T.ret ?_
    exact ⟨_, G, _, .cons (.tmp z_B) .nil, z_A, rfl, .inl ⟨rfl, findP_none.2 hall⟩⟩

set_option maxRecDepth 100000 in
theorem withG (w0 : World) {Ps : List Blk} {la : Option Addr} {lc : Nat} {ds : List Pr} {css : List (List Value)} (hc : DocC w0 Ps (.slice la ds.length lc) ds css) (hdl : ds.length ≤ 100) (i : Nat) (hi : i < ds.length) {d1 : Pr} {cs1 : List Value} (hd1 : PerR w0 Ps d1 cs1) : FnG P 49 [.slice la ds.length lc, .int .i64 ((i : Nat) : Int), .agg cs1.toArray] w0 Ps [] (fun v Y => DocR w0 (Y ++ Ps) v (ds.set i d1)) := by
  refine FnG.of 16 [.tmp 6] Go.Proofs.Try.func49 rfl rfl rfl rfl (fun G hG => ?_)
  refine T.seq ?_
  refine T.region ?_
  refine TL.cons rfl (T1.boxN (vs := cs1) 4 rfl hd1.ones.1 (fun b5 => ?_))
  refine TL.cons rfl (V1.t (V1.assign' z_B) ?_)
  refine TL.nil ?_
  refine T.seq ?_
  refine T.region ?_
  refine TL.cons rfl (T1.buildNone0 ty_49 sz_101 zr_101 (fun b8 => ?_))
  refine TL.cons rfl (V1.t (V1.move' z_B) ?_)
  refine TL.cons rfl (T1.append ty_49 kd_49 sz_101 by_101 zr_101 rfl (by decide) (by decide) rfl rfl (Sl.none0 (b := b8)) (hc.row.row.src _ rfl rfl _ z_E) hc.ones 1000 (by have := hc.row.row.len; rw [this, List.length_nil]; omega) (by decide) z_C (fun s7 L7 hs7 => ?_))
  rw [List.nil_append] at hs7
  obtain ⟨a7, c7, rfl⟩ := hs7.of (n := ds.length) hc.row.row.len (by decide)
  obtain ⟨b7, o7, z7, rfl, rfl, hc7⟩ := hs7.someK (by omega)
  simp only [List.cons_append, List.nil_append]
  have hfl := hc.row.row.len
  obtain ⟨cs0, hcs0⟩ : ∃ c_, css[i]? = some c_ := ⟨_, List.getElem?_eq_getElem (by have := hc.len; omega)⟩
  refine TL.cons rfl (V1.t (V1.assign' z_B) ?_)
  refine TL.nil ?_
  refine T.seq ?_
  refine T.region ?_
  refine TL.cons rfl (V1.t (V1.move' z_B) ?_)
  refine TL.cons rfl (V1.t (V1.move' z_B) ?_)
  refine TL.cons rfl (V1.t (V1.loadN (vs := cs1) one_101 sz_101 rfl (RdN.whole z_D) hd1.ones.1) ?_)
  refine TL.cons rfl (V1.t (V1.indexAddrS ty_49 sz_101 rfl rfl (by omega) (by omega)) ?_)
  refine TL.cons rfl (T1.storeK (o := o7 + i * 4) (off := o7) (size := z7) (cells := css.flatten) (cells' := (css.set i cs1).flatten) rfl rfl sz_101 hd1.ones.1 (by omega) (by omega) hd1.ones.2 (by rw [show o7 + i * 4 - o7 = i * 4 by omega]; exact put_set (fun c hc_ => (hc.four c hc_).1) hcs0 hd1.ones.1) z_H ?_)
  refine TL.nil ?_
  refine T.seq ?_
  refine T.region ?_
  refine TL.cons rfl (V1.t (V1.move' z_B) ?_)
  refine TL.cons rfl (V1.t (V1.assign' z_B) ?_)
  refine TL.nil ?_
  refine T.ret ?_
  exact ⟨_, _ :: G, _, .cons (.tmp z_B) .nil, z_A, [_], rfl, _, hc.set hi hd1 hc7 (Inc.skip1 Inc.refl) (List.mem_cons_self ..)⟩

theorem sum_take {xs : List Nat} {i x : Nat} (h : xs[i]? = some x) : (xs.take (i + 1)).sum = (xs.take i).sum + x := by rw [List.take_add_one, h, List.sum_append]; simp
theorem sum_take_le (xs : List Nat) (i : Nat) : (xs.take i).sum ≤ xs.sum := by
  conv => rhs; rw [← List.take_append_drop i xs, List.sum_append]
  omega
set_option maxRecDepth 100000 in
theorem bytesG (w0 : World) {Ps : List Blk} {d : Pr} {so sn sb : Value} (hso : one so = true) (hsn : one sn = true) (p3 : RowS w0 Ps 1 sb d.box.length (d.box.map strV)) (hb : d.bytes ≤ 1000000) (hbl : d.box.length ≤ 1000000) : FnV P 51 [.agg (List.toArray [.int .i64 (d.name : Nat), so, sn, sb])] w0 Ps (fun v => v = .int .i64 (d.bytes : Nat)) := by
  obtain ⟨ga, gc, rfl⟩ := p3.row.form
  refine FnV.of 21 [.tmp 2] Go.Proofs.Try.func51 rfl rfl rfl rfl (fun G hG => ?_)
  refine T.seq ?_
  refine T.region ?_
  refine TL.cons rfl (T1.boxN (vs := [.int .i64 (d.name : Nat), so, sn, .slice ga d.box.length gc]) 4 rfl rfl (fun b1 => ?_))
  refine TL.cons rfl (V1.t (V1.assign' z_B) ?_)
  refine TL.nil ?_
  refine T.seq ?_
  refine T.region ?_
  refine TL.cons rfl (V1.t (V1.assign' z_B) ?_)
  refine TL.nil ?_
  refine T.seq ?_
  refine T.seq ?_
  refine T.region ?_
  refine TL.cons rfl (V1.t (V1.assign' z_B) ?_)
  refine TL.nil ?_
  refine T.block ?_
  refine T.loopL (σ := Nat) (l0 := [(1, _)]) (fun x => [(3, .int .i64 ((((d.box.map List.length).take x).sum : Nat) : Int)), (4, .int .i64 ((x : Nat) : Int))]) (fun i L => L = (⟨b1, 0, [.int .i64 (d.name : Nat), so, sn, .slice ga d.box.length gc], 4⟩ : Blk) :: G ∧ i ≤ d.box.length) (fun i => d.box.length - i) 0 (.cons rfl (.cons rfl .nil)) (.cons z_B .nil) z_A (⟨rfl, Nat.zero_le _⟩) ?_
  rintro i e_ L ⟨rfl, hi⟩
  refine T.seq ?_
  refine T.seq ?_
  refine T.region ?_
  refine TL.cons rfl (V1.t (V1.move' z_B) ?_)
  refine TL.cons rfl (V1.t (V1.fieldAddr fl_101_3 rfl) ?_)
  refine TL.cons rfl (V1.t (V1.load1 (v := .slice ga d.box.length gc) one_99 rfl (.own (cells := [.int .i64 (d.name : Nat), so, sn, .slice ga d.box.length gc]) z_D (by rfl))) ?_)
  refine TL.cons rfl (V1.t (V1.lenSl ty_99 rfl) ?_)
  refine TL.cons rfl (T1.ltI_split rfl rfl (fun h3 => ?_) (fun h3 => ?_))
  ·
    obtain ⟨l, hl⟩ : ∃ l, d.box[i]? = some l := ⟨_, List.getElem?_eq_getElem (by omega)⟩
    obtain ⟨gb, go, rfl, hrg⟩ := p3.row.at (by omega) P
    have hst : ((d.box.map List.length).take (i + 1)).sum = ((d.box.map List.length).take i).sum + l.length := sum_take (by rw [List.getElem?_map, hl]; rfl)
    have hsl := sum_take_le (d.box.map List.length) (i + 1)
    have hbd : (d.box.map List.length).sum = d.bytes := rfl
    have hbz := bstr_size l
    refine TL.nil ?_
    refine T.cond_t rfl ?_
    refine T.skip ?_
    refine T.seq ?_
    refine T.block ?_
    refine T.region ?_
    refine TL.cons rfl (V1.t (V1.move' z_B) ?_)
    refine TL.cons rfl (V1.t (V1.fieldAddr fl_101_3 rfl) ?_)
    refine TL.cons rfl (V1.t (V1.load1 (v := .slice (some ⟨gb, go, none⟩) d.box.length gc) one_99 rfl (.own (cells := [.int .i64 (d.name : Nat), so, sn, .slice (some ⟨gb, go, none⟩) d.box.length gc]) z_D (by rfl))) ?_)
    refine TL.cons rfl (V1.t (V1.move' z_B) ?_)
    refine TL.cons rfl (V1.t (V1.indexAddrS ty_99 sz_9 rfl rfl (by omega) (by omega)) ?_)
    refine TL.cons rfl (V1.t (V1.load1 (v := strV l) one_9 rfl (RdN.i1 (i := i) (hrg _ rfl rfl _ z_E) (by rw [List.getElem?_map, hl]; rfl))) ?_)
    refine TL.cons rfl (V1.t (V1.lenS ty_9 rfl) ?_)
    refine TL.cons rfl (V1.t (V1.add (c := ((((d.box.map List.length).take i).sum + l.length : Nat) : Int)) rfl rfl (by rw [wrap_i64 _ (by omega) (by omega)]; omega)) ?_)
    refine TL.cons rfl (V1.t (V1.assign' z_B) ?_)
    refine TL.nil ?_
    refine T.region ?_
    refine TL.cons rfl (V1.t (V1.move' z_B) ?_)
    refine TL.cons rfl (V1.t (V1.add (c := ((i + 1 : Nat) : Int)) rfl rfl (by rw [wrap_i64 _ (by omega) (by omega)]; omega)) ?_)
    refine TL.cons rfl (V1.t (V1.assign' z_B) ?_)
    refine TL.nil ?_
    exact ⟨i + 1, _, _, (by simp only; omega), (.cons (by show Value.int .i64 _ = Value.int .i64 _; congr 1; omega) (.cons rfl .nil)), (.cons rfl .nil), z_A, ⟨rfl, by omega⟩⟩
  ·
    obtain rfl : i = d.box.length := by omega
    refine TL.nil ?_
    refine T.cond_f rfl ?_
    refine T.exit ?_
    refine T.seq ?_
    refine T.region ?_
    refine TL.cons rfl (V1.t (V1.move' z_B) ?_)
    refine TL.cons rfl (V1.t (V1.assign' z_B) ?_)
    refine TL.nil ?_
    refine T.ret ?_
    exact ⟨_, G, _, .cons (.tmp z_B) .nil, z_A, rfl, by rw [List.take_of_length_le (by simp)]; rfl⟩

set_option maxRecDepth 100000 in
theorem JoinG (w0 : World) {Ps : List Blk} {la : Option Addr} {lc : Nat} {ds : List Pr} {css : List (List Value)} (hc : DocC w0 Ps (.slice la ds.length lc) ds css) (hdl : ds.length ≤ 100) (n : Nat) : FnG P 34 [.slice la ds.length lc, .int .i64 (n : Nat)] w0 Ps [] (fun v Y => ∃ l1 ds1 c, v = .tuple #[l1, .int .i64 c] ∧ DocR w0 (Y ++ Ps) l1 ds1 ∧ JoinD ds n ds1 c) := by
  refine FnG.of 48 [.tmp 4, .tmp 5] Go.Proofs.Try.func34 rfl rfl rfl rfl (fun G hG => ?_)
  refine T.seq ?_
  refine T.region ?_
  refine TL.cons rfl (V1.t (V1.assign' z_B) ?_)
  refine TL.cons rfl (V1.t (V1.assign' z_B) ?_)
  refine TL.nil ?_
  refine T.seq ?_
  refine T.seq ?_
  refine T.region ?_
  refine TL.cons rfl (V1.t (V1.move' z_B) ?_)
  refine TL.cons rfl (V1.t (V1.move' z_B) ?_)
  refine TL.cons rfl (T1.callV (Ps := Ps) has_47 rfl rfl (FindG w0 hc hdl n) z_E (fun v_ hv => ?_))
  rcases hv with ⟨rfl, hfn⟩ | ⟨i, d, rfl, hdi, hfp⟩
  ·
    refine TL.cons rfl (V1.t (V1.geI (r := false) rfl rfl (decide_eq_false (by omega))) ?_)
    refine TL.nil ?_
    refine T.cond_f rfl ?_
    refine T.skip ?_
    refine T.seq ?_
    refine T.seq ?_
    refine T.region ?_
    refine TL.cons rfl (V1.t (V1.move' z_B) ?_)
    refine TL.cons rfl (V1.t (V1.lenSl ty_49 rfl) ?_)
    refine TL.cons rfl (T1.geI_split rfl rfl (fun h3 => ?_) (fun h3 => ?_))
    ·
      refine TL.nil ?_
      refine T.cond_t rfl ?_
      refine T.seq ?_
      refine T.region ?_
      refine TL.cons rfl (V1.t (V1.move' z_B) ?_)
      refine TL.cons rfl (V1.t (V1.assign' z_B) ?_)
      refine TL.cons rfl (V1.t (V1.assign' z_B) ?_)
      refine TL.nil ?_
      refine T.ret ?_
      exact ⟨_, G, _, .cons (.tmp z_B) (.cons (.tmp z_B) .nil), z_A, [], rfl, _, ds, _, rfl, ⟨_, hc.more (Inc.skip Inc.refl)⟩, .inr (.inl ⟨hfn, by omega, rfl, rfl⟩)⟩
    ·
      refine TL.nil ?_
      refine T.cond_f rfl ?_
      refine T.skip ?_
      refine T.seq ?_
      refine T.region ?_
      refine TL.cons rfl (V1.t (V1.move' z_B) ?_)
      refine TL.cons rfl (V1.t (V1.lenSl ty_49 rfl) ?_)
      refine TL.cons rfl (V1.t (V1.assign' z_B) ?_)
      refine TL.nil ?_
      refine T.cut (σ := Nat) (l0 := [(0, _), (1, _)]) (fun x => [(6, .int .i64 ((x : Nat) : Int))]) (fun k L => G = L ∧ k ≤ ds.length ∧ (∀ i d, k ≤ i → ds[i]? = some d → n < d.name) ∧ ∀ d, 0 < k → ds[k - 1]? = some d → d.name ≤ n) (.cons z_B (.cons z_B .nil)) ?_ ?_
      ·
        refine T.block ?_
        refine T.loopL (σ := Nat) (l0 := [(0, _), (1, _)]) (fun x => [(6, .int .i64 ((x : Nat) : Int))]) (fun k L => G = L ∧ k ≤ ds.length ∧ ∀ i d, k ≤ i → ds[i]? = some d → n < d.name) (fun k => k) ds.length (.cons rfl .nil) (.cons z_B (.cons z_B .nil)) z_A (⟨rfl, Nat.le_refl _, fun i d h1 h2 => by have := (List.getElem?_eq_some_iff.1 h2).1; omega⟩) ?_
        rintro k e_ L ⟨rfl, hk, hhi⟩
        refine T.seq ?_
        refine T.seq ?_
        rcases Nat.eq_zero_or_pos k with hk0 | hk0
        rotate_left
        obtain ⟨d, hdi⟩ : ∃ d, ds[k - 1]? = some d := ⟨_, List.getElem?_eq_getElem (by omega)⟩
        obtain ⟨lb, lo, so, sn, sb, oc, nc, rfl, hcs, p1, p2, p3, hrd⟩ := hc.at hdi
        rcases Nat.lt_or_ge n d.name with hlt | hlt
        ·
          refine T.region ?_
          refine TL.cons rfl (V1.t (V1.move' z_B) ?_)
          refine TL.cons rfl (V1.t (V1.gtI (r := true) rfl rfl (decide_eq_true (by omega))) ?_)
          refine TL.cons rfl (V1.t (V1.move' z_B) ?_)
          refine TL.cons rfl (V1.t (V1.move' z_B) ?_)
          refine TL.cons rfl (V1.t (V1.move' z_B) ?_)
          refine TL.cons rfl (V1.t (V1.move' z_B) ?_)
          refine TL.cons rfl (V1.t (V1.sub (c := ((k - 1 : Nat) : Int)) rfl rfl (by rw [wrap_i64 _ (by omega) (by omega)]; omega)) ?_)
          refine TL.cons rfl (V1.t (V1.indexAddrS ty_49 sz_101 rfl rfl (by omega) (by omega)) ?_)
          refine TL.cons rfl (V1.t (V1.fieldAddr fl_101_0 rfl) ?_)
          refine TL.cons rfl (V1.t (V1.load1 one_3 rfl (hrd _ rfl rfl _ z_E 0 _ rfl)) ?_)
          refine TL.cons rfl (V1.t (V1.ltI (r := true) rfl rfl (decide_eq_true (by omega))) ?_)
          refine TL.cons rfl (V1.t (V1.pick rfl z_B) ?_)
          refine TL.nil ?_
          refine T.cond_t rfl ?_
          refine T.skip ?_
          refine T.block ?_
          refine T.region ?_
          refine TL.cons rfl (V1.t (V1.move' z_B) ?_)
          refine TL.cons rfl (V1.t (V1.sub (c := ((k - 1 : Nat) : Int)) rfl rfl (by rw [wrap_i64 _ (by omega) (by omega)]; omega)) ?_)
          refine TL.cons rfl (V1.t (V1.assign' z_B) ?_)
          refine TL.nil ?_
          exact ⟨k - 1, _, _, (by simp only; omega), (.cons rfl .nil), (.cons rfl (.cons rfl .nil)), z_A, ⟨rfl, by omega, fun i g h1 h2 => by by_cases hik : i = k - 1; (subst hik; rw [hdi] at h2; have := Option.some.inj h2; subst this; exact hlt); exact hhi i g (by omega) h2⟩⟩
        ·
          have hlo : ∀ g, 0 < k → ds[k - 1]? = some g → g.name ≤ n := fun g _ hg => by rw [hdi] at hg; have := Option.some.inj hg; subst this; exact hlt
          refine T.region ?_
          refine TL.cons rfl (V1.t (V1.move' z_B) ?_)
          refine TL.cons rfl (V1.t (V1.gtI (r := true) rfl rfl (decide_eq_true (by omega))) ?_)
          refine TL.cons rfl (V1.t (V1.move' z_B) ?_)
          refine TL.cons rfl (V1.t (V1.move' z_B) ?_)
          refine TL.cons rfl (V1.t (V1.move' z_B) ?_)
          refine TL.cons rfl (V1.t (V1.move' z_B) ?_)
          refine TL.cons rfl (V1.t (V1.sub (c := ((k - 1 : Nat) : Int)) rfl rfl (by rw [wrap_i64 _ (by omega) (by omega)]; omega)) ?_)
          refine TL.cons rfl (V1.t (V1.indexAddrS ty_49 sz_101 rfl rfl (by omega) (by omega)) ?_)
          refine TL.cons rfl (V1.t (V1.fieldAddr fl_101_0 rfl) ?_)
          refine TL.cons rfl (V1.t (V1.load1 one_3 rfl (hrd _ rfl rfl _ z_E 0 _ rfl)) ?_)
          refine TL.cons rfl (V1.t (V1.ltI (r := false) rfl rfl (decide_eq_false (by omega))) ?_)
          refine TL.cons rfl (V1.t (V1.pick rfl z_B) ?_)
          refine TL.nil ?_
          refine T.cond_f rfl ?_
          refine T.exit ?_
          exact ⟨k, _, _, trivial, (.cons rfl .nil), (.cons rfl (.cons rfl .nil)), z_A, ⟨rfl, hk, hhi, hlo⟩⟩
        ·
          have hlo : ∀ g, 0 < k → ds[k - 1]? = some g → g.name ≤ n := fun g h _ => by omega
          refine T.region ?_
          refine TL.cons rfl (V1.t (V1.move' z_B) ?_)
          refine TL.cons rfl (V1.t (V1.gtI (r := false) rfl rfl (decide_eq_false (by omega))) ?_)
          refine TL.cons rfl (V1.t (V1.move' z_B) ?_)
          refine TL.no rfl ?_
          refine TL.no rfl ?_
          refine TL.no rfl ?_
          refine TL.no rfl ?_
          refine TL.no rfl ?_
          refine TL.no rfl ?_
          refine TL.no rfl ?_
          refine TL.no rfl ?_
          refine TL.cons rfl (V1.t (V1.pick rfl z_B) ?_)
          refine TL.nil ?_
          refine T.cond_f rfl ?_
          refine T.exit ?_
          exact ⟨k, _, _, trivial, (.cons rfl .nil), (.cons rfl (.cons rfl .nil)), z_A, ⟨rfl, hk, hhi, hlo⟩⟩
      ·
        rintro k e_ L ⟨rfl, hk, hhi, hlo⟩
        have hfl := hc.row.row.len
        have hcl := hc.len
        have h4 : ∀ c ∈ css, c.length = 4 := fun c h_ => (hc.four c h_).1
        refine T.seq ?_
        refine T.region ?_
        refine TL.cons rfl (T1.buildNone0 ty_49 sz_101 zr_101 (fun b33 => ?_))
        refine TL.cons rfl (V1.t (V1.move' z_B) ?_)
        refine TL.cons rfl (V1.t (V1.move' z_B) ?_)
        refine TL.cons rfl (V1.t (V1.sliceRow ty_49 sz_101 rfl hc.row 0 k rfl rfl (Nat.zero_le _) hk) ?_)
        refine TL.cons rfl (T1.append ty_49 kd_49 sz_101 by_101 zr_101 rfl (by decide) (by decide) rfl rfl (Sl.none0 (b := b33)) ((hc.row.slice (Nat.zero_le k) hk).row.src _ rfl rfl _ z_E) (fun u hu => hc.ones u (List.mem_of_mem_drop (List.mem_of_mem_take hu))) 1000 (by have h_ := (hc.row.slice (Nat.zero_le k) hk).row.len; rw [h_, List.length_nil]; omega) (by decide) z_C (fun s1 L1 hs1 => ?_))
        rw [List.nil_append, piece_flat h4 (by omega), List.drop_zero, Nat.sub_zero] at hs1
        have hl1 := flatk (k := 4) (css := css.take k) (fun c h_ => h4 c (List.mem_of_mem_take h_))
        rw [List.length_take] at hl1
        refine TL.cons rfl (V1.t (V1.assign' z_B) ?_)
        refine TL.nil ?_
        refine T.seq ?_
        refine T.live (l := [(0, _), (1, _), (6, _), (7, _)]) (.cons z_B (.cons z_B (.cons z_B (.cons z_B .nil)))) (fun e_ => ?_)
        refine T.region ?_
        refine TL.cons rfl (V1.t (V1.move' z_B) ?_)
        refine TL.cons rfl (V1.t (V1.move' z_B) ?_)
        refine TL.cons rfl (V1.t (V1.buildF pl_101 zr_101 (.one rfl z_B rfl .nil) z_I) ?_)
        refine TL.cons rfl (T1.buildSlN (os := [.tmp 40]) (vss := [[.int .i64 (n : Nat), .slice none 0 0, .slice none 0 0, .slice none 0 0]]) ty_49 sz_101 zr_101 (by decide) rfl (.cons z_B .nil) z_K (by rfl) (by intro y hy; simp only [List.mem_singleton] at hy; subst hy; rfl) (fun b41 => ?_))
        refine TL.cons rfl (T1.append ty_49 kd_49 sz_101 by_101 zr_101 rfl (by decide) (by decide) rfl rfl hs1 (.sl (n := 1) (RdN.whole z_D) rfl) (by intro u hu; simp only [List.flatten_cons, List.flatten_nil, List.append_nil, List.mem_cons, List.not_mem_nil, or_false] at hu; rcases hu with rfl | rfl | rfl | rfl <;> rfl) 1000 (by rw [hl1]; show _ + 4 ≤ _; omega) (by decide) z_C (fun s2 L2 hs2 => ?_))
        refine TL.cons rfl (V1.t (V1.assign' z_B) ?_)
        refine TL.nil ?_
        refine T.seq ?_
        refine T.region ?_
        refine TL.cons rfl (V1.t (V1.move' z_B) ?_)
        refine TL.cons rfl (V1.t (V1.move' z_B) ?_)
        refine TL.cons rfl (V1.t (V1.move' z_B) ?_)
        refine TL.cons rfl (V1.t (V1.sliceRow ty_49 sz_101 rfl hc.row k ds.length rfl rfl hk (Nat.le_refl _)) ?_)
        refine TL.cons rfl (T1.append ty_49 kd_49 sz_101 by_101 zr_101 rfl (by decide) (by decide) rfl rfl hs2 ((hc.row.slice hk (Nat.le_refl _)).row.src _ rfl rfl _ z_E) (fun u hu => hc.ones u (List.mem_of_mem_drop (List.mem_of_mem_take hu))) 1000 (by have h_ := (hc.row.slice hk (Nat.le_refl _)).row.len; rw [h_, List.length_append, hl1]; show _ + 4 + _ ≤ _; omega) (by decide) z_C (fun s3 L3 hs3 => ?_))
        have htk : (css.drop k).take (ds.length - k) = css.drop k := List.take_of_length_le (by rw [List.length_drop]; omega)
        rw [piece_flat h4 (by omega), htk] at hs3
        simp only [List.flatten_cons, List.flatten_nil, List.append_nil] at hs3
        refine TL.cons rfl (V1.t (V1.assign' z_B) ?_)
        refine TL.cons rfl (V1.t (V1.assign' z_B) ?_)
        refine TL.nil ?_
        refine T.ret ?_
        exact ⟨_, L3 ++ G, _, .cons (.tmp z_B) (.cons (.tmp z_B) .nil), z_A, L3, rfl, _, _, _, rfl, ⟨_, hc.joined (d := ⟨n, none, [], []⟩) hk ⟨_, _, _, [], [], rfl, FrsS.nil, FrsS.nil, RowS.nil⟩ (Inc.skip Inc.refl) hs3 Inc.here⟩, .inr (.inr ⟨hfn, by omega, rfl, k, hk, rfl, hhi, hlo⟩)⟩
  ·
    refine TL.cons rfl (V1.t (V1.geI (r := true) rfl rfl (decide_eq_true (by omega))) ?_)
    refine TL.nil ?_
    refine T.cond_t rfl ?_
    refine T.seq ?_
    refine T.region ?_
    refine TL.cons rfl (V1.t (V1.move' z_B) ?_)
    refine TL.cons rfl (V1.t (V1.assign' z_B) ?_)
    refine TL.cons rfl (V1.t (V1.assign' z_B) ?_)
    refine TL.nil ?_
    refine T.ret ?_
    exact ⟨_, G, _, .cons (.tmp z_B) (.cons (.tmp z_B) .nil), z_A, [], rfl, _, ds, _, rfl, ⟨_, hc.more (Inc.skip Inc.refl)⟩, .inl ⟨by rw [hfp]; simp, rfl, rfl⟩⟩

end Go.Proofs.Ytijijaobialncaa.S
