/- A script that came in, opened. -/
import Derived.Test.YtijijaobialncaaR7
import Derived.Test.YtijijaobialncaaOD
import Derived.Test.YtijijaobialncaaOpen
import Derived.Test.YtijijaobialncaaFrA
import Derived.ProofKit
import Derived.SizedLaws
import Derived.Deep.Slices
import Derived.ChangeMaps5
import Derived.Test.YtijijaobialncaaRows
namespace Go.Proofs.Ytijijaobialncaa.S
open Go.RowKit

open Go.ChangeShapes Go.WideShapes Go.ChangeAt Go.Deep
theorem u32_nat {k : Int} (h : (Lit.int .u32 k).wf = true) : ∃ n : Nat, n < 4294967296 ∧ k = (n : Int) := by
  have : 0 ≤ k ∧ k ≤ 4294967295 := by simpa [Lit.wf, IntKind.min, IntKind.max, IntKind.signed, IntKind.bits] using h
  exact ⟨k.toNat, by omega, by omega⟩
section
variable {H : Type} {enc : TypeId × Value → H} {P : Program} {W : World}
/-- A slice inside another value. -/
theorem rd_slS {t e : TypeId} {k : Nat} {v : Value} {d : DataW H} (ht : P.underlying t = some (.slice e)) (hC : P.cellsOf e = k) (hk : 0 < k) (h : Tr enc P W t [v] d) :
    ∃ (n : Nat) (ess : List (List Value)) (ds : List (DataW H)), n ≤ maxLen ∧ ess.length = n ∧ ds.length = n ∧ ((d = .nil ∧ ds = []) ∨ ∃ sp, d = .slice ds sp) ∧ SlR W v k n ess.flatten ∧ (∀ es ∈ ess, es.length = k) ∧
      ∀ (i : Nat) (es : List Value) (x : DataW H), ess[i]? = some es → ds[i]? = some x → Tr enc P W e es x := by
  obtain ⟨fuel, pl, h0⟩ := h
  have odd : (∃ a, v = .slice (some a) 0 0 ∧ ∃ ds sp, d = .slice ds sp ∧ ds.length = 0) ∨ ∀ a len cap, v = .slice (some a) len cap → a.spot = none := by
    rcases open_slice ht h0 with ⟨h1, h2⟩ | ⟨a, len, cap, m, n, D, Pl, hcs, hb, hl, hm, hmm, hx, hi⟩
    · simp only [List.cons.injEq, and_true] at h1
      subst h1
      exact .inr (fun a len cap hv => by cases hv)
    · simp only [List.cons.injEq, and_true] at hcs
      subst hcs
      have hmc : m = cap := by simpa using hmm
      subst hmc
      by_cases h0 : m = 0
      · subst h0
        obtain rfl : len = 0 := by omega
        exact .inl ⟨a, rfl, _, _, (Prod.mk.inj hx).1, by simp⟩
      · refine .inr (fun a' len' cap' hv => ?_)
        cases hv
        obtain ⟨cs', hc, _⟩ := hi 0 (by omega)
        rw [hC] at hc
        have := (World.cells?_some hc).2.2 0 (by omega)
        rw [Nat.zero_mul] at this
        have e0 : (a.add 0).add 0 = a := rfl
        rw [e0] at this
        obtain ⟨x, hx'⟩ : ∃ x, W.cell? a = some x := by
          have hl1 := (World.cells?_some hc).2.1
          rw [List.getElem?_eq_getElem (by omega)] at this
          exact ⟨_, this⟩
        exact spot_none hx'
  rcases odd with ⟨a, rfl, ds, sp, rfl, hd⟩ | hsp
  · exact ⟨0, [], ds, Nat.zero_le _, rfl, hd, .inr ⟨sp, rfl⟩, .inl ⟨.inr ⟨a, rfl⟩, rfl, rfl⟩, by simp, fun i es x h => by simp at h⟩
  · exact rd_slice0 ht hC hsp ⟨fuel, pl, h0⟩

end
theorem rd_bytesS {H : Type} {enc : TypeId × Value → H} {P : Program} {W : World} {t e : TypeId} {v : Value} {d : DataW H} (ht : P.underlying t = some (.slice e)) (he : P.underlying e = some (.int .u8)) (hC : P.cellsOf e = 1) (h : Tr enc P W t [v] d) :
    ∃ l : List UInt8, l.length ≤ maxLen ∧ SlR W v 1 l.length (l.map byteV) ∧ ((d = .nil ∧ l = []) ∨ ∃ ds sp, d = .slice ds sp ∧ ds.length = l.length) := by
  obtain ⟨n, ess, ds, hn, h1, h2, h3, h4, h5, h6⟩ := rd_slS ht hC (by decide) h
  have key : ∀ x ∈ ess, ∃ c : UInt8, True ∧ x = [byteV c] := by
    intro x hx
    obtain ⟨i, hi', rfl⟩ := List.mem_iff_getElem.1 hx
    obtain ⟨c, hc⟩ := rd_u8 he (h6 i _ _ (List.getElem?_eq_getElem hi') (List.getElem?_eq_getElem (by omega)))
    exact ⟨c, trivial, hc⟩
  obtain ⟨l, rfl, _⟩ := choose_map (fun c => [byteV c]) ess key
  have hfl : ∀ (l : List UInt8), (l.map (fun c => [byteV c])).flatten = l.map byteV := by
    intro l
    induction l with
    | nil => rfl
    | cons c l ih => simp [ih]
  rw [hfl] at h4
  simp only [List.length_map] at h1
  subst h1
  refine ⟨l, hn, h4, ?_⟩
  rcases h3 with ⟨rfl, rfl⟩ | ⟨sp, rfl⟩
  · exact .inl ⟨rfl, List.eq_nil_of_length_eq_zero (by simpa using h2.symm)⟩
  · exact .inr ⟨ds, sp, rfl, h2⟩

theorem rd_arrsS {H : Type} {enc : TypeId × Value → H} {P : Program} {W : World} {t a e : TypeId} {k : Nat} {v : Value} {d : DataW H} (ht : P.underlying t = some (.slice a)) (ha : P.underlying a = some (.array k e)) (he : P.underlying e = some (.int .u8)) (hC : P.cellsOf e = 1) (hk : P.cellsOf a = k) (hk0 : 0 < k) (h : Tr enc P W t [v] d) :
    ∃ l : List (List UInt8), l.length ≤ maxLen ∧ (∀ x ∈ l, x.length = k) ∧ SlR W v k l.length (l.flatten.map byteV) ∧ ((d = .nil ∧ l = []) ∨ ∃ ds sp, d = .slice ds sp ∧ ds.length = l.length) := by
  obtain ⟨n, ess, ds, hn, h1, h2, h3, h4, h5, h6⟩ := rd_slS ht hk hk0 h
  have key : ∀ x ∈ ess, ∃ c : List UInt8, c.length = k ∧ x = c.map byteV := by
    intro x hx
    obtain ⟨i, hi', rfl⟩ := List.mem_iff_getElem.1 hx
    exact rd_arrU8 ha he hC hk (h6 i _ _ (List.getElem?_eq_getElem hi') (List.getElem?_eq_getElem (by omega)))
  obtain ⟨l, rfl, hl⟩ := choose_map (fun c : List UInt8 => c.map byteV) ess key
  simp only [List.length_map] at h1
  subst h1
  refine ⟨l, hn, hl, by rw [List.map_flatten]; exact h4, ?_⟩
  rcases h3 with ⟨rfl, rfl⟩ | ⟨sp, rfl⟩
  · exact .inl ⟨rfl, List.eq_nil_of_length_eq_zero (by simpa using h2.symm)⟩
  · exact .inr ⟨ds, sp, rfl, h2⟩

theorem rd_u32sS {H : Type} {enc : TypeId × Value → H} {P : Program} {W : World} {t e : TypeId} {v : Value} {d : DataW H} (ht : P.underlying t = some (.slice e)) (he : P.underlying e = some (.int .u32)) (hC : P.cellsOf e = 1) (h : Tr enc P W t [v] d) :
    ∃ l : List Nat, l.length ≤ maxLen ∧ (∀ x ∈ l, x < 4294967296) ∧ SlR W v 1 l.length (l.map u32V) ∧ ((d = .nil ∧ l = []) ∨ ∃ ds sp, d = .slice ds sp ∧ ds.length = l.length) := by
  obtain ⟨n, ess, ds, hn, h1, h2, h3, h4, h5, h6⟩ := rd_slS ht hC (by decide) h
  have key : ∀ x ∈ ess, ∃ c : Nat, c < 4294967296 ∧ x = [u32V c] := by
    intro x hx
    obtain ⟨i, hi', rfl⟩ := List.mem_iff_getElem.1 hx
    exact rd_u32 he (h6 i _ _ (List.getElem?_eq_getElem hi') (List.getElem?_eq_getElem (by omega)))
  obtain ⟨l, rfl, hl⟩ := choose_map (fun c => [u32V c]) ess key
  have hfl : ∀ (l : List Nat), (l.map (fun c => [u32V c])).flatten = l.map u32V := by
    intro l
    induction l with
    | nil => rfl
    | cons c l ih => simp [ih]
  rw [hfl] at h4
  simp only [List.length_map] at h1
  subst h1
  refine ⟨l, hn, hl, h4, ?_⟩
  rcases h3 with ⟨rfl, rfl⟩ | ⟨sp, rfl⟩
  · exact .inl ⟨rfl, List.eq_nil_of_length_eq_zero (by simpa using h2.symm)⟩
  · exact .inr ⟨ds, sp, rfl, h2⟩

set_option maxRecDepth 100000 in
theorem rd_frameS {H : Type} {enc : TypeId × Value → H} {W : World} {cs : List Value} {d : DataW H} (h : Tr enc P W 39 cs d) : ∃ f : Frm, FrmS W [] (.agg cs.toArray) f ∧ cs.length = 5 := by
  obtain ⟨xs, hdx, hxl, hlen, hf⟩ := rd_struct (l := [(3, 0), (35, 1), (36, 2), (37, 3), (29, 4)]) (by kernel_rfl) h
  rw [ce_39] at hlen
  match cs, hlen with
  | [c0, c1, c2, c3, c4], _ =>
    obtain ⟨y0, _, t0⟩ := hf 0 _ rfl
    obtain ⟨y1, _, t1⟩ := hf 1 _ rfl
    obtain ⟨y2, _, t2⟩ := hf 2 _ rfl
    obtain ⟨y3, _, t3⟩ := hf 3 _ rfl
    obtain ⟨y4, _, t4⟩ := hf 4 _ rfl
    rw [ce_3] at t0
    rw [ce_35] at t1
    rw [ce_36] at t2
    rw [ce_37] at t3
    rw [ce_29] at t4
    obtain ⟨kind, h0, _, _⟩ := rd_int ty_3 t0
    obtain rfl : c0 = .int .i64 kind := by simpa using h0
    obtain ⟨keys, m1, hk, sk, _⟩ := rd_arrsS ty_35 ty_60 ty_5 ce_5 ce_60 (by decide) t1
    obtain ⟨nums, m2, hn, sn, _⟩ := rd_u32sS ty_36 ty_27 ce_27 t2
    obtain ⟨sigs, m3, hs, ss, _⟩ := rd_arrsS ty_37 ty_86 ty_5 ce_5 ce_86 (by decide) t3
    obtain ⟨data, m4, sd, _⟩ := rd_bytesS ty_29 ty_5 ce_5 t4
    unfold maxLen at m1 m2 m3 m4
    exact ⟨⟨kind, keys, nums, sigs, data⟩, ⟨⟨c1, c2, c3, c4, rfl, RowS.old sk, RowS.old sn, RowS.old ss, RowS.old sd⟩, ⟨hk, hn, hs⟩, ⟨by show keys.length < _; omega, by show nums.length < _; omega, by show sigs.length < _; omega, by show data.length < _; omega⟩⟩, rfl⟩
theorem choose_list {α β : Type} {p : α → β → Prop} {xs : List α} (h : ∀ a ∈ xs, ∃ b, p a b) : ∃ bs : List β, bs.length = xs.length ∧ ∀ (i : Nat) (a : α) (b : β), xs[i]? = some a → bs[i]? = some b → p a b := by
  induction xs with
  | nil => exact ⟨[], rfl, fun i a b h1 _ => by simp at h1⟩
  | cons a xs ih =>
    obtain ⟨b, hb⟩ := h a (by simp)
    obtain ⟨bs, e1, e2⟩ := ih fun x hx => h x (by simp [hx])
    refine ⟨b :: bs, by simp [e1], fun i x y h1 h2 => ?_⟩
    cases i with
    | zero => simp at h1 h2; subst h1; subst h2; exact hb
    | succ i => exact e2 i x y (by simpa using h1) (by simpa using h2)
set_option maxRecDepth 100000 in
theorem rd_framesS {H : Type} {enc : TypeId × Value → H} {W : World} {v : Value} {d : DataW H} (h : Tr enc P W 42 [v] d) : ∃ (fs : List Frm) (css : List (List Value)), FrsS W [] v fs css ∧ ((d = .nil ∧ fs = []) ∨ ∃ ds sp, d = .slice ds sp ∧ ds.length = fs.length) := by
  obtain ⟨n, ess, ds, hn, h1, h2, h3, h4, h5, h6⟩ := rd_slS ty_42 ce_39 (by decide) h
  obtain ⟨fs, hl, hf⟩ := choose_list (p := fun es f => FrmS W [] (.agg (List.toArray es)) f) (xs := ess) fun es hes => by
    obtain ⟨i, hi, rfl⟩ := List.mem_iff_getElem.1 hes
    obtain ⟨f, hf, _⟩ := rd_frameS (h6 i _ _ (List.getElem?_eq_getElem hi) (List.getElem?_eq_getElem (l := ds) (i := i) (by omega)))
    exact ⟨f, hf⟩
  have hfn : fs.length = n := by omega
  refine ⟨fs, ess, ⟨by rw [hfn]; exact RowS.old h4, by omega, fun i f cs e1 e2 => hf i cs f e2 e1⟩, ?_⟩
  rcases h3 with ⟨rfl, rfl⟩ | ⟨sp, rfl⟩
  · exact .inl ⟨rfl, List.eq_nil_of_length_eq_zero (by rw [hfn, ← h2]; rfl)⟩
  · exact .inr ⟨ds, sp, rfl, by omega⟩
theorem bulk_one {H : Type} (d : DataW H) : 1 ≤ Rows.uptoBulk d := by
  cases d with
  | lit l => cases l <;> simp [Rows.uptoBulk]
  | nil => simp [Rows.uptoBulk]
  | ptr d => simp [Rows.uptoBulk]
  | slice elems spare => simp [Rows.uptoBulk]
  | agg parts => simp [Rows.uptoBulk]
  | iface t d => simp [Rows.uptoBulk]
  | map entries => simp [Rows.uptoBulk]
  | held h => simp [Rows.uptoBulk]
theorem bulk_length {H : Type} (l : List (DataW H)) : l.length ≤ Rows.uptoBulkAll l := by
  induction l with
  | nil => simp [Rows.uptoBulkAll]
  | cons x r ih => have := bulk_one x; simp only [Rows.uptoBulkAll, List.length_cons]; omega
theorem bulk_mem {H : Type} : ∀ {l : List (DataW H)} {i : Nat} {x : DataW H}, l[i]? = some x → Rows.uptoBulk x ≤ Rows.uptoBulkAll l
  | y :: l, 0, x, h => by simp at h; subst h; simp only [Rows.uptoBulkAll]; omega
  | y :: l, i + 1, x, h => by have := bulk_mem (l := l) (i := i) (x := x) (by simpa using h); simp only [Rows.uptoBulkAll]; omega
theorem bulk_few {H : Type} {α : Type} {d : DataW H} {l : List α} {B : Nat} (h : (d = .nil ∧ l = []) ∨ ∃ ds sp, d = .slice ds sp ∧ ds.length = l.length) (hb : Rows.uptoBulk d ≤ B) : l.length ≤ B := by
  rcases h with ⟨_, rfl⟩ | ⟨ds, sp, rfl, hl⟩
  · simp
  · have := bulk_length ds
    simp only [Rows.uptoBulk] at hb; omega
set_option maxRecDepth 100000 in
theorem rd_op {H : Type} {enc : TypeId × Value → H} {W : World} {cs : List Value} {d : DataW H} (h : Tr enc P W 51 cs d) (hb : Rows.uptoBulk d ≤ 1048576) : ∃ o : OpP, OpR W o cs := by
  obtain ⟨xs, hdx, hxl, hlen, hf⟩ := rd_struct (l := [(3, 0), (27, 1), (3, 2), (36, 3), (29, 4), (42, 5)]) (by kernel_rfl) h
  rw [ce_51] at hlen
  subst hdx
  have hbx : Rows.uptoBulkAll xs ≤ 1048576 := by simp only [Rows.uptoBulk] at hb; omega
  match cs, hlen with
  | [c0, c1, c2, c3, c4, c5], _ =>
    obtain ⟨y0, _, t0⟩ := hf 0 _ rfl
    obtain ⟨y1, _, t1⟩ := hf 1 _ rfl
    obtain ⟨y2, _, t2⟩ := hf 2 _ rfl
    obtain ⟨y3, g3, t3⟩ := hf 3 _ rfl
    obtain ⟨y4, g4, t4⟩ := hf 4 _ rfl
    obtain ⟨y5, g5, t5⟩ := hf 5 _ rfl
    rw [ce_3] at t0 t2
    rw [ce_27] at t1
    rw [ce_36] at t3
    rw [ce_29] at t4
    rw [ce_42] at t5
    obtain ⟨kind, h0, _, _⟩ := rd_int ty_3 t0
    obtain rfl : c0 = .int .i64 kind := by simpa using h0
    obtain ⟨name, hnm, h1⟩ := rd_u32 ty_27 t1
    obtain rfl : c1 = u32V name := by simpa using h1
    obtain ⟨n, h2, _, _⟩ := rd_int ty_3 t2
    obtain rfl : c2 = .int .i64 n := by simpa using h2
    obtain ⟨to, _, hto, st, q3⟩ := rd_u32sS ty_36 ty_27 ce_27 t3
    obtain ⟨data, _, sd, q4⟩ := rd_bytesS ty_29 ty_5 ce_5 t4
    obtain ⟨fs, fcss, hfs, q5⟩ := rd_framesS t5
    have b3 := bulk_few q3 (Nat.le_trans (bulk_mem g3) hbx)
    have b4 := bulk_few q4 (Nat.le_trans (bulk_mem g4) hbx)
    have b5 := bulk_few q5 (Nat.le_trans (bulk_mem g5) hbx)
    exact ⟨⟨kind, name, n, to, data, fs⟩, c3, c4, c5, fcss, rfl, RowS.old st, RowS.old sd, hfs, hnm, hto, by show to.length ≤ _; omega, by show data.length ≤ _; omega, by show fs.length ≤ _; omega⟩
set_option maxRecDepth 100000 in
theorem open_ops {H : Type} {enc : TypeId × Value → H} {W : World} {v : Value} {d : DataW H} {p : List MemPlace} {b0 : Nat} {r : Reach} (hv : Value.okWide P W r b0 47 v) (h : DataW.Trod enc P W 0 (fun _ => true) true 47 v d p) (hb : Rows.uptoBulk d ≤ 1048576) :
    ∃ a c os css, v = .slice a (List.length os) c ∧ OpsR W (.slice a (List.length os) c) os css := by
  have hc := okW_cell (by rw [ty_47]; simp) (by rw [ty_47]; simp) hv
  obtain ⟨fuel, h⟩ := h
  have hcells : v.cells.toList = [v] := by
    unfold Cell.okWide Cell.ok at hc
    simp only [ty_47] at hc
    cases v <;> first | rfl | exact hc.elim
  rw [hcells] at h
  obtain ⟨n, ess, ds, hn, h1, h2, h3, h4, h5, h6⟩ := rd_slS ty_47 ce_51 (by decide) ⟨fuel, p, h⟩
  have hds : Rows.uptoBulkAll ds ≤ 1048576 := by
    rcases h3 with ⟨rfl, rfl⟩ | ⟨sp, rfl⟩
    · simp [Rows.uptoBulkAll]
    · simp only [Rows.uptoBulk] at hb; omega
  obtain ⟨os, hl, hf⟩ := choose_list (p := fun es o => OpR W o es) (xs := ess) fun es hes => by
    obtain ⟨i, hi, rfl⟩ := List.mem_iff_getElem.1 hes
    have hx := List.getElem?_eq_getElem (l := ds) (i := i) (by omega)
    exact rd_op (h6 i _ _ (List.getElem?_eq_getElem hi) hx) (Nat.le_trans (bulk_mem hx) hds)
  have hfn : os.length = n := by omega
  obtain ⟨a, c, rfl⟩ := h4.form
  have hbl := bulk_length ds
  exact ⟨a, c, os, ess, by rw [hfn], ⟨by rw [hfn]; exact RowR.old h4, by omega, fun i o cs e1 e2 => hf i cs o e2 e1, by omega⟩⟩

theorem PostPlays_any {oa_ : Option Addr} {oc_ : Nat} {os : List OpP} {ocss : List (List Value)} (w : World) (hos : OpsR w (.slice oa_ os.length oc_) os ocss) : Fn P 5 [.slice oa_ os.length oc_] w [] (fun v _ => v = .bool true) :=
  fun _ _ => (PostPlays_us w hos [] w Inc.nil (St.refl w)).mono fun _ _ ⟨v, Y, e1, e2, e3⟩ => ⟨v, Y, e1, by simpa using e2, e3.2⟩
theorem PostAll_any {oa_ : Option Addr} {oc_ : Nat} {os : List OpP} {ocss : List (List Value)} (w : World) (hos : OpsR w (.slice oa_ os.length oc_) os ocss) (src : Nat) (hsrc : src < 4294967296) {vb : Value} {l : List UInt8} (hb : RowS w [] 1 vb l.length (l.map byteV)) : Fn P 6 [.slice oa_ os.length oc_, u32V src, vb] w [] (fun v _ => v = .bool true) :=
  fun _ _ => (PostAll_us w hos src hsrc hb [] w Inc.nil (St.refl w)).mono fun _ _ ⟨v, Y, e1, e2, e3⟩ => ⟨v, Y, e1, by simpa using e2, e3.2⟩
end Go.Proofs.Ytijijaobialncaa.S
