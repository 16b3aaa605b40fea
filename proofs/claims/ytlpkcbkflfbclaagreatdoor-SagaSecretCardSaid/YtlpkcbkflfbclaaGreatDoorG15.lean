/- The document's own small functions for sagas. -/
import Derived.Test.YtlpkcbkflfbclaaGreatDoorG9
import Derived.Test.YtlpkcbkflfbclaaGreatDoorG4
namespace Go.Proofs.YtlpkcbkflfbclaaGreatDoor.S
open Go.RowKit

def sDig10 : ByteArray := ⟨#[48, 49, 50, 51, 52, 53, 54, 55, 56, 57]⟩
def dg1 (k : Nat) : UInt8 := UInt8.ofNat (48 + k)
theorem dig10 : ∀ k < 10, sDig10.extract ((k : Nat) : Int).toNat (((k + 1 : Nat) : Int)).toNat = bstr [dg1 k] := by decide +kernel
/-- Where the digits of a number stand: nothing yet, or the last ones. -/
def DgI (n m : Nat) (l : List UInt8) : Prop := (l = [] ∧ m = n) ∨ (l ≠ [] ∧ l.length ≤ 2 ∧ m < 10 ∧ (if m = 0 then l else dg1 m :: l) = dgN n)
theorem dg_first : ∀ n < 100, n / 10 < 10 ∧ (if n / 10 = 0 then [dg1 (n % 10)] else dg1 (n / 10) :: [dg1 (n % 10)]) = dgN n := by decide +kernel
theorem DgI.step {n m : Nat} {l : List UInt8} (hn : n < 100) (h : DgI n m l) (hc : l = [] ∨ 0 < m) : DgI n (m / 10) (dg1 (m % 10) :: l) := by
  rcases h with ⟨rfl, rfl⟩ | ⟨h1, h2, h3, h4⟩
  · exact .inr ⟨by simp, by simp, (dg_first m hn).1, (dg_first m hn).2⟩
  · have hm : 0 < m := hc.resolve_left h1
    rw [if_neg (by omega)] at h4
    have hl := dgN_len n
    rw [← h4, List.length_cons] at hl
    refine .inr ⟨by simp, by rw [List.length_cons]; exact hl, by omega, ?_⟩
    rw [if_pos (by omega), Nat.mod_eq_of_lt h3]; exact h4
theorem DgI.end {n : Nat} {l : List UInt8} (h : DgI n 0 l) (hl : l ≠ []) : l = dgN n := by
  rcases h with ⟨rfl, _⟩ | ⟨_, _, _, h4⟩
  · exact absurd rfl hl
  · rwa [if_pos rfl] at h4
theorem DgI.len {n m : Nat} {l : List UInt8} (h : DgI n m l) : l.length ≤ 2 := by
  rcases h with ⟨rfl, _⟩ | ⟨_, h, _⟩
  · simp
  · exact h
theorem nmb1 (l : List UInt8) (n : Nat) : (l ++ dgN n) ++ [120] = nmb l [n] := by simp [nmb]
theorem nmb2 (l : List UInt8) (n e : Nat) : (((l ++ dgN n) ++ [120]) ++ dgN e) ++ [120] = nmb l [n, e] := by simp [nmb]
theorem own_len (n : Nat) : (nmb sOwn [n]).length ≤ 6 := nmb_len sOwn [n]
theorem lnk_len (n e : Nat) : (nmb sLink [n, e]).length ≤ 10 := nmb_len sLink [n, e]
/-- A term's text as a string's cell. -/
def kV (x : Tm) : Value := .string (bstr (txt x))
theorem one_kV (l : List Tm) : ∀ u ∈ l.map kV, one u = true := fun u hu => by obtain ⟨x, _, rfl⟩ := List.mem_map.1 hu; rfl
theorem txt_own (n : Nat) : txt (ownT n) = nmb sOwn [n] := by simp [ownT, txt]
theorem txt_pub (n : Nat) : txt (pub (ownT n)) = [94, 40] ++ nmb sOwn [n] ++ [41] := by simp [pub, ownT, txt, txtM, joinC, sgN]
theorem txt_letter (a b e : Nat) : txt (letterT a b e) = ((((((([115, 40, 104, 112, 97, 105, 114, 40, 126, 40] ++ nmb sOwn [a]) ++ [44, 94, 40]) ++ nmb sOwn [b]) ++ [41, 41, 41, 44, 103, 40]) ++ nmb sOwn [a]) ++ [44]) ++ nmb sLink [a, e]) ++ [41, 41] := by
  simp [letterT, pairT, signT, pub, ownT, linkT, txt, txtM, joinC, sgN, sPair]
theorem txt_msg (w e i : Nat) : txt (msgT w e i) = (((((([103, 40] ++ nmb sOwn [w]) ++ [44, 115, 40, 104, 112, 111, 115, 116, 40]) ++ nmb sLink [w, e]) ++ [44]) ++ nmb sIndex [i]) ++ [41, 44]) ++ nmb sText [i] ++ [41, 41] := by
  simp [msgT, sealT, postT, ownT, linkT, indexT, textT, txt, txtM, joinC, sgN, sPost]

theorem bstr_ne_nil {l : List UInt8} (h : l ≠ []) : bstr l ≠ ⟨#[]⟩ := fun e => h (by have := congrArg (fun b => b.data.toList) e; simpa [bstr] using this)
set_option maxRecDepth 100000 in
theorem digits_any (w0 : World) (n : Nat) (hn : n < 100) : FnV P 53 [iV n] w0 [] (fun v => v = .string (bstr (dgN n))) := by
  refine FnV.of 21 [.tmp 2] Go.Proofs.Tryz.func53 rfl rfl rfl rfl (fun G hG => ?_)
  refine T.seq ?_
  refine T.region ?_
  refine TL.cons rfl (V1.t (V1.assign' z_C) ?_)
  refine TL.nil ?_
  refine T.seq ?_
  refine T.region ?_
  refine TL.cons rfl (V1.t (V1.assign' z_C) ?_)
  refine TL.nil ?_
  refine T.seq ?_
  refine T.block ?_
  refine T.loopL (σ := Nat × List UInt8) (l0 := []) (fun x => [(0, .int .i64 (x.1 : Nat)), (3, .string (bstr x.2))]) (fun x L => L = G ∧ x.1 ≤ n ∧ DgI n x.1 x.2) (fun x => x.1 + if x.2 = [] then 1 else 0) (n, []) (.cons rfl (.cons rfl .nil)) .nil z_A (⟨rfl, Nat.le_refl _, .inl ⟨rfl, rfl⟩⟩) ?_
  rintro ⟨m, l⟩ e_ L ⟨hL, hmn, hI⟩
  obtain rfl := hL.symm
  simp only at hmn hI
  have hll := hI.len
  dsimp only
  refine T.seq ?_
  refine T.seq ?_
  have hm3 : 0 < m ∨ (m = 0 ∧ l = []) ∨ (m = 0 ∧ l ≠ []) := by rcases Nat.eq_zero_or_pos m with h | h; exact .inr ((Classical.em (l = [])).imp (fun h2 => ⟨h, h2⟩) (fun h2 => ⟨h, h2⟩)); exact .inl h
  rcases hm3 with hm0 | ⟨hm0, hl0⟩ | ⟨hm0, hl0⟩
  ·
    have hcc : l = [] ∨ 0 < m := .inr hm0
    refine T.region ?_
    refine TL.cons rfl (V1.t (V1.move' z_C) ?_)
    refine TL.cons rfl (V1.t (V1.gtI (r := true) rfl rfl (decide_eq_true (by omega))) ?_)
    refine TL.cons rfl (V1.t (V1.move' z_C) ?_)
    refine TL.no rfl ?_
    refine TL.no rfl ?_
    refine TL.cons rfl (V1.t (V1.pick rfl z_C) ?_)
    refine TL.nil ?_
    refine T.cond_t rfl ?_
    refine T.skip ?_
    refine T.block ?_
    refine T.seq ?_
    refine T.region ?_
    refine TL.cons rfl (V1.t (V1.move' z_C) ?_)
    refine TL.cons rfl (V1.t (V1.rem (c := ((m % 10 : Nat) : Int)) rfl rfl (by decide) ((Int.ofNat_tmod _ 10).symm)) ?_)
    refine TL.cons rfl (V1.t (V1.move' z_C) ?_)
    refine TL.cons rfl (V1.t (V1.rem (c := ((m % 10 : Nat) : Int)) rfl rfl (by decide) ((Int.ofNat_tmod _ 10).symm)) ?_)
    refine TL.cons rfl (V1.t (V1.add (c := ((m % 10 + 1 : Nat) : Int)) rfl rfl (by rw [wrap_i64 _ (by omega) (by omega)]; omega)) ?_)
    refine TL.cons rfl (V1.t (V1.sliceSr (s := sDig10) (l := ((m % 10 : Nat) : Int)) (h := ((m % 10 + 1 : Nat) : Int)) ty_9 rfl rfl rfl (by omega) (by omega) (by show _ ≤ ((10 : Nat) : Int); omega) (dig10 (m % 10) (by omega))) ?_)
    refine TL.cons rfl (V1.t (V1.move' z_C) ?_)
    refine TL.cons rfl (V1.t (V1.addSr (a := [dg1 (m % 10)]) (b := l) (r := dg1 (m % 10) :: l) rfl rfl (by (try simp only [List.length_append, List.length_cons, List.length_nil]); omega) rfl) ?_)
    refine TL.cons rfl (V1.t (V1.assign' z_C) ?_)
    refine TL.nil ?_
    refine T.live (l := [(0, _), (3, _)]) (.cons z_C (.cons z_C .nil)) (fun e_ => ?_)
    refine T.region ?_
    refine TL.cons rfl (V1.t (V1.move' z_C) ?_)
    refine TL.cons rfl (V1.t (V1.quo (c := ((m / 10 : Nat) : Int)) rfl rfl (by decide) (by rw [show ((m : Int).tdiv 10) = ((m / 10 : Nat) : Int) from (Int.ofNat_tdiv m 10).symm]; exact wrap_i64 _ (by omega) (by omega))) ?_)
    refine TL.cons rfl (V1.t (V1.assign' z_C) ?_)
    refine TL.nil ?_
    exact ⟨(m / 10, dg1 (m % 10) :: l), G, _, (by simp only [reduceCtorEq, if_false]; rcases hcc with rfl | hcc; simp only [if_true]; omega; omega), (.cons rfl (.cons rfl .nil)), .nil, z_A, ⟨rfl, by simp only; omega, hI.step hn hcc⟩⟩
  ·
    have hcc : l = [] ∨ 0 < m := .inl hl0
    refine T.region ?_
    refine TL.cons rfl (V1.t (V1.move' z_C) ?_)
    refine TL.cons rfl (V1.t (V1.gtI (r := false) rfl rfl (decide_eq_false (by omega))) ?_)
    refine TL.cons rfl (V1.t (V1.move' z_C) ?_)
    refine TL.cons rfl (V1.t (V1.move' z_C) ?_)
    refine TL.cons rfl (V1.t (V1.eqS (r := true) rfl rfl (decide_eq_true (by rw [hl0]; rfl))) ?_)
    refine TL.cons rfl (V1.t (V1.pick rfl z_C) ?_)
    refine TL.nil ?_
    refine T.cond_t rfl ?_
    refine T.skip ?_
    refine T.block ?_
    refine T.seq ?_
    refine T.region ?_
    refine TL.cons rfl (V1.t (V1.move' z_C) ?_)
    refine TL.cons rfl (V1.t (V1.rem (c := ((m % 10 : Nat) : Int)) rfl rfl (by decide) ((Int.ofNat_tmod _ 10).symm)) ?_)
    refine TL.cons rfl (V1.t (V1.move' z_C) ?_)
    refine TL.cons rfl (V1.t (V1.rem (c := ((m % 10 : Nat) : Int)) rfl rfl (by decide) ((Int.ofNat_tmod _ 10).symm)) ?_)
    refine TL.cons rfl (V1.t (V1.add (c := ((m % 10 + 1 : Nat) : Int)) rfl rfl (by rw [wrap_i64 _ (by omega) (by omega)]; omega)) ?_)
    refine TL.cons rfl (V1.t (V1.sliceSr (s := sDig10) (l := ((m % 10 : Nat) : Int)) (h := ((m % 10 + 1 : Nat) : Int)) ty_9 rfl rfl rfl (by omega) (by omega) (by show _ ≤ ((10 : Nat) : Int); omega) (dig10 (m % 10) (by omega))) ?_)
    refine TL.cons rfl (V1.t (V1.move' z_C) ?_)
    refine TL.cons rfl (V1.t (V1.addSr (a := [dg1 (m % 10)]) (b := l) (r := dg1 (m % 10) :: l) rfl rfl (by (try simp only [List.length_append, List.length_cons, List.length_nil]); omega) rfl) ?_)
    refine TL.cons rfl (V1.t (V1.assign' z_C) ?_)
    refine TL.nil ?_
    refine T.live (l := [(0, _), (3, _)]) (.cons z_C (.cons z_C .nil)) (fun e_ => ?_)
    refine T.region ?_
    refine TL.cons rfl (V1.t (V1.move' z_C) ?_)
    refine TL.cons rfl (V1.t (V1.quo (c := ((m / 10 : Nat) : Int)) rfl rfl (by decide) (by rw [show ((m : Int).tdiv 10) = ((m / 10 : Nat) : Int) from (Int.ofNat_tdiv m 10).symm]; exact wrap_i64 _ (by omega) (by omega))) ?_)
    refine TL.cons rfl (V1.t (V1.assign' z_C) ?_)
    refine TL.nil ?_
    exact ⟨(m / 10, dg1 (m % 10) :: l), G, _, (by simp only [reduceCtorEq, if_false]; rcases hcc with rfl | hcc; simp only [if_true]; omega; omega), (.cons rfl (.cons rfl .nil)), .nil, z_A, ⟨rfl, by simp only; omega, hI.step hn hcc⟩⟩
  ·
    refine T.region ?_
    refine TL.cons rfl (V1.t (V1.move' z_C) ?_)
    refine TL.cons rfl (V1.t (V1.gtI (r := false) rfl rfl (decide_eq_false (by omega))) ?_)
    refine TL.cons rfl (V1.t (V1.move' z_C) ?_)
    refine TL.cons rfl (V1.t (V1.move' z_C) ?_)
    refine TL.cons rfl (V1.t (V1.eqS (r := false) rfl rfl (decide_eq_false (bstr_ne_nil hl0))) ?_)
    refine TL.cons rfl (V1.t (V1.pick rfl z_C) ?_)
    refine TL.nil ?_
    refine T.cond_f rfl ?_
    refine T.exit ?_
    refine T.seq ?_
    refine T.region ?_
    refine TL.cons rfl (V1.t (V1.move' z_C) ?_)
    refine TL.cons rfl (V1.t (V1.assign' z_C) ?_)
    refine TL.nil ?_
    refine T.ret ?_
    obtain rfl := hm0
    obtain rfl := hI.end hl0
    exact ⟨_, G, _, .cons (.tmp z_C) .nil, z_A, rfl, rfl⟩

set_option maxRecDepth 100000 in
theorem rhas_us (w0 : World) (Ps : List Blk) {ns : List Nat} {a : Option Addr} {c : Nat} (hr : RowR w0 Ps 1 (.slice a ns.length c) ns.length (ns.map iV)) (hn6 : ns.length ≤ 1000) (n : Nat) : FnV P 54 [.slice a ns.length c, iV n] w0 Ps (fun v => v = .bool (decide (n ∈ ns))) := by
  refine FnV.of 18 [.tmp 4] Go.Proofs.Tryz.func54 rfl rfl rfl rfl (fun G hG => ?_)
  refine T.seq ?_
  refine T.region ?_
  refine TL.cons rfl (V1.t (V1.assign' z_C) ?_)
  refine TL.nil ?_
  refine T.seq ?_
  refine T.seq ?_
  refine T.region ?_
  refine TL.cons rfl (V1.t (V1.assign' z_C) ?_)
  refine TL.nil ?_
  refine T.block ?_
  refine T.loopL (σ := Nat) (l0 := [(0, _), (1, _)]) (fun x => [(5, .int .i64 (x : Nat))]) (fun i L => L = G ∧ i ≤ ns.length ∧ n ∉ ns.take i) (fun i => ns.length - i) 0 (.cons rfl .nil) (.cons z_C (.cons z_C .nil)) z_A (⟨rfl, Nat.zero_le _, by simp⟩) ?_
  rintro i e_ L ⟨hL, hi, ho⟩
  obtain rfl := hL.symm
  refine T.seq ?_
  refine T.seq ?_
  refine T.region ?_
  refine TL.cons rfl (V1.t (V1.move' z_C) ?_)
  refine TL.cons rfl (V1.t (V1.move' z_C) ?_)
  refine TL.cons rfl (V1.t (V1.lenSl ty_44 rfl) ?_)
  refine TL.cons rfl (T1.ltI_split rfl rfl (fun h2 => ?_) (fun h2 => ?_))
  ·
    obtain ⟨x, hx0⟩ : ∃ x, ns[i]? = some x := ⟨_, List.getElem?_eq_getElem (by omega)⟩
    obtain ⟨b, o, rfl, hrd⟩ := hr.at (by omega) P
    refine TL.nil ?_
    refine T.cond_t rfl ?_
    refine T.skip ?_
    refine T.seq ?_
    refine T.block ?_
    refine T.seq ?_
    refine T.region ?_
    refine TL.cons rfl (V1.t (V1.move' z_C) ?_)
    refine TL.cons rfl (V1.t (V1.move' z_C) ?_)
    refine TL.cons rfl (V1.t (V1.indexAddrS ty_44 sz_3 rfl rfl (by omega) (by omega)) ?_)
    refine TL.cons rfl (V1.t (V1.load1 (v := iV x) one_3 rfl (show Rd _ _ ⟨_, _ + i * 1, none⟩ _ from by rw [Nat.mul_one]; exact hrd _ rfl rfl _ z_B i _ (by rw [List.getElem?_map, hx0]; rfl))) ?_)
    refine TL.cons rfl (V1.t (V1.move' z_C) ?_)
    refine TL.cons rfl (T1.eqI_split rfl rfl (fun h4 => ?_) (fun h4 => ?_))
    ·
      refine TL.nil ?_
      refine T.cond_t rfl ?_
      refine T.seq ?_
      refine T.region ?_
      refine TL.cons rfl (V1.t (V1.assign' z_C) ?_)
      refine TL.nil ?_
      refine T.ret ?_
      exact ⟨_, G, _, .cons (.tmp z_C) .nil, z_A, rfl, by rw [decide_eq_true (show n ∈ ns from by rw [show n = x by omega]; exact List.mem_of_getElem? hx0)]; rfl⟩
    ·
      refine TL.nil ?_
      refine T.cond_f rfl ?_
      refine T.skip ?_
      refine T.region ?_
      refine TL.cons rfl (V1.t (V1.move' z_C) ?_)
      refine TL.cons rfl (V1.t (V1.add (c := ((i + 1 : Nat) : Int)) rfl rfl (by rw [wrap_i64 _ (by omega) (by omega)]; omega)) ?_)
      refine TL.cons rfl (V1.t (V1.assign' z_C) ?_)
      refine TL.nil ?_
      exact ⟨i + 1, G, _, (by simp only; omega), (.cons rfl .nil), (.cons rfl (.cons rfl .nil)), z_A, ⟨rfl, by omega, by rw [take_nat hx0, List.mem_append, List.mem_singleton]; rintro (h | h); exact ho h; exact h4 (by rw [h])⟩⟩
  ·
    obtain rfl : i = ns.length := by omega
    rw [List.take_length] at ho
    refine TL.nil ?_
    refine T.cond_f rfl ?_
    refine T.exit ?_
    refine T.seq ?_
    refine T.region ?_
    refine TL.cons rfl (V1.t (V1.assign' z_C) ?_)
    refine TL.nil ?_
    refine T.ret ?_
    exact ⟨_, G, _, .cons (.tmp z_C) .nil, z_A, rfl, by rw [decide_eq_false ho]; rfl⟩

theorem rhas_any (w0 : World) (Ps : List Blk) {v0 : Value} {ns : List Nat} (hr : RowR w0 Ps 1 v0 ns.length (ns.map iV)) (hn6 : ns.length ≤ 1000) (n : Nat) : FnV P 54 [v0, iV n] w0 Ps (fun v => v = .bool (decide (n ∈ ns))) := by
  obtain ⟨a, c, rfl⟩ := hr.form
  exact rhas_us w0 Ps hr hn6 n
set_option maxRecDepth 100000 in
theorem rlink_any (w0 : World) (n e : Nat) (hn : n < 100) (he : e < 100) : FnV P 56 [iV n, iV e] w0 [] (fun v => v = .string (bstr (nmb sLink [n, e]))) := by
  have hl1 := dgN_len n
  have hl2 := dgN_len e
  have hl3 : sLink.length = 4 := rfl
  refine FnV.of 13 [.tmp 4] Go.Proofs.Tryz.func56 rfl rfl rfl rfl (fun G hG => ?_)
  refine T.seq ?_
  refine T.region ?_
  refine TL.cons rfl (V1.t (V1.assign' z_C) ?_)
  refine TL.nil ?_
  refine T.seq ?_
  refine T.region ?_
  refine TL.cons rfl (V1.t (V1.move' z_C) ?_)
  refine TL.cons rfl (T1.callV has_53 rfl rfl (digits_any w0 n hn) z_B (fun v_ hv => ?_))
  obtain rfl := hv
  refine TL.cons rfl (V1.t (V1.addSr (a := sLink) (b := dgN n) rfl rfl (by (try simp only [List.length_append, List.length_cons, List.length_nil]); omega) rfl) ?_)
  refine TL.cons rfl (V1.t (V1.addSr (b := [120]) rfl rfl (by (try simp only [List.length_append, List.length_cons, List.length_nil]); omega) rfl) ?_)
  refine TL.cons rfl (V1.t (V1.move' z_C) ?_)
  refine TL.cons rfl (T1.callV has_53 rfl rfl (digits_any w0 e he) z_B (fun v_ hv => ?_))
  obtain rfl := hv
  refine TL.cons rfl (V1.t (V1.addSr rfl rfl (by (try simp only [List.length_append, List.length_cons, List.length_nil]); omega) rfl) ?_)
  refine TL.cons rfl (V1.t (V1.addSr (a := ((sLink ++ dgN n) ++ [120]) ++ dgN e) (b := [120]) (r := nmb sLink [n, e]) rfl rfl (by (try simp only [List.length_append, List.length_cons, List.length_nil]); omega) (nmb2 _ _ _)) ?_)
  refine TL.cons rfl (V1.t (V1.assign' z_C) ?_)
  refine TL.nil ?_
  refine T.ret ?_
  exact ⟨_, G, _, .cons (.tmp z_C) .nil, z_A, rfl, rfl⟩

theorem nd_at {ns : List Nat} (hd : ns.Nodup) {i k a : Nat} (h1 : ns[i]? = some a) (h2 : ns[k]? = some a) : i = k := by
  obtain ⟨h3, h4⟩ := List.getElem?_eq_some_iff.1 h1
  obtain ⟨h5, h6⟩ := List.getElem?_eq_some_iff.1 h2
  rcases Nat.lt_trichotomy i k with h | h | h
  · exact absurd (h4.trans h6.symm) (List.pairwise_iff_getElem.1 hd i k h3 h5 h)
  · exact h
  · exact absurd (h6.trans h4.symm) (List.pairwise_iff_getElem.1 hd k i h5 h3 h)
set_option maxRecDepth 100000 in
set_option maxHeartbeats 8000000 in
theorem letters_us (w0 : World) (Ps : List Blk) {ns : List Nat} {an : Option Addr} {c : Nat} (hr : RowR w0 Ps 1 (.slice an ns.length c) ns.length (ns.map iV)) (hn6 : ns.length ≤ 6) (h99 : ∀ n ∈ ns, n < 100) (hnd : ns.Nodup) (e : Nat) (he : e < 100) : FnG P 55 [.slice an ns.length c, iV e] w0 Ps [] (fun v Y => Sl v ((letters ns e).map kV) 1 Y) := by
  refine FnG.of 60 [.tmp 4] Go.Proofs.Tryz.func55 rfl rfl rfl rfl (fun G hG => ?_)
  refine T.seq ?_
  refine T.region ?_
  refine TL.cons rfl (V1.t (V1.assign' z_C) ?_)
  refine TL.nil ?_
  refine T.seq ?_
  refine T.region ?_
  refine TL.cons rfl (V1.t (V1.assign' z_C) ?_)
  refine TL.nil ?_
  refine T.seq ?_
  refine T.seq ?_
  refine T.region ?_
  refine TL.cons rfl (V1.t (V1.assign' z_C) ?_)
  refine TL.nil ?_
  refine T.block ?_
  refine T.loopL (σ := Nat × Value × List Blk) (l0 := [(0, _), (1, _)]) (fun x => [(6, .int .i64 (x.1 : Nat)), (5, x.2.1)]) (fun x L => L = x.2.2 ++ G ∧ x.1 ≤ ns.length ∧ Sl x.2.1 ((LT ns e (ns.take x.1)).map kV) 1 x.2.2) (fun x => ns.length - x.1) (0, .slice none 0 0, []) (.cons rfl (.cons rfl .nil)) (.cons z_C (.cons z_C .nil)) z_A (⟨rfl, Nat.zero_le _, Sl.nil⟩) ?_
  rintro ⟨i, s0, Ls⟩ e_ L ⟨rfl, hi, hsl⟩
  simp only at hi hsl
  dsimp only
  have hl1 := LT_len ns e (ns.take i) hn6
  rw [List.length_take, Nat.min_eq_left hi] at hl1
  refine T.seq ?_
  refine T.seq ?_
  refine T.region ?_
  refine TL.cons rfl (V1.t (V1.move' z_C) ?_)
  refine TL.cons rfl (V1.t (V1.move' z_C) ?_)
  refine TL.cons rfl (V1.t (V1.lenSl ty_44 rfl) ?_)
  refine TL.cons rfl (T1.ltI_split rfl rfl (fun h3 => ?_) (fun h3 => ?_))
  ·
    obtain ⟨a, hx0⟩ : ∃ a, ns[i]? = some a := ⟨_, List.getElem?_eq_getElem (by omega)⟩
    have ha := h99 a (List.mem_of_getElem? hx0)
    obtain ⟨b_, o_, rfl, hrd⟩ := hr.at (by omega) P
    refine TL.nil ?_
    refine T.cond_t rfl ?_
    refine T.skip ?_
    refine T.seq ?_
    refine T.block ?_
    refine T.seq ?_
    refine T.region ?_
    refine TL.cons rfl (V1.t (V1.assign' z_C) ?_)
    refine TL.nil ?_
    refine T.block ?_
    refine T.loopL (σ := Nat × Value × List Blk) (l0 := [(0, _), (1, _), (6, _)]) (fun x => [(7, .int .i64 (x.1 : Nat)), (5, x.2.1)]) (fun x L => L = x.2.2 ++ G ∧ x.1 ≤ ns.length ∧ Sl x.2.1 ((LT ns e (ns.take i) ++ LT1 a e (ns.take x.1)).map kV) 1 x.2.2) (fun x => ns.length - x.1) (0, s0, Ls) (.cons rfl (.cons rfl .nil)) (.cons z_C (.cons z_C (.cons z_C .nil))) z_A (⟨rfl, Nat.zero_le _, by simpa [LT1] using hsl⟩) ?_
    rintro ⟨k, s1, Ls1⟩ e_ L ⟨rfl, hk, hsl1⟩
    simp only at hk hsl1
    dsimp only
    have hl2 := LT1_len a e (ns.take k)
    rw [List.length_take, Nat.min_eq_left hk] at hl2
    refine T.seq ?_
    refine T.seq ?_
    refine T.region ?_
    refine TL.cons rfl (V1.t (V1.move' z_C) ?_)
    refine TL.cons rfl (V1.t (V1.move' z_C) ?_)
    refine TL.cons rfl (V1.t (V1.lenSl ty_44 rfl) ?_)
    refine TL.cons rfl (T1.ltI_split rfl rfl (fun h6 => ?_) (fun h6 => ?_))
    ·
      obtain ⟨b, hy0⟩ : ∃ b, ns[k]? = some b := ⟨_, List.getElem?_eq_getElem (by omega)⟩
      have hb := h99 b (List.mem_of_getElem? hy0)
      refine TL.nil ?_
      refine T.cond_t rfl ?_
      refine T.skip ?_
      refine T.seq ?_
      refine T.block ?_
      refine T.seq ?_
      refine T.seq ?_
      refine T.region ?_
      refine TL.cons rfl (V1.t (V1.move' z_C) ?_)
      refine TL.cons rfl (V1.t (V1.move' z_C) ?_)
      refine TL.cons rfl (T1.eqI_split rfl rfl (fun h8 => ?_) (fun h8 => ?_))
      ·
        have hab : a = b := by rw [show i = k by omega, hy0] at hx0; exact (Option.some.inj hx0).symm
        refine TL.nil ?_
        refine T.cond_t rfl ?_
        refine T.exit ?_
        refine T.region ?_
        refine TL.cons rfl (V1.t (V1.move' z_C) ?_)
        refine TL.cons rfl (V1.t (V1.add (c := ((k + 1 : Nat) : Int)) rfl rfl (by rw [wrap_i64 _ (by omega) (by omega)]; omega)) ?_)
        refine TL.cons rfl (V1.t (V1.assign' z_C) ?_)
        refine TL.nil ?_
        exact ⟨(k + 1, s1, Ls1), Ls1 ++ G, _, (by simp only; omega), (.cons rfl (.cons rfl .nil)), (.cons rfl (.cons rfl (.cons rfl .nil))), z_A, ⟨rfl, by simp only; omega, by simp only; rw [LT1_take hy0, if_pos hab, List.append_nil]; exact hsl1⟩⟩
      ·
        have hab : a ≠ b := fun e_ => by subst e_; exact absurd (nd_at hnd hx0 hy0) (by omega)
        have hoa := own_len a
        have hda := dgN_len a
        have hdb := dgN_len b
        have hso : sOwn.length = 3 := rfl
        have hob := own_len b
        have hlk := lnk_len a e
        refine TL.nil ?_
        refine T.cond_f rfl ?_
        refine T.skip ?_
        refine T.seq ?_
        refine T.drawDet' mixed (by decide +kernel) ?_
        refine Det.cons 0 (ins := [(0, _)]) (.old z_C (by decide +kernel) .nil) (fun e_ => .inl ⟨rfl, V1.t (V1.move' z_C) ⟨rfl, rfl⟩⟩) ?_
        refine Det.cons 1 (ins := [(6, _)]) (.old z_C (by decide +kernel) .nil) (fun e_ => .inl ⟨rfl, V1.t (V1.move' z_C) ⟨rfl, rfl⟩⟩) ?_
        refine Det.cons 2 (ins := [(25, _), (26, _)]) (.new 0 1 (by decide +kernel) rfl rfl (.new 1 0 (by decide +kernel) rfl rfl .nil)) (fun e_ => .inl ⟨rfl, V1.t (V1.indexAddrS ty_44 sz_3 rfl rfl (by omega) (by omega)) ⟨rfl, rfl⟩⟩) ?_
        refine Det.cons 3 (ins := [(27, _)]) (.new 2 0 (by decide +kernel) rfl rfl .nil) (fun e_ => .inl ⟨rfl, V1.t (V1.load1 (v := iV a) one_3 rfl (show Rd _ _ ⟨_, _ + i * 1, none⟩ _ from by rw [Nat.mul_one]; exact hrd _ rfl rfl _ z_B i _ (by rw [List.getElem?_map, hx0]; rfl))) ⟨rfl, rfl⟩⟩) ?_
        refine Det.cons 4 (ins := [(28, _)]) (v := .string (bstr (dgN a))) (.new 3 0 (by decide +kernel) rfl rfl .nil) (fun e_ => .inl ⟨rfl, ?_⟩) ?_
        · refine T1.callV has_53 rfl rfl (digits_any w0 a ha) z_B (fun v_ hv => ?_)
          obtain rfl := hv
          exact ⟨rfl, rfl⟩
        refine Det.cons 5 (ins := [(29, _)]) (.new 4 0 (by decide +kernel) rfl rfl .nil) (fun e_ => .inl ⟨rfl, V1.t (V1.addSr (a := sOwn) (b := dgN a) rfl rfl (by (try simp only [List.length_append, List.length_cons, List.length_nil]); omega) rfl) ⟨rfl, rfl⟩⟩) ?_
        refine Det.cons 6 (ins := [(30, _)]) (.new 5 0 (by decide +kernel) rfl rfl .nil) (fun e_ => .inl ⟨rfl, V1.t (V1.addSr (a := sOwn ++ dgN a) (b := [120]) (r := nmb sOwn [a]) rfl rfl (by (try simp only [List.length_append, List.length_cons, List.length_nil]); omega) (nmb1 _ _)) ⟨rfl, rfl⟩⟩) ?_
        refine Det.cons 7 (ins := [(0, _)]) (.old z_C (by decide +kernel) .nil) (fun e_ => .inl ⟨rfl, V1.t (V1.move' z_C) ⟨rfl, rfl⟩⟩) ?_
        refine Det.cons 8 (ins := [(7, _)]) (.old z_C (by decide +kernel) .nil) (fun e_ => .inl ⟨rfl, V1.t (V1.move' z_C) ⟨rfl, rfl⟩⟩) ?_
        refine Det.cons 9 (ins := [(32, _), (33, _)]) (.new 7 1 (by decide +kernel) rfl rfl (.new 8 0 (by decide +kernel) rfl rfl .nil)) (fun e_ => .inl ⟨rfl, V1.t (V1.indexAddrS ty_44 sz_3 rfl rfl (by omega) (by omega)) ⟨rfl, rfl⟩⟩) ?_
        refine Det.cons 10 (ins := [(34, _)]) (.new 9 0 (by decide +kernel) rfl rfl .nil) (fun e_ => .inl ⟨rfl, V1.t (V1.load1 (v := iV b) one_3 rfl (show Rd _ _ ⟨_, _ + k * 1, none⟩ _ from by rw [Nat.mul_one]; exact hrd _ rfl rfl _ z_B k _ (by rw [List.getElem?_map, hy0]; rfl))) ⟨rfl, rfl⟩⟩) ?_
        refine Det.cons 11 (ins := [(35, _)]) (v := .string (bstr (dgN b))) (.new 10 0 (by decide +kernel) rfl rfl .nil) (fun e_ => .inl ⟨rfl, ?_⟩) ?_
        · refine T1.callV has_53 rfl rfl (digits_any w0 b hb) z_B (fun v_ hv => ?_)
          obtain rfl := hv
          exact ⟨rfl, rfl⟩
        refine Det.cons 12 (ins := [(36, _)]) (.new 11 0 (by decide +kernel) rfl rfl .nil) (fun e_ => .inl ⟨rfl, V1.t (V1.addSr (a := sOwn) (b := dgN b) rfl rfl (by (try simp only [List.length_append, List.length_cons, List.length_nil]); omega) rfl) ⟨rfl, rfl⟩⟩) ?_
        refine Det.cons 13 (ins := [(37, _)]) (.new 12 0 (by decide +kernel) rfl rfl .nil) (fun e_ => .inl ⟨rfl, V1.t (V1.addSr (a := sOwn ++ dgN b) (b := [120]) (r := nmb sOwn [b]) rfl rfl (by (try simp only [List.length_append, List.length_cons, List.length_nil]); omega) (nmb1 _ _)) ⟨rfl, rfl⟩⟩) ?_
        refine Det.cons 14 (ins := [(31, _)]) (.new 6 7 (by decide +kernel) rfl rfl .nil) (fun e_ => .inl ⟨rfl, V1.t (V1.assign' z_C) ⟨rfl, rfl⟩⟩) ?_
        refine Det.cons 15 (ins := [(38, _)]) (.new 13 1 (by decide +kernel) rfl rfl .nil) (fun e_ => .inl ⟨rfl, V1.t (V1.assign' z_C) ⟨rfl, rfl⟩⟩) ?_
        refine Det.nil 16 (l := [(0, _), (1, _), (5, _), (6, _), (7, _), (8, _), (9, _)]) (.old z_C (by decide +kernel) (.old z_C (by decide +kernel) (.old z_C (by decide +kernel) (.old z_C (by decide +kernel) (.old z_C (by decide +kernel) (.new 14 1 (by decide +kernel) rfl rfl (.new 15 0 (by decide +kernel) rfl rfl .nil))))))) (fun e_ => ?_)
        refine T.region ?_
        refine TL.cons rfl (V1.t (V1.move' z_C) ?_)
        refine TL.cons rfl (V1.t (V1.move' z_C) ?_)
        refine TL.cons rfl (V1.t (V1.addSr (a := [115, 40, 104, 112, 97, 105, 114, 40, 126, 40]) (b := nmb sOwn [a]) rfl rfl (by (try simp only [List.length_append, List.length_cons, List.length_nil]); omega) rfl) ?_)
        refine TL.cons rfl (V1.t (V1.addSr (b := [44, 94, 40]) rfl rfl (by (try simp only [List.length_append, List.length_cons, List.length_nil]); omega) rfl) ?_)
        refine TL.cons rfl (V1.t (V1.move' z_C) ?_)
        refine TL.cons rfl (V1.t (V1.addSr rfl rfl (by (try simp only [List.length_append, List.length_cons, List.length_nil]); omega) rfl) ?_)
        refine TL.cons rfl (V1.t (V1.addSr (b := [41, 41, 41, 44, 103, 40]) rfl rfl (by (try simp only [List.length_append, List.length_cons, List.length_nil]); omega) rfl) ?_)
        refine TL.cons rfl (V1.t (V1.move' z_C) ?_)
        refine TL.cons rfl (V1.t (V1.addSr rfl rfl (by (try simp only [List.length_append, List.length_cons, List.length_nil]); omega) rfl) ?_)
        refine TL.cons rfl (V1.t (V1.addSr (b := [44]) rfl rfl (by (try simp only [List.length_append, List.length_cons, List.length_nil]); omega) rfl) ?_)
        refine TL.cons rfl (V1.t (V1.move' z_C) ?_)
        refine TL.cons rfl (V1.t (V1.move' z_C) ?_)
        refine TL.cons rfl (V1.t (V1.indexAddrS ty_44 sz_3 rfl rfl (by omega) (by omega)) ?_)
        refine TL.cons rfl (V1.t (V1.load1 (v := iV a) one_3 rfl (show Rd _ _ ⟨_, _ + i * 1, none⟩ _ from by rw [Nat.mul_one]; exact hrd _ rfl rfl _ z_B i _ (by rw [List.getElem?_map, hx0]; rfl))) ?_)
        refine TL.cons rfl (V1.t (V1.move' z_C) ?_)
        refine TL.cons rfl (T1.callV has_56 rfl rfl (rlink_any w0 a e ha he) z_B (fun v_ hv => ?_))
        obtain rfl := hv
        refine TL.cons rfl (V1.t (V1.addSr rfl rfl (by (try simp only [List.length_append, List.length_cons, List.length_nil]); omega) rfl) ?_)
        refine TL.cons rfl (V1.t (V1.addSr (b := [41, 41]) (r := txt (letterT a b e)) rfl rfl (by (try simp only [List.length_append, List.length_cons, List.length_nil]); omega) (txt_letter _ _ _).symm) ?_)
        refine TL.cons rfl (T1.buildSl1 (os := [.tmp 56]) ty_50 sz_9 zr_9 (by decide) rfl (.cons (v := kV (letterT a b e)) rfl .nil) rfl (ones rfl) (fun b57 => ?_))
        refine TL.cons rfl (T1.append ty_50 kd_50 sz_9 by_9 zr_9 rfl (by decide) (by decide) rfl rfl hsl1 (.sl (vs := [kV (letterT a b e)]) (RdN.at0 z_D) (by rfl)) (ones rfl) 1000 (by rw [List.length_map, List.length_append]; show _ + 1 ≤ _; omega) (by decide) z_E (fun s2 Ls2 hsl2 => ?_))
        refine TL.cons rfl (V1.t (V1.assign' z_C) ?_)
        refine TL.nil ?_
        refine T.live (l := [(0, _), (1, _), (5, _), (6, _), (7, _)]) (.cons z_C (.cons z_C (.cons z_C (.cons z_C (.cons z_C .nil))))) (fun e_ => ?_)
        refine T.region ?_
        refine TL.cons rfl (V1.t (V1.move' z_C) ?_)
        refine TL.cons rfl (V1.t (V1.add (c := ((k + 1 : Nat) : Int)) rfl rfl (by rw [wrap_i64 _ (by omega) (by omega)]; omega)) ?_)
        refine TL.cons rfl (V1.t (V1.assign' z_C) ?_)
        refine TL.nil ?_
        exact ⟨(k + 1, s2, Ls2), Ls2 ++ G, _, (by simp only; omega), (.cons rfl (.cons rfl .nil)), (.cons rfl (.cons rfl (.cons rfl .nil))), z_A, ⟨rfl, by simp only; omega, by simp only; rw [LT1_take hy0, if_neg hab, ← List.append_assoc, List.map_append]; exact hsl2⟩⟩
    ·
      obtain rfl : k = ns.length := by omega
      rw [List.take_length] at hsl1
      refine TL.nil ?_
      refine T.cond_f rfl ?_
      refine T.exit ?_
      refine T.region ?_
      refine TL.cons rfl (V1.t (V1.move' z_C) ?_)
      refine TL.cons rfl (V1.t (V1.add (c := ((i + 1 : Nat) : Int)) rfl rfl (by rw [wrap_i64 _ (by omega) (by omega)]; omega)) ?_)
      refine TL.cons rfl (V1.t (V1.assign' z_C) ?_)
      refine TL.nil ?_
      exact ⟨(i + 1, s1, Ls1), Ls1 ++ G, _, (by simp only; omega), (.cons rfl (.cons rfl .nil)), (.cons rfl (.cons rfl .nil)), z_A, ⟨rfl, by simp only; omega, by simp only; rw [LT_take hx0]; exact hsl1⟩⟩
  ·
    obtain rfl : i = ns.length := by omega
    rw [List.take_length] at hsl
    refine TL.nil ?_
    refine T.cond_f rfl ?_
    refine T.exit ?_
    refine T.seq ?_
    refine T.region ?_
    refine TL.cons rfl (V1.t (V1.move' z_C) ?_)
    refine TL.cons rfl (V1.t (V1.assign' z_C) ?_)
    refine TL.nil ?_
    refine T.ret ?_
    exact ⟨_, Ls ++ G, _, .cons (.tmp z_C) .nil, z_A, Ls, rfl, hsl⟩

theorem letters_any (w0 : World) (Ps : List Blk) {v0 : Value} {ns : List Nat} (hr : RowR w0 Ps 1 v0 ns.length (ns.map iV)) (hn6 : ns.length ≤ 6) (h99 : ∀ n ∈ ns, n < 100) (hnd : ns.Nodup) (e : Nat) (he : e < 100) : FnG P 55 [v0, iV e] w0 Ps [] (fun v Y => Sl v ((letters ns e).map kV) 1 Y) := by
  obtain ⟨a, c, rfl⟩ := hr.form
  exact letters_us w0 Ps hr hn6 h99 hnd e he
end Go.Proofs.YtlpkcbkflfbclaaGreatDoor.S
