/- A term as a text, as the program has it and as the document has it. -/
import Derived.Test.YtlpkcbkflfbclaaGreatDoorB1
import Derived.Test.YtlpkcbkflfbclaaGreatDoorT2
namespace Go.Proofs.YtlpkcbkflfbclaaGreatDoor.S
open Go.RowKit

/-- Texts with commas between. -/
def joinC : List (List UInt8) → List UInt8
  | [] => []
  | a :: l => a ++ l.flatMap fun x => 44 :: x
theorem joinC_snoc (l : List (List UInt8)) (a : List UInt8) : joinC (l ++ [a]) = if l = [] then a else joinC l ++ ([44] ++ a) := by
  cases l with
  | nil => simp [joinC]
  | cons b l => simp [joinC, List.flatMap_append]
/-- The letter of a kind. -/
def sgN (n : Nat) : UInt8 := if n = 2 then 112 else if n = 3 then 115 else if n = 4 then 104 else if n = 5 then 94 else if n = 6 then 61 else if n = 7 then 126 else 103
def sSigns : ByteArray := ⟨#[32, 46, 112, 115, 104, 94, 61, 126, 103]⟩
theorem sgN_at : ∀ n < 9, 1 < n → sSigns[((n : Nat) : Int).toNat]? = some (sgN n) := by decide +kernel
mutual
/-- A term's text. -/
def txt : Tm → List UInt8
  | .mk k n ts => if k = 1 then n else sgN k.toNat :: ((if k = 4 then n else []) ++ (40 :: (joinC (txtM ts) ++ [41])))
def txtM : List Tm → List (List UInt8)
  | [] => []
  | t :: ts => txt t :: txtM ts
end
theorem txtM_map (ts : List Tm) : txtM ts = ts.map txt := by
  induction ts with
  | nil => rfl
  | cons t ts ih => rw [txtM, ih]; rfl
theorem txtM_take {ts : List Tm} {i : Nat} {x : Tm} (h : ts[i]? = some x) : txtM (ts.take (i + 1)) = txtM (ts.take i) ++ [txt x] := by
  rw [txtM_map, txtM_map, List.take_add_one, h]; simp
theorem joinC_len : ∀ l : List (List UInt8), (joinC l).length ≤ (l.map fun x => x.length + 1).sum
  | [] => by simp [joinC]
  | a :: l => by
    have h : (l.flatMap fun x => 44 :: x).length = (l.map fun x => x.length + 1).sum := by rw [List.length_flatMap]; rfl
    rw [joinC, List.length_append, h, List.map_cons, List.sum_cons]; omega
theorem named_len {n : List UInt8} (h : named n = true) : 0 < n.length ∧ n.length ≤ 20 := by
  unfold named at h
  simp only [Bool.and_eq_true, decide_eq_true_iff] at h
  refine ⟨List.length_pos_iff.2 fun e => ?_, h.1.2⟩
  rw [e] at h; simp at h
theorem txt_len (t : Tm) : shp t = true → (txt t).length ≤ 30 * t.size := by
  induction t using Tm.ind with
  | h k n ts ih =>
    intro hs
    obtain ⟨h1, h2⟩ := shp_mk.1 hs
    have hk := headOk_kinds h1
    rw [txt, Tm.size]
    have hL : ∀ us : List Tm, (∀ x ∈ us, (txt x).length ≤ 30 * x.size) → ((txtM us).map fun x => x.length + 1).sum ≤ 30 * tsize us + us.length := by
      intro us
      induction us with
      | nil => intro _; simp [txtM, tsize]
      | cons a us iha =>
        intro h
        have := iha fun x hx => h x (by simp [hx])
        have := h a (by simp)
        rw [txtM, tsize, List.map_cons, List.sum_cons, List.length_cons]; omega
    have h3 := hL ts fun x hx => ih x hx (h2 x hx)
    have h4 := joinC_len (txtM ts)
    have h5 := headOk_le4 h1
    split
    · subst_vars; have := (named_len (headOk_one h1).2).2; omega
    · rw [List.length_cons, List.length_append, List.length_cons, List.length_append, List.length_singleton]
      split
      · subst_vars; have := (named_len (headOk_four h1).2.2).2; omega
      · simp only [List.length_nil]; omega
theorem join_le {ts : List Tm} {i : Nat} {x : Tm} (h : ts[i]? = some x) : (joinC (txtM (ts.take i))).length + (txt x).length + (if i = 0 then 0 else 1) ≤ (joinC (txtM ts)).length := by
  have hi := (List.getElem?_eq_some_iff.1 h).1
  have h1 : joinC (txtM (ts.take (i + 1))) = if txtM (ts.take i) = [] then txt x else joinC (txtM (ts.take i)) ++ ([44] ++ txt x) := by rw [txtM_take h, joinC_snoc]
  have h2 : (joinC (txtM (ts.take (i + 1)))).length ≤ (joinC (txtM ts)).length := by
    have key : ∀ (l m : List (List UInt8)), (joinC l).length ≤ (joinC (l ++ m)).length := by
      intro l m
      cases l with
      | nil => simp [joinC]
      | cons a l => simp only [joinC, List.cons_append, List.flatMap_append, List.length_append]; omega
    have := key (txtM (ts.take (i + 1))) (txtM (ts.drop (i + 1)))
    rwa [txtM_map, txtM_map, ← List.map_append, List.take_append_drop, ← txtM_map, ← txtM_map] at this
  have h3 : txtM (ts.take i) = [] ↔ i = 0 := by
    rw [txtM_map, List.map_eq_nil_iff, List.take_eq_nil_iff]
    constructor
    · rintro (h | h)
      · exact h
      · subst h; simp at hi
    · exact .inl
  rw [h1] at h2
  by_cases h0 : i = 0
  · subst h0
    rw [if_pos (h3.2 rfl)] at h2
    have h5 : (joinC (txtM (ts.take 0))).length = 0 := rfl
    rw [if_pos rfl]; omega
  · rw [if_neg (fun h => h0 (h3.1 h))] at h2
    rw [if_neg h0]
    simp only [List.length_append, List.length_singleton] at h2; omega

set_option maxRecDepth 100000 in
set_option maxHeartbeats 8000000 in
theorem WriteStr_any (w0 : World) (b : Nat) (l m : List UInt8) (X : List Blk) (hb : BB b l X) (hl : l.length + m.length < 199999999999999) (hne : l ++ m ≠ []) : FnX P 72 [.pointer (some ⟨b, 0, none⟩), .string (bstr m)] w0 [] X (fun _ Y => BB b (l ++ m) Y) := by
  obtain ⟨p, s, Ls, hp, rfl, hsl, _⟩ := hb
  refine FnX.of 19 [.tmp 4, .tmp 5] Go.Proofs.Tryz.func72 rfl rfl rfl rfl (fun G => ?_)
  simp only [List.cons_append]
  refine T.seq ?_
  refine T.region ?_
  refine TL.cons rfl (V1.t (V1.assign' z_D) ?_)
  refine TL.cons rfl (V1.t (V1.assign' z_D) ?_)
  refine TL.nil ?_
  refine T.seq ?_
  refine T.region ?_
  refine TL.cons rfl (V1.t (V1.move' z_D) ?_)
  refine TL.cons rfl (T1.callX (X := [⟨⟨b, some 83⟩, 0, [p, s], 2⟩]) has_101 rfl (copyCheck_any _ b p s hp) z_A (fun v Y hY => ?_))
  subst hY
  simp only [List.cons_append, List.nil_append]
  refine TL.nil ?_
  refine T.seq ?_
  refine T.region ?_
  refine TL.cons rfl (V1.t (V1.move' z_D) ?_)
  refine TL.cons rfl (V1.t (V1.move' z_D) ?_)
  refine TL.cons rfl (V1.t (V1.nilCheck rfl) ?_)
  refine TL.cons rfl (V1.t (V1.fieldAddr fl_83_1 rfl) ?_)
  refine TL.cons rfl (V1.t (V1.load1 one_81 rfl (.own z_C (by rfl))) ?_)
  refine TL.cons rfl (V1.t (V1.move' z_D) ?_)
  refine TL.cons rfl (T1.appendG ty_81 kd_9 sz_5 by_5 zr_5 rfl (by decide) (by decide) rfl rfl (.inr rfl) hsl (.str (s := bstr m) rfl) (one_bytes m) 200000000000000 (by simp only [List.length_map]; show l.length + m.length ≤ _; omega) (by omega) z_B (fun s1 Ls1 hs1 => ?_))
  replace hs1 : SlG (some 5) s1 ((l ++ m).map byteV) 1 Ls1 := by rw [List.map_append]; exact hs1
  refine TL.cons rfl (V1.t (V1.nilCheck rfl) ?_)
  refine TL.cons rfl (V1.t (V1.fieldAddr fl_83_1 rfl) ?_)
  refine TL.cons rfl (T1.store1 rfl rfl sz_81 hs1.one z_G (Nat.zero_le _) z_H ?_)
  refine TL.nil ?_
  refine T.seq ?_
  refine T.region ?_
  refine TL.cons rfl (V1.t (V1.move' z_D) ?_)
  refine TL.cons rfl (V1.t (V1.lenS ty_9 rfl) ?_)
  refine TL.cons rfl (V1.t (V1.assign' z_D) ?_)
  refine TL.cons rfl (V1.t (V1.assign' z_D) ?_)
  refine TL.nil ?_
  refine T.ret ?_
  exact ⟨_, ⟨⟨b, some 83⟩, 0, [.pointer (some ⟨b, 0, none⟩), s1], 2⟩ :: (Ls1 ++ G), _, .cons (.tmp z_D) (.cons (.tmp z_D) .nil), z_A, ⟨⟨b, some 83⟩, 0, [.pointer (some ⟨b, 0, none⟩), s1], 2⟩ :: Ls1, by rw [List.cons_append], _, _, _, .inr rfl, rfl, hs1, fun h => absurd h hne⟩

def WriteAt (w0 : World) (x : Tm) : Prop := ∀ (Ps : List Blk) (cx : List Value), TmR w0 Ps x cx → shp x = true → ∀ (b : Nat) (l : List UInt8) (X : List Blk), BB b l X → l.length + (txt x).length < 100000000000000 → FnG P 38 [.agg cx.toArray, .pointer (some ⟨b, 0, none⟩)] w0 Ps X (fun _ Y => BB b (l ++ txt x) Y)
theorem txtM_nil {ts : List Tm} {i : Nat} (h : ((i : Nat) : Int) ≤ 0) : txtM (ts.take i) = [] := by rw [show i = 0 by omega]; rfl
theorem txtM_ne {ts : List Tm} {i : Nat} (h : ((i : Nat) : Int) > 0) (hi : i ≤ ts.length) : txtM (ts.take i) ≠ [] := by
  rw [txtM_map]
  intro e
  have := congrArg List.length e
  rw [List.length_map, List.length_take, List.length_nil] at this; omega
set_option maxRecDepth 100000 in
set_option maxHeartbeats 8000000 in
theorem write_step (w0 : World) (Ps : List Blk) {k : Int} {nm : List UInt8} {ts : List Tm} (ih : ∀ x ∈ ts, WriteAt w0 x) (cx : List Value) (hx_ : TmR w0 Ps (.mk k nm ts) cx) (hsh : shp (.mk k nm ts) = true) (b : Nat) (l : List UInt8) (X : List Blk) (hX : BB b l X) (hlen : l.length + (txt (.mk k nm ts)).length < 100000000000000) : FnG P 38 [.agg cx.toArray, .pointer (some ⟨b, 0, none⟩)] w0 Ps X (fun _ Y => BB b (l ++ txt (.mk k nm ts)) Y) := by
  obtain ⟨a, c, vs, rfl, hr, hl_, ht⟩ := hx_.inv
  have hl4 := headOk_le4 (shp_mk.1 hsh).1
  refine FnG.of 53 [] Go.Proofs.Tryz.func38 rfl rfl rfl rfl (fun G hG => ?_)
  refine T.seq ?_
  refine T.region ?_
  refine TL.cons rfl (T1.boxN 3 rfl rfl (fun b2 => ?_))
  refine TL.nil ?_
  refine T.seq ?_
  refine T.seq ?_
  refine T.region ?_
  refine TL.cons rfl (V1.t (V1.fieldAddr fl_24_0 rfl) ?_)
  refine TL.cons rfl (V1.t (V1.load1 (v := .int .i64 k) one_3 rfl (.own (cells := [.int .i64 k, .string (bstr nm), .slice a ts.length c]) z_C (by rfl))) ?_)
  refine TL.cons rfl (T1.eqI_split rfl rfl (fun h1 => ?_) (fun h1 => ?_))
  ·
    subst h1
    have hnm := named_len (headOk_one (shp_mk.1 hsh).1).2
    have htx : txt (.mk 1 nm ts) = nm := by rw [txt, if_pos rfl]
    rw [htx] at hlen ⊢
    refine TL.nil ?_
    refine T.cond_t rfl ?_
    refine T.seq ?_
    refine T.region ?_
    refine TL.cons rfl (V1.t (V1.move' z_D) ?_)
    refine TL.cons rfl (V1.t (V1.fieldAddr fl_24_1 rfl) ?_)
    refine TL.cons rfl (V1.t (V1.load1 one_9 rfl (.own z_C (by rfl))) ?_)
    refine TL.cons rfl (T1.callX (X := X) has_72 rfl (WriteStr_any w0 b (l) nm X hX (by omega) (fun h => by have := congrArg List.length h; simp only [List.length_append, List.length_nil] at this; omega)) z_A (fun v_ Y hY => ?_))
    refine TL.nil ?_
    refine T.ret ?_
    exact ⟨_, Y ++ G, _, .nil, z_A, Y, rfl, hY⟩
  ·
    have hk := headOk_kinds (shp_mk.1 hsh).1
    obtain ⟨n, rfl⟩ : ∃ n : Nat, k = n := ⟨k.toNat, by omega⟩
    have htx : txt (.mk (n : Int) nm ts) = sgN n :: ((if (n : Int) = 4 then nm else []) ++ (40 :: (joinC (txtM ts) ++ [41]))) := by rw [txt, if_neg h1, Int.toNat_natCast]
    rw [htx] at hlen ⊢
    simp only [List.length_cons, List.length_append, List.length_nil] at hlen
    refine TL.nil ?_
    refine T.cond_f rfl ?_
    refine T.skip ?_
    refine T.seq ?_
    refine T.seq ?_
    refine T.region ?_
    refine TL.cons rfl (V1.t (V1.fieldAddr fl_24_0 rfl) ?_)
    refine TL.cons rfl (V1.t (V1.load1 one_3 rfl (.own z_C (by rfl))) ?_)
    refine TL.cons rfl (V1.t (V1.gtI (r := true) rfl rfl (decide_eq_true (by omega))) ?_)
    refine TL.cons rfl (V1.t (V1.move' z_D) ?_)
    refine TL.cons rfl (V1.t (V1.fieldAddr fl_24_0 rfl) ?_)
    refine TL.cons rfl (V1.t (V1.load1 one_3 rfl (.own z_C (by rfl))) ?_)
    refine TL.cons rfl (V1.t (V1.ltI (r := true) rfl rfl (decide_eq_true (by omega))) ?_)
    refine TL.cons rfl (V1.t (V1.pick rfl z_D) ?_)
    refine TL.nil ?_
    refine T.cond_t rfl ?_
    refine T.region ?_
    refine TL.cons rfl (V1.t (V1.move' z_D) ?_)
    refine TL.cons rfl (V1.t (V1.fieldAddr fl_24_0 rfl) ?_)
    refine TL.cons rfl (V1.t (V1.load1 one_3 rfl (.own z_C (by rfl))) ?_)
    refine TL.cons rfl (V1.t (V1.indexStr (s := sSigns) (c := sgN n) ty_9 rfl rfl (by omega) (sgN_at n (by omega) (by omega))) ?_)
    refine TL.cons rfl (T1.callX (X := X) has_73 rfl (WriteByte_any w0 b (l) (sgN n) X hX (by first | omega | (simp only [List.length_append, List.length_cons, List.length_nil]; omega))) z_A (fun v_ X1 hX1 => ?_))
    refine TL.nil ?_
    refine T.cut (σ := List Blk × List UInt8) (l0 := [(1, _), (2, _)]) (fun x => []) (fun x L => L = x.1 ++ (⟨b2, 0, [.int .i64 (n : Nat), .string (bstr nm), .slice a ts.length c], 3⟩ :: G) ∧ BB b x.2 x.1 ∧ x.2 = l ++ (sgN n :: (if (n : Int) = 4 then nm else []))) (.cons z_D (.cons z_D .nil)) ?_ ?_
    ·
      refine T.seq ?_
      refine T.live (l := [(1, _), (2, _)]) (.cons z_D (.cons z_D .nil)) (fun e_ => ?_)
      refine T.region ?_
      refine TL.cons rfl (V1.t (V1.fieldAddr fl_24_0 rfl) ?_)
      refine TL.cons rfl (V1.t (V1.load1 one_3 rfl (.own z_C (by rfl))) ?_)
      refine TL.cons rfl (T1.eqI_split rfl rfl (fun h5 => ?_) (fun h5 => ?_))
      ·
        refine TL.nil ?_
        refine T.cond_t rfl ?_
        refine T.region ?_
        refine TL.cons rfl (V1.t (V1.move' z_D) ?_)
        refine TL.cons rfl (V1.t (V1.fieldAddr fl_24_1 rfl) ?_)
        refine TL.cons rfl (V1.t (V1.load1 one_9 rfl (.own z_C (by rfl))) ?_)
        refine TL.cons rfl (T1.callX (X := X1) has_72 rfl (WriteStr_any w0 b (l ++ [sgN n]) nm X1 hX1 (by rw [if_pos h5] at hlen; rw [List.length_append, List.length_singleton]; omega) (by simp)) z_A (fun v_ X2 hX2 => ?_))
        refine TL.nil ?_
        exact ⟨(X2, _), X2 ++ (⟨b2, 0, [.int .i64 (n : Nat), .string (bstr nm), .slice a ts.length c], 3⟩ :: G), _, trivial, .nil, (.cons rfl (.cons rfl .nil)), z_A, ⟨rfl, hX2, by rw [if_pos h5]; simp⟩⟩
      ·
        refine TL.nil ?_
        refine T.cond_f rfl ?_
        refine T.skip ?_
        exact ⟨(X1, _), X1 ++ (⟨b2, 0, [.int .i64 (n : Nat), .string (bstr nm), .slice a ts.length c], 3⟩ :: G), _, trivial, .nil, (.cons rfl (.cons rfl .nil)), z_A, ⟨rfl, hX1, by rw [if_neg h5]⟩⟩
    ·
      rintro ⟨X3, l3⟩ e_ L ⟨rfl, hX3, hl3⟩
      simp only at hX3 hl3
      have hl3n : l3.length = l.length + 1 + (if (n : Int) = 4 then nm else []).length := by rw [hl3, List.length_append, List.length_cons]; omega
      refine T.seq ?_
      refine T.live (l := [(1, _), (2, _)]) (.cons z_D (.cons z_D .nil)) (fun e_ => ?_)
      refine T.region ?_
      refine TL.cons rfl (V1.t (V1.move' z_D) ?_)
      refine TL.cons rfl (T1.callX (X := X3) has_73 rfl (WriteByte_any w0 b l3 40 X3 hX3 (by omega)) z_A (fun v_ X4 hX4 => ?_))
      refine TL.nil ?_
      refine T.seq ?_
      refine T.seq ?_
      refine T.region ?_
      refine TL.cons rfl (V1.t (V1.fieldAddr fl_24_2 rfl) ?_)
      refine TL.cons rfl (V1.t (V1.load1 (v := .slice a ts.length c) one_22 rfl (.own (cells := [.int .i64 (n : Nat), .string (bstr nm), .slice a ts.length c]) z_C (by rfl))) ?_)
      refine TL.cons rfl (V1.t (V1.lenSl ty_22 rfl) ?_)
      refine TL.cons rfl (V1.t (V1.move' z_D) ?_)
      refine TL.nil ?_
      refine T.block ?_
      refine T.loopL (σ := Nat) (l0 := [(1, _), (36, _), (37, _)]) (fun x => [(38, .int .i64 (x : Nat))]) (fun i L => ∃ X5, L = X5 ++ G ∧ i ≤ ts.length ∧ BB b (l3 ++ [40] ++ joinC (txtM (ts.take i))) X5) (fun i => ts.length - i) 0 (.cons rfl .nil) (.cons z_D (.cons z_D (.cons z_D .nil))) z_A (⟨X4, rfl, Nat.zero_le _, by simpa [txtM, joinC] using hX4⟩) ?_
      rintro i e_ L ⟨X5, rfl, hi, hX5⟩
      refine T.seq ?_
      refine T.region ?_
      refine TL.cons rfl (T1.ltI_split rfl rfl (fun h9 => ?_) (fun h9 => ?_))
      ·
        obtain ⟨x, hx0⟩ : ∃ x, ts[i]? = some x := ⟨_, List.getElem?_eq_getElem (by omega)⟩
        have hcx := ih x (List.mem_of_getElem? hx0)
        have hsx := (shp_mk.1 hsh).2 x (List.mem_of_getElem? hx0)
        have hjl := join_le hx0
        obtain ⟨bx, ox, cs_, rfl, hx, hrdx⟩ := hr.term ht hx0 P
        obtain ⟨kx, nx, asx⟩ := x
        obtain ⟨ax, cx, vsx, rfl, hrx, hlx, htx⟩ := hx.inv
        try simp only at *
        refine TL.nil ?_
        refine T.seq ?_
        refine T.cond_t rfl ?_
        refine T.skip ?_
        refine T.seq ?_
        refine T.block ?_
        refine T.seq ?_
        refine T.region ?_
        refine TL.cons rfl (V1.t (V1.move' z_D) ?_)
        refine TL.cons rfl (V1.t (V1.indexAddrS ty_22 sz_24 rfl rfl (by omega) (by omega)) ?_)
        refine TL.cons rfl (V1.t (V1.loadN (vs := [.int .i64 kx, .string (bstr nx), .slice ax asx.length cx]) one_24 sz_24 rfl (hrdx _ rfl rfl _ z_E) rfl) ?_)
        refine TL.cons rfl (T1.allocN 3 zr_24 rfl (fun b5 => ?_))
        refine TL.cons rfl (V1.t (V1.assign' z_D) ?_)
        refine TL.cons rfl (T1.storeN rfl rfl sz_24 (ones rfl) z_G (by rfl) (by rfl) ?_)
        refine TL.nil ?_
        refine T.seq ?_
        refine T.seq ?_
        refine T.region ?_
        refine TL.cons rfl (V1.t (V1.move' z_D) ?_)
        refine TL.cons rfl (T1.gtI_split rfl rfl (fun h11 => ?_) (fun h11 => ?_))
        ·
          rw [if_neg (by omega)] at hjl
          refine TL.nil ?_
          refine T.cond_t rfl ?_
          refine T.region ?_
          refine TL.cons rfl (V1.t (V1.move' z_D) ?_)
          refine TL.cons rfl (T1.callX (X := X5) has_73 rfl (WriteByte_any w0 b (l3 ++ [40] ++ joinC (txtM (ts.take i))) 44 X5 hX5 (by simp only [List.length_append, List.length_singleton]; omega)) z_A (fun v_ X6 hX6 => ?_))
          refine TL.nil ?_
          refine T.region ?_
          refine TL.cons rfl (V1.t (V1.loadN one_24 sz_24 rfl (RdN.whole z_C) (by rfl)) ?_)
          refine TL.cons rfl (V1.t (V1.move' z_D) ?_)
          refine TL.cons rfl (T1.callM (X := X6) has_38 rfl rfl (hcx Ps _ hx hsx b (l3 ++ [40] ++ joinC (txtM (ts.take i)) ++ [44]) X6 hX6 (by simp only [List.length_append, List.length_singleton]; omega)) z_A z_E (fun v_ X7 hX7 => ?_))
          refine TL.nil ?_
          refine T.region ?_
          refine TL.cons rfl (V1.t (V1.add (c := ((i + 1 : Nat) : Int)) rfl rfl (by rw [wrap_i64 _ (by omega) (by omega)]; omega)) ?_)
          refine TL.cons rfl (V1.t (V1.move' z_D) ?_)
          refine TL.nil ?_
          exact ⟨i + 1, X7 ++ G, _, (by simp only; omega), (.cons rfl .nil), (.cons rfl (.cons rfl (.cons rfl .nil))), z_A, ⟨X7, rfl, by omega, by rw [txtM_take hx0, joinC_snoc, if_neg (txtM_ne h11 hi)]; simpa using hX7⟩⟩
        ·
          rw [if_pos (by omega)] at hjl
          refine TL.nil ?_
          refine T.cond_f rfl ?_
          refine T.skip ?_
          refine T.region ?_
          refine TL.cons rfl (V1.t (V1.loadN one_24 sz_24 rfl (RdN.whole z_C) (by rfl)) ?_)
          refine TL.cons rfl (V1.t (V1.move' z_D) ?_)
          refine TL.cons rfl (T1.callM (X := X5) has_38 rfl rfl (hcx Ps _ hx hsx b (l3 ++ [40] ++ joinC (txtM (ts.take i))) X5 hX5 (by simp only [List.length_append, List.length_singleton]; omega)) z_A z_E (fun v_ X7 hX7 => ?_))
          refine TL.nil ?_
          refine T.region ?_
          refine TL.cons rfl (V1.t (V1.add (c := ((i + 1 : Nat) : Int)) rfl rfl (by rw [wrap_i64 _ (by omega) (by omega)]; omega)) ?_)
          refine TL.cons rfl (V1.t (V1.move' z_D) ?_)
          refine TL.nil ?_
          exact ⟨i + 1, X7 ++ G, _, (by simp only; omega), (.cons rfl .nil), (.cons rfl (.cons rfl (.cons rfl .nil))), z_A, ⟨X7, rfl, by omega, by rw [txtM_take hx0, joinC_snoc, if_pos (txtM_nil h11)]; rw [txtM_nil h11] at hX7; simpa [joinC] using hX7⟩⟩
      ·
        obtain rfl : i = ts.length := by omega
        rw [List.take_length] at hX5
        refine TL.nil ?_
        refine T.seq ?_
        refine T.cond_f rfl ?_
        refine T.exit ?_
        refine T.region ?_
        refine TL.cons rfl (V1.t (V1.move' z_D) ?_)
        refine TL.cons rfl (T1.callX (X := X5) has_73 rfl (WriteByte_any w0 b (l3 ++ [40] ++ joinC (txtM ts)) 41 X5 hX5 (by simp only [List.length_append, List.length_singleton]; omega)) z_A (fun v_ X6 hX6 => ?_))
        refine TL.nil ?_
        -- the end
        exact ⟨_, X6 ++ G, _, .nil, z_A, X6, rfl, by rw [hl3] at hX6; simpa using hX6⟩

theorem write_any (w0 : World) (x : Tm) : WriteAt w0 x := by
  induction x using Tm.ind with
  | h k n xs ih => exact fun Ps cx hx hs b l X hX hl => write_step w0 Ps ih cx hx hs b l X hX hl
set_option maxRecDepth 100000 in
set_option maxHeartbeats 8000000 in
theorem TString_us (w0 : World) (Ps : List Blk) {k : Int} {nm : List UInt8} {ts : List Tm} {cx : List Value} (hx_ : TmR w0 Ps (.mk k nm ts) cx) (hsh : shp (.mk k nm ts) = true) (hsz : (Tm.mk k nm ts).size ≤ 100000) : FnV P 14 [.agg cx.toArray] w0 Ps (fun v => v = .string (bstr (txt (.mk k nm ts)))) := by
  obtain ⟨a, c, vs, rfl, hr, hl_, ht⟩ := hx_.inv
  refine FnV.of 7 [.tmp 2] Go.Proofs.Tryz.func14 rfl rfl rfl rfl (fun G hG => ?_)
  refine T.seq ?_
  refine T.region ?_
  refine TL.cons rfl (T1.boxN 3 rfl rfl (fun b1 => ?_))
  refine TL.cons rfl (V1.t (V1.assign' z_D) ?_)
  refine TL.nil ?_
  refine T.seq ?_
  refine T.region ?_
  refine TL.cons rfl (T1.allocT 2 zr_83 rfl (fun b3 => ?_))
  refine TL.nil ?_
  refine T.seq ?_
  refine T.region ?_
  refine TL.cons rfl (V1.t (V1.loadN one_24 sz_24 rfl (RdN.whole z_C) (by rfl)) ?_)
  refine TL.cons rfl (T1.callM (X := [⟨⟨b3, some 83⟩, 0, [.pointer none, .slice none 0 0], 2⟩]) has_38 rfl rfl (write_any w0 (.mk k nm ts) Ps _ hx_ hsh b3 [] _ (BB.new b3) (by have := txt_len _ hsh; simp only [List.length_nil]; omega)) z_A z_E (fun v_ Y hY => ?_))
  rw [List.nil_append] at hY
  refine TL.nil ?_
  refine T.seq ?_
  refine T.region ?_
  refine TL.cons rfl (T1.callX (X := Y) has_39 rfl (String_any w0 b3 (txt (.mk k nm ts)) Y hY (by have := txt_len _ hsh; omega)) z_A (fun v_ Y2 hY2 => ?_))
  obtain ⟨rfl, rfl⟩ := hY2
  refine TL.cons rfl (V1.t (V1.assign' z_D) ?_)
  refine TL.nil ?_
  refine T.ret ?_
  exact ⟨_, G, _, .cons (.tmp z_D) .nil, z_A, rfl, rfl⟩

theorem TString_any (w0 : World) (Ps : List Blk) (x : Tm) {cx : List Value} (hx_ : TmR w0 Ps x cx) (hsh : shp x = true) (hsz : x.size ≤ 100000) : FnV P 14 [.agg cx.toArray] w0 Ps (fun v => v = .string (bstr (txt x))) := by
  obtain ⟨k, nm, ts⟩ := x
  exact TString_us w0 Ps hx_ hsh hsz
end Go.Proofs.YtlpkcbkflfbclaaGreatDoor.S
