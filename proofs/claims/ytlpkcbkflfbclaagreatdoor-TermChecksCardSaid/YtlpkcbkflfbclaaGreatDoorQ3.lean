/- A term's text, as the document has it. -/
import Derived.Test.YtlpkcbkflfbclaaGreatDoorQ2
namespace Go.Proofs.YtlpkcbkflfbclaaGreatDoor.S
open Go.RowKit

def TxAt (w0 : World) (x : Tm) : Prop := ∀ (Ps : List Blk) (cx : List Value), TmR w0 Ps x cx → shp x = true → x.size ≤ 2000 → FnV P 15 [.agg cx.toArray] w0 Ps (fun v => v = .string (bstr (txt x)))
theorem tx_step0 {hd : List UInt8} {ts : List Tm} {i : Nat} {x : Tm} (h : ts[i]? = some x) (h0 : i = 0) : (hd ++ joinC (txtM (ts.take i))) ++ txt x = hd ++ joinC (txtM (ts.take (i + 1))) := by
  subst h0
  rw [txtM_take h, joinC_snoc, if_pos (show txtM (ts.take 0) = [] from rfl)]
  show (hd ++ []) ++ txt x = _
  rw [List.append_nil]
theorem tx_step1 {hd : List UInt8} {ts : List Tm} {i : Nat} {x : Tm} (h : ts[i]? = some x) (h0 : ((i : Nat) : Int) > 0) (hi : i ≤ ts.length) : ((hd ++ joinC (txtM (ts.take i))) ++ [44]) ++ txt x = hd ++ joinC (txtM (ts.take (i + 1))) := by
  rw [txtM_take h, joinC_snoc, if_neg (txtM_ne h0 hi)]; simp

set_option maxRecDepth 100000 in
set_option maxHeartbeats 8000000 in
theorem Tx_step (w0 : World) (Ps : List Blk) {k : Int} {nm : List UInt8} {ts : List Tm} (ih : ∀ x ∈ ts, TxAt w0 x) (cx : List Value) (hx_ : TmR w0 Ps (.mk k nm ts) cx) (hsh : shp (.mk k nm ts) = true) (hsz : (Tm.mk k nm ts).size ≤ 2000) : FnV P 15 [.agg cx.toArray] w0 Ps (fun v => v = .string (bstr (txt (.mk k nm ts)))) := by
  obtain ⟨a, c, vs, rfl, hr, hl, ht⟩ := hx_.inv
  unfold maxN at hl
  refine FnV.of 52 [.tmp 2] Go.Proofs.Tryz.func15 rfl rfl rfl rfl (fun G hG => ?_)
  refine T.seq ?_
  refine T.region ?_
  refine TL.cons rfl (T1.boxN 3 rfl rfl (fun b1 => ?_))
  refine TL.cons rfl (V1.t (V1.assign' z_D) ?_)
  refine TL.nil ?_
  refine T.seq ?_
  refine T.seq ?_
  have hlen := txt_len (.mk k nm ts) hsh
  rw [Tm.size] at hsz hlen
  have hk8 : (k = 1 ∧ ts = [] ∧ named nm = true ∧ txt (.mk k nm ts) = nm) ∨ (k = 4 ∧ 0 < ts.length ∧ named nm = true ∧ txt (.mk k nm ts) = 104 :: (nm ++ (40 :: (joinC (txtM ts) ++ [41])))) ∨ (k = 2 ∧ nm = [] ∧ txt (.mk k nm ts) = sgN 2 :: 40 :: (joinC (txtM ts) ++ [41])) ∨ (k = 3 ∧ nm = [] ∧ txt (.mk k nm ts) = sgN 3 :: 40 :: (joinC (txtM ts) ++ [41])) ∨ (k = 5 ∧ nm = [] ∧ txt (.mk k nm ts) = sgN 5 :: 40 :: (joinC (txtM ts) ++ [41])) ∨ (k = 6 ∧ nm = [] ∧ txt (.mk k nm ts) = sgN 6 :: 40 :: (joinC (txtM ts) ++ [41])) ∨ (k = 7 ∧ nm = [] ∧ txt (.mk k nm ts) = sgN 7 :: 40 :: (joinC (txtM ts) ++ [41])) ∨ (k = 8 ∧ nm = [] ∧ txt (.mk k nm ts) = sgN 8 :: 40 :: (joinC (txtM ts) ++ [41])) := by
    obtain h | h | ⟨hK, _, h1, h2⟩ := txt_shape (shp_mk.1 hsh).1
    · exact .inl h
    · exact .inr (.inl h)
    · rcases hK with rfl | rfl | rfl | rfl | rfl | rfl
      · exact .inr (.inr (.inl ⟨rfl, h1, h2⟩))
      · exact .inr (.inr (.inr (.inl ⟨rfl, h1, h2⟩)))
      · exact .inr (.inr (.inr (.inr (.inl ⟨rfl, h1, h2⟩))))
      · exact .inr (.inr (.inr (.inr (.inr (.inl ⟨rfl, h1, h2⟩)))))
      · exact .inr (.inr (.inr (.inr (.inr (.inr (.inl ⟨rfl, h1, h2⟩))))))
      · exact .inr (.inr (.inr (.inr (.inr (.inr (.inr (⟨rfl, h1, h2⟩)))))))
  obtain ⟨hk, hts0, hn, htx⟩ | ⟨hk, hts0, hn, htx⟩ | ⟨hk, hnm, htx⟩ | ⟨hk, hnm, htx⟩ | ⟨hk, hnm, htx⟩ | ⟨hk, hnm, htx⟩ | ⟨hk, hnm, htx⟩ | ⟨hk, hnm, htx⟩ := hk8
  ·
    refine T.region ?_
    refine TL.cons rfl (V1.t (V1.fieldAddr fl_29_0 rfl) ?_)
    refine TL.cons rfl (V1.t (V1.load1 (v := .int .i64 k) one_3 rfl (.own (cells := [.int .i64 k, .string (bstr nm), .slice a ts.length c]) z_C (by rfl))) ?_)
    refine TL.cons rfl (V1.t (V1.eqI (r := true) rfl rfl (decide_eq_true (by omega))) ?_)
    refine TL.nil ?_
    refine T.cond_t rfl ?_
    refine T.seq ?_
    refine T.region ?_
    refine TL.cons rfl (V1.t (V1.fieldAddr fl_29_1 rfl) ?_)
    refine TL.cons rfl (V1.t (V1.load1 (v := .string (bstr nm)) one_9 rfl (.own (cells := [.int .i64 k, .string (bstr nm), .slice a ts.length c]) z_C (by rfl))) ?_)
    refine TL.cons rfl (V1.t (V1.assign' z_D) ?_)
    refine TL.nil ?_
    refine T.ret ?_
    exact ⟨_, G, _, .cons (.tmp z_D) .nil, z_A, rfl, by rw [htx]; rfl⟩
  ·
    have hnl := named_len hn
    refine T.region ?_
    refine TL.cons rfl (V1.t (V1.fieldAddr fl_29_0 rfl) ?_)
    refine TL.cons rfl (V1.t (V1.load1 (v := .int .i64 k) one_3 rfl (.own (cells := [.int .i64 k, .string (bstr nm), .slice a ts.length c]) z_C (by rfl))) ?_)
    refine TL.cons rfl (V1.t (V1.eqI (r := false) rfl rfl (decide_eq_false (by omega))) ?_)
    refine TL.nil ?_
    refine T.cond_f rfl ?_
    refine T.skip ?_
    refine T.seq ?_
    refine T.region ?_
    refine TL.cons rfl (V1.t (V1.assign' z_D) ?_)
    refine TL.nil ?_
    refine T.cut (σ := List UInt8) (l0 := [(1, _)]) (fun x => [(3, .string (bstr x))]) (fun x L => L = (⟨b1, 0, [.int .i64 k, .string (bstr nm), .slice a ts.length c], 3⟩ : Blk) :: G ∧ txt (.mk k nm ts) = x ++ (40 :: (joinC (txtM ts) ++ [41])) ∧ x.length ≤ 30) (.cons z_D .nil) ?_ ?_
    ·
      refine T.seq ?_
      refine T.region ?_
      refine TL.cons rfl (V1.t (V1.fieldAddr fl_29_0 rfl) ?_)
      refine TL.cons rfl (V1.t (V1.load1 (v := .int .i64 k) one_3 rfl (.own (cells := [.int .i64 k, .string (bstr nm), .slice a ts.length c]) z_C (by rfl))) ?_)
      refine TL.nil ?_
      refine T.block ?_
      refine T.seq ?_
      refine T.region ?_
      refine TL.cons rfl (V1.t (V1.eqI (r := false) rfl rfl (decide_eq_false (by omega))) ?_)
      refine TL.cons rfl (V1.t (V1.assign' z_D) ?_)
      refine TL.nil ?_
      refine T.cond_f rfl ?_
      refine T.seq ?_
      refine T.region ?_
      refine TL.cons rfl (V1.t (V1.eqI (r := false) rfl rfl (decide_eq_false (by omega))) ?_)
      refine TL.cons rfl (V1.t (V1.assign' z_D) ?_)
      refine TL.nil ?_
      refine T.cond_f rfl ?_
      refine T.seq ?_
      refine T.region ?_
      refine TL.cons rfl (V1.t (V1.eqI (r := true) rfl rfl (decide_eq_true (by omega))) ?_)
      refine TL.cons rfl (V1.t (V1.assign' z_D) ?_)
      refine TL.nil ?_
      refine T.cond_t rfl ?_
      refine T.region ?_
      refine TL.cons rfl (V1.t (V1.fieldAddr fl_29_1 rfl) ?_)
      refine TL.cons rfl (V1.t (V1.load1 (v := .string (bstr nm)) one_9 rfl (.own (cells := [.int .i64 k, .string (bstr nm), .slice a ts.length c]) z_C (by rfl))) ?_)
      refine TL.cons rfl (V1.t (V1.addSr (a := [104]) (b := nm) rfl rfl (by (try simp only [List.length_append, List.length_cons, List.length_nil]); omega) rfl) ?_)
      refine TL.cons rfl (V1.t (V1.assign' z_D) ?_)
      refine TL.nil ?_
      exact ⟨104 :: nm, _, _, trivial, (.cons rfl .nil), (.cons rfl .nil), z_A, ⟨rfl, by rw [htx]; rfl, by (try simp only [List.length_cons, List.length_nil]); omega⟩⟩
    ·
      rintro hd e_ L ⟨rfl, htx2, hhd⟩
      have hjl : (joinC (txtM ts)).length ≤ (txt (.mk k nm ts)).length := by rw [htx2]; simp only [List.length_append, List.length_cons]; omega
      refine T.seq ?_
      refine T.region ?_
      refine TL.cons rfl (V1.t (V1.move' z_D) ?_)
      refine TL.cons rfl (V1.t (V1.addSr (a := hd) (b := [40]) rfl rfl (by (try simp only [List.length_append, List.length_cons, List.length_nil]); omega) rfl) ?_)
      refine TL.cons rfl (V1.t (V1.assign' z_D) ?_)
      refine TL.nil ?_
      refine T.seq ?_
      refine T.seq ?_
      refine T.region ?_
      refine TL.cons rfl (V1.t (V1.assign' z_D) ?_)
      refine TL.nil ?_
      refine T.block ?_
      refine T.loopL (σ := Nat) (l0 := [(1, _)]) (fun x => [(4, .int .i64 (x : Nat)), (3, .string (bstr ((hd ++ [40]) ++ joinC (txtM (ts.take x)))))]) (fun i L => L = (⟨b1, 0, [.int .i64 k, .string (bstr nm), .slice a ts.length c], 3⟩ : Blk) :: G ∧ i ≤ ts.length) (fun i => ts.length - i) 0 (.cons rfl (.cons (by show Value.string (bstr _) = Value.string (bstr _); rw [show joinC (txtM (ts.take 0)) = [] from rfl, List.append_nil]) .nil)) (.cons z_D .nil) z_A (⟨rfl, Nat.zero_le _⟩) ?_
      rintro i e_ L ⟨rfl, hi⟩
      refine T.seq ?_
      refine T.seq ?_
      refine T.region ?_
      refine TL.cons rfl (V1.t (V1.move' z_D) ?_)
      refine TL.cons rfl (V1.t (V1.fieldAddr fl_29_2 rfl) ?_)
      refine TL.cons rfl (V1.t (V1.load1 (v := .slice a ts.length c) one_27 rfl (.own (cells := [.int .i64 k, .string (bstr nm), .slice a ts.length c]) z_C (by rfl))) ?_)
      refine TL.cons rfl (V1.t (V1.lenSl ty_27 rfl) ?_)
      refine TL.cons rfl (T1.ltI_split rfl rfl (fun h21 => ?_) (fun h21 => ?_))
      ·
        obtain ⟨x, hx0⟩ : ∃ x, ts[i]? = some x := ⟨_, List.getElem?_eq_getElem (by omega)⟩
        have hcx := ih x (List.mem_of_getElem? hx0)
        have hsx := (shp_mk.1 hsh).2 x (List.mem_of_getElem? hx0)
        have hjx := join_le hx0
        have hzx := tsize_mem (List.mem_of_getElem? hx0)
        obtain ⟨bx, ox, cs_, rfl, hx, hrdx⟩ := hr.term ht hx0 P
        obtain ⟨kx, nx, asx⟩ := x
        obtain ⟨ax, cx, vsx, rfl, hrx, hlx, htx⟩ := hx.inv
        try simp only at *
        refine TL.nil ?_
        refine T.cond_t rfl ?_
        refine T.skip ?_
        refine T.seq ?_
        refine T.block ?_
        refine T.seq ?_
        refine T.seq ?_
        refine T.region ?_
        refine TL.cons rfl (V1.t (V1.move' z_D) ?_)
        refine TL.cons rfl (T1.gtI_split rfl rfl (fun h23 => ?_) (fun h23 => ?_))
        ·
          refine TL.nil ?_
          refine T.cond_t rfl ?_
          refine T.region ?_
          refine TL.cons rfl (V1.t (V1.move' z_D) ?_)
          refine TL.cons rfl (V1.t (V1.addSr (a := (hd ++ [40]) ++ joinC (txtM (ts.take i))) (b := [44]) rfl rfl (by (try simp only [List.length_append, List.length_cons, List.length_nil]); omega) rfl) ?_)
          refine TL.cons rfl (V1.t (V1.assign' z_D) ?_)
          refine TL.nil ?_
          refine T.region ?_
          refine TL.cons rfl (V1.t (V1.move' z_D) ?_)
          refine TL.cons rfl (V1.t (V1.fieldAddr fl_29_2 rfl) ?_)
          refine TL.cons rfl (V1.t (V1.load1 (v := .slice (some ⟨bx, ox, none⟩) ts.length c) one_27 rfl (.own (cells := [.int .i64 k, .string (bstr nm), .slice (some ⟨bx, ox, none⟩) ts.length c]) z_C (by rfl))) ?_)
          refine TL.cons rfl (V1.t (V1.move' z_D) ?_)
          refine TL.cons rfl (V1.t (V1.indexAddrS ty_27 sz_29 rfl rfl (by omega) (by omega)) ?_)
          refine TL.cons rfl (V1.t (V1.loadN (vs := [.int .i64 kx, .string (bstr nx), .slice ax asx.length cx]) one_29 sz_29 rfl (hrdx _ rfl rfl _ z_E) rfl) ?_)
          refine TL.cons rfl (T1.callV has_15 rfl rfl (hcx Ps _ hx hsx (by omega)) z_E (fun v_ hv => ?_))
          obtain rfl := hv
          refine TL.cons rfl (V1.t (V1.addSr (a := ((hd ++ [40]) ++ joinC (txtM (ts.take i))) ++ [44]) (b := txt (.mk kx nx asx)) rfl rfl (by (try simp only [List.length_append, List.length_cons, List.length_nil]); omega) rfl) ?_)
          refine TL.cons rfl (V1.t (V1.assign' z_D) ?_)
          refine TL.nil ?_
          refine T.live (l := [(1, _), (3, _), (4, _)]) (.cons z_D (.cons z_D (.cons z_D .nil))) (fun e_ => ?_)
          refine T.region ?_
          refine TL.cons rfl (V1.t (V1.move' z_D) ?_)
          refine TL.cons rfl (V1.t (V1.add (c := ((i + 1 : Nat) : Int)) rfl rfl (by rw [wrap_i64 _ (by omega) (by omega)]; omega)) ?_)
          refine TL.cons rfl (V1.t (V1.assign' z_D) ?_)
          refine TL.nil ?_
          exact ⟨i + 1, (⟨b1, 0, [.int .i64 k, .string (bstr nm), .slice (some ⟨bx, ox, none⟩) ts.length c], 3⟩ : Blk) :: G, _, (by simp only; omega), (.cons rfl (.cons (by show Value.string (bstr _) = Value.string (bstr _); rw [tx_step1 hx0 h23 hi]) .nil)), (.cons rfl .nil), z_A, ⟨rfl, by omega⟩⟩
        ·
          refine TL.nil ?_
          refine T.cond_f rfl ?_
          refine T.skip ?_
          refine T.region ?_
          refine TL.cons rfl (V1.t (V1.move' z_D) ?_)
          refine TL.cons rfl (V1.t (V1.fieldAddr fl_29_2 rfl) ?_)
          refine TL.cons rfl (V1.t (V1.load1 (v := .slice (some ⟨bx, ox, none⟩) ts.length c) one_27 rfl (.own (cells := [.int .i64 k, .string (bstr nm), .slice (some ⟨bx, ox, none⟩) ts.length c]) z_C (by rfl))) ?_)
          refine TL.cons rfl (V1.t (V1.move' z_D) ?_)
          refine TL.cons rfl (V1.t (V1.indexAddrS ty_27 sz_29 rfl rfl (by omega) (by omega)) ?_)
          refine TL.cons rfl (V1.t (V1.loadN (vs := [.int .i64 kx, .string (bstr nx), .slice ax asx.length cx]) one_29 sz_29 rfl (hrdx _ rfl rfl _ z_E) rfl) ?_)
          refine TL.cons rfl (T1.callV has_15 rfl rfl (hcx Ps _ hx hsx (by omega)) z_E (fun v_ hv => ?_))
          obtain rfl := hv
          refine TL.cons rfl (V1.t (V1.addSr (a := ((hd ++ [40]) ++ joinC (txtM (ts.take i)))) (b := txt (.mk kx nx asx)) rfl rfl (by (try simp only [List.length_append, List.length_cons, List.length_nil]); omega) rfl) ?_)
          refine TL.cons rfl (V1.t (V1.assign' z_D) ?_)
          refine TL.nil ?_
          refine T.live (l := [(1, _), (3, _), (4, _)]) (.cons z_D (.cons z_D (.cons z_D .nil))) (fun e_ => ?_)
          refine T.region ?_
          refine TL.cons rfl (V1.t (V1.move' z_D) ?_)
          refine TL.cons rfl (V1.t (V1.add (c := ((i + 1 : Nat) : Int)) rfl rfl (by rw [wrap_i64 _ (by omega) (by omega)]; omega)) ?_)
          refine TL.cons rfl (V1.t (V1.assign' z_D) ?_)
          refine TL.nil ?_
          exact ⟨i + 1, (⟨b1, 0, [.int .i64 k, .string (bstr nm), .slice (some ⟨bx, ox, none⟩) ts.length c], 3⟩ : Blk) :: G, _, (by simp only; omega), (.cons rfl (.cons (by show Value.string (bstr _) = Value.string (bstr _); rw [tx_step0 hx0 (by omega)]) .nil)), (.cons rfl .nil), z_A, ⟨rfl, by omega⟩⟩
      ·
        obtain rfl : i = ts.length := by omega
        rw [List.take_length]
        refine TL.nil ?_
        refine T.cond_f rfl ?_
        refine T.exit ?_
        refine T.seq ?_
        refine T.region ?_
        refine TL.cons rfl (V1.t (V1.move' z_D) ?_)
        refine TL.cons rfl (V1.t (V1.addSr (a := (hd ++ [40]) ++ joinC (txtM ts)) (b := [41]) (r := txt (.mk k nm ts)) rfl rfl (by (try simp only [List.length_append, List.length_cons, List.length_nil]); omega) (by rw [htx2]; simp)) ?_)
        refine TL.cons rfl (V1.t (V1.assign' z_D) ?_)
        refine TL.nil ?_
        refine T.ret ?_
        exact ⟨_, G, _, .cons (.tmp z_D) .nil, z_A, rfl, rfl⟩
  ·
    refine T.region ?_
    refine TL.cons rfl (V1.t (V1.fieldAddr fl_29_0 rfl) ?_)
    refine TL.cons rfl (V1.t (V1.load1 (v := .int .i64 k) one_3 rfl (.own (cells := [.int .i64 k, .string (bstr nm), .slice a ts.length c]) z_C (by rfl))) ?_)
    refine TL.cons rfl (V1.t (V1.eqI (r := false) rfl rfl (decide_eq_false (by omega))) ?_)
    refine TL.nil ?_
    refine T.cond_f rfl ?_
    refine T.skip ?_
    refine T.seq ?_
    refine T.region ?_
    refine TL.cons rfl (V1.t (V1.assign' z_D) ?_)
    refine TL.nil ?_
    refine T.cut (σ := List UInt8) (l0 := [(1, _)]) (fun x => [(3, .string (bstr x))]) (fun x L => L = (⟨b1, 0, [.int .i64 k, .string (bstr nm), .slice a ts.length c], 3⟩ : Blk) :: G ∧ txt (.mk k nm ts) = x ++ (40 :: (joinC (txtM ts) ++ [41])) ∧ x.length ≤ 30) (.cons z_D .nil) ?_ ?_
    ·
      refine T.seq ?_
      refine T.region ?_
      refine TL.cons rfl (V1.t (V1.fieldAddr fl_29_0 rfl) ?_)
      refine TL.cons rfl (V1.t (V1.load1 (v := .int .i64 k) one_3 rfl (.own (cells := [.int .i64 k, .string (bstr nm), .slice a ts.length c]) z_C (by rfl))) ?_)
      refine TL.nil ?_
      refine T.block ?_
      refine T.seq ?_
      refine T.region ?_
      refine TL.cons rfl (V1.t (V1.eqI (r := true) rfl rfl (decide_eq_true (by omega))) ?_)
      refine TL.cons rfl (V1.t (V1.assign' z_D) ?_)
      refine TL.nil ?_
      refine T.cond_t rfl ?_
      refine T.region ?_
      refine TL.cons rfl (V1.t (V1.assign' z_D) ?_)
      refine TL.nil ?_
      exact ⟨[sgN 2], _, _, trivial, (.cons rfl .nil), (.cons rfl .nil), z_A, ⟨rfl, by rw [htx]; rfl, by (try simp only [List.length_cons, List.length_nil]); omega⟩⟩
    ·
      rintro hd e_ L ⟨rfl, htx2, hhd⟩
      have hjl : (joinC (txtM ts)).length ≤ (txt (.mk k nm ts)).length := by rw [htx2]; simp only [List.length_append, List.length_cons]; omega
      refine T.seq ?_
      refine T.region ?_
      refine TL.cons rfl (V1.t (V1.move' z_D) ?_)
      refine TL.cons rfl (V1.t (V1.addSr (a := hd) (b := [40]) rfl rfl (by (try simp only [List.length_append, List.length_cons, List.length_nil]); omega) rfl) ?_)
      refine TL.cons rfl (V1.t (V1.assign' z_D) ?_)
      refine TL.nil ?_
      refine T.seq ?_
      refine T.seq ?_
      refine T.region ?_
      refine TL.cons rfl (V1.t (V1.assign' z_D) ?_)
      refine TL.nil ?_
      refine T.block ?_
      refine T.loopL (σ := Nat) (l0 := [(1, _)]) (fun x => [(4, .int .i64 (x : Nat)), (3, .string (bstr ((hd ++ [40]) ++ joinC (txtM (ts.take x)))))]) (fun i L => L = (⟨b1, 0, [.int .i64 k, .string (bstr nm), .slice a ts.length c], 3⟩ : Blk) :: G ∧ i ≤ ts.length) (fun i => ts.length - i) 0 (.cons rfl (.cons (by show Value.string (bstr _) = Value.string (bstr _); rw [show joinC (txtM (ts.take 0)) = [] from rfl, List.append_nil]) .nil)) (.cons z_D .nil) z_A (⟨rfl, Nat.zero_le _⟩) ?_
      rintro i e_ L ⟨rfl, hi⟩
      refine T.seq ?_
      refine T.seq ?_
      refine T.region ?_
      refine TL.cons rfl (V1.t (V1.move' z_D) ?_)
      refine TL.cons rfl (V1.t (V1.fieldAddr fl_29_2 rfl) ?_)
      refine TL.cons rfl (V1.t (V1.load1 (v := .slice a ts.length c) one_27 rfl (.own (cells := [.int .i64 k, .string (bstr nm), .slice a ts.length c]) z_C (by rfl))) ?_)
      refine TL.cons rfl (V1.t (V1.lenSl ty_27 rfl) ?_)
      refine TL.cons rfl (T1.ltI_split rfl rfl (fun h21 => ?_) (fun h21 => ?_))
      ·
        obtain ⟨x, hx0⟩ : ∃ x, ts[i]? = some x := ⟨_, List.getElem?_eq_getElem (by omega)⟩
        have hcx := ih x (List.mem_of_getElem? hx0)
        have hsx := (shp_mk.1 hsh).2 x (List.mem_of_getElem? hx0)
        have hjx := join_le hx0
        have hzx := tsize_mem (List.mem_of_getElem? hx0)
        obtain ⟨bx, ox, cs_, rfl, hx, hrdx⟩ := hr.term ht hx0 P
        obtain ⟨kx, nx, asx⟩ := x
        obtain ⟨ax, cx, vsx, rfl, hrx, hlx, htx⟩ := hx.inv
        try simp only at *
        refine TL.nil ?_
        refine T.cond_t rfl ?_
        refine T.skip ?_
        refine T.seq ?_
        refine T.block ?_
        refine T.seq ?_
        refine T.seq ?_
        refine T.region ?_
        refine TL.cons rfl (V1.t (V1.move' z_D) ?_)
        refine TL.cons rfl (T1.gtI_split rfl rfl (fun h23 => ?_) (fun h23 => ?_))
        ·
          refine TL.nil ?_
          refine T.cond_t rfl ?_
          refine T.region ?_
          refine TL.cons rfl (V1.t (V1.move' z_D) ?_)
          refine TL.cons rfl (V1.t (V1.addSr (a := (hd ++ [40]) ++ joinC (txtM (ts.take i))) (b := [44]) rfl rfl (by (try simp only [List.length_append, List.length_cons, List.length_nil]); omega) rfl) ?_)
          refine TL.cons rfl (V1.t (V1.assign' z_D) ?_)
          refine TL.nil ?_
          refine T.region ?_
          refine TL.cons rfl (V1.t (V1.move' z_D) ?_)
          refine TL.cons rfl (V1.t (V1.fieldAddr fl_29_2 rfl) ?_)
          refine TL.cons rfl (V1.t (V1.load1 (v := .slice (some ⟨bx, ox, none⟩) ts.length c) one_27 rfl (.own (cells := [.int .i64 k, .string (bstr nm), .slice (some ⟨bx, ox, none⟩) ts.length c]) z_C (by rfl))) ?_)
          refine TL.cons rfl (V1.t (V1.move' z_D) ?_)
          refine TL.cons rfl (V1.t (V1.indexAddrS ty_27 sz_29 rfl rfl (by omega) (by omega)) ?_)
          refine TL.cons rfl (V1.t (V1.loadN (vs := [.int .i64 kx, .string (bstr nx), .slice ax asx.length cx]) one_29 sz_29 rfl (hrdx _ rfl rfl _ z_E) rfl) ?_)
          refine TL.cons rfl (T1.callV has_15 rfl rfl (hcx Ps _ hx hsx (by omega)) z_E (fun v_ hv => ?_))
          obtain rfl := hv
          refine TL.cons rfl (V1.t (V1.addSr (a := ((hd ++ [40]) ++ joinC (txtM (ts.take i))) ++ [44]) (b := txt (.mk kx nx asx)) rfl rfl (by (try simp only [List.length_append, List.length_cons, List.length_nil]); omega) rfl) ?_)
          refine TL.cons rfl (V1.t (V1.assign' z_D) ?_)
          refine TL.nil ?_
          refine T.live (l := [(1, _), (3, _), (4, _)]) (.cons z_D (.cons z_D (.cons z_D .nil))) (fun e_ => ?_)
          refine T.region ?_
          refine TL.cons rfl (V1.t (V1.move' z_D) ?_)
          refine TL.cons rfl (V1.t (V1.add (c := ((i + 1 : Nat) : Int)) rfl rfl (by rw [wrap_i64 _ (by omega) (by omega)]; omega)) ?_)
          refine TL.cons rfl (V1.t (V1.assign' z_D) ?_)
          refine TL.nil ?_
          exact ⟨i + 1, (⟨b1, 0, [.int .i64 k, .string (bstr nm), .slice (some ⟨bx, ox, none⟩) ts.length c], 3⟩ : Blk) :: G, _, (by simp only; omega), (.cons rfl (.cons (by show Value.string (bstr _) = Value.string (bstr _); rw [tx_step1 hx0 h23 hi]) .nil)), (.cons rfl .nil), z_A, ⟨rfl, by omega⟩⟩
        ·
          refine TL.nil ?_
          refine T.cond_f rfl ?_
          refine T.skip ?_
          refine T.region ?_
          refine TL.cons rfl (V1.t (V1.move' z_D) ?_)
          refine TL.cons rfl (V1.t (V1.fieldAddr fl_29_2 rfl) ?_)
          refine TL.cons rfl (V1.t (V1.load1 (v := .slice (some ⟨bx, ox, none⟩) ts.length c) one_27 rfl (.own (cells := [.int .i64 k, .string (bstr nm), .slice (some ⟨bx, ox, none⟩) ts.length c]) z_C (by rfl))) ?_)
          refine TL.cons rfl (V1.t (V1.move' z_D) ?_)
          refine TL.cons rfl (V1.t (V1.indexAddrS ty_27 sz_29 rfl rfl (by omega) (by omega)) ?_)
          refine TL.cons rfl (V1.t (V1.loadN (vs := [.int .i64 kx, .string (bstr nx), .slice ax asx.length cx]) one_29 sz_29 rfl (hrdx _ rfl rfl _ z_E) rfl) ?_)
          refine TL.cons rfl (T1.callV has_15 rfl rfl (hcx Ps _ hx hsx (by omega)) z_E (fun v_ hv => ?_))
          obtain rfl := hv
          refine TL.cons rfl (V1.t (V1.addSr (a := ((hd ++ [40]) ++ joinC (txtM (ts.take i)))) (b := txt (.mk kx nx asx)) rfl rfl (by (try simp only [List.length_append, List.length_cons, List.length_nil]); omega) rfl) ?_)
          refine TL.cons rfl (V1.t (V1.assign' z_D) ?_)
          refine TL.nil ?_
          refine T.live (l := [(1, _), (3, _), (4, _)]) (.cons z_D (.cons z_D (.cons z_D .nil))) (fun e_ => ?_)
          refine T.region ?_
          refine TL.cons rfl (V1.t (V1.move' z_D) ?_)
          refine TL.cons rfl (V1.t (V1.add (c := ((i + 1 : Nat) : Int)) rfl rfl (by rw [wrap_i64 _ (by omega) (by omega)]; omega)) ?_)
          refine TL.cons rfl (V1.t (V1.assign' z_D) ?_)
          refine TL.nil ?_
          exact ⟨i + 1, (⟨b1, 0, [.int .i64 k, .string (bstr nm), .slice (some ⟨bx, ox, none⟩) ts.length c], 3⟩ : Blk) :: G, _, (by simp only; omega), (.cons rfl (.cons (by show Value.string (bstr _) = Value.string (bstr _); rw [tx_step0 hx0 (by omega)]) .nil)), (.cons rfl .nil), z_A, ⟨rfl, by omega⟩⟩
      ·
        obtain rfl : i = ts.length := by omega
        rw [List.take_length]
        refine TL.nil ?_
        refine T.cond_f rfl ?_
        refine T.exit ?_
        refine T.seq ?_
        refine T.region ?_
        refine TL.cons rfl (V1.t (V1.move' z_D) ?_)
        refine TL.cons rfl (V1.t (V1.addSr (a := (hd ++ [40]) ++ joinC (txtM ts)) (b := [41]) (r := txt (.mk k nm ts)) rfl rfl (by (try simp only [List.length_append, List.length_cons, List.length_nil]); omega) (by rw [htx2]; simp)) ?_)
        refine TL.cons rfl (V1.t (V1.assign' z_D) ?_)
        refine TL.nil ?_
        refine T.ret ?_
        exact ⟨_, G, _, .cons (.tmp z_D) .nil, z_A, rfl, rfl⟩
  ·
    refine T.region ?_
    refine TL.cons rfl (V1.t (V1.fieldAddr fl_29_0 rfl) ?_)
    refine TL.cons rfl (V1.t (V1.load1 (v := .int .i64 k) one_3 rfl (.own (cells := [.int .i64 k, .string (bstr nm), .slice a ts.length c]) z_C (by rfl))) ?_)
    refine TL.cons rfl (V1.t (V1.eqI (r := false) rfl rfl (decide_eq_false (by omega))) ?_)
    refine TL.nil ?_
    refine T.cond_f rfl ?_
    refine T.skip ?_
    refine T.seq ?_
    refine T.region ?_
    refine TL.cons rfl (V1.t (V1.assign' z_D) ?_)
    refine TL.nil ?_
    refine T.cut (σ := List UInt8) (l0 := [(1, _)]) (fun x => [(3, .string (bstr x))]) (fun x L => L = (⟨b1, 0, [.int .i64 k, .string (bstr nm), .slice a ts.length c], 3⟩ : Blk) :: G ∧ txt (.mk k nm ts) = x ++ (40 :: (joinC (txtM ts) ++ [41])) ∧ x.length ≤ 30) (.cons z_D .nil) ?_ ?_
    ·
      refine T.seq ?_
      refine T.region ?_
      refine TL.cons rfl (V1.t (V1.fieldAddr fl_29_0 rfl) ?_)
      refine TL.cons rfl (V1.t (V1.load1 (v := .int .i64 k) one_3 rfl (.own (cells := [.int .i64 k, .string (bstr nm), .slice a ts.length c]) z_C (by rfl))) ?_)
      refine TL.nil ?_
      refine T.block ?_
      refine T.seq ?_
      refine T.region ?_
      refine TL.cons rfl (V1.t (V1.eqI (r := false) rfl rfl (decide_eq_false (by omega))) ?_)
      refine TL.cons rfl (V1.t (V1.assign' z_D) ?_)
      refine TL.nil ?_
      refine T.cond_f rfl ?_
      refine T.seq ?_
      refine T.region ?_
      refine TL.cons rfl (V1.t (V1.eqI (r := true) rfl rfl (decide_eq_true (by omega))) ?_)
      refine TL.cons rfl (V1.t (V1.assign' z_D) ?_)
      refine TL.nil ?_
      refine T.cond_t rfl ?_
      refine T.region ?_
      refine TL.cons rfl (V1.t (V1.assign' z_D) ?_)
      refine TL.nil ?_
      exact ⟨[sgN 3], _, _, trivial, (.cons rfl .nil), (.cons rfl .nil), z_A, ⟨rfl, by rw [htx]; rfl, by (try simp only [List.length_cons, List.length_nil]); omega⟩⟩
    ·
      rintro hd e_ L ⟨rfl, htx2, hhd⟩
      have hjl : (joinC (txtM ts)).length ≤ (txt (.mk k nm ts)).length := by rw [htx2]; simp only [List.length_append, List.length_cons]; omega
      refine T.seq ?_
      refine T.region ?_
      refine TL.cons rfl (V1.t (V1.move' z_D) ?_)
      refine TL.cons rfl (V1.t (V1.addSr (a := hd) (b := [40]) rfl rfl (by (try simp only [List.length_append, List.length_cons, List.length_nil]); omega) rfl) ?_)
      refine TL.cons rfl (V1.t (V1.assign' z_D) ?_)
      refine TL.nil ?_
      refine T.seq ?_
      refine T.seq ?_
      refine T.region ?_
      refine TL.cons rfl (V1.t (V1.assign' z_D) ?_)
      refine TL.nil ?_
      refine T.block ?_
      refine T.loopL (σ := Nat) (l0 := [(1, _)]) (fun x => [(4, .int .i64 (x : Nat)), (3, .string (bstr ((hd ++ [40]) ++ joinC (txtM (ts.take x)))))]) (fun i L => L = (⟨b1, 0, [.int .i64 k, .string (bstr nm), .slice a ts.length c], 3⟩ : Blk) :: G ∧ i ≤ ts.length) (fun i => ts.length - i) 0 (.cons rfl (.cons (by show Value.string (bstr _) = Value.string (bstr _); rw [show joinC (txtM (ts.take 0)) = [] from rfl, List.append_nil]) .nil)) (.cons z_D .nil) z_A (⟨rfl, Nat.zero_le _⟩) ?_
      rintro i e_ L ⟨rfl, hi⟩
      refine T.seq ?_
      refine T.seq ?_
      refine T.region ?_
      refine TL.cons rfl (V1.t (V1.move' z_D) ?_)
      refine TL.cons rfl (V1.t (V1.fieldAddr fl_29_2 rfl) ?_)
      refine TL.cons rfl (V1.t (V1.load1 (v := .slice a ts.length c) one_27 rfl (.own (cells := [.int .i64 k, .string (bstr nm), .slice a ts.length c]) z_C (by rfl))) ?_)
      refine TL.cons rfl (V1.t (V1.lenSl ty_27 rfl) ?_)
      refine TL.cons rfl (T1.ltI_split rfl rfl (fun h21 => ?_) (fun h21 => ?_))
      ·
        obtain ⟨x, hx0⟩ : ∃ x, ts[i]? = some x := ⟨_, List.getElem?_eq_getElem (by omega)⟩
        have hcx := ih x (List.mem_of_getElem? hx0)
        have hsx := (shp_mk.1 hsh).2 x (List.mem_of_getElem? hx0)
        have hjx := join_le hx0
        have hzx := tsize_mem (List.mem_of_getElem? hx0)
        obtain ⟨bx, ox, cs_, rfl, hx, hrdx⟩ := hr.term ht hx0 P
        obtain ⟨kx, nx, asx⟩ := x
        obtain ⟨ax, cx, vsx, rfl, hrx, hlx, htx⟩ := hx.inv
        try simp only at *
        refine TL.nil ?_
        refine T.cond_t rfl ?_
        refine T.skip ?_
        refine T.seq ?_
        refine T.block ?_
        refine T.seq ?_
        refine T.seq ?_
        refine T.region ?_
        refine TL.cons rfl (V1.t (V1.move' z_D) ?_)
        refine TL.cons rfl (T1.gtI_split rfl rfl (fun h23 => ?_) (fun h23 => ?_))
        ·
          refine TL.nil ?_
          refine T.cond_t rfl ?_
          refine T.region ?_
          refine TL.cons rfl (V1.t (V1.move' z_D) ?_)
          refine TL.cons rfl (V1.t (V1.addSr (a := (hd ++ [40]) ++ joinC (txtM (ts.take i))) (b := [44]) rfl rfl (by (try simp only [List.length_append, List.length_cons, List.length_nil]); omega) rfl) ?_)
          refine TL.cons rfl (V1.t (V1.assign' z_D) ?_)
          refine TL.nil ?_
          refine T.region ?_
          refine TL.cons rfl (V1.t (V1.move' z_D) ?_)
          refine TL.cons rfl (V1.t (V1.fieldAddr fl_29_2 rfl) ?_)
          refine TL.cons rfl (V1.t (V1.load1 (v := .slice (some ⟨bx, ox, none⟩) ts.length c) one_27 rfl (.own (cells := [.int .i64 k, .string (bstr nm), .slice (some ⟨bx, ox, none⟩) ts.length c]) z_C (by rfl))) ?_)
          refine TL.cons rfl (V1.t (V1.move' z_D) ?_)
          refine TL.cons rfl (V1.t (V1.indexAddrS ty_27 sz_29 rfl rfl (by omega) (by omega)) ?_)
          refine TL.cons rfl (V1.t (V1.loadN (vs := [.int .i64 kx, .string (bstr nx), .slice ax asx.length cx]) one_29 sz_29 rfl (hrdx _ rfl rfl _ z_E) rfl) ?_)
          refine TL.cons rfl (T1.callV has_15 rfl rfl (hcx Ps _ hx hsx (by omega)) z_E (fun v_ hv => ?_))
          obtain rfl := hv
          refine TL.cons rfl (V1.t (V1.addSr (a := ((hd ++ [40]) ++ joinC (txtM (ts.take i))) ++ [44]) (b := txt (.mk kx nx asx)) rfl rfl (by (try simp only [List.length_append, List.length_cons, List.length_nil]); omega) rfl) ?_)
          refine TL.cons rfl (V1.t (V1.assign' z_D) ?_)
          refine TL.nil ?_
          refine T.live (l := [(1, _), (3, _), (4, _)]) (.cons z_D (.cons z_D (.cons z_D .nil))) (fun e_ => ?_)
          refine T.region ?_
          refine TL.cons rfl (V1.t (V1.move' z_D) ?_)
          refine TL.cons rfl (V1.t (V1.add (c := ((i + 1 : Nat) : Int)) rfl rfl (by rw [wrap_i64 _ (by omega) (by omega)]; omega)) ?_)
          refine TL.cons rfl (V1.t (V1.assign' z_D) ?_)
          refine TL.nil ?_
          exact ⟨i + 1, (⟨b1, 0, [.int .i64 k, .string (bstr nm), .slice (some ⟨bx, ox, none⟩) ts.length c], 3⟩ : Blk) :: G, _, (by simp only; omega), (.cons rfl (.cons (by show Value.string (bstr _) = Value.string (bstr _); rw [tx_step1 hx0 h23 hi]) .nil)), (.cons rfl .nil), z_A, ⟨rfl, by omega⟩⟩
        ·
          refine TL.nil ?_
          refine T.cond_f rfl ?_
          refine T.skip ?_
          refine T.region ?_
          refine TL.cons rfl (V1.t (V1.move' z_D) ?_)
          refine TL.cons rfl (V1.t (V1.fieldAddr fl_29_2 rfl) ?_)
          refine TL.cons rfl (V1.t (V1.load1 (v := .slice (some ⟨bx, ox, none⟩) ts.length c) one_27 rfl (.own (cells := [.int .i64 k, .string (bstr nm), .slice (some ⟨bx, ox, none⟩) ts.length c]) z_C (by rfl))) ?_)
          refine TL.cons rfl (V1.t (V1.move' z_D) ?_)
          refine TL.cons rfl (V1.t (V1.indexAddrS ty_27 sz_29 rfl rfl (by omega) (by omega)) ?_)
          refine TL.cons rfl (V1.t (V1.loadN (vs := [.int .i64 kx, .string (bstr nx), .slice ax asx.length cx]) one_29 sz_29 rfl (hrdx _ rfl rfl _ z_E) rfl) ?_)
          refine TL.cons rfl (T1.callV has_15 rfl rfl (hcx Ps _ hx hsx (by omega)) z_E (fun v_ hv => ?_))
          obtain rfl := hv
          refine TL.cons rfl (V1.t (V1.addSr (a := ((hd ++ [40]) ++ joinC (txtM (ts.take i)))) (b := txt (.mk kx nx asx)) rfl rfl (by (try simp only [List.length_append, List.length_cons, List.length_nil]); omega) rfl) ?_)
          refine TL.cons rfl (V1.t (V1.assign' z_D) ?_)
          refine TL.nil ?_
          refine T.live (l := [(1, _), (3, _), (4, _)]) (.cons z_D (.cons z_D (.cons z_D .nil))) (fun e_ => ?_)
          refine T.region ?_
          refine TL.cons rfl (V1.t (V1.move' z_D) ?_)
          refine TL.cons rfl (V1.t (V1.add (c := ((i + 1 : Nat) : Int)) rfl rfl (by rw [wrap_i64 _ (by omega) (by omega)]; omega)) ?_)
          refine TL.cons rfl (V1.t (V1.assign' z_D) ?_)
          refine TL.nil ?_
          exact ⟨i + 1, (⟨b1, 0, [.int .i64 k, .string (bstr nm), .slice (some ⟨bx, ox, none⟩) ts.length c], 3⟩ : Blk) :: G, _, (by simp only; omega), (.cons rfl (.cons (by show Value.string (bstr _) = Value.string (bstr _); rw [tx_step0 hx0 (by omega)]) .nil)), (.cons rfl .nil), z_A, ⟨rfl, by omega⟩⟩
      ·
        obtain rfl : i = ts.length := by omega
        rw [List.take_length]
        refine TL.nil ?_
        refine T.cond_f rfl ?_
        refine T.exit ?_
        refine T.seq ?_
        refine T.region ?_
        refine TL.cons rfl (V1.t (V1.move' z_D) ?_)
        refine TL.cons rfl (V1.t (V1.addSr (a := (hd ++ [40]) ++ joinC (txtM ts)) (b := [41]) (r := txt (.mk k nm ts)) rfl rfl (by (try simp only [List.length_append, List.length_cons, List.length_nil]); omega) (by rw [htx2]; simp)) ?_)
        refine TL.cons rfl (V1.t (V1.assign' z_D) ?_)
        refine TL.nil ?_
        refine T.ret ?_
        exact ⟨_, G, _, .cons (.tmp z_D) .nil, z_A, rfl, rfl⟩
  ·
    refine T.region ?_
    refine TL.cons rfl (V1.t (V1.fieldAddr fl_29_0 rfl) ?_)
    refine TL.cons rfl (V1.t (V1.load1 (v := .int .i64 k) one_3 rfl (.own (cells := [.int .i64 k, .string (bstr nm), .slice a ts.length c]) z_C (by rfl))) ?_)
    refine TL.cons rfl (V1.t (V1.eqI (r := false) rfl rfl (decide_eq_false (by omega))) ?_)
    refine TL.nil ?_
    refine T.cond_f rfl ?_
    refine T.skip ?_
    refine T.seq ?_
    refine T.region ?_
    refine TL.cons rfl (V1.t (V1.assign' z_D) ?_)
    refine TL.nil ?_
    refine T.cut (σ := List UInt8) (l0 := [(1, _)]) (fun x => [(3, .string (bstr x))]) (fun x L => L = (⟨b1, 0, [.int .i64 k, .string (bstr nm), .slice a ts.length c], 3⟩ : Blk) :: G ∧ txt (.mk k nm ts) = x ++ (40 :: (joinC (txtM ts) ++ [41])) ∧ x.length ≤ 30) (.cons z_D .nil) ?_ ?_
    ·
      refine T.seq ?_
      refine T.region ?_
      refine TL.cons rfl (V1.t (V1.fieldAddr fl_29_0 rfl) ?_)
      refine TL.cons rfl (V1.t (V1.load1 (v := .int .i64 k) one_3 rfl (.own (cells := [.int .i64 k, .string (bstr nm), .slice a ts.length c]) z_C (by rfl))) ?_)
      refine TL.nil ?_
      refine T.block ?_
      refine T.seq ?_
      refine T.region ?_
      refine TL.cons rfl (V1.t (V1.eqI (r := false) rfl rfl (decide_eq_false (by omega))) ?_)
      refine TL.cons rfl (V1.t (V1.assign' z_D) ?_)
      refine TL.nil ?_
      refine T.cond_f rfl ?_
      refine T.seq ?_
      refine T.region ?_
      refine TL.cons rfl (V1.t (V1.eqI (r := false) rfl rfl (decide_eq_false (by omega))) ?_)
      refine TL.cons rfl (V1.t (V1.assign' z_D) ?_)
      refine TL.nil ?_
      refine T.cond_f rfl ?_
      refine T.seq ?_
      refine T.region ?_
      refine TL.cons rfl (V1.t (V1.eqI (r := false) rfl rfl (decide_eq_false (by omega))) ?_)
      refine TL.cons rfl (V1.t (V1.assign' z_D) ?_)
      refine TL.nil ?_
      refine T.cond_f rfl ?_
      refine T.seq ?_
      refine T.region ?_
      refine TL.cons rfl (V1.t (V1.eqI (r := true) rfl rfl (decide_eq_true (by omega))) ?_)
      refine TL.cons rfl (V1.t (V1.assign' z_D) ?_)
      refine TL.nil ?_
      refine T.cond_t rfl ?_
      refine T.live (l := [(1, _)]) (.cons z_D .nil) (fun e_ => ?_)
      refine T.region ?_
      refine TL.cons rfl (V1.t (V1.assign' z_D) ?_)
      refine TL.nil ?_
      exact ⟨[sgN 5], _, _, trivial, (.cons rfl .nil), (.cons rfl .nil), z_A, ⟨rfl, by rw [htx]; rfl, by (try simp only [List.length_cons, List.length_nil]); omega⟩⟩
    ·
      rintro hd e_ L ⟨rfl, htx2, hhd⟩
      have hjl : (joinC (txtM ts)).length ≤ (txt (.mk k nm ts)).length := by rw [htx2]; simp only [List.length_append, List.length_cons]; omega
      refine T.seq ?_
      refine T.region ?_
      refine TL.cons rfl (V1.t (V1.move' z_D) ?_)
      refine TL.cons rfl (V1.t (V1.addSr (a := hd) (b := [40]) rfl rfl (by (try simp only [List.length_append, List.length_cons, List.length_nil]); omega) rfl) ?_)
      refine TL.cons rfl (V1.t (V1.assign' z_D) ?_)
      refine TL.nil ?_
      refine T.seq ?_
      refine T.seq ?_
      refine T.region ?_
      refine TL.cons rfl (V1.t (V1.assign' z_D) ?_)
      refine TL.nil ?_
      refine T.block ?_
      refine T.loopL (σ := Nat) (l0 := [(1, _)]) (fun x => [(4, .int .i64 (x : Nat)), (3, .string (bstr ((hd ++ [40]) ++ joinC (txtM (ts.take x)))))]) (fun i L => L = (⟨b1, 0, [.int .i64 k, .string (bstr nm), .slice a ts.length c], 3⟩ : Blk) :: G ∧ i ≤ ts.length) (fun i => ts.length - i) 0 (.cons rfl (.cons (by show Value.string (bstr _) = Value.string (bstr _); rw [show joinC (txtM (ts.take 0)) = [] from rfl, List.append_nil]) .nil)) (.cons z_D .nil) z_A (⟨rfl, Nat.zero_le _⟩) ?_
      rintro i e_ L ⟨rfl, hi⟩
      refine T.seq ?_
      refine T.seq ?_
      refine T.region ?_
      refine TL.cons rfl (V1.t (V1.move' z_D) ?_)
      refine TL.cons rfl (V1.t (V1.fieldAddr fl_29_2 rfl) ?_)
      refine TL.cons rfl (V1.t (V1.load1 (v := .slice a ts.length c) one_27 rfl (.own (cells := [.int .i64 k, .string (bstr nm), .slice a ts.length c]) z_C (by rfl))) ?_)
      refine TL.cons rfl (V1.t (V1.lenSl ty_27 rfl) ?_)
      refine TL.cons rfl (T1.ltI_split rfl rfl (fun h21 => ?_) (fun h21 => ?_))
      ·
        obtain ⟨x, hx0⟩ : ∃ x, ts[i]? = some x := ⟨_, List.getElem?_eq_getElem (by omega)⟩
        have hcx := ih x (List.mem_of_getElem? hx0)
        have hsx := (shp_mk.1 hsh).2 x (List.mem_of_getElem? hx0)
        have hjx := join_le hx0
        have hzx := tsize_mem (List.mem_of_getElem? hx0)
        obtain ⟨bx, ox, cs_, rfl, hx, hrdx⟩ := hr.term ht hx0 P
        obtain ⟨kx, nx, asx⟩ := x
        obtain ⟨ax, cx, vsx, rfl, hrx, hlx, htx⟩ := hx.inv
        try simp only at *
        refine TL.nil ?_
        refine T.cond_t rfl ?_
        refine T.skip ?_
        refine T.seq ?_
        refine T.block ?_
        refine T.seq ?_
        refine T.seq ?_
        refine T.region ?_
        refine TL.cons rfl (V1.t (V1.move' z_D) ?_)
        refine TL.cons rfl (T1.gtI_split rfl rfl (fun h23 => ?_) (fun h23 => ?_))
        ·
          refine TL.nil ?_
          refine T.cond_t rfl ?_
          refine T.region ?_
          refine TL.cons rfl (V1.t (V1.move' z_D) ?_)
          refine TL.cons rfl (V1.t (V1.addSr (a := (hd ++ [40]) ++ joinC (txtM (ts.take i))) (b := [44]) rfl rfl (by (try simp only [List.length_append, List.length_cons, List.length_nil]); omega) rfl) ?_)
          refine TL.cons rfl (V1.t (V1.assign' z_D) ?_)
          refine TL.nil ?_
          refine T.region ?_
          refine TL.cons rfl (V1.t (V1.move' z_D) ?_)
          refine TL.cons rfl (V1.t (V1.fieldAddr fl_29_2 rfl) ?_)
          refine TL.cons rfl (V1.t (V1.load1 (v := .slice (some ⟨bx, ox, none⟩) ts.length c) one_27 rfl (.own (cells := [.int .i64 k, .string (bstr nm), .slice (some ⟨bx, ox, none⟩) ts.length c]) z_C (by rfl))) ?_)
          refine TL.cons rfl (V1.t (V1.move' z_D) ?_)
          refine TL.cons rfl (V1.t (V1.indexAddrS ty_27 sz_29 rfl rfl (by omega) (by omega)) ?_)
          refine TL.cons rfl (V1.t (V1.loadN (vs := [.int .i64 kx, .string (bstr nx), .slice ax asx.length cx]) one_29 sz_29 rfl (hrdx _ rfl rfl _ z_E) rfl) ?_)
          refine TL.cons rfl (T1.callV has_15 rfl rfl (hcx Ps _ hx hsx (by omega)) z_E (fun v_ hv => ?_))
          obtain rfl := hv
          refine TL.cons rfl (V1.t (V1.addSr (a := ((hd ++ [40]) ++ joinC (txtM (ts.take i))) ++ [44]) (b := txt (.mk kx nx asx)) rfl rfl (by (try simp only [List.length_append, List.length_cons, List.length_nil]); omega) rfl) ?_)
          refine TL.cons rfl (V1.t (V1.assign' z_D) ?_)
          refine TL.nil ?_
          refine T.live (l := [(1, _), (3, _), (4, _)]) (.cons z_D (.cons z_D (.cons z_D .nil))) (fun e_ => ?_)
          refine T.region ?_
          refine TL.cons rfl (V1.t (V1.move' z_D) ?_)
          refine TL.cons rfl (V1.t (V1.add (c := ((i + 1 : Nat) : Int)) rfl rfl (by rw [wrap_i64 _ (by omega) (by omega)]; omega)) ?_)
          refine TL.cons rfl (V1.t (V1.assign' z_D) ?_)
          refine TL.nil ?_
          exact ⟨i + 1, (⟨b1, 0, [.int .i64 k, .string (bstr nm), .slice (some ⟨bx, ox, none⟩) ts.length c], 3⟩ : Blk) :: G, _, (by simp only; omega), (.cons rfl (.cons (by show Value.string (bstr _) = Value.string (bstr _); rw [tx_step1 hx0 h23 hi]) .nil)), (.cons rfl .nil), z_A, ⟨rfl, by omega⟩⟩
        ·
          refine TL.nil ?_
          refine T.cond_f rfl ?_
          refine T.skip ?_
          refine T.region ?_
          refine TL.cons rfl (V1.t (V1.move' z_D) ?_)
          refine TL.cons rfl (V1.t (V1.fieldAddr fl_29_2 rfl) ?_)
          refine TL.cons rfl (V1.t (V1.load1 (v := .slice (some ⟨bx, ox, none⟩) ts.length c) one_27 rfl (.own (cells := [.int .i64 k, .string (bstr nm), .slice (some ⟨bx, ox, none⟩) ts.length c]) z_C (by rfl))) ?_)
          refine TL.cons rfl (V1.t (V1.move' z_D) ?_)
          refine TL.cons rfl (V1.t (V1.indexAddrS ty_27 sz_29 rfl rfl (by omega) (by omega)) ?_)
          refine TL.cons rfl (V1.t (V1.loadN (vs := [.int .i64 kx, .string (bstr nx), .slice ax asx.length cx]) one_29 sz_29 rfl (hrdx _ rfl rfl _ z_E) rfl) ?_)
          refine TL.cons rfl (T1.callV has_15 rfl rfl (hcx Ps _ hx hsx (by omega)) z_E (fun v_ hv => ?_))
          obtain rfl := hv
          refine TL.cons rfl (V1.t (V1.addSr (a := ((hd ++ [40]) ++ joinC (txtM (ts.take i)))) (b := txt (.mk kx nx asx)) rfl rfl (by (try simp only [List.length_append, List.length_cons, List.length_nil]); omega) rfl) ?_)
          refine TL.cons rfl (V1.t (V1.assign' z_D) ?_)
          refine TL.nil ?_
          refine T.live (l := [(1, _), (3, _), (4, _)]) (.cons z_D (.cons z_D (.cons z_D .nil))) (fun e_ => ?_)
          refine T.region ?_
          refine TL.cons rfl (V1.t (V1.move' z_D) ?_)
          refine TL.cons rfl (V1.t (V1.add (c := ((i + 1 : Nat) : Int)) rfl rfl (by rw [wrap_i64 _ (by omega) (by omega)]; omega)) ?_)
          refine TL.cons rfl (V1.t (V1.assign' z_D) ?_)
          refine TL.nil ?_
          exact ⟨i + 1, (⟨b1, 0, [.int .i64 k, .string (bstr nm), .slice (some ⟨bx, ox, none⟩) ts.length c], 3⟩ : Blk) :: G, _, (by simp only; omega), (.cons rfl (.cons (by show Value.string (bstr _) = Value.string (bstr _); rw [tx_step0 hx0 (by omega)]) .nil)), (.cons rfl .nil), z_A, ⟨rfl, by omega⟩⟩
      ·
        obtain rfl : i = ts.length := by omega
        rw [List.take_length]
        refine TL.nil ?_
        refine T.cond_f rfl ?_
        refine T.exit ?_
        refine T.seq ?_
        refine T.region ?_
        refine TL.cons rfl (V1.t (V1.move' z_D) ?_)
        refine TL.cons rfl (V1.t (V1.addSr (a := (hd ++ [40]) ++ joinC (txtM ts)) (b := [41]) (r := txt (.mk k nm ts)) rfl rfl (by (try simp only [List.length_append, List.length_cons, List.length_nil]); omega) (by rw [htx2]; simp)) ?_)
        refine TL.cons rfl (V1.t (V1.assign' z_D) ?_)
        refine TL.nil ?_
        refine T.ret ?_
        exact ⟨_, G, _, .cons (.tmp z_D) .nil, z_A, rfl, rfl⟩
  ·
    refine T.region ?_
    refine TL.cons rfl (V1.t (V1.fieldAddr fl_29_0 rfl) ?_)
    refine TL.cons rfl (V1.t (V1.load1 (v := .int .i64 k) one_3 rfl (.own (cells := [.int .i64 k, .string (bstr nm), .slice a ts.length c]) z_C (by rfl))) ?_)
    refine TL.cons rfl (V1.t (V1.eqI (r := false) rfl rfl (decide_eq_false (by omega))) ?_)
    refine TL.nil ?_
    refine T.cond_f rfl ?_
    refine T.skip ?_
    refine T.seq ?_
    refine T.region ?_
    refine TL.cons rfl (V1.t (V1.assign' z_D) ?_)
    refine TL.nil ?_
    refine T.cut (σ := List UInt8) (l0 := [(1, _)]) (fun x => [(3, .string (bstr x))]) (fun x L => L = (⟨b1, 0, [.int .i64 k, .string (bstr nm), .slice a ts.length c], 3⟩ : Blk) :: G ∧ txt (.mk k nm ts) = x ++ (40 :: (joinC (txtM ts) ++ [41])) ∧ x.length ≤ 30) (.cons z_D .nil) ?_ ?_
    ·
      refine T.seq ?_
      refine T.region ?_
      refine TL.cons rfl (V1.t (V1.fieldAddr fl_29_0 rfl) ?_)
      refine TL.cons rfl (V1.t (V1.load1 (v := .int .i64 k) one_3 rfl (.own (cells := [.int .i64 k, .string (bstr nm), .slice a ts.length c]) z_C (by rfl))) ?_)
      refine TL.nil ?_
      refine T.block ?_
      refine T.seq ?_
      refine T.region ?_
      refine TL.cons rfl (V1.t (V1.eqI (r := false) rfl rfl (decide_eq_false (by omega))) ?_)
      refine TL.cons rfl (V1.t (V1.assign' z_D) ?_)
      refine TL.nil ?_
      refine T.cond_f rfl ?_
      refine T.seq ?_
      refine T.region ?_
      refine TL.cons rfl (V1.t (V1.eqI (r := false) rfl rfl (decide_eq_false (by omega))) ?_)
      refine TL.cons rfl (V1.t (V1.assign' z_D) ?_)
      refine TL.nil ?_
      refine T.cond_f rfl ?_
      refine T.seq ?_
      refine T.region ?_
      refine TL.cons rfl (V1.t (V1.eqI (r := false) rfl rfl (decide_eq_false (by omega))) ?_)
      refine TL.cons rfl (V1.t (V1.assign' z_D) ?_)
      refine TL.nil ?_
      refine T.cond_f rfl ?_
      refine T.seq ?_
      refine T.region ?_
      refine TL.cons rfl (V1.t (V1.eqI (r := false) rfl rfl (decide_eq_false (by omega))) ?_)
      refine TL.cons rfl (V1.t (V1.assign' z_D) ?_)
      refine TL.nil ?_
      refine T.cond_f rfl ?_
      refine T.seq ?_
      refine T.live (l := [(1, _), (3, _), (11, _)]) (.cons z_D (.cons z_D (.cons z_D .nil))) (fun e_ => ?_)
      refine T.region ?_
      refine TL.cons rfl (V1.t (V1.eqI (r := true) rfl rfl (decide_eq_true (by omega))) ?_)
      refine TL.cons rfl (V1.t (V1.assign' z_D) ?_)
      refine TL.nil ?_
      refine T.cond_t rfl ?_
      refine T.region ?_
      refine TL.cons rfl (V1.t (V1.assign' z_D) ?_)
      refine TL.nil ?_
      exact ⟨[sgN 6], _, _, trivial, (.cons rfl .nil), (.cons rfl .nil), z_A, ⟨rfl, by rw [htx]; rfl, by (try simp only [List.length_cons, List.length_nil]); omega⟩⟩
    ·
      rintro hd e_ L ⟨rfl, htx2, hhd⟩
      have hjl : (joinC (txtM ts)).length ≤ (txt (.mk k nm ts)).length := by rw [htx2]; simp only [List.length_append, List.length_cons]; omega
      refine T.seq ?_
      refine T.region ?_
      refine TL.cons rfl (V1.t (V1.move' z_D) ?_)
      refine TL.cons rfl (V1.t (V1.addSr (a := hd) (b := [40]) rfl rfl (by (try simp only [List.length_append, List.length_cons, List.length_nil]); omega) rfl) ?_)
      refine TL.cons rfl (V1.t (V1.assign' z_D) ?_)
      refine TL.nil ?_
      refine T.seq ?_
      refine T.seq ?_
      refine T.region ?_
      refine TL.cons rfl (V1.t (V1.assign' z_D) ?_)
      refine TL.nil ?_
      refine T.block ?_
      refine T.loopL (σ := Nat) (l0 := [(1, _)]) (fun x => [(4, .int .i64 (x : Nat)), (3, .string (bstr ((hd ++ [40]) ++ joinC (txtM (ts.take x)))))]) (fun i L => L = (⟨b1, 0, [.int .i64 k, .string (bstr nm), .slice a ts.length c], 3⟩ : Blk) :: G ∧ i ≤ ts.length) (fun i => ts.length - i) 0 (.cons rfl (.cons (by show Value.string (bstr _) = Value.string (bstr _); rw [show joinC (txtM (ts.take 0)) = [] from rfl, List.append_nil]) .nil)) (.cons z_D .nil) z_A (⟨rfl, Nat.zero_le _⟩) ?_
      rintro i e_ L ⟨rfl, hi⟩
      refine T.seq ?_
      refine T.seq ?_
      refine T.region ?_
      refine TL.cons rfl (V1.t (V1.move' z_D) ?_)
      refine TL.cons rfl (V1.t (V1.fieldAddr fl_29_2 rfl) ?_)
      refine TL.cons rfl (V1.t (V1.load1 (v := .slice a ts.length c) one_27 rfl (.own (cells := [.int .i64 k, .string (bstr nm), .slice a ts.length c]) z_C (by rfl))) ?_)
      refine TL.cons rfl (V1.t (V1.lenSl ty_27 rfl) ?_)
      refine TL.cons rfl (T1.ltI_split rfl rfl (fun h21 => ?_) (fun h21 => ?_))
      ·
        obtain ⟨x, hx0⟩ : ∃ x, ts[i]? = some x := ⟨_, List.getElem?_eq_getElem (by omega)⟩
        have hcx := ih x (List.mem_of_getElem? hx0)
        have hsx := (shp_mk.1 hsh).2 x (List.mem_of_getElem? hx0)
        have hjx := join_le hx0
        have hzx := tsize_mem (List.mem_of_getElem? hx0)
        obtain ⟨bx, ox, cs_, rfl, hx, hrdx⟩ := hr.term ht hx0 P
        obtain ⟨kx, nx, asx⟩ := x
        obtain ⟨ax, cx, vsx, rfl, hrx, hlx, htx⟩ := hx.inv
        try simp only at *
        refine TL.nil ?_
        refine T.cond_t rfl ?_
        refine T.skip ?_
        refine T.seq ?_
        refine T.block ?_
        refine T.seq ?_
        refine T.seq ?_
        refine T.region ?_
        refine TL.cons rfl (V1.t (V1.move' z_D) ?_)
        refine TL.cons rfl (T1.gtI_split rfl rfl (fun h23 => ?_) (fun h23 => ?_))
        ·
          refine TL.nil ?_
          refine T.cond_t rfl ?_
          refine T.region ?_
          refine TL.cons rfl (V1.t (V1.move' z_D) ?_)
          refine TL.cons rfl (V1.t (V1.addSr (a := (hd ++ [40]) ++ joinC (txtM (ts.take i))) (b := [44]) rfl rfl (by (try simp only [List.length_append, List.length_cons, List.length_nil]); omega) rfl) ?_)
          refine TL.cons rfl (V1.t (V1.assign' z_D) ?_)
          refine TL.nil ?_
          refine T.region ?_
          refine TL.cons rfl (V1.t (V1.move' z_D) ?_)
          refine TL.cons rfl (V1.t (V1.fieldAddr fl_29_2 rfl) ?_)
          refine TL.cons rfl (V1.t (V1.load1 (v := .slice (some ⟨bx, ox, none⟩) ts.length c) one_27 rfl (.own (cells := [.int .i64 k, .string (bstr nm), .slice (some ⟨bx, ox, none⟩) ts.length c]) z_C (by rfl))) ?_)
          refine TL.cons rfl (V1.t (V1.move' z_D) ?_)
          refine TL.cons rfl (V1.t (V1.indexAddrS ty_27 sz_29 rfl rfl (by omega) (by omega)) ?_)
          refine TL.cons rfl (V1.t (V1.loadN (vs := [.int .i64 kx, .string (bstr nx), .slice ax asx.length cx]) one_29 sz_29 rfl (hrdx _ rfl rfl _ z_E) rfl) ?_)
          refine TL.cons rfl (T1.callV has_15 rfl rfl (hcx Ps _ hx hsx (by omega)) z_E (fun v_ hv => ?_))
          obtain rfl := hv
          refine TL.cons rfl (V1.t (V1.addSr (a := ((hd ++ [40]) ++ joinC (txtM (ts.take i))) ++ [44]) (b := txt (.mk kx nx asx)) rfl rfl (by (try simp only [List.length_append, List.length_cons, List.length_nil]); omega) rfl) ?_)
          refine TL.cons rfl (V1.t (V1.assign' z_D) ?_)
          refine TL.nil ?_
          refine T.live (l := [(1, _), (3, _), (4, _)]) (.cons z_D (.cons z_D (.cons z_D .nil))) (fun e_ => ?_)
          refine T.region ?_
          refine TL.cons rfl (V1.t (V1.move' z_D) ?_)
          refine TL.cons rfl (V1.t (V1.add (c := ((i + 1 : Nat) : Int)) rfl rfl (by rw [wrap_i64 _ (by omega) (by omega)]; omega)) ?_)
          refine TL.cons rfl (V1.t (V1.assign' z_D) ?_)
          refine TL.nil ?_
          exact ⟨i + 1, (⟨b1, 0, [.int .i64 k, .string (bstr nm), .slice (some ⟨bx, ox, none⟩) ts.length c], 3⟩ : Blk) :: G, _, (by simp only; omega), (.cons rfl (.cons (by show Value.string (bstr _) = Value.string (bstr _); rw [tx_step1 hx0 h23 hi]) .nil)), (.cons rfl .nil), z_A, ⟨rfl, by omega⟩⟩
        ·
          refine TL.nil ?_
          refine T.cond_f rfl ?_
          refine T.skip ?_
          refine T.region ?_
          refine TL.cons rfl (V1.t (V1.move' z_D) ?_)
          refine TL.cons rfl (V1.t (V1.fieldAddr fl_29_2 rfl) ?_)
          refine TL.cons rfl (V1.t (V1.load1 (v := .slice (some ⟨bx, ox, none⟩) ts.length c) one_27 rfl (.own (cells := [.int .i64 k, .string (bstr nm), .slice (some ⟨bx, ox, none⟩) ts.length c]) z_C (by rfl))) ?_)
          refine TL.cons rfl (V1.t (V1.move' z_D) ?_)
          refine TL.cons rfl (V1.t (V1.indexAddrS ty_27 sz_29 rfl rfl (by omega) (by omega)) ?_)
          refine TL.cons rfl (V1.t (V1.loadN (vs := [.int .i64 kx, .string (bstr nx), .slice ax asx.length cx]) one_29 sz_29 rfl (hrdx _ rfl rfl _ z_E) rfl) ?_)
          refine TL.cons rfl (T1.callV has_15 rfl rfl (hcx Ps _ hx hsx (by omega)) z_E (fun v_ hv => ?_))
          obtain rfl := hv
          refine TL.cons rfl (V1.t (V1.addSr (a := ((hd ++ [40]) ++ joinC (txtM (ts.take i)))) (b := txt (.mk kx nx asx)) rfl rfl (by (try simp only [List.length_append, List.length_cons, List.length_nil]); omega) rfl) ?_)
          refine TL.cons rfl (V1.t (V1.assign' z_D) ?_)
          refine TL.nil ?_
          refine T.live (l := [(1, _), (3, _), (4, _)]) (.cons z_D (.cons z_D (.cons z_D .nil))) (fun e_ => ?_)
          refine T.region ?_
          refine TL.cons rfl (V1.t (V1.move' z_D) ?_)
          refine TL.cons rfl (V1.t (V1.add (c := ((i + 1 : Nat) : Int)) rfl rfl (by rw [wrap_i64 _ (by omega) (by omega)]; omega)) ?_)
          refine TL.cons rfl (V1.t (V1.assign' z_D) ?_)
          refine TL.nil ?_
          exact ⟨i + 1, (⟨b1, 0, [.int .i64 k, .string (bstr nm), .slice (some ⟨bx, ox, none⟩) ts.length c], 3⟩ : Blk) :: G, _, (by simp only; omega), (.cons rfl (.cons (by show Value.string (bstr _) = Value.string (bstr _); rw [tx_step0 hx0 (by omega)]) .nil)), (.cons rfl .nil), z_A, ⟨rfl, by omega⟩⟩
      ·
        obtain rfl : i = ts.length := by omega
        rw [List.take_length]
        refine TL.nil ?_
        refine T.cond_f rfl ?_
        refine T.exit ?_
        refine T.seq ?_
        refine T.region ?_
        refine TL.cons rfl (V1.t (V1.move' z_D) ?_)
        refine TL.cons rfl (V1.t (V1.addSr (a := (hd ++ [40]) ++ joinC (txtM ts)) (b := [41]) (r := txt (.mk k nm ts)) rfl rfl (by (try simp only [List.length_append, List.length_cons, List.length_nil]); omega) (by rw [htx2]; simp)) ?_)
        refine TL.cons rfl (V1.t (V1.assign' z_D) ?_)
        refine TL.nil ?_
        refine T.ret ?_
        exact ⟨_, G, _, .cons (.tmp z_D) .nil, z_A, rfl, rfl⟩
  ·
    refine T.region ?_
    refine TL.cons rfl (V1.t (V1.fieldAddr fl_29_0 rfl) ?_)
    refine TL.cons rfl (V1.t (V1.load1 (v := .int .i64 k) one_3 rfl (.own (cells := [.int .i64 k, .string (bstr nm), .slice a ts.length c]) z_C (by rfl))) ?_)
    refine TL.cons rfl (V1.t (V1.eqI (r := false) rfl rfl (decide_eq_false (by omega))) ?_)
    refine TL.nil ?_
    refine T.cond_f rfl ?_
    refine T.skip ?_
    refine T.seq ?_
    refine T.region ?_
    refine TL.cons rfl (V1.t (V1.assign' z_D) ?_)
    refine TL.nil ?_
    refine T.cut (σ := List UInt8) (l0 := [(1, _)]) (fun x => [(3, .string (bstr x))]) (fun x L => L = (⟨b1, 0, [.int .i64 k, .string (bstr nm), .slice a ts.length c], 3⟩ : Blk) :: G ∧ txt (.mk k nm ts) = x ++ (40 :: (joinC (txtM ts) ++ [41])) ∧ x.length ≤ 30) (.cons z_D .nil) ?_ ?_
    ·
      refine T.seq ?_
      refine T.region ?_
      refine TL.cons rfl (V1.t (V1.fieldAddr fl_29_0 rfl) ?_)
      refine TL.cons rfl (V1.t (V1.load1 (v := .int .i64 k) one_3 rfl (.own (cells := [.int .i64 k, .string (bstr nm), .slice a ts.length c]) z_C (by rfl))) ?_)
      refine TL.nil ?_
      refine T.block ?_
      refine T.seq ?_
      refine T.region ?_
      refine TL.cons rfl (V1.t (V1.eqI (r := false) rfl rfl (decide_eq_false (by omega))) ?_)
      refine TL.cons rfl (V1.t (V1.assign' z_D) ?_)
      refine TL.nil ?_
      refine T.cond_f rfl ?_
      refine T.seq ?_
      refine T.region ?_
      refine TL.cons rfl (V1.t (V1.eqI (r := false) rfl rfl (decide_eq_false (by omega))) ?_)
      refine TL.cons rfl (V1.t (V1.assign' z_D) ?_)
      refine TL.nil ?_
      refine T.cond_f rfl ?_
      refine T.seq ?_
      refine T.region ?_
      refine TL.cons rfl (V1.t (V1.eqI (r := false) rfl rfl (decide_eq_false (by omega))) ?_)
      refine TL.cons rfl (V1.t (V1.assign' z_D) ?_)
      refine TL.nil ?_
      refine T.cond_f rfl ?_
      refine T.seq ?_
      refine T.region ?_
      refine TL.cons rfl (V1.t (V1.eqI (r := false) rfl rfl (decide_eq_false (by omega))) ?_)
      refine TL.cons rfl (V1.t (V1.assign' z_D) ?_)
      refine TL.nil ?_
      refine T.cond_f rfl ?_
      refine T.seq ?_
      refine T.live (l := [(1, _), (3, _), (11, _)]) (.cons z_D (.cons z_D (.cons z_D .nil))) (fun e_ => ?_)
      refine T.region ?_
      refine TL.cons rfl (V1.t (V1.eqI (r := false) rfl rfl (decide_eq_false (by omega))) ?_)
      refine TL.cons rfl (V1.t (V1.assign' z_D) ?_)
      refine TL.nil ?_
      refine T.cond_f rfl ?_
      refine T.seq ?_
      refine T.region ?_
      refine TL.cons rfl (V1.t (V1.eqI (r := true) rfl rfl (decide_eq_true (by omega))) ?_)
      refine TL.cons rfl (V1.t (V1.assign' z_D) ?_)
      refine TL.nil ?_
      refine T.cond_t rfl ?_
      refine T.region ?_
      refine TL.cons rfl (V1.t (V1.assign' z_D) ?_)
      refine TL.nil ?_
      exact ⟨[sgN 7], _, _, trivial, (.cons rfl .nil), (.cons rfl .nil), z_A, ⟨rfl, by rw [htx]; rfl, by (try simp only [List.length_cons, List.length_nil]); omega⟩⟩
    ·
      rintro hd e_ L ⟨rfl, htx2, hhd⟩
      have hjl : (joinC (txtM ts)).length ≤ (txt (.mk k nm ts)).length := by rw [htx2]; simp only [List.length_append, List.length_cons]; omega
      refine T.seq ?_
      refine T.region ?_
      refine TL.cons rfl (V1.t (V1.move' z_D) ?_)
      refine TL.cons rfl (V1.t (V1.addSr (a := hd) (b := [40]) rfl rfl (by (try simp only [List.length_append, List.length_cons, List.length_nil]); omega) rfl) ?_)
      refine TL.cons rfl (V1.t (V1.assign' z_D) ?_)
      refine TL.nil ?_
      refine T.seq ?_
      refine T.seq ?_
      refine T.region ?_
      refine TL.cons rfl (V1.t (V1.assign' z_D) ?_)
      refine TL.nil ?_
      refine T.block ?_
      refine T.loopL (σ := Nat) (l0 := [(1, _)]) (fun x => [(4, .int .i64 (x : Nat)), (3, .string (bstr ((hd ++ [40]) ++ joinC (txtM (ts.take x)))))]) (fun i L => L = (⟨b1, 0, [.int .i64 k, .string (bstr nm), .slice a ts.length c], 3⟩ : Blk) :: G ∧ i ≤ ts.length) (fun i => ts.length - i) 0 (.cons rfl (.cons (by show Value.string (bstr _) = Value.string (bstr _); rw [show joinC (txtM (ts.take 0)) = [] from rfl, List.append_nil]) .nil)) (.cons z_D .nil) z_A (⟨rfl, Nat.zero_le _⟩) ?_
      rintro i e_ L ⟨rfl, hi⟩
      refine T.seq ?_
      refine T.seq ?_
      refine T.region ?_
      refine TL.cons rfl (V1.t (V1.move' z_D) ?_)
      refine TL.cons rfl (V1.t (V1.fieldAddr fl_29_2 rfl) ?_)
      refine TL.cons rfl (V1.t (V1.load1 (v := .slice a ts.length c) one_27 rfl (.own (cells := [.int .i64 k, .string (bstr nm), .slice a ts.length c]) z_C (by rfl))) ?_)
      refine TL.cons rfl (V1.t (V1.lenSl ty_27 rfl) ?_)
      refine TL.cons rfl (T1.ltI_split rfl rfl (fun h21 => ?_) (fun h21 => ?_))
      ·
        obtain ⟨x, hx0⟩ : ∃ x, ts[i]? = some x := ⟨_, List.getElem?_eq_getElem (by omega)⟩
        have hcx := ih x (List.mem_of_getElem? hx0)
        have hsx := (shp_mk.1 hsh).2 x (List.mem_of_getElem? hx0)
        have hjx := join_le hx0
        have hzx := tsize_mem (List.mem_of_getElem? hx0)
        obtain ⟨bx, ox, cs_, rfl, hx, hrdx⟩ := hr.term ht hx0 P
        obtain ⟨kx, nx, asx⟩ := x
        obtain ⟨ax, cx, vsx, rfl, hrx, hlx, htx⟩ := hx.inv
        try simp only at *
        refine TL.nil ?_
        refine T.cond_t rfl ?_
        refine T.skip ?_
        refine T.seq ?_
        refine T.block ?_
        refine T.seq ?_
        refine T.seq ?_
        refine T.region ?_
        refine TL.cons rfl (V1.t (V1.move' z_D) ?_)
        refine TL.cons rfl (T1.gtI_split rfl rfl (fun h23 => ?_) (fun h23 => ?_))
        ·
          refine TL.nil ?_
          refine T.cond_t rfl ?_
          refine T.region ?_
          refine TL.cons rfl (V1.t (V1.move' z_D) ?_)
          refine TL.cons rfl (V1.t (V1.addSr (a := (hd ++ [40]) ++ joinC (txtM (ts.take i))) (b := [44]) rfl rfl (by (try simp only [List.length_append, List.length_cons, List.length_nil]); omega) rfl) ?_)
          refine TL.cons rfl (V1.t (V1.assign' z_D) ?_)
          refine TL.nil ?_
          refine T.region ?_
          refine TL.cons rfl (V1.t (V1.move' z_D) ?_)
          refine TL.cons rfl (V1.t (V1.fieldAddr fl_29_2 rfl) ?_)
          refine TL.cons rfl (V1.t (V1.load1 (v := .slice (some ⟨bx, ox, none⟩) ts.length c) one_27 rfl (.own (cells := [.int .i64 k, .string (bstr nm), .slice (some ⟨bx, ox, none⟩) ts.length c]) z_C (by rfl))) ?_)
          refine TL.cons rfl (V1.t (V1.move' z_D) ?_)
          refine TL.cons rfl (V1.t (V1.indexAddrS ty_27 sz_29 rfl rfl (by omega) (by omega)) ?_)
          refine TL.cons rfl (V1.t (V1.loadN (vs := [.int .i64 kx, .string (bstr nx), .slice ax asx.length cx]) one_29 sz_29 rfl (hrdx _ rfl rfl _ z_E) rfl) ?_)
          refine TL.cons rfl (T1.callV has_15 rfl rfl (hcx Ps _ hx hsx (by omega)) z_E (fun v_ hv => ?_))
          obtain rfl := hv
          refine TL.cons rfl (V1.t (V1.addSr (a := ((hd ++ [40]) ++ joinC (txtM (ts.take i))) ++ [44]) (b := txt (.mk kx nx asx)) rfl rfl (by (try simp only [List.length_append, List.length_cons, List.length_nil]); omega) rfl) ?_)
          refine TL.cons rfl (V1.t (V1.assign' z_D) ?_)
          refine TL.nil ?_
          refine T.live (l := [(1, _), (3, _), (4, _)]) (.cons z_D (.cons z_D (.cons z_D .nil))) (fun e_ => ?_)
          refine T.region ?_
          refine TL.cons rfl (V1.t (V1.move' z_D) ?_)
          refine TL.cons rfl (V1.t (V1.add (c := ((i + 1 : Nat) : Int)) rfl rfl (by rw [wrap_i64 _ (by omega) (by omega)]; omega)) ?_)
          refine TL.cons rfl (V1.t (V1.assign' z_D) ?_)
          refine TL.nil ?_
          exact ⟨i + 1, (⟨b1, 0, [.int .i64 k, .string (bstr nm), .slice (some ⟨bx, ox, none⟩) ts.length c], 3⟩ : Blk) :: G, _, (by simp only; omega), (.cons rfl (.cons (by show Value.string (bstr _) = Value.string (bstr _); rw [tx_step1 hx0 h23 hi]) .nil)), (.cons rfl .nil), z_A, ⟨rfl, by omega⟩⟩
        ·
          refine TL.nil ?_
          refine T.cond_f rfl ?_
          refine T.skip ?_
          refine T.region ?_
          refine TL.cons rfl (V1.t (V1.move' z_D) ?_)
          refine TL.cons rfl (V1.t (V1.fieldAddr fl_29_2 rfl) ?_)
          refine TL.cons rfl (V1.t (V1.load1 (v := .slice (some ⟨bx, ox, none⟩) ts.length c) one_27 rfl (.own (cells := [.int .i64 k, .string (bstr nm), .slice (some ⟨bx, ox, none⟩) ts.length c]) z_C (by rfl))) ?_)
          refine TL.cons rfl (V1.t (V1.move' z_D) ?_)
          refine TL.cons rfl (V1.t (V1.indexAddrS ty_27 sz_29 rfl rfl (by omega) (by omega)) ?_)
          refine TL.cons rfl (V1.t (V1.loadN (vs := [.int .i64 kx, .string (bstr nx), .slice ax asx.length cx]) one_29 sz_29 rfl (hrdx _ rfl rfl _ z_E) rfl) ?_)
          refine TL.cons rfl (T1.callV has_15 rfl rfl (hcx Ps _ hx hsx (by omega)) z_E (fun v_ hv => ?_))
          obtain rfl := hv
          refine TL.cons rfl (V1.t (V1.addSr (a := ((hd ++ [40]) ++ joinC (txtM (ts.take i)))) (b := txt (.mk kx nx asx)) rfl rfl (by (try simp only [List.length_append, List.length_cons, List.length_nil]); omega) rfl) ?_)
          refine TL.cons rfl (V1.t (V1.assign' z_D) ?_)
          refine TL.nil ?_
          refine T.live (l := [(1, _), (3, _), (4, _)]) (.cons z_D (.cons z_D (.cons z_D .nil))) (fun e_ => ?_)
          refine T.region ?_
          refine TL.cons rfl (V1.t (V1.move' z_D) ?_)
          refine TL.cons rfl (V1.t (V1.add (c := ((i + 1 : Nat) : Int)) rfl rfl (by rw [wrap_i64 _ (by omega) (by omega)]; omega)) ?_)
          refine TL.cons rfl (V1.t (V1.assign' z_D) ?_)
          refine TL.nil ?_
          exact ⟨i + 1, (⟨b1, 0, [.int .i64 k, .string (bstr nm), .slice (some ⟨bx, ox, none⟩) ts.length c], 3⟩ : Blk) :: G, _, (by simp only; omega), (.cons rfl (.cons (by show Value.string (bstr _) = Value.string (bstr _); rw [tx_step0 hx0 (by omega)]) .nil)), (.cons rfl .nil), z_A, ⟨rfl, by omega⟩⟩
      ·
        obtain rfl : i = ts.length := by omega
        rw [List.take_length]
        refine TL.nil ?_
        refine T.cond_f rfl ?_
        refine T.exit ?_
        refine T.seq ?_
        refine T.region ?_
        refine TL.cons rfl (V1.t (V1.move' z_D) ?_)
        refine TL.cons rfl (V1.t (V1.addSr (a := (hd ++ [40]) ++ joinC (txtM ts)) (b := [41]) (r := txt (.mk k nm ts)) rfl rfl (by (try simp only [List.length_append, List.length_cons, List.length_nil]); omega) (by rw [htx2]; simp)) ?_)
        refine TL.cons rfl (V1.t (V1.assign' z_D) ?_)
        refine TL.nil ?_
        refine T.ret ?_
        exact ⟨_, G, _, .cons (.tmp z_D) .nil, z_A, rfl, rfl⟩
  ·
    refine T.region ?_
    refine TL.cons rfl (V1.t (V1.fieldAddr fl_29_0 rfl) ?_)
    refine TL.cons rfl (V1.t (V1.load1 (v := .int .i64 k) one_3 rfl (.own (cells := [.int .i64 k, .string (bstr nm), .slice a ts.length c]) z_C (by rfl))) ?_)
    refine TL.cons rfl (V1.t (V1.eqI (r := false) rfl rfl (decide_eq_false (by omega))) ?_)
    refine TL.nil ?_
    refine T.cond_f rfl ?_
    refine T.skip ?_
    refine T.seq ?_
    refine T.region ?_
    refine TL.cons rfl (V1.t (V1.assign' z_D) ?_)
    refine TL.nil ?_
    refine T.cut (σ := List UInt8) (l0 := [(1, _)]) (fun x => [(3, .string (bstr x))]) (fun x L => L = (⟨b1, 0, [.int .i64 k, .string (bstr nm), .slice a ts.length c], 3⟩ : Blk) :: G ∧ txt (.mk k nm ts) = x ++ (40 :: (joinC (txtM ts) ++ [41])) ∧ x.length ≤ 30) (.cons z_D .nil) ?_ ?_
    ·
      refine T.seq ?_
      refine T.region ?_
      refine TL.cons rfl (V1.t (V1.fieldAddr fl_29_0 rfl) ?_)
      refine TL.cons rfl (V1.t (V1.load1 (v := .int .i64 k) one_3 rfl (.own (cells := [.int .i64 k, .string (bstr nm), .slice a ts.length c]) z_C (by rfl))) ?_)
      refine TL.nil ?_
      refine T.block ?_
      refine T.seq ?_
      refine T.region ?_
      refine TL.cons rfl (V1.t (V1.eqI (r := false) rfl rfl (decide_eq_false (by omega))) ?_)
      refine TL.cons rfl (V1.t (V1.assign' z_D) ?_)
      refine TL.nil ?_
      refine T.cond_f rfl ?_
      refine T.seq ?_
      refine T.region ?_
      refine TL.cons rfl (V1.t (V1.eqI (r := false) rfl rfl (decide_eq_false (by omega))) ?_)
      refine TL.cons rfl (V1.t (V1.assign' z_D) ?_)
      refine TL.nil ?_
      refine T.cond_f rfl ?_
      refine T.seq ?_
      refine T.region ?_
      refine TL.cons rfl (V1.t (V1.eqI (r := false) rfl rfl (decide_eq_false (by omega))) ?_)
      refine TL.cons rfl (V1.t (V1.assign' z_D) ?_)
      refine TL.nil ?_
      refine T.cond_f rfl ?_
      refine T.seq ?_
      refine T.region ?_
      refine TL.cons rfl (V1.t (V1.eqI (r := false) rfl rfl (decide_eq_false (by omega))) ?_)
      refine TL.cons rfl (V1.t (V1.assign' z_D) ?_)
      refine TL.nil ?_
      refine T.cond_f rfl ?_
      refine T.seq ?_
      refine T.live (l := [(1, _), (3, _), (11, _)]) (.cons z_D (.cons z_D (.cons z_D .nil))) (fun e_ => ?_)
      refine T.region ?_
      refine TL.cons rfl (V1.t (V1.eqI (r := false) rfl rfl (decide_eq_false (by omega))) ?_)
      refine TL.cons rfl (V1.t (V1.assign' z_D) ?_)
      refine TL.nil ?_
      refine T.cond_f rfl ?_
      refine T.seq ?_
      refine T.region ?_
      refine TL.cons rfl (V1.t (V1.eqI (r := false) rfl rfl (decide_eq_false (by omega))) ?_)
      refine TL.cons rfl (V1.t (V1.assign' z_D) ?_)
      refine TL.nil ?_
      refine T.cond_f rfl ?_
      refine T.seq ?_
      refine T.region ?_
      refine TL.cons rfl (V1.t (V1.eqI (r := true) rfl rfl (decide_eq_true (by omega))) ?_)
      refine TL.cons rfl (V1.t (V1.assign' z_D) ?_)
      refine TL.nil ?_
      refine T.cond_t rfl ?_
      refine T.region ?_
      refine TL.cons rfl (V1.t (V1.assign' z_D) ?_)
      refine TL.nil ?_
      exact ⟨[sgN 8], _, _, trivial, (.cons rfl .nil), (.cons rfl .nil), z_A, ⟨rfl, by rw [htx]; rfl, by (try simp only [List.length_cons, List.length_nil]); omega⟩⟩
    ·
      rintro hd e_ L ⟨rfl, htx2, hhd⟩
      have hjl : (joinC (txtM ts)).length ≤ (txt (.mk k nm ts)).length := by rw [htx2]; simp only [List.length_append, List.length_cons]; omega
      refine T.seq ?_
      refine T.region ?_
      refine TL.cons rfl (V1.t (V1.move' z_D) ?_)
      refine TL.cons rfl (V1.t (V1.addSr (a := hd) (b := [40]) rfl rfl (by (try simp only [List.length_append, List.length_cons, List.length_nil]); omega) rfl) ?_)
      refine TL.cons rfl (V1.t (V1.assign' z_D) ?_)
      refine TL.nil ?_
      refine T.seq ?_
      refine T.seq ?_
      refine T.region ?_
      refine TL.cons rfl (V1.t (V1.assign' z_D) ?_)
      refine TL.nil ?_
      refine T.block ?_
      refine T.loopL (σ := Nat) (l0 := [(1, _)]) (fun x => [(4, .int .i64 (x : Nat)), (3, .string (bstr ((hd ++ [40]) ++ joinC (txtM (ts.take x)))))]) (fun i L => L = (⟨b1, 0, [.int .i64 k, .string (bstr nm), .slice a ts.length c], 3⟩ : Blk) :: G ∧ i ≤ ts.length) (fun i => ts.length - i) 0 (.cons rfl (.cons (by show Value.string (bstr _) = Value.string (bstr _); rw [show joinC (txtM (ts.take 0)) = [] from rfl, List.append_nil]) .nil)) (.cons z_D .nil) z_A (⟨rfl, Nat.zero_le _⟩) ?_
      rintro i e_ L ⟨rfl, hi⟩
      refine T.seq ?_
      refine T.seq ?_
      refine T.region ?_
      refine TL.cons rfl (V1.t (V1.move' z_D) ?_)
      refine TL.cons rfl (V1.t (V1.fieldAddr fl_29_2 rfl) ?_)
      refine TL.cons rfl (V1.t (V1.load1 (v := .slice a ts.length c) one_27 rfl (.own (cells := [.int .i64 k, .string (bstr nm), .slice a ts.length c]) z_C (by rfl))) ?_)
      refine TL.cons rfl (V1.t (V1.lenSl ty_27 rfl) ?_)
      refine TL.cons rfl (T1.ltI_split rfl rfl (fun h21 => ?_) (fun h21 => ?_))
      ·
        obtain ⟨x, hx0⟩ : ∃ x, ts[i]? = some x := ⟨_, List.getElem?_eq_getElem (by omega)⟩
        have hcx := ih x (List.mem_of_getElem? hx0)
        have hsx := (shp_mk.1 hsh).2 x (List.mem_of_getElem? hx0)
        have hjx := join_le hx0
        have hzx := tsize_mem (List.mem_of_getElem? hx0)
        obtain ⟨bx, ox, cs_, rfl, hx, hrdx⟩ := hr.term ht hx0 P
        obtain ⟨kx, nx, asx⟩ := x
        obtain ⟨ax, cx, vsx, rfl, hrx, hlx, htx⟩ := hx.inv
        try simp only at *
        refine TL.nil ?_
        refine T.cond_t rfl ?_
        refine T.skip ?_
        refine T.seq ?_
        refine T.block ?_
        refine T.seq ?_
        refine T.seq ?_
        refine T.region ?_
        refine TL.cons rfl (V1.t (V1.move' z_D) ?_)
        refine TL.cons rfl (T1.gtI_split rfl rfl (fun h23 => ?_) (fun h23 => ?_))
        ·
          refine TL.nil ?_
          refine T.cond_t rfl ?_
          refine T.region ?_
          refine TL.cons rfl (V1.t (V1.move' z_D) ?_)
          refine TL.cons rfl (V1.t (V1.addSr (a := (hd ++ [40]) ++ joinC (txtM (ts.take i))) (b := [44]) rfl rfl (by (try simp only [List.length_append, List.length_cons, List.length_nil]); omega) rfl) ?_)
          refine TL.cons rfl (V1.t (V1.assign' z_D) ?_)
          refine TL.nil ?_
          refine T.region ?_
          refine TL.cons rfl (V1.t (V1.move' z_D) ?_)
          refine TL.cons rfl (V1.t (V1.fieldAddr fl_29_2 rfl) ?_)
          refine TL.cons rfl (V1.t (V1.load1 (v := .slice (some ⟨bx, ox, none⟩) ts.length c) one_27 rfl (.own (cells := [.int .i64 k, .string (bstr nm), .slice (some ⟨bx, ox, none⟩) ts.length c]) z_C (by rfl))) ?_)
          refine TL.cons rfl (V1.t (V1.move' z_D) ?_)
          refine TL.cons rfl (V1.t (V1.indexAddrS ty_27 sz_29 rfl rfl (by omega) (by omega)) ?_)
          refine TL.cons rfl (V1.t (V1.loadN (vs := [.int .i64 kx, .string (bstr nx), .slice ax asx.length cx]) one_29 sz_29 rfl (hrdx _ rfl rfl _ z_E) rfl) ?_)
          refine TL.cons rfl (T1.callV has_15 rfl rfl (hcx Ps _ hx hsx (by omega)) z_E (fun v_ hv => ?_))
          obtain rfl := hv
          refine TL.cons rfl (V1.t (V1.addSr (a := ((hd ++ [40]) ++ joinC (txtM (ts.take i))) ++ [44]) (b := txt (.mk kx nx asx)) rfl rfl (by (try simp only [List.length_append, List.length_cons, List.length_nil]); omega) rfl) ?_)
          refine TL.cons rfl (V1.t (V1.assign' z_D) ?_)
          refine TL.nil ?_
          refine T.live (l := [(1, _), (3, _), (4, _)]) (.cons z_D (.cons z_D (.cons z_D .nil))) (fun e_ => ?_)
          refine T.region ?_
          refine TL.cons rfl (V1.t (V1.move' z_D) ?_)
          refine TL.cons rfl (V1.t (V1.add (c := ((i + 1 : Nat) : Int)) rfl rfl (by rw [wrap_i64 _ (by omega) (by omega)]; omega)) ?_)
          refine TL.cons rfl (V1.t (V1.assign' z_D) ?_)
          refine TL.nil ?_
          exact ⟨i + 1, (⟨b1, 0, [.int .i64 k, .string (bstr nm), .slice (some ⟨bx, ox, none⟩) ts.length c], 3⟩ : Blk) :: G, _, (by simp only; omega), (.cons rfl (.cons (by show Value.string (bstr _) = Value.string (bstr _); rw [tx_step1 hx0 h23 hi]) .nil)), (.cons rfl .nil), z_A, ⟨rfl, by omega⟩⟩
        ·
          refine TL.nil ?_
          refine T.cond_f rfl ?_
          refine T.skip ?_
          refine T.region ?_
          refine TL.cons rfl (V1.t (V1.move' z_D) ?_)
          refine TL.cons rfl (V1.t (V1.fieldAddr fl_29_2 rfl) ?_)
          refine TL.cons rfl (V1.t (V1.load1 (v := .slice (some ⟨bx, ox, none⟩) ts.length c) one_27 rfl (.own (cells := [.int .i64 k, .string (bstr nm), .slice (some ⟨bx, ox, none⟩) ts.length c]) z_C (by rfl))) ?_)
          refine TL.cons rfl (V1.t (V1.move' z_D) ?_)
          refine TL.cons rfl (V1.t (V1.indexAddrS ty_27 sz_29 rfl rfl (by omega) (by omega)) ?_)
          refine TL.cons rfl (V1.t (V1.loadN (vs := [.int .i64 kx, .string (bstr nx), .slice ax asx.length cx]) one_29 sz_29 rfl (hrdx _ rfl rfl _ z_E) rfl) ?_)
          refine TL.cons rfl (T1.callV has_15 rfl rfl (hcx Ps _ hx hsx (by omega)) z_E (fun v_ hv => ?_))
          obtain rfl := hv
          refine TL.cons rfl (V1.t (V1.addSr (a := ((hd ++ [40]) ++ joinC (txtM (ts.take i)))) (b := txt (.mk kx nx asx)) rfl rfl (by (try simp only [List.length_append, List.length_cons, List.length_nil]); omega) rfl) ?_)
          refine TL.cons rfl (V1.t (V1.assign' z_D) ?_)
          refine TL.nil ?_
          refine T.live (l := [(1, _), (3, _), (4, _)]) (.cons z_D (.cons z_D (.cons z_D .nil))) (fun e_ => ?_)
          refine T.region ?_
          refine TL.cons rfl (V1.t (V1.move' z_D) ?_)
          refine TL.cons rfl (V1.t (V1.add (c := ((i + 1 : Nat) : Int)) rfl rfl (by rw [wrap_i64 _ (by omega) (by omega)]; omega)) ?_)
          refine TL.cons rfl (V1.t (V1.assign' z_D) ?_)
          refine TL.nil ?_
          exact ⟨i + 1, (⟨b1, 0, [.int .i64 k, .string (bstr nm), .slice (some ⟨bx, ox, none⟩) ts.length c], 3⟩ : Blk) :: G, _, (by simp only; omega), (.cons rfl (.cons (by show Value.string (bstr _) = Value.string (bstr _); rw [tx_step0 hx0 (by omega)]) .nil)), (.cons rfl .nil), z_A, ⟨rfl, by omega⟩⟩
      ·
        obtain rfl : i = ts.length := by omega
        rw [List.take_length]
        refine TL.nil ?_
        refine T.cond_f rfl ?_
        refine T.exit ?_
        refine T.seq ?_
        refine T.region ?_
        refine TL.cons rfl (V1.t (V1.move' z_D) ?_)
        refine TL.cons rfl (V1.t (V1.addSr (a := (hd ++ [40]) ++ joinC (txtM ts)) (b := [41]) (r := txt (.mk k nm ts)) rfl rfl (by (try simp only [List.length_append, List.length_cons, List.length_nil]); omega) (by rw [htx2]; simp)) ?_)
        refine TL.cons rfl (V1.t (V1.assign' z_D) ?_)
        refine TL.nil ?_
        refine T.ret ?_
        exact ⟨_, G, _, .cons (.tmp z_D) .nil, z_A, rfl, rfl⟩

theorem Tx_any (w0 : World) (x : Tm) : TxAt w0 x := by
  induction x using Tm.ind with
  | h k n xs ih => exact fun Ps cx hx h1 h2 => Tx_step w0 Ps ih cx hx h1 h2
end Go.Proofs.YtlpkcbkflfbclaaGreatDoor.S
