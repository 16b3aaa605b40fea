/- What events tell. -/
import Derived.Test.YtfjedhmffccgnaaGreatDoorG5
namespace Go.Proofs.YtfjedhmffccgnaaGreatDoor.S
open Go.RowKit
def evC (e : Int × Int) : List Value := [.int .i64 e.1, .int .i64 e.2]
theorem ev_len : ∀ es : List (Int × Int), (es.flatMap evC).length = es.length * 2
 | [] => rfl
 | e :: es => by rw [List.flatMap_cons, List.length_append, ev_len es, List.length_cons]; show 2 + _ = _; omega
theorem ev_at : ∀ {es : List (Int × Int)} {i : Nat} {e : Int × Int}, es[i]? = some e → ((es.flatMap evC).drop (i * 2)).take 2 = evC e
 | [], i, e, h => by simp at h
 | a :: es, 0, e, h => by simp at h; subst h; rfl
 | a :: es, i + 1, e, h => by
  rw [List.getElem?_cons_succ] at h
  rw [List.flatMap_cons, show (i + 1) * 2 = (evC a).length + i * 2 by show _ = 2 + _; omega, List.drop_length_add_append]
  exact ev_at h
def TdsR (w0 : World) (Ps : List Blk) : List Td → List Value → Prop
  | [], vs => vs = []
  | t :: ts, vs => ∃ cs rest, vs = cs ++ rest ∧ TdR w0 Ps t cs ∧ TdsR w0 Ps ts rest
section
variable {w0 : World} {Ps Qs : List Blk}
theorem TdsR.nil : TdsR w0 Ps [] [] := rfl
theorem TdsR.of : ∀ {ts : List Td} {vs : List Value}, TdsR w0 Ps ts vs → vs.length = ts.length * 6 ∧ ∀ u ∈ vs, one u = true
 | [], vs, h => by rw [show vs = [] from h]; simp
 | t :: ts, vs, h => by
  obtain ⟨cs, rest, rfl, h1, h2⟩ := h
  obtain ⟨i1, i2⟩ := TdsR.of h2
  obtain ⟨j1, j2⟩ := h1.len
  refine ⟨by rw [List.length_append, j1, i1, List.length_cons]; omega, fun u hu => ?_⟩
  rcases List.mem_append.1 hu with hu | hu
  · exact j2 u hu
  · exact i2 u hu
theorem TdsR.more (hi : Inc Ps Qs) : ∀ {ts : List Td} {vs : List Value}, TdsR w0 Ps ts vs → TdsR w0 Qs ts vs
 | [], _, h => h
 | _ :: _, _, h => by obtain ⟨cs, rest, rfl, h1, h2⟩ := h; exact ⟨cs, rest, rfl, h1.more hi, TdsR.more hi h2⟩
theorem TdsR.app : ∀ {ts us : List Td} {vs ws : List Value}, TdsR w0 Ps ts vs → TdsR w0 Ps us ws → TdsR w0 Ps (ts ++ us) (vs ++ ws)
 | [], us, vs, ws, h, h' => by rw [show vs = [] from h]; exact h'
 | t :: ts, us, vs, ws, h, h' => by
  obtain ⟨cs, rest, rfl, h1, h2⟩ := h
  exact ⟨cs, rest ++ ws, by rw [List.append_assoc], h1, TdsR.app h2 h'⟩
theorem TdsR.one {t : Td} {cs : List Value} (h : TdR w0 Ps t cs) : TdsR w0 Ps [t] cs := ⟨cs, [], (List.append_nil cs).symm, h, rfl⟩
end
theorem Sl.blk1 {s : Value} {ns : List Nat} {Ls : List Blk} (h : Sl s (ns.map iV) 1 Ls) (hn : 0 < ns.length) : ∃ b off cap size, s = .slice (some ⟨b, off, none⟩) ns.length cap ∧ ns.length ≤ cap ∧ off + cap * 1 ≤ size ∧ Ls = [⟨b, off, ns.map iV, size⟩] := by
 rcases h with ⟨_, h, _⟩ | ⟨b, off, len, cap, size, rfl, h1, h2, h3, rfl⟩
 · rw [List.map_eq_nil_iff] at h; subst h; simp at hn
 ·
  obtain rfl : len = ns.length := by rw [List.length_map] at h1; omega
  exact ⟨b, off, cap, size, rfl, h2, h3, rfl⟩
theorem pubs_at : ∀ i < 6, Sg.init.known[i]? = some (pub (ownT (i + 1))) := by decide +kernel
theorem bare_len {m : Nat} {s : Sg} (h : SgInv m s) : s.bare.length ≤ 6 := by
 have key : ∀ (l big : List Nat), l.Nodup → (∀ x ∈ l, x ∈ big) → l.length ≤ big.length := by
  intro l
  induction l with
  | nil => intro big _ _; exact Nat.zero_le _
  | cons a l ih =>
   intro big h hs
   obtain ⟨h1, h2⟩ := List.nodup_cons.1 h
   have := ih (big.erase a) h2 fun x hx => (List.mem_erase_of_ne (fun e => h1 (by rw [← e]; exact hx))).2 (hs x (by simp [hx]))
   have hl := List.length_erase_of_mem (hs a (by simp))
   have hp := List.length_pos_of_mem (hs a (by simp))
   rw [List.length_cons]; omega
 have := key s.bare [1, 2, 3, 4, 5, 6] h.br.2 fun x hx => six_mem (h.br.1 x hx)
 simpa using this
def heardS (k : List Tm) : Sg := ⟨[], 0, 0, k, [], [], [], []⟩
def sgNil : Sg := ⟨[], 0, 0, [], [], [], [], []⟩
def sgOut (es : List (Int × Int)) : Sg := if (sgRun es).1 = 0 then (sgRun es).2 else sgNil
theorem sgOut_err {es : List (Int × Int)} (h : (sgRun es).1 ≠ 0) : sgOut es = sgNil := if_neg h
theorem runs_err {s : Sg} {k w c : Int} {rest : List (Int × Int)} (h : (s.step k w).1 = c) (hc : c ≠ 0) : (s.runs ((k, w) :: rest)).1 = c := by rw [Sg.runs, if_neg (by simp only; rw [h]; exact hc)]; exact h
theorem runs_ok {s : Sg} {k w : Int} {rest : List (Int × Int)} (h : (s.step k w).1 = 0) : s.runs ((k, w) :: rest) = (s.step k w).2.runs rest := by rw [Sg.runs, if_pos h]
theorem sgRun_few {es : List (Int × Int)} (h : es.length ≤ 24) : sgRun es = Sg.init.runs es := by unfold sgRun; rw [if_neg (by omega)]
theorem drop_ev {es : List (Int × Int)} {i : Nat} {e : Int × Int} (h : es[i]? = some e) : es.drop i = e :: es.drop (i + 1) := by
 have hi := (List.getElem?_eq_some_iff.1 h).1
 rw [List.drop_eq_getElem_cons hi, show es[i] = e from by rw [List.getElem?_eq_getElem hi] at h; exact Option.some.inj h]
section
variable {s : Sg} {k : Int} {w : Nat}
theorem step_range {w : Int} (h : w < 1 ∨ 6 < w) : s.step k w = (1, s) := if_pos h
theorem step_add (hw : 1 ≤ w ∧ w ≤ 6) (hk : k = 1) (hn : w ∉ s.names) : s.step k (w : Int) = (0, s.turn (addN s.names w)) := by
 unfold Sg.step; rw [if_neg zw, Int.toNat_natCast, if_pos ⟨hk, hn⟩]
theorem step_del (hw : 1 ≤ w ∧ w ≤ 6) (hk : k = 2) (hn : w ∈ s.names) : s.step k (w : Int) = (0, s.turn (delN s.names w)) := by
 unfold Sg.step; rw [if_neg zw, Int.toNat_natCast, if_neg zw, if_pos ⟨hk, hn⟩]
theorem step_say (hw : 1 ≤ w ∧ w ≤ 6) (hk : k = 3) (hn : w ∈ s.names) : s.step k (w : Int) = (0, s.say w) := by
 unfold Sg.step; rw [if_neg zw, Int.toNat_natCast, if_neg zw, if_neg zw, if_pos ⟨hk, hn⟩]
theorem step_lay (hw : 1 ≤ w ∧ w ≤ 6) (hk : k = 4) : s.step k (w : Int) = (0, s.lay w) := by
 unfold Sg.step; rw [if_neg zw, Int.toNat_natCast, if_neg zw, if_neg zw, if_neg zw, if_pos hk]
theorem step_shape (hw : 1 ≤ w ∧ w ≤ 6) (hk : k < 1 ∨ 4 < k) : s.step k (w : Int) = (110, s) := by
 unfold Sg.step; rw [if_neg zw, Int.toNat_natCast, if_neg zw, if_neg zw, if_neg zw, if_neg zw, if_pos hk]
theorem step_none (hw : 1 ≤ w ∧ w ≤ 6) (h1 : 1 ≤ k ∧ k ≤ 3) (h2 : k = 1 → w ∈ s.names) (h3 : k = 2 ∨ k = 3 → w ∉ s.names) : s.step k (w : Int) = (0, s) := by
 unfold Sg.step
 rw [if_neg zw, Int.toNat_natCast, if_neg (fun h => h.2 (h2 h.1)), if_neg (fun h => h3 (.inl h.1) h.2), if_neg (fun h => h3 (.inr h.1) h.2), if_neg zw, if_neg (by omega)]
end
set_option maxRecDepth 100000 in
set_option maxHeartbeats 8000000 in
theorem Run_own (w0 : World) (Ps : List Blk) {es : List (Int × Int)} {a : Option Addr} {c : Nat} (hr : RowR w0 Ps 2 (.slice a es.length c) es.length (es.flatMap evC)) : FnG P 4 [.slice a es.length c] w0 Ps [] (fun v Y => ∃ vt vk vb Lt Lk Lb Q xt xk, Y = Lt ++ (Lk ++ (Lb ++ Q)) ∧ v = .tuple #[vt, vk, vb, .int .i64 (sgRun es).1] ∧ SlG (some 34) vt xt 6 Lt ∧ TdsR w0 (Q ++ []) (sgOut es).told xt ∧ SlG (some 32) vk xk 3 Lk ∧ TmsR w0 (Q ++ []) (sgOut es).known xk ∧ Sl vb ((sgOut es).bare.map iV) 1 Lb) := by
 refine FnG.of 141 [.tmp 2, .tmp 3, .tmp 4, .tmp 5] Go.Proofs.Tryz.func4 rfl rfl rfl rfl (fun G hG => ?_)
 refine zs ?_
 refine z0 (V1.lenSl ty_22 rfl) ?_
 refine zc (T1.gtI_split rfl rfl (fun h1 => ?_) (fun h1 => ?_))
 ·
  refine TL.nil ?_
  refine T.cond_t rfl (zs ?_)
  have hE : (sgRun es).1 = 2 := by unfold sgRun; rw [if_pos (by omega)]
  exact ⟨_, G, _, .cons (.tmp z_C) (.cons (.tmp z_C) (.cons (.tmp z_C) (.cons (.tmp z_C) .nil))), z_B, [], rfl, _, _, _, [], [], [], [], [], [], rfl, by rw [hE]; rfl, SlG.nil, by rw [sgOut_err (by rw [hE]; decide)]; exact TdsR.nil, SlG.nil, by rw [sgOut_err (by rw [hE]; decide)]; exact TmsR.nil, by rw [sgOut_err (by rw [hE]; decide)]; exact Sl.nil⟩
 ·
  have hes : es.length ≤ 24 := by omega
  refine TL.nil ?_
  refine T.cond_f rfl (zs ?_)
  refine z0 (V1.build0 pl_62 zr_62) ?_
  refine zc (T1.boxN 5 rfl rfl (fun bt => z1 ?_))
  refine T.seq (T.region (z1 ?_))
  refine T.seq (T.seq (T.region (z1 ?_)))
  refine T.block (T.loopL (σ := Nat) (l0 := [(0, _), (6, _), (7, _)]) (fun x => [(8, .int .i64 ((x + 1 : Nat) : Int))]) (fun x L => x ≤ 6 ∧ ∃ vn Ln vb Lb vk Lk xk Q, L = (⟨bt, 0, [vn, iV (heardS (Sg.init.known.take x)).epoch, iV (heardS (Sg.init.known.take x)).says, vk, vb], 5⟩ : Blk) :: (Ln ++ (Lb ++ (Lk ++ ((Q ++ G))))) ∧ Sl vn ((heardS (Sg.init.known.take x)).names.map iV) 1 Ln ∧ Sl vb ((heardS (Sg.init.known.take x)).bare.map iV) 1 Lb ∧ SlG (some 32) vk xk 3 Lk ∧ TmsR w0 (Q ++ []) (heardS (Sg.init.known.take x)).known xk) (fun x => 6 - x) 0 (.cons rfl .nil) zT z_B (⟨Nat.zero_le _, _, [], _, [], _, [], [], [], rfl, Sl.nil, Sl.nil, SlG.nil, TmsR.nil⟩) ?_)
  rintro i e_ L ⟨hi, vn, Ln, vb, Lb, vk, Lk, xk, Q, rfl, hsn, hsb, hsk, hxk⟩
  refine zs ?_
  refine zc (T1.leI_split rfl rfl (fun h6 => ?_) (fun h6 => ?_))
  ·
   refine TL.nil ?_
   refine T.cond_t rfl (zs ?_)
   refine zc (T1.callV has_12 rfl rfl (own_any w0 (i + 1) zw) z_D (fun v_ hv => ?_))
   obtain rfl := hv
   refine zc (T1.buildOne (cs := [.int .i64 1, .string (bstr (nmb sOwn [i + 1])), .slice none 0 0]) ty_24 sz_32 zr_32 ze rfl zr (fun b26 => ?_))
   refine zc (T1.callV has_11 rfl rfl (one_any w0 _ _ _ _ _) z_D (fun v_ hv => ?_))
   obtain rfl := hv
   refine zc (T1.buildOne (cs := [.int .i64 5, .string (bstr []), .slice (some ⟨b26, 0, none⟩) 1 1]) ty_24 sz_32 zr_32 ze rfl zr (fun b28 => ?_))
   refine zc (T1.callM (X := ⟨bt, 0, [vn, iV (heardS (Sg.init.known.take i)).epoch, iV (heardS (Sg.init.known.take i)).says, vk, vb], 5⟩ :: (Ln ++ (Lb ++ Lk))) has_10 rfl rfl (hear_any w0 ((⟨⟨b28, some 32⟩, 0, [.int .i64 5, .string (bstr []), .slice (some ⟨b26, 0, none⟩) 1 1], 3⟩ : Blk) :: (⟨⟨b26, some 32⟩, 0, [.int .i64 1, .string (bstr (nmb sOwn [i + 1])), .slice none 0 0], 3⟩ : Blk) :: (Q ++ [])) (s := heardS (Sg.init.known.take i)) (vn := vn) (vb := vb) (Ln := Ln) (Lb := Lb) ⟨vk, Lk, xk, rfl, hsn, hsb, hsk, hxk.more (Inc.skip1 (Inc.skip1 Inc.refl))⟩ (us := [pub (ownT (i + 1))]) (zf) (TmsR.one (TmR.mkN (nm := []) (n := 1) rfl (RowR.own (List.mem_cons_of_mem _ (List.mem_cons_self ..)) rfl) ze (TmsR.one TmR.atom))) (by show (Sg.init.known.take i).length + 1 ≤ 2000; rw [List.length_take]; omega)) z_B z_D (fun v_ Yh hY => ?_))
   obtain ⟨vk2, Lk2, xk2, rfl, _, _, hsk2, hxk2⟩ := hY
   simp only [List.cons_append, List.append_assoc]
   try dsimp only
   refine zs ?_
   refine zq1 (V1.add (c := ((i + 1 + 1 : Nat) : Int)) rfl rfl z_J) ?_
   exact ⟨i + 1, ⟨bt, 0, [vn, iV (heardS (Sg.init.known.take (i + 1))).epoch, iV (heardS (Sg.init.known.take (i + 1))).says, vk2, vb], 5⟩ :: (Ln ++ (Lb ++ (Lk2 ++ ((⟨⟨b28, some 32⟩, 0, [.int .i64 5, .string (bstr []), .slice (some ⟨b26, 0, none⟩) 1 1], 3⟩ : Blk) :: (⟨⟨b26, some 32⟩, 0, [.int .i64 1, .string (bstr (nmb sOwn [i + 1])), .slice none 0 0], 3⟩ : Blk) :: (Q ++ G))))), _, z_N, (.cons rfl .nil), (.cons rfl (.cons rfl (.cons rfl .nil))), z_B, ⟨by omega, vn, Ln, vb, Lb, vk2, Lk2, xk2, (⟨⟨b28, some 32⟩, 0, [.int .i64 5, .string (bstr []), .slice (some ⟨b26, 0, none⟩) 1 1], 3⟩ : Blk) :: (⟨⟨b26, some 32⟩, 0, [.int .i64 1, .string (bstr (nmb sOwn [i + 1])), .slice none 0 0], 3⟩ : Blk) :: Q, by simp only [List.cons_append, List.append_assoc], hsn, hsb, hsk2, by show TmsR w0 _ (Sg.init.known.take (i + 1)) _; rw [List.take_add_one, pubs_at i (by omega)]; exact hxk2⟩⟩
  ·
   obtain rfl : i = 6 := by omega
   refine TL.nil ?_
   refine T.cond_f rfl (zs ?_)
   refine zq1 (V1.lenSl ty_22 rfl) ?_
   refine T.block (T.loopL (σ := Nat × Value) (l0 := [(6, _), (30, _), (31, _)]) (fun x => [(32, .int .i64 (x.1 : Nat)), (7, x.2)]) (fun x L => ∃ s vn Ln vb Lb vk Lk xk Lt xt Q, L = (⟨bt, 0, [vn, iV (s).epoch, iV (s).says, vk, vb], 5⟩ : Blk) :: (Ln ++ (Lb ++ (Lk ++ (Lt ++ (Q ++ G))))) ∧ x.1 ≤ es.length ∧ Sl vn (s.names.map iV) 1 Ln ∧ Sl vb (s.bare.map iV) 1 Lb ∧ SlG (some 32) vk xk 3 Lk ∧ TmsR w0 (Q ++ []) s.known xk ∧ SlG (some 34) x.2 xt 6 Lt ∧ TdsR w0 (Q ++ []) s.told xt ∧ SgInv x.1 s ∧ Sg.init.runs es = s.runs (es.drop x.1)) (fun x => es.length - x.1) (0, .slice none 0 0) (.cons rfl (.cons rfl .nil)) zT z_B (⟨Sg.init, vn, Ln, vb, Lb, vk, Lk, xk, [], [], Q, rfl, Nat.zero_le _, hsn, hsb, hsk, hxk, SlG.nil, TdsR.nil, SgInv.start, rfl⟩) ?_)
   rintro ⟨i, vt⟩ e_ L ⟨s, vn, Ln, vb, Lb, vk, Lk, xk, Lt, xt, Q, rfl, hi, hsn, hsb, hsk, hxk, hst, hxt, hI, hrun⟩
   simp only at hi hst hI hrun
   dsimp only
   have hn6 := asc_len (nm_ok hI).1 (nm_ok hI).2
   have h99 : ∀ n ∈ s.names, n < 100 := fun n hn => by have := (nm_ok hI).2 n hn; omega
   have hep := hI.ep
   have hsa := hI.says
   have htl := hI.tl
   have hkl := hI.kl
   have hb6 := bare_len hI
   have hrn := Sl.nat (w0 := w0) hsn
   have hrb := Sl.nat (w0 := w0) hsb
   refine zs ?_
   refine zc (T1.ltI_split rfl rfl (fun h10 => ?_) (fun h10 => ?_))
   ·
    obtain ⟨⟨k, w⟩, hx0⟩ : ∃ e, es[i]? = some e := ⟨_, List.getElem?_eq_getElem zw⟩
    obtain ⟨b_, o_, rfl, hrd⟩ := hr.at zw P
    have hrde : ∀ C : Ctx, C.w0 = w0 → C.M = [] → ∀ L, Inc Ps L → RdN C L ⟨b_, o_ + i * 2, none⟩ [.int .i64 k, .int .i64 w] := fun C h0 hm L hL => by have h_ := ((hrd C h0 hm L hL).elem (k := 2) (n := es.length) (ev_len es) (by omega : i < es.length)).1; rwa [ev_at hx0] at h_
    refine zs ?_
    refine T.cond_t rfl (T.skip (T.cut (σ := Value) (l0 := [(6, _), (30, _), (31, _), (32, _)]) (fun x => [(7, x)]) (fun x L => (s.step k w).1 = 0 ∧ ∃ vn Ln vb Lb vk Lk xk Lt xt Q, L = (⟨bt, 0, [vn, iV ((s.step k w).2).epoch, iV ((s.step k w).2).says, vk, vb], 5⟩ : Blk) :: (Ln ++ (Lb ++ (Lk ++ (Lt ++ (Q ++ G))))) ∧ Sl vn ((s.step k w).2.names.map iV) 1 Ln ∧ Sl vb ((s.step k w).2.bare.map iV) 1 Lb ∧ SlG (some 32) vk xk 3 Lk ∧ TmsR w0 (Q ++ []) (s.step k w).2.known xk ∧ SlG (some 34) x xt 6 Lt ∧ TdsR w0 (Q ++ []) (s.step k w).2.told xt) (.cons z_C (.cons z_C (.cons z_C (.cons z_C .nil)))) ?_ ?_))
    ·
     refine zs ?_
     refine z0 (V1.indexAddrS ty_22 sz_30 rfl rfl zw zw) ?_
     refine z0 (V1.loadN (vs := [.int .i64 k, .int .i64 w]) one_30 sz_30 rfl (hrde _ rfl rfl _ z_D) rfl) ?_
     refine zc (T1.allocN 2 zr_30 rfl (fun b10 => ?_))
     refine zc (T1.storeN rfl rfl sz_30 (ones rfl) z_H zr zr ?_)
     refine TL.nil ?_
     refine T.seq (T.drawK (fun L_ => Find L_ (⟨bt, 0, [vn, iV (s).epoch, iV (s).says, vk, vb], 5⟩ : Blk) ∧ Find L_ (⟨b10, 0, [.int .i64 k, .int .i64 w], 2⟩ : Blk)) mixed ⟨z_A, z_A⟩ ?_)
     refine zk 0 rfl (fun ⟨k1_, k2_⟩ => V1.move' z_C) ?_
     refine zk 1 rfl (fun ⟨k1_, k2_⟩ => V1.nilCheck rfl) ?_
     refine zk 2 rfl (fun ⟨k1_, k2_⟩ => V1.fieldAddr fl_62_0 rfl) ?_
     refine zk 3 rfl (fun ⟨k1_, k2_⟩ => V1.load1 (v := vn) one_25 rfl (.own z_A zr)) ?_
     refine zk 4 rfl (fun ⟨k1_, k2_⟩ => V1.fieldAddr fl_30_1 rfl) ?_
     refine zk 5 rfl (fun ⟨k1_, k2_⟩ => V1.load1 (v := .int .i64 w) one_3 rfl (.own z_A zr)) ?_
     refine zo 6 rfl rfl (T1.callV has_13 rfl rfl (Contains_any w0 Ln hrn zw w) z_D (fun v_ hv => ?_))
     obtain rfl := hv
     rcases Bool.eq_false_or_eq_true (inI s.names w) with hin | hin <;> rw [hin]
     ·
      refine ⟨⟨z_A, z_A⟩, zk 7 rfl (fun ⟨k1_, k2_⟩ => V1.assign' z_C) ?_⟩
      refine TD.done z_F ?_
      refine zs ?_
      refine z0 (V1.fieldAddr fl_30_1 rfl) ?_
      refine z0 (V1.load1 (v := .int .i64 w) one_3 rfl (.own z_A zr)) ?_
      refine zc (T1.ltI_split rfl rfl (fun h13 => ?_) (fun h13 => ?_))
      ·
       refine zs ?_
       refine TL.no rfl ?_
       refine TL.no rfl ?_
       refine TL.no rfl ?_
       refine zs ?_
       refine T.cond_t rfl (T.seq (T.live (l := []) .nil (fun e_ => ?_)))
       refine zs ?_
       have hE : (sgRun es).1 = 1 := by rw [sgRun_few zw, hrun, drop_ev hx0]; exact runs_err (by rw [step_range (by omega)]) ze
       exact ⟨_, G, _, .cons (.tmp z_C) (.cons (.tmp z_C) (.cons (.tmp z_C) (.cons (.tmp z_C) .nil))), z_B, [], rfl, _, _, _, [], [], [], [], [], [], rfl, by rw [hE]; rfl, SlG.nil, by rw [sgOut_err (by rw [hE]; decide)]; exact TdsR.nil, SlG.nil, by rw [sgOut_err (by rw [hE]; decide)]; exact TmsR.nil, by rw [sgOut_err (by rw [hE]; decide)]; exact Sl.nil⟩
      ·
       refine zs ?_
       refine z0 (V1.fieldAddr fl_30_1 rfl) ?_
       refine z0 (V1.load1 (v := .int .i64 w) one_3 rfl (.own z_A zr)) ?_
       refine z0 (V1.gtI (r := decide (w > 6)) rfl rfl rfl) ?_
       rcases Classical.em (w > 6) with h136 | h136
       ·
        rw [decide_eq_true h136]
        refine zs ?_
        refine T.cond_t rfl (T.seq (T.live (l := []) .nil (fun e_ => ?_)))
        refine zs ?_
        have hE : (sgRun es).1 = 1 := by rw [sgRun_few zw, hrun, drop_ev hx0]; exact runs_err (by rw [step_range (by omega)]) ze
        exact ⟨_, G, _, .cons (.tmp z_C) (.cons (.tmp z_C) (.cons (.tmp z_C) (.cons (.tmp z_C) .nil))), z_B, [], rfl, _, _, _, [], [], [], [], [], [], rfl, by rw [hE]; rfl, SlG.nil, by rw [sgOut_err (by rw [hE]; decide)]; exact TdsR.nil, SlG.nil, by rw [sgOut_err (by rw [hE]; decide)]; exact TmsR.nil, by rw [sgOut_err (by rw [hE]; decide)]; exact Sl.nil⟩
       ·
        rw [decide_eq_false h136]
        obtain ⟨w1, rfl⟩ : ∃ w1 : Nat, w = w1 := ⟨w.toNat, by omega⟩
        have hw6 : 1 ≤ w1 ∧ w1 ≤ 6 := by omega
        have hw99 : w1 < 100 := by omega
        rw [inI_nat] at hin
        have hin2 : w1 ∈ s.names := of_decide_eq_true hin
        refine zs ?_
        refine T.cond_f rfl (T.seq (T.live (l := [(6, _), (7, _), (10, _), (11, _), (30, _), (31, _), (32, _)]) zT (fun e_ => ?_)))
        refine T.region (z0 (V1.fieldAddr fl_30_0 rfl) ?_)
        refine z0 (V1.load1 (v := .int .i64 k) one_3 rfl (.own z_A zr)) ?_
        refine z0 (V1.eqI (r := decide (k = 1)) rfl rfl rfl) ?_
        rcases Classical.em (k = 1) with hk1 | hk1
        ·
         rw [decide_eq_true hk1]
         refine zs ?_
         refine zq (V1.not rfl rfl) ?_
         refine T.cond_f rfl (zs ?_)
         refine z0 (V1.fieldAddr fl_30_0 rfl) ?_
         refine z0 (V1.load1 (v := .int .i64 k) one_3 rfl (.own z_A zr)) ?_
         refine zq (V1.eqI (r := false) rfl rfl (decide_eq_false zw)) ?_
         refine TL.no rfl ?_
         refine zs ?_
         refine T.cond_f rfl (T.seq (T.live (l := [(6, _), (7, _), (10, _), (11, _), (30, _), (31, _), (32, _)]) zT (fun e_ => ?_)))
         refine T.region (z0 (V1.fieldAddr fl_30_0 rfl) ?_)
         refine z0 (V1.load1 (v := .int .i64 k) one_3 rfl (.own z_A zr)) ?_
         refine zq (V1.eqI (r := false) rfl rfl (decide_eq_false zw)) ?_
         refine TL.no rfl ?_
         refine zs ?_
         refine T.cond_f rfl (zs ?_)
         refine z0 (V1.fieldAddr fl_30_0 rfl) ?_
         refine z0 (V1.load1 (v := .int .i64 k) one_3 rfl (.own z_A zr)) ?_
         refine zq (V1.eqI (r := false) rfl rfl (decide_eq_false zw)) ?_
         refine T.cond_f rfl (zs ?_)
         refine z0 (V1.fieldAddr fl_30_0 rfl) ?_
         refine z0 (V1.load1 (v := .int .i64 k) one_3 rfl (.own z_A zr)) ?_
         refine zq (V1.ltI (r := false) rfl rfl (decide_eq_false zw)) ?_
         refine z0 (V1.fieldAddr fl_30_0 rfl) ?_
         refine z0 (V1.load1 (v := .int .i64 k) one_3 rfl (.own z_A zr)) ?_
         refine zq (V1.gtI (r := false) rfl rfl (decide_eq_false zw)) ?_
         refine T.cond_f rfl (T.skip ?_)
         exact ⟨vt, ⟨bt, 0, [vn, iV (s).epoch, iV (s).says, vk, vb], 5⟩ :: (Ln ++ (Lb ++ (Lk ++ (Lt ++ (Q ++ G))))), _, trivial, (.cons rfl .nil), (.cons rfl (.cons rfl (.cons rfl (.cons rfl .nil)))), z_B, ⟨by rw [step_none hw6 zw (fun h => hin2) (fun h => absurd h zw)], by rw [step_none hw6 zw (fun h => hin2) (fun h => absurd h zw)]; exact ⟨vn, Ln, vb, Lb, vk, Lk, xk, Lt, xt, Q, rfl, hsn, hsb, hsk, hxk, hst, hxt⟩⟩⟩
        ·
         rw [decide_eq_false hk1]
         refine zs ?_
         refine TL.no rfl ?_
         refine TL.no rfl ?_
         refine zs ?_
         refine T.cond_f rfl (zs ?_)
         refine z0 (V1.fieldAddr fl_30_0 rfl) ?_
         refine z0 (V1.load1 (v := .int .i64 k) one_3 rfl (.own z_A zr)) ?_
         refine z0 (V1.eqI (r := decide (k = 2)) rfl rfl rfl) ?_
         rcases Classical.em (k = 2) with hk2 | hk2
         ·
          rw [decide_eq_true hk2]
          refine zs ?_
          refine T.cond_t rfl (T.seq (T.live (l := [(6, _), (7, _), (10, _), (30, _), (31, _), (32, _)]) zT (fun e_ => ?_)))
          refine zs ?_
          refine z0 (V1.nilCheck rfl) ?_
          refine z0 (V1.fieldAddr fl_62_0 rfl) ?_
          refine z0 (V1.load1 (v := vn) one_25 rfl (.own z_A zr)) ?_
          obtain ⟨b_, off_, cap_, size_, rfl, hcap_, hsz_, rfl⟩ := Sl.blk1 hsn (List.length_pos_of_mem hin2)
          refine z0 (V1.makeFuncC z_C) ?_
          refine zc (T1.callM (X := [⟨b_, off_, s.names.map iV, size_⟩]) has_16 rfl rfl (DeleteI_us w0 [(⟨b10, 0, [.int .i64 k, .int .i64 (w1 : Nat)], 2⟩ : Blk)] b_ off_ size_ cap_ (ns := s.names) zw hcap_ b10 k (w1 : Nat) (List.mem_cons_self ..) w1 rfl hin2) z_B z_D (fun v_ Yh hY => ?_))
          obtain ⟨rfl, rfl⟩ := hY
          have hdl : (delN s.names w1).length ≤ s.names.length := List.length_filter_le _ _
          have hsA : Sl (.slice (some ⟨b_, off_, none⟩) (delN s.names w1).length cap_) ((delN s.names w1).map iV) 1 [⟨b_, off_, (delN s.names w1).map iV, size_⟩] := Sl.mk (by rw [List.length_map, Nat.mul_one]) zw hsz_
          simp only [List.cons_append, List.nil_append]
          refine z0 (V1.nilCheck rfl) ?_
          refine z0 (V1.fieldAddr fl_62_0 rfl) ?_
          refine zc (T1.store1 rfl rfl sz_25 rfl z_H (Nat.zero_le _) z_K ?_)
          refine zs ?_
          refine zc (T1.callM (X := ⟨bt, 0, [.slice (some ⟨b_, off_, none⟩) (delN s.names w1).length cap_, iV (s).epoch, iV (s).says, vk, vb], 5⟩ :: ([⟨b_, off_, (delN s.names w1).map iV, size_⟩] ++ (Lb ++ Lk))) has_15 rfl rfl (turn_any w0 (Q ++ []) (s := { s with names := delN s.names w1 }) (vn := .slice (some ⟨b_, off_, none⟩) (delN s.names w1).length cap_) (vb := vb) (Lb := Lb) ⟨vk, Lk, xk, rfl, hsA, hsb, hsk, hxk⟩ (by show (delN s.names w1).length ≤ 6; omega) (fun n hn => h99 n (delN_mem.1 hn).1) (by show s.epoch < 98; omega) (by show s.known.length ≤ 1900; omega)) z_B z_D (fun v_ Yh hY => ?_))
          obtain ⟨Y2_, Q2, rfl, vk2, Lk2, xk2, rfl, _, _, hsk2, hxk2⟩ := hY
          simp only [List.cons_append, List.append_assoc, List.nil_append]
          try dsimp only
          refine TL.nil ?_
          exact ⟨vt, ⟨bt, 0, [.slice (some ⟨b_, off_, none⟩) (delN s.names w1).length cap_, iV (s.turn (delN s.names w1)).epoch, iV (s.turn (delN s.names w1)).says, vk2, vb], 5⟩ :: ([⟨b_, off_, (delN s.names w1).map iV, size_⟩] ++ (Lb ++ (Lk2 ++ (Lt ++ (Q2 ++ (Q ++ G)))))), _, trivial, (.cons rfl .nil), (.cons rfl (.cons rfl (.cons rfl (.cons rfl .nil)))), z_B, ⟨by rw [step_del hw6 hk2 hin2], by rw [step_del hw6 hk2 hin2]; exact ⟨_, _, vb, Lb, vk2, Lk2, xk2, Lt, xt, Q2 ++ Q, by simp only [List.append_assoc], hsA, hsb, hsk2, hxk2.more (by intro B_ hB_; simp only [List.mem_append, List.mem_cons, List.not_mem_nil, or_false] at hB_ ⊢; grind), hst, hxt.more (by intro B_ hB_; simp only [List.mem_append, List.mem_cons, List.not_mem_nil, or_false] at hB_ ⊢; grind)⟩⟩⟩
         ·
          rw [decide_eq_false hk2]
          refine zs ?_
          refine TL.no rfl ?_
          refine zs ?_
          refine T.cond_f rfl (T.seq (T.live (l := [(6, _), (7, _), (10, _), (11, _), (30, _), (31, _), (32, _)]) zT (fun e_ => ?_)))
          refine T.region (z0 (V1.fieldAddr fl_30_0 rfl) ?_)
          refine z0 (V1.load1 (v := .int .i64 k) one_3 rfl (.own z_A zr)) ?_
          refine z0 (V1.eqI (r := decide (k = 3)) rfl rfl rfl) ?_
          rcases Classical.em (k = 3) with hk3 | hk3
          ·
           rw [decide_eq_true hk3]
           refine zs ?_
           refine T.cond_t rfl (zs ?_)
           refine z0 (V1.fieldAddr fl_30_1 rfl) ?_
           refine z0 (V1.load1 (v := iV w1) one_3 rfl (.own z_A zr)) ?_
           refine zc (T1.callM (X := ⟨bt, 0, [vn, iV (s).epoch, iV (s).says, vk, vb], 5⟩ :: (Ln ++ (Lb ++ Lk))) has_18 rfl rfl (say_any w0 (Q ++ []) (s := s) (vn := vn) (vb := vb) (Ln := Ln) (Lb := Lb) ⟨vk, Lk, xk, rfl, hsn, hsb, hsk, hxk⟩ hn6 hin2 hw99 zw zw zw) z_B z_D (fun v_ Yh hY => ?_))
           obtain ⟨Y2_, Q2, cs_, rfl, rfl, ⟨vk2, Lk2, xk2, rfl, _, _, hsk2, hxk2⟩, ac, cc, rfl, hrc⟩ := hY
           have htd : TdR w0 (Q2 ++ (Q ++ [])) ⟨w1, s.epoch, s.names, s.says + 1⟩ [iV w1, iV s.epoch, .slice ac s.names.length cc, .int .i64 1, .string (bstr (nmb sText [s.says + 1])), .slice none 0 0] := ⟨ac, cc, rfl, hrc⟩
           simp only [List.cons_append, List.append_assoc]
           try dsimp only
           refine zs ?_
           refine zc (T1.allocN 6 zr_34 rfl (fun b12 => ?_))
           refine zc (T1.storeN rfl rfl sz_34 (ones rfl) z_H zr zr ?_)
           refine z1 ?_
           refine T.live (l := [(6, _), (7, _), (12, _), (30, _), (31, _), (32, _)]) zT (fun e_ => ?_)
           refine zs ?_
           refine z0 (V1.loadN (vs := [iV w1, iV s.epoch, .slice ac s.names.length cc, .int .i64 1, .string (bstr (nmb sText [s.says + 1])), .slice none 0 0]) one_34 sz_34 rfl (RdN.whole z_A) rfl) ?_
           refine zc (T1.buildOne (cs := [iV w1, iV s.epoch, .slice ac s.names.length cc, .int .i64 1, .string (bstr (nmb sText [s.says + 1])), .slice none 0 0]) ty_23 sz_34 zr_34 ze rfl zr (fun b112 => ?_))
           refine zc (T1.appendG ty_23 kd_23 sz_34 by_34 zr_34 rfl ze ze rfl rfl (.inr rfl) hst (.sl (vs := [iV w1, iV s.epoch, .slice ac s.names.length cc, .int .i64 1, .string (bstr (nmb sText [s.says + 1])), .slice none 0 0]) (RdN.at0 z_A) zr) (ones rfl) 1000 (by rw [hxt.of.1]; show _ + 6 ≤ _; omega) ze z_E (fun s2 Lt2 hst2 => z1 ?_))
           exact ⟨s2, ⟨bt, 0, [vn, iV (s.say w1).epoch, iV (s.say w1).says, vk2, vb], 5⟩ :: (Ln ++ (Lb ++ (Lk2 ++ (Lt2 ++ (Q2 ++ (Q ++ G)))))), _, trivial, (.cons rfl .nil), (.cons rfl (.cons rfl (.cons rfl (.cons rfl .nil)))), z_B, ⟨by rw [step_say hw6 hk3 hin2], by rw [step_say hw6 hk3 hin2]; exact ⟨vn, Ln, vb, Lb, vk2, Lk2, xk2, Lt2, _, Q2 ++ Q, by simp only [List.append_assoc], hsn, hsb, hsk2, hxk2.more (by intro B_ hB_; simp only [List.mem_append, List.mem_cons, List.not_mem_nil, or_false] at hB_ ⊢; grind), hst2, (hxt.more (by intro B_ hB_; simp only [List.mem_append, List.mem_cons, List.not_mem_nil, or_false] at hB_ ⊢; grind)).app (TdsR.one (htd.more (by intro B_ hB_; simp only [List.mem_append, List.mem_cons, List.not_mem_nil, or_false] at hB_ ⊢; grind)))⟩⟩⟩
          ·
           rw [decide_eq_false hk3]
           refine zs ?_
           refine TL.no rfl ?_
           refine zs ?_
           refine T.cond_f rfl (zs ?_)
           refine z0 (V1.fieldAddr fl_30_0 rfl) ?_
           refine z0 (V1.load1 (v := .int .i64 k) one_3 rfl (.own z_A zr)) ?_
           refine z0 (V1.eqI (r := decide (k = 4)) rfl rfl rfl) ?_
           rcases Classical.em (k = 4) with hk4 | hk4
           ·
            rw [decide_eq_true hk4]
            refine zs ?_
            refine T.cond_t rfl (zs ?_)
            refine z0 (V1.fieldAddr fl_30_1 rfl) ?_
            refine z0 (V1.load1 (v := iV w1) one_3 rfl (.own z_A zr)) ?_
            refine zc (T1.callM (X := ⟨bt, 0, [vn, iV (s).epoch, iV (s).says, vk, vb], 5⟩ :: (Ln ++ (Lb ++ Lk))) has_19 rfl rfl (lay_any w0 (Q ++ []) (s := s) (vn := vn) (vb := vb) (Ln := Ln) (Lb := Lb) ⟨vk, Lk, xk, rfl, hsn, hsb, hsk, hxk⟩ hn6 hb6 hw99 zw zw) z_B z_D (fun v_ Yh hY => ?_))
            obtain ⟨Y2_, Q2, vb2, Lb2, rfl, vk2, Lk2, xk2, rfl, _, hsb2, hsk2, hxk2⟩ := hY
            simp only [List.cons_append, List.append_assoc]
            try dsimp only
            refine TL.nil ?_
            exact ⟨vt, ⟨bt, 0, [vn, iV (s.lay w1).epoch, iV (s.lay w1).says, vk2, vb2], 5⟩ :: (Ln ++ (Lb2 ++ (Lk2 ++ (Lt ++ (Q2 ++ (Q ++ G)))))), _, trivial, (.cons rfl .nil), (.cons rfl (.cons rfl (.cons rfl (.cons rfl .nil)))), z_B, ⟨by rw [step_lay hw6 hk4], by rw [step_lay hw6 hk4]; exact ⟨vn, Ln, vb2, Lb2, vk2, Lk2, xk2, Lt, xt, Q2 ++ Q, by simp only [List.append_assoc], hsn, hsb2, hsk2, hxk2.more (by intro B_ hB_; simp only [List.mem_append, List.mem_cons, List.not_mem_nil, or_false] at hB_ ⊢; grind), hst, hxt.more (by intro B_ hB_; simp only [List.mem_append, List.mem_cons, List.not_mem_nil, or_false] at hB_ ⊢; grind)⟩⟩⟩
           ·
            rw [decide_eq_false hk4]
            refine zs ?_
            refine T.cond_f rfl (zs ?_)
            refine z0 (V1.fieldAddr fl_30_0 rfl) ?_
            refine z0 (V1.load1 (v := .int .i64 k) one_3 rfl (.own z_A zr)) ?_
            refine zc (T1.ltI_split rfl rfl (fun h27 => ?_) (fun h27 => ?_))
            ·
             refine zs ?_
             refine TL.no rfl ?_
             refine TL.no rfl ?_
             refine TL.no rfl ?_
             refine zs ?_
             refine T.cond_t rfl (T.seq (T.live (l := []) .nil (fun e_ => ?_)))
             refine zs ?_
             have hE : (sgRun es).1 = 110 := by rw [sgRun_few zw, hrun, drop_ev hx0]; exact runs_err (by rw [step_shape hw6 (by omega)]) ze
             exact ⟨_, G, _, .cons (.tmp z_C) (.cons (.tmp z_C) (.cons (.tmp z_C) (.cons (.tmp z_C) .nil))), z_B, [], rfl, _, _, _, [], [], [], [], [], [], rfl, by rw [hE]; rfl, SlG.nil, by rw [sgOut_err (by rw [hE]; decide)]; exact TdsR.nil, SlG.nil, by rw [sgOut_err (by rw [hE]; decide)]; exact TmsR.nil, by rw [sgOut_err (by rw [hE]; decide)]; exact Sl.nil⟩
            ·
             refine zs ?_
             refine z0 (V1.fieldAddr fl_30_0 rfl) ?_
             refine z0 (V1.load1 (v := .int .i64 k) one_3 rfl (.own z_A zr)) ?_
             refine zq (V1.gtI (r := true) rfl rfl (decide_eq_true zw)) ?_
             refine T.cond_t rfl (T.seq (T.live (l := []) .nil (fun e_ => ?_)))
             refine zs ?_
             have hE : (sgRun es).1 = 110 := by rw [sgRun_few zw, hrun, drop_ev hx0]; exact runs_err (by rw [step_shape hw6 (by omega)]) ze
             exact ⟨_, G, _, .cons (.tmp z_C) (.cons (.tmp z_C) (.cons (.tmp z_C) (.cons (.tmp z_C) .nil))), z_B, [], rfl, _, _, _, [], [], [], [], [], [], rfl, by rw [hE]; rfl, SlG.nil, by rw [sgOut_err (by rw [hE]; decide)]; exact TdsR.nil, SlG.nil, by rw [sgOut_err (by rw [hE]; decide)]; exact TmsR.nil, by rw [sgOut_err (by rw [hE]; decide)]; exact Sl.nil⟩
     ·
      refine ⟨⟨z_A, z_A⟩, zk 7 rfl (fun ⟨k1_, k2_⟩ => V1.assign' z_C) ?_⟩
      refine TD.done z_F ?_
      refine zs ?_
      refine z0 (V1.fieldAddr fl_30_1 rfl) ?_
      refine z0 (V1.load1 (v := .int .i64 w) one_3 rfl (.own z_A zr)) ?_
      refine zc (T1.ltI_split rfl rfl (fun h13 => ?_) (fun h13 => ?_))
      ·
       refine zs ?_
       refine TL.no rfl ?_
       refine TL.no rfl ?_
       refine TL.no rfl ?_
       refine zs ?_
       refine T.cond_t rfl (T.seq (T.live (l := []) .nil (fun e_ => ?_)))
       refine zs ?_
       have hE : (sgRun es).1 = 1 := by rw [sgRun_few zw, hrun, drop_ev hx0]; exact runs_err (by rw [step_range (by omega)]) ze
       exact ⟨_, G, _, .cons (.tmp z_C) (.cons (.tmp z_C) (.cons (.tmp z_C) (.cons (.tmp z_C) .nil))), z_B, [], rfl, _, _, _, [], [], [], [], [], [], rfl, by rw [hE]; rfl, SlG.nil, by rw [sgOut_err (by rw [hE]; decide)]; exact TdsR.nil, SlG.nil, by rw [sgOut_err (by rw [hE]; decide)]; exact TmsR.nil, by rw [sgOut_err (by rw [hE]; decide)]; exact Sl.nil⟩
      ·
       refine zs ?_
       refine z0 (V1.fieldAddr fl_30_1 rfl) ?_
       refine z0 (V1.load1 (v := .int .i64 w) one_3 rfl (.own z_A zr)) ?_
       refine z0 (V1.gtI (r := decide (w > 6)) rfl rfl rfl) ?_
       rcases Classical.em (w > 6) with h136 | h136
       ·
        rw [decide_eq_true h136]
        refine zs ?_
        refine T.cond_t rfl (T.seq (T.live (l := []) .nil (fun e_ => ?_)))
        refine zs ?_
        have hE : (sgRun es).1 = 1 := by rw [sgRun_few zw, hrun, drop_ev hx0]; exact runs_err (by rw [step_range (by omega)]) ze
        exact ⟨_, G, _, .cons (.tmp z_C) (.cons (.tmp z_C) (.cons (.tmp z_C) (.cons (.tmp z_C) .nil))), z_B, [], rfl, _, _, _, [], [], [], [], [], [], rfl, by rw [hE]; rfl, SlG.nil, by rw [sgOut_err (by rw [hE]; decide)]; exact TdsR.nil, SlG.nil, by rw [sgOut_err (by rw [hE]; decide)]; exact TmsR.nil, by rw [sgOut_err (by rw [hE]; decide)]; exact Sl.nil⟩
       ·
        rw [decide_eq_false h136]
        obtain ⟨w1, rfl⟩ : ∃ w1 : Nat, w = w1 := ⟨w.toNat, by omega⟩
        have hw6 : 1 ≤ w1 ∧ w1 ≤ 6 := by omega
        have hw99 : w1 < 100 := by omega
        rw [inI_nat] at hin
        have hin2 : w1 ∉ s.names := of_decide_eq_false hin
        refine zs ?_
        refine T.cond_f rfl (T.seq (T.live (l := [(6, _), (7, _), (10, _), (11, _), (30, _), (31, _), (32, _)]) zT (fun e_ => ?_)))
        refine T.region (z0 (V1.fieldAddr fl_30_0 rfl) ?_)
        refine z0 (V1.load1 (v := .int .i64 k) one_3 rfl (.own z_A zr)) ?_
        refine z0 (V1.eqI (r := decide (k = 1)) rfl rfl rfl) ?_
        rcases Classical.em (k = 1) with hk1 | hk1
        ·
         rw [decide_eq_true hk1]
         refine zs ?_
         refine zq (V1.not rfl rfl) ?_
         refine T.cond_t rfl (T.seq (T.drawK (fun L_ => Find L_ (⟨b10, 0, [.int .i64 k, .int .i64 (w1 : Nat)], 2⟩ : Blk)) mixed z_A ?_))
         refine zk 0 rfl (fun k1_ => V1.move' z_C) ?_
         refine zk 1 rfl (fun k1_ => V1.move' z_C) ?_
         refine zk 2 rfl (fun k1_ => V1.nilCheck rfl) ?_
         refine zk 3 rfl (fun k1_ => V1.fieldAddr fl_62_0 rfl) ?_
         refine zk 5 rfl (fun k1_ => V1.fieldAddr fl_30_1 rfl) ?_
         refine zk 6 rfl (fun k1_ => V1.load1 (v := iV w1) one_3 rfl (.own z_A zr)) ?_
         refine TK.two 4 7 z_F rfl rfl rfl rfl (V1.t (V1.load1 (v := vn) one_25 rfl (.own z_A zr)) ?_) (T1.buildSl1 (os := [.tmp 66]) ty_25 sz_3 zr_3 ze rfl (.cons (v := iV w1) rfl .nil) rfl (ones rfl) (fun b67 => ?_))
         ·
          refine ⟨z_A, zo 7 rfl rfl (T1.buildSl1 (os := [.tmp 66]) ty_25 sz_3 zr_3 ze rfl (.cons (v := iV w1) rfl .nil) rfl (ones rfl) (fun b67 => ?_))⟩
          refine ⟨z_A, zo 8 rfl rfl (T1.append ty_25 kd_25 sz_3 by_3 zr_3 rfl ze ze rfl rfl hsn (.sl (vs := [iV w1]) (RdN.at0 z_A) zr) (ones rfl) 1000 (by rw [List.length_map]; show _ + 1 ≤ _; omega) ze z_E (fun s2 Ln2 hsn2 => ?_))⟩
          obtain ⟨b_, off_, cap_, size_, rfl, hcap_, hsz_, rfl⟩ := Sl.blk1 (ns := s.names ++ [w1]) (by rw [List.map_append]; exact hsn2) (by simp)
          refine ⟨z_A, zk 9 rfl (fun k1_ => V1.nilCheck rfl) ?_⟩
          refine zk 10 rfl (fun k1_ => V1.fieldAddr fl_62_0 rfl) ?_
          refine zo 11 rfl rfl (T1.store1 rfl rfl sz_25 rfl z_H (Nat.zero_le _) z_K ?_)
          refine ⟨z_A, TD.done z_F ?_⟩
          refine T.seq (T.live (l := [(6, _), (7, _), (30, _), (31, _), (32, _)]) zT (fun e_ => ?_))
          refine zs ?_
          refine z0 (V1.nilCheck rfl) ?_
          refine z0 (V1.fieldAddr fl_62_0 rfl) ?_
          refine z0 (V1.load1 (v := .slice (some ⟨b_, off_, none⟩) (s.names ++ [w1]).length cap_) one_25 rfl (.own z_A zr)) ?_
          refine zc (T1.callM (X := [⟨b_, off_, (s.names ++ [w1]).map iV, size_⟩]) has_14 rfl rfl (SortI_any w0 b_ off_ size_ cap_ (ns := s.names ++ [w1]) (by simp) (by rw [List.length_append, List.length_singleton]; omega)) z_B z_D (fun v_ Yh hY => ?_))
          obtain ⟨ms, rfl, hp, hs_⟩ := hY
          obtain rfl : ms = addN s.names w1 := sorted_add (nm_ok hI).1 (nm_ok hI).2 hw6 hin2 hp hs_
          have hsA : Sl (.slice (some ⟨b_, off_, none⟩) (s.names ++ [w1]).length cap_) ((addN s.names w1).map iV) 1 [⟨b_, off_, (addN s.names w1).map iV, size_⟩] := Sl.mk (by rw [List.length_map, Nat.mul_one]; exact hp.length_eq) hcap_ hsz_
          simp only [List.cons_append, List.nil_append]
          refine zs ?_
          refine zc (T1.callM (X := ⟨bt, 0, [.slice (some ⟨b_, off_, none⟩) (s.names ++ [w1]).length cap_, iV (s).epoch, iV (s).says, vk, vb], 5⟩ :: ([⟨b_, off_, (addN s.names w1).map iV, size_⟩] ++ (Lb ++ Lk))) has_15 rfl rfl (turn_any w0 (Q ++ []) (s := { s with names := addN s.names w1 }) (vn := .slice (some ⟨b_, off_, none⟩) (s.names ++ [w1]).length cap_) (vb := vb) (Lb := Lb) ⟨vk, Lk, xk, rfl, hsA, hsb, hsk, hxk⟩ (asc_len (addN_asc _ _) fun n hn => addN_6 hn) (fun n hn => by have := addN_6 (show n ∈ addN s.names w1 from hn); omega) (by show s.epoch < 98; omega) (by show s.known.length ≤ 1900; omega)) z_B z_D (fun v_ Yh hY => ?_))
          obtain ⟨Y2_, Q2, rfl, vk2, Lk2, xk2, rfl, _, _, hsk2, hxk2⟩ := hY
          simp only [List.cons_append, List.append_assoc, List.nil_append]
          try dsimp only
          refine TL.nil ?_
          exact ⟨vt, ⟨bt, 0, [.slice (some ⟨b_, off_, none⟩) (s.names ++ [w1]).length cap_, iV (s.turn (addN s.names w1)).epoch, iV (s.turn (addN s.names w1)).says, vk2, vb], 5⟩ :: ([⟨b_, off_, (addN s.names w1).map iV, size_⟩] ++ (Lb ++ (Lk2 ++ (Lt ++ (Q2 ++ (Q ++ G)))))), _, trivial, (.cons rfl .nil), (.cons rfl (.cons rfl (.cons rfl (.cons rfl .nil)))), z_B, ⟨by rw [step_add hw6 hk1 hin2], by rw [step_add hw6 hk1 hin2]; exact ⟨_, _, vb, Lb, vk2, Lk2, xk2, Lt, xt, Q2 ++ Q, by simp only [List.append_assoc], hsA, hsb, hsk2, hxk2.more (by intro B_ hB_; simp only [List.mem_append, List.mem_cons, List.not_mem_nil, or_false] at hB_ ⊢; grind), hst, hxt.more (by intro B_ hB_; simp only [List.mem_append, List.mem_cons, List.not_mem_nil, or_false] at hB_ ⊢; grind)⟩⟩⟩
         ·
          refine ⟨z_A, zo 4 rfl rfl (V1.t (V1.load1 (v := vn) one_25 rfl (.own z_A zr)) ?_)⟩
          refine ⟨z_A, zo 8 rfl rfl (T1.append ty_25 kd_25 sz_3 by_3 zr_3 rfl ze ze rfl rfl hsn (.sl (vs := [iV w1]) (RdN.at0 z_A) zr) (ones rfl) 1000 (by rw [List.length_map]; show _ + 1 ≤ _; omega) ze z_E (fun s2 Ln2 hsn2 => ?_))⟩
          obtain ⟨b_, off_, cap_, size_, rfl, hcap_, hsz_, rfl⟩ := Sl.blk1 (ns := s.names ++ [w1]) (by rw [List.map_append]; exact hsn2) (by simp)
          refine ⟨z_A, zk 9 rfl (fun k1_ => V1.nilCheck rfl) ?_⟩
          refine zk 10 rfl (fun k1_ => V1.fieldAddr fl_62_0 rfl) ?_
          refine zo 11 rfl rfl (T1.store1 rfl rfl sz_25 rfl z_H (Nat.zero_le _) z_K ?_)
          refine ⟨z_A, TD.done z_F ?_⟩
          refine T.seq (T.live (l := [(6, _), (7, _), (30, _), (31, _), (32, _)]) zT (fun e_ => ?_))
          refine zs ?_
          refine z0 (V1.nilCheck rfl) ?_
          refine z0 (V1.fieldAddr fl_62_0 rfl) ?_
          refine z0 (V1.load1 (v := .slice (some ⟨b_, off_, none⟩) (s.names ++ [w1]).length cap_) one_25 rfl (.own z_A zr)) ?_
          refine zc (T1.callM (X := [⟨b_, off_, (s.names ++ [w1]).map iV, size_⟩]) has_14 rfl rfl (SortI_any w0 b_ off_ size_ cap_ (ns := s.names ++ [w1]) (by simp) (by rw [List.length_append, List.length_singleton]; omega)) z_B z_D (fun v_ Yh hY => ?_))
          obtain ⟨ms, rfl, hp, hs_⟩ := hY
          obtain rfl : ms = addN s.names w1 := sorted_add (nm_ok hI).1 (nm_ok hI).2 hw6 hin2 hp hs_
          have hsA : Sl (.slice (some ⟨b_, off_, none⟩) (s.names ++ [w1]).length cap_) ((addN s.names w1).map iV) 1 [⟨b_, off_, (addN s.names w1).map iV, size_⟩] := Sl.mk (by rw [List.length_map, Nat.mul_one]; exact hp.length_eq) hcap_ hsz_
          simp only [List.cons_append, List.nil_append]
          refine zs ?_
          refine zc (T1.callM (X := ⟨bt, 0, [.slice (some ⟨b_, off_, none⟩) (s.names ++ [w1]).length cap_, iV (s).epoch, iV (s).says, vk, vb], 5⟩ :: ([⟨b_, off_, (addN s.names w1).map iV, size_⟩] ++ (Lb ++ Lk))) has_15 rfl rfl (turn_any w0 (Q ++ []) (s := { s with names := addN s.names w1 }) (vn := .slice (some ⟨b_, off_, none⟩) (s.names ++ [w1]).length cap_) (vb := vb) (Lb := Lb) ⟨vk, Lk, xk, rfl, hsA, hsb, hsk, hxk⟩ (asc_len (addN_asc _ _) fun n hn => addN_6 hn) (fun n hn => by have := addN_6 (show n ∈ addN s.names w1 from hn); omega) (by show s.epoch < 98; omega) (by show s.known.length ≤ 1900; omega)) z_B z_D (fun v_ Yh hY => ?_))
          obtain ⟨Y2_, Q2, rfl, vk2, Lk2, xk2, rfl, _, _, hsk2, hxk2⟩ := hY
          simp only [List.cons_append, List.append_assoc, List.nil_append]
          try dsimp only
          refine TL.nil ?_
          exact ⟨vt, ⟨bt, 0, [.slice (some ⟨b_, off_, none⟩) (s.names ++ [w1]).length cap_, iV (s.turn (addN s.names w1)).epoch, iV (s.turn (addN s.names w1)).says, vk2, vb], 5⟩ :: ([⟨b_, off_, (addN s.names w1).map iV, size_⟩] ++ (Lb ++ (Lk2 ++ (Lt ++ (Q2 ++ (Q ++ G)))))), _, trivial, (.cons rfl .nil), (.cons rfl (.cons rfl (.cons rfl (.cons rfl .nil)))), z_B, ⟨by rw [step_add hw6 hk1 hin2], by rw [step_add hw6 hk1 hin2]; exact ⟨_, _, vb, Lb, vk2, Lk2, xk2, Lt, xt, Q2 ++ Q, by simp only [List.append_assoc], hsA, hsb, hsk2, hxk2.more (by intro B_ hB_; simp only [List.mem_append, List.mem_cons, List.not_mem_nil, or_false] at hB_ ⊢; grind), hst, hxt.more (by intro B_ hB_; simp only [List.mem_append, List.mem_cons, List.not_mem_nil, or_false] at hB_ ⊢; grind)⟩⟩⟩
        ·
         rw [decide_eq_false hk1]
         refine zs ?_
         refine TL.no rfl ?_
         refine TL.no rfl ?_
         refine zs ?_
         refine T.cond_f rfl (zs ?_)
         refine z0 (V1.fieldAddr fl_30_0 rfl) ?_
         refine z0 (V1.load1 (v := .int .i64 k) one_3 rfl (.own z_A zr)) ?_
         refine z0 (V1.eqI (r := decide (k = 2)) rfl rfl rfl) ?_
         rcases Classical.em (k = 2) with hk2 | hk2
         ·
          rw [decide_eq_true hk2]
          refine zs ?_
          refine T.cond_f rfl (T.seq (T.live (l := [(6, _), (7, _), (10, _), (11, _), (30, _), (31, _), (32, _)]) zT (fun e_ => ?_)))
          refine T.region (z0 (V1.fieldAddr fl_30_0 rfl) ?_)
          refine z0 (V1.load1 (v := .int .i64 k) one_3 rfl (.own z_A zr)) ?_
          refine zq (V1.eqI (r := false) rfl rfl (decide_eq_false zw)) ?_
          refine TL.no rfl ?_
          refine zs ?_
          refine T.cond_f rfl (zs ?_)
          refine z0 (V1.fieldAddr fl_30_0 rfl) ?_
          refine z0 (V1.load1 (v := .int .i64 k) one_3 rfl (.own z_A zr)) ?_
          refine zq (V1.eqI (r := false) rfl rfl (decide_eq_false zw)) ?_
          refine T.cond_f rfl (zs ?_)
          refine z0 (V1.fieldAddr fl_30_0 rfl) ?_
          refine z0 (V1.load1 (v := .int .i64 k) one_3 rfl (.own z_A zr)) ?_
          refine zq (V1.ltI (r := false) rfl rfl (decide_eq_false zw)) ?_
          refine z0 (V1.fieldAddr fl_30_0 rfl) ?_
          refine z0 (V1.load1 (v := .int .i64 k) one_3 rfl (.own z_A zr)) ?_
          refine zq (V1.gtI (r := false) rfl rfl (decide_eq_false zw)) ?_
          refine T.cond_f rfl (T.skip ?_)
          exact ⟨vt, ⟨bt, 0, [vn, iV (s).epoch, iV (s).says, vk, vb], 5⟩ :: (Ln ++ (Lb ++ (Lk ++ (Lt ++ (Q ++ G))))), _, trivial, (.cons rfl .nil), (.cons rfl (.cons rfl (.cons rfl (.cons rfl .nil)))), z_B, ⟨by rw [step_none hw6 zw (fun h => absurd h zw) (fun h => hin2)], by rw [step_none hw6 zw (fun h => absurd h zw) (fun h => hin2)]; exact ⟨vn, Ln, vb, Lb, vk, Lk, xk, Lt, xt, Q, rfl, hsn, hsb, hsk, hxk, hst, hxt⟩⟩⟩
         ·
          rw [decide_eq_false hk2]
          refine zs ?_
          refine TL.no rfl ?_
          refine zs ?_
          refine T.cond_f rfl (T.seq (T.live (l := [(6, _), (7, _), (10, _), (11, _), (30, _), (31, _), (32, _)]) zT (fun e_ => ?_)))
          refine T.region (z0 (V1.fieldAddr fl_30_0 rfl) ?_)
          refine z0 (V1.load1 (v := .int .i64 k) one_3 rfl (.own z_A zr)) ?_
          refine z0 (V1.eqI (r := decide (k = 3)) rfl rfl rfl) ?_
          rcases Classical.em (k = 3) with hk3 | hk3
          ·
           rw [decide_eq_true hk3]
           refine zs ?_
           refine T.cond_f rfl (zs ?_)
           refine z0 (V1.fieldAddr fl_30_0 rfl) ?_
           refine z0 (V1.load1 (v := .int .i64 k) one_3 rfl (.own z_A zr)) ?_
           refine zq (V1.eqI (r := false) rfl rfl (decide_eq_false zw)) ?_
           refine T.cond_f rfl (zs ?_)
           refine z0 (V1.fieldAddr fl_30_0 rfl) ?_
           refine z0 (V1.load1 (v := .int .i64 k) one_3 rfl (.own z_A zr)) ?_
           refine zq (V1.ltI (r := false) rfl rfl (decide_eq_false zw)) ?_
           refine z0 (V1.fieldAddr fl_30_0 rfl) ?_
           refine z0 (V1.load1 (v := .int .i64 k) one_3 rfl (.own z_A zr)) ?_
           refine zq (V1.gtI (r := false) rfl rfl (decide_eq_false zw)) ?_
           refine T.cond_f rfl (T.skip ?_)
           exact ⟨vt, ⟨bt, 0, [vn, iV (s).epoch, iV (s).says, vk, vb], 5⟩ :: (Ln ++ (Lb ++ (Lk ++ (Lt ++ (Q ++ G))))), _, trivial, (.cons rfl .nil), (.cons rfl (.cons rfl (.cons rfl (.cons rfl .nil)))), z_B, ⟨by rw [step_none hw6 zw (fun h => absurd h zw) (fun h => hin2)], by rw [step_none hw6 zw (fun h => absurd h zw) (fun h => hin2)]; exact ⟨vn, Ln, vb, Lb, vk, Lk, xk, Lt, xt, Q, rfl, hsn, hsb, hsk, hxk, hst, hxt⟩⟩⟩
          ·
           rw [decide_eq_false hk3]
           refine zs ?_
           refine TL.no rfl ?_
           refine zs ?_
           refine T.cond_f rfl (zs ?_)
           refine z0 (V1.fieldAddr fl_30_0 rfl) ?_
           refine z0 (V1.load1 (v := .int .i64 k) one_3 rfl (.own z_A zr)) ?_
           refine z0 (V1.eqI (r := decide (k = 4)) rfl rfl rfl) ?_
           rcases Classical.em (k = 4) with hk4 | hk4
           ·
            rw [decide_eq_true hk4]
            refine zs ?_
            refine T.cond_t rfl (zs ?_)
            refine z0 (V1.fieldAddr fl_30_1 rfl) ?_
            refine z0 (V1.load1 (v := iV w1) one_3 rfl (.own z_A zr)) ?_
            refine zc (T1.callM (X := ⟨bt, 0, [vn, iV (s).epoch, iV (s).says, vk, vb], 5⟩ :: (Ln ++ (Lb ++ Lk))) has_19 rfl rfl (lay_any w0 (Q ++ []) (s := s) (vn := vn) (vb := vb) (Ln := Ln) (Lb := Lb) ⟨vk, Lk, xk, rfl, hsn, hsb, hsk, hxk⟩ hn6 hb6 hw99 zw zw) z_B z_D (fun v_ Yh hY => ?_))
            obtain ⟨Y2_, Q2, vb2, Lb2, rfl, vk2, Lk2, xk2, rfl, _, hsb2, hsk2, hxk2⟩ := hY
            simp only [List.cons_append, List.append_assoc]
            try dsimp only
            refine TL.nil ?_
            exact ⟨vt, ⟨bt, 0, [vn, iV (s.lay w1).epoch, iV (s.lay w1).says, vk2, vb2], 5⟩ :: (Ln ++ (Lb2 ++ (Lk2 ++ (Lt ++ (Q2 ++ (Q ++ G)))))), _, trivial, (.cons rfl .nil), (.cons rfl (.cons rfl (.cons rfl (.cons rfl .nil)))), z_B, ⟨by rw [step_lay hw6 hk4], by rw [step_lay hw6 hk4]; exact ⟨vn, Ln, vb2, Lb2, vk2, Lk2, xk2, Lt, xt, Q2 ++ Q, by simp only [List.append_assoc], hsn, hsb2, hsk2, hxk2.more (by intro B_ hB_; simp only [List.mem_append, List.mem_cons, List.not_mem_nil, or_false] at hB_ ⊢; grind), hst, hxt.more (by intro B_ hB_; simp only [List.mem_append, List.mem_cons, List.not_mem_nil, or_false] at hB_ ⊢; grind)⟩⟩⟩
           ·
            rw [decide_eq_false hk4]
            refine zs ?_
            refine T.cond_f rfl (zs ?_)
            refine z0 (V1.fieldAddr fl_30_0 rfl) ?_
            refine z0 (V1.load1 (v := .int .i64 k) one_3 rfl (.own z_A zr)) ?_
            refine zc (T1.ltI_split rfl rfl (fun h27 => ?_) (fun h27 => ?_))
            ·
             refine zs ?_
             refine TL.no rfl ?_
             refine TL.no rfl ?_
             refine TL.no rfl ?_
             refine zs ?_
             refine T.cond_t rfl (T.seq (T.live (l := []) .nil (fun e_ => ?_)))
             refine zs ?_
             have hE : (sgRun es).1 = 110 := by rw [sgRun_few zw, hrun, drop_ev hx0]; exact runs_err (by rw [step_shape hw6 (by omega)]) ze
             exact ⟨_, G, _, .cons (.tmp z_C) (.cons (.tmp z_C) (.cons (.tmp z_C) (.cons (.tmp z_C) .nil))), z_B, [], rfl, _, _, _, [], [], [], [], [], [], rfl, by rw [hE]; rfl, SlG.nil, by rw [sgOut_err (by rw [hE]; decide)]; exact TdsR.nil, SlG.nil, by rw [sgOut_err (by rw [hE]; decide)]; exact TmsR.nil, by rw [sgOut_err (by rw [hE]; decide)]; exact Sl.nil⟩
            ·
             refine zs ?_
             refine z0 (V1.fieldAddr fl_30_0 rfl) ?_
             refine z0 (V1.load1 (v := .int .i64 k) one_3 rfl (.own z_A zr)) ?_
             refine zq (V1.gtI (r := true) rfl rfl (decide_eq_true zw)) ?_
             refine T.cond_t rfl (T.seq (T.live (l := []) .nil (fun e_ => ?_)))
             refine zs ?_
             have hE : (sgRun es).1 = 110 := by rw [sgRun_few zw, hrun, drop_ev hx0]; exact runs_err (by rw [step_shape hw6 (by omega)]) ze
             exact ⟨_, G, _, .cons (.tmp z_C) (.cons (.tmp z_C) (.cons (.tmp z_C) (.cons (.tmp z_C) .nil))), z_B, [], rfl, _, _, _, [], [], [], [], [], [], rfl, by rw [hE]; rfl, SlG.nil, by rw [sgOut_err (by rw [hE]; decide)]; exact TdsR.nil, SlG.nil, by rw [sgOut_err (by rw [hE]; decide)]; exact TmsR.nil, by rw [sgOut_err (by rw [hE]; decide)]; exact Sl.nil⟩
    ·
     rintro vt2 e_ L ⟨hs0, vn, Ln, vb, Lb, vk, Lk, xk, Lt, xt, Q, rfl, hsn2, hsb2, hsk2, hxk2, hst2, hxt2⟩
     refine T.region (zq1 (V1.add (c := ((i + 1 : Nat) : Int)) rfl rfl z_J) ?_)
     exact ⟨(i + 1, vt2), ⟨bt, 0, [vn, iV ((s.step k w).2).epoch, iV ((s.step k w).2).says, vk, vb], 5⟩ :: (Ln ++ (Lb ++ (Lk ++ (Lt ++ (Q ++ G))))), _, z_N, (.cons rfl (.cons rfl .nil)), (.cons rfl (.cons rfl (.cons rfl .nil))), z_B, ⟨(s.step k w).2, vn, Ln, vb, Lb, vk, Lk, xk, Lt, xt, Q, rfl, by simp only; omega, hsn2, hsb2, hsk2, hxk2, hst2, hxt2, hI.step k w, by simp only; rw [hrun, drop_ev hx0, runs_ok hs0]⟩⟩
   ·
    obtain rfl : i = es.length := by omega
    refine zs ?_
    refine T.cond_f rfl (T.exit (T.seq ?_))
    refine T.drawDet' mixed z_F ?_
    refine zd 0 (zO 7 zZ) (V1.move' z_C) ?_
    refine zd 1 (zO 6 zZ) (V1.move' z_C) ?_
    refine zd 2 (zN 133 1 rfl zZ) (V1.nilCheck rfl) ?_
    refine zd 3 (zN 134 2 rfl zZ) (V1.fieldAddr fl_62_3 rfl) ?_
    refine Det.cons 4 (zN 135 3 rfl zZ) (fun e_ => .inl ⟨rfl, V1.t (V1.load1 (v := vk) one_24 rfl (.own z_A zr)) ⟨rfl, rfl⟩⟩) ?_
    refine zd 5 (zO 6 zZ) (V1.move' z_C) ?_
    refine zd 6 (zN 137 5 rfl zZ) (V1.nilCheck rfl) ?_
    refine zd 7 (zN 138 6 rfl zZ) (V1.fieldAddr fl_62_4 rfl) ?_
    refine Det.cons 8 (zN 139 7 rfl zZ) (fun e_ => .inl ⟨rfl, V1.t (V1.load1 (v := vb) one_25 rfl (.own z_A zr)) ⟨rfl, rfl⟩⟩) ?_
    refine zd 9 (zN 132 0 rfl zZ) (V1.assign' z_C) ?_
    refine zd 10 (zN 136 4 rfl zZ) (V1.assign' z_C) ?_
    refine zd 11 (zN 140 8 rfl zZ) (V1.assign' z_C) ?_
    refine Det.cons 12 (ins := []) .nil (fun e_ => .inl ⟨rfl, V1.t (V1.assign' z_C) ⟨rfl, rfl⟩⟩) ?_
    refine Det.nil 13 (zR 2 9 rfl (zR 3 10 rfl (zR 4 11 rfl (zR 5 12 rfl zW)))) (fun e_ => ?_)
    refine T.ret ?_
    have hR : sgRun es = (0, s) := by rw [sgRun_few zw, hrun, List.drop_length]; rfl
    have hO : sgOut es = s := by unfold sgOut; rw [hR]; rfl
    exact ⟨_, Lt ++ (Lk ++ (Lb ++ (Q ++ G))), _, .cons (.tmp z_C) (.cons (.tmp z_C) (.cons (.tmp z_C) (.cons (.tmp z_C) .nil))), z_B, Lt ++ (Lk ++ (Lb ++ Q)), by simp only [List.append_assoc], vt, vk, vb, Lt, Lk, Lb, Q, xt, xk, rfl, by rw [hR]; rfl, hst, by rw [hO]; exact hxt, hsk, by rw [hO]; exact hxk, by rw [hO]; exact hsb⟩
theorem Run_us (w0 : World) (Ps : List Blk) {es : List (Int × Int)} {a : Option Addr} {c : Nat} (hr : RowR w0 Ps 2 (.slice a es.length c) es.length (es.flatMap evC)) : FnG P 4 [.slice a es.length c] w0 Ps [] (fun v Y => ∃ vt vk vb Lt Lk Lb Q xt xk, Y = Lt ++ (Lk ++ (Lb ++ Q)) ∧ v = .tuple #[vt, vk, vb, .int .i64 (sgRun es).1] ∧ SlG (some 34) vt xt 6 Lt ∧ TdsR w0 (Q ++ Ps) (sgOut es).told xt ∧ SlG (some 32) vk xk 3 Lk ∧ TmsR w0 (Q ++ Ps) (sgOut es).known xk ∧ Sl vb ((sgOut es).bare.map iV) 1 Lb) := by
 refine (Run_own w0 Ps hr).mono ?_
 rintro v Y ⟨vt, vk, vb, Lt, Lk, Lb, Q, xt, xk, h1, h2, h3, h4, h5, h6, h7⟩
 have hi : Inc (Q ++ []) (Q ++ Ps) := by rw [List.append_nil]; exact Inc.here
 exact ⟨vt, vk, vb, Lt, Lk, Lb, Q, xt, xk, h1, h2, h3, h4.more hi, h5, h6.more hi, h7⟩
end Go.Proofs.YtfjedhmffccgnaaGreatDoor.S
