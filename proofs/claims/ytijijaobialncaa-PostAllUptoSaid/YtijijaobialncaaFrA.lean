/- Whether two frames are the same. -/
import Derived.Test.YtijijaobialncaaFr6
namespace Go.Proofs.Ytijijaobialncaa.S
open Go.RowKit

theorem take_more {α : Type} {l m : List α} {i : Nat} {x : α} (h : l.take i = m.take i) (hx : l[i]? = some x) (hy : m[i]? = some x) : l.take (i + 1) = m.take (i + 1) := by
  rw [List.take_add_one, List.take_add_one, h, hx, hy]
theorem take_all {α : Type} {l m : List α} {i : Nat} (h : l.take i = m.take i) (h1 : l.length ≤ i) (h2 : l.length = m.length) : l = m := by
  rwa [List.take_of_length_le h1, List.take_of_length_le (by omega)] at h

set_option maxRecDepth 100000 in
set_option maxHeartbeats 2000000 in
theorem Same_any (va vb : Value) (kinda kindb : Int) (keysa keysb : List (List UInt8)) (numsa numsb : List Nat) (sigsa sigsb : List (List UInt8)) (dataa datab : List UInt8) (w : World) (fa : FrIs w va kinda keysa numsa sigsa dataa) (fb : FrIs w vb kindb keysb numsb sigsb datab) : Fn P 24 [va, vb] w [] (fun v Y => Y = [] ∧ ∃ r, v = .bool r ∧ (r = true ↔ (kinda = kindb ∧ keysa = keysb ∧ numsa = numsb ∧ sigsa = sigsb ∧ dataa = datab))) := by
  obtain ⟨⟨vak, van, vax, vad, rfl, hak, han, hax, had⟩, hkeysa, hnumsa, hsigsa, hlena⟩ := fa
  obtain ⟨ak1, ak2, rfl⟩ := hak.form
  obtain ⟨an1, an2, rfl⟩ := han.form
  obtain ⟨ax1, ax2, rfl⟩ := hax.form
  obtain ⟨ad1, ad2, rfl⟩ := had.form
  obtain ⟨⟨vbk, vbn, vbx, vbd, rfl, hbk, hbn, hbx, hbd⟩, hkeysb, hnumsb, hsigsb, hlenb⟩ := fb
  obtain ⟨bk1, bk2, rfl⟩ := hbk.form
  obtain ⟨bn1, bn2, rfl⟩ := hbn.form
  obtain ⟨bx1, bx2, rfl⟩ := hbx.form
  obtain ⟨bd1, bd2, rfl⟩ := hbd.form
  refine Fn.of 103 [.tmp 4] Go.Proofs.Try.func24 rfl rfl rfl rfl ?_
  refine T.seq ?_
  refine T.region ?_
  refine TL.cons rfl (T1.boxN 5 rfl rfl (fun b2 => ?_))
  refine TL.cons rfl (T1.boxN 5 rfl rfl (fun b3 => ?_))
  refine TL.cons rfl (V1.t (V1.assign' z_B) ?_)
  refine TL.nil ?_
  refine T.seq ?_
  refine T.seq ?_
  refine T.region ?_
  refine TL.cons rfl (V1.t (V1.fieldAddr fl_39_0 rfl) ?_)
  refine TL.cons rfl (V1.t (V1.load1 one_3 rfl (.own z_D (by rfl))) ?_)
  refine TL.cons rfl (V1.t (V1.fieldAddr fl_39_0 rfl) ?_)
  refine TL.cons rfl (V1.t (V1.load1 one_3 rfl (.own z_D (by rfl))) ?_)
  refine TL.cons rfl (T1.neI_split rfl rfl (fun h1_4 => ?_) (fun h1_4 => ?_))
  ·
    refine TL.cons rfl (V1.t (V1.move' z_B) ?_)
    refine TL.no rfl ?_
    refine TL.no rfl ?_
    refine TL.no rfl ?_
    refine TL.no rfl ?_
    refine TL.no rfl ?_
    refine TL.no rfl ?_
    refine TL.no rfl ?_
    refine TL.cons rfl (V1.t (V1.pick rfl z_B) ?_)
    refine TL.cons rfl (V1.t (V1.move' z_B) ?_)
    refine TL.no rfl ?_
    refine TL.no rfl ?_
    refine TL.no rfl ?_
    refine TL.no rfl ?_
    refine TL.no rfl ?_
    refine TL.no rfl ?_
    refine TL.no rfl ?_
    refine TL.cons rfl (V1.t (V1.pick rfl z_B) ?_)
    refine TL.cons rfl (V1.t (V1.move' z_B) ?_)
    refine TL.no rfl ?_
    refine TL.no rfl ?_
    refine TL.no rfl ?_
    refine TL.no rfl ?_
    refine TL.no rfl ?_
    refine TL.no rfl ?_
    refine TL.no rfl ?_
    refine TL.cons rfl (V1.t (V1.pick rfl z_B) ?_)
    refine TL.cons rfl (V1.t (V1.move' z_B) ?_)
    refine TL.no rfl ?_
    refine TL.no rfl ?_
    refine TL.no rfl ?_
    refine TL.no rfl ?_
    refine TL.no rfl ?_
    refine TL.no rfl ?_
    refine TL.no rfl ?_
    refine TL.cons rfl (V1.t (V1.pick rfl z_B) ?_)
    refine TL.nil ?_
    refine T.cond_t rfl ?_
    refine T.seq ?_
    refine T.live (l := []) .nil (fun e_ => ?_)
    refine T.region ?_
    refine TL.cons rfl (V1.t (V1.assign' z_B) ?_)
    refine TL.nil ?_
    refine T.ret ?_
    exact ⟨_, [], _, .cons (.tmp z_B) .nil, z_A, rfl, false, rfl, ⟨fun h => (by cases h), fun ⟨e1, e2, e3, e4, e5⟩ => (absurd e1 h1_4)⟩⟩
  ·
    refine TL.cons rfl (V1.t (V1.move' z_B) ?_)
    refine TL.cons rfl (V1.t (V1.fieldAddr fl_39_1 rfl) ?_)
    refine TL.cons rfl (V1.t (V1.load1 one_35 rfl (.own z_D (by rfl))) ?_)
    refine TL.cons rfl (V1.t (V1.lenSl ty_35 rfl) ?_)
    refine TL.cons rfl (V1.t (V1.fieldAddr fl_39_1 rfl) ?_)
    refine TL.cons rfl (V1.t (V1.load1 one_35 rfl (.own z_D (by rfl))) ?_)
    refine TL.cons rfl (V1.t (V1.lenSl ty_35 rfl) ?_)
    refine TL.cons rfl (T1.neI_split rfl rfl (fun h1_12 => ?_) (fun h1_12 => ?_))
    ·
      refine TL.cons rfl (V1.t (V1.pick rfl z_B) ?_)
      refine TL.cons rfl (V1.t (V1.move' z_B) ?_)
      refine TL.no rfl ?_
      refine TL.no rfl ?_
      refine TL.no rfl ?_
      refine TL.no rfl ?_
      refine TL.no rfl ?_
      refine TL.no rfl ?_
      refine TL.no rfl ?_
      refine TL.cons rfl (V1.t (V1.pick rfl z_B) ?_)
      refine TL.cons rfl (V1.t (V1.move' z_B) ?_)
      refine TL.no rfl ?_
      refine TL.no rfl ?_
      refine TL.no rfl ?_
      refine TL.no rfl ?_
      refine TL.no rfl ?_
      refine TL.no rfl ?_
      refine TL.no rfl ?_
      refine TL.cons rfl (V1.t (V1.pick rfl z_B) ?_)
      refine TL.cons rfl (V1.t (V1.move' z_B) ?_)
      refine TL.no rfl ?_
      refine TL.no rfl ?_
      refine TL.no rfl ?_
      refine TL.no rfl ?_
      refine TL.no rfl ?_
      refine TL.no rfl ?_
      refine TL.no rfl ?_
      refine TL.cons rfl (V1.t (V1.pick rfl z_B) ?_)
      refine TL.nil ?_
      refine T.cond_t rfl ?_
      refine T.seq ?_
      refine T.live (l := []) .nil (fun e_ => ?_)
      refine T.region ?_
      refine TL.cons rfl (V1.t (V1.assign' z_B) ?_)
      refine TL.nil ?_
      refine T.ret ?_
      exact ⟨_, [], _, .cons (.tmp z_B) .nil, z_A, rfl, false, rfl, ⟨fun h => (by cases h), fun ⟨e1, e2, e3, e4, e5⟩ => (absurd (by rw [e2]) h1_12)⟩⟩
    ·
      refine TL.cons rfl (V1.t (V1.pick rfl z_B) ?_)
      refine TL.cons rfl (V1.t (V1.move' z_B) ?_)
      refine TL.cons rfl (V1.t (V1.fieldAddr fl_39_2 rfl) ?_)
      refine TL.cons rfl (V1.t (V1.load1 one_36 rfl (.own z_D (by rfl))) ?_)
      refine TL.cons rfl (V1.t (V1.lenSl ty_36 rfl) ?_)
      refine TL.cons rfl (V1.t (V1.fieldAddr fl_39_2 rfl) ?_)
      refine TL.cons rfl (V1.t (V1.load1 one_36 rfl (.own z_D (by rfl))) ?_)
      refine TL.cons rfl (V1.t (V1.lenSl ty_36 rfl) ?_)
      refine TL.cons rfl (T1.neI_split rfl rfl (fun h1_21 => ?_) (fun h1_21 => ?_))
      ·
        refine TL.cons rfl (V1.t (V1.pick rfl z_B) ?_)
        refine TL.cons rfl (V1.t (V1.move' z_B) ?_)
        refine TL.no rfl ?_
        refine TL.no rfl ?_
        refine TL.no rfl ?_
        refine TL.no rfl ?_
        refine TL.no rfl ?_
        refine TL.no rfl ?_
        refine TL.no rfl ?_
        refine TL.cons rfl (V1.t (V1.pick rfl z_B) ?_)
        refine TL.cons rfl (V1.t (V1.move' z_B) ?_)
        refine TL.no rfl ?_
        refine TL.no rfl ?_
        refine TL.no rfl ?_
        refine TL.no rfl ?_
        refine TL.no rfl ?_
        refine TL.no rfl ?_
        refine TL.no rfl ?_
        refine TL.cons rfl (V1.t (V1.pick rfl z_B) ?_)
        refine TL.nil ?_
        refine T.cond_t rfl ?_
        refine T.seq ?_
        refine T.live (l := []) .nil (fun e_ => ?_)
        refine T.region ?_
        refine TL.cons rfl (V1.t (V1.assign' z_B) ?_)
        refine TL.nil ?_
        refine T.ret ?_
        exact ⟨_, [], _, .cons (.tmp z_B) .nil, z_A, rfl, false, rfl, ⟨fun h => (by cases h), fun ⟨e1, e2, e3, e4, e5⟩ => (absurd (by rw [e3]) h1_21)⟩⟩
      ·
        refine TL.cons rfl (V1.t (V1.pick rfl z_B) ?_)
        refine TL.cons rfl (V1.t (V1.move' z_B) ?_)
        refine TL.cons rfl (V1.t (V1.fieldAddr fl_39_3 rfl) ?_)
        refine TL.cons rfl (V1.t (V1.load1 one_37 rfl (.own z_D (by rfl))) ?_)
        refine TL.cons rfl (V1.t (V1.lenSl ty_37 rfl) ?_)
        refine TL.cons rfl (V1.t (V1.fieldAddr fl_39_3 rfl) ?_)
        refine TL.cons rfl (V1.t (V1.load1 one_37 rfl (.own z_D (by rfl))) ?_)
        refine TL.cons rfl (V1.t (V1.lenSl ty_37 rfl) ?_)
        refine TL.cons rfl (T1.neI_split rfl rfl (fun h1_30 => ?_) (fun h1_30 => ?_))
        ·
          refine TL.cons rfl (V1.t (V1.pick rfl z_B) ?_)
          refine TL.cons rfl (V1.t (V1.move' z_B) ?_)
          refine TL.no rfl ?_
          refine TL.no rfl ?_
          refine TL.no rfl ?_
          refine TL.no rfl ?_
          refine TL.no rfl ?_
          refine TL.no rfl ?_
          refine TL.no rfl ?_
          refine TL.cons rfl (V1.t (V1.pick rfl z_B) ?_)
          refine TL.nil ?_
          refine T.cond_t rfl ?_
          refine T.seq ?_
          refine T.live (l := []) .nil (fun e_ => ?_)
          refine T.region ?_
          refine TL.cons rfl (V1.t (V1.assign' z_B) ?_)
          refine TL.nil ?_
          refine T.ret ?_
          exact ⟨_, [], _, .cons (.tmp z_B) .nil, z_A, rfl, false, rfl, ⟨fun h => (by cases h), fun ⟨e1, e2, e3, e4, e5⟩ => (absurd (by rw [e4]) h1_30)⟩⟩
        ·
          refine TL.cons rfl (V1.t (V1.pick rfl z_B) ?_)
          refine TL.cons rfl (V1.t (V1.move' z_B) ?_)
          refine TL.cons rfl (V1.t (V1.fieldAddr fl_39_4 rfl) ?_)
          refine TL.cons rfl (V1.t (V1.load1 one_29 rfl (.own z_D (by rfl))) ?_)
          refine TL.cons rfl (V1.t (V1.bytesToStr (l := dataa) ty_29 ty_5 ty_9 rfl (had.src rfl) (by intro b h; cases h)) ?_)
          refine TL.cons rfl (V1.t (V1.fieldAddr fl_39_4 rfl) ?_)
          refine TL.cons rfl (V1.t (V1.load1 one_29 rfl (.own z_D (by rfl))) ?_)
          refine TL.cons rfl (V1.t (V1.bytesToStr (l := datab) ty_29 ty_5 ty_9 rfl (hbd.src rfl) (by intro b h; cases h)) ?_)
          refine TL.cons rfl (T1.neS_split rfl rfl (fun h1_39 => ?_) (fun h1_39 => ?_))
          ·
            refine TL.cons rfl (V1.t (V1.pick rfl z_B) ?_)
            refine TL.nil ?_
            refine T.cond_t rfl ?_
            refine T.seq ?_
            refine T.live (l := []) .nil (fun e_ => ?_)
            refine T.region ?_
            refine TL.cons rfl (V1.t (V1.assign' z_B) ?_)
            refine TL.nil ?_
            refine T.ret ?_
            exact ⟨_, [], _, .cons (.tmp z_B) .nil, z_A, rfl, false, rfl, ⟨fun h => (by cases h), fun ⟨e1, e2, e3, e4, e5⟩ => (absurd e5 h1_39)⟩⟩
          ·
            refine TL.cons rfl (V1.t (V1.pick rfl z_B) ?_)
            refine TL.nil ?_
            refine T.cond_f rfl ?_
            refine T.skip ?_
            refine T.seq ?_
            refine T.seq ?_
            refine T.live (l := [(2, _), (3, _)]) (.cons z_B (.cons z_B .nil)) (fun e_ => ?_)
            refine T.region ?_
            refine TL.cons rfl (V1.t (V1.assign' z_B) ?_)
            refine TL.nil ?_
            refine T.block ?_
            refine T.loopL (σ := Nat) (l0 := [(2, _), (3, _)]) (fun x => [(5, .int .i64 (x : Nat))]) (fun x L => L = ⟨b3, 0, [.int .i64 kindb, .slice bk1 keysb.length bk2, .slice bn1 numsb.length bn2, .slice bx1 sigsb.length bx2, .slice bd1 datab.length bd2], 5⟩ :: ⟨b2, 0, [.int .i64 kinda, .slice ak1 keysa.length ak2, .slice an1 numsa.length an2, .slice ax1 sigsa.length ax2, .slice ad1 dataa.length ad2], 5⟩ :: [] ∧ x ≤ keysa.length ∧ keysa.take x = keysb.take x) (fun x => keysa.length - x) 0 (.cons rfl .nil) (.cons z_B (.cons z_B .nil)) z_A (⟨rfl, Nat.zero_le _, rfl⟩) ?_
            rintro i e_ L ⟨rfl, hlei, hti⟩
            refine T.seq ?_
            refine T.seq ?_
            refine T.region ?_
            refine TL.cons rfl (V1.t (V1.move' z_B) ?_)
            refine TL.cons rfl (V1.t (V1.fieldAddr fl_39_1 rfl) ?_)
            refine TL.cons rfl (V1.t (V1.load1 one_35 rfl (.own z_D (by rfl))) ?_)
            refine TL.cons rfl (V1.t (V1.lenSl ty_35 rfl) ?_)
            refine TL.cons rfl (T1.ltI_split rfl rfl (fun h4_4 => ?_) (fun h4_4 => ?_))
            ·
              obtain ⟨xa, hxa⟩ : ∃ x, keysa[i]? = some x := ⟨_, List.getElem?_eq_getElem (by omega)⟩
              obtain ⟨xb, hxb⟩ : ∃ x, keysb[i]? = some x := ⟨_, List.getElem?_eq_getElem (by omega)⟩
              obtain ⟨pa, qa, rfl⟩ := hak.isSome (by omega)
              obtain ⟨pb, qb, rfl⟩ := hbk.isSome (by omega)
              have hla : xa.length = 32 := hkeysa xa (List.mem_of_getElem? hxa)
              have hlb : xb.length = 32 := hkeysb xb (List.mem_of_getElem? hxb)
              refine TL.nil ?_
              refine T.cond_t rfl ?_
              refine T.skip ?_
              refine T.seq ?_
              refine T.block ?_
              refine T.seq ?_
              refine T.drawR mixed ?_
              refine TD.takeR 0 rfl z_F z_F z_F rfl (fun _ _ _ h => h) (V1.fieldAddr fl_39_1 rfl) ?_
              refine TD.takeR 1 rfl z_F z_F z_F rfl (fun _ _ _ h => h) (V1.load1 one_35 rfl (.own z_D (by rfl))) ?_
              refine TD.takeR 2 rfl z_F z_F z_F rfl (fun _ _ _ h => h) (V1.move' z_B) ?_
              refine TD.takeR 3 rfl z_F z_F z_F rfl (fun _ _ _ h => h) (V1.indexAddrS ty_35 sz_60 rfl rfl (by omega) (by omega)) ?_
              refine TD.takeR 4 rfl z_F z_F z_F rfl (fun _ _ _ h => h) (V1.loadN one_60 sz_60 rfl (hak.elemB rfl hkeysa (by omega) hxa) (by rw [List.length_map]; exact hla)) ?_
              refine TD.takeR 5 rfl z_F z_F z_F rfl (fun _ _ _ h => h) (V1.fieldAddr fl_39_1 rfl) ?_
              refine TD.takeR 6 rfl z_F z_F z_F rfl (fun _ _ _ h => h) (V1.load1 one_35 rfl (.own z_D (by rfl))) ?_
              refine TD.takeR 7 rfl z_F z_F z_F rfl (fun _ _ _ h => h) (V1.move' z_B) ?_
              refine TD.takeR 8 rfl z_F z_F z_F rfl (fun _ _ _ h => h) (V1.indexAddrS ty_35 sz_60 rfl rfl (by omega) (by omega)) ?_
              refine TD.takeR 9 rfl z_F z_F z_F rfl (fun _ _ _ h => h) (V1.loadN one_60 sz_60 rfl (hbk.elemB rfl hkeysb (by omega) hxb) (by rw [List.length_map]; exact hlb)) ?_
              refine TD.takeR 10 rfl z_F z_F z_F rfl (fun _ _ _ h => h) (V1.neBs ty_60 ty_5 sz_5 eg_60 rfl rfl hla hlb rfl) ?_
              refine TD.done z_F ?_
              refine T.cond_split rfl (fun hc => ?_) (fun hc => ?_)
              ·
                refine T.seq ?_
                refine T.live (l := []) .nil (fun e_ => ?_)
                refine T.region ?_
                refine TL.cons rfl (V1.t (V1.assign' z_B) ?_)
                refine TL.nil ?_
                refine T.ret ?_
                first
                  | exact ⟨_, [], _, .cons (.tmp z_B) .nil, z_A, rfl, true, rfl, ⟨fun _ => ⟨h1_4, heq0, heq1, take_all htm (by omega) (by omega), h1_39⟩, fun _ => rfl⟩⟩
                  | exact ⟨_, [], _, .cons (.tmp z_B) .nil, z_A, rfl, false, rfl, ⟨fun h => (by cases h), fun ⟨e1, e2, e3, e4, e5⟩ => (by subst e2; rw [hxa] at hxb; have := Option.some.inj hxb; subst this; simp at hc)⟩⟩
                  | exact ⟨_, [], _, .cons (.tmp z_B) .nil, z_A, rfl, false, rfl, ⟨fun h => (by cases h), fun ⟨e1, e2, e3, e4, e5⟩ => (by subst e3; rw [hxa] at hxb; have := Option.some.inj hxb; subst this; simp at hc)⟩⟩
                  | exact ⟨_, [], _, .cons (.tmp z_B) .nil, z_A, rfl, false, rfl, ⟨fun h => (by cases h), fun ⟨e1, e2, e3, e4, e5⟩ => (by subst e4; rw [hxa] at hxb; have := Option.some.inj hxb; subst this; simp at hc)⟩⟩
              ·
                refine T.skip ?_
                refine T.live (l := [(2, _), (3, _), (5, _)]) (.cons z_B (.cons z_B (.cons z_B .nil))) (fun e_ => ?_)
                refine T.region ?_
                refine TL.cons rfl (V1.t (V1.move' z_B) ?_)
                refine TL.cons rfl (V1.t (V1.add rfl rfl (wrap_i64 _ (by omega) (by omega))) ?_)
                refine TL.cons rfl (V1.t (V1.assign' z_B) ?_)
                refine TL.nil ?_
                have hxx : xa = xb := by (have := of_decide_eq_false hc; first | omega | (simpa using this))
                subst hxx
                exact ⟨i + 1, _, _, (by simp only; omega), (.cons rfl .nil), (.cons rfl (.cons rfl .nil)), z_A, ⟨rfl, by omega, take_more hti hxa hxb⟩⟩
            ·
              refine TL.nil ?_
              refine T.cond_f rfl ?_
              refine T.exit ?_
              refine T.seq ?_
              refine T.seq ?_
              refine T.region ?_
              refine TL.cons rfl (V1.t (V1.assign' z_B) ?_)
              refine TL.nil ?_
              refine T.block ?_
              have heq0 := take_all hti (by omega) (by omega)
              refine T.loopL (σ := Nat) (l0 := [(2, _), (3, _)]) (fun x => [(6, .int .i64 (x : Nat))]) (fun x L => L = ⟨b3, 0, [.int .i64 kindb, .slice bk1 keysb.length bk2, .slice bn1 numsb.length bn2, .slice bx1 sigsb.length bx2, .slice bd1 datab.length bd2], 5⟩ :: ⟨b2, 0, [.int .i64 kinda, .slice ak1 keysa.length ak2, .slice an1 numsa.length an2, .slice ax1 sigsa.length ax2, .slice ad1 dataa.length ad2], 5⟩ :: [] ∧ x ≤ numsa.length ∧ numsa.take x = numsb.take x) (fun x => numsa.length - x) 0 (.cons rfl .nil) (.cons z_B (.cons z_B .nil)) z_A (⟨rfl, Nat.zero_le _, rfl⟩) ?_
              rintro j e_ L ⟨rfl, hlej, htj⟩
              refine T.seq ?_
              refine T.seq ?_
              refine T.region ?_
              refine TL.cons rfl (V1.t (V1.move' z_B) ?_)
              refine TL.cons rfl (V1.t (V1.fieldAddr fl_39_2 rfl) ?_)
              refine TL.cons rfl (V1.t (V1.load1 one_36 rfl (.own z_D (by rfl))) ?_)
              refine TL.cons rfl (V1.t (V1.lenSl ty_36 rfl) ?_)
              refine TL.cons rfl (T1.ltI_split rfl rfl (fun h9_4 => ?_) (fun h9_4 => ?_))
              ·
                obtain ⟨xa, hxa⟩ : ∃ x, numsa[j]? = some x := ⟨_, List.getElem?_eq_getElem (by omega)⟩
                obtain ⟨xb, hxb⟩ : ∃ x, numsb[j]? = some x := ⟨_, List.getElem?_eq_getElem (by omega)⟩
                obtain ⟨pa, qa, rfl⟩ := han.isSome (by omega)
                obtain ⟨pb, qb, rfl⟩ := hbn.isSome (by omega)
                refine TL.nil ?_
                refine T.cond_t rfl ?_
                refine T.skip ?_
                refine T.seq ?_
                refine T.block ?_
                refine T.seq ?_
                refine T.drawR mixed ?_
                refine TD.takeR 0 rfl z_F z_F z_F rfl (fun _ _ _ h => h) (V1.fieldAddr fl_39_2 rfl) ?_
                refine TD.takeR 1 rfl z_F z_F z_F rfl (fun _ _ _ h => h) (V1.load1 one_36 rfl (.own z_D (by rfl))) ?_
                refine TD.takeR 2 rfl z_F z_F z_F rfl (fun _ _ _ h => h) (V1.move' z_B) ?_
                refine TD.takeR 3 rfl z_F z_F z_F rfl (fun _ _ _ h => h) (V1.indexAddrS ty_36 sz_27 rfl rfl (by omega) (by omega)) ?_
                refine TD.takeR 4 rfl z_F z_F z_F rfl (fun _ _ _ h => h) (V1.load1 one_27 rfl (han.cell (v := u32V xa) rfl (by rw [List.getElem?_map]; show Option.map _ numsa[j]? = _; rw [hxa]; rfl))) ?_
                refine TD.takeR 5 rfl z_F z_F z_F rfl (fun _ _ _ h => h) (V1.fieldAddr fl_39_2 rfl) ?_
                refine TD.takeR 6 rfl z_F z_F z_F rfl (fun _ _ _ h => h) (V1.load1 one_36 rfl (.own z_D (by rfl))) ?_
                refine TD.takeR 7 rfl z_F z_F z_F rfl (fun _ _ _ h => h) (V1.move' z_B) ?_
                refine TD.takeR 8 rfl z_F z_F z_F rfl (fun _ _ _ h => h) (V1.indexAddrS ty_36 sz_27 rfl rfl (by omega) (by omega)) ?_
                refine TD.takeR 9 rfl z_F z_F z_F rfl (fun _ _ _ h => h) (V1.load1 one_27 rfl (hbn.cell (v := u32V xb) rfl (by rw [List.getElem?_map]; show Option.map _ numsb[j]? = _; rw [hxb]; rfl))) ?_
                refine TD.takeR 10 rfl z_F z_F z_F rfl (fun _ _ _ h => h) (V1.neI rfl rfl rfl) ?_
                refine TD.done z_F ?_
                refine T.cond_split rfl (fun hc => ?_) (fun hc => ?_)
                ·
                  refine T.seq ?_
                  refine T.live (l := []) .nil (fun e_ => ?_)
                  refine T.region ?_
                  refine TL.cons rfl (V1.t (V1.assign' z_B) ?_)
                  refine TL.nil ?_
                  refine T.ret ?_
                  first
                    | exact ⟨_, [], _, .cons (.tmp z_B) .nil, z_A, rfl, true, rfl, ⟨fun _ => ⟨h1_4, heq0, heq1, take_all htm (by omega) (by omega), h1_39⟩, fun _ => rfl⟩⟩
                    | exact ⟨_, [], _, .cons (.tmp z_B) .nil, z_A, rfl, false, rfl, ⟨fun h => (by cases h), fun ⟨e1, e2, e3, e4, e5⟩ => (by subst e2; rw [hxa] at hxb; have := Option.some.inj hxb; subst this; simp at hc)⟩⟩
                    | exact ⟨_, [], _, .cons (.tmp z_B) .nil, z_A, rfl, false, rfl, ⟨fun h => (by cases h), fun ⟨e1, e2, e3, e4, e5⟩ => (by subst e3; rw [hxa] at hxb; have := Option.some.inj hxb; subst this; simp at hc)⟩⟩
                    | exact ⟨_, [], _, .cons (.tmp z_B) .nil, z_A, rfl, false, rfl, ⟨fun h => (by cases h), fun ⟨e1, e2, e3, e4, e5⟩ => (by subst e4; rw [hxa] at hxb; have := Option.some.inj hxb; subst this; simp at hc)⟩⟩
                ·
                  refine T.skip ?_
                  refine T.live (l := [(2, _), (3, _), (6, _)]) (.cons z_B (.cons z_B (.cons z_B .nil))) (fun e_ => ?_)
                  refine T.region ?_
                  refine TL.cons rfl (V1.t (V1.move' z_B) ?_)
                  refine TL.cons rfl (V1.t (V1.add rfl rfl (wrap_i64 _ (by omega) (by omega))) ?_)
                  refine TL.cons rfl (V1.t (V1.assign' z_B) ?_)
                  refine TL.nil ?_
                  have hxx : xa = xb := by (have := of_decide_eq_false hc; first | omega | (simpa using this))
                  subst hxx
                  exact ⟨j + 1, _, _, (by simp only; omega), (.cons rfl .nil), (.cons rfl (.cons rfl .nil)), z_A, ⟨rfl, by omega, take_more htj hxa hxb⟩⟩
              ·
                refine TL.nil ?_
                refine T.cond_f rfl ?_
                refine T.exit ?_
                refine T.seq ?_
                refine T.seq ?_
                refine T.region ?_
                refine TL.cons rfl (V1.t (V1.assign' z_B) ?_)
                refine TL.nil ?_
                refine T.block ?_
                have heq1 := take_all htj (by omega) (by omega)
                refine T.loopL (σ := Nat) (l0 := [(2, _), (3, _)]) (fun x => [(7, .int .i64 (x : Nat))]) (fun x L => L = ⟨b3, 0, [.int .i64 kindb, .slice bk1 keysb.length bk2, .slice bn1 numsb.length bn2, .slice bx1 sigsb.length bx2, .slice bd1 datab.length bd2], 5⟩ :: ⟨b2, 0, [.int .i64 kinda, .slice ak1 keysa.length ak2, .slice an1 numsa.length an2, .slice ax1 sigsa.length ax2, .slice ad1 dataa.length ad2], 5⟩ :: [] ∧ x ≤ sigsa.length ∧ sigsa.take x = sigsb.take x) (fun x => sigsa.length - x) 0 (.cons rfl .nil) (.cons z_B (.cons z_B .nil)) z_A (⟨rfl, Nat.zero_le _, rfl⟩) ?_
                rintro m e_ L ⟨rfl, hlem, htm⟩
                refine T.seq ?_
                refine T.seq ?_
                refine T.region ?_
                refine TL.cons rfl (V1.t (V1.move' z_B) ?_)
                refine TL.cons rfl (V1.t (V1.fieldAddr fl_39_3 rfl) ?_)
                refine TL.cons rfl (V1.t (V1.load1 one_37 rfl (.own z_D (by rfl))) ?_)
                refine TL.cons rfl (V1.t (V1.lenSl ty_37 rfl) ?_)
                refine TL.cons rfl (T1.ltI_split rfl rfl (fun h14_4 => ?_) (fun h14_4 => ?_))
                ·
                  obtain ⟨xa, hxa⟩ : ∃ x, sigsa[m]? = some x := ⟨_, List.getElem?_eq_getElem (by omega)⟩
                  obtain ⟨xb, hxb⟩ : ∃ x, sigsb[m]? = some x := ⟨_, List.getElem?_eq_getElem (by omega)⟩
                  obtain ⟨pa, qa, rfl⟩ := hax.isSome (by omega)
                  obtain ⟨pb, qb, rfl⟩ := hbx.isSome (by omega)
                  have hla : xa.length = 64 := hsigsa xa (List.mem_of_getElem? hxa)
                  have hlb : xb.length = 64 := hsigsb xb (List.mem_of_getElem? hxb)
                  refine TL.nil ?_
                  refine T.cond_t rfl ?_
                  refine T.skip ?_
                  refine T.seq ?_
                  refine T.block ?_
                  refine T.seq ?_
                  refine T.drawR mixed ?_
                  refine TD.takeR 0 rfl z_F z_F z_F rfl (fun _ _ _ h => h) (V1.fieldAddr fl_39_3 rfl) ?_
                  refine TD.takeR 1 rfl z_F z_F z_F rfl (fun _ _ _ h => h) (V1.load1 one_37 rfl (.own z_D (by rfl))) ?_
                  refine TD.takeR 2 rfl z_F z_F z_F rfl (fun _ _ _ h => h) (V1.move' z_B) ?_
                  refine TD.takeR 3 rfl z_F z_F z_F rfl (fun _ _ _ h => h) (V1.indexAddrS ty_37 sz_86 rfl rfl (by omega) (by omega)) ?_
                  refine TD.takeR 4 rfl z_F z_F z_F rfl (fun _ _ _ h => h) (V1.loadN one_86 sz_86 rfl (hax.elemB rfl hsigsa (by omega) hxa) (by rw [List.length_map]; exact hla)) ?_
                  refine TD.takeR 5 rfl z_F z_F z_F rfl (fun _ _ _ h => h) (V1.fieldAddr fl_39_3 rfl) ?_
                  refine TD.takeR 6 rfl z_F z_F z_F rfl (fun _ _ _ h => h) (V1.load1 one_37 rfl (.own z_D (by rfl))) ?_
                  refine TD.takeR 7 rfl z_F z_F z_F rfl (fun _ _ _ h => h) (V1.move' z_B) ?_
                  refine TD.takeR 8 rfl z_F z_F z_F rfl (fun _ _ _ h => h) (V1.indexAddrS ty_37 sz_86 rfl rfl (by omega) (by omega)) ?_
                  refine TD.takeR 9 rfl z_F z_F z_F rfl (fun _ _ _ h => h) (V1.loadN one_86 sz_86 rfl (hbx.elemB rfl hsigsb (by omega) hxb) (by rw [List.length_map]; exact hlb)) ?_
                  refine TD.takeR 10 rfl z_F z_F z_F rfl (fun _ _ _ h => h) (V1.neBs ty_86 ty_5 sz_5 eg_86 rfl rfl hla hlb rfl) ?_
                  refine TD.done z_F ?_
                  refine T.cond_split rfl (fun hc => ?_) (fun hc => ?_)
                  ·
                    refine T.seq ?_
                    refine T.live (l := []) .nil (fun e_ => ?_)
                    refine T.region ?_
                    refine TL.cons rfl (V1.t (V1.assign' z_B) ?_)
                    refine TL.nil ?_
                    refine T.ret ?_
                    first
                      | exact ⟨_, [], _, .cons (.tmp z_B) .nil, z_A, rfl, true, rfl, ⟨fun _ => ⟨h1_4, heq0, heq1, take_all htm (by omega) (by omega), h1_39⟩, fun _ => rfl⟩⟩
                      | exact ⟨_, [], _, .cons (.tmp z_B) .nil, z_A, rfl, false, rfl, ⟨fun h => (by cases h), fun ⟨e1, e2, e3, e4, e5⟩ => (by subst e2; rw [hxa] at hxb; have := Option.some.inj hxb; subst this; simp at hc)⟩⟩
                      | exact ⟨_, [], _, .cons (.tmp z_B) .nil, z_A, rfl, false, rfl, ⟨fun h => (by cases h), fun ⟨e1, e2, e3, e4, e5⟩ => (by subst e3; rw [hxa] at hxb; have := Option.some.inj hxb; subst this; simp at hc)⟩⟩
                      | exact ⟨_, [], _, .cons (.tmp z_B) .nil, z_A, rfl, false, rfl, ⟨fun h => (by cases h), fun ⟨e1, e2, e3, e4, e5⟩ => (by subst e4; rw [hxa] at hxb; have := Option.some.inj hxb; subst this; simp at hc)⟩⟩
                  ·
                    refine T.skip ?_
                    refine T.live (l := [(2, _), (3, _), (7, _)]) (.cons z_B (.cons z_B (.cons z_B .nil))) (fun e_ => ?_)
                    refine T.region ?_
                    refine TL.cons rfl (V1.t (V1.move' z_B) ?_)
                    refine TL.cons rfl (V1.t (V1.add rfl rfl (wrap_i64 _ (by omega) (by omega))) ?_)
                    refine TL.cons rfl (V1.t (V1.assign' z_B) ?_)
                    refine TL.nil ?_
                    have hxx : xa = xb := by (have := of_decide_eq_false hc; first | omega | (simpa using this))
                    subst hxx
                    exact ⟨m + 1, _, _, (by simp only; omega), (.cons rfl .nil), (.cons rfl (.cons rfl .nil)), z_A, ⟨rfl, by omega, take_more htm hxa hxb⟩⟩
                ·
                  refine TL.nil ?_
                  refine T.cond_f rfl ?_
                  refine T.exit ?_
                  refine T.seq ?_
                  refine T.region ?_
                  refine TL.cons rfl (V1.t (V1.assign' z_B) ?_)
                  refine TL.nil ?_
                  refine T.ret ?_
                  first
                    | exact ⟨_, [], _, .cons (.tmp z_B) .nil, z_A, rfl, true, rfl, ⟨fun _ => ⟨h1_4, heq0, heq1, take_all htm (by omega) (by omega), h1_39⟩, fun _ => rfl⟩⟩
                    | exact ⟨_, [], _, .cons (.tmp z_B) .nil, z_A, rfl, false, rfl, ⟨fun h => (by cases h), fun ⟨e1, e2, e3, e4, e5⟩ => (by subst e2; rw [hxa] at hxb; have := Option.some.inj hxb; subst this; simp at hc)⟩⟩
                    | exact ⟨_, [], _, .cons (.tmp z_B) .nil, z_A, rfl, false, rfl, ⟨fun h => (by cases h), fun ⟨e1, e2, e3, e4, e5⟩ => (by subst e3; rw [hxa] at hxb; have := Option.some.inj hxb; subst this; simp at hc)⟩⟩
                    | exact ⟨_, [], _, .cons (.tmp z_B) .nil, z_A, rfl, false, rfl, ⟨fun h => (by cases h), fun ⟨e1, e2, e3, e4, e5⟩ => (by subst e4; rw [hxa] at hxb; have := Option.some.inj hxb; subst this; simp at hc)⟩⟩

end Go.Proofs.Ytijijaobialncaa.S
