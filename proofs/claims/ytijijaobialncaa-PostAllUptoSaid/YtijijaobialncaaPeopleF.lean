/- The keys of a map of one's own, collected: as a contract of one's own. -/
import Derived.Test.YtijijaobialncaaPeopleK
namespace Go.Proofs.Ytijijaobialncaa.S
open Go.RowKit Go.Shelf Go.Maps Go.WideElems

def constR (_ : Value) : Option (DataW Unit × List MemPlace) := some (.lit (.bool true), [])
theorem wf_u32 {n : Nat} (h : n < 4294967296) : (Lit.int .u32 (n : Int)).wf = true := by
  show (decide (IntKind.u32.min ≤ (n : Int)) && decide ((n : Int) ≤ IntKind.u32.max)) = true
  rw [show IntKind.u32.min = 0 from rfl, show IntKind.u32.max = 4294967295 from rfl, Bool.and_eq_true, decide_eq_true_iff, decide_eq_true_iff]
  omega
theorem rdKey_u32 {n : Nat} (h : n < 4294967296) (v : Value) (bn : Nat) : rd P 27 constR ⟨u32V n, v, bn⟩ = some (.int .u32 (n : Nat), .lit (.bool true)) :=
  rd_mk (R := constR) (yv := (.lit (.bool true), [])) (keyOf_int_mk ty_27 (wf_u32 h)) rfl
/-- The map as the fence's laws see it. -/
theorem MB.owns {b : Nat} {kv : List (Nat × Value)} {w : World} (h : (MB b (kv.map fun x => (u32V x.1, x.2))).In w) (hd : (kv.map (·.1)).Nodup) (hlt : ∀ x ∈ kv, x.1 < 4294967296) (hlen : kv.length ≤ 1000000) :
    ∃ D : DataW Unit, w.ownsMap P 27 constR b kv.length D ∧ (∀ x : Int, has D (.int .u32 x) = true ↔ ∃ y ∈ kv, ((y.1 : Nat) : Int) = x) ∧ Maps.size D = kv.length := by
  obtain ⟨es, clock, h1, h2, h3⟩ := MB.invS h
  have hsz : es.size = kv.length := by have := congrArg List.length h2; simpa using this
  have hmem : ∀ x ∈ es.toList, ∃ y ∈ kv, x.key = u32V y.1 := fun x hx => by
    have : entP x ∈ kv.map fun x => (u32V x.1, x.2) := by rw [← h2]; exact List.mem_map_of_mem hx
    obtain ⟨y, hy, e⟩ := List.mem_map.1 this
    exact ⟨y, hy, (congrArg Prod.fst e).symm⟩
  have hrd : ∀ x ∈ es.toList, ∃ y ∈ kv, rd P 27 constR x = some (.int .u32 (y.1 : Nat), .lit (.bool true)) := fun x hx => by
    obtain ⟨y, hy, e⟩ := hmem x hx
    obtain ⟨k, v, bn⟩ := x
    dsimp only at e
    subst e
    exact ⟨y, hy, rdKey_u32 (hlt y hy) v bn⟩
  have hkeys : (es.toList.map (·.key)).Nodup := by
    have : es.toList.map (·.key) = kv.map fun x => u32V x.1 := by
      have := congrArg (List.map Prod.fst) h2
      rw [List.map_map, List.map_map] at this
      exact this
    rw [this]
    refine List.pairwise_map.2 ((List.pairwise_map.1 hd).imp fun hne e => hne ?_)
    have := Value.int.inj e
    omega
  refine ⟨_, ⟨es, clock, h1, ⟨by rw [hsz, show maxLen = 9223372036854775807 from rfl]; omega, ⟨h3.1, h3.2, hkeys⟩, fun x hx => by obtain ⟨y, _, e⟩ := hrd x hx; exact ⟨_, e⟩⟩, by omega, rfl⟩, fun x => ?_, ?_⟩
  · rw [has_eq, List.any_eq_true]
    constructor
    · rintro ⟨p, hp, hk⟩
      obtain ⟨z, hz, rfl⟩ := List.mem_map.1 (mem_sorted.1 hp)
      obtain ⟨y, hy, e⟩ := hrd z hz
      rw [rg_of e] at hk
      exact ⟨y, hy, by simpa [Lit.sameKey] using hk⟩
    · rintro ⟨y, hy, rfl⟩
      have : (u32V y.1, y.2) ∈ es.toList.map entP := by rw [h2]; exact List.mem_map.2 ⟨y, hy, rfl⟩
      obtain ⟨z, hz, e⟩ := List.mem_map.1 this
      obtain ⟨y', hy', e'⟩ := hrd z hz
      have hk : z.key = u32V y.1 := congrArg Prod.fst e
      refine ⟨rg P 27 constR z, mem_sorted.2 (List.mem_map_of_mem hz), ?_⟩
      obtain ⟨k, v, bn⟩ := z
      dsimp only at hk
      subst hk
      rw [rg_of (rdKey_u32 (hlt y hy) v bn)]
      simp [Lit.sameKey]
  · rw [size_eq, length_sorted, List.length_map, Array.length_toList, hsz]
/-- New blocks, laid by whoever keeps all that lay. -/
theorem St.belowN {w0 w w' : World} {G Y : List Blk} (hs : St w0 [] G w) (hb : Below w.heap.size w w') (hd : drawLe w0.drawn w'.drawn) (hn : (Y.map Blk.id).Nodup) (hY : ∀ B ∈ Y, B.In w' ∧ w.heap.size ≤ B.id) : St w0 [] (Y ++ G) w' := by
  have hsz := hs.size
  refine ⟨hb.os.trans hs.os, hb.tape.trans hs.tape, hb.output.trans hs.output, Nat.le_trans hsz hb.size, fun b h _ => (hb.block b (by omega)).trans (hs.old b h (by simp)), ?_, ?_, ?_, hd⟩
  · rw [List.map_append, List.nodup_append]
    refine ⟨hn, hs.distinct, fun a ha c hc => ?_⟩
    obtain ⟨A, hA, rfl⟩ := List.mem_map.1 ha
    obtain ⟨B, hB, rfl⟩ := List.mem_map.1 hc
    have h1 := (hY A hA).2
    have h2 := (hs.inw B hB).lt
    omega
  · intro B hB
    rcases List.mem_append.1 hB with hB | hB
    · exact (hY B hB).1
    · exact (hs.inw B hB).of_same (hb.block _ (hs.inw B hB).lt)
  · intro B hB hlt
    rcases List.mem_append.1 hB with hB | hB
    · have := (hY B hB).2; omega
    · exact hs.may B hB hlt
theorem ownsRow_Sl {w : World} {base e : Nat} {v : Value} {n : Nat} {xs : List Value} (h : w.ownsRow base e 1 v n xs) : ∃ Y, Sl v xs 1 Y ∧ (Y.map Blk.id).Nodup ∧ ∀ B ∈ Y, B.In w ∧ base ≤ B.id := by
  obtain ⟨hl, ⟨rfl, rfl⟩ | ⟨g, cap, cur, rfl, hg, hh, hn, hm, hc, ht⟩⟩ := h
  · have : xs = [] := List.eq_nil_of_length_eq_zero (by omega)
    subst this
    exact ⟨[], Sl.nil, by simp, by simp⟩
  · refine ⟨[⟨g, 0, xs, cap⟩], .inr ⟨g, 0, n, cap, cap, rfl, hl, hn, by omega, rfl⟩, by simp, fun B hB => ?_⟩
    rw [List.mem_singleton] at hB
    subst hB
    refine ⟨Blk.In.ofCells (by show 0 + xs.length ≤ cap; omega) ⟨cur, e, 0, 0, hh, by show cur.size = cap; omega, fun i hi => ?_, .inl rfl, .inl rfl⟩, hg⟩
    show cur[0 + i]? = xs[i]?
    have hi' : i < xs.length := hi
    rw [Nat.zero_add, ← ht, List.getElem?_take_of_lt (by omega), Array.getElem?_toList]
theorem Collect_any (w0 : World) (kb b : Nat) (kv : List (Nat × Value)) (hd : (kv.map (·.1)).Nodup) (hlt : ∀ x ∈ kv, x.1 < 4294967296) (hlen : kv.length ≤ 1000000) :
    FnG P 52 [.func (.func 54) #[] #[.pointer (some ⟨kb, 0, none⟩)]] w0 [⟨kb, 0, [.map (some b)], 1⟩, MB b (kv.map fun x => (u32V x.1, x.2))] []
      (fun v Y => ∃ ms : List Nat, ms.Perm (kv.map (·.1)) ∧ Sl v (ms.map u32V) 1 Y) := by
  intro G w hG hs
  rw [List.nil_append] at hs
  have hkb := hs.inw _ (hG _ (List.mem_cons_self ..))
  have hmb := hs.inw _ (hG _ (List.mem_cons_of_mem _ (List.mem_cons_self ..)))
  obtain ⟨D, hown, hhas, hsize⟩ := MB.owns hmb hd hlt hlen
  have hcell : w.cell? ⟨kb, 0, none⟩ = some (.map (some b)) := by
    obtain ⟨c, E, lo, hi, hh, hc, hk, _⟩ := hkb.here
    have h0 := hk 0 (Nat.zero_lt_one)
    have hh' : w.heap[kb]? = some (.cells c E (lo, hi)) := hh
    simp only [World.cell?, hh']
    simpa using h0
  have hF : ∀ f, Fence.wide.fn f := fun _ => trivial
  have hseq : SeqStopsK Fence.wide (3 - 1 - 1) P 54 #[.pointer (some ⟨kb, 0, none⟩)] (fun x => #[.int .u32 x]) KeepsWalks (fun ss => ss.Nodup ∧ ∀ x, x ∈ ss ↔ has D (.int .u32 x) = true) (fun _ => True) (Maps.size D) w := fun l J Jx W hW hJ _ hY h0 => by
    have hown' : W.ownsMap P 27 constR b kv.length D := by
      have hbl := hown.lt
      obtain ⟨es, clock, hb, Ft, hs', hD⟩ := hown
      exact ⟨es, clock, (hW.block b hbl).trans hb, Ft, hs', hD⟩
    exact keys1_in Fence.wide _ (hF _) rfl (by decide) l kb b kv.length D J Jx hY W hJ ((hW.cell (p := ⟨kb, 0, none⟩) hkb.lt).trans hcell) hown' h0
  refine (callsIn_wide (n := 3)).1 ((collect_in Fence.wide 3 (hF _) (hF _) rfl (by decide) _ _ (hF _) (enters_of Go.Proofs.Try.func54 (by kernel_rfl) rfl) _ _ (by rw [hsize]; exact hlen) w hseq).mono ?_)
  rintro e w' ⟨v, ss, rfl, ⟨hnd, hin⟩, hrow, hb⟩
  obtain ⟨Y, hsl, hYn, hYi⟩ := ownsRow_Sl hrow
  have hnat : ∀ x ∈ ss, ∃ y ∈ kv, ((y.1 : Nat) : Int) = x := fun x hx => (hhas x).1 ((hin x).1 hx)
  have hms : (ss.map Int.toNat).map u32V = ss.map (Value.int .u32) := by
    rw [List.map_map]
    refine List.map_congr_left fun x hx => ?_
    obtain ⟨y, _, rfl⟩ := hnat x hx
    show u32V (Int.toNat ((y.1 : Nat) : Int)) = _
    rw [Int.toNat_natCast]; rfl
  refine ⟨v, Y, rfl, hs.belowN hb (.inl trivial) hYn hYi, ss.map Int.toNat, ?_, by rw [hms]; exact hsl⟩
  refine (List.perm_ext_iff_of_nodup ?_ hd).2 fun n => ?_
  · refine List.pairwise_map.2 (hnd.imp_of_mem fun {a c} ha hc hne e => hne ?_)
    obtain ⟨y, _, rfl⟩ := hnat a ha
    obtain ⟨z, _, rfl⟩ := hnat c hc
    simp only [Int.toNat_natCast] at e
    rw [e]
  · constructor
    · intro h
      obtain ⟨x, hx, rfl⟩ := List.mem_map.1 h
      obtain ⟨y, hy, rfl⟩ := hnat x hx
      rw [Int.toNat_natCast]
      exact List.mem_map_of_mem hy
    · intro h
      obtain ⟨y, hy, rfl⟩ := List.mem_map.1 h
      exact List.mem_map.2 ⟨((y.1 : Nat) : Int), (hin _).2 ((hhas _).2 ⟨y, hy, rfl⟩), Int.toNat_natCast _⟩
end Go.Proofs.Ytijijaobialncaa.S
