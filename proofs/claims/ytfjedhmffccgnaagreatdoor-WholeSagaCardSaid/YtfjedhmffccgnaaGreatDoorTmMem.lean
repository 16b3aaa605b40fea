/- Terms in memory: what a value holds, read wherever some blocks lie. Holds for every program. Terms that came in, opened: a type whose values hold slices of their own type. Holds for every program. -/
import Derived.Test.YtfjedhmffccgnaaGreatDoorOps9
import Derived.Test.YtfjedhmffccgnaaGreatDoorTmSpec
import Derived.Test.YtfjedhmffccgnaaGreatDoorOpen
namespace Go.Proofs.YtfjedhmffccgnaaGreatDoor.S
open Go.RowKit
def maxN : Nat := 4611686018427387904
mutual
def TmR (w0 : World) (Ps : List Blk) : Tm → List Value → Prop
  | .mk k nm as, cs => ∃ a c vs, cs = [.int .i64 k, .string (bstr nm), .slice a as.length c] ∧ RowR w0 Ps 3 (.slice a as.length c) as.length vs ∧ as.length ≤ maxN ∧ TmsR w0 Ps as vs
def TmsR (w0 : World) (Ps : List Blk) : List Tm → List Value → Prop
  | [], vs => vs = []
  | t :: ts, vs => ∃ cs rest, vs = cs ++ rest ∧ TmR w0 Ps t cs ∧ TmsR w0 Ps ts rest
end
section
variable {w0 : World} {Ps Qs : List Blk}
theorem TmR.mk {k : Int} {nm : List UInt8} {as : List Tm} {a : Option Addr} {c : Nat} {vs : List Value} (h1 : RowR w0 Ps 3 (.slice a as.length c) as.length vs) (h2 : as.length ≤ maxN) (h3 : TmsR w0 Ps as vs) : TmR w0 Ps (.mk k nm as) [.int .i64 k, .string (bstr nm), .slice a as.length c] := by
 rw [TmR]; exact ⟨a, c, vs, rfl, h1, h2, h3⟩
theorem TmR.mkN {k : Int} {nm : List UInt8} {ts : List Tm} {a : Option Addr} {c n : Nat} {vs : List Value} (hn : ts.length = n) (h1 : RowR w0 Ps 3 (.slice a n c) n vs) (h2 : n ≤ maxN) (h3 : TmsR w0 Ps ts vs) : TmR w0 Ps (.mk k nm ts) [.int .i64 k, .string (bstr nm), .slice a n c] := by
 subst hn; exact TmR.mk h1 h2 h3
theorem TmR.atom {nm : List UInt8} {k : Int} {c : Nat} : TmR w0 Ps (.mk k nm []) [.int .i64 k, .string (bstr nm), .slice none 0 c] := TmR.mkN rfl RowR.nil (Nat.zero_le _) (by rw [TmsR])
theorem TmR.inv {k : Int} {nm : List UInt8} {as : List Tm} {cs : List Value} (h : TmR w0 Ps (.mk k nm as) cs) : ∃ a c vs, cs = [.int .i64 k, .string (bstr nm), .slice a as.length c] ∧ RowR w0 Ps 3 (.slice a as.length c) as.length vs ∧ as.length ≤ maxN ∧ TmsR w0 Ps as vs := by rw [TmR] at h; exact h
theorem TmR.len {t : Tm} {cs : List Value} (h : TmR w0 Ps t cs) : cs.length = 3 := by cases t; obtain ⟨a, c, vs, rfl, _⟩ := h.inv; rfl
theorem TmR.ones {t : Tm} {cs : List Value} (h : TmR w0 Ps t cs) : ∀ u ∈ cs, one u = true := by cases t; obtain ⟨a, c, vs, rfl, _⟩ := h.inv; intro u hu; simp at hu; rcases hu with rfl | rfl | rfl <;> rfl
theorem TmsR.nil : TmsR w0 Ps [] [] := by rw [TmsR]
theorem TmsR.nil_inv {vs : List Value} (h : TmsR w0 Ps [] vs) : vs = [] := by rw [TmsR] at h; exact h
theorem TmsR.cons {t : Tm} {ts : List Tm} {cs rest : List Value} (h1 : TmR w0 Ps t cs) (h2 : TmsR w0 Ps ts rest) : TmsR w0 Ps (t :: ts) (cs ++ rest) := by rw [TmsR]; exact ⟨cs, rest, rfl, h1, h2⟩
theorem TmsR.cons_inv {t : Tm} {ts : List Tm} {vs : List Value} (h : TmsR w0 Ps (t :: ts) vs) : ∃ cs rest, vs = cs ++ rest ∧ TmR w0 Ps t cs ∧ TmsR w0 Ps ts rest := by rw [TmsR] at h; exact h
theorem TmsR.of {ts : List Tm} : ∀ {vs : List Value}, TmsR w0 Ps ts vs → vs.length = ts.length * 3 ∧ ∀ u ∈ vs, one u = true := by
 induction ts with
 | nil => intro vs h; rw [h.nil_inv]; simp
 | cons t ts ih =>
  intro vs h
  obtain ⟨cs, rest, rfl, h1, h2⟩ := h.cons_inv
  obtain ⟨i1, i2⟩ := ih h2
  refine ⟨by rw [List.length_append, h1.len, i1, List.length_cons]; omega, fun u hu => ?_⟩
  rcases List.mem_append.1 hu with hu | hu
  · exact h1.ones u hu
  · exact i2 u hu
theorem TmsR.len {ts : List Tm} {vs : List Value} (h : TmsR w0 Ps ts vs) : vs.length = ts.length * 3 := h.of.1
theorem TmsR.ones {ts : List Tm} {vs : List Value} (h : TmsR w0 Ps ts vs) : ∀ u ∈ vs, one u = true := h.of.2
theorem TmR.more {t : Tm} (hi : Inc Ps Qs) : ∀ {cs : List Value}, TmR w0 Ps t cs → TmR w0 Qs t cs := by
 induction t using Tm.ind with
 | h k n as ih =>
  intro cs h
  obtain ⟨a, c, vs, rfl, h1, h2, h3⟩ := h.inv
  refine TmR.mk (h1.more hi) h2 ?_
  clear h1 h2 h
  generalize as.length = m
  induction as generalizing vs with
  | nil => rw [h3.nil_inv]; exact TmsR.nil
  | cons b bs ihb =>
   obtain ⟨cs, rest, rfl, h1, h2⟩ := h3.cons_inv
   exact TmsR.cons (ih b (by simp) h1) (ihb (fun x hx => ih x (by simp [hx])) _ h2)
theorem TmsR.more (hi : Inc Ps Qs) : ∀ {ts : List Tm} {vs : List Value}, TmsR w0 Ps ts vs → TmsR w0 Qs ts vs
 | [], vs, h => by rw [h.nil_inv]; exact TmsR.nil
 | t :: ts, vs, h => by obtain ⟨cs, rest, rfl, h1, h2⟩ := h.cons_inv; exact TmsR.cons (h1.more hi) (h2.more hi)
theorem TmsR.app : ∀ {ts us : List Tm} {vs ws : List Value}, TmsR w0 Ps ts vs → TmsR w0 Ps us ws → TmsR w0 Ps (ts ++ us) (vs ++ ws)
 | [], us, vs, ws, h, h' => by rw [h.nil_inv]; exact h'
 | t :: ts, us, vs, ws, h, h' => by
  obtain ⟨cs, rest, rfl, h1, h2⟩ := h.cons_inv
  rw [List.append_assoc, List.cons_append]
  exact TmsR.cons h1 (h2.app h')
theorem TmsR.one {t : Tm} {cs : List Value} (h : TmR w0 Ps t cs) : TmsR w0 Ps [t] cs := by have := TmsR.cons h (TmsR.nil (w0 := w0) (Ps := Ps)); rwa [List.append_nil] at this
end
end Go.Proofs.YtfjedhmffccgnaaGreatDoor.S
namespace Go.Proofs.YtfjedhmffccgnaaGreatDoor.S
open Go.ChangeShapes Go.WideShapes Go.ChangeAt Go.RowKit Go.Deep
section
variable {H : Type} {enc : TypeId × Value → H} {P : Program} {W : World} {TM TS INT STR : TypeId}
theorem rd_slR {t e : TypeId} {k : Nat} {v : Value} {d : DataW H} (ht : P.underlying t = some (.slice e)) (hC : P.cellsOf e = k) (hk : 0 < k) (h : Tr enc P W t [v] d) :
 ∃ (n : Nat) (ess : List (List Value)) (ds : List (DataW H)), ess.length = n ∧ ds.length = n ∧ ((d = .nil ∧ ds = []) ∨ ∃ sp, d = .slice ds sp) ∧ RowR W [] k v n ess.flatten ∧
  ∀ (i : Nat) (es : List Value) (x : DataW H), ess[i]? = some es → ds[i]? = some x → Tr enc P W e es x := by
 obtain ⟨fuel, pl, h0⟩ := h
 have odd : (∃ a, v = .slice (some a) 0 0 ∧ ∃ ds sp, d = .slice ds sp ∧ ds.length = 0) ∨ ∀ a len cap, v = .slice (some a) len cap → a.spot = none := by
  rcases open_slice ht h0 with ⟨h1, h2⟩ | ⟨a, len, cap, m, n, D, Pl, hcs, hb, hl, hm, hmm, hx, hi⟩
  ·
   simp only [List.cons.injEq, and_true] at h1
   subst h1
   exact .inr (fun a len cap hv => by cases hv)
  ·
   simp only [List.cons.injEq, and_true] at hcs
   subst hcs
   have hmc : m = cap := by simpa using hmm
   subst hmc
   by_cases h0 : m = 0
   ·
    subst h0
    obtain rfl : len = 0 := by omega
    exact .inl ⟨a, rfl, _, _, (Prod.mk.inj hx).1, by simp⟩
   ·
    refine .inr (fun a' len' cap' hv => ?_)
    cases hv
    obtain ⟨cs', hc, _⟩ := hi 0 zw
    rw [hC] at hc
    have := (World.cells?_some hc).2.2 0 zw
    rw [Nat.zero_mul] at this
    have e0 : (a.add 0).add 0 = a := rfl
    rw [e0] at this
    obtain ⟨x, hx'⟩ : ∃ x, W.cell? a = some x := by
     have hl1 := (World.cells?_some hc).2.1
     rw [List.getElem?_eq_getElem (by omega)] at this
     exact ⟨_, this⟩
    exact spot_none hx'
 rcases odd with ⟨a, rfl, ds, sp, rfl, hd⟩ | hsp
 · exact ⟨0, [], ds, rfl, hd, .inr ⟨sp, rfl⟩, RowR.odd, fun i es x h => by simp at h⟩
 ·
  obtain ⟨n, ess, ds, hn, h1, h2, h3, h4, h5, h6⟩ := rd_slice0 ht hC hsp ⟨fuel, pl, h0⟩
  exact ⟨n, ess, ds, h1, h2, h3, RowR.old h4, h6⟩
end
end Go.Proofs.YtfjedhmffccgnaaGreatDoor.S
