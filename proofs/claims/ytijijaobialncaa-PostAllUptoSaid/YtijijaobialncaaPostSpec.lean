/- A server that hands on frames: plain. -/
import Derived.Test.YtijijaobialncaaFrSpec
namespace Go.Proofs.Ytijijaobialncaa.S
structure Frm where
  kind : Int
  keys : List (List UInt8)
  nums : List Nat
  sigs : List (List UInt8)
  data : List UInt8
abbrev Frm.enc (f : Frm) : Except Int (List UInt8) := encF f.kind f.keys f.nums f.sigs f.data
/-- Its cells have the right size. -/
structure Frm.Wf (f : Frm) : Prop where
  keys : ∀ x ∈ f.keys, x.length = 32
  nums : ∀ x ∈ f.nums, x < 4294967296
  sigs : ∀ x ∈ f.sigs, x.length = 64
/-- It is not great. -/
structure Frm.Few (f : Frm) : Prop where
  keys : f.keys.length ≤ 1000
  nums : f.nums.length ≤ 1000
  sigs : f.sigs.length ≤ 1000
  data : f.data.length ≤ 1000000
/-- An offer's frame. -/
def Frm.bundle (f : Frm) : Bool := match f.enc with
  | .ok _ => decide (f.kind = 1)
  | .error _ => false
theorem shp_few {k : Int} {a b c : Nat} {d : Bool} (h : shp k = some (a, b, c, d)) : a ≤ 4 ∧ b ≤ 3 ∧ c ≤ 1 := by
  unfold shp at h
  repeat' split at h
  all_goals (first | (cases h; omega) | cases h)
theorem Frm.few_of {f : Frm} {l : List UInt8} (h : f.enc = .ok l) : f.Few := by
  unfold Frm.enc encF at h
  split at h
  · cases h
  · rename_i a b c d hs
    obtain ⟨h1, h2, h3⟩ := shp_few hs
    split at h
    · cases h
    · rename_i hn
      split at h
      · cases h
      · exact ⟨by omega, by omega, by omega, by omega⟩
theorem Frm.bundle_few {f : Frm} (h : f.bundle = true) : f.Few := by
  unfold Frm.bundle at h
  split at h
  · exact Frm.few_of ‹_›
  · cases h
/-- What a server has of somebody. -/
structure Pr where
  name : Nat
  offer : Option Frm
  once : List Frm
  box : List (List UInt8)
def Pr.bytes (d : Pr) : Nat := (d.box.map List.length).sum
structure Pr.Ok (d : Pr) : Prop where
  name : d.name < 4294967296
  offer : ∀ f, d.offer = some f → f.Wf ∧ f.Few
  once : ∀ f ∈ d.once, f.Wf ∧ f.Few
  few : d.once.length ≤ 100
  box : d.box.length ≤ 200
  bytes : d.bytes ≤ 65536
/-- A server: those who are known, in the order in which they came. -/
structure SrvOk (ps : List Pr) : Prop where
  names : (ps.map Pr.name).Nodup
  each : ∀ d ∈ ps, d.Ok
  few : ps.length ≤ 64
def findP (ps : List Pr) (n : Nat) : Option Pr := ps.find? fun d => d.name == n
def setP (ps : List Pr) (d : Pr) : List Pr := ps.map fun x => if x.name = d.name then d else x
theorem findP_at {ps : List Pr} {n : Nat} {d : Pr} (h : findP ps n = some d) : ∃ A B, ps = A ++ d :: B ∧ d.name = n ∧ ∀ x ∈ A, x.name ≠ n := by
  obtain ⟨h1, A, B, h2, h3⟩ := List.find?_eq_some_iff_append.1 h
  exact ⟨A, B, h2, by simpa using h1, fun x hx => by simpa using h3 x hx⟩
theorem findP_none {ps : List Pr} {n : Nat} : findP ps n = none ↔ ∀ d ∈ ps, d.name ≠ n := by
  unfold findP; rw [List.find?_eq_none]; simp
theorem setP_at {A B : List Pr} {d d' : Pr} (hn : ((A ++ d :: B).map Pr.name).Nodup) (h : d'.name = d.name) : setP (A ++ d :: B) d' = A ++ d' :: B := by
  have hk : ∀ l : List Pr, (∀ x ∈ l, x.name ≠ d.name) → (l.map fun x => if x.name = d'.name then d' else x) = l := fun l hl => by
    rw [List.map_congr_left (g := id) (fun x hx => by rw [if_neg (by rw [h]; exact hl x hx)]; rfl), List.map_id]
  rw [List.map_append, List.map_cons, List.nodup_append, List.nodup_cons] at hn
  unfold setP
  rw [List.map_append, List.map_cons, if_pos h.symm, hk A (fun x hx => hn.2.2 _ (List.mem_map_of_mem hx) _ (List.mem_cons_self ..)), hk B (fun x hx e => hn.2.1.1 (e ▸ List.mem_map_of_mem hx))]
theorem SrvOk.set {A B : List Pr} {d d' : Pr} (h : SrvOk (A ++ d :: B)) (hn : d'.name = d.name) (ho : d'.Ok) : SrvOk (A ++ d' :: B) := by
  refine ⟨by have := h.names; rw [List.map_append, List.map_cons] at this ⊢; rw [hn]; exact this, fun x hx => ?_, by have := h.few; rw [List.length_append, List.length_cons] at this ⊢; exact this⟩
  rcases List.mem_append.1 hx with hx | hx
  · exact h.each x (by simp [hx])
  · rcases List.mem_cons.1 hx with rfl | hx
    · exact ho
    · exact h.each x (by simp [hx])
def joinP (ps : List Pr) (n : Nat) : List Pr × Int :=
  match findP ps n with
  | some _ => (ps, 5)
  | none => if ps.length = 64 then (ps, 3) else (ps ++ [⟨n, none, [], []⟩], 0)
theorem joinP_ok {ps : List Pr} {n : Nat} (h : SrvOk ps) (hn : n < 4294967296) : SrvOk (joinP ps n).1 := by
  unfold joinP
  split
  · exact h
  · rename_i hf
    split
    · exact h
    · refine ⟨?_, fun d hd => ?_, by have := h.few; rw [List.length_append, List.length_singleton]; show ps.length + 1 ≤ 64; omega⟩
      · show ((ps ++ [(⟨n, none, [], []⟩ : Pr)]).map Pr.name).Nodup
        rw [List.map_append]
        refine List.nodup_append.2 ⟨h.names, by simp, fun a ha b hb => ?_⟩
        simp only [List.map_cons, List.map_nil, List.mem_singleton] at hb
        subst hb
        obtain ⟨d, hd, rfl⟩ := List.mem_map.1 ha
        exact findP_none.1 hf d hd
      · rcases List.mem_append.1 hd with hd | hd
        · exact h.each d hd
        · rw [List.mem_singleton] at hd
          subst hd
          exact ⟨hn, fun f h => (by cases h), fun f h => (by cases h), Nat.zero_le _, Nat.zero_le _, Nat.zero_le _⟩
def leftP (ps : List Pr) (n : Nat) : Nat := ((findP ps n).map fun d => d.once.length).getD 0
def waitP (ps : List Pr) (n : Nat) : Nat := ((findP ps n).map fun d => d.box.length).getD 0
/-- Has somebody room for so many bytes more? -/
def Pr.room (d : Pr) (k : Nat) : Bool := decide (d.box.length < 200 ∧ d.bytes + k ≤ 65536)
def Pr.put (d : Pr) (l : List UInt8) : Pr := { d with box := d.box ++ [l] }
theorem Pr.put_ok {d : Pr} {l : List UInt8} (h : d.Ok) (hr : d.room l.length = true) : (d.put l).Ok := by
  have hr := of_decide_eq_true hr
  refine ⟨h.name, h.offer, h.once, h.few, ?_, ?_⟩
  · show (d.box ++ [l]).length ≤ 200
    rw [List.length_append, List.length_singleton]; omega
  · show ((d.box ++ [l]).map List.length).sum ≤ 65536
    rw [List.map_append, List.sum_append]
    have : ((d.box.map List.length).sum) = d.bytes := rfl
    simp only [List.map_cons, List.map_nil, List.sum_cons, List.sum_nil]; omega
def putP (ps : List Pr) (n : Nat) (l : List UInt8) : List Pr × Int :=
  match findP ps n with
  | none => (ps, 4)
  | some d => if d.room l.length then (setP ps (d.put l), 0) else (ps, 180)
/-- What was sent to those who come first. -/
def sendTo (l : List UInt8) : List Nat → List Pr → List Pr
  | [], ps => ps
  | n :: ns, ps => sendTo l ns (match findP ps n with | some d => setP ps (d.put l) | none => ps)
/-- What is wrong with those to whom something is sent (done: those looked at already). -/
def sendBad (ps : List Pr) (k : Nat) : List Nat → List Nat → Int
  | _, [] => 0
  | done, n :: ns => match findP ps n with
    | none => 4
    | some d => if n ∈ done then 5 else if d.room k then sendBad ps k (done ++ [n]) ns else 180
def envF (src : Nat) (data : List UInt8) : Frm := ⟨7, [List.replicate 32 0], [src], [], data⟩
def sendP (ps : List Pr) (src : Nat) (data : List UInt8) (ns : List Nat) : List Pr × Int :=
  match findP ps src with
  | none => (ps, 4)
  | some _ => match (envF src data).enc with
    | .error e => (ps, e)
    | .ok l => if sendBad ps l.length [] ns = 0 then (sendTo l ns ps, 0) else (ps, sendBad ps l.length [] ns)
def Pr.take (d : Pr) (i : Nat) : Pr := { d with box := d.box.eraseIdx i }
def takeP (ps : List Pr) (n : Nat) (i : Int) : List Pr × Option (List UInt8) :=
  match findP ps n with
  | none => (ps, none)
  | some d => if 0 ≤ i ∧ i < (d.box.length : Nat) then (setP ps (d.take i.toNat), d.box[i.toNat]?) else (ps, none)
def pubP (ps : List Pr) (n : Nat) (o : Frm) (fs : List Frm) : List Pr × Int :=
  match findP ps n with
  | none => (ps, 4)
  | some d => if (o :: fs).all Frm.bundle then if 100 < d.once.length + fs.length then (ps, 3) else (setP ps { d with offer := some o, once := d.once ++ fs }, 0) else (ps, 110)
def fetchP (ps : List Pr) (n : Nat) : List Pr × Option Frm :=
  match findP ps n with
  | none => (ps, none)
  | some d => match d.offer with
    | none => (ps, none)
    | some o => match d.once with
      | [] => (ps, some o)
      | f :: fs => (setP ps { d with once := fs }, some f)
theorem sum_erase {l : List (List UInt8)} {i : Nat} {x : List UInt8} (h : l[i]? = some x) : ((l.eraseIdx i).map List.length).sum + x.length = (l.map List.length).sum := by
  induction l generalizing i with
  | nil => simp at h
  | cons a l ih =>
    cases i with
    | zero => simp at h; subst h; simp [Nat.add_comm]
    | succ i => have := ih (i := i) (by simpa using h); simp only [List.eraseIdx_cons_succ, List.map_cons, List.sum_cons]; omega
theorem Pr.take_ok {d : Pr} {i : Nat} {x : List UInt8} (h : d.Ok) (hx : d.box[i]? = some x) : (d.take i).Ok := by
  have hs := sum_erase hx
  have hb := h.bytes
  have hl := (List.getElem?_eq_some_iff.1 hx).1
  refine ⟨h.name, h.offer, h.once, h.few, ?_, ?_⟩
  · show (d.box.eraseIdx i).length ≤ 200
    have := h.box
    rw [List.length_eraseIdx]; split <;> omega
  · show ((d.box.eraseIdx i).map List.length).sum ≤ 65536
    unfold Pr.bytes at hb; omega
theorem findP_set {ps : List Pr} {d : Pr} {x : Nat} (h : x ≠ d.name) : findP (setP ps d) x = findP ps x := by
  unfold findP setP
  induction ps with
  | nil => rfl
  | cons a ps ih =>
    rw [List.map_cons, List.find?_cons, List.find?_cons, ih]
    by_cases ha : a.name = d.name
    · rw [if_pos ha]
      have h1 : (d.name == x) = false := by simpa using Ne.symm h
      have h2 : (a.name == x) = false := by rw [ha]; exact h1
      rw [h1, h2]
    · rw [if_neg ha]
theorem sendTo_other {l : List UInt8} {x : Nat} : ∀ {ns : List Nat} {ps : List Pr}, x ∉ ns → findP (sendTo l ns ps) x = findP ps x
  | [], _, _ => rfl
  | n :: ns, ps, h => by
    rw [List.mem_cons, not_or] at h
    rw [sendTo, sendTo_other h.2]
    split
    · rename_i d hd
      obtain ⟨_, _, _, hn, _⟩ := findP_at hd
      exact findP_set (by show x ≠ d.name; rw [hn]; exact h.1)
    · rfl
theorem sendTo_snoc {l : List UInt8} {x : Nat} : ∀ {ns : List Nat} {ps : List Pr}, sendTo l (ns ++ [x]) ps = (match findP (sendTo l ns ps) x with | some d => setP (sendTo l ns ps) (d.put l) | none => sendTo l ns ps)
  | [], _ => rfl
  | n :: ns, ps => by rw [List.cons_append, sendTo, sendTo, sendTo_snoc]
theorem sendBad_step {ps : List Pr} {k : Nat} {done ns : List Nat} {x : Nat} {d : Pr} (h : findP ps x = some d) (h2 : x ∉ done) (h3 : d.room k = true) : sendBad ps k done (x :: ns) = sendBad ps k (done ++ [x]) ns := by
  rw [sendBad, h]; dsimp only; rw [if_neg h2, if_pos h3]
theorem sendBad_none {ps : List Pr} {k : Nat} {done ns : List Nat} {x : Nat} (h : findP ps x = none) : sendBad ps k done (x :: ns) = 4 := by rw [sendBad, h]
theorem sendBad_twice {ps : List Pr} {k : Nat} {done ns : List Nat} {x : Nat} {d : Pr} (h : findP ps x = some d) (h2 : x ∈ done) : sendBad ps k done (x :: ns) = 5 := by rw [sendBad, h]; dsimp only; rw [if_pos h2]
theorem sendBad_full {ps : List Pr} {k : Nat} {done ns : List Nat} {x : Nat} {d : Pr} (h : findP ps x = some d) (h2 : x ∉ done) (h3 : d.room k = false) : sendBad ps k done (x :: ns) = 180 := by rw [sendBad, h]; dsimp only; rw [if_neg h2, if_neg (by rw [h3]; decide)]
theorem sendBad_zero {ps : List Pr} {k : Nat} : ∀ {ns done : List Nat}, sendBad ps k done ns = 0 → ∀ {i x : Nat}, ns[i]? = some x → (∃ d, findP ps x = some d ∧ d.room k = true) ∧ x ∉ done ++ ns.take i
  | [], _, _, i, x, hx => by simp at hx
  | n :: ns, done, h, i, x, hx => by
    have h1 : ∃ d, findP ps n = some d ∧ n ∉ done ∧ d.room k = true ∧ sendBad ps k (done ++ [n]) ns = 0 := by
      rw [sendBad] at h
      split at h
      · cases h
      · rename_i d hd
        split at h
        · cases h
        · split at h
          · exact ⟨d, hd, ‹_›, ‹_›, h⟩
          · cases h
    obtain ⟨d, h2, h3, h4, h5⟩ := h1
    cases i with
    | zero => simp at hx; subst hx; exact ⟨⟨d, h2, h4⟩, by simpa using h3⟩
    | succ i => have := sendBad_zero h5 (i := i) (by simpa using hx); simpa using this
end Go.Proofs.Ytijijaobialncaa.S
