/- The document's people, by their names; what it does to them is what the server does, but for their order: plain. -/
import Derived.Test.YtijijaobialncaaO9
namespace Go.Proofs.Ytijijaobialncaa.S
theorem name_inj : ∀ {ps : List Pr}, (ps.map Pr.name).Nodup → ∀ {x y : Pr}, x ∈ ps → y ∈ ps → x.name = y.name → x = y
  | [], _, x, y, hx, _, _ => by cases hx
  | p :: ps, h, x, y, hx, hy, e => by
    rw [List.map_cons, List.nodup_cons] at h
    rcases List.mem_cons.1 hx with hx1 | hx1
    · rcases List.mem_cons.1 hy with hy1 | hy1
      · rw [hx1, hy1]
      · exact absurd (show p.name ∈ ps.map Pr.name by rw [← hx1, e]; exact List.mem_map_of_mem hy1) h.1
    · rcases List.mem_cons.1 hy with hy1 | hy1
      · exact absurd (show p.name ∈ ps.map Pr.name by rw [← hy1, ← e]; exact List.mem_map_of_mem hx1) h.1
      · exact name_inj h.2 hx1 hy1 e
theorem findP_iff {ps : List Pr} (h : (ps.map Pr.name).Nodup) {n : Nat} {d : Pr} : findP ps n = some d ↔ d ∈ ps ∧ d.name = n := by
  constructor
  · intro hf
    obtain ⟨A, B, rfl, hn, _⟩ := findP_at hf
    exact ⟨by simp, hn⟩
  · rintro ⟨hd, rfl⟩
    cases hf : findP ps d.name with
    | none => exact absurd rfl (findP_none.1 hf d hd)
    | some d2 =>
      obtain ⟨A, B, rfl, hn, _⟩ := findP_at hf
      rw [name_inj h (by simp) hd hn]
theorem findP_perm {ps ds : List Pr} (h : ds.Perm ps) (hn : (ps.map Pr.name).Nodup) (n : Nat) : findP ds n = findP ps n := by
  have hn2 : (ds.map Pr.name).Nodup := (h.map Pr.name).nodup_iff.2 hn
  cases hf : findP ps n with
  | none => exact findP_none.2 fun d hd => findP_none.1 hf d (h.mem_iff.1 hd)
  | some d =>
    have := (findP_iff hn).1 hf
    exact (findP_iff hn2).2 ⟨h.mem_iff.2 this.1, this.2⟩
theorem setP_names (ps : List Pr) (d : Pr) : (setP ps d).map Pr.name = ps.map Pr.name := by
  unfold setP
  rw [List.map_map]
  refine List.map_congr_left fun x _ => ?_
  show (if x.name = d.name then d else x).name = x.name
  split
  · rename_i h; exact h.symm
  · rfl
theorem setP_perm {ps ds : List Pr} (h : ds.Perm ps) (d : Pr) : (setP ds d).Perm (setP ps d) := h.map _
theorem setP_idx {ds : List Pr} (hn : (ds.map Pr.name).Nodup) {i : Nat} {d d' : Pr} (hi : ds[i]? = some d) (he : d'.name = d.name) : setP ds d' = ds.set i d' := by
  obtain ⟨hl, hg⟩ := List.getElem?_eq_some_iff.1 hi
  have hsp : ds = ds.take i ++ d :: ds.drop (i + 1) := by
    rw [← hg, ← List.drop_eq_getElem_cons hl, List.take_append_drop]
  have hlt : (ds.take i).length = i := by rw [List.length_take]; omega
  rw [hsp] at hn
  have h1 := setP_at (A := ds.take i) (B := ds.drop (i + 1)) hn he
  rw [← hsp] at h1
  rw [h1]
  conv => rhs; rw [hsp]
  rw [List.set_append, if_neg (by omega), hlt, Nat.sub_self]; rfl
/-- The document's people and the server's: the same, but by their names. -/
structure Alike (ps ds : List Pr) : Prop where
  perm : ds.Perm ps
  ord : (ds.map Pr.name).Pairwise (· < ·)
theorem Alike.set {ps ds : List Pr} (h : Alike ps ds) (d : Pr) : Alike (setP ps d) (setP ds d) := ⟨setP_perm h.perm d, by rw [setP_names]; exact h.ord⟩
theorem SrvOk.ofPerm {ps ds : List Pr} (h : SrvOk ps) (hp : ds.Perm ps) : SrvOk ds := ⟨(hp.map Pr.name).nodup_iff.2 h.names, fun d hd => h.each d (hp.mem_iff.1 hd), by rw [hp.length_eq]; exact h.few⟩
section
variable {ps ds : List Pr} (h : Alike ps ds) (hok : SrvOk ps)
include h hok
theorem Alike.find (n : Nat) : findP ds n = findP ps n := findP_perm h.perm hok.names n
theorem Alike.put (n : Nat) (l : List UInt8) : Alike (putP ps n l).1 (putP ds n l).1 ∧ (putP ds n l).2 = (putP ps n l).2 := by
  unfold putP
  rw [h.find hok n]
  cases findP ps n with
  | none => exact ⟨h, rfl⟩
  | some d => dsimp only; split; exact ⟨h.set _, rfl⟩; exact ⟨h, rfl⟩
theorem Alike.take (n : Nat) (i : Int) : Alike (takeP ps n i).1 (takeP ds n i).1 ∧ (takeP ds n i).2 = (takeP ps n i).2 := by
  unfold takeP
  rw [h.find hok n]
  cases findP ps n with
  | none => exact ⟨h, rfl⟩
  | some d => dsimp only; split; exact ⟨h.set _, rfl⟩; exact ⟨h, rfl⟩
theorem Alike.pub (n : Nat) (o : Frm) (fs : List Frm) : Alike (pubP ps n o fs).1 (pubP ds n o fs).1 ∧ (pubP ds n o fs).2 = (pubP ps n o fs).2 := by
  unfold pubP
  rw [h.find hok n]
  cases findP ps n with
  | none => exact ⟨h, rfl⟩
  | some d =>
    dsimp only
    split
    · split
      · exact ⟨h, rfl⟩
      · exact ⟨h.set _, rfl⟩
    · exact ⟨h, rfl⟩
theorem Alike.fetch (n : Nat) : Alike (fetchP ps n).1 (fetchP ds n).1 ∧ (fetchP ds n).2 = (fetchP ps n).2 := by
  unfold fetchP
  rw [h.find hok n]
  cases findP ps n with
  | none => exact ⟨h, rfl⟩
  | some d =>
    dsimp only
    cases d.offer with
    | none => exact ⟨h, rfl⟩
    | some o =>
      dsimp only
      cases d.once with
      | nil => exact ⟨h, rfl⟩
      | cons f fs => exact ⟨h.set _, rfl⟩
end
theorem sendBad_congr {ps ds : List Pr} (h : ∀ n, findP ds n = findP ps n) (k : Nat) : ∀ (ns done : List Nat), sendBad ds k done ns = sendBad ps k done ns
  | [], _ => rfl
  | n :: ns, done => by rw [sendBad, sendBad, h n]; cases findP ps n with
    | none => rfl
    | some d => dsimp only; rw [sendBad_congr h k ns]
theorem sendTo_alike (l : List UInt8) : ∀ {ns : List Nat} {ps ds : List Pr}, Alike ps ds → (ps.map Pr.name).Nodup → Alike (sendTo l ns ps) (sendTo l ns ds)
  | [], _, _, h, _ => h
  | n :: ns, ps, ds, h, hn => by
    rw [sendTo, sendTo, findP_perm h.perm hn n]
    cases findP ps n with
    | none => exact sendTo_alike l h hn
    | some d => exact sendTo_alike l (h.set _) (by rw [setP_names]; exact hn)
theorem Alike.send {ps ds : List Pr} (h : Alike ps ds) (hok : SrvOk ps) (n : Nat) (l : List UInt8) (ns : List Nat) : Alike (sendP ps n l ns).1 (sendP ds n l ns).1 ∧ (sendP ds n l ns).2 = (sendP ps n l ns).2 := by
  unfold sendP
  rw [h.find hok n]
  cases findP ps n with
  | none => exact ⟨h, rfl⟩
  | some d =>
    dsimp only
    cases (envF n l).enc with
    | error e => exact ⟨h, rfl⟩
    | ok e =>
      dsimp only
      rw [sendBad_congr (h.find hok)]
      split
      · exact ⟨sendTo_alike e h hok.names, rfl⟩
      · exact ⟨h, rfl⟩
/-- The document's way to let somebody in. -/
def JoinD (ds : List Pr) (n : Nat) (ds' : List Pr) (c : Int) : Prop :=
  (findP ds n ≠ none ∧ ds' = ds ∧ c = 5) ∨ (findP ds n = none ∧ 64 ≤ ds.length ∧ ds' = ds ∧ c = 3) ∨
  (findP ds n = none ∧ ds.length < 64 ∧ c = 0 ∧ ∃ k, k ≤ ds.length ∧ ds' = ds.take k ++ ⟨n, none, [], []⟩ :: ds.drop k ∧ (∀ i d, k ≤ i → ds[i]? = some d → n < d.name) ∧ ∀ d, 0 < k → ds[k - 1]? = some d → d.name ≤ n)
theorem Alike.join {ps ds ds' : List Pr} (h : Alike ps ds) (hok : SrvOk ps) {n : Nat} {c : Int} (hj : JoinD ds n ds' c) : Alike (joinP ps n).1 ds' ∧ c = (joinP ps n).2 := by
  have hl := h.perm.length_eq
  have hfw := hok.few
  unfold joinP
  rw [← h.find hok n]
  rcases hj with ⟨h1, rfl, rfl⟩ | ⟨h1, h2, rfl, rfl⟩ | ⟨h1, h2, rfl, k, hk, rfl, hhi, hlo⟩
  · cases hf : findP ds' n with
    | none => exact absurd hf h1
    | some d => exact ⟨h, rfl⟩
  · rw [h1]; dsimp only; rw [if_pos (by omega)]; exact ⟨h, rfl⟩
  · rw [h1]; dsimp only; rw [if_neg (by omega)]
    refine ⟨⟨?_, ?_⟩, rfl⟩
    · refine List.perm_middle.trans ?_
      rw [List.take_append_drop]
      exact (List.Perm.cons _ h.perm).trans (List.perm_append_singleton _ _).symm
    · have ho := h.ord
      rw [← List.take_append_drop k ds, List.map_append, List.pairwise_append] at ho
      obtain ⟨o1, o2, o3⟩ := ho
      rw [List.map_append, List.map_cons, List.pairwise_append, List.pairwise_cons]
      have below : ∀ x ∈ (ds.take k).map Pr.name, x < n := by
        intro x hx
        obtain ⟨d, hd, rfl⟩ := List.mem_map.1 hx
        have hne : d.name ≠ n := findP_none.1 h1 d (List.mem_of_mem_take hd)
        obtain ⟨i, hi⟩ := List.getElem?_of_mem hd
        have hik : i < k := by have := (List.getElem?_eq_some_iff.1 hi).1; rw [List.length_take] at this; omega
        rw [List.getElem?_take, if_pos hik] at hi
        obtain ⟨d2, hd2⟩ : ∃ d2, ds[k - 1]? = some d2 := ⟨_, List.getElem?_eq_getElem (by omega)⟩
        have hle := hlo d2 (by omega) hd2
        rcases Nat.lt_or_eq_of_le (show i ≤ k - 1 by omega) with h3 | h3
        · have hp := List.pairwise_iff_getElem.1 h.ord i (k - 1) (by rw [List.length_map]; omega) (by rw [List.length_map]; omega) h3
          rw [List.getElem_map, List.getElem_map] at hp
          rw [List.getElem?_eq_getElem (by omega)] at hi hd2
          rw [Option.some.inj hi, Option.some.inj hd2] at hp; omega
        · subst h3
          rw [hi] at hd2; have := Option.some.inj hd2; subst this; omega
      have above : ∀ x ∈ (ds.drop k).map Pr.name, n < x := by
        intro x hx
        obtain ⟨d, hd, rfl⟩ := List.mem_map.1 hx
        obtain ⟨i, hi⟩ := List.getElem?_of_mem hd
        rw [List.getElem?_drop] at hi
        exact hhi (k + i) d (by omega) hi
      refine ⟨o1, ⟨above, o2⟩, fun x hx y hy => ?_⟩
      rcases List.mem_cons.1 hy with rfl | hy
      · exact below x hx
      · exact Nat.lt_trans (below x hx) (above y hy)
/-- Names in order are the same names, if they are the same but for their order. -/
theorem asc_unique : ∀ {xs ys : List Nat}, xs.Perm ys → xs.Pairwise (· ≤ ·) → ys.Pairwise (· < ·) → xs = ys
  | [], ys, h, _, _ => h.nil_eq
  | x :: xs, [], h, _, _ => absurd h.length_eq (by simp)
  | x :: xs, y :: ys, h, hx, hy => by
    rw [List.pairwise_cons] at hx hy
    have h1 : x = y := by
      rcases List.mem_cons.1 (h.mem_iff.1 (List.mem_cons_self ..)) with h1 | h1
      · exact h1
      · rcases List.mem_cons.1 (h.mem_iff.2 (List.mem_cons_self ..)) with h2 | h2
        · exact h2.symm
        · have := hy.1 x h1
          have := hx.1 y h2
          omega
    subst h1
    rw [asc_unique (h.cons_inv) hx.2 hy.2]
end Go.Proofs.Ytijijaobialncaa.S
