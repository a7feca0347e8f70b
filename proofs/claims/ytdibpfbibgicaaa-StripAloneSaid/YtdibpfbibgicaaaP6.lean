/- P6: plain facts for the law StripAlone: strips of the quotient are the strips of the groups. -/
import Derived.Test.YtdibpfbibgicaaaP5
set_option linter.unusedVariables false
set_option linter.unusedSimpArgs false
namespace Go.Proofs.Ytdibpfbibgicaaa
open Go.RowKit Go.Hp

/-- The entry of a border of the quotient. -/
theorem qN_entry {N : List Tri} {of : List Nat} {j i k : Nat} (hj : j < (qN N of).length) (h1 : (nth tz (qN N of) j).1 = i) (h2 : (nth tz (qN N of) j).2.1 = k) :
    i < k ∧ k < (hds of).length ∧ 0 < common N of (nth 0 (hds of) i) (nth 0 (hds of) k) ∧ (nth tz (qN N of) j).2.2 = common N of (nth 0 (hds of) i) (nth 0 (hds of) k) := by
  obtain ⟨i', k', h3, h4, h5, he⟩ := mem_qN.1 (nth_mem tz (qN N of) j hj)
  rw [he] at h1 h2 ⊢
  simp only at h1 h2 ⊢
  obtain rfl : i' = i := by omega
  obtain rfl : k' = k := by omega
  exact ⟨h3, h4, h5, rfl⟩
theorem qN_has {N : List Tri} {of : List Nat} {i k : Nat} (h1 : i < k) (h2 : k < (hds of).length) (h3 : 0 < common N of (nth 0 (hds of) i) (nth 0 (hds of) k)) :
    ∃ j, j < (qN N of).length ∧ nth tz (qN N of) j = ((i : Int), (k : Int), common N of (nth 0 (hds of) i) (nth 0 (hds of) k)) := by
  obtain ⟨j, hj, he⟩ := List.mem_iff_getElem.1 (mem_qN.2 ⟨i, k, h1, h2, h3, rfl⟩ : _ ∈ qN N of)
  exact ⟨j, hj, by rw [nth_eq tz _ _ hj]; exact he⟩
theorem qN_inj {N : List Tri} {of : List Nat} {i j : Nat} (hi : i < (qN N of).length) (hj : j < (qN N of).length) (h : nth tz (qN N of) i = nth tz (qN N of) j) : i = j := by
  rw [nth_eq tz _ _ hi, nth_eq tz _ _ hj] at h
  have hs := List.pairwise_iff_getElem.1 (qN_sorted N of)
  rcases Nat.lt_trichotomy i j with h1 | h1 | h1
  · have := hs i j hi hj h1; rw [h] at this; exact (lt3_asymm this this).elim
  · exact h1
  · have := hs j i hj hi h1; rw [h] at this; exact (lt3_asymm this this).elim
theorem qtouch {N : List Tri} {of : List Nat} {j i k : Nat} (hj : j < (qN N of).length) (hik : i < k) : touch (List.range (hds of).length) i k (nth tz (qN N of) j) ↔ ((nth tz (qN N of) j).1 = i ∧ (nth tz (qN N of) j).2.1 = k) := by
  obtain ⟨i', k', h3, h4, h5, he⟩ := mem_qN.1 (nth_mem tz (qN N of) j hj)
  rw [he]
  unfold touch
  simp only [Int.toNat_natCast]
  rw [nth_range _ i' (by omega), nth_range _ k' h4]
  omega
theorem common_qlt {N : List Tri} {of : List Nat} {i k : Nat} (hik : i < k) (hk : k < (hds of).length) (h0 : 0 ≤ common N of (nth 0 (hds of) i) (nth 0 (hds of) k)) :
    common (qN N of) (List.range (hds of).length) i k = common N of (nth 0 (hds of) i) (nth 0 (hds of) k) := by
  unfold common
  by_cases hc : 0 < common N of (nth 0 (hds of) i) (nth 0 (hds of) k)
  · obtain ⟨j0, hj0, he⟩ := qN_has hik hk hc
    have key : ∀ m, m ≤ (qN N of).length → commonTo (qN N of) (List.range (hds of).length) i k m = if j0 < m then common N of (nth 0 (hds of) i) (nth 0 (hds of) k) else 0 := by
      intro m
      induction m with
      | zero => intro _; rfl
      | succ m ih =>
        intro hm
        simp only [commonTo]
        rw [ih (by omega)]
        by_cases e : j0 = m
        · subst e
          rw [if_neg (by omega), if_pos ((qtouch hj0 hik).2 (by rw [he]; exact ⟨rfl, rfl⟩)), if_pos (by omega), he]; simp
        · have : ¬ touch (List.range (hds of).length) i k (nth tz (qN N of) m) := fun ht => by
            have h1 := (qtouch (by omega) hik).1 ht
            have h2 := qN_entry (by omega) h1.1 h1.2
            refine e (qN_inj hj0 (by omega) ?_)
            rw [he, ← h1.1, ← h1.2, ← h2.2.2.2]
          rw [if_neg this, Int.add_zero]
          by_cases e2 : j0 < m
          · rw [if_pos e2, if_pos (by omega)]
          · rw [if_neg e2, if_neg (by omega)]
    rw [key _ (Nat.le_refl _), if_pos hj0]
    rfl
  · have key : ∀ m, m ≤ (qN N of).length → commonTo (qN N of) (List.range (hds of).length) i k m = 0 := by
      intro m
      induction m with
      | zero => intro _; rfl
      | succ m ih =>
        intro hm
        simp only [commonTo]
        rw [ih (by omega), if_neg]
        · rfl
        · intro ht
          have h1 := (qtouch (by omega) hik).1 ht
          exact hc (qN_entry (by omega) h1.1 h1.2).2.2.1
    rw [key _ (Nat.le_refl _)]
    unfold common at hc h0
    omega
theorem common_q {W : List Int} {N : List Tri} (hv : VG W N) {of : List Nat} {i k : Nat} (hik : i ≠ k) (hi : i < (hds of).length) (hk : k < (hds of).length) :
    common (qN N of) (List.range (hds of).length) i k = common N of (nth 0 (hds of) i) (nth 0 (hds of) k) := by
  rcases Nat.lt_or_gt_of_ne hik with h | h
  · exact common_qlt h hk (common_bd hv of _ _).1
  · rw [common_comm, common_qlt h hi (common_bd hv of _ _).1, common_comm]
theorem weight_q {W : List Int} {of : List Nat} {i : Nat} (hi : i < (hds of).length) : weight (qW W of) (List.range (hds of).length) i = weight W of (nth 0 (hds of) i) := by
  unfold weight
  rw [List.length_range]
  have key : ∀ m, m ≤ (hds of).length → weightTo (qW W of) (List.range (hds of).length) i m = if i < m then nth 0 (qW W of) i else 0 := by
    intro m
    induction m with
    | zero => intro _; rfl
    | succ m ih =>
      intro hm
      simp only [weightTo]
      rw [ih (by omega), nth_range _ m (by omega)]
      by_cases e : m = i
      · subst e; rw [if_neg (by omega), if_pos rfl, if_pos (by omega)]; simp
      · rw [if_neg e, Int.add_zero]
        by_cases e2 : i < m
        · rw [if_pos e2, if_pos (by omega)]
        · rw [if_neg e2, if_neg (by omega)]
  rw [key _ (Nat.le_refl _), if_pos hi]
  unfold qW
  rw [nth_eq 0 (List.map _ _) _ (by simpa using hi), List.getElem_map, nth_eq 0 _ _ hi]
  rfl

theorem hds_inj {of : List Nat} {i k : Nat} (hi : i < (hds of).length) (hk : k < (hds of).length) : nth 0 (hds of) i = nth 0 (hds of) k ↔ i = k := by
  constructor
  · intro h
    have h1 := (hb_hds hi).2
    have h2 := (hb_hds hk).2
    rw [h] at h1
    omega
  · intro h; rw [h]
theorem hds_zero {n : Nat} {of : List Nat} (h : Gr n of) {i : Nat} (hi : i < (hds of).length) : nth 0 (hds of) i = nth 0 of 0 ↔ i = 0 := by
  have hn : 0 < n := by have := hds_len_le of; rw [h.len] at this; omega
  have h0 : nth 0 of 0 = 0 := by have := h.le 0 hn; omega
  have hm : (0 : Nat) ∈ hds of := mem_hds.2 ⟨by rw [h.len]; exact hn, h0⟩
  have h1 := hds_at hm
  rw [hb_zero] at h1
  rw [h0, ← h1]
  have hk : 0 < (hds of).length := by omega
  rw [h1]
  constructor
  · intro e; exact (hds_inj hi hk).1 (by rw [h1]; exact e)
  · intro e; subst e; exact h1
theorem filter_hds (of : List Nat) (p : Nat → Bool) (hp : ∀ b, p b = true → nth 0 of b = b) : (List.range of.length).filter p = (hds of).filter p := by
  unfold hds
  rw [List.filter_filter]
  refine List.filter_congr fun b _ => ?_
  cases e : p b
  · simp
  · simp [hp b e]
theorem nears_q {W : List Int} {N : List Tri} (hv : VG W N) {of : List Nat} (h : Gr W.length of) {i : Nat} (hi : i < (hds of).length) :
    nears N of (nth 0 (hds of) i) = (nears (qN N of) (List.range (hds of).length) i).map (nth 0 (hds of)) := by
  unfold nears
  rw [filter_hds of _ (fun b hb => by unfold isNear at hb; exact (of_decide_eq_true hb).1), List.length_range]
  have hr : hds of = (List.range (hds of).length).map (nth 0 (hds of)) := by
    refine nth_ext 0 (by simp) fun j hj => ?_
    rw [nth_eq 0 (List.map _ _) _ (by simpa using hj), List.getElem_map, List.getElem_range]
  conv => lhs; rw [hr]
  rw [List.filter_map]
  congr 1
  refine List.filter_congr fun b hb => ?_
  have hb' := List.mem_range.1 hb
  have h1 := hb_hds hb'
  have h2 := (mem_hds.1 h1.1).2
  rw [← hr]
  simp only [Function.comp_apply, isNear]
  rw [decide_eq_decide]
  have e1 := hds_inj hb' hi
  have e2 := hds_zero h hb'
  have e3 := nth_range (hds of).length b hb'
  have e4 := nth_range (hds of).length 0 (by omega)
  rw [e3, e4]
  constructor
  · rintro ⟨_, c2, c3, c4⟩
    have hne : b ≠ i := fun e => c2 (e1.2 e)
    exact ⟨rfl, hne, fun e => c3 (e2.2 e), by rw [common_q hv hne.symm hi hb']; exact c4⟩
  · rintro ⟨_, c2, c3, c4⟩
    rw [common_q hv c2.symm hi hb'] at c4
    exact ⟨h2, fun e => c2 (e1.1 e), fun e => c3 (e2.1 e), c4⟩
theorem first_some {W : List Int} {N : List Tri} {of : List Nat} {g : Nat} {most : Int} : (first W N of g most).isSome = true ↔ (nth 0 of g = g ∧ g ≠ nth 0 of 0 ∧ weight W of g < most) ∧ (nears N of g).length = 2 := by
  unfold first
  split
  · rename_i hc
    constructor
    · intro h
      refine ⟨hc, ?_⟩
      split at h
      · rename_i e; rw [e]; rfl
      · cases h
    · rintro ⟨_, h2⟩
      match hn : nears N of g, h2 with
      | [x, y], _ => rfl
  · rename_i hc
    exact ⟨fun h => (by cases h), fun h => absurd h.1 hc⟩
theorem first_q {W : List Int} {N : List Tri} (hv : VG W N) {of : List Nat} (h : Gr W.length of) {i : Nat} (hi : i < (hds of).length) (most : Int) :
    (first (qW W of) (qN N of) (List.range (hds of).length) i most).isSome = (first W N of (nth 0 (hds of) i) most).isSome := by
  rw [Bool.eq_iff_iff, first_some, first_some, nears_q hv h hi, List.length_map, weight_q hi]
  have h1 := hb_hds hi
  have h2 := (mem_hds.1 h1.1).2
  have e2 := hds_zero h hi
  have e3 := nth_range (hds of).length i hi
  have e4 := nth_range (hds of).length 0 (by omega)
  rw [e3, e4]
  constructor
  · rintro ⟨⟨_, c2, c3⟩, c4⟩; exact ⟨⟨h2, fun e => c2 (e2.1 e), c3⟩, c4⟩
  · rintro ⟨⟨_, c2, c3⟩, c4⟩; exact ⟨⟨rfl, fun e => c2 (e2.2 e), c3⟩, c4⟩
/-- The graph that is left has no strip. -/
theorem finds_left {W : List Int} {N : List Tri} (hv : VG W N) {of : List Nat} (h : Gr W.length of) {most : Int} (hn : next W N of most = none) : finds (qW W of) (qN N of) (List.range (qW W of).length) most = [] := by
  have hl : (qW W of).length = (hds of).length := by simp [qW]
  unfold finds
  rw [hl, List.filter_eq_nil_iff]
  intro i hi
  rw [List.mem_range, List.length_range] at hi
  rw [first_q hv h hi, next_none hn (by have := (mem_hds.1 (hb_hds hi).1).1; omega)]
  simp
/-- The first strip of the quotient is that of the next merge. -/
theorem finds_next {W : List Int} {N : List Tri} (hv : VG W N) {of : List Nat} (h : Gr W.length of) {most : Int} {s : Str} (hn : NextIs W N of most s) :
    ∃ t, finds (qW W of) (qN N of) (List.range (qW W of).length) most = nth 0 (idx of) s.face :: t := by
  have hl : (qW W of).length = (hds of).length := by simp [qW]
  have hf := hn.face
  have hm : s.face ∈ hds of := mem_hds.2 ⟨by rw [h.len]; exact hf, hn.hface⟩
  have hlt : hb of s.face < (hds of).length := by rw [← hb_len, h.len]; exact hb_lt of hf hn.hface
  have hat := hds_at hm
  rw [idx_at h hf, hn.hface, hl]
  have hcut : List.range (hds of).length = List.range (hb of s.face) ++ (hb of s.face) :: (List.range' (hb of s.face + 1) ((hds of).length - (hb of s.face + 1))) := by
    have : List.range' 0 (hds of).length = List.range' 0 (hb of s.face) ++ List.range' (0 + hb of s.face) ((hds of).length - hb of s.face) := by rw [List.range'_append_1]; congr 1; omega
    rw [List.range_eq_range', this, ← List.range_eq_range', Nat.zero_add]
    congr 1
    obtain ⟨d, hd⟩ : ∃ d, (hds of).length - hb of s.face = d + 1 := ⟨(hds of).length - hb of s.face - 1, by omega⟩
    rw [hd, List.range'_succ, show (hds of).length - (hb of s.face + 1) = d by omega]
  unfold finds
  rw [List.length_range]
  conv => enter [1, t, 1, 2]; rw [hcut]
  rw [List.filter_append, List.filter_cons, if_pos (by rw [first_q hv h hlt, hat, hn.first]; rfl)]
  have : (List.range (hb of s.face)).filter (fun i => (first (qW W of) (qN N of) (List.range (hds of).length) i most).isSome) = [] := by
    rw [List.filter_eq_nil_iff]
    intro i hi
    rw [List.mem_range] at hi
    have hi' : i < (hds of).length := by omega
    have h1 := hb_hds hi'
    have hlt2 : nth 0 (hds of) i < s.face := by
      rcases Nat.lt_or_ge (nth 0 (hds of) i) s.face with h2 | h2
      · exact h2
      · have := hb_le of h2
        omega
    rw [first_q hv h hi', hn.least _ hlt2]
    simp
  rw [this]
  exact ⟨_, rfl⟩
end Go.Proofs.Ytdibpfbibgicaaa
