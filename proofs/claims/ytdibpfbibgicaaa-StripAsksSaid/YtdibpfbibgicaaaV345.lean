/- V345: V3, V4, V5, joined. -/
import Derived.Test.YtdibpfbibgicaaaV2
set_option linter.unusedVariables false
set_option linter.unusedSimpArgs false
/- V3: a graph that rank.Valid lets by; the state behind strip.alone. -/
namespace Go.Proofs.Ytdibpfbibgicaaa
open Go.RowKit Go.Hp

theorem badTo_at {n : Nat} {N : List Tri} {m k : Nat} (h : badTo n N m = false) (hk : k < m) : badE n (nth tz N k) = false ∧ badS N k = false := by
  induction m with
  | zero => omega
  | succ m ih =>
    simp only [badTo, Bool.or_eq_false_iff] at h
    by_cases h1 : k = m
    · subst h1; exact ⟨h.1.2, h.2⟩
    · exact ih h.1.1 (by omega)

theorem VG.of_valid {W : List Int} {N : List Tri} (h : validN W N = 0) : VG W N := by
  unfold validN at h
  split at h
  · cases h
  rename_i h1
  split at h
  · cases h
  rename_i h2
  simp only [Bool.or_eq_true, not_or, Bool.not_eq_true] at h2
  obtain ⟨h3, h4⟩ := h2
  refine ⟨by omega, by omega, fun x hx => ?_, fun e he => ?_, fun i hi => ?_⟩
  · have := List.any_eq_false.1 h3 x hx
    simp [bad1] at this
    omega
  · obtain ⟨k, hk, rfl⟩ := List.mem_iff_getElem.1 he
    have := (badTo_at h4 hk).1
    rw [nth_eq tz N k hk] at this
    simp [badE] at this
    omega
  · have := (badTo_at h4 hi).2
    simp [badS, lt2] at this
    omega

theorem valid_of_VG {W : List Int} {N : List Tri} (h : VG W N) : validN W N = 0 := by
  unfold validN
  rw [if_neg (by have := h.wlen; have := h.nlen; omega)]
  have h1 : W.any bad1 = false := List.any_eq_false.2 fun x hx => by have := h.w0 x hx; simp [bad1]; omega
  have h2 : ∀ m, m ≤ N.length → badTo W.length N m = false := by
    intro m
    induction m with
    | zero => intro _; rfl
    | succ m ih =>
      intro hm
      have he := h.n0 _ (nth_mem tz N m (by omega))
      have hb : badE W.length (nth tz N m) = false := by simp [badE]; omega
      have hs : badS N m = false := by
        by_cases hm0 : m = 0
        · subst hm0; rfl
        · have := h.sorted (m - 1) (by omega)
          rw [show m - 1 + 1 = m by omega] at this
          simp [badS, lt2]
          omega
      simp only [badTo, ih (by omega), hb, hs, Bool.or_self]
  rw [h1, h2 _ (Nat.le_refl _)]
  rfl

/-! ### What the maps hold -/
theorem lwTo_get (W : List Int) : ∀ (k : Nat) (i : Nat), getL (lwTo W k) (i : Int) = if i < k then some (nth 0 W i) else none
  | 0, i => by simp [lwTo, getL_nil]
  | k + 1, i => by
    simp only [lwTo]
    rw [getL_putL, lwTo_get W k i]
    by_cases h : (k : Int) = (i : Int)
    · have : k = i := by omega
      subst this
      simp
    · rw [if_neg h]
      have h2 : k ≠ i := by omega
      by_cases h3 : i < k
      · rw [if_pos h3, if_pos (by omega)]
      · rw [if_neg h3, if_neg (by omega)]

/-- The maps of groups: the weights; the lengths, of just the pairs that have a border in common. -/
structure StOk (W : List Int) (N : List Tri) (of : List Nat) (lw : List (Int × Int)) (ll : List ((Nat × Nat) × Int)) : Prop where
  w : ∀ g, g < W.length → nth 0 of g = g → wgtL lw g = weight W of g
  nodup : (ll.map (·.1)).Nodup
  len : ll.length ≤ 16384
  l : ∀ p ∈ ll, p.1.1 < p.1.2 ∧ p.1.2 < W.length ∧ nth 0 of p.1.1 = p.1.1 ∧ nth 0 of p.1.2 = p.1.2 ∧ p.2 = common N of p.1.1 p.1.2 ∧ 0 < p.2
  all : ∀ x y, x < y → y < W.length → nth 0 of x = x → nth 0 of y = y → 0 < common N of x y → ∃ v, ((x, y), v) ∈ ll
end Go.Proofs.Ytdibpfbibgicaaa

/- V4: the program's strips are the model's. -/
namespace Go.Proofs.Ytdibpfbibgicaaa
open Go.RowKit Go.Hp

theorem touch_comm (of : List Nat) (a b : Nat) (e : Tri) : touch of a b e ↔ touch of b a e := by unfold touch; exact Or.comm
theorem common_comm (N : List Tri) (of : List Nat) (a b : Nat) : common N of a b = common N of b a := by
  have h : ∀ i, commonTo N of a b i = commonTo N of b a i := by
    intro i
    induction i with
    | zero => rfl
    | succ i ih =>
      simp only [commonTo, ih]
      congr 1
      by_cases h : touch of a b (nth tz N i)
      · rw [if_pos h, if_pos ((touch_comm _ _ _ _).1 h)]
      · rw [if_neg h, if_neg (fun h' => h ((touch_comm _ _ _ _).2 h'))]
  exact h _

theorem oth_some {g x : Nat} {p : Nat × Nat} (hp : p.1 < p.2) (h : oth g p = some x) : p = key g x ∧ x ≠ 0 ∧ x ≠ g ∧ ((p.1 = g ∧ p.2 = x) ∨ (p.1 = x ∧ p.2 = g)) := by
  unfold oth at h
  split at h
  · rename_i h1
    simp only [Option.some.injEq] at h
    obtain ⟨a, b⟩ := p
    simp only at hp h h1
    unfold key
    refine ⟨Prod.ext ?_ ?_, ?_, ?_, ?_⟩ <;> (try simp only) <;> omega
  · cases h

theorem others_mem {W : List Int} {N : List Tri} {of : List Nat} {lw : List (Int × Int)} {ll : List ((Nat × Nat) × Int)} (h : StOk W N of lw ll) (hv : VG W N) {g : Nat} (hg : g < W.length) (hgg : nth 0 of g = g) (x : Nat) :
    x ∈ others ll g ↔ x < W.length ∧ nth 0 of x = x ∧ x ≠ g ∧ x ≠ 0 ∧ 0 < common N of g x := by
  unfold others
  rw [List.mem_filterMap]
  constructor
  · rintro ⟨p, hp, ho⟩
    obtain ⟨h1, h2, h3, h4, h5, h6⟩ := h.l p hp
    obtain ⟨-, k1, k2, k3⟩ := oth_some h1 ho
    rcases k3 with ⟨e1, e2⟩ | ⟨e1, e2⟩
    · rw [e1, e2] at h5; rw [e2] at h2 h4; exact ⟨h2, h4, k2, k1, by omega⟩
    · rw [e1, e2] at h5; rw [e1] at h3 h1; rw [e2] at h1 h2
      rw [common_comm]
      exact ⟨by omega, h3, k2, k1, by omega⟩
  · rintro ⟨h1, h2, h3, h4, h5⟩
    by_cases hlt : g < x
    · obtain ⟨v, hv⟩ := h.all g x hlt h1 hgg h2 h5
      exact ⟨_, hv, by unfold oth; rw [if_pos ⟨Or.inl rfl, by show g + x ≠ g; omega⟩]; show some (g + x - g) = some x; congr 1; omega⟩
    · obtain ⟨v, hv⟩ := h.all x g (by omega) hg h2 hgg (by rw [common_comm]; exact h5)
      exact ⟨_, hv, by unfold oth; rw [if_pos ⟨Or.inr rfl, by show x + g ≠ g; omega⟩]; show some (x + g - g) = some x; congr 1; omega⟩

theorem others_nodup {W : List Int} {N : List Tri} {of : List Nat} {lw : List (Int × Int)} {ll : List ((Nat × Nat) × Int)} (h : StOk W N of lw ll) (g : Nat) : (others ll g).Nodup := by
  unfold others List.Nodup
  rw [List.pairwise_filterMap]
  have h1 : ll.Pairwise (fun p q => p.1 ≠ q.1) := by have := h.nodup; unfold List.Nodup at this; rwa [List.pairwise_map] at this
  refine h1.imp_of_mem ?_
  intro p q hp hq hne x hx y hy hxy
  subst hxy
  exact hne ((oth_some (h.l p hp).1 hx).1.trans (oth_some (h.l q hq).1 hy).1.symm)

theorem srtN_others {W : List Int} {N : List Tri} {of : List Nat} {lw : List (Int × Int)} {ll : List ((Nat × Nat) × Int)} (h : StOk W N of lw ll) (hv : VG W N) (hl : of.length = W.length) (h0 : nth 0 of 0 = 0) {g : Nat} (hg : g < W.length) (hgg : nth 0 of g = g) :
    srtN (others ll g) = nears N of g := by
  have ht : ∀ (a b c : Nat), decide (a ≤ b) = true → decide (b ≤ c) = true → decide (a ≤ c) = true := by intro a b c; simp; omega
  have hT : ∀ (a b : Nat), (decide (a ≤ b) || decide (b ≤ a)) = true := by intro a b; simp; omega
  have hs1 : (srtN (others ll g)).Pairwise (· ≤ ·) := (List.pairwise_mergeSort ht hT _).imp (fun h => by simpa using h)
  have hs2 : (nears N of g).Pairwise (· ≤ ·) := (List.pairwise_lt_range.imp (fun h => Nat.le_of_lt h)).sublist List.filter_sublist
  have hp1 := List.mergeSort_perm (others ll g) (fun x y => decide (x ≤ y))
  have hn1 : (srtN (others ll g)).Nodup := hp1.nodup_iff.2 (others_nodup h g)
  have hn2 : (nears N of g).Nodup := List.nodup_range.sublist List.filter_sublist
  have hmem : ∀ x, x ∈ srtN (others ll g) ↔ x ∈ nears N of g := by
    intro x
    rw [show (x ∈ srtN (others ll g)) = (x ∈ others ll g) from propext hp1.mem_iff, others_mem h hv hg hgg]
    unfold nears isNear
    rw [List.mem_filter, List.mem_range, hl, decide_eq_true_iff, h0]
  refine List.Perm.eq_of_pairwise (le := fun a b => a ≤ b) (fun a b _ _ h1 h2 => by omega) hs1 hs2 ?_
  exact (List.perm_ext_iff_of_nodup hn1 hn2).2 hmem

theorem lenL_common {W : List Int} {N : List Tri} {of : List Nat} {lw : List (Int × Int)} {ll : List ((Nat × Nat) × Int)} (h : StOk W N of lw ll) (hv : VG W N) {x y : Nat} (hx : x < W.length) (hy : y < W.length) (hxx : nth 0 of x = x) (hyy : nth 0 of y = y) (hne : x ≠ y) : lenL ll x y = common N of x y := by
  have key' : ∀ a b, a < b → b < W.length → nth 0 of a = a → nth 0 of b = b → (getL ll (a, b)).getD 0 = common N of a b := by
    intro a b hab hb ha hbb
    by_cases hc : 0 < common N of a b
    · obtain ⟨v, hm⟩ := h.all a b hab hb ha hbb hc
      rw [getL_of_mem h.nodup hm]
      exact (h.l _ hm).2.2.2.2.1
    · have h0 := (common_bd hv of a b).1
      cases hg : getL ll (a, b) with
      | none => simp only [Option.getD_none]; omega
      | some v =>
        have hm := getL_mem hg
        have := h.l _ hm
        simp only at this
        omega
  unfold lenL key
  by_cases hlt : x < y
  · rw [show min x y = x by omega, show max x y = y by omega]; exact key' x y hlt hy hxx hyy
  · rw [show min x y = y by omega, show max x y = x by omega, common_comm]; exact key' y x (by omega) hx hyy hxx

theorem stripL_first {W : List Int} {N : List Tri} {of : List Nat} {lw : List (Int × Int)} {ll : List ((Nat × Nat) × Int)} (h : StOk W N of lw ll) (hv : VG W N) (hl : of.length = W.length) (h0 : nth 0 of 0 = 0) {g : Nat} (hg : g < W.length) (hgg : nth 0 of g = g) (most : Int) :
    stripL lw ll g most = first W N of g most := by
  unfold stripL first
  rw [srtN_others h hv hl h0 hg hgg, h0, h.w g hg hgg]
  have hiff : (g ≠ 0 ∧ weight W of g < most) ↔ (nth 0 of g = g ∧ g ≠ 0 ∧ weight W of g < most) := by simp [hgg]
  by_cases hc : g ≠ 0 ∧ weight W of g < most
  · rw [if_pos hc, if_pos (hiff.1 hc)]
    match hm : nears N of g with
    | [] => rfl
    | [x] => rfl
    | [x, y] =>
      have hx : x ∈ nears N of g := by rw [hm]; simp
      have hy : y ∈ nears N of g := by rw [hm]; simp
      unfold nears isNear at hx hy
      rw [List.mem_filter, List.mem_range, hl, decide_eq_true_iff] at hx hy
      simp only
      rw [lenL_common h hv hg hx.1 hgg hx.2.1 (Ne.symm hx.2.2.1), lenL_common h hv hg hy.1 hgg hy.2.1 (Ne.symm hy.2.2.1)]
    | x :: y :: z :: l => rfl
  · rw [if_neg hc, if_neg (fun h => hc (hiff.2 h))]
end Go.Proofs.Ytdibpfbibgicaaa

/- V5: the state behind strip.alone is that of the model. -/
namespace Go.Proofs.Ytdibpfbibgicaaa
open Go.RowKit Go.Hp

theorem nth_range (n i : Nat) (h : i < n) : nth 0 (List.range n) i = i := by rw [nth_eq 0 _ _ (by simpa using h)]; simp
theorem weightTo_range (W : List Int) (g : Nat) : ∀ i, i ≤ W.length → weightTo W (List.range W.length) g i = if g < i then nth 0 W g else 0
  | 0, _ => by simp [weightTo]
  | i + 1, hi => by
    simp only [weightTo, weightTo_range W g i (by omega), nth_range W.length i (by omega)]
    by_cases h1 : g < i
    · rw [if_pos h1, if_neg (by omega), if_pos (by omega)]; omega
    · by_cases h2 : i = g
      · subst h2; rw [if_neg h1, if_pos rfl, if_pos (by omega)]; omega
      · rw [if_neg h1, if_neg h2, if_neg (by omega)]; omega

theorem lenTo_len (N : List Tri) : ∀ k, (lenTo N k).length ≤ k
  | 0 => Nat.le_refl _
  | k + 1 => by
    have := putL_length_le (lenTo N k) (eKey (nth tz N k)) (nth tz N k).2.2
    have := lenTo_len N k
    simp only [lenTo]
    omega
theorem lenTo_nodup (N : List Tri) : ∀ k, ((lenTo N k).map (·.1)).Nodup
  | 0 => by simp [lenTo]
  | k + 1 => nodup_putL (lenTo_nodup N k) _ _

theorem vg_lex {W : List Int} {N : List Tri} (hv : VG W N) {i : Nat} : ∀ {j : Nat}, i < j → j < N.length → (nth tz N i).1 < (nth tz N j).1 ∨ ((nth tz N i).1 = (nth tz N j).1 ∧ (nth tz N i).2.1 < (nth tz N j).2.1)
  | 0, h, _ => by omega
  | j + 1, h, hj => by
    have hs := hv.sorted j hj
    by_cases h1 : i = j
    · subst h1; exact hs
    · have := vg_lex hv (show i < j by omega) (by omega)
      omega

theorem touch_range {W : List Int} {N : List Tri} (hv : VG W N) {k a b : Nat} (hk : k < N.length) (hab : a < b) : touch (List.range W.length) a b (nth tz N k) ↔ eKey (nth tz N k) = (a, b) := by
  have h := hv.n0 _ (nth_mem tz N k hk)
  unfold touch eKey
  rw [nth_range _ _ (by omega), nth_range _ _ (by omega), Prod.mk.injEq]
  constructor
  · rintro (h1 | h1)
    · exact h1
    · omega
  · exact .inl

theorem lenTo_get {W : List Int} {N : List Tri} (hv : VG W N) {a b : Nat} (hab : a < b) : ∀ k, k ≤ N.length →
    ((getL (lenTo N k) (a, b) = none ∧ commonTo N (List.range W.length) a b k = 0) ∨ (∃ v j, j < k ∧ eKey (nth tz N j) = (a, b) ∧ getL (lenTo N k) (a, b) = some v ∧ v = commonTo N (List.range W.length) a b k ∧ 0 < v))
  | 0, _ => .inl ⟨rfl, rfl⟩
  | k + 1, hk => by
    have hn := hv.n0 _ (nth_mem tz N k (by omega))
    have ih := lenTo_get hv hab k (by omega)
    simp only [lenTo, commonTo]
    rw [getL_putL]
    by_cases ht : eKey (nth tz N k) = (a, b)
    · rw [if_pos ht, if_pos ((touch_range hv (by omega) hab).2 ht)]
      right
      rcases ih with ⟨h1, h2⟩ | ⟨v, j, h1, h2, _⟩
      · exact ⟨_, k, by omega, ht, rfl, by omega, by omega⟩
      · exfalso
        have hlex := vg_lex hv h1 (by omega)
        have hj := hv.n0 _ (nth_mem tz N j (by omega))
        rw [← ht] at h2
        unfold eKey at h2
        simp only [Prod.mk.injEq] at h2
        omega
    · rw [if_neg ht, if_neg (fun h => ht ((touch_range hv (by omega) hab).1 h)), Int.add_zero]
      rcases ih with h | ⟨v, j, h1, h2⟩
      · exact .inl h
      · exact .inr ⟨v, j, by omega, h2⟩

theorem lenTo_keys {W : List Int} {N : List Tri} (hv : VG W N) : ∀ k, k ≤ N.length → ∀ p ∈ lenTo N k, p.1.1 < p.1.2 ∧ p.1.2 < W.length := by
  intro k hk p hp
  have : p.1 ∈ (lenTo N k).map (·.1) := List.mem_map.2 ⟨p, hp, rfl⟩
  clear hp
  induction k with
  | zero => simp [lenTo] at this
  | succ k ih =>
    simp only [lenTo] at this
    rcases (keys_putL_mem _ _ _ _).1 this with h | h
    · have hn := hv.n0 _ (nth_mem tz N k (by omega))
      rw [h]; unfold eKey; simp only; omega
    · exact ih (by omega) h

theorem StOk.start {W : List Int} {N : List Tri} (hv : VG W N) : StOk W N (List.range W.length) (lwTo W W.length) (lenTo N N.length) := by
  refine ⟨fun g hg _ => ?_, lenTo_nodup N _, Nat.le_trans (lenTo_len N _) hv.nlen, fun p hp => ?_, fun x y hxy hy _ _ hc => ?_⟩
  · unfold wgtL weight
    rw [lwTo_get, if_pos hg, List.length_range, weightTo_range W g _ (Nat.le_refl _), if_pos hg]; rfl
  · obtain ⟨h1, h2⟩ := lenTo_keys hv _ (Nat.le_refl _) p hp
    have hg := getL_of_mem (lenTo_nodup N N.length) (show (p.1, p.2) ∈ lenTo N N.length from hp)
    refine ⟨h1, h2, nth_range _ _ (by omega), nth_range _ _ h2, ?_⟩
    rcases lenTo_get hv h1 N.length (Nat.le_refl _) with ⟨k1, _⟩ | ⟨v, j, _, _, k1, k2, k3⟩
    · rw [k1] at hg; cases hg
    · rw [k1] at hg; cases hg; exact ⟨k2, k3⟩
  · rcases lenTo_get hv hxy N.length (Nat.le_refl _) with ⟨_, k1⟩ | ⟨v, j, _, _, k1, _⟩
    · unfold common at hc; omega
    · exact ⟨v, getL_mem k1⟩
end Go.Proofs.Ytdibpfbibgicaaa
