/- V789: V7, V8, V9, joined. -/
import Derived.Test.YtdibpfbibgicaaaV345
import Derived.Test.YtdibpfbibgicaaaG5
set_option linter.unusedVariables false
set_option linter.unusedSimpArgs false
/- V7: a merge keeps the maps in step with the model. -/
namespace Go.Proofs.Ytdibpfbibgicaaa
open Go.RowKit Go.Hp

abbrev LL := List ((Nat × Nat) × Int)

/-- The pair goes to this one. -/
def maps (of : List Nat) (q k : Nat × Nat) : Prop := nth 0 of q.1 ≠ nth 0 of q.2 ∧ key (nth 0 of q.1) (nth 0 of q.2) = k
instance (of : List Nat) (q k : Nat × Nat) : Decidable (maps of q k) := by unfold maps; infer_instance
def S (of : List Nat) (k : Nat × Nat) : LL → Int
  | [] => 0
  | p :: d => (if maps of p.1 k then p.2 else 0) + S of k d

theorem foldLen_getD (of : List Nat) (k : Nat × Nat) : ∀ (d m : LL), (getL (foldLen of m d) k).getD 0 = (getL m k).getD 0 + S of k d
  | [], m => by simp [foldLen, S]
  | (j, u) :: d, m => by
    simp only [foldLen, S]
    rw [foldLen_getD of k d]
    by_cases h : nth 0 of j.1 = nth 0 of j.2
    · rw [if_pos h, if_neg (show ¬ maps of j k from fun h' => h'.1 h)]; omega
    · rw [if_neg h, getL_putL]
      by_cases hk : key (nth 0 of j.1) (nth 0 of j.2) = k
      · rw [if_pos hk, if_pos (show maps of j k from ⟨h, hk⟩), hk]; simp only [Option.getD_some]; omega
      · rw [if_neg hk, if_neg (show ¬ maps of j k from fun h' => hk h'.2)]; omega
theorem foldLen_some (of : List Nat) (k : Nat × Nat) : ∀ (d m : LL), (getL (foldLen of m d) k).isSome = true ↔ (getL m k).isSome = true ∨ ∃ p ∈ d, maps of p.1 k
  | [], m => by simp [foldLen]
  | (j, u) :: d, m => by
    simp only [foldLen]
    rw [foldLen_some of k d]
    by_cases h : nth 0 of j.1 = nth 0 of j.2
    · rw [if_pos h]
      constructor
      · rintro (h1 | ⟨p, hp, h1⟩)
        · exact .inl h1
        · exact .inr ⟨p, List.mem_cons_of_mem _ hp, h1⟩
      · rintro (h1 | ⟨p, hp, h1⟩)
        · exact .inl h1
        · rcases List.mem_cons.1 hp with rfl | hp
          · exact absurd h h1.1
          · exact .inr ⟨p, hp, h1⟩
    · rw [if_neg h, getL_putL]
      by_cases hk : key (nth 0 of j.1) (nth 0 of j.2) = k
      · rw [if_pos hk]
        exact ⟨fun _ => .inr ⟨_, List.mem_cons_self, h, hk⟩, fun _ => .inl rfl⟩
      · rw [if_neg hk]
        constructor
        · rintro (h1 | ⟨p, hp, h1⟩)
          · exact .inl h1
          · exact .inr ⟨p, List.mem_cons_of_mem _ hp, h1⟩
        · rintro (h1 | ⟨p, hp, h1⟩)
          · exact .inl h1
          · rcases List.mem_cons.1 hp with rfl | hp
            · exact absurd h1.2 hk
            · exact .inr ⟨p, hp, h1⟩
theorem foldLen_nodup (of : List Nat) : ∀ (d m : LL), (m.map (·.1)).Nodup → ((foldLen of m d).map (·.1)).Nodup
  | [], m, h => h
  | (j, u) :: d, m, h => by
    simp only [foldLen]
    refine foldLen_nodup of d _ ?_
    split
    · exact h
    · exact nodup_putL h _ _
theorem foldLen_len (of : List Nat) : ∀ (d m : LL), (foldLen of m d).length ≤ m.length + d.length
  | [], m => by simp [foldLen]
  | (j, u) :: d, m => by
    simp only [foldLen, List.length_cons]
    refine Nat.le_trans (foldLen_len of d _) ?_
    split
    · omega
    · have := putL_length_le m (key (nth 0 of j.1) (nth 0 of j.2)) ((getL m (key (nth 0 of j.1) (nth 0 of j.2))).getD 0 + u)
      omega

/-- The part of the sum that the first borders make. -/
def T (N : List Tri) (of of' : List Nat) (k : Nat × Nat) (i : Nat) : LL → Int
  | [] => 0
  | p :: d => (if maps of' p.1 k then commonTo N of p.1.1 p.1.2 i else 0) + T N of of' k i d
theorem S_eq_T (N : List Tri) (of of' : List Nat) (k : Nat × Nat) : ∀ (d : LL), (∀ p ∈ d, p.2 = common N of p.1.1 p.1.2) → S of' k d = T N of of' k N.length d
  | [], _ => rfl
  | p :: d, h => by
    simp only [S, T]
    rw [S_eq_T N of of' k d (fun q hq => h q (List.mem_cons_of_mem _ hq)), h p List.mem_cons_self]; rfl
def U (q : Nat × Nat) (c : Int) : LL → Int
  | [] => 0
  | p :: d => (if p.1 = q then c else 0) + U q c d
theorem U_none (q : Nat × Nat) (c : Int) : ∀ (d : LL), q ∉ d.map (·.1) → U q c d = 0
  | [], _ => rfl
  | p :: d, h => by
    simp only [List.map_cons, List.mem_cons, not_or] at h
    simp only [U]
    rw [if_neg (fun e => h.1 e.symm), U_none q c d h.2]; rfl
theorem U_some (q : Nat × Nat) (c : Int) : ∀ (d : LL), (d.map (·.1)).Nodup → q ∈ d.map (·.1) → U q c d = c
  | [], _, h => by simp at h
  | p :: d, hn, h => by
    simp only [List.map_cons, List.nodup_cons] at hn
    simp only [List.map_cons, List.mem_cons] at h
    simp only [U]
    by_cases hp : p.1 = q
    · rw [if_pos hp, U_none q c d (by rw [← hp]; exact hn.1)]; omega
    · rw [if_neg hp, U_some q c d hn.2 (h.resolve_left (fun e => hp e.symm))]; omega

theorem T_zero (N : List Tri) (of of' : List Nat) (k : Nat × Nat) : ∀ (d : LL), T N of of' k 0 d = 0
  | [] => rfl
  | p :: d => by simp only [T, T_zero N of of' k d, commonTo, ite_self]; rfl

/-- What one border adds to the sum. -/
theorem T_succ (N : List Tri) (of of' : List Nat) (k : Nat × Nat) (i : Nat) (q : Nat × Nat) : ∀ (d : LL),
    (∀ p ∈ d, (maps of' p.1 k ∧ touch of p.1.1 p.1.2 (nth tz N i)) ↔ p.1 = q) → T N of of' k (i + 1) d = T N of of' k i d + U q (nth tz N i).2.2 d
  | [], _ => rfl
  | p :: d, h => by
    simp only [T, U]
    rw [T_succ N of of' k i q d (fun r hr => h r (List.mem_cons_of_mem _ hr))]
    have hp := h p List.mem_cons_self
    simp only [commonTo]
    by_cases h1 : maps of' p.1 k
    · rw [if_pos h1, if_pos h1]
      by_cases h2 : touch of p.1.1 p.1.2 (nth tz N i)
      · rw [if_pos h2, if_pos (hp.1 ⟨h1, h2⟩)]; omega
      · rw [if_neg h2, if_neg (fun h3 => h2 (hp.2 h3).2)]; omega
    · rw [if_neg h1, if_neg h1, if_neg (fun h3 => h1 (hp.2 h3).1)]; omega
theorem T_same (N : List Tri) (of of' : List Nat) (k : Nat × Nat) (i : Nat) : ∀ (d : LL), (∀ p ∈ d, ¬ (maps of' p.1 k ∧ touch of p.1.1 p.1.2 (nth tz N i))) → T N of of' k (i + 1) d = T N of of' k i d
  | [], _ => rfl
  | p :: d, h => by
    simp only [T]
    rw [T_same N of of' k i d (fun r hr => h r (List.mem_cons_of_mem _ hr))]
    have hp := h p List.mem_cons_self
    simp only [commonTo]
    by_cases h1 : maps of' p.1 k
    · rw [if_pos h1, if_pos h1, if_neg (fun h2 => hp ⟨h1, h2⟩)]; omega
    · rw [if_neg h1, if_neg h1]

theorem common_pos {W : List Int} {N : List Tri} (hv : VG W N) (of : List Nat) (a b : Nat) {i : Nat} (hi : i < N.length) (ht : touch of a b (nth tz N i)) : 0 < common N of a b := by
  have h : ∀ m, i < m → m ≤ N.length → 0 < commonTo N of a b m := by
    intro m
    induction m with
    | zero => intro h; omega
    | succ m ih =>
      intro h1 h2
      have hb := commonTo_bd hv of a b m (by omega)
      have hn := hv.n0 _ (nth_mem tz N m (by omega))
      simp only [commonTo]
      by_cases hm : i = m
      · subst hm; rw [if_pos ht]; omega
      · have := ih (by omega) (by omega)
        split <;> omega
  exact h _ hi (Nat.le_refl _)

theorem touch_key {of : List Nat} {p : Nat × Nat} (hp : p.1 < p.2) (e : Tri) : touch of p.1 p.2 e ↔ nth 0 of e.1.toNat ≠ nth 0 of e.2.1.toNat ∧ p = key (nth 0 of e.1.toNat) (nth 0 of e.2.1.toNat) := by
  obtain ⟨a, b⟩ := p
  simp only at hp
  unfold touch key
  rw [Prod.mk.injEq]
  simp only
  omega

theorem T_common {W : List Int} {N : List Tri} (hv : VG W N) {of : List Nat} (hgr : Gr W.length of) (x y : Nat) {a b : Nat} (hab : a < b) (d : LL) (hn : (d.map (·.1)).Nodup) (hd : ∀ p ∈ d, p.1.1 < p.1.2) :
    ∀ i, i ≤ N.length → T N of (mrg of x y) (a, b) i d ≤ commonTo N (mrg of x y) a b i ∧
      ((∀ u v, u < v → v < W.length → nth 0 of u = u → nth 0 of v = v → 0 < common N of u v → (u, v) ∈ d.map (·.1)) → T N of (mrg of x y) (a, b) i d = commonTo N (mrg of x y) a b i)
  | 0, _ => by rw [T_zero]; exact ⟨Int.le_refl _, fun _ => rfl⟩
  | i + 1, hi => by
    obtain ⟨ih1, ih2⟩ := T_common hv hgr x y hab d hn hd i (by omega)
    have he := hv.n0 _ (nth_mem tz N i (by omega))
    have hgl := hgr.len
    obtain ⟨u, hu⟩ : ∃ u, nth 0 of (nth tz N i).1.toNat = u := ⟨_, rfl⟩
    obtain ⟨v, hv'⟩ : ∃ v, nth 0 of (nth tz N i).2.1.toNat = v := ⟨_, rfl⟩
    have hun : u < W.length := by rw [← hu]; exact hgr.lt (by omega)
    have hvn : v < W.length := by rw [← hv']; exact hgr.lt (by omega)
    have huu : nth 0 of u = u := by rw [← hu]; exact hgr.idem _ (by omega)
    have hvv : nth 0 of v = v := by rw [← hv']; exact hgr.idem _ (by omega)
    have eU : nth 0 (mrg of x y) (nth tz N i).1.toNat = nth 0 (mrg of x y) u := by rw [nth_mrg of x y _ (by omega), nth_mrg of x y u (by omega), hu, huu]
    have eV : nth 0 (mrg of x y) (nth tz N i).2.1.toNat = nth 0 (mrg of x y) v := by rw [nth_mrg of x y _ (by omega), nth_mrg of x y v (by omega), hv', hvv]
    have F2 : touch (mrg of x y) a b (nth tz N i) ↔ u ≠ v ∧ maps (mrg of x y) (key u v) (a, b) := by
      unfold touch maps
      rw [eU, eV]
      by_cases huv : u = v
      · subst huv; constructor
        · intro h; omega
        · intro h; exact absurd rfl h.1
      · by_cases hlt : u < v
        · have k1 : (key u v).1 = u := by unfold key; simp only; omega
          have k2 : (key u v).2 = v := by unfold key; simp only; omega
          rw [k1, k2]; unfold key; rw [Prod.mk.injEq]; omega
        · have k1 : (key u v).1 = v := by unfold key; simp only; omega
          have k2 : (key u v).2 = u := by unfold key; simp only; omega
          rw [k1, k2]; unfold key; rw [Prod.mk.injEq]; omega
    have F1 : ∀ p ∈ d, touch of p.1.1 p.1.2 (nth tz N i) ↔ u ≠ v ∧ p.1 = key u v := fun p hp => by rw [touch_key (hd p hp), hu, hv']
    by_cases ht : touch (mrg of x y) a b (nth tz N i)
    · obtain ⟨hne, hmp⟩ := F2.1 ht
      have hstep := T_succ N of (mrg of x y) (a, b) i (key u v) d (fun p hp => by
        rw [F1 p hp]
        exact ⟨fun h => h.2.2, fun h => ⟨by rw [h]; exact hmp, hne, h⟩⟩)
      rw [hstep]
      simp only [commonTo]
      rw [if_pos ht]
      by_cases hm : key u v ∈ d.map (·.1)
      · rw [U_some _ _ d hn hm]
        exact ⟨by omega, fun h => by rw [ih2 h]⟩
      · rw [U_none _ _ d hm]
        refine ⟨by omega, fun h => absurd ?_ hm⟩
        have hlt : (key u v).1 < (key u v).2 := by unfold key; simp only; omega
        have hpos := common_pos hv of (key u v).1 (key u v).2 (show i < N.length by omega) ((touch_key hlt _).2 ⟨by rw [hu, hv']; exact hne, by rw [hu, hv']⟩)
        have h1 : nth 0 of (key u v).1 = (key u v).1 := by unfold key; simp only; rcases Nat.le_total u v with h | h <;> simp [h, huu, hvv]
        have h2 : nth 0 of (key u v).2 = (key u v).2 := by unfold key; simp only; rcases Nat.le_total u v with h | h <;> simp [h, huu, hvv]
        exact h _ _ hlt (by show max u v < W.length; omega) h1 h2 hpos
    · have hstep := T_same N of (mrg of x y) (a, b) i d (fun p hp h => ht (F2.2 (by
        obtain ⟨h1, h2⟩ := h
        obtain ⟨h3, h4⟩ := (F1 p hp).1 h2
        exact ⟨h3, by rw [← h4]; exact h1⟩)))
      rw [hstep]
      simp only [commonTo]
      rw [if_neg ht, Int.add_zero]
      exact ⟨ih1, ih2⟩
end Go.Proofs.Ytdibpfbibgicaaa

/- V8: the maps behind a merge. -/
namespace Go.Proofs.Ytdibpfbibgicaaa
open Go.RowKit Go.Hp

theorem S_nonneg (of : List Nat) (k : Nat × Nat) : ∀ (d : LL), (∀ p ∈ d, 0 < p.2) → 0 ≤ S of k d
  | [], _ => Int.le_refl _
  | p :: d, h => by
    have h1 := S_nonneg of k d (fun q hq => h q (List.mem_cons_of_mem _ hq))
    have h2 := h p List.mem_cons_self
    simp only [S]
    split <;> omega
theorem S_pos (of : List Nat) (k : Nat × Nat) : ∀ (d : LL), (∀ p ∈ d, 0 < p.2) → (∃ r ∈ d, maps of r.1 k) → 0 < S of k d
  | [], _, ⟨r, hr, _⟩ => by cases hr
  | p :: d, h, ⟨r, hr, hm⟩ => by
    have h0 := fun q hq => h q (List.mem_cons_of_mem p hq)
    have h2 := h p List.mem_cons_self
    simp only [S]
    rcases List.mem_cons.1 hr with rfl | hr
    · have h1 := S_nonneg of k d h0
      rw [if_pos hm]; omega
    · have h1 := S_pos of k d h0 ⟨r, hr, hm⟩
      split <;> omega
theorem wgt_putL (lw : List (Int × Int)) (k g : Nat) (v : Int) : wgtL (putL lw (k : Int) v) g = if k = g then v else wgtL lw g := by
  unfold wgtL
  rw [getL_putL]
  by_cases h : k = g
  · subst h; simp
  · rw [if_neg (by omega), if_neg h]
theorem wgt_delL (lw : List (Int × Int)) (k g : Nat) (h : k ≠ g) : wgtL (delL lw (k : Int)) g = wgtL lw g := by
  unfold wgtL
  rw [getL_delL, if_neg (by omega)]

theorem weightTo_mrg (W : List Int) (of : List Nat) {x y : Nat} (hne : x ≠ y) : ∀ i, i ≤ of.length → weightTo W (mrg of x y) (min x y) i = weightTo W of x i + weightTo W of y i ∧ (∀ g, g ≠ x → g ≠ y → weightTo W (mrg of x y) g i = weightTo W of g i)
  | 0, _ => ⟨rfl, fun _ _ _ => rfl⟩
  | i + 1, hi => by
    obtain ⟨h1, h2⟩ := weightTo_mrg W of hne i (by omega)
    simp only [weightTo, nth_mrg of x y i (by omega)]
    refine ⟨?_, fun g hgx hgy => ?_⟩
    · rw [h1]
      unfold mrg1
      by_cases e1 : nth 0 of i = x
      · rw [if_pos (Or.inl e1), if_pos rfl, if_pos e1, if_neg (by omega)]; omega
      · by_cases e2 : nth 0 of i = y
        · rw [if_pos (Or.inr e2), if_pos rfl, if_neg e1, if_pos e2]; omega
        · rw [if_neg (show ¬(nth 0 of i = x ∨ nth 0 of i = y) by omega), if_neg (show ¬ nth 0 of i = min x y by omega), if_neg e1, if_neg e2]; omega
    · rw [h2 g hgx hgy]
      congr 1
      unfold mrg1
      by_cases e1 : nth 0 of i = x ∨ nth 0 of i = y
      · rw [if_pos e1, if_neg (by omega), if_neg (by omega)]
      · rw [if_neg e1]

theorem gr_mrg {n : Nat} {of : List Nat} (h : Gr n of) {x y : Nat} (hx : x < n) (hy : y < n) (hxx : nth 0 of x = x) (hyy : nth 0 of y = y) : Gr n (mrg of x y) := by
  have hl := h.len
  have hm : ∀ i, i < n → nth 0 (mrg of x y) i = mrg1 x y (nth 0 of i) := fun i hi => nth_mrg of x y i (by omega)
  refine ⟨by rw [mrg_len, hl], fun i hi => ?_, fun i hi => ?_⟩
  · rw [hm i hi]
    have := h.le i hi
    unfold mrg1
    split <;> omega
  · have hlt := h.lt hi
    have h1 : mrg1 x y (nth 0 of i) < n := by unfold mrg1; split <;> omega
    rw [hm i hi, hm _ h1]
    have hid := h.idem i hi
    unfold mrg1
    by_cases e : nth 0 of i = x ∨ nth 0 of i = y
    · rw [if_pos e]
      rcases Nat.le_total x y with hxy | hxy
      · rw [Nat.min_eq_left hxy, hxx, if_pos (Or.inl rfl)]
      · rw [Nat.min_eq_right hxy, hyy, if_pos (Or.inr rfl)]
    · rw [if_neg e, hid, if_neg e]

theorem head_mrg {n : Nat} {of : List Nat} (h : Gr n of) {x y : Nat} (hx : x < n) (hy : y < n) (hxx : nth 0 of x = x) (hyy : nth 0 of y = y) (hne : x ≠ y) {g : Nat} (hg : g < n) : nth 0 (mrg of x y) g = g ↔ nth 0 of g = g ∧ g ≠ max x y := by
  rw [nth_mrg of x y g (by rw [h.len]; exact hg)]
  unfold mrg1
  by_cases e : nth 0 of g = x ∨ nth 0 of g = y
  · rw [if_pos e]
    constructor
    · intro h1
      rcases Nat.le_total x y with hxy | hxy
      · rw [Nat.min_eq_left hxy] at h1; subst h1; exact ⟨hxx, by omega⟩
      · rw [Nat.min_eq_right hxy] at h1; subst h1; exact ⟨hyy, by omega⟩
    · rintro ⟨h1, h2⟩; omega
  · rw [if_neg e]
    constructor
    · intro h1; exact ⟨h1, by omega⟩
    · exact fun h1 => h1.1

theorem StOk.merge {W : List Int} {N : List Tri} (hv : VG W N) {of : List Nat} (hgr : Gr W.length of) {lw : List (Int × Int)} {ll : LL} (h : StOk W N of lw ll) {x y : Nat} (hx : x < W.length) (hy : y < W.length) (hxx : nth 0 of x = x) (hyy : nth 0 of y = y) (hne : x ≠ y) {d : LL} (hp : d.Perm ll) :
    StOk W N (mrg of x y) (mergeW lw (min x y) (max x y)) (foldLen (mrg of x y) [] d) := by
  have hgr' := gr_mrg hgr hx hy hxx hyy
  have hdn : (d.map (·.1)).Nodup := (hp.map _).nodup_iff.2 h.nodup
  have hdl : ∀ p ∈ d, p.1.1 < p.1.2 ∧ p.1.2 < W.length ∧ nth 0 of p.1.1 = p.1.1 ∧ nth 0 of p.1.2 = p.1.2 ∧ p.2 = common N of p.1.1 p.1.2 ∧ 0 < p.2 := fun p hpd => h.l p (hp.mem_iff.1 hpd)
  have hda : ∀ u v, u < v → v < W.length → nth 0 of u = u → nth 0 of v = v → 0 < common N of u v → (u, v) ∈ d.map (·.1) := fun u v h1 h2 h3 h4 h5 => by
    obtain ⟨c, hc⟩ := h.all u v h1 h2 h3 h4 h5
    exact List.mem_map.2 ⟨_, hp.mem_iff.2 hc, rfl⟩
  have hsum : ∀ a b, a < b → (getL (foldLen (mrg of x y) [] d) (a, b)).getD 0 = common N (mrg of x y) a b := fun a b hab => by
    rw [foldLen_getD, S_eq_T N of (mrg of x y) (a, b) d (fun p hpd => (hdl p hpd).2.2.2.2.1), getL_nil]
    have := (T_common hv hgr x y hab d hdn (fun p hpd => (hdl p hpd).1) N.length (Nat.le_refl _)).2 hda
    rw [this]
    simp [common]
  have hnd := foldLen_nodup (mrg of x y) d [] (by simp)
  refine ⟨fun g hg hgg => ?_, hnd, ?_, fun p hpm => ?_, fun a b hab hb ha hbb hc => ?_⟩
  · obtain ⟨g1, g2⟩ := (head_mrg hgr hx hy hxx hyy hne hg).1 hgg
    unfold mergeW
    rw [wgt_delL _ _ _ (Ne.symm g2), wgt_putL]
    have hw := weightTo_mrg W of hne of.length (Nat.le_refl _)
    unfold weight
    rw [mrg_len]
    by_cases e : min x y = g
    · rw [if_pos e, ← e, hw.1]
      have w1 := h.w x hx hxx
      have w2 := h.w y hy hyy
      unfold weight at w1 w2
      rcases Nat.le_total x y with hxy | hxy
      · rw [Nat.min_eq_left hxy, Nat.max_eq_right hxy, w1, w2]
      · rw [Nat.min_eq_right hxy, Nat.max_eq_left hxy, w1, w2]; omega
    · rw [if_neg e, hw.2 g (by omega) (by omega)]
      exact h.w g hg g1
  · have h1 := foldLen_len (mrg of x y) d []
    have h2 := hp.length_eq
    have h3 := h.len
    simp only [List.length_nil] at h1
    omega
  · have hg := getL_of_mem hnd (show (p.1, p.2) ∈ foldLen (mrg of x y) [] d from hpm)
    have hs := (foldLen_some (mrg of x y) p.1 d []).1 (by rw [hg]; rfl)
    rw [getL_nil] at hs
    obtain ⟨r, hr, hm1, hm2⟩ := hs.resolve_left (by simp)
    obtain ⟨r1, r2, r3, r4, r5, r6⟩ := hdl r hr
    obtain ⟨⟨p1, p2⟩, pv⟩ := p
    unfold key at hm2
    rw [Prod.mk.injEq] at hm2
    obtain ⟨m1, m2⟩ := hm2
    have ha := hgr'.lt (show r.1.1 < W.length by omega)
    have hb := hgr'.lt r2
    have ia := hgr'.idem r.1.1 (by omega)
    have ib := hgr'.idem r.1.2 r2
    simp only at hg ⊢
    have hlt : p1 < p2 := by omega
    have h1 : nth 0 (mrg of x y) p1 = p1 := by rw [← m1]; rcases Nat.le_total (nth 0 (mrg of x y) r.1.1) (nth 0 (mrg of x y) r.1.2) with hh | hh <;> simp [hh, ia, ib]
    have h2 : nth 0 (mrg of x y) p2 = p2 := by rw [← m2]; rcases Nat.le_total (nth 0 (mrg of x y) r.1.1) (nth 0 (mrg of x y) r.1.2) with hh | hh <;> simp [hh, ia, ib]
    have hval := hsum p1 p2 hlt
    rw [hg] at hval
    simp only [Option.getD_some] at hval
    refine ⟨hlt, by omega, h1, h2, hval, ?_⟩
    have h5 := S_pos (mrg of x y) (p1, p2) d (fun q hq => (hdl q hq).2.2.2.2.2) ⟨r, hr, hm1, by unfold key; rw [m1, m2]⟩
    have h6 := foldLen_getD (mrg of x y) (p1, p2) d []
    rw [hg, getL_nil] at h6
    simp only [Option.getD_some, Option.getD_none] at h6
    omega
  · have hs := hsum a b hab
    cases hg : getL (foldLen (mrg of x y) [] d) (a, b) with
    | none => rw [hg] at hs; simp only [Option.getD_none] at hs; omega
    | some v => exact ⟨v, getL_mem hg⟩
end Go.Proofs.Ytdibpfbibgicaaa

/- V9: the contract of merge under the model's state. -/
namespace Go.Proofs.Ytdibpfbibgicaaa
open Go.RowKit Go.Hp

theorem S_zero (of : List Nat) (k : Nat × Nat) (hk : ¬ k.1 < k.2) : ∀ (d : LL), S of k d = 0
  | [] => rfl
  | p :: d => by
    simp only [S]
    rw [S_zero of k hk d, if_neg (fun h => hk (by
      obtain ⟨h1, h2⟩ := h
      rw [← h2]; show min _ _ < max _ _; omega))]; rfl

theorem merge_bd {W : List Int} {N : List Tri} (hv : VG W N) {of : List Nat} (hgr : Gr W.length of) {lw : List (Int × Int)} {ll : LL} (h : StOk W N of lw ll) (x y : Nat) :
    ∀ d : LL, (d.map (·.1)).Nodup → (∀ p ∈ d, p ∈ ll) → ∀ k, InI ((getL (foldLen (mrg of x y) [] d) k).getD 0) := by
  intro d hdn hsub k
  rw [foldLen_getD, getL_nil]
  have h0 := S_nonneg (mrg of x y) k d (fun p hp => (h.l p (hsub p hp)).2.2.2.2.2)
  have h1 : S (mrg of x y) k d ≤ 18014398509481984 := by
    by_cases hk : k.1 < k.2
    · rw [S_eq_T N of (mrg of x y) k d (fun p hp => (h.l p (hsub p hp)).2.2.2.2.1)]
      have hT := (T_common hv hgr x y (a := k.1) (b := k.2) hk d hdn (fun p hp => (h.l p (hsub p hp)).1) N.length (Nat.le_refl _)).1
      have hb := (common_bd hv (mrg of x y) k.1 k.2).2
      unfold common at hb
      have : T N of (mrg of x y) k N.length d = T N of (mrg of x y) (k.1, k.2) N.length d := rfl
      omega
    · rw [S_zero _ _ hk]; omega
  simp only [Option.getD_none]
  exact ⟨by omega, by omega⟩

theorem merge_ok (S : Nat → Prop) (a : Option Addr) (c bw bl bs : Nat) (W : List Int) (N : List Tri) (of : List Nat) (ow ol : Obj) (lw : List (Int × Int)) (ll : LL) (s : Str) (w : World) (hS : Heap w w (.frz S w :: stH a W.length c bw bl bs of ow ol))
    (hmw : MapIs ik ik ow lw) (hml : MapIs pk ik ol ll) (hv : VG W N) (hgr : Gr W.length of) (hst : StOk W N of lw ll) (hf : s.face < W.length) (hi : s.into < W.length) (hff : nth 0 of s.face = s.face) (hii : nth 0 of s.into = s.into) (hne : s.face ≠ s.into) :
    Calls Try.prog 39 #[.pointer (some ⟨bs, 0, none⟩), .agg (strA s)] w fun e w' => e = .returned (.tuple #[]) ∧ ∃ bl' ow' ol' lw' ll', MapIs ik ik ow' lw' ∧ MapIs pk ik ol' ll' ∧ StOk W N (mrg of s.face s.into) lw' ll' ∧ Gr W.length (mrg of s.face s.into) ∧
      Heap w w' (.frz S w :: stH a W.length c bw bl' bs (mrg of s.face s.into) ow' ol') := by
  have hw : ∀ g, g < W.length → nth 0 of g = g → 0 ≤ wgtL lw g ∧ wgtL lw g ≤ 4503599627370496 := fun g hg hgg => by
    rw [hst.w g hg hgg]; exact weight_bd hv hgr.len g
  have hmin : min s.face s.into < W.length := by omega
  have hmax : max s.face s.into < W.length := by omega
  have h1 : nth 0 of (min s.face s.into) = min s.face s.into := by rcases Nat.le_total s.face s.into with h | h <;> simp [h, hff, hii]
  have h2 : nth 0 of (max s.face s.into) = max s.face s.into := by rcases Nat.le_total s.face s.into with h | h <;> simp [h, hff, hii]
  have b1 := hw _ hmin h1
  have b2 := hw _ hmax h2
  refine (merge_any S a W.length c bw bl bs of ow ol lw ll s w hS hmw hml hgr.len hv.wlen (fun i hi => hgr.lt hi) hf hi (fun p hp => by have := hst.l p hp; omega) ⟨by omega, by omega⟩ (merge_bd hv hgr hst s.face s.into)).mono ?_
  rintro e w' ⟨rfl, bl', ow', ol', d, hd, hmw', hml', hS'⟩
  exact ⟨rfl, bl', ow', ol', _, _, hmw', hml', StOk.merge hv hgr hst hf hi hff hii hne hd, gr_mrg hgr hf hi hff hii, hS'⟩
end Go.Proofs.Ytdibpfbibgicaaa
