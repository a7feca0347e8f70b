/- P5: plain facts for the law StripPartition: the quotient of a graph is a valid graph; face 0 stays alone; groups are connected. -/
import Derived.Test.YtdibpfbibgicaaaP40
set_option linter.unusedVariables false
set_option linter.unusedSimpArgs false
namespace Go.Proofs.Ytdibpfbibgicaaa
open Go.RowKit Go.Hp

theorem mrg_at {of : List Nat} {n : Nat} (h : Gr n of) (x y : Nat) {i : Nat} (hi : i < n) : nth 0 (mrg of x y) i = mrg1 x y (nth 0 of i) := by
  have hl := h.len
  unfold mrg
  rw [nth_eq 0 _ _ (by rw [List.length_map]; omega), List.getElem_map, nth_eq 0 _ _ (by omega)]

/-- The quotient is a graph that rank.Valid lets by. -/
theorem SomeG.qvg {W : List Int} {N : List Tri} {most : Nat} (h : SomeG W N most) (hm : most ≤ 64) {of : List Nat} (hg : Gr W.length of) : VG (qW W of) (qN N of) := by
  have hv := h.vg hm
  have ho := h.over hm hg
  unfold qOver at ho
  rw [Bool.or_eq_false_iff, List.any_eq_false, List.any_eq_false] at ho
  have hk := hds_len_le of
  have hl := hg.len
  have h1 := h.wlen
  have hql : (qW W of).length = (hds of).length := by simp [qW]
  refine ⟨by omega, ?_, ?_, ?_, ?_⟩
  · have h2 := qN_len N of
    have h3 : (hds of).length * (hds of).length ≤ 64 * 64 := Nat.mul_le_mul (by omega) (by omega)
    omega
  · intro x hx
    have h2 := ho.2 x hx
    simp only [decide_eq_true_eq] at h2
    refine ⟨?_, by omega⟩
    obtain ⟨g, _, rfl⟩ := List.mem_map.1 hx
    exact (weight_bd hv hg.len g).1
  · intro e he
    have h2 := ho.1 e he
    simp only [decide_eq_true_eq] at h2
    obtain ⟨i, k, h3, h4, h5, rfl⟩ := mem_qN.1 he
    simp only at h2 ⊢
    rw [hql]
    omega
  · intro i hi
    have hs := qN_sorted N of
    have h2 := List.pairwise_iff_getElem.1 hs i (i + 1) (by omega) hi (by omega)
    rw [nth_eq tz _ _ (by omega), nth_eq tz _ _ hi]
    obtain ⟨i1, k1, _, _, _, e1⟩ := mem_qN.1 (List.getElem_mem (l := qN N of) (n := i) (by omega))
    obtain ⟨i2, k2, _, _, _, e2⟩ := mem_qN.1 (List.getElem_mem (l := qN N of) (n := i + 1) hi)
    rw [e1, e2] at h2 ⊢
    unfold lt3 at h2
    simp only at h2 ⊢
    rcases h2 with h2 | ⟨h2, h3⟩ 
    · exact .inl h2
    · rcases h3 with h3 | ⟨h3, h4⟩
      · exact .inr ⟨h2, h3⟩
      · have a1 : i1 = i2 := by omega
        have a2 : k1 = k2 := by omega
        subst a1 a2
        omega

/-- Face 0 is alone. -/
def Zero (n : Nat) (of : List Nat) : Prop := ∀ i, i < n → (nth 0 of i = nth 0 of 0 ↔ i = 0)
theorem zero_range (n : Nat) (hn : 0 < n) : Zero n (List.range n) := by
  intro i hi
  rw [nth_range n i hi, nth_range n 0 hn]
theorem NextIs.zero {W : List Int} {N : List Tri} {of : List Nat} {most : Int} {s : Str} (hgr : Gr W.length of) (h : NextIs W N of most s) (hz : Zero W.length of) : Zero W.length (mrg of s.face s.into) := by
  intro i hi
  have h0 : nth 0 of 0 = 0 := by have := hgr.le 0 (by omega); omega
  have f0 := h.face0
  have i0 : s.into ≠ 0 := by rcases h.io with e | e <;> rw [e]; exact h.a0; exact h.b0
  have hzi := hz i hi
  rw [mrg_at hgr _ _ hi, mrg_at hgr _ _ (by omega : 0 < W.length), h0]
  rw [h0] at hzi
  rw [← hzi]
  unfold mrg1
  rw [if_neg (by omega : ¬ (0 = s.face ∨ 0 = s.into))]
  split <;> omega
theorem Steps.zero {W : List Int} {N : List Tri} {most : Int} : ∀ {l : List Str} {of : List Nat}, Steps W N most of l → Gr W.length of → Zero W.length of → Zero W.length (runOf of l)
  | [], of, h, hg, hz => hz
  | s :: l, of, h, hg, hz => by
    have hn := next_is hg h.1
    have := Steps.zero h.2 (gr_mrg hg hn.face hn.into hn.hface hn.hinto) (hn.zero hg hz)
    exact this

/-- A border of two groups. -/
theorem common_edge {N : List Tri} {of : List Nat} {a b : Nat} (h : 0 < common N of a b) : ∃ j, j < N.length ∧ touch of a b (nth tz N j) := by
  unfold common at h
  have key : ∀ m, 0 < commonTo N of a b m → ∃ j, j < m ∧ touch of a b (nth tz N j) := by
    intro m
    induction m with
    | zero => intro h; simp [commonTo] at h
    | succ m ih =>
      intro h
      by_cases ht : touch of a b (nth tz N m)
      · exact ⟨m, by omega, ht⟩
      · simp only [commonTo, if_neg ht, Int.add_zero] at h
        obtain ⟨j, h1, h2⟩ := ih h
        exact ⟨j, by omega, h2⟩
  exact key _ h

/-- All borders inside of a group of G are joined in F. -/
def Joined (N : List Tri) (G F : List Nat) (m : Nat) : Prop := ∀ j, j < m → nth 0 G (nth tz N j).1.toNat = nth 0 G (nth tz N j).2.1.toNat → nth 0 F (nth tz N j).1.toNat = nth 0 F (nth tz N j).2.1.toNat
def Finer (n : Nat) (F G : List Nat) : Prop := ∀ i j, i < n → j < n → nth 0 F i = nth 0 F j → nth 0 G i = nth 0 G j

/-- Merges only make groups greater. -/
theorem finer_mrg {n : Nat} {of : List Nat} (h : Gr n of) (x y : Nat) : Finer n of (mrg of x y) := by
  intro i j hi hj e
  rw [mrg_at h _ _ hi, mrg_at h _ _ hj, e]
theorem Steps.finer {W : List Int} {N : List Tri} {most : Int} : ∀ {l : List Str} {of : List Nat}, Steps W N most of l → Gr W.length of → Finer W.length of (runOf of l)
  | [], of, h, hg => fun i j _ _ e => e
  | s :: l, of, h, hg => fun i j hi hj e => by
    have hn := next_is hg h.1
    exact Steps.finer h.2 (gr_mrg hg hn.face hn.into hn.hface hn.hinto) i j hi hj (finer_mrg hg _ _ i j hi hj e)

/-- Groups of merges are connected. -/
theorem Steps.connected {W : List Int} {N : List Tri} {most : Int} (hv : VG W N) {F : List Nat} : ∀ {l : List Str} {of : List Nat}, Steps W N most of l → Gr W.length of →
    Joined N (runOf of l) F N.length → Finer W.length of F → Finer W.length (runOf of l) F
  | [], of, h, hg, hj, hf => hf
  | s :: l, of, h, hg, hjn, hf => by
    have hn := next_is hg h.1
    have hg' := gr_mrg hg hn.face hn.into hn.hface hn.hinto
    have hst : Finer W.length (mrg of s.face s.into) F → Finer W.length (runOf (mrg of s.face s.into) l) F := fun hq => by have := Steps.connected hv h.2 hg' hjn hq; exact this
    refine hst ?_
    have hc : 0 < common N of s.face s.into := by rcases hn.io with e | e <;> rw [e]; exact hn.ca; exact hn.cb
    obtain ⟨j, hj, ht⟩ := common_edge hc
    have hb := hv.n0 _ (nth_mem tz N j hj)
    have hx : (nth tz N j).1.toNat < W.length := by omega
    have hy : (nth tz N j).2.1.toNat < W.length := by omega
    have hm : nth 0 (mrg of s.face s.into) (nth tz N j).1.toNat = nth 0 (mrg of s.face s.into) (nth tz N j).2.1.toNat := by
      rw [mrg_at hg _ _ hx, mrg_at hg _ _ hy]
      unfold touch at ht
      unfold mrg1
      rw [if_pos (by omega), if_pos (by omega)]
    have hF := hjn j hj (Steps.finer h.2 hg' _ _ hx hy hm)
    intro a b ha hb' e
    rw [mrg_at hg _ _ ha, mrg_at hg _ _ hb'] at e
    by_cases he : nth 0 of a = nth 0 of b
    · exact hf a b ha hb' he
    · have hab : (nth 0 of a = s.face ∧ nth 0 of b = s.into) ∨ (nth 0 of a = s.into ∧ nth 0 of b = s.face) := by
        unfold mrg1 at e
        split at e <;> split at e <;> omega
      unfold touch at ht
      rcases hab with ⟨h1, h2⟩ | ⟨h1, h2⟩ <;> rcases ht with ⟨h3, h4⟩ | ⟨h3, h4⟩
      · exact (hf a _ ha hx (by omega)).trans (hF.trans (hf _ b hy hb' (by omega)))
      · exact (hf a _ ha hy (by omega)).trans (hF.symm.trans (hf _ b hx hb' (by omega)))
      · exact (hf a _ ha hy (by omega)).trans (hF.symm.trans (hf _ b hx hb' (by omega)))
      · exact (hf a _ ha hx (by omega)).trans (hF.trans (hf _ b hy hb' (by omega)))

/-- The groups that the law grows are those of the merges. -/
theorem Steps.same {W : List Int} {N : List Tri} {most : Int} (hv : VG W N) {l : List Str} (h : Steps W N most (List.range W.length) l) {F : List Nat} (hF : Finer W.length F (runOf (List.range W.length) l))
    (hj : Joined N (runOf (List.range W.length) l) F N.length) {i k : Nat} (hi : i < W.length) (hk : k < W.length) :
    nth 0 (runOf (List.range W.length) l) i = nth 0 (runOf (List.range W.length) l) k ↔ nth 0 F i = nth 0 F k :=
  ⟨fun e => h.connected hv (gr_range _) hj (fun a b ha hb e => by rw [nth_range _ a ha, nth_range _ b hb] at e; rw [e]) i k hi hk e, fun e => hF i k hi hk e⟩

/-- The sums of the weights of the first k faces. -/
def sumsTo (W : List Int) (ix : List Nat) (K k : Nat) : List Int := (List.range K).map fun g => weightTo W ix g k
theorem sumsTo_len (W : List Int) (ix : List Nat) (K k : Nat) : (sumsTo W ix K k).length = K := by simp [sumsTo]
theorem sumsTo_at (W : List Int) (ix : List Nat) {K k g : Nat} (h : g < K) : nth 0 (sumsTo W ix K k) g = weightTo W ix g k := by
  rw [nth_eq 0 _ _ (by rw [sumsTo_len]; exact h)]
  simp [sumsTo]
theorem sumsTo_zero (W : List Int) (ix : List Nat) (K : Nat) : sumsTo W ix K 0 = List.replicate K 0 := by
  refine nth_ext 0 (by rw [sumsTo_len, List.length_replicate]) fun i hi => ?_
  rw [sumsTo_len] at hi
  rw [sumsTo_at W ix hi, nth_eq 0 _ _ (by simpa using hi)]
  simp [weightTo]
theorem sumsTo_step (W : List Int) (ix : List Nat) {K k : Nat} (h : nth 0 ix k < K) : (sumsTo W ix K k).set (nth 0 ix k) (nth 0 (sumsTo W ix K k) (nth 0 ix k) + nth 0 W k) = sumsTo W ix K (k + 1) := by
  refine nth_ext 0 (by rw [List.length_set, sumsTo_len, sumsTo_len]) fun i hi => ?_
  rw [List.length_set, sumsTo_len] at hi
  rw [nth_set, sumsTo_at W ix hi, sumsTo_at W ix hi, sumsTo_at W ix h, sumsTo_len]
  simp only [weightTo]
  by_cases e : nth 0 ix k = i
  · subst e; rw [if_pos ⟨rfl, h⟩, if_pos rfl]
  · rw [if_neg (fun q => e q.1), if_neg e, Int.add_zero]
theorem weightTo_idx {W : List Int} {of : List Nat} (h : Gr W.length of) {g : Nat} (hg : g < (hds of).length) : ∀ k, k ≤ W.length → weightTo W (idx of) g k = weightTo W of (nth 0 (hds of) g) k
  | 0, _ => rfl
  | k + 1, hk => by
    simp only [weightTo]
    rw [weightTo_idx h hg k (by omega), idx_at h (by omega : k < W.length)]
    obtain ⟨h1, h2⟩ := hb_hds hg
    have h3 := (mem_hds.1 h1).2
    have h4 := h.idem k (by omega)
    by_cases e : nth 0 of k = nth 0 (hds of) g
    · rw [if_pos e, if_pos (by rw [e]; exact h2)]
    · rw [if_neg e, if_neg (fun q => e (hb_inj of h4 h3 (by omega)))]
theorem sumsTo_end {W : List Int} {of : List Nat} (h : Gr W.length of) : sumsTo W (idx of) (hds of).length W.length = qW W of := by
  refine nth_ext 0 (by rw [sumsTo_len]; simp [qW]) fun i hi => ?_
  rw [sumsTo_len] at hi
  have hq : nth 0 (qW W of) i = weight W of (nth 0 (hds of) i) := by
    unfold qW
    rw [nth_eq 0 (List.map _ _) _ (by simpa using hi), List.getElem_map, nth_eq 0 _ _ hi]
  rw [sumsTo_at W _ hi, weightTo_idx h hi _ (Nat.le_refl _), hq]
  unfold weight
  rw [h.len]
theorem sumsTo_bd {W : List Int} {N : List Tri} (hv : VG W N) (ix : List Nat) {K k g : Nat} (hk : k ≤ W.length) (hg : g < K) : 0 ≤ nth 0 (sumsTo W ix K k) g ∧ nth 0 (sumsTo W ix K k) g ≤ 4503599627370496 := by
  rw [sumsTo_at W ix hg]
  have h := weightTo_bd hv ix g k hk
  have := hv.wlen
  constructor <;> omega

/-- The same of the groups' indices. -/
theorem Steps.same_idx {W : List Int} {N : List Tri} {most : Int} (hv : VG W N) {l : List Str} (h : Steps W N most (List.range W.length) l) {F : List Nat} (hF : Finer W.length F (idx (runOf (List.range W.length) l)))
    (hj : Joined N (idx (runOf (List.range W.length) l)) F N.length) {i k : Nat} (hi : i < W.length) (hk : k < W.length) :
    nth 0 (idx (runOf (List.range W.length) l)) i = nth 0 (idx (runOf (List.range W.length) l)) k ↔ nth 0 F i = nth 0 F k := by
  have hg := h.gr0.1
  rw [idx_eq hg hi hk]
  refine h.same hv (fun a b ha hb e => (idx_eq hg ha hb).1 (hF a b ha hb e)) (fun j hj' e => ?_) hi hk
  have hb := hv.n0 _ (nth_mem tz N j hj')
  exact hj j hj' ((idx_eq hg (by omega) (by omega)).2 e)
theorem Steps.zero_idx {W : List Int} {N : List Tri} {most : Int} {l : List Str} (h : Steps W N most (List.range W.length) l) {i : Nat} (hi : i < W.length) :
    nth 0 (idx (runOf (List.range W.length) l)) i = nth 0 (idx (runOf (List.range W.length) l)) 0 ↔ i = 0 := by
  have hg := h.gr0.1
  rw [idx_eq hg hi (by omega)]
  exact h.zero (gr_range _) (zero_range _ (by omega)) i hi
theorem finer_range {n : Nat} (G : List Nat) : Finer n (List.range n) G := by
  intro i j hi hj e
  rw [nth_range n i hi, nth_range n j hj] at e
  rw [e]
theorem Finer.mrg {n : Nat} {F G : List Nat} (hg : Gr n F) (h : Finer n F G) {x y : Nat} (hx : x < n) (hy : y < n) (hG : nth 0 G x = nth 0 G y) : Finer n (mrg F (nth 0 F x) (nth 0 F y)) G := by
  intro i j hi hj e
  rw [mrg_at hg _ _ hi, mrg_at hg _ _ hj] at e
  have hix := h i x hi hx
  have hiy := h i y hi hy
  have hjx := h j x hj hx
  have hjy := h j y hj hy
  have hij := h i j hi hj
  unfold mrg1 at e
  by_cases h1 : nth 0 F i = nth 0 F x <;> by_cases h2 : nth 0 F i = nth 0 F y <;> by_cases h3 : nth 0 F j = nth 0 F x <;> by_cases h4 : nth 0 F j = nth 0 F y <;>
    simp only [h1, h2, h3, h4, true_or, or_true, or_self, if_true, if_false] at e <;> first | (have := hix h1; have := hjx h3; omega) | (have := hix h1; have := hjy h4; omega) | (have := hiy h2; have := hjx h3; omega) | (have := hiy h2; have := hjy h4; omega) | exact hij (by omega) | omega
theorem Joined.step {N : List Tri} {G F : List Nat} {i : Nat} (h : Joined N G F i) (hs : nth 0 G (nth tz N i).1.toNat = nth 0 G (nth tz N i).2.1.toNat → nth 0 F (nth tz N i).1.toNat = nth 0 F (nth tz N i).2.1.toNat) : Joined N G F (i + 1) := by
  intro j hj e
  rcases Nat.lt_or_ge j i with h1 | h1
  · exact h j h1 e
  · obtain rfl : j = i := by omega
    exact hs e

/-- The list that a slice of a world holds. -/
theorem nats_unique {w : World} {S T : Nat → Prop} {a : Option Addr} {n c : Nat} {xs ys : List Nat} (h1 : Nats w S (.slice a n c) xs) (h2 : Nats w T (.slice a n c) ys) : xs = ys := by
  have l1 := h1.len
  have l2 := h2.len
  obtain ⟨⟨_, a1, c1, e1, _, _, n1, p1⟩, _⟩ := h1
  obtain ⟨⟨_, a2, c2, e2, _, _, n2, p2⟩, _⟩ := h2
  cases e1
  simp only [Value.slice.injEq] at e2
  obtain ⟨rfl, -, rfl⟩ := e2
  refine nth_ext 0 (by omega) fun i hi => ?_
  cases a with
  | none => have := (n1 rfl).1; rw [zs_length] at this; omega
  | some ad =>
    have q1 := (p1 ad rfl).cell i (.int .i64 ((nth 0 xs i : Nat) : Int)) (by simp [zs, nth_eq 0 xs i hi, hi])
    have q2 := (p2 ad rfl).cell i (.int .i64 ((nth 0 ys i : Nat) : Int)) (by simp [zs, nth_eq 0 ys i (by omega), show i < ys.length by omega])
    rw [q1] at q2
    simp only [Option.some.injEq, Value.int.injEq, true_and] at q2
    omega
open Classical in
noncomputable def natsAt (w : World) (v : Value) : List Nat := if h : ∃ xs, Nats w (Old w) v xs then Classical.choose h else []
theorem natsAt_eq {w0 w wr : World} {H : List Chunk} {S : Nat → Prop} {a : Option Addr} {n c : Nat} {xs : List Nat} (h : Nats wr S (.slice a n c) xs) (hS : Heap w0 w H) (hm : Chunk.frz S wr ∈ H) : natsAt w (.slice a n c) = xs := by
  have h2 := h.arg hS hm
  have hex : ∃ ys, Nats w (Old w) (.slice a n c) ys := ⟨xs, h2⟩
  unfold natsAt
  rw [dif_pos hex]
  exact nats_unique (Classical.choose_spec hex) h2
def flag : Value → Nat
  | .bool true => 1
  | _ => 0

/-- A row of n zeros that 'make' lays. -/
theorem _root_.Go.Hp.Heap.allocRow {w0 w : World} {H : List Chunk} {T : TypeId} {n : Nat} (hS : Heap w0 w H) (xs : List Int) (hl : xs.length = n) (hn : n ≤ maxLen) : Heap w0 (w.alloc (.cells (iv xs).toArray T (0, 0))) (H ++ [.row (.slice (some ⟨w.heap.size, 0, none⟩) n n) T 1 n (iv xs)]) := by
  have h' := hS.below ((Below.refl w.heap.size w).alloc (Nat.le_refl _) (.cells (iv xs).toArray T (0, 0)))
  refine ⟨h'.os, h'.tape, h'.output, h'.size, ?_, ?_⟩
  · intro c hc
    rcases List.mem_append.1 hc with hc | hc
    · exact h'.ok c hc
    · simp at hc; subst hc
      exact ⟨by rw [iv_length]; omega, .inr ⟨w.heap.size, n, (iv xs).toArray, rfl, Nat.zero_le _, heap_alloc_new w _, Nat.le_refl _, hn, by simp [iv_length, hl], by simp [iv_length, hl, List.take_of_length_le]⟩⟩
  · exact pairwise_snoc h'.apart fun c hc k hk hq => by
      have := Chunk.lt (hS.ok c hc) hk
      simp only [Chunk.has, Value.ownBlock, Option.some.injEq] at hq
      omega
section
variable {P : Program} {ops : Array Oper} {Q : Exit → Act → World → Prop} {rest : List Oper} {a : Act} {w w0 : World} {H : List Chunk} {dst : Option Tmp} {ty T E : TypeId} {pos : String} {aft : Array Edge} {g : Option (Nat × Bool)} {x y : Operand}
theorem g_mks (h : wpList P ops Q (⟨dst, .makeSlice T x y, ty, pos, aft, g⟩ :: rest) a w) : wpList P ops Q (⟨dst, .makeSlice T x y, ty, pos, aft, g⟩ :: rest) a w := h
theorem seq_make {n : Nat} (hS : Heap w0 w H) (hu : P.underlying T = some (.slice E)) (hinfo : (P.info? E).map (fun i => (i.zero, i.size, i.bytes)) = some (some (.int .i64 0), 1, 8))
    (hx : a.eval x = .int .i64 n) (hy : a.eval y = .int .i64 n) (hn : n ≤ 65536)
    (hk : ∀ b w', Heap w0 w' (H ++ [.row (.slice (some ⟨b, 0, none⟩) n n) E 1 n (iv (List.replicate n 0))]) → wpList P ops Q rest (a.put dst (.slice (some ⟨b, 0, none⟩) n n)) w') :
    wpList P ops Q (⟨dst, .makeSlice T x y, ty, pos, aft, none⟩ :: rest) a w := by
  obtain ⟨i, hi, hz, hsz, hby⟩ := info_parts hinfo
  have hr := run_make (P := P) w T E i _ hu hi hz .i64 .i64 n n (by omega) (by omega) (by rw [hby]; omega) (by omega)
  have hc : madeCells (Value.int .i64 0).cells ((n : Int).toNat * i.size) = (iv (List.replicate n 0)).toArray := by
    rw [hsz, Int.toNat_natCast, Nat.mul_one]
    apply Array.ext
    · simp [madeCells, iv]
    · intro j h1 h2
      simp [madeCells, iv, Value.cells, Nat.mod_one]
  rw [hc, Int.toNat_natCast] at hr
  refine seq_heap (w' := w.alloc (.cells (iv (List.replicate n 0)).toArray E (0, 0))) (v := .slice (some ⟨w.heap.size, 0, none⟩) n n) rfl ?_ (hk _ _ (hS.allocRow _ (by simp) (by simp [maxLen]; omega)))
  simp only [execOp, hx, hy]
  simp [hr, go_sem]
end
end Go.Proofs.Ytdibpfbibgicaaa
