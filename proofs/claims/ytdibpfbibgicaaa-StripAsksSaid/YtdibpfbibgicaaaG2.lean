import Derived.Test.YtdibpfbibgicaaaG1
namespace Go.Proofs.Ytdibpfbibgicaaa
open Go.RowKit Go.Hp
set_option linter.unusedVariables false
set_option linter.unusedSimpArgs false

def itSize (w : World) (b : Nat) : Nat := match w.heap[b]? with | some (.mapIter _ _ seen _) => seen.size | _ => 0
theorem itSize_eq {κ ν : Type} {ek : κ → Value} {ev : ν → Value} {b bi : Nat} {o oi : Obj} {l d : List (κ × ν)} (h : ItIs ek ev b o oi l d) {w : World} (hb : w.heap[bi]? = some oi) : itSize w bi = d.length := by
  obtain ⟨es, clock, f, rfl, rfl, _⟩ := h
  simp [itSize, hb]
theorem itLen {κ ν : Type} [DecidableEq κ] {ek : κ → Value} {ev : ν → Value} {b : Nat} {o oi : Obj} {l d : List (κ × ν)} (h : ItIs ek ev b o oi l d) : d.length ≤ l.length := by
  obtain ⟨es, clock, f, rfl, rfl, _, _, _, h1, h2, h3, _⟩ := h
  have n2 : (d.map (·.1)).Nodup := h2
  have hsub : d.map (·.1) ⊆ l.map (·.1) := by
    intro x hx
    obtain ⟨p, hp, rfl⟩ := List.mem_map.1 hx
    exact List.mem_map.2 ⟨p, h1 p hp, rfl⟩
  have := n2.length_le_of_subset hsub
  simpa using this

/-- The other end. -/
def oth (g : Nat) (p : Nat × Nat) : Option Nat := if (p.1 = g ∨ p.2 = g) ∧ p.1 + p.2 ≠ g then some (p.1 + p.2 - g) else none
def others (ll : List ((Nat × Nat) × Int)) (g : Nat) : List Nat := ll.filterMap fun p => oth g p.1

theorem others_snoc (d : List ((Nat × Nat) × Int)) (k : Nat × Nat) (v : Int) (g : Nat) : others (d ++ [(k, v)]) g = others d g ++ (oth g k).toList := by
  simp only [others, List.filterMap_append, List.filterMap_cons, List.filterMap_nil]
  cases oth g k <;> rfl
theorem others_len (d : List ((Nat × Nat) × Int)) (g : Nat) : (others d g).length ≤ d.length := List.length_filterMap_le _ _

theorem oth_cases (g : Nat) (k : Nat × Nat) :
    (((((k.1 : Nat) : Int) == (g : Int)) = false) ∧ ((((k.2 : Nat) : Int) == (g : Int)) = false) ∧ Hid (oth g k = none)) ∨
    (((((k.1 : Nat) : Int) == (g : Int)) = true) ∧ ((((k.1 : Int) + (k.2 : Int) - (g : Int)) != 0) = false) ∧ Hid (oth g k = none)) ∨
    (((((k.1 : Nat) : Int) == (g : Int)) = true) ∧ ((((k.1 : Int) + (k.2 : Int) - (g : Int)) != 0) = true) ∧ g ≤ k.1 ∧ Hid (oth g k = some (k.1 + k.2 - g))) ∨
    (((((k.1 : Nat) : Int) == (g : Int)) = false) ∧ ((((k.2 : Nat) : Int) == (g : Int)) = true) ∧ ((((k.1 : Int) + (k.2 : Int) - (g : Int)) != 0) = false) ∧ Hid (oth g k = none)) ∨
    (((((k.1 : Nat) : Int) == (g : Int)) = false) ∧ ((((k.2 : Nat) : Int) == (g : Int)) = true) ∧ ((((k.1 : Int) + (k.2 : Int) - (g : Int)) != 0) = true) ∧ g ≤ k.2 ∧ Hid (oth g k = some (k.1 + k.2 - g))) := by
  by_cases h1 : k.1 = g
  · by_cases h2 : k.1 + k.2 = g
    · right; left; exact ⟨by simp [h1], by simp; omega, by unfold Hid; simp [oth, h2]⟩
    · right; right; left; exact ⟨by simp [h1], by simp; omega, by omega, by unfold Hid; simp [oth, h1]; omega⟩
  · by_cases h3 : k.2 = g
    · by_cases h2 : k.1 + k.2 = g
      · right; right; right; left; exact ⟨by simp; omega, by simp [h3], by simp; omega, by unfold Hid; simp [oth, h2]⟩
      · right; right; right; right; exact ⟨by simp; omega, by simp [h3], by simp; omega, by omega, by unfold Hid; simp [oth, h3]; omega⟩
    · left; exact ⟨by simp; omega, by simp; omega, by simp [oth, h1, h3, Hid]⟩

theorem srt_perm {xs ys : List Int} (h : xs.Perm ys) : srt xs = srt ys := by
  have ht : ∀ (a b c : Int), decide (a ≤ b) = true → decide (b ≤ c) = true → decide (a ≤ c) = true := by intro a b c; simp; omega
  have hT : ∀ (a b : Int), (decide (a ≤ b) || decide (b ≤ a)) = true := by intro a b; simp; omega
  refine List.Perm.eq_of_pairwise (le := fun a b => a ≤ b) (fun a b _ _ h1 h2 => by omega) ?_ ?_ ?_
  · exact (List.pairwise_mergeSort ht hT xs).imp (fun h => by simpa using h)
  · exact (List.pairwise_mergeSort ht hT ys).imp (fun h => by simpa using h)
  · exact ((List.mergeSort_perm xs _).trans h).trans (List.mergeSort_perm ys _).symm

/-- What the groups' object holds. -/
def sgCells (a : Option Addr) (n c bw bl : Nat) : Array Value := #[.slice a n c, .map (some bw), .map (some bl)]

set_option maxHeartbeats 2000000 in
set_option maxRecDepth 100000 in
theorem neighbours_any (a : Option Addr) (n c bs bw bl g : Nat) (ol : Obj) (ll : List ((Nat × Nat) × Int)) (w : World) (hbs : Fz w (Old w) bs (.cells #[.slice a n c, .map (some bw), .map (some bl)] 84 (0, 0)))
    (hbl : Fz w (Old w) bl ol) (hml : MapIs pk ik ol ll) (hk : ∀ p ∈ ll, p.1.1 ≤ 4096 ∧ p.1.2 ≤ 4096) (hll : ll.length ≤ 16384) (hg : g ≤ 4096) :
    Calls Try.prog 61 #[.pointer (some ⟨bs, 0, none⟩), .int .i64 g] w fun e w' => ∃ a' c', e = .returned (.slice a' (others ll g).length c') ∧ Below w.heap.size w w' ∧ Ints w' (New w w') (.slice a' (others ll g).length c') (srt (zs (others ll g))) := by
  have hS := (Heap.start w).addNil 3 1
  go_enter Try.func61, Try.ntmps61
  go_wp2_with (first | ((with_reducible refine g_load (T := 82) ?_); refine seq_of hS rfl (stp_load_kn (T := 82) Try.isAgg82 rfl (Fz.known (by with_reducible assumption) (by simp)) rfl ?_); simp only [Act.put, List.setIfInBounds_toArray, List.set_cons_succ, List.set_cons_zero, Int.toNat_natCast, Int.toNat_zero, Int.toNat_one, nth_zero, nth_one]) | ((with_reducible refine g_rng (T := 82) ?_); refine seq_range_kn hS Try.underlying82 rfl (Fz.known (by with_reducible assumption) (by simp)) (by with_reducible assumption) rfl (fun bi obi wbi hit hS => ?_); simp only [Act.put, List.setIfInBounds_toArray, List.set_cons_succ, List.set_cons_zero, Int.toNat_natCast, Int.toNat_zero, Int.toNat_one, nth_zero, nth_one]; simp only [List.cons_append, List.nil_append, List.set_cons_succ, List.set_cons_zero, Value.cells, iv_snoc, tv_snoc] at hS))
  go_loopw [5] (fun out wr => ∃ (d : List ((Nat × Nat) × Int)) (oi : Obj) (a : Option Addr) (c : Nat), out = .slice a (others d g).length c ∧ ItIs pk ik bl ol oi ll d ∧ Heap w wr [.frz (Old w) w, .row (.slice a (others d g).length c) 3 1 (others d g).length (iv (zs (others d g))), .blk bi oi]) (fun _ wr => ll.length - itSize wr bi)
  case atStart => exact ⟨[], _, none, 0, rfl, hit, hS⟩
  case round =>
    clear hS hit
    obtain ⟨d, oi, a', c', rfl, hit, hS⟩ := hrel
    have hsz := itSize_eq hit (hS.blk (b := bi) (o := oi) (by simp))
    have hol := others_len d g
    have hdl := itLen hit
    repeat ((fail_if_success ((with_reducible refine g_nxt ?_))); go_step)
    ((with_reducible refine g_nxt ?_); refine seq_next_kn 2 hS rfl (Fz.known (by with_reducible assumption) (by simp)) rfl (by with_reducible assumption) rfl (fun hover => ?_) (fun kk vv oi' w' hkl hkd hit' hS => ?_) <;> (simp only [Act.put, List.setIfInBounds_toArray, List.set_cons_succ, List.set_cons_zero, Int.toNat_natCast, Int.toNat_zero, Int.toNat_one, nth_zero, nth_one]; try simp only [List.cons_append, List.nil_append, List.set_cons_succ, List.set_cons_zero, Value.cells, iv_snoc, tv_snoc] at hS))
    · go_wp2_with (first | (go_at_call 74; refine (sort_row 1 hS rfl (by omega)).mono ?_; rintro e w' ⟨rfl, hS⟩; simp only [List.cons_append, List.nil_append, List.set_cons_succ, List.set_cons_zero, Value.cells, iv_snoc, tv_snoc] at hS))
      go_ret
      have hp : (others d g).Perm (others ll g) := List.Perm.filterMap _ hover
      have hl := hp.length_eq
      rw [← hl]
      have hs : srt (zs (others ll g)) = srt (zs (others d g)) := srt_perm (List.Perm.map _ hp.symm)
      rw [hs]
      refine ⟨a', c', rfl, hS.toBelow (by simp), hS.resultInts 0 rfl (fun x hx => ?_)⟩
      have hx2 : x ∈ zs (others d g) := (List.mergeSort_perm _ _).mem_iff.1 hx
      refine inI_zs (xs := others d g) (fun y hy => ?_) x hx2
      simp only [others, List.mem_filterMap, oth] at hy
      obtain ⟨p, hp1, hp2⟩ := hy
      have := hk p (hover.mem_iff.1 hp1)
      split at hp2
      · simp only [Option.some.injEq] at hp2; omega
      · cases hp2
    · obtain ⟨hk1, hk2⟩ := hk _ hkl
      have hdl' := itLen hit'
      simp only [List.length_append, List.length_cons, List.length_nil] at hdl'
      have hsn := others_snoc d kk vv g
      simp only at hk1 hk2
      rcases oth_cases g kk with ⟨f1, f2, hr⟩ | ⟨f1, f2, hr⟩ | ⟨f1, f2, f3, hr⟩ | ⟨f1, f2, f3, hr⟩ | ⟨f1, f2, f3, f4, hr⟩
      all_goals
        rw [hr.out] at hsn
        simp only [Option.toList_none, Option.toList_some, List.append_nil] at hsn
        have HSN := Lib.hid hsn
        clear hsn
        go_wp2_with (first | ((with_reducible refine g_ent ?_); refine seq_of hS rfl (stp_entry_kn 2 rfl rfl (Fz.known (by with_reducible assumption) (by simp)) (by with_reducible assumption) ?_); simp only [Act.put, List.setIfInBounds_toArray, List.set_cons_succ, List.set_cons_zero, Int.toNat_natCast, Int.toNat_zero, Int.toNat_one, nth_zero, nth_one]; simp only [pk, ik]) | ((with_reducible refine g_alloc (T := 107) ?_); refine seq_alloc (T := 107) hS Try.zeroValue107 (fun bp wbp hS => ?_); simp only [Act.put, List.setIfInBounds_toArray, List.set_cons_succ, List.set_cons_zero, Int.toNat_natCast, Int.toNat_zero, Int.toNat_one, nth_zero, nth_one]; simp only [List.cons_append, List.nil_append, List.set_cons_succ, List.set_cons_zero, Value.cells, iv_snoc, tv_snoc] at hS) | ((with_reducible refine g_store (T := 107) ?_); refine seq_store (T := 107) (u := .agg _) 3 hS rfl rfl rfl Try.sizeOf107 (by simp [Value.cells, Value.oneCell']) (by simp [Value.cells]) (fun _ hS => ?_); simp only [Act.put, List.setIfInBounds_toArray, List.set_cons_succ, List.set_cons_zero, Int.toNat_natCast, Int.toNat_zero, Int.toNat_one, nth_zero, nth_one]; simp only [List.cons_append, List.nil_append, List.set_cons_succ, List.set_cons_zero, Value.cells, iv_snoc, tv_snoc] at hS; simp only [List.take_zero, List.nil_append, List.append_nil, List.drop_succ_cons, List.drop_zero, List.drop_nil, List.take_succ_cons, List.cons_append, List.size_toArray, List.length_cons, List.length_nil, Nat.reduceAdd] at hS) | ((with_reducible refine g_load (T := 3) ?_); refine seq_of hS rfl (stp_load_blk (T := 3) 3 Try.isAgg3 rfl rfl rfl ?_); simp only [Act.put, List.setIfInBounds_toArray, List.set_cons_succ, List.set_cons_zero, Int.toNat_natCast, Int.toNat_zero, Int.toNat_one, nth_zero, nth_one]) | ((with_reducible refine g_bs (T := 22) ?_); refine seq_bs1 (T := 22) (v := .int .i64 _) hS Try.underlying22 Try.sizeOf3 Try.zeroValue3 rfl rfl rfl (by decide) (by decide) rfl (fun _ _ hS => ?_); simp only [Act.put, List.setIfInBounds_toArray, List.set_cons_succ, List.set_cons_zero, Int.toNat_natCast, Int.toNat_zero, Int.toNat_one, nth_zero, nth_one]; simp only [Value.cells] at hS) | ((with_reducible refine g_app ?_); refine seq_append_lit (t := 22) 1 hS Try.underlying22 Try.info3 rfl (by decide) rfl rfl rfl rfl (by simp [Value.oneCell']) (by omega) (by unfold maxLen; omega) (fun _ _ _ hS => ?_); simp only [Act.put, List.setIfInBounds_toArray, List.set_cons_succ, List.set_cons_zero, Int.toNat_natCast, Int.toNat_zero, Int.toNat_one, nth_zero, nth_one]; simp only [List.cons_append, List.nil_append, List.set_cons_succ, List.set_cons_zero, Value.cells, iv_snoc, tv_snoc] at hS))
        go_roundw
        case rel =>
          refine ⟨d ++ [(kk, vv)], oi', ?_⟩
          rw [HSN.out]
          first
            | exact ⟨_, _, rfl, hit', (hS.sub (by repeat (first | exact List.Sublist.refl _ | apply List.Sublist.cons_cons | apply List.Sublist.cons | exact List.nil_sublist _)))⟩
            | (rw [← zs_snoc, List.length_append, List.length_cons, List.length_nil, show ((kk.1 + kk.2 - g : Nat) : Int) = (kk.1 : Int) + kk.2 - g by omega]; exact ⟨_, _, rfl, hit', (hS.sub (by repeat (first | exact List.Sublist.refl _ | apply List.Sublist.cons_cons | apply List.Sublist.cons | exact List.nil_sublist _)))⟩)
        case measure =>
          have hsz' := itSize_eq hit' (hS.blk (b := bi) (o := oi') (by simp))
          simp only [List.length_append, List.length_cons, List.length_nil] at hsz'
          simp only [hsz, hsz']
          omega
end Go.Proofs.Ytdibpfbibgicaaa
