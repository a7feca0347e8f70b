/- A5: slices.SortFunc at triples, in the words of chunks. -/
import Derived.Test.YtdibpfbibgicaaaA2
set_option linter.unusedVariables false
set_option linter.unusedSimpArgs false
namespace Go.Proofs.Ytdibpfbibgicaaa
open Go.RowKit Go.Hp Go.Sort Go.Shelf

set_option maxRecDepth 100000 in
theorem closure_any (x y : Tri) (W : World) : Calls Try.prog 57 #[.agg (enc3 x).toArray, .agg (enc3 y).toArray] W fun e w' => e = .returned (.int .i64 (c3 x y)) ∧ ∃ q os', w' = grow (W.drewN q) os' := by
  have hS := Heap.start W
  have hcon := fun b1 c1 b2 c2 W' => compare3_any b1 c1 b2 c2 x y W'
  generalize c3 x y = r at hcon ⊢
  unfold enc3
  go_enter Try.func57, Try.ntmps57
  go_wp2
  refine wp_region_sched [.pure 0, .pure 1, .ext 2, .pure 3] [] (fun w' => w' = World.drew _) (by kernel_rfl) (by kernel_rfl) rfl (fun w1 hw => ?_)
  subst hw
  repeat (first | ((first | ((with_reducible refine m_pure ?_); refine skip_pure rfl rfl ?_) | ((with_reducible refine m_read ?_); refine skip_read rfl rfl ?_)); simp only [Act.put, List.setIfInBounds_toArray, List.set_cons_succ, List.set_cons_zero, Int.toNat_natCast, Int.toNat_zero, Int.toNat_one, nth_zero, nth_one]) | fail | ((with_reducible refine m_pure ?_); refine run_pure rfl rfl (fun K hK => ?_); go_simp; refine hK _ ?_; clear hK K))
  refine ext_at rfl ?_
  go_wp2_with (fail)
  refine (hcon _ _ _ _ _ (by go_simp) (by go_simp) (by go_simp) (by go_simp) (by go_simp) (by go_simp)).mono ?_
  rintro e w' ⟨rfl, rfl⟩
  simp only []
  go_step
  refine ext_end rfl ?_
  repeat (first | ((first | ((with_reducible refine m_pure ?_); refine skip_pure rfl rfl ?_) | ((with_reducible refine m_read ?_); refine skip_read rfl rfl ?_)); simp only [Act.put, List.setIfInBounds_toArray, List.set_cons_succ, List.set_cons_zero, Int.toNat_natCast, Int.toNat_zero, Int.toNat_one, nth_zero, nth_one]) | fail | ((with_reducible refine m_pure ?_); refine run_pure rfl rfl (fun K hK => ?_); go_simp; refine hK _ ?_; clear hK K))
  refine sched_nil ?_
  simp only [NoPanic]
  go_wp2
  go_ret
  exact ⟨rfl, 1, _, by rw [alloc_eq_grow, alloc_eq_grow, grow_grow]; rfl⟩

theorem c3_swo : SWO (ltOf c3) where
  irrefl x := by unfold ltOf; rw [decide_eq_false_iff_not, c3_lt]; unfold lt3; omega
  trans x y z h1 h2 := by
    unfold ltOf at *
    rw [decide_eq_true_iff, c3_lt] at *
    exact lt3_trans h1 h2
  ntrans x y z h1 h2 := by
    unfold ltOf at *
    rw [decide_eq_false_iff_not, c3_lt] at *
    intro h3
    by_cases hab : lt3 y x
    · by_cases hbc : lt3 z y
      · exact lt3_asymm (lt3_trans hbc hab) h3
      · have := lt3_total h2 hbc; subst this; exact h1 h3
    · have := lt3_total h1 hab; subst this; exact h2 h3

theorem flat_tv (ts : List Tri) : flatK enc3 3 ts.toArray = (tv ts).toArray := by
  have hl := tv_length ts
  apply Array.ext
  · simp [hl]
  · intro t h1 h2
    have h1' : t < ts.length * 3 := by simpa using h1
    have hg := get_flatK enc3 3 ts.toArray t (by simpa using h1')
    rw [getElem!_pos _ t h1] at hg
    rw [hg]
    have hc := tv_cell (xs := ts) (i := t / 3) (by omega)
    have h3 : t / 3 < ts.length := by omega
    have hd : ts.toArray[t / 3]! = nth tz ts (t / 3) := by rw [getElem!_pos _ _ (by simpa using h3), nth_eq tz _ _ h3]; simp
    rw [hd, ← hc, getElem!_pos _ _ (by simp [hl]; omega)]
    simp only [List.getElem_take, List.getElem_drop, List.getElem_toArray]
    congr 1
    omega

theorem heap_sortG {w : World} {g n : Nat} {os : Array Obj} {cur : Array Value} {e : TypeId} {fr : Nat × Nat} (d : Array Value) (hb : w.heap[g]? = some (.cells cur e fr)) :
    (grow (putRow id (Sort.ahead w n) g 0 d) os).heap[g]? = some (.cells (putCells id 0 d cur) e fr) := by
  have hg : g < w.heap.size := (Array.getElem?_eq_some_iff.1 hb).1
  rw [heap_grow_old _ _ (by simpa using hg)]
  simp [putRow, mapBlock, Sort.ahead, Array.getElem?_modify, hb, onCells]
theorem grownBy_sortG {w : World} {g n : Nat} {os : Array Obj} (d : Array Value) : w.grownBy (grow (putRow id (Sort.ahead w n) g 0 d) os) (some g) := by
  refine ⟨rfl, rfl, rfl, by simp, fun k hk hne => ?_⟩
  rw [heap_grow_old _ _ (by simpa using hk)]
  have : g ≠ k := fun e => hne (by rw [e])
  simp [putRow, mapBlock, Sort.ahead, Array.getElem?_modify, this]
theorem take_putG (cur : Array Value) (ts : List Value) (h : ts.length ≤ cur.size) : (putCells id 0 ts.toArray cur).toList.take ts.length = ts := by
  apply List.ext_getElem?
  intro j
  by_cases hj : j < ts.length
  · rw [List.getElem?_take_of_lt hj, Array.getElem?_toList]
    simp [putCells, hj, show j < cur.size by omega]
  · rw [List.getElem?_take_eq_none (by omega), List.getElem?_eq_none (by omega)]
theorem holds_blockG {w : World} {g : Nat} {cur : Array Value} {e : TypeId} {ss : List Value} (hb : w.heap[g]? = some (.cells cur e (0, 0))) (ht : cur.toList.take ss.length = ss) : Holds id w g 0 ss.toArray := by
  intro j hj
  have hj' : j < ss.length := by simpa using hj
  refine ⟨?_, by simp [World.frozen?, hb]⟩
  have h1 : (cur.toList.take ss.length)[j]? = ss[j]? := by rw [ht]
  rw [List.getElem?_take_of_lt hj'] at h1
  simp only [World.cell?, hb, Nat.zero_add]
  simp only [Option.isSome_none, Bool.false_eq_true, if_false]
  rw [← Array.getElem?_toList, h1, List.getElem?_eq_getElem hj']
  simp [hj']

/-- In order. -/
def srt3 (ts : List Tri) : List Tri := ts.mergeSort fun x y => !(ltOf c3) y x
theorem srt3_len (ts : List Tri) : (srt3 ts).length = ts.length := (List.mergeSort_perm _ _).length_eq

theorem sort3_row {w0 w : World} {H : List Chunk} {ad : Option Addr} {n cap : Nat} {T : TypeId} {ts : List Tri} (j : Nat) (hS : Heap w0 w H) (hj : H[j]? = some (.row (.slice ad n cap) T 3 n (tv ts))) (hl : n ≤ 1000000) :
    Calls Try.prog 56 #[.slice ad n cap, .func (.func 57) #[] #[]] w fun e w' => e = .returned (.tuple #[]) ∧ Heap w0 w' (H.set j (.row (.slice ad n cap) T 3 n (tv (srt3 ts)))) := by
  have hown := hS.ok _ (List.mem_of_getElem? hj)
  obtain ⟨hlen, hor⟩ := hown
  rw [tv_length] at hlen
  have hlen' : ts.length = n := by omega
  subst hlen'
  have hperm := srt3_len ts
  rcases hor with ⟨hv, hn⟩ | ⟨g, cap', cur, hv, hb, hg, hnc, hcm, hcs, htake⟩
  · simp only [Value.slice.injEq] at hv
    obtain ⟨rfl, hx, rfl⟩ := hv
    have hxs : ts = [] := List.eq_nil_of_length_eq_zero hx
    subst hxs
    refine (AnyF.slices_SortFunc_none Try.sort3 none 0 _ w).mono fun e w' ⟨he, hw⟩ => ⟨he, ?_⟩
    subst hw
    have : H.set j (.row (.slice none 0 0) T 3 0 (tv (srt3 []))) = H := by
      apply List.ext_getElem?
      intro i
      rw [List.getElem?_set]
      split
      · rename_i h; subst h
        obtain ⟨hlt, hq⟩ := List.getElem?_eq_some_iff.1 hj
        rw [if_pos hlt, List.getElem?_eq_getElem hlt, hq, show srt3 [] = [] by simp [srt3]]
        rfl
      · rfl
    simp only [List.length_nil]
    rw [this]
    exact hS
  · simp only [Value.slice.injEq] at hv
    obtain ⟨rfl, -, rfl⟩ := hv
    have htl := tv_length ts
    have htl2 := tv_length (srt3 ts)
    have htake' : cur.toList.take (tv ts).length = tv ts := by rw [htl]; exact htake
    have eg : ∀ args w, (callFunc 57 args).run Try.prog w = .ok (.enter 57 args) w := enters_of Try.func57 (by kernel_rfl) rfl
    have hH : HoldsK enc3 3 w g 0 ts.toArray := by
      unfold HoldsK
      rw [flat_tv]
      exact holds_blockG hg htake'
    have hcon := AnyQ.slices_SortFunc_total Try.sort3 3 Try.isAgg55 Try.sizeOf55 enc3 (fun _ => rfl) (fun x v hv => by simp [enc3] at hv; rcases hv with rfl | rfl | rfl <;> rfl) c3 c3_swo 57 #[] g 0 cap ts.toArray w eg (fun _ _ _ _ x y => closure_any x y _) hH (Array.getElem?_eq_some_iff.1 hg).1 (by simp; omega) (fun x y h1 h2 => by
      unfold ltOf at h1 h2
      rw [decide_eq_false_iff_not, c3_lt] at h1 h2
      exact lt3_total h1 h2)
    change Calls Try.prog 56 _ _ _ at hcon
    rw [List.size_toArray] at hcon
    refine hcon.mono fun e w' ⟨he, m, os, hw⟩ => ⟨he, ?_⟩
    have hw2 : w' = grow (putRow id (Sort.ahead w m) g 0 (tv (srt3 ts)).toArray) os := by
      rw [hw, ← flat_tv]
      rfl
    clear hw
    subst hw2
    have hgr := grownBy_sortG (w := w) (g := g) (n := m) (os := os) (tv (srt3 ts)).toArray
    refine hS.turn j hj hgr.os hgr.tape hgr.output hgr.size ?_ (fun k hk => .inl hk) (fun k hk hnk => hgr.block k hk (fun e => hnk (by simp only [Chunk.has, Value.ownBlock]; exact e.symm)))
    refine ⟨by rw [htl2, hperm], .inr ⟨g, cap, _, rfl, Nat.zero_le _, heap_sortG _ hg, hnc, hcm, ?_, ?_⟩⟩
    · simp [Go.Sort.putCells, hcs]
    · rw [← hperm, ← htl2]
      exact take_putG cur _ (by rw [htl2, hperm, hcs]; omega)
end Go.Proofs.Ytdibpfbibgicaaa
