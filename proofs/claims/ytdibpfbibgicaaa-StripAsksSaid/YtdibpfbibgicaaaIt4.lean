/- It4: It2, It3, joined. -/
import Derived.Test.YtdibpfbibgicaaaSort1
import Derived.Test.YtdibpfbibgicaaaG4
set_option linter.unusedVariables false
set_option linter.unusedSimpArgs false
/- It2: Values, Collect, Sorted, Compact, BinarySearch in the words of chunks; strip.indices. -/
namespace Go.Hp
open Go Go.RowKit
theorem Heap.ofRow {w w' : World} {T : TypeId} {k n : Nat} {v : Value} {cs : List Value} (hb : Below w.heap.size w w') (hr : w'.ownsRow w.heap.size T k v n cs) : Heap w w' [.frz (Old w) w, .row v T k n cs] := by
  have h0 := (Heap.start w).below hb
  refine ⟨h0.os, h0.tape, h0.output, h0.size, ?_, ?_⟩
  · intro c hc
    rcases List.mem_cons.1 hc with rfl | hc
    · exact h0.ok _ (by simp)
    · obtain rfl := List.mem_singleton.1 hc
      refine ⟨hr.1, ?_⟩
      rcases hr.2 with h | ⟨g, cap, cur, h1, h2, h3⟩
      · exact .inl h
      · exact .inr ⟨g, cap, cur, h1, Nat.zero_le _, h3⟩
  · refine List.pairwise_cons.2 ⟨fun c hc k hk hn => ?_, by simp⟩
    obtain rfl := List.mem_singleton.1 hc
    have := (World.ownsRow.lt hr k hn).1
    simp only [Chunk.has, Old] at hk
    omega
end Go.Hp
namespace Go.Proofs.Ytdibpfbibgicaaa
open Go.RowKit Go.Shelf Go.Hp

theorem Heap.rowB {w0 w : World} {H : List Chunk} {ad : Option Addr} {n c : Nat} {T : TypeId} {xs : List Int} (hS : Heap w0 w H) (j : Nat) (hj : H[j]? = some (.row (.slice ad n c) T 1 n (iv xs))) : IntsB w.heap.size w (.slice ad n c) xs := by
  obtain ⟨hl, ho⟩ := hS.ok _ (List.mem_of_getElem? hj)
  rw [iv_length] at hl
  have hl' : xs.length = n := by omega
  subst hl'
  rcases ho with ⟨h1, h2⟩ | ⟨g, cap, cur, h1, _, hg, _, _, hcs, htk⟩
  · exact .inl ⟨by rw [h1], List.eq_nil_of_length_eq_zero h2⟩
  · refine .inr ⟨g, 0, cap, h1, (Array.getElem?_eq_some_iff.1 hg).1, fun i hi => ?_⟩
    rw [cell_of_row w g _ cur T (0, 0) hg]
    have h3 : (cur.toList.take (xs.length * 1))[i]? = some (.int .i64 (xs[i]?.getD 0)) := by rw [htk, iv, List.getElem?_map, List.getElem?_eq_getElem hi]; rfl
    rw [List.getElem?_take, if_pos (by omega)] at h3
    simpa using h3

theorem values_any (a : Option Addr) (n c : Nat) (w : World) : Calls Try.prog 64 #[.slice a n c] w fun e w' => ∃ Bs, e = .returned (seqV Bs) ∧ w'.cell? ⟨Bs, 0, none⟩ = some (.slice a n c) ∧ Bs < w'.heap.size ∧ Below w.heap.size w w' := by
  refine (callsIn_wide (n := 5)).1 ((values_in Fence.wide 5 trivial rfl a n c w).mono ?_)
  rintro e w' ⟨rfl, rfl⟩
  exact ⟨_, rfl, (Boxed.new w _ _).cell, by simp, (Below.refl _ w).alloc (Nat.le_refl _) _⟩

theorem appendSeq_any (Bs : Nat) (sv : Value) (xs : List Int) (hbytes : xs.length ≤ 1000000) (w : World) (hBs : Bs < w.heap.size) (hcB : w.cell? ⟨Bs, 0, none⟩ = some sv) (hL : IntsB w.heap.size w sv xs) :
    Calls Try.prog 91 #[.slice none 0 0, seqV Bs] w fun e w' => ∃ a c, e = .returned (.slice a xs.length c) ∧ Heap w w' [.frz (Old w) w, .row (.slice a xs.length c) 3 1 xs.length (iv xs)] := by
  refine (callsIn_wide (n := 5)).1 ((appendSeq_in Fence.wide 5 trivial trivial rfl (by omega) Bs sv xs (by omega) w hBs hcB hL).mono ?_)
  rintro e w' ⟨v, rfl, hr, hb⟩
  have hr' := Heap.ofRow hb hr
  rcases hr.2 with ⟨rfl, h0⟩ | ⟨g, cap, cur, rfl, _⟩
  · have : xs = [] := List.eq_nil_of_length_eq_zero h0
    subst this
    exact ⟨none, 0, rfl, hr'⟩
  · exact ⟨_, cap, rfl, hr'⟩

theorem collect_any (Bs : Nat) (sv : Value) (xs : List Int) (hbytes : xs.length ≤ 1000000) (w : World) (hBs : Bs < w.heap.size) (hcB : w.cell? ⟨Bs, 0, none⟩ = some sv) (hL : IntsB w.heap.size w sv xs) :
    Calls Try.prog 75 #[seqV Bs] w fun e w' => ∃ a c, e = .returned (.slice a xs.length c) ∧ Heap w w' [.frz (Old w) w, .row (.slice a xs.length c) 3 1 xs.length (iv xs)] := by
  go_enter Try.func75, Try.ntmps75
  go_wp2_with (first | (go_at_call 91; refine (appendSeq_any Bs sv xs hbytes w hBs hcB hL).mono ?_; rintro e w' ⟨a, c, rfl, hS⟩))
  go_ret
  exact ⟨a, c, rfl, hS⟩

theorem sorted_any (Bs : Nat) (sv : Value) (xs : List Int) (hbytes : xs.length ≤ 1000000) (w : World) (hBs : Bs < w.heap.size) (hcB : w.cell? ⟨Bs, 0, none⟩ = some sv) (hL : IntsB w.heap.size w sv xs) :
    Calls Try.prog 63 #[seqV Bs] w fun e w' => ∃ a c, e = .returned (.slice a xs.length c) ∧ Heap w w' [.frz (Old w) w, .row (.slice a xs.length c) 3 1 xs.length (iv (srt xs))] := by
  go_enter Try.func63, Try.ntmps63
  go_wp2_with (first | (go_at_call 75; refine (collect_any Bs sv xs hbytes w hBs hcB hL).mono ?_; rintro e w' ⟨a, c, rfl, hS⟩) | (go_at_call 74; refine (sort_row 1 hS rfl (by omega)).mono ?_; rintro e w' ⟨rfl, hS⟩; simp only [List.cons_append, List.nil_append, List.set_cons_succ, List.set_cons_zero, Value.cells, iv_snoc, tv_snoc] at hS))
  go_ret
  exact ⟨a, c, rfl, hS⟩

theorem sorted_len {n : Nat} (Bs : Nat) (sv : Value) (xs : List Int) (hn : xs.length = n) (hbytes : n ≤ 1000000) (w : World) (hBs : Bs < w.heap.size) (hcB : w.cell? ⟨Bs, 0, none⟩ = some sv) (hL : IntsB w.heap.size w sv xs) :
    Calls Try.prog 63 #[seqV Bs] w fun e w' => ∃ a c, e = .returned (.slice a n c) ∧ Heap w w' [.frz (Old w) w, .row (.slice a n c) 3 1 n (iv (srt xs))] := by
  subst hn
  exact sorted_any Bs sv xs hbytes w hBs hcB hL
end Go.Proofs.Ytdibpfbibgicaaa

/- It3: Compact and BinarySearch over rows of our own; strip.indices. -/
namespace Go.Proofs.Ytdibpfbibgicaaa
open Go.RowKit Go.Shelf Go.Hp

theorem compact_sub (xs : List Int) : (Lib.compact xs).Sublist xs := by
  unfold Lib.compact Lib.compactUpTo
  have h := (List.filter_sublist (l := List.range xs.length) (p := Lib.keeps xs.toArray)).map (fun i => xs.toArray[i]!)
  have e : (List.range xs.length).map (fun i => xs.toArray[i]!) = xs := by
    have := Lib.range_map_get xs.toArray
    simpa using this
  rw [e] at h
  exact h
theorem compact_len (xs : List Int) : (Lib.compact xs).length ≤ xs.length := (compact_sub xs).length_le
theorem srt_sorted (xs : List Int) : (srt xs).Pairwise (· ≤ ·) := by
  have ht : ∀ (a b c : Int), decide (a ≤ b) = true → decide (b ≤ c) = true → decide (a ≤ c) = true := by intro a b c; simp; omega
  have hT : ∀ (a b : Int), (decide (a ≤ b) || decide (b ≤ a)) = true := by intro a b; simp; omega
  exact (List.pairwise_mergeSort ht hT xs).imp (fun h => by simpa using h)
theorem srt_len (xs : List Int) : (srt xs).length = xs.length := (List.mergeSort_perm _ _).length_eq

theorem compact_row {w0 w : World} {H : List Chunk} {ad : Option Addr} {n cap : Nat} {T : TypeId} {xs : List Int} (j : Nat) (hS : Heap w0 w H) (hj : H[j]? = some (.row (.slice ad n cap) T 1 n (iv xs))) (hl : n ≤ 1000000) :
    Calls Try.prog 62 #[.slice ad n cap] w fun e w' => e = .returned (.slice ad (Lib.compact xs).length cap) ∧ Heap w0 w' (H.set j (.row (.slice ad (Lib.compact xs).length cap) T 1 (Lib.compact xs).length (iv (Lib.compact xs)))) := by
  have hown := hS.ok _ (List.mem_of_getElem? hj)
  obtain ⟨hlen, hor⟩ := hown
  rw [iv_length] at hlen
  have hlen' : xs.length = n := by omega
  subst hlen'
  rcases hor with ⟨hv, hn⟩ | ⟨g, cap', cur, hv, hb, hg, hnc, hcm, hcs, htake⟩
  · simp only [Value.slice.injEq] at hv
    obtain ⟨rfl, hx, rfl⟩ := hv
    have hxs : xs = [] := List.eq_nil_of_length_eq_zero hx
    subst hxs
    have hc0 : Lib.compact ([] : List Int) = [] := rfl
    refine (Try.slices_Compact_int_empty none 0 w).mono fun e w' ⟨he, hw⟩ => ⟨by rw [he, hc0]; rfl, ?_⟩
    subst hw
    have : H.set j (.row (.slice none 0 0) T 1 0 (iv [])) = H := by
      apply List.ext_getElem?
      intro i
      rw [List.getElem?_set]
      split
      · rename_i h; subst h
        obtain ⟨hlt, hq⟩ := List.getElem?_eq_some_iff.1 hj
        rw [if_pos hlt, List.getElem?_eq_getElem hlt, hq]
        rfl
      · rfl
    rw [hc0]
    simp only [List.length_nil]
    rw [this]
    exact hS
  · simp only [Value.slice.injEq] at hv
    obtain ⟨rfl, -, rfl⟩ := hv
    have htake' : cur.toList.take xs.length = xs.map (Value.int .i64) := by simpa [iv] using htake
    refine (Try.slices_Compact_int g 0 cap xs w (holds_of_blockI hg htake') (by omega) hnc).mono fun e w' ⟨he, q, hw⟩ => ⟨he, ?_⟩
    have hw' : w' = Sort.grow (Sort.putRow (Value.int .i64) (Sort.ahead w q) g 0 (Lib.compact xs ++ List.replicate (xs.length - (Lib.compact xs).length) 0).toArray) #[] := by rw [hw, Sort.grow_empty]
    clear hw
    subst hw'
    have hcl := compact_len xs
    have hgr := grownBy_sortedI (w := w) (g := g) (n := q) (os := #[]) (Lib.compact xs ++ List.replicate (xs.length - (Lib.compact xs).length) 0).toArray
    refine hS.turn j hj hgr.os hgr.tape hgr.output hgr.size ?_ (fun k hk => .inl hk) (fun k hk hnk => hgr.block k hk (fun e => hnk (by simp only [Chunk.has, Value.ownBlock]; exact e.symm)))
    refine ⟨by rw [iv_length]; omega, .inr ⟨g, cap, _, rfl, Nat.zero_le _, heap_sortedI _ hg, by omega, hcm, ?_, ?_⟩⟩
    · simp [Go.Sort.putCells, hcs]
    · have h1 := take_putCellsI cur (Lib.compact xs ++ List.replicate (xs.length - (Lib.compact xs).length) 0) (by simp; omega)
      have h2 : (Lib.compact xs ++ List.replicate (xs.length - (Lib.compact xs).length) (0 : Int)).length = xs.length := by simp; omega
      rw [h2] at h1
      rw [Nat.mul_one]
      have h3 := congrArg (List.take (Lib.compact xs).length) h1
      rw [List.take_take, Nat.min_eq_left hcl] at h3
      rw [h3]
      simp [iv, List.map_append]

theorem bsearch_row {w0 w : World} {H : List Chunk} {ad : Option Addr} {n cap : Nat} {T : TypeId} {xs : List Int} (j : Nat) (x : Int) (hS : Heap w0 w H) (hj : H[j]? = some (.row (.slice ad n cap) T 1 n (iv xs))) (hl : n ≤ 1000000) (hs : xs.Pairwise (· ≤ ·)) :
    Calls Try.prog 65 #[.slice ad n cap, .int .i64 x] w fun e w' => (∃ t, e = .returned (.tuple #[.int .i64 (xs.countP (· < x) : Nat), .bool t])) ∧ Heap w0 w' H := by
  have hown := hS.ok _ (List.mem_of_getElem? hj)
  obtain ⟨hlen, hor⟩ := hown
  rw [iv_length] at hlen
  have hlen' : xs.length = n := by omega
  subst hlen'
  rcases hor with ⟨hv, hn⟩ | ⟨g, cap', cur, hv, hb, hg, hnc, hcm, hcs, htake⟩
  · simp only [Value.slice.injEq] at hv
    obtain ⟨rfl, hx, rfl⟩ := hv
    have hxs : xs = [] := List.eq_nil_of_length_eq_zero hx
    subst hxs
    refine (Try.slices_BinarySearch_int_empty none 0 x w).mono fun e w' ⟨he, hw⟩ => ⟨⟨_, he⟩, ?_⟩
    subst hw
    exact hS
  · simp only [Value.slice.injEq] at hv
    obtain ⟨rfl, -, rfl⟩ := hv
    have htake' : cur.toList.take xs.length = xs.map (Value.int .i64) := by simpa [iv] using htake
    have hh := holds_of_blockI hg htake'
    refine (Try.slices_BinarySearch_int g 0 xs.length cap xs x w (Nat.le_refl _) (by omega) (fun j hj => ?_) (by rw [List.take_length]; exact hs)).mono fun e w' ⟨he, q, hw⟩ => ⟨⟨(xs.take xs.length).contains x, by rw [List.take_length] at he ⊢; exact he⟩, ?_⟩
    · have := (hh j (by simpa using hj)).1
      simpa [List.getD_eq_getElem?_getD, hj] using this
    · subst hw
      exact hS.below (below_drewN (Below.refl _ w) q)

theorem IntsB.mono {m n : Nat} (h : m ≤ n) {W : World} {sv : Value} {zs : List Int} : IntsB m W sv zs → IntsB n W sv zs
  | .inl e => .inl e
  | .inr ⟨b, off, cap, e, hb, hc⟩ => .inr ⟨b, off, cap, e, by omega, hc⟩

/-- The names of the groups, in order; the index of each face's group. -/
def names (of : List Nat) : List Int := Lib.compact (srt (zs of))
def rankOf (of : List Nat) (x : Nat) : Nat := (names of).countP (· < (x : Int))
theorem names_sorted (of : List Nat) : (names of).Pairwise (· ≤ ·) := (srt_sorted _).sublist (compact_sub _)
theorem names_len (of : List Nat) : (names of).length ≤ of.length := by
  have := compact_len (srt (zs of)); rw [srt_len, zs_length] at this; exact this
theorem rankOf_le (of : List Nat) (x : Nat) : rankOf of x ≤ of.length := Nat.le_trans List.countP_le_length (names_len of)

set_option maxHeartbeats 2000000 in
set_option maxRecDepth 100000 in
theorem sindices_any (a : Option Addr) (n c bs : Nat) (v1 v2 : Value) (of : List Nat) (w : World) (hbs : Fz w (Old w) bs (.cells #[.slice a n c, v1, v2] 84 (0, 0))) (hI : IntsB w.heap.size w (.slice a n c) (zs of)) (hx : Nats w (Old w) (.slice a n c) of) (hl : of.length ≤ 4096) :
    Calls Try.prog 40 #[.pointer (some ⟨bs, 0, none⟩)] w fun e w' => ∃ a' c', e = .returned (.slice a' of.length c') ∧ Below w.heap.size w w' ∧ Nats w' (New w w') (.slice a' of.length c') (of.map (rankOf of)) := by
  have hn := hx.len
  subst hn
  have hS := (Heap.start w).addNil 3 1
  obtain ⟨nm, hnm⟩ : ∃ nm, Lib.compact (srt (zs of)) = nm := ⟨_, rfl⟩
  have hsn := names_sorted of
  have hnl := names_len of
  unfold names at hsn hnl
  rw [hnm] at hsn hnl
  have HNM := Lib.hid hnm
  clear hnm
  go_enter Try.func40, Try.ntmps40
  go_wp2_with (first | ((with_reducible refine g_load (T := 22) ?_); refine seq_of hS rfl (stp_load_kn (T := 22) Try.isAgg22 rfl (Fz.known (by with_reducible assumption) (by simp)) rfl ?_); simp only [Act.put, List.setIfInBounds_toArray, List.set_cons_succ, List.set_cons_zero, Int.toNat_natCast, Int.toNat_zero, Int.toNat_one, nth_zero, nth_one]) | (go_at_call 64; refine (values_any _ _ _ _).mono ?_; rintro e wv ⟨Bs, rfl, hcv, hBs, hBv⟩; have hS := hS.below hBv; have hIv := (hI.below hBv).mono hBv.size) | (go_at_call 63; refine (sorted_len _ _ (zs of) (zs_length of) (by omega) _ hBs hcv hIv).mono ?_; rintro e ws ⟨a1, c1, rfl, hSs⟩; have hS := hS.import hSs; simp only [List.cons_append, List.nil_append, List.set_cons_succ, List.set_cons_zero, Value.cells, iv_snoc, tv_snoc] at hS) | (go_at_call 62; refine (compact_row 2 hS rfl (by omega)).mono ?_; rintro e wc ⟨rfl, hS⟩; simp only [List.cons_append, List.nil_append, List.set_cons_succ, List.set_cons_zero, Value.cells, iv_snoc, tv_snoc] at hS; rw [HNM.out] at hS ⊢))
  simp only [List.getElem_toArray, List.getElem_cons_zero, List.getElem_cons_succ]
  go_loopw [4, 21] (fun out i wr => ∃ (k : Nat) (a2 : Option Addr) (c2 : Nat), k ≤ of.length ∧ i = .int .i64 k ∧ out = .slice a2 k c2 ∧ Heap w wr [.frz (Old w) w, .row (.slice a2 k c2) 3 1 k (iv (zs ((of.take k).map (rankOf of)))), .row (.slice a1 nm.length c1) 3 1 nm.length (iv nm)]) (fun _ i _ => of.length - (intOf i).toNat)
  case atStart => exact ⟨0, none, 0, by omega, rfl, rfl, hS⟩
  case round =>
    clear hS
    obtain ⟨k, a2, c2, hk, rfl, rfl, hS⟩ := hrel
    by_cases hlt : k < of.length
    · have hst : zs ((of.take k).map (rankOf of)) ++ [((nm.countP (· < ((nth 0 of k : Nat) : Int)) : Nat) : Int)] = zs ((of.take (k + 1)).map (rankOf of)) := by
        rw [take_snoc 0 of k hlt, List.map_append, List.map_singleton, ← zs_snoc]
        unfold rankOf names
        rw [HNM.out]
      have HST := Lib.hid hst
      clear hst
      go_wp2_with (first | ((with_reducible refine g_idx (T := 22) ?_); refine seq_any rfl (any_index_nat (T := 22) Try.underlying22 Try.sizeOf3 rfl rfl (by with_reducible assumption) (by omega) (by omega) (fun _ _ _ => ?_)); simp only [Act.put, List.setIfInBounds_toArray, List.set_cons_succ, List.set_cons_zero, Int.toNat_natCast, Int.toNat_zero, Int.toNat_one, nth_zero, nth_one]) | ((with_reducible refine g_load (T := 3) ?_); refine seq_of hS rfl (stp_load (T := 3) Try.isAgg3 rfl (by with_reducible assumption) (by simp) rfl ?_); simp only [Act.put, List.setIfInBounds_toArray, List.set_cons_succ, List.set_cons_zero, Int.toNat_natCast, Int.toNat_zero, Int.toNat_one, nth_zero, nth_one]) | (go_at_call 65; refine (bsearch_row 2 _ hS rfl (by omega) hsn).mono ?_; rintro e wb ⟨⟨tt, rfl⟩, hS⟩) | ((with_reducible refine g_bs (T := 22) ?_); refine seq_bs1 (T := 22) (v := .int .i64 _) hS Try.underlying22 Try.sizeOf3 Try.zeroValue3 rfl rfl rfl (by decide) (by decide) rfl (fun _ _ hS => ?_); simp only [Act.put, List.setIfInBounds_toArray, List.set_cons_succ, List.set_cons_zero, Int.toNat_natCast, Int.toNat_zero, Int.toNat_one, nth_zero, nth_one]; simp only [Value.cells] at hS) | ((with_reducible refine g_app ?_); refine seq_append_lit (t := 22) 1 hS Try.underlying22 Try.info3 rfl (by decide) rfl rfl rfl rfl (by simp [Value.oneCell']) (by omega) (by unfold maxLen; omega) (fun _ _ _ hS => ?_); simp only [Act.put, List.setIfInBounds_toArray, List.set_cons_succ, List.set_cons_zero, Int.toNat_natCast, Int.toNat_zero, Int.toNat_one, nth_zero, nth_one]; simp only [List.cons_append, List.nil_append, List.set_cons_succ, List.set_cons_zero, Value.cells, iv_snoc, tv_snoc] at hS))
      go_roundw
      case rel =>
        rw [HST.out] at hS
        exact ⟨k + 1, _, _, by omega, by go_num, rfl, (hS.sub (by repeat (first | exact List.Sublist.refl _ | apply List.Sublist.cons_cons | apply List.Sublist.cons | exact List.nil_sublist _)))⟩
      case measure => simp [intOf]; omega
    · obtain rfl : k = of.length := by omega
      rw [List.take_length] at hS
      go_wp2
      go_ret
      refine ⟨a2, c2, rfl, hS.toBelow (by simp), hS.resultNats 0 rfl (fun z hz => ?_)⟩
      obtain ⟨x, _, rfl⟩ := List.mem_map.1 hz
      have := rankOf_le of x
      omega
end Go.Proofs.Ytdibpfbibgicaaa
