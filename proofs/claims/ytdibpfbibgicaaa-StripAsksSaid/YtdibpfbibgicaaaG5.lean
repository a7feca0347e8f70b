import Derived.Test.YtdibpfbibgicaaaG4
import Derived.Test.YtdibpfbibgicaaaBase1
namespace Go.Hp
theorem Heap.pick5 {w0 w : World} {c0 c1 c2 c3 c4 c5 : Chunk} {l : List Chunk} (h : Heap w0 w (c0 :: c1 :: c2 :: c3 :: c4 :: c5 :: l)) : Heap w0 w [c0, c1, c2, c5, c4] := by
  have hp : (c0 :: c1 :: c2 :: ([c5, c4, c3] ++ l)).Perm (c0 :: c1 :: c2 :: ([c3, c4, c5] ++ l)) := (((List.reverse_perm [c3, c4, c5]).append_right l).cons c2 |>.cons c1 |>.cons c0)
  exact (h.perm hp).sub (by simp)
end Go.Hp
namespace Go.Proofs.Ytdibpfbibgicaaa
open Go.RowKit Go.Hp
set_option linter.unusedVariables false
set_option linter.unusedSimpArgs false

/-- The maps after a merge. -/
def mergeW (lw : List (Int × Int)) (nm gn : Nat) : List (Int × Int) := delL (putL lw (nm : Int) (wgtL lw nm + wgtL lw gn)) (gn : Int)
def foldLen (of : List Nat) : List ((Nat × Nat) × Int) → List ((Nat × Nat) × Int) → List ((Nat × Nat) × Int)
  | m, [] => m
  | m, (k, v) :: d => foldLen of (if nth 0 of k.1 = nth 0 of k.2 then m else putL m (key (nth 0 of k.1) (nth 0 of k.2)) ((getL m (key (nth 0 of k.1) (nth 0 of k.2))).getD 0 + v)) d
theorem foldLen_snoc (of : List Nat) (k : Nat × Nat) (v : Int) : ∀ (d m : List ((Nat × Nat) × Int)), foldLen of m (d ++ [(k, v)]) = (if nth 0 of k.1 = nth 0 of k.2 then foldLen of m d else putL (foldLen of m d) (key (nth 0 of k.1) (nth 0 of k.2)) ((getL (foldLen of m d) (key (nth 0 of k.1) (nth 0 of k.2))).getD 0 + v))
  | [], m => rfl
  | (j, u) :: d, m => by simp only [List.cons_append, foldLen]; exact foldLen_snoc of k v d _

def rowTo (of : List Nat) (x y k : Nat) : List Nat := (mrg of x y).take k ++ of.drop k
theorem mrg_len (of : List Nat) (x y : Nat) : (mrg of x y).length = of.length := by simp [mrg]
theorem nth_mrg (of : List Nat) (x y i : Nat) (h : i < of.length) : nth 0 (mrg of x y) i = mrg1 x y (nth 0 of i) := by
  rw [nth_eq 0 _ _ (by rw [mrg_len]; exact h), nth_eq 0 _ _ h]; simp [mrg]
theorem rowTo_zero (of : List Nat) (x y : Nat) : rowTo of x y 0 = of := by simp [rowTo]
theorem rowTo_len (of : List Nat) (x y k : Nat) (h : k ≤ of.length) : (rowTo of x y k).length = of.length := by simp [rowTo, mrg_len]; omega
theorem rowTo_end (of : List Nat) (x y : Nat) : rowTo of x y of.length = mrg of x y := by
  unfold rowTo
  rw [List.drop_length, List.append_nil, ← mrg_len of x y, List.take_length]
theorem rowTo_at (of : List Nat) (x y k : Nat) (h : k < of.length) : nth 0 (rowTo of x y k) k = nth 0 of k := by
  unfold rowTo
  have h1 : ((mrg of x y).take k).length = k := by rw [List.length_take, mrg_len]; omega
  rw [nth_append_right _ _ _ _ (by omega), h1, Nat.sub_self, nth_eq 0 of k h, List.drop_eq_getElem_cons h]; rfl
theorem rowTo_set (of : List Nat) (x y k : Nat) (h : k < of.length) (v : Nat) (hv : mrg1 x y (nth 0 of k) = v) : (rowTo of x y k).set k v = rowTo of x y (k + 1) := by
  have h1 : ((mrg of x y).take k).length = k := by rw [List.length_take, mrg_len]; omega
  unfold rowTo
  rw [List.set_append_right _ _ (by omega), h1, Nat.sub_self, List.drop_eq_getElem_cons h, List.set_cons_zero, take_snoc 0 _ k (by rw [mrg_len]; exact h), nth_mrg of x y k h, hv, List.append_assoc]; rfl
theorem rowTo_keep (of : List Nat) (x y k : Nat) (h : k < of.length) (hv : mrg1 x y (nth 0 of k) = nth 0 of k) : rowTo of x y (k + 1) = rowTo of x y k := by
  rw [← rowTo_set of x y k h _ rfl, hv]
  have := rowTo_at of x y k h
  have hl := rowTo_len of x y k (by omega)
  rw [nth_eq 0 _ _ (by omega)] at this
  rw [← this, List.set_getElem_self]
theorem mrg1_cases (x y z : Nat) : (z = max x y ∧ mrg1 x y z = min x y) ∨ (z ≠ max x y ∧ mrg1 x y z = z) := by
  unfold mrg1
  by_cases h1 : z = x <;> by_cases h2 : z = y <;> simp [h1, h2] <;> omega

theorem itSub {κ ν : Type} [DecidableEq κ] {ek : κ → Value} {ev : ν → Value} {b : Nat} {o oi : Obj} {l d : List (κ × ν)} (h : ItIs ek ev b o oi l d) : (d.map (·.1)).Nodup ∧ ∀ p ∈ d, p ∈ l := by
  obtain ⟨es, clock, f, rfl, rfl, _, _, _, h1, h2, h3, _⟩ := h
  exact ⟨h2, h1⟩

set_option maxHeartbeats 4000000 in
set_option maxRecDepth 100000 in
theorem merge_any (S : Nat → Prop) (a : Option Addr) (n c bw bl bs : Nat) (of : List Nat) (ow ol : Obj) (lw : List (Int × Int)) (ll : List ((Nat × Nat) × Int)) (s : Str) (w : World) (hS0 : Heap w w (.frz S w :: stH a n c bw bl bs of ow ol))
    (hmw : MapIs ik ik ow lw) (hml : MapIs pk ik ol ll) (hn : of.length = n) (hn2 : n ≤ 4096) (hof : ∀ i, i < n → nth 0 of i < n) (hf : s.face < n) (hi : s.into < n) (hk : ∀ p ∈ ll, p.1.1 < n ∧ p.1.2 < n)
    (hw1 : InI (wgtL lw (min s.face s.into) + wgtL lw (max s.face s.into)))
    (hl1 : ∀ d : List ((Nat × Nat) × Int), (d.map (·.1)).Nodup → (∀ p ∈ d, p ∈ ll) → ∀ k, InI ((getL (foldLen (mrg of s.face s.into) [] d) k).getD 0)) :
    Calls Try.prog 39 #[.pointer (some ⟨bs, 0, none⟩), .agg (strA s)] w fun e w' => e = .returned (.tuple #[]) ∧ ∃ bl' ow' ol' d, d.Perm ll ∧ MapIs ik ik ow' (mergeW lw (min s.face s.into) (max s.face s.into)) ∧ MapIs pk ik ol' (foldLen (mrg of s.face s.into) [] d) ∧
      Heap w w' (.frz S w :: stH a n c bw bl' bs (mrg of s.face s.into) ow' ol') := by
  have hS := hS0
  clear hS0
  obtain ⟨sf, sa, sb, si⟩ := s
  obtain ⟨ad, rfl⟩ := hS.rowAt 1 rfl (by omega)
  simp only [stH] at hS
  obtain ⟨nm, hnm⟩ : ∃ nm, nm = min sf si := ⟨_, rfl⟩
  obtain ⟨gn, hgn⟩ : ∃ gn, gn = max sf si := ⟨_, rfl⟩
  have hnz : min (sf : Int) (si : Int) = (nm : Int) := by omega
  have hgz : max (sf : Int) (si : Int) = (gn : Int) := by omega
  have HNZ := Lib.hid hnz
  have HGZ := Lib.hid hgz
  have HNM := Lib.hid hnm
  have HGN := Lib.hid hgn
  simp only [← hnm, ← hgn] at hw1 ⊢
  have hnl : nm < n := by simp only at hf hi; omega
  have hgl : gn < n := by simp only at hf hi; omega
  clear hnz hgz hnm hgn
  simp only at hl1 ⊢
  go_enter Try.func39, Try.ntmps39
  go_wp2_with (first | ((with_reducible refine g_box (T := 74) ?_); refine seq_box (T := 74) (v := .agg _) hS rfl (fun bm wbm hS => ?_); simp only [Act.put, List.setIfInBounds_toArray, List.set_cons_succ, List.set_cons_zero, Int.toNat_natCast, Int.toNat_zero, Int.toNat_one, nth_zero, nth_one]; simp only [List.cons_append, List.nil_append, List.set_cons_succ, List.set_cons_zero, Value.cells, iv_snoc, tv_snoc] at hS))
  simp only [strA] at hS ⊢
  refine wp_region_sched [.pure 0, .read 1, .pure 2, .read 3, .pure 4, .pure 5, .read 6, .pure 7, .read 8, .pure 9, .pure 10, .pure 11] [] (fun w' => Heap w w' _) (by kernel_rfl) (by kernel_rfl) hS.drew (fun w1 hS => ?_)
  repeat (first | ((first | ((with_reducible refine m_pure ?_); refine skip_pure rfl rfl ?_) | ((with_reducible refine m_read ?_); refine skip_read rfl rfl ?_)); simp only [Act.put, List.setIfInBounds_toArray, List.set_cons_succ, List.set_cons_zero, Int.toNat_natCast, Int.toNat_zero, Int.toNat_one, nth_zero, nth_one]) | ((with_reducible refine m_read ?_); refine sched_of rfl rfl (stp_load_blk (T := 3) 5 Try.isAgg3 rfl rfl rfl ?_); simp only [Act.put, List.setIfInBounds_toArray, List.set_cons_succ, List.set_cons_zero, Int.toNat_natCast, Int.toNat_zero, Int.toNat_one, nth_zero, nth_one]) | ((with_reducible refine m_pure ?_); refine run_pure rfl rfl (fun K hK => ?_); go_simp; refine hK _ ?_; clear hK K))
  simp only [HNZ.out, HGZ.out]
  refine sched_nil ?_
  simp only [NoPanic]
  have HWN : Hid ((getL lw (nm : Int)).getD 0 = wgtL lw nm) := rfl
  have HWG : Hid ((getL lw (gn : Int)).getD 0 = wgtL lw gn) := rfl
  have hw2 := hw1
  unfold InI at hw2
  generalize hx1 : wgtL lw nm = x1 at HWN hw2
  generalize hx2 : wgtL lw gn = x2 at HWG hw2
  have HMW : Hid (delL (putL lw (nm : Int) (x1 + x2)) (gn : Int) = mergeW lw nm gn) := by unfold Hid; rw [← hx1, ← hx2]; rfl
  clear hx1 hx2 hw1
  go_wp2_with (fail)
  refine wp_region_sched [.pure 0, .pure 1, .pure 2, .read 3, .pure 4, .read 5, .pure 6, .pure 7, .pure 8, .read 9, .pure 10, .read 11, .pure 12, .mutt 13] [13] (fun w' => Heap w w' _) (by kernel_rfl) (by kernel_rfl) hS.drew (fun w1 hS => ?_)
  repeat (first | ((first | ((with_reducible refine m_pure ?_); refine skip_pure rfl rfl ?_) | ((with_reducible refine m_read ?_); refine skip_read rfl rfl ?_)); simp only [Act.put, List.setIfInBounds_toArray, List.set_cons_succ, List.set_cons_zero, Int.toNat_natCast, Int.toNat_zero, Int.toNat_one, nth_zero, nth_one]) | ((with_reducible refine m_read ?_); refine sched_of rfl rfl (stp_load_blk (T := 81) 4 Try.isAgg81 rfl rfl rfl ?_); simp only [Act.put, List.setIfInBounds_toArray, List.set_cons_succ, List.set_cons_zero, Int.toNat_natCast, Int.toNat_zero, Int.toNat_one, nth_zero, nth_one]) | (((with_reducible refine m_read ?_); refine sched_of rfl rfl (stp_lookup (ev := ik) (k := ((nm : Nat) : Int)) (z := (0 : Int)) 2 Try.underlying81 Try.zeroValue3 keyInt rfl rfl rfl (by with_reducible assumption) ?_); simp only [Act.put, List.setIfInBounds_toArray, List.set_cons_succ, List.set_cons_zero, Int.toNat_natCast, Int.toNat_zero, Int.toNat_one, nth_zero, nth_one]; simp only [ik]); rw [HWN.out]) | (((with_reducible refine m_read ?_); refine sched_of rfl rfl (stp_lookup (ev := ik) (k := ((gn : Nat) : Int)) (z := (0 : Int)) 2 Try.underlying81 Try.zeroValue3 keyInt rfl rfl rfl (by with_reducible assumption) ?_); simp only [Act.put, List.setIfInBounds_toArray, List.set_cons_succ, List.set_cons_zero, Int.toNat_natCast, Int.toNat_zero, Int.toNat_one, nth_zero, nth_one]; simp only [ik]); rw [HWG.out]) | ((with_reducible refine m_pure ?_); refine run_pure rfl rfl (fun K hK => ?_); go_simp; refine hK _ ?_; clear hK K))
  simp only [show IntKind.i64.wrap (x1 + x2) = x1 + x2 by rw [IntKind.wrap_i64]; omega]
  refine mut_at rfl ?_
  ((with_reducible refine g_mu (T := 81) ?_); refine seq_mapUpdate (ev := ik) (k := ((nm : Nat) : Int)) (v := x1 + x2) 2 hS Try.underlying81 keyInt rfl rfl rfl rfl (by with_reducible assumption) rfl (fun ou wu hmu hS => ?_); simp only [Act.put, List.setIfInBounds_toArray, List.set_cons_succ, List.set_cons_zero, Int.toNat_natCast, Int.toNat_zero, Int.toNat_one, nth_zero, nth_one]; simp only [List.cons_append, List.nil_append, List.set_cons_succ, List.set_cons_zero, Value.cells, iv_snoc, tv_snoc] at hS)
  refine mut_end ?_
  refine sched_nil ?_
  simp only [NoPanic]
  go_wp2_with (first | ((with_reducible refine g_load (T := 81) ?_); refine seq_of hS rfl (stp_load_blk (T := 81) 4 Try.isAgg81 rfl rfl rfl ?_); simp only [Act.put, List.setIfInBounds_toArray, List.set_cons_succ, List.set_cons_zero, Int.toNat_natCast, Int.toNat_zero, Int.toNat_one, nth_zero, nth_one]) | ((with_reducible refine g_del ?_); refine seq_delete (ev := ik) (k := ((gn : Nat) : Int)) 2 hS Try.underlying81 keyInt rfl rfl rfl (by with_reducible assumption) rfl (fun ou wu hmu hS => ?_); simp only [Act.put, List.setIfInBounds_toArray, List.set_cons_succ, List.set_cons_zero, Int.toNat_natCast, Int.toNat_zero, Int.toNat_one, nth_zero, nth_one]; simp only [List.cons_append, List.nil_append, List.set_cons_succ, List.set_cons_zero, Value.cells, iv_snoc, tv_snoc] at hS) | ((with_reducible refine g_load (T := 22) ?_); refine seq_of hS rfl (stp_load_blk (T := 22) 4 Try.isAgg22 rfl rfl rfl ?_); simp only [Act.put, List.setIfInBounds_toArray, List.set_cons_succ, List.set_cons_zero, Int.toNat_natCast, Int.toNat_zero, Int.toNat_one, nth_zero, nth_one]))
  rw [HMW.out] at hmu
  clear HMW
  have hS := hS.sub (H' := [.frz S w, .row (.slice (some ⟨ad, 0, none⟩) n c) 3 1 n (iv (zs of)), .blk bw ou, .blk bl ol, .blk bs (.cells #[.slice (some ⟨ad, 0, none⟩) n c, .map (some bw), .map (some bl)] 84 (0, 0))]) (by simp)
  simp only [List.getElem_toArray, List.getElem_cons_zero, List.getElem_cons_succ]
  go_loopw [44] (fun i wr => ∃ k : Nat, k ≤ n ∧ i = .int .i64 k ∧ Heap w wr [.frz S w, .row (.slice (some ⟨ad, 0, none⟩) n c) 3 1 n (iv (zs (rowTo of sf si k))), .blk bw ou, .blk bl ol, .blk bs (.cells #[.slice (some ⟨ad, 0, none⟩) n c, .map (some bw), .map (some bl)] 84 (0, 0))]) (fun i _ => n - (intOf i).toNat)
  case atStart => exact ⟨0, by omega, rfl, by rw [rowTo_zero]; exact hS⟩
  case round =>
    clear hS
    obtain ⟨k, hk', rfl, hS⟩ := hrel
    by_cases hlt : k < n
    · have hat : nth 0 (zs (rowTo of sf si k)) k = ((nth 0 of k : Nat) : Int) := by rw [nth_zs, rowTo_at of sf si k (by omega)]
      rcases mrg1_cases sf si (nth 0 of k) with ⟨c1, c2⟩ | ⟨c1, c2⟩
      · have hset : (zs (rowTo of sf si k)).set k (nm : Int) = zs (rowTo of sf si (k + 1)) := by
          rw [← rowTo_set of sf si k (by omega) nm (by rw [c2, HNM.out])]
          simp [zs, List.map_set]
        rw [← HGN.out] at c1
        rw [c1] at hat
        have f1 : (((gn : Nat) : Int) == (gn : Int)) = true := by simp
        have HAT := Lib.hid hat
        have HSET := Lib.hid hset
        clear hat hset c1 c2
        go_wp2_with (first | ((with_reducible refine g_idx (T := 22) ?_); refine seq_any rfl (any_index_at (T := 22) Try.underlying22 Try.sizeOf3 rfl rfl (by omega) (by omega) ?_); simp only [Act.put, List.setIfInBounds_toArray, List.set_cons_succ, List.set_cons_zero, Int.toNat_natCast, Int.toNat_zero, Int.toNat_one, nth_zero, nth_one]; simp only [Nat.zero_add, Int.toNat_natCast]) | (((with_reducible refine g_load (T := 3) ?_); refine seq_of hS rfl (stp_load_row (T := 3) 1 Try.isAgg3 rfl rfl (by omega) ?_); simp only [Act.put, List.setIfInBounds_toArray, List.set_cons_succ, List.set_cons_zero, Int.toNat_natCast, Int.toNat_zero, Int.toNat_one, nth_zero, nth_one]); rw [HAT.out]) | ((with_reducible refine g_load (T := 22) ?_); refine seq_of hS rfl (stp_load_blk (T := 22) 4 Try.isAgg22 rfl rfl rfl ?_); simp only [Act.put, List.setIfInBounds_toArray, List.set_cons_succ, List.set_cons_zero, Int.toNat_natCast, Int.toNat_zero, Int.toNat_one, nth_zero, nth_one]) | ((with_reducible refine g_store (T := 3) ?_); refine seq_store_row (T := 3) 1 hS rfl rfl rfl (by omega) Try.sizeOf3 (fun _ hS => ?_); simp only [Act.put, List.setIfInBounds_toArray, List.set_cons_succ, List.set_cons_zero, Int.toNat_natCast, Int.toNat_zero, Int.toNat_one, nth_zero, nth_one]; simp only [List.cons_append, List.nil_append, List.set_cons_succ, List.set_cons_zero, Value.cells, iv_snoc, tv_snoc] at hS))
        go_roundw
        case rel =>
          rw [HSET.out] at hS
          exact ⟨k + 1, by omega, by go_num, (hS.sub (by repeat (first | exact List.Sublist.refl _ | apply List.Sublist.cons_cons | apply List.Sublist.cons | exact List.nil_sublist _)))⟩
        case measure => simp [intOf]; omega
      · rw [← HGN.out] at c1
        have hkeep := rowTo_keep of sf si k (by omega) c2
        have f1 : (((nth 0 of k : Nat) : Int) == (gn : Int)) = false := by simp; omega
        have HAT := Lib.hid hat
        have HSET := Lib.hid hkeep
        clear hat hkeep c1 c2
        go_wp2_with (first | ((with_reducible refine g_idx (T := 22) ?_); refine seq_any rfl (any_index_at (T := 22) Try.underlying22 Try.sizeOf3 rfl rfl (by omega) (by omega) ?_); simp only [Act.put, List.setIfInBounds_toArray, List.set_cons_succ, List.set_cons_zero, Int.toNat_natCast, Int.toNat_zero, Int.toNat_one, nth_zero, nth_one]; simp only [Nat.zero_add, Int.toNat_natCast]) | (((with_reducible refine g_load (T := 3) ?_); refine seq_of hS rfl (stp_load_row (T := 3) 1 Try.isAgg3 rfl rfl (by omega) ?_); simp only [Act.put, List.setIfInBounds_toArray, List.set_cons_succ, List.set_cons_zero, Int.toNat_natCast, Int.toNat_zero, Int.toNat_one, nth_zero, nth_one]); rw [HAT.out]) | ((with_reducible refine g_load (T := 22) ?_); refine seq_of hS rfl (stp_load_blk (T := 22) 4 Try.isAgg22 rfl rfl rfl ?_); simp only [Act.put, List.setIfInBounds_toArray, List.set_cons_succ, List.set_cons_zero, Int.toNat_natCast, Int.toNat_zero, Int.toNat_one, nth_zero, nth_one]) | ((with_reducible refine g_store (T := 3) ?_); refine seq_store_row (T := 3) 1 hS rfl rfl rfl (by omega) Try.sizeOf3 (fun _ hS => ?_); simp only [Act.put, List.setIfInBounds_toArray, List.set_cons_succ, List.set_cons_zero, Int.toNat_natCast, Int.toNat_zero, Int.toNat_one, nth_zero, nth_one]; simp only [List.cons_append, List.nil_append, List.set_cons_succ, List.set_cons_zero, Value.cells, iv_snoc, tv_snoc] at hS))
        go_roundw
        case rel =>
          rw [← HSET.out] at hS
          exact ⟨k + 1, by omega, by go_num, (hS.sub (by repeat (first | exact List.Sublist.refl _ | apply List.Sublist.cons_cons | apply List.Sublist.cons | exact List.nil_sublist _)))⟩
        case measure => simp [intOf]; omega
    · obtain rfl : k = n := by omega
      have hend : rowTo of sf si k = mrg of sf si := by rw [← hn, rowTo_end]
      rw [hend] at hS
      clear hend
      go_wp2_with (first | ((with_reducible refine g_mm (T := 82) ?_); refine seq_makeMap hS (fun bn wbn hS => ?_); simp only [Act.put, List.setIfInBounds_toArray, List.set_cons_succ, List.set_cons_zero, Int.toNat_natCast, Int.toNat_zero, Int.toNat_one, nth_zero, nth_one]; simp only [List.cons_append, List.nil_append, List.set_cons_succ, List.set_cons_zero, Value.cells, iv_snoc, tv_snoc] at hS) | ((with_reducible refine g_load (T := 82) ?_); refine seq_of hS rfl (stp_load_blk (T := 82) 4 Try.isAgg82 rfl rfl rfl ?_); simp only [Act.put, List.setIfInBounds_toArray, List.set_cons_succ, List.set_cons_zero, Int.toNat_natCast, Int.toNat_zero, Int.toNat_one, nth_zero, nth_one]) | ((with_reducible refine g_rng (T := 82) ?_); refine seq_range 3 hS Try.underlying82 rfl rfl (by with_reducible assumption) rfl (fun bi obi wbi hit hS => ?_); simp only [Act.put, List.setIfInBounds_toArray, List.set_cons_succ, List.set_cons_zero, Int.toNat_natCast, Int.toNat_zero, Int.toNat_one, nth_zero, nth_one]; simp only [List.cons_append, List.nil_append, List.set_cons_succ, List.set_cons_zero, Value.cells, iv_snoc, tv_snoc] at hS))
      have hOl : (mrg of sf si).length = k := by rw [mrg_len, hn]
      generalize hOe : mrg of sf si = O at hl1 hS hOl
      have HO := Lib.hid hOe
      clear hOe
      have hm1 := MapIs.empty pk ik
      simp only [List.getElem_toArray, List.getElem_cons_zero, List.getElem_cons_succ]
      go_loopw [67] (fun _ wr => ∃ (d : List ((Nat × Nat) × Int)) (oi on : Obj), ItIs pk ik bl ol oi ll d ∧ MapIs pk ik on (foldLen O [] d) ∧ Heap w wr [.frz S w, .row (.slice (some ⟨ad, 0, none⟩) k c) 3 1 k (iv (zs O)), .blk bw ou, .blk bl ol, .blk bs (.cells #[.slice (some ⟨ad, 0, none⟩) k c, .map (some bw), .map (some bl)] 84 (0, 0)), .blk bn on, .blk bi oi]) (fun _ wr => ll.length - itSize wr bi)
      case atStart => exact ⟨[], _, _, hit, hm1, hS⟩
      case round =>
        clear hS hit hm1
        obtain ⟨d, oi, on, hit, hmn, hS⟩ := hrel
        have hsz := itSize_eq hit (hS.blk (b := bi) (o := oi) (by simp))
        have hdl := itLen hit
        repeat ((fail_if_success ((with_reducible refine g_nxt ?_))); go_step)
        ((with_reducible refine g_nxt ?_); refine seq_next 3 6 hS rfl rfl rfl (by with_reducible assumption) rfl (fun hover => ?_) (fun kk vv oi' w' hkl hkd hit' hS => ?_) <;> (simp only [Act.put, List.setIfInBounds_toArray, List.set_cons_succ, List.set_cons_zero, Int.toNat_natCast, Int.toNat_zero, Int.toNat_one, nth_zero, nth_one]; try simp only [List.cons_append, List.nil_append, List.set_cons_succ, List.set_cons_zero, Value.cells, iv_snoc, tv_snoc] at hS))
        · go_wp2_with (first | ((with_reducible refine g_store (T := 82) ?_); refine seq_store (T := 82) (u := .map _) 4 hS rfl rfl rfl Try.sizeOf82 (by simp [Value.cells, Value.oneCell']) (by simp [Value.cells]) (fun _ hS => ?_); simp only [Act.put, List.setIfInBounds_toArray, List.set_cons_succ, List.set_cons_zero, Int.toNat_natCast, Int.toNat_zero, Int.toNat_one, nth_zero, nth_one]; simp only [List.cons_append, List.nil_append, List.set_cons_succ, List.set_cons_zero, Value.cells, iv_snoc, tv_snoc] at hS; simp only [List.take_zero, List.nil_append, List.append_nil, List.drop_succ_cons, List.drop_zero, List.drop_nil, List.take_succ_cons, List.cons_append, List.size_toArray, List.length_cons, List.length_nil, Nat.reduceAdd] at hS))
          refine bodyPost_end (results_none rfl _ _ _) rfl ⟨rfl, bn, ou, on, d, hover, hmu, by rw [HO.out]; exact hmn, ?_⟩
          rw [HO.out]
          exact hS.pick5
        · obtain ⟨hk1, hk2⟩ := hk _ hkl
          have hdl' := itLen hit'
          simp only [List.length_append, List.length_cons, List.length_nil] at hdl'
          obtain ⟨hnd, hsub⟩ := itSub hit'
          have hsn := foldLen_snoc O kk vv d []
          have hbn := hl1 _ hnd hsub (key (nth 0 O kk.1) (nth 0 O kk.2))
          simp only at hk1 hk2
          have hx := nth_zs O kk.1
          have hy := nth_zs O kk.2
          generalize nth 0 O kk.1 = x at hx hsn hbn
          generalize nth 0 O kk.2 = y at hy hsn hbn
          have HX := Lib.hid hx
          have HY := Lib.hid hy
          clear hx hy hnd hsub
          by_cases hxy : x = y
          · have f1 : (((x : Nat) : Int) == (y : Int)) = true := by simp [hxy]
            rw [if_pos hxy] at hsn
            have HSN := Lib.hid hsn
            clear hsn hbn hxy
            go_wp2_with (first | ((with_reducible refine g_ent ?_); refine seq_of hS rfl (stp_entry 3 6 rfl rfl rfl (by with_reducible assumption) ?_); simp only [Act.put, List.setIfInBounds_toArray, List.set_cons_succ, List.set_cons_zero, Int.toNat_natCast, Int.toNat_zero, Int.toNat_one, nth_zero, nth_one]; simp only [pk, ik]) | ((with_reducible refine g_alloc (T := 107) ?_); refine seq_alloc (T := 107) hS Try.zeroValue107 (fun b9 wb9 hS => ?_); simp only [Act.put, List.setIfInBounds_toArray, List.set_cons_succ, List.set_cons_zero, Int.toNat_natCast, Int.toNat_zero, Int.toNat_one, nth_zero, nth_one]; simp only [List.cons_append, List.nil_append, List.set_cons_succ, List.set_cons_zero, Value.cells, iv_snoc, tv_snoc] at hS) | ((with_reducible refine g_store (T := 107) ?_); refine seq_store (T := 107) (u := .agg _) 7 hS rfl rfl rfl Try.sizeOf107 (by simp [Value.cells, Value.oneCell']) (by simp [Value.cells]) (fun _ hS => ?_); simp only [Act.put, List.setIfInBounds_toArray, List.set_cons_succ, List.set_cons_zero, Int.toNat_natCast, Int.toNat_zero, Int.toNat_one, nth_zero, nth_one]; simp only [List.cons_append, List.nil_append, List.set_cons_succ, List.set_cons_zero, Value.cells, iv_snoc, tv_snoc] at hS; simp only [List.take_zero, List.nil_append, List.append_nil, List.drop_succ_cons, List.drop_zero, List.drop_nil, List.take_succ_cons, List.cons_append, List.size_toArray, List.length_cons, List.length_nil, Nat.reduceAdd] at hS))
            refine wp_region_sched [.pure 0, .pure 1, .pure 2, .read 3, .pure 4, .read 5, .pure 6, .read 7, .pure 8, .pure 9, .pure 10, .read 11, .pure 12, .read 13, .pure 14, .read 15, .pure 16, .mutt 17] [17] (fun w' => Heap w w' _) (by kernel_rfl) (by kernel_rfl) hS.drew (fun w1 hS => ?_)
            repeat (first | ((first | ((with_reducible refine m_pure ?_); refine skip_pure rfl rfl ?_) | ((with_reducible refine m_read ?_); refine skip_read rfl rfl ?_)); simp only [Act.put, List.setIfInBounds_toArray, List.set_cons_succ, List.set_cons_zero, Int.toNat_natCast, Int.toNat_zero, Int.toNat_one, nth_zero, nth_one]) | ((with_reducible refine m_read ?_); refine sched_of rfl rfl (stp_load_blk (T := 22) 4 Try.isAgg22 rfl rfl rfl ?_); simp only [Act.put, List.setIfInBounds_toArray, List.set_cons_succ, List.set_cons_zero, Int.toNat_natCast, Int.toNat_zero, Int.toNat_one, nth_zero, nth_one]) | ((with_reducible refine m_read ?_); refine sched_of rfl rfl (stp_load_blk (T := 3) 7 Try.isAgg3 rfl rfl rfl ?_); simp only [Act.put, List.setIfInBounds_toArray, List.set_cons_succ, List.set_cons_zero, Int.toNat_natCast, Int.toNat_zero, Int.toNat_one, nth_zero, nth_one]) | ((with_reducible refine m_pure ?_); refine sched_any rfl rfl (any_index_at (T := 22) Try.underlying22 Try.sizeOf3 rfl rfl (by omega) (by omega) ?_); simp only [Act.put, List.setIfInBounds_toArray, List.set_cons_succ, List.set_cons_zero, Int.toNat_natCast, Int.toNat_zero, Int.toNat_one, nth_zero, nth_one]; simp only [Nat.zero_add, Int.toNat_natCast]) | (((with_reducible refine m_read ?_); refine sched_of rfl rfl (stp_load_row (T := 3) 1 Try.isAgg3 rfl rfl (by omega) ?_); simp only [Act.put, List.setIfInBounds_toArray, List.set_cons_succ, List.set_cons_zero, Int.toNat_natCast, Int.toNat_zero, Int.toNat_one, nth_zero, nth_one]); first | rw [HX.out] | rw [HY.out]) | ((with_reducible refine m_pure ?_); refine run_pure rfl rfl (fun K hK => ?_); go_simp; refine hK _ ?_; clear hK K))
            refine mut_at rfl ?_
            ((with_reducible refine g_store (T := 107) ?_); refine seq_store (T := 107) (u := .agg _) 7 hS rfl rfl rfl Try.sizeOf107 (by simp [Value.cells, Value.oneCell']) (by simp [Value.cells]) (fun _ hS => ?_); simp only [Act.put, List.setIfInBounds_toArray, List.set_cons_succ, List.set_cons_zero, Int.toNat_natCast, Int.toNat_zero, Int.toNat_one, nth_zero, nth_one]; simp only [List.cons_append, List.nil_append, List.set_cons_succ, List.set_cons_zero, Value.cells, iv_snoc, tv_snoc] at hS; simp only [List.take_zero, List.nil_append, List.append_nil, List.drop_succ_cons, List.drop_zero, List.drop_nil, List.take_succ_cons, List.cons_append, List.size_toArray, List.length_cons, List.length_nil, Nat.reduceAdd] at hS)
            refine mut_end ?_
            refine sched_nil ?_
            simp only [NoPanic]
            go_wp2_with (first | ((with_reducible refine g_load (T := 3) ?_); refine seq_of hS rfl (stp_load_blk (T := 3) 7 Try.isAgg3 rfl rfl rfl ?_); simp only [Act.put, List.setIfInBounds_toArray, List.set_cons_succ, List.set_cons_zero, Int.toNat_natCast, Int.toNat_zero, Int.toNat_one, nth_zero, nth_one]))
            go_roundw
            case rel =>
              refine ⟨d ++ [(kk, vv)], oi', _, hit', ?_, (hS.sub (by repeat (first | exact List.Sublist.refl _ | apply List.Sublist.cons_cons | apply List.Sublist.cons | exact List.nil_sublist _)))⟩
              rw [HSN.out]
              assumption
            case measure =>
              have hsz' := itSize_eq hit' (hS.blk (b := bi) (o := oi') (by simp))
              simp only [List.length_append, List.length_cons, List.length_nil] at hsz'
              simp only [hsz, hsz']
              omega
          · have f1 : (((x : Nat) : Int) == (y : Int)) = false := by simp; omega
            rw [if_neg hxy] at hsn
            rw [hsn, getL_putL, if_pos rfl] at hbn
            generalize hu : (getL (foldLen O [] d) (key x y)).getD 0 = u at hsn hbn
            simp only [Option.getD_some] at hbn
            have hbn2 := hbn
            unfold InI at hbn2
            have HSN := Lib.hid hsn
            have HU := Lib.hid hu
            clear hsn hbn hu hxy
            go_wp2_with (first | ((with_reducible refine g_ent ?_); refine seq_of hS rfl (stp_entry 3 6 rfl rfl rfl (by with_reducible assumption) ?_); simp only [Act.put, List.setIfInBounds_toArray, List.set_cons_succ, List.set_cons_zero, Int.toNat_natCast, Int.toNat_zero, Int.toNat_one, nth_zero, nth_one]; simp only [pk, ik]) | ((with_reducible refine g_alloc (T := 107) ?_); refine seq_alloc (T := 107) hS Try.zeroValue107 (fun b9 wb9 hS => ?_); simp only [Act.put, List.setIfInBounds_toArray, List.set_cons_succ, List.set_cons_zero, Int.toNat_natCast, Int.toNat_zero, Int.toNat_one, nth_zero, nth_one]; simp only [List.cons_append, List.nil_append, List.set_cons_succ, List.set_cons_zero, Value.cells, iv_snoc, tv_snoc] at hS) | ((with_reducible refine g_store (T := 107) ?_); refine seq_store (T := 107) (u := .agg _) 7 hS rfl rfl rfl Try.sizeOf107 (by simp [Value.cells, Value.oneCell']) (by simp [Value.cells]) (fun _ hS => ?_); simp only [Act.put, List.setIfInBounds_toArray, List.set_cons_succ, List.set_cons_zero, Int.toNat_natCast, Int.toNat_zero, Int.toNat_one, nth_zero, nth_one]; simp only [List.cons_append, List.nil_append, List.set_cons_succ, List.set_cons_zero, Value.cells, iv_snoc, tv_snoc] at hS; simp only [List.take_zero, List.nil_append, List.append_nil, List.drop_succ_cons, List.drop_zero, List.drop_nil, List.take_succ_cons, List.cons_append, List.size_toArray, List.length_cons, List.length_nil, Nat.reduceAdd] at hS))
            refine wp_region_sched [.pure 0, .pure 1, .pure 2, .read 3, .pure 4, .read 5, .pure 6, .read 7, .pure 8, .pure 9, .pure 10, .read 11, .pure 12, .read 13, .pure 14, .read 15, .pure 16, .mutt 17] [17] (fun w' => Heap w w' _) (by kernel_rfl) (by kernel_rfl) hS.drew (fun w1 hS => ?_)
            repeat (first | ((first | ((with_reducible refine m_pure ?_); refine skip_pure rfl rfl ?_) | ((with_reducible refine m_read ?_); refine skip_read rfl rfl ?_)); simp only [Act.put, List.setIfInBounds_toArray, List.set_cons_succ, List.set_cons_zero, Int.toNat_natCast, Int.toNat_zero, Int.toNat_one, nth_zero, nth_one]) | ((with_reducible refine m_read ?_); refine sched_of rfl rfl (stp_load_blk (T := 22) 4 Try.isAgg22 rfl rfl rfl ?_); simp only [Act.put, List.setIfInBounds_toArray, List.set_cons_succ, List.set_cons_zero, Int.toNat_natCast, Int.toNat_zero, Int.toNat_one, nth_zero, nth_one]) | ((with_reducible refine m_read ?_); refine sched_of rfl rfl (stp_load_blk (T := 3) 7 Try.isAgg3 rfl rfl rfl ?_); simp only [Act.put, List.setIfInBounds_toArray, List.set_cons_succ, List.set_cons_zero, Int.toNat_natCast, Int.toNat_zero, Int.toNat_one, nth_zero, nth_one]) | ((with_reducible refine m_pure ?_); refine sched_any rfl rfl (any_index_at (T := 22) Try.underlying22 Try.sizeOf3 rfl rfl (by omega) (by omega) ?_); simp only [Act.put, List.setIfInBounds_toArray, List.set_cons_succ, List.set_cons_zero, Int.toNat_natCast, Int.toNat_zero, Int.toNat_one, nth_zero, nth_one]; simp only [Nat.zero_add, Int.toNat_natCast]) | (((with_reducible refine m_read ?_); refine sched_of rfl rfl (stp_load_row (T := 3) 1 Try.isAgg3 rfl rfl (by omega) ?_); simp only [Act.put, List.setIfInBounds_toArray, List.set_cons_succ, List.set_cons_zero, Int.toNat_natCast, Int.toNat_zero, Int.toNat_one, nth_zero, nth_one]); first | rw [HX.out] | rw [HY.out]) | ((with_reducible refine m_pure ?_); refine run_pure rfl rfl (fun K hK => ?_); go_simp; refine hK _ ?_; clear hK K))
            refine mut_at rfl ?_
            ((with_reducible refine g_store (T := 107) ?_); refine seq_store (T := 107) (u := .agg _) 7 hS rfl rfl rfl Try.sizeOf107 (by simp [Value.cells, Value.oneCell']) (by simp [Value.cells]) (fun _ hS => ?_); simp only [Act.put, List.setIfInBounds_toArray, List.set_cons_succ, List.set_cons_zero, Int.toNat_natCast, Int.toNat_zero, Int.toNat_one, nth_zero, nth_one]; simp only [List.cons_append, List.nil_append, List.set_cons_succ, List.set_cons_zero, Value.cells, iv_snoc, tv_snoc] at hS; simp only [List.take_zero, List.nil_append, List.append_nil, List.drop_succ_cons, List.drop_zero, List.drop_nil, List.take_succ_cons, List.cons_append, List.size_toArray, List.length_cons, List.length_nil, Nat.reduceAdd] at hS)
            refine mut_end ?_
            refine sched_nil ?_
            simp only [NoPanic]
            go_wp2_with (first | ((with_reducible refine g_load (T := 3) ?_); refine seq_of hS rfl (stp_load_blk (T := 3) 7 Try.isAgg3 rfl rfl rfl ?_); simp only [Act.put, List.setIfInBounds_toArray, List.set_cons_succ, List.set_cons_zero, Int.toNat_natCast, Int.toNat_zero, Int.toNat_one, nth_zero, nth_one]))
            obtain ⟨C, hC⟩ : ∃ C : World → Prop, ∀ w', C w' ↔ ∃ l2 o2, (getL l2 (key x y)).getD 0 = u ∧ MapIs pk ik o2 l2 ∧ Heap w w' [.frz S w, .row (.slice (some ⟨ad, 0, none⟩) k c) 3 1 k (iv (zs O)), .blk bw ou, .blk bl ol, .blk bs (.cells #[.slice (some ⟨ad, 0, none⟩) k c, .map (some bw), .map (some bl)] 84 (0, 0)), .blk bn o2, .blk bi oi', .blk b9 (.cells #[.int .i64 x, .int .i64 y] 107 (0, 0))] := ⟨_, fun _ => Iff.rfl⟩
            have HB : ∀ w', C w' → w'.heap[b9]? = some (.cells #[.int .i64 x, .int .i64 y] 107 (0, 0)) := fun w' h => by obtain ⟨l2, o2, _, _, hS⟩ := (hC w').1 h; exact hS.blk (by simp)
            have HLk : ∀ w', C w' → ∃ o l, w'.heap[bn]? = some o ∧ MapIs pk ik o l ∧ (getL l (key x y)).getD 0 = u := fun w' h => by obtain ⟨l2, o2, h1, h2, hS⟩ := (hC w').1 h; exact ⟨o2, l2, hS.blk (by simp), h2, h1⟩
            refine wp_region_sched0 [.pure 0, .pure 1, .read 2, .pure 3, .read 4, .pure 5, .pure 6, .read 7, .pure 8, .read 9, .pure 10, .pure 11, .read 12, .pure 13, .pure 14, .ext 15, .pure 16, .mutt 17] [17] C (by kernel_rfl) (by kernel_rfl) ((hC _).2 ⟨_, _, HU.out, hmn, hS.drew⟩) ?_
            have hS := hS.drew
            repeat (first | ((first | ((with_reducible refine m_pure ?_); refine skip_pure rfl rfl ?_) | ((with_reducible refine m_read ?_); refine skip_read rfl rfl ?_)); simp only [Act.put, List.setIfInBounds_toArray, List.set_cons_succ, List.set_cons_zero, Int.toNat_natCast, Int.toNat_zero, Int.toNat_one, nth_zero, nth_one]) | ((with_reducible refine m_read ?_); refine sched_loadC (T := 3) rfl rfl Try.isAgg3 rfl HB rfl ?_; simp only [Act.put, List.setIfInBounds_toArray, List.set_cons_succ, List.set_cons_zero, Int.toNat_natCast, Int.toNat_zero, Int.toNat_one, nth_zero, nth_one]) | ((with_reducible refine m_read ?_); refine sched_lookupC (ev := ik) (k := key x y) (z := (0 : Int)) rfl rfl Try.underlying82 Try.zeroValue3 keyPair rfl (pk_key x y).symm HLk ?_; simp only [Act.put, List.setIfInBounds_toArray, List.set_cons_succ, List.set_cons_zero, Int.toNat_natCast, Int.toNat_zero, Int.toNat_one, nth_zero, nth_one]; simp only [ik]) | ((with_reducible refine m_pure ?_); refine run_pure rfl rfl (fun K hK => ?_); go_simp; refine hK _ ?_; clear hK K))
            simp only [show IntKind.i64.wrap (u + vv) = u + vv by rw [IntKind.wrap_i64]; omega]
            refine ext_at rfl ?_
            ((with_reducible refine g_me (T := 82) ?_); refine seq_mapEntry (ev := ik) (k := key x y) (z := (0 : Int)) 5 hS Try.underlying82 Try.zeroValue3 keyPair rfl (pk_key x y).symm rfl (by with_reducible assumption) rfl (fun oe we st hme hst hS => ?_); simp only [Act.put, List.setIfInBounds_toArray, List.set_cons_succ, List.set_cons_zero, Int.toNat_natCast, Int.toNat_zero, Int.toNat_one, nth_zero, nth_one]; simp only [List.cons_append, List.nil_append, List.set_cons_succ, List.set_cons_zero, Value.cells, iv_snoc, tv_snoc] at hS; simp only [ik])
            refine ext_end ((hC _).2 ⟨_, _, by rw [getL_putL, if_pos rfl]; exact HU.out, hme, hS⟩) ?_
            repeat (first | ((first | ((with_reducible refine m_pure ?_); refine skip_pure rfl rfl ?_) | ((with_reducible refine m_read ?_); refine skip_read rfl rfl ?_)); simp only [Act.put, List.setIfInBounds_toArray, List.set_cons_succ, List.set_cons_zero, Int.toNat_natCast, Int.toNat_zero, Int.toNat_one, nth_zero, nth_one]) | fail | ((with_reducible refine m_pure ?_); refine run_pure rfl rfl (fun K hK => ?_); go_simp; refine hK _ ?_; clear hK K))
            refine mut_at rfl ?_
            ((with_reducible refine g_es (T := 82) ?_); refine seq_entryStore (ev := ik) (v := u + vv) 5 hS pk_inj rfl rfl rfl rfl (by with_reducible assumption) (by with_reducible assumption) rfl (fun ou wu hmu hS => ?_); simp only [Act.put, List.setIfInBounds_toArray, List.set_cons_succ, List.set_cons_zero, Int.toNat_natCast, Int.toNat_zero, Int.toNat_one, nth_zero, nth_one]; simp only [List.cons_append, List.nil_append, List.set_cons_succ, List.set_cons_zero, Value.cells, iv_snoc, tv_snoc] at hS)
            refine mut_end ?_
            refine sched_nil ?_
            simp only [NoPanic]
            go_wp2
            go_roundw
            case rel =>
              refine ⟨d ++ [(kk, vv)], oi', _, hit', ?_, (hS.sub (by repeat (first | exact List.Sublist.refl _ | apply List.Sublist.cons_cons | apply List.Sublist.cons | exact List.nil_sublist _)))⟩
              rw [HSN.out]
              assumption
            case measure =>
              have hsz' := itSize_eq hit' (hS.blk (b := bi) (o := oi') (by simp))
              simp only [List.length_append, List.length_cons, List.length_nil] at hsz'
              simp only [hsz, hsz']
              omega
end Go.Proofs.Ytdibpfbibgicaaa
