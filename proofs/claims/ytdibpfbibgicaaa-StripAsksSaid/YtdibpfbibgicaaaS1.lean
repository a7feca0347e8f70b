import Derived.Test.YtdibpfbibgicaaaRows
import Derived.Test.YtdibpfbibgicaaaBase1
import Derived.Test.YtdibpfbibgicaaaF1
namespace Go.Proofs.Ytdibpfbibgicaaa
open Go.RowKit Go.Hp
set_option linter.unusedVariables false
set_option linter.unusedSimpArgs false
theorem take_eq_succ {xs ys : List Int} {k : Nat} (h1 : k < xs.length) (h2 : k < ys.length) (ht : xs.take k = ys.take k) (he : nth 0 xs k = nth 0 ys k) : xs.take (k+1) = ys.take (k+1) := by
  rw [List.take_succ_eq_append_getElem h1, List.take_succ_eq_append_getElem h2, ht, ← nth_eq 0 xs k h1, ← nth_eq 0 ys k h2, he]
set_option maxHeartbeats 400000 in
theorem sameInts_any (a b : Option Addr) (c d n m : Nat) (xs ys : List Int) (w : World) (hx : Ints w (Old w) (.slice a n c) xs) (hy : Ints w (Old w) (.slice b m d) ys) :
    Calls Try.prog 18 #[.slice a n c, .slice b m d] w fun e w' => e = .returned (.bool (decide (xs = ys))) ∧ Below w.heap.size w w' := by
  have hl1 := hx.le
  have hl2 := hy.le
  obtain ⟨n, rfl⟩ : ∃ k, k = n := ⟨_, rfl⟩
  have hn := hx.len
  have hm := hy.len
  subst hn hm
  by_cases hl : xs.length = ys.length
  · have HL := Lib.hid hl
    have hne : ((xs.length : Int) != (ys.length : Int)) = false := by simp [hl]
    clear hl
    go_enter Try.func18, Try.ntmps18
    go_wp2
    go_loopw [5] (fun i wr => ∃ k : Nat, k ≤ xs.length ∧ i = .int .i64 k ∧ xs.take k = ys.take k ∧ Heap w wr [.frz (Old w) w]) (fun i _ => xs.length - (intOf i).toNat)
    case atStart => exact ⟨0, Nat.zero_le _, rfl, rfl, Heap.start w⟩
    case round =>
      obtain ⟨k, hk, rfl, ht, hS⟩ := hrel
      have HT := Lib.hid ht
      clear ht
      by_cases hlt : k < xs.length
      · have hlt2 : k < ys.length := by have := HL.out; omega
        go_wp2
        refine wp_region_sched [.pure 0, .pure 1, .pure 2, .read 3, .pure 4, .pure 5, .pure 6, .read 7, .pure 8] [] (fun w' => Heap w w' [.frz (Old w) w]) (by kernel_rfl) (by kernel_rfl) hS.drew (fun w1 hS => ?_)
        repeat (first | ((first | ((with_reducible refine m_pure ?_); refine skip_pure rfl rfl ?_) | ((with_reducible refine m_read ?_); refine skip_read rfl rfl ?_)); simp only [Act.put, List.setIfInBounds_toArray, List.set_cons_succ, List.set_cons_zero, Int.toNat_natCast, Int.toNat_zero, Int.toNat_one, nth_zero, nth_one]) | ((with_reducible refine m_pure ?_); refine sched_any rfl rfl (any_index_int (T := 22) Try.underlying22 Try.sizeOf3 rfl rfl (by with_reducible assumption) (by omega) (by omega) (fun _ _ _ => ?_)); simp only [Act.put, List.setIfInBounds_toArray, List.set_cons_succ, List.set_cons_zero, Int.toNat_natCast, Int.toNat_zero, Int.toNat_one, nth_zero, nth_one]) | ((with_reducible refine m_pure ?_); refine sched_any rfl rfl (any_index_nat (T := 22) Try.underlying22 Try.sizeOf3 rfl rfl (by with_reducible assumption) (by omega) (by omega) (fun _ _ _ => ?_)); simp only [Act.put, List.setIfInBounds_toArray, List.set_cons_succ, List.set_cons_zero, Int.toNat_natCast, Int.toNat_zero, Int.toNat_one, nth_zero, nth_one]) | ((with_reducible refine m_pure ?_); refine sched_any rfl rfl (any_index_tri (T := 23) Try.underlying23 Try.sizeOf55 rfl rfl (by with_reducible assumption) (by omega) (by omega) (fun _ _ _ => ?_)); simp only [Act.put, List.setIfInBounds_toArray, List.set_cons_succ, List.set_cons_zero, Int.toNat_natCast, Int.toNat_zero, Int.toNat_one, nth_zero, nth_one]) | ((with_reducible refine m_read ?_); refine sched_of rfl rfl (stp_load (T := 3) Try.isAgg3 rfl (by with_reducible assumption) (by simp) rfl ?_); simp only [Act.put, List.setIfInBounds_toArray, List.set_cons_succ, List.set_cons_zero, Int.toNat_natCast, Int.toNat_zero, Int.toNat_one, nth_zero, nth_one]) | ((with_reducible refine m_read ?_); refine sched_of rfl rfl (stp_loadj (T := 3) 1 Try.isAgg3 rfl (by with_reducible assumption) (by simp) rfl ?_); simp only [Act.put, List.setIfInBounds_toArray, List.set_cons_succ, List.set_cons_zero, Int.toNat_natCast, Int.toNat_zero, Int.toNat_one, nth_zero, nth_one]) | ((with_reducible refine m_read ?_); refine sched_of rfl rfl (stp_loadj (T := 3) 2 Try.isAgg3 rfl (by with_reducible assumption) (by simp) rfl ?_); simp only [Act.put, List.setIfInBounds_toArray, List.set_cons_succ, List.set_cons_zero, Int.toNat_natCast, Int.toNat_zero, Int.toNat_one, nth_zero, nth_one]) | ((with_reducible refine m_read ?_); refine sched_of rfl rfl (stp_load_blk (T := 3) 1 Try.isAgg3 rfl rfl rfl ?_); simp only [Act.put, List.setIfInBounds_toArray, List.set_cons_succ, List.set_cons_zero, Int.toNat_natCast, Int.toNat_zero, Int.toNat_one, nth_zero, nth_one]) | ((with_reducible refine m_read ?_); refine sched_of rfl rfl (stp_load_blk (T := 3) 2 Try.isAgg3 rfl rfl rfl ?_); simp only [Act.put, List.setIfInBounds_toArray, List.set_cons_succ, List.set_cons_zero, Int.toNat_natCast, Int.toNat_zero, Int.toNat_one, nth_zero, nth_one]) | ((with_reducible refine m_pure ?_); refine run_pure rfl rfl (fun K hK => ?_); go_simp; refine hK _ ?_; clear hK K))
        refine sched_nil ?_
        simp only [NoPanic]
        by_cases he : nth 0 xs k = nth 0 ys k
        · have he' : (nth 0 xs k != nth 0 ys k) = false := by simp [he]
          have HE := Lib.hid he
          clear he
          go_wp2
          go_roundw
          case rel => exact ⟨k + 1, by omega, by go_num, take_eq_succ hlt hlt2 HT.out HE.out, hS⟩
          case measure => simp [intOf]; omega
        · have he' : (nth 0 xs k != nth 0 ys k) = true := by simp [he]
          go_wp2
          go_ret
          refine ⟨?_, hS.toBelow (by simp)⟩
          have : xs ≠ ys := fun e => he (by rw [e])
          simp [this]
      · go_wp2
        go_ret
        refine ⟨?_, hS.toBelow (by simp)⟩
        have h1 := HT.out
        rw [List.take_of_length_le (by omega), List.take_of_length_le (by have := HL.out; omega)] at h1
        simp [h1]
  · have hne : ((xs.length : Int) != (ys.length : Int)) = true := by simp; omega
    go_enter Try.func18, Try.ntmps18
    go_wp2
    go_ret
    refine ⟨?_, Below.refl _ _⟩
    have : xs ≠ ys := fun e => hl (by rw [e])
    simp [this]
end Go.Proofs.Ytdibpfbibgicaaa
