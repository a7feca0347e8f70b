/- P30: C1, P3, joined. -/
import Derived.Test.YtdibpfbibgicaaaV789
import Derived.Test.YtdibpfbibgicaaaF6
import Derived.Test.YtdibpfbibgicaaaP12
set_option linter.unusedVariables false
set_option linter.unusedSimpArgs false
/- C1: strip.Collapse$1: the next merge. -/
namespace Go.Hp
open Go Go.RowKit
theorem Heap.last5 {w0 w : World} {c0 c1 c2 c3 c4 d0 d1 d2 d3 e : Chunk} (h : Heap w0 w [c0, c1, c2, c3, c4, d0, d1, d2, d3, e]) : Heap w0 w ([c0, c1, c2, c3, c4, e] ++ [d0, d1, d2, d3]) :=
  h.perm ((((((List.perm_append_singleton e [d0, d1, d2, d3]).symm.cons c4).cons c3).cons c2).cons c1).cons c0)
theorem Heap.toFront {w0 w : World} {H : List Chunk} {c : Chunk} (h : Heap w0 w (H ++ [c])) : Heap w0 w (c :: H) := h.perm (List.perm_append_singleton c H).symm
end Go.Hp
namespace Go.Proofs.Ytdibpfbibgicaaa
open Go.RowKit Go.Hp

theorem Try.info74 : (Try.prog.info? 74).map (fun i => (i.zero, i.size, i.bytes)) = some (some (.agg #[.int .i64 0, .int .i64 0, .int .i64 0, .int .i64 0]), 4, 32) := by kernel_rfl

/-- The cells of strips. -/
def sv (l : List Str) : List Value := l.flatMap fun s => (strA s).toList
theorem sv_snoc (l : List Str) (s : Str) : sv l ++ [.int .i64 s.face, .int .i64 s.a, .int .i64 s.b, .int .i64 s.into] = sv (l ++ [s]) := by simp [sv, strA]
theorem sv_len (l : List Str) : (sv l).length = l.length * 4 := by
  induction l with
  | nil => rfl
  | cons s l ih => simp only [sv, List.flatMap_cons, List.length_append, List.length_cons] at ih ⊢; rw [ih]; simp [strA]; omega

/-- What the merges of a list leave of the groups. -/
def runOf (of : List Nat) : List Str → List Nat
  | [] => of
  | s :: l => runOf (mrg of s.face s.into) l

theorem nextFrom_head {W : List Int} {N : List Tri} {of : List Nat} {most : Int} : ∀ (k i : Nat) {s : Str}, nextFrom W N of most k i = some s → ∃ j, i ≤ j ∧ j < i + k ∧ first W N of j most = some s
  | 0, i, s, h => by cases h
  | k + 1, i, s, h => by
    simp only [nextFrom] at h
    cases hf : first W N of i most with
    | some s' => rw [hf] at h; cases h; exact ⟨i, Nat.le_refl _, by omega, hf⟩
    | none =>
      rw [hf] at h
      obtain ⟨j, h1, h2, h3⟩ := nextFrom_head k (i + 1) h
      exact ⟨j, by omega, by omega, h3⟩

/-- What a strip of the model is. -/
theorem first_is {W : List Int} {N : List Tri} {of : List Nat} {g : Nat} {most : Int} {s : Str} (h : first W N of g most = some s) :
    s.face = g ∧ nth 0 of g = g ∧ g ≠ nth 0 of 0 ∧ s.a ∈ nears N of g ∧ s.b ∈ nears N of g ∧ (s.into = s.a ∨ s.into = s.b) ∧ nears N of g = [s.a, s.b] ∧ weight W of g < most ∧ (s.into = if common N of g s.a < common N of g s.b then s.b else s.a) := by
  unfold first at h
  split at h
  · rename_i hc
    split at h
    · rename_i x y hxy
      cases h
      refine ⟨rfl, hc.1, hc.2.1, by rw [hxy]; simp, by rw [hxy]; simp, ?_, hxy, hc.2.2, rfl⟩
      simp only
      split <;> simp
    · cases h
  · cases h
theorem near_is {N : List Tri} {of : List Nat} {g x : Nat} (h : x ∈ nears N of g) : x < of.length ∧ nth 0 of x = x ∧ x ≠ g ∧ x ≠ nth 0 of 0 ∧ 0 < common N of g x := by
  unfold nears isNear at h
  rw [List.mem_filter, List.mem_range, decide_eq_true_iff] at h
  exact h

/-- The chunks of Collapse: the boxes, the merges so far, the state. -/
def colH (b9 b3 b10 : Nat) (ao : Option Addr) (co : Nat) (most : Int) (out : List Str) (a : Option Addr) (n c bw bl bs : Nat) (of : List Nat) (ow ol : Obj) : List Chunk :=
  .blk b9 (.cells #[.pointer (some ⟨bs, 0, none⟩)] 77 (0, 0)) :: .blk b3 (.cells #[.int .i64 most] 3 (0, 0)) :: .blk b10 (.cells #[.slice ao out.length co] 36 (0, 0)) :: .row (.slice ao out.length co) 74 4 out.length (sv out) :: stH a n c bw bl bs of ow ol

set_option maxHeartbeats 4000000 in
set_option maxRecDepth 100000 in
theorem collapse1_any (S : Nat → Prop) (b9 b3 b10 : Nat) (ao : Option Addr) (co : Nat) (most : Int) (out : List Str) (a : Option Addr) (c bw bl bs : Nat) (W : List Int) (N : List Tri) (of : List Nat) (ow ol : Obj) (lw : List (Int × Int)) (ll : LL) (w : World)
    (hS : Heap w w (.frz S w :: colH b9 b3 b10 ao co most out a W.length c bw bl bs of ow ol)) (hmw : MapIs ik ik ow lw) (hml : MapIs pk ik ol ll) (hv : VG W N) (hgr : Gr W.length of) (h0 : nth 0 of 0 = 0) (hst : StOk W N of lw ll) (hm : InI most) (hol : out.length ≤ 4096) :
    Calls Try.prog 38 #[.pointer (some ⟨b9, 0, none⟩), .pointer (some ⟨b3, 0, none⟩), .pointer (some ⟨b10, 0, none⟩)] w fun e w' =>
      (next W N of most = none ∧ e = .returned (.bool false) ∧ Heap w w' (.frz S w :: colH b9 b3 b10 ao co most out a W.length c bw bl bs of ow ol)) ∨
      (∃ m, next W N of most = some m ∧ e = .returned (.bool true) ∧ ∃ ao' co' bl' ow' ol' lw' ll', MapIs ik ik ow' lw' ∧ MapIs pk ik ol' ll' ∧ StOk W N (mrg of m.face m.into) lw' ll' ∧ Gr W.length (mrg of m.face m.into) ∧
        Heap w w' (.frz S w :: colH b9 b3 b10 ao' co' most (out ++ [m]) a W.length c bw bl' bs (mrg of m.face m.into) ow' ol')) := by
  simp only [colH, stH] at hS
  have hle := hv.wlen
  have hk : ∀ p ∈ ll, p.1.1 ≤ 4096 ∧ p.1.2 ≤ 4096 := fun p hp => by have := hst.l p hp; omega
  have hll := hst.len
  go_enter Try.func38, Try.ntmps38
  go_wp2_with (first | ((with_reducible refine g_load (T := 77) ?_); refine seq_of hS rfl (stp_load_blk (T := 77) 1 Try.isAgg77 rfl rfl rfl ?_); simp only [Act.put, List.setIfInBounds_toArray, List.set_cons_succ, List.set_cons_zero, Int.toNat_natCast, Int.toNat_zero, Int.toNat_one, nth_zero, nth_one]) | ((with_reducible refine g_load (T := 22) ?_); refine seq_of hS rfl (stp_load_blk (T := 22) 8 Try.isAgg22 rfl rfl rfl ?_); simp only [Act.put, List.setIfInBounds_toArray, List.set_cons_succ, List.set_cons_zero, Int.toNat_natCast, Int.toNat_zero, Int.toNat_one, nth_zero, nth_one]))
  simp only [List.getElem_toArray, List.getElem_cons_zero, List.getElem_cons_succ]
  go_loopw [13] (fun i wr => ∃ k : Nat, k ≤ W.length ∧ i = .int .i64 k ∧ Hid (nextFrom W N of most (W.length - k) k = next W N of most) ∧ Heap w wr [.frz S w, .blk b9 (.cells #[.pointer (some ⟨bs, 0, none⟩)] 77 (0, 0)), .blk b3 (.cells #[.int .i64 most] 3 (0, 0)), .blk b10 (.cells #[.slice ao out.length co] 36 (0, 0)), .row (.slice ao out.length co) 74 4 out.length (sv out), .row (.slice a W.length c) 3 1 W.length (iv (zs of)), .blk bw ow, .blk bl ol, .blk bs (.cells #[.slice a W.length c, .map (some bw), .map (some bl)] 84 (0, 0))]) (fun i _ => W.length - (intOf i).toNat)
  case atStart => exact ⟨0, by omega, rfl, by unfold Hid next; rw [hgr.len]; rfl, hS⟩
  case round =>
    clear hS
    obtain ⟨k, hk', rfl, hN, hS⟩ := hrel
    by_cases hlt : k < W.length
    · have hst1 := nextFrom_step (W := W) (N := N) (of := of) (most := most) hlt
      rw [hN.out] at hst1
      obtain ⟨ad, rfl⟩ := hS.rowAt 5 rfl (by omega)
      have hat := nth_zs of k
      have hgl := hgr.lt hlt
      by_cases hh : nth 0 of k = k
      · have hsf := stripL_first hst hv hgr.len h0 hlt hh most
        rw [hh] at hat
        have f1 : (((k : Nat) : Int) == (k : Int)) = true := by simp
        have HAT := Lib.hid hat
        have HH := Lib.hid hh
        clear hat hh
        cases hf : stripL lw ll k most with
        | none =>
          rw [← hsf, hf] at hst1
          have HF := Lib.hid hf
          have HS := Lib.hid hst1
          clear hf hst1 hsf
          go_wp2_with (first | ((with_reducible refine g_idx (T := 22) ?_); refine seq_any rfl (any_index_at (T := 22) Try.underlying22 Try.sizeOf3 rfl rfl (by omega) (by omega) ?_); simp only [Act.put, List.setIfInBounds_toArray, List.set_cons_succ, List.set_cons_zero, Int.toNat_natCast, Int.toNat_zero, Int.toNat_one, nth_zero, nth_one]; simp only [Nat.zero_add, Int.toNat_natCast]) | (((with_reducible refine g_load (T := 3) ?_); refine seq_of hS rfl (stp_load_row (T := 3) 5 Try.isAgg3 rfl rfl (by omega) ?_); simp only [Act.put, List.setIfInBounds_toArray, List.set_cons_succ, List.set_cons_zero, Int.toNat_natCast, Int.toNat_zero, Int.toNat_one, nth_zero, nth_one]); rw [HAT.out]) | ((with_reducible refine g_load (T := 77) ?_); refine seq_of hS rfl (stp_load_blk (T := 77) 1 Try.isAgg77 rfl rfl rfl ?_); simp only [Act.put, List.setIfInBounds_toArray, List.set_cons_succ, List.set_cons_zero, Int.toNat_natCast, Int.toNat_zero, Int.toNat_one, nth_zero, nth_one]) | ((with_reducible refine g_load (T := 3) ?_); refine seq_of hS rfl (stp_load_blk (T := 3) 2 Try.isAgg3 rfl rfl rfl ?_); simp only [Act.put, List.setIfInBounds_toArray, List.set_cons_succ, List.set_cons_zero, Int.toNat_natCast, Int.toNat_zero, Int.toNat_one, nth_zero, nth_one]) | (go_at_call 37; refine (strip_any _ _ _ _ _ _ _ _ _ _ _ _ _ (hS.fz 8 rfl) (hS.fz 6 rfl) hmw (hS.fz 7 rfl) hml hk hll (by omega) hm).mono ?_; rintro e w' ⟨rfl, hB⟩; have hS := hS.below hB; rw [HF.out]; simp only [strV, strA, noStr]) | ((with_reducible refine g_alloc (T := 74) ?_); refine seq_alloc (T := 74) hS Try.zeroValue74 (fun b6 wb6 hS => ?_); simp only [Act.put, List.setIfInBounds_toArray, List.set_cons_succ, List.set_cons_zero, Int.toNat_natCast, Int.toNat_zero, Int.toNat_one, nth_zero, nth_one]; simp only [List.cons_append, List.nil_append, List.set_cons_succ, List.set_cons_zero, Value.cells, iv_snoc, tv_snoc] at hS) | ((with_reducible refine g_store (T := 74) ?_); refine seq_store (T := 74) (u := .agg _) 9 hS rfl rfl rfl Try.sizeOf74 (by simp [Value.cells, Value.oneCell']) (by simp [Value.cells]) (fun _ hS => ?_); simp only [Act.put, List.setIfInBounds_toArray, List.set_cons_succ, List.set_cons_zero, Int.toNat_natCast, Int.toNat_zero, Int.toNat_one, nth_zero, nth_one]; simp only [List.cons_append, List.nil_append, List.set_cons_succ, List.set_cons_zero, Value.cells, iv_snoc, tv_snoc] at hS; simp only [List.take_zero, List.nil_append, List.append_nil, List.drop_succ_cons, List.drop_zero, List.drop_nil, List.take_succ_cons, List.cons_append, List.size_toArray, List.length_cons, List.length_nil, Nat.reduceAdd] at hS))
          go_roundw
          case rel => exact ⟨k + 1, by omega, by go_num, HS.out.symm, (hS.sub (by repeat (first | exact List.Sublist.refl _ | apply List.Sublist.cons_cons | apply List.Sublist.cons | exact List.nil_sublist _)))⟩
          case measure => simp [intOf]; omega
        | some m =>
          rw [← hsf, hf] at hst1
          have HF := Lib.hid hf
          have HS := Lib.hid hst1
          have HM := Lib.hid (hsf.symm.trans hf)
          have hfi := first_is (hsf.symm.trans hf)
          have hni : ∀ x, x ∈ nears N of k → x < of.length ∧ nth 0 of x = x ∧ x ≠ k ∧ x ≠ nth 0 of 0 ∧ 0 < common N of k x := fun x hx => near_is hx
          obtain ⟨e1, e2, e3, e4, e5, e6, e7, e8, e9⟩ := hfi
          have hin : m.into ∈ nears N of k := by rcases e6 with h | h <;> rw [h] <;> assumption
          have hi1 : m.into < W.length := by rw [← hgr.len]; exact (hni _ hin).1
          have hi2 := Lib.hid (hni _ hin).2.1
          have hi3 : m.face ≠ m.into := by rw [e1]; exact fun h => (hni _ hin).2.2.1 h.symm
          have hf1 : m.face < W.length := by omega
          have hf2 : Hid (nth 0 of m.face = m.face) := by unfold Hid; rw [e1]; exact e2
          clear hf hst1 hsf e1 e2 e3 e4 e5 e6 e7 e8 e9 hni hin
          go_wp2_with (first | ((with_reducible refine g_idx (T := 22) ?_); refine seq_any rfl (any_index_at (T := 22) Try.underlying22 Try.sizeOf3 rfl rfl (by omega) (by omega) ?_); simp only [Act.put, List.setIfInBounds_toArray, List.set_cons_succ, List.set_cons_zero, Int.toNat_natCast, Int.toNat_zero, Int.toNat_one, nth_zero, nth_one]; simp only [Nat.zero_add, Int.toNat_natCast]) | (((with_reducible refine g_load (T := 3) ?_); refine seq_of hS rfl (stp_load_row (T := 3) 5 Try.isAgg3 rfl rfl (by omega) ?_); simp only [Act.put, List.setIfInBounds_toArray, List.set_cons_succ, List.set_cons_zero, Int.toNat_natCast, Int.toNat_zero, Int.toNat_one, nth_zero, nth_one]); rw [HAT.out]) | ((with_reducible refine g_load (T := 77) ?_); refine seq_of hS rfl (stp_load_blk (T := 77) 1 Try.isAgg77 rfl rfl rfl ?_); simp only [Act.put, List.setIfInBounds_toArray, List.set_cons_succ, List.set_cons_zero, Int.toNat_natCast, Int.toNat_zero, Int.toNat_one, nth_zero, nth_one]) | ((with_reducible refine g_load (T := 3) ?_); refine seq_of hS rfl (stp_load_blk (T := 3) 2 Try.isAgg3 rfl rfl rfl ?_); simp only [Act.put, List.setIfInBounds_toArray, List.set_cons_succ, List.set_cons_zero, Int.toNat_natCast, Int.toNat_zero, Int.toNat_one, nth_zero, nth_one]) | (go_at_call 37; refine (strip_any _ _ _ _ _ _ _ _ _ _ _ _ _ (hS.fz 8 rfl) (hS.fz 6 rfl) hmw (hS.fz 7 rfl) hml hk hll (by omega) hm).mono ?_; rintro e w' ⟨rfl, hB⟩; have hS := hS.below hB; rw [HF.out]; simp only [strV, strA]) | ((with_reducible refine g_alloc (T := 74) ?_); refine seq_alloc (T := 74) hS Try.zeroValue74 (fun b6 wb6 hS => ?_); simp only [Act.put, List.setIfInBounds_toArray, List.set_cons_succ, List.set_cons_zero, Int.toNat_natCast, Int.toNat_zero, Int.toNat_one, nth_zero, nth_one]; simp only [List.cons_append, List.nil_append, List.set_cons_succ, List.set_cons_zero, Value.cells, iv_snoc, tv_snoc] at hS) | ((with_reducible refine g_store (T := 74) ?_); refine seq_store (T := 74) (u := .agg _) 9 hS rfl rfl rfl Try.sizeOf74 (by simp [Value.cells, Value.oneCell']) (by simp [Value.cells]) (fun _ hS => ?_); simp only [Act.put, List.setIfInBounds_toArray, List.set_cons_succ, List.set_cons_zero, Int.toNat_natCast, Int.toNat_zero, Int.toNat_one, nth_zero, nth_one]; simp only [List.cons_append, List.nil_append, List.set_cons_succ, List.set_cons_zero, Value.cells, iv_snoc, tv_snoc] at hS; simp only [List.take_zero, List.nil_append, List.append_nil, List.drop_succ_cons, List.drop_zero, List.drop_nil, List.take_succ_cons, List.cons_append, List.size_toArray, List.length_cons, List.length_nil, Nat.reduceAdd] at hS) | ((with_reducible refine g_load (T := 74) ?_); refine seq_of hS rfl (stp_load_all (T := 74) 9 Try.isAgg74 Try.sizeOf74 rfl rfl rfl ?_); simp only [Act.put, List.setIfInBounds_toArray, List.set_cons_succ, List.set_cons_zero, Int.toNat_natCast, Int.toNat_zero, Int.toNat_one, nth_zero, nth_one]) | (go_at_call 39; have hP := hS.last5; refine (merge_ok _ _ _ _ _ _ _ _ _ _ _ _ _ m _ hP.split hmw hml hv hgr hst hf1 hi1 hf2.out hi2.out hi3).mono ?_; rintro e w' ⟨rfl, bl', ow', ol', lw', ll', hmw', hml', hst', hgr', hS'⟩; have hS := hP.unsplit hS'; simp only [stH] at hS; simp only [List.cons_append, List.nil_append, List.set_cons_succ, List.set_cons_zero, Value.cells, iv_snoc, tv_snoc] at hS) | ((with_reducible refine g_load (T := 36) ?_); refine seq_of hS rfl (stp_load_blk (T := 36) 3 Try.isAgg36 rfl rfl rfl ?_); simp only [Act.put, List.setIfInBounds_toArray, List.set_cons_succ, List.set_cons_zero, Int.toNat_natCast, Int.toNat_zero, Int.toNat_one, nth_zero, nth_one]) | ((with_reducible refine g_load (T := 74) ?_); refine seq_of hS rfl (stp_load_all (T := 74) 5 Try.isAgg74 Try.sizeOf74 rfl rfl rfl ?_); simp only [Act.put, List.setIfInBounds_toArray, List.set_cons_succ, List.set_cons_zero, Int.toNat_natCast, Int.toNat_zero, Int.toNat_one, nth_zero, nth_one]) | ((with_reducible refine g_bs (T := 36) ?_); refine seq_bs1 (T := 36) (v := .agg _) hS Try.underlying36 Try.sizeOf74 Try.zeroValue74 rfl rfl rfl (by decide) (by decide) rfl (fun _ _ hS => ?_); simp only [Act.put, List.setIfInBounds_toArray, List.set_cons_succ, List.set_cons_zero, Int.toNat_natCast, Int.toNat_zero, Int.toNat_one, nth_zero, nth_one]; simp only [Value.cells] at hS) | ((with_reducible refine g_app ?_); refine seq_append_lit (t := 36) 4 hS Try.underlying36 Try.info74 rfl (by decide) rfl rfl rfl rfl (by simp [Value.oneCell']) (by omega) (by unfold maxLen; omega) (fun ao2 co2 _ hS => ?_); simp only [Act.put, List.setIfInBounds_toArray, List.set_cons_succ, List.set_cons_zero, Int.toNat_natCast, Int.toNat_zero, Int.toNat_one, nth_zero, nth_one]; simp only [List.cons_append, List.nil_append, List.set_cons_succ, List.set_cons_zero, Value.cells, iv_snoc, tv_snoc] at hS) | ((with_reducible refine g_store (T := 36) ?_); refine seq_store (T := 36) (u := .slice _ _ _) 3 hS rfl rfl rfl Try.sizeOf36 (by simp [Value.cells, Value.oneCell']) (by simp [Value.cells]) (fun _ hS => ?_); simp only [Act.put, List.setIfInBounds_toArray, List.set_cons_succ, List.set_cons_zero, Int.toNat_natCast, Int.toNat_zero, Int.toNat_one, nth_zero, nth_one]; simp only [List.cons_append, List.nil_append, List.set_cons_succ, List.set_cons_zero, Value.cells, iv_snoc, tv_snoc] at hS; simp only [List.take_zero, List.nil_append, List.append_nil, List.drop_succ_cons, List.drop_zero, List.drop_nil, List.take_succ_cons, List.cons_append, List.size_toArray, List.length_cons, List.length_nil, Nat.reduceAdd] at hS))
          go_ret
          rw [sv_snoc] at hS
          refine .inr ⟨m, HS.out, rfl, ao2, co2, bl', ow', ol', lw', ll', hmw', hml', hst', hgr', ?g⟩
          case g =>
            simp only [colH, stH, List.length_append, List.length_cons, List.length_nil, Nat.zero_add]
            exact (hS.sub (by repeat (first | exact List.Sublist.refl _ | apply List.Sublist.cons_cons | apply List.Sublist.cons | exact List.nil_sublist _)))
      · have f1 : (((nth 0 of k : Nat) : Int) == (k : Int)) = false := by simp; omega
        have hfn : first W N of k most = none := first_none (fun h => hh h.1)
        rw [hfn] at hst1
        have HAT := Lib.hid hat
        have HS := Lib.hid hst1
        clear hat hst1 hfn hh
        cases hf : stripL lw ll k most
        all_goals
          have HF := Lib.hid hf
          clear hf
          go_wp2_with (first | ((with_reducible refine g_idx (T := 22) ?_); refine seq_any rfl (any_index_at (T := 22) Try.underlying22 Try.sizeOf3 rfl rfl (by omega) (by omega) ?_); simp only [Act.put, List.setIfInBounds_toArray, List.set_cons_succ, List.set_cons_zero, Int.toNat_natCast, Int.toNat_zero, Int.toNat_one, nth_zero, nth_one]; simp only [Nat.zero_add, Int.toNat_natCast]) | (((with_reducible refine g_load (T := 3) ?_); refine seq_of hS rfl (stp_load_row (T := 3) 5 Try.isAgg3 rfl rfl (by omega) ?_); simp only [Act.put, List.setIfInBounds_toArray, List.set_cons_succ, List.set_cons_zero, Int.toNat_natCast, Int.toNat_zero, Int.toNat_one, nth_zero, nth_one]); rw [HAT.out]) | ((with_reducible refine g_load (T := 77) ?_); refine seq_of hS rfl (stp_load_blk (T := 77) 1 Try.isAgg77 rfl rfl rfl ?_); simp only [Act.put, List.setIfInBounds_toArray, List.set_cons_succ, List.set_cons_zero, Int.toNat_natCast, Int.toNat_zero, Int.toNat_one, nth_zero, nth_one]) | ((with_reducible refine g_load (T := 3) ?_); refine seq_of hS rfl (stp_load_blk (T := 3) 2 Try.isAgg3 rfl rfl rfl ?_); simp only [Act.put, List.setIfInBounds_toArray, List.set_cons_succ, List.set_cons_zero, Int.toNat_natCast, Int.toNat_zero, Int.toNat_one, nth_zero, nth_one]) | (go_at_call 37; refine (strip_any _ _ _ _ _ _ _ _ _ _ _ _ _ (hS.fz 8 rfl) (hS.fz 6 rfl) hmw (hS.fz 7 rfl) hml hk hll (by omega) hm).mono ?_; rintro e w' ⟨rfl, hB⟩; have hS := hS.below hB; rw [HF.out]; simp only [strV, strA, noStr]) | ((with_reducible refine g_alloc (T := 74) ?_); refine seq_alloc (T := 74) hS Try.zeroValue74 (fun b6 wb6 hS => ?_); simp only [Act.put, List.setIfInBounds_toArray, List.set_cons_succ, List.set_cons_zero, Int.toNat_natCast, Int.toNat_zero, Int.toNat_one, nth_zero, nth_one]; simp only [List.cons_append, List.nil_append, List.set_cons_succ, List.set_cons_zero, Value.cells, iv_snoc, tv_snoc] at hS) | ((with_reducible refine g_store (T := 74) ?_); refine seq_store (T := 74) (u := .agg _) 9 hS rfl rfl rfl Try.sizeOf74 (by simp [Value.cells, Value.oneCell']) (by simp [Value.cells]) (fun _ hS => ?_); simp only [Act.put, List.setIfInBounds_toArray, List.set_cons_succ, List.set_cons_zero, Int.toNat_natCast, Int.toNat_zero, Int.toNat_one, nth_zero, nth_one]; simp only [List.cons_append, List.nil_append, List.set_cons_succ, List.set_cons_zero, Value.cells, iv_snoc, tv_snoc] at hS; simp only [List.take_zero, List.nil_append, List.append_nil, List.drop_succ_cons, List.drop_zero, List.drop_nil, List.take_succ_cons, List.cons_append, List.size_toArray, List.length_cons, List.length_nil, Nat.reduceAdd] at hS))
          go_roundw
          case rel => exact ⟨k + 1, by omega, by go_num, HS.out.symm, (hS.sub (by repeat (first | exact List.Sublist.refl _ | apply List.Sublist.cons_cons | apply List.Sublist.cons | exact List.nil_sublist _)))⟩
          case measure => simp [intOf]; omega
    · obtain rfl : k = W.length := by omega
      go_wp2
      go_ret
      refine .inl ⟨?_, rfl, hS⟩
      rw [← hN.out, Nat.sub_self]; rfl
end Go.Proofs.Ytdibpfbibgicaaa

/- P3: the merges of Collapse, one after the other, in plain Lean. -/
namespace Go.Proofs.Ytdibpfbibgicaaa
open Go.RowKit Go.Hp

/-- What is known of the next merge. -/
structure NextIs (W : List Int) (N : List Tri) (of : List Nat) (most : Int) (s : Str) : Prop where
  face : s.face < W.length
  into : s.into < W.length
  la : s.a < W.length
  lb : s.b < W.length
  hface : nth 0 of s.face = s.face
  hinto : nth 0 of s.into = s.into
  ha : nth 0 of s.a = s.a
  hb : nth 0 of s.b = s.b
  ne : s.face ≠ s.into
  nea : s.face ≠ s.a
  neb : s.face ≠ s.b
  face0 : s.face ≠ 0
  a0 : s.a ≠ 0
  b0 : s.b ≠ 0
  ab : s.a < s.b
  io : s.into = s.a ∨ s.into = s.b
  ca : 0 < common N of s.face s.a
  cb : 0 < common N of s.face s.b
  inb : s.into = s.b ↔ common N of s.face s.a < common N of s.face s.b
  first : first W N of s.face most = some s
  least : ∀ g, g < s.face → _root_.Go.Hp.first W N of g most = none
theorem nextFrom_least {W : List Int} {N : List Tri} {of : List Nat} {most : Int} : ∀ (k i : Nat) {s : Str}, nextFrom W N of most k i = some s → ∃ j, i ≤ j ∧ j < i + k ∧ first W N of j most = some s ∧ ∀ g, i ≤ g → g < j → first W N of g most = none
  | 0, i, s, h => by cases h
  | k + 1, i, s, h => by
    simp only [nextFrom] at h
    cases hf : first W N of i most with
    | some s' => rw [hf] at h; cases h; exact ⟨i, Nat.le_refl _, by omega, hf, fun g h1 h2 => by omega⟩
    | none =>
      rw [hf] at h
      obtain ⟨j, h1, h2, h3, h4⟩ := nextFrom_least k (i + 1) h
      refine ⟨j, by omega, by omega, h3, fun g h5 h6 => ?_⟩
      rcases Nat.lt_or_ge i g with h7 | h7
      · exact h4 g h7 h6
      · obtain rfl : g = i := by omega
        exact hf
theorem nextFrom_none {W : List Int} {N : List Tri} {of : List Nat} {most : Int} : ∀ (k i : Nat), nextFrom W N of most k i = none → ∀ g, i ≤ g → g < i + k → first W N of g most = none
  | 0, i, h, g, h1, h2 => by omega
  | k + 1, i, h, g, h1, h2 => by
    simp only [nextFrom] at h
    cases hf : first W N of i most with
    | some s' => rw [hf] at h; cases h
    | none =>
      rw [hf] at h
      rcases Nat.lt_or_ge i g with h7 | h7
      · exact nextFrom_none k (i + 1) h g h7 (by omega)
      · obtain rfl : g = i := by omega
        exact hf
theorem next_none {W : List Int} {N : List Tri} {of : List Nat} {most : Int} (h : next W N of most = none) {g : Nat} (hg : g < of.length) : first W N of g most = none :=
  nextFrom_none _ _ h g (Nat.zero_le _) (by omega)
theorem next_is {W : List Int} {N : List Tri} {of : List Nat} {most : Int} (hgr : Gr W.length of) {s : Str} (h : next W N of most = some s) : NextIs W N of most s := by
  obtain ⟨j, h1, h2, h3, h4⟩ := nextFrom_least _ _ h
  obtain ⟨e1, e2, e3, e4, e5, e6, e7, e8, e9⟩ := first_is h3
  have hl := hgr.len
  have hj : j < W.length := by omega
  have h0 : nth 0 of 0 = 0 := by have := hgr.le 0 (by omega); omega
  have na := near_is e4
  have nb := near_is e5
  have hsorted : (nears N of j).Pairwise (· < ·) := List.pairwise_lt_range.filter _
  rw [e7] at hsorted
  have hab : s.a < s.b := by simpa using hsorted
  subst e1
  refine ⟨hj, ?_, by omega, by omega, e2, ?_, na.2.1, nb.2.1, ?_, fun e => na.2.2.1 e.symm, fun e => nb.2.2.1 e.symm, by omega, by have := na.2.2.2.1; omega, by have := nb.2.2.2.1; omega, hab, e6, na.2.2.2.2, nb.2.2.2.2, ?_, h3, fun g hg => h4 g (Nat.zero_le _) hg⟩
  · rcases e6 with h | h <;> omega
  · rcases e6 with h | h
    · rw [h]; exact na.2.1
    · rw [h]; exact nb.2.1
  · rcases e6 with h | h
    · rw [h]; exact fun e => na.2.2.1 e.symm
    · rw [h]; exact fun e => nb.2.2.1 e.symm
  · constructor
    · intro h
      rw [h] at e9
      split at e9
      · assumption
      · omega
    · intro h
      rw [e9, if_pos h]

/-- Merges, each the next one. -/
def Steps (W : List Int) (N : List Tri) (most : Int) : List Nat → List Str → Prop
  | _, [] => True
  | of, s :: l => next W N of most = some s ∧ Steps W N most (mrg of s.face s.into) l
theorem runOf_snoc (s : Str) : ∀ (l : List Str) (of : List Nat), runOf of (l ++ [s]) = mrg (runOf of l) s.face s.into
  | [], of => rfl
  | t :: l, of => runOf_snoc s l _
theorem Steps.snoc {W : List Int} {N : List Tri} {most : Int} {s : Str} : ∀ {l : List Str} {of : List Nat}, Steps W N most of l → next W N (runOf of l) most = some s → Steps W N most of (l ++ [s])
  | [], of, h, h2 => ⟨h2, trivial⟩
  | t :: l, of, h, h2 => ⟨h.1, h.2.snoc h2⟩
theorem Steps.gr {W : List Int} {N : List Tri} {most : Int} : ∀ {l : List Str} {of : List Nat}, Steps W N most of l → Gr W.length of → Gr W.length (runOf of l) ∧ (hds (runOf of l)).length + l.length = (hds of).length
  | [], of, h, hg => ⟨hg, rfl⟩
  | t :: l, of, h, hg => by
    have hn := next_is hg h.1
    have ih := h.2.gr (gr_mrg hg hn.face hn.into hn.hface hn.hinto)
    have hh := hds_mrg_len hg hn.face hn.into hn.hface hn.hinto hn.ne
    refine ⟨ih.1, ?_⟩
    rw [List.length_cons, ← hh, ← ih.2]
    simp only [runOf]
    omega
theorem Steps.unique {W : List Int} {N : List Tri} {most : Int} : ∀ {l1 l2 : List Str} {of : List Nat}, Steps W N most of l1 → next W N (runOf of l1) most = none → Steps W N most of l2 → next W N (runOf of l2) most = none → l1 = l2
  | [], [], of, _, _, _, _ => rfl
  | [], t :: l, of, _, h2, h3, _ => by
    have := h3.1
    rw [show runOf of [] = of from rfl] at h2
    rw [h2] at this; cases this
  | t :: l, [], of, h1, _, _, h4 => by
    have := h1.1
    rw [show runOf of [] = of from rfl] at h4
    rw [h4] at this; cases this
  | t :: l, u :: m, of, h1, h2, h3, h4 => by
    have e : t = u := by
      have a1 := h1.1
      have a2 := h3.1
      rw [a1] at a2
      exact Option.some.inj a2
    subst e
    rw [Steps.unique h1.2 h2 h3.2 h4]
theorem gr_range (n : Nat) : Gr n (List.range n) :=
  ⟨by simp, fun i hi => by rw [nth_range n i hi]; exact Nat.le_refl _, fun i hi => by rw [nth_range n i hi, nth_range n i hi]⟩
/-- The merges of Collapse. -/
def Col (W : List Int) (N : List Tri) (most : Int) (l : List Str) : Prop := Steps W N most (List.range W.length) l ∧ next W N (runOf (List.range W.length) l) most = none
theorem Col.unique {W : List Int} {N : List Tri} {most : Int} {l1 l2 : List Str} (h1 : Col W N most l1) (h2 : Col W N most l2) : l1 = l2 := Steps.unique h1.1 h1.2 h2.1 h2.2
theorem Steps.gr0 {W : List Int} {N : List Tri} {most : Int} {l : List Str} (h : Steps W N most (List.range W.length) l) : Gr W.length (runOf (List.range W.length) l) ∧ (hds (runOf (List.range W.length) l)).length + l.length = W.length := by
  have := h.gr (gr_range _)
  rw [hds_range, List.length_range] at this
  exact this
/-- The groups after k merges. -/
theorem Steps.at {W : List Int} {N : List Tri} {most : Int} : ∀ {l : List Str} {of : List Nat} (k : Nat) (hk : k < l.length), Steps W N most of l → next W N (runOf of (l.take k)) most = some l[k]
  | [], of, k, hk, h => by simp at hk
  | t :: l, of, 0, hk, h => h.1
  | t :: l, of, k + 1, hk, h => Steps.at k (by simpa using hk) h.2
theorem Steps.take {W : List Int} {N : List Tri} {most : Int} : ∀ {l : List Str} {of : List Nat} (k : Nat), Steps W N most of l → Steps W N most of (l.take k)
  | [], of, k, h => by simp [Steps]
  | t :: l, of, 0, h => trivial
  | t :: l, of, k + 1, h => ⟨h.1, h.2.take k⟩
end Go.Proofs.Ytdibpfbibgicaaa
