/- C2: strip.Collapse. -/
import Derived.Test.YtdibpfbibgicaaaP30
import Derived.Test.YtdibpfbibgicaaaA6
set_option linter.unusedVariables false
set_option linter.unusedSimpArgs false
namespace Go.Hp
open Go Go.RowKit
theorem filterMap_range {α : Type} (H : List α) : (List.range H.length).filterMap (fun i => H[i]?) = H := by
  induction H with
  | nil => rfl
  | cons x H ih =>
    rw [List.length_cons, List.range_succ_eq_map, List.filterMap_cons_some (by rfl : (x :: H)[0]? = some x), List.filterMap_map]
    congr 1
/-- The chunks in another order. -/
theorem Heap.order {w0 w : World} {H : List Chunk} (h : Heap w0 w H) (is : List Nat) (hp : is.isPerm (List.range H.length) = true) : Heap w0 w (is.filterMap (fun i => H[i]?)) := by
  have h1 := (List.isPerm_iff.1 hp).filterMap (fun i => H[i]?)
  rw [filterMap_range] at h1
  exact h.perm h1
/-- What a call made is new to the caller too. -/
theorem Heap.isNew {w0 w wr : World} {H : List Chunk} {S : Nat → Prop} (h : Heap w0 w (.frz (Old w0) w0 :: H)) (hm : Chunk.frz S wr ∈ H) : ∀ k, S k → New w0 w k := by
  intro k hk
  refine ⟨?_, (h.ok _ (List.mem_cons_of_mem _ hm) k hk).1⟩
  rcases Nat.lt_or_ge k w0.heap.size with hlt | hge
  · exact absurd hk ((List.pairwise_cons.1 h.apart).1 _ hm k hlt)
  · exact hge
/-- The length of the slice in a box. -/
def boxLen (w : World) (b : Nat) : Nat := match w.heap[b]? with
  | some (Obj.cells arr _ _) => match (arr[0]? : Option Value) with
    | some (Value.slice _ n _) => n
    | _ => 0
  | _ => 0
theorem boxLen_eq {w : World} {b n c : Nat} {a : Option Addr} {T : TypeId} {fr : Nat × Nat} (h : w.heap[b]? = some (.cells #[.slice a n c] T fr)) : boxLen w b = n := by
  unfold boxLen; rw [h]; rfl
end Go.Hp
namespace Go.Proofs.Ytdibpfbibgicaaa
open Go.RowKit Go.Hp

theorem ret4 {fn : Func} {p t1 t2 t3 : Tmp} {T : TypeId} {P : Program} {w0 w : World} {H : List Chunk} {b k : Nat} {arr : Array Value} {Tb : TypeId} {fr : Nat × Nat} {R : Ending → World → Prop} {a : Act} (j : Nat) (hS : Heap w0 w H) (hr : fn.results = #[.tmp t1, .cell p T, .tmp t2, .tmp t3])
    (hp : a.tmps.getD p undef = .pointer (some ⟨b, 0, none⟩)) (hj : H[j]? = some (Chunk.blk b (.cells arr Tb fr))) (hag : ∀ w, (isAgg T).run P w = .ok true w) (hz : ∀ w, (sizeOf T).run P w = .ok k w) (hsz : arr.size = k) (hd : a.defers = [])
    (h : R (.returned (.tuple #[a.tmps.getD t1 undef, .agg arr, a.tmps.getD t2 undef, a.tmps.getD t3 undef])) w) : bodyPost P fn R .ret a w := by
  refine bodyPost_ret (v := .tuple #[a.tmps.getD t1 undef, .agg arr, a.tmps.getD t2 undef, a.tmps.getD t3 undef]) ?_ hd h
  have h1 := run_loadVar_blk (P := P) j hS hj hag hz hsz
  have hp' : a.tmps[p]?.getD undef = .pointer (some ⟨b, 0, none⟩) := by simpa using hp
  simp [results, hr, hp', asAddr, h1]

/-- A slice of merges. -/
def Strs (w : World) (S : Nat → Prop) (v : Value) (l : List Str) : Prop := SlC w S 4 v l.length (sv l)

set_option maxRecDepth 100000 in
theorem collapse_bad (gv : Value) (most : Int) (W : List Int) (N : List Tri) (w : World) (hg : GraphAt w (Old w) gv W N) (hv : validN W N ≠ 0) :
    Calls Try.prog 14 #[gv, .int .i64 most] w fun e w' => e = .returned (.tuple #[.slice none 0 0, .agg #[.slice none 0 0, .slice none 0 0], .slice none 0 0, .int .i64 (validN W N)]) ∧ Below w.heap.size w w' := by
  have hg' := hg
  obtain ⟨aw, cw, an, cn, rfl, hw, hnn⟩ := hg'
  have hS := Heap.start w
  have f1 : (((validN W N : Nat) : Int) != 0) = true := by simp; omega
  go_enter Try.func14, Try.ntmps14
  repeat ((fail_if_success ((with_reducible refine g_box ?_))); go_step)
  ((with_reducible refine g_box (T := 34) ?_); refine seq_box (T := 34) (v := .agg _) hS rfl (fun b2 wb2 hS => ?_); simp only [Act.put, List.setIfInBounds_toArray, List.set_cons_succ, List.set_cons_zero, Int.toNat_natCast, Int.toNat_zero, Int.toNat_one, nth_zero, nth_one]; simp only [List.cons_append, List.nil_append, List.set_cons_succ, List.set_cons_zero, Value.cells, iv_snoc, tv_snoc] at hS)
  go_wp2_with (first | ((with_reducible refine g_box (T := 3) ?_); refine seq_box (T := 3) (v := .int .i64 most) hS rfl (fun b3 wb3 hS => ?_); simp only [Act.put, List.setIfInBounds_toArray, List.set_cons_succ, List.set_cons_zero, Int.toNat_natCast, Int.toNat_zero, Int.toNat_one, nth_zero, nth_one]; simp only [List.cons_append, List.nil_append, List.set_cons_succ, List.set_cons_zero, Value.cells, iv_snoc, tv_snoc] at hS) | ((with_reducible refine g_alloc (T := 34) ?_); refine seq_alloc (T := 34) hS Try.zeroValue34 (fun b5 wb5 hS => ?_); simp only [Act.put, List.setIfInBounds_toArray, List.set_cons_succ, List.set_cons_zero, Int.toNat_natCast, Int.toNat_zero, Int.toNat_one, nth_zero, nth_one]; simp only [List.cons_append, List.nil_append, List.set_cons_succ, List.set_cons_zero, Value.cells, iv_snoc, tv_snoc] at hS) | ((with_reducible refine g_load (T := 34) ?_); refine seq_of hS rfl (stp_load_all (T := 34) 1 Try.isAgg34 Try.sizeOf34 rfl rfl rfl ?_); simp only [Act.put, List.setIfInBounds_toArray, List.set_cons_succ, List.set_cons_zero, Int.toNat_natCast, Int.toNat_zero, Int.toNat_one, nth_zero, nth_one]) | (go_at_call 24; refine (rvalid_any _ _ _ _ (hg.arg hS (by simp))).mono ?_; rintro e w' ⟨rfl, hB⟩; have hS := hS.below hB) | ((with_reducible refine g_store (T := 34) ?_); refine seq_store (T := 34) (u := .agg #[.slice none 0 0, .slice none 0 0]) 3 hS rfl rfl rfl Try.sizeOf34 (by simp [Value.cells, Value.oneCell']) (by simp [Value.cells]) (fun _ hS => ?_); simp only [Act.put, List.setIfInBounds_toArray, List.set_cons_succ, List.set_cons_zero, Int.toNat_natCast, Int.toNat_zero, Int.toNat_one, nth_zero, nth_one]; simp only [List.cons_append, List.nil_append, List.set_cons_succ, List.set_cons_zero, Value.cells, iv_snoc, tv_snoc] at hS; simp only [List.take_zero, List.nil_append, List.append_nil, List.drop_succ_cons, List.drop_zero, List.drop_nil, List.take_succ_cons, List.cons_append, List.size_toArray, List.length_cons, List.length_nil, Nat.reduceAdd] at hS))
  exact ret4 3 hS rfl rfl rfl Try.isAgg34 Try.sizeOf34 rfl rfl ⟨rfl, hS.toBelow (by simp)⟩

set_option maxHeartbeats 4000000 in
set_option maxRecDepth 100000 in
theorem collapse_ok (gv : Value) (most : Int) (W : List Int) (N : List Tri) (w : World) (hg : GraphAt w (Old w) gv W N) (hv : VG W N) (hm : InI most) :
    Calls Try.prog 14 #[gv, .int .i64 most] w fun e w' => Below w.heap.size w w' ∧ ∃ l, Col W N most l ∧
      ((qOver W N (runOf (List.range W.length) l) = true ∧ e = .returned (.tuple #[.slice none 0 0, .agg #[.slice none 0 0, .slice none 0 0], .slice none 0 0, .int .i64 4])) ∨
       (qOver W N (runOf (List.range W.length) l) = false ∧ ∃ ao co gv' ai ci, e = .returned (.tuple #[.slice ao l.length co, gv', .slice ai W.length ci, .int .i64 0]) ∧ Strs w' (New w w') (.slice ao l.length co) l ∧
          GraphAt w' (New w w') gv' (qW W (runOf (List.range W.length) l)) (qN N (runOf (List.range W.length) l)) ∧ Nats w' (New w w') (.slice ai W.length ci) (idx (runOf (List.range W.length) l)))) := by
  have hg' := hg
  obtain ⟨aw, cw, an, cn, rfl, hw, hnn⟩ := hg'
  have hS := (Heap.start w).addNil 74 4
  have hle := hv.wlen
  have hst := StOk.start hv
  have HV0 := Lib.hid (valid_of_VG hv)
  generalize hllE : lenTo N N.length = ll at hst
  generalize hlwE : lwTo W W.length = lw at hst
  have HLL := Lib.hid hllE
  have HLW := Lib.hid hlwE
  clear hllE hlwE
  go_enter Try.func14, Try.ntmps14
  repeat ((fail_if_success ((with_reducible refine g_box ?_))); go_step)
  ((with_reducible refine g_box (T := 34) ?_); refine seq_box (T := 34) (v := .agg _) hS rfl (fun b2 wb2 hS => ?_); simp only [Act.put, List.setIfInBounds_toArray, List.set_cons_succ, List.set_cons_zero, Int.toNat_natCast, Int.toNat_zero, Int.toNat_one, nth_zero, nth_one]; simp only [List.cons_append, List.nil_append, List.set_cons_succ, List.set_cons_zero, Value.cells, iv_snoc, tv_snoc] at hS)
  repeat ((fail_if_success ((with_reducible refine g_box ?_))); go_step)
  ((with_reducible refine g_box (T := 3) ?_); refine seq_box (T := 3) (v := .int .i64 most) hS rfl (fun b3 wb3 hS => ?_); simp only [Act.put, List.setIfInBounds_toArray, List.set_cons_succ, List.set_cons_zero, Int.toNat_natCast, Int.toNat_zero, Int.toNat_one, nth_zero, nth_one]; simp only [List.cons_append, List.nil_append, List.set_cons_succ, List.set_cons_zero, Value.cells, iv_snoc, tv_snoc] at hS)
  repeat ((fail_if_success ((with_reducible refine g_alloc ?_))); go_step)
  ((with_reducible refine g_alloc (T := 34) ?_); refine seq_alloc (T := 34) hS Try.zeroValue34 (fun b5 wb5 hS => ?_); simp only [Act.put, List.setIfInBounds_toArray, List.set_cons_succ, List.set_cons_zero, Int.toNat_natCast, Int.toNat_zero, Int.toNat_one, nth_zero, nth_one]; simp only [List.cons_append, List.nil_append, List.set_cons_succ, List.set_cons_zero, Value.cells, iv_snoc, tv_snoc] at hS)
  go_wp2_with (first | ((with_reducible refine g_load (T := 34) ?_); refine seq_of hS rfl (stp_load_all (T := 34) 2 Try.isAgg34 Try.sizeOf34 rfl rfl rfl ?_); simp only [Act.put, List.setIfInBounds_toArray, List.set_cons_succ, List.set_cons_zero, Int.toNat_natCast, Int.toNat_zero, Int.toNat_one, nth_zero, nth_one]) | (go_at_call 24; refine (rvalid_any _ _ _ _ (hg.arg hS (by simp))).mono ?_; rintro e w' ⟨rfl, hB⟩; have hS := hS.below hB; rw [HV0.out]) | (go_at_call 36; refine (salone_any _ _ _ _ (hg.arg hS (by simp)) hv).mono ?_; rintro e wa ⟨a1, c1, bw, bl, bs, ow, ol, rfl, hmw, hml, hSa⟩; have hS := hS.import hSa; simp only [stH] at hS; simp only [List.cons_append, List.nil_append, List.set_cons_succ, List.set_cons_zero, Value.cells, iv_snoc, tv_snoc] at hS) | ((with_reducible refine g_alloc (T := 77) ?_); refine seq_alloc (T := 77) hS Try.zeroValue77 (fun b9 wb9 hS => ?_); simp only [Act.put, List.setIfInBounds_toArray, List.set_cons_succ, List.set_cons_zero, Int.toNat_natCast, Int.toNat_zero, Int.toNat_one, nth_zero, nth_one]; simp only [List.cons_append, List.nil_append, List.set_cons_succ, List.set_cons_zero, Value.cells, iv_snoc, tv_snoc] at hS) | ((with_reducible refine g_store (T := 77) ?_); refine seq_store (T := 77) (u := .pointer _) 9 hS rfl rfl rfl Try.sizeOf77 (by simp [Value.cells, Value.oneCell']) (by simp [Value.cells]) (fun _ hS => ?_); simp only [Act.put, List.setIfInBounds_toArray, List.set_cons_succ, List.set_cons_zero, Int.toNat_natCast, Int.toNat_zero, Int.toNat_one, nth_zero, nth_one]; simp only [List.cons_append, List.nil_append, List.set_cons_succ, List.set_cons_zero, Value.cells, iv_snoc, tv_snoc] at hS; simp only [List.take_zero, List.nil_append, List.append_nil, List.drop_succ_cons, List.drop_zero, List.drop_nil, List.take_succ_cons, List.cons_append, List.size_toArray, List.length_cons, List.length_nil, Nat.reduceAdd] at hS) | ((with_reducible refine g_alloc (T := 36) ?_); refine seq_alloc (T := 36) hS Try.zeroValue36 (fun b10 wb10 hS => ?_); simp only [Act.put, List.setIfInBounds_toArray, List.set_cons_succ, List.set_cons_zero, Int.toNat_natCast, Int.toNat_zero, Int.toNat_one, nth_zero, nth_one]; simp only [List.cons_append, List.nil_append, List.set_cons_succ, List.set_cons_zero, Value.cells, iv_snoc, tv_snoc] at hS))
  rw [HLL.out] at hml
  rw [HLW.out] at hmw
  have hS : Heap w _ ([.frz (Old w) w, .blk b2 (.cells #[.slice aw W.length cw, .slice an N.length cn] 34 (0, 0)), .blk b5 (.cells #[.slice none 0 0, .slice none 0 0] 34 (0, 0))] ++ colH b9 b3 b10 none 0 most [] a1 W.length c1 bw bl bs (List.range W.length) ow ol) := hS.order [0, 2, 4, 9, 3, 10, 1, 5, 6, 7, 8] rfl
  go_loopw [] (fun wr => ∃ (l : List Str) (ao : Option Addr) (co bl : Nat) (ow ol : Obj) (lw : List (Int × Int)) (ll : LL), Steps W N most (List.range W.length) l ∧ MapIs ik ik ow lw ∧ MapIs pk ik ol ll ∧ StOk W N (runOf (List.range W.length) l) lw ll ∧ Heap w wr ([.frz (Old w) w, .blk b2 (.cells #[.slice aw W.length cw, .slice an N.length cn] 34 (0, 0)), .blk b5 (.cells #[.slice none 0 0, .slice none 0 0] 34 (0, 0))] ++ colH b9 b3 b10 ao co most l a1 W.length c1 bw bl bs (runOf (List.range W.length) l) ow ol)) (fun wr => W.length - boxLen wr b10)
  case atStart => exact ⟨[], none, 0, bl, ow, ol, lw, ll, trivial, hmw, hml, hst, hS⟩
  case round =>
    clear hS hmw hml hst HLL HLW hSa
    obtain ⟨l, ao, co, bl, ow, ol, lw, ll, hstep, hmw, hml, hst, hS⟩ := hrel
    obtain ⟨hgr, hlen⟩ := hstep.gr0
    have hbl := boxLen_eq (n := l.length) (a := ao) (c := co) (T := 36) (fr := (0, 0)) (hS.blk (b := b10) (by simp [colH]))
    have h0 : nth 0 (runOf (List.range W.length) l) 0 = 0 := by
      rcases Nat.eq_zero_or_pos W.length with hz | hz
      · rw [nth_out 0 _ _ (by rw [hgr.len]; omega)]
      · have := hgr.le 0 hz; omega
    go_wp2_with (fail)
    refine (collapse1_any _ b9 b3 b10 ao co most l a1 c1 bw bl bs W N _ ow ol lw ll _ hS.split hmw hml hv hgr h0 hst hm (by omega)).mono ?_
    rintro e w' (⟨hnx, rfl, hS'⟩ | ⟨m, hnx, rfl, ao', co', bl', ow', ol', lw', ll', hmw', hml', hst', hgr', hS'⟩)
    · have hS := hS.unsplit hS'
      clear hS'
      have hcol : Col W N most l := ⟨hstep, hnx⟩
      have hri := rank_idx hgr
      have hcl := hgr.len
      generalize hcur : runOf (List.range W.length) l = cur at *
      have HCUR := Lib.hid hcur
      have HRI := Lib.hid hri
      have HCL := Lib.hid hcl
      clear hcur hri hcl
      simp only [colH, stH, List.cons_append, List.nil_append] at hS
      have hcle : cur.length ≤ 4096 := by rw [HCL.out]; exact hle
      have hcb : ∀ x ∈ cur, x ≤ 9223372036854775807 := fun x hx => by
        obtain ⟨i, hi, rfl⟩ := List.mem_iff_getElem.1 hx
        have := hgr.le i (by rw [← HCL.out]; exact hi)
        rw [nth_eq 0 _ _ hi] at this
        omega
      simp only []
      go_step
      go_wp2_with (first | ((with_reducible refine g_load (T := 77) ?_); refine seq_of hS rfl (stp_load_blk (T := 77) 3 Try.isAgg77 rfl rfl rfl ?_); simp only [Act.put, List.setIfInBounds_toArray, List.set_cons_succ, List.set_cons_zero, Int.toNat_natCast, Int.toNat_zero, Int.toNat_one, nth_zero, nth_one]) | (go_at_call 40; refine (sindices_any _ _ _ _ _ _ _ _ (hS.fz 10 rfl) (Heap.rowB hS 7 rfl) (hS.rowNats 7 rfl hcb) hcle).mono ?_; rintro e w' ⟨ai, ci, rfl, hB, hNx⟩; have hS := hS.call hB; rw [HRI.out] at hNx; rw [HCL.out] at hNx ⊢; simp only [List.cons_append, List.nil_append, List.set_cons_succ, List.set_cons_zero, Value.cells, iv_snoc, tv_snoc] at hS) | ((with_reducible refine g_load (T := 34) ?_); refine seq_of hS rfl (stp_load_all (T := 34) 1 Try.isAgg34 Try.sizeOf34 rfl rfl rfl ?_); simp only [Act.put, List.setIfInBounds_toArray, List.set_cons_succ, List.set_cons_zero, Int.toNat_natCast, Int.toNat_zero, Int.toNat_one, nth_zero, nth_one]) | ((with_reducible refine g_bs (T := 45) ?_); refine seq_bs1 (T := 45) (v := .slice _ _ _) hS Try.underlying45 Try.sizeOf22 Try.zeroValue22 rfl rfl rfl (by decide) (by decide) rfl (fun _ _ hS => ?_); simp only [Act.put, List.setIfInBounds_toArray, List.set_cons_succ, List.set_cons_zero, Int.toNat_natCast, Int.toNat_zero, Int.toNat_one, nth_zero, nth_one]; simp only [Value.cells] at hS))
      refine (at_any _ _ _ _ _ _ _ _ _ _ _ (hg.arg hS (by simp)) hv hgr (hNx.arg hS (by simp)) (hS.fz 12 rfl)).mono ?_
      rintro e w' ⟨hB, (⟨ho, rfl⟩ | ⟨ho, gv', rfl, hG⟩)⟩
      · have hS := hS.below hB
        simp only []
        go_step
        go_wp2_with (first | ((with_reducible refine g_alloc (T := 34) ?_); refine seq_alloc (T := 34) hS Try.zeroValue34 (fun b13 wb13 hS => ?_); simp only [Act.put, List.setIfInBounds_toArray, List.set_cons_succ, List.set_cons_zero, Int.toNat_natCast, Int.toNat_zero, Int.toNat_one, nth_zero, nth_one]; simp only [List.cons_append, List.nil_append, List.set_cons_succ, List.set_cons_zero, Value.cells, iv_snoc, tv_snoc] at hS) | ((with_reducible refine g_store (T := 34) ?_); refine seq_store (T := 34) (u := .agg #[.slice none 0 0, .slice none 0 0]) 13 hS rfl rfl rfl Try.sizeOf34 (by simp [Value.cells, Value.oneCell']) (by simp [Value.cells]) (fun _ hS => ?_); simp only [Act.put, List.setIfInBounds_toArray, List.set_cons_succ, List.set_cons_zero, Int.toNat_natCast, Int.toNat_zero, Int.toNat_one, nth_zero, nth_one]; simp only [List.cons_append, List.nil_append, List.set_cons_succ, List.set_cons_zero, Value.cells, iv_snoc, tv_snoc] at hS; simp only [List.take_zero, List.nil_append, List.append_nil, List.drop_succ_cons, List.drop_zero, List.drop_nil, List.take_succ_cons, List.cons_append, List.size_toArray, List.length_cons, List.length_nil, Nat.reduceAdd] at hS) | ((with_reducible refine g_store (T := 34) ?_); refine seq_store (T := 34) (u := .agg #[.slice none 0 0, .slice none 0 0]) 2 hS rfl rfl rfl Try.sizeOf34 (by simp [Value.cells, Value.oneCell']) (by simp [Value.cells]) (fun _ hS => ?_); simp only [Act.put, List.setIfInBounds_toArray, List.set_cons_succ, List.set_cons_zero, Int.toNat_natCast, Int.toNat_zero, Int.toNat_one, nth_zero, nth_one]; simp only [List.cons_append, List.nil_append, List.set_cons_succ, List.set_cons_zero, Value.cells, iv_snoc, tv_snoc] at hS; simp only [List.take_zero, List.nil_append, List.append_nil, List.drop_succ_cons, List.drop_zero, List.drop_nil, List.take_succ_cons, List.cons_append, List.size_toArray, List.length_cons, List.length_nil, Nat.reduceAdd] at hS))
        refine ret4 2 hS rfl rfl rfl Try.isAgg34 Try.sizeOf34 rfl rfl ⟨hS.toBelow (by simp), l, hcol, .inl ⟨by rw [HCUR.out]; exact ho, rfl⟩⟩
      · have hS := hS.call hB
        obtain ⟨gw, gcw, gn, gcn, rfl, hgw, hgn⟩ := hG
        simp only [List.cons_append, List.nil_append, List.set_cons_succ, List.set_cons_zero, Value.cells, iv_snoc, tv_snoc] at hS
        simp only []
        go_step
        go_wp2_with (first | ((with_reducible refine g_alloc (T := 34) ?_); refine seq_alloc (T := 34) hS Try.zeroValue34 (fun b13 wb13 hS => ?_); simp only [Act.put, List.setIfInBounds_toArray, List.set_cons_succ, List.set_cons_zero, Int.toNat_natCast, Int.toNat_zero, Int.toNat_one, nth_zero, nth_one]; simp only [List.cons_append, List.nil_append, List.set_cons_succ, List.set_cons_zero, Value.cells, iv_snoc, tv_snoc] at hS) | ((with_reducible refine g_store (T := 34) ?_); refine seq_store (T := 34) (u := .agg #[.slice _ _ _, .slice _ _ _]) 14 hS rfl rfl rfl Try.sizeOf34 (by simp [Value.cells, Value.oneCell']) (by simp [Value.cells]) (fun _ hS => ?_); simp only [Act.put, List.setIfInBounds_toArray, List.set_cons_succ, List.set_cons_zero, Int.toNat_natCast, Int.toNat_zero, Int.toNat_one, nth_zero, nth_one]; simp only [List.cons_append, List.nil_append, List.set_cons_succ, List.set_cons_zero, Value.cells, iv_snoc, tv_snoc] at hS; simp only [List.take_zero, List.nil_append, List.append_nil, List.drop_succ_cons, List.drop_zero, List.drop_nil, List.take_succ_cons, List.cons_append, List.size_toArray, List.length_cons, List.length_nil, Nat.reduceAdd] at hS))
        refine wp_region_sched [.read 0, .read 1, .pure 2, .pure 3, .mutt 4, .pure 5, .pure 6] [4] (fun w' => Heap w w' _) (by kernel_rfl) (by kernel_rfl) hS.drew (fun w1 hS => ?_)
        repeat (first | ((first | ((with_reducible refine m_pure ?_); refine skip_pure rfl rfl ?_) | ((with_reducible refine m_read ?_); refine skip_read rfl rfl ?_)); simp only [Act.put, List.setIfInBounds_toArray, List.set_cons_succ, List.set_cons_zero, Int.toNat_natCast, Int.toNat_zero, Int.toNat_one, nth_zero, nth_one]) | ((with_reducible refine m_read ?_); refine sched_of rfl rfl (stp_load_blk (T := 36) 5 Try.isAgg36 rfl rfl rfl ?_); simp only [Act.put, List.setIfInBounds_toArray, List.set_cons_succ, List.set_cons_zero, Int.toNat_natCast, Int.toNat_zero, Int.toNat_one, nth_zero, nth_one]) | ((with_reducible refine m_read ?_); refine sched_of rfl rfl (stp_load_all (T := 34) 14 Try.isAgg34 Try.sizeOf34 rfl rfl rfl ?_); simp only [Act.put, List.setIfInBounds_toArray, List.set_cons_succ, List.set_cons_zero, Int.toNat_natCast, Int.toNat_zero, Int.toNat_one, nth_zero, nth_one]) | ((with_reducible refine m_pure ?_); refine run_pure rfl rfl (fun K hK => ?_); go_simp; refine hK _ ?_; clear hK K))
        refine mut_at rfl ?_
        ((with_reducible refine g_store (T := 34) ?_); refine seq_store (T := 34) (u := .agg #[.slice _ _ _, .slice _ _ _]) 2 hS rfl rfl rfl Try.sizeOf34 (by simp [Value.cells, Value.oneCell']) (by simp [Value.cells]) (fun _ hS => ?_); simp only [Act.put, List.setIfInBounds_toArray, List.set_cons_succ, List.set_cons_zero, Int.toNat_natCast, Int.toNat_zero, Int.toNat_one, nth_zero, nth_one]; simp only [List.cons_append, List.nil_append, List.set_cons_succ, List.set_cons_zero, Value.cells, iv_snoc, tv_snoc] at hS; simp only [List.take_zero, List.nil_append, List.append_nil, List.drop_succ_cons, List.drop_zero, List.drop_nil, List.take_succ_cons, List.cons_append, List.size_toArray, List.length_cons, List.length_nil, Nat.reduceAdd] at hS)
        refine mut_end ?_
        repeat (first | ((first | ((with_reducible refine m_pure ?_); refine skip_pure rfl rfl ?_) | ((with_reducible refine m_read ?_); refine skip_read rfl rfl ?_)); simp only [Act.put, List.setIfInBounds_toArray, List.set_cons_succ, List.set_cons_zero, Int.toNat_natCast, Int.toNat_zero, Int.toNat_one, nth_zero, nth_one]) | fail | ((with_reducible refine m_pure ?_); refine run_pure rfl rfl (fun K hK => ?_); go_simp; refine hK _ ?_; clear hK K))
        refine sched_nil ?_
        simp only [NoPanic]
        go_wp2
        refine ret4 2 hS rfl rfl rfl Try.isAgg34 Try.sizeOf34 rfl rfl ⟨hS.toBelow (by simp), l, hcol, .inr ⟨by rw [HCUR.out]; exact ho, ao, co, _, ai, ci, rfl, hS.result (T := 74) (by simp), ?_, ?_⟩⟩
        · rw [HCUR.out]
          have hnw := hS.isNew (List.mem_of_getElem? (i := 12) rfl)
          exact ⟨gw, gcw, gn, gcn, rfl, (hgw.later hS (List.mem_of_getElem? (i := 13) rfl)).weaken hnw, (hgn.later hS (List.mem_of_getElem? (i := 13) rfl)).weaken hnw⟩
        · rw [HCUR.out]
          exact (hNx.later hS (List.mem_of_getElem? (i := 11) rfl)).weaken (hS.isNew (List.mem_of_getElem? (i := 10) rfl))
    · have hS := hS.unsplit hS'
      simp only []
      go_step
      go_wp2
      refine ⟨⟨l ++ [m], ao', co', bl', ow', ol', lw', ll', hstep.snoc hnx, hmw', hml', ?_, ?_⟩, ?_⟩
      · rw [runOf_snoc]; exact hst'
      · rw [runOf_snoc]; exact hS
      · have hbl' := boxLen_eq (n := (l ++ [m]).length) (a := ao') (c := co') (T := 36) (fr := (0, 0)) (hS.blk (b := b10) (by simp [colH]))
        rw [hbl', hbl]
        have hn := next_is hgr hnx
        have hp := List.length_pos_of_mem (mem_hds.2 ⟨by rw [hgr.len]; exact hn.face, hn.hface⟩)
        simp only [List.length_append, List.length_cons, List.length_nil]
        omega
end Go.Proofs.Ytdibpfbibgicaaa
