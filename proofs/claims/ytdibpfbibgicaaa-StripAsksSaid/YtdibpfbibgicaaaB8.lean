/- B8: meresmanref24.Run: the groups after each merge of a list. -/
import Derived.Test.YtdibpfbibgicaaaB7
set_option linter.unusedVariables false
set_option linter.unusedSimpArgs false
namespace Go.Proofs.Ytdibpfbibgicaaa
open Go.RowKit Go.Hp

theorem Try.info22 : (Try.prog.info? 22).map (fun i => (i.zero, i.size, i.bytes)) = some (some (.slice none 0 0), 1, 24) := by kernel_rfl

/-- A list of lists: the groups after k merges of L, for each k. -/
def RowsTo (w : World) (S : Nat → Prop) (n m : Nat) (L : List IS) (cells : List Value) : Prop :=
  ∀ k, k ≤ m → ∃ (a : Option Addr) (c : Nat) (cur : List Nat), cells[k]? = some (.slice a n c) ∧ runI (List.range n) (L.take k) = some cur ∧ Gr n cur ∧ Nats w S (.slice a n c) cur
def RunAt (w : World) (S : Nat → Prop) (v : Value) (n : Nat) (L : List IS) : Prop :=
  ∃ cells : List Value, SlC w S 1 v (L.length + 1) cells ∧ RowsTo w S n L.length L cells

theorem runI_take {L : List IS} {of cur : List Nat} {k : Nat} (hk : k < L.length) (h : runI of (L.take k) = some cur) (hok : okS cur L[k] = true) : runI of (L.take (k + 1)) = some (mrg cur L[k].face.toNat L[k].into.toNat) := by
  rw [List.take_succ_eq_append_getElem hk, runI_snoc _ _ _ _ h, if_pos hok]
theorem runI_bad {L : List IS} {of cur : List Nat} {k : Nat} (hk : k < L.length) (h : runI of (L.take k) = some cur) (hok : okS cur L[k] = false) : runI of L = none := by
  have h1 : runI of (L.take (k + 1)) = none := by rw [List.take_succ_eq_append_getElem hk, runI_snoc _ _ _ _ h, if_neg (by rw [hok]; decide)]
  have := runI_none _ (L.drop (k + 1)) _ h1
  rwa [List.take_append_drop] at this

set_option maxHeartbeats 4000000 in
set_option maxRecDepth 100000 in
theorem refrun_any (gv : Value) (al : Option Addr) (cl : Nat) (L : List IS) (W : List Int) (N : List Tri) (w : World) (hg : GraphAt w (Old w) gv W N) (hle : W.length ≤ 4096) (hL : SlC w (Old w) 4 (.slice al L.length cl) L.length (isv L)) (hlen : L.length ≤ 1000000) :
    Calls Try.prog 31 #[gv, .slice al L.length cl] w fun e w' => Below w.heap.size w w' ∧
      ((runI (List.range W.length) L = none ∧ e = .returned (.tuple #[.slice none 0 0, .bool false])) ∨
       (∃ cur a c, runI (List.range W.length) L = some cur ∧ e = .returned (.tuple #[.slice a (L.length + 1) c, .bool true]) ∧ RunAt w' (New w w') (.slice a (L.length + 1) c) W.length L)) := by
  obtain ⟨aw, cw, an, cn, rfl, hw, hnn⟩ := hg
  have hS := Heap.start w
  go_enter Try.func31, Try.ntmps31
  go_wp2_with (first | ((with_reducible refine g_box (T := 25) ?_); refine seq_box (T := 25) (v := .agg _) hS rfl (fun b wb hS => ?_); simp only [Act.put, List.setIfInBounds_toArray, List.set_cons_succ, List.set_cons_zero, Int.toNat_natCast, Int.toNat_zero, Int.toNat_one, nth_zero, nth_one]; simp only [List.cons_append, List.nil_append, List.set_cons_succ, List.set_cons_zero, Value.cells, iv_snoc, tv_snoc] at hS) | ((with_reducible refine g_load (T := 22) ?_); refine seq_of hS rfl (stp_load_blk (T := 22) 1 Try.isAgg22 rfl rfl rfl ?_); simp only [Act.put, List.setIfInBounds_toArray, List.set_cons_succ, List.set_cons_zero, Int.toNat_natCast, Int.toNat_zero, Int.toNat_one, nth_zero, nth_one]) | (go_at_call 25; refine (alone_any _ _ hle).mono ?_; rintro e wa ⟨af, cf, rfl, hB, hof⟩; have hS := hS.call hB; simp only [List.cons_append, List.nil_append, List.set_cons_succ, List.set_cons_zero, Value.cells, iv_snoc, tv_snoc] at hS) | ((with_reducible refine g_bs (T := 45) ?_); refine seq_bs1 (T := 45) (v := .slice _ _ _) hS Try.underlying45 Try.sizeOf22 Try.zeroValue22 rfl rfl rfl (by decide) (by decide) rfl (fun _ _ hS => ?_); simp only [Act.put, List.setIfInBounds_toArray, List.set_cons_succ, List.set_cons_zero, Int.toNat_natCast, Int.toNat_zero, Int.toNat_one, nth_zero, nth_one]; simp only [Value.cells] at hS))
  try simp only [List.cons_append, List.nil_append, List.set_cons_succ, List.set_cons_zero, Value.cells, iv_snoc, tv_snoc] at hS
  have hS := hS.toRow (k := 1) (m := 1) 3 rfl rfl (by decide)
  try simp only [List.cons_append, List.nil_append, List.set_cons_succ, List.set_cons_zero, Value.cells, iv_snoc, tv_snoc] at hS
  generalize New _ wa = S at *
  try simp only [List.getElem_toArray, List.getElem_cons_zero, List.getElem_cons_succ]
  go_loopw [6, 7, 8] (fun ov out i wr => ∃ (k : Nat) (af ao : Option Addr) (cf co : Nat) (cur : List Nat) (S : Nat → Prop) (wq : World) (cells : List Value), k ≤ L.length ∧ i = .int .i64 k ∧ ov = .slice af W.length cf ∧ out = .slice ao (k + 1) co ∧ Nats wq S (.slice af W.length cf) cur ∧ Gr W.length cur ∧ Hid (runI (List.range W.length) (L.take k) = some cur) ∧ cells.length = k + 1 ∧ RowsTo wq S W.length k L cells ∧ Heap w wr [.frz (Old w) w, .frz S wq, .row (.slice ao (k + 1) co) 22 1 (k + 1) cells, .blk b (.cells #[.slice aw W.length cw, .slice an N.length cn] 25 (0, 0))]) (fun _ _ i _ => L.length - (intOf i).toNat)
  case atStart =>
    refine ⟨0, af, _, cf, _, List.range W.length, S, wa, [.slice af W.length cf], by omega, rfl, rfl, rfl, hof, gr_range _, rfl, rfl, ?_, hS.order [0, 2, 3, 1] rfl⟩
    intro k hk
    obtain rfl : k = 0 := by omega
    exact ⟨af, cf, List.range W.length, rfl, rfl, gr_range _, hof⟩
  case round =>
    clear hS hof hB
    obtain ⟨k, af, ao, cf, co, cur, S, wq, cells, hk, rfl, rfl, rfl, hof, hgr, HRUN, hcl, hrows, hS⟩ := hrel
    revert hS
    repeat (rename Heap _ _ _ => hZ; clear hZ)
    repeat (rename CellsAt _ _ _ _ => hZ; clear hZ)
    repeat (rename Below _ _ _ => hZ; clear hZ)
    intro hS
    by_cases hlt : k < L.length
    · obtain ⟨⟨sf, sa, sb, si⟩, hls⟩ : ∃ s, L[k] = s := ⟨_, rfl⟩
      have HS : Hid (nth is0 L ((k : Nat) : Int).toNat = ⟨sf, sa, sb, si⟩) := by
        unfold Hid
        rw [Int.toNat_natCast, nth_eq is0 _ _ hlt, hls]
      have hbad := runI_bad hlt HRUN.out
      have hgood := runI_take hlt HRUN.out
      rw [hls] at hbad hgood
      cases hok : okS cur ⟨sf, sa, sb, si⟩ with
      | false =>
        have HOK := Lib.hid hok
        have HBAD := Lib.hid (hbad hok)
        clear hok hbad hgood hls
        go_wp2_with (first | ((with_reducible refine g_idx (T := 39) ?_); refine seq_any rfl (any_index_is (T := 39) HS Try.underlying39 Try.sizeOf87 rfl rfl (by with_reducible assumption) (by omega) (by omega) (fun _ _ _ => ?_)); simp only [Act.put, List.setIfInBounds_toArray, List.set_cons_succ, List.set_cons_zero, Int.toNat_natCast, Int.toNat_zero, Int.toNat_one, nth_zero, nth_one]) | ((with_reducible refine g_load (T := 87) ?_); refine seq_of hS rfl (stp_loadk (T := 87) Try.isAgg87 Try.sizeOf87 rfl (by with_reducible assumption) (by simp) rfl ?_); simp only [Act.put, List.setIfInBounds_toArray, List.set_cons_succ, List.set_cons_zero, Int.toNat_natCast, Int.toNat_zero, Int.toNat_one, nth_zero, nth_one]) | (go_at_call 53; refine (refvalidS_any _ _ _ _ _ _ _ cur _ (hof.arg hS (by simp))).mono ?_; rintro e w' ⟨rfl, hB⟩; have hS := hS.below hB; rw [HOK.out]))
        refine bodyPost_ret (results_tmp2 rfl _ _ _) rfl ?_
        exact ⟨hS.toBelow (by simp), .inl ⟨HBAD.out, rfl⟩⟩
      | true =>
        have hio := okS_is hgr.len hok
        have hp0 := hio.p0
        have hpi := hio.pi
        simp only at hp0 hpi
        obtain ⟨f, rfl⟩ : ∃ f : Nat, sf = f := ⟨sf.toNat, by omega⟩
        obtain ⟨i, rfl⟩ : ∃ i : Nat, si = i := ⟨si.toNat, by omega⟩
        have hfl := hio.face
        have hil := hio.into
        have hff := hio.hface
        have hii := hio.hinto
        have hne := hio.ne
        have hg2 := hgood hok
        simp only [Int.toNat_natCast] at hfl hil hff hii hne hg2
        have hgr2 := gr_mrg hgr hfl hil hff hii
        have hmer : ∀ w, Nats w (Old w) (.slice af W.length cf) cur → Calls Try.prog 26 #[.slice af W.length cf, .agg #[.int .i64 (f : Nat), .int .i64 (i : Nat)]] w fun e w' => ∃ a' c', e = .returned (.slice a' W.length c') ∧ Below w.heap.size w w' ∧ Nats w' (New w w') (.slice a' W.length c') (mrg cur f i) := by
          intro w h
          have := merged_any _ _ _ f i _ _ h (by rw [hgr.len]; omega) (fun q hq => by obtain ⟨i, hi, rfl⟩ := List.mem_iff_getElem.1 hq; have := hgr.lt (i := i) (by rw [← hgr.len]; exact hi); rw [nth_eq 0 _ _ hi] at this; omega) (by omega) (by omega)
          rw [hgr.len] at this
          exact this
        have HMER := Lib.hid hmer
        have HOK := Lib.hid hok
        have HG2 := Lib.hid hg2
        clear hok hbad hgood hls hmer hg2 hio hff hii hne
        go_wp2_with (first | ((with_reducible refine g_idx (T := 39) ?_); refine seq_any rfl (any_index_is (T := 39) HS Try.underlying39 Try.sizeOf87 rfl rfl (by with_reducible assumption) (by omega) (by omega) (fun _ _ _ => ?_)); simp only [Act.put, List.setIfInBounds_toArray, List.set_cons_succ, List.set_cons_zero, Int.toNat_natCast, Int.toNat_zero, Int.toNat_one, nth_zero, nth_one]) | ((with_reducible refine g_load (T := 87) ?_); refine seq_of hS rfl (stp_loadk (T := 87) Try.isAgg87 Try.sizeOf87 rfl (by with_reducible assumption) (by simp) rfl ?_); simp only [Act.put, List.setIfInBounds_toArray, List.set_cons_succ, List.set_cons_zero, Int.toNat_natCast, Int.toNat_zero, Int.toNat_one, nth_zero, nth_one]) | (go_at_call 53; refine (refvalidS_any _ _ _ _ _ _ _ cur _ (hof.arg hS (by simp))).mono ?_; rintro e w' ⟨rfl, hB⟩; have hS := hS.below hB; rw [HOK.out]))
        refine wp_region_sched [.pure 0, .pure 1, .pure 2, .pure 3, .pure 4, .read 5, .pure 6, .pure 7, .pure 8, .pure 9, .read 10, .pure 11, .ext 12, .pure 13] [] (fun w' => Heap w w' _) (by kernel_rfl) (by as_aux_lemma => kernel_rfl) hS.drew (fun w1 hS => ?_)
        repeat (first | ((first | ((with_reducible refine m_pure ?_); refine skip_pure rfl rfl ?_) | ((with_reducible refine m_read ?_); refine skip_read rfl rfl ?_)); simp only [Act.put, List.setIfInBounds_toArray, List.set_cons_succ, List.set_cons_zero, Int.toNat_natCast, Int.toNat_zero, Int.toNat_one, nth_zero, nth_one]) | ((with_reducible refine m_pure ?_); refine sched_any rfl rfl (any_index_is (T := 39) HS Try.underlying39 Try.sizeOf87 rfl rfl (by with_reducible assumption) (by omega) (by omega) (fun _ _ _ => ?_)); simp only [Act.put, List.setIfInBounds_toArray, List.set_cons_succ, List.set_cons_zero, Int.toNat_natCast, Int.toNat_zero, Int.toNat_one, nth_zero, nth_one]) | ((with_reducible refine m_read ?_); refine sched_of rfl rfl (stp_load (T := 3) Try.isAgg3 rfl (by with_reducible assumption) (by simp) rfl ?_); simp only [Act.put, List.setIfInBounds_toArray, List.set_cons_succ, List.set_cons_zero, Int.toNat_natCast, Int.toNat_zero, Int.toNat_one, nth_zero, nth_one]) | ((with_reducible refine m_read ?_); refine sched_of rfl rfl (stp_loadj (T := 3) 3 Try.isAgg3 rfl (by with_reducible assumption) (by simp) rfl ?_); simp only [Act.put, List.setIfInBounds_toArray, List.set_cons_succ, List.set_cons_zero, Int.toNat_natCast, Int.toNat_zero, Int.toNat_one, nth_zero, nth_one]) | ((with_reducible refine m_pure ?_); refine run_pure rfl rfl (fun K hK => ?_); go_simp; refine hK _ ?_; clear hK K))
        refine ext_at rfl ?_
        go_wp2_with (fail)
        refine (HMER.out _ (hof.arg hS (List.mem_of_getElem? (i := 1) rfl))).mono ?_
        rintro e w' ⟨a3, c3, rfl, hB3, hN3⟩
        simp only []
        go_step
        have hS := hS.call hB3
        simp only [List.cons_append, List.nil_append, List.set_cons_succ, List.set_cons_zero, Value.cells, iv_snoc, tv_snoc] at hS
        generalize New _ w' = S3 at *
        refine ext_end (hS.sub (by repeat (first | exact List.Sublist.refl _ | apply List.Sublist.cons_cons | apply List.Sublist.cons | exact List.nil_sublist _))) ?_
        repeat (first | ((first | ((with_reducible refine m_pure ?_); refine skip_pure rfl rfl ?_) | ((with_reducible refine m_read ?_); refine skip_read rfl rfl ?_)); simp only [Act.put, List.setIfInBounds_toArray, List.set_cons_succ, List.set_cons_zero, Int.toNat_natCast, Int.toNat_zero, Int.toNat_one, nth_zero, nth_one]) | fail | ((with_reducible refine m_pure ?_); refine run_pure rfl rfl (fun K hK => ?_); go_simp; refine hK _ ?_; clear hK K))
        refine sched_nil ?_
        simp only [NoPanic]
        have hrows2 : RowsTo w' (fun k => S k ∨ S3 k) W.length k L cells := fun j hj => by
          obtain ⟨a, c, cj, h1, h2, h3, h4⟩ := hrows j hj
          exact ⟨a, c, cj, h1, h2, h3, (Ints.later h4 hS (List.mem_of_getElem? (i := 1) rfl)).weaken (fun k hk => .inl hk)⟩
        have hN4 : Nats w' (fun k => S k ∨ S3 k) (.slice a3 W.length c3) (mrg cur f i) := Ints.weaken (Ints.later hN3 hS (List.mem_of_getElem? (i := 4) rfl)) (fun k hk => .inr hk)
        have hS : Heap w w' [.frz (Old w) w, .frz (fun k => S k ∨ S3 k) w', .row (.slice ao (k + 1) co) 22 1 (k + 1) cells, .blk b (.cells #[.slice aw W.length cw, .slice an N.length cn] 25 (0, 0))] := ((hS.order [1, 4, 0, 2, 3] rfl).join).order [1, 0, 2, 3] rfl
        go_wp2_with (first | ((with_reducible refine g_bs (T := 45) ?_); refine seq_bs1 (T := 45) (v := .slice _ _ _) hS Try.underlying45 Try.sizeOf22 Try.zeroValue22 rfl rfl rfl (by decide) (by decide) rfl (fun _ _ hS => ?_); simp only [Act.put, List.setIfInBounds_toArray, List.set_cons_succ, List.set_cons_zero, Int.toNat_natCast, Int.toNat_zero, Int.toNat_one, nth_zero, nth_one]; simp only [Value.cells] at hS) | ((with_reducible refine g_app ?_); refine seq_append_lit (t := 45) 2 hS Try.underlying45 Try.info22 rfl (by decide) rfl rfl rfl rfl (by simp [Value.oneCell']) (by omega) (by unfold maxLen; omega) (fun a4 c4 _ hS => ?_); simp only [Act.put, List.setIfInBounds_toArray, List.set_cons_succ, List.set_cons_zero, Int.toNat_natCast, Int.toNat_zero, Int.toNat_one, nth_zero, nth_one]; simp only [List.cons_append, List.nil_append, List.set_cons_succ, List.set_cons_zero, Value.cells, iv_snoc, tv_snoc] at hS))
        go_roundw
        case rel =>
          refine ⟨k + 1, a3, a4, c3, c4, mrg cur f i, _, w', cells ++ [.slice a3 W.length c3], by omega, by go_num, rfl, rfl, hN4, hgr2, HG2.out, by rw [List.length_append, hcl]; rfl, ?_, hS⟩
          intro j hj
          rcases Nat.lt_or_ge j (k + 1) with h | h
          · obtain ⟨a, c, cj, h1, h2, h3, h4⟩ := hrows2 j (by omega)
            exact ⟨a, c, cj, by rw [List.getElem?_append_left (by omega)]; exact h1, h2, h3, h4⟩
          · obtain rfl : j = k + 1 := by omega
            exact ⟨a3, c3, _, by rw [List.getElem?_append_right (by omega), hcl]; simp, HG2.out, hgr2, hN4⟩
        case measure => simp [intOf]; omega
    · obtain rfl : k = L.length := by omega
      have hrun := HRUN.out
      rw [List.take_length] at hrun
      have HRUN2 := Lib.hid hrun
      clear hrun HRUN
      go_wp2_with (fail)
      refine bodyPost_ret (results_tmp2 rfl _ _ _) rfl ?_
      refine ⟨hS.toBelow (by simp), .inr ⟨cur, ao, co, HRUN2.out, rfl, cells, hS.result (T := 22) (by simp), fun j hj => ?_⟩⟩
      obtain ⟨a, c, cj, h1, h2, h3, h4⟩ := hrows j hj
      exact ⟨a, c, cj, h1, h2, h3, (Ints.later h4 hS (List.mem_of_getElem? (i := 1) rfl)).weaken (hS.isNew (List.mem_of_getElem? (i := 0) rfl))⟩
end Go.Proofs.Ytdibpfbibgicaaa
