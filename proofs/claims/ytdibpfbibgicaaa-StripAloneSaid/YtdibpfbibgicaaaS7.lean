/- S7: the law StripAlone, walked. -/
import Derived.Test.YtdibpfbibgicaaaS4
import Derived.Test.YtdibpfbibgicaaaA7
import Derived.Test.YtdibpfbibgicaaaB0
set_option linter.unusedVariables false
set_option linter.unusedSimpArgs false
namespace Go.Proofs.Ytdibpfbibgicaaa
open Go.RowKit Go.Hp

set_option maxHeartbeats 8000000 in
set_option maxRecDepth 100000 in
theorem alone_walk (a : Option Addr) (n c : Nat) (xs : List Int) (z : Int) (w : World) (hx : Ints w (Old w) (.slice a n c) xs) (hz : InI z) :
    Calls Try.prog 6 #[.slice a n c, .int .i64 z] w fun e w' => e = .returned (.bool true) ∧ Below w.heap.size w w' := by
  have hS := Heap.start w
  have ha := aro_lt z (most := 14) (by omega)
  go_enter Try.func6, Try.ntmps6
  go_wp2_with (fail)
  refine (some_any _ _ _ 9 _ _ (hx.arg hS (by simp)) (by omega) (by omega)).mono ?_
  rintro e wg ⟨gv, W, N, rfl, hB1, hg, hG⟩
  have hv := hG.vg (by omega)
  have hle := hv.wlen
  have hS := hS.call hB1
  simp only [List.cons_append, List.nil_append, List.set_cons_succ, List.set_cons_zero, Value.cells, iv_snoc, tv_snoc] at hS
  simp only []
  go_step
  go_wp2_with (fail)
  refine (own_any _ _ _ _ (hg.arg hS (List.mem_of_getElem? (i := 1) rfl))).mono ?_
  rintro e w2 ⟨rfl, hB⟩
  have hS := hS.below hB
  obtain ⟨aw, cw, an, cn, rfl, hw, hnn⟩ := hg
  have hg : GraphAt wg (New w wg) (.agg #[.slice aw W.length cw, .slice an N.length cn]) W N := ⟨aw, cw, an, cn, rfl, hw, hnn⟩
  simp only []
  go_step
  go_wp2_with (first | ((with_reducible refine g_alloc (T := 34) ?_); refine seq_alloc (T := 34) hS Try.zeroValue34 (fun b5 wb5 hS => ?_); simp only [Act.put, List.setIfInBounds_toArray, List.set_cons_succ, List.set_cons_zero, Int.toNat_natCast, Int.toNat_zero, Int.toNat_one, nth_zero, nth_one]; simp only [List.cons_append, List.nil_append, List.set_cons_succ, List.set_cons_zero, Value.cells, iv_snoc, tv_snoc] at hS) | ((with_reducible refine g_store (T := 34) ?_); refine seq_store (T := 34) (u := .agg #[.slice _ _ _, .slice _ _ _]) 2 hS rfl rfl rfl Try.sizeOf34 (by simp [Value.cells, Value.oneCell']) (by simp [Value.cells]) (fun _ hS => ?_); simp only [Act.put, List.setIfInBounds_toArray, List.set_cons_succ, List.set_cons_zero, Int.toNat_natCast, Int.toNat_zero, Int.toNat_one, nth_zero, nth_one]; simp only [List.cons_append, List.nil_append, List.set_cons_succ, List.set_cons_zero, Value.cells, iv_snoc, tv_snoc] at hS; simp only [List.take_zero, List.nil_append, List.append_nil, List.drop_succ_cons, List.drop_zero, List.drop_nil, List.take_succ_cons, List.cons_append, List.size_toArray, List.length_cons, List.length_nil, Nat.reduceAdd] at hS) | ((with_reducible refine g_load (T := 34) ?_); refine seq_of hS rfl (stp_load_all (T := 34) 2 Try.isAgg34 Try.sizeOf34 rfl rfl rfl ?_); simp only [Act.put, List.setIfInBounds_toArray, List.set_cons_succ, List.set_cons_zero, Int.toNat_natCast, Int.toNat_zero, Int.toNat_one, nth_zero, nth_one]) | (go_at_call 10; refine (around_any _ _ _ (by omega) (by omega) hz).mono ?_; rintro e w' ⟨rfl, rfl⟩))
  refine (collapse_some _ _ W N 9 _ (hg.arg hS (List.mem_of_getElem? (i := 1) rfl)) hG (by omega) ⟨by omega, by omega⟩).mono ?_
  rintro e w4 ⟨hB4, l, ao, co, gw, gcw, gn, gcn, ai, ci, rfl, hcol, hs, hgw, hgn, hgi⟩
  have hS := hS.call hB4
  simp only [List.cons_append, List.nil_append, List.set_cons_succ, List.set_cons_zero, Value.cells, iv_snoc, tv_snoc] at hS
  have hkey : ∃ S, Strs w4 S (.slice ao l.length co) l ∧ Ints w4 S (.slice gw (qW W (runOf (List.range W.length) l)).length gcw) (qW W (runOf (List.range W.length) l)) ∧ Tris w4 S (.slice gn (qN N (runOf (List.range W.length) l)).length gcn) (qN N (runOf (List.range W.length) l)) ∧ Heap w w4 [.frz (Old w) w, .frz (New w wg) wg, .blk b5 (.cells #[.slice aw W.length cw, .slice an N.length cn] 34 (0, 0)), .frz S w4] := ⟨_, hs, hgw, hgn, hS⟩
  clear hS hs hgw hgn hgi
  obtain ⟨S4, hs, hgw, hgn, hS⟩ := hkey
  have hgr := hcol.1.gr0
  have hqv := hG.qvg (by omega) hgr.1
  have hgq : GraphAt w4 _ (.agg #[.slice gw (qW W (runOf (List.range W.length) l)).length gcw, .slice gn (qN N (runOf (List.range W.length) l)).length gcn]) (qW W (runOf (List.range W.length) l)) (qN N (runOf (List.range W.length) l)) := ⟨gw, gcw, gn, gcn, rfl, hgw, hgn⟩
  have hfl := finds_left hv hgr.1 hcol.2
  simp only []
  go_step
  go_wp2_with (first | ((with_reducible refine g_alloc (T := 34) ?_); refine seq_alloc (T := 34) hS Try.zeroValue34 (fun b8 wb8 hS => ?_); simp only [Act.put, List.setIfInBounds_toArray, List.set_cons_succ, List.set_cons_zero, Int.toNat_natCast, Int.toNat_zero, Int.toNat_one, nth_zero, nth_one]; simp only [List.cons_append, List.nil_append, List.set_cons_succ, List.set_cons_zero, Value.cells, iv_snoc, tv_snoc] at hS) | ((with_reducible refine g_store (T := 34) ?_); refine seq_store (T := 34) (u := .agg #[.slice _ _ _, .slice _ _ _]) 4 hS rfl rfl rfl Try.sizeOf34 (by simp [Value.cells, Value.oneCell']) (by simp [Value.cells]) (fun _ hS => ?_); simp only [Act.put, List.setIfInBounds_toArray, List.set_cons_succ, List.set_cons_zero, Int.toNat_natCast, Int.toNat_zero, Int.toNat_one, nth_zero, nth_one]; simp only [List.cons_append, List.nil_append, List.set_cons_succ, List.set_cons_zero, Value.cells, iv_snoc, tv_snoc] at hS; simp only [List.take_zero, List.nil_append, List.append_nil, List.drop_succ_cons, List.drop_zero, List.drop_nil, List.take_succ_cons, List.cons_append, List.size_toArray, List.length_cons, List.length_nil, Nat.reduceAdd] at hS) | ((with_reducible refine g_load (T := 34) ?_); refine seq_of hS rfl (stp_load_all (T := 34) 4 Try.isAgg34 Try.sizeOf34 rfl rfl rfl ?_); simp only [Act.put, List.setIfInBounds_toArray, List.set_cons_succ, List.set_cons_zero, Int.toNat_natCast, Int.toNat_zero, Int.toNat_one, nth_zero, nth_one]))
  have hsf := sfind_ok _ (1 + aro z 14) _ _ _ (hgq.arg hS (List.mem_of_getElem? (i := 3) rfl)) hqv ⟨by omega, by omega⟩
  rw [hfl] at hsf
  refine hsf.mono ?_
  rintro e w6 ⟨af, cf, rfl, hB6, _⟩
  have hS := hS.below hB6
  have hll : l.length ≤ 4096 := by omega
  simp only []
  go_step
  simp only [List.length_nil]
  go_wp2_with (first | ((with_reducible refine g_load (T := 22) ?_); refine seq_of hS rfl (stp_load_blk (T := 22) 2 Try.isAgg22 rfl rfl rfl ?_); simp only [Act.put, List.setIfInBounds_toArray, List.set_cons_succ, List.set_cons_zero, Int.toNat_natCast, Int.toNat_zero, Int.toNat_one, nth_zero, nth_one]))
  have hs' : SlC w4 S4 4 (.slice ao l.length co) l.length (isv (l.map toIS)) := by rw [← sv_isv]; exact hs
  clear hsf hfl hgq hgw hgn
  simp only [List.getElem_toArray, List.getElem_cons_zero, List.getElem_cons_succ]
  go_loopw [13] (fun i wr => ∃ k : Nat, k ≤ l.length ∧ i = .int .i64 k ∧ Heap w wr [.frz (Old w) w, .frz (New w wg) wg, .blk b5 (.cells #[.slice aw W.length cw, .slice an N.length cn] 34 (0, 0)), .frz S4 w4, .blk b8 (.cells #[.slice gw (qW W (runOf (List.range W.length) l)).length gcw, .slice gn (qN N (runOf (List.range W.length) l)).length gcn] 34 (0, 0))]) (fun i _ => l.length - (intOf i).toNat)
  case atStart => exact ⟨0, by omega, rfl, hS⟩
  case round =>
    clear hS
    obtain ⟨k, hk, rfl, hS⟩ := hrel
    revert hS
    repeat (rename Heap _ _ _ => hZ; clear hZ)
    repeat (rename CellsAt _ _ _ _ => hZ; clear hZ)
    repeat (rename Below _ _ _ => hZ; clear hZ)
    intro hS
    by_cases hlk : k < l.length
    · have hcur := (hcol.1.take k).gr0.1
      have nx := next_is hcur (hcol.1.at k hlk)
      obtain ⟨⟨sf, sa, sb, si⟩, hls⟩ : ∃ s, l[k] = s := ⟨_, rfl⟩
      have HS : Hid (nth is0 (l.map toIS) ((k : Nat) : Int).toNat = ⟨sf, sa, sb, si⟩) := by
        unfold Hid
        rw [Int.toNat_natCast, nth_eq is0 _ _ (by rw [List.length_map]; exact hlk), List.getElem_map, hls]
        rfl
      rw [hls] at nx
      go_wp2_with (first | ((with_reducible refine g_load (T := 34) ?_); refine seq_of hS rfl (stp_load_all (T := 34) 2 Try.isAgg34 Try.sizeOf34 rfl rfl rfl ?_); simp only [Act.put, List.setIfInBounds_toArray, List.set_cons_succ, List.set_cons_zero, Int.toNat_natCast, Int.toNat_zero, Int.toNat_one, nth_zero, nth_one]))
      refine (open_str _ _ _ k l W N _ _ (hg.arg hS (List.mem_of_getElem? (i := 1) rfl)) hv (SlC.arg hs hS (List.mem_of_getElem? (i := 3) rfl)) hcol.1 (by omega)).mono ?_
      rintro e v5 ⟨hB5, ax, cx, rfl, hli⟩
      have hS := hS.call hB5
      simp only [List.cons_append, List.nil_append, List.set_cons_succ, List.set_cons_zero, Value.cells, iv_snoc, tv_snoc] at hS
      have hov := hG.over (by omega) hcur
      have hqk := hG.qvg (by omega) hcur
      simp only []
      go_step
      go_wp2_with (first | ((with_reducible refine g_load (T := 22) ?_); refine seq_of hS rfl (stp_load_blk (T := 22) 2 Try.isAgg22 rfl rfl rfl ?_); simp only [Act.put, List.setIfInBounds_toArray, List.set_cons_succ, List.set_cons_zero, Int.toNat_natCast, Int.toNat_zero, Int.toNat_one, nth_zero, nth_one]) | ((with_reducible refine g_load (T := 34) ?_); refine seq_of hS rfl (stp_load_all (T := 34) 2 Try.isAgg34 Try.sizeOf34 rfl rfl rfl ?_); simp only [Act.put, List.setIfInBounds_toArray, List.set_cons_succ, List.set_cons_zero, Int.toNat_natCast, Int.toNat_zero, Int.toNat_one, nth_zero, nth_one]) | ((with_reducible refine g_bs (T := 45) ?_); refine seq_bs1 (T := 45) (v := .slice _ _ _) hS Try.underlying45 Try.sizeOf22 Try.zeroValue22 rfl rfl rfl (by decide) (by decide) rfl (fun _ _ hS => ?_); simp only [Act.put, List.setIfInBounds_toArray, List.set_cons_succ, List.set_cons_zero, Int.toNat_natCast, Int.toNat_zero, Int.toNat_one, nth_zero, nth_one]; simp only [Value.cells] at hS))
      simp only [List.cons_append, List.nil_append, List.set_cons_succ, List.set_cons_zero, Value.cells, iv_snoc, tv_snoc] at hS
      refine (at_any _ _ _ _ _ _ _ _ _ _ _ (hg.arg hS (List.mem_of_getElem? (i := 1) rfl)) hv hcur (hli.arg hS (List.mem_of_getElem? (i := 5) rfl)) (hS.fz 6 rfl)).mono ?_
      rintro e v6 ⟨hB6, ⟨h0, _⟩ | ⟨_, gk, rfl, hgk⟩⟩
      · rw [hov] at h0; cases h0
      have hS := hS.call hB6
      simp only [List.cons_append, List.nil_append, List.set_cons_succ, List.set_cons_zero, Value.cells, iv_snoc, tv_snoc] at hS
      obtain ⟨kw, kcw, kn, kcn, rfl, hkw, hkn⟩ := hgk
      obtain ⟨qt, hft⟩ := finds_next hv hcur nx
      have hface := nx.face
      have hla := nx.la
      have hlb := nx.lb
      have hinto := nx.into
      have hlen := fun y z (hy : y < W.length) (hyy : nth 0 (runOf (List.range W.length) (l.take k)) y = y) (hne : sf ≠ y) (hc : 0 < common N (runOf (List.range W.length) (l.take k)) sf y) (hz : LenOf (qN N (runOf (List.range W.length) (l.take k))) (nth 0 (idx (runOf (List.range W.length) (l.take k))) sf : Nat) (nth 0 (idx (runOf (List.range W.length) (l.take k))) y : Nat) z) => (show z = common N (runOf (List.range W.length) (l.take k)) sf y from len_heads hcur nx.face hy nx.hface hyy hne hc hz)
      have nha := nx.ha
      have nhb := nx.hb
      have nea := nx.nea
      have neb := nx.neb
      have nca := nx.ca
      have ncb := nx.cb
      have ninb := nx.inb
      have nio := nx.io
      have nab := nx.ab
      simp only at hface hla hlb hinto nha nhb nea neb nca ncb ninb nio nab hft
      generalize runOf (List.range W.length) (l.take k) = cur at *
      obtain ⟨B, hB⟩ : ∃ B, idx cur = B := ⟨_, rfl⟩
      rw [hB] at hli hft hlen
      obtain ⟨Wk, hWk⟩ : ∃ Wk, qW W cur = Wk := ⟨_, rfl⟩
      obtain ⟨Nk, hNk⟩ : ∃ Nk, qN N cur = Nk := ⟨_, rfl⟩
      rw [hWk] at hkw hqk hft ⊢
      rw [hNk] at hkn hqk hft hlen ⊢
      obtain ⟨CA, hCA⟩ : ∃ CA, common N cur sf sa = CA := ⟨_, rfl⟩
      obtain ⟨CB, hCB⟩ : ∃ CB, common N cur sf sb = CB := ⟨_, rfl⟩
      have hlA := fun z => hlen sa z hla nha nea nca
      have hlB := fun z => hlen sb z hlb nhb neb ncb
      rw [hCA] at nca ninb hlA
      rw [hCB] at ncb ninb hlB
      have hgk : GraphAt v6 _ (.agg #[.slice kw Wk.length kcw, .slice kn Nk.length kcn]) Wk Nk := ⟨kw, kcw, kn, kcn, rfl, hkw, hkn⟩
      obtain ⟨Q, hQ, hQ0⟩ : ∃ Q : List Nat, finds Wk Nk (List.range Wk.length) (1 + aro z 14) = Q ∧ Q = nth 0 B sf :: qt := ⟨_, rfl, hft⟩
      have hql : 0 < Q.length := by rw [hQ0]; simp
      have hq0 : nth 0 Q 0 = nth 0 B sf := by rw [hQ0]; rfl
      clear hCA hCB hNk hWk hB hft hlen hQ0 hov nha nhb hx hz hcol hgr hqv hcur nx hw hnn
      revert hS
      repeat (rename Heap _ _ _ => hZ; clear hZ)
      repeat (rename CellsAt _ _ _ _ => hZ; clear hZ)
      repeat (rename Below _ _ _ => hZ; clear hZ)
      intro hS
      simp only []
      go_step
      go_wp2_with (first | ((with_reducible refine g_alloc (T := 34) ?_); refine seq_alloc (T := 34) hS Try.zeroValue34 (fun b16 wb16 hS => ?_); simp only [Act.put, List.setIfInBounds_toArray, List.set_cons_succ, List.set_cons_zero, Int.toNat_natCast, Int.toNat_zero, Int.toNat_one, nth_zero, nth_one]; simp only [List.cons_append, List.nil_append, List.set_cons_succ, List.set_cons_zero, Value.cells, iv_snoc, tv_snoc] at hS) | ((with_reducible refine g_store (T := 34) ?_); refine seq_store (T := 34) (u := .agg #[.slice _ _ _, .slice _ _ _]) 8 hS rfl rfl rfl Try.sizeOf34 (by simp [Value.cells, Value.oneCell']) (by simp [Value.cells]) (fun _ hS => ?_); simp only [Act.put, List.setIfInBounds_toArray, List.set_cons_succ, List.set_cons_zero, Int.toNat_natCast, Int.toNat_zero, Int.toNat_one, nth_zero, nth_one]; simp only [List.cons_append, List.nil_append, List.set_cons_succ, List.set_cons_zero, Value.cells, iv_snoc, tv_snoc] at hS; simp only [List.take_zero, List.nil_append, List.append_nil, List.drop_succ_cons, List.drop_zero, List.drop_nil, List.take_succ_cons, List.cons_append, List.size_toArray, List.length_cons, List.length_nil, Nat.reduceAdd] at hS) | ((with_reducible refine g_load (T := 34) ?_); refine seq_of hS rfl (stp_load_all (T := 34) 8 Try.isAgg34 Try.sizeOf34 rfl rfl rfl ?_); simp only [Act.put, List.setIfInBounds_toArray, List.set_cons_succ, List.set_cons_zero, Int.toNat_natCast, Int.toNat_zero, Int.toNat_one, nth_zero, nth_one]))
      have hsf := sfind_ok _ (1 + aro z 14) _ _ _ (hgk.arg hS (List.mem_of_getElem? (i := 7) rfl)) hqk ⟨by omega, by omega⟩
      rw [hQ] at hsf
      refine hsf.mono ?_
      rintro e v7 ⟨aq, cq, rfl, hB7, hNq⟩
      have hS := hS.call hB7
      simp only [List.cons_append, List.nil_append, List.set_cons_succ, List.set_cons_zero, Value.cells, iv_snoc, tv_snoc] at hS
      clear hsf
      revert hS
      repeat (rename Heap _ _ _ => hZ; clear hZ)
      repeat (rename CellsAt _ _ _ _ => hZ; clear hZ)
      repeat (rename Below _ _ _ => hZ; clear hZ)
      intro hS
      have f1 : (((nth 0 Q 0 : Nat) : Int) == ((nth 0 B sf : Nat) : Int)) = true := by simp [hq0]
      have f2 : (((Q.length : Nat) : Int) == 0) = false := by simp; intro h; rw [h] at hql; simp at hql
      have v1 : decide (((sf : Nat) : Int) < 0) = false := by simp
      have v2 : decide (((sa : Nat) : Int) < 0) = false := by simp
      have v3 : decide (((sb : Nat) : Int) < 0) = false := by simp
      have v4 : decide (((si : Nat) : Int) < 0) = false := by simp
      have g1 : decide (W.length ≤ sf) = false := by simp; omega
      have g2 : decide (W.length ≤ sa) = false := by simp; omega
      have g3 : decide (W.length ≤ sb) = false := by simp; omega
      have g4 : decide (W.length ≤ si) = false := by simp; omega
      simp only []
      go_step
      go_wp2_with (fail)
      refine wp_region_sched [.pure 0, .pure 1, .pure 2, .pure 3, .read 4, .pure 5, .pure 6, .pure 7, .pure 8, .read 9, .pure 10, .pure 11, .pure 12, .pure 13, .read 14, .pure 15, .pure 16, .pure 17, .pure 18, .read 19, .ext 20, .pure 21] [] (fun w' => Heap w w' _) (by kernel_rfl) (by as_aux_lemma => kernel_rfl) hS.drew (fun w1 hS => ?_)
      repeat (first | ((first | ((with_reducible refine m_pure ?_); refine skip_pure rfl rfl ?_) | ((with_reducible refine m_read ?_); refine skip_read rfl rfl ?_)); simp only [Act.put, List.setIfInBounds_toArray, List.set_cons_succ, List.set_cons_zero, Int.toNat_natCast, Int.toNat_zero, Int.toNat_one, nth_zero, nth_one]) | ((with_reducible refine m_pure ?_); refine sched_any rfl rfl (any_index_is (T := 36) HS Try.underlying36 Try.sizeOf74 rfl rfl (by with_reducible assumption) (by omega) (by omega) (fun _ _ _ => ?_)); simp only [Act.put, List.setIfInBounds_toArray, List.set_cons_succ, List.set_cons_zero, Int.toNat_natCast, Int.toNat_zero, Int.toNat_one, nth_zero, nth_one]) | ((with_reducible refine m_read ?_); refine sched_of rfl rfl (stp_load (T := 3) Try.isAgg3 rfl (by with_reducible assumption) (by simp) rfl ?_); simp only [Act.put, List.setIfInBounds_toArray, List.set_cons_succ, List.set_cons_zero, Int.toNat_natCast, Int.toNat_zero, Int.toNat_one, nth_zero, nth_one]) | ((with_reducible refine m_read ?_); refine sched_of rfl rfl (stp_loadj (T := 3) 1 Try.isAgg3 rfl (by with_reducible assumption) (by simp) rfl ?_); simp only [Act.put, List.setIfInBounds_toArray, List.set_cons_succ, List.set_cons_zero, Int.toNat_natCast, Int.toNat_zero, Int.toNat_one, nth_zero, nth_one]) | ((with_reducible refine m_read ?_); refine sched_of rfl rfl (stp_loadj (T := 3) 2 Try.isAgg3 rfl (by with_reducible assumption) (by simp) rfl ?_); simp only [Act.put, List.setIfInBounds_toArray, List.set_cons_succ, List.set_cons_zero, Int.toNat_natCast, Int.toNat_zero, Int.toNat_one, nth_zero, nth_one]) | ((with_reducible refine m_read ?_); refine sched_of rfl rfl (stp_loadj (T := 3) 3 Try.isAgg3 rfl (by with_reducible assumption) (by simp) rfl ?_); simp only [Act.put, List.setIfInBounds_toArray, List.set_cons_succ, List.set_cons_zero, Int.toNat_natCast, Int.toNat_zero, Int.toNat_one, nth_zero, nth_one]) | ((with_reducible refine m_pure ?_); refine run_pure rfl rfl (fun K hK => ?_); go_simp; refine hK _ ?_; clear hK K))
      refine ext_at rfl ?_
      ((with_reducible refine g_bs (T := 22) ?_); refine seq_bsL (n := 4) (k := 1) (z := .int .i64 0) (T := 22) hS Try.underlying22 Try.sizeOf3 Try.zeroValue3 (by decide) (by decide) (fill4 _ _ _ _) rfl rfl (fun bn wbn hS => ?_); simp only [Act.put, List.setIfInBounds_toArray, List.set_cons_succ, List.set_cons_zero, Int.toNat_natCast, Int.toNat_zero, Int.toNat_one, nth_zero, nth_one]; simp only [List.cons_append, List.nil_append, List.set_cons_succ, List.set_cons_zero, Value.cells, iv_snoc, tv_snoc] at hS)
      generalize New _ v5 = S5 at *
      generalize New _ v6 = S6 at *
      generalize New _ v7 = S7 at *
      refine ext_end (hS.sub (by repeat (first | exact List.Sublist.refl _ | apply List.Sublist.cons_cons | apply List.Sublist.cons | exact List.nil_sublist _))) ?_
      repeat (first | ((first | ((with_reducible refine m_pure ?_); refine skip_pure rfl rfl ?_) | ((with_reducible refine m_read ?_); refine skip_read rfl rfl ?_)); simp only [Act.put, List.setIfInBounds_toArray, List.set_cons_succ, List.set_cons_zero, Int.toNat_natCast, Int.toNat_zero, Int.toNat_one, nth_zero, nth_one]) | fail | ((with_reducible refine m_pure ?_); refine run_pure rfl rfl (fun K hK => ?_); go_simp; refine hK _ ?_; clear hK K))
      refine sched_nil ?_
      simp only [NoPanic]
      go_wp2_with (fail)
      revert hS
      repeat (rename Heap _ _ _ => hZ; clear hZ)
      repeat (rename CellsAt _ _ _ _ => hZ; clear hZ)
      repeat (rename Below _ _ _ => hZ; clear hZ)
      intro hS
      go_loopw [21] (fun i wr' => ∃ j : Nat, j ≤ 4 ∧ i = .int .i64 j ∧ Heap w wr' [.frz (Old w) w, .frz (New w wg) wg, .blk b5 (.cells #[.slice aw W.length cw, .slice an N.length cn] 34 (0, 0)), .frz S4 w4, .blk b8 (.cells #[.slice gw (qW W (runOf (List.range W.length) l)).length gcw, .slice gn (qN N (runOf (List.range W.length) l)).length gcn] 34 (0, 0)), .frz S5 v5, .frz S6 v6, .blk b16 (.cells #[.slice kw Wk.length kcw, .slice kn Nk.length kcn] 34 (0, 0)), .frz S7 v7, .blk bn (.cells #[.int .i64 sf, .int .i64 sa, .int .i64 sb, .int .i64 si] 3 (0, 0))]) (fun i _ => 4 - (intOf i).toNat)
      case atStart => exact ⟨0, by omega, rfl, (hS.sub (by repeat (first | exact List.Sublist.refl _ | apply List.Sublist.cons_cons | apply List.Sublist.cons | exact List.nil_sublist _)))⟩
      case round =>
        clear hS
        obtain ⟨j, hj, rfl, hS⟩ := hrel
        by_cases hj4 : j < 4
        · rcases (show j = 0 ∨ j = 1 ∨ j = 2 ∨ j = 3 by omega) with rfl | rfl | rfl | rfl
          all_goals
            go_wp2_with (first | ((with_reducible refine g_load (T := 3) ?_); refine seq_of hS rfl (stp_load_blk (T := 3) 9 Try.isAgg3 rfl rfl rfl ?_); simp only [Act.put, List.setIfInBounds_toArray, List.set_cons_succ, List.set_cons_zero, Int.toNat_natCast, Int.toNat_zero, Int.toNat_one, nth_zero, nth_one]))
            go_roundw
          all_goals first | exact ⟨1, by omega, rfl, hS⟩ | exact ⟨2, by omega, rfl, hS⟩ | exact ⟨3, by omega, rfl, hS⟩ | exact ⟨4, by omega, rfl, hS⟩ | (simp [intOf])
        · obtain rfl : j = 4 := by omega
          revert hS
          repeat (rename Heap _ _ _ => hZ; clear hZ)
          repeat (rename CellsAt _ _ _ _ => hZ; clear hZ)
          repeat (rename Below _ _ _ => hZ; clear hZ)
          intro hS
          go_wp2_with (fail)
          refine wp_region_sched [.pure 0, .pure 1, .pure 2, .pure 3, .pure 4, .pure 5, .pure 6, .pure 7, .pure 8, .pure 9, .pure 10, .pure 11, .pure 12, .pure 13, .read 14, .pure 15, .pure 16, .pure 17, .pure 18, .pure 19, .read 20, .pure 21, .read 22, .pure 23, .pure 24] [] (fun w' => Heap w w' _) (by kernel_rfl) (by as_aux_lemma => kernel_rfl) hS.drew (fun w1 hS => ?_)
          repeat (first | ((first | ((with_reducible refine m_pure ?_); refine skip_pure rfl rfl ?_) | ((with_reducible refine m_read ?_); refine skip_read rfl rfl ?_)); simp only [Act.put, List.setIfInBounds_toArray, List.set_cons_succ, List.set_cons_zero, Int.toNat_natCast, Int.toNat_zero, Int.toNat_one, nth_zero, nth_one]) | ((with_reducible refine m_pure ?_); refine sched_any rfl rfl (any_index_is (T := 36) HS Try.underlying36 Try.sizeOf74 rfl rfl (by with_reducible assumption) (by omega) (by omega) (fun _ _ _ => ?_)); simp only [Act.put, List.setIfInBounds_toArray, List.set_cons_succ, List.set_cons_zero, Int.toNat_natCast, Int.toNat_zero, Int.toNat_one, nth_zero, nth_one]) | ((with_reducible refine m_pure ?_); refine sched_any rfl rfl (any_index_nat (T := 22) Try.underlying22 Try.sizeOf3 rfl rfl (by with_reducible assumption) (by omega) (by omega) (fun _ _ _ => ?_)); simp only [Act.put, List.setIfInBounds_toArray, List.set_cons_succ, List.set_cons_zero, Int.toNat_natCast, Int.toNat_zero, Int.toNat_one, nth_zero, nth_one]) | ((with_reducible refine m_read ?_); refine sched_of rfl rfl (stp_load (T := 3) Try.isAgg3 rfl (by with_reducible assumption) (by simp) rfl ?_); simp only [Act.put, List.setIfInBounds_toArray, List.set_cons_succ, List.set_cons_zero, Int.toNat_natCast, Int.toNat_zero, Int.toNat_one, nth_zero, nth_one]) | ((with_reducible refine m_pure ?_); refine run_pure rfl rfl (fun K hK => ?_); go_simp; refine hK _ ?_; clear hK K))
          refine sched_nil ?_
          simp only [NoPanic]
          go_wp2_with (fail)
          revert hS
          repeat (rename Heap _ _ _ => hZ; clear hZ)
          repeat (rename CellsAt _ _ _ _ => hZ; clear hZ)
          repeat (rename Below _ _ _ => hZ; clear hZ)
          intro hS
          refine wp_region_sched [.read 0, .pure 1, .pure 2, .pure 3, .pure 4, .pure 5, .read 6, .pure 7, .read 8, .pure 9, .pure 10, .pure 11, .pure 12, .pure 13, .read 14, .pure 15, .read 16, .read 18, .pure 19, .pure 20, .pure 21, .pure 22, .pure 23, .read 24, .pure 25, .read 26, .pure 27, .pure 28, .pure 29, .pure 30, .pure 31, .read 32, .pure 33, .read 34, .ext 17, .ext 35, .pure 36, .pure 37] [] (fun w' => Heap w w' _) (by kernel_rfl) (by as_aux_lemma => kernel_rfl) hS.drew (fun w1 hS => ?_)
          repeat (first | ((first | ((with_reducible refine m_pure ?_); refine skip_pure rfl rfl ?_) | ((with_reducible refine m_read ?_); refine skip_read rfl rfl ?_)); simp only [Act.put, List.setIfInBounds_toArray, List.set_cons_succ, List.set_cons_zero, Int.toNat_natCast, Int.toNat_zero, Int.toNat_one, nth_zero, nth_one]) | ((with_reducible refine m_pure ?_); refine sched_any rfl rfl (any_index_is (T := 36) HS Try.underlying36 Try.sizeOf74 rfl rfl (by with_reducible assumption) (by omega) (by omega) (fun _ _ _ => ?_)); simp only [Act.put, List.setIfInBounds_toArray, List.set_cons_succ, List.set_cons_zero, Int.toNat_natCast, Int.toNat_zero, Int.toNat_one, nth_zero, nth_one]) | ((with_reducible refine m_pure ?_); refine sched_any rfl rfl (any_index_nat (T := 22) Try.underlying22 Try.sizeOf3 rfl rfl (by with_reducible assumption) (by omega) (by omega) (fun _ _ _ => ?_)); simp only [Act.put, List.setIfInBounds_toArray, List.set_cons_succ, List.set_cons_zero, Int.toNat_natCast, Int.toNat_zero, Int.toNat_one, nth_zero, nth_one]) | ((with_reducible refine m_read ?_); refine sched_of rfl rfl (stp_load (T := 3) Try.isAgg3 rfl (by with_reducible assumption) (by simp) rfl ?_); simp only [Act.put, List.setIfInBounds_toArray, List.set_cons_succ, List.set_cons_zero, Int.toNat_natCast, Int.toNat_zero, Int.toNat_one, nth_zero, nth_one]) | ((with_reducible refine m_read ?_); refine sched_of rfl rfl (stp_loadj (T := 3) 1 Try.isAgg3 rfl (by with_reducible assumption) (by simp) rfl ?_); simp only [Act.put, List.setIfInBounds_toArray, List.set_cons_succ, List.set_cons_zero, Int.toNat_natCast, Int.toNat_zero, Int.toNat_one, nth_zero, nth_one]) | ((with_reducible refine m_read ?_); refine sched_of rfl rfl (stp_loadj (T := 3) 2 Try.isAgg3 rfl (by with_reducible assumption) (by simp) rfl ?_); simp only [Act.put, List.setIfInBounds_toArray, List.set_cons_succ, List.set_cons_zero, Int.toNat_natCast, Int.toNat_zero, Int.toNat_one, nth_zero, nth_one]) | ((with_reducible refine m_read ?_); refine sched_of rfl rfl (stp_load_all (T := 34) 7 Try.isAgg34 Try.sizeOf34 rfl rfl rfl ?_); simp only [Act.put, List.setIfInBounds_toArray, List.set_cons_succ, List.set_cons_zero, Int.toNat_natCast, Int.toNat_zero, Int.toNat_one, nth_zero, nth_one]) | ((with_reducible refine m_pure ?_); refine run_pure rfl rfl (fun K hK => ?_); go_simp; refine hK _ ?_; clear hK K))
          refine ext_at rfl ?_
          go_wp2_with (fail)
          refine (length_any _ _ _ _ _ _ (hgk.arg hS (List.mem_of_getElem? (i := 6) rfl)) hqk).mono ?_
          rintro e w' ⟨hBa, za, rfl, hza⟩
          simp only []
          go_step
          have hS := hS.below hBa
          obtain rfl := hlA za hza
          refine ext_end (hS.sub (by repeat (first | exact List.Sublist.refl _ | apply List.Sublist.cons_cons | apply List.Sublist.cons | exact List.nil_sublist _))) ?_
          refine ext_at rfl ?_
          go_wp2_with (fail)
          refine (length_any _ _ _ _ _ _ (hgk.arg hS (List.mem_of_getElem? (i := 6) rfl)) hqk).mono ?_
          rintro e w' ⟨hBb, zb, rfl, hzb⟩
          simp only []
          go_step
          have hS := hS.below hBb
          obtain rfl := hlB zb hzb
          refine ext_end (hS.sub (by repeat (first | exact List.Sublist.refl _ | apply List.Sublist.cons_cons | apply List.Sublist.cons | exact List.nil_sublist _))) ?_
          repeat (first | ((first | ((with_reducible refine m_pure ?_); refine skip_pure rfl rfl ?_) | ((with_reducible refine m_read ?_); refine skip_read rfl rfl ?_)); simp only [Act.put, List.setIfInBounds_toArray, List.set_cons_succ, List.set_cons_zero, Int.toNat_natCast, Int.toNat_zero, Int.toNat_one, nth_zero, nth_one]) | fail | ((with_reducible refine m_pure ?_); refine run_pure rfl rfl (fun K hK => ?_); go_simp; refine hK _ ?_; clear hK K))
          refine sched_nil ?_
          simp only [NoPanic]
          go_wp2_with (fail)
          have k1 : (za == 0) = false := by simp; omega
          have k2 : (zb == 0) = false := by simp; omega
          have k3 : decide (sb ≤ sa) = false := by simp; omega
          clear f1 f2 v1 v2 v3 v4 g1 g2 g3 g4 hlA hlB hza hzb hq0 hql hNq
          have hcs : (((((si : Nat) : Int) == (sb : Nat)) = false) ∧ decide (za < zb) = false ∧ ((((si : Nat) : Int) != (sa : Nat)) = false)) ∨ (((((si : Nat) : Int) == (sb : Nat)) = true) ∧ decide (za < zb) = true ∧ ((((si : Nat) : Int) != (sa : Nat)) = true) ∧ ((((si : Nat) : Int) != (sb : Nat)) = false)) := by
            rcases nio with h | h
            · left
              have : ¬ za < zb := fun hc => by have := ninb.2 hc; omega
              refine ⟨by simp; omega, by simp; omega, by simp; omega⟩
            · right
              have := ninb.1 h
              refine ⟨by simp; omega, by simp; omega, by simp; omega, by simp; omega⟩
          clear ninb nio nab nca ncb hkw hkn hgk hli hqk hG hv hface hla hlb hinto nea neb ha hQ hs hg
          revert hS
          repeat (rename Heap _ _ _ => hZ; clear hZ)
          repeat (rename CellsAt _ _ _ _ => hZ; clear hZ)
          repeat (rename Below _ _ _ => hZ; clear hZ)
          intro hS
          refine wp_region_sched [.pure 0, .pure 1, .pure 2, .pure 3, .pure 4, .pure 5, .pure 6, .pure 7, .pure 8, .pure 9, .pure 10, .read 11, .pure 12, .pure 13, .pure 14, .pure 15, .read 16, .pure 17, .pure 18, .pure 19, .pure 20, .pure 21, .pure 22, .pure 23, .read 24, .pure 25, .pure 26, .pure 27, .pure 28, .read 29, .pure 30, .pure 31, .pure 32, .pure 33, .pure 34, .pure 35, .pure 36, .pure 37, .pure 38, .pure 39, .pure 40, .read 41, .pure 42, .pure 43, .pure 44, .pure 45, .read 46, .pure 47, .pure 48, .pure 49, .pure 50, .pure 51, .pure 52, .read 53, .pure 54, .pure 55, .pure 56, .pure 57, .read 58, .pure 59, .pure 60, .pure 61] [] (fun w' => Heap w w' _) (by kernel_rfl) (by as_aux_lemma => kernel_rfl) hS.drew (fun w1 hS => ?_)
          ((with_reducible refine m_pure ?_); refine run_pure rfl rfl (fun K hK => ?_); go_simp; refine hK _ ?_; clear hK K); ((with_reducible refine m_pure ?_); refine run_pure rfl rfl (fun K hK => ?_); go_simp; refine hK _ ?_; clear hK K); ((with_reducible refine m_pure ?_); refine run_pure rfl rfl (fun K hK => ?_); go_simp; refine hK _ ?_; clear hK K); ((with_reducible refine m_pure ?_); refine run_pure rfl rfl (fun K hK => ?_); go_simp; refine hK _ ?_; clear hK K); ((with_reducible refine m_pure ?_); refine run_pure rfl rfl (fun K hK => ?_); go_simp; refine hK _ ?_; clear hK K); ((with_reducible refine m_pure ?_); refine run_pure rfl rfl (fun K hK => ?_); go_simp; refine hK _ ?_; clear hK K); ((with_reducible refine m_pure ?_); refine run_pure rfl rfl (fun K hK => ?_); go_simp; refine hK _ ?_; clear hK K); ((with_reducible refine m_pure ?_); refine run_pure rfl rfl (fun K hK => ?_); go_simp; refine hK _ ?_; clear hK K); ((with_reducible refine m_pure ?_); refine run_pure rfl rfl (fun K hK => ?_); go_simp; refine hK _ ?_; clear hK K); ((with_reducible refine m_pure ?_); refine sched_any rfl rfl (any_index_is (T := 36) HS Try.underlying36 Try.sizeOf74 rfl rfl (by with_reducible assumption) (by omega) (by omega) (fun _ _ _ => ?_)); simp only [Act.put, List.setIfInBounds_toArray, List.set_cons_succ, List.set_cons_zero, Int.toNat_natCast, Int.toNat_zero, Int.toNat_one, nth_zero, nth_one]); ((with_reducible refine m_pure ?_); refine run_pure rfl rfl (fun K hK => ?_); go_simp; refine hK _ ?_; clear hK K); ((with_reducible refine m_read ?_); refine sched_of rfl rfl (stp_loadj (T := 3) 1 Try.isAgg3 rfl (by with_reducible assumption) (by simp) rfl ?_); simp only [Act.put, List.setIfInBounds_toArray, List.set_cons_succ, List.set_cons_zero, Int.toNat_natCast, Int.toNat_zero, Int.toNat_one, nth_zero, nth_one]); ((with_reducible refine m_pure ?_); refine run_pure rfl rfl (fun K hK => ?_); go_simp; refine hK _ ?_; clear hK K); ((with_reducible refine m_pure ?_); refine run_pure rfl rfl (fun K hK => ?_); go_simp; refine hK _ ?_; clear hK K); ((with_reducible refine m_pure ?_); refine sched_any rfl rfl (any_index_is (T := 36) HS Try.underlying36 Try.sizeOf74 rfl rfl (by with_reducible assumption) (by omega) (by omega) (fun _ _ _ => ?_)); simp only [Act.put, List.setIfInBounds_toArray, List.set_cons_succ, List.set_cons_zero, Int.toNat_natCast, Int.toNat_zero, Int.toNat_one, nth_zero, nth_one]); ((with_reducible refine m_pure ?_); refine run_pure rfl rfl (fun K hK => ?_); go_simp; refine hK _ ?_; clear hK K); ((with_reducible refine m_read ?_); refine sched_of rfl rfl (stp_loadj (T := 3) 2 Try.isAgg3 rfl (by with_reducible assumption) (by simp) rfl ?_); simp only [Act.put, List.setIfInBounds_toArray, List.set_cons_succ, List.set_cons_zero, Int.toNat_natCast, Int.toNat_zero, Int.toNat_one, nth_zero, nth_one]); ((with_reducible refine m_pure ?_); refine run_pure rfl rfl (fun K hK => ?_); go_simp; refine hK _ ?_; clear hK K); ((with_reducible refine m_pure ?_); refine run_pure rfl rfl (fun K hK => ?_); go_simp; refine hK _ ?_; clear hK K); ((with_reducible refine m_pure ?_); refine run_pure rfl rfl (fun K hK => ?_); go_simp; refine hK _ ?_; clear hK K); ((with_reducible refine m_pure ?_); refine run_pure rfl rfl (fun K hK => ?_); go_simp; refine hK _ ?_; clear hK K); ((with_reducible refine m_pure ?_); refine run_pure rfl rfl (fun K hK => ?_); go_simp; refine hK _ ?_; clear hK K); ((with_reducible refine m_pure ?_); refine sched_any rfl rfl (any_index_is (T := 36) HS Try.underlying36 Try.sizeOf74 rfl rfl (by with_reducible assumption) (by omega) (by omega) (fun _ _ _ => ?_)); simp only [Act.put, List.setIfInBounds_toArray, List.set_cons_succ, List.set_cons_zero, Int.toNat_natCast, Int.toNat_zero, Int.toNat_one, nth_zero, nth_one]); ((with_reducible refine m_pure ?_); refine run_pure rfl rfl (fun K hK => ?_); go_simp; refine hK _ ?_; clear hK K); ((with_reducible refine m_read ?_); refine sched_of rfl rfl (stp_loadj (T := 3) 3 Try.isAgg3 rfl (by with_reducible assumption) (by simp) rfl ?_); simp only [Act.put, List.setIfInBounds_toArray, List.set_cons_succ, List.set_cons_zero, Int.toNat_natCast, Int.toNat_zero, Int.toNat_one, nth_zero, nth_one]); ((with_reducible refine m_pure ?_); refine run_pure rfl rfl (fun K hK => ?_); go_simp; refine hK _ ?_; clear hK K); ((with_reducible refine m_pure ?_); refine run_pure rfl rfl (fun K hK => ?_); go_simp; refine hK _ ?_; clear hK K); ((with_reducible refine m_pure ?_); refine sched_any rfl rfl (any_index_is (T := 36) HS Try.underlying36 Try.sizeOf74 rfl rfl (by with_reducible assumption) (by omega) (by omega) (fun _ _ _ => ?_)); simp only [Act.put, List.setIfInBounds_toArray, List.set_cons_succ, List.set_cons_zero, Int.toNat_natCast, Int.toNat_zero, Int.toNat_one, nth_zero, nth_one]); ((with_reducible refine m_pure ?_); refine run_pure rfl rfl (fun K hK => ?_); go_simp; refine hK _ ?_; clear hK K); ((with_reducible refine m_read ?_); refine sched_of rfl rfl (stp_loadj (T := 3) 2 Try.isAgg3 rfl (by with_reducible assumption) (by simp) rfl ?_); simp only [Act.put, List.setIfInBounds_toArray, List.set_cons_succ, List.set_cons_zero, Int.toNat_natCast, Int.toNat_zero, Int.toNat_one, nth_zero, nth_one])
          rcases hcs with ⟨m1, m2, m3⟩ | ⟨m1, m2, m3, m4⟩
          · ((with_reducible refine m_pure ?_); refine run_pure rfl rfl (fun K hK => ?_); go_simp; refine hK _ ?_; clear hK K); ((with_reducible refine m_pure ?_); refine run_pure rfl rfl (fun K hK => ?_); go_simp; refine hK _ ?_; clear hK K); ((with_reducible refine m_pure ?_); refine run_pure rfl rfl (fun K hK => ?_); go_simp; refine hK _ ?_; clear hK K); ((with_reducible refine m_pure ?_); refine run_pure rfl rfl (fun K hK => ?_); go_simp; refine hK _ ?_; clear hK K); ((with_reducible refine m_pure ?_); refine run_pure rfl rfl (fun K hK => ?_); go_simp; refine hK _ ?_; clear hK K); ((with_reducible refine m_pure ?_); refine run_pure rfl rfl (fun K hK => ?_); go_simp; refine hK _ ?_; clear hK K); ((with_reducible refine m_pure ?_); refine run_pure rfl rfl (fun K hK => ?_); go_simp; refine hK _ ?_; clear hK K); ((with_reducible refine m_pure ?_); refine run_pure rfl rfl (fun K hK => ?_); go_simp; refine hK _ ?_; clear hK K); ((with_reducible refine m_pure ?_); refine run_pure rfl rfl (fun K hK => ?_); go_simp; refine hK _ ?_; clear hK K); ((with_reducible refine m_pure ?_); refine sched_any rfl rfl (any_index_is (T := 36) HS Try.underlying36 Try.sizeOf74 rfl rfl (by with_reducible assumption) (by omega) (by omega) (fun _ _ _ => ?_)); simp only [Act.put, List.setIfInBounds_toArray, List.set_cons_succ, List.set_cons_zero, Int.toNat_natCast, Int.toNat_zero, Int.toNat_one, nth_zero, nth_one]); ((with_reducible refine m_pure ?_); refine run_pure rfl rfl (fun K hK => ?_); go_simp; refine hK _ ?_; clear hK K); ((with_reducible refine m_read ?_); refine sched_of rfl rfl (stp_loadj (T := 3) 3 Try.isAgg3 rfl (by with_reducible assumption) (by simp) rfl ?_); simp only [Act.put, List.setIfInBounds_toArray, List.set_cons_succ, List.set_cons_zero, Int.toNat_natCast, Int.toNat_zero, Int.toNat_one, nth_zero, nth_one]); ((with_reducible refine m_pure ?_); refine run_pure rfl rfl (fun K hK => ?_); go_simp; refine hK _ ?_; clear hK K); ((with_reducible refine m_pure ?_); refine run_pure rfl rfl (fun K hK => ?_); go_simp; refine hK _ ?_; clear hK K); ((with_reducible refine m_pure ?_); refine sched_any rfl rfl (any_index_is (T := 36) HS Try.underlying36 Try.sizeOf74 rfl rfl (by with_reducible assumption) (by omega) (by omega) (fun _ _ _ => ?_)); simp only [Act.put, List.setIfInBounds_toArray, List.set_cons_succ, List.set_cons_zero, Int.toNat_natCast, Int.toNat_zero, Int.toNat_one, nth_zero, nth_one]); ((with_reducible refine m_pure ?_); refine run_pure rfl rfl (fun K hK => ?_); go_simp; refine hK _ ?_; clear hK K); ((with_reducible refine m_read ?_); refine sched_of rfl rfl (stp_loadj (T := 3) 1 Try.isAgg3 rfl (by with_reducible assumption) (by simp) rfl ?_); simp only [Act.put, List.setIfInBounds_toArray, List.set_cons_succ, List.set_cons_zero, Int.toNat_natCast, Int.toNat_zero, Int.toNat_one, nth_zero, nth_one]); ((with_reducible refine m_pure ?_); refine run_pure rfl rfl (fun K hK => ?_); go_simp; refine hK _ ?_; clear hK K); ((with_reducible refine m_pure ?_); refine run_pure rfl rfl (fun K hK => ?_); go_simp; refine hK _ ?_; clear hK K)
            (iterate 11 (((first | ((with_reducible refine m_pure ?_); refine skip_pure rfl rfl ?_) | ((with_reducible refine m_read ?_); refine skip_read rfl rfl ?_)); simp only [Act.put, List.setIfInBounds_toArray, List.set_cons_succ, List.set_cons_zero, Int.toNat_natCast, Int.toNat_zero, Int.toNat_one, nth_zero, nth_one]))); ((with_reducible refine m_pure ?_); refine run_pure rfl rfl (fun K hK => ?_); go_simp; refine hK _ ?_; clear hK K); ((with_reducible refine m_pure ?_); refine run_pure rfl rfl (fun K hK => ?_); go_simp; refine hK _ ?_; clear hK K)
            refine sched_nil ?_
            simp only [NoPanic]
            go_wp2_with (fail)
            go_roundw
            case rel => exact ⟨k + 1, by omega, by go_num, (hS.sub (by repeat (first | exact List.Sublist.refl _ | apply List.Sublist.cons_cons | apply List.Sublist.cons | exact List.nil_sublist _)))⟩
            case measure => simp [intOf]; omega
          · ((with_reducible refine m_pure ?_); refine run_pure rfl rfl (fun K hK => ?_); go_simp; refine hK _ ?_; clear hK K); ((with_reducible refine m_pure ?_); refine run_pure rfl rfl (fun K hK => ?_); go_simp; refine hK _ ?_; clear hK K); ((with_reducible refine m_pure ?_); refine run_pure rfl rfl (fun K hK => ?_); go_simp; refine hK _ ?_; clear hK K); ((with_reducible refine m_pure ?_); refine run_pure rfl rfl (fun K hK => ?_); go_simp; refine hK _ ?_; clear hK K); ((with_reducible refine m_pure ?_); refine run_pure rfl rfl (fun K hK => ?_); go_simp; refine hK _ ?_; clear hK K); ((with_reducible refine m_pure ?_); refine run_pure rfl rfl (fun K hK => ?_); go_simp; refine hK _ ?_; clear hK K); ((with_reducible refine m_pure ?_); refine run_pure rfl rfl (fun K hK => ?_); go_simp; refine hK _ ?_; clear hK K); ((with_reducible refine m_pure ?_); refine run_pure rfl rfl (fun K hK => ?_); go_simp; refine hK _ ?_; clear hK K); ((with_reducible refine m_pure ?_); refine run_pure rfl rfl (fun K hK => ?_); go_simp; refine hK _ ?_; clear hK K); ((with_reducible refine m_pure ?_); refine sched_any rfl rfl (any_index_is (T := 36) HS Try.underlying36 Try.sizeOf74 rfl rfl (by with_reducible assumption) (by omega) (by omega) (fun _ _ _ => ?_)); simp only [Act.put, List.setIfInBounds_toArray, List.set_cons_succ, List.set_cons_zero, Int.toNat_natCast, Int.toNat_zero, Int.toNat_one, nth_zero, nth_one]); ((with_reducible refine m_pure ?_); refine run_pure rfl rfl (fun K hK => ?_); go_simp; refine hK _ ?_; clear hK K); ((with_reducible refine m_read ?_); refine sched_of rfl rfl (stp_loadj (T := 3) 3 Try.isAgg3 rfl (by with_reducible assumption) (by simp) rfl ?_); simp only [Act.put, List.setIfInBounds_toArray, List.set_cons_succ, List.set_cons_zero, Int.toNat_natCast, Int.toNat_zero, Int.toNat_one, nth_zero, nth_one]); ((with_reducible refine m_pure ?_); refine run_pure rfl rfl (fun K hK => ?_); go_simp; refine hK _ ?_; clear hK K); ((with_reducible refine m_pure ?_); refine run_pure rfl rfl (fun K hK => ?_); go_simp; refine hK _ ?_; clear hK K); ((with_reducible refine m_pure ?_); refine sched_any rfl rfl (any_index_is (T := 36) HS Try.underlying36 Try.sizeOf74 rfl rfl (by with_reducible assumption) (by omega) (by omega) (fun _ _ _ => ?_)); simp only [Act.put, List.setIfInBounds_toArray, List.set_cons_succ, List.set_cons_zero, Int.toNat_natCast, Int.toNat_zero, Int.toNat_one, nth_zero, nth_one]); ((with_reducible refine m_pure ?_); refine run_pure rfl rfl (fun K hK => ?_); go_simp; refine hK _ ?_; clear hK K); ((with_reducible refine m_read ?_); refine sched_of rfl rfl (stp_loadj (T := 3) 1 Try.isAgg3 rfl (by with_reducible assumption) (by simp) rfl ?_); simp only [Act.put, List.setIfInBounds_toArray, List.set_cons_succ, List.set_cons_zero, Int.toNat_natCast, Int.toNat_zero, Int.toNat_one, nth_zero, nth_one]); ((with_reducible refine m_pure ?_); refine run_pure rfl rfl (fun K hK => ?_); go_simp; refine hK _ ?_; clear hK K); ((with_reducible refine m_pure ?_); refine run_pure rfl rfl (fun K hK => ?_); go_simp; refine hK _ ?_; clear hK K)
            ((with_reducible refine m_pure ?_); refine run_pure rfl rfl (fun K hK => ?_); go_simp; refine hK _ ?_; clear hK K); ((with_reducible refine m_pure ?_); refine run_pure rfl rfl (fun K hK => ?_); go_simp; refine hK _ ?_; clear hK K); ((with_reducible refine m_pure ?_); refine sched_any rfl rfl (any_index_is (T := 36) HS Try.underlying36 Try.sizeOf74 rfl rfl (by with_reducible assumption) (by omega) (by omega) (fun _ _ _ => ?_)); simp only [Act.put, List.setIfInBounds_toArray, List.set_cons_succ, List.set_cons_zero, Int.toNat_natCast, Int.toNat_zero, Int.toNat_one, nth_zero, nth_one]); ((with_reducible refine m_pure ?_); refine run_pure rfl rfl (fun K hK => ?_); go_simp; refine hK _ ?_; clear hK K); ((with_reducible refine m_read ?_); refine sched_of rfl rfl (stp_loadj (T := 3) 3 Try.isAgg3 rfl (by with_reducible assumption) (by simp) rfl ?_); simp only [Act.put, List.setIfInBounds_toArray, List.set_cons_succ, List.set_cons_zero, Int.toNat_natCast, Int.toNat_zero, Int.toNat_one, nth_zero, nth_one]); ((with_reducible refine m_pure ?_); refine run_pure rfl rfl (fun K hK => ?_); go_simp; refine hK _ ?_; clear hK K); ((with_reducible refine m_pure ?_); refine run_pure rfl rfl (fun K hK => ?_); go_simp; refine hK _ ?_; clear hK K); ((with_reducible refine m_pure ?_); refine sched_any rfl rfl (any_index_is (T := 36) HS Try.underlying36 Try.sizeOf74 rfl rfl (by with_reducible assumption) (by omega) (by omega) (fun _ _ _ => ?_)); simp only [Act.put, List.setIfInBounds_toArray, List.set_cons_succ, List.set_cons_zero, Int.toNat_natCast, Int.toNat_zero, Int.toNat_one, nth_zero, nth_one]); ((with_reducible refine m_pure ?_); refine run_pure rfl rfl (fun K hK => ?_); go_simp; refine hK _ ?_; clear hK K); ((with_reducible refine m_read ?_); refine sched_of rfl rfl (stp_loadj (T := 3) 2 Try.isAgg3 rfl (by with_reducible assumption) (by simp) rfl ?_); simp only [Act.put, List.setIfInBounds_toArray, List.set_cons_succ, List.set_cons_zero, Int.toNat_natCast, Int.toNat_zero, Int.toNat_one, nth_zero, nth_one]); ((with_reducible refine m_pure ?_); refine run_pure rfl rfl (fun K hK => ?_); go_simp; refine hK _ ?_; clear hK K); ((with_reducible refine m_pure ?_); refine run_pure rfl rfl (fun K hK => ?_); go_simp; refine hK _ ?_; clear hK K); ((with_reducible refine m_pure ?_); refine run_pure rfl rfl (fun K hK => ?_); go_simp; refine hK _ ?_; clear hK K)
            refine sched_nil ?_
            simp only [NoPanic]
            go_wp2_with (fail)
            go_roundw
            case rel => exact ⟨k + 1, by omega, by go_num, (hS.sub (by repeat (first | exact List.Sublist.refl _ | apply List.Sublist.cons_cons | apply List.Sublist.cons | exact List.nil_sublist _)))⟩
            case measure => simp [intOf]; omega
    · obtain rfl : k = l.length := by omega
      go_wp2_with (first | (go_at_call 23; refine (lives_any _).mono ?_; rintro e w' ⟨rfl, hB⟩; have hS := hS.below hB))
      go_ret
      exact ⟨rfl, hS.toBelow (by simp)⟩
end Go.Proofs.Ytdibpfbibgicaaa
