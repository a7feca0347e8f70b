/- C5: strip.Across, strip.Open. -/
import Derived.Test.YtdibpfbibgicaaaC4
set_option linter.unusedVariables false
set_option linter.unusedSimpArgs false
namespace Go.Proofs.Ytdibpfbibgicaaa
open Go.RowKit Go.Hp

theorem Try.info57 : (Try.prog.info? 57).map (fun i => (i.zero, i.size, i.bytes)) = some (some (.agg #[.int .i64 0, .int .i64 0]), 2, 16) := by kernel_rfl

/-- The cells of pairs. -/
def pv (l : List (Int × Int)) : List Value := l.flatMap fun p => [.int .i64 p.1, .int .i64 p.2]
theorem pv_snoc (l : List (Int × Int)) (x y : Int) : pv l ++ [.int .i64 x, .int .i64 y] = pv (l ++ [(x, y)]) := by simp [pv]

/-- The pairs that touched only across a strip. -/
def acr (N : List Tri) (of : List Nat) : List IS → List (Int × Int)
  | [] => []
  | s :: l => (if common N of s.a.toNat s.b.toNat = 0 then [(s.a, s.b)] else []) ++ acr N (mrg of s.face.toNat s.into.toNat) l
theorem acr_snoc (N : List Tri) (s : IS) : ∀ (l : List IS) (of cur : List Nat), runI of l = some cur → acr N of (l ++ [s]) = acr N of l ++ if common N cur s.a.toNat s.b.toNat = 0 then [(s.a, s.b)] else []
  | [], of, cur, h => by cases h; simp [acr]
  | t :: l, of, cur, h => by
    simp only [runI] at h
    split at h
    · simp only [List.cons_append, acr]
      rw [acr_snoc N s l _ cur h, List.append_assoc]
    · cases h
theorem acr_len (N : List Tri) : ∀ (l : List IS) (of : List Nat), (acr N of l).length ≤ l.length
  | [], of => Nat.le_refl _
  | s :: l, of => by
    simp only [acr, List.length_append, List.length_cons]
    have := acr_len N l (mrg of s.face.toNat s.into.toNat)
    split <;> simp <;> omega

/-- What Across notes: the pointer to the groups, the box of the list, the list. -/
def acrNX (N : List Tri) (n bs b7 b8 : Nat) (p : List IS) (X : List Chunk) : Prop :=
  ∃ (ao : Option Addr) (co : Nat), X = [.blk b7 (.cells #[.pointer (some ⟨bs, 0, none⟩)] 77 (0, 0)), .blk b8 (.cells #[.slice ao (acr N (List.range n) p).length co] 61 (0, 0)), .row (.slice ao (acr N (List.range n) p).length co) 57 2 (acr N (List.range n) p).length (pv (acr N (List.range n) p))]

set_option maxHeartbeats 2000000 in
set_option maxRecDepth 100000 in
theorem acrNote (a : Option Addr) (c bw bs b7 b8 : Nat) (W : List Int) (N : List Tri) (LL0 : Nat) (hL : LL0 ≤ 1000000) (hv : VG W N) (p : List IS) (s : IS) (X : List Chunk) (cur : List Nat) (bl : Nat) (ow ol : Obj) (lw : List (Int × Int)) (ll : LL) (S : Nat → Prop) (w : World)
    (hX : acrNX N W.length bs b7 b8 p X) (hlen : (p ++ [s]).length ≤ LL0) (hok : OkIs W.length cur s) (hgr : Gr W.length cur) (hst : StOk W N cur lw ll) (hmw : MapIs ik ik ow lw) (hml : MapIs pk ik ol ll) (hrun : runI (List.range W.length) p = some cur)
    (hS : Heap w w (.frz S w :: (X ++ stH a W.length c bw bl bs cur ow ol))) :
    Calls Try.prog 51 (#[.agg #[.int .i64 s.face, .int .i64 s.a, .int .i64 s.b, .int .i64 s.into]] ++ #[.pointer (some ⟨b7, 0, none⟩), .pointer (some ⟨b8, 0, none⟩)]) w fun e w' => e = .returned (.tuple #[]) ∧ ∃ X', acrNX N W.length bs b7 b8 (p ++ [s]) X' ∧ Heap w w' (.frz S w :: (X' ++ stH a W.length c bw bl bs cur ow ol)) := by
  obtain ⟨ao, co, rfl⟩ := hX
  simp only [stH, List.cons_append, List.nil_append] at hS
  have hsn := acr_snoc N s p _ cur hrun
  have hal := acr_len N p (List.range W.length)
  rw [List.length_append] at hlen
  obtain ⟨sf, sa, sb, si⟩ := s
  have q2 := hok.pa
  have q3 := hok.pb
  dsimp only at q2 q3 hsn
  obtain ⟨sa, rfl⟩ : ∃ z : Nat, sa = z := ⟨sa.toNat, by omega⟩
  obtain ⟨sb, rfl⟩ : ∃ z : Nat, sb = z := ⟨sb.toNat, by omega⟩
  have hla := hok.la
  have hlb := hok.lb
  have hha := hok.ha
  have hhb := hok.hb
  have hab := hok.ab
  simp only [Int.toNat_natCast] at hla hlb hha hhb hsn
  dsimp only at hab
  have hcm := lenL_common hst hv hla hlb hha hhb (by omega)
  have hcb := common_bd hv cur sa sb
  have HCM := Lib.hid hcm
  clear hcm hha hhb hok hrun
  simp only [List.length_cons, List.length_nil] at hlen
  generalize hA : acr N (List.range W.length) p = A at hS hsn hal
  clear hA
  have hgoal : ∀ (e : Ending) (w' : World), (e = .returned (.tuple #[]) ∧ ∃ (ao : Option Addr) (co : Nat) (B : List (Int × Int)), Hid (acr N (List.range W.length) (p ++ [⟨sf, sa, sb, si⟩]) = B) ∧ Heap w w' [.frz S w, .blk b7 (.cells #[.pointer (some ⟨bs, 0, none⟩)] 77 (0, 0)), .blk b8 (.cells #[.slice ao B.length co] 61 (0, 0)), .row (.slice ao B.length co) 57 2 B.length (pv B), .row (.slice a W.length c) 3 1 W.length (iv (zs cur)), .blk bw ow, .blk bl ol, .blk bs (.cells #[.slice a W.length c, .map (some bw), .map (some bl)] 84 (0, 0))]) →
      (e = .returned (.tuple #[]) ∧ ∃ X', acrNX N W.length bs b7 b8 (p ++ [⟨sf, sa, sb, si⟩]) X' ∧ Heap w w' (.frz S w :: (X' ++ stH a W.length c bw bl bs cur ow ol))) := by
    rintro e w' ⟨he, ao, co, B, hB, hS⟩
    refine ⟨he, _, ⟨ao, co, rfl⟩, ?_⟩
    rw [hB.out]
    exact hS
  refine Calls.mono ?_ hgoal
  clear hgoal
  by_cases hc : common N cur sa sb = 0
  · rw [if_pos hc] at hsn
    have HSN := Lib.hid hsn
    have f1 : (common N cur sa sb == 0) = true := by simp [hc]
    clear hsn hc
    go_enter Try.func51, Try.ntmps51
    go_wp2_with (first | ((with_reducible refine g_box (T := 74) ?_); refine seq_box (T := 74) (v := .agg _) hS rfl (fun b3 wb3 hS => ?_); simp only [Act.put, List.setIfInBounds_toArray, List.set_cons_succ, List.set_cons_zero, Int.toNat_natCast, Int.toNat_zero, Int.toNat_one, nth_zero, nth_one]; simp only [List.cons_append, List.nil_append, List.set_cons_succ, List.set_cons_zero, Value.cells, iv_snoc, tv_snoc] at hS) | ((with_reducible refine g_load (T := 77) ?_); refine seq_of hS rfl (stp_load_blk (T := 77) 1 Try.isAgg77 rfl rfl rfl ?_); simp only [Act.put, List.setIfInBounds_toArray, List.set_cons_succ, List.set_cons_zero, Int.toNat_natCast, Int.toNat_zero, Int.toNat_one, nth_zero, nth_one]) | ((with_reducible refine g_load (T := 3) ?_); refine seq_of hS rfl (stp_load_blk (T := 3) 8 Try.isAgg3 rfl rfl rfl ?_); simp only [Act.put, List.setIfInBounds_toArray, List.set_cons_succ, List.set_cons_zero, Int.toNat_natCast, Int.toNat_zero, Int.toNat_one, nth_zero, nth_one]) | (go_at_call 52; refine (scommon_any #[] _ _ _ _ _ _ _ _ _ (hS.fz 7 rfl) (hS.fz 6 rfl) hml).mono ?_; rintro e w' ⟨rfl, hB⟩; have hS := hS.below hB; rw [HCM.out]) | ((with_reducible refine g_load (T := 61) ?_); refine seq_of hS rfl (stp_load_blk (T := 61) 2 Try.isAgg61 rfl rfl rfl ?_); simp only [Act.put, List.setIfInBounds_toArray, List.set_cons_succ, List.set_cons_zero, Int.toNat_natCast, Int.toNat_zero, Int.toNat_one, nth_zero, nth_one]) | ((with_reducible refine g_bs (T := 61) ?_); refine seq_bs1 (T := 61) (v := .agg _) hS Try.underlying61 Try.sizeOf57 Try.zeroValue57 rfl rfl rfl (by decide) (by decide) rfl (fun _ _ hS => ?_); simp only [Act.put, List.setIfInBounds_toArray, List.set_cons_succ, List.set_cons_zero, Int.toNat_natCast, Int.toNat_zero, Int.toNat_one, nth_zero, nth_one]; simp only [Value.cells] at hS) | ((with_reducible refine g_app ?_); refine seq_append_lit (t := 61) 3 hS Try.underlying61 Try.info57 rfl (by decide) rfl rfl rfl rfl (by simp [Value.oneCell']) (by omega) (by unfold maxLen; omega) (fun a4 c4 _ hS => ?_); simp only [Act.put, List.setIfInBounds_toArray, List.set_cons_succ, List.set_cons_zero, Int.toNat_natCast, Int.toNat_zero, Int.toNat_one, nth_zero, nth_one]; simp only [List.cons_append, List.nil_append, List.set_cons_succ, List.set_cons_zero, Value.cells, iv_snoc, tv_snoc] at hS) | ((with_reducible refine g_store (T := 61) ?_); refine seq_store (T := 61) (u := .slice _ _ _) 2 hS rfl rfl rfl Try.sizeOf61 (by simp [Value.cells, Value.oneCell']) (by simp [Value.cells]) (fun _ hS => ?_); simp only [Act.put, List.setIfInBounds_toArray, List.set_cons_succ, List.set_cons_zero, Int.toNat_natCast, Int.toNat_zero, Int.toNat_one, nth_zero, nth_one]; simp only [List.cons_append, List.nil_append, List.set_cons_succ, List.set_cons_zero, Value.cells, iv_snoc, tv_snoc] at hS; simp only [List.take_zero, List.nil_append, List.append_nil, List.drop_succ_cons, List.drop_zero, List.drop_nil, List.take_succ_cons, List.cons_append, List.size_toArray, List.length_cons, List.length_nil, Nat.reduceAdd] at hS))
    rw [pv_snoc] at hS
    refine bodyPost_end (results_none rfl _ _ _) rfl ⟨rfl, a4, c4, A ++ [((sa : Int), (sb : Int))], HSN, ?_⟩
    simp only [List.length_append, List.length_cons, List.length_nil, Nat.zero_add]
    exact (hS.sub (by repeat (first | exact List.Sublist.refl _ | apply List.Sublist.cons_cons | apply List.Sublist.cons | exact List.nil_sublist _)))
  · rw [if_neg hc, List.append_nil] at hsn
    have HSN := Lib.hid hsn
    have f1 : (common N cur sa sb == 0) = false := by simp [hc]
    clear hsn hc
    go_enter Try.func51, Try.ntmps51
    go_wp2_with (first | ((with_reducible refine g_box (T := 74) ?_); refine seq_box (T := 74) (v := .agg _) hS rfl (fun b3 wb3 hS => ?_); simp only [Act.put, List.setIfInBounds_toArray, List.set_cons_succ, List.set_cons_zero, Int.toNat_natCast, Int.toNat_zero, Int.toNat_one, nth_zero, nth_one]; simp only [List.cons_append, List.nil_append, List.set_cons_succ, List.set_cons_zero, Value.cells, iv_snoc, tv_snoc] at hS) | ((with_reducible refine g_load (T := 77) ?_); refine seq_of hS rfl (stp_load_blk (T := 77) 1 Try.isAgg77 rfl rfl rfl ?_); simp only [Act.put, List.setIfInBounds_toArray, List.set_cons_succ, List.set_cons_zero, Int.toNat_natCast, Int.toNat_zero, Int.toNat_one, nth_zero, nth_one]) | ((with_reducible refine g_load (T := 3) ?_); refine seq_of hS rfl (stp_load_blk (T := 3) 8 Try.isAgg3 rfl rfl rfl ?_); simp only [Act.put, List.setIfInBounds_toArray, List.set_cons_succ, List.set_cons_zero, Int.toNat_natCast, Int.toNat_zero, Int.toNat_one, nth_zero, nth_one]) | (go_at_call 52; refine (scommon_any #[] _ _ _ _ _ _ _ _ _ (hS.fz 7 rfl) (hS.fz 6 rfl) hml).mono ?_; rintro e w' ⟨rfl, hB⟩; have hS := hS.below hB; rw [HCM.out]) | ((with_reducible refine g_load (T := 61) ?_); refine seq_of hS rfl (stp_load_blk (T := 61) 2 Try.isAgg61 rfl rfl rfl ?_); simp only [Act.put, List.setIfInBounds_toArray, List.set_cons_succ, List.set_cons_zero, Int.toNat_natCast, Int.toNat_zero, Int.toNat_one, nth_zero, nth_one]) | ((with_reducible refine g_bs (T := 61) ?_); refine seq_bs1 (T := 61) (v := .agg _) hS Try.underlying61 Try.sizeOf57 Try.zeroValue57 rfl rfl rfl (by decide) (by decide) rfl (fun _ _ hS => ?_); simp only [Act.put, List.setIfInBounds_toArray, List.set_cons_succ, List.set_cons_zero, Int.toNat_natCast, Int.toNat_zero, Int.toNat_one, nth_zero, nth_one]; simp only [Value.cells] at hS) | ((with_reducible refine g_app ?_); refine seq_append_lit (t := 61) 3 hS Try.underlying61 Try.info57 rfl (by decide) rfl rfl rfl rfl (by simp [Value.oneCell']) (by omega) (by unfold maxLen; omega) (fun a4 c4 _ hS => ?_); simp only [Act.put, List.setIfInBounds_toArray, List.set_cons_succ, List.set_cons_zero, Int.toNat_natCast, Int.toNat_zero, Int.toNat_one, nth_zero, nth_one]; simp only [List.cons_append, List.nil_append, List.set_cons_succ, List.set_cons_zero, Value.cells, iv_snoc, tv_snoc] at hS) | ((with_reducible refine g_store (T := 61) ?_); refine seq_store (T := 61) (u := .slice _ _ _) 2 hS rfl rfl rfl Try.sizeOf61 (by simp [Value.cells, Value.oneCell']) (by simp [Value.cells]) (fun _ hS => ?_); simp only [Act.put, List.setIfInBounds_toArray, List.set_cons_succ, List.set_cons_zero, Int.toNat_natCast, Int.toNat_zero, Int.toNat_one, nth_zero, nth_one]; simp only [List.cons_append, List.nil_append, List.set_cons_succ, List.set_cons_zero, Value.cells, iv_snoc, tv_snoc] at hS; simp only [List.take_zero, List.nil_append, List.append_nil, List.drop_succ_cons, List.drop_zero, List.drop_nil, List.take_succ_cons, List.cons_append, List.size_toArray, List.length_cons, List.length_nil, Nat.reduceAdd] at hS))
    exact bodyPost_end (results_none rfl _ _ _) rfl ⟨rfl, ao, co, A, HSN, (hS.sub (by repeat (first | exact List.Sublist.refl _ | apply List.Sublist.cons_cons | apply List.Sublist.cons | exact List.nil_sublist _)))⟩

/-- A slice of pairs. -/
def Prs (w : World) (S : Nat → Prop) (v : Value) (l : List (Int × Int)) : Prop := SlC w S 2 v l.length (pv l)

set_option maxRecDepth 100000 in
theorem across_bad (gv lv : Value) (W : List Int) (N : List Tri) (w : World) (hg : GraphAt w (Old w) gv W N) (hv : validN W N ≠ 0) :
    Calls Try.prog 28 #[gv, lv] w fun e w' => e = .returned (.tuple #[.slice none 0 0, .int .i64 (validN W N)]) ∧ Below w.heap.size w w' := by
  have hg' := hg
  obtain ⟨aw, cw, an, cn, rfl, hw, hnn⟩ := hg'
  have hS := Heap.start w
  have f1 : (((validN W N : Nat) : Int) != 0) = true := by simp; omega
  go_enter Try.func28, Try.ntmps28
  go_wp2_with (first | ((with_reducible refine g_box (T := 34) ?_); refine seq_box (T := 34) (v := .agg _) hS rfl (fun b2 wb2 hS => ?_); simp only [Act.put, List.setIfInBounds_toArray, List.set_cons_succ, List.set_cons_zero, Int.toNat_natCast, Int.toNat_zero, Int.toNat_one, nth_zero, nth_one]; simp only [List.cons_append, List.nil_append, List.set_cons_succ, List.set_cons_zero, Value.cells, iv_snoc, tv_snoc] at hS) | ((with_reducible refine g_load (T := 34) ?_); refine seq_of hS rfl (stp_load_all (T := 34) 1 Try.isAgg34 Try.sizeOf34 rfl rfl rfl ?_); simp only [Act.put, List.setIfInBounds_toArray, List.set_cons_succ, List.set_cons_zero, Int.toNat_natCast, Int.toNat_zero, Int.toNat_one, nth_zero, nth_one]) | (go_at_call 24; refine (rvalid_any _ _ _ _ (hg.arg hS (by simp))).mono ?_; rintro e w' ⟨rfl, hB⟩; have hS := hS.below hB))
  exact bodyPost_ret (results_tmp2 rfl _ _ _) rfl ⟨rfl, hS.toBelow (by simp)⟩

set_option maxHeartbeats 4000000 in
set_option maxRecDepth 100000 in
theorem across_ok (gv : Value) (al : Option Addr) (cl : Nat) (L : List IS) (W : List Int) (N : List Tri) (w : World) (hg : GraphAt w (Old w) gv W N) (hv : VG W N) (hL : SlC w (Old w) 4 (.slice al L.length cl) L.length (isv L)) (hI : ∀ s ∈ L, InIS s) (hlen : L.length ≤ 1000000) :
    Calls Try.prog 28 #[gv, .slice al L.length cl] w fun e w' => Below w.heap.size w w' ∧
      ((runI (List.range W.length) L = none ∧ e = .returned (.tuple #[.slice none 0 0, .int .i64 1])) ∨
       (∃ cur ao co, runI (List.range W.length) L = some cur ∧ e = .returned (.tuple #[.slice ao (acr N (List.range W.length) L).length co, .int .i64 0]) ∧ Prs w' (New w w') (.slice ao (acr N (List.range W.length) L).length co) (acr N (List.range W.length) L))) := by
  have hg' := hg
  obtain ⟨aw, cw, an, cn, rfl, hw, hnn⟩ := hg'
  have hS := (Heap.start w).addNil 57 2
  have hst := StOk.start hv
  have HV0 := Lib.hid (valid_of_VG hv)
  generalize hllE : lenTo N N.length = ll at hst
  generalize hlwE : lwTo W W.length = lw at hst
  have HLL := Lib.hid hllE
  have HLW := Lib.hid hlwE
  clear hllE hlwE
  go_enter Try.func28, Try.ntmps28
  go_wp2_with (first | ((with_reducible refine g_box (T := 34) ?_); refine seq_box (T := 34) (v := .agg _) hS rfl (fun b2 wb2 hS => ?_); simp only [Act.put, List.setIfInBounds_toArray, List.set_cons_succ, List.set_cons_zero, Int.toNat_natCast, Int.toNat_zero, Int.toNat_one, nth_zero, nth_one]; simp only [List.cons_append, List.nil_append, List.set_cons_succ, List.set_cons_zero, Value.cells, iv_snoc, tv_snoc] at hS) | ((with_reducible refine g_load (T := 34) ?_); refine seq_of hS rfl (stp_load_all (T := 34) 2 Try.isAgg34 Try.sizeOf34 rfl rfl rfl ?_); simp only [Act.put, List.setIfInBounds_toArray, List.set_cons_succ, List.set_cons_zero, Int.toNat_natCast, Int.toNat_zero, Int.toNat_one, nth_zero, nth_one]) | (go_at_call 24; refine (rvalid_any _ _ _ _ (hg.arg hS (by simp))).mono ?_; rintro e w' ⟨rfl, hB⟩; have hS := hS.below hB; rw [HV0.out]) | (go_at_call 36; refine (salone_any _ _ _ _ (hg.arg hS (by simp)) hv).mono ?_; rintro e wa ⟨a1, c1, bw, bl, bs, ow, ol, rfl, hmw, hml, hSa⟩; have hS := hS.import hSa; simp only [stH] at hS; simp only [List.cons_append, List.nil_append, List.set_cons_succ, List.set_cons_zero, Value.cells, iv_snoc, tv_snoc] at hS) | ((with_reducible refine g_alloc (T := 77) ?_); refine seq_alloc (T := 77) hS Try.zeroValue77 (fun b7 wb7 hS => ?_); simp only [Act.put, List.setIfInBounds_toArray, List.set_cons_succ, List.set_cons_zero, Int.toNat_natCast, Int.toNat_zero, Int.toNat_one, nth_zero, nth_one]; simp only [List.cons_append, List.nil_append, List.set_cons_succ, List.set_cons_zero, Value.cells, iv_snoc, tv_snoc] at hS) | ((with_reducible refine g_store (T := 77) ?_); refine seq_store (T := 77) (u := .pointer _) 7 hS rfl rfl rfl Try.sizeOf77 (by simp [Value.cells, Value.oneCell']) (by simp [Value.cells]) (fun _ hS => ?_); simp only [Act.put, List.setIfInBounds_toArray, List.set_cons_succ, List.set_cons_zero, Int.toNat_natCast, Int.toNat_zero, Int.toNat_one, nth_zero, nth_one]; simp only [List.cons_append, List.nil_append, List.set_cons_succ, List.set_cons_zero, Value.cells, iv_snoc, tv_snoc] at hS; simp only [List.take_zero, List.nil_append, List.append_nil, List.drop_succ_cons, List.drop_zero, List.drop_nil, List.take_succ_cons, List.cons_append, List.size_toArray, List.length_cons, List.length_nil, Nat.reduceAdd] at hS) | ((with_reducible refine g_alloc (T := 61) ?_); refine seq_alloc (T := 61) hS Try.zeroValue61 (fun b8 wb8 hS => ?_); simp only [Act.put, List.setIfInBounds_toArray, List.set_cons_succ, List.set_cons_zero, Int.toNat_natCast, Int.toNat_zero, Int.toNat_one, nth_zero, nth_one]; simp only [List.cons_append, List.nil_append, List.set_cons_succ, List.set_cons_zero, Value.cells, iv_snoc, tv_snoc] at hS) | ((with_reducible refine g_load (T := 77) ?_); refine seq_of hS rfl (stp_load_blk (T := 77) 7 Try.isAgg77 rfl rfl rfl ?_); simp only [Act.put, List.setIfInBounds_toArray, List.set_cons_succ, List.set_cons_zero, Int.toNat_natCast, Int.toNat_zero, Int.toNat_one, nth_zero, nth_one]))
  rw [HLL.out] at hml
  rw [HLW.out] at hmw
  have hO : Heap w _ ((.frz (Old w) w :: [.blk b2 (.cells #[.slice aw W.length cw, .slice an N.length cn] 34 (0, 0))]) ++ ([.blk b7 (.cells #[.pointer (some ⟨bs, 0, none⟩)] 77 (0, 0)), .blk b8 (.cells #[.slice none 0 0] 61 (0, 0)), .row (.slice none 0 0) 57 2 0 []] ++ stH a1 W.length c1 bw bl bs (List.range W.length) ow ol)) := hS.order [0, 2, 7, 8, 1, 3, 4, 5, 6] rfl
  refine (run_any 51 #[.pointer (some ⟨b7, 0, none⟩), .pointer (some ⟨b8, 0, none⟩)] (enters_of Try.func51 (by kernel_rfl) rfl) (acrNX N W.length bs b7 b8) _ al a1 cl c1 bw bl bs L W N _ ow ol lw ll _ hO.split ⟨none, 0, rfl⟩ hmw hml hst hv (hL.rest hO) hI
    (fun p s X cur bl ow ol lw ll S w h1 h2 h3 h4 h5 h6 h7 h8 h9 => acrNote a1 c1 bw bs b7 b8 W N L.length hlen hv p s X cur bl ow ol lw ll S w h1 h2 h3 h4 h5 h6 h7 h8 h9)).mono ?_
  rintro e w' (⟨hr, rfl, hS'⟩ | ⟨cur, X, bl', ow', ol', lw', ll', hr, rfl, hX, hmw', hml', hst', hgr', hS'⟩)
  · have hS := hO.unsplit hS'
    have HR := Lib.hid hr
    clear hr
    simp only []
    go_step
    go_wp2
    exact bodyPost_ret (results_tmp2 rfl _ _ _) rfl ⟨hS.toBelow (by simp), .inl ⟨HR.out, rfl⟩⟩
  · obtain ⟨ao, co, rfl⟩ := hX
    have hS := hO.unsplit hS'
    have HR := Lib.hid hr
    clear hr
    simp only [stH, List.cons_append, List.nil_append] at hS
    simp only []
    go_step
    go_wp2_with (first | ((with_reducible refine g_load (T := 61) ?_); refine seq_of hS rfl (stp_load_blk (T := 61) 3 Try.isAgg61 rfl rfl rfl ?_); simp only [Act.put, List.setIfInBounds_toArray, List.set_cons_succ, List.set_cons_zero, Int.toNat_natCast, Int.toNat_zero, Int.toNat_one, nth_zero, nth_one]))
    exact bodyPost_ret (results_tmp2 rfl _ _ _) rfl ⟨hS.toBelow (by simp), .inr ⟨cur, ao, co, HR.out, rfl, hS.result (T := 57) (by simp)⟩⟩
end Go.Proofs.Ytdibpfbibgicaaa
