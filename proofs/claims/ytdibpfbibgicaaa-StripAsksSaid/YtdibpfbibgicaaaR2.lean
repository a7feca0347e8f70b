/- R2: the reference's Some: a small graph that is valid. -/
import Derived.Test.YtdibpfbibgicaaaF6
import Derived.Test.YtdibpfbibgicaaaBase1
set_option linter.unusedVariables false
set_option linter.unusedSimpArgs false
namespace Go.Proofs.Ytdibpfbibgicaaa
open Go.RowKit Go.Hp

theorem Try.info55 : (Try.prog.info? 55).map (fun i => (i.zero, i.size, i.bytes)) = some (some (.agg #[.int .i64 0, .int .i64 0, .int .i64 0]), 3, 24) := by kernel_rfl

/-- Before: the faces decide. -/
def lexE (x y : Tri) : Prop := x.1 < y.1 ∨ (x.1 = y.1 ∧ x.2.1 < y.2.1)
/-- The weights and the borders of a graph that Some returns. -/
structure SomeG (W : List Int) (N : List Tri) (most : Nat) : Prop where
  wlen : W.length ≤ most
  wpos : 0 < W.length
  nlen : N.length ≤ most * most + most + 1
  w0 : ∀ x ∈ W, 0 ≤ x ∧ x ≤ 11
  n0 : ∀ e ∈ N, 0 ≤ e.1 ∧ e.1 < e.2.1 ∧ e.2.1 < W.length ∧ 1 ≤ e.2.2 ∧ e.2.2 ≤ 6
  lex : N.Pairwise lexE
theorem SomeG.vg {W : List Int} {N : List Tri} {most : Nat} (h : SomeG W N most) (hm : most ≤ 64) : VG W N := by
  have h1 := h.wlen
  have h2 := h.nlen
  have h3 : most * most ≤ 64 * 64 := Nat.mul_le_mul hm hm
  refine ⟨by omega, by omega, fun x hx => ?_, fun e he => ?_, fun i hi => ?_⟩
  · have := h.w0 x hx; omega
  · have := h.n0 e he; omega
  · have := (List.pairwise_iff_getElem.1 h.lex) i (i + 1) (by omega) hi (by omega)
    rw [nth_eq tz N i (by omega), nth_eq tz N (i + 1) hi]
    exact this

/-- What has been gathered of the borders up to (a, b). -/
structure Gath (n a b : Nat) (N : List Tri) : Prop where
  len : N.length ≤ a * n + b
  n0 : ∀ e ∈ N, 0 ≤ e.1 ∧ e.1 < e.2.1 ∧ e.2.1 < n ∧ 1 ≤ e.2.2 ∧ e.2.2 ≤ 6 ∧ (e.1 < a ∨ (e.1 = a ∧ e.2.1 < b))
  lex : N.Pairwise lexE
theorem Gath.step {n a b : Nat} {N : List Tri} (h : Gath n a b N) : Gath n a (b + 1) N :=
  ⟨by have := h.len; omega, fun e he => by have := h.n0 e he; omega, h.lex⟩
theorem Gath.add {n a b : Nat} {N : List Tri} (h : Gath n a b N) (hab : a < b) (hb : b < n) {c : Int} (hc : 1 ≤ c ∧ c ≤ 6) : Gath n a (b + 1) (N ++ [((a : Int), (b : Int), c)]) := by
  refine ⟨by have := h.len; simp; omega, fun e he => ?_, pairwise_snoc h.lex fun e he => ?_⟩
  · rcases List.mem_append.1 he with h1 | h1
    · have := h.n0 e h1; omega
    · simp only [List.mem_singleton] at h1; subst h1; exact ⟨by simp only; omega, by simp only; omega, by simp only; omega, hc.1, hc.2, .inr ⟨rfl, by simp only; omega⟩⟩
  · have := h.n0 e he
    unfold lexE; simp only; omega
theorem Gath.next {n a b : Nat} {N : List Tri} (h : Gath n a b N) (hb : b ≤ n) : Gath n (a + 1) (a + 2) N :=
  ⟨by have := h.len; rw [Nat.succ_mul]; omega, fun e he => by have := h.n0 e he; omega, h.lex⟩

theorem some_cond (k : Int) (h : 0 ≤ k) (h2 : k < 1048576) : 1 ≤ 1 + k / 21 % 6 ∧ 1 + k / 21 % 6 ≤ 6 := by
  have h3 : 0 ≤ k / 21 := Int.ediv_nonneg h (by omega)
  omega

theorem some8 (A B C D E : Bool) : (A = false) ∨ (A = true ∧ B = false ∧ C = false) ∨ (A = true ∧ B = true ∧ D = false ∧ E = false) ∨ (A = true ∧ B = false ∧ C = true ∧ D = false ∧ E = false) ∨
    (A = true ∧ B = true ∧ D = true) ∨ (A = true ∧ B = false ∧ C = true ∧ D = true) ∨ (A = true ∧ B = true ∧ D = false ∧ E = true) ∨ (A = true ∧ B = false ∧ C = true ∧ D = false ∧ E = true) := by
  cases A <;> cases B <;> cases C <;> cases D <;> cases E <;> simp
theorem ret_cell1 {fn : Func} {p : Tmp} {T : TypeId} {P : Program} {w0 w : World} {H : List Chunk} {b k : Nat} {arr : Array Value} {Tb : TypeId} {fr : Nat × Nat} {R : Ending → World → Prop} {a : Act} (j : Nat) (hS : Heap w0 w H) (hr : fn.results = #[.cell p T])
    (hp : a.tmps.getD p undef = .pointer (some ⟨b, 0, none⟩)) (hj : H[j]? = some (Chunk.blk b (.cells arr Tb fr))) (hag : ∀ w, (isAgg T).run P w = .ok true w) (hz : ∀ w, (sizeOf T).run P w = .ok k w) (hsz : arr.size = k) (hd : a.defers = [])
    (h : R (.returned (.agg arr)) w) : bodyPost P fn R .ret a w := by
  refine bodyPost_ret (v := .agg arr) ?_ hd h
  have h1 := run_loadVar_blk (P := P) j hS hj hag hz hsz
  have hp' : a.tmps[p]?.getD undef = .pointer (some ⟨b, 0, none⟩) := by simpa using hp
  simp [results, hr, hp', asAddr, h1]
set_option maxHeartbeats 2000000 in
set_option maxRecDepth 100000 in
theorem some_any (a : Option Addr) (n c most : Nat) (xs : List Int) (w : World) (hx : Ints w (Old w) (.slice a n c) xs) (h1 : 1 ≤ most) (h2 : most ≤ 64) :
    Calls Try.prog 8 #[.slice a n c, .int .i64 most] w fun e w' => ∃ gv W N, e = .returned gv ∧ Below w.heap.size w w' ∧ GraphAt w' (New w w') gv W N ∧ SomeG W N most := by
  have hS := ((Heap.start w).addNil 3 1).addNil 55 3
  have hp0 := pck_lt xs 0 (most := most) (by omega)
  obtain ⟨m, hm⟩ : ∃ m : Nat, pck xs 0 most = (m : Int) := ⟨(pck xs 0 most).toNat, by omega⟩
  rw [hm] at hp0
  have HM := Lib.hid hm
  clear hm
  obtain ⟨M, hM⟩ : ∃ M : Nat, (1 : Int) + (m : Int) = M := ⟨m + 1, by omega⟩
  have hM1 : 1 ≤ M := by omega
  have hM2 : M ≤ most := by omega
  go_enter Try.func8, Try.ntmps8
  repeat ((fail_if_success ((with_reducible refine g_alloc ?_))); go_step)
  ((with_reducible refine g_alloc (T := 25) ?_); refine seq_alloc (T := 25) hS Try.zeroValue25 (fun b4 wb4 hS => ?_); simp only [Act.put, List.setIfInBounds_toArray, List.set_cons_succ, List.set_cons_zero, Int.toNat_natCast, Int.toNat_zero, Int.toNat_one, nth_zero, nth_one]; simp only [List.cons_append, List.nil_append, List.set_cons_succ, List.set_cons_zero, Value.cells, iv_snoc, tv_snoc] at hS)
  go_wp2_with (first | ((with_reducible refine g_alloc (T := 25) ?_); refine seq_alloc (T := 25) hS Try.zeroValue25 (fun b5 wb5 hS => ?_); simp only [Act.put, List.setIfInBounds_toArray, List.set_cons_succ, List.set_cons_zero, Int.toNat_natCast, Int.toNat_zero, Int.toNat_one, nth_zero, nth_one]; simp only [List.cons_append, List.nil_append, List.set_cons_succ, List.set_cons_zero, Value.cells, iv_snoc, tv_snoc] at hS) | ((with_reducible refine g_store (T := 25) ?_); refine seq_store (T := 25) (u := .agg #[.slice none 0 0, .slice none 0 0]) 4 hS rfl rfl rfl Try.sizeOf25 (by simp [Value.cells, Value.oneCell']) (by simp [Value.cells]) (fun _ hS => ?_); simp only [Act.put, List.setIfInBounds_toArray, List.set_cons_succ, List.set_cons_zero, Int.toNat_natCast, Int.toNat_zero, Int.toNat_one, nth_zero, nth_one]; simp only [List.cons_append, List.nil_append, List.set_cons_succ, List.set_cons_zero, Value.cells, iv_snoc, tv_snoc] at hS; simp only [List.take_zero, List.nil_append, List.append_nil, List.drop_succ_cons, List.drop_zero, List.drop_nil, List.take_succ_cons, List.cons_append, List.size_toArray, List.length_cons, List.length_nil, Nat.reduceAdd] at hS) | (go_at_call 35; refine (pick_any _ _ _ _ _ _ _ (hx.arg hS (by simp)) (by omega) (by omega)).mono ?_; rintro e w' ⟨rfl, hB⟩; have hS := hS.below hB; rw [HM.out]))
  clear hM HM hp0
  go_loopw [7] (fun i wr => ∃ (k : Nat) (aw : Option Addr) (cw : Nat) (W : List Int), k ≤ M ∧ W.length = k ∧ (∀ x ∈ W, 0 ≤ x ∧ x ≤ 11) ∧ i = .int .i64 k ∧ Heap w wr [.frz (Old w) w, .row (.slice aw k cw) 3 1 k (iv W), .row (.slice none 0 0) 55 3 0 [], .blk b4 (.cells #[.slice none 0 0, .slice none 0 0] 25 (0, 0)), .blk b5 (.cells #[.slice aw k cw, .slice none 0 0] 25 (0, 0))]) (fun i _ => M - (intOf i).toNat)
  case atStart => exact ⟨0, none, 0, [], by omega, rfl, by simp, rfl, hS⟩
  case round =>
    clear hS
    obtain ⟨k, aw, cw, W, hk, hWl, hW, rfl, hS⟩ := hrel
    by_cases hlt : k < M
    · go_wp2
      refine wp_region_sched [.pure 0, .read 1, .pure 2, .pure 3, .pure 4, .ext 5, .ext 6, .mutt 7, .pure 8, .mutt 9] [7, 9] (fun w' => Heap w w' _) (by kernel_rfl) (by kernel_rfl) hS.drew (fun w1 hS => ?_)
      repeat (first | ((first | ((with_reducible refine m_pure ?_); refine skip_pure rfl rfl ?_) | ((with_reducible refine m_read ?_); refine skip_read rfl rfl ?_)); simp only [Act.put, List.setIfInBounds_toArray, List.set_cons_succ, List.set_cons_zero, Int.toNat_natCast, Int.toNat_zero, Int.toNat_one, nth_zero, nth_one]) | ((with_reducible refine m_read ?_); refine sched_of rfl rfl (stp_load_blk (T := 22) 4 Try.isAgg22 rfl rfl rfl ?_); simp only [Act.put, List.setIfInBounds_toArray, List.set_cons_succ, List.set_cons_zero, Int.toNat_natCast, Int.toNat_zero, Int.toNat_one, nth_zero, nth_one]) | ((with_reducible refine m_pure ?_); refine run_pure rfl rfl (fun K hK => ?_); go_simp; refine hK _ ?_; clear hK K))
      refine ext_at rfl ?_
      go_wp2_with (fail)
      refine (pick_any _ _ _ _ _ _ _ (hx.arg hS (by simp)) (by omega) (by omega)).mono ?_
      rintro e w' ⟨rfl, hB⟩
      simp only []
      go_step
      have hS := hS.below hB
      refine ext_end (hS.sub (by repeat (first | exact List.Sublist.refl _ | apply List.Sublist.cons_cons | apply List.Sublist.cons | exact List.nil_sublist _))) ?_
      refine ext_at rfl ?_
      ((with_reducible refine g_bs (T := 22) ?_); refine seq_bs1 (T := 22) (v := .int .i64 _) hS Try.underlying22 Try.sizeOf3 Try.zeroValue3 rfl rfl rfl (by decide) (by decide) rfl (fun _ _ hS => ?_); simp only [Act.put, List.setIfInBounds_toArray, List.set_cons_succ, List.set_cons_zero, Int.toNat_natCast, Int.toNat_zero, Int.toNat_one, nth_zero, nth_one]; simp only [Value.cells] at hS)
      refine ext_end (hS.sub (by repeat (first | exact List.Sublist.refl _ | apply List.Sublist.cons_cons | apply List.Sublist.cons | exact List.nil_sublist _))) ?_
      refine mut_at rfl ?_
      ((with_reducible refine g_app ?_); refine seq_append_lit (t := 22) 1 hS Try.underlying22 Try.info3 rfl (by decide) rfl rfl rfl rfl (by simp [Value.oneCell']) (by omega) (by unfold maxLen; omega) (fun _ _ _ hS => ?_); simp only [Act.put, List.setIfInBounds_toArray, List.set_cons_succ, List.set_cons_zero, Int.toNat_natCast, Int.toNat_zero, Int.toNat_one, nth_zero, nth_one]; simp only [List.cons_append, List.nil_append, List.set_cons_succ, List.set_cons_zero, Value.cells, iv_snoc, tv_snoc] at hS)
      refine mut_end ?_
      repeat (first | ((first | ((with_reducible refine m_pure ?_); refine skip_pure rfl rfl ?_) | ((with_reducible refine m_read ?_); refine skip_read rfl rfl ?_)); simp only [Act.put, List.setIfInBounds_toArray, List.set_cons_succ, List.set_cons_zero, Int.toNat_natCast, Int.toNat_zero, Int.toNat_one, nth_zero, nth_one]) | fail | ((with_reducible refine m_pure ?_); refine run_pure rfl rfl (fun K hK => ?_); go_simp; refine hK _ ?_; clear hK K))
      refine mut_at rfl ?_
      ((with_reducible refine g_store (T := 22) ?_); refine seq_store (T := 22) (u := .slice _ _ _) 4 hS rfl rfl rfl Try.sizeOf22 (by simp [Value.cells, Value.oneCell']) (by simp [Value.cells]) (fun _ hS => ?_); simp only [Act.put, List.setIfInBounds_toArray, List.set_cons_succ, List.set_cons_zero, Int.toNat_natCast, Int.toNat_zero, Int.toNat_one, nth_zero, nth_one]; simp only [List.cons_append, List.nil_append, List.set_cons_succ, List.set_cons_zero, Value.cells, iv_snoc, tv_snoc] at hS; simp only [List.take_zero, List.nil_append, List.append_nil, List.drop_succ_cons, List.drop_zero, List.drop_nil, List.take_succ_cons, List.cons_append, List.size_toArray, List.length_cons, List.length_nil, Nat.reduceAdd] at hS)
      refine mut_end ?_
      refine sched_nil ?_
      simp only [NoPanic]
      go_wp2
      go_roundw
      case rel =>
        have hp := pck_lt xs (1 + k) (most := 12) (by omega)
        refine ⟨k + 1, _, _, W ++ [pck xs (1 + k) 12], by omega, by rw [List.length_append, hWl]; rfl, fun x hx => ?_, by go_num, (hS.sub (by repeat (first | exact List.Sublist.refl _ | apply List.Sublist.cons_cons | apply List.Sublist.cons | exact List.nil_sublist _)))⟩
        rcases List.mem_append.1 hx with h | h
        · exact hW x h
        · simp only [List.mem_singleton] at h; subst h; omega
      case measure => simp [intOf]; omega
    · obtain rfl : M = k := by omega
      replace hWl := Lib.hid hWl
      go_wp2
      go_loopw [8] (fun i wr => ∃ (k : Nat) (an : Option Addr) (cn nn : Nat) (N : List Tri), k ≤ M ∧ Hid (N.length = nn) ∧ Gath M k (k + 1) N ∧ i = .int .i64 k ∧ Heap w wr [.frz (Old w) w, .row (.slice aw M cw) 3 1 M (iv W), .row (.slice an nn cn) 55 3 nn (tv N), .blk b4 (.cells #[.slice none 0 0, .slice none 0 0] 25 (0, 0)), .blk b5 (.cells #[.slice aw M cw, .slice an nn cn] 25 (0, 0))]) (fun i _ => M - (intOf i).toNat)
      case atStart => exact ⟨0, none, 0, 0, [], by omega, rfl, ⟨by simp, by simp, by simp⟩, rfl, hS⟩
      case round =>
        clear hS
        obtain ⟨k, an, cn, nn, N, hk, hNl, hG, rfl, hS⟩ := hrel
        by_cases hlt : k < M
        · go_wp2
          go_loopw [9] (fun i wr => ∃ (b : Nat) (an : Option Addr) (cn nn : Nat) (N : List Tri), k < b ∧ b ≤ M ∧ Hid (N.length = nn) ∧ Gath M k b N ∧ i = .int .i64 b ∧ Heap w wr [.frz (Old w) w, .row (.slice aw M cw) 3 1 M (iv W), .row (.slice an nn cn) 55 3 nn (tv N), .blk b4 (.cells #[.slice none 0 0, .slice none 0 0] 25 (0, 0)), .blk b5 (.cells #[.slice aw M cw, .slice an nn cn] 25 (0, 0))]) (fun i _ => M - (intOf i).toNat)
          case atStart => exact ⟨k + 1, an, cn, nn, N, by omega, by omega, hNl, hG, by go_num, hS⟩
          case round =>
            clear hS
            obtain ⟨b, an, cn, nn, N, hkb, hb, hNl, hG, rfl, hS⟩ := hrel
            by_cases hlt2 : b < M
            · have hp := pck_lt xs (3 + 7 * k + b) (most := 1048576) (by omega)
              have hc := some_cond _ hp.1 hp.2
              obtain ⟨z, hz⟩ : ∃ z, pck xs (3 + 7 * k + b) 1048576 = z := ⟨_, rfl⟩
              rw [hz] at hp hc
              have HZ := Lib.hid hz
              have hlen := hG.len
              rw [hNl.out] at hlen
              have hq : k * M ≤ 64 * 64 := Nat.mul_le_mul (by omega) (by omega)
              clear hz
              rcases some8 (z % 3 == 0) (decide ((b : Int) - k < 4)) (z % 7 == 0) (decide (0 < k)) (z % 2 == 0) with hA | ⟨hA, hB, hC⟩ | ⟨hA, hB, hD, hE⟩ | ⟨hA, hB, hC, hD, hE⟩ | ⟨hA, hB, hD⟩ | ⟨hA, hB, hC, hD⟩ | ⟨hA, hB, hD, hE⟩ | ⟨hA, hB, hC, hD, hE⟩
              · go_wp2_with (first | (go_at_call 35; refine (pick_any _ _ _ _ _ _ _ (hx.arg hS (by simp)) (by omega) (by omega)).mono ?_; rintro e w' ⟨rfl, hB⟩; have hS := hS.below hB; rw [HZ.out]))
                go_roundw
                case rel => exact ⟨b + 1, an, cn, nn, N, by omega, by omega, hNl, hG.step, by go_num, hS⟩
                case measure => simp [intOf]; omega
              · go_wp2_with (first | (go_at_call 35; refine (pick_any _ _ _ _ _ _ _ (hx.arg hS (by simp)) (by omega) (by omega)).mono ?_; rintro e w' ⟨rfl, hB⟩; have hS := hS.below hB; rw [HZ.out]))
                go_roundw
                case rel => exact ⟨b + 1, an, cn, nn, N, by omega, by omega, hNl, hG.step, by go_num, hS⟩
                case measure => simp [intOf]; omega
              · go_wp2_with (first | (go_at_call 35; refine (pick_any _ _ _ _ _ _ _ (hx.arg hS (by simp)) (by omega) (by omega)).mono ?_; rintro e w' ⟨rfl, hB⟩; have hS := hS.below hB; rw [HZ.out]))
                go_roundw
                case rel => exact ⟨b + 1, an, cn, nn, N, by omega, by omega, hNl, hG.step, by go_num, hS⟩
                case measure => simp [intOf]; omega
              · go_wp2_with (first | (go_at_call 35; refine (pick_any _ _ _ _ _ _ _ (hx.arg hS (by simp)) (by omega) (by omega)).mono ?_; rintro e w' ⟨rfl, hB⟩; have hS := hS.below hB; rw [HZ.out]))
                go_roundw
                case rel => exact ⟨b + 1, an, cn, nn, N, by omega, by omega, hNl, hG.step, by go_num, hS⟩
                case measure => simp [intOf]; omega
              · go_wp2_with (first | (go_at_call 35; refine (pick_any _ _ _ _ _ _ _ (hx.arg hS (by simp)) (by omega) (by omega)).mono ?_; rintro e w' ⟨rfl, hB⟩; have hS := hS.below hB; rw [HZ.out]) | ((with_reducible refine g_load (T := 23) ?_); refine seq_of hS rfl (stp_load_blk (T := 23) 4 Try.isAgg23 rfl rfl rfl ?_); simp only [Act.put, List.setIfInBounds_toArray, List.set_cons_succ, List.set_cons_zero, Int.toNat_natCast, Int.toNat_zero, Int.toNat_one, nth_zero, nth_one]) | ((with_reducible refine g_bs (T := 23) ?_); refine seq_bs1 (T := 23) (v := .agg _) hS Try.underlying23 Try.sizeOf55 Try.zeroValue55 rfl rfl rfl (by decide) (by decide) rfl (fun _ _ hS => ?_); simp only [Act.put, List.setIfInBounds_toArray, List.set_cons_succ, List.set_cons_zero, Int.toNat_natCast, Int.toNat_zero, Int.toNat_one, nth_zero, nth_one]; simp only [Value.cells] at hS) | ((with_reducible refine g_app ?_); refine seq_append_lit (t := 23) 2 hS Try.underlying23 Try.info55 rfl (by decide) rfl rfl rfl rfl (by simp [Value.oneCell']) (by omega) (by unfold maxLen; omega) (fun _ _ _ hS => ?_); simp only [Act.put, List.setIfInBounds_toArray, List.set_cons_succ, List.set_cons_zero, Int.toNat_natCast, Int.toNat_zero, Int.toNat_one, nth_zero, nth_one]; simp only [List.cons_append, List.nil_append, List.set_cons_succ, List.set_cons_zero, Value.cells, iv_snoc, tv_snoc] at hS) | ((with_reducible refine g_store (T := 23) ?_); refine seq_store (T := 23) (u := .slice _ _ _) 4 hS rfl rfl rfl Try.sizeOf23 (by simp [Value.cells, Value.oneCell']) (by simp [Value.cells]) (fun _ hS => ?_); simp only [Act.put, List.setIfInBounds_toArray, List.set_cons_succ, List.set_cons_zero, Int.toNat_natCast, Int.toNat_zero, Int.toNat_one, nth_zero, nth_one]; simp only [List.cons_append, List.nil_append, List.set_cons_succ, List.set_cons_zero, Value.cells, iv_snoc, tv_snoc] at hS; simp only [List.take_zero, List.nil_append, List.append_nil, List.drop_succ_cons, List.drop_zero, List.drop_nil, List.take_succ_cons, List.cons_append, List.size_toArray, List.length_cons, List.length_nil, Nat.reduceAdd] at hS))
                go_roundw
                case rel =>
                  have ht := tv_snoc N ((k : Int), (b : Int), 1 + z / 21 % 6)
                  simp only at ht
                  rw [ht] at hS
                  exact ⟨b + 1, _, _, nn + 1, N ++ [((k : Int), (b : Int), 1 + z / 21 % 6)], by omega, by omega, by unfold Hid; rw [List.length_append, hNl.out]; rfl, hG.add hkb hlt2 hc, by go_num, (hS.sub (by repeat (first | exact List.Sublist.refl _ | apply List.Sublist.cons_cons | apply List.Sublist.cons | exact List.nil_sublist _)))⟩
                case measure => simp [intOf]; omega
              · go_wp2_with (first | (go_at_call 35; refine (pick_any _ _ _ _ _ _ _ (hx.arg hS (by simp)) (by omega) (by omega)).mono ?_; rintro e w' ⟨rfl, hB⟩; have hS := hS.below hB; rw [HZ.out]) | ((with_reducible refine g_load (T := 23) ?_); refine seq_of hS rfl (stp_load_blk (T := 23) 4 Try.isAgg23 rfl rfl rfl ?_); simp only [Act.put, List.setIfInBounds_toArray, List.set_cons_succ, List.set_cons_zero, Int.toNat_natCast, Int.toNat_zero, Int.toNat_one, nth_zero, nth_one]) | ((with_reducible refine g_bs (T := 23) ?_); refine seq_bs1 (T := 23) (v := .agg _) hS Try.underlying23 Try.sizeOf55 Try.zeroValue55 rfl rfl rfl (by decide) (by decide) rfl (fun _ _ hS => ?_); simp only [Act.put, List.setIfInBounds_toArray, List.set_cons_succ, List.set_cons_zero, Int.toNat_natCast, Int.toNat_zero, Int.toNat_one, nth_zero, nth_one]; simp only [Value.cells] at hS) | ((with_reducible refine g_app ?_); refine seq_append_lit (t := 23) 2 hS Try.underlying23 Try.info55 rfl (by decide) rfl rfl rfl rfl (by simp [Value.oneCell']) (by omega) (by unfold maxLen; omega) (fun _ _ _ hS => ?_); simp only [Act.put, List.setIfInBounds_toArray, List.set_cons_succ, List.set_cons_zero, Int.toNat_natCast, Int.toNat_zero, Int.toNat_one, nth_zero, nth_one]; simp only [List.cons_append, List.nil_append, List.set_cons_succ, List.set_cons_zero, Value.cells, iv_snoc, tv_snoc] at hS) | ((with_reducible refine g_store (T := 23) ?_); refine seq_store (T := 23) (u := .slice _ _ _) 4 hS rfl rfl rfl Try.sizeOf23 (by simp [Value.cells, Value.oneCell']) (by simp [Value.cells]) (fun _ hS => ?_); simp only [Act.put, List.setIfInBounds_toArray, List.set_cons_succ, List.set_cons_zero, Int.toNat_natCast, Int.toNat_zero, Int.toNat_one, nth_zero, nth_one]; simp only [List.cons_append, List.nil_append, List.set_cons_succ, List.set_cons_zero, Value.cells, iv_snoc, tv_snoc] at hS; simp only [List.take_zero, List.nil_append, List.append_nil, List.drop_succ_cons, List.drop_zero, List.drop_nil, List.take_succ_cons, List.cons_append, List.size_toArray, List.length_cons, List.length_nil, Nat.reduceAdd] at hS))
                go_roundw
                case rel =>
                  have ht := tv_snoc N ((k : Int), (b : Int), 1 + z / 21 % 6)
                  simp only at ht
                  rw [ht] at hS
                  exact ⟨b + 1, _, _, nn + 1, N ++ [((k : Int), (b : Int), 1 + z / 21 % 6)], by omega, by omega, by unfold Hid; rw [List.length_append, hNl.out]; rfl, hG.add hkb hlt2 hc, by go_num, (hS.sub (by repeat (first | exact List.Sublist.refl _ | apply List.Sublist.cons_cons | apply List.Sublist.cons | exact List.nil_sublist _)))⟩
                case measure => simp [intOf]; omega
              · go_wp2_with (first | (go_at_call 35; refine (pick_any _ _ _ _ _ _ _ (hx.arg hS (by simp)) (by omega) (by omega)).mono ?_; rintro e w' ⟨rfl, hB⟩; have hS := hS.below hB; rw [HZ.out]) | ((with_reducible refine g_load (T := 23) ?_); refine seq_of hS rfl (stp_load_blk (T := 23) 4 Try.isAgg23 rfl rfl rfl ?_); simp only [Act.put, List.setIfInBounds_toArray, List.set_cons_succ, List.set_cons_zero, Int.toNat_natCast, Int.toNat_zero, Int.toNat_one, nth_zero, nth_one]) | ((with_reducible refine g_bs (T := 23) ?_); refine seq_bs1 (T := 23) (v := .agg _) hS Try.underlying23 Try.sizeOf55 Try.zeroValue55 rfl rfl rfl (by decide) (by decide) rfl (fun _ _ hS => ?_); simp only [Act.put, List.setIfInBounds_toArray, List.set_cons_succ, List.set_cons_zero, Int.toNat_natCast, Int.toNat_zero, Int.toNat_one, nth_zero, nth_one]; simp only [Value.cells] at hS) | ((with_reducible refine g_app ?_); refine seq_append_lit (t := 23) 2 hS Try.underlying23 Try.info55 rfl (by decide) rfl rfl rfl rfl (by simp [Value.oneCell']) (by omega) (by unfold maxLen; omega) (fun _ _ _ hS => ?_); simp only [Act.put, List.setIfInBounds_toArray, List.set_cons_succ, List.set_cons_zero, Int.toNat_natCast, Int.toNat_zero, Int.toNat_one, nth_zero, nth_one]; simp only [List.cons_append, List.nil_append, List.set_cons_succ, List.set_cons_zero, Value.cells, iv_snoc, tv_snoc] at hS) | ((with_reducible refine g_store (T := 23) ?_); refine seq_store (T := 23) (u := .slice _ _ _) 4 hS rfl rfl rfl Try.sizeOf23 (by simp [Value.cells, Value.oneCell']) (by simp [Value.cells]) (fun _ hS => ?_); simp only [Act.put, List.setIfInBounds_toArray, List.set_cons_succ, List.set_cons_zero, Int.toNat_natCast, Int.toNat_zero, Int.toNat_one, nth_zero, nth_one]; simp only [List.cons_append, List.nil_append, List.set_cons_succ, List.set_cons_zero, Value.cells, iv_snoc, tv_snoc] at hS; simp only [List.take_zero, List.nil_append, List.append_nil, List.drop_succ_cons, List.drop_zero, List.drop_nil, List.take_succ_cons, List.cons_append, List.size_toArray, List.length_cons, List.length_nil, Nat.reduceAdd] at hS))
                go_roundw
                case rel =>
                  have ht := tv_snoc N ((k : Int), (b : Int), 1 + z / 21 % 6)
                  simp only at ht
                  rw [ht] at hS
                  exact ⟨b + 1, _, _, nn + 1, N ++ [((k : Int), (b : Int), 1 + z / 21 % 6)], by omega, by omega, by unfold Hid; rw [List.length_append, hNl.out]; rfl, hG.add hkb hlt2 hc, by go_num, (hS.sub (by repeat (first | exact List.Sublist.refl _ | apply List.Sublist.cons_cons | apply List.Sublist.cons | exact List.nil_sublist _)))⟩
                case measure => simp [intOf]; omega
              · go_wp2_with (first | (go_at_call 35; refine (pick_any _ _ _ _ _ _ _ (hx.arg hS (by simp)) (by omega) (by omega)).mono ?_; rintro e w' ⟨rfl, hB⟩; have hS := hS.below hB; rw [HZ.out]) | ((with_reducible refine g_load (T := 23) ?_); refine seq_of hS rfl (stp_load_blk (T := 23) 4 Try.isAgg23 rfl rfl rfl ?_); simp only [Act.put, List.setIfInBounds_toArray, List.set_cons_succ, List.set_cons_zero, Int.toNat_natCast, Int.toNat_zero, Int.toNat_one, nth_zero, nth_one]) | ((with_reducible refine g_bs (T := 23) ?_); refine seq_bs1 (T := 23) (v := .agg _) hS Try.underlying23 Try.sizeOf55 Try.zeroValue55 rfl rfl rfl (by decide) (by decide) rfl (fun _ _ hS => ?_); simp only [Act.put, List.setIfInBounds_toArray, List.set_cons_succ, List.set_cons_zero, Int.toNat_natCast, Int.toNat_zero, Int.toNat_one, nth_zero, nth_one]; simp only [Value.cells] at hS) | ((with_reducible refine g_app ?_); refine seq_append_lit (t := 23) 2 hS Try.underlying23 Try.info55 rfl (by decide) rfl rfl rfl rfl (by simp [Value.oneCell']) (by omega) (by unfold maxLen; omega) (fun _ _ _ hS => ?_); simp only [Act.put, List.setIfInBounds_toArray, List.set_cons_succ, List.set_cons_zero, Int.toNat_natCast, Int.toNat_zero, Int.toNat_one, nth_zero, nth_one]; simp only [List.cons_append, List.nil_append, List.set_cons_succ, List.set_cons_zero, Value.cells, iv_snoc, tv_snoc] at hS) | ((with_reducible refine g_store (T := 23) ?_); refine seq_store (T := 23) (u := .slice _ _ _) 4 hS rfl rfl rfl Try.sizeOf23 (by simp [Value.cells, Value.oneCell']) (by simp [Value.cells]) (fun _ hS => ?_); simp only [Act.put, List.setIfInBounds_toArray, List.set_cons_succ, List.set_cons_zero, Int.toNat_natCast, Int.toNat_zero, Int.toNat_one, nth_zero, nth_one]; simp only [List.cons_append, List.nil_append, List.set_cons_succ, List.set_cons_zero, Value.cells, iv_snoc, tv_snoc] at hS; simp only [List.take_zero, List.nil_append, List.append_nil, List.drop_succ_cons, List.drop_zero, List.drop_nil, List.take_succ_cons, List.cons_append, List.size_toArray, List.length_cons, List.length_nil, Nat.reduceAdd] at hS))
                go_roundw
                case rel =>
                  have ht := tv_snoc N ((k : Int), (b : Int), 1 + z / 21 % 6)
                  simp only at ht
                  rw [ht] at hS
                  exact ⟨b + 1, _, _, nn + 1, N ++ [((k : Int), (b : Int), 1 + z / 21 % 6)], by omega, by omega, by unfold Hid; rw [List.length_append, hNl.out]; rfl, hG.add hkb hlt2 hc, by go_num, (hS.sub (by repeat (first | exact List.Sublist.refl _ | apply List.Sublist.cons_cons | apply List.Sublist.cons | exact List.nil_sublist _)))⟩
                case measure => simp [intOf]; omega
            · obtain rfl : M = b := by omega
              go_wp2
              go_roundw
              case rel => exact ⟨k + 1, an, cn, nn, N, by omega, hNl, hG.next (by omega), by go_num, hS⟩
              case measure => simp [intOf]; omega
        · obtain rfl : M = k := by omega
          go_wp2_with (first | ((with_reducible refine g_load (T := 25) ?_); refine seq_of hS rfl (stp_load_all (T := 25) 4 Try.isAgg25 Try.sizeOf25 rfl rfl rfl ?_); simp only [Act.put, List.setIfInBounds_toArray, List.set_cons_succ, List.set_cons_zero, Int.toNat_natCast, Int.toNat_zero, Int.toNat_one, nth_zero, nth_one]) | ((with_reducible refine g_store (T := 25) ?_); refine seq_store (T := 25) (u := .agg #[.slice _ _ _, .slice _ _ _]) 3 hS rfl rfl rfl Try.sizeOf25 (by simp [Value.cells, Value.oneCell']) (by simp [Value.cells]) (fun _ hS => ?_); simp only [Act.put, List.setIfInBounds_toArray, List.set_cons_succ, List.set_cons_zero, Int.toNat_natCast, Int.toNat_zero, Int.toNat_one, nth_zero, nth_one]; simp only [List.cons_append, List.nil_append, List.set_cons_succ, List.set_cons_zero, Value.cells, iv_snoc, tv_snoc] at hS; simp only [List.take_zero, List.nil_append, List.append_nil, List.drop_succ_cons, List.drop_zero, List.drop_nil, List.take_succ_cons, List.cons_append, List.size_toArray, List.length_cons, List.length_nil, Nat.reduceAdd] at hS))
          refine ret_cell1 3 hS rfl rfl rfl Try.isAgg25 Try.sizeOf25 rfl rfl ?_
          have hWl' := hWl.out
          have hNl' := hNl.out
          subst hNl'
          subst hWl'
          have hl := hG.len
          have hmm := Nat.mul_le_mul hM2 hM2
          refine ⟨_, W, N, rfl, hS.toBelow (by simp), ⟨aw, cw, an, cn, rfl, hS.resultInts 0 rfl (fun x hx => ?_), hS.resultTris 1 rfl (fun e he => ?_)⟩, ⟨hM2, hM1, ?_, hW, fun e he => ?_, hG.lex⟩⟩
          · have := hW x hx; unfold InI; omega
          · have := hG.n0 e he; unfold InT InI; omega
          · omega
          · have := hG.n0 e he; omega
end Go.Proofs.Ytdibpfbibgicaaa
