/- C4: (*groups).run, whatever is noted. -/
import Derived.Test.YtdibpfbibgicaaaC3
set_option linter.unusedVariables false
set_option linter.unusedSimpArgs false
namespace Go.Hp
open Go Go.RowKit
theorem Heap.runB {w0 w : World} {c d0 d1 d2 d3 e f : Chunk} {X : List Chunk} (h : Heap w0 w ((c :: X) ++ [d0, d1, d2, d3, e, f])) : Heap w0 w ([c, e, f] ++ (X ++ [d0, d1, d2, d3])) := by
  refine h.perm (List.Perm.cons c ?_)
  have h1 : ([e, f] ++ (X ++ [d0, d1, d2, d3])).Perm ((X ++ [d0, d1, d2, d3]) ++ [e, f]) := List.perm_append_comm
  rw [List.append_assoc] at h1
  exact h1
theorem Heap.runC {w0 w : World} {c d0 d1 d2 d3 e f : Chunk} {X : List Chunk} (h : Heap w0 w ([c, e, f] ++ (X ++ [d0, d1, d2, d3]))) : Heap w0 w ((c :: X) ++ [d0, d1, d2, d3, e, f]) := by
  refine h.perm (List.Perm.cons c ?_)
  have h1 : ([e, f] ++ (X ++ [d0, d1, d2, d3])).Perm ((X ++ [d0, d1, d2, d3]) ++ [e, f]) := List.perm_append_comm
  rw [List.append_assoc] at h1
  exact h1.symm
theorem Heap.drop5 {w0 w : World} {d0 d1 d2 d3 e : Chunk} {A : List Chunk} (h : Heap w0 w (A ++ [d0, d1, d2, d3, e])) : Heap w0 w (A ++ [d0, d1, d2, d3]) :=
  h.sub (List.Sublist.append_left (((((List.nil_sublist [e]).cons_cons d3).cons_cons d2).cons_cons d1).cons_cons d0) A)
/-- A slice that lies in the frozen set, seen past the chunks that we take out. -/
theorem SlC.rest {w0 w wr : World} {X B : List Chunk} {S : Nat → Prop} {k n : Nat} {v : Value} {cs : List Value} (hO : Heap w0 w ((.frz S wr :: X) ++ B)) (h : SlC wr S k v n cs) : SlC w (Rest w B) k v n cs := by
  have hm : Chunk.frz S wr ∈ (.frz S wr :: X) ++ B := by simp
  refine (h.later hO hm).weaken fun b hb => ⟨(hO.ok _ hm b hb).1, fun d hd => ?_⟩
  have hap := List.pairwise_append.1 hO.apart
  exact hap.2.2 (.frz S wr) (by simp) d hd b hb
end Go.Hp
namespace Go.Proofs.Ytdibpfbibgicaaa
open Go.RowKit Go.Hp

def is0 : IS := ⟨0, 0, 0, 0⟩
theorem isv_length (l : List IS) : (isv l).length = l.length * 4 := by
  induction l with
  | nil => rfl
  | cons s l ih => simp only [isv, List.flatMap_cons, List.length_append, List.length_cons] at ih ⊢; rw [ih]; simp [isA]; omega
theorem isv_cell {l : List IS} : ∀ {i : Nat}, i < l.length → ((isv l).drop (i * 4)).take 4 = (isA (nth is0 l i)).toList := by
  induction l with
  | nil => intro i h; simp at h
  | cons s l ih =>
    intro i h
    cases i with
    | zero => simp [isv, isA, nth]
    | succ i =>
      have : isv (s :: l) = (isA s).toList ++ isv l := by simp [isv]
      rw [this, List.drop_append]
      have h2 : ((isA s).toList).drop ((i + 1) * 4) = [] := List.drop_eq_nil_of_le (by simp [isA]; omega)
      rw [h2, List.nil_append, show (i + 1) * 4 - (isA s).toList.length = i * 4 by simp [isA]; omega, ih (by simpa using h)]
      simp [nth]
section
variable {P : Program} {a : Act} {K : Act → Prop} {dst : Option Tmp} {ty T E : TypeId} {pos : String} {aft : Array Edge} {g : Option (Nat × Bool)} {x ix : Operand} {wr : World} {S : Nat → Prop}
theorem any_index_is {i : Int} {ad : Option Addr} {n cap : Nat} {xs : List IS} {s : IS} (hs : Hid (nth is0 xs i.toNat = s)) (hu : P.underlying T = some (.slice E)) (hz : ∀ w, (sizeOf E).run P w = .ok 4 w) (hx : a.eval x = .slice ad n cap) (hi : a.eval ix = .int .i64 i) (hv : SlC wr S 4 (.slice ad n cap) n (isv xs)) (hlo : 0 ≤ i) (hhi : i < n)
    (hk : ∀ b off, CellsAt wr S ⟨b, off, none⟩ [.int .i64 s.face, .int .i64 s.a, .int .i64 s.b, .int .i64 s.into] → K (a.put dst (.pointer (some ⟨b, off, none⟩)))) : StpAny P ⟨dst, .indexAddr T x ix, ty, pos, aft, g⟩ a K :=
  any_index hu hz hx hi hv hlo hhi (by omega) fun b off hc => hk b off (by
    have hl := hv.1
    rw [isv_length] at hl
    rw [isv_cell (by omega), hs.out] at hc
    exact hc)
end

set_option maxHeartbeats 4000000 in
set_option maxRecDepth 100000 in
theorem run_any (nf : Nat) (caps : Array Value) (heg : ∀ args w, (callFunc nf args).run Try.prog w = .ok (.enter nf args) w) (NX : List IS → List Chunk → Prop) (S : Nat → Prop) (al a : Option Addr) (cl c bw bl bs : Nat) (L : List IS) (W : List Int) (N : List Tri) (X : List Chunk) (ow ol : Obj) (lw : List (Int × Int)) (ll : LL) (w : World)
    (hH : Heap w w ((.frz S w :: X) ++ stH a W.length c bw bl bs (List.range W.length) ow ol)) (hX : NX [] X) (hmw : MapIs ik ik ow lw) (hml : MapIs pk ik ol ll) (hst : StOk W N (List.range W.length) lw ll) (hv : VG W N)
    (hL : SlC w S 4 (.slice al L.length cl) L.length (isv L)) (hI : ∀ s ∈ L, InIS s)
    (hnote : ∀ (p : List IS) (s : IS) (X : List Chunk) (cur : List Nat) (bl : Nat) (ow ol : Obj) (lw : List (Int × Int)) (ll : LL) (S : Nat → Prop) (w : World), NX p X → (p ++ [s]).length ≤ L.length → OkIs W.length cur s → Gr W.length cur → StOk W N cur lw ll → MapIs ik ik ow lw → MapIs pk ik ol ll → runI (List.range W.length) p = some cur →
      Heap w w (.frz S w :: (X ++ stH a W.length c bw bl bs cur ow ol)) → Calls Try.prog nf (#[.agg #[.int .i64 s.face, .int .i64 s.a, .int .i64 s.b, .int .i64 s.into]] ++ caps) w fun e w' => e = .returned (.tuple #[]) ∧ ∃ X', NX (p ++ [s]) X' ∧ Heap w w' (.frz S w :: (X' ++ stH a W.length c bw bl bs cur ow ol))) :
    Calls Try.prog 50 #[.pointer (some ⟨bs, 0, none⟩), .slice al L.length cl, .func (.func nf) #[] caps] w fun e w' =>
      (runI (List.range W.length) L = none ∧ e = .returned (.bool false) ∧ Heap w w' [.frz S w]) ∨
      (∃ cur X bl ow ol lw ll, runI (List.range W.length) L = some cur ∧ e = .returned (.bool true) ∧ NX L X ∧ MapIs ik ik ow lw ∧ MapIs pk ik ol ll ∧ StOk W N cur lw ll ∧ Gr W.length cur ∧ Heap w w' ((.frz S w :: X) ++ stH a W.length c bw bl bs cur ow ol)) := by
  have hle := hv.wlen
  have hS := hH.split
  simp only [stH] at hS
  go_enter Try.func50, Try.ntmps50
  go_wp2_with (first | ((with_reducible refine g_box (T := 77) ?_); refine seq_box (T := 77) (v := .pointer _) hS rfl (fun b3 wb3 hS => ?_); simp only [Act.put, List.setIfInBounds_toArray, List.set_cons_succ, List.set_cons_zero, Int.toNat_natCast, Int.toNat_zero, Int.toNat_one, nth_zero, nth_one]; simp only [List.cons_append, List.nil_append, List.set_cons_succ, List.set_cons_zero, Value.cells, iv_snoc, tv_snoc] at hS))
  have hH1 := hH.unsplit (B' := [.row (.slice a W.length c) 3 1 W.length (iv (zs (List.range W.length))), .blk bw ow, .blk bl ol, .blk bs (.cells #[.slice a W.length c, .map (some bw), .map (some bl)] 84 (0, 0)), .blk b3 (.cells #[.pointer (some ⟨bs, 0, none⟩)] 77 (0, 0))]) hS
  clear hS hH
  have hll : L.length ≤ 9223372036854775807 := hL.le
  go_loopw [13] (fun i wr => ∃ (k : Nat) (cur : List Nat) (X : List Chunk) (bl : Nat) (ow ol : Obj) (lw : List (Int × Int)) (ll : LL), k ≤ L.length ∧ i = .int .i64 k ∧ runI (List.range W.length) (L.take k) = some cur ∧ NX (L.take k) X ∧ MapIs ik ik ow lw ∧ MapIs pk ik ol ll ∧ StOk W N cur lw ll ∧ Gr W.length cur ∧ Heap w wr ((.frz S w :: X) ++ [.row (.slice a W.length c) 3 1 W.length (iv (zs cur)), .blk bw ow, .blk bl ol, .blk bs (.cells #[.slice a W.length c, .map (some bw), .map (some bl)] 84 (0, 0)), .blk b3 (.cells #[.pointer (some ⟨bs, 0, none⟩)] 77 (0, 0))])) (fun i _ => L.length - (intOf i).toNat)
  case atStart => exact ⟨0, _, X, bl, ow, ol, lw, ll, by omega, rfl, rfl, hX, hmw, hml, hst, gr_range _, hH1⟩
  case round =>
    clear hH1 hX hmw hml hst
    obtain ⟨k, cur, X, bl, ow, ol, lw, ll, hk, rfl, hrun, hX, hmw, hml, hst, hgr, hO⟩ := hrel
    by_cases hlt : k < L.length
    · have hS := hO.split
      have hLr := hL.rest hO
      have hsn := take_snoc is0 L k hlt
      obtain ⟨s, hs⟩ : ∃ s, nth is0 L k = s := ⟨_, rfl⟩
      have hIs : InIS s := by rw [← hs]; exact hI _ (nth_mem is0 L k hlt)
      rw [hs] at hsn
      have HS := Lib.hid hs
      have hcb : ∀ x ∈ cur, x ≤ 9223372036854775807 := fun x hx => by
        obtain ⟨i, hi, rfl⟩ := List.mem_iff_getElem.1 hx
        have := hgr.le i (by rw [← hgr.len]; exact hi)
        rw [nth_eq 0 _ _ hi] at this
        have := hgr.len
        omega
      obtain ⟨i1, i2, i3, i4⟩ := hIs
      have hrs := runI_snoc s (L.take k) _ cur hrun
      rw [← hsn] at hrs
      have HRUN := Lib.hid hrun
      have HSN := Lib.hid hsn
      clear hs hrun hsn
      rcases okS_cases cur s with ⟨f1, HO⟩ | ⟨f1, f2, HO⟩ | ⟨f1, f2, f3, HO⟩ | ⟨f1, f2, f3, f4, HO⟩ | ⟨f1, f2, f3, f4, f5, HO⟩ | ⟨f1, f2, f3, f4, f5, f6, HO⟩ | ⟨f1, f2, f3, f4, f5, f6, f7, f8, HO⟩ | ⟨f1, f2, f3, f4, f5, f6, f7, HO⟩ | ⟨f1, f2, f3, f4, f5, f6, f7, f8, HO⟩
      · rw [HO.out, if_neg (by simp)] at hrs
        have HRS := Lib.hid hrs
        have F1 := Lib.hid f1
        clear hrs f1
        go_wp2_with (first | ((with_reducible refine g_idx (T := 36) ?_); refine seq_any rfl (any_index_is (T := 36) HS Try.underlying36 Try.sizeOf74 rfl rfl (by with_reducible assumption) (by omega) (by omega) (fun _ _ _ => ?_)); simp only [Act.put, List.setIfInBounds_toArray, List.set_cons_succ, List.set_cons_zero, Int.toNat_natCast, Int.toNat_zero, Int.toNat_one, nth_zero, nth_one]) | ((with_reducible refine g_load (T := 74) ?_); refine seq_of hS rfl (stp_loadk (T := 74) Try.isAgg74 Try.sizeOf74 rfl (by with_reducible assumption) (by simp) rfl ?_); simp only [Act.put, List.setIfInBounds_toArray, List.set_cons_succ, List.set_cons_zero, Int.toNat_natCast, Int.toNat_zero, Int.toNat_one, nth_zero, nth_one]) | ((with_reducible refine g_alloc (T := 74) ?_); refine seq_alloc (T := 74) hS Try.zeroValue74 (fun b9 wb9 hS => ?_); simp only [Act.put, List.setIfInBounds_toArray, List.set_cons_succ, List.set_cons_zero, Int.toNat_natCast, Int.toNat_zero, Int.toNat_one, nth_zero, nth_one]; simp only [List.cons_append, List.nil_append, List.set_cons_succ, List.set_cons_zero, Value.cells, iv_snoc, tv_snoc] at hS) | ((with_reducible refine g_store (T := 74) ?_); refine seq_store (T := 74) (u := .agg _) 6 hS rfl rfl rfl Try.sizeOf74 (by simp [Value.cells, Value.oneCell']) (by simp [Value.cells]) (fun _ hS => ?_); simp only [Act.put, List.setIfInBounds_toArray, List.set_cons_succ, List.set_cons_zero, Int.toNat_natCast, Int.toNat_zero, Int.toNat_one, nth_zero, nth_one]; simp only [List.cons_append, List.nil_append, List.set_cons_succ, List.set_cons_zero, Value.cells, iv_snoc, tv_snoc] at hS; simp only [List.take_zero, List.nil_append, List.append_nil, List.drop_succ_cons, List.drop_zero, List.drop_nil, List.take_succ_cons, List.cons_append, List.size_toArray, List.length_cons, List.length_nil, Nat.reduceAdd] at hS) | ((with_reducible refine g_load (T := 3) ?_); refine seq_of hS rfl (stp_load_blk (T := 3) 6 Try.isAgg3 rfl rfl rfl ?_); simp only [Act.put, List.setIfInBounds_toArray, List.set_cons_succ, List.set_cons_zero, Int.toNat_natCast, Int.toNat_zero, Int.toNat_one, nth_zero, nth_one]) | (go_at_call 69; refine (isg_any _ _ _ _ _ _ _ _ _ _ (hS.fz 5 rfl) (hS.fz 4 rfl) (hS.rowNats 1 rfl hcb) (by assumption)).mono ?_; rintro e w' ⟨rfl, hB⟩; have hS := hS.below hB; (first | rw [F1.out])))
        go_ret
        refine .inl ⟨?_, rfl, (hO.unsplit hS).sub ((List.nil_sublist _).cons_cons _)⟩
        rw [← List.take_append_drop (k + 1) L]
        exact runI_none _ _ _ HRS.out
      · rw [HO.out, if_neg (by simp)] at hrs
        have HRS := Lib.hid hrs
        have F1 := Lib.hid f1
        have F2 := Lib.hid f2
        clear hrs f1 f2
        go_wp2_with (first | ((with_reducible refine g_idx (T := 36) ?_); refine seq_any rfl (any_index_is (T := 36) HS Try.underlying36 Try.sizeOf74 rfl rfl (by with_reducible assumption) (by omega) (by omega) (fun _ _ _ => ?_)); simp only [Act.put, List.setIfInBounds_toArray, List.set_cons_succ, List.set_cons_zero, Int.toNat_natCast, Int.toNat_zero, Int.toNat_one, nth_zero, nth_one]) | ((with_reducible refine g_load (T := 74) ?_); refine seq_of hS rfl (stp_loadk (T := 74) Try.isAgg74 Try.sizeOf74 rfl (by with_reducible assumption) (by simp) rfl ?_); simp only [Act.put, List.setIfInBounds_toArray, List.set_cons_succ, List.set_cons_zero, Int.toNat_natCast, Int.toNat_zero, Int.toNat_one, nth_zero, nth_one]) | ((with_reducible refine g_alloc (T := 74) ?_); refine seq_alloc (T := 74) hS Try.zeroValue74 (fun b9 wb9 hS => ?_); simp only [Act.put, List.setIfInBounds_toArray, List.set_cons_succ, List.set_cons_zero, Int.toNat_natCast, Int.toNat_zero, Int.toNat_one, nth_zero, nth_one]; simp only [List.cons_append, List.nil_append, List.set_cons_succ, List.set_cons_zero, Value.cells, iv_snoc, tv_snoc] at hS) | ((with_reducible refine g_store (T := 74) ?_); refine seq_store (T := 74) (u := .agg _) 6 hS rfl rfl rfl Try.sizeOf74 (by simp [Value.cells, Value.oneCell']) (by simp [Value.cells]) (fun _ hS => ?_); simp only [Act.put, List.setIfInBounds_toArray, List.set_cons_succ, List.set_cons_zero, Int.toNat_natCast, Int.toNat_zero, Int.toNat_one, nth_zero, nth_one]; simp only [List.cons_append, List.nil_append, List.set_cons_succ, List.set_cons_zero, Value.cells, iv_snoc, tv_snoc] at hS; simp only [List.take_zero, List.nil_append, List.append_nil, List.drop_succ_cons, List.drop_zero, List.drop_nil, List.take_succ_cons, List.cons_append, List.size_toArray, List.length_cons, List.length_nil, Nat.reduceAdd] at hS) | ((with_reducible refine g_load (T := 3) ?_); refine seq_of hS rfl (stp_load_blk (T := 3) 6 Try.isAgg3 rfl rfl rfl ?_); simp only [Act.put, List.setIfInBounds_toArray, List.set_cons_succ, List.set_cons_zero, Int.toNat_natCast, Int.toNat_zero, Int.toNat_one, nth_zero, nth_one]) | (go_at_call 69; refine (isg_any _ _ _ _ _ _ _ _ _ _ (hS.fz 5 rfl) (hS.fz 4 rfl) (hS.rowNats 1 rfl hcb) (by assumption)).mono ?_; rintro e w' ⟨rfl, hB⟩; have hS := hS.below hB; (first | rw [F1.out] | rw [F2.out])))
        go_ret
        refine .inl ⟨?_, rfl, (hO.unsplit hS).sub ((List.nil_sublist _).cons_cons _)⟩
        rw [← List.take_append_drop (k + 1) L]
        exact runI_none _ _ _ HRS.out
      · rw [HO.out, if_neg (by simp)] at hrs
        have HRS := Lib.hid hrs
        have F1 := Lib.hid f1
        have F2 := Lib.hid f2
        have F3 := Lib.hid f3
        clear hrs f1 f2 f3
        go_wp2_with (first | ((with_reducible refine g_idx (T := 36) ?_); refine seq_any rfl (any_index_is (T := 36) HS Try.underlying36 Try.sizeOf74 rfl rfl (by with_reducible assumption) (by omega) (by omega) (fun _ _ _ => ?_)); simp only [Act.put, List.setIfInBounds_toArray, List.set_cons_succ, List.set_cons_zero, Int.toNat_natCast, Int.toNat_zero, Int.toNat_one, nth_zero, nth_one]) | ((with_reducible refine g_load (T := 74) ?_); refine seq_of hS rfl (stp_loadk (T := 74) Try.isAgg74 Try.sizeOf74 rfl (by with_reducible assumption) (by simp) rfl ?_); simp only [Act.put, List.setIfInBounds_toArray, List.set_cons_succ, List.set_cons_zero, Int.toNat_natCast, Int.toNat_zero, Int.toNat_one, nth_zero, nth_one]) | ((with_reducible refine g_alloc (T := 74) ?_); refine seq_alloc (T := 74) hS Try.zeroValue74 (fun b9 wb9 hS => ?_); simp only [Act.put, List.setIfInBounds_toArray, List.set_cons_succ, List.set_cons_zero, Int.toNat_natCast, Int.toNat_zero, Int.toNat_one, nth_zero, nth_one]; simp only [List.cons_append, List.nil_append, List.set_cons_succ, List.set_cons_zero, Value.cells, iv_snoc, tv_snoc] at hS) | ((with_reducible refine g_store (T := 74) ?_); refine seq_store (T := 74) (u := .agg _) 6 hS rfl rfl rfl Try.sizeOf74 (by simp [Value.cells, Value.oneCell']) (by simp [Value.cells]) (fun _ hS => ?_); simp only [Act.put, List.setIfInBounds_toArray, List.set_cons_succ, List.set_cons_zero, Int.toNat_natCast, Int.toNat_zero, Int.toNat_one, nth_zero, nth_one]; simp only [List.cons_append, List.nil_append, List.set_cons_succ, List.set_cons_zero, Value.cells, iv_snoc, tv_snoc] at hS; simp only [List.take_zero, List.nil_append, List.append_nil, List.drop_succ_cons, List.drop_zero, List.drop_nil, List.take_succ_cons, List.cons_append, List.size_toArray, List.length_cons, List.length_nil, Nat.reduceAdd] at hS) | ((with_reducible refine g_load (T := 3) ?_); refine seq_of hS rfl (stp_load_blk (T := 3) 6 Try.isAgg3 rfl rfl rfl ?_); simp only [Act.put, List.setIfInBounds_toArray, List.set_cons_succ, List.set_cons_zero, Int.toNat_natCast, Int.toNat_zero, Int.toNat_one, nth_zero, nth_one]) | (go_at_call 69; refine (isg_any _ _ _ _ _ _ _ _ _ _ (hS.fz 5 rfl) (hS.fz 4 rfl) (hS.rowNats 1 rfl hcb) (by assumption)).mono ?_; rintro e w' ⟨rfl, hB⟩; have hS := hS.below hB; (first | rw [F1.out] | rw [F2.out] | rw [F3.out])))
        go_ret
        refine .inl ⟨?_, rfl, (hO.unsplit hS).sub ((List.nil_sublist _).cons_cons _)⟩
        rw [← List.take_append_drop (k + 1) L]
        exact runI_none _ _ _ HRS.out
      · rw [HO.out, if_neg (by simp)] at hrs
        have HRS := Lib.hid hrs
        have F1 := Lib.hid f1
        have F2 := Lib.hid f2
        have F3 := Lib.hid f3
        clear hrs f1 f2 f3
        go_wp2_with (first | ((with_reducible refine g_idx (T := 36) ?_); refine seq_any rfl (any_index_is (T := 36) HS Try.underlying36 Try.sizeOf74 rfl rfl (by with_reducible assumption) (by omega) (by omega) (fun _ _ _ => ?_)); simp only [Act.put, List.setIfInBounds_toArray, List.set_cons_succ, List.set_cons_zero, Int.toNat_natCast, Int.toNat_zero, Int.toNat_one, nth_zero, nth_one]) | ((with_reducible refine g_load (T := 74) ?_); refine seq_of hS rfl (stp_loadk (T := 74) Try.isAgg74 Try.sizeOf74 rfl (by with_reducible assumption) (by simp) rfl ?_); simp only [Act.put, List.setIfInBounds_toArray, List.set_cons_succ, List.set_cons_zero, Int.toNat_natCast, Int.toNat_zero, Int.toNat_one, nth_zero, nth_one]) | ((with_reducible refine g_alloc (T := 74) ?_); refine seq_alloc (T := 74) hS Try.zeroValue74 (fun b9 wb9 hS => ?_); simp only [Act.put, List.setIfInBounds_toArray, List.set_cons_succ, List.set_cons_zero, Int.toNat_natCast, Int.toNat_zero, Int.toNat_one, nth_zero, nth_one]; simp only [List.cons_append, List.nil_append, List.set_cons_succ, List.set_cons_zero, Value.cells, iv_snoc, tv_snoc] at hS) | ((with_reducible refine g_store (T := 74) ?_); refine seq_store (T := 74) (u := .agg _) 6 hS rfl rfl rfl Try.sizeOf74 (by simp [Value.cells, Value.oneCell']) (by simp [Value.cells]) (fun _ hS => ?_); simp only [Act.put, List.setIfInBounds_toArray, List.set_cons_succ, List.set_cons_zero, Int.toNat_natCast, Int.toNat_zero, Int.toNat_one, nth_zero, nth_one]; simp only [List.cons_append, List.nil_append, List.set_cons_succ, List.set_cons_zero, Value.cells, iv_snoc, tv_snoc] at hS; simp only [List.take_zero, List.nil_append, List.append_nil, List.drop_succ_cons, List.drop_zero, List.drop_nil, List.take_succ_cons, List.cons_append, List.size_toArray, List.length_cons, List.length_nil, Nat.reduceAdd] at hS) | ((with_reducible refine g_load (T := 3) ?_); refine seq_of hS rfl (stp_load_blk (T := 3) 6 Try.isAgg3 rfl rfl rfl ?_); simp only [Act.put, List.setIfInBounds_toArray, List.set_cons_succ, List.set_cons_zero, Int.toNat_natCast, Int.toNat_zero, Int.toNat_one, nth_zero, nth_one]) | (go_at_call 69; refine (isg_any _ _ _ _ _ _ _ _ _ _ (hS.fz 5 rfl) (hS.fz 4 rfl) (hS.rowNats 1 rfl hcb) (by assumption)).mono ?_; rintro e w' ⟨rfl, hB⟩; have hS := hS.below hB; (first | rw [F1.out] | rw [F2.out] | rw [F3.out])))
        go_ret
        refine .inl ⟨?_, rfl, (hO.unsplit hS).sub ((List.nil_sublist _).cons_cons _)⟩
        rw [← List.take_append_drop (k + 1) L]
        exact runI_none _ _ _ HRS.out
      · rw [HO.out, if_neg (by simp)] at hrs
        have HRS := Lib.hid hrs
        have F1 := Lib.hid f1
        have F2 := Lib.hid f2
        have F3 := Lib.hid f3
        clear hrs f1 f2 f3
        go_wp2_with (first | ((with_reducible refine g_idx (T := 36) ?_); refine seq_any rfl (any_index_is (T := 36) HS Try.underlying36 Try.sizeOf74 rfl rfl (by with_reducible assumption) (by omega) (by omega) (fun _ _ _ => ?_)); simp only [Act.put, List.setIfInBounds_toArray, List.set_cons_succ, List.set_cons_zero, Int.toNat_natCast, Int.toNat_zero, Int.toNat_one, nth_zero, nth_one]) | ((with_reducible refine g_load (T := 74) ?_); refine seq_of hS rfl (stp_loadk (T := 74) Try.isAgg74 Try.sizeOf74 rfl (by with_reducible assumption) (by simp) rfl ?_); simp only [Act.put, List.setIfInBounds_toArray, List.set_cons_succ, List.set_cons_zero, Int.toNat_natCast, Int.toNat_zero, Int.toNat_one, nth_zero, nth_one]) | ((with_reducible refine g_alloc (T := 74) ?_); refine seq_alloc (T := 74) hS Try.zeroValue74 (fun b9 wb9 hS => ?_); simp only [Act.put, List.setIfInBounds_toArray, List.set_cons_succ, List.set_cons_zero, Int.toNat_natCast, Int.toNat_zero, Int.toNat_one, nth_zero, nth_one]; simp only [List.cons_append, List.nil_append, List.set_cons_succ, List.set_cons_zero, Value.cells, iv_snoc, tv_snoc] at hS) | ((with_reducible refine g_store (T := 74) ?_); refine seq_store (T := 74) (u := .agg _) 6 hS rfl rfl rfl Try.sizeOf74 (by simp [Value.cells, Value.oneCell']) (by simp [Value.cells]) (fun _ hS => ?_); simp only [Act.put, List.setIfInBounds_toArray, List.set_cons_succ, List.set_cons_zero, Int.toNat_natCast, Int.toNat_zero, Int.toNat_one, nth_zero, nth_one]; simp only [List.cons_append, List.nil_append, List.set_cons_succ, List.set_cons_zero, Value.cells, iv_snoc, tv_snoc] at hS; simp only [List.take_zero, List.nil_append, List.append_nil, List.drop_succ_cons, List.drop_zero, List.drop_nil, List.take_succ_cons, List.cons_append, List.size_toArray, List.length_cons, List.length_nil, Nat.reduceAdd] at hS) | ((with_reducible refine g_load (T := 3) ?_); refine seq_of hS rfl (stp_load_blk (T := 3) 6 Try.isAgg3 rfl rfl rfl ?_); simp only [Act.put, List.setIfInBounds_toArray, List.set_cons_succ, List.set_cons_zero, Int.toNat_natCast, Int.toNat_zero, Int.toNat_one, nth_zero, nth_one]) | (go_at_call 69; refine (isg_any _ _ _ _ _ _ _ _ _ _ (hS.fz 5 rfl) (hS.fz 4 rfl) (hS.rowNats 1 rfl hcb) (by assumption)).mono ?_; rintro e w' ⟨rfl, hB⟩; have hS := hS.below hB; (first | rw [F1.out] | rw [F2.out] | rw [F3.out])))
        go_ret
        refine .inl ⟨?_, rfl, (hO.unsplit hS).sub ((List.nil_sublist _).cons_cons _)⟩
        rw [← List.take_append_drop (k + 1) L]
        exact runI_none _ _ _ HRS.out
      · rw [HO.out, if_neg (by simp)] at hrs
        have HRS := Lib.hid hrs
        have F1 := Lib.hid f1
        have F2 := Lib.hid f2
        have F3 := Lib.hid f3
        clear hrs f1 f2 f3
        go_wp2_with (first | ((with_reducible refine g_idx (T := 36) ?_); refine seq_any rfl (any_index_is (T := 36) HS Try.underlying36 Try.sizeOf74 rfl rfl (by with_reducible assumption) (by omega) (by omega) (fun _ _ _ => ?_)); simp only [Act.put, List.setIfInBounds_toArray, List.set_cons_succ, List.set_cons_zero, Int.toNat_natCast, Int.toNat_zero, Int.toNat_one, nth_zero, nth_one]) | ((with_reducible refine g_load (T := 74) ?_); refine seq_of hS rfl (stp_loadk (T := 74) Try.isAgg74 Try.sizeOf74 rfl (by with_reducible assumption) (by simp) rfl ?_); simp only [Act.put, List.setIfInBounds_toArray, List.set_cons_succ, List.set_cons_zero, Int.toNat_natCast, Int.toNat_zero, Int.toNat_one, nth_zero, nth_one]) | ((with_reducible refine g_alloc (T := 74) ?_); refine seq_alloc (T := 74) hS Try.zeroValue74 (fun b9 wb9 hS => ?_); simp only [Act.put, List.setIfInBounds_toArray, List.set_cons_succ, List.set_cons_zero, Int.toNat_natCast, Int.toNat_zero, Int.toNat_one, nth_zero, nth_one]; simp only [List.cons_append, List.nil_append, List.set_cons_succ, List.set_cons_zero, Value.cells, iv_snoc, tv_snoc] at hS) | ((with_reducible refine g_store (T := 74) ?_); refine seq_store (T := 74) (u := .agg _) 6 hS rfl rfl rfl Try.sizeOf74 (by simp [Value.cells, Value.oneCell']) (by simp [Value.cells]) (fun _ hS => ?_); simp only [Act.put, List.setIfInBounds_toArray, List.set_cons_succ, List.set_cons_zero, Int.toNat_natCast, Int.toNat_zero, Int.toNat_one, nth_zero, nth_one]; simp only [List.cons_append, List.nil_append, List.set_cons_succ, List.set_cons_zero, Value.cells, iv_snoc, tv_snoc] at hS; simp only [List.take_zero, List.nil_append, List.append_nil, List.drop_succ_cons, List.drop_zero, List.drop_nil, List.take_succ_cons, List.cons_append, List.size_toArray, List.length_cons, List.length_nil, Nat.reduceAdd] at hS) | ((with_reducible refine g_load (T := 3) ?_); refine seq_of hS rfl (stp_load_blk (T := 3) 6 Try.isAgg3 rfl rfl rfl ?_); simp only [Act.put, List.setIfInBounds_toArray, List.set_cons_succ, List.set_cons_zero, Int.toNat_natCast, Int.toNat_zero, Int.toNat_one, nth_zero, nth_one]) | (go_at_call 69; refine (isg_any _ _ _ _ _ _ _ _ _ _ (hS.fz 5 rfl) (hS.fz 4 rfl) (hS.rowNats 1 rfl hcb) (by assumption)).mono ?_; rintro e w' ⟨rfl, hB⟩; have hS := hS.below hB; (first | rw [F1.out] | rw [F2.out] | rw [F3.out])))
        go_ret
        refine .inl ⟨?_, rfl, (hO.unsplit hS).sub ((List.nil_sublist _).cons_cons _)⟩
        rw [← List.take_append_drop (k + 1) L]
        exact runI_none _ _ _ HRS.out
      · rw [HO.out, if_neg (by simp)] at hrs
        have HRS := Lib.hid hrs
        have F1 := Lib.hid f1
        have F2 := Lib.hid f2
        have F3 := Lib.hid f3
        clear hrs f1 f2 f3
        go_wp2_with (first | ((with_reducible refine g_idx (T := 36) ?_); refine seq_any rfl (any_index_is (T := 36) HS Try.underlying36 Try.sizeOf74 rfl rfl (by with_reducible assumption) (by omega) (by omega) (fun _ _ _ => ?_)); simp only [Act.put, List.setIfInBounds_toArray, List.set_cons_succ, List.set_cons_zero, Int.toNat_natCast, Int.toNat_zero, Int.toNat_one, nth_zero, nth_one]) | ((with_reducible refine g_load (T := 74) ?_); refine seq_of hS rfl (stp_loadk (T := 74) Try.isAgg74 Try.sizeOf74 rfl (by with_reducible assumption) (by simp) rfl ?_); simp only [Act.put, List.setIfInBounds_toArray, List.set_cons_succ, List.set_cons_zero, Int.toNat_natCast, Int.toNat_zero, Int.toNat_one, nth_zero, nth_one]) | ((with_reducible refine g_alloc (T := 74) ?_); refine seq_alloc (T := 74) hS Try.zeroValue74 (fun b9 wb9 hS => ?_); simp only [Act.put, List.setIfInBounds_toArray, List.set_cons_succ, List.set_cons_zero, Int.toNat_natCast, Int.toNat_zero, Int.toNat_one, nth_zero, nth_one]; simp only [List.cons_append, List.nil_append, List.set_cons_succ, List.set_cons_zero, Value.cells, iv_snoc, tv_snoc] at hS) | ((with_reducible refine g_store (T := 74) ?_); refine seq_store (T := 74) (u := .agg _) 6 hS rfl rfl rfl Try.sizeOf74 (by simp [Value.cells, Value.oneCell']) (by simp [Value.cells]) (fun _ hS => ?_); simp only [Act.put, List.setIfInBounds_toArray, List.set_cons_succ, List.set_cons_zero, Int.toNat_natCast, Int.toNat_zero, Int.toNat_one, nth_zero, nth_one]; simp only [List.cons_append, List.nil_append, List.set_cons_succ, List.set_cons_zero, Value.cells, iv_snoc, tv_snoc] at hS; simp only [List.take_zero, List.nil_append, List.append_nil, List.drop_succ_cons, List.drop_zero, List.drop_nil, List.take_succ_cons, List.cons_append, List.size_toArray, List.length_cons, List.length_nil, Nat.reduceAdd] at hS) | ((with_reducible refine g_load (T := 3) ?_); refine seq_of hS rfl (stp_load_blk (T := 3) 6 Try.isAgg3 rfl rfl rfl ?_); simp only [Act.put, List.setIfInBounds_toArray, List.set_cons_succ, List.set_cons_zero, Int.toNat_natCast, Int.toNat_zero, Int.toNat_one, nth_zero, nth_one]) | (go_at_call 69; refine (isg_any _ _ _ _ _ _ _ _ _ _ (hS.fz 5 rfl) (hS.fz 4 rfl) (hS.rowNats 1 rfl hcb) (by assumption)).mono ?_; rintro e w' ⟨rfl, hB⟩; have hS := hS.below hB; (first | rw [F1.out] | rw [F2.out] | rw [F3.out])))
        go_ret
        refine .inl ⟨?_, rfl, (hO.unsplit hS).sub ((List.nil_sublist _).cons_cons _)⟩
        rw [← List.take_append_drop (k + 1) L]
        exact runI_none _ _ _ HRS.out
      · have hok := okS_is hgr.len HO.out
        rw [HO.out, if_pos rfl] at hrs
        have HRS := Lib.hid hrs
        have F1 := Lib.hid f1
        have F2 := Lib.hid f2
        have F3 := Lib.hid f3
        clear hrs f1 f2 f3
        go_wp2_with (first | ((with_reducible refine g_idx (T := 36) ?_); refine seq_any rfl (any_index_is (T := 36) HS Try.underlying36 Try.sizeOf74 rfl rfl (by with_reducible assumption) (by omega) (by omega) (fun _ _ _ => ?_)); simp only [Act.put, List.setIfInBounds_toArray, List.set_cons_succ, List.set_cons_zero, Int.toNat_natCast, Int.toNat_zero, Int.toNat_one, nth_zero, nth_one]) | ((with_reducible refine g_load (T := 74) ?_); refine seq_of hS rfl (stp_loadk (T := 74) Try.isAgg74 Try.sizeOf74 rfl (by with_reducible assumption) (by simp) rfl ?_); simp only [Act.put, List.setIfInBounds_toArray, List.set_cons_succ, List.set_cons_zero, Int.toNat_natCast, Int.toNat_zero, Int.toNat_one, nth_zero, nth_one]) | ((with_reducible refine g_alloc (T := 74) ?_); refine seq_alloc (T := 74) hS Try.zeroValue74 (fun b9 wb9 hS => ?_); simp only [Act.put, List.setIfInBounds_toArray, List.set_cons_succ, List.set_cons_zero, Int.toNat_natCast, Int.toNat_zero, Int.toNat_one, nth_zero, nth_one]; simp only [List.cons_append, List.nil_append, List.set_cons_succ, List.set_cons_zero, Value.cells, iv_snoc, tv_snoc] at hS) | ((with_reducible refine g_store (T := 74) ?_); refine seq_store (T := 74) (u := .agg _) 6 hS rfl rfl rfl Try.sizeOf74 (by simp [Value.cells, Value.oneCell']) (by simp [Value.cells]) (fun _ hS => ?_); simp only [Act.put, List.setIfInBounds_toArray, List.set_cons_succ, List.set_cons_zero, Int.toNat_natCast, Int.toNat_zero, Int.toNat_one, nth_zero, nth_one]; simp only [List.cons_append, List.nil_append, List.set_cons_succ, List.set_cons_zero, Value.cells, iv_snoc, tv_snoc] at hS; simp only [List.take_zero, List.nil_append, List.append_nil, List.drop_succ_cons, List.drop_zero, List.drop_nil, List.take_succ_cons, List.cons_append, List.size_toArray, List.length_cons, List.length_nil, Nat.reduceAdd] at hS) | ((with_reducible refine g_load (T := 3) ?_); refine seq_of hS rfl (stp_load_blk (T := 3) 6 Try.isAgg3 rfl rfl rfl ?_); simp only [Act.put, List.setIfInBounds_toArray, List.set_cons_succ, List.set_cons_zero, Int.toNat_natCast, Int.toNat_zero, Int.toNat_one, nth_zero, nth_one]) | (go_at_call 69; refine (isg_any _ _ _ _ _ _ _ _ _ _ (hS.fz 5 rfl) (hS.fz 4 rfl) (hS.rowNats 1 rfl hcb) (by assumption)).mono ?_; rintro e w' ⟨rfl, hB⟩; have hS := hS.below hB; (first | rw [F1.out] | rw [F2.out] | rw [F3.out])) | ((with_reducible refine g_load (T := 74) ?_); refine seq_of hS rfl (stp_load_all (T := 74) 6 Try.isAgg74 Try.sizeOf74 rfl rfl rfl ?_); simp only [Act.put, List.setIfInBounds_toArray, List.set_cons_succ, List.set_cons_zero, Int.toNat_natCast, Int.toNat_zero, Int.toNat_one, nth_zero, nth_one]))
        have hO1 := (hO.unsplit hS).runB
        refine (hnote (L.take k) _ X cur bl ow ol lw ll _ _ hX (by rw [← HSN.out, List.length_take]; omega) hok hgr hst hmw hml HRUN.out hO1.split).mono ?_
        rintro e w2 ⟨rfl, X', hX', hS'⟩
        have hO2 := (hO1.unsplit hS').runC
        clear hS' hO1 hS hO
        have hS := hO2.split
        simp only []
        go_step
        go_wp2_with (first | ((with_reducible refine g_load (T := 77) ?_); refine seq_of hS rfl (stp_load_blk (T := 77) 5 Try.isAgg77 rfl rfl rfl ?_); simp only [Act.put, List.setIfInBounds_toArray, List.set_cons_succ, List.set_cons_zero, Int.toNat_natCast, Int.toNat_zero, Int.toNat_one, nth_zero, nth_one]) | ((with_reducible refine g_load (T := 74) ?_); refine seq_of hS rfl (stp_load_all (T := 74) 6 Try.isAgg74 Try.sizeOf74 rfl rfl rfl ?_); simp only [Act.put, List.setIfInBounds_toArray, List.set_cons_succ, List.set_cons_zero, Int.toNat_natCast, Int.toNat_zero, Int.toNat_one, nth_zero, nth_one]))
        obtain ⟨sf, sa, sb, si⟩ := s
        have q1 := hok.p0
        have q2 := hok.pa
        have q3 := hok.pb
        have q4 := hok.pi
        dsimp only at q1 q2 q3 q4
        obtain ⟨sf, rfl⟩ : ∃ z : Nat, sf = z := ⟨sf.toNat, by omega⟩
        obtain ⟨sa, rfl⟩ : ∃ z : Nat, sa = z := ⟨sa.toNat, by omega⟩
        obtain ⟨sb, rfl⟩ : ∃ z : Nat, sb = z := ⟨sb.toNat, by omega⟩
        obtain ⟨si, rfl⟩ : ∃ z : Nat, si = z := ⟨si.toNat, by omega⟩
        have m1 := hok.face
        have m2 := hok.into
        have m3 := Lib.hid hok.hface
        have m4 := Lib.hid hok.hinto
        have m5 := hok.ne
        simp only [Int.toNat_natCast] at m1 m2 m3 m4 m5
        clear q1 q2 q3 q4
        have hP := Heap.runB (X := []) hS
        refine (merge_ok _ _ _ _ _ _ _ _ _ _ _ _ _ ⟨sf, sa, sb, si⟩ _ hP.split hmw hml hv hgr hst m1 m2 m3.out m4.out m5).mono ?_
        rintro e w' ⟨rfl, bl', ow', ol', lw', ll', hmw', hml', hst', hgr', hS'⟩
        have hS := Heap.runC (X := []) (hP.unsplit hS')
        have hO3 := hO2.unsplit hS
        simp only []
        go_step
        go_wp2
        go_roundw
        case rel =>
          refine ⟨k + 1, mrg cur sf si, X', bl', ow', ol', lw', ll', by omega, by go_num, ?_, ?_, hmw', hml', hst', hgr', ?_⟩
          · have := HRS.out
            simp only [Int.toNat_natCast] at this
            exact this
          · rw [HSN.out]; exact hX'
          · exact hO3.sub (List.Sublist.append_left (by repeat (first | exact List.Sublist.refl _ | apply List.Sublist.cons_cons | apply List.Sublist.cons | exact List.nil_sublist _)) _)
        case measure => simp [intOf]; omega
      · have hok := okS_is hgr.len HO.out
        rw [HO.out, if_pos rfl] at hrs
        have HRS := Lib.hid hrs
        have F1 := Lib.hid f1
        have F2 := Lib.hid f2
        have F3 := Lib.hid f3
        clear hrs f1 f2 f3
        go_wp2_with (first | ((with_reducible refine g_idx (T := 36) ?_); refine seq_any rfl (any_index_is (T := 36) HS Try.underlying36 Try.sizeOf74 rfl rfl (by with_reducible assumption) (by omega) (by omega) (fun _ _ _ => ?_)); simp only [Act.put, List.setIfInBounds_toArray, List.set_cons_succ, List.set_cons_zero, Int.toNat_natCast, Int.toNat_zero, Int.toNat_one, nth_zero, nth_one]) | ((with_reducible refine g_load (T := 74) ?_); refine seq_of hS rfl (stp_loadk (T := 74) Try.isAgg74 Try.sizeOf74 rfl (by with_reducible assumption) (by simp) rfl ?_); simp only [Act.put, List.setIfInBounds_toArray, List.set_cons_succ, List.set_cons_zero, Int.toNat_natCast, Int.toNat_zero, Int.toNat_one, nth_zero, nth_one]) | ((with_reducible refine g_alloc (T := 74) ?_); refine seq_alloc (T := 74) hS Try.zeroValue74 (fun b9 wb9 hS => ?_); simp only [Act.put, List.setIfInBounds_toArray, List.set_cons_succ, List.set_cons_zero, Int.toNat_natCast, Int.toNat_zero, Int.toNat_one, nth_zero, nth_one]; simp only [List.cons_append, List.nil_append, List.set_cons_succ, List.set_cons_zero, Value.cells, iv_snoc, tv_snoc] at hS) | ((with_reducible refine g_store (T := 74) ?_); refine seq_store (T := 74) (u := .agg _) 6 hS rfl rfl rfl Try.sizeOf74 (by simp [Value.cells, Value.oneCell']) (by simp [Value.cells]) (fun _ hS => ?_); simp only [Act.put, List.setIfInBounds_toArray, List.set_cons_succ, List.set_cons_zero, Int.toNat_natCast, Int.toNat_zero, Int.toNat_one, nth_zero, nth_one]; simp only [List.cons_append, List.nil_append, List.set_cons_succ, List.set_cons_zero, Value.cells, iv_snoc, tv_snoc] at hS; simp only [List.take_zero, List.nil_append, List.append_nil, List.drop_succ_cons, List.drop_zero, List.drop_nil, List.take_succ_cons, List.cons_append, List.size_toArray, List.length_cons, List.length_nil, Nat.reduceAdd] at hS) | ((with_reducible refine g_load (T := 3) ?_); refine seq_of hS rfl (stp_load_blk (T := 3) 6 Try.isAgg3 rfl rfl rfl ?_); simp only [Act.put, List.setIfInBounds_toArray, List.set_cons_succ, List.set_cons_zero, Int.toNat_natCast, Int.toNat_zero, Int.toNat_one, nth_zero, nth_one]) | (go_at_call 69; refine (isg_any _ _ _ _ _ _ _ _ _ _ (hS.fz 5 rfl) (hS.fz 4 rfl) (hS.rowNats 1 rfl hcb) (by assumption)).mono ?_; rintro e w' ⟨rfl, hB⟩; have hS := hS.below hB; (first | rw [F1.out] | rw [F2.out] | rw [F3.out])) | ((with_reducible refine g_load (T := 74) ?_); refine seq_of hS rfl (stp_load_all (T := 74) 6 Try.isAgg74 Try.sizeOf74 rfl rfl rfl ?_); simp only [Act.put, List.setIfInBounds_toArray, List.set_cons_succ, List.set_cons_zero, Int.toNat_natCast, Int.toNat_zero, Int.toNat_one, nth_zero, nth_one]))
        have hO1 := (hO.unsplit hS).runB
        refine (hnote (L.take k) _ X cur bl ow ol lw ll _ _ hX (by rw [← HSN.out, List.length_take]; omega) hok hgr hst hmw hml HRUN.out hO1.split).mono ?_
        rintro e w2 ⟨rfl, X', hX', hS'⟩
        have hO2 := (hO1.unsplit hS').runC
        clear hS' hO1 hS hO
        have hS := hO2.split
        simp only []
        go_step
        go_wp2_with (first | ((with_reducible refine g_load (T := 77) ?_); refine seq_of hS rfl (stp_load_blk (T := 77) 5 Try.isAgg77 rfl rfl rfl ?_); simp only [Act.put, List.setIfInBounds_toArray, List.set_cons_succ, List.set_cons_zero, Int.toNat_natCast, Int.toNat_zero, Int.toNat_one, nth_zero, nth_one]) | ((with_reducible refine g_load (T := 74) ?_); refine seq_of hS rfl (stp_load_all (T := 74) 6 Try.isAgg74 Try.sizeOf74 rfl rfl rfl ?_); simp only [Act.put, List.setIfInBounds_toArray, List.set_cons_succ, List.set_cons_zero, Int.toNat_natCast, Int.toNat_zero, Int.toNat_one, nth_zero, nth_one]))
        obtain ⟨sf, sa, sb, si⟩ := s
        have q1 := hok.p0
        have q2 := hok.pa
        have q3 := hok.pb
        have q4 := hok.pi
        dsimp only at q1 q2 q3 q4
        obtain ⟨sf, rfl⟩ : ∃ z : Nat, sf = z := ⟨sf.toNat, by omega⟩
        obtain ⟨sa, rfl⟩ : ∃ z : Nat, sa = z := ⟨sa.toNat, by omega⟩
        obtain ⟨sb, rfl⟩ : ∃ z : Nat, sb = z := ⟨sb.toNat, by omega⟩
        obtain ⟨si, rfl⟩ : ∃ z : Nat, si = z := ⟨si.toNat, by omega⟩
        have m1 := hok.face
        have m2 := hok.into
        have m3 := Lib.hid hok.hface
        have m4 := Lib.hid hok.hinto
        have m5 := hok.ne
        simp only [Int.toNat_natCast] at m1 m2 m3 m4 m5
        clear q1 q2 q3 q4
        have hP := Heap.runB (X := []) hS
        refine (merge_ok _ _ _ _ _ _ _ _ _ _ _ _ _ ⟨sf, sa, sb, si⟩ _ hP.split hmw hml hv hgr hst m1 m2 m3.out m4.out m5).mono ?_
        rintro e w' ⟨rfl, bl', ow', ol', lw', ll', hmw', hml', hst', hgr', hS'⟩
        have hS := Heap.runC (X := []) (hP.unsplit hS')
        have hO3 := hO2.unsplit hS
        simp only []
        go_step
        go_wp2
        go_roundw
        case rel =>
          refine ⟨k + 1, mrg cur sf si, X', bl', ow', ol', lw', ll', by omega, by go_num, ?_, ?_, hmw', hml', hst', hgr', ?_⟩
          · have := HRS.out
            simp only [Int.toNat_natCast] at this
            exact this
          · rw [HSN.out]; exact hX'
          · exact hO3.sub (List.Sublist.append_left (by repeat (first | exact List.Sublist.refl _ | apply List.Sublist.cons_cons | apply List.Sublist.cons | exact List.nil_sublist _)) _)
        case measure => simp [intOf]; omega
    · obtain rfl : k = L.length := by omega
      rw [List.take_length] at hrun hX
      go_wp2
      go_ret
      exact .inr ⟨cur, X, bl, ow, ol, lw, ll, hrun, rfl, hX, hmw, hml, hst, hgr, hO.drop5⟩
end Go.Proofs.Ytdibpfbibgicaaa
