/- B0: laws of rows of any stride: storing a cell, loading an aggregate, indexing, slicing off the end, freezing. -/
import Derived.Test.YtdibpfbibgicaaaF2
set_option linter.unusedVariables false
set_option linter.unusedSimpArgs false
namespace Go.Hp
open Go

section
variable {P : Program} {ops : Array Oper} {Q : Exit → Act → World → Prop} {rest : List Oper} {a : Act} {w w0 : World} {H : List Chunk} {K : Act → Prop} {C : World → Prop} {s : List Mv} {i : Nat}
variable {dst : Option Tmp} {ty T E Tb : TypeId} {pos : String} {aft : Array Edge} {gd : Option (Nat × Bool)} {x y ix : Operand} {g n c : Nat}

theorem Heap.rowSl {v : Value} {k : Nat} {cs : List Value} (hS : Heap w0 w H) (j : Nat) (hj : H[j]? = some (.row v Tb k n cs)) : SlC w (Chunk.row v Tb k n cs).has k v n cs := SlC.ofRow (hS.ok _ (List.mem_of_getElem? hj))
theorem Heap.rowCap {ad : Option Addr} {k : Nat} {cs : List Value} (hS : Heap w0 w H) (j : Nat) (hj : H[j]? = some (.row (.slice ad n c) Tb k n cs)) : n ≤ c := by
  obtain ⟨_, a, cap, e, h, _⟩ := hS.rowSl j hj
  simp only [Value.slice.injEq] at e
  omega
/-- A block as a row. -/
theorem Heap.toRow {arr : Array Value} {k m : Nat} (hS : Heap w0 w H) (j : Nat) (hj : H[j]? = some (.blk g (.cells arr Tb (0, 0)))) (hl : arr.size = m * k) (hm : m ≤ maxLen) : Heap w0 w (H.set j (.row (.slice (some ⟨g, 0, none⟩) m m) Tb k m arr.toList)) := by
  have hok : w.heap[g]? = some (.cells arr Tb (0, 0)) := hS.ok _ (List.mem_of_getElem? hj)
  refine hS.turn j hj rfl rfl rfl (Nat.le_refl _) ⟨by simpa using hl, .inr ⟨g, m, arr, rfl, Nat.zero_le _, hok, Nat.le_refl _, hm, hl, ?_⟩⟩ (fun k hk => .inl (by simp only [Chunk.has, Value.ownBlock] at hk ⊢; simpa using hk.symm)) (fun _ _ _ => rfl)
  rw [← hl, ← Array.length_toList, List.take_length]

theorem any_index_atk {off k : Nat} (hu : P.underlying T = some (.slice E)) (hz : ∀ w, (sizeOf E).run P w = .ok k w) {i : Int} (hx : a.eval x = .slice (some ⟨g, off, none⟩) n c) (hi : a.eval ix = .int .i64 i) (hlo : 0 ≤ i) (hhi : i < n)
    (hk : K (a.put dst (.pointer (some ⟨g, off + i.toNat * k, none⟩)))) : StpAny P ⟨dst, .indexAddr T x ix, ty, pos, aft, gd⟩ a K := by
  have hadd : (⟨g, off, none⟩ : Addr).add (i.toNat * k) = ⟨g, off + i.toNat * k, none⟩ := by unfold Addr.add; split <;> simp_all
  refine ⟨⟨.pointer (some ⟨g, off + i.toNat * k, none⟩), fun w' => ?_, hk⟩⟩
  generalize a.eval = ρ at hx hi
  simp [execOp, hx, hi, Instr.indexAt, asIntOf, go_sem, run_underlying hu, hlo, hhi, hz, hadd]

theorem stp_loadk_row {cs : List Value} {k i : Nat} (j : Nat) (hag : ∀ w, (isAgg T).run P w = .ok true w) (hz : ∀ w, (sizeOf T).run P w = .ok k w) (hx : a.eval x = .pointer (some ⟨g, i * k, none⟩)) (hj : H[j]? = some (.row (.slice (some ⟨g, 0, none⟩) n c) Tb k n cs)) (hi : i < n)
    (hk : K (a.put dst (.agg ((cs.drop (i * k)).take k).toArray))) : Stp P w0 H ⟨dst, .load T x, ty, pos, aft, gd⟩ a K := by
  refine ⟨⟨_, fun w' hS => ?_, hk⟩⟩
  have hr := hS.rowSl j hj
  obtain ⟨hl, ad, cap, e, _, _, _, hc⟩ := hr
  simp only [Value.slice.injEq] at e
  have hc := hc ⟨g, 0, none⟩ e.1.symm
  have h1 := run_loadCells_list (P := P) w' ⟨g, i * k, none⟩ ((cs.drop (i * k)).take k) (fun j u hu => by
    rw [eval_addr]
    rw [List.getElem?_take] at hu
    split at hu
    · rw [List.getElem?_drop] at hu
      have := hc.cell _ _ hu
      rwa [Nat.zero_add] at this
    · cases hu)
  have hlen : ((cs.drop (i * k)).take k).length = k := by
    have : (i + 1) * k ≤ n * k := Nat.mul_le_mul_right k hi
    rw [Nat.add_mul, Nat.one_mul] at this
    simp; omega
  rw [hlen] at h1
  generalize a.eval = ρ at hx
  simp only [execOp, hx, Instr.loadAt, Instr.sureAddr, Sem.run_bind, Sem.run_pure, Result.andThen_ok, run_loadVar_agg hag hz h1]

theorem seq_store_rowv {cs : List Value} {k i : Nat} {v : Int} (j : Nat) (hS : Heap w0 w H) (hx : a.eval x = .pointer (some ⟨g, i, none⟩)) (hy : a.eval y = .int .i64 v) (hj : H[j]? = some (.row (.slice (some ⟨g, 0, none⟩) n c) Tb k n cs)) (hi : i < cs.length)
    (hT : ∀ w, (sizeOf T).run P w = .ok 1 w)
    (hk : ∀ w', Heap w0 w' (H.set j (.row (.slice (some ⟨g, 0, none⟩) n c) Tb k n (cs.set i (.int .i64 v)))) → wpList P ops Q rest (a.put dst undef) w') :
    wpList P ops Q (⟨dst, .store T x y, ty, pos, aft, none⟩ :: rest) a w := by
  obtain ⟨hl, ho⟩ := hS.ok _ (List.mem_of_getElem? hj)
  rcases ho with ⟨h1, h2⟩ | ⟨g', cap, cur, h1, hb0, hg, hnc, hcm, hcs, htk⟩
  · subst h2; rw [hl] at hi; omega
  · simp only [Value.slice.injEq, Option.some.injEq, Addr.mk.injEq] at h1
    obtain ⟨⟨rfl, -⟩, -, rfl⟩ := h1
    have hlt : i < cur.size := by
      have : n * k ≤ c * k := Nat.mul_le_mul_right k hnc
      omega
    have hr := run_store_blk (P := P) (T := T) (u := .int .i64 v) (off := i) hT hg (by simp [Value.cells, Value.oneCell']) (by simp [Value.cells]; omega)
    refine seq_skip (w' := w.setRow g (cur.toList.take i ++ (Value.int .i64 v).cells.toList ++ cur.toList.drop (i + (Value.int .i64 v).cells.size)).toArray) rfl ?_ (hk _ ?_)
    · generalize a.eval = ρ at hx hy
      simp only [execOp, hx, hy, Instr.storeAt, Instr.sureAddr, Sem.run_bind, Sem.run_pure, Result.andThen_ok, hr]
    · have hset : (cur.toList.take i ++ (Value.int .i64 v).cells.toList ++ cur.toList.drop (i + (Value.int .i64 v).cells.size)) = cur.toList.set i (.int .i64 v) := by
        rw [List.set_eq_take_append_cons_drop, if_pos (by rw [Array.length_toList]; omega)]
        simp [Value.cells]
      rw [hset]
      refine hS.turn j hj rfl rfl rfl (by simp [World.setRow]) ?_ (fun k hk => .inl hk) (fun k _ hne => setRow_other w g k _ (fun e => hne (by simp [Chunk.has, Value.ownBlock, e])))
      refine ⟨by rw [List.length_set]; exact hl, .inr ⟨g, c, _, rfl, hb0, setRow_heap w g cur _ Tb (0, 0) hg, hnc, hcm, by simp [hcs], ?_⟩⟩
      rw [List.take_set, htk]

/-- A slice of several literals. -/
theorem seq_bsL {k : Nat} {z : Value} {els : Array (Nat × Operand)} {L : List (Nat × Value)} {arr : Array Value} (hS : Heap w0 w H) (hu : P.underlying T = some (.slice E)) (hsz : ∀ w, (sizeOf E).run P w = .ok k w) (hz : ∀ w, (zeroValue E).run P w = .ok z w)
    (h0 : 0 < n * k) (hl : n * k ≤ 16777216) (hf : Instr.fill (fun i => some (i * k, k)) ((Array.range (n * k)).map (z.cells[· % z.cells.size]!)) L = some arr) (hx : els.toList.map (fun y => (y.1, a.eval y.2)) = L) (hg : Region.wanted ⟨dst, .buildSlice T n els, ty, pos, aft, gd⟩ (yielded ops a.tmps) = true)
    (hk : ∀ b w', Heap w0 w' (H ++ [.blk b (.cells arr E (0, 0))]) → wpList P ops Q rest (a.put dst (.slice (some ⟨b, 0, none⟩) n n)) w') : wpList P ops Q (⟨dst, .buildSlice T n els, ty, pos, aft, gd⟩ :: rest) a w := by
  refine seq_heap (w' := w.alloc (.cells arr E (0, 0))) (v := .slice (some ⟨w.heap.size, 0, none⟩) n n) hg ?_ (hk _ _ (hS.alloc _))
  generalize a.eval = ρ at hx
  have h1 : ¬ (16777216 < n * k) := by omega
  have h2 : ¬ (n * k = 0) := by omega
  simp only [execOp, Instr.buildSlice, Sem.run_bind, run_underlying hu, hsz, Result.andThen_ok, gt_iff_lt, Nat.reducePow, h1, if_false, h2, hz, Sem.run_pure, Array.toList_map, hx, hf]
  rfl
end

theorem fill3 (a b c : Int) : Instr.fill (fun i => some (i * 1, 1)) ((Array.range (3 * 1)).map ((Value.int .i64 0).cells[· % (Value.int .i64 0).cells.size]!)) [(0, .int .i64 a), (1, .int .i64 b), (2, .int .i64 c)] = some #[.int .i64 a, .int .i64 b, .int .i64 c] := by
  have h : ((Array.range (3 * 1)).map ((Value.int .i64 0).cells[· % (Value.int .i64 0).cells.size]!)) = #[.int .i64 0, .int .i64 0, .int .i64 0] := by
    apply Array.ext'; simp [Array.range, List.ofFn_succ, Value.cells]
  rw [h]
  simp [Instr.fill, Value.cells]
theorem fill4 (a b c d : Int) : Instr.fill (fun i => some (i * 1, 1)) ((Array.range (4 * 1)).map ((Value.int .i64 0).cells[· % (Value.int .i64 0).cells.size]!)) [(0, .int .i64 a), (1, .int .i64 b), (2, .int .i64 c), (3, .int .i64 d)] = some #[.int .i64 a, .int .i64 b, .int .i64 c, .int .i64 d] := by
  have h : ((Array.range (4 * 1)).map ((Value.int .i64 0).cells[· % (Value.int .i64 0).cells.size]!)) = #[.int .i64 0, .int .i64 0, .int .i64 0, .int .i64 0] := by
    apply Array.ext'; simp [Array.range, List.ofFn_succ, Value.cells]
  rw [h]
  simp [Instr.fill, Value.cells]
theorem fill5 (a b c d e : Int) : Instr.fill (fun i => some (i * 1, 1)) ((Array.range (5 * 1)).map ((Value.int .i64 0).cells[· % (Value.int .i64 0).cells.size]!)) [(0, .int .i64 a), (1, .int .i64 b), (2, .int .i64 c), (3, .int .i64 d), (4, .int .i64 e)] = some #[.int .i64 a, .int .i64 b, .int .i64 c, .int .i64 d, .int .i64 e] := by
  have h : ((Array.range (5 * 1)).map ((Value.int .i64 0).cells[· % (Value.int .i64 0).cells.size]!)) = #[.int .i64 0, .int .i64 0, .int .i64 0, .int .i64 0, .int .i64 0] := by
    apply Array.ext'; simp [Array.range, List.ofFn_succ, Value.cells]
  rw [h]
  simp [Instr.fill, Value.cells]
theorem fill6 (a b c d e f : Int) : Instr.fill (fun i => some (i * 1, 1)) ((Array.range (6 * 1)).map ((Value.int .i64 0).cells[· % (Value.int .i64 0).cells.size]!)) [(0, .int .i64 a), (1, .int .i64 b), (2, .int .i64 c), (3, .int .i64 d), (4, .int .i64 e), (5, .int .i64 f)] = some #[.int .i64 a, .int .i64 b, .int .i64 c, .int .i64 d, .int .i64 e, .int .i64 f] := by
  have h : ((Array.range (6 * 1)).map ((Value.int .i64 0).cells[· % (Value.int .i64 0).cells.size]!)) = #[.int .i64 0, .int .i64 0, .int .i64 0, .int .i64 0, .int .i64 0, .int .i64 0] := by
    apply Array.ext'; simp [Array.range, List.ofFn_succ, Value.cells]
  rw [h]
  simp [Instr.fill, Value.cells]
theorem tv_set0 {N : List Tri} {i : Nat} {v : Int} (hi : i < N.length) : (tv N).set (i * 3) (.int .i64 v) = tv (N.set i (v, (nth tz N i).2.1, (nth tz N i).2.2)) := by
  induction N generalizing i with
  | nil => simp at hi
  | cons x N ih =>
    have hc : ∀ (x : Tri) (N : List Tri), tv (x :: N) = .int .i64 x.1 :: .int .i64 x.2.1 :: .int .i64 x.2.2 :: tv N := fun x N => by simp [tv, enc3]
    cases i with
    | zero => simp [hc, nth]
    | succ i =>
      rw [show (i + 1) * 3 = i * 3 + 1 + 1 + 1 by omega, hc, List.set_cons_succ, List.set_cons_succ, List.set_cons_succ, ih (by simpa using hi), List.set_cons_succ, hc]
      simp [nth]
theorem tv_set1 {N : List Tri} {i : Nat} {v : Int} (hi : i < N.length) : (tv N).set (i * 3 + 1) (.int .i64 v) = tv (N.set i ((nth tz N i).1, v, (nth tz N i).2.2)) := by
  induction N generalizing i with
  | nil => simp at hi
  | cons x N ih =>
    have hc : ∀ (x : Tri) (N : List Tri), tv (x :: N) = .int .i64 x.1 :: .int .i64 x.2.1 :: .int .i64 x.2.2 :: tv N := fun x N => by simp [tv, enc3]
    cases i with
    | zero => simp [hc, nth]
    | succ i =>
      rw [show (i + 1) * 3 + 1 = i * 3 + 1 + 1 + 1 + 1 by omega, hc, List.set_cons_succ, List.set_cons_succ, List.set_cons_succ, ih (by simpa using hi), List.set_cons_succ, hc]
      simp [nth]
theorem tv_set2 {N : List Tri} {i : Nat} {v : Int} (hi : i < N.length) : (tv N).set (i * 3 + 2) (.int .i64 v) = tv (N.set i ((nth tz N i).1, (nth tz N i).2.1, v)) := by
  induction N generalizing i with
  | nil => simp at hi
  | cons x N ih =>
    have hc : ∀ (x : Tri) (N : List Tri), tv (x :: N) = .int .i64 x.1 :: .int .i64 x.2.1 :: .int .i64 x.2.2 :: tv N := fun x N => by simp [tv, enc3]
    cases i with
    | zero => simp [hc, nth]
    | succ i =>
      rw [show (i + 1) * 3 + 2 = i * 3 + 2 + 1 + 1 + 1 by omega, hc, List.set_cons_succ, List.set_cons_succ, List.set_cons_succ, ih (by simpa using hi), List.set_cons_succ, hc]
      simp [nth]
theorem SlC.cut {w : World} {S : Nat → Prop} {k n j c : Nat} {g : Nat} {cs : List Value} (h : SlC w S k (.slice (some ⟨g, 0, none⟩) n c) n cs) (hj : j ≤ n) : SlC w S k (.slice (some ⟨g, 0, none⟩) j c) j (cs.take (j * k)) := by
  obtain ⟨h1, a, cap, h2, h3, h4, h5, h6⟩ := h
  simp only [Value.slice.injEq] at h2
  obtain ⟨rfl, -, rfl⟩ := h2
  have hm : j * k ≤ n * k := Nat.mul_le_mul_right k hj
  refine ⟨by rw [List.length_take]; omega, _, c, rfl, by omega, h4, (fun e => by cases e), fun ad e => ?_⟩
  have hc := h6 ad e
  refine ⟨fun hne => hc.spot (fun e2 => hne (by rw [e2]; simp)), fun hne => hc.inS (fun e2 => hne (by rw [e2]; simp)), fun i u hu => hc.cell i u ?_⟩
  rw [List.getElem?_take] at hu
  split at hu
  · exact hu
  · cases hu
end Go.Hp
