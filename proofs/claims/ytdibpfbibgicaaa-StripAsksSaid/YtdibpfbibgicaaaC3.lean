/- C3: merges given as integers: which are valid; the closure of run. -/
import Derived.Test.YtdibpfbibgicaaaC2
set_option linter.unusedVariables false
set_option linter.unusedSimpArgs false
namespace Go.Proofs.Ytdibpfbibgicaaa
open Go.RowKit Go.Hp

/-- A merge of integers, whatever they are. -/
structure IS where
  face : Int
  a : Int
  b : Int
  into : Int
  deriving DecidableEq
def isA (s : IS) : Array Value := #[.int .i64 s.face, .int .i64 s.a, .int .i64 s.b, .int .i64 s.into]
def isv (l : List IS) : List Value := l.flatMap fun s => (isA s).toList
def InIS (s : IS) : Prop := InI s.face ∧ InI s.a ∧ InI s.b ∧ InI s.into
/-- A number of a group that is not that of face 0. -/
def isG (of : List Nat) (n : Int) : Bool := decide (0 < n) && (decide (n < of.length) && (((nth 0 of n.toNat : Nat) : Int) == n))
def okS (of : List Nat) (s : IS) : Bool := isG of s.face && (isG of s.a && (isG of s.b && (!decide (s.b ≤ s.a) && (!(s.face == s.a) && (!(s.face == s.b) && !((s.into != s.a) && (s.into != s.b)))))))
theorem okS_cases (of : List Nat) (s : IS) :
    (isG of s.face = false ∧ Hid (okS of s = false)) ∨
    (isG of s.face = true ∧ isG of s.a = false ∧ Hid (okS of s = false)) ∨
    (isG of s.face = true ∧ isG of s.a = true ∧ isG of s.b = false ∧ Hid (okS of s = false)) ∨
    (isG of s.face = true ∧ isG of s.a = true ∧ isG of s.b = true ∧ decide (s.b ≤ s.a) = true ∧ Hid (okS of s = false)) ∨
    (isG of s.face = true ∧ isG of s.a = true ∧ isG of s.b = true ∧ decide (s.b ≤ s.a) = false ∧ (s.face == s.a) = true ∧ Hid (okS of s = false)) ∨
    (isG of s.face = true ∧ isG of s.a = true ∧ isG of s.b = true ∧ decide (s.b ≤ s.a) = false ∧ (s.face == s.a) = false ∧ (s.face == s.b) = true ∧ Hid (okS of s = false)) ∨
    (isG of s.face = true ∧ isG of s.a = true ∧ isG of s.b = true ∧ decide (s.b ≤ s.a) = false ∧ (s.face == s.a) = false ∧ (s.face == s.b) = false ∧ (s.into != s.a) = true ∧ (s.into != s.b) = true ∧ Hid (okS of s = false)) ∨
    (isG of s.face = true ∧ isG of s.a = true ∧ isG of s.b = true ∧ decide (s.b ≤ s.a) = false ∧ (s.face == s.a) = false ∧ (s.face == s.b) = false ∧ (s.into != s.a) = false ∧ Hid (okS of s = true)) ∨
    (isG of s.face = true ∧ isG of s.a = true ∧ isG of s.b = true ∧ decide (s.b ≤ s.a) = false ∧ (s.face == s.a) = false ∧ (s.face == s.b) = false ∧ (s.into != s.a) = true ∧ (s.into != s.b) = false ∧ Hid (okS of s = true)) := by
  unfold Hid okS
  generalize isG of s.face = A
  generalize isG of s.a = B
  generalize isG of s.b = C
  generalize decide (s.b ≤ s.a) = D
  generalize (s.face == s.a) = E
  generalize (s.face == s.b) = F
  generalize (s.into != s.a) = G
  generalize (s.into != s.b) = K
  cases A <;> cases B <;> cases C <;> cases D <;> cases E <;> cases F <;> cases G <;> cases K <;> simp
/-- What the merges of a list leave; none: one is not valid. -/
def runI (of : List Nat) : List IS → Option (List Nat)
  | [] => some of
  | s :: l => if okS of s = true then runI (mrg of s.face.toNat s.into.toNat) l else none
theorem runI_snoc (s : IS) : ∀ (l : List IS) (of cur : List Nat), runI of l = some cur → runI of (l ++ [s]) = if okS cur s = true then some (mrg cur s.face.toNat s.into.toNat) else none
  | [], of, cur, h => by cases h; simp [runI]
  | t :: l, of, cur, h => by
    simp only [runI] at h
    simp only [List.cons_append, runI]
    split at h
    · rename_i ht
      rw [if_pos ht]
      exact runI_snoc s l _ cur h
    · cases h
theorem runI_none : ∀ (l m : List IS) (of : List Nat), runI of l = none → runI of (l ++ m) = none
  | [], m, of, h => by cases h
  | t :: l, m, of, h => by
    simp only [runI] at h
    simp only [List.cons_append, runI]
    split at h
    · rename_i ht
      rw [if_pos ht]
      exact runI_none l m _ h
    · rename_i ht
      rw [if_neg ht]
structure OkIs (n : Nat) (of : List Nat) (s : IS) : Prop where
  face : s.face.toNat < n
  into : s.into.toNat < n
  la : s.a.toNat < n
  lb : s.b.toNat < n
  hface : nth 0 of s.face.toNat = s.face.toNat
  hinto : nth 0 of s.into.toNat = s.into.toNat
  ha : nth 0 of s.a.toNat = s.a.toNat
  hb : nth 0 of s.b.toNat = s.b.toNat
  ne : s.face.toNat ≠ s.into.toNat
  p0 : 0 < s.face
  pi : 0 < s.into
  pa : 0 < s.a
  pb : 0 < s.b
  ab : s.a < s.b
  fa : s.face ≠ s.a
  fb : s.face ≠ s.b
  io : s.into = s.a ∨ s.into = s.b
theorem okS_is {n : Nat} {of : List Nat} (hl : of.length = n) {s : IS} (h : okS of s = true) : OkIs n of s := by
  unfold okS isG at h
  simp only [Bool.and_eq_true, decide_eq_true_iff, beq_iff_eq, Bool.not_eq_true', decide_eq_false_iff_not, beq_eq_false_iff_ne, bne_iff_ne, ne_eq, Bool.and_eq_false_imp, bne_eq_false_iff_eq] at h
  obtain ⟨⟨f1, f2, f3⟩, ⟨a1, a2, a3⟩, ⟨b1, b2, b3⟩, h1, h2, h3, h4⟩ := h
  have hio : s.into = s.a ∨ s.into = s.b := by
    by_cases e : s.into = s.a
    · exact .inl e
    · exact .inr (h4 e)
  refine ⟨by omega, by rcases hio with e | e <;> omega, by omega, by omega, by omega, ?_, by omega, by omega, by rcases hio with e | e <;> omega, f1, by rcases hio with e | e <;> omega, a1, b1, by omega, h2, h3, hio⟩
  rcases hio with e | e <;> rw [e] <;> omega

set_option maxHeartbeats 1000000 in
set_option maxRecDepth 100000 in
theorem isg_any (b3 bs : Nat) (a : Option Addr) (n c bw bl : Nat) (of : List Nat) (z : Int) (w : World) (hb3 : Fz w (Old w) b3 (.cells #[.pointer (some ⟨bs, 0, none⟩)] 77 (0, 0))) (hbs : Fz w (Old w) bs (.cells #[.slice a n c, .map (some bw), .map (some bl)] 84 (0, 0))) (hx : Nats w (Old w) (.slice a n c) of) (hz : InI z) :
    Calls Try.prog 69 #[.int .i64 z, .pointer (some ⟨b3, 0, none⟩)] w fun e w' => e = .returned (.bool (isG of z)) ∧ Below w.heap.size w w' := by
  have hn := hx.len
  subst hn
  have hle := hx.le
  have hS := Heap.start w
  have hiG : isG of z = (decide (0 < z) && (decide (z < of.length) && (((nth 0 of z.toNat : Nat) : Int) == z))) := rfl
  rw [hiG]
  clear hiG
  cases h1 : decide (0 < z) with
  | false =>
    go_enter Try.func69, Try.ntmps69
    go_wp2
    go_ret
    exact ⟨rfl, hS.toBelow (by simp)⟩
  | true =>
    cases h2 : decide (z < of.length) with
    | false =>
      go_enter Try.func69, Try.ntmps69
      repeat ((fail_if_success ((with_reducible refine g_load ?_))); go_step)
      ((with_reducible refine g_load (T := 77) ?_); refine seq_of hS rfl (stp_load_kn (T := 77) Try.isAgg77 rfl (Fz.known (by with_reducible assumption) (by simp)) rfl ?_); simp only [Act.put, List.setIfInBounds_toArray, List.set_cons_succ, List.set_cons_zero, Int.toNat_natCast, Int.toNat_zero, Int.toNat_one, nth_zero, nth_one])
      repeat ((fail_if_success ((with_reducible refine g_load ?_))); go_step)
      ((with_reducible refine g_load (T := 22) ?_); refine seq_of hS rfl (stp_load_kn (T := 22) Try.isAgg22 rfl (Fz.known (by with_reducible assumption) (by simp)) rfl ?_); simp only [Act.put, List.setIfInBounds_toArray, List.set_cons_succ, List.set_cons_zero, Int.toNat_natCast, Int.toNat_zero, Int.toNat_one, nth_zero, nth_one])
      go_wp2
      go_ret
      exact ⟨rfl, hS.toBelow (by simp)⟩
    | true =>
      have hp1 : 0 < z := by simpa using h1
      have hp2 : z < of.length := by simpa using h2
      go_enter Try.func69, Try.ntmps69
      repeat ((fail_if_success ((with_reducible refine g_load ?_))); go_step)
      ((with_reducible refine g_load (T := 77) ?_); refine seq_of hS rfl (stp_load_kn (T := 77) Try.isAgg77 rfl (Fz.known (by with_reducible assumption) (by simp)) rfl ?_); simp only [Act.put, List.setIfInBounds_toArray, List.set_cons_succ, List.set_cons_zero, Int.toNat_natCast, Int.toNat_zero, Int.toNat_one, nth_zero, nth_one])
      repeat ((fail_if_success ((with_reducible refine g_load ?_))); go_step)
      ((with_reducible refine g_load (T := 22) ?_); refine seq_of hS rfl (stp_load_kn (T := 22) Try.isAgg22 rfl (Fz.known (by with_reducible assumption) (by simp)) rfl ?_); simp only [Act.put, List.setIfInBounds_toArray, List.set_cons_succ, List.set_cons_zero, Int.toNat_natCast, Int.toNat_zero, Int.toNat_one, nth_zero, nth_one])
      repeat ((fail_if_success ((with_reducible refine g_load ?_))); go_step)
      ((with_reducible refine g_load (T := 77) ?_); refine seq_of hS rfl (stp_load_kn (T := 77) Try.isAgg77 rfl (Fz.known (by with_reducible assumption) (by simp)) rfl ?_); simp only [Act.put, List.setIfInBounds_toArray, List.set_cons_succ, List.set_cons_zero, Int.toNat_natCast, Int.toNat_zero, Int.toNat_one, nth_zero, nth_one])
      repeat ((fail_if_success ((with_reducible refine g_load ?_))); go_step)
      ((with_reducible refine g_load (T := 22) ?_); refine seq_of hS rfl (stp_load_kn (T := 22) Try.isAgg22 rfl (Fz.known (by with_reducible assumption) (by simp)) rfl ?_); simp only [Act.put, List.setIfInBounds_toArray, List.set_cons_succ, List.set_cons_zero, Int.toNat_natCast, Int.toNat_zero, Int.toNat_one, nth_zero, nth_one])
      repeat ((fail_if_success ((with_reducible refine g_idx ?_))); go_step)
      ((with_reducible refine g_idx (T := 22) ?_); refine seq_any rfl (any_index_nat (T := 22) Try.underlying22 Try.sizeOf3 rfl rfl (by with_reducible assumption) (by omega) (by omega) (fun _ _ _ => ?_)); simp only [Act.put, List.setIfInBounds_toArray, List.set_cons_succ, List.set_cons_zero, Int.toNat_natCast, Int.toNat_zero, Int.toNat_one, nth_zero, nth_one])
      repeat ((fail_if_success ((with_reducible refine g_load ?_))); go_step)
      ((with_reducible refine g_load (T := 3) ?_); refine seq_of hS rfl (stp_load (T := 3) Try.isAgg3 rfl (by with_reducible assumption) (by simp) rfl ?_); simp only [Act.put, List.setIfInBounds_toArray, List.set_cons_succ, List.set_cons_zero, Int.toNat_natCast, Int.toNat_zero, Int.toNat_one, nth_zero, nth_one])
      go_wp2
      go_ret
      trace_state
      exact ⟨rfl, hS.toBelow (by simp)⟩
end Go.Proofs.Ytdibpfbibgicaaa
