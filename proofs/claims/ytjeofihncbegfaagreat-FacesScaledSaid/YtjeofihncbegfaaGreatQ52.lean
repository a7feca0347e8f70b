/- Of RI. -/
import Derived.OpenShut
import Derived.Test.YtjeofihncbegfaaGreatQ01
set_option maxRecDepth 100000
set_option maxHeartbeats 16000000
set_option linter.unusedVariables false
set_option linter.unusedSimpArgs false
namespace Go.Proofs
open Go.RowKit Go.Hp
theorem inI_of_wf {n:Int} (h:(Lit.int .i64 n).wf=true):InI n:=bounds_i64 h
theorem spot_of_cell {w:World} {a:Addr} {u:Value} (h:w.cell? a=some u):a.spot=none:=by
 unfold World.cell? at h
 split at h
 ·split at h
  ·cases h
  ·rename_i hs
   cases hsp:a.spot with
   | none=>rfl
   | some s=>rw [hsp] at hs;simp at hs
 ·cases h
theorem ints_of_row {w:World} {a:Option Addr} {len cap:Nat} {zs:List Int}
 (h:(a=none∧len=0∧cap=0∧zs=[])∨∃ x,a=some x∧len≤cap∧cap≤maxLen∧zs.length=cap∧(∀ i,i<zs.length→w.cell? (x.add i)=some (.int .i64 (zs.getD i 0)))∧∀ n ∈ zs,(Lit.int .i64 n).wf=true) :
 Ints w (Old w) (.slice a len cap) (zs.take len):=by
 rcases h with ⟨rfl,rfl,rfl,rfl⟩|⟨x,rfl,hl,hm,hz,hcell,hwf⟩
 ·exact Ints.nil w _
 ·have hlen:(zs.take len).length=len:=by rw [List.length_take];omega
  have hadd:0<zs.length→∀ j,x.add j=⟨x.block,x.off+j,none⟩:=fun hp j=>by
   have h0:=spot_of_cell (hcell 0 hp);have h1:x.spot=none:=by simpa [Addr.add] using h0
   unfold Addr.add
   split
   ·rename_i hj;subst hj;cases x;simp_all
   ·rfl
  refine⟨⟨by simp,some x,cap,by rw [hlen],by omega,hm,(fun e=>by cases e),fun ad e=>?_⟩,fun z hz'=>inI_of_wf (hwf z (List.mem_of_mem_take hz'))⟩;cases e
  have hne:(zs.take len).map (Value.int .i64)≠[]→0<zs.length:=fun hne=>by
   rcases Nat.eq_zero_or_pos zs.length with h|h
   ·exact absurd (by rw [List.eq_nil_of_length_eq_zero h];simp) hne
   ·exact h
  refine⟨fun h=>?_,fun h=>?_,fun j u hu=>?_⟩
  ·have h0:=spot_of_cell (hcell 0 (hne h))
   simpa [Addr.add] using h0
  ·have h0:=World.block_lt_of_cell? w _ (hcell 0 (hne h))
   have h1:x.block<w.heap.size:=by simpa [Addr.add] using h0
   exact h1
  ·rw [List.getElem?_map,Option.map_eq_some_iff] at hu
   obtain⟨z,hz2,rfl⟩:=hu;rw [List.getElem?_take] at hz2
   split at hz2
   ·have hj:j<zs.length:=(List.getElem?_eq_some_iff.1 hz2).1
    have:=hcell j hj;rw [hadd (by omega) j] at this;rw [this,List.getD_eq_getElem?_getD,hz2]
    rfl
   ·cases hz2
end Go.Proofs
