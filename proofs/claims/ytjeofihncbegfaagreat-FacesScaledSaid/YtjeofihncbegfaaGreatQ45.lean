/- Of MG. -/
import Derived.Test.YtjeofihncbegfaaGreatQ44
set_option maxRecDepth 100000
set_option maxHeartbeats 16000000
set_option linter.unusedVariables false
set_option linter.unusedSimpArgs false
namespace Go.Hp
open Go Go.RowKit
structure Gen (os:List Sz) (gs:List Gp):Prop where
 hos:∀ t ∈ os,t.ok∧t.sm
 hgs:∀ g ∈ gs,g.ok∧g.sm
 lo:os.length≤24
 lg:gs.length≤4
theorem net_ok {g:Gp} (h:g.net):g.ok∧g.sm:=by unfold Gp.net at h;unfold Gp.ok okC Gp.sm smC;omega
theorem upto_ok {g:Gp} {b:Int} (h:g.upto b) (hb:b≤60):g.ok∧g.sm:=by unfold Gp.upto at h;unfold Gp.ok okC Gp.sm smC;omega
theorem IsArr.at {w0 w wr:World} {H:List Chunk} {F S:Nat→Prop} {sg pt v e:Option Addr × Nat × Nat} {os:List Sz} {gs:List Gp} {V:List Pt} {es:List Ed} (h:IsArr wr S sg pt v e os gs V es) (hS:Heap w0 w (.frz F wr::H)) (hF:∀ k,S k→F k):IsArr w S sg pt v e os gs V es:=by
 obtain⟨prs,h3⟩:=h.vs;obtain⟨rs,h4,h5⟩:=h.es;exact⟨h.segs.move (hS.keep hF),h.pts.move (hS.keep hF),⟨prs,h3.at hS hF⟩,⟨rs,h4.move (hS.keep hF),h5.at hS hF⟩⟩
theorem IsArr.grow {w w':World} {S S':Nat→Prop} {sg pt v e:Option Addr × Nat × Nat} {os:List Sz} {gs:List Gp} {V:List Pt} {es:List Ed} (h:IsArr w S sg pt v e os gs V es) (hp:Pure w S w' S'):IsArr w' S' sg pt v e os gs V es:=by
 obtain⟨prs,h3⟩:=h.vs;obtain⟨rs,h4,h5⟩:=h.es;exact⟨h.segs.grow hp,h.pts.grow hp,⟨prs,h3.grow hp⟩,⟨rs,h4.grow hp,h5.grow hp⟩⟩
theorem Heap.frz3 {w0 w wr:World} {F:Nat→Prop} {c1 c2:Chunk} {H:List Chunk} (hS:Heap w0 w (.frz F wr::c1::c2::H)):Heap w0 w (.frz (fun k=>(F k∨c1.has k)∨c2.has k) w::H):=by
 have h1:=(hS.freeze 1 rfl).freeze 2 rfl;exact h1.join.join
end Go.Hp
namespace Go.Proofs
open Go.RowKit Go.Hp
theorem gen_of {o1 o2:List Sz} {xs:List Int} (h1:NetOk o1) (h2:SegsUp o2) (l1:o1.length≤20) (l2:o2.length≤4):Gen (o1++o2) ((xs.take 4).map gridZ):=by
 refine⟨fun t ht=>?_,fun g hg=>?_,by rw [List.length_append];omega,by simp;omega⟩
 ·rcases List.mem_append.1 ht with h|h
  ·obtain⟨a,b,c⟩:=h1 t h
   exact⟨⟨(net_ok a).1,(net_ok b).1,c⟩,(net_ok a).2,(net_ok b).2⟩
  ·obtain⟨a,b,c⟩:=h2 t h
   have hb:(32:Int)+2*(o2.length:Nat)≤60:=by omega
   exact⟨⟨(upto_ok a hb).1,(upto_ok b hb).1,c⟩,(upto_ok a hb).2,(upto_ok b hb).2⟩
 ·obtain⟨x,_,rfl⟩:=List.mem_map.1 hg
  have:=gridZ_bd x;exact upto_ok (b:=32) this (by decide)
end Go.Proofs
