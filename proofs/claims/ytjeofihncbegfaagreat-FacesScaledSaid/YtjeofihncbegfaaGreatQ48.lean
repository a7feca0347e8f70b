/- Of MH. -/
import Derived.Test.YtjeofihncbegfaaGreatQ47
set_option maxRecDepth 100000
set_option maxHeartbeats 16000000
set_option linter.unusedVariables false
set_option linter.unusedSimpArgs false
namespace Go.Hp
open Go Go.RowKit
theorem Ints.old {w:World} {S:Nat→Prop} {v:Value} {xs:List Int} (h:Ints w S v xs):Ints w (Old w) v xs:=⟨h.1.old,h.2⟩
theorem RowsOf.old {w:World} {S:Nat→Prop} {v:Value} {I:List (List Nat)} (h:RowsOf w S v I):RowsOf w (Old w) v I:=by
 obtain⟨R,h1,h2,h3⟩:=h;exact⟨R,h1,h2.old,fun i hi=>Ints.old (h3 i hi)⟩
theorem IsFc.old {w:World} {S:Nat→Prop} {s1 s2 s3 s4 s5:Option Addr × Nat × Nat} {f:FRec} (h:IsFc w S s1 s2 s3 s4 s5 f):IsFc w (Old w) s1 s2 s3 s4 s5 f:=⟨Ints.old h.n,Ints.old h.l,Ints.old h.o,RowsOf.old h.i,RowsOf.old h.a⟩
end Go.Hp
