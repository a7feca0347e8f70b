/- Texts for the walk of the law: FP FK KH KI KJ FL FG KR FF FH FM. -/
import Derived.Test.YtgaejkbkfoaaiaaGreatR10
import Derived.Sort.OwnSortedInts
set_option maxRecDepth 100000
set_option maxHeartbeats 16000000
set_option linter.unusedVariables false
set_option linter.unusedSimpArgs false
namespace Go.Hp
open Go Go.RowKit Go.Proofs.Tryz
section
variable {P:Program} {ops:Array Oper} {Q:Exit→Act→World→Prop} {C:World→Prop} {rest:List Oper} {s:List Mv} {i k n c g:Nat} {a a':Act} {w w0 wr:World} {S:Nat→Prop} {H H':List Chunk} {dst:Option Tmp} {x y ix:Operand} {op:Op} {ty T E Tb:TypeId} {pos:String} {ak:Array Edge} {b off:Nat} {arr:Array Value} {fr:Nat × Nat} {u v z:Value} {cs us:List Value} {gd:Option (Nat × Bool)}
theorem jl {z:Int} {ad:Option Addr} {xs:List Int} {a':Nat→Nat→Act} (hu:P.underlying T=some (.slice E)) (hz:∀ w,(sizeOf E).run P w=.ok 1 w) (hk:∀ b off,dM wr S ⟨b,off,none⟩ [.int .i64 (nth 0 xs z.toNat)]→dN P ops Q C s (a' b off) w) (ho:ops[i]? = some ⟨dst,.indexAddr T x ix,ty,pos,ak,gd⟩:=by with_unfolding_all rfl) (hx:a.eval x=.slice ad n c:=by with_unfolding_all rfl) (hi:a.eval ix=.int .i64 z:=by with_unfolding_all rfl) (hv:Ints wr S (.slice ad n c) xs:=by with_reducible assumption) (dg:0≤z:=by omega) (jU:z<n:=by omega) (hg:Region.wanted ⟨dst,.indexAddr T x ix,ty,pos,ak,gd⟩ (yielded ops a.tmps)=true:=by with_unfolding_all rfl) (ha:∀ b off,a.put dst (.pointer (some ⟨b,off,none⟩))=a' b off:=by (intro _ _;simp only [aD];exact rfl)):dN P ops Q C (.p i::s) a w :=
 j3 ho hg (aCn (T:=T) hu hz hx hi hv dg jU (fun b off hc=>by rw [ha];exact hk b off hc))
theorem sixN {z:Int} {ad:Option Addr} {xs:List Nat} {a':Nat→Nat→Act} (hu:P.underlying T=some (.slice E)) (hz:∀ w,(sizeOf E).run P w=.ok 1 w) (hk:∀ b off,dM wr S ⟨b,off,none⟩ [.int .i64 ((nth 0 xs z.toNat:Nat):Int)]→dN P ops Q C s (a' b off) w) (ho:ops[i]? = some ⟨dst,.indexAddr T x ix,ty,pos,ak,gd⟩:=by with_unfolding_all rfl) (hx:a.eval x=.slice ad n c:=by with_unfolding_all rfl) (hi:a.eval ix=.int .i64 z:=by with_unfolding_all rfl) (hv:jZ wr S (.slice ad n c) xs:=by with_reducible assumption) (dg:0≤z:=by omega) (jU:z<n:=by omega) (hg:Region.wanted ⟨dst,.indexAddr T x ix,ty,pos,ak,gd⟩ (yielded ops a.tmps)=true:=by with_unfolding_all rfl) (ha:∀ b off,a.put dst (.pointer (some ⟨b,off,none⟩))=a' b off:=by (intro _ _;simp only [aD];exact rfl)):dN P ops Q C (.p i::s) a w :=
 j3 ho hg (aNi (T:=T) hu hz hx hi hv dg jU (fun b off hc=>by rw [ha];exact hk b off hc))
end
def a2A (N:List Nat) (h:Nat) (L:List Int) (f:Int) (j:Nat):List Int:=lE L ((List.range j).map fun j=>it N j h) f
def a2O (N:List Nat) (h j:Nat):Nat:=((List.range j).map fun j=>it N j h).foldl min h
theorem aSg (N:List Nat) (h:Nat) (L:List Int) (f:Int) (j:Nat):a2A N h L f (j+1)=(a2A N h L f j).set (it N j h) f:=by
 unfold a2A lE;rw [List.range_succ,List.map_append,List.foldl_append]
 rfl
theorem aV0 (N:List Nat) (h j:Nat):a2O N h (j+1)=min (a2O N h j) (it N j h):=by
 unfold a2O;rw [List.range_succ,List.map_append,List.foldl_append]
 rfl
theorem aOM (N:List Nat) (h:Nat) (L:List Int) (f:Int) (j:Nat):(a2A N h L f j).length=L.length:=zH _ _ _
theorem aR7 (N:List Nat) (h j:Nat):a2O N h j≤h:=(aJs _ _).1
def a9Y (f:Nat→Nat) (p x:Nat):Nat:=((List.range p).find? (fun j=>f j == x)).getD p
theorem aUd {f:Nat→Nat} {p:Nat} (hi:∀ i j,i<j→j<p→f i≠f j) {j:Nat} (hj:j<p):a9Y f p (f j)=j:=by
 unfold a9Y;cases hf:(List.range p).find? (fun i=>f i == f j) with
 | none =>
  have:=List.find?_eq_none.1 hf j (by simpa using hj);simp at this
 | some q =>
  have h1:=List.find?_some hf;have h2:=List.mem_of_find?_eq_some hf;simp only [beq_iff_eq] at h1;rw [List.mem_range] at h2;simp only [Option.getD_some]
  rcases Nat.lt_trichotomy q j with h|h|h
  ·exact absurd h1 (hi q j h hj)
  ·exact h
  ·exact absurd h1.symm (hi j q h h2)
theorem aOj {N:List Nat} (hp:jg N) {h:Nat} (hh:h<N.length) {i j:Nat} (fe:i<j) (hj:j<rA N h):it N i h≠it N j h:=by
 intro e;obtain⟨p0,p1,p2,p3⟩:=a9r hp hh;have e1:j=(j - i)+i:=by omega
 rw [e1,a1P] at e;have:=aCK hp hh (xk hp hh (j - i)) i e;exact p3 (j - i) (by omega) (by omega) this.symm
theorem aSc {N:List Nat} (hp:jg N) {h:Nat} (hh:h<N.length) (hle:N.length≤1000000) (L:List Int) (fK:Int) (bf b4 g cl cn:Nat) (an:Option Addr) (v3 v4 v5:Value) (w:World) (S:Nat→Prop) (hNx:jZ w S (.slice an N.length cn) N) (lO:L.length=N.length)
 (hS:aA w w [.aH S w,.aB bf (.cells #[.slice an N.length cn,.slice (some ⟨g,0,none⟩) L.length cl,v3,v4,v5] 37 (0,0)),.aB b4 (.cells #[.slice an N.length cn] 22 (0,0)),.row (.slice (some ⟨g,0,none⟩) L.length cl) 3 1 L.length (iv L)]) :
 Calls prog 21 #[.int .i64 (h:Int),.int .i64 fK,.pointer (some ⟨bf,0,none⟩),.pointer (some ⟨b4,0,none⟩)] w fun e w'=>e=.returned (.int .i64 (ed N h:Int))∧aA w w' [.aH S w,.aB bf (.cells #[.slice an N.length cn,.slice (some ⟨g,0,none⟩) L.length cl,v3,v4,v5] 37 (0,0)),.aB b4 (.cells #[.slice an N.length cn] 22 (0,0)),.row (.slice (some ⟨g,0,none⟩) L.length cl) 3 1 L.length (iv (lE L (et N h) fK))]:=by
 obtain⟨p0,p1,p2,p3⟩:=a9r hp hh;have e1:ed N h=a2O N h (rA N h):=rfl;have e2:lE L (et N h) fK=a2A N h L fK (rA N h):=rfl;rw [e1,e2];clear e1 e2;have aW:=fun j=>xk hp hh j
 have lh:=fun i j (a:i<j) b=>aOj hp hh a b
 obtain⟨p,iS⟩:∃ p,rA N h=p:=⟨_,rfl⟩;rw [iS] at p0 p1 p2 p3;rw [iS] at lh;rw [iS];obtain⟨f,xq⟩:∃ f:Nat→Nat,f=fun j=>it N j h:=⟨_,rfl⟩
 obtain⟨P,hPP⟩:∃ P:Nat→List Int,P=a2A N h L fK:=⟨_,rfl⟩;obtain⟨M,hMM⟩:∃ M:Nat→Nat,M=a2O N h:=⟨_,rfl⟩;have zU:f 0=h:=by rw [xq];rfl
 have lN:∀ j,nth 0 N (f j)=f (j+1):=fun j=>by rw [xq];rfl
 have dp:∀ j,f j<N.length:=fun j=>by rw [xq];exact aW j
 have hfp:f p=h:=by rw [xq];exact p2
 have oR:∀ j,0<j→j<p→f j≠h:=fun j a b=>by rw [xq];exact p3 j a b
 have hfi:∀ i j,i<j→j<p→f i≠f j:=fun i j a b=>by rw [xq];exact lh i j a b
 have hix:∀ j,j<p→a9Y f p (f j)=j:=fun j hj=>aUd hfi hj
 have hPs:∀ j,P (j+1)=(P j).set (f j) fK:=fun j=>by rw [hPP,xq];exact aSg N h L fK j
 have uQ:∀ j,(P j).length=L.length:=fun j=>by rw [hPP];exact aOM N h L fK j
 have hP0:P 0=L:=by rw [hPP];rfl
 have hMs:∀ j,M (j+1)=min (M j) (f j):=fun j=>by rw [hMM,xq];exact aV0 N h j
 have hM0:M 0=h:=by rw [hMM];rfl
 have hMl:∀ j,M j≤h:=fun j=>by rw [hMM];exact aR7 N h j
 rw [← hPP,← hMM];clear xq hPP hMM aW p2 p3 iS hp lh hfi;obtain⟨n,hn⟩:∃ n,N.length=n:=⟨_,rfl⟩;rw [hn] at hle hh p1 dp lO hNx hS;rw [lO] at hS uQ;rw [hn,lO];clear lO hn;rw [← hP0] at hS;replace hP0:=Hd hP0;replace hM0:=Hd hM0;replace hPs:=Hd hPs;replace hMs:=Hd hMs;replace zU:=Hd zU;replace hix:=Hd hix;replace lN:=Hd lN;replace hfp:=Hd hfp;replace oR:=Hd oR;replace dp:=Hd dp;replace uQ:=Hd uQ;replace hMl:=Hd hMl
 go_enter func21,ntmps21
 go_wp2
 go_loopw [7,8] (fun v7 v8 wr=>∃ j:Nat,j<p∧v7=.int .i64 (M j:Int)∧v8=.int .i64 (f j:Int)∧aA w wr [.aH S w,.aB bf (.cells #[.slice an n cn,.slice (some ⟨g,0,none⟩) n cl,v3,v4,v5] 37 (0,0)),.aB b4 (.cells #[.slice an n cn] 22 (0,0)),.row (.slice (some ⟨g,0,none⟩) n cl) 3 1 n (iv (P j))]) (fun _ v8 _=>p - a9Y f p (intOf v8).toNat)
 case atStart=>exact⟨0,p0,by rw [hM0.out],by rw [zU.out],hS⟩
 case round =>
  clear hS;obtain⟨j,hjp,rfl,rfl,hS⟩:=hrel;have hk:=dp.out j;have iE:=dp.out (j+1);have cA:=Hd (hPs.out j);have qJ:=Hd (hMs.out j);have dH:=Hd (lN.out j);have jP:=uQ.out j;have jY:=hMl.out j;have fe:=Hd (hix.out j hjp);obtain⟨k,n9⟩:∃ k,f j=k:=⟨_,rfl⟩;rw [n9] at hk cA qJ dH fe;rw [n9];obtain⟨m,pj⟩:∃ m,M j=m:=⟨_,rfl⟩;rw [pj] at qJ jY;rw [pj];obtain⟨Q,hQQ⟩:∃ Q,P j=Q:=⟨_,rfl⟩;rw [hQQ] at cA jP hS;obtain⟨k2,yY⟩:∃ k2,f (j+1)=k2:=⟨_,rfl⟩;rw [yY] at dH iE;clear n9 pj hQQ;obtain⟨m2,gv⟩:∃ m2,M (j+1)=m2:=⟨_,rfl⟩;rw [gv] at qJ
  by_cases gq:j+1=p
  ·have lU:k2=h:=by rw [← yY,gq];exact hfp.out
   rw [gq] at gv cA;clear yY gq;subst lU;replace gv:=Hd gv;have dH:=dH.out;have hQ:((k2:Int) == (k2:Int))=true:=by simp
   by_cases uM:k<m
   ·have vi:m2=k:=by have:=qJ.out;omega
    clear qJ;subst vi;have hmn:min (m:Int) (m2:Int)=(m2:Int):=by omega
    go_wp2_with (with_reducible first|refine aU 1 hS isAgg22 ?_|refine kW underlying22 sizeOf3 ?_|refine xS 3 hS sizeOf3 fun _ hS=>?_|refine aU 2 hS isAgg22 ?_|refine ixN underlying22 sizeOf3 fun _ _ _=>?_|refine fP hS isAgg3 ?_)
    go_ret;exact⟨by rw [gv.out];rfl,by rw [cA.out];exact hS⟩
   ·have vi:m2=m:=by have:=qJ.out;omega
    clear qJ;subst vi;have hmn:min (m2:Int) (k:Int)=(m2:Int):=by omega
    go_wp2_with (with_reducible first|refine aU 1 hS isAgg22 ?_|refine kW underlying22 sizeOf3 ?_|refine xS 3 hS sizeOf3 fun _ hS=>?_|refine aU 2 hS isAgg22 ?_|refine ixN underlying22 sizeOf3 fun _ _ _=>?_|refine fP hS isAgg3 ?_)
    go_ret;exact⟨by rw [gv.out];rfl,by rw [cA.out];exact hS⟩
  ·have lU:k2≠h:=by rw [← yY];exact oR.out (j+1) (by omega) (by omega)
   have hQ:((k2:Int) == (h:Int))=false:=by simp;omega
   have aEV:=Hd (hix.out (j+1) (by omega));rw [yY] at aEV;replace yY:=Hd yY;replace gv:=Hd gv;have dH:=dH.out
   by_cases uM:k<m
   ·have vi:m2=k:=by have:=qJ.out;omega
    clear qJ;subst vi;have hmn:min (m:Int) (m2:Int)=(m2:Int):=by omega
    go_wp2_with (with_reducible first|refine aU 1 hS isAgg22 ?_|refine kW underlying22 sizeOf3 ?_|refine xS 3 hS sizeOf3 fun _ hS=>?_|refine aU 2 hS isAgg22 ?_|refine ixN underlying22 sizeOf3 fun _ _ _=>?_|refine fP hS isAgg3 ?_)
    go_roundw
    case rel=>exact⟨j+1,by omega,by rw [gv.out],by rw [yY.out,dH],by rw [cA.out];exact hS⟩
    case measure=>simp only [intOf,Int.toNat_natCast];rw [dH,aEV.out,fe.out];omega
   ·have vi:m2=m:=by have:=qJ.out;omega
    clear qJ;subst vi;have hmn:min (m2:Int) (k:Int)=(m2:Int):=by omega
    go_wp2_with (with_reducible first|refine aU 1 hS isAgg22 ?_|refine kW underlying22 sizeOf3 ?_|refine xS 3 hS sizeOf3 fun _ hS=>?_|refine aU 2 hS isAgg22 ?_|refine ixN underlying22 sizeOf3 fun _ _ _=>?_|refine fP hS isAgg3 ?_)
    go_roundw
    case rel=>exact⟨j+1,by omega,by rw [gv.out],by rw [yY.out,dH],by rw [cA.out];exact hS⟩
    case measure=>simp only [intOf,Int.toNat_natCast];rw [dH,aEV.out,fe.out];omega
namespace G
section
variable {P:Program} {ops:Array Oper} {Q:Exit→Act→World→Prop} {C:World→Prop}
theorem aCN {T E:TypeId} {k len:Nat} {z:Value} {parts:Array (Nat × Operand)} {cells:Array Value} {t:Tmp} {ty:TypeId} {pos:String} {ak:Array Edge} (hu:P.underlying T=some (.slice E)) (dJ:∀ w,(sizeOf E).run P w=.ok k w) (hz:∀ w,(zeroValue E).run P w=.ok z w)
 (hl:len*k≤16777216) (h0:0<len*k) (a:Act) (hf:Instr.fill (fun i=>some (i*k,k)) ((Array.range (len*k)).map (z.cells[· % z.cells.size]!)) (parts.toList.map fun p=>(p.1,a.eval p.2))=some cells) (w:World) :
 (execOp a.eval ⟨some t,.buildSlice T len parts,ty,pos,ak,none⟩).run P w=.ok (.value (.slice (some ⟨w.heap.size,0,none⟩) len len)) (w.alloc (.cells cells E (0,0))):=by
 generalize a.eval=ρ at hf;have h1:¬ (16777216<len*k):=by omega
 have h2:¬ (len*k=0):=by omega
 have h3:Array.toList (Array.map (fun x:Nat × Operand=>(x.1,ρ x.2)) parts)=parts.toList.map fun p=>(p.1,ρ p.2):=by simp
 simp only [execOp,Instr.buildSlice,Sem.run_bind,run_underlying hu,dJ,Result.andThen_ok,gt_iff_lt,Nat.reducePow,h1,if_false,h2,hz,Sem.run_pure,h3,hf]
 rfl
theorem mq {J:List Chunk→World→Prop} {E:Act→World→Prop} {a:Act} {p:cX} (h:∀ b w,J [.aB b p.o] w→E (a.put (some p.t) (p.v b)) w):gw P ops Q C [p] E [] a J:=by
 intro L w hL hJ
 match L,hL,hJ with
 | [(q,b)],hL,hJ =>
  simp only [List.map_cons,List.map_nil,List.cons.injEq,and_true] at hL;subst hL;exact h b w hJ
end
end G
namespace G
section
variable {P:Program} {ops:Array Oper} {Q:Exit→Act→World→Prop} {md:Region.Mode} {C:World→Prop} {M:List Nat}
def sN (P:Program) (ops:Array Oper) (Q:Exit→Act→World→Prop) (C:World→Prop) (End:Act→(List Chunk→World→Prop)→Prop):List Mv→Act→(List Chunk→World→Prop)→Prop
 | [],a,J=>End a J
 | .p i::s,a,J=>∃ o v,ops[i]? = some o∧YieldsIf P ops (fun _=>True) o v a∧sN P ops Q C End s (a.put o.dst v) J
 | .r i::s,a,J=>∃ o v,ops[i]? = some o∧YieldsIf P ops C o v a∧sN P ops Q C End s (a.put o.dst v) J
 | .e i::s,a,J=>∀ B w,J B w→wpOp P ops (di Q) i (fun a' w'=>∃ J',J' B w'∧sq J'∧(∀ B w,J' B w→C w)∧sN P ops Q C End s a' J') a w
 | .m i::s,a,J=>False
def tU (md:Region.Mode) (ops:Array Oper) (M:List Nat) (A1 A:List cX) (s9:Array Bool→Array Bool→Bool):List Mv→Array Bool→Array Bool→Bool
 | [],l0,lA=>(A1.all fun p=>Region.ready md ops (lA.setIfInBounds p.i false) == [p.i]) && s9 l0 lA
 | .p i::s,l0,lA=>(Region.ready md ops lA).contains i && zt md ops A i && Region.free md ops l0 i && !M.contains i && vS ops A i && tU md ops M A1 A s9 s (l0.setIfInBounds i true) (lA.setIfInBounds i true)
 | .r i::s,l0,lA=>(Region.ready md ops lA).contains i && zt md ops A i && Region.free md ops l0 i && !M.contains i && (M.all fun m=>(oa md ops ops.size m).contains i) && vS ops A i && tU md ops M A1 A s9 s (l0.setIfInBounds i true) (lA.setIfInBounds i true)
 | .e i::s,l0,lA=>(Region.ready md ops lA == [i]) && zt md ops A i && !M.contains i && vS ops A i && tU md ops M A1 A s9 s (l0.setIfInBounds i true) (lA.setIfInBounds i true)
 | .m _::_,_,_=>false
theorem aOU {A A1:List cX} {s9:Array Bool→Array Bool→Bool} {k:Nat} {End:Act→(List Chunk→World→Prop)→Prop} (hA:xO P ops A) (ic:Region.noSelect ops=true)
 (kI:∀ (aY l0 lA:Array Bool) (dG:List cX) (L:List (cX × Nat)) (a:Act) (w:World) (J:List Chunk→World→Prop),(∀ p ∈ dG,p ∉ A1)→s9 l0 lA=true→mf md ops M A lA=true→Up A aY l0 lA (L.map (·.1.i))→lR md ops aY→(L.map (·.1)++dG).Perm A→J (L.map cX.aB) w→sq J→(∀ B w,J B w→C w)→End a J→j5 P md ops (di Q) M C (dG.length+k) aY (over a L) w):∀ (n:Nat) (s1:List Mv) (aY l0 lA:Array Bool) (dG:List cX) (L:List (cX × Nat)) (a:Act) (w:World) (J:List Chunk→World→Prop),
 n=s1.length+dG.length→tU md ops M A1 A s9 s1 l0 lA=true→mf md ops M A lA=true→Up A aY l0 lA (L.map (·.1.i))→lR md ops aY→(L.map (·.1)++dG).Perm A→J (L.map cX.aB) w→sq J→(∀ B w,J B w→C w) →
 sN P ops Q C End s1 a J→j5 P md ops (di Q) M C (n+k) aY (over a L) w:=by
 have hQ:∀ c a w,¬ di Q (.panic c) a w:=fun _ _ _ h=>h
 intro n
 induction n with
 | zero =>
  intro s1 aY l0 lA dG L a w J hn bG jN db dK hL hJ cA kH ij;have e1:s1=[]:=List.length_eq_zero_iff.1 (by omega);have e2:dG=[]:=List.length_eq_zero_iff.1 (by omega);subst e1 e2;simp only [tU,Bool.and_eq_true] at bG;have:=kI aY l0 lA [] L a w J (by simp) bG.2 jN db dK hL hJ cA kH ij
  simpa using this
 | succ n ih =>
  have lay:∀ (s1:List Mv) (aY l0 lA:Array Bool) (dG:List cX) (L:List (cX × Nat)) (a:Act) (w:World) (J:List Chunk→World→Prop) (p:cX),p ∈ dG→p.i ∈ Region.ready md ops aY →
   tU md ops M A1 A s9 s1 l0 lA=true→mf md ops M A lA=true→Up A aY l0 lA (L.map (·.1.i))→lR md ops aY→(L.map (·.1)++dG).Perm A→J (L.map cX.aB) w→sq J→(∀ B w,J B w→C w) →
   sN P ops Q C End s1 a J→n+1=s1.length+dG.length →
   wpOp P ops (di Q) p.i (fun a' w'=>mG M C (aY.setIfInBounds p.i true) w'∧j5 P md ops (di Q) M C (n+k) (aY.setIfInBounds p.i true) a' w') (over a L) w:=by
   intro s1 aY l0 lA dG L a w J p hp hr bG jN db dK hL hJ cA kH ij hk;have oL:p ∈ A:=hL.subset (List.mem_append_right _ hp);obtain⟨o,ho,td,hog,mL⟩:=hA.op p oL
   have kO:(dG.map (·.i)).Nodup:=by
    have h1:((L.map (·.1)++dG).map (·.i)).Nodup:=((hL.map _).nodup_iff).2 hA.i;rw [List.map_append] at h1;exact (List.nodup_append.1 h1).2.1
   have hft:=aDb hp kO
   have uf:J ((L++[(p,w.heap.size)]).map cX.aB) (w.alloc p.o):=by
    rw [List.map_append];exact cA.alloc _ _ _ hJ
   refine aGZ ho td hog (mL _ _) ⟨fun _=>kH _ _ uf,?_⟩
   have hlen:(dG.filter fun q=>q.i != p.i).length+1=dG.length:=by
    have:=hft.length_eq
    simpa using this
   have:=ih s1 (aY.setIfInBounds p.i true) l0 lA (dG.filter fun q=>q.i != p.i) (L++[(p,w.heap.size)]) a _ J (by omega) bG jN (by rw [List.map_append];exact db.box oL) (dK.set hr) (by
    rw [List.map_append];simp only [List.map_cons,List.map_nil,List.append_assoc,List.cons_append,List.nil_append];refine List.Perm.trans (List.Perm.append_left _ ?_) hL;exact (List.perm_append_comm (l₁:=[p]) (l₂:=dG.filter fun q=>q.i != p.i)).trans hft) uf cA kH ij
   rw [aHX] at this;exact this
  intro s1 aY l0 lA dG L a w J hn bG jN db dK hL hJ cA kH ij;rw [show n+1+k=(n+k)+1 by omega];have a4f:=jN;simp only [mf,List.all_eq_true,Bool.and_eq_true,Bool.not_eq_true',decide_eq_true_eq] at a4f
  have a4V:∀ p ∈ dG,p.i ∈ Region.ready md ops aY:=fun p hp=>by
   have oL:p ∈ A:=hL.subset (List.mem_append_right _ hp);obtain⟨o,ho,td,hog,mL⟩:=hA.op p oL;obtain⟨⟨h1,h2⟩,h3⟩:=a4f p oL;simp only [ho,List.all_eq_true,Bool.not_eq_true'] at h3;refine mem_ready.2 ⟨?_,_,ho,fun e he hb=>?_⟩
   ·cases hc:aY.getD p.i true with
    | false=>rfl
    | true =>
     have hnd:((L.map (·.1)++dG).map (·.i)).Nodup:=((hL.map _).nodup_iff).2 hA.i;rw [List.map_append] at hnd
     rcases (db.up p.i).1 hc with h4|h4
     ·rw [db.no0 p oL] at h4;cases h4
     ·exact absurd rfl ((List.nodup_append.1 hnd).2.2 p.i (by simpa [List.map_map,Function.comp_def] using h4) p.i (List.mem_map.2 ⟨p,hp,rfl⟩))
   ·have:=h3 e (by simpa using he);rw [hb] at this;cases this
  have a5P:∀ p ∈ A,p.i ∈ Region.ready md ops aY→p ∈ dG:=fun p oL hr=>by
   rcases List.mem_append.1 (hL.symm.subset oL) with h1|h1
   ·exfalso
    obtain⟨q,hq,rfl⟩:=List.mem_map.1 h1;have h2:=(db.up q.1.i).2 (.inr (List.mem_map.2 ⟨q,hq,rfl⟩));have h3:=(mem_ready.1 hr).1;rw [h2] at h3;cases h3
   ·exact h1
  have a0X:∀ {i:Nat} {o:Oper},ops[i]? = some o→vS ops A i=true→∀ p ∈ A,p.i≠i:=fun ho iQ p hp e=>by
   subst e;obtain⟨o2,ho',td,hog,mL⟩:=hA.op p hp;obtain rfl:=Option.some.inj (ho.symm.trans ho');exact (za ho iQ p hp).2 td
  cases s1 with
  | nil =>
   by_cases bB:∃ p ∈ dG,p ∈ A1
   ·obtain⟨p0,aD3,aPM⟩:=bB
    have zw:=bG;simp only [tU,Bool.and_eq_true,List.all_eq_true,beq_iff_eq] at zw;refine⟨fun h0=>?_,fun j hj=>?_⟩
    ·have:=a4V p0 aD3;rw [h0] at this;cases this
    ·by_cases hb:∃ p ∈ A,p.i=j
     ·obtain⟨p,hp,rfl⟩:=hb
      exact lay [] aY l0 lA dG L a w J p (a5P p hp hj) hj bG jN db dK hL hJ cA kH ij hn
     ·exfalso
      have h1:=db.aGf hj (fun p hp e=>hb ⟨p,hp,e⟩) (mem_ready.1 (a4V p0 aD3)).1;rw [zw.1 p0 aPM,List.mem_singleton] at h1;exact hb ⟨p0,hL.subset (List.mem_append_right _ aD3),h1.symm⟩
   ·have zw:=bG
    simp only [tU,Bool.and_eq_true] at zw;have:=kI aY l0 lA dG L a w J (fun p hp h=>bB ⟨p,hp,h⟩) zw.2 jN db dK hL hJ cA kH ij;rw [show n+k+1=dG.length+k by simp at hn;omega];exact this
  | cons m s1 =>
   have ug:∀ p ∈ L,p.1 ∈ A:=fun p hp=>hL.subset (List.mem_append_left _ (List.mem_map.2 ⟨p,hp,rfl⟩))
   cases m with
   | m i=>exact ij.elim
   | p i =>
    simp only [tU,Bool.and_eq_true,Bool.not_eq_true'] at bG;obtain⟨⟨⟨⟨⟨h1,h6⟩,h2⟩,h3⟩,h4⟩,h5⟩:=bG;have jj:i ∉ M:=by simpa using h3
    have hr:i ∈ Region.ready md ops aY:=db.ready (by simpa using h1) h6;obtain⟨o,v,ho,hy,ij⟩:=ij;have iQ:=za ho h4;have rP:=ih s1 (aY.setIfInBounds i true) (l0.setIfInBounds i true) (lA.setIfInBounds i true) dG L (a.put o.dst v) w J (by simp at hn;omega) h5 (by simpa [mf] using jN) (db.move i (a0X ho h4)) (dK.set hr) hL hJ cA kH ij;rw [← a5n a o.dst v L (fun p hp=>(iQ _ (ug p hp)).2)] at rP;exact j5.first (S:=fun _=>True) ho (Region.noSelect_spec ic) hQ jj (fun _ _ _ _ _=>trivial) _ aY _ w dK (fun _=>kH _ _ hJ) (a6W ho h2 (fun j hj=>db.a8Z hj)) hr (a3W (fun cs b=>Region.noSelect_spec ic i o cs b ho) L (fun p hp=>(iQ _ (ug p hp)).1) hy) rP
   | r i =>
    simp only [tU,Bool.and_eq_true,Bool.not_eq_true'] at bG;obtain⟨⟨⟨⟨⟨⟨h1,h7⟩,h2⟩,h3⟩,h6⟩,h4⟩,h5⟩:=bG;have jj:i ∉ M:=by simpa using h3
    have hr:i ∈ Region.ready md ops aY:=db.ready (by simpa using h1) h7;obtain⟨o,v,ho,hy,ij⟩:=ij;have iQ:=za ho h4;have rP:=ih s1 (aY.setIfInBounds i true) (l0.setIfInBounds i true) (lA.setIfInBounds i true) dG L (a.put o.dst v) w J (by simp at hn;omega) h5 (by simpa [mf] using jN) (db.move i (a0X ho h4)) (dK.set hr) hL hJ cA kH ij;rw [← a5n a o.dst v L (fun p hp=>(iQ _ (ug p hp)).2)] at rP
    have tG:∀ (aY:Array Bool) (w:World),lR md ops aY→aY.getD i true=false→mG M C aY w→C w:=by
     intro l' w' hc hu n9;refine n9 fun m kG=>?_
     cases hl:l'.getD m false with
     | false=>rfl
     | true =>
      have h7:=List.all_eq_true.1 h6 m kG;have h8:i ∈ oa md ops ops.size m:=by simpa using h7
      have h9:=hc.oa _ m hl i h8;rw [a4A hu] at h9;cases h9
    exact j5.first (S:=C) ho (Region.noSelect_spec ic) hQ jj tG _ aY _ w dK (fun _=>kH _ _ hJ) (a6W ho h2 (fun j hj=>db.a8Z hj)) hr (a3W (fun cs b=>Region.noSelect_spec ic i o cs b ho) L (fun p hp=>(iQ _ (ug p hp)).1) hy) rP
   | e i =>
    have aDo:=bG;simp only [tU,Bool.and_eq_true,Bool.not_eq_true',beq_iff_eq] at bG;obtain⟨⟨⟨⟨h1,h6⟩,h3⟩,h4⟩,h5⟩:=bG;have hr:i ∈ Region.ready md ops aY:=db.ready (by rw [h1];simp) h6;refine⟨fun h0=>(by rw [h0] at hr;cases hr),fun j hj=>?_⟩
    by_cases hb:∃ p ∈ A,p.i=j
    ·obtain⟨p,hp,rfl⟩:=hb
     exact lay (.e i::s1) aY l0 lA dG L a w J p (a5P p hp hj) hj aDo jN db dK hL hJ cA kH ij hn
    ·have h2:=db.aC0 hj (fun p hp e=>hb ⟨p,hp,e⟩)
     rw [h1,List.mem_singleton] at h2;subst h2;obtain⟨_,o,ho,_⟩:=mem_ready.1 hj;have iQ:=za ho h4;refine aBY ho (fun cs b=>Region.noSelect_spec ic j o cs b ho) hQ L (fun p hp=>iQ _ (ug p hp)) (ij _ w hJ) ?_;intro a' w' ⟨J',uf,aCg,a5N,aFp⟩;exact⟨fun _=>a5N _ _ uf,ih s1 (aY.setIfInBounds j true) (l0.setIfInBounds j true) (lA.setIfInBounds j true) dG L a' w' J' (by simp at hn;omega) h5 (by simpa [mf] using jN) (db.move j (a0X ho h4)) (dK.set hj) hL uf aCg a5N aFp⟩
end
end G
namespace G
section
variable {P:Program} {ops:Array Oper} {Q:Exit→Act→World→Prop} {md:Region.Mode} {C:World→Prop} {M:List Nat}
def pX (A1:List cX) (p:cX):Bool:=A1.any fun q=>q.i == p.i
theorem aTx {A:List cX} (hn:(A.map (·.i)).Nodup) {p q:cX} (hp:p ∈ A) (hq:q ∈ A) (h:p.i=q.i):p=q:=by
 induction A with
 | nil=>cases hp
 | cons x A ih =>
  simp only [List.map_cons,List.nodup_cons] at hn
  rcases List.mem_cons.1 hp with e1|h1
  ·rcases List.mem_cons.1 hq with e2|h2
   ·rw [e1,e2]
   ·exact absurd (List.mem_map.2 ⟨q,h2,by rw [← h,e1]⟩) hn.1
  ·rcases List.mem_cons.1 hq with e2|h2
   ·exact absurd (List.mem_map.2 ⟨p,h1,by rw [h,e2]⟩) hn.1
   ·exact ih hn.2 h1 h2
theorem aMM {A1 A2 dG:List cX} {L:List (cX × Nat)} (hn:((A1++A2).map (·.i)).Nodup) (hp:∀ p ∈ dG,p ∉ A1) (hL:(L.map (·.1)++dG).Perm (A1++A2)) :
 ∃ L1 L2:List (cX × Nat),L1.map (·.1)=A1∧(L2.map (·.1)++dG).Perm A2∧(L1++L2).Perm L:=by
 have h1:∀ p ∈ A1,pX A1 p=true:=fun p h=>List.any_eq_true.2 ⟨p,h,by simp⟩
 have hm:∀ {p},p ∈ A1++A2→pX A1 p=true→p ∈ A1:=fun y8 h=>by
  obtain⟨q,hq,e⟩:=List.any_eq_true.1 h;have:=aTx hn (List.mem_append_left _ hq) y8 (by simpa using e)
  rwa [← this]
 have h2:∀ p ∈ A2,pX A1 p=false:=fun p h=>by
  cases hc:pX A1 p with
  | false=>rfl
  | true =>
   have h3:=hm (List.mem_append_right _ h) hc;rw [List.map_append] at hn;exact absurd rfl ((List.nodup_append.1 hn).2.2 p.i (List.mem_map.2 ⟨p,h3,rfl⟩) p.i (List.mem_map.2 ⟨p,h,rfl⟩))
 have h4:∀ p ∈ dG,pX A1 p=false:=fun p h=>by
  cases hc:pX A1 p with
  | false=>rfl
  | true=>exact absurd (hm (hL.subset (List.mem_append_right _ h)) hc) (hp p h)
 have f1:=hL.filter (fun p=>pX A1 p);have f2:=hL.filter (fun p=>!pX A1 p);have g1:A1.filter (fun p=>pX A1 p)=A1:=List.filter_eq_self.2 h1;have g2:A2.filter (fun p=>pX A1 p)=[]:=List.filter_eq_nil_iff.2 (fun p h=>by simp [h2 p h]);have g3:dG.filter (fun p=>pX A1 p)=[]:=List.filter_eq_nil_iff.2 (fun p h=>by simp [h4 p h]);have g4:A1.filter (fun p=>!pX A1 p)=[]:=List.filter_eq_nil_iff.2 (fun p h=>by simp [h1 p h]);have g5:A2.filter (fun p=>!pX A1 p)=A2:=List.filter_eq_self.2 (fun p h=>by simp [h2 p h]);have g6:dG.filter (fun p=>!pX A1 p)=dG:=List.filter_eq_self.2 (fun p h=>by simp [h4 p h]);rw [List.filter_append,List.filter_append,g1,g2,g3,List.append_nil,List.append_nil] at f1;rw [List.filter_append,List.filter_append,g4,g5,g6,List.nil_append] at f2;rw [List.filter_map] at f1 f2;obtain⟨L1,e1,p1⟩:=aMn f1;refine⟨L1,L.filter (fun p=>!pX A1 p.1),e1,f2,?_⟩;exact (p1.append_right _).trans (List.filter_append_perm (fun p:cX × Nat=>pX A1 p.1) L)
theorem aOA (a:Act) (L L':List (cX × Nat)):over a (L++L')=over (over a L) L':=by simp [over,List.foldl_append]
theorem aU2 {A1 A2:List cX} {sB s3:List Mv} (hA:xO P ops (A1++A2)) (ic:Region.noSelect ops=true) (aY l0 lA:Array Bool) (dG:List cX) (L:List (cX × Nat)) (a:Act) (w:World) (J:List Chunk→World→Prop)
 (hp:∀ p ∈ dG,p ∉ A1) (bG:sC md ops M A2 s3 sB (pN A1 l0) lA=true) (jN:mf md ops M (A1++A2) lA=true) (db:Up (A1++A2) aY l0 lA (L.map (·.1.i))) (dK:lR md ops aY) (hL:(L.map (·.1)++dG).Perm (A1++A2)) (hJ:J (L.map cX.aB) w) (cA:sq J) (kH:∀ B w,J B w→C w)
 (hE:∀ L1:List (cX × Nat),L1.map (·.1)=A1→gw P ops Q C A2 (dN P ops (di Q) C s3) sB (over a L1) (fun B w=>J (L1.map cX.aB++B) w)):j5 P md ops (di Q) M C (dG.length+(sB.length+s3.length)) aY (over a L) w:=by
 obtain⟨L1,L2,e1,p2,pL⟩:=aMM hA.i hp hL;have kO:=hA.i;have mR:=hA.t;rw [List.map_append] at kO mR;have xB:xO P ops A2:=⟨fun p h=>hA.op p (List.mem_append_right _ h),(List.nodup_append.1 kO).2.1,(List.nodup_append.1 mR).2.1⟩
 have hnL:(L.map (fun p=>p.1.t)).Nodup:=by
  have h1:((L.map (·.1)++dG).map (·.t)).Nodup:=((hL.map _).nodup_iff).2 hA.t;rw [List.map_append] at h1
  simpa [List.map_map,Function.comp_def] using (List.nodup_append.1 h1).1
 rw [aIu pL.symm a hnL,aOA];have fq:=a8s A1 l0
 have hi1:∀ j,j ∈ L.map (·.1.i)↔(∃ p ∈ A1,p.i=j)∨j ∈ L2.map (·.1.i):=fun j=>by
  have h1:=(pL.map (·.1.i)).mem_iff (a:=j);rw [← h1,List.map_append,List.mem_append]
  have h2:j ∈ L1.map (·.1.i)↔∃ p ∈ A1,p.i=j:=by
   rw [← e1];simp only [List.mem_map]
   constructor
   ·rintro⟨q,hq,rfl⟩;exact⟨q.1,⟨q,hq,rfl⟩,rfl⟩
   ·rintro⟨p,⟨q,hq,rfl⟩,rfl⟩;exact⟨q,hq,rfl⟩
  rw [h2]
 have wj:Up A2 aY (pN A1 l0) lA (L2.map (·.1.i)):=by
  refine⟨fq.1.trans db.s0,db.sA,fun j=>?_,fun j=>?_,fun j hj=>?_,fun p h=>?_⟩
  ·rw [db.up,fq.2,hi1,or_assoc]
  ·rw [db.all,fq.2,or_assoc]
   simp only [List.mem_append,or_and_right,exists_or]
  ·obtain⟨q,hq,rfl⟩:=List.mem_map.1 hj
   exact⟨q.1,p2.subset (List.mem_append_left _ (List.mem_map.2 ⟨q,hq,rfl⟩)),rfl⟩
  ·cases hc:(pN A1 l0).getD p.i true with
   | false=>rfl
   | true =>
    rcases (fq.2 p.i).1 hc with h1|⟨q,hq,e⟩
    ·rw [db.no0 p (List.mem_append_right _ h)] at h1;cases h1
    ·exact absurd e ((List.nodup_append.1 kO).2.2 q.i (List.mem_map.2 ⟨q,hq,rfl⟩) p.i (List.mem_map.2 ⟨p,h,rfl⟩))
 have aU7:mf md ops M A2 lA=true:=by
  simp only [mf,List.all_append,Bool.and_eq_true] at jN ⊢;exact jN.2
 have:=aKK (P:=P) (Q:=Q) (md:=md) (M:=M) (C:=C) (s2:=s3) xB ic _ sB aY (pN A1 l0) lA dG L2 (over a L1) w (fun B w=>J (L1.map cX.aB++B) w) rfl bG aU7 wj dK p2
  (cA.perm _ _ _ (by rw [← List.map_append];exact pL.map _) hJ)
  ⟨fun B w o h=>by rw [← List.append_assoc];exact cA.alloc _ _ _ h,fun B B' w y8 h=>cA.perm _ _ _ (y8.append_left _) h⟩ (fun B w h=>kH _ _ h) (hE L1 e1)
 rw [show dG.length+(sB.length+s3.length)=sB.length+dG.length+s3.length by omega];exact this
end
section
variable {P:Program} {Q:Exit→Act→World→Prop} {a:Act} {w:World}
theorem aU4 {id:Nat} {l:List Oper} (s1 sB s3:List Mv) (M:List Nat) (A1 A2:List cX) (w0:World) (H:List Chunk) (hm:P.follows .mixedOrders=true)
 (bG:(Region.noSelect l.toArray && (s1.length+(A1++A2).length+(sB.length+s3.length) == l.length) && mf .any l.toArray M (A1++A2) (pN (A1++A2) (Array.replicate l.length false)) && tU .any l.toArray M A1 (A1++A2) (fun l0 lA=>sC .any l.toArray M A2 s3 sB (pN A1 l0) lA) s1 (Array.replicate l.length false) (pN (A1++A2) (Array.replicate l.length false)))=true) (hA:xO P l.toArray (A1++A2)) (hS:aA w0 w.drew H)
 (h:sN P l.toArray Q (fun w=>aA w0 w H) (fun a J=>∀ L1:List (cX × Nat),L1.map (·.1)=A1→gw P l.toArray Q (fun w=>aA w0 w H) A2 (dN P l.toArray (di Q) (fun w=>aA w0 w H) s3) sB (over a L1) (fun B w=>J (L1.map cX.aB++B) w)) s1 a (fun B w=>aA w0 w (H++B))):(Code.region id l.toArray true).wp P Q a w:=by
 simp only [Bool.and_eq_true,beq_iff_eq] at bG;obtain⟨⟨⟨h1,h2⟩,h4⟩,h3⟩:=bG;refine wp_mono (Q:=di Q) (wp_region_any hm ?_) (fun e a w hq=>by cases e <;> first|exact hq|exact hq.elim);have dw:=a8s (A1++A2) (Array.replicate l.length false);have jN:=h4;simp only [mf,List.all_eq_true,Bool.and_eq_true,decide_eq_true_eq] at jN
 have db:Up (A1++A2) (Array.replicate l.length false) (Array.replicate l.length false) (pN (A1++A2) (Array.replicate l.length false)) [] :=
  ⟨rfl,dw.1,fun j=>by simp,dw.2,fun j hj=>absurd hj (by simp),fun p hp=>by
   have h5:=(jN p hp).1.2;rw [dw.1] at h5;have h6:p.i<l.length:=by simpa using h5
   simp [h6]⟩
 have:=aOU (P:=P) (Q:=Q) (md:=.any) (M:=M) (C:=fun w=>aA w0 w H) (k:=sB.length+s3.length) hA h1
  (fun aY l0 lA dG L a w J b1 b2 b3 b4 b5 b6 b7 b8 b9 fo=>aU2 hA h1 aY l0 lA dG L a w J b1 b2 b3 b4 b5 b6 b7 b8 b9 fo)
  _ s1 (Array.replicate l.length false) _ _ (A1++A2) [] a w.drew (fun B w=>aA w0 w (H++B)) rfl h3 h4 db (a6p _) (by simp) (by simpa using hS) (aAg w0 H) (fun B w h=>h.sub (List.sublist_append_left _ _)) h
 rw [h2] at this
 simpa [over] using this.any
end
end G
namespace G
section
variable {P:Program} {ops:Array Oper} {Q:Exit→Act→World→Prop} {C:World→Prop} {End:Act→(List Chunk→World→Prop)→Prop} {s:List Mv} {a:Act} {w w0:World} {H:List Chunk} {J:List Chunk→World→Prop} {i:Nat} {o:Oper}
theorem aMB {dst:Option Tmp} {op:Op} {ty:TypeId} {pos:String} {ak:Array Edge} {g:Option (Nat × Bool)} (ho:ops[i]? = some ⟨dst,op,ty,pos,ak,g⟩) (hw:Region.wanted ⟨dst,op,ty,pos,ak,g⟩ (yielded ops a.tmps)=true)
 (h:∀ K:Act→Prop,(∀ a,sN P ops Q C End s a J→K a)→∃ v,(∀ w',(execOp a.eval ⟨dst,op,ty,pos,ak,g⟩).run P w'=.ok (.value v) w')∧K (a.put dst v)):sN P ops Q C End (.p i::s) a J :=
 let ⟨v,hr,hk⟩:=h _ (fun _ h=>h)
 ⟨_,v,ho,.inl ⟨hw,fun w' _=>hr w'⟩,hk⟩
theorem aK6 (ho:ops[i]? = some o) (hw:Region.wanted o (yielded ops a.tmps)=true) (h:nj P w0 H o a (fun a'=>sN P ops Q (fun w=>aA w0 w H) End s a' J)):sN P ops Q (fun w=>aA w0 w H) End (.r i::s) a J :=
 let ⟨v,hr,hk⟩:=h.ex
 ⟨_,v,ho,.inl ⟨hw,fun w' hw'=>hr w' hw'⟩,hk⟩
theorem aRZ {dst:Option Tmp} {op:Op} {ty:TypeId} {pos:String} {ak:Array Edge} {g:Option (Nat × Bool)} (ho:ops[i]? = some ⟨dst,op,ty,pos,ak,g⟩)
 (h:∀ B w,J B w→wpList P ops (Exit.then (fun a' w'=>∃ J',J' B w'∧sq J'∧(∀ B w,J' B w→C w)∧sN P ops Q C End s a' J') (di Q)) [⟨dst,op,ty,pos,ak,g⟩] a w):sN P ops Q C End (.e i::s) a J :=
 fun B w hJ=>a4N ho (h B w hJ) (fun _ _ _ h=>h)
theorem aTd {p q r:cX} {A2:List cX} {E:Act→World→Prop} (h:∀ b c d,gw P ops Q C A2 E s (((a.put (some p.t) (p.v b)).put (some q.t) (q.v c)).put (some r.t) (r.v d)) (fun B w=>J ([.aB b p.o,.aB c q.o,.aB d r.o]++B) w)) :
 ∀ L1:List (cX × Nat),L1.map (·.1)=[p,q,r]→gw P ops Q C A2 E s (over a L1) (fun B w=>J (L1.map cX.aB++B) w):=by
 intro L hL
 match L,hL with
 | [(x,b),(y,c),(z,d)],hL =>
  simp only [List.map_cons,List.map_nil,List.cons.injEq,and_true] at hL;obtain⟨rfl,rfl,rfl⟩:=hL;exact h b c d
theorem aRA {X B:List Chunk} {r:Chunk} (h:aA w0 w (X++(B++[r]))):aA w0 w ((X++[r])++B):=by
 refine h.perm ?_;rw [List.append_assoc];exact (List.perm_append_comm (l₁:=[r]) (l₂:=B)).append_left X
theorem aVs (h:End a J):sN P ops Q C End [] a J:=h
theorem aVe {K:Act→(List Chunk→World→Prop)→Prop} {Q':Exit→Act→World→Prop} {X B:List Chunk} (hS:aA w0 w (X++B)) (hC:∀ B w,aA w0 w (X++B)→C w) (h:K a (fun B w=>aA w0 w (X++B))) :
 wpList P ops (Exit.then (fun a' w'=>∃ J',J' B w'∧sq J'∧(∀ B w,J' B w→C w)∧K a' J') Q') [] a w:=⟨_,hS,aAg w0 X,hC,h⟩
theorem aSo {p q r:cX} {A2:List cX} {E:Act→World→Prop} {X:List Chunk} (h:∀ b c d,gw P ops Q C A2 E s (((a.put (some p.t) (p.v b)).put (some q.t) (q.v c)).put (some r.t) (r.v d)) (fun B w=>aA w0 w (X++([.aB b p.o,.aB c q.o,.aB d r.o]++B)))) :
 ∀ L1:List (cX × Nat),L1.map (·.1)=[p,q,r]→gw P ops Q C A2 E s (over a L1) (fun B w=>aA w0 w (X++(L1.map cX.aB++B))):=aTd (J:=fun B w=>aA w0 w (X++B)) h
end
end G
theorem FI.aTc (x:FI):x.L1 []=List.replicate x.N.length (-1):=by
 refine yP 0 (by rw [x.yJ,List.length_replicate]) (fun k hk=>?_);rw [x.yJ] at hk;rw [x.a4O _ hk,bS _ _ _ (by rw [List.length_replicate];exact hk)];simp [FI.pq]
theorem FI.aT9 (x:FI) (hp:jg x.N) (d:List Nat) (v:Nat) (hr:nth 0 x.root v=v) (ho:x.out v<x.N.length):x.L1 (d++[v])=lE (x.L1 d) (et x.N (x.out v)) (-2):=by
 refine yP 0 (by rw [zH,x.yJ,x.yJ]) (fun k hk=>?_);rw [x.yJ] at hk;rw [a2R _ _ _ (fun q hq=>by rw [x.yJ];exact uO hp ho hq),x.a4O _ hk,x.a4O _ hk]
 have e:x.pq (d++[v]) k=(x.pq d k || (et x.N (x.out v)).contains k):=by
  unfold FI.pq;rw [List.any_append];simp [hr]
 rw [e]
 by_cases h:k ∈ et x.N (x.out v)
 ·rw [if_pos h,if_pos (by simp [h])]
 ·rw [if_neg h]
  have:(et x.N (x.out v)).contains k=false:=by simp [h]
  rw [this,Bool.or_false]
theorem FI.aUx (x:FI) (d:List Nat) (v:Nat) (hr:nth 0 x.root v≠v):x.L1 (d++[v])=x.L1 d:=by
 have e:∀ k,x.pq (d++[v]) k=x.pq d k:=fun k=>by
  unfold FI.pq;rw [List.any_append];simp [hr]
 unfold FI.L1;simp only [e]
theorem FI.aNU (x:FI) {d d':List Nat} (h:∀ v,v ∈ d↔v ∈ d'):x.L1 d=x.L1 d':=by
 have e:∀ k,x.pq d k=x.pq d' k:=fun k=>by
  rw [Bool.eq_iff_iff];unfold FI.pq;rw [List.any_eq_true,List.any_eq_true];exact⟨fun ⟨v,a,b⟩=>⟨v,(h v).1 a,b⟩,fun ⟨v,a,b⟩=>⟨v,(h v).2 a,b⟩⟩
 unfold FI.L1;simp only [e]
def FI.named (x:FI) (d:List Nat) (l:List (Int × Int)):Prop:=∀ v:Nat,eZ l (v:Int)=if v ∈ d∧nth 0 x.root v=v then some (ed x.N (x.out v):Int) else none
theorem FI.aNI (x:FI):x.named [] []:=fun v=>by simp [eZ]
theorem FI.aNy (x:FI) {d:List Nat} {l:List (Int × Int)} (h:x.named d l) (v:Nat) (hr:nth 0 x.root v≠v):x.named (d++[v]) l:=fun u=>by
 rw [h u]
 by_cases e:u=v
 ·subst e
  rw [if_neg (fun h=>hr h.2),if_neg (fun h=>hr h.2)]
 ·simp [e]
theorem FI.aRl (x:FI) {d:List Nat} {l:List (Int × Int)} (h:x.named d l) (v:Nat) (hr:nth 0 x.root v=v):x.named (d++[v]) (fV l (v:Int) (ed x.N (x.out v):Int)):=fun u=>by
 rw [a1y,h u]
 by_cases e:(v:Int)=(u:Int)
 ·have e':v=u:=by omega
  subst e';rw [if_pos e,if_pos ⟨by simp,hr⟩]
 ·have e':u≠v:=fun h=>e (by rw [h])
  rw [if_neg e];simp [e']
def qt (l:List Nat):List Nat:=l.mergeSort fun x y=>decide (x≤y)
theorem a7K (l:List Nat):(qt l).Perm l:=List.mergeSort_perm _ _
theorem srtN_len (l:List Nat):(qt l).length=l.length:=(a7K l).length_eq
theorem aDe (I:List (List Nat)) (i:Nat):nth [] (I.map qt) i=qt (nth [] I i):=by
 simp only [nth,List.getD_eq_getElem?_getD,List.getElem?_map];cases I[i]? with
 | none=>simp [qt]
 | some l=>rfl
theorem aHK (y:Nat):∀ I:List (List Nat),(I.map qt).flatten.count y=I.flatten.count y
 | []=>rfl
 | l::I=>by
  rw [List.map_cons,List.flatten_cons,List.flatten_cons,List.count_append,List.count_append,aHK y I,(a7K l).count_eq]
structure iL where
 N:List Nat
 L:List Int
 O:List Int
 I:List (List Nat)
 A:List (List Nat)
structure tZ (m n:Nat) (fB:Nat→Nat) (fh:Nat→Bool) (f:iL):Prop where
 aFC:f.N.length=2*m
 perm:jg f.N
 a2I:f.L.length=2*m
 aAE:0<f.O.length
 aAy:f.O.length≤2*m+1
 vA:f.I.length=f.O.length
 vY:f.A.length=f.O.length
 lr:∀ k,k<2*m→∃ i:Nat,i<f.O.length∧nth 0 f.L k=(i:Int)
 o0:nth 0 f.O 0 = -1
 on:∀ i,0<i→i<f.O.length→∃ q:Nat,nth 0 f.O i=(q:Int)∧q<2*m∧ed f.N q=q∧nth 0 f.L q=(i:Int)∧∀ j,j<f.O.length→q ∉ nth [] f.I j
 im:∀ i,i<f.O.length→∀ y ∈ nth [] f.I i,y<2*m∧ed f.N y=y∧nth 0 f.L y=(i:Int)
 a1L:∀ y,f.I.flatten.count y≤1
 am:∀ i,i<f.O.length→∀ u ∈ nth [] f.A i,u<n
 a1Y:∀ u,u<n→f.A.flatten.count u=if fh u=true then 0 else 1
 cyc:∀ k,k<2*m→nth 0 f.L (nth 0 f.N k)=nth 0 f.L k
 aYM:∀ k,k<2*m→fB (nth 0 f.N k)=fB (tw k)
 named:∀ k,k<2*m→ed f.N k=k→(∃ i,0<i∧i<f.O.length∧nth 0 f.O i=(k:Int))∨∃ i,i<f.O.length∧k ∈ nth [] f.I i
def FI.fr (x:FI):iL:=⟨x.N,(x.gE x.n).L,x.O,(x.gE x.n).I.map qt,(x.gE x.n).A⟩
theorem FI.Ok.a1N {x:FI} {fB:Nat→Nat} (hx:x.Ok fB):tZ x.m x.n fB x.fh x.fr:=by
 have p2:=hx.p2;have p3:=hx.gE x.n (Nat.le_refl _);have hN:=hx.len;have sz:∀ k,k<x.N.length→nth 0 x.root (fB k)<x.n:=fun k hk=>Nat.lt_of_le_of_lt (hx.aKW _ (hx.aBG k hk)) (hx.aBG k hk)
 unfold FI.fr;generalize x.gE x.n=s at p3;obtain⟨L,I,A⟩:=s
 have aJ1:∀ k,k<x.N.length→nth 0 L (ed x.N k)=nth 0 L k:=fun k hk=>by
  by_cases hw:x.W k
  ·obtain⟨i,a,b,c⟩:=p3.a1w k hk hw (sz k hk)
   rw [b];exact (p3.im i a _ c).2.2.2.2
  ·obtain⟨i,i0,i1,e,e2⟩:=p2.low k hk hw (a0R hx.perm hk)
   obtain⟨q,f1,f2,f3,f4,f5⟩:=p2.outs i i0 i1;obtain rfl:q=ed x.N k:=by rw [e2] at f1;omega
   rw [p3.nw k hk hw,e];exact (p3.nw _ f2 f4).trans f5
 refine⟨hN,hx.perm,p3.len.trans hN,p2.pos,by have:=p2.many;simp only;omega,by simp only [List.length_map];exact p3.vA,p3.vY,fun k hk=>?_,p2.zero,fun i i0 i1=>?_,fun i hi y hy=>?_,fun y=>?_,fun i hi u hu=>?_,fun u hu=>?_,fun k hk=>?_,fun k hk=>hx.aI3 k (by omega),fun k hk hl=>?_⟩
 ·have iI:k<x.N.length:=by omega
  by_cases hw:x.W k
  ·obtain⟨i,a,b,_⟩:=p3.a1w k iI hw (sz k iI)
   exact⟨i,a,b⟩
  ·obtain⟨i,_,i1,e,_⟩:=p2.low k iI hw (a0R hx.perm iI)
   exact⟨i,i1,(p3.nw k iI hw).trans e⟩
 ·obtain⟨q,f1,f2,f3,f4,f5⟩:=p2.outs i i0 i1
  refine⟨q,f1,by omega,f3,(p3.nw q f2 f4).trans f5,fun j hj hm=>?_⟩;rw [aDe,(a7K _).mem_iff] at hm;exact f4 (p3.im j hj q hm).2.2.1
 ·rw [aDe,(a7K _).mem_iff] at hy
  obtain⟨a,b,_,_,e⟩:=p3.im i hi y hy;exact⟨by omega,b,e⟩
 ·show (I.map qt).flatten.count y≤1
  rw [aHK];exact p3.a1L y
 ·exact p3.am i hi u hu
 ·show A.flatten.count u=_
  have:=p3.a1Y u;simp only at this;rw [this]
  by_cases he:x.fh u=true
  ·rw [if_pos he,if_neg (fun h=>by rw [he] at h;exact absurd h.2.2 (by simp))]
  ·have fM:x.fh u=false:=by simpa using he
   rw [if_neg he,if_pos ⟨hu,hx.alone u hu fM,fM⟩]
 ·have iI:k<x.N.length:=by omega
  show nth 0 L (nth 0 x.N k)=nth 0 L k;rw [← aJ1 k iI,← aJ1 _ (hx.perm.lt k iI),aOl hx.perm iI]
 ·have iI:k<x.N.length:=by omega
  have hl':ed x.N k=k:=hl
  by_cases hw:x.W k
  ·obtain⟨i,a,_,c⟩:=p3.a1w k iI hw (sz k iI)
   refine .inr ⟨i,a,?_⟩;rw [aDe,(a7K _).mem_iff];rw [hl'] at c;exact c
  ·obtain⟨i,i0,i1,_,e2⟩:=p2.low k iI hw (a0R hx.perm iI)
   rw [hl'] at e2;exact .inl ⟨i,i0,i1,e2⟩
section
open Go.RowKit Go.Shelf Go.Hp
def rV (xs:List Int):List Int:=xs.mergeSort fun x y=>decide (x≤y)
theorem aWi {w0 w:World} {H:List Chunk} {ad:Option Addr} {n cap:Nat} {T:TypeId} {xs:List Int} (j:Nat) (hS:aA w0 w H) (hj:H[j]? = some (.row (.slice ad n cap) T 1 n (iv xs))) (hl:n≤1000000) :
 Calls prog 24 #[.slice ad n cap] w fun e w'=>e=.returned (.tuple #[])∧aA w0 w' (H.set j (.row (.slice ad n cap) T 1 n (iv (rV xs)))):=by
 have lW:=hS.ok _ (bW hj);obtain⟨hlen,mL⟩:=lW;rw [tK] at hlen;have wF:xs.length=n:=by omega
 subst wF;have qz:(rV xs).length=xs.length:=(List.mergeSort_perm _ _).length_eq
 rcases mL with ⟨hv,hn⟩|⟨g,a5H,cur,hv,hb,hg,mm,fg,hcs,a0Q⟩
 ·simp only [Value.slice.injEq] at hv
  obtain⟨rfl,hx,rfl⟩:=hv;have lB:xs=[]:=List.eq_nil_of_length_eq_zero hx;subst lB;refine (slices_Sort_int_none none 0 w).mono fun e w' ⟨he,hw⟩=>⟨he,?_⟩
  subst hw
  have:H.set j (.row (.slice none 0 0) T 1 0 (iv (rV [])))=H:=by
   apply List.ext_getElem?;intro i;rw [List.getElem?_set]
   split
   ·rename_i h;subst h
    obtain⟨aW,hq⟩:=List.getElem?_eq_some_iff.1 hj;rw [if_pos aW,List.getElem?_eq_getElem aW,hq,show rV []=[] by simp [rV]]
    rfl
   ·rfl
  simp only [List.length_nil];rw [this];exact hS
 ·simp only [Value.slice.injEq] at hv
  obtain⟨rfl,-,rfl⟩:=hv;have a6I:cur.toList.take xs.length=xs.map (Value.int .i64):=by simpa [iv] using a0Q
  refine (slices_Sort_int g 0 cap xs w (holds_of_blockI hg a6I) (Array.getElem?_eq_some_iff.1 hg).1 (by omega)).mono fun e w' ⟨he,m,os,hw⟩=>⟨he,?_⟩
  subst hw;have fy:=grownBy_sortedI (w:=w) (g:=g) (n:=m) (os:=os) (xs.mergeSort fun x y=>decide (x≤y)).toArray;refine hS.sQ j hj fy.os fy.tape fy.output (by first|exact Nat.le_add_right _ _|simp [Go.Sort.grow,Go.Sort.putRow,Go.Sort.ahead]) fy.size ?_ (fun k hk=>.inl hk) (fun k hk tR=>fy.block k hk (fun e=>tR (by simp only [Chunk.has,Value.ownBlock];exact e.symm)));have iu:(rV xs).length≤cur.size:=by rw [qz,hcs];omega
  refine⟨by rw [tK,qz,Nat.mul_one],.inr ⟨g,cap,_,rfl,Nat.zero_le _,heap_sortedI _ hg,mm,fg,?_,?_⟩⟩
  ·simp [Go.Sort.putCells,hcs]
  ·rw [Nat.mul_one,← qz]
   exact take_putCellsI cur (rV xs) iu
theorem srt_sorted (xs:List Int):(rV xs).Pairwise (· ≤ ·):=by
 have ht:∀ (a b c:Int),decide (a≤b)=true→decide (b≤c)=true→decide (a≤c)=true:=by intro a b c;simp;omega
 have hT:∀ (a b:Int),(decide (a≤b) || decide (b≤a))=true:=by intro a b;simp;omega
 exact (List.pairwise_mergeSort ht hT xs).imp (fun h=>by simpa using h)
theorem srt_len (xs:List Int):(rV xs).length=xs.length:=(List.mergeSort_perm _ _).length_eq
end
def oZ (V:List Pt) (es:List Ed) (v:Nat):Option Nat:=if fR V es v es.length<0 then none else some (fR V es v es.length).toNat
def jR (V:List Pt) (es:List Ed) (RL:List (List Nat)) (out:Nat→Nat):FI:=⟨jq es.length RL V.length,es.length,V.length,nK (gT es) V.length,out,fun v=>decide (nth [] RL v≠[]),oZ V es⟩
theorem aIk {V:List Pt} {es:List Ed} {v:Nat}:∀ {k:Nat},0≤fR V es v k→nM V es v (fR V es v k).toNat=false∧(fR V es v k).toNat<k
 | 0,h=>by unfold fR at h;omega
 | k+1,h=>by
  have ih:=@aIk V es v k;have dH:fR V es v (k+1)=if nM V es v k then fR V es v k else if fR V es v k<0 then (k:Int) else if mr V es k (fR V es v k).toNat then (k:Int) else fR V es v k:=rfl
  rw [dH] at h ⊢
  by_cases hs:nM V es v k=true
  ·rw [if_pos hs] at h ⊢
   exact⟨(ih h).1,Nat.lt_succ_of_lt (ih h).2⟩
  ·rw [if_neg hs] at h ⊢
   have hs2:nM V es v k=false:=by simpa using hs
   by_cases hb:fR V es v k<0
   ·rw [if_pos hb];exact⟨by simpa using hs2,by simp⟩
   ·rw [if_neg hb] at h ⊢
    by_cases hh:mr V es k (fR V es v k).toNat=true
    ·rw [if_pos hh];exact⟨by simpa using hs2,by simp⟩
    ·rw [if_neg hh] at h ⊢
     exact⟨(ih h).1,Nat.lt_succ_of_lt (ih h).2⟩
theorem a0t {V:List Pt} (hV:V.Pairwise Pt.lt) {a b:Nat} (ha:a<V.length) (hb:b<V.length) (h:(nth au V a).lt (nth au V b)):a<b:=by
 rcases Nat.lt_trichotomy a b with h1|h1|h1
 ·exact h1
 ·subst h1;exact absurd h (Pt.lt_irrefl _)
 ·have:=List.pairwise_iff_getElem.1 hV b a hb ha h1
  rw [← bS au V b hb,← bS au V a ha] at this;exact absurd h (Pt.lt_asymm this)
theorem aQT {a b p:Pt} (h1:a.x≤p.x) (h2:¬ b.x≤p.x) (h3:¬ e8 (bT a b p) 0≤0):a.lt p:=by
 have h4:¬ bT a b p≤0:=fun h=>h3 (a6B.2 h)
 unfold Pt.lt
 by_cases e:a.x<p.x
 ·exact .inl e
 ·have e2:a.x=p.x:=by grind
  refine .inr ⟨e2,?_⟩;have oA:0<b.x - a.x:=by grind
  have hA:bT a b p=(b.x - a.x)*(p.y - a.y):=by unfold bT;rw [e2];grind
  have kx:0<(b.x - a.x)*(p.y - a.y):=by rw [← hA];grind
  have:=yE oA kx
  grind
theorem aTj {V:List Pt} {es:List Ed} (hV:V.Pairwise Pt.lt) (bV:∀ e ∈ es,e.a<V.length∧e.b<V.length) {v e:Nat} (hv:v<V.length) (h:oZ V es v=some e):e<es.length∧iA es (2*e)<v:=by
 unfold oZ at h
 split at h
 ·cases h
 ·rename_i hb
  obtain⟨h1,h2⟩:=@aIk V es v es.length (by omega);have h3:=Option.some.inj h;rw [h3] at h1 h2;refine⟨h2,?_⟩;have ha:=(bV _ (cQ ah es e h2)).1
  have hae:iA es (2*e)=(nth ah es e).a:=by
   unfold iA;have e1:2*e / 2=e:=by omega
   have e2:2*e % 2=0:=by omega
   rw [if_pos e2,e1]
  rw [hae];unfold nM r6 iN at h1;simp only [Bool.or_eq_false_iff,decide_eq_false_iff_not,Bool.not_eq_false',decide_eq_true_eq] at h1;exact a0t hV ha hv (aQT h1.1.1.2 h1.1.2 h1.2)
theorem aIY {es:List Ed} {u:Nat} (h:zl (gT es) u):∃ k,k<2*es.length∧iA es k=u:=by
 obtain⟨p,hp,hu⟩:=h;obtain⟨i,hi,rfl⟩:=List.getElem_of_mem hp;have mg:i<es.length:=by simpa [gT] using hi
 have e1:(gT es)[i]=((nth ah es i).a,(nth ah es i).b):=by rw [← aEb mg,bS _ _ _ hi]
 rw [e1] at hu
 rcases hu with hu|hu
 ·refine⟨2*i,by omega,?_⟩
  unfold iA;have e1:2*i / 2=i:=by omega
  have e2:2*i % 2=0:=by omega
  rw [if_pos e2,e1];exact hu
 ·refine⟨2*i+1,by omega,?_⟩
  unfold iA;have e1:(2*i+1) / 2=i:=by omega
  have e2:¬ (2*i+1) % 2=0:=by omega
  rw [if_neg e2,e1];exact hu
theorem aUm {es:List Ed} {h:Nat} (hh:h<2*es.length):comp (gT es) es.length (iA es h)=comp (gT es) es.length (iA es (tw h)):=by
 have hl:(gT es).length=es.length:=by simp [gT]
 have hc:=(aDL (gT es) es.length (by omega)).mw (h / 2) (by omega);rw [aEb (show h / 2<es.length by omega)] at hc;simp only at hc;unfold iA;rw [aNm,aS3];have:h % 2=0∨h % 2=1:=by omega
 rcases this with e|e
 ·rw [e,if_pos rfl,if_neg (by decide)];exact hc
 ·rw [e,if_neg (by decide),if_pos rfl];exact hc.symm
theorem aKS {V:List Pt} {es:List Ed} {RL:List (List Nat)} {out:Nat→Nat} (hV:V.Pairwise Pt.lt) (bV:∀ e ∈ es,e.a<V.length∧e.b<V.length) (hR:zA es V.length RL) (ry:∀ v,v<V.length→nth [] RL v≠[]→out v ∈ nth [] RL v):(jR V es RL out).Ok (iA es):=by
 obtain⟨h1,h2⟩:=aT3 hR bV;have hl:(gT es).length=es.length:=by simp [gT]
 have hco:=aDL (gT es) es.length (by omega);have dK:∀ v,v<V.length→nth 0 (nK (gT es) V.length) v=comp (gT es) es.length v:=fun v hv=>by rw [aUb hv,hl]
 have hcv:∀ v,v<V.length→comp (gT es) es.length v<V.length:=fun v hv=>Nat.lt_of_le_of_lt (hco.le v) hv
 have a3Y:∀ k,k<2*es.length→nth [] RL (iA es k)≠[]:=fun k hk e=>by
  have:=(hR.mem _ k (a02 bV hk)).2 ⟨hk,rfl⟩;rw [e] at this;cases this
 refine⟨h1,sW _ _ _,fun h hh=>?_,fun h hh=>?_,fun v hv=>?_,fun v hv=>?_,fun h hh=>?_,fun v hv he=>?_,fun v hv he=>?_,fun h hh=>?_,fun v hv he=>?_,fun v hv he=>?_,fun v e hv hb=>aTj hV bV hv hb⟩
 ·exact a02 bV (by simpa [jR,sW] using hh)
 ·exact h2 h (by simpa [jR,sW] using hh)
 ·show nth 0 (nK (gT es) V.length) v≤v
  rw [dK v hv];exact hco.le v
 ·show nth 0 (nK (gT es) V.length) (nth 0 (nK (gT es) V.length) v)=nth 0 (nK (gT es) V.length) v
  rw [dK v hv,dK _ (hcv v hv)];exact hco.idem v
 ·have hh2:h<2*es.length:=by simpa [jR,sW] using hh
  show nth 0 (nK (gT es) V.length) (iA es h)=nth 0 (nK (gT es) V.length) (iA es (tw h));rw [dK _ (a02 bV hh2),dK _ (a02 bV (a1Q hh2))];exact aUm hh2
 ·have:=((hR.mem v _ hv).1 (ry v hv (by simpa [jR] using he))).1
  simpa [jR,sW] using this
 ·exact ((hR.mem v _ hv).1 (ry v hv (by simpa [jR] using he))).2
 ·have hh2:h<2*es.length:=by simpa [jR,sW] using hh
  simpa [jR] using a3Y h hh2
 ·have hv':v<V.length:=hv
  show decide (nth [] RL (nth 0 (nK (gT es) V.length) v)≠[])=true;rw [dK v hv']
  rcases hco.ends v with h|⟨_,h⟩
  ·rw [h];exact he
  ·obtain⟨k,hk,iE⟩:=aIY h
   rw [← iE];simpa using a3Y k hk
 ·have hv':v<V.length:=hv
  show nth 0 (nK (gT es) V.length) v=v;rw [dK v hv']
  rcases hco.ends v with h|⟨h,_⟩
  ·exact h
  ·obtain⟨k,hk,iE⟩:=aIY h
   exfalso
   have:=a3Y k hk;rw [iE] at this;have fM:decide (nth [] RL v≠[])=false:=he;simp [this] at fM
section
variable {κ:Type} [DecidableEq κ] {ν:Type} {ek:κ→Value} {ev:ν→Value} {P:Program} {w w0:World} {b:Nat} {o:Obj} {l:List (κ × ν)} {H:List Chunk}
variable {ops:Array Oper} {Q:Exit→Act→World→Prop} {rest:List Oper} {a:Act} {K:Act→Prop} {dst:Option Tmp} {x ix:Operand} {ty T E Tm:TypeId} {pos:String} {ak:Array Edge} {g:Option (Nat × Bool)}
theorem aPJ {z:ν} (hu:P.underlying Tm=some (.map T E)) (hz:∀ w,(zeroValue E).run P w=.ok (ev z) w) (K:tP P T ek) (hb:w.heap[b]? = some o) (hm:gj ek ev o l) (k:κ) :
 (Instr.lookup Tm (.map (some b)) (ek k) true).run P w=.ok (.tuple #[ev ((eZ l k).getD z),.bool (eZ l k).isSome]) w:=by
 obtain⟨⟨es,clock,rfl,dW,hp,hc⟩,hn⟩:=hm;have hg:=MapKept.run_getObj_map (P:=P) hb;have hf:=K.find k (l.map (·.1)) es.toList w (a1k dW);unfold Instr.lookup;simp only [Sem.run_bind,run_underlying hu,Result.andThen_ok,hg,Sem.run_pure,K.s9,hf]
 rcases a1T ev ek k l es.toList 0 dW with ⟨h1,h2⟩|⟨j,v,h1,h2,_⟩
 ·simp [h1,h2,hz]
 ·simp [h1,h2]
theorem a1J {z:ν} {k:κ} (j:Nat) (hu:P.underlying Tm=some (.map T E)) (hz:∀ w,(zeroValue E).run P w=.ok (ev z) w) (Kk:tP P T ek) (hx:a.eval x=.map (some b)) (hi:a.eval ix=ek k) (hj:H[j]? = some (.aB b o)) (hm:gj ek ev o l)
 (hk:K (a.put dst (.tuple #[ev ((eZ l k).getD z),.bool (eZ l k).isSome]))):nj P w0 H ⟨dst,.lookup Tm x ix true,ty,pos,ak,g⟩ a K:=by
 refine⟨⟨_,fun w' hS=>?_,hk⟩⟩;have hr:=aPJ (P:=P) (Tm:=Tm) hu hz Kk (hS.aB (bW hj)) hm k;generalize a.eval=ρ at hx hi;simp only [execOp,hx,hi,Sem.run_bind,hr,Result.andThen_ok,Sem.run_pure]
theorem a0J (h:wpList P ops Q (⟨dst,.lookup T x ix true,ty,pos,ak,g⟩::rest) a w):wpList P ops Q (⟨dst,.lookup T x ix true,ty,pos,ak,g⟩::rest) a w:=h
end
section
variable {P:Program}
theorem aWf {Q:Exit→Act→World→Prop} {id:Nat} {a:Act} {w:World} {l:List Oper} (t:Tr) (M:List Nat) (C D:World→Prop) (hm:P.follows .mixedOrders=true)
 (bG:(Region.noSelect l.toArray && (t.len == l.length) && a3p .any l.toArray M t (Array.replicate l.length false))=true) (hD:D w.drew) (hDC:∀ w',D w'→C w')
 (h:∀ w',D w'→vL P l.toArray Q C t a w'):(Code.region id l.toArray true).wp P Q a w:=by
 simp only [Bool.and_eq_true,beq_iff_eq] at bG;obtain⟨⟨h1,h2⟩,h3⟩:=bG;refine wp_mono (Q:=di Q) (wp_region_any hm ?_) (fun e a w hq=>by cases e <;> first|exact hq|exact hq.elim);have:=aBP (P:=P) (Q:=Q) (md:=.any) (M:=M) (C:=C) h1 t (Array.replicate l.length false) a w.drew h3 (a6p _) (fun _=>hDC _ hD) (h _ hD);rw [h2] at this
 simpa using this.any
theorem aQu {Q:Exit→Act→World→Prop} {id:Nat} {a:Act} {w:World} {l:List Oper} (t:Tr) (M:List Nat) (C D:World→Prop) (hm:P.follows .mixedOrders=true)
 (bG:(Region.noSelect l.toArray && (t.len == l.length) && a3p .any l.toArray M t (Array.replicate l.length false))=true) (hD:D w.drew) (hDC:∀ w',D w'→C w')
 (F:Option Addr→Nat→Option Addr→Nat→World→Prop) (R:Nat→Nat→Option Addr→Nat→Option Addr→Nat→Act)
 (h:(∀ b1 b2 a1 c1 a2 c2 w',F a1 c1 a2 c2 w'→Q .normal (R b1 b2 a1 c1 a2 c2) w')→∀ w',D w'→vL P l.toArray Q C t a w')
 (k9:∀ b1 b2 a1 c1 a2 c2 w',F a1 c1 a2 c2 w'→Q .normal (R b1 b2 a1 c1 a2 c2) w'):(Code.region id l.toArray true).wp P Q a w :=
 aWf t M C D hm bG hD hDC (h k9)
end
theorem aA.aU9 {w0 w:World} {A B:List Chunk} (hS:aA w0 w (A++B)) {c:Chunk} (hc:c ∈ A) {k:Nat} (hk:c.has k):Rest w B k :=
 ⟨Chunk.lt (hS.ok c (by simp [hc])) hk,fun d hd=>(List.pairwise_append.1 hS.apart).2.2 c hc d hd k hk⟩
theorem aRK (E:List (Nat × Nat)) (n:Nat):(nK E n).length=n:=by simp [nK]
theorem kC.grow {w w':World} {S S':Nat→Prop} {a3 a4:Option Addr} {n3 c3 n4 c4:Nat} {rs:List ER} {es:List Ed} {prs:List PR} {V:List Pt} {k:Nat} (h:kC w S a3 a4 n3 c3 n4 c4 rs es prs V k) (hp:Pure w S w' S'):kC w' S' a3 a4 n3 c3 n4 c4 rs es prs V k :=
 ⟨hp.yj h.live,h.hE.grow hp,h.jf.grow hp,h.hV.grow hp,h.ab,h.bq,h.n3,h.n4⟩
theorem l9.pair {w:World} {S:Nat→Prop} {RL:List (List Nat)} {l:List (Int × (Option Addr × Nat × Nat))} (h:l9 w S RL l) {kk:Int} {vv:Option Addr × Nat × Nat} (hm:(kk,vv) ∈ l):∃ v:Nat,v<RL.length∧nth [] RL v≠[]∧kk=(v:Int)∧jZ w S (sv vv) (nth [] RL v):=by
 have hk:kk ∈ l.map (·.1):=List.mem_map.2 ⟨_,hm,rfl⟩;rw [h.keys,List.mem_map] at hk;obtain⟨v,hv,rfl⟩:=hk;rw [List.mem_filter,List.mem_range] at hv;exact⟨v,hv.1,by simpa using hv.2,rfl,by simpa using h.a5L _ hm⟩
theorem l9.over {w:World} {S:Nat→Prop} {RL:List (List Nat)} {l d:List (Int × (Option Addr × Nat × Nat))} (h:l9 w S RL l) (hp:d.Perm l) {x:FI} (hn:x.n=RL.length) (hh:∀ v,x.fh v=decide (nth [] RL v≠[])) (v:Nat):v ∈ d.map (fun p=>p.1.toNat)↔v ∈ x.keys:=by
 have e1:d.map (fun p=>p.1.toNat)=(d.map (·.1)).map Int.toNat:=by rw [List.map_map];rfl
 have h1:∀ k,k ∈ d.map (·.1)↔k ∈ l.map (·.1):=fun k=>(hp.map _).mem_iff
 rw [e1,List.mem_map];unfold FI.keys;rw [List.mem_filter,List.mem_range,hn,hh]
 constructor
 ·rintro⟨k,hk,rfl⟩
  rw [h1,h.keys,List.mem_map] at hk;obtain⟨u,hu,rfl⟩:=hk;rw [List.mem_filter,List.mem_range] at hu;exact hu
 ·intro hv
  refine⟨(v:Int),?_,rfl⟩;rw [h1,h.keys,List.mem_map];exact⟨v,by rw [List.mem_filter,List.mem_range];exact hv,rfl⟩
theorem FI.aVy (x:FI) {d d':List Nat} {l:List (Int × Int)} (h:∀ v,v ∈ d↔v ∈ d') (hn:x.named d l):x.named d' l:=fun v=>by
 rw [hn v];simp only [h]
theorem aA.aN4 {w0 w:World} {H:List Chunk} {x y:Chunk} (h:aA w0 w ((H++[x])++[y])):aA w0 w ((H++[y])++[x]):=h.perm (by
 rw [List.append_assoc,List.append_assoc];exact List.Perm.append_left H (List.Perm.swap x y []))
def uU:bK:=⟨(0,0),none,0,0,[]⟩
theorem aA.aDh {w0 w:World} {H:List Chunk} (hS:aA w0 w H) (T:TypeId):∀ k,aA w0 w (H++(List.replicate k uU).map (bK.ch T))
 | 0=>by simpa using hS
 | k+1=>by
  have:=(aA.aDh hS T k).iB T 1;rw [List.append_assoc] at this;rw [List.replicate_succ',List.map_append];exact this
def oc (R:List bK):List Value:=R.map fun r=>Value.slice r.ad r.n r.c
def l6 (R:List bK):List (List Nat):=R.map (·.is)
theorem a1O (R:List bK):(oc R).length=R.length:=by simp [oc]
theorem aS7 (k:Nat):oc (List.replicate k uU)=List.replicate k (.slice none 0 0):=by simp [oc,uU]
theorem aGo (k:Nat):l6 (List.replicate k uU)=List.replicate k []:=by simp [l6,uU]
def cM:bK:=uU
theorem a2S {R:List bK} {i:Nat} (hi:i<R.length):(oc R)[i]? = some (.slice (nth cM R i).ad (nth cM R i).n (nth cM R i).c):=by
 rw [bS _ _ _ hi];simp [oc,hi]
theorem aRX {R:List bK} {i:Nat} (hi:i<R.length):R=R.take i++nth cM R i::R.drop (i+1):=by rw [bS _ _ _ hi];simp
theorem aMP {α:Type} {R:List α} {i:Nat} (hi:i<R.length) (r:α):R.set i r=R.take i++r::R.drop (i+1):=by
 rw [List.set_eq_take_append_cons_drop,if_pos hi]
theorem a56 (R:List bK) (i:Nat) (r:bK):oc (R.set i r)=(oc R).set i (.slice r.ad r.n r.c):=by simp [oc,List.map_set]
theorem aRf (R:List bK) (i:Nat) (r:bK):l6 (R.set i r)=(l6 R).set i r.is:=by simp [l6,List.map_set]
theorem aIV (R:List bK) (i:Nat):nth [] (l6 R) i=(nth cM R i).is:=by
 simp only [nth,l6,List.getD_eq_getElem?_getD,List.getElem?_map];cases R[i]? <;> rfl
theorem a8A {R:List bK} {i y:Nat} {r:bK} (hr:r.is=(nth cM R i).is++[y]):l6 (R.set i r)=xf (l6 R) i y:=by
 rw [aRf,hr,← aIV];rfl
section
variable {P:Program} {ops:Array Oper} {Q:Exit→Act→World→Prop} {rest:List Oper} {a:Act} {w w0:World}
variable {dst:Option Tmp} {ty T E:TypeId} {pos:String} {ak:Array Edge} {x y:Operand}
theorem aLO {L R3:List Chunk} {R:List bK} {j i b:Nat} {Tb:TypeId} (hS:aA w0 w (L++(R.map (bK.ch E)++(R3++[.aB b (.cells #[.int .i64 (i:Int)] Tb (0,0))])))) (ht:P.underlying T=some (.slice E)) (ky:(P.info? E).map (fun i=>(i.zero,i.size,i.bytes))=some (some (.int .i64 0),1,8)) (hj:j<R.length)
 (hx:a.eval x=.slice (nth cM R j).ad (nth cM R j).n (nth cM R j).c) (hy:a.eval y=.slice (some ⟨b,0,none⟩) 1 1) (hn:(nth cM R j).n≤100000000)
 (hk:∀ ad c w',aA w0 w' (L++((R.set j ⟨(nth cM R j).k,ad,(nth cM R j).n+1,c,(nth cM R j).is++[i]⟩).map (bK.ch E)++R3))→wpList P ops Q rest (a.put dst (.slice ad ((nth cM R j).n+1) c)) w') :
 wpList P ops Q (⟨dst,.call ⟨.builtin .append,#[x,y],#[T,T]⟩,ty,pos,ak,none⟩::rest) a w:=by
 have cU:aA w0 w ((L++R3)++((R.take j++nth cM R j::R.drop (j+1)).map (bK.ch E)++[.aB b (.cells #[.int .i64 (i:Int)] Tb (0,0))])):=by
  rw [← aRX hj];refine hS.perm ?_;rw [List.append_assoc];refine List.Perm.append_left L ?_;rw [← List.append_assoc,← List.append_assoc];exact List.Perm.append_right _ List.perm_append_comm
 refine aHT cU ht ky rfl hx hy hn (fun ad c w' fY=>hk ad c w' ?_);rw [aMP hj];rw [List.append_assoc] at fY;exact fY.perm (List.Perm.append_left L List.perm_append_comm)
end
def nO (w:World) (S:Nat→Prop) (v:Value) (I:List (List Nat)):Prop:=∃ R:List (Option Addr × Nat × Nat),R.length=I.length∧bN w S 1 v I.length (R.map sv)∧∀ i,i<I.length→jZ w S (sv (nth (none,0,0) R i)) (nth [] I i)
structure jb (w:World) (S:Nat→Prop) (s1 s2 s3 s4 s5:Option Addr × Nat × Nat) (f:iL):Prop where
 n:jZ w S (sv s1) f.N
 l:Ints w S (sv s2) f.L
 o:Ints w S (sv s3) f.O
 i:nO w S (sv s4) f.I
 a:nO w S (sv s5) f.A
theorem nO.grow {w w':World} {S S':Nat→Prop} {v:Value} {I:List (List Nat)} (h:nO w S v I) (hp:Pure w S w' S'):nO w' S' v I:=by
 obtain⟨R,h1,h2,h3⟩:=h;exact⟨R,h1,h2.grow hp,fun i hi=>(h3 i hi).grow hp⟩
theorem nO.move {w wr:World} {S:Nat→Prop} {v:Value} {I:List (List Nat)} (h:nO wr S v I) (hk:∀ k,S k→w.heap[k]? = wr.heap[k]?):nO w S v I:=by
 obtain⟨R,h1,h2,h3⟩:=h;exact⟨R,h1,h2.move hk,fun i hi=>(h3 i hi).move hk⟩
theorem nO.weaken {w:World} {S T:Nat→Prop} {v:Value} {I:List (List Nat)} (h:nO w S v I) (hs:∀ k,S k→T k):nO w T v I:=by
 obtain⟨R,h1,h2,h3⟩:=h;exact⟨R,h1,h2.weaken hs,fun i hi=>(h3 i hi).weaken hs⟩
theorem Ints.move {w wr:World} {S:Nat→Prop} {v:Value} {xs:List Int} (h:Ints wr S v xs) (hk:∀ k,S k→w.heap[k]? = wr.heap[k]?):Ints w S v xs:=⟨h.1.move hk,h.2⟩
theorem Ints.grow {w w':World} {S S':Nat→Prop} {v:Value} {xs:List Int} (h:Ints w S v xs) (hp:Pure w S w' S'):Ints w' S' v xs:=⟨h.1.grow hp,h.2⟩
theorem jb.grow {w w':World} {S S':Nat→Prop} {s1 s2 s3 s4 s5:Option Addr × Nat × Nat} {f:iL} (h:jb w S s1 s2 s3 s4 s5 f) (hp:Pure w S w' S'):jb w' S' s1 s2 s3 s4 s5 f:=⟨h.n.grow hp,h.l.grow hp,h.o.grow hp,h.i.grow hp,h.a.grow hp⟩
theorem jb.move {w wr:World} {S:Nat→Prop} {s1 s2 s3 s4 s5:Option Addr × Nat × Nat} {f:iL} (h:jb wr S s1 s2 s3 s4 s5 f) (hk:∀ k,S k→w.heap[k]? = wr.heap[k]?):jb w S s1 s2 s3 s4 s5 f:=⟨h.n.move hk,h.l.move hk,h.o.move hk,h.i.move hk,h.a.move hk⟩
theorem jb.weaken {w:World} {S T:Nat→Prop} {s1 s2 s3 s4 s5:Option Addr × Nat × Nat} {f:iL} (h:jb w S s1 s2 s3 s4 s5 f) (hs:∀ k,S k→T k):jb w T s1 s2 s3 s4 s5 f:=⟨h.n.weaken hs,h.l.weaken hs,h.o.weaken hs,h.i.weaken hs,h.a.weaken hs⟩
theorem jb.at {w0 w wr:World} {H:List Chunk} {F S:Nat→Prop} {s1 s2 s3 s4 s5:Option Addr × Nat × Nat} {f:iL} (h:jb wr S s1 s2 s3 s4 s5 f) (hS:aA w0 w (.aH F wr::H)) (hF:∀ k,S k→F k):jb w S s1 s2 s3 s4 s5 f:=h.move (hS.da hF)
theorem zh:(prog.info? 22).map (fun i=>(i.zero,i.size,i.bytes))=some (some (.slice none 0 0),1,24):=by kernel_rfl
theorem aTI (l:List Nat):rV (zs l)=zs (qt l):=by
 unfold rV qt zs;rw [List.map_mergeSort];intro a _ b _;simp
def upB (d:Gp):Bool:=decide (0<d.y) || (decide (d.y=0) && decide (0<d.x))
theorem aEu (d:Gp):upB d=true↔jE d:=by unfold upB jE;simp
def nR (es:List Ed) (L:List Nat):Nat:=(L.reverse.find? fun h=>upB (eh es h)).getD (nth 0 L (L.length - 1))
theorem a4T.eq {es:List Ed} {L:List Nat} {r:Nat} (h:a4T es L r):r=nR es L:=by
 unfold nR
 rcases h with ⟨k,hk,rfl,hu,hn⟩|⟨rfl,hn⟩
 ·have:(L.reverse.find? fun h=>upB (eh es h))=some (nth 0 L k):=by
   rw [List.find?_eq_some_iff_getElem];refine⟨(aEu _).2 hu,L.length - 1 - k,by simp;omega,?_,fun j hj=>?_⟩
   ·rw [List.getElem_reverse,bS 0 L k hk]
    congr 1;omega
   ·rw [List.getElem_reverse]
    have h1:=hn (L.length - 1 - j) (by omega) (by omega);rw [bS 0 L _ (by omega)] at h1;rw [Bool.not_eq_true',← Bool.not_eq_true];exact fun h2=>h1 ((aEu _).1 h2)
  rw [this];rfl
 ·have:(L.reverse.find? fun h=>upB (eh es h))=none:=by
   rw [List.find?_eq_none];intro x hx h2;rw [List.mem_reverse] at hx;obtain⟨q,hq,rfl⟩:=List.getElem_of_mem hx;have h1:=hn q hq;rw [bS 0 L q hq] at h1;exact h1 ((aEu _).1 h2)
  rw [this];rfl
theorem aIv {es:List Ed} {L:List Nat} (h:L≠[]):nR es L ∈ L:=by
 unfold nR;cases hf:L.reverse.find? fun h=>upB (eh es h) with
 | some x=>exact List.mem_reverse.1 (List.mem_of_find?_eq_some hf)
 | none =>
  have:0<L.length:=List.length_pos_iff.2 h;exact cQ 0 L _ (by omega)
theorem aTT {N:List Nat} (hp:jg N) {h:Nat} (hh:h<N.length) (hle:N.length≤1000000) (L:List Int) (fK:Int) (f6 b4 g cl cn gn:Nat) (v3 v4 v5:Value) {w0 w wr:World} {F:Nat→Prop} {R:List Chunk} (lO:L.length=N.length)
 (hS:aA w0 w (.aH F wr::.row (.slice (some ⟨gn,0,none⟩) N.length cn) 3 1 N.length (iv (zs N))::.aB f6 (.cells #[.slice (some ⟨gn,0,none⟩) N.length cn,.slice (some ⟨g,0,none⟩) L.length cl,v3,v4,v5] 37 (0,0))::.aB b4 (.cells #[.slice (some ⟨gn,0,none⟩) N.length cn] 22 (0,0))::.row (.slice (some ⟨g,0,none⟩) L.length cl) 3 1 L.length (iv L)::R)) :
 Calls prog 21 #[.int .i64 (h:Int),.int .i64 fK,.pointer (some ⟨f6,0,none⟩),.pointer (some ⟨b4,0,none⟩)] w fun e w'=>e=.returned (.int .i64 (ed N h:Int))∧aA w0 w' (.aH F wr::.row (.slice (some ⟨gn,0,none⟩) N.length cn) 3 1 N.length (iv (zs N))::.aB f6 (.cells #[.slice (some ⟨gn,0,none⟩) N.length cn,.slice (some ⟨g,0,none⟩) L.length cl,v3,v4,v5] 37 (0,0))::.aB b4 (.cells #[.slice (some ⟨gn,0,none⟩) N.length cn] 22 (0,0))::.row (.slice (some ⟨g,0,none⟩) L.length cl) 3 1 L.length (iv (lE L (et N h) fK))::R):=by
 have hP:∀ (x y a b c:Chunk),(x::y::a::b::c::R).Perm ((x::y::R)++[a,b,c]):=fun x y a b c =>
  List.Perm.cons _ (List.Perm.cons _ (List.perm_append_comm (l₁:=[a,b,c]) (l₂:=R)))
 have h1:=hS.perm (hP _ _ _ _ _).symm
 have hb:∀ x ∈ N,x≤9223372036854775807:=fun x hx=>by
  obtain⟨i,hi,rfl⟩:=List.getElem_of_mem hx;have:=hp.lt i hi;rw [bS 0 N i hi] at this;omega
 have hr:=h1.dn 1 rfl
 have hN:jZ w (Go.Hp.Rest w [.aB f6 (.cells #[.slice (some ⟨gn,0,none⟩) N.length cn,.slice (some ⟨g,0,none⟩) L.length cl,v3,v4,v5] 37 (0,0)),.aB b4 (.cells #[.slice (some ⟨gn,0,none⟩) N.length cn] 22 (0,0)),.row (.slice (some ⟨g,0,none⟩) L.length cl) 3 1 L.length (iv L)]) (.slice (some ⟨gn,0,none⟩) N.length cn) N :=
  ⟨by rw [vC];exact hr.weaken (fun k hk=>h1.aU9 (c:=.row (.slice (some ⟨gn,0,none⟩) N.length cn) 3 1 N.length (iv (zs N))) (by simp) hk),aAv hb⟩
 refine (aSc hp hh hle L fK f6 b4 g cl cn _ v3 v4 v5 w _ hN lO (aA.split h1)).mono ?_;rintro e w' ⟨rfl,fY⟩;exact⟨rfl,(aA.su h1 fY).perm (hP _ _ _ _ _)⟩
theorem a7r {N:List Nat} (hp:jg N) {M h:Nat} (hN:N.length=M) (hh:h<M) (hle:M≤1000000) (L:List Int) (hL:L.length=M) (fK:Int) (f6 b4 g cl cn gn:Nat) (v3 v4 v5:Value) {w0 w wr:World} {F:Nat→Prop} {R:List Chunk}
 (hS:aA w0 w (.aH F wr::.row (.slice (some ⟨gn,0,none⟩) M cn) 3 1 M (iv (zs N))::.aB f6 (.cells #[.slice (some ⟨gn,0,none⟩) M cn,.slice (some ⟨g,0,none⟩) M cl,v3,v4,v5] 37 (0,0))::.aB b4 (.cells #[.slice (some ⟨gn,0,none⟩) M cn] 22 (0,0))::.row (.slice (some ⟨g,0,none⟩) M cl) 3 1 M (iv L)::R)) :
 Calls prog 21 #[.int .i64 (h:Int),.int .i64 fK,.pointer (some ⟨f6,0,none⟩),.pointer (some ⟨b4,0,none⟩)] w fun e w'=>e=.returned (.int .i64 (ed N h:Int))∧aA w0 w' (.aH F wr::.row (.slice (some ⟨gn,0,none⟩) M cn) 3 1 M (iv (zs N))::.aB f6 (.cells #[.slice (some ⟨gn,0,none⟩) M cn,.slice (some ⟨g,0,none⟩) M cl,v3,v4,v5] 37 (0,0))::.aB b4 (.cells #[.slice (some ⟨gn,0,none⟩) M cn] 22 (0,0))::.row (.slice (some ⟨g,0,none⟩) M cl) 3 1 M (iv (lE L (et N h) fK))::R):=by
 have h0:=aTT hp (h:=h) (by omega) (by omega) L fK f6 b4 g cl cn gn v3 v4 v5 (w0:=w0) (w:=w) (wr:=wr) (F:=F) (R:=R) (by omega);rw [hN,hL] at h0;exact h0 hS
def yz (M k:Nat):List Int:=List.replicate k (-1)++List.replicate (M - k) 0
theorem aRo (M:Nat):yz M 0=List.replicate M 0:=by simp [yz]
theorem aPX (M:Nat):yz M M=List.replicate M (-1):=by simp [yz]
theorem aRr {M k:Nat} (hk:k<M):(yz M k).set k (-1)=yz M (k+1):=by
 obtain⟨d,rfl⟩:∃ d,M=k+1+d:=⟨M - k - 1,by omega⟩;unfold yz;rw [List.set_append_right _ _ (by simp)];have e1:k+1+d - k=d+1:=by omega
 have e2:k+1+d - (k+1)=d:=by omega
 rw [e1,e2,List.length_replicate,Nat.sub_self,List.replicate_succ,List.set_cons_zero,List.replicate_succ'];simp
theorem aA.aE8 {w0 w:World} {H:List Chunk} {ad:Option Addr} {T:TypeId} {k n c:Nat} {cs:List Value} (hS:aA w0 w H) (j:Nat) (hj:H[j]? = some (.row (.slice ad n c) T k n cs)) (hn:0<n):∃ g,ad=some ⟨g,0,none⟩:=by
 obtain⟨g,cur,h,_⟩:=hS.aCF j hj hn;exact⟨g,h⟩
section
variable {P:Program} {ops:Array Oper} {Q:Exit→Act→World→Prop} {rest:List Oper} {a:Act} {w w0:World}
variable {dst:Option Tmp} {ty T E:TypeId} {pos:String} {ak:Array Edge} {x y:Operand}
theorem aIs {H0:List Chunk} {RI RA:List bK} {j i b:Nat} {Tb:TypeId} (hS:aA w0 w ((H0++(RI.map (bK.ch E)++RA.map (bK.ch E)))++[.aB b (.cells #[.int .i64 (i:Int)] Tb (0,0))])) (ht:P.underlying T=some (.slice E)) (ky:(P.info? E).map (fun i=>(i.zero,i.size,i.bytes))=some (some (.int .i64 0),1,8)) (hj:j<RI.length)
 (hx:a.eval x=.slice (nth cM RI j).ad (nth cM RI j).n (nth cM RI j).c) (hy:a.eval y=.slice (some ⟨b,0,none⟩) 1 1) (hn:(nth cM RI j).n≤100000000)
 (hk:∀ ad c w',aA w0 w' (H0++((RI.set j ⟨(nth cM RI j).k,ad,(nth cM RI j).n+1,c,(nth cM RI j).is++[i]⟩).map (bK.ch E)++RA.map (bK.ch E)))→wpList P ops Q rest (a.put dst (.slice ad ((nth cM RI j).n+1) c)) w') :
 wpList P ops Q (⟨dst,.call ⟨.builtin .append,#[x,y],#[T,T]⟩,ty,pos,ak,none⟩::rest) a w :=
 aLO (R:=RI) (R3:=RA.map (bK.ch E)) (L:=H0) (by simpa only [List.append_assoc] using hS) ht ky hj hx hy hn hk
theorem aIU {H0:List Chunk} {RI RA:List bK} {j i b:Nat} {Tb:TypeId} (hS:aA w0 w ((H0++(RI.map (bK.ch E)++RA.map (bK.ch E)))++[.aB b (.cells #[.int .i64 (i:Int)] Tb (0,0))])) (ht:P.underlying T=some (.slice E)) (ky:(P.info? E).map (fun i=>(i.zero,i.size,i.bytes))=some (some (.int .i64 0),1,8)) (hj:j<RA.length)
 (hx:a.eval x=.slice (nth cM RA j).ad (nth cM RA j).n (nth cM RA j).c) (hy:a.eval y=.slice (some ⟨b,0,none⟩) 1 1) (hn:(nth cM RA j).n≤100000000)
 (hk:∀ ad c w',aA w0 w' (H0++(RI.map (bK.ch E)++(RA.set j ⟨(nth cM RA j).k,ad,(nth cM RA j).n+1,c,(nth cM RA j).is++[i]⟩).map (bK.ch E)))→wpList P ops Q rest (a.put dst (.slice ad ((nth cM RA j).n+1) c)) w') :
 wpList P ops Q (⟨dst,.call ⟨.builtin .append,#[x,y],#[T,T]⟩,ty,pos,ak,none⟩::rest) a w :=
 aLO (R:=RA) (R3:=[]) (L:=H0++RI.map (bK.ch E)) (by simpa only [List.append_assoc,List.nil_append] using hS) ht ky hj hx hy hn (fun ad c w' fY=>hk ad c w' (by simpa only [List.append_assoc,List.append_nil] using fY))
end
theorem aLG {N:List Nat} (hp:jg N) {h:Nat} (hh:h<N.length) (L:List Int) (hL:L.length=N.length) (f:Int):lE L (et N (ed N h)) f=lE L (et N h) f:=by
 refine yP 0 (by rw [zH,zH]) (fun k hk=>?_);rw [zH] at hk;rw [a2R _ _ _ (fun q hq=>by rw [hL];exact uO hp (a0R hp hh) hq),a2R _ _ _ (fun q hq=>by rw [hL];exact uO hp hh hq)];simp only [aFM hp hh]
def a09 (r:bK):bK:=⟨r.k,r.ad,r.n,r.c,qt r.is⟩
theorem aPY (R:List bK) (i:Nat):oc (R.set i (a09 (nth cM R i)))=oc R:=by
 rw [a56]
 by_cases hi:i<R.length
 ·refine List.ext_getElem? (fun j=>?_)
  rw [List.getElem?_set]
  split
  ·rename_i e;subst e
   rw [if_pos (by rw [a1O];exact hi),a2S hi];rfl
  ·rfl
 ·rw [List.set_eq_of_length_le (by rw [a1O];omega)]
def q9 (R:List bK) (i:Nat):List bK:=(R.take i).map a09++R.drop i
theorem aHl (R:List bK):q9 R 0=R:=by simp [q9]
theorem aJN (R:List bK) (i:Nat):(q9 R i).length=R.length:=by simp [q9];omega
theorem a9z {R:List bK} {i:Nat} (hi:i<R.length):nth cM (q9 R i) i=nth cM R i:=by
 unfold q9;rw [bS _ _ _ (by simp;omega),bS _ _ _ hi,List.getElem_append_right (by simp;omega)];simp [Nat.min_eq_left (Nat.le_of_lt hi)]
theorem aJz {R:List bK} {i:Nat} (hi:i<R.length):(q9 R i).set i (a09 (nth cM (q9 R i) i))=q9 R (i+1):=by
 rw [a9z hi];unfold q9;rw [List.set_append_right _ _ (by simp;omega)];have e1:i - ((R.take i).map a09).length=0:=by simp;omega
 rw [e1,List.drop_eq_getElem_cons hi,List.set_cons_zero,List.take_succ_eq_append_getElem hi,List.map_append,List.append_assoc,bS _ _ _ hi]
 rfl
theorem aJx (R:List bK):∀ i,i≤R.length→oc (q9 R i)=oc R
 | 0,_=>by rw [aHl]
 | i+1,h=>by rw [← aJz (by omega),aPY,aJx R i (by omega)]
theorem aUH (R:List bK):l6 (q9 R R.length)=(l6 R).map qt:=by
 unfold q9 l6;simp [a09,Function.comp_def]
theorem aNd {w0 w:World} {L R3:List Chunk} {R:List bK} {i:Nat} (hS:aA w0 w (L++(R.map (bK.ch 3)++R3))) (hi:i<R.length) (hn:(nth cM R i).n≤1000000) :
 Calls prog 24 #[.slice (nth cM R i).ad (nth cM R i).n (nth cM R i).c] w fun e w'=>e=.returned (.tuple #[])∧aA w0 w' (L++((R.set i (a09 (nth cM R i))).map (bK.ch 3)++R3)):=by
 have hj:(L++(R.map (bK.ch 3)++R3))[L.length+i]? = some (.row (.slice (nth cM R i).ad (nth cM R i).n (nth cM R i).c) 3 1 (nth cM R i).n (iv (zs (nth cM R i).is))):=by
  rw [List.getElem?_append_right (by omega),Nat.add_sub_cancel_left,List.getElem?_append_left (by simpa using hi),List.getElem?_map,List.getElem?_eq_getElem hi,bS _ _ _ hi]
  rfl
 refine (aWi (L.length+i) hS hj hn).mono ?_;rintro e w' ⟨he,h⟩;refine⟨he,?_⟩;rw [List.set_append_right _ _ (by omega),Nat.add_sub_cancel_left,List.set_append_left _ _ (by simpa using hi)] at h
 have e1:(R.map (bK.ch 3)).set i (.row (.slice (nth cM R i).ad (nth cM R i).n (nth cM R i).c) 3 1 (nth cM R i).n (iv (rV (zs (nth cM R i).is))))=(R.set i (a09 (nth cM R i))).map (bK.ch 3):=by
  rw [List.map_set,aTI];rfl
 rw [e1] at h;exact h
theorem aHd {w0 w:World} {L R3:List Chunk} {R:List bK} {v:Value} {k:Nat} {S':Nat→Prop} (hS:aA w0 w (L++(R.map (bK.ch 3)++R3))) (hk:R.length=k) (hv:bN w S' 1 v k (oc R)) (hr:∀ c ∈ R.map (bK.ch 3),∀ q,c.has q→S' q) (hb:∀ l ∈ l6 R,∀ y ∈ l,y≤1000000):nO w S' v (l6 R):=by
 refine⟨R.map fun r=>(r.ad,r.n,r.c),by simp [l6],?_,fun i hi=>?_⟩
 ·have e1:(R.map fun r=>(r.ad,r.n,r.c)).map sv=oc R:=by rw [List.map_map];rfl
  have e2:(l6 R).length=k:=by rw [← hk];simp [l6]
  rw [e1,e2];exact hv
 ·have mg:i<R.length:=by simpa [l6] using hi
  have hj:(L++(R.map (bK.ch 3)++R3))[L.length+i]? = some (.row (.slice (nth cM R i).ad (nth cM R i).n (nth cM R i).c) 3 1 (nth cM R i).n (iv (zs (nth cM R i).is))):=by
   rw [List.getElem?_append_right (by omega),Nat.add_sub_cancel_left,List.getElem?_append_left (by simpa using mg),List.getElem?_map,List.getElem?_eq_getElem mg,bS _ _ _ mg]
   rfl
  have h1:=hS.dn _ hj;have hl:(nth cM R i).n=(nth cM R i).is.length:=by have:=h1.1;rw [tK,vC] at this;omega
  have e3:nth (none,0,0) (R.map fun r=>(r.ad,r.n,r.c)) i=((nth cM R i).ad,(nth cM R i).n,(nth cM R i).c):=by
   rw [bS _ _ _ (by simpa using mg),bS _ _ _ mg];simp
  rw [e3,aIV];have hm:bK.ch 3 (nth cM R i) ∈ R.map (bK.ch 3):=List.mem_map.2 ⟨_,cQ cM R i mg,rfl⟩;refine⟨?_,aAv (fun y hy=>?_)⟩
  ·rw [vC,← hl]
   exact h1.weaken (fun q hq=>hr _ hm q hq)
  ·have:=hb (nth cM R i).is (List.mem_map.2 ⟨_,cQ cM R i mg,rfl⟩) y hy
   omega
theorem aN8 {w0 w wc:World} {F S0 S1:Nat→Prop} {L:List Chunk} {RI RA:List bK} {g g2 go gi ga c co ci ca M k:Nat} {f:iL} {m n:Nat} {fB:Nat→Nat} {fh:Nat→Bool}
 (hS:aA w0 w (.aH F wc::(L++([.row (.slice (some ⟨g,0,none⟩) M c) 3 1 M (iv (zs f.N)),.row (.slice (some ⟨g2,0,none⟩) M M) 3 1 M (iv f.L),.row (.slice (some ⟨go,0,none⟩) k co) 3 1 k (iv f.O),.row (.slice (some ⟨gi,0,none⟩) k ci) 22 1 k (oc RI),.row (.slice (some ⟨ga,0,none⟩) k ca) 22 1 k (oc RA)]++(RI.map (bK.ch 3)++RA.map (bK.ch 3))))))
 (hO:∀ k,Old w0 k→F k) (hF:∀ k,S1 k→F k) (hp:Hp.Pure w0 S0 wc S1) (hg:tZ m n fB fh f) (hM:2*m=M) (hk:f.O.length=k) (zM:RI.length=k) (yQ:RA.length=k) (ur:l6 RI=f.I) (vB:l6 RA=f.A) (hM6:M≤60000) (hn:n≤65536) :
 ∃ S',Hp.Pure w0 S0 w S'∧jb w S' (some ⟨g,0,none⟩,M,c) (some ⟨g2,0,none⟩,M,M) (some ⟨go,0,none⟩,k,co) (some ⟨gi,0,none⟩,k,ci) (some ⟨ga,0,none⟩,k,ca) f:=by
 obtain⟨R5,hR5⟩:∃ R5:List Chunk,R5=[.row (.slice (some ⟨g,0,none⟩) M c) 3 1 M (iv (zs f.N)),.row (.slice (some ⟨g2,0,none⟩) M M) 3 1 M (iv f.L),.row (.slice (some ⟨go,0,none⟩) k co) 3 1 k (iv f.O),.row (.slice (some ⟨gi,0,none⟩) k ci) 22 1 k (oc RI),.row (.slice (some ⟨ga,0,none⟩) k ca) 22 1 k (oc RA)]:=⟨_,rfl⟩;rw [← hR5] at hS;have hP:=hS.aEE hO hF hp;refine⟨_,hP,?_⟩;obtain⟨S',fY⟩:∃ S':Nat→Prop,S'=fun q=>S1 q∨∃ c ∈ R5++(RI.map (bK.ch 3)++RA.map (bK.ch 3)),c.has q:=⟨_,rfl⟩
 rw [← fY];have jM:∀ c ∈ R5++(RI.map (bK.ch 3)++RA.map (bK.ch 3)),∀ q,c.has q→S' q:=fun c hc q hq=>by rw [fY];exact .inr ⟨c,hc,hq⟩
 have sl:∀ {v:Value} {T:TypeId} {n:Nat} {cs:List Value},Chunk.row v T 1 n cs ∈ R5→bN w S' 1 v n cs:=fun {v T n cs} hm=>by
  have gv:Chunk.row v T 1 n cs ∈ R5++(RI.map (bK.ch 3)++RA.map (bK.ch 3)):=List.mem_append_left _ hm;exact (bN.ofRow (hS.ok _ (List.mem_cons_of_mem _ (List.mem_append_right _ gv)))).weaken (fun q hq=>jM _ gv q hq)
 have g1:=sl (v:=.slice (some ⟨g,0,none⟩) M c) (T:=3) (n:=M) (cs:=iv (zs f.N)) (by rw [hR5];exact bW (i:=0) rfl);have g2':=sl (v:=.slice (some ⟨g2,0,none⟩) M M) (T:=3) (n:=M) (cs:=iv f.L) (by rw [hR5];exact bW (i:=1) rfl);have g3:=sl (v:=.slice (some ⟨go,0,none⟩) k co) (T:=3) (n:=k) (cs:=iv f.O) (by rw [hR5];exact bW (i:=2) rfl);have g4:=sl (v:=.slice (some ⟨gi,0,none⟩) k ci) (T:=22) (n:=k) (cs:=oc RI) (by rw [hR5];exact bW (i:=3) rfl);have g5:=sl (v:=.slice (some ⟨ga,0,none⟩) k ca) (T:=22) (n:=k) (cs:=oc RA) (by rw [hR5];exact bW (i:=4) rfl);have hkb:k≤60001:=by have:=hg.aAy;omega
 refine⟨⟨?_,aAv (fun y hy=>?_)⟩,⟨?_,fun y hy=>?_⟩,⟨?_,fun y hy=>?_⟩,?_,?_⟩
 ·rw [vC,hg.aFC,hM];exact g1
 ·obtain⟨i,hi,rfl⟩:=List.getElem_of_mem hy
  have:=hg.perm.lt i hi;rw [bS 0 _ i hi,hg.aFC] at this;omega
 ·rw [hg.a2I,hM];exact g2'
 ·obtain⟨i,hi,rfl⟩:=List.getElem_of_mem hy
  obtain⟨j,hj,e⟩:=hg.lr i (by rw [← hg.a2I];exact hi);rw [bS 0 _ i hi] at e;unfold bQ;omega
 ·rw [hk];exact g3
 ·obtain⟨i,hi,rfl⟩:=List.getElem_of_mem hy
  by_cases h0:i=0
  ·subst h0
   have:=hg.o0;rw [bS 0 _ 0 hi] at this;unfold bQ;omega
  ·obtain⟨q,e,hq,_⟩:=hg.on i (by omega) hi
   rw [bS 0 _ i hi] at e;unfold bQ;omega
 ·rw [← ur]
  have cK:aA w0 w ((.aH F wc::L++R5)++(RI.map (bK.ch 3)++RA.map (bK.ch 3))):=by simpa only [List.cons_append,List.append_assoc] using hS
  refine aHd cK zM g4 (fun c hc q hq=>jM c (List.mem_append_right _ (List.mem_append_left _ hc)) q hq) (fun l hl y hy=>?_);rw [ur] at hl;obtain⟨i,hi,rfl⟩:=List.getElem_of_mem hl;rw [hg.vA] at hi;have:=(hg.im i hi y (by rw [bS [] _ i (by rw [hg.vA];exact hi)];exact hy)).1;omega
 ·rw [← vB]
  have cK:aA w0 w ((.aH F wc::L++R5++RI.map (bK.ch 3))++(RA.map (bK.ch 3)++[])):=by simpa only [List.cons_append,List.append_assoc,List.append_nil] using hS
  refine aHd cK yQ g5 (fun c hc q hq=>jM c (List.mem_append_right _ (List.mem_append_right _ hc)) q hq) (fun l hl y hy=>?_);rw [vB] at hl;obtain⟨i,hi,rfl⟩:=List.getElem_of_mem hl;rw [hg.vY] at hi;have:=hg.am i hi y (by rw [bS [] _ i (by rw [hg.vY];exact hi)];exact hy);omega
theorem aPE {w0 w:World} {H T:List Chunk} (h:aA w0 w (H++T)) (is:List Nat) (hp:is.isPerm (List.range H.length)=true):aA w0 w (is.filterMap (fun i=>H[i]?)++T):=by
 refine h.perm (List.Perm.append_right T ?_);have h1:=List.isPerm_iff.1 hp;have h2:=h1.filterMap (fun i=>H[i]?);rw [aFa] at h2;exact h2
end Go.Hp
