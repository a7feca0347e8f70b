/- Texts for the walk of the law: KB. -/
import Derived.Test.YtihpoboahbpaiaaGreatQ01
set_option maxRecDepth 100000
set_option maxHeartbeats 16000000
set_option linter.unusedVariables false
set_option linter.unusedSimpArgs false
namespace Go.Hp
open Go
section
variable {P:Program} {ops:Array Oper} {Q:Exit→Act→World→Prop} {md:Region.Mode} {C:World→Prop} {M:List Nat}
theorem wpOp_over {j:Nat} {oj:Oper} {d:Tmp} {v:Value} (hj:ops[j]? = some oj) (hlook:d ∉ oj.looksAt ops) (hdst:oj.dst≠some d) (hsj:∀ cs b,oj.op≠.select cs b) (hQ:∀ c a w,¬ Q (.panic c) a w)
 {K K':Act→World→Prop} {a:Act} {w:World} (h:wpOp P ops Q j K a w) (hK:∀ a' w',K a' w'→K' (a'.put (some d) v) w'):wpOp P ops Q j K' (a.put (some d) v) w:=by
 have hl:∀ d',some d=some d'→d' ∉ oj.looksAt ops:=fun d' e=>by cases e;exact hlook
 have hc:∀ d',some d=some d'→oj.dst≠some d':=fun d' e=>by cases e;exact hdst
 unfold wpOp at *;simp only [hj] at *;rw [wanted_put oj a (some d) v hl]
 split
 ·rename_i hw
  rw [if_pos hw] at h
  rcases h with h|⟨hasks,hlets⟩
  case inr=>exact .inr ⟨by unfold Oper.asks at *;rw [execOp_put oj hsj a (some d) v hl];exact hasks,hlets⟩
  refine .inl ?_;unfold Oper.wp at *;rw [execOp_put oj hsj a (some d) v hl];generalize (execOp a.eval oj).run P w=r at *;cases r with
  | ok n w' =>
   cases n <;> simp only [Oper.upon] at h ⊢
   case value u=>rw [Act.put_comm a v u hc];exact hK _ _ h
   case skip=>rw [Act.put_comm a v undef hc];exact hK _ _ h
   case defer df=>rw [Act.put_defers,Act.put_comm _ v undef hc];exact hK _ _ h
   case enter f args =>
    refine Calls.mono h fun e w'' he=>?_
    cases e with
    | returned u=>dsimp only at he ⊢;rw [Act.put_comm a v u hc];exact hK _ _ he
    | panicked c=>exact absurd he (hQ _ _ _)
    | outgrown=>exact he
   case row row args=>exact Rows.mono h fun u w'' he=>by rw [Act.put_comm a v u hc];exact hK _ _ he
  | halt x w' =>
   cases x <;> simp only [Oper.upon] at h ⊢ <;> first|exact absurd h (hQ _ _ _)
 ·rename_i hw
  rw [if_neg hw] at h;rw [Act.put_comm a v undef hc];exact hK _ _ h
structure Box where
 i:Nat
 t:Tmp
 v:Nat→Value
 o:Obj
def Box.blk (p:Box × Nat):Chunk:=.blk p.2 p.1.o
def over (a:Act) (L:List (Box × Nat)):Act:=L.foldl (fun a p=>a.put (some p.1.t) (p.1.v p.2)) a
theorem over_snoc (a:Act) (L:List (Box × Nat)) (p:Box × Nat):over a (L++[p])=(over a L).put (some p.1.t) (p.1.v p.2):=by simp [over,List.foldl_append]
theorem over_put (a:Act) (d:Option Tmp) (v:Value):∀ (L:List (Box × Nat)),(∀ p ∈ L,d≠some p.1.t)→(over a L).put d v=over (a.put d v) L
 | [],_=>rfl
 | p::L,h=>by
  show (over (a.put (some p.1.t) (p.1.v p.2)) L).put d v=over ((a.put d v).put (some p.1.t) (p.1.v p.2)) L;rw [over_put _ d v L (fun q hq=>h q (by simp [hq])),Act.put_comm a (p.1.v p.2) v (fun d' e=>by cases e;exact h p (by simp))]
theorem over_perm {L L':List (Box × Nat)} (h:L.Perm L'):∀ (a:Act),(L.map (fun p=>p.1.t)).Nodup→over a L=over a L':=by
 induction h with
 | nil=>intro a _;rfl
 | cons x _ ih =>
  intro a hn;simp only [List.map_cons,List.nodup_cons] at hn;exact ih _ hn.2
 | swap x y l =>
  intro a hn;simp only [List.map_cons,List.nodup_cons,List.mem_cons,not_or] at hn;show over ((a.put (some y.1.t) _).put (some x.1.t) _) l=over ((a.put (some x.1.t) _).put (some y.1.t) _) l;rw [Act.put_comm a (y.1.v y.2) (x.1.v x.2) (fun d e h=>by cases e;exact hn.1.1 (by injection h with h;exact h.symm))]
 | trans h1 h2 ih1 ih2 =>
  intro a hn;rw [ih1 a hn,ih2 a ((h1.map _).nodup_iff.1 hn)]
theorem wpOp_overs {j:Nat} {oj:Oper} (hj:ops[j]? = some oj) (hsj:∀ cs b,oj.op≠.select cs b) (hQ:∀ c a w,¬ Q (.panic c) a w) {w:World}:∀ (L:List (Box × Nat)) {K K':Act→World→Prop} {a:Act},(∀ p ∈ L,p.1.t ∉ oj.looksAt ops∧oj.dst≠some p.1.t) →
 wpOp P ops Q j K a w→(∀ a' w',K a' w'→K' (over a' L) w')→wpOp P ops Q j K' (over a L) w
 | [],_,_,_,_,h,hK=>wpOp_mono (fun a' w' h'=>hK a' w' h') h
 | p::L,K,K',a,hp,h,hK=>by
  have h1:=wpOp_over (v:=p.1.v p.2) (K':=fun a' w'=>∃ a0,a'=a0.put (some p.1.t) (p.1.v p.2)∧K a0 w') hj (hp p (by simp)).1 (hp p (by simp)).2 hsj hQ h (fun a' w' h'=>⟨a',rfl,h'⟩);exact wpOp_overs hj hsj hQ L (a:=a.put (some p.1.t) (p.1.v p.2)) (fun q hq=>hp q (by simp [hq])) h1 (fun a' w' ⟨a0,e,h'⟩=>by subst e;exact hK a0 w' h')
theorem yields_overs {oi:Oper} {v:Value} (hsi:∀ cs b,oi.op≠.select cs b) {S:World→Prop}:∀ (L:List (Box × Nat)) {a:Act},(∀ p ∈ L,p.1.t ∉ oi.looksAt ops)→YieldsIf P ops S oi v a→YieldsIf P ops S oi v (over a L)
 | [],_,_,h=>h
 | p::L,a,hp,h=>yields_overs hsi L (fun q hq=>hp q (by simp [hq])) (h.of_same (execOp_put oi hsi a (some p.1.t) _ (fun d e=>by cases e;exact hp p (by simp))) (wanted_put oi a (some p.1.t) _ (fun d e=>by cases e;exact hp p (by simp))))
structure Stable (J:List Chunk→World→Prop):Prop where
 alloc:∀ B w o,J B w→J (B++[.blk w.heap.size o]) (w.alloc o)
 perm:∀ B B' w,B'.Perm B→J B w→J B' w
def wpPre (P:Program) (ops:Array Oper) (Q:Exit→Act→World→Prop) (C:World→Prop) (A:List Box) (E:Act→World→Prop):List Mv→Act→(List Chunk→World→Prop)→Prop
 | [],a,J=>∀ (L:List (Box × Nat)) (w:World),L.map (·.1)=A→J (L.map Box.blk) w→E (over a L) w
 | .p i::s,a,J=>∃ o v,ops[i]? = some o∧YieldsIf P ops (fun _=>True) o v a∧wpPre P ops Q C A E s (a.put o.dst v) J
 | .r i::s,a,J=>∃ o v,ops[i]? = some o∧YieldsIf P ops C o v a∧wpPre P ops Q C A E s (a.put o.dst v) J
 | .e i::s,a,J=>∀ B w,J B w→wpOp P ops (NoPanic Q) i (fun a' w'=>∃ J',J' B w'∧Stable J'∧(∀ B w,J' B w→C w)∧wpPre P ops Q C A E s a' J') a w
 | .m i::s,a,J=>False
def looksOk (ops:Array Oper) (A:List Box) (i:Nat):Bool :=
 match ops[i]? with
 | some o=>A.all fun p=>!(o.looksAt ops).contains p.t && o.dst != some p.t
 | none=>false
def noBox (md:Region.Mode) (ops:Array Oper) (A:List Box) (i:Nat):Bool :=
 match ops[i]? with
 | some o=>o.after.toList.all fun e=>!Region.binds md e || A.all fun p=>p.i != e.on
 | none=>false
def boxOk (md:Region.Mode) (ops:Array Oper) (M:List Nat) (A:List Box) (s2:List Mv):List Mv→Array Bool→Array Bool→Bool
 | [],l0,lA=>(A.all fun p=>Region.ready md ops (lA.setIfInBounds p.i false) == [p.i]) && schedOk md ops M s2 lA
 | .p i::s,l0,lA=>(Region.ready md ops lA).contains i && noBox md ops A i && Region.free md ops l0 i && !M.contains i && looksOk ops A i && boxOk md ops M A s2 s (l0.setIfInBounds i true) (lA.setIfInBounds i true)
 | .r i::s,l0,lA=>(Region.ready md ops lA).contains i && noBox md ops A i && Region.free md ops l0 i && !M.contains i && (M.all fun m=>(anc md ops ops.size m).contains i) && looksOk ops A i && boxOk md ops M A s2 s (l0.setIfInBounds i true) (lA.setIfInBounds i true)
 | .e i::s,l0,lA=>(Region.ready md ops lA == [i]) && noBox md ops A i && !M.contains i && looksOk ops A i && boxOk md ops M A s2 s (l0.setIfInBounds i true) (lA.setIfInBounds i true)
 | .m _::_,_,_=>false
def boxesFree (md:Region.Mode) (ops:Array Oper) (M:List Nat) (A:List Box) (lA:Array Bool):Bool :=
 A.all fun p=>!M.contains p.i && decide (p.i<lA.size) && match ops[p.i]? with
  | some o=>o.after.toList.all fun e=>!Region.binds md e
  | none=>false
theorem wpOp_box {i:Nat} {t:Tmp} {o:Oper} {v:Value} {ob:Obj} {K:Act→World→Prop} {a:Act} {w:World} (ho:ops[i]? = some o) (hd:o.dst=some t) (hg:o.guard=none) (hr:(execOp a.eval o).run P w=.ok (.value v) (w.alloc ob))
 (h:K (a.put (some t) v) (w.alloc ob)):wpOp P ops Q i K a w:=by
 unfold wpOp;simp only [ho];rw [if_pos (by simp [Region.wanted,hg])]
 left
 unfold Oper.wp;rw [hr];simp only [Oper.upon];rw [hd];exact h
theorem zip_perm {L:List (Box × Nat)}:∀ {A:List Box},(L.map (·.1)).Perm A→∃ L':List (Box × Nat),L'.map (·.1)=A∧L'.Perm L:=by
 intro A
 induction A generalizing L with
 | nil =>
  intro h;have:L=[]:=by simpa using h.eq_nil
  exact⟨[],rfl,by rw [this]⟩
 | cons x A ih =>
  intro h;have hx:x ∈ L.map (·.1):=h.symm.subset (by simp);obtain⟨p,hp,rfl⟩:=List.mem_map.1 hx;obtain⟨l1,l2,rfl⟩:=List.append_of_mem hp
  have h2:((l1++l2).map (·.1)).Perm A:=by
   have h3:(p.1::(l1++l2).map (·.1)).Perm (p.1::A):=by
    refine List.Perm.trans ?_ h;simp only [List.map_append,List.map_cons];exact List.perm_middle.symm
   exact h3.cons_inv
  obtain⟨L',e,hL⟩:=ih h2;exact⟨p::L',by simp [e],(hL.cons p).trans List.perm_middle.symm⟩
theorem filter_take {p:Box}:∀ {pend:List Box},p ∈ pend→(pend.map (·.i)).Nodup→(pend.filter (fun q=>q.i != p.i)++[p]).Perm pend
 | [],h,_=>by cases h
 | q::l,h,hn=>by
  simp only [List.map_cons,List.nodup_cons] at hn
  rcases List.mem_cons.1 h with e|h
  ·subst e
   have hf:(p::l).filter (fun q=>q.i != p.i)=l:=by
    rw [List.filter_cons_of_neg (by simp)];rw [List.filter_eq_self];intro r hr;simp only [bne_iff_ne,ne_eq];intro e;exact hn.1 (List.mem_map.2 ⟨r,hr,e⟩)
   rw [hf];exact List.perm_append_comm (l₁:=l) (l₂:=[p])
  ·have hne:q.i≠p.i:=fun e=>hn.1 (by rw [e];exact List.mem_map.2 ⟨p,h,rfl⟩)
   rw [List.filter_cons_of_pos (by simpa using hne)];exact (filter_take h hn.2).cons q
variable (A:List Box)
structure BoxesOk (P:Program) (ops:Array Oper) (A:List Box):Prop where
 op:∀ p ∈ A,∃ o,ops[p.i]? = some o∧o.dst=some p.t∧o.guard=none∧∀ (a:Act) (w:World),(execOp a.eval o).run P w=.ok (.value (p.v w.heap.size)) (w.alloc p.o)
 i:(A.map (·.i)).Nodup
 t:(A.map (·.t)).Nodup
theorem looksOk_spec {A:List Box} {i:Nat} {o:Oper} (ho:ops[i]? = some o) (h:looksOk ops A i=true):∀ p ∈ A,p.t ∉ o.looksAt ops∧o.dst≠some p.t:=by
 intro p hp;simp only [looksOk,ho,List.all_eq_true,Bool.and_eq_true,Bool.not_eq_true',bne_iff_ne,ne_eq] at h;obtain⟨h1,h2⟩:=h p hp;exact⟨by simpa using h1,h2⟩
structure Up (A:List Box) (listed l0 lA:Array Bool) (T:List Nat):Prop where
 s0:l0.size=listed.size
 sA:lA.size=listed.size
 up:∀ j,listed.getD j true=true↔l0.getD j true=true∨j ∈ T
 all:∀ j,lA.getD j true=true↔l0.getD j true=true∨∃ p ∈ A,p.i=j
 sub:∀ j ∈ T,∃ p ∈ A,p.i=j
 no0:∀ p ∈ A,l0.getD p.i true=false
theorem getD_tf {l:Array Bool} {j:Nat} (h:j<l.size):l.getD j false=l.getD j true:=by simp [h]
theorem getD_set' {l:Array Bool} {i j:Nat}:(l.setIfInBounds i true).getD j true=true↔l.getD j true=true∨j=i:=by
 by_cases h:i=j
 ·subst h
  rcases Nat.lt_or_ge i l.size with h'|h'
  ·simp [h']
  ·simp [Array.getElem?_eq_none h']
 ·rw [getD_set_ne true h];simp [Ne.symm h]
theorem Up.move {A:List Box} {listed l0 lA:Array Bool} {T:List Nat} (h:Up A listed l0 lA T) (i:Nat) (hi:∀ p ∈ A,p.i≠i):Up A (listed.setIfInBounds i true) (l0.setIfInBounds i true) (lA.setIfInBounds i true) T:=by
 refine⟨by simpa using h.s0,by simpa using h.sA,fun j=>?_,fun j=>?_,h.sub,fun p hp=>by rw [getD_set_ne true (Ne.symm (hi p hp))];exact h.no0 p hp⟩
 ·rw [getD_set',getD_set',h.up]
  constructor
  ·rintro ((h|h)|h)
   ·exact .inl (.inl h)
   ·exact .inr h
   ·exact .inl (.inr h)
  ·rintro ((h|h)|h)
   ·exact .inl (.inl h)
   ·exact .inr h
   ·exact .inl (.inr h)
 ·rw [getD_set',getD_set',h.all]
  constructor
  ·rintro ((h|h)|h)
   ·exact .inl (.inl h)
   ·exact .inr h
   ·exact .inl (.inr h)
  ·rintro ((h|h)|h)
   ·exact .inl (.inl h)
   ·exact .inr h
   ·exact .inl (.inr h)
theorem Up.box {A:List Box} {listed l0 lA:Array Bool} {T:List Nat} (h:Up A listed l0 lA T) {p:Box} (hp:p ∈ A):Up A (listed.setIfInBounds p.i true) l0 lA (T++[p.i]):=by
 refine⟨by simpa using h.s0,by simpa using h.sA,fun j=>?_,h.all,fun j hj=>?_,h.no0⟩
 ·rw [getD_set',h.up,List.mem_append,List.mem_singleton,or_assoc]
 ·rcases List.mem_append.1 hj with hj|hj
  ·exact h.sub j hj
  ·exact⟨p,hp,(List.mem_singleton.1 hj).symm⟩
theorem Up.false0 {A:List Box} {listed l0 lA:Array Bool} {T:List Nat} (h:Up A listed l0 lA T) {j:Nat} (hj:listed.getD j true=false):l0.getD j true=false:=by
 cases hc:l0.getD j true with
 | false=>rfl
 | true=>rw [(h.up j).2 (.inl hc)] at hj;cases hj
theorem Up.toA {A:List Box} {listed l0 lA:Array Bool} {T:List Nat} (h:Up A listed l0 lA T) {j:Nat} (hj:listed.getD j true=true):lA.getD j true=true:=by
 rcases (h.up j).1 hj with h1|h1
 ·exact (h.all j).2 (.inl h1)
 ·exact (h.all j).2 (.inr (h.sub j h1))
theorem lt_of_listed {l:Array Bool} {j:Nat} (h:l.getD j false=true):j<l.size:=by
 rcases Nat.lt_or_ge j l.size with h'|h'
 ·exact h'
 ·simp [Array.getElem?_eq_none h'] at h
theorem Up.readyA {A:List Box} {listed l0 lA:Array Bool} {T:List Nat} (h:Up A listed l0 lA T) {j:Nat} (hr:j ∈ Region.ready md ops listed) (hn:∀ p ∈ A,p.i≠j):j ∈ Region.ready md ops lA:=by
 obtain⟨h1,o,ho,h2⟩:=mem_ready.1 hr;refine mem_ready.2 ⟨?_,o,ho,fun e he hb=>?_⟩
 ·cases hc:lA.getD j true with
  | false=>rfl
  | true =>
   rcases (h.all j).1 hc with h3|⟨p,hp,e⟩
   ·rw [(h.up j).2 (.inl h3)] at h1;cases h1
   ·exact absurd e (hn p hp)
 ·have h3:=h2 e he hb
  have h4:=lt_of_listed h3;rw [getD_tf h4] at h3;rw [getD_tf (by rw [h.sA];exact h4)];exact h.toA h3
theorem Up.readyB {A:List Box} {listed l0 lA:Array Bool} {T:List Nat} (h:Up A listed l0 lA T) {j:Nat} (hr:j ∈ Region.ready md ops listed) (hn:∀ p ∈ A,p.i≠j) {p:Box} (hpl:listed.getD p.i true=false):j ∈ Region.ready md ops (lA.setIfInBounds p.i false):=by
 obtain⟨h0,_⟩:=mem_ready.1 hr;obtain⟨h1,o,ho,h2⟩:=mem_ready.1 (h.readyA hr hn);obtain⟨_,o',ho',h2'⟩:=mem_ready.1 hr;obtain rfl:=Option.some.inj (ho.symm.trans ho')
 have hset:∀ {k:Nat} {d:Bool},k≠p.i→(lA.setIfInBounds p.i false).getD k d=lA.getD k d:=fun hk=>by
  simp [Array.getElem?_setIfInBounds,Ne.symm hk]
 by_cases hjp:j=p.i
 ·subst hjp
  refine mem_ready.2 ⟨?_,o,ho,fun e he hb=>?_⟩
  ·have hlt:p.i<lA.size:=by
    rcases Nat.lt_or_ge p.i listed.size with h5|h5
    ·rw [h.sA];exact h5
    ·simp [Array.getElem?_eq_none h5] at hpl
   simp [hlt]
  ·have h3:=h2' e he hb
   have hne:e.on≠p.i:=fun e'=>by
    have h4:=lt_of_listed h3;rw [getD_tf h4,e',hpl] at h3;cases h3
   rw [hset hne];exact h2 e he hb
 ·refine mem_ready.2 ⟨by rw [hset hjp];exact h1,o,ho,fun e he hb=>?_⟩
  have h3:=h2' e he hb
  have hne:e.on≠p.i:=fun e'=>by
   have h4:=lt_of_listed h3;rw [getD_tf h4,e',hpl] at h3;cases h3
  rw [hset hne];exact h2 e he hb
theorem Up.ready {A:List Box} {listed l0 lA:Array Bool} {T:List Nat} (h:Up A listed l0 lA T) {j:Nat} (hr:j ∈ Region.ready md ops lA) (hn:noBox md ops A j=true):j ∈ Region.ready md ops listed:=by
 obtain⟨h1,o,ho,h2⟩:=mem_ready.1 hr;simp only [noBox,ho,List.all_eq_true,Bool.or_eq_true,Bool.not_eq_true',bne_iff_ne,ne_eq] at hn;refine mem_ready.2 ⟨?_,o,ho,fun e he hb=>?_⟩
 ·cases hc:listed.getD j true with
  | false=>rfl
  | true=>rw [h.toA hc] at h1;cases h1
 ·have h3:=h2 e he hb
  have h4:=lt_of_listed h3;rw [getD_tf h4] at h3;rw [getD_tf (by rw [← h.sA];exact h4)]
  rcases (h.all e.on).1 h3 with h5|⟨p,hp,e'⟩
  ·exact (h.up e.on).2 (.inl h5)
  ·rcases hn e (by simpa using he) with h6|h6
   ·rw [hb] at h6;cases h6
   ·exact absurd e' (h6 p hp)
theorem free_of {listed l0:Array Bool} {i:Nat} {oi:Oper} (hi:ops[i]? = some oi) (hf:Region.free md ops l0 i=true) (hl:∀ j,listed.getD j true=false→l0.getD j true=false) :
 ∀ j oj,ops[j]? = some oj→j≠i→listed.getD j true=false→(∀ e ∈ oj.after,Region.binds md e=true→e.on≠i)→oi.apart ops oj=true :=
 fun j oj hj hne hun hno=>Region.free_spec hi hf j oj hj hne (hl j hun) hno
theorem wpG_of_box {A:List Box} {s2:List Mv} (hA:BoxesOk P ops A) (hsel:Region.noSelect ops=true):∀ (n:Nat) (s1:List Mv) (listed l0 lA:Array Bool) (pend:List Box) (L:List (Box × Nat)) (a:Act) (w:World) (J:List Chunk→World→Prop),
 n=s1.length+pend.length→boxOk md ops M A s2 s1 l0 lA=true→boxesFree md ops M A lA=true→Up A listed l0 lA (L.map (·.1.i))→Closed md ops listed→(L.map (·.1)++pend).Perm A→J (L.map Box.blk) w→Stable J→(∀ B w,J B w→C w) →
 wpPre P ops Q C A (wpSched P ops (NoPanic Q) C s2) s1 a J→wpG P md ops (NoPanic Q) M C (n+s2.length) listed (over a L) w:=by
 have hQ:∀ c a w,¬ NoPanic Q (.panic c) a w:=fun _ _ _ h=>h
 intro n
 induction n with
 | zero =>
  intro s1 listed l0 lA pend L a w J hn hok hbf hup hcl hL hJ hst hJC hpre;have e1:s1=[]:=List.length_eq_zero_iff.1 (by omega);have e2:pend=[]:=List.length_eq_zero_iff.1 (by omega);subst e1 e2;simp only [boxOk,Bool.and_eq_true] at hok;rw [List.append_nil] at hL;obtain⟨L',e,hp⟩:=zip_perm hL
  have hn:(L.map (fun p=>p.1.t)).Nodup:=by
   have h1:((L.map (·.1)).map (·.t)).Nodup:=((hL.map _).nodup_iff).2 hA.t
   simpa [List.map_map,Function.comp_def] using h1
  rw [over_perm hp.symm a hn];have h2:=hpre L' w e (hst.perm _ _ _ (hp.map _) hJ)
  have hl:listed=lA:=by
   apply Array.ext hup.sA.symm;intro j h1 h2;have h3:=hup.up j;have h4:=hup.all j
   have h5:j ∈ L.map (·.1.i)↔∃ p ∈ A,p.i=j:=by
    have h6:(L.map (·.1.i)).Perm (A.map (·.i)):=by
     have:=hL.map (·.i)
     simpa [List.map_map,Function.comp_def] using this
    rw [h6.mem_iff,List.mem_map]
   have h7:listed.getD j true=true↔lA.getD j true=true:=by rw [h3,h4,h5]
   simp only [Array.getD_eq_getD_getElem?,Array.getElem?_eq_getElem h1,Array.getElem?_eq_getElem h2,Option.getD_some] at h7;cases ha:listed[j] <;> cases hb:lA[j] <;> simp_all
  subst hl
  simpa using wpG_of_sched hsel hQ s2 listed _ w hok.2 hcl (fun _=>hJC _ _ hJ) h2
 | succ n ih =>
  have lay:∀ (s1:List Mv) (listed l0 lA:Array Bool) (pend:List Box) (L:List (Box × Nat)) (a:Act) (w:World) (J:List Chunk→World→Prop) (p:Box),p ∈ pend→p.i ∈ Region.ready md ops listed →
   boxOk md ops M A s2 s1 l0 lA=true→boxesFree md ops M A lA=true→Up A listed l0 lA (L.map (·.1.i))→Closed md ops listed→(L.map (·.1)++pend).Perm A→J (L.map Box.blk) w→Stable J→(∀ B w,J B w→C w) →
   wpPre P ops Q C A (wpSched P ops (NoPanic Q) C s2) s1 a J→n+1=s1.length+pend.length →
   wpOp P ops (NoPanic Q) p.i (fun a' w'=>Keeps M C (listed.setIfInBounds p.i true) w'∧wpG P md ops (NoPanic Q) M C (n+s2.length) (listed.setIfInBounds p.i true) a' w') (over a L) w:=by
   intro s1 listed l0 lA pend L a w J p hp hr hok hbf hup hcl hL hJ hst hJC hpre hk;have hpA:p ∈ A:=hL.subset (List.mem_append_right _ hp);obtain⟨o,ho,hod,hog,hor⟩:=hA.op p hpA
   have hni:(pend.map (·.i)).Nodup:=by
    have h1:((L.map (·.1)++pend).map (·.i)).Nodup:=((hL.map _).nodup_iff).2 hA.i;rw [List.map_append] at h1;exact (List.nodup_append.1 h1).2.1
   have hft:=filter_take hp hni
   have hJ':J ((L++[(p,w.heap.size)]).map Box.blk) (w.alloc p.o):=by
    rw [List.map_append];exact hst.alloc _ _ _ hJ
   refine wpOp_box ho hod hog (hor _ _) ⟨fun _=>hJC _ _ hJ',?_⟩
   have hlen:(pend.filter fun q=>q.i != p.i).length+1=pend.length:=by
    have:=hft.length_eq
    simpa using this
   have:=ih s1 (listed.setIfInBounds p.i true) l0 lA (pend.filter fun q=>q.i != p.i) (L++[(p,w.heap.size)]) a _ J (by omega) hok hbf (by rw [List.map_append];exact hup.box hpA) (hcl.set hr) (by
    rw [List.map_append];simp only [List.map_cons,List.map_nil,List.append_assoc,List.cons_append,List.nil_append];refine List.Perm.trans (List.Perm.append_left _ ?_) hL;exact (List.perm_append_comm (l₁:=[p]) (l₂:=pend.filter fun q=>q.i != p.i)).trans hft) hJ' hst hJC hpre
   rw [over_snoc] at this;exact this
  intro s1 listed l0 lA pend L a w J hn hok hbf hup hcl hL hJ hst hJC hpre;rw [show n+1+s2.length=(n+s2.length)+1 by omega];have hbf':=hbf;simp only [boxesFree,List.all_eq_true,Bool.and_eq_true,Bool.not_eq_true',decide_eq_true_eq] at hbf'
  have bready:∀ p ∈ pend,p.i ∈ Region.ready md ops listed:=fun p hp=>by
   have hpA:p ∈ A:=hL.subset (List.mem_append_right _ hp);obtain⟨o,ho,hod,hog,hor⟩:=hA.op p hpA;obtain⟨⟨h1,h2⟩,h3⟩:=hbf' p hpA;simp only [ho,List.all_eq_true,Bool.not_eq_true'] at h3;refine mem_ready.2 ⟨?_,_,ho,fun e he hb=>?_⟩
   ·cases hc:listed.getD p.i true with
    | false=>rfl
    | true =>
     have hnd:((L.map (·.1)++pend).map (·.i)).Nodup:=((hL.map _).nodup_iff).2 hA.i;rw [List.map_append] at hnd
     rcases (hup.up p.i).1 hc with h4|h4
     ·rw [hup.no0 p hpA] at h4;cases h4
     ·exact absurd rfl ((List.nodup_append.1 hnd).2.2 p.i (by simpa [List.map_map,Function.comp_def] using h4) p.i (List.mem_map.2 ⟨p,hp,rfl⟩))
   ·have:=h3 e (by simpa using he);rw [hb] at this;cases this
  have bpend:∀ p ∈ A,p.i ∈ Region.ready md ops listed→p ∈ pend:=fun p hpA hr=>by
   rcases List.mem_append.1 (hL.symm.subset hpA) with h1|h1
   ·exfalso
    obtain⟨q,hq,rfl⟩:=List.mem_map.1 h1;have h2:=(hup.up q.1.i).2 (.inr (List.mem_map.2 ⟨q,hq,rfl⟩));have h3:=(mem_ready.1 hr).1;rw [h2] at h3;cases h3
   ·exact h1
  have noBoxI:∀ {i:Nat} {o:Oper},ops[i]? = some o→looksOk ops A i=true→∀ p ∈ A,p.i≠i:=fun ho hlk p hp e=>by
   subst e;obtain⟨o2,ho',hod,hog,hor⟩:=hA.op p hp;obtain rfl:=Option.some.inj (ho.symm.trans ho');exact (looksOk_spec ho hlk p hp).2 hod
  cases s1 with
  | nil =>
   cases pend with
   | nil=>simp at hn
   | cons p0 pend =>
    have hok':=hok;simp only [boxOk,Bool.and_eq_true,List.all_eq_true,beq_iff_eq] at hok';refine⟨fun h0=>?_,fun j hj=>?_⟩
    ·have:=bready p0 (by simp);rw [h0] at this;cases this
    ·by_cases hb:∃ p ∈ A,p.i=j
     ·obtain⟨p,hp,rfl⟩:=hb
      exact lay [] listed l0 lA (p0::pend) L a w J p (bpend p hp hj) hj hok hbf hup hcl hL hJ hst hJC hpre hn
     ·exfalso
      have hp0:p0 ∈ A:=hL.subset (by simp);have h1:=hup.readyB hj (fun p hp e=>hb ⟨p,hp,e⟩) (mem_ready.1 (bready p0 (by simp))).1;rw [hok'.1 p0 hp0,List.mem_singleton] at h1;exact hb ⟨p0,hp0,h1.symm⟩
  | cons m s1 =>
   have hLA:∀ p ∈ L,p.1 ∈ A:=fun p hp=>hL.subset (List.mem_append_left _ (List.mem_map.2 ⟨p,hp,rfl⟩))
   cases m with
   | m i=>exact hpre.elim
   | p i =>
    simp only [boxOk,Bool.and_eq_true,Bool.not_eq_true'] at hok;obtain⟨⟨⟨⟨⟨h1,h6⟩,h2⟩,h3⟩,h4⟩,h5⟩:=hok;have hiM:i ∉ M:=by simpa using h3
    have hr:i ∈ Region.ready md ops listed:=hup.ready (by simpa using h1) h6;obtain⟨o,v,ho,hy,hpre⟩:=hpre;have hlk:=looksOk_spec ho h4;have hnext:=ih s1 (listed.setIfInBounds i true) (l0.setIfInBounds i true) (lA.setIfInBounds i true) pend L (a.put o.dst v) w J (by simp at hn;omega) h5 (by simpa [boxesFree] using hbf) (hup.move i (noBoxI ho h4)) (hcl.set hr) hL hJ hst hJC hpre;rw [← over_put a o.dst v L (fun p hp=>(hlk _ (hLA p hp)).2)] at hnext;exact wpG.first (S:=fun _=>True) ho (Region.noSelect_spec hsel) hQ hiM (fun _ _ _ _ _=>trivial) _ listed _ w hcl (fun _=>hJC _ _ hJ) (free_of ho h2 (fun j hj=>hup.false0 hj)) hr (yields_overs (fun cs b=>Region.noSelect_spec hsel i o cs b ho) L (fun p hp=>(hlk _ (hLA p hp)).1) hy) hnext
   | r i =>
    simp only [boxOk,Bool.and_eq_true,Bool.not_eq_true'] at hok;obtain⟨⟨⟨⟨⟨⟨h1,h7⟩,h2⟩,h3⟩,h6⟩,h4⟩,h5⟩:=hok;have hiM:i ∉ M:=by simpa using h3
    have hr:i ∈ Region.ready md ops listed:=hup.ready (by simpa using h1) h7;obtain⟨o,v,ho,hy,hpre⟩:=hpre;have hlk:=looksOk_spec ho h4;have hnext:=ih s1 (listed.setIfInBounds i true) (l0.setIfInBounds i true) (lA.setIfInBounds i true) pend L (a.put o.dst v) w J (by simp at hn;omega) h5 (by simpa [boxesFree] using hbf) (hup.move i (noBoxI ho h4)) (hcl.set hr) hL hJ hst hJC hpre;rw [← over_put a o.dst v L (fun p hp=>(hlk _ (hLA p hp)).2)] at hnext
    have hSG:∀ (listed:Array Bool) (w:World),Closed md ops listed→listed.getD i true=false→Keeps M C listed w→C w:=by
     intro l' w' hc hu hkk;refine hkk fun m hmM=>?_
     cases hl:l'.getD m false with
     | false=>rfl
     | true =>
      have h7:=List.all_eq_true.1 h6 m hmM;have h8:i ∈ anc md ops ops.size m:=by simpa using h7
      have h9:=hc.anc _ m hl i h8;rw [unlisted_of hu] at h9;cases h9
    exact wpG.first (S:=C) ho (Region.noSelect_spec hsel) hQ hiM hSG _ listed _ w hcl (fun _=>hJC _ _ hJ) (free_of ho h2 (fun j hj=>hup.false0 hj)) hr (yields_overs (fun cs b=>Region.noSelect_spec hsel i o cs b ho) L (fun p hp=>(hlk _ (hLA p hp)).1) hy) hnext
   | e i =>
    have hok0:=hok;simp only [boxOk,Bool.and_eq_true,Bool.not_eq_true',beq_iff_eq] at hok;obtain⟨⟨⟨⟨h1,h6⟩,h3⟩,h4⟩,h5⟩:=hok;have hr:i ∈ Region.ready md ops listed:=hup.ready (by rw [h1];simp) h6;refine⟨fun h0=>(by rw [h0] at hr;cases hr),fun j hj=>?_⟩
    by_cases hb:∃ p ∈ A,p.i=j
    ·obtain⟨p,hp,rfl⟩:=hb
     exact lay (.e i::s1) listed l0 lA pend L a w J p (bpend p hp hj) hj hok0 hbf hup hcl hL hJ hst hJC hpre hn
    ·have h2:=hup.readyA hj (fun p hp e=>hb ⟨p,hp,e⟩)
     rw [h1,List.mem_singleton] at h2;subst h2;obtain⟨_,o,ho,_⟩:=mem_ready.1 hj;have hlk:=looksOk_spec ho h4;refine wpOp_overs ho (fun cs b=>Region.noSelect_spec hsel j o cs b ho) hQ L (fun p hp=>hlk _ (hLA p hp)) (hpre _ w hJ) ?_;intro a' w' ⟨J',hJ',hst',hJC',hpre'⟩;exact⟨fun _=>hJC' _ _ hJ',ih s1 (listed.setIfInBounds j true) (l0.setIfInBounds j true) (lA.setIfInBounds j true) pend L a' w' J' (by simp at hn;omega) h5 (by simpa [boxesFree] using hbf) (hup.move j (noBoxI ho h4)) (hcl.set hj) hL hJ' hst' hJC' hpre'⟩
end
end Go.Hp
