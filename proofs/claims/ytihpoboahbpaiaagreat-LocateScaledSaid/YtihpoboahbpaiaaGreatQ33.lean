/- Texts for the walk of the law: FE FO FO2 FO3 FJ. -/
import Derived.RangeFuncBox
import Derived.RangeFuncNested
import Derived.RangeFuncBound
import Derived.RangeFuncCalls
import Derived.RangeFuncLeaves
import Derived.RangeFuncKeeps
import Derived.RangeFuncOwn
import Derived.RangeFuncFrom
import Derived.Shelf.Abstract
import Derived.OwnWalkIn
import Derived.TacticsInMore
import Derived.LoopNIn
import Derived.LoopIn
import Derived.Test.YtihpoboahbpaiaaGreatQ32
set_option maxRecDepth 100000
set_option maxHeartbeats 16000000
set_option linter.unusedVariables false
set_option linter.unusedSimpArgs false
namespace Go.Hp
open Go Go.RowKit
def orgE (es:List Ed) (h:Nat):Nat:=if h % 2=0 then (nth ed0 es (h / 2)).a else (nth ed0 es (h / 2)).b
theorem mem_outs1 {es:List Ed} {v i h:Nat} (hne:(nth ed0 es i).a≠(nth ed0 es i).b):h ∈ outs1 es v i↔h / 2=i∧orgE es h=v:=by
 unfold outs1 orgE
 constructor
 ·intro hh
  split at hh
  ·rename_i e
   rw [List.mem_singleton] at hh;subst hh;have h1:2*i / 2=i:=by omega
   have h2:2*i % 2=0:=by omega
   rw [h1,if_pos h2];exact⟨rfl,e⟩
  ·split at hh
   ·rename_i e
    rw [List.mem_singleton] at hh;subst hh;have h1:(2*i+1) / 2=i:=by omega
    have h2:¬ (2*i+1) % 2=0:=by omega
    rw [h1,if_neg h2];exact⟨rfl,e⟩
   ·cases hh
 ·rintro⟨rfl,ho⟩
  by_cases e:h % 2=0
  ·rw [if_pos e] at ho
   rw [if_pos ho,List.mem_singleton];omega
  ·rw [if_neg e] at ho
   rw [if_neg (fun h1=>hne (h1.trans ho.symm)),if_pos ho,List.mem_singleton];omega
theorem mem_outsTo {es:List Ed} {v h:Nat}:∀ {k:Nat},k≤es.length→(∀ e ∈ es,e.a≠e.b)→(h ∈ outsTo es v k↔h / 2<k∧orgE es h=v)
 | 0,_,_=>⟨fun h=>(by cases h),fun h=>absurd h.1 (Nat.not_lt_zero _)⟩
 | k+1,hk,hne=>by
  show h ∈ outsTo es v k++outs1 es v k↔_;rw [List.mem_append,mem_outsTo (by omega) hne,mem_outs1 (hne _ (nth_mem ed0 es k (by omega)))]
  constructor
  ·rintro (⟨a,b⟩|⟨a,b⟩)
   ·exact⟨by omega,b⟩
   ·exact⟨by omega,b⟩
  ·rintro⟨a,b⟩
   by_cases e:h / 2=k
   ·exact .inr ⟨e,b⟩
   ·exact .inl ⟨by omega,b⟩
theorem outs_nodup {es:List Ed} {v:Nat}:∀ {k:Nat},k≤es.length→(∀ e ∈ es,e.a≠e.b)→(outsTo es v k).Nodup
 | 0,_,_=>List.nodup_nil
 | k+1,hk,hne=>by
  show (outsTo es v k++outs1 es v k).Nodup;refine List.nodup_append.2 ⟨outs_nodup (by omega) hne,?_,fun x hx y hy e=>?_⟩
  ·unfold outs1;split
   ·simp
   ·split <;> simp
  ·subst e
   have h1:=(mem_outsTo (by omega) hne).1 hx;have h2:=(mem_outs1 (hne _ (nth_mem ed0 es k (by omega)))).1 hy;omega
structure RLok (es:List Ed) (n:Nat) (RL:List (List Nat)):Prop where
 len:RL.length=n
 nodup:∀ v,v<n→(nth [] RL v).Nodup
 mem:∀ v h,v<n→(h ∈ nth [] RL v↔h<2*es.length∧orgE es h=v)
theorem nth_nodup {l:List Nat} (h:l.Nodup) {i j:Nat} (hi:i<l.length) (hj:j<l.length) (e:nth 0 l i=nth 0 l j):i=j:=by
 rw [nth_eq _ _ _ hi,nth_eq _ _ _ hj] at e
 rcases Nat.lt_trichotomy i j with hij|hij|hij
 ·exact absurd e (List.pairwise_iff_getElem.1 h i j hi hj hij)
 ·exact hij
 ·exact absurd e.symm (List.pairwise_iff_getElem.1 h j i hj hi hij)
theorem updTo_spec {N l:List Nat} (hn:l.Nodup) (hl:∀ x ∈ l,tw x<N.length):∀ i,i≤l.length→(∀ j,j<i→nth 0 (updTo N l i) (tw (nth 0 l j))=nth 0 l ((j+l.length - 1) % l.length))∧∀ k,(∀ j,j<i→tw (nth 0 l j)≠k)→nth 0 (updTo N l i) k=nth 0 N k
 | 0,_=>⟨fun j hj=>by omega,fun k _=>rfl⟩
 | i+1,hi=>by
  obtain⟨ih1,ih2⟩:=updTo_spec hn hl i (by omega);have hlt:tw (nth 0 l i)<(updTo N l i).length:=by rw [updTo_length];exact hl _ (nth_mem 0 l i (by omega))
  refine⟨fun j hj=>?_,fun k hk=>?_⟩
  ·show nth 0 ((updTo N l i).set (tw (nth 0 l i)) _) _=_
   rw [nth_setG _ _ _ _ _ hlt]
   by_cases e:j=i
   ·subst e;rw [if_pos rfl]
   ·rw [if_neg (fun h=>e (nth_nodup hn (by omega) (by omega) (tw_inj h)))]
    exact ih1 j (by omega)
  ·show nth 0 ((updTo N l i).set (tw (nth 0 l i)) _) _=_
   rw [nth_setG _ _ _ _ _ hlt,if_neg (fun h=>hk i (by omega) h.symm)];exact ih2 k (fun j hj=>hk j (by omega))
theorem nxTo_spec {es:List Ed} {n:Nat} {RL:List (List Nat)} (h:RLok es n RL):∀ v,v≤n→∀ u,u<v→∀ j,j<(nth [] RL u).length→nth 0 (nxTo es.length RL v) (tw (nth 0 (nth [] RL u) j))=nth 0 (nth [] RL u) ((j+(nth [] RL u).length - 1) % (nth [] RL u).length)
 | 0,_=>fun u hu=>by omega
 | v+1,hv=>fun u hu j hj=>by
  have ih:=nxTo_spec h v (by omega)
  have hl:∀ x ∈ nth [] RL v,tw x<(nxTo es.length RL v).length:=fun x hx=>by
   rw [nxTo_length];exact tw_lt ((h.mem v x (by omega)).1 hx).1
  obtain⟨s1,s2⟩:=updTo_spec (N:=nxTo es.length RL v) (h.nodup v (by omega)) hl _ (Nat.le_refl _);show nth 0 (updTo (nxTo es.length RL v) (nth [] RL v) (nth [] RL v).length) _=_
  by_cases e:u=v
  ·subst e;exact s1 j hj
  ·rw [s2 _ (fun i hi he=>?_)]
   ·exact ih u (by omega) j hj
   ·have h1:=tw_inj he
    have h2:=((h.mem v _ (by omega)).1 (nth_mem 0 _ i hi)).2;have h3:=((h.mem u _ (by omega)).1 (nth_mem 0 _ j hj)).2;rw [h1] at h2;omega
theorem orgE_lt {es:List Ed} {n h:Nat} (hab:∀ e ∈ es,e.a<n∧e.b<n) (hh:h<2*es.length):orgE es h<n:=by
 have:=hab _ (nth_mem ed0 es (h / 2) (by omega));unfold orgE;split
 ·exact this.1
 ·exact this.2
theorem next_at {es:List Ed} {n:Nat} {RL:List (List Nat)} (h:RLok es n RL) (hab:∀ e ∈ es,e.a<n∧e.b<n) {k:Nat} (hk:k<2*es.length) :
 ∃ j,j<(nth [] RL (orgE es (tw k))).length∧nth 0 (nth [] RL (orgE es (tw k))) j=tw k∧nth 0 (nxTo es.length RL n) k=nth 0 (nth [] RL (orgE es (tw k))) ((j+(nth [] RL (orgE es (tw k))).length - 1) % (nth [] RL (orgE es (tw k))).length):=by
 have ht:=tw_lt hk;have hu:=orgE_lt hab ht;have hm:=(h.mem _ (tw k) hu).2 ⟨ht,rfl⟩;obtain⟨j,hj,e⟩:=List.getElem_of_mem hm;have e2:nth 0 (nth [] RL (orgE es (tw k))) j=tw k:=by rw [nth_eq _ _ _ hj];exact e
 refine⟨j,hj,e2,?_⟩;have:=nxTo_spec h n (Nat.le_refl _) _ hu j hj;rw [e2,tw_tw] at this;exact this
theorem next_perm {es:List Ed} {n:Nat} {RL:List (List Nat)} (h:RLok es n RL) (hab:∀ e ∈ es,e.a<n∧e.b<n):IsPerm (nxTo es.length RL n)∧∀ k,k<2*es.length→orgE es (nth 0 (nxTo es.length RL n) k)=orgE es (tw k):=by
 have hin:∀ k,k<2*es.length→nth 0 (nxTo es.length RL n) k<2*es.length∧orgE es (nth 0 (nxTo es.length RL n) k)=orgE es (tw k):=fun k hk=>by
  obtain⟨j,hj,e1,e2⟩:=next_at h hab hk;rw [e2];exact (h.mem _ _ (orgE_lt hab (tw_lt hk))).1 (nth_mem 0 _ _ (Nat.mod_lt _ (by omega)))
 refine⟨⟨fun k hk=>?_,fun k k' hk hk' e=>?_⟩,fun k hk=>(hin k hk).2⟩
 ·rw [nxTo_length] at hk ⊢;exact (hin k hk).1
 ·rw [nxTo_length] at hk hk'
  have ho:orgE es (tw k)=orgE es (tw k'):=by rw [← (hin k hk).2,← (hin k' hk').2,e]
  obtain⟨j,hj,e1,e2⟩:=next_at h hab hk;obtain⟨j',hj',e1',e2'⟩:=next_at h hab hk';rw [← ho] at hj' e1' e2';rw [e2,e2'] at e;have hu:=orgE_lt hab (tw_lt hk);have hnd:=h.nodup _ hu;generalize nth [] RL (orgE es (tw k))=l at *;have h3:=nth_nodup hnd (Nat.mod_lt _ (by omega)) (Nat.mod_lt _ (by omega)) e
  have h4:j=j':=by
   have key:∀ j,j<l.length→(j+l.length - 1) % l.length=if j=0 then l.length - 1 else j - 1:=fun j hj=>by
    split
    ·subst_vars;rw [Nat.zero_add];exact Nat.mod_eq_of_lt (by omega)
    ·have:j+l.length - 1=(j - 1)+l.length:=by omega
     rw [this,Nat.add_mod_right];exact Nat.mod_eq_of_lt (by omega)
   rw [key j hj,key j' hj'] at h3
   split at h3 <;> split at h3 <;> omega
  subst h4;exact tw_inj (e1.symm.trans e1')
end Go.Hp
namespace Go.Proofs
open Go.RowKit Go.Hp
theorem RLok.of {es:List Ed} {n:Nat} {RL:List (List Nat)} (hne:∀ e ∈ es,e.a≠e.b) (hl:RL.length=n) (h:∀ v,v<n→AroundL es v (nth [] RL v)):RLok es n RL :=
 ⟨hl,fun v hv=>(h v hv).perm.nodup_iff.2 (outs_nodup (Nat.le_refl _) hne),fun v x hv=>by
  rw [(h v hv).perm.mem_iff];show x ∈ outsTo es v es.length↔_;rw [mem_outsTo (Nat.le_refl _) hne]
  constructor
  ·rintro⟨a,b⟩;exact⟨by omega,b⟩
  ·rintro⟨a,b⟩;exact⟨by omega,b⟩⟩
end Go.Proofs
namespace Go.Proofs
open Go.Proofs.Tryz
open Go.RowKit Go.Shelf Go.Hp
attribute [local go_sem] Oper.semAt_some
def Desc {len:Nat} (ys:List (Fin len)) (c:Nat):Prop:=∀ q:Fin len,q ∈ ys↔c≤q.val
theorem backward1_in (F:Fence) (n:Nat) (h7:F.fn 192) (hro:F.round=none) (hn:1≤n) (l Bs n₀ b off len cap:Nat) (L:Nat→Int) (hlen:len≤1000000) (hb:b<n₀) (hBs:Bs<n₀) (J Jx:List (Fin len)→World→Prop)
 (hY:∀ pre (x:Fin len) W,J pre W→pre.length<len→YieldAt F (n - 1) Tryz.prog l #[.int .i64 (x.val:Int),.int .i64 (L x.val)] W fun e W' =>
  (e=.returned (.bool true)∧J (pre++[x]) W'∧Below n₀ W W')∨(e=.returned (.bool false)∧Jx (pre++[x]) W'))
 (W:World) (hcB:W.cell? ⟨Bs,0,none⟩=some (.slice (some ⟨b,off,none⟩) len cap)) (hc:∀ j,j<len→W.cell? ⟨b,off+j,none⟩=some (.int .i64 (L j))) (h0:J [] W) :
 CallsIn F n Tryz.prog 192 #[.func (.yield l) #[] #[],.pointer (some ⟨Bs,0,none⟩)] W fun e W'=>(∃ v,e=.returned v) ∧
  ((∃ ys,Desc ys 0∧J ys W')∨(∃ pre,(∃ p k,pre=p++[k]∧Desc p (k.val+1))∧Jx pre W')):=by
 refine callsIn_of_wp func192 rfl h7 ?_ hro;simp only [ntmps192,List.size_toArray,List.length_cons,List.length_nil,Nat.reduceAdd,Nat.reduceSub,Array.replicate_succ,Array.replicate_zero,List.push_toArray,List.append_toArray,List.nil_append,List.cons_append];have w0:IntKind.i64.wrap ((len:Int) - 1)=(len:Int) - 1:=w6
 gi_wp2
 gi_loopw [3] (fun i wr=>∃ (j:Nat) (z:Int) (ys:List (Fin len)),j≤len∧i=.int .i64 z∧z+1=(j:Int)∧Desc ys j∧ys.length+j=len∧J ys wr∧Below n₀ W wr)
  (fun i _=>(intOf i+1).toNat)
 case atStart=>exact⟨len,(len:Int) - 1,[],Nat.le_refl _,rfl,by omega,fun q=>by simp,by simp,h0,Below.refl _ _⟩
 case round =>
  obtain⟨j,z,ys,hj,rfl,hz,hD,hyl,hJs,hnx⟩:=hrel;have hcB':=(hnx.cell (p:=⟨Bs,0,none⟩) hBs).trans hcB;cases j with
  | zero =>
   obtain rfl:z = -1:=by omega
   gi_wp2
   go_end0
   exact⟨⟨_,rfl⟩,.inl ⟨ys,hD,hJs⟩⟩
  | succ q =>
   obtain rfl:z=(q:Int):=by omega
   have hq:q<len:=by omega
   have hcx:=(hnx.cell (p:=⟨b,off+q,none⟩) hb).trans (hc q hq);obtain⟨fn,tmps,assign,body,hy,hR⟩:=hY ys ⟨q,hq⟩ wr hJs (by omega);simp only at hR hy;have w1:IntKind.i64.wrap ((q:Int) - 1)=(q:Int) - 1:=w6
   gi_wp2
   refine hR.mono ?_;rintro e W3 (⟨rfl,hJ3,hk3⟩|⟨rfl,hJx3⟩)
   ·have hD2:Desc (ys++[(⟨q,hq⟩:Fin len)]) q:=fun r=>by
     rw [List.mem_append,hD r,List.mem_singleton]
     constructor
     ·rintro (h|h)
      ·omega
      ·rw [h];exact Nat.le_refl _
     ·intro h
      by_cases e:r.val=q
      ·exact .inr (Fin.ext e)
      ·exact .inl (by omega)
    have hl2:(ys++[(⟨q,hq⟩:Fin len)]).length+q=len:=by simp;omega
    have hb2:=hnx.trans hk3;replace hD2:=Hd hD2;replace hl2:=Hd hl2
    gi_wp2
    go_roundw
    case rel=>exact⟨q,(q:Int) - 1,ys++[⟨q,hq⟩],by omega,rfl,by omega,hD2.out,hl2.out,hJ3,hb2⟩
    case measure=>simp only [intOf];omega
   ·gi_wp2
    refine bodyPost_ret (results_none rfl _ _ _) rfl ?_;exact⟨⟨_,rfl⟩,.inr ⟨ys++[⟨q,hq⟩],⟨ys,⟨q,hq⟩,rfl,hD⟩,hJx3⟩⟩
theorem backward_stops (F:Fence) (n:Nat) (h7:F.fn 192) (hro:F.round=none) (hn:1≤n) (Bs b off len cap:Nat) (L:Nat→Int) (hlen:len≤1000000) (w:World) (hb:b<w.heap.size) (hBs:Bs<w.heap.size)
 (hcB:w.cell? ⟨Bs,0,none⟩=some (.slice (some ⟨b,off,none⟩) len cap)) (hc:∀ j,j<len→w.cell? ⟨b,off+j,none⟩=some (.int .i64 (L j))) :
 SeqStopsK F n Tryz.prog 192 #[.pointer (some ⟨Bs,0,none⟩)] (fun x:Fin len=>#[Value.int .i64 (x.val:Int),Value.int .i64 (L x.val)]) (Below w.heap.size) (fun ys=>Desc ys 0) (fun pre=>∃ p k,pre=p++[k]∧Desc p (k.val+1)) len w:=fun l J Jx W hW _ _ hY h0 =>
 backward1_in F n h7 hro hn l Bs w.heap.size b off len cap L hlen hb hBs J Jx (fun pre x W1 h1 h2=>hY pre x W1 h1 h2) W ((hW.cell (p:=⟨Bs,0,none⟩) hBs).trans hcB) (fun j hj=>(hW.cell (p:=⟨b,off+j,none⟩) hb).trans (hc j hj)) h0
theorem backward_in (F:Fence) (n:Nat) (h5:F.fn 128) (hro:F.round=none) (ad:Option Addr) (len cap:Nat) (w:World) :
 CallsIn F n Tryz.prog 128 #[.slice ad len cap] w fun e w'=>e=.returned (.func (.func 192) #[] #[.pointer (some ⟨w.heap.size,0,none⟩)])∧w'=w.alloc (.cells #[.slice ad len cap] 22 (0,0)):=by
 refine callsIn_of_wp func128 rfl h5 ?_ hro;simp only [ntmps128,List.size_toArray,List.length_cons,List.length_nil,Nat.reduceAdd,Nat.reduceSub,Array.replicate_succ,Array.replicate_zero,List.push_toArray,List.append_toArray,List.nil_append,List.cons_append]
 gi_wp2
 go_ret;exact⟨rfl,rfl⟩
def OutIs (es:List Ed) (L:List Nat) (r:Nat):Prop:=(∃ k,k<L.length∧r=nth 0 L k∧UpD (crsZ es r)∧∀ q,k<q→q<L.length→¬ UpD (crsZ es (nth 0 L q)))∨(r=nth 0 L (L.length - 1)∧∀ q,q<L.length→¬ UpD (crsZ es (nth 0 L q)))
end Go.Proofs
namespace Go.Proofs
open Go.Proofs.Tryz
open Go.RowKit Go.Shelf Go.Hp
attribute [local go_sem] Oper.semAt_some
theorem cells_box {W:World} {B:Nat} {vs:Array Value} {t:TypeId} (h:W.heap[B]? = some (.cells vs t (0,0))) (i:Nat) (v:Value) (hv:vs[i]? = some v):W.cell? ⟨B,i,none⟩=some v∧W.frozen? ⟨B,i,none⟩=false:=by
 constructor <;> simp [World.cell?,World.frozen?,h,hv]
theorem cells_new (W:World) (vs:Array Value) (t:TypeId) (i:Nat) (v:Value) (hv:vs[i]? = some v):(W.alloc (.cells vs t)).cell? ⟨W.heap.size,i,none⟩=some v:=(cells_box (World.alloc_heap_new W _) i v hv).1
theorem frozen_new (W:World) (vs:Array Value) (t:TypeId) (i:Nat) (v:Value) (hv:vs[i]? = some v):(W.alloc (.cells vs t)).frozen? ⟨W.heap.size,i,none⟩=false:=(cells_box (World.alloc_heap_new W _) i v hv).2
theorem ckA {W:World} {a:Addr} {v:Value} (o:Obj) (h:W.cell? a=some v):(W.alloc o).cell? a=some v:=cell_kept h (World.grownBy_alloc W o none) (fun r e=>by cases e)
theorem fkA {W:World} {a:Addr} {v:Value} (o:Obj) (h:W.cell? a=some v) (hf:W.frozen? a=false):(W.alloc o).frozen? a=false:=(frozen_kept h (World.grownBy_alloc W o none) (fun r e=>by cases e)).trans hf
theorem outside_in (F:Fence) (n:Nat) (h3:F.fn 84) (h4:F.fn 128) (h5:F.fn 192) (hro:F.round=none) (hn:3≤n) (a1 a2 a3:Option Addr) (n1 c1 n2 c2 n3 c3 c4 cap b be oe off:Nat) (es:List Ed) (L:List Nat) (w:World)
 (hE:∀ i,i<es.length→w.cell? ⟨be,oe+i*5+3,none⟩=some (.int .i64 (nth ed0 es i).dir.x)∧w.cell? ⟨be,oe+i*5+4,none⟩=some (.int .i64 (nth ed0 es i).dir.y)) (hbe:be<w.heap.size) (hb:b<w.heap.size)
 (hLc:∀ j,j<L.length→w.cell? ⟨b,off+j,none⟩=some (.int .i64 ((nth 0 L j:Nat):Int))) (hL0:0<L.length) (hlen:L.length≤1000000) (hLv:∀ j,j<L.length→nth 0 L j / 2<es.length) (hel:es.length≤400000) (hd:∀ e ∈ es,e.dir.dir) :
 CallsIn F n Tryz.prog 84 #[.agg #[.slice a1 n1 c1,.slice a2 n2 c2,.slice a3 n3 c3,.slice (some ⟨be,oe,none⟩) es.length c4],.slice (some ⟨b,off,none⟩) L.length cap] w fun e w'=>∃ r,e=.returned (.int .i64 ((r:Nat):Int))∧OutIs es L r∧Below w.heap.size w w':=by
 have h1:1≤n:=by omega
 refine callsIn_of_wp_marks func84 rfl h3 ?_ hro;simp only [ntmps84,List.size_toArray,List.length_cons,List.length_nil,Nat.reduceAdd,Nat.reduceSub,Array.replicate_succ,Array.replicate_zero,List.push_toArray,List.append_toArray,List.nil_append,List.cons_append]
 gi_wp2_with (gi_at_call 128;refine (backward_in F (n - 1) h4 hro _ _ _ _).mono ?_;rintro e w' ⟨rfl,rfl⟩)
 have z0:=cells_new w #[Value.slice a1 n1 c1,Value.slice a2 n2 c2,Value.slice a3 n3 c3,Value.slice (some ⟨be,oe,none⟩) es.length c4] 34 3 (.slice (some ⟨be,oe,none⟩) es.length c4) rfl;have z1:=cells_new (w.alloc (.cells #[Value.slice a1 n1 c1,Value.slice a2 n2 c2,Value.slice a3 n3 c3,Value.slice (some ⟨be,oe,none⟩) es.length c4] 34)) #[Value.int .i64 0] 3 0 (.int .i64 0) rfl;have zf:=frozen_new (w.alloc (.cells #[Value.slice a1 n1 c1,Value.slice a2 n2 c2,Value.slice a3 n3 c3,Value.slice (some ⟨be,oe,none⟩) es.length c4] 34)) #[Value.int .i64 0] 3 0 (.int .i64 0) rfl;have z2:=cells_new ((w.alloc (.cells #[Value.slice a1 n1 c1,Value.slice a2 n2 c2,Value.slice a3 n3 c3,Value.slice (some ⟨be,oe,none⟩) es.length c4] 34)).alloc (.cells #[Value.int .i64 0] 3)) #[Value.slice (some ⟨b,off,none⟩) L.length cap] 22 0 (.slice (some ⟨b,off,none⟩) L.length cap) rfl;simp only [World.size_alloc] at z1 z2 zf;have hB0:Below w.heap.size w (((w.alloc (.cells #[Value.slice a1 n1 c1,Value.slice a2 n2 c2,Value.slice a3 n3 c3,Value.slice (some ⟨be,oe,none⟩) es.length c4] 34)).alloc (.cells #[Value.int .i64 0] 3)).alloc (.cells #[Value.slice (some ⟨b,off,none⟩) L.length cap] 22)):=(((Below.refl _ w).alloc (Nat.le_refl _) _).alloc (by simp) _).alloc (by simp;omega) _
 refine wpIn_rangeFunc_ownF hro h1 (gf:=192) (lb:=#[.pointer (some ⟨w.heap.size+1+1,0,none⟩)]) rfl h5 (enters_of func192 (by kernel_rfl) rfl)
  (backward_stops F (n - 1) h5 hro (by omega) (w.heap.size+1+1) b off L.length cap (fun j=>((nth 0 L j:Nat):Int)) hlen _ (by simp;omega) (by simp) z2 (fun j hj=>(hB0.cell (p:=⟨b,off+j,none⟩) hb).trans (hLc j hj))) belowK_t (belowK_b (Nat.le_refl _)) (Below.refl _ _) (fun _=>rfl)
  (fun pre W=>((∀ q ∈ pre,¬ UpD (crsZ es (nth 0 L q.val)))∧W.cell? ⟨w.heap.size,3,none⟩=some (.slice (some ⟨be,oe,none⟩) es.length c4)∧W.cell? ⟨w.heap.size+1,0,none⟩=some (.int .i64 0)∧W.frozen? ⟨w.heap.size+1,0,none⟩=false∧w.heap.size+3≤W.heap.size)∧Below w.heap.size w W)
  (fun c pre W=>(c=.ret∧∃ p k,pre=p++[k]∧UpD (crsZ es (nth 0 L k.val))∧(∀ q ∈ p,¬ UpD (crsZ es (nth 0 L q.val)))∧W.cell? ⟨w.heap.size+1,0,none⟩=some (.int .i64 ((nth 0 L k.val:Nat):Int)))∧Below w.heap.size w W)
  (OwnFrom.and (Own.from (fun s A B row hs hg hr=>⟨hs.1,cell_kept hs.2.1 hg hr,cell_kept hs.2.2.1 hg hr,(frozen_kept hs.2.2.1 hg hr).trans hs.2.2.2.1,Nat.le_trans hs.2.2.2.2 hg.size⟩) _) (ownFrom_below (Nat.le_refl _) (by simp;omega)))
  (fun c=>OwnFrom.and (Own.from (fun s A B row hs hg hr=>by
   obtain⟨e,p,k,h1,h2,h3,h4⟩:=hs;exact⟨e,p,k,h1,h2,h3,cell_kept h4 hg hr⟩) _) (ownFrom_below (Nat.le_refl _) (by simp;omega)))
  ⟨⟨by simp,ckA _ (ckA _ z0),ckA _ z1,fkA _ z1 zf,by simp⟩,hB0⟩
  (fun x=>{ tmps:=#[.agg #[.slice a1 n1 c1,.slice a2 n2 c2,.slice a3 n3 c3,.slice (some ⟨be,oe,none⟩) es.length c4],.slice (some ⟨b,off,none⟩) L.length cap,.pointer (some ⟨w.heap.size,0,none⟩),undef,.pointer (some ⟨w.heap.size+1,0,none⟩),undef,.int .i64 ((nth 0 L x.val:Nat):Int),undef,.slice (some ⟨b,off,none⟩) L.length cap,.func (.func 192) #[] #[.pointer (some ⟨w.heap.size+1+1,0,none⟩)],.int .i64 (x.val:Int),.int .i64 ((nth 0 L x.val:Nat):Int),undef,undef,undef,undef,undef,undef,undef,undef,undef,undef,undef,undef,undef,undef,undef,undef,undef,undef,undef,undef,undef,undef,undef,undef,undef,undef,undef,undef,undef,undef,undef,undef,undef,undef,undef,undef,undef],defers:=[] }) ?assign ?body ?done ?stop
 case assign =>
  intro l x W K hK
  gi_wp2
  exact hK
 case body =>
  rintro l pre x W ⟨⟨hp,hca,hcr,hfr,hsz⟩,hB⟩ hpl;clear z0 z1 z2 zf hB0;obtain⟨h,hh⟩:∃ h,nth 0 L x.val=h:=⟨_,rfl⟩;have hlv:=hLv x.val x.isLt;rw [hh] at hlv;rw [hh];obtain⟨i,hi⟩:∃ i,h / 2=i:=⟨_,rfl⟩;obtain⟨dx,hdx⟩:∃ z,(nth ed0 es i).dir.x=z:=⟨_,rfl⟩;obtain⟨dy,hdy⟩:∃ z,(nth ed0 es i).dir.y=z:=⟨_,rfl⟩;rw [hi] at hlv;have hdd:=hd _ (nth_mem ed0 es i hlv);unfold Gp.dir at hdd;rw [hdx,hdy] at hdd;have ex:=(hB.cell (p:=⟨be,oe+i*5+3,none⟩) hbe).trans (hE i hlv).1;have ey:=(hB.cell (p:=⟨be,oe+i*5+4,none⟩) hbe).trans (hE i hlv).2;rw [hdx] at ex;rw [hdy] at ey;have q1:=tdiv2 h;have q2:=tmod2 h;rw [hi] at q1;have q3:IntKind.i64.wrap (i:Int)=(i:Int):=w6;have q5:IntKind.i64.wrap (-dx) = -dx:=w6;have q6:IntKind.i64.wrap (-dy) = -dy:=w6;have hcr2:∀ o,(W.alloc o).cell? ⟨w.heap.size+1,0,none⟩=some (.int .i64 0):=fun o=>ckA o hcr
  have hfr2:∀ o,(W.alloc o).frozen? ⟨w.heap.size+1,0,none⟩=false:=fun o=>fkA o hcr hfr
  have hca2:∀ o,(W.alloc o).cell? ⟨w.heap.size,3,none⟩=some (.slice (some ⟨be,oe,none⟩) es.length c4):=fun o=>ckA o hca
  have fin1:∀ (o:Obj) (a:Act),UpD (crsZ es h)→ownPostK (Below (w.heap.size+1+1+1)) (fun pre W=>((∀ q ∈ pre,¬ UpD (crsZ es (nth 0 L q.val)))∧W.cell? ⟨w.heap.size,3,none⟩=some (.slice (some ⟨be,oe,none⟩) es.length c4)∧W.cell? ⟨w.heap.size+1,0,none⟩=some (.int .i64 0)∧W.frozen? ⟨w.heap.size+1,0,none⟩=false∧w.heap.size+3≤W.heap.size)∧Below w.heap.size w W)
   (fun c pre W=>(c=.ret∧∃ p k,pre=p++[k]∧UpD (crsZ es (nth 0 L k.val))∧(∀ q ∈ p,¬ UpD (crsZ es (nth 0 L q.val)))∧W.cell? ⟨w.heap.size+1,0,none⟩=some (.int .i64 ((nth 0 L k.val:Nat):Int)))∧Below w.heap.size w W)
   (pre++[x]) W .ret a ((W.alloc o).setCell ⟨w.heap.size+1,0,none⟩ (.int .i64 (h:Int))):=fun o a hu =>
   ⟨(KeepsOthers.alloc W o).trans (KeepsOthers.setCell _ _ _),⟨rfl,pre,x,rfl,by rw [hh];exact hu,hp,by rw [hh];exact World.cell?_setCell_same' _ _ _ (by rw [hcr2];rfl)⟩,(hB.alloc hB.size _).setCell (p:=⟨w.heap.size+1,0,none⟩) (by simp) _⟩
  have fin0:∀ (o:Obj) (a:Act),¬ UpD (crsZ es h)→ownPostK (Below (w.heap.size+1+1+1)) (fun pre W=>((∀ q ∈ pre,¬ UpD (crsZ es (nth 0 L q.val)))∧W.cell? ⟨w.heap.size,3,none⟩=some (.slice (some ⟨be,oe,none⟩) es.length c4)∧W.cell? ⟨w.heap.size+1,0,none⟩=some (.int .i64 0)∧W.frozen? ⟨w.heap.size+1,0,none⟩=false∧w.heap.size+3≤W.heap.size)∧Below w.heap.size w W)
   (fun c pre W=>(c=.ret∧∃ p k,pre=p++[k]∧UpD (crsZ es (nth 0 L k.val))∧(∀ q ∈ p,¬ UpD (crsZ es (nth 0 L q.val)))∧W.cell? ⟨w.heap.size+1,0,none⟩=some (.int .i64 ((nth 0 L k.val:Nat):Int)))∧Below w.heap.size w W)
   (pre++[x]) W .normal a (W.alloc o):=fun o a hu =>
   ⟨KeepsOthers.alloc W o,(Below.refl _ W).alloc (by omega) _,⟨fun q hq=>(List.mem_append.1 hq).elim (hp q) (fun e=>by rw [List.mem_singleton.1 e,hh];exact hu),hca2 o,hcr2 o,hfr2 o,by simp;omega⟩,hB.alloc hB.size _⟩
  by_cases hm:h % 2=1
  ·rw [hm] at q2
   have hD:crsZ es h=⟨-dx,-dy⟩:=by unfold crsZ;rw [if_pos hm,hi,hdx,hdy]
   rw [hD] at fin0 fin1;replace fin0:=Hd fin0;replace fin1:=Hd fin1;replace hD:=Hd hD;clear hp hh hi hdx hdy hm hE hLc hLv hd
   gi_wp2
   all_goals ((try simp only [World.size_alloc]);first|exact fin1.out _ _ (by unfold UpD;simp only;omega)|exact fin0.out _ _ (by unfold UpD;simp only;omega))
  ·rw [show h % 2=0 by omega] at q2
   have hD:crsZ es h=⟨dx,dy⟩:=by unfold crsZ;rw [if_neg hm,hi,← hdx,← hdy]
   rw [hD] at fin0 fin1;replace fin0:=Hd fin0;replace fin1:=Hd fin1;replace hD:=Hd hD;clear hp hh hi hdx hdy hm hE hLc hLv hd
   gi_wp2
   all_goals ((try simp only [World.size_alloc]);first|exact fin1.out _ _ (by unfold UpD;simp only;omega)|exact fin0.out _ _ (by unfold UpD;simp only;omega))
 case done =>
  rintro D ys W hD hys ⟨⟨hp,hca,hcr,hfr,hsz⟩,hB⟩ hK;have hlc:=(hB.cell (p:=⟨b,off+(L.length - 1),none⟩) hb).trans (hLc (L.length - 1) (by omega));have q1:IntKind.i64.wrap ((L.length:Int) - 1)=((L.length - 1:Nat):Int):=(w6).trans (by omega)
  gi_wp2
  have hK':=(KeepsOthers.setCell W ⟨w.heap.size+1,0,none⟩ (.int .i64 ((nth 0 L (L.length - 1):Nat):Int))).same D _ hK rfl;refine⟨by simp,.inl ⟨_,_,rfl,run_takeDeferred hK',?_⟩⟩;have hc5:=cell_kept (World.cell?_setCell_same' W ⟨w.heap.size+1,0,none⟩ (.int .i64 ((nth 0 L (L.length - 1):Nat):Int)) (by rw [hcr];rfl)) (grownBy_putObj' _ D (.deferred none)) (fun r e=>by cases e;exact⟨_,hK',rfl⟩);refine⟨.int .i64 ((nth 0 L (L.length - 1):Nat):Int),?_,nth 0 L (L.length - 1),rfl,.inr ⟨rfl,fun q hq=>hp ⟨q,hq⟩ ((hys ⟨q,hq⟩).2 (Nat.zero_le _))⟩,(hB.setCell (p:=⟨w.heap.size+1,0,none⟩) (by simp) _).trans (belowK_b (w:=w) (Nat.le_refl _) _ D _ _ (by simp at hD;omega) hK' rfl rfl)⟩;simp [results,func84,go_sem,hc5]
 case stop =>
  rintro D c pre W hD hpre ⟨⟨rfl,p,k,he,hu,hnu,hcr⟩,hB⟩ hK
  gi_wp2
  refine⟨by simp,.inl ⟨_,_,rfl,run_takeDeferred hK,?_⟩⟩;have hc5:=cell_kept hcr (grownBy_putObj' _ D (.deferred none)) (fun r e=>by cases e;exact⟨_,hK,rfl⟩);refine⟨.int .i64 ((nth 0 L k.val:Nat):Int),?_,nth 0 L k.val,rfl,.inl ⟨k.val,k.isLt,rfl,hu,?_⟩,hB.trans (belowK_b (w:=w) (Nat.le_refl _) W D _ _ (by simp at hD;omega) hK rfl rfl)⟩
  ·simp [results,func84,go_sem,hc5]
  ·obtain⟨p',k',he',hd'⟩:=hpre
   rw [he] at he';obtain⟨rfl,he''⟩:=List.append_inj' he' rfl;cases he'';intro q hq hql;exact hnu ⟨q,hql⟩ ((hd' ⟨q,hql⟩).2 hq)
theorem outside_calls (a1 a2 a3:Option Addr) (n1 c1 n2 c2 n3 c3 c4 cap b be oe off:Nat) (es:List Ed) (L:List Nat) (w:World)
 (hE:∀ i,i<es.length→w.cell? ⟨be,oe+i*5+3,none⟩=some (.int .i64 (nth ed0 es i).dir.x)∧w.cell? ⟨be,oe+i*5+4,none⟩=some (.int .i64 (nth ed0 es i).dir.y)) (hbe:be<w.heap.size) (hb:b<w.heap.size)
 (hLc:∀ j,j<L.length→w.cell? ⟨b,off+j,none⟩=some (.int .i64 ((nth 0 L j:Nat):Int))) (hL0:0<L.length) (hlen:L.length≤1000000) (hLv:∀ j,j<L.length→nth 0 L j / 2<es.length) (hel:es.length≤400000) (hd:∀ e ∈ es,e.dir.dir) :
 Calls Tryz.prog 84 #[.agg #[.slice a1 n1 c1,.slice a2 n2 c2,.slice a3 n3 c3,.slice (some ⟨be,oe,none⟩) es.length c4],.slice (some ⟨b,off,none⟩) L.length cap] w fun e w'=>∃ r,e=.returned (.int .i64 ((r:Nat):Int))∧OutIs es L r∧Below w.heap.size w w' :=
 (callsIn_wide (n:=5)).1 (outside_in Fence.wide 5 trivial trivial trivial rfl (by omega) a1 a2 a3 n1 c1 n2 c2 n3 c3 c4 cap b be oe off es L w hE hbe hb hLc hL0 hlen hLv hel hd)
end Go.Proofs
namespace Go.Hp
open Go Go.RowKit
def nd (w:World):World:={ w with drawn:=0 }
theorem nd_drawn (w:World):(nd w).drawn=0:=rfl
theorem Heap.toD {w0 w:World} {H:List Chunk} (h:Heap w0 w H):Heap (nd w0) w H:=⟨h.os,h.tape,h.output,Nat.zero_le _,h.size,h.ok,h.apart⟩
theorem Heap.startD (w:World):Heap (nd w) w [.frz (Old w) w]:=(Heap.start w).toD
theorem Heap.belowD {w0 w w':World} {H:List Chunk} (h:Heap w0 w H) (h0:w0.drawn=0) (hb:Below w.heap.size w w'):Heap w0 w' H :=
 ⟨hb.os.trans h.os,hb.tape.trans h.tape,hb.output.trans h.output,by rw [h0];exact Nat.zero_le _,Nat.le_trans h.size hb.size,
  fun c hc=>Chunk.ok_of (h.ok c hc) hb.size (fun k hk=>hb.block k (Chunk.lt (h.ok c hc) hk)),h.apart⟩
theorem Heap.callD {w0 w w':World} {H:List Chunk} (h:Heap w0 w H) (h0:w0.drawn=0) (hb:Below w.heap.size w w'):Heap w0 w' (H++[.frz (New w w') w']):=by
 have h':=h.belowD h0 hb;refine⟨h'.os,h'.tape,h'.output,h'.drawn,h'.size,?_,?_⟩
 ·intro c hc
  rcases List.mem_append.1 hc with hc|hc
  ·exact h'.ok c hc
  ·simp at hc;subst hc
   exact fun k hk=>⟨hk.2,rfl⟩
 ·exact pairwise_snoc h'.apart fun c hc k hk hn=>by
   have:=Chunk.lt (h.ok c hc) hk;have:=hn.1;omega
theorem Heap.pcallD {w0 w wr w':World} {H:List Chunk} {F:Nat→Prop} (hS:Heap w0 w (.frz F wr::H)) (h0:w0.drawn=0) (hb:Below w.heap.size w w'):∃ F',(∀ k,F k→F' k)∧(∀ k,New w w' k→F' k)∧Heap w0 w' (.frz F' w'::H):=by
 refine⟨fun k=>F k∨New w w' k,fun k hk=>.inl hk,fun k hk=>.inr hk,?_⟩;have h1:=hS.callD h0 hb
 have h2:Heap w0 w' (.frz F wr::.frz (New w w') w'::H):=h1.perm (by
  simp only [List.cons_append];refine List.Perm.cons _ ?_;exact (List.perm_append_comm (l₁:=[Chunk.frz (New w w') w']) (l₂:=H)))
 exact h2.join
end Go.Hp
namespace Go.Proofs
open Go.RowKit Go.Hp Go.Shelf
theorem outside_any (a1 a2 a3 a4 al:Option Addr) (n1 c1 n2 c2 n3 c3 n4 c4 nl cl:Nat) (rs:List ER) (es:List Ed) (L:List Nat) (w:World) (S T:Nat→Prop)
 (hsl:SlC w S 5 (.slice a4 n4 c4) es.length (rs.flatMap ec)) (hes:IsEs w S rs es) (hN:Nats w T (.slice al nl cl) L)
 (hL0:0<L.length) (hlen:L.length≤1000000) (hLv:∀ j,j<L.length→nth 0 L j / 2<es.length) (hel:es.length≤400000) (hd:∀ e ∈ es,e.dir.dir) :
 Calls Tryz.prog 84 #[.agg #[.slice a1 n1 c1,.slice a2 n2 c2,.slice a3 n3 c3,.slice a4 n4 c4],.slice al nl cl] w fun e w'=>∃ r,e=.returned (.int .i64 ((r:Nat):Int))∧OutIs es L r∧Below w.heap.size w w':=by
 obtain⟨h1,a,cap,h2,h3,h4,h5,h6⟩:=hsl.old;cases h2;obtain⟨k1,b,kap,k2,k3,k4,k5,k6⟩:=(SlC.old hN.1);cases k2;rw [zs_length];have he0:0<es.length:=Nat.lt_of_le_of_lt (Nat.zero_le _) (hLv 0 hL0)
 obtain⟨ae,rfl⟩:∃ q,a4=some q:=by
  cases h:a4 with
  | none=>have:=(h5 h).1;omega
  | some q=>exact⟨q,rfl⟩
 obtain⟨ab,rfl⟩:∃ q,al=some q:=by
  cases h:al with
  | none=>have:=(k5 h).1;rw [zs_length] at this;omega
  | some q=>exact⟨q,rfl⟩
 have he:=h6 ae rfl;have hb:=k6 ab rfl;have hne:rs.flatMap ec≠[]:=fun e=>by rw [e] at h1;simp at h1;omega
 have hnb:(zs L).map (Value.int .i64)≠[]:=fun e=>by
  have:=congrArg List.length e;rw [List.length_map,zs_length,List.length_nil] at this;omega
 have se:=he.spot hne;have sb:=hb.spot hnb;have ie:=he.inS hne;have ib:=hb.inS hnb;obtain⟨be,oe,pe⟩:=ae;obtain⟨bb,ob,pb⟩:=ab;simp only at se sb;subst se;subst sb;refine outside_calls a1 a2 a3 n1 c1 n2 c2 n3 c3 _ _ bb be oe ob es L w ?_ ie ib ?_ hL0 hlen hLv hel hd
 ·intro i hi
  have hr:i<rs.length:=by rw [hes.len];exact hi
  have hp:=he.part (i*5) 5;rw [flat_cell ec_len er0 hr] at hp;rw [← (hes.el i hi).dir];exact⟨hp.cell 3 _ rfl,hp.cell 4 _ rfl⟩
 ·intro j hj
  refine hb.cell j _ ?_;rw [List.getElem?_map,zs,List.getElem?_map,List.getElem?_eq_getElem hj,nth_eq 0 L j hj]
  rfl
end Go.Proofs
namespace Go.Hp
open Go Go.RowKit
theorem Heap.pimport {w0 w wr w':World} {H B:List Chunk} {F F' S S':Nat→Prop} (hS:Heap w0 w (.frz F wr::H)) (hF:∀ k,S k→F k) (hp:Pure w S w' S') (hq:Heap w w' (.frz F' w'::B)) (hO:∀ k,Old w k→F' k) (hS':∀ k,S' k→F' k) :
 ∃ G,(∀ k,S' k→G k)∧(∀ k,F k→G k)∧Heap w0 w' (.frz G w'::(H++B)):=by
 have hb:=hS.below hp.below hp.drawn;have hwF:∀ k,F k→k<w.heap.size:=fun k hk=>(hS.ok (.frz F wr) (by simp) k hk).1
 have hwH:∀ c ∈ H,∀ k,c.has k→k<w.heap.size:=fun c hc k hk=>Chunk.lt (hS.ok c (by simp [hc])) hk
 have aS:=List.pairwise_cons.1 hS.apart;have aq:=List.pairwise_cons.1 hq.apart
 have hwB:∀ c ∈ B,∀ k,c.has k→w.heap.size≤k:=fun c hc k hk=>by
  refine Classical.byContradiction fun h=>?_
  exact aq.1 c hc k (hO k (by unfold Old;omega)) hk
 refine⟨fun k=>F k∨(F' k∧w.heap.size≤k),fun k hk=>?_,fun k hk=>.inl hk,hb.os,hb.tape,hb.output,hb.drawn,hb.size,?_,?_⟩
 ·rcases hp.new k hk with h|h
  ·exact .inl (hF k h)
  ·exact .inr ⟨hS' k hk,h.1⟩
 ·intro c hc
  rcases List.mem_cons.1 hc with rfl|hc
  ·rintro k (hk|hk)
   ·exact⟨Nat.lt_of_lt_of_le (hwF k hk) hp.below.size,rfl⟩
   ·exact⟨(hq.ok (.frz F' w') (by simp) k hk.1).1,rfl⟩
  ·rcases List.mem_append.1 hc with hc|hc
   ·exact hb.ok c (by simp [hc])
   ·exact hq.ok c (by simp [hc])
 ·refine List.pairwise_cons.2 ⟨?_,List.pairwise_append.2 ⟨aS.2,aq.2,?_⟩⟩
  ·rintro c hc k (hk|hk) hn
   ·rcases List.mem_append.1 hc with hc|hc
    ·exact aS.1 c hc k hk hn
    ·have:=hwB c hc k hn;have:=hwF k hk;omega
   ·rcases List.mem_append.1 hc with hc|hc
    ·have:=hwH c hc k hn;omega
    ·exact aq.1 c hc k hk.1 hn
  ·intro c hc d hd k hk hn
   have:=hwH c hc k hk;have:=hwB d hd k hn;omega
theorem Pure.startD (w:World) (S:Nat→Prop):Pure (nd w) S w S:=⟨⟨rfl,rfl,rfl,Nat.le_refl _,fun _ _=>rfl⟩,Nat.zero_le _,fun _ h=>h,fun _ h=>.inl h⟩
end Go.Hp
