/- Of FZ FE FO. -/
import Derived.RangeFuncBox
import Derived.RangeFuncNested
import Derived.RangeFuncBound
import Derived.RangeFuncCalls
import Derived.RangeFuncLeaves
import Derived.RangeFuncKeeps
import Derived.RangeFuncOwn
import Derived.RangeFuncFrom
import Derived.Shelf.Abstract
import Derived.OwnWalkIn
import Derived.TacticsInMore
import Derived.LoopNIn
import Derived.LoopIn
import Derived.Test.YtjeofihncbegfaaGreatQ32
set_option maxRecDepth 100000
set_option maxHeartbeats 16000000
set_option linter.unusedVariables false
set_option linter.unusedSimpArgs false
namespace Go.Hp
open Go.Proofs.Tryz
open Go Go.RowKit
def updTo (N l:List Nat):Nat→List Nat
 | 0=>N
 | i+1=>(updTo N l i).set (tw (nth 0 l i)) (nth 0 l ((i+l.length - 1) % l.length))
def nxTo (m:Nat) (RL:List (List Nat)):Nat→List Nat
 | 0=>List.replicate (2*m) 0
 | v+1=>updTo (nxTo m RL v) (nth [] RL v) (nth [] RL v).length
theorem updTo_length (N l:List Nat):∀ i,(updTo N l i).length=N.length
 | 0=>rfl
 | i+1=>by unfold updTo;rw [List.length_set];exact updTo_length N l i
theorem nxTo_length (m:Nat) (RL:List (List Nat)):∀ v,(nxTo m RL v).length=2*m
 | 0=>by simp [nxTo]
 | v+1=>by unfold nxTo;rw [updTo_length];exact nxTo_length m RL v
theorem nxTo_snoc (m:Nat) (RL:List (List Nat)) (L:List Nat):∀ v,v≤RL.length→nxTo m (RL++[L]) v=nxTo m RL v
 | 0,_=>rfl
 | v+1,h=>by
  unfold nxTo;rw [nxTo_snoc m RL L v (by omega),nth_append_left _ _ _ _ (by omega)]
structure AroundM (w:World) (S:Nat→Prop) (RL:List (List Nat)) (l:List (Int × (Option Addr × Nat × Nat))):Prop where
 keys:l.map (·.1)=((List.range RL.length).filter (fun v=>decide (nth [] RL v≠[]))).map (fun (v:Nat)=>(v:Int))
 vals:∀ p ∈ l,Nats w S (sv p.2) (nth [] RL p.1.toNat)
theorem AroundM.move {w wr:World} {S:Nat→Prop} {RL:List (List Nat)} {l:List (Int × (Option Addr × Nat × Nat))} (h:AroundM wr S RL l) (hk:∀ k,S k→w.heap[k]? = wr.heap[k]?):AroundM w S RL l:=⟨h.keys,fun p hp=>(h.vals p hp).move hk⟩
theorem AroundM.mono {w:World} {S T:Nat→Prop} {RL:List (List Nat)} {l:List (Int × (Option Addr × Nat × Nat))} (h:AroundM w S RL l) (hs:∀ k,S k→T k):AroundM w T RL l:=⟨h.keys,fun p hp=>(h.vals p hp).weaken hs⟩
theorem AroundM.skip {w:World} {S:Nat→Prop} {RL:List (List Nat)} {l:List (Int × (Option Addr × Nat × Nat))} (h:AroundM w S RL l):AroundM w S (RL++[[]]) l:=by
 refine⟨?_,fun p hp=>?_⟩
 ·rw [h.keys,List.length_append,List.length_singleton,List.range_succ,List.filter_append,List.map_append]
  have e1:List.filter (fun v=>decide (nth [] (RL++[[]]) v≠[])) [RL.length]=[]:=by
   rw [List.filter_cons_of_neg]
   ·rfl
   ·simp [nth_snoc]
  rw [e1,List.map_nil,List.append_nil]
  congr 1
  apply List.filter_congr;intro v hv;rw [List.mem_range] at hv;rw [nth_append_left _ _ _ _ hv]
 ·have h1:=h.vals p hp
  have hk:p.1 ∈ l.map (·.1):=List.mem_map.2 ⟨p,hp,rfl⟩;rw [h.keys,List.mem_map] at hk;obtain⟨v,hv,e⟩:=hk;rw [List.mem_filter,List.mem_range] at hv;rw [nth_append_left _ _ _ _ (by omega)];exact h1
theorem AroundM.absent {w:World} {S:Nat→Prop} {RL:List (List Nat)} {l:List (Int × (Option Addr × Nat × Nat))} (h:AroundM w S RL l):getL l (RL.length:Int)=none:=by
 refine getL_none (fun hm=>?_);rw [h.keys,List.mem_map] at hm;obtain⟨v,hv,e⟩:=hm;rw [List.mem_filter,List.mem_range] at hv;omega
theorem AroundM.add {w:World} {S:Nat→Prop} {RL:List (List Nat)} {l:List (Int × (Option Addr × Nat × Nat))} (h:AroundM w S RL l) {L:List Nat} (hL:L≠[]) {s:Option Addr × Nat × Nat} (hs:Nats w S (sv s) L):AroundM w S (RL++[L]) (putL l (RL.length:Int) s):=by
 rw [putL_new h.absent];refine⟨?_,fun p hp=>?_⟩
 ·rw [List.map_append,h.keys,List.length_append,List.length_singleton,List.range_succ,List.filter_append,List.map_append]
  have e1:List.filter (fun v=>decide (nth [] (RL++[L]) v≠[])) [RL.length]=[RL.length]:=by
   rw [List.filter_cons_of_pos]
   ·rfl
   ·simp [nth_snoc,hL]
  rw [e1];simp only [List.map_cons,List.map_nil]
  congr 2
  apply List.filter_congr;intro v hv;rw [List.mem_range] at hv;rw [nth_append_left _ _ _ _ hv]
 ·rcases List.mem_append.1 hp with hp|hp
  ·have h1:=h.vals p hp
   have hk:p.1 ∈ l.map (·.1):=List.mem_map.2 ⟨p,hp,rfl⟩;rw [h.keys,List.mem_map] at hk;obtain⟨v,hv,e⟩:=hk;rw [List.mem_filter,List.mem_range] at hv;rw [nth_append_left _ _ _ _ (by omega)];exact h1
  ·rw [List.mem_singleton] at hp
   subst hp;simp only [Int.toNat_natCast];rw [nth_snoc];exact hs
theorem Heap.mergeR {w0 w wr:World} {F:Nat→Prop} {c1 c2 c3 r:Chunk} (hS:Heap w0 w [.frz F wr,c1,c2,c3,r]):Heap w0 w [.frz (fun k=>F k∨r.has k) w,c1,c2,c3]:=by
 have h1:=(hS.freeze 4 rfl).order [0,4,1,2,3] rfl;simp only [List.set_cons_succ,List.set_cons_zero,List.filterMap_cons,List.getElem?_cons_zero,List.getElem?_cons_succ,List.filterMap_nil] at h1;exact h1.join
end Go.Hp
namespace Go.Proofs
open Go.Proofs.Tryz
open Go.RowKit Go.Hp
theorem AroundL.lt {es:List Ed} {v:Nat} {L:List Nat} (h:AroundL es v L):∀ x ∈ L,x / 2<es.length:=fun x hx=>outsTo_lt ((h.perm.mem_iff).1 hx)
theorem next_any (a1 a2 a3 a4:Option Addr) (n1 c1 n2 c2 n3 c3 n4 c4:Nat) (rs:List ER) (es:List Ed) (w:World) (S:Nat→Prop) (hL:Liv w S) (hsl:SlC w S 5 (.slice a4 n4 c4) es.length (rs.flatMap ec)) (hes:IsEs w S rs es) (hd:∀ e ∈ es,e.dir.dir) (hel:es.length≤30000) (hn3:n3≤65536) :
 Calls Tryz.prog 41 #[.agg #[.slice a1 n1 c1,.slice a2 n2 c2,.slice a3 n3 c3,.slice a4 n4 c4]] w fun e w'=>∃ (RL:List (List Nat)) (g c bm:Nat) (o:Obj) (l:List (Int × (Option Addr × Nat × Nat))) (F' S':Nat→Prop),e=.returned (.tuple #[.slice (some ⟨g,0,none⟩) (2*es.length) c,.map (some bm)])∧Heap w w' [.frz F' w',.row (.slice (some ⟨g,0,none⟩) (2*es.length) c) 3 1 (2*es.length) (iv (zs (nxTo es.length RL n3))),.blk bm o]∧(∀ k,S' k→F' k)∧(∀ k,Old w k→F' k)∧Pure w S w' S'∧Liv w' S'∧MapIs ik sv o l∧RL.length=n3∧(∀ v,v<n3→AroundL es v (nth [] RL v))∧AroundM w' S' RL l:=by
 have hn4:n4=es.length:=by obtain⟨h1,a,cap,h2,_⟩:=hsl;cases h2;rfl
 subst hn4;have w2m:IntKind.i64.wrap (2*(es.length:Int))=((2*es.length:Nat):Int):=w7;have ar:=fun v w' S hL hsl hes (hv:v<n3)=>around_any a1 a2 a3 a4 n1 c1 n2 c2 n3 c3 es.length c4 rs es v w' S hL hsl hes hd (by omega) hv (by omega)
 obtain⟨hS,hF0,hO0,hp0⟩:=st0 hL
 go_enter func41,ntmps41
 go_wp2_with (first|(with_reducible refine bxA hS fun bx wbx hS=>?_)|((with_reducible refine g_mm (T:=89) ?_);refine seq_makeMap hS (fun bm wbm hS=>?_);simp only [NRM];simp only [NRH] at hS)|(with_reducible refine ldB 1 hS isAgg26 ?_)|((with_reducible refine g_mks' (T:=22) ?_);refine seq_make_ints (n:=2*es.length) (T:=22) (E:=3) hS underlying22 infoI rfl rfl (by omega) (by omega) (fun g wg hS=>?_);simp only [NRM];simp only [NRH] at hS)|(with_reducible refine ldB 1 hS isAgg25 ?_))
 try try simp only [NRG]
 have hz0:List.replicate (2*es.length) (0:Int)=zs (nxTo es.length [] 0):=by simp [nxTo,zs]
 rw [hz0] at hS;clear hz0;have hmi:MapIs ik sv (.map #[] 0) []:=MapIs.empty _ _;have hAM:AroundM w S [] []:=⟨rfl,fun p hp=>by cases hp⟩
 go_loopw [20] (fun v20 wr=>∃ (F S':Nat→Prop) (wq:World) (RL:List (List Nat)) (o:Obj) (l:List (Int × (Option Addr × Nat × Nat))),RL.length≤n3∧v20=.int .i64 (RL.length:Int)∧Heap w wr [.frz F wq,.blk bx (.cells #[.slice a1 n1 c1,.slice a2 n2 c2,.slice a3 n3 c3,.slice a4 es.length c4] 28 (0,0)),.blk bm o,.row (.slice (some ⟨g,0,none⟩) (2*es.length) (2*es.length)) 3 1 (2*es.length) (iv (zs (nxTo es.length RL RL.length)))]∧(∀ k,S' k→F k)∧(∀ k,Old w k→F k)∧Pure w S wq S'∧Liv wq S'∧SlC wq S' 5 (.slice a4 es.length c4) es.length (rs.flatMap ec)∧IsEs wq S' rs es∧MapIs ik sv o l∧Hid (∀ v,v<RL.length→AroundL es v (nth [] RL v))∧AroundM wq S' RL l) (fun v20 _=>n3 - (intOf v20).toNat)
 case atStart=>exact⟨_,S,w,[],_,[],by simp,rfl,hS,hF0,hO0,hp0,hL,hsl,hes,hmi,Hd (fun v hv=>by simp at hv),hAM⟩
 case round =>
  clear hS hF0 hO0 hp0 hL hsl hes hmi hAM;obtain⟨F0,S0,wq,RL,o,l,hk,rfl,hS,hF0,hO0,hp0,hL0,hsl,hes,hmi,hRL,hAM⟩:=hrel
  by_cases hkl:RL.length<n3
  ·have hnl:=nxTo_length es.length RL RL.length
   go_wp2_with (with_reducible refine ldA 1 hS isAgg28 sizeOf28 ?_)
   refine (ar RL.length _ S0 (Liv.at hS hF0) (hsl.move (hS.keep hF0)) (hes.at hS hF0) hkl).mono ?_;rintro e wc ⟨ad,n,c,h,rfl,hS1,hAr⟩;replace hS:=hS.import hS1;simp only [NRH] at hS;clear hS1;have hrow:=hS.rowSl 4 rfl
   have hnl:n=h.length:=by
    have:=hrow.1;rw [iv_length,zs_length,Nat.mul_one] at this;exact this.symm
   subst hnl;have hlt:=hAr.lt;have hhl:h.length≤es.length:=by rw [hAr.perm.length_eq];exact outsTo_len _
   have hNr:Nats wc (Chunk.row (.slice ad h.length c) 3 1 h.length (iv (zs h))).has (.slice ad h.length c) h:=⟨by rw [zs_length];exact hrow,inI_zs (fun x hx=>by have:=hlt x hx;omega)⟩;have hps:=hp0.step hS hO0 hF0;have hnew:∀ k,(Chunk.row (.slice ad h.length c) 3 1 h.length (iv (zs h))).has k→New w wc k:=fun k hk=>hS.isNewC hO0 (List.mem_of_getElem? (i:=3) rfl) hk
   have hsl1:=hsl.move (hS.keep hF0);have hes1:=hes.at hS hF0;have hAM1:=hAM.move (hS.keep hF0);replace hS:=Heap.mergeR hS;obtain⟨T,hT⟩:∃ T,T=(Chunk.row (.slice ad h.length c) 3 1 h.length (iv (zs h))).has:=⟨_,rfl⟩;rw [← hT] at hS hNr hnew;clear hT hrow;have hp1:Pure w S wc (fun k=>S0 k∨T k):=⟨hps.below,hps.drawn,fun k hk=>.inl (hps.sub k hk),fun k hk=>hk.elim (hps.new k) (fun hk=>.inr (hnew k hk))⟩;have hF1:∀ k,(S0 k∨T k)→(F0 k∨T k):=fun k hk=>hk.elim (fun hk=>.inl (hF0 k hk)) .inr
   have hO1:∀ k,Old w k→(F0 k∨T k):=fun k hk=>.inl (hO0 k hk)
   have hL1:Liv wc (fun k=>S0 k∨T k):=fun k hk=>(hS.ok (.frz (fun k=>F0 k∨T k) wc) (List.mem_of_getElem? (i:=0) rfl) k (hF1 k hk)).1
   have hsl2:=hsl1.weaken (T:=fun k=>S0 k∨T k) (fun k hk=>.inl hk);have hes2:=hes1.weaken (T:=fun k=>S0 k∨T k) (fun k hk=>.inl hk);have hAM2:=hAM1.mono (T:=fun k=>S0 k∨T k) (fun k hk=>.inl hk);have hNr2:Nats wc (fun k=>S0 k∨T k) (.slice ad h.length c) h:=hNr.weaken (fun k hk=>.inr hk);have hNr3:Nats wc (fun k=>F0 k∨T k) (.slice ad h.length c) h:=hNr.weaken (fun k hk=>.inr hk)
   have hRL2:∀ v,v<(RL++[h]).length→AroundL es v (nth [] (RL++[h]) v):=fun v hv=>by
    rw [List.length_append,List.length_singleton] at hv
    by_cases e:v=RL.length
    ·subst e;rw [nth_snoc];exact hAr
    ·rw [nth_append_left _ _ _ _ (by omega)];exact hRL.out v (by omega)
   have hlen2:(RL++[h]).length=RL.length+1:=by simp
   have hnx2:nxTo es.length (RL++[h]) (RL++[h]).length=updTo (nxTo es.length RL RL.length) h h.length:=by
    rw [hlen2];show updTo (nxTo es.length (RL++[h]) RL.length) (nth [] (RL++[h]) RL.length) (nth [] (RL++[h]) RL.length).length=_;rw [nth_snoc,nxTo_snoc _ _ _ _ (Nat.le_refl _)]
   replace hRL2:=Hd hRL2;replace hlen2:=Hd hlen2;replace hnx2:=Hd hnx2;replace hlt:=Hd hlt;clear hNr hnew hps hsl1 hes1 hAM1 hAr hsl hes hL0 hp0 hF0 hO0;simp only []
   by_cases hh:h=[]
   ·subst hh
    have hAM3:=hAM2.skip;go_wp2;go_roundw
    case rel=>exact⟨_,_,wc,RL++[[]],o,l,by rw [hlen2.out];omega,by rw [hlen2.out];simp,by rw [hnx2.out];exact hS,hF1,hO1,hp1,hL1,hsl2,hes2,hmi,hRL2,hAM3⟩
    case measure=>simp [intOf];omega
   ·have hAM3:=hAM2.add (s:=(ad,h.length,c)) hh hNr2
    have hl0:((h.length:Int) == 0)=false:=by
     rw [beq_eq_false_iff_ne];intro e;exact hh (List.length_eq_zero_iff.1 (by omega))
    have hl1:0<h.length:=Nat.pos_of_ne_zero (fun e=>hh (List.length_eq_zero_iff.1 e));replace hh:=Hd hh;obtain⟨N0,hN0⟩:∃ N0,nxTo es.length RL RL.length=N0:=⟨_,rfl⟩;have hN0l:N0.length=2*es.length:=by rw [← hN0];exact nxTo_length _ _ _
    rw [hN0] at hS hnx2;replace hN0:=Hd hN0
    go_wp2_with (first|((with_reducible refine g_mu (T:=89) ?_);refine seq_mapUpdate (ev:=sv) (k:=(RL.length:Int)) (v:=(ad,h.length,c)) 2 hS underlying89 (keyOk_int underlying3) rfl rfl rfl rfl hmi rfl (fun ou wu hmu hS=>?_);simp only [NRM];simp only [NRH] at hS))
    go_loopw [41] (fun v41 wr=>∃ i:Nat,i≤h.length∧v41=.int .i64 (i:Int)∧Heap w wr [.frz (fun k=>F0 k∨T k) wc,.blk bx (.cells #[.slice a1 n1 c1,.slice a2 n2 c2,.slice a3 n3 c3,.slice a4 es.length c4] 28 (0,0)),.blk bm ou,.row (.slice (some ⟨g,0,none⟩) (2*es.length) (2*es.length)) 3 1 (2*es.length) (iv (zs (updTo N0 h i)))]) (fun v41 _=>h.length - (intOf v41).toNat)
    case atStart=>exact⟨0,by omega,rfl,hS⟩
    case round =>
     clear hS;obtain⟨i,hi,rfl,hS⟩:=hrel
     by_cases hil:i<h.length
     ·have hx1:=hlt.out _ (nth_mem 0 h i hil)
      have hxb:=xor1_bits (h:=nth 0 h i) (by omega);have htl:tw (nth 0 h i)<2*es.length:=tw_lt (m:=es.length) (by omega);obtain⟨j,hj⟩:∃ j,(i+h.length - 1) % h.length=j:=⟨_,rfl⟩;have hjl:j<h.length:=by rw [← hj];exact Nat.mod_lt _ hl1
      have m1:IntKind.i64.wrap ((i:Int)+(h.length:Int))=(i:Int)+(h.length:Int):=w6;have m2:IntKind.i64.wrap ((i:Int)+(h.length:Int) - 1)=(i:Int)+(h.length:Int) - 1:=w6
      have m3:((i:Int)+(h.length:Int) - 1) % (h.length:Int)=(j:Int):=by
       rw [← hj,Int.natCast_emod];congr 1;omega
      have m4:((i:Int)+(h.length:Int) - 1).tmod (h.length:Int)=(j:Int):=by rw [Int.tmod_eq_emod_of_nonneg (by omega)];exact m3
      have m5:IntKind.i64.wrap (j:Int)=(j:Int):=w6;have hul:=updTo_length N0 h i
      have hst:(zs (updTo N0 h i)).set (tw (nth 0 h i)) ((nth 0 h j:Nat):Int)=zs (updTo N0 h (i+1)):=by
       show _=zs ((updTo N0 h i).set (tw (nth 0 h i)) (nth 0 h ((i+h.length - 1) % h.length)));rw [hj];simp [zs]
      replace hst:=Hd hst;replace hul:=Hd hul;clear hj
      go_wp2_with (with_reducible first|refine ixN underlying22 sizeOf3 fun _ _ _=>?_|refine ld0 hS isAgg3 ?_|refine ixS underlying22 sizeOf3 ?_|refine stR 3 hS sizeOf3 fun _ hS=>?_)
      rw [hst.out] at hS;go_roundw
      case rel=>exact⟨i+1,by omega,by simp,hS⟩
      case measure=>simp [intOf];omega
     ·obtain rfl:h.length=i:=by omega
      go_wp2;go_roundw
      case rel=>exact⟨_,_,wc,RL++[h],ou,_,by rw [hlen2.out];omega,by rw [hlen2.out];simp,by rw [hnx2.out];exact hS,hF1,hO1,hp1,hL1,hsl2,hes2,hmu,hRL2,hAM3⟩
      case measure=>simp [intOf];omega
  ·obtain rfl:RL.length=n3:=by omega
   go_wp2;refine bodyPost_ret (results_tmp2 rfl _ _ _) rfl ?_;have hps:=hp0.step hS hO0 hF0;have hAM1:=hAM.move (hS.keep hF0);have hL1:=Liv.at hS hF0;have hS:=(hS.freeze 0 rfl).order [0,3,2,1] rfl;simp only [List.set_cons_succ,List.set_cons_zero,List.filterMap_cons,List.getElem?_cons_zero,List.getElem?_cons_succ,List.filterMap_nil] at hS;exact⟨RL,g,2*es.length,bm,o,l,F0,S0,rfl,hS.sb,hF0,hO0,hps,hL1,hmi,rfl,hRL.out,hAM1⟩
end Go.Proofs
namespace Go.Hp
open Go Go.RowKit
def orgE (es:List Ed) (h:Nat):Nat:=if h % 2=0 then (nth ed0 es (h / 2)).a else (nth ed0 es (h / 2)).b
theorem mem_outs1 {es:List Ed} {v i h:Nat} (hne:(nth ed0 es i).a≠(nth ed0 es i).b):h ∈ outs1 es v i↔h / 2=i∧orgE es h=v:=by
 unfold outs1 orgE
 constructor
 ·intro hh
  split at hh
  ·rename_i e
   rw [List.mem_singleton] at hh;subst hh;have h1:2*i / 2=i:=by omega
   have h2:2*i % 2=0:=by omega
   rw [h1,if_pos h2];exact⟨rfl,e⟩
  ·split at hh
   ·rename_i e
    rw [List.mem_singleton] at hh;subst hh;have h1:(2*i+1) / 2=i:=by omega
    have h2:¬ (2*i+1) % 2=0:=by omega
    rw [h1,if_neg h2];exact⟨rfl,e⟩
   ·cases hh
 ·rintro⟨rfl,ho⟩
  by_cases e:h % 2=0
  ·rw [if_pos e] at ho
   rw [if_pos ho,List.mem_singleton];omega
  ·rw [if_neg e] at ho
   rw [if_neg (fun h1=>hne (h1.trans ho.symm)),if_pos ho,List.mem_singleton];omega
theorem mem_outsTo {es:List Ed} {v h:Nat}:∀ {k:Nat},k≤es.length→(∀ e ∈ es,e.a≠e.b)→(h ∈ outsTo es v k↔h / 2<k∧orgE es h=v)
 | 0,_,_=>⟨fun h=>(by cases h),fun h=>absurd h.1 (Nat.not_lt_zero _)⟩
 | k+1,hk,hne=>by
  show h ∈ outsTo es v k++outs1 es v k↔_;rw [List.mem_append,mem_outsTo (by omega) hne,mem_outs1 (hne _ (nth_mem ed0 es k (by omega)))]
  constructor
  ·rintro (⟨a,b⟩|⟨a,b⟩)
   ·exact⟨by omega,b⟩
   ·exact⟨by omega,b⟩
  ·rintro⟨a,b⟩
   by_cases e:h / 2=k
   ·exact .inr ⟨e,b⟩
   ·exact .inl ⟨by omega,b⟩
theorem outs_nodup {es:List Ed} {v:Nat}:∀ {k:Nat},k≤es.length→(∀ e ∈ es,e.a≠e.b)→(outsTo es v k).Nodup
 | 0,_,_=>List.nodup_nil
 | k+1,hk,hne=>by
  show (outsTo es v k++outs1 es v k).Nodup;refine List.nodup_append.2 ⟨outs_nodup (by omega) hne,?_,fun x hx y hy e=>?_⟩
  ·unfold outs1;split
   ·simp
   ·split <;> simp
  ·subst e
   have h1:=(mem_outsTo (by omega) hne).1 hx;have h2:=(mem_outs1 (hne _ (nth_mem ed0 es k (by omega)))).1 hy;omega
structure RLok (es:List Ed) (n:Nat) (RL:List (List Nat)):Prop where
 len:RL.length=n
 nodup:∀ v,v<n→(nth [] RL v).Nodup
 mem:∀ v h,v<n→(h ∈ nth [] RL v↔h<2*es.length∧orgE es h=v)
theorem nth_nodup {l:List Nat} (h:l.Nodup) {i j:Nat} (hi:i<l.length) (hj:j<l.length) (e:nth 0 l i=nth 0 l j):i=j:=by
 rw [nth_eq _ _ _ hi,nth_eq _ _ _ hj] at e
 rcases Nat.lt_trichotomy i j with hij|hij|hij
 ·exact absurd e (List.pairwise_iff_getElem.1 h i j hi hj hij)
 ·exact hij
 ·exact absurd e.symm (List.pairwise_iff_getElem.1 h j i hj hi hij)
theorem updTo_spec {N l:List Nat} (hn:l.Nodup) (hl:∀ x ∈ l,tw x<N.length):∀ i,i≤l.length→(∀ j,j<i→nth 0 (updTo N l i) (tw (nth 0 l j))=nth 0 l ((j+l.length - 1) % l.length))∧∀ k,(∀ j,j<i→tw (nth 0 l j)≠k)→nth 0 (updTo N l i) k=nth 0 N k
 | 0,_=>⟨fun j hj=>by omega,fun k _=>rfl⟩
 | i+1,hi=>by
  obtain⟨ih1,ih2⟩:=updTo_spec hn hl i (by omega);have hlt:tw (nth 0 l i)<(updTo N l i).length:=by rw [updTo_length];exact hl _ (nth_mem 0 l i (by omega))
  refine⟨fun j hj=>?_,fun k hk=>?_⟩
  ·show nth 0 ((updTo N l i).set (tw (nth 0 l i)) _) _=_
   rw [nth_setG _ _ _ _ _ hlt]
   by_cases e:j=i
   ·subst e;rw [if_pos rfl]
   ·rw [if_neg (fun h=>e (nth_nodup hn (by omega) (by omega) (tw_inj h)))]
    exact ih1 j (by omega)
  ·show nth 0 ((updTo N l i).set (tw (nth 0 l i)) _) _=_
   rw [nth_setG _ _ _ _ _ hlt,if_neg (fun h=>hk i (by omega) h.symm)];exact ih2 k (fun j hj=>hk j (by omega))
theorem nxTo_spec {es:List Ed} {n:Nat} {RL:List (List Nat)} (h:RLok es n RL):∀ v,v≤n→∀ u,u<v→∀ j,j<(nth [] RL u).length→nth 0 (nxTo es.length RL v) (tw (nth 0 (nth [] RL u) j))=nth 0 (nth [] RL u) ((j+(nth [] RL u).length - 1) % (nth [] RL u).length)
 | 0,_=>fun u hu=>by omega
 | v+1,hv=>fun u hu j hj=>by
  have ih:=nxTo_spec h v (by omega)
  have hl:∀ x ∈ nth [] RL v,tw x<(nxTo es.length RL v).length:=fun x hx=>by
   rw [nxTo_length];exact tw_lt ((h.mem v x (by omega)).1 hx).1
  obtain⟨s1,s2⟩:=updTo_spec (N:=nxTo es.length RL v) (h.nodup v (by omega)) hl _ (Nat.le_refl _);show nth 0 (updTo (nxTo es.length RL v) (nth [] RL v) (nth [] RL v).length) _=_
  by_cases e:u=v
  ·subst e;exact s1 j hj
  ·rw [s2 _ (fun i hi he=>?_)]
   ·exact ih u (by omega) j hj
   ·have h1:=tw_inj he
    have h2:=((h.mem v _ (by omega)).1 (nth_mem 0 _ i hi)).2;have h3:=((h.mem u _ (by omega)).1 (nth_mem 0 _ j hj)).2;rw [h1] at h2;omega
theorem orgE_lt {es:List Ed} {n h:Nat} (hab:∀ e ∈ es,e.a<n∧e.b<n) (hh:h<2*es.length):orgE es h<n:=by
 have:=hab _ (nth_mem ed0 es (h / 2) (by omega));unfold orgE;split
 ·exact this.1
 ·exact this.2
theorem next_at {es:List Ed} {n:Nat} {RL:List (List Nat)} (h:RLok es n RL) (hab:∀ e ∈ es,e.a<n∧e.b<n) {k:Nat} (hk:k<2*es.length) :
 ∃ j,j<(nth [] RL (orgE es (tw k))).length∧nth 0 (nth [] RL (orgE es (tw k))) j=tw k∧nth 0 (nxTo es.length RL n) k=nth 0 (nth [] RL (orgE es (tw k))) ((j+(nth [] RL (orgE es (tw k))).length - 1) % (nth [] RL (orgE es (tw k))).length):=by
 have ht:=tw_lt hk;have hu:=orgE_lt hab ht;have hm:=(h.mem _ (tw k) hu).2 ⟨ht,rfl⟩;obtain⟨j,hj,e⟩:=List.getElem_of_mem hm;have e2:nth 0 (nth [] RL (orgE es (tw k))) j=tw k:=by rw [nth_eq _ _ _ hj];exact e
 refine⟨j,hj,e2,?_⟩;have:=nxTo_spec h n (Nat.le_refl _) _ hu j hj;rw [e2,tw_tw] at this;exact this
theorem next_perm {es:List Ed} {n:Nat} {RL:List (List Nat)} (h:RLok es n RL) (hab:∀ e ∈ es,e.a<n∧e.b<n):IsPerm (nxTo es.length RL n)∧∀ k,k<2*es.length→orgE es (nth 0 (nxTo es.length RL n) k)=orgE es (tw k):=by
 have hin:∀ k,k<2*es.length→nth 0 (nxTo es.length RL n) k<2*es.length∧orgE es (nth 0 (nxTo es.length RL n) k)=orgE es (tw k):=fun k hk=>by
  obtain⟨j,hj,e1,e2⟩:=next_at h hab hk;rw [e2];exact (h.mem _ _ (orgE_lt hab (tw_lt hk))).1 (nth_mem 0 _ _ (Nat.mod_lt _ (by omega)))
 refine⟨⟨fun k hk=>?_,fun k k' hk hk' e=>?_⟩,fun k hk=>(hin k hk).2⟩
 ·rw [nxTo_length] at hk ⊢;exact (hin k hk).1
 ·rw [nxTo_length] at hk hk'
  have ho:orgE es (tw k)=orgE es (tw k'):=by rw [← (hin k hk).2,← (hin k' hk').2,e]
  obtain⟨j,hj,e1,e2⟩:=next_at h hab hk;obtain⟨j',hj',e1',e2'⟩:=next_at h hab hk';rw [← ho] at hj' e1' e2';rw [e2,e2'] at e;have hu:=orgE_lt hab (tw_lt hk);have hnd:=h.nodup _ hu;generalize nth [] RL (orgE es (tw k))=l at *;have h3:=nth_nodup hnd (Nat.mod_lt _ (by omega)) (Nat.mod_lt _ (by omega)) e
  have h4:j=j':=by
   have key:∀ j,j<l.length→(j+l.length - 1) % l.length=if j=0 then l.length - 1 else j - 1:=fun j hj=>by
    split
    ·subst_vars;rw [Nat.zero_add];exact Nat.mod_eq_of_lt (by omega)
    ·have:j+l.length - 1=(j - 1)+l.length:=by omega
     rw [this,Nat.add_mod_right];exact Nat.mod_eq_of_lt (by omega)
   rw [key j hj,key j' hj'] at h3
   split at h3 <;> split at h3 <;> omega
  subst h4;exact tw_inj (e1.symm.trans e1')
end Go.Hp
namespace Go.Proofs
open Go.RowKit Go.Hp
theorem RLok.of {es:List Ed} {n:Nat} {RL:List (List Nat)} (hne:∀ e ∈ es,e.a≠e.b) (hl:RL.length=n) (h:∀ v,v<n→AroundL es v (nth [] RL v)):RLok es n RL :=
 ⟨hl,fun v hv=>(h v hv).perm.nodup_iff.2 (outs_nodup (Nat.le_refl _) hne),fun v x hv=>by
  rw [(h v hv).perm.mem_iff];show x ∈ outsTo es v es.length↔_;rw [mem_outsTo (Nat.le_refl _) hne]
  constructor
  ·rintro⟨a,b⟩;exact⟨by omega,b⟩
  ·rintro⟨a,b⟩;exact⟨by omega,b⟩⟩
end Go.Proofs
namespace Go.Proofs
open Go.Proofs.Tryz
open Go.RowKit Go.Shelf Go.Hp
attribute [local go_sem] Oper.semAt_some
def Desc {len:Nat} (ys:List (Fin len)) (c:Nat):Prop:=∀ q:Fin len,q ∈ ys↔c≤q.val
theorem backward1_in (F:Fence) (n:Nat) (h7:F.fn 161) (hro:F.round=none) (hn:1≤n) (l Bs n₀ b off len cap:Nat) (L:Nat→Int) (hlen:len≤1000000) (hb:b<n₀) (hBs:Bs<n₀) (J Jx:List (Fin len)→World→Prop)
 (hY:∀ pre (x:Fin len) W,J pre W→pre.length<len→YieldAt F (n - 1) Tryz.prog l #[.int .i64 (x.val:Int),.int .i64 (L x.val)] W fun e W' =>
  (e=.returned (.bool true)∧J (pre++[x]) W'∧Below n₀ W W')∨(e=.returned (.bool false)∧Jx (pre++[x]) W'))
 (W:World) (hcB:W.cell? ⟨Bs,0,none⟩=some (.slice (some ⟨b,off,none⟩) len cap)) (hc:∀ j,j<len→W.cell? ⟨b,off+j,none⟩=some (.int .i64 (L j))) (h0:J [] W) :
 CallsIn F n Tryz.prog 161 #[.func (.yield l) #[] #[],.pointer (some ⟨Bs,0,none⟩)] W fun e W'=>(∃ v,e=.returned v) ∧
  ((∃ ys,Desc ys 0∧J ys W')∨(∃ pre,(∃ p k,pre=p++[k]∧Desc p (k.val+1))∧Jx pre W')):=by
 refine callsIn_of_wp func161 rfl h7 ?_ hro;simp only [ntmps161,List.size_toArray,List.length_cons,List.length_nil,Nat.reduceAdd,Nat.reduceSub,Array.replicate_succ,Array.replicate_zero,List.push_toArray,List.append_toArray,List.nil_append,List.cons_append];have w0:IntKind.i64.wrap ((len:Int) - 1)=(len:Int) - 1:=w6
 gi_wp2
 gi_loopw [3] (fun i wr=>∃ (j:Nat) (z:Int) (ys:List (Fin len)),j≤len∧i=.int .i64 z∧z+1=(j:Int)∧Desc ys j∧ys.length+j=len∧J ys wr∧Below n₀ W wr)
  (fun i _=>(intOf i+1).toNat)
 case atStart=>exact⟨len,(len:Int) - 1,[],Nat.le_refl _,rfl,by omega,fun q=>by simp,by simp,h0,Below.refl _ _⟩
 case round =>
  obtain⟨j,z,ys,hj,rfl,hz,hD,hyl,hJs,hnx⟩:=hrel;have hcB':=(hnx.cell (p:=⟨Bs,0,none⟩) hBs).trans hcB;cases j with
  | zero =>
   obtain rfl:z = -1:=by omega
   gi_wp2
   go_end0
   exact⟨⟨_,rfl⟩,.inl ⟨ys,hD,hJs⟩⟩
  | succ q =>
   obtain rfl:z=(q:Int):=by omega
   have hq:q<len:=by omega
   have hcx:=(hnx.cell (p:=⟨b,off+q,none⟩) hb).trans (hc q hq);obtain⟨fn,tmps,assign,body,hy,hR⟩:=hY ys ⟨q,hq⟩ wr hJs (by omega);simp only at hR hy;have w1:IntKind.i64.wrap ((q:Int) - 1)=(q:Int) - 1:=w6
   gi_wp2
   refine hR.mono ?_;rintro e W3 (⟨rfl,hJ3,hk3⟩|⟨rfl,hJx3⟩)
   ·have hD2:Desc (ys++[(⟨q,hq⟩:Fin len)]) q:=fun r=>by
     rw [List.mem_append,hD r,List.mem_singleton]
     constructor
     ·rintro (h|h)
      ·omega
      ·rw [h];exact Nat.le_refl _
     ·intro h
      by_cases e:r.val=q
      ·exact .inr (Fin.ext e)
      ·exact .inl (by omega)
    have hl2:(ys++[(⟨q,hq⟩:Fin len)]).length+q=len:=by simp;omega
    have hb2:=hnx.trans hk3;replace hD2:=Hd hD2;replace hl2:=Hd hl2
    gi_wp2
    go_roundw
    case rel=>exact⟨q,(q:Int) - 1,ys++[⟨q,hq⟩],by omega,rfl,by omega,hD2.out,hl2.out,hJ3,hb2⟩
    case measure=>simp only [intOf];omega
   ·gi_wp2
    refine bodyPost_ret (results_none rfl _ _ _) rfl ?_;exact⟨⟨_,rfl⟩,.inr ⟨ys++[⟨q,hq⟩],⟨ys,⟨q,hq⟩,rfl,hD⟩,hJx3⟩⟩
theorem backward_stops (F:Fence) (n:Nat) (h7:F.fn 161) (hro:F.round=none) (hn:1≤n) (Bs b off len cap:Nat) (L:Nat→Int) (hlen:len≤1000000) (w:World) (hb:b<w.heap.size) (hBs:Bs<w.heap.size)
 (hcB:w.cell? ⟨Bs,0,none⟩=some (.slice (some ⟨b,off,none⟩) len cap)) (hc:∀ j,j<len→w.cell? ⟨b,off+j,none⟩=some (.int .i64 (L j))) :
 SeqStopsK F n Tryz.prog 161 #[.pointer (some ⟨Bs,0,none⟩)] (fun x:Fin len=>#[Value.int .i64 (x.val:Int),Value.int .i64 (L x.val)]) (Below w.heap.size) (fun ys=>Desc ys 0) (fun pre=>∃ p k,pre=p++[k]∧Desc p (k.val+1)) len w:=fun l J Jx W hW _ _ hY h0 =>
 backward1_in F n h7 hro hn l Bs w.heap.size b off len cap L hlen hb hBs J Jx (fun pre x W1 h1 h2=>hY pre x W1 h1 h2) W ((hW.cell (p:=⟨Bs,0,none⟩) hBs).trans hcB) (fun j hj=>(hW.cell (p:=⟨b,off+j,none⟩) hb).trans (hc j hj)) h0
theorem backward_in (F:Fence) (n:Nat) (h5:F.fn 102) (hro:F.round=none) (ad:Option Addr) (len cap:Nat) (w:World) :
 CallsIn F n Tryz.prog 102 #[.slice ad len cap] w fun e w'=>e=.returned (.func (.func 161) #[] #[.pointer (some ⟨w.heap.size,0,none⟩)])∧w'=w.alloc (.cells #[.slice ad len cap] 22 (0,0)):=by
 refine callsIn_of_wp func102 rfl h5 ?_ hro;simp only [ntmps102,List.size_toArray,List.length_cons,List.length_nil,Nat.reduceAdd,Nat.reduceSub,Array.replicate_succ,Array.replicate_zero,List.push_toArray,List.append_toArray,List.nil_append,List.cons_append]
 gi_wp2
 go_ret;exact⟨rfl,rfl⟩
def OutIs (es:List Ed) (L:List Nat) (r:Nat):Prop:=(∃ k,k<L.length∧r=nth 0 L k∧UpD (crsZ es r)∧∀ q,k<q→q<L.length→¬ UpD (crsZ es (nth 0 L q)))∨(r=nth 0 L (L.length - 1)∧∀ q,q<L.length→¬ UpD (crsZ es (nth 0 L q)))
end Go.Proofs
