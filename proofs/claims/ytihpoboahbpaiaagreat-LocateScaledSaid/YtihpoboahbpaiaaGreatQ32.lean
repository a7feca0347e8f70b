/- Texts for the walk of the law: FZ FB. -/
import Derived.Test.YtihpoboahbpaiaaGreatQ31
set_option maxRecDepth 100000
set_option maxHeartbeats 16000000
set_option linter.unusedVariables false
set_option linter.unusedSimpArgs false
namespace Go.Hp
open Go.Proofs.Tryz
open Go Go.RowKit
def updTo (N l:List Nat):Nat→List Nat
 | 0=>N
 | i+1=>(updTo N l i).set (tw (nth 0 l i)) (nth 0 l ((i+l.length - 1) % l.length))
def nxTo (m:Nat) (RL:List (List Nat)):Nat→List Nat
 | 0=>List.replicate (2*m) 0
 | v+1=>updTo (nxTo m RL v) (nth [] RL v) (nth [] RL v).length
theorem updTo_length (N l:List Nat):∀ i,(updTo N l i).length=N.length
 | 0=>rfl
 | i+1=>by unfold updTo;rw [List.length_set];exact updTo_length N l i
theorem nxTo_length (m:Nat) (RL:List (List Nat)):∀ v,(nxTo m RL v).length=2*m
 | 0=>by simp [nxTo]
 | v+1=>by unfold nxTo;rw [updTo_length];exact nxTo_length m RL v
theorem nxTo_snoc (m:Nat) (RL:List (List Nat)) (L:List Nat):∀ v,v≤RL.length→nxTo m (RL++[L]) v=nxTo m RL v
 | 0,_=>rfl
 | v+1,h=>by
  unfold nxTo;rw [nxTo_snoc m RL L v (by omega),nth_append_left _ _ _ _ (by omega)]
structure AroundM (w:World) (S:Nat→Prop) (RL:List (List Nat)) (l:List (Int × (Option Addr × Nat × Nat))):Prop where
 keys:l.map (·.1)=((List.range RL.length).filter (fun v=>decide (nth [] RL v≠[]))).map (fun (v:Nat)=>(v:Int))
 vals:∀ p ∈ l,Nats w S (sv p.2) (nth [] RL p.1.toNat)
theorem AroundM.move {w wr:World} {S:Nat→Prop} {RL:List (List Nat)} {l:List (Int × (Option Addr × Nat × Nat))} (h:AroundM wr S RL l) (hk:∀ k,S k→w.heap[k]? = wr.heap[k]?):AroundM w S RL l:=⟨h.keys,fun p hp=>(h.vals p hp).move hk⟩
theorem AroundM.mono {w:World} {S T:Nat→Prop} {RL:List (List Nat)} {l:List (Int × (Option Addr × Nat × Nat))} (h:AroundM w S RL l) (hs:∀ k,S k→T k):AroundM w T RL l:=⟨h.keys,fun p hp=>(h.vals p hp).weaken hs⟩
theorem AroundM.skip {w:World} {S:Nat→Prop} {RL:List (List Nat)} {l:List (Int × (Option Addr × Nat × Nat))} (h:AroundM w S RL l):AroundM w S (RL++[[]]) l:=by
 refine⟨?_,fun p hp=>?_⟩
 ·rw [h.keys,List.length_append,List.length_singleton,List.range_succ,List.filter_append,List.map_append]
  have e1:List.filter (fun v=>decide (nth [] (RL++[[]]) v≠[])) [RL.length]=[]:=by
   rw [List.filter_cons_of_neg]
   ·rfl
   ·simp [nth_snoc]
  rw [e1,List.map_nil,List.append_nil]
  congr 1
  apply List.filter_congr;intro v hv;rw [List.mem_range] at hv;rw [nth_append_left _ _ _ _ hv]
 ·have h1:=h.vals p hp
  have hk:p.1 ∈ l.map (·.1):=List.mem_map.2 ⟨p,hp,rfl⟩;rw [h.keys,List.mem_map] at hk;obtain⟨v,hv,e⟩:=hk;rw [List.mem_filter,List.mem_range] at hv;rw [nth_append_left _ _ _ _ (by omega)];exact h1
theorem AroundM.absent {w:World} {S:Nat→Prop} {RL:List (List Nat)} {l:List (Int × (Option Addr × Nat × Nat))} (h:AroundM w S RL l):getL l (RL.length:Int)=none:=by
 refine getL_none (fun hm=>?_);rw [h.keys,List.mem_map] at hm;obtain⟨v,hv,e⟩:=hm;rw [List.mem_filter,List.mem_range] at hv;omega
theorem AroundM.add {w:World} {S:Nat→Prop} {RL:List (List Nat)} {l:List (Int × (Option Addr × Nat × Nat))} (h:AroundM w S RL l) {L:List Nat} (hL:L≠[]) {s:Option Addr × Nat × Nat} (hs:Nats w S (sv s) L):AroundM w S (RL++[L]) (putL l (RL.length:Int) s):=by
 rw [putL_new h.absent];refine⟨?_,fun p hp=>?_⟩
 ·rw [List.map_append,h.keys,List.length_append,List.length_singleton,List.range_succ,List.filter_append,List.map_append]
  have e1:List.filter (fun v=>decide (nth [] (RL++[L]) v≠[])) [RL.length]=[RL.length]:=by
   rw [List.filter_cons_of_pos]
   ·rfl
   ·simp [nth_snoc,hL]
  rw [e1];simp only [List.map_cons,List.map_nil]
  congr 2
  apply List.filter_congr;intro v hv;rw [List.mem_range] at hv;rw [nth_append_left _ _ _ _ hv]
 ·rcases List.mem_append.1 hp with hp|hp
  ·have h1:=h.vals p hp
   have hk:p.1 ∈ l.map (·.1):=List.mem_map.2 ⟨p,hp,rfl⟩;rw [h.keys,List.mem_map] at hk;obtain⟨v,hv,e⟩:=hk;rw [List.mem_filter,List.mem_range] at hv;rw [nth_append_left _ _ _ _ (by omega)];exact h1
  ·rw [List.mem_singleton] at hp
   subst hp;simp only [Int.toNat_natCast];rw [nth_snoc];exact hs
theorem Heap.mergeR {w0 w wr:World} {F:Nat→Prop} {c1 c2 c3 r:Chunk} (hS:Heap w0 w [.frz F wr,c1,c2,c3,r]):Heap w0 w [.frz (fun k=>F k∨r.has k) w,c1,c2,c3]:=by
 have h1:=(hS.freeze 4 rfl).order [0,4,1,2,3] rfl;simp only [List.set_cons_succ,List.set_cons_zero,List.filterMap_cons,List.getElem?_cons_zero,List.getElem?_cons_succ,List.filterMap_nil] at h1;exact h1.join
end Go.Hp
namespace Go.Proofs
open Go.Proofs.Tryz
open Go.RowKit Go.Hp
theorem AroundL.lt {es:List Ed} {v:Nat} {L:List Nat} (h:AroundL es v L):∀ x ∈ L,x / 2<es.length:=fun x hx=>outsTo_lt ((h.perm.mem_iff).1 hx)
theorem next_any (a1 a2 a3 a4:Option Addr) (n1 c1 n2 c2 n3 c3 n4 c4:Nat) (rs:List ER) (es:List Ed) (w:World) (S:Nat→Prop) (hL:Liv w S) (hsl:SlC w S 5 (.slice a4 n4 c4) es.length (rs.flatMap ec)) (hes:IsEs w S rs es) (hd:∀ e ∈ es,e.dir.dir) (hel:es.length≤30000) (hn3:n3≤65536) :
 Calls Tryz.prog 81 #[.agg #[.slice a1 n1 c1,.slice a2 n2 c2,.slice a3 n3 c3,.slice a4 n4 c4]] w fun e w'=>∃ (RL:List (List Nat)) (g c bm:Nat) (o:Obj) (l:List (Int × (Option Addr × Nat × Nat))) (F' S':Nat→Prop),e=.returned (.tuple #[.slice (some ⟨g,0,none⟩) (2*es.length) c,.map (some bm)])∧Heap w w' [.frz F' w',.row (.slice (some ⟨g,0,none⟩) (2*es.length) c) 3 1 (2*es.length) (iv (zs (nxTo es.length RL n3))),.blk bm o]∧(∀ k,S' k→F' k)∧(∀ k,Old w k→F' k)∧Pure w S w' S'∧Liv w' S'∧MapIs ik sv o l∧RL.length=n3∧(∀ v,v<n3→AroundL es v (nth [] RL v))∧AroundM w' S' RL l:=by
 have hn4:n4=es.length:=by obtain⟨h1,a,cap,h2,_⟩:=hsl;cases h2;rfl
 subst hn4;have w2m:IntKind.i64.wrap (2*(es.length:Int))=((2*es.length:Nat):Int):=w7;have ar:=fun v w' S hL hsl hes (hv:v<n3)=>around_any a1 a2 a3 a4 n1 c1 n2 c2 n3 c3 es.length c4 rs es v w' S hL hsl hes hd (by omega) hv (by omega)
 obtain⟨hS,hF0,hO0,hp0⟩:=st0 hL
 go_enter func81,ntmps81
 go_wp2_with (first|(with_reducible refine bxA hS fun bx wbx hS=>?_)|((with_reducible refine g_mm (T:=159) ?_);refine seq_makeMap hS (fun bm wbm hS=>?_);simp only [NRM];simp only [NRH] at hS)|(with_reducible refine ldB 1 hS isAgg32 ?_)|((with_reducible refine g_mks' (T:=22) ?_);refine seq_make_ints (n:=2*es.length) (T:=22) (E:=3) hS underlying22 infoI rfl rfl (by omega) (by omega) (fun g wg hS=>?_);simp only [NRM];simp only [NRH] at hS)|(with_reducible refine ldB 1 hS isAgg31 ?_))
 try try simp only [NRG]
 have hz0:List.replicate (2*es.length) (0:Int)=zs (nxTo es.length [] 0):=by simp [nxTo,zs]
 rw [hz0] at hS;clear hz0;have hmi:MapIs ik sv (.map #[] 0) []:=MapIs.empty _ _;have hAM:AroundM w S [] []:=⟨rfl,fun p hp=>by cases hp⟩
 go_loopw [20] (fun v20 wr=>∃ (F S':Nat→Prop) (wq:World) (RL:List (List Nat)) (o:Obj) (l:List (Int × (Option Addr × Nat × Nat))),RL.length≤n3∧v20=.int .i64 (RL.length:Int)∧Heap w wr [.frz F wq,.blk bx (.cells #[.slice a1 n1 c1,.slice a2 n2 c2,.slice a3 n3 c3,.slice a4 es.length c4] 34 (0,0)),.blk bm o,.row (.slice (some ⟨g,0,none⟩) (2*es.length) (2*es.length)) 3 1 (2*es.length) (iv (zs (nxTo es.length RL RL.length)))]∧(∀ k,S' k→F k)∧(∀ k,Old w k→F k)∧Pure w S wq S'∧Liv wq S'∧SlC wq S' 5 (.slice a4 es.length c4) es.length (rs.flatMap ec)∧IsEs wq S' rs es∧MapIs ik sv o l∧Hid (∀ v,v<RL.length→AroundL es v (nth [] RL v))∧AroundM wq S' RL l) (fun v20 _=>n3 - (intOf v20).toNat)
 case atStart=>exact⟨_,S,w,[],_,[],by simp,rfl,hS,hF0,hO0,hp0,hL,hsl,hes,hmi,Hd (fun v hv=>by simp at hv),hAM⟩
 case round =>
  clear hS hF0 hO0 hp0 hL hsl hes hmi hAM;obtain⟨F0,S0,wq,RL,o,l,hk,rfl,hS,hF0,hO0,hp0,hL0,hsl,hes,hmi,hRL,hAM⟩:=hrel
  by_cases hkl:RL.length<n3
  ·have hnl:=nxTo_length es.length RL RL.length
   go_wp2_with (with_reducible refine ldA 1 hS isAgg34 sizeOf34 ?_)
   refine (ar RL.length _ S0 (Liv.at hS hF0) (hsl.move (hS.keep hF0)) (hes.at hS hF0) hkl).mono ?_;rintro e wc ⟨ad,n,c,h,rfl,hS1,hAr⟩;replace hS:=hS.import hS1;simp only [NRH] at hS;clear hS1;have hrow:=hS.rowSl 4 rfl
   have hnl:n=h.length:=by
    have:=hrow.1;rw [iv_length,zs_length,Nat.mul_one] at this;exact this.symm
   subst hnl;have hlt:=hAr.lt;have hhl:h.length≤es.length:=by rw [hAr.perm.length_eq];exact outsTo_len _
   have hNr:Nats wc (Chunk.row (.slice ad h.length c) 3 1 h.length (iv (zs h))).has (.slice ad h.length c) h:=⟨by rw [zs_length];exact hrow,inI_zs (fun x hx=>by have:=hlt x hx;omega)⟩;have hps:=hp0.step hS hO0 hF0;have hnew:∀ k,(Chunk.row (.slice ad h.length c) 3 1 h.length (iv (zs h))).has k→New w wc k:=fun k hk=>hS.isNewC hO0 (List.mem_of_getElem? (i:=3) rfl) hk
   have hsl1:=hsl.move (hS.keep hF0);have hes1:=hes.at hS hF0;have hAM1:=hAM.move (hS.keep hF0);replace hS:=Heap.mergeR hS;obtain⟨T,hT⟩:∃ T,T=(Chunk.row (.slice ad h.length c) 3 1 h.length (iv (zs h))).has:=⟨_,rfl⟩;rw [← hT] at hS hNr hnew;clear hT hrow;have hp1:Pure w S wc (fun k=>S0 k∨T k):=⟨hps.below,hps.drawn,fun k hk=>.inl (hps.sub k hk),fun k hk=>hk.elim (hps.new k) (fun hk=>.inr (hnew k hk))⟩;have hF1:∀ k,(S0 k∨T k)→(F0 k∨T k):=fun k hk=>hk.elim (fun hk=>.inl (hF0 k hk)) .inr
   have hO1:∀ k,Old w k→(F0 k∨T k):=fun k hk=>.inl (hO0 k hk)
   have hL1:Liv wc (fun k=>S0 k∨T k):=fun k hk=>(hS.ok (.frz (fun k=>F0 k∨T k) wc) (List.mem_of_getElem? (i:=0) rfl) k (hF1 k hk)).1
   have hsl2:=hsl1.weaken (T:=fun k=>S0 k∨T k) (fun k hk=>.inl hk);have hes2:=hes1.weaken (T:=fun k=>S0 k∨T k) (fun k hk=>.inl hk);have hAM2:=hAM1.mono (T:=fun k=>S0 k∨T k) (fun k hk=>.inl hk);have hNr2:Nats wc (fun k=>S0 k∨T k) (.slice ad h.length c) h:=hNr.weaken (fun k hk=>.inr hk);have hNr3:Nats wc (fun k=>F0 k∨T k) (.slice ad h.length c) h:=hNr.weaken (fun k hk=>.inr hk)
   have hRL2:∀ v,v<(RL++[h]).length→AroundL es v (nth [] (RL++[h]) v):=fun v hv=>by
    rw [List.length_append,List.length_singleton] at hv
    by_cases e:v=RL.length
    ·subst e;rw [nth_snoc];exact hAr
    ·rw [nth_append_left _ _ _ _ (by omega)];exact hRL.out v (by omega)
   have hlen2:(RL++[h]).length=RL.length+1:=by simp
   have hnx2:nxTo es.length (RL++[h]) (RL++[h]).length=updTo (nxTo es.length RL RL.length) h h.length:=by
    rw [hlen2];show updTo (nxTo es.length (RL++[h]) RL.length) (nth [] (RL++[h]) RL.length) (nth [] (RL++[h]) RL.length).length=_;rw [nth_snoc,nxTo_snoc _ _ _ _ (Nat.le_refl _)]
   replace hRL2:=Hd hRL2;replace hlen2:=Hd hlen2;replace hnx2:=Hd hnx2;replace hlt:=Hd hlt;clear hNr hnew hps hsl1 hes1 hAM1 hAr hsl hes hL0 hp0 hF0 hO0;simp only []
   by_cases hh:h=[]
   ·subst hh
    have hAM3:=hAM2.skip;go_wp2;go_roundw
    case rel=>exact⟨_,_,wc,RL++[[]],o,l,by rw [hlen2.out];omega,by rw [hlen2.out];simp,by rw [hnx2.out];exact hS,hF1,hO1,hp1,hL1,hsl2,hes2,hmi,hRL2,hAM3⟩
    case measure=>simp [intOf];omega
   ·have hAM3:=hAM2.add (s:=(ad,h.length,c)) hh hNr2
    have hl0:((h.length:Int) == 0)=false:=by
     rw [beq_eq_false_iff_ne];intro e;exact hh (List.length_eq_zero_iff.1 (by omega))
    have hl1:0<h.length:=Nat.pos_of_ne_zero (fun e=>hh (List.length_eq_zero_iff.1 e));replace hh:=Hd hh;obtain⟨N0,hN0⟩:∃ N0,nxTo es.length RL RL.length=N0:=⟨_,rfl⟩;have hN0l:N0.length=2*es.length:=by rw [← hN0];exact nxTo_length _ _ _
    rw [hN0] at hS hnx2;replace hN0:=Hd hN0
    go_wp2_with (first|((with_reducible refine g_mu (T:=159) ?_);refine seq_mapUpdate (ev:=sv) (k:=(RL.length:Int)) (v:=(ad,h.length,c)) 2 hS underlying159 (keyOk_int underlying3) rfl rfl rfl rfl hmi rfl (fun ou wu hmu hS=>?_);simp only [NRM];simp only [NRH] at hS))
    go_loopw [41] (fun v41 wr=>∃ i:Nat,i≤h.length∧v41=.int .i64 (i:Int)∧Heap w wr [.frz (fun k=>F0 k∨T k) wc,.blk bx (.cells #[.slice a1 n1 c1,.slice a2 n2 c2,.slice a3 n3 c3,.slice a4 es.length c4] 34 (0,0)),.blk bm ou,.row (.slice (some ⟨g,0,none⟩) (2*es.length) (2*es.length)) 3 1 (2*es.length) (iv (zs (updTo N0 h i)))]) (fun v41 _=>h.length - (intOf v41).toNat)
    case atStart=>exact⟨0,by omega,rfl,hS⟩
    case round =>
     clear hS;obtain⟨i,hi,rfl,hS⟩:=hrel
     by_cases hil:i<h.length
     ·have hx1:=hlt.out _ (nth_mem 0 h i hil)
      have hxb:=xor1_bits (h:=nth 0 h i) (by omega);have htl:tw (nth 0 h i)<2*es.length:=tw_lt (m:=es.length) (by omega);obtain⟨j,hj⟩:∃ j,(i+h.length - 1) % h.length=j:=⟨_,rfl⟩;have hjl:j<h.length:=by rw [← hj];exact Nat.mod_lt _ hl1
      have m1:IntKind.i64.wrap ((i:Int)+(h.length:Int))=(i:Int)+(h.length:Int):=w6;have m2:IntKind.i64.wrap ((i:Int)+(h.length:Int) - 1)=(i:Int)+(h.length:Int) - 1:=w6
      have m3:((i:Int)+(h.length:Int) - 1) % (h.length:Int)=(j:Int):=by
       rw [← hj,Int.natCast_emod];congr 1;omega
      have m4:((i:Int)+(h.length:Int) - 1).tmod (h.length:Int)=(j:Int):=by rw [Int.tmod_eq_emod_of_nonneg (by omega)];exact m3
      have m5:IntKind.i64.wrap (j:Int)=(j:Int):=w6;have hul:=updTo_length N0 h i
      have hst:(zs (updTo N0 h i)).set (tw (nth 0 h i)) ((nth 0 h j:Nat):Int)=zs (updTo N0 h (i+1)):=by
       show _=zs ((updTo N0 h i).set (tw (nth 0 h i)) (nth 0 h ((i+h.length - 1) % h.length)));rw [hj];simp [zs]
      replace hst:=Hd hst;replace hul:=Hd hul;clear hj
      go_wp2_with (with_reducible first|refine ixN underlying22 sizeOf3 fun _ _ _=>?_|refine ld0 hS isAgg3 ?_|refine ixS underlying22 sizeOf3 ?_|refine stR 3 hS sizeOf3 fun _ hS=>?_)
      rw [hst.out] at hS;go_roundw
      case rel=>exact⟨i+1,by omega,by simp,hS⟩
      case measure=>simp [intOf];omega
     ·obtain rfl:h.length=i:=by omega
      go_wp2;go_roundw
      case rel=>exact⟨_,_,wc,RL++[h],ou,_,by rw [hlen2.out];omega,by rw [hlen2.out];simp,by rw [hnx2.out];exact hS,hF1,hO1,hp1,hL1,hsl2,hes2,hmu,hRL2,hAM3⟩
      case measure=>simp [intOf];omega
  ·obtain rfl:RL.length=n3:=by omega
   go_wp2;refine bodyPost_ret (results_tmp2 rfl _ _ _) rfl ?_;have hps:=hp0.step hS hO0 hF0;have hAM1:=hAM.move (hS.keep hF0);have hL1:=Liv.at hS hF0;have hS:=(hS.freeze 0 rfl).order [0,3,2,1] rfl;simp only [List.set_cons_succ,List.set_cons_zero,List.filterMap_cons,List.getElem?_cons_zero,List.getElem?_cons_succ,List.filterMap_nil] at hS;exact⟨RL,g,2*es.length,bm,o,l,F0,S0,rfl,hS.sb,hF0,hO0,hps,hL1,hmi,rfl,hRL.out,hAM1⟩
end Go.Proofs
namespace Go.Hp
open Go Go.RowKit
structure FI where
 N:List Nat
 m:Nat
 n:Nat
 root:List Nat
 out:Nat→Nat
 hasE:Nat→Bool
 bel:Nat→Option Nat
def FI.around (x:FI) (d:List Nat) (k:Nat):Bool:=d.any fun v=>nth 0 x.root v == v && (orb x.N (x.out v)).contains k
def FI.L1 (x:FI) (d:List Nat):List Int:=(List.range x.N.length).map fun k=>if x.around d k then -2 else -1
def FI.keys (x:FI):List Nat:=(List.range x.n).filter x.hasE
def FI.ph2 (x:FI):Nat→List Int × List Int
 | 0=>(x.L1 x.keys,[-1])
 | h+1=>if nth 0 (x.ph2 h).1 h = -1 then (setAll (x.ph2 h).1 (orb x.N h) (x.ph2 h).2.length,(x.ph2 h).2++[(leastF x.N h:Int)]) else x.ph2 h
def FI.L2 (x:FI):List Int:=(x.ph2 x.N.length).1
def FI.O (x:FI):List Int:=(x.ph2 x.N.length).2
def FI.face (x:FI) (L:List Int) (v:Nat):Int:=match x.bel v with|none=>0|some e=>nth 0 L (2*e)
def addAt (I:List (List Nat)) (i y:Nat):List (List Nat):=I.set i (nth [] I i++[y])
structure F3 where
 L:List Int
 I:List (List Nat)
 A:List (List Nat)
def FI.step3 (x:FI) (s:F3) (v:Nat):F3 :=
 if nth 0 x.root v=v then
  if x.hasE v=true then ⟨setAll s.L (orb x.N (x.out v)) (x.face s.L v),addAt s.I (x.face s.L v).toNat (leastF x.N (x.out v)),s.A⟩
  else ⟨s.L,s.I,addAt s.A (x.face s.L v).toNat v⟩
 else s
def FI.ph3 (x:FI):Nat→F3
 | 0=>⟨x.L2,List.replicate x.O.length [],List.replicate x.O.length []⟩
 | v+1=>x.step3 (x.ph3 v) v
structure FI.Ok (x:FI) (org:Nat→Nat):Prop where
 perm:IsPerm x.N
 len:x.N.length=2*x.m
 org_lt:∀ h,h<x.N.length→org h<x.n
 next_org:∀ h,h<x.N.length→org (nth 0 x.N h)=org (tw h)
 root_le:∀ v,v<x.n→nth 0 x.root v≤v
 root_idem:∀ v,v<x.n→nth 0 x.root (nth 0 x.root v)=nth 0 x.root v
 root_edge:∀ h,h<x.N.length→nth 0 x.root (org h)=nth 0 x.root (org (tw h))
 out_lt:∀ v,v<x.n→x.hasE v=true→x.out v<x.N.length
 out_org:∀ v,v<x.n→x.hasE v=true→org (x.out v)=v
 hasE_of:∀ h,h<x.N.length→x.hasE (org h)=true
 root_has:∀ v,v<x.n→x.hasE v=true→x.hasE (nth 0 x.root v)=true
 alone:∀ v,v<x.n→x.hasE v=false→nth 0 x.root v=v
 bel_ok:∀ v e,v<x.n→x.bel v=some e→e<x.m∧org (2*e)<v
def FI.W (x:FI) (k:Nat):Prop:=x.around x.keys k=true
instance (x:FI) (k:Nat):Decidable (x.W k):=by unfold FI.W;infer_instance
section
variable {x:FI} {org:Nat→Nat} (hx:x.Ok org)
theorem FI.W_iff (x:FI) (k:Nat):x.W k↔∃ v,v<x.n∧x.hasE v=true∧nth 0 x.root v=v∧k ∈ orb x.N (x.out v):=by
 unfold FI.W FI.around FI.keys;simp only [List.any_eq_true,List.mem_filter,List.mem_range,Bool.and_eq_true,beq_iff_eq,List.contains_iff_mem]
 constructor
 ·rintro⟨v,⟨a,b⟩,c,d⟩;exact⟨v,a,b,c,d⟩
 ·rintro⟨v,a,b,c,d⟩;exact⟨v,⟨a,b⟩,c,d⟩
 include hx
theorem FI.Ok.comp_next {h:Nat} (hh:h<x.N.length):nth 0 x.root (org (nth 0 x.N h))=nth 0 x.root (org h):=by
 rw [hx.next_org h hh,hx.root_edge h hh]
theorem FI.Ok.comp_it {h:Nat} (hh:h<x.N.length):∀ j,nth 0 x.root (org (it x.N j h))=nth 0 x.root (org h)
 | 0=>rfl
 | j+1=>by
  show nth 0 x.root (org (nth 0 x.N (it x.N j h)))=_;rw [hx.comp_next (it_lt hx.perm hh j),FI.Ok.comp_it hh j]
theorem FI.Ok.comp_orb {h k:Nat} (hh:h<x.N.length) (hk:k ∈ orb x.N h):nth 0 x.root (org k)=nth 0 x.root (org h):=by
 obtain⟨j,rfl⟩:=(mem_orb hx.perm hh k).1 hk;exact hx.comp_it hh j
theorem FI.Ok.W_orb {h k:Nat} (hh:h<x.N.length) (hk:k ∈ orb x.N h):x.W k↔x.W h:=by
 rw [x.W_iff,x.W_iff];have hkl:=orb_lt hx.perm hh hk
 constructor
 ·rintro⟨v,a,b,c,d⟩
  exact⟨v,a,b,c,orb_trans hx.perm (hx.out_lt v a b) d (orb_symm hx.perm hh hk)⟩
 ·rintro⟨v,a,b,c,d⟩
  exact⟨v,a,b,c,orb_trans hx.perm (hx.out_lt v a b) d hk⟩
theorem FI.Ok.W_least {h:Nat} (hh:h<x.N.length):x.W (leastF x.N h)↔x.W h:=hx.W_orb hh (leastF_spec hx.perm hh).1
theorem FI.Ok.W_own {k:Nat} (hk:k<x.N.length) (h:x.W k):nth 0 x.root (org k)<x.n∧x.hasE (nth 0 x.root (org k))=true∧nth 0 x.root (nth 0 x.root (org k))=nth 0 x.root (org k)∧k ∈ orb x.N (x.out (nth 0 x.root (org k))):=by
 obtain⟨v,a,b,c,d⟩:=(x.W_iff k).1 h;have e:=hx.comp_orb (hx.out_lt v a b) d;rw [hx.out_org v a b,c] at e;rw [e];exact⟨a,b,c,d⟩
theorem FI.Ok.W_out {v:Nat} (hv:v<x.n) (hr:nth 0 x.root v=v) (he:x.hasE v=true) {k:Nat} (hk:k<x.N.length):k ∈ orb x.N (x.out v)↔x.W k∧nth 0 x.root (org k)=v:=by
 constructor
 ·intro h
  refine⟨(x.W_iff k).2 ⟨v,hv,he,hr,h⟩,?_⟩;rw [hx.comp_orb (hx.out_lt v hv he) h,hx.out_org v hv he,hr]
 ·rintro⟨h1,h2⟩
  have:=(hx.W_own hk h1).2.2.2
  rwa [h2] at this
structure Ph2 (x:FI) (h:Nat) (L O:List Int):Prop where
 len:L.length=x.N.length
 pos:0<O.length
 zero:nth 0 O 0 = -1
 outs:∀ i,0<i→i<O.length→∃ q:Nat,nth 0 O i=(q:Int)∧q<x.N.length∧leastF x.N q=q∧¬ x.W q∧nth 0 L q=(i:Int)
 w:∀ k,k<x.N.length→x.W k→nth 0 L k = -2
 low:∀ k,k<x.N.length→¬ x.W k→leastF x.N k<h→∃ i:Nat,0<i∧i<O.length∧nth 0 L k=(i:Int)∧nth 0 O i=(leastF x.N k:Int)
 high:∀ k,k<x.N.length→¬ x.W k→h≤leastF x.N k→nth 0 L k = -1
 many:O.length≤h+1
 omit hx in
theorem FI.L1_length (x:FI) (d:List Nat):(x.L1 d).length=x.N.length:=by unfold FI.L1;simp
 omit hx in
theorem FI.nth_L1 (x:FI) (d:List Nat) {k:Nat} (hk:k<x.N.length):nth 0 (x.L1 d) k=if x.around d k=true then -2 else -1:=by
  rw [nth_eq _ _ _ (by rw [x.L1_length];exact hk)];unfold FI.L1;simp
theorem FI.Ok.ph2:∀ h,h≤x.N.length→Ph2 x h (x.ph2 h).1 (x.ph2 h).2
 | 0,_=>by
  refine⟨x.L1_length _,by simp [FI.ph2],rfl,fun i h0 hi=>by simp [FI.ph2] at hi;omega,fun k hk hw=>?_,fun k hk hw h0=>by omega,fun k hk hw h0=>?_,by simp [FI.ph2]⟩
  ·show nth 0 (x.L1 x.keys) k = -2
   rw [x.nth_L1 _ hk,if_pos (show x.around x.keys k=true from hw)]
  ·show nth 0 (x.L1 x.keys) k = -1
   rw [x.nth_L1 _ hk,if_neg (show ¬ x.around x.keys k=true from hw)]
 | h+1,hh=>by
  have ih:=FI.Ok.ph2 h (by omega);have hl:h<x.N.length:=by omega
  unfold FI.ph2;generalize x.ph2 h=s at ih;obtain⟨L,O⟩:=s;simp only at ih ⊢
  by_cases h1:nth 0 L h = -1
  ·rw [if_pos h1]
   have hnw:¬ x.W h:=fun hw=>by rw [ih.w h hl hw] at h1;omega
   have hle:leastF x.N h=h:=by
    have h2:=leastF_le hx.perm hl
    by_cases h3:leastF x.N h<h
    ·obtain⟨i,i0,_,e,_⟩:=ih.low h hl hnw h3;omega
    ·omega
   have hmem:∀ k,k<x.N.length→(k ∈ orb x.N h↔leastF x.N k=h):=fun k hk=>by
    constructor
    ·intro hm;rw [leastF_of hx.perm hl hm,hle]
    ·intro e;exact orb_of_least hx.perm hl hk (by rw [hle,e])
   have hset:∀ k,k<x.N.length→nth 0 (setAll L (orb x.N h) O.length) k=if leastF x.N k=h then (O.length:Int) else nth 0 L k:=fun k hk=>by
    rw [nth_setAll _ _ _ (fun k hk=>by rw [ih.len];exact orb_lt hx.perm hl hk)]
    by_cases hm:k ∈ orb x.N h
    ·rw [if_pos hm,if_pos ((hmem k hk).1 hm)]
    ·rw [if_neg hm,if_neg (fun e=>hm ((hmem k hk).2 e))]
   refine⟨by rw [setAll_length];exact ih.len,by simp,by rw [nth_append_left _ _ _ _ ih.pos];exact ih.zero,fun i i0 hi=>?_,fun k hk hw=>?_,fun k hk hw hlow=>?_,fun k hk hw hhigh=>?_,by have:=ih.many;simp;omega⟩
   ·rw [List.length_append,List.length_singleton] at hi
    by_cases hi2:i<O.length
    ·obtain⟨q,e,q1,q2,q3,q4⟩:=ih.outs i i0 hi2
     refine⟨q,by rw [nth_append_left _ _ _ _ hi2];exact e,q1,q2,q3,?_⟩;rw [hset q q1,if_neg ?_]
     ·exact q4
     ·intro e2
      rw [q2] at e2;subst e2;omega
    ·obtain rfl:i=O.length:=by omega
     exact⟨h,by rw [nth_snoc,hle],hl,hle,hnw,by rw [hset h hl,if_pos hle]⟩
   ·rw [hset k hk,if_neg ?_]
    ·exact ih.w k hk hw
    ·intro e
     exact hnw ((hx.W_orb hl ((hmem k hk).2 e)).1 hw)
   ·rw [hset k hk]
    by_cases e:leastF x.N k=h
    ·rw [if_pos e]
     exact⟨O.length,ih.pos,by simp,rfl,by rw [nth_snoc,hle,e]⟩
    ·rw [if_neg e]
     obtain⟨i,i0,i1,i2,i3⟩:=ih.low k hk hw (by omega);exact⟨i,i0,by simp;omega,i2,by rw [nth_append_left _ _ _ _ i1];exact i3⟩
   ·rw [hset k hk,if_neg (by omega)]
    exact ih.high k hk hw (by omega)
  ·rw [if_neg h1]
   refine⟨ih.len,ih.pos,ih.zero,ih.outs,ih.w,fun k hk hw hlow=>?_,fun k hk hw hhigh=>ih.high k hk hw (by omega),Nat.le_succ_of_le ih.many⟩
   by_cases e:leastF x.N k=h
   ·exfalso
    apply h1;have e2:=least_least hx.perm hk;rw [e] at e2;refine ih.high h hl (fun hw2=>hw ?_) (by omega);rw [← hx.W_least hk,e];exact hw2
   ·exact ih.low k hk hw (by omega)
theorem FI.Ok.p2:Ph2 x x.N.length x.L2 x.O:=hx.ph2 _ (Nat.le_refl _)
 omit hx in
theorem count_flatten_set {I:List (List Nat)} {i:Nat} (hi:i<I.length) (y z:Nat):(addAt I i y).flatten.count z=I.flatten.count z+if z=y then 1 else 0:=by
  have e1:I=I.take i++nth [] I i::I.drop (i+1):=by
   rw [nth_eq _ _ _ hi];simp
  have hl:(I.take i).length=i:=by simp;omega
  unfold addAt;generalize nth [] I i=a at e1;generalize I.take i=A at e1 hl;generalize I.drop (i+1)=B at e1;subst e1;subst hl;rw [List.set_append_right _ _ (Nat.le_refl _),Nat.sub_self,List.set_cons_zero];simp only [List.flatten_append,List.flatten_cons,List.count_append,List.count_cons,List.count_nil]
  by_cases h:z=y
  ·subst h;simp;omega
  ·have:¬ y=z:=fun e=>h e.symm
   simp [h,this]
 omit hx in
theorem nth_addAt {I:List (List Nat)} {i:Nat} (hi:i<I.length) (y k:Nat):nth [] (addAt I i y) k=if k=i then nth [] I i++[y] else nth [] I k:=by
  unfold addAt;rw [nth_setG _ _ _ _ _ hi]
 omit hx in
theorem addAt_length (I:List (List Nat)) (i y:Nat):(addAt I i y).length=I.length:=by unfold addAt;simp
structure Ph3 (x:FI) (org:Nat→Nat) (v:Nat) (s:F3):Prop where
 len:s.L.length=x.N.length
 ilen:s.I.length=x.O.length
 alen:s.A.length=x.O.length
 nw:∀ k,k<x.N.length→¬ x.W k→nth 0 s.L k=nth 0 x.L2 k
 lowW:∀ k,k<x.N.length→x.W k→nth 0 x.root (org k)<v→∃ i:Nat,i<x.O.length∧nth 0 s.L k=(i:Int)∧leastF x.N k ∈ nth [] s.I i
 highW:∀ k,k<x.N.length→x.W k→v≤nth 0 x.root (org k)→nth 0 s.L k = -2
 im:∀ i,i<x.O.length→∀ y ∈ nth [] s.I i,y<x.N.length∧leastF x.N y=y∧x.W y∧nth 0 x.root (org y)<v∧nth 0 s.L y=(i:Int)
 icount:∀ y,s.I.flatten.count y≤1
 am:∀ i,i<x.O.length→∀ u ∈ nth [] s.A i,u<v
 acount:∀ u,s.A.flatten.count u=if u<v∧nth 0 x.root u=u∧x.hasE u=false then 1 else 0
theorem FI.Ok.face_ok {v:Nat} {s:F3} (hv:v<x.n) (ih:Ph3 x org v s):∃ i:Nat,i<x.O.length∧x.face s.L v=(i:Int):=by
 unfold FI.face;cases hb:x.bel v with
 | none=>exact⟨0,hx.p2.pos,rfl⟩
 | some e =>
  obtain⟨h1,h2⟩:=hx.bel_ok v e hv hb;have hk:2*e<x.N.length:=by rw [hx.len];omega
  by_cases hw:x.W (2*e)
  ·have h3:=hx.root_le _ (hx.org_lt _ hk)
   obtain⟨i,a,b,_⟩:=ih.lowW _ hk hw (by omega);exact⟨i,a,b⟩
  ·obtain⟨i,a,b,c,_⟩:=hx.p2.low _ hk hw (leastF_lt hx.perm hk)
   exact⟨i,b,(ih.nw _ hk hw).trans c⟩
 omit hx in
theorem mem_flatten_nth {I:List (List Nat)} {y:Nat} (h:y ∈ I.flatten):∃ i,i<I.length∧y ∈ nth [] I i:=by
  obtain⟨l,hl,hy⟩:=List.mem_flatten.1 h;obtain⟨i,hi,rfl⟩:=List.getElem_of_mem hl;exact⟨i,hi,by rw [nth_eq _ _ _ hi];exact hy⟩
theorem FI.Ok.ph3:∀ v,v≤x.n→Ph3 x org v (x.ph3 v)
 | 0,_=>by
  have hp:=hx.p2
  have hrep:∀ i,nth [] (List.replicate x.O.length ([]:List Nat)) i=[]:=fun i=>by
   simp only [nth,List.getD_eq_getElem?_getD,List.getElem?_replicate];split <;> rfl
  refine⟨hp.len,by simp [FI.ph3],by simp [FI.ph3],fun k hk hw=>rfl,fun k hk hw h0=>by omega,fun k hk hw h0=>hp.w k hk hw,fun i hi y hy=>?_,fun y=>?_,fun i hi y hy=>?_,fun u=>?_⟩
  ·simp only [FI.ph3] at hy;rw [hrep] at hy;cases hy
  ·simp [FI.ph3]
  ·simp only [FI.ph3] at hy;rw [hrep] at hy;cases hy
  ·simp [FI.ph3]
 | v+1,hv1=>by
  have hv:v<x.n:=by omega
  have ih:=FI.Ok.ph3 v (by omega);show Ph3 x org (v+1) (x.step3 (x.ph3 v) v);generalize x.ph3 v=s at ih;obtain⟨f,hf,hfe⟩:=hx.face_ok hv ih;unfold FI.step3
  by_cases hr:nth 0 x.root v=v
  ·rw [if_pos hr]
   by_cases he:x.hasE v=true
   ·rw [if_pos he,hfe]
    have hol:=hx.out_lt v hv he
    have hset:∀ k,k<x.N.length→nth 0 (setAll s.L (orb x.N (x.out v)) (f:Int)) k=if x.W k∧nth 0 x.root (org k)=v then (f:Int) else nth 0 s.L k:=fun k hk=>by
     rw [nth_setAll _ _ _ (fun k hk=>by rw [ih.len];exact orb_lt hx.perm hol hk)]
     by_cases hm:k ∈ orb x.N (x.out v)
     ·rw [if_pos hm,if_pos ((hx.W_out hv hr he hk).1 hm)]
     ·rw [if_neg hm,if_neg (fun e=>hm ((hx.W_out hv hr he hk).2 e))]
    obtain⟨y,hy⟩:∃ y,leastF x.N (x.out v)=y:=⟨_,rfl⟩;have hyo:y ∈ orb x.N (x.out v):=by rw [← hy];exact (leastF_spec hx.perm hol).1
    have hyl:=orb_lt hx.perm hol hyo;obtain⟨hyw,hyr⟩:=(hx.W_out hv hr he hyl).1 hyo;have hyy:leastF x.N y=y:=by rw [← hy];exact least_least hx.perm hol
    have hfi:f<s.I.length:=by rw [ih.ilen];exact hf
    rw [hy,Int.toNat_natCast];refine⟨by rw [setAll_length];exact ih.len,by rw [addAt_length];exact ih.ilen,ih.alen,fun k hk hw=>?_,fun k hk hw hlow=>?_,fun k hk hw hhigh=>?_,fun i hi z hz=>?_,fun z=>?_,fun i hi u hu=>Nat.lt_succ_of_lt (ih.am i hi u hu),fun u=>?_⟩
    ·rw [hset k hk,if_neg (fun e=>hw e.1)];exact ih.nw k hk hw
    ·rw [hset k hk]
     by_cases e:nth 0 x.root (org k)=v
     ·rw [if_pos ⟨hw,e⟩]
      refine⟨f,hf,rfl,?_⟩;rw [nth_addAt hfi,if_pos rfl]
      have:leastF x.N k=y:=by
       rw [← hy];exact leastF_of hx.perm hol ((hx.W_out hv hr he hk).2 ⟨hw,e⟩)
      rw [this];simp
     ·rw [if_neg (fun h=>e h.2)]
      obtain⟨i,a,b,c⟩:=ih.lowW k hk hw (by omega);refine⟨i,a,b,?_⟩;rw [nth_addAt hfi]
      split
      ·rename_i e2;subst e2;exact List.mem_append_left _ c
      ·exact c
    ·rw [hset k hk,if_neg (fun h=>by omega)]
     exact ih.highW k hk hw (by omega)
    ·rw [nth_addAt hfi] at hz
     by_cases hfz:i=f
     ·rw [if_pos hfz] at hz
      subst hfz
      rcases List.mem_append.1 hz with h1|h1
      ·obtain⟨a,b,c,d,e⟩:=ih.im i hi z h1
       exact⟨a,b,c,by omega,by rw [hset z a,if_neg (fun h=>by omega)];exact e⟩
      ·rw [List.mem_singleton] at h1
       subst h1;exact⟨hyl,hyy,hyw,by omega,by rw [hset z hyl,if_pos ⟨hyw,hyr⟩]⟩
     ·rw [if_neg hfz] at hz
      obtain⟨a,b,c,d,e⟩:=ih.im i hi z hz;exact⟨a,b,c,by omega,by rw [hset z a,if_neg (fun h=>by omega)];exact e⟩
    ·rw [count_flatten_set hfi]
     by_cases e:z=y
     ·subst e
      rw [if_pos rfl]
      have:List.count z s.I.flatten=0:=by
       rw [List.count_eq_zero];intro hm;obtain⟨i,hi,hm2⟩:=mem_flatten_nth hm;rw [ih.ilen] at hi;have:=(ih.im i hi z hm2).2.2.2.1;omega
      omega
     ·rw [if_neg e];exact ih.icount z
    ·rw [ih.acount u]
     by_cases e:u=v
     ·subst e
      rw [if_neg (by omega),if_neg (by rw [he];simp)]
     ·by_cases h1:u<v∧nth 0 x.root u=u∧x.hasE u=false
      ·rw [if_pos h1,if_pos ⟨by omega,h1.2⟩]
      ·rw [if_neg h1,if_neg (fun h=>h1 ⟨by omega,h.2⟩)]
   ·rw [if_neg he,hfe,Int.toNat_natCast]
    have he2:x.hasE v=false:=by simpa using he
    have hfa:f<s.A.length:=by rw [ih.alen];exact hf
    have hnot:∀ k,k<x.N.length→x.W k→nth 0 x.root (org k)≠v:=fun k hk hw e=>by
     have:=(hx.W_own hk hw).2.1;rw [e] at this;exact he this
    refine⟨ih.len,ih.ilen,by rw [addAt_length];exact ih.alen,ih.nw,fun k hk hw hlow=>ih.lowW k hk hw (by have:=hnot k hk hw;omega),fun k hk hw hhigh=>ih.highW k hk hw (by omega),fun i hi y hy=>?_,ih.icount,fun i hi u hu=>?_,fun u=>?_⟩
    ·obtain⟨a,b,c,d,e⟩:=ih.im i hi y hy
     exact⟨a,b,c,by omega,e⟩
    ·rw [nth_addAt hfa] at hu
     split at hu
     ·rename_i e2
      subst e2
      rcases List.mem_append.1 hu with h1|h1
      ·have:=ih.am i hi u h1;omega
      ·rw [List.mem_singleton] at h1;omega
     ·have:=ih.am i hi u hu;omega
    ·rw [count_flatten_set hfa,ih.acount u]
     by_cases e:u=v
     ·subst e
      rw [if_neg (by omega),if_pos rfl,if_pos ⟨by omega,hr,he2⟩]
     ·rw [if_neg e]
      by_cases h1:u<v∧nth 0 x.root u=u∧x.hasE u=false
      ·rw [if_pos h1,if_pos ⟨by omega,h1.2⟩]
      ·rw [if_neg h1,if_neg (fun h=>h1 ⟨by omega,h.2⟩)]
  ·rw [if_neg hr]
   have hnot:∀ k,k<x.N.length→x.W k→nth 0 x.root (org k)≠v:=fun k hk hw e=>by
    have:=(hx.W_own hk hw).2.2.1;rw [e] at this;exact hr this
   refine⟨ih.len,ih.ilen,ih.alen,ih.nw,fun k hk hw hlow=>ih.lowW k hk hw (by have:=hnot k hk hw;omega),fun k hk hw hhigh=>ih.highW k hk hw (by omega),fun i hi y hy=>?_,ih.icount,fun i hi u hu=>by have:=ih.am i hi u hu;omega,fun u=>?_⟩
   ·obtain⟨a,b,c,d,e⟩:=ih.im i hi y hy
    exact⟨a,b,c,by omega,e⟩
   ·rw [ih.acount u]
    by_cases e:u=v
    ·subst e
     rw [if_neg (by omega),if_neg (fun h=>hr h.2.1)]
    ·by_cases h1:u<v∧nth 0 x.root u=u∧x.hasE u=false
     ·rw [if_pos h1,if_pos ⟨by omega,h1.2⟩]
     ·rw [if_neg h1,if_neg (fun h=>h1 ⟨by omega,h.2⟩)]
end
end Go.Hp
