/- Texts for the walk of the law: E16. -/
import Derived.Test.YtihpoboahbpaiaaGreatQ29
set_option maxRecDepth 100000
set_option maxHeartbeats 16000000
set_option linter.unusedVariables false
set_option linter.unusedSimpArgs false
namespace Go.Hp
open Go.Proofs.Tryz
open Go Go.RowKit
structure NB (w:World) (S:Nat→Prop) (os:List Sz) (gs:List Gp) (ao:Option Addr) (co:Nat) (ap:Option Addr) (cp:Nat) (asg:Option Addr) (cs:Nat) (at':Option Addr) (ct:Nat):Prop where
 v:SlC w S 4 (.slice ao os.length co) os.length (os.flatMap sc)
 g:SlC w S 2 (.slice ap gs.length cp) gs.length (gs.flatMap gc)
 s:SlC w S 4 (.slice asg os.length cs) os.length (os.flatMap sc)
 p:SlC w S 2 (.slice at' gs.length ct) gs.length (gs.flatMap gc)
theorem NB.grow {w w':World} {S S':Nat→Prop} {os:List Sz} {gs:List Gp} {ao:Option Addr} {co:Nat} {ap:Option Addr} {cp:Nat} {asg:Option Addr} {cs:Nat} {at':Option Addr} {ct:Nat} (h:NB w S os gs ao co ap cp asg cs at' ct) (hp:Pure w S w' S'):NB w' S' os gs ao co ap cp asg cs at' ct:=⟨h.v.grow hp,h.g.grow hp,h.s.grow hp,h.p.grow hp⟩
theorem NB.at {w0 w wr:World} {H:List Chunk} {F S:Nat→Prop} {os:List Sz} {gs:List Gp} {ao:Option Addr} {co:Nat} {ap:Option Addr} {cp:Nat} {asg:Option Addr} {cs:Nat} {at':Option Addr} {ct:Nat} (h:NB wr S os gs ao co ap cp asg cs at' ct) (hS:Heap w0 w (.frz F wr::H)) (hF:∀ k,S k→F k):NB w S os gs ao co ap cp asg cs at' ct:=⟨h.v.at hS hF,h.g.at hS hF,h.s.at hS hF,h.p.at hS hF⟩
theorem NB.weaken {w:World} {S T:Nat→Prop} {os:List Sz} {gs:List Gp} {ao:Option Addr} {co:Nat} {ap:Option Addr} {cp:Nat} {asg:Option Addr} {cs:Nat} {at':Option Addr} {ct:Nat} (h:NB w S os gs ao co ap cp asg cs at' ct) (hST:∀ k,S k→T k):NB w T os gs ao co ap cp asg cs at' ct:=⟨h.v.weaken hST,h.g.weaken hST,h.s.weaken hST,h.p.weaken hST⟩
theorem fill2s (a b:Option Addr) (n c m d:Nat):Instr.fill (fun i=>some (i*1,1)) ((Array.range (2*1)).map ((Value.slice none 0 0).cells[· % (Value.slice none 0 0).cells.size]!)) [(0,.slice a n c),(1,.slice b m d)]=some #[.slice a n c,.slice b m d]:=by
 have h:((Array.range (2*1)).map ((Value.slice none 0 0).cells[· % (Value.slice none 0 0).cells.size]!))=#[.slice none 0 0,.slice none 0 0]:=by
  apply Array.ext';simp [Array.range,List.ofFn_succ,Value.cells]
 rw [h];simp [Instr.fill,Value.cells]
end Go.Hp
namespace Go.Proofs
open Go.Proofs.Tryz
open Go.RowKit Go.Hp
theorem infoEd:(Tryz.prog.info? 101).map (fun i=>(i.zero,i.size,i.bytes))=some (some (.agg #[.int .i64 0,.int .i64 0,.slice none 0 0,.int .i64 0,.int .i64 0]),5,56):=by kernel_rfl
theorem edges_of {w:World} {S:Nat→Prop} {R:List ORow} {D:List ((Nat × Nat) × Gp)} {d:List ((Nat × Nat) × (Option Addr × Nat × Nat))} {rs:List ER} {rO:(Nat × Nat) × (Option Addr × Nat × Nat)→ER} (hover:d.Perm (R.map ORow.s)) (hp:rs.Perm (d.map rO)) (hs:rs.Pairwise (fun x y=>¬ ltE (y.a,y.b) (x.a,x.b))) (hdn:(d.map (·.1)).Nodup)
 (hIE:∀ p ∈ R.map ORow.s,IsE w S (rO p) (eOf (R.map ORow.g) D p.1)) (hkeys:∀ k,k ∈ (R.map ORow.g).map (·.1)↔k ∈ (R.map ORow.s).map (·.1)) (hrO:rO=fun p=>⟨p.1.1,p.1.2,p.2.1,p.2.2.1,p.2.2.2,(getL D p.1).getD g0⟩) :
 ∃ es:List Ed,IsEs w S rs es∧(∀ e,e ∈ es↔∃ k ∈ (R.map ORow.g).map (·.1),e=eOf (R.map ORow.g) D k)∧(es.map fun e=>(e.a,e.b)).Pairwise ltE:=by
 have hkk:∀ r ∈ rs,∃ p ∈ R.map ORow.s,r=rO p:=by
  intro r hr;obtain⟨p,hpd,rfl⟩:=List.mem_map.1 (hp.mem_iff.1 hr);exact⟨p,hover.mem_iff.1 hpd,rfl⟩
 have hab:∀ p,((rO p).a,(rO p).b)=p.1:=fun p=>by rw [hrO]
 refine⟨rs.map (fun r=>eOf (R.map ORow.g) D (r.a,r.b)),⟨by simp,fun i hi=>?_⟩,fun e=>?_,?_⟩
 ·rw [List.length_map] at hi
  rw [nth_eq er0 rs i hi,nth_eq ed0 _ i (by simpa using hi),List.getElem_map];obtain⟨p,hpm,hr⟩:=hkk _ (List.getElem_mem hi);have:=hIE p hpm;rw [hr,hab];exact this
 ·rw [List.mem_map]
  constructor
  ·rintro⟨r,hr,rfl⟩
   obtain⟨p,hpm,rfl⟩:=hkk r hr;exact⟨_,(hkeys _).2 (by rw [hab];exact List.mem_map.2 ⟨p,hpm,rfl⟩),rfl⟩
  ·rintro⟨k,hk,rfl⟩
   obtain⟨p,hpm,rfl⟩:=List.mem_map.1 ((hkeys k).1 hk);exact⟨rO p,hp.mem_iff.2 (List.mem_map.2 ⟨p,hover.mem_iff.2 hpm,rfl⟩),by rw [hab]⟩
 ·rw [List.pairwise_map,List.pairwise_map]
  have hnd:(rs.map (fun r=>(r.a,r.b))).Nodup:=by
   have h1:=hp.map (fun r:ER=>(r.a,r.b));rw [List.map_map] at h1;have h2:(fun r:ER=>(r.a,r.b)) ∘ rO=(·.1):=by funext p;exact hab p
   rw [h2] at h1;exact (h1.nodup_iff).2 hdn
  have hnd2:rs.Pairwise (fun x y=>(x.a,x.b)≠(y.a,y.b)):=by
   have:=hnd;unfold List.Nodup at this
   rwa [List.pairwise_map] at this
  refine (hs.and hnd2).imp fun {x y} ⟨h1,h2⟩=>?_
  simp only [eOf];unfold ltE at *;simp only [ne_eq,Prod.mk.injEq] at h1 h2 ⊢;omega
theorem newB_any (os:List Sz) (gs:List Gp) (ao ap:Option Addr) (no co np cp:Nat) (w:World) (S:Nat→Prop) (hL:Liv w S) (hos:∀ t ∈ os,t.ok) (hgs:∀ g ∈ gs,g.ok) (hv:SlC w S 4 (.slice ao no co) os.length (os.flatMap sc)) (hg:SlC w S 2 (.slice ap np cp) gs.length (gs.flatMap gc)) (hlo:os.length≤512) (hlg:gs.length≤256) (hB:gs.length+os.length*(2+2*os.length+gs.length)≤65536) (hVB:gs.length+os.length*(2+2*os.length+gs.length)≤4096∨∀ V:List Pt,V.Pairwise Pt.lt→(∀ x ∈ V,isVert (os.map Sz.sg) (gs.map Gp.pt) x)→V.length≤4096) :
 Calls Tryz.prog 34 #[.slice ao no co,.slice ap np cp] w (ARes w S os gs):=by
 obtain rfl:no=os.length:=by obtain⟨h1,a,cap,h2,_⟩:=hv;cases h2;rfl
 obtain rfl:np=gs.length:=by obtain⟨h1,a,cap,h2,_⟩:=hg;cases h2;rfl
 replace hB:=Hd hB;replace hVB:=Hd hVB;obtain⟨hS,hF0,hO0,hp0⟩:=st0 hL
 go_enter func34,ntmps34
 go_wp2_with (with_reducible refine alA hS zeroValue34 fun b4 wb4 hS=>?_)
 refine (acheck_any os gs ao ap os.length co gs.length cp _ S hos hgs (hv.at hS hF0) (hg.at hS hF0) hlo hlg).mono ?_;rintro e w1 ⟨rfl,hq⟩;have hS:=hS.below hq.below hq.drawn;clear hq;simp only []
 go_wp2_with (fail)
 refine (cloneS_any ao os.length co os _ S (hv.at hS hF0) (Liv.at hS hF0) (by omega)).mono ?_;rintro e w2 ⟨asg,cs,S1,rfl,hq,hsg⟩;have hv:=(hv.at hS hF0).grow hq;have hg:=(hg.at hS hF0).grow hq;replace hS:=hS.pcl hF0 hO0 hp0 hq;obtain⟨F1,hF1,hOO1,hp1,hO1,hS⟩:=hS;simp only []
 go_wp2_with (fail)
 refine (cloneG_any ap gs.length cp gs _ S1 (hg.at hS hF1) (Liv.at hS hF1) (by omega)).mono ?_;rintro e w3 ⟨at',ct,S2,rfl,hq,hpt⟩;have hv:=(hv.at hS hF1).grow hq;have hg:=(hg.at hS hF1).grow hq;have hsg:=(hsg.at hS hF1).grow hq;replace hS:=hS.pcl hF1 hO1 hp1 hq;obtain⟨F2,hF2,-,hp2,hO2,hS⟩:=hS;have hn:NB w3 S2 os gs ao co ap cp asg cs at' ct:=⟨hv,hg,hsg,hpt⟩;clear hv hg hsg hpt hF0 hF1 hO0 hO1 hp0 hp1;simp only []
 go_wp2_with (with_reducible first|refine alA hS zeroValue34 fun b7 wb7 hS=>?_|refine stA (u:=.agg #[.slice _ _ _,.slice _ _ _,.slice _ _ _,.slice _ _ _]) 2 hS sizeOf34 fun _ hS=>?_)
 have hS:=hS.addNil 56 8;simp only [NRH] at hS
 go_loopw [42] (fun v wr=>∃ (k:Nat) (F S':Nat→Prop) (wq:World) (ad:Option Addr) (c:Nat) (prs:List PR),k≤gs.length∧v=.int .i64 (k:Int)∧Heap w wr [.frz F wq,.blk b4 (.cells #[.slice none 0 0,.slice none 0 0,.slice none 0 0,.slice none 0 0] 34 (0,0)),.blk b7 (.cells #[.slice asg os.length cs,.slice at' gs.length ct,.slice ad k c,.slice none 0 0] 34 (0,0)),.row (.slice ad k c) 56 8 k (prs.flatMap pc)]∧(∀ k,S' k→F k)∧(∀ k,Old w k→F k)∧Pure w S wq S'∧NB wq S' os gs ao co ap cp asg cs at' ct∧IsPs wq S' prs ((gs.take k).map Gp.pt)) (fun v _=>gs.length - (intOf v).toNat)
 case atStart=>exact⟨0,_,_,_,_,_,[],by omega,rfl,hS,hF2,hO2,hp2,hn,IsPs.nil _ _⟩
 case round =>
  clear hS hF2 hO2 hp2 hn;obtain⟨k,F0,S0,wq,ad,c,prs,hk,rfl,hS,hF0,hO0,hp0,hn,ps⟩:=hrel
  by_cases hkl:k<gs.length
  ·skip
   have hgF:=hn.g.weaken hF0;obtain⟨g,hgt⟩:∃ g,nth g0 gs k=g:=⟨_,rfl⟩;have hc:=flat_cell gc_len g0 hkl;rw [hgt] at hc;have hgo:=hgs g (by rw [← hgt];exact nth_mem g0 gs k hkl);have ig:InI g.x∧InI g.y:=by unfold Gp.ok okC at hgo;unfold InI;omega
   have gtk:(gs.take (k+1)).map Gp.pt=(gs.take k).map Gp.pt++[g.pt]:=by rw [take_snoc g0 gs k hkl,hgt];simp
   clear hgt hgo;replace gtk:=Hd gtk
   go_wp2_with (with_reducible first|refine ixE underlying25 sizeOf29 hgF hc fun bq oq hcellq=>?_|refine ldG hS isAgg29 sizeOf29 ?_|refine alA hS zeroValue29 fun b9 wb9 hS=>?_|refine stA (u:=.agg #[_,_]) 4 hS sizeOf29 fun _ hS=>?_)
   clear hgF hc;refine rg0 [.p 0,.r 1,.r 2,.e 3,.e 4,.m 5,.p 6,.m 7] [5,7] hS fun w1 hS=>?_
   obtain⟨hsC,hkC⟩:=hS.cstart
   repeat (with_reducible first|refine sldB 2 isAgg31 ?_|refine sldA 4 isAgg29 sizeOf29 ?_|refine spL ?_)
   refine exL ?_
   go_wp2_with (fail)
   refine (pof_any g.x g.y _ S0 ig.1 ig.2 (Liv.at hS hF0)).mono ?_;rintro e w' ⟨z,S1,rfl,hq,hz⟩;simp only [];go_step;have hn:=(hn.at hS hF0).grow hq;have ps:=(ps.at hS hF0).grow hq;have hkC:=Heap.keepC hS hq.below hsC hkC;replace hS:=hS.pcl hF0 hO0 hp0 hq;obtain⟨F1,hF1,hOO1,hp1,hO1,hS⟩:=hS;have hsC:=SubC.trans hsC hOO1;refine ext_end (Heap.toC hS.sb hsC hkC) ?_;refine mvs ?_;refine exL ?_
   ((with_reducible refine g_bs (T:=31) ?_);refine seq_bs1 (T:=31) (v:=.agg #[.bool _,.slice _ _ _,.bool _,.slice _ _ _,.bool _,.slice _ _ _,.bool _,.slice _ _ _]) hS underlying31 sizeOf56 zeroValue56 rfl rfl rfl (by decide) (by decide) rfl (fun bl wbl hS=>?_);simp only [NRM];simp only [Value.cells] at hS)
   refine ext_end (Heap.toC hS.sb hsC hkC) ?_;refine mvs ?_;refine muL ?_
   ((with_reducible refine g_app ?_);refine seq_append_lit (t:=31) 3 hS underlying31 infoP rfl (by decide) rfl rfl rfl rfl (pc1 z) (by omega) (by unfold maxLen;omega) (fun ad2 cp2 _ hS=>?_);simp only [NRM];simp only [NRH] at hS)
   refine mut_end ?_;refine mvs ?_;refine muL ?_
   (with_reducible refine stA (u:=.slice _ _ _) 2 hS sizeOf31 fun _ hS=>?_)
   refine mut_end ?_;refine mvs ?_;refine snL ?_;have hps2:=ps.snoc hz;have hfl:(prs++[z]).flatMap pc=prs.flatMap pc++pc z:=by simp
   replace hfl:=Hd hfl;replace hps2:=Hd hps2;go_wp2;go_roundw
   case rel=>exact⟨k+1,F1,S1,_,ad2,cp2,prs++[z],by omega,rfl,by rw [hfl.out];exact hS.sb,hF1,hO1,hp1,hn,by rw [gtk.out];exact hps2.out⟩
   case measure=>simp [intOf];omega
  ·obtain rfl:k=gs.length:=by omega
   rw [List.take_length] at ps;replace ps:=Hd ps;have hB0:gs.length≤4096:=by omega
   go_wp2_with (first|((with_reducible refine g_mks' (T:=143) ?_);refine seq_make_nils (n:=os.length) (T:=143) (E:=31) hS underlying143 infoSl rfl rfl (by omega) (by omega) (fun bp wbp hS=>?_);simp only [NRM];simp only [NRH] at hS))
   go_loopw [59] (fun v wr=>∃ (F S':Nat→Prop) (wq:World) (ad:Option Addr) (m c:Nat) (prs:List PR) (pp:List (List Pt)) (vs:List Value),v=.int .i64 (pp.length:Int)∧Heap w wr [.frz F wq,.blk b4 (.cells #[.slice none 0 0,.slice none 0 0,.slice none 0 0,.slice none 0 0] 34 (0,0)),.blk b7 (.cells #[.slice asg os.length cs,.slice at' gs.length ct,.slice ad m c,.slice none 0 0] 34 (0,0)),.row (.slice ad m c) 56 8 m (prs.flatMap pc),.blk bp (.cells vs.toArray 31 (0,0))]∧(∀ k,S' k→F k)∧(∀ k,Old w k→F k)∧Pure w S wq S'∧NB wq S' os gs ao co ap cp asg cs at' ct∧IsPs wq S' prs (gs.map Gp.pt++pp.flatten)∧PartsUp wq S' os gs vs pp∧m≤gs.length+pp.length*(2+2*os.length+gs.length)) (fun v _=>os.length - (intOf v).toNat)
   case atStart=>exact⟨F0,S0,_,_,_,_,_,[],List.replicate os.length nilV,rfl,hS,hF0,hO0,hp0,hn,by simpa using ps.out,PartsUp.start _ _ _ _,by simp⟩
   case round =>
    clear hS hF0 hO0 hp0 hn ps;obtain⟨F0,S0,wq,ad,m,c,prs,pp,vs,rfl,hS,hF0,hO0,hp0,hn,ps,pu,hm⟩:=hrel;have hpl:=pu.pl
    have hmX:m≤gs.length+os.length*(2+2*os.length+gs.length):=by
     have h1:pp.length*(2+2*os.length+gs.length)≤os.length*(2+2*os.length+gs.length):=Nat.mul_le_mul_right _ hpl;omega
    have hmb:m≤65536:=by have:=hB.out;omega
    replace hmX:=Hd hmX
    by_cases hkl:pp.length<os.length
    ·replace hm:=Hd hm
     obtain⟨k,hk⟩:∃ k,pp.length=k:=⟨_,rfl⟩;obtain⟨t,ht⟩:∃ t,nth s0 os k=t:=⟨_,rfl⟩;have hto:=hos t (by rw [← ht];exact nth_mem s0 os k (by omega));have hc:=flat_cell sc_len s0 (show k<os.length by omega);rw [ht] at hc;have hvo:=hn.v.weaken hF0;rw [hk];obtain⟨a1,c1,e1⟩:∃ a1 c1,subV ao co 0 k 4=.slice a1 k c1:=⟨_,_,rfl⟩;obtain⟨a2,c2,e2⟩:∃ a2 c2,subV ao co (k+1) os.length 4=.slice a2 (os.length - (k+1)) c2:=⟨_,_,rfl⟩
     have hcap:os.length≤co:=by
      obtain⟨_,a,cap,h2,h3,_⟩:=hn.v;simp only [Value.slice.injEq] at h2;omega
     have hw1:IntKind.i64.wrap ((k:Int)+1)=((k+1:Nat):Int):=Go.Hp.w7;have n1:=hn.v.sub (j:=0) (m:=k) (by omega) (by omega);have n2:=hn.v.sub (j:=k+1) (m:=os.length) (by omega) (by omega);rw [e1] at n1;rw [e2] at n2;rw [flat_take sc_len,Nat.zero_mul,List.drop_zero] at n1;rw [flat_take sc_len,List.take_length,flat_drop sc_len] at n2;have n1:SlC wq S0 4 (.slice a1 k c1) (os.take k).length ((os.take k).flatMap sc):=by rw [List.length_take,Nat.min_eq_left (by omega)];exact n1
     have n2:SlC wq S0 4 (.slice a2 (os.length - (k+1)) c2) (os.drop (k+1)).length ((os.drop (k+1)).flatMap sc):=by rw [List.length_drop];exact n2
     have hol:=opp_len (show k<os.length by omega);have hko:k<os.length:=by omega
     replace hol:=Hd hol;replace e1:=Hd e1;replace e2:=Hd e2;replace ht:=Hd ht;replace hk:=Hd hk
     go_wp2_with (with_reducible first|refine ixE underlying23 sizeOf95 hvo hc fun bq oq hcellq=>?_|refine ldG hS isAgg95 sizeOf95 ?_|refine alA hS zeroValue95 fun b12 wb12 hS=>?_|refine stA (u:=.agg #[_,_,_,_]) 5 hS sizeOf95 fun _ hS=>?_)
     clear hvo hc;refine rg0 [.p 0,.p 1,.p 2,.p 3,.p 4,.p 5,.p 6,.e 7,.e 8,.p 9] [] hS fun w1 hS=>?_
     obtain⟨hsC,hkC⟩:=hS.cstart
     repeat (first|((with_reducible refine m_pure ?_);refine sched_any rfl rfl (any_slice_hiG (T:=23) (m:=k) underlying23 sizeOf95 rfl rfl rfl (by omega) e1.out ?_);simp only [NRM])|((with_reducible refine m_pure ?_);refine sched_any rfl rfl (any_slice_loG (T:=23) (j:=k+1) underlying23 sizeOf95 rfl rfl rfl (by omega) e2.out ?_);simp only [NRM])|(with_reducible refine spL ?_))
     refine exL ?_
     ((with_reducible refine g_bs (T:=192) ?_);refine seq_buildSlice (k:=1) (z:=.slice none 0 0) (len:=2) hS underlying192 sizeOf23 zeroValue23 (by decide) (by decide) (fill2s _ _ _ _ _ _) (fun b71 wb71 hS=>?_);simp only [NRM];simp only [NRH] at hS)
     refine ext_end (Heap.toC hS.sb hsC hkC) ?_;refine mvs ?_;refine exL ?_
     go_wp2_with (fail)
     refine (concatS_any b71 a1 a2 k c1 (os.length - (k+1)) c2 (os.take k) (os.drop (k+1)) _ S0 (Liv.at hS hF0) (SlC.ofBlk (k:=1) (n:=2) hS (List.mem_of_getElem? (i:=6) rfl) rfl (by decide)) (Chunk.lt (hS.ok _ (List.mem_of_getElem? (i:=6) rfl)) (c:=.blk b71 _) rfl) (n1.at hS hF0) (n2.at hS hF0) (by rw [List.length_take];omega) (by rw [List.length_drop];omega)).mono ?_;rintro e w5 ⟨ad5,c5,S5,rfl,hq,hot⟩;rw [show (os.take k++os.drop (k+1)).length=os.length - 1 from hol.out] at hot ⊢;clear n1 n2;have hn:=(hn.at hS hF0).grow hq;have ps:=(ps.at hS hF0).grow hq;have pu:=(pu.at hS hF0).grow hq;have hkC:=Heap.keepC hS hq.below hsC hkC;replace hS:=hS.pcl hF0 hO0 hp0 hq;obtain⟨F1,hF1,hOO1,hp1,hO1,hS⟩:=hS;have hsC:=SubC.trans hsC hOO1;simp only [];go_step;refine ext_end (Heap.toC hS.sb hsC hkC) ?_;refine mvs ?_;refine snL ?_;have hot:SlC w5 S5 4 (.slice ad5 (os.length - 1) c5) (opp os k).length ((opp os k).flatMap sc):=by rw [hol.out];exact hot
     have hod:∀ t ∈ opp os k,t.ok:=fun t h=>hos t (opp_mem h)
     have hol6:(opp os k).length≤600:=by have:=hol.out;omega
     clear e1 e2 hsC hkC
     go_wp2_with (with_reducible refine ldA 5 hS isAgg95 sizeOf95 ?_)
     refine (parts_any t (opp os k) gs ad5 ap (os.length - 1) c5 gs.length cp _ S5 (Liv.at hS hF1) hto hod hgs (hot.at hS hF1) (hn.g.at hS hF1) hol6 (by omega)).mono ?_;rintro e w6 ⟨ad6,n6,c6,qrs,l,S6,rfl,hq,hlp,hpa⟩;have hn:=(hn.at hS hF1).grow hq;have ps:=(ps.at hS hF1).grow hq;have pu:=(pu.at hS hF1).grow hq;replace hS:=hS.pcl hF1 hO1 hp1 hq;obtain⟨F2,hF2,-,hp2,hO2,hS⟩:=hS;obtain rfl:n6=l.length:=by obtain⟨h1,a,cap,h2,_⟩:=hlp.sl;cases h2;rfl
     have hl2:=hpa.two hto.2.2;have hql:=hlp.ps.len;have hpal:=hpa.len;have hlb:l.length≤4096:=by have:=hol.out;omega
     have hd1:decide ((l.length:Int)<2)=false:=by simp;omega
     have hw2:IntKind.i64.wrap ((l.length:Int) - 1)=((l.length - 1:Nat):Int):=Go.Hp.w7;have c0:((qrs.flatMap pc).drop ((0:Int).toNat*8)).take 8=pc (nth p0 qrs 0):=flat_cell pc_len p0 (by omega);have c9:=flat_cell pc_len p0 (show l.length - 1<qrs.length by omega);have i0:=hlp.ps.el 0 (by omega);have i9:=hlp.ps.el (l.length - 1) (by omega)
     have hlt:(nth pt0 l 0).lt (nth pt0 l (l.length - 1)):=by
      rw [nth_eq pt0 l 0 (by omega),nth_eq pt0 l (l.length - 1) (by omega)];exact List.pairwise_iff_getElem.1 hpa.sorted 0 (l.length - 1) (by omega) (by omega) (by omega)
     have hcm:cmpP (nth pt0 l 0) (nth pt0 l (l.length - 1)) = -1:=by
      have h1:=cmpP_lt.2 hlt;have h2:=cmpP_bd (nth pt0 l 0) (nth pt0 l (l.length - 1));omega
     obtain⟨m0,f0⟩:∃ m0,nth p0 qrs 0=m0:=⟨_,rfl⟩;obtain⟨m9,f9⟩:∃ m9,nth p0 qrs (l.length - 1)=m9:=⟨_,rfl⟩;obtain⟨y0,g0'⟩:∃ y0,nth pt0 l 0=y0:=⟨_,rfl⟩;obtain⟨y9,g9⟩:∃ y9,nth pt0 l (l.length - 1)=y9:=⟨_,rfl⟩;rw [f0] at c0 i0;rw [f9] at c9 i9;rw [g0'] at i0 hcm;rw [g9] at i9 hcm;clear f0 f9 g0' g9 hlt hot hod;have hlo:=hlp.sl.weaken hF2;replace hcm:=Hd hcm;have hvl:=pu.vl;go_wp2;refine rg0 [.p 0,.p 1,.r 2,.p 3,.p 4,.p 5,.p 6,.p 7,.r 8,.e 9,.p 10] [] hS fun w1 hS=>?_
     have hC:=hS
     repeat (first|((with_reducible refine m_pure ?_);refine sched_any rfl rfl (any_index (T:=31) underlying31 sizeOf56 rfl rfl hlo (by omega) (by omega) (by omega) (fun bq oq hcellq=>?_));rw [c0] at hcellq;simp only [NRM])|(with_reducible first|refine sixE underlying31 sizeOf56 hlo c9 fun bq oq hcellq=>?_|refine sldG isAgg56 sizeOf56 ?_|refine spL ?_))
     refine exL ?_
     go_wp2_with (fail)
     refine (pcompare_any m0 m9 y0 y9 _ S6 (i0.at hS hF2) (i9.at hS hF2) (Liv.at hS hF2)).mono ?_;rintro e w' ⟨rfl,hq⟩;simp only [];go_step;rw [hcm.out];clear i0 i9 c0 c9 hcm;have hS:=hS.below hq.below hq.drawn;have hC:=hC.below hq.below hq.drawn;clear hq;refine ext_end hC ?_;refine mvs ?_;refine snL ?_;clear hC;have hkv:k<vs.length:=by omega
     go_wp2_with (first|(with_reducible refine ixS underlying143 sizeOf31 ?_)|((with_reducible refine g_store (T:=31) ?_);refine seq_store1 (T:=31) (k:=k) 4 hS rfl rfl rfl sizeOf31 rfl rfl hkv (fun _ hS=>?_);simp only [NRM];simp only [NRH] at hS)|(with_reducible refine ldB 2 hS isAgg31 ?_)|((with_reducible refine g_app ?_);refine seq_append (t:=31) 3 hS underlying31 infoP rfl (by decide) rfl rfl rfl hlo (by simp) (pc_one qrs) (by omega) (by unfold maxLen;omega) (fun ad7 c7 _ hS=>?_);simp only [NRM];simp only [NRH] at hS)|(with_reducible refine stA (u:=.slice _ _ _) 2 hS sizeOf31 fun _ hS=>?_))
     have hps2:=ps.append hlp.ps;have hfl:(prs++qrs).flatMap pc=prs.flatMap pc++qrs.flatMap pc:=List.flatMap_append;have hk2:=hk.out;subst hk2;have hup:=pu.step hkl hlp (by rw [ht.out];exact hpa)
     have hmm:m+l.length≤gs.length+(pp.length+1)*(2+2*os.length+gs.length):=by
      have h1:=hm.out;have h2:=hol.out;rw [Nat.add_mul,Nat.one_mul];omega
     have hfl2:gs.map Gp.pt++(pp++[l]).flatten=(gs.map Gp.pt++pp.flatten)++l:=by simp
     replace hfl:=Hd hfl;replace hfl2:=Hd hfl2;replace hmm:=Hd hmm;go_wp2;go_roundw
     case rel=>exact⟨F2,S6,_,ad7,m+l.length,c7,prs++qrs,pp++[l],vs.set pp.length (.slice ad6 l.length c6),by simp,by rw [hfl.out];exact hS.sb,hF2,hO2,hp2,hn,by rw [hfl2.out];exact hps2,hup,by simpa using hmm.out⟩
     case measure=>simp [intOf];omega
    ·have hpe:pp.length=os.length:=by omega
     rw [hpe];replace hpe:=Hd hpe;clear hm
     go_wp2_with (with_reducible refine ldB 2 hS isAgg31 ?_)
     have hj:([.blk b4 (.cells #[.slice none 0 0,.slice none 0 0,.slice none 0 0,.slice none 0 0] 34 (0,0)),.blk b7 (.cells #[.slice asg os.length cs,.slice at' gs.length ct,.slice ad m c,.slice none 0 0] 34 (0,0)),.row (.slice ad m c) 56 8 m (prs.flatMap pc),.blk bp (.cells vs.toArray 31 (0,0))]:List Chunk)[2]? = some (.row (.slice ad m c) 56 8 m (prs.flatMap pc)):=rfl;refine (sortP_any 2 hS hF0 ps hj (by omega)).mono ?_;rintro e w7 ⟨rfl,prs7,l7,hS7,ps7,hp7,hs7⟩;clear hS ps hj;have hS:=hS7;clear hS7;simp only [NRH] at hS;simp only [];replace hp7:=Hd hp7
     go_wp2_with (with_reducible refine ldB 2 hS isAgg31 ?_)
     have hS:=hS.order [0,1,2,4,3] rfl;simp only [NRF] at hS;refine (compactP_at (A:=[_,_,_]) hS hF0 ps7 hs7 (by omega)).mono ?_;rintro e w8 ⟨N,prs8,V,rfl,hS8,ps8,hsV,hmV,hNm⟩;clear hS ps7 hs7;have hS:=hS8;clear hS8;simp only [NRH] at hS
     have hNl:N=V.length:=by
      have:=(hS.rowSl 4 rfl).1;rw [flat_len pc_len,ps8.len] at this;omega
     subst hNl
     have hVm:∀ x,x ∈ V↔x ∈ gs.map Gp.pt∨∃ l ∈ pp,x ∈ l:=by
      intro x;rw [hmV x,hp7.out.mem_iff,List.mem_append,List.mem_flatten]
     have hV4:V.length≤4096:=by
      rcases hVB.out with h|h
      ·have:=hmX.out;omega
      ·exact h V hsV (fun x hx=>verts_isVert hos hpe.out pu.ok ((hVm x).1 hx))
     have hd1:decide ((4096:Int)<(V.length:Int))=false:=by simp;omega
     clear hmV hp7;replace hVm:=Hd hVm;replace hsV:=Hd hsV;simp only []
     go_wp2_with (first|(with_reducible first|refine stA (u:=.slice _ _ _) 2 hS sizeOf31 fun _ hS=>?_|refine ldB 2 hS isAgg31 ?_)|((with_reducible refine g_mm (T:=152) ?_);refine seq_makeMap hS (fun bo wbo hS=>?_);simp only [NRM];simp only [NRH] at hS)|((with_reducible refine g_mm (T:=153) ?_);refine seq_makeMap hS (fun bd wbd hS=>?_);simp only [NRM];simp only [NRH] at hS))
     have hS:=hS.order [0,1,2,3,5,6,4] rfl;simp only [NRF] at hS;obtain⟨S9,hS9e⟩:∃ S9:Nat→Prop,S9=fun k=>S0 k∨∃ c' ∈ [Chunk.row (.slice ad V.length c) 56 8 V.length (prs8.flatMap pc)],c'.has k:=⟨_,rfl⟩
     obtain⟨F9,hF9e⟩:∃ F9:Nat→Prop,F9=fun k=>F0 k∨∃ c' ∈ [Chunk.row (.slice ad V.length c) 56 8 V.length (prs8.flatMap pc)],c'.has k:=⟨_,rfl⟩
     have hp9:=Heap.handAll (L:=[_,_,_,_,_]) (R:=[_]) hS hO0 hF0 hp0;have hS9:=Heap.freezeAll [_,_,_,_,_] [_] hS;rw [← hS9e] at hp9;rw [← hF9e] at hS9
     have hF9:∀ k,S9 k→F9 k:=fun k h=>by
      rw [hS9e] at h;rw [hF9e]
      rcases h with h|h
      ·exact .inl (hF0 k h)
      ·exact .inr h
     have hO9:∀ k,Old w k→F9 k:=fun k h=>by rw [hF9e];exact .inl (hO0 k h)
     have hS09:∀ k,S0 k→S9 k:=fun k h=>by rw [hS9e];exact .inl h
     have hV:PL _ S9 (.slice ad V.length c) prs8 V:=⟨(hS.rowSl 6 rfl).weaken (fun k h=>by rw [hS9e];exact .inr ⟨_,by simp,h⟩),(ps8.at hS hF0).weaken hS09⟩;have hn9:=(hn.at hS hF0).weaken hS09;have pu9:=(pu.at hS hF0).weaken hS09;clear hS hn pu ps8 hp0 hF0 hO0 hS9e hF9e hS09 hNm hmb hB0;have hS:=hS9;clear hS9;have hVl:V.length≤4096:=by simp at hd1;omega
     clear hd1;go_wp2;have hS:Heap w _ (.frz F9 _::.blk b4 (.cells #[.slice none 0 0,.slice none 0 0,.slice none 0 0,.slice none 0 0] 34 (0,0))::.blk b7 (.cells #[.slice asg os.length cs,.slice at' gs.length ct,.slice ad V.length c,.slice none 0 0] 34 (0,0))::.blk bp (.cells vs.toArray 31 (0,0))::.blk bo (.map #[] 0)::.blk bd (.map #[] 0)::([]:List ORow).map (ORow.ch 3)):=hS;have hpl9:=pu9.vl;try simp only [NRG]
     go_loopw [128] (fun v wr=>∃ (i:Nat) (tr:List Step) (R:List ORow) (D:List ((Nat × Nat) × Gp)) (oo od:Obj),i≤os.length∧v=.int .i64 (i:Int)∧Heap w wr (.frz F9 wbd::.blk b4 (.cells #[.slice none 0 0,.slice none 0 0,.slice none 0 0,.slice none 0 0] 34 (0,0))::.blk b7 (.cells #[.slice asg os.length cs,.slice at' gs.length ct,.slice ad V.length c,.slice none 0 0] 34 (0,0))::.blk bp (.cells vs.toArray 31 (0,0))::.blk bo oo::.blk bd od::R.map (ORow.ch 3))∧MapIs pk sv oo (R.map ORow.s)∧MapIs pk gvv od D∧GInv tr (R.map ORow.g)∧DInv (fun i=>dirZ (nth s0 os i)) tr D∧TInv V pp i 1 tr∧tr.length≤i*4096) (fun v _=>os.length - (intOf v).toNat)
     case atStart=>exact⟨0,[],[],[],_,_,by omega,rfl,hS,MapIs.empty _ _,MapIs.empty _ _,GInv.nil,DInv.nil _,TInv.nil V pp,by simp⟩
     case round =>
      clear hS;obtain⟨i,tr,R,D,oo,od,hi,rfl,hS,hmo,hmd,hG,hD,hT,htl⟩:=hrel
      by_cases hil:i<os.length
      ·have hip:i<pp.length:=by have:=hpe.out;omega
       obtain⟨adl,nl,cl,prl,hvl9,hPl⟩:=pu9.el i hip;have hval:vs.toArray[i]? = some (.slice adl nl cl):=by rw [← hvl9,nth_eq nilV vs i (by omega)];simp [hpl9,hil]
       have hok:=pu9.ok i hip;obtain⟨l,hl⟩:∃ l,nth [] pp i=l:=⟨_,rfl⟩;have hppi:pp[i]? = some l:=by rw [← hl,nth_eq [] pp i hip];exact List.getElem?_eq_getElem hip
       rw [hl] at hPl hok;obtain rfl:nl=l.length:=by obtain⟨h1,a,cap,h2,_⟩:=hPl.sl;cases h2;rfl
       have hlV:∀ x ∈ l,x ∈ V:=fun x hx=>(hVm.out x).2 (.inr ⟨l,List.mem_of_getElem? hppi,hx⟩)
       obtain⟨t,ht⟩:∃ t,nth s0 os i=t:=⟨_,rfl⟩;have hto:=hos t (by rw [← ht];exact nth_mem s0 os i hil);have hcs:=flat_cell sc_len s0 hil;rw [ht] at hok hcs;have hl2:=hok.two hto.2.2
       have hlb:l.length≤4096:=by
        have h0:=hok.len;have h3:=opp_len hil;omega
       have hql:=hPl.ps.len;have hls:=hok.sorted;have hvo:=hn9.v.weaken hF9;have hlo:=hPl.sl.weaken hF9;replace hls:=Hd hls;replace hlV:=Hd hlV;replace ht:=Hd ht;replace hppi:=Hd hppi;clear hok hl hvl9 hip
       go_wp2_with (first|(with_reducible refine ixS underlying143 sizeOf31 ?_)|((with_reducible refine g_load (T:=31) ?_);refine seq_of hS rfl (stp_load_blk (T:=31) 3 isAgg31 rfl rfl hval ?_);simp only [NRM]))
       clear hval
       try try simp only [NRG]
       go_loopw [20] (fun v wr=>∃ (k:Nat) (tr:List Step) (R:List ORow) (D:List ((Nat × Nat) × Gp)) (oo od:Obj),1≤k∧k≤l.length∧v=.int .i64 (k:Int)∧Heap w wr (.frz F9 wbd::.blk b4 (.cells #[.slice none 0 0,.slice none 0 0,.slice none 0 0,.slice none 0 0] 34 (0,0))::.blk b7 (.cells #[.slice asg os.length cs,.slice at' gs.length ct,.slice ad V.length c,.slice none 0 0] 34 (0,0))::.blk bp (.cells vs.toArray 31 (0,0))::.blk bo oo::.blk bd od::R.map (ORow.ch 3))∧MapIs pk sv oo (R.map ORow.s)∧MapIs pk gvv od D∧GInv tr (R.map ORow.g)∧DInv (fun i=>dirZ (nth s0 os i)) tr D∧TInv V pp i k tr∧tr.length≤i*4096+k) (fun v _=>l.length - (intOf v).toNat)
       case atStart=>exact⟨1,tr,R,D,oo,od,by omega,by omega,rfl,hS,hmo,hmd,hG,hD,hT,by omega⟩
       case round =>
        clear hS hmo hmd hG hD hT htl;obtain⟨k,tr,R,D,oo,od,hk1,hkn,rfl,hS,hmo,hmd,hG,hD,hT,htl⟩:=hrel
        by_cases hkl:k<l.length
        ·obtain⟨q,hqk⟩:∃ q,q+1=k:=⟨k - 1,by omega⟩
         have hw1:IntKind.i64.wrap ((k:Int) - 1)=(q:Int):=Go.Hp.w7;have c1:=flat_cell pc_len p0 (show q<prl.length by omega);have c2:=flat_cell pc_len p0 (show k<prl.length by omega);have i1:=hPl.ps.el q (by omega);have i2:=hPl.ps.el k (by omega);obtain⟨m1,f1⟩:∃ m1,nth p0 prl q=m1:=⟨_,rfl⟩;obtain⟨m2,f2⟩:∃ m2,nth p0 prl k=m2:=⟨_,rfl⟩;obtain⟨y1,g1⟩:∃ y1,nth pt0 l q=y1:=⟨_,rfl⟩;obtain⟨y2,g2⟩:∃ y2,nth pt0 l k=y2:=⟨_,rfl⟩;have hy1:l[q]? = some y1:=by rw [← g1,nth_eq pt0 l q (by omega)];exact List.getElem?_eq_getElem _
         have hy2:l[q+1]? = some y2:=by rw [hqk,← g2,nth_eq pt0 l k hkl];exact List.getElem?_eq_getElem _
         rw [f1] at c1 i1;rw [f2] at c2 i2;rw [g1] at i1;rw [g2] at i2;clear f1 f2 g1 g2;have hy1V:=hlV.out y1 (List.mem_of_getElem? hy1);have hy2V:=hlV.out y2 (List.mem_of_getElem? hy2);replace hy1:=Hd hy1;replace hy2:=Hd hy2;have hql2:q<l.length:=by omega
         replace hqk:=Hd hqk;go_wp2;refine rg0 [.p 0,.r 1,.p 2,.p 3,.p 4,.p 5,.r 6,.e 7,.p 8,.p 9,.p 10,.p 11,.p 12] [] hS fun w1 hS=>?_
         have hC:=hS
         repeat (with_reducible first|refine sldB 2 isAgg31 ?_|refine sixE underlying31 sizeOf56 hlo c1 fun bq oq hcellq=>?_|refine sldG isAgg56 sizeOf56 ?_|refine spL ?_)
         refine exL ?_
         go_wp2_with (fail)
         refine (afind_any ad V.length c prs8 V m1 y1 _ S9 (hV.at hS hF9) (i1.at hS hF9) (Liv.at hS hF9) hsV.out (by omega)).mono ?_;rintro e w' ⟨⟨u,hu,rfl⟩,hq⟩;simp only [];go_step;have hu:=hu.at hsV.out hy1V;obtain⟨d1,hd1⟩:∃ d1,decide (u<V.length∧nth pt0 V u=y1)=d1:=⟨_,rfl⟩;rw [hd1];clear hd1 c1 i1;replace hu:=Hd hu;have hS:=hS.below hq.below hq.drawn;have hC:=hC.below hq.below hq.drawn;clear hq;refine ext_end hC ?_;refine mvs ?_;refine snL ?_;clear hC;go_wp2;refine rg0 [.p 0,.r 1,.p 2,.p 3,.p 4,.r 5,.e 6,.p 7,.p 8,.p 9,.p 10,.p 11] [] hS fun w1 hS=>?_
         have hC:=hS
         repeat (with_reducible first|refine sldB 2 isAgg31 ?_|refine sixE underlying31 sizeOf56 hlo c2 fun bq oq hcellq=>?_|refine sldG isAgg56 sizeOf56 ?_|refine spL ?_)
         refine exL ?_
         go_wp2_with (fail)
         refine (afind_any ad V.length c prs8 V m2 y2 _ S9 (hV.at hS hF9) (i2.at hS hF9) (Liv.at hS hF9) hsV.out (by omega)).mono ?_;rintro e w' ⟨⟨v,hv,rfl⟩,hq⟩;simp only [];go_step;have hv:=hv.at hsV.out hy2V;obtain⟨d2,hd2⟩:∃ d2,decide (v<V.length∧nth pt0 V v=y2)=d2:=⟨_,rfl⟩;rw [hd2];clear hd2 c2 i2;replace hv:=Hd hv;have hS:=hS.below hq.below hq.drawn;have hC:=hC.below hq.below hq.drawn;clear hq;refine ext_end hC ?_;refine mvs ?_;refine snL ?_;clear hC;obtain⟨R1,r,R2,hsp,hSr⟩:=row_split (L:=[_,_,_,_,_,_]) hS hG.nd (u,v);simp only [NRH] at hSr;clear hS;have hS:=hSr;clear hSr
         have hrn:r.n≤100000000:=by
          have h1:=(hS.rowSl (6+R1.length) (v:=.slice r.ad r.n r.c) (n:=r.n) (cs:=iv (zs r.is)) (Tb:=3) (k:=1) (by
           rw [show 6+R1.length=R1.length+6 by omega];simp only [List.getElem?_cons_succ];rw [List.map_append,List.map_cons,List.getElem?_append_right (by simp)];simp [ORow.ch])).1
          rw [iv_length,zs_length,← hsp.getg,hG.old,List.length_map] at h1;have h2:=List.length_filter_le (fun t:Step=>decide (t.2=(u,v))) tr;have h3:i*4096≤512*4096:=Nat.mul_le_mul_right _ (by omega);omega
         have hstp:=fun ad c=>hsp.step (ad:=ad) (c:=c) (i:=i)
         have hget:=hsp.get;replace hget:=Hd hget;replace hsp:=Hd hsp;replace hstp:=Hd hstp;replace htl:=Hd htl
         go_wp2_with (first|((with_reducible refine alA hS zeroValue84 fun b25 wb25 hS=>?_);have hS:=Heap.lastTo [_,_,_,_,_,_] _ _ hS;simp only [NRH] at hS)|(with_reducible first|refine stA (u:=.agg #[_,_]) 6 hS sizeOf84 fun _ hS=>?_|refine ldA 6 hS isAgg84 sizeOf84 ?_)|((with_reducible refine g_bs (T:=22) ?_);refine seq_bs1 (T:=22) (v:=.int .i64 _) hS underlying22 sizeOf3 zeroValue3 rfl rfl rfl (by decide) (by decide) rfl (fun bl wbl hS=>?_);simp only [NRM];simp only [Value.cells] at hS)|((with_reducible refine g_me (T:=152) ?_);refine seq_mapEntry (ev:=sv) (k:=(u,v)) (z:=(none,0,0)) 4 hS underlying152 zeroValue22 keyArr rfl rfl rfl hmo rfl (fun oe we st hme hst hS=>?_);rw [hget.out];simp only [NRM];simp only [NRH] at hS;simp only [sv])|((with_reducible refine g_app ?_);refine seq_append_orow (L:=[_,_,_,_,_,_,_]) (R1:=R1) (R2:=R2) (r:=r) (i:=i) hS underlying22 infoInt rfl rfl rfl hrn (fun ad9 c9 _ hS=>?_);simp only [NRM];simp only [NRH] at hS)|((with_reducible refine g_es (T:=152) ?_);refine seq_entryStore (ev:=sv) (v:=(ad9,r.n+1,c9)) 4 hS (fun _ _=>pk_inj) rfl rfl rfl rfl hme hst rfl (fun ou wu hmu hS=>?_);simp only [NRM];simp only [NRH] at hS))
         refine rg0 [.p 0,.r 1,.p 2,.p 3,.p 4,.r 5,.e 6,.m 7] [7] hS fun w1 hS=>?_
         have hC:=hS
         repeat (with_reducible first|refine sldA 6 isAgg84 sizeOf84 ?_|refine sixE underlying23 sizeOf95 hvo hcs fun bq oq hcellq=>?_|refine sldG isAgg95 sizeOf95 ?_|refine spL ?_)
         refine exL ?_
         go_wp2_with (fail)
         refine (adir_any t _ hto).mono ?_;rintro e w' ⟨rfl,hq⟩;simp only [];go_step;have hS:=hS.below hq.below hq.drawn;have hC:=hC.below hq.below hq.drawn;clear hq;refine ext_end hC ?_;refine mvs ?_;refine muL ?_
         ((with_reducible refine g_mu (T:=153) ?_);refine seq_mapUpdate (ev:=gvv) (k:=(u,v)) (v:=dirZ t) 5 hS underlying153 keyArr rfl rfl rfl rfl hmd rfl (fun ou2 wu2 hmd2 hS=>?_);simp only [NRM];simp only [NRH] at hS)
         refine mut_end ?_;refine snL ?_;clear hC;have hmo2:=hmu;rw [(hstp.out ad9 c9).1] at hmo2;have hG2:=hG.step i (u,v);rw [(hstp.out ad9 c9).2] at hG2;have hD2:=hD.step i (u,v);simp only [ht.out] at hD2;have hqk2:=hqk.out;have hT2:TInv V pp i (q+2) (tr++[(i,(u,v))]):=TInv.step hsV.out (by rw [hqk2];exact hT) hppi.out hls.out hy1.out hy2.out hu.out hv.out;rw [show q+2=k+1 by omega] at hT2;have htl2:(tr++[(i,(u,v))]).length≤i*4096+(k+1):=by rw [List.length_append,List.length_singleton];have:=htl.out;omega
         clear hmo hmd hG hD hT hme hmu hst hsp hstp hget;replace htl2:=Hd htl2;go_wp2;go_roundw
         case rel=>exact⟨k+1,_,_,_,_,_,by omega,by omega,by simp,hS.sb,hmo2,hmd2,hG2,hD2,hT2,htl2.out⟩
         case measure=>simp [intOf];omega
        ·obtain rfl:k=l.length:=by omega
         have hT2:=hT.next hppi.out (Nat.le_refl _);go_wp2;go_roundw
         case rel=>exact⟨i+1,tr,R,D,oo,od,by omega,by simp,hS,hmo,hmd,hG,hD,hT2,by omega⟩
         case measure=>simp [intOf];omega
      ·obtain rfl:i=os.length:=by omega
       have hRb:∀ r ∈ R,∀ x ∈ r.is,x≤9223372036854775807:=by
        intro r hr x hx;rw [hG.val r.k r.is (List.mem_map.2 ⟨r,hr,rfl⟩),List.mem_map] at hx;obtain⟨⟨j,y⟩,ht,rfl⟩:=hx;obtain⟨q,hq,_⟩:=(hT.mem j y.1 y.2).1 (List.mem_filter.1 ht).1;simp only;omega
       have hRl:R.length≤3000000:=by
        have h1:(R.map ORow.g).map (·.1) ⊆ tr.map (·.2):=fun k hk=>by
         obtain⟨t,ht,e⟩:=(hG.key k).1 hk;exact List.mem_map.2 ⟨t,ht,e⟩
        have h2:=hG.nd.length_le_of_subset h1;simp only [List.length_map] at h2;have h3:os.length*4096≤512*4096:=Nat.mul_le_mul_right _ hlo;omega
       obtain⟨S10,hS10e⟩:∃ S10:Nat→Prop,S10=fun k=>S9 k∨∃ c' ∈ R.map (ORow.ch 3),c'.has k:=⟨_,rfl⟩
       obtain⟨F10,hF10e⟩:∃ F10:Nat→Prop,F10=fun k=>F9 k∨∃ c' ∈ R.map (ORow.ch 3),c'.has k:=⟨_,rfl⟩
       have hp10:=Heap.handAll (L:=[_,_,_,_,_]) (R:=R.map (ORow.ch 3)) hS hO9 hF9 hp9;have hS10:=Heap.freezeAll [_,_,_,_,_] (R.map (ORow.ch 3)) hS;rw [← hS10e] at hp10;rw [← hF10e] at hS10
       have hF10:∀ k,S10 k→F10 k:=fun k h=>by
        rw [hS10e] at h;rw [hF10e]
        rcases h with h|h
        ·exact .inl (hF9 k h)
        ·exact .inr h
       have hO10:∀ k,Old w k→F10 k:=fun k h=>by rw [hF10e];exact .inl (hO9 k h)
       have hS910:∀ k,S9 k→S10 k:=fun k h=>by rw [hS10e];exact .inl h
       have hrows:∀ r ∈ R,Nats wr S10 (.slice r.ad r.n r.c) r.is:=fun r hr=>(rows_out (L:=[_,_,_,_,_,_]) hS hr (hRb r hr)).weaken fun k h=>by rw [hS10e];exact .inr h
       have hV10:=(hV.at hS hF9).weaken hS910;have hn10:=(hn9.at hS hF9).weaken hS910;have hArr:=fun es hes hso=>ArrP.of_maps (es:=es) hos hpe.out pu9.ok hsV.out hVm.out hT hG hD hes hso
       obtain⟨rO,hrO⟩:∃ rO:(Nat × Nat) × (Option Addr × Nat × Nat)→ER,rO=fun p=>⟨p.1.1,p.1.2,p.2.1,p.2.2.1,p.2.2.2,(getL D p.1).getD g0⟩:=⟨_,rfl⟩
       have hIE:∀ p ∈ R.map ORow.s,IsE wr S10 (rO p) (eOf (R.map ORow.g) D p.1):=by
        intro p hp;obtain⟨r,hr,rfl⟩:=List.mem_map.1 hp;rw [hrO];refine⟨rfl,rfl,rfl,?_⟩;have:getL (R.map ORow.g) r.k=some r.is:=getL_of_mem hG.nd (List.mem_map.2 ⟨r,hr,rfl⟩);simp only [eOf,ORow.s,this,Option.getD_some];exact hrows r hr
       have hkeys:∀ k,k ∈ (R.map ORow.g).map (·.1)↔k ∈ (R.map ORow.s).map (·.1):=by
        intro k;rw [List.map_map,List.map_map];exact Iff.rfl
       clear hS hp9 hF9 hO9 hV hn9 pu9 hrows hRb hS10e hF10e hS910 hT hG hD htl hVm hpl9 hpe;have hS:=hS10.addNil 101 5;clear hS10;simp only [NRH] at hS;replace hArr:=Hd hArr;replace hIE:=Hd hIE;replace hkeys:=Hd hkeys;replace hrO:=Hd hrO
       go_wp2_with (first|((with_reducible refine g_rng (T:=152) ?_);refine seq_range 4 hS underlying152 rfl rfl (by with_reducible assumption) rfl (fun bi obi wbi hit hS=>?_);simp only [NRM];simp only [NRH] at hS))
       try try simp only [NRG]
       go_loopw [181] (fun _ wx=>∃ (d:List ((Nat × Nat) × (Option Addr × Nat × Nat))) (oi:Obj) (ade:Option Addr) (ce:Nat),ItIs pk sv bo oo oi (R.map ORow.s) d∧Heap w wx [.frz F10 wr,.blk b4 (.cells #[.slice none 0 0,.slice none 0 0,.slice none 0 0,.slice none 0 0] 34 (0,0)),.blk b7 (.cells #[.slice asg os.length cs,.slice at' gs.length ct,.slice ad V.length c,.slice ade d.length ce] 34 (0,0)),.blk bp (.cells vs.toArray 31 (0,0)),.blk bo oo,.blk bd od,.row (.slice ade d.length ce) 101 5 d.length ((d.map rO).flatMap ec),.blk bi oi]) (fun _ wx=>R.length - itSize wx bi)
       case atStart=>exact⟨[],_,none,0,hit,hS⟩
       case round =>
        clear hS hit;obtain⟨d,oi,ade,ce,hit,hS⟩:=hrel;have hsz:=itSize_eq hit (hS.blk (b:=bi) (o:=oi) (by simp));have hdl:=itLen hit;rw [List.length_map] at hdl
        repeat ((fail_if_success ((with_reducible refine g_nxt ?_)));go_step)
        ((with_reducible refine g_nxt ?_);refine seq_next 4 7 hS rfl rfl rfl (by with_reducible assumption) rfl (fun hover=>?_) (fun kk vv oi' w' hkl hkd hit' hS=>?_) <;> (simp only [NRM];try simp only [NRH] at hS))
        ·go_wp2_with (with_reducible refine ldB 2 hS isAgg32 ?_)
         refine (sortE_any 6 hS rfl (by omega)).mono ?_;rintro e w11 ⟨rfl,rs',hpr,hsr,hS11⟩;clear hS;have hS:=hS11;clear hS11;simp only [NRH] at hS;replace hpr:=Hd hpr;replace hsr:=Hd hsr;simp only []
         go_wp2_with (with_reducible first|refine ldA 2 hS isAgg34 sizeOf34 ?_|refine stA (u:=.agg #[.slice _ _ _,.slice _ _ _,.slice _ _ _,.slice _ _ _]) 1 hS sizeOf34 fun _ hS=>?_)
         have hn5:=(hS.rowSl 6 rfl).1;have hperm:=hpr.out;have hdlen:d.length=R.length:=by have:=hover.length_eq;simpa using this
         obtain⟨hdn,hdsub⟩:=itSub hit;obtain⟨es,hes,hmem,hso⟩:=edges_of hover hperm hsr.out hdn hIE.out hkeys.out hrO.out
         have hel:d.length=es.length:=by
          rw [← hes.len,hperm.length_eq,List.length_map]
         have hsl:=hS.rowSl 6 rfl;refine ret_ct 1 hS rfl rfl rfl isAgg34 sizeOf34 rfl rfl ?_;refine⟨(asg,os.length,cs),(at',gs.length,ct),(ad,V.length,c),(ade,d.length,ce),_,V,es,rfl,hS.handOut hO10 hF10 hp10 (List.mem_of_getElem? (i:=5) rfl),⟨(hn10.s.at hS hF10).weaken fun k h=>.inl h,(hn10.p.at hS hF10).weaken fun k h=>.inl h,⟨prs8,(hV10.at hS hF10).weaken fun k h=>.inl h⟩,⟨rs',?_,(hes.at hS hF10).weaken fun k h=>.inl h⟩⟩,hArr.out es hmem hso⟩;rw [← hel];exact hsl.weaken fun k h=>.inr h
        ·go_wp2_with (first|((with_reducible refine g_ent ?_);refine seq_of hS rfl (stp_entry 4 7 rfl rfl rfl hit' ?_);simp only [NRM];simp only [pk,sv])|(with_reducible first|refine alA hS zeroValue84 fun b26 wb26 hS=>?_|refine stA (u:=.agg #[_,_]) 8 hS sizeOf84 fun _ hS=>?_))
         refine rg0 [.p 0,.r 1,.p 2,.r 3,.p 4,.r 5,.p 6,.p 7,.r 8,.r 9,.p 10,.e 11,.m 12,.p 13,.m 14] [12,14] hS fun w1 hS=>?_
         obtain⟨hsC,hkC⟩:=hS.cstart
         repeat (first|(with_reducible first|refine sldB 2 isAgg32 ?_|refine sldB 8 isAgg3 ?_|refine sldA 8 isAgg84 sizeOf84 ?_)|((with_reducible refine m_read ?_);refine sched_of rfl rfl (stp_lookup (ev:=gvv) (k:=kk) (z:=g0) 5 underlying153 zeroValue29 keyArr rfl rfl rfl hmd ?_);simp only [NRM];simp only [gvv])|(with_reducible refine spL ?_))
         refine exL ?_
         ((with_reducible refine g_bs (T:=32) ?_);refine seq_bs1 (T:=32) (v:=.agg #[.int .i64 _,.int .i64 _,.slice _ _ _,.int .i64 _,.int .i64 _]) hS underlying32 sizeOf101 zeroValue101 rfl rfl rfl (by decide) (by decide) rfl (fun bl wbl hS=>?_);simp only [NRM];simp only [Value.cells] at hS)
         refine ext_end (Heap.toC hS.sb hsC hkC) ?_;refine mvs ?_;refine muL ?_
         ((with_reducible refine g_app ?_);refine seq_append_lit (t:=32) 6 hS underlying32 infoEd rfl (by decide) rfl rfl rfl rfl (by simp [Value.oneCell']) (by omega) (by unfold maxLen;omega) (fun ad2 cp2 _ hS=>?_);simp only [NRM];simp only [NRH] at hS)
         refine mut_end ?_;refine mvs ?_;refine muL ?_
         (with_reducible refine stA (u:=.slice _ _ _) 2 hS sizeOf32 fun _ hS=>?_)
         refine mut_end ?_;refine mvs ?_;refine snL ?_;have hfl:((d++[(kk,vv)]).map rO).flatMap ec=(d.map rO).flatMap ec++ec (rO (kk,vv)):=by simp
         have he1:ec (rO (kk,vv))=[.int .i64 kk.1,.int .i64 kk.2,.slice vv.1 vv.2.1 vv.2.2,.int .i64 ((getL D kk).getD g0).x,.int .i64 ((getL D kk).getD g0).y]:=by rw [hrO.out];rfl
         replace he1:=Hd he1;replace hfl:=Hd hfl;go_wp2;go_roundw
         case rel=>exact⟨d++[(kk,vv)],oi',ad2,cp2,hit',by rw [List.length_append,List.length_singleton,hfl.out,he1.out];exact hS.sb⟩
         case measure =>
          have hsz':=itSize_eq hit' (hS.blk (b:=bi) (o:=oi') (by simp));have hdl':=itLen hit';simp only [List.length_append,List.length_cons,List.length_nil,List.length_map] at hsz' hdl';simp only [hsz,hsz'];omega
theorem new_any (os:List Sz) (gs:List Gp) (ao ap:Option Addr) (no co np cp:Nat) (w:World) (S:Nat→Prop) (hL:Liv w S) (hos:∀ t ∈ os,t.ok) (hgs:∀ g ∈ gs,g.ok) (hv:SlC w S 4 (.slice ao no co) os.length (os.flatMap sc)) (hg:SlC w S 2 (.slice ap np cp) gs.length (gs.flatMap gc)) (hlo:os.length≤512) (hlg:gs.length≤256) (hB:gs.length+os.length*(2+2*os.length+gs.length)≤4096) :
 Calls Tryz.prog 34 #[.slice ao no co,.slice ap np cp] w (ARes w S os gs) :=
 newB_any os gs ao ap no co np cp w S hL hos hgs hv hg hlo hlg (Nat.le_trans hB (by decide)) (.inl hB)
end Go.Proofs
