/- Of E4 E5. -/
import Derived.Test.YtjeofihncbegfaaGreatQ23
set_option maxRecDepth 100000
set_option maxHeartbeats 16000000
set_option linter.unusedVariables false
set_option linter.unusedSimpArgs false
namespace Go.Hp
open Go.Proofs.Tryz
open Go
theorem Rest.of {w0 w wr:World} {F:Nat→Prop} {A B:List Chunk} (hS:Heap w0 w (.frz F wr::(A++B))) {k:Nat} (hk:F k):Rest w B k:=by
 refine⟨(hS.ok (.frz F wr) (by simp) k hk).1,fun c hc=>?_⟩;exact (List.pairwise_cons.1 hS.apart).1 c (by simp [hc]) k hk
theorem SlC.at {w0 w wr:World} {H:List Chunk} {F S:Nat→Prop} {k n:Nat} {v:Value} {cs:List Value} (h:SlC wr S k v n cs) (hS:Heap w0 w (.frz F wr::H)) (hF:∀ k,S k→F k):SlC w S k v n cs:=h.move (hS.keep hF)
theorem onS_iff (s:Sz) (g:Gp):onS s.sg g.pt↔(decide (((min s.a.x s.b.x:Int):Rat)≤g.pt.x∧g.pt.x≤((max s.a.x s.b.x:Int):Rat)) && decide (((min s.a.y s.b.y:Int):Rat)≤g.pt.y∧g.pt.y≤((max s.a.y s.b.y:Int):Rat)))=true∧areaZ s.a s.b g=0:=by
 unfold onS inBox;rw [show s.sg.a=s.a.pt from rfl,show s.sg.b=s.b.pt from rfl,areaZ_pt,← castMin,← castMax,← castMin,← castMax];rw [Bool.and_eq_true,decide_eq_true_iff,decide_eq_true_iff]
 have:((areaZ s.a s.b g:Rat)=0)↔areaZ s.a s.b g=0:=by
  constructor
  ·intro h;exact_mod_cast h
  ·intro h;exact_mod_cast h
 rw [this]
 constructor
 ·rintro⟨h1,h2,h3,h4,h5⟩;exact⟨⟨⟨h2,h3⟩,h4,h5⟩,h1⟩
 ·rintro⟨⟨⟨h2,h3⟩,h4,h5⟩,h1⟩;exact⟨h1,h2,h3,h4,h5⟩
theorem Heap.handOut {w0 w wr:World} {H:List Chunk} {F S0 S:Nat→Prop} {c:Chunk} (hS:Heap w0 w (.frz F wr::H)) (hO:∀ k,Old w0 k→F k) (hF:∀ k,S k→F k) (hp:Pure w0 S0 wr S) (hc:c ∈ H):Pure w0 S0 w (fun k=>S k∨c.has k):=by
 have h1:=hp.step hS hO hF;refine⟨h1.below,h1.drawn,fun k hk=>.inl (h1.sub k hk),fun k hk=>?_⟩
 rcases hk with hk|hk
 ·exact h1.new k hk
 ·refine .inr ⟨?_,Chunk.lt (hS.ok _ (List.mem_cons_of_mem _ hc)) hk⟩
  rcases Nat.lt_or_ge k w0.heap.size with hlt|hge
  ·exact absurd hk ((List.pairwise_cons.1 hS.apart).1 _ hc k (hO k hlt))
  ·exact hge
structure PartsL (s:Sz) (os:List Sz) (gs:List Gp) (l:List Pt):Prop where
 sorted:l.Pairwise Pt.lt
 mem:∀ x,x ∈ l↔x=s.a.pt∨x=s.b.pt∨(∃ t ∈ os,x ∈ meetL s.sg t.sg)∨∃ g ∈ gs,x=g.pt∧onS s.sg x
 len:l.length≤2+2*os.length+gs.length
end Go.Hp
namespace Go.Proofs
open Go.Proofs.Tryz
open Go.RowKit Go.Hp
theorem note_at {w0 wr w:World} {F S:Nat→Prop} {A:List Chunk} {bo:Nat} {ad:Option Addr} {n c:Nat} {prs:List PR} {l:List Pt} {p:PR} {q:Pt}
 (hS:Heap w0 w (.frz F wr::(A++[.blk bo (.cells #[.slice ad n c] 25 (0,0)),.row (.slice ad n c) 65 8 n (prs.flatMap pc)]))) (hF:∀ k,S k→F k) (hps:IsPs wr S prs l) (hp:IsP wr S p q) (hs:l.Pairwise Pt.lt) (hle:l.length≤5000) :
 Calls Tryz.prog 138 #[.agg #[.bool p.x.num.neg,.slice p.x.num.ad p.x.num.n p.x.num.cap,.bool p.x.less.neg,.slice p.x.less.ad p.x.less.n p.x.less.cap,.bool p.y.num.neg,.slice p.y.num.ad p.y.num.n p.y.num.cap,.bool p.y.less.neg,.slice p.y.less.ad p.y.less.n p.y.less.cap],.pointer (some ⟨bo,0,none⟩)] w fun e w'=>e=.returned (.tuple #[])∧∃ ad' n' c' prs' l',Heap w0 w' (.frz F wr::(A++[.blk bo (.cells #[.slice ad' n' c'] 25 (0,0)),.row (.slice ad' n' c') 65 8 n' (prs'.flatMap pc)]))∧IsPs wr S prs' l'∧l'.Pairwise Pt.lt∧(∀ x,x ∈ l'↔x ∈ l∨x=q)∧l'.length≤l.length+1:=by
 have hsp:=Heap.split (A:=.frz F wr::A) hS;refine (note_any bo ad n c prs l p q _ S w hsp (fun k hk=>Rest.of hS (hF k hk)) (hps.at hS hF) (hp.at hS hF) hs hle).mono ?_;rintro e w' ⟨rfl,ad',n',c',prs',l',hS',h1,h2,h3,h4⟩;have hS2:=Heap.unsplit (A:=.frz F wr::A) hS hS';exact⟨rfl,ad',n',c',prs',l',hS2,h1.move (fun k hk=>(hS2.keep hF k hk).symm),h2,h3,h4⟩
theorem infoS:(Tryz.prog.info? 121).map (fun i=>(i.zero,i.size,i.bytes))=some (some (.agg #[.int .i64 s0.a.x,.int .i64 s0.a.y,.int .i64 s0.b.x,.int .i64 s0.b.y]),4,32):=by kernel_rfl
theorem sc_one (l:List Sz):∀ v ∈ l.flatMap sc,v.oneCell'=true:=by
 intro v hv;obtain⟨p,_,h⟩:=List.mem_flatMap.1 hv;simp only [sc,List.mem_cons,List.not_mem_nil,or_false] at h
 rcases h with rfl|rfl|rfl|rfl <;> rfl
theorem parts_any (s:Sz) (os:List Sz) (gs:List Gp) (ao ap:Option Addr) (no co np cp:Nat) (w:World) (S:Nat→Prop) (hL:Liv w S) (hs:s.ok) (hos:∀ t ∈ os,t.ok) (hgs:∀ g ∈ gs,g.ok) (hv:SlC w S 4 (.slice ao no co) os.length (os.flatMap sc)) (hg:SlC w S 2 (.slice ap np cp) gs.length (gs.flatMap gc)) (hlo:os.length≤600) (hlg:gs.length≤600) :
 Calls Tryz.prog 76 #[.agg #[.int .i64 s.a.x,.int .i64 s.a.y,.int .i64 s.b.x,.int .i64 s.b.y],.slice ao no co,.slice ap np cp] w fun e w'=>∃ ad n c prs l S',e=.returned (.tuple #[.slice ad n c,.int .i64 0])∧Pure w S w' S'∧PL w' S' (.slice ad n c) prs l∧PartsL s os gs l:=by
 obtain rfl:no=os.length:=by obtain⟨h1,a,cap,h2,_⟩:=hv;cases h2;rfl
 obtain rfl:np=gs.length:=by obtain⟨h1,a,cap,h2,_⟩:=hg;cases h2;rfl
 have hvS:=fun ad n c w S hv=>validS_any ad n c (s::os) w S hv (by simpa using ⟨hs,hos⟩)
 have ia:InI s.a.x∧InI s.a.y:=by have:=hs.1;unfold Gp.ok okC at this;unfold InI;omega
 have ib:InI s.b.x∧InI s.b.y:=by have:=hs.2.1;unfold Gp.ok okC at this;unfold InI;omega
 obtain⟨hS,hF0,hO0,hp0⟩:=st0 hL
 go_enter func76,ntmps76
 have hvF:SlC w (Old w) 4 _ _ _:=hv.weaken hF0
 go_wp2_with (first|(with_reducible first|refine bxA (T:=121) (v:=.agg _) hS fun bx wbx hS=>?_|refine ldA 1 hS isAgg121 sizeOf121 ?_)|(((with_reducible refine g_bs (T:=23) ?_);refine seq_bs1 (T:=23) (v:=.agg #[.int .i64 s.a.x,.int .i64 s.a.y,.int .i64 s.b.x,.int .i64 s.b.y]) hS underlying23 sizeOf121 zeroValue121 rfl rfl rfl (by decide) (by decide) rfl (fun b20 wb20 hS=>?_);simp only [NRM];simp only [Value.cells] at hS);have hS:=hS.toRow (m:=1) (k:=4) 2 rfl (by simp) (by decide);simp only [NRH] at hS)|((with_reducible refine g_app ?_);refine seq_append (t:=23) 2 hS underlying23 infoS rfl (by decide) rfl rfl rfl hvF (by simp) (sc_one os) (by omega) (by unfold maxLen;omega) (fun ad1 c1 _ hS=>?_);simp only [NRM];simp only [NRH] at hS))
 have hsl:=hS.rowSl 2 rfl;refine (hvS ad1 (1+os.length) c1 _ _ (by rw [List.length_cons,Nat.add_comm os.length 1];simpa [sc] using hsl)).mono ?_;rintro e w' ⟨rfl,hq⟩;have hS:=hS.below hq.below hq.drawn;clear hsl hvS;simp only [];have hsub:=hS.sub (H':=[.frz (Old w) w,.blk bx (.cells #[.int .i64 s.a.x,.int .i64 s.a.y,.int .i64 s.b.x,.int .i64 s.b.y] 121 (0,0))]) (by repeat (first|exact List.Sublist.refl _|apply List.Sublist.cons_cons|apply List.Sublist.cons));clear hS hvF hq;have hS:=hsub;clear hsub;have hgF:SlC w (Old w) 2 _ _ _:=hg.weaken hF0;go_wp2
 go_loopw [29] (fun v wr=>∃ k:Nat,k≤gs.length∧v=.int .i64 (k:Int)∧Heap w wr [.frz (Old w) w,.blk bx (.cells #[.int .i64 s.a.x,.int .i64 s.a.y,.int .i64 s.b.x,.int .i64 s.b.y] 121 (0,0))]) (fun v _=>gs.length - (intOf v).toNat)
 case atStart=>exact⟨0,by omega,rfl,hS⟩
 case round =>
  clear hS;obtain⟨k,hk,rfl,hS⟩:=hrel
  by_cases hkl:k<gs.length
  ·obtain⟨p,hp⟩:∃ p,nth g0 gs k=p:=⟨_,rfl⟩
   have hc:=flat_cell gc_len g0 hkl;rw [hp] at hc;obtain⟨o1,o2⟩:=hgs p (by rw [← hp];exact nth_mem g0 gs k hkl);unfold okC at o1 o2;have hvk:=pvalid_any p.x p.y
   go_wp2_with (first|(with_reducible first|refine ixE underlying24 sizeOf51 hgF hc fun bq oq hcellq=>?_|refine ldG hS isAgg51 sizeOf51 ?_|refine alA hS zeroValue51 fun bp wbp hS=>?_|refine stA (u:=.agg #[_,_]) 2 hS sizeOf51 fun _ hS=>?_|refine ldA 2 hS isAgg51 sizeOf51 ?_)|(go_at_call 135;refine (hvk _ o1 o2).mono ?_;rintro e w' ⟨rfl,hq⟩;have hS:=hS.below hq.below hq.drawn))
   go_roundw
   case rel=>exact⟨k+1,by omega,rfl,hS.sb⟩
   case measure=>simp [intOf];omega
  ·obtain rfl:k=gs.length:=by omega
   clear hgF
   go_wp2_with (with_reducible first|refine alA hS zeroValue25 fun b12 wb12 hS=>?_|refine ldK 1 hS isAgg51 sizeOf51 ?_)
   refine (pof_any s.a.x s.a.y _ S ia.1 ia.2 (Liv.at hS hF0)).mono ?_;rintro e w1 ⟨z1,S1,rfl,hq,hz1⟩;have hv:=(hv.at hS hF0).grow hq;have hg:=(hg.at hS hF0).grow hq;replace hS:=hS.pcl hF0 hO0 hp0 hq;obtain⟨F1,hF1,-,hp1,hO1,hS⟩:=hS;simp only []
   go_wp2_with (fail)
   have hS:=hS.addNil 65 8;refine (note_at (A:=[.blk bx (.cells #[.int .i64 s.a.x,.int .i64 s.a.y,.int .i64 s.b.x,.int .i64 s.b.y] 121 (0,0))]) (prs:=[]) hS hF1 (IsPs.nil _ _) hz1 List.Pairwise.nil (by simp)).mono ?_;rintro e w2 ⟨rfl,ad1,n1,c1,prs1,l1,hS2,ps1,so1,me1,le1⟩;clear hS;have hS:=hS2;clear hS2;simp only [NRH] at hS;simp only []
   go_wp2_with (with_reducible refine ldK 1 hS isAgg51 sizeOf51 ?_)
   refine (pof_any s.b.x s.b.y _ S1 ib.1 ib.2 (Liv.at hS hF1)).mono ?_;rintro e w3 ⟨z2,S2,rfl,hq2,hz2⟩;have hv:=(hv.at hS hF1).grow hq2;have hg:=(hg.at hS hF1).grow hq2;have ps1:=(ps1.at hS hF1).grow hq2;replace hS:=hS.pcl hF1 hO1 hp1 hq2;obtain⟨F2,hF2,-,hp2,hO2,hS⟩:=hS;simp only []
   go_wp2_with (fail)
   refine (note_at (A:=[.blk bx (.cells #[.int .i64 s.a.x,.int .i64 s.a.y,.int .i64 s.b.x,.int .i64 s.b.y] 121 (0,0))]) hS hF2 ps1 hz2 so1 (by simp at le1;omega)).mono ?_;rintro e w4 ⟨rfl,ad2,n2,c2,prs2,l2,hS2,ps2,so2,me2,le2⟩;clear hS;have hS:=hS2;clear hS2;simp only [NRH] at hS;simp only [];go_wp2
   have me0:∀ x,x ∈ l2↔x=s.a.pt∨x=s.b.pt∨∃ t ∈ os.take 0,x ∈ meetL s.sg t.sg:=by
    intro x;rw [me2,me1];simp [Gp.pt]
   have le0:l2.length≤2+2*0:=by simp at le1;omega
   clear me1 me2 le1 le2 so1 ps1 hz1 hz2;replace me0:=Hd me0;have gotx:=fun t w' S' (hL':Liv w' S') (ht:t.a.ok∧t.b.ok)=>meet_any s t w' S' hL' ⟨hs.1,hs.2.1⟩ ht
   go_loopw [52] (fun v wr=>∃ (k:Nat) (F S':Nat→Prop) (wq:World) (ad:Option Addr) (n c:Nat) (prs:List PR) (l:List Pt),k≤os.length∧v=.int .i64 (k:Int)∧Heap w wr [.frz F wq,.blk bx (.cells #[.int .i64 s.a.x,.int .i64 s.a.y,.int .i64 s.b.x,.int .i64 s.b.y] 121 (0,0)),.blk b12 (.cells #[.slice ad n c] 25 (0,0)),.row (.slice ad n c) 65 8 n (prs.flatMap pc)]∧(∀ k,S' k→F k)∧(∀ k,Old w k→F k)∧Pure w S wq S'∧SlC wq S' 4 (.slice ao os.length co) os.length (os.flatMap sc)∧SlC wq S' 2 (.slice ap gs.length cp) gs.length (gs.flatMap gc)∧IsPs wq S' prs l∧l.Pairwise Pt.lt∧Hid (∀ x,x ∈ l↔x=s.a.pt∨x=s.b.pt∨∃ t ∈ os.take k,x ∈ meetL s.sg t.sg)∧l.length≤2+2*k) (fun v _=>os.length - (intOf v).toNat)
   case atStart=>exact⟨0,_,_,_,_,_,_,_,_,by omega,rfl,hS,hF2,hO2,hp2,hv,hg,ps2,so2,me0,le0⟩
   case round =>
    clear hS hF0 hF1 hF2 hO0 hO1 hO2 hp0 hp1 hp2 hv hg ps2 so2 me0 le0;obtain⟨k,F0,S0,wq,ad,n,c,prs,l,hk,rfl,hS,hF0,hO0,hp0,hv,hg,ps,so,me,le⟩:=hrel
    by_cases hkl:k<os.length
    ·obtain⟨t,ht⟩:∃ t,nth s0 os k=t:=⟨_,rfl⟩
     have hc:=flat_cell sc_len s0 hkl;rw [ht] at hc;have hto:=hos t (by rw [← ht];exact nth_mem s0 os k hkl);have hvo:=hv.weaken hF0;have htk:os.take (k+1)=os.take k++[t]:=by rw [← ht];exact take_snoc s0 os k hkl
     clear ht;replace htk:=Hd htk
     go_wp2_with (with_reducible first|refine ixE underlying23 sizeOf121 hvo hc fun bq oq hcellq=>?_|refine ldG hS isAgg121 sizeOf121 ?_|refine alA hS zeroValue121 fun b15 wb15 hS=>?_|refine stA (u:=.agg #[_,_,_,_]) 4 hS sizeOf121 fun _ hS=>?_|refine ldA 1 hS isAgg121 sizeOf121 ?_|refine ldA 4 hS isAgg121 sizeOf121 ?_)
     refine (gotx t _ S0 (Liv.at hS hF0) ⟨hto.1,hto.2.1⟩).mono ?_;obtain⟨M,hM⟩:∃ M,meetL s.sg t.sg=M:=⟨_,rfl⟩
     have me1:∀ x,(x=s.a.pt∨x=s.b.pt∨∃ t ∈ os.take (k+1),x ∈ meetL s.sg t.sg)↔x ∈ l∨x ∈ M:=by
      intro x;rw [htk.out,me.out x,← hM];simp only [List.mem_append,List.mem_singleton]
      constructor
      ·rintro (h|h|⟨u,hu|rfl,h⟩)
       ·exact .inl (.inl h)
       ·exact .inl (.inr (.inl h))
       ·exact .inl (.inr (.inr ⟨u,hu,h⟩))
       ·exact .inr h
      ·rintro ((h|h|⟨u,hu,h⟩)|h)
       ·exact .inl h
       ·exact .inr (.inl h)
       ·exact .inr (.inr ⟨u,.inl hu,h⟩)
       ·exact .inr (.inr ⟨t,.inr rfl,h⟩)
     rw [hM];clear hM hvo hc hto htk me;replace me1:=Hd me1;rintro e w5 (⟨rfl,rfl,hq⟩|⟨q,z,S1,rfl,rfl,hq,hz⟩|⟨q,r,z,y,S1,rfl,rfl,hq,hz,hy⟩)
     ·have hv:=(hv.at hS hF0).grow hq
      have hg:=(hg.at hS hF0).grow hq;have ps:=(ps.at hS hF0).grow hq;replace hS:=hS.pcl hF0 hO0 hp0 hq;obtain⟨F1,hF1,-,hp1,hO1,hS⟩:=hS;simp only []
      go_wp2_with (with_reducible first|refine alA hS zeroValue201 fun b16 wb16 hS=>?_|refine stA (u:=.agg #[.int .i64 _,.bool _,.slice _ _ _,.bool _,.slice _ _ _,.bool _,.slice _ _ _,.bool _,.slice _ _ _,.bool _,.slice _ _ _,.bool _,.slice _ _ _,.bool _,.slice _ _ _,.bool _,.slice _ _ _]) 5 hS sizeOf201 fun _ hS=>?_|refine ldB 5 hS isAgg3 ?_)
      go_roundw
      case rel=>exact⟨k+1,F1,_,_,_,_,_,_,_,by omega,rfl,hS.sb,hF1,hO1,hp1,hv,hg,ps,so,Hd (fun x=>by rw [me1.out x];simp),by omega⟩
      case measure=>simp [intOf];omega
     ·have hv:=(hv.at hS hF0).grow hq
      have hg:=(hg.at hS hF0).grow hq;have ps:=(ps.at hS hF0).grow hq;replace hS:=hS.pcl hF0 hO0 hp0 hq;obtain⟨F1,hF1,-,hp1,hO1,hS⟩:=hS;simp only []
      go_wp2_with (with_reducible first|refine alA hS zeroValue201 fun b16 wb16 hS=>?_|refine stA (u:=.agg #[.int .i64 _,.bool _,.slice _ _ _,.bool _,.slice _ _ _,.bool _,.slice _ _ _,.bool _,.slice _ _ _,.bool _,.slice _ _ _,.bool _,.slice _ _ _,.bool _,.slice _ _ _,.bool _,.slice _ _ _]) 5 hS sizeOf201 fun _ hS=>?_|refine ldB 5 hS isAgg3 ?_|refine ldK 5 hS isAgg65 sizeOf65 ?_)
      have hS:=hS.order [0,1,4,5,2,3] rfl;simp only [NRF] at hS;refine (note_at (A:=[_,_,_]) hS hF1 ps hz so (by omega)).mono ?_;rintro e w6 ⟨rfl,ad3,n3,c3,prs3,l3,hS2,ps3,so3,me3,le3⟩;clear hS ps hz;have hS:=hS2;clear hS2;simp only [NRH] at hS;replace me3:=Hd me3;simp only []
      go_wp2_with (with_reducible refine ldB 3 hS isAgg3 ?_)
      go_roundw
      case rel=>exact⟨k+1,F1,_,_,_,_,_,_,_,by omega,rfl,hS.sb,hF1,hO1,hp1,hv,hg,ps3,so3,Hd (fun x=>by rw [me1.out x,me3.out x];simp),by omega⟩
      case measure=>simp [intOf];omega
     ·have hv:=(hv.at hS hF0).grow hq
      have hg:=(hg.at hS hF0).grow hq;have ps:=(ps.at hS hF0).grow hq;replace hS:=hS.pcl hF0 hO0 hp0 hq;obtain⟨F1,hF1,-,hp1,hO1,hS⟩:=hS;simp only []
      go_wp2_with (with_reducible first|refine alA hS zeroValue201 fun b16 wb16 hS=>?_|refine stA (u:=.agg #[.int .i64 _,.bool _,.slice _ _ _,.bool _,.slice _ _ _,.bool _,.slice _ _ _,.bool _,.slice _ _ _,.bool _,.slice _ _ _,.bool _,.slice _ _ _,.bool _,.slice _ _ _,.bool _,.slice _ _ _]) 5 hS sizeOf201 fun _ hS=>?_|refine ldB 5 hS isAgg3 ?_|refine ldK 5 hS isAgg65 sizeOf65 ?_)
      have hS:=hS.order [0,1,4,5,2,3] rfl;simp only [NRF] at hS;refine (note_at (A:=[_,_,_]) hS hF1 ps hz so (by omega)).mono ?_;rintro e w6 ⟨rfl,ad3,n3,c3,prs3,l3,hS2,ps3,so3,me3,le3⟩;clear hS ps hz;have hS:=hS2;clear hS2;simp only [NRH] at hS;replace me3:=Hd me3;simp only []
      go_wp2_with (with_reducible first|refine ldB 3 hS isAgg3 ?_|refine ldK 3 hS isAgg65 sizeOf65 ?_)
      refine (note_at (A:=[_,_,_]) hS hF1 ps3 hy so3 (by omega)).mono ?_;rintro e w7 ⟨rfl,ad4,n4,c4,prs4,l4,hS2,ps4,so4,me4,le4⟩;clear hS ps3 hy;have hS:=hS2;clear hS2;simp only [NRH] at hS;replace me4:=Hd me4;simp only [];go_wp2;go_roundw
      case rel=>exact⟨k+1,F1,_,_,_,_,_,_,_,by omega,rfl,hS.sb,hF1,hO1,hp1,hv,hg,ps4,so4,Hd (fun x=>by rw [me1.out x,me4.out x,me3.out x];simp [or_assoc]),by omega⟩
      case measure=>simp [intOf];omega
    ·obtain rfl:k=os.length:=by omega
     rw [List.take_length] at me;clear gotx;go_wp2
     go_loopw [76] (fun v wr=>∃ (k:Nat) (F S':Nat→Prop) (wq:World) (ad:Option Addr) (n c:Nat) (prs:List PR) (l:List Pt),k≤gs.length∧v=.int .i64 (k:Int)∧Heap w wr [.frz F wq,.blk bx (.cells #[.int .i64 s.a.x,.int .i64 s.a.y,.int .i64 s.b.x,.int .i64 s.b.y] 121 (0,0)),.blk b12 (.cells #[.slice ad n c] 25 (0,0)),.row (.slice ad n c) 65 8 n (prs.flatMap pc)]∧(∀ k,S' k→F k)∧(∀ k,Old w k→F k)∧Pure w S wq S'∧SlC wq S' 2 (.slice ap gs.length cp) gs.length (gs.flatMap gc)∧IsPs wq S' prs l∧l.Pairwise Pt.lt∧Hid (∀ x,x ∈ l↔x=s.a.pt∨x=s.b.pt∨(∃ t ∈ os,x ∈ meetL s.sg t.sg)∨∃ g ∈ gs.take k,x=g.pt∧onS s.sg x)∧l.length≤2+2*os.length+k) (fun v _=>gs.length - (intOf v).toNat)
     case atStart=>exact⟨0,_,_,_,_,_,_,_,_,by omega,rfl,hS,hF0,hO0,hp0,hg,ps,so,Hd (fun x=>by rw [me.out x];simp),by omega⟩
     case round =>
      clear hS hF0 hO0 hp0 hv hg ps so me le;obtain⟨k,F0,S0,wq,ad,n,c,prs,l,hk,rfl,hS,hF0,hO0,hp0,hg,ps,so,me,le⟩:=hrel
      by_cases hkl:k<gs.length
      ·obtain⟨g,hgt⟩:∃ g,nth g0 gs k=g:=⟨_,rfl⟩
       have hc:=flat_cell gc_len g0 hkl;rw [hgt] at hc;have hgo:=hgs g (by rw [← hgt];exact nth_mem g0 gs k hkl);have ig:InI g.x∧InI g.y:=by have:=hgo;unfold Gp.ok okC at this;unfold InI;omega
       have hgF:=hg.weaken hF0;have gtk:gs.take (k+1)=gs.take k++[g]:=by rw [← hgt];exact take_snoc g0 gs k hkl
       have sd:=fun w' S' hL'=>sideC_any s g w' S' hL' hs.1 hs.2.1 hgo
       obtain⟨c1,hc1⟩:∃ c1,(decide (((min s.a.x s.b.x:Int):Rat)≤g.pt.x∧g.pt.x≤((max s.a.x s.b.x:Int):Rat)) && decide (((min s.a.y s.b.y:Int):Rat)≤g.pt.y∧g.pt.y≤((max s.a.y s.b.y:Int):Rat)))=c1:=⟨_,rfl⟩
       have pn:∀ z w' S',Liv w' S'→IsP w' S' z g.pt→Calls Tryz.prog 142 #[.agg #[.int .i64 s.bx.x0,.int .i64 s.bx.y0,.int .i64 s.bx.x1,.int .i64 s.bx.y1],.agg #[.bool z.x.num.neg,.slice z.x.num.ad z.x.num.n z.x.num.cap,.bool z.x.less.neg,.slice z.x.less.ad z.x.less.n z.x.less.cap,.bool z.y.num.neg,.slice z.y.num.ad z.y.num.n z.y.num.cap,.bool z.y.less.neg,.slice z.y.less.ad z.y.less.n z.y.less.cap]] w' fun e w''=>e=.returned (.bool c1)∧Pure w' S' w'' S':=fun z w' S' hL' hz=>by
        have hb:InI s.bx.x0∧InI s.bx.y0∧InI s.bx.x1∧InI s.bx.y1:=by unfold Sz.bx;simp only;unfold InI at *;omega
        rw [← hc1];exact pin_any s.bx z g.pt w' S' hb.1 hb.2.1 hb.2.2.1 hb.2.2.2 hz hL'
       have bc:=fun w=>boxC_any s w
       have hon:=onS_iff s g;rw [hc1] at hon
       have me1:∀ x,(x=s.a.pt∨x=s.b.pt∨(∃ t ∈ os,x ∈ meetL s.sg t.sg)∨∃ g ∈ gs.take (k+1),x=g.pt∧onS s.sg x)↔x ∈ l∨(x=g.pt∧(c1=true∧areaZ s.a s.b g=0)):=by
        intro x;rw [gtk,me.out x,← hon];simp only [List.mem_append,List.mem_singleton]
        constructor
        ·rintro (h|h|h|⟨u,hu|rfl,h⟩)
         ·exact .inl (.inl h)
         ·exact .inl (.inr (.inl h))
         ·exact .inl (.inr (.inr (.inl h)))
         ·exact .inl (.inr (.inr (.inr ⟨u,hu,h⟩)))
         ·obtain⟨rfl,h⟩:=h
          exact .inr ⟨rfl,h⟩
        ·rintro ((h|h|h|⟨u,hu,h⟩)|⟨rfl,h⟩)
         ·exact .inl h
         ·exact .inr (.inl h)
         ·exact .inr (.inr (.inl h))
         ·exact .inr (.inr (.inr ⟨u,.inl hu,h⟩))
         ·exact .inr (.inr (.inr ⟨g,.inr rfl,rfl,h⟩))
       replace me1:=Hd me1;have hz0:=@sgnZ_zero (areaZ s.a s.b g);obtain⟨d1,hd1⟩:∃ d1,sgnZ (areaZ s.a s.b g)=d1:=⟨_,rfl⟩;rw [hd1] at sd hz0;clear hc1 hgt hd1 gtk me hon;replace hz0:=Hd hz0
       go_wp2_with (with_reducible first|refine ixE underlying24 sizeOf51 hgF hc fun bq oq hcellq=>?_|refine ldG hS isAgg51 sizeOf51 ?_|refine alA hS zeroValue51 fun b18 wb18 hS=>?_|refine stA (u:=.agg #[_,_]) 4 hS sizeOf51 fun _ hS=>?_)
       clear hgF hc;refine rg0 [.r 0,.r 2,.e 1,.e 3,.e 4,.p 5,.r 6,.r 7,.e 8,.p 9,.p 10] [] hS fun w1 hS=>?_
       have hC:=hS
       repeat (with_reducible first|refine sldA 1 isAgg121 sizeOf121 ?_|refine sldA 4 isAgg51 sizeOf51 ?_)
       refine exL ?_
       go_wp2_with (fail)
       refine (bc _).mono ?_;rintro e w' ⟨rfl,hq⟩;simp only [];go_step;have hS:=hS.below hq.below hq.drawn;have hC:=hC.below hq.below hq.drawn;refine ext_end hC ?_;refine mvs ?_;refine exL ?_
       go_wp2_with (fail)
       refine (pof_any g.x g.y _ S0 ig.1 ig.2 (Liv.at hS hF0)).mono ?_;rintro e w' ⟨z,S1,rfl,hq1,hz⟩;simp only [];go_step;have hg:=(hg.at hS hF0).grow hq1;have ps:=(ps.at hS hF0).grow hq1;have hC:=hC.below hq1.below hq1.drawn;replace hS:=hS.pcl hF0 hO0 hp0 hq1;obtain⟨F1,hF1,-,hp1,hO1,hS⟩:=hS;refine ext_end hC ?_;refine mvs ?_;refine exL ?_
       go_wp2_with (fail)
       refine (pn z _ S1 (Liv.at hS hF1) (hz.at hS hF1)).mono ?_;rintro e w' ⟨rfl,hq2⟩;simp only [];go_step;have hg:=(hg.at hS hF1).grow hq2;have ps:=(ps.at hS hF1).grow hq2;have hC:=hC.below hq2.below hq2.drawn;replace hS:=hS.pcl hF1 hO1 hp1 hq2;obtain⟨F2,hF2,-,hp2,hO2,hS⟩:=hS;refine ext_end hC ?_;cases c1
       ·refine mvs ?_
        refine exL ?_;refine wpList_unwanted rfl ?_;refine ext_end hC ?_;refine mvs ?_;refine snL ?_;clear hC;go_wp2;go_roundw
        case rel=>exact⟨k+1,F2,_,_,_,_,_,_,_,by omega,rfl,hS.sb,hF2,hO2,hp2,hg,ps,so,Hd (fun x=>by rw [me1.out x];simp),by omega⟩
        case measure=>simp [intOf];omega
       ·repeat (with_reducible first|refine sldA 1 isAgg121 sizeOf121 ?_|refine sldA 4 isAgg51 sizeOf51 ?_|refine spL ?_)
        refine exL ?_
        go_wp2_with (fail)
        refine (sd _ S1 (Liv.at hS hF2)).mono ?_;rintro e w' ⟨rfl,hq3⟩;simp only [];go_step;have hg:=(hg.at hS hF2).grow hq3;have ps:=(ps.at hS hF2).grow hq3;have hC:=hC.below hq3.below hq3.drawn;replace hS:=hS.pcl hF2 hO2 hp2 hq3;obtain⟨F3,hF3,-,hp3,hO3,hS⟩:=hS;refine ext_end hC ?_
        by_cases hd0:d1=0
        ·have hd1:(d1 == 0)=true:=by simp [hd0]
         have hz1:=hz0.out.1 hd0;clear hd0 hz0;replace hz1:=Hd hz1;refine mvs ?_;refine snL ?_;clear hC
         go_wp2_with (with_reducible refine ldA 4 hS isAgg51 sizeOf51 ?_)
         refine (pof_any g.x g.y _ S1 ig.1 ig.2 (Liv.at hS hF3)).mono ?_;rintro e w8 ⟨z2,S2,rfl,hq4,hz2⟩;have hg:=(hg.at hS hF3).grow hq4;have ps:=(ps.at hS hF3).grow hq4;replace hS:=hS.pcl hF3 hO3 hp3 hq4;obtain⟨F4,hF4,-,hp4,hO4,hS⟩:=hS;simp only []
         go_wp2_with (fail)
         have hS:=hS.order [0,1,4,2,3] rfl;simp only [NRF] at hS;refine (note_at (A:=[_,_]) hS hF4 ps hz2 so (by omega)).mono ?_;rintro e w6 ⟨rfl,ad3,n3,c3,prs3,l3,hS2,ps3,so3,me3,le3⟩;clear hS ps hz2;have hS:=hS2;clear hS2;simp only [NRH] at hS;replace me3:=Hd me3;simp only [];go_wp2;go_roundw
         case rel=>exact⟨k+1,F4,_,_,_,_,_,_,_,by omega,rfl,hS.sb,hF4,hO4,hp4,hg,ps3,so3,Hd (fun x=>by rw [me1.out x,me3.out x];simp [hz1.out,Gp.pt]),by omega⟩
         case measure=>simp [intOf];omega
        ·have hd1:(d1 == 0)=false:=by simp [hd0]
         have hz1:¬ areaZ s.a s.b g=0:=fun h=>hd0 (hz0.out.2 h)
         clear hd0 hz0;replace hz1:=Hd hz1;refine mvs ?_;refine snL ?_;clear hC;go_wp2;go_roundw
         case rel=>exact⟨k+1,F3,_,_,_,_,_,_,_,by omega,rfl,hS.sb,hF3,hO3,hp3,hg,ps,so,Hd (fun x=>by rw [me1.out x];simp [hz1.out]),by omega⟩
         case measure=>simp [intOf];omega
      ·obtain rfl:k=gs.length:=by omega
       rw [List.take_length] at me;replace me:=Hd me
       go_wp2_with (with_reducible refine ldB 2 hS isAgg25 ?_)
       refine bodyPost_ret (results_tmp2 rfl _ _ _) rfl ?_
       have hn:n=l.length:=by
        have:=(hS.rowSl 3 rfl).1;rw [flat_len pc_len,ps.len] at this;omega
       subst hn;exact⟨ad,l.length,c,prs,l,_,rfl,hS.handOut hO0 hF0 hp0 (List.mem_of_getElem? (i:=2) rfl),⟨(hS.rowSl 3 rfl).weaken fun k h=>.inr h,(ps.at hS hF0).weaken fun k h=>.inl h⟩,so,me.out,by omega⟩
end Go.Proofs
namespace Go.Hp
open Go.Proofs.Tryz
open Go
theorem gcd_tmod (x y:Int):Int.gcd y (Int.tmod x y)=Int.gcd x y:=by
 unfold Int.gcd;rw [Int.natAbs_tmod,Nat.gcd_comm,← Nat.gcd_rec,Nat.gcd_comm]
theorem tmod_bd {x y:Int} (hy:y≠0):(Int.tmod x y).natAbs<y.natAbs:=by
 rw [Int.natAbs_tmod];exact Nat.mod_lt _ (by omega)
def dirZ (s:Sz):Gp:=if s.b.x - s.a.x<0∨(s.b.x - s.a.x=0∧s.b.y - s.a.y<0) then ⟨-((s.b.x - s.a.x).tdiv (Int.gcd (s.b.x - s.a.x) (s.b.y - s.a.y):Nat)),-((s.b.y - s.a.y).tdiv (Int.gcd (s.b.x - s.a.x) (s.b.y - s.a.y):Nat))⟩
 else ⟨(s.b.x - s.a.x).tdiv (Int.gcd (s.b.x - s.a.x) (s.b.y - s.a.y):Nat),(s.b.y - s.a.y).tdiv (Int.gcd (s.b.x - s.a.x) (s.b.y - s.a.y):Nat)⟩
theorem natAbs_tdiv_le (a:Int) (n:Nat):(a.tdiv (n:Int)).natAbs≤a.natAbs:=by
 rw [Int.natAbs_tdiv];exact Nat.div_le_self _ _
end Go.Hp
namespace Go.Proofs
open Go.Proofs.Tryz
open Go.RowKit Go.Hp
theorem agcd_any (a b:Int) (w:World) (ha:a.natAbs<1099511627776) (hb:b.natAbs<1099511627776) :
 Calls Tryz.prog 147 #[.int .i64 a,.int .i64 b] w fun e w'=>e=.returned (.int .i64 (Int.gcd a b:Nat))∧Pure w (fun _=>False) w' (fun _=>False):=by
 have hS:=Heap.start w
 go_enter func147,ntmps147
 go_wp2
 go_loopw [0,1] (fun va vb wr=>∃ x y:Int,va=.int .i64 x∧vb=.int .i64 y∧Heap w wr [.frz (Old w) w]∧x.natAbs<1099511627776∧y.natAbs<1099511627776∧Int.gcd x y=Int.gcd a b) (fun va vb _=>(intOf vb).natAbs)
 case atStart=>exact⟨a,b,rfl,rfl,hS,ha,hb,rfl⟩
 case round =>
  clear hS ha hb;obtain⟨x,y,rfl,rfl,hS,hx,hy,hg⟩:=hrel
  by_cases h0:y=0
  ·subst h0
   have hg2:x.natAbs=Int.gcd a b:=by rw [← hg,Int.gcd_zero]
   have hm:max x (-x)=((x.natAbs:Nat):Int):=by omega
   have hw:IntKind.i64.wrap (-x) = -x:=w6;clear hg;replace hg2:=Hd hg2;go_wp2;go_ret;exact⟨by rw [← hg2.out];rfl,hS.pure _⟩
  ·have hyf:(y == 0)=false:=by simp [h0]
   have hg3:=gcd_tmod x y;have hb3:=@tmod_bd x y h0;have hw:IntKind.i64.wrap (Int.tmod x y)=Int.tmod x y:=w6;replace hg:=Hd hg;replace hg3:=Hd hg3;have hb4:(x.tmod y).natAbs<1099511627776:=by omega
   replace hb4:=Hd hb4;replace hb3:=Hd hb3;go_wp2;refine rg0 [.p 0,.p 1,.p 2,.p 3,.p 4,.p 5] [] hS fun w1 hS=>?_
   refine mvs ?_;refine snL ?_;go_wp2;go_roundw
   case rel=>exact⟨y,x.tmod y,rfl,rfl,hS,hy,hb4.out,hg3.out.trans hg.out⟩
   case measure=>exact hb3.out
theorem adir_any (s:Sz) (w:World) (h:s.ok):Calls Tryz.prog 83 #[.agg #[.int .i64 s.a.x,.int .i64 s.a.y,.int .i64 s.b.x,.int .i64 s.b.y]] w fun e w'=>e=.returned (.agg #[.int .i64 (dirZ s).x,.int .i64 (dirZ s).y])∧Pure w (fun _=>False) w' (fun _=>False):=by
 obtain⟨⟨ax,ay⟩,⟨bx,by'⟩⟩:=s;obtain⟨ha,hb,hne⟩:=h;unfold Gp.ok okC at ha hb;simp only at ha hb;have hne2:¬ (bx - ax=0∧by' - ay=0):=fun h=>hne (by have h1:=h.1;have h2:=h.2;simp only [Gp.mk.injEq];omega)
 clear hne;have w1:IntKind.i64.wrap (bx - ax)=bx - ax:=w6;have w2:IntKind.i64.wrap (by' - ay)=by' - ay:=w6
 have w3:IntKind.i64.wrap (-(bx - ax)) = -(bx - ax):=w6;have w4:IntKind.i64.wrap (-(by' - ay)) = -(by' - ay):=w6;obtain⟨D,hD⟩:∃ D,dirZ ⟨⟨ax,ay⟩,⟨bx,by'⟩⟩=D:=⟨_,rfl⟩;rw [hD];unfold dirZ at hD;simp only at hD;obtain⟨X,hX⟩:∃ X,X=bx - ax:=⟨_,rfl⟩;obtain⟨Y,hY⟩:∃ Y,Y=by' - ay:=⟨_,rfl⟩
 rw [← hX] at w1 w3 hD hne2;rw [← hY] at w2 w4 hD hne2;have bX:X.natAbs<1099511627776:=by omega
 have bY:Y.natAbs<1099511627776:=by omega
 have hg0:((Int.gcd X Y:Nat):Int)≠0:=by
  intro h;have:=Int.gcd_eq_zero_iff.1 (by omega:Int.gcd X Y=0);exact hne2 this
 have hgn:((Int.gcd (-X) (-Y):Nat):Int)=((Int.gcd X Y:Nat):Int):=by simp
 have q1:=fun a=>natAbs_tdiv_le a (Int.gcd X Y)
 obtain⟨G,hG⟩:∃ G:Int,G=((Int.gcd X Y:Nat):Int):=⟨_,rfl⟩;rw [← hG] at hD hg0 hgn;simp only [← hG] at q1;have q2:∀ a:Int,a.natAbs<1099511627776→IntKind.i64.wrap (a.tdiv G)=a.tdiv G:=fun a h=>by have:=q1 a;exact w6
 have q3:=q2 X bX;have q4:=q2 Y bY;have q5:IntKind.i64.wrap (-(X.tdiv G)) = -(X.tdiv G):=by have:=q1 X;exact w6
 have q6:IntKind.i64.wrap (-(Y.tdiv G)) = -(Y.tdiv G):=by have:=q1 Y;exact w6
 have hG0:(G == 0)=false:=by simpa using hg0
 replace hG:=Hd hG;replace hX:=Hd hX;replace hY:=Hd hY;replace hgn:=Hd hgn;clear q1 q2 ha hb hne2;have hS:=Heap.start w
 go_enter func83,ntmps83
 go_wp2_with (with_reducible first|refine bxA hS fun b1 wb1 hS=>?_|refine alA hS zeroValue51 fun b2 wb2 hS=>?_)
 refine rg0 [.p 0,.p 1,.r 2,.p 3,.p 4,.r 5,.p 6,.p 7,.p 8,.r 9,.p 10,.p 11,.r 12,.p 13,.p 14,.p 15] [] hS fun w1 hS=>?_
 repeat (with_reducible first|refine sldB 1 isAgg3 ?_|refine spL ?_)
 refine snL ?_;rw [← hX.out,← hY.out]
 by_cases hc:X<0∨(X=0∧Y<0)
 ·rw [if_pos hc] at hD
  replace hD:=Hd hD
  rcases hc with h1|⟨h1,h2⟩
  ·have hd1:decide (X<0)=true:=by simpa using h1
   replace h1:=Hd h1
   go_wp2_with (fail)
   refine (agcd_any (-X) (-Y) _ (by omega) (by omega)).mono ?_;rintro e w' ⟨rfl,hq⟩;have hS:=hS.below hq.below hq.drawn;simp only [];rw [hgn.out];go_wp2;refine rg0 [.p 0,.p 1,.p 2,.p 3,.p 4,.p 5,.p 6,.m 7] [7] hS fun w1 hS=>?_
   refine mvs ?_;refine muL ?_
   (with_reducible refine stA 2 hS sizeOf51 fun _ hS=>?_)
   refine mut_end ?_;refine snL ?_;go_wp2;exact ret_c 2 hS rfl rfl rfl isAgg51 sizeOf51 rfl rfl ⟨by first|(rw [← hD.out];done),hS.pure _⟩
  ·have hd1:decide (X<0)=false:=by simp [h1]
   have hd2:(X == 0)=true:=by simp [h1]
   have hd3:decide (Y<0)=true:=by simpa using h2
   replace h1:=Hd h1;replace h2:=Hd h2
   go_wp2_with (fail)
   refine (agcd_any (-X) (-Y) _ (by omega) (by omega)).mono ?_;rintro e w' ⟨rfl,hq⟩;have hS:=hS.below hq.below hq.drawn;simp only [];rw [hgn.out];go_wp2;refine rg0 [.p 0,.p 1,.p 2,.p 3,.p 4,.p 5,.p 6,.m 7] [7] hS fun w1 hS=>?_
   refine mvs ?_;refine muL ?_
   (with_reducible refine stA 2 hS sizeOf51 fun _ hS=>?_)
   refine mut_end ?_;refine snL ?_;go_wp2;exact ret_c 2 hS rfl rfl rfl isAgg51 sizeOf51 rfl rfl ⟨by first|(rw [← hD.out];done),hS.pure _⟩
 ·rw [if_neg hc] at hD
  replace hD:=Hd hD;have h1:decide (X<0)=false:=by simp;omega
  by_cases h0:X=0
  ·have hd2:(X == 0)=true:=by simp [h0]
   have hd3:decide (Y<0)=false:=by simp;omega
   replace h0:=Hd h0;replace hc:=Hd hc
   go_wp2_with (fail)
   refine (agcd_any (X) (Y) _ (by omega) (by omega)).mono ?_;rintro e w' ⟨rfl,hq⟩;have hS:=hS.below hq.below hq.drawn;simp only [];rw [← hG.out];go_wp2;refine rg0 [.p 0,.p 1,.p 2,.p 3,.p 4,.p 5,.p 6,.m 7] [7] hS fun w1 hS=>?_
   refine mvs ?_;refine muL ?_
   (with_reducible refine stA 2 hS sizeOf51 fun _ hS=>?_)
   refine mut_end ?_;refine snL ?_;go_wp2;exact ret_c 2 hS rfl rfl rfl isAgg51 sizeOf51 rfl rfl ⟨by first|(rw [← hD.out];done),hS.pure _⟩
  ·have hd2:(X == 0)=false:=by simp [h0]
   replace h0:=Hd h0;replace hc:=Hd hc
   go_wp2_with (fail)
   refine (agcd_any (X) (Y) _ (by omega) (by omega)).mono ?_;rintro e w' ⟨rfl,hq⟩;have hS:=hS.below hq.below hq.drawn;simp only [];rw [← hG.out];go_wp2;refine rg0 [.p 0,.p 1,.p 2,.p 3,.p 4,.p 5,.p 6,.m 7] [7] hS fun w1 hS=>?_
   refine mvs ?_;refine muL ?_
   (with_reducible refine stA 2 hS sizeOf51 fun _ hS=>?_)
   refine mut_end ?_;refine snL ?_;go_wp2;exact ret_c 2 hS rfl rfl rfl isAgg51 sizeOf51 rfl rfl ⟨by first|(rw [← hD.out];done),hS.pure _⟩
end Go.Proofs
