/- Texts for the walk of the law: E3 E4. -/
import Derived.Test.YtihpoboahbpaiaaGreatQ21
set_option maxRecDepth 100000
set_option maxHeartbeats 16000000
set_option linter.unusedVariables false
set_option linter.unusedSimpArgs false
namespace Go.Hp
open Go.Proofs.Tryz
open Go
theorem nth_ins {α:Type} (d x:α) (l:List α) (i j:Nat) (hi:i≤l.length):nth d (l.take i++x::l.drop i) j=if j<i then nth d l j else if j=i then x else nth d l (j - 1):=by
 unfold nth;simp only [List.getD_eq_getElem?_getD,List.getElem?_append,List.length_take,Nat.min_eq_left hi]
 split
 ·rename_i h;rw [List.getElem?_take,if_pos h]
 ·rename_i h
  split
  ·rename_i h2;subst h2;simp
  ·rename_i h2
   obtain⟨k,rfl⟩:∃ k,j=i+(k+1):=⟨j - i - 1,by omega⟩;rw [show i+(k+1) - i=k+1 by omega,show i+(k+1) - 1=i+k by omega];simp
theorem IsPs.insert {w:World} {S:Nat→Prop} {prs:List PR} {l:List Pt} {p:PR} {q:Pt} (h:IsPs w S prs l) (hp:IsP w S p q) {i:Nat} (hi:i≤l.length):IsPs w S (prs.take i++p::prs.drop i) (l.take i++q::l.drop i):=by
 have hl:=h.len;refine⟨by simp [hl],fun j hj=>?_⟩;simp only [List.length_append,List.length_take,List.length_cons,List.length_drop] at hj;rw [nth_ins _ _ _ _ _ (by omega),nth_ins _ _ _ _ _ hi]
 by_cases h1:j<i
 ·rw [if_pos h1,if_pos h1];exact h.el j (by omega)
 ·rw [if_neg h1,if_neg h1]
  by_cases h2:j=i
  ·rw [if_pos h2,if_pos h2];exact hp
  ·rw [if_neg h2,if_neg h2];exact h.el (j - 1) (by omega)
theorem Stands.sorted {l:List Pt} {q:Pt} {i:Nat} (h:Stands l q i) (hs:l.Pairwise Pt.lt) (hne:¬ (i<l.length∧nth pt0 l i=q)):(l.take i++q::l.drop i).Pairwise Pt.lt:=by
 obtain⟨h1,h2,h3⟩:=h
 have hq:∀ b ∈ l.drop i,q.lt b:=by
  intro b hb;obtain⟨j,hj,rfl⟩:=List.mem_iff_getElem.1 hb;rw [List.getElem_drop];have hjl:i+j<l.length:=by simp at hj;omega
  have e:=nth_eq pt0 l (i+j) hjl;rw [← e]
  rcases Pt.total q (nth pt0 l (i+j)) with h4|h4|h4
  ·exact h4
  ·exfalso
   rcases Nat.eq_zero_or_pos j with h5|h5
   ·subst h5;exact hne ⟨by omega,h4.symm⟩
   ·apply h3 i (Nat.le_refl _) (by omega)
    rw [h4,nth_eq pt0 l i (by omega),e];exact List.pairwise_iff_getElem.1 hs i (i+j) (by omega) hjl (by omega)
  ·exact absurd h4 (h3 (i+j) (by omega) hjl)
 have hlo:∀ a ∈ l.take i,a.lt q:=by
  intro a ha;obtain⟨j,hj,rfl⟩:=List.mem_iff_getElem.1 ha;rw [List.getElem_take];have hjl:j<i:=by simp at hj;omega
  rw [← nth_eq pt0 l j (by omega)];exact h2 j hjl
 refine List.pairwise_append.2 ⟨hs.sublist (List.take_sublist _ _),List.pairwise_cons.2 ⟨hq,hs.sublist (List.drop_sublist _ _)⟩,fun a ha b hb=>?_⟩
 rcases List.mem_cons.1 hb with rfl|hb
 ·exact hlo a ha
 ·exact Pt.lt_trans (hlo a ha) (hq b hb)
theorem mem_ins {l:List Pt} {q x:Pt} {i:Nat}:x ∈ l.take i++q::l.drop i↔x ∈ l∨x=q:=by
 conv=>rhs;rw [← List.take_append_drop i l]
 simp only [List.mem_append,List.mem_cons]
 constructor
 ·rintro (h|h|h)
  ·exact .inl (.inl h)
  ·exact .inr h
  ·exact .inl (.inr h)
 ·rintro ((h|h)|h)
  ·exact .inl h
  ·exact .inr (.inr h)
  ·exact .inr (.inl h)
end Go.Hp
namespace Go.Proofs
open Go.Proofs.Tryz
open Go.RowKit Go.Hp
theorem note_any (bo:Nat) (ad:Option Addr) (n c:Nat) (prs:List PR) (l:List Pt) (p:PR) (q:Pt) (F S:Nat→Prop) (w:World)
 (hS:Heap w w [.frz F w,.blk bo (.cells #[.slice ad n c] 31 (0,0)),.row (.slice ad n c) 56 8 n (prs.flatMap pc)]) (hF:∀ k,S k→F k) (hps:IsPs w S prs l) (hp:IsP w S p q) (hs:l.Pairwise Pt.lt) (hle:l.length≤5000) :
 Calls Tryz.prog 116 #[.agg #[.bool p.x.num.neg,.slice p.x.num.ad p.x.num.n p.x.num.cap,.bool p.x.less.neg,.slice p.x.less.ad p.x.less.n p.x.less.cap,.bool p.y.num.neg,.slice p.y.num.ad p.y.num.n p.y.num.cap,.bool p.y.less.neg,.slice p.y.less.ad p.y.less.n p.y.less.cap],.pointer (some ⟨bo,0,none⟩)] w fun e w'=>e=.returned (.tuple #[])∧∃ ad' n' c' prs' l',Heap w w' [.frz F w,.blk bo (.cells #[.slice ad' n' c'] 31 (0,0)),.row (.slice ad' n' c') 56 8 n' (prs'.flatMap pc)]∧IsPs w' S prs' l'∧l'.Pairwise Pt.lt∧(∀ x,x ∈ l'↔x ∈ l∨x=q)∧l'.length≤l.length+1:=by
 have hn:n=l.length:=by
  have:=(hS.rowSl 2 rfl).1;rw [flat_len pc_len,hps.len] at this;omega
 subst hn
 go_enter func116,ntmps116
 go_wp2_with (with_reducible first|refine bxA hS fun bx wbx hS=>?_|refine ldB 1 hS isAgg31 ?_|refine ldA 3 hS isAgg56 sizeOf56 ?_)
 have hsl:=hS.rowSl 2 rfl;have hmv:∀ k,S k→F k:=hF;refine (bsearchP_any ad l.length c prs l p q _ (fun k=>S k∨(Chunk.row (.slice ad l.length c) 56 8 l.length (prs.flatMap pc)).has k) ⟨hsl.weaken fun k h=>.inr h,(hps.at hS hF).weaken fun k h=>.inl h⟩ ((hp.at hS hF).weaken fun k h=>.inl h) (fun k h=>?_) hs (by omega)).mono ?_
 ·rcases h with h|h
  ·exact (hS.ok (.frz F w) (by simp) k (hF k h)).1
  ·exact Chunk.lt (hS.ok _ (List.mem_of_getElem? (i:=2) rfl)) h
 clear hsl hmv;rintro e w' ⟨⟨i,hst,rfl⟩,hq1⟩;have hS:=hS.below hq1.below hq1.drawn;clear hq1
 by_cases hf:i<l.length∧nth pt0 l i=q
 ·have hd:decide (i<l.length∧nth pt0 l i=q)=true:=by simpa using hf
  rw [hd];clear hd;have hqm:q ∈ l:=by rw [← hf.2];exact nth_mem pt0 l i hf.1
  clear hf;replace hst:=Hd hst;simp only [];go_wp2
  go_end0
  exact⟨rfl,ad,l.length,c,prs,l,hS.sb,hps.at hS hF,hs,fun x=>⟨fun h=>.inl h,fun h=>h.elim id (fun e=>e ▸ hqm)⟩,by omega⟩
 ·have hd:decide (i<l.length∧nth pt0 l i=q)=false:=by simpa using hf
  rw [hd];clear hd;replace hf:=Hd hf;have hil:=hst.1;replace hst:=Hd hst;simp only []
  go_wp2_with (first|(with_reducible first|refine ldB 1 hS isAgg31 ?_|refine ldA 3 hS isAgg56 sizeOf56 ?_)|((with_reducible refine g_bs (T:=31) ?_);refine seq_bs1 (T:=31) (v:=.agg #[.bool _,.slice _ _ _,.bool _,.slice _ _ _,.bool _,.slice _ _ _,.bool _,.slice _ _ _]) hS underlying31 sizeOf56 zeroValue56 rfl rfl rfl (by decide) (by decide) rfl (fun bl wbl hS=>?_);simp only [NRM];simp only [Value.cells] at hS))
  have hS1:=hS.order [0,1,3,2,4] rfl;have hsp:=Heap.split (A:=[.frz F w,.blk bo (.cells #[.slice ad l.length c] 31 (0,0)),.blk bx (.cells (pc p).toArray 56 (0,0))]) (B:=[.row (.slice ad l.length c) 56 8 l.length (prs.flatMap pc),.blk bl (.cells (pc p).toArray 56 (0,0))]) hS1;refine (insertP_any ad l.length c i bl prs p _ _ _ hsp hil (by omega)).mono ?_;rintro e w2 ⟨ad2,c2,rfl,hSt⟩;have hS2:=Heap.unsplit (A:=[.frz F w,.blk bo (.cells #[.slice ad l.length c] 31 (0,0)),.blk bx (.cells (pc p).toArray 56 (0,0))]) (B:=[.row (.slice ad l.length c) 56 8 l.length (prs.flatMap pc),.blk bl (.cells (pc p).toArray 56 (0,0))]) hS1 hSt;clear hS hS1 hsp hSt;have hS:=hS2;clear hS2;simp only [NRH] at hS;simp only []
  go_wp2_with (with_reducible refine stA 1 hS sizeOf31 fun _ hS=>?_)
  go_end0
  exact⟨rfl,ad2,_,c2,_,_,hS.sb,(hps.at hS hF).insert (hp.at hS hF) hil,hst.out.sorted hs hf.out,fun x=>mem_ins,by simp;omega⟩
end Go.Proofs
namespace Go.Hp
open Go.Proofs.Tryz
open Go
theorem Rest.of {w0 w wr:World} {F:Nat→Prop} {A B:List Chunk} (hS:Heap w0 w (.frz F wr::(A++B))) {k:Nat} (hk:F k):Rest w B k:=by
 refine⟨(hS.ok (.frz F wr) (by simp) k hk).1,fun c hc=>?_⟩;exact (List.pairwise_cons.1 hS.apart).1 c (by simp [hc]) k hk
theorem SlC.at {w0 w wr:World} {H:List Chunk} {F S:Nat→Prop} {k n:Nat} {v:Value} {cs:List Value} (h:SlC wr S k v n cs) (hS:Heap w0 w (.frz F wr::H)) (hF:∀ k,S k→F k):SlC w S k v n cs:=h.move (hS.keep hF)
theorem onS_iff (s:Sz) (g:Gp):onS s.sg g.pt↔(decide (((min s.a.x s.b.x:Int):Rat)≤g.pt.x∧g.pt.x≤((max s.a.x s.b.x:Int):Rat)) && decide (((min s.a.y s.b.y:Int):Rat)≤g.pt.y∧g.pt.y≤((max s.a.y s.b.y:Int):Rat)))=true∧areaZ s.a s.b g=0:=by
 unfold onS inBox;rw [show s.sg.a=s.a.pt from rfl,show s.sg.b=s.b.pt from rfl,areaZ_pt,← castMin,← castMax,← castMin,← castMax];rw [Bool.and_eq_true,decide_eq_true_iff,decide_eq_true_iff]
 have:((areaZ s.a s.b g:Rat)=0)↔areaZ s.a s.b g=0:=by
  constructor
  ·intro h;exact_mod_cast h
  ·intro h;exact_mod_cast h
 rw [this]
 constructor
 ·rintro⟨h1,h2,h3,h4,h5⟩;exact⟨⟨⟨h2,h3⟩,h4,h5⟩,h1⟩
 ·rintro⟨⟨⟨h2,h3⟩,h4,h5⟩,h1⟩;exact⟨h1,h2,h3,h4,h5⟩
theorem Heap.handOut {w0 w wr:World} {H:List Chunk} {F S0 S:Nat→Prop} {c:Chunk} (hS:Heap w0 w (.frz F wr::H)) (hO:∀ k,Old w0 k→F k) (hF:∀ k,S k→F k) (hp:Pure w0 S0 wr S) (hc:c ∈ H):Pure w0 S0 w (fun k=>S k∨c.has k):=by
 have h1:=hp.step hS hO hF;refine⟨h1.below,h1.drawn,fun k hk=>.inl (h1.sub k hk),fun k hk=>?_⟩
 rcases hk with hk|hk
 ·exact h1.new k hk
 ·refine .inr ⟨?_,Chunk.lt (hS.ok _ (List.mem_cons_of_mem _ hc)) hk⟩
  rcases Nat.lt_or_ge k w0.heap.size with hlt|hge
  ·exact absurd hk ((List.pairwise_cons.1 hS.apart).1 _ hc k (hO k hlt))
  ·exact hge
structure PartsL (s:Sz) (os:List Sz) (gs:List Gp) (l:List Pt):Prop where
 sorted:l.Pairwise Pt.lt
 mem:∀ x,x ∈ l↔x=s.a.pt∨x=s.b.pt∨(∃ t ∈ os,x ∈ meetL s.sg t.sg)∨∃ g ∈ gs,x=g.pt∧onS s.sg x
 len:l.length≤2+2*os.length+gs.length
end Go.Hp
namespace Go.Proofs
open Go.Proofs.Tryz
open Go.RowKit Go.Hp
theorem note_at {w0 wr w:World} {F S:Nat→Prop} {A:List Chunk} {bo:Nat} {ad:Option Addr} {n c:Nat} {prs:List PR} {l:List Pt} {p:PR} {q:Pt}
 (hS:Heap w0 w (.frz F wr::(A++[.blk bo (.cells #[.slice ad n c] 31 (0,0)),.row (.slice ad n c) 56 8 n (prs.flatMap pc)]))) (hF:∀ k,S k→F k) (hps:IsPs wr S prs l) (hp:IsP wr S p q) (hs:l.Pairwise Pt.lt) (hle:l.length≤5000) :
 Calls Tryz.prog 116 #[.agg #[.bool p.x.num.neg,.slice p.x.num.ad p.x.num.n p.x.num.cap,.bool p.x.less.neg,.slice p.x.less.ad p.x.less.n p.x.less.cap,.bool p.y.num.neg,.slice p.y.num.ad p.y.num.n p.y.num.cap,.bool p.y.less.neg,.slice p.y.less.ad p.y.less.n p.y.less.cap],.pointer (some ⟨bo,0,none⟩)] w fun e w'=>e=.returned (.tuple #[])∧∃ ad' n' c' prs' l',Heap w0 w' (.frz F wr::(A++[.blk bo (.cells #[.slice ad' n' c'] 31 (0,0)),.row (.slice ad' n' c') 56 8 n' (prs'.flatMap pc)]))∧IsPs wr S prs' l'∧l'.Pairwise Pt.lt∧(∀ x,x ∈ l'↔x ∈ l∨x=q)∧l'.length≤l.length+1:=by
 have hsp:=Heap.split (A:=.frz F wr::A) hS;refine (note_any bo ad n c prs l p q _ S w hsp (fun k hk=>Rest.of hS (hF k hk)) (hps.at hS hF) (hp.at hS hF) hs hle).mono ?_;rintro e w' ⟨rfl,ad',n',c',prs',l',hS',h1,h2,h3,h4⟩;have hS2:=Heap.unsplit (A:=.frz F wr::A) hS hS';exact⟨rfl,ad',n',c',prs',l',hS2,h1.move (fun k hk=>(hS2.keep hF k hk).symm),h2,h3,h4⟩
theorem infoS:(Tryz.prog.info? 95).map (fun i=>(i.zero,i.size,i.bytes))=some (some (.agg #[.int .i64 s0.a.x,.int .i64 s0.a.y,.int .i64 s0.b.x,.int .i64 s0.b.y]),4,32):=by kernel_rfl
theorem sc_one (l:List Sz):∀ v ∈ l.flatMap sc,v.oneCell'=true:=by
 intro v hv;obtain⟨p,_,h⟩:=List.mem_flatMap.1 hv;simp only [sc,List.mem_cons,List.not_mem_nil,or_false] at h
 rcases h with rfl|rfl|rfl|rfl <;> rfl
theorem parts_any (s:Sz) (os:List Sz) (gs:List Gp) (ao ap:Option Addr) (no co np cp:Nat) (w:World) (S:Nat→Prop) (hL:Liv w S) (hs:s.ok) (hos:∀ t ∈ os,t.ok) (hgs:∀ g ∈ gs,g.ok) (hv:SlC w S 4 (.slice ao no co) os.length (os.flatMap sc)) (hg:SlC w S 2 (.slice ap np cp) gs.length (gs.flatMap gc)) (hlo:os.length≤600) (hlg:gs.length≤600) :
 Calls Tryz.prog 69 #[.agg #[.int .i64 s.a.x,.int .i64 s.a.y,.int .i64 s.b.x,.int .i64 s.b.y],.slice ao no co,.slice ap np cp] w fun e w'=>∃ ad n c prs l S',e=.returned (.tuple #[.slice ad n c,.int .i64 0])∧Pure w S w' S'∧PL w' S' (.slice ad n c) prs l∧PartsL s os gs l:=by
 obtain rfl:no=os.length:=by obtain⟨h1,a,cap,h2,_⟩:=hv;cases h2;rfl
 obtain rfl:np=gs.length:=by obtain⟨h1,a,cap,h2,_⟩:=hg;cases h2;rfl
 have hvS:=fun ad n c w S hv=>validS_any ad n c (s::os) w S hv (by simpa using ⟨hs,hos⟩)
 have ia:InI s.a.x∧InI s.a.y:=by have:=hs.1;unfold Gp.ok okC at this;unfold InI;omega
 have ib:InI s.b.x∧InI s.b.y:=by have:=hs.2.1;unfold Gp.ok okC at this;unfold InI;omega
 obtain⟨hS,hF0,hO0,hp0⟩:=st0 hL
 go_enter func69,ntmps69
 have hvF:SlC w (Old w) 4 _ _ _:=hv.weaken hF0
 go_wp2_with (first|(with_reducible first|refine bxA (T:=95) (v:=.agg _) hS fun bx wbx hS=>?_|refine ldA 1 hS isAgg95 sizeOf95 ?_)|(((with_reducible refine g_bs (T:=23) ?_);refine seq_bs1 (T:=23) (v:=.agg #[.int .i64 s.a.x,.int .i64 s.a.y,.int .i64 s.b.x,.int .i64 s.b.y]) hS underlying23 sizeOf95 zeroValue95 rfl rfl rfl (by decide) (by decide) rfl (fun b20 wb20 hS=>?_);simp only [NRM];simp only [Value.cells] at hS);have hS:=hS.toRow (m:=1) (k:=4) 2 rfl (by simp) (by decide);simp only [NRH] at hS)|((with_reducible refine g_app ?_);refine seq_append (t:=23) 2 hS underlying23 infoS rfl (by decide) rfl rfl rfl hvF (by simp) (sc_one os) (by omega) (by unfold maxLen;omega) (fun ad1 c1 _ hS=>?_);simp only [NRM];simp only [NRH] at hS))
 have hsl:=hS.rowSl 2 rfl;refine (hvS ad1 (1+os.length) c1 _ _ (by rw [List.length_cons,Nat.add_comm os.length 1];simpa [sc] using hsl)).mono ?_;rintro e w' ⟨rfl,hq⟩;have hS:=hS.below hq.below hq.drawn;clear hsl hvS;simp only [];have hsub:=hS.sub (H':=[.frz (Old w) w,.blk bx (.cells #[.int .i64 s.a.x,.int .i64 s.a.y,.int .i64 s.b.x,.int .i64 s.b.y] 95 (0,0))]) (by repeat (first|exact List.Sublist.refl _|apply List.Sublist.cons_cons|apply List.Sublist.cons));clear hS hvF hq;have hS:=hsub;clear hsub;have hgF:SlC w (Old w) 2 _ _ _:=hg.weaken hF0;go_wp2
 go_loopw [29] (fun v wr=>∃ k:Nat,k≤gs.length∧v=.int .i64 (k:Int)∧Heap w wr [.frz (Old w) w,.blk bx (.cells #[.int .i64 s.a.x,.int .i64 s.a.y,.int .i64 s.b.x,.int .i64 s.b.y] 95 (0,0))]) (fun v _=>gs.length - (intOf v).toNat)
 case atStart=>exact⟨0,by omega,rfl,hS⟩
 case round =>
  clear hS;obtain⟨k,hk,rfl,hS⟩:=hrel
  by_cases hkl:k<gs.length
  ·obtain⟨p,hp⟩:∃ p,nth g0 gs k=p:=⟨_,rfl⟩
   have hc:=flat_cell gc_len g0 hkl;rw [hp] at hc;obtain⟨o1,o2⟩:=hgs p (by rw [← hp];exact nth_mem g0 gs k hkl);unfold okC at o1 o2;have hvk:=pvalid_any p.x p.y
   go_wp2_with (first|(with_reducible first|refine ixE underlying25 sizeOf29 hgF hc fun bq oq hcellq=>?_|refine ldG hS isAgg29 sizeOf29 ?_|refine alA hS zeroValue29 fun bp wbp hS=>?_|refine stA (u:=.agg #[_,_]) 2 hS sizeOf29 fun _ hS=>?_|refine ldA 2 hS isAgg29 sizeOf29 ?_)|(go_at_call 39;refine (hvk _ o1 o2).mono ?_;rintro e w' ⟨rfl,hq⟩;have hS:=hS.below hq.below hq.drawn))
   go_roundw
   case rel=>exact⟨k+1,by omega,rfl,hS.sb⟩
   case measure=>simp [intOf];omega
  ·obtain rfl:k=gs.length:=by omega
   clear hgF
   go_wp2_with (with_reducible first|refine alA hS zeroValue31 fun b12 wb12 hS=>?_|refine ldK 1 hS isAgg29 sizeOf29 ?_)
   refine (pof_any s.a.x s.a.y _ S ia.1 ia.2 (Liv.at hS hF0)).mono ?_;rintro e w1 ⟨z1,S1,rfl,hq,hz1⟩;have hv:=(hv.at hS hF0).grow hq;have hg:=(hg.at hS hF0).grow hq;replace hS:=hS.pcl hF0 hO0 hp0 hq;obtain⟨F1,hF1,-,hp1,hO1,hS⟩:=hS;simp only []
   go_wp2_with (fail)
   have hS:=hS.addNil 56 8;refine (note_at (A:=[.blk bx (.cells #[.int .i64 s.a.x,.int .i64 s.a.y,.int .i64 s.b.x,.int .i64 s.b.y] 95 (0,0))]) (prs:=[]) hS hF1 (IsPs.nil _ _) hz1 List.Pairwise.nil (by simp)).mono ?_;rintro e w2 ⟨rfl,ad1,n1,c1,prs1,l1,hS2,ps1,so1,me1,le1⟩;clear hS;have hS:=hS2;clear hS2;simp only [NRH] at hS;simp only []
   go_wp2_with (with_reducible refine ldK 1 hS isAgg29 sizeOf29 ?_)
   refine (pof_any s.b.x s.b.y _ S1 ib.1 ib.2 (Liv.at hS hF1)).mono ?_;rintro e w3 ⟨z2,S2,rfl,hq2,hz2⟩;have hv:=(hv.at hS hF1).grow hq2;have hg:=(hg.at hS hF1).grow hq2;have ps1:=(ps1.at hS hF1).grow hq2;replace hS:=hS.pcl hF1 hO1 hp1 hq2;obtain⟨F2,hF2,-,hp2,hO2,hS⟩:=hS;simp only []
   go_wp2_with (fail)
   refine (note_at (A:=[.blk bx (.cells #[.int .i64 s.a.x,.int .i64 s.a.y,.int .i64 s.b.x,.int .i64 s.b.y] 95 (0,0))]) hS hF2 ps1 hz2 so1 (by simp at le1;omega)).mono ?_;rintro e w4 ⟨rfl,ad2,n2,c2,prs2,l2,hS2,ps2,so2,me2,le2⟩;clear hS;have hS:=hS2;clear hS2;simp only [NRH] at hS;simp only [];go_wp2
   have me0:∀ x,x ∈ l2↔x=s.a.pt∨x=s.b.pt∨∃ t ∈ os.take 0,x ∈ meetL s.sg t.sg:=by
    intro x;rw [me2,me1];simp [Gp.pt]
   have le0:l2.length≤2+2*0:=by simp at le1;omega
   clear me1 me2 le1 le2 so1 ps1 hz1 hz2;replace me0:=Hd me0;have gotx:=fun t w' S' (hL':Liv w' S') (ht:t.a.ok∧t.b.ok)=>meet_any s t w' S' hL' ⟨hs.1,hs.2.1⟩ ht
   go_loopw [52] (fun v wr=>∃ (k:Nat) (F S':Nat→Prop) (wq:World) (ad:Option Addr) (n c:Nat) (prs:List PR) (l:List Pt),k≤os.length∧v=.int .i64 (k:Int)∧Heap w wr [.frz F wq,.blk bx (.cells #[.int .i64 s.a.x,.int .i64 s.a.y,.int .i64 s.b.x,.int .i64 s.b.y] 95 (0,0)),.blk b12 (.cells #[.slice ad n c] 31 (0,0)),.row (.slice ad n c) 56 8 n (prs.flatMap pc)]∧(∀ k,S' k→F k)∧(∀ k,Old w k→F k)∧Pure w S wq S'∧SlC wq S' 4 (.slice ao os.length co) os.length (os.flatMap sc)∧SlC wq S' 2 (.slice ap gs.length cp) gs.length (gs.flatMap gc)∧IsPs wq S' prs l∧l.Pairwise Pt.lt∧Hid (∀ x,x ∈ l↔x=s.a.pt∨x=s.b.pt∨∃ t ∈ os.take k,x ∈ meetL s.sg t.sg)∧l.length≤2+2*k) (fun v _=>os.length - (intOf v).toNat)
   case atStart=>exact⟨0,_,_,_,_,_,_,_,_,by omega,rfl,hS,hF2,hO2,hp2,hv,hg,ps2,so2,me0,le0⟩
   case round =>
    clear hS hF0 hF1 hF2 hO0 hO1 hO2 hp0 hp1 hp2 hv hg ps2 so2 me0 le0;obtain⟨k,F0,S0,wq,ad,n,c,prs,l,hk,rfl,hS,hF0,hO0,hp0,hv,hg,ps,so,me,le⟩:=hrel
    by_cases hkl:k<os.length
    ·obtain⟨t,ht⟩:∃ t,nth s0 os k=t:=⟨_,rfl⟩
     have hc:=flat_cell sc_len s0 hkl;rw [ht] at hc;have hto:=hos t (by rw [← ht];exact nth_mem s0 os k hkl);have hvo:=hv.weaken hF0;have htk:os.take (k+1)=os.take k++[t]:=by rw [← ht];exact take_snoc s0 os k hkl
     clear ht;replace htk:=Hd htk
     go_wp2_with (with_reducible first|refine ixE underlying23 sizeOf95 hvo hc fun bq oq hcellq=>?_|refine ldG hS isAgg95 sizeOf95 ?_|refine alA hS zeroValue95 fun b15 wb15 hS=>?_|refine stA (u:=.agg #[_,_,_,_]) 4 hS sizeOf95 fun _ hS=>?_|refine ldA 1 hS isAgg95 sizeOf95 ?_|refine ldA 4 hS isAgg95 sizeOf95 ?_)
     refine (gotx t _ S0 (Liv.at hS hF0) ⟨hto.1,hto.2.1⟩).mono ?_;obtain⟨M,hM⟩:∃ M,meetL s.sg t.sg=M:=⟨_,rfl⟩
     have me1:∀ x,(x=s.a.pt∨x=s.b.pt∨∃ t ∈ os.take (k+1),x ∈ meetL s.sg t.sg)↔x ∈ l∨x ∈ M:=by
      intro x;rw [htk.out,me.out x,← hM];simp only [List.mem_append,List.mem_singleton]
      constructor
      ·rintro (h|h|⟨u,hu|rfl,h⟩)
       ·exact .inl (.inl h)
       ·exact .inl (.inr (.inl h))
       ·exact .inl (.inr (.inr ⟨u,hu,h⟩))
       ·exact .inr h
      ·rintro ((h|h|⟨u,hu,h⟩)|h)
       ·exact .inl h
       ·exact .inr (.inl h)
       ·exact .inr (.inr ⟨u,.inl hu,h⟩)
       ·exact .inr (.inr ⟨t,.inr rfl,h⟩)
     rw [hM];clear hM hvo hc hto htk me;replace me1:=Hd me1;rintro e w5 (⟨rfl,rfl,hq⟩|⟨q,z,S1,rfl,rfl,hq,hz⟩|⟨q,r,z,y,S1,rfl,rfl,hq,hz,hy⟩)
     ·have hv:=(hv.at hS hF0).grow hq
      have hg:=(hg.at hS hF0).grow hq;have ps:=(ps.at hS hF0).grow hq;replace hS:=hS.pcl hF0 hO0 hp0 hq;obtain⟨F1,hF1,-,hp1,hO1,hS⟩:=hS;simp only []
      go_wp2_with (with_reducible first|refine alA hS zeroValue199 fun b16 wb16 hS=>?_|refine stA (u:=.agg #[.int .i64 _,.bool _,.slice _ _ _,.bool _,.slice _ _ _,.bool _,.slice _ _ _,.bool _,.slice _ _ _,.bool _,.slice _ _ _,.bool _,.slice _ _ _,.bool _,.slice _ _ _,.bool _,.slice _ _ _]) 5 hS sizeOf199 fun _ hS=>?_|refine ldB 5 hS isAgg3 ?_)
      go_roundw
      case rel=>exact⟨k+1,F1,_,_,_,_,_,_,_,by omega,rfl,hS.sb,hF1,hO1,hp1,hv,hg,ps,so,Hd (fun x=>by rw [me1.out x];simp),by omega⟩
      case measure=>simp [intOf];omega
     ·have hv:=(hv.at hS hF0).grow hq
      have hg:=(hg.at hS hF0).grow hq;have ps:=(ps.at hS hF0).grow hq;replace hS:=hS.pcl hF0 hO0 hp0 hq;obtain⟨F1,hF1,-,hp1,hO1,hS⟩:=hS;simp only []
      go_wp2_with (with_reducible first|refine alA hS zeroValue199 fun b16 wb16 hS=>?_|refine stA (u:=.agg #[.int .i64 _,.bool _,.slice _ _ _,.bool _,.slice _ _ _,.bool _,.slice _ _ _,.bool _,.slice _ _ _,.bool _,.slice _ _ _,.bool _,.slice _ _ _,.bool _,.slice _ _ _,.bool _,.slice _ _ _]) 5 hS sizeOf199 fun _ hS=>?_|refine ldB 5 hS isAgg3 ?_|refine ldK 5 hS isAgg56 sizeOf56 ?_)
      have hS:=hS.order [0,1,4,5,2,3] rfl;simp only [NRF] at hS;refine (note_at (A:=[_,_,_]) hS hF1 ps hz so (by omega)).mono ?_;rintro e w6 ⟨rfl,ad3,n3,c3,prs3,l3,hS2,ps3,so3,me3,le3⟩;clear hS ps hz;have hS:=hS2;clear hS2;simp only [NRH] at hS;replace me3:=Hd me3;simp only []
      go_wp2_with (with_reducible refine ldB 3 hS isAgg3 ?_)
      go_roundw
      case rel=>exact⟨k+1,F1,_,_,_,_,_,_,_,by omega,rfl,hS.sb,hF1,hO1,hp1,hv,hg,ps3,so3,Hd (fun x=>by rw [me1.out x,me3.out x];simp),by omega⟩
      case measure=>simp [intOf];omega
     ·have hv:=(hv.at hS hF0).grow hq
      have hg:=(hg.at hS hF0).grow hq;have ps:=(ps.at hS hF0).grow hq;replace hS:=hS.pcl hF0 hO0 hp0 hq;obtain⟨F1,hF1,-,hp1,hO1,hS⟩:=hS;simp only []
      go_wp2_with (with_reducible first|refine alA hS zeroValue199 fun b16 wb16 hS=>?_|refine stA (u:=.agg #[.int .i64 _,.bool _,.slice _ _ _,.bool _,.slice _ _ _,.bool _,.slice _ _ _,.bool _,.slice _ _ _,.bool _,.slice _ _ _,.bool _,.slice _ _ _,.bool _,.slice _ _ _,.bool _,.slice _ _ _]) 5 hS sizeOf199 fun _ hS=>?_|refine ldB 5 hS isAgg3 ?_|refine ldK 5 hS isAgg56 sizeOf56 ?_)
      have hS:=hS.order [0,1,4,5,2,3] rfl;simp only [NRF] at hS;refine (note_at (A:=[_,_,_]) hS hF1 ps hz so (by omega)).mono ?_;rintro e w6 ⟨rfl,ad3,n3,c3,prs3,l3,hS2,ps3,so3,me3,le3⟩;clear hS ps hz;have hS:=hS2;clear hS2;simp only [NRH] at hS;replace me3:=Hd me3;simp only []
      go_wp2_with (with_reducible first|refine ldB 3 hS isAgg3 ?_|refine ldK 3 hS isAgg56 sizeOf56 ?_)
      refine (note_at (A:=[_,_,_]) hS hF1 ps3 hy so3 (by omega)).mono ?_;rintro e w7 ⟨rfl,ad4,n4,c4,prs4,l4,hS2,ps4,so4,me4,le4⟩;clear hS ps3 hy;have hS:=hS2;clear hS2;simp only [NRH] at hS;replace me4:=Hd me4;simp only [];go_wp2;go_roundw
      case rel=>exact⟨k+1,F1,_,_,_,_,_,_,_,by omega,rfl,hS.sb,hF1,hO1,hp1,hv,hg,ps4,so4,Hd (fun x=>by rw [me1.out x,me4.out x,me3.out x];simp [or_assoc]),by omega⟩
      case measure=>simp [intOf];omega
    ·obtain rfl:k=os.length:=by omega
     rw [List.take_length] at me;clear gotx;go_wp2
     go_loopw [76] (fun v wr=>∃ (k:Nat) (F S':Nat→Prop) (wq:World) (ad:Option Addr) (n c:Nat) (prs:List PR) (l:List Pt),k≤gs.length∧v=.int .i64 (k:Int)∧Heap w wr [.frz F wq,.blk bx (.cells #[.int .i64 s.a.x,.int .i64 s.a.y,.int .i64 s.b.x,.int .i64 s.b.y] 95 (0,0)),.blk b12 (.cells #[.slice ad n c] 31 (0,0)),.row (.slice ad n c) 56 8 n (prs.flatMap pc)]∧(∀ k,S' k→F k)∧(∀ k,Old w k→F k)∧Pure w S wq S'∧SlC wq S' 2 (.slice ap gs.length cp) gs.length (gs.flatMap gc)∧IsPs wq S' prs l∧l.Pairwise Pt.lt∧Hid (∀ x,x ∈ l↔x=s.a.pt∨x=s.b.pt∨(∃ t ∈ os,x ∈ meetL s.sg t.sg)∨∃ g ∈ gs.take k,x=g.pt∧onS s.sg x)∧l.length≤2+2*os.length+k) (fun v _=>gs.length - (intOf v).toNat)
     case atStart=>exact⟨0,_,_,_,_,_,_,_,_,by omega,rfl,hS,hF0,hO0,hp0,hg,ps,so,Hd (fun x=>by rw [me.out x];simp),by omega⟩
     case round =>
      clear hS hF0 hO0 hp0 hv hg ps so me le;obtain⟨k,F0,S0,wq,ad,n,c,prs,l,hk,rfl,hS,hF0,hO0,hp0,hg,ps,so,me,le⟩:=hrel
      by_cases hkl:k<gs.length
      ·obtain⟨g,hgt⟩:∃ g,nth g0 gs k=g:=⟨_,rfl⟩
       have hc:=flat_cell gc_len g0 hkl;rw [hgt] at hc;have hgo:=hgs g (by rw [← hgt];exact nth_mem g0 gs k hkl);have ig:InI g.x∧InI g.y:=by have:=hgo;unfold Gp.ok okC at this;unfold InI;omega
       have hgF:=hg.weaken hF0;have gtk:gs.take (k+1)=gs.take k++[g]:=by rw [← hgt];exact take_snoc g0 gs k hkl
       have sd:=fun w' S' hL'=>sideC_any s g w' S' hL' hs.1 hs.2.1 hgo
       obtain⟨c1,hc1⟩:∃ c1,(decide (((min s.a.x s.b.x:Int):Rat)≤g.pt.x∧g.pt.x≤((max s.a.x s.b.x:Int):Rat)) && decide (((min s.a.y s.b.y:Int):Rat)≤g.pt.y∧g.pt.y≤((max s.a.y s.b.y:Int):Rat)))=c1:=⟨_,rfl⟩
       have pn:∀ z w' S',Liv w' S'→IsP w' S' z g.pt→Calls Tryz.prog 120 #[.agg #[.int .i64 s.bx.x0,.int .i64 s.bx.y0,.int .i64 s.bx.x1,.int .i64 s.bx.y1],.agg #[.bool z.x.num.neg,.slice z.x.num.ad z.x.num.n z.x.num.cap,.bool z.x.less.neg,.slice z.x.less.ad z.x.less.n z.x.less.cap,.bool z.y.num.neg,.slice z.y.num.ad z.y.num.n z.y.num.cap,.bool z.y.less.neg,.slice z.y.less.ad z.y.less.n z.y.less.cap]] w' fun e w''=>e=.returned (.bool c1)∧Pure w' S' w'' S':=fun z w' S' hL' hz=>by
        have hb:InI s.bx.x0∧InI s.bx.y0∧InI s.bx.x1∧InI s.bx.y1:=by unfold Sz.bx;simp only;unfold InI at *;omega
        rw [← hc1];exact pin_any s.bx z g.pt w' S' hb.1 hb.2.1 hb.2.2.1 hb.2.2.2 hz hL'
       have bc:=fun w=>boxC_any s w
       have hon:=onS_iff s g;rw [hc1] at hon
       have me1:∀ x,(x=s.a.pt∨x=s.b.pt∨(∃ t ∈ os,x ∈ meetL s.sg t.sg)∨∃ g ∈ gs.take (k+1),x=g.pt∧onS s.sg x)↔x ∈ l∨(x=g.pt∧(c1=true∧areaZ s.a s.b g=0)):=by
        intro x;rw [gtk,me.out x,← hon];simp only [List.mem_append,List.mem_singleton]
        constructor
        ·rintro (h|h|h|⟨u,hu|rfl,h⟩)
         ·exact .inl (.inl h)
         ·exact .inl (.inr (.inl h))
         ·exact .inl (.inr (.inr (.inl h)))
         ·exact .inl (.inr (.inr (.inr ⟨u,hu,h⟩)))
         ·obtain⟨rfl,h⟩:=h
          exact .inr ⟨rfl,h⟩
        ·rintro ((h|h|h|⟨u,hu,h⟩)|⟨rfl,h⟩)
         ·exact .inl h
         ·exact .inr (.inl h)
         ·exact .inr (.inr (.inl h))
         ·exact .inr (.inr (.inr ⟨u,.inl hu,h⟩))
         ·exact .inr (.inr (.inr ⟨g,.inr rfl,rfl,h⟩))
       replace me1:=Hd me1;have hz0:=@sgnZ_zero (areaZ s.a s.b g);obtain⟨d1,hd1⟩:∃ d1,sgnZ (areaZ s.a s.b g)=d1:=⟨_,rfl⟩;rw [hd1] at sd hz0;clear hc1 hgt hd1 gtk me hon;replace hz0:=Hd hz0
       go_wp2_with (with_reducible first|refine ixE underlying25 sizeOf29 hgF hc fun bq oq hcellq=>?_|refine ldG hS isAgg29 sizeOf29 ?_|refine alA hS zeroValue29 fun b18 wb18 hS=>?_|refine stA (u:=.agg #[_,_]) 4 hS sizeOf29 fun _ hS=>?_)
       clear hgF hc;refine rg0 [.r 0,.r 2,.e 1,.e 3,.e 4,.p 5,.r 6,.r 7,.e 8,.p 9,.p 10] [] hS fun w1 hS=>?_
       have hC:=hS
       repeat (with_reducible first|refine sldA 1 isAgg95 sizeOf95 ?_|refine sldA 4 isAgg29 sizeOf29 ?_)
       refine exL ?_
       go_wp2_with (fail)
       refine (bc _).mono ?_;rintro e w' ⟨rfl,hq⟩;simp only [];go_step;have hS:=hS.below hq.below hq.drawn;have hC:=hC.below hq.below hq.drawn;refine ext_end hC ?_;refine mvs ?_;refine exL ?_
       go_wp2_with (fail)
       refine (pof_any g.x g.y _ S0 ig.1 ig.2 (Liv.at hS hF0)).mono ?_;rintro e w' ⟨z,S1,rfl,hq1,hz⟩;simp only [];go_step;have hg:=(hg.at hS hF0).grow hq1;have ps:=(ps.at hS hF0).grow hq1;have hC:=hC.below hq1.below hq1.drawn;replace hS:=hS.pcl hF0 hO0 hp0 hq1;obtain⟨F1,hF1,-,hp1,hO1,hS⟩:=hS;refine ext_end hC ?_;refine mvs ?_;refine exL ?_
       go_wp2_with (fail)
       refine (pn z _ S1 (Liv.at hS hF1) (hz.at hS hF1)).mono ?_;rintro e w' ⟨rfl,hq2⟩;simp only [];go_step;have hg:=(hg.at hS hF1).grow hq2;have ps:=(ps.at hS hF1).grow hq2;have hC:=hC.below hq2.below hq2.drawn;replace hS:=hS.pcl hF1 hO1 hp1 hq2;obtain⟨F2,hF2,-,hp2,hO2,hS⟩:=hS;refine ext_end hC ?_;cases c1
       ·refine mvs ?_
        refine exL ?_;refine wpList_unwanted rfl ?_;refine ext_end hC ?_;refine mvs ?_;refine snL ?_;clear hC;go_wp2;go_roundw
        case rel=>exact⟨k+1,F2,_,_,_,_,_,_,_,by omega,rfl,hS.sb,hF2,hO2,hp2,hg,ps,so,Hd (fun x=>by rw [me1.out x];simp),by omega⟩
        case measure=>simp [intOf];omega
       ·repeat (with_reducible first|refine sldA 1 isAgg95 sizeOf95 ?_|refine sldA 4 isAgg29 sizeOf29 ?_|refine spL ?_)
        refine exL ?_
        go_wp2_with (fail)
        refine (sd _ S1 (Liv.at hS hF2)).mono ?_;rintro e w' ⟨rfl,hq3⟩;simp only [];go_step;have hg:=(hg.at hS hF2).grow hq3;have ps:=(ps.at hS hF2).grow hq3;have hC:=hC.below hq3.below hq3.drawn;replace hS:=hS.pcl hF2 hO2 hp2 hq3;obtain⟨F3,hF3,-,hp3,hO3,hS⟩:=hS;refine ext_end hC ?_
        by_cases hd0:d1=0
        ·have hd1:(d1 == 0)=true:=by simp [hd0]
         have hz1:=hz0.out.1 hd0;clear hd0 hz0;replace hz1:=Hd hz1;refine mvs ?_;refine snL ?_;clear hC
         go_wp2_with (with_reducible refine ldA 4 hS isAgg29 sizeOf29 ?_)
         refine (pof_any g.x g.y _ S1 ig.1 ig.2 (Liv.at hS hF3)).mono ?_;rintro e w8 ⟨z2,S2,rfl,hq4,hz2⟩;have hg:=(hg.at hS hF3).grow hq4;have ps:=(ps.at hS hF3).grow hq4;replace hS:=hS.pcl hF3 hO3 hp3 hq4;obtain⟨F4,hF4,-,hp4,hO4,hS⟩:=hS;simp only []
         go_wp2_with (fail)
         have hS:=hS.order [0,1,4,2,3] rfl;simp only [NRF] at hS;refine (note_at (A:=[_,_]) hS hF4 ps hz2 so (by omega)).mono ?_;rintro e w6 ⟨rfl,ad3,n3,c3,prs3,l3,hS2,ps3,so3,me3,le3⟩;clear hS ps hz2;have hS:=hS2;clear hS2;simp only [NRH] at hS;replace me3:=Hd me3;simp only [];go_wp2;go_roundw
         case rel=>exact⟨k+1,F4,_,_,_,_,_,_,_,by omega,rfl,hS.sb,hF4,hO4,hp4,hg,ps3,so3,Hd (fun x=>by rw [me1.out x,me3.out x];simp [hz1.out,Gp.pt]),by omega⟩
         case measure=>simp [intOf];omega
        ·have hd1:(d1 == 0)=false:=by simp [hd0]
         have hz1:¬ areaZ s.a s.b g=0:=fun h=>hd0 (hz0.out.2 h)
         clear hd0 hz0;replace hz1:=Hd hz1;refine mvs ?_;refine snL ?_;clear hC;go_wp2;go_roundw
         case rel=>exact⟨k+1,F3,_,_,_,_,_,_,_,by omega,rfl,hS.sb,hF3,hO3,hp3,hg,ps,so,Hd (fun x=>by rw [me1.out x];simp [hz1.out]),by omega⟩
         case measure=>simp [intOf];omega
      ·obtain rfl:k=gs.length:=by omega
       rw [List.take_length] at me;replace me:=Hd me
       go_wp2_with (with_reducible refine ldB 2 hS isAgg31 ?_)
       refine bodyPost_ret (results_tmp2 rfl _ _ _) rfl ?_
       have hn:n=l.length:=by
        have:=(hS.rowSl 3 rfl).1;rw [flat_len pc_len,ps.len] at this;omega
       subst hn;exact⟨ad,l.length,c,prs,l,_,rfl,hS.handOut hO0 hF0 hp0 (List.mem_of_getElem? (i:=2) rfl),⟨(hS.rowSl 3 rfl).weaken fun k h=>.inr h,(ps.at hS hF0).weaken fun k h=>.inl h⟩,so,me.out,by omega⟩
end Go.Proofs
