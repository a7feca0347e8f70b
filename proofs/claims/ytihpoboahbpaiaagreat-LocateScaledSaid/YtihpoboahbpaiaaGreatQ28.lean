/- Texts for the walk of the law: E12 GD E13 E14. -/
import Derived.DeepKeys
import Derived.Test.YtihpoboahbpaiaaGreatQ27
set_option maxRecDepth 100000
set_option maxHeartbeats 16000000
set_option linter.unusedVariables false
set_option linter.unusedSimpArgs false
namespace Go.Proofs
open Go.Proofs.Tryz
open Go.RowKit Go.Hp
theorem sameP_any (p q:PR) (a b:Pt) (w:World) (S:Nat→Prop) (hp:IsP w S p a) (hq:IsP w S q b) (hL:Liv w S) :
 Calls Tryz.prog 74 #[.agg #[.bool p.x.num.neg,.slice p.x.num.ad p.x.num.n p.x.num.cap,.bool p.x.less.neg,.slice p.x.less.ad p.x.less.n p.x.less.cap,.bool p.y.num.neg,.slice p.y.num.ad p.y.num.n p.y.num.cap,.bool p.y.less.neg,.slice p.y.less.ad p.y.less.n p.y.less.cap],.agg #[.bool q.x.num.neg,.slice q.x.num.ad q.x.num.n q.x.num.cap,.bool q.x.less.neg,.slice q.x.less.ad q.x.less.n q.x.less.cap,.bool q.y.num.neg,.slice q.y.num.ad q.y.num.n q.y.num.cap,.bool q.y.less.neg,.slice q.y.less.ad q.y.less.n q.y.less.cap]] w fun e w'=>e=.returned (.bool (decide (a=b)))∧Pure w S w' S:=by
 have hc:=fun w' (hp:IsP w' S p a) hq hL=>pcompare_any p q a b w' S hp hq hL
 have heq:=@cmpP_eq a b;obtain⟨d,hd⟩:∃ d,cmpP a b=d:=⟨_,rfl⟩;rw [hd] at heq;simp only [hd] at hc
 have hres:(d == 0)=decide (a=b):=by
  by_cases h:a=b
  ·simp [heq.2 h,h]
  ·simp [h,mt heq.1 h]
 obtain⟨r,hr⟩:∃ r,decide (a=b)=r:=⟨_,rfl⟩;rw [hr] at hres ⊢;replace hr:=Hd hr;clear heq hd;obtain⟨hS,hF0,hO0,hp0⟩:=st0 hL
 go_enter func74,ntmps74
 go_wp2_with (with_reducible first|refine bxA hS fun bx wbx hS=>?_|refine ldA 1 hS isAgg56 sizeOf56 ?_|refine ldA 2 hS isAgg56 sizeOf56 ?_)
 refine (hc _ (hp.at hS hF0) (hq.at hS hF0) (Liv.at hS hF0)).mono ?_;rintro e w' ⟨rfl,hq1⟩;replace hS:=hS.pcl hF0 hO0 hp0 hq1;obtain⟨F1,hF1,-,hp1,hO1,hS⟩:=hS;simp only [];go_wp2;go_ret;exact⟨rfl,hp1.step hS hO1 hF1⟩
theorem compactP_any (ad:Option Addr) (n c:Nat) (prs:List PR) (l:List Pt) (F S:Nat→Prop) (w:World) (hS:Heap w w [.frz F w,.row (.slice ad n c) 56 8 n (prs.flatMap pc)]) (hF:∀ k,S k→F k) (hps:IsPs w S prs l) (hs:l.Pairwise Pt.le) (hn:n≤1000000) :
 Calls Tryz.prog 73 #[.slice ad n c,.func (.func 74) #[] #[]] w fun e w'=>∃ n' prs' l',e=.returned (.slice ad n' c)∧Heap w w' [.frz F w,.row (.slice ad n' c) 56 8 n' (prs'.flatMap pc)]∧IsPs w S prs' l'∧l'.Pairwise Pt.lt∧(∀ x,x ∈ l'↔x ∈ l)∧n'≤n:=by
 have hpl:prs.length=n:=by
  have:=(hS.rowSl 1 rfl).1;rw [flat_len pc_len] at this;omega
 have hll:l.length=n:=by rw [← hps.len,hpl]
 have hnc:=hS.rowCap 1 rfl
 by_cases hn2:n<2
 ·have hd:decide ((n:Int)<2)=true:=by simp;omega
  have hst:l.Pairwise Pt.lt:=by
   match l,hll with
   | [],_=>exact List.Pairwise.nil
   | [x],_=>exact List.pairwise_singleton _ _
   | _::_::_,h=>simp at h;omega
  replace hps:=Hd hps;replace hs:=Hd hs;clear hpl hll
  go_enter func73,ntmps73
  go_wp2;go_ret;exact⟨n,prs,l,rfl,hS,hps.out,hst,fun x=>Iff.rfl,Nat.le_refl _⟩
 ·have hd:decide ((n:Int)<2)=false:=by simp;omega
  obtain⟨g,cur,rfl,-,hcm,hcs,-,htk,hS2⟩:=hS.openRow 1 rfl (by omega);clear hS;have hS:=hS2;clear hS2;simp only [NRH] at hS;obtain⟨z,hz⟩:∃ z,z=cur.toList.drop (n*8):=⟨_,rfl⟩;obtain⟨D,hD⟩:∃ D,D=(prs.flatMap pc++z).toArray:=⟨_,rfl⟩
  have hcz:cur=(prs.flatMap pc++z).toArray:=by
   rw [← htk,hz,List.take_append_drop]
  have hzl:z.length=(c - n)*8:=by rw [hz,List.length_drop,Array.length_toList,hcs,Nat.sub_mul]
  have hcl:(c - n)*8+n*8=c*8:=by rw [← Nat.add_mul];congr 1;omega
  subst hcz;clear hz htk hcs hD D
  have hsz:∀ qs:List PR,qs.length=n→(qs.flatMap pc++z).toArray.size=c*8:=fun qs hq=>by
   rw [List.size_toArray,List.length_append,flat_len pc_len,hq];omega
  replace hs:=Hd hs;have sm:=fun p q a b w' hp hq hL=>sameP_any p q a b w' S hp hq hL
  go_enter func73,ntmps73
  go_wp2
  go_loopw [5] (fun v wr=>∃ k:Nat,v=.int .i64 (k:Int)∧1≤k∧k≤n∧Heap w wr [.frz F w,.blk g (.cells (prs.flatMap pc++z).toArray 56 (0,0))]∧(l.take k).Pairwise Pt.lt) (fun v _=>n - (intOf v).toNat)
  case atStart=>exact⟨1,rfl,by omega,by omega,hS,by
   match l,hll with
   | [],h=>exact List.Pairwise.nil
   | x::l',_=>exact List.pairwise_singleton _ _⟩
  case round =>
   clear hS;obtain⟨k,rfl,hk1,hkn,hS,hst⟩:=hrel;replace hst:=Hd hst
   by_cases hkl:k<n
   ·have hw1:IntKind.i64.wrap ((k:Int) - 1)=((k - 1:Nat):Int):=w7
    have c1:=flat_at (z:=z) (show k<prs.length by omega);have c2:=flat_at (z:=z) (show k - 1<prs.length by omega);have b1:k*8+8≤(prs.flatMap pc++z).toArray.size:=by rw [List.size_toArray,List.length_append,flat_len pc_len];omega
    have b2:(k - 1)*8+8≤(prs.flatMap pc++z).toArray.size:=by rw [List.size_toArray,List.length_append,flat_len pc_len];omega
    have i1:=hps.el k (by omega);have i2:=hps.el (k - 1) (by omega);have hsk:=fun h=>strict_snoc hs.out hk1 (by omega) hst.out h
    have hsc:=fun h=>Cmp1.start hk1 (by omega) hst.out h
    obtain⟨m1,e1⟩:∃ m1,nth p0 prs k=m1:=⟨_,rfl⟩;obtain⟨m2,e2⟩:∃ m2,nth p0 prs (k - 1)=m2:=⟨_,rfl⟩;obtain⟨y1,f1⟩:∃ y1,nth pt0 l k=y1:=⟨_,rfl⟩;obtain⟨y2,f2⟩:∃ y2,nth pt0 l (k - 1)=y2:=⟨_,rfl⟩;rw [e1] at c1;rw [e2] at c2;rw [e1,f1] at i1;rw [e2,f2] at i2;rw [f1,f2] at hsk hsc;clear e1 e2 f1 f2;replace hsk:=Hd hsk;replace hsc:=Hd hsc;go_wp2;refine rg0 [.p 0,.p 1,.p 2,.p 3,.r 4,.p 5,.p 6,.p 7,.p 8,.r 9,.e 10] [] hS fun w1 hS=>?_
    have hC:=hS
    repeat (first|((with_reducible refine m_pure ?_);refine sched_any rfl rfl (any_index_atk (T:=31) underlying31 sizeOf56 rfl rfl (by omega) (by omega) ?_);simp only [NRM];try simp only [Nat.zero_add,Int.toNat_natCast])|((with_reducible refine m_read ?_);refine sched_of rfl rfl (stp_loadk_to (T:=56) 1 isAgg56 sizeOf56 rfl rfl b1 c1 ?_);simp only [NRM])|((with_reducible refine m_read ?_);refine sched_of rfl rfl (stp_loadk_to (T:=56) 1 isAgg56 sizeOf56 rfl rfl b2 c2 ?_);simp only [NRM])|(with_reducible refine spL ?_))
    clear b1 b2 c1 c2;refine exL ?_
    go_wp2_with (fail)
    refine (sm m1 m2 y1 y2 _ (i1.at hS hF) (i2.at hS hF) (Liv.at hS hF)).mono ?_;rintro e w' ⟨rfl,hq⟩;simp only [];go_step;clear i1 i2
    by_cases hy:y1=y2
    ·have hd1:decide (y1=y2)=true:=by simpa using hy
     have hcm:=hsc.out hy;clear hsk hsc hy;rw [hd1];clear hd1;have hS:=hS.below hq.below hq.drawn;have hC:=hC.below hq.below hq.drawn;refine ext_end hC ?_;refine mvs ?_;refine snL ?_;clear hC;have hrf:∀ (i c2:Nat),i<l.length→True:=fun _ _ _=>trivial
     clear hrf;have hw2:IntKind.i64.wrap ((n:Int) - (k:Int))=((n - k:Nat):Int):=w7;have hkc:¬ c=k:=by omega
     have htk:((k:Int)).toNat=k:=by omega
     go_wp2_with (first|((with_reducible refine g_slice (T:=31) ?_);refine seq_any rfl (any_slice_lo (T:=31) (j:=k) underlying31 sizeOf56 rfl rfl (by omega) (by omega) (by omega) ?_);simp only [NRM];simp only [Nat.zero_add]))
     go_loopw [5,7] (fun v5 v7 wr=>∃ (K j:Nat) (qs:List PR) (ls:List Pt),v5=.int .i64 (K:Int)∧v7=.int .i64 (j:Int)∧1≤j∧Cmp1 l ls K (k+j)∧IsPs w S qs ls∧Heap w wr [.frz F w,.blk g (.cells (qs.flatMap pc++z).toArray 56 (0,0))]) (fun v5 v7 _=>n - k - (intOf v7).toNat)
     case atStart=>exact⟨k,1,prs,l,rfl,rfl,by omega,hcm,hps,hS⟩
     case round =>
      clear hS hcm hps hst;obtain⟨K,j,qs,ls,rfl,rfl,hj1,hC1,hps,hS⟩:=hrel;have hls:=hC1.len;have hql:=hps.len;have hlo:=hC1.lo;have hhi:=hC1.hi;have hml:=hC1.ml;have hsq:=hsz qs (by omega);replace hC1:=Hd hC1
      by_cases hjn:j<n - k
      ·have hw1:IntKind.i64.wrap ((j:Int) - 1)=((j - 1:Nat):Int):=w7
       have hjt:decide ((j:Int)<((n - k:Nat):Int))=true:=by simp;omega
       have c1:((qs.flatMap pc++z).drop (k*8+j*8)).take 8=pc (nth p0 qs (k+j)):=by rw [← Nat.add_mul];exact flat_at (by omega)
       have c2:((qs.flatMap pc++z).drop (k*8+(j - 1)*8)).take 8=pc (nth p0 qs (k+j - 1)):=by rw [← Nat.add_mul,show k+(j - 1)=k+j - 1 by omega];exact flat_at (by omega)
       have b1:k*8+j*8+8≤(qs.flatMap pc++z).toArray.size:=by omega
       have b2:k*8+(j - 1)*8+8≤(qs.flatMap pc++z).toArray.size:=by omega
       have i1:=hps.el (k+j) (by omega);have i2:=hps.el (k+j - 1) (by omega);have hsk:=fun h=>Cmp1.take hC1.out hs.out (by omega) h
       have hsc:=fun h=>Cmp1.skip hC1.out (by omega) h
       obtain⟨m1,e1⟩:∃ m1,nth p0 qs (k+j)=m1:=⟨_,rfl⟩;obtain⟨m2,e2⟩:∃ m2,nth p0 qs (k+j - 1)=m2:=⟨_,rfl⟩;obtain⟨y1,f1⟩:∃ y1,nth pt0 ls (k+j)=y1:=⟨_,rfl⟩;obtain⟨y2,f2⟩:∃ y2,nth pt0 ls (k+j - 1)=y2:=⟨_,rfl⟩;rw [e1] at c1;rw [e2] at c2;rw [e1,f1] at i1;rw [e2,f2] at i2;rw [f1,f2] at hsk hsc;have hset:=hps.set (i:=K) i1 (by omega);clear e1 e2 f1 f2;replace hsk:=Hd hsk;replace hsc:=Hd hsc;replace hset:=Hd hset;go_wp2;refine rg0 [.p 0,.p 1,.p 2,.p 3,.r 4,.p 5,.p 6,.p 7,.p 8,.r 9,.e 10,.p 11] [] hS fun w1 hS=>?_
       have hC:=hS
       repeat (first|((with_reducible refine m_pure ?_);refine sched_any rfl rfl (any_index_atk (T:=31) underlying31 sizeOf56 rfl rfl (by omega) (by omega) ?_);simp only [NRM];try simp only [Nat.zero_add,Int.toNat_natCast])|((with_reducible refine m_read ?_);refine sched_of rfl rfl (stp_loadk_to (T:=56) 1 isAgg56 sizeOf56 rfl rfl b1 c1 ?_);simp only [NRM])|((with_reducible refine m_read ?_);refine sched_of rfl rfl (stp_loadk_to (T:=56) 1 isAgg56 sizeOf56 rfl rfl b2 c2 ?_);simp only [NRM])|(with_reducible refine spL ?_))
       clear b2 c2;refine exL ?_
       go_wp2_with (fail)
       refine (sm m1 m2 y1 y2 _ (i1.at hS hF) (i2.at hS hF) (Liv.at hS hF)).mono ?_;rintro e w' ⟨rfl,hq⟩;simp only [];go_step;clear i1 i2
       by_cases hy:y1=y2
       ·have hd1:decide (y1=y2)=true:=by simpa using hy
        have hcm2:=hsc.out hy;clear hsk hsc hy hset;rw [hd1];clear hd1;have hS:=hS.below hq.below hq.drawn;have hC:=hC.below hq.below hq.drawn;refine ext_end hC ?_;refine mvs ?_;refine snL ?_;clear hC;replace hcm2:=Hd hcm2;go_wp2;go_roundw
        case rel=>exact⟨K,j+1,qs,ls,rfl,by simp,by omega,hcm2.out,hps,hS⟩
        case measure=>simp [intOf];omega
       ·have hd1:decide (y1=y2)=false:=by simpa using hy
        have hcm2:=hsk.out hy;clear hsk hsc hy;rw [hd1];clear hd1;have hS:=hS.below hq.below hq.drawn;have hC:=hC.below hq.below hq.drawn;refine ext_end hC ?_;refine mvs ?_;refine snL ?_;clear hC;replace hcm2:=Hd hcm2
        go_wp2_with (first|((with_reducible refine g_idx (T:=31) ?_);refine seq_any rfl (any_index_atk (T:=31) underlying31 sizeOf56 rfl rfl (by omega) (by omega) ?_);simp only [NRM];try simp only [Nat.zero_add,Int.toNat_natCast])|((with_reducible refine g_load (T:=56) ?_);refine seq_of hS rfl (stp_loadk_to (T:=56) 1 isAgg56 sizeOf56 rfl rfl b1 c1 ?_);simp only [NRM])|((with_reducible refine g_store (T:=56) ?_);refine seq_store_flat (T:=56) (k:=K) 1 hS rfl rfl rfl sizeOf56 (by omega) (fun _ hS=>?_);simp only [NRM];simp only [NRH] at hS))
        go_roundw
        case rel=>exact⟨K+1,j+1,_,_,by simp,by simp,by omega,hcm2.out,hset.out,hS⟩
        case measure=>simp [intOf];omega
      ·obtain rfl:j=n - k:=by omega
       have hkn2:k+(n - k)=n:=by omega
       have hmem:=hC1.out.mem;have hsrt:=hC1.out.sorted;rw [hkn2,List.take_of_length_le (show l.length≤n by omega)] at hmem;replace hmem:=Hd hmem;replace hsrt:=Hd hsrt;clear hC1;have hKn:K<n:=by omega
       have hKc:K<c:=by omega
       have hzv:=hsq
       go_wp2_with (first|((with_reducible refine g_slice (T:=31) ?_);refine seq_any rfl (any_slice_lo (T:=31) (j:=K) underlying31 sizeOf56 rfl rfl (by omega) (by omega) (by omega) ?_);simp only [NRM];simp only [Nat.zero_add])|((with_reducible refine g_clear ?_);refine seq_clear_k (n:=n - K) (k:=8) (c:=c - K) (o:=K*8) (g:=g) 1 hS underlying31 zeroValue56 rfl (by decide) (by decide) (by omega) rfl rfl (by rw [hsq,← Nat.add_mul];exact Nat.mul_le_mul_right 8 (by omega)) (fun _ arr harr htk hS=>?_);simp only [NRM];simp only [NRH] at hS))
       go_ret;have hfl:=flat_len pc_len qs
       have hcut:arr.toList.take (K*8)=(qs.take K).flatMap pc:=by
        rw [htk];show (qs.flatMap pc++z).take (K*8)=_;rw [List.take_append_of_le_length (by omega),flat_take pc_len]
       have hS:=hS.closeRow (c:=c) (n:=K) (k:=8) 1 rfl (harr.trans hsq) (by omega) hcm;simp only [NRH] at hS;rw [hcut] at hS;exact⟨K,rfl,qs.take K,hS,ls.take K,hps.take K,hsrt.out,hmem.out,Nat.le_of_lt hKn⟩
    ·have hd1:decide (y1=y2)=false:=by simpa using hy
     have hsn:=hsk.out hy;clear hsk hsc hy;rw [hd1];clear hd1;have hS:=hS.below hq.below hq.drawn;have hC:=hC.below hq.below hq.drawn;refine ext_end hC ?_;refine mvs ?_;refine snL ?_;clear hC;replace hsn:=Hd hsn;go_wp2;go_roundw
     case rel=>exact⟨k+1,rfl,by omega,by omega,hS,hsn.out⟩
     case measure=>simp [intOf];omega
   ·obtain rfl:k=n:=by omega
    have hsn:l.Pairwise Pt.lt:=by have:=hst.out;rwa [List.take_of_length_le (by omega)] at this
    replace hsn:=Hd hsn;go_wp2;go_ret;have hS:=hS.closeRow (c:=c) (n:=k) (k:=8) 1 rfl (hsz prs hpl) hnc hcm;simp only [NRH] at hS;rw [List.take_append_of_le_length (by rw [flat_len pc_len];omega),List.take_of_length_le (by rw [flat_len pc_len];omega)] at hS;exact⟨k,prs,l,rfl,hS,hps,hsn.out,fun x=>Iff.rfl,Nat.le_refl _⟩
end Go.Proofs
namespace Go.Hp
theorem isVert_parts {ss:List Sg} {ps:List Pt} (p:Pt):isVert ss ps p↔p ∈ ps∨∃ i s,ss[i]? = some s∧isPart ss ps i s p:=by
 constructor
 ·rintro (h|⟨s,hs,h⟩|⟨i,j,s,t,hij,hi,hj,hc⟩)
  ·exact .inl h
  ·obtain⟨i,hi⟩:=List.mem_iff_getElem?.1 hs
   refine .inr ⟨i,s,hi,?_⟩
   rcases h with h|h
   ·exact .inl h
   ·exact .inr (.inl h)
  ·exact .inr ⟨i,s,hi,.inr (.inr (.inl ⟨j,t,fun e=>hij e.symm,hj,hc⟩))⟩
 ·rintro (h|⟨i,s,hi,h|h|⟨j,t,hji,hj,hc⟩|⟨h,_⟩⟩)
  ·exact .inl h
  ·exact .inr (.inl ⟨s,List.mem_of_getElem? hi,.inl h⟩)
  ·exact .inr (.inl ⟨s,List.mem_of_getElem? hi,.inr h⟩)
  ·exact .inr (.inr ⟨i,j,s,t,fun e=>hji e.symm,hi,hj,hc⟩)
  ·exact .inl h
theorem Arr0.of_parts {ss:List Sg} {ps:List Pt} {parts:List (List Pt)} {V:List Pt} {E:List (Nat × Nat)} (hne:∀ s ∈ ss,s.a≠s.b) (hlen:parts.length=ss.length)
 (hsort:∀ l ∈ parts,l.Pairwise Pt.lt) (hp:∀ (i:Nat) s l,ss[i]? = some s→parts[i]? = some l→∀ p,p ∈ l↔isPart ss ps i s p) (hVs:V.Pairwise Pt.lt) (hV:∀ p,p ∈ V↔p ∈ ps∨∃ l ∈ parts,p ∈ l)
 (hEs:E.Pairwise ltE) (hE:∀ u v,(u,v) ∈ E↔∃ l ∈ parts,∃ k p q,l[k]? = some p∧l[k+1]? = some q∧V[u]? = some p∧V[v]? = some q):Arr0 ss ps V E∧∀ (i:Nat) s l,ss[i]? = some s→parts[i]? = some l→∀ p,p ∈ l↔p ∈ V∧onS s p:=by
 have hvert:∀ p,p ∈ V↔isVert ss ps p:=by
  intro p;rw [hV,isVert_parts]
  constructor
  ·rintro (h|⟨l,hl,h⟩)
   ·exact .inl h
   ·obtain⟨i,hi⟩:=List.mem_iff_getElem?.1 hl
    have hil:=(List.getElem?_eq_some_iff.1 hi).1;obtain⟨s,hs⟩:∃ s,ss[i]? = some s:=⟨_,List.getElem?_eq_getElem (by omega)⟩;exact .inr ⟨i,s,hs,(hp i s l hs hi p).1 h⟩
  ·rintro (h|⟨i,s,hs,h⟩)
   ·exact .inl h
   ·have hil:=(List.getElem?_eq_some_iff.1 hs).1
    obtain⟨l,hl⟩:∃ l,parts[i]? = some l:=⟨_,List.getElem?_eq_getElem (by omega)⟩;exact .inr ⟨l,List.mem_of_getElem? hl,(hp i s l hs hl p).2 h⟩
 have hpart:∀ (i:Nat) s l,ss[i]? = some s→parts[i]? = some l→∀ p,p ∈ l↔p ∈ V∧onS s p:=by
  intro i s l hs hl p;rw [hp i s l hs hl p,part_iff hs hne,hvert]
 refine⟨⟨hVs,hvert,hEs,fun u v=>?_⟩,hpart⟩;rw [hE]
 constructor
 ·rintro⟨l,hl,h⟩
  obtain⟨i,hi⟩:=List.mem_iff_getElem?.1 hl;have hil:=(List.getElem?_eq_some_iff.1 hi).1;obtain⟨s,hs⟩:∃ s,ss[i]? = some s:=⟨_,List.getElem?_eq_getElem (by omega)⟩;exact⟨s,List.mem_of_getElem? hs,(next_of_parts hVs (hsort l hl) (hpart i s l hs hi) u v).2 h⟩
 ·rintro⟨s,hs,h⟩
  obtain⟨i,hi⟩:=List.mem_iff_getElem?.1 hs;have hil:=(List.getElem?_eq_some_iff.1 hi).1;obtain⟨l,hl⟩:∃ l,parts[i]? = some l:=⟨_,List.getElem?_eq_getElem (by omega)⟩;exact⟨l,List.mem_of_getElem? hl,(next_of_parts hVs (hsort l (List.mem_of_getElem? hl)) (hpart i s l hi hl) u v).1 h⟩
theorem mem_others {α:Type} {l:List α} {i:Nat} {t:α}:t ∈ l.take i++l.drop (i+1)↔∃ j,j≠i∧l[j]? = some t:=by
 rw [List.mem_append]
 constructor
 ·rintro (h|h)
  ·obtain⟨j,hj⟩:=List.mem_iff_getElem?.1 h
   rw [List.getElem?_take] at hj
   split at hj
   ·rename_i hlt;exact⟨j,by omega,hj⟩
   ·cases hj
  ·obtain⟨j,hj⟩:=List.mem_iff_getElem?.1 h
   rw [List.getElem?_drop] at hj;exact⟨i+1+j,by omega,hj⟩
 ·rintro⟨j,hne,hj⟩
  rcases Nat.lt_or_ge j i with h|h
  ·exact .inl (List.mem_iff_getElem?.2 ⟨j,by rw [List.getElem?_take,if_pos h];exact hj⟩)
  ·exact .inr (List.mem_iff_getElem?.2 ⟨j - (i+1),by rw [List.getElem?_drop,show i+1+(j - (i+1))=j by omega];exact hj⟩)
theorem isPart_of {ss:List Sg} {ps:List Pt} {i:Nat} {s:Sg} (hi:ss[i]? = some s) (hne:∀ s ∈ ss,s.a≠s.b) (x:Pt) :
 isPart ss ps i s x↔x=s.a∨x=s.b∨(∃ t ∈ ss.take i++ss.drop (i+1),x ∈ meetL s t)∨(x ∈ ps∧onS s x):=by
 have hs:=hne s (List.mem_of_getElem? hi);unfold isPart
 constructor
 ·rintro (h|h|⟨j,t,hji,hj,hc⟩|h)
  ·exact .inl h
  ·exact .inr (.inl h)
  ·exact .inr (.inr (.inl ⟨t,mem_others.2 ⟨j,hji,hj⟩,(meet_iff hs (hne t (List.mem_of_getElem? hj)) x).2 hc⟩))
  ·exact .inr (.inr (.inr h))
 ·rintro (h|h|⟨t,ht,hm⟩|h)
  ·exact .inl h
  ·exact .inr (.inl h)
  ·obtain⟨j,hji,hj⟩:=mem_others.1 ht
   exact .inr (.inr (.inl ⟨j,t,hji,hj,(meet_iff hs (hne t (List.mem_of_getElem? hj)) x).1 hm⟩))
  ·exact .inr (.inr (.inr h))
end Go.Hp
namespace Go.Hp
open Go Go.RowKit
def pk (p:Nat × Nat):Value:=.agg #[.int .i64 p.1,.int .i64 p.2]
abbrev Step:=Nat × (Nat × Nat)
structure GInv (tr:List Step) (G:List ((Nat × Nat) × List Nat)):Prop where
 nd:(G.map (·.1)).Nodup
 val:∀ k l,(k,l) ∈ G→l=(tr.filter (fun t=>decide (t.2=k))).map (·.1)
 key:∀ k,k ∈ G.map (·.1)↔∃ t ∈ tr,t.2=k
theorem nodup_putK {ν:Type} {l:List ((Nat × Nat) × ν)} (h:(l.map (·.1)).Nodup) (k:Nat × Nat) (v:ν):((putL l k v).map (·.1)).Nodup:=by
 induction l with
 | nil=>simp [putL]
 | cons p l ih =>
  obtain⟨x,u⟩:=p;simp only [List.map_cons,List.nodup_cons] at h;simp only [putL]
  split
  ·rename_i e;subst e;simpa using h
  ·rename_i e
   simp only [List.map_cons,List.nodup_cons];refine⟨fun hm=>?_,ih h.2⟩
   rcases (keys_putL_mem l k v x).1 hm with e2|e2
   ·exact e e2
   ·exact h.1 e2
theorem mem_putL {ν:Type} {l:List ((Nat × Nat) × ν)} (h:(l.map (·.1)).Nodup) {k x:Nat × Nat} {v u:ν}:(x,u) ∈ putL l k v↔(x=k∧u=v)∨(x≠k∧(x,u) ∈ l):=by
 constructor
 ·intro hm
  have:=getL_of_mem (nodup_putK h k v) hm;rw [getL_putL] at this
  by_cases e:k=x
  ·subst e;rw [if_pos rfl] at this;cases this;exact .inl ⟨rfl,rfl⟩
  ·rw [if_neg e] at this;exact .inr ⟨fun e2=>e e2.symm,getL_mem this⟩
 ·rintro (⟨rfl,rfl⟩|⟨hne,hm⟩)
  ·exact getL_mem (by rw [getL_putL,if_pos rfl])
  ·exact getL_mem (by rw [getL_putL,if_neg (fun e=>hne e.symm)];exact getL_of_mem h hm)
theorem GInv.nil:GInv [] []:=⟨by simp,by simp,by simp⟩
theorem GInv.old {tr:List Step} {G:List ((Nat × Nat) × List Nat)} (h:GInv tr G) (k:Nat × Nat):(getL G k).getD []=(tr.filter (fun t=>decide (t.2=k))).map (·.1):=by
 cases hg:getL G k with
 | some l=>exact h.val k l (getL_mem hg)
 | none =>
  have hk:k ∉ G.map (·.1):=fun hm=>by
   obtain⟨⟨x,u⟩,hm2,rfl⟩:=List.mem_map.1 hm;rw [getL_of_mem h.nd hm2] at hg;cases hg
  have hf:tr.filter (fun t=>decide (t.2=k))=[]:=by
   rw [List.filter_eq_nil_iff];intro t ht;simp only [decide_eq_true_eq];exact fun e=>hk ((h.key k).2 ⟨t,ht,e⟩)
  rw [hf];rfl
theorem GInv.step {tr:List Step} {G:List ((Nat × Nat) × List Nat)} (h:GInv tr G) (i:Nat) (k:Nat × Nat):GInv (tr++[(i,k)]) (putL G k ((getL G k).getD []++[i])):=by
 refine⟨nodup_putK h.nd _ _,fun x l hm=>?_,fun x=>?_⟩
 ·rcases (mem_putL h.nd).1 hm with ⟨rfl,rfl⟩|⟨hne,hm2⟩
  ·rw [h.old,List.filter_append,List.map_append];simp
  ·rw [h.val x l hm2,List.filter_append,List.map_append]
   have:¬ k=x:=fun e=>hne e.symm
   simp [this]
 ·rw [keys_putL_mem,h.key]
  simp only [List.mem_append,List.mem_singleton]
  constructor
  ·rintro (rfl|⟨t,ht,e⟩)
   ·exact⟨(i,x),.inr rfl,rfl⟩
   ·exact⟨t,.inl ht,e⟩
  ·rintro⟨t,ht|rfl,e⟩
   ·exact .inr ⟨t,ht,e⟩
   ·exact .inl e.symm
structure DInv {ν:Type} (f:Nat→ν) (tr:List Step) (D:List ((Nat × Nat) × ν)):Prop where
 nd:(D.map (·.1)).Nodup
 val:∀ k d,(k,d) ∈ D→∃ t ∈ tr,t.2=k∧d=f t.1
 key:∀ k,k ∈ D.map (·.1)↔∃ t ∈ tr,t.2=k
theorem DInv.nil {ν:Type} (f:Nat→ν):DInv f [] []:=⟨by simp,by simp,by simp⟩
theorem DInv.step {ν:Type} {f:Nat→ν} {tr:List Step} {D:List ((Nat × Nat) × ν)} (h:DInv f tr D) (i:Nat) (k:Nat × Nat):DInv f (tr++[(i,k)]) (putL D k (f i)):=by
 refine⟨nodup_putK h.nd _ _,fun x d hm=>?_,fun x=>?_⟩
 ·rcases (mem_putL h.nd).1 hm with ⟨rfl,rfl⟩|⟨hne,hm2⟩
  ·exact⟨(i,x),by simp,rfl,rfl⟩
  ·obtain⟨t,ht,e⟩:=h.val x d hm2
   exact⟨t,by simp [ht],e⟩
 ·rw [keys_putL_mem,h.key]
  simp only [List.mem_append,List.mem_singleton]
  constructor
  ·rintro (rfl|⟨t,ht,e⟩)
   ·exact⟨(i,x),.inr rfl,rfl⟩
   ·exact⟨t,.inl ht,e⟩
  ·rintro⟨t,ht|rfl,e⟩
   ·exact .inr ⟨t,ht,e⟩
   ·exact .inl e.symm
structure TInv (V:List Pt) (pp:List (List Pt)) (i k:Nat) (tr:List Step):Prop where
 mem:∀ j u v,(j,(u,v)) ∈ tr↔∃ q,(j<i∨(j=i∧q+1<k))∧∃ l a b,pp[j]? = some l∧l[q]? = some a∧l[q+1]? = some b∧V[u]? = some a∧V[v]? = some b
 ord:tr.Pairwise (fun s t=>s.1<t.1∨(s.1=t.1∧s.2≠t.2))
theorem TInv.nil (V:List Pt) (pp:List (List Pt)):TInv V pp 0 1 []:=⟨fun j u v=>by simp,List.Pairwise.nil⟩
theorem TInv.next {V:List Pt} {pp:List (List Pt)} {i k:Nat} {tr:List Step} {l:List Pt} (h:TInv V pp i k tr) (hl:pp[i]? = some l) (hk:l.length≤k):TInv V pp (i+1) 1 tr:=by
 refine⟨fun j u v=>?_,h.ord⟩;rw [h.mem]
 constructor
 ·rintro⟨q,hq,l',a,b,h1,h2,h3,h4⟩
  exact⟨q,by omega,l',a,b,h1,h2,h3,h4⟩
 ·rintro⟨q,hq,l',a,b,h1,h2,h3,h4⟩
  refine⟨q,?_,l',a,b,h1,h2,h3,h4⟩
  rcases Nat.lt_or_ge j i with h5|h5
  ·exact .inl h5
  ·have:j=i:=by omega
   subst this;rw [hl] at h1;cases h1;have:=(List.getElem?_eq_some_iff.1 h3).1;exact .inr ⟨rfl,by omega⟩
theorem nth_inj {V:List Pt} (hV:V.Pairwise Pt.lt) {u v:Nat} {p:Pt} (h1:V[u]? = some p) (h2:V[v]? = some p):u=v:=by
 obtain⟨a1,a2⟩:=List.getElem?_eq_some_iff.1 h1;obtain⟨b1,b2⟩:=List.getElem?_eq_some_iff.1 h2
 rcases Nat.lt_trichotomy u v with h|h|h
 ·have:=List.pairwise_iff_getElem.1 hV u v a1 b1 h
  rw [a2,b2] at this;exact absurd this (Pt.lt_irrefl _)
 ·exact h
 ·have:=List.pairwise_iff_getElem.1 hV v u b1 a1 h
  rw [a2,b2] at this;exact absurd this (Pt.lt_irrefl _)
theorem TInv.step {V:List Pt} {pp:List (List Pt)} {i q u v:Nat} {tr:List Step} {l:List Pt} {a b:Pt} (hV:V.Pairwise Pt.lt) (h:TInv V pp i (q+1) tr) (hl:pp[i]? = some l) (hls:l.Pairwise Pt.lt) (ha:l[q]? = some a) (hb:l[q+1]? = some b) (hu:V[u]? = some a) (hv:V[v]? = some b):TInv V pp i (q+2) (tr++[(i,(u,v))]):=by
 refine⟨fun j x y=>?_,?_⟩
 ·rw [List.mem_append,h.mem,List.mem_singleton]
  constructor
  ·rintro (⟨r,hr,l',a',b',h1,h2⟩|h1)
   ·exact⟨r,by omega,l',a',b',h1,h2⟩
   ·simp only [Prod.mk.injEq] at h1
    obtain⟨rfl,rfl,rfl⟩:=h1;exact⟨q,.inr ⟨rfl,by omega⟩,l,a,b,hl,ha,hb,hu,hv⟩
  ·rintro⟨r,hr,l',a',b',h1,h2,h3,h4,h5⟩
   by_cases hjr:j=i∧r=q
   ·obtain⟨rfl,rfl⟩:=hjr
    rw [hl] at h1;cases h1;rw [ha] at h2;cases h2;rw [hb] at h3;cases h3
    right
    rw [nth_inj hV h4 hu,nth_inj hV h5 hv]
   ·exact .inl ⟨r,by omega,l',a',b',h1,h2,h3,h4,h5⟩
 ·refine List.pairwise_append.2 ⟨h.ord,List.pairwise_singleton _ _,fun s hs t ht=>?_⟩
  rw [List.mem_singleton] at ht;subst ht;obtain⟨j,x,y⟩:=s;obtain⟨r,hr,l',a',b',h1,h2,h3,h4,h5⟩:=(h.mem j x y).1 hs
  rcases hr with hr|⟨rfl,hr⟩
  ·exact .inl hr
  ·refine .inr ⟨rfl,fun e=>?_⟩
   simp only [Prod.mk.injEq] at e;obtain⟨rfl,rfl⟩:=e;rw [hl] at h1;cases h1;rw [h4] at hu;cases hu;have:=nth_inj hls h2 ha;omega
end Go.Hp
namespace Go.Hp
open Go.Proofs.Tryz
open Go Go.RowKit
structure ORow where
 k:Nat × Nat
 ad:Option Addr
 n:Nat
 c:Nat
 is:List Nat
def sv (s:Option Addr × Nat × Nat):Value:=.slice s.1 s.2.1 s.2.2
def gvv (g:Gp):Value:=.agg #[.int .i64 g.x,.int .i64 g.y]
def ORow.s (r:ORow):(Nat × Nat) × (Option Addr × Nat × Nat):=(r.k,(r.ad,r.n,r.c))
def ORow.ch (T:TypeId) (r:ORow):Chunk:=.row (.slice r.ad r.n r.c) T 1 r.n (iv (zs r.is))
theorem Heap.lastTo {w0 w:World} (L R:List Chunk) (x:Chunk) (h:Heap w0 w (L++(R++[x]))):Heap w0 w (L++(x::R)) :=
 h.perm (List.Perm.append_left L (by
  have:=List.perm_append_comm (l₁:=[x]) (l₂:=R)
  simpa using this))
theorem Heap.freezeAll {w0 w:World} (L:List Chunk):∀ (R:List Chunk) {F:Nat→Prop} {wr:World},Heap w0 w (.frz F wr::(L++R)) →
 Heap w0 w (.frz (fun k=>F k∨∃ c ∈ R,c.has k) w::L)
 | [],F,wr,h=>by
  have h1:=h.freeze 0 rfl;simp only [List.append_nil,List.set_cons_zero] at h1;have e:(Chunk.frz F wr).has=fun k=>F k∨∃ c ∈ ([]:List Chunk),c.has k:=by funext k;simp [Chunk.has]
  rw [e] at h1;exact h1
 | c::R,F,wr,h=>by
  have h1:Heap w0 w (.frz F wr::c::(L++R)):=h.perm (by
   refine List.Perm.cons _ ?_;exact (List.perm_middle (a:=c) (l₁:=L) (l₂:=R)).symm)
  have h2:=(h1.freeze 1 rfl);have h3:=Heap.join h2;have h4:=Heap.freezeAll L R h3
  have e:(fun k=>(F k∨c.has k)∨∃ c ∈ R,c.has k)=fun k=>F k∨∃ c' ∈ c::R,c'.has k:=by
   funext k;simp [or_assoc]
  rw [e] at h4;exact h4
theorem Heap.handAll {w0 w wr:World} {L R:List Chunk} {F S0 S:Nat→Prop} (hS:Heap w0 w (.frz F wr::(L++R))) (hO:∀ k,Old w0 k→F k) (hF:∀ k,S k→F k) (hp:Pure w0 S0 wr S):Pure w0 S0 w (fun k=>S k∨∃ c ∈ R,c.has k):=by
 have h1:=hp.step hS hO hF;refine⟨h1.below,h1.drawn,fun k hk=>.inl (h1.sub k hk),fun k hk=>?_⟩
 rcases hk with hk|⟨c,hc,hk⟩
 ·exact h1.new k hk
 ·refine .inr ⟨?_,Chunk.lt (hS.ok c (by simp [hc])) hk⟩
  rcases Nat.lt_or_ge k w0.heap.size with hlt|hge
  ·exact absurd hk ((List.pairwise_cons.1 hS.apart).1 c (by simp [hc]) k (hO k hlt))
  ·exact hge
theorem putL_split {ν:Type} {l1 l2:List ((Nat × Nat) × ν)} {k:Nat × Nat} {u v:ν} (h:k ∉ l1.map (·.1)):putL (l1++(k,u)::l2) k v=l1++(k,v)::l2∧getL (l1++(k,u)::l2) k=some u:=by
 induction l1 with
 | nil=>simp [putL,getL_cons]
 | cons p l1 ih =>
  obtain⟨x,y⟩:=p;simp only [List.map_cons,List.mem_cons,not_or] at h;have hne:¬ x=k:=fun e=>h.1 e.symm
  obtain⟨i1,i2⟩:=ih h.2;simp only [List.cons_append,putL,if_neg hne,i1,getL_cons,i2];exact⟨trivial,trivial⟩
theorem putL_absent {ν:Type} {l:List ((Nat × Nat) × ν)} {k:Nat × Nat} {v:ν} (h:k ∉ l.map (·.1)):putL l k v=l++[(k,v)]∧getL l k=none:=⟨putL_new (getL_none h) v,getL_none h⟩
section
variable {P:Program} {ops:Array Oper} {Q:Exit→Act→World→Prop} {rest:List Oper} {a:Act} {w w0:World} {H:List Chunk}
variable {dst:Option Tmp} {ty T E Tb:TypeId} {pos:String} {aft:Array Edge} {x y:Operand}
theorem seq_make_nils {n:Nat} {xv:Int} (hS:Heap w0 w H) (hu:P.underlying T=some (.slice E)) (hinfo:(P.info? E).map (fun i=>(i.zero,i.size,i.bytes))=some (some (.slice none 0 0),1,24))
 (hx:a.eval x=.int .i64 xv) (hy:a.eval y=.int .i64 xv) (hxn:xv=(n:Int)) (hn:n≤65536)
 (hk:∀ b w',Heap w0 w' (H++[.blk b (.cells (List.replicate n (.slice none 0 0)).toArray E (0,0))])→wpList P ops Q rest (a.put dst (.slice (some ⟨b,0,none⟩) n n)) w') :
 wpList P ops Q (⟨dst,.makeSlice T x y,ty,pos,aft,none⟩::rest) a w:=by
 subst hxn;obtain⟨i,hi,hz,hsz,hby⟩:=info_parts hinfo;have hr:=run_make (P:=P) w T E i _ hu hi hz .i64 .i64 n n (by omega) (by omega) (by rw [hby];omega) (by omega)
 have hc:madeCells (Value.slice none 0 0).cells ((n:Int).toNat*i.size)=(List.replicate n (.slice none 0 0)).toArray:=by
  rw [hsz,Int.toNat_natCast,Nat.mul_one];apply Array.ext
  ·simp [madeCells]
  ·intro j h1 h2
   simp [madeCells,Value.cells,Nat.mod_one]
 rw [hc,Int.toNat_natCast] at hr;refine seq_heap (w':=w.alloc (.cells (List.replicate n (.slice none 0 0)).toArray E (0,0))) (v:=.slice (some ⟨w.heap.size,0,none⟩) n n) rfl ?_ (hk _ _ (hS.alloc _));simp only [execOp,hx,hy];simp [hr,go_sem]
theorem seq_store1 {vs:List Value} {b k:Nat} {u:Value} (j:Nat) (hS:Heap w0 w H) (hx:a.eval x=.pointer (some ⟨b,k,none⟩)) (hy:a.eval y=u) (hj:H[j]? = some (.blk b (.cells vs.toArray Tb (0,0))))
 (hT:∀ w,(sizeOf T).run P w=.ok 1 w) (hc:u.cells=#[u]) (h1:u.oneCell'=true) (hi:k<vs.length)
 (hk:∀ w',Heap w0 w' (H.set j (.blk b (.cells (vs.set k u).toArray Tb (0,0))))→wpList P ops Q rest (a.put dst undef) w') :
 wpList P ops Q (⟨dst,.store T x y,ty,pos,aft,none⟩::rest) a w:=by
 refine seq_store (u:=u) j hS hx hy hj (by rw [hc];exact hT) (by rw [hc];simp [h1]) (by rw [hc];simp;omega) (fun w' hS'=>hk w' ?_)
 have e:vs.set k u=vs.take k++u.cells.toList++vs.drop (k+u.cells.size):=by
  rw [hc,List.set_eq_take_append_cons_drop,if_pos hi];simp
 rw [e];exact hS'
end
end Go.Hp
namespace Go.Proofs
open Go.Proofs.Tryz
open Go.RowKit Go.Hp
theorem infoInt:(Tryz.prog.info? 3).map (fun i=>(i.zero,i.size,i.bytes))=some (some (.int .i64 0),1,8):=by kernel_rfl
theorem infoSl:(Tryz.prog.info? 31).map (fun i=>(i.zero,i.size,i.bytes))=some (some (.slice none 0 0),1,24):=by kernel_rfl
theorem keyArr:KeyOk Tryz.prog 84 pk:=by
 refine keyOk_agg underlying84 (fun k=>⟨_,rfl⟩) (fun e k w=>?_) (fun k x w=>?_) (fun k=>?_)
 ·have a3:=isAgg3
  have z3:=sizeOf3;have hin:∀ (n:Nat) (a:Int) (w:World),(Instr.checkKey e (n+1) 3 (.int .i64 a)).run Tryz.prog w=.ok () w:=fun n a w=>MapKept.run_checkKey (k:=.int .i64 a) underlying3 (show IntKind.i64=IntKind.i64 from rfl) e n
  rw [show (10000:Nat)=9998+1+1 from rfl,Instr.checkKey];simp only [pk];generalize 9998=n;simp [run_underlying underlying84,part,a3,z3,hin];simp [List.range',a3,z3,hin]
 ·have u3:=underlying3
  have a3:=isAgg3;have z3:=sizeOf3;obtain⟨i,hi,_⟩:=info_parts infoInt;have hc:Tryz.prog.cellsOf 3=1:=by kernel_rfl
  unfold Op.equal;simp only [pk];rw [show Op.maxDepth=9998+1+1 from rfl,run_equalIn_array w (9998+1) _ _ underlying84 hi,hc]
  have hcell:∀ (a b:Int),(Op.equalIn (9998+1) 3 (.int .i64 a) (.int .i64 b)).run Tryz.prog w=.ok (decide (a=b)) w:=fun a b=>by
   have:=run_equalIn_int (P:=Tryz.prog) w 9998 3 .i64 .i64 a b underlying3;rw [this]
   by_cases h:a=b <;> simp [h]
  generalize 9998=n at hcell;rw [show List.range 2=[0,1] from rfl];simp only [Op.eqItems];simp [part,a3,z3,hcell,hc]
  by_cases h1:k.fst=x.fst <;> by_cases h2:k.snd=x.snd <;> simp [h1,h2,Prod.ext_iff]
  all_goals first|omega
 ·rw [show (10000:Nat)=9999+1 from rfl]
  simp [pk,Instr.sameBits]
theorem pk_inj {x y:Nat × Nat} (h:pk x=pk y):x=y:=by
 obtain⟨a,b⟩:=x;obtain⟨c,d⟩:=y;simp [pk] at h
 ext <;> simp <;> omega
theorem compactP_at {w0 wr w:World} {F S:Nat→Prop} {A:List Chunk} {ad:Option Addr} {n c:Nat} {prs:List PR} {l:List Pt}
 (hS:Heap w0 w (.frz F wr::(A++[.row (.slice ad n c) 56 8 n (prs.flatMap pc)]))) (hF:∀ k,S k→F k) (hps:IsPs wr S prs l) (hs:l.Pairwise Pt.le) (hn:n≤1000000) :
 Calls Tryz.prog 73 #[.slice ad n c,.func (.func 74) #[] #[]] w fun e w'=>∃ n' prs' l',e=.returned (.slice ad n' c)∧Heap w0 w' (.frz F wr::(A++[.row (.slice ad n' c) 56 8 n' (prs'.flatMap pc)]))∧IsPs wr S prs' l'∧l'.Pairwise Pt.lt∧(∀ x,x ∈ l'↔x ∈ l)∧n'≤n:=by
 have hsp:=Heap.split (A:=.frz F wr::A) hS;refine (compactP_any ad n c prs l _ S w hsp (fun k hk=>Rest.of hS (hF k hk)) (hps.at hS hF) hs hn).mono ?_;rintro e w' ⟨n',prs',l',rfl,hS',h1,h2,h3⟩;have hS2:=Heap.unsplit (A:=.frz F wr::A) hS hS'
 exact⟨n',prs',l',rfl,hS2,h1.move (fun k hk=>by
  rw [← hS2.keep hF k hk];have:=(hS'.ok (.frz _ w) (by simp) k (Rest.of hS (hF k hk))).2;exact this),h2,h3⟩
end Go.Proofs
