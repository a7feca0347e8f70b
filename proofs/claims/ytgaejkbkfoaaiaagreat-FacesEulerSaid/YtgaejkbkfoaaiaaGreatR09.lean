/- Texts for the walk of the law: E12 GD E13 E14 E15 E15b E15c E15d E16. -/
import Derived.DeepKeys
import Derived.Test.YtgaejkbkfoaaiaaGreatR08
set_option maxRecDepth 100000
set_option maxHeartbeats 16000000
set_option linter.unusedVariables false
set_option linter.unusedSimpArgs false
namespace Go.Hp
open Go Go.RowKit Go.Proofs.Tryz
theorem aPB (p q:PR) (a b:Pt) (w:World) (S:Nat→Prop) (hp:dh w S p a) (hq:dh w S q b) (hL:aP w S) :
 Calls prog 50 #[.agg #[.bool p.x.num.neg,.slice p.x.num.ad p.x.num.n p.x.num.cap,.bool p.x.less.neg,.slice p.x.less.ad p.x.less.n p.x.less.cap,.bool p.y.num.neg,.slice p.y.num.ad p.y.num.n p.y.num.cap,.bool p.y.less.neg,.slice p.y.less.ad p.y.less.n p.y.less.cap],.agg #[.bool q.x.num.neg,.slice q.x.num.ad q.x.num.n q.x.num.cap,.bool q.x.less.neg,.slice q.x.less.ad q.x.less.n q.x.less.cap,.bool q.y.num.neg,.slice q.y.num.ad q.y.num.n q.y.num.cap,.bool q.y.less.neg,.slice q.y.less.ad q.y.less.n q.y.less.cap]] w fun e w'=>e=.returned (.bool (decide (a=b)))∧Pure w S w' S:=by
 have hc:=fun w' (hp:dh w' S p a) hq hL=>a3H p q a b w' S hp hq hL
 have heq:=@aDd a b;obtain⟨d,hd⟩:∃ d,mW a b=d:=⟨_,rfl⟩;rw [hd] at heq;simp only [hd] at hc
 have fT:(d == 0)=decide (a=b):=by
  by_cases h:a=b
  ·simp [heq.2 h,h]
  ·simp [h,mt heq.1 h]
 obtain⟨r,hr⟩:∃ r,decide (a=b)=r:=⟨_,rfl⟩;rw [hr] at fT ⊢;replace hr:=Hd hr;clear heq hd;obtain⟨hS,aC,bC,bD⟩:=eR hL
 go_enter func50,ntmps50
 go_wp2_with (with_reducible first|refine cI hS fun bx cu hS=>?_|refine bA 1 hS isAgg55 sizeOf55 ?_|refine bA 2 hS isAgg55 sizeOf55 ?_)
 refine (hc _ (hp.at hS aC) (hq.at hS aC) (aP.at hS aC)).mono ?_;rintro e w' ⟨rfl,az⟩;replace hS:=hS.aj aC bC bD az;obtain⟨F1,aG,-,bB,av,hS⟩:=hS;simp only [];go_wp2;go_ret;exact⟨rfl,bB.step hS av aG⟩
theorem aNC (ad:Option Addr) (n c:Nat) (prs:List PR) (l:List Pt) (F S:Nat→Prop) (w:World) (hS:aA w w [.aH F w,.row (.slice ad n c) 55 8 n (prs.flatMap pc)]) (hF:∀ k,S k→F k) (dL:ez w S prs l) (hs:l.Pairwise Pt.le) (hn:n≤1000000) :
 Calls prog 49 #[.slice ad n c,.func (.func 50) #[] #[]] w fun e w'=>∃ n' nJ l',e=.returned (.slice ad n' c)∧aA w w' [.aH F w,.row (.slice ad n' c) 55 8 n' (nJ.flatMap pc)]∧ez w S nJ l'∧l'.Pairwise Pt.lt∧(∀ x,x ∈ l'↔x ∈ l)∧n'≤n:=by
 have jP:prs.length=n:=by
  have:=(hS.dn 1 rfl).1;rw [nB gF] at this;omega
 have fQ:l.length=n:=by rw [← dL.len,jP]
 have mm:=hS.aGI 1 rfl
 by_cases fx:n<2
 ·have hd:decide ((n:Int)<2)=true:=by simp;omega
  have cA:l.Pairwise Pt.lt:=by
   match l,fQ with
   | [],_=>exact List.Pairwise.nil
   | [x],_=>exact List.pairwise_singleton _ _
   | _::_::_,h=>simp at h;omega
  replace dL:=Hd dL;replace hs:=Hd hs;clear jP fQ
  go_enter func49,ntmps49
  go_wp2;go_ret;exact⟨n,prs,l,rfl,hS,dL.out,cA,fun x=>Iff.rfl,Nat.le_refl _⟩
 ·have hd:decide ((n:Int)<2)=false:=by simp;omega
  obtain⟨g,cur,rfl,-,fg,hcs,-,eK,cK⟩:=hS.aCF 1 rfl (by omega);clear hS;have hS:=cK;clear cK;simp only [aK] at hS;obtain⟨z,hz⟩:∃ z,z=cur.toList.drop (n*8):=⟨_,rfl⟩;obtain⟨D,hD⟩:∃ D,D=(prs.flatMap pc++z).toArray:=⟨_,rfl⟩
  have hcz:cur=(prs.flatMap pc++z).toArray:=by
   rw [← eK,hz,List.take_append_drop]
  have hzl:z.length=(c - n)*8:=by rw [hz,List.length_drop,Array.length_toList,hcs,Nat.sub_mul]
  have dK:(c - n)*8+n*8=c*8:=by rw [← Nat.add_mul];congr 1;omega
  subst hcz;clear hz eK hcs hD D
  have dJ:∀ qs:List PR,qs.length=n→(qs.flatMap pc++z).toArray.size=c*8:=fun qs hq=>by
   rw [List.size_toArray,List.length_append,nB gF,hq];omega
  replace hs:=Hd hs;have sm:=fun p q a b w' hp hq hL=>aPB p q a b w' S hp hq hL
  go_enter func49,ntmps49
  go_wp2
  go_loopw [5] (fun v wr=>∃ k:Nat,v=.int .i64 (k:Int)∧1≤k∧k≤n∧aA w wr [.aH F w,.aB g (.cells (prs.flatMap pc++z).toArray 55 (0,0))]∧(l.take k).Pairwise Pt.lt) (fun v _=>n - (intOf v).toNat)
  case atStart=>exact⟨1,rfl,by omega,by omega,hS,by
   match l,fQ with
   | [],h=>exact List.Pairwise.nil
   | x::l',_=>exact List.pairwise_singleton _ _⟩
  case round =>
   clear hS;obtain⟨k,rfl,fm,hkn,hS,cA⟩:=hrel;replace cA:=Hd cA
   by_cases cW:k<n
   ·have nT:IntKind.i64.wrap ((k:Int) - 1)=((k - 1:Nat):Int):=w7
    have c1:=aAo (z:=z) (show k<prs.length by omega);have c2:=aAo (z:=z) (show k - 1<prs.length by omega);have b1:k*8+8≤(prs.flatMap pc++z).toArray.size:=by rw [List.size_toArray,List.length_append,nB gF];omega
    have b2:(k - 1)*8+8≤(prs.flatMap pc++z).toArray.size:=by rw [List.size_toArray,List.length_append,nB gF];omega
    have i1:=dL.el k (by omega);have i2:=dL.el (k - 1) (by omega);have sZ:=fun h=>aQ6 hs.out fm (by omega) cA.out h
    have sF:=fun h=>uH.start fm (by omega) cA.out h
    obtain⟨m1,e1⟩:∃ m1,nth p0 prs k=m1:=⟨_,rfl⟩;obtain⟨m2,e2⟩:∃ m2,nth p0 prs (k - 1)=m2:=⟨_,rfl⟩;obtain⟨y1,f1⟩:∃ y1,nth au l k=y1:=⟨_,rfl⟩;obtain⟨y2,f2⟩:∃ y2,nth au l (k - 1)=y2:=⟨_,rfl⟩;rw [e1] at c1;rw [e2] at c2;rw [e1,f1] at i1;rw [e2,f2] at i2;rw [f1,f2] at sZ sF;clear e1 e2 f1 f2;replace sZ:=Hd sZ;replace sF:=Hd sF;go_wp2;refine dB [.p 0,.p 1,.p 2,.p 3,.r 4,.p 5,.p 6,.p 7,.p 8,.r 9,.e 10] [] hS fun w1 hS=>?_
    have hC:=hS
    repeat (first|((with_reducible refine kM ?_);refine j3 rfl rfl (yZ (T:=25) underlying25 sizeOf55 rfl rfl (by omega) (by omega) ?_);simp only [aD];try simp only [Nat.zero_add,Int.toNat_natCast])|((with_reducible refine l8 ?_);refine jh rfl rfl (a5S (T:=55) 1 isAgg55 sizeOf55 rfl rfl b1 c1 ?_);simp only [aD])|((with_reducible refine l8 ?_);refine jh rfl rfl (a5S (T:=55) 1 isAgg55 sizeOf55 rfl rfl b2 c2 ?_);simp only [aD])|(with_reducible refine bU ?_))
    clear b1 b2 c1 c2;refine aZ ?_
    go_wp2_with (fail)
    refine (sm m1 m2 y1 y2 _ (i1.at hS hF) (i2.at hS hF) (aP.at hS hF)).mono ?_;rintro e w' ⟨rfl,hq⟩;simp only [];go_step;clear i1 i2
    by_cases hy:y1=y2
    ·have eo:decide (y1=y2)=true:=by simpa using hy
     have fg:=sF.out hy;clear sZ sF hy;rw [eo];clear eo;have hS:=hS.below hq.below hq.drawn;have hC:=hC.below hq.below hq.drawn;refine aX hC ?_;refine aM ?_;refine bE ?_;clear hC;have hrf:∀ (i c2:Nat),i<l.length→True:=fun _ _ _=>trivial
     clear hrf;have mM:IntKind.i64.wrap ((n:Int) - (k:Int))=((n - k:Nat):Int):=w7;have hkc:¬ c=k:=by omega
     have eK:((k:Int)).toNat=k:=by omega
     go_wp2_with (first|((with_reducible refine tD (T:=25) ?_);refine ck rfl (zY (T:=25) (j:=k) underlying25 sizeOf55 rfl rfl (by omega) (by omega) (by omega) ?_);simp only [aD];simp only [Nat.zero_add]))
     go_loopw [5,7] (fun v5 v7 wr=>∃ (K j:Nat) (qs:List PR) (ls:List Pt),v5=.int .i64 (K:Int)∧v7=.int .i64 (j:Int)∧1≤j∧uH l ls K (k+j)∧ez w S qs ls∧aA w wr [.aH F w,.aB g (.cells (qs.flatMap pc++z).toArray 55 (0,0))]) (fun v5 v7 _=>n - k - (intOf v7).toNat)
     case atStart=>exact⟨k,1,prs,l,rfl,rfl,by omega,fg,dL,hS⟩
     case round =>
      clear hS fg dL cA;obtain⟨K,j,qs,ls,rfl,rfl,hj1,uY,dL,hS⟩:=hrel;have fq:=uY.len;have uJ:=dL.len;have dg:=uY.lo;have jU:=uY.hi;have jY:=uY.ml;have hsq:=dJ qs (by omega);replace uY:=Hd uY
      by_cases hjn:j<n - k
      ·have nT:IntKind.i64.wrap ((j:Int) - 1)=((j - 1:Nat):Int):=w7
       have hjt:decide ((j:Int)<((n - k:Nat):Int))=true:=by simp;omega
       have c1:((qs.flatMap pc++z).drop (k*8+j*8)).take 8=pc (nth p0 qs (k+j)):=by rw [← Nat.add_mul];exact aAo (by omega)
       have c2:((qs.flatMap pc++z).drop (k*8+(j - 1)*8)).take 8=pc (nth p0 qs (k+j - 1)):=by rw [← Nat.add_mul,show k+(j - 1)=k+j - 1 by omega];exact aAo (by omega)
       have b1:k*8+j*8+8≤(qs.flatMap pc++z).toArray.size:=by omega
       have b2:k*8+(j - 1)*8+8≤(qs.flatMap pc++z).toArray.size:=by omega
       have i1:=dL.el (k+j) (by omega);have i2:=dL.el (k+j - 1) (by omega);have sZ:=fun h=>uH.take uY.out hs.out (by omega) h
       have sF:=fun h=>uH.skip uY.out (by omega) h
       obtain⟨m1,e1⟩:∃ m1,nth p0 qs (k+j)=m1:=⟨_,rfl⟩;obtain⟨m2,e2⟩:∃ m2,nth p0 qs (k+j - 1)=m2:=⟨_,rfl⟩;obtain⟨y1,f1⟩:∃ y1,nth au ls (k+j)=y1:=⟨_,rfl⟩;obtain⟨y2,f2⟩:∃ y2,nth au ls (k+j - 1)=y2:=⟨_,rfl⟩;rw [e1] at c1;rw [e2] at c2;rw [e1,f1] at i1;rw [e2,f2] at i2;rw [f1,f2] at sZ sF;have iF:=dL.set (i:=K) i1 (by omega);clear e1 e2 f1 f2;replace sZ:=Hd sZ;replace sF:=Hd sF;replace iF:=Hd iF;go_wp2;refine dB [.p 0,.p 1,.p 2,.p 3,.r 4,.p 5,.p 6,.p 7,.p 8,.r 9,.e 10,.p 11] [] hS fun w1 hS=>?_
       have hC:=hS
       repeat (first|((with_reducible refine kM ?_);refine j3 rfl rfl (yZ (T:=25) underlying25 sizeOf55 rfl rfl (by omega) (by omega) ?_);simp only [aD];try simp only [Nat.zero_add,Int.toNat_natCast])|((with_reducible refine l8 ?_);refine jh rfl rfl (a5S (T:=55) 1 isAgg55 sizeOf55 rfl rfl b1 c1 ?_);simp only [aD])|((with_reducible refine l8 ?_);refine jh rfl rfl (a5S (T:=55) 1 isAgg55 sizeOf55 rfl rfl b2 c2 ?_);simp only [aD])|(with_reducible refine bU ?_))
       clear b2 c2;refine aZ ?_
       go_wp2_with (fail)
       refine (sm m1 m2 y1 y2 _ (i1.at hS hF) (i2.at hS hF) (aP.at hS hF)).mono ?_;rintro e w' ⟨rfl,hq⟩;simp only [];go_step;clear i1 i2
       by_cases hy:y1=y2
       ·have eo:decide (y1=y2)=true:=by simpa using hy
        have a0l:=sF.out hy;clear sZ sF hy iF;rw [eo];clear eo;have hS:=hS.below hq.below hq.drawn;have hC:=hC.below hq.below hq.drawn;refine aX hC ?_;refine aM ?_;refine bE ?_;clear hC;replace a0l:=Hd a0l;go_wp2;go_roundw
        case rel=>exact⟨K,j+1,qs,ls,rfl,by simp,by omega,a0l.out,dL,hS⟩
        case measure=>simp [intOf];omega
       ·have eo:decide (y1=y2)=false:=by simpa using hy
        have a0l:=sZ.out hy;clear sZ sF hy;rw [eo];clear eo;have hS:=hS.below hq.below hq.drawn;have hC:=hC.below hq.below hq.drawn;refine aX hC ?_;refine aM ?_;refine bE ?_;clear hC;replace a0l:=Hd a0l
        go_wp2_with (first|((with_reducible refine du (T:=25) ?_);refine ck rfl (yZ (T:=25) underlying25 sizeOf55 rfl rfl (by omega) (by omega) ?_);simp only [aD];try simp only [Nat.zero_add,Int.toNat_natCast])|((with_reducible refine dq (T:=55) ?_);refine dI hS rfl (a5S (T:=55) 1 isAgg55 sizeOf55 rfl rfl b1 c1 ?_);simp only [aD])|((with_reducible refine gK (T:=55) ?_);refine aOP (T:=55) (k:=K) 1 hS rfl rfl rfl sizeOf55 (by omega) (fun _ hS=>?_);simp only [aD];simp only [aK] at hS))
        go_roundw
        case rel=>exact⟨K+1,j+1,_,_,by simp,by simp,by omega,a0l.out,iF.out,hS⟩
        case measure=>simp [intOf];omega
      ·obtain rfl:j=n - k:=by omega
       have aVr:k+(n - k)=n:=by omega
       have j0:=uY.out.mem;have aEl:=uY.out.sorted;rw [aVr,List.take_of_length_le (show l.length≤n by omega)] at j0;replace j0:=Hd j0;replace aEl:=Hd aEl;clear uY;have hKn:K<n:=by omega
       have hKc:K<c:=by omega
       have hzv:=hsq
       go_wp2_with (first|((with_reducible refine tD (T:=25) ?_);refine ck rfl (zY (T:=25) (j:=K) underlying25 sizeOf55 rfl rfl (by omega) (by omega) (by omega) ?_);simp only [aD];simp only [Nat.zero_add])|((with_reducible refine aRv ?_);refine aUG (n:=n - K) (k:=8) (c:=c - K) (o:=K*8) (g:=g) 1 hS underlying25 zeroValue55 rfl (by decide) (by decide) (by omega) rfl rfl (by rw [hsq,← Nat.add_mul];exact Nat.mul_le_mul_right 8 (by omega)) (fun _ arr a9Z eK hS=>?_);simp only [aD];simp only [aK] at hS))
       go_ret;have dp:=nB gF qs
       have tm:arr.toList.take (K*8)=(qs.take K).flatMap pc:=by
        rw [eK];show (qs.flatMap pc++z).take (K*8)=_;rw [List.take_append_of_le_length (by omega),a29 gF]
       have hS:=hS.a4d (c:=c) (n:=K) (k:=8) 1 rfl (a9Z.trans hsq) (by omega) fg;simp only [aK] at hS;rw [tm] at hS;exact⟨K,rfl,qs.take K,hS,ls.take K,dL.take K,aEl.out,j0.out,Nat.le_of_lt hKn⟩
    ·have eo:decide (y1=y2)=false:=by simpa using hy
     have qB:=sZ.out hy;clear sZ sF hy;rw [eo];clear eo;have hS:=hS.below hq.below hq.drawn;have hC:=hC.below hq.below hq.drawn;refine aX hC ?_;refine aM ?_;refine bE ?_;clear hC;replace qB:=Hd qB;go_wp2;go_roundw
     case rel=>exact⟨k+1,rfl,by omega,by omega,hS,qB.out⟩
     case measure=>simp [intOf];omega
   ·obtain rfl:k=n:=by omega
    have qB:l.Pairwise Pt.lt:=by have:=cA.out;rwa [List.take_of_length_le (by omega)] at this
    replace qB:=Hd qB;go_wp2;go_ret;have hS:=hS.a4d (c:=c) (n:=k) (k:=8) 1 rfl (dJ prs jP) mm fg;simp only [aK] at hS;rw [List.take_append_of_le_length (by rw [nB gF];omega),List.take_of_length_le (by rw [nB gF];omega)] at hS;exact⟨k,prs,l,rfl,hS,dL,qB.out,fun x=>Iff.rfl,Nat.le_refl _⟩
theorem aI8 {ss:List Sg} {ps:List Pt} (p:Pt):mB ss ps p↔p ∈ ps∨∃ i s,ss[i]? = some s∧vt ss ps i s p:=by
 constructor
 ·rintro (h|⟨s,hs,h⟩|⟨i,j,s,t,fe,hi,hj,hc⟩)
  ·exact .inl h
  ·obtain⟨i,hi⟩:=List.mem_iff_getElem?.1 hs
   refine .inr ⟨i,s,hi,?_⟩
   rcases h with h|h
   ·exact .inl h
   ·exact .inr (.inl h)
  ·exact .inr ⟨i,s,hi,.inr (.inr (.inl ⟨j,t,fun e=>fe e.symm,hj,hc⟩))⟩
 ·rintro (h|⟨i,s,hi,h|h|⟨j,t,lL,hj,hc⟩|⟨h,_⟩⟩)
  ·exact .inl h
  ·exact .inr (.inl ⟨s,bW hi,.inl h⟩)
  ·exact .inr (.inl ⟨s,bW hi,.inr h⟩)
  ·exact .inr (.inr ⟨i,j,s,t,fun e=>lL e.symm,hi,hj,hc⟩)
  ·exact .inl h
theorem qG.aMY {ss:List Sg} {ps:List Pt} {parts:List (List Pt)} {V:List Pt} {E:List (Nat × Nat)} (bJ:∀ s ∈ ss,s.a≠s.b) (hlen:parts.length=ss.length)
 (qW:∀ l ∈ parts,l.Pairwise Pt.lt) (hp:∀ (i:Nat) s l,ss[i]? = some s→parts[i]? = some l→∀ p,p ∈ l↔vt ss ps i s p) (hVs:V.Pairwise Pt.lt) (hV:∀ p,p ∈ V↔p ∈ ps∨∃ l ∈ parts,p ∈ l)
 (jf:E.Pairwise mY) (hE:∀ u v,(u,v) ∈ E↔∃ l ∈ parts,∃ k p q,l[k]? = some p∧l[k+1]? = some q∧V[u]? = some p∧V[v]? = some q):qG ss ps V E∧∀ (i:Nat) s l,ss[i]? = some s→parts[i]? = some l→∀ p,p ∈ l↔p ∈ V∧cj s p:=by
 have aJP:∀ p,p ∈ V↔mB ss ps p:=by
  intro p;rw [hV,aI8]
  constructor
  ·rintro (h|⟨l,hl,h⟩)
   ·exact .inl h
   ·obtain⟨i,hi⟩:=List.mem_iff_getElem?.1 hl
    have dj:=(List.getElem?_eq_some_iff.1 hi).1;obtain⟨s,hs⟩:∃ s,ss[i]? = some s:=⟨_,List.getElem?_eq_getElem (by omega)⟩;exact .inr ⟨i,s,hs,(hp i s l hs hi p).1 h⟩
  ·rintro (h|⟨i,s,hs,h⟩)
   ·exact .inl h
   ·have dj:=(List.getElem?_eq_some_iff.1 hs).1
    obtain⟨l,hl⟩:∃ l,parts[i]? = some l:=⟨_,List.getElem?_eq_getElem (by omega)⟩;exact .inr ⟨l,bW hl,(hp i s l hs hl p).2 h⟩
 have aBo:∀ (i:Nat) s l,ss[i]? = some s→parts[i]? = some l→∀ p,p ∈ l↔p ∈ V∧cj s p:=by
  intro i s l hs hl p;rw [hp i s l hs hl p,aVh hs bJ,aJP]
 refine⟨⟨hVs,aJP,jf,fun u v=>?_⟩,aBo⟩;rw [hE]
 constructor
 ·rintro⟨l,hl,h⟩
  obtain⟨i,hi⟩:=List.mem_iff_getElem?.1 hl;have dj:=(List.getElem?_eq_some_iff.1 hi).1;obtain⟨s,hs⟩:∃ s,ss[i]? = some s:=⟨_,List.getElem?_eq_getElem (by omega)⟩;exact⟨s,bW hs,(a6X hVs (qW l hl) (aBo i s l hs hi) u v).2 h⟩
 ·rintro⟨s,hs,h⟩
  obtain⟨i,hi⟩:=List.mem_iff_getElem?.1 hs;have dj:=(List.getElem?_eq_some_iff.1 hi).1;obtain⟨l,hl⟩:∃ l,parts[i]? = some l:=⟨_,List.getElem?_eq_getElem (by omega)⟩;exact⟨l,bW hl,(a6X hVs (qW l (bW hl)) (aBo i s l hi hl) u v).1 h⟩
theorem aKC {α:Type} {l:List α} {i:Nat} {t:α}:t ∈ l.take i++l.drop (i+1)↔∃ j,j≠i∧l[j]? = some t:=by
 rw [List.mem_append]
 constructor
 ·rintro (h|h)
  ·obtain⟨j,hj⟩:=List.mem_iff_getElem?.1 h
   rw [List.getElem?_take] at hj
   split at hj
   ·rename_i aW;exact⟨j,by omega,hj⟩
   ·cases hj
  ·obtain⟨j,hj⟩:=List.mem_iff_getElem?.1 h
   rw [List.getElem?_drop] at hj;exact⟨i+1+j,by omega,hj⟩
 ·rintro⟨j,bJ,hj⟩
  rcases Nat.lt_or_ge j i with h|h
  ·exact .inl (List.mem_iff_getElem?.2 ⟨j,by rw [List.getElem?_take,if_pos h];exact hj⟩)
  ·exact .inr (List.mem_iff_getElem?.2 ⟨j - (i+1),by rw [List.getElem?_drop,show i+1+(j - (i+1))=j by omega];exact hj⟩)
theorem aUR {ss:List Sg} {ps:List Pt} {i:Nat} {s:Sg} (hi:ss[i]? = some s) (bJ:∀ s ∈ ss,s.a≠s.b) (x:Pt) :
 vt ss ps i s x↔x=s.a∨x=s.b∨(∃ t ∈ ss.take i++ss.drop (i+1),x ∈ rT s t)∨(x ∈ ps∧cj s x):=by
 have hs:=bJ s (bW hi);unfold vt
 constructor
 ·rintro (h|h|⟨j,t,lL,hj,hc⟩|h)
  ·exact .inl h
  ·exact .inr (.inl h)
  ·exact .inr (.inr (.inl ⟨t,aKC.2 ⟨j,lL,hj⟩,(aGq hs (bJ t (bW hj)) x).2 hc⟩))
  ·exact .inr (.inr (.inr h))
 ·rintro (h|h|⟨t,ht,hm⟩|h)
  ·exact .inl h
  ·exact .inr (.inl h)
  ·obtain⟨j,lL,hj⟩:=aKC.1 ht
   exact .inr (.inr (.inl ⟨j,t,lL,hj,(aGq hs (bJ t (bW hj)) x).1 hm⟩))
  ·exact .inr (.inr (.inr h))
def pk (p:Nat × Nat):Value:=.agg #[.int .i64 p.1,.int .i64 p.2]
abbrev Step:=Nat × (Nat × Nat)
structure uq (tr:List Step) (G:List ((Nat × Nat) × List Nat)):Prop where
 nd:(G.map (·.1)).Nodup
 val:∀ k l,(k,l) ∈ G→l=(tr.filter (fun t=>decide (t.2=k))).map (·.1)
 key:∀ k,k ∈ G.map (·.1)↔∃ t ∈ tr,t.2=k
theorem aCW {ν:Type} {l:List ((Nat × Nat) × ν)} (h:(l.map (·.1)).Nodup) (k:Nat × Nat) (v:ν):((fV l k v).map (·.1)).Nodup:=by
 induction l with
 | nil=>simp [fV]
 | cons p l ih =>
  obtain⟨x,u⟩:=p;simp only [List.map_cons,List.nodup_cons] at h;simp only [fV]
  split
  ·rename_i e;subst e;simpa using h
  ·rename_i e
   simp only [List.map_cons,List.nodup_cons];refine⟨fun hm=>?_,ih h.2⟩
   rcases (a7q l k v x).1 hm with e2|e2
   ·exact e e2
   ·exact h.1 e2
theorem aJV {ν:Type} {l:List ((Nat × Nat) × ν)} (h:(l.map (·.1)).Nodup) {k x:Nat × Nat} {v u:ν}:(x,u) ∈ fV l k v↔(x=k∧u=v)∨(x≠k∧(x,u) ∈ l):=by
 constructor
 ·intro hm
  have:=a4C (aCW h k v) hm;rw [a1y] at this
  by_cases e:k=x
  ·subst e;rw [if_pos rfl] at this;cases this;exact .inl ⟨rfl,rfl⟩
  ·rw [if_neg e] at this;exact .inr ⟨fun e2=>e e2.symm,a6u this⟩
 ·rintro (⟨rfl,rfl⟩|⟨bJ,hm⟩)
  ·exact a6u (by rw [a1y,if_pos rfl])
  ·exact a6u (by rw [a1y,if_neg (fun e=>bJ e.symm)];exact a4C h hm)
theorem uq.nil:uq [] []:=⟨by simp,by simp,by simp⟩
theorem uq.bj {tr:List Step} {G:List ((Nat × Nat) × List Nat)} (h:uq tr G) (k:Nat × Nat):(eZ G k).getD []=(tr.filter (fun t=>decide (t.2=k))).map (·.1):=by
 cases hg:eZ G k with
 | some l=>exact h.val k l (a6u hg)
 | none =>
  have hk:k ∉ G.map (·.1):=fun hm=>by
   obtain⟨⟨x,u⟩,gv,rfl⟩:=List.mem_map.1 hm;rw [a4C h.nd gv] at hg;cases hg
  have hf:tr.filter (fun t=>decide (t.2=k))=[]:=by
   rw [List.filter_eq_nil_iff];intro t ht;simp only [decide_eq_true_eq];exact fun e=>hk ((h.key k).2 ⟨t,ht,e⟩)
  rw [hf];rfl
theorem uq.step {tr:List Step} {G:List ((Nat × Nat) × List Nat)} (h:uq tr G) (i:Nat) (k:Nat × Nat):uq (tr++[(i,k)]) (fV G k ((eZ G k).getD []++[i])):=by
 refine⟨aCW h.nd _ _,fun x l hm=>?_,fun x=>?_⟩
 ·rcases (aJV h.nd).1 hm with ⟨rfl,rfl⟩|⟨bJ,gv⟩
  ·rw [h.bj,List.filter_append,List.map_append];simp
  ·rw [h.val x l gv,List.filter_append,List.map_append]
   have:¬ k=x:=fun e=>bJ e.symm
   simp [this]
 ·rw [a7q,h.key]
  simp only [List.mem_append,List.mem_singleton]
  constructor
  ·rintro (rfl|⟨t,ht,e⟩)
   ·exact⟨(i,x),.inr rfl,rfl⟩
   ·exact⟨t,.inl ht,e⟩
  ·rintro⟨t,ht|rfl,e⟩
   ·exact .inr ⟨t,ht,e⟩
   ·exact .inl e.symm
structure xb {ν:Type} (f:Nat→ν) (tr:List Step) (D:List ((Nat × Nat) × ν)):Prop where
 nd:(D.map (·.1)).Nodup
 val:∀ k d,(k,d) ∈ D→∃ t ∈ tr,t.2=k∧d=f t.1
 key:∀ k,k ∈ D.map (·.1)↔∃ t ∈ tr,t.2=k
theorem xb.nil {ν:Type} (f:Nat→ν):xb f [] []:=⟨by simp,by simp,by simp⟩
theorem xb.step {ν:Type} {f:Nat→ν} {tr:List Step} {D:List ((Nat × Nat) × ν)} (h:xb f tr D) (i:Nat) (k:Nat × Nat):xb f (tr++[(i,k)]) (fV D k (f i)):=by
 refine⟨aCW h.nd _ _,fun x d hm=>?_,fun x=>?_⟩
 ·rcases (aJV h.nd).1 hm with ⟨rfl,rfl⟩|⟨bJ,gv⟩
  ·exact⟨(i,x),by simp,rfl,rfl⟩
  ·obtain⟨t,ht,e⟩:=h.val x d gv
   exact⟨t,by simp [ht],e⟩
 ·rw [a7q,h.key]
  simp only [List.mem_append,List.mem_singleton]
  constructor
  ·rintro (rfl|⟨t,ht,e⟩)
   ·exact⟨(i,x),.inr rfl,rfl⟩
   ·exact⟨t,.inl ht,e⟩
  ·rintro⟨t,ht|rfl,e⟩
   ·exact .inr ⟨t,ht,e⟩
   ·exact .inl e.symm
structure rC (V:List Pt) (pp:List (List Pt)) (i k:Nat) (tr:List Step):Prop where
 mem:∀ j u v,(j,(u,v)) ∈ tr↔∃ q,(j<i∨(j=i∧q+1<k))∧∃ l a b,pp[j]? = some l∧l[q]? = some a∧l[q+1]? = some b∧V[u]? = some a∧V[v]? = some b
 ord:tr.Pairwise (fun s t=>s.1<t.1∨(s.1=t.1∧s.2≠t.2))
theorem rC.nil (V:List Pt) (pp:List (List Pt)):rC V pp 0 1 []:=⟨fun j u v=>by simp,List.Pairwise.nil⟩
theorem rC.next {V:List Pt} {pp:List (List Pt)} {i k:Nat} {tr:List Step} {l:List Pt} (h:rC V pp i k tr) (hl:pp[i]? = some l) (hk:l.length≤k):rC V pp (i+1) 1 tr:=by
 refine⟨fun j u v=>?_,h.ord⟩;rw [h.mem]
 constructor
 ·rintro⟨q,hq,l',a,b,h1,h2,h3,h4⟩
  exact⟨q,by omega,l',a,b,h1,h2,h3,h4⟩
 ·rintro⟨q,hq,l',a,b,h1,h2,h3,h4⟩
  refine⟨q,?_,l',a,b,h1,h2,h3,h4⟩
  rcases Nat.lt_or_ge j i with h5|h5
  ·exact .inl h5
  ·have:j=i:=by omega
   subst this;rw [hl] at h1;cases h1;have:=(List.getElem?_eq_some_iff.1 h3).1;exact .inr ⟨rfl,by omega⟩
theorem aCP {V:List Pt} (hV:V.Pairwise Pt.lt) {u v:Nat} {p:Pt} (h1:V[u]? = some p) (h2:V[v]? = some p):u=v:=by
 obtain⟨a1,a2⟩:=List.getElem?_eq_some_iff.1 h1;obtain⟨b1,b2⟩:=List.getElem?_eq_some_iff.1 h2
 rcases Nat.lt_trichotomy u v with h|h|h
 ·have:=List.pairwise_iff_getElem.1 hV u v a1 b1 h
  rw [a2,b2] at this;exact absurd this (Pt.lt_irrefl _)
 ·exact h
 ·have:=List.pairwise_iff_getElem.1 hV v u b1 a1 h
  rw [a2,b2] at this;exact absurd this (Pt.lt_irrefl _)
theorem rC.step {V:List Pt} {pp:List (List Pt)} {i q u v:Nat} {tr:List Step} {l:List Pt} {a b:Pt} (hV:V.Pairwise Pt.lt) (h:rC V pp i (q+1) tr) (hl:pp[i]? = some l) (fq:l.Pairwise Pt.lt) (ha:l[q]? = some a) (hb:l[q+1]? = some b) (hu:V[u]? = some a) (hv:V[v]? = some b):rC V pp i (q+2) (tr++[(i,(u,v))]):=by
 refine⟨fun j x y=>?_,?_⟩
 ·rw [List.mem_append,h.mem,List.mem_singleton]
  constructor
  ·rintro (⟨r,hr,l',a',b',h1,h2⟩|h1)
   ·exact⟨r,by omega,l',a',b',h1,h2⟩
   ·simp only [Prod.mk.injEq] at h1
    obtain⟨rfl,rfl,rfl⟩:=h1;exact⟨q,.inr ⟨rfl,by omega⟩,l,a,b,hl,ha,hb,hu,hv⟩
  ·rintro⟨r,hr,l',a',b',h1,h2,h3,h4,h5⟩
   by_cases hjr:j=i∧r=q
   ·obtain⟨rfl,rfl⟩:=hjr
    rw [hl] at h1;cases h1;rw [ha] at h2;cases h2;rw [hb] at h3;cases h3
    right
    rw [aCP hV h4 hu,aCP hV h5 hv]
   ·exact .inl ⟨r,by omega,l',a',b',h1,h2,h3,h4,h5⟩
 ·refine List.pairwise_append.2 ⟨h.ord,List.pairwise_singleton _ _,fun s hs t ht=>?_⟩
  rw [List.mem_singleton] at ht;subst ht;obtain⟨j,x,y⟩:=s;obtain⟨r,hr,l',a',b',h1,h2,h3,h4,h5⟩:=(h.mem j x y).1 hs
  rcases hr with hr|⟨rfl,hr⟩
  ·exact .inl hr
  ·refine .inr ⟨rfl,fun e=>?_⟩
   simp only [Prod.mk.injEq] at e;obtain⟨rfl,rfl⟩:=e;rw [hl] at h1;cases h1;rw [h4] at hu;cases hu;have:=aCP fq h2 ha;omega
structure bK where
 k:Nat × Nat
 ad:Option Addr
 n:Nat
 c:Nat
 is:List Nat
def sv (s:Option Addr × Nat × Nat):Value:=.slice s.1 s.2.1 s.2.2
def gvv (g:Gp):Value:=.agg #[.int .i64 g.x,.int .i64 g.y]
def bK.s (r:bK):(Nat × Nat) × (Option Addr × Nat × Nat):=(r.k,(r.ad,r.n,r.c))
def bK.ch (T:TypeId) (r:bK):Chunk:=.row (.slice r.ad r.n r.c) T 1 r.n (iv (zs r.is))
theorem aA.aAU {w0 w:World} (L R:List Chunk) (x:Chunk) (h:aA w0 w (L++(R++[x]))):aA w0 w (L++(x::R)) :=
 h.perm (List.Perm.append_left L (by
  have:=List.perm_append_comm (l₁:=[x]) (l₂:=R)
  simpa using this))
theorem aA.aE1 {w0 w:World} (L:List Chunk):∀ (R:List Chunk) {F:Nat→Prop} {wr:World},aA w0 w (.aH F wr::(L++R)) →
 aA w0 w (.aH (fun k=>F k∨∃ c ∈ R,c.has k) w::L)
 | [],F,wr,h=>by
  have h1:=h.freeze 0 rfl;simp only [List.append_nil,List.set_cons_zero] at h1;have e:(Chunk.aH F wr).has=fun k=>F k∨∃ c ∈ ([]:List Chunk),c.has k:=by funext k;simp [Chunk.has]
  rw [e] at h1;exact h1
 | c::R,F,wr,h=>by
  have h1:aA w0 w (.aH F wr::c::(L++R)):=h.perm (by
   refine List.Perm.cons _ ?_;exact (List.perm_middle (a:=c) (l₁:=L) (l₂:=R)).symm)
  have h2:=(h1.freeze 1 rfl);have h3:=aA.join h2;have h4:=aA.aE1 L R h3
  have e:(fun k=>(F k∨c.has k)∨∃ c ∈ R,c.has k)=fun k=>F k∨∃ c' ∈ c::R,c'.has k:=by
   funext k;simp [or_assoc]
  rw [e] at h4;exact h4
theorem aA.aEE {w0 w wr:World} {L R:List Chunk} {F S0 S:Nat→Prop} (hS:aA w0 w (.aH F wr::(L++R))) (hO:∀ k,Old w0 k→F k) (hF:∀ k,S k→F k) (hp:Pure w0 S0 wr S):Pure w0 S0 w (fun k=>S k∨∃ c ∈ R,c.has k):=by
 have h1:=hp.step hS hO hF;refine⟨h1.below,h1.drawn,fun k hk=>.inl (h1.sub k hk),fun k hk=>?_⟩
 rcases hk with hk|⟨c,hc,hk⟩
 ·exact h1.new k hk
 ·refine .inr ⟨?_,Chunk.lt (hS.ok c (by simp [hc])) hk⟩
  rcases Nat.lt_or_ge k w0.heap.size with aW|gB
  ·exact absurd hk ((List.pairwise_cons.1 hS.apart).1 c (by simp [hc]) k (hO k aW))
  ·exact gB
theorem a7i {ν:Type} {l1 l2:List ((Nat × Nat) × ν)} {k:Nat × Nat} {u v:ν} (h:k ∉ l1.map (·.1)):fV (l1++(k,u)::l2) k v=l1++(k,v)::l2∧eZ (l1++(k,u)::l2) k=some u:=by
 induction l1 with
 | nil=>simp [fV,tE]
 | cons p l1 ih =>
  obtain⟨x,y⟩:=p;simp only [List.map_cons,List.mem_cons,not_or] at h;have bJ:¬ x=k:=fun e=>h.1 e.symm
  obtain⟨i1,i2⟩:=ih h.2;simp only [List.cons_append,fV,if_neg bJ,i1,tE,i2];exact⟨trivial,trivial⟩
theorem a9g {ν:Type} {l:List ((Nat × Nat) × ν)} {k:Nat × Nat} {v:ν} (h:k ∉ l.map (·.1)):fV l k v=l++[(k,v)]∧eZ l k=none:=⟨a7t (aC6 h) v,aC6 h⟩
section
variable {P:Program} {ops:Array Oper} {Q:Exit→Act→World→Prop} {rest:List Oper} {a:Act} {w w0:World} {H:List Chunk}
variable {dst:Option Tmp} {ty T E Tb:TypeId} {pos:String} {ak:Array Edge} {x y:Operand}
theorem aML {n:Nat} {xv:Int} (hS:aA w0 w H) (hu:P.underlying T=some (.slice E)) (ky:(P.info? E).map (fun i=>(i.zero,i.size,i.bytes))=some (some (.slice none 0 0),1,24))
 (hx:a.eval x=.int .i64 xv) (hy:a.eval y=.int .i64 xv) (fL:xv=(n:Int)) (hn:n≤65536)
 (hk:∀ b w',aA w0 w' (H++[.aB b (.cells (List.replicate n (.slice none 0 0)).toArray E (0,0))])→wpList P ops Q rest (a.put dst (.slice (some ⟨b,0,none⟩) n n)) w') :
 wpList P ops Q (⟨dst,.makeSlice T x y,ty,pos,ak,none⟩::rest) a w:=by
 subst fL;obtain⟨i,hi,hz,dJ,jm⟩:=info_parts ky;have hr:=run_make (P:=P) w T E i _ hu hi hz .i64 .i64 n n (by omega) (by omega) (by rw [jm];omega) (by omega)
 have hc:madeCells (Value.slice none 0 0).cells ((n:Int).toNat*i.size)=(List.replicate n (.slice none 0 0)).toArray:=by
  rw [dJ,Int.toNat_natCast,Nat.mul_one];apply Array.ext
  ·simp [madeCells]
  ·intro j h1 h2
   simp [madeCells,Value.cells,Nat.mod_one]
 rw [hc,Int.toNat_natCast] at hr;refine lx (w':=w.alloc (.cells (List.replicate n (.slice none 0 0)).toArray E (0,0))) (v:=.slice (some ⟨w.heap.size,0,none⟩) n n) rfl ?_ (hk _ _ (hS.alloc _));simp only [execOp,hx,hy];simp [hr,go_sem]
theorem aSq {vs:List Value} {b k:Nat} {u:Value} (j:Nat) (hS:aA w0 w H) (hx:a.eval x=.pointer (some ⟨b,k,none⟩)) (hy:a.eval y=u) (hj:H[j]? = some (.aB b (.cells vs.toArray Tb (0,0))))
 (hT:∀ w,(sizeOf T).run P w=.ok 1 w) (hc:u.cells=#[u]) (h1:u.oneCell'=true) (hi:k<vs.length)
 (hk:∀ w',aA w0 w' (H.set j (.aB b (.cells (vs.set k u).toArray Tb (0,0))))→wpList P ops Q rest (a.put dst undef) w') :
 wpList P ops Q (⟨dst,.store T x y,ty,pos,ak,none⟩::rest) a w:=by
 refine aAm (u:=u) j hS hx hy hj (by rw [hc];exact hT) (by rw [hc];simp [h1]) (by rw [hc];simp;omega) (fun w' fY=>hk w' ?_)
 have e:vs.set k u=vs.take k++u.cells.toList++vs.drop (k+u.cells.size):=by
  rw [hc,List.set_eq_take_append_cons_drop,if_pos hi];simp
 rw [e];exact fY
end
theorem tQ:(prog.info? 3).map (fun i=>(i.zero,i.size,i.bytes))=some (some (.int .i64 0),1,8):=by kernel_rfl
theorem aRj:(prog.info? 25).map (fun i=>(i.zero,i.size,i.bytes))=some (some (.slice none 0 0),1,24):=by kernel_rfl
theorem aD2:tP prog 110 pk:=by
 refine aI9 underlying110 (fun k=>⟨_,rfl⟩) (fun e k w=>?_) (fun k x w=>?_) (fun k=>?_)
 ·have a3:=isAgg3
  have z3:=sizeOf3;have jM:∀ (n:Nat) (a:Int) (w:World),(Instr.checkKey e (n+1) 3 (.int .i64 a)).run prog w=.ok () w:=fun n a w=>MapKept.run_checkKey (k:=.int .i64 a) underlying3 (show IntKind.i64=IntKind.i64 from rfl) e n
  rw [show (10000:Nat)=9998+1+1 from rfl,Instr.checkKey];simp only [pk];generalize 9998=n;simp [run_underlying underlying110,part,a3,z3,jM];simp [List.range',a3,z3,jM]
 ·have u3:=underlying3
  have a3:=isAgg3;have z3:=sizeOf3;obtain⟨i,hi,_⟩:=info_parts tQ;have hc:prog.cellsOf 3=1:=by kernel_rfl
  unfold Op.equal;simp only [pk];rw [show Op.maxDepth=9998+1+1 from rfl,run_equalIn_array w (9998+1) _ _ underlying110 hi,hc]
  have hcell:∀ (a b:Int),(Op.equalIn (9998+1) 3 (.int .i64 a) (.int .i64 b)).run prog w=.ok (decide (a=b)) w:=fun a b=>by
   have:=run_equalIn_int (P:=prog) w 9998 3 .i64 .i64 a b underlying3;rw [this]
   by_cases h:a=b <;> simp [h]
  generalize 9998=n at hcell;rw [show List.range 2=[0,1] from rfl];simp only [Op.eqItems];simp [part,a3,z3,hcell,hc]
  by_cases h1:k.fst=x.fst <;> by_cases h2:k.snd=x.snd <;> simp [h1,h2,Prod.ext_iff]
  all_goals first|omega
 ·rw [show (10000:Nat)=9999+1 from rfl]
  simp [pk,Instr.sameBits]
theorem aTK {x y:Nat × Nat} (h:pk x=pk y):x=y:=by
 obtain⟨a,b⟩:=x;obtain⟨c,d⟩:=y;simp [pk] at h
 ext <;> simp <;> omega
theorem aWA {w0 wr w:World} {F S:Nat→Prop} {A:List Chunk} {ad:Option Addr} {n c:Nat} {prs:List PR} {l:List Pt}
 (hS:aA w0 w (.aH F wr::(A++[.row (.slice ad n c) 55 8 n (prs.flatMap pc)]))) (hF:∀ k,S k→F k) (dL:ez wr S prs l) (hs:l.Pairwise Pt.le) (hn:n≤1000000) :
 Calls prog 49 #[.slice ad n c,.func (.func 50) #[] #[]] w fun e w'=>∃ n' nJ l',e=.returned (.slice ad n' c)∧aA w0 w' (.aH F wr::(A++[.row (.slice ad n' c) 55 8 n' (nJ.flatMap pc)]))∧ez wr S nJ l'∧l'.Pairwise Pt.lt∧(∀ x,x ∈ l'↔x ∈ l)∧n'≤n:=by
 have dw:=aA.split (A:=.aH F wr::A) hS;refine (aNC ad n c prs l _ S w dw (fun k hk=>Rest.of hS (hF k hk)) (dL.at hS hF) hs hn).mono ?_;rintro e w' ⟨n',nJ,l',rfl,fY,h1,h2,h3⟩;have cK:=aA.su (A:=.aH F wr::A) hS fY
 exact⟨n',nJ,l',rfl,cK,h1.move (fun k hk=>by
  rw [← cK.da hF k hk];have:=(fY.ok (.aH _ w) (by simp) k (Rest.of hS (hF k hk))).2;exact this),h2,h3⟩
def a7w:Value:=.slice none 0 0
def pP (os:List Sz) (i:Nat):List Sz:=os.take i++os.drop (i+1)
structure pV (w:World) (S:Nat→Prop) (os:List Sz) (gs:List Gp) (vs:List Value) (pp:List (List Pt)):Prop where
 vl:vs.length=os.length
 pl:pp.length≤os.length
 el:∀ i,i<pp.length→∃ ad n c prs,nth a7w vs i=.slice ad n c∧PL w S (.slice ad n c) prs (nth [] pp i)
 ok:∀ i,i<pp.length→yU (nth s0 os i) (pP os i) gs (nth [] pp i)
theorem pV.grow {w w':World} {S S':Nat→Prop} {os:List Sz} {gs:List Gp} {vs:List Value} {pp:List (List Pt)} (h:pV w S os gs vs pp) (hp:Pure w S w' S'):pV w' S' os gs vs pp :=
 ⟨h.vl,h.pl,fun i hi=>by obtain⟨ad,n,c,prs,h1,h2⟩:=h.el i hi;exact⟨ad,n,c,prs,h1,h2.grow hp⟩,h.ok⟩
theorem pV.at {w0 w wr:World} {H:List Chunk} {F S:Nat→Prop} {os:List Sz} {gs:List Gp} {vs:List Value} {pp:List (List Pt)} (h:pV wr S os gs vs pp) (hS:aA w0 w (.aH F wr::H)) (hF:∀ k,S k→F k):pV w S os gs vs pp :=
 ⟨h.vl,h.pl,fun i hi=>by obtain⟨ad,n,c,prs,h1,h2⟩:=h.el i hi;exact⟨ad,n,c,prs,h1,h2.at hS hF⟩,h.ok⟩
theorem pV.start (w:World) (S:Nat→Prop) (os:List Sz) (gs:List Gp):pV w S os gs (List.replicate os.length a7w) []:=⟨by simp,by simp,fun i hi=>by simp at hi,fun i hi=>by simp at hi⟩
theorem pV.step {w:World} {S:Nat→Prop} {os:List Sz} {gs:List Gp} {vs:List Value} {pp:List (List Pt)} (h:pV w S os gs vs pp) (aW:pp.length<os.length) {ad:Option Addr} {n c:Nat} {prs:List PR} {l:List Pt} (hl:PL w S (.slice ad n c) prs l) (hp:yU (nth s0 os pp.length) (pP os pp.length) gs l):pV w S os gs (vs.set pp.length (.slice ad n c)) (pp++[l]):=by
 have lP:=h.vl;refine⟨by simp [lP],by simp;omega,fun i hi=>?_,fun i hi=>?_⟩
 ·simp only [List.length_append,List.length_singleton] at hi
  rcases Nat.lt_or_ge i pp.length with h1|h1
  ·rw [ju _ _ _ _ h1,aAX _ _ _ _ _ (by omega),if_neg (by omega)]
   exact h.el i h1
  ·obtain rfl:i=pp.length:=by omega
   rw [uE,aAX _ _ _ _ _ (by omega),if_pos rfl];exact⟨ad,n,c,prs,rfl,hl⟩
 ·simp only [List.length_append,List.length_singleton] at hi
  rcases Nat.lt_or_ge i pp.length with h1|h1
  ·rw [ju _ _ _ _ h1];exact h.ok i h1
  ·obtain rfl:i=pp.length:=by omega
   rw [uE];exact hp
theorem yU.two {s:Sz} {os:List Sz} {gs:List Gp} {l:List Pt} (h:yU s os gs l) (bJ:s.a≠s.b):2≤l.length:=by
 have ha:=(h.mem s.a.pt).2 (.inl rfl);have hb:=(h.mem s.b.pt).2 (.inr (.inl rfl));have bV:s.a.pt≠s.b.pt:=fun e=>bJ (Gp.aBa.1 e)
 match l with
 | []=>cases ha
 | [x] =>
  simp only [List.mem_singleton] at ha hb;exact absurd (ha.trans hb.symm) bV
 | _::_::_=>simp
theorem aF9 {os:List Sz} {i:Nat} (h:i<os.length):(pP os i).length=os.length - 1:=by
 unfold pP;rw [List.length_append,List.length_take,List.length_drop];omega
theorem aMK {os:List Sz} {i:Nat} {t:Sz} (h:t ∈ pP os i):t ∈ os:=by
 unfold pP at h
 rcases List.mem_append.1 h with h|h
 ·exact List.mem_of_mem_take h
 ·exact List.mem_of_mem_drop h
structure eu (os:List Sz) (gs:List Gp) (V:List Pt) (es:List Ed):Prop where
 arr:qG (os.map Sz.sg) (gs.map Gp.pt) V (es.map fun e=>(e.a,e.b))
 of:∀ e ∈ es,∀ i,i ∈ e.of↔∃ s,os[i]? = some s∧kX V s.sg e.a e.b
 ofs:∀ e ∈ es,e.of.Pairwise (· < ·)
 dir:∀ e ∈ es,∃ s ∈ os,kX V s.sg e.a e.b∧e.dir=fN s
structure aF0 (w:World) (S:Nat→Prop) (sg pt v e:Option Addr × Nat × Nat) (os:List Sz) (gs:List Gp) (V:List Pt) (es:List Ed):Prop where
 aY2:bN w S 4 (sv sg) os.length (os.flatMap sc)
 pts:bN w S 2 (sv pt) gs.length (gs.flatMap gc)
 vs:∃ prs,PL w S (sv v) prs V
 es:∃ rs,bN w S 5 (sv e) es.length (rs.flatMap ec)∧kP w S rs es
def aQz (w:World) (S:Nat→Prop) (os:List Sz) (gs:List Gp) (e:Ending) (w':World):Prop :=
 ∃ (sg pt v ee:Option Addr × Nat × Nat) (S':Nat→Prop) (V:List Pt) (es:List Ed),e=.returned (.tuple #[.agg #[sv sg,sv pt,sv v,sv ee],.int .i64 0])∧Pure w S w' S'∧aF0 w' S' sg pt v ee os gs V es∧eu os gs V es
def bK.g (r:bK):(Nat × Nat) × List Nat:=(r.k,r.is)
theorem pV.weaken {w:World} {S T:Nat→Prop} {os:List Sz} {gs:List Gp} {vs:List Value} {pp:List (List Pt)} (h:pV w S os gs vs pp) (iU:∀ k,S k→T k):pV w T os gs vs pp :=
 ⟨h.vl,h.pl,fun i hi=>by obtain⟨ad,n,c,prs,h1,h2⟩:=h.el i hi;exact⟨ad,n,c,prs,h1,h2.weaken iU⟩,h.ok⟩
structure aBF (R:List bK) (key:Nat × Nat) (R1:List bK) (r:bK) (R2:List bK):Prop where
 rk:r.k=key
 put:∀ v,fV (R.map bK.s) key v=R1.map bK.s++(key,v)::R2.map bK.s
 get:(eZ (R.map bK.s) key).getD (none,0,0)=(r.ad,r.n,r.c)
 aPN:∀ l,fV (R.map bK.g) key l=R1.map bK.g++(key,l)::R2.map bK.g
 aJM:(eZ (R.map bK.g) key).getD []=r.is
theorem aRH {w0 w:World} {L:List Chunk} {T:TypeId} {R:List bK} (hS:aA w0 w (L++R.map (bK.ch T))) (hnd:((R.map bK.g).map (·.1)).Nodup) (key:Nat × Nat) :
 ∃ R1 r R2,aBF R key R1 r R2∧aA w0 w (L++(R1++r::R2).map (bK.ch T)):=by
 have hks:(R.map bK.s).map (·.1)=R.map (·.k):=by rw [List.map_map];rfl
 have hkg:(R.map bK.g).map (·.1)=R.map (·.k):=by rw [List.map_map];rfl
 by_cases hk:key ∈ R.map (·.k)
 ·obtain⟨r,hr,rfl⟩:=List.mem_map.1 hk
  obtain⟨R1,R2,rfl⟩:=List.append_of_mem hr;rw [hkg,List.map_append,List.map_cons,List.nodup_append] at hnd;have h1:r.k ∉ R1.map (·.k):=fun h=>hnd.2.2 _ h _ (List.mem_cons_self) rfl
  have h1s:r.k ∉ (R1.map bK.s).map (·.1):=by rw [List.map_map];exact h1
  have h1g:r.k ∉ (R1.map bK.g).map (·.1):=by rw [List.map_map];exact h1
  refine⟨R1,r,R2,⟨rfl,fun v=>?_,?_,fun l=>?_,?_⟩,hS⟩
  ·rw [List.map_append,List.map_cons];exact (a7i (u:=(r.ad,r.n,r.c)) h1s).1
  ·rw [List.map_append,List.map_cons]
   have:=(a7i (l2:=R2.map bK.s) (u:=(r.ad,r.n,r.c)) (v:=(none,0,0)) h1s).2;unfold bK.s at this ⊢;rw [this];rfl
  ·rw [List.map_append,List.map_cons];exact (a7i (u:=r.is) h1g).1
  ·rw [List.map_append,List.map_cons]
   have:=(a7i (l2:=R2.map bK.g) (u:=r.is) (v:=[]) h1g).2;unfold bK.g at this ⊢;rw [this];rfl
 ·have hs:key ∉ (R.map bK.s).map (·.1):=by rw [hks];exact hk
  have hg:key ∉ (R.map bK.g).map (·.1):=by rw [hkg];exact hk
  refine⟨R,⟨key,none,0,0,[]⟩,[],⟨rfl,fun v=>?_,?_,fun l=>?_,?_⟩,?_⟩
  ·rw [(a9g hs).1];rfl
  ·rw [(a9g (v:=(none,0,0)) hs).2];rfl
  ·rw [(a9g hg).1];rfl
  ·rw [(a9g (v:=([]:List Nat)) hg).2];rfl
  ·have:=hS.iB T 1
   rw [List.append_assoc] at this;rw [List.map_append];exact this
section
variable {P:Program} {ops:Array Oper} {Q:Exit→Act→World→Prop} {rest:List Oper} {a:Act} {w w0:World}
variable {dst:Option Tmp} {ty T E:TypeId} {pos:String} {ak:Array Edge} {x y:Operand}
theorem aHT {L:List Chunk} {R1 R2:List bK} {r:bK} {i b:Nat} {Tb:TypeId} {bytes:Nat} (hS:aA w0 w (L++((R1++r::R2).map (bK.ch E)++[.aB b (.cells #[.int .i64 (i:Int)] Tb (0,0))]))) (ht:P.underlying T=some (.slice E)) (ky:(P.info? E).map (fun i=>(i.zero,i.size,i.bytes))=some (some (.int .i64 0),1,bytes)) (hb8:bytes=8)
 (hx:a.eval x=.slice r.ad r.n r.c) (hy:a.eval y=.slice (some ⟨b,0,none⟩) 1 1) (hn:r.n≤100000000)
 (hk:∀ ad c w',aA w0 w' (L++(R1++(⟨r.k,ad,r.n+1,c,r.is++[i]⟩:bK)::R2).map (bK.ch E))→wpList P ops Q rest (a.put dst (.slice ad (r.n+1) c)) w') :
 wpList P ops Q (⟨dst,.call ⟨.builtin .append,#[x,y],#[T,T]⟩,ty,pos,ak,none⟩::rest) a w:=by
 subst hb8;rw [← List.append_assoc] at hS
 have hj:(L++(R1++r::R2).map (bK.ch E))[L.length+R1.length]? = some (.row (.slice r.ad r.n r.c) E 1 r.n (iv (zs r.is))):=by
  rw [List.getElem?_append_right (by omega),List.map_append,List.map_cons,List.getElem?_append_right (by simp)];simp [bK.ch]
 refine fw (t:=T) (L.length+R1.length) hS ht ky rfl (by decide) hx hy hj (by simp) (by simp [Value.oneCell']) (by omega) (by unfold maxLen;omega) (fun ad c w' fY=>hk ad c w' ?_)
 have e:(L++(R1++r::R2).map (bK.ch E)).set (L.length+R1.length) (.row (.slice ad (r.n+1) c) E 1 (r.n+1) (iv (zs r.is)++#[Value.int .i64 (i:Int)].toList))=L++(R1++(⟨r.k,ad,r.n+1,c,r.is++[i]⟩:bK)::R2).map (bK.ch E):=by
  rw [List.set_append_right _ _ (by omega),List.map_append,List.map_cons,List.map_append,List.map_cons,List.set_append_right _ _ (by simp)];simp only [List.length_map,Nat.add_sub_cancel_left,Nat.sub_self,List.set_cons_zero]
  congr 3
  simp [bK.ch,zs,iv]
 rw [← e];exact fY
end
theorem aBF.step {R R1 R2:List bK} {r:bK} {key:Nat × Nat} (h:aBF R key R1 r R2) {ad:Option Addr} {c i:Nat} :
 fV (R.map bK.s) key (ad,r.n+1,c)=(R1++(⟨r.k,ad,r.n+1,c,r.is++[i]⟩:bK)::R2).map bK.s∧fV (R.map bK.g) key ((eZ (R.map bK.g) key).getD []++[i])=(R1++(⟨r.k,ad,r.n+1,c,r.is++[i]⟩:bK)::R2).map bK.g:=by
 constructor
 ·rw [h.put,List.map_append,List.map_cons]
  unfold bK.s;rw [h.rk]
 ·rw [h.aPN,h.aJM,List.map_append,List.map_cons]
  unfold bK.g;rw [h.rk]
theorem vw.at {V:List Pt} {q:Pt} {i:Nat} (h:vw V q i) (hs:V.Pairwise Pt.lt) (hq:q ∈ V):V[i]? = some q:=by
 obtain⟨j,hj,rfl⟩:=List.mem_iff_getElem.1 hq;obtain⟨h1,h2,h3⟩:=h
 rcases Nat.lt_trichotomy i j with h4|h4|h4
 ·exfalso
  apply h3 i (Nat.le_refl _) (by omega);rw [bS au V i (by omega)];exact List.pairwise_iff_getElem.1 hs i j (by omega) hj h4
 ·subst h4;exact List.getElem?_eq_getElem hj
 ·exfalso
  have:=h2 j h4;rw [bS au V j hj] at this;exact Pt.lt_irrefl _ this
theorem uq.len {tr:List Step} {R:List bK} (h:uq tr (R.map bK.g)) {r:bK} (hr:r ∈ R):r.is.length≤tr.length:=by
 rw [h.val r.k r.is (List.mem_map.2 ⟨r,hr,rfl⟩),List.length_map];exact List.length_filter_le _ _
def a9j (w:World) (b:Nat):Nat:=match w.heap[b]? with|some (.mapIter _ _ seen _)=>seen.size|_=>0
theorem a7C {κ ν:Type} {ek:κ→Value} {ev:ν→Value} {b bi:Nat} {o oi:Obj} {l d:List (κ × ν)} (h:pA ek ev b o oi l d) {w:World} (hb:w.heap[bi]? = some oi):a9j w bi=d.length:=by
 obtain⟨es,clock,f,rfl,rfl,_⟩:=h;simp [a9j,hb]
theorem a7X {κ ν:Type} [DecidableEq κ] {ek:κ→Value} {ev:ν→Value} {b:Nat} {o oi:Obj} {l d:List (κ × ν)} (h:pA ek ev b o oi l d):d.length≤l.length:=by
 obtain⟨es,clock,f,rfl,rfl,_,_,_,h1,h2,h3,_⟩:=h;have n2:(d.map (·.1)).Nodup:=h2
 have zQ:d.map (·.1) ⊆ l.map (·.1):=by
  intro x hx;obtain⟨p,hp,rfl⟩:=List.mem_map.1 hx;exact List.mem_map.2 ⟨p,h1 p hp,rfl⟩
 have:=n2.length_le_of_subset zQ
 simpa using this
theorem aVZ {κ ν:Type} {ek:κ→Value} {ev:ν→Value} {b:Nat} {o oi:Obj} {l d:List (κ × ν)} (h:pA ek ev b o oi l d):(d.map (·.1)).Nodup∧∀ p ∈ d,p ∈ l:=by
 obtain⟨es,clock,f,rfl,rfl,_,_,_,h1,h2,h3,_⟩:=h;exact⟨h2,h1⟩
theorem aPs {w0 w:World} {L:List Chunk} {T:TypeId} {R:List bK} (hS:aA w0 w (L++R.map (bK.ch T))) {r:bK} (hr:r ∈ R) (hb:∀ x ∈ r.is,x≤9223372036854775807):jZ w (fun k=>∃ c ∈ R.map (bK.ch T),c.has k) (.slice r.ad r.n r.c) r.is:=by
 have hm:r.ch T ∈ R.map (bK.ch T):=List.mem_map.2 ⟨r,hr,rfl⟩;have bG:(r.ch T).ok w:=hS.ok _ (by simp only [List.mem_append];exact .inr hm);have bh:bN w _ 1 (.slice r.ad r.n r.c) r.n (iv (zs r.is)):=bN.ofRow bG
 have hn:r.n=(zs r.is).length:=by
  have:=bh.1;rw [tK] at this;omega
 refine⟨?_,fun x hx=>?_⟩
 ·rw [← hn]
  exact bh.weaken fun k h=>⟨r.ch T,hm,h⟩
 ·obtain⟨n,fx,rfl⟩:=List.mem_map.1 hx
  have:=hb n fx;unfold bQ;omega
instance :Inhabited ER:=⟨jk⟩
section
open Go.RowKit Go.Hp Go.Sort Go.Shelf
def a1H (x y:ER):Int:=if cR x.a y.a≠0 then cR x.a y.a else cR x.b y.b
theorem a89 (x y:ER):a1H x y<0↔mY (x.a,x.b) (y.a,y.b):=by
 unfold a1H mY cR;simp only
 split <;> split <;> (try split) <;> (try split) <;> omega
theorem aT4:SWO (Proofs.ltOf a1H) where
 irrefl x:=by unfold Proofs.ltOf;rw [decide_eq_false_iff_not,a89];exact a5w _
 trans x y z h1 h2:=by
  unfold Proofs.ltOf at *;rw [decide_eq_true_iff,a89] at *;exact aGW h1 h2
 ntrans x y z h1 h2:=by
  unfold Proofs.ltOf at *;rw [decide_eq_false_iff_not,a89] at *;unfold mY at *;simp only at *;omega
theorem aNa (x y:ER) (w:World):Calls prog 54 #[.agg (ec x).toArray,.agg (ec y).toArray] w fun e w'=>e=.returned (.int .i64 (a1H x y))∧Pure w (fun _=>False) w' (fun _=>False):=by
 obtain⟨a,b,ad,n,c,d⟩:=x;obtain⟨a2,b2,dU,n2,c2,d2⟩:=y;obtain⟨r,hr⟩:∃ r,a1H ⟨a,b,ad,n,c,d⟩ ⟨a2,b2,dU,n2,c2,d2⟩=r:=⟨_,rfl⟩;rw [hr];unfold a1H at hr;simp only at hr;obtain⟨r1,h1⟩:∃ r1,cR a a2=r1:=⟨_,rfl⟩;obtain⟨r2,h2⟩:∃ r2,cR b b2=r2:=⟨_,rfl⟩;rw [h1,h2] at hr;replace h1:=Hd h1;replace h2:=Hd h2;have mL:=fun b w S hv=>aG6 b r1 r2 r hr w S hv
 clear hr;have hS:=aA.start w;simp only [ec]
 go_enter func54,ntmps54
 go_wp2_with (with_reducible refine cI hS fun bx cu hS=>?_)
 refine dB [.p 0,.r 1,.p 2,.r 3,.p 5,.r 6,.p 7,.r 8,.e 4,.e 9,.e 10,.e 11,.p 12] [] hS fun w1 hS=>?_
 have hC:=hS
 repeat (with_reducible first|refine cZ 1 isAgg3 ?_|refine cZ 2 isAgg3 ?_|refine bU ?_)
 refine aZ ?_
 go_wp2_with (fail)
 refine (a0S a a2 _).mono ?_;rintro e w' ⟨rfl,rfl⟩;simp only [];go_step;rw [h1.out];refine aX hC ?_;refine aM ?_;refine aZ ?_
 go_wp2_with (fail)
 refine (a0S b b2 _).mono ?_;rintro e w' ⟨rfl,rfl⟩;simp only [];go_step;rw [h2.out];refine aX hC ?_;refine aM ?_;refine aZ ?_
 ((with_reducible refine dV (T:=22) ?_);refine nc (k:=1) (z:=.int .i64 0) (len:=2) hS underlying22 sizeOf3 zeroValue3 (by decide) (by decide) (a8x _ _) (fun bl fX hS=>?_);simp only [aD];simp only [aK] at hS)
 refine aX hS.sb ?_;refine aM ?_;refine aZ ?_
 go_wp2_with (fail)
 refine (mL bl _ _ (bN.ve (k:=1) (n:=2) hS (bW (i:=3) rfl) rfl (by decide))).mono ?_;rintro e w' ⟨rfl,rfl⟩;simp only [];go_step;refine aX hS.sb ?_;refine aM ?_;refine bE ?_;go_wp2;go_ret;exact⟨rfl,hS.pure _⟩
theorem aTn {w0 w:World} {H:List Chunk} {ad:Option Addr} {n c:Nat} {T:TypeId} {rs:List ER} (j:Nat) (hS:aA w0 w H) (hj:H[j]? = some (.row (.slice ad n c) T 5 n (rs.flatMap ec))) (hl:n≤100000000) :
 Calls prog 53 #[.slice ad n c,.func (.func 54) #[] #[]] w fun e w'=>e=.returned (.tuple #[])∧∃ zX:List ER,zX.Perm rs∧zX.Pairwise (fun x y=>¬ mY (y.a,y.b) (x.a,x.b))∧aA w0 w' (H.set j (.row (.slice ad n c) T 5 n (zX.flatMap ec))):=by
 refine (aBE aSu (by decide) isAgg45 sizeOf45 ec (fun x=>rfl) (fun x v hv=>aVn [x] v (by simpa using hv)) a1H aT4 54 #[] j hS hj hl (Proofs.enters_of func54 (by kernel_rfl) rfl) ?_).mono ?_
 ·intro W hW x y
  exact (aNa x y W).mono fun e w' ⟨he,hq⟩=>⟨he,hq.below,hq.drawn⟩
 ·rintro e w' ⟨he,zX,hp,hs,fY⟩
  refine⟨he,zX,hp,?_,fY⟩;refine hs.imp fun {x y} h=>?_
  unfold Proofs.ltOf at h
  rwa [decide_eq_false_iff_not,a89] at h
end
def vF (G:List ((Nat × Nat) × List Nat)) (D:List ((Nat × Nat) × Gp)) (k:Nat × Nat):Ed:=⟨k.1,k.2,(eZ G k).getD [],(eZ D k).getD g0⟩
theorem aOQ {ν:Type} {l:List ((Nat × Nat) × ν)} {k:Nat × Nat} (h:k ∈ l.map (·.1)):∃ v,eZ l k=some v:=by
 cases hg:eZ l k with
 | some v=>exact⟨v,rfl⟩
 | none =>
  exfalso
  induction l with
  | nil=>simp at h
  | cons p l ih =>
   obtain⟨x,u⟩:=p;rw [tE] at hg
   split at hg
   ·cases hg
   ·rename_i bJ
    rcases List.mem_cons.1 h with h1|h1
    ·exact bJ h1.symm
    ·exact ih h1 hg
theorem zk {α:Type} {d:α} {l:List α} {i:Nat} {s:α} (h:l[i]? = some s):nth d l i=s:=by
 unfold nth;simp [List.getD_eq_getElem?_getD,h]
theorem aEX {α:Type} {d:α} {l:List α} {i:Nat} (h:i<l.length):l[i]? = some (nth d l i):=by
 rw [bS d l i h];exact List.getElem?_eq_getElem h
theorem yU.vt {os:List Sz} {gs:List Gp} {i:Nat} {s:Sz} {l:List Pt} (h:yU s (pP os i) gs l) (cJ:∀ t ∈ os,t.ok) (hi:os[i]? = some s) (x:Pt):x ∈ l↔vt (os.map Sz.sg) (gs.map Gp.pt) i s.sg x:=by
 have bJ:∀ t ∈ os.map Sz.sg,t.a≠t.b:=by
  intro t ht;obtain⟨u,hu,rfl⟩:=List.mem_map.1 ht;exact fun e=>(cJ u hu).2.2 (Gp.aBa.1 e)
 have mg:(os.map Sz.sg)[i]? = some s.sg:=by rw [List.getElem?_map,hi];rfl
 rw [aUR mg bJ,h.mem];have e:(os.map Sz.sg).take i++(os.map Sz.sg).drop (i+1)=(pP os i).map Sz.sg:=by unfold pP;rw [List.map_append,List.map_take,List.map_drop]
 rw [e];refine or_congr Iff.rfl (or_congr Iff.rfl (or_congr ?_ ?_))
 ·constructor
  ·rintro⟨t,ht,h⟩;exact⟨t.sg,List.mem_map.2 ⟨t,ht,rfl⟩,h⟩
  ·rintro⟨t,ht,h⟩
   obtain⟨u,hu,rfl⟩:=List.mem_map.1 ht;exact⟨u,hu,h⟩
 ·constructor
  ·rintro⟨g,hg,rfl,h⟩;exact⟨List.mem_map.2 ⟨g,hg,rfl⟩,h⟩
  ·rintro⟨hg,h⟩
   obtain⟨g,qK,rfl⟩:=List.mem_map.1 hg;exact⟨g,qK,rfl,h⟩
theorem aPt {os:List Sz} {gs:List Gp} {pp:List (List Pt)} (cJ:∀ t ∈ os,t.ok) (hlen:pp.length=os.length) (bG:∀ i,i<pp.length→yU (nth s0 os i) (pP os i) gs (nth [] pp i)) {x:Pt} (hx:x ∈ gs.map Gp.pt∨∃ l ∈ pp,x ∈ l):mB (os.map Sz.sg) (gs.map Gp.pt) x:=by
 rw [aI8]
 rcases hx with h|⟨l,hl,h⟩
 ·exact .inl h
 ·obtain⟨i,hi⟩:=List.mem_iff_getElem?.1 hl
  have dj:=(List.getElem?_eq_some_iff.1 hi).1;have hs:os[i]? = some (nth s0 os i):=aEX (by omega);have hk:=bG i dj;rw [zk hi] at hk;exact .inr ⟨i,(nth s0 os i).sg,by rw [List.getElem?_map,hs];rfl,(hk.vt cJ hs x).1 h⟩
theorem eu.aMZ {os:List Sz} {gs:List Gp} {V:List Pt} {pp:List (List Pt)} {tr:List Step} {G:List ((Nat × Nat) × List Nat)} {D:List ((Nat × Nat) × Gp)} {es:List Ed} (cJ:∀ t ∈ os,t.ok) (hlen:pp.length=os.length)
 (bG:∀ i,i<pp.length→yU (nth s0 os i) (pP os i) gs (nth [] pp i)) (hV:V.Pairwise Pt.lt) (hVm:∀ x,x ∈ V↔x ∈ gs.map Gp.pt∨∃ l ∈ pp,x ∈ l) (hT:rC V pp os.length 1 tr) (hG:uq tr G) (hD:xb (fun i=>fN (nth s0 os i)) tr D)
 (dW:∀ e,e ∈ es↔∃ k ∈ G.map (·.1),e=vF G D k) (qW:(es.map fun e=>(e.a,e.b)).Pairwise mY):eu os gs V es:=by
 have bJ:∀ t ∈ os.map Sz.sg,t.a≠t.b:=by
  intro t ht;obtain⟨u,hu,rfl⟩:=List.mem_map.1 ht;exact fun e=>(cJ u hu).2.2 (Gp.aBa.1 e)
 have aCa:∀ l ∈ pp,l.Pairwise Pt.lt:=by
  intro l hl;obtain⟨i,hi⟩:=List.mem_iff_getElem?.1 hl;have dj:=(List.getElem?_eq_some_iff.1 hi).1;have:=bG i dj;rw [zk hi] at this;exact this.sorted
 have hE:∀ u v,(u,v) ∈ es.map (fun e=>(e.a,e.b))↔∃ l ∈ pp,∃ k p q,l[k]? = some p∧l[k+1]? = some q∧V[u]? = some p∧V[v]? = some q:=by
  intro u v
  have h1:(u,v) ∈ es.map (fun e=>(e.a,e.b))↔(u,v) ∈ G.map (·.1):=by
   rw [List.mem_map]
   constructor
   ·rintro⟨e,he,h⟩
    obtain⟨k,hk,rfl⟩:=(dW e).1 he;simp only [vF,Prod.mk.injEq] at h;obtain⟨rfl,rfl⟩:=h;exact hk
   ·intro h
    exact⟨_,(dW _).2 ⟨_,h,rfl⟩,rfl⟩
  rw [h1,hG.key]
  constructor
  ·rintro⟨⟨j,x,y⟩,ht,h⟩
   simp only [Prod.mk.injEq] at h;obtain⟨rfl,rfl⟩:=h;obtain⟨q,hq,l,a,b,h1,h2,h3,h4,h5⟩:=(hT.mem j x y).1 ht;exact⟨l,bW h1,q,a,b,h2,h3,h4,h5⟩
  ·rintro⟨l,hl,q,a,b,h2,h3,h4,h5⟩
   obtain⟨j,hj⟩:=List.mem_iff_getElem?.1 hl;have gX:=(List.getElem?_eq_some_iff.1 hj).1;exact⟨(j,(u,v)),(hT.mem j u v).2 ⟨q,.inl (by omega),l,a,b,hj,h2,h3,h4,h5⟩,rfl⟩
 have aEj:=qG.aMY (ss:=os.map Sz.sg) (ps:=gs.map Gp.pt) (parts:=pp) (V:=V) (E:=es.map fun e=>(e.a,e.b)) bJ (by simp [hlen]) aCa (fun i s l hi hl p=>by
  rw [List.getElem?_map,Option.map_eq_some_iff] at hi;obtain⟨t,ht,rfl⟩:=hi;have dj:=(List.getElem?_eq_some_iff.1 hl).1;have:=bG i dj;rw [zk hl,zk ht] at this;exact this.vt cJ ht p) hV hVm qW hE
 have rP:∀ j u v,(j,(u,v)) ∈ tr↔∃ s,os[j]? = some s∧kX V s.sg u v:=by
  intro j u v;rw [hT.mem]
  constructor
  ·rintro⟨q,hq,l,a,b,h1,h2,h3,h4,h5⟩
   have gX:j<os.length:=by omega
   refine⟨nth s0 os j,aEX gX,?_⟩;exact (a6X hV (aCa l (bW h1)) (aEj.2 j _ l (by rw [List.getElem?_map,aEX (d:=s0) gX];rfl) h1) u v).2 ⟨q,a,b,h2,h3,h4,h5⟩
  ·rintro⟨s,hs,hn⟩
   have gX:=(List.getElem?_eq_some_iff.1 hs).1;obtain⟨l,hl⟩:∃ l,pp[j]? = some l:=⟨_,List.getElem?_eq_getElem (by omega)⟩;obtain⟨q,a,b,h2,h3,h4,h5⟩:=(a6X hV (aCa l (bW hl)) (aEj.2 j _ l (by rw [List.getElem?_map,hs];rfl) hl) u v).1 hn;exact⟨q,.inl gX,l,a,b,hl,h2,h3,h4,h5⟩
 refine⟨aEj.1,fun e he i=>?_,fun e he=>?_,fun e he=>?_⟩
 ·obtain⟨k,hk,rfl⟩:=(dW e).1 he
  rw [← rP];simp only [vF];rw [hG.bj,List.mem_map]
  constructor
  ·rintro⟨⟨j,x⟩,ht,rfl⟩
   rw [List.mem_filter] at ht;obtain⟨h1,h2⟩:=ht;simp only [decide_eq_true_eq] at h2;rw [← h2];exact h1
  ·intro h
   exact⟨(i,k),List.mem_filter.2 ⟨h,by simp⟩,rfl⟩
 ·obtain⟨k,hk,rfl⟩:=(dW e).1 he
  simp only [vF];rw [hG.bj,List.pairwise_map];have h1:(tr.filter (fun t=>decide (t.2=k))).Pairwise (fun s t=>s.1<t.1∨(s.1=t.1∧s.2≠t.2)):=hT.ord.sublist List.filter_sublist;refine List.Pairwise.imp_of_mem ?_ h1;intro s t hs ht h;rw [List.mem_filter] at hs ht;have e1:=of_decide_eq_true hs.2;have e2:=of_decide_eq_true ht.2
  rcases h with h|⟨_,h⟩
  ·exact h
  ·exact absurd (e1.trans e2.symm) h
 ·obtain⟨k,hk,rfl⟩:=(dW e).1 he
  have hkD:k ∈ D.map (·.1):=by rw [hD.key,← hG.key];exact hk
  obtain⟨d,hd⟩:=aOQ hkD;obtain⟨⟨j,x⟩,ht,h1,h2⟩:=hD.val k d (a6u hd);simp only at h1 h2;subst h1;obtain⟨s,hs,hn⟩:=(rP j x.1 x.2).1 ht;refine⟨s,bW hs,hn,?_⟩;simp only [vF,hd,Option.getD_some,h2];rw [zk hs]
structure NB (w:World) (S:Nat→Prop) (os:List Sz) (gs:List Gp) (ao:Option Addr) (co:Nat) (ap:Option Addr) (cp:Nat) (lY:Option Addr) (cs:Nat) (jo:Option Addr) (ct:Nat):Prop where
 v:bN w S 4 (.slice ao os.length co) os.length (os.flatMap sc)
 g:bN w S 2 (.slice ap gs.length cp) gs.length (gs.flatMap gc)
 s:bN w S 4 (.slice lY os.length cs) os.length (os.flatMap sc)
 p:bN w S 2 (.slice jo gs.length ct) gs.length (gs.flatMap gc)
theorem NB.grow {w w':World} {S S':Nat→Prop} {os:List Sz} {gs:List Gp} {ao:Option Addr} {co:Nat} {ap:Option Addr} {cp:Nat} {lY:Option Addr} {cs:Nat} {jo:Option Addr} {ct:Nat} (h:NB w S os gs ao co ap cp lY cs jo ct) (hp:Pure w S w' S'):NB w' S' os gs ao co ap cp lY cs jo ct:=⟨h.v.grow hp,h.g.grow hp,h.s.grow hp,h.p.grow hp⟩
theorem NB.at {w0 w wr:World} {H:List Chunk} {F S:Nat→Prop} {os:List Sz} {gs:List Gp} {ao:Option Addr} {co:Nat} {ap:Option Addr} {cp:Nat} {lY:Option Addr} {cs:Nat} {jo:Option Addr} {ct:Nat} (h:NB wr S os gs ao co ap cp lY cs jo ct) (hS:aA w0 w (.aH F wr::H)) (hF:∀ k,S k→F k):NB w S os gs ao co ap cp lY cs jo ct:=⟨h.v.at hS hF,h.g.at hS hF,h.s.at hS hF,h.p.at hS hF⟩
theorem NB.weaken {w:World} {S T:Nat→Prop} {os:List Sz} {gs:List Gp} {ao:Option Addr} {co:Nat} {ap:Option Addr} {cp:Nat} {lY:Option Addr} {cs:Nat} {jo:Option Addr} {ct:Nat} (h:NB w S os gs ao co ap cp lY cs jo ct) (iU:∀ k,S k→T k):NB w T os gs ao co ap cp lY cs jo ct:=⟨h.v.weaken iU,h.g.weaken iU,h.s.weaken iU,h.p.weaken iU⟩
theorem aJm (a b:Option Addr) (n c m d:Nat):Instr.fill (fun i=>some (i*1,1)) ((Array.range (2*1)).map ((Value.slice none 0 0).cells[· % (Value.slice none 0 0).cells.size]!)) [(0,.slice a n c),(1,.slice b m d)]=some #[.slice a n c,.slice b m d]:=by
 have h:((Array.range (2*1)).map ((Value.slice none 0 0).cells[· % (Value.slice none 0 0).cells.size]!))=#[.slice none 0 0,.slice none 0 0]:=by
  apply Array.ext';simp [Array.range,List.ofFn_succ,Value.cells]
 rw [h];simp [Instr.fill,Value.cells]
theorem aO9:(prog.info? 45).map (fun i=>(i.zero,i.size,i.bytes))=some (some (.agg #[.int .i64 0,.int .i64 0,.slice none 0 0,.int .i64 0,.int .i64 0]),5,56):=by kernel_rfl
theorem aU8 {w:World} {S:Nat→Prop} {R:List bK} {D:List ((Nat × Nat) × Gp)} {d:List ((Nat × Nat) × (Option Addr × Nat × Nat))} {rs:List ER} {rO:(Nat × Nat) × (Option Addr × Nat × Nat)→ER} (wK:d.Perm (R.map bK.s)) (hp:rs.Perm (d.map rO)) (hs:rs.Pairwise (fun x y=>¬ mY (y.a,y.b) (x.a,x.b))) (hdn:(d.map (·.1)).Nodup)
 (u9:∀ p ∈ R.map bK.s,ta w S (rO p) (vF (R.map bK.g) D p.1)) (wJ:∀ k,k ∈ (R.map bK.g).map (·.1)↔k ∈ (R.map bK.s).map (·.1)) (hrO:rO=fun p=>⟨p.1.1,p.1.2,p.2.1,p.2.2.1,p.2.2.2,(eZ D p.1).getD g0⟩) :
 ∃ es:List Ed,kP w S rs es∧(∀ e,e ∈ es↔∃ k ∈ (R.map bK.g).map (·.1),e=vF (R.map bK.g) D k)∧(es.map fun e=>(e.a,e.b)).Pairwise mY:=by
 have n9:∀ r ∈ rs,∃ p ∈ R.map bK.s,r=rO p:=by
  intro r hr;obtain⟨p,uy,rfl⟩:=List.mem_map.1 (hp.mem_iff.1 hr);exact⟨p,wK.mem_iff.1 uy,rfl⟩
 have bV:∀ p,((rO p).a,(rO p).b)=p.1:=fun p=>by rw [hrO]
 refine⟨rs.map (fun r=>vF (R.map bK.g) D (r.a,r.b)),⟨by simp,fun i hi=>?_⟩,fun e=>?_,?_⟩
 ·rw [List.length_map] at hi
  rw [bS jk rs i hi,bS ah _ i (by simpa using hi),List.getElem_map];obtain⟨p,y8,hr⟩:=n9 _ (List.getElem_mem hi);have:=u9 p y8;rw [hr,bV];exact this
 ·rw [List.mem_map]
  constructor
  ·rintro⟨r,hr,rfl⟩
   obtain⟨p,y8,rfl⟩:=n9 r hr;exact⟨_,(wJ _).2 (by rw [bV];exact List.mem_map.2 ⟨p,y8,rfl⟩),rfl⟩
  ·rintro⟨k,hk,rfl⟩
   obtain⟨p,y8,rfl⟩:=List.mem_map.1 ((wJ k).1 hk);exact⟨rO p,hp.mem_iff.2 (List.mem_map.2 ⟨p,wK.mem_iff.2 y8,rfl⟩),by rw [bV]⟩
 ·rw [List.pairwise_map,List.pairwise_map]
  have hnd:(rs.map (fun r=>(r.a,r.b))).Nodup:=by
   have h1:=hp.map (fun r:ER=>(r.a,r.b));rw [List.map_map] at h1;have h2:(fun r:ER=>(r.a,r.b)) ∘ rO=(·.1):=by funext p;exact bV p
   rw [h2] at h1;exact (h1.nodup_iff).2 hdn
  have aUW:rs.Pairwise (fun x y=>(x.a,x.b)≠(y.a,y.b)):=by
   have:=hnd;unfold List.Nodup at this
   rwa [List.pairwise_map] at this
  refine (hs.and aUW).imp fun {x y} ⟨h1,h2⟩=>?_
  simp only [vF];unfold mY at *;simp only [ne_eq,Prod.mk.injEq] at h1 h2 ⊢;omega
theorem aVB (os:List Sz) (gs:List Gp) (ao ap:Option Addr) (no co np cp:Nat) (w:World) (S:Nat→Prop) (hL:aP w S) (cJ:∀ t ∈ os,t.ok) (qm:∀ g ∈ gs,g.ok) (hv:bN w S 4 (.slice ao no co) os.length (os.flatMap sc)) (hg:bN w S 2 (.slice ap np cp) gs.length (gs.flatMap gc)) (dg:os.length≤512) (hlg:gs.length≤256) (hB:gs.length+os.length*(2+2*os.length+gs.length)≤65536) (hVB:gs.length+os.length*(2+2*os.length+gs.length)≤4096∨∀ V:List Pt,V.Pairwise Pt.lt→(∀ x ∈ V,mB (os.map Sz.sg) (gs.map Gp.pt) x)→V.length≤4096) :
 Calls prog 18 #[.slice ao no co,.slice ap np cp] w (aQz w S os gs):=by
 obtain rfl:no=os.length:=by obtain⟨h1,a,cap,h2,_⟩:=hv;cases h2;rfl
 obtain rfl:np=gs.length:=by obtain⟨h1,a,cap,h2,_⟩:=hg;cases h2;rfl
 replace hB:=Hd hB;replace hVB:=Hd hVB;obtain⟨hS,aC,bC,bD⟩:=eR hL
 go_enter func18,ntmps18
 go_wp2_with (with_reducible refine bH hS zeroValue28 fun b4 zS hS=>?_)
 refine (aOI os gs ao ap os.length co gs.length cp _ S cJ qm (hv.at hS aC) (hg.at hS aC) dg hlg).mono ?_;rintro e w1 ⟨rfl,hq⟩;have hS:=hS.below hq.below hq.drawn;clear hq;simp only []
 go_wp2_with (fail)
 refine (aNn ao os.length co os _ S (hv.at hS aC) (aP.at hS aC) (by omega)).mono ?_;rintro e w2 ⟨lY,cs,S1,rfl,hq,nG⟩;have hv:=(hv.at hS aC).grow hq;have hg:=(hg.at hS aC).grow hq;replace hS:=hS.aj aC bC bD hq;obtain⟨F1,aG,gp,bB,av,hS⟩:=hS;simp only []
 go_wp2_with (fail)
 refine (aSX ap gs.length cp gs _ S1 (hg.at hS aG) (aP.at hS aG) (by omega)).mono ?_;rintro e w3 ⟨jo,ct,S2,rfl,hq,hpt⟩;have hv:=(hv.at hS aG).grow hq;have hg:=(hg.at hS aG).grow hq;have nG:=(nG.at hS aG).grow hq;replace hS:=hS.aj aG av bB hq;obtain⟨F2,aQ,-,bR,bP,hS⟩:=hS;have hn:NB w3 S2 os gs ao co ap cp lY cs jo ct:=⟨hv,hg,nG,hpt⟩;clear hv hg nG hpt aC aG bC av bD bB;simp only []
 go_wp2_with (with_reducible first|refine bH hS zeroValue28 fun b7 wb7 hS=>?_|refine aJ (u:=.agg #[.slice _ _ _,.slice _ _ _,.slice _ _ _,.slice _ _ _]) 2 hS sizeOf28 fun _ hS=>?_)
 have hS:=hS.iB 55 8;simp only [aK] at hS
 go_loopw [42] (fun v wr=>∃ (k:Nat) (F S':Nat→Prop) (wq:World) (ad:Option Addr) (c:Nat) (prs:List PR),k≤gs.length∧v=.int .i64 (k:Int)∧aA w wr [.aH F wq,.aB b4 (.cells #[.slice none 0 0,.slice none 0 0,.slice none 0 0,.slice none 0 0] 28 (0,0)),.aB b7 (.cells #[.slice lY os.length cs,.slice jo gs.length ct,.slice ad k c,.slice none 0 0] 28 (0,0)),.row (.slice ad k c) 55 8 k (prs.flatMap pc)]∧(∀ k,S' k→F k)∧(∀ k,Old w k→F k)∧Pure w S wq S'∧NB wq S' os gs ao co ap cp lY cs jo ct∧ez wq S' prs ((gs.take k).map Gp.pt)) (fun v _=>gs.length - (intOf v).toNat)
 case atStart=>exact⟨0,_,_,_,_,_,[],by omega,rfl,hS,aQ,bP,bR,hn,ez.nil _ _⟩
 case round =>
  clear hS aQ bP bR hn;obtain⟨k,F0,S0,wq,ad,c,prs,hk,rfl,hS,aC,bC,bD,hn,ps⟩:=hrel
  by_cases cW:k<gs.length
  ·skip
   have yu:=hn.g.weaken aC;obtain⟨g,jK⟩:∃ g,nth g0 gs k=g:=⟨_,rfl⟩;have hc:=eS yT g0 cW;rw [jK] at hc;have jG:=qm g (by rw [← jK];exact cQ g0 gs k cW);have ig:bQ g.x∧bQ g.y:=by unfold Gp.ok fS at jG;unfold bQ;omega
   have gtk:(gs.take (k+1)).map Gp.pt=(gs.take k).map Gp.pt++[g.pt]:=by rw [nk g0 gs k cW,jK];simp
   clear jK jG;replace gtk:=Hd gtk
   go_wp2_with (with_reducible first|refine iH underlying24 sizeOf43 yu hc fun bq oq bO=>?_|refine j9 hS isAgg43 sizeOf43 ?_|refine bH hS zeroValue43 fun b9 xX hS=>?_|refine aJ (u:=.agg #[_,_]) 4 hS sizeOf43 fun _ hS=>?_)
   clear yu hc;refine dB [.p 0,.r 1,.r 2,.e 3,.e 4,.m 5,.p 6,.m 7] [5,7] hS fun w1 hS=>?_
   obtain⟨aI,aT⟩:=hS.jw
   repeat (with_reducible first|refine cZ 2 isAgg25 ?_|refine cz 4 isAgg43 sizeOf43 ?_|refine bU ?_)
   refine aZ ?_
   go_wp2_with (fail)
   refine (o6 g.x g.y _ S0 ig.1 ig.2 (aP.at hS aC)).mono ?_;rintro e w' ⟨z,S1,rfl,hq,hz⟩;simp only [];go_step;have hn:=(hn.at hS aC).grow hq;have ps:=(ps.at hS aC).grow hq;have aT:=aA.fC hS hq.below aI aT;replace hS:=hS.aj aC bC bD hq;obtain⟨F1,aG,gp,bB,av,hS⟩:=hS;have aI:=dZ.trans aI gp;refine aX (aA.gA hS.sb aI aT) ?_;refine aM ?_;refine aZ ?_
   ((with_reducible refine dV (T:=25) ?_);refine fZ (T:=25) (v:=.agg #[.bool _,.slice _ _ _,.bool _,.slice _ _ _,.bool _,.slice _ _ _,.bool _,.slice _ _ _]) hS underlying25 sizeOf55 zeroValue55 rfl rfl rfl (by decide) (by decide) rfl (fun bl fX hS=>?_);simp only [aD];simp only [Value.cells] at hS)
   refine aX (aA.gA hS.sb aI aT) ?_;refine aM ?_;refine dC ?_
   ((with_reducible refine eG ?_);refine fw (t:=25) 3 hS underlying25 a2B rfl (by decide) rfl rfl rfl rfl (pc1 z) (by omega) (by unfold maxLen;omega) (fun dU gL _ hS=>?_);simp only [aD];simp only [aK] at hS)
   refine dD ?_;refine aM ?_;refine dC ?_
   (with_reducible refine aJ (u:=.slice _ _ _) 2 hS sizeOf25 fun _ hS=>?_)
   refine dD ?_;refine aM ?_;refine bE ?_;have a5d:=ps.snoc hz;have dp:(prs++[z]).flatMap pc=prs.flatMap pc++pc z:=by simp
   replace dp:=Hd dp;replace a5d:=Hd a5d;go_wp2;go_roundw
   case rel=>exact⟨k+1,F1,S1,_,dU,gL,prs++[z],by omega,rfl,by rw [dp.out];exact hS.sb,aG,av,bB,hn,by rw [gtk.out];exact a5d.out⟩
   case measure=>simp [intOf];omega
  ·obtain rfl:k=gs.length:=by omega
   rw [List.take_length] at ps;replace ps:=Hd ps;have lS:gs.length≤4096:=by omega
   go_wp2_with (first|((with_reducible refine r7 (T:=98) ?_);refine aML (n:=os.length) (T:=98) (E:=25) hS underlying98 aRj rfl rfl (by omega) (by omega) (fun bp wbp hS=>?_);simp only [aD];simp only [aK] at hS))
   go_loopw [59] (fun v wr=>∃ (F S':Nat→Prop) (wq:World) (ad:Option Addr) (m c:Nat) (prs:List PR) (pp:List (List Pt)) (vs:List Value),v=.int .i64 (pp.length:Int)∧aA w wr [.aH F wq,.aB b4 (.cells #[.slice none 0 0,.slice none 0 0,.slice none 0 0,.slice none 0 0] 28 (0,0)),.aB b7 (.cells #[.slice lY os.length cs,.slice jo gs.length ct,.slice ad m c,.slice none 0 0] 28 (0,0)),.row (.slice ad m c) 55 8 m (prs.flatMap pc),.aB bp (.cells vs.toArray 25 (0,0))]∧(∀ k,S' k→F k)∧(∀ k,Old w k→F k)∧Pure w S wq S'∧NB wq S' os gs ao co ap cp lY cs jo ct∧ez wq S' prs (gs.map Gp.pt++pp.flatten)∧pV wq S' os gs vs pp∧m≤gs.length+pp.length*(2+2*os.length+gs.length)) (fun v _=>os.length - (intOf v).toNat)
   case atStart=>exact⟨F0,S0,_,_,_,_,_,[],List.replicate os.length a7w,rfl,hS,aC,bC,bD,hn,by simpa using ps.out,pV.start _ _ _ _,by simp⟩
   case round =>
    clear hS aC bC bD hn ps;obtain⟨F0,S0,wq,ad,m,c,prs,pp,vs,rfl,hS,aC,bC,bD,hn,ps,pu,hm⟩:=hrel;have jP:=pu.pl
    have hmX:m≤gs.length+os.length*(2+2*os.length+gs.length):=by
     have h1:pp.length*(2+2*os.length+gs.length)≤os.length*(2+2*os.length+gs.length):=Nat.mul_le_mul_right _ jP;omega
    have hmb:m≤65536:=by have:=hB.out;omega
    replace hmX:=Hd hmX
    by_cases cW:pp.length<os.length
    ·replace hm:=Hd hm
     obtain⟨k,hk⟩:∃ k,pp.length=k:=⟨_,rfl⟩;obtain⟨t,ht⟩:∃ t,nth s0 os k=t:=⟨_,rfl⟩;have pI:=cJ t (by rw [← ht];exact cQ s0 os k (by omega));have hc:=eS tc s0 (show k<os.length by omega);rw [ht] at hc;have dS:=hn.v.weaken aC;rw [hk];obtain⟨a1,c1,e1⟩:∃ a1 c1,sG ao co 0 k 4=.slice a1 k c1:=⟨_,_,rfl⟩;obtain⟨a2,c2,e2⟩:∃ a2 c2,sG ao co (k+1) os.length 4=.slice a2 (os.length - (k+1)) c2:=⟨_,_,rfl⟩
     have aXb:os.length≤co:=by
      obtain⟨_,a,cap,h2,h3,_⟩:=hn.v;simp only [Value.slice.injEq] at h2;omega
     have nT:IntKind.i64.wrap ((k:Int)+1)=((k+1:Nat):Int):=Go.Hp.w7;have n1:=hn.v.sub (j:=0) (m:=k) (by omega) (by omega);have n2:=hn.v.sub (j:=k+1) (m:=os.length) (by omega) (by omega);rw [e1] at n1;rw [e2] at n2;rw [a29 tc,Nat.zero_mul,List.drop_zero] at n1;rw [a29 tc,List.take_length,a8P tc] at n2;have n1:bN wq S0 4 (.slice a1 k c1) (os.take k).length ((os.take k).flatMap sc):=by rw [List.length_take,Nat.min_eq_left (by omega)];exact n1
     have n2:bN wq S0 4 (.slice a2 (os.length - (k+1)) c2) (os.drop (k+1)).length ((os.drop (k+1)).flatMap sc):=by rw [List.length_drop];exact n2
     have cD:=aF9 (show k<os.length by omega);have hko:k<os.length:=by omega
     replace cD:=Hd cD;replace e1:=Hd e1;replace e2:=Hd e2;replace ht:=Hd ht;replace hk:=Hd hk
     go_wp2_with (with_reducible first|refine iH underlying23 sizeOf94 dS hc fun bq oq bO=>?_|refine j9 hS isAgg94 sizeOf94 ?_|refine bH hS zeroValue94 fun qH a1h hS=>?_|refine aJ (u:=.agg #[_,_,_,_]) 5 hS sizeOf94 fun _ hS=>?_)
     clear dS hc;refine dB [.p 0,.p 1,.p 2,.p 3,.p 4,.p 5,.p 6,.e 7,.e 8,.p 9] [] hS fun w1 hS=>?_
     obtain⟨aI,aT⟩:=hS.jw
     repeat (first|((with_reducible refine kM ?_);refine j3 rfl rfl (aGn (T:=23) (m:=k) underlying23 sizeOf94 rfl rfl rfl (by omega) e1.out ?_);simp only [aD])|((with_reducible refine kM ?_);refine j3 rfl rfl (aMr (T:=23) (j:=k+1) underlying23 sizeOf94 rfl rfl rfl (by omega) e2.out ?_);simp only [aD])|(with_reducible refine bU ?_))
     refine aZ ?_
     ((with_reducible refine dV (T:=156) ?_);refine nc (k:=1) (z:=.slice none 0 0) (len:=2) hS underlying156 sizeOf23 zeroValue23 (by decide) (by decide) (aJm _ _ _ _ _ _) (fun b71 aXs hS=>?_);simp only [aD];simp only [aK] at hS)
     refine aX (aA.gA hS.sb aI aT) ?_;refine aM ?_;refine aZ ?_
     go_wp2_with (fail)
     refine (aNO b71 a1 a2 k c1 (os.length - (k+1)) c2 (os.take k) (os.drop (k+1)) _ S0 (aP.at hS aC) (bN.ve (k:=1) (n:=2) hS (bW (i:=6) rfl) rfl (by decide)) (Chunk.lt (hS.ok _ (bW (i:=6) rfl)) (c:=.aB b71 _) rfl) (n1.at hS aC) (n2.at hS aC) (by rw [List.length_take];omega) (by rw [List.length_drop];omega)).mono ?_;rintro e w5 ⟨ad5,c5,S5,rfl,hq,hot⟩;rw [show (os.take k++os.drop (k+1)).length=os.length - 1 from cD.out] at hot ⊢;clear n1 n2;have hn:=(hn.at hS aC).grow hq;have ps:=(ps.at hS aC).grow hq;have pu:=(pu.at hS aC).grow hq;have aT:=aA.fC hS hq.below aI aT;replace hS:=hS.aj aC bC bD hq;obtain⟨F1,aG,gp,bB,av,hS⟩:=hS;have aI:=dZ.trans aI gp;simp only [];go_step;refine aX (aA.gA hS.sb aI aT) ?_;refine aM ?_;refine bE ?_;have hot:bN w5 S5 4 (.slice ad5 (os.length - 1) c5) (pP os k).length ((pP os k).flatMap sc):=by rw [cD.out];exact hot
     have td:∀ t ∈ pP os k,t.ok:=fun t h=>cJ t (aMK h)
     have aSp:(pP os k).length≤600:=by have:=cD.out;omega
     clear e1 e2 aI aT
     go_wp2_with (with_reducible refine bA 5 hS isAgg94 sizeOf94 ?_)
     refine (aNu t (pP os k) gs ad5 ap (os.length - 1) c5 gs.length cp _ S5 (aP.at hS aG) pI td qm (hot.at hS aG) (hn.g.at hS aG) aSp (by omega)).mono ?_;rintro e w6 ⟨ad6,n6,c6,xZ,l,S6,rfl,hq,sK,hpa⟩;have hn:=(hn.at hS aG).grow hq;have ps:=(ps.at hS aG).grow hq;have pu:=(pu.at hS aG).grow hq;replace hS:=hS.aj aG av bB hq;obtain⟨F2,aQ,-,bR,bP,hS⟩:=hS;obtain rfl:n6=l.length:=by obtain⟨h1,a,cap,h2,_⟩:=sK.sl;cases h2;rfl
     have eJ:=hpa.two pI.2.2;have uJ:=sK.ps.len;have aYo:=hpa.len;have oF:l.length≤4096:=by have:=cD.out;omega
     have eo:decide ((l.length:Int)<2)=false:=by simp;omega
     have mM:IntKind.i64.wrap ((l.length:Int) - 1)=((l.length - 1:Nat):Int):=Go.Hp.w7;have c0:((xZ.flatMap pc).drop ((0:Int).toNat*8)).take 8=pc (nth p0 xZ 0):=eS gF p0 (by omega);have c9:=eS gF p0 (show l.length - 1<xZ.length by omega);have i0:=sK.ps.el 0 (by omega);have i9:=sK.ps.el (l.length - 1) (by omega)
     have aW:(nth au l 0).lt (nth au l (l.length - 1)):=by
      rw [bS au l 0 (by omega),bS au l (l.length - 1) (by omega)];exact List.pairwise_iff_getElem.1 hpa.sorted 0 (l.length - 1) (by omega) (by omega) (by omega)
     have fg:mW (nth au l 0) (nth au l (l.length - 1)) = -1:=by
      have h1:=a3s.2 aW;have h2:=aP9 (nth au l 0) (nth au l (l.length - 1));omega
     obtain⟨m0,f0⟩:∃ m0,nth p0 xZ 0=m0:=⟨_,rfl⟩;obtain⟨m9,f9⟩:∃ m9,nth p0 xZ (l.length - 1)=m9:=⟨_,rfl⟩;obtain⟨y0,g0'⟩:∃ y0,nth au l 0=y0:=⟨_,rfl⟩;obtain⟨y9,g9⟩:∃ y9,nth au l (l.length - 1)=y9:=⟨_,rfl⟩;rw [f0] at c0 i0;rw [f9] at c9 i9;rw [g0'] at i0 fg;rw [g9] at i9 fg;clear f0 f9 g0' g9 aW hot td;have dg:=sK.sl.weaken aQ;replace fg:=Hd fg;have lP:=pu.vl;go_wp2;refine dB [.p 0,.p 1,.r 2,.p 3,.p 4,.p 5,.p 6,.p 7,.r 8,.e 9,.p 10] [] hS fun w1 hS=>?_
     have hC:=hS
     repeat (first|((with_reducible refine kM ?_);refine j3 rfl rfl (lI (T:=25) underlying25 sizeOf55 rfl rfl dg (by omega) (by omega) (by omega) (fun bq oq bO=>?_));rw [c0] at bO;simp only [aD])|(with_reducible first|refine e9 underlying25 sizeOf55 dg c9 fun bq oq bO=>?_|refine qE isAgg55 sizeOf55 ?_|refine bU ?_))
     refine aZ ?_
     go_wp2_with (fail)
     refine (a3H m0 m9 y0 y9 _ S6 (i0.at hS aQ) (i9.at hS aQ) (aP.at hS aQ)).mono ?_;rintro e w' ⟨rfl,hq⟩;simp only [];go_step;rw [fg.out];clear i0 i9 c0 c9 fg;have hS:=hS.below hq.below hq.drawn;have hC:=hC.below hq.below hq.drawn;clear hq;refine aX hC ?_;refine aM ?_;refine bE ?_;clear hC;have hkv:k<vs.length:=by omega
     go_wp2_with (first|(with_reducible refine kW underlying98 sizeOf25 ?_)|((with_reducible refine gK (T:=25) ?_);refine aSq (T:=25) (k:=k) 4 hS rfl rfl rfl sizeOf25 rfl rfl hkv (fun _ hS=>?_);simp only [aD];simp only [aK] at hS)|(with_reducible refine aU 2 hS isAgg25 ?_)|((with_reducible refine eG ?_);refine uA (t:=25) 3 hS underlying25 a2B rfl (by decide) rfl rfl rfl dg (by simp) (a9V xZ) (by omega) (by unfold maxLen;omega) (fun ad7 c7 _ hS=>?_);simp only [aD];simp only [aK] at hS)|(with_reducible refine aJ (u:=.slice _ _ _) 2 hS sizeOf25 fun _ hS=>?_))
     have a5d:=ps.append sK.ps;have dp:(prs++xZ).flatMap pc=prs.flatMap pc++xZ.flatMap pc:=List.flatMap_append;have iE:=hk.out;subst iE;have db:=pu.step cW sK (by rw [ht.out];exact hpa)
     have pj:m+l.length≤gs.length+(pp.length+1)*(2+2*os.length+gs.length):=by
      have h1:=hm.out;have h2:=cD.out;rw [Nat.add_mul,Nat.one_mul];omega
     have a1V:gs.map Gp.pt++(pp++[l]).flatten=(gs.map Gp.pt++pp.flatten)++l:=by simp
     replace dp:=Hd dp;replace a1V:=Hd a1V;replace pj:=Hd pj;go_wp2;go_roundw
     case rel=>exact⟨F2,S6,_,ad7,m+l.length,c7,prs++xZ,pp++[l],vs.set pp.length (.slice ad6 l.length c6),by simp,by rw [dp.out];exact hS.sb,aQ,bP,bR,hn,by rw [a1V.out];exact a5d,db,by simpa using pj.out⟩
     case measure=>simp [intOf];omega
    ·have iS:pp.length=os.length:=by omega
     rw [iS];replace iS:=Hd iS;clear hm
     go_wp2_with (with_reducible refine aU 2 hS isAgg25 ?_)
     have hj:([.aB b4 (.cells #[.slice none 0 0,.slice none 0 0,.slice none 0 0,.slice none 0 0] 28 (0,0)),.aB b7 (.cells #[.slice lY os.length cs,.slice jo gs.length ct,.slice ad m c,.slice none 0 0] 28 (0,0)),.row (.slice ad m c) 55 8 m (prs.flatMap pc),.aB bp (.cells vs.toArray 25 (0,0))]:List Chunk)[2]? = some (.row (.slice ad m c) 55 8 m (prs.flatMap pc)):=rfl;refine (aRE 2 hS aC ps hj (by omega)).mono ?_;rintro e w7 ⟨rfl,aXp,l7,hS7,ps7,mT,hs7⟩;clear hS ps hj;have hS:=hS7;clear hS7;simp only [aK] at hS;simp only [];replace mT:=Hd mT
     go_wp2_with (with_reducible refine aU 2 hS isAgg25 ?_)
     have hS:=hS.order [0,1,2,4,3] rfl;simp only [iw] at hS;refine (aWA (A:=[_,_,_]) hS aC ps7 hs7 (by omega)).mono ?_;rintro e w8 ⟨N,a3I,V,rfl,hS8,ps8,yI,hmV,hNm⟩;clear hS ps7 hs7;have hS:=hS8;clear hS8;simp only [aK] at hS
     have kp:N=V.length:=by
      have:=(hS.dn 4 rfl).1;rw [nB gF,ps8.len] at this;omega
     subst kp
     have hVm:∀ x,x ∈ V↔x ∈ gs.map Gp.pt∨∃ l ∈ pp,x ∈ l:=by
      intro x;rw [hmV x,mT.out.mem_iff,List.mem_append,List.mem_flatten]
     have hV4:V.length≤4096:=by
      rcases hVB.out with h|h
      ·have:=hmX.out;omega
      ·exact h V yI (fun x hx=>aPt cJ iS.out pu.ok ((hVm x).1 hx))
     have eo:decide ((4096:Int)<(V.length:Int))=false:=by simp;omega
     clear hmV mT;replace hVm:=Hd hVm;replace yI:=Hd yI;simp only []
     go_wp2_with (first|(with_reducible first|refine aJ (u:=.slice _ _ _) 2 hS sizeOf25 fun _ hS=>?_|refine aU 2 hS isAgg25 ?_)|((with_reducible refine a16 (T:=107) ?_);refine a3L hS (fun bo wbo hS=>?_);simp only [aD];simp only [aK] at hS)|((with_reducible refine a16 (T:=108) ?_);refine a3L hS (fun bd wbd hS=>?_);simp only [aD];simp only [aK] at hS))
     have hS:=hS.order [0,1,2,3,5,6,4] rfl;simp only [iw] at hS;obtain⟨S9,a3R⟩:∃ S9:Nat→Prop,S9=fun k=>S0 k∨∃ c' ∈ [Chunk.row (.slice ad V.length c) 55 8 V.length (a3I.flatMap pc)],c'.has k:=⟨_,rfl⟩
     obtain⟨F9,a7h⟩:∃ F9:Nat→Prop,F9=fun k=>F0 k∨∃ c' ∈ [Chunk.row (.slice ad V.length c) 55 8 V.length (a3I.flatMap pc)],c'.has k:=⟨_,rfl⟩
     have hp9:=aA.aEE (L:=[_,_,_,_,_]) (R:=[_]) hS bC aC bD;have hS9:=aA.aE1 [_,_,_,_,_] [_] hS;rw [← a3R] at hp9;rw [← a7h] at hS9
     have jO:∀ k,S9 k→F9 k:=fun k h=>by
      rw [a3R] at h;rw [a7h]
      rcases h with h|h
      ·exact .inl (aC k h)
      ·exact .inr h
     have xF:∀ k,Old w k→F9 k:=fun k h=>by rw [a7h];exact .inl (bC k h)
     have a73:∀ k,S0 k→S9 k:=fun k h=>by rw [a3R];exact .inl h
     have hV:PL _ S9 (.slice ad V.length c) a3I V:=⟨(hS.dn 6 rfl).weaken (fun k h=>by rw [a3R];exact .inr ⟨_,by simp,h⟩),(ps8.at hS aC).weaken a73⟩;have hn9:=(hn.at hS aC).weaken a73;have pu9:=(pu.at hS aC).weaken a73;clear hS hn pu ps8 bD aC bC a3R a7h a73 hNm hmb lS;have hS:=hS9;clear hS9;have gO:V.length≤4096:=by simp at eo;omega
     clear eo;go_wp2;have hS:aA w _ (.aH F9 _::.aB b4 (.cells #[.slice none 0 0,.slice none 0 0,.slice none 0 0,.slice none 0 0] 28 (0,0))::.aB b7 (.cells #[.slice lY os.length cs,.slice jo gs.length ct,.slice ad V.length c,.slice none 0 0] 28 (0,0))::.aB bp (.cells vs.toArray 25 (0,0))::.aB bo (.map #[] 0)::.aB bd (.map #[] 0)::([]:List bK).map (bK.ch 3)):=hS;have aLc:=pu9.vl;try simp only [fA]
     go_loopw [128] (fun v wr=>∃ (i:Nat) (tr:List Step) (R:List bK) (D:List ((Nat × Nat) × Gp)) (oo od:Obj),i≤os.length∧v=.int .i64 (i:Int)∧aA w wr (.aH F9 wbd::.aB b4 (.cells #[.slice none 0 0,.slice none 0 0,.slice none 0 0,.slice none 0 0] 28 (0,0))::.aB b7 (.cells #[.slice lY os.length cs,.slice jo gs.length ct,.slice ad V.length c,.slice none 0 0] 28 (0,0))::.aB bp (.cells vs.toArray 25 (0,0))::.aB bo oo::.aB bd od::R.map (bK.ch 3))∧gj pk sv oo (R.map bK.s)∧gj pk gvv od D∧uq tr (R.map bK.g)∧xb (fun i=>fN (nth s0 os i)) tr D∧rC V pp i 1 tr∧tr.length≤i*4096) (fun v _=>os.length - (intOf v).toNat)
     case atStart=>exact⟨0,[],[],[],_,_,by omega,rfl,hS,gj.empty _ _,gj.empty _ _,uq.nil,xb.nil _,rC.nil V pp,by simp⟩
     case round =>
      clear hS;obtain⟨i,tr,R,D,oo,od,hi,rfl,hS,jr,xA,hG,hD,hT,tj⟩:=hrel
      by_cases dj:i<os.length
      ·have hip:i<pp.length:=by have:=iS.out;omega
       obtain⟨adl,nl,cl,prl,aIE,uQ⟩:=pu9.el i hip;have hval:vs.toArray[i]? = some (.slice adl nl cl):=by rw [← aIE,bS a7w vs i (by omega)];simp [aLc,dj]
       have bG:=pu9.ok i hip;obtain⟨l,hl⟩:∃ l,nth [] pp i=l:=⟨_,rfl⟩;have a5D:pp[i]? = some l:=by rw [← hl,bS [] pp i hip];exact List.getElem?_eq_getElem hip
       rw [hl] at uQ bG;obtain rfl:nl=l.length:=by obtain⟨h1,a,cap,h2,_⟩:=uQ.sl;cases h2;rfl
       have hlV:∀ x ∈ l,x ∈ V:=fun x hx=>(hVm.out x).2 (.inr ⟨l,bW a5D,hx⟩)
       obtain⟨t,ht⟩:∃ t,nth s0 os i=t:=⟨_,rfl⟩;have pI:=cJ t (by rw [← ht];exact cQ s0 os i dj);have hcs:=eS tc s0 dj;rw [ht] at bG hcs;have eJ:=bG.two pI.2.2
       have oF:l.length≤4096:=by
        have h0:=bG.len;have h3:=aF9 dj;omega
       have uJ:=uQ.ps.len;have fq:=bG.sorted;have dS:=hn9.v.weaken jO;have dg:=uQ.sl.weaken jO;replace fq:=Hd fq;replace hlV:=Hd hlV;replace ht:=Hd ht;replace a5D:=Hd a5D;clear bG hl aIE hip
       go_wp2_with (first|(with_reducible refine kW underlying98 sizeOf25 ?_)|((with_reducible refine dq (T:=25) ?_);refine dI hS rfl (zD (T:=25) 3 isAgg25 rfl rfl hval ?_);simp only [aD]))
       clear hval
       try try simp only [fA]
       go_loopw [20] (fun v wr=>∃ (k:Nat) (tr:List Step) (R:List bK) (D:List ((Nat × Nat) × Gp)) (oo od:Obj),1≤k∧k≤l.length∧v=.int .i64 (k:Int)∧aA w wr (.aH F9 wbd::.aB b4 (.cells #[.slice none 0 0,.slice none 0 0,.slice none 0 0,.slice none 0 0] 28 (0,0))::.aB b7 (.cells #[.slice lY os.length cs,.slice jo gs.length ct,.slice ad V.length c,.slice none 0 0] 28 (0,0))::.aB bp (.cells vs.toArray 25 (0,0))::.aB bo oo::.aB bd od::R.map (bK.ch 3))∧gj pk sv oo (R.map bK.s)∧gj pk gvv od D∧uq tr (R.map bK.g)∧xb (fun i=>fN (nth s0 os i)) tr D∧rC V pp i k tr∧tr.length≤i*4096+k) (fun v _=>l.length - (intOf v).toNat)
       case atStart=>exact⟨1,tr,R,D,oo,od,by omega,by omega,rfl,hS,jr,xA,hG,hD,hT,by omega⟩
       case round =>
        clear hS jr xA hG hD hT tj;obtain⟨k,tr,R,D,oo,od,fm,hkn,rfl,hS,jr,xA,hG,hD,hT,tj⟩:=hrel
        by_cases cW:k<l.length
        ·obtain⟨q,hqk⟩:∃ q,q+1=k:=⟨k - 1,by omega⟩
         have nT:IntKind.i64.wrap ((k:Int) - 1)=(q:Int):=Go.Hp.w7;have c1:=eS gF p0 (show q<prl.length by omega);have c2:=eS gF p0 (show k<prl.length by omega);have i1:=uQ.ps.el q (by omega);have i2:=uQ.ps.el k (by omega);obtain⟨m1,f1⟩:∃ m1,nth p0 prl q=m1:=⟨_,rfl⟩;obtain⟨m2,f2⟩:∃ m2,nth p0 prl k=m2:=⟨_,rfl⟩;obtain⟨y1,g1⟩:∃ y1,nth au l q=y1:=⟨_,rfl⟩;obtain⟨y2,g2⟩:∃ y2,nth au l k=y2:=⟨_,rfl⟩;have wE:l[q]? = some y1:=by rw [← g1,bS au l q (by omega)];exact List.getElem?_eq_getElem _
         have tT:l[q+1]? = some y2:=by rw [hqk,← g2,bS au l k cW];exact List.getElem?_eq_getElem _
         rw [f1] at c1 i1;rw [f2] at c2 i2;rw [g1] at i1;rw [g2] at i2;clear f1 f2 g1 g2;have aT5:=hlV.out y1 (bW wE);have aNx:=hlV.out y2 (bW tT);replace wE:=Hd wE;replace tT:=Hd tT;have aWP:q<l.length:=by omega
         replace hqk:=Hd hqk;go_wp2;refine dB [.p 0,.r 1,.p 2,.p 3,.p 4,.p 5,.r 6,.e 7,.p 8,.p 9,.p 10,.p 11,.p 12] [] hS fun w1 hS=>?_
         have hC:=hS
         repeat (with_reducible first|refine cZ 2 isAgg25 ?_|refine e9 underlying25 sizeOf55 dg c1 fun bq oq bO=>?_|refine qE isAgg55 sizeOf55 ?_|refine bU ?_)
         refine aZ ?_
         go_wp2_with (fail)
         refine (aCo ad V.length c a3I V m1 y1 _ S9 (hV.at hS jO) (i1.at hS jO) (aP.at hS jO) yI.out (by omega)).mono ?_;rintro e w' ⟨⟨u,hu,rfl⟩,hq⟩;simp only [];go_step;have hu:=hu.at yI.out aT5;obtain⟨d1,eo⟩:∃ d1,decide (u<V.length∧nth au V u=y1)=d1:=⟨_,rfl⟩;rw [eo];clear eo c1 i1;replace hu:=Hd hu;have hS:=hS.below hq.below hq.drawn;have hC:=hC.below hq.below hq.drawn;clear hq;refine aX hC ?_;refine aM ?_;refine bE ?_;clear hC;go_wp2;refine dB [.p 0,.r 1,.p 2,.p 3,.p 4,.r 5,.e 6,.p 7,.p 8,.p 9,.p 10,.p 11] [] hS fun w1 hS=>?_
         have hC:=hS
         repeat (with_reducible first|refine cZ 2 isAgg25 ?_|refine e9 underlying25 sizeOf55 dg c2 fun bq oq bO=>?_|refine qE isAgg55 sizeOf55 ?_|refine bU ?_)
         refine aZ ?_
         go_wp2_with (fail)
         refine (aCo ad V.length c a3I V m2 y2 _ S9 (hV.at hS jO) (i2.at hS jO) (aP.at hS jO) yI.out (by omega)).mono ?_;rintro e w' ⟨⟨v,hv,rfl⟩,hq⟩;simp only [];go_step;have hv:=hv.at yI.out aNx;obtain⟨d2,fH⟩:∃ d2,decide (v<V.length∧nth au V v=y2)=d2:=⟨_,rfl⟩;rw [fH];clear fH c2 i2;replace hv:=Hd hv;have hS:=hS.below hq.below hq.drawn;have hC:=hC.below hq.below hq.drawn;clear hq;refine aX hC ?_;refine aM ?_;refine bE ?_;clear hC;obtain⟨R1,r,R2,dw,hSr⟩:=aRH (L:=[_,_,_,_,_,_]) hS hG.nd (u,v);simp only [aK] at hSr;clear hS;have hS:=hSr;clear hSr
         have sz:r.n≤100000000:=by
          have h1:=(hS.dn (6+R1.length) (v:=.slice r.ad r.n r.c) (n:=r.n) (cs:=iv (zs r.is)) (Tb:=3) (k:=1) (by
           rw [show 6+R1.length=R1.length+6 by omega];simp only [List.getElem?_cons_succ];rw [List.map_append,List.map_cons,List.getElem?_append_right (by simp)];simp [bK.ch])).1
          rw [tK,vC,← dw.aJM,hG.bj,List.length_map] at h1;have h2:=List.length_filter_le (fun t:Step=>decide (t.2=(u,v))) tr;have h3:i*4096≤512*4096:=Nat.mul_le_mul_right _ (by omega);omega
         have a4H:=fun ad c=>dw.step (ad:=ad) (c:=c) (i:=i)
         have kJ:=dw.get;replace kJ:=Hd kJ;replace dw:=Hd dw;replace a4H:=Hd a4H;replace tj:=Hd tj
         go_wp2_with (first|((with_reducible refine bH hS zeroValue110 fun b25 aXX hS=>?_);have hS:=aA.aAU [_,_,_,_,_,_] _ _ hS;simp only [aK] at hS)|(with_reducible first|refine aJ (u:=.agg #[_,_]) 6 hS sizeOf110 fun _ hS=>?_|refine bA 6 hS isAgg110 sizeOf110 ?_)|((with_reducible refine dV (T:=22) ?_);refine fZ (T:=22) (v:=.int .i64 _) hS underlying22 sizeOf3 zeroValue3 rfl rfl rfl (by decide) (by decide) rfl (fun bl fX hS=>?_);simp only [aD];simp only [Value.cells] at hS)|((with_reducible refine aOg (T:=107) ?_);refine aOD (ev:=sv) (k:=(u,v)) (z:=(none,0,0)) 4 hS underlying107 zeroValue22 aD2 rfl rfl rfl jr rfl (fun oe we st hme cA hS=>?_);rw [kJ.out];simp only [aD];simp only [aK] at hS;simp only [sv])|((with_reducible refine eG ?_);refine aHT (L:=[_,_,_,_,_,_,_]) (R1:=R1) (R2:=R2) (r:=r) (i:=i) hS underlying22 tQ rfl rfl rfl sz (fun ad9 c9 _ hS=>?_);simp only [aD];simp only [aK] at hS)|((with_reducible refine aPH (T:=107) ?_);refine aQd (ev:=sv) (v:=(ad9,r.n+1,c9)) 4 hS (fun _ _=>aTK) rfl rfl rfl rfl hme cA rfl (fun ou wu hmu hS=>?_);simp only [aD];simp only [aK] at hS))
         refine dB [.p 0,.r 1,.p 2,.p 3,.p 4,.r 5,.e 6,.m 7] [7] hS fun w1 hS=>?_
         have hC:=hS
         repeat (with_reducible first|refine cz 6 isAgg110 sizeOf110 ?_|refine e9 underlying23 sizeOf94 dS hcs fun bq oq bO=>?_|refine qE isAgg94 sizeOf94 ?_|refine bU ?_)
         refine aZ ?_
         go_wp2_with (fail)
         refine (aUu t _ pI).mono ?_;rintro e w' ⟨rfl,hq⟩;simp only [];go_step;have hS:=hS.below hq.below hq.drawn;have hC:=hC.below hq.below hq.drawn;clear hq;refine aX hC ?_;refine aM ?_;refine dC ?_
         ((with_reducible refine a3x (T:=108) ?_);refine a1Z (ev:=gvv) (k:=(u,v)) (v:=fN t) 5 hS underlying108 aD2 rfl rfl rfl rfl xA rfl (fun ou2 wu2 aR5 hS=>?_);simp only [aD];simp only [aK] at hS)
         refine dD ?_;refine bE ?_;clear hC;have aIf:=hmu;rw [(a4H.out ad9 c9).1] at aIf;have pW:=hG.step i (u,v);rw [(a4H.out ad9 c9).2] at pW;have hD2:=hD.step i (u,v);simp only [ht.out] at hD2;have aOG:=hqk.out;have hT2:rC V pp i (q+2) (tr++[(i,(u,v))]):=rC.step yI.out (by rw [aOG];exact hT) a5D.out fq.out wE.out tT.out hu.out hv.out;rw [show q+2=k+1 by omega] at hT2;have aC4:(tr++[(i,(u,v))]).length≤i*4096+(k+1):=by rw [List.length_append,List.length_singleton];have:=tj.out;omega
         clear jr xA hG hD hT hme hmu cA dw a4H kJ;replace aC4:=Hd aC4;go_wp2;go_roundw
         case rel=>exact⟨k+1,_,_,_,_,_,by omega,by omega,by simp,hS.sb,aIf,aR5,pW,hD2,hT2,aC4.out⟩
         case measure=>simp [intOf];omega
        ·obtain rfl:k=l.length:=by omega
         have hT2:=hT.next a5D.out (Nat.le_refl _);go_wp2;go_roundw
         case rel=>exact⟨i+1,tr,R,D,oo,od,by omega,by simp,hS,jr,xA,hG,hD,hT2,by omega⟩
         case measure=>simp [intOf];omega
      ·obtain rfl:i=os.length:=by omega
       have hRb:∀ r ∈ R,∀ x ∈ r.is,x≤9223372036854775807:=by
        intro r hr x hx;rw [hG.val r.k r.is (List.mem_map.2 ⟨r,hr,rfl⟩),List.mem_map] at hx;obtain⟨⟨j,y⟩,ht,rfl⟩:=hx;obtain⟨q,hq,_⟩:=(hT.mem j y.1 y.2).1 (List.mem_filter.1 ht).1;simp only;omega
       have sa:R.length≤3000000:=by
        have h1:(R.map bK.g).map (·.1) ⊆ tr.map (·.2):=fun k hk=>by
         obtain⟨t,ht,e⟩:=(hG.key k).1 hk;exact List.mem_map.2 ⟨t,ht,e⟩
        have h2:=hG.nd.length_le_of_subset h1;simp only [List.length_map] at h2;have h3:os.length*4096≤512*4096:=Nat.mul_le_mul_right _ dg;omega
       obtain⟨S10,a4U⟩:∃ S10:Nat→Prop,S10=fun k=>S9 k∨∃ c' ∈ R.map (bK.ch 3),c'.has k:=⟨_,rfl⟩
       obtain⟨wD,aA1⟩:∃ wD:Nat→Prop,wD=fun k=>F9 k∨∃ c' ∈ R.map (bK.ch 3),c'.has k:=⟨_,rfl⟩
       have a2H:=aA.aEE (L:=[_,_,_,_,_]) (R:=R.map (bK.ch 3)) hS xF jO hp9;have a0P:=aA.aE1 [_,_,_,_,_] (R.map (bK.ch 3)) hS;rw [← a4U] at a2H;rw [← aA1] at a0P
       have mU:∀ k,S10 k→wD k:=fun k h=>by
        rw [a4U] at h;rw [aA1]
        rcases h with h|h
        ·exact .inl (jO k h)
        ·exact .inr h
       have a3U:∀ k,Old w k→wD k:=fun k h=>by rw [aA1];exact .inl (xF k h)
       have aFe:∀ k,S9 k→S10 k:=fun k h=>by rw [a4U];exact .inl h
       have aHY:∀ r ∈ R,jZ wr S10 (.slice r.ad r.n r.c) r.is:=fun r hr=>(aPs (L:=[_,_,_,_,_,_]) hS hr (hRb r hr)).weaken fun k h=>by rw [a4U];exact .inr h
       have aUX:=(hV.at hS jO).weaken aFe;have aF1:=(hn9.at hS jO).weaken aFe;have vT:=fun es dW hso=>eu.aMZ (es:=es) cJ iS.out pu9.ok yI.out hVm.out hT hG hD dW hso
       obtain⟨rO,hrO⟩:∃ rO:(Nat × Nat) × (Option Addr × Nat × Nat)→ER,rO=fun p=>⟨p.1.1,p.1.2,p.2.1,p.2.2.1,p.2.2.2,(eZ D p.1).getD g0⟩:=⟨_,rfl⟩
       have u9:∀ p ∈ R.map bK.s,ta wr S10 (rO p) (vF (R.map bK.g) D p.1):=by
        intro p hp;obtain⟨r,hr,rfl⟩:=List.mem_map.1 hp;rw [hrO];refine⟨rfl,rfl,rfl,?_⟩;have:eZ (R.map bK.g) r.k=some r.is:=a4C hG.nd (List.mem_map.2 ⟨r,hr,rfl⟩);simp only [vF,bK.s,this,Option.getD_some];exact aHY r hr
       have wJ:∀ k,k ∈ (R.map bK.g).map (·.1)↔k ∈ (R.map bK.s).map (·.1):=by
        intro k;rw [List.map_map,List.map_map];exact Iff.rfl
       clear hS hp9 jO xF hV hn9 pu9 aHY hRb a4U aA1 aFe hT hG hD tj hVm aLc iS;have hS:=a0P.iB 45 5;clear a0P;simp only [aK] at hS;replace vT:=Hd vT;replace u9:=Hd u9;replace wJ:=Hd wJ;replace hrO:=Hd hrO
       go_wp2_with (first|((with_reducible refine aFS (T:=107) ?_);refine aKM 4 hS underlying107 rfl rfl (by with_reducible assumption) rfl (fun bi obi wbi nE hS=>?_);simp only [aD];simp only [aK] at hS))
       try try simp only [fA]
       go_loopw [181] (fun _ wx=>∃ (d:List ((Nat × Nat) × (Option Addr × Nat × Nat))) (oi:Obj) (ade:Option Addr) (ce:Nat),pA pk sv bo oo oi (R.map bK.s) d∧aA w wx [.aH wD wr,.aB b4 (.cells #[.slice none 0 0,.slice none 0 0,.slice none 0 0,.slice none 0 0] 28 (0,0)),.aB b7 (.cells #[.slice lY os.length cs,.slice jo gs.length ct,.slice ad V.length c,.slice ade d.length ce] 28 (0,0)),.aB bp (.cells vs.toArray 25 (0,0)),.aB bo oo,.aB bd od,.row (.slice ade d.length ce) 45 5 d.length ((d.map rO).flatMap ec),.aB bi oi]) (fun _ wx=>R.length - a9j wx bi)
       case atStart=>exact⟨[],_,none,0,nE,hS⟩
       case round =>
        clear hS nE;obtain⟨d,oi,ade,ce,nE,hS⟩:=hrel;have dJ:=a7C nE (hS.aB (b:=bi) (o:=oi) (by simp));have mn:=a7X nE;rw [List.length_map] at mn
        repeat ((fail_if_success ((with_reducible refine a8W ?_)));go_step)
        ((with_reducible refine a8W ?_);refine aIi 4 7 hS rfl rfl rfl (by with_reducible assumption) rfl (fun wK=>?_) (fun kk vv oV w' cW hkd qn hS=>?_) <;> (simp only [aD];try simp only [aK] at hS))
        ·go_wp2_with (with_reducible refine aU 2 hS isAgg26 ?_)
         refine (aTn 6 hS rfl (by omega)).mono ?_;rintro e w11 ⟨rfl,zX,hpr,wz,a4Q⟩;clear hS;have hS:=a4Q;clear a4Q;simp only [aK] at hS;replace hpr:=Hd hpr;replace wz:=Hd wz;simp only []
         go_wp2_with (with_reducible first|refine bA 2 hS isAgg28 sizeOf28 ?_|refine aJ (u:=.agg #[.slice _ _ _,.slice _ _ _,.slice _ _ _,.slice _ _ _]) 1 hS sizeOf28 fun _ hS=>?_)
         have hn5:=(hS.dn 6 rfl).1;have qz:=hpr.out;have aXE:d.length=R.length:=by have:=wK.length_eq;simpa using this
         obtain⟨hdn,aX4⟩:=aVZ nE;obtain⟨es,dW,j0,hso⟩:=aU8 wK qz wz.out hdn u9.out wJ.out hrO.out
         have gV:d.length=es.length:=by
          rw [← dW.len,qz.length_eq,List.length_map]
         have bh:=hS.dn 6 rfl;refine jJ 1 hS rfl rfl rfl isAgg28 sizeOf28 rfl rfl ?_;refine⟨(lY,os.length,cs),(jo,gs.length,ct),(ad,V.length,c),(ade,d.length,ce),_,V,es,rfl,hS.a5W a3U mU a2H (bW (i:=5) rfl),⟨(aF1.s.at hS mU).weaken fun k h=>.inl h,(aF1.p.at hS mU).weaken fun k h=>.inl h,⟨a3I,(aUX.at hS mU).weaken fun k h=>.inl h⟩,⟨zX,?_,(dW.at hS mU).weaken fun k h=>.inl h⟩⟩,vT.out es j0 hso⟩;rw [← gV];exact bh.weaken fun k h=>.inr h
        ·go_wp2_with (first|((with_reducible refine aDP ?_);refine dI hS rfl (aFu 4 7 rfl rfl rfl qn ?_);simp only [aD];simp only [pk,sv])|(with_reducible first|refine bH hS zeroValue110 fun b26 aYt hS=>?_|refine aJ (u:=.agg #[_,_]) 8 hS sizeOf110 fun _ hS=>?_))
         refine dB [.p 0,.r 1,.p 2,.r 3,.p 4,.r 5,.p 6,.p 7,.r 8,.r 9,.p 10,.e 11,.m 12,.p 13,.m 14] [12,14] hS fun w1 hS=>?_
         obtain⟨aI,aT⟩:=hS.jw
         repeat (first|(with_reducible first|refine cZ 2 isAgg26 ?_|refine cZ 8 isAgg3 ?_|refine cz 8 isAgg110 sizeOf110 ?_)|((with_reducible refine l8 ?_);refine jh rfl rfl (aEi (ev:=gvv) (k:=kk) (z:=g0) 5 underlying108 zeroValue43 aD2 rfl rfl rfl xA ?_);simp only [aD];simp only [gvv])|(with_reducible refine bU ?_))
         refine aZ ?_
         ((with_reducible refine dV (T:=26) ?_);refine fZ (T:=26) (v:=.agg #[.int .i64 _,.int .i64 _,.slice _ _ _,.int .i64 _,.int .i64 _]) hS underlying26 sizeOf45 zeroValue45 rfl rfl rfl (by decide) (by decide) rfl (fun bl fX hS=>?_);simp only [aD];simp only [Value.cells] at hS)
         refine aX (aA.gA hS.sb aI aT) ?_;refine aM ?_;refine dC ?_
         ((with_reducible refine eG ?_);refine fw (t:=26) 6 hS underlying26 aO9 rfl (by decide) rfl rfl rfl rfl (by simp [Value.oneCell']) (by omega) (by unfold maxLen;omega) (fun dU gL _ hS=>?_);simp only [aD];simp only [aK] at hS)
         refine dD ?_;refine aM ?_;refine dC ?_
         (with_reducible refine aJ (u:=.slice _ _ _) 2 hS sizeOf26 fun _ hS=>?_)
         refine dD ?_;refine aM ?_;refine bE ?_;have dp:((d++[(kk,vv)]).map rO).flatMap ec=(d.map rO).flatMap ec++ec (rO (kk,vv)):=by simp
         have fv:ec (rO (kk,vv))=[.int .i64 kk.1,.int .i64 kk.2,.slice vv.1 vv.2.1 vv.2.2,.int .i64 ((eZ D kk).getD g0).x,.int .i64 ((eZ D kk).getD g0).y]:=by rw [hrO.out];rfl
         replace fv:=Hd fv;replace dp:=Hd dp;go_wp2;go_roundw
         case rel=>exact⟨d++[(kk,vv)],oV,dU,gL,qn,by rw [List.length_append,List.length_singleton,dp.out,fv.out];exact hS.sb⟩
         case measure =>
          have yi:=a7C qn (hS.aB (b:=bi) (o:=oV) (by simp));have aMV:=a7X qn;simp only [List.length_append,List.length_cons,List.length_nil,List.length_map] at yi aMV;simp only [dJ,yi];omega
theorem new_any (os:List Sz) (gs:List Gp) (ao ap:Option Addr) (no co np cp:Nat) (w:World) (S:Nat→Prop) (hL:aP w S) (cJ:∀ t ∈ os,t.ok) (qm:∀ g ∈ gs,g.ok) (hv:bN w S 4 (.slice ao no co) os.length (os.flatMap sc)) (hg:bN w S 2 (.slice ap np cp) gs.length (gs.flatMap gc)) (dg:os.length≤512) (hlg:gs.length≤256) (hB:gs.length+os.length*(2+2*os.length+gs.length)≤4096) :
 Calls prog 18 #[.slice ao no co,.slice ap np cp] w (aQz w S os gs) :=
 aVB os gs ao ap no co np cp w S hL cJ qm hv hg dg hlg (Nat.le_trans hB (by decide)) (.inl hB)
end Go.Hp
