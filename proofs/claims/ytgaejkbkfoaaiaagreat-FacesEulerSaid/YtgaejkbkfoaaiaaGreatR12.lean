/- Texts for the walk of the law: FN PN UA UB LV UC GN M11. -/
import Derived.Test.YtgaejkbkfoaaiaaGreatR11
import Derived.Test.YtgaejkbkfoaaiaaGreatR10
set_option maxRecDepth 100000
set_option maxHeartbeats 16000000
set_option linter.unusedVariables false
set_option linter.unusedSimpArgs false
namespace Go.Hp
open Go Go.RowKit Go.Proofs.Tryz
section
open Go.RowKit Go.Hp Go.Sort Go.Shelf
theorem aGL (a1 a2 a3 a4:Option Addr) (n1 c1 n2 c2 n3 c3 n4 c4:Nat) (rs:List ER) (es:List Ed) (prs:List PR) (V:List Pt) (m:Nat) (w:World) (S:Nat→Prop) (hA:kC w S a3 a4 n3 c3 n4 c4 rs es prs V m) (hm:8*m+8≤16384) (hd:∀ e ∈ es,e.dir.dir) (bJ:∀ e ∈ es,e.a≠e.b) (hV:V.Pairwise Pt.lt) (gV:es.length≤30000) (gO:V.length≤65536) :
 Calls prog 6 #[.agg #[.slice a1 n1 c1,.slice a2 n2 c2,.slice a3 n3 c3,.slice a4 n4 c4]] w fun e w'=>∃ (RL:List (List Nat)) (s1 s2 s3 s4 s5:Option Addr × Nat × Nat) (S':Nat→Prop),e=.returned (.tuple #[.agg #[sv s1,sv s2,sv s3,sv s4,sv s5],.int .i64 0])∧RL.length=V.length∧(∀ v,v<V.length→nU es v (nth [] RL v))∧Pure (nd w) S w' S'∧aP w' S'∧jb w' S' s1 s2 s3 s4 s5 (jR V es RL (fun v=>nR es (nth [] RL v))).fr:=by
 have my:=hA.n3;have j6:=hA.n4;subst my j6;have hS:=aA.oI w;have dY:=tb w;have aC:∀ k,S k→Old w k:=hA.live;have wH:=hA.live;have bC:=fun k (h:Old w k)=>h
 have bD:=Pure.oI w S
 go_enter func6,ntmps6
 go_wp2_with (with_reducible first|refine cI hS fun bx cu hS=>?_|refine bH hS zeroValue37 fun br fu hS=>?_|refine bA 1 hS isAgg28 sizeOf28 ?_)
 refine (aMN a1 a2 a3 a4 n1 c1 n2 c2 V.length c3 es.length c4 rs es _ S (aP.at hS aC) (hA.hE.move (hS.da aC)) (hA.jf.at hS aC) hd gV gO).mono ?_;rintro e wc ⟨RL,g,c,bm,o,l,F',S1,rfl,cU,hSF,hOF,hpc,sR,oO,sa,rH,zP⟩;obtain⟨F1,aG,gp,cK⟩:=hS.aTr aC hpc cU hOF hSF;have yX:=(hA.at hS aC).grow hpc;have bB:=(bD.step hS bC aC).trans hpc;have av:=fun k h=>gp k (bC k h)
 clear hS;have hS:=cK;clear cK cU hSF hOF hpc aC bC bD gp hA;simp only [aK] at hS;replace rH:=Hd rH;replace sa:=Hd sa
 go_wp2_with (with_reducible first|refine bH hS zeroValue22 fun b4 zS hS=>?_|refine aJ 5 hS sizeOf22 fun _ hS=>?_)
 refine G.aU4 [.r 0,.r 1,.p 2,.e 3] [.p 7] [.e 9] [] [⟨4,30,fun b=>.slice (some ⟨b,0,none⟩) 1 1,.cells #[.int .i64 (-1)] 3 (0,0)⟩,⟨5,31,fun b=>.slice (some ⟨b,0,none⟩) 1 1,.cells #[.slice none 0 0] 22 (0,0)⟩,⟨6,32,fun b=>.slice (some ⟨b,0,none⟩) 1 1,.cells #[.slice none 0 0] 22 (0,0)⟩] [⟨8,6,fun b=>.pointer (some ⟨b,0,none⟩),.cells #[.slice none 0 0,.slice none 0 0,.slice none 0 0,.slice none 0 0,.slice none 0 0] 37 (0,0)⟩] (nd w) _ (by kernel_rfl) (by as_aux_lemma=>kernel_rfl) ⟨fun p hp=>by
  simp only [List.cons_append,List.nil_append,List.mem_cons,List.not_mem_nil,or_false] at hp
  rcases hp with rfl|rfl|rfl|rfl
  ·exact⟨_,rfl,rfl,rfl,fun a w=>G.aCN (k:=1) (len:=1) (parts:=#[(0,.const (.int .i64 (-1)))]) (cells:=#[.int .i64 (-1)]) underlying22 sizeOf3 zeroValue3 (by decide) (by decide) a (a9W (z:=.int .i64 0) (v:=.int .i64 (-1)) (k:=1) rfl rfl (by decide)) w⟩
  ·exact⟨_,rfl,rfl,rfl,fun a w=>G.aCN (k:=1) (len:=1) (parts:=#[(0,.const (.slice none 0 0))]) (cells:=#[.slice none 0 0]) underlying35 sizeOf22 zeroValue22 (by decide) (by decide) a (a9W (z:=.slice none 0 0) (v:=.slice none 0 0) (k:=1) rfl rfl (by decide)) w⟩
  ·exact⟨_,rfl,rfl,rfl,fun a w=>G.aCN (k:=1) (len:=1) (parts:=#[(0,.const (.slice none 0 0))]) (cells:=#[.slice none 0 0]) underlying35 sizeOf22 zeroValue22 (by decide) (by decide) a (a9W (z:=.slice none 0 0) (v:=.slice none 0 0) (k:=1) rfl rfl (by decide)) w⟩
  ·exact⟨_,rfl,rfl,rfl,fun a w=>aIK zeroValue37 a w⟩,by decide,by decide⟩ hS.drew ?_
 refine G.aK6 rfl rfl (zD (T:=22) 5 isAgg22 rfl rfl rfl ?_);simp only [aD];refine G.aK6 rfl rfl (zD (T:=22) 5 isAgg22 rfl rfl rfl ?_);simp only [aD];refine G.aMB rfl rfl (fun K hK=>?_)
 go_simp
 refine hK _ ?_;clear hK K hS;refine G.aRZ rfl (fun B wB hS=>?_)
 ((with_reducible refine r7 (T:=22) ?_);refine a9J (n:=2*es.length) (T:=22) (E:=3) hS underlying22 a0A rfl rfl (by omega) (by omega) (fun g2 wg2 hS=>?_);simp only [aD];simp only [aK] at hS)
 replace hS:=G.aRA (X:=[.aH F1 wc,.aB bx (.cells #[.slice a1 n1 c1,.slice a2 n2 c2,.slice a3 V.length c3,.slice a4 es.length c4] 28 (0,0)),.aB br (.cells #[.slice none 0 0,.slice none 0 0,.slice none 0 0,.slice none 0 0,.slice none 0 0] 37 (0,0)),.row (.slice (some ⟨g,0,none⟩) (2*es.length) c) 3 1 (2*es.length) (iv (zs (jq es.length RL V.length))),.aB bm o,.aB b4 (.cells #[.slice (some ⟨g,0,none⟩) (2*es.length) c] 22 (0,0))]) hS;refine G.aVe hS (fun B w hb=>(hb.sub (List.sublist_append_left _ _)).sub (List.sublist_append_left _ _)) ?_;clear hS;refine G.aVs (G.aSo (fun o2 i3 a5=>?_));simp only [aD];refine aRt rfl rfl (fun K hK=>?_)
 go_simp
 refine hK _ ?_;clear hK K;refine G.mq (fun f6 wB hS=>?_);simp only [aK] at hS;simp only [aD];refine aZ ?_
 (with_reducible refine aJ 10 hS sizeOf37 fun _ hS=>?_)
 refine aX hS.sb ?_;refine bE ?_
 go_wp2_with (with_reducible refine bA 1 hS isAgg28 sizeOf28 ?_)
 refine (aWB a1 a2 a3 a4 n1 c1 n2 c2 V.length c3 es.length c4 rs es _ S1 (aP.at hS aG) (yX.hE.move (hS.da aG)) (yX.jf.at hS aG) gO (by omega) yX.ab).mono ?_;rintro e wd ⟨gr,cr,rfl,cU⟩;replace hS:=hS.import cU;simp only [aK] at hS;clear cU
 go_wp2_with (with_reducible refine aU 10 hS isAgg22 ?_)
 replace wH:=Hd wH;have aSd:=zA.of bJ sa.out rH.out;have lG:=aKS (out:=fun v=>nR es (nth [] RL v)) hV yX.ab aSd (fun v _ h=>aIv h);obtain⟨x,nH⟩:∃ x,jR V es RL (fun v=>nR es (nth [] RL v))=x:=⟨_,rfl⟩;have hxN:jq es.length RL V.length=x.N:=by rw [← nH];rfl
 have hxr:nK (gT es) V.length=x.root:=by rw [← nH];rfl
 have fL:x.n=V.length:=by rw [← nH];rfl
 have hxm:x.m=es.length:=by rw [← nH];rfl
 have hxo:∀ v,nR es (nth [] RL v)=x.out v:=fun v=>by rw [← nH];rfl
 have hxb:∀ v,x.nI v=oZ V es v:=fun v=>by rw [← nH];rfl
 have hxh:∀ v,x.fh v=decide (nth [] RL v≠[]):=fun v=>by rw [← nH];rfl
 have kp:x.N.length=2*es.length:=by rw [← hxN];exact sW _ _ _
 have hrl:x.root.length=V.length:=by rw [← hxr];exact aRK _ _
 rw [nH] at lG;rw [hxN,hxr] at hS;replace nH:=Hd nH;replace hxN:=Hd hxN;replace hxr:=Hd hxr;replace fL:=Hd fL;replace hxm:=Hd hxm;replace hxo:=Hd hxo;replace hxb:=Hd hxb;replace hxh:=Hd hxh;replace kp:=Hd kp;replace hrl:=Hd hrl;have hM2:2*es.length≤60000:=by omega
 obtain⟨M,hM⟩:∃ M,2*es.length=M:=⟨_,rfl⟩;rw [hM] at hS kp hM2 ⊢;replace hS:=hS.uj (k:=1) (m:=1) 7 rfl (by simp) (by decide);replace hS:=hS.uj (k:=1) (m:=1) 8 rfl (by simp) (by decide);replace hS:=hS.uj (k:=1) (m:=1) 9 rfl (by simp) (by decide);replace hS:=hS.order [0,3,10,5,6,1,11,7,8,9,4,2] (by kernel_rfl);simp only [List.set_cons_succ,List.set_cons_zero,List.filterMap_cons,List.getElem?_cons_zero,List.getElem?_cons_succ,List.filterMap_nil] at hS;rw [← aRo] at hS;have e1:iv [(-1:Int)]=[.int .i64 (-1)]:=rfl;rw [← e1] at hS;clear e1
 go_wp2_with (with_reducible refine aU 2 hS isAgg22 ?_)
 try try simp only [fA]
 go_loopw [40] (fun v40 wr=>∃ k:Nat,k≤M∧v40=.int .i64 (k:Int)∧aA (nd w) wr [.aH F1 wc,.row (.slice (some ⟨g,0,none⟩) M c) 3 1 M (iv (zs x.N)),.aB f6 (.cells #[.slice (some ⟨g,0,none⟩) M c,.slice (some ⟨g2,0,none⟩) M M,.slice (some ⟨o2,0,none⟩) 1 1,.slice (some ⟨i3,0,none⟩) 1 1,.slice (some ⟨a5,0,none⟩) 1 1] 37 (0,0)),.aB b4 (.cells #[.slice (some ⟨g,0,none⟩) M c] 22 (0,0)),.row (.slice (some ⟨g2,0,none⟩) M M) 3 1 M (iv ((yz M k))),.aB bx (.cells #[.slice a1 n1 c1,.slice a2 n2 c2,.slice a3 V.length c3,.slice a4 es.length c4] 28 (0,0)),.row (.slice (some ⟨gr,0,none⟩) V.length cr) 3 1 V.length (iv (zs x.root)),.row (.slice (some ⟨o2,0,none⟩) 1 1) 3 1 (1) (iv ([-1])),.row (.slice (some ⟨i3,0,none⟩) 1 1) 22 1 (1) ([.slice none 0 0]),.row (.slice (some ⟨a5,0,none⟩) 1 1) 22 1 (1) ([.slice none 0 0]),.aB bm o,.aB br (.cells #[.slice none 0 0,.slice none 0 0,.slice none 0 0,.slice none 0 0,.slice none 0 0] 37 (0,0))]) (fun v40 _=>M - (intOf v40).toNat)
 case atStart=>exact⟨0,by omega,rfl,hS⟩
 case round =>
  clear hS;obtain⟨k,hk,rfl,hS⟩:=hrel
  by_cases cW:k<M
  ·have cA:=Hd (aRr cW)
   go_wp2_with (with_reducible first|refine aU 2 hS isAgg22 ?_|refine kW underlying22 sizeOf3 ?_|refine xS 4 hS sizeOf3 fun _ hS=>?_)
   rw [cA.out] at hS;go_roundw
   case rel=>exact⟨k+1,by omega,by simp,hS⟩
   case measure=>simp [intOf];omega
  ·obtain rfl:M=k:=by omega
   rw [aPX,← kp.out,← FI.aTc,kp.out] at hS;clear hk cW
   go_wp2_with (first|((with_reducible refine a16 (T:=75) ?_);refine a3L hS (fun bc wbc hS=>?_);simp only [aD];simp only [aK] at hS)|((with_reducible refine aFS (T:=71) ?_);refine aKM 10 hS underlying71 rfl rfl (by with_reducible assumption) rfl (fun bi obi wbi nE hS=>?_);simp only [aD];simp only [aK] at hS))
   try try simp only [fA]
   have hnm:=Hd (x.aNI);have s8:gj ik ik (.map #[] 0) []:=gj.empty _ _
   go_loopw [53] (fun _ wx=>∃ (d:List (Int × (Option Addr × Nat × Nat))) (oi oc:Obj) (lc:List (Int × Int)),pA ik sv bm o oi l d∧gj ik ik oc lc∧Hid (x.named (d.map fun p=>p.1.toNat) lc)∧aA (nd w) wx [.aH F1 wc,.row (.slice (some ⟨g,0,none⟩) M c) 3 1 M (iv (zs x.N)),.aB f6 (.cells #[.slice (some ⟨g,0,none⟩) M c,.slice (some ⟨g2,0,none⟩) M M,.slice (some ⟨o2,0,none⟩) 1 1,.slice (some ⟨i3,0,none⟩) 1 1,.slice (some ⟨a5,0,none⟩) 1 1] 37 (0,0)),.aB b4 (.cells #[.slice (some ⟨g,0,none⟩) M c] 22 (0,0)),.row (.slice (some ⟨g2,0,none⟩) M M) 3 1 M (iv ((x.L1 (d.map fun p=>p.1.toNat)))),.aB bx (.cells #[.slice a1 n1 c1,.slice a2 n2 c2,.slice a3 V.length c3,.slice a4 es.length c4] 28 (0,0)),.row (.slice (some ⟨gr,0,none⟩) V.length cr) 3 1 V.length (iv (zs x.root)),.row (.slice (some ⟨o2,0,none⟩) 1 1) 3 1 (1) (iv ([-1])),.row (.slice (some ⟨i3,0,none⟩) 1 1) 22 1 (1) ([.slice none 0 0]),.row (.slice (some ⟨a5,0,none⟩) 1 1) 22 1 (1) ([.slice none 0 0]),.aB bm o,.aB br (.cells #[.slice none 0 0,.slice none 0 0,.slice none 0 0,.slice none 0 0,.slice none 0 0] 37 (0,0)),.aB bc oc,.aB bi oi]) (fun _ wx=>l.length - a9j wx bi)
   case atStart=>exact⟨[],_,_,[],nE,s8,hnm,hS⟩
   case round =>
    clear hS nE s8 hnm;obtain⟨d,oi,oc,lc,nE,s8,hnm,hS⟩:=hrel;have dJ:=a7C nE (hS.aB (b:=bi) (o:=oi) (by simp));have mn:=a7X nE
    repeat ((fail_if_success ((with_reducible refine a8W ?_)));go_step)
    ((with_reducible refine a8W ?_);refine aIi 10 13 hS rfl rfl rfl (by with_reducible assumption) rfl (fun wK=>?_) (fun kk vv oV w' cW hkd qn hS=>?_) <;> (simp only [aD];try simp only [aK] at hS))
    ·have wJ:=zP.over wK (x:=x) (by rw [fL.out,sa.out]) hxh.out
     rw [x.aNU wJ] at hS;have uB:=Hd (x.aVy wJ hnm.out);replace hS:=hS.order [0,1,2,3,4,5,6,7,8,9,10,11,12,13] (by kernel_rfl);have hS:=hS.sub (H':=[.aH F1 wc,.row (.slice (some ⟨g,0,none⟩) M c) 3 1 M (iv (zs x.N)),.aB f6 (.cells #[.slice (some ⟨g,0,none⟩) M c,.slice (some ⟨g2,0,none⟩) M M,.slice (some ⟨o2,0,none⟩) 1 1,.slice (some ⟨i3,0,none⟩) 1 1,.slice (some ⟨a5,0,none⟩) 1 1] 37 (0,0)),.aB b4 (.cells #[.slice (some ⟨g,0,none⟩) M c] 22 (0,0)),.row (.slice (some ⟨g2,0,none⟩) M M) 3 1 M (iv ((x.L1 x.keys))),.aB bx (.cells #[.slice a1 n1 c1,.slice a2 n2 c2,.slice a3 V.length c3,.slice a4 es.length c4] 28 (0,0)),.row (.slice (some ⟨gr,0,none⟩) V.length cr) 3 1 V.length (iv (zs x.root)),.row (.slice (some ⟨o2,0,none⟩) 1 1) 3 1 (1) (iv ([-1])),.row (.slice (some ⟨i3,0,none⟩) 1 1) 22 1 (1) ([.slice none 0 0]),.row (.slice (some ⟨a5,0,none⟩) 1 1) 22 1 (1) ([.slice none 0 0]),.aB bm o,.aB br (.cells #[.slice none 0 0,.slice none 0 0,.slice none 0 0,.slice none 0 0,.slice none 0 0] 37 (0,0)),.aB bc oc]) (by repeat (first|exact List.Sublist.refl _|apply List.Sublist.cons_cons|apply List.Sublist.cons));clear nE hnm dJ mn wK wJ
     go_wp2_with (with_reducible refine aU 2 hS isAgg22 ?_)
     go_loopw [72] (fun v72 wx=>∃ (h:Nat) (ado adi ada:Option Addr) (co ci ca:Nat),h≤M∧v72=.int .i64 (h:Int)∧aA (nd w) wx [.aH F1 wc,.row (.slice (some ⟨g,0,none⟩) M c) 3 1 M (iv (zs x.N)),.aB f6 (.cells #[.slice (some ⟨g,0,none⟩) M c,.slice (some ⟨g2,0,none⟩) M M,.slice ado (x.fO h).2.length co,.slice adi (x.fO h).2.length ci,.slice ada (x.fO h).2.length ca] 37 (0,0)),.aB b4 (.cells #[.slice (some ⟨g,0,none⟩) M c] 22 (0,0)),.row (.slice (some ⟨g2,0,none⟩) M M) 3 1 M (iv ((x.fO h).1)),.aB bx (.cells #[.slice a1 n1 c1,.slice a2 n2 c2,.slice a3 V.length c3,.slice a4 es.length c4] 28 (0,0)),.row (.slice (some ⟨gr,0,none⟩) V.length cr) 3 1 V.length (iv (zs x.root)),.row (.slice ado (x.fO h).2.length co) 3 1 ((x.fO h).2.length) (iv ((x.fO h).2)),.row (.slice adi (x.fO h).2.length ci) 22 1 ((x.fO h).2.length) ((List.replicate (x.fO h).2.length (.slice none 0 0))),.row (.slice ada (x.fO h).2.length ca) 22 1 ((x.fO h).2.length) ((List.replicate (x.fO h).2.length (.slice none 0 0))),.aB bm o,.aB br (.cells #[.slice none 0 0,.slice none 0 0,.slice none 0 0,.slice none 0 0,.slice none 0 0] 37 (0,0)),.aB bc oc]) (fun v72 _=>M - (intOf v72).toNat)
     case atStart=>exact⟨0,some ⟨o2,0,none⟩,some ⟨i3,0,none⟩,some ⟨a5,0,none⟩,1,1,1,by omega,rfl,hS⟩
     case round =>
      clear hS;obtain⟨h,ado,adi,ada,co,ci,ca,hh,rfl,hS⟩:=hrel;have p2:=lG.fO h (by rw [kp.out];exact hh);have lO:=p2.len.trans kp.out;have js:=p2.many;have kx:=p2.pos;have kV:x.fO (h+1)=if nth 0 (x.fO h).1 h = -1 then (lE (x.fO h).1 (et x.N h) (x.fO h).2.length,(x.fO h).2++[(ed x.N h:Int)]) else x.fO h:=rfl
      by_cases hhl:h<M
      ·obtain⟨P,hP⟩:∃ P,x.fO h=P:=⟨_,rfl⟩
       rw [hP] at hS lO js kx kV;obtain⟨L,O⟩:=P;simp only at hS lO js kx kV;clear hP p2
       by_cases h1:nth 0 L h = -1
       ·rw [if_pos h1] at kV
        have hq:(nth 0 L h == -1)=true:=by rw [h1];rfl
        replace h1:=Hd h1;replace kV:=Hd kV
        go_wp2_with (with_reducible first|refine aU 2 hS isAgg22 ?_|refine kW underlying22 sizeOf3 ?_|refine uC 4 hS isAgg3 ?_)
        refine qR [.p 0,.r 1,.p 2,.p 3,.p 4,.r 5,.p 6,.e 7,.e 8,.m 9,.p 10,.m 11] [9,11] (fun w'=>aA (nd w) w' [.aH F1 wc,.row (.slice (some ⟨g,0,none⟩) M c) 3 1 M (iv (zs x.N)),.aB f6 (.cells #[.slice (some ⟨g,0,none⟩) M c,.slice (some ⟨g2,0,none⟩) M M,.slice ado O.length co,.slice adi O.length ci,.slice ada O.length ca] 37 (0,0)),.aB b4 (.cells #[.slice (some ⟨g,0,none⟩) M c] 22 (0,0))]) (fun w'=>aA (nd w) w' _) (by kernel_rfl) (by kernel_rfl) hS.drew (fun _ hZ=>aA.sub hZ (by repeat (first|exact List.Sublist.refl _|apply List.Sublist.cons_cons|apply List.Sublist.cons))) (fun w1 hS=>?_)
        repeat (with_reducible first|refine cZ 2 isAgg22 ?_|refine bU ?_)
        refine aZ ?_
        go_wp2_with (fail)
        refine (a7r lG.perm kp.out hhl (by omega) L lO (O.length:Int) f6 b4 g2 M c g _ _ _ hS).mono ?_;rintro e w2 ⟨rfl,cK⟩;clear hS;have hS:=cK;clear cK;simp only [];go_step;refine aX hS.sb ?_;refine aZ ?_
        ((with_reducible refine dV (T:=22) ?_);refine fZ (T:=22) (v:=.int .i64 _) hS underlying22 sizeOf3 zeroValue3 rfl rfl rfl (by decide) (by decide) rfl (fun _ _ hS=>?_);simp only [aD];simp only [Value.cells] at hS)
        refine aX hS.sb ?_;refine dC ?_
        ((with_reducible refine eG ?_);refine fw (t:=22) 7 hS underlying22 tQ rfl (by decide) rfl rfl rfl rfl (by simp [Value.oneCell']) (by omega) (by unfold maxLen;omega) (fun dU gL _ hS=>?_);simp only [aD];simp only [aK] at hS)
        refine dD ?_;refine aM ?_;refine dC ?_
        (with_reducible refine aJ 2 hS sizeOf22 fun _ hS=>?_)
        refine dD ?_;refine aM ?_;refine bE ?_;go_wp2;apply aQu (.fork [.p 0,.r 1,.p 4,.r 5] 2 (.fork [] 3 (.line [.p 8,.e 6,.e 7,.m 9,.p 10,.m 11]) 6 (.line [.e 3,.p 8,.e 7,.m 9,.p 10,.m 11])) 6 (.line [.e 2,.e 3,.p 8,.e 7,.m 9,.p 10,.m 11])) [9,11] (fun w'=>aA (nd w) w' [.aH F1 wc,.row (.slice (some ⟨g,0,none⟩) M c) 3 1 M (iv (zs x.N)),.aB f6 (.cells #[.slice (some ⟨g,0,none⟩) M c,.slice (some ⟨g2,0,none⟩) M M,.slice dU (O.length+1) gL,.slice adi O.length ci,.slice ada O.length ca] 37 (0,0)),.aB b4 (.cells #[.slice (some ⟨g,0,none⟩) M c] 22 (0,0))]) (fun w'=>aA (nd w) w' _) (by kernel_rfl) (by kernel_rfl) hS.drew (fun _ hZ=>aA.sub hZ (by repeat (first|exact List.Sublist.refl _|apply List.Sublist.cons_cons|apply List.Sublist.cons))) (fun ai2 ci2 aa2 ca2 w'=>aA (nd w) w' [.aH F1 wc,.row (.slice (some ⟨g,0,none⟩) M c) 3 1 M (iv (zs x.N)),.aB f6 (.cells #[.slice (some ⟨g,0,none⟩) M c,.slice (some ⟨g2,0,none⟩) M M,.slice dU (O.length+1) gL,.slice ai2 (O.length+1) ci2,.slice aa2 (O.length+1) ca2] 37 (0,0)),.aB b4 (.cells #[.slice (some ⟨g,0,none⟩) M c] 22 (0,0)),.row (.slice (some ⟨g2,0,none⟩) M M) 3 1 M (iv ((lE L (et x.N h) (O.length:Int)))),.aB bx (.cells #[.slice a1 n1 c1,.slice a2 n2 c2,.slice a3 V.length c3,.slice a4 es.length c4] 28 (0,0)),.row (.slice (some ⟨gr,0,none⟩) V.length cr) 3 1 V.length (iv (zs x.root)),.row (.slice dU (O.length+1) gL) 3 1 ((O.length+1)) (iv ((O++[(ed x.N h:Int)]))),.row (.slice ai2 (O.length+1) ci2) 22 1 ((O.length+1)) ((List.replicate O.length (Value.slice none 0 0)++[Value.slice none 0 0])),.row (.slice aa2 (O.length+1) ca2) 22 1 ((O.length+1)) ((List.replicate O.length (Value.slice none 0 0)++[Value.slice none 0 0])),.aB bm o,.aB br (.cells #[.slice none 0 0,.slice none 0 0,.slice none 0 0,.slice none 0 0,.slice none 0 0] 37 (0,0)),.aB bc oc])
        case h =>
         intro hR w3 hS;refine aJb ?_
         repeat (with_reducible first|refine cZ 2 isAgg35 ?_|refine bU ?_)
         refine aLC ?_;simp only [di,a1n];refine⟨?_,?_⟩
         ·skip
          refine a7L rfl ?_
          ((with_reducible refine dV (T:=35) ?_);refine fZ (T:=35) (v:=.slice none 0 0) hS underlying35 sizeOf22 zeroValue22 rfl rfl rfl (by decide) (by decide) rfl (fun l1 wl1 hS=>?_);simp only [aD];simp only [Value.cells] at hS)
          refine aX hS.sb ?_;refine aJb ?_;refine aM ?_;refine aLC ?_;simp only [di,a1n];refine⟨?_,?_⟩
          ·skip
           refine a7L rfl ?_
           ((with_reducible refine eG ?_);refine fw (t:=35) 8 hS underlying35 zh rfl (by decide) rfl rfl rfl rfl (by simp [Value.oneCell']) (by omega) (by unfold maxLen;omega) (fun ad4 cp4 _ hS=>?_);simp only [aD];simp only [aK] at hS)
           refine aX hS.sb ?_;refine aEs ?_;refine aM ?_;refine aZ ?_
           ((with_reducible refine dV (T:=35) ?_);refine fZ (T:=35) (v:=.slice none 0 0) hS underlying35 sizeOf22 zeroValue22 rfl rfl rfl (by decide) (by decide) rfl (fun l2 wl2 hS=>?_);simp only [aD];simp only [Value.cells] at hS)
           refine aX hS.sb ?_;refine aZ ?_
           ((with_reducible refine eG ?_);refine fw (t:=35) 9 hS underlying35 zh rfl (by decide) rfl rfl rfl rfl (by simp [Value.oneCell']) (by omega) (by unfold maxLen;omega) (fun ad5 cp5 _ hS=>?_);simp only [aD];simp only [aK] at hS)
           refine aX hS.sb ?_;refine aM ?_;refine dC ?_
           (with_reducible refine aJ 2 hS sizeOf35 fun _ hS=>?_)
           refine dD ?_;refine aM ?_;refine dC ?_
           (with_reducible refine aJ 2 hS sizeOf35 fun _ hS=>?_)
           refine dD ?_;refine aM ?_;refine bE ?_;exact hR l1 l2 _ _ _ _ _ hS
          ·skip
           refine a7L rfl ?_
           ((with_reducible refine dV (T:=35) ?_);refine fZ (T:=35) (v:=.slice none 0 0) hS underlying35 sizeOf22 zeroValue22 rfl rfl rfl (by decide) (by decide) rfl (fun l2 wl2 hS=>?_);simp only [aD];simp only [Value.cells] at hS)
           refine aX hS.sb ?_;replace hS:=hS.aN4;refine aEs ?_;refine aZ ?_
           ((with_reducible refine eG ?_);refine fw (t:=35) 8 hS underlying35 zh rfl (by decide) rfl rfl rfl rfl (by simp [Value.oneCell']) (by omega) (by unfold maxLen;omega) (fun ad4 cp4 _ hS=>?_);simp only [aD];simp only [aK] at hS)
           refine aX hS.sb ?_;replace hS:aA _ _ ([_,_,_,_,_,_,_,_,_,_,_,_,_]++[_]):=hS;refine aM ?_;refine aZ ?_
           ((with_reducible refine eG ?_);refine fw (t:=35) 9 hS underlying35 zh rfl (by decide) rfl rfl rfl rfl (by simp [Value.oneCell']) (by omega) (by unfold maxLen;omega) (fun ad5 cp5 _ hS=>?_);simp only [aD];simp only [aK] at hS)
           refine aX hS.sb ?_;refine aM ?_;refine dC ?_
           (with_reducible refine aJ 2 hS sizeOf35 fun _ hS=>?_)
           refine dD ?_;refine aM ?_;refine dC ?_
           (with_reducible refine aJ 2 hS sizeOf35 fun _ hS=>?_)
           refine dD ?_;refine aM ?_;refine bE ?_;exact hR l1 l2 _ _ _ _ _ hS
         ·skip
          refine a7L rfl ?_
          ((with_reducible refine dV (T:=35) ?_);refine fZ (T:=35) (v:=.slice none 0 0) hS underlying35 sizeOf22 zeroValue22 rfl rfl rfl (by decide) (by decide) rfl (fun l2 wl2 hS=>?_);simp only [aD];simp only [Value.cells] at hS)
          refine aX hS.sb ?_;refine aEs ?_;refine aZ ?_
          ((with_reducible refine dV (T:=35) ?_);refine fZ (T:=35) (v:=.slice none 0 0) hS underlying35 sizeOf22 zeroValue22 rfl rfl rfl (by decide) (by decide) rfl (fun l1 wl1 hS=>?_);simp only [aD];simp only [Value.cells] at hS)
          refine aX hS.sb ?_;refine aZ ?_
          ((with_reducible refine eG ?_);refine fw (t:=35) 8 hS underlying35 zh rfl (by decide) rfl rfl rfl rfl (by simp [Value.oneCell']) (by omega) (by unfold maxLen;omega) (fun ad4 cp4 _ hS=>?_);simp only [aD];simp only [aK] at hS)
          refine aX hS.sb ?_;replace hS:aA _ _ ([_,_,_,_,_,_,_,_,_,_,_,_,_]++[_]):=hS;refine aM ?_;refine aZ ?_
          ((with_reducible refine eG ?_);refine fw (t:=35) 9 hS underlying35 zh rfl (by decide) rfl rfl rfl rfl (by simp [Value.oneCell']) (by omega) (by unfold maxLen;omega) (fun ad5 cp5 _ hS=>?_);simp only [aD];simp only [aK] at hS)
          refine aX hS.sb ?_;refine aM ?_;refine dC ?_
          (with_reducible refine aJ 2 hS sizeOf35 fun _ hS=>?_)
          refine dD ?_;refine aM ?_;refine dC ?_
          (with_reducible refine aJ 2 hS sizeOf35 fun _ hS=>?_)
          refine dD ?_;refine aM ?_;refine bE ?_;exact hR l1 l2 _ _ _ _ _ hS
        clear hS;intro l1 l2 ai2 ci2 aa2 ca2 w4 hS;have hlen:(O++[(ed x.N h:Int)]).length=O.length+1:=by simp
        have rh:List.replicate O.length (Value.slice none 0 0)++[.slice none 0 0]=List.replicate (O.length+1) (.slice none 0 0):=List.replicate_succ'.symm;rw [rh,← hlen] at hS;replace hlen:=Hd hlen;replace rh:=Hd rh;simp only [Exit.inBlock,Exit.then];go_wp2;go_roundw
        case rel =>
         exact⟨h+1,dU,ai2,aa2,gL,ci2,ca2,by omega,by simp,by rw [kV.out];exact hS⟩
        case measure=>simp [intOf];omega
       ·rw [if_neg h1] at kV
        have hq:(nth 0 L h == -1)=false:=by simpa using h1
        replace h1:=Hd h1;replace kV:=Hd kV
        go_wp2_with (with_reducible first|refine aU 2 hS isAgg22 ?_|refine kW underlying22 sizeOf3 ?_|refine uC 4 hS isAgg3 ?_)
        go_roundw
        case rel=>exact⟨h+1,ado,adi,ada,co,ci,ca,by omega,by simp,by rw [kV.out];exact hS⟩
        case measure=>simp [intOf];omega
      ·obtain rfl:M=h:=by omega
       have e1:x.fO M=(x.L2,x.O):=by rw [← kp.out];rfl
       rw [e1] at hS;have kx:0<x.O.length:=by rw [e1] at kx;exact kx
       have js:x.O.length≤M+1:=by rw [e1] at js;exact js
       obtain⟨k,hk⟩:∃ k,x.O.length=k:=⟨_,rfl⟩;simp only at hS;rw [hk] at hS kx js;obtain⟨go,rfl⟩:=hS.aE8 7 rfl kx;obtain⟨gi,rfl⟩:=hS.aE8 8 rfl kx;obtain⟨ga,rfl⟩:=hS.aE8 9 rfl kx;replace hS:=(hS.aDh 3 k).aDh 3 k;rw [← aS7] at hS;obtain⟨oc1,rfl⟩:∃ q,q=oc:=⟨_,rfl⟩;rw [List.append_assoc] at hS;replace hS:aA (nd w) _ (.aH F1 wc::.row (.slice (some ⟨g,0,none⟩) M c) 3 1 M (iv (zs x.N))::.aB f6 (.cells #[.slice (some ⟨g,0,none⟩) M c,.slice (some ⟨g2,0,none⟩) M M,.slice (some ⟨go,0,none⟩) k co,.slice (some ⟨gi,0,none⟩) k ci,.slice (some ⟨ga,0,none⟩) k ca] 37 (0,0))::.aB b4 (.cells #[.slice (some ⟨g,0,none⟩) M c] 22 (0,0))::.row (.slice (some ⟨g2,0,none⟩) M M) 3 1 M (iv (x.L2))::.aB bx (.cells #[.slice a1 n1 c1,.slice a2 n2 c2,.slice a3 V.length c3,.slice a4 es.length c4] 28 (0,0))::.row (.slice (some ⟨gr,0,none⟩) V.length cr) 3 1 V.length (iv (zs x.root))::.row (.slice (some ⟨go,0,none⟩) k co) 3 1 k (iv x.O)::.row (.slice (some ⟨gi,0,none⟩) k ci) 22 1 k (oc (List.replicate k uU))::.row (.slice (some ⟨ga,0,none⟩) k ca) 22 1 k (oc (List.replicate k uU))::.aB bm o::.aB br (.cells #[.slice none 0 0,.slice none 0 0,.slice none 0 0,.slice none 0 0,.slice none 0 0] 37 (0,0))::.aB bc oc1::((List.replicate k uU).map (bK.ch 3)++(List.replicate k uU).map (bK.ch 3))):=hS;have h30:x.gE 0=⟨x.L2,List.replicate k [],List.replicate k []⟩:=by rw [← hk];rfl
       clear e1 hh hhl lO p2 kV;replace hk:=Hd hk;have pK:∀ r ∈ List.replicate k uU,r.n≤0:=fun r hr=>by rw [(List.mem_replicate.1 hr).2];exact Nat.le_refl _
       go_wp2_with (with_reducible refine aU 5 hS isAgg25 ?_)
       go_loopw [106] (fun aDA wx=>∃ (v:Nat) (RI RA:List bK),v≤V.length∧aDA=.int .i64 (v:Int)∧RI.length=k∧RA.length=k∧Hid (l6 RI=(x.gE v).I)∧Hid (l6 RA=(x.gE v).A)∧Hid (∀ r ∈ RI,r.n≤v)∧Hid (∀ r ∈ RA,r.n≤v)∧aA (nd w) wx (.aH F1 wc::.row (.slice (some ⟨g,0,none⟩) M c) 3 1 M (iv (zs x.N))::.aB f6 (.cells #[.slice (some ⟨g,0,none⟩) M c,.slice (some ⟨g2,0,none⟩) M M,.slice (some ⟨go,0,none⟩) k co,.slice (some ⟨gi,0,none⟩) k ci,.slice (some ⟨ga,0,none⟩) k ca] 37 (0,0))::.aB b4 (.cells #[.slice (some ⟨g,0,none⟩) M c] 22 (0,0))::.row (.slice (some ⟨g2,0,none⟩) M M) 3 1 M (iv ((x.gE v).L))::.aB bx (.cells #[.slice a1 n1 c1,.slice a2 n2 c2,.slice a3 V.length c3,.slice a4 es.length c4] 28 (0,0))::.row (.slice (some ⟨gr,0,none⟩) V.length cr) 3 1 V.length (iv (zs x.root))::.row (.slice (some ⟨go,0,none⟩) k co) 3 1 k (iv x.O)::.row (.slice (some ⟨gi,0,none⟩) k ci) 22 1 k (oc (RI))::.row (.slice (some ⟨ga,0,none⟩) k ca) 22 1 k (oc (RA))::.aB bm o::.aB br (.cells #[.slice none 0 0,.slice none 0 0,.slice none 0 0,.slice none 0 0,.slice none 0 0] 37 (0,0))::.aB bc oc1::((RI).map (bK.ch 3)++(RA).map (bK.ch 3)))) (fun aDA _=>V.length - (intOf aDA).toNat)
       case atStart=>exact⟨0,_,_,by omega,rfl,by simp,by simp,Hd (by rw [h30,aGo]),Hd (by rw [h30,aGo]),Hd pK,Hd pK,by rw [h30];exact hS⟩
       case round =>
        clear hS h30 pK;obtain⟨v,RI,RA,hv,rfl,zM,yQ,ur,vB,yd,hnA,hS⟩:=hrel;have aP8:=hrl.out;have p3:=lG.gE v (by rw [fL.out];exact hv);have lO:=p3.len.trans kp.out;have cA:x.gE (v+1)=x.a0a (x.gE v) v:=rfl
        by_cases lP:v<V.length
        ·obtain⟨f,hf,lU⟩:=lG.aIH (by rw [fL.out];exact lP) p3
         rw [hk.out] at hf;obtain⟨s,hs⟩:∃ s,x.gE v=s:=⟨_,rfl⟩;rw [hs] at hS lO cA ur vB lU p3;obtain⟨L,I,A⟩:=s;simp only at hS lO ur vB lU;clear hs p3
         by_cases hr:nth 0 x.root v=v
         ·have hq:(nth 0 (zs x.root) v != (v:Int))=false:=by rw [xj,hr];simp
          have aR:(nth 0 (zs x.root) v == (v:Int))=true:=by rw [xj,hr];simp
          unfold FI.a0a at cA;rw [if_pos hr] at cA;replace hr:=Hd hr;replace cA:=Hd cA
          go_wp2_with (with_reducible first|refine kW underlying22 sizeOf3 ?_|refine uC 6 hS isAgg3 ?_|refine bA 5 hS isAgg28 sizeOf28 ?_)
          refine (aUB a1 a2 a3 a4 n1 c1 n2 c2 V.length c3 es.length c4 rs es prs V m v _ S1 (yX.at hS aG) hm lP (by omega) (by omega)).mono ?_;rintro e w1 ⟨rfl,gH⟩;replace hS:=hS.fW (tb w) gH.below;clear gH;have oA:=hxb.out v;unfold oZ at oA;unfold FI.fK at lU cA;rw [oA] at lU;have iP:=cA.out;rw [oA] at iP;clear cA;have oB:=a9h V es v es.length;obtain⟨B,hB⟩:∃ B,fR V es v es.length=B:=⟨_,rfl⟩;rw [hB] at oB oA lU iP;rw [hB];replace hB:=Hd hB;clear oA;simp only []
          by_cases lS:B<0
          ·rw [if_pos lS] at lU iP
           have d1:decide (0≤B)=false:=by simp;omega
           simp only at lU iP;obtain rfl:f=0:=by omega
           simp only [Int.toNat_zero] at iP;clear lU;have uM:v ∈ x.keys↔x.fh v=true:=by unfold FI.keys;rw [List.mem_filter,List.mem_range,fL.out];exact⟨fun h=>h.2,fun h=>⟨lP,h⟩⟩
           have iQ:=uB.out v
           by_cases he:x.fh v=true
           ·have cD:=lG.zJ v (by rw [fL.out];exact lP) he
            have yK:=aLG lG.perm cD L (by rw [lO,kp.out]) (0);have fQ:=a0R lG.perm cD;rw [kp.out] at cD fQ;rw [if_pos ⟨uM.2 he,hr.out⟩] at iQ;rw [if_pos he] at iP;obtain⟨y,hy⟩:∃ y,ed x.N (x.out v)=y:=⟨_,rfl⟩;rw [hy] at yK fQ iQ iP;have a1c:ed x.N y=y:=by rw [← hy];exact a7y lG.perm (by rw [kp.out];exact cD)
            have oT:=a2S (R:=RI) (i:=0) (by omega);have sz:=yd.out (nth cM RI 0) (cQ cM RI 0 (by omega));replace yK:=Hd yK;replace iP:=Hd iP;replace hy:=Hd hy;replace he:=Hd he;replace a1c:=Hd a1c;clear uM
            go_wp2_with (first|((with_reducible refine a0J (T:=75) ?_);refine dI hS rfl (a1J (ev:=ik) (k:=(v:Int)) (z:=(0:Int)) 12 underlying75 zeroValue3 (uX underlying3) rfl rfl rfl s8 ?_);simp only [aD];simp only [ik])|fail)
            refine (a7r lG.perm kp.out fQ (by omega) L lO (0) f6 b4 g2 M c g _ _ _ hS).mono ?_;rintro e2 w2 ⟨rfl,cK⟩;clear hS;have hS:=cK;clear cK;rw [yK.out] at hS;simp only [];go_wp2;refine qR [.p 0,.r 1,.p 2,.p 3,.r 4,.p 5,.p 6,.r 7,.p 8,.e 9,.e 10,.p 11,.m 12] [12] (fun w'=>aA (nd w) w' (.aH F1 wc::.row (.slice (some ⟨g,0,none⟩) M c) 3 1 M (iv (zs x.N))::.aB f6 (.cells #[.slice (some ⟨g,0,none⟩) M c,.slice (some ⟨g2,0,none⟩) M M,.slice (some ⟨go,0,none⟩) k co,.slice (some ⟨gi,0,none⟩) k ci,.slice (some ⟨ga,0,none⟩) k ca] 37 (0,0))::.aB b4 (.cells #[.slice (some ⟨g,0,none⟩) M c] 22 (0,0))::.row (.slice (some ⟨g2,0,none⟩) M M) 3 1 M (iv (lE L (et x.N (x.out v)) (0)))::.aB bx (.cells #[.slice a1 n1 c1,.slice a2 n2 c2,.slice a3 V.length c3,.slice a4 es.length c4] 28 (0,0))::.row (.slice (some ⟨gr,0,none⟩) V.length cr) 3 1 V.length (iv (zs x.root))::.row (.slice (some ⟨go,0,none⟩) k co) 3 1 k (iv x.O)::.row (.slice (some ⟨gi,0,none⟩) k ci) 22 1 k (oc (RI))::[])) (fun w'=>aA (nd w) w' _) (by kernel_rfl) (by kernel_rfl) hS.drew (fun _ hZ=>aA.sub hZ (by repeat (first|apply List.Sublist.cons_cons|apply List.Sublist.cons|exact List.nil_sublist _))) (fun w1 hS=>?_)
            repeat (first|(with_reducible refine cZ 2 isAgg35 ?_)|((with_reducible refine kM ?_);refine j3 rfl rfl (gC (T:=35) underlying35 sizeOf22 rfl rfl (by omega) (by omega) ?_);simp only [aD];simp only [Nat.zero_add,Int.toNat_natCast])|((with_reducible refine l8 ?_);refine jh rfl rfl (yy (T:=22) 8 isAgg22 rfl rfl oT ?_);simp only [aD])|(with_reducible refine bU ?_))
            refine aZ ?_
            ((with_reducible refine dV (T:=22) ?_);refine fZ (T:=22) (v:=.int .i64 _) hS underlying22 sizeOf3 zeroValue3 rfl rfl rfl (by decide) (by decide) rfl (fun lb wlb hS=>?_);simp only [aD];simp only [Value.cells] at hS)
            refine aX hS.sb ?_;refine aZ ?_
            ((with_reducible refine eG ?_);refine aIs (H0:=[_,_,_,_,_,_,_,_,_,_,_,_,_]) (RI:=RI) (RA:=RA) hS underlying22 tQ (by omega) rfl rfl (by omega) (fun dU gL _ hS=>?_);simp only [aD];simp only [aK] at hS)
            refine aX hS.sb ?_
            repeat (first|((with_reducible refine kM ?_);refine j3 rfl rfl (gC (T:=35) underlying35 sizeOf22 rfl rfl (by omega) (by omega) ?_);simp only [aD];simp only [Nat.zero_add,Int.toNat_natCast]))
            refine dC ?_
            ((with_reducible refine gK (T:=22) ?_);refine a6k (T:=22) (v:=.slice _ _ _) 8 hS rfl rfl rfl (by rw [a1O];omega) sizeOf22 rfl rfl (fun _ hS=>?_);simp only [aD];simp only [aK] at hS)
            refine dD ?_;refine bE ?_;obtain⟨r2,cT⟩:∃ r2:bK,r2=⟨(nth cM RI 0).k,dU,(nth cM RI 0).n+1,gL,(nth cM RI 0).is++[y]⟩:=⟨_,rfl⟩;have vK:(oc RI).set 0 (.slice dU ((nth cM RI 0).n+1) gL)=oc (RI.set 0 r2):=by rw [a56,cT]
            rw [vK,← cT] at hS;have rS:r2.is=(nth cM RI 0).is++[y]:=by rw [cT]
            have uc:r2.n=(nth cM RI 0).n+1:=by rw [cT]
            have yL:=a8A (R:=RI) rS;rw [ur.out] at yL
            have a1F:∀ r ∈ RI.set 0 r2,r.n≤v+1:=fun r hr=>by
             rcases List.mem_or_eq_of_mem_set hr with h|h
             ·exact Nat.le_succ_of_le (yd.out r h)
             ·rw [h,uc];omega
            replace yL:=Hd yL;replace a1F:=Hd a1F;clear vK cT rS uc oT;go_wp2;go_roundw
            case rel =>
             exact⟨v+1,_,RA,by omega,by simp,by rw [List.length_set];exact zM,yQ,by rw [iP.out];exact yL,by rw [iP.out];exact vB,a1F,Hd (fun r hr=>Nat.le_succ_of_le (hnA.out r hr)),by rw [iP.out];exact hS⟩
            case measure=>simp [intOf];omega
           ·rw [if_neg (fun h=>he (uM.1 h.1))] at iQ
            rw [if_neg he] at iP;have oT:=a2S (R:=RA) (i:=0) (by omega);have sz:=hnA.out (nth cM RA 0) (cQ cM RA 0 (by omega));replace iP:=Hd iP;replace he:=Hd he;clear uM
            go_wp2_with (first|((with_reducible refine a0J (T:=75) ?_);refine dI hS rfl (a1J (ev:=ik) (k:=(v:Int)) (z:=(0:Int)) 12 underlying75 zeroValue3 (uX underlying3) rfl rfl rfl s8 ?_);simp only [aD];simp only [ik])|fail)
            refine qR [.p 0,.r 1,.p 2,.p 3,.r 4,.p 5,.p 6,.r 7,.p 8,.e 9,.e 10,.p 11,.m 12] [12] (fun w'=>aA (nd w) w' (.aH F1 wc::.row (.slice (some ⟨g,0,none⟩) M c) 3 1 M (iv (zs x.N))::.aB f6 (.cells #[.slice (some ⟨g,0,none⟩) M c,.slice (some ⟨g2,0,none⟩) M M,.slice (some ⟨go,0,none⟩) k co,.slice (some ⟨gi,0,none⟩) k ci,.slice (some ⟨ga,0,none⟩) k ca] 37 (0,0))::.aB b4 (.cells #[.slice (some ⟨g,0,none⟩) M c] 22 (0,0))::.row (.slice (some ⟨g2,0,none⟩) M M) 3 1 M (iv (L))::.aB bx (.cells #[.slice a1 n1 c1,.slice a2 n2 c2,.slice a3 V.length c3,.slice a4 es.length c4] 28 (0,0))::.row (.slice (some ⟨gr,0,none⟩) V.length cr) 3 1 V.length (iv (zs x.root))::.row (.slice (some ⟨go,0,none⟩) k co) 3 1 k (iv x.O)::.row (.slice (some ⟨gi,0,none⟩) k ci) 22 1 k (oc (RI))::.row (.slice (some ⟨ga,0,none⟩) k ca) 22 1 k (oc RA)::[])) (fun w'=>aA (nd w) w' _) (by kernel_rfl) (by kernel_rfl) hS.drew (fun _ hZ=>aA.sub hZ (by repeat (first|apply List.Sublist.cons_cons|apply List.Sublist.cons|exact List.nil_sublist _))) (fun w1 hS=>?_)
            repeat (first|(with_reducible refine cZ 2 isAgg35 ?_)|((with_reducible refine kM ?_);refine j3 rfl rfl (gC (T:=35) underlying35 sizeOf22 rfl rfl (by omega) (by omega) ?_);simp only [aD];simp only [Nat.zero_add,Int.toNat_natCast])|((with_reducible refine l8 ?_);refine jh rfl rfl (yy (T:=22) 9 isAgg22 rfl rfl oT ?_);simp only [aD])|(with_reducible refine bU ?_))
            refine aZ ?_
            ((with_reducible refine dV (T:=22) ?_);refine fZ (T:=22) (v:=.int .i64 _) hS underlying22 sizeOf3 zeroValue3 rfl rfl rfl (by decide) (by decide) rfl (fun lb wlb hS=>?_);simp only [aD];simp only [Value.cells] at hS)
            refine aX hS.sb ?_;refine aZ ?_
            ((with_reducible refine eG ?_);refine aIU (H0:=[_,_,_,_,_,_,_,_,_,_,_,_,_]) (RI:=RI) (RA:=RA) hS underlying22 tQ (by omega) rfl rfl (by omega) (fun dU gL _ hS=>?_);simp only [aD];simp only [aK] at hS)
            refine aX hS.sb ?_
            repeat (first|((with_reducible refine kM ?_);refine j3 rfl rfl (gC (T:=35) underlying35 sizeOf22 rfl rfl (by omega) (by omega) ?_);simp only [aD];simp only [Nat.zero_add,Int.toNat_natCast]))
            refine dC ?_
            ((with_reducible refine gK (T:=22) ?_);refine a6k (T:=22) (v:=.slice _ _ _) 9 hS rfl rfl rfl (by rw [a1O];omega) sizeOf22 rfl rfl (fun _ hS=>?_);simp only [aD];simp only [aK] at hS)
            refine dD ?_;refine bE ?_;obtain⟨r2,cT⟩:∃ r2:bK,r2=⟨(nth cM RA 0).k,dU,(nth cM RA 0).n+1,gL,(nth cM RA 0).is++[v]⟩:=⟨_,rfl⟩;have vK:(oc RA).set 0 (.slice dU ((nth cM RA 0).n+1) gL)=oc (RA.set 0 r2):=by rw [a56,cT]
            rw [vK,← cT] at hS;have rS:r2.is=(nth cM RA 0).is++[v]:=by rw [cT]
            have uc:r2.n=(nth cM RA 0).n+1:=by rw [cT]
            have xE:=a8A (R:=RA) rS;rw [vB.out] at xE
            have a0C:∀ r ∈ RA.set 0 r2,r.n≤v+1:=fun r hr=>by
             rcases List.mem_or_eq_of_mem_set hr with h|h
             ·exact Nat.le_succ_of_le (hnA.out r h)
             ·rw [h,uc];omega
            replace xE:=Hd xE;replace a0C:=Hd a0C;clear vK cT rS uc oT;go_wp2;go_roundw
            case rel =>
             exact⟨v+1,RI,_,by omega,by simp,zM,by rw [List.length_set];exact yQ,by rw [iP.out];exact ur,by rw [iP.out];exact xE,Hd (fun r hr=>Nat.le_succ_of_le (yd.out r hr)),a0C,by rw [iP.out];exact hS⟩
            case measure=>simp [intOf];omega
          ·obtain⟨e,rfl⟩:∃ e:Nat,B=(e:Int):=⟨B.toNat,by omega⟩
           rw [if_neg lS] at lU iP;simp only [Int.toNat_natCast] at lU iP;have aVJ:2*e<M:=by omega
           have m2:IntKind.i64.wrap (2*(e:Int))=((2*e:Nat):Int):=w7;rw [lU,Int.toNat_natCast] at iP;have e2:(2*(e:Int)).toNat=2*e:=by omega
           have aXI:nth 0 L ((2*(e:Int)).toNat)=(f:Int):=by rw [e2];exact lU
           replace e2:=Hd e2;have uM:v ∈ x.keys↔x.fh v=true:=by unfold FI.keys;rw [List.mem_filter,List.mem_range,fL.out];exact⟨fun h=>h.2,fun h=>⟨lP,h⟩⟩
           have iQ:=uB.out v
           by_cases he:x.fh v=true
           ·have cD:=lG.zJ v (by rw [fL.out];exact lP) he
            have yK:=aLG lG.perm cD L (by rw [lO,kp.out]) ((f:Int));have fQ:=a0R lG.perm cD;rw [kp.out] at cD fQ;rw [if_pos ⟨uM.2 he,hr.out⟩] at iQ;rw [if_pos he] at iP;obtain⟨y,hy⟩:∃ y,ed x.N (x.out v)=y:=⟨_,rfl⟩;rw [hy] at yK fQ iQ iP;have a1c:ed x.N y=y:=by rw [← hy];exact a7y lG.perm (by rw [kp.out];exact cD)
            have oT:=a2S (R:=RI) (i:=f) (by omega);have sz:=yd.out (nth cM RI f) (cQ cM RI f (by omega));replace yK:=Hd yK;replace iP:=Hd iP;replace hy:=Hd hy;replace he:=Hd he;replace a1c:=Hd a1c;clear uM
            go_wp2_with (first|((with_reducible refine a0J (T:=75) ?_);refine dI hS rfl (a1J (ev:=ik) (k:=(v:Int)) (z:=(0:Int)) 12 underlying75 zeroValue3 (uX underlying3) rfl rfl rfl s8 ?_);simp only [aD];simp only [ik])|(with_reducible first|refine aU 2 hS isAgg22 ?_|refine kW underlying22 sizeOf3 ?_|refine uC 4 hS isAgg3 ?_))
            refine (a7r lG.perm kp.out fQ (by omega) L lO ((f:Int)) f6 b4 g2 M c g _ _ _ hS).mono ?_;rintro e2 w2 ⟨rfl,cK⟩;clear hS;have hS:=cK;clear cK;rw [yK.out] at hS;simp only [];go_wp2;refine qR [.p 0,.r 1,.p 2,.p 3,.r 4,.p 5,.p 6,.r 7,.p 8,.e 9,.e 10,.p 11,.m 12] [12] (fun w'=>aA (nd w) w' (.aH F1 wc::.row (.slice (some ⟨g,0,none⟩) M c) 3 1 M (iv (zs x.N))::.aB f6 (.cells #[.slice (some ⟨g,0,none⟩) M c,.slice (some ⟨g2,0,none⟩) M M,.slice (some ⟨go,0,none⟩) k co,.slice (some ⟨gi,0,none⟩) k ci,.slice (some ⟨ga,0,none⟩) k ca] 37 (0,0))::.aB b4 (.cells #[.slice (some ⟨g,0,none⟩) M c] 22 (0,0))::.row (.slice (some ⟨g2,0,none⟩) M M) 3 1 M (iv (lE L (et x.N (x.out v)) ((f:Int))))::.aB bx (.cells #[.slice a1 n1 c1,.slice a2 n2 c2,.slice a3 V.length c3,.slice a4 es.length c4] 28 (0,0))::.row (.slice (some ⟨gr,0,none⟩) V.length cr) 3 1 V.length (iv (zs x.root))::.row (.slice (some ⟨go,0,none⟩) k co) 3 1 k (iv x.O)::.row (.slice (some ⟨gi,0,none⟩) k ci) 22 1 k (oc (RI))::[])) (fun w'=>aA (nd w) w' _) (by kernel_rfl) (by kernel_rfl) hS.drew (fun _ hZ=>aA.sub hZ (by repeat (first|apply List.Sublist.cons_cons|apply List.Sublist.cons|exact List.nil_sublist _))) (fun w1 hS=>?_)
            repeat (first|(with_reducible refine cZ 2 isAgg35 ?_)|((with_reducible refine kM ?_);refine j3 rfl rfl (gC (T:=35) underlying35 sizeOf22 rfl rfl (by omega) (by omega) ?_);simp only [aD];simp only [Nat.zero_add,Int.toNat_natCast])|((with_reducible refine l8 ?_);refine jh rfl rfl (yy (T:=22) 8 isAgg22 rfl rfl oT ?_);simp only [aD])|(with_reducible refine bU ?_))
            refine aZ ?_
            ((with_reducible refine dV (T:=22) ?_);refine fZ (T:=22) (v:=.int .i64 _) hS underlying22 sizeOf3 zeroValue3 rfl rfl rfl (by decide) (by decide) rfl (fun lb wlb hS=>?_);simp only [aD];simp only [Value.cells] at hS)
            refine aX hS.sb ?_;refine aZ ?_
            ((with_reducible refine eG ?_);refine aIs (H0:=[_,_,_,_,_,_,_,_,_,_,_,_,_]) (RI:=RI) (RA:=RA) hS underlying22 tQ (by omega) rfl rfl (by omega) (fun dU gL _ hS=>?_);simp only [aD];simp only [aK] at hS)
            refine aX hS.sb ?_
            repeat (first|((with_reducible refine kM ?_);refine j3 rfl rfl (gC (T:=35) underlying35 sizeOf22 rfl rfl (by omega) (by omega) ?_);simp only [aD];simp only [Nat.zero_add,Int.toNat_natCast]))
            refine dC ?_
            ((with_reducible refine gK (T:=22) ?_);refine a6k (T:=22) (v:=.slice _ _ _) 8 hS rfl rfl rfl (by rw [a1O];omega) sizeOf22 rfl rfl (fun _ hS=>?_);simp only [aD];simp only [aK] at hS)
            refine dD ?_;refine bE ?_;obtain⟨r2,cT⟩:∃ r2:bK,r2=⟨(nth cM RI f).k,dU,(nth cM RI f).n+1,gL,(nth cM RI f).is++[y]⟩:=⟨_,rfl⟩;have vK:(oc RI).set f (.slice dU ((nth cM RI f).n+1) gL)=oc (RI.set f r2):=by rw [a56,cT]
            rw [vK,← cT] at hS;have rS:r2.is=(nth cM RI f).is++[y]:=by rw [cT]
            have uc:r2.n=(nth cM RI f).n+1:=by rw [cT]
            have yL:=a8A (R:=RI) rS;rw [ur.out] at yL
            have a1F:∀ r ∈ RI.set f r2,r.n≤v+1:=fun r hr=>by
             rcases List.mem_or_eq_of_mem_set hr with h|h
             ·exact Nat.le_succ_of_le (yd.out r h)
             ·rw [h,uc];omega
            replace yL:=Hd yL;replace a1F:=Hd a1F;clear vK cT rS uc oT;go_wp2;go_roundw
            case rel =>
             exact⟨v+1,_,RA,by omega,by simp,by rw [List.length_set];exact zM,yQ,by rw [iP.out];exact yL,by rw [iP.out];exact vB,a1F,Hd (fun r hr=>Nat.le_succ_of_le (hnA.out r hr)),by rw [iP.out];exact hS⟩
            case measure=>simp [intOf];omega
           ·rw [if_neg (fun h=>he (uM.1 h.1))] at iQ
            rw [if_neg he] at iP;have oT:=a2S (R:=RA) (i:=f) (by omega);have sz:=hnA.out (nth cM RA f) (cQ cM RA f (by omega));replace iP:=Hd iP;replace he:=Hd he;clear uM
            go_wp2_with (first|((with_reducible refine a0J (T:=75) ?_);refine dI hS rfl (a1J (ev:=ik) (k:=(v:Int)) (z:=(0:Int)) 12 underlying75 zeroValue3 (uX underlying3) rfl rfl rfl s8 ?_);simp only [aD];simp only [ik])|(with_reducible first|refine aU 2 hS isAgg22 ?_|refine kW underlying22 sizeOf3 ?_|refine uC 4 hS isAgg3 ?_))
            refine qR [.p 0,.r 1,.p 2,.p 3,.r 4,.p 5,.p 6,.r 7,.p 8,.e 9,.e 10,.p 11,.m 12] [12] (fun w'=>aA (nd w) w' (.aH F1 wc::.row (.slice (some ⟨g,0,none⟩) M c) 3 1 M (iv (zs x.N))::.aB f6 (.cells #[.slice (some ⟨g,0,none⟩) M c,.slice (some ⟨g2,0,none⟩) M M,.slice (some ⟨go,0,none⟩) k co,.slice (some ⟨gi,0,none⟩) k ci,.slice (some ⟨ga,0,none⟩) k ca] 37 (0,0))::.aB b4 (.cells #[.slice (some ⟨g,0,none⟩) M c] 22 (0,0))::.row (.slice (some ⟨g2,0,none⟩) M M) 3 1 M (iv (L))::.aB bx (.cells #[.slice a1 n1 c1,.slice a2 n2 c2,.slice a3 V.length c3,.slice a4 es.length c4] 28 (0,0))::.row (.slice (some ⟨gr,0,none⟩) V.length cr) 3 1 V.length (iv (zs x.root))::.row (.slice (some ⟨go,0,none⟩) k co) 3 1 k (iv x.O)::.row (.slice (some ⟨gi,0,none⟩) k ci) 22 1 k (oc (RI))::.row (.slice (some ⟨ga,0,none⟩) k ca) 22 1 k (oc RA)::[])) (fun w'=>aA (nd w) w' _) (by kernel_rfl) (by kernel_rfl) hS.drew (fun _ hZ=>aA.sub hZ (by repeat (first|apply List.Sublist.cons_cons|apply List.Sublist.cons|exact List.nil_sublist _))) (fun w1 hS=>?_)
            repeat (first|(with_reducible refine cZ 2 isAgg35 ?_)|((with_reducible refine kM ?_);refine j3 rfl rfl (gC (T:=35) underlying35 sizeOf22 rfl rfl (by omega) (by omega) ?_);simp only [aD];simp only [Nat.zero_add,Int.toNat_natCast])|((with_reducible refine l8 ?_);refine jh rfl rfl (yy (T:=22) 9 isAgg22 rfl rfl oT ?_);simp only [aD])|(with_reducible refine bU ?_))
            refine aZ ?_
            ((with_reducible refine dV (T:=22) ?_);refine fZ (T:=22) (v:=.int .i64 _) hS underlying22 sizeOf3 zeroValue3 rfl rfl rfl (by decide) (by decide) rfl (fun lb wlb hS=>?_);simp only [aD];simp only [Value.cells] at hS)
            refine aX hS.sb ?_;refine aZ ?_
            ((with_reducible refine eG ?_);refine aIU (H0:=[_,_,_,_,_,_,_,_,_,_,_,_,_]) (RI:=RI) (RA:=RA) hS underlying22 tQ (by omega) rfl rfl (by omega) (fun dU gL _ hS=>?_);simp only [aD];simp only [aK] at hS)
            refine aX hS.sb ?_
            repeat (first|((with_reducible refine kM ?_);refine j3 rfl rfl (gC (T:=35) underlying35 sizeOf22 rfl rfl (by omega) (by omega) ?_);simp only [aD];simp only [Nat.zero_add,Int.toNat_natCast]))
            refine dC ?_
            ((with_reducible refine gK (T:=22) ?_);refine a6k (T:=22) (v:=.slice _ _ _) 9 hS rfl rfl rfl (by rw [a1O];omega) sizeOf22 rfl rfl (fun _ hS=>?_);simp only [aD];simp only [aK] at hS)
            refine dD ?_;refine bE ?_;obtain⟨r2,cT⟩:∃ r2:bK,r2=⟨(nth cM RA f).k,dU,(nth cM RA f).n+1,gL,(nth cM RA f).is++[v]⟩:=⟨_,rfl⟩;have vK:(oc RA).set f (.slice dU ((nth cM RA f).n+1) gL)=oc (RA.set f r2):=by rw [a56,cT]
            rw [vK,← cT] at hS;have rS:r2.is=(nth cM RA f).is++[v]:=by rw [cT]
            have uc:r2.n=(nth cM RA f).n+1:=by rw [cT]
            have xE:=a8A (R:=RA) rS;rw [vB.out] at xE
            have a0C:∀ r ∈ RA.set f r2,r.n≤v+1:=fun r hr=>by
             rcases List.mem_or_eq_of_mem_set hr with h|h
             ·exact Nat.le_succ_of_le (hnA.out r h)
             ·rw [h,uc];omega
            replace xE:=Hd xE;replace a0C:=Hd a0C;clear vK cT rS uc oT;go_wp2;go_roundw
            case rel =>
             exact⟨v+1,RI,_,by omega,by simp,zM,by rw [List.length_set];exact yQ,by rw [iP.out];exact ur,by rw [iP.out];exact xE,Hd (fun r hr=>Nat.le_succ_of_le (yd.out r hr)),a0C,by rw [iP.out];exact hS⟩
            case measure=>simp [intOf];omega
         ·have hq:(nth 0 (zs x.root) v != (v:Int))=true:=by rw [xj];simp;omega
          have aR:(nth 0 (zs x.root) v == (v:Int))=false:=by rw [xj];simp;omega
          unfold FI.a0a at cA;rw [if_neg hr] at cA;replace hr:=Hd hr;replace cA:=Hd cA
          go_wp2_with (with_reducible first|refine kW underlying22 sizeOf3 ?_|refine uC 6 hS isAgg3 ?_)
          go_roundw
          case rel=>exact⟨v+1,RI,RA,by omega,by simp,zM,yQ,by rw [cA.out];exact ur,by rw [cA.out];exact vB,Hd (fun r hr=>Nat.le_succ_of_le (yd.out r hr)),Hd (fun r hr=>Nat.le_succ_of_le (hnA.out r hr)),by rw [cA.out];exact hS⟩
          case measure=>simp [intOf];omega
        ·obtain rfl:V.length=v:=by omega
         have my:=fL.out;have gq:x.fr=⟨x.N,(x.gE V.length).L,x.O,(x.gE V.length).I.map qt,(x.gE V.length).A⟩:=by unfold FI.fr;rw [my]
         have yt:=Hd lG.a1N;replace gq:=Hd gq;clear cA p3 lP hv
         go_wp2_with (with_reducible refine aU 2 hS isAgg35 ?_)
         go_loopw [165] (fun aDZ wx=>∃ i:Nat,i≤k∧aDZ=.int .i64 (i:Int)∧aA (nd w) wx (.aH F1 wc::.row (.slice (some ⟨g,0,none⟩) M c) 3 1 M (iv (zs x.N))::.aB f6 (.cells #[.slice (some ⟨g,0,none⟩) M c,.slice (some ⟨g2,0,none⟩) M M,.slice (some ⟨go,0,none⟩) k co,.slice (some ⟨gi,0,none⟩) k ci,.slice (some ⟨ga,0,none⟩) k ca] 37 (0,0))::.aB b4 (.cells #[.slice (some ⟨g,0,none⟩) M c] 22 (0,0))::.row (.slice (some ⟨g2,0,none⟩) M M) 3 1 M (iv ((x.gE V.length).L))::.aB bx (.cells #[.slice a1 n1 c1,.slice a2 n2 c2,.slice a3 V.length c3,.slice a4 es.length c4] 28 (0,0))::.row (.slice (some ⟨gr,0,none⟩) V.length cr) 3 1 V.length (iv (zs x.root))::.row (.slice (some ⟨go,0,none⟩) k co) 3 1 k (iv x.O)::.row (.slice (some ⟨gi,0,none⟩) k ci) 22 1 k (oc (RI))::.row (.slice (some ⟨ga,0,none⟩) k ca) 22 1 k (oc (RA))::.aB bm o::.aB br (.cells #[.slice none 0 0,.slice none 0 0,.slice none 0 0,.slice none 0 0,.slice none 0 0] 37 (0,0))::.aB bc oc1::((q9 RI i).map (bK.ch 3)++(RA).map (bK.ch 3)))) (fun aDZ _=>k - (intOf aDZ).toNat)
         case atStart=>exact⟨0,by omega,rfl,by rw [aHl];exact hS⟩
         case round =>
          clear hS;obtain⟨i,hi,rfl,hS⟩:=hrel
          by_cases dj:i<k
          ·have kK:i<RI.length:=by omega
           have oT:=a2S kK;have sz:=yd.out _ (cQ cM RI i kK);have vI:=aJz kK;rw [a9z kK] at vI;replace vI:=Hd vI
           go_wp2_with (first|(with_reducible refine kW underlying35 sizeOf22 ?_)|((with_reducible refine dq (T:=22) ?_);refine dI hS rfl (yy (T:=22) 8 isAgg22 rfl rfl oT ?_);simp only [aD]))
           have hcs:=aNd (L:=[_,_,_,_,_,_,_,_,_,_,_,_,_]) (R:=q9 RI i) (R3:=RA.map (bK.ch 3)) (i:=i) hS (by rw [aJN];omega) (by rw [a9z kK];omega);rw [a9z kK,vI.out] at hcs;refine hcs.mono ?_;clear hcs;rintro e w1 ⟨rfl,cK⟩;clear hS;have hS:=cK;clear cK;simp only [aK] at hS;simp only [];go_wp2;go_roundw
           case rel=>exact⟨i+1,by omega,by simp,hS⟩
           case measure=>simp [intOf];omega
          ·obtain rfl:RI.length=i:=by omega
           have aBk:=aUH RI;replace aBk:=Hd aBk;have aXj:=yQ
           go_wp2_with (with_reducible first|refine bA 2 hS isAgg37 sizeOf37 ?_|refine aJ 11 hS sizeOf37 fun _ hS=>?_)
           replace hS:aA (nd w) _ ([_,_,_,_,_,_,_,_,_,_,_,_,_]++(_++_)):=hS;have hSf:=aPE hS [0,2,3,5,6,10,11,12,1,4,7,8,9] (by kernel_rfl);simp only [iw] at hSf;rw [← aJx RI RI.length (Nat.le_refl _)] at hSf;have hgd:=yt.out;rw [gq.out] at hgd;obtain⟨S',hP,hF⟩:=aN8 (L:=[_,_,_,_,_,_,_]) (f:=⟨x.N,(x.gE V.length).L,x.O,(x.gE V.length).I.map qt,(x.gE V.length).A⟩) hSf av aG bB hgd (by rw [hxm.out];exact hM) hk.out (by rw [aJN];exact zM) yQ (by rw [aBk.out,ur.out]) vB.out hM2 (by rw [fL.out];exact gO);refine jJ 11 hS rfl rfl rfl isAgg37 sizeOf37 rfl rfl ?_;exact⟨RL,_,_,_,_,_,S',rfl,sa.out,rH.out,hP,hP.yj wH.out,by rw [nH.out,gq.out];exact hF⟩
    ·obtain⟨v,hv,nA,rfl,nC⟩:=zP.pair cW
     obtain⟨va,vn,vc⟩:=vv;have aYZ:=sa.out;have jM:IntKind.i64.wrap (v:Int)=(v:Int):=w6;have lO:(x.L1 (d.map fun p=>p.1.toNat)).length=M:=by rw [FI.yJ];exact kp.out
     have xd:((d++[((v:Int),(va,vn,vc))]).map fun p=>p.1.toNat)=(d.map fun p=>p.1.toNat)++[v]:=by simp
     replace xd:=Hd xd;have aP8:=hrl.out;have a2j:=fun (oi2:Obj) (w2:World) (h:w2.heap[bi]? = some oi2) (hi:pA ik sv bm o oi2 l (d++[((v:Int),(va,vn,vc))]))=>a7C hi h
     have aKw:=a7X qn;replace dJ:=Hd dJ
     by_cases hr:nth 0 x.root v=v
     ·have hq:(nth 0 (zs x.root) v == (v:Int))=true:=by rw [xj,hr];simp
      have xN:0<(nth [] RL v).length:=List.length_pos_iff.2 nA;have hve:x.fh v=true:=by rw [hxh.out];simpa using nA
      have cD:=lG.zJ v (by rw [fL.out];omega) hve;rw [kp.out] at cD;have xr:=rH.out v (by omega);have aW:=xr.lt;have hlen:(nth [] RL v).length≤es.length:=by rw [xr.perm.length_eq];exact a9y _
      have cA:=x.aT9 lG.perm (d.map fun p=>p.1.toNat) v hr (by rw [kp.out];exact cD);have uB:=x.aRl hnm.out v hr;replace cA:=Hd cA;replace uB:=Hd uB;replace hve:=Hd hve;replace nA:=Hd nA;replace hr:=Hd hr;replace aW:=Hd aW;replace xr:=Hd xr;clear cW hkd
      go_wp2_with (first|((with_reducible refine aDP ?_);refine dI hS rfl (aFu 10 13 rfl rfl rfl qn ?_);simp only [aD];simp only [ik,sv])|(with_reducible first|refine kW underlying22 sizeOf3 ?_|refine uC 6 hS isAgg3 ?_|refine bA 5 hS isAgg28 sizeOf28 ?_))
      refine (aOe a1 a2 a3 a4 va n1 c1 n2 c2 V.length c3 es.length c4 vn vc rs es (nth [] RL v) _ S1 S1 (yX.hE.move (hS.da aG)) (yX.jf.at hS aG) (nC.move (hS.da aG)) xN (by omega) (fun j hj=>aW.out _ (cQ 0 _ j hj)) (by omega) hd).mono ?_;rintro e w1 ⟨r,rfl,mL,hb⟩;replace mL:=mL.eq;rw [hxo.out] at mL;subst mL;replace hS:=hS.fW (tb w) hb;clear hb;simp only []
      go_wp2_with (fail)
      refine (a7r lG.perm kp.out cD (by omega) (x.L1 (d.map fun p=>p.1.toNat)) lO (-2) f6 b4 g2 M c g _ _ _ hS).mono ?_;rintro e w2 ⟨rfl,cK⟩;clear hS;have hS:=cK;clear cK;rw [← cA.out] at hS;simp only []
      go_wp2_with (first|((with_reducible refine a3x (T:=75) ?_);refine a1Z (ev:=ik) (k:=(v:Int)) (v:=(ed x.N (x.out v):Int)) 12 hS underlying75 (uX underlying3) rfl rfl rfl rfl (by with_reducible assumption) rfl (fun ou wu hmu hS=>?_);simp only [aD];simp only [aK] at hS))
      rw [← xd.out] at hS uB;go_roundw
      case rel=>exact⟨_,oV,ou,_,qn,hmu,uB,hS⟩
      case measure =>
       have yi:=a2j oV _ (hS.aB (b:=bi) (o:=oV) (by simp)) qn;simp only [List.length_append,List.length_cons,List.length_nil] at yi aKw;have dJ:=dJ.out;simp only [dJ,yi];omega
     ·have hq:(nth 0 (zs x.root) v == (v:Int))=false:=by rw [xj];simp;omega
      have cA:=x.aUx (d.map fun p=>p.1.toNat) v hr;have uB:=x.aNy hnm.out v hr;replace cA:=Hd cA;replace uB:=Hd uB;replace hr:=Hd hr;clear cW hkd
      go_wp2_with (first|((with_reducible refine aDP ?_);refine dI hS rfl (aFu 10 13 rfl rfl rfl qn ?_);simp only [aD];simp only [ik,sv])|(with_reducible first|refine kW underlying22 sizeOf3 ?_|refine uC 6 hS isAgg3 ?_))
      rw [← cA.out,← xd.out] at hS;rw [← xd.out] at uB;go_roundw
      case rel=>exact⟨_,oV,oc,_,qn,s8,uB,hS⟩
      case measure =>
       have yi:=a2j oV _ (hS.aB (b:=bi) (o:=oV) (by simp)) qn;simp only [List.length_append,List.length_cons,List.length_nil] at yi aKw;have dJ:=dJ.out;simp only [dJ,yi];omega
end
theorem aA.wV {w0 w wr w':World} {H:List Chunk} {F S S':Nat→Prop} (hS:aA w0 w (.aH F wr::H)) (h0:w0.drawn=0) (hF:∀ k,S k→F k) (hq:Pure (nd w) S w' S'):∃ F',(∀ k,S' k→F' k)∧(∀ k,F k→F' k)∧aA w0 w' (.aH F' w'::H):=by
 have hb:Below w.heap.size w w':=⟨hq.below.os,hq.below.tape,hq.below.output,hq.below.size,hq.below.block⟩;obtain⟨F',h1,h2,h3⟩:=hS.aKb h0 hb;exact⟨F',fun k hk=>(hq.new k hk).elim (fun h=>h1 k (hF k h)) (fun h=>h2 k h),h1,h3⟩
theorem Pure.aE4 {w0 w w':World} {S0 S S':Nat→Prop} (h:Pure w0 S0 w S) (h0:w0.drawn=0) (hq:Pure (nd w) S w' S'):Pure w0 S0 w' S':=by
 have hb:Below w.heap.size w w':=⟨hq.below.os,hq.below.tape,hq.below.output,hq.below.size,hq.below.block⟩;refine⟨h.below.trans (hb.mono h.below.size),by rw [h0];exact Nat.zero_le _,fun k hk=>hq.sub k (h.sub k hk),fun k hk=>?_⟩
 rcases hq.new k hk with h1|h1
 ·rcases h.new k h1 with h2|h2
  ·exact .inl h2
  ·exact .inr ⟨h2.1,Nat.lt_of_lt_of_le h2.2 hb.size⟩
 ·exact .inr ⟨Nat.le_trans h.below.size h1.1,h1.2⟩
theorem Pure.pf {w w':World} {S S':Nat→Prop} (hq:Pure (nd w) S w' S'):Below w.heap.size w w':=⟨hq.below.os,hq.below.tape,hq.below.output,hq.below.size,hq.below.block⟩
theorem aOm {w:World} {S:Nat→Prop} {v:Value} {I:List (List Nat)} (h:nO w S v I) {i:Nat} (hi:i<I.length):∃ (R:List (Option Addr × Nat × Nat)) (ad:Option Addr) (n c:Nat),bN w S 1 v I.length (R.map sv)∧((R.map sv).drop (i*1)).take 1=[.slice ad n c]∧jZ w S (.slice ad n c) (nth [] I i)∧n=(nth [] I i).length:=by
 obtain⟨R,h1,h2,h3⟩:=h;have h4:=h3 i hi;have hr:i<R.length:=by omega
 refine⟨R,(nth (none,0,0) R i).1,(nth (none,0,0) R i).2.1,(nth (none,0,0) R i).2.2,h2,?_,h4,jZ.len h4⟩;rw [Nat.mul_one,bS _ _ _ hr,List.drop_eq_getElem_cons (by simpa using hr)];simp [sv]
structure Prim (d:Gp):Prop where
 lex:0<d.x∨(d.x=0∧0<d.y)
 cop:Int.gcd d.x d.y=1
theorem gcd_dvd {a b c:Int} (h:a ∣ b*c) (hg:Int.gcd a b=1):a ∣ c:=by
 have h1:a.natAbs ∣ b.natAbs*c.natAbs:=by rw [← Int.natAbs_mul];exact Int.natAbs_dvd_natAbs.2 h
 have h2:Nat.Coprime a.natAbs b.natAbs:=hg;exact Int.natAbs_dvd_natAbs.1 (h2.dvd_of_dvd_mul_left h1)
theorem Prim.eq {d e:Gp} (hd:Prim d) (he:Prim e) (h:d.x*e.y=d.y*e.x):d=e:=by
 obtain⟨a,b⟩:=d;obtain⟨p,q⟩:=e;have l1:=hd.lex;have l2:=he.lex;have c1:=hd.cop;have c2:=he.cop;simp only at *;have h1:a ∣ p:=gcd_dvd (b:=b) ⟨q,h.symm⟩ c1;have h2:p ∣ a:=gcd_dvd (b:=q) ⟨b,by rw [Int.mul_comm q a,h,Int.mul_comm]⟩ c2
 have e1:a=p:=by
  have n1:=Int.natAbs_dvd_natAbs.2 h1;have n2:=Int.natAbs_dvd_natAbs.2 h2;have:=Nat.dvd_antisymm n1 n2;omega
 subst e1
 by_cases h0:a=0
 ·subst h0
  rw [Int.gcd_zero_left] at c1 c2;have:b=q:=by omega
  rw [this]
 ·have:q=b:=Int.eq_of_mul_eq_mul_left h0 (by rw [h,Int.mul_comm])
  rw [this]
theorem yC {s:Sz} (bJ:s.a≠s.b):Prim (fN s)∧∃ k:Int,k≠0∧s.b.x - s.a.x=k*(fN s).x∧s.b.y - s.a.y=k*(fN s).y:=by
 have wi:¬ (s.b.x - s.a.x=0∧s.b.y - s.a.y=0):=fun h=>bJ (by
  obtain⟨⟨ax,ay⟩,⟨bx,by'⟩⟩:=s;simp only at h;simp only [Gp.mk.injEq];omega)
 unfold fN;generalize s.b.x - s.a.x=dx at *;generalize s.b.y - s.a.y=dy at *
 have hg:0<Int.gcd dx dy:=by
  rcases Nat.eq_zero_or_pos (Int.gcd dx dy) with h|h
  ·exact absurd (Int.gcd_eq_zero_iff.1 h) wi
  ·exact h
 have d1:((Int.gcd dx dy:Nat):Int) ∣ dx:=Int.gcd_dvd_left dx dy;have d2:((Int.gcd dx dy:Nat):Int) ∣ dy:=Int.gcd_dvd_right dx dy;have hc:=Int.gcd_ediv_gcd_ediv_gcd hg;rw [Int.tdiv_eq_ediv_of_dvd d1,Int.tdiv_eq_ediv_of_dvd d2];have e1:dx=(Int.gcd dx dy:Nat)*(dx / (Int.gcd dx dy:Nat)):=(Int.mul_ediv_cancel' d1).symm;have e2:dy=(Int.gcd dx dy:Nat)*(dy / (Int.gcd dx dy:Nat)):=(Int.mul_ediv_cancel' d2).symm;generalize hG:((Int.gcd dx dy:Nat):Int)=g at *;have hgp:0<g:=by rw [← hG];omega
 generalize dx / g=u at *;generalize dy / g=v at *;clear hG hg d1 d2;subst e1 e2
 have iz:∀ x:Int,g*x<0↔x<0:=fun x=>by
  constructor
  ·intro h;exact Classical.byContradiction fun hn=>by
    have:=Int.mul_nonneg (Int.le_of_lt hgp) (Int.not_lt.1 hn);omega
  ·intro h;exact Int.mul_neg_of_pos_of_neg hgp h
 have lX:∀ x:Int,g*x=0↔x=0:=fun x=>by
  rw [Int.mul_eq_zero];omega
 simp only [iz,lX];simp only [lX] at wi
 by_cases h:u<0∨(u=0∧v<0)
 ·rw [if_pos h]
  refine⟨⟨by simp only;omega,by simp only [Int.gcd_neg,Int.neg_gcd];exact hc⟩,-g,by omega,?_,?_⟩ <;> simp only [Int.neg_mul_neg]
 ·rw [if_neg h]
  exact⟨⟨by simp only;omega,hc⟩,g,by omega,rfl,rfl⟩
theorem aUE {s:Sz} (bJ:s.a≠s.b):∃ k:Rat,k≠0∧s.sg.b.x - s.sg.a.x=k*((fN s).x:Rat)∧s.sg.b.y - s.sg.a.y=k*((fN s).y:Rat):=by
 obtain⟨_,k,h0,h1,h2⟩:=yC bJ;refine⟨(k:Rat),fun h=>h0 (Rat.intCast_inj.1 (by simpa using h)),?_,?_⟩
 ·have:=congrArg (Int.cast:Int→Rat) h1
  rw [Rat.intCast_sub,Rat.intCast_mul] at this;exact this
 ·have:=congrArg (Int.cast:Int→Rat) h2
  rw [Rat.intCast_sub,Rat.intCast_mul] at this;exact this
theorem a7N {k a b:Rat} (hk:k≠0) (h:k*a=k*b):a=b:=by
 have:k*(a - b)=0:=by grind
 rcases Rat.mul_eq_zero.1 this with h|h
 ·exact absurd h hk
 ·grind
theorem aU5 {s:Sz} (bJ:s.a≠s.b) {p q:Pt} (hp:cj s.sg p) (hq:cj s.sg q):((fN s).x:Rat)*(q.y - p.y)=((fN s).y:Rat)*(q.x - p.x):=by
 obtain⟨k,h0,h1,h2⟩:=aUE bJ;have a1:=hp.1;have a2:=hq.1;unfold bT at a1 a2;rw [h1,h2] at a1 a2;refine a7N h0 ?_
 grind
theorem Prim.nz {d:Gp} (h:Prim d):(0:Rat)<(d.x:Rat)∨((d.x:Rat)=0∧(0:Rat)<(d.y:Rat)):=by
 rcases h.lex with h|⟨h1,h2⟩
 ·exact .inl (Rat.intCast_pos.2 h)
 ·exact .inr ⟨by rw [h1];rfl,Rat.intCast_pos.2 h2⟩
theorem a2U {s:Sz} (bJ:s.a≠s.b) {p q:Pt} (hp:cj s.sg p) (hq:cj s.sg q) (hl:p.lt q):∃ t:Rat,0<t∧q.x - p.x=t*((fN s).x:Rat)∧q.y - p.y=t*((fN s).y:Rat):=by
 have h:=aU5 bJ hp hq;have hn:=(yC bJ).1.nz;generalize ((fN s).x:Rat)=u at *;generalize ((fN s).y:Rat)=v at *;unfold Pt.lt at hl
 rcases hn with hu|⟨hu,hv⟩
 ·have vm:u≠0:=by grind
  have hm:u*((q.x - p.x) / u)=q.x - p.x:=by rw [Rat.mul_comm,Rat.div_mul_cancel vm]
  have hmy:u*(q.y - p.y)=u*((q.x - p.x) / u*v):=by grind
  have hy:=a7N vm hmy;refine⟨(q.x - p.x) / u,?_,by grind,hy⟩
  rcases hl with hl|⟨hl,eJ⟩
  ·exact yE hu (by rw [hm];grind)
  ·exfalso
   have:q.x - p.x=0:=by grind
   rw [this] at hy
   grind
 ·subst hu
  have um:v≠0:=by grind
  have hx:v*(q.x - p.x)=v*0:=by grind
  have iz:=a7N um hx;have hm:v*((q.y - p.y) / v)=q.y - p.y:=by rw [Rat.mul_comm,Rat.div_mul_cancel um]
  refine⟨(q.y - p.y) / v,?_,by grind,by grind⟩
  rcases hl with hl|⟨hl,eJ⟩
  ·grind
  ·exact yE hv (by rw [hm];grind)
theorem aLM {s:Sg} {p q r:Pt} {l:Rat} (hp:cj s p) (hq:cj s q) (h0:0≤l) (h1:l≤1) (hx:r.x=p.x+l*(q.x - p.x)) (hy:r.y=p.y+l*(q.y - p.y)):cj s r:=by
 obtain⟨a1,b1,b2,b3,b4⟩:=hp;obtain⟨a2,c1,c2,c3,c4⟩:=hq
 have key:∀ m M x y:Rat,m≤x→x≤M→m≤y→y≤M→m≤x+l*(y - x)∧x+l*(y - x)≤M:=fun m M x y g1 g2 g3 g4=>by
  have k1:=oH h0 (show 0≤y - m by grind);have k2:=oH (show 0≤1 - l by grind) (show 0≤x - m by grind);have k3:=oH h0 (show 0≤M - y by grind);have k4:=oH (show 0≤1 - l by grind) (show 0≤M - x by grind)
  constructor <;> grind
 have e1:=key _ _ _ _ b1 b2 c1 c2;have e2:=key _ _ _ _ b3 b4 c3 c4;refine⟨?_,by rw [hx];exact e1.1,by rw [hx];exact e1.2,by rw [hy];exact e2.1,by rw [hy];exact e2.2⟩;unfold bT at *;rw [hx,hy]
 grind
theorem aGy {s t:Sz} (hs:s.a≠s.b) (ht:t.a≠t.b) {p q:Pt} (hp:cj s.sg p) (hq:cj s.sg q) (iY:cj t.sg p) (jB:cj t.sg q) (hl:p.lt q):fN s=fN t:=by
 obtain⟨a,ha,oG,rI⟩:=a2U hs hp hq hl;obtain⟨b,hb,oA,jm⟩:=a2U ht iY jB hl;refine (yC hs).1.eq (yC ht).1 ?_
 have h1:((fN s).x:Rat)*((fN t).y:Rat)=((fN s).y:Rat)*((fN t).x:Rat):=by
  have fk:a*b≠0:=by have:=a0f ha hb;grind
  refine a7N fk ?_;generalize ((fN s).x:Rat)=u at *;generalize ((fN s).y:Rat)=v at *;generalize ((fN t).x:Rat)=u' at *;generalize ((fN t).y:Rat)=v' at *;have e1:a*u=b*u':=by rw [← oG,← oA]
  have e2:a*v=b*v':=by rw [← rI,← jm]
  grind
 rw [← Rat.intCast_mul,← Rat.intCast_mul] at h1;exact Rat.intCast_inj.1 h1
theorem qA {V:List Pt} (hV:V.Pairwise Pt.lt) {u v:Nat} {p q:Pt} (hp:V[u]? = some p) (hq:V[v]? = some q) (h:u<v):p.lt q:=by
 obtain⟨a1,a2⟩:=List.getElem?_eq_some_iff.1 hp;obtain⟨b1,b2⟩:=List.getElem?_eq_some_iff.1 hq;have:=List.pairwise_iff_getElem.1 hV u v a1 b1 h
 rwa [a2,b2] at this
theorem eu.unique {os:List Sz} {gs:List Gp} {V V':List Pt} {es iy:List Ed} (cJ:∀ t ∈ os,t.a≠t.b) (h:eu os gs V es) (h':eu os gs V' iy):V=V'∧es=iy:=by
 obtain⟨e1,e2⟩:=h.arr.unique h'.arr;subst e1;refine⟨rfl,?_⟩;have hl:es.length=iy.length:=by simpa using congrArg List.length e2
 apply List.ext_getElem hl;intro i h1 h2
 have e3:(es[i].a,es[i].b)=(iy[i].a,iy[i].b):=by
  have:=congrArg (fun l=>l[i]?) e2
  simpa [h1,h2] using this
 have m1:=List.getElem_mem h1;have m2:=List.getElem_mem h2;generalize es[i]=e at *;generalize iy[i]=e' at *;rw [Prod.mk.injEq] at e3;obtain⟨ea,eb⟩:=e3
 have hof:e.of=e'.of:=by
  refine a5G (lt:=(· < ·)) (fun x=>Nat.lt_irrefl x) (fun a b=>Nat.lt_trans a b) (h.ofs _ m1) (h'.ofs _ m2) (fun k=>?_);rw [h.of _ m1,h'.of _ m2,ea,eb]
 have qS:e.dir=e'.dir:=by
  obtain⟨s,hs,hn,hd⟩:=h.dir _ m1;obtain⟨t,ht,hn',hd'⟩:=h'.dir _ m2;rw [hd,hd'];rw [← ea,← eb] at hn';obtain⟨kZ,p,q,hp,hq,op,oq,_⟩:=hn;obtain⟨_,p',q',iY,jB,op',oq',_⟩:=hn';rw [hp] at iY;cases iY;rw [hq] at jB;cases jB;exact aGy (cJ s hs) (cJ t ht) op oq op' oq' (qA h.arr.sv hp hq kZ)
 obtain⟨a,b,o,d⟩:=e;obtain⟨a',b',o',d'⟩:=e';simp only at ea eb hof qS;rw [ea,eb,hof,qS]
theorem eu.mw {os:List Sz} {gs:List Gp} {V:List Pt} {es:List Ed} (h:eu os gs V es) (cJ:∀ t ∈ os,t.a≠t.b) {e:Ed} (he:e ∈ es):e.a<e.b∧e.b<V.length∧Prim e.dir∧∃ s ∈ os,kX V s.sg e.a e.b∧e.dir=fN s:=by
 obtain⟨h1,h2⟩:=h.arr.lt (List.mem_map.2 ⟨e,he,rfl⟩);obtain⟨s,hs,hn,hd⟩:=h.dir e he;exact⟨h1,h2,by rw [hd];exact (yC (cJ s hs)).1,s,hs,hn,hd⟩
theorem eu.aTa {os:List Sz} {gs:List Gp} {V:List Pt} {es:List Ed} (h:eu os gs V es) {i j:Nat} (hi:i<es.length) (hj:j<es.length) (ha:(nth ah es i).a=(nth ah es j).a) (hb:(nth ah es i).b=(nth ah es j).b):i=j:=by
 have hp:=List.pairwise_map.1 h.arr.se;rw [bS _ _ _ hi,bS _ _ _ hj] at ha hb
 rcases Nat.lt_trichotomy i j with fe|fe|fe
 ·have:=List.pairwise_iff_getElem.1 hp i j hi hj fe
  unfold mY at this;simp only at this;omega
 ·exact fe
 ·have:=List.pairwise_iff_getElem.1 hp j i hj hi fe
  unfold mY at this;simp only at this;omega
theorem aIn {u v t:Rat} {p q:Pt} (hn:0<u∨(u=0∧0<v)) (hl:p.lt q) (hx:q.x - p.x=t*u) (hy:q.y - p.y=t*v):0<t:=by
 unfold Pt.lt at hl
 rcases hn with hu|⟨rfl,hv⟩
 ·rcases hl with hl|⟨hl,eJ⟩
  ·exact yE hu (by grind)
  ·exfalso
   have h0:t*u=0:=by grind
   rcases Rat.mul_eq_zero.1 h0 with h|h <;> grind
 ·rcases hl with hl|⟨hl,eJ⟩
  ·grind
  ·exact yE hv (by grind)
theorem aIZ {V:List Pt} (hV:V.Pairwise Pt.lt) {s t:Sz} (hs:s.a≠s.b) (ht:t.a≠t.b) {v b c:Nat} (h1:kX V s.sg v b) (h2:kX V t.sg v c) (hd:fN s=fN t) (hbc:b<c):False:=by
 obtain⟨kZ,p,q,hp,hq,op,oq,_⟩:=h1;obtain⟨a1S,p',r,iY,hr,op',or',lD⟩:=h2;rw [hp] at iY;cases iY;have hqr:=qA hV hq hr hbc;obtain⟨a,ha,oG,rI⟩:=a2U hs op oq (qA hV hp hq kZ);obtain⟨b',hb,oA,jm⟩:=a2U ht op' or' (qA hV hp hr a1S);have hn:=(yC ht).1.nz;rw [hd] at oG rI;have bV:=aIn (t:=b' - a) hn hqr (by grind) (by grind);have fk:b'≠0:=by grind
 have hm:a / b'*b'=a:=Rat.div_mul_cancel fk;refine lD b q kZ hbc hq (aLM (l:=a / b') op' or' ?_ ?_ ?_ ?_)
 ·have:0<a / b':=yE hb (by rw [Rat.mul_comm,hm];exact ha)
  grind
 ·have:0<1 - a / b':=yE hb (by grind)
  grind
 ·grind
 ·grind
theorem aHu {V:List Pt} (hV:V.Pairwise Pt.lt) {s t:Sz} (hs:s.a≠s.b) (ht:t.a≠t.b) {v b c:Nat} (h1:kX V s.sg b v) (h2:kX V t.sg c v) (hd:fN s=fN t) (hbc:b<c):False:=by
 obtain⟨kZ,p,q,hp,hq,op,oq,lD⟩:=h1;obtain⟨a1S,r,q',hr,jB,or',oq',_⟩:=h2;rw [hq] at jB;cases jB;have hpr:=qA hV hp hr hbc;obtain⟨a,ha,oG,rI⟩:=a2U hs op oq (qA hV hp hq kZ);obtain⟨b',hb,oA,jm⟩:=a2U ht or' oq' (qA hV hr hq a1S);have hn:=(yC hs).1.nz;rw [← hd] at oA jm;have bV:=aIn (t:=a - b') hn hpr (by grind) (by grind);have ha0:a≠0:=by grind
 have hm:(a - b') / a*a=a - b':=Rat.div_mul_cancel ha0;refine lD c r hbc a1S hr (aLM (l:=(a - b') / a) op oq ?_ ?_ ?_ ?_)
 ·have:0<(a - b') / a:=yE ha (by rw [Rat.mul_comm,hm];exact bV)
  grind
 ·have:0<1 - (a - b') / a:=yE ha (by grind)
  grind
 ·grind
 ·grind
theorem aOH {a b:Gp} (h1:¬ jW a b<0) (h2:¬ jW b a<0):kA a=kA b∧a.x*b.y=a.y*b.x:=by
 unfold jW gQ at h1 h2
 by_cases h:kA a=kA b
 ·rw [if_pos h] at h1
  rw [if_pos h.symm] at h2;refine⟨h,?_⟩;have e:b.x*a.y - b.y*a.x = -(a.x*b.y - a.y*b.x):=by grind
  rw [e] at h2
  have hz:a.x*b.y - a.y*b.x=0:=by
   generalize a.x*b.y - a.y*b.x=z at *
   split at h1 <;> split at h2 <;> (try split at h1) <;> (try split at h2) <;> omega
  omega
 ·exfalso
  rw [if_neg h] at h1;rw [if_neg (fun e=>h e.symm)] at h2
  split at h1 <;> split at h2 <;> omega
theorem aKB {d:Gp} (h:Prim d):kA d≠kA ⟨-d.x,-d.y⟩:=by
 have:=h.lex;unfold kA;simp only
 split <;> split <;> omega
theorem a8H {es:List Ed} {h:Nat} (e:h % 2=0):eh es h=(nth ah es (h / 2)).dir:=by unfold eh;rw [if_neg (by omega)]
theorem aAj {es:List Ed} {h:Nat} (e:h % 2=1):eh es h=⟨-(nth ah es (h / 2)).dir.x,-(nth ah es (h / 2)).dir.y⟩:=by unfold eh;rw [if_pos e]
theorem aP4 {os:List Sz} {gs:List Gp} {V:List Pt} {es:List Ed} (hA:eu os gs V es) (cJ:∀ t ∈ os,t.a≠t.b) {v g k:Nat} (hg:g ∈ outs es v) (hk:k ∈ outs es v) (h1:¬ jW (eh es k) (eh es g)<0) (h2:¬ jW (eh es g) (eh es k)<0):g=k:=by
 have bJ:∀ e ∈ es,e.a≠e.b:=fun e he=>by have:=(hA.mw cJ he).1;omega
 obtain⟨gl,go⟩:=(a4Y (Nat.le_refl _) bJ).1 hg;obtain⟨kl,ko⟩:=(a4Y (Nat.le_refl _) bJ).1 hk;obtain⟨hh,hc⟩:=aOH h1 h2;obtain⟨_,_,p1,s,hs,n1,d1⟩:=hA.mw cJ (cQ ah es _ gl);obtain⟨_,_,p2,t,ht,n2,d2⟩:=hA.mw cJ (cQ ah es _ kl);have inj:=@eu.aTa os gs V es hA (g / 2) (k / 2) gl kl;have fwd:=fun {v b c}=>@aIZ V hA.arr.sv s t (cJ s hs) (cJ t ht) v b c
 have aN2:=fun {v b c}=>@aIZ V hA.arr.sv t s (cJ t ht) (cJ s hs) v b c
 have bwd:=fun {v b c}=>@aHu V hA.arr.sv s t (cJ s hs) (cJ t ht) v b c
 have aRd:=fun {v b c}=>@aHu V hA.arr.sv t s (cJ t ht) (cJ s hs) v b c
 unfold iA at go ko
 rcases Nat.mod_two_eq_zero_or_one g with eg|eg <;> rcases Nat.mod_two_eq_zero_or_one k with ek|ek
 ·rw [if_pos eg] at go
  rw [if_pos ek] at ko;rw [a8H eg,a8H ek] at hc;have hd:(nth ah es (g / 2)).dir=(nth ah es (k / 2)).dir:=p1.eq p2 (by grind);rw [go] at n1;rw [ko] at n2;have qC:fN s=fN t:=by rw [← d1,← d2,hd]
  have hb:(nth ah es (g / 2)).b=(nth ah es (k / 2)).b:=by
   rcases Nat.lt_trichotomy (nth ah es (g / 2)).b (nth ah es (k / 2)).b with h|h|h
   ·exact (fwd n1 n2 qC h).elim
   ·exact h
   ·exact (aN2 n2 n1 qC.symm h).elim
  have:=inj (go.trans ko.symm) hb;omega
 ·exfalso
  rw [a8H eg,aAj ek] at hc hh;have hd:(nth ah es (g / 2)).dir=(nth ah es (k / 2)).dir:=p1.eq p2 (by simp only at hc;grind);rw [hd] at hh;exact aKB p2 hh.symm
 ·exfalso
  rw [aAj eg,a8H ek] at hc hh;have hd:(nth ah es (g / 2)).dir=(nth ah es (k / 2)).dir:=p1.eq p2 (by simp only at hc;grind);rw [hd] at hh;exact aKB p2 hh
 ·rw [if_neg (by omega)] at go
  rw [if_neg (by omega)] at ko;rw [aAj eg,aAj ek] at hc;have hd:(nth ah es (g / 2)).dir=(nth ah es (k / 2)).dir:=p1.eq p2 (by simp only at hc;grind);rw [go] at n1;rw [ko] at n2;have qC:fN s=fN t:=by rw [← d1,← d2,hd]
  have ha:(nth ah es (g / 2)).a=(nth ah es (k / 2)).a:=by
   rcases Nat.lt_trichotomy (nth ah es (g / 2)).a (nth ah es (k / 2)).a with h|h|h
   ·exact (bwd n1 n2 qC h).elim
   ·exact h
   ·exact (aRd n2 n1 qC.symm h).elim
  have:=inj ha (go.trans ko.symm);omega
theorem nU.unique {os:List Sz} {gs:List Gp} {V:List Pt} {es:List Ed} (hA:eu os gs V es) (cJ:∀ t ∈ os,t.a≠t.b) {v:Nat} {l l':List Nat} (h:nU es v l) (h':nU es v l'):l=l' :=
 List.Perm.eq_of_pairwise (fun a b ha hb r1 r2=>aP4 hA cJ ((h.perm.mem_iff).1 ha) ((h'.perm.mem_iff).1 hb) r1 r2) h.sorted h'.sorted (h.perm.trans h'.perm.symm)
def a1g (V:List Pt) (s:Sg) (u v:Nat):Bool:=decide (u<v) && decide (v<V.length) && decide (cj s (nth au V u)) && decide (cj s (nth au V v)) && (List.range v).all fun w=>decide (w≤u) || !decide (cj s (nth au V w))
theorem a1B (V:List Pt) (s:Sg) (u v:Nat):a1g V s u v=true↔kX V s u v:=by
 unfold a1g kX;simp only [Bool.and_eq_true,decide_eq_true_eq,List.all_eq_true,List.mem_range,Bool.or_eq_true,Bool.not_eq_true',decide_eq_false_iff_not]
 constructor
 ·rintro⟨⟨⟨⟨h1,h2⟩,h3⟩,h4⟩,h5⟩
  refine⟨h1,nth au V u,nth au V v,?_,?_,h3,h4,fun w r h6 h7 hw=>?_⟩
  ·rw [bS _ _ _ (by omega)];exact List.getElem?_eq_getElem _
  ·rw [bS _ _ _ h2];exact List.getElem?_eq_getElem _
  ·obtain⟨hl,rfl⟩:=List.getElem?_eq_some_iff.1 hw
   rcases h5 w h7 with h|h
   ·omega
   ·rw [bS _ _ _ hl] at h;exact h
 ·rintro⟨h1,p,q,hp,hq,op,oq,lD⟩
  obtain⟨hu,rfl⟩:=List.getElem?_eq_some_iff.1 hp;obtain⟨hv,rfl⟩:=List.getElem?_eq_some_iff.1 hq;refine⟨⟨⟨⟨h1,hv⟩,by rw [bS _ _ _ hu];exact op⟩,by rw [bS _ _ _ hv];exact oq⟩,fun w hw=>?_⟩
  by_cases h6:w≤u
  ·exact .inl h6
  ·right
   rw [bS _ _ _ (by omega)];exact lD w _ (by omega) hw (List.getElem?_eq_getElem (by omega))
def yx {α:Type} (lt:α→α→Bool):List α→Bool
 | []=>true
 | x::l=>l.all (lt x) && yx lt l
theorem a2q {α:Type} {R:α→α→Prop} (lt:α→α→Bool) (h:∀ x y,lt x y=true→R x y):∀ l,yx lt l=true→l.Pairwise R
 | [],_=>List.Pairwise.nil
 | x::l,hl=>by
  unfold yx at hl;rw [Bool.and_eq_true,List.all_eq_true] at hl;exact List.pairwise_cons.2 ⟨fun y hy=>h x y (hl.1 y hy),a2q lt h l hl.2⟩
def aFX (os:List Sz) (gs:List Gp) (V:List Pt) (es:List Ed):Bool :=
 yx (fun p q:Pt=>decide (p.lt q)) V &&
 V.all (fun p=>(gs.map Gp.pt).contains p || os.any fun s=>decide (p=s.sg.a) || decide (p=s.sg.b)) &&
 (gs.map Gp.pt).all (fun p=>V.contains p) && os.all (fun s=>V.contains s.sg.a && V.contains s.sg.b) &&
 os.all (fun s=>os.all fun t=>decide (s=t) || (a5B s.sg t.sg).all fun p=>V.contains p) &&
 yx (fun x y:Nat × Nat=>decide (x.1<y.1) || (decide (x.1=y.1) && decide (x.2<y.2))) (es.map fun e=>(e.a,e.b)) &&
 es.all (fun e=>os.any fun s=>a1g V s.sg e.a e.b && decide (e.dir=fN s)) &&
 os.all (fun s=>(List.range V.length).all fun u=>(List.range V.length).all fun v=>!a1g V s.sg u v || (es.map fun e=>(e.a,e.b)).contains (u,v)) &&
 es.all (fun e=>yx (fun x y:Nat=>decide (x<y)) e.of && e.of.all (fun i=>decide (i<os.length)) && (List.range os.length).all fun i=>e.of.contains i == a1g V (nth s0 os i).sg e.a e.b) &&
 yx (fun s t:Sz=>!decide (s=t)) os
theorem aBI {os:List Sz} {gs:List Gp} {V:List Pt} {es:List Ed} (h:aFX os gs V es=true):eu os gs V es:=by
 unfold aFX at h;simp only [Bool.and_eq_true] at h;obtain⟨⟨⟨⟨⟨⟨⟨⟨⟨h1,h2⟩,h3⟩,h4⟩,h5⟩,h6⟩,h7⟩,h8⟩,h9⟩,h10⟩:=h;have hnd:os.Pairwise (fun s t=>s≠t):=a2q _ (fun x y h=>by simpa using h) os h10;have hV:V.Pairwise Pt.lt:=a2q _ (fun x y h=>by simpa using h) V h1;rw [List.all_eq_true] at h2 h3 h4 h5 h7 h8 h9;have vR:∀ i s,os[i]? = some s→s ∈ os:=fun i s h=>bW h
 refine⟨⟨hV,fun p=>⟨fun hp=>?_,fun hp=>?_⟩,a2q _ (fun x y h=>by unfold mY;simpa using h) _ h6,fun u v=>⟨fun he=>?_,fun he=>?_⟩⟩,fun e he i=>?_,fun e he=>?_,fun e he=>?_⟩
 ·have:=h2 p hp
  rw [Bool.or_eq_true,List.contains_iff_mem,List.any_eq_true] at this
  rcases this with h|⟨s,hs,h⟩
  ·exact .inl h
  ·refine .inr (.inl ⟨s.sg,List.mem_map.2 ⟨s,hs,rfl⟩,?_⟩)
   simpa using h
 ·rcases hp with h|⟨t,ht,h⟩|⟨i,j,s,t,fe,hi,hj,hc⟩
  ·exact List.contains_iff_mem.1 (h3 p h)
  ·obtain⟨s,hs,rfl⟩:=List.mem_map.1 ht
   have:=h4 s hs;rw [Bool.and_eq_true,List.contains_iff_mem,List.contains_iff_mem] at this
   rcases h with rfl|rfl
   ·exact this.1
   ·exact this.2
  ·rw [List.getElem?_map] at hi hj
   obtain⟨s',kL,rfl⟩:=Option.map_eq_some_iff.1 hi;obtain⟨t',sS,rfl⟩:=Option.map_eq_some_iff.1 hj;have vQ:=h5 s' (vR _ _ kL);rw [List.all_eq_true] at vQ;have wL:=vQ t' (vR _ _ sS);rw [Bool.or_eq_true] at wL
   rcases wL with wL|wL
   ·exfalso
    have e:=of_decide_eq_true wL;subst e;obtain⟨a1,a2⟩:=List.getElem?_eq_some_iff.1 kL;obtain⟨b1,b2⟩:=List.getElem?_eq_some_iff.1 sS
    rcases Nat.lt_trichotomy i j with h|h|h
    ·exact List.pairwise_iff_getElem.1 hnd i j a1 b1 h (a2.trans b2.symm)
    ·exact fe h
    ·exact List.pairwise_iff_getElem.1 hnd j i b1 a1 h (b2.trans a2.symm)
   ·rw [List.all_eq_true] at wL
    exact List.contains_iff_mem.1 (wL p ((a6g _ _ _).2 hc))
 ·obtain⟨e,hm,hp⟩:=List.mem_map.1 he
  rw [Prod.mk.injEq] at hp;obtain⟨rfl,rfl⟩:=hp;have:=h7 e hm;rw [List.any_eq_true] at this;obtain⟨s,hs,h⟩:=this;rw [Bool.and_eq_true] at h;exact⟨s.sg,List.mem_map.2 ⟨s,hs,rfl⟩,(a1B _ _ _ _).1 h.1⟩
 ·obtain⟨t,ht,hn⟩:=he
  obtain⟨s,hs,rfl⟩:=List.mem_map.1 ht;have vQ:=h8 s hs;rw [List.all_eq_true] at vQ;obtain⟨kZ,p,q,hp,hq,_⟩:=id hn;have hu:=(List.getElem?_eq_some_iff.1 hp).1;have hv:=(List.getElem?_eq_some_iff.1 hq).1;have wL:=vQ u (List.mem_range.2 hu);rw [List.all_eq_true] at wL;have h13:=wL v (List.mem_range.2 hv);rw [Bool.or_eq_true] at h13
  rcases h13 with h|h
  ·rw [(a1B _ _ _ _).2 hn] at h;cases h
  ·exact List.contains_iff_mem.1 h
 ·have:=h9 e he
  simp only [Bool.and_eq_true,List.all_eq_true,decide_eq_true_eq,List.mem_range,beq_iff_eq] at this;obtain⟨⟨_,g2⟩,g3⟩:=this
  constructor
  ·intro hi
   have hl:=g2 i hi;have vQ:=g3 i hl;rw [List.contains_iff_mem.2 hi] at vQ;exact⟨nth s0 os i,by rw [bS _ _ _ hl];exact List.getElem?_eq_getElem _,(a1B _ _ _ _).1 vQ.symm⟩
  ·rintro⟨s,hs,hn⟩
   obtain⟨hl,rfl⟩:=List.getElem?_eq_some_iff.1 hs;have vQ:=g3 i hl;rw [bS _ _ _ hl,(a1B _ _ _ _).2 hn] at vQ;exact List.contains_iff_mem.1 vQ
 ·have:=h9 e he
  simp only [Bool.and_eq_true] at this;exact a2q _ (fun x y h=>by simpa using h) _ this.1.1
 ·have:=h7 e he
  rw [List.any_eq_true] at this;obtain⟨s,hs,h⟩:=this;rw [Bool.and_eq_true] at h;exact⟨s,hs,(a1B _ _ _ _).1 h.1,of_decide_eq_true h.2⟩
theorem aBR {α β:Type} {f:α→List β} {k:Nat} (hk:∀ x,(f x).length=k) (l:List α):(l.flatMap f).length=l.length*k:=by
 induction l with
 | nil=>simp
 | cons a l ih=>rw [List.flatMap_cons,List.length_append,hk,ih,List.length_cons,Nat.add_mul];omega
def aDO (os:List Sz) (gs:List Gp):List Pt:=gs.map Gp.pt++(os.flatMap (fun s=>[s.sg.a,s.sg.b])++os.flatMap (fun s=>os.map fun t=>lz s.sg t.sg))
theorem aOS (os:List Sz) (gs:List Gp):(aDO os gs).length=gs.length+(os.length*2+os.length*os.length):=by
 unfold aDO;rw [List.length_append,List.length_append,List.length_map,aBR (k:=2) (fun s=>rfl),aBR (k:=os.length) (fun s=>by simp) os]
theorem aQ7 {s t:Sg} {p:Pt} (h:mi s t p):(fJ s t≠0∧p=lz s t)∨p=s.a∨p=s.b∨p=t.a∨p=t.b:=by
 have h1:=(a6g s t p).2 h;unfold a5B at h1
 by_cases hd:fJ s t=0
 ·rw [if_neg (by simpa using hd),List.mem_filter] at h1
  right
  simpa using h1.1
 ·rw [if_pos hd] at h1
  split at h1
  ·exact .inl ⟨hd,by simpa using h1⟩
  ·cases h1
theorem aGE {os:List Sz} {gs:List Gp} {p:Pt} (h:mB (os.map Sz.sg) (gs.map Gp.pt) p):(∃ g ∈ gs,p=g.pt)∨(∃ s ∈ os,p=s.a.pt∨p=s.b.pt)∨∃ s ∈ os,∃ t ∈ os,fJ s.sg t.sg≠0∧p=lz s.sg t.sg:=by
 rcases h with h|⟨s,hs,h⟩|⟨i,j,s,t,fe,hi,hj,hc⟩
 ·obtain⟨g,hg,rfl⟩:=List.mem_map.1 h
  exact .inl ⟨g,hg,rfl⟩
 ·obtain⟨s',kL,rfl⟩:=List.mem_map.1 hs
  exact .inr (.inl ⟨s',kL,h⟩)
 ·obtain⟨s',kL,rfl⟩:=List.mem_map.1 (bW hi)
  obtain⟨t',sS,rfl⟩:=List.mem_map.1 (bW hj)
  rcases aQ7 hc with h|h|h|h|h
  ·exact .inr (.inr ⟨s',kL,t',sS,h⟩)
  ·exact .inr (.inl ⟨s',kL,.inl h⟩)
  ·exact .inr (.inl ⟨s',kL,.inr h⟩)
  ·exact .inr (.inl ⟨t',sS,.inl h⟩)
  ·exact .inr (.inl ⟨t',sS,.inr h⟩)
theorem eu.vlen {os:List Sz} {gs:List Gp} {V:List Pt} {es:List Ed} (h:eu os gs V es):V.length≤gs.length+(os.length*2+os.length*os.length):=by
 rw [← aOS];refine List.Nodup.length_le_of_subset (h.arr.sv.imp (fun aW e=>by subst e;exact Pt.lt_irrefl _ aW)) (fun p hp=>?_);unfold aDO;rw [List.mem_append,List.mem_append,List.mem_flatMap,List.mem_flatMap]
 rcases aGE ((h.arr.mv p).1 hp) with ⟨g,hg,rfl⟩|⟨s,hs,h⟩|⟨s,hs,t,ht,_,h⟩
 ·exact .inl (List.mem_map.2 ⟨g,hg,rfl⟩)
 ·refine .inr (.inl ⟨s,hs,?_⟩)
  rcases h with rfl|rfl
  ·exact List.mem_cons_self
  ·exact List.mem_cons_of_mem _ List.mem_cons_self
 ·exact .inr (.inr ⟨s,hs,List.mem_map.2 ⟨t,ht,h.symm⟩⟩)
theorem aM7 {V:List Pt} {s:Sg} {u v v':Nat} (h:kX V s u v) (h':kX V s u v'):v=v':=by
 obtain⟨a1,p,q,a2,a3,a4,a5,a6⟩:=h;obtain⟨b1,p',q',b2,b3,b4,b5,b6⟩:=h'
 rcases Nat.lt_trichotomy v v' with aW|aW|aW
 ·exact absurd a5 (b6 v q a1 aW a3)
 ·exact aW
 ·exact absurd b5 (a6 v' q' b1 aW b3)
theorem eu.elen {os:List Sz} {gs:List Gp} {V:List Pt} {es:List Ed} (h:eu os gs V es):es.length≤os.length*V.length:=by
 have e1:es.length=(es.map fun e=>(e.a,e.b)).length:=by simp
 have e2:(os.flatMap fun s=>(List.range V.length).map fun u=>(u,((List.range V.length).find? fun v=>a1g V s.sg u v).getD 0)).length=os.length*V.length:=aBR (k:=V.length) (fun s=>by simp) os;rw [e1,← e2];refine List.Nodup.length_le_of_subset (h.arr.se.imp (fun aW e=>by subst e;exact a5w _ aW)) (fun p hp=>?_);obtain⟨u,v⟩:=p;obtain⟨s,hs,hn⟩:=(h.arr.me u v).1 hp;obtain⟨s',kL,rfl⟩:=List.mem_map.1 hs;rw [List.mem_flatMap];obtain⟨kZ,p,q,bB,az,_⟩:=id hn;have hv:=(List.getElem?_eq_some_iff.1 az).1;refine⟨s',kL,List.mem_map.2 ⟨u,List.mem_range.2 (by omega),?_⟩⟩;rw [Prod.mk.injEq];refine⟨rfl,?_⟩;cases hf:(List.range V.length).find? fun v=>a1g V s'.sg u v with
 | none =>
  have:=List.find?_eq_none.1 hf v (List.mem_range.2 hv);rw [(a1B _ _ _ _).2 hn] at this;exact absurd rfl this
 | some v' =>
  have h1:=List.find?_some hf;exact (aM7 hn ((a1B _ _ _ _).1 h1)).symm
theorem eu.bq {os:List Sz} {gs:List Gp} {V:List Pt} {es:List Ed} (h:eu os gs V es) (cJ:∀ t ∈ os,t.ok) (qm:∀ g ∈ gs,g.ok):∀ p ∈ V,Bq 300 p.x∧Bq 300 p.y:=fun p hp=>by
 have hg:∀ g:Gp,g.ok→Bq 300 g.pt.x∧Bq 300 g.pt.y:=fun g hg=>by
  unfold Gp.ok fS at hg;have k1:Bq 33 (g.x:Rat):=Bq.int (by omega) (by omega);have k2:Bq 33 (g.y:Rat):=Bq.int (by omega) (by omega);exact⟨k1.mono (by omega),k2.mono (by omega)⟩
 rcases aGE ((h.arr.mv p).1 hp) with ⟨g,hgm,rfl⟩|⟨s,hs,h⟩|⟨s,hs,t,ht,hd,rfl⟩
 ·exact hg g (qm g hgm)
 ·have bG:=cJ s hs
  rcases h with rfl|rfl
  ·exact hg _ bG.1
  ·exact hg _ bG.2.1
 ·have h1:=cJ s hs
  have h2:=cJ t ht
  have bJ:dQ t.a t.b s.a≠dQ t.a t.b s.b:=fun e=>hd (by
   rw [← a0b];have e1:bT t.sg.a t.sg.b s.sg.a=(dQ t.a t.b s.a:Rat):=yV ..;have e2:bT t.sg.a t.sg.b s.sg.b=(dQ t.a t.b s.b:Rat):=yV ..;rw [e1,e2,e];grind)
  obtain⟨a,b,_⟩:=aL1 ⟨h1.1,h1.2.1⟩ ⟨h2.1,h2.2.1⟩ bJ;exact⟨a,b⟩
theorem eu.aM6 {w:World} {S:Nat→Prop} {os:List Sz} {gs:List Gp} {V:List Pt} {es:List Ed} {sg pt:Option Addr × Nat × Nat} {a3 a4:Option Addr} {n3 c3 n4 c4:Nat} (h:eu os gs V es) (cJ:∀ t ∈ os,t.ok) (qm:∀ g ∈ gs,g.ok) (hL:aP w S) (hA:aF0 w S sg pt (a3,n3,c3) (a4,n4,c4) os gs V es) :
 ∃ rs prs,kC w S a3 a4 n3 c3 n4 c4 rs es prs V 300:=by
 obtain⟨prs,h3⟩:=hA.vs;obtain⟨rs,h4,h5⟩:=hA.es;have aCE:∀ t ∈ os,t.a≠t.b:=fun t ht=>(cJ t ht).2.2
 have my:n3=V.length:=by obtain⟨_,a,c,e,_⟩:=h3.sl;cases e;rfl
 have j6:n4=es.length:=by obtain⟨_,a,c,e,_⟩:=h4;cases e;rfl
 refine⟨rs,prs,hL,h4,h5,h3,fun e he=>?_,h.bq cJ qm,my,j6⟩;obtain⟨x1,x2,_⟩:=h.mw aCE he;omega
theorem eu.aEf {os:List Sz} {gs:List Gp} {V:List Pt} {es:List Ed} (h:eu os gs V es) (cJ:∀ t ∈ os,t.ok):(∀ e ∈ es,e.dir.dir)∧∀ e ∈ es,e.a≠e.b:=by
 refine⟨fun e he=>?_,fun e he=>?_⟩
 ·obtain⟨_,_,_,s,hs,_,hd⟩:=h.mw (fun t ht=>(cJ t ht).2.2) he
  rw [hd];exact aOv (cJ s hs)
 ·have:=(h.mw (fun t ht=>(cJ t ht).2.2) he).1
  omega
def smC (x:Int):Prop:=-100≤x∧x≤100
def Gp.sm (p:Gp):Prop:=smC p.x∧smC p.y
def Sz.sm (s:Sz):Prop:=s.a.sm∧s.b.sm
def o5 (n most:Int):Int:=if n<0 then (-(n+1)) % most else n % most
theorem a3d (n:Int) {most:Int} (h:1≤most):0≤o5 n most∧o5 n most<most:=by
 unfold o5
 split
 ·exact⟨Int.emod_nonneg _ (by omega),Int.emod_lt_of_pos _ (by omega)⟩
 ·exact⟨Int.emod_nonneg _ (by omega),Int.emod_lt_of_pos _ (by omega)⟩
theorem a2Z (n most:Int) (w:World) (h1:1≤most) (h2:most≤9223372036854775807) (hn:bQ n) :
 Calls prog 40 #[.int .i64 n,.int .i64 most] w fun e w'=>e=.returned (.int .i64 (o5 n most))∧w=w':=by
 obtain⟨h3,h4⟩:=hn
 by_cases h:n<0
 ·go_enter func40,ntmps40
  go_wp2;go_ret;exact⟨jH (by unfold o5;rw [if_pos h,← Int.neg_tmod,Int.tmod_eq_emod_of_nonneg (by omega)]),rfl⟩
 ·go_enter func40,ntmps40
  go_wp2;go_ret;exact⟨jH (by unfold o5;rw [if_neg (by omega)]),rfl⟩
def rJ (xs:List Int) (i most:Int):Int:=if 0≤i∧i<xs.length then o5 (nth 0 xs i.toNat) most else 0
theorem a9e (xs:List Int) (i:Int) {most:Int} (h:1≤most):0≤rJ xs i most∧rJ xs i most<most:=by
 unfold rJ
 split
 ·exact a3d _ h
 ·omega
theorem a3r (a:Option Addr) (n c:Nat) (xs:List Int) (i most:Int) (w:World) (hx:Ints w (Old w) (.slice a n c) xs) (h1:1≤most) (h2:most≤9223372036854775807) :
 Calls prog 38 #[.slice a n c,.int .i64 i,.int .i64 most] w fun e w'=>e=.returned (.int .i64 (rJ xs i most))∧w=w':=by
 have hn:=hx.len;subst hn;have hle:=hx.le;have hS:=aA.start w
 by_cases h:0≤i∧i<xs.length
 ·obtain⟨h3,h4⟩:=h
  have hg:=hx.getD i.toNat
  go_enter func38,ntmps38
  go_wp2_with (first|(with_reducible first|refine sV underlying22 sizeOf3 fun _ _ _=>?_|refine fP hS isAgg3 ?_)|(go_at_call 40;refine (a2Z _ _ _ h1 h2 hg).mono ?_;rintro e w' ⟨rfl,rfl⟩))
  go_ret;exact⟨jH (by unfold rJ;rw [if_pos ⟨h3,h4⟩]),rfl⟩
 ·by_cases h3:i<0
  ·go_enter func38,ntmps38
   go_wp2;go_ret;exact⟨jH (by unfold rJ;rw [if_neg (by omega)]),rfl⟩
  ·have h5:(xs.length:Int)≤i:=by omega
   go_enter func38,ntmps38
   go_wp2;go_ret;exact⟨jH (by unfold rJ;rw [if_neg (by omega)]),rfl⟩
theorem aQs {xs ys:List Int} {k:Nat} (h1:k<xs.length) (h2:k<ys.length) (ht:xs.take k=ys.take k) (he:nth 0 xs k=nth 0 ys k):xs.take (k+1)=ys.take (k+1):=by
 rw [List.take_succ_eq_append_getElem h1,List.take_succ_eq_append_getElem h2,ht,← bS 0 xs k h1,← bS 0 ys k h2,he]
theorem wU (a b:Option Addr) (c d n m:Nat) (xs ys:List Int) (w:World) (hx:Ints w (Old w) (.slice a n c) xs) (hy:Ints w (Old w) (.slice b m d) ys) :
 Calls prog 28 #[.slice a n c,.slice b m d] w fun e w'=>e=.returned (.bool (decide (xs=ys)))∧Pure w (fun _=>False) w' (fun _=>False):=by
 have kN:=hx.le;have eJ:=hy.le;obtain⟨n,rfl⟩:∃ k,k=n:=⟨_,rfl⟩;have hn:=hx.len;have hm:=hy.len;subst hn hm
 by_cases hl:xs.length=ys.length
 ·have HL:=Hd hl
  have bJ:((xs.length:Int) != (ys.length:Int))=false:=by simp [hl]
  clear hl
  go_enter func28,ntmps28
  go_wp2
  go_loopw [5] (fun i wr=>∃ k:Nat,k≤xs.length∧i=.int .i64 k∧xs.take k=ys.take k∧aA w wr [.aH (Old w) w]) (fun i _=>xs.length - (intOf i).toNat)
  case atStart=>exact⟨0,Nat.zero_le _,rfl,rfl,aA.start w⟩
  case round =>
   obtain⟨k,hk,rfl,ht,hS⟩:=hrel;have HT:=Hd ht;clear ht
   by_cases aW:k<xs.length
   ·have uK:k<ys.length:=by have:=HL.out;omega
    go_wp2;refine dB [.p 0,.p 1,.p 2,.r 3,.p 4,.p 5,.p 6,.r 7,.p 8] [] hS fun w1 hS=>?_
    repeat (with_reducible first|refine gm ?_|refine jl underlying22 sizeOf3 fun _ _ _=>?_|refine eY isAgg3 ?_|refine bU ?_)
    refine bE ?_
    by_cases he:nth 0 xs k=nth 0 ys k
    ·have he':(nth 0 xs k != nth 0 ys k)=false:=by simp [he]
     have HE:=Hd he;clear he;go_wp2;go_roundw
     case rel=>exact⟨k+1,by omega,by go_num,aQs aW uK HT.out HE.out,hS⟩
     case measure=>simp [intOf];omega
    ·have he':(nth 0 xs k != nth 0 ys k)=true:=by simp [he]
     go_wp2;go_ret;refine⟨?_,hS.pure _⟩;have:xs≠ys:=fun e=>he (by rw [e])
     simp [this]
   ·go_wp2
    go_ret;refine⟨?_,hS.pure _⟩;have h1:=HT.out;rw [List.take_of_length_le (by omega),List.take_of_length_le (by have:=HL.out;omega)] at h1;simp [h1]
 ·have bJ:((xs.length:Int) != (ys.length:Int))=true:=by simp;omega
  go_enter func28,ntmps28
  go_wp2;go_ret;refine⟨?_,Pure.refl _ _⟩;have:xs≠ys:=fun e=>hl (by rw [e])
  simp [this]
def og (n:Int):Gp:=if o5 n 1048576 % 3=0 then ⟨8*(o5 n 1048576 / 3 % 5),8*(o5 n 1048576 / 15 % 5)⟩ else ⟨o5 n 1048576 / 3 % 33,o5 n 1048576 / 99 % 33⟩
theorem a7k (n:Int):(0≤(og n).x∧(og n).x≤32)∧0≤(og n).y∧(og n).y≤32:=by
 unfold og
 split <;> simp only <;> omega
theorem a4e (n:Int) (w:World) (hn:bQ n):Calls prog 39 #[.int .i64 n] w fun e w'=>e=.returned (.agg #[.int .i64 (og n).x,.int .i64 (og n).y])∧Pure w (fun _=>False) w' (fun _=>False):=by
 obtain⟨G,hG⟩:∃ G,og n=G:=⟨_,rfl⟩;rw [hG];unfold og at hG;have ha:=a3d n (show (1:Int)≤1048576 by decide);have ar:=fun w=>a2Z n 1048576 w (by decide) (by decide) hn
 obtain⟨k,hk⟩:∃ k,o5 n 1048576=k:=⟨_,rfl⟩;rw [hk] at ha hG;simp only [hk] at ar;obtain⟨h1,h2⟩:=ha;clear hk;have q1:k.tmod 3=k % 3:=Int.tmod_eq_emod_of_nonneg h1;have q2:k.tdiv 3=k / 3:=Int.tdiv_eq_ediv_of_nonneg h1;have q3:k.tdiv 15=k / 15:=Int.tdiv_eq_ediv_of_nonneg h1;have q4:k.tdiv 99=k / 99:=Int.tdiv_eq_ediv_of_nonneg h1;have q5:(k / 3).tmod 5=k / 3 % 5:=Int.tmod_eq_emod_of_nonneg (by omega);have q6:(k / 15).tmod 5=k / 15 % 5:=Int.tmod_eq_emod_of_nonneg (by omega);have q7:(k / 3).tmod 33=k / 3 % 33:=Int.tmod_eq_emod_of_nonneg (by omega);have q8:(k / 99).tmod 33=k / 99 % 33:=Int.tmod_eq_emod_of_nonneg (by omega);have w1:IntKind.i64.wrap (k % 3)=k % 3:=Go.Hp.w6;have w2:IntKind.i64.wrap (k / 3)=k / 3:=Go.Hp.w6;have w3:IntKind.i64.wrap (k / 15)=k / 15:=Go.Hp.w6;have w4:IntKind.i64.wrap (k / 99)=k / 99:=Go.Hp.w6;have w5:IntKind.i64.wrap (k / 3 % 5)=k / 3 % 5:=Go.Hp.w6;have w6:IntKind.i64.wrap (k / 15 % 5)=k / 15 % 5:=Go.Hp.w6;have w7:IntKind.i64.wrap (k / 3 % 33)=k / 3 % 33:=Go.Hp.w6;have w8:IntKind.i64.wrap (k / 99 % 33)=k / 99 % 33:=Go.Hp.w6;have w9:IntKind.i64.wrap (8*(k / 3 % 5))=8*(k / 3 % 5):=Go.Hp.w6;have w10:IntKind.i64.wrap (8*(k / 15 % 5))=8*(k / 15 % 5):=Go.Hp.w6;have hS:=aA.start w
 by_cases h0:k % 3=0
 ·have d0:(k % 3 == 0)=true:=by simp [h0]
  rw [if_pos h0] at hG;replace hG:=Hd hG;replace h0:=Hd h0
  go_enter func39,ntmps39
  go_wp2_with (with_reducible refine bH hS zeroValue43 fun b2 ri hS=>?_)
  refine (ar _).mono ?_;rintro e w' ⟨rfl,rfl⟩;simp only []
  go_wp2_with (with_reducible refine aJ 1 hS sizeOf43 fun _ hS=>?_)
  exact fE 1 hS rfl rfl rfl isAgg43 sizeOf43 rfl rfl ⟨by first|(rw [← hG.out];done)|(rw [← hG.out];rfl),hS.pure _⟩
 ·have d0:(k % 3 == 0)=false:=by simp [h0]
  rw [if_neg h0] at hG;replace hG:=Hd hG;replace h0:=Hd h0
  go_enter func39,ntmps39
  go_wp2_with (with_reducible refine bH hS zeroValue43 fun b2 ri hS=>?_)
  refine (ar _).mono ?_;rintro e w' ⟨rfl,rfl⟩;simp only []
  go_wp2_with (with_reducible refine aJ 1 hS sizeOf43 fun _ hS=>?_)
  exact fE 1 hS rfl rfl rfl isAgg43 sizeOf43 rfl rfl ⟨by first|(rw [← hG.out];done)|(rw [← hG.out];rfl),hS.pure _⟩
theorem points08_any (a:Option Addr) (n c m:Nat) (xs:List Int) (w:World) (hx:Ints w (Old w) (.slice a n c) xs) (hm:m≤1000) :
 Calls prog 17 #[.slice a n c,.int .i64 (m:Int)] w fun e w'=>∃ ad c2,e=.returned (.slice ad ((xs.take m).map og).length c2)∧aA w w' [.aH (Old w) w,.row (.slice ad ((xs.take m).map og).length c2) 43 2 ((xs.take m).map og).length (((xs.take m).map og).flatMap gc)]:=by
 have hn:=hx.len;subst hn;have hle:=hx.le;have hS:=(aA.start w).iB 43 2;simp only [aK] at hS
 go_enter func17,ntmps17
 go_wp2
 go_loopw [5,6] (fun v5 v6 wr=>∃ (k:Nat) (ad:Option Addr) (c2:Nat),k≤xs.length∧k≤m∧v6=.int .i64 (k:Int)∧v5=.slice ad k c2∧aA w wr [.aH (Old w) w,.row (.slice ad k c2) 43 2 k (((xs.take k).map og).flatMap gc)]) (fun _ v6 _=>xs.length - (intOf v6).toNat)
 case atStart=>exact⟨0,none,0,by omega,by omega,rfl,rfl,hS⟩
 case round =>
  clear hS;obtain⟨k,ad,c2,hk,uM,rfl,rfl,hS⟩:=hrel
  by_cases aW:k<xs.length
  ·by_cases hlm:k<m
   ·have hg:=hx.getD k
    have gd:=fun w=>a4e (nth 0 xs k) w hg
    have eK:(xs.take (k+1)).map og=(xs.take k).map og++[og (nth 0 xs k)]:=by rw [nk 0 xs k aW];simp
    obtain⟨g,fD⟩:∃ g,og (nth 0 xs k)=g:=⟨_,rfl⟩;simp only [fD] at gd;rw [fD] at eK;have dp:((xs.take (k+1)).map og).flatMap gc=((xs.take k).map og).flatMap gc++[.int .i64 g.x,.int .i64 g.y]:=by rw [eK];simp [gc]
    replace dp:=Hd dp;clear eK fD hg
    go_wp2_with (with_reducible first|refine sV underlying22 sizeOf3 fun _ _ _=>?_|refine fP hS isAgg3 ?_)
    refine (gd _).mono ?_;rintro e w5 ⟨rfl,hq⟩;have hS:=hS.below hq.below hq.drawn;simp only []
    go_wp2_with (first|((with_reducible refine dV (T:=24) ?_);refine fZ (T:=24) (v:=.agg #[.int .i64 _,.int .i64 _]) hS underlying24 sizeOf43 zeroValue43 rfl rfl rfl (by decide) (by decide) rfl (fun bl fX hS=>?_);simp only [aD];simp only [Value.cells] at hS)|((with_reducible refine eG ?_);refine fw (t:=24) 1 hS underlying24 a27 rfl (by decide) rfl rfl rfl rfl (by simp [Value.oneCell']) (by omega) (by unfold maxLen;omega) (fun dU gL _ hS=>?_);simp only [aD];simp only [aK] at hS))
    go_roundw
    case rel=>exact⟨k+1,dU,gL,by omega,by omega,by simp,rfl,by rw [dp.out];exact hS⟩
    case measure=>simp [intOf];omega
   ·obtain rfl:k=m:=by omega
    have hl:((xs.take k).map og).length=k:=by simp;omega
    replace hl:=Hd hl;go_wp2;go_ret;exact⟨ad,c2,by rw [hl.out];rfl,by rw [hl.out];exact hS⟩
  ·obtain rfl:k=xs.length:=by omega
   have hl:((xs.take m).map og).length=xs.length:=by simp;omega
   have ht:xs.take m=xs.take xs.length:=by rw [List.take_of_length_le (by omega),List.take_of_length_le (by omega)]
   replace hl:=Hd hl;replace ht:=Hd ht;go_wp2;go_ret;exact⟨ad,c2,by rw [hl.out];rfl,by rw [hl.out,ht.out];exact hS⟩
end Go.Hp
