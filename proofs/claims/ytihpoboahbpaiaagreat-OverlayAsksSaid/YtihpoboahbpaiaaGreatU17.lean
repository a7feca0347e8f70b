/- Texts for the walk of the law: WA. -/
import Derived.Test.YtihpoboahbpaiaaGreatU16
set_option maxRecDepth 100000
set_option maxHeartbeats 16000000
set_option linter.unusedVariables false
set_option linter.unusedSimpArgs false
namespace Go.Hp
open Go Go.RowKit Go.Proofs.Tryz
theorem aUq (a b c d e f:Int):Instr.fill (fun i=>some (i*1,1)) ((Array.range (6*1)).map ((Value.int .i64 0).cells[· % (Value.int .i64 0).cells.size]!)) [(0,.int .i64 a),(1,.int .i64 b),(2,.int .i64 c),(3,.int .i64 d),(4,.int .i64 e),(5,.int .i64 f)]=some #[.int .i64 a,.int .i64 b,.int .i64 c,.int .i64 d,.int .i64 e,.int .i64 f]:=by
 have hh:((Array.range (6*1)).map ((Value.int .i64 0).cells[· % (Value.int .i64 0).cells.size]!))=#[.int .i64 0,.int .i64 0,.int .i64 0,.int .i64 0,.int .i64 0,.int .i64 0]:=by
  apply Array.ext';simp [Array.range,List.ofFn_succ,Value.cells]
 rw [hh];simp [Instr.fill,Value.cells]
theorem setp {fs:List (List Int)} {a n:Int} (oX:pF fs [a]=true) (kO:bQ n):∃ (p:Nat→Bool) (W:List Nat),(∀ i,(nth 0 (nth [] fs i) a.toNat == n)=p i)∧xi fs a n=W∧(List.range fs.length).filter p=W :=
 ⟨fun i=>decide (nth 0 (nth [] fs i) a.toNat=n),_,fun i=>rfl,rfl,by unfold xi;rw [if_pos oX]⟩
def wP (ts:List gz) (n:Nat):Prop:=∀ j,1≤j→j<n→(nth fp ts (j - 1)).1≠(nth fp ts j).1
theorem aBK {ts:List gz} (h:ts.Pairwise lK) {i j:Nat} (fe:i≤j) (hj:j<ts.length):(nth fp ts i).1≤(nth fp ts j).1:=by
 rcases Nat.lt_or_ge i j with aW|gB
 ·have:=List.pairwise_iff_getElem.1 h i j (by omega) hj aW
  rw [bS fp ts i (by omega),bS fp ts j hj];unfold lK at this;omega
 ·obtain rfl:i=j:=by omega
  exact Int.le_refl _
theorem aMW {ts:List gz} (h:ts.Pairwise lK):wP ts ts.length↔a7P ts:=by
 constructor
 ·intro ho p hp q hq e
  obtain⟨i,hi,ei⟩:=List.getElem_of_mem hp;obtain⟨j,hj,ej⟩:=List.getElem_of_mem hq
  have key:∀ i j:Nat,i<j→j<ts.length→(nth fp ts i).1≠(nth fp ts j).1:=fun i j fe hj e=>by
   have h1:=aBK h (i:=i) (j:=i) (Nat.le_refl _) (by omega);have h2:=aBK h (i:=i) (j:=j - 1) (by omega) (by omega);have h3:=aBK h (i:=j - 1) (j:=j) (by omega) hj;exact ho j (by omega) hj (by omega)
  rcases Nat.lt_trichotomy i j with aW|aW|aW
  ·exact absurd (by rw [bS fp ts i hi,bS fp ts j hj,ei,ej];exact e) (key i j aW hj)
  ·subst aW;rw [← ei,← ej]
  ·exact absurd (by rw [bS fp ts i hi,bS fp ts j hj,ei,ej];exact e.symm) (key j i aW hi)
 ·intro hf j h1 hj e
  have h2:=List.pairwise_iff_getElem.1 h (j - 1) j (by omega) hj (by omega);have h3:=hf _ (cQ fp ts (j - 1) (by omega)) _ (cQ fp ts j hj) e;rw [bS fp ts _ (by omega),bS fp ts j hj] at e h3;unfold lK at h2;omega
theorem aSE {ts:List gz} {n:Nat} (hn:1≤n):wP ts (n+1)↔wP ts n∧(nth fp ts (n - 1)).1≠(nth fp ts n).1:=by
 constructor
 ·intro h
  exact⟨fun j h1 h2=>h j h1 (by omega),h n hn (by omega)⟩
 ·rintro⟨h,h'⟩ j h1 h2
  rcases Nat.lt_or_ge j n with aW|gB
  ·exact h j h1 aW
  ·obtain rfl:j=n:=by omega
   exact h'
theorem aNP (al am:Option Addr) (nl cl nm cm:Nat) (xl xm:List Int) (aDc fK:Int) (w:World) (hl:Ints w (Old w) (.slice al nl cl) xl) (hm:Ints w (Old w) (.slice am nm cm) xm) (aVu:bQ aDc) (hfc:bQ fK) :
 Calls prog 6 #[.slice al nl cl,.slice am nm cm,.int .i64 aDc,.int .i64 fK] w fun e w'=>e=.returned (.bool true)∧Below w.heap.size w w':=by
 have hS:=aA.start w
 go_enter func6,ntmps6
 go_wp2_with (fail)
 refine (aFk al am nl cl nm cm xl xm _ (hl.arg hS (by simp)) (hm.arg hS (by simp))).mono ?_;rintro e w1 ⟨bF,ls,ad,c,rfl,jr,ki,hv,fq⟩;have hB:=(hS.toBelow (by simp)).trans (ki.mono (hS.toBelow (by simp)).size);have hv:=hv.bj;have fq:=fq.bj;have hlen:=Hd fq.len;have hl3:bF.length≤3:=by have:=jr.len;have:=fq.len;omega
 have dg:=jr.a6V;replace dg:=Hd dg;clear hS ki hl hm jr;have hS:=aA.start w1;simp only []
 go_wp2_with (fail)
 refine (aCU bF ad c _ hv (by omega)).mono ?_;rintro e w3 ⟨a4,c4,rfl,cU⟩;have il:=(cU.dn 1 rfl).bj;have kN:=fq.arg cU (by simp);have pJ:=hB.trans ((cU.toBelow (by simp)).mono hB.size);clear hS cU fq hv hB;have hS:=aA.oI w3;have dY:=tb w3;simp only []
 go_wp2_with (fail)
 refine (a57 a4 bF.length c4 bF ls _ (Old w3) (fun k h=>h) dg.out il kN).mono ?_;rintro e w4 ⟨r,y0,ys,S',rfl,hq,jx,h0,iT,qi⟩;obtain⟨sX,jn,js⟩:=aEB dg.out h0 iT;have kj:=hq.below;have a38:ys.length=bF.length:=by rw [iT,hlen.out]
 rw [a38] at sX js;obtain⟨F,hF,hO,cK⟩:=hS.wV dY (fun k h=>h) hq;have hL:=jx.arr.live;have vj:=fun w' (h:zR w' S' r y0 (jL y0 ys) (km y0 ys y0.es.length)) (h2:aP w' S')=>aKk r y0 _ _ bF.length w' S' h h2 sX
 have vg:=jx;have aQV:=sX.lf;have aND:0<(jL y0 ys).length:=by rw [yA];exact (h0.a1N dg.out.all.one).aAE
 clear hS hq h0 iT qi il kN sX jx a38;have hS:=cK;clear cK;obtain⟨fs,lN⟩:∃ fs,jL y0 ys=fs:=⟨_,rfl⟩;obtain⟨ee,rf⟩:∃ ee,km y0 ys y0.es.length=ee:=⟨_,rfl⟩;rw [lN,rf] at vg;rw [lN] at jn js aQV aND;simp only [lN,rf] at vj;clear lN rf;obtain⟨g1,g2,g3,g4,r1,r2,r3,r4,r5,⟨fa,nf,cf⟩,ea,rs,prs,rF,rE⟩:=r;obtain rfl:=vg.fK.n;simp only [] at vj ⊢
 go_wp2_with (with_reducible first|refine bH hS zeroValue67 fun fo qM hS=>?_|refine aJ 1 hS sizeOf67 fun _ hS=>?_|refine bA 1 hS isAgg67 sizeOf67 ?_)
 refine (vj _ (vg.at hS hF) (aP.at hS hF)).mono ?_;rintro e w5 ⟨rfl,hq⟩;have hS:=hS.fW dY hq.below;clear hq vj;have aL6:j8 w4 S' (fa,fs.length,cf) rF fs:=vg.fK;have pT:j8 w4 F (fa,fs.length,cf) rF fs:=aL6.wk hF;have sh:bN w4 F 1 (.slice fa fs.length cf) fs.length (rF.map sv):=pT.sl;have oE:=jn.row;replace oE:=Hd oE;replace jn:=Hd jn;replace js:=Hd js;replace hfc:=Hd hfc;clear vg;simp only []
 go_wp2_with (first|((with_reducible refine dV (T:=22) ?_);refine aMo (n:=6) (k:=1) (z:=.int .i64 0) (T:=22) hS underlying22 sizeOf3 zeroValue3 (by decide) (by decide) (aUq _ _ _ _ _ _) rfl rfl (fun bL wbL hS=>?_);simp only [aD];simp only [aK] at hS))
 obtain⟨la,pM⟩:∃ la:List Int,la=[-1,0,1,2,3,aDc]:=⟨_,rfl⟩;have hS:=hS.uj (k:=1) (m:=6) 2 rfl rfl (by decide);simp only [aK] at hS;replace hS:aA (nd w3) wbL [.aH F w4,.aB fo (.cells #[.slice g1.1 g1.2.1 g1.2.2,.slice g2.1 g2.2.1 g2.2.2,.slice g3.1 g3.2.1 g3.2.2,.slice g4.1 g4.2.1 g4.2.2,.slice r1.1 r1.2.1 r1.2.2,.slice r2.1 r2.2.1 r2.2.2,.slice r3.1 r3.2.1 r3.2.2,.slice r4.1 r4.2.1 r4.2.2,.slice r5.1 r5.2.1 r5.2.2,.slice fa fs.length cf,.slice ea.1 ea.2.1 ea.2.2] 67 (0,0)),.row (.slice (some ⟨bL,0,none⟩) 6 6) 3 1 6 (iv la)]:=by rw [pM];exact hS
 have fQ:la.length=6:=by rw [pM];rfl
 have hLa:=Ints.intro (xs:=la) (hS.dn 2 rfl) (by
  rw [pM];intro x hx;simp only [List.mem_cons,List.not_mem_nil,or_false] at hx
  rcases hx with rfl|rfl|rfl|rfl|rfl|rfl <;> first|exact aVu|(unfold bQ;omega))
 replace hS:=hS.freeze 2 rfl;simp only [aK] at hS;obtain⟨G,hG⟩:∃ G:Nat→Prop,G=(Chunk.row (.slice (some ⟨bL,0,none⟩) 6 6) 3 1 6 (iv la)).has:=⟨_,rfl⟩;rw [← hG] at hS;replace hLa:Ints wbL G (.slice (some ⟨bL,0,none⟩) 6 6) la:=by rw [hG];exact hLa
 obtain⟨wG,hwG⟩:∃ wG,wG=wbL:=⟨_,rfl⟩;replace hS:aA (nd w3) wbL [.aH F w4,.aB fo (.cells #[.slice g1.1 g1.2.1 g1.2.2,.slice g2.1 g2.2.1 g2.2.2,.slice g3.1 g3.2.1 g3.2.2,.slice g4.1 g4.2.1 g4.2.2,.slice r1.1 r1.2.1 r1.2.2,.slice r2.1 r2.2.1 r2.2.2,.slice r3.1 r3.2.1 r3.2.2,.slice r4.1 r4.2.1 r4.2.2,.slice r5.1 r5.2.1 r5.2.2,.slice fa fs.length cf,.slice ea.1 ea.2.1 ea.2.2] 67 (0,0)),.aH G wG]:=by rw [hwG];exact hS
 rw [← hwG] at hLa;replace fQ:=Hd fQ;clear hG pM hwG;have mu:∀ {H:List Chunk} (w':World),aA (nd w3) w' (.aH F w4::H)→j8 w' S' (fa,fs.length,cf) rF fs:=fun w' hS=>aL6.move (hS.da hF)
 try try simp only [fA]
 revert hS
 repeat (rename aA _ _ _=>hZ;clear hZ)
 intro hS
 go_loopw [13] (fun qQ wr=>∃ (i:Nat),i≤6∧qQ=.int .i64 (i:Int)∧aA (nd w3) wr [.aH F w4,.aB fo (.cells #[.slice g1.1 g1.2.1 g1.2.2,.slice g2.1 g2.2.1 g2.2.2,.slice g3.1 g3.2.1 g3.2.2,.slice g4.1 g4.2.1 g4.2.2,.slice r1.1 r1.2.1 r1.2.2,.slice r2.1 r2.2.1 r2.2.2,.slice r3.1 r3.2.1 r3.2.2,.slice r4.1 r4.2.1 r4.2.2,.slice r5.1 r5.2.1 r5.2.2,.slice fa fs.length cf,.slice ea.1 ea.2.1 ea.2.2] 67 (0,0)),.aH G wG]) (fun qQ _=>6 - (intOf qQ).toNat)
 case atStart=>exact⟨0,by omega,rfl,hS⟩
 case round =>
  clear hS;obtain⟨i,hi,rfl,hS⟩:=hrel;revert hS
  repeat (rename aA _ _ _=>hZ;clear hZ)
  intro hS
  by_cases hi6:i<6
  ·have aYJ:decide ((i:Int)<6)=true:=by simp;omega
   obtain⟨a,ha⟩:∃ a,nth 0 la i=a:=⟨_,rfl⟩;have pC:bQ a:=by rw [← ha];exact hLa.2 _ (cQ 0 la i (by have:=fQ.out;omega))
   rcases (by omega:(0≤a∧a<(bF.length:Int))∨a<0∨(0≤a∧(bF.length:Int)≤a)) with ⟨h1,h2⟩|h1|⟨h1,h2⟩
   ·have d1:decide ((0:Int)≤a)=true:=by simp;omega
    have d2:decide (a<(bF.length:Int))=true:=by simp;omega
    have oX:pF fs [a]=true:=hasQ_one.2 ⟨h1,by rw [js.out];exact h2⟩;have hlz:(a.toNat:Int)=a:=by omega
    have hal:a.toNat<po fs:=by have:=js.out;omega
    replace oX:=Hd oX
    as_aux_lemma =>
     go_wp2_with (with_reducible first|refine sV underlying22 sizeOf3 fun _ _ _=>?_|refine fP hS isAgg3 ?_)
     try simp only [ha]
     try try simp only [fA]
     revert hS
     repeat (rename aA _ _ _=>hZ;clear hZ)
     intro hS
     go_loopw [15] (fun qO wr=>∃ (f:Int),-1≤f∧f≤fs.length+1∧qO=.int .i64 f∧aA (nd w3) wr [.aH F w4,.aB fo (.cells #[.slice g1.1 g1.2.1 g1.2.2,.slice g2.1 g2.2.1 g2.2.2,.slice g3.1 g3.2.1 g3.2.2,.slice g4.1 g4.2.1 g4.2.2,.slice r1.1 r1.2.1 r1.2.2,.slice r2.1 r2.2.1 r2.2.2,.slice r3.1 r3.2.1 r3.2.2,.slice r4.1 r4.2.1 r4.2.2,.slice r5.1 r5.2.1 r5.2.2,.slice fa fs.length cf,.slice ea.1 ea.2.1 ea.2.2] 67 (0,0)),.aH G wG]) (fun qO _=>(fs.length+1 - intOf qO).toNat)
     case atStart=>exact⟨-1,by omega,by omega,rfl,hS⟩
     case round =>
      clear hS;obtain⟨f,qU,j7,rfl,hS⟩:=hrel;revert hS
      repeat (rename aA _ _ _=>hZ;clear hZ)
      intro hS
      by_cases hfb:f≤fs.length
      ·have dp:decide (f≤(fs.length:Int))=true:=by simp;omega
       rcases (show (decide (f<0)=true∧bQ fK)∨(decide (f<0)=false∧bQ f) from if zU:f<0 then .inl ⟨decide_eq_true zU,hfc.out⟩ else .inr ⟨decide_eq_false zU,by unfold bQ;omega⟩) with ⟨a4K,kO⟩|⟨a4K,kO⟩
       all_goals
        obtain⟨p,W,qX,gH,hpw⟩:=setp oX.out kO;replace qX:=Hd qX;replace gH:=Hd gH;replace hpw:=Hd hpw
        as_aux_lemma =>
         go_wp2_with (with_reducible refine aU 1 hS isAgg35 ?_)
         have hS:=hS.iB 3 1;simp only [aK] at hS
         try try simp only [fA]
         revert hS
         repeat (rename aA _ _ _=>hZ;clear hZ)
         intro hS
         go_loopw [17,18] (fun v17 mh wr=>∃ (k m:Nat) (aw:Option Addr) (cw:Nat),k≤fs.length∧m≤k∧mh=.int .i64 (k:Int)∧v17=.slice aw m cw∧aA (nd w3) wr [.aH F w4,.aB fo (.cells #[.slice g1.1 g1.2.1 g1.2.2,.slice g2.1 g2.2.1 g2.2.2,.slice g3.1 g3.2.1 g3.2.2,.slice g4.1 g4.2.1 g4.2.2,.slice r1.1 r1.2.1 r1.2.2,.slice r2.1 r2.2.1 r2.2.2,.slice r3.1 r3.2.1 r3.2.2,.slice r4.1 r4.2.1 r4.2.2,.slice r5.1 r5.2.1 r5.2.2,.slice fa fs.length cf,.slice ea.1 ea.2.1 ea.2.2] 67 (0,0)),.aH G wG,.row (.slice aw m cw) 3 1 m (iv (zs ((List.range k).filter p)))]∧m=((List.range k).filter p).length) (fun _ mh _=>fs.length - (intOf mh).toNat)
         case atStart=>exact⟨0,0,none,0,by omega,by omega,rfl,rfl,by simpa [iv,zs] using hS,rfl⟩
         case round =>
          clear hS;obtain⟨k,m,aw,cw,hk,vi,rfl,rfl,hS,hm⟩:=hrel;revert hS
          repeat (rename aA _ _ _=>hZ;clear hZ)
          intro hS
          by_cases cW:k<fs.length
          ·obtain⟨a1,n1,c1,ef,pO,eX⟩:=vo pT cW
           rw [oE.out k cW] at eX;subst eX;have j7:=qX.out k
           have xL:(List.range (k+1)).filter p=(List.range k).filter p++if p k=true then [k] else []:=by
            rw [List.range_succ,List.filter_append,List.filter_cons,List.filter_nil]
           replace hm:=Hd hm;cases hpv:p k with
           | true =>
            rw [hpv] at j7;have nD:(List.range (k+1)).filter p=(List.range k).filter p++[k]:=by rw [xL,hpv];rfl
            replace nD:=Hd nD;clear hpv xL
            go_wp2_with (with_reducible refine aU 1 hS isAgg35 ?_)
            refine gI [.p 0,.r 1,.p 2,.p 3,.r 4,.p 5,.p 6,.p 7,.r 8,.p 9,.r 10,.p 11,.p 12] [] (fun wZ=>aA (nd w3) wZ _) (by kernel_rfl) (by kernel_rfl) hS.drew (fun w1 hS=>?_)
            repeat (with_reducible first|refine gm ?_|refine cZ 1 isAgg35 ?_|refine e9 underlying35 sizeOf22 sh ef fun bq oq bO=>?_|refine eY isAgg22 ?_|refine jl underlying22 sizeOf3 fun _ _ _=>?_|refine eY isAgg3 ?_|refine bU ?_)
            refine bE ?_
            go_wp2_with (first|((with_reducible refine dV (T:=22) ?_);refine fZ (T:=22) (v:=.int .i64 _) hS underlying22 sizeOf3 zeroValue3 rfl rfl rfl (by decide) (by decide) rfl (fun bl2 aWI hS=>?_);simp only [aD];simp only [Value.cells] at hS)|((with_reducible refine eG ?_);refine fw (t:=22) 3 hS underlying22 a0A rfl (by decide) rfl rfl rfl rfl (by simp [Value.oneCell']) (by omega) (by unfold maxLen;omega) (fun a9 c9 _ hS=>?_);simp only [aD];simp only [aK] at hS))
            go_roundw
            case rel=>exact⟨k+1,m+1,a9,c9,by omega,by omega,by simp,rfl,by rw [nD.out,← zs_app];exact hS.sb,by rw [nD.out,List.length_append,hm.out];rfl⟩
            case measure=>simp [intOf];omega
           | false =>
            rw [hpv] at j7;have nD:(List.range (k+1)).filter p=(List.range k).filter p:=by rw [xL,hpv];simp
            replace nD:=Hd nD;clear hpv xL
            go_wp2_with (with_reducible refine aU 1 hS isAgg35 ?_)
            refine gI [.p 0,.r 1,.p 2,.p 3,.r 4,.p 5,.p 6,.p 7,.r 8,.p 9,.r 10,.p 11,.p 12] [] (fun wZ=>aA (nd w3) wZ _) (by kernel_rfl) (by kernel_rfl) hS.drew (fun w1 hS=>?_)
            repeat (with_reducible first|refine gm ?_|refine cZ 1 isAgg35 ?_|refine e9 underlying35 sizeOf22 sh ef fun bq oq bO=>?_|refine eY isAgg22 ?_|refine jl underlying22 sizeOf3 fun _ _ _=>?_|refine eY isAgg3 ?_|refine bU ?_)
            refine bE ?_;go_wp2;go_roundw
            case rel=>exact⟨k+1,m,aw,cw,by omega,by omega,by simp,rfl,by rw [nD.out];exact hS.sb,by rw [nD.out,hm.out]⟩
            case measure=>simp [intOf];omega
          ·obtain rfl:k=fs.length:=by omega
           rw [hpw.out] at hS hm;have kE:decide ((fs.length:Int)<(fs.length:Int))=false:=by simp
           have cp:=fun w' h1 h2=>part_any ⟨g1,g2,g3,g4,r1,r2,r3,r4,r5,(fa,fs.length,cf),ea,rs,prs,rF,rE⟩ fs a _ w' S' h1 h2 jn.out pC kO
           simp only [gH.out] at cp
           by_cases hW:W=[]
           ·subst hW
            obtain rfl:m=0:=hm;simp only [if_true] at cp
            go_wp2_with (with_reducible refine aU 1 hS isAgg35 ?_)
            refine gI [.r 0,.p 1,.p 2,.p 3,.r 4,.p 5,.e 6,.p 7,.p 8,.p 9,.p 10,.p 11] [] (fun wZ=>aA (nd w3) wZ _) (by kernel_rfl) (by kernel_rfl) hS.drew (fun w1 hS=>?_)
            repeat (with_reducible first|refine gm ?_|refine cz 1 isAgg67 sizeOf67 ?_|refine jl underlying22 sizeOf3 fun _ _ _=>?_|refine eY isAgg3 ?_|refine bU ?_)
            refine aZ ?_
            go_wp2_with (fail)
            refine (cp _ (mu _ hS) (aP.at hS hF)).mono ?_;rintro e w' ⟨ag,ng,cg,rfl,hq,jF⟩;simp only [];go_step;have hS:=hS.fW dY hq.below;refine aX hS.sb ?_;refine aM ?_;refine bE ?_;have jG:=Ints.bj jF;have jA:Ints _ (Old _) (.slice aw 0 cw) (zs []):=Ints.intro (xs:=zs []) (hS.dn 3 rfl).bj jF.2
            go_wp2_with (fail)
            refine (wU ag aw cg cw ng 0 (zs []) (zs []) _ jG jA).mono ?_;rintro e w6 ⟨rfl,hq⟩;have hS:=hS.fW dY hq.below;rw [show decide (zs ([]:List Nat)=zs ([]:List Nat))=true from decide_eq_true rfl];clear hq jG jA jF;simp only []
            go_wp2_with (fail)
            go_roundw
            case rel=>exact⟨f+1,by omega,by omega,rfl,hS.sb⟩
            case measure=>simp [intOf];omega
           ·have kx:0<m:=by rw [hm];exact Nat.pos_of_ne_zero fun h=>hW (List.eq_nil_of_length_eq_zero h)
            have mA:decide ((0:Int)<(m:Int))=true:=by simp;omega
            simp only [if_neg hW] at cp;replace hm:=Hd hm;clear hW
            go_wp2_with (with_reducible refine aU 1 hS isAgg35 ?_)
            refine gI [.r 0,.p 1,.p 2,.p 3,.r 4,.p 5,.e 6,.p 7,.p 8,.p 9,.p 10,.p 11] [] (fun wZ=>aA (nd w3) wZ _) (by kernel_rfl) (by kernel_rfl) hS.drew (fun w1 hS=>?_)
            repeat (with_reducible first|refine gm ?_|refine cz 1 isAgg67 sizeOf67 ?_|refine jl underlying22 sizeOf3 fun _ _ _=>?_|refine eY isAgg3 ?_|refine bU ?_)
            refine aZ ?_
            go_wp2_with (fail)
            refine (cp _ (mu _ hS) (aP.at hS hF)).mono ?_;rintro e w' ⟨ag,ng,cg,rfl,hq,jF⟩;simp only [];go_step;have hS:=hS.fW dY hq.below;refine aX hS.sb ?_;refine aM ?_;refine bE ?_;have jG:=Ints.bj jF;have jA:Ints _ (Old _) (.slice aw m cw) (zs W):=Ints.intro (xs:=zs W) (hS.dn 3 rfl).bj jF.2
            go_wp2_with (fail)
            refine (wU ag aw cg cw ng m (zs W) (zs W) _ jG jA).mono ?_;rintro e w6 ⟨rfl,hq⟩;have hS:=hS.fW dY hq.below;rw [show decide (zs W=zs W)=true from decide_eq_true rfl];clear hq jG jA jF;simp only []
            go_wp2_with (fail)
            go_roundw
            case rel=>exact⟨f+1,by omega,by omega,rfl,hS.sb⟩
            case measure=>simp [intOf];omega
      ·have dp:decide (f≤(fs.length:Int))=false:=by simp;omega
       as_aux_lemma =>
        go_wp2_with (with_reducible refine aU 1 hS isAgg35 ?_)
        try try simp only [fA]
        revert hS
        repeat (rename aA _ _ _=>hZ;clear hZ)
        intro hS
        go_loopw [21] (fun v21 wr=>∃ (k:Nat),k≤6∧v21=.int .i64 (k:Int)∧aA (nd w3) wr [.aH F w4,.aB fo (.cells #[.slice g1.1 g1.2.1 g1.2.2,.slice g2.1 g2.2.1 g2.2.2,.slice g3.1 g3.2.1 g3.2.2,.slice g4.1 g4.2.1 g4.2.2,.slice r1.1 r1.2.1 r1.2.2,.slice r2.1 r2.2.1 r2.2.2,.slice r3.1 r3.2.1 r3.2.2,.slice r4.1 r4.2.1 r4.2.2,.slice r5.1 r5.2.1 r5.2.2,.slice fa fs.length cf,.slice ea.1 ea.2.1 ea.2.2] 67 (0,0)),.aH G wG]) (fun v21 _=>6 - (intOf v21).toNat)
        case atStart=>exact⟨0,by omega,rfl,hS⟩
        case round =>
         clear hS;obtain⟨k,hk6,rfl,hS⟩:=hrel;revert hS
         repeat (rename aA _ _ _=>hZ;clear hZ)
         intro hS
         by_cases hk:k<6
         ·have aIo:decide ((k:Int)<6)=true:=by simp;omega
          obtain⟨b,hb⟩:∃ b,nth 0 la k=b:=⟨_,rfl⟩;have uF:bQ b:=by rw [← hb];exact hLa.2 _ (cQ 0 la k (by have:=fQ.out;omega))
          rcases (by omega:(0≤b∧b<(bF.length:Int))∨b<0∨(0≤b∧(bF.length:Int)≤b)) with ⟨b1,b2⟩|b1|⟨b1,b2⟩
          ·have t1:decide (b<0)=false:=by simp;omega
           have t2:decide ((bF.length:Int)≤b)=false:=by simp;omega
           have nX:pF fs [a,b]=true:=a1r.2 ⟨⟨h1,by rw [js.out];exact h2⟩,b1,by rw [js.out];exact b2⟩;have cCo:=fun w' h1 h2=>a1u ⟨g1,g2,g3,g4,r1,r2,r3,r4,r5,(fa,fs.length,cf),ea,rs,prs,rF,rE⟩ fs a b w' S' h1 h2 jn.out pC uF
           have cFi:=fun w' h1 h2=>a2v ⟨g1,g2,g3,g4,r1,r2,r3,r4,r5,(fa,fs.length,cf),ea,rs,prs,rF,rE⟩ fs a b w' S' h1 h2 jn.out pC uF
           simp only [nX,if_true] at cCo cFi;clear nX
           go_wp2_with (fail)
           refine gI [.r 0,.p 1,.p 2,.p 3,.r 4,.p 5,.p 6,.p 7,.r 8,.e 9,.p 10,.p 11,.p 12,.p 13,.p 14] [] (fun wZ=>aA (nd w3) wZ _) (by kernel_rfl) (by kernel_rfl) hS.drew (fun w1 hS=>?_)
           repeat (with_reducible first|refine gm ?_|refine cz 1 isAgg67 sizeOf67 ?_|refine jl underlying22 sizeOf3 fun _ _ _=>?_|refine eY isAgg3 ?_|refine bU ?_)
           refine aZ ?_
           go_wp2_with (fail)
           refine (cCo _ (mu _ hS) (aP.at hS hF)).mono ?_;rintro e w' ⟨hq,ac,c3,ts,rfl,fg,bh⟩;simp only [];go_step;have hS:=hS.aGh dY hq.below;simp only [aK] at hS;refine aX hS.sb ?_;refine aM ?_;refine bE ?_;obtain⟨NW,wN,hS,bh⟩:∃ (NW:Nat→Prop) (wN:World),aA (nd w3) w' [.aH F w4,.aB fo (.cells #[.slice g1.1 g1.2.1 g1.2.2,.slice g2.1 g2.2.1 g2.2.2,.slice g3.1 g3.2.1 g3.2.2,.slice g4.1 g4.2.1 g4.2.2,.slice r1.1 r1.2.1 r1.2.2,.slice r2.1 r2.2.1 r2.2.2,.slice r3.1 r3.2.1 r3.2.2,.slice r4.1 r4.2.1 r4.2.2,.slice r5.1 r5.2.1 r5.2.2,.slice fa fs.length cf,.slice ea.1 ea.2.1 ea.2.2] 67 (0,0)),.aH G wG,.aH NW wN]∧bN wN NW 2 (.slice ac ts.length c3) ts.length (ts.flatMap kB):=⟨_,_,hS.sb,bh⟩
           as_aux_lemma =>
            revert hS
            repeat (rename aA _ _ _=>hZ;clear hZ)
            intro hS
            go_wp2_with (fail)
            refine gI [.r 0,.p 1,.p 2,.p 3,.r 4,.p 5,.p 6,.p 7,.r 8,.e 9,.p 10,.p 11,.p 12,.p 13,.p 14] [] (fun wZ=>aA (nd w3) wZ _) (by kernel_rfl) (by kernel_rfl) hS.drew (fun w1 hS=>?_)
            repeat (with_reducible first|refine gm ?_|refine cz 1 isAgg67 sizeOf67 ?_|refine jl underlying22 sizeOf3 fun _ _ _=>?_|refine eY isAgg3 ?_|refine bU ?_)
            refine aZ ?_
            go_wp2_with (fail)
            refine (cFi _ (mu _ hS) (aP.at hS hF)).mono ?_;rintro e w' ⟨aR,bb,rfl,pD⟩;simp only [];go_step;have hS:=hS.fW dY aR.below;refine aX hS.sb ?_;refine aM ?_;refine bE ?_;have tj:=fg.len;have bV:bb=true↔wP ts ts.length:=by rw [aMW fg.rV,fg.fn];exact pD
            have cl:=fun w' x1 x2=>aQR ⟨g1,g2,g3,g4,r1,r2,r3,r4,r5,(fa,fs.length,cf),ea,rs,prs,rF,rE⟩ fs a b ts ac c3 w' (fun _=>False) x1 jn.out ⟨h1,by rw [js.out];exact h2⟩ ⟨b1,by rw [js.out];exact b2⟩ fg x2
            replace bV:=Hd bV;clear cCo cFi hq aR pD fg;revert hS
            repeat (rename aA _ _ _=>hZ;clear hZ)
            intro hS
            go_wp2_with (with_reducible first|refine sV underlying22 sizeOf3 fun _ _ _=>?_|refine fP hS isAgg3 ?_)
            refine gI [.p 0,.p 1,.p 2,.p 3,.p 4,.p 5,.p 6,.r 7,.p 8,.p 9,.p 10,.r 11,.p 12,.p 13,.p 14,.r 15,.p 16,.e 17,.p 18,.p 19] [] (fun wZ=>aA (nd w3) wZ _) (by kernel_rfl) (by kernel_rfl) hS.drew (fun w1 hS=>?_)
            repeat (with_reducible first|refine gm ?_|refine cz 1 isAgg67 sizeOf67 ?_|refine jl underlying22 sizeOf3 fun _ _ _=>?_|refine eY isAgg3 ?_|refine bU ?_)
            refine aZ ?_
            go_wp2_with (fail)
            refine (cl _ ((mu _ hS).bj) (bh.arg hS (by simp))).mono ?_;rintro e w' ⟨rfl,bI⟩;simp only [];go_step;have hS:=hS.fW dY bI.below;refine aX hS.sb ?_;refine aM ?_;refine bE ?_;clear cl bI
            go_wp2_with (fail)
            try try simp only [fA]
            revert hS
            repeat (rename aA _ _ _=>hZ;clear hZ)
            intro hS;try simp only [ha,hb]
            go_loopw [26,27] (fun v26 v27 wr=>∃ (j:Nat) (s:Bool),1≤j∧(j≤ts.length∨j=1)∧v27=.int .i64 (j:Int)∧v26=.bool s∧aA (nd w3) wr [.aH F w4,.aB fo (.cells #[.slice g1.1 g1.2.1 g1.2.2,.slice g2.1 g2.2.1 g2.2.2,.slice g3.1 g3.2.1 g3.2.2,.slice g4.1 g4.2.1 g4.2.2,.slice r1.1 r1.2.1 r1.2.2,.slice r2.1 r2.2.1 r2.2.2,.slice r3.1 r3.2.1 r3.2.2,.slice r4.1 r4.2.1 r4.2.2,.slice r5.1 r5.2.1 r5.2.2,.slice fa fs.length cf,.slice ea.1 ea.2.1 ea.2.2] 67 (0,0)),.aH G wG,.aH NW wN]∧(s=true↔wP ts j)) (fun _ v27 _=>ts.length - (intOf v27).toNat)
            case atStart=>exact⟨1,true,by omega,by omega,rfl,rfl,hS.sb,fun _ j h1 h2=>by omega,fun _=>rfl⟩
            case round =>
             clear hS;obtain⟨j,s,hj1,hj,rfl,rfl,hS,hs⟩:=hrel;revert hS
             repeat (rename aA _ _ _=>hZ;clear hZ)
             intro hS
             by_cases gX:j<ts.length
             ·obtain⟨i2,mg⟩:∃ i2,i2+1=j:=⟨j - 1,by omega⟩
              have nS:=aSE (ts:=ts) hj1;have dF:=eS a01 fp gX;have vN:=eS a01 fp (show i2<ts.length by omega);rw [show j - 1=i2 by omega] at nS;obtain⟨⟨p1,p2⟩,hp⟩:∃ p,nth fp ts i2=p:=⟨_,rfl⟩;obtain⟨⟨q1,q2⟩,hq⟩:∃ p,nth fp ts j=p:=⟨_,rfl⟩;rw [hp] at vN nS;rw [hq] at dF nS;replace vN:((ts.flatMap kB).drop (i2*2)).take 2=[.int .i64 p1,.int .i64 p2]:=vN;replace dF:((ts.flatMap kB).drop (j*2)).take 2=[.int .i64 q1,.int .i64 q2]:=dF;have u1:IntKind.i64.wrap ((j:Int) - 1)=(i2:Int):=w7;have hi2l:i2<ts.length:=by omega
              replace mg:=Hd mg;clear hp hq;cases s with
              | false =>
               have fT:false=true↔wP ts (j+1):=by rw [nS,← hs];simp
               replace fT:=Hd fT;clear nS hs;go_wp2;refine gI [.p 0,.p 1,.p 2,.p 3,.p 4,.p 5,.p 6,.r 7,.p 8,.p 9,.p 10,.p 11,.r 12,.p 13,.p 14,.p 15] [] (fun wZ=>aA (nd w3) wZ _) (by kernel_rfl) (by kernel_rfl) hS.drew (fun w1 hS=>?_);refine aM ?_;refine bE ?_;go_wp2;go_roundw
               case rel=>exact⟨j+1,false,by omega,by omega,by simp,rfl,hS.sb,fT.out⟩
               case measure=>simp [intOf];omega
              | true =>
               by_cases e:p1=q1
               ·have f1:(p1 != q1)=false:=by simp [e]
                have fT:false=true↔wP ts (j+1):=by rw [nS,← hs];simp [e]
                replace fT:=Hd fT;clear nS hs e;go_wp2;refine gI [.p 0,.p 1,.p 2,.p 3,.p 4,.p 5,.p 6,.r 7,.p 8,.p 9,.p 10,.p 11,.r 12,.p 13,.p 14,.p 15] [] (fun wZ=>aA (nd w3) wZ _) (by kernel_rfl) (by kernel_rfl) hS.drew (fun w1 hS=>?_)
                repeat (with_reducible first|refine gm ?_|refine e9 underlying80 sizeOf84 bh vN fun bq oq bO=>?_|refine e9 underlying80 sizeOf84 bh dF fun bq oq bO=>?_|refine pU 0 isAgg3 ?_|refine bU ?_)
                refine bE ?_;go_wp2;go_roundw
                case rel=>exact⟨j+1,false,by omega,by omega,by simp,rfl,hS.sb,fT.out⟩
                case measure=>simp [intOf];omega
               ·have f1:(p1 != q1)=true:=by simp [e]
                have fT:wP ts (j+1):=nS.2 ⟨hs.1 rfl,e⟩;replace fT:=Hd fT;clear nS hs e;go_wp2;refine gI [.p 0,.p 1,.p 2,.p 3,.p 4,.p 5,.p 6,.r 7,.p 8,.p 9,.p 10,.p 11,.r 12,.p 13,.p 14,.p 15] [] (fun wZ=>aA (nd w3) wZ _) (by kernel_rfl) (by kernel_rfl) hS.drew (fun w1 hS=>?_)
                repeat (with_reducible first|refine gm ?_|refine e9 underlying80 sizeOf84 bh vN fun bq oq bO=>?_|refine e9 underlying80 sizeOf84 bh dF fun bq oq bO=>?_|refine pU 0 isAgg3 ?_|refine bU ?_)
                refine bE ?_;go_wp2;go_roundw
                case rel=>exact⟨j+1,true,by omega,by omega,by simp,rfl,hS.sb,fun _=>fT.out,fun _=>rfl⟩
                case measure=>simp [intOf];omega
             ·have mb:wP ts j↔wP ts ts.length:=⟨fun h x x1 x2=>h x x1 (by omega),fun h x x1 x2=>h x x1 (by omega)⟩
              obtain rfl:s=bb:=Bool.eq_iff_iff.2 (hs.trans (mb.trans bV.out.symm));have f1:(s != s)=false:=by simp
              clear mb hs;go_wp2;go_roundw
              case rel=>exact⟨k+1,by omega,by simp,hS.sb⟩
              case measure=>simp [intOf];omega
          all_goals
           first|have t1:decide (b<0)=true:=decide_eq_true (by omega)|(have t1:decide (b<0)=false:=decide_eq_false (by omega);have t2:decide ((bF.length:Int)≤b)=true:=decide_eq_true (by omega))
           have nX:pF fs [a,b]=false:=Bool.eq_false_iff.2 fun h=>by have:=js.out;have:=a1r.1 h;omega
           replace nX:=Hd nX
           as_aux_lemma =>
            have cCo:=fun w' h1 h2=>a1u ⟨g1,g2,g3,g4,r1,r2,r3,r4,r5,(fa,fs.length,cf),ea,rs,prs,rF,rE⟩ fs a b w' S' h1 h2 jn.out pC uF
            have cFi:=fun w' h1 h2=>a2v ⟨g1,g2,g3,g4,r1,r2,r3,r4,r5,(fa,fs.length,cf),ea,rs,prs,rF,rE⟩ fs a b w' S' h1 h2 jn.out pC uF
            simp only [nX.out,Bool.false_eq_true,if_false] at cCo cFi
            go_wp2_with (fail)
            refine gI [.r 0,.p 1,.p 2,.p 3,.r 4,.p 5,.p 6,.p 7,.r 8,.e 9,.p 10,.p 11,.p 12,.p 13,.p 14] [] (fun wZ=>aA (nd w3) wZ _) (by kernel_rfl) (by kernel_rfl) hS.drew (fun w1 hS=>?_)
            repeat (with_reducible first|refine gm ?_|refine cz 1 isAgg67 sizeOf67 ?_|refine jl underlying22 sizeOf3 fun _ _ _=>?_|refine eY isAgg3 ?_|refine bU ?_)
            refine aZ ?_
            go_wp2_with (fail)
            refine (cCo _ (mu _ hS) (aP.at hS hF)).mono ?_;rintro e w' ⟨hq,rfl⟩;simp only [];go_step;have hS:=hS.fW dY hq.below;refine aX hS.sb ?_;refine aM ?_;refine bE ?_
            go_wp2_with (fail)
            refine gI [.r 0,.p 1,.p 2,.p 3,.r 4,.p 5,.p 6,.p 7,.r 8,.e 9,.p 10,.p 11,.p 12,.p 13,.p 14] [] (fun wZ=>aA (nd w3) wZ _) (by kernel_rfl) (by kernel_rfl) hS.drew (fun w1 hS=>?_)
            repeat (with_reducible first|refine gm ?_|refine cz 1 isAgg67 sizeOf67 ?_|refine jl underlying22 sizeOf3 fun _ _ _=>?_|refine eY isAgg3 ?_|refine bU ?_)
            refine aZ ?_
            go_wp2_with (fail)
            refine (cFi _ (mu _ hS) (aP.at hS hF)).mono ?_;rintro e w' ⟨aR,rfl⟩;simp only [];go_step;have hS:=hS.fW dY aR.below;refine aX hS.sb ?_;refine aM ?_;refine bE ?_;clear cCo cFi hq aR
            go_wp2_with (with_reducible first|refine sV underlying22 sizeOf3 fun _ _ _=>?_|refine fP hS isAgg3 ?_)
            go_roundw
            case rel=>exact⟨k+1,by omega,by simp,hS.sb⟩
            case measure=>simp [intOf];omega
         ·skip
          obtain rfl:k=6:=by omega
          go_wp2_with (fail)
          go_roundw
          case rel=>exact⟨i+1,by omega,by simp,hS.sb⟩
          case measure=>simp [intOf];omega
   all_goals
    first|have d1:decide ((0:Int)≤a)=false:=decide_eq_false (by omega)|(have d1:decide ((0:Int)≤a)=true:=decide_eq_true (by omega);have d2:decide (a<(bF.length:Int))=false:=decide_eq_false (by omega))
    have oX:pF fs [a]=false:=Bool.eq_false_iff.2 fun h=>by have:=js.out;have:=hasQ_one.1 h;omega
    replace oX:=Hd oX
    as_aux_lemma =>
     have hpz:∀ n,xi fs a n=[]:=fun n=>by unfold xi;rw [if_neg (by rw [oX.out];decide)]
     go_wp2_with (with_reducible first|refine sV underlying22 sizeOf3 fun _ _ _=>?_|refine fP hS isAgg3 ?_)
     try simp only [ha]
     try try simp only [fA]
     revert hS
     repeat (rename aA _ _ _=>hZ;clear hZ)
     intro hS
     go_loopw [15] (fun qO wr=>∃ (f:Int),-1≤f∧f≤fs.length+1∧qO=.int .i64 f∧aA (nd w3) wr [.aH F w4,.aB fo (.cells #[.slice g1.1 g1.2.1 g1.2.2,.slice g2.1 g2.2.1 g2.2.2,.slice g3.1 g3.2.1 g3.2.2,.slice g4.1 g4.2.1 g4.2.2,.slice r1.1 r1.2.1 r1.2.2,.slice r2.1 r2.2.1 r2.2.2,.slice r3.1 r3.2.1 r3.2.2,.slice r4.1 r4.2.1 r4.2.2,.slice r5.1 r5.2.1 r5.2.2,.slice fa fs.length cf,.slice ea.1 ea.2.1 ea.2.2] 67 (0,0)),.aH G wG]) (fun qO _=>(fs.length+1 - intOf qO).toNat)
     case atStart=>exact⟨-1,by omega,by omega,rfl,hS⟩
     case round =>
      clear hS;obtain⟨f,qU,j7,rfl,hS⟩:=hrel;revert hS
      repeat (rename aA _ _ _=>hZ;clear hZ)
      intro hS
      by_cases hfb:f≤fs.length
      ·have dp:decide (f≤(fs.length:Int))=true:=by simp;omega
       rcases (show (decide (f<0)=true∧bQ fK)∨(decide (f<0)=false∧bQ f) from if zU:f<0 then .inl ⟨decide_eq_true zU,hfc.out⟩ else .inr ⟨decide_eq_false zU,by unfold bQ;omega⟩) with ⟨a4K,kO⟩|⟨a4K,kO⟩
       all_goals
        as_aux_lemma =>
         go_wp2_with (with_reducible refine aU 1 hS isAgg35 ?_)
         have hS:=hS.iB 3 1;simp only [aK] at hS
         try try simp only [fA]
         revert hS
         repeat (rename aA _ _ _=>hZ;clear hZ)
         intro hS
         go_loopw [17,18] (fun v17 mh wr=>mh=.int .i64 0∧v17=.slice none 0 0∧aA (nd w3) wr [.aH F w4,.aB fo (.cells #[.slice g1.1 g1.2.1 g1.2.2,.slice g2.1 g2.2.1 g2.2.2,.slice g3.1 g3.2.1 g3.2.2,.slice g4.1 g4.2.1 g4.2.2,.slice r1.1 r1.2.1 r1.2.2,.slice r2.1 r2.2.1 r2.2.2,.slice r3.1 r3.2.1 r3.2.2,.slice r4.1 r4.2.1 r4.2.2,.slice r5.1 r5.2.1 r5.2.2,.slice fa fs.length cf,.slice ea.1 ea.2.1 ea.2.2] 67 (0,0)),.aH G wG,.row (.slice none 0 0) 3 1 0 (iv (zs []))]) (fun _ mh _=>0)
         case atStart=>exact⟨rfl,rfl,by simpa [iv,zs] using hS⟩
         case round =>
          clear hS;obtain⟨rfl,rfl,hS⟩:=hrel;revert hS
          repeat (rename aA _ _ _=>hZ;clear hZ)
          intro hS;have kE:decide ((0:Int)<(fs.length:Int))=true:=by simp;omega
          have cp:=fun w' h1 h2=>part_any ⟨g1,g2,g3,g4,r1,r2,r3,r4,r5,(fa,fs.length,cf),ea,rs,prs,rF,rE⟩ fs a _ w' S' h1 h2 jn.out pC kO
          simp only [hpz,if_true] at cp
          go_wp2_with (with_reducible refine aU 1 hS isAgg35 ?_)
          refine gI [.r 0,.p 1,.p 2,.p 3,.r 4,.p 5,.e 6,.p 7,.p 8,.p 9,.p 10,.p 11] [] (fun wZ=>aA (nd w3) wZ _) (by kernel_rfl) (by kernel_rfl) hS.drew (fun w1 hS=>?_)
          repeat (with_reducible first|refine gm ?_|refine cz 1 isAgg67 sizeOf67 ?_|refine jl underlying22 sizeOf3 fun _ _ _=>?_|refine eY isAgg3 ?_|refine bU ?_)
          refine aZ ?_
          go_wp2_with (fail)
          refine (cp _ (mu _ hS) (aP.at hS hF)).mono ?_;rintro e w' ⟨ag,ng,cg,rfl,hq,jF⟩;simp only [];go_step;have hS:=hS.fW dY hq.below;refine aX hS.sb ?_;refine aM ?_;refine bE ?_;have jG:=Ints.bj jF;have jA:Ints _ (Old _) (.slice none 0 0) (zs []):=Ints.intro (xs:=zs []) (hS.dn 3 rfl).bj jF.2
          go_wp2_with (fail)
          refine (wU ag none cg 0 ng 0 (zs []) (zs []) _ jG jA).mono ?_;rintro e w6 ⟨rfl,hq⟩;have hS:=hS.fW dY hq.below;rw [show decide (zs ([]:List Nat)=zs ([]:List Nat))=true from decide_eq_true rfl];clear hq jG jA jF;simp only []
          go_wp2_with (fail)
          go_roundw
          case rel=>exact⟨f+1,by omega,by omega,rfl,hS.sb⟩
          case measure=>simp [intOf];omega
      ·have dp:decide (f≤(fs.length:Int))=false:=by simp;omega
       go_wp2_with (with_reducible refine aU 1 hS isAgg35 ?_)
       as_aux_lemma =>
        try try simp only [fA]
        revert hS
        repeat (rename aA _ _ _=>hZ;clear hZ)
        intro hS
        go_loopw [21] (fun v21 wr=>∃ (k:Nat),k≤6∧v21=.int .i64 (k:Int)∧aA (nd w3) wr [.aH F w4,.aB fo (.cells #[.slice g1.1 g1.2.1 g1.2.2,.slice g2.1 g2.2.1 g2.2.2,.slice g3.1 g3.2.1 g3.2.2,.slice g4.1 g4.2.1 g4.2.2,.slice r1.1 r1.2.1 r1.2.2,.slice r2.1 r2.2.1 r2.2.2,.slice r3.1 r3.2.1 r3.2.2,.slice r4.1 r4.2.1 r4.2.2,.slice r5.1 r5.2.1 r5.2.2,.slice fa fs.length cf,.slice ea.1 ea.2.1 ea.2.2] 67 (0,0)),.aH G wG]) (fun v21 _=>6 - (intOf v21).toNat)
        case atStart=>exact⟨0,by omega,rfl,hS⟩
        case round =>
         clear hS;obtain⟨k,hk6,rfl,hS⟩:=hrel;revert hS
         repeat (rename aA _ _ _=>hZ;clear hZ)
         intro hS
         by_cases hk:k<6
         ·have aIo:decide ((k:Int)<6)=true:=by simp;omega
          obtain⟨b,hb⟩:∃ b,nth 0 la k=b:=⟨_,rfl⟩;have uF:bQ b:=by rw [← hb];exact hLa.2 _ (cQ 0 la k (by have:=fQ.out;omega))
          have nX:pF fs [a,b]=false:=Bool.eq_false_iff.2 fun h=>by have:=js.out;have:=a1r.1 h;omega
          replace nX:=Hd nX
          as_aux_lemma =>
           have cCo:=fun w' h1 h2=>a1u ⟨g1,g2,g3,g4,r1,r2,r3,r4,r5,(fa,fs.length,cf),ea,rs,prs,rF,rE⟩ fs a b w' S' h1 h2 jn.out pC uF
           have cFi:=fun w' h1 h2=>a2v ⟨g1,g2,g3,g4,r1,r2,r3,r4,r5,(fa,fs.length,cf),ea,rs,prs,rF,rE⟩ fs a b w' S' h1 h2 jn.out pC uF
           simp only [nX.out,Bool.false_eq_true,if_false] at cCo cFi
           go_wp2_with (fail)
           refine gI [.r 0,.p 1,.p 2,.p 3,.r 4,.p 5,.p 6,.p 7,.r 8,.e 9,.p 10,.p 11,.p 12,.p 13,.p 14] [] (fun wZ=>aA (nd w3) wZ _) (by kernel_rfl) (by kernel_rfl) hS.drew (fun w1 hS=>?_)
           repeat (with_reducible first|refine gm ?_|refine cz 1 isAgg67 sizeOf67 ?_|refine jl underlying22 sizeOf3 fun _ _ _=>?_|refine eY isAgg3 ?_|refine bU ?_)
           refine aZ ?_
           go_wp2_with (fail)
           refine (cCo _ (mu _ hS) (aP.at hS hF)).mono ?_;rintro e w' ⟨hq,rfl⟩;simp only [];go_step;have hS:=hS.fW dY hq.below;refine aX hS.sb ?_;refine aM ?_;refine bE ?_
           go_wp2_with (fail)
           refine gI [.r 0,.p 1,.p 2,.p 3,.r 4,.p 5,.p 6,.p 7,.r 8,.e 9,.p 10,.p 11,.p 12,.p 13,.p 14] [] (fun wZ=>aA (nd w3) wZ _) (by kernel_rfl) (by kernel_rfl) hS.drew (fun w1 hS=>?_)
           repeat (with_reducible first|refine gm ?_|refine cz 1 isAgg67 sizeOf67 ?_|refine jl underlying22 sizeOf3 fun _ _ _=>?_|refine eY isAgg3 ?_|refine bU ?_)
           refine aZ ?_
           go_wp2_with (fail)
           refine (cFi _ (mu _ hS) (aP.at hS hF)).mono ?_;rintro e w' ⟨aR,rfl⟩;simp only [];go_step;have hS:=hS.fW dY aR.below;refine aX hS.sb ?_;refine aM ?_;refine bE ?_;clear cCo cFi hq aR
           go_wp2_with (with_reducible first|refine sV underlying22 sizeOf3 fun _ _ _=>?_|refine fP hS isAgg3 ?_)
           go_roundw
           case rel=>exact⟨k+1,by omega,by simp,hS.sb⟩
           case measure=>simp [intOf];omega
         ·skip
          obtain rfl:k=6:=by omega
          go_wp2_with (fail)
          go_roundw
          case rel=>exact⟨i+1,by omega,by simp,hS.sb⟩
          case measure=>simp [intOf];omega
  ·obtain rfl:i=6:=by omega
   have hB6:=Below.mS (aA.gZ hS hO kj);have vf:=pJ.trans (hB6.mono pJ.size)
   go_wp2_with (fail)
   refine (aEo _).mono ?_;rintro e w8 ⟨rfl,hb⟩;simp only [];go_wp2;go_ret;exact⟨rfl,vf.trans (hb.mono vf.size)⟩
end Go.Hp
