/- Texts for the walk of the law: E16 E17 E18 E19 FQ EI FZ FB. -/
import Derived.Test.YtihpoboahbpaiaaGreatR09
set_option maxRecDepth 100000
set_option maxHeartbeats 16000000
set_option linter.unusedVariables false
set_option linter.unusedSimpArgs false
namespace Go.Hp
open Go Go.RowKit Go.Proofs.Tryz
structure NB (w:World) (S:Nat→Prop) (os:List Sz) (gs:List Gp) (ao:Option Addr) (co:Nat) (ap:Option Addr) (cp:Nat) (lY:Option Addr) (cs:Nat) (jo:Option Addr) (ct:Nat):Prop where
 v:bN w S 4 (.slice ao os.length co) os.length (os.flatMap sc)
 g:bN w S 2 (.slice ap gs.length cp) gs.length (gs.flatMap gc)
 s:bN w S 4 (.slice lY os.length cs) os.length (os.flatMap sc)
 p:bN w S 2 (.slice jo gs.length ct) gs.length (gs.flatMap gc)
theorem NB.grow {w w':World} {S S':Nat→Prop} {os:List Sz} {gs:List Gp} {ao:Option Addr} {co:Nat} {ap:Option Addr} {cp:Nat} {lY:Option Addr} {cs:Nat} {jo:Option Addr} {ct:Nat} (h:NB w S os gs ao co ap cp lY cs jo ct) (hp:Pure w S w' S'):NB w' S' os gs ao co ap cp lY cs jo ct:=⟨h.v.grow hp,h.g.grow hp,h.s.grow hp,h.p.grow hp⟩
theorem NB.at {w0 w wr:World} {H:List Chunk} {F S:Nat→Prop} {os:List Sz} {gs:List Gp} {ao:Option Addr} {co:Nat} {ap:Option Addr} {cp:Nat} {lY:Option Addr} {cs:Nat} {jo:Option Addr} {ct:Nat} (h:NB wr S os gs ao co ap cp lY cs jo ct) (hS:aA w0 w (.aH F wr::H)) (hF:∀ k,S k→F k):NB w S os gs ao co ap cp lY cs jo ct:=⟨h.v.at hS hF,h.g.at hS hF,h.s.at hS hF,h.p.at hS hF⟩
theorem NB.weaken {w:World} {S T:Nat→Prop} {os:List Sz} {gs:List Gp} {ao:Option Addr} {co:Nat} {ap:Option Addr} {cp:Nat} {lY:Option Addr} {cs:Nat} {jo:Option Addr} {ct:Nat} (h:NB w S os gs ao co ap cp lY cs jo ct) (iU:∀ k,S k→T k):NB w T os gs ao co ap cp lY cs jo ct:=⟨h.v.weaken iU,h.g.weaken iU,h.s.weaken iU,h.p.weaken iU⟩
theorem aJm (a b:Option Addr) (n c m d:Nat):Instr.fill (fun i=>some (i*1,1)) ((Array.range (2*1)).map ((Value.slice none 0 0).cells[· % (Value.slice none 0 0).cells.size]!)) [(0,.slice a n c),(1,.slice b m d)]=some #[.slice a n c,.slice b m d]:=by
 have h:((Array.range (2*1)).map ((Value.slice none 0 0).cells[· % (Value.slice none 0 0).cells.size]!))=#[.slice none 0 0,.slice none 0 0]:=by
  apply Array.ext';simp [Array.range,List.ofFn_succ,Value.cells]
 rw [h];simp [Instr.fill,Value.cells]
theorem aO9:(prog.info? 101).map (fun i=>(i.zero,i.size,i.bytes))=some (some (.agg #[.int .i64 0,.int .i64 0,.slice none 0 0,.int .i64 0,.int .i64 0]),5,56):=by kernel_rfl
theorem aU8 {w:World} {S:Nat→Prop} {R:List bK} {D:List ((Nat × Nat) × Gp)} {d:List ((Nat × Nat) × (Option Addr × Nat × Nat))} {rs:List ER} {rO:(Nat × Nat) × (Option Addr × Nat × Nat)→ER} (wK:d.Perm (R.map bK.s)) (hp:rs.Perm (d.map rO)) (hs:rs.Pairwise (fun x y=>¬ mY (y.a,y.b) (x.a,x.b))) (hdn:(d.map (·.1)).Nodup)
 (u9:∀ p ∈ R.map bK.s,ta w S (rO p) (vF (R.map bK.g) D p.1)) (wJ:∀ k,k ∈ (R.map bK.g).map (·.1)↔k ∈ (R.map bK.s).map (·.1)) (hrO:rO=fun p=>⟨p.1.1,p.1.2,p.2.1,p.2.2.1,p.2.2.2,(eZ D p.1).getD g0⟩) :
 ∃ es:List Ed,kP w S rs es∧(∀ e,e ∈ es↔∃ k ∈ (R.map bK.g).map (·.1),e=vF (R.map bK.g) D k)∧(es.map fun e=>(e.a,e.b)).Pairwise mY:=by
 have n9:∀ r ∈ rs,∃ p ∈ R.map bK.s,r=rO p:=by
  intro r hr;obtain⟨p,uy,rfl⟩:=List.mem_map.1 (hp.mem_iff.1 hr);exact⟨p,wK.mem_iff.1 uy,rfl⟩
 have bV:∀ p,((rO p).a,(rO p).b)=p.1:=fun p=>by rw [hrO]
 refine⟨rs.map (fun r=>vF (R.map bK.g) D (r.a,r.b)),⟨by simp,fun i hi=>?_⟩,fun e=>?_,?_⟩
 ·rw [List.length_map] at hi
  rw [bS jk rs i hi,bS ah _ i (by simpa using hi),List.getElem_map];obtain⟨p,y8,hr⟩:=n9 _ (List.getElem_mem hi);have:=u9 p y8;rw [hr,bV];exact this
 ·rw [List.mem_map]
  constructor
  ·rintro⟨r,hr,rfl⟩
   obtain⟨p,y8,rfl⟩:=n9 r hr;exact⟨_,(wJ _).2 (by rw [bV];exact List.mem_map.2 ⟨p,y8,rfl⟩),rfl⟩
  ·rintro⟨k,hk,rfl⟩
   obtain⟨p,y8,rfl⟩:=List.mem_map.1 ((wJ k).1 hk);exact⟨rO p,hp.mem_iff.2 (List.mem_map.2 ⟨p,wK.mem_iff.2 y8,rfl⟩),by rw [bV]⟩
 ·rw [List.pairwise_map,List.pairwise_map]
  have hnd:(rs.map (fun r=>(r.a,r.b))).Nodup:=by
   have h1:=hp.map (fun r:ER=>(r.a,r.b));rw [List.map_map] at h1;have h2:(fun r:ER=>(r.a,r.b)) ∘ rO=(·.1):=by funext p;exact bV p
   rw [h2] at h1;exact (h1.nodup_iff).2 hdn
  have aUW:rs.Pairwise (fun x y=>(x.a,x.b)≠(y.a,y.b)):=by
   have:=hnd;unfold List.Nodup at this
   rwa [List.pairwise_map] at this
  refine (hs.and aUW).imp fun {x y} ⟨h1,h2⟩=>?_
  simp only [vF];unfold mY at *;simp only [ne_eq,Prod.mk.injEq] at h1 h2 ⊢;omega
theorem aVB (os:List Sz) (gs:List Gp) (ao ap:Option Addr) (no co np cp:Nat) (w:World) (S:Nat→Prop) (hL:aP w S) (cJ:∀ t ∈ os,t.ok) (qm:∀ g ∈ gs,g.ok) (hv:bN w S 4 (.slice ao no co) os.length (os.flatMap sc)) (hg:bN w S 2 (.slice ap np cp) gs.length (gs.flatMap gc)) (dg:os.length≤512) (hlg:gs.length≤256) (hB:gs.length+os.length*(2+2*os.length+gs.length)≤65536) (hVB:gs.length+os.length*(2+2*os.length+gs.length)≤4096∨∀ V:List Pt,V.Pairwise Pt.lt→(∀ x ∈ V,mB (os.map Sz.sg) (gs.map Gp.pt) x)→V.length≤4096) :
 Calls prog 34 #[.slice ao no co,.slice ap np cp] w (aQz w S os gs):=by
 obtain rfl:no=os.length:=by obtain⟨h1,a,cap,h2,_⟩:=hv;cases h2;rfl
 obtain rfl:np=gs.length:=by obtain⟨h1,a,cap,h2,_⟩:=hg;cases h2;rfl
 replace hB:=Hd hB;replace hVB:=Hd hVB;obtain⟨hS,aC,bC,bD⟩:=eR hL
 go_enter func34,ntmps34
 go_wp2_with (with_reducible refine bH hS zeroValue34 fun b4 zS hS=>?_)
 refine (aOI os gs ao ap os.length co gs.length cp _ S cJ qm (hv.at hS aC) (hg.at hS aC) dg hlg).mono ?_;rintro e w1 ⟨rfl,hq⟩;have hS:=hS.below hq.below hq.drawn;clear hq;simp only []
 go_wp2_with (fail)
 refine (aNn ao os.length co os _ S (hv.at hS aC) (aP.at hS aC) (by omega)).mono ?_;rintro e w2 ⟨lY,cs,S1,rfl,hq,nG⟩;have hv:=(hv.at hS aC).grow hq;have hg:=(hg.at hS aC).grow hq;replace hS:=hS.aj aC bC bD hq;obtain⟨F1,aG,gp,bB,av,hS⟩:=hS;simp only []
 go_wp2_with (fail)
 refine (aSX ap gs.length cp gs _ S1 (hg.at hS aG) (aP.at hS aG) (by omega)).mono ?_;rintro e w3 ⟨jo,ct,S2,rfl,hq,hpt⟩;have hv:=(hv.at hS aG).grow hq;have hg:=(hg.at hS aG).grow hq;have nG:=(nG.at hS aG).grow hq;replace hS:=hS.aj aG av bB hq;obtain⟨F2,aQ,-,bR,bP,hS⟩:=hS;have hn:NB w3 S2 os gs ao co ap cp lY cs jo ct:=⟨hv,hg,nG,hpt⟩;clear hv hg nG hpt aC aG bC av bD bB;simp only []
 go_wp2_with (with_reducible first|refine bH hS zeroValue34 fun b7 wb7 hS=>?_|refine aJ (u:=.agg #[.slice _ _ _,.slice _ _ _,.slice _ _ _,.slice _ _ _]) 2 hS sizeOf34 fun _ hS=>?_)
 have hS:=hS.iB 56 8;simp only [aK] at hS
 go_loopw [42] (fun v wr=>∃ (k:Nat) (F S':Nat→Prop) (wq:World) (ad:Option Addr) (c:Nat) (prs:List PR),k≤gs.length∧v=.int .i64 (k:Int)∧aA w wr [.aH F wq,.aB b4 (.cells #[.slice none 0 0,.slice none 0 0,.slice none 0 0,.slice none 0 0] 34 (0,0)),.aB b7 (.cells #[.slice lY os.length cs,.slice jo gs.length ct,.slice ad k c,.slice none 0 0] 34 (0,0)),.row (.slice ad k c) 56 8 k (prs.flatMap pc)]∧(∀ k,S' k→F k)∧(∀ k,Old w k→F k)∧Pure w S wq S'∧NB wq S' os gs ao co ap cp lY cs jo ct∧ez wq S' prs ((gs.take k).map Gp.pt)) (fun v _=>gs.length - (intOf v).toNat)
 case atStart=>exact⟨0,_,_,_,_,_,[],by omega,rfl,hS,aQ,bP,bR,hn,ez.nil _ _⟩
 case round =>
  clear hS aQ bP bR hn;obtain⟨k,F0,S0,wq,ad,c,prs,hk,rfl,hS,aC,bC,bD,hn,ps⟩:=hrel
  by_cases cW:k<gs.length
  ·skip
   have yu:=hn.g.weaken aC;obtain⟨g,jK⟩:∃ g,nth g0 gs k=g:=⟨_,rfl⟩;have hc:=eS yT g0 cW;rw [jK] at hc;have jG:=qm g (by rw [← jK];exact cQ g0 gs k cW);have ig:bQ g.x∧bQ g.y:=by unfold Gp.ok fS at jG;unfold bQ;omega
   have gtk:(gs.take (k+1)).map Gp.pt=(gs.take k).map Gp.pt++[g.pt]:=by rw [nk g0 gs k cW,jK];simp
   clear jK jG;replace gtk:=Hd gtk
   go_wp2_with (with_reducible first|refine iH underlying25 sizeOf29 yu hc fun bq oq bO=>?_|refine j9 hS isAgg29 sizeOf29 ?_|refine bH hS zeroValue29 fun b9 xX hS=>?_|refine aJ (u:=.agg #[_,_]) 4 hS sizeOf29 fun _ hS=>?_)
   clear yu hc;refine dB [.p 0,.r 1,.r 2,.e 3,.e 4,.m 5,.p 6,.m 7] [5,7] hS fun w1 hS=>?_
   obtain⟨aI,aT⟩:=hS.jw
   repeat (with_reducible first|refine cZ 2 isAgg31 ?_|refine cz 4 isAgg29 sizeOf29 ?_|refine bU ?_)
   refine aZ ?_
   go_wp2_with (fail)
   refine (o6 g.x g.y _ S0 ig.1 ig.2 (aP.at hS aC)).mono ?_;rintro e w' ⟨z,S1,rfl,hq,hz⟩;simp only [];go_step;have hn:=(hn.at hS aC).grow hq;have ps:=(ps.at hS aC).grow hq;have aT:=aA.fC hS hq.below aI aT;replace hS:=hS.aj aC bC bD hq;obtain⟨F1,aG,gp,bB,av,hS⟩:=hS;have aI:=dZ.trans aI gp;refine aX (aA.gA hS.sb aI aT) ?_;refine aM ?_;refine aZ ?_
   ((with_reducible refine dV (T:=31) ?_);refine fZ (T:=31) (v:=.agg #[.bool _,.slice _ _ _,.bool _,.slice _ _ _,.bool _,.slice _ _ _,.bool _,.slice _ _ _]) hS underlying31 sizeOf56 zeroValue56 rfl rfl rfl (by decide) (by decide) rfl (fun bl fX hS=>?_);simp only [aD];simp only [Value.cells] at hS)
   refine aX (aA.gA hS.sb aI aT) ?_;refine aM ?_;refine dC ?_
   ((with_reducible refine eG ?_);refine fw (t:=31) 3 hS underlying31 a2B rfl (by decide) rfl rfl rfl rfl (pc1 z) (by omega) (by unfold maxLen;omega) (fun dU gL _ hS=>?_);simp only [aD];simp only [aK] at hS)
   refine dD ?_;refine aM ?_;refine dC ?_
   (with_reducible refine aJ (u:=.slice _ _ _) 2 hS sizeOf31 fun _ hS=>?_)
   refine dD ?_;refine aM ?_;refine bE ?_;have a5d:=ps.snoc hz;have dp:(prs++[z]).flatMap pc=prs.flatMap pc++pc z:=by simp
   replace dp:=Hd dp;replace a5d:=Hd a5d;go_wp2;go_roundw
   case rel=>exact⟨k+1,F1,S1,_,dU,gL,prs++[z],by omega,rfl,by rw [dp.out];exact hS.sb,aG,av,bB,hn,by rw [gtk.out];exact a5d.out⟩
   case measure=>simp [intOf];omega
  ·obtain rfl:k=gs.length:=by omega
   rw [List.take_length] at ps;replace ps:=Hd ps;have lS:gs.length≤4096:=by omega
   go_wp2_with (first|((with_reducible refine r7 (T:=143) ?_);refine aML (n:=os.length) (T:=143) (E:=31) hS underlying143 aRj rfl rfl (by omega) (by omega) (fun bp wbp hS=>?_);simp only [aD];simp only [aK] at hS))
   go_loopw [59] (fun v wr=>∃ (F S':Nat→Prop) (wq:World) (ad:Option Addr) (m c:Nat) (prs:List PR) (pp:List (List Pt)) (vs:List Value),v=.int .i64 (pp.length:Int)∧aA w wr [.aH F wq,.aB b4 (.cells #[.slice none 0 0,.slice none 0 0,.slice none 0 0,.slice none 0 0] 34 (0,0)),.aB b7 (.cells #[.slice lY os.length cs,.slice jo gs.length ct,.slice ad m c,.slice none 0 0] 34 (0,0)),.row (.slice ad m c) 56 8 m (prs.flatMap pc),.aB bp (.cells vs.toArray 31 (0,0))]∧(∀ k,S' k→F k)∧(∀ k,Old w k→F k)∧Pure w S wq S'∧NB wq S' os gs ao co ap cp lY cs jo ct∧ez wq S' prs (gs.map Gp.pt++pp.flatten)∧pV wq S' os gs vs pp∧m≤gs.length+pp.length*(2+2*os.length+gs.length)) (fun v _=>os.length - (intOf v).toNat)
   case atStart=>exact⟨F0,S0,_,_,_,_,_,[],List.replicate os.length a7w,rfl,hS,aC,bC,bD,hn,by simpa using ps.out,pV.start _ _ _ _,by simp⟩
   case round =>
    clear hS aC bC bD hn ps;obtain⟨F0,S0,wq,ad,m,c,prs,pp,vs,rfl,hS,aC,bC,bD,hn,ps,pu,hm⟩:=hrel;have jP:=pu.pl
    have hmX:m≤gs.length+os.length*(2+2*os.length+gs.length):=by
     have h1:pp.length*(2+2*os.length+gs.length)≤os.length*(2+2*os.length+gs.length):=Nat.mul_le_mul_right _ jP;omega
    have hmb:m≤65536:=by have:=hB.out;omega
    replace hmX:=Hd hmX
    by_cases cW:pp.length<os.length
    ·replace hm:=Hd hm
     obtain⟨k,hk⟩:∃ k,pp.length=k:=⟨_,rfl⟩;obtain⟨t,ht⟩:∃ t,nth s0 os k=t:=⟨_,rfl⟩;have pI:=cJ t (by rw [← ht];exact cQ s0 os k (by omega));have hc:=eS tc s0 (show k<os.length by omega);rw [ht] at hc;have dS:=hn.v.weaken aC;rw [hk];obtain⟨a1,c1,e1⟩:∃ a1 c1,sG ao co 0 k 4=.slice a1 k c1:=⟨_,_,rfl⟩;obtain⟨a2,c2,e2⟩:∃ a2 c2,sG ao co (k+1) os.length 4=.slice a2 (os.length - (k+1)) c2:=⟨_,_,rfl⟩
     have aXb:os.length≤co:=by
      obtain⟨_,a,cap,h2,h3,_⟩:=hn.v;simp only [Value.slice.injEq] at h2;omega
     have nT:IntKind.i64.wrap ((k:Int)+1)=((k+1:Nat):Int):=Go.Hp.w7;have n1:=hn.v.sub (j:=0) (m:=k) (by omega) (by omega);have n2:=hn.v.sub (j:=k+1) (m:=os.length) (by omega) (by omega);rw [e1] at n1;rw [e2] at n2;rw [a29 tc,Nat.zero_mul,List.drop_zero] at n1;rw [a29 tc,List.take_length,a8P tc] at n2;have n1:bN wq S0 4 (.slice a1 k c1) (os.take k).length ((os.take k).flatMap sc):=by rw [List.length_take,Nat.min_eq_left (by omega)];exact n1
     have n2:bN wq S0 4 (.slice a2 (os.length - (k+1)) c2) (os.drop (k+1)).length ((os.drop (k+1)).flatMap sc):=by rw [List.length_drop];exact n2
     have cD:=aF9 (show k<os.length by omega);have hko:k<os.length:=by omega
     replace cD:=Hd cD;replace e1:=Hd e1;replace e2:=Hd e2;replace ht:=Hd ht;replace hk:=Hd hk
     go_wp2_with (with_reducible first|refine iH underlying23 sizeOf95 dS hc fun bq oq bO=>?_|refine j9 hS isAgg95 sizeOf95 ?_|refine bH hS zeroValue95 fun qH a1h hS=>?_|refine aJ (u:=.agg #[_,_,_,_]) 5 hS sizeOf95 fun _ hS=>?_)
     clear dS hc;refine dB [.p 0,.p 1,.p 2,.p 3,.p 4,.p 5,.p 6,.e 7,.e 8,.p 9] [] hS fun w1 hS=>?_
     obtain⟨aI,aT⟩:=hS.jw
     repeat (first|((with_reducible refine kM ?_);refine j3 rfl rfl (aGn (T:=23) (m:=k) underlying23 sizeOf95 rfl rfl rfl (by omega) e1.out ?_);simp only [aD])|((with_reducible refine kM ?_);refine j3 rfl rfl (aMr (T:=23) (j:=k+1) underlying23 sizeOf95 rfl rfl rfl (by omega) e2.out ?_);simp only [aD])|(with_reducible refine bU ?_))
     refine aZ ?_
     ((with_reducible refine dV (T:=192) ?_);refine nc (k:=1) (z:=.slice none 0 0) (len:=2) hS underlying192 sizeOf23 zeroValue23 (by decide) (by decide) (aJm _ _ _ _ _ _) (fun b71 aXs hS=>?_);simp only [aD];simp only [aK] at hS)
     refine aX (aA.gA hS.sb aI aT) ?_;refine aM ?_;refine aZ ?_
     go_wp2_with (fail)
     refine (aNO b71 a1 a2 k c1 (os.length - (k+1)) c2 (os.take k) (os.drop (k+1)) _ S0 (aP.at hS aC) (bN.ve (k:=1) (n:=2) hS (bW (i:=6) rfl) rfl (by decide)) (Chunk.lt (hS.ok _ (bW (i:=6) rfl)) (c:=.aB b71 _) rfl) (n1.at hS aC) (n2.at hS aC) (by rw [List.length_take];omega) (by rw [List.length_drop];omega)).mono ?_;rintro e w5 ⟨ad5,c5,S5,rfl,hq,hot⟩;rw [show (os.take k++os.drop (k+1)).length=os.length - 1 from cD.out] at hot ⊢;clear n1 n2;have hn:=(hn.at hS aC).grow hq;have ps:=(ps.at hS aC).grow hq;have pu:=(pu.at hS aC).grow hq;have aT:=aA.fC hS hq.below aI aT;replace hS:=hS.aj aC bC bD hq;obtain⟨F1,aG,gp,bB,av,hS⟩:=hS;have aI:=dZ.trans aI gp;simp only [];go_step;refine aX (aA.gA hS.sb aI aT) ?_;refine aM ?_;refine bE ?_;have hot:bN w5 S5 4 (.slice ad5 (os.length - 1) c5) (pP os k).length ((pP os k).flatMap sc):=by rw [cD.out];exact hot
     have td:∀ t ∈ pP os k,t.ok:=fun t h=>cJ t (aMK h)
     have aSp:(pP os k).length≤600:=by have:=cD.out;omega
     clear e1 e2 aI aT
     go_wp2_with (with_reducible refine bA 5 hS isAgg95 sizeOf95 ?_)
     refine (aNu t (pP os k) gs ad5 ap (os.length - 1) c5 gs.length cp _ S5 (aP.at hS aG) pI td qm (hot.at hS aG) (hn.g.at hS aG) aSp (by omega)).mono ?_;rintro e w6 ⟨ad6,n6,c6,xZ,l,S6,rfl,hq,sK,hpa⟩;have hn:=(hn.at hS aG).grow hq;have ps:=(ps.at hS aG).grow hq;have pu:=(pu.at hS aG).grow hq;replace hS:=hS.aj aG av bB hq;obtain⟨F2,aQ,-,bR,bP,hS⟩:=hS;obtain rfl:n6=l.length:=by obtain⟨h1,a,cap,h2,_⟩:=sK.sl;cases h2;rfl
     have eJ:=hpa.two pI.2.2;have uJ:=sK.ps.len;have aYo:=hpa.len;have oF:l.length≤4096:=by have:=cD.out;omega
     have eo:decide ((l.length:Int)<2)=false:=by simp;omega
     have mM:IntKind.i64.wrap ((l.length:Int) - 1)=((l.length - 1:Nat):Int):=Go.Hp.w7;have c0:((xZ.flatMap pc).drop ((0:Int).toNat*8)).take 8=pc (nth p0 xZ 0):=eS gF p0 (by omega);have c9:=eS gF p0 (show l.length - 1<xZ.length by omega);have i0:=sK.ps.el 0 (by omega);have i9:=sK.ps.el (l.length - 1) (by omega)
     have aW:(nth au l 0).lt (nth au l (l.length - 1)):=by
      rw [bS au l 0 (by omega),bS au l (l.length - 1) (by omega)];exact List.pairwise_iff_getElem.1 hpa.sorted 0 (l.length - 1) (by omega) (by omega) (by omega)
     have fg:mW (nth au l 0) (nth au l (l.length - 1)) = -1:=by
      have h1:=a3s.2 aW;have h2:=aP9 (nth au l 0) (nth au l (l.length - 1));omega
     obtain⟨m0,f0⟩:∃ m0,nth p0 xZ 0=m0:=⟨_,rfl⟩;obtain⟨m9,f9⟩:∃ m9,nth p0 xZ (l.length - 1)=m9:=⟨_,rfl⟩;obtain⟨y0,g0'⟩:∃ y0,nth au l 0=y0:=⟨_,rfl⟩;obtain⟨y9,g9⟩:∃ y9,nth au l (l.length - 1)=y9:=⟨_,rfl⟩;rw [f0] at c0 i0;rw [f9] at c9 i9;rw [g0'] at i0 fg;rw [g9] at i9 fg;clear f0 f9 g0' g9 aW hot td;have dg:=sK.sl.weaken aQ;replace fg:=Hd fg;have lP:=pu.vl;go_wp2;refine dB [.p 0,.p 1,.r 2,.p 3,.p 4,.p 5,.p 6,.p 7,.r 8,.e 9,.p 10] [] hS fun w1 hS=>?_
     have hC:=hS
     repeat (first|((with_reducible refine kM ?_);refine j3 rfl rfl (lI (T:=31) underlying31 sizeOf56 rfl rfl dg (by omega) (by omega) (by omega) (fun bq oq bO=>?_));rw [c0] at bO;simp only [aD])|(with_reducible first|refine e9 underlying31 sizeOf56 dg c9 fun bq oq bO=>?_|refine qE isAgg56 sizeOf56 ?_|refine bU ?_))
     refine aZ ?_
     go_wp2_with (fail)
     refine (a3H m0 m9 y0 y9 _ S6 (i0.at hS aQ) (i9.at hS aQ) (aP.at hS aQ)).mono ?_;rintro e w' ⟨rfl,hq⟩;simp only [];go_step;rw [fg.out];clear i0 i9 c0 c9 fg;have hS:=hS.below hq.below hq.drawn;have hC:=hC.below hq.below hq.drawn;clear hq;refine aX hC ?_;refine aM ?_;refine bE ?_;clear hC;have hkv:k<vs.length:=by omega
     go_wp2_with (first|(with_reducible refine kW underlying143 sizeOf31 ?_)|((with_reducible refine gK (T:=31) ?_);refine aSq (T:=31) (k:=k) 4 hS rfl rfl rfl sizeOf31 rfl rfl hkv (fun _ hS=>?_);simp only [aD];simp only [aK] at hS)|(with_reducible refine aU 2 hS isAgg31 ?_)|((with_reducible refine eG ?_);refine uA (t:=31) 3 hS underlying31 a2B rfl (by decide) rfl rfl rfl dg (by simp) (a9V xZ) (by omega) (by unfold maxLen;omega) (fun ad7 c7 _ hS=>?_);simp only [aD];simp only [aK] at hS)|(with_reducible refine aJ (u:=.slice _ _ _) 2 hS sizeOf31 fun _ hS=>?_))
     have a5d:=ps.append sK.ps;have dp:(prs++xZ).flatMap pc=prs.flatMap pc++xZ.flatMap pc:=List.flatMap_append;have iE:=hk.out;subst iE;have db:=pu.step cW sK (by rw [ht.out];exact hpa)
     have pj:m+l.length≤gs.length+(pp.length+1)*(2+2*os.length+gs.length):=by
      have h1:=hm.out;have h2:=cD.out;rw [Nat.add_mul,Nat.one_mul];omega
     have a1V:gs.map Gp.pt++(pp++[l]).flatten=(gs.map Gp.pt++pp.flatten)++l:=by simp
     replace dp:=Hd dp;replace a1V:=Hd a1V;replace pj:=Hd pj;go_wp2;go_roundw
     case rel=>exact⟨F2,S6,_,ad7,m+l.length,c7,prs++xZ,pp++[l],vs.set pp.length (.slice ad6 l.length c6),by simp,by rw [dp.out];exact hS.sb,aQ,bP,bR,hn,by rw [a1V.out];exact a5d,db,by simpa using pj.out⟩
     case measure=>simp [intOf];omega
    ·have iS:pp.length=os.length:=by omega
     rw [iS];replace iS:=Hd iS;clear hm
     go_wp2_with (with_reducible refine aU 2 hS isAgg31 ?_)
     have hj:([.aB b4 (.cells #[.slice none 0 0,.slice none 0 0,.slice none 0 0,.slice none 0 0] 34 (0,0)),.aB b7 (.cells #[.slice lY os.length cs,.slice jo gs.length ct,.slice ad m c,.slice none 0 0] 34 (0,0)),.row (.slice ad m c) 56 8 m (prs.flatMap pc),.aB bp (.cells vs.toArray 31 (0,0))]:List Chunk)[2]? = some (.row (.slice ad m c) 56 8 m (prs.flatMap pc)):=rfl;refine (aRE 2 hS aC ps hj (by omega)).mono ?_;rintro e w7 ⟨rfl,aXp,l7,hS7,ps7,mT,hs7⟩;clear hS ps hj;have hS:=hS7;clear hS7;simp only [aK] at hS;simp only [];replace mT:=Hd mT
     go_wp2_with (with_reducible refine aU 2 hS isAgg31 ?_)
     have hS:=hS.order [0,1,2,4,3] rfl;simp only [iw] at hS;refine (aWA (A:=[_,_,_]) hS aC ps7 hs7 (by omega)).mono ?_;rintro e w8 ⟨N,a3I,V,rfl,hS8,ps8,yI,hmV,hNm⟩;clear hS ps7 hs7;have hS:=hS8;clear hS8;simp only [aK] at hS
     have kp:N=V.length:=by
      have:=(hS.dn 4 rfl).1;rw [nB gF,ps8.len] at this;omega
     subst kp
     have hVm:∀ x,x ∈ V↔x ∈ gs.map Gp.pt∨∃ l ∈ pp,x ∈ l:=by
      intro x;rw [hmV x,mT.out.mem_iff,List.mem_append,List.mem_flatten]
     have hV4:V.length≤4096:=by
      rcases hVB.out with h|h
      ·have:=hmX.out;omega
      ·exact h V yI (fun x hx=>aPt cJ iS.out pu.ok ((hVm x).1 hx))
     have eo:decide ((4096:Int)<(V.length:Int))=false:=by simp;omega
     clear hmV mT;replace hVm:=Hd hVm;replace yI:=Hd yI;simp only []
     go_wp2_with (first|(with_reducible first|refine aJ (u:=.slice _ _ _) 2 hS sizeOf31 fun _ hS=>?_|refine aU 2 hS isAgg31 ?_)|((with_reducible refine a16 (T:=152) ?_);refine a3L hS (fun bo wbo hS=>?_);simp only [aD];simp only [aK] at hS)|((with_reducible refine a16 (T:=153) ?_);refine a3L hS (fun bd wbd hS=>?_);simp only [aD];simp only [aK] at hS))
     have hS:=hS.order [0,1,2,3,5,6,4] rfl;simp only [iw] at hS;obtain⟨S9,a3R⟩:∃ S9:Nat→Prop,S9=fun k=>S0 k∨∃ c' ∈ [Chunk.row (.slice ad V.length c) 56 8 V.length (a3I.flatMap pc)],c'.has k:=⟨_,rfl⟩
     obtain⟨F9,a7h⟩:∃ F9:Nat→Prop,F9=fun k=>F0 k∨∃ c' ∈ [Chunk.row (.slice ad V.length c) 56 8 V.length (a3I.flatMap pc)],c'.has k:=⟨_,rfl⟩
     have hp9:=aA.aEE (L:=[_,_,_,_,_]) (R:=[_]) hS bC aC bD;have hS9:=aA.aE1 [_,_,_,_,_] [_] hS;rw [← a3R] at hp9;rw [← a7h] at hS9
     have jO:∀ k,S9 k→F9 k:=fun k h=>by
      rw [a3R] at h;rw [a7h]
      rcases h with h|h
      ·exact .inl (aC k h)
      ·exact .inr h
     have xF:∀ k,Old w k→F9 k:=fun k h=>by rw [a7h];exact .inl (bC k h)
     have a73:∀ k,S0 k→S9 k:=fun k h=>by rw [a3R];exact .inl h
     have hV:PL _ S9 (.slice ad V.length c) a3I V:=⟨(hS.dn 6 rfl).weaken (fun k h=>by rw [a3R];exact .inr ⟨_,by simp,h⟩),(ps8.at hS aC).weaken a73⟩;have hn9:=(hn.at hS aC).weaken a73;have pu9:=(pu.at hS aC).weaken a73;clear hS hn pu ps8 bD aC bC a3R a7h a73 hNm hmb lS;have hS:=hS9;clear hS9;have gO:V.length≤4096:=by simp at eo;omega
     clear eo;go_wp2;have hS:aA w _ (.aH F9 _::.aB b4 (.cells #[.slice none 0 0,.slice none 0 0,.slice none 0 0,.slice none 0 0] 34 (0,0))::.aB b7 (.cells #[.slice lY os.length cs,.slice jo gs.length ct,.slice ad V.length c,.slice none 0 0] 34 (0,0))::.aB bp (.cells vs.toArray 31 (0,0))::.aB bo (.map #[] 0)::.aB bd (.map #[] 0)::([]:List bK).map (bK.ch 3)):=hS;have aLc:=pu9.vl;try simp only [fA]
     go_loopw [128] (fun v wr=>∃ (i:Nat) (tr:List Step) (R:List bK) (D:List ((Nat × Nat) × Gp)) (oo od:Obj),i≤os.length∧v=.int .i64 (i:Int)∧aA w wr (.aH F9 wbd::.aB b4 (.cells #[.slice none 0 0,.slice none 0 0,.slice none 0 0,.slice none 0 0] 34 (0,0))::.aB b7 (.cells #[.slice lY os.length cs,.slice jo gs.length ct,.slice ad V.length c,.slice none 0 0] 34 (0,0))::.aB bp (.cells vs.toArray 31 (0,0))::.aB bo oo::.aB bd od::R.map (bK.ch 3))∧gj pk sv oo (R.map bK.s)∧gj pk gvv od D∧uq tr (R.map bK.g)∧xb (fun i=>fN (nth s0 os i)) tr D∧rC V pp i 1 tr∧tr.length≤i*4096) (fun v _=>os.length - (intOf v).toNat)
     case atStart=>exact⟨0,[],[],[],_,_,by omega,rfl,hS,gj.empty _ _,gj.empty _ _,uq.nil,xb.nil _,rC.nil V pp,by simp⟩
     case round =>
      clear hS;obtain⟨i,tr,R,D,oo,od,hi,rfl,hS,jr,xA,hG,hD,hT,tj⟩:=hrel
      by_cases dj:i<os.length
      ·have hip:i<pp.length:=by have:=iS.out;omega
       obtain⟨adl,nl,cl,prl,aIE,uQ⟩:=pu9.el i hip;have hval:vs.toArray[i]? = some (.slice adl nl cl):=by rw [← aIE,bS a7w vs i (by omega)];simp [aLc,dj]
       have bG:=pu9.ok i hip;obtain⟨l,hl⟩:∃ l,nth [] pp i=l:=⟨_,rfl⟩;have a5D:pp[i]? = some l:=by rw [← hl,bS [] pp i hip];exact List.getElem?_eq_getElem hip
       rw [hl] at uQ bG;obtain rfl:nl=l.length:=by obtain⟨h1,a,cap,h2,_⟩:=uQ.sl;cases h2;rfl
       have hlV:∀ x ∈ l,x ∈ V:=fun x hx=>(hVm.out x).2 (.inr ⟨l,bW a5D,hx⟩)
       obtain⟨t,ht⟩:∃ t,nth s0 os i=t:=⟨_,rfl⟩;have pI:=cJ t (by rw [← ht];exact cQ s0 os i dj);have hcs:=eS tc s0 dj;rw [ht] at bG hcs;have eJ:=bG.two pI.2.2
       have oF:l.length≤4096:=by
        have h0:=bG.len;have h3:=aF9 dj;omega
       have uJ:=uQ.ps.len;have fq:=bG.sorted;have dS:=hn9.v.weaken jO;have dg:=uQ.sl.weaken jO;replace fq:=Hd fq;replace hlV:=Hd hlV;replace ht:=Hd ht;replace a5D:=Hd a5D;clear bG hl aIE hip
       go_wp2_with (first|(with_reducible refine kW underlying143 sizeOf31 ?_)|((with_reducible refine dq (T:=31) ?_);refine dI hS rfl (zD (T:=31) 3 isAgg31 rfl rfl hval ?_);simp only [aD]))
       clear hval
       try try simp only [fA]
       go_loopw [20] (fun v wr=>∃ (k:Nat) (tr:List Step) (R:List bK) (D:List ((Nat × Nat) × Gp)) (oo od:Obj),1≤k∧k≤l.length∧v=.int .i64 (k:Int)∧aA w wr (.aH F9 wbd::.aB b4 (.cells #[.slice none 0 0,.slice none 0 0,.slice none 0 0,.slice none 0 0] 34 (0,0))::.aB b7 (.cells #[.slice lY os.length cs,.slice jo gs.length ct,.slice ad V.length c,.slice none 0 0] 34 (0,0))::.aB bp (.cells vs.toArray 31 (0,0))::.aB bo oo::.aB bd od::R.map (bK.ch 3))∧gj pk sv oo (R.map bK.s)∧gj pk gvv od D∧uq tr (R.map bK.g)∧xb (fun i=>fN (nth s0 os i)) tr D∧rC V pp i k tr∧tr.length≤i*4096+k) (fun v _=>l.length - (intOf v).toNat)
       case atStart=>exact⟨1,tr,R,D,oo,od,by omega,by omega,rfl,hS,jr,xA,hG,hD,hT,by omega⟩
       case round =>
        clear hS jr xA hG hD hT tj;obtain⟨k,tr,R,D,oo,od,fm,hkn,rfl,hS,jr,xA,hG,hD,hT,tj⟩:=hrel
        by_cases cW:k<l.length
        ·obtain⟨q,hqk⟩:∃ q,q+1=k:=⟨k - 1,by omega⟩
         have nT:IntKind.i64.wrap ((k:Int) - 1)=(q:Int):=Go.Hp.w7;have c1:=eS gF p0 (show q<prl.length by omega);have c2:=eS gF p0 (show k<prl.length by omega);have i1:=uQ.ps.el q (by omega);have i2:=uQ.ps.el k (by omega);obtain⟨m1,f1⟩:∃ m1,nth p0 prl q=m1:=⟨_,rfl⟩;obtain⟨m2,f2⟩:∃ m2,nth p0 prl k=m2:=⟨_,rfl⟩;obtain⟨y1,g1⟩:∃ y1,nth au l q=y1:=⟨_,rfl⟩;obtain⟨y2,g2⟩:∃ y2,nth au l k=y2:=⟨_,rfl⟩;have wE:l[q]? = some y1:=by rw [← g1,bS au l q (by omega)];exact List.getElem?_eq_getElem _
         have tT:l[q+1]? = some y2:=by rw [hqk,← g2,bS au l k cW];exact List.getElem?_eq_getElem _
         rw [f1] at c1 i1;rw [f2] at c2 i2;rw [g1] at i1;rw [g2] at i2;clear f1 f2 g1 g2;have aT5:=hlV.out y1 (bW wE);have aNx:=hlV.out y2 (bW tT);replace wE:=Hd wE;replace tT:=Hd tT;have aWP:q<l.length:=by omega
         replace hqk:=Hd hqk;go_wp2;refine dB [.p 0,.r 1,.p 2,.p 3,.p 4,.p 5,.r 6,.e 7,.p 8,.p 9,.p 10,.p 11,.p 12] [] hS fun w1 hS=>?_
         have hC:=hS
         repeat (with_reducible first|refine cZ 2 isAgg31 ?_|refine e9 underlying31 sizeOf56 dg c1 fun bq oq bO=>?_|refine qE isAgg56 sizeOf56 ?_|refine bU ?_)
         refine aZ ?_
         go_wp2_with (fail)
         refine (aCo ad V.length c a3I V m1 y1 _ S9 (hV.at hS jO) (i1.at hS jO) (aP.at hS jO) yI.out (by omega)).mono ?_;rintro e w' ⟨⟨u,hu,rfl⟩,hq⟩;simp only [];go_step;have hu:=hu.at yI.out aT5;obtain⟨d1,eo⟩:∃ d1,decide (u<V.length∧nth au V u=y1)=d1:=⟨_,rfl⟩;rw [eo];clear eo c1 i1;replace hu:=Hd hu;have hS:=hS.below hq.below hq.drawn;have hC:=hC.below hq.below hq.drawn;clear hq;refine aX hC ?_;refine aM ?_;refine bE ?_;clear hC;go_wp2;refine dB [.p 0,.r 1,.p 2,.p 3,.p 4,.r 5,.e 6,.p 7,.p 8,.p 9,.p 10,.p 11] [] hS fun w1 hS=>?_
         have hC:=hS
         repeat (with_reducible first|refine cZ 2 isAgg31 ?_|refine e9 underlying31 sizeOf56 dg c2 fun bq oq bO=>?_|refine qE isAgg56 sizeOf56 ?_|refine bU ?_)
         refine aZ ?_
         go_wp2_with (fail)
         refine (aCo ad V.length c a3I V m2 y2 _ S9 (hV.at hS jO) (i2.at hS jO) (aP.at hS jO) yI.out (by omega)).mono ?_;rintro e w' ⟨⟨v,hv,rfl⟩,hq⟩;simp only [];go_step;have hv:=hv.at yI.out aNx;obtain⟨d2,fH⟩:∃ d2,decide (v<V.length∧nth au V v=y2)=d2:=⟨_,rfl⟩;rw [fH];clear fH c2 i2;replace hv:=Hd hv;have hS:=hS.below hq.below hq.drawn;have hC:=hC.below hq.below hq.drawn;clear hq;refine aX hC ?_;refine aM ?_;refine bE ?_;clear hC;obtain⟨R1,r,R2,dw,hSr⟩:=aRH (L:=[_,_,_,_,_,_]) hS hG.nd (u,v);simp only [aK] at hSr;clear hS;have hS:=hSr;clear hSr
         have sz:r.n≤100000000:=by
          have h1:=(hS.dn (6+R1.length) (v:=.slice r.ad r.n r.c) (n:=r.n) (cs:=iv (zs r.is)) (Tb:=3) (k:=1) (by
           rw [show 6+R1.length=R1.length+6 by omega];simp only [List.getElem?_cons_succ];rw [List.map_append,List.map_cons,List.getElem?_append_right (by simp)];simp [bK.ch])).1
          rw [tK,vC,← dw.aJM,hG.bj,List.length_map] at h1;have h2:=List.length_filter_le (fun t:Step=>decide (t.2=(u,v))) tr;have h3:i*4096≤512*4096:=Nat.mul_le_mul_right _ (by omega);omega
         have a4H:=fun ad c=>dw.step (ad:=ad) (c:=c) (i:=i)
         have kJ:=dw.get;replace kJ:=Hd kJ;replace dw:=Hd dw;replace a4H:=Hd a4H;replace tj:=Hd tj
         go_wp2_with (first|((with_reducible refine bH hS zeroValue84 fun b25 aXX hS=>?_);have hS:=aA.aAU [_,_,_,_,_,_] _ _ hS;simp only [aK] at hS)|(with_reducible first|refine aJ (u:=.agg #[_,_]) 6 hS sizeOf84 fun _ hS=>?_|refine bA 6 hS isAgg84 sizeOf84 ?_)|((with_reducible refine dV (T:=22) ?_);refine fZ (T:=22) (v:=.int .i64 _) hS underlying22 sizeOf3 zeroValue3 rfl rfl rfl (by decide) (by decide) rfl (fun bl fX hS=>?_);simp only [aD];simp only [Value.cells] at hS)|((with_reducible refine aOg (T:=152) ?_);refine aOD (ev:=sv) (k:=(u,v)) (z:=(none,0,0)) 4 hS underlying152 zeroValue22 aD2 rfl rfl rfl jr rfl (fun oe we st hme cA hS=>?_);rw [kJ.out];simp only [aD];simp only [aK] at hS;simp only [sv])|((with_reducible refine eG ?_);refine aHT (L:=[_,_,_,_,_,_,_]) (R1:=R1) (R2:=R2) (r:=r) (i:=i) hS underlying22 tQ rfl rfl rfl sz (fun ad9 c9 _ hS=>?_);simp only [aD];simp only [aK] at hS)|((with_reducible refine aPH (T:=152) ?_);refine aQd (ev:=sv) (v:=(ad9,r.n+1,c9)) 4 hS (fun _ _=>aTK) rfl rfl rfl rfl hme cA rfl (fun ou wu hmu hS=>?_);simp only [aD];simp only [aK] at hS))
         refine dB [.p 0,.r 1,.p 2,.p 3,.p 4,.r 5,.e 6,.m 7] [7] hS fun w1 hS=>?_
         have hC:=hS
         repeat (with_reducible first|refine cz 6 isAgg84 sizeOf84 ?_|refine e9 underlying23 sizeOf95 dS hcs fun bq oq bO=>?_|refine qE isAgg95 sizeOf95 ?_|refine bU ?_)
         refine aZ ?_
         go_wp2_with (fail)
         refine (aUu t _ pI).mono ?_;rintro e w' ⟨rfl,hq⟩;simp only [];go_step;have hS:=hS.below hq.below hq.drawn;have hC:=hC.below hq.below hq.drawn;clear hq;refine aX hC ?_;refine aM ?_;refine dC ?_
         ((with_reducible refine a3x (T:=153) ?_);refine a1Z (ev:=gvv) (k:=(u,v)) (v:=fN t) 5 hS underlying153 aD2 rfl rfl rfl rfl xA rfl (fun ou2 wu2 aR5 hS=>?_);simp only [aD];simp only [aK] at hS)
         refine dD ?_;refine bE ?_;clear hC;have aIf:=hmu;rw [(a4H.out ad9 c9).1] at aIf;have pW:=hG.step i (u,v);rw [(a4H.out ad9 c9).2] at pW;have hD2:=hD.step i (u,v);simp only [ht.out] at hD2;have aOG:=hqk.out;have hT2:rC V pp i (q+2) (tr++[(i,(u,v))]):=rC.step yI.out (by rw [aOG];exact hT) a5D.out fq.out wE.out tT.out hu.out hv.out;rw [show q+2=k+1 by omega] at hT2;have aC4:(tr++[(i,(u,v))]).length≤i*4096+(k+1):=by rw [List.length_append,List.length_singleton];have:=tj.out;omega
         clear jr xA hG hD hT hme hmu cA dw a4H kJ;replace aC4:=Hd aC4;go_wp2;go_roundw
         case rel=>exact⟨k+1,_,_,_,_,_,by omega,by omega,by simp,hS.sb,aIf,aR5,pW,hD2,hT2,aC4.out⟩
         case measure=>simp [intOf];omega
        ·obtain rfl:k=l.length:=by omega
         have hT2:=hT.next a5D.out (Nat.le_refl _);go_wp2;go_roundw
         case rel=>exact⟨i+1,tr,R,D,oo,od,by omega,by simp,hS,jr,xA,hG,hD,hT2,by omega⟩
         case measure=>simp [intOf];omega
      ·obtain rfl:i=os.length:=by omega
       have hRb:∀ r ∈ R,∀ x ∈ r.is,x≤9223372036854775807:=by
        intro r hr x hx;rw [hG.val r.k r.is (List.mem_map.2 ⟨r,hr,rfl⟩),List.mem_map] at hx;obtain⟨⟨j,y⟩,ht,rfl⟩:=hx;obtain⟨q,hq,_⟩:=(hT.mem j y.1 y.2).1 (List.mem_filter.1 ht).1;simp only;omega
       have sa:R.length≤3000000:=by
        have h1:(R.map bK.g).map (·.1) ⊆ tr.map (·.2):=fun k hk=>by
         obtain⟨t,ht,e⟩:=(hG.key k).1 hk;exact List.mem_map.2 ⟨t,ht,e⟩
        have h2:=hG.nd.length_le_of_subset h1;simp only [List.length_map] at h2;have h3:os.length*4096≤512*4096:=Nat.mul_le_mul_right _ dg;omega
       obtain⟨S10,a4U⟩:∃ S10:Nat→Prop,S10=fun k=>S9 k∨∃ c' ∈ R.map (bK.ch 3),c'.has k:=⟨_,rfl⟩
       obtain⟨wD,aA1⟩:∃ wD:Nat→Prop,wD=fun k=>F9 k∨∃ c' ∈ R.map (bK.ch 3),c'.has k:=⟨_,rfl⟩
       have a2H:=aA.aEE (L:=[_,_,_,_,_]) (R:=R.map (bK.ch 3)) hS xF jO hp9;have a0P:=aA.aE1 [_,_,_,_,_] (R.map (bK.ch 3)) hS;rw [← a4U] at a2H;rw [← aA1] at a0P
       have mU:∀ k,S10 k→wD k:=fun k h=>by
        rw [a4U] at h;rw [aA1]
        rcases h with h|h
        ·exact .inl (jO k h)
        ·exact .inr h
       have a3U:∀ k,Old w k→wD k:=fun k h=>by rw [aA1];exact .inl (xF k h)
       have aFe:∀ k,S9 k→S10 k:=fun k h=>by rw [a4U];exact .inl h
       have aHY:∀ r ∈ R,jZ wr S10 (.slice r.ad r.n r.c) r.is:=fun r hr=>(aPs (L:=[_,_,_,_,_,_]) hS hr (hRb r hr)).weaken fun k h=>by rw [a4U];exact .inr h
       have aUX:=(hV.at hS jO).weaken aFe;have aF1:=(hn9.at hS jO).weaken aFe;have vT:=fun es dW hso=>eu.aMZ (es:=es) cJ iS.out pu9.ok yI.out hVm.out hT hG hD dW hso
       obtain⟨rO,hrO⟩:∃ rO:(Nat × Nat) × (Option Addr × Nat × Nat)→ER,rO=fun p=>⟨p.1.1,p.1.2,p.2.1,p.2.2.1,p.2.2.2,(eZ D p.1).getD g0⟩:=⟨_,rfl⟩
       have u9:∀ p ∈ R.map bK.s,ta wr S10 (rO p) (vF (R.map bK.g) D p.1):=by
        intro p hp;obtain⟨r,hr,rfl⟩:=List.mem_map.1 hp;rw [hrO];refine⟨rfl,rfl,rfl,?_⟩;have:eZ (R.map bK.g) r.k=some r.is:=a4C hG.nd (List.mem_map.2 ⟨r,hr,rfl⟩);simp only [vF,bK.s,this,Option.getD_some];exact aHY r hr
       have wJ:∀ k,k ∈ (R.map bK.g).map (·.1)↔k ∈ (R.map bK.s).map (·.1):=by
        intro k;rw [List.map_map,List.map_map];exact Iff.rfl
       clear hS hp9 jO xF hV hn9 pu9 aHY hRb a4U aA1 aFe hT hG hD tj hVm aLc iS;have hS:=a0P.iB 101 5;clear a0P;simp only [aK] at hS;replace vT:=Hd vT;replace u9:=Hd u9;replace wJ:=Hd wJ;replace hrO:=Hd hrO
       go_wp2_with (first|((with_reducible refine aFS (T:=152) ?_);refine aKM 4 hS underlying152 rfl rfl (by with_reducible assumption) rfl (fun bi obi wbi nE hS=>?_);simp only [aD];simp only [aK] at hS))
       try try simp only [fA]
       go_loopw [181] (fun _ wx=>∃ (d:List ((Nat × Nat) × (Option Addr × Nat × Nat))) (oi:Obj) (ade:Option Addr) (ce:Nat),pA pk sv bo oo oi (R.map bK.s) d∧aA w wx [.aH wD wr,.aB b4 (.cells #[.slice none 0 0,.slice none 0 0,.slice none 0 0,.slice none 0 0] 34 (0,0)),.aB b7 (.cells #[.slice lY os.length cs,.slice jo gs.length ct,.slice ad V.length c,.slice ade d.length ce] 34 (0,0)),.aB bp (.cells vs.toArray 31 (0,0)),.aB bo oo,.aB bd od,.row (.slice ade d.length ce) 101 5 d.length ((d.map rO).flatMap ec),.aB bi oi]) (fun _ wx=>R.length - a9j wx bi)
       case atStart=>exact⟨[],_,none,0,nE,hS⟩
       case round =>
        clear hS nE;obtain⟨d,oi,ade,ce,nE,hS⟩:=hrel;have dJ:=a7C nE (hS.aB (b:=bi) (o:=oi) (by simp));have mn:=a7X nE;rw [List.length_map] at mn
        repeat ((fail_if_success ((with_reducible refine a8W ?_)));go_step)
        ((with_reducible refine a8W ?_);refine aIi 4 7 hS rfl rfl rfl (by with_reducible assumption) rfl (fun wK=>?_) (fun kk vv oV w' cW hkd qn hS=>?_) <;> (simp only [aD];try simp only [aK] at hS))
        ·go_wp2_with (with_reducible refine aU 2 hS isAgg32 ?_)
         refine (aTn 6 hS rfl (by omega)).mono ?_;rintro e w11 ⟨rfl,zX,hpr,wz,a4Q⟩;clear hS;have hS:=a4Q;clear a4Q;simp only [aK] at hS;replace hpr:=Hd hpr;replace wz:=Hd wz;simp only []
         go_wp2_with (with_reducible first|refine bA 2 hS isAgg34 sizeOf34 ?_|refine aJ (u:=.agg #[.slice _ _ _,.slice _ _ _,.slice _ _ _,.slice _ _ _]) 1 hS sizeOf34 fun _ hS=>?_)
         have hn5:=(hS.dn 6 rfl).1;have qz:=hpr.out;have aXE:d.length=R.length:=by have:=wK.length_eq;simpa using this
         obtain⟨hdn,aX4⟩:=aVZ nE;obtain⟨es,dW,j0,hso⟩:=aU8 wK qz wz.out hdn u9.out wJ.out hrO.out
         have gV:d.length=es.length:=by
          rw [← dW.len,qz.length_eq,List.length_map]
         have bh:=hS.dn 6 rfl;refine jJ 1 hS rfl rfl rfl isAgg34 sizeOf34 rfl rfl ?_;refine⟨(lY,os.length,cs),(jo,gs.length,ct),(ad,V.length,c),(ade,d.length,ce),_,V,es,rfl,hS.a5W a3U mU a2H (bW (i:=5) rfl),⟨(aF1.s.at hS mU).weaken fun k h=>.inl h,(aF1.p.at hS mU).weaken fun k h=>.inl h,⟨a3I,(aUX.at hS mU).weaken fun k h=>.inl h⟩,⟨zX,?_,(dW.at hS mU).weaken fun k h=>.inl h⟩⟩,vT.out es j0 hso⟩;rw [← gV];exact bh.weaken fun k h=>.inr h
        ·go_wp2_with (first|((with_reducible refine aDP ?_);refine dI hS rfl (aFu 4 7 rfl rfl rfl qn ?_);simp only [aD];simp only [pk,sv])|(with_reducible first|refine bH hS zeroValue84 fun b26 aYt hS=>?_|refine aJ (u:=.agg #[_,_]) 8 hS sizeOf84 fun _ hS=>?_))
         refine dB [.p 0,.r 1,.p 2,.r 3,.p 4,.r 5,.p 6,.p 7,.r 8,.r 9,.p 10,.e 11,.m 12,.p 13,.m 14] [12,14] hS fun w1 hS=>?_
         obtain⟨aI,aT⟩:=hS.jw
         repeat (first|(with_reducible first|refine cZ 2 isAgg32 ?_|refine cZ 8 isAgg3 ?_|refine cz 8 isAgg84 sizeOf84 ?_)|((with_reducible refine l8 ?_);refine jh rfl rfl (aEi (ev:=gvv) (k:=kk) (z:=g0) 5 underlying153 zeroValue29 aD2 rfl rfl rfl xA ?_);simp only [aD];simp only [gvv])|(with_reducible refine bU ?_))
         refine aZ ?_
         ((with_reducible refine dV (T:=32) ?_);refine fZ (T:=32) (v:=.agg #[.int .i64 _,.int .i64 _,.slice _ _ _,.int .i64 _,.int .i64 _]) hS underlying32 sizeOf101 zeroValue101 rfl rfl rfl (by decide) (by decide) rfl (fun bl fX hS=>?_);simp only [aD];simp only [Value.cells] at hS)
         refine aX (aA.gA hS.sb aI aT) ?_;refine aM ?_;refine dC ?_
         ((with_reducible refine eG ?_);refine fw (t:=32) 6 hS underlying32 aO9 rfl (by decide) rfl rfl rfl rfl (by simp [Value.oneCell']) (by omega) (by unfold maxLen;omega) (fun dU gL _ hS=>?_);simp only [aD];simp only [aK] at hS)
         refine dD ?_;refine aM ?_;refine dC ?_
         (with_reducible refine aJ (u:=.slice _ _ _) 2 hS sizeOf32 fun _ hS=>?_)
         refine dD ?_;refine aM ?_;refine bE ?_;have dp:((d++[(kk,vv)]).map rO).flatMap ec=(d.map rO).flatMap ec++ec (rO (kk,vv)):=by simp
         have fv:ec (rO (kk,vv))=[.int .i64 kk.1,.int .i64 kk.2,.slice vv.1 vv.2.1 vv.2.2,.int .i64 ((eZ D kk).getD g0).x,.int .i64 ((eZ D kk).getD g0).y]:=by rw [hrO.out];rfl
         replace fv:=Hd fv;replace dp:=Hd dp;go_wp2;go_roundw
         case rel=>exact⟨d++[(kk,vv)],oV,dU,gL,qn,by rw [List.length_append,List.length_singleton,dp.out,fv.out];exact hS.sb⟩
         case measure =>
          have yi:=a7C qn (hS.aB (b:=bi) (o:=oV) (by simp));have aMV:=a7X qn;simp only [List.length_append,List.length_cons,List.length_nil,List.length_map] at yi aMV;simp only [dJ,yi];omega
def eh (es:List Ed) (h:Nat):Gp:=if h % 2=1 then ⟨-(nth ah es (h / 2)).dir.x,-(nth ah es (h / 2)).dir.y⟩ else (nth ah es (h / 2)).dir
def qj (es:List Ed) (v i:Nat):List Nat:=if (nth ah es i).a=v then [2*i] else if (nth ah es i).b=v then [2*i+1] else []
def jX (es:List Ed) (v:Nat):Nat→List Nat
 | 0=>[]
 | k+1=>jX es v k++qj es v k
def outs (es:List Ed) (v:Nat):List Nat:=jX es v es.length
def je (a b:Gp):Int:=a.x*b.y - a.y*b.x
theorem aBX {x:Int} {g:Nat} (h:(g:Int) ∣ x):x.tdiv g*g=x:=Int.tdiv_mul_cancel h
theorem aOv {s:Sz} (h:s.ok):(fN s).dir:=by
 obtain⟨ha,hb,bJ⟩:=h;unfold Gp.ok fS at ha hb
 have wi:¬ (s.b.x - s.a.x=0∧s.b.y - s.a.y=0):=fun h=>bJ (by
  obtain⟨⟨ax,ay⟩,⟨bx,x9⟩⟩:=s;simp only at h;simp only [Gp.mk.injEq];omega)
 obtain⟨X,hX⟩:∃ X,X=s.b.x - s.a.x:=⟨_,rfl⟩;obtain⟨Y,hY⟩:∃ Y,Y=s.b.y - s.a.y:=⟨_,rfl⟩;unfold fN;rw [← hX,← hY] at wi ⊢;have d1:=aFK X (Int.gcd X Y);have d2:=aFK Y (Int.gcd X Y);have e1:=aBX (x:=X) (g:=Int.gcd X Y) (Int.gcd_dvd_left ..);have e2:=aBX (x:=Y) (g:=Int.gcd X Y) (Int.gcd_dvd_right ..);have hn:¬ (X.tdiv (Int.gcd X Y:Nat)=0∧Y.tdiv (Int.gcd X Y:Nat)=0):=fun h=>wi ⟨by rw [← e1,h.1];simp,by rw [← e2,h.2];simp⟩
 unfold Gp.dir
 split <;> simp only <;> omega
theorem Gp.aVj {d:Gp} (h:d.dir):(⟨-d.x,-d.y⟩:Gp).dir:=by
 unfold Gp.dir at *;simp only;omega
theorem aCl {a b:Gp}:jW a b<0↔kA a<kA b∨(kA a=kA b∧0<je a b):=by
 unfold jW je
 by_cases h:kA a=kA b
 ·rw [if_pos h]
  unfold gQ
  split
  ·constructor
   ·intro h;omega
   ·intro h;omega
  ·split
   ·constructor
    ·intro _;exact .inr ⟨h,by omega⟩
    ·intro _;omega
   ·constructor
    ·intro h;omega
    ·intro h;omega
 ·rw [if_neg h]
  split
  ·constructor
   ·intro _;exact .inl (by assumption)
   ·intro _;omega
  ·constructor
   ·intro h;omega
   ·intro h;omega
theorem aWo {d:Gp} (hd:d.dir):(kA d=0∧(0<d.y∨(d.y=0∧0<d.x)))∨(kA d=1∧(d.y<0∨(d.y=0∧d.x<0))):=by
 unfold kA Gp.dir at *
 split <;> simp <;> omega
def jE (d:Gp):Prop:=0<d.y∨(d.y=0∧0<d.x)
theorem aK8 (a b c:Gp):je a c*b.y=je a b*c.y+je b c*a.y∧je a c*b.x=je a b*c.x+je b c*a.x:=by
 unfold je
 constructor <;> grind
theorem aUA {x y:Int} (hy:0<y) (h:0<x*y):0<x:=by
 rcases Int.lt_trichotomy x 0 with h1|h1|h1
 ·have:=Int.mul_neg_of_neg_of_pos h1 hy;omega
 ·subst h1;simp at h
 ·exact h1
theorem aRu {x y:Int} (hy:0<y) (h:x*y≤0):x≤0:=by
 rcases Int.lt_trichotomy x 0 with h1|h1|h1
 ·omega
 ·omega
 ·have:=Int.mul_pos h1 hy;omega
theorem aMh {a b c:Gp} (ha:jE a) (hb:jE b) (hc:jE c) (h1:0<je a b) (h2:0<je b c):0<je a c:=by
 obtain⟨i1,i2⟩:=aK8 a b c;unfold jE at *
 rcases hb with hb|⟨fk,hb⟩
 ·apply aUA hb
  rw [i1];have e1:0≤je a b*c.y:=Int.mul_nonneg (by omega) (by omega);have e2:0≤je b c*a.y:=Int.mul_nonneg (by omega) (by omega)
  rcases ha with ha|⟨ha0,ha⟩
  ·have:=Int.mul_pos h2 ha;omega
  ·rcases hc with hc|⟨iq,hc⟩
   ·have:=Int.mul_pos h1 hc;omega
   ·exfalso
    unfold je at h2;rw [iq] at h2;have:=Int.mul_pos hb hc;omega
 ·exfalso
  unfold je at h1;rw [fk] at h1;have:0≤a.y*b.x:=Int.mul_nonneg (by omega) (by omega);omega
theorem aH3 {a b c:Gp} (ha:jE a) (hb:jE b) (hc:jE c) (h1:je a b≤0) (h2:je b c≤0):je a c≤0:=by
 obtain⟨i1,i2⟩:=aK8 a b c;unfold jE at *
 rcases hb with hb|⟨fk,hb⟩
 ·apply aRu hb
  rw [i1];have e1:je a b*c.y≤0:=Int.mul_nonpos_of_nonpos_of_nonneg h1 (by omega);have e2:je b c*a.y≤0:=Int.mul_nonpos_of_nonpos_of_nonneg h2 (by omega);omega
 ·have iq:c.y=0:=by
   unfold je at h2;rw [fk] at h2
   rcases hc with hc|⟨hc,_⟩
   ·have:=Int.mul_pos hb hc;omega
   ·exact hc
  unfold je;rw [iq];have:0≤a.y*c.x:=Int.mul_nonneg (by omega) (by omega);omega
def Gp.neg (d:Gp):Gp:=⟨-d.x,-d.y⟩
theorem a2P (a b:Gp):je a.neg b.neg=je a b:=by unfold je Gp.neg;grind
theorem a2z {d:Gp} (hd:d.dir):(kA d=0∧jE d)∨(kA d=1∧jE d.neg):=by
 rcases aWo hd with h|h
 ·exact .inl h
 ·right
  refine⟨h.1,?_⟩;unfold jE Gp.neg;simp only;omega
theorem aVP {a b c:Gp} (ha:a.dir) (hb:b.dir) (hc:c.dir) (h1:jW a b<0) (h2:jW b c<0):jW a c<0:=by
 rw [aCl] at *
 rcases a2z ha with ⟨a1,a2⟩|⟨a1,a2⟩ <;> rcases a2z hb with ⟨b1,b2⟩|⟨b1,b2⟩ <;> rcases a2z hc with ⟨c1,c2⟩|⟨c1,c2⟩ <;> rw [a1,b1] at h1 <;> rw [b1,c1] at h2 <;> rw [a1,c1]
 all_goals first|(left;omega)|(exfalso;omega)|skip
 ·exact .inr ⟨rfl,aMh a2 b2 c2 (by omega) (by omega)⟩
 ·refine .inr ⟨rfl,?_⟩
  rw [← a2P];exact aMh a2 b2 c2 (by rw [a2P];omega) (by rw [a2P];omega)
theorem aM9 {a b c:Gp} (ha:a.dir) (hb:b.dir) (hc:c.dir) (h1:¬ jW a b<0) (h2:¬ jW b c<0):¬ jW a c<0:=by
 rw [aCl] at *
 rcases a2z ha with ⟨a1,a2⟩|⟨a1,a2⟩ <;> rcases a2z hb with ⟨b1,b2⟩|⟨b1,b2⟩ <;> rcases a2z hc with ⟨c1,c2⟩|⟨c1,c2⟩ <;> rw [a1,b1] at h1 <;> rw [b1,c1] at h2 <;> rw [a1,c1]
 all_goals first|(exfalso;omega)|(intro h;omega)|skip
 ·have:=aH3 a2 b2 c2 (by omega) (by omega);omega
 ·have:=aH3 a2 b2 c2 (by rw [a2P];omega) (by rw [a2P];omega)
  rw [a2P] at this;omega
theorem aM5 (a:Gp):¬ jW a a<0:=by
 rw [aCl];have:je a a=0:=by unfold je;grind
 omega
section
open Go Go.RowKit Go.Sort Go.Shelf Go.Proofs
variable {P:Program} {ρ:Ren} {α:Type} [Inhabited α]
theorem aNo (L:Proofs.SlLaysF.n6 P ρ) (L0:Proofs.SlLaysF0.n6 P ρ) (enc:α→Value) (h1:Proofs.OneCell enc) (cf:α→α→Int) (hO:SWO (Proofs.ltOf cf)) (g:Nat) (cb:Array Value)
 {w0 w:World} {H:List Chunk} {ad:Option Addr} {n cap:Nat} {T:TypeId} {ts:List α} (j:Nat) (hS:aA w0 w H) (hj:H[j]? = some (.row (.slice ad n cap) T 1 n (ts.map enc))) (hl:n≤100000000) (eg:∀ args w,(callFunc g args).run P w=.ok (.enter g args) w)
 (aEZ:∀ W,a3B w (.row (.slice ad n cap) T 1 n (ts.map enc)) W→∀ x y,Calls P g (#[enc x,enc y]++cb) W fun e w'=>e=.returned (.int .i64 (cf x y))∧Go.RowKit.Below W.heap.size W w'∧W.drawn≤w'.drawn) :
 Calls P (ρ.f 6) #[.slice ad n cap,.func (.func g) #[] cb] w fun e w'=>e=.returned (.tuple #[])∧∃ nv:List α,nv.Perm ts∧nv.Pairwise (fun x y=>Proofs.ltOf cf y x=false)∧aA w0 w' (H.set j (.row (.slice ad n cap) T 1 n (nv.map enc))):=by
 have lW:=hS.ok _ (bW hj);obtain⟨hlen,mL⟩:=lW;rw [List.length_map] at hlen;have wF:ts.length=n:=by omega
 subst wF
 rcases mL with ⟨hv,hn⟩|⟨b,a5H,cur,hv,hb,hg,mm,fg,hcs,a0Q⟩
 ·simp only [Value.slice.injEq] at hv
  obtain⟨rfl,hx,rfl⟩:=hv;have lB:ts=[]:=List.eq_nil_of_length_eq_zero hx;subst lB;refine (Proofs.AnyF.slices_SortFunc_none L0 none 0 _ w).mono fun e w' ⟨he,hw⟩=>⟨he,[],List.Perm.refl _,List.Pairwise.nil,?_⟩
  subst hw
  have:H.set j (.row (.slice none 0 0) T 1 0 ([].map enc))=H:=by
   apply List.ext_getElem?;intro i;rw [List.getElem?_set]
   split
   ·rename_i h;subst h
    obtain⟨aW,hq⟩:=List.getElem?_eq_some_iff.1 hj;rw [if_pos aW,List.getElem?_eq_getElem aW,hq]
    rfl
   ·rfl
  show aA w0 w' (H.set j (.row (.slice none 0 0) T 1 0 ([].map enc)));rw [this];exact hS
 ·simp only [Value.slice.injEq] at hv
  obtain⟨rfl,-,rfl⟩:=hv;have a6I:cur.toList.take (ts.map enc).length=ts.map enc:=by rw [List.length_map];simpa using a0Q
  have hHv:=aFQ hg a6I
  have hH:Holds enc w b 0 ts.toArray:=by
   intro q hq;have jB:q<ts.length:=by simpa using hq
   have:=hHv q (by simpa using jB);refine⟨?_,this.2⟩;rw [this.1,getElem!_pos _ q (by simpa using jB),getElem!_pos _ q hq];simp
  have oB:=(Array.getElem?_eq_some_iff.1 hg).1
  have vz:∀ (m:Nat) (os:Array Obj) (dk:Array α),Proofs.sortWorld enc w b 0 m dk os=grow (putRow id (Sort.ahead w m) b 0 (dk.toList.map enc).toArray) os:=by
   intro m os dk;unfold Proofs.sortWorld putRow
   congr 1
   congr 1
   funext cs
   unfold putCells;apply Array.ext
   ·simp
   ·intro q h1 h2
    simp only [Array.getElem_mapIdx]
    by_cases hq:0≤q∧q<0+dk.size
    ·have jB:q<dk.size:=by omega
     simp [jB]
    ·have jB:¬ q<dk.size:=by omega
     simp [jB]
  have a2c:Proofs.CmpLays1 P g cb enc cf b 0 ts.toArray.size w:=by
   intro m os dk xd x y
   have hW:a3B w (.row (.slice (some ⟨b,0,none⟩) ts.length cap) T 1 ts.length (ts.map enc)) (Proofs.sortWorld enc w b 0 m dk os):=by
    rw [vz];have fy:=a7m (w:=w) (g:=b) (n:=m) (os:=os) (dk.toList.map enc).toArray;exact⟨fy.size,fun i hi kO=>fy.block i hi (fun e=>kO (by simp only [Chunk.has,Value.ownBlock];exact e.symm))⟩
   refine (aEZ _ hW x y).mono fun e w' ⟨he,kj,hd⟩=>⟨he,aJX kj hd⟩
  have y7:=Proofs.Any.slices_SortFunc L enc h1 cf hO g cb b 0 cap ts.toArray w eg a2c hH oB (by simp;omega);rw [List.size_toArray] at y7;refine y7.mono fun e w' ⟨he,d',m,os,qz,qW,hw⟩=>⟨he,d'.toList,?_,?_,?_⟩
  ·obtain⟨dJ,_,hp⟩:=qz
   have e1:d'.extract 0 ts.length=d':=by
    have:d'.size=ts.length:=by simpa using dJ
    rw [← this];exact Array.extract_size
   have e2:ts.toArray.extract 0 ts.length=ts.toArray:=by
    simp
   rw [e1,e2] at hp
   simpa using hp
  ·have dJ:d'.size=ts.length:=by simpa using qz.1
   rw [List.pairwise_iff_getElem];intro i q hi hq hiq;have pG:i<d'.size:=by simpa using hi
   have jB:q<d'.size:=by simpa using hq
   have:=qW i q (Nat.zero_le _) hiq (by omega);rw [getElem!_pos d' q jB,getElem!_pos d' i pG] at this
   simpa using this
  ·have dJ:d'.size=ts.length:=by simpa using qz.1
   have mn:(d'.toList.map enc).length=ts.length:=by simp [dJ]
   rw [vz] at hw;subst hw;have fy:=a7m (w:=w) (g:=b) (n:=m) (os:=os) (d'.toList.map enc).toArray;refine hS.sQ j hj fy.os fy.tape fy.output (aGc _) fy.size ?_ (fun k hk=>.inl hk) (fun k hk tR=>fy.block k hk (fun e=>tR (by simp only [Chunk.has,Value.ownBlock];exact e.symm)));refine⟨by omega,.inr ⟨b,cap,_,rfl,Nat.zero_le _,aLm _ hg,mm,fg,?_,?_⟩⟩
   ·simp [Go.Sort.putCells,hcs]
   ·rw [Nat.mul_one]
    conv=>lhs;rw [← mn]
    exact aHr cur _ (by rw [mn,hcs];omega)
end
theorem aJp (h:Nat):(h:Int).tdiv 2=((h / 2:Nat):Int):=by
 rw [Int.tdiv_eq_ediv_of_nonneg (by omega)];rfl
theorem aGg (h:Nat):(h:Int).tmod 2=((h % 2:Nat):Int):=by
 rw [Int.tmod_eq_emod_of_nonneg (by omega)];rfl
section
open Go.RowKit Go.Hp Go.Sort Go.Shelf
theorem aIC (a1 a2 a3 a4:Option Addr) (n1 c1 n2 c2 n3 c3 n4 c4:Nat) (rs:List ER) (es:List Ed) (h:Nat) (w:World) (S:Nat→Prop) (hL:aP w S) (bh:bN w S 5 (.slice a4 n4 c4) es.length (rs.flatMap ec)) (dW:kP w S rs es) (hh:h / 2<es.length) (hd:(nth ah es (h / 2)).dir.dir) (hle:h≤1000000) :
 Calls prog 93 #[.agg #[.slice a1 n1 c1,.slice a2 n2 c2,.slice a3 n3 c3,.slice a4 n4 c4],.int .i64 (h:Int)] w fun e w'=>e=.returned (.agg #[.int .i64 (eh es h).x,.int .i64 (eh es h).y])∧Pure w (fun _=>False) w' (fun _=>False):=by
 have j6:n4=es.length:=by obtain⟨h1,a,cap,h2,_⟩:=bh;cases h2;rfl
 subst j6;have aX5:=bh.le;have bh:=bh.bj;obtain⟨i,hi⟩:∃ i,h / 2=i:=⟨_,rfl⟩;have gV:=dW.el (h / 2) hh;have hc:=eS sU jk (show i<rs.length by rw [dW.len];omega);obtain⟨D,hD⟩:∃ D,eh es h=D:=⟨_,rfl⟩;rw [hD];unfold eh at hD;rw [hi] at hD gV hd hh;obtain⟨r,hr⟩:∃ r,nth jk rs i=r:=⟨_,rfl⟩;rw [hr] at hc gV;rw [← gV.dir] at hD hd;have q1:=aJp h;have q2:=aGg h;rw [hi] at q1;have q3:IntKind.i64.wrap (i:Int)=(i:Int):=w6;unfold Gp.dir at hd;have q5:IntKind.i64.wrap (-r.dir.x) = -r.dir.x:=w6;have q6:IntKind.i64.wrap (-r.dir.y) = -r.dir.y:=w6;clear dW gV hr hi hd;have hS:=aA.start w
 by_cases hm:h % 2=1
 ·rw [if_pos hm] at hD
  rw [hm] at q2;have q4:(((1:Nat):Int) == 1)=true:=rfl;replace hD:=Hd hD;clear hm
  go_enter func93,ntmps93
  go_wp2_with (first|(with_reducible first|refine cI (T:=34) (v:=.agg _) hS fun bx cu hS=>?_|refine bH hS zeroValue29 fun br fu hS=>?_|refine aU 1 hS isAgg32 ?_)|((with_reducible refine iH underlying32 sizeOf101 bh hc fun bq oq bO=>?_);have dP:dM _ _ ⟨bq,oq+3,none⟩ [.int .i64 r.dir.x,.int .i64 r.dir.y]:=bO.part 3 2)|(with_reducible first|refine j9 hS isAgg29 sizeOf29 ?_|refine bH hS zeroValue29 fun bd wbd hS=>?_|refine aJ (u:=.agg #[_,_]) 3 hS sizeOf29 fun _ hS=>?_|refine aU 3 hS isAgg3 ?_|refine bA 3 hS isAgg29 sizeOf29 ?_|refine aJ (u:=.agg #[_,_]) 2 hS sizeOf29 fun _ hS=>?_))
  exact fE 2 hS rfl rfl rfl isAgg29 sizeOf29 rfl rfl ⟨by first|(rw [← hD.out];done)|(rw [← hD.out];rfl),hS.pure _⟩
 ·rw [if_neg hm] at hD
  rw [show h % 2=0 by omega] at q2;replace hD:=Hd hD;clear hm
  go_enter func93,ntmps93
  go_wp2_with (first|(with_reducible first|refine cI (T:=34) (v:=.agg _) hS fun bx cu hS=>?_|refine bH hS zeroValue29 fun br fu hS=>?_|refine aU 1 hS isAgg32 ?_)|((with_reducible refine iH underlying32 sizeOf101 bh hc fun bq oq bO=>?_);have dP:dM _ _ ⟨bq,oq+3,none⟩ [.int .i64 r.dir.x,.int .i64 r.dir.y]:=bO.part 3 2)|(with_reducible first|refine j9 hS isAgg29 sizeOf29 ?_|refine bH hS zeroValue29 fun bd wbd hS=>?_|refine aJ (u:=.agg #[_,_]) 3 hS sizeOf29 fun _ hS=>?_|refine aU 3 hS isAgg3 ?_|refine bA 3 hS isAgg29 sizeOf29 ?_|refine aJ (u:=.agg #[_,_]) 2 hS sizeOf29 fun _ hS=>?_))
  exact fE 2 hS rfl rfl rfl isAgg29 sizeOf29 rfl rfl ⟨by first|(rw [← hD.out];done)|(rw [← hD.out];rfl),hS.pure _⟩
theorem aDl {es:List Ed} {h:Nat} (hd:(nth ah es (h / 2)).dir.dir):(eh es h).dir:=by
 unfold eh;split
 ·exact Gp.aVj hd
 ·exact hd
theorem aSM (b:Nat) (a1 a2 a3 a4:Option Addr) (n1 c1 n2 c2 n3 c3 n4 c4:Nat) (rs:List ER) (es:List Ed) (x y:Nat) (w:World) (S:Nat→Prop) (hL:aP w S) (hb:dM w (Old w) ⟨b,0,none⟩ [.slice a1 n1 c1,.slice a2 n2 c2,.slice a3 n3 c3,.slice a4 n4 c4]) (bh:bN w S 5 (.slice a4 n4 c4) es.length (rs.flatMap ec)) (dW:kP w S rs es)
 (hx:x / 2<es.length) (hy:y / 2<es.length) (vU:(nth ah es (x / 2)).dir.dir) (wT:(nth ah es (y / 2)).dir.dir) (hlx:x≤1000000) (hly:y≤1000000) :
 Calls prog 92 #[.int .i64 (x:Int),.int .i64 (y:Int),.pointer (some ⟨b,0,none⟩)] w fun e w'=>e=.returned (.int .i64 (jW (eh es x) (eh es y)))∧Pure w S w' S:=by
 have cx:=fun w' eM aEO aFl=>aIC a1 a2 a3 a4 n1 c1 n2 c2 n3 c3 n4 c4 rs es x w' S eM aEO aFl hx vU hlx
 have cy:=fun w' eM aEO aFl=>aIC a1 a2 a3 a4 n1 c1 n2 c2 n3 c3 n4 c4 rs es y w' S eM aEO aFl hy wT hly
 have tn:=fun w' eM=>aLJ (eh es x) (eh es y) w' S eM (aDl vU) (aDl wT)
 obtain⟨dx,e1⟩:∃ dx,eh es x=dx:=⟨_,rfl⟩;obtain⟨dy,e2⟩:∃ dy,eh es y=dy:=⟨_,rfl⟩;obtain⟨t,e3⟩:∃ t,jW dx dy=t:=⟨_,rfl⟩;rw [e1] at cx tn;rw [e2] at cy tn;rw [e1,e2,e3];rw [e3] at tn;clear e1 e2 e3 hx hy vU wT;obtain⟨hS,aC,bC,bD⟩:=eR hL
 go_enter func92,ntmps92
 go_wp2;refine dB [.r 0,.p 1,.r 3,.p 4,.e 2,.e 5,.e 6,.p 7,.p 8,.p 9,.p 10,.p 11] [] hS fun w1 hS=>?_
 have hC:=hS
 repeat (with_reducible first|refine gm ?_|refine qE isAgg34 sizeOf34 ?_|refine bU ?_)
 refine aZ ?_
 go_wp2_with (fail)
 refine (cx _ (aP.at hS aC) (bh.at hS aC) (dW.at hS aC)).mono ?_;rintro e w' ⟨rfl,hq⟩;simp only [];go_step;have hS:=hS.below hq.below hq.drawn;have hC:=hC.below hq.below hq.drawn;refine aX hC ?_;refine aM ?_;refine aZ ?_
 go_wp2_with (fail)
 refine (cy _ (aP.at hS aC) (bh.at hS aC) (dW.at hS aC)).mono ?_;rintro e w' ⟨rfl,hq⟩;simp only [];go_step;have hS:=hS.below hq.below hq.drawn;have hC:=hC.below hq.below hq.drawn;refine aX hC ?_;refine aM ?_;refine aZ ?_
 go_wp2_with (fail)
 refine (tn _ (aP.at hS aC)).mono ?_;rintro e w' ⟨rfl,hq⟩;simp only [];go_step;have hS:=hS.below hq.below hq.drawn;have hC:=hC.below hq.below hq.drawn;refine aX hC ?_;refine aM ?_;refine bE ?_;go_wp2;go_ret;exact⟨rfl,hS.pure S⟩
structure nU (es:List Ed) (v:Nat) (l:List Nat):Prop where
 perm:l.Perm (outs es v)
 sorted:l.Pairwise (fun g h=>¬ jW (eh es h) (eh es g)<0)
theorem aNf {es:List Ed} {v i h:Nat} (hh:h ∈ qj es v i):h / 2=i:=by
 unfold qj at hh
 split at hh
 ·rw [List.mem_singleton] at hh;omega
 ·split at hh
  ·rw [List.mem_singleton] at hh;omega
  ·cases hh
theorem aD5 {es:List Ed} {v:Nat}:∀ {k h:Nat},h ∈ jX es v k→h / 2<k
 | 0,h,hh=>by cases hh
 | k+1,h,hh=>by
  rcases List.mem_append.1 hh with h1|h1
  ·have:=aD5 h1;omega
  ·have:=aNf h1;omega
theorem a9y {es:List Ed} {v:Nat}:∀ k:Nat,(jX es v k).length≤k
 | 0=>Nat.le_refl _
 | k+1=>by
  have:=a9y (es:=es) (v:=v) k;have h1:(qj es v k).length≤1:=by unfold qj;split <;> (try split) <;> simp
  simp only [jX,List.length_append];omega
def a2W (es:List Ed):Type:={ h:Nat // h / 2<es.length }
theorem aV1 {w wr w2:World} (bx:Nat) (a1 a2 a3 a4:Option Addr) (n1 c1 n2 c2 n3 c3 n4 c4:Nat) (rs:List ER) (es:List Ed) (ad:Option Addr) (c:Nat) (O:List Nat) (S:Nat→Prop) {F:Nat→Prop} {T:TypeId}
 (hS:aA w w2 [.aH F wr,.aB bx (.cells #[.slice a1 n1 c1,.slice a2 n2 c2,.slice a3 n3 c3,.slice a4 n4 c4] T (0,0)),.row (.slice ad O.length c) 3 1 O.length (iv (zs O))]) (hF:∀ k,S k→F k) (bh:bN wr S 5 (.slice a4 n4 c4) es.length (rs.flatMap ec)) (dW:kP wr S rs es) (hd:∀ e ∈ es,e.dir.dir) (gV:es.length≤400000) (hO:∀ h ∈ O,h / 2<es.length) (hOl:O.length≤1000000) :
 Calls prog 91 #[.slice ad O.length c,.func (.func 92) #[] #[.pointer (some ⟨bx,0,none⟩)]] w2 fun e w'=>e=.returned (.tuple #[])∧∃ l:List Nat,l.Perm O∧l.Pairwise (fun g h=>¬ jW (eh es h) (eh es g)<0)∧aA w w' [.aH F wr,.aB bx (.cells #[.slice a1 n1 c1,.slice a2 n2 c2,.slice a3 n3 c3,.slice a4 n4 c4] T (0,0)),.row (.slice ad O.length c) 3 1 O.length (iv (zs l))]:=by
 by_cases h0:es.length=0
 ·have bC:O=[]:=by
   cases O with
   | nil=>rfl
   | cons h t=>have:=hO h (by simp);omega
  subst bC;refine (Proofs.AnyF.slices_SortFunc_none aHb ad c _ w2).mono fun e w' ⟨he,hw⟩=>⟨he,[],List.Perm.refl _,List.Pairwise.nil,?_⟩
  subst hw;exact hS
 ·haveI:Inhabited (a2W es):=⟨⟨0,by omega⟩⟩
  have qS:∀ x:a2W es,(eh es x.1).dir:=fun x=>aDl (hd _ (cQ ah es _ x.2))
  obtain⟨ts,tS⟩:∃ ts:List (a2W es),ts.map (·.1)=O:=by
   obtain⟨g,hg⟩:∃ g:{ x // x ∈ O }→a2W es,∀ x,(g x).1=x.1:=⟨fun x=>⟨x.1,hO x.1 x.2⟩,fun x=>rfl⟩;refine⟨O.attach.map g,?_⟩
   have e:(O.attach.map g).map (·.1)=O.attach.map (·.1):=by
    apply List.ext_getElem
    ·simp only [List.length_map]
    ·intro i h1 h2
     rw [List.getElem_map,List.getElem_map,List.getElem_map];exact hg _
   rw [e];exact List.attach_map_subtype_val O
  have aDx:∀ ts:List (a2W es),ts.map (fun x=>Value.int .i64 (x.1:Int))=iv (zs (ts.map (·.1))):=fun ts=>by simp [iv,zs]
  have hlen:ts.length=O.length:=by rw [← tS,List.length_map]
  have hj:[Chunk.aH F wr,.aB bx (.cells #[.slice a1 n1 c1,.slice a2 n2 c2,.slice a3 n3 c3,.slice a4 n4 c4] T (0,0)),.row (.slice ad O.length c) 3 1 O.length (iv (zs O))][2]? = some (.row (.slice ad O.length c) 3 1 O.length (ts.map (fun x=>Value.int .i64 (x.1:Int)))):=by
   rw [aDx,tS];rfl
  refine (aNo aRM aHb (fun x:a2W es=>Value.int .i64 (x.1:Int)) (fun _=>rfl) (fun x y=>jW (eh es x.1) (eh es y.1)) ⟨fun x=>?_,fun x y z h1 h2=>?_,fun x y z h1 h2=>?_⟩ 92 #[.pointer (some ⟨bx,0,none⟩)] 2 hS hj (by omega) (Proofs.enters_of func92 (by kernel_rfl) rfl) ?_).mono ?_
  ·unfold Proofs.ltOf;rw [decide_eq_false_iff_not];exact aM5 _
  ·unfold Proofs.ltOf at *
   rw [decide_eq_true_iff] at *;exact aVP (qS x) (qS y) (qS z) h1 h2
  ·unfold Proofs.ltOf at *
   rw [decide_eq_false_iff_not] at *;exact aM9 (qS x) (qS y) (qS z) h1 h2
  ·intro W hW x y
   rw [aDx,tS] at hW;have a4a:=Bsd.da hS hF (j:=1) rfl hW;have aO8:=Bsd.yj hS hF hW;have pD:w2.heap[bx]? = some (.cells #[.slice a1 n1 c1,.slice a2 n2 c2,.slice a3 n3 c3,.slice a4 n4 c4] T (0,0)):=hS.aB (bW (i:=1) rfl);have oB:=(Array.getElem?_eq_some_iff.1 pD).1
   have hWb:W.heap[bx]? = some (.cells #[.slice a1 n1 c1,.slice a2 n2 c2,.slice a3 n3 c3,.slice a4 n4 c4] T (0,0)):=by
    rw [hW.2 bx oB ?_]
    ·exact pD
    ·have:=List.pairwise_iff_getElem.1 hS.apart 1 2 (by simp) (by simp) (by omega)
     exact this bx rfl
   have vD:dM W (Old W) ⟨bx,0,none⟩ [.slice a1 n1 c1,.slice a2 n2 c2,.slice a3 n3 c3,.slice a4 n4 c4]:=by
    refine⟨fun _=>rfl,fun _=>Nat.lt_of_lt_of_le oB hW.1,fun q u hu=>?_⟩;rw [Nat.zero_add,cell_of_row W bx q _ T (0,0) hWb]
    simpa using hu
   have uz:=x.2;have tT:=y.2;exact (aSM bx a1 a2 a3 a4 n1 c1 n2 c2 n3 c3 n4 c4 rs es x.1 y.1 W S aO8 vD ((bh.at hS hF).move a4a) ((dW.at hS hF).move a4a) x.2 y.2 (hd _ (cQ ah es _ x.2)) (hd _ (cQ ah es _ y.2)) (by omega) (by omega)).mono fun e w' ⟨he,hq⟩=>⟨he,hq.below,hq.drawn⟩
  ·rintro e w' ⟨he,nv,hp,hs,fY⟩
   refine⟨he,nv.map (·.1),?_,?_,?_⟩
   ·rw [← tS];exact hp.map _
   ·rw [List.pairwise_map]
    refine hs.imp fun {x y} h=>?_
    unfold Proofs.ltOf at h
    rwa [decide_eq_false_iff_not] at h
   ·rw [← aDx]
    exact fY
theorem aS9 (a1 a2 a3 a4:Option Addr) (n1 c1 n2 c2 n3 c3 n4 c4:Nat) (rs:List ER) (es:List Ed) (v:Nat) (w:World) (S:Nat→Prop) (hL:aP w S) (bh:bN w S 5 (.slice a4 n4 c4) es.length (rs.flatMap ec)) (dW:kP w S rs es) (hd:∀ e ∈ es,e.dir.dir) (gV:es.length≤400000) (hv:v<n3) (my:n3≤1000000) :
 Calls prog 40 #[.agg #[.slice a1 n1 c1,.slice a2 n2 c2,.slice a3 n3 c3,.slice a4 n4 c4],.int .i64 (v:Int)] w fun e w'=>∃ ad n c l,e=.returned (.tuple #[.slice ad n c,.int .i64 0])∧aA w w' [.aH (Old w) w,.row (.slice ad n c) 3 1 n (iv (zs l))]∧nU es v l:=by
 have j6:n4=es.length:=by obtain⟨h1,a,cap,h2,_⟩:=bh;cases h2;rfl
 subst j6;have aCD:=bh.bj;have eo:decide ((v:Int)<0)=false:=by simp
 have fH:decide ((n3:Int)≤(v:Int))=false:=by simp;omega
 obtain⟨hS,aC,bC,bD⟩:=eR hL
 go_enter func40,ntmps40
 go_wp2_with (with_reducible first|refine cI (T:=34) (v:=.agg _) hS fun bx cu hS=>?_|refine aU 1 hS isAgg31 ?_|refine aU 1 hS isAgg32 ?_)
 have hS:=hS.iB 3 1;simp only [List.cons_append,List.nil_append] at hS
 try try simp only [fA]
 go_loopw [6,21] (fun v6 v21 wr=>∃ (k:Nat) (ad:Option Addr) (c:Nat),k≤es.length∧v21=.int .i64 (k:Int)∧v6=.slice ad (jX es v k).length c∧aA w wr [.aH (Old w) w,.aB bx (.cells #[.slice a1 n1 c1,.slice a2 n2 c2,.slice a3 n3 c3,.slice a4 es.length c4] 34 (0,0)),.row (.slice ad (jX es v k).length c) 3 1 (jX es v k).length (iv (zs (jX es v k)))]) (fun _ v21 _=>es.length - (intOf v21).toNat)
 case atStart=>exact⟨0,none,0,by omega,rfl,rfl,hS⟩
 case round =>
  clear hS;obtain⟨k,ad,c,hk,rfl,rfl,hS⟩:=hrel;have cD:=a9y (es:=es) (v:=v) k
  by_cases cW:k<es.length
  ·have hc:=eS sU jk (show k<rs.length by rw [dW.len];omega)
   have hE:=dW.el k cW;obtain⟨r,hr⟩:∃ r,nth jk rs k=r:=⟨_,rfl⟩;rw [hr] at hc hE;have ha:=hE.a;have pD:=hE.b;have dH:jX es v (k+1)=jX es v k++qj es v k:=rfl;unfold qj at dH;rw [← ha,← pD] at dH;clear ha pD hE hr;obtain⟨O,hO⟩:∃ O,jX es v k=O:=⟨_,rfl⟩;rw [hO] at dH hS cD;rw [hO];clear hO;have w1:IntKind.i64.wrap (2*(k:Int))=((2*k:Nat):Int):=w7;have w2:IntKind.i64.wrap (((2*k:Nat):Int)+1)=((2*k+1:Nat):Int):=w7
   by_cases ra:r.a=v
   ·rw [if_pos ra] at dH
    have q1:((v:Int) == (r.a:Int))=true:=by simp [ra]
    have hlen:(jX es v (k+1)).length=O.length+1:=by rw [dH];simp
    have iC:iv (zs (jX es v (k+1)))=iv (zs O)++[.int .i64 ((2*k:Nat):Int)]:=by rw [dH];simp [iv,zs]
    replace hlen:=Hd hlen;replace iC:=Hd iC;clear dH ra
    go_wp2_with (first|(with_reducible first|refine iH underlying32 sizeOf101 aCD hc fun bq oq bO=>?_|refine j9 hS isAgg101 sizeOf101 ?_)|((with_reducible refine bH hS zeroValue101 fun b8 xe hS=>?_);have hS:=aA.aAU [_,_] [_] _ hS;simp only [List.cons_append,List.nil_append] at hS)|(with_reducible first|refine aJ (u:=.agg #[_,_,_,_,_]) 2 hS sizeOf101 fun _ hS=>?_|refine aU 2 hS isAgg3 ?_)|((with_reducible refine dV (T:=22) ?_);refine fZ (T:=22) (v:=.int .i64 _) hS underlying22 sizeOf3 zeroValue3 rfl rfl rfl (by decide) (by decide) rfl (fun bl fX hS=>?_);simp only [aD];simp only [Value.cells] at hS)|((with_reducible refine eG ?_);refine fw (t:=22) 3 hS underlying22 tQ rfl (by decide) rfl rfl rfl rfl (by simp [Value.oneCell']) (by omega) (by unfold maxLen;omega) (fun dU gL _ hS=>?_);simp only [aD];simp only [List.set_cons_succ,List.set_cons_zero] at hS))
    go_roundw
    case rel=>exact⟨k+1,dU,gL,by omega,by simp,by rw [hlen.out],by rw [hlen.out,iC.out];exact hS.sb⟩
    case measure=>simp [intOf];omega
   ·rw [if_neg ra] at dH
    have q1:((v:Int) == (r.a:Int))=false:=by simp;omega
    by_cases rb:r.b=v
    ·rw [if_pos rb] at dH
     have q2:((v:Int) == (r.b:Int))=true:=by simp [rb]
     have hlen:(jX es v (k+1)).length=O.length+1:=by rw [dH];simp
     have iC:iv (zs (jX es v (k+1)))=iv (zs O)++[.int .i64 ((2*k+1:Nat):Int)]:=by rw [dH];simp [iv,zs]
     replace hlen:=Hd hlen;replace iC:=Hd iC;clear dH ra rb
     go_wp2_with (first|(with_reducible first|refine iH underlying32 sizeOf101 aCD hc fun bq oq bO=>?_|refine j9 hS isAgg101 sizeOf101 ?_)|((with_reducible refine bH hS zeroValue101 fun b8 xe hS=>?_);have hS:=aA.aAU [_,_] [_] _ hS;simp only [List.cons_append,List.nil_append] at hS)|(with_reducible first|refine aJ (u:=.agg #[_,_,_,_,_]) 2 hS sizeOf101 fun _ hS=>?_|refine aU 2 hS isAgg3 ?_)|((with_reducible refine dV (T:=22) ?_);refine fZ (T:=22) (v:=.int .i64 _) hS underlying22 sizeOf3 zeroValue3 rfl rfl rfl (by decide) (by decide) rfl (fun bl fX hS=>?_);simp only [aD];simp only [Value.cells] at hS)|((with_reducible refine eG ?_);refine fw (t:=22) 3 hS underlying22 tQ rfl (by decide) rfl rfl rfl rfl (by simp [Value.oneCell']) (by omega) (by unfold maxLen;omega) (fun dU gL _ hS=>?_);simp only [aD];simp only [List.set_cons_succ,List.set_cons_zero] at hS))
     go_roundw
     case rel=>exact⟨k+1,dU,gL,by omega,by simp,by rw [hlen.out],by rw [hlen.out,iC.out];exact hS.sb⟩
     case measure=>simp [intOf];omega
    ·rw [if_neg rb,List.append_nil] at dH
     have q2:((v:Int) == (r.b:Int))=false:=by simp;omega
     replace dH:=Hd dH;clear ra rb
     go_wp2_with (first|(with_reducible first|refine iH underlying32 sizeOf101 aCD hc fun bq oq bO=>?_|refine j9 hS isAgg101 sizeOf101 ?_)|((with_reducible refine bH hS zeroValue101 fun b8 xe hS=>?_);have hS:=aA.aAU [_,_] [_] _ hS;simp only [List.cons_append,List.nil_append] at hS)|(with_reducible first|refine aJ (u:=.agg #[_,_,_,_,_]) 2 hS sizeOf101 fun _ hS=>?_|refine aU 2 hS isAgg3 ?_)|((with_reducible refine dV (T:=22) ?_);refine fZ (T:=22) (v:=.int .i64 _) hS underlying22 sizeOf3 zeroValue3 rfl rfl rfl (by decide) (by decide) rfl (fun bl fX hS=>?_);simp only [aD];simp only [Value.cells] at hS)|((with_reducible refine eG ?_);refine fw (t:=22) 3 hS underlying22 tQ rfl (by decide) rfl rfl rfl rfl (by simp [Value.oneCell']) (by omega) (by unfold maxLen;omega) (fun dU gL _ hS=>?_);simp only [aD];simp only [List.set_cons_succ,List.set_cons_zero] at hS))
     go_roundw
     case rel=>exact⟨k+1,ad,c,by omega,by simp,by rw [dH.out],by rw [dH.out];exact hS.sb⟩
     case measure=>simp [intOf];omega
  ·obtain rfl:k=es.length:=by omega
   have aW:∀ h ∈ jX es v es.length,h / 2<es.length:=fun h hh=>aD5 hh
   obtain⟨O,hO⟩:∃ O,jX es v es.length=O:=⟨_,rfl⟩;rw [hO] at hS cD aW;rw [hO];replace hO:=Hd hO
   go_wp2_with (fail)
   have qW:=aV1 bx a1 a2 a3 a4 n1 c1 n2 c2 n3 c3 es.length c4 rs es ad c O S hS aC bh dW hd gV aW (by omega);refine qW.mono ?_;rintro e w5 ⟨rfl,l,hp,wz,hS5⟩;clear hS qW;have hS:=hS5;clear hS5;replace hp:=Hd hp;replace wz:=Hd wz;simp only [];go_wp2;refine bodyPost_ret (results_tmp2 rfl _ _ _) rfl ?_;exact⟨_,_,_,rfl,l,hS.sb,⟨by have:=hp.out;rw [← hO.out] at this;exact this,wz.out.imp (fun h=>by omega)⟩⟩
end
theorem aOd (h:Nat):h ^^^ 1=tw h:=by
 have h0:h ^^^ 1=2*((h ^^^ 1) / 2)+(h ^^^ 1) % 2:=by omega
 have h1:(h ^^^ 1) / 2=h / 2:=by
  have:=Nat.xor_div_two_pow (a:=h) (b:=1) (n:=1)
  simpa using this
 have h2:(h ^^^ 1) % 2=(h % 2) ^^^ 1:=by
  have:=Nat.xor_mod_two_pow (a:=h) (b:=1) (n:=1)
  simpa using this
 have h3:h % 2=0∨h % 2=1:=by omega
 unfold tw;rw [h0,h1,h2]
 rcases h3 with h3|h3
 ·rw [h3,if_pos rfl];show 2*(h / 2)+1=h+1;omega
 ·rw [h3,if_neg (by decide)];show 2*(h / 2)+0=h - 1;omega
theorem aTL {h:Nat} (hh:h<4294967296):IntKind.i64.wrap (((BitVec.ofInt 64 (h:Int)) ^^^ (BitVec.ofInt 64 1)).toNat:Int)=((tw h:Nat):Int):=by
 have e1:(BitVec.ofInt 64 (h:Int))=BitVec.ofNat 64 h:=BitVec.ofInt_natCast 64 h;have e2:(BitVec.ofInt 64 1)=BitVec.ofNat 64 1:=rfl;have h2:h<2 ^ 64:=Nat.lt_of_lt_of_le hh (by decide);rw [e1,e2,BitVec.toNat_xor,BitVec.toNat_ofNat,BitVec.toNat_ofNat,Nat.mod_eq_of_lt h2];have e3:1 % 2 ^ 64=1:=by decide
 rw [e3,aOd];have h3:tw h≤h+1:=by unfold tw;split <;> omega
 exact w6
theorem aSS {h:Nat} (hh:h<4294967296):bits .xor .i64 (h:Int) 1=((tw h:Nat):Int):=by
 exact aTL hh
theorem aA.oJ {w0 w wr:World} {F:Nat→Prop} {H:List Chunk} (h:aA w0 w (.aH F wr::H)) (hO:∀ k,Old w0 k→F k) {c:Chunk} (hc:c ∈ H) {k:Nat} (hk:c.has k):ja w0 w k:=by
 refine⟨?_,Chunk.lt (h.ok c (List.mem_cons_of_mem _ hc)) hk⟩
 rcases Nat.lt_or_ge k w0.heap.size with aW|gB
 ·exact absurd hk ((List.pairwise_cons.1 h.apart).1 c hc k (hO k aW))
 ·exact gB
def pg (N l:List Nat):Nat→List Nat
 | 0=>N
 | i+1=>(pg N l i).set (tw (nth 0 l i)) (nth 0 l ((i+l.length - 1) % l.length))
def jq (m:Nat) (RL:List (List Nat)):Nat→List Nat
 | 0=>List.replicate (2*m) 0
 | v+1=>pg (jq m RL v) (nth [] RL v) (nth [] RL v).length
theorem aAR (N l:List Nat):∀ i,(pg N l i).length=N.length
 | 0=>rfl
 | i+1=>by unfold pg;rw [List.length_set];exact aAR N l i
theorem sW (m:Nat) (RL:List (List Nat)):∀ v,(jq m RL v).length=2*m
 | 0=>by simp [jq]
 | v+1=>by unfold jq;rw [aAR];exact sW m RL v
theorem aKx (m:Nat) (RL:List (List Nat)) (L:List Nat):∀ v,v≤RL.length→jq m (RL++[L]) v=jq m RL v
 | 0,_=>rfl
 | v+1,h=>by
  unfold jq;rw [aKx m RL L v (by omega),ju _ _ _ _ (by omega)]
structure l9 (w:World) (S:Nat→Prop) (RL:List (List Nat)) (l:List (Int × (Option Addr × Nat × Nat))):Prop where
 keys:l.map (·.1)=((List.range RL.length).filter (fun v=>decide (nth [] RL v≠[]))).map (fun (v:Nat)=>(v:Int))
 a5L:∀ p ∈ l,jZ w S (sv p.2) (nth [] RL p.1.toNat)
theorem l9.move {w wr:World} {S:Nat→Prop} {RL:List (List Nat)} {l:List (Int × (Option Addr × Nat × Nat))} (h:l9 wr S RL l) (hk:∀ k,S k→w.heap[k]? = wr.heap[k]?):l9 w S RL l:=⟨h.keys,fun p hp=>(h.a5L p hp).move hk⟩
theorem l9.mono {w:World} {S T:Nat→Prop} {RL:List (List Nat)} {l:List (Int × (Option Addr × Nat × Nat))} (h:l9 w S RL l) (hs:∀ k,S k→T k):l9 w T RL l:=⟨h.keys,fun p hp=>(h.a5L p hp).weaken hs⟩
theorem l9.skip {w:World} {S:Nat→Prop} {RL:List (List Nat)} {l:List (Int × (Option Addr × Nat × Nat))} (h:l9 w S RL l):l9 w S (RL++[[]]) l:=by
 refine⟨?_,fun p hp=>?_⟩
 ·rw [h.keys,List.length_append,List.length_singleton,List.range_succ,List.filter_append,List.map_append]
  have e1:List.filter (fun v=>decide (nth [] (RL++[[]]) v≠[])) [RL.length]=[]:=by
   rw [List.filter_cons_of_neg]
   ·rfl
   ·simp [uE]
  rw [e1,List.map_nil,List.append_nil]
  congr 1
  apply List.filter_congr;intro v hv;rw [List.mem_range] at hv;rw [ju _ _ _ _ hv]
 ·have h1:=h.a5L p hp
  have hk:p.1 ∈ l.map (·.1):=List.mem_map.2 ⟨p,hp,rfl⟩;rw [h.keys,List.mem_map] at hk;obtain⟨v,hv,e⟩:=hk;rw [List.mem_filter,List.mem_range] at hv;rw [ju _ _ _ _ (by omega)];exact h1
theorem l9.aUY {w:World} {S:Nat→Prop} {RL:List (List Nat)} {l:List (Int × (Option Addr × Nat × Nat))} (h:l9 w S RL l):eZ l (RL.length:Int)=none:=by
 refine aC6 (fun hm=>?_);rw [h.keys,List.mem_map] at hm;obtain⟨v,hv,e⟩:=hm;rw [List.mem_filter,List.mem_range] at hv;omega
theorem l9.add {w:World} {S:Nat→Prop} {RL:List (List Nat)} {l:List (Int × (Option Addr × Nat × Nat))} (h:l9 w S RL l) {L:List Nat} (hL:L≠[]) {s:Option Addr × Nat × Nat} (hs:jZ w S (sv s) L):l9 w S (RL++[L]) (fV l (RL.length:Int) s):=by
 rw [a7t h.aUY];refine⟨?_,fun p hp=>?_⟩
 ·rw [List.map_append,h.keys,List.length_append,List.length_singleton,List.range_succ,List.filter_append,List.map_append]
  have e1:List.filter (fun v=>decide (nth [] (RL++[L]) v≠[])) [RL.length]=[RL.length]:=by
   rw [List.filter_cons_of_pos]
   ·rfl
   ·simp [uE,hL]
  rw [e1];simp only [List.map_cons,List.map_nil]
  congr 2
  apply List.filter_congr;intro v hv;rw [List.mem_range] at hv;rw [ju _ _ _ _ hv]
 ·rcases List.mem_append.1 hp with hp|hp
  ·have h1:=h.a5L p hp
   have hk:p.1 ∈ l.map (·.1):=List.mem_map.2 ⟨p,hp,rfl⟩;rw [h.keys,List.mem_map] at hk;obtain⟨v,hv,e⟩:=hk;rw [List.mem_filter,List.mem_range] at hv;rw [ju _ _ _ _ (by omega)];exact h1
  ·rw [List.mem_singleton] at hp
   subst hp;simp only [Int.toNat_natCast];rw [uE];exact hs
theorem aA.aMG {w0 w wr:World} {F:Nat→Prop} {c1 c2 c3 r:Chunk} (hS:aA w0 w [.aH F wr,c1,c2,c3,r]):aA w0 w [.aH (fun k=>F k∨r.has k) w,c1,c2,c3]:=by
 have h1:=(hS.freeze 4 rfl).order [0,4,1,2,3] rfl;simp only [List.set_cons_succ,List.set_cons_zero,List.filterMap_cons,List.getElem?_cons_zero,List.getElem?_cons_succ,List.filterMap_nil] at h1;exact h1.join
theorem nU.lt {es:List Ed} {v:Nat} {L:List Nat} (h:nU es v L):∀ x ∈ L,x / 2<es.length:=fun x hx=>aD5 ((h.perm.mem_iff).1 hx)
theorem aMN (a1 a2 a3 a4:Option Addr) (n1 c1 n2 c2 n3 c3 n4 c4:Nat) (rs:List ER) (es:List Ed) (w:World) (S:Nat→Prop) (hL:aP w S) (bh:bN w S 5 (.slice a4 n4 c4) es.length (rs.flatMap ec)) (dW:kP w S rs es) (hd:∀ e ∈ es,e.dir.dir) (gV:es.length≤30000) (my:n3≤65536) :
 Calls prog 81 #[.agg #[.slice a1 n1 c1,.slice a2 n2 c2,.slice a3 n3 c3,.slice a4 n4 c4]] w fun e w'=>∃ (RL:List (List Nat)) (g c bm:Nat) (o:Obj) (l:List (Int × (Option Addr × Nat × Nat))) (F' S':Nat→Prop),e=.returned (.tuple #[.slice (some ⟨g,0,none⟩) (2*es.length) c,.map (some bm)])∧aA w w' [.aH F' w',.row (.slice (some ⟨g,0,none⟩) (2*es.length) c) 3 1 (2*es.length) (iv (zs (jq es.length RL n3))),.aB bm o]∧(∀ k,S' k→F' k)∧(∀ k,Old w k→F' k)∧Pure w S w' S'∧aP w' S'∧gj ik sv o l∧RL.length=n3∧(∀ v,v<n3→nU es v (nth [] RL v))∧l9 w' S' RL l:=by
 have j6:n4=es.length:=by obtain⟨h1,a,cap,h2,_⟩:=bh;cases h2;rfl
 subst j6;have w2m:IntKind.i64.wrap (2*(es.length:Int))=((2*es.length:Nat):Int):=w7;have ar:=fun v w' S hL bh dW (hv:v<n3)=>aS9 a1 a2 a3 a4 n1 c1 n2 c2 n3 c3 es.length c4 rs es v w' S hL bh dW hd (by omega) hv (by omega)
 obtain⟨hS,aC,bC,bD⟩:=eR hL
 go_enter func81,ntmps81
 go_wp2_with (first|(with_reducible refine cI hS fun bx cu hS=>?_)|((with_reducible refine a16 (T:=159) ?_);refine a3L hS (fun bm wbm hS=>?_);simp only [aD];simp only [aK] at hS)|(with_reducible refine aU 1 hS isAgg32 ?_)|((with_reducible refine r7 (T:=22) ?_);refine a9J (n:=2*es.length) (T:=22) (E:=3) hS underlying22 a0A rfl rfl (by omega) (by omega) (fun g wg hS=>?_);simp only [aD];simp only [aK] at hS)|(with_reducible refine aU 1 hS isAgg31 ?_))
 try try simp only [fA]
 have lX:List.replicate (2*es.length) (0:Int)=zs (jq es.length [] 0):=by simp [jq,zs]
 rw [lX] at hS;clear lX;have oO:gj ik sv (.map #[] 0) []:=gj.empty _ _;have zP:l9 w S [] []:=⟨rfl,fun p hp=>by cases hp⟩
 go_loopw [20] (fun v20 wr=>∃ (F S':Nat→Prop) (wq:World) (RL:List (List Nat)) (o:Obj) (l:List (Int × (Option Addr × Nat × Nat))),RL.length≤n3∧v20=.int .i64 (RL.length:Int)∧aA w wr [.aH F wq,.aB bx (.cells #[.slice a1 n1 c1,.slice a2 n2 c2,.slice a3 n3 c3,.slice a4 es.length c4] 34 (0,0)),.aB bm o,.row (.slice (some ⟨g,0,none⟩) (2*es.length) (2*es.length)) 3 1 (2*es.length) (iv (zs (jq es.length RL RL.length)))]∧(∀ k,S' k→F k)∧(∀ k,Old w k→F k)∧Pure w S wq S'∧aP wq S'∧bN wq S' 5 (.slice a4 es.length c4) es.length (rs.flatMap ec)∧kP wq S' rs es∧gj ik sv o l∧Hid (∀ v,v<RL.length→nU es v (nth [] RL v))∧l9 wq S' RL l) (fun v20 _=>n3 - (intOf v20).toNat)
 case atStart=>exact⟨_,S,w,[],_,[],by simp,rfl,hS,aC,bC,bD,hL,bh,dW,oO,Hd (fun v hv=>by simp at hv),zP⟩
 case round =>
  clear hS aC bC bD hL bh dW oO zP;obtain⟨F0,S0,wq,RL,o,l,hk,rfl,hS,aC,bC,bD,xN,bh,dW,oO,rH,zP⟩:=hrel
  by_cases cW:RL.length<n3
  ·have hnl:=sW es.length RL RL.length
   go_wp2_with (with_reducible refine bA 1 hS isAgg34 sizeOf34 ?_)
   refine (ar RL.length _ S0 (aP.at hS aC) (bh.move (hS.da aC)) (dW.at hS aC) cW).mono ?_;rintro e wc ⟨ad,n,c,h,rfl,cU,xr⟩;replace hS:=hS.import cU;simp only [aK] at hS;clear cU;have oE:=hS.dn 4 rfl
   have hnl:n=h.length:=by
    have:=oE.1;rw [tK,vC,Nat.mul_one] at this;exact this.symm
   subst hnl;have aW:=xr.lt;have hhl:h.length≤es.length:=by rw [xr.perm.length_eq];exact a9y _
   have hNr:jZ wc (Chunk.row (.slice ad h.length c) 3 1 h.length (iv (zs h))).has (.slice ad h.length c) h:=⟨by rw [vC];exact oE,aAv (fun x hx=>by have:=aW x hx;omega)⟩;have dL:=bD.step hS bC aC;have p8:∀ k,(Chunk.row (.slice ad h.length c) 3 1 h.length (iv (zs h))).has k→ja w wc k:=fun k hk=>hS.oJ bC (bW (i:=3) rfl) hk
   have aGz:=bh.move (hS.da aC);have aIL:=dW.at hS aC;have a9b:=zP.move (hS.da aC);replace hS:=aA.aMG hS;obtain⟨T,hT⟩:∃ T,T=(Chunk.row (.slice ad h.length c) 3 1 h.length (iv (zs h))).has:=⟨_,rfl⟩;rw [← hT] at hS hNr p8;clear hT oE;have bB:Pure w S wc (fun k=>S0 k∨T k):=⟨dL.below,dL.drawn,fun k hk=>.inl (dL.sub k hk),fun k hk=>hk.elim (dL.new k) (fun hk=>.inr (p8 k hk))⟩;have aG:∀ k,(S0 k∨T k)→(F0 k∨T k):=fun k hk=>hk.elim (fun hk=>.inl (aC k hk)) .inr
   have av:∀ k,Old w k→(F0 k∨T k):=fun k hk=>.inl (bC k hk)
   have sR:aP wc (fun k=>S0 k∨T k):=fun k hk=>(hS.ok (.aH (fun k=>F0 k∨T k) wc) (bW (i:=0) rfl) k (aG k hk)).1
   have aLv:=aGz.weaken (T:=fun k=>S0 k∨T k) (fun k hk=>.inl hk);have aGr:=aIL.weaken (T:=fun k=>S0 k∨T k) (fun k hk=>.inl hk);have aGx:=a9b.mono (T:=fun k=>S0 k∨T k) (fun k hk=>.inl hk);have aOf:jZ wc (fun k=>S0 k∨T k) (.slice ad h.length c) h:=hNr.weaken (fun k hk=>.inr hk);have aXh:jZ wc (fun k=>F0 k∨T k) (.slice ad h.length c) h:=hNr.weaken (fun k hk=>.inr hk)
   have aAe:∀ v,v<(RL++[h]).length→nU es v (nth [] (RL++[h]) v):=fun v hv=>by
    rw [List.length_append,List.length_singleton] at hv
    by_cases e:v=RL.length
    ·subst e;rw [uE];exact xr
    ·rw [ju _ _ _ _ (by omega)];exact rH.out v (by omega)
   have yO:(RL++[h]).length=RL.length+1:=by simp
   have a4b:jq es.length (RL++[h]) (RL++[h]).length=pg (jq es.length RL RL.length) h h.length:=by
    rw [yO];show pg (jq es.length (RL++[h]) RL.length) (nth [] (RL++[h]) RL.length) (nth [] (RL++[h]) RL.length).length=_;rw [uE,aKx _ _ _ _ (Nat.le_refl _)]
   replace aAe:=Hd aAe;replace yO:=Hd yO;replace a4b:=Hd a4b;replace aW:=Hd aW;clear hNr p8 dL aGz aIL a9b xr bh dW xN bD aC bC;simp only []
   by_cases hh:h=[]
   ·subst hh
    have aE6:=aGx.skip;go_wp2;go_roundw
    case rel=>exact⟨_,_,wc,RL++[[]],o,l,by rw [yO.out];omega,by rw [yO.out];simp,by rw [a4b.out];exact hS,aG,av,bB,sR,aLv,aGr,oO,aAe,aE6⟩
    case measure=>simp [intOf];omega
   ·have aE6:=aGx.add (s:=(ad,h.length,c)) hh aOf
    have hl0:((h.length:Int) == 0)=false:=by
     rw [beq_eq_false_iff_ne];intro e;exact hh (List.length_eq_zero_iff.1 (by omega))
    have kN:0<h.length:=Nat.pos_of_ne_zero (fun e=>hh (List.length_eq_zero_iff.1 e));replace hh:=Hd hh;obtain⟨N0,hN0⟩:∃ N0,jq es.length RL RL.length=N0:=⟨_,rfl⟩;have aW8:N0.length=2*es.length:=by rw [← hN0];exact sW _ _ _
    rw [hN0] at hS a4b;replace hN0:=Hd hN0
    go_wp2_with (first|((with_reducible refine a3x (T:=159) ?_);refine a1Z (ev:=sv) (k:=(RL.length:Int)) (v:=(ad,h.length,c)) 2 hS underlying159 (uX underlying3) rfl rfl rfl rfl oO rfl (fun ou wu hmu hS=>?_);simp only [aD];simp only [aK] at hS))
    go_loopw [41] (fun v41 wr=>∃ i:Nat,i≤h.length∧v41=.int .i64 (i:Int)∧aA w wr [.aH (fun k=>F0 k∨T k) wc,.aB bx (.cells #[.slice a1 n1 c1,.slice a2 n2 c2,.slice a3 n3 c3,.slice a4 es.length c4] 34 (0,0)),.aB bm ou,.row (.slice (some ⟨g,0,none⟩) (2*es.length) (2*es.length)) 3 1 (2*es.length) (iv (zs (pg N0 h i)))]) (fun v41 _=>h.length - (intOf v41).toNat)
    case atStart=>exact⟨0,by omega,rfl,hS⟩
    case round =>
     clear hS;obtain⟨i,hi,rfl,hS⟩:=hrel
     by_cases dj:i<h.length
     ·have pO:=aW.out _ (cQ 0 h i dj)
      have hxb:=aSS (h:=nth 0 h i) (by omega);have tj:tw (nth 0 h i)<2*es.length:=a1Q (m:=es.length) (by omega);obtain⟨j,hj⟩:∃ j,(i+h.length - 1) % h.length=j:=⟨_,rfl⟩;have gX:j<h.length:=by rw [← hj];exact Nat.mod_lt _ kN
      have m1:IntKind.i64.wrap ((i:Int)+(h.length:Int))=(i:Int)+(h.length:Int):=w6;have m2:IntKind.i64.wrap ((i:Int)+(h.length:Int) - 1)=(i:Int)+(h.length:Int) - 1:=w6
      have m3:((i:Int)+(h.length:Int) - 1) % (h.length:Int)=(j:Int):=by
       rw [← hj,Int.natCast_emod];congr 1;omega
      have m4:((i:Int)+(h.length:Int) - 1).tmod (h.length:Int)=(j:Int):=by rw [Int.tmod_eq_emod_of_nonneg (by omega)];exact m3
      have m5:IntKind.i64.wrap (j:Int)=(j:Int):=w6;have xh:=aAR N0 h i
      have cA:(zs (pg N0 h i)).set (tw (nth 0 h i)) ((nth 0 h j:Nat):Int)=zs (pg N0 h (i+1)):=by
       show _=zs ((pg N0 h i).set (tw (nth 0 h i)) (nth 0 h ((i+h.length - 1) % h.length)));rw [hj];simp [zs]
      replace cA:=Hd cA;replace xh:=Hd xh;clear hj
      go_wp2_with (with_reducible first|refine ixN underlying22 sizeOf3 fun _ _ _=>?_|refine fP hS isAgg3 ?_|refine kW underlying22 sizeOf3 ?_|refine xS 3 hS sizeOf3 fun _ hS=>?_)
      rw [cA.out] at hS;go_roundw
      case rel=>exact⟨i+1,by omega,by simp,hS⟩
      case measure=>simp [intOf];omega
     ·obtain rfl:h.length=i:=by omega
      go_wp2;go_roundw
      case rel=>exact⟨_,_,wc,RL++[h],ou,_,by rw [yO.out];omega,by rw [yO.out];simp,by rw [a4b.out];exact hS,aG,av,bB,sR,aLv,aGr,hmu,aAe,aE6⟩
      case measure=>simp [intOf];omega
  ·obtain rfl:RL.length=n3:=by omega
   go_wp2;refine bodyPost_ret (results_tmp2 rfl _ _ _) rfl ?_;have dL:=bD.step hS bC aC;have a9b:=zP.move (hS.da aC);have sR:=aP.at hS aC;have hS:=(hS.freeze 0 rfl).order [0,3,2,1] rfl;simp only [List.set_cons_succ,List.set_cons_zero,List.filterMap_cons,List.getElem?_cons_zero,List.getElem?_cons_succ,List.filterMap_nil] at hS;exact⟨RL,g,2*es.length,bm,o,l,F0,S0,rfl,hS.sb,aC,bC,dL,sR,oO,rfl,rH.out,a9b⟩
structure FI where
 N:List Nat
 m:Nat
 n:Nat
 root:List Nat
 out:Nat→Nat
 fh:Nat→Bool
 nI:Nat→Option Nat
def FI.pq (x:FI) (d:List Nat) (k:Nat):Bool:=d.any fun v=>nth 0 x.root v == v && (et x.N (x.out v)).contains k
def FI.L1 (x:FI) (d:List Nat):List Int:=(List.range x.N.length).map fun k=>if x.pq d k then -2 else -1
def FI.keys (x:FI):List Nat:=(List.range x.n).filter x.fh
def FI.fO (x:FI):Nat→List Int × List Int
 | 0=>(x.L1 x.keys,[-1])
 | h+1=>if nth 0 (x.fO h).1 h = -1 then (lE (x.fO h).1 (et x.N h) (x.fO h).2.length,(x.fO h).2++[(ed x.N h:Int)]) else x.fO h
def FI.L2 (x:FI):List Int:=(x.fO x.N.length).1
def FI.O (x:FI):List Int:=(x.fO x.N.length).2
def FI.fK (x:FI) (L:List Int) (v:Nat):Int:=match x.nI v with|none=>0|some e=>nth 0 L (2*e)
def xf (I:List (List Nat)) (i y:Nat):List (List Nat):=I.set i (nth [] I i++[y])
structure F3 where
 L:List Int
 I:List (List Nat)
 A:List (List Nat)
def FI.a0a (x:FI) (s:F3) (v:Nat):F3 :=
 if nth 0 x.root v=v then
  if x.fh v=true then ⟨lE s.L (et x.N (x.out v)) (x.fK s.L v),xf s.I (x.fK s.L v).toNat (ed x.N (x.out v)),s.A⟩
  else ⟨s.L,s.I,xf s.A (x.fK s.L v).toNat v⟩
 else s
def FI.gE (x:FI):Nat→F3
 | 0=>⟨x.L2,List.replicate x.O.length [],List.replicate x.O.length []⟩
 | v+1=>x.a0a (x.gE v) v
structure FI.Ok (x:FI) (fB:Nat→Nat):Prop where
 perm:jg x.N
 len:x.N.length=2*x.m
 aBG:∀ h,h<x.N.length→fB h<x.n
 aI3:∀ h,h<x.N.length→fB (nth 0 x.N h)=fB (tw h)
 aKW:∀ v,v<x.n→nth 0 x.root v≤v
 aYF:∀ v,v<x.n→nth 0 x.root (nth 0 x.root v)=nth 0 x.root v
 aQa:∀ h,h<x.N.length→nth 0 x.root (fB h)=nth 0 x.root (fB (tw h))
 zJ:∀ v,v<x.n→x.fh v=true→x.out v<x.N.length
 aK9:∀ v,v<x.n→x.fh v=true→fB (x.out v)=v
 aYk:∀ h,h<x.N.length→x.fh (fB h)=true
 aXW:∀ v,v<x.n→x.fh v=true→x.fh (nth 0 x.root v)=true
 alone:∀ v,v<x.n→x.fh v=false→nth 0 x.root v=v
 aPb:∀ v e,v<x.n→x.nI v=some e→e<x.m∧fB (2*e)<v
def FI.W (x:FI) (k:Nat):Prop:=x.pq x.keys k=true
instance (x:FI) (k:Nat):Decidable (x.W k):=by unfold FI.W;infer_instance
section
variable {x:FI} {fB:Nat→Nat} (hx:x.Ok fB)
theorem FI.a7A (x:FI) (k:Nat):x.W k↔∃ v,v<x.n∧x.fh v=true∧nth 0 x.root v=v∧k ∈ et x.N (x.out v):=by
 unfold FI.W FI.pq FI.keys;simp only [List.any_eq_true,List.mem_filter,List.mem_range,Bool.and_eq_true,beq_iff_eq,List.contains_iff_mem]
 constructor
 ·rintro⟨v,⟨a,b⟩,c,d⟩;exact⟨v,a,b,c,d⟩
 ·rintro⟨v,a,b,c,d⟩;exact⟨v,⟨a,b⟩,c,d⟩
 include hx
theorem FI.Ok.aU0 {h:Nat} (hh:h<x.N.length):nth 0 x.root (fB (nth 0 x.N h))=nth 0 x.root (fB h):=by
 rw [hx.aI3 h hh,hx.aQa h hh]
theorem FI.Ok.aIJ {h:Nat} (hh:h<x.N.length):∀ j,nth 0 x.root (fB (it x.N j h))=nth 0 x.root (fB h)
 | 0=>rfl
 | j+1=>by
  show nth 0 x.root (fB (nth 0 x.N (it x.N j h)))=_;rw [hx.aU0 (xk hx.perm hh j),FI.Ok.aIJ hh j]
theorem FI.Ok.aJA {h k:Nat} (hh:h<x.N.length) (hk:k ∈ et x.N h):nth 0 x.root (fB k)=nth 0 x.root (fB h):=by
 obtain⟨j,rfl⟩:=(xo hx.perm hh k).1 hk;exact hx.aIJ hh j
theorem FI.Ok.aHH {h k:Nat} (hh:h<x.N.length) (hk:k ∈ et x.N h):x.W k↔x.W h:=by
 rw [x.a7A,x.a7A];have cW:=uO hx.perm hh hk
 constructor
 ·rintro⟨v,a,b,c,d⟩
  exact⟨v,a,b,c,a9T hx.perm (hx.zJ v a b) d (aHV hx.perm hh hk)⟩
 ·rintro⟨v,a,b,c,d⟩
  exact⟨v,a,b,c,a9T hx.perm (hx.zJ v a b) d hk⟩
theorem FI.Ok.aTf {h:Nat} (hh:h<x.N.length):x.W (ed x.N h)↔x.W h:=hx.aHH hh (a0s hx.perm hh).1
theorem FI.Ok.aCM {k:Nat} (hk:k<x.N.length) (h:x.W k):nth 0 x.root (fB k)<x.n∧x.fh (nth 0 x.root (fB k))=true∧nth 0 x.root (nth 0 x.root (fB k))=nth 0 x.root (fB k)∧k ∈ et x.N (x.out (nth 0 x.root (fB k))):=by
 obtain⟨v,a,b,c,d⟩:=(x.a7A k).1 h;have e:=hx.aJA (hx.zJ v a b) d;rw [hx.aK9 v a b,c] at e;rw [e];exact⟨a,b,c,d⟩
theorem FI.Ok.aA7 {v:Nat} (hv:v<x.n) (hr:nth 0 x.root v=v) (he:x.fh v=true) {k:Nat} (hk:k<x.N.length):k ∈ et x.N (x.out v)↔x.W k∧nth 0 x.root (fB k)=v:=by
 constructor
 ·intro h
  refine⟨(x.a7A k).2 ⟨v,hv,he,hr,h⟩,?_⟩;rw [hx.aJA (hx.zJ v hv he) h,hx.aK9 v hv he,hr]
 ·rintro⟨h1,h2⟩
  have:=(hx.aCM hk h1).2.2.2
  rwa [h2] at this
structure Ph2 (x:FI) (h:Nat) (L O:List Int):Prop where
 len:L.length=x.N.length
 pos:0<O.length
 zero:nth 0 O 0 = -1
 outs:∀ i,0<i→i<O.length→∃ q:Nat,nth 0 O i=(q:Int)∧q<x.N.length∧ed x.N q=q∧¬ x.W q∧nth 0 L q=(i:Int)
 w:∀ k,k<x.N.length→x.W k→nth 0 L k = -2
 low:∀ k,k<x.N.length→¬ x.W k→ed x.N k<h→∃ i:Nat,0<i∧i<O.length∧nth 0 L k=(i:Int)∧nth 0 O i=(ed x.N k:Int)
 high:∀ k,k<x.N.length→¬ x.W k→h≤ed x.N k→nth 0 L k = -1
 many:O.length≤h+1
 omit hx in
theorem FI.yJ (x:FI) (d:List Nat):(x.L1 d).length=x.N.length:=by unfold FI.L1;simp
 omit hx in
theorem FI.a4O (x:FI) (d:List Nat) {k:Nat} (hk:k<x.N.length):nth 0 (x.L1 d) k=if x.pq d k=true then -2 else -1:=by
  rw [bS _ _ _ (by rw [x.yJ];exact hk)];unfold FI.L1;simp
theorem FI.Ok.fO:∀ h,h≤x.N.length→Ph2 x h (x.fO h).1 (x.fO h).2
 | 0,_=>by
  refine⟨x.yJ _,by simp [FI.fO],rfl,fun i h0 hi=>by simp [FI.fO] at hi;omega,fun k hk hw=>?_,fun k hk hw h0=>by omega,fun k hk hw h0=>?_,by simp [FI.fO]⟩
  ·show nth 0 (x.L1 x.keys) k = -2
   rw [x.a4O _ hk,if_pos (show x.pq x.keys k=true from hw)]
  ·show nth 0 (x.L1 x.keys) k = -1
   rw [x.a4O _ hk,if_neg (show ¬ x.pq x.keys k=true from hw)]
 | h+1,hh=>by
  have ih:=FI.Ok.fO h (by omega);have hl:h<x.N.length:=by omega
  unfold FI.fO;generalize x.fO h=s at ih;obtain⟨L,O⟩:=s;simp only at ih ⊢
  by_cases h1:nth 0 L h = -1
  ·rw [if_pos h1]
   have rn:¬ x.W h:=fun hw=>by rw [ih.w h hl hw] at h1;omega
   have hle:ed x.N h=h:=by
    have h2:=aIF hx.perm hl
    by_cases h3:ed x.N h<h
    ·obtain⟨i,i0,_,e,_⟩:=ih.low h hl rn h3;omega
    ·omega
   have j0:∀ k,k<x.N.length→(k ∈ et x.N h↔ed x.N k=h):=fun k hk=>by
    constructor
    ·intro hm;rw [a9U hx.perm hl hm,hle]
    ·intro e;exact aTu hx.perm hl hk (by rw [hle,e])
   have iF:∀ k,k<x.N.length→nth 0 (lE L (et x.N h) O.length) k=if ed x.N k=h then (O.length:Int) else nth 0 L k:=fun k hk=>by
    rw [a2R _ _ _ (fun k hk=>by rw [ih.len];exact uO hx.perm hl hk)]
    by_cases hm:k ∈ et x.N h
    ·rw [if_pos hm,if_pos ((j0 k hk).1 hm)]
    ·rw [if_neg hm,if_neg (fun e=>hm ((j0 k hk).2 e))]
   refine⟨by rw [zH];exact ih.len,by simp,by rw [ju _ _ _ _ ih.pos];exact ih.zero,fun i i0 hi=>?_,fun k hk hw=>?_,fun k hk hw aA6=>?_,fun k hk hw aA3=>?_,by have:=ih.many;simp;omega⟩
   ·rw [List.length_append,List.length_singleton] at hi
    by_cases mg:i<O.length
    ·obtain⟨q,e,q1,q2,q3,q4⟩:=ih.outs i i0 mg
     refine⟨q,by rw [ju _ _ _ _ mg];exact e,q1,q2,q3,?_⟩;rw [iF q q1,if_neg ?_]
     ·exact q4
     ·intro e2
      rw [q2] at e2;subst e2;omega
    ·obtain rfl:i=O.length:=by omega
     exact⟨h,by rw [uE,hle],hl,hle,rn,by rw [iF h hl,if_pos hle]⟩
   ·rw [iF k hk,if_neg ?_]
    ·exact ih.w k hk hw
    ·intro e
     exact rn ((hx.aHH hl ((j0 k hk).2 e)).1 hw)
   ·rw [iF k hk]
    by_cases e:ed x.N k=h
    ·rw [if_pos e]
     exact⟨O.length,ih.pos,by simp,rfl,by rw [uE,hle,e]⟩
    ·rw [if_neg e]
     obtain⟨i,i0,i1,i2,i3⟩:=ih.low k hk hw (by omega);exact⟨i,i0,by simp;omega,i2,by rw [ju _ _ _ _ i1];exact i3⟩
   ·rw [iF k hk,if_neg (by omega)]
    exact ih.high k hk hw (by omega)
  ·rw [if_neg h1]
   refine⟨ih.len,ih.pos,ih.zero,ih.outs,ih.w,fun k hk hw aA6=>?_,fun k hk hw aA3=>ih.high k hk hw (by omega),Nat.le_succ_of_le ih.many⟩
   by_cases e:ed x.N k=h
   ·exfalso
    apply h1;have e2:=a7y hx.perm hk;rw [e] at e2;refine ih.high h hl (fun mM=>hw ?_) (by omega);rw [← hx.aTf hk,e];exact mM
   ·exact ih.low k hk hw (by omega)
theorem FI.Ok.p2:Ph2 x x.N.length x.L2 x.O:=hx.fO _ (Nat.le_refl _)
 omit hx in
theorem aMc {I:List (List Nat)} {i:Nat} (hi:i<I.length) (y z:Nat):(xf I i y).flatten.count z=I.flatten.count z+if z=y then 1 else 0:=by
  have e1:I=I.take i++nth [] I i::I.drop (i+1):=by
   rw [bS _ _ _ hi];simp
  have hl:(I.take i).length=i:=by simp;omega
  unfold xf;generalize nth [] I i=a at e1;generalize I.take i=A at e1 hl;generalize I.drop (i+1)=B at e1;subst e1;subst hl;rw [List.set_append_right _ _ (Nat.le_refl _),Nat.sub_self,List.set_cons_zero];simp only [List.flatten_append,List.flatten_cons,List.count_append,List.count_cons,List.count_nil]
  by_cases h:z=y
  ·subst h;simp;omega
  ·have:¬ y=z:=fun e=>h e.symm
   simp [h,this]
 omit hx in
theorem aAT {I:List (List Nat)} {i:Nat} (hi:i<I.length) (y k:Nat):nth [] (xf I i y) k=if k=i then nth [] I i++[y] else nth [] I k:=by
  unfold xf;rw [wO _ _ _ _ _ hi]
 omit hx in
theorem aIR (I:List (List Nat)) (i y:Nat):(xf I i y).length=I.length:=by unfold xf;simp
structure Ph3 (x:FI) (fB:Nat→Nat) (v:Nat) (s:F3):Prop where
 len:s.L.length=x.N.length
 vA:s.I.length=x.O.length
 vY:s.A.length=x.O.length
 nw:∀ k,k<x.N.length→¬ x.W k→nth 0 s.L k=nth 0 x.L2 k
 a1w:∀ k,k<x.N.length→x.W k→nth 0 x.root (fB k)<v→∃ i:Nat,i<x.O.length∧nth 0 s.L k=(i:Int)∧ed x.N k ∈ nth [] s.I i
 aFE:∀ k,k<x.N.length→x.W k→v≤nth 0 x.root (fB k)→nth 0 s.L k = -2
 im:∀ i,i<x.O.length→∀ y ∈ nth [] s.I i,y<x.N.length∧ed x.N y=y∧x.W y∧nth 0 x.root (fB y)<v∧nth 0 s.L y=(i:Int)
 a1L:∀ y,s.I.flatten.count y≤1
 am:∀ i,i<x.O.length→∀ u ∈ nth [] s.A i,u<v
 a1Y:∀ u,s.A.flatten.count u=if u<v∧nth 0 x.root u=u∧x.fh u=false then 1 else 0
theorem FI.Ok.aIH {v:Nat} {s:F3} (hv:v<x.n) (ih:Ph3 x fB v s):∃ i:Nat,i<x.O.length∧x.fK s.L v=(i:Int):=by
 unfold FI.fK;cases hb:x.nI v with
 | none=>exact⟨0,hx.p2.pos,rfl⟩
 | some e =>
  obtain⟨h1,h2⟩:=hx.aPb v e hv hb;have hk:2*e<x.N.length:=by rw [hx.len];omega
  by_cases hw:x.W (2*e)
  ·have h3:=hx.aKW _ (hx.aBG _ hk)
   obtain⟨i,a,b,_⟩:=ih.a1w _ hk hw (by omega);exact⟨i,a,b⟩
  ·obtain⟨i,a,b,c,_⟩:=hx.p2.low _ hk hw (a0R hx.perm hk)
   exact⟨i,b,(ih.nw _ hk hw).trans c⟩
 omit hx in
theorem aWF {I:List (List Nat)} {y:Nat} (h:y ∈ I.flatten):∃ i,i<I.length∧y ∈ nth [] I i:=by
  obtain⟨l,hl,hy⟩:=List.mem_flatten.1 h;obtain⟨i,hi,rfl⟩:=List.getElem_of_mem hl;exact⟨i,hi,by rw [bS _ _ _ hi];exact hy⟩
theorem FI.Ok.gE:∀ v,v≤x.n→Ph3 x fB v (x.gE v)
 | 0,_=>by
  have hp:=hx.p2
  have rh:∀ i,nth [] (List.replicate x.O.length ([]:List Nat)) i=[]:=fun i=>by
   simp only [nth,List.getD_eq_getElem?_getD,List.getElem?_replicate];split <;> rfl
  refine⟨hp.len,by simp [FI.gE],by simp [FI.gE],fun k hk hw=>rfl,fun k hk hw h0=>by omega,fun k hk hw h0=>hp.w k hk hw,fun i hi y hy=>?_,fun y=>?_,fun i hi y hy=>?_,fun u=>?_⟩
  ·simp only [FI.gE] at hy;rw [rh] at hy;cases hy
  ·simp [FI.gE]
  ·simp only [FI.gE] at hy;rw [rh] at hy;cases hy
  ·simp [FI.gE]
 | v+1,kU=>by
  have hv:v<x.n:=by omega
  have ih:=FI.Ok.gE v (by omega);show Ph3 x fB (v+1) (x.a0a (x.gE v) v);generalize x.gE v=s at ih;obtain⟨f,hf,lU⟩:=hx.aIH hv ih;unfold FI.a0a
  by_cases hr:nth 0 x.root v=v
  ·rw [if_pos hr]
   by_cases he:x.fh v=true
   ·rw [if_pos he,lU]
    have cD:=hx.zJ v hv he
    have iF:∀ k,k<x.N.length→nth 0 (lE s.L (et x.N (x.out v)) (f:Int)) k=if x.W k∧nth 0 x.root (fB k)=v then (f:Int) else nth 0 s.L k:=fun k hk=>by
     rw [a2R _ _ _ (fun k hk=>by rw [ih.len];exact uO hx.perm cD hk)]
     by_cases hm:k ∈ et x.N (x.out v)
     ·rw [if_pos hm,if_pos ((hx.aA7 hv hr he hk).1 hm)]
     ·rw [if_neg hm,if_neg (fun e=>hm ((hx.aA7 hv hr he hk).2 e))]
    obtain⟨y,hy⟩:∃ y,ed x.N (x.out v)=y:=⟨_,rfl⟩;have hyo:y ∈ et x.N (x.out v):=by rw [← hy];exact (a0s hx.perm cD).1
    have iT:=uO hx.perm cD hyo;obtain⟨hyw,hyr⟩:=(hx.aA7 hv hr he iT).1 hyo;have hyy:ed x.N y=y:=by rw [← hy];exact a7y hx.perm cD
    have hfi:f<s.I.length:=by rw [ih.vA];exact hf
    rw [hy,Int.toNat_natCast];refine⟨by rw [zH];exact ih.len,by rw [aIR];exact ih.vA,ih.vY,fun k hk hw=>?_,fun k hk hw aA6=>?_,fun k hk hw aA3=>?_,fun i hi z hz=>?_,fun z=>?_,fun i hi u hu=>Nat.lt_succ_of_lt (ih.am i hi u hu),fun u=>?_⟩
    ·rw [iF k hk,if_neg (fun e=>hw e.1)];exact ih.nw k hk hw
    ·rw [iF k hk]
     by_cases e:nth 0 x.root (fB k)=v
     ·rw [if_pos ⟨hw,e⟩]
      refine⟨f,hf,rfl,?_⟩;rw [aAT hfi,if_pos rfl]
      have:ed x.N k=y:=by
       rw [← hy];exact a9U hx.perm cD ((hx.aA7 hv hr he hk).2 ⟨hw,e⟩)
      rw [this];simp
     ·rw [if_neg (fun h=>e h.2)]
      obtain⟨i,a,b,c⟩:=ih.a1w k hk hw (by omega);refine⟨i,a,b,?_⟩;rw [aAT hfi]
      split
      ·rename_i e2;subst e2;exact List.mem_append_left _ c
      ·exact c
    ·rw [iF k hk,if_neg (fun h=>by omega)]
     exact ih.aFE k hk hw (by omega)
    ·rw [aAT hfi] at hz
     by_cases hfz:i=f
     ·rw [if_pos hfz] at hz
      subst hfz
      rcases List.mem_append.1 hz with h1|h1
      ·obtain⟨a,b,c,d,e⟩:=ih.im i hi z h1
       exact⟨a,b,c,by omega,by rw [iF z a,if_neg (fun h=>by omega)];exact e⟩
      ·rw [List.mem_singleton] at h1
       subst h1;exact⟨iT,hyy,hyw,by omega,by rw [iF z iT,if_pos ⟨hyw,hyr⟩]⟩
     ·rw [if_neg hfz] at hz
      obtain⟨a,b,c,d,e⟩:=ih.im i hi z hz;exact⟨a,b,c,by omega,by rw [iF z a,if_neg (fun h=>by omega)];exact e⟩
    ·rw [aMc hfi]
     by_cases e:z=y
     ·subst e
      rw [if_pos rfl]
      have:List.count z s.I.flatten=0:=by
       rw [List.count_eq_zero];intro hm;obtain⟨i,hi,gv⟩:=aWF hm;rw [ih.vA] at hi;have:=(ih.im i hi z gv).2.2.2.1;omega
      omega
     ·rw [if_neg e];exact ih.a1L z
    ·rw [ih.a1Y u]
     by_cases e:u=v
     ·subst e
      rw [if_neg (by omega),if_neg (by rw [he];simp)]
     ·by_cases h1:u<v∧nth 0 x.root u=u∧x.fh u=false
      ·rw [if_pos h1,if_pos ⟨by omega,h1.2⟩]
      ·rw [if_neg h1,if_neg (fun h=>h1 ⟨by omega,h.2⟩)]
   ·rw [if_neg he,lU,Int.toNat_natCast]
    have fM:x.fh v=false:=by simpa using he
    have hfa:f<s.A.length:=by rw [ih.vY];exact hf
    have a0p:∀ k,k<x.N.length→x.W k→nth 0 x.root (fB k)≠v:=fun k hk hw e=>by
     have:=(hx.aCM hk hw).2.1;rw [e] at this;exact he this
    refine⟨ih.len,ih.vA,by rw [aIR];exact ih.vY,ih.nw,fun k hk hw aA6=>ih.a1w k hk hw (by have:=a0p k hk hw;omega),fun k hk hw aA3=>ih.aFE k hk hw (by omega),fun i hi y hy=>?_,ih.a1L,fun i hi u hu=>?_,fun u=>?_⟩
    ·obtain⟨a,b,c,d,e⟩:=ih.im i hi y hy
     exact⟨a,b,c,by omega,e⟩
    ·rw [aAT hfa] at hu
     split at hu
     ·rename_i e2
      subst e2
      rcases List.mem_append.1 hu with h1|h1
      ·have:=ih.am i hi u h1;omega
      ·rw [List.mem_singleton] at h1;omega
     ·have:=ih.am i hi u hu;omega
    ·rw [aMc hfa,ih.a1Y u]
     by_cases e:u=v
     ·subst e
      rw [if_neg (by omega),if_pos rfl,if_pos ⟨by omega,hr,fM⟩]
     ·rw [if_neg e]
      by_cases h1:u<v∧nth 0 x.root u=u∧x.fh u=false
      ·rw [if_pos h1,if_pos ⟨by omega,h1.2⟩]
      ·rw [if_neg h1,if_neg (fun h=>h1 ⟨by omega,h.2⟩)]
  ·rw [if_neg hr]
   have a0p:∀ k,k<x.N.length→x.W k→nth 0 x.root (fB k)≠v:=fun k hk hw e=>by
    have:=(hx.aCM hk hw).2.2.1;rw [e] at this;exact hr this
   refine⟨ih.len,ih.vA,ih.vY,ih.nw,fun k hk hw aA6=>ih.a1w k hk hw (by have:=a0p k hk hw;omega),fun k hk hw aA3=>ih.aFE k hk hw (by omega),fun i hi y hy=>?_,ih.a1L,fun i hi u hu=>by have:=ih.am i hi u hu;omega,fun u=>?_⟩
   ·obtain⟨a,b,c,d,e⟩:=ih.im i hi y hy
    exact⟨a,b,c,by omega,e⟩
   ·rw [ih.a1Y u]
    by_cases e:u=v
    ·subst e
     rw [if_neg (by omega),if_neg (fun h=>hr h.2.1)]
    ·by_cases h1:u<v∧nth 0 x.root u=u∧x.fh u=false
     ·rw [if_pos h1,if_pos ⟨by omega,h1.2⟩]
     ·rw [if_neg h1,if_neg (fun h=>h1 ⟨by omega,h.2⟩)]
end
end Go.Hp
