/- Of CY. -/
import Derived.Test.YtjeofihncbegfaaGreatQ51
import Derived.Test.YtjeofihncbegfaaGreatQ52
set_option maxRecDepth 100000
set_option maxHeartbeats 16000000
set_option linter.unusedVariables false
set_option linter.unusedSimpArgs false
namespace Go.Proofs
open Go.Proofs.Tryz
open Go.RowKit Go.Hp
def rI (g n:Nat) (xs:List Int):Chunk:=.row (.slice (some ⟨g,0,none⟩) n n) 3 1 n (iv xs)
theorem cycles_walk (al am ap:Option Addr) (nl cl nm cm np cp:Nat) (xl xm xp:List Int) (w:World) (hl:Ints w (Old w) (.slice al nl cl) xl) (hm:Ints w (Old w) (.slice am nm cm) xm) (hp:Ints w (Old w) (.slice ap np cp) xp) :
 Calls Tryz.prog 6 #[.slice al nl cl,.slice am nm cm,.slice ap np cp] w fun e w'=>e=.returned (.bool true)∧Below w.heap.size w w':=by
 have hS:=Heap.startD w;have hD0:=nd_drawn w;have hp0:=Pure.startD w (Old w);have hO0:=fun k (h:Old w k)=>h
 have hF0:=fun k (h:Old w k)=>h
 go_enter func6,ntmps6
 go_wp2_with (fail)
 refine (made_any al am ap nl cl nm cm np cp xl xm xp _ hl hm hp).mono ?_;rintro e w1 ⟨os,gs,V,es,⟨a1,n1,c1⟩,⟨a2,n2,c2⟩,⟨a3,n3,c3⟩,⟨a4,n4,c4⟩,⟨b1,m1,d1⟩,⟨b2,m2,d2⟩,⟨b3,m3,d3⟩,⟨b4,m4,d4⟩,S1,rfl,hgen,hq,hL1,hA,hP⟩;have hos:∀ t ∈ os,t.ok:=fun t ht=>(hgen.hos t ht).1
 have hgs:∀ g ∈ gs,g.ok:=fun g hg=>(hgen.hgs g hg).1
 obtain⟨rs,prs,hAI⟩:=hP.arrIn hos hgs hL1 hA;obtain⟨hdir,hne⟩:=ArrP.dirs hP hos;have hvl:=hP.vlen;have hel:=hP.elen;have hV:=hP.arr.sv;have hlo:=hgen.lo;have hlg:=hgen.lg
 have hvl2:V.length≤628:=by
  have:os.length*os.length≤24*24:=Nat.mul_le_mul hlo hlo;omega
 have hel2:es.length≤15072:=by
  have:os.length*V.length≤24*628:=Nat.mul_le_mul hlo hvl2;omega
 clear hvl hel hlo hlg hgen hA hP hos hgs;replace hS:=hS.pcl hF0 hO0 hp0 hq;obtain⟨F1,hF1,-,hp1,hO1,hS⟩:=hS;simp only [sv]
 go_wp2_with (with_reducible first|refine alA hS zeroValue28 fun b7 wb7 hS=>?_|refine alA hS zeroValue32 fun b8 wb8 hS=>?_|refine stA 1 hS sizeOf28 fun _ hS=>?_|refine stA 2 hS sizeOf32 fun _ hS=>?_|refine ldA 1 hS isAgg28 sizeOf28 ?_)
 refine (fnew_any a1 a2 a3 a4 n1 c1 n2 c2 n3 c3 n4 c4 rs es prs V 300 _ S1 (hAI.at hS hF1) (by decide) hdir hne hV (by omega) (by omega)).mono ?_;rintro e w3 ⟨RL,⟨an,nn,cn⟩,⟨aL,nL,cL⟩,⟨ao,no,co⟩,⟨ai,ni,ci⟩,⟨aa,na,ca⟩,S3,rfl,hRl,hRL,hq3,hL3,hF⟩;have hxk:=faceIn_ok (out:=fun v=>outL es (nth [] RL v)) hV hAI.ab (RLok.of hne hRl hRL) (fun v _ h=>outL_mem h);have hg:=hxk.good;obtain⟨f,hf⟩:∃ f,(faceIn V es RL fun v=>outL es (nth [] RL v)).fr=f:=⟨_,rfl⟩;rw [hf] at hg hF;replace hg:FGood es.length V.length (orgE es) (fun v=>decide (nth [] RL v≠[])) f:=hg;have hn3:=hAI.n3;have hn4:=hAI.n4;have hAI2:=((hAI.at hS hF1).move (w:=nd _) (hAI.at hS hF1).live (fun _ _=>rfl)).grow hq3;clear hxk hf hRl hAI;have hp2:=(hp1.step hS hO1 hF1).transN hD0 hq3;obtain⟨F3,hF3,hOO3,hS3⟩:=hS.pcallN hD0 hF1 hq3;have hO3:=fun k h=>hOO3 k (hO1 k h)
 clear hS;have hS:=hS3;clear hS3 hOO3 hq3 hp1 hO1 hF1 hq hL1 hp0 hO0 hF0;subst hn3 hn4;simp only [sv];have w2:IntKind.i64.wrap (2*(es.length:Int))=2*(es.length:Int):=w6
 go_wp2_with (with_reducible first|refine alA hS zeroValue37 fun b10 wb10 hS=>?_|refine stA 3 hS sizeOf37 fun _ hS=>?_|refine ldA 3 hS isAgg37 sizeOf37 ?_|refine ldB 1 hS isAgg26 ?_|refine ldB 1 hS isAgg25 ?_)
 have e2:((2*es.length:Nat):Int)=2*(es.length:Int):=by omega
 have hgd:=good_any (an,nn,cn) (aL,nL,cL) (ao,no,co) (ai,ni,ci) (aa,na,ca) f es.length V.length (2*es.length) _ _ _ ((hF.at hS hF3).old) hg rfl (by omega) (by omega);rw [e2] at hgd;refine hgd.mono ?_;clear hgd e2;rintro e w4 ⟨rfl,hq4⟩;replace hS:=hS.belowD hD0 hq4.below;clear hq4;simp only [];have hLf:Ints w3 F3 (.slice aL nL cL) f.L:=Ints.weaken hF.l hF3;have hNf:Nats w3 F3 (.slice an nn cn) f.N:=Nats.weaken hF.n hF3;have hOf:Ints w3 F3 (.slice ao no co) f.O:=Ints.weaken hF.o hF3;have hIf:RowsOf w3 F3 (.slice ai ni ci) f.I:=RowsOf.weaken hF.i hF3;have hAf:RowsOf w3 F3 (.slice aa na ca) f.A:=RowsOf.weaken hF.a hF3;have hOl:no=f.O.length:=Ints.len hF.o;have hnn:nn=2*es.length:=by rw [Nats.len hNf,hg.nlen]
 have hnL:nL=2*es.length:=by rw [hLf.len,hg.llen]
 have hni:ni=no:=by obtain⟨R,h1,h2,_⟩:=hIf;obtain⟨_,a,c,e,_⟩:=h2;cases e;rw [hg.ilen,hOl]
 have hna:na=no:=by obtain⟨R,h1,h2,_⟩:=hAf;obtain⟨_,a,c,e,_⟩:=h2;cases e;rw [hg.alen,hOl]
 subst hnn hnL hni hna;have hil:f.I.length=na:=by rw [hg.ilen,hOl]
 have hal:f.A.length=na:=by rw [hg.alen,hOl]
 have hna2:na≤60001:=by have:=hg.olen;omega
 have hcI:=fun i (hi:i<na)=>rows_cell hIf (i:=i) (by rw [hil];exact hi)
 have hcA:=fun i (hi:i<na)=>rows_cell hAf (i:=i) (by rw [hal];exact hi)
 rw [hil] at hcI;rw [hal] at hcA;have hNl:=hg.nlen;have hper:=hg.perm;have hE5:=hAI2.hE.weaken hF3;have hEs5:=hAI2.hEs.weaken hF3;have hEl:=hEs5.len;have hcyc:=fun (h:Nat) (hh:h<f.N.length) w'=>cycle_any hper hh (by omega) an aL ao ai aa cn (2*es.length) cL na co na ci na ca w'
 rw [hNl] at hcyc;have haro:=fun (v:Nat) (hv:v<V.length) w' hL h1 h2=>around_any a1 a2 a3 a4 n1 c1 n2 c2 V.length c3 es.length c4 rs es v w' F3 hL h1 h2 hdir (by omega) hv (by omega)
 have hemp:∀ v l,v<V.length→AroundL es v l→(l.length=0↔nth [] RL v=[]):=fun v l hv hl=>by
  have:=(hl.perm.trans (hRL v hv).perm.symm).length_eq;rw [this,List.length_eq_zero_iff]
 have haw:∀ v l,v<V.length→AroundL es v l→nth 0 (cnt (prefTo f.A na) V.length) v=if l.length=0 then 1 else 0:=fun v l hv hl=>by
  rw [nth_cnt hv,hOl,hg.aonce hv]
  by_cases h:l.length=0
  ·rw [if_pos h];simp [(hemp v l hv hl).1 h]
  ·have:nth [] RL v≠[]:=fun e=>h ((hemp v l hv hl).2 e)
   rw [if_neg h];simp [this]
 have hon:∀ i,0<i→i<na→∃ q:Nat,nth 0 f.O i=(q:Int)∧lst f i=nth [] f.I i++[q]:=fun i h0 h1=>by
  obtain⟨q,e1,e2,_⟩:=hg.oon h0 (by rw [← hOl];exact h1);exact⟨q,e1,by unfold lst ouL;rw [if_neg (by omega),e2]⟩
 have ho0:lst f 0=nth [] f.I 0:=by unfold lst ouL;simp
 have hlm:∀ i,i<na→∀ k,k<(lst f i).length→nth 0 (lst f i) k<2*es.length∧nth 0 f.L (nth 0 (lst f i) k)=(i:Int):=fun i hi k hk=>by
  obtain⟨e1,_,e2⟩:=hg.lmem (i:=i) (by rw [← hOl];exact hi) (nth_mem 0 _ k hk);exact⟨e1,e2⟩
 have hlmx:∀ i,i<na→∀ x ∈ lst f i,x≤1000000:=fun i hi x hx=>by
  have:=(hg.lmem (i:=i) (by rw [← hOl];exact hi) hx).1;omega
 have ham:∀ i,i<na→∀ k,k<(nth [] f.A i).length→nth 0 (nth [] f.A i) k<V.length:=fun i hi k hk=>hg.am i (by rw [← hOl];exact hi) _ (nth_mem 0 _ k hk)
 have hIl:∀ i,i<na→(nth [] f.I i).length≤60000:=fun i hi=>by have:=hg.ilen_le (i:=i) (by rw [← hOl];exact hi);omega
 have hAl:∀ i,i<na→(nth [] f.A i).length≤60000:=fun i hi=>by have:=hg.alen_le (i:=i) (by rw [← hOl];exact hi);omega
 have hnle:∀ i k y,i<na→y<2*es.length→(lstTo f i++(lst f i).take k).count y≤1:=fun i k y hi hy=>hg.nle k (by rw [← hOl];exact hi) hy
 have hale:∀ i k u,i<na→u<V.length→(prefTo f.A i++(nth [] f.A i).take k).count u≤1:=fun i k u hi hu=>hg.ale k (by rw [← hOl];exact hi) hu (hg.aonce hu)
 have honce:∀ y,y<2*es.length→nth 0 (cnt (lstTo f na) (2*es.length)) y=if leastF f.N y=y then 1 else 0:=fun y hy=>by
  rw [nth_cnt hy,hOl,hg.once hy];split <;> rfl
 have hseen:∀ y,y<2*es.length→nth 0 (cnt f.N (2*es.length)) y=1:=fun y hy=>by
  rw [nth_cnt hy,hper.count (by omega)];rfl
 have hnx:∀ h,h<2*es.length→nth 0 f.N h<2*es.length∧nth 0 (bgn es es.length) (nth 0 f.N h)=nth 0 (bgn es es.length) (tw h)∧nth 0 f.L (nth 0 f.N h)=nth 0 f.L h∧tw h<2*es.length:=fun h hh=>by
  have h1:=hper.lt h (by omega);have h2:=tw_lt hh;rw [hNl] at h1;exact⟨h1,by rw [nth_bgn _ _ _ h1,nth_bgn _ _ _ h2];exact hg.nxorg h hh,hg.cyc h hh,h2⟩
 have horb:∀ h,h<2*es.length→0<(orb f.N h).length∧(orb f.N h).length≤60000∧(∀ x ∈ orb f.N h,x≤1000000)∧leastF f.N h<2*es.length∧leastF f.N (leastF f.N h)=leastF f.N h:=fun h hh=>by
  have hh2:h<f.N.length:=by omega
  obtain⟨p0,p1,_⟩:=per_spec hper hh2;have:(orb f.N h).length=per f.N h:=by simp [orb]
  exact⟨by omega,by omega,fun x hx=>by have:=orb_lt hper hh2 hx;omega,by have:=leastF_lt hper hh2;omega,least_least hper hh2⟩
 have hab:=hAI2.ab
 have hbx:∀ x ∈ bgn es es.length,x≤1000000:=fun x hx=>by
  obtain⟨j,hj,rfl⟩:∃ j,j<(bgn es es.length).length∧nth 0 (bgn es es.length) j=x:=by
   obtain⟨j,hj,e⟩:=List.getElem_of_mem hx;exact⟨j,hj,by rw [nth_eq _ _ _ hj];exact e⟩
  rw [bgn_len] at hj;rw [nth_bgn _ _ _ hj];have:=orgE_lt hab hj;omega
 have hN3:f.N.take (2*es.length)=f.N:=by rw [← hNl,List.take_length]
 have hNt:∀ h,h<2*es.length→f.N.take (h+1)=f.N.take h++[nth 0 f.N h]:=fun h hh=>take_snoc 0 f.N h (by omega)
 have hNc:∀ h k,(f.N.take h).count k≤60000:=fun h k=>by
  have h1:(f.N.take h).count k≤(f.N.take h).length:=List.count_le_length;have h2:(f.N.take h).length≤f.N.length:=List.length_take_le' ..;omega
 have hpE:=Hd hp2;obtain⟨M,hM⟩:∃ M,es.length=M:=⟨_,rfl⟩;simp only [hM] at hS hNf hLf hE5 hEl hcyc haro hlm hnle honce hseen hnx horb hbx hN3 hNt hel2 w2 ⊢;clear hF hg hp2 hIf hAf hAI2 hab hemp hRL hne hV hdir hNl hper;replace hcI:=Hd hcI;replace hcA:=Hd hcA;replace hcyc:=Hd hcyc;replace haro:=Hd haro;replace haw:=Hd haw;replace hon:=Hd hon;replace ho0:=Hd ho0;replace hlm:=Hd hlm;replace hlmx:=Hd hlmx;replace ham:=Hd ham;replace hIl:=Hd hIl;replace hAl:=Hd hAl;replace hnle:=Hd hnle;replace hale:=Hd hale;replace honce:=Hd honce;replace hseen:=Hd hseen;replace hnx:=Hd hnx;replace horb:=Hd horb;replace hbx:=Hd hbx;replace hN3:=Hd hN3;replace hNt:=Hd hNt;replace hNc:=Hd hNc;replace hM:=Hd hM;replace hil:=Hd hil;replace hal:=Hd hal;replace hOl:=Hd hOl;replace hEs5:=Hd hEs5;replace hEl:=Hd hEl;obtain⟨L,hL⟩:∃ L:List Chunk→List Chunk,∀ r,L r=.frz F3 w3::.blk b7 (.cells #[.slice a1 n1 c1,.slice a2 n2 c2,.slice a3 V.length c3,.slice a4 M c4] 28 (0,0))::.blk b8 (.cells #[.slice b1 m1 d1,.slice b2 m2 d2,.slice b3 m3 d3,.slice b4 m4 d4] 32 (0,0))::.blk b10 (.cells #[.slice an (2*M) cn,.slice aL (2*M) cL,.slice ao na co,.slice ai na ci,.slice aa na ca] 37 (0,0))::r:=⟨_,fun _=>rfl⟩;replace hL:=Hd hL;have hS:=hS.addNil 3 1;simp only [NRH] at hS;go_wp2
 try try simp only [NRG]
 go_loopw [13,14] (fun v13 v14 wr=>∃ (i:Nat) (ad:Option Addr) (c:Nat),i≤M∧v14=.int .i64 (i:Int)∧v13=.slice ad (2*i) c∧Heap (nd w) wr (L [.row (.slice ad (2*i) c) 3 1 (2*i) (iv (zs (bgn es i)))])) (fun _ v14 _=>M - (intOf v14).toNat)
 case atStart=>exact⟨0,none,0,by omega,rfl,rfl,by rw [hL.out];exact hS⟩
 case round =>
  clear hS;obtain⟨i,ad,c,hi,rfl,rfl,hS⟩:=hrel;rw [hL.out] at hS
  by_cases hil2:i<M
  ·have hce:=flat_cell ec_len er0 (show i<rs.length by rw [hEl.out];exact hil2)
   have hE:=hEs5.out.el i (by rw [hM.out];exact hil2);obtain⟨r,hr⟩:∃ r,nth er0 rs i=r:=⟨_,rfl⟩;rw [hr] at hce hE;have hz:iv (zs (bgn es (i+1)))=iv (zs (bgn es i))++[.int .i64 (r.a:Int),.int .i64 (r.b:Int)]:=by simp [bgn,iv,zs,hE.a,hE.b]
   have h2:2*(i+1)=2*i+2:=by omega
   replace hz:=Hd hz;replace h2:=Hd h2;clear hE hr
   go_wp2_with (with_reducible refine ldB 1 hS isAgg26 ?_)
   refine rg0 [.p 0,.p 1,.r 2,.p 3,.p 4,.p 5,.r 6,.p 7,.r 8,.p 9,.p 10,.p 11,.r 12,.e 13,.m 14,.p 15] [14] hS fun w1 hS=>?_
   repeat (with_reducible first|refine sldB 1 isAgg26 ?_|refine sixE underlying26 sizeOf53 hE5 hce fun bq oq hcellq=>?_|refine sld0 isAgg3 ?_|refine sldJ 1 isAgg3 ?_|refine spL ?_)
   refine exL ?_
   ((with_reducible refine g_bs (T:=22) ?_);refine seq_buildSlice (k:=1) (z:=.int .i64 0) (len:=2) hS underlying22 sizeOf3 zeroValue3 (by decide) (by decide) (fill2n _ _) (fun b11 wb11 hS=>?_);simp only [NRM];simp only [NRH] at hS)
   refine ext_end hS.sb ?_;refine mvs ?_;refine muL ?_
   ((with_reducible refine g_app ?_);refine seq_append_lit (t:=22) (H:=[_,_,_,_,_]) 4 hS underlying22 infoI rfl (by decide) rfl rfl rfl rfl (by simp [Value.oneCell']) (by omega) (by unfold maxLen;omega) (fun ad2 cp2 _ hS=>?_);simp only [NRM];simp only [NRH] at hS)
   refine mut_end ?_;refine mvs ?_;refine snL ?_;go_wp2;go_roundw
   case rel=>exact⟨i+1,ad2,cp2,by omega,by simp,by rw [h2.out],by rw [hL.out,hz.out,h2.out];exact hS⟩
   case measure=>simp [intOf];omega
  ·obtain rfl:M=i:=by omega
   rename World=>W1
   have hB:Nats W1 _ (.slice ad (2*M) c) (bgn es M):=Nats.mk8 (hS.rowSl 4 rfl) hbx.out;have hS:=hS.freeze 4 rfl;simp only [NRH] at hS;obtain⟨G1,hG1⟩:∃ G,(Chunk.row (.slice ad (2*M) c) 3 1 (2*M) (iv (zs (bgn es M)))).has=G:=⟨_,rfl⟩;rw [hG1] at hS hB;clear hG1 hbx
   go_wp2_with (first|(with_reducible refine ldB 1 hS isAgg26 ?_)|((with_reducible refine g_mks' (T:=22) ?_);refine seq_make_ints (n:=2*M) (T:=22) (E:=3) hS underlying22 infoI rfl rfl (by omega) (by omega) (fun b12 wb12 hS=>?_);simp only [NRM];simp only [NRH] at hS))
   rw [← cnt_nil] at hS
   try try simp only [NRG]
   go_loopw [16] (fun v16 wr=>∃ h:Nat,h≤2*M∧v16=.int .i64 (h:Int)∧Heap (nd w) wr (L [.frz G1 W1,rI b12 (2*M) (cnt (f.N.take h) (2*M))])) (fun v16 _=>2*M - (intOf v16).toNat)
   case atStart=>exact⟨0,by omega,rfl,by rw [hL.out];exact hS⟩
   case round =>
    clear hS;obtain⟨h,hh,rfl,hS⟩:=hrel;rw [hL.out] at hS
    by_cases hhl:h<2*M
    ·obtain⟨x1,x2,x3,x4⟩:=hnx.out h hhl
     obtain⟨k,hk⟩:∃ k,nth 0 f.N h=k:=⟨_,rfl⟩;rw [hk] at x1 x2 x3;have hc0:nth 0 (cnt (f.N.take h) (2*M)) k=(((f.N.take h).count k:Nat):Int):=nth_cnt x1;have hset:(cnt (f.N.take h) (2*M)).set k ((((f.N.take h).count k:Nat):Int)+1)=cnt (f.N.take (h+1)) (2*M):=by rw [hNt.out h hhl,hk];exact cnt_add x1
     have hcc:=hNc.out h k;obtain⟨c0,hc1⟩:∃ c0,(f.N.take h).count k=c0:=⟨_,rfl⟩;rw [hc1] at hc0 hset hcc;have u1:IntKind.i64.wrap ((c0:Int)+1)=(c0:Int)+1:=w6;have q2:=tmod2 h;obtain⟨t,ht⟩:∃ t,tw h=t:=⟨_,rfl⟩;rw [ht] at x2 x4;have hr:h % 2=0∧t=h+1∨h % 2=1∧t+1=h:=by rw [← ht];unfold tw;split <;> omega
     obtain⟨r,hr0⟩:∃ r,h % 2=r:=⟨_,rfl⟩;rw [hr0] at q2 hr;have e1:IntKind.i64.wrap ((h:Int)+1)=(h:Int)+1:=w6;have e2:IntKind.i64.wrap (2*(r:Int))=2*(r:Int):=w6;have e3:IntKind.i64.wrap ((h:Int)+1 - 2*(r:Int))=(t:Int):=w7;have e4:IntKind.i64.wrap (r:Int)=(r:Int):=w6;obtain⟨a,ha⟩:∃ a,nth 0 (bgn es M) t=a:=⟨_,rfl⟩;rw [ha] at x2;obtain⟨lf,hlf⟩:∃ lf,nth 0 f.L h=lf:=⟨_,rfl⟩;rw [hlf] at x3;have d1:((a:Int) != (a:Int))=false:=by simp
     have d2:(lf != lf)=false:=by simp
     replace hset:=Hd hset;replace hc1:=Hd hc1;replace ht:=Hd ht;replace hr0:=Hd hr0;replace hr:=Hd hr
     go_wp2_with (with_reducible first|refine ldB 3 hS isAgg22 ?_|refine ixN underlying22 sizeOf3 fun _ _ _=>?_|refine ld0 hS isAgg3 ?_|refine ixS underlying22 sizeOf3 ?_|refine ldR 5 hS isAgg3 ?_|refine stR 5 hS sizeOf3 fun _ hS=>?_)
     refine rg0 [.p 0,.p 1,.p 2,.r 3,.p 4,.p 5,.p 6,.p 7,.p 8,.p 9,.p 10,.p 11,.r 12,.p 13,.p 14,.p 15,.r 16,.p 17,.p 18,.r 19,.p 20,.r 21,.p 22,.p 23,.r 24,.p 25,.p 26] [] hS fun w1 hS=>?_
     repeat (with_reducible first|refine sldB 3 isAgg22 ?_|refine sixN underlying22 sizeOf3 fun _ _ _=>?_|refine sixI underlying22 sizeOf3 fun _ _ _=>?_|refine sld0 isAgg3 ?_|refine spL ?_)
     refine snL ?_;go_wp2;go_roundw
     case rel=>exact⟨h+1,by omega,by simp,by rw [hL.out,← hset.out,← hk];exact hS⟩
     case measure=>simp [intOf];omega
    ·have hh2:h=2*M:=by omega
     rw [hh2,hN3.out] at hS;have d9:decide (h<2*M)=false:=by simp;omega
     have d8:decide ((h:Int)<2*(M:Int))=false:=by simp;omega
     clear hnx hNt hNc hN3 hB hh hhl hh2
     go_wp2_with (first|(with_reducible refine ldB 1 hS isAgg25 ?_)|((with_reducible refine g_mks' (T:=22) ?_);refine seq_make_ints (n:=2*M) (T:=22) (E:=3) hS underlying22 infoI rfl rfl (by omega) (by omega) (fun b13 wb13 hS=>?_);simp only [NRM];simp only [NRH] at hS)|((with_reducible refine g_mks' (T:=22) ?_);refine seq_make_ints (n:=V.length) (T:=22) (E:=3) hS underlying22 infoI rfl rfl (by omega) (by omega) (fun b14 wb14 hS=>?_);simp only [NRM];simp only [NRH] at hS))
     rw [← cnt_nil,← cnt_nil] at hS
     try try simp only [NRG]
     go_loopw [20] (fun v20 wr=>∃ i:Nat,i≤na∧v20=.int .i64 (i:Int)∧Heap (nd w) wr (L [.frz G1 W1,rI b12 (2*M) (cnt f.N (2*M)),rI b13 (2*M) (cnt (lstTo f i) (2*M)),rI b14 V.length (cnt (prefTo f.A i) V.length)])) (fun v20 _=>na - (intOf v20).toNat)
     case atStart=>exact⟨0,by omega,rfl,by rw [hL.out];exact hS⟩
     case round =>
      clear hS;obtain⟨i,hi,rfl,hS⟩:=hrel;rw [hL.out] at hS
      by_cases hil2:i<na
      ·obtain⟨R,ad1,nq,cq,hsl,hcell,hrow,hnq⟩:=hcI.out i hil2
       obtain⟨R2,ad2,nq2,cq2,hsl2,hcell2,hrow2,hnq2⟩:=hcA.out i hil2;have hle1:=hIl.out i hil2;have hle2:=hAl.out i hil2;subst hnq hnq2;have hrow1:SlC w3 F3 1 (.slice ad1 (nth [] f.I i).length cq) (nth [] f.I i).length (iv (zs (nth [] f.I i))):=by have:=hrow.1;rwa [show (zs (nth [] f.I i)).length=(nth [] f.I i).length by simp [zs]] at this
       have hcase:(decide (0<i)=false∧(lst f i).length=(nth [] f.I i).length∧iv (zs (lst f i))=iv (zs (nth [] f.I i)))∨(decide (0<i)=true∧(lst f i).length=(nth [] f.I i).length+1∧iv (zs (lst f i))=iv (zs (nth [] f.I i)++[nth 0 f.O i])):=by
        by_cases h0:i=0
        ·subst h0;exact .inl ⟨rfl,by rw [ho0.out],by rw [ho0.out]⟩
        ·obtain⟨q,e1,e2⟩:=hon.out i (by omega) hil2
         exact .inr ⟨by simp;omega,by rw [e2];simp,by rw [e2,e1];simp [iv,zs]⟩
       have hle3:(lst f i).length≤60001:=by rcases hcase with ⟨_,h,_⟩|⟨_,h,_⟩ <;> omega
       have h1:∀ u ∈ iv (zs (nth [] f.I i)),u.oneCell'=true:=fun u hu=>by
        obtain⟨x,_,rfl⟩:=List.mem_map.1 hu
        rfl
       replace h1:=Hd h1
       rcases hcase with ⟨hBd,hlen,hz⟩|⟨hBd,hlen,hz⟩
       all_goals
        replace hlen:=Hd hlen;replace hz:=Hd hz
        go_wp2_with (first|((with_reducible refine g_bs (T:=22) ?_);refine seq_bs0 (T:=22) hS underlying22 sizeOf3 rfl (fun b15 wb15 hS=>?_);simp only [NRM];simp only [NRH] at hS)|(with_reducible first|refine ldB 3 hS isAgg35 ?_|refine ldB 3 hS isAgg22 ?_|refine ixE underlying35 sizeOf22 hsl hcell fun bq oq hcellq=>?_)|((with_reducible refine g_load (T:=22) ?_);refine seq_of hS rfl (stp_load (T:=22) isAgg22 rfl (by with_reducible assumption) (by simp) rfl ?_);simp only [NRM])|(with_reducible first|refine ixI underlying22 sizeOf3 fun _ _ _=>?_|refine ld0 hS isAgg3 ?_)|((with_reducible refine g_bs (T:=22) ?_);refine seq_bs1 (T:=22) (v:=.int .i64 _) hS underlying22 sizeOf3 zeroValue3 rfl rfl rfl (by decide) (by decide) rfl (fun bq wbq hS=>?_);simp only [NRM];simp only [Value.cells] at hS)|((with_reducible refine g_app ?_);refine seq_append (t:=22) 8 hS underlying22 infoI rfl (by decide) rfl rfl rfl hrow1 (by simp) h1.out (by omega) (by unfold maxLen;omega) (fun ad3 cp3 _ hS=>?_);simp only [NRM];simp only [List.set_cons_succ,List.set_cons_zero,List.nil_append,Nat.zero_add] at hS;try simp only [Nat.zero_add])|((with_reducible refine g_app ?_);refine seq_append_lit (t:=22) 8 hS underlying22 infoI rfl (by decide) rfl rfl rfl rfl (by simp [Value.oneCell']) (by omega) (by unfold maxLen;omega) (fun ad3 cp3 _ hS=>?_);simp only [NRM];simp only [NRH] at hS))
        rw [← hlen.out] at hS;try simp only [← hlen.out]
        rw [← hz.out] at hS
        rename World=>W2
        have hX:Nats W2 _ (.slice ad3 (lst f i).length cp3) (lst f i):=Nats.mk8 (hS.rowSl 8 rfl) (hlmx.out i hil2);have hS:=hS.freeze 8 rfl;simp only [NRH] at hS;obtain⟨G2,hG2⟩:∃ G,(Chunk.row (.slice ad3 (lst f i).length cp3) 3 1 (lst f i).length (iv (zs (lst f i)))).has=G:=⟨_,rfl⟩;rw [hG2] at hS hX;clear hG2;revert hS
        repeat (rename Heap _ _ _=>hZ;clear hZ)
        repeat (rename CellsAt _ _ _ _=>hZ;clear hZ)
        repeat (rename Below _ _ _=>hZ;clear hZ)
        intro hS
        try try simp only [NRG]
        go_loopw [22] (fun v22 wr=>∃ k:Nat,k≤(lst f i).length∧v22=.int .i64 (k:Int)∧Heap (nd w) wr (L [.frz G1 W1,rI b12 (2*M) (cnt f.N (2*M)),rI b13 (2*M) (cnt (lstTo f i++(lst f i).take k) (2*M)),rI b14 V.length (cnt (prefTo f.A i) V.length),.frz G2 W2])) (fun v22 _=>(lst f i).length - (intOf v22).toNat)
        case atStart=>exact⟨0,by omega,rfl,by rw [hL.out,List.take_zero,List.append_nil];exact hS⟩
        case round =>
         clear hS;obtain⟨k,hk,rfl,hS⟩:=hrel;rw [hL.out] at hS
         by_cases hkl:k<(lst f i).length
         ·obtain⟨y1,y2⟩:=hlm.out i hil2 k hkl
          have hts:=take_snoc 0 (lst f i) k hkl;obtain⟨y,hy⟩:∃ y,nth 0 (lst f i) k=y:=⟨_,rfl⟩;rw [hy] at y1 y2 hts;have hc0:nth 0 (cnt (lstTo f i++(lst f i).take k) (2*M)) y=(((lstTo f i++(lst f i).take k).count y:Nat):Int):=nth_cnt y1;have hset:(cnt (lstTo f i++(lst f i).take k) (2*M)).set y ((((lstTo f i++(lst f i).take k).count y:Nat):Int)+1)=cnt (lstTo f i++(lst f i).take (k+1)) (2*M):=by rw [hts,← List.append_assoc];exact cnt_add y1
          have hcc:=hnle.out i k y hil2 y1;obtain⟨c0,hc1⟩:∃ c0,(lstTo f i++(lst f i).take k).count y=c0:=⟨_,rfl⟩;rw [hc1] at hc0 hset hcc;have u1:IntKind.i64.wrap ((c0:Int)+1)=(c0:Int)+1:=w6;have d1:((i:Int) != (i:Int))=false:=by simp
          replace hset:=Hd hset;replace hc1:=Hd hc1;replace hts:=Hd hts
          go_wp2_with (with_reducible first|refine ixN underlying22 sizeOf3 fun _ _ _=>?_|refine ld0 hS isAgg3 ?_|refine ixS underlying22 sizeOf3 ?_|refine ldR 6 hS isAgg3 ?_|refine stR 6 hS sizeOf3 fun _ hS=>?_)
          refine rg0 [.p 0,.r 1,.p 2,.p 3,.p 4,.r 5,.p 6,.r 7,.p 8,.p 9] [] hS fun w1 hS=>?_
          repeat (with_reducible first|refine sldB 3 isAgg22 ?_|refine sixN underlying22 sizeOf3 fun _ _ _=>?_|refine sixI underlying22 sizeOf3 fun _ _ _=>?_|refine sld0 isAgg3 ?_|refine spL ?_)
          refine snL ?_;go_wp2;go_roundw
          case rel=>exact⟨k+1,by omega,by simp,by rw [hL.out,← hset.out,← hy];exact hS⟩
          case measure=>simp [intOf];omega
         ·obtain rfl:(lst f i).length=k:=by omega
          rw [List.take_length] at hS;have hcell3:=hcell2
          go_wp2_with (first|(with_reducible first|refine ldB 3 hS isAgg35 ?_|refine ixE underlying35 sizeOf22 hsl2 hcell2 fun bq oq hcellq=>?_)|((with_reducible refine g_load (T:=22) ?_);refine seq_of hS rfl (stp_load (T:=22) isAgg22 rfl (by with_reducible assumption) (by simp) rfl ?_);simp only [NRM]))
          go_loopw [23] (fun v23 wr=>∃ k:Nat,k≤(nth [] f.A i).length∧v23=.int .i64 (k:Int)∧Heap (nd w) wr (L [.frz G1 W1,rI b12 (2*M) (cnt f.N (2*M)),rI b13 (2*M) (cnt (lstTo f i++lst f i) (2*M)),rI b14 V.length (cnt (prefTo f.A i++(nth [] f.A i).take k) V.length),.frz G2 W2])) (fun v23 _=>(nth [] f.A i).length - (intOf v23).toNat)
          case atStart=>exact⟨0,by omega,rfl,by rw [hL.out,List.take_zero,List.append_nil];exact hS⟩
          case round =>
           clear hS;obtain⟨k,hk,rfl,hS⟩:=hrel;rw [hL.out] at hS
           by_cases hkl:k<(nth [] f.A i).length
           ·have y1:=ham.out i hil2 k hkl
            have hts:=take_snoc 0 (nth [] f.A i) k hkl;obtain⟨y,hy⟩:∃ y,nth 0 (nth [] f.A i) k=y:=⟨_,rfl⟩;rw [hy] at y1 hts;have hc0:nth 0 (cnt (prefTo f.A i++(nth [] f.A i).take k) V.length) y=(((prefTo f.A i++(nth [] f.A i).take k).count y:Nat):Int):=nth_cnt y1;have hset:(cnt (prefTo f.A i++(nth [] f.A i).take k) V.length).set y ((((prefTo f.A i++(nth [] f.A i).take k).count y:Nat):Int)+1)=cnt (prefTo f.A i++(nth [] f.A i).take (k+1)) V.length:=by rw [hts,← List.append_assoc];exact cnt_add y1
            have hcc:=hale.out i k y hil2 y1;obtain⟨c0,hc1⟩:∃ c0,(prefTo f.A i++(nth [] f.A i).take k).count y=c0:=⟨_,rfl⟩;rw [hc1] at hc0 hset hcc;have u1:IntKind.i64.wrap ((c0:Int)+1)=(c0:Int)+1:=w6;replace hset:=Hd hset;replace hc1:=Hd hc1;replace hts:=Hd hts
            go_wp2_with (first|(with_reducible first|refine ldB 3 hS isAgg35 ?_|refine ixE underlying35 sizeOf22 hsl2 hcell2 fun bq oq hcellq=>?_)|((with_reducible refine g_load (T:=22) ?_);refine seq_of hS rfl (stp_load (T:=22) isAgg22 rfl (by with_reducible assumption) (by simp) rfl ?_);simp only [NRM])|(with_reducible first|refine ixN underlying22 sizeOf3 fun _ _ _=>?_|refine ld0 hS isAgg3 ?_|refine ixS underlying22 sizeOf3 ?_|refine ldR 7 hS isAgg3 ?_|refine stR 7 hS sizeOf3 fun _ hS=>?_))
            go_roundw
            case rel=>exact⟨k+1,by omega,by simp,by rw [hL.out,← hset.out,← hy];exact hS⟩
            case measure=>simp [intOf];omega
           ·obtain rfl:(nth [] f.A i).length=k:=by omega
            rw [List.take_length] at hS
            go_wp2_with (first|(with_reducible first|refine ldB 3 hS isAgg35 ?_|refine ixE underlying35 sizeOf22 hsl2 hcell2 fun bq oq hcellq=>?_)|((with_reducible refine g_load (T:=22) ?_);refine seq_of hS rfl (stp_load (T:=22) isAgg22 rfl (by with_reducible assumption) (by simp) rfl ?_);simp only [NRM]))
            go_roundw
            case rel=>exact⟨i+1,by omega,by simp,by rw [hL.out];exact hS.sb⟩
            case measure=>simp [intOf];omega
      ·obtain rfl:na=i:=by omega
       clear hcI hcA hon ho0 hlm hlmx ham hIl hAl hnle hale
       go_wp2_with (with_reducible refine ldB 3 hS isAgg22 ?_)
       go_loopw [24] (fun v24 wr=>∃ h:Nat,h≤2*M∧v24=.int .i64 (h:Int)∧Heap (nd w) wr (L [.frz G1 W1,rI b12 (2*M) (cnt f.N (2*M)),rI b13 (2*M) (cnt (lstTo f na) (2*M)),rI b14 V.length (cnt (prefTo f.A na) V.length)])) (fun v24 _=>2*M - (intOf v24).toNat)
       case atStart=>exact⟨0,by omega,rfl,by rw [hL.out];exact hS⟩
       case round =>
        clear hS;obtain⟨h,hh,rfl,hS⟩:=hrel;rw [hL.out] at hS
        by_cases hhl:h<2*M
        ·go_wp2_with (with_reducible refine ldA 3 hS isAgg37 sizeOf37 ?_)
         refine (hcyc.out h hhl _ (Ints.old (Nats.move hNf (hS.keep (fun k h=>h))))).mono ?_;rintro e W2 ⟨ad3,cp3,rfl,hS1⟩;replace hS:=hS.import hS1;simp only [NRH] at hS;clear hS1;obtain⟨o1,o2,o3,o4,o5⟩:=horb.out h hhl;have hX:Nats W2 _ (.slice ad3 (orb f.N h).length cp3) (orb f.N h):=Nats.mk8 (hS.rowSl 8 rfl) o3;replace hS:=hS.freeze 8 rfl;simp only [NRH] at hS;obtain⟨G2,hG2⟩:∃ G,(Chunk.row (.slice ad3 (orb f.N h).length cp3) 3 1 (orb f.N h).length (iv (zs (orb f.N h)))).has=G:=⟨_,rfl⟩;rw [hG2] at hS hX;clear hG2;have r1:=hseen.out h hhl;have r2:nth 0 (cnt (lstTo f na) (2*M)) (leastF f.N h)=1:=by rw [honce.out _ o4,if_pos o5]
         have hcase:∃ B,((leastF f.N h:Int) != (h:Int))=B∧(B=false∨(B=true∧nth 0 (cnt (lstTo f na) (2*M)) h=0)):=by
          by_cases e:leastF f.N h=h
          ·exact⟨false,by simp [e],.inl rfl⟩
          ·exact⟨true,by simp;omega,.inr ⟨rfl,by rw [honce.out h hhl,if_neg e]⟩⟩
         have hma:=minTo_all f.N h;have hml:=fun k=>minTo_le (orb f.N h) h k
         obtain⟨s,hs⟩:∃ s,leastF f.N h=s:=⟨_,rfl⟩;rw [hs] at r2 hcase o4 hma;obtain⟨O,hO⟩:∃ O,orb f.N h=O:=⟨_,rfl⟩;obtain⟨p,hp⟩:∃ p,O.length=p:=⟨_,rfl⟩;simp only [hO,hp] at hma hX o1 o2 hml ⊢;have d1:((p:Int) == 0)=false:=beq_eq_false_iff_ne.2 (by omega);replace hp:=Hd hp;have d2:decide ((s:Int)<0)=false:=by simp
         clear o3 o5 hs hO;replace hma:=Hd hma;replace hml:=Hd hml;replace hcase:=Hd hcase
         go_wp2_with (with_reducible first|refine ixS underlying22 sizeOf3 ?_|refine ldR 5 hS isAgg3 ?_)
         try try simp only [NRG]
         go_loopw [27,28] (fun v27 v28 wr=>∃ k:Nat,k≤p∧v27=.int .i64 (minTo O h k:Int)∧v28=.int .i64 (k:Int)∧Heap (nd w) wr (L [.frz G1 W1,rI b12 (2*M) (cnt f.N (2*M)),rI b13 (2*M) (cnt (lstTo f na) (2*M)),rI b14 V.length (cnt (prefTo f.A na) V.length),.frz G2 W2])) (fun _ v28 _=>p - (intOf v28).toNat)
         case atStart=>exact⟨0,by omega,rfl,rfl,by rw [hL.out];exact hS⟩
         case round =>
          clear hS;obtain⟨k,hk,rfl,rfl,hS⟩:=hrel;rw [hL.out] at hS
          by_cases hkl:k<p
          ·have hmn:min ((minTo O h k:Nat):Int) ((nth 0 O k:Nat):Int)=((minTo O h (k+1):Nat):Int):=by rw [minTo_succ (by rw [hp.out];exact hkl)];omega
           go_wp2_with (with_reducible first|refine ixN underlying22 sizeOf3 fun _ _ _=>?_|refine ld0 hS isAgg3 ?_)
           go_roundw
           case rel=>exact⟨k+1,by omega,rfl,by simp,by rw [hL.out];exact hS⟩
           case measure=>simp [intOf];omega
          ·obtain rfl:p=k:=by omega
           rw [hma.out];obtain⟨B,hB1,hcase⟩:=hcase.out
           rcases hcase with rfl|⟨rfl,r3⟩
           all_goals
            go_wp2_with (with_reducible first|refine ixS underlying22 sizeOf3 ?_|refine ldR 6 hS isAgg3 ?_)
            go_roundw
            case rel=>exact⟨h+1,by omega,by simp,by rw [hL.out];exact hS.sb⟩
            case measure=>simp [intOf];omega
        ·have d9:decide (h<2*M)=false:=by simp;omega
         have d8:decide ((h:Int)<2*(M:Int))=false:=by simp;omega
         clear hcyc horb honce hseen hh hhl;go_wp2
         go_loopw [29] (fun v29 wr=>∃ v:Nat,v≤V.length∧v29=.int .i64 (v:Int)∧Heap (nd w) wr (L [.frz G1 W1,rI b12 (2*M) (cnt f.N (2*M)),rI b13 (2*M) (cnt (lstTo f na) (2*M)),rI b14 V.length (cnt (prefTo f.A na) V.length)])) (fun v29 _=>V.length - (intOf v29).toNat)
         case atStart=>exact⟨0,by omega,rfl,by rw [hL.out];exact hS⟩
         case round =>
          clear hS;obtain⟨v,hv,rfl,hS⟩:=hrel;rw [hL.out] at hS
          by_cases hvl:v<V.length
          ·go_wp2_with (with_reducible first|refine ldB 1 hS isAgg25 ?_|refine ldA 1 hS isAgg28 sizeOf28 ?_)
           refine (haro.out v hvl _ (Liv.at hS (fun k h=>h)) (hE5.move (hS.keep (fun k h=>h))) (hEs5.out.at hS (fun k h=>h))).mono ?_;rintro e W2 ⟨ad3,n3,cp3,l,rfl,hS1,hAr⟩;replace hS:=hS.import hS1;simp only [NRH] at hS;clear hS1;have hn3l:l.length=n3:=by have:=(hS.rowSl 8 rfl).1;simp [iv,zs] at this;omega
           have r1:=haw.out v l hvl hAr;rw [hn3l] at r1
           have hcase:∃ B,((n3:Int) == 0)=B∧((B=true∧nth 0 (cnt (prefTo f.A na) V.length) v=1)∨(B=false∧nth 0 (cnt (prefTo f.A na) V.length) v=0)):=by
            by_cases e:n3=0
            ·rw [if_pos e] at r1;exact⟨true,by simp [e],.inl ⟨rfl,r1⟩⟩
            ·rw [if_neg e] at r1;exact⟨false,beq_eq_false_iff_ne.2 (by omega),.inr ⟨rfl,r1⟩⟩
           clear r1 hAr hn3l;obtain⟨B,hB1,hcase⟩:=hcase
           rcases hcase with ⟨rfl,r2⟩|⟨rfl,r2⟩
           all_goals
            go_wp2_with (with_reducible first|refine ixS underlying22 sizeOf3 ?_|refine ldR 7 hS isAgg3 ?_)
            go_roundw
            case rel=>exact⟨v+1,by omega,by simp,by rw [hL.out];exact hS.sb⟩
            case measure=>simp [intOf];omega
          ·go_wp2_with (with_reducible refine ldB 1 hS isAgg25 ?_)
           refine (lives_any _).mono ?_;rintro e w9 ⟨rfl,hb9⟩;simp only [];go_wp2;have hpf:=hpE.out.step hS hO3 hF3;go_ret;exact⟨rfl,hpf.below0.trans (hb9.mono hpf.below0.size)⟩
end Go.Proofs
