/- Texts for the walk of the law: K12d K5 K13 K14 K15 K16 KB. -/
import Derived.Test.YtgaejkbkfoaaiaaGreatR03
import Derived.Test.YtgaejkbkfoaaiaaGreatR01
set_option maxRecDepth 100000
set_option maxHeartbeats 16000000
set_option linter.unusedVariables false
set_option linter.unusedSimpArgs false
namespace Go.Hp
open Go Go.RowKit Go.Proofs.Tryz
theorem aBr (ad bd:Option Addr) (n c m d:Nat) (la lb:List Nat) (w:World) (S:Nat→Prop) (ha:dA w S (.slice ad n c) la) (hb:dA w S (.slice bd m d) lb) (na:Nm la) (nb:Nm lb) (hle:la.length≤2000) (fk:val lb≠0) :
 Calls prog 79 #[.slice ad n c,.slice bd m d] w (aAs w S la lb):=by
 rcases Nat.lt_or_ge (val la) (val lb) with h|h
 ·exact aRL ad bd n c m d la lb w S ha hb na nb h
 ·rcases Nat.lt_or_ge 1 lb.length with h2|h2
  ·exact aUv ad bd n c m d la lb w S ha hb na nb hle h h2
  ·refine aOF ad bd n c m d la lb w S ha hb na nb hle h ?_
   have:lb.length≠0:=fun e=>fk (by rw [List.length_eq_zero_iff.1 e];rfl)
   omega
theorem a2L {w w':World} {F:Chunk} {bo bc:Nat} {T U:TypeId} {la lb o:List Nat} {k cc v:Nat} (hS:aA w w' [F,.aB bo (.cells (wv (o.set k (v % 4294967296))).toArray T (0,0)),.aB bc (.cells #[.int .u64 ((v / 4294967296:Nat):Int)] U (0,0))]) (hk:k<la.length+1)
 (tL:o.length≤la.length+1) (qf:la.length+1≤o.length) (dO:Wd o) (dt:∀ j,k≤j→nth 0 o j=0) (jT:cc≤1) (lj:nth 0 la k<4294967296) (qh:nth 0 lb k<4294967296) (hv:val o+WB ^ k*cc=val (la.take k)+val (lb.take k)) (he:v=cc+(nth 0 la k+nth 0 lb k)) :
 ∃ (k' qD:Nat) (o':List Nat),k'≤la.length+1∧Value.int .i64 ((k:Int)+1)=.int .i64 (k':Int)∧aA w w' [F,.aB bo (.cells (wv o').toArray T (0,0)),.aB bc (.cells #[.int .u64 (qD:Int)] U (0,0))]∧o'.length=la.length+1∧Wd o'∧(∀ j,k'≤j→nth 0 o' j=0)∧qD≤1∧val o'+WB ^ k'*qD=val (la.take k')+val (lb.take k'):=by
 refine⟨k+1,v / 4294967296,o.set k (v % 4294967296),by omega,rfl,hS,by simp;omega,dO.set k (by rw [dc];omega),fun j hj=>?_,by omega,?_⟩
 ·rw [ov,if_neg (by omega)];exact dt j (by omega)
 ·have:=aR6 (v:=v) (by omega) (dt k (Nat.le_refl _)) (by omega) hv
  rw [dc] at this ⊢;exact this
theorem aD8 (ad bd:Option Addr) (n c m d:Nat) (la lb:List Nat) (w:World) (S:Nat→Prop) (ha:dA w S (.slice ad n c) la) (hb:dA w S (.slice bd m d) lb) (hle:la.length≤2000) (aPe:lb.length≤2000) :
 Calls prog 85 #[.slice ad n c,.slice bd m d] w fun e w'=>∃ b S' l,e=.returned (.slice (some ⟨b,0,none⟩) l.length l.length)∧Pure w S w' S'∧dA w' S' (.slice (some ⟨b,0,none⟩) l.length l.length) l∧l.length≤2001∧val l=val la+val lb:=by
 have h1:=ha.len;have h2:=hb.len;subst h1 h2;have pR:=ha.bj;have pz:=hb.bj;have hS:=aA.start w
 by_cases hl:lb.length≤la.length
 ·go_enter func85,ntmps85
  go_wp2_with (first|((with_reducible refine r7 (T:=49) ?_);refine zj (n:=la.length+1) (T:=49) (E:=188) hS underlying49 info188 rfl rfl (by omega) (by omega) (fun bo wo hS=>?_);simp only [aD];simp only [aK] at hS)|(with_reducible refine bH hS zeroValue190 fun bc wbc hS=>?_)|go_in)
  go_loopw [23] (fun v wr=>∃ (k cc:Nat) (o:List Nat),k≤la.length+1∧v=.int .i64 (k:Int)∧aA w wr [.aH (Old w) w,.aB bo (.cells (wv o).toArray 188 (0,0)),.aB bc (.cells #[.int .u64 (cc:Int)] 190 (0,0))]∧o.length=la.length+1∧Wd o∧(∀ j,k≤j→nth 0 o j=0)∧cc≤1∧val o+WB ^ k*cc=val (la.take k)+val (lb.take k)) (fun v _=>la.length+1 - (intOf v).toNat)
  case atStart=>exact⟨0,0,List.replicate (la.length+1) 0,by omega,rfl,hS,by simp,Wd.a1t _,fun j _=>yF _ _ _,by omega,by simp [val,yf]⟩
  case round =>
   clear hS;obtain⟨k,cc,o,hk,rfl,hS,cD,dO,dt,jT,hv⟩:=hrel;have lj:=ha.wd.nth k;have qh:=hb.wd.nth k;rw [dc] at lj qh;replace hv:=Hd hv;have tL:o.length≤la.length+1:=by omega
   have qf:la.length+1≤o.length:=by omega
   clear cD
   by_cases fm:k<la.length
   ·by_cases iE:k<lb.length
    ·go_wp2_with (first|((with_reducible refine du (T:=49) ?_);refine ck rfl (mE (T:=49) underlying49 sizeOf188 rfl rfl pR (by omega) (by omega) (fun _ _ _=>?_));simp only [aD])|((with_reducible refine du (T:=49) ?_);refine ck rfl (mE (T:=49) underlying49 sizeOf188 rfl rfl pz (by omega) (by omega) (fun _ _ _=>?_));simp only [aD])|((with_reducible refine du (T:=49) ?_);refine ck rfl (gC (T:=49) underlying49 sizeOf188 rfl rfl (by omega) (by omega) ?_);simp only [aD];simp only [Nat.zero_add,Int.toNat_natCast])|(with_reducible first|refine fP hS isAgg188 ?_|refine aU 2 hS isAgg190 ?_|refine aJ 2 hS sizeOf190 fun _ hS=>?_)|((with_reducible refine gK (T:=188) ?_);refine jQ (T:=188) (v:=(cc+(nth 0 la k+nth 0 lb k)) % 4294967296) 1 hS rfl rfl (by omega) rfl (by first|omega) sizeOf188 (fun _ hS=>?_);simp only [aD];simp only [aK] at hS)|go_in)
     have e:((cc:Int)+((nth 0 la k:Nat)+(nth 0 lb k:Nat))) / 4294967296=(((cc+(nth 0 la k+nth 0 lb k)) / 4294967296:Nat):Int):=by omega
     rw [e] at hS;go_roundw
     case rel=>exact a2L hS (by omega) tL qf dO dt jT lj qh hv.out rfl
     case measure=>simp [intOf];omega
    ·have hz:=Hd (qP 0 lb k (by omega))
     go_wp2_with (first|((with_reducible refine du (T:=49) ?_);refine ck rfl (mE (T:=49) underlying49 sizeOf188 rfl rfl pR (by omega) (by omega) (fun _ _ _=>?_));simp only [aD])|((with_reducible refine du (T:=49) ?_);refine ck rfl (gC (T:=49) underlying49 sizeOf188 rfl rfl (by omega) (by omega) ?_);simp only [aD];simp only [Nat.zero_add,Int.toNat_natCast])|(with_reducible first|refine fP hS isAgg188 ?_|refine aU 2 hS isAgg190 ?_|refine aJ 2 hS sizeOf190 fun _ hS=>?_)|((with_reducible refine gK (T:=188) ?_);refine jQ (T:=188) (v:=(cc+nth 0 la k) % 4294967296) 1 hS rfl rfl (by omega) rfl (by first|omega) sizeOf188 (fun _ hS=>?_);simp only [aD];simp only [aK] at hS)|go_in)
     have e:((cc:Int)+(nth 0 la k:Nat)) / 4294967296=(((cc+nth 0 la k) / 4294967296:Nat):Int):=by omega
     rw [e] at hS;go_roundw
     case rel=>exact a2L hS (by omega) tL qf dO dt jT lj qh hv.out (by rw [hz.out];rfl)
     case measure=>simp [intOf];omega
   ·by_cases xP:k<la.length+1
    ·have hz:=Hd (qP 0 lb k (by omega))
     have gS:=Hd (qP 0 la k (by omega))
     go_wp2_with (first|((with_reducible refine du (T:=49) ?_);refine ck rfl (gC (T:=49) underlying49 sizeOf188 rfl rfl (by omega) (by omega) ?_);simp only [aD];simp only [Nat.zero_add,Int.toNat_natCast])|(with_reducible first|refine aU 2 hS isAgg190 ?_|refine aJ 2 hS sizeOf190 fun _ hS=>?_)|((with_reducible refine gK (T:=188) ?_);refine jQ (T:=188) (v:=cc % 4294967296) 1 hS rfl rfl (by omega) rfl (by first|omega) sizeOf188 (fun _ hS=>?_);simp only [aD];simp only [aK] at hS)|go_in)
     have e:(cc:Int) / 4294967296=((cc / 4294967296:Nat):Int):=by omega
     rw [e] at hS;go_roundw
     case rel=>exact a2L hS (by omega) tL qf dO dt jT lj qh hv.out (by rw [hz.out,gS.out];rfl)
     case measure=>simp [intOf];omega
    ·obtain rfl:k=la.length+1:=by omega
     go_wp2;go_ret;obtain⟨q1,q2⟩:=hS.zI S 0 rfl dO (by simp [maxLen];omega);have e:o.length=la.length+1:=by omega
     refine⟨bo,_,o,by rw [e];rfl,q1,q2,by omega,aJ7 e dO ha.wd hb.wd (Nat.le_refl _) hl hv.out⟩
 ·go_enter func85,ntmps85
  go_wp2_with (first|((with_reducible refine r7 (T:=49) ?_);refine zj (n:=lb.length+1) (T:=49) (E:=188) hS underlying49 info188 rfl rfl (by omega) (by omega) (fun bo wo hS=>?_);simp only [aD];simp only [aK] at hS)|(with_reducible refine bH hS zeroValue190 fun bc wbc hS=>?_)|go_in)
  go_loopw [23] (fun v wr=>∃ (k cc:Nat) (o:List Nat),k≤lb.length+1∧v=.int .i64 (k:Int)∧aA w wr [.aH (Old w) w,.aB bo (.cells (wv o).toArray 188 (0,0)),.aB bc (.cells #[.int .u64 (cc:Int)] 190 (0,0))]∧o.length=lb.length+1∧Wd o∧(∀ j,k≤j→nth 0 o j=0)∧cc≤1∧val o+WB ^ k*cc=val (lb.take k)+val (la.take k)) (fun v _=>lb.length+1 - (intOf v).toNat)
  case atStart=>exact⟨0,0,List.replicate (lb.length+1) 0,by omega,rfl,hS,by simp,Wd.a1t _,fun j _=>yF _ _ _,by omega,by simp [val,yf]⟩
  case round =>
   clear hS;obtain⟨k,cc,o,hk,rfl,hS,cD,dO,dt,jT,hv⟩:=hrel;have lj:=hb.wd.nth k;have qh:=ha.wd.nth k;rw [dc] at lj qh;replace hv:=Hd hv;have tL:o.length≤lb.length+1:=by omega
   have qf:lb.length+1≤o.length:=by omega
   clear cD
   by_cases fm:k<lb.length
   ·by_cases iE:k<la.length
    ·go_wp2_with (first|((with_reducible refine du (T:=49) ?_);refine ck rfl (mE (T:=49) underlying49 sizeOf188 rfl rfl pz (by omega) (by omega) (fun _ _ _=>?_));simp only [aD])|((with_reducible refine du (T:=49) ?_);refine ck rfl (mE (T:=49) underlying49 sizeOf188 rfl rfl pR (by omega) (by omega) (fun _ _ _=>?_));simp only [aD])|((with_reducible refine du (T:=49) ?_);refine ck rfl (gC (T:=49) underlying49 sizeOf188 rfl rfl (by omega) (by omega) ?_);simp only [aD];simp only [Nat.zero_add,Int.toNat_natCast])|(with_reducible first|refine fP hS isAgg188 ?_|refine aU 2 hS isAgg190 ?_|refine aJ 2 hS sizeOf190 fun _ hS=>?_)|((with_reducible refine gK (T:=188) ?_);refine jQ (T:=188) (v:=(cc+(nth 0 lb k+nth 0 la k)) % 4294967296) 1 hS rfl rfl (by omega) rfl (by first|omega) sizeOf188 (fun _ hS=>?_);simp only [aD];simp only [aK] at hS)|go_in)
     have e:((cc:Int)+((nth 0 lb k:Nat)+(nth 0 la k:Nat))) / 4294967296=(((cc+(nth 0 lb k+nth 0 la k)) / 4294967296:Nat):Int):=by omega
     rw [e] at hS;go_roundw
     case rel=>exact a2L hS (by omega) tL qf dO dt jT lj qh hv.out rfl
     case measure=>simp [intOf];omega
    ·have hz:=Hd (qP 0 la k (by omega))
     go_wp2_with (first|((with_reducible refine du (T:=49) ?_);refine ck rfl (mE (T:=49) underlying49 sizeOf188 rfl rfl pz (by omega) (by omega) (fun _ _ _=>?_));simp only [aD])|((with_reducible refine du (T:=49) ?_);refine ck rfl (gC (T:=49) underlying49 sizeOf188 rfl rfl (by omega) (by omega) ?_);simp only [aD];simp only [Nat.zero_add,Int.toNat_natCast])|(with_reducible first|refine fP hS isAgg188 ?_|refine aU 2 hS isAgg190 ?_|refine aJ 2 hS sizeOf190 fun _ hS=>?_)|((with_reducible refine gK (T:=188) ?_);refine jQ (T:=188) (v:=(cc+nth 0 lb k) % 4294967296) 1 hS rfl rfl (by omega) rfl (by first|omega) sizeOf188 (fun _ hS=>?_);simp only [aD];simp only [aK] at hS)|go_in)
     have e:((cc:Int)+(nth 0 lb k:Nat)) / 4294967296=(((cc+nth 0 lb k) / 4294967296:Nat):Int):=by omega
     rw [e] at hS;go_roundw
     case rel=>exact a2L hS (by omega) tL qf dO dt jT lj qh hv.out (by rw [hz.out];rfl)
     case measure=>simp [intOf];omega
   ·by_cases xP:k<lb.length+1
    ·have hz:=Hd (qP 0 la k (by omega))
     have gS:=Hd (qP 0 lb k (by omega))
     go_wp2_with (first|((with_reducible refine du (T:=49) ?_);refine ck rfl (gC (T:=49) underlying49 sizeOf188 rfl rfl (by omega) (by omega) ?_);simp only [aD];simp only [Nat.zero_add,Int.toNat_natCast])|(with_reducible first|refine aU 2 hS isAgg190 ?_|refine aJ 2 hS sizeOf190 fun _ hS=>?_)|((with_reducible refine gK (T:=188) ?_);refine jQ (T:=188) (v:=cc % 4294967296) 1 hS rfl rfl (by omega) rfl (by first|omega) sizeOf188 (fun _ hS=>?_);simp only [aD];simp only [aK] at hS)|go_in)
     have e:(cc:Int) / 4294967296=((cc / 4294967296:Nat):Int):=by omega
     rw [e] at hS;go_roundw
     case rel=>exact a2L hS (by omega) tL qf dO dt jT lj qh hv.out (by rw [hz.out,gS.out];rfl)
     case measure=>simp [intOf];omega
    ·obtain rfl:k=lb.length+1:=by omega
     go_wp2;go_ret;obtain⟨q1,q2⟩:=hS.zI S 0 rfl dO (by simp [maxLen];omega);have e:o.length=lb.length+1:=by omega
     refine⟨bo,_,o,by rw [e];rfl,q1,q2,by omega,by rw [Nat.add_comm];exact aJ7 e dO hb.wd ha.wd (Nat.le_refl _) (by omega) hv.out⟩
theorem aP.at {w0 w wr:World} {H:List Chunk} {F S:Nat→Prop} (hS:aA w0 w (.aH F wr::H)) (hF:∀ k,S k→F k):aP w S:=fun k hk=>(hS.ok (.aH F wr) (by simp) k (hF k hk)).1
def sJ (z:WI) (e:Int):Ending:=.returned (.tuple #[.agg #[.bool z.neg,.slice z.ad z.n z.cap],.int .i64 e])
theorem _root_.Go.Hp.dR.cast {w:World} {S:Nat→Prop} {z:WI} {v v':Int} (h:dR w S z v) (e:v=v'):dR w S z v':=e ▸ h
def aA9 (w:World) (S:Nat→Prop) (v:Int) (e:Ending) (w':World):Prop:=∃ (z:WI) (S':Nat→Prop),e=sJ z 0∧Pure w S w' S'∧dR w' S' z v
theorem a9R (a b:Nat):decide (cR (a:Int) (b:Int)<0)=decide (a<b):=by
 rw [yl]
 by_cases h:a<b
 ·simp [h]
 ·by_cases h2:b<a <;> simp [h,h2]
theorem aEd (x y:WI) (a b:Int) (w:World) (S:Nat→Prop) (hx:dR w S x a) (hy:dR w S y b) (hL:aP w S) (iV:(a+b).natAbs<kR) :
 Calls prog 35 #[.agg #[.bool x.neg,.slice x.ad x.n x.cap],.agg #[.bool y.neg,.slice y.ad y.n y.cap]] w (aA9 w S (a+b)):=by
 obtain⟨uL,vV,xn,vk⟩:=x;obtain⟨ye,yad,yn,a4X⟩:=y;obtain⟨la,ha,na,xW,fL,ft⟩:=hx;obtain⟨lb,hb,nb,rj,gY,fb⟩:=hy;dsimp only at ha hb fL gY ⊢;obtain⟨hS,aC,bC,bD⟩:=eR hL;replace ft:=Hd ft;replace fb:=Hd fb;cases uL
 ·have h1:0≤a:=by
   have:¬ a<0:=by simpa using fL.symm
   omega
  clear fL;cases ye
  ·have h2:0≤b:=by
    have:¬ b<0:=by simpa using gY.symm
    omega
   clear gY
   go_enter func35,ntmps35
   go_wp2_with (with_reducible first|refine cI hS fun bx cu hS=>?_|refine bH hS zeroValue51 fun br fu hS=>?_|refine aU 1 hS isAgg4 ?_|refine aU 2 hS isAgg4 ?_)
   refine dB [.p 0,.r 1,.p 2,.r 3,.p 4,.r 5,.e 6,.e 7,.p 8,.p 9,.m 10,.p 11] [10] hS fun w1 hS=>?_
   have hC:=hS
   repeat (with_reducible first|refine cZ 1 isAgg4 ?_|refine cZ 1 isAgg49 ?_|refine cZ 2 isAgg49 ?_|refine bU ?_)
   refine aZ ?_
   go_wp2_with (fail)
   refine (aD8 _ _ _ _ _ _ la lb _ S (ha.at hS aC) (hb.at hS aC) (by omega) (by omega)).mono ?_;rintro e w' ⟨bs,S2,ls,rfl,hq,hm,jY,fi⟩;simp only [];go_step;have hC:=hC.below hq.below hq.drawn;replace hS:=hS.aj aC bC bD hq;obtain⟨F1,aG,-,bB,av,hS⟩:=hS;replace jY:=Hd jY;replace fi:=Hd fi;refine aX hC ?_;refine aM ?_;refine aZ ?_
   go_wp2_with (fail)
   refine (pd false _ _ _ ls _ S2 (hm.at hS aG) (by rw [fi.out,ft.out,fb.out];exact Nat.lt_of_le_of_lt (by omega) iV)).mono ?_;rintro e w' ⟨z,rfl,bI,hz⟩;simp only [];go_step;have hC:=hC.below bI.below bI.drawn;replace hS:=hS.aj aG av bB bI;obtain⟨F2,aQ,-,bR,bP,hS⟩:=hS;refine aX hC ?_;refine aM ?_;refine dC ?_
   (with_reducible refine aJ 3 hS sizeOf51 fun _ hS=>?_)
   refine dD ?_;refine aM ?_;refine bE ?_;go_wp2
   exact jJ 3 hS rfl rfl rfl isAgg51 sizeOf51 rfl rfl ⟨z,S2,rfl,bR.step hS bP aQ,by
    have h3:=fi.out;have h4:=ft.out;have h5:=fb.out;exact (hz.at hS aQ).cast (by simp;omega)⟩
  ·have h2:b<0:=by simpa using gY.symm
   clear gY
   by_cases aW:val la<val lb
   ·skip
    have uN:decide (cR (val la:Nat) (val lb:Nat)<0)=true:=by rw [a9R];simpa using aW
    have hle:=Hd (show val la≤val lb from by first|exact Nat.le_of_lt aW);clear aW
    go_enter func35,ntmps35
    go_wp2_with (first|(with_reducible first|refine cI hS fun bx cu hS=>?_|refine bH hS zeroValue51 fun br fu hS=>?_|refine aU 1 hS isAgg4 ?_|refine aU 2 hS isAgg4 ?_|refine aU 1 hS isAgg49 ?_|refine aU 2 hS isAgg49 ?_|refine bA 1 hS isAgg51 sizeOf51 ?_|refine bA 2 hS isAgg51 sizeOf51 ?_|refine aJ 1 hS sizeOf51 fun _ hS=>?_|refine aJ 2 hS sizeOf51 fun _ hS=>?_)|(go_at_call 86;refine (xJ _ _ _ _ _ _ la lb _ S (ha.at hS aC) (hb.at hS aC) na nb).mono ?_;rintro e w' ⟨rfl,jz⟩;have ha:=(ha.at hS aC).grow jz;have hb:=(hb.at hS aC).grow jz;replace hS:=hS.aj aC bC bD jz;obtain⟨F1,aG,-,bB,av,hS⟩:=hS))
    refine dB [.p 0,.r 1,.p 2,.r 3,.p 4,.r 5,.e 6,.e 7,.p 8,.p 9,.m 10,.p 11] [10] hS fun w1 hS=>?_
    have hC:=hS
    repeat (with_reducible first|refine cZ 1 isAgg4 ?_|refine cZ 1 isAgg49 ?_|refine cZ 2 isAgg49 ?_|refine bU ?_)
    refine aZ ?_
    go_wp2_with (fail)
    refine (a4r _ _ _ _ _ _ lb la _ S (hb.at hS aG) (ha.at hS aG) na hle.out (by omega)).mono ?_;rintro e w' ⟨bs,S2,ls,rfl,hq,hm,jY,fi⟩;simp only [];go_step;have hC:=hC.below hq.below hq.drawn;replace hS:=hS.aj aG av bB hq;obtain⟨F2,aQ,-,bR,bP,hS⟩:=hS;replace jY:=Hd jY;replace fi:=Hd fi;refine aX hC ?_;refine aM ?_;refine aZ ?_
    go_wp2_with (fail)
    refine (pd true _ _ _ ls _ S2 (hm.at hS aQ) (by have h3:=fi.out;have h4:=ft.out;have h5:=fb.out;have h6:=hle.out;omega)).mono ?_;rintro e w' ⟨z,rfl,bI,hz⟩;simp only [];go_step;have hC:=hC.below bI.below bI.drawn;replace hS:=hS.aj aQ bP bR bI;obtain⟨F3,bM,-,dP,dE,hS⟩:=hS;refine aX hC ?_;refine aM ?_;refine dC ?_
    (with_reducible refine aJ 3 hS sizeOf51 fun _ hS=>?_)
    refine dD ?_;refine aM ?_;refine bE ?_;go_wp2
    exact jJ 3 hS rfl rfl rfl isAgg51 sizeOf51 rfl rfl ⟨z,S2,rfl,dP.step hS dE bM,by
     have h3:=fi.out;have h4:=ft.out;have h5:=fb.out;have h6:=hle.out;exact (hz.at hS bM).cast (by simp;omega)⟩
   ·skip
    have uN:decide (cR (val la:Nat) (val lb:Nat)<0)=false:=by rw [a9R];simpa using aW
    have hle:=Hd (show val lb≤val la from by first|exact Nat.le_of_not_lt aW);clear aW
    go_enter func35,ntmps35
    go_wp2_with (first|(with_reducible first|refine cI hS fun bx cu hS=>?_|refine bH hS zeroValue51 fun br fu hS=>?_|refine aU 1 hS isAgg4 ?_|refine aU 2 hS isAgg4 ?_|refine aU 1 hS isAgg49 ?_|refine aU 2 hS isAgg49 ?_)|(go_at_call 86;refine (xJ _ _ _ _ _ _ la lb _ S (ha.at hS aC) (hb.at hS aC) na nb).mono ?_;rintro e w' ⟨rfl,jz⟩;have ha:=(ha.at hS aC).grow jz;have hb:=(hb.at hS aC).grow jz;replace hS:=hS.aj aC bC bD jz;obtain⟨F1,aG,-,bB,av,hS⟩:=hS))
    refine dB [.p 0,.r 1,.p 2,.r 3,.p 4,.r 5,.e 6,.e 7,.p 8,.p 9,.m 10,.p 11] [10] hS fun w1 hS=>?_
    have hC:=hS
    repeat (with_reducible first|refine cZ 1 isAgg4 ?_|refine cZ 1 isAgg49 ?_|refine cZ 2 isAgg49 ?_|refine bU ?_)
    refine aZ ?_
    go_wp2_with (fail)
    refine (a4r _ _ _ _ _ _ la lb _ S (ha.at hS aG) (hb.at hS aG) nb hle.out (by omega)).mono ?_;rintro e w' ⟨bs,S2,ls,rfl,hq,hm,jY,fi⟩;simp only [];go_step;have hC:=hC.below hq.below hq.drawn;replace hS:=hS.aj aG av bB hq;obtain⟨F2,aQ,-,bR,bP,hS⟩:=hS;replace jY:=Hd jY;replace fi:=Hd fi;refine aX hC ?_;refine aM ?_;refine aZ ?_
    go_wp2_with (fail)
    refine (pd false _ _ _ ls _ S2 (hm.at hS aQ) (by have h3:=fi.out;have h4:=ft.out;have h5:=fb.out;have h6:=hle.out;omega)).mono ?_;rintro e w' ⟨z,rfl,bI,hz⟩;simp only [];go_step;have hC:=hC.below bI.below bI.drawn;replace hS:=hS.aj aQ bP bR bI;obtain⟨F3,bM,-,dP,dE,hS⟩:=hS;refine aX hC ?_;refine aM ?_;refine dC ?_
    (with_reducible refine aJ 3 hS sizeOf51 fun _ hS=>?_)
    refine dD ?_;refine aM ?_;refine bE ?_;go_wp2
    exact jJ 3 hS rfl rfl rfl isAgg51 sizeOf51 rfl rfl ⟨z,S2,rfl,dP.step hS dE bM,by
     have h3:=fi.out;have h4:=ft.out;have h5:=fb.out;have h6:=hle.out;exact (hz.at hS bM).cast (by simp;omega)⟩
 ·have h1:a<0:=by simpa using fL.symm
  clear fL;cases ye
  ·have h2:0≤b:=by
    have:¬ b<0:=by simpa using gY.symm
    omega
   clear gY
   by_cases aW:val la<val lb
   ·skip
    have uN:decide (cR (val la:Nat) (val lb:Nat)<0)=true:=by rw [a9R];simpa using aW
    have hle:=Hd (show val la≤val lb from by first|exact Nat.le_of_lt aW);clear aW
    go_enter func35,ntmps35
    go_wp2_with (first|(with_reducible first|refine cI hS fun bx cu hS=>?_|refine bH hS zeroValue51 fun br fu hS=>?_|refine aU 1 hS isAgg4 ?_|refine aU 2 hS isAgg4 ?_|refine aU 1 hS isAgg49 ?_|refine aU 2 hS isAgg49 ?_|refine bA 1 hS isAgg51 sizeOf51 ?_|refine bA 2 hS isAgg51 sizeOf51 ?_|refine aJ 1 hS sizeOf51 fun _ hS=>?_|refine aJ 2 hS sizeOf51 fun _ hS=>?_)|(go_at_call 86;refine (xJ _ _ _ _ _ _ la lb _ S (ha.at hS aC) (hb.at hS aC) na nb).mono ?_;rintro e w' ⟨rfl,jz⟩;have ha:=(ha.at hS aC).grow jz;have hb:=(hb.at hS aC).grow jz;replace hS:=hS.aj aC bC bD jz;obtain⟨F1,aG,-,bB,av,hS⟩:=hS))
    refine dB [.p 0,.r 1,.p 2,.r 3,.p 4,.r 5,.e 6,.e 7,.p 8,.p 9,.m 10,.p 11] [10] hS fun w1 hS=>?_
    have hC:=hS
    repeat (with_reducible first|refine cZ 1 isAgg4 ?_|refine cZ 1 isAgg49 ?_|refine cZ 2 isAgg49 ?_|refine bU ?_)
    refine aZ ?_
    go_wp2_with (fail)
    refine (a4r _ _ _ _ _ _ lb la _ S (hb.at hS aG) (ha.at hS aG) na hle.out (by omega)).mono ?_;rintro e w' ⟨bs,S2,ls,rfl,hq,hm,jY,fi⟩;simp only [];go_step;have hC:=hC.below hq.below hq.drawn;replace hS:=hS.aj aG av bB hq;obtain⟨F2,aQ,-,bR,bP,hS⟩:=hS;replace jY:=Hd jY;replace fi:=Hd fi;refine aX hC ?_;refine aM ?_;refine aZ ?_
    go_wp2_with (fail)
    refine (pd false _ _ _ ls _ S2 (hm.at hS aQ) (by have h3:=fi.out;have h4:=ft.out;have h5:=fb.out;have h6:=hle.out;omega)).mono ?_;rintro e w' ⟨z,rfl,bI,hz⟩;simp only [];go_step;have hC:=hC.below bI.below bI.drawn;replace hS:=hS.aj aQ bP bR bI;obtain⟨F3,bM,-,dP,dE,hS⟩:=hS;refine aX hC ?_;refine aM ?_;refine dC ?_
    (with_reducible refine aJ 3 hS sizeOf51 fun _ hS=>?_)
    refine dD ?_;refine aM ?_;refine bE ?_;go_wp2
    exact jJ 3 hS rfl rfl rfl isAgg51 sizeOf51 rfl rfl ⟨z,S2,rfl,dP.step hS dE bM,by
     have h3:=fi.out;have h4:=ft.out;have h5:=fb.out;have h6:=hle.out;exact (hz.at hS bM).cast (by simp;omega)⟩
   ·skip
    have uN:decide (cR (val la:Nat) (val lb:Nat)<0)=false:=by rw [a9R];simpa using aW
    have hle:=Hd (show val lb≤val la from by first|exact Nat.le_of_not_lt aW);clear aW
    go_enter func35,ntmps35
    go_wp2_with (first|(with_reducible first|refine cI hS fun bx cu hS=>?_|refine bH hS zeroValue51 fun br fu hS=>?_|refine aU 1 hS isAgg4 ?_|refine aU 2 hS isAgg4 ?_|refine aU 1 hS isAgg49 ?_|refine aU 2 hS isAgg49 ?_)|(go_at_call 86;refine (xJ _ _ _ _ _ _ la lb _ S (ha.at hS aC) (hb.at hS aC) na nb).mono ?_;rintro e w' ⟨rfl,jz⟩;have ha:=(ha.at hS aC).grow jz;have hb:=(hb.at hS aC).grow jz;replace hS:=hS.aj aC bC bD jz;obtain⟨F1,aG,-,bB,av,hS⟩:=hS))
    refine dB [.p 0,.r 1,.p 2,.r 3,.p 4,.r 5,.e 6,.e 7,.p 8,.p 9,.m 10,.p 11] [10] hS fun w1 hS=>?_
    have hC:=hS
    repeat (with_reducible first|refine cZ 1 isAgg4 ?_|refine cZ 1 isAgg49 ?_|refine cZ 2 isAgg49 ?_|refine bU ?_)
    refine aZ ?_
    go_wp2_with (fail)
    refine (a4r _ _ _ _ _ _ la lb _ S (ha.at hS aG) (hb.at hS aG) nb hle.out (by omega)).mono ?_;rintro e w' ⟨bs,S2,ls,rfl,hq,hm,jY,fi⟩;simp only [];go_step;have hC:=hC.below hq.below hq.drawn;replace hS:=hS.aj aG av bB hq;obtain⟨F2,aQ,-,bR,bP,hS⟩:=hS;replace jY:=Hd jY;replace fi:=Hd fi;refine aX hC ?_;refine aM ?_;refine aZ ?_
    go_wp2_with (fail)
    refine (pd true _ _ _ ls _ S2 (hm.at hS aQ) (by have h3:=fi.out;have h4:=ft.out;have h5:=fb.out;have h6:=hle.out;omega)).mono ?_;rintro e w' ⟨z,rfl,bI,hz⟩;simp only [];go_step;have hC:=hC.below bI.below bI.drawn;replace hS:=hS.aj aQ bP bR bI;obtain⟨F3,bM,-,dP,dE,hS⟩:=hS;refine aX hC ?_;refine aM ?_;refine dC ?_
    (with_reducible refine aJ 3 hS sizeOf51 fun _ hS=>?_)
    refine dD ?_;refine aM ?_;refine bE ?_;go_wp2
    exact jJ 3 hS rfl rfl rfl isAgg51 sizeOf51 rfl rfl ⟨z,S2,rfl,dP.step hS dE bM,by
     have h3:=fi.out;have h4:=ft.out;have h5:=fb.out;have h6:=hle.out;exact (hz.at hS bM).cast (by simp;omega)⟩
  ·have h2:b<0:=by simpa using gY.symm
   clear gY
   go_enter func35,ntmps35
   go_wp2_with (with_reducible first|refine cI hS fun bx cu hS=>?_|refine bH hS zeroValue51 fun br fu hS=>?_|refine aU 1 hS isAgg4 ?_|refine aU 2 hS isAgg4 ?_)
   refine dB [.p 0,.r 1,.p 2,.r 3,.p 4,.r 5,.e 6,.e 7,.p 8,.p 9,.m 10,.p 11] [10] hS fun w1 hS=>?_
   have hC:=hS
   repeat (with_reducible first|refine cZ 1 isAgg4 ?_|refine cZ 1 isAgg49 ?_|refine cZ 2 isAgg49 ?_|refine bU ?_)
   refine aZ ?_
   go_wp2_with (fail)
   refine (aD8 _ _ _ _ _ _ la lb _ S (ha.at hS aC) (hb.at hS aC) (by omega) (by omega)).mono ?_;rintro e w' ⟨bs,S2,ls,rfl,hq,hm,jY,fi⟩;simp only [];go_step;have hC:=hC.below hq.below hq.drawn;replace hS:=hS.aj aC bC bD hq;obtain⟨F1,aG,-,bB,av,hS⟩:=hS;replace jY:=Hd jY;replace fi:=Hd fi;refine aX hC ?_;refine aM ?_;refine aZ ?_
   go_wp2_with (fail)
   refine (pd true _ _ _ ls _ S2 (hm.at hS aG) (by rw [fi.out,ft.out,fb.out];exact Nat.lt_of_le_of_lt (by omega) iV)).mono ?_;rintro e w' ⟨z,rfl,bI,hz⟩;simp only [];go_step;have hC:=hC.below bI.below bI.drawn;replace hS:=hS.aj aG av bB bI;obtain⟨F2,aQ,-,bR,bP,hS⟩:=hS;refine aX hC ?_;refine aM ?_;refine dC ?_
   (with_reducible refine aJ 3 hS sizeOf51 fun _ hS=>?_)
   refine dD ?_;refine aM ?_;refine bE ?_;go_wp2
   exact jJ 3 hS rfl rfl rfl isAgg51 sizeOf51 rfl rfl ⟨z,S2,rfl,bR.step hS bP aQ,by
    have h3:=fi.out;have h4:=ft.out;have h5:=fb.out;exact (hz.at hS aQ).cast (by simp;omega)⟩
theorem aTk (x y:WI) (a b:Int) (w:World) (S:Nat→Prop) (hx:dR w S x a) (hy:dR w S y b) (hL:aP w S) (iV:(a - b).natAbs<kR) :
 Calls prog 138 #[.agg #[.bool x.neg,.slice x.ad x.n x.cap],.agg #[.bool y.neg,.slice y.ad y.n y.cap]] w (aA9 w S (a - b)):=by
 obtain⟨hS,aC,bC,bD⟩:=eR hL
 go_enter func138,ntmps138
 go_wp2_with (with_reducible first|refine cI hS fun bx cu hS=>?_|refine bH hS zeroValue51 fun br fu hS=>?_)
 refine dB [.r 0,.r 1,.e 2,.e 3,.p 4,.p 5,.m 6,.p 7] [6] hS fun w1 hS=>?_
 have hC:=hS
 repeat (with_reducible first|refine cz 1 isAgg51 sizeOf51 ?_|refine cz 2 isAgg51 sizeOf51 ?_)
 refine aZ ?_
 go_wp2_with (fail)
 refine (a8c y b _ S (hy.at hS aC)).mono ?_;rintro e w' ⟨yn,rfl,hq,gY⟩;simp only [];go_step;have pO:=(hx.at hS aC).grow hq;have hC:=hC.below hq.below hq.drawn;replace hS:=hS.aj aC bC bD hq;obtain⟨F1,aG,-,bB,av,hS⟩:=hS;refine aX hC ?_;refine aM ?_;refine aZ ?_
 go_wp2_with (fail)
 refine (aEd x yn a (-b) _ S (pO.at hS aG) (gY.at hS aG) (aP.at hS aG) (by rw [show a+-b=a - b by omega];exact iV)).mono ?_;rintro e w' ⟨z,S2,rfl,bI,hz⟩;simp only [sJ];go_step;have hC:=hC.below bI.below bI.drawn;replace hS:=hS.aj aG av bB bI;obtain⟨F2,aQ,-,bR,bP,hS⟩:=hS;refine aX hC ?_;refine aM ?_;refine dC ?_
 (with_reducible refine aJ 3 hS sizeOf51 fun _ hS=>?_)
 refine dD ?_;refine aM ?_;refine bE ?_;go_wp2;exact jJ 3 hS rfl rfl rfl isAgg51 sizeOf51 rfl rfl ⟨z,S2,rfl,bR.step hS bP aQ,(hz.at hS aQ).cast (by omega)⟩
theorem aRw (a b:Int) (p:Nat) (h:p=a.natAbs*b.natAbs):(if (decide (a<0) != decide (b<0))=true then -(p:Int) else (p:Int))=a*b:=by
 subst h;have h1:((a.natAbs*b.natAbs:Nat):Int)=(a.natAbs:Int)*(b.natAbs:Int):=Int.natCast_mul _ _;rw [h1]
 by_cases ha:a<0 <;> by_cases hb:b<0
 ·simp only [ha,hb,decide_true,bne_self_eq_false,Bool.false_eq_true,if_false]
  rw [show (a.natAbs:Int) = -a by omega,show (b.natAbs:Int) = -b by omega,Int.neg_mul_neg]
 ·simp only [ha,hb,decide_true,decide_false,Bool.bne_false,if_true]
  rw [show (a.natAbs:Int) = -a by omega,show (b.natAbs:Int)=b by omega,Int.neg_mul,Int.neg_neg]
 ·simp only [ha,hb,decide_true,decide_false,Bool.false_bne,if_true]
  rw [show (a.natAbs:Int)=a by omega,show (b.natAbs:Int) = -b by omega,Int.mul_neg,Int.neg_neg]
 ·simp only [ha,hb,decide_false,bne_self_eq_false,Bool.false_eq_true,if_false]
  rw [show (a.natAbs:Int)=a by omega,show (b.natAbs:Int)=b by omega]
theorem aCi (x y:WI) (a b:Int) (w:World) (S:Nat→Prop) (hx:dR w S x a) (hy:dR w S y b) (hL:aP w S) (iV:(a*b).natAbs<kR) :
 Calls prog 83 #[.agg #[.bool x.neg,.slice x.ad x.n x.cap],.agg #[.bool y.neg,.slice y.ad y.n y.cap]] w (aA9 w S (a*b)):=by
 obtain⟨uL,vV,xn,vk⟩:=x;obtain⟨ye,yad,yn,a4X⟩:=y;obtain⟨la,ha,na,xW,fL,ft⟩:=hx;obtain⟨lb,hb,nb,rj,gY,fb⟩:=hy;dsimp only at ha hb fL gY ⊢;obtain⟨hS,aC,bC,bD⟩:=eR hL;replace ft:=Hd ft;replace fb:=Hd fb;replace fL:=Hd fL;replace gY:=Hd gY
 go_enter func83,ntmps83
 go_wp2_with (with_reducible first|refine cI hS fun bx cu hS=>?_|refine bH hS zeroValue51 fun br fu hS=>?_)
 refine dB [.p 0,.r 1,.p 2,.r 3,.p 4,.p 5,.r 6,.p 7,.r 8,.e 9,.e 10,.p 11,.p 12,.m 13,.p 14] [13] hS fun w1 hS=>?_
 have hC:=hS
 repeat (with_reducible first|refine cZ 1 isAgg4 ?_|refine cZ 1 isAgg49 ?_|refine cZ 2 isAgg4 ?_|refine cZ 2 isAgg49 ?_|refine bU ?_)
 refine aZ ?_
 go_wp2_with (fail)
 refine (aUV _ _ _ _ _ _ la lb _ S (ha.at hS aC) (hb.at hS aC) (by omega) (by omega)).mono ?_;rintro e w' ⟨bs,S2,ls,rfl,hq,hm,jY,fi⟩;simp only [];go_step;have hC:=hC.below hq.below hq.drawn;replace hS:=hS.aj aC bC bD hq;obtain⟨F1,aG,-,bB,av,hS⟩:=hS;replace jY:=Hd jY;replace fi:=Hd fi;refine aX hC ?_;refine aM ?_;refine aZ ?_
 go_wp2_with (fail)
 refine (pd _ _ _ _ ls _ S2 (hm.at hS aG) (by rw [fi.out,ft.out,fb.out,← Int.natAbs_mul];exact iV)).mono ?_;rintro e w' ⟨z,rfl,bI,hz⟩;simp only [];go_step;have hC:=hC.below bI.below bI.drawn;replace hS:=hS.aj aG av bB bI;obtain⟨F2,aQ,-,bR,bP,hS⟩:=hS;refine aX hC ?_;refine aM ?_;refine dC ?_
 (with_reducible refine aJ 3 hS sizeOf51 fun _ hS=>?_)
 refine dD ?_;refine aM ?_;refine bE ?_;go_wp2;exact jJ 3 hS rfl rfl rfl isAgg51 sizeOf51 rfl rfl ⟨z,S2,rfl,bR.step hS bP aQ,(hz.at hS aQ).cast (by rw [fL.out,gY.out];exact aRw a b _ (by rw [fi.out,ft.out,fb.out]))⟩
theorem aF7 (a b:Int):Instr.fill (fun i=>some (i*1,1)) ((Array.range (2*1)).map ((Value.int .u32 0).cells[· % (Value.int .u32 0).cells.size]!)) [(0,.int .u32 a),(1,.int .u32 b)]=some #[.int .u32 a,.int .u32 b]:=by
 have h:((Array.range (2*1)).map ((Value.int .u32 0).cells[· % (Value.int .u32 0).cells.size]!))=#[.int .u32 0,.int .u32 0]:=by
  apply Array.ext';simp [Array.range,List.ofFn_succ,Value.cells]
 rw [h];simp [Instr.fill,Value.cells]
theorem dR.stay {w0 w wr:World} {H H':List Chunk} {b:Nat} {o:Obj} {x:WI} {z:Int} (h:dR wr (fun k=>k=b) x z) (h1:aA w0 wr H) (h2:aA w0 w H') (m1:Chunk.aB b o ∈ H) (m2:Chunk.aB b o ∈ H'):dR w (fun k=>k=b) x z:=h.move fun k hk=>by
 subst hk;rw [h2.aB m2,h1.aB m1]
theorem aA.aKh {w0 w:World} {H:List Chunk} {b:Nat} {o:Obj} (S:Nat→Prop) (h:aA w0 w (.aH (Old w0) w0::H)) (hm:Chunk.aB b o ∈ H):Pure w0 S w (fun k=>S k∨k=b) :=
 ⟨h.toBelow (by simp),h.drawn,fun k hk=>.inl hk,fun k hk=>by
  rcases hk with hk|rfl
  ·exact .inl hk
  ·exact .inr (h.a9i hm (c:=.aB k o) rfl)⟩
theorem aJ5 {α:Type}:∀ (H:List α) (j:Nat) (h:j<H.length),(H[j]::H.eraseIdx j).Perm H
 | [],j,h=>by simp at h
 | x::H,0,_=>List.Perm.refl _
 | x::H,j+1,h=>by
  have ih:=aJ5 H j (by simpa using h);simp only [List.getElem_cons_succ,List.eraseIdx_cons_succ];exact (List.Perm.swap x _ _).trans (ih.cons x)
theorem aA.aWb {w0 w wr:World} {H:List Chunk} {F:Nat→Prop} {b:Nat} {o:Obj} (hS:aA w0 w (.aH F wr::H)) (j:Nat) (hj:H[j]? = some (.aB b o)):aA w0 w (.aH (fun k=>F k∨k=b) w::H.eraseIdx j):=by
 obtain⟨aW,hv⟩:=List.getElem?_eq_some_iff.1 hj
 have h1:aA w0 w (.aH F wr::.aB b o::H.eraseIdx j):=hS.perm (by
  refine List.Perm.cons _ ?_;rw [← hv];exact aJ5 H j aW)
 have h2:=h1.freeze 1 rfl;exact h2.join
theorem aA.aJ2 {w0 w wr:World} {H:List Chunk} {F:Nat→Prop} {b:Nat} {o:Obj} (hS:aA w0 w (.aH F wr::H)) (hO:∀ k,Old w0 k→F k) (j:Nat) (hj:H[j]? = some (.aB b o)):ja w0 w b:=by
 have hm:=bW hj;refine⟨?_,Chunk.lt (hS.ok _ (List.mem_cons_of_mem _ hm)) (c:=.aB b o) rfl⟩
 rcases Nat.lt_or_ge b w0.heap.size with aW|gB
 ·exact absurd rfl ((List.pairwise_cons.1 hS.apart).1 _ hm b (hO b aW))
 ·exact gB
theorem Pure.add {w w':World} {S S':Nat→Prop} (h:Pure w S w' S') {b:Nat} (hb:ja w w' b):Pure w S w' (fun k=>S' k∨k=b) :=
 ⟨h.below,h.drawn,fun k hk=>.inl (h.sub k hk),fun k hk=>by
  rcases hk with hk|rfl
  ·exact h.new k hk
  ·exact .inr hb⟩
def a9t (w:World) (S:Nat→Prop) (v:Int) (e:Ending) (w':World):Prop:=∃ (z:WI) (S':Nat→Prop),e=.returned (.agg #[.bool z.neg,.slice z.ad z.n z.cap])∧Pure w S w' S'∧dR w' S' z v
theorem val_two (m:Nat) (h:m≤9223372036854775808):Wd [m % 4294967296,m / 4294967296]∧val [m % 4294967296,m / 4294967296]=m:=by
 constructor
 ·intro x hx
  rw [dc];simp only [List.mem_cons,List.not_mem_nil,or_false] at hx;omega
 ·simp only [val,dc];omega
theorem x6 (n:Int) (w:World) (S:Nat→Prop) (hn:bQ n):Calls prog 82 #[.int .i64 n] w (a9t w S n):=by
 obtain⟨h1,h2⟩:=hn;have hS:=aA.start w
 by_cases h0:n<0
 ·obtain⟨m,rfl⟩:∃ m:Nat,n = -(m:Int):=⟨n.natAbs,by omega⟩
  obtain⟨mM,gW⟩:=val_two m (by omega);have iV:val [m % 4294967296,m / 4294967296]<kR:=ua mM (by simp);replace gW:=Hd gW;have jA:IntKind.u64.wrap (-IntKind.u64.wrap (-(m:Int)))=(m:Int):=by rw [IntKind.wrap_u64,IntKind.wrap_u64];omega
  go_enter func82,ntmps82
  go_wp2_with (first|(with_reducible refine bH hS zeroValue51 fun br fu hS=>?_)|((with_reducible refine dV (T:=49) ?_);refine nc (k:=1) (z:=.int .u32 0) (len:=2) hS underlying49 sizeOf188 zeroValue188 (by decide) (by decide) (aF7 _ _) (fun bs wbs hS=>?_);simp only [aD];simp only [aK] at hS))
  have e1:(m:Int) % 4294967296=((m % 4294967296:Nat):Int):=by omega
  have e2:(m:Int) / 4294967296=((m / 4294967296:Nat):Int):=by omega
  rw [e1,e2] at hS;clear e1 e2;have aDw:=dA.aB 2 hS (l:=[m % 4294967296,m / 4294967296]) rfl mM (by simp [maxLen]);refine (pd true _ _ _ [m % 4294967296,m / 4294967296] _ _ aDw iV).mono ?_;rintro e w2 ⟨z,rfl,hq,hz⟩;have nh:=hS.below hq.below hq.drawn;clear hS;have hS:=nh
  go_wp2_with (with_reducible first|refine bH hS zeroValue51 fun bt wbt hS=>?_|refine aJ 3 hS sizeOf51 fun _ hS=>?_|refine aJ 1 hS sizeOf51 fun _ hS=>?_|refine bA 3 hS isAgg51 sizeOf51 ?_)
  have gS:=dR.stay hz nh hS (b:=bs) (o:=.cells #[.int .u32 ((m % 4294967296:Nat):Int),.int .u32 ((m / 4294967296:Nat):Int)] 188 (0,0)) (by simp) (by simp);exact fE 1 hS rfl rfl rfl isAgg51 sizeOf51 rfl rfl ⟨z,_,rfl,hS.aKh S (b:=bs) (o:=.cells #[.int .u32 ((m % 4294967296:Nat):Int),.int .u32 ((m / 4294967296:Nat):Int)] 188 (0,0)) (by simp),(gS.weaken fun k hk=>.inr hk).cast (by rw [gW.out];simp)⟩
 ·obtain⟨m,rfl⟩:∃ m:Nat,n=(m:Int):=⟨n.toNat,by omega⟩
  obtain⟨mM,gW⟩:=val_two m (by omega);have iV:val [m % 4294967296,m / 4294967296]<kR:=ua mM (by simp)
  go_enter func82,ntmps82
  replace gW:=Hd gW
  go_wp2_with (first|(with_reducible refine bH hS zeroValue51 fun br fu hS=>?_)|((with_reducible refine dV (T:=49) ?_);refine nc (k:=1) (z:=.int .u32 0) (len:=2) hS underlying49 sizeOf188 zeroValue188 (by decide) (by decide) (aF7 _ _) (fun bs wbs hS=>?_);simp only [aD];simp only [aK] at hS))
  have e1:(m:Int) % 4294967296=((m % 4294967296:Nat):Int):=by omega
  have e2:(m:Int) / 4294967296=((m / 4294967296:Nat):Int):=by omega
  rw [e1,e2] at hS;clear e1 e2;have aDw:=dA.aB 2 hS (l:=[m % 4294967296,m / 4294967296]) rfl mM (by simp [maxLen]);refine (pd false _ _ _ [m % 4294967296,m / 4294967296] _ _ aDw iV).mono ?_;rintro e w2 ⟨z,rfl,hq,hz⟩;have nh:=hS.below hq.below hq.drawn;clear hS;have hS:=nh
  go_wp2_with (with_reducible first|refine bH hS zeroValue51 fun bt wbt hS=>?_|refine aJ 3 hS sizeOf51 fun _ hS=>?_|refine aJ 1 hS sizeOf51 fun _ hS=>?_|refine bA 3 hS isAgg51 sizeOf51 ?_)
  have gS:=dR.stay hz nh hS (b:=bs) (o:=.cells #[.int .u32 ((m % 4294967296:Nat):Int),.int .u32 ((m / 4294967296:Nat):Int)] 188 (0,0)) (by simp) (by simp);exact fE 1 hS rfl rfl rfl isAgg51 sizeOf51 rfl rfl ⟨z,_,rfl,hS.aKh S (b:=bs) (o:=.cells #[.int .u32 ((m % 4294967296:Nat):Int),.int .u32 ((m / 4294967296:Nat):Int)] 188 (0,0)) (by simp),(gS.weaken fun k hk=>.inr hk).cast (by rw [gW.out];simp)⟩
def aPA (w:World) (S:Nat→Prop) (a b:Int) (e:Ending) (w':World):Prop:=∃ (z r:WI) (S':Nat→Prop),e=.returned (.tuple #[.agg #[.bool z.neg,.slice z.ad z.n z.cap],.agg #[.bool r.neg,.slice r.ad r.n r.cap],.int .i64 0])∧Pure w S w' S'∧dR w' S' z (a / b)∧dR w' S' r (a % b)
theorem a3y {a b q r:Int} (hb:b≠0) (h:r+b*q=a) (h0:0≤r) (hr:r<b.natAbs):a / b=q∧a % b=r:=by
 rcases Int.lt_or_gt_of_ne hb with aW|jK
 ·have h1:a / (-b) = -q∧a % (-b)=r:=(Int.ediv_emod_unique (by omega)).2 ⟨by rw [Int.neg_mul_neg];exact h,h0,by omega⟩
  rw [Int.ediv_neg,Int.emod_neg] at h1;exact⟨by omega,h1.2⟩
 ·exact (Int.ediv_emod_unique jK).2 ⟨h,h0,by omega⟩
theorem aRT {a b:Int} {A B q r:Nat} (hb:b≠0) (ha:0≤a) (hA:A=a.natAbs) (hB:B=b.natAbs) (h:A=q*B+r) (hr:r<B):a / b=(if decide (b<0)=true then -(q:Int) else (q:Int))∧a % b=(r:Int):=by
 have h':(A:Int)=(q:Int)*(B:Int)+(r:Int):=by rw [h];push_cast;rfl
 by_cases fk:b<0
 ·simp only [fk,decide_true,if_true]
  refine a3y hb ?_ (by omega) (by omega);have:b = -(B:Int):=by omega
  rw [this,Int.neg_mul_neg,Int.mul_comm];omega
 ·simp only [fk,decide_false,Bool.false_eq_true,if_false]
  refine a3y hb ?_ (by omega) (by omega);have:b=(B:Int):=by omega
  rw [this,Int.mul_comm];omega
theorem aPT {a b:Int} {A B q:Nat} (hb:b≠0) (ha:a<0) (hA:A=a.natAbs) (hB:B=b.natAbs) (h:A=q*B):a / b=(if (!decide (b<0))=true then -(q:Int) else (q:Int))∧a % b=0:=by
 have h':(A:Int)=(q:Int)*(B:Int):=by rw [h];push_cast;rfl
 by_cases fk:b<0
 ·simp only [fk,decide_true,Bool.not_true,Bool.false_eq_true,if_false]
  refine a3y hb ?_ (by omega) (by omega);have:b = -(B:Int):=by omega
  rw [this,Int.neg_mul,Int.mul_comm];omega
 ·simp only [fk,decide_false,Bool.not_false,if_true]
  refine a3y hb ?_ (by omega) (by omega);have:b=(B:Int):=by omega
  rw [this,Int.mul_neg,Int.mul_comm];omega
theorem aRn {a b:Int} {A B q r:Nat} (hb:b≠0) (ha:a<0) (hA:A=a.natAbs) (hB:B=b.natAbs) (h:A=q*B+r) (hr:r<B) (h0:0<r):a / b=(if (!decide (b<0))=true then -((q+1:Nat):Int) else ((q+1:Nat):Int))∧a % b=((B - r:Nat):Int):=by
 have h':(A:Int)=(q:Int)*(B:Int)+(r:Int):=by rw [h];push_cast;rfl
 by_cases fk:b<0
 ·simp only [fk,decide_true,Bool.not_true,Bool.false_eq_true,if_false]
  refine a3y hb ?_ (by omega) (by omega);have:b = -(B:Int):=by omega
  rw [this,Int.neg_mul,Int.mul_comm,Int.natCast_add,Int.add_mul];omega
 ·simp only [fk,decide_false,Bool.not_false,if_true]
  refine a3y hb ?_ (by omega) (by omega);have:b=(B:Int):=by omega
  rw [this,Int.mul_neg,Int.mul_comm,Int.natCast_add,Int.add_mul];omega
theorem _root_.Go.Hp.aA.pick {w0 w:World} {H:List Chunk} (h:aA w0 w H) (is:List Nat) (hp:is.isSublist (List.range H.length)=true):aA w0 w (is.filterMap (fun i=>H[i]?)):=by
 have h1:=(List.isSublist_iff_sublist.1 hp).filterMap (fun i=>H[i]?);rw [aFa] at h1;exact h.sub h1
theorem aDS (x y:WI) (a b:Int) (w:World) (S:Nat→Prop) (hx:dR w S x a) (hy:dR w S y b) (hL:aP w S) (uR:b≠0) :
 Calls prog 84 #[.agg #[.bool x.neg,.slice x.ad x.n x.cap],.agg #[.bool y.neg,.slice y.ad y.n y.cap]] w (aPA w S a b):=by
 obtain⟨uL,vV,xn,vk⟩:=x;obtain⟨ye,yad,yn,a4X⟩:=y;have hfa:=hx.lt;obtain⟨la,ha,na,xW,fL,ft⟩:=hx;obtain⟨lb,hb,nb,rj,gY,fb⟩:=hy;dsimp only at ha hb fL gY ⊢;have pM:=ha.len;have oF:=hb.len;subst pM oF;have fk:val lb≠0:=by omega
 have oB:0<lb.length:=by
  rcases Nat.eq_zero_or_pos lb.length with h|h
  ·rw [List.length_eq_zero_iff.1 h] at fk;exact absurd rfl fk
  ·exact h
 obtain⟨hS,aC,bC,bD⟩:=eR hL;replace ft:=Hd ft;replace fb:=Hd fb;replace gY:=Hd gY;cases uL
 ·have h1:0≤a:=by
   have:¬ a<0:=by simpa using fL.symm
   omega
  clear fL
  go_enter func84,ntmps84
  go_wp2_with (first|(with_reducible first|refine cI hS fun bx cu hS=>?_|refine bH hS zeroValue51 fun br fu hS=>?_|refine aU 1 hS isAgg4 ?_|refine aU 2 hS isAgg4 ?_|refine aU 1 hS isAgg49 ?_|refine aU 2 hS isAgg49 ?_)|(go_at_call 79;refine (aBr _ _ _ _ _ _ la lb _ S (ha.at hS aC) (hb.at hS aC) na nb (by omega) fk).mono ?_;rintro e w' ⟨S1,qd,rd,qc,rc,lq,lr,rfl,hq,hmq,rq,nq,nr,aLo,p5,jD⟩;have hbm:=(hb.at hS aC).grow hq;replace p5:=Hd p5;replace jD:=Hd jD;replace hS:=hS.aj aC bC bD hq;obtain⟨F1,aG,-,bB,av,hS⟩:=hS))
  have ma:=aRT uR h1 ft.out fb.out p5.out jD.out;refine (pd _ _ _ _ lq _ S1 (hmq.at hS aG) (by have:=p5.out;have:=ft.out;have:val lq*1≤val lq*val lb:=Nat.mul_le_mul_left _ (by omega);omega)).mono ?_;rintro e w3 ⟨z,rfl,bI,hz⟩;have rq:=(rq.at hS aG).grow bI;replace hS:=hS.aj aG av bB bI;obtain⟨F2,aQ,-,bR,bP,hS⟩:=hS
  go_wp2_with (with_reducible first|refine bH hS zeroValue51 fun b9 xX hS=>?_|refine aJ 5 hS sizeOf51 fun _ hS=>?_)
  refine (pd _ _ _ _ lr _ S1 (rq.at hS aQ) (by have:=jD.out;have:=ua hb.wd rj;omega)).mono ?_;rintro e w4 ⟨r,rfl,cY,hr⟩;have hz:=(hz.at hS aQ).grow cY;replace hS:=hS.aj aQ bP bR cY;obtain⟨F3,bM,-,dP,dE,hS⟩:=hS
  go_wp2_with (with_reducible first|refine bH hS zeroValue51 fun b11 a3b hS=>?_|refine aJ 6 hS sizeOf51 fun _ hS=>?_)
  have hS:=hS.drew;have hC:=hS.pick [0,5,6] rfl;simp only [List.filterMap_cons,List.getElem?_cons_zero,List.getElem?_cons_succ,List.filterMap_nil] at hC;refine a6q [.r 0,.r 1,.e 2,.m 3,.p 4] [3] (fun wZ=>aA w wZ _) (by kernel_rfl) (by kernel_rfl) hC ?_
  repeat (with_reducible first|refine cz 1 isAgg51 sizeOf51 ?_|refine cz 2 isAgg51 sizeOf51 ?_)
  refine aZ ?_
  (with_reducible refine aJ 3 hS sizeOf51 fun _ hS=>?_)
  have hC:=hS.pick [0,5,6] rfl;refine aX hC ?_;refine aM ?_;refine dC ?_
  (with_reducible refine aJ 4 hS sizeOf51 fun _ hS=>?_)
  refine dD ?_;refine aM ?_;refine bE ?_;go_wp2;exact aD4 3 4 hS rfl rfl rfl rfl rfl isAgg51 sizeOf51 rfl isAgg51 sizeOf51 rfl rfl ⟨z,r,S1,rfl,dP.step hS dE bM,(hz.at hS bM).cast (by rw [ma.1,gY.out]),(hr.at hS bM).cast (by rw [ma.2];rfl)⟩
 ·have h1:a<0:=by simpa using fL.symm
  clear fL
  go_enter func84,ntmps84
  go_wp2_with (with_reducible first|refine cI hS fun bx cu hS=>?_|refine bH hS zeroValue51 fun br fu hS=>?_|refine aU 1 hS isAgg49 ?_|refine aU 2 hS isAgg49 ?_)
  refine (aBr _ _ _ _ _ _ la lb _ S (ha.at hS aC) (hb.at hS aC) na nb (by omega) fk).mono ?_;rintro e w' ⟨S1,qd,rd,qc,rc,lq,lr,rfl,hq,hmq,rq,nq,nr,aLo,p5,jD⟩;have hbm:=(hb.at hS aC).grow hq;replace p5:=Hd p5;replace jD:=Hd jD;replace hS:=hS.aj aC bC bD hq;obtain⟨F1,aG,-,bB,av,hS⟩:=hS;simp only []
  have a4P:lr.length≤512:=by
   have h1:=jD.out;exact a4l nr (Nat.lt_trans h1 (ua hb.wd rj))
  by_cases pK:lr=[]
  ·subst pK
   have ma:=aPT uR h1 ft.out fb.out (by simpa [val] using p5.out);replace ma:=Hd ma
   go_wp2_with (with_reducible first|refine aU 1 hS isAgg4 ?_|refine aU 2 hS isAgg4 ?_)
   refine (pd _ _ _ _ lq _ S1 (hmq.at hS aG) (by have:=p5.out;have:=ft.out;have:val lq*1≤val lq*val lb:=Nat.mul_le_mul_left _ (by omega);omega)).mono ?_;rintro e w3 ⟨z,rfl,bI,hz⟩;have rq:=(rq.at hS aG).grow bI;replace hS:=hS.aj aG av bB bI;obtain⟨F2,aQ,-,bR,bP,hS⟩:=hS
   go_wp2_with (with_reducible first|refine bH hS zeroValue51 fun b9 xX hS=>?_|refine aJ 5 hS sizeOf51 fun _ hS=>?_)
   refine (pd _ _ _ _ [] _ S1 (rq.at hS aQ) (by have:=jD.out;have:=ua hb.wd rj;omega)).mono ?_;rintro e w4 ⟨r,rfl,cY,hr⟩;have hz:=(hz.at hS aQ).grow cY;replace hS:=hS.aj aQ bP bR cY;obtain⟨F3,bM,-,dP,dE,hS⟩:=hS
   go_wp2_with (with_reducible first|refine bH hS zeroValue51 fun b11 a3b hS=>?_|refine aJ 6 hS sizeOf51 fun _ hS=>?_)
   have hS:=hS.drew;have hC:=hS.pick [0,5,6] rfl;simp only [List.filterMap_cons,List.getElem?_cons_zero,List.getElem?_cons_succ,List.filterMap_nil] at hC;refine a6q [.r 0,.r 1,.e 2,.m 3,.p 4] [3] (fun wZ=>aA w wZ _) (by kernel_rfl) (by kernel_rfl) hC ?_
   repeat (with_reducible first|refine cz 1 isAgg51 sizeOf51 ?_|refine cz 2 isAgg51 sizeOf51 ?_)
   refine aZ ?_
   (with_reducible refine aJ 3 hS sizeOf51 fun _ hS=>?_)
   have hC:=hS.pick [0,5,6] rfl;refine aX hC ?_;refine aM ?_;refine dC ?_
   (with_reducible refine aJ 4 hS sizeOf51 fun _ hS=>?_)
   refine dD ?_;refine aM ?_;refine bE ?_;go_wp2;exact aD4 3 4 hS rfl rfl rfl rfl rfl isAgg51 sizeOf51 rfl isAgg51 sizeOf51 rfl rfl ⟨z,r,S1,rfl,dP.step hS dE bM,(hz.at hS bM).cast (by rw [ma.out.1,gY.out]),(hr.at hS bM).cast (by rw [ma.out.2];simp [val])⟩
  ·have hrl:0<lr.length:=List.length_pos_iff.2 pK
   have hrv:0<val lr:=by
    rcases Nat.eq_zero_or_pos (val lr) with h|h
    ·exact absurd ((a9H nr).1 h) pK
    ·exact h
   have ma:=aRn uR h1 ft.out fb.out p5.out jD.out hrv;replace ma:=Hd ma
   go_wp2_with (first|(with_reducible refine aU 1 hS isAgg4 ?_)|((with_reducible refine dV (T:=49) ?_);refine fZ (T:=49) (v:=.int .u32 _) hS underlying49 sizeOf188 zeroValue188 rfl rfl rfl (by decide) (by decide) rfl (fun bl fX hS=>?_);simp only [aD];simp only [Value.cells] at hS))
   simp only [aK] at hS;have nT:Wd [1]:=by intro z hz;simp at hz;rw [hz,dc];omega
   have sP:=(dA.aB 5 hS (l:=[1]) rfl nT (by simp [maxLen])).weaken (T:=fun k=>S1 k∨k=bl) (fun k h=>.inr h);have aPv:=(hmq.at hS aG).weaken (T:=fun k=>S1 k∨k=bl) (fun k h=>.inl h);have aCy:=(rq.at hS aG).weaken (T:=fun k=>S1 k∨k=bl) (fun k h=>.inl h);have hbL:=(hbm.at hS aG).weaken (T:=fun k=>S1 k∨k=bl) (fun k h=>.inl h);have bR:=(bB.step hS av aG).add (hS.aJ2 av 4 rfl);have cK:=hS.aWb 4 rfl;obtain⟨F2,aBb⟩:∃ F',F'=fun k=>F1 k∨k=bl:=⟨_,rfl⟩
   rw [← aBb] at cK;have bP:∀ k,Old w k→F2 k:=fun k h=>by rw [aBb];exact .inl (av k h)
   have aQ:∀ k,(S1 k∨k=bl)→F2 k:=fun k h=>by
    rw [aBb]
    rcases h with h|h
    ·exact .inl (aG k h)
    ·exact .inr h
   clear aBb hS;have hS:=cK;clear cK;simp only [List.eraseIdx_cons_succ,List.eraseIdx_cons_zero] at hS
   have hlq:lq.length≤512:=by
    have h3:=p5.out;have h4:val lq*1≤val lq*val lb:=Nat.mul_le_mul_left _ (by omega);exact a4l nq (Nat.lt_of_le_of_lt (by omega) (ua ha.wd xW))
   refine (aD8 _ _ _ _ _ _ lq [1] _ _ aPv sP (by omega) (by simp)).mono ?_;rintro e w5 ⟨bs,S5,ls,rfl,gh,qJ,bh,hsv⟩;replace bh:=Hd bh;replace hsv:=Hd hsv;have aCy:=aCy.grow gh;have hbL:=hbL.grow gh;replace hS:=hS.aj aQ bP bR gh;obtain⟨F3,bM,-,dP,dE,hS⟩:=hS;simp only []
   go_wp2_with (with_reducible refine aU 2 hS isAgg49 ?_)
   refine (a4r _ _ _ _ _ _ lb lr _ S5 (hbL.at hS bM) (aCy.at hS bM) nr (Nat.le_of_lt jD.out) (by omega)).mono ?_;rintro e w6 ⟨bd,S6,ld,rfl,lT,xA,mn,a9c⟩;replace mn:=Hd mn;replace a9c:=Hd a9c;have qJ:=(qJ.at hS bM).grow lT;replace hS:=hS.aj bM dE dP lT;obtain⟨F4,bZ,-,gN,gG,hS⟩:=hS;simp only []
   go_wp2_with (with_reducible first|refine aU 1 hS isAgg4 ?_|refine aU 2 hS isAgg4 ?_)
   refine (pd _ _ _ _ ls _ S6 (qJ.at hS bZ) (by have h3:=p5.out;have h4:=ft.out;have h5:=hsv.out;have h6:=jD.out;have h7:val lq*2≤val lq*val lb:=Nat.mul_le_mul_left _ (by omega);simp only [val] at h5;omega)).mono ?_;rintro e w3 ⟨z,rfl,bI,hz⟩;have rq:=(xA.at hS bZ).grow bI;replace hS:=hS.aj bZ gG gN bI;obtain⟨F5,cG,-,gR,ff,hS⟩:=hS
   go_wp2_with (with_reducible first|refine bH hS zeroValue51 fun b9 xX hS=>?_|refine aJ 5 hS sizeOf51 fun _ hS=>?_)
   refine (pd _ _ _ _ ld _ S6 (rq.at hS cG) (by have:=a9c.out;have:=ua hb.wd rj;omega)).mono ?_;rintro e w4 ⟨r,rfl,cY,hr⟩;have hz:=(hz.at hS cG).grow cY;replace hS:=hS.aj cG ff gR cY;obtain⟨F6,eO,-,kY,j4,hS⟩:=hS
   go_wp2_with (with_reducible first|refine bH hS zeroValue51 fun b11 a3b hS=>?_|refine aJ 6 hS sizeOf51 fun _ hS=>?_)
   have hS:=hS.drew;have hC:=hS.pick [0,5,6] rfl;simp only [List.filterMap_cons,List.getElem?_cons_zero,List.getElem?_cons_succ,List.filterMap_nil] at hC;refine a6q [.r 0,.r 1,.e 2,.m 3,.p 4] [3] (fun wZ=>aA w wZ _) (by kernel_rfl) (by kernel_rfl) hC ?_
   repeat (with_reducible first|refine cz 1 isAgg51 sizeOf51 ?_|refine cz 2 isAgg51 sizeOf51 ?_)
   refine aZ ?_
   (with_reducible refine aJ 3 hS sizeOf51 fun _ hS=>?_)
   have hC:=hS.pick [0,5,6] rfl;refine aX hC ?_;refine aM ?_;refine dC ?_
   (with_reducible refine aJ 4 hS sizeOf51 fun _ hS=>?_)
   refine dD ?_;refine aM ?_;refine bE ?_;go_wp2;exact aD4 3 4 hS rfl rfl rfl rfl rfl isAgg51 sizeOf51 rfl isAgg51 sizeOf51 rfl rfl ⟨z,r,S6,rfl,kY.step hS j4 eO,(hz.at hS eO).cast (by rw [ma.out.1,gY.out,hsv.out];simp [val]),(hr.at hS eO).cast (by rw [ma.out.2];have h3:=a9c.out;simp;omega)⟩
theorem aRz {w:World} {S T:Nat→Prop} {v:Value} {l m:List Nat} (h1:dA w S v l) (h2:dA w T v m):l=m:=by
 obtain⟨⟨a1,ad,cap,a2,a3,a4,a5,a6⟩,_⟩:=h1;obtain⟨⟨b1,gD,a5H,b2,b3,b4,b5,b6⟩,_⟩:=h2;rw [a2] at b2;simp only [Value.slice.injEq] at b2;obtain⟨rfl,hn,rfl⟩:=b2;apply yP 0 hn;intro i hi;cases ad with
 | none=>have:=(a5 rfl).1;omega
 | some ad =>
  have h1:=(a6 ad rfl).cell i _ (a8p hi);have h2:=(b6 ad rfl).cell i _ (a8p (by omega));rw [h1] at h2;simp only [Option.some.injEq,Value.int.injEq,true_and] at h2;omega
section
open Classical in
noncomputable def a5f (w:World) (v:Value):Nat:=if h:∃ l,∃ S,dA w S v l then val (Classical.choose h) else 0
theorem aEF {w:World} {S:Nat→Prop} {v:Value} {l:List Nat} (h:dA w S v l):a5f w v=val l:=by
 have hex:∃ l,∃ S,dA w S v l:=⟨l,S,h⟩;unfold a5f;rw [dif_pos hex];obtain⟨S',hc⟩:=Classical.choose_spec hex;rw [aRz hc h]
end
theorem a6d (x y:WI) (a b:Int) (w:World) (S:Nat→Prop) (hx:dR w S x a) (hy:dR w S y b) (hL:aP w S) :
 Calls prog 31 #[.agg #[.bool x.neg,.slice x.ad x.n x.cap],.agg #[.bool y.neg,.slice y.ad y.n y.cap]] w (a9t w S (Int.gcd a b)):=by
 obtain⟨uL,vV,xn,vk⟩:=x;obtain⟨ye,yad,yn,a4X⟩:=y;obtain⟨la,ha,na,xW,fL,ft⟩:=hx;obtain⟨lb,hb,nb,rj,gY,fb⟩:=hy;dsimp only at ha hb fL gY ⊢;have pM:=ha.len;have oF:=hb.len;subst pM oF;clear fL gY;obtain⟨g,hg⟩:∃ g,g=Nat.gcd (val la) (val lb):=⟨_,rfl⟩;have fy:(g:Int)=Int.gcd a b:=by rw [hg,ft,fb];rfl
 obtain⟨hS,aC,bC,bD⟩:=eR hL;replace fy:=Hd fy;replace hg:=Hd hg;clear ft fb
 go_enter func31,ntmps31
 go_wp2_with (with_reducible first|refine cI hS fun bx cu hS=>?_|refine bH hS zeroValue51 fun br fu hS=>?_)
 refine dB [.p 0,.r 1,.p 2,.r 3,.p 4,.p 5] [] hS fun w1 hS=>?_
 repeat (with_reducible first|refine cZ 1 isAgg49 ?_|refine cZ 2 isAgg49 ?_|refine bU ?_)
 refine bE ?_;go_wp2;have hS:=hS.pick [0,3] rfl;simp only [iw] at hS
 go_loopw [5,6] (fun v5 v6 wr=>∃ (ad bd:Option Addr) (c d:Nat) (la lb:List Nat) (S1 F:Nat→Prop) (wq:World),v5=.slice ad la.length c∧v6=.slice bd lb.length d∧aA w wr [.aH F wq,.aB br (.cells #[.bool false,.slice none 0 0] 51 (0,0))]∧(∀ k,S1 k→F k)∧(∀ k,Old w k→F k)∧Pure w S wq S1∧dA wq S1 (.slice ad la.length c) la∧dA wq S1 (.slice bd lb.length d) lb∧Nm la∧Nm lb∧la.length≤512∧lb.length≤512∧g=Nat.gcd (val la) (val lb)) (fun v5 v6 w=>a5f w v6)
 case atStart=>exact⟨vV,yad,vk,a4X,la,lb,S,Old w,w,rfl,rfl,hS,aC,bC,bD,ha,hb,na,nb,xW,rj,hg.out⟩
 case round =>
  clear hS ha hb na nb xW rj hg aC bC bD hL;obtain⟨ad,bd,c,d,la,lb,S1,F1,wq,rfl,rfl,hS,aG,av,bB,ha,hb,na,nb,xW,rj,hg⟩:=hrel;replace hg:=Hd hg;have HM0:=Hd (aEF (hb.at hS aG))
  by_cases fk:lb=[]
  ·subst fk
   have hgl:g=val la:=by rw [hg.out];simp [val]
   replace hgl:=Hd hgl
   go_wp2_with (fail)
   refine (pd false _ _ _ la _ S1 (ha.at hS aG) (ua ha.wd xW)).mono ?_;rintro e w3 ⟨z,rfl,hq,hz⟩;replace hS:=hS.aj aG av bB hq;obtain⟨F2,aQ,-,bR,bP,hS⟩:=hS;simp only []
   go_wp2_with (with_reducible first|refine bH hS zeroValue51 fun bt wbt hS=>?_|refine aJ 2 hS sizeOf51 fun _ hS=>?_|refine aJ 1 hS sizeOf51 fun _ hS=>?_|refine bA 2 hS isAgg51 sizeOf51 ?_)
   exact fE 1 hS rfl rfl rfl isAgg51 sizeOf51 rfl rfl ⟨z,S1,rfl,bR.step hS bP aQ,(hz.at hS aQ).cast (by rw [← fy.out,hgl.out];simp)⟩
  ·have oB:0<lb.length:=List.length_pos_iff.2 fk
   have zb:val lb≠0:=fun h=>fk ((a9H nb).1 h)
   go_wp2_with (fail)
   refine (aBr _ _ _ _ _ _ la lb _ S1 (ha.at hS aG) (hb.at hS aG) na nb (by omega) zb).mono ?_;rintro e w' ⟨S2,qd,rd,qc,rc,lq,lr,rfl,hq,hmq,rq,nq,nr,aLo,p5,jD⟩;have hb:=(hb.at hS aG).grow hq;replace p5:=Hd p5;replace jD:=Hd jD;replace hS:=hS.aj aG av bB hq;obtain⟨F2,aQ,-,bR,bP,hS⟩:=hS;simp only [];go_wp2;go_roundw
   case rel=>exact⟨bd,rd,d,rc,lb,lr,S2,F2,_,rfl,rfl,hS,aQ,bP,bR,hb,rq,nb,nr,rj,a4l nr (Nat.lt_trans jD.out (ua hb.wd rj)),by
    rw [hg.out,Nat.gcd_comm,Nat.gcd_rec];have h1:=p5.out;have h2:val la % val lb=val lr:=by rw [h1,Nat.mul_comm,Nat.mul_add_mod,Nat.mod_eq_of_lt jD.out]
    rw [h2,Nat.gcd_comm]⟩
   case measure =>
    rw [HM0.out,aEF (rq.at hS aQ)];exact jD.out
section
variable {P:Program} {ops:Array Oper} {Q:Exit→Act→World→Prop} {md:Region.Mode} {C:World→Prop} {M:List Nat}
theorem aQw {j:Nat} {oj:Oper} {d:Tmp} {v:Value} (hj:ops[j]? = some oj) (aNH:d ∉ oj.looksAt ops) (aOr:oj.dst≠some d) (hsj:∀ cs b,oj.op≠.select cs b) (hQ:∀ c a w,¬ Q (.panic c) a w)
 {K K':Act→World→Prop} {a:Act} {w:World} (h:wpOp P ops Q j K a w) (hK:∀ a' w',K a' w'→K' (a'.put (some d) v) w'):wpOp P ops Q j K' (a.put (some d) v) w:=by
 have hl:∀ d',some d=some d'→d' ∉ oj.looksAt ops:=fun d' e=>by cases e;exact aNH
 have hc:∀ d',some d=some d'→oj.dst≠some d':=fun d' e=>by cases e;exact aOr
 unfold wpOp at *;simp only [hj] at *;rw [wanted_put oj a (some d) v hl]
 split
 ·rename_i hw
  rw [if_pos hw] at h
  rcases h with h|⟨aTN,aWa⟩
  case inr=>exact .inr ⟨by unfold Oper.asks at *;rw [execOp_put oj hsj a (some d) v hl];exact aTN,aWa⟩
  refine .inl ?_;unfold Oper.wp at *;rw [execOp_put oj hsj a (some d) v hl];generalize (execOp a.eval oj).run P w=r at *;cases r with
  | ok n w' =>
   cases n <;> simp only [Oper.upon] at h ⊢
   case value u=>rw [Act.put_comm a v u hc];exact hK _ _ h
   case skip=>rw [Act.put_comm a v undef hc];exact hK _ _ h
   case defer df=>rw [Act.put_defers,Act.put_comm _ v undef hc];exact hK _ _ h
   case enter f args =>
    refine Calls.mono h fun e uG he=>?_
    cases e with
    | returned u=>dsimp only at he ⊢;rw [Act.put_comm a v u hc];exact hK _ _ he
    | panicked c=>exact absurd he (hQ _ _ _)
    | outgrown=>exact he
   case row row args=>exact Rows.mono h fun u uG he=>by rw [Act.put_comm a v u hc];exact hK _ _ he
  | halt x w' =>
   cases x <;> simp only [Oper.upon] at h ⊢ <;> first|exact absurd h (hQ _ _ _)
 ·rename_i hw
  rw [if_neg hw] at h;rw [Act.put_comm a v undef hc];exact hK _ _ h
structure cX where
 i:Nat
 t:Tmp
 v:Nat→Value
 o:Obj
def cX.aB (p:cX × Nat):Chunk:=.aB p.2 p.1.o
def over (a:Act) (L:List (cX × Nat)):Act:=L.foldl (fun a p=>a.put (some p.1.t) (p.1.v p.2)) a
theorem aHX (a:Act) (L:List (cX × Nat)) (p:cX × Nat):over a (L++[p])=(over a L).put (some p.1.t) (p.1.v p.2):=by simp [over,List.foldl_append]
theorem a5n (a:Act) (d:Option Tmp) (v:Value):∀ (L:List (cX × Nat)),(∀ p ∈ L,d≠some p.1.t)→(over a L).put d v=over (a.put d v) L
 | [],_=>rfl
 | p::L,h=>by
  show (over (a.put (some p.1.t) (p.1.v p.2)) L).put d v=over ((a.put d v).put (some p.1.t) (p.1.v p.2)) L;rw [a5n _ d v L (fun q hq=>h q (by simp [hq])),Act.put_comm a (p.1.v p.2) v (fun d' e=>by cases e;exact h p (by simp))]
theorem aIu {L L':List (cX × Nat)} (h:L.Perm L'):∀ (a:Act),(L.map (fun p=>p.1.t)).Nodup→over a L=over a L':=by
 induction h with
 | nil=>intro a _;rfl
 | cons x _ ih =>
  intro a hn;simp only [List.map_cons,List.nodup_cons] at hn;exact ih _ hn.2
 | swap x y l =>
  intro a hn;simp only [List.map_cons,List.nodup_cons,List.mem_cons,not_or] at hn;show over ((a.put (some y.1.t) _).put (some x.1.t) _) l=over ((a.put (some x.1.t) _).put (some y.1.t) _) l;rw [Act.put_comm a (y.1.v y.2) (x.1.v x.2) (fun d e h=>by cases e;exact hn.1.1 (by injection h with h;exact h.symm))]
 | trans h1 h2 ih1 ih2 =>
  intro a hn;rw [ih1 a hn,ih2 a ((h1.map _).nodup_iff.1 hn)]
theorem aBY {j:Nat} {oj:Oper} (hj:ops[j]? = some oj) (hsj:∀ cs b,oj.op≠.select cs b) (hQ:∀ c a w,¬ Q (.panic c) a w) {w:World}:∀ (L:List (cX × Nat)) {K K':Act→World→Prop} {a:Act},(∀ p ∈ L,p.1.t ∉ oj.looksAt ops∧oj.dst≠some p.1.t) →
 wpOp P ops Q j K a w→(∀ a' w',K a' w'→K' (over a' L) w')→wpOp P ops Q j K' (over a L) w
 | [],_,_,_,_,h,hK=>wpOp_mono (fun a' w' h'=>hK a' w' h') h
 | p::L,K,K',a,hp,h,hK=>by
  have h1:=aQw (v:=p.1.v p.2) (K':=fun a' w'=>∃ a0,a'=a0.put (some p.1.t) (p.1.v p.2)∧K a0 w') hj (hp p (by simp)).1 (hp p (by simp)).2 hsj hQ h (fun a' w' h'=>⟨a',rfl,h'⟩);exact aBY hj hsj hQ L (a:=a.put (some p.1.t) (p.1.v p.2)) (fun q hq=>hp q (by simp [hq])) h1 (fun a' w' ⟨a0,e,h'⟩=>by subst e;exact hK a0 w' h')
theorem a3W {oi:Oper} {v:Value} (hsi:∀ cs b,oi.op≠.select cs b) {S:World→Prop}:∀ (L:List (cX × Nat)) {a:Act},(∀ p ∈ L,p.1.t ∉ oi.looksAt ops)→YieldsIf P ops S oi v a→YieldsIf P ops S oi v (over a L)
 | [],_,_,h=>h
 | p::L,a,hp,h=>a3W hsi L (fun q hq=>hp q (by simp [hq])) (h.of_same (execOp_put oi hsi a (some p.1.t) _ (fun d e=>by cases e;exact hp p (by simp))) (wanted_put oi a (some p.1.t) _ (fun d e=>by cases e;exact hp p (by simp))))
structure sq (J:List Chunk→World→Prop):Prop where
 alloc:∀ B w o,J B w→J (B++[.aB w.heap.size o]) (w.alloc o)
 perm:∀ B B' w,B'.Perm B→J B w→J B' w
def gw (P:Program) (ops:Array Oper) (Q:Exit→Act→World→Prop) (C:World→Prop) (A:List cX) (E:Act→World→Prop):List Mv→Act→(List Chunk→World→Prop)→Prop
 | [],a,J=>∀ (L:List (cX × Nat)) (w:World),L.map (·.1)=A→J (L.map cX.aB) w→E (over a L) w
 | .p i::s,a,J=>∃ o v,ops[i]? = some o∧YieldsIf P ops (fun _=>True) o v a∧gw P ops Q C A E s (a.put o.dst v) J
 | .r i::s,a,J=>∃ o v,ops[i]? = some o∧YieldsIf P ops C o v a∧gw P ops Q C A E s (a.put o.dst v) J
 | .e i::s,a,J=>∀ B w,J B w→wpOp P ops (di Q) i (fun a' w'=>∃ J',J' B w'∧sq J'∧(∀ B w,J' B w→C w)∧gw P ops Q C A E s a' J') a w
 | .m i::s,a,J=>False
def vS (ops:Array Oper) (A:List cX) (i:Nat):Bool :=
 match ops[i]? with
 | some o=>A.all fun p=>!(o.looksAt ops).contains p.t && o.dst != some p.t
 | none=>false
def zt (md:Region.Mode) (ops:Array Oper) (A:List cX) (i:Nat):Bool :=
 match ops[i]? with
 | some o=>o.after.toList.all fun e=>!Region.binds md e || A.all fun p=>p.i != e.on
 | none=>false
def sC (md:Region.Mode) (ops:Array Oper) (M:List Nat) (A:List cX) (s2:List Mv):List Mv→Array Bool→Array Bool→Bool
 | [],l0,lA=>(A.all fun p=>Region.ready md ops (lA.setIfInBounds p.i false) == [p.i]) && p9 md ops M s2 lA
 | .p i::s,l0,lA=>(Region.ready md ops lA).contains i && zt md ops A i && Region.free md ops l0 i && !M.contains i && vS ops A i && sC md ops M A s2 s (l0.setIfInBounds i true) (lA.setIfInBounds i true)
 | .r i::s,l0,lA=>(Region.ready md ops lA).contains i && zt md ops A i && Region.free md ops l0 i && !M.contains i && (M.all fun m=>(oa md ops ops.size m).contains i) && vS ops A i && sC md ops M A s2 s (l0.setIfInBounds i true) (lA.setIfInBounds i true)
 | .e i::s,l0,lA=>(Region.ready md ops lA == [i]) && zt md ops A i && !M.contains i && vS ops A i && sC md ops M A s2 s (l0.setIfInBounds i true) (lA.setIfInBounds i true)
 | .m _::_,_,_=>false
def mf (md:Region.Mode) (ops:Array Oper) (M:List Nat) (A:List cX) (lA:Array Bool):Bool :=
 A.all fun p=>!M.contains p.i && decide (p.i<lA.size) && match ops[p.i]? with
  | some o=>o.after.toList.all fun e=>!Region.binds md e
  | none=>false
theorem aGZ {i:Nat} {t:Tmp} {o:Oper} {v:Value} {ob:Obj} {K:Act→World→Prop} {a:Act} {w:World} (ho:ops[i]? = some o) (hd:o.dst=some t) (hg:o.guard=none) (hr:(execOp a.eval o).run P w=.ok (.value v) (w.alloc ob))
 (h:K (a.put (some t) v) (w.alloc ob)):wpOp P ops Q i K a w:=by
 unfold wpOp;simp only [ho];rw [if_pos (by simp [Region.wanted,hg])]
 left
 unfold Oper.wp;rw [hr];simp only [Oper.upon];rw [hd];exact h
theorem aMn {L:List (cX × Nat)}:∀ {A:List cX},(L.map (·.1)).Perm A→∃ L':List (cX × Nat),L'.map (·.1)=A∧L'.Perm L:=by
 intro A
 induction A generalizing L with
 | nil =>
  intro h;have:L=[]:=by simpa using h.eq_nil
  exact⟨[],rfl,by rw [this]⟩
 | cons x A ih =>
  intro h;have hx:x ∈ L.map (·.1):=h.symm.subset (by simp);obtain⟨p,hp,rfl⟩:=List.mem_map.1 hx;obtain⟨l1,l2,rfl⟩:=List.append_of_mem hp
  have h2:((l1++l2).map (·.1)).Perm A:=by
   have h3:(p.1::(l1++l2).map (·.1)).Perm (p.1::A):=by
    refine List.Perm.trans ?_ h;simp only [List.map_append,List.map_cons];exact List.perm_middle.symm
   exact h3.cons_inv
  obtain⟨L',e,hL⟩:=ih h2;exact⟨p::L',by simp [e],(hL.cons p).trans List.perm_middle.symm⟩
theorem aDb {p:cX}:∀ {dG:List cX},p ∈ dG→(dG.map (·.i)).Nodup→(dG.filter (fun q=>q.i != p.i)++[p]).Perm dG
 | [],h,_=>by cases h
 | q::l,h,hn=>by
  simp only [List.map_cons,List.nodup_cons] at hn
  rcases List.mem_cons.1 h with e|h
  ·subst e
   have hf:(p::l).filter (fun q=>q.i != p.i)=l:=by
    rw [List.filter_cons_of_neg (by simp)];rw [List.filter_eq_self];intro r hr;simp only [bne_iff_ne,ne_eq];intro e;exact hn.1 (List.mem_map.2 ⟨r,hr,e⟩)
   rw [hf];exact List.perm_append_comm (l₁:=l) (l₂:=[p])
  ·have bJ:q.i≠p.i:=fun e=>hn.1 (by rw [e];exact List.mem_map.2 ⟨p,h,rfl⟩)
   rw [List.filter_cons_of_pos (by simpa using bJ)];exact (aDb h hn.2).cons q
variable (A:List cX)
structure xO (P:Program) (ops:Array Oper) (A:List cX):Prop where
 op:∀ p ∈ A,∃ o,ops[p.i]? = some o∧o.dst=some p.t∧o.guard=none∧∀ (a:Act) (w:World),(execOp a.eval o).run P w=.ok (.value (p.v w.heap.size)) (w.alloc p.o)
 i:(A.map (·.i)).Nodup
 t:(A.map (·.t)).Nodup
theorem za {A:List cX} {i:Nat} {o:Oper} (ho:ops[i]? = some o) (h:vS ops A i=true):∀ p ∈ A,p.t ∉ o.looksAt ops∧o.dst≠some p.t:=by
 intro p hp;simp only [vS,ho,List.all_eq_true,Bool.and_eq_true,Bool.not_eq_true',bne_iff_ne,ne_eq] at h;obtain⟨h1,h2⟩:=h p hp;exact⟨by simpa using h1,h2⟩
structure Up (A:List cX) (aY l0 lA:Array Bool) (T:List Nat):Prop where
 s0:l0.size=aY.size
 sA:lA.size=aY.size
 up:∀ j,aY.getD j true=true↔l0.getD j true=true∨j ∈ T
 all:∀ j,lA.getD j true=true↔l0.getD j true=true∨∃ p ∈ A,p.i=j
 sub:∀ j ∈ T,∃ p ∈ A,p.i=j
 no0:∀ p ∈ A,l0.getD p.i true=false
theorem a3A {l:Array Bool} {j:Nat} (h:j<l.size):l.getD j false=l.getD j true:=by simp [h]
theorem a3k {l:Array Bool} {i j:Nat}:(l.setIfInBounds i true).getD j true=true↔l.getD j true=true∨j=i:=by
 by_cases h:i=j
 ·subst h
  rcases Nat.lt_or_ge i l.size with h'|h'
  ·simp [h']
  ·simp [Array.getElem?_eq_none h']
 ·rw [getD_set_ne true h];simp [Ne.symm h]
theorem Up.move {A:List cX} {aY l0 lA:Array Bool} {T:List Nat} (h:Up A aY l0 lA T) (i:Nat) (hi:∀ p ∈ A,p.i≠i):Up A (aY.setIfInBounds i true) (l0.setIfInBounds i true) (lA.setIfInBounds i true) T:=by
 refine⟨by simpa using h.s0,by simpa using h.sA,fun j=>?_,fun j=>?_,h.sub,fun p hp=>by rw [getD_set_ne true (Ne.symm (hi p hp))];exact h.no0 p hp⟩
 ·rw [a3k,a3k,h.up]
  constructor
  ·rintro ((h|h)|h)
   ·exact .inl (.inl h)
   ·exact .inr h
   ·exact .inl (.inr h)
  ·rintro ((h|h)|h)
   ·exact .inl (.inl h)
   ·exact .inr h
   ·exact .inl (.inr h)
 ·rw [a3k,a3k,h.all]
  constructor
  ·rintro ((h|h)|h)
   ·exact .inl (.inl h)
   ·exact .inr h
   ·exact .inl (.inr h)
  ·rintro ((h|h)|h)
   ·exact .inl (.inl h)
   ·exact .inr h
   ·exact .inl (.inr h)
theorem Up.box {A:List cX} {aY l0 lA:Array Bool} {T:List Nat} (h:Up A aY l0 lA T) {p:cX} (hp:p ∈ A):Up A (aY.setIfInBounds p.i true) l0 lA (T++[p.i]):=by
 refine⟨by simpa using h.s0,by simpa using h.sA,fun j=>?_,h.all,fun j hj=>?_,h.no0⟩
 ·rw [a3k,h.up,List.mem_append,List.mem_singleton,or_assoc]
 ·rcases List.mem_append.1 hj with hj|hj
  ·exact h.sub j hj
  ·exact⟨p,hp,(List.mem_singleton.1 hj).symm⟩
theorem Up.a8Z {A:List cX} {aY l0 lA:Array Bool} {T:List Nat} (h:Up A aY l0 lA T) {j:Nat} (hj:aY.getD j true=false):l0.getD j true=false:=by
 cases hc:l0.getD j true with
 | false=>rfl
 | true=>rw [(h.up j).2 (.inl hc)] at hj;cases hj
theorem Up.toA {A:List cX} {aY l0 lA:Array Bool} {T:List Nat} (h:Up A aY l0 lA T) {j:Nat} (hj:aY.getD j true=true):lA.getD j true=true:=by
 rcases (h.up j).1 hj with h1|h1
 ·exact (h.all j).2 (.inl h1)
 ·exact (h.all j).2 (.inr (h.sub j h1))
theorem a7U {l:Array Bool} {j:Nat} (h:l.getD j false=true):j<l.size:=by
 rcases Nat.lt_or_ge j l.size with h'|h'
 ·exact h'
 ·simp [Array.getElem?_eq_none h'] at h
theorem Up.aC0 {A:List cX} {aY l0 lA:Array Bool} {T:List Nat} (h:Up A aY l0 lA T) {j:Nat} (hr:j ∈ Region.ready md ops aY) (hn:∀ p ∈ A,p.i≠j):j ∈ Region.ready md ops lA:=by
 obtain⟨h1,o,ho,h2⟩:=mem_ready.1 hr;refine mem_ready.2 ⟨?_,o,ho,fun e he hb=>?_⟩
 ·cases hc:lA.getD j true with
  | false=>rfl
  | true =>
   rcases (h.all j).1 hc with h3|⟨p,hp,e⟩
   ·rw [(h.up j).2 (.inl h3)] at h1;cases h1
   ·exact absurd e (hn p hp)
 ·have h3:=h2 e he hb
  have h4:=a7U h3;rw [a3A h4] at h3;rw [a3A (by rw [h.sA];exact h4)];exact h.toA h3
theorem Up.aGf {A:List cX} {aY l0 lA:Array Bool} {T:List Nat} (h:Up A aY l0 lA T) {j:Nat} (hr:j ∈ Region.ready md ops aY) (hn:∀ p ∈ A,p.i≠j) {p:cX} (jP:aY.getD p.i true=false):j ∈ Region.ready md ops (lA.setIfInBounds p.i false):=by
 obtain⟨h0,_⟩:=mem_ready.1 hr;obtain⟨h1,o,ho,h2⟩:=mem_ready.1 (h.aC0 hr hn);obtain⟨_,o',ho',h2'⟩:=mem_ready.1 hr;obtain rfl:=Option.some.inj (ho.symm.trans ho')
 have iF:∀ {k:Nat} {d:Bool},k≠p.i→(lA.setIfInBounds p.i false).getD k d=lA.getD k d:=fun hk=>by
  simp [Array.getElem?_setIfInBounds,Ne.symm hk]
 by_cases hjp:j=p.i
 ·subst hjp
  refine mem_ready.2 ⟨?_,o,ho,fun e he hb=>?_⟩
  ·have aW:p.i<lA.size:=by
    rcases Nat.lt_or_ge p.i aY.size with h5|h5
    ·rw [h.sA];exact h5
    ·simp [Array.getElem?_eq_none h5] at jP
   simp [aW]
  ·have h3:=h2' e he hb
   have bJ:e.on≠p.i:=fun e'=>by
    have h4:=a7U h3;rw [a3A h4,e',jP] at h3;cases h3
   rw [iF bJ];exact h2 e he hb
 ·refine mem_ready.2 ⟨by rw [iF hjp];exact h1,o,ho,fun e he hb=>?_⟩
  have h3:=h2' e he hb
  have bJ:e.on≠p.i:=fun e'=>by
   have h4:=a7U h3;rw [a3A h4,e',jP] at h3;cases h3
  rw [iF bJ];exact h2 e he hb
theorem Up.ready {A:List cX} {aY l0 lA:Array Bool} {T:List Nat} (h:Up A aY l0 lA T) {j:Nat} (hr:j ∈ Region.ready md ops lA) (hn:zt md ops A j=true):j ∈ Region.ready md ops aY:=by
 obtain⟨h1,o,ho,h2⟩:=mem_ready.1 hr;simp only [zt,ho,List.all_eq_true,Bool.or_eq_true,Bool.not_eq_true',bne_iff_ne,ne_eq] at hn;refine mem_ready.2 ⟨?_,o,ho,fun e he hb=>?_⟩
 ·cases hc:aY.getD j true with
  | false=>rfl
  | true=>rw [h.toA hc] at h1;cases h1
 ·have h3:=h2 e he hb
  have h4:=a7U h3;rw [a3A h4] at h3;rw [a3A (by rw [← h.sA];exact h4)]
  rcases (h.all e.on).1 h3 with h5|⟨p,hp,e'⟩
  ·exact (h.up e.on).2 (.inl h5)
  ·rcases hn e (by simpa using he) with h6|h6
   ·rw [hb] at h6;cases h6
   ·exact absurd e' (h6 p hp)
theorem a6W {aY l0:Array Bool} {i:Nat} {oi:Oper} (hi:ops[i]? = some oi) (hf:Region.free md ops l0 i=true) (hl:∀ j,aY.getD j true=false→l0.getD j true=false) :
 ∀ j oj,ops[j]? = some oj→j≠i→aY.getD j true=false→(∀ e ∈ oj.after,Region.binds md e=true→e.on≠i)→oi.apart ops oj=true :=
 fun j oj hj bJ rW lD=>Region.free_spec hi hf j oj hj bJ (hl j rW) lD
theorem aKK {A:List cX} {s2:List Mv} (hA:xO P ops A) (ic:Region.noSelect ops=true):∀ (n:Nat) (s1:List Mv) (aY l0 lA:Array Bool) (dG:List cX) (L:List (cX × Nat)) (a:Act) (w:World) (J:List Chunk→World→Prop),
 n=s1.length+dG.length→sC md ops M A s2 s1 l0 lA=true→mf md ops M A lA=true→Up A aY l0 lA (L.map (·.1.i))→lR md ops aY→(L.map (·.1)++dG).Perm A→J (L.map cX.aB) w→sq J→(∀ B w,J B w→C w) →
 gw P ops Q C A (dN P ops (di Q) C s2) s1 a J→j5 P md ops (di Q) M C (n+s2.length) aY (over a L) w:=by
 have hQ:∀ c a w,¬ di Q (.panic c) a w:=fun _ _ _ h=>h
 intro n
 induction n with
 | zero =>
  intro s1 aY l0 lA dG L a w J hn bG jN db dK hL hJ cA kH ij;have e1:s1=[]:=List.length_eq_zero_iff.1 (by omega);have e2:dG=[]:=List.length_eq_zero_iff.1 (by omega);subst e1 e2;simp only [sC,Bool.and_eq_true] at bG;rw [List.append_nil] at hL;obtain⟨L',e,hp⟩:=aMn hL
  have hn:(L.map (fun p=>p.1.t)).Nodup:=by
   have h1:((L.map (·.1)).map (·.t)).Nodup:=((hL.map _).nodup_iff).2 hA.t
   simpa [List.map_map,Function.comp_def] using h1
  rw [aIu hp.symm a hn];have h2:=ij L' w e (cA.perm _ _ _ (hp.map _) hJ)
  have hl:aY=lA:=by
   apply Array.ext db.sA.symm;intro j h1 h2;have h3:=db.up j;have h4:=db.all j
   have h5:j ∈ L.map (·.1.i)↔∃ p ∈ A,p.i=j:=by
    have h6:(L.map (·.1.i)).Perm (A.map (·.i)):=by
     have:=hL.map (·.i)
     simpa [List.map_map,Function.comp_def] using this
    rw [h6.mem_iff,List.mem_map]
   have h7:aY.getD j true=true↔lA.getD j true=true:=by rw [h3,h4,h5]
   simp only [Array.getD_eq_getD_getElem?,Array.getElem?_eq_getElem h1,Array.getElem?_eq_getElem h2,Option.getD_some] at h7;cases ha:aY[j] <;> cases hb:lA[j] <;> simp_all
  subst hl
  simpa using aBh ic hQ s2 aY _ w bG.2 dK (fun _=>kH _ _ hJ) h2
 | succ n ih =>
  have lay:∀ (s1:List Mv) (aY l0 lA:Array Bool) (dG:List cX) (L:List (cX × Nat)) (a:Act) (w:World) (J:List Chunk→World→Prop) (p:cX),p ∈ dG→p.i ∈ Region.ready md ops aY →
   sC md ops M A s2 s1 l0 lA=true→mf md ops M A lA=true→Up A aY l0 lA (L.map (·.1.i))→lR md ops aY→(L.map (·.1)++dG).Perm A→J (L.map cX.aB) w→sq J→(∀ B w,J B w→C w) →
   gw P ops Q C A (dN P ops (di Q) C s2) s1 a J→n+1=s1.length+dG.length →
   wpOp P ops (di Q) p.i (fun a' w'=>mG M C (aY.setIfInBounds p.i true) w'∧j5 P md ops (di Q) M C (n+s2.length) (aY.setIfInBounds p.i true) a' w') (over a L) w:=by
   intro s1 aY l0 lA dG L a w J p hp hr bG jN db dK hL hJ cA kH ij hk;have oL:p ∈ A:=hL.subset (List.mem_append_right _ hp);obtain⟨o,ho,td,hog,mL⟩:=hA.op p oL
   have kO:(dG.map (·.i)).Nodup:=by
    have h1:((L.map (·.1)++dG).map (·.i)).Nodup:=((hL.map _).nodup_iff).2 hA.i;rw [List.map_append] at h1;exact (List.nodup_append.1 h1).2.1
   have hft:=aDb hp kO
   have uf:J ((L++[(p,w.heap.size)]).map cX.aB) (w.alloc p.o):=by
    rw [List.map_append];exact cA.alloc _ _ _ hJ
   refine aGZ ho td hog (mL _ _) ⟨fun _=>kH _ _ uf,?_⟩
   have hlen:(dG.filter fun q=>q.i != p.i).length+1=dG.length:=by
    have:=hft.length_eq
    simpa using this
   have:=ih s1 (aY.setIfInBounds p.i true) l0 lA (dG.filter fun q=>q.i != p.i) (L++[(p,w.heap.size)]) a _ J (by omega) bG jN (by rw [List.map_append];exact db.box oL) (dK.set hr) (by
    rw [List.map_append];simp only [List.map_cons,List.map_nil,List.append_assoc,List.cons_append,List.nil_append];refine List.Perm.trans (List.Perm.append_left _ ?_) hL;exact (List.perm_append_comm (l₁:=[p]) (l₂:=dG.filter fun q=>q.i != p.i)).trans hft) uf cA kH ij
   rw [aHX] at this;exact this
  intro s1 aY l0 lA dG L a w J hn bG jN db dK hL hJ cA kH ij;rw [show n+1+s2.length=(n+s2.length)+1 by omega];have a4f:=jN;simp only [mf,List.all_eq_true,Bool.and_eq_true,Bool.not_eq_true',decide_eq_true_eq] at a4f
  have a4V:∀ p ∈ dG,p.i ∈ Region.ready md ops aY:=fun p hp=>by
   have oL:p ∈ A:=hL.subset (List.mem_append_right _ hp);obtain⟨o,ho,td,hog,mL⟩:=hA.op p oL;obtain⟨⟨h1,h2⟩,h3⟩:=a4f p oL;simp only [ho,List.all_eq_true,Bool.not_eq_true'] at h3;refine mem_ready.2 ⟨?_,_,ho,fun e he hb=>?_⟩
   ·cases hc:aY.getD p.i true with
    | false=>rfl
    | true =>
     have hnd:((L.map (·.1)++dG).map (·.i)).Nodup:=((hL.map _).nodup_iff).2 hA.i;rw [List.map_append] at hnd
     rcases (db.up p.i).1 hc with h4|h4
     ·rw [db.no0 p oL] at h4;cases h4
     ·exact absurd rfl ((List.nodup_append.1 hnd).2.2 p.i (by simpa [List.map_map,Function.comp_def] using h4) p.i (List.mem_map.2 ⟨p,hp,rfl⟩))
   ·have:=h3 e (by simpa using he);rw [hb] at this;cases this
  have a5P:∀ p ∈ A,p.i ∈ Region.ready md ops aY→p ∈ dG:=fun p oL hr=>by
   rcases List.mem_append.1 (hL.symm.subset oL) with h1|h1
   ·exfalso
    obtain⟨q,hq,rfl⟩:=List.mem_map.1 h1;have h2:=(db.up q.1.i).2 (.inr (List.mem_map.2 ⟨q,hq,rfl⟩));have h3:=(mem_ready.1 hr).1;rw [h2] at h3;cases h3
   ·exact h1
  have a0X:∀ {i:Nat} {o:Oper},ops[i]? = some o→vS ops A i=true→∀ p ∈ A,p.i≠i:=fun ho iQ p hp e=>by
   subst e;obtain⟨o2,ho',td,hog,mL⟩:=hA.op p hp;obtain rfl:=Option.some.inj (ho.symm.trans ho');exact (za ho iQ p hp).2 td
  cases s1 with
  | nil =>
   cases dG with
   | nil=>simp at hn
   | cons p0 dG =>
    have zw:=bG;simp only [sC,Bool.and_eq_true,List.all_eq_true,beq_iff_eq] at zw;refine⟨fun h0=>?_,fun j hj=>?_⟩
    ·have:=a4V p0 (by simp);rw [h0] at this;cases this
    ·by_cases hb:∃ p ∈ A,p.i=j
     ·obtain⟨p,hp,rfl⟩:=hb
      exact lay [] aY l0 lA (p0::dG) L a w J p (a5P p hp hj) hj bG jN db dK hL hJ cA kH ij hn
     ·exfalso
      have bD:p0 ∈ A:=hL.subset (by simp);have h1:=db.aGf hj (fun p hp e=>hb ⟨p,hp,e⟩) (mem_ready.1 (a4V p0 (by simp))).1;rw [zw.1 p0 bD,List.mem_singleton] at h1;exact hb ⟨p0,bD,h1.symm⟩
  | cons m s1 =>
   have ug:∀ p ∈ L,p.1 ∈ A:=fun p hp=>hL.subset (List.mem_append_left _ (List.mem_map.2 ⟨p,hp,rfl⟩))
   cases m with
   | m i=>exact ij.elim
   | p i =>
    simp only [sC,Bool.and_eq_true,Bool.not_eq_true'] at bG;obtain⟨⟨⟨⟨⟨h1,h6⟩,h2⟩,h3⟩,h4⟩,h5⟩:=bG;have jj:i ∉ M:=by simpa using h3
    have hr:i ∈ Region.ready md ops aY:=db.ready (by simpa using h1) h6;obtain⟨o,v,ho,hy,ij⟩:=ij;have iQ:=za ho h4;have rP:=ih s1 (aY.setIfInBounds i true) (l0.setIfInBounds i true) (lA.setIfInBounds i true) dG L (a.put o.dst v) w J (by simp at hn;omega) h5 (by simpa [mf] using jN) (db.move i (a0X ho h4)) (dK.set hr) hL hJ cA kH ij;rw [← a5n a o.dst v L (fun p hp=>(iQ _ (ug p hp)).2)] at rP;exact j5.first (S:=fun _=>True) ho (Region.noSelect_spec ic) hQ jj (fun _ _ _ _ _=>trivial) _ aY _ w dK (fun _=>kH _ _ hJ) (a6W ho h2 (fun j hj=>db.a8Z hj)) hr (a3W (fun cs b=>Region.noSelect_spec ic i o cs b ho) L (fun p hp=>(iQ _ (ug p hp)).1) hy) rP
   | r i =>
    simp only [sC,Bool.and_eq_true,Bool.not_eq_true'] at bG;obtain⟨⟨⟨⟨⟨⟨h1,h7⟩,h2⟩,h3⟩,h6⟩,h4⟩,h5⟩:=bG;have jj:i ∉ M:=by simpa using h3
    have hr:i ∈ Region.ready md ops aY:=db.ready (by simpa using h1) h7;obtain⟨o,v,ho,hy,ij⟩:=ij;have iQ:=za ho h4;have rP:=ih s1 (aY.setIfInBounds i true) (l0.setIfInBounds i true) (lA.setIfInBounds i true) dG L (a.put o.dst v) w J (by simp at hn;omega) h5 (by simpa [mf] using jN) (db.move i (a0X ho h4)) (dK.set hr) hL hJ cA kH ij;rw [← a5n a o.dst v L (fun p hp=>(iQ _ (ug p hp)).2)] at rP
    have tG:∀ (aY:Array Bool) (w:World),lR md ops aY→aY.getD i true=false→mG M C aY w→C w:=by
     intro l' w' hc hu n9;refine n9 fun m kG=>?_
     cases hl:l'.getD m false with
     | false=>rfl
     | true =>
      have h7:=List.all_eq_true.1 h6 m kG;have h8:i ∈ oa md ops ops.size m:=by simpa using h7
      have h9:=hc.oa _ m hl i h8;rw [a4A hu] at h9;cases h9
    exact j5.first (S:=C) ho (Region.noSelect_spec ic) hQ jj tG _ aY _ w dK (fun _=>kH _ _ hJ) (a6W ho h2 (fun j hj=>db.a8Z hj)) hr (a3W (fun cs b=>Region.noSelect_spec ic i o cs b ho) L (fun p hp=>(iQ _ (ug p hp)).1) hy) rP
   | e i =>
    have aDo:=bG;simp only [sC,Bool.and_eq_true,Bool.not_eq_true',beq_iff_eq] at bG;obtain⟨⟨⟨⟨h1,h6⟩,h3⟩,h4⟩,h5⟩:=bG;have hr:i ∈ Region.ready md ops aY:=db.ready (by rw [h1];simp) h6;refine⟨fun h0=>(by rw [h0] at hr;cases hr),fun j hj=>?_⟩
    by_cases hb:∃ p ∈ A,p.i=j
    ·obtain⟨p,hp,rfl⟩:=hb
     exact lay (.e i::s1) aY l0 lA dG L a w J p (a5P p hp hj) hj aDo jN db dK hL hJ cA kH ij hn
    ·have h2:=db.aC0 hj (fun p hp e=>hb ⟨p,hp,e⟩)
     rw [h1,List.mem_singleton] at h2;subst h2;obtain⟨_,o,ho,_⟩:=mem_ready.1 hj;have iQ:=za ho h4;refine aBY ho (fun cs b=>Region.noSelect_spec ic j o cs b ho) hQ L (fun p hp=>iQ _ (ug p hp)) (ij _ w hJ) ?_;intro a' w' ⟨J',uf,aCg,a5N,aFp⟩;exact⟨fun _=>a5N _ _ uf,ih s1 (aY.setIfInBounds j true) (l0.setIfInBounds j true) (lA.setIfInBounds j true) dG L a' w' J' (by simp at hn;omega) h5 (by simpa [mf] using jN) (db.move j (a0X ho h4)) (dK.set hj) hL uf aCg a5N aFp⟩
end
end Go.Hp
