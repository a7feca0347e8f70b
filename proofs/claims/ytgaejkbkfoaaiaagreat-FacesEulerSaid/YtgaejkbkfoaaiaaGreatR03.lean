/- Texts for the walk of the law: K4 K6 K8 K7 K9 KS1 K11 K12. -/
import Derived.Laws.Bits64b
import Derived.Test.YtgaejkbkfoaaiaaGreatR02
import Derived.Shelf.Small.Bits
import Derived.Shelf.Small.Wraps
import Derived.Test.YtgaejkbkfoaaiaaGreatProg
import Derived.WalkMore
set_option maxRecDepth 100000
set_option maxHeartbeats 16000000
set_option linter.unusedVariables false
set_option linter.unusedSimpArgs false
namespace Go.Hp
open Go Go.RowKit Go.Proofs.Tryz
theorem a2T (a:Int):cR a a=0:=by simp [cR]
theorem yl {a b:Nat}:cR (a:Int) (b:Int)=if a<b then -1 else if b<a then 1 else 0:=by unfold cR;simp
theorem a4E {a b:Int}:cR a b=0↔a=b:=by unfold cR;split <;> (try split) <;> omega
theorem aVd {a b:List Nat} {i:Nat} (ha:Wd a) (hb:Wd b) (hi:i<a.length) (hib:i<b.length) (hs:a.drop (i+1)=b.drop (i+1)) (bJ:cR (nth 0 a i:Nat) (nth 0 b i:Nat)≠0):cR (nth 0 a i:Nat) (nth 0 b i:Nat)=cR (val a:Nat) (val b:Nat):=by
 rcases Nat.lt_trichotomy (nth 0 a i) (nth 0 b i) with h|h|h
 ·have:=aLP ha hi hib hs h
  simp [yl,h,this]
 ·rw [h,a2T] at bJ;exact absurd rfl bJ
 ·have:=aLP hb hib hi hs.symm h
  simp only [yl];rw [if_neg (by omega),if_pos h,if_neg (by omega),if_pos this]
theorem aI7 {a b:List Nat} (ha:Wd a) (hb:Wd b) (na:Nm a) (nb:Nm b) (bJ:cR a.length b.length≠0):cR a.length b.length=cR (val a:Nat) (val b:Nat):=by
 rcases Nat.lt_trichotomy a.length b.length with h|h|h
 ·have:=aH2 ha nb h
  simp [yl,h,this]
 ·rw [h,a2T] at bJ;exact absurd rfl bJ
 ·have:=aH2 hb na h
  simp only [yl];rw [if_neg (by omega),if_pos h,if_neg (by omega),if_pos this]
theorem xJ (ad bd:Option Addr) (n c m d:Nat) (la lb:List Nat) (w:World) (S:Nat→Prop) (ha:dA w S (.slice ad n c) la) (hb:dA w S (.slice bd m d) lb) (na:Nm la) (nb:Nm lb) :
 Calls prog 86 #[.slice ad n c,.slice bd m d] w fun e w'=>e=.returned (.int .i64 (cR (val la:Nat) (val lb:Nat)))∧Pure w S w' S:=by
 have h1:=ha.len;have h2:=hb.len;subst h1 h2;have pM:=ha.cap;have oF:=hb.cap;have pR:=ha.bj;have pz:=hb.bj;have hS:=aA.start w;have HL:=Hd (fun h=>aI7 ha.wd hb.wd na nb h)
 by_cases hlen:la.length=lb.length
 ·have iq:cR la.length lb.length=0:=by rw [hlen,a2T]
  replace hlen:=Hd hlen
  go_enter func86,ntmps86
  go_wp2_with (first|(go_at_call 56;refine (a0S _ _ _).mono ?_;rintro e w' ⟨rfl,rfl⟩;rw [iq]))
  go_loopw [6] (fun v wr=>∃ k:Nat,k≤la.length∧v=.int .i64 ((k:Int) - 1)∧aA w wr [.aH (Old w) w]∧la.drop k=lb.drop k) (fun v _=>(intOf v+1).toNat)
  case atStart=>exact⟨la.length,Nat.le_refl _,by go_num,hS,by rw [List.drop_length,hlen.out,List.drop_length]⟩
  case round =>
   obtain⟨k,hk,rfl,hS,hd⟩:=hrel;have wF:=hlen.out
   by_cases h0:k=0
   ·subst h0
    have hv:la=lb:=by simpa using hd
    have hq:cR (val la:Nat) (val lb:Nat)=0:=by rw [hv,a2T]
    replace wF:=Hd wF;clear hv;go_wp2;go_ret;exact⟨jH hq.symm,hS.pure S⟩
   ·obtain⟨j,rfl⟩:∃ j,k=j+1:=⟨k - 1,by omega⟩
    have hj1:j<la.length:=by omega
    have tx:j<lb.length:=by omega
    replace wF:=Hd wF
    by_cases hz:nth 0 la j=nth 0 lb j
    ·have hcz:cR (nth 0 la j:Nat) (nth 0 lb j:Nat)=0:=by rw [hz,a2T]
     replace hz:=Hd hz;replace hd:=Hd hd;go_wp2;refine dB [.p 0,.p 1,.p 2,.r 3,.p 4,.p 5,.p 6,.r 7,.e 8,.p 9] [] hS fun w1 hS=>?_
     repeat (first|((with_reducible refine kM ?_);refine j3 rfl rfl (mE (T:=49) underlying49 sizeOf188 rfl rfl pR (by omega) (by omega) (fun _ _ _=>?_));simp only [aD])|((with_reducible refine kM ?_);refine j3 rfl rfl (mE (T:=49) underlying49 sizeOf188 rfl rfl pz (by omega) (by omega) (fun _ _ _=>?_));simp only [aD])|(with_reducible first|refine eY isAgg188 ?_|refine bU ?_))
     refine aZ ?_
     go_wp2_with (fail)
     refine (aIe _ _ _).mono ?_;rintro e w' ⟨rfl,rfl⟩;simp only [];go_step;refine aX hS ?_;refine aM ?_;refine bE ?_;go_wp2;go_roundw
     case rel=>exact⟨j,by omega,rfl,hS,aTv hj1 tx hd.out hz.out⟩
     case measure=>simp [intOf]
    ·have qY:cR (nth 0 la j:Nat) (nth 0 lb j:Nat)≠0:=fun h=>by have:=a4E.1 h;omega
     have hq:=aVd ha.wd hb.wd hj1 tx hd qY;have fk:(cR (nth 0 la j:Nat) (nth 0 lb j:Nat) != 0)=true:=by simpa using qY
     replace hz:=Hd hz;replace hd:=Hd hd;replace hq:=Hd hq;replace qY:=Hd qY;go_wp2;refine dB [.p 0,.p 1,.p 2,.r 3,.p 4,.p 5,.p 6,.r 7,.e 8,.p 9] [] hS fun w1 hS=>?_
     repeat (first|((with_reducible refine kM ?_);refine j3 rfl rfl (mE (T:=49) underlying49 sizeOf188 rfl rfl pR (by omega) (by omega) (fun _ _ _=>?_));simp only [aD])|((with_reducible refine kM ?_);refine j3 rfl rfl (mE (T:=49) underlying49 sizeOf188 rfl rfl pz (by omega) (by omega) (fun _ _ _=>?_));simp only [aD])|(with_reducible first|refine eY isAgg188 ?_|refine bU ?_))
     refine aZ ?_
     go_wp2_with (fail)
     refine (aIe _ _ _).mono ?_;rintro e w' ⟨rfl,rfl⟩;simp only [];go_step;refine aX hS ?_;refine aM ?_;refine bE ?_;go_wp2;go_ret;exact⟨jH hq.out,hS.pure S⟩
 ·have qY:cR la.length lb.length≠0:=fun h=>by have:=a4E.1 h;omega
  have hq:=aI7 ha.wd hb.wd na nb qY;have fk:(cR la.length lb.length != 0)=true:=by simpa using qY
  replace hlen:=Hd hlen;replace hq:=Hd hq;replace qY:=Hd qY
  go_enter func86,ntmps86
  go_wp2_with (first|(go_at_call 56;refine (a0S _ _ _).mono ?_;rintro e w' ⟨rfl,rfl⟩))
  go_ret;exact⟨jH hq.out,hS.pure S⟩
theorem aOn {a b:Int} (ha:¬ a<0) (hb:¬ b<0):cR (a.natAbs:Nat) (b.natAbs:Nat)=cR a b:=by
 rw [show ((a.natAbs:Nat):Int)=a by omega,show ((b.natAbs:Nat):Int)=b by omega]
theorem aSN {a b:Int} (ha:a<0) (hb:b<0):cR (b.natAbs:Nat) (a.natAbs:Nat)=cR a b:=by
 unfold cR;rw [show ((a.natAbs:Nat):Int) = -a by omega,show ((b.natAbs:Nat):Int) = -b by omega]
 split <;> split <;> (try split) <;> (try split) <;> omega
theorem a8M (x y:WI) (a b:Int) (w:World) (S:Nat→Prop) (hx:dR w S x a) (hy:dR w S y b) :
 Calls prog 90 #[.agg #[.bool x.neg,.slice x.ad x.n x.cap],.agg #[.bool y.neg,.slice y.ad y.n y.cap]] w fun e w'=>e=.returned (.int .i64 (cR a b))∧Pure w S w' S:=by
 obtain⟨uL,vV,xn,vk⟩:=x;obtain⟨ye,yad,yn,a4X⟩:=y;obtain⟨la,ha,na,xW,fL,ft⟩:=hx;obtain⟨lb,hb,nb,rj,gY,fb⟩:=hy;dsimp only at ha hb fL gY ⊢;have hS:=aA.start w;cases uL
 ·have h1:¬ a<0:=by simpa using fL.symm
  cases ye
  ·have h2:¬ b<0:=by simpa using gY.symm
   clear fL gY;replace ft:=Hd ft;replace fb:=Hd fb
   go_enter func90,ntmps90
   go_wp2_with (first|(with_reducible first|refine cI hS fun bx cu hS=>?_|refine aU 1 hS isAgg4 ?_|refine aU 1 hS isAgg49 ?_|refine aU 2 hS isAgg4 ?_|refine aU 2 hS isAgg49 ?_)|(go_at_call 86;refine (xJ _ _ _ _ _ _ la lb _ S (ha.grow (hS.pure S)) (hb.grow (hS.pure S)) na nb).mono ?_;rintro e w' ⟨rfl,hp⟩))
   go_ret;exact⟨jH (by rw [ft.out,fb.out,aOn (by omega) (by omega)]),(hS.pure S).trans hp⟩
  ·have h2:b<0:=by simpa using gY.symm
   clear fL gY;replace ft:=Hd ft;replace fb:=Hd fb
   go_enter func90,ntmps90
   go_wp2_with (with_reducible first|refine cI hS fun bx cu hS=>?_|refine aU 1 hS isAgg4 ?_|refine aU 2 hS isAgg4 ?_)
   go_ret;exact⟨jH (by unfold cR;rw [if_neg (by omega),if_pos (by omega)]),hS.pure S⟩
 ·have h1:a<0:=by simpa using fL.symm
  cases ye
  ·have h2:¬ b<0:=by simpa using gY.symm
   clear fL gY;replace ft:=Hd ft;replace fb:=Hd fb
   go_enter func90,ntmps90
   go_wp2_with (with_reducible first|refine cI hS fun bx cu hS=>?_|refine aU 1 hS isAgg4 ?_|refine aU 2 hS isAgg4 ?_)
   go_ret;exact⟨jH (by unfold cR;rw [if_pos (by omega)]),hS.pure S⟩
  ·have h2:b<0:=by simpa using gY.symm
   clear fL gY;replace ft:=Hd ft;replace fb:=Hd fb
   go_enter func90,ntmps90
   go_wp2_with (first|(with_reducible first|refine cI hS fun bx cu hS=>?_|refine aU 1 hS isAgg4 ?_|refine aU 1 hS isAgg49 ?_|refine aU 2 hS isAgg4 ?_|refine aU 2 hS isAgg49 ?_)|(go_at_call 86;refine (xJ _ _ _ _ _ _ lb la _ S (hb.grow (hS.pure S)) (ha.grow (hS.pure S)) nb na).mono ?_;rintro e w' ⟨rfl,hp⟩))
   go_ret;exact⟨jH (by rw [ft.out,fb.out,aSN h1 h2]),(hS.pure S).trans hp⟩
theorem qu (x:WI) (a:Int) (w:World) (S:Nat→Prop) (hx:dR w S x a) :
 Calls prog 37 #[.agg #[.bool x.neg,.slice x.ad x.n x.cap]] w fun e w'=>e=.returned (.int .i64 (cR a 0))∧Pure w S w' S:=by
 obtain⟨uL,vV,xn,vk⟩:=x;dsimp only;have hS:=aA.start w
 go_enter func37,ntmps37
 go_wp2_with (first|(with_reducible first|refine cI hS fun bx cu hS=>?_|refine bA 1 hS isAgg51 sizeOf51 ?_)|(go_at_call 90;go_loud (refine (a8M ⟨uL,vV,xn,vk⟩ ⟨false,none,0,0⟩ a 0 _ S (hx.grow (hS.pure S)) (dR.zero _ _)).mono ?_);rintro e w' ⟨rfl,hp⟩))
 go_ret;exact⟨rfl,(hS.pure S).trans hp⟩
theorem aA.rest {w0 w:World} {A B:List Chunk} (h:aA w0 w (A++B)) {c:Chunk} (hc:c ∈ A) {k:Nat} (hk:c.has k):Rest w B k :=
 ⟨Chunk.lt (h.ok c (by simp [hc])) hk,fun d hd=>(List.pairwise_append.1 h.apart).2.2 c hc d hd k hk⟩
theorem a7E {w w':World} {F:Chunk} {bo:Nat} {T:TypeId} {la lb o:List Nat} {k cc x c':Nat} {bv:Value} (hS:aA w w' [F,.aB bo (.cells (wv (o.set k x)).toArray T (0,0))]) (hk:k<la.length)
 (cD:o.length=la.length) (dO:Wd o) (dt:∀ j,k≤j→nth 0 o j=nth 0 la j) (hx:x+(cc+nth 0 lb k)=nth 0 la k+WB*c') (hc':c'≤1) (wX:x<4294967296) (zb:bv=.int .u64 (c':Int)) (hv:val o+val (lb.take k)=val la+WB ^ k*cc) :
 ∃ (k' qD:Nat) (o':List Nat),k'≤la.length∧Value.int .i64 ((k:Int)+1)=.int .i64 (k':Int)∧bv=.int .u64 (qD:Int)∧aA w w' [F,.aB bo (.cells (wv o').toArray T (0,0))]∧o'.length=la.length∧Wd o'∧(∀ j,k'≤j→nth 0 o' j=nth 0 la j)∧qD≤1∧val o'+val (lb.take k')=val la+WB ^ k'*qD:=by
 refine⟨k+1,c',o.set k x,by omega,rfl,zb,hS,by simp [cD],dO.set k (by rw [dc];omega),fun j hj=>?_,hc',aOa (by omega) (dt k (Nat.le_refl _)) hx hv⟩;rw [ov,if_neg (by omega)];exact dt j (by omega)
theorem aQt (bo:Nat) (bd:Option Addr) (n c m d:Nat) (la lb:List Nat) (w:World) (F:Nat→Prop) (T:TypeId) (hS:aA w w [.aH F w,.aB bo (.cells (wv la).toArray T (0,0))]) (hb:dA w F (.slice bd m d) lb) (hn:n=la.length) (hwa:Wd la) (hle:la.length≤2000) :
 Calls prog 137 #[.slice (some ⟨bo,0,none⟩) n c,.slice bd m d] w fun e w'=>∃ (o:List Nat) (cc:Nat),e=.returned (.int .u32 (cc:Int))∧aA w w' [.aH F w,.aB bo (.cells (wv o).toArray T (0,0))]∧o.length=la.length∧Wd o∧cc≤1∧val o+val (lb.take la.length)=val la+WB ^ la.length*cc:=by
 have h2:=hb.len;subst hn h2;have hbc:=hb.cap
 go_enter func137,ntmps137
 go_wp2
 go_loopw [11,5] (fun v bv wr=>∃ (k cc:Nat) (o:List Nat),k≤la.length∧v=.int .i64 (k:Int)∧bv=.int .u64 (cc:Int)∧aA w wr [.aH F w,.aB bo (.cells (wv o).toArray T (0,0))]∧o.length=la.length∧Wd o∧(∀ j,k≤j→nth 0 o j=nth 0 la j)∧cc≤1∧val o+val (lb.take k)=val la+WB ^ k*cc) (fun v _ _=>la.length - (intOf v).toNat)
 case atStart=>exact⟨0,0,la,by omega,rfl,rfl,hS,rfl,hwa,fun j _=>rfl,by omega,by simp [val]⟩
 case round =>
  clear hS;obtain⟨k,cc,o,hk,rfl,rfl,hS,cD,dO,dt,jT,hv⟩:=hrel;have lj:=hwa.nth k;have qh:=hb.wd.nth k;have bG:=Hd (dt k (Nat.le_refl _));have kS:=dO.nth k;rw [dc] at lj qh kS;replace hv:=Hd hv;replace dt:=Hd dt;have tL:o.length≤la.length:=by omega
  have qf:la.length≤o.length:=by omega
  clear cD
  by_cases fm:k<la.length
  ·by_cases iE:k<lb.length
   ·by_cases jK:nth 0 o k<cc+nth 0 lb k
    ·go_wp2_with (first|((with_reducible refine du (T:=49) ?_);refine ck rfl (mE (T:=49) underlying49 sizeOf188 rfl rfl hb (by omega) (by omega) (fun _ _ _=>?_));simp only [aD])|((with_reducible refine du (T:=49) ?_);refine ck rfl (gC (T:=49) underlying49 sizeOf188 rfl rfl (by omega) (by omega) ?_);simp only [aD];simp only [Nat.zero_add,Int.toNat_natCast])|(with_reducible refine fP hS isAgg188 ?_)|((with_reducible refine dq (T:=188) ?_);refine dI hS rfl (kD (T:=188) 1 isAgg188 rfl rfl (by first|omega) ?_);simp only [aD])|((with_reducible refine gK (T:=188) ?_);refine jQ (T:=188) (v:=nth 0 o k+4294967296 - (cc+nth 0 lb k)) 1 hS rfl rfl (by omega) rfl (by first|omega) sizeOf188 (fun _ hS=>?_);simp only [aD];simp only [aK] at hS))
     go_roundw
     case rel=>exact a7E (c':=1) hS fm (by omega) dO dt.out (by rw [dc];(rw [← bG.out];omega)) (by omega) (by omega) rfl hv.out
     case measure=>simp [intOf];omega
    ·go_wp2_with (first|((with_reducible refine du (T:=49) ?_);refine ck rfl (mE (T:=49) underlying49 sizeOf188 rfl rfl hb (by omega) (by omega) (fun _ _ _=>?_));simp only [aD])|((with_reducible refine du (T:=49) ?_);refine ck rfl (gC (T:=49) underlying49 sizeOf188 rfl rfl (by omega) (by omega) ?_);simp only [aD];simp only [Nat.zero_add,Int.toNat_natCast])|(with_reducible refine fP hS isAgg188 ?_)|((with_reducible refine dq (T:=188) ?_);refine dI hS rfl (kD (T:=188) 1 isAgg188 rfl rfl (by first|omega) ?_);simp only [aD])|((with_reducible refine gK (T:=188) ?_);refine jQ (T:=188) (v:=nth 0 o k - (cc+nth 0 lb k)) 1 hS rfl rfl (by omega) rfl (by first|omega) sizeOf188 (fun _ hS=>?_);simp only [aD];simp only [aK] at hS))
     go_roundw
     case rel=>exact a7E (c':=0) hS fm (by omega) dO dt.out (by rw [dc];(rw [← bG.out];omega)) (by omega) (by omega) rfl hv.out
     case measure=>simp [intOf];omega
   ·have hz:=Hd (qP 0 lb k (by omega))
    by_cases jK:nth 0 o k<cc
    ·go_wp2_with (first|((with_reducible refine du (T:=49) ?_);refine ck rfl (gC (T:=49) underlying49 sizeOf188 rfl rfl (by omega) (by omega) ?_);simp only [aD];simp only [Nat.zero_add,Int.toNat_natCast])|((with_reducible refine dq (T:=188) ?_);refine dI hS rfl (kD (T:=188) 1 isAgg188 rfl rfl (by first|omega) ?_);simp only [aD])|((with_reducible refine gK (T:=188) ?_);refine jQ (T:=188) (v:=nth 0 o k+4294967296 - cc) 1 hS rfl rfl (by omega) rfl (by first|omega) sizeOf188 (fun _ hS=>?_);simp only [aD];simp only [aK] at hS))
     go_roundw
     case rel=>exact a7E (c':=1) hS fm (by omega) dO dt.out (by rw [dc];(rw [← bG.out,hz.out];omega)) (by omega) (by omega) rfl hv.out
     case measure=>simp [intOf];omega
    ·go_wp2_with (first|((with_reducible refine du (T:=49) ?_);refine ck rfl (gC (T:=49) underlying49 sizeOf188 rfl rfl (by omega) (by omega) ?_);simp only [aD];simp only [Nat.zero_add,Int.toNat_natCast])|((with_reducible refine dq (T:=188) ?_);refine dI hS rfl (kD (T:=188) 1 isAgg188 rfl rfl (by first|omega) ?_);simp only [aD])|((with_reducible refine gK (T:=188) ?_);refine jQ (T:=188) (v:=nth 0 o k - cc) 1 hS rfl rfl (by omega) rfl (by first|omega) sizeOf188 (fun _ hS=>?_);simp only [aD];simp only [aK] at hS))
     go_roundw
     case rel=>exact a7E (c':=0) hS fm (by omega) dO dt.out (by rw [dc];(rw [← bG.out,hz.out];omega)) (by omega) (by omega) rfl hv.out
     case measure=>simp [intOf];omega
  ·obtain rfl:k=la.length:=by omega
   go_wp2;go_ret;exact⟨o,cc,rfl,hS,by omega,dO,jT,hv.out⟩
theorem size1188:(prog.info? 188).map (·.size)=some 1:=by kernel_rfl
theorem a4r (ad bd:Option Addr) (n c m d:Nat) (la lb:List Nat) (w:World) (S:Nat→Prop) (ha:dA w S (.slice ad n c) la) (hb:dA w S (.slice bd m d) lb) (nb:Nm lb) (hv:val lb≤val la) (hle:la.length≤2000) :
 Calls prog 87 #[.slice ad n c,.slice bd m d] w fun e w'=>∃ b S' l,e=.returned (.slice (some ⟨b,0,none⟩) l.length l.length)∧Pure w S w' S'∧dA w' S' (.slice (some ⟨b,0,none⟩) l.length l.length) l∧l.length=la.length∧val l+val lb=val la:=by
 have h1:=ha.len;have h2:=hb.len;have oF:lb.length≤la.length:=aDG nb (Nat.lt_of_le_of_lt hv (wW ha.wd));subst h1 h2;have pR:=ha.bj;have pz:=hb.bj;have hS:=aA.start w;replace hv:=Hd hv
 go_enter func87,ntmps87
 go_wp2_with (first|((with_reducible refine r7 (T:=49) ?_);refine zj (n:=la.length) (T:=49) (E:=188) hS underlying49 info188 rfl rfl (by omega) (by omega) (fun bo wo hS=>?_);simp only [aD];simp only [aK] at hS)|((with_reducible refine aTE ?_);refine aNW (T:=49) (E:=188) 1 hS underlying49 size1188 rfl rfl (pR.later hS (by simp)) rfl (by first|simp) (by first|simp) (fun _ hS=>?_);simp only [aD];simp only [aK] at hS))
 have iD:=(pz.later hS (by simp)).weaken (fun k hk=>hS.rest (A:=[.aH (Old w) w]) (c:=.aH (Old w) w) (by simp) hk);have dw:=aA.split (A:=[.aH (Old w) w]) hS;refine (aQt bo _ _ _ _ _ la lb _ _ _ dw iD rfl ha.wd hle).mono ?_;rintro e w' ⟨o,cc,rfl,fY,cD,dO,jT,dS⟩;have cK:=hS.su (A:=[.aH (Old w) w]) (B':=[.aB bo (.cells (wv o).toArray 188 (0,0))]) fY;clear hS;have hS:=cK;simp only [aK] at hS;replace dS:=Hd dS;have tL:o.length≤la.length:=by omega
 have qf:la.length≤o.length:=by omega
 clear cD;clear cK;go_wp2;go_ret;have cD:o.length=la.length:=by omega
 obtain⟨q1,q2⟩:=hS.zI S 0 rfl dO (by simp [maxLen];omega);obtain⟨r1,r2⟩:=aQC (a:=la) (b:=lb) dO (by omega) hv.out (by rw [cD];exact dS.out);exact⟨bo,_,o,by rw [cD];rfl,q1,q2,cD,r1⟩
theorem a4q {x y:Nat} (hx:x<4294967296) (hy:y<4294967296):bits .or .u64 ((y:Int)*4294967296) (x:Int)=((y*4294967296+x:Nat):Int):=by
 have h:=aNk (x:=x) (y:=y) (by rw [dc];exact hx);rw [dc] at h;rw [show (y:Int)*4294967296=((y*4294967296:Nat):Int) by omega,bits_or_u64_nat _ _ (by omega) (by omega),h]
theorem aI1 (a b:Nat):(a:Int).tdiv (b:Int)=((a / b:Nat):Int):=rfl
theorem aKe (a b:Nat):(a:Int).tmod (b:Int)=((a % b:Nat):Int):=rfl
theorem aR4 {w w':World} {F:Chunk} {bo:Nat} {T:TypeId} {la o:List Nat} {j r d t:Nat} (hS:aA w w' [F,.aB bo (.cells (wv (o.set j (t / d))).toArray T (0,0))]) (hj:j<la.length) (hd:0<d) (ht:t=r*4294967296+nth 0 la j) (hq:t / d<4294967296)
 (cD:o.length=la.length) (dO:Wd o) (dt:∀ i,i<j+1→nth 0 o i=0) (hv:val o*d+WB ^ (j+1)*r+val (la.take (j+1))=val la) :
 ∃ (k' r':Nat) (o':List Nat),k'≤la.length∧Value.int .i64 ((j:Int) - 1)=.int .i64 ((k':Int) - 1)∧Value.int .u64 ((t % d:Nat):Int)=.int .u64 (r':Int)∧aA w w' [F,.aB bo (.cells (wv o').toArray T (0,0))]∧o'.length=la.length∧Wd o'∧(∀ i,i<k'→nth 0 o' i=0)∧r'<d∧val o'*d+WB ^ k'*r'+val (la.take k')=val la:=by
 refine⟨j,t % d,_,by omega,rfl,rfl,hS,by simp [cD],dO.set _ (by rw [dc];exact hq),fun i hi=>?_,Nat.mod_lt _ hd,aPq (by omega) (dt j (by omega)) (by rw [dc];omega) hv⟩;rw [ov,if_neg (by omega)];exact dt i (by omega)
theorem aN1 (ad:Option Addr) (n c:Nat) (la:List Nat) (d:Nat) (w:World) (S:Nat→Prop) (ha:dA w S (.slice ad n c) la) (hd:0<d) (hdw:d<4294967296) (hle:la.length≤2000) :
 Calls prog 129 #[.slice ad n c,.int .u32 (d:Int)] w fun e w'=>∃ b S' l r,e=.returned (.tuple #[.slice (some ⟨b,0,none⟩) l.length l.length,.int .u32 ((r:Nat):Int)])∧Pure w S w' S'∧dA w' S' (.slice (some ⟨b,0,none⟩) l.length l.length) l∧l.length=la.length∧r<d∧val l*d+r=val la:=by
 have h1:=ha.len;subst h1;have pR:=ha.bj;have hS:=aA.start w
 go_enter func129,ntmps129
 go_wp2_with (first|((with_reducible refine r7 (T:=49) ?_);refine zj (n:=la.length) (T:=49) (E:=188) hS underlying49 info188 rfl rfl (by omega) (by omega) (fun bo wo hS=>?_);simp only [aD];simp only [aK] at hS))
 go_loopw [8,7] (fun v rv wr=>∃ (k r:Nat) (o:List Nat),k≤la.length∧v=.int .i64 ((k:Int) - 1)∧rv=.int .u64 (r:Int)∧aA w wr [.aH (Old w) w,.aB bo (.cells (wv o).toArray 188 (0,0))]∧o.length=la.length∧Wd o∧(∀ j,j<k→nth 0 o j=0)∧r<d∧val o*d+WB ^ k*r+val (la.take k)=val la) (fun v _ _=>(intOf v+1).toNat)
 case atStart=>exact⟨la.length,0,List.replicate la.length 0,by omega,by go_num,rfl,hS,by simp,Wd.a1t _,fun j _=>yF _ _ _,hd,by simp [yf]⟩
 case round =>
  clear hS;obtain⟨k,r,o,hk,rfl,rfl,hS,cD,dO,dt,hr,hv⟩:=hrel;replace hv:=Hd hv;replace dt:=Hd dt;have qe:o.length≤la.length:=by omega
  have gv:la.length≤o.length:=by omega
  clear cD
  by_cases kE:k=0
  ·subst kE
   go_wp2;have e:o.length=la.length:=by omega
   obtain⟨q1,q2⟩:=hS.zI S 0 rfl dO (by simp [maxLen];omega);refine bodyPost_ret (results_tmp2 rfl _ _ _) rfl ?_;refine⟨bo,_,o,r,by rw [e];rfl,q1,q2,e,hr,?_⟩;have:=hv.out
   simpa [val] using this
  ·obtain⟨j,rfl⟩:∃ j,k=j+1:=⟨k - 1,by omega⟩
   have lj:=ha.wd.nth j;rw [dc] at lj;have a2a:=a4q (x:=nth 0 la j) (y:=r) lj (by omega);obtain⟨t,ht⟩:∃ t,t=r*4294967296+nth 0 la j:=⟨_,rfl⟩;rw [← ht] at a2a
   have htd:t<d*4294967296:=by
    have:(r+1)*4294967296≤d*4294967296:=Nat.mul_le_mul_right _ hr;omega
   have hq:t / d<4294967296:=by rw [Nat.div_lt_iff_lt_mul hd,Nat.mul_comm];exact htd
   have hm:t % d<d:=Nat.mod_lt _ hd;have az:=aI1 t d;have aM2:=aKe t d;replace ht:=Hd ht;obtain⟨q,xu⟩:∃ q,q=t / d:=⟨_,rfl⟩;obtain⟨m,pj⟩:∃ m,m=t % d:=⟨_,rfl⟩;rw [← xu] at az hq;rw [← pj] at aM2 hm;replace xu:=Hd xu;replace pj:=Hd pj
   go_wp2_with (first|((with_reducible refine du (T:=49) ?_);refine ck rfl (mE (T:=49) underlying49 sizeOf188 rfl rfl pR (by omega) (by omega) (fun _ _ _=>?_));simp only [aD])|((with_reducible refine du (T:=49) ?_);refine ck rfl (gC (T:=49) underlying49 sizeOf188 rfl rfl (by omega) (by omega) ?_);simp only [aD];simp only [Nat.zero_add,Int.toNat_natCast])|(with_reducible refine fP hS isAgg188 ?_)|((with_reducible refine gK (T:=188) ?_);refine jQ (T:=188) (v:=q) 1 hS rfl rfl (by omega) rfl (by first|omega) sizeOf188 (fun _ hS=>?_);simp only [aD];simp only [aK] at hS))
   rw [show (((j+1:Nat):Int) - 1).toNat=j by omega,xu.out] at hS;rw [xu.out] at hq;rw [pj.out];go_roundw
   case rel=>exact aR4 hS (by omega) hd ht.out hq (by omega) dO dt.out hv.out
   case measure=>simp [intOf]
theorem aST (a b:Nat) (ha:a<4294967296) (hb:b<4294967296):bits .or .u32 (a:Int) (b:Int)=((a ||| b:Nat):Int):=by
 have hx:a ||| b<2 ^ 32:=Nat.or_lt_two_pow (by omega) (by omega)
 have h1:(BitVec.ofInt 32 (a:Int)).toNat=a:=by
  rw [BitVec.ofInt_natCast,BitVec.toNat_ofNat];exact Nat.mod_eq_of_lt (by omega)
 have h2:(BitVec.ofInt 32 (b:Int)).toNat=b:=by
  rw [BitVec.ofInt_natCast,BitVec.toNat_ofNat];exact Nat.mod_eq_of_lt (by omega)
 show IntKind.u32.wrap ((BitVec.ofInt 32 (a:Int) ||| BitVec.ofInt 32 (b:Int)).toNat:Int)=_;rw [BitVec.toNat_or,h1,h2,IntKind.wrap_u32];omega
theorem aQj {x s:Nat} (hx:x<4294967296) (hs:s<32):IntKind.u64.wrap ((x:Int)*2 ^ s)=((x*2 ^ s:Nat):Int)∧x*2 ^ s<9223372036854775808:=by
 have h1:2 ^ s≤2 ^ 31:=Nat.pow_le_pow_right (by decide) (by omega);have h2:x*2 ^ s≤4294967295*2 ^ 31:=Nat.mul_le_mul (by omega) h1;have h3:x*2 ^ s<9223372036854775808:=by omega
 refine⟨?_,h3⟩;rw [IntKind.wrap_u64];have:((x*2 ^ s:Nat):Int)=(x:Int)*2 ^ s:=by push_cast;rfl
 rw [← this];omega
theorem aSm {w w':World} {F:Chunk} {bo:Nat} {T:TypeId} {la o:List Nat} {k s v x:Nat} (hS:aA w w' [F,.aB bo (.cells (wv ((o.set k x).set (k+1) (v / 4294967296))).toArray T (0,0))]) (hk:k<la.length) (hs:s<32) (hwa:Wd la) (hx:x=nth 0 o k+v % 4294967296) (um:v=nth 0 la k*2 ^ s)
 (cD:o.length=la.length+1) (dO:Wd o) (dt:∀ i,k<i→nth 0 o i=0) (dg:nth 0 o k<2 ^ s) (hv:val o=val (la.take k)*2 ^ s) :
 ∃ (k':Nat) (o':List Nat),k'≤la.length∧Value.int .i64 ((k:Int)+1)=.int .i64 (k':Int)∧aA w w' [F,.aB bo (.cells (wv o').toArray T (0,0))]∧o'.length=la.length+1∧Wd o'∧(∀ j,k'<j→nth 0 o' j=0)∧nth 0 o' k'<2 ^ s∧val o'=val (la.take k')*2 ^ s:=by
 obtain⟨h1,h2,h3,h4⟩:=aOz hs hwa (by omega) dg (dt (k+1) (by omega)) um hv;rw [dc] at h1 h2 h3 h4;have h5:2 ^ s≤2 ^ 31:=Nat.pow_le_pow_right (by decide) (by omega);refine⟨k+1,_,by omega,rfl,hS,by simp [cD],(dO.set _ (by rw [dc];omega)).set _ (by rw [dc];omega),fun j hj=>?_,?_,?_⟩
 ·rw [ov,if_neg (by omega),ov,if_neg (by omega)];exact dt j (by omega)
 ·rw [ov,if_pos ⟨rfl,by simp;omega⟩];exact h3
 ·rw [hx];exact h4
theorem aMp (ad:Option Addr) (n c:Nat) (la:List Nat) (s:Nat) (w:World) (S:Nat→Prop) (ha:dA w S (.slice ad n c) la) (hs:s<32) (hle:la.length≤2000) :
 Calls prog 132 #[.slice ad n c,.int .i64 (s:Int)] w fun e w'=>∃ b l,e=.returned (.slice (some ⟨b,0,none⟩) (la.length+1) (la.length+1))∧aA w w' [.aH (Old w) w,.aB b (.cells (wv l).toArray 188 (0,0))]∧l.length=la.length+1∧Wd l∧val l=val la*2 ^ s:=by
 have h1:=ha.len;subst h1;have pR:=ha.bj;have hS:=aA.start w
 go_enter func132,ntmps132
 go_wp2_with (first|((with_reducible refine r7 (T:=49) ?_);refine zj (n:=la.length+1) (T:=49) (E:=188) hS underlying49 info188 rfl rfl (by omega) (by omega) (fun bo wo hS=>?_);simp only [aD];simp only [aK] at hS))
 go_loopw [15] (fun v wr=>∃ (k:Nat) (o:List Nat),k≤la.length∧v=.int .i64 (k:Int)∧aA w wr [.aH (Old w) w,.aB bo (.cells (wv o).toArray 188 (0,0))]∧o.length=la.length+1∧Wd o∧(∀ j,k<j→nth 0 o j=0)∧nth 0 o k<2 ^ s∧val o=val (la.take k)*2 ^ s) (fun v _=>la.length - (intOf v).toNat)
 case atStart=>exact⟨0,List.replicate (la.length+1) 0,by omega,rfl,hS,by simp,Wd.a1t _,fun j _=>yF _ _ _,by rw [yF];exact Nat.pow_pos (by decide),by simp [val,yf]⟩
 case round =>
  clear hS;obtain⟨k,o,hk,rfl,hS,cD,dO,dt,dg,hv⟩:=hrel;replace hv:=Hd hv;replace dt:=Hd dt;have qe:o.length≤la.length+1:=by omega
  have gv:la.length+1≤o.length:=by omega
  clear cD;have lj:=ha.wd.nth k;have bG:=dO.nth k;rw [dc] at lj bG
  by_cases fm:k<la.length
  ·obtain⟨hsh,fb⟩:=aQj lj hs
   obtain⟨v,um⟩:∃ v,v=nth 0 la k*2 ^ s:=⟨_,rfl⟩;rw [← um] at hsh fb;obtain⟨x,hx⟩:∃ x,x=nth 0 o k+v % 4294967296:=⟨_,rfl⟩
   have mL:bits .or .u32 ((nth 0 o k:Nat):Int) ((v:Int) % 4294967296)=(x:Int):=by
    have h:=aGC (k:=s) hs (ha.wd.nth k);rw [dc,← um] at h;rw [show (v:Int) % 4294967296=((v % 4294967296:Nat):Int) by omega,aST _ _ bG (by omega),aDg dg h.1,hx]
   replace um:=Hd um;replace hx:=Hd hx
   go_wp2_with (first|((with_reducible refine du (T:=49) ?_);refine ck rfl (mE (T:=49) underlying49 sizeOf188 rfl rfl pR (by omega) (by omega) (fun _ _ _=>?_));simp only [aD])|((with_reducible refine du (T:=49) ?_);refine ck rfl (gC (T:=49) underlying49 sizeOf188 rfl rfl (by omega) (by omega) ?_);simp only [aD];simp only [Nat.zero_add,Int.toNat_natCast])|(with_reducible refine fP hS isAgg188 ?_)|((with_reducible refine dq (T:=188) ?_);refine dI hS rfl (kD (T:=188) 1 isAgg188 rfl rfl (by first|omega) ?_);simp only [aD])|((with_reducible refine gK (T:=188) ?_);refine jQ (T:=188) (v:=x) 1 hS rfl rfl rfl rfl (by first|omega|(simp only [List.length_set];omega)) sizeOf188 (fun _ hS=>?_);simp only [aD];simp only [aK] at hS)|((with_reducible refine gK (T:=188) ?_);refine jQ (T:=188) (v:=v / 4294967296) 1 hS rfl rfl (by omega) rfl (by first|(simp only [List.length_set];omega)) sizeOf188 (fun _ hS=>?_);simp only [aD];simp only [aK] at hS))
   go_roundw
   case rel=>exact aSm hS fm hs ha.wd hx.out um.out (by omega) dO dt.out dg hv.out
   case measure=>simp [intOf];omega
  ·obtain rfl:k=la.length:=by omega
   go_wp2;go_ret;refine⟨bo,o,rfl,hS,by omega,dO,by rw [hv.out,tI (Nat.le_refl _)]⟩
theorem a9f {a b:Nat} (ha:a<4294967296) (hb:b<4294967296):0≤(a:Int)*(b:Int)∧(a:Int)*(b:Int)≤18446744065119617025:=by
 have h:a*b≤4294967295*4294967295:=Nat.mul_le_mul (by omega) (by omega)
 constructor
 ·exact Int.mul_nonneg (by omega) (by omega)
 ·have:((a*b:Nat):Int)≤((4294967295*4294967295:Nat):Int):=by exact_mod_cast h
  simpa using this
theorem aQ4 {w w':World} {F:Chunk} {bo:Nat} {T:TypeId} {la lb o:List Nat} {k k2 cc t:Nat} {V:Nat} (hS:aA w w' [F,.aB bo (.cells (wv (o.set (k+k2) (t % 4294967296))).toArray T (0,0))]) (hk:k<la.length) (iE:k2<lb.length) (ht:t=nth 0 la k*nth 0 lb k2+nth 0 o (k+k2)+cc) (lZ:t<18446744073709551616)
 (cD:o.length=la.length+lb.length) (dO:Wd o) (dt:∀ j,k+lb.length≤j→nth 0 o j=0) (hv:val o+WB ^ (k+k2)*cc=V+WB ^ k*(nth 0 la k*val (lb.take k2))) :
 ∃ (k2' qD:Nat) (o':List Nat),k2'≤lb.length∧Value.int .i64 ((k2:Int)+1)=.int .i64 (k2':Int)∧Value.int .u64 ((t / 4294967296:Nat):Int)=.int .u64 (qD:Int)∧aA w w' [F,.aB bo (.cells (wv o').toArray T (0,0))]∧o'.length=la.length+lb.length∧Wd o'∧(∀ j,k+lb.length≤j→nth 0 o' j=0)∧qD<4294967296∧val o'+WB ^ (k+k2')*qD=V+WB ^ k*(nth 0 la k*val (lb.take k2')):=by
 refine⟨k2+1,t / 4294967296,_,by omega,rfl,rfl,hS,by simp [cD],dO.set _ (by rw [dc];omega),fun j hj=>?_,by omega,?_⟩
 ·rw [ov,if_neg (by omega)];exact dt j hj
 ·have:=aN6 (by omega) ht hv
  rw [dc] at this ⊢;exact this
theorem aTi {w w':World} {F:Chunk} {bo:Nat} {T:TypeId} {la lb o:List Nat} {k cc:Nat} (hS:aA w w' [F,.aB bo (.cells (wv (o.set (k+lb.length) cc)).toArray T (0,0))]) (hk:k<la.length) (jT:cc<4294967296)
 (cD:o.length=la.length+lb.length) (dO:Wd o) (dt:∀ j,k+lb.length≤j→nth 0 o j=0) (hv:val o+WB ^ (k+lb.length)*cc=val (la.take k)*val lb+WB ^ k*(nth 0 la k*val (lb.take lb.length))) :
 ∃ (k':Nat) (o':List Nat),k'≤la.length∧Value.int .i64 ((k:Int)+1)=.int .i64 (k':Int)∧aA w w' [F,.aB bo (.cells (wv o').toArray T (0,0))]∧o'.length=la.length+lb.length∧Wd o'∧(∀ j,k'+lb.length≤j→nth 0 o' j=0)∧val o'=val (la.take k')*val lb:=by
 refine⟨k+1,_,by omega,rfl,hS,by simp [cD],dO.set _ (by rw [dc];omega),fun j hj=>?_,aP2 (by omega) (dt _ (Nat.le_refl _)) rfl rfl hv⟩;rw [ov,if_neg (by omega)];exact dt j (by omega)
theorem aUV (ad bd:Option Addr) (n c m d:Nat) (la lb:List Nat) (w:World) (S:Nat→Prop) (ha:dA w S (.slice ad n c) la) (hb:dA w S (.slice bd m d) lb) (hle:la.length≤2000) (aPe:lb.length≤2000) :
 Calls prog 135 #[.slice ad n c,.slice bd m d] w fun e w'=>∃ b S' l,e=.returned (.slice (some ⟨b,0,none⟩) l.length l.length)∧Pure w S w' S'∧dA w' S' (.slice (some ⟨b,0,none⟩) l.length l.length) l∧l.length=la.length+lb.length∧val l=val la*val lb:=by
 have h1:=ha.len;have h2:=hb.len;subst h1 h2;have pR:=ha.bj;have pz:=hb.bj;have hS:=aA.start w
 go_enter func135,ntmps135
 go_wp2_with (first|((with_reducible refine r7 (T:=49) ?_);refine zj (n:=la.length+lb.length) (T:=49) (E:=188) hS underlying49 info188 rfl rfl (by omega) (by omega) (fun bo wo hS=>?_);simp only [aD];simp only [aK] at hS))
 go_loopw [20] (fun v wr=>∃ (k:Nat) (o:List Nat),k≤la.length∧v=.int .i64 (k:Int)∧aA w wr [.aH (Old w) w,.aB bo (.cells (wv o).toArray 188 (0,0))]∧o.length=la.length+lb.length∧Wd o∧(∀ j,k+lb.length≤j→nth 0 o j=0)∧val o=val (la.take k)*val lb) (fun v _=>la.length - (intOf v).toNat)
 case atStart=>exact⟨0,List.replicate (la.length+lb.length) 0,by omega,rfl,hS,by simp,Wd.a1t _,fun j _=>yF _ _ _,by simp [val,yf]⟩
 case round =>
  clear hS;obtain⟨k,o,hk,rfl,hS,cD,dO,dt,hv⟩:=hrel;have lj:=ha.wd.nth k;rw [dc] at lj;replace hv:=Hd hv;replace dt:=Hd dt;replace cD:=Hd cD
  by_cases fm:k<la.length
  ·go_wp2_with (first|((with_reducible refine du (T:=49) ?_);refine ck rfl (mE (T:=49) underlying49 sizeOf188 rfl rfl pR (by omega) (by omega) (fun _ _ _=>?_));simp only [aD])|(with_reducible refine fP hS isAgg188 ?_))
   go_loopw [27,8] (fun v cv wr=>∃ (k2 cc:Nat) (o:List Nat),k2≤lb.length∧v=.int .i64 (k2:Int)∧cv=.int .u64 (cc:Int)∧aA w wr [.aH (Old w) w,.aB bo (.cells (wv o).toArray 188 (0,0))]∧o.length=la.length+lb.length∧Wd o∧(∀ j,k+lb.length≤j→nth 0 o j=0)∧cc<4294967296∧val o+WB ^ (k+k2)*cc=val (la.take k)*val lb+WB ^ k*(nth 0 la k*val (lb.take k2))) (fun v _ _=>lb.length - (intOf v).toNat)
   case atStart=>exact⟨0,0,o,by omega,rfl,rfl,hS,cD.out,dO,dt.out,by omega,by simp [val,hv.out]⟩
   case round =>
    clear hS;obtain⟨k2,cc,o2,iE,rfl,rfl,hS,qf,nP,aAd,jT,gW⟩:=hrel;have qh:=hb.wd.nth k2;have bG:=nP.nth (k+k2);rw [dc] at qh bG;replace gW:=Hd gW;replace aAd:=Hd aAd;have qe:o2.length≤la.length+lb.length:=by omega
    have gv:la.length+lb.length≤o2.length:=by omega
    clear qf;obtain⟨bB,bR⟩:=a9f lj qh
    by_cases xP:k2<lb.length
    ·go_wp2_with (first|((with_reducible refine du (T:=49) ?_);refine ck rfl (mE (T:=49) underlying49 sizeOf188 rfl rfl pz (by omega) (by omega) (fun _ _ _=>?_));simp only [aD])|((with_reducible refine du (T:=49) ?_);refine ck rfl (gC (T:=49) underlying49 sizeOf188 rfl rfl (by omega) (by omega) ?_);simp only [aD];simp only [Nat.zero_add,Int.toNat_natCast])|(with_reducible refine fP hS isAgg188 ?_)|((with_reducible refine dq (T:=188) ?_);refine dI hS rfl (kD (T:=188) 1 isAgg188 rfl rfl (by first|omega) ?_);simp only [aD])|((with_reducible refine gK (T:=188) ?_);refine jQ (T:=188) (v:=(nth 0 la k*nth 0 lb k2+nth 0 o2 (k+k2)+cc) % 4294967296) 1 hS rfl rfl (by omega) rfl (by first|omega) sizeOf188 (fun _ hS=>?_);simp only [aD];simp only [aK] at hS))
     have e1:((k:Int)+(k2:Int)).toNat=k+k2:=by omega
     have e2:(((nth 0 la k:Nat):Int)*((nth 0 lb k2:Nat):Int)+((nth 0 o2 (k+k2):Nat):Int)+(cc:Int)) / 4294967296=(((nth 0 la k*nth 0 lb k2+nth 0 o2 (k+k2)+cc) / 4294967296:Nat):Int):=by rw [Int.natCast_ediv,Int.natCast_add,Int.natCast_add,Int.natCast_mul];rfl
     have e3:nth 0 la k*nth 0 lb k2+nth 0 o2 (k+k2)+cc<18446744073709551616:=by
      have:((nth 0 la k*nth 0 lb k2:Nat):Int)=((nth 0 la k:Nat):Int)*((nth 0 lb k2:Nat):Int):=Int.natCast_mul _ _;omega
     rw [e1] at hS;rw [e2];go_roundw
     case rel=>exact aQ4 hS fm xP rfl e3 (by omega) nP aAd.out gW.out
     case measure=>simp [intOf];omega
    ·obtain rfl:k2=lb.length:=by omega
     go_wp2_with (first|((with_reducible refine du (T:=49) ?_);refine ck rfl (gC (T:=49) underlying49 sizeOf188 rfl rfl (by omega) (by omega) ?_);simp only [aD];simp only [Nat.zero_add,Int.toNat_natCast])|((with_reducible refine gK (T:=188) ?_);refine jQ (T:=188) (v:=cc) 1 hS rfl rfl (by omega) rfl (by first|omega) sizeOf188 (fun _ hS=>?_);simp only [aD];simp only [aK] at hS))
     have e1:((k:Int)+(lb.length:Int)).toNat=k+lb.length:=by omega
     rw [e1] at hS;go_roundw
     case rel=>exact aTi hS fm jT (by omega) nP aAd.out gW.out
     case measure=>simp [intOf];omega
  ·obtain rfl:k=la.length:=by omega
   go_wp2;go_ret;obtain⟨q1,q2⟩:=hS.zI S 0 rfl dO (by have:=cD.out;simp [maxLen];omega);refine⟨bo,_,o,by rw [cD.out];rfl,q1,q2,cD.out,by rw [hv.out,tI (Nat.le_refl _)]⟩
theorem aWc {o U v:List Nat} {j i d bw bw' c p x:Nat} (hi:j+i<o.length) (h0:nth 0 o (j+i)=nth 0 U (j+i)) (hp:p=c+d*nth 0 v i) (hx:x+p % WB+bw=nth 0 U (j+i)+WB*bw') (h:val o+WB ^ j*(d*val (v.take i))=val U+WB ^ (j+i)*(bw+c)) :
 val (o.set (j+i) x)+WB ^ j*(d*val (v.take (i+1)))=val U+WB ^ (j+(i+1))*(bw'+p / WB):=by
 have h1:=tJ o (j+i) x hi;have h2:=Nat.div_add_mod p WB;rw [h0] at h1;rw [p7,← Nat.add_assoc,rR];have h3:WB ^ (j+i)=WB ^ j*WB ^ i:=Nat.pow_add ..;generalize val (o.set (j+i) x)=Y at *;generalize p % WB=m at *;generalize p / WB=q at *;generalize WB ^ (j+i)=B at *;generalize WB ^ j=B1 at *;generalize WB ^ i=B2 at *;subst hp;have e:B*(c+d*nth 0 v i)=B*WB*q+B*m:=by rw [← h2];grind
 have e2:B*x+B*m+B*bw=B*nth 0 U (j+i)+B*WB*bw':=by grind
 have e3:B1*(d*(val (List.take i v)+B2*nth 0 v i))=B1*(d*val (List.take i v))+B*(d*nth 0 v i):=by rw [h3];grind
 rw [e3]
 grind
theorem aGA {w w':World} {F:Chunk} {bo:Nat} {T:TypeId} {U lv o:List Nat} {j m k d c bw bw' p x:Nat} {cv bv:Value} (hS:aA w w' [F,.aB bo (.cells (wv (o.set (j+k) x)).toArray T (0,0))]) (hk:k<m) (xg:j+m≤U.length)
 (cD:o.length=U.length) (dO:Wd o) (dt:∀ i,(i<j∨j+k≤i)→nth 0 o i=nth 0 U i) (hp:p=c+d*nth 0 lv k) (hx:x+p % 4294967296+bw=nth 0 U (j+k)+4294967296*bw') (wX:x<4294967296) (kj:bw'≤1) (aYU:p<18446744073709551616) (hcv:cv=.int .u64 ((p / 4294967296:Nat):Int)) (zb:bv=.int .u64 (bw':Int)) (qY:lv.length≤k→p<4294967296)
 (hv:val o+WB ^ j*(d*val (lv.take k))=val U+WB ^ (j+k)*(bw+c)) :
 ∃ (k' c' bw':Nat) (o':List Nat),k'≤m∧Value.int .i64 ((k:Int)+1)=.int .i64 (k':Int)∧cv=.int .u64 (c':Int)∧bv=.int .u64 (bw':Int)∧aA w w' [F,.aB bo (.cells (wv o').toArray T (0,0))]∧o'.length=U.length∧Wd o'∧(∀ i,(i<j∨j+k'≤i)→nth 0 o' i=nth 0 U i)∧c'<4294967296∧bw'≤1∧(lv.length<k'→c'=0)∧val o'+WB ^ j*(d*val (lv.take k'))=val U+WB ^ (j+k')*(bw'+c'):=by
 refine⟨k+1,p / 4294967296,bw',_,by omega,rfl,hcv,zb,hS,by simp [cD],dO.set _ (by rw [dc];exact wX),fun i hi=>?_,by omega,kj,fun aW=>?_,?_⟩
 ·rw [ov,if_neg (by omega)];exact dt i (by omega)
 ·have:=qY (by omega);omega
 ·have:=aWc (o:=o) (U:=U) (v:=lv) (j:=j) (i:=k) (d:=d) (bw:=bw) (bw':=bw') (c:=c) (p:=p) (x:=x) (by omega) (dt _ (by omega)) hp (by rw [dc];exact hx) hv
  rw [dc] at this ⊢;exact this
theorem aGG (u lo bw:Nat) (hu:u<4294967296) (dg:lo<4294967296) (kj:bw≤1):∃ t:Nat,IntKind.u64.wrap (IntKind.u64.wrap ((u:Int) - (lo:Int)) - (bw:Int))=(t:Int)∧t % 4294967296+lo+bw=u+4294967296*(t / 9223372036854775808)∧t / 9223372036854775808≤1:=by
 rw [IntKind.wrap_u64,IntKind.wrap_u64];refine⟨((((u:Int) - lo) % 18446744073709551616 - bw) % 18446744073709551616).toNat,?_,?_,?_⟩ <;> omega
theorem aDH (bo j m:Nat) (vd:Option Addr) (c n cd d:Nat) (U lv:List Nat) (w:World) (F:Nat→Prop) (T:TypeId) (hS:aA w w [.aH F w,.aB bo (.cells (wv U).toArray T (0,0))]) (hv:dA w F (.slice vd n cd) lv) (hm:m=lv.length+1) (xg:j+m≤U.length) (hwU:Wd U) (hle:U.length≤4000) (hd:d<4294967296) :
 Calls prog 133 #[.slice (some ⟨bo,j,none⟩) m c,.slice vd n cd,.int .u64 (d:Int)] w fun e w'=>∃ (o:List Nat) (bw:Nat),e=.returned (.bool (decide (bw=1)))∧aA w w' [.aH F w,.aB bo (.cells (wv o).toArray T (0,0))]∧o.length=U.length∧Wd o∧(∀ i,(i<j∨j+m≤i)→nth 0 o i=nth 0 U i)∧bw≤1∧val o+WB ^ j*(d*val lv)=val U+WB ^ (j+m)*bw:=by
 have h2:=hv.len;subst h2;have hvc:=hv.cap
 go_enter func133,ntmps133
 go_wp2
 go_loopw [14,7,8] (fun kv cv bv wr=>∃ (k c bw:Nat) (o:List Nat),k≤m∧kv=.int .i64 (k:Int)∧cv=.int .u64 (c:Int)∧bv=.int .u64 (bw:Int)∧aA w wr [.aH F w,.aB bo (.cells (wv o).toArray T (0,0))]∧o.length=U.length∧Wd o∧(∀ i,(i<j∨j+k≤i)→nth 0 o i=nth 0 U i)∧c<4294967296∧bw≤1∧(lv.length<k→c=0)∧val o+WB ^ j*(d*val (lv.take k))=val U+WB ^ (j+k)*(bw+c)) (fun v _ _ _=>m - (intOf v).toNat)
 case atStart=>exact⟨0,0,0,U,by omega,rfl,rfl,rfl,hS,rfl,hwU,fun _ _=>rfl,by omega,by omega,fun _=>rfl,by simp [val]⟩
 case round =>
  clear hS;obtain⟨k,c,bw,o,hk,rfl,rfl,rfl,hS,cD,dO,dt,hc,kj,hcz,dS⟩:=hrel;have huk:=hwU.nth (j+k);have vW:=hv.wd.nth k;have bG:=Hd (fun h=>dt (j+k) h);have kS:=dO.nth (j+k);rw [dc] at huk vW kS;replace dS:=Hd dS;replace dt:=Hd dt;have tL:o.length≤U.length:=by omega
  have qf:U.length≤o.length:=by omega
  clear cD
  by_cases fm:k<m
  ·by_cases iE:k<lv.length
   ·obtain⟨bB,bR⟩:=a9f hd vW
    obtain⟨p,iS⟩:∃ p,p=c+d*nth 0 lv k:=⟨_,rfl⟩;have qX:(c:Int)+(d:Int)*((nth 0 lv k:Nat):Int)=(p:Int):=by rw [iS,Int.natCast_add,Int.natCast_mul]
    have hpb:p<18446744073709551616:=by omega
    replace iS:=Hd iS;have qY:lv.length≤k→p<4294967296:=fun h=>by omega
    replace qY:=Hd qY;obtain⟨t,ht,ht1,ht2⟩:=aGG (nth 0 o (j+k)) (p % 4294967296) bw kS (by omega) kj;rw [show ((p % 4294967296:Nat):Int)=(p:Int) % 4294967296 by omega] at ht;replace ht1:=Hd ht1
    go_wp2_with (first|((with_reducible refine du (T:=49) ?_);refine ck rfl (mE (T:=49) underlying49 sizeOf188 rfl rfl hv (by omega) (by omega) (fun _ _ _=>?_));simp only [aD])|(with_reducible refine fP hS isAgg188 ?_)|((with_reducible refine dq (T:=188) ?_);refine dI hS rfl (kD (T:=188) 1 isAgg188 rfl rfl (by first|omega) ?_);simp only [aD])|((with_reducible refine gK (T:=188) ?_);refine jQ (T:=188) (v:=t % 4294967296) 1 hS rfl rfl (by omega) rfl (by first|omega) sizeOf188 (fun _ hS=>?_);simp only [aD];simp only [aK] at hS))
    go_roundw
    case rel=>exact aGA (p:=p) (bw':=t / 9223372036854775808) hS fm xg (by omega) dO dt.out iS.out (by have:=bG.out (by omega);have:=ht1.out;omega) (by omega) (by omega) (by omega) (congrArg _ (by omega)) (congrArg _ (by omega)) qY.out dS.out
    case measure=>simp [intOf];omega
   ·have hz:=Hd (qP 0 lv k (by omega))
    have iS:c=c+d*nth 0 lv k:=by rw [hz.out];rfl
    replace iS:=Hd iS;obtain⟨t,ht,ht1,ht2⟩:=aGG (nth 0 o (j+k)) (c % 4294967296) bw kS (by omega) kj;rw [show ((c % 4294967296:Nat):Int)=(c:Int) % 4294967296 by omega] at ht;replace ht1:=Hd ht1;have sS:IntKind.u64.wrap (IntKind.u64.wrap (((nth 0 o (j+k):Nat):Int) - (c:Int)) - (bw:Int))=(t:Int):=by rw [← ht,show (c:Int) % 4294967296=(c:Int) by omega]
    go_wp2_with (first|((with_reducible refine dq (T:=188) ?_);refine dI hS rfl (kD (T:=188) 1 isAgg188 rfl rfl (by first|omega) ?_);simp only [aD])|((with_reducible refine gK (T:=188) ?_);refine jQ (T:=188) (v:=t % 4294967296) 1 hS rfl rfl (by omega) rfl (by first|omega) sizeOf188 (fun _ hS=>?_);simp only [aD];simp only [aK] at hS))
    go_roundw
    case rel=>exact aGA (p:=c) (bw':=t / 9223372036854775808) hS fm xg (by omega) dO dt.out iS.out (by have:=bG.out (by omega);have:=ht1.out;omega) (by omega) (by omega) (by omega) (congrArg _ (by omega)) (congrArg _ (by omega)) (fun _=>hc) dS.out
    case measure=>simp [intOf];omega
  ·obtain rfl:k=m:=by omega
   have iq:=hcz (by omega);subst iq;have kI:=dS.out;rw [tI (by omega),Nat.add_zero] at kI;replace kI:=Hd kI;go_wp2;go_ret
   exact⟨o,bw,aUU (by
    have:bw=0∨bw=1:=by omega
    rcases this with h|h <;> simp [h]),hS,by omega,dO,by first|(rw [← hm];exact dt.out),kj,by first|(rw [← hm];exact kI.out)⟩
theorem aFY {α:Type} {o:Option α} {f g:α} (h:o=some f) (e:f=g:=by kernel_rfl):o=some g:=h.trans (congrArg some e)
section
open Go.Shelf
def aSD:Go.Shelf.Ren:=⟨fun|133=>131|128=>127|n=>n,fun|51=>188|3=>3|4=>4|46=>133|5=>5|9=>9|n=>n,fun|n=>n⟩
theorem aQH:Go.Proofs.Lays.n133 prog aSD:={
 mixed:=by kernel_rfl
 f128:=aFY func127
 f133:=aFY func131
 t3:=underlying3
 a3:=isAgg3
 z3:=sizeOf3
 v3:=zeroValue3
 t4:=underlying4
 a4:=isAgg4
 z4:=sizeOf4
 v4:=zeroValue4
 t5:=underlying5
 a5:=isAgg5
 z5:=sizeOf5
 v5:=zeroValue5
 t9:=underlying9
 a9:=isAgg9
 z9:=sizeOf9
 v9:=zeroValue9
 t46:=underlying133
 a46:=isAgg133
 z46:=sizeOf133
 v46:=zeroValue133
 t51:=underlying188
 a51:=isAgg188
 z51:=sizeOf188
 v51:=zeroValue188 }
theorem bits_LeadingZeros32 (x:Int) (w:World) (h0:0≤x) (h1:x≤4294967295) :
 Calls prog 131 #[.int .u32 x] w fun e w'=>e=.returned (.int .i64 (32 - (Lib.bitLen x.toNat:Int)))∧w'=w:=Proofs.Any.bits_LeadingZeros32 aQH x w h0 h1
end
theorem aNL:∀ x:Nat,x≠0→x<2 ^ 64→1≤Lib.bitLen x∧2 ^ (Lib.bitLen x - 1)≤x:=by
 intro x
 induction x using Nat.strongRecOn with
 | ind x ih =>
  intro h0 h1;rw [Lib.bitLen_half x h0 h1];refine⟨by omega,?_⟩
  by_cases h2:x / 2=0
  ·rw [h2,show Lib.bitLen 0=0 by decide]
   simp;omega
  ·obtain⟨g1,g2⟩:=ih (x / 2) (by omega) h2 (by omega)
   rw [show 1+Lib.bitLen (x / 2) - 1=(Lib.bitLen (x / 2) - 1)+1 by omega,Nat.pow_succ];omega
theorem aSx:∀ x:Nat,x<2 ^ 64→x<2 ^ Lib.bitLen x:=by
 intro x
 induction x using Nat.strongRecOn with
 | ind x ih =>
  intro h1
  by_cases h0:x=0
  ·subst h0;exact Nat.pow_pos (by decide)
  ·rw [Lib.bitLen_half x h0 h1]
   have:=ih (x / 2) (by omega) (by omega);rw [Nat.pow_add];omega
theorem aMT {x:Nat} (h0:x≠0) (h1:x<4294967296):∃ s:Nat,(32:Int) - (Lib.bitLen x:Int)=(s:Int)∧s<32∧2147483648≤x*2 ^ s∧(x+1)*2 ^ s≤4294967296:=by
 obtain⟨g1,g2⟩:=aNL x h0 (by omega);have g4:=aSx x (by omega);have g3:Lib.bitLen x≤32:=Lib.bitLen_le x 32 (by omega) (by omega);refine⟨32 - Lib.bitLen x,by omega,by omega,?_,?_⟩
 ·have:2 ^ (Lib.bitLen x - 1)*2 ^ (32 - Lib.bitLen x)≤x*2 ^ (32 - Lib.bitLen x):=Nat.mul_le_mul_right _ g2
  rw [← Nat.pow_add,show Lib.bitLen x - 1+(32 - Lib.bitLen x)=31 by omega] at this;exact this
 ·have:(x+1)*2 ^ (32 - Lib.bitLen x)≤2 ^ Lib.bitLen x*2 ^ (32 - Lib.bitLen x):=Nat.mul_le_mul_right _ g4
  rw [← Nat.pow_add,show Lib.bitLen x+(32 - Lib.bitLen x)=32 by omega] at this;exact this
theorem aWd {lb:List Nat} {s:Nat} (hw:Wd lb) (hn:1≤lb.length) (hx:(nth 0 lb (lb.length - 1)+1)*2 ^ s≤WB):val lb*2 ^ s<WB ^ lb.length:=by
 obtain⟨k,hk⟩:∃ k,lb.length=k+1:=⟨lb.length - 1,by omega⟩;rw [hk] at hx ⊢;simp only [Nat.add_sub_cancel] at hx;have h2:=p7 lb k;rw [tI (by omega)] at h2;have h3:=a1K hw k;have h4:val lb+1≤WB ^ k*(nth 0 lb k+1):=by rw [Nat.mul_add,Nat.mul_one];omega
 have h5:(val lb+1)*2 ^ s≤WB ^ k*(nth 0 lb k+1)*2 ^ s:=Nat.mul_le_mul_right _ h4;have h6:WB ^ k*((nth 0 lb k+1)*2 ^ s)≤WB ^ k*WB:=Nat.mul_le_mul_left _ hx;have h7:0<2 ^ s:=Nat.pow_pos (by decide);rw [Nat.add_mul,Nat.one_mul,Nat.mul_assoc] at h5;rw [rR];omega
theorem _root_.Go.Hp.dA.trim {w:World} {S:Nat→Prop} {ad:Option Addr} {n c:Nat} {l:List Nat} (hm:dA w S (.slice ad n c) l):dA w S (.slice ad (mF l).length c) (mF l):=by
 have h1:=hm.len;subst h1;rw [a3Q];exact hm.cut (a47 l _)
theorem aJr (l:List Nat):(mF l).length≤l.length:=by rw [a3Q];exact a47 l _
def aAs (w:World) (S:Nat→Prop) (la lb:List Nat) (e:Ending) (w':World):Prop :=
 ∃ (S':Nat→Prop) (qd rd:Option Addr) (qc rc:Nat) (lq lr:List Nat),e=.returned (.tuple #[.slice qd lq.length qc,.slice rd lr.length rc])∧Pure w S w' S'∧dA w' S' (.slice qd lq.length qc) lq∧dA w' S' (.slice rd lr.length rc) lr∧Nm lq∧Nm lr∧lq.length≤2001∧val la=val lq*val lb+val lr∧val lr<val lb
theorem aRL (ad bd:Option Addr) (n c m d:Nat) (la lb:List Nat) (w:World) (S:Nat→Prop) (ha:dA w S (.slice ad n c) la) (hb:dA w S (.slice bd m d) lb) (na:Nm la) (nb:Nm lb) (aW:val la<val lb) :
 Calls prog 79 #[.slice ad n c,.slice bd m d] w (aAs w S la lb):=by
 have h1:=ha.len;have h2:=hb.len;subst h1 h2;have hS:=aA.start w;have hc:cR (val la:Nat) (val lb:Nat) = -1:=by rw [yl,if_pos aW]
 replace aW:=Hd aW
 go_enter func79,ntmps79
 go_wp2
 go_step3
 go_wp2_with (first|(go_at_call 86;refine (xJ _ _ _ _ _ _ la lb _ S ha hb na nb).mono ?_;rintro e w' ⟨rfl,hp⟩))
 refine bodyPost_ret (results_tmp2 rfl _ _ _) rfl ?_;exact⟨S,none,ad,0,c,[],la,rfl,hp,dA.nil _ _,ha.grow hp,.inl rfl,na,by simp,by simp [val],aW.out⟩
theorem aOF (ad bd:Option Addr) (n c m d:Nat) (la lb:List Nat) (w:World) (S:Nat→Prop) (ha:dA w S (.slice ad n c) la) (hb:dA w S (.slice bd m d) lb) (na:Nm la) (nb:Nm lb) (hle:la.length≤2000) (gB:val lb≤val la) (h1w:lb.length=1) :
 Calls prog 79 #[.slice ad n c,.slice bd m d] w (aAs w S la lb):=by
 have h1:=ha.len;have h2:=hb.len;have hm:m=1:=by omega
 subst h1 hm;obtain⟨x,rfl⟩:∃ x,lb=[x]:=List.length_eq_one_iff.1 h1w
 have iz:0<x:=by
  rcases nb with h|⟨q,y,hq,hy⟩
  ·cases h
  ·have:q=[]∧x=y:=by
    cases q with
    | nil=>simp at hq;exact⟨rfl,hq⟩
    | cons z q=>simp at hq
   omega
 have wX:x<4294967296:=by have:=hb.wd x (by simp);rw [dc] at this;exact this
 have kU:val [x]=x:=by simp [val]
 clear h2 h1w
 have hc:(cR (val la:Nat) (val [x]:Nat)<0)=False:=by
  rw [yl,if_neg (by omega)];split <;> simp
 have uN:decide (cR (val la:Nat) (val [x]:Nat)<0)=false:=by simp [hc]
 clear hc;replace gB:=Hd gB;replace kU:=Hd kU
 go_enter func79,ntmps79
 go_wp2
 go_step3
 go_wp2_with (first|(go_at_call 86;refine (xJ _ _ _ _ _ _ la [x] _ S ha hb na nb).mono ?_;rintro e w' ⟨rfl,hp⟩;have ha:=ha.grow hp;have hb:=hb.grow hp;have hS:=aA.start w';have pz:=hb.bj)|((with_reducible refine du (T:=49) ?_);refine ck rfl (mE (T:=49) underlying49 sizeOf188 rfl rfl pz (by omega) (by omega) (fun _ _ _=>?_));simp only [aD])|(with_reducible refine fP hS isAgg188 ?_)|(go_at_call 129;refine (aN1 _ _ _ la x _ S ha iz wX hle).mono ?_;rintro e w2 ⟨bq,S2,lq,r,rfl,bR,hq,uJ,hr,hqv⟩;replace uJ:=Hd uJ;replace hqv:=Hd hqv;have hS:=aA.start w2))
 refine (a34 _ _ _ lq _ _ hq).mono ?_;rintro e w3 ⟨rfl,rfl⟩;simp only []
 go_wp2_with (first|((with_reducible refine dV (T:=49) ?_);refine fZ (T:=49) (v:=.int .u32 _) hS underlying49 sizeOf188 zeroValue188 rfl rfl rfl (by decide) (by decide) rfl (fun _ _ hS=>?_);simp only [aD];simp only [Value.cells] at hS))
 refine (a34 _ _ _ [r] _ _ (dA.aB 1 hS (l:=[r]) rfl (by intro z hz;simp at hz;rw [hz,dc];omega) (by simp [maxLen]))).mono ?_;rintro e w3 ⟨rfl,rfl⟩;simp only [];go_wp2;simp only [aK] at hS;obtain⟨q1,q2⟩:=aA.zI (l:=[r]) S2 0 hS rfl (by intro z hz;simp at hz;rw [hz,dc];omega) (by simp [maxLen]);refine bodyPost_ret (results_tmp2 rfl _ _ _) rfl ?_;refine⟨_,some ⟨bq,0,none⟩,_,_,_,mF lq,mF [r],rfl,(hp.trans bR).trans q1,(hq.trim).grow q1,q2.trim,a2b _,a2b _,?_,?_,?_⟩
 ·have:=aJr lq;rw [uJ.out] at this;omega
 ·rw [zZ,zZ,kU.out,hqv.out.symm];simp [val]
 ·rw [zZ,kU.out];simpa [val] using hr
structure zO (la lb lv:List Nat) (s J:Nat) (U out:List Nat):Prop where
 jle:J≤la.length - lb.length+1
 ul:U.length=la.length+1
 uw:Wd U
 ol:out.length=la.length - lb.length+1
 ow:Wd out
 z:∀ i,i<J→nth 0 out i=0
 v:val U+val out*val lv=val la*2 ^ s
 lt:val (U.drop J)<val lv
theorem zO.right {la lb lv U out o:List Nat} {s j d:Nat} (hI:zO la lb lv s (j+1) U out) (cD:o.length=U.length) (dO:Wd o) (eT:∀ i,(i<j∨j+(lb.length+1)≤i)→nth 0 o i=nth 0 U i) (dS:val o+WB ^ j*(d*val lv)=val U+WB ^ (j+(lb.length+1))*0) (hd:d<4294967296) (hX:val (U.drop j)<val lv*(d+1)):zO la lb lv s j o (out.set j d):=by
 have hj:=hI.jle;obtain⟨h1,h2⟩:=aWm (n:=lb.length) cD (fun i hi=>eT i (.inl hi)) (by simpa using dS) hX hI.v (by rw [hI.ol];omega) (hI.z j (by omega));exact⟨by omega,by rw [cD,hI.ul],dO,by simp [hI.ol],hI.ow.set _ (by rw [dc];exact hd),fun i hi=>by rw [ov,if_neg (by omega)];exact hI.z i (by omega),h1,h2⟩
theorem zO.back {la lb lv U out o o2:List Nat} {s j d c:Nat} (hI:zO la lb lv s (j+1) U out) (cD:o.length=U.length) (lk:o2.length=o.length) (hwo:Wd o) (a7g:Wd o2) (eT:∀ i,(i<j∨j+(lb.length+1)≤i)→nth 0 o i=nth 0 U i) (jy:∀ i,(i<j∨j+(lb.length+1)≤i)→nth 0 o2 i=nth 0 o i)
 (dS:val o+WB ^ j*(d*val lv)=val U+WB ^ (j+(lb.length+1))*1) (hb:val o2+WB ^ (j+(lb.length+1))*c=val o+WB ^ j*val lv) (hdw:d<4294967296) (hX:val (U.drop j)<val lv*(d+1)) (hd:d*val lv<val (U.drop j)+val lv) (yH:val lv<WB ^ lb.length) (pS:val (U.drop j)<val lv*4294967296):zO la lb lv s j o2 (out.set j (d - 1)):=by
 have hj:=hI.jle;have hp:WB ^ (lb.length+1)=WB ^ lb.length*WB:=rR _;have h3:val lv*WB≤WB ^ lb.length*WB:=Nat.mul_le_mul_right _ (by omega);rw [← dc] at pS;have h4:WB ^ lb.length*1≤WB ^ lb.length*WB:=Nat.mul_le_mul_left _ rN;obtain⟨h0,h1,h2⟩:=aNr (n:=lb.length) cD (by omega) eT jy hwo a7g (by simpa using dS) hb hX hd (by omega) (by omega) hI.v (by rw [hI.ol];omega) (hI.z j (by omega));exact⟨by omega,by rw [lk,cD,hI.ul],a7g,by simp [hI.ol],hI.ow.set _ (by rw [dc];omega),fun i hi=>by rw [ov,if_neg (by omega)];exact hI.z i (by omega),h1,h2⟩
theorem a3K {w w':World} {A:List Chunk} {bu bc:Nat} {T U':TypeId} {U lv o:List Nat} {j n k cc t:Nat} (hS:aA w w' (A++[.aB bu (.cells (wv (o.set (j+k) (t % 4294967296))).toArray T (0,0)),.aB bc (.cells #[.int .u64 ((t / 4294967296:Nat):Int)] U' (0,0))])) (hk:k<n+1) (hj:j+(n+1)≤o.length)
 (cD:o.length=U.length) (dO:Wd o) (eT:∀ i,(i<j∨j+k≤i)→nth 0 o i=nth 0 U i) (jT:cc≤1) (ht:t=cc+(nth 0 o (j+k)+nth 0 lv k)) (lZ:t≤8589934591) (hv:val o+WB ^ (j+k)*cc=val U+WB ^ j*val (lv.take k)) :
 ∃ (k' qD:Nat) (o':List Nat),k'≤n+1∧Value.int .i64 ((k:Int)+1)=.int .i64 (k':Int)∧aA w w' (A++[.aB bu (.cells (wv o').toArray T (0,0)),.aB bc (.cells #[.int .u64 (qD:Int)] U' (0,0))])∧o'.length=U.length∧Wd o'∧(∀ i,(i<j∨j+k'≤i)→nth 0 o' i=nth 0 U i)∧qD≤1∧val o'+WB ^ (j+k')*qD=val U+WB ^ j*val (lv.take k'):=by
 refine⟨k+1,t / 4294967296,_,by omega,rfl,hS,by simp [cD],dO.set _ (by rw [dc];omega),fun i hi=>?_,by omega,?_⟩
 ·rw [ov,if_neg (by omega)];exact eT i (by omega)
 ·have:=aN3 (o:=o) (U:=U) (v:=lv) (j:=j) (i:=k) (c:=cc) (t:=t) (by omega) (eT _ (by omega)) (by rw [ht,eT (j+k) (by omega)]) hv
  rw [dc] at this ⊢;exact this
theorem aUv (ad bd:Option Addr) (n c m d:Nat) (la lb:List Nat) (w:World) (S:Nat→Prop) (ha:dA w S (.slice ad n c) la) (hb:dA w S (.slice bd m d) lb) (na:Nm la) (nb:Nm lb) (hle:la.length≤2000) (gB:val lb≤val la) (h2w:2≤lb.length) :
 Calls prog 79 #[.slice ad n c,.slice bd m d] w (aAs w S la lb):=by
 have h1:=ha.len;have h2:=hb.len;subst h1 h2;have fQ:lb.length≤la.length:=aDG nb (Nat.lt_of_le_of_lt gB (wW ha.wd));obtain⟨x,hx⟩:∃ x,nth 0 lb (lb.length - 1)=x:=⟨_,rfl⟩
 have iz:x≠0:=by
  rw [← hx]
  rcases nb with h|⟨q,y,hq,hy⟩
  ·rw [h] at h2w;simp at h2w
  ·rw [hq];simp [uE,hy]
 have wX:x<4294967296:=by rw [← hx,← dc];exact hb.wd.nth _
 obtain⟨s,hs,aET,uo,aKg⟩:=aMT iz wX;have yH:val lb*2 ^ s<WB ^ lb.length:=aWd hb.wd (by omega) (by rw [hx,dc];exact aKg);clear aKg;replace yH:=Hd yH
 have uN:decide (cR (val la:Nat) (val lb:Nat)<0)=false:=by
  have:¬ cR (val la:Nat) (val lb:Nat)<0:=by rw [yl,if_neg (by omega)];split <;> omega
  simp [this]
 replace gB:=Hd gB;replace uo:=Hd uo
 go_enter func79,ntmps79
 go_wp2
 go_step3
 go_wp2_with (first|(go_at_call 86;refine (xJ _ _ _ _ _ _ la lb _ S ha hb na nb).mono ?_;rintro e wb ⟨rfl,hp⟩;have ha:=ha.grow hp;have hb:=hb.grow hp;have hS:=aA.start wb;have pz:=hb.bj;have pR:=ha.bj)|((with_reducible refine du (T:=49) ?_);refine ck rfl (mE (T:=49) underlying49 sizeOf188 rfl rfl pz (by omega) (by omega) (fun _ _ _=>?_));simp only [aD])|(with_reducible refine fP hS isAgg188 ?_)|(go_at_call 131;go_loud (refine (bits_LeadingZeros32 _ _ (by omega) (by omega)).mono ?_;rintro e w1 ⟨rfl,hw⟩;obtain rfl:=hw.symm;clear hw;rw [Int.toNat_natCast,hs])))
 refine gI [.p 0,.p 1,.p 3,.p 4,.p 6,.p 7,.e 2,.e 5,.p 8,.p 9,.p 10] [] (fun wZ=>aA wb wZ _) (by kernel_rfl) (by kernel_rfl) hS.drew (fun w1 hS=>?_);refine aM ?_;refine aZ ?_
 go_wp2_with (fail)
 refine (aMp _ _ _ la s _ _ (pR.later hS (by simp)) aET hle).mono ?_;rintro e w' ⟨bu,lu,rfl,hSu,xh,huw,kZ⟩;simp only [];go_step;replace xh:=Hd xh;replace kZ:=Hd kZ;have hS:=hS.import hSu;clear hSu;refine aX hS.sb ?_;refine aM ?_;refine aZ ?_
 go_wp2_with (fail)
 refine (aMp _ _ _ lb s _ _ (pz.later hS (by simp)) aET (by omega)).mono ?_;rintro e w' ⟨bv,lv,rfl,hSv,lP,vX,nC⟩;simp only [];go_step;replace lP:=Hd lP;replace nC:=Hd nC;have hS:=hS.import hSv;clear hSv;refine aX hS.sb ?_
 repeat (first|((with_reducible refine kM ?_);refine j3 rfl rfl (aPi (T:=49) (k:=lb.length) (ad:=none) underlying49 sizeOf188 rfl rfl (by omega) (by omega) ?_);simp only [aD])|(with_reducible refine bU ?_))
 refine bE ?_;simp only [aK] at hS
 go_wp2_with (first|((with_reducible refine r7 (T:=49) ?_);refine zj (n:=la.length - lb.length+1) (T:=49) (E:=188) hS underlying49 info188 rfl rfl (by omega) (by omega) (fun bq wbq hS=>?_);simp only [aD];simp only [aK] at hS))
 have hS:=hS.order [0,2,3,1] rfl;simp only [iw] at hS;have aAW:lv.length≤lb.length+1:=by have:=lP.out;omega
 have aVG:lb.length+1≤lv.length:=by have:=lP.out;omega
 have aEH:lu.length≤la.length+1:=by have:=xh.out;omega
 have aBD:la.length+1≤lu.length:=by have:=xh.out;omega
 obtain⟨top,vu⟩:∃ top,nth 0 lv (lb.length - 1)=top:=⟨_,rfl⟩;obtain⟨iG,vp⟩:∃ iG,nth 0 lv (lb.length - 2)=iG:=⟨_,rfl⟩;have htw:top<4294967296:=by rw [← vu,← dc];exact vX.nth _
 have rn:iG<4294967296:=by rw [← vp,← dc];exact vX.nth _
 have nT:IntKind.i64.wrap ((lb.length:Int) - 1)=(lb.length:Int) - 1:=w6;have mM:IntKind.i64.wrap ((lb.length:Int) - 2)=(lb.length:Int) - 2:=w6;refine gI [.p 0,.p 1,.p 2,.p 3,.r 4,.p 5,.p 6,.p 7,.p 8,.p 9,.r 10,.p 11,.p 12,.p 13] [] (fun wZ=>aA wb wZ _) (by kernel_rfl) (by kernel_rfl) hS.drew (fun w1 hS=>?_);have hwt:IntKind.u64.wrap (top:Int)=(top:Int):=a0T (by omega);have jA:IntKind.u64.wrap (iG:Int)=(iG:Int):=a0T (by omega);have fv:((lb.length:Int) - 1).toNat=lb.length - 1:=by omega
 have fM:((lb.length:Int) - 2).toNat=lb.length - 2:=by omega
 repeat (first|((with_reducible refine kM ?_);refine j3 rfl rfl (gC (T:=49) underlying49 sizeOf188 rfl rfl (by omega) (by omega) ?_);simp only [aD];simp only [Nat.zero_add,Int.toNat_natCast])|((with_reducible refine l8 ?_);refine jh rfl rfl (kD (T:=188) 1 isAgg188 rfl rfl (by first|omega) ?_);simp only [aD])|(with_reducible refine bU ?_))
 refine bE ?_;go_wp2
 go_step3
 go_wp2
 have nA:val (lv.take lb.length)=val lv:=a8J fun i hi=>by
  have h:=a5q (U:=lv) (j:=0) (m:=lb.length) (by rw [List.drop_zero,nC.out];exact yH.out);exact h i (by omega)
 have lZ:2147483648≤top:=by
  have:=aTC (lb:=lb) (lv:=lv.take lb.length) (n:=lb.length) (s:=s) (by omega) rfl hb.wd (vX.take _) (by rw [List.length_take];omega) (by rw [nA,nC.out]) (by rw [hx];exact uo.out)
  rwa [xI 0 lv (by omega),vu] at this
 have hI0:zO la lb lv s (la.length - lb.length+1) lu (List.replicate (la.length - lb.length+1) 0):=by
  refine⟨by omega,xh.out,huw,by simp,Wd.a1t _,fun i _=>yF _ _ _,by rw [yf,kZ.out];simp,?_⟩;rw [nC.out]
  exact aQD (by omega) rfl fQ ha.wd nb huw xh.out kZ.out (by
   have h0:=a6y nb (by intro e;rw [e] at h2w;simp at h2w);have:=WBp (lb.length - 1);omega)
 replace nA:=Hd nA;replace hI0:=Hd hI0;clear aEH aBD
 go_loopw [15] (fun v wr=>∃ (J:Nat) (U out:List Nat),v=.int .i64 ((J:Int) - 1)∧aA wb wr [.aH (Old wb) wb,.aB bv (.cells (wv lv).toArray 188 (0,0)),.aB bq (.cells (wv out).toArray 188 (0,0)),.aB bu (.cells (wv U).toArray 188 (0,0))]∧zO la lb lv s J U out) (fun v _=>(intOf v+1).toNat)
 case atStart=>exact⟨la.length - lb.length+1,lu,_,by congr 1;omega,hS,hI0.out⟩
 case round =>
  clear hS;obtain⟨J,U,out,rfl,hS,hI⟩:=hrel
  by_cases hJ0:J=0
  ·subst hJ0
   rw [show (((0:Nat):Int) - 1) = -1 from rfl];obtain⟨az,aR⟩:=aT1 (A:=val la) (b:=val lb) (q:=val out) (R:=val U) (s:=s) (by rw [← nC.out];exact hI.v) (by have:=hI.lt;rw [List.drop_zero,nC.out] at this;exact this);have hz:=a5q (U:=U) (j:=0) (m:=lb.length) (by have:=hI.lt;rw [List.drop_zero] at this ⊢;rw [nC.out] at this;exact Nat.lt_trans this yH.out);have hUn:nth 0 U lb.length=0:=hz _ (by omega);have hUt:val (U.take (lb.length+1))=val U:=a8J fun i hi=>hz i (by omega)
   have tX:=hI.ul;have hOl:=hI.ol;have hOw:=hI.ow;have hUw:=hI.uw;have aEH:U.length≤la.length+1:=by omega
   have aBD:la.length+1≤U.length:=by omega
   have cA:=aVD (u:=U) (k:=s) (by omega) (List.replicate lb.length 0) (yf _);replace az:=Hd az;replace aR:=Hd aR;replace hz:=Hd hz;replace hUn:=Hd hUn;replace hUt:=Hd hUt;replace tX:=Hd tX;replace hOl:=Hd hOl;replace cA:=Hd cA;replace hI:=Hd hI
   try clear uN
   try clear hs
   try clear hx
   try clear iz
   try clear wX
   try clear vu
   try clear vp
   try clear htw
   try clear rn
   try clear nT
   try clear mM
   try clear hwt
   try clear jA
   try clear fv
   try clear fM
   try clear lZ
   try clear rW
   try clear nY
   try clear tY
   try clear a6v
   try clear yp
   try clear zB
   try clear hw3
   try clear hw4
   try clear hw5
   try clear he3
   try clear he4
   try clear a7I
   try clear a9p
   try clear a9x
   try clear a5k
   try clear a69
   try clear htz
   try clear a30
   try clear a6U
   try clear hw6
   try clear hw7
   try clear a0I
   try clear ud
   try clear bD
   try clear qX
   try clear bB
   try clear bR
   try clear hdz
   try clear jK
   try clear a6e
   try clear hr
   try clear hd
   try clear hw9
   try clear he5
   try clear hrt
   try clear hdz2
   try clear uR
   try clear hbr
   as_aux_lemma =>
    go_wp2_with (first|((with_reducible refine r7 (T:=49) ?_);refine zj (n:=lb.length) (T:=49) (E:=188) hS underlying49 info188 rfl rfl (by omega) (by omega) (fun bo wo hS=>?_);simp only [aD];simp only [aK] at hS))
    go_loopw [202] (fun v wr=>∃ (k:Nat) (o:List Nat),k≤lb.length∧v=.int .i64 (k:Int)∧aA wb wr [.aH (Old wb) wb,.aB bv (.cells (wv lv).toArray 188 (0,0)),.aB bq (.cells (wv out).toArray 188 (0,0)),.aB bu (.cells (wv U).toArray 188 (0,0)),.aB bo (.cells (wv o).toArray 188 (0,0))]∧o.length=lb.length∧Wd o∧(∀ i,k≤i→nth 0 o i=0)∧val o+WB ^ k*(nth 0 U k / 2 ^ s)=val (U.take (k+1)) / 2 ^ s) (fun v _=>lb.length - (intOf v).toNat)
    case atStart=>exact⟨0,List.replicate lb.length 0,by omega,rfl,hS,by simp,Wd.a1t _,fun i _=>yF _ _ _,cA.out⟩
    case round =>
     clear hS;obtain⟨k,o,hk,rfl,hS,cD,dO,dt,jx⟩:=hrel;have qe:o.length≤lb.length:=by omega
     have gv:lb.length≤o.length:=by omega
     have kE:=hUw.nth k;have fm:=hUw.nth (k+1);rw [dc] at kE fm;replace dt:=Hd dt;replace jx:=Hd jx;replace cD:=Hd cD
     by_cases hkn:k<lb.length
     ·have a2a:=a4q (x:=nth 0 U k) (y:=nth 0 U (k+1)) kE fm
      obtain⟨t,ht⟩:∃ t,t=nth 0 U (k+1)*4294967296+nth 0 U k:=⟨_,rfl⟩;rw [← ht] at a2a;have lZ:t<18446744073709551616:=by omega
      obtain⟨q,hq⟩:∃ q,q=t / 2 ^ s:=⟨_,rfl⟩;have iZ:(t:Int) / 2 ^ s=(q:Int):=by rw [hq];simp
      have hw0:IntKind.u64.wrap ((nth 0 U k:Nat):Int)=((nth 0 U k:Nat):Int):=a0T (by omega);have nT:IntKind.u64.wrap ((nth 0 U (k+1):Nat):Int)=((nth 0 U (k+1):Nat):Int):=a0T (by omega);have hwx:IntKind.u64.wrap (((nth 0 U (k+1):Nat):Int)*4294967296)=((nth 0 U (k+1):Nat):Int)*4294967296:=by rw [IntKind.wrap_u64];omega
      have hwk:IntKind.i64.wrap ((k:Int)+1)=(k:Int)+1:=w6;have hek:((k:Int)+1).toNat=k+1:=by omega
      replace ht:=Hd ht;replace hq:=Hd hq;go_wp2;refine gI [.p 0,.p 1,.p 2,.p 3,.p 4,.p 5,.r 6,.p 7,.p 8,.p 9,.p 10,.p 11,.r 12,.p 13,.p 14,.p 15,.p 16,.p 17,.p 18,.m 19] [19] (fun wZ=>aA wb wZ _) (by kernel_rfl) (by kernel_rfl) hS.drew (fun w1 hS=>?_)
      repeat (first|((with_reducible refine kM ?_);refine j3 rfl rfl (gC (T:=49) underlying49 sizeOf188 rfl rfl (by omega) (by omega) ?_);simp only [aD];simp only [Nat.zero_add,Int.toNat_natCast])|((with_reducible refine l8 ?_);refine jh rfl rfl (kD (T:=188) 3 isAgg188 rfl rfl (by first|omega) ?_);simp only [aD])|(with_reducible refine bU ?_))
      refine dC ?_
      ((with_reducible refine gK (T:=188) ?_);refine jQ (T:=188) (v:=q % 4294967296) 4 hS rfl rfl (by first|rfl) rfl (by first|omega) sizeOf188 (fun _ hS=>?_);simp only [aD];simp only [aK] at hS)
      refine dD ?_;refine aM ?_;refine bE ?_;go_wp2;go_roundw
      case rel =>
       refine⟨k+1,_,by omega,rfl,hS,by simp [cD.out],dO.set _ (by rw [dc];omega),fun i hi=>?_,?_⟩
       ·rw [ov,if_neg (by omega)];exact dt.out i (by omega)
       ·have h:=aSl (k:=s) aET hUw (i:=k) (o:=o) (by omega) (dt.out k (by omega)) jx.out
        rw [dc,← ht.out,← hq.out] at h;rw [dc];exact h
      case measure=>simp [intOf];omega
     ·obtain rfl:k=lb.length:=by omega
      have qe:=dA.aB 2 hS (l:=out) rfl hOw (by rw [hOl.out];unfold maxLen;omega);have gv:=dA.aB 4 hS (l:=o) rfl dO (by rw [cD.out];unfold maxLen;omega);rw [hOl.out] at qe;rw [cD.out] at gv
      go_wp2_with (fail)
      refine (a34 _ _ _ out _ _ qe).mono ?_;rintro e w3 ⟨rfl,rfl⟩;simp only []
      go_wp2_with (fail)
      refine (a34 _ _ _ o _ _ gv).mono ?_;rintro e w3 ⟨rfl,rfl⟩;simp only [];go_wp2;refine bodyPost_ret (results_tmp2 rfl _ _ _) rfl ?_;obtain⟨p1,m1,m2⟩:=aA.aWn S 1 3 hS rfl rfl hOw dO (by rw [hOl.out];unfold maxLen;omega) (by rw [cD.out];unfold maxLen;omega)
      have e1:val o=val U / 2 ^ s:=by
       have h:=jx.out;rw [hUn.out,hUt.out,Nat.zero_div,Nat.mul_zero,Nat.add_zero] at h;exact h
      rw [hOl.out] at m1;rw [cD.out] at m2;refine⟨_,some ⟨bq,0,none⟩,some ⟨bo,0,none⟩,_,_,mF out,mF o,rfl,hp.trans p1,m1.trim,m2.trim,a2b _,a2b _,?_,?_,?_⟩
      ·have:=aJr out;rw [hOl.out] at this;omega
      ·rw [zZ,zZ,e1];exact az.out.symm
      ·rw [zZ,e1];exact aR.out
  ·obtain⟨j,rfl⟩:∃ j,J=j+1:=⟨J - 1,by omega⟩
   have hj:=hI.jle;have aEH:U.length≤la.length+1:=by have:=hI.ul;omega
   have aBD:la.length+1≤U.length:=by have:=hI.ul;omega
   have tL:out.length≤la.length - lb.length+1:=by have:=hI.ol;omega
   have qf:la.length - lb.length+1≤out.length:=by have:=hI.ol;omega
   obtain⟨un,rW⟩:∃ un,nth 0 U (j+lb.length)=un:=⟨_,rfl⟩;obtain⟨u1,nY⟩:∃ un,nth 0 U (j+lb.length - 1)=un:=⟨_,rfl⟩;obtain⟨u2,tY⟩:∃ un,nth 0 U (j+lb.length - 2)=un:=⟨_,rfl⟩;have a6v:un<4294967296:=by rw [← rW,← dc];exact hI.uw.nth _
   have yp:u1<4294967296:=by rw [← nY,← dc];exact hI.uw.nth _
   have zB:u2<4294967296:=by rw [← tY,← dc];exact hI.uw.nth _
   have a2a:=a4q (x:=u1) (y:=un) yp a6v;obtain⟨num,uT⟩:∃ num,num=un*4294967296+u1:=⟨_,rfl⟩;rw [← uT] at a2a;replace uT:=Hd uT;have hw3:IntKind.i64.wrap ((j:Int)+(lb.length:Int))=(j:Int)+(lb.length:Int):=w6;have hw4:IntKind.i64.wrap ((j:Int)+(lb.length:Int) - 1)=(j:Int)+(lb.length:Int) - 1:=w6;have hw5:IntKind.u64.wrap ((un:Int)*4294967296)=(un:Int)*4294967296:=by rw [IntKind.wrap_u64];omega
   replace hI:=Hd hI;go_wp2;refine gI [.p 0,.p 1,.p 2,.p 3,.p 4,.r 5,.p 6,.p 7,.p 8,.p 9,.p 10,.p 11,.p 12,.p 13,.r 14,.p 15,.p 16,.p 17] [] (fun wZ=>aA wb wZ _) (by kernel_rfl) (by kernel_rfl) hS.drew (fun w1 hS=>?_);have he3:((j:Int)+(lb.length:Int)).toNat=j+lb.length:=by omega
   have he4:((j:Int)+(lb.length:Int) - 1).toNat=j+lb.length - 1:=by omega
   have a7I:IntKind.u64.wrap (un:Int)=(un:Int):=a0T (by omega);have a9p:IntKind.u64.wrap (u1:Int)=(u1:Int):=a0T (by omega)
   repeat (first|((with_reducible refine kM ?_);refine j3 rfl rfl (gC (T:=49) underlying49 sizeOf188 rfl rfl (by omega) (by omega) ?_);simp only [aD];simp only [Nat.zero_add,Int.toNat_natCast])|((with_reducible refine l8 ?_);refine jh rfl rfl (kD (T:=188) 3 isAgg188 rfl rfl (by first|omega) ?_);simp only [aD])|(with_reducible refine bU ?_))
   refine bE ?_;go_wp2;obtain⟨d0,qv⟩:∃ d0,d0=num / top:=⟨_,rfl⟩;obtain⟨r0,pK⟩:∃ r0,r0=num % top:=⟨_,rfl⟩;have a9x:num<18446744073709551616:=by have:=uT.out;omega
   have htd:=aI1 num top;have htm:=aKe num top;rw [← qv] at htd;rw [← pK] at htm
   have a5k:d0≤8589934592:=by
    rw [qv];have:num / top≤num / 2147483648:=Nat.div_le_div_left lZ (by omega);omega
   have a69:r0<top:=by rw [pK];exact Nat.mod_lt _ (by omega)
   have aBL:d0*top+r0=num:=by rw [qv,pK,Nat.mul_comm];exact Nat.div_add_mod num top
   replace aBL:=Hd aBL;replace qv:=Hd qv;replace pK:=Hd pK;have htz:¬ (top:Int)=0:=by omega
   have a30:¬ top=0:=by omega
   have a6U:((top:Int) == 0)=false:=by simpa using a30
   have hw6:IntKind.u64.wrap (d0:Int)=(d0:Int):=by rw [IntKind.wrap_u64];omega
   have hw7:IntKind.u64.wrap (r0:Int)=(r0:Int):=by rw [IntKind.wrap_u64];omega
   refine gI [.p 0,.p 1,.p 2,.p 3,.p 4,.p 5,.p 6,.p 7] [] (fun wZ=>aA wb wZ _) (by kernel_rfl) (by kernel_rfl) hS.drew (fun w1 hS=>?_);refine aM ?_;refine bE ?_;go_wp2;obtain⟨X,hX⟩:∃ X,val (U.drop j)=X:=⟨_,rfl⟩;obtain⟨pS,aBf,kI,a9F,a4F⟩:=aUo (U:=U) (lv:=lv.take lb.length) (j:=j) (n:=lb.length) (V:=val lv) (num:=num) hI.out.uw (vX.take _) (by omega) (by rw [List.length_take];omega) nA.out.symm hI.out.lt rW nY tY (by rw [xI 0 lv (by omega),vu]) (by rw [xI 0 lv (by omega),vp]) (by omega) (by rw [dc,uT.out]) hX;rw [← qv.out] at aBf;rw [dc] at pS kI a9F a4F;clear uT qv pK htd htm a2a;replace kI:=Hd kI;replace a9F:=Hd a9F;replace a4F:=Hd a4F;replace aBf:=Hd aBf;replace pS:=Hd pS;replace hX:=Hd hX
   go_loopw [17,18] (fun dv rv wr=>∃ (d r:Nat),dv=.int .u64 (d:Int)∧rv=.int .u64 (r:Int)∧aA wb wr [.aH (Old wb) wb,.aB bv (.cells (wv lv).toArray 188 (0,0)),.aB bq (.cells (wv out).toArray 188 (0,0)),.aB bu (.cells (wv U).toArray 188 (0,0))]∧d*top+r=num∧X<val lv*(d+1)∧r<4294967296∧d≤8589934592) (fun v _ _=>(intOf v).toNat)
   case atStart=>exact⟨d0,r0,rfl,rfl,hS,aBL.out,aBf.out,by omega,a5k⟩
   case round =>
    clear hS;obtain⟨d,r,rfl,rfl,hS,jD,hXd,hr,hd⟩:=hrel;replace jD:=Hd jD;replace hXd:=Hd hXd;have hw9:IntKind.i64.wrap ((j:Int)+(lb.length:Int) - 2)=(j:Int)+(lb.length:Int) - 2:=w6;have he5:((j:Int)+(lb.length:Int) - 2).toNat=j+lb.length - 2:=by omega
    by_cases a6e:4294967296≤d
    ·obtain⟨e,rfl⟩:∃ e,d=e+1:=⟨d - 1,by omega⟩
     have pY:=Hd (show X<val lv*(e+1) from Nat.lt_of_lt_of_le pS.out (Nat.mul_le_mul_left _ a6e));have uh:=Hd (show e*top+(r+top)=num by have h1:=jD.out;rw [Nat.add_mul] at h1;omega);have hdz:0<((e:Int)+1) / 4294967296:=by omega
     by_cases hbr:4294967296≤r+top
     ·obtain⟨g1,g2⟩:=a4F.out e (r+top) uh.out hbr
      have hdV:=Hd (kI.out e (r+top) uh.out g1 g2);clear g2;have uR:0<((r:Int)+(top:Int)) / 4294967296:=by omega
      as_aux_lemma =>
       have a5F:e<4294967296:=g1
       go_wp2_with (first|((with_reducible refine du (T:=49) ?_);refine ck rfl (gC (T:=49) underlying49 sizeOf188 rfl rfl (by omega) (by omega) ?_);simp only [aD];simp only [Nat.zero_add,Int.toNat_natCast])|((with_reducible refine gK (T:=188) ?_);refine jQ (T:=188) (v:=e) 2 hS rfl rfl (by omega) rfl (by first|omega) sizeOf188 (fun _ hS=>?_);simp only [aD];simp only [aK] at hS)|((with_reducible refine tD (T:=49) ?_);refine ck rfl (a3z (T:=49) (j:=j) (k:=j+(lb.length+1)) (ad:=none) underlying49 sizeOf188 rfl rfl rfl (by omega) (by omega) (by omega) (by omega) ?_);simp only [aD];simp only [Nat.add_sub_cancel_left,Nat.zero_add]))
       have oS:=dA.aB 1 hS (l:=lv) rfl vX (by simp [maxLen];omega);rw [lP.out] at oS;replace oS:=oS.cut (k:=lb.length) (by omega);have zc:=oS.weaken (fun k hk=>hS.rest (A:=[.aH (Old wb) wb,.aB bv (.cells (wv lv).toArray 188 (0,0)),.aB bq (.cells (wv (out.set j (e))).toArray 188 (0,0))]) (c:=.aB bv (.cells (wv lv).toArray 188 (0,0))) (by simp) hk);have dw:=aA.split (A:=[.aH (Old wb) wb,.aB bv (.cells (wv lv).toArray 188 (0,0)),.aB bq (.cells (wv (out.set j (e))).toArray 188 (0,0))]) hS;refine (aDH bu j (lb.length+1) _ _ _ _ (e) U (lv.take lb.length) _ _ _ dw zc (by rw [List.length_take];omega) (by omega) hI.out.uw (by omega) a5F).mono ?_;rintro e w2 ⟨o,bw,rfl,uu,cD,dO,eT,kj,dS⟩
       try clear uN
       try clear hs
       try clear hx
       try clear iz
       try clear wX
       try clear vu
       try clear vp
       try clear htw
       try clear rn
       try clear nT
       try clear mM
       try clear hwt
       try clear jA
       try clear fv
       try clear fM
       try clear lZ
       try clear rW
       try clear nY
       try clear tY
       try clear a6v
       try clear yp
       try clear zB
       try clear hw3
       try clear hw4
       try clear hw5
       try clear he3
       try clear he4
       try clear a7I
       try clear a9p
       try clear a9x
       try clear a5k
       try clear a69
       try clear htz
       try clear a30
       try clear a6U
       try clear hw6
       try clear hw7
       try clear a0I
       try clear ud
       try clear bD
       try clear qX
       try clear bB
       try clear bR
       try clear hdz
       try clear jK
       try clear a6e
       try clear hr
       try clear hd
       try clear hw9
       try clear he5
       try clear hrt
       try clear hdz2
       try clear uR
       try clear hbr
       have cK:=hS.su (A:=[.aH (Old wb) wb,.aB bv (.cells (wv lv).toArray 188 (0,0)),.aB bq (.cells (wv (out.set j (e))).toArray 188 (0,0))]) (B':=[.aB bu (.cells (wv o).toArray 188 (0,0))]) uu;clear hS uu dw oS zc;have hS:=cK;clear cK;simp only [aK] at hS;rw [nA.out] at dS;have aMg:o.length≤la.length+1:=by omega
       have aHk:la.length+1≤o.length:=by omega
       replace cD:=Hd cD;replace eT:=Hd eT
       by_cases fk:bw=0
       ·subst fk
        replace dS:=Hd dS;go_wp2;go_roundw
        case rel=>exact⟨j,o,_,rfl,hS,hI.out.right cD.out dO eT.out dS.out (by omega) (by rw [hX.out];exact pY.out)⟩
        case measure=>simp [intOf]
       ·obtain rfl:bw=1:=by omega
        have gO:val lv<WB ^ lb.length:=by rw [nC.out];exact yH.out
        have qV:val (U.drop j)<WB ^ (lb.length+1):=by
         rw [hX.out,rR];have h1:=pS.out;rw [← dc] at h1;have h2:val lv*WB≤WB ^ lb.length*WB:=Nat.mul_le_mul_right _ (by omega);omega
        have eo:1≤e:=div_pos (n:=lb.length) cD.out eT.out dO qV (by simpa using dS);have iF:nth 0 (out.set j (e)) j=e:=by rw [ov,if_pos ⟨rfl,by omega⟩]
        replace dS:=Hd dS;replace gO:=Hd gO;replace qV:=Hd qV
        go_wp2_with (first|((with_reducible refine du (T:=49) ?_);refine ck rfl (gC (T:=49) underlying49 sizeOf188 rfl rfl (by omega) (by omega) ?_);simp only [aD];simp only [Nat.zero_add,Int.toNat_natCast])|((with_reducible refine dq (T:=188) ?_);refine dI hS rfl (kD (T:=188) 2 isAgg188 rfl rfl (by first|(simp only [List.length_set];omega)) ?_);simp only [aD])|((with_reducible refine gK (T:=188) ?_);refine jQ (T:=188) (v:=e - 1) 2 hS rfl rfl (by omega) rfl (by first|(simp only [List.length_set];omega)) sizeOf188 (fun _ hS=>?_);simp only [aD];simp only [aK] at hS)|(with_reducible refine bH hS zeroValue190 fun bc wbc hS=>?_)|((with_reducible refine tD (T:=49) ?_);refine ck rfl (a3z (T:=49) (j:=j) (k:=j+(lb.length+1)) (ad:=none) underlying49 sizeOf188 rfl rfl rfl (by omega) (by omega) (by omega) (by omega) ?_);simp only [aD];simp only [Nat.add_sub_cancel_left,Nat.zero_add])|go_in)
        rw [List.set_set] at hS;clear iF
        go_loopw [170] (fun v wr=>∃ (k cc:Nat) (o2:List Nat),k≤lb.length+1∧v=.int .i64 (k:Int)∧aA wb wr ([.aH (Old wb) wb,.aB bv (.cells (wv lv).toArray 188 (0,0)),.aB bq (.cells (wv (out.set j (e - 1))).toArray 188 (0,0))]++[.aB bu (.cells (wv o2).toArray 188 (0,0)),.aB bc (.cells #[.int .u64 (cc:Int)] 190 (0,0))])∧o2.length=o.length∧Wd o2∧(∀ i,(i<j∨j+k≤i)→nth 0 o2 i=nth 0 o i)∧cc≤1∧val o2+WB ^ (j+k)*cc=val o+WB ^ j*val ((lv.take lb.length).take k)) (fun v _=>lb.length+1 - (intOf v).toNat)
        case atStart=>exact⟨0,0,o,by omega,rfl,hS,rfl,dO,fun _ _=>rfl,by omega,by simp [val]⟩
        case round =>
         clear hS;obtain⟨k,cc,o2,hk,rfl,hS,lk,nP,jy,jT,gW⟩:=hrel;simp only [aK] at hS;have bB:o2.length≤la.length+1:=by omega
         have bR:la.length+1≤o2.length:=by omega
         have bG:=nP.nth (j+k);have iQ:=vX.nth k;rw [dc] at bG iQ;replace lk:=Hd lk;replace jy:=Hd jy;replace gW:=Hd gW;have zW:((j:Int)+(k:Int)).toNat=j+k:=by omega
         by_cases fm:k<lb.length
         ·have a4s:=Hd (xI 0 lv fm)
          go_wp2_with (first|((with_reducible refine du (T:=49) ?_);refine ck rfl (gC (T:=49) underlying49 sizeOf188 rfl rfl (by omega) (by omega) ?_);simp only [aD];simp only [Nat.zero_add,Int.toNat_natCast])|((with_reducible refine dq (T:=188) ?_);refine dI hS rfl (kD (T:=188) 1 isAgg188 rfl rfl (by first|omega) ?_);simp only [aD])|((with_reducible refine dq (T:=188) ?_);refine dI hS rfl (kD (T:=188) 3 isAgg188 rfl rfl (by first|omega) ?_);simp only [aD])|(with_reducible first|refine aU 4 hS isAgg190 ?_|refine aJ 4 hS sizeOf190 fun _ hS=>?_)|((with_reducible refine gK (T:=188) ?_);refine jQ (T:=188) (v:=(cc+(nth 0 o2 (j+k)+nth 0 lv k)) % 4294967296) 3 hS rfl rfl (by omega) rfl (by first|omega) sizeOf188 (fun _ hS=>?_);simp only [aD];simp only [aK] at hS)|go_in)
          have e:((cc:Int)+((nth 0 o2 (j+k):Nat)+(nth 0 lv k:Nat))) / 4294967296=(((cc+(nth 0 o2 (j+k)+nth 0 lv k)) / 4294967296:Nat):Int):=by omega
          simp only [zW] at hS;rw [e] at hS;go_roundw
          case rel=>exact a3K (A:=[_,_,_]) hS (by omega) (by omega) lk.out nP jy.out jT (by rw [a4s.out]) (by omega) gW.out
          case measure=>simp [intOf];omega
         ·by_cases iE:k<lb.length+1
          ·have hz:=Hd (qP 0 (lv.take lb.length) k (by rw [List.length_take];omega))
           go_wp2_with (first|((with_reducible refine du (T:=49) ?_);refine ck rfl (gC (T:=49) underlying49 sizeOf188 rfl rfl (by omega) (by omega) ?_);simp only [aD];simp only [Nat.zero_add,Int.toNat_natCast])|((with_reducible refine dq (T:=188) ?_);refine dI hS rfl (kD (T:=188) 3 isAgg188 rfl rfl (by first|omega) ?_);simp only [aD])|(with_reducible first|refine aU 4 hS isAgg190 ?_|refine aJ 4 hS sizeOf190 fun _ hS=>?_)|((with_reducible refine gK (T:=188) ?_);refine jQ (T:=188) (v:=(cc+nth 0 o2 (j+k)) % 4294967296) 3 hS rfl rfl (by omega) rfl (by first|omega) sizeOf188 (fun _ hS=>?_);simp only [aD];simp only [aK] at hS)|go_in)
           have e:((cc:Int)+(nth 0 o2 (j+k):Nat)) / 4294967296=(((cc+nth 0 o2 (j+k)) / 4294967296:Nat):Int):=by omega
           simp only [zW] at hS;rw [e] at hS;go_roundw
           case rel=>exact a3K (A:=[_,_,_]) hS (by omega) (by omega) lk.out nP jy.out jT (by rw [hz.out];omega) (by omega) gW.out
           case measure=>simp [intOf];omega
          ·obtain rfl:k=lb.length+1:=by omega
           have qx:=gW.out;rw [tI (by rw [List.length_take];omega),nA.out] at qx;replace qx:=Hd qx;go_wp2;go_roundw
           case rel=>exact⟨j,o2,_,rfl,hS.sb,hI.out.back cD.out lk.out dO nP eT.out jy.out dS.out qx.out (by omega) (by rw [hX.out];exact pY.out) (by rw [hX.out];exact hdV.out) gO.out (by rw [hX.out];exact pS.out)⟩
           case measure=>simp [intOf]
     ·have uR:((r:Int)+(top:Int)) / 4294967296=0:=by omega
      go_wp2_with (first|((with_reducible refine du (T:=49) ?_);refine ck rfl (gC (T:=49) underlying49 sizeOf188 rfl rfl (by omega) (by omega) ?_);simp only [aD];simp only [Nat.zero_add,Int.toNat_natCast])|((with_reducible refine dq (T:=188) ?_);refine dI hS rfl (kD (T:=188) 3 isAgg188 rfl rfl (by first|omega|(simp only [List.length_set];omega)) ?_);simp only [aD]))
      go_roundw
      case rel=>exact⟨e,r+top,rfl,by rw [Int.natCast_add],hS,uh.out,pY.out,by omega,by omega⟩
      case measure=>simp [intOf]
    ·by_cases jK:r*4294967296+u2<d*iG
     ·have mX:=a9F.out d r jD.out jK
      have eo:1≤d:=by
       rcases Nat.eq_zero_or_pos d with h0|h0
       ·subst h0;simp at mX
       ·exact h0
      obtain⟨e,rfl⟩:∃ e,d=e+1:=⟨d - 1,by omega⟩;have pY:=Hd mX;clear mX;have uh:=Hd (show e*top+(r+top)=num by have h1:=jD.out;rw [Nat.add_mul] at h1;omega);have a0I:=a4q (x:=u2) (y:=r) zB hr;obtain⟨ru,ud⟩:∃ ru,ru=r*4294967296+u2:=⟨_,rfl⟩;obtain⟨p,bD⟩:∃ p,p=(e+1)*iG:=⟨_,rfl⟩;obtain⟨bB,bR⟩:=a9f (a:=e+1) (b:=iG) (by omega) rn;have qX:((e:Int)+1)*(iG:Int)=(p:Int):=by rw [bD,Int.natCast_mul];rfl
      have hpb:p<18446744073709551616:=by rw [← qX] at *;omega
      rw [← ud] at a0I jK;rw [← bD] at jK;clear bB bR;replace ud:=Hd ud;replace bD:=Hd bD;have hdz:((e:Int)+1) / 4294967296=0:=by omega
      have hrw:IntKind.u64.wrap (p:Int)=(p:Int):=a0T hpb
      by_cases hbr:4294967296≤r+top
      ·obtain⟨g1,g2⟩:=a4F.out e (r+top) uh.out hbr
       have hdV:=Hd (kI.out e (r+top) uh.out g1 g2);clear g2;have uR:0<((r:Int)+(top:Int)) / 4294967296:=by omega
       as_aux_lemma =>
        have a5F:e<4294967296:=g1
        go_wp2_with (first|((with_reducible refine du (T:=49) ?_);refine ck rfl (gC (T:=49) underlying49 sizeOf188 rfl rfl (by omega) (by omega) ?_);simp only [aD];simp only [Nat.zero_add,Int.toNat_natCast])|((with_reducible refine dq (T:=188) ?_);refine dI hS rfl (kD (T:=188) 3 isAgg188 rfl rfl (by first|omega) ?_);simp only [aD])|((with_reducible refine gK (T:=188) ?_);refine jQ (T:=188) (v:=e) 2 hS rfl rfl (by omega) rfl (by first|omega) sizeOf188 (fun _ hS=>?_);simp only [aD];simp only [aK] at hS)|((with_reducible refine tD (T:=49) ?_);refine ck rfl (a3z (T:=49) (j:=j) (k:=j+(lb.length+1)) (ad:=none) underlying49 sizeOf188 rfl rfl rfl (by omega) (by omega) (by omega) (by omega) ?_);simp only [aD];simp only [Nat.add_sub_cancel_left,Nat.zero_add]))
        have oS:=dA.aB 1 hS (l:=lv) rfl vX (by simp [maxLen];omega);rw [lP.out] at oS;replace oS:=oS.cut (k:=lb.length) (by omega);have zc:=oS.weaken (fun k hk=>hS.rest (A:=[.aH (Old wb) wb,.aB bv (.cells (wv lv).toArray 188 (0,0)),.aB bq (.cells (wv (out.set j (e))).toArray 188 (0,0))]) (c:=.aB bv (.cells (wv lv).toArray 188 (0,0))) (by simp) hk);have dw:=aA.split (A:=[.aH (Old wb) wb,.aB bv (.cells (wv lv).toArray 188 (0,0)),.aB bq (.cells (wv (out.set j (e))).toArray 188 (0,0))]) hS;refine (aDH bu j (lb.length+1) _ _ _ _ (e) U (lv.take lb.length) _ _ _ dw zc (by rw [List.length_take];omega) (by omega) hI.out.uw (by omega) a5F).mono ?_;rintro e w2 ⟨o,bw,rfl,uu,cD,dO,eT,kj,dS⟩
        try clear uN
        try clear hs
        try clear hx
        try clear iz
        try clear wX
        try clear vu
        try clear vp
        try clear htw
        try clear rn
        try clear nT
        try clear mM
        try clear hwt
        try clear jA
        try clear fv
        try clear fM
        try clear lZ
        try clear rW
        try clear nY
        try clear tY
        try clear a6v
        try clear yp
        try clear zB
        try clear hw3
        try clear hw4
        try clear hw5
        try clear he3
        try clear he4
        try clear a7I
        try clear a9p
        try clear a9x
        try clear a5k
        try clear a69
        try clear htz
        try clear a30
        try clear a6U
        try clear hw6
        try clear hw7
        try clear a0I
        try clear ud
        try clear bD
        try clear qX
        try clear bB
        try clear bR
        try clear hdz
        try clear jK
        try clear a6e
        try clear hr
        try clear hd
        try clear hw9
        try clear he5
        try clear hrt
        try clear hdz2
        try clear uR
        try clear hbr
        have cK:=hS.su (A:=[.aH (Old wb) wb,.aB bv (.cells (wv lv).toArray 188 (0,0)),.aB bq (.cells (wv (out.set j (e))).toArray 188 (0,0))]) (B':=[.aB bu (.cells (wv o).toArray 188 (0,0))]) uu;clear hS uu dw oS zc;have hS:=cK;clear cK;simp only [aK] at hS;rw [nA.out] at dS;have aMg:o.length≤la.length+1:=by omega
        have aHk:la.length+1≤o.length:=by omega
        replace cD:=Hd cD;replace eT:=Hd eT
        by_cases fk:bw=0
        ·subst fk
         replace dS:=Hd dS;go_wp2;go_roundw
         case rel=>exact⟨j,o,_,rfl,hS,hI.out.right cD.out dO eT.out dS.out (by omega) (by rw [hX.out];exact pY.out)⟩
         case measure=>simp [intOf]
        ·obtain rfl:bw=1:=by omega
         have gO:val lv<WB ^ lb.length:=by rw [nC.out];exact yH.out
         have qV:val (U.drop j)<WB ^ (lb.length+1):=by
          rw [hX.out,rR];have h1:=pS.out;rw [← dc] at h1;have h2:val lv*WB≤WB ^ lb.length*WB:=Nat.mul_le_mul_right _ (by omega);omega
         have eo:1≤e:=div_pos (n:=lb.length) cD.out eT.out dO qV (by simpa using dS);have iF:nth 0 (out.set j (e)) j=e:=by rw [ov,if_pos ⟨rfl,by omega⟩]
         replace dS:=Hd dS;replace gO:=Hd gO;replace qV:=Hd qV
         go_wp2_with (first|((with_reducible refine du (T:=49) ?_);refine ck rfl (gC (T:=49) underlying49 sizeOf188 rfl rfl (by omega) (by omega) ?_);simp only [aD];simp only [Nat.zero_add,Int.toNat_natCast])|((with_reducible refine dq (T:=188) ?_);refine dI hS rfl (kD (T:=188) 2 isAgg188 rfl rfl (by first|(simp only [List.length_set];omega)) ?_);simp only [aD])|((with_reducible refine gK (T:=188) ?_);refine jQ (T:=188) (v:=e - 1) 2 hS rfl rfl (by omega) rfl (by first|(simp only [List.length_set];omega)) sizeOf188 (fun _ hS=>?_);simp only [aD];simp only [aK] at hS)|(with_reducible refine bH hS zeroValue190 fun bc wbc hS=>?_)|((with_reducible refine tD (T:=49) ?_);refine ck rfl (a3z (T:=49) (j:=j) (k:=j+(lb.length+1)) (ad:=none) underlying49 sizeOf188 rfl rfl rfl (by omega) (by omega) (by omega) (by omega) ?_);simp only [aD];simp only [Nat.add_sub_cancel_left,Nat.zero_add])|go_in)
         rw [List.set_set] at hS;clear iF
         go_loopw [170] (fun v wr=>∃ (k cc:Nat) (o2:List Nat),k≤lb.length+1∧v=.int .i64 (k:Int)∧aA wb wr ([.aH (Old wb) wb,.aB bv (.cells (wv lv).toArray 188 (0,0)),.aB bq (.cells (wv (out.set j (e - 1))).toArray 188 (0,0))]++[.aB bu (.cells (wv o2).toArray 188 (0,0)),.aB bc (.cells #[.int .u64 (cc:Int)] 190 (0,0))])∧o2.length=o.length∧Wd o2∧(∀ i,(i<j∨j+k≤i)→nth 0 o2 i=nth 0 o i)∧cc≤1∧val o2+WB ^ (j+k)*cc=val o+WB ^ j*val ((lv.take lb.length).take k)) (fun v _=>lb.length+1 - (intOf v).toNat)
         case atStart=>exact⟨0,0,o,by omega,rfl,hS,rfl,dO,fun _ _=>rfl,by omega,by simp [val]⟩
         case round =>
          clear hS;obtain⟨k,cc,o2,hk,rfl,hS,lk,nP,jy,jT,gW⟩:=hrel;simp only [aK] at hS;have bB:o2.length≤la.length+1:=by omega
          have bR:la.length+1≤o2.length:=by omega
          have bG:=nP.nth (j+k);have iQ:=vX.nth k;rw [dc] at bG iQ;replace lk:=Hd lk;replace jy:=Hd jy;replace gW:=Hd gW;have zW:((j:Int)+(k:Int)).toNat=j+k:=by omega
          by_cases fm:k<lb.length
          ·have a4s:=Hd (xI 0 lv fm)
           go_wp2_with (first|((with_reducible refine du (T:=49) ?_);refine ck rfl (gC (T:=49) underlying49 sizeOf188 rfl rfl (by omega) (by omega) ?_);simp only [aD];simp only [Nat.zero_add,Int.toNat_natCast])|((with_reducible refine dq (T:=188) ?_);refine dI hS rfl (kD (T:=188) 1 isAgg188 rfl rfl (by first|omega) ?_);simp only [aD])|((with_reducible refine dq (T:=188) ?_);refine dI hS rfl (kD (T:=188) 3 isAgg188 rfl rfl (by first|omega) ?_);simp only [aD])|(with_reducible first|refine aU 4 hS isAgg190 ?_|refine aJ 4 hS sizeOf190 fun _ hS=>?_)|((with_reducible refine gK (T:=188) ?_);refine jQ (T:=188) (v:=(cc+(nth 0 o2 (j+k)+nth 0 lv k)) % 4294967296) 3 hS rfl rfl (by omega) rfl (by first|omega) sizeOf188 (fun _ hS=>?_);simp only [aD];simp only [aK] at hS)|go_in)
           have e:((cc:Int)+((nth 0 o2 (j+k):Nat)+(nth 0 lv k:Nat))) / 4294967296=(((cc+(nth 0 o2 (j+k)+nth 0 lv k)) / 4294967296:Nat):Int):=by omega
           simp only [zW] at hS;rw [e] at hS;go_roundw
           case rel=>exact a3K (A:=[_,_,_]) hS (by omega) (by omega) lk.out nP jy.out jT (by rw [a4s.out]) (by omega) gW.out
           case measure=>simp [intOf];omega
          ·by_cases iE:k<lb.length+1
           ·have hz:=Hd (qP 0 (lv.take lb.length) k (by rw [List.length_take];omega))
            go_wp2_with (first|((with_reducible refine du (T:=49) ?_);refine ck rfl (gC (T:=49) underlying49 sizeOf188 rfl rfl (by omega) (by omega) ?_);simp only [aD];simp only [Nat.zero_add,Int.toNat_natCast])|((with_reducible refine dq (T:=188) ?_);refine dI hS rfl (kD (T:=188) 3 isAgg188 rfl rfl (by first|omega) ?_);simp only [aD])|(with_reducible first|refine aU 4 hS isAgg190 ?_|refine aJ 4 hS sizeOf190 fun _ hS=>?_)|((with_reducible refine gK (T:=188) ?_);refine jQ (T:=188) (v:=(cc+nth 0 o2 (j+k)) % 4294967296) 3 hS rfl rfl (by omega) rfl (by first|omega) sizeOf188 (fun _ hS=>?_);simp only [aD];simp only [aK] at hS)|go_in)
            have e:((cc:Int)+(nth 0 o2 (j+k):Nat)) / 4294967296=(((cc+nth 0 o2 (j+k)) / 4294967296:Nat):Int):=by omega
            simp only [zW] at hS;rw [e] at hS;go_roundw
            case rel=>exact a3K (A:=[_,_,_]) hS (by omega) (by omega) lk.out nP jy.out jT (by rw [hz.out];omega) (by omega) gW.out
            case measure=>simp [intOf];omega
           ·obtain rfl:k=lb.length+1:=by omega
            have qx:=gW.out;rw [tI (by rw [List.length_take];omega),nA.out] at qx;replace qx:=Hd qx;go_wp2;go_roundw
            case rel=>exact⟨j,o2,_,rfl,hS.sb,hI.out.back cD.out lk.out dO nP eT.out jy.out dS.out qx.out (by omega) (by rw [hX.out];exact pY.out) (by rw [hX.out];exact hdV.out) gO.out (by rw [hX.out];exact pS.out)⟩
            case measure=>simp [intOf]
      ·have uR:((r:Int)+(top:Int)) / 4294967296=0:=by omega
       go_wp2_with (first|((with_reducible refine du (T:=49) ?_);refine ck rfl (gC (T:=49) underlying49 sizeOf188 rfl rfl (by omega) (by omega) ?_);simp only [aD];simp only [Nat.zero_add,Int.toNat_natCast])|((with_reducible refine dq (T:=188) ?_);refine dI hS rfl (kD (T:=188) 3 isAgg188 rfl rfl (by first|omega) ?_);simp only [aD]))
       go_roundw
       case rel=>exact⟨e,r+top,rfl,by rw [Int.natCast_add],hS,uh.out,pY.out,by omega,by omega⟩
       case measure=>simp [intOf]
     ·have hdV:=Hd (kI.out d r jD.out (by omega) (by omega))
      have a0I:=a4q (x:=u2) (y:=r) zB hr;obtain⟨ru,ud⟩:∃ ru,ru=r*4294967296+u2:=⟨_,rfl⟩;obtain⟨p,bD⟩:∃ p,p=d*iG:=⟨_,rfl⟩;obtain⟨bB,bR⟩:=a9f (a:=d) (b:=iG) (by omega) rn;have qX:(d:Int)*(iG:Int)=(p:Int):=by rw [bD];exact (Int.natCast_mul _ _).symm
      rw [← ud] at a0I jK;rw [← bD] at jK;replace ud:=Hd ud;replace bD:=Hd bD;have hdz:(d:Int) / 4294967296=0:=by omega
      as_aux_lemma =>
       have a5F:d<4294967296:=(by omega)
       go_wp2_with (first|((with_reducible refine du (T:=49) ?_);refine ck rfl (gC (T:=49) underlying49 sizeOf188 rfl rfl (by omega) (by omega) ?_);simp only [aD];simp only [Nat.zero_add,Int.toNat_natCast])|((with_reducible refine dq (T:=188) ?_);refine dI hS rfl (kD (T:=188) 3 isAgg188 rfl rfl (by first|omega) ?_);simp only [aD])|((with_reducible refine gK (T:=188) ?_);refine jQ (T:=188) (v:=d) 2 hS rfl rfl (by omega) rfl (by first|omega) sizeOf188 (fun _ hS=>?_);simp only [aD];simp only [aK] at hS)|((with_reducible refine tD (T:=49) ?_);refine ck rfl (a3z (T:=49) (j:=j) (k:=j+(lb.length+1)) (ad:=none) underlying49 sizeOf188 rfl rfl rfl (by omega) (by omega) (by omega) (by omega) ?_);simp only [aD];simp only [Nat.add_sub_cancel_left,Nat.zero_add]))
       have oS:=dA.aB 1 hS (l:=lv) rfl vX (by simp [maxLen];omega);rw [lP.out] at oS;replace oS:=oS.cut (k:=lb.length) (by omega);have zc:=oS.weaken (fun k hk=>hS.rest (A:=[.aH (Old wb) wb,.aB bv (.cells (wv lv).toArray 188 (0,0)),.aB bq (.cells (wv (out.set j (d))).toArray 188 (0,0))]) (c:=.aB bv (.cells (wv lv).toArray 188 (0,0))) (by simp) hk);have dw:=aA.split (A:=[.aH (Old wb) wb,.aB bv (.cells (wv lv).toArray 188 (0,0)),.aB bq (.cells (wv (out.set j (d))).toArray 188 (0,0))]) hS;refine (aDH bu j (lb.length+1) _ _ _ _ (d) U (lv.take lb.length) _ _ _ dw zc (by rw [List.length_take];omega) (by omega) hI.out.uw (by omega) a5F).mono ?_;rintro e w2 ⟨o,bw,rfl,uu,cD,dO,eT,kj,dS⟩
       try clear uN
       try clear hs
       try clear hx
       try clear iz
       try clear wX
       try clear vu
       try clear vp
       try clear htw
       try clear rn
       try clear nT
       try clear mM
       try clear hwt
       try clear jA
       try clear fv
       try clear fM
       try clear lZ
       try clear rW
       try clear nY
       try clear tY
       try clear a6v
       try clear yp
       try clear zB
       try clear hw3
       try clear hw4
       try clear hw5
       try clear he3
       try clear he4
       try clear a7I
       try clear a9p
       try clear a9x
       try clear a5k
       try clear a69
       try clear htz
       try clear a30
       try clear a6U
       try clear hw6
       try clear hw7
       try clear a0I
       try clear ud
       try clear bD
       try clear qX
       try clear bB
       try clear bR
       try clear hdz
       try clear jK
       try clear a6e
       try clear hr
       try clear hd
       try clear hw9
       try clear he5
       try clear hrt
       try clear hdz2
       try clear uR
       try clear hbr
       have cK:=hS.su (A:=[.aH (Old wb) wb,.aB bv (.cells (wv lv).toArray 188 (0,0)),.aB bq (.cells (wv (out.set j (d))).toArray 188 (0,0))]) (B':=[.aB bu (.cells (wv o).toArray 188 (0,0))]) uu;clear hS uu dw oS zc;have hS:=cK;clear cK;simp only [aK] at hS;rw [nA.out] at dS;have aMg:o.length≤la.length+1:=by omega
       have aHk:la.length+1≤o.length:=by omega
       replace cD:=Hd cD;replace eT:=Hd eT
       by_cases fk:bw=0
       ·subst fk
        replace dS:=Hd dS;go_wp2;go_roundw
        case rel=>exact⟨j,o,_,rfl,hS,hI.out.right cD.out dO eT.out dS.out (by omega) (by rw [hX.out];exact hXd.out)⟩
        case measure=>simp [intOf]
       ·obtain rfl:bw=1:=by omega
        have gO:val lv<WB ^ lb.length:=by rw [nC.out];exact yH.out
        have qV:val (U.drop j)<WB ^ (lb.length+1):=by
         rw [hX.out,rR];have h1:=pS.out;rw [← dc] at h1;have h2:val lv*WB≤WB ^ lb.length*WB:=Nat.mul_le_mul_right _ (by omega);omega
        have eo:1≤d:=div_pos (n:=lb.length) cD.out eT.out dO qV (by simpa using dS);have iF:nth 0 (out.set j (d)) j=d:=by rw [ov,if_pos ⟨rfl,by omega⟩]
        replace dS:=Hd dS;replace gO:=Hd gO;replace qV:=Hd qV
        go_wp2_with (first|((with_reducible refine du (T:=49) ?_);refine ck rfl (gC (T:=49) underlying49 sizeOf188 rfl rfl (by omega) (by omega) ?_);simp only [aD];simp only [Nat.zero_add,Int.toNat_natCast])|((with_reducible refine dq (T:=188) ?_);refine dI hS rfl (kD (T:=188) 2 isAgg188 rfl rfl (by first|(simp only [List.length_set];omega)) ?_);simp only [aD])|((with_reducible refine gK (T:=188) ?_);refine jQ (T:=188) (v:=d - 1) 2 hS rfl rfl (by omega) rfl (by first|(simp only [List.length_set];omega)) sizeOf188 (fun _ hS=>?_);simp only [aD];simp only [aK] at hS)|(with_reducible refine bH hS zeroValue190 fun bc wbc hS=>?_)|((with_reducible refine tD (T:=49) ?_);refine ck rfl (a3z (T:=49) (j:=j) (k:=j+(lb.length+1)) (ad:=none) underlying49 sizeOf188 rfl rfl rfl (by omega) (by omega) (by omega) (by omega) ?_);simp only [aD];simp only [Nat.add_sub_cancel_left,Nat.zero_add])|go_in)
        rw [List.set_set] at hS;clear iF
        go_loopw [170] (fun v wr=>∃ (k cc:Nat) (o2:List Nat),k≤lb.length+1∧v=.int .i64 (k:Int)∧aA wb wr ([.aH (Old wb) wb,.aB bv (.cells (wv lv).toArray 188 (0,0)),.aB bq (.cells (wv (out.set j (d - 1))).toArray 188 (0,0))]++[.aB bu (.cells (wv o2).toArray 188 (0,0)),.aB bc (.cells #[.int .u64 (cc:Int)] 190 (0,0))])∧o2.length=o.length∧Wd o2∧(∀ i,(i<j∨j+k≤i)→nth 0 o2 i=nth 0 o i)∧cc≤1∧val o2+WB ^ (j+k)*cc=val o+WB ^ j*val ((lv.take lb.length).take k)) (fun v _=>lb.length+1 - (intOf v).toNat)
        case atStart=>exact⟨0,0,o,by omega,rfl,hS,rfl,dO,fun _ _=>rfl,by omega,by simp [val]⟩
        case round =>
         clear hS;obtain⟨k,cc,o2,hk,rfl,hS,lk,nP,jy,jT,gW⟩:=hrel;simp only [aK] at hS;have bB:o2.length≤la.length+1:=by omega
         have bR:la.length+1≤o2.length:=by omega
         have bG:=nP.nth (j+k);have iQ:=vX.nth k;rw [dc] at bG iQ;replace lk:=Hd lk;replace jy:=Hd jy;replace gW:=Hd gW;have zW:((j:Int)+(k:Int)).toNat=j+k:=by omega
         by_cases fm:k<lb.length
         ·have a4s:=Hd (xI 0 lv fm)
          go_wp2_with (first|((with_reducible refine du (T:=49) ?_);refine ck rfl (gC (T:=49) underlying49 sizeOf188 rfl rfl (by omega) (by omega) ?_);simp only [aD];simp only [Nat.zero_add,Int.toNat_natCast])|((with_reducible refine dq (T:=188) ?_);refine dI hS rfl (kD (T:=188) 1 isAgg188 rfl rfl (by first|omega) ?_);simp only [aD])|((with_reducible refine dq (T:=188) ?_);refine dI hS rfl (kD (T:=188) 3 isAgg188 rfl rfl (by first|omega) ?_);simp only [aD])|(with_reducible first|refine aU 4 hS isAgg190 ?_|refine aJ 4 hS sizeOf190 fun _ hS=>?_)|((with_reducible refine gK (T:=188) ?_);refine jQ (T:=188) (v:=(cc+(nth 0 o2 (j+k)+nth 0 lv k)) % 4294967296) 3 hS rfl rfl (by omega) rfl (by first|omega) sizeOf188 (fun _ hS=>?_);simp only [aD];simp only [aK] at hS)|go_in)
          have e:((cc:Int)+((nth 0 o2 (j+k):Nat)+(nth 0 lv k:Nat))) / 4294967296=(((cc+(nth 0 o2 (j+k)+nth 0 lv k)) / 4294967296:Nat):Int):=by omega
          simp only [zW] at hS;rw [e] at hS;go_roundw
          case rel=>exact a3K (A:=[_,_,_]) hS (by omega) (by omega) lk.out nP jy.out jT (by rw [a4s.out]) (by omega) gW.out
          case measure=>simp [intOf];omega
         ·by_cases iE:k<lb.length+1
          ·have hz:=Hd (qP 0 (lv.take lb.length) k (by rw [List.length_take];omega))
           go_wp2_with (first|((with_reducible refine du (T:=49) ?_);refine ck rfl (gC (T:=49) underlying49 sizeOf188 rfl rfl (by omega) (by omega) ?_);simp only [aD];simp only [Nat.zero_add,Int.toNat_natCast])|((with_reducible refine dq (T:=188) ?_);refine dI hS rfl (kD (T:=188) 3 isAgg188 rfl rfl (by first|omega) ?_);simp only [aD])|(with_reducible first|refine aU 4 hS isAgg190 ?_|refine aJ 4 hS sizeOf190 fun _ hS=>?_)|((with_reducible refine gK (T:=188) ?_);refine jQ (T:=188) (v:=(cc+nth 0 o2 (j+k)) % 4294967296) 3 hS rfl rfl (by omega) rfl (by first|omega) sizeOf188 (fun _ hS=>?_);simp only [aD];simp only [aK] at hS)|go_in)
           have e:((cc:Int)+(nth 0 o2 (j+k):Nat)) / 4294967296=(((cc+nth 0 o2 (j+k)) / 4294967296:Nat):Int):=by omega
           simp only [zW] at hS;rw [e] at hS;go_roundw
           case rel=>exact a3K (A:=[_,_,_]) hS (by omega) (by omega) lk.out nP jy.out jT (by rw [hz.out];omega) (by omega) gW.out
           case measure=>simp [intOf];omega
          ·obtain rfl:k=lb.length+1:=by omega
           have qx:=gW.out;rw [tI (by rw [List.length_take];omega),nA.out] at qx;replace qx:=Hd qx;go_wp2;go_roundw
           case rel=>exact⟨j,o2,_,rfl,hS.sb,hI.out.back cD.out lk.out dO nP eT.out jy.out dS.out qx.out (by omega) (by rw [hX.out];exact hXd.out) (by rw [hX.out];exact hdV.out) gO.out (by rw [hX.out];exact pS.out)⟩
           case measure=>simp [intOf]
end Go.Hp
