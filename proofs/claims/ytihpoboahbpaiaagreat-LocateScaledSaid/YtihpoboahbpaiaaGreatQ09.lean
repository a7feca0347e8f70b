/- Texts for the walk of the law: K12d K5 K13. -/
import Derived.Test.YtihpoboahbpaiaaGreatQ08
set_option maxRecDepth 100000
set_option maxHeartbeats 16000000
set_option linter.unusedVariables false
set_option linter.unusedSimpArgs false
namespace Go.Proofs
open Go.RowKit Go.Hp
theorem divide_any (ad bd:Option Addr) (n c m d:Nat) (la lb:List Nat) (w:World) (S:Nat→Prop) (ha:Mag w S (.slice ad n c) la) (hb:Mag w S (.slice bd m d) lb) (na:Nm la) (nb:Nm lb) (hle:la.length≤2000) (hb0:val lb≠0) :
 Calls Tryz.prog 140 #[.slice ad n c,.slice bd m d] w (DivRes w S la lb):=by
 rcases Nat.lt_or_ge (val la) (val lb) with h|h
 ·exact divide_less ad bd n c m d la lb w S ha hb na nb h
 ·rcases Nat.lt_or_ge 1 lb.length with h2|h2
  ·exact divide_main ad bd n c m d la lb w S ha hb na nb hle h h2
  ·refine divide_word ad bd n c m d la lb w S ha hb na nb hle h ?_
   have:lb.length≠0:=fun e=>hb0 (by rw [List.length_eq_zero_iff.1 e];rfl)
   omega
end Go.Proofs
namespace Go.Proofs
open Go.Proofs.Tryz
open Go.RowKit Go.Hp
theorem sum_rel {w w':World} {F:Chunk} {bo bc:Nat} {T U:TypeId} {la lb o:List Nat} {k cc v:Nat} (hS:Heap w w' [F,.blk bo (.cells (wv (o.set k (v % 4294967296))).toArray T (0,0)),.blk bc (.cells #[.int .u64 ((v / 4294967296:Nat):Int)] U (0,0))]) (hk:k<la.length+1)
 (hol1:o.length≤la.length+1) (hol2:la.length+1≤o.length) (how:Wd o) (ho0:∀ j,k≤j→nth 0 o j=0) (hcc:cc≤1) (hak:nth 0 la k<4294967296) (hbk:nth 0 lb k<4294967296) (hv:val o+WB ^ k*cc=val (la.take k)+val (lb.take k)) (he:v=cc+(nth 0 la k+nth 0 lb k)) :
 ∃ (k' cc':Nat) (o':List Nat),k'≤la.length+1∧Value.int .i64 ((k:Int)+1)=.int .i64 (k':Int)∧Heap w w' [F,.blk bo (.cells (wv o').toArray T (0,0)),.blk bc (.cells #[.int .u64 (cc':Int)] U (0,0))]∧o'.length=la.length+1∧Wd o'∧(∀ j,k'≤j→nth 0 o' j=0)∧cc'≤1∧val o'+WB ^ k'*cc'=val (la.take k')+val (lb.take k'):=by
 refine⟨k+1,v / 4294967296,o.set k (v % 4294967296),by omega,rfl,hS,by simp;omega,how.set k (by rw [WB_eq];omega),fun j hj=>?_,by omega,?_⟩
 ·rw [nth_set,if_neg (by omega)];exact ho0 j (by omega)
 ·have:=sum_step (v:=v) (by omega) (ho0 k (Nat.le_refl _)) (by omega) hv
  rw [WB_eq] at this ⊢;exact this
theorem sum_any (ad bd:Option Addr) (n c m d:Nat) (la lb:List Nat) (w:World) (S:Nat→Prop) (ha:Mag w S (.slice ad n c) la) (hb:Mag w S (.slice bd m d) lb) (hle:la.length≤2000) (hle2:lb.length≤2000) :
 Calls Tryz.prog 141 #[.slice ad n c,.slice bd m d] w fun e w'=>∃ b S' l,e=.returned (.slice (some ⟨b,0,none⟩) l.length l.length)∧Pure w S w' S'∧Mag w' S' (.slice (some ⟨b,0,none⟩) l.length l.length) l∧l.length≤2001∧val l=val la+val lb:=by
 have h1:=ha.len;have h2:=hb.len;subst h1 h2;have hao:=ha.old;have hbo:=hb.old;have hS:=Heap.start w
 by_cases hl:lb.length≤la.length
 ·go_enter func141,ntmps141
  go_wp2_with (first|((with_reducible refine g_mks' (T:=50) ?_);refine seq_make_words (n:=la.length+1) (T:=50) (E:=228) hS underlying50 Tryz.info228 rfl rfl (by omega) (by omega) (fun bo wo hS=>?_);simp only [NRM];simp only [NRH] at hS)|(with_reducible refine alA hS zeroValue217 fun bc wbc hS=>?_)|go_in)
  go_loopw [23] (fun v wr=>∃ (k cc:Nat) (o:List Nat),k≤la.length+1∧v=.int .i64 (k:Int)∧Heap w wr [.frz (Old w) w,.blk bo (.cells (wv o).toArray 228 (0,0)),.blk bc (.cells #[.int .u64 (cc:Int)] 217 (0,0))]∧o.length=la.length+1∧Wd o∧(∀ j,k≤j→nth 0 o j=0)∧cc≤1∧val o+WB ^ k*cc=val (la.take k)+val (lb.take k)) (fun v _=>la.length+1 - (intOf v).toNat)
  case atStart=>exact⟨0,0,List.replicate (la.length+1) 0,by omega,rfl,hS,by simp,Wd.zeros _,fun j _=>nth_replicate _ _ _,by omega,by simp [val,val_zeros]⟩
  case round =>
   clear hS;obtain⟨k,cc,o,hk,rfl,hS,hol,how,ho0,hcc,hv⟩:=hrel;have hak:=ha.wd.nth k;have hbk:=hb.wd.nth k;rw [WB_eq] at hak hbk;replace hv:=Hd hv;have hol1:o.length≤la.length+1:=by omega
   have hol2:la.length+1≤o.length:=by omega
   clear hol
   by_cases hk1:k<la.length
   ·by_cases hk2:k<lb.length
    ·go_wp2_with (first|((with_reducible refine g_idx (T:=50) ?_);refine seq_any rfl (any_index_mag (T:=50) underlying50 sizeOf228 rfl rfl hao (by omega) (by omega) (fun _ _ _=>?_));simp only [NRM])|((with_reducible refine g_idx (T:=50) ?_);refine seq_any rfl (any_index_mag (T:=50) underlying50 sizeOf228 rfl rfl hbo (by omega) (by omega) (fun _ _ _=>?_));simp only [NRM])|((with_reducible refine g_idx (T:=50) ?_);refine seq_any rfl (any_index_at (T:=50) underlying50 sizeOf228 rfl rfl (by omega) (by omega) ?_);simp only [NRM];simp only [Nat.zero_add,Int.toNat_natCast])|(with_reducible first|refine ld0 hS isAgg228 ?_|refine ldB 2 hS isAgg217 ?_|refine stA 2 hS sizeOf217 fun _ hS=>?_)|((with_reducible refine g_store (T:=228) ?_);refine seq_store_word (T:=228) (v:=(cc+(nth 0 la k+nth 0 lb k)) % 4294967296) 1 hS rfl rfl (by omega) rfl (by first|omega) sizeOf228 (fun _ hS=>?_);simp only [NRM];simp only [NRH] at hS)|go_in)
     have e:((cc:Int)+((nth 0 la k:Nat)+(nth 0 lb k:Nat))) / 4294967296=(((cc+(nth 0 la k+nth 0 lb k)) / 4294967296:Nat):Int):=by omega
     rw [e] at hS;go_roundw
     case rel=>exact sum_rel hS (by omega) hol1 hol2 how ho0 hcc hak hbk hv.out rfl
     case measure=>simp [intOf];omega
    ·have hz:=Hd (nth_out 0 lb k (by omega))
     go_wp2_with (first|((with_reducible refine g_idx (T:=50) ?_);refine seq_any rfl (any_index_mag (T:=50) underlying50 sizeOf228 rfl rfl hao (by omega) (by omega) (fun _ _ _=>?_));simp only [NRM])|((with_reducible refine g_idx (T:=50) ?_);refine seq_any rfl (any_index_at (T:=50) underlying50 sizeOf228 rfl rfl (by omega) (by omega) ?_);simp only [NRM];simp only [Nat.zero_add,Int.toNat_natCast])|(with_reducible first|refine ld0 hS isAgg228 ?_|refine ldB 2 hS isAgg217 ?_|refine stA 2 hS sizeOf217 fun _ hS=>?_)|((with_reducible refine g_store (T:=228) ?_);refine seq_store_word (T:=228) (v:=(cc+nth 0 la k) % 4294967296) 1 hS rfl rfl (by omega) rfl (by first|omega) sizeOf228 (fun _ hS=>?_);simp only [NRM];simp only [NRH] at hS)|go_in)
     have e:((cc:Int)+(nth 0 la k:Nat)) / 4294967296=(((cc+nth 0 la k) / 4294967296:Nat):Int):=by omega
     rw [e] at hS;go_roundw
     case rel=>exact sum_rel hS (by omega) hol1 hol2 how ho0 hcc hak hbk hv.out (by rw [hz.out];rfl)
     case measure=>simp [intOf];omega
   ·by_cases hk3:k<la.length+1
    ·have hz:=Hd (nth_out 0 lb k (by omega))
     have hz2:=Hd (nth_out 0 la k (by omega))
     go_wp2_with (first|((with_reducible refine g_idx (T:=50) ?_);refine seq_any rfl (any_index_at (T:=50) underlying50 sizeOf228 rfl rfl (by omega) (by omega) ?_);simp only [NRM];simp only [Nat.zero_add,Int.toNat_natCast])|(with_reducible first|refine ldB 2 hS isAgg217 ?_|refine stA 2 hS sizeOf217 fun _ hS=>?_)|((with_reducible refine g_store (T:=228) ?_);refine seq_store_word (T:=228) (v:=cc % 4294967296) 1 hS rfl rfl (by omega) rfl (by first|omega) sizeOf228 (fun _ hS=>?_);simp only [NRM];simp only [NRH] at hS)|go_in)
     have e:(cc:Int) / 4294967296=((cc / 4294967296:Nat):Int):=by omega
     rw [e] at hS;go_roundw
     case rel=>exact sum_rel hS (by omega) hol1 hol2 how ho0 hcc hak hbk hv.out (by rw [hz.out,hz2.out];rfl)
     case measure=>simp [intOf];omega
    ·obtain rfl:k=la.length+1:=by omega
     go_wp2;go_ret;obtain⟨q1,q2⟩:=hS.magOut S 0 rfl how (by simp [maxLen];omega);have e:o.length=la.length+1:=by omega
     refine⟨bo,_,o,by rw [e];rfl,q1,q2,by omega,sum_end e how ha.wd hb.wd (Nat.le_refl _) hl hv.out⟩
 ·go_enter func141,ntmps141
  go_wp2_with (first|((with_reducible refine g_mks' (T:=50) ?_);refine seq_make_words (n:=lb.length+1) (T:=50) (E:=228) hS underlying50 Tryz.info228 rfl rfl (by omega) (by omega) (fun bo wo hS=>?_);simp only [NRM];simp only [NRH] at hS)|(with_reducible refine alA hS zeroValue217 fun bc wbc hS=>?_)|go_in)
  go_loopw [23] (fun v wr=>∃ (k cc:Nat) (o:List Nat),k≤lb.length+1∧v=.int .i64 (k:Int)∧Heap w wr [.frz (Old w) w,.blk bo (.cells (wv o).toArray 228 (0,0)),.blk bc (.cells #[.int .u64 (cc:Int)] 217 (0,0))]∧o.length=lb.length+1∧Wd o∧(∀ j,k≤j→nth 0 o j=0)∧cc≤1∧val o+WB ^ k*cc=val (lb.take k)+val (la.take k)) (fun v _=>lb.length+1 - (intOf v).toNat)
  case atStart=>exact⟨0,0,List.replicate (lb.length+1) 0,by omega,rfl,hS,by simp,Wd.zeros _,fun j _=>nth_replicate _ _ _,by omega,by simp [val,val_zeros]⟩
  case round =>
   clear hS;obtain⟨k,cc,o,hk,rfl,hS,hol,how,ho0,hcc,hv⟩:=hrel;have hak:=hb.wd.nth k;have hbk:=ha.wd.nth k;rw [WB_eq] at hak hbk;replace hv:=Hd hv;have hol1:o.length≤lb.length+1:=by omega
   have hol2:lb.length+1≤o.length:=by omega
   clear hol
   by_cases hk1:k<lb.length
   ·by_cases hk2:k<la.length
    ·go_wp2_with (first|((with_reducible refine g_idx (T:=50) ?_);refine seq_any rfl (any_index_mag (T:=50) underlying50 sizeOf228 rfl rfl hbo (by omega) (by omega) (fun _ _ _=>?_));simp only [NRM])|((with_reducible refine g_idx (T:=50) ?_);refine seq_any rfl (any_index_mag (T:=50) underlying50 sizeOf228 rfl rfl hao (by omega) (by omega) (fun _ _ _=>?_));simp only [NRM])|((with_reducible refine g_idx (T:=50) ?_);refine seq_any rfl (any_index_at (T:=50) underlying50 sizeOf228 rfl rfl (by omega) (by omega) ?_);simp only [NRM];simp only [Nat.zero_add,Int.toNat_natCast])|(with_reducible first|refine ld0 hS isAgg228 ?_|refine ldB 2 hS isAgg217 ?_|refine stA 2 hS sizeOf217 fun _ hS=>?_)|((with_reducible refine g_store (T:=228) ?_);refine seq_store_word (T:=228) (v:=(cc+(nth 0 lb k+nth 0 la k)) % 4294967296) 1 hS rfl rfl (by omega) rfl (by first|omega) sizeOf228 (fun _ hS=>?_);simp only [NRM];simp only [NRH] at hS)|go_in)
     have e:((cc:Int)+((nth 0 lb k:Nat)+(nth 0 la k:Nat))) / 4294967296=(((cc+(nth 0 lb k+nth 0 la k)) / 4294967296:Nat):Int):=by omega
     rw [e] at hS;go_roundw
     case rel=>exact sum_rel hS (by omega) hol1 hol2 how ho0 hcc hak hbk hv.out rfl
     case measure=>simp [intOf];omega
    ·have hz:=Hd (nth_out 0 la k (by omega))
     go_wp2_with (first|((with_reducible refine g_idx (T:=50) ?_);refine seq_any rfl (any_index_mag (T:=50) underlying50 sizeOf228 rfl rfl hbo (by omega) (by omega) (fun _ _ _=>?_));simp only [NRM])|((with_reducible refine g_idx (T:=50) ?_);refine seq_any rfl (any_index_at (T:=50) underlying50 sizeOf228 rfl rfl (by omega) (by omega) ?_);simp only [NRM];simp only [Nat.zero_add,Int.toNat_natCast])|(with_reducible first|refine ld0 hS isAgg228 ?_|refine ldB 2 hS isAgg217 ?_|refine stA 2 hS sizeOf217 fun _ hS=>?_)|((with_reducible refine g_store (T:=228) ?_);refine seq_store_word (T:=228) (v:=(cc+nth 0 lb k) % 4294967296) 1 hS rfl rfl (by omega) rfl (by first|omega) sizeOf228 (fun _ hS=>?_);simp only [NRM];simp only [NRH] at hS)|go_in)
     have e:((cc:Int)+(nth 0 lb k:Nat)) / 4294967296=(((cc+nth 0 lb k) / 4294967296:Nat):Int):=by omega
     rw [e] at hS;go_roundw
     case rel=>exact sum_rel hS (by omega) hol1 hol2 how ho0 hcc hak hbk hv.out (by rw [hz.out];rfl)
     case measure=>simp [intOf];omega
   ·by_cases hk3:k<lb.length+1
    ·have hz:=Hd (nth_out 0 la k (by omega))
     have hz2:=Hd (nth_out 0 lb k (by omega))
     go_wp2_with (first|((with_reducible refine g_idx (T:=50) ?_);refine seq_any rfl (any_index_at (T:=50) underlying50 sizeOf228 rfl rfl (by omega) (by omega) ?_);simp only [NRM];simp only [Nat.zero_add,Int.toNat_natCast])|(with_reducible first|refine ldB 2 hS isAgg217 ?_|refine stA 2 hS sizeOf217 fun _ hS=>?_)|((with_reducible refine g_store (T:=228) ?_);refine seq_store_word (T:=228) (v:=cc % 4294967296) 1 hS rfl rfl (by omega) rfl (by first|omega) sizeOf228 (fun _ hS=>?_);simp only [NRM];simp only [NRH] at hS)|go_in)
     have e:(cc:Int) / 4294967296=((cc / 4294967296:Nat):Int):=by omega
     rw [e] at hS;go_roundw
     case rel=>exact sum_rel hS (by omega) hol1 hol2 how ho0 hcc hak hbk hv.out (by rw [hz.out,hz2.out];rfl)
     case measure=>simp [intOf];omega
    ·obtain rfl:k=lb.length+1:=by omega
     go_wp2;go_ret;obtain⟨q1,q2⟩:=hS.magOut S 0 rfl how (by simp [maxLen];omega);have e:o.length=lb.length+1:=by omega
     refine⟨bo,_,o,by rw [e];rfl,q1,q2,by omega,by rw [Nat.add_comm];exact sum_end e how hb.wd ha.wd (Nat.le_refl _) (by omega) hv.out⟩
end Go.Proofs
namespace Go.Hp
open Go.Proofs.Tryz
open Go
theorem Liv.at {w0 w wr:World} {H:List Chunk} {F S:Nat→Prop} (hS:Heap w0 w (.frz F wr::H)) (hF:∀ k,S k→F k):Liv w S:=fun k hk=>(hS.ok (.frz F wr) (by simp) k (hF k hk)).1
end Go.Hp
namespace Go.Proofs
open Go.Proofs.Tryz
open Go.RowKit Go.Hp
def iRes (z:WI) (e:Int):Ending:=.returned (.tuple #[.agg #[.bool z.neg,.slice z.ad z.n z.cap],.int .i64 e])
theorem _root_.Go.Hp.IsI.cast {w:World} {S:Nat→Prop} {z:WI} {v v':Int} (h:IsI w S z v) (e:v=v'):IsI w S z v':=e ▸ h
def IRes (w:World) (S:Nat→Prop) (v:Int) (e:Ending) (w':World):Prop:=∃ (z:WI) (S':Nat→Prop),e=iRes z 0∧Pure w S w' S'∧IsI w' S' z v
theorem cmpZ_ltd (a b:Nat):decide (cmpZ (a:Int) (b:Int)<0)=decide (a<b):=by
 rw [cmpZ_nat]
 by_cases h:a<b
 ·simp [h]
 ·by_cases h2:b<a <;> simp [h,h2]
theorem addI_any (x y:WI) (a b:Int) (w:World) (S:Nat→Prop) (hx:IsI w S x a) (hy:IsI w S y b) (hL:Liv w S) (hfit:(a+b).natAbs<Lim) :
 Calls Tryz.prog 138 #[.agg #[.bool x.neg,.slice x.ad x.n x.cap],.agg #[.bool y.neg,.slice y.ad y.n y.cap]] w (IRes w S (a+b)):=by
 obtain⟨xneg,xad,xn,xcap⟩:=x;obtain⟨yneg,yad,yn,ycap⟩:=y;obtain⟨la,ha,na,la512,hxn,hva⟩:=hx;obtain⟨lb,hb,nb,lb512,hyn,hvb⟩:=hy;dsimp only at ha hb hxn hyn ⊢;obtain⟨hS,hF0,hO0,hp0⟩:=st0 hL;replace hva:=Hd hva;replace hvb:=Hd hvb;cases xneg
 ·have h1:0≤a:=by
   have:¬ a<0:=by simpa using hxn.symm
   omega
  clear hxn;cases yneg
  ·have h2:0≤b:=by
    have:¬ b<0:=by simpa using hyn.symm
    omega
   clear hyn
   go_enter func138,ntmps138
   go_wp2_with (with_reducible first|refine bxA hS fun bx wbx hS=>?_|refine alA hS zeroValue52 fun br wbr hS=>?_|refine ldB 1 hS isAgg4 ?_|refine ldB 2 hS isAgg4 ?_)
   refine rg0 [.p 0,.r 1,.p 2,.r 3,.p 4,.r 5,.e 6,.e 7,.p 8,.p 9,.m 10,.p 11] [10] hS fun w1 hS=>?_
   have hC:=hS
   repeat (with_reducible first|refine sldB 1 isAgg4 ?_|refine sldB 1 isAgg50 ?_|refine sldB 2 isAgg50 ?_|refine spL ?_)
   refine exL ?_
   go_wp2_with (fail)
   refine (sum_any _ _ _ _ _ _ la lb _ S (ha.at hS hF0) (hb.at hS hF0) (by omega) (by omega)).mono ?_;rintro e w' ⟨bs,S2,ls,rfl,hq,hm,hml,hmv⟩;simp only [];go_step;have hC:=hC.below hq.below hq.drawn;replace hS:=hS.pcl hF0 hO0 hp0 hq;obtain⟨F1,hF1,-,hp1,hO1,hS⟩:=hS;replace hml:=Hd hml;replace hmv:=Hd hmv;refine ext_end hC ?_;refine mvs ?_;refine exL ?_
   go_wp2_with (fail)
   refine (signed_any false _ _ _ ls _ S2 (hm.at hS hF1) (by rw [hmv.out,hva.out,hvb.out];exact Nat.lt_of_le_of_lt (by omega) hfit)).mono ?_;rintro e w' ⟨z,rfl,hq3,hz⟩;simp only [];go_step;have hC:=hC.below hq3.below hq3.drawn;replace hS:=hS.pcl hF1 hO1 hp1 hq3;obtain⟨F2,hF2,-,hp2,hO2,hS⟩:=hS;refine ext_end hC ?_;refine mvs ?_;refine muL ?_
   (with_reducible refine stA 3 hS sizeOf52 fun _ hS=>?_)
   refine mut_end ?_;refine mvs ?_;refine snL ?_;go_wp2
   exact ret_ct 3 hS rfl rfl rfl isAgg52 sizeOf52 rfl rfl ⟨z,S2,rfl,hp2.step hS hO2 hF2,by
    have h3:=hmv.out;have h4:=hva.out;have h5:=hvb.out;exact (hz.at hS hF2).cast (by simp;omega)⟩
  ·have h2:b<0:=by simpa using hyn.symm
   clear hyn
   by_cases hlt:val la<val lb
   ·skip
    have hcd:decide (cmpZ (val la:Nat) (val lb:Nat)<0)=true:=by rw [cmpZ_ltd];simpa using hlt
    have hle:=Hd (show val la≤val lb from by first|exact Nat.le_of_lt hlt);clear hlt
    go_enter func138,ntmps138
    go_wp2_with (first|(with_reducible first|refine bxA hS fun bx wbx hS=>?_|refine alA hS zeroValue52 fun br wbr hS=>?_|refine ldB 1 hS isAgg4 ?_|refine ldB 2 hS isAgg4 ?_|refine ldB 1 hS isAgg50 ?_|refine ldB 2 hS isAgg50 ?_|refine ldA 1 hS isAgg52 sizeOf52 ?_|refine ldA 2 hS isAgg52 sizeOf52 ?_|refine stA 1 hS sizeOf52 fun _ hS=>?_|refine stA 2 hS sizeOf52 fun _ hS=>?_)|(go_at_call 144;refine (compareW_any _ _ _ _ _ _ la lb _ S (ha.at hS hF0) (hb.at hS hF0) na nb).mono ?_;rintro e w' ⟨rfl,hq0⟩;have ha:=(ha.at hS hF0).grow hq0;have hb:=(hb.at hS hF0).grow hq0;replace hS:=hS.pcl hF0 hO0 hp0 hq0;obtain⟨F1,hF1,-,hp1,hO1,hS⟩:=hS))
    refine rg0 [.p 0,.r 1,.p 2,.r 3,.p 4,.r 5,.e 6,.e 7,.p 8,.p 9,.m 10,.p 11] [10] hS fun w1 hS=>?_
    have hC:=hS
    repeat (with_reducible first|refine sldB 1 isAgg4 ?_|refine sldB 1 isAgg50 ?_|refine sldB 2 isAgg50 ?_|refine spL ?_)
    refine exL ?_
    go_wp2_with (fail)
    refine (difference_any _ _ _ _ _ _ lb la _ S (hb.at hS hF1) (ha.at hS hF1) na hle.out (by omega)).mono ?_;rintro e w' ⟨bs,S2,ls,rfl,hq,hm,hml,hmv⟩;simp only [];go_step;have hC:=hC.below hq.below hq.drawn;replace hS:=hS.pcl hF1 hO1 hp1 hq;obtain⟨F2,hF2,-,hp2,hO2,hS⟩:=hS;replace hml:=Hd hml;replace hmv:=Hd hmv;refine ext_end hC ?_;refine mvs ?_;refine exL ?_
    go_wp2_with (fail)
    refine (signed_any true _ _ _ ls _ S2 (hm.at hS hF2) (by have h3:=hmv.out;have h4:=hva.out;have h5:=hvb.out;have h6:=hle.out;omega)).mono ?_;rintro e w' ⟨z,rfl,hq3,hz⟩;simp only [];go_step;have hC:=hC.below hq3.below hq3.drawn;replace hS:=hS.pcl hF2 hO2 hp2 hq3;obtain⟨F3,hF3,-,hp3,hO3,hS⟩:=hS;refine ext_end hC ?_;refine mvs ?_;refine muL ?_
    (with_reducible refine stA 3 hS sizeOf52 fun _ hS=>?_)
    refine mut_end ?_;refine mvs ?_;refine snL ?_;go_wp2
    exact ret_ct 3 hS rfl rfl rfl isAgg52 sizeOf52 rfl rfl ⟨z,S2,rfl,hp3.step hS hO3 hF3,by
     have h3:=hmv.out;have h4:=hva.out;have h5:=hvb.out;have h6:=hle.out;exact (hz.at hS hF3).cast (by simp;omega)⟩
   ·skip
    have hcd:decide (cmpZ (val la:Nat) (val lb:Nat)<0)=false:=by rw [cmpZ_ltd];simpa using hlt
    have hle:=Hd (show val lb≤val la from by first|exact Nat.le_of_not_lt hlt);clear hlt
    go_enter func138,ntmps138
    go_wp2_with (first|(with_reducible first|refine bxA hS fun bx wbx hS=>?_|refine alA hS zeroValue52 fun br wbr hS=>?_|refine ldB 1 hS isAgg4 ?_|refine ldB 2 hS isAgg4 ?_|refine ldB 1 hS isAgg50 ?_|refine ldB 2 hS isAgg50 ?_)|(go_at_call 144;refine (compareW_any _ _ _ _ _ _ la lb _ S (ha.at hS hF0) (hb.at hS hF0) na nb).mono ?_;rintro e w' ⟨rfl,hq0⟩;have ha:=(ha.at hS hF0).grow hq0;have hb:=(hb.at hS hF0).grow hq0;replace hS:=hS.pcl hF0 hO0 hp0 hq0;obtain⟨F1,hF1,-,hp1,hO1,hS⟩:=hS))
    refine rg0 [.p 0,.r 1,.p 2,.r 3,.p 4,.r 5,.e 6,.e 7,.p 8,.p 9,.m 10,.p 11] [10] hS fun w1 hS=>?_
    have hC:=hS
    repeat (with_reducible first|refine sldB 1 isAgg4 ?_|refine sldB 1 isAgg50 ?_|refine sldB 2 isAgg50 ?_|refine spL ?_)
    refine exL ?_
    go_wp2_with (fail)
    refine (difference_any _ _ _ _ _ _ la lb _ S (ha.at hS hF1) (hb.at hS hF1) nb hle.out (by omega)).mono ?_;rintro e w' ⟨bs,S2,ls,rfl,hq,hm,hml,hmv⟩;simp only [];go_step;have hC:=hC.below hq.below hq.drawn;replace hS:=hS.pcl hF1 hO1 hp1 hq;obtain⟨F2,hF2,-,hp2,hO2,hS⟩:=hS;replace hml:=Hd hml;replace hmv:=Hd hmv;refine ext_end hC ?_;refine mvs ?_;refine exL ?_
    go_wp2_with (fail)
    refine (signed_any false _ _ _ ls _ S2 (hm.at hS hF2) (by have h3:=hmv.out;have h4:=hva.out;have h5:=hvb.out;have h6:=hle.out;omega)).mono ?_;rintro e w' ⟨z,rfl,hq3,hz⟩;simp only [];go_step;have hC:=hC.below hq3.below hq3.drawn;replace hS:=hS.pcl hF2 hO2 hp2 hq3;obtain⟨F3,hF3,-,hp3,hO3,hS⟩:=hS;refine ext_end hC ?_;refine mvs ?_;refine muL ?_
    (with_reducible refine stA 3 hS sizeOf52 fun _ hS=>?_)
    refine mut_end ?_;refine mvs ?_;refine snL ?_;go_wp2
    exact ret_ct 3 hS rfl rfl rfl isAgg52 sizeOf52 rfl rfl ⟨z,S2,rfl,hp3.step hS hO3 hF3,by
     have h3:=hmv.out;have h4:=hva.out;have h5:=hvb.out;have h6:=hle.out;exact (hz.at hS hF3).cast (by simp;omega)⟩
 ·have h1:a<0:=by simpa using hxn.symm
  clear hxn;cases yneg
  ·have h2:0≤b:=by
    have:¬ b<0:=by simpa using hyn.symm
    omega
   clear hyn
   by_cases hlt:val la<val lb
   ·skip
    have hcd:decide (cmpZ (val la:Nat) (val lb:Nat)<0)=true:=by rw [cmpZ_ltd];simpa using hlt
    have hle:=Hd (show val la≤val lb from by first|exact Nat.le_of_lt hlt);clear hlt
    go_enter func138,ntmps138
    go_wp2_with (first|(with_reducible first|refine bxA hS fun bx wbx hS=>?_|refine alA hS zeroValue52 fun br wbr hS=>?_|refine ldB 1 hS isAgg4 ?_|refine ldB 2 hS isAgg4 ?_|refine ldB 1 hS isAgg50 ?_|refine ldB 2 hS isAgg50 ?_|refine ldA 1 hS isAgg52 sizeOf52 ?_|refine ldA 2 hS isAgg52 sizeOf52 ?_|refine stA 1 hS sizeOf52 fun _ hS=>?_|refine stA 2 hS sizeOf52 fun _ hS=>?_)|(go_at_call 144;refine (compareW_any _ _ _ _ _ _ la lb _ S (ha.at hS hF0) (hb.at hS hF0) na nb).mono ?_;rintro e w' ⟨rfl,hq0⟩;have ha:=(ha.at hS hF0).grow hq0;have hb:=(hb.at hS hF0).grow hq0;replace hS:=hS.pcl hF0 hO0 hp0 hq0;obtain⟨F1,hF1,-,hp1,hO1,hS⟩:=hS))
    refine rg0 [.p 0,.r 1,.p 2,.r 3,.p 4,.r 5,.e 6,.e 7,.p 8,.p 9,.m 10,.p 11] [10] hS fun w1 hS=>?_
    have hC:=hS
    repeat (with_reducible first|refine sldB 1 isAgg4 ?_|refine sldB 1 isAgg50 ?_|refine sldB 2 isAgg50 ?_|refine spL ?_)
    refine exL ?_
    go_wp2_with (fail)
    refine (difference_any _ _ _ _ _ _ lb la _ S (hb.at hS hF1) (ha.at hS hF1) na hle.out (by omega)).mono ?_;rintro e w' ⟨bs,S2,ls,rfl,hq,hm,hml,hmv⟩;simp only [];go_step;have hC:=hC.below hq.below hq.drawn;replace hS:=hS.pcl hF1 hO1 hp1 hq;obtain⟨F2,hF2,-,hp2,hO2,hS⟩:=hS;replace hml:=Hd hml;replace hmv:=Hd hmv;refine ext_end hC ?_;refine mvs ?_;refine exL ?_
    go_wp2_with (fail)
    refine (signed_any false _ _ _ ls _ S2 (hm.at hS hF2) (by have h3:=hmv.out;have h4:=hva.out;have h5:=hvb.out;have h6:=hle.out;omega)).mono ?_;rintro e w' ⟨z,rfl,hq3,hz⟩;simp only [];go_step;have hC:=hC.below hq3.below hq3.drawn;replace hS:=hS.pcl hF2 hO2 hp2 hq3;obtain⟨F3,hF3,-,hp3,hO3,hS⟩:=hS;refine ext_end hC ?_;refine mvs ?_;refine muL ?_
    (with_reducible refine stA 3 hS sizeOf52 fun _ hS=>?_)
    refine mut_end ?_;refine mvs ?_;refine snL ?_;go_wp2
    exact ret_ct 3 hS rfl rfl rfl isAgg52 sizeOf52 rfl rfl ⟨z,S2,rfl,hp3.step hS hO3 hF3,by
     have h3:=hmv.out;have h4:=hva.out;have h5:=hvb.out;have h6:=hle.out;exact (hz.at hS hF3).cast (by simp;omega)⟩
   ·skip
    have hcd:decide (cmpZ (val la:Nat) (val lb:Nat)<0)=false:=by rw [cmpZ_ltd];simpa using hlt
    have hle:=Hd (show val lb≤val la from by first|exact Nat.le_of_not_lt hlt);clear hlt
    go_enter func138,ntmps138
    go_wp2_with (first|(with_reducible first|refine bxA hS fun bx wbx hS=>?_|refine alA hS zeroValue52 fun br wbr hS=>?_|refine ldB 1 hS isAgg4 ?_|refine ldB 2 hS isAgg4 ?_|refine ldB 1 hS isAgg50 ?_|refine ldB 2 hS isAgg50 ?_)|(go_at_call 144;refine (compareW_any _ _ _ _ _ _ la lb _ S (ha.at hS hF0) (hb.at hS hF0) na nb).mono ?_;rintro e w' ⟨rfl,hq0⟩;have ha:=(ha.at hS hF0).grow hq0;have hb:=(hb.at hS hF0).grow hq0;replace hS:=hS.pcl hF0 hO0 hp0 hq0;obtain⟨F1,hF1,-,hp1,hO1,hS⟩:=hS))
    refine rg0 [.p 0,.r 1,.p 2,.r 3,.p 4,.r 5,.e 6,.e 7,.p 8,.p 9,.m 10,.p 11] [10] hS fun w1 hS=>?_
    have hC:=hS
    repeat (with_reducible first|refine sldB 1 isAgg4 ?_|refine sldB 1 isAgg50 ?_|refine sldB 2 isAgg50 ?_|refine spL ?_)
    refine exL ?_
    go_wp2_with (fail)
    refine (difference_any _ _ _ _ _ _ la lb _ S (ha.at hS hF1) (hb.at hS hF1) nb hle.out (by omega)).mono ?_;rintro e w' ⟨bs,S2,ls,rfl,hq,hm,hml,hmv⟩;simp only [];go_step;have hC:=hC.below hq.below hq.drawn;replace hS:=hS.pcl hF1 hO1 hp1 hq;obtain⟨F2,hF2,-,hp2,hO2,hS⟩:=hS;replace hml:=Hd hml;replace hmv:=Hd hmv;refine ext_end hC ?_;refine mvs ?_;refine exL ?_
    go_wp2_with (fail)
    refine (signed_any true _ _ _ ls _ S2 (hm.at hS hF2) (by have h3:=hmv.out;have h4:=hva.out;have h5:=hvb.out;have h6:=hle.out;omega)).mono ?_;rintro e w' ⟨z,rfl,hq3,hz⟩;simp only [];go_step;have hC:=hC.below hq3.below hq3.drawn;replace hS:=hS.pcl hF2 hO2 hp2 hq3;obtain⟨F3,hF3,-,hp3,hO3,hS⟩:=hS;refine ext_end hC ?_;refine mvs ?_;refine muL ?_
    (with_reducible refine stA 3 hS sizeOf52 fun _ hS=>?_)
    refine mut_end ?_;refine mvs ?_;refine snL ?_;go_wp2
    exact ret_ct 3 hS rfl rfl rfl isAgg52 sizeOf52 rfl rfl ⟨z,S2,rfl,hp3.step hS hO3 hF3,by
     have h3:=hmv.out;have h4:=hva.out;have h5:=hvb.out;have h6:=hle.out;exact (hz.at hS hF3).cast (by simp;omega)⟩
  ·have h2:b<0:=by simpa using hyn.symm
   clear hyn
   go_enter func138,ntmps138
   go_wp2_with (with_reducible first|refine bxA hS fun bx wbx hS=>?_|refine alA hS zeroValue52 fun br wbr hS=>?_|refine ldB 1 hS isAgg4 ?_|refine ldB 2 hS isAgg4 ?_)
   refine rg0 [.p 0,.r 1,.p 2,.r 3,.p 4,.r 5,.e 6,.e 7,.p 8,.p 9,.m 10,.p 11] [10] hS fun w1 hS=>?_
   have hC:=hS
   repeat (with_reducible first|refine sldB 1 isAgg4 ?_|refine sldB 1 isAgg50 ?_|refine sldB 2 isAgg50 ?_|refine spL ?_)
   refine exL ?_
   go_wp2_with (fail)
   refine (sum_any _ _ _ _ _ _ la lb _ S (ha.at hS hF0) (hb.at hS hF0) (by omega) (by omega)).mono ?_;rintro e w' ⟨bs,S2,ls,rfl,hq,hm,hml,hmv⟩;simp only [];go_step;have hC:=hC.below hq.below hq.drawn;replace hS:=hS.pcl hF0 hO0 hp0 hq;obtain⟨F1,hF1,-,hp1,hO1,hS⟩:=hS;replace hml:=Hd hml;replace hmv:=Hd hmv;refine ext_end hC ?_;refine mvs ?_;refine exL ?_
   go_wp2_with (fail)
   refine (signed_any true _ _ _ ls _ S2 (hm.at hS hF1) (by rw [hmv.out,hva.out,hvb.out];exact Nat.lt_of_le_of_lt (by omega) hfit)).mono ?_;rintro e w' ⟨z,rfl,hq3,hz⟩;simp only [];go_step;have hC:=hC.below hq3.below hq3.drawn;replace hS:=hS.pcl hF1 hO1 hp1 hq3;obtain⟨F2,hF2,-,hp2,hO2,hS⟩:=hS;refine ext_end hC ?_;refine mvs ?_;refine muL ?_
   (with_reducible refine stA 3 hS sizeOf52 fun _ hS=>?_)
   refine mut_end ?_;refine mvs ?_;refine snL ?_;go_wp2
   exact ret_ct 3 hS rfl rfl rfl isAgg52 sizeOf52 rfl rfl ⟨z,S2,rfl,hp2.step hS hO2 hF2,by
    have h3:=hmv.out;have h4:=hva.out;have h5:=hvb.out;exact (hz.at hS hF2).cast (by simp;omega)⟩
theorem subI_any (x y:WI) (a b:Int) (w:World) (S:Nat→Prop) (hx:IsI w S x a) (hy:IsI w S y b) (hL:Liv w S) (hfit:(a - b).natAbs<Lim) :
 Calls Tryz.prog 222 #[.agg #[.bool x.neg,.slice x.ad x.n x.cap],.agg #[.bool y.neg,.slice y.ad y.n y.cap]] w (IRes w S (a - b)):=by
 obtain⟨hS,hF0,hO0,hp0⟩:=st0 hL
 go_enter func222,ntmps222
 go_wp2_with (with_reducible first|refine bxA hS fun bx wbx hS=>?_|refine alA hS zeroValue52 fun br wbr hS=>?_)
 refine rg0 [.r 0,.r 1,.e 2,.e 3,.p 4,.p 5,.m 6,.p 7] [6] hS fun w1 hS=>?_
 have hC:=hS
 repeat (with_reducible first|refine sldA 1 isAgg52 sizeOf52 ?_|refine sldA 2 isAgg52 sizeOf52 ?_)
 refine exL ?_
 go_wp2_with (fail)
 refine (neg_any y b _ S (hy.at hS hF0)).mono ?_;rintro e w' ⟨yn,rfl,hq,hyn⟩;simp only [];go_step;have hx1:=(hx.at hS hF0).grow hq;have hC:=hC.below hq.below hq.drawn;replace hS:=hS.pcl hF0 hO0 hp0 hq;obtain⟨F1,hF1,-,hp1,hO1,hS⟩:=hS;refine ext_end hC ?_;refine mvs ?_;refine exL ?_
 go_wp2_with (fail)
 refine (addI_any x yn a (-b) _ S (hx1.at hS hF1) (hyn.at hS hF1) (Liv.at hS hF1) (by rw [show a+-b=a - b by omega];exact hfit)).mono ?_;rintro e w' ⟨z,S2,rfl,hq3,hz⟩;simp only [iRes];go_step;have hC:=hC.below hq3.below hq3.drawn;replace hS:=hS.pcl hF1 hO1 hp1 hq3;obtain⟨F2,hF2,-,hp2,hO2,hS⟩:=hS;refine ext_end hC ?_;refine mvs ?_;refine muL ?_
 (with_reducible refine stA 3 hS sizeOf52 fun _ hS=>?_)
 refine mut_end ?_;refine mvs ?_;refine snL ?_;go_wp2;exact ret_ct 3 hS rfl rfl rfl isAgg52 sizeOf52 rfl rfl ⟨z,S2,rfl,hp2.step hS hO2 hF2,(hz.at hS hF2).cast (by omega)⟩
theorem signMul (a b:Int) (p:Nat) (h:p=a.natAbs*b.natAbs):(if (decide (a<0) != decide (b<0))=true then -(p:Int) else (p:Int))=a*b:=by
 subst h;have h1:((a.natAbs*b.natAbs:Nat):Int)=(a.natAbs:Int)*(b.natAbs:Int):=Int.natCast_mul _ _;rw [h1]
 by_cases ha:a<0 <;> by_cases hb:b<0
 ·simp only [ha,hb,decide_true,bne_self_eq_false,Bool.false_eq_true,if_false]
  rw [show (a.natAbs:Int) = -a by omega,show (b.natAbs:Int) = -b by omega,Int.neg_mul_neg]
 ·simp only [ha,hb,decide_true,decide_false,Bool.bne_false,if_true]
  rw [show (a.natAbs:Int) = -a by omega,show (b.natAbs:Int)=b by omega,Int.neg_mul,Int.neg_neg]
 ·simp only [ha,hb,decide_true,decide_false,Bool.false_bne,if_true]
  rw [show (a.natAbs:Int)=a by omega,show (b.natAbs:Int) = -b by omega,Int.mul_neg,Int.neg_neg]
 ·simp only [ha,hb,decide_false,bne_self_eq_false,Bool.false_eq_true,if_false]
  rw [show (a.natAbs:Int)=a by omega,show (b.natAbs:Int)=b by omega]
theorem mulI_any (x y:WI) (a b:Int) (w:World) (S:Nat→Prop) (hx:IsI w S x a) (hy:IsI w S y b) (hL:Liv w S) (hfit:(a*b).natAbs<Lim) :
 Calls Tryz.prog 218 #[.agg #[.bool x.neg,.slice x.ad x.n x.cap],.agg #[.bool y.neg,.slice y.ad y.n y.cap]] w (IRes w S (a*b)):=by
 obtain⟨xneg,xad,xn,xcap⟩:=x;obtain⟨yneg,yad,yn,ycap⟩:=y;obtain⟨la,ha,na,la512,hxn,hva⟩:=hx;obtain⟨lb,hb,nb,lb512,hyn,hvb⟩:=hy;dsimp only at ha hb hxn hyn ⊢;obtain⟨hS,hF0,hO0,hp0⟩:=st0 hL;replace hva:=Hd hva;replace hvb:=Hd hvb;replace hxn:=Hd hxn;replace hyn:=Hd hyn
 go_enter func218,ntmps218
 go_wp2_with (with_reducible first|refine bxA hS fun bx wbx hS=>?_|refine alA hS zeroValue52 fun br wbr hS=>?_)
 refine rg0 [.p 0,.r 1,.p 2,.r 3,.p 4,.p 5,.r 6,.p 7,.r 8,.e 9,.e 10,.p 11,.p 12,.m 13,.p 14] [13] hS fun w1 hS=>?_
 have hC:=hS
 repeat (with_reducible first|refine sldB 1 isAgg4 ?_|refine sldB 1 isAgg50 ?_|refine sldB 2 isAgg4 ?_|refine sldB 2 isAgg50 ?_|refine spL ?_)
 refine exL ?_
 go_wp2_with (fail)
 refine (times_any _ _ _ _ _ _ la lb _ S (ha.at hS hF0) (hb.at hS hF0) (by omega) (by omega)).mono ?_;rintro e w' ⟨bs,S2,ls,rfl,hq,hm,hml,hmv⟩;simp only [];go_step;have hC:=hC.below hq.below hq.drawn;replace hS:=hS.pcl hF0 hO0 hp0 hq;obtain⟨F1,hF1,-,hp1,hO1,hS⟩:=hS;replace hml:=Hd hml;replace hmv:=Hd hmv;refine ext_end hC ?_;refine mvs ?_;refine exL ?_
 go_wp2_with (fail)
 refine (signed_any _ _ _ _ ls _ S2 (hm.at hS hF1) (by rw [hmv.out,hva.out,hvb.out,← Int.natAbs_mul];exact hfit)).mono ?_;rintro e w' ⟨z,rfl,hq3,hz⟩;simp only [];go_step;have hC:=hC.below hq3.below hq3.drawn;replace hS:=hS.pcl hF1 hO1 hp1 hq3;obtain⟨F2,hF2,-,hp2,hO2,hS⟩:=hS;refine ext_end hC ?_;refine mvs ?_;refine muL ?_
 (with_reducible refine stA 3 hS sizeOf52 fun _ hS=>?_)
 refine mut_end ?_;refine mvs ?_;refine snL ?_;go_wp2;exact ret_ct 3 hS rfl rfl rfl isAgg52 sizeOf52 rfl rfl ⟨z,S2,rfl,hp2.step hS hO2 hF2,(hz.at hS hF2).cast (by rw [hxn.out,hyn.out];exact signMul a b _ (by rw [hmv.out,hva.out,hvb.out]))⟩
end Go.Proofs
