/- Texts for the walk of the law: K12. -/
import Derived.Test.YtihpoboahbpaiaaGreatQ07
set_option maxRecDepth 100000
set_option maxHeartbeats 16000000
set_option linter.unusedVariables false
set_option linter.unusedSimpArgs false
namespace Go.Proofs
open Go.Proofs.Tryz
open Go.RowKit Go.Hp
structure DivInv (la lb lv:List Nat) (s J:Nat) (U out:List Nat):Prop where
 jle:J≤la.length - lb.length+1
 ul:U.length=la.length+1
 uw:Wd U
 ol:out.length=la.length - lb.length+1
 ow:Wd out
 z:∀ i,i<J→nth 0 out i=0
 v:val U+val out*val lv=val la*2 ^ s
 lt:val (U.drop J)<val lv
theorem DivInv.right {la lb lv U out o:List Nat} {s j d:Nat} (hI:DivInv la lb lv s (j+1) U out) (hol:o.length=U.length) (how:Wd o) (hag:∀ i,(i<j∨j+(lb.length+1)≤i)→nth 0 o i=nth 0 U i) (hvo:val o+WB ^ j*(d*val lv)=val U+WB ^ (j+(lb.length+1))*0) (hd:d<4294967296) (hX:val (U.drop j)<val lv*(d+1)):DivInv la lb lv s j o (out.set j d):=by
 have hj:=hI.jle;obtain⟨h1,h2⟩:=div_right (n:=lb.length) hol (fun i hi=>hag i (.inl hi)) (by simpa using hvo) hX hI.v (by rw [hI.ol];omega) (hI.z j (by omega));exact⟨by omega,by rw [hol,hI.ul],how,by simp [hI.ol],hI.ow.set _ (by rw [WB_eq];exact hd),fun i hi=>by rw [nth_set,if_neg (by omega)];exact hI.z i (by omega),h1,h2⟩
theorem DivInv.back {la lb lv U out o o2:List Nat} {s j d c:Nat} (hI:DivInv la lb lv s (j+1) U out) (hol:o.length=U.length) (ho2l:o2.length=o.length) (hwo:Wd o) (hwo2:Wd o2) (hag:∀ i,(i<j∨j+(lb.length+1)≤i)→nth 0 o i=nth 0 U i) (hag2:∀ i,(i<j∨j+(lb.length+1)≤i)→nth 0 o2 i=nth 0 o i)
 (hvo:val o+WB ^ j*(d*val lv)=val U+WB ^ (j+(lb.length+1))*1) (hb:val o2+WB ^ (j+(lb.length+1))*c=val o+WB ^ j*val lv) (hdw:d<4294967296) (hX:val (U.drop j)<val lv*(d+1)) (hd:d*val lv<val (U.drop j)+val lv) (hVlt:val lv<WB ^ lb.length) (hXB:val (U.drop j)<val lv*4294967296):DivInv la lb lv s j o2 (out.set j (d - 1)):=by
 have hj:=hI.jle;have hp:WB ^ (lb.length+1)=WB ^ lb.length*WB:=WBs _;have h3:val lv*WB≤WB ^ lb.length*WB:=Nat.mul_le_mul_right _ (by omega);rw [← WB_eq] at hXB;have h4:WB ^ lb.length*1≤WB ^ lb.length*WB:=Nat.mul_le_mul_left _ WB_pos;obtain⟨h0,h1,h2⟩:=div_back (n:=lb.length) hol (by omega) hag hag2 hwo hwo2 (by simpa using hvo) hb hX hd (by omega) (by omega) hI.v (by rw [hI.ol];omega) (hI.z j (by omega));exact⟨by omega,by rw [ho2l,hol,hI.ul],hwo2,by simp [hI.ol],hI.ow.set _ (by rw [WB_eq];omega),fun i hi=>by rw [nth_set,if_neg (by omega)];exact hI.z i (by omega),h1,h2⟩
theorem back_rel {w w':World} {A:List Chunk} {bu bc:Nat} {T U':TypeId} {U lv o:List Nat} {j n k cc t:Nat} (hS:Heap w w' (A++[.blk bu (.cells (wv (o.set (j+k) (t % 4294967296))).toArray T (0,0)),.blk bc (.cells #[.int .u64 ((t / 4294967296:Nat):Int)] U' (0,0))])) (hk:k<n+1) (hj:j+(n+1)≤o.length)
 (hol:o.length=U.length) (how:Wd o) (hag:∀ i,(i<j∨j+k≤i)→nth 0 o i=nth 0 U i) (hcc:cc≤1) (ht:t=cc+(nth 0 o (j+k)+nth 0 lv k)) (htb:t≤8589934591) (hv:val o+WB ^ (j+k)*cc=val U+WB ^ j*val (lv.take k)) :
 ∃ (k' cc':Nat) (o':List Nat),k'≤n+1∧Value.int .i64 ((k:Int)+1)=.int .i64 (k':Int)∧Heap w w' (A++[.blk bu (.cells (wv o').toArray T (0,0)),.blk bc (.cells #[.int .u64 (cc':Int)] U' (0,0))])∧o'.length=U.length∧Wd o'∧(∀ i,(i<j∨j+k'≤i)→nth 0 o' i=nth 0 U i)∧cc'≤1∧val o'+WB ^ (j+k')*cc'=val U+WB ^ j*val (lv.take k'):=by
 refine⟨k+1,t / 4294967296,_,by omega,rfl,hS,by simp [hol],how.set _ (by rw [WB_eq];omega),fun i hi=>?_,by omega,?_⟩
 ·rw [nth_set,if_neg (by omega)];exact hag i (by omega)
 ·have:=back_step' (o:=o) (U:=U) (v:=lv) (j:=j) (i:=k) (c:=cc) (t:=t) (by omega) (hag _ (by omega)) (by rw [ht,hag (j+k) (by omega)]) hv
  rw [WB_eq] at this ⊢;exact this
theorem divide_main (ad bd:Option Addr) (n c m d:Nat) (la lb:List Nat) (w:World) (S:Nat→Prop) (ha:Mag w S (.slice ad n c) la) (hb:Mag w S (.slice bd m d) lb) (na:Nm la) (nb:Nm lb) (hle:la.length≤2000) (hge:val lb≤val la) (h2w:2≤lb.length) :
 Calls Tryz.prog 140 #[.slice ad n c,.slice bd m d] w (DivRes w S la lb):=by
 have h1:=ha.len;have h2:=hb.len;subst h1 h2;have hll:lb.length≤la.length:=nm_len nb (Nat.lt_of_le_of_lt hge (val_lt ha.wd));obtain⟨x,hx⟩:∃ x,nth 0 lb (lb.length - 1)=x:=⟨_,rfl⟩
 have hx0:x≠0:=by
  rw [← hx]
  rcases nb with h|⟨q,y,hq,hy⟩
  ·rw [h] at h2w;simp at h2w
  ·rw [hq];simp [nth_snoc,hy]
 have hxw:x<4294967296:=by rw [← hx,← WB_eq];exact hb.wd.nth _
 obtain⟨s,hs,hs32,hsx,hsx2⟩:=shift_by hx0 hxw;have hVlt:val lb*2 ^ s<WB ^ lb.length:=shifted_lt hb.wd (by omega) (by rw [hx,WB_eq];exact hsx2);clear hsx2;replace hVlt:=Hd hVlt
 have hcd:decide (cmpZ (val la:Nat) (val lb:Nat)<0)=false:=by
  have:¬ cmpZ (val la:Nat) (val lb:Nat)<0:=by rw [cmpZ_nat,if_neg (by omega)];split <;> omega
  simp [this]
 replace hge:=Hd hge;replace hsx:=Hd hsx
 go_enter func140,ntmps140
 go_wp2
 go_step3
 go_wp2_with (first|(go_at_call 144;refine (compareW_any _ _ _ _ _ _ la lb _ S ha hb na nb).mono ?_;rintro e wb ⟨rfl,hp⟩;have ha:=ha.grow hp;have hb:=hb.grow hp;have hS:=Heap.start wb;have hbo:=hb.old;have hao:=ha.old)|((with_reducible refine g_idx (T:=50) ?_);refine seq_any rfl (any_index_mag (T:=50) underlying50 sizeOf228 rfl rfl hbo (by omega) (by omega) (fun _ _ _=>?_));simp only [NRM])|(with_reducible refine ld0 hS isAgg228 ?_)|(go_at_call 212;go_loud (refine (Tryz.bits_LeadingZeros32 _ _ (by omega) (by omega)).mono ?_;rintro e w1 ⟨rfl,hw⟩;obtain rfl:=hw.symm;clear hw;rw [Int.toNat_natCast,hs])))
 refine wp_region_sched [.p 0,.p 1,.p 3,.p 4,.p 6,.p 7,.e 2,.e 5,.p 8,.p 9,.p 10] [] (fun wZ=>Heap wb wZ _) (by kernel_rfl) (by kernel_rfl) hS.drew (fun w1 hS=>?_);refine mvs ?_;refine exL ?_
 go_wp2_with (fail)
 refine (shifted_any _ _ _ la s _ _ (hao.later hS (by simp)) hs32 hle).mono ?_;rintro e w' ⟨bu,lu,rfl,hSu,hul,huw,huv⟩;simp only [];go_step;replace hul:=Hd hul;replace huv:=Hd huv;have hS:=hS.import hSu;clear hSu;refine ext_end hS.sb ?_;refine mvs ?_;refine exL ?_
 go_wp2_with (fail)
 refine (shifted_any _ _ _ lb s _ _ (hbo.later hS (by simp)) hs32 (by omega)).mono ?_;rintro e w' ⟨bv,lv,rfl,hSv,hvl,hvw,hvv⟩;simp only [];go_step;replace hvl:=Hd hvl;replace hvv:=Hd hvv;have hS:=hS.import hSv;clear hSv;refine ext_end hS.sb ?_
 repeat (first|((with_reducible refine m_pure ?_);refine sched_any rfl rfl (any_slice_hi (T:=50) (k:=lb.length) (ad:=none) underlying50 sizeOf228 rfl rfl (by omega) (by omega) ?_);simp only [NRM])|(with_reducible refine spL ?_))
 refine snL ?_;simp only [NRH] at hS
 go_wp2_with (first|((with_reducible refine g_mks' (T:=50) ?_);refine seq_make_words (n:=la.length - lb.length+1) (T:=50) (E:=228) hS underlying50 Tryz.info228 rfl rfl (by omega) (by omega) (fun bq wbq hS=>?_);simp only [NRM];simp only [NRH] at hS))
 have hS:=hS.order [0,2,3,1] rfl;simp only [NRF] at hS;have hvl1:lv.length≤lb.length+1:=by have:=hvl.out;omega
 have hvl2:lb.length+1≤lv.length:=by have:=hvl.out;omega
 have hul1:lu.length≤la.length+1:=by have:=hul.out;omega
 have hul2:la.length+1≤lu.length:=by have:=hul.out;omega
 obtain⟨top,htop⟩:∃ top,nth 0 lv (lb.length - 1)=top:=⟨_,rfl⟩;obtain⟨nxt,hnxt⟩:∃ nxt,nth 0 lv (lb.length - 2)=nxt:=⟨_,rfl⟩;have htw:top<4294967296:=by rw [← htop,← WB_eq];exact hvw.nth _
 have hnw:nxt<4294967296:=by rw [← hnxt,← WB_eq];exact hvw.nth _
 have hw1:IntKind.i64.wrap ((lb.length:Int) - 1)=(lb.length:Int) - 1:=w6;have hw2:IntKind.i64.wrap ((lb.length:Int) - 2)=(lb.length:Int) - 2:=w6;refine wp_region_sched [.p 0,.p 1,.p 2,.p 3,.r 4,.p 5,.p 6,.p 7,.p 8,.p 9,.r 10,.p 11,.p 12,.p 13] [] (fun wZ=>Heap wb wZ _) (by kernel_rfl) (by kernel_rfl) hS.drew (fun w1 hS=>?_);have hwt:IntKind.u64.wrap (top:Int)=(top:Int):=wrapU64 (by omega);have hwn:IntKind.u64.wrap (nxt:Int)=(nxt:Int):=wrapU64 (by omega);have he1:((lb.length:Int) - 1).toNat=lb.length - 1:=by omega
 have he2:((lb.length:Int) - 2).toNat=lb.length - 2:=by omega
 repeat (first|((with_reducible refine m_pure ?_);refine sched_any rfl rfl (any_index_at (T:=50) underlying50 sizeOf228 rfl rfl (by omega) (by omega) ?_);simp only [NRM];simp only [Nat.zero_add,Int.toNat_natCast])|((with_reducible refine m_read ?_);refine sched_of rfl rfl (stp_load_word (T:=228) 1 isAgg228 rfl rfl (by first|omega) ?_);simp only [NRM])|(with_reducible refine spL ?_))
 refine snL ?_;go_wp2
 go_step3
 go_wp2
 have hvn:val (lv.take lb.length)=val lv:=val_drop0 fun i hi=>by
  have h:=high_zero (U:=lv) (j:=0) (m:=lb.length) (by rw [List.drop_zero,hvv.out];exact hVlt.out);exact h i (by omega)
 have htb:2147483648≤top:=by
  have:=top_big (lb:=lb) (lv:=lv.take lb.length) (n:=lb.length) (s:=s) (by omega) rfl hb.wd (hvw.take _) (by rw [List.length_take];omega) (by rw [hvn,hvv.out]) (by rw [hx];exact hsx.out)
  rwa [nth_take 0 lv (by omega),htop] at this
 have hI0:DivInv la lb lv s (la.length - lb.length+1) lu (List.replicate (la.length - lb.length+1) 0):=by
  refine⟨by omega,hul.out,huw,by simp,Wd.zeros _,fun i _=>nth_replicate _ _ _,by rw [val_zeros,huv.out];simp,?_⟩;rw [hvv.out]
  exact div_start (by omega) rfl hll ha.wd nb huw hul.out huv.out (by
   have h0:=val_nm nb (by intro e;rw [e] at h2w;simp at h2w);have:=WBp (lb.length - 1);omega)
 replace hvn:=Hd hvn;replace hI0:=Hd hI0;clear hul1 hul2
 go_loopw [15] (fun v wr=>∃ (J:Nat) (U out:List Nat),v=.int .i64 ((J:Int) - 1)∧Heap wb wr [.frz (Old wb) wb,.blk bv (.cells (wv lv).toArray 228 (0,0)),.blk bq (.cells (wv out).toArray 228 (0,0)),.blk bu (.cells (wv U).toArray 228 (0,0))]∧DivInv la lb lv s J U out) (fun v _=>(intOf v+1).toNat)
 case atStart=>exact⟨la.length - lb.length+1,lu,_,by congr 1;omega,hS,hI0.out⟩
 case round =>
  clear hS;obtain⟨J,U,out,rfl,hS,hI⟩:=hrel
  by_cases hJ0:J=0
  ·subst hJ0
   rw [show (((0:Nat):Int) - 1) = -1 from rfl];obtain⟨hq1,hq2⟩:=div_end (A:=val la) (b:=val lb) (q:=val out) (R:=val U) (s:=s) (by rw [← hvv.out];exact hI.v) (by have:=hI.lt;rw [List.drop_zero,hvv.out] at this;exact this);have hz:=high_zero (U:=U) (j:=0) (m:=lb.length) (by have:=hI.lt;rw [List.drop_zero] at this ⊢;rw [hvv.out] at this;exact Nat.lt_trans this hVlt.out);have hUn:nth 0 U lb.length=0:=hz _ (by omega);have hUt:val (U.take (lb.length+1))=val U:=val_drop0 fun i hi=>hz i (by omega)
   have hUl:=hI.ul;have hOl:=hI.ol;have hOw:=hI.ow;have hUw:=hI.uw;have hul1:U.length≤la.length+1:=by omega
   have hul2:la.length+1≤U.length:=by omega
   have hst:=shr_start (u:=U) (k:=s) (by omega) (List.replicate lb.length 0) (val_zeros _);replace hq1:=Hd hq1;replace hq2:=Hd hq2;replace hz:=Hd hz;replace hUn:=Hd hUn;replace hUt:=Hd hUt;replace hUl:=Hd hUl;replace hOl:=Hd hOl;replace hst:=Hd hst;replace hI:=Hd hI
   try clear hcd
   try clear hs
   try clear hx
   try clear hx0
   try clear hxw
   try clear htop
   try clear hnxt
   try clear htw
   try clear hnw
   try clear hw1
   try clear hw2
   try clear hwt
   try clear hwn
   try clear he1
   try clear he2
   try clear htb
   try clear hun
   try clear hu1
   try clear hu2
   try clear hunw
   try clear hu1w
   try clear hu2w
   try clear hw3
   try clear hw4
   try clear hw5
   try clear he3
   try clear he4
   try clear hwun
   try clear hwu1
   try clear hnumb
   try clear hd0b
   try clear hr0b
   try clear htz
   try clear htz2
   try clear htz3
   try clear hw6
   try clear hw7
   try clear hbits2
   try clear hru
   try clear hp0
   try clear hpi
   try clear hp1
   try clear hp2
   try clear hdz
   try clear hgt
   try clear hbig
   try clear hr
   try clear hd
   try clear hw9
   try clear he5
   try clear hrt
   try clear hdz2
   try clear hbz
   try clear hbr
   as_aux_lemma =>
    go_wp2_with (first|((with_reducible refine g_mks' (T:=50) ?_);refine seq_make_words (n:=lb.length) (T:=50) (E:=228) hS underlying50 Tryz.info228 rfl rfl (by omega) (by omega) (fun bo wo hS=>?_);simp only [NRM];simp only [NRH] at hS))
    go_loopw [202] (fun v wr=>∃ (k:Nat) (o:List Nat),k≤lb.length∧v=.int .i64 (k:Int)∧Heap wb wr [.frz (Old wb) wb,.blk bv (.cells (wv lv).toArray 228 (0,0)),.blk bq (.cells (wv out).toArray 228 (0,0)),.blk bu (.cells (wv U).toArray 228 (0,0)),.blk bo (.cells (wv o).toArray 228 (0,0))]∧o.length=lb.length∧Wd o∧(∀ i,k≤i→nth 0 o i=0)∧val o+WB ^ k*(nth 0 U k / 2 ^ s)=val (U.take (k+1)) / 2 ^ s) (fun v _=>lb.length - (intOf v).toNat)
    case atStart=>exact⟨0,List.replicate lb.length 0,by omega,rfl,hS,by simp,Wd.zeros _,fun i _=>nth_replicate _ _ _,hst.out⟩
    case round =>
     clear hS;obtain⟨k,o,hk,rfl,hS,hol,how,ho0,hov⟩:=hrel;have hm1:o.length≤lb.length:=by omega
     have hm2:lb.length≤o.length:=by omega
     have hk0:=hUw.nth k;have hk1:=hUw.nth (k+1);rw [WB_eq] at hk0 hk1;replace ho0:=Hd ho0;replace hov:=Hd hov;replace hol:=Hd hol
     by_cases hkn:k<lb.length
     ·have hbits:=or_u64 (x:=nth 0 U k) (y:=nth 0 U (k+1)) hk0 hk1
      obtain⟨t,ht⟩:∃ t,t=nth 0 U (k+1)*4294967296+nth 0 U k:=⟨_,rfl⟩;rw [← ht] at hbits;have htb:t<18446744073709551616:=by omega
      obtain⟨q,hq⟩:∃ q,q=t / 2 ^ s:=⟨_,rfl⟩;have hqd:(t:Int) / 2 ^ s=(q:Int):=by rw [hq];simp
      have hw0:IntKind.u64.wrap ((nth 0 U k:Nat):Int)=((nth 0 U k:Nat):Int):=wrapU64 (by omega);have hw1:IntKind.u64.wrap ((nth 0 U (k+1):Nat):Int)=((nth 0 U (k+1):Nat):Int):=wrapU64 (by omega);have hwx:IntKind.u64.wrap (((nth 0 U (k+1):Nat):Int)*4294967296)=((nth 0 U (k+1):Nat):Int)*4294967296:=by rw [IntKind.wrap_u64];omega
      have hwk:IntKind.i64.wrap ((k:Int)+1)=(k:Int)+1:=w6;have hek:((k:Int)+1).toNat=k+1:=by omega
      replace ht:=Hd ht;replace hq:=Hd hq;go_wp2;refine wp_region_sched [.p 0,.p 1,.p 2,.p 3,.p 4,.p 5,.r 6,.p 7,.p 8,.p 9,.p 10,.p 11,.r 12,.p 13,.p 14,.p 15,.p 16,.p 17,.p 18,.m 19] [19] (fun wZ=>Heap wb wZ _) (by kernel_rfl) (by kernel_rfl) hS.drew (fun w1 hS=>?_)
      repeat (first|((with_reducible refine m_pure ?_);refine sched_any rfl rfl (any_index_at (T:=50) underlying50 sizeOf228 rfl rfl (by omega) (by omega) ?_);simp only [NRM];simp only [Nat.zero_add,Int.toNat_natCast])|((with_reducible refine m_read ?_);refine sched_of rfl rfl (stp_load_word (T:=228) 3 isAgg228 rfl rfl (by first|omega) ?_);simp only [NRM])|(with_reducible refine spL ?_))
      refine muL ?_
      ((with_reducible refine g_store (T:=228) ?_);refine seq_store_word (T:=228) (v:=q % 4294967296) 4 hS rfl rfl (by first|rfl) rfl (by first|omega) sizeOf228 (fun _ hS=>?_);simp only [NRM];simp only [NRH] at hS)
      refine mut_end ?_;refine mvs ?_;refine snL ?_;go_wp2;go_roundw
      case rel =>
       refine⟨k+1,_,by omega,rfl,hS,by simp [hol.out],how.set _ (by rw [WB_eq];omega),fun i hi=>?_,?_⟩
       ·rw [nth_set,if_neg (by omega)];exact ho0.out i (by omega)
       ·have h:=shr_step (k:=s) hs32 hUw (i:=k) (o:=o) (by omega) (ho0.out k (by omega)) hov.out
        rw [WB_eq,← ht.out,← hq.out] at h;rw [WB_eq];exact h
      case measure=>simp [intOf];omega
     ·obtain rfl:k=lb.length:=by omega
      have hm1:=Mag.blk 2 hS (l:=out) rfl hOw (by rw [hOl.out];unfold maxLen;omega);have hm2:=Mag.blk 4 hS (l:=o) rfl how (by rw [hol.out];unfold maxLen;omega);rw [hOl.out] at hm1;rw [hol.out] at hm2
      go_wp2_with (fail)
      refine (normal_any _ _ _ out _ _ hm1).mono ?_;rintro e w3 ⟨rfl,rfl⟩;simp only []
      go_wp2_with (fail)
      refine (normal_any _ _ _ o _ _ hm2).mono ?_;rintro e w3 ⟨rfl,rfl⟩;simp only [];go_wp2;refine bodyPost_ret (results_tmp2 rfl _ _ _) rfl ?_;obtain⟨p1,m1,m2⟩:=Heap.magOut2 S 1 3 hS rfl rfl hOw how (by rw [hOl.out];unfold maxLen;omega) (by rw [hol.out];unfold maxLen;omega)
      have e1:val o=val U / 2 ^ s:=by
       have h:=hov.out;rw [hUn.out,hUt.out,Nat.zero_div,Nat.mul_zero,Nat.add_zero] at h;exact h
      rw [hOl.out] at m1;rw [hol.out] at m2;refine⟨_,some ⟨bq,0,none⟩,some ⟨bo,0,none⟩,_,_,trimW out,trimW o,rfl,hp.trans p1,m1.trim,m2.trim,trimW_nm _,trimW_nm _,?_,?_,?_⟩
      ·have:=trimW_le out;rw [hOl.out] at this;omega
      ·rw [trimW_val,trimW_val,e1];exact hq1.out.symm
      ·rw [trimW_val,e1];exact hq2.out
  ·obtain⟨j,rfl⟩:∃ j,J=j+1:=⟨J - 1,by omega⟩
   have hj:=hI.jle;have hul1:U.length≤la.length+1:=by have:=hI.ul;omega
   have hul2:la.length+1≤U.length:=by have:=hI.ul;omega
   have hol1:out.length≤la.length - lb.length+1:=by have:=hI.ol;omega
   have hol2:la.length - lb.length+1≤out.length:=by have:=hI.ol;omega
   obtain⟨un,hun⟩:∃ un,nth 0 U (j+lb.length)=un:=⟨_,rfl⟩;obtain⟨u1,hu1⟩:∃ un,nth 0 U (j+lb.length - 1)=un:=⟨_,rfl⟩;obtain⟨u2,hu2⟩:∃ un,nth 0 U (j+lb.length - 2)=un:=⟨_,rfl⟩;have hunw:un<4294967296:=by rw [← hun,← WB_eq];exact hI.uw.nth _
   have hu1w:u1<4294967296:=by rw [← hu1,← WB_eq];exact hI.uw.nth _
   have hu2w:u2<4294967296:=by rw [← hu2,← WB_eq];exact hI.uw.nth _
   have hbits:=or_u64 (x:=u1) (y:=un) hu1w hunw;obtain⟨num,hnum⟩:∃ num,num=un*4294967296+u1:=⟨_,rfl⟩;rw [← hnum] at hbits;replace hnum:=Hd hnum;have hw3:IntKind.i64.wrap ((j:Int)+(lb.length:Int))=(j:Int)+(lb.length:Int):=w6;have hw4:IntKind.i64.wrap ((j:Int)+(lb.length:Int) - 1)=(j:Int)+(lb.length:Int) - 1:=w6;have hw5:IntKind.u64.wrap ((un:Int)*4294967296)=(un:Int)*4294967296:=by rw [IntKind.wrap_u64];omega
   replace hI:=Hd hI;go_wp2;refine wp_region_sched [.p 0,.p 1,.p 2,.p 3,.p 4,.r 5,.p 6,.p 7,.p 8,.p 9,.p 10,.p 11,.p 12,.p 13,.r 14,.p 15,.p 16,.p 17] [] (fun wZ=>Heap wb wZ _) (by kernel_rfl) (by kernel_rfl) hS.drew (fun w1 hS=>?_);have he3:((j:Int)+(lb.length:Int)).toNat=j+lb.length:=by omega
   have he4:((j:Int)+(lb.length:Int) - 1).toNat=j+lb.length - 1:=by omega
   have hwun:IntKind.u64.wrap (un:Int)=(un:Int):=wrapU64 (by omega);have hwu1:IntKind.u64.wrap (u1:Int)=(u1:Int):=wrapU64 (by omega)
   repeat (first|((with_reducible refine m_pure ?_);refine sched_any rfl rfl (any_index_at (T:=50) underlying50 sizeOf228 rfl rfl (by omega) (by omega) ?_);simp only [NRM];simp only [Nat.zero_add,Int.toNat_natCast])|((with_reducible refine m_read ?_);refine sched_of rfl rfl (stp_load_word (T:=228) 3 isAgg228 rfl rfl (by first|omega) ?_);simp only [NRM])|(with_reducible refine spL ?_))
   refine snL ?_;go_wp2;obtain⟨d0,hd0⟩:∃ d0,d0=num / top:=⟨_,rfl⟩;obtain⟨r0,hr0⟩:∃ r0,r0=num % top:=⟨_,rfl⟩;have hnumb:num<18446744073709551616:=by have:=hnum.out;omega
   have htd:=tdiv_nat num top;have htm:=tmod_nat num top;rw [← hd0] at htd;rw [← hr0] at htm
   have hd0b:d0≤8589934592:=by
    rw [hd0];have:num / top≤num / 2147483648:=Nat.div_le_div_left htb (by omega);omega
   have hr0b:r0<top:=by rw [hr0];exact Nat.mod_lt _ (by omega)
   have hdr0:d0*top+r0=num:=by rw [hd0,hr0,Nat.mul_comm];exact Nat.div_add_mod num top
   replace hdr0:=Hd hdr0;replace hd0:=Hd hd0;replace hr0:=Hd hr0;have htz:¬ (top:Int)=0:=by omega
   have htz2:¬ top=0:=by omega
   have htz3:((top:Int) == 0)=false:=by simpa using htz2
   have hw6:IntKind.u64.wrap (d0:Int)=(d0:Int):=by rw [IntKind.wrap_u64];omega
   have hw7:IntKind.u64.wrap (r0:Int)=(r0:Int):=by rw [IntKind.wrap_u64];omega
   refine wp_region_sched [.p 0,.p 1,.p 2,.p 3,.p 4,.p 5,.p 6,.p 7] [] (fun wZ=>Heap wb wZ _) (by kernel_rfl) (by kernel_rfl) hS.drew (fun w1 hS=>?_);refine mvs ?_;refine snL ?_;go_wp2;obtain⟨X,hX⟩:∃ X,val (U.drop j)=X:=⟨_,rfl⟩;obtain⟨hXB,hest0,hfin,hmore,hbrk⟩:=est_all (U:=U) (lv:=lv.take lb.length) (j:=j) (n:=lb.length) (V:=val lv) (num:=num) hI.out.uw (hvw.take _) (by omega) (by rw [List.length_take];omega) hvn.out.symm hI.out.lt hun hu1 hu2 (by rw [nth_take 0 lv (by omega),htop]) (by rw [nth_take 0 lv (by omega),hnxt]) (by omega) (by rw [WB_eq,hnum.out]) hX;rw [← hd0.out] at hest0;rw [WB_eq] at hXB hfin hmore hbrk;clear hnum hd0 hr0 htd htm hbits;replace hfin:=Hd hfin;replace hmore:=Hd hmore;replace hbrk:=Hd hbrk;replace hest0:=Hd hest0;replace hXB:=Hd hXB;replace hX:=Hd hX
   go_loopw [17,18] (fun dv rv wr=>∃ (d r:Nat),dv=.int .u64 (d:Int)∧rv=.int .u64 (r:Int)∧Heap wb wr [.frz (Old wb) wb,.blk bv (.cells (wv lv).toArray 228 (0,0)),.blk bq (.cells (wv out).toArray 228 (0,0)),.blk bu (.cells (wv U).toArray 228 (0,0))]∧d*top+r=num∧X<val lv*(d+1)∧r<4294967296∧d≤8589934592) (fun v _ _=>(intOf v).toNat)
   case atStart=>exact⟨d0,r0,rfl,rfl,hS,hdr0.out,hest0.out,by omega,hd0b⟩
   case round =>
    clear hS;obtain⟨d,r,rfl,rfl,hS,hdr,hXd,hr,hd⟩:=hrel;replace hdr:=Hd hdr;replace hXd:=Hd hXd;have hw9:IntKind.i64.wrap ((j:Int)+(lb.length:Int) - 2)=(j:Int)+(lb.length:Int) - 2:=w6;have he5:((j:Int)+(lb.length:Int) - 2).toNat=j+lb.length - 2:=by omega
    by_cases hbig:4294967296≤d
    ·obtain⟨e,rfl⟩:∃ e,d=e+1:=⟨d - 1,by omega⟩
     have hX2:=Hd (show X<val lv*(e+1) from Nat.lt_of_lt_of_le hXB.out (Nat.mul_le_mul_left _ hbig));have her:=Hd (show e*top+(r+top)=num by have h1:=hdr.out;rw [Nat.add_mul] at h1;omega);have hdz:0<((e:Int)+1) / 4294967296:=by omega
     by_cases hbr:4294967296≤r+top
     ·obtain⟨g1,g2⟩:=hbrk.out e (r+top) her.out hbr
      have hdV:=Hd (hfin.out e (r+top) her.out g1 g2);clear g2;have hbz:0<((r:Int)+(top:Int)) / 4294967296:=by omega
      as_aux_lemma =>
       have hdw0:e<4294967296:=g1
       go_wp2_with (first|((with_reducible refine g_idx (T:=50) ?_);refine seq_any rfl (any_index_at (T:=50) underlying50 sizeOf228 rfl rfl (by omega) (by omega) ?_);simp only [NRM];simp only [Nat.zero_add,Int.toNat_natCast])|((with_reducible refine g_store (T:=228) ?_);refine seq_store_word (T:=228) (v:=e) 2 hS rfl rfl (by omega) rfl (by first|omega) sizeOf228 (fun _ hS=>?_);simp only [NRM];simp only [NRH] at hS)|((with_reducible refine g_slice (T:=50) ?_);refine seq_any rfl (any_slice_lh (T:=50) (j:=j) (k:=j+(lb.length+1)) (ad:=none) underlying50 sizeOf228 rfl rfl rfl (by omega) (by omega) (by omega) (by omega) ?_);simp only [NRM];simp only [Nat.add_sub_cancel_left,Nat.zero_add]))
       have hvm:=Mag.blk 1 hS (l:=lv) rfl hvw (by simp [maxLen];omega);rw [hvl.out] at hvm;replace hvm:=hvm.cut (k:=lb.length) (by omega);have hvm2:=hvm.weaken (fun k hk=>hS.rest (A:=[.frz (Old wb) wb,.blk bv (.cells (wv lv).toArray 228 (0,0)),.blk bq (.cells (wv (out.set j (e))).toArray 228 (0,0))]) (c:=.blk bv (.cells (wv lv).toArray 228 (0,0))) (by simp) hk);have hsp:=Heap.split (A:=[.frz (Old wb) wb,.blk bv (.cells (wv lv).toArray 228 (0,0)),.blk bq (.cells (wv (out.set j (e))).toArray 228 (0,0))]) hS;refine (take_any bu j (lb.length+1) _ _ _ _ (e) U (lv.take lb.length) _ _ _ hsp hvm2 (by rw [List.length_take];omega) (by omega) hI.out.uw (by omega) hdw0).mono ?_;rintro e w2 ⟨o,bw,rfl,hSt,hol,how,hag,hbw,hvo⟩
       try clear hcd
       try clear hs
       try clear hx
       try clear hx0
       try clear hxw
       try clear htop
       try clear hnxt
       try clear htw
       try clear hnw
       try clear hw1
       try clear hw2
       try clear hwt
       try clear hwn
       try clear he1
       try clear he2
       try clear htb
       try clear hun
       try clear hu1
       try clear hu2
       try clear hunw
       try clear hu1w
       try clear hu2w
       try clear hw3
       try clear hw4
       try clear hw5
       try clear he3
       try clear he4
       try clear hwun
       try clear hwu1
       try clear hnumb
       try clear hd0b
       try clear hr0b
       try clear htz
       try clear htz2
       try clear htz3
       try clear hw6
       try clear hw7
       try clear hbits2
       try clear hru
       try clear hp0
       try clear hpi
       try clear hp1
       try clear hp2
       try clear hdz
       try clear hgt
       try clear hbig
       try clear hr
       try clear hd
       try clear hw9
       try clear he5
       try clear hrt
       try clear hdz2
       try clear hbz
       try clear hbr
       have hS2:=hS.unsplit (A:=[.frz (Old wb) wb,.blk bv (.cells (wv lv).toArray 228 (0,0)),.blk bq (.cells (wv (out.set j (e))).toArray 228 (0,0))]) (B':=[.blk bu (.cells (wv o).toArray 228 (0,0))]) hSt;clear hS hSt hsp hvm hvm2;have hS:=hS2;clear hS2;simp only [NRH] at hS;rw [hvn.out] at hvo;have hoo1:o.length≤la.length+1:=by omega
       have hoo2:la.length+1≤o.length:=by omega
       replace hol:=Hd hol;replace hag:=Hd hag
       by_cases hb0:bw=0
       ·subst hb0
        replace hvo:=Hd hvo;go_wp2;go_roundw
        case rel=>exact⟨j,o,_,rfl,hS,hI.out.right hol.out how hag.out hvo.out (by omega) (by rw [hX.out];exact hX2.out)⟩
        case measure=>simp [intOf]
       ·obtain rfl:bw=1:=by omega
        have hVl:val lv<WB ^ lb.length:=by rw [hvv.out];exact hVlt.out
        have hXW:val (U.drop j)<WB ^ (lb.length+1):=by
         rw [hX.out,WBs];have h1:=hXB.out;rw [← WB_eq] at h1;have h2:val lv*WB≤WB ^ lb.length*WB:=Nat.mul_le_mul_right _ (by omega);omega
        have hd1:1≤e:=div_pos (n:=lb.length) hol.out hag.out how hXW (by simpa using hvo);have hset:nth 0 (out.set j (e)) j=e:=by rw [nth_set,if_pos ⟨rfl,by omega⟩]
        replace hvo:=Hd hvo;replace hVl:=Hd hVl;replace hXW:=Hd hXW
        go_wp2_with (first|((with_reducible refine g_idx (T:=50) ?_);refine seq_any rfl (any_index_at (T:=50) underlying50 sizeOf228 rfl rfl (by omega) (by omega) ?_);simp only [NRM];simp only [Nat.zero_add,Int.toNat_natCast])|((with_reducible refine g_load (T:=228) ?_);refine seq_of hS rfl (stp_load_word (T:=228) 2 isAgg228 rfl rfl (by first|(simp only [List.length_set];omega)) ?_);simp only [NRM])|((with_reducible refine g_store (T:=228) ?_);refine seq_store_word (T:=228) (v:=e - 1) 2 hS rfl rfl (by omega) rfl (by first|(simp only [List.length_set];omega)) sizeOf228 (fun _ hS=>?_);simp only [NRM];simp only [NRH] at hS)|(with_reducible refine alA hS zeroValue217 fun bc wbc hS=>?_)|((with_reducible refine g_slice (T:=50) ?_);refine seq_any rfl (any_slice_lh (T:=50) (j:=j) (k:=j+(lb.length+1)) (ad:=none) underlying50 sizeOf228 rfl rfl rfl (by omega) (by omega) (by omega) (by omega) ?_);simp only [NRM];simp only [Nat.add_sub_cancel_left,Nat.zero_add])|go_in)
        rw [List.set_set] at hS;clear hset
        go_loopw [170] (fun v wr=>∃ (k cc:Nat) (o2:List Nat),k≤lb.length+1∧v=.int .i64 (k:Int)∧Heap wb wr ([.frz (Old wb) wb,.blk bv (.cells (wv lv).toArray 228 (0,0)),.blk bq (.cells (wv (out.set j (e - 1))).toArray 228 (0,0))]++[.blk bu (.cells (wv o2).toArray 228 (0,0)),.blk bc (.cells #[.int .u64 (cc:Int)] 217 (0,0))])∧o2.length=o.length∧Wd o2∧(∀ i,(i<j∨j+k≤i)→nth 0 o2 i=nth 0 o i)∧cc≤1∧val o2+WB ^ (j+k)*cc=val o+WB ^ j*val ((lv.take lb.length).take k)) (fun v _=>lb.length+1 - (intOf v).toNat)
        case atStart=>exact⟨0,0,o,by omega,rfl,hS,rfl,how,fun _ _=>rfl,by omega,by simp [val]⟩
        case round =>
         clear hS;obtain⟨k,cc,o2,hk,rfl,hS,ho2l,how2,hag2,hcc,hv2⟩:=hrel;simp only [NRH] at hS;have hp1:o2.length≤la.length+1:=by omega
         have hp2:la.length+1≤o2.length:=by omega
         have hok:=how2.nth (j+k);have hlk:=hvw.nth k;rw [WB_eq] at hok hlk;replace ho2l:=Hd ho2l;replace hag2:=Hd hag2;replace hv2:=Hd hv2;have he6:((j:Int)+(k:Int)).toNat=j+k:=by omega
         by_cases hk1:k<lb.length
         ·have hlk2:=Hd (nth_take 0 lv hk1)
          go_wp2_with (first|((with_reducible refine g_idx (T:=50) ?_);refine seq_any rfl (any_index_at (T:=50) underlying50 sizeOf228 rfl rfl (by omega) (by omega) ?_);simp only [NRM];simp only [Nat.zero_add,Int.toNat_natCast])|((with_reducible refine g_load (T:=228) ?_);refine seq_of hS rfl (stp_load_word (T:=228) 1 isAgg228 rfl rfl (by first|omega) ?_);simp only [NRM])|((with_reducible refine g_load (T:=228) ?_);refine seq_of hS rfl (stp_load_word (T:=228) 3 isAgg228 rfl rfl (by first|omega) ?_);simp only [NRM])|(with_reducible first|refine ldB 4 hS isAgg217 ?_|refine stA 4 hS sizeOf217 fun _ hS=>?_)|((with_reducible refine g_store (T:=228) ?_);refine seq_store_word (T:=228) (v:=(cc+(nth 0 o2 (j+k)+nth 0 lv k)) % 4294967296) 3 hS rfl rfl (by omega) rfl (by first|omega) sizeOf228 (fun _ hS=>?_);simp only [NRM];simp only [NRH] at hS)|go_in)
          have e:((cc:Int)+((nth 0 o2 (j+k):Nat)+(nth 0 lv k:Nat))) / 4294967296=(((cc+(nth 0 o2 (j+k)+nth 0 lv k)) / 4294967296:Nat):Int):=by omega
          simp only [he6] at hS;rw [e] at hS;go_roundw
          case rel=>exact back_rel (A:=[_,_,_]) hS (by omega) (by omega) ho2l.out how2 hag2.out hcc (by rw [hlk2.out]) (by omega) hv2.out
          case measure=>simp [intOf];omega
         ·by_cases hk2:k<lb.length+1
          ·have hz:=Hd (nth_out 0 (lv.take lb.length) k (by rw [List.length_take];omega))
           go_wp2_with (first|((with_reducible refine g_idx (T:=50) ?_);refine seq_any rfl (any_index_at (T:=50) underlying50 sizeOf228 rfl rfl (by omega) (by omega) ?_);simp only [NRM];simp only [Nat.zero_add,Int.toNat_natCast])|((with_reducible refine g_load (T:=228) ?_);refine seq_of hS rfl (stp_load_word (T:=228) 3 isAgg228 rfl rfl (by first|omega) ?_);simp only [NRM])|(with_reducible first|refine ldB 4 hS isAgg217 ?_|refine stA 4 hS sizeOf217 fun _ hS=>?_)|((with_reducible refine g_store (T:=228) ?_);refine seq_store_word (T:=228) (v:=(cc+nth 0 o2 (j+k)) % 4294967296) 3 hS rfl rfl (by omega) rfl (by first|omega) sizeOf228 (fun _ hS=>?_);simp only [NRM];simp only [NRH] at hS)|go_in)
           have e:((cc:Int)+(nth 0 o2 (j+k):Nat)) / 4294967296=(((cc+nth 0 o2 (j+k)) / 4294967296:Nat):Int):=by omega
           simp only [he6] at hS;rw [e] at hS;go_roundw
           case rel=>exact back_rel (A:=[_,_,_]) hS (by omega) (by omega) ho2l.out how2 hag2.out hcc (by rw [hz.out];omega) (by omega) hv2.out
           case measure=>simp [intOf];omega
          ·obtain rfl:k=lb.length+1:=by omega
           have hv3:=hv2.out;rw [val_take_all (by rw [List.length_take];omega),hvn.out] at hv3;replace hv3:=Hd hv3;go_wp2;go_roundw
           case rel=>exact⟨j,o2,_,rfl,hS.sb,hI.out.back hol.out ho2l.out how how2 hag.out hag2.out hvo.out hv3.out (by omega) (by rw [hX.out];exact hX2.out) (by rw [hX.out];exact hdV.out) hVl.out (by rw [hX.out];exact hXB.out)⟩
           case measure=>simp [intOf]
     ·have hbz:((r:Int)+(top:Int)) / 4294967296=0:=by omega
      go_wp2_with (first|((with_reducible refine g_idx (T:=50) ?_);refine seq_any rfl (any_index_at (T:=50) underlying50 sizeOf228 rfl rfl (by omega) (by omega) ?_);simp only [NRM];simp only [Nat.zero_add,Int.toNat_natCast])|((with_reducible refine g_load (T:=228) ?_);refine seq_of hS rfl (stp_load_word (T:=228) 3 isAgg228 rfl rfl (by first|omega|(simp only [List.length_set];omega)) ?_);simp only [NRM]))
      go_roundw
      case rel=>exact⟨e,r+top,rfl,by rw [Int.natCast_add],hS,her.out,hX2.out,by omega,by omega⟩
      case measure=>simp [intOf]
    ·by_cases hgt:r*4294967296+u2<d*nxt
     ·have hX1:=hmore.out d r hdr.out hgt
      have hd1:1≤d:=by
       rcases Nat.eq_zero_or_pos d with h0|h0
       ·subst h0;simp at hX1
       ·exact h0
      obtain⟨e,rfl⟩:∃ e,d=e+1:=⟨d - 1,by omega⟩;have hX2:=Hd hX1;clear hX1;have her:=Hd (show e*top+(r+top)=num by have h1:=hdr.out;rw [Nat.add_mul] at h1;omega);have hbits2:=or_u64 (x:=u2) (y:=r) hu2w hr;obtain⟨ru,hru⟩:∃ ru,ru=r*4294967296+u2:=⟨_,rfl⟩;obtain⟨p,hp0⟩:∃ p,p=(e+1)*nxt:=⟨_,rfl⟩;obtain⟨hp1,hp2⟩:=prod_le (a:=e+1) (b:=nxt) (by omega) hnw;have hpi:((e:Int)+1)*(nxt:Int)=(p:Int):=by rw [hp0,Int.natCast_mul];rfl
      have hpb:p<18446744073709551616:=by rw [← hpi] at *;omega
      rw [← hru] at hbits2 hgt;rw [← hp0] at hgt;clear hp1 hp2;replace hru:=Hd hru;replace hp0:=Hd hp0;have hdz:((e:Int)+1) / 4294967296=0:=by omega
      have hrw:IntKind.u64.wrap (p:Int)=(p:Int):=wrapU64 hpb
      by_cases hbr:4294967296≤r+top
      ·obtain⟨g1,g2⟩:=hbrk.out e (r+top) her.out hbr
       have hdV:=Hd (hfin.out e (r+top) her.out g1 g2);clear g2;have hbz:0<((r:Int)+(top:Int)) / 4294967296:=by omega
       as_aux_lemma =>
        have hdw0:e<4294967296:=g1
        go_wp2_with (first|((with_reducible refine g_idx (T:=50) ?_);refine seq_any rfl (any_index_at (T:=50) underlying50 sizeOf228 rfl rfl (by omega) (by omega) ?_);simp only [NRM];simp only [Nat.zero_add,Int.toNat_natCast])|((with_reducible refine g_load (T:=228) ?_);refine seq_of hS rfl (stp_load_word (T:=228) 3 isAgg228 rfl rfl (by first|omega) ?_);simp only [NRM])|((with_reducible refine g_store (T:=228) ?_);refine seq_store_word (T:=228) (v:=e) 2 hS rfl rfl (by omega) rfl (by first|omega) sizeOf228 (fun _ hS=>?_);simp only [NRM];simp only [NRH] at hS)|((with_reducible refine g_slice (T:=50) ?_);refine seq_any rfl (any_slice_lh (T:=50) (j:=j) (k:=j+(lb.length+1)) (ad:=none) underlying50 sizeOf228 rfl rfl rfl (by omega) (by omega) (by omega) (by omega) ?_);simp only [NRM];simp only [Nat.add_sub_cancel_left,Nat.zero_add]))
        have hvm:=Mag.blk 1 hS (l:=lv) rfl hvw (by simp [maxLen];omega);rw [hvl.out] at hvm;replace hvm:=hvm.cut (k:=lb.length) (by omega);have hvm2:=hvm.weaken (fun k hk=>hS.rest (A:=[.frz (Old wb) wb,.blk bv (.cells (wv lv).toArray 228 (0,0)),.blk bq (.cells (wv (out.set j (e))).toArray 228 (0,0))]) (c:=.blk bv (.cells (wv lv).toArray 228 (0,0))) (by simp) hk);have hsp:=Heap.split (A:=[.frz (Old wb) wb,.blk bv (.cells (wv lv).toArray 228 (0,0)),.blk bq (.cells (wv (out.set j (e))).toArray 228 (0,0))]) hS;refine (take_any bu j (lb.length+1) _ _ _ _ (e) U (lv.take lb.length) _ _ _ hsp hvm2 (by rw [List.length_take];omega) (by omega) hI.out.uw (by omega) hdw0).mono ?_;rintro e w2 ⟨o,bw,rfl,hSt,hol,how,hag,hbw,hvo⟩
        try clear hcd
        try clear hs
        try clear hx
        try clear hx0
        try clear hxw
        try clear htop
        try clear hnxt
        try clear htw
        try clear hnw
        try clear hw1
        try clear hw2
        try clear hwt
        try clear hwn
        try clear he1
        try clear he2
        try clear htb
        try clear hun
        try clear hu1
        try clear hu2
        try clear hunw
        try clear hu1w
        try clear hu2w
        try clear hw3
        try clear hw4
        try clear hw5
        try clear he3
        try clear he4
        try clear hwun
        try clear hwu1
        try clear hnumb
        try clear hd0b
        try clear hr0b
        try clear htz
        try clear htz2
        try clear htz3
        try clear hw6
        try clear hw7
        try clear hbits2
        try clear hru
        try clear hp0
        try clear hpi
        try clear hp1
        try clear hp2
        try clear hdz
        try clear hgt
        try clear hbig
        try clear hr
        try clear hd
        try clear hw9
        try clear he5
        try clear hrt
        try clear hdz2
        try clear hbz
        try clear hbr
        have hS2:=hS.unsplit (A:=[.frz (Old wb) wb,.blk bv (.cells (wv lv).toArray 228 (0,0)),.blk bq (.cells (wv (out.set j (e))).toArray 228 (0,0))]) (B':=[.blk bu (.cells (wv o).toArray 228 (0,0))]) hSt;clear hS hSt hsp hvm hvm2;have hS:=hS2;clear hS2;simp only [NRH] at hS;rw [hvn.out] at hvo;have hoo1:o.length≤la.length+1:=by omega
        have hoo2:la.length+1≤o.length:=by omega
        replace hol:=Hd hol;replace hag:=Hd hag
        by_cases hb0:bw=0
        ·subst hb0
         replace hvo:=Hd hvo;go_wp2;go_roundw
         case rel=>exact⟨j,o,_,rfl,hS,hI.out.right hol.out how hag.out hvo.out (by omega) (by rw [hX.out];exact hX2.out)⟩
         case measure=>simp [intOf]
        ·obtain rfl:bw=1:=by omega
         have hVl:val lv<WB ^ lb.length:=by rw [hvv.out];exact hVlt.out
         have hXW:val (U.drop j)<WB ^ (lb.length+1):=by
          rw [hX.out,WBs];have h1:=hXB.out;rw [← WB_eq] at h1;have h2:val lv*WB≤WB ^ lb.length*WB:=Nat.mul_le_mul_right _ (by omega);omega
         have hd1:1≤e:=div_pos (n:=lb.length) hol.out hag.out how hXW (by simpa using hvo);have hset:nth 0 (out.set j (e)) j=e:=by rw [nth_set,if_pos ⟨rfl,by omega⟩]
         replace hvo:=Hd hvo;replace hVl:=Hd hVl;replace hXW:=Hd hXW
         go_wp2_with (first|((with_reducible refine g_idx (T:=50) ?_);refine seq_any rfl (any_index_at (T:=50) underlying50 sizeOf228 rfl rfl (by omega) (by omega) ?_);simp only [NRM];simp only [Nat.zero_add,Int.toNat_natCast])|((with_reducible refine g_load (T:=228) ?_);refine seq_of hS rfl (stp_load_word (T:=228) 2 isAgg228 rfl rfl (by first|(simp only [List.length_set];omega)) ?_);simp only [NRM])|((with_reducible refine g_store (T:=228) ?_);refine seq_store_word (T:=228) (v:=e - 1) 2 hS rfl rfl (by omega) rfl (by first|(simp only [List.length_set];omega)) sizeOf228 (fun _ hS=>?_);simp only [NRM];simp only [NRH] at hS)|(with_reducible refine alA hS zeroValue217 fun bc wbc hS=>?_)|((with_reducible refine g_slice (T:=50) ?_);refine seq_any rfl (any_slice_lh (T:=50) (j:=j) (k:=j+(lb.length+1)) (ad:=none) underlying50 sizeOf228 rfl rfl rfl (by omega) (by omega) (by omega) (by omega) ?_);simp only [NRM];simp only [Nat.add_sub_cancel_left,Nat.zero_add])|go_in)
         rw [List.set_set] at hS;clear hset
         go_loopw [170] (fun v wr=>∃ (k cc:Nat) (o2:List Nat),k≤lb.length+1∧v=.int .i64 (k:Int)∧Heap wb wr ([.frz (Old wb) wb,.blk bv (.cells (wv lv).toArray 228 (0,0)),.blk bq (.cells (wv (out.set j (e - 1))).toArray 228 (0,0))]++[.blk bu (.cells (wv o2).toArray 228 (0,0)),.blk bc (.cells #[.int .u64 (cc:Int)] 217 (0,0))])∧o2.length=o.length∧Wd o2∧(∀ i,(i<j∨j+k≤i)→nth 0 o2 i=nth 0 o i)∧cc≤1∧val o2+WB ^ (j+k)*cc=val o+WB ^ j*val ((lv.take lb.length).take k)) (fun v _=>lb.length+1 - (intOf v).toNat)
         case atStart=>exact⟨0,0,o,by omega,rfl,hS,rfl,how,fun _ _=>rfl,by omega,by simp [val]⟩
         case round =>
          clear hS;obtain⟨k,cc,o2,hk,rfl,hS,ho2l,how2,hag2,hcc,hv2⟩:=hrel;simp only [NRH] at hS;have hp1:o2.length≤la.length+1:=by omega
          have hp2:la.length+1≤o2.length:=by omega
          have hok:=how2.nth (j+k);have hlk:=hvw.nth k;rw [WB_eq] at hok hlk;replace ho2l:=Hd ho2l;replace hag2:=Hd hag2;replace hv2:=Hd hv2;have he6:((j:Int)+(k:Int)).toNat=j+k:=by omega
          by_cases hk1:k<lb.length
          ·have hlk2:=Hd (nth_take 0 lv hk1)
           go_wp2_with (first|((with_reducible refine g_idx (T:=50) ?_);refine seq_any rfl (any_index_at (T:=50) underlying50 sizeOf228 rfl rfl (by omega) (by omega) ?_);simp only [NRM];simp only [Nat.zero_add,Int.toNat_natCast])|((with_reducible refine g_load (T:=228) ?_);refine seq_of hS rfl (stp_load_word (T:=228) 1 isAgg228 rfl rfl (by first|omega) ?_);simp only [NRM])|((with_reducible refine g_load (T:=228) ?_);refine seq_of hS rfl (stp_load_word (T:=228) 3 isAgg228 rfl rfl (by first|omega) ?_);simp only [NRM])|(with_reducible first|refine ldB 4 hS isAgg217 ?_|refine stA 4 hS sizeOf217 fun _ hS=>?_)|((with_reducible refine g_store (T:=228) ?_);refine seq_store_word (T:=228) (v:=(cc+(nth 0 o2 (j+k)+nth 0 lv k)) % 4294967296) 3 hS rfl rfl (by omega) rfl (by first|omega) sizeOf228 (fun _ hS=>?_);simp only [NRM];simp only [NRH] at hS)|go_in)
           have e:((cc:Int)+((nth 0 o2 (j+k):Nat)+(nth 0 lv k:Nat))) / 4294967296=(((cc+(nth 0 o2 (j+k)+nth 0 lv k)) / 4294967296:Nat):Int):=by omega
           simp only [he6] at hS;rw [e] at hS;go_roundw
           case rel=>exact back_rel (A:=[_,_,_]) hS (by omega) (by omega) ho2l.out how2 hag2.out hcc (by rw [hlk2.out]) (by omega) hv2.out
           case measure=>simp [intOf];omega
          ·by_cases hk2:k<lb.length+1
           ·have hz:=Hd (nth_out 0 (lv.take lb.length) k (by rw [List.length_take];omega))
            go_wp2_with (first|((with_reducible refine g_idx (T:=50) ?_);refine seq_any rfl (any_index_at (T:=50) underlying50 sizeOf228 rfl rfl (by omega) (by omega) ?_);simp only [NRM];simp only [Nat.zero_add,Int.toNat_natCast])|((with_reducible refine g_load (T:=228) ?_);refine seq_of hS rfl (stp_load_word (T:=228) 3 isAgg228 rfl rfl (by first|omega) ?_);simp only [NRM])|(with_reducible first|refine ldB 4 hS isAgg217 ?_|refine stA 4 hS sizeOf217 fun _ hS=>?_)|((with_reducible refine g_store (T:=228) ?_);refine seq_store_word (T:=228) (v:=(cc+nth 0 o2 (j+k)) % 4294967296) 3 hS rfl rfl (by omega) rfl (by first|omega) sizeOf228 (fun _ hS=>?_);simp only [NRM];simp only [NRH] at hS)|go_in)
            have e:((cc:Int)+(nth 0 o2 (j+k):Nat)) / 4294967296=(((cc+nth 0 o2 (j+k)) / 4294967296:Nat):Int):=by omega
            simp only [he6] at hS;rw [e] at hS;go_roundw
            case rel=>exact back_rel (A:=[_,_,_]) hS (by omega) (by omega) ho2l.out how2 hag2.out hcc (by rw [hz.out];omega) (by omega) hv2.out
            case measure=>simp [intOf];omega
           ·obtain rfl:k=lb.length+1:=by omega
            have hv3:=hv2.out;rw [val_take_all (by rw [List.length_take];omega),hvn.out] at hv3;replace hv3:=Hd hv3;go_wp2;go_roundw
            case rel=>exact⟨j,o2,_,rfl,hS.sb,hI.out.back hol.out ho2l.out how how2 hag.out hag2.out hvo.out hv3.out (by omega) (by rw [hX.out];exact hX2.out) (by rw [hX.out];exact hdV.out) hVl.out (by rw [hX.out];exact hXB.out)⟩
            case measure=>simp [intOf]
      ·have hbz:((r:Int)+(top:Int)) / 4294967296=0:=by omega
       go_wp2_with (first|((with_reducible refine g_idx (T:=50) ?_);refine seq_any rfl (any_index_at (T:=50) underlying50 sizeOf228 rfl rfl (by omega) (by omega) ?_);simp only [NRM];simp only [Nat.zero_add,Int.toNat_natCast])|((with_reducible refine g_load (T:=228) ?_);refine seq_of hS rfl (stp_load_word (T:=228) 3 isAgg228 rfl rfl (by first|omega) ?_);simp only [NRM]))
       go_roundw
       case rel=>exact⟨e,r+top,rfl,by rw [Int.natCast_add],hS,her.out,hX2.out,by omega,by omega⟩
       case measure=>simp [intOf]
     ·have hdV:=Hd (hfin.out d r hdr.out (by omega) (by omega))
      have hbits2:=or_u64 (x:=u2) (y:=r) hu2w hr;obtain⟨ru,hru⟩:∃ ru,ru=r*4294967296+u2:=⟨_,rfl⟩;obtain⟨p,hp0⟩:∃ p,p=d*nxt:=⟨_,rfl⟩;obtain⟨hp1,hp2⟩:=prod_le (a:=d) (b:=nxt) (by omega) hnw;have hpi:(d:Int)*(nxt:Int)=(p:Int):=by rw [hp0];exact (Int.natCast_mul _ _).symm
      rw [← hru] at hbits2 hgt;rw [← hp0] at hgt;replace hru:=Hd hru;replace hp0:=Hd hp0;have hdz:(d:Int) / 4294967296=0:=by omega
      as_aux_lemma =>
       have hdw0:d<4294967296:=(by omega)
       go_wp2_with (first|((with_reducible refine g_idx (T:=50) ?_);refine seq_any rfl (any_index_at (T:=50) underlying50 sizeOf228 rfl rfl (by omega) (by omega) ?_);simp only [NRM];simp only [Nat.zero_add,Int.toNat_natCast])|((with_reducible refine g_load (T:=228) ?_);refine seq_of hS rfl (stp_load_word (T:=228) 3 isAgg228 rfl rfl (by first|omega) ?_);simp only [NRM])|((with_reducible refine g_store (T:=228) ?_);refine seq_store_word (T:=228) (v:=d) 2 hS rfl rfl (by omega) rfl (by first|omega) sizeOf228 (fun _ hS=>?_);simp only [NRM];simp only [NRH] at hS)|((with_reducible refine g_slice (T:=50) ?_);refine seq_any rfl (any_slice_lh (T:=50) (j:=j) (k:=j+(lb.length+1)) (ad:=none) underlying50 sizeOf228 rfl rfl rfl (by omega) (by omega) (by omega) (by omega) ?_);simp only [NRM];simp only [Nat.add_sub_cancel_left,Nat.zero_add]))
       have hvm:=Mag.blk 1 hS (l:=lv) rfl hvw (by simp [maxLen];omega);rw [hvl.out] at hvm;replace hvm:=hvm.cut (k:=lb.length) (by omega);have hvm2:=hvm.weaken (fun k hk=>hS.rest (A:=[.frz (Old wb) wb,.blk bv (.cells (wv lv).toArray 228 (0,0)),.blk bq (.cells (wv (out.set j (d))).toArray 228 (0,0))]) (c:=.blk bv (.cells (wv lv).toArray 228 (0,0))) (by simp) hk);have hsp:=Heap.split (A:=[.frz (Old wb) wb,.blk bv (.cells (wv lv).toArray 228 (0,0)),.blk bq (.cells (wv (out.set j (d))).toArray 228 (0,0))]) hS;refine (take_any bu j (lb.length+1) _ _ _ _ (d) U (lv.take lb.length) _ _ _ hsp hvm2 (by rw [List.length_take];omega) (by omega) hI.out.uw (by omega) hdw0).mono ?_;rintro e w2 ⟨o,bw,rfl,hSt,hol,how,hag,hbw,hvo⟩
       try clear hcd
       try clear hs
       try clear hx
       try clear hx0
       try clear hxw
       try clear htop
       try clear hnxt
       try clear htw
       try clear hnw
       try clear hw1
       try clear hw2
       try clear hwt
       try clear hwn
       try clear he1
       try clear he2
       try clear htb
       try clear hun
       try clear hu1
       try clear hu2
       try clear hunw
       try clear hu1w
       try clear hu2w
       try clear hw3
       try clear hw4
       try clear hw5
       try clear he3
       try clear he4
       try clear hwun
       try clear hwu1
       try clear hnumb
       try clear hd0b
       try clear hr0b
       try clear htz
       try clear htz2
       try clear htz3
       try clear hw6
       try clear hw7
       try clear hbits2
       try clear hru
       try clear hp0
       try clear hpi
       try clear hp1
       try clear hp2
       try clear hdz
       try clear hgt
       try clear hbig
       try clear hr
       try clear hd
       try clear hw9
       try clear he5
       try clear hrt
       try clear hdz2
       try clear hbz
       try clear hbr
       have hS2:=hS.unsplit (A:=[.frz (Old wb) wb,.blk bv (.cells (wv lv).toArray 228 (0,0)),.blk bq (.cells (wv (out.set j (d))).toArray 228 (0,0))]) (B':=[.blk bu (.cells (wv o).toArray 228 (0,0))]) hSt;clear hS hSt hsp hvm hvm2;have hS:=hS2;clear hS2;simp only [NRH] at hS;rw [hvn.out] at hvo;have hoo1:o.length≤la.length+1:=by omega
       have hoo2:la.length+1≤o.length:=by omega
       replace hol:=Hd hol;replace hag:=Hd hag
       by_cases hb0:bw=0
       ·subst hb0
        replace hvo:=Hd hvo;go_wp2;go_roundw
        case rel=>exact⟨j,o,_,rfl,hS,hI.out.right hol.out how hag.out hvo.out (by omega) (by rw [hX.out];exact hXd.out)⟩
        case measure=>simp [intOf]
       ·obtain rfl:bw=1:=by omega
        have hVl:val lv<WB ^ lb.length:=by rw [hvv.out];exact hVlt.out
        have hXW:val (U.drop j)<WB ^ (lb.length+1):=by
         rw [hX.out,WBs];have h1:=hXB.out;rw [← WB_eq] at h1;have h2:val lv*WB≤WB ^ lb.length*WB:=Nat.mul_le_mul_right _ (by omega);omega
        have hd1:1≤d:=div_pos (n:=lb.length) hol.out hag.out how hXW (by simpa using hvo);have hset:nth 0 (out.set j (d)) j=d:=by rw [nth_set,if_pos ⟨rfl,by omega⟩]
        replace hvo:=Hd hvo;replace hVl:=Hd hVl;replace hXW:=Hd hXW
        go_wp2_with (first|((with_reducible refine g_idx (T:=50) ?_);refine seq_any rfl (any_index_at (T:=50) underlying50 sizeOf228 rfl rfl (by omega) (by omega) ?_);simp only [NRM];simp only [Nat.zero_add,Int.toNat_natCast])|((with_reducible refine g_load (T:=228) ?_);refine seq_of hS rfl (stp_load_word (T:=228) 2 isAgg228 rfl rfl (by first|(simp only [List.length_set];omega)) ?_);simp only [NRM])|((with_reducible refine g_store (T:=228) ?_);refine seq_store_word (T:=228) (v:=d - 1) 2 hS rfl rfl (by omega) rfl (by first|(simp only [List.length_set];omega)) sizeOf228 (fun _ hS=>?_);simp only [NRM];simp only [NRH] at hS)|(with_reducible refine alA hS zeroValue217 fun bc wbc hS=>?_)|((with_reducible refine g_slice (T:=50) ?_);refine seq_any rfl (any_slice_lh (T:=50) (j:=j) (k:=j+(lb.length+1)) (ad:=none) underlying50 sizeOf228 rfl rfl rfl (by omega) (by omega) (by omega) (by omega) ?_);simp only [NRM];simp only [Nat.add_sub_cancel_left,Nat.zero_add])|go_in)
        rw [List.set_set] at hS;clear hset
        go_loopw [170] (fun v wr=>∃ (k cc:Nat) (o2:List Nat),k≤lb.length+1∧v=.int .i64 (k:Int)∧Heap wb wr ([.frz (Old wb) wb,.blk bv (.cells (wv lv).toArray 228 (0,0)),.blk bq (.cells (wv (out.set j (d - 1))).toArray 228 (0,0))]++[.blk bu (.cells (wv o2).toArray 228 (0,0)),.blk bc (.cells #[.int .u64 (cc:Int)] 217 (0,0))])∧o2.length=o.length∧Wd o2∧(∀ i,(i<j∨j+k≤i)→nth 0 o2 i=nth 0 o i)∧cc≤1∧val o2+WB ^ (j+k)*cc=val o+WB ^ j*val ((lv.take lb.length).take k)) (fun v _=>lb.length+1 - (intOf v).toNat)
        case atStart=>exact⟨0,0,o,by omega,rfl,hS,rfl,how,fun _ _=>rfl,by omega,by simp [val]⟩
        case round =>
         clear hS;obtain⟨k,cc,o2,hk,rfl,hS,ho2l,how2,hag2,hcc,hv2⟩:=hrel;simp only [NRH] at hS;have hp1:o2.length≤la.length+1:=by omega
         have hp2:la.length+1≤o2.length:=by omega
         have hok:=how2.nth (j+k);have hlk:=hvw.nth k;rw [WB_eq] at hok hlk;replace ho2l:=Hd ho2l;replace hag2:=Hd hag2;replace hv2:=Hd hv2;have he6:((j:Int)+(k:Int)).toNat=j+k:=by omega
         by_cases hk1:k<lb.length
         ·have hlk2:=Hd (nth_take 0 lv hk1)
          go_wp2_with (first|((with_reducible refine g_idx (T:=50) ?_);refine seq_any rfl (any_index_at (T:=50) underlying50 sizeOf228 rfl rfl (by omega) (by omega) ?_);simp only [NRM];simp only [Nat.zero_add,Int.toNat_natCast])|((with_reducible refine g_load (T:=228) ?_);refine seq_of hS rfl (stp_load_word (T:=228) 1 isAgg228 rfl rfl (by first|omega) ?_);simp only [NRM])|((with_reducible refine g_load (T:=228) ?_);refine seq_of hS rfl (stp_load_word (T:=228) 3 isAgg228 rfl rfl (by first|omega) ?_);simp only [NRM])|(with_reducible first|refine ldB 4 hS isAgg217 ?_|refine stA 4 hS sizeOf217 fun _ hS=>?_)|((with_reducible refine g_store (T:=228) ?_);refine seq_store_word (T:=228) (v:=(cc+(nth 0 o2 (j+k)+nth 0 lv k)) % 4294967296) 3 hS rfl rfl (by omega) rfl (by first|omega) sizeOf228 (fun _ hS=>?_);simp only [NRM];simp only [NRH] at hS)|go_in)
          have e:((cc:Int)+((nth 0 o2 (j+k):Nat)+(nth 0 lv k:Nat))) / 4294967296=(((cc+(nth 0 o2 (j+k)+nth 0 lv k)) / 4294967296:Nat):Int):=by omega
          simp only [he6] at hS;rw [e] at hS;go_roundw
          case rel=>exact back_rel (A:=[_,_,_]) hS (by omega) (by omega) ho2l.out how2 hag2.out hcc (by rw [hlk2.out]) (by omega) hv2.out
          case measure=>simp [intOf];omega
         ·by_cases hk2:k<lb.length+1
          ·have hz:=Hd (nth_out 0 (lv.take lb.length) k (by rw [List.length_take];omega))
           go_wp2_with (first|((with_reducible refine g_idx (T:=50) ?_);refine seq_any rfl (any_index_at (T:=50) underlying50 sizeOf228 rfl rfl (by omega) (by omega) ?_);simp only [NRM];simp only [Nat.zero_add,Int.toNat_natCast])|((with_reducible refine g_load (T:=228) ?_);refine seq_of hS rfl (stp_load_word (T:=228) 3 isAgg228 rfl rfl (by first|omega) ?_);simp only [NRM])|(with_reducible first|refine ldB 4 hS isAgg217 ?_|refine stA 4 hS sizeOf217 fun _ hS=>?_)|((with_reducible refine g_store (T:=228) ?_);refine seq_store_word (T:=228) (v:=(cc+nth 0 o2 (j+k)) % 4294967296) 3 hS rfl rfl (by omega) rfl (by first|omega) sizeOf228 (fun _ hS=>?_);simp only [NRM];simp only [NRH] at hS)|go_in)
           have e:((cc:Int)+(nth 0 o2 (j+k):Nat)) / 4294967296=(((cc+nth 0 o2 (j+k)) / 4294967296:Nat):Int):=by omega
           simp only [he6] at hS;rw [e] at hS;go_roundw
           case rel=>exact back_rel (A:=[_,_,_]) hS (by omega) (by omega) ho2l.out how2 hag2.out hcc (by rw [hz.out];omega) (by omega) hv2.out
           case measure=>simp [intOf];omega
          ·obtain rfl:k=lb.length+1:=by omega
           have hv3:=hv2.out;rw [val_take_all (by rw [List.length_take];omega),hvn.out] at hv3;replace hv3:=Hd hv3;go_wp2;go_roundw
           case rel=>exact⟨j,o2,_,rfl,hS.sb,hI.out.back hol.out ho2l.out how how2 hag.out hag2.out hvo.out hv3.out (by omega) (by rw [hX.out];exact hXd.out) (by rw [hX.out];exact hdV.out) hVl.out (by rw [hX.out];exact hXB.out)⟩
           case measure=>simp [intOf]
end Go.Proofs
