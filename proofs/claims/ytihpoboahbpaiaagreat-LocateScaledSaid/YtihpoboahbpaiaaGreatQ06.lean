/- Texts for the walk of the law: K6 K8 K7. -/
import Derived.Laws.Bits64b
import Derived.Test.YtihpoboahbpaiaaGreatQ05
set_option maxRecDepth 100000
set_option maxHeartbeats 16000000
set_option linter.unusedVariables false
set_option linter.unusedSimpArgs false
namespace Go.Hp
open Go.Proofs.Tryz
open Go
theorem Heap.rest {w0 w:World} {A B:List Chunk} (h:Heap w0 w (A++B)) {c:Chunk} (hc:c ∈ A) {k:Nat} (hk:c.has k):Rest w B k :=
 ⟨Chunk.lt (h.ok c (by simp [hc])) hk,fun d hd=>(List.pairwise_append.1 h.apart).2.2 c hc d hd k hk⟩
end Go.Hp
namespace Go.Proofs
open Go.Proofs.Tryz
open Go.RowKit Go.Hp
theorem sub_rel {w w':World} {F:Chunk} {bo:Nat} {T:TypeId} {la lb o:List Nat} {k cc x c':Nat} {bv:Value} (hS:Heap w w' [F,.blk bo (.cells (wv (o.set k x)).toArray T (0,0))]) (hk:k<la.length)
 (hol:o.length=la.length) (how:Wd o) (ho0:∀ j,k≤j→nth 0 o j=nth 0 la j) (hx:x+(cc+nth 0 lb k)=nth 0 la k+WB*c') (hc':c'≤1) (hxw:x<4294967296) (hbv:bv=.int .u64 (c':Int)) (hv:val o+val (lb.take k)=val la+WB ^ k*cc) :
 ∃ (k' cc':Nat) (o':List Nat),k'≤la.length∧Value.int .i64 ((k:Int)+1)=.int .i64 (k':Int)∧bv=.int .u64 (cc':Int)∧Heap w w' [F,.blk bo (.cells (wv o').toArray T (0,0))]∧o'.length=la.length∧Wd o'∧(∀ j,k'≤j→nth 0 o' j=nth 0 la j)∧cc'≤1∧val o'+val (lb.take k')=val la+WB ^ k'*cc':=by
 refine⟨k+1,c',o.set k x,by omega,rfl,hbv,hS,by simp [hol],how.set k (by rw [WB_eq];omega),fun j hj=>?_,hc',sub_step (by omega) (ho0 k (Nat.le_refl _)) hx hv⟩;rw [nth_set,if_neg (by omega)];exact ho0 j (by omega)
theorem subtract_any (bo:Nat) (bd:Option Addr) (n c m d:Nat) (la lb:List Nat) (w:World) (F:Nat→Prop) (T:TypeId) (hS:Heap w w [.frz F w,.blk bo (.cells (wv la).toArray T (0,0))]) (hb:Mag w F (.slice bd m d) lb) (hn:n=la.length) (hwa:Wd la) (hle:la.length≤2000) :
 Calls Tryz.prog 216 #[.slice (some ⟨bo,0,none⟩) n c,.slice bd m d] w fun e w'=>∃ (o:List Nat) (cc:Nat),e=.returned (.int .u32 (cc:Int))∧Heap w w' [.frz F w,.blk bo (.cells (wv o).toArray T (0,0))]∧o.length=la.length∧Wd o∧cc≤1∧val o+val (lb.take la.length)=val la+WB ^ la.length*cc:=by
 have h2:=hb.len;subst hn h2;have hbc:=hb.cap
 go_enter func216,ntmps216
 go_wp2
 go_loopw [11,5] (fun v bv wr=>∃ (k cc:Nat) (o:List Nat),k≤la.length∧v=.int .i64 (k:Int)∧bv=.int .u64 (cc:Int)∧Heap w wr [.frz F w,.blk bo (.cells (wv o).toArray T (0,0))]∧o.length=la.length∧Wd o∧(∀ j,k≤j→nth 0 o j=nth 0 la j)∧cc≤1∧val o+val (lb.take k)=val la+WB ^ k*cc) (fun v _ _=>la.length - (intOf v).toNat)
 case atStart=>exact⟨0,0,la,by omega,rfl,rfl,hS,rfl,hwa,fun j _=>rfl,by omega,by simp [val]⟩
 case round =>
  clear hS;obtain⟨k,cc,o,hk,rfl,rfl,hS,hol,how,ho0,hcc,hv⟩:=hrel;have hak:=hwa.nth k;have hbk:=hb.wd.nth k;have hok:=Hd (ho0 k (Nat.le_refl _));have hok2:=how.nth k;rw [WB_eq] at hak hbk hok2;replace hv:=Hd hv;replace ho0:=Hd ho0;have hol1:o.length≤la.length:=by omega
  have hol2:la.length≤o.length:=by omega
  clear hol
  by_cases hk1:k<la.length
  ·by_cases hk2:k<lb.length
   ·by_cases hgt:nth 0 o k<cc+nth 0 lb k
    ·go_wp2_with (first|((with_reducible refine g_idx (T:=50) ?_);refine seq_any rfl (any_index_mag (T:=50) underlying50 sizeOf228 rfl rfl hb (by omega) (by omega) (fun _ _ _=>?_));simp only [NRM])|((with_reducible refine g_idx (T:=50) ?_);refine seq_any rfl (any_index_at (T:=50) underlying50 sizeOf228 rfl rfl (by omega) (by omega) ?_);simp only [NRM];simp only [Nat.zero_add,Int.toNat_natCast])|(with_reducible refine ld0 hS isAgg228 ?_)|((with_reducible refine g_load (T:=228) ?_);refine seq_of hS rfl (stp_load_word (T:=228) 1 isAgg228 rfl rfl (by first|omega) ?_);simp only [NRM])|((with_reducible refine g_store (T:=228) ?_);refine seq_store_word (T:=228) (v:=nth 0 o k+4294967296 - (cc+nth 0 lb k)) 1 hS rfl rfl (by omega) rfl (by first|omega) sizeOf228 (fun _ hS=>?_);simp only [NRM];simp only [NRH] at hS))
     go_roundw
     case rel=>exact sub_rel (c':=1) hS hk1 (by omega) how ho0.out (by rw [WB_eq];(rw [← hok.out];omega)) (by omega) (by omega) rfl hv.out
     case measure=>simp [intOf];omega
    ·go_wp2_with (first|((with_reducible refine g_idx (T:=50) ?_);refine seq_any rfl (any_index_mag (T:=50) underlying50 sizeOf228 rfl rfl hb (by omega) (by omega) (fun _ _ _=>?_));simp only [NRM])|((with_reducible refine g_idx (T:=50) ?_);refine seq_any rfl (any_index_at (T:=50) underlying50 sizeOf228 rfl rfl (by omega) (by omega) ?_);simp only [NRM];simp only [Nat.zero_add,Int.toNat_natCast])|(with_reducible refine ld0 hS isAgg228 ?_)|((with_reducible refine g_load (T:=228) ?_);refine seq_of hS rfl (stp_load_word (T:=228) 1 isAgg228 rfl rfl (by first|omega) ?_);simp only [NRM])|((with_reducible refine g_store (T:=228) ?_);refine seq_store_word (T:=228) (v:=nth 0 o k - (cc+nth 0 lb k)) 1 hS rfl rfl (by omega) rfl (by first|omega) sizeOf228 (fun _ hS=>?_);simp only [NRM];simp only [NRH] at hS))
     go_roundw
     case rel=>exact sub_rel (c':=0) hS hk1 (by omega) how ho0.out (by rw [WB_eq];(rw [← hok.out];omega)) (by omega) (by omega) rfl hv.out
     case measure=>simp [intOf];omega
   ·have hz:=Hd (nth_out 0 lb k (by omega))
    by_cases hgt:nth 0 o k<cc
    ·go_wp2_with (first|((with_reducible refine g_idx (T:=50) ?_);refine seq_any rfl (any_index_at (T:=50) underlying50 sizeOf228 rfl rfl (by omega) (by omega) ?_);simp only [NRM];simp only [Nat.zero_add,Int.toNat_natCast])|((with_reducible refine g_load (T:=228) ?_);refine seq_of hS rfl (stp_load_word (T:=228) 1 isAgg228 rfl rfl (by first|omega) ?_);simp only [NRM])|((with_reducible refine g_store (T:=228) ?_);refine seq_store_word (T:=228) (v:=nth 0 o k+4294967296 - cc) 1 hS rfl rfl (by omega) rfl (by first|omega) sizeOf228 (fun _ hS=>?_);simp only [NRM];simp only [NRH] at hS))
     go_roundw
     case rel=>exact sub_rel (c':=1) hS hk1 (by omega) how ho0.out (by rw [WB_eq];(rw [← hok.out,hz.out];omega)) (by omega) (by omega) rfl hv.out
     case measure=>simp [intOf];omega
    ·go_wp2_with (first|((with_reducible refine g_idx (T:=50) ?_);refine seq_any rfl (any_index_at (T:=50) underlying50 sizeOf228 rfl rfl (by omega) (by omega) ?_);simp only [NRM];simp only [Nat.zero_add,Int.toNat_natCast])|((with_reducible refine g_load (T:=228) ?_);refine seq_of hS rfl (stp_load_word (T:=228) 1 isAgg228 rfl rfl (by first|omega) ?_);simp only [NRM])|((with_reducible refine g_store (T:=228) ?_);refine seq_store_word (T:=228) (v:=nth 0 o k - cc) 1 hS rfl rfl (by omega) rfl (by first|omega) sizeOf228 (fun _ hS=>?_);simp only [NRM];simp only [NRH] at hS))
     go_roundw
     case rel=>exact sub_rel (c':=0) hS hk1 (by omega) how ho0.out (by rw [WB_eq];(rw [← hok.out,hz.out];omega)) (by omega) (by omega) rfl hv.out
     case measure=>simp [intOf];omega
  ·obtain rfl:k=la.length:=by omega
   go_wp2;go_ret;exact⟨o,cc,rfl,hS,by omega,how,hcc,hv.out⟩
theorem Tryz.size1228:(Tryz.prog.info? 228).map (·.size)=some 1:=by kernel_rfl
theorem difference_any (ad bd:Option Addr) (n c m d:Nat) (la lb:List Nat) (w:World) (S:Nat→Prop) (ha:Mag w S (.slice ad n c) la) (hb:Mag w S (.slice bd m d) lb) (nb:Nm lb) (hv:val lb≤val la) (hle:la.length≤2000) :
 Calls Tryz.prog 142 #[.slice ad n c,.slice bd m d] w fun e w'=>∃ b S' l,e=.returned (.slice (some ⟨b,0,none⟩) l.length l.length)∧Pure w S w' S'∧Mag w' S' (.slice (some ⟨b,0,none⟩) l.length l.length) l∧l.length=la.length∧val l+val lb=val la:=by
 have h1:=ha.len;have h2:=hb.len;have hlb:lb.length≤la.length:=nm_len nb (Nat.lt_of_le_of_lt hv (val_lt ha.wd));subst h1 h2;have hao:=ha.old;have hbo:=hb.old;have hS:=Heap.start w;replace hv:=Hd hv
 go_enter func142,ntmps142
 go_wp2_with (first|((with_reducible refine g_mks' (T:=50) ?_);refine seq_make_words (n:=la.length) (T:=50) (E:=228) hS underlying50 Tryz.info228 rfl rfl (by omega) (by omega) (fun bo wo hS=>?_);simp only [NRM];simp only [NRH] at hS)|((with_reducible refine g_copy ?_);refine seq_copy_words (T:=50) (E:=228) 1 hS underlying50 Tryz.size1228 rfl rfl (hao.later hS (by simp)) rfl (by first|simp) (by first|simp) (fun _ hS=>?_);simp only [NRM];simp only [NRH] at hS))
 have hb2:=(hbo.later hS (by simp)).weaken (fun k hk=>hS.rest (A:=[.frz (Old w) w]) (c:=.frz (Old w) w) (by simp) hk);have hsp:=Heap.split (A:=[.frz (Old w) w]) hS;refine (subtract_any bo _ _ _ _ _ la lb _ _ _ hsp hb2 rfl ha.wd hle).mono ?_;rintro e w' ⟨o,cc,rfl,hS',hol,how,hcc,hvo⟩;have hS2:=hS.unsplit (A:=[.frz (Old w) w]) (B':=[.blk bo (.cells (wv o).toArray 228 (0,0))]) hS';clear hS;have hS:=hS2;simp only [NRH] at hS;replace hvo:=Hd hvo;have hol1:o.length≤la.length:=by omega
 have hol2:la.length≤o.length:=by omega
 clear hol;clear hS2;go_wp2;go_ret;have hol:o.length=la.length:=by omega
 obtain⟨q1,q2⟩:=hS.magOut S 0 rfl how (by simp [maxLen];omega);obtain⟨r1,r2⟩:=sub_end (a:=la) (b:=lb) how (by omega) hv.out (by rw [hol];exact hvo.out);exact⟨bo,_,o,by rw [hol];rfl,q1,q2,hol,r1⟩
end Go.Proofs
namespace Go.Proofs
open Go.Proofs.Tryz
open Go.RowKit Go.Hp
theorem or_u64 {x y:Nat} (hx:x<4294967296) (hy:y<4294967296):bits .or .u64 ((y:Int)*4294967296) (x:Int)=((y*4294967296+x:Nat):Int):=by
 have h:=or_word (x:=x) (y:=y) (by rw [WB_eq];exact hx);rw [WB_eq] at h;rw [show (y:Int)*4294967296=((y*4294967296:Nat):Int) by omega,bits_or_u64_nat _ _ (by omega) (by omega),h]
theorem tdiv_nat (a b:Nat):(a:Int).tdiv (b:Int)=((a / b:Nat):Int):=rfl
theorem tmod_nat (a b:Nat):(a:Int).tmod (b:Int)=((a % b:Nat):Int):=rfl
theorem short_rel {w w':World} {F:Chunk} {bo:Nat} {T:TypeId} {la o:List Nat} {j r d t:Nat} (hS:Heap w w' [F,.blk bo (.cells (wv (o.set j (t / d))).toArray T (0,0))]) (hj:j<la.length) (hd:0<d) (ht:t=r*4294967296+nth 0 la j) (hq:t / d<4294967296)
 (hol:o.length=la.length) (how:Wd o) (ho0:∀ i,i<j+1→nth 0 o i=0) (hv:val o*d+WB ^ (j+1)*r+val (la.take (j+1))=val la) :
 ∃ (k' r':Nat) (o':List Nat),k'≤la.length∧Value.int .i64 ((j:Int) - 1)=.int .i64 ((k':Int) - 1)∧Value.int .u64 ((t % d:Nat):Int)=.int .u64 (r':Int)∧Heap w w' [F,.blk bo (.cells (wv o').toArray T (0,0))]∧o'.length=la.length∧Wd o'∧(∀ i,i<k'→nth 0 o' i=0)∧r'<d∧val o'*d+WB ^ k'*r'+val (la.take k')=val la:=by
 refine⟨j,t % d,_,by omega,rfl,rfl,hS,by simp [hol],how.set _ (by rw [WB_eq];exact hq),fun i hi=>?_,Nat.mod_lt _ hd,short_step (by omega) (ho0 j (by omega)) (by rw [WB_eq];omega) hv⟩;rw [nth_set,if_neg (by omega)];exact ho0 i (by omega)
theorem short_any (ad:Option Addr) (n c:Nat) (la:List Nat) (d:Nat) (w:World) (S:Nat→Prop) (ha:Mag w S (.slice ad n c) la) (hd:0<d) (hdw:d<4294967296) (hle:la.length≤2000) :
 Calls Tryz.prog 210 #[.slice ad n c,.int .u32 (d:Int)] w fun e w'=>∃ b S' l r,e=.returned (.tuple #[.slice (some ⟨b,0,none⟩) l.length l.length,.int .u32 ((r:Nat):Int)])∧Pure w S w' S'∧Mag w' S' (.slice (some ⟨b,0,none⟩) l.length l.length) l∧l.length=la.length∧r<d∧val l*d+r=val la:=by
 have h1:=ha.len;subst h1;have hao:=ha.old;have hS:=Heap.start w
 go_enter func210,ntmps210
 go_wp2_with (first|((with_reducible refine g_mks' (T:=50) ?_);refine seq_make_words (n:=la.length) (T:=50) (E:=228) hS underlying50 Tryz.info228 rfl rfl (by omega) (by omega) (fun bo wo hS=>?_);simp only [NRM];simp only [NRH] at hS))
 go_loopw [8,7] (fun v rv wr=>∃ (k r:Nat) (o:List Nat),k≤la.length∧v=.int .i64 ((k:Int) - 1)∧rv=.int .u64 (r:Int)∧Heap w wr [.frz (Old w) w,.blk bo (.cells (wv o).toArray 228 (0,0))]∧o.length=la.length∧Wd o∧(∀ j,j<k→nth 0 o j=0)∧r<d∧val o*d+WB ^ k*r+val (la.take k)=val la) (fun v _ _=>(intOf v+1).toNat)
 case atStart=>exact⟨la.length,0,List.replicate la.length 0,by omega,by go_num,rfl,hS,by simp,Wd.zeros _,fun j _=>nth_replicate _ _ _,hd,by simp [val_zeros]⟩
 case round =>
  clear hS;obtain⟨k,r,o,hk,rfl,rfl,hS,hol,how,ho0,hr,hv⟩:=hrel;replace hv:=Hd hv;replace ho0:=Hd ho0;have hm1:o.length≤la.length:=by omega
  have hm2:la.length≤o.length:=by omega
  clear hol
  by_cases hk0:k=0
  ·subst hk0
   go_wp2;have e:o.length=la.length:=by omega
   obtain⟨q1,q2⟩:=hS.magOut S 0 rfl how (by simp [maxLen];omega);refine bodyPost_ret (results_tmp2 rfl _ _ _) rfl ?_;refine⟨bo,_,o,r,by rw [e];rfl,q1,q2,e,hr,?_⟩;have:=hv.out
   simpa [val] using this
  ·obtain⟨j,rfl⟩:∃ j,k=j+1:=⟨k - 1,by omega⟩
   have hak:=ha.wd.nth j;rw [WB_eq] at hak;have hbits:=or_u64 (x:=nth 0 la j) (y:=r) hak (by omega);obtain⟨t,ht⟩:∃ t,t=r*4294967296+nth 0 la j:=⟨_,rfl⟩;rw [← ht] at hbits
   have htd:t<d*4294967296:=by
    have:(r+1)*4294967296≤d*4294967296:=Nat.mul_le_mul_right _ hr;omega
   have hq:t / d<4294967296:=by rw [Nat.div_lt_iff_lt_mul hd,Nat.mul_comm];exact htd
   have hm:t % d<d:=Nat.mod_lt _ hd;have hq1:=tdiv_nat t d;have hm1':=tmod_nat t d;replace ht:=Hd ht;obtain⟨q,hqq⟩:∃ q,q=t / d:=⟨_,rfl⟩;obtain⟨m,hmm⟩:∃ m,m=t % d:=⟨_,rfl⟩;rw [← hqq] at hq1 hq;rw [← hmm] at hm1' hm;replace hqq:=Hd hqq;replace hmm:=Hd hmm
   go_wp2_with (first|((with_reducible refine g_idx (T:=50) ?_);refine seq_any rfl (any_index_mag (T:=50) underlying50 sizeOf228 rfl rfl hao (by omega) (by omega) (fun _ _ _=>?_));simp only [NRM])|((with_reducible refine g_idx (T:=50) ?_);refine seq_any rfl (any_index_at (T:=50) underlying50 sizeOf228 rfl rfl (by omega) (by omega) ?_);simp only [NRM];simp only [Nat.zero_add,Int.toNat_natCast])|(with_reducible refine ld0 hS isAgg228 ?_)|((with_reducible refine g_store (T:=228) ?_);refine seq_store_word (T:=228) (v:=q) 1 hS rfl rfl (by omega) rfl (by first|omega) sizeOf228 (fun _ hS=>?_);simp only [NRM];simp only [NRH] at hS))
   rw [show (((j+1:Nat):Int) - 1).toNat=j by omega,hqq.out] at hS;rw [hqq.out] at hq;rw [hmm.out];go_roundw
   case rel=>exact short_rel hS (by omega) hd ht.out hq (by omega) how ho0.out hv.out
   case measure=>simp [intOf]
theorem or_u32_nat (a b:Nat) (ha:a<4294967296) (hb:b<4294967296):bits .or .u32 (a:Int) (b:Int)=((a ||| b:Nat):Int):=by
 have hx:a ||| b<2 ^ 32:=Nat.or_lt_two_pow (by omega) (by omega)
 have h1:(BitVec.ofInt 32 (a:Int)).toNat=a:=by
  rw [BitVec.ofInt_natCast,BitVec.toNat_ofNat];exact Nat.mod_eq_of_lt (by omega)
 have h2:(BitVec.ofInt 32 (b:Int)).toNat=b:=by
  rw [BitVec.ofInt_natCast,BitVec.toNat_ofNat];exact Nat.mod_eq_of_lt (by omega)
 show IntKind.u32.wrap ((BitVec.ofInt 32 (a:Int) ||| BitVec.ofInt 32 (b:Int)).toNat:Int)=_;rw [BitVec.toNat_or,h1,h2,IntKind.wrap_u32];omega
theorem shl_u64 {x s:Nat} (hx:x<4294967296) (hs:s<32):IntKind.u64.wrap ((x:Int)*2 ^ s)=((x*2 ^ s:Nat):Int)∧x*2 ^ s<9223372036854775808:=by
 have h1:2 ^ s≤2 ^ 31:=Nat.pow_le_pow_right (by decide) (by omega);have h2:x*2 ^ s≤4294967295*2 ^ 31:=Nat.mul_le_mul (by omega) h1;have h3:x*2 ^ s<9223372036854775808:=by omega
 refine⟨?_,h3⟩;rw [IntKind.wrap_u64];have:((x*2 ^ s:Nat):Int)=(x:Int)*2 ^ s:=by push_cast;rfl
 rw [← this];omega
theorem shifted_rel {w w':World} {F:Chunk} {bo:Nat} {T:TypeId} {la o:List Nat} {k s v x:Nat} (hS:Heap w w' [F,.blk bo (.cells (wv ((o.set k x).set (k+1) (v / 4294967296))).toArray T (0,0))]) (hk:k<la.length) (hs:s<32) (hwa:Wd la) (hx:x=nth 0 o k+v % 4294967296) (hv0:v=nth 0 la k*2 ^ s)
 (hol:o.length=la.length+1) (how:Wd o) (ho0:∀ i,k<i→nth 0 o i=0) (hlo:nth 0 o k<2 ^ s) (hv:val o=val (la.take k)*2 ^ s) :
 ∃ (k':Nat) (o':List Nat),k'≤la.length∧Value.int .i64 ((k:Int)+1)=.int .i64 (k':Int)∧Heap w w' [F,.blk bo (.cells (wv o').toArray T (0,0))]∧o'.length=la.length+1∧Wd o'∧(∀ j,k'<j→nth 0 o' j=0)∧nth 0 o' k'<2 ^ s∧val o'=val (la.take k')*2 ^ s:=by
 obtain⟨h1,h2,h3,h4⟩:=shl_step hs hwa (by omega) hlo (ho0 (k+1) (by omega)) hv0 hv;rw [WB_eq] at h1 h2 h3 h4;have h5:2 ^ s≤2 ^ 31:=Nat.pow_le_pow_right (by decide) (by omega);refine⟨k+1,_,by omega,rfl,hS,by simp [hol],(how.set _ (by rw [WB_eq];omega)).set _ (by rw [WB_eq];omega),fun j hj=>?_,?_,?_⟩
 ·rw [nth_set,if_neg (by omega),nth_set,if_neg (by omega)];exact ho0 j (by omega)
 ·rw [nth_set,if_pos ⟨rfl,by simp;omega⟩];exact h3
 ·rw [hx];exact h4
theorem shifted_any (ad:Option Addr) (n c:Nat) (la:List Nat) (s:Nat) (w:World) (S:Nat→Prop) (ha:Mag w S (.slice ad n c) la) (hs:s<32) (hle:la.length≤2000) :
 Calls Tryz.prog 213 #[.slice ad n c,.int .i64 (s:Int)] w fun e w'=>∃ b l,e=.returned (.slice (some ⟨b,0,none⟩) (la.length+1) (la.length+1))∧Heap w w' [.frz (Old w) w,.blk b (.cells (wv l).toArray 228 (0,0))]∧l.length=la.length+1∧Wd l∧val l=val la*2 ^ s:=by
 have h1:=ha.len;subst h1;have hao:=ha.old;have hS:=Heap.start w
 go_enter func213,ntmps213
 go_wp2_with (first|((with_reducible refine g_mks' (T:=50) ?_);refine seq_make_words (n:=la.length+1) (T:=50) (E:=228) hS underlying50 Tryz.info228 rfl rfl (by omega) (by omega) (fun bo wo hS=>?_);simp only [NRM];simp only [NRH] at hS))
 go_loopw [15] (fun v wr=>∃ (k:Nat) (o:List Nat),k≤la.length∧v=.int .i64 (k:Int)∧Heap w wr [.frz (Old w) w,.blk bo (.cells (wv o).toArray 228 (0,0))]∧o.length=la.length+1∧Wd o∧(∀ j,k<j→nth 0 o j=0)∧nth 0 o k<2 ^ s∧val o=val (la.take k)*2 ^ s) (fun v _=>la.length - (intOf v).toNat)
 case atStart=>exact⟨0,List.replicate (la.length+1) 0,by omega,rfl,hS,by simp,Wd.zeros _,fun j _=>nth_replicate _ _ _,by rw [nth_replicate];exact Nat.pow_pos (by decide),by simp [val,val_zeros]⟩
 case round =>
  clear hS;obtain⟨k,o,hk,rfl,hS,hol,how,ho0,hlo,hv⟩:=hrel;replace hv:=Hd hv;replace ho0:=Hd ho0;have hm1:o.length≤la.length+1:=by omega
  have hm2:la.length+1≤o.length:=by omega
  clear hol;have hak:=ha.wd.nth k;have hok:=how.nth k;rw [WB_eq] at hak hok
  by_cases hk1:k<la.length
  ·obtain⟨hsh,hvb⟩:=shl_u64 hak hs
   obtain⟨v,hv0⟩:∃ v,v=nth 0 la k*2 ^ s:=⟨_,rfl⟩;rw [← hv0] at hsh hvb;obtain⟨x,hx⟩:∃ x,x=nth 0 o k+v % 4294967296:=⟨_,rfl⟩
   have hor:bits .or .u32 ((nth 0 o k:Nat):Int) ((v:Int) % 4294967296)=(x:Int):=by
    have h:=shl_parts (k:=s) hs (ha.wd.nth k);rw [WB_eq,← hv0] at h;rw [show (v:Int) % 4294967296=((v % 4294967296:Nat):Int) by omega,or_u32_nat _ _ hok (by omega),or_add hlo h.1,hx]
   replace hv0:=Hd hv0;replace hx:=Hd hx
   go_wp2_with (first|((with_reducible refine g_idx (T:=50) ?_);refine seq_any rfl (any_index_mag (T:=50) underlying50 sizeOf228 rfl rfl hao (by omega) (by omega) (fun _ _ _=>?_));simp only [NRM])|((with_reducible refine g_idx (T:=50) ?_);refine seq_any rfl (any_index_at (T:=50) underlying50 sizeOf228 rfl rfl (by omega) (by omega) ?_);simp only [NRM];simp only [Nat.zero_add,Int.toNat_natCast])|(with_reducible refine ld0 hS isAgg228 ?_)|((with_reducible refine g_load (T:=228) ?_);refine seq_of hS rfl (stp_load_word (T:=228) 1 isAgg228 rfl rfl (by first|omega) ?_);simp only [NRM])|((with_reducible refine g_store (T:=228) ?_);refine seq_store_word (T:=228) (v:=x) 1 hS rfl rfl rfl rfl (by first|omega|(simp only [List.length_set];omega)) sizeOf228 (fun _ hS=>?_);simp only [NRM];simp only [NRH] at hS)|((with_reducible refine g_store (T:=228) ?_);refine seq_store_word (T:=228) (v:=v / 4294967296) 1 hS rfl rfl (by omega) rfl (by first|(simp only [List.length_set];omega)) sizeOf228 (fun _ hS=>?_);simp only [NRM];simp only [NRH] at hS))
   go_roundw
   case rel=>exact shifted_rel hS hk1 hs ha.wd hx.out hv0.out (by omega) how ho0.out hlo hv.out
   case measure=>simp [intOf];omega
  ·obtain rfl:k=la.length:=by omega
   go_wp2;go_ret;refine⟨bo,o,rfl,hS,by omega,how,by rw [hv.out,val_take_all (Nat.le_refl _)]⟩
end Go.Proofs
namespace Go.Proofs
open Go.Proofs.Tryz
open Go.RowKit Go.Hp
theorem prod_le {a b:Nat} (ha:a<4294967296) (hb:b<4294967296):0≤(a:Int)*(b:Int)∧(a:Int)*(b:Int)≤18446744065119617025:=by
 have h:a*b≤4294967295*4294967295:=Nat.mul_le_mul (by omega) (by omega)
 constructor
 ·exact Int.mul_nonneg (by omega) (by omega)
 ·have:((a*b:Nat):Int)≤((4294967295*4294967295:Nat):Int):=by exact_mod_cast h
  simpa using this
theorem times_in {w w':World} {F:Chunk} {bo:Nat} {T:TypeId} {la lb o:List Nat} {k k2 cc t:Nat} {V:Nat} (hS:Heap w w' [F,.blk bo (.cells (wv (o.set (k+k2) (t % 4294967296))).toArray T (0,0))]) (hk:k<la.length) (hk2:k2<lb.length) (ht:t=nth 0 la k*nth 0 lb k2+nth 0 o (k+k2)+cc) (htb:t<18446744073709551616)
 (hol:o.length=la.length+lb.length) (how:Wd o) (ho0:∀ j,k+lb.length≤j→nth 0 o j=0) (hv:val o+WB ^ (k+k2)*cc=V+WB ^ k*(nth 0 la k*val (lb.take k2))) :
 ∃ (k2' cc':Nat) (o':List Nat),k2'≤lb.length∧Value.int .i64 ((k2:Int)+1)=.int .i64 (k2':Int)∧Value.int .u64 ((t / 4294967296:Nat):Int)=.int .u64 (cc':Int)∧Heap w w' [F,.blk bo (.cells (wv o').toArray T (0,0))]∧o'.length=la.length+lb.length∧Wd o'∧(∀ j,k+lb.length≤j→nth 0 o' j=0)∧cc'<4294967296∧val o'+WB ^ (k+k2')*cc'=V+WB ^ k*(nth 0 la k*val (lb.take k2')):=by
 refine⟨k2+1,t / 4294967296,_,by omega,rfl,rfl,hS,by simp [hol],how.set _ (by rw [WB_eq];omega),fun j hj=>?_,by omega,?_⟩
 ·rw [nth_set,if_neg (by omega)];exact ho0 j hj
 ·have:=row_step (by omega) ht hv
  rw [WB_eq] at this ⊢;exact this
theorem times_out {w w':World} {F:Chunk} {bo:Nat} {T:TypeId} {la lb o:List Nat} {k cc:Nat} (hS:Heap w w' [F,.blk bo (.cells (wv (o.set (k+lb.length) cc)).toArray T (0,0))]) (hk:k<la.length) (hcc:cc<4294967296)
 (hol:o.length=la.length+lb.length) (how:Wd o) (ho0:∀ j,k+lb.length≤j→nth 0 o j=0) (hv:val o+WB ^ (k+lb.length)*cc=val (la.take k)*val lb+WB ^ k*(nth 0 la k*val (lb.take lb.length))) :
 ∃ (k':Nat) (o':List Nat),k'≤la.length∧Value.int .i64 ((k:Int)+1)=.int .i64 (k':Int)∧Heap w w' [F,.blk bo (.cells (wv o').toArray T (0,0))]∧o'.length=la.length+lb.length∧Wd o'∧(∀ j,k'+lb.length≤j→nth 0 o' j=0)∧val o'=val (la.take k')*val lb:=by
 refine⟨k+1,_,by omega,rfl,hS,by simp [hol],how.set _ (by rw [WB_eq];omega),fun j hj=>?_,row_end (by omega) (ho0 _ (Nat.le_refl _)) rfl rfl hv⟩;rw [nth_set,if_neg (by omega)];exact ho0 j (by omega)
theorem times_any (ad bd:Option Addr) (n c m d:Nat) (la lb:List Nat) (w:World) (S:Nat→Prop) (ha:Mag w S (.slice ad n c) la) (hb:Mag w S (.slice bd m d) lb) (hle:la.length≤2000) (hle2:lb.length≤2000) :
 Calls Tryz.prog 247 #[.slice ad n c,.slice bd m d] w fun e w'=>∃ b S' l,e=.returned (.slice (some ⟨b,0,none⟩) l.length l.length)∧Pure w S w' S'∧Mag w' S' (.slice (some ⟨b,0,none⟩) l.length l.length) l∧l.length=la.length+lb.length∧val l=val la*val lb:=by
 have h1:=ha.len;have h2:=hb.len;subst h1 h2;have hao:=ha.old;have hbo:=hb.old;have hS:=Heap.start w
 go_enter func247,ntmps247
 go_wp2_with (first|((with_reducible refine g_mks' (T:=50) ?_);refine seq_make_words (n:=la.length+lb.length) (T:=50) (E:=228) hS underlying50 Tryz.info228 rfl rfl (by omega) (by omega) (fun bo wo hS=>?_);simp only [NRM];simp only [NRH] at hS))
 go_loopw [20] (fun v wr=>∃ (k:Nat) (o:List Nat),k≤la.length∧v=.int .i64 (k:Int)∧Heap w wr [.frz (Old w) w,.blk bo (.cells (wv o).toArray 228 (0,0))]∧o.length=la.length+lb.length∧Wd o∧(∀ j,k+lb.length≤j→nth 0 o j=0)∧val o=val (la.take k)*val lb) (fun v _=>la.length - (intOf v).toNat)
 case atStart=>exact⟨0,List.replicate (la.length+lb.length) 0,by omega,rfl,hS,by simp,Wd.zeros _,fun j _=>nth_replicate _ _ _,by simp [val,val_zeros]⟩
 case round =>
  clear hS;obtain⟨k,o,hk,rfl,hS,hol,how,ho0,hv⟩:=hrel;have hak:=ha.wd.nth k;rw [WB_eq] at hak;replace hv:=Hd hv;replace ho0:=Hd ho0;replace hol:=Hd hol
  by_cases hk1:k<la.length
  ·go_wp2_with (first|((with_reducible refine g_idx (T:=50) ?_);refine seq_any rfl (any_index_mag (T:=50) underlying50 sizeOf228 rfl rfl hao (by omega) (by omega) (fun _ _ _=>?_));simp only [NRM])|(with_reducible refine ld0 hS isAgg228 ?_))
   go_loopw [27,8] (fun v cv wr=>∃ (k2 cc:Nat) (o:List Nat),k2≤lb.length∧v=.int .i64 (k2:Int)∧cv=.int .u64 (cc:Int)∧Heap w wr [.frz (Old w) w,.blk bo (.cells (wv o).toArray 228 (0,0))]∧o.length=la.length+lb.length∧Wd o∧(∀ j,k+lb.length≤j→nth 0 o j=0)∧cc<4294967296∧val o+WB ^ (k+k2)*cc=val (la.take k)*val lb+WB ^ k*(nth 0 la k*val (lb.take k2))) (fun v _ _=>lb.length - (intOf v).toNat)
   case atStart=>exact⟨0,0,o,by omega,rfl,rfl,hS,hol.out,how,ho0.out,by omega,by simp [val,hv.out]⟩
   case round =>
    clear hS;obtain⟨k2,cc,o2,hk2,rfl,rfl,hS,hol2,how2,ho02,hcc,hv2⟩:=hrel;have hbk:=hb.wd.nth k2;have hok:=how2.nth (k+k2);rw [WB_eq] at hbk hok;replace hv2:=Hd hv2;replace ho02:=Hd ho02;have hm1:o2.length≤la.length+lb.length:=by omega
    have hm2:la.length+lb.length≤o2.length:=by omega
    clear hol2;obtain⟨hp1,hp2⟩:=prod_le hak hbk
    by_cases hk3:k2<lb.length
    ·go_wp2_with (first|((with_reducible refine g_idx (T:=50) ?_);refine seq_any rfl (any_index_mag (T:=50) underlying50 sizeOf228 rfl rfl hbo (by omega) (by omega) (fun _ _ _=>?_));simp only [NRM])|((with_reducible refine g_idx (T:=50) ?_);refine seq_any rfl (any_index_at (T:=50) underlying50 sizeOf228 rfl rfl (by omega) (by omega) ?_);simp only [NRM];simp only [Nat.zero_add,Int.toNat_natCast])|(with_reducible refine ld0 hS isAgg228 ?_)|((with_reducible refine g_load (T:=228) ?_);refine seq_of hS rfl (stp_load_word (T:=228) 1 isAgg228 rfl rfl (by first|omega) ?_);simp only [NRM])|((with_reducible refine g_store (T:=228) ?_);refine seq_store_word (T:=228) (v:=(nth 0 la k*nth 0 lb k2+nth 0 o2 (k+k2)+cc) % 4294967296) 1 hS rfl rfl (by omega) rfl (by first|omega) sizeOf228 (fun _ hS=>?_);simp only [NRM];simp only [NRH] at hS))
     have e1:((k:Int)+(k2:Int)).toNat=k+k2:=by omega
     have e2:(((nth 0 la k:Nat):Int)*((nth 0 lb k2:Nat):Int)+((nth 0 o2 (k+k2):Nat):Int)+(cc:Int)) / 4294967296=(((nth 0 la k*nth 0 lb k2+nth 0 o2 (k+k2)+cc) / 4294967296:Nat):Int):=by rw [Int.natCast_ediv,Int.natCast_add,Int.natCast_add,Int.natCast_mul];rfl
     have e3:nth 0 la k*nth 0 lb k2+nth 0 o2 (k+k2)+cc<18446744073709551616:=by
      have:((nth 0 la k*nth 0 lb k2:Nat):Int)=((nth 0 la k:Nat):Int)*((nth 0 lb k2:Nat):Int):=Int.natCast_mul _ _;omega
     rw [e1] at hS;rw [e2];go_roundw
     case rel=>exact times_in hS hk1 hk3 rfl e3 (by omega) how2 ho02.out hv2.out
     case measure=>simp [intOf];omega
    ·obtain rfl:k2=lb.length:=by omega
     go_wp2_with (first|((with_reducible refine g_idx (T:=50) ?_);refine seq_any rfl (any_index_at (T:=50) underlying50 sizeOf228 rfl rfl (by omega) (by omega) ?_);simp only [NRM];simp only [Nat.zero_add,Int.toNat_natCast])|((with_reducible refine g_store (T:=228) ?_);refine seq_store_word (T:=228) (v:=cc) 1 hS rfl rfl (by omega) rfl (by first|omega) sizeOf228 (fun _ hS=>?_);simp only [NRM];simp only [NRH] at hS))
     have e1:((k:Int)+(lb.length:Int)).toNat=k+lb.length:=by omega
     rw [e1] at hS;go_roundw
     case rel=>exact times_out hS hk1 hcc (by omega) how2 ho02.out hv2.out
     case measure=>simp [intOf];omega
  ·obtain rfl:k=la.length:=by omega
   go_wp2;go_ret;obtain⟨q1,q2⟩:=hS.magOut S 0 rfl how (by have:=hol.out;simp [maxLen];omega);refine⟨bo,_,o,by rw [hol.out];rfl,q1,q2,hol.out,by rw [hv.out,val_take_all (Nat.le_refl _)]⟩
end Go.Proofs
