/- Texts for the walk of the law: K9 KS1 K11. -/
import Derived.Shelf.Small.Bits
import Derived.Shelf.Small.Wraps
import Derived.Test.YtihpoboahbpaiaaGreatProg
import Derived.WalkMore
import Derived.Test.YtihpoboahbpaiaaGreatQ06
set_option maxRecDepth 100000
set_option maxHeartbeats 16000000
set_option linter.unusedVariables false
set_option linter.unusedSimpArgs false
namespace Go.Proofs
open Go.Proofs.Tryz
open Go.RowKit Go.Hp
theorem take_step' {o U v:List Nat} {j i d bw bw' c p x:Nat} (hi:j+i<o.length) (h0:nth 0 o (j+i)=nth 0 U (j+i)) (hp:p=c+d*nth 0 v i) (hx:x+p % WB+bw=nth 0 U (j+i)+WB*bw') (h:val o+WB ^ j*(d*val (v.take i))=val U+WB ^ (j+i)*(bw+c)) :
 val (o.set (j+i) x)+WB ^ j*(d*val (v.take (i+1)))=val U+WB ^ (j+(i+1))*(bw'+p / WB):=by
 have h1:=val_set o (j+i) x hi;have h2:=Nat.div_add_mod p WB;rw [h0] at h1;rw [val_take_succ,← Nat.add_assoc,WBs];have h3:WB ^ (j+i)=WB ^ j*WB ^ i:=Nat.pow_add ..;generalize val (o.set (j+i) x)=Y at *;generalize p % WB=m at *;generalize p / WB=q at *;generalize WB ^ (j+i)=B at *;generalize WB ^ j=B1 at *;generalize WB ^ i=B2 at *;subst hp;have e:B*(c+d*nth 0 v i)=B*WB*q+B*m:=by rw [← h2];grind
 have e2:B*x+B*m+B*bw=B*nth 0 U (j+i)+B*WB*bw':=by grind
 have e3:B1*(d*(val (List.take i v)+B2*nth 0 v i))=B1*(d*val (List.take i v))+B*(d*nth 0 v i):=by rw [h3];grind
 rw [e3]
 grind
theorem take_rel {w w':World} {F:Chunk} {bo:Nat} {T:TypeId} {U lv o:List Nat} {j m k d c bw bw' p x:Nat} {cv bv:Value} (hS:Heap w w' [F,.blk bo (.cells (wv (o.set (j+k) x)).toArray T (0,0))]) (hk:k<m) (hjm:j+m≤U.length)
 (hol:o.length=U.length) (how:Wd o) (ho0:∀ i,(i<j∨j+k≤i)→nth 0 o i=nth 0 U i) (hp:p=c+d*nth 0 lv k) (hx:x+p % 4294967296+bw=nth 0 U (j+k)+4294967296*bw') (hxw:x<4294967296) (hbw:bw'≤1) (hp64:p<18446744073709551616) (hcv:cv=.int .u64 ((p / 4294967296:Nat):Int)) (hbv:bv=.int .u64 (bw':Int)) (hcn:lv.length≤k→p<4294967296)
 (hv:val o+WB ^ j*(d*val (lv.take k))=val U+WB ^ (j+k)*(bw+c)) :
 ∃ (k' c' bw':Nat) (o':List Nat),k'≤m∧Value.int .i64 ((k:Int)+1)=.int .i64 (k':Int)∧cv=.int .u64 (c':Int)∧bv=.int .u64 (bw':Int)∧Heap w w' [F,.blk bo (.cells (wv o').toArray T (0,0))]∧o'.length=U.length∧Wd o'∧(∀ i,(i<j∨j+k'≤i)→nth 0 o' i=nth 0 U i)∧c'<4294967296∧bw'≤1∧(lv.length<k'→c'=0)∧val o'+WB ^ j*(d*val (lv.take k'))=val U+WB ^ (j+k')*(bw'+c'):=by
 refine⟨k+1,p / 4294967296,bw',_,by omega,rfl,hcv,hbv,hS,by simp [hol],how.set _ (by rw [WB_eq];exact hxw),fun i hi=>?_,by omega,hbw,fun hlt=>?_,?_⟩
 ·rw [nth_set,if_neg (by omega)];exact ho0 i (by omega)
 ·have:=hcn (by omega);omega
 ·have:=take_step' (o:=o) (U:=U) (v:=lv) (j:=j) (i:=k) (d:=d) (bw:=bw) (bw':=bw') (c:=c) (p:=p) (x:=x) (by omega) (ho0 _ (by omega)) hp (by rw [WB_eq];exact hx) hv
  rw [WB_eq] at this ⊢;exact this
theorem sub_u64 (u lo bw:Nat) (hu:u<4294967296) (hlo:lo<4294967296) (hbw:bw≤1):∃ t:Nat,IntKind.u64.wrap (IntKind.u64.wrap ((u:Int) - (lo:Int)) - (bw:Int))=(t:Int)∧t % 4294967296+lo+bw=u+4294967296*(t / 9223372036854775808)∧t / 9223372036854775808≤1:=by
 rw [IntKind.wrap_u64,IntKind.wrap_u64];refine⟨((((u:Int) - lo) % 18446744073709551616 - bw) % 18446744073709551616).toNat,?_,?_,?_⟩ <;> omega
theorem take_any (bo j m:Nat) (vd:Option Addr) (c n cd d:Nat) (U lv:List Nat) (w:World) (F:Nat→Prop) (T:TypeId) (hS:Heap w w [.frz F w,.blk bo (.cells (wv U).toArray T (0,0))]) (hv:Mag w F (.slice vd n cd) lv) (hm:m=lv.length+1) (hjm:j+m≤U.length) (hwU:Wd U) (hle:U.length≤4000) (hd:d<4294967296) :
 Calls Tryz.prog 214 #[.slice (some ⟨bo,j,none⟩) m c,.slice vd n cd,.int .u64 (d:Int)] w fun e w'=>∃ (o:List Nat) (bw:Nat),e=.returned (.bool (decide (bw=1)))∧Heap w w' [.frz F w,.blk bo (.cells (wv o).toArray T (0,0))]∧o.length=U.length∧Wd o∧(∀ i,(i<j∨j+m≤i)→nth 0 o i=nth 0 U i)∧bw≤1∧val o+WB ^ j*(d*val lv)=val U+WB ^ (j+m)*bw:=by
 have h2:=hv.len;subst h2;have hvc:=hv.cap
 go_enter func214,ntmps214
 go_wp2
 go_loopw [14,7,8] (fun kv cv bv wr=>∃ (k c bw:Nat) (o:List Nat),k≤m∧kv=.int .i64 (k:Int)∧cv=.int .u64 (c:Int)∧bv=.int .u64 (bw:Int)∧Heap w wr [.frz F w,.blk bo (.cells (wv o).toArray T (0,0))]∧o.length=U.length∧Wd o∧(∀ i,(i<j∨j+k≤i)→nth 0 o i=nth 0 U i)∧c<4294967296∧bw≤1∧(lv.length<k→c=0)∧val o+WB ^ j*(d*val (lv.take k))=val U+WB ^ (j+k)*(bw+c)) (fun v _ _ _=>m - (intOf v).toNat)
 case atStart=>exact⟨0,0,0,U,by omega,rfl,rfl,rfl,hS,rfl,hwU,fun _ _=>rfl,by omega,by omega,fun _=>rfl,by simp [val]⟩
 case round =>
  clear hS;obtain⟨k,c,bw,o,hk,rfl,rfl,rfl,hS,hol,how,ho0,hc,hbw,hcz,hvo⟩:=hrel;have huk:=hwU.nth (j+k);have hvk:=hv.wd.nth k;have hok:=Hd (fun h=>ho0 (j+k) h);have hok2:=how.nth (j+k);rw [WB_eq] at huk hvk hok2;replace hvo:=Hd hvo;replace ho0:=Hd ho0;have hol1:o.length≤U.length:=by omega
  have hol2:U.length≤o.length:=by omega
  clear hol
  by_cases hk1:k<m
  ·by_cases hk2:k<lv.length
   ·obtain⟨hp1,hp2⟩:=prod_le hd hvk
    obtain⟨p,hpe⟩:∃ p,p=c+d*nth 0 lv k:=⟨_,rfl⟩;have hpi:(c:Int)+(d:Int)*((nth 0 lv k:Nat):Int)=(p:Int):=by rw [hpe,Int.natCast_add,Int.natCast_mul]
    have hpb:p<18446744073709551616:=by omega
    replace hpe:=Hd hpe;have hcn:lv.length≤k→p<4294967296:=fun h=>by omega
    replace hcn:=Hd hcn;obtain⟨t,ht,ht1,ht2⟩:=sub_u64 (nth 0 o (j+k)) (p % 4294967296) bw hok2 (by omega) hbw;rw [show ((p % 4294967296:Nat):Int)=(p:Int) % 4294967296 by omega] at ht;replace ht1:=Hd ht1
    go_wp2_with (first|((with_reducible refine g_idx (T:=50) ?_);refine seq_any rfl (any_index_mag (T:=50) underlying50 sizeOf228 rfl rfl hv (by omega) (by omega) (fun _ _ _=>?_));simp only [NRM])|(with_reducible refine ld0 hS isAgg228 ?_)|((with_reducible refine g_load (T:=228) ?_);refine seq_of hS rfl (stp_load_word (T:=228) 1 isAgg228 rfl rfl (by first|omega) ?_);simp only [NRM])|((with_reducible refine g_store (T:=228) ?_);refine seq_store_word (T:=228) (v:=t % 4294967296) 1 hS rfl rfl (by omega) rfl (by first|omega) sizeOf228 (fun _ hS=>?_);simp only [NRM];simp only [NRH] at hS))
    go_roundw
    case rel=>exact take_rel (p:=p) (bw':=t / 9223372036854775808) hS hk1 hjm (by omega) how ho0.out hpe.out (by have:=hok.out (by omega);have:=ht1.out;omega) (by omega) (by omega) (by omega) (congrArg _ (by omega)) (congrArg _ (by omega)) hcn.out hvo.out
    case measure=>simp [intOf];omega
   ·have hz:=Hd (nth_out 0 lv k (by omega))
    have hpe:c=c+d*nth 0 lv k:=by rw [hz.out];rfl
    replace hpe:=Hd hpe;obtain⟨t,ht,ht1,ht2⟩:=sub_u64 (nth 0 o (j+k)) (c % 4294967296) bw hok2 (by omega) hbw;rw [show ((c % 4294967296:Nat):Int)=(c:Int) % 4294967296 by omega] at ht;replace ht1:=Hd ht1;have ht':IntKind.u64.wrap (IntKind.u64.wrap (((nth 0 o (j+k):Nat):Int) - (c:Int)) - (bw:Int))=(t:Int):=by rw [← ht,show (c:Int) % 4294967296=(c:Int) by omega]
    go_wp2_with (first|((with_reducible refine g_load (T:=228) ?_);refine seq_of hS rfl (stp_load_word (T:=228) 1 isAgg228 rfl rfl (by first|omega) ?_);simp only [NRM])|((with_reducible refine g_store (T:=228) ?_);refine seq_store_word (T:=228) (v:=t % 4294967296) 1 hS rfl rfl (by omega) rfl (by first|omega) sizeOf228 (fun _ hS=>?_);simp only [NRM];simp only [NRH] at hS))
    go_roundw
    case rel=>exact take_rel (p:=c) (bw':=t / 9223372036854775808) hS hk1 hjm (by omega) how ho0.out hpe.out (by have:=hok.out (by omega);have:=ht1.out;omega) (by omega) (by omega) (by omega) (congrArg _ (by omega)) (congrArg _ (by omega)) (fun _=>hc) hvo.out
    case measure=>simp [intOf];omega
  ·obtain rfl:k=m:=by omega
   have hc0:=hcz (by omega);subst hc0;have hfin:=hvo.out;rw [val_take_all (by omega),Nat.add_zero] at hfin;replace hfin:=Hd hfin;go_wp2;go_ret
   exact⟨o,bw,ret_bool (by
    have:bw=0∨bw=1:=by omega
    rcases this with h|h <;> simp [h]),hS,by omega,how,by first|(rw [← hm];exact ho0.out),hbw,by first|(rw [← hm];exact hfin.out)⟩
end Go.Proofs
theorem kfKS1 {α:Type} {o:Option α} {f g:α} (h:o=some f) (e:f=g:=by kernel_rfl):o=some g:=h.trans (congrArg some e)
namespace Go.Proofs
open Go.Proofs.Tryz
open Go.Shelf
def Tryz.lays128_ren:Go.Shelf.Ren:=⟨fun|128=>165|n=>n,fun|51=>228|3=>3|4=>4|46=>190|5=>5|9=>9|n=>n,fun|n=>n⟩
theorem Tryz.lays128:Go.Proofs.Lays.n128 Tryz.prog Tryz.lays128_ren:={
 mixed:=by kernel_rfl
 f128:=kfKS1 func165
 t3:=underlying3
 a3:=isAgg3
 z3:=sizeOf3
 v3:=zeroValue3
 t4:=underlying4
 a4:=isAgg4
 z4:=sizeOf4
 v4:=zeroValue4
 t5:=underlying5
 a5:=isAgg5
 z5:=sizeOf5
 v5:=zeroValue5
 t9:=underlying9
 a9:=isAgg9
 z9:=sizeOf9
 v9:=zeroValue9
 t46:=underlying190
 a46:=isAgg190
 z46:=sizeOf190
 v46:=zeroValue190
 t51:=underlying228
 a51:=isAgg228
 z51:=sizeOf228
 v51:=zeroValue228 }
theorem Tryz.bits_Len32 (x:Int) (w:World) (h0:0≤x) (h1:x≤4294967295) :
 Calls Tryz.prog 165 #[.int .u32 x] w fun e w'=>e=.returned (.int .i64 (Lib.bitLen x.toNat))∧w'=w:=Any.bits_Len32 Tryz.lays128 x w h0 h1
def Tryz.lays125_ren:Go.Shelf.Ren:=⟨fun|125=>112|128=>165|129=>166|n=>n,fun|46=>190|3=>3|51=>228|53=>217|4=>4|5=>5|9=>9|n=>n,fun|n=>n⟩
theorem Tryz.lays125:Go.Proofs.Lays.n125 Tryz.prog Tryz.lays125_ren:={
 mixed:=by kernel_rfl
 f125:=kfKS1 func112
 f128:=kfKS1 func165
 f129:=kfKS1 func166
 t3:=underlying3
 a3:=isAgg3
 z3:=sizeOf3
 v3:=zeroValue3
 t4:=underlying4
 a4:=isAgg4
 z4:=sizeOf4
 v4:=zeroValue4
 t5:=underlying5
 a5:=isAgg5
 z5:=sizeOf5
 v5:=zeroValue5
 t9:=underlying9
 a9:=isAgg9
 z9:=sizeOf9
 v9:=zeroValue9
 t46:=underlying190
 a46:=isAgg190
 z46:=sizeOf190
 v46:=zeroValue190
 t51:=underlying228
 a51:=isAgg228
 z51:=sizeOf228
 v51:=zeroValue228
 t53:=underlying217
 a53:=isAgg217
 z53:=sizeOf217
 v53:=zeroValue217 }
theorem Tryz.bits_Len (x:Int) (w:World) (h0:0≤x) (h1:x≤18446744073709551615) :
 Calls Tryz.prog 112 #[.int .u64 x] w fun e w'=>e=.returned (.int .i64 (Lib.bitLen x.toNat))∧w'=w:=Any.bits_Len Tryz.lays125 x w h0 h1
def Tryz.lays133_ren:Go.Shelf.Ren:=⟨fun|133=>212|128=>165|n=>n,fun|51=>228|3=>3|4=>4|46=>190|5=>5|9=>9|n=>n,fun|n=>n⟩
theorem Tryz.lays133:Go.Proofs.Lays.n133 Tryz.prog Tryz.lays133_ren:={
 mixed:=by kernel_rfl
 f128:=kfKS1 func165
 f133:=kfKS1 func212
 t3:=underlying3
 a3:=isAgg3
 z3:=sizeOf3
 v3:=zeroValue3
 t4:=underlying4
 a4:=isAgg4
 z4:=sizeOf4
 v4:=zeroValue4
 t5:=underlying5
 a5:=isAgg5
 z5:=sizeOf5
 v5:=zeroValue5
 t9:=underlying9
 a9:=isAgg9
 z9:=sizeOf9
 v9:=zeroValue9
 t46:=underlying190
 a46:=isAgg190
 z46:=sizeOf190
 v46:=zeroValue190
 t51:=underlying228
 a51:=isAgg228
 z51:=sizeOf228
 v51:=zeroValue228 }
theorem Tryz.bits_LeadingZeros32 (x:Int) (w:World) (h0:0≤x) (h1:x≤4294967295) :
 Calls Tryz.prog 212 #[.int .u32 x] w fun e w'=>e=.returned (.int .i64 (32 - (Lib.bitLen x.toNat:Int)))∧w'=w:=Any.bits_LeadingZeros32 Tryz.lays133 x w h0 h1
end Go.Proofs
namespace Go.Hp
open Go.Proofs.Tryz
open Go
theorem bitLen_low:∀ x:Nat,x≠0→x<2 ^ 64→1≤Lib.bitLen x∧2 ^ (Lib.bitLen x - 1)≤x:=by
 intro x
 induction x using Nat.strongRecOn with
 | ind x ih =>
  intro h0 h1;rw [Lib.bitLen_half x h0 h1];refine⟨by omega,?_⟩
  by_cases h2:x / 2=0
  ·rw [h2,show Lib.bitLen 0=0 by decide]
   simp;omega
  ·obtain⟨g1,g2⟩:=ih (x / 2) (by omega) h2 (by omega)
   rw [show 1+Lib.bitLen (x / 2) - 1=(Lib.bitLen (x / 2) - 1)+1 by omega,Nat.pow_succ];omega
theorem bitLen_high:∀ x:Nat,x<2 ^ 64→x<2 ^ Lib.bitLen x:=by
 intro x
 induction x using Nat.strongRecOn with
 | ind x ih =>
  intro h1
  by_cases h0:x=0
  ·subst h0;exact Nat.pow_pos (by decide)
  ·rw [Lib.bitLen_half x h0 h1]
   have:=ih (x / 2) (by omega) (by omega);rw [Nat.pow_add];omega
theorem shift_by {x:Nat} (h0:x≠0) (h1:x<4294967296):∃ s:Nat,(32:Int) - (Lib.bitLen x:Int)=(s:Int)∧s<32∧2147483648≤x*2 ^ s∧(x+1)*2 ^ s≤4294967296:=by
 obtain⟨g1,g2⟩:=bitLen_low x h0 (by omega);have g4:=bitLen_high x (by omega);have g3:Lib.bitLen x≤32:=Lib.bitLen_le x 32 (by omega) (by omega);refine⟨32 - Lib.bitLen x,by omega,by omega,?_,?_⟩
 ·have:2 ^ (Lib.bitLen x - 1)*2 ^ (32 - Lib.bitLen x)≤x*2 ^ (32 - Lib.bitLen x):=Nat.mul_le_mul_right _ g2
  rw [← Nat.pow_add,show Lib.bitLen x - 1+(32 - Lib.bitLen x)=31 by omega] at this;exact this
 ·have:(x+1)*2 ^ (32 - Lib.bitLen x)≤2 ^ Lib.bitLen x*2 ^ (32 - Lib.bitLen x):=Nat.mul_le_mul_right _ g4
  rw [← Nat.pow_add,show Lib.bitLen x+(32 - Lib.bitLen x)=32 by omega] at this;exact this
theorem shifted_lt {lb:List Nat} {s:Nat} (hw:Wd lb) (hn:1≤lb.length) (hx:(nth 0 lb (lb.length - 1)+1)*2 ^ s≤WB):val lb*2 ^ s<WB ^ lb.length:=by
 obtain⟨k,hk⟩:∃ k,lb.length=k+1:=⟨lb.length - 1,by omega⟩;rw [hk] at hx ⊢;simp only [Nat.add_sub_cancel] at hx;have h2:=val_take_succ lb k;rw [val_take_all (by omega)] at h2;have h3:=val_take_lt hw k;have h4:val lb+1≤WB ^ k*(nth 0 lb k+1):=by rw [Nat.mul_add,Nat.mul_one];omega
 have h5:(val lb+1)*2 ^ s≤WB ^ k*(nth 0 lb k+1)*2 ^ s:=Nat.mul_le_mul_right _ h4;have h6:WB ^ k*((nth 0 lb k+1)*2 ^ s)≤WB ^ k*WB:=Nat.mul_le_mul_left _ hx;have h7:0<2 ^ s:=Nat.pow_pos (by decide);rw [Nat.add_mul,Nat.one_mul,Nat.mul_assoc] at h5;rw [WBs];omega
end Go.Hp
namespace Go.Proofs
open Go.Proofs.Tryz
open Go.RowKit Go.Hp
theorem _root_.Go.Hp.Mag.trim {w:World} {S:Nat→Prop} {ad:Option Addr} {n c:Nat} {l:List Nat} (hm:Mag w S (.slice ad n c) l):Mag w S (.slice ad (trimW l).length c) (trimW l):=by
 have h1:=hm.len;subst h1;rw [trimW_len];exact hm.cut (trimN_le l _)
theorem trimW_le (l:List Nat):(trimW l).length≤l.length:=by rw [trimW_len];exact trimN_le l _
def DivRes (w:World) (S:Nat→Prop) (la lb:List Nat) (e:Ending) (w':World):Prop :=
 ∃ (S':Nat→Prop) (qd rd:Option Addr) (qc rc:Nat) (lq lr:List Nat),e=.returned (.tuple #[.slice qd lq.length qc,.slice rd lr.length rc])∧Pure w S w' S'∧Mag w' S' (.slice qd lq.length qc) lq∧Mag w' S' (.slice rd lr.length rc) lr∧Nm lq∧Nm lr∧lq.length≤2001∧val la=val lq*val lb+val lr∧val lr<val lb
theorem divide_less (ad bd:Option Addr) (n c m d:Nat) (la lb:List Nat) (w:World) (S:Nat→Prop) (ha:Mag w S (.slice ad n c) la) (hb:Mag w S (.slice bd m d) lb) (na:Nm la) (nb:Nm lb) (hlt:val la<val lb) :
 Calls Tryz.prog 140 #[.slice ad n c,.slice bd m d] w (DivRes w S la lb):=by
 have h1:=ha.len;have h2:=hb.len;subst h1 h2;have hS:=Heap.start w;have hc:cmpZ (val la:Nat) (val lb:Nat) = -1:=by rw [cmpZ_nat,if_pos hlt]
 replace hlt:=Hd hlt
 go_enter func140,ntmps140
 go_wp2
 go_step3
 go_wp2_with (first|(go_at_call 144;refine (compareW_any _ _ _ _ _ _ la lb _ S ha hb na nb).mono ?_;rintro e w' ⟨rfl,hp⟩))
 refine bodyPost_ret (results_tmp2 rfl _ _ _) rfl ?_;exact⟨S,none,ad,0,c,[],la,rfl,hp,Mag.nil _ _,ha.grow hp,.inl rfl,na,by simp,by simp [val],hlt.out⟩
theorem divide_word (ad bd:Option Addr) (n c m d:Nat) (la lb:List Nat) (w:World) (S:Nat→Prop) (ha:Mag w S (.slice ad n c) la) (hb:Mag w S (.slice bd m d) lb) (na:Nm la) (nb:Nm lb) (hle:la.length≤2000) (hge:val lb≤val la) (h1w:lb.length=1) :
 Calls Tryz.prog 140 #[.slice ad n c,.slice bd m d] w (DivRes w S la lb):=by
 have h1:=ha.len;have h2:=hb.len;have hm:m=1:=by omega
 subst h1 hm;obtain⟨x,rfl⟩:∃ x,lb=[x]:=List.length_eq_one_iff.1 h1w
 have hx0:0<x:=by
  rcases nb with h|⟨q,y,hq,hy⟩
  ·cases h
  ·have:q=[]∧x=y:=by
    cases q with
    | nil=>simp at hq;exact⟨rfl,hq⟩
    | cons z q=>simp at hq
   omega
 have hxw:x<4294967296:=by have:=hb.wd x (by simp);rw [WB_eq] at this;exact this
 have hv1:val [x]=x:=by simp [val]
 clear h2 h1w
 have hc:(cmpZ (val la:Nat) (val [x]:Nat)<0)=False:=by
  rw [cmpZ_nat,if_neg (by omega)];split <;> simp
 have hcd:decide (cmpZ (val la:Nat) (val [x]:Nat)<0)=false:=by simp [hc]
 clear hc;replace hge:=Hd hge;replace hv1:=Hd hv1
 go_enter func140,ntmps140
 go_wp2
 go_step3
 go_wp2_with (first|(go_at_call 144;refine (compareW_any _ _ _ _ _ _ la [x] _ S ha hb na nb).mono ?_;rintro e w' ⟨rfl,hp⟩;have ha:=ha.grow hp;have hb:=hb.grow hp;have hS:=Heap.start w';have hbo:=hb.old)|((with_reducible refine g_idx (T:=50) ?_);refine seq_any rfl (any_index_mag (T:=50) underlying50 sizeOf228 rfl rfl hbo (by omega) (by omega) (fun _ _ _=>?_));simp only [NRM])|(with_reducible refine ld0 hS isAgg228 ?_)|(go_at_call 210;refine (short_any _ _ _ la x _ S ha hx0 hxw hle).mono ?_;rintro e w2 ⟨bq,S2,lq,r,rfl,hp2,hq,hql,hr,hqv⟩;replace hql:=Hd hql;replace hqv:=Hd hqv;have hS:=Heap.start w2))
 refine (normal_any _ _ _ lq _ _ hq).mono ?_;rintro e w3 ⟨rfl,rfl⟩;simp only []
 go_wp2_with (first|((with_reducible refine g_bs (T:=50) ?_);refine seq_bs1 (T:=50) (v:=.int .u32 _) hS underlying50 sizeOf228 zeroValue228 rfl rfl rfl (by decide) (by decide) rfl (fun _ _ hS=>?_);simp only [NRM];simp only [Value.cells] at hS))
 refine (normal_any _ _ _ [r] _ _ (Mag.blk 1 hS (l:=[r]) rfl (by intro z hz;simp at hz;rw [hz,WB_eq];omega) (by simp [maxLen]))).mono ?_;rintro e w3 ⟨rfl,rfl⟩;simp only [];go_wp2;simp only [NRH] at hS;obtain⟨q1,q2⟩:=Heap.magOut (l:=[r]) S2 0 hS rfl (by intro z hz;simp at hz;rw [hz,WB_eq];omega) (by simp [maxLen]);refine bodyPost_ret (results_tmp2 rfl _ _ _) rfl ?_;refine⟨_,some ⟨bq,0,none⟩,_,_,_,trimW lq,trimW [r],rfl,(hp.trans hp2).trans q1,(hq.trim).grow q1,q2.trim,trimW_nm _,trimW_nm _,?_,?_,?_⟩
 ·have:=trimW_le lq;rw [hql.out] at this;omega
 ·rw [trimW_val,trimW_val,hv1.out,hqv.out.symm];simp [val]
 ·rw [trimW_val,hv1.out];simpa [val] using hr
end Go.Proofs
