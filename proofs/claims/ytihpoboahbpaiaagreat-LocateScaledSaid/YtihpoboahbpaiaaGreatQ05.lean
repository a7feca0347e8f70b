/- Texts for the walk of the law: K10 K3 K4. -/
import Derived.Test.YtihpoboahbpaiaaGreatQ04
set_option maxRecDepth 100000
set_option maxHeartbeats 16000000
set_option linter.unusedVariables false
set_option linter.unusedSimpArgs false
namespace Go.Hp
theorem take_eq_of {o U:List Nat} {j:Nat} (hl:o.length=U.length) (h:∀ i,i<j→nth 0 o i=nth 0 U i):o.take j=U.take j:=by
 apply nth_ext 0 (by simp [hl]);intro i hi;have hij:i<j:=by simp at hi;omega
 have h1:nth 0 (o.take j) i=nth 0 o i:=by unfold nth;simp [List.getD_eq_getElem?_getD,List.getElem?_take,hij]
 have h2:nth 0 (U.take j) i=nth 0 U i:=by unfold nth;simp [List.getD_eq_getElem?_getD,List.getElem?_take,hij]
 rw [h1,h2,h i hij]
theorem high_zero {U:List Nat} {j m:Nat} (h:val (U.drop j)<WB ^ m):∀ i,j+m≤i→nth 0 U i=0:=by
 intro i hi;have h1:=val_take_drop (U.drop j) (i - j);rw [List.drop_drop,show j+(i - j)=i by omega] at h1;have h2:=val_drop_nth U i;have h3:WB ^ m≤WB ^ (i - j):=Nat.pow_le_pow_right WB_pos (by omega)
 rcases Nat.eq_zero_or_pos (nth 0 U i) with h0|h0
 ·exact h0
 ·have:WB ^ (i - j)*1≤WB ^ (i - j)*val (U.drop i):=Nat.mul_le_mul_left _ (by omega)
  omega
theorem drop_lt {o:List Nat} {j m:Nat} (ho:Wd o) (h:∀ i,j+m≤i→nth 0 o i=0):val (o.drop j)<WB ^ m:=by
 have h1:val ((o.drop j).take m)=val (o.drop j):=val_drop0 fun i hi=>by
  have:=h (j+i) (by omega)
  simpa [nth,List.getD_eq_getElem?_getD] using this
 rw [← h1];exact val_take_lt (ho.drop j) m
theorem tail_eq {o U:List Nat} {j A B:Nat} (ht:o.take j=U.take j) (h:val o+WB ^ j*A=val U+WB ^ j*B):val (o.drop j)+A=val (U.drop j)+B:=by
 have h1:=val_take_drop o j;have h2:=val_take_drop U j;rw [ht] at h1;have h3:WB ^ j*(val (o.drop j)+A)=WB ^ j*(val (U.drop j)+B):=by rw [Nat.mul_add,Nat.mul_add];omega
 exact Nat.eq_of_mul_eq_mul_left (WBp j) h3
theorem div_right {U o out:List Nat} {j n d V N:Nat} (hol:o.length=U.length) (hag:∀ i,i<j→nth 0 o i=nth 0 U i) (ht:val o+WB ^ j*(d*V)=val U) (hX:val (U.drop j)<V*(d+1)) (hN:val U+val out*V=N) (hj:j<out.length) (h0:nth 0 out j=0) :
 val o+val (out.set j d)*V=N∧val (o.drop j)<V:=by
 have h1:=tail_eq (B:=0) (take_eq_of hol hag) (by simpa using ht);have h2:=val_set out j d hj;rw [h0] at h2
 constructor
 ·have e:val (out.set j d)=val out+WB ^ j*d:=by omega
  rw [e,Nat.add_mul,Nat.mul_assoc];omega
 ·exact dig_right (M:=0) (by simpa using h1) hX
theorem div_back {U o o2 out:List Nat} {j n d V N c:Nat} (hol:o.length=U.length) (ho2l:o2.length=U.length) (hag:∀ i,(i<j∨j+(n+1)≤i)→nth 0 o i=nth 0 U i) (hag2:∀ i,(i<j∨j+(n+1)≤i)→nth 0 o2 i=nth 0 o i) (hwo:Wd o) (hwo2:Wd o2)
 (ht:val o+WB ^ j*(d*V)=val U+WB ^ (j+(n+1))) (hb:val o2+WB ^ (j+(n+1))*c=val o+WB ^ j*V) (hX:val (U.drop j)<V*(d+1)) (hd:d*V<val (U.drop j)+V) (hXW:val (U.drop j)<WB ^ (n+1)) (hV:V<WB ^ (n+1)) (hN:val U+val out*V=N) (hj:j<out.length) (h0:nth 0 out j=0) :
 1≤d∧val o2+val (out.set j (d - 1))*V=N∧val (o2.drop j)<V:=by
 have hz:=high_zero hXW;have hpw:WB ^ (j+(n+1))=WB ^ j*WB ^ (n+1):=Nat.pow_add ..;rw [hpw] at ht hb;rw [Nat.mul_assoc] at hb;have h1:=tail_eq (take_eq_of hol fun i hi=>hag i (.inl hi)) ht;have h2:=tail_eq (take_eq_of (by omega) fun i hi=>hag2 i (.inl hi)) hb;have h3:val (o.drop j)<WB ^ (n+1):=drop_lt hwo fun i hi=>by rw [hag i (.inr hi)];exact hz i hi
 have h4:val (o2.drop j)<WB ^ (n+1):=drop_lt hwo2 fun i hi=>by rw [hag2 i (.inr hi),hag i (.inr hi)];exact hz i hi
 obtain⟨g1,g2,g3,g4⟩:=dig_back h1 h2 h3 h4 hV hd;refine⟨g1,?_,g4 hX⟩;have h5:=val_set out j (d - 1) hj;rw [h0] at h5;have e:val (out.set j (d - 1))=val out+WB ^ j*(d - 1):=by omega
 have h6:=val_take_drop o2 j;have h7:=val_take_drop U j;rw [take_eq_of (o:=o2) (U:=U) ho2l fun i hi=>by rw [hag2 i (.inl hi),hag i (.inl hi)]] at h6;rw [e,Nat.add_mul,Nat.mul_assoc];have h8:WB ^ j*(val (o2.drop j)+(d - 1)*V)=WB ^ j*val (U.drop j):=by rw [g3]
 rw [Nat.mul_add] at h8;omega
theorem est_parts {U lv:List Nat} {j n V:Nat} (hU:Wd U) (hlv:Wd lv) (hn:2≤n) (hln:lv.length=n) (hV:V=val lv) (hXV:val (U.drop (j+1))<V) :
 val (U.drop j)<V*WB ∧
 (∃ x0,val (U.drop j)=x0+WB ^ (n - 2)*((nth 0 U (j+n)*WB+nth 0 U (j+n - 1))*WB+nth 0 U (j+n - 2))∧x0<WB ^ (n - 2)) ∧
 (∃ v0,V=v0+WB ^ (n - 2)*(nth 0 lv (n - 1)*WB+nth 0 lv (n - 2))∧v0<WB ^ (n - 2)):=by
 have hVlt:V<WB ^ n:=by rw [hV,← hln];exact val_lt hlv
 have hX:val (U.drop j)<V*WB:=by
  have h1:=val_drop_nth U j;have h2:=hU.nth j;have h3:WB*(val (U.drop (j+1))+1)≤WB*V:=Nat.mul_le_mul_left _ hXV;rw [Nat.mul_add,Nat.mul_one] at h3;rw [Nat.mul_comm V WB];omega
 obtain⟨k,rfl⟩:∃ k,n=k+2:=⟨n - 2,by omega⟩;refine⟨hX,?_,?_⟩
 ·have hz:=high_zero (U:=U) (j:=j) (m:=k+3) (by
   have:V*WB≤WB ^ (k+2)*WB:=Nat.mul_le_mul_right _ (by omega);have e:WB ^ (k+3)=WB ^ (k+2)*WB:=Nat.pow_succ ..;omega)
  have h1:=val_take_drop (U.drop j) k;rw [List.drop_drop] at h1;have h2:=val_drop_nth U (j+k);have h3:=val_drop_nth U (j+k+1);have h4:=val_drop_nth U (j+k+1+1)
  have h5:val (U.drop (j+k+1+1+1))=0:=by
   have:=drop_lt (o:=U) (j:=j+k+1+1+1) (m:=0) hU (fun i hi=>hz i (by omega))
   simpa using this
  rw [h5] at h4;refine⟨val ((U.drop j).take k),?_,val_take_lt (hU.drop j) k⟩;rw [show j+(k+2) - 1=j+k+1 by omega,show j+(k+2) - 2=j+k by omega,show j+(k+2)=j+k+1+1 by omega,show k+2 - 2=k by omega];rw [← h1,h2,h3,h4]
  grind
 ·have h1:=val_take_drop lv k
  have h2:=val_drop_nth lv k;have h3:=val_drop_nth lv (k+1);have h4:val (lv.drop (k+1+1))=0:=by rw [List.drop_of_length_le (by omega)];rfl
  rw [h4] at h3;refine⟨val (lv.take k),?_,by rw [show k+2 - 2=k by omega];exact val_take_lt hlv k⟩;rw [hV,show k+2 - 1=k+1 by omega,show k+2 - 2=k by omega,← h1,h2,h3]
  grind
theorem top_big {lb lv:List Nat} {n s:Nat} (hn:1≤n) (hlb:lb.length=n) (hwb:Wd lb) (hlv:Wd lv) (hlvn:lv.length=n) (hv:val lv=val lb*2 ^ s) (hs:2147483648≤nth 0 lb (n - 1)*2 ^ s):2147483648≤nth 0 lv (n - 1):=by
 obtain⟨k,rfl⟩:∃ k,n=k+1:=⟨n - 1,by omega⟩;simp only [Nat.add_sub_cancel] at *;have h1:=val_take_succ lv k;have h2:=val_take_succ lb k;rw [val_take_all (by omega)] at h1 h2;have h3:=val_take_lt hlv k;have h4:WB ^ k*(nth 0 lb k*2 ^ s)≤val lv:=by rw [hv,h2,Nat.add_mul,Nat.mul_assoc];omega
 have h5:WB ^ k*2147483648≤WB ^ k*(nth 0 lb k*2 ^ s):=Nat.mul_le_mul_left _ hs
 rcases Nat.lt_or_ge (nth 0 lv k) 2147483648 with hlt|hge
 ·have:WB ^ k*(nth 0 lv k+1)≤WB ^ k*2147483648:=Nat.mul_le_mul_left _ hlt
  rw [Nat.mul_add,Nat.mul_one] at this;omega
 ·exact hge
theorem div_start {la lb U:List Nat} {n s:Nat} (hn:1≤n) (hlb:lb.length=n) (hla:n≤la.length) (hwa:Wd la) (nb:Nm lb) (hU:Wd U) (hUl:U.length=la.length+1) (hUv:val U=val la*2 ^ s) (hp:0<val lb):val (U.drop (la.length - n+1))<val lb*2 ^ s:=by
 have h1:=val_take_drop U (la.length - n+1);have h2:=val_lt hwa;have h3:=val_nm nb (by intro e;rw [e] at hlb;simp at hlb;omega);rw [hlb] at h3;have h4:WB ^ la.length=WB ^ (la.length - n+1)*WB ^ (n - 1):=by rw [← Nat.pow_add];congr 1;omega
 have hs:0<2 ^ s:=Nat.pow_pos (by decide)
 have h5:WB ^ (la.length - n+1)*val (U.drop (la.length - n+1))<WB ^ (la.length - n+1)*(WB ^ (n - 1)*2 ^ s):=by
  have:val la*2 ^ s<WB ^ la.length*2 ^ s:=Nat.mul_lt_mul_of_pos_right h2 hs;rw [h4,Nat.mul_assoc] at this;omega
 have h6:=Nat.lt_of_mul_lt_mul_left h5;have h7:WB ^ (n - 1)*2 ^ s≤val lb*2 ^ s:=Nat.mul_le_mul_right _ h3;omega
theorem div_end {A b q R s:Nat} (h:R+q*(b*2 ^ s)=A*2 ^ s) (hR:R<b*2 ^ s):q*b+R / 2 ^ s=A∧R / 2 ^ s<b:=by
 have hs:0<2 ^ s:=Nat.pow_pos (by decide);have h1:R=(A - q*b)*2 ^ s:=by rw [Nat.sub_mul];grind
 have h2:q*b≤A:=by
  have:q*b*2 ^ s≤A*2 ^ s:=by grind
  exact Nat.le_of_mul_le_mul_right this hs
 have h3:R / 2 ^ s=A - q*b:=by rw [h1,Nat.mul_div_cancel _ hs]
 refine⟨by omega,?_⟩;rw [Nat.div_lt_iff_lt_mul hs];exact hR
theorem back_step' {o U v:List Nat} {j i c t:Nat} (hi:j+i<o.length) (h0:nth 0 o (j+i)=nth 0 U (j+i)) (ht:t=c+(nth 0 U (j+i)+nth 0 v i)) (h:val o+WB ^ (j+i)*c=val U+WB ^ j*val (v.take i)) :
 val (o.set (j+i) (t % WB))+WB ^ (j+(i+1))*(t / WB)=val U+WB ^ j*val (v.take (i+1)):=by
 have h1:=val_set o (j+i) (t % WB) hi;have h2:=Nat.div_add_mod t WB;rw [h0] at h1;rw [val_take_succ,← Nat.add_assoc,WBs];have h3:WB ^ (j+i)=WB ^ j*WB ^ i:=Nat.pow_add ..;generalize val (o.set (j+i) (t % WB))=X at *;generalize t % WB=r at *;generalize t / WB=q at *;generalize WB ^ (j+i)=B at *;generalize WB ^ j=B1 at *;generalize WB ^ i=B2 at *;subst ht;have e:B*(c+(nth 0 U (j+i)+nth 0 v i))=B*WB*q+B*r:=by rw [← h2];grind
 have e2:B1*(val (List.take i v)+B2*nth 0 v i)=B1*val (List.take i v)+B*nth 0 v i:=by rw [h3];grind
 rw [e2]
 grind
end Go.Hp
namespace Go.Hp
theorem div_pos {U o:List Nat} {j n d V:Nat} (hol:o.length=U.length) (hag:∀ i,(i<j∨j+(n+1)≤i)→nth 0 o i=nth 0 U i) (hwo:Wd o) (hXW:val (U.drop j)<WB ^ (n+1)) (ht:val o+WB ^ j*(d*V)=val U+WB ^ (j+(n+1))):1≤d:=by
 have hz:=high_zero hXW;rw [Nat.pow_add] at ht;have h1:=tail_eq (take_eq_of hol fun i hi=>hag i (.inl hi)) ht;have h3:val (o.drop j)<WB ^ (n+1):=drop_lt hwo fun i hi=>by rw [hag i (.inr hi)];exact hz i hi
 rcases Nat.eq_zero_or_pos d with h0|h0
 ·subst h0;simp at h1;omega
 ·exact h0
end Go.Hp
namespace Go.Hp
theorem est_all {U lv:List Nat} {j n V un u1 u2 top nxt num X:Nat} (hU:Wd U) (hlv:Wd lv) (hn:2≤n) (hln:lv.length=n) (hV:V=val lv) (hXV:val (U.drop (j+1))<V)
 (hun:nth 0 U (j+n)=un) (hu1:nth 0 U (j+n - 1)=u1) (hu2:nth 0 U (j+n - 2)=u2) (htop:nth 0 lv (n - 1)=top) (hnxt:nth 0 lv (n - 2)=nxt) (h0:0<top) (hnum:num=un*WB+u1) (hX:val (U.drop j)=X) :
 X<V*WB∧X<V*(num / top+1)∧(∀ d r,d*top+r=num→d<WB→d*nxt≤r*WB+u2→d*V<X+V)∧(∀ d r,d*top+r=num→r*WB+u2<d*nxt→X<V*d)∧(∀ d r,d*top+r=num→WB≤r→d<WB∧d*nxt≤r*WB+u2):=by
 have hu1w:=hU.nth (j+n - 1);have hu2w:=hU.nth (j+n - 2);have hnw:=hlv.nth (n - 2);obtain⟨hXB,⟨x0,hx0e,hx0l⟩,⟨v0,hv0e,hv0l⟩⟩:=est_parts (j:=j) hU hlv hn hln hV hXV;rw [hun,hu1,hu2,← hnum,hX] at hx0e;rw [htop,hnxt] at hv0e;rw [hu1] at hu1w;rw [hu2] at hu2w;rw [hnxt] at hnw;rw [hX] at hXB;clear hun hu1 hu2 htop hnxt hX hU hlv hln hV hXV;generalize WB ^ (n - 2)=L at *;generalize WB=B at *
 have hnumT:num<top*B+B:=by
  refine num_bound (L:=L) (V:=V) (X:=X) hXB ?_ ?_ hnum hu1w
  ·rw [hx0e,hnum]
   have e:L*B*B*un=L*(un*B*B):=by grind
   rw [e];have h2:L*(un*B*B)≤L*((un*B+u1)*B+u2):=Nat.mul_le_mul_left _ (by rw [Nat.add_mul];omega);omega
  ·rw [hv0e]
   have e:L*B*(top+1)=L*(top*B)+L*B:=by grind
   rw [e];have h2:L*(top*B+nxt+1)≤L*(top*B+B):=Nat.mul_le_mul_left _ (by omega);rw [Nat.mul_add,Nat.mul_one,Nat.mul_add] at h2;rw [Nat.mul_add] at h2;rw [Nat.mul_add];omega
 refine⟨hXB,?_,fun d r h1 h2 h3=>est_end hx0e hv0e hv0l h0 h1 h2 h3,fun d r h1 h2=>est_more hx0e hx0l hv0e h1 h2,fun d r h1 h2=>est_break h1 h2 hnumT hnw h0⟩;refine est_init (B:=B) (L:=L) ?_ hv0e h0;rw [hx0e];have:L*(num*B+u2+1)≤L*(num*B+B):=Nat.mul_le_mul_left _ (by omega);rw [Nat.mul_add,Nat.mul_one] at this;omega
end Go.Hp
namespace Go.Proofs
open Go.Proofs.Tryz
open Go.RowKit Go.Hp
theorem Tryz.info228:(Tryz.prog.info? 228).map (fun i=>(i.zero,i.size,i.bytes))=some (some (.int .u32 0),1,4):=by kernel_rfl
theorem ret_int {k:IntKind} {a b:Int} (h:a=b):Ending.returned (.int k a)=.returned (.int k b):=by rw [h]
theorem ret_bool {a b:Bool} (h:a=b):Ending.returned (.bool a)=.returned (.bool b):=by rw [h]
def trimN (l:List Nat):Nat→Nat
 | 0=>0
 | k+1=>if nth 0 l k=0 then trimN l k else k+1
def trimW (l:List Nat):List Nat:=l.take (trimN l l.length)
theorem trimN_le (l:List Nat):∀ k,trimN l k≤k
 | 0=>Nat.le_refl _
 | k+1=>by have:=trimN_le l k;simp only [trimN];split <;> omega
theorem trimN_zero (l:List Nat):∀ k i,trimN l k≤i→i<k→nth 0 l i=0
 | 0,i,_,h=>by omega
 | k+1,i,h1,h2=>by
  simp only [trimN] at h1
  split at h1
  ·rename_i h0
   rcases Nat.lt_or_ge i k with h|h
   ·exact trimN_zero l k i h1 h
   ·obtain rfl:i=k:=by omega
    exact h0
  ·omega
theorem trimN_nm (l:List Nat):∀ k,k≤l.length→Nm (l.take (trimN l k))
 | 0,_=>.inl (by simp [trimN])
 | k+1,h=>by
  simp only [trimN]
  split
  ·exact trimN_nm l k (by omega)
  ·rename_i h0;exact nm_snoc h h0
theorem trimW_nm (l:List Nat):Nm (trimW l):=trimN_nm l _ (Nat.le_refl _)
theorem trimW_val (l:List Nat):val (trimW l)=val l:=val_drop0 fun i hi=>by
 rcases Nat.lt_or_ge i l.length with h|h
 ·exact trimN_zero l _ i hi h
 ·exact nth_out 0 l i h
theorem trimW_len (l:List Nat):(trimW l).length=trimN l l.length:=by have:=trimN_le l l.length;simp [trimW];omega
def lenS:Value→Nat
 | .slice _ k _=>k
 | _=>0
theorem normal_any (ad:Option Addr) (n c:Nat) (l:List Nat) (w:World) (S:Nat→Prop) (hm:Mag w S (.slice ad n c) l) :
 Calls Tryz.prog 211 #[.slice ad n c] w fun e w'=>e=.returned (.slice ad (trimW l).length c)∧w=w':=by
 have hn:=hm.len;subst hn;have hle:=hm.sl.le;have hmo:=hm.old;have hS:=Heap.start w
 go_enter func211,ntmps211
 go_wp2
 go_loopw [0] (fun v wr=>∃ k:Nat,k≤l.length∧v=.slice ad k c∧wr=w∧trimN l l.length=trimN l k) (fun v _=>lenS v)
 case atStart=>exact⟨l.length,Nat.le_refl _,rfl,rfl,rfl⟩
 case round =>
  obtain⟨k,hk,rfl,rfl,ht⟩:=hrel
  by_cases h0:k=0
  ·subst h0
   go_wp2;go_ret;refine⟨?_,rfl⟩;rw [trimW_len,ht];rfl
  ·obtain⟨j,rfl⟩:∃ j,k=j+1:=⟨k - 1,by omega⟩
   have hcut:=hmo.cut hk;have hlt:=List.length_take_le (j+1) l;have hnt:nth 0 (l.take (j+1)) j=nth 0 l j:=nth_take 0 l (by omega);have hc:=hm.cap
   by_cases hz:nth 0 l j=0
   ·have hb:((((nth 0 (l.take (j+1)) j:Nat):Int)) == 0)=true:=by rw [hnt,hz];rfl
    replace hnt:=Hd hnt;replace hz:=Hd hz
    go_wp2_with (first|((with_reducible refine g_idx (T:=50) ?_);refine seq_any rfl (any_index_mag (T:=50) underlying50 sizeOf228 rfl rfl hcut (by omega) (by omega) (fun _ _ _=>?_));simp only [NRM])|(with_reducible refine ld0 hS isAgg228 ?_))
    go_roundw
    case rel=>exact⟨j,by omega,rfl,trivial,by rw [ht];simp [trimN,hz.out]⟩
    case measure=>simp [lenS]
   ·have hb:((((nth 0 (l.take (j+1)) j:Nat):Int)) == 0)=false:=by rw [hnt];simpa using hz
    go_wp2_with (first|((with_reducible refine g_idx (T:=50) ?_);refine seq_any rfl (any_index_mag (T:=50) underlying50 sizeOf228 rfl rfl hcut (by omega) (by omega) (fun _ _ _=>?_));simp only [NRM])|(with_reducible refine ld0 hS isAgg228 ?_))
    go_ret;refine⟨?_,rfl⟩;rw [trimW_len,ht];simp [trimN,hz]
theorem signed_is {w:World} {S:Nat→Prop} {ad:Option Addr} {n c:Nat} {l:List Nat} (hm:Mag w S (.slice ad n c) l) (neg:Bool) (hfit:val l<Lim):IsI w S ⟨neg && decide (0<(trimW l).length),ad,(trimW l).length,c⟩ (if neg then -(val l:Int) else val l):=by
 have h1:=hm.len;subst h1;have h2:Mag w S (.slice ad (trimW l).length c) (trimW l):=by rw [trimW_len];exact hm.cut (trimN_le l _)
 have h3:=trimW_val l;have h4:=trimW_nm l;refine⟨trimW l,h2,h4,Lim_len h4 (by rw [h3];exact hfit),?_,?_⟩
 ·have h5:=val_zero_nm h4
  rw [h3] at h5;cases neg
  ·simp
  ·simp only [Bool.true_and,if_true]
   congr 1
   have:0<(trimW l).length↔trimW l≠[]:=by rw [List.length_pos_iff]
   rw [eq_iff_iff,this]
   constructor
   ·intro h;have:val l≠0:=fun e=>h (h5.1 e)
    omega
   ·intro h e;have:=h5.2 e;omega
 ·rw [h3];cases neg <;> simp
theorem signed_any (neg:Bool) (ad:Option Addr) (n c:Nat) (l:List Nat) (w:World) (S:Nat→Prop) (hm:Mag w S (.slice ad n c) l) (hfit:val l<Lim) :
 Calls Tryz.prog 143 #[.bool neg,.slice ad n c] w fun e w'=>∃ x:WI,e=.returned (.tuple #[.agg #[.bool x.neg,.slice x.ad x.n x.cap],.int .i64 0])∧Pure w S w' S∧IsI w' S x (if neg then -(val l:Int) else val l):=by
 have hS:=Heap.start w;have hI:=signed_is hm neg hfit;have hlen:(trimW l).length≤512:=Lim_len (trimW_nm l) (by rw [trimW_val];exact hfit)
 go_enter func143,ntmps143
 go_wp2_with (first|(with_reducible refine alA hS zeroValue52 fun br wbr hS=>?_)|(go_at_call 211;refine (normal_any _ _ _ l _ S (hm.grow (hS.pure S))).mono ?_;rintro e w' ⟨rfl,rfl⟩)|(with_reducible refine stA 1 hS sizeOf52 fun _ hS=>?_))
 ·exact ret_ct 1 hS rfl rfl rfl isAgg52 sizeOf52 rfl rfl ⟨⟨decide (0<(trimW l).length),ad,_,c⟩,rfl,hS.pure S,by simpa [h] using hI.grow (hS.pure S)⟩
 ·exact ret_ct 1 hS rfl rfl rfl isAgg52 sizeOf52 rfl rfl ⟨⟨false,ad,_,c⟩,rfl,hS.pure S,by simpa [h] using hI.grow (hS.pure S)⟩
theorem _root_.Go.Hp.IsI.neg {w:World} {S:Nat→Prop} {x:WI} {z:Int} (h:IsI w S x z):IsI w S ⟨(!x.neg) && decide (0<x.n),x.ad,x.n,x.cap⟩ (-z):=by
 obtain⟨l,h1,h2,h3,h4,h5⟩:=h;refine⟨l,h1,h2,h3,?_,by rw [h5,Int.natAbs_neg]⟩;have hl:=h1.len;have h6:=val_zero_nm h2
 have h7:0<x.n↔z≠0:=by
  rw [hl,List.length_pos_iff]
  constructor
  ·intro h e;exact h (h6.1 (by rw [h5,e];rfl))
  ·intro h e;have:=h6.2 e;omega
 dsimp only;rw [h4]
 by_cases hz:z<0
 ·simp [hz];omega
 ·by_cases h0:z=0
  ·subst h0;simp at h7;simp [h7]
  ·have:0<x.n:=h7.2 h0
   simp [hz,this];omega
theorem neg_any (x:WI) (z:Int) (w:World) (S:Nat→Prop) (hx:IsI w S x z) :
 Calls Tryz.prog 151 #[.agg #[.bool x.neg,.slice x.ad x.n x.cap]] w fun e w'=>∃ y:WI,e=.returned (.agg #[.bool y.neg,.slice y.ad y.n y.cap])∧Pure w S w' S∧IsI w' S y (-z):=by
 have hI:=hx.neg;obtain⟨xneg,xad,xn,xcap⟩:=x;have hS:=Heap.start w;dsimp only at hI ⊢;cases xneg
 ·go_enter func151,ntmps151
  go_wp2_with (with_reducible first|refine bxA hS fun b1 wb1 hS=>?_|refine alA hS zeroValue52 fun br wbr hS=>?_|refine ldB 1 hS isAgg4 ?_|refine ldB 1 hS isAgg50 ?_|refine stA 2 hS sizeOf52 fun _ hS=>?_)
  exact ret_c 2 hS rfl rfl rfl isAgg52 sizeOf52 rfl rfl ⟨⟨decide (0<xn),xad,xn,xcap⟩,rfl,hS.pure S,by simpa using hI.grow (hS.pure S)⟩
 ·go_enter func151,ntmps151
  go_wp2_with (with_reducible first|refine bxA hS fun b1 wb1 hS=>?_|refine alA hS zeroValue52 fun br wbr hS=>?_|refine ldB 1 hS isAgg4 ?_|refine ldB 1 hS isAgg50 ?_|refine stA 2 hS sizeOf52 fun _ hS=>?_)
  exact ret_c 2 hS rfl rfl rfl isAgg52 sizeOf52 rfl rfl ⟨⟨false,xad,xn,xcap⟩,rfl,hS.pure S,by simpa using hI.grow (hS.pure S)⟩
def cmpZ (a b:Int):Int:=if a<b then -1 else if b<a then 1 else 0
theorem cmpInt_any (a b:Int) (w:World):Calls Tryz.prog 80 #[.int .i64 a,.int .i64 b] w fun e w'=>e=.returned (.int .i64 (cmpZ a b))∧w=w':=by
 unfold cmpZ
 by_cases h1:a<b
 ·go_enter func80,ntmps80
  go_wp2;go_ret;exact⟨ret_int (by simp [h1]),rfl⟩
 ·by_cases h2:b<a
  ·go_enter func80,ntmps80
   go_wp2;go_ret;exact⟨ret_int (by simp [h1,h2]),rfl⟩
  ·go_enter func80,ntmps80
   go_wp2;go_ret;exact⟨ret_int (by simp [h1,h2]),rfl⟩
theorem cmpWord_any (a b:Nat) (w:World):Calls Tryz.prog 217 #[.int .u32 a,.int .u32 b] w fun e w'=>e=.returned (.int .i64 (cmpZ a b))∧w=w':=by
 unfold cmpZ
 by_cases h1:a<b
 ·go_enter func217,ntmps217
  go_wp2;go_ret;exact⟨ret_int (by simp [h1]),rfl⟩
 ·by_cases h2:b<a
  ·go_enter func217,ntmps217
   go_wp2;go_ret;exact⟨ret_int (by simp [h1,h2]),rfl⟩
  ·go_enter func217,ntmps217
   go_wp2;go_ret;exact⟨ret_int (by simp [h1,h2]),rfl⟩
end Go.Proofs
namespace Go.Proofs
open Go.Proofs.Tryz
open Go.RowKit Go.Hp
theorem cmpZ_self (a:Int):cmpZ a a=0:=by simp [cmpZ]
theorem cmpZ_nat {a b:Nat}:cmpZ (a:Int) (b:Int)=if a<b then -1 else if b<a then 1 else 0:=by unfold cmpZ;simp
theorem cmpZ_eq0 {a b:Int}:cmpZ a b=0↔a=b:=by unfold cmpZ;split <;> (try split) <;> omega
theorem cmp_at {a b:List Nat} {i:Nat} (ha:Wd a) (hb:Wd b) (hi:i<a.length) (hib:i<b.length) (hs:a.drop (i+1)=b.drop (i+1)) (hne:cmpZ (nth 0 a i:Nat) (nth 0 b i:Nat)≠0):cmpZ (nth 0 a i:Nat) (nth 0 b i:Nat)=cmpZ (val a:Nat) (val b:Nat):=by
 rcases Nat.lt_trichotomy (nth 0 a i) (nth 0 b i) with h|h|h
 ·have:=cmp_top ha hi hib hs h
  simp [cmpZ_nat,h,this]
 ·rw [h,cmpZ_self] at hne;exact absurd rfl hne
 ·have:=cmp_top hb hib hi hs.symm h
  simp only [cmpZ_nat];rw [if_neg (by omega),if_pos h,if_neg (by omega),if_pos this]
theorem cmp_len {a b:List Nat} (ha:Wd a) (hb:Wd b) (na:Nm a) (nb:Nm b) (hne:cmpZ a.length b.length≠0):cmpZ a.length b.length=cmpZ (val a:Nat) (val b:Nat):=by
 rcases Nat.lt_trichotomy a.length b.length with h|h|h
 ·have:=val_lt_of_len ha nb h
  simp [cmpZ_nat,h,this]
 ·rw [h,cmpZ_self] at hne;exact absurd rfl hne
 ·have:=val_lt_of_len hb na h
  simp only [cmpZ_nat];rw [if_neg (by omega),if_pos h,if_neg (by omega),if_pos this]
theorem compareW_any (ad bd:Option Addr) (n c m d:Nat) (la lb:List Nat) (w:World) (S:Nat→Prop) (ha:Mag w S (.slice ad n c) la) (hb:Mag w S (.slice bd m d) lb) (na:Nm la) (nb:Nm lb) :
 Calls Tryz.prog 144 #[.slice ad n c,.slice bd m d] w fun e w'=>e=.returned (.int .i64 (cmpZ (val la:Nat) (val lb:Nat)))∧Pure w S w' S:=by
 have h1:=ha.len;have h2:=hb.len;subst h1 h2;have hla:=ha.cap;have hlb:=hb.cap;have hao:=ha.old;have hbo:=hb.old;have hS:=Heap.start w;have HL:=Hd (fun h=>cmp_len ha.wd hb.wd na nb h)
 by_cases hlen:la.length=lb.length
 ·have hc0:cmpZ la.length lb.length=0:=by rw [hlen,cmpZ_self]
  replace hlen:=Hd hlen
  go_enter func144,ntmps144
  go_wp2_with (first|(go_at_call 80;refine (cmpInt_any _ _ _).mono ?_;rintro e w' ⟨rfl,rfl⟩;rw [hc0]))
  go_loopw [6] (fun v wr=>∃ k:Nat,k≤la.length∧v=.int .i64 ((k:Int) - 1)∧Heap w wr [.frz (Old w) w]∧la.drop k=lb.drop k) (fun v _=>(intOf v+1).toNat)
  case atStart=>exact⟨la.length,Nat.le_refl _,by go_num,hS,by rw [List.drop_length,hlen.out,List.drop_length]⟩
  case round =>
   obtain⟨k,hk,rfl,hS,hd⟩:=hrel;have hlen':=hlen.out
   by_cases h0:k=0
   ·subst h0
    have hv:la=lb:=by simpa using hd
    have hq:cmpZ (val la:Nat) (val lb:Nat)=0:=by rw [hv,cmpZ_self]
    replace hlen':=Hd hlen';clear hv;go_wp2;go_ret;exact⟨ret_int hq.symm,hS.pure S⟩
   ·obtain⟨j,rfl⟩:∃ j,k=j+1:=⟨k - 1,by omega⟩
    have hj1:j<la.length:=by omega
    have hj2:j<lb.length:=by omega
    replace hlen':=Hd hlen'
    by_cases hz:nth 0 la j=nth 0 lb j
    ·have hcz:cmpZ (nth 0 la j:Nat) (nth 0 lb j:Nat)=0:=by rw [hz,cmpZ_self]
     replace hz:=Hd hz;replace hd:=Hd hd;go_wp2;refine rg0 [.p 0,.p 1,.p 2,.r 3,.p 4,.p 5,.p 6,.r 7,.e 8,.p 9] [] hS fun w1 hS=>?_
     repeat (first|((with_reducible refine m_pure ?_);refine sched_any rfl rfl (any_index_mag (T:=50) underlying50 sizeOf228 rfl rfl hao (by omega) (by omega) (fun _ _ _=>?_));simp only [NRM])|((with_reducible refine m_pure ?_);refine sched_any rfl rfl (any_index_mag (T:=50) underlying50 sizeOf228 rfl rfl hbo (by omega) (by omega) (fun _ _ _=>?_));simp only [NRM])|(with_reducible first|refine sld0 isAgg228 ?_|refine spL ?_))
     refine exL ?_
     go_wp2_with (fail)
     refine (cmpWord_any _ _ _).mono ?_;rintro e w' ⟨rfl,rfl⟩;simp only [];go_step;refine ext_end hS ?_;refine mvs ?_;refine snL ?_;go_wp2;go_roundw
     case rel=>exact⟨j,by omega,rfl,hS,drop_step hj1 hj2 hd.out hz.out⟩
     case measure=>simp [intOf]
    ·have hcn:cmpZ (nth 0 la j:Nat) (nth 0 lb j:Nat)≠0:=fun h=>by have:=cmpZ_eq0.1 h;omega
     have hq:=cmp_at ha.wd hb.wd hj1 hj2 hd hcn;have hb0:(cmpZ (nth 0 la j:Nat) (nth 0 lb j:Nat) != 0)=true:=by simpa using hcn
     replace hz:=Hd hz;replace hd:=Hd hd;replace hq:=Hd hq;replace hcn:=Hd hcn;go_wp2;refine rg0 [.p 0,.p 1,.p 2,.r 3,.p 4,.p 5,.p 6,.r 7,.e 8,.p 9] [] hS fun w1 hS=>?_
     repeat (first|((with_reducible refine m_pure ?_);refine sched_any rfl rfl (any_index_mag (T:=50) underlying50 sizeOf228 rfl rfl hao (by omega) (by omega) (fun _ _ _=>?_));simp only [NRM])|((with_reducible refine m_pure ?_);refine sched_any rfl rfl (any_index_mag (T:=50) underlying50 sizeOf228 rfl rfl hbo (by omega) (by omega) (fun _ _ _=>?_));simp only [NRM])|(with_reducible first|refine sld0 isAgg228 ?_|refine spL ?_))
     refine exL ?_
     go_wp2_with (fail)
     refine (cmpWord_any _ _ _).mono ?_;rintro e w' ⟨rfl,rfl⟩;simp only [];go_step;refine ext_end hS ?_;refine mvs ?_;refine snL ?_;go_wp2;go_ret;exact⟨ret_int hq.out,hS.pure S⟩
 ·have hcn:cmpZ la.length lb.length≠0:=fun h=>by have:=cmpZ_eq0.1 h;omega
  have hq:=cmp_len ha.wd hb.wd na nb hcn;have hb0:(cmpZ la.length lb.length != 0)=true:=by simpa using hcn
  replace hlen:=Hd hlen;replace hq:=Hd hq;replace hcn:=Hd hcn
  go_enter func144,ntmps144
  go_wp2_with (first|(go_at_call 80;refine (cmpInt_any _ _ _).mono ?_;rintro e w' ⟨rfl,rfl⟩))
  go_ret;exact⟨ret_int hq.out,hS.pure S⟩
theorem cmpZ_pos {a b:Int} (ha:¬ a<0) (hb:¬ b<0):cmpZ (a.natAbs:Nat) (b.natAbs:Nat)=cmpZ a b:=by
 rw [show ((a.natAbs:Nat):Int)=a by omega,show ((b.natAbs:Nat):Int)=b by omega]
theorem cmpZ_neg {a b:Int} (ha:a<0) (hb:b<0):cmpZ (b.natAbs:Nat) (a.natAbs:Nat)=cmpZ a b:=by
 unfold cmpZ;rw [show ((a.natAbs:Nat):Int) = -a by omega,show ((b.natAbs:Nat):Int) = -b by omega]
 split <;> split <;> (try split) <;> (try split) <;> omega
theorem compareI_any (x y:WI) (a b:Int) (w:World) (S:Nat→Prop) (hx:IsI w S x a) (hy:IsI w S y b) :
 Calls Tryz.prog 97 #[.agg #[.bool x.neg,.slice x.ad x.n x.cap],.agg #[.bool y.neg,.slice y.ad y.n y.cap]] w fun e w'=>e=.returned (.int .i64 (cmpZ a b))∧Pure w S w' S:=by
 obtain⟨xneg,xad,xn,xcap⟩:=x;obtain⟨yneg,yad,yn,ycap⟩:=y;obtain⟨la,ha,na,la512,hxn,hva⟩:=hx;obtain⟨lb,hb,nb,lb512,hyn,hvb⟩:=hy;dsimp only at ha hb hxn hyn ⊢;have hS:=Heap.start w;cases xneg
 ·have h1:¬ a<0:=by simpa using hxn.symm
  cases yneg
  ·have h2:¬ b<0:=by simpa using hyn.symm
   clear hxn hyn;replace hva:=Hd hva;replace hvb:=Hd hvb
   go_enter func97,ntmps97
   go_wp2_with (first|(with_reducible first|refine bxA hS fun bx wbx hS=>?_|refine ldB 1 hS isAgg4 ?_|refine ldB 1 hS isAgg50 ?_|refine ldB 2 hS isAgg4 ?_|refine ldB 2 hS isAgg50 ?_)|(go_at_call 144;refine (compareW_any _ _ _ _ _ _ la lb _ S (ha.grow (hS.pure S)) (hb.grow (hS.pure S)) na nb).mono ?_;rintro e w' ⟨rfl,hp⟩))
   go_ret;exact⟨ret_int (by rw [hva.out,hvb.out,cmpZ_pos (by omega) (by omega)]),(hS.pure S).trans hp⟩
  ·have h2:b<0:=by simpa using hyn.symm
   clear hxn hyn;replace hva:=Hd hva;replace hvb:=Hd hvb
   go_enter func97,ntmps97
   go_wp2_with (with_reducible first|refine bxA hS fun bx wbx hS=>?_|refine ldB 1 hS isAgg4 ?_|refine ldB 2 hS isAgg4 ?_)
   go_ret;exact⟨ret_int (by unfold cmpZ;rw [if_neg (by omega),if_pos (by omega)]),hS.pure S⟩
 ·have h1:a<0:=by simpa using hxn.symm
  cases yneg
  ·have h2:¬ b<0:=by simpa using hyn.symm
   clear hxn hyn;replace hva:=Hd hva;replace hvb:=Hd hvb
   go_enter func97,ntmps97
   go_wp2_with (with_reducible first|refine bxA hS fun bx wbx hS=>?_|refine ldB 1 hS isAgg4 ?_|refine ldB 2 hS isAgg4 ?_)
   go_ret;exact⟨ret_int (by unfold cmpZ;rw [if_pos (by omega)]),hS.pure S⟩
  ·have h2:b<0:=by simpa using hyn.symm
   clear hxn hyn;replace hva:=Hd hva;replace hvb:=Hd hvb
   go_enter func97,ntmps97
   go_wp2_with (first|(with_reducible first|refine bxA hS fun bx wbx hS=>?_|refine ldB 1 hS isAgg4 ?_|refine ldB 1 hS isAgg50 ?_|refine ldB 2 hS isAgg4 ?_|refine ldB 2 hS isAgg50 ?_)|(go_at_call 144;refine (compareW_any _ _ _ _ _ _ lb la _ S (hb.grow (hS.pure S)) (ha.grow (hS.pure S)) nb na).mono ?_;rintro e w' ⟨rfl,hp⟩))
   go_ret;exact⟨ret_int (by rw [hva.out,hvb.out,cmpZ_neg h1 h2]),(hS.pure S).trans hp⟩
theorem signI_any (x:WI) (a:Int) (w:World) (S:Nat→Prop) (hx:IsI w S x a) :
 Calls Tryz.prog 98 #[.agg #[.bool x.neg,.slice x.ad x.n x.cap]] w fun e w'=>e=.returned (.int .i64 (cmpZ a 0))∧Pure w S w' S:=by
 obtain⟨xneg,xad,xn,xcap⟩:=x;dsimp only;have hS:=Heap.start w
 go_enter func98,ntmps98
 go_wp2_with (first|(with_reducible first|refine bxA hS fun bx wbx hS=>?_|refine ldA 1 hS isAgg52 sizeOf52 ?_)|(go_at_call 97;go_loud (refine (compareI_any ⟨xneg,xad,xn,xcap⟩ ⟨false,none,0,0⟩ a 0 _ S (hx.grow (hS.pure S)) (IsI.zero _ _)).mono ?_);rintro e w' ⟨rfl,hp⟩))
 go_ret;exact⟨rfl,(hS.pure S).trans hp⟩
end Go.Proofs
