/- Texts for the walk of the law: K1. -/
import Derived.Test.YtihpoboahbpaiaaGreatQ01
set_option maxRecDepth 100000
set_option maxHeartbeats 16000000
set_option linter.unusedVariables false
set_option linter.unusedSimpArgs false
namespace Go.Hp
theorem WB_ex:∃ n:Nat,n=4294967296:=⟨_,rfl⟩
noncomputable def WB:Nat:=Classical.choose WB_ex
theorem WB_eq:WB=4294967296:=Classical.choose_spec WB_ex
theorem WB_pos:0<WB:=by rw [WB_eq];decide
noncomputable def val:List Nat→Nat
 | []=>0
 | x::l=>x+WB*val l
def Wd (l:List Nat):Prop:=∀ x ∈ l,x<WB
def Nm (l:List Nat):Prop:=l=[]∨∃ m x,l=m++[x]∧x≠0
theorem val_append (l m:List Nat):val (l++m)=val l+WB ^ l.length*val m:=by
 induction l with
 | nil=>simp [val]
 | cons x l ih=>simp only [List.cons_append,val,ih,List.length_cons,Nat.pow_succ,Nat.mul_add];rw [Nat.mul_comm (WB ^ l.length) WB,Nat.mul_assoc];omega
theorem val_snoc (l:List Nat) (x:Nat):val (l++[x])=val l+WB ^ l.length*x:=by rw [val_append];simp [val]
theorem val_lt {l:List Nat} (h:Wd l):val l<WB ^ l.length:=by
 induction l with
 | nil=>simp [val]
 | cons x l ih =>
  have h1:=h x (by simp);have h2:=ih (fun y hy=>h y (by simp [hy]));simp only [val,List.length_cons,Nat.pow_succ];have h3:val l+1≤WB ^ l.length:=h2;have h4:WB*(val l+1)≤WB*WB ^ l.length:=Nat.mul_le_mul_left WB h3;rw [Nat.mul_add,Nat.mul_one] at h4;rw [Nat.mul_comm (WB ^ l.length) WB];omega
theorem val_nm {l:List Nat} (h:Nm l) (hne:l≠[]):WB ^ (l.length - 1)≤val l:=by
 rcases h with h|⟨m,x,rfl,hx⟩
 ·exact absurd h hne
 ·rw [val_snoc,List.length_append,List.length_singleton,Nat.add_sub_cancel]
  have:WB ^ m.length*1≤WB ^ m.length*x:=Nat.mul_le_mul_left _ (by omega);omega
theorem val_zero_nm {l:List Nat} (h:Nm l):val l=0↔l=[]:=by
 constructor
 ·intro h0
  by_cases hne:l=[]
  ·exact hne
  ·have:=val_nm h hne
   have hp:0<WB ^ (l.length - 1):=Nat.pow_pos WB_pos;omega
 ·intro e;rw [e];rfl
theorem val_lt_of_len {l m:List Nat} (hl:Wd l) (hm:Nm m) (h:l.length<m.length):val l<val m:=by
 have h1:=val_lt hl;have h2:=val_nm hm (by intro e;subst e;simp at h);have h3:WB ^ l.length≤WB ^ (m.length - 1):=Nat.pow_le_pow_right WB_pos (by omega);omega
end Go.Hp
namespace Go.Hp
theorem Wd.nth {l:List Nat} (h:Wd l) (i:Nat):nth 0 l i<WB:=by
 rcases Nat.lt_or_ge i l.length with hi|hi
 ·exact h _ (nth_mem 0 l i hi)
 ·rw [nth_out 0 l i hi];exact WB_pos
theorem Wd.take {l:List Nat} (h:Wd l) (i:Nat):Wd (l.take i):=fun x hx=>h x (List.mem_of_mem_take hx)
theorem Wd.drop {l:List Nat} (h:Wd l) (i:Nat):Wd (l.drop i):=fun x hx=>h x (List.mem_of_mem_drop hx)
theorem Wd.set {l:List Nat} (h:Wd l) (i:Nat) {x:Nat} (hx:x<WB):Wd (l.set i x):=by
 intro y hy
 rcases List.mem_or_eq_of_mem_set hy with hy|rfl
 ·exact h y hy
 ·exact hx
theorem Wd.zeros (n:Nat):Wd (List.replicate n 0):=by intro x hx;rw [(List.mem_replicate.1 hx).2];exact WB_pos
theorem nth_set {α:Type} (d:α) (l:List α) (i j:Nat) (x:α):nth d (l.set i x) j=if i=j∧i<l.length then x else nth d l j:=by
 unfold Go.Hp.nth;simp only [List.getD_eq_getElem?_getD,List.getElem?_set]
 by_cases h:i=j
 ·subst h
  by_cases h2:i<l.length
  ·simp [h2]
  ·simp [h2]
 ·simp [h]
theorem nth_replicate {α:Type} (d:α) (n i:Nat):nth d (List.replicate n d) i=d:=by
 unfold Go.Hp.nth;simp only [List.getD_eq_getElem?_getD,List.getElem?_replicate]
 split <;> rfl
theorem val_zeros (n:Nat):val (List.replicate n 0)=0:=by
 induction n with
 | zero=>rfl
 | succ n ih=>simp [List.replicate_succ,val,ih]
theorem val_take_succ (l:List Nat) (i:Nat):val (l.take (i+1))=val (l.take i)+WB ^ i*nth 0 l i:=by
 rcases Nat.lt_or_ge i l.length with h|h
 ·rw [take_snoc 0 l i h,val_snoc,List.length_take,Nat.min_eq_left (by omega)]
 ·rw [nth_out 0 l i h,List.take_of_length_le (by omega),List.take_of_length_le h];simp
theorem val_take_all {l:List Nat} {i:Nat} (h:l.length≤i):val (l.take i)=val l:=by rw [List.take_of_length_le h]
theorem val_take_drop (l:List Nat) (i:Nat):val (l.take i)+WB ^ i*val (l.drop i)=val l:=by
 rcases Nat.lt_or_ge i l.length with h|h
 ·have:=val_append (l.take i) (l.drop i)
  rw [List.take_append_drop,List.length_take,Nat.min_eq_left (by omega)] at this;exact this.symm
 ·rw [List.take_of_length_le h,List.drop_of_length_le h];simp [val]
theorem val_drop_nth (l:List Nat) (i:Nat):val (l.drop i)=nth 0 l i+WB*val (l.drop (i+1)):=by
 rcases Nat.lt_or_ge i l.length with h|h
 ·rw [nth_eq 0 l i h,List.drop_eq_getElem_cons h];rfl
 ·rw [nth_out 0 l i h,List.drop_of_length_le h,List.drop_of_length_le (by omega)];simp [val]
theorem val_set (l:List Nat) (i x:Nat) (h:i<l.length):val (l.set i x)+WB ^ i*nth 0 l i=val l+WB ^ i*x:=by
 induction l generalizing i with
 | nil=>simp at h
 | cons y l ih =>
  cases i with
  | zero=>simp [val,Go.Hp.nth];omega
  | succ i =>
   have h1:=ih i (by simpa using h);have h2:nth 0 (y::l) (i+1)=nth 0 l i:=rfl;simp only [List.set_cons_succ,val,h2,Nat.pow_succ]
   grind
theorem val_take_lt {l:List Nat} (h:Wd l) (i:Nat):val (l.take i)<WB ^ i:=by
 have h1:=val_lt (h.take i);have h2:WB ^ (l.take i).length≤WB ^ i:=Nat.pow_le_pow_right WB_pos (by simp;omega);omega
theorem WBp (i:Nat):0<WB ^ i:=Nat.pow_pos WB_pos
theorem WBs (i:Nat):WB ^ (i+1)=WB ^ i*WB:=Nat.pow_succ ..
theorem sum_step {o a b:List Nat} {i c v:Nat} (hi:i<o.length) (h0:nth 0 o i=0) (hv:v=c+nth 0 a i+nth 0 b i) (h:val o+WB ^ i*c=val (a.take i)+val (b.take i)) :
 val (o.set i (v % WB))+WB ^ (i+1)*(v / WB)=val (a.take (i+1))+val (b.take (i+1)):=by
 have h1:=val_set o i (v % WB) hi;have h2:=Nat.div_add_mod v WB;rw [h0] at h1;rw [val_take_succ,val_take_succ,WBs];generalize val (o.set i (v % WB))=X at *;generalize v % WB=r at *;generalize v / WB=q at *;generalize WB ^ i=B at *;subst hv
 grind
theorem sum_end {o a b:List Nat} {n c:Nat} (hn:o.length=n+1) (ho:Wd o) (ha:Wd a) (hb:Wd b) (hla:a.length≤n) (hlb:b.length≤n) (h:val o+WB ^ (n+1)*c=val (a.take (n+1))+val (b.take (n+1))):val o=val a+val b:=by
 rw [val_take_all (by omega),val_take_all (by omega)] at h;have h1:=val_lt ha;have h2:=val_lt hb;have h3:WB ^ a.length≤WB ^ n:=Nat.pow_le_pow_right WB_pos hla;have h4:WB ^ b.length≤WB ^ n:=Nat.pow_le_pow_right WB_pos hlb;have h5:WB ^ (n+1)=WB ^ n*WB:=WBs n;have h6:WB ^ n*2≤WB ^ n*WB:=Nat.mul_le_mul_left _ (by rw [WB_eq];decide)
 have hc:c=0:=by
  rcases Nat.eq_zero_or_pos c with h0|h0
  ·exact h0
  ·have:WB ^ (n+1)*1≤WB ^ (n+1)*c:=Nat.mul_le_mul_left _ h0
   omega
 subst hc;omega
theorem sub_step {o a b:List Nat} {i c x c':Nat} (hi:i<o.length) (h0:nth 0 o i=nth 0 a i) (hx:x+(c+nth 0 b i)=nth 0 a i+WB*c') (h:val o+val (b.take i)=val a+WB ^ i*c) :
 val (o.set i x)+val (b.take (i+1))=val a+WB ^ (i+1)*c':=by
 have h1:=val_set o i x hi;rw [h0] at h1;rw [val_take_succ,WBs];generalize val (o.set i x)=X at *;generalize WB ^ i=B at *
 grind
theorem sub_end {o a b:List Nat} {c:Nat} (ho:Wd o) (hl:b.length≤o.length) (hle:val b≤val a) (h:val o+val (b.take o.length)=val a+WB ^ o.length*c):val o+val b=val a∧c=0:=by
 rw [val_take_all hl] at h;have h1:=val_lt ho
 have hc:c=0:=by
  rcases Nat.eq_zero_or_pos c with h0|h0
  ·exact h0
  ·have:WB ^ o.length*1≤WB ^ o.length*c:=Nat.mul_le_mul_left _ h0
   omega
 subst hc
 simpa using h
theorem row_step {o b:List Nat} {V i k w c t:Nat} (hi:i+k<o.length) (ht:t=w*nth 0 b k+nth 0 o (i+k)+c) (h:val o+WB ^ (i+k)*c=V+WB ^ i*(w*val (b.take k))) :
 val (o.set (i+k) (t % WB))+WB ^ (i+(k+1))*(t / WB)=V+WB ^ i*(w*val (b.take (k+1))):=by
 have h1:=val_set o (i+k) (t % WB) hi;have h2:=Nat.div_add_mod t WB;rw [val_take_succ,← Nat.add_assoc,WBs];have h3:WB ^ (i+k)=WB ^ i*WB ^ k:=Nat.pow_add ..;generalize val (o.set (i+k) (t % WB))=X at *;generalize t % WB=r at *;generalize t / WB=q at *;generalize val (b.take k)=Y at *;generalize nth 0 b k=y at *;generalize nth 0 o (i+k)=z at *;generalize WB ^ (i+k)=B at *;generalize WB ^ i=B1 at *;generalize WB ^ k=B2 at *;subst ht;have e:B1*(w*(Y+B2*y))=B1*(w*Y)+B*(w*y):=by rw [h3];grind
 rw [e];have e2:B*(w*y+z+c)=B*WB*q+B*r:=by rw [← h2];grind
 grind
theorem row_end {o a b:List Nat} {V i w c:Nat} (hi:i+b.length<o.length) (h0:nth 0 o (i+b.length)=0) (hw:w=nth 0 a i) (hV:V=val (a.take i)*val b) (h:val o+WB ^ (i+b.length)*c=V+WB ^ i*(w*val (b.take b.length))) :
 val (o.set (i+b.length) c)=val (a.take (i+1))*val b:=by
 have h1:=val_set o (i+b.length) c hi;rw [h0] at h1;rw [val_take_all (Nat.le_refl _)] at h;rw [val_take_succ];subst hw hV;generalize val (o.set (i+b.length) c)=X at *;generalize WB ^ i=B at *
 grind
theorem short_step {o a:List Nat} {i w r t:Nat} (hi:i<o.length) (h0:nth 0 o i=0) (ht:t=WB*r+nth 0 a i) (h:val o*w+WB ^ (i+1)*r+val (a.take (i+1))=val a) :
 val (o.set i (t / w))*w+WB ^ i*(t % w)+val (a.take i)=val a:=by
 have h1:=val_set o i (t / w) hi;rw [h0] at h1;rw [val_take_succ,WBs] at h;have h2:=Nat.div_add_mod t w;generalize val (o.set i (t / w))=X at *;generalize t / w=q at *;generalize t % w=m at *;generalize WB ^ i=B at *;subst ht;have e:X=val o+B*q:=by omega
 subst e;have e2:B*(WB*r+nth 0 a i)=B*(w*q)+B*m:=by rw [← h2];grind
 grind
theorem cmp_top {a b:List Nat} {i:Nat} (ha:Wd a) (hi:i<a.length) (hib:i<b.length) (hs:a.drop (i+1)=b.drop (i+1)) (h:nth 0 a i<nth 0 b i):val a<val b:=by
 have h1:=val_take_drop a (i+1);have h2:=val_take_drop b (i+1);have h3:=val_take_succ a i;have h4:=val_take_succ b i;have h5:=val_take_lt ha i;rw [hs] at h1;have h6:WB ^ i*(nth 0 a i+1)≤WB ^ i*nth 0 b i:=Nat.mul_le_mul_left _ h;rw [Nat.mul_add,Nat.mul_one] at h6;omega
theorem drop_step {a b:List Nat} {i:Nat} (hi:i<a.length) (hib:i<b.length) (hs:a.drop (i+1)=b.drop (i+1)) (h:nth 0 a i=nth 0 b i):a.drop i=b.drop i:=by
 rw [List.drop_eq_getElem_cons hi,List.drop_eq_getElem_cons hib,hs];rw [nth_eq 0 a i hi,nth_eq 0 b i hib] at h;rw [h]
theorem val_drop0 {l:List Nat} {n:Nat} (h:∀ i,n≤i→nth 0 l i=0):val (l.take n)=val l:=by
 have h1:=val_take_drop l n
 have h2:val (l.drop n)=0:=by
  have:l.drop n=List.replicate (l.length - n) 0:=by
   apply nth_ext 0 (by simp);intro i hi;rw [nth_replicate];have:=h (n+i) (by omega)
   simpa [Go.Hp.nth,List.getD_eq_getElem?_getD] using this
  rw [this,val_zeros]
 rw [h2] at h1;omega
theorem nm_snoc {l:List Nat} {n:Nat} (hn:n+1≤l.length) (h:nth 0 l n≠0):Nm (l.take (n+1)):=.inr ⟨l.take n,nth 0 l n,take_snoc 0 l n (by omega),h⟩
theorem nm_len {l:List Nat} (h:Nm l) {k:Nat} (hv:val l<WB ^ k):l.length≤k:=by
 by_cases hne:l=[]
 ·subst hne;simp
 ·have h1:=val_nm h hne
  rcases Nat.lt_or_ge k l.length with hk|hk
  ·have:WB ^ k≤WB ^ (l.length - 1):=Nat.pow_le_pow_right WB_pos (by omega)
   omega
  ·exact hk
end Go.Hp
namespace Go.Hp
section
variable {B X V L x0 v0 num u2 top nxt d r:Nat}
theorem est_init (hX:X<L*(num*B+B)) (hV:V=v0+L*(top*B+nxt)) (h0:0<top):X<V*(num / top+1):=by
 have h1:num+1≤top*(num / top+1):=by
  have:=Nat.lt_mul_div_succ num h0;rw [Nat.mul_add,Nat.mul_one] at *;omega
 have h2:L*(num*B+B)≤V*(num / top+1):=by
  have h3:L*B*(num+1)≤L*B*(top*(num / top+1)):=Nat.mul_le_mul_left _ h1;have h4:L*(top*B)*(num / top+1)≤V*(num / top+1):=Nat.mul_le_mul_right _ (by rw [hV,Nat.mul_add];omega);generalize num / top=q at *
  grind
 omega
theorem est_more (hx:X=x0+L*(num*B+u2)) (hx0:x0<L) (hV:V=v0+L*(top*B+nxt)) (hr:d*top+r=num) (h:r*B+u2<d*nxt):X<V*d:=by
 have h1:num*B+u2+1≤d*(top*B+nxt):=by subst hr;grind
 have h2:L*(num*B+u2+1)≤L*(d*(top*B+nxt)):=Nat.mul_le_mul_left _ h1
 have h3:L*(d*(top*B+nxt))≤V*d:=by
  have:L*(top*B+nxt)*d≤V*d:=Nat.mul_le_mul_right _ (by omega)
  grind
 rw [Nat.mul_add,Nat.mul_one] at h2;omega
theorem est_end (hx:X=x0+L*(num*B+u2)) (hV:V=v0+L*(top*B+nxt)) (hv0:v0<L) (h0:0<top) (hr:d*top+r=num) (hd:d<B) (h:d*nxt≤r*B+u2):d*V<X+V:=by
 have h1:d*(top*B+nxt)≤num*B+u2:=by subst hr;grind
 have h2:L*(d*(top*B+nxt))≤L*(num*B+u2):=Nat.mul_le_mul_left _ h1;have h3:d*v0≤d*L:=Nat.mul_le_mul_left _ (by omega);have h4:d*L<B*L:=Nat.mul_lt_mul_of_pos_right hd (by omega)
 have h5:L*B≤V:=by
  have:L*(1*B)≤L*(top*B+nxt):=Nat.mul_le_mul_left _ (by have:1*B≤top*B:=Nat.mul_le_mul_right _ h0;omega);rw [Nat.one_mul] at this;omega
 have h6:d*V=d*v0+L*(d*(top*B+nxt)):=by rw [hV];grind
 rw [Nat.mul_comm B L] at h4;omega
theorem est_break (hr:d*top+r=num) (hB:B≤r) (hn:num<top*B+B) (hnx:nxt<B) (ht:0<top):d<B∧d*nxt≤r*B+u2:=by
 have h1:d<B:=by
  have:top*d<top*B:=by rw [Nat.mul_comm top d];omega
  exact Nat.lt_of_mul_lt_mul_left this
 have h2:d*nxt≤B*B:=Nat.mul_le_mul (by omega) (by omega);have h3:B*B≤r*B:=Nat.mul_le_mul_right _ hB;exact⟨h1,by omega⟩
theorem num_bound {un u1:Nat} (hX:X<V*B) (hle:L*B*B*un≤X) (hV:V<L*B*(top+1)) (hnum:num=un*B+u1) (hu1:u1<B):num<top*B+B:=by
 have h1:un<top+1:=by
  have h2:V*B≤L*B*(top+1)*B:=Nat.mul_le_mul_right _ (by omega)
  have h3:L*B*B*un<L*B*B*(top+1):=by
   have e:L*B*B*(top+1)=L*B*(top+1)*B:=by grind
   omega
  exact Nat.lt_of_mul_lt_mul_left h3
 have h4:un*B≤top*B:=Nat.mul_le_mul_right _ (by omega);omega
theorem dig_right {X' M:Nat} (h:X'+d*V=X) (hX:X<V*(d+1)):X'<V:=by
 rw [Nat.mul_add,Nat.mul_one,Nat.mul_comm] at hX;omega
theorem dig_back {X' X'' M c:Nat} (h:X'+d*V=X+M) (h':X''+M*c=X'+V) (hX':X'<M) (hX'':X''<M) (hV:V<M) (hd:d*V<X+V):1≤d∧c=1∧X''+(d - 1)*V=X∧(X<V*(d+1)→X''<V):=by
 have h1:1≤d:=by
  rcases Nat.eq_zero_or_pos d with h0|h0
  ·subst h0;simp at h;omega
  ·exact h0
 obtain⟨e,rfl⟩:∃ e,d=e+1:=⟨d - 1,by omega⟩;have e1:(e+1)*V=e*V+V:=by rw [Nat.add_mul,Nat.one_mul]
 have hc:c=1:=by
  rcases Nat.lt_or_ge c 1 with hc|hc
  ·have:c=0:=by omega
   subst this;simp at h';omega
  ·rcases Nat.lt_or_ge 1 c with hc2|hc2
   ·have:M*2≤M*c:=Nat.mul_le_mul_left _ hc2
    omega
   ·omega
 subst hc;refine⟨h1,rfl,?_,fun hlt=>?_⟩
 ·simp only [Nat.add_sub_cancel];omega
 ·have h2:X<(e+1)*V:=by omega
  omega
end
end Go.Hp
namespace Go.Hp
theorem or_add {x y k:Nat} (hx:x<2 ^ k) (hy:2 ^ k ∣ y):x ||| y=x+y:=by
 obtain⟨m,rfl⟩:=hy;rw [Nat.or_comm,← Nat.two_pow_add_eq_or_of_lt hx,Nat.add_comm]
theorem or_word {x y:Nat} (hx:x<WB):(y*WB ||| x)=y*WB+x:=by
 have h:WB=2 ^ 32:=by rw [WB_eq]
 have hx':x<2 ^ 32:=by rw [← h];exact hx
 rw [h,Nat.or_comm,or_add hx' ⟨y,Nat.mul_comm ..⟩,Nat.add_comm]
theorem shl_parts {w k:Nat} (hk:k<32) (hw:w<WB):2 ^ k ∣ (w*2 ^ k) % WB∧(w*2 ^ k) % WB+2 ^ k≤WB∧w*2 ^ k / WB<2 ^ k:=by
 have h:WB=2 ^ (32 - k)*2 ^ k:=by rw [WB_eq,← Nat.pow_add,show 32 - k+k=32 by omega]
 have h0:0<2 ^ k:=Nat.pow_pos (by decide);have h1:0<2 ^ (32 - k):=Nat.pow_pos (by decide);have h2:(w*2 ^ k) % WB=(w % 2 ^ (32 - k))*2 ^ k:=by rw [h,Nat.mul_mod_mul_right]
 have h3:w % 2 ^ (32 - k)<2 ^ (32 - k):=Nat.mod_lt _ h1;refine⟨by rw [h2];exact⟨_,Nat.mul_comm ..⟩,?_,?_⟩
 ·rw [h2,h]
  have:(w % 2 ^ (32 - k)+1)*2 ^ k≤2 ^ (32 - k)*2 ^ k:=Nat.mul_le_mul_right _ h3;rw [Nat.add_mul,Nat.one_mul] at this;exact this
 ·rw [Nat.div_lt_iff_lt_mul WB_pos,Nat.mul_comm]
  exact Nat.mul_lt_mul_of_pos_left hw h0
theorem shl_step {o a:List Nat} {i k v:Nat} (hk:k<32) (ha:Wd a) (hi:i+1<o.length) (hlo:nth 0 o i<2 ^ k) (h0:nth 0 o (i+1)=0) (hv:v=nth 0 a i*2 ^ k) (h:val o=val (a.take i)*2 ^ k) :
 (nth 0 o i ||| v % WB)=nth 0 o i+v % WB∧nth 0 o i+v % WB<WB∧v / WB<2 ^ k∧val ((o.set i (nth 0 o i+v % WB)).set (i+1) (v / WB))=val (a.take (i+1))*2 ^ k:=by
 obtain⟨h1,h2,h3⟩:=shl_parts hk (ha.nth i);rw [← hv] at h1 h2 h3;refine⟨or_add hlo h1,by omega,h3,?_⟩;have h4:=val_set o i (nth 0 o i+v % WB) (by omega);have h5:=val_set (o.set i (nth 0 o i+v % WB)) (i+1) (v / WB) (by simpa using hi);rw [nth_set,if_neg (by omega),h0,WBs] at h5;have h6:=Nat.div_add_mod v WB;rw [val_take_succ];generalize val ((o.set i (nth 0 o i+v % WB)).set (i+1) (v / WB))=Y at *;generalize val (o.set i (nth 0 o i+v % WB))=X at *;generalize v % WB=r at *;generalize v / WB=q at *;generalize WB ^ i=B at *;have e:B*v=B*WB*q+B*r:=by rw [← h6];grind
 have e2:(val (List.take i a)+B*nth 0 a i)*2 ^ k=val (List.take i a)*2 ^ k+B*v:=by rw [hv];grind
 rw [e2];have e3:B*(nth 0 o i+r)=B*nth 0 o i+B*r:=Nat.mul_add ..;omega
theorem shr_step {o u:List Nat} {i k:Nat} (hk:k<32) (hu:Wd u) (hi:i<o.length) (h0:nth 0 o i=0) (h:val o+WB ^ i*(nth 0 u i / 2 ^ k)=val (u.take (i+1)) / 2 ^ k) :
 val (o.set i (((nth 0 u (i+1)*WB+nth 0 u i) / 2 ^ k) % WB))+WB ^ (i+1)*(nth 0 u (i+1) / 2 ^ k)=val (u.take (i+2)) / 2 ^ k:=by
 have hs0:0<2 ^ k:=Nat.pow_pos (by decide);have hW:WB=2 ^ k*2 ^ (32 - k):=by rw [WB_eq,← Nat.pow_add,show k+(32 - k)=32 by omega]
 have h1:=val_set o i (((nth 0 u (i+1)*WB+nth 0 u i) / 2 ^ k) % WB) hi;rw [h0] at h1;have hu0:=hu.nth i;rw [val_take_succ u (i+1),WBs];generalize val (o.set i (((nth 0 u (i+1)*WB+nth 0 u i) / 2 ^ k) % WB))=Y at *;generalize nth 0 u (i+1)=u1 at *;generalize nth 0 u i=u0 at *;generalize WB ^ i=B at *;generalize val (u.take (i+1))=Z at *;generalize 2 ^ (32 - k)=t at *;generalize 2 ^ k=s at *;generalize WB=W at *;subst hW
 have e1:(u1*(s*t)+u0) / s=u1*t+u0 / s:=by
  rw [show u1*(s*t)+u0=u0+s*(u1*t) by grind,Nat.add_mul_div_left _ _ hs0];omega
 have e2:u0 / s<t:=by rw [Nat.div_lt_iff_lt_mul hs0,Nat.mul_comm];exact hu0
 have e3:(u1*t+u0 / s) % (s*t)=(u1 % s)*t+u0 / s:=by
  have hd:=Nat.div_add_mod u1 s;have hm:u1 % s<s:=Nat.mod_lt _ hs0
  have e4:u1*t+u0 / s=((u1 % s)*t+u0 / s)+(s*t)*(u1 / s):=by
   generalize u1 % s=m at *;generalize u1 / s=q at *;generalize u0 / s=z at *;rw [← hd];grind
  rw [e4,Nat.add_mul_mod_self_left,Nat.mod_eq_of_lt];have:(u1 % s+1)*t≤s*t:=Nat.mul_le_mul_right _ hm;rw [Nat.add_mul,Nat.one_mul] at this;omega
 have e5:(Z+B*(s*t)*u1) / s=Z / s+B*t*u1:=by
  rw [show B*(s*t)*u1=s*(B*t*u1) by grind,Nat.add_mul_div_left _ _ hs0]
 rw [e1,e3] at h1;rw [e5];have hd:=Nat.div_add_mod u1 s;generalize u1 % s=m at *;generalize u1 / s=q at *;generalize u0 / s=z at *;generalize Z / s=zz at *;have e6:B*t*u1=B*(s*t)*q+B*(m*t):=by rw [← hd];grind
 rw [e6];have e7:B*(m*t+z)=B*(m*t)+B*z:=Nat.mul_add ..;omega
theorem shr_start {u:List Nat} {k:Nat} (hlen:0<u.length) (o:List Nat) (ho:val o=0):val o+WB ^ 0*(nth 0 u 0 / 2 ^ k)=val (u.take (0+1)) / 2 ^ k:=by
 rw [val_take_succ];simp [ho,val]
end Go.Hp
