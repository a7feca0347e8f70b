/- Texts for the walk of the law: FA FD K1 K10 N0 K2 K3. -/
import Derived.Test.YtgaejkbkfoaaiaaGreatR01
import Derived.Laws.CopyRow
import Derived.Laws.IdiomCopy
import Derived.Test.YtgaejkbkfoaaiaaGreatRows
set_option maxRecDepth 100000
set_option maxHeartbeats 16000000
set_option linter.unusedVariables false
set_option linter.unusedSimpArgs false
namespace Go.Hp
open Go Go.RowKit Go.Proofs.Tryz
def tw (h:Nat):Nat:=if h % 2=0 then h+1 else h - 1
theorem aEI (h:Nat):tw (tw h)=h:=by unfold tw;split <;> split <;> omega
theorem a1Q {h m:Nat} (hh:h<2*m):tw h<2*m:=by unfold tw;split <;> omega
theorem aNm (h:Nat):tw h / 2=h / 2:=by unfold tw;split <;> omega
theorem aS3 (h:Nat):tw h % 2=1 - h % 2:=by unfold tw;split <;> omega
theorem aEK {h k:Nat} (e:tw h=tw k):h=k:=by rw [← aEI h,e,aEI]
def it (N:List Nat):Nat→Nat→Nat
 | 0,h=>h
 | j+1,h=>nth 0 N (it N j h)
structure jg (N:List Nat):Prop where
 lt:∀ h,h<N.length→nth 0 N h<N.length
 inj:∀ h k,h<N.length→k<N.length→nth 0 N h=nth 0 N k→h=k
theorem xk {N:List Nat} (hp:jg N) {h:Nat} (hh:h<N.length):∀ j,it N j h<N.length
 | 0=>hh
 | j+1=>hp.lt _ (xk hp hh j)
theorem a1P (N:List Nat) (i h:Nat):∀ j,it N (i+j) h=it N j (it N i h)
 | 0=>rfl
 | j+1=>by show nth 0 N (it N (i+j) h)=nth 0 N (it N j (it N i h));rw [a1P N i h j]
theorem aCK {N:List Nat} (hp:jg N) {h k:Nat} (hh:h<N.length) (hk:k<N.length):∀ j,it N j h=it N j k→h=k
 | 0,e=>e
 | j+1,e=>aCK hp hh hk j (hp.inj _ _ (xk hp hh j) (xk hp hk j) e)
theorem aFZ:∀ (n:Nat) (f:Nat→Nat),(∀ i,i≤n→f i<n)→∃ i j,i<j∧j≤n∧f i=f j
 | 0,f,h=>absurd (h 0 (Nat.le_refl _)) (by omega)
 | n+1,f,h=>by
  by_cases hx:∃ i,i≤n∧f i=f (n+1)
  ·obtain⟨i,hi,e⟩:=hx
   exact⟨i,n+1,by omega,Nat.le_refl _,e⟩
  ·obtain⟨i,j,fe,hj,e⟩:=aFZ n (fun i=>if f i=n then f (n+1) else f i) (fun i hi=>by
    have h1:=h i (by omega);have h2:=h (n+1) (Nat.le_refl _);have h3:f i≠f (n+1):=fun e=>hx ⟨i,hi,e⟩
    show (if f i=n then f (n+1) else f i)<n
    split <;> omega)
   refine⟨i,j,fe,by omega,?_⟩;have pG:f i≠f (n+1):=fun e=>hx ⟨i,by omega,e⟩
   have mI:f j≠f (n+1):=fun e=>hx ⟨j,hj,e⟩
   try dsimp only at e
   split at e <;> split at e <;> omega
theorem aWv {N:List Nat} (hp:jg N) {h:Nat} (hh:h<N.length):∃ p,p<N.length∧it N (p+1) h=h:=by
 obtain⟨i,j,fe,hj,e⟩:=aFZ N.length (fun j=>it N j h) (fun i _=>xk hp hh i);refine⟨j - i - 1,by omega,?_⟩;have e1:j=(j - i - 1+1)+i:=by omega
 try dsimp only at e
 rw [e1,a1P] at e;have e2:it N i h=it N i (it N (j - i - 1+1) h):=e;exact (aCK hp hh (xk hp hh _) i e2).symm
def rA (N:List Nat) (h:Nat):Nat:=((List.range N.length).find? (fun j=>it N (j+1) h == h)).getD 0+1
theorem a9r {N:List Nat} (hp:jg N) {h:Nat} (hh:h<N.length):0<rA N h∧rA N h≤N.length∧it N (rA N h) h=h∧∀ j,0<j→j<rA N h→it N j h≠h:=by
 obtain⟨p,jP,iS⟩:=aWv hp hh;unfold rA;cases hf:(List.range N.length).find? (fun j=>it N (j+1) h == h) with
 | none =>
  have:=List.find?_eq_none.1 hf p (by simpa using jP);simp [iS] at this
 | some q =>
  have h1:=List.find?_some hf;have h2:=List.mem_of_find?_eq_some hf;simp only [beq_iff_eq] at h1;rw [List.mem_range] at h2;refine⟨by simp,by simp;omega,by simpa using h1,fun j hj0 hj=>?_⟩;simp only [Option.getD_some] at hj;have h3:=List.find?_range_eq_some.1 hf;have h4:=h3.2.2 (j - 1) (by omega);have e:j - 1+1=j:=by omega
  rw [e] at h4
  simpa using h4
theorem aOy {N:List Nat} {h p:Nat} (bD:0<p) (iS:it N p h=h):∀ j,it N j h=it N (j % p) h:=by
 intro j
 induction j using Nat.strongRecOn with
 | _ j ih =>
  by_cases hj:j<p
  ·rw [Nat.mod_eq_of_lt hj]
  ·have e1:j=p+(j - p):=by omega
   have e2:j % p=(j - p) % p:=by
    conv=>lhs;rw [e1]
    rw [Nat.add_mod_left]
   rw [e2,← ih (j - p) (by omega)]
   conv=>lhs;rw [e1,a1P,iS]
def et (N:List Nat) (h:Nat):List Nat:=(List.range (rA N h)).map (fun j=>it N j h)
theorem xo {N:List Nat} (hp:jg N) {h:Nat} (hh:h<N.length) (k:Nat):k ∈ et N h↔∃ j,it N j h=k:=by
 obtain⟨h1,h2,h3,h4⟩:=a9r hp hh;unfold et;rw [List.mem_map]
 constructor
 ·rintro⟨j,_,e⟩;exact⟨j,e⟩
 ·rintro⟨j,e⟩
  exact⟨j % rA N h,by rw [List.mem_range];exact Nat.mod_lt _ h1,by rw [← aOy h1 h3];exact e⟩
theorem a9m {N:List Nat} (hp:jg N) {h:Nat} (hh:h<N.length):h ∈ et N h:=(xo hp hh h).2 ⟨0,rfl⟩
theorem uO {N:List Nat} (hp:jg N) {h:Nat} (hh:h<N.length) {k:Nat} (hk:k ∈ et N h):k<N.length:=by
 obtain⟨j,rfl⟩:=(xo hp hh k).1 hk;exact xk hp hh j
theorem a9T {N:List Nat} (hp:jg N) {h k l:Nat} (hh:h<N.length) (h1:k ∈ et N h) (h2:l ∈ et N k):l ∈ et N h:=by
 have hk:=uO hp hh h1;obtain⟨i,rfl⟩:=(xo hp hh _).1 h1;obtain⟨j,rfl⟩:=(xo hp hk _).1 h2;exact (xo hp hh _).2 ⟨i+j,a1P N i h j⟩
theorem aHV {N:List Nat} (hp:jg N) {h k:Nat} (hh:h<N.length) (h1:k ∈ et N h):h ∈ et N k:=by
 have hk:=uO hp hh h1;obtain⟨p0,p1,p2,p3⟩:=a9r hp hh;unfold et at h1;obtain⟨j,hj,e⟩:=List.mem_map.1 h1;rw [List.mem_range] at hj;refine (xo hp hk _).2 ⟨rA N h - j,?_⟩;rw [← e,← a1P];have:j+(rA N h - j)=rA N h:=by omega
 rw [this,p2]
theorem aQB {N:List Nat} (hp:jg N) {h k:Nat} (hh:h<N.length) (h1:k ∈ et N h):nth 0 N k ∈ et N h:=by
 obtain⟨j,rfl⟩:=(xo hp hh _).1 h1;exact (xo hp hh _).2 ⟨j+1,rfl⟩
theorem aES {N:List Nat} (hp:jg N) {h k:Nat} (hh:h<N.length) (h1:k ∈ et N h) (l:Nat):l ∈ et N k↔l ∈ et N h :=
 ⟨a9T hp hh h1,fun h2=>a9T hp (uO hp hh h1) (aHV hp hh h1) h2⟩
theorem aJs (l:List Nat):∀ d,l.foldl min d≤d∧∀ x ∈ l,l.foldl min d≤x:=by
 induction l with
 | nil=>intro d;simp
 | cons y t ih =>
  intro d;obtain⟨h1,h2⟩:=ih (min d y);simp only [List.foldl_cons];refine⟨by omega,fun x hx=>?_⟩
  rcases List.mem_cons.1 hx with rfl|hx
  ·omega
  ·exact h2 x hx
theorem aN7 (l:List Nat):∀ d,l.foldl min d=d∨l.foldl min d ∈ l:=by
 induction l with
 | nil=>intro d;simp
 | cons y t ih =>
  intro d;simp only [List.foldl_cons]
  rcases ih (min d y) with h|h
  ·rw [h]
   rcases Nat.le_total d y with h2|h2
   ·rw [Nat.min_eq_left h2];exact .inl rfl
   ·rw [Nat.min_eq_right h2];exact .inr (by simp)
  ·exact .inr (List.mem_cons_of_mem _ h)
def ed (N:List Nat) (h:Nat):Nat:=(et N h).foldl min h
theorem a0s {N:List Nat} (hp:jg N) {h:Nat} (hh:h<N.length):ed N h ∈ et N h∧∀ k ∈ et N h,ed N h≤k:=by
 unfold ed;refine⟨?_,(aJs (et N h) h).2⟩
 rcases aN7 (et N h) h with e|e
 ·rw [e];exact a9m hp hh
 ·exact e
theorem aIF {N:List Nat} (hp:jg N) {h:Nat} (hh:h<N.length):ed N h≤h:=(a0s hp hh).2 h (a9m hp hh)
theorem a0R {N:List Nat} (hp:jg N) {h:Nat} (hh:h<N.length):ed N h<N.length:=Nat.lt_of_le_of_lt (aIF hp hh) hh
theorem a9U {N:List Nat} (hp:jg N) {h k:Nat} (hh:h<N.length) (h1:k ∈ et N h):ed N k=ed N h:=by
 have hk:=uO hp hh h1;obtain⟨a1,a2⟩:=a0s hp hh;obtain⟨b1,b2⟩:=a0s hp hk;have c1:=a2 _ ((aES hp hh h1 _).1 b1);have c2:=b2 _ ((aES hp hh h1 _).2 a1);omega
theorem aFM {N:List Nat} (hp:jg N) {h:Nat} (hh:h<N.length) (k:Nat):k ∈ et N (ed N h)↔k ∈ et N h:=aES hp hh (a0s hp hh).1 k
theorem a7y {N:List Nat} (hp:jg N) {h:Nat} (hh:h<N.length):ed N (ed N h)=ed N h:=a9U hp hh (a0s hp hh).1
theorem aTu {N:List Nat} (hp:jg N) {h k:Nat} (hh:h<N.length) (hk:k<N.length) (e:ed N h=ed N k):k ∈ et N h:=by
 rw [← aFM hp hh,e,aFM hp hk];exact a9m hp hk
theorem aOl {N:List Nat} (hp:jg N) {h:Nat} (hh:h<N.length):ed N (nth 0 N h)=ed N h:=a9U hp hh (aQB hp hh (a9m hp hh))
def lE (L:List Int) (ks:List Nat) (f:Int):List Int:=ks.foldl (fun L k=>L.set k f) L
theorem zH (f:Int):∀ (ks:List Nat) (L:List Int),(lE L ks f).length=L.length
 | [],L=>rfl
 | k::t,L=>by show (lE (L.set k f) t f).length=_;rw [zH f t,List.length_set]
theorem wO {α:Type} (d:α) (L:List α) (i k:Nat) (f:α) (hi:i<L.length):nth d (L.set i f) k=if k=i then f else nth d L k:=by
 simp only [nth,List.getD_eq_getElem?_getD,List.getElem?_set]
 by_cases h:k=i
 ·subst h;simp [hi]
 ·rw [if_neg (fun e=>h e.symm),if_neg h]
theorem a2R (f:Int):∀ (ks:List Nat) (L:List Int),(∀ k ∈ ks,k<L.length)→∀ k,nth 0 (lE L ks f) k=if k ∈ ks then f else nth 0 L k
 | [],L,_,k=>by simp [lE]
 | a::t,L,h,k=>by
  show nth 0 (lE (L.set a f) t f) k=_;rw [a2R f t _ (fun k hk=>by rw [List.length_set];exact h k (List.mem_cons_of_mem _ hk)),wO _ _ _ _ _ (h a (by simp))]
  by_cases h1:k ∈ t
  ·rw [if_pos h1,if_pos (List.mem_cons_of_mem _ h1)]
  ·rw [if_neg h1]
   by_cases h2:k=a
   ·rw [if_pos h2,if_pos (by rw [h2];simp)]
   ·rw [if_neg h2,if_neg (by simp [h1,h2])]
structure mZ (L:List Nat):Prop where
 le:∀ v,v<L.length→nth 0 L v≤v
def yD (L:List Nat):Nat→Nat→Nat
 | 0,v=>v
 | f+1,v=>if nth 0 L v=v then v else yD L f (nth 0 L v)
def rep (L:List Nat) (v:Nat):Nat:=yD L v v
theorem aSj {L:List Nat} (h:mZ L):∀ (v f:Nat),v<L.length→v≤f→yD L f v=yD L v v:=by
 intro v
 induction v using Nat.strongRecOn with
 | _ v ih =>
  intro f hv hf;have hle:=h.le v hv;cases f with
  | zero =>
   obtain rfl:v=0:=by omega
   rfl
  | succ f =>
   by_cases e:nth 0 L v=v
   ·cases v with
    | zero=>simp only [yD,if_pos e]
    | succ v=>simp only [yD,if_pos e]
   ·cases v with
    | zero=>omega
    | succ v =>
     simp only [yD,if_neg e];rw [ih _ (by omega) f (by omega) (by omega),ih _ (by omega) v (by omega) (by omega)]
theorem th {L:List Nat} (h:mZ L) {v:Nat} (hv:v<L.length) (e:nth 0 L v=v):rep L v=v:=by
 unfold rep;cases v with
 | zero=>rfl
 | succ v=>simp only [yD,if_pos e]
theorem yw {L:List Nat} (h:mZ L) {v:Nat} (hv:v<L.length):rep L (nth 0 L v)=rep L v:=by
 by_cases e:nth 0 L v=v
 ·rw [e]
 ·have hle:=h.le v hv
  unfold rep;cases v with
  | zero=>omega
  | succ v =>
   conv=>rhs;simp only [yD,if_neg e]
   rw [aSj h _ v (by omega) (by omega)]
theorem a6i {L:List Nat} (h:mZ L):∀ (v:Nat),v<L.length→rep L v≤v∧nth 0 L (rep L v)=rep L v:=by
 intro v
 induction v using Nat.strongRecOn with
 | _ v ih =>
  intro hv;have hle:=h.le v hv
  by_cases e:nth 0 L v=v
  ·rw [th h hv e];exact⟨Nat.le_refl _,e⟩
  ·rw [← yw h hv]
   obtain⟨a,b⟩:=ih (nth 0 L v) (by omega) (by omega);exact⟨by omega,b⟩
theorem a3T {L:List Nat} (h:mZ L) {v:Nat} (hv:v<L.length):rep L v<L.length:=Nat.lt_of_le_of_lt (a6i h v hv).1 hv
theorem aTG {L:List Nat} (h:mZ L) {v:Nat} (hv:v<L.length):rep L (rep L v)=rep L v:=th h (a3T h hv) (a6i h v hv).2
theorem aRQ {L:List Nat} (h:mZ L) {v:Nat} (hv:v<L.length):mZ (L.set v (rep L v))∧∀ u,u<L.length→rep (L.set v (rep L v)) u=rep L u:=by
 obtain⟨s1,s2⟩:=a6i h v hv
 have hF:mZ (L.set v (rep L v)):=⟨fun u hu=>by
  rw [List.length_set] at hu;rw [wO _ _ _ _ _ hv]
  split
  ·omega
  ·exact h.le u hu⟩
 refine⟨hF,fun u=>?_⟩
 induction u using Nat.strongRecOn with
 | _ u ih =>
  intro hu;have uk:u<(L.set v (rep L v)).length:=by rw [List.length_set];exact hu
  have hn:=wO 0 L v u (rep L v) hv
  by_cases e:u=v
  ·subst e
   rw [if_pos rfl] at hn
   by_cases e2:rep L u=u
   ·rw [th hF uk (by rw [hn,e2]),e2]
   ·rw [← yw hF uk,hn,ih _ (by omega) (by omega),aTG h hu]
  ·rw [if_neg e] at hn
   have hle:=h.le u hu
   by_cases e2:nth 0 L u=u
   ·rw [th hF uk (by rw [hn,e2]),th h hu e2]
   ·rw [← yw hF uk,hn,ih _ (by omega) (by omega),yw h hu]
theorem aNR {L:List Nat} (h:mZ L) {p q:Nat} (hp:p<L.length) (hq:q<L.length) (ep:nth 0 L p=p) (eq:nth 0 L q=q) (gH:q≤p):mZ (L.set p q)∧∀ u,u<L.length→rep (L.set p q) u=if rep L u=p then q else rep L u:=by
 have hF:mZ (L.set p q):=⟨fun u hu=>by
  rw [List.length_set] at hu;rw [wO _ _ _ _ _ hp]
  split
  ·omega
  ·exact h.le u hu⟩
 refine⟨hF,fun u=>?_⟩
 induction u using Nat.strongRecOn with
 | _ u ih =>
  intro hu;have uk:u<(L.set p q).length:=by rw [List.length_set];exact hu
  have hn:=wO 0 L p u q hp
  by_cases e:u=p
  ·subst e
   rw [if_pos rfl] at hn;rw [th h hu ep,if_pos rfl]
   by_cases e2:q=u
   ·rw [th hF uk (by rw [hn,e2]),e2]
   ·rw [← yw hF uk,hn,ih _ (by omega) (by omega),th h hq eq,if_neg e2]
  ·rw [if_neg e] at hn
   have hle:=h.le u hu
   by_cases e2:nth 0 L u=u
   ·rw [th hF uk (by rw [hn,e2]),th h hu e2,if_neg e]
   ·rw [← yw hF uk,hn,ih _ (by omega) (by omega),yw h hu]
def comp (E:List (Nat × Nat)):Nat→Nat→Nat
 | 0,u=>u
 | j+1,u=>if comp E j u=max (comp E j (nth (0,0) E j).1) (comp E j (nth (0,0) E j).2) then min (comp E j (nth (0,0) E j).1) (comp E j (nth (0,0) E j).2) else comp E j u
def zl (E:List (Nat × Nat)) (u:Nat):Prop:=∃ e ∈ E,e.1=u∨e.2=u
structure aRS (E:List (Nat × Nat)) (j:Nat):Prop where
 le:∀ u,comp E j u≤u
 idem:∀ u,comp E j (comp E j u)=comp E j u
 mw:∀ i,i<j→comp E j (nth (0,0) E i).1=comp E j (nth (0,0) E i).2
 ends:∀ u,comp E j u=u∨(zl E u∧zl E (comp E j u))
theorem aDL (E:List (Nat × Nat)):∀ j,j≤E.length→aRS E j
 | 0,_=>⟨fun u=>Nat.le_refl _,fun u=>rfl,fun i hi=>by omega,fun u=>.inl rfl⟩
 | j+1,hj=>by
  have ih:=aDL E j (by omega);obtain⟨a,ha⟩:∃ a,(nth (0,0) E j).1=a:=⟨_,rfl⟩;obtain⟨b,hb⟩:∃ b,(nth (0,0) E j).2=b:=⟨_,rfl⟩;have j0:=cQ (0,0) E j (by omega);have hae:zl E a:=⟨_,j0,.inl ha⟩;have pB:zl E b:=⟨_,j0,.inr hb⟩
  have kV:∀ u,comp E (j+1) u=if comp E j u=max (comp E j a) (comp E j b) then min (comp E j a) (comp E j b) else comp E j u:=fun u=>by
   show (if comp E j u=max (comp E j (nth (0,0) E j).1) (comp E j (nth (0,0) E j).2) then _ else _)=_;rw [ha,hb]
  have nH:zl E (comp E j a):=by
   rcases ih.ends a with h|h
   ·rw [h];exact hae
   ·exact h.2
  have hye:zl E (comp E j b):=by
   rcases ih.ends b with h|h
   ·rw [h];exact pB
   ·exact h.2
  have hxi:=ih.idem a;have hyi:=ih.idem b;generalize hx:comp E j a=x at *;generalize hy:comp E j b=y at *;refine⟨fun u=>?_,fun u=>?_,fun i hi=>?_,fun u=>?_⟩
  ·have:=ih.le u
   rw [kV];split <;> omega
  ·have h1:=ih.idem u
   have hm:comp E j (min x y)=min x y:=by
    rcases Nat.le_total x y with h|h
    ·rw [Nat.min_eq_left h];exact hxi
    ·rw [Nat.min_eq_right h];exact hyi
   rw [kV u]
   split
   ·rw [kV,hm];split
    ·rfl
    ·rfl
   ·rename_i bJ
    rw [kV,h1,if_neg bJ]
  ·rcases Nat.lt_or_eq_of_le (Nat.lt_succ_iff.1 hi) with h|h
   ·have:=ih.mw i h
    rw [kV,kV,this]
   ·subst h
    rw [ha,hb,kV a,kV b,hx,hy]
    split <;> split <;> omega
  ·rw [kV]
   split
   ·rename_i hcu
    by_cases hmu:min x y=u
    ·exact .inl hmu
    ·right
     have aPa:zl E (min x y):=by
      rcases Nat.le_total x y with h|h
      ·rw [Nat.min_eq_left h];exact nH
      ·rw [Nat.min_eq_right h];exact hye
     refine⟨?_,aPa⟩
     rcases ih.ends u with h|h
     ·rw [hcu] at h
      rw [← h]
      rcases Nat.le_total x y with h|h
      ·rw [Nat.max_eq_right h];exact hye
      ·rw [Nat.max_eq_left h];exact nH
     ·exact h.1
   ·exact ih.ends u
def nK (E:List (Nat × Nat)) (n:Nat):List Nat:=(List.range n).map (comp E E.length)
theorem aUb {E:List (Nat × Nat)} {n v:Nat} (hv:v<n):nth 0 (nK E n) v=comp E E.length v:=by
 rw [bS _ _ _ (by simp [nK];exact hv)];simp [nK]
theorem aLy:∃ n:Nat,n=4294967296:=⟨_,rfl⟩
noncomputable def WB:Nat:=Classical.choose aLy
theorem dc:WB=4294967296:=Classical.choose_spec aLy
theorem rN:0<WB:=by rw [dc];decide
noncomputable def val:List Nat→Nat
 | []=>0
 | x::l=>x+WB*val l
def Wd (l:List Nat):Prop:=∀ x ∈ l,x<WB
def Nm (l:List Nat):Prop:=l=[]∨∃ m x,l=m++[x]∧x≠0
theorem aKc (l m:List Nat):val (l++m)=val l+WB ^ l.length*val m:=by
 induction l with
 | nil=>simp [val]
 | cons x l ih=>simp only [List.cons_append,val,ih,List.length_cons,Nat.pow_succ,Nat.mul_add];rw [Nat.mul_comm (WB ^ l.length) WB,Nat.mul_assoc];omega
theorem aLs (l:List Nat) (x:Nat):val (l++[x])=val l+WB ^ l.length*x:=by rw [aKc];simp [val]
theorem wW {l:List Nat} (h:Wd l):val l<WB ^ l.length:=by
 induction l with
 | nil=>simp [val]
 | cons x l ih =>
  have h1:=h x (by simp);have h2:=ih (fun y hy=>h y (by simp [hy]));simp only [val,List.length_cons,Nat.pow_succ];have h3:val l+1≤WB ^ l.length:=h2;have h4:WB*(val l+1)≤WB*WB ^ l.length:=Nat.mul_le_mul_left WB h3;rw [Nat.mul_add,Nat.mul_one] at h4;rw [Nat.mul_comm (WB ^ l.length) WB];omega
theorem a6y {l:List Nat} (h:Nm l) (bJ:l≠[]):WB ^ (l.length - 1)≤val l:=by
 rcases h with h|⟨m,x,rfl,hx⟩
 ·exact absurd h bJ
 ·rw [aLs,List.length_append,List.length_singleton,Nat.add_sub_cancel]
  have:WB ^ m.length*1≤WB ^ m.length*x:=Nat.mul_le_mul_left _ (by omega);omega
theorem a9H {l:List Nat} (h:Nm l):val l=0↔l=[]:=by
 constructor
 ·intro h0
  by_cases bJ:l=[]
  ·exact bJ
  ·have:=a6y h bJ
   have hp:0<WB ^ (l.length - 1):=Nat.pow_pos rN;omega
 ·intro e;rw [e];rfl
theorem aH2 {l m:List Nat} (hl:Wd l) (hm:Nm m) (h:l.length<m.length):val l<val m:=by
 have h1:=wW hl;have h2:=a6y hm (by intro e;subst e;simp at h);have h3:WB ^ l.length≤WB ^ (m.length - 1):=Nat.pow_le_pow_right rN (by omega);omega
theorem Wd.nth {l:List Nat} (h:Wd l) (i:Nat):nth 0 l i<WB:=by
 rcases Nat.lt_or_ge i l.length with hi|hi
 ·exact h _ (cQ 0 l i hi)
 ·rw [qP 0 l i hi];exact rN
theorem Wd.append {l m:List Nat} (h:Wd l) (h':Wd m):Wd (l++m):=by
 intro x hx;rcases List.mem_append.1 hx with hx|hx
 ·exact h x hx
 ·exact h' x hx
theorem Wd.take {l:List Nat} (h:Wd l) (i:Nat):Wd (l.take i):=fun x hx=>h x (List.mem_of_mem_take hx)
theorem Wd.drop {l:List Nat} (h:Wd l) (i:Nat):Wd (l.drop i):=fun x hx=>h x (List.mem_of_mem_drop hx)
theorem Wd.set {l:List Nat} (h:Wd l) (i:Nat) {x:Nat} (hx:x<WB):Wd (l.set i x):=by
 intro y hy
 rcases List.mem_or_eq_of_mem_set hy with hy|rfl
 ·exact h y hy
 ·exact hx
theorem Wd.a1t (n:Nat):Wd (List.replicate n 0):=by intro x hx;rw [(List.mem_replicate.1 hx).2];exact rN
theorem ov {α:Type} (d:α) (l:List α) (i j:Nat) (x:α):nth d (l.set i x) j=if i=j∧i<l.length then x else nth d l j:=by
 unfold Go.Hp.nth;simp only [List.getD_eq_getElem?_getD,List.getElem?_set]
 by_cases h:i=j
 ·subst h
  by_cases h2:i<l.length
  ·simp [h2]
  ·simp [h2]
 ·simp [h]
theorem yF {α:Type} (d:α) (n i:Nat):nth d (List.replicate n d) i=d:=by
 unfold Go.Hp.nth;simp only [List.getD_eq_getElem?_getD,List.getElem?_replicate]
 split <;> rfl
theorem yf (n:Nat):val (List.replicate n 0)=0:=by
 induction n with
 | zero=>rfl
 | succ n ih=>simp [List.replicate_succ,val,ih]
theorem p7 (l:List Nat) (i:Nat):val (l.take (i+1))=val (l.take i)+WB ^ i*nth 0 l i:=by
 rcases Nat.lt_or_ge i l.length with h|h
 ·rw [nk 0 l i h,aLs,List.length_take,Nat.min_eq_left (by omega)]
 ·rw [qP 0 l i h,List.take_of_length_le (by omega),List.take_of_length_le h];simp
theorem tI {l:List Nat} {i:Nat} (h:l.length≤i):val (l.take i)=val l:=by rw [List.take_of_length_le h]
theorem vE (l:List Nat) (i:Nat):val (l.take i)+WB ^ i*val (l.drop i)=val l:=by
 rcases Nat.lt_or_ge i l.length with h|h
 ·have:=aKc (l.take i) (l.drop i)
  rw [List.take_append_drop,List.length_take,Nat.min_eq_left (by omega)] at this;exact this.symm
 ·rw [List.take_of_length_le h,List.drop_of_length_le h];simp [val]
theorem a1z (l:List Nat) (i:Nat):val (l.drop i)=nth 0 l i+WB*val (l.drop (i+1)):=by
 rcases Nat.lt_or_ge i l.length with h|h
 ·rw [bS 0 l i h,List.drop_eq_getElem_cons h];rfl
 ·rw [qP 0 l i h,List.drop_of_length_le h,List.drop_of_length_le (by omega)];simp [val]
theorem tJ (l:List Nat) (i x:Nat) (h:i<l.length):val (l.set i x)+WB ^ i*nth 0 l i=val l+WB ^ i*x:=by
 induction l generalizing i with
 | nil=>simp at h
 | cons y l ih =>
  cases i with
  | zero=>simp [val,Go.Hp.nth];omega
  | succ i =>
   have h1:=ih i (by simpa using h);have h2:nth 0 (y::l) (i+1)=nth 0 l i:=rfl;simp only [List.set_cons_succ,val,h2,Nat.pow_succ]
   grind
theorem a1K {l:List Nat} (h:Wd l) (i:Nat):val (l.take i)<WB ^ i:=by
 have h1:=wW (h.take i);have h2:WB ^ (l.take i).length≤WB ^ i:=Nat.pow_le_pow_right rN (by simp;omega);omega
theorem WBp (i:Nat):0<WB ^ i:=Nat.pow_pos rN
theorem rR (i:Nat):WB ^ (i+1)=WB ^ i*WB:=Nat.pow_succ ..
theorem aR6 {o a b:List Nat} {i c v:Nat} (hi:i<o.length) (h0:nth 0 o i=0) (hv:v=c+nth 0 a i+nth 0 b i) (h:val o+WB ^ i*c=val (a.take i)+val (b.take i)) :
 val (o.set i (v % WB))+WB ^ (i+1)*(v / WB)=val (a.take (i+1))+val (b.take (i+1)):=by
 have h1:=tJ o i (v % WB) hi;have h2:=Nat.div_add_mod v WB;rw [h0] at h1;rw [p7,p7,rR];generalize val (o.set i (v % WB))=X at *;generalize v % WB=r at *;generalize v / WB=q at *;generalize WB ^ i=B at *;subst hv
 grind
theorem aJ7 {o a b:List Nat} {n c:Nat} (hn:o.length=n+1) (ho:Wd o) (ha:Wd a) (hb:Wd b) (pM:a.length≤n) (oF:b.length≤n) (h:val o+WB ^ (n+1)*c=val (a.take (n+1))+val (b.take (n+1))):val o=val a+val b:=by
 rw [tI (by omega),tI (by omega)] at h;have h1:=wW ha;have h2:=wW hb;have h3:WB ^ a.length≤WB ^ n:=Nat.pow_le_pow_right rN pM;have h4:WB ^ b.length≤WB ^ n:=Nat.pow_le_pow_right rN oF;have h5:WB ^ (n+1)=WB ^ n*WB:=rR n;have h6:WB ^ n*2≤WB ^ n*WB:=Nat.mul_le_mul_left _ (by rw [dc];decide)
 have hc:c=0:=by
  rcases Nat.eq_zero_or_pos c with h0|h0
  ·exact h0
  ·have:WB ^ (n+1)*1≤WB ^ (n+1)*c:=Nat.mul_le_mul_left _ h0
   omega
 subst hc;omega
theorem aOa {o a b:List Nat} {i c x c':Nat} (hi:i<o.length) (h0:nth 0 o i=nth 0 a i) (hx:x+(c+nth 0 b i)=nth 0 a i+WB*c') (h:val o+val (b.take i)=val a+WB ^ i*c) :
 val (o.set i x)+val (b.take (i+1))=val a+WB ^ (i+1)*c':=by
 have h1:=tJ o i x hi;rw [h0] at h1;rw [p7,rR];generalize val (o.set i x)=X at *;generalize WB ^ i=B at *
 grind
theorem aQC {o a b:List Nat} {c:Nat} (ho:Wd o) (hl:b.length≤o.length) (hle:val b≤val a) (h:val o+val (b.take o.length)=val a+WB ^ o.length*c):val o+val b=val a∧c=0:=by
 rw [tI hl] at h;have h1:=wW ho
 have hc:c=0:=by
  rcases Nat.eq_zero_or_pos c with h0|h0
  ·exact h0
  ·have:WB ^ o.length*1≤WB ^ o.length*c:=Nat.mul_le_mul_left _ h0
   omega
 subst hc
 simpa using h
theorem aN6 {o b:List Nat} {V i k w c t:Nat} (hi:i+k<o.length) (ht:t=w*nth 0 b k+nth 0 o (i+k)+c) (h:val o+WB ^ (i+k)*c=V+WB ^ i*(w*val (b.take k))) :
 val (o.set (i+k) (t % WB))+WB ^ (i+(k+1))*(t / WB)=V+WB ^ i*(w*val (b.take (k+1))):=by
 have h1:=tJ o (i+k) (t % WB) hi;have h2:=Nat.div_add_mod t WB;rw [p7,← Nat.add_assoc,rR];have h3:WB ^ (i+k)=WB ^ i*WB ^ k:=Nat.pow_add ..;generalize val (o.set (i+k) (t % WB))=X at *;generalize t % WB=r at *;generalize t / WB=q at *;generalize val (b.take k)=Y at *;generalize nth 0 b k=y at *;generalize nth 0 o (i+k)=z at *;generalize WB ^ (i+k)=B at *;generalize WB ^ i=B1 at *;generalize WB ^ k=B2 at *;subst ht;have e:B1*(w*(Y+B2*y))=B1*(w*Y)+B*(w*y):=by rw [h3];grind
 rw [e];have e2:B*(w*y+z+c)=B*WB*q+B*r:=by rw [← h2];grind
 grind
theorem aP2 {o a b:List Nat} {V i w c:Nat} (hi:i+b.length<o.length) (h0:nth 0 o (i+b.length)=0) (hw:w=nth 0 a i) (hV:V=val (a.take i)*val b) (h:val o+WB ^ (i+b.length)*c=V+WB ^ i*(w*val (b.take b.length))) :
 val (o.set (i+b.length) c)=val (a.take (i+1))*val b:=by
 have h1:=tJ o (i+b.length) c hi;rw [h0] at h1;rw [tI (Nat.le_refl _)] at h;rw [p7];subst hw hV;generalize val (o.set (i+b.length) c)=X at *;generalize WB ^ i=B at *
 grind
theorem aPq {o a:List Nat} {i w r t:Nat} (hi:i<o.length) (h0:nth 0 o i=0) (ht:t=WB*r+nth 0 a i) (h:val o*w+WB ^ (i+1)*r+val (a.take (i+1))=val a) :
 val (o.set i (t / w))*w+WB ^ i*(t % w)+val (a.take i)=val a:=by
 have h1:=tJ o i (t / w) hi;rw [h0] at h1;rw [p7,rR] at h;have h2:=Nat.div_add_mod t w;generalize val (o.set i (t / w))=X at *;generalize t / w=q at *;generalize t % w=m at *;generalize WB ^ i=B at *;subst ht;have e:X=val o+B*q:=by omega
 subst e;have e2:B*(WB*r+nth 0 a i)=B*(w*q)+B*m:=by rw [← h2];grind
 grind
theorem aLP {a b:List Nat} {i:Nat} (ha:Wd a) (hi:i<a.length) (hib:i<b.length) (hs:a.drop (i+1)=b.drop (i+1)) (h:nth 0 a i<nth 0 b i):val a<val b:=by
 have h1:=vE a (i+1);have h2:=vE b (i+1);have h3:=p7 a i;have h4:=p7 b i;have h5:=a1K ha i;rw [hs] at h1;have h6:WB ^ i*(nth 0 a i+1)≤WB ^ i*nth 0 b i:=Nat.mul_le_mul_left _ h;rw [Nat.mul_add,Nat.mul_one] at h6;omega
theorem aTv {a b:List Nat} {i:Nat} (hi:i<a.length) (hib:i<b.length) (hs:a.drop (i+1)=b.drop (i+1)) (h:nth 0 a i=nth 0 b i):a.drop i=b.drop i:=by
 rw [List.drop_eq_getElem_cons hi,List.drop_eq_getElem_cons hib,hs];rw [bS 0 a i hi,bS 0 b i hib] at h;rw [h]
theorem a8J {l:List Nat} {n:Nat} (h:∀ i,n≤i→nth 0 l i=0):val (l.take n)=val l:=by
 have h1:=vE l n
 have h2:val (l.drop n)=0:=by
  have:l.drop n=List.replicate (l.length - n) 0:=by
   apply yP 0 (by simp);intro i hi;rw [yF];have:=h (n+i) (by omega)
   simpa [Go.Hp.nth,List.getD_eq_getElem?_getD] using this
  rw [this,yf]
 rw [h2] at h1;omega
theorem aOc {l:List Nat} {n:Nat} (hn:n+1≤l.length) (h:nth 0 l n≠0):Nm (l.take (n+1)):=.inr ⟨l.take n,nth 0 l n,nk 0 l n (by omega),h⟩
theorem aDG {l:List Nat} (h:Nm l) {k:Nat} (hv:val l<WB ^ k):l.length≤k:=by
 by_cases bJ:l=[]
 ·subst bJ;simp
 ·have h1:=a6y h bJ
  rcases Nat.lt_or_ge k l.length with hk|hk
  ·have:WB ^ k≤WB ^ (l.length - 1):=Nat.pow_le_pow_right rN (by omega)
   omega
  ·exact hk
section
variable {B X V L x0 v0 num u2 top iG d r:Nat}
theorem aWs (hX:X<L*(num*B+B)) (hV:V=v0+L*(top*B+iG)) (h0:0<top):X<V*(num / top+1):=by
 have h1:num+1≤top*(num / top+1):=by
  have:=Nat.lt_mul_div_succ num h0;rw [Nat.mul_add,Nat.mul_one] at *;omega
 have h2:L*(num*B+B)≤V*(num / top+1):=by
  have h3:L*B*(num+1)≤L*B*(top*(num / top+1)):=Nat.mul_le_mul_left _ h1;have h4:L*(top*B)*(num / top+1)≤V*(num / top+1):=Nat.mul_le_mul_right _ (by rw [hV,Nat.mul_add];omega);generalize num / top=q at *
  grind
 omega
theorem aUM (hx:X=x0+L*(num*B+u2)) (iz:x0<L) (hV:V=v0+L*(top*B+iG)) (hr:d*top+r=num) (h:r*B+u2<d*iG):X<V*d:=by
 have h1:num*B+u2+1≤d*(top*B+iG):=by subst hr;grind
 have h2:L*(num*B+u2+1)≤L*(d*(top*B+iG)):=Nat.mul_le_mul_left _ h1
 have h3:L*(d*(top*B+iG))≤V*d:=by
  have:L*(top*B+iG)*d≤V*d:=Nat.mul_le_mul_right _ (by omega)
  grind
 rw [Nat.mul_add,Nat.mul_one] at h2;omega
theorem aSk (hx:X=x0+L*(num*B+u2)) (hV:V=v0+L*(top*B+iG)) (um:v0<L) (h0:0<top) (hr:d*top+r=num) (hd:d<B) (h:d*iG≤r*B+u2):d*V<X+V:=by
 have h1:d*(top*B+iG)≤num*B+u2:=by subst hr;grind
 have h2:L*(d*(top*B+iG))≤L*(num*B+u2):=Nat.mul_le_mul_left _ h1;have h3:d*v0≤d*L:=Nat.mul_le_mul_left _ (by omega);have h4:d*L<B*L:=Nat.mul_lt_mul_of_pos_right hd (by omega)
 have h5:L*B≤V:=by
  have:L*(1*B)≤L*(top*B+iG):=Nat.mul_le_mul_left _ (by have:1*B≤top*B:=Nat.mul_le_mul_right _ h0;omega);rw [Nat.one_mul] at this;omega
 have h6:d*V=d*v0+L*(d*(top*B+iG)):=by rw [hV];grind
 rw [Nat.mul_comm B L] at h4;omega
theorem aVo (hr:d*top+r=num) (hB:B≤r) (hn:num<top*B+B) (dH:iG<B) (ht:0<top):d<B∧d*iG≤r*B+u2:=by
 have h1:d<B:=by
  have:top*d<top*B:=by rw [Nat.mul_comm top d];omega
  exact Nat.lt_of_mul_lt_mul_left this
 have h2:d*iG≤B*B:=Nat.mul_le_mul (by omega) (by omega);have h3:B*B≤r*B:=Nat.mul_le_mul_right _ hB;exact⟨h1,by omega⟩
theorem aSJ {un u1:Nat} (hX:X<V*B) (hle:L*B*B*un≤X) (hV:V<L*B*(top+1)) (uT:num=un*B+u1) (nY:u1<B):num<top*B+B:=by
 have h1:un<top+1:=by
  have h2:V*B≤L*B*(top+1)*B:=Nat.mul_le_mul_right _ (by omega)
  have h3:L*B*B*un<L*B*B*(top+1):=by
   have e:L*B*B*(top+1)=L*B*(top+1)*B:=by grind
   omega
  exact Nat.lt_of_mul_lt_mul_left h3
 have h4:un*B≤top*B:=Nat.mul_le_mul_right _ (by omega);omega
theorem aOi {X' M:Nat} (h:X'+d*V=X) (hX:X<V*(d+1)):X'<V:=by
 rw [Nat.mul_add,Nat.mul_one,Nat.mul_comm] at hX;omega
theorem aNz {X' X'' M c:Nat} (h:X'+d*V=X+M) (h':X''+M*c=X'+V) (hX':X'<M) (aYG:X''<M) (hV:V<M) (hd:d*V<X+V):1≤d∧c=1∧X''+(d - 1)*V=X∧(X<V*(d+1)→X''<V):=by
 have h1:1≤d:=by
  rcases Nat.eq_zero_or_pos d with h0|h0
  ·subst h0;simp at h;omega
  ·exact h0
 obtain⟨e,rfl⟩:∃ e,d=e+1:=⟨d - 1,by omega⟩;have e1:(e+1)*V=e*V+V:=by rw [Nat.add_mul,Nat.one_mul]
 have hc:c=1:=by
  rcases Nat.lt_or_ge c 1 with hc|hc
  ·have:c=0:=by omega
   subst this;simp at h';omega
  ·rcases Nat.lt_or_ge 1 c with iu|iu
   ·have:M*2≤M*c:=Nat.mul_le_mul_left _ iu
    omega
   ·omega
 subst hc;refine⟨h1,rfl,?_,fun aW=>?_⟩
 ·simp only [Nat.add_sub_cancel];omega
 ·have h2:X<(e+1)*V:=by omega
  omega
end
theorem aDg {x y k:Nat} (hx:x<2 ^ k) (hy:2 ^ k ∣ y):x ||| y=x+y:=by
 obtain⟨m,rfl⟩:=hy;rw [Nat.or_comm,← Nat.two_pow_add_eq_or_of_lt hx,Nat.add_comm]
theorem aNk {x y:Nat} (hx:x<WB):(y*WB ||| x)=y*WB+x:=by
 have h:WB=2 ^ 32:=by rw [dc]
 have hx':x<2 ^ 32:=by rw [← h];exact hx
 rw [h,Nat.or_comm,aDg hx' ⟨y,Nat.mul_comm ..⟩,Nat.add_comm]
theorem aGC {w k:Nat} (hk:k<32) (hw:w<WB):2 ^ k ∣ (w*2 ^ k) % WB∧(w*2 ^ k) % WB+2 ^ k≤WB∧w*2 ^ k / WB<2 ^ k:=by
 have h:WB=2 ^ (32 - k)*2 ^ k:=by rw [dc,← Nat.pow_add,show 32 - k+k=32 by omega]
 have h0:0<2 ^ k:=Nat.pow_pos (by decide);have h1:0<2 ^ (32 - k):=Nat.pow_pos (by decide);have h2:(w*2 ^ k) % WB=(w % 2 ^ (32 - k))*2 ^ k:=by rw [h,Nat.mul_mod_mul_right]
 have h3:w % 2 ^ (32 - k)<2 ^ (32 - k):=Nat.mod_lt _ h1;refine⟨by rw [h2];exact⟨_,Nat.mul_comm ..⟩,?_,?_⟩
 ·rw [h2,h]
  have:(w % 2 ^ (32 - k)+1)*2 ^ k≤2 ^ (32 - k)*2 ^ k:=Nat.mul_le_mul_right _ h3;rw [Nat.add_mul,Nat.one_mul] at this;exact this
 ·rw [Nat.div_lt_iff_lt_mul rN,Nat.mul_comm]
  exact Nat.mul_lt_mul_of_pos_left hw h0
theorem aOz {o a:List Nat} {i k v:Nat} (hk:k<32) (ha:Wd a) (hi:i+1<o.length) (dg:nth 0 o i<2 ^ k) (h0:nth 0 o (i+1)=0) (hv:v=nth 0 a i*2 ^ k) (h:val o=val (a.take i)*2 ^ k) :
 (nth 0 o i ||| v % WB)=nth 0 o i+v % WB∧nth 0 o i+v % WB<WB∧v / WB<2 ^ k∧val ((o.set i (nth 0 o i+v % WB)).set (i+1) (v / WB))=val (a.take (i+1))*2 ^ k:=by
 obtain⟨h1,h2,h3⟩:=aGC hk (ha.nth i);rw [← hv] at h1 h2 h3;refine⟨aDg dg h1,by omega,h3,?_⟩;have h4:=tJ o i (nth 0 o i+v % WB) (by omega);have h5:=tJ (o.set i (nth 0 o i+v % WB)) (i+1) (v / WB) (by simpa using hi);rw [ov,if_neg (by omega),h0,rR] at h5;have h6:=Nat.div_add_mod v WB;rw [p7];generalize val ((o.set i (nth 0 o i+v % WB)).set (i+1) (v / WB))=Y at *;generalize val (o.set i (nth 0 o i+v % WB))=X at *;generalize v % WB=r at *;generalize v / WB=q at *;generalize WB ^ i=B at *;have e:B*v=B*WB*q+B*r:=by rw [← h6];grind
 have e2:(val (List.take i a)+B*nth 0 a i)*2 ^ k=val (List.take i a)*2 ^ k+B*v:=by rw [hv];grind
 rw [e2];have e3:B*(nth 0 o i+r)=B*nth 0 o i+B*r:=Nat.mul_add ..;omega
theorem aSl {o u:List Nat} {i k:Nat} (hk:k<32) (hu:Wd u) (hi:i<o.length) (h0:nth 0 o i=0) (h:val o+WB ^ i*(nth 0 u i / 2 ^ k)=val (u.take (i+1)) / 2 ^ k) :
 val (o.set i (((nth 0 u (i+1)*WB+nth 0 u i) / 2 ^ k) % WB))+WB ^ (i+1)*(nth 0 u (i+1) / 2 ^ k)=val (u.take (i+2)) / 2 ^ k:=by
 have tp:0<2 ^ k:=Nat.pow_pos (by decide);have hW:WB=2 ^ k*2 ^ (32 - k):=by rw [dc,← Nat.pow_add,show k+(32 - k)=32 by omega]
 have h1:=tJ o i (((nth 0 u (i+1)*WB+nth 0 u i) / 2 ^ k) % WB) hi;rw [h0] at h1;have vm:=hu.nth i;rw [p7 u (i+1),rR];generalize val (o.set i (((nth 0 u (i+1)*WB+nth 0 u i) / 2 ^ k) % WB))=Y at *;generalize nth 0 u (i+1)=u1 at *;generalize nth 0 u i=u0 at *;generalize WB ^ i=B at *;generalize val (u.take (i+1))=Z at *;generalize 2 ^ (32 - k)=t at *;generalize 2 ^ k=s at *;generalize WB=W at *;subst hW
 have e1:(u1*(s*t)+u0) / s=u1*t+u0 / s:=by
  rw [show u1*(s*t)+u0=u0+s*(u1*t) by grind,Nat.add_mul_div_left _ _ tp];omega
 have e2:u0 / s<t:=by rw [Nat.div_lt_iff_lt_mul tp,Nat.mul_comm];exact vm
 have e3:(u1*t+u0 / s) % (s*t)=(u1 % s)*t+u0 / s:=by
  have hd:=Nat.div_add_mod u1 s;have hm:u1 % s<s:=Nat.mod_lt _ tp
  have e4:u1*t+u0 / s=((u1 % s)*t+u0 / s)+(s*t)*(u1 / s):=by
   generalize u1 % s=m at *;generalize u1 / s=q at *;generalize u0 / s=z at *;rw [← hd];grind
  rw [e4,Nat.add_mul_mod_self_left,Nat.mod_eq_of_lt];have:(u1 % s+1)*t≤s*t:=Nat.mul_le_mul_right _ hm;rw [Nat.add_mul,Nat.one_mul] at this;omega
 have e5:(Z+B*(s*t)*u1) / s=Z / s+B*t*u1:=by
  rw [show B*(s*t)*u1=s*(B*t*u1) by grind,Nat.add_mul_div_left _ _ tp]
 rw [e1,e3] at h1;rw [e5];have hd:=Nat.div_add_mod u1 s;generalize u1 % s=m at *;generalize u1 / s=q at *;generalize u0 / s=z at *;generalize Z / s=zz at *;have e6:B*t*u1=B*(s*t)*q+B*(m*t):=by rw [← hd];grind
 rw [e6];have e7:B*(m*t+z)=B*(m*t)+B*z:=Nat.mul_add ..;omega
theorem aVD {u:List Nat} {k:Nat} (hlen:0<u.length) (o:List Nat) (ho:val o=0):val o+WB ^ 0*(nth 0 u 0 / 2 ^ k)=val (u.take (0+1)) / 2 ^ k:=by
 rw [p7];simp [ho,val]
theorem a4x {o U:List Nat} {j:Nat} (hl:o.length=U.length) (h:∀ i,i<j→nth 0 o i=nth 0 U i):o.take j=U.take j:=by
 apply yP 0 (by simp [hl]);intro i hi;have fe:i<j:=by simp at hi;omega
 have h1:nth 0 (o.take j) i=nth 0 o i:=by unfold nth;simp [List.getD_eq_getElem?_getD,List.getElem?_take,fe]
 have h2:nth 0 (U.take j) i=nth 0 U i:=by unfold nth;simp [List.getD_eq_getElem?_getD,List.getElem?_take,fe]
 rw [h1,h2,h i fe]
theorem a5q {U:List Nat} {j m:Nat} (h:val (U.drop j)<WB ^ m):∀ i,j+m≤i→nth 0 U i=0:=by
 intro i hi;have h1:=vE (U.drop j) (i - j);rw [List.drop_drop,show j+(i - j)=i by omega] at h1;have h2:=a1z U i;have h3:WB ^ m≤WB ^ (i - j):=Nat.pow_le_pow_right rN (by omega)
 rcases Nat.eq_zero_or_pos (nth 0 U i) with h0|h0
 ·exact h0
 ·have:WB ^ (i - j)*1≤WB ^ (i - j)*val (U.drop i):=Nat.mul_le_mul_left _ (by omega)
  omega
theorem aAu {o:List Nat} {j m:Nat} (ho:Wd o) (h:∀ i,j+m≤i→nth 0 o i=0):val (o.drop j)<WB ^ m:=by
 have h1:val ((o.drop j).take m)=val (o.drop j):=a8J fun i hi=>by
  have:=h (j+i) (by omega)
  simpa [nth,List.getD_eq_getElem?_getD] using this
 rw [← h1];exact a1K (ho.drop j) m
theorem a7b {o U:List Nat} {j A B:Nat} (ht:o.take j=U.take j) (h:val o+WB ^ j*A=val U+WB ^ j*B):val (o.drop j)+A=val (U.drop j)+B:=by
 have h1:=vE o j;have h2:=vE U j;rw [ht] at h1;have h3:WB ^ j*(val (o.drop j)+A)=WB ^ j*(val (U.drop j)+B):=by rw [Nat.mul_add,Nat.mul_add];omega
 exact Nat.eq_of_mul_eq_mul_left (WBp j) h3
theorem aWm {U o out:List Nat} {j n d V N:Nat} (cD:o.length=U.length) (eT:∀ i,i<j→nth 0 o i=nth 0 U i) (ht:val o+WB ^ j*(d*V)=val U) (hX:val (U.drop j)<V*(d+1)) (hN:val U+val out*V=N) (hj:j<out.length) (h0:nth 0 out j=0) :
 val o+val (out.set j d)*V=N∧val (o.drop j)<V:=by
 have h1:=a7b (B:=0) (a4x cD eT) (by simpa using ht);have h2:=tJ out j d hj;rw [h0] at h2
 constructor
 ·have e:val (out.set j d)=val out+WB ^ j*d:=by omega
  rw [e,Nat.add_mul,Nat.mul_assoc];omega
 ·exact aOi (M:=0) (by simpa using h1) hX
theorem aNr {U o o2 out:List Nat} {j n d V N c:Nat} (cD:o.length=U.length) (lk:o2.length=U.length) (eT:∀ i,(i<j∨j+(n+1)≤i)→nth 0 o i=nth 0 U i) (jy:∀ i,(i<j∨j+(n+1)≤i)→nth 0 o2 i=nth 0 o i) (hwo:Wd o) (a7g:Wd o2)
 (ht:val o+WB ^ j*(d*V)=val U+WB ^ (j+(n+1))) (hb:val o2+WB ^ (j+(n+1))*c=val o+WB ^ j*V) (hX:val (U.drop j)<V*(d+1)) (hd:d*V<val (U.drop j)+V) (qV:val (U.drop j)<WB ^ (n+1)) (hV:V<WB ^ (n+1)) (hN:val U+val out*V=N) (hj:j<out.length) (h0:nth 0 out j=0) :
 1≤d∧val o2+val (out.set j (d - 1))*V=N∧val (o2.drop j)<V:=by
 have hz:=a5q qV;have hpw:WB ^ (j+(n+1))=WB ^ j*WB ^ (n+1):=Nat.pow_add ..;rw [hpw] at ht hb;rw [Nat.mul_assoc] at hb;have h1:=a7b (a4x cD fun i hi=>eT i (.inl hi)) ht;have h2:=a7b (a4x (by omega) fun i hi=>jy i (.inl hi)) hb;have h3:val (o.drop j)<WB ^ (n+1):=aAu hwo fun i hi=>by rw [eT i (.inr hi)];exact hz i hi
 have h4:val (o2.drop j)<WB ^ (n+1):=aAu a7g fun i hi=>by rw [jy i (.inr hi),eT i (.inr hi)];exact hz i hi
 obtain⟨g1,g2,g3,g4⟩:=aNz h1 h2 h3 h4 hV hd;refine⟨g1,?_,g4 hX⟩;have h5:=tJ out j (d - 1) hj;rw [h0] at h5;have e:val (out.set j (d - 1))=val out+WB ^ j*(d - 1):=by omega
 have h6:=vE o2 j;have h7:=vE U j;rw [a4x (o:=o2) (U:=U) lk fun i hi=>by rw [jy i (.inl hi),eT i (.inl hi)]] at h6;rw [e,Nat.add_mul,Nat.mul_assoc];have h8:WB ^ j*(val (o2.drop j)+(d - 1)*V)=WB ^ j*val (U.drop j):=by rw [g3]
 rw [Nat.mul_add] at h8;omega
theorem aNp {U lv:List Nat} {j n V:Nat} (hU:Wd U) (rY:Wd lv) (hn:2≤n) (xU:lv.length=n) (hV:V=val lv) (hXV:val (U.drop (j+1))<V) :
 val (U.drop j)<V*WB ∧
 (∃ x0,val (U.drop j)=x0+WB ^ (n - 2)*((nth 0 U (j+n)*WB+nth 0 U (j+n - 1))*WB+nth 0 U (j+n - 2))∧x0<WB ^ (n - 2)) ∧
 (∃ v0,V=v0+WB ^ (n - 2)*(nth 0 lv (n - 1)*WB+nth 0 lv (n - 2))∧v0<WB ^ (n - 2)):=by
 have yH:V<WB ^ n:=by rw [hV,← xU];exact wW rY
 have hX:val (U.drop j)<V*WB:=by
  have h1:=a1z U j;have h2:=hU.nth j;have h3:WB*(val (U.drop (j+1))+1)≤WB*V:=Nat.mul_le_mul_left _ hXV;rw [Nat.mul_add,Nat.mul_one] at h3;rw [Nat.mul_comm V WB];omega
 obtain⟨k,rfl⟩:∃ k,n=k+2:=⟨n - 2,by omega⟩;refine⟨hX,?_,?_⟩
 ·have hz:=a5q (U:=U) (j:=j) (m:=k+3) (by
   have:V*WB≤WB ^ (k+2)*WB:=Nat.mul_le_mul_right _ (by omega);have e:WB ^ (k+3)=WB ^ (k+2)*WB:=Nat.pow_succ ..;omega)
  have h1:=vE (U.drop j) k;rw [List.drop_drop] at h1;have h2:=a1z U (j+k);have h3:=a1z U (j+k+1);have h4:=a1z U (j+k+1+1)
  have h5:val (U.drop (j+k+1+1+1))=0:=by
   have:=aAu (o:=U) (j:=j+k+1+1+1) (m:=0) hU (fun i hi=>hz i (by omega))
   simpa using this
  rw [h5] at h4;refine⟨val ((U.drop j).take k),?_,a1K (hU.drop j) k⟩;rw [show j+(k+2) - 1=j+k+1 by omega,show j+(k+2) - 2=j+k by omega,show j+(k+2)=j+k+1+1 by omega,show k+2 - 2=k by omega];rw [← h1,h2,h3,h4]
  grind
 ·have h1:=vE lv k
  have h2:=a1z lv k;have h3:=a1z lv (k+1);have h4:val (lv.drop (k+1+1))=0:=by rw [List.drop_of_length_le (by omega)];rfl
  rw [h4] at h3;refine⟨val (lv.take k),?_,by rw [show k+2 - 2=k by omega];exact a1K rY k⟩;rw [hV,show k+2 - 1=k+1 by omega,show k+2 - 2=k by omega,← h1,h2,h3]
  grind
theorem aTC {lb lv:List Nat} {n s:Nat} (hn:1≤n) (oF:lb.length=n) (hwb:Wd lb) (rY:Wd lv) (aXR:lv.length=n) (hv:val lv=val lb*2 ^ s) (hs:2147483648≤nth 0 lb (n - 1)*2 ^ s):2147483648≤nth 0 lv (n - 1):=by
 obtain⟨k,rfl⟩:∃ k,n=k+1:=⟨n - 1,by omega⟩;simp only [Nat.add_sub_cancel] at *;have h1:=p7 lv k;have h2:=p7 lb k;rw [tI (by omega)] at h1 h2;have h3:=a1K rY k;have h4:WB ^ k*(nth 0 lb k*2 ^ s)≤val lv:=by rw [hv,h2,Nat.add_mul,Nat.mul_assoc];omega
 have h5:WB ^ k*2147483648≤WB ^ k*(nth 0 lb k*2 ^ s):=Nat.mul_le_mul_left _ hs
 rcases Nat.lt_or_ge (nth 0 lv k) 2147483648 with aW|gB
 ·have:WB ^ k*(nth 0 lv k+1)≤WB ^ k*2147483648:=Nat.mul_le_mul_left _ aW
  rw [Nat.mul_add,Nat.mul_one] at this;omega
 ·exact gB
theorem aQD {la lb U:List Nat} {n s:Nat} (hn:1≤n) (oF:lb.length=n) (pM:n≤la.length) (hwa:Wd la) (nb:Nm lb) (hU:Wd U) (tX:U.length=la.length+1) (hUv:val U=val la*2 ^ s) (hp:0<val lb):val (U.drop (la.length - n+1))<val lb*2 ^ s:=by
 have h1:=vE U (la.length - n+1);have h2:=wW hwa;have h3:=a6y nb (by intro e;rw [e] at oF;simp at oF;omega);rw [oF] at h3;have h4:WB ^ la.length=WB ^ (la.length - n+1)*WB ^ (n - 1):=by rw [← Nat.pow_add];congr 1;omega
 have hs:0<2 ^ s:=Nat.pow_pos (by decide)
 have h5:WB ^ (la.length - n+1)*val (U.drop (la.length - n+1))<WB ^ (la.length - n+1)*(WB ^ (n - 1)*2 ^ s):=by
  have:val la*2 ^ s<WB ^ la.length*2 ^ s:=Nat.mul_lt_mul_of_pos_right h2 hs;rw [h4,Nat.mul_assoc] at this;omega
 have h6:=Nat.lt_of_mul_lt_mul_left h5;have h7:WB ^ (n - 1)*2 ^ s≤val lb*2 ^ s:=Nat.mul_le_mul_right _ h3;omega
theorem aT1 {A b q R s:Nat} (h:R+q*(b*2 ^ s)=A*2 ^ s) (hR:R<b*2 ^ s):q*b+R / 2 ^ s=A∧R / 2 ^ s<b:=by
 have hs:0<2 ^ s:=Nat.pow_pos (by decide);have h1:R=(A - q*b)*2 ^ s:=by rw [Nat.sub_mul];grind
 have h2:q*b≤A:=by
  have:q*b*2 ^ s≤A*2 ^ s:=by grind
  exact Nat.le_of_mul_le_mul_right this hs
 have h3:R / 2 ^ s=A - q*b:=by rw [h1,Nat.mul_div_cancel _ hs]
 refine⟨by omega,?_⟩;rw [Nat.div_lt_iff_lt_mul hs];exact hR
theorem aN3 {o U v:List Nat} {j i c t:Nat} (hi:j+i<o.length) (h0:nth 0 o (j+i)=nth 0 U (j+i)) (ht:t=c+(nth 0 U (j+i)+nth 0 v i)) (h:val o+WB ^ (j+i)*c=val U+WB ^ j*val (v.take i)) :
 val (o.set (j+i) (t % WB))+WB ^ (j+(i+1))*(t / WB)=val U+WB ^ j*val (v.take (i+1)):=by
 have h1:=tJ o (j+i) (t % WB) hi;have h2:=Nat.div_add_mod t WB;rw [h0] at h1;rw [p7,← Nat.add_assoc,rR];have h3:WB ^ (j+i)=WB ^ j*WB ^ i:=Nat.pow_add ..;generalize val (o.set (j+i) (t % WB))=X at *;generalize t % WB=r at *;generalize t / WB=q at *;generalize WB ^ (j+i)=B at *;generalize WB ^ j=B1 at *;generalize WB ^ i=B2 at *;subst ht;have e:B*(c+(nth 0 U (j+i)+nth 0 v i))=B*WB*q+B*r:=by rw [← h2];grind
 have e2:B1*(val (List.take i v)+B2*nth 0 v i)=B1*val (List.take i v)+B*nth 0 v i:=by rw [h3];grind
 rw [e2]
 grind
theorem div_pos {U o:List Nat} {j n d V:Nat} (cD:o.length=U.length) (eT:∀ i,(i<j∨j+(n+1)≤i)→nth 0 o i=nth 0 U i) (hwo:Wd o) (qV:val (U.drop j)<WB ^ (n+1)) (ht:val o+WB ^ j*(d*V)=val U+WB ^ (j+(n+1))):1≤d:=by
 have hz:=a5q qV;rw [Nat.pow_add] at ht;have h1:=a7b (a4x cD fun i hi=>eT i (.inl hi)) ht;have h3:val (o.drop j)<WB ^ (n+1):=aAu hwo fun i hi=>by rw [eT i (.inr hi)];exact hz i hi
 rcases Nat.eq_zero_or_pos d with h0|h0
 ·subst h0;simp at h1;omega
 ·exact h0
theorem aUo {U lv:List Nat} {j n V un u1 u2 top iG num X:Nat} (hU:Wd U) (rY:Wd lv) (hn:2≤n) (xU:lv.length=n) (hV:V=val lv) (hXV:val (U.drop (j+1))<V)
 (rW:nth 0 U (j+n)=un) (nY:nth 0 U (j+n - 1)=u1) (tY:nth 0 U (j+n - 2)=u2) (vu:nth 0 lv (n - 1)=top) (vp:nth 0 lv (n - 2)=iG) (h0:0<top) (uT:num=un*WB+u1) (hX:val (U.drop j)=X) :
 X<V*WB∧X<V*(num / top+1)∧(∀ d r,d*top+r=num→d<WB→d*iG≤r*WB+u2→d*V<X+V)∧(∀ d r,d*top+r=num→r*WB+u2<d*iG→X<V*d)∧(∀ d r,d*top+r=num→WB≤r→d<WB∧d*iG≤r*WB+u2):=by
 have yp:=hU.nth (j+n - 1);have zB:=hU.nth (j+n - 2);have rn:=rY.nth (n - 2);obtain⟨pS,⟨x0,a3O,aQ1⟩,⟨v0,a6s,aUk⟩⟩:=aNp (j:=j) hU rY hn xU hV hXV;rw [rW,nY,tY,← uT,hX] at a3O;rw [vu,vp] at a6s;rw [nY] at yp;rw [tY] at zB;rw [vp] at rn;rw [hX] at pS;clear rW nY tY vu vp hX hU rY xU hV hXV;generalize WB ^ (n - 2)=L at *;generalize WB=B at *
 have aTM:num<top*B+B:=by
  refine aSJ (L:=L) (V:=V) (X:=X) pS ?_ ?_ uT yp
  ·rw [a3O,uT]
   have e:L*B*B*un=L*(un*B*B):=by grind
   rw [e];have h2:L*(un*B*B)≤L*((un*B+u1)*B+u2):=Nat.mul_le_mul_left _ (by rw [Nat.add_mul];omega);omega
  ·rw [a6s]
   have e:L*B*(top+1)=L*(top*B)+L*B:=by grind
   rw [e];have h2:L*(top*B+iG+1)≤L*(top*B+B):=Nat.mul_le_mul_left _ (by omega);rw [Nat.mul_add,Nat.mul_one,Nat.mul_add] at h2;rw [Nat.mul_add] at h2;rw [Nat.mul_add];omega
 refine⟨pS,?_,fun d r h1 h2 h3=>aSk a3O a6s aUk h0 h1 h2 h3,fun d r h1 h2=>aUM a3O aQ1 a6s h1 h2,fun d r h1 h2=>aVo h1 h2 aTM rn h0⟩;refine aWs (B:=B) (L:=L) ?_ a6s h0;rw [a3O];have:L*(num*B+u2+1)≤L*(num*B+B):=Nat.mul_le_mul_left _ (by omega);rw [Nat.mul_add,Nat.mul_one] at this;omega
theorem aD:(∀ (a:Act) (d:Tmp) (v:Value),a.put (some d) v={ a with tmps:=a.tmps.setIfInBounds d v })∧(∀ (a:Act) (v:Value),a.put none v=a)∧(∀ {α:Type} (l:List α) (i:Nat) (x:α),l.toArray.setIfInBounds i x=(l.set i x).toArray)∧(∀ {α:Type} (a b:α) (l:List α) (i:Nat),(a::l).set (i+1) b=a::l.set i b)∧(∀ {α:Type} (a b:α) (l:List α),(a::l).set 0 b=b::l)∧(∀ n:Nat,Int.toNat (n:Int)=n)∧(Int.toNat 0=0)∧(Int.toNat 1=1)∧(∀ {α:Type} (d x:α) (xs:List α),nth d (x::xs) 0=x)∧(∀ {α:Type} (d x y:α) (xs:List α),nth d (x::y::xs) 1=y) :=
 ⟨fun _ _ _=>rfl,fun _ _=>rfl,fun l i x=>List.setIfInBounds_toArray ..,fun _ _ _ _=>rfl,fun _ _ _=>rfl,fun _=>rfl,rfl,rfl,fun _ _ _=>rfl,fun _ _ _ _=>rfl⟩
theorem aK:(∀ {α:Type} (a:α) (l m:List α),(a::l)++m=a::(l++m))∧(∀ {α:Type} (l:List α),[]++l=l)∧(∀ {α:Type} (a b:α) (l:List α) (i:Nat),(a::l).set (i+1) b=a::l.set i b)∧(∀ {α:Type} (a b:α) (l:List α),(a::l).set 0 b=b::l)∧(∀ (xs:List Int) (x:Int),iv xs++[.int .i64 x]=iv (xs++[x]))∧(∀ (xs:List zN) (e:zN),tv xs++[.int .i64 e.1,.int .i64 e.2.1,.int .i64 e.2.2]=tv (xs++[e]))∧(∀ a:Array Value,(Value.agg a).cells=a)∧(∀ k x,(Value.int k x).cells=#[.int k x])∧(∀ b,(Value.bool b).cells=#[.bool b])∧(∀ p n c,(Value.slice p n c).cells=#[.slice p n c])∧(∀ p,(Value.pointer p).cells=#[.pointer p])∧(∀ f b c,(Value.func f b c).cells=#[.func f b c])∧(∀ m,(Value.map m).cells=#[.map m]) :=
 ⟨fun _ _ _=>rfl,fun _=>rfl,fun _ _ _ _=>rfl,fun _ _ _=>rfl,aTm,aWC,fun _=>rfl,fun _ _=>rfl,fun _=>rfl,fun _ _ _=>rfl,fun _=>rfl,fun _ _ _=>rfl,fun _=>rfl⟩
theorem NRS:(∀ {α:Type} (l:List α),l.take 0=[])∧(∀ {α:Type} (l:List α),l++[]=l)∧(∀ {α:Type} (a:α) (l:List α) (i:Nat),(a::l).drop (i+1)=l.drop i)∧(∀ {α:Type} (l:List α),l.drop 0=l)∧(∀ {α:Type} (i:Nat),([]:List α).drop i=[])∧(∀ {α:Type} (a:α) (l:List α) (i:Nat),(a::l).take (i+1)=a::l.take i)∧(∀ {α:Type} (l:List α),l.toArray.size=l.length)∧(∀ {α:Type} (a:α) (l:List α),(a::l).length=l.length+1)∧(∀ {α:Type},([]:List α).length=0) :=
 ⟨fun _=>rfl,fun l=>List.append_nil l,fun _ _ _=>rfl,fun _=>rfl,fun _=>List.drop_nil,fun _ _ _=>rfl,fun _=>rfl,fun _ _=>rfl,rfl⟩
theorem fA:(∀ {α:Type} (l:List α) (i:Nat) (h:i<l.toArray.size),l.toArray[i]=l[i]'(by simpa using h))∧(∀ {α:Type} (a:α) (l:List α) (h:0<(a::l).length),(a::l)[0]=a)∧(∀ {α:Type} (a:α) (l:List α) (i:Nat) (h:i+1<(a::l).length),(a::l)[i+1]=l[i]'(by simpa using h)):=⟨fun _ _ _=>rfl,fun _ _ _=>rfl,fun _ _ _ _=>rfl⟩
section
variable {P:Program} {ops:Array Oper} {Q:Exit→Act→World→Prop} {C:World→Prop} {rest:List Oper} {s:List Mv} {i k n c g:Nat} {a a':Act} {w w0 wr:World} {S:Nat→Prop} {H H':List Chunk} {dst:Option Tmp} {x y ix:Operand} {op:Op} {ty T E Tb:TypeId} {pos:String} {ak:Array Edge} {b off:Nat} {arr:Array Value} {fr:Nat × Nat} {u v z:Value} {cs us:List Value} {gd:Option (Nat × Bool)}
theorem aU  (j:Nat) (hS:aA w0 w H) (fU:∀ w,(isAgg T).run P w=.ok false w) (hk:wpList P ops Q rest a' w) (hx:a.eval x=.pointer (some ⟨b,off,none⟩):=by with_unfolding_all rfl) (hj:H[j]? = some (.aB b (.cells arr Tb fr)):=by with_unfolding_all rfl) (h0:arr[off]? = some u:=by with_unfolding_all rfl) (hg:Region.wanted ⟨dst,.load T x,ty,pos,ak,gd⟩ (yielded ops a.tmps)=true:=by with_unfolding_all rfl) (ha:a.put dst (u)=a':=by (simp only [aD,fA];exact rfl)):wpList P ops Q (⟨dst,.load T x,ty,pos,ak,gd⟩::rest) a w:=by
 subst ha;exact dI hS hg (zD (T:=T) j fU hx hj h0 hk)
theorem cZ  (j:Nat) (fU:∀ w,(isAgg T).run P w=.ok false w) (hk:dN P ops Q (fun w=>aA w0 w H) s a' w) (ho:ops[i]? = some ⟨dst,.load T x,ty,pos,ak,gd⟩:=by with_unfolding_all rfl) (hx:a.eval x=.pointer (some ⟨b,off,none⟩):=by with_unfolding_all rfl) (hj:H[j]? = some (.aB b (.cells arr Tb fr)):=by with_unfolding_all rfl) (h0:arr[off]? = some u:=by with_unfolding_all rfl) (hg:Region.wanted ⟨dst,.load T x,ty,pos,ak,gd⟩ (yielded ops a.tmps)=true:=by with_unfolding_all rfl) (ha:a.put dst (u)=a':=by (simp only [aD,fA];exact rfl)):dN P ops Q (fun w=>aA w0 w H) (.r i::s) a w:=by
 subst ha;exact jh ho hg (zD (T:=T) j fU hx hj h0 hk)
theorem bA  (j:Nat) (hS:aA w0 w H) (fU:∀ w,(isAgg T).run P w=.ok true w) (hz:∀ w,(sizeOf T).run P w=.ok k w) (hk:wpList P ops Q rest a' w) (hx:a.eval x=.pointer (some ⟨b,0,none⟩):=by with_unfolding_all rfl) (hj:H[j]? = some (.aB b (.cells arr Tb fr)):=by with_unfolding_all rfl) (h0:arr.size=k:=by with_unfolding_all rfl) (hg:Region.wanted ⟨dst,.load T x,ty,pos,ak,gd⟩ (yielded ops a.tmps)=true:=by with_unfolding_all rfl) (ha:a.put dst (.agg arr)=a':=by (simp only [aD];exact rfl)):wpList P ops Q (⟨dst,.load T x,ty,pos,ak,gd⟩::rest) a w:=by
 subst ha;exact dI hS hg (aCf (T:=T) j fU hz hx hj h0 hk)
theorem cz  (j:Nat) (fU:∀ w,(isAgg T).run P w=.ok true w) (hz:∀ w,(sizeOf T).run P w=.ok k w) (hk:dN P ops Q (fun w=>aA w0 w H) s a' w) (ho:ops[i]? = some ⟨dst,.load T x,ty,pos,ak,gd⟩:=by with_unfolding_all rfl) (hx:a.eval x=.pointer (some ⟨b,0,none⟩):=by with_unfolding_all rfl) (hj:H[j]? = some (.aB b (.cells arr Tb fr)):=by with_unfolding_all rfl) (h0:arr.size=k:=by with_unfolding_all rfl) (hg:Region.wanted ⟨dst,.load T x,ty,pos,ak,gd⟩ (yielded ops a.tmps)=true:=by with_unfolding_all rfl) (ha:a.put dst (.agg arr)=a':=by (simp only [aD];exact rfl)):dN P ops Q (fun w=>aA w0 w H) (.r i::s) a w:=by
 subst ha;exact jh ho hg (aCf (T:=T) j fU hz hx hj h0 hk)
theorem eW  (j:Nat) (hS:aA w0 w H) (fU:∀ w,(isAgg T).run P w=.ok true w) (hz:∀ w,(sizeOf T).run P w=.ok k w) (hk:wpList P ops Q rest a' w) (hx:a.eval x=.pointer (some ⟨b,off,none⟩):=by with_unfolding_all rfl) (hj:H[j]? = some (.aB b (.cells arr Tb fr)):=by with_unfolding_all rfl) (h0:off+k≤arr.size:=by simp) (hg:Region.wanted ⟨dst,.load T x,ty,pos,ak,gd⟩ (yielded ops a.tmps)=true:=by with_unfolding_all rfl) (ha:a.put dst (.agg ((arr.toList.drop off).take k).toArray)=a':=by (simp only [aD,NRS];exact rfl)):wpList P ops Q (⟨dst,.load T x,ty,pos,ak,gd⟩::rest) a w:=by
 subst ha;exact dI hS hg (a6f (T:=T) j fU hz hx hj h0 hk)
theorem tf  (j:Nat) (fU:∀ w,(isAgg T).run P w=.ok true w) (hz:∀ w,(sizeOf T).run P w=.ok k w) (hk:dN P ops Q (fun w=>aA w0 w H) s a' w) (ho:ops[i]? = some ⟨dst,.load T x,ty,pos,ak,gd⟩:=by with_unfolding_all rfl) (hx:a.eval x=.pointer (some ⟨b,off,none⟩):=by with_unfolding_all rfl) (hj:H[j]? = some (.aB b (.cells arr Tb fr)):=by with_unfolding_all rfl) (h0:off+k≤arr.size:=by simp) (hg:Region.wanted ⟨dst,.load T x,ty,pos,ak,gd⟩ (yielded ops a.tmps)=true:=by with_unfolding_all rfl) (ha:a.put dst (.agg ((arr.toList.drop off).take k).toArray)=a':=by (simp only [aD,NRS];exact rfl)):dN P ops Q (fun w=>aA w0 w H) (.r i::s) a w:=by
 subst ha;exact jh ho hg (a6f (T:=T) j fU hz hx hj h0 hk)
theorem fP  (hS:aA w0 w H) (fU:∀ w,(isAgg T).run P w=.ok false w) (hk:wpList P ops Q rest a' w) (hx:a.eval x=.pointer (some ⟨b,off,none⟩):=by with_unfolding_all rfl) (hc:dM wr S ⟨b,off,none⟩ cs:=by with_reducible assumption) (hm:Chunk.aH S wr ∈ H:=by simp) (h0:cs[0]? = some u:=by with_unfolding_all rfl) (hg:Region.wanted ⟨dst,.load T x,ty,pos,ak,gd⟩ (yielded ops a.tmps)=true:=by with_unfolding_all rfl) (ha:a.put dst (u)=a':=by (simp only [aD];exact rfl)):wpList P ops Q (⟨dst,.load T x,ty,pos,ak,gd⟩::rest) a w:=by
 subst ha;exact dI hS hg (a6w (T:=T) fU hx hc hm h0 hk)
theorem eY  (fU:∀ w,(isAgg T).run P w=.ok false w) (hk:dN P ops Q (fun w=>aA w0 w H) s a' w) (ho:ops[i]? = some ⟨dst,.load T x,ty,pos,ak,gd⟩:=by with_unfolding_all rfl) (hx:a.eval x=.pointer (some ⟨b,off,none⟩):=by with_unfolding_all rfl) (hc:dM wr S ⟨b,off,none⟩ cs:=by with_reducible assumption) (hm:Chunk.aH S wr ∈ H:=by simp) (h0:cs[0]? = some u:=by with_unfolding_all rfl) (hg:Region.wanted ⟨dst,.load T x,ty,pos,ak,gd⟩ (yielded ops a.tmps)=true:=by with_unfolding_all rfl) (ha:a.put dst (u)=a':=by (simp only [aD];exact rfl)):dN P ops Q (fun w=>aA w0 w H) (.r i::s) a w:=by
 subst ha;exact jh ho hg (a6w (T:=T) fU hx hc hm h0 hk)
theorem pU  (j:Nat) (fU:∀ w,(isAgg T).run P w=.ok false w) (hk:dN P ops Q (fun w=>aA w0 w H) s a' w) (ho:ops[i]? = some ⟨dst,.load T x,ty,pos,ak,gd⟩:=by with_unfolding_all rfl) (hx:a.eval x=.pointer (some ⟨b,off+j,none⟩):=by with_unfolding_all rfl) (hc:dM wr S ⟨b,off,none⟩ cs:=by with_reducible assumption) (hm:Chunk.aH S wr ∈ H:=by simp) (h0:cs[j]? = some u:=by with_unfolding_all rfl) (hg:Region.wanted ⟨dst,.load T x,ty,pos,ak,gd⟩ (yielded ops a.tmps)=true:=by with_unfolding_all rfl) (ha:a.put dst (u)=a':=by (simp only [aD];exact rfl)):dN P ops Q (fun w=>aA w0 w H) (.r i::s) a w:=by
 subst ha;exact jh ho hg (gu (T:=T) j fU hx hc hm h0 hk)
theorem j9  (hS:aA w0 w H) (fU:∀ w,(isAgg T).run P w=.ok true w) (hz:∀ w,(sizeOf T).run P w=.ok k w) (hk:wpList P ops Q rest a' w) (hx:a.eval x=.pointer (some ⟨b,off,none⟩):=by with_unfolding_all rfl) (hc:dM wr S ⟨b,off,none⟩ cs:=by with_reducible assumption) (hm:Chunk.aH S wr ∈ H:=by simp) (h0:cs.length=k:=by with_unfolding_all rfl) (hg:Region.wanted ⟨dst,.load T x,ty,pos,ak,gd⟩ (yielded ops a.tmps)=true:=by with_unfolding_all rfl) (ha:a.put dst (.agg cs.toArray)=a':=by (simp only [aD];exact rfl)):wpList P ops Q (⟨dst,.load T x,ty,pos,ak,gd⟩::rest) a w:=by
 subst ha;exact dI hS hg (a9E (T:=T) fU hz hx hc hm h0 hk)
theorem qE  (fU:∀ w,(isAgg T).run P w=.ok true w) (hz:∀ w,(sizeOf T).run P w=.ok k w) (hk:dN P ops Q (fun w=>aA w0 w H) s a' w) (ho:ops[i]? = some ⟨dst,.load T x,ty,pos,ak,gd⟩:=by with_unfolding_all rfl) (hx:a.eval x=.pointer (some ⟨b,off,none⟩):=by with_unfolding_all rfl) (hc:dM wr S ⟨b,off,none⟩ cs:=by with_reducible assumption) (hm:Chunk.aH S wr ∈ H:=by simp) (h0:cs.length=k:=by with_unfolding_all rfl) (hg:Region.wanted ⟨dst,.load T x,ty,pos,ak,gd⟩ (yielded ops a.tmps)=true:=by with_unfolding_all rfl) (ha:a.put dst (.agg cs.toArray)=a':=by (simp only [aD];exact rfl)):dN P ops Q (fun w=>aA w0 w H) (.r i::s) a w:=by
 subst ha;exact jh ho hg (a9E (T:=T) fU hz hx hc hm h0 hk)
theorem uC  (j:Nat) (hS:aA w0 w H) (fU:∀ w,(isAgg T).run P w=.ok false w) {xs:List Int} {q:Nat} (hk:wpList P ops Q rest a' w) (hx:a.eval x=.pointer (some ⟨g,q,none⟩):=by with_unfolding_all rfl) (hj:H[j]? = some (.row (.slice (some ⟨g,0,none⟩) n c) Tb 1 n (iv xs)):=by with_unfolding_all rfl) (hq:q<n:=by omega) (hg:Region.wanted ⟨dst,.load T x,ty,pos,ak,gd⟩ (yielded ops a.tmps)=true:=by with_unfolding_all rfl) (ha:a.put dst (.int .i64 (nth 0 xs q))=a':=by (simp only [aD];exact rfl)):wpList P ops Q (⟨dst,.load T x,ty,pos,ak,gd⟩::rest) a w:=by
 subst ha;exact dI hS hg (aVE (T:=T) j fU hx hj hq hk)
theorem kW {z:Int} (hu:P.underlying T=some (.slice E)) (hz:∀ w,(sizeOf E).run P w=.ok 1 w) (hk:wpList P ops Q rest a' w) (hx:a.eval x=.slice (some ⟨g,off,none⟩) n c:=by with_unfolding_all rfl) (hi:a.eval ix=.int .i64 z:=by with_unfolding_all rfl) (dg:0≤z:=by omega) (jU:z<n:=by omega) (hg:Region.wanted ⟨dst,.indexAddr T x ix,ty,pos,ak,gd⟩ (yielded ops a.tmps)=true:=by with_unfolding_all rfl) (ha:a.put dst (.pointer (some ⟨g,off+z.toNat,none⟩))=a':=by (simp only [aD,Nat.zero_add,Int.toNat_natCast,Nat.mul_one];exact rfl)):wpList P ops Q (⟨dst,.indexAddr T x ix,ty,pos,ak,gd⟩::rest) a w :=
 ck hg (gC (T:=T) hu hz hx hi dg jU (by rw [ha];exact hk))
theorem a2J {z:Int} (hu:P.underlying T=some (.slice E)) (hz:∀ w,(sizeOf E).run P w=.ok 1 w) (hk:dN P ops Q C s a' w) (ho:ops[i]? = some ⟨dst,.indexAddr T x ix,ty,pos,ak,gd⟩:=by with_unfolding_all rfl) (hx:a.eval x=.slice (some ⟨g,off,none⟩) n c:=by with_unfolding_all rfl) (hi:a.eval ix=.int .i64 z:=by with_unfolding_all rfl) (dg:0≤z:=by omega) (jU:z<n:=by omega) (hg:Region.wanted ⟨dst,.indexAddr T x ix,ty,pos,ak,gd⟩ (yielded ops a.tmps)=true:=by with_unfolding_all rfl) (ha:a.put dst (.pointer (some ⟨g,off+z.toNat,none⟩))=a':=by (simp only [aD,Nat.zero_add,Int.toNat_natCast,Nat.mul_one];exact rfl)):dN P ops Q C (.p i::s) a w :=
 j3 ho hg (gC (T:=T) hu hz hx hi dg jU (by rw [ha];exact hk))
theorem sV {z:Int} {ad:Option Addr} {xs:List Int} {a':Nat→Nat→Act} (hu:P.underlying T=some (.slice E)) (hz:∀ w,(sizeOf E).run P w=.ok 1 w) (hk:∀ b off,dM wr S ⟨b,off,none⟩ [.int .i64 (nth 0 xs z.toNat)]→wpList P ops Q rest (a' b off) w) (hx:a.eval x=.slice ad n c:=by with_unfolding_all rfl) (hi:a.eval ix=.int .i64 z:=by with_unfolding_all rfl) (hv:Ints wr S (.slice ad n c) xs:=by with_reducible assumption) (dg:0≤z:=by omega) (jU:z<n:=by omega) (hg:Region.wanted ⟨dst,.indexAddr T x ix,ty,pos,ak,gd⟩ (yielded ops a.tmps)=true:=by with_unfolding_all rfl) (ha:∀ b off,a.put dst (.pointer (some ⟨b,off,none⟩))=a' b off:=by (intro _ _;simp only [aD];exact rfl)):wpList P ops Q (⟨dst,.indexAddr T x ix,ty,pos,ak,gd⟩::rest) a w :=
 ck hg (aCn (T:=T) hu hz hx hi hv dg jU (fun b off hc=>by rw [ha];exact hk b off hc))
theorem ixN {z:Int} {ad:Option Addr} {xs:List Nat} {a':Nat→Nat→Act} (hu:P.underlying T=some (.slice E)) (hz:∀ w,(sizeOf E).run P w=.ok 1 w) (hk:∀ b off,dM wr S ⟨b,off,none⟩ [.int .i64 ((nth 0 xs z.toNat:Nat):Int)]→wpList P ops Q rest (a' b off) w) (hx:a.eval x=.slice ad n c:=by with_unfolding_all rfl) (hi:a.eval ix=.int .i64 z:=by with_unfolding_all rfl) (hv:jZ wr S (.slice ad n c) xs:=by with_reducible assumption) (dg:0≤z:=by omega) (jU:z<n:=by omega) (hg:Region.wanted ⟨dst,.indexAddr T x ix,ty,pos,ak,gd⟩ (yielded ops a.tmps)=true:=by with_unfolding_all rfl) (ha:∀ b off,a.put dst (.pointer (some ⟨b,off,none⟩))=a' b off:=by (intro _ _;simp only [aD];exact rfl)):wpList P ops Q (⟨dst,.indexAddr T x ix,ty,pos,ak,gd⟩::rest) a w :=
 ck hg (aNi (T:=T) hu hz hx hi hv dg jU (fun b off hc=>by rw [ha];exact hk b off hc))
theorem iH {z:Nat} {a':Nat→Nat→Act} (hu:P.underlying T=some (.slice E)) (hz:∀ w,(sizeOf E).run P w=.ok k w) (hv:bN wr S k v n cs) (he:(cs.drop (z*k)).take k=us) (hk:∀ b off,dM wr S ⟨b,off,none⟩ us→wpList P ops Q rest (a' b off) w) (hx:a.eval x=v:=by with_unfolding_all rfl) (hi:a.eval ix=.int .i64 (z:Int):=by with_unfolding_all rfl) (dg:0≤(z:Int):=by omega) (jU:(z:Int)<n:=by omega) (kE:0<k:=by omega) (hg:Region.wanted ⟨dst,.indexAddr T x ix,ty,pos,ak,gd⟩ (yielded ops a.tmps)=true:=by with_unfolding_all rfl) (ha:∀ b off,a.put dst (.pointer (some ⟨b,off,none⟩))=a' b off:=by (intro _ _;simp only [aD];exact rfl)):wpList P ops Q (⟨dst,.indexAddr T x ix,ty,pos,ak,gd⟩::rest) a w :=
 ck hg (lI (T:=T) hu hz hx hi hv dg jU kE (fun b off hc=>by rw [ha];rw [Int.toNat_natCast,he] at hc;exact hk b off hc))
theorem e9 {z:Nat} {a':Nat→Nat→Act} (hu:P.underlying T=some (.slice E)) (hz:∀ w,(sizeOf E).run P w=.ok k w) (hv:bN wr S k v n cs) (he:(cs.drop (z*k)).take k=us) (hk:∀ b off,dM wr S ⟨b,off,none⟩ us→dN P ops Q C s (a' b off) w) (ho:ops[i]? = some ⟨dst,.indexAddr T x ix,ty,pos,ak,gd⟩:=by with_unfolding_all rfl) (hx:a.eval x=v:=by with_unfolding_all rfl) (hi:a.eval ix=.int .i64 (z:Int):=by with_unfolding_all rfl) (dg:0≤(z:Int):=by omega) (jU:(z:Int)<n:=by omega) (kE:0<k:=by omega) (hg:Region.wanted ⟨dst,.indexAddr T x ix,ty,pos,ak,gd⟩ (yielded ops a.tmps)=true:=by with_unfolding_all rfl) (ha:∀ b off,a.put dst (.pointer (some ⟨b,off,none⟩))=a' b off:=by (intro _ _;simp only [aD];exact rfl)):dN P ops Q C (.p i::s) a w :=
 j3 ho hg (lI (T:=T) hu hz hx hi hv dg jU kE (fun b off hc=>by rw [ha];rw [Int.toNat_natCast,he] at hc;exact hk b off hc))
theorem aJ (j:Nat) (hS:aA w0 w H) (hT:∀ w,(sizeOf T).run P w=.ok k w) (hk:∀ w',aA w0 w' H'→wpList P ops Q rest a' w') (hx:a.eval x=.pointer (some ⟨b,off,none⟩):=by with_unfolding_all rfl) (hy:a.eval y=u:=by with_unfolding_all ((conv=>lhs;whnf);try exact rfl)) (hj:H[j]? = some (.aB b (.cells arr Tb (0,0))):=by with_unfolding_all rfl) (hc:u.cells.size=k:=by with_unfolding_all rfl) (h1:u.cells.all (·.oneCell')=true:=by simp [Value.cells,Value.oneCell']) (hl:off+u.cells.size≤arr.size:=by simp [Value.cells])
 (hH:H.set j (.aB b (.cells (arr.toList.take off++u.cells.toList++arr.toList.drop (off+u.cells.size)).toArray Tb (0,0)))=H':=by (simp only [aK,NRS,Value.cells,Nat.reduceAdd];exact rfl)) (ha:a.put dst undef=a':=by (simp only [aD];exact rfl)):wpList P ops Q (⟨dst,.store T x y,ty,pos,ak,none⟩::rest) a w:=by
 subst ha hH hc;exact aAm j hS hx hy hj hT h1 hl hk
theorem xS {xs:List Int} {q:Nat} {v:Int} (j:Nat) (hS:aA w0 w H) (hT:∀ w,(sizeOf T).run P w=.ok 1 w) (hk:∀ w',aA w0 w' H'→wpList P ops Q rest a' w') (hx:a.eval x=.pointer (some ⟨g,q,none⟩):=by with_unfolding_all rfl) (hy:a.eval y=.int .i64 v:=by with_unfolding_all rfl) (hj:H[j]? = some (.row (.slice (some ⟨g,0,none⟩) n c) Tb 1 n (iv xs)):=by with_unfolding_all rfl) (hi:q<n:=by omega)
 (hH:H.set j (.row (.slice (some ⟨g,0,none⟩) n c) Tb 1 n (iv (xs.set q v)))=H':=by (simp only [aK];exact rfl)) (ha:a.put dst undef=a':=by (simp only [aD];exact rfl)):wpList P ops Q (⟨dst,.store T x y,ty,pos,ak,none⟩::rest) a w:=by
 subst ha hH;exact aPG j hS hx hy hj hi hT hk
theorem cI {a':Nat→Act} {H':Nat→List Chunk} (hS:aA w0 w H) (hk:∀ b w',aA w0 w' (H' b)→wpList P ops Q rest (a' b) w') (hx:a.eval x=v:=by with_unfolding_all ((conv=>lhs;whnf);try exact rfl)) (hH:∀ b,H++[.aB b (.cells v.cells T (0,0))]=H' b:=by (intro _;simp only [aK,Value.cells];exact rfl)) (ha:∀ b,a.put dst (.pointer (some ⟨b,0,none⟩))=a' b:=by (intro _;simp only [aD];exact rfl)):wpList P ops Q (⟨dst,.box T x,ty,pos,ak,none⟩::rest) a w :=
 aHO hS hx (fun b w' h=>by rw [ha];exact hk b w' (by rw [← hH];exact h))
theorem bxO {a':Nat→Act} {H':Nat→List Chunk} (hS:aA w0 w H) (hk:∀ b w',aA w0 w' (H' b)→wpList P ops Q rest (a' b) w') (hx:a.eval x=v:=by with_unfolding_all (exact rfl)) (hH:∀ b,H++[.aB b (.cells v.cells T (0,0))]=H' b:=by (intro _;simp only [aK,Value.cells];exact rfl)) (ha:∀ b,a.put dst (.pointer (some ⟨b,0,none⟩))=a' b:=by (intro _;simp only [aD];exact rfl)):wpList P ops Q (⟨dst,.box T x,ty,pos,ak,none⟩::rest) a w :=
 aHO hS hx (fun b w' h=>by rw [ha];exact hk b w' (by rw [← hH];exact h))
theorem bH {a':Nat→Act} {H':Nat→List Chunk} (hS:aA w0 w H) (hz:∀ w,(zeroValue T).run P w=.ok z w) (hk:∀ b w',aA w0 w' (H' b)→wpList P ops Q rest (a' b) w') (hH:∀ b,H++[.aB b (.cells z.cells T (0,0))]=H' b:=by (intro _;simp only [aK,Value.cells];exact rfl)) (ha:∀ b,a.put dst (.pointer (some ⟨b,0,none⟩))=a' b:=by (intro _;simp only [aD];exact rfl)):wpList P ops Q (⟨dst,.alloc T,ty,pos,ak,none⟩::rest) a w :=
 aUt hS hz (fun b w' h=>by rw [ha];exact hk b w' (by rw [← hH];exact h))
theorem bU (hk:dN P ops Q C s a' w) (ho:ops[i]? = some ⟨dst,op,ty,pos,ak,gd⟩:=by with_unfolding_all rfl) (hw:Region.wanted ⟨dst,op,ty,pos,ak,gd⟩ (yielded ops a.tmps)=true:=by with_unfolding_all rfl)
 (h:∀ K:Act→Prop,K a'→∃ v,(∀ w',(execOp a.eval ⟨dst,op,ty,pos,ak,gd⟩).run P w'=.ok (.value v) w')∧K (a.put dst v):=by (intro K hK;go_simp;exact hK)):dN P ops Q C (.p i::s) a w :=
 let ⟨v,hr,h2⟩:=h (fun x=>x=a') rfl
 aLe ho hw hr (by rw [h2];exact hk)
theorem gm {m:Mv} (hk:dN P ops Q C s a' w) (hm:m=.p i∨m=.r i:=by first|exact .inl rfl|exact .inr rfl) (ho:ops[i]? = some ⟨dst,op,ty,pos,ak,gd⟩:=by with_unfolding_all rfl) (hw:Region.wanted ⟨dst,op,ty,pos,ak,gd⟩ (yielded ops a.tmps)=false:=by with_unfolding_all rfl) (ha:a.put dst undef=a':=by (simp only [aD];exact rfl)):dN P ops Q C (m::s) a w:=by
 subst ha
 rcases hm with rfl|rfl
 ·exact aPk ho hw hk
 ·exact aWG ho hw hk
theorem aA.sb (h:aA w0 w H) (hs:H'.Sublist H:=by repeat (first|exact List.Sublist.refl _|apply List.Sublist.cons_cons|apply List.Sublist.cons|exact List.nil_sublist _)):aA w0 w H':=h.sub hs
theorem dB {id:Nat} {l:List Oper} (s:List Mv) (M:List Nat) (hS:aA w0 w H) (h:∀ w',aA w0 w' H→dN P l.toArray (di Q) (fun w=>aA w0 w H) s a w') (hm:P.follows .mixedOrders=true:=by kernel_rfl)
 (bG:(Region.noSelect l.toArray && (s.length == l.length) && p9 .any l.toArray M s (Array.replicate l.length false))=true:=by kernel_rfl):(Code.region id l.toArray true).wp P Q a w :=
 gI s M _ hm bG hS.drew h
end
theorem aM {G G':Prop} (hk:G') (h:PLift G'→G:=by (intro hk;(repeat (first|(with_reducible refine gm ?_)|(with_reducible refine bU ?_)));exact hk.down)):G:=h ⟨hk⟩
theorem Hd {p:Prop} (h:p):RowKit.Hid p:=h
theorem w6 {x:Int} (h1:-9223372036854775808≤x:=by omega) (h2:x≤9223372036854775807:=by omega):IntKind.i64.wrap x=x:=by rw [IntKind.wrap_i64];omega
theorem w7 {x y:Int} (h:x=y:=by omega) (h1:-9223372036854775808≤x:=by omega) (h2:x≤9223372036854775807:=by omega):IntKind.i64.wrap x=y:=by rw [w6 h1 h2,h]
theorem iw:(∀ {α β:Type} (f:α→Option β) (a:α) (l:List α),(a::l).filterMap f=match f a with|none=>l.filterMap f|some b=>b::l.filterMap f)∧(∀ {α:Type} (a:α) (l:List α),(a::l)[0]? = some a)∧(∀ {α:Type} (a:α) (l:List α) (i:Nat),(a::l)[i+1]? = l[i]?)∧(∀ {α β:Type} (f:α→Option β),([]:List α).filterMap f=[]):=⟨fun _ _ _=>List.filterMap_cons,fun _ _=>rfl,fun _ _ _=>rfl,fun _=>rfl⟩
section
variable {P:Program} {ops:Array Oper} {Q:Exit→Act→World→Prop} {C:World→Prop} {s:List Mv} {i:Nat} {a:Act} {w:World} {dst:Option Tmp} {op:Op} {ty:TypeId} {pos:String} {ak:Array Edge} {g:Option (Nat × Bool)}
theorem bE (h:Q .normal a w):dN P ops (di Q) C [] a w:=h
theorem aZ (h:wpList P ops (Exit.then (fun a' w'=>C w'∧dN P ops (di Q) C s a' w') (di Q)) [⟨dst,op,ty,pos,ak,g⟩] a w) (ho:ops[i]? = some ⟨dst,op,ty,pos,ak,g⟩:=by rfl):dN P ops (di Q) C (.e i::s) a w:=aNe ho h
theorem dC (h:wpList P ops (Exit.then (fun a' w'=>dN P ops (di Q) C s a' w') (di Q)) [⟨dst,op,ty,pos,ak,g⟩] a w) (ho:ops[i]? = some ⟨dst,op,ty,pos,ak,g⟩:=by rfl):dN P ops (di Q) C (.m i::s) a w:=aO6 ho h
end
theorem a0T {x:Nat} (h:x<18446744073709551616):IntKind.u64.wrap (x:Int)=(x:Int):=by rw [IntKind.wrap_u64];omega
def wv (l:List Nat):List Value:=l.map (fun n=>Value.int .u32 ((n:Nat):Int))
theorem xt (l:List Nat):(wv l).length=l.length:=by simp [wv]
theorem a8p {l:List Nat} {i:Nat} (h:i<l.length):(wv l)[i]? = some (.int .u32 ((nth 0 l i:Nat):Int)):=by
 rw [bS 0 l i h];simp [wv,h]
theorem aRC (l:List Nat) (i:Nat):(wv l).take i=wv (l.take i):=by simp [wv,List.map_take]
theorem aRm (l:List Nat) (i x:Nat):(wv l).set i (.int .u32 (x:Int))=wv (l.set i x):=by simp [wv]
theorem aPy (l:List Nat):∀ u ∈ wv l,u.oneCell'=true:=by
 intro u hu;obtain⟨n,_,rfl⟩:=List.mem_map.1 hu
 rfl
theorem aTb {l:List Nat} {i:Nat} (h:i<l.length):((wv l).drop i).take 1=[.int .u32 ((nth 0 l i:Nat):Int)]:=by
 apply List.ext_getElem?;intro j;rw [List.getElem?_take,List.getElem?_drop];cases j with
 | zero=>simp [a8p h]
 | succ j=>simp
theorem xI {α:Type} (d:α) (l:List α) {k i:Nat} (h:i<k):nth d (l.take k) i=nth d l i:=by
 unfold nth;simp [List.getD_eq_getElem?_getD,List.getElem?_take,h]
structure dA (w:World) (S:Nat→Prop) (v:Value) (l:List Nat):Prop where
 sl:bN w S 1 v l.length (wv l)
 wd:Wd l
structure Pure (w:World) (S:Nat→Prop) (w':World) (S':Nat→Prop):Prop where
 below:Below w.heap.size w w'
 drawn:w.drawn≤w'.drawn
 sub:∀ k,S k→S' k
 new:∀ k,S' k→S k∨ja w w' k
theorem Pure.refl (w:World) (S:Nat→Prop):Pure w S w S:=⟨Below.refl _ _,Nat.le_refl _,fun _ h=>h,fun _ h=>.inl h⟩
theorem ja.aM4 {w w' uG:World} (h:Below w'.heap.size w' uG) {k:Nat} (hk:Go.Hp.ja w w' k):Go.Hp.ja w uG k:=⟨hk.1,Nat.lt_of_lt_of_le hk.2 h.size⟩
theorem Pure.trans {w w' uG:World} {S S' S'':Nat→Prop} (h:Pure w S w' S') (h':Pure w' S' uG S''):Pure w S uG S'' :=
 ⟨h.below.trans (h'.below.mono h.below.size),Nat.le_trans h.drawn h'.drawn,fun k hk=>h'.sub k (h.sub k hk),fun k hk=>by
  rcases h'.new k hk with h1|h1
  ·rcases h.new k h1 with h2|h2
   ·exact .inl h2
   ·exact .inr (ja.aM4 h'.below h2)
  ·exact .inr ⟨Nat.le_trans h.below.size h1.1,h1.2⟩⟩
theorem bN.grow {w w':World} {S S':Nat→Prop} {k n:Nat} {v:Value} {cs:List Value} (h:bN w S k v n cs) (hp:Pure w S w' S'):bN w' S' k v n cs:=(h.below hp.below).weaken hp.sub
theorem dA.grow {w w':World} {S S':Nat→Prop} {v:Value} {l:List Nat} (h:dA w S v l) (hp:Pure w S w' S'):dA w' S' v l:=⟨h.sl.grow hp,h.wd⟩
theorem dA.len {w:World} {S:Nat→Prop} {ad:Option Addr} {n c:Nat} {l:List Nat} (h:dA w S (.slice ad n c) l):n=l.length:=by
 obtain⟨h1,a,cap,h2,_⟩:=h.sl;cases h2;rfl
theorem dA.cap {w:World} {S:Nat→Prop} {ad:Option Addr} {n c:Nat} {l:List Nat} (h:dA w S (.slice ad n c) l):n≤c∧c≤9223372036854775807:=by
 obtain⟨h1,a,cap,h2,h3,h4,_⟩:=h.sl;cases h2;simp only [maxLen] at h4;omega
theorem dA.cut {w:World} {S:Nat→Prop} {ad:Option Addr} {n c:Nat} {l:List Nat} (h:dA w S (.slice ad n c) l) {k:Nat} (hk:k≤l.length):dA w S (.slice ad k c) (l.take k):=by
 obtain⟨⟨h1,a,cap,h2,h3,h4,h5,h6⟩,hw⟩:=h;cases h2;refine⟨⟨by rw [xt,Nat.mul_one],ad,c,by rw [List.length_take,Nat.min_eq_left hk],by rw [List.length_take];omega,h4,fun e=>⟨?_,(h5 e).2⟩,fun a e=>?_⟩,hw.take k⟩
 ·have:=(h5 e).1;rw [List.length_take];omega
 ·obtain⟨g1,g2,g3⟩:=h6 a e
  rw [← aRC];refine⟨fun bJ=>g1 (fun e=>bJ (by rw [e];exact List.take_nil)),fun bJ=>g2 (fun e=>bJ (by rw [e];exact List.take_nil)),fun j u hu=>g3 j u ?_⟩;rw [List.getElem?_take] at hu
  split at hu
  ·exact hu
  ·cases hu
theorem dA.nil (w:World) (S:Nat→Prop):dA w S (.slice none 0 0) []:=⟨bN.nil w S 1,by intro x hx;cases hx⟩
theorem dA.later {w0 w wr:World} {H:List Chunk} {S:Nat→Prop} {v:Value} {l:List Nat} (h:dA wr S v l) (hS:aA w0 w H) (hm:Chunk.aH S wr ∈ H):dA w S v l:=⟨h.sl.later hS hm,h.wd⟩
theorem dA.weaken {w:World} {S T:Nat→Prop} {v:Value} {l:List Nat} (h:dA w S v l) (iU:∀ k,S k→T k):dA w T v l:=⟨h.sl.weaken iU,h.wd⟩
theorem dA.bj {w:World} {S:Nat→Prop} {v:Value} {l:List Nat} (h:dA w S v l):dA w (Old w) v l:=⟨h.sl.bj,h.wd⟩
theorem bN.ve {w0 w:World} {H:List Chunk} {b k n:Nat} {arr:Array Value} {T:TypeId} (hS:aA w0 w H) (hm:Chunk.aB b (.cells arr T (0,0)) ∈ H) (hl:arr.size=n*k) (hn:n≤maxLen):bN w (fun j=>j=b) k (.slice (some ⟨b,0,none⟩) n n) n arr.toList:=by
 refine⟨by simpa using hl,some ⟨b,0,none⟩,n,rfl,Nat.le_refl _,hn,(fun e=>by cases e),fun ad e=>?_⟩;cases e;refine⟨fun _=>rfl,fun _=>rfl,fun j u hu=>?_⟩;rw [Nat.zero_add,cell_of_row w b j arr T (0,0) (hS.aB hm)]
 simpa using hu
theorem dA.aB {w0 w:World} {H:List Chunk} {b:Nat} {l:List Nat} {T:TypeId} (j:Nat) (h:aA w0 w H) (hj:H[j]? = some (.aB b (.cells (wv l).toArray T (0,0)))) (hw:Wd l) (hn:l.length≤maxLen):dA w (fun k=>k=b) (.slice (some ⟨b,0,none⟩) l.length l.length) l:=by
 have:=bN.ve (k:=1) h (bW hj) (by simp [xt]) hn;exact⟨by simpa using this,hw⟩
theorem aA.a9i {w0 w:World} {H:List Chunk} (h:aA w0 w (.aH (Old w0) w0::H)) {c:Chunk} (hm:c ∈ H) {k:Nat} (hk:c.has k):Go.Hp.ja w0 w k:=by
 refine⟨?_,Chunk.lt (h.ok c (by simp [hm])) hk⟩
 rcases Nat.lt_or_ge k w0.heap.size with aW|gB
 ·exact absurd hk ((List.pairwise_cons.1 h.apart).1 c hm k aW)
 ·exact gB
theorem aFa {α:Type} (H:List α):(List.range H.length).filterMap (fun i=>H[i]?)=H:=by
 induction H with
 | nil=>rfl
 | cons x H ih =>
  rw [List.length_cons,List.range_succ_eq_map,List.filterMap_cons_some (by rfl:(x::H)[0]? = some x),List.filterMap_map]
  congr 1
theorem aA.order {w0 w:World} {H:List Chunk} (h:aA w0 w H) (is:List Nat) (hp:is.isPerm (List.range H.length)=true):aA w0 w (is.filterMap (fun i=>H[i]?)):=by
 have h1:=(List.isPerm_iff.1 hp).filterMap (fun i=>H[i]?);rw [aFa] at h1;exact h.perm h1
theorem aA.import {w0 w w':World} {H B:List Chunk} (h:aA w0 w H) (h':aA w w' (.aH (Old w) w::B)):aA w0 w' (H++B):=by
 have h0:aA w0 w (H++[]):=by rw [List.append_nil];exact h
 refine aA.su (B:=[]) h0 ?_;have:Rest w []=Old w:=by funext k;simp [Rest,Old]
 rw [this];exact h'
theorem aA.pure {w0 w:World} {H:List Chunk} (hS:aA w0 w (.aH (Old w0) w0::H)) (S:Nat→Prop):Pure w0 S w S:=⟨hS.toBelow (by simp),hS.drawn,fun _ h=>h,fun _ h=>.inl h⟩
theorem aA.zI {w0 w:World} {H:List Chunk} {b:Nat} {l:List Nat} {T:TypeId} (S:Nat→Prop) (j:Nat) (h:aA w0 w (.aH (Old w0) w0::H)) (hj:H[j]? = some (.aB b (.cells (wv l).toArray T (0,0)))) (hw:Wd l) (hn:l.length≤maxLen) :
 Pure w0 S w (fun k=>S k∨k=b)∧dA w (fun k=>S k∨k=b) (.slice (some ⟨b,0,none⟩) l.length l.length) l:=by
 have hm:=bW hj;refine⟨⟨h.toBelow (by simp),h.drawn,fun k hk=>.inl hk,fun k hk=>?_⟩,?_,hw⟩
 ·rcases hk with hk|rfl
  ·exact .inl hk
  ·exact .inr (h.a9i hm (c:=.aB k _) rfl)
 ·have:=bN.ve (k:=1) h (List.mem_cons_of_mem _ hm) (by simp [xt]) hn
  simp only at this;exact this.weaken fun k hk=>.inr hk
theorem aJC:∃ n:Nat,n=WB ^ 512:=⟨_,rfl⟩
noncomputable def kR:Nat:=Classical.choose aJC
theorem aAp:kR=WB ^ 512:=Classical.choose_spec aJC
theorem a4l {l:List Nat} (hn:Nm l) (h:val l<kR):l.length≤512:=aDG hn (by rw [← aAp];exact h)
theorem ua {l:List Nat} (hw:Wd l) (h:l.length≤512):val l<kR:=by
 obtain⟨e,he⟩:∃ e:Nat,e=512:=⟨_,rfl⟩;rw [aAp,← he];rw [← he] at h;exact Nat.lt_of_lt_of_le (wW hw) (Nat.pow_le_pow_right rN h)
structure WI where
 neg:Bool
 ad:Option Addr
 n:Nat
 cap:Nat
def dR (w:World) (S:Nat→Prop) (x:WI) (z:Int):Prop :=
 ∃ l,dA w S (.slice x.ad x.n x.cap) l∧Nm l∧l.length≤512∧x.neg=decide (z<0)∧val l=z.natAbs
theorem dR.grow {w w':World} {S S':Nat→Prop} {x:WI} {z:Int} (h:dR w S x z) (hp:Pure w S w' S'):dR w' S' x z:=by
 obtain⟨l,h1,h2⟩:=h;exact⟨l,h1.grow hp,h2⟩
theorem dR.later {w0 w wr:World} {H:List Chunk} {S:Nat→Prop} {x:WI} {z:Int} (h:dR wr S x z) (hS:aA w0 w H) (hm:Chunk.aH S wr ∈ H):dR w S x z:=by
 obtain⟨l,h1,h2⟩:=h;exact⟨l,h1.later hS hm,h2⟩
theorem dR.weaken {w:World} {S T:Nat→Prop} {x:WI} {z:Int} (h:dR w S x z) (iU:∀ k,S k→T k):dR w T x z:=by
 obtain⟨l,h1,h2⟩:=h;exact⟨l,h1.weaken iU,h2⟩
def aP (w:World) (S:Nat→Prop):Prop:=∀ k,S k→k<w.heap.size
theorem Pure.yj {w w':World} {S S':Nat→Prop} (h:Pure w S w' S') (hL:aP w S):aP w' S':=fun k hk=>by
 rcases h.new k hk with h1|h1
 ·exact Nat.lt_of_lt_of_le (hL k h1) h.below.size
 ·exact h1.2
theorem eR {w:World} {S:Nat→Prop} (hL:aP w S):aA w w [.aH (Old w) w]∧(∀ k,S k→Old w k)∧(∀ k,Old w k→Old w k)∧Pure w S w S:=⟨aA.start w,hL,fun _ h=>h,Pure.refl w S⟩
theorem aA.da {w0 w wr:World} {H:List Chunk} {F S:Nat→Prop} (hS:aA w0 w (.aH F wr::H)) (hF:∀ k,S k→F k):∀ k,S k→w.heap[k]? = wr.heap[k]?:=fun k hk=>(hS.ok (.aH F wr) (by simp) k (hF k hk)).2
theorem dM.move {w wr:World} {S:Nat→Prop} {ad:Addr} {cs:List Value} (h:dM wr S ad cs) (hk:∀ k,S k→w.heap[k]? = wr.heap[k]?):dM w S ad cs :=
 ⟨h.spot,h.tO,fun j u hu=>by
  rw [World.cell?_of_block (w:=wr) (a:=⟨ad.block,ad.off+j,none⟩) (hk _ (h.tO (by intro e;subst e;simp at hu)))];exact h.cell j u hu⟩
theorem bN.move {w wr:World} {S:Nat→Prop} {k n:Nat} {v:Value} {cs:List Value} (h:bN wr S k v n cs) (hk:∀ k,S k→w.heap[k]? = wr.heap[k]?):bN w S k v n cs:=by
 obtain⟨h1,a,cap,h2,h3,h4,h5,h6⟩:=h;exact⟨h1,a,cap,h2,h3,h4,h5,fun ad e=>(h6 ad e).move hk⟩
theorem dA.move {w wr:World} {S:Nat→Prop} {v:Value} {l:List Nat} (h:dA wr S v l) (hk:∀ k,S k→w.heap[k]? = wr.heap[k]?):dA w S v l:=⟨h.sl.move hk,h.wd⟩
theorem dR.move {w wr:World} {S:Nat→Prop} {x:WI} {z:Int} (h:dR wr S x z) (hk:∀ k,S k→w.heap[k]? = wr.heap[k]?):dR w S x z:=by
 obtain⟨l,h1,h2⟩:=h;exact⟨l,h1.move hk,h2⟩
theorem dA.at {w0 w wr:World} {H:List Chunk} {F S:Nat→Prop} {v:Value} {l:List Nat} (h:dA wr S v l) (hS:aA w0 w (.aH F wr::H)) (hF:∀ k,S k→F k):dA w S v l:=h.move (hS.da hF)
theorem dR.at {w0 w wr:World} {H:List Chunk} {F S:Nat→Prop} {x:WI} {z:Int} (h:dR wr S x z) (hS:aA w0 w (.aH F wr::H)) (hF:∀ k,S k→F k):dR w S x z:=h.move (hS.da hF)
theorem aA.a1l {w0 w wr w':World} {H:List Chunk} {F S S':Nat→Prop} (hS:aA w0 w (.aH F wr::H)) (hF:∀ k,S k→F k) (hq:Pure w S w' S'):∃ F',(∀ k,S' k→F' k)∧(∀ k,F k→F' k)∧aA w0 w' (.aH F' w'::H):=by
 refine⟨fun k=>F k∨ja w w' k,fun k hk=>?_,fun k hk=>.inl hk,?_⟩
 ·rcases hq.new k hk with h|h
  ·exact .inl (hF k h)
  ·exact .inr h
 ·have h1:=hS.call hq.below hq.drawn
  have h2:aA w0 w' (.aH F wr::.aH (ja w w') w'::H):=h1.perm (by
   simp only [List.cons_append];refine List.Perm.cons _ ?_;exact (List.perm_append_comm (l₁:=[Chunk.aH (ja w w') w']) (l₂:=H)))
  exact h2.join
theorem aA.base {w0 w wr:World} {H:List Chunk} {F S0 S:Nat→Prop} (hS:aA w0 w (.aH F wr::H)) (hO:∀ k,Old w0 k→F k) (hp:Pure w0 S0 wr S):aA w0 w (.aH (Old w0) w0::H):=by
 refine⟨hS.os,hS.tape,hS.output,hS.drawn,hS.size,?_,?_⟩
 ·intro c hc
  rcases List.mem_cons.1 hc with hc|hc
  ·subst hc
   exact fun k hk=>⟨(hS.ok (.aH F wr) (by simp) k (hO k hk)).1,(hS.da hO k hk).trans (hp.below.block k hk)⟩
  ·exact hS.ok c (by simp [hc])
 ·have h:=List.pairwise_cons.1 hS.apart
  exact List.pairwise_cons.2 ⟨fun c hc k hk=>h.1 c hc k (hO k hk),h.2⟩
theorem Pure.step {w0 w wr:World} {H:List Chunk} {F S0 S:Nat→Prop} (hp:Pure w0 S0 wr S) (hS:aA w0 w (.aH F wr::H)) (hO:∀ k,Old w0 k→F k) (hF:∀ k,S k→F k):Pure w0 S0 w S :=
 ⟨⟨hS.os,hS.tape,hS.output,hS.size,fun k hk=>(hS.da hO k hk).trans (hp.below.block k hk)⟩,hS.drawn,hp.sub,fun k hk=>by
  rcases hp.new k hk with h|h
  ·exact .inl h
  ·exact .inr ⟨h.1,(hS.ok (.aH F wr) (by simp) k (hF k hk)).1⟩⟩
theorem dR.zero (w:World) (S:Nat→Prop):dR w S ⟨false,none,0,0⟩ 0:=⟨[],dA.nil w S,.inl rfl,by simp,by decide,rfl⟩
theorem dR.lt {w:World} {S:Nat→Prop} {x:WI} {z:Int} (h:dR w S x z):z.natAbs<kR:=by
 obtain⟨l,h1,h2,h3,h4,h5⟩:=h;rw [← h5];exact ua h1.wd h3
theorem aA.aWn {w0 w:World} {H:List Chunk} {b b2:Nat} {l l2:List Nat} {T T2:TypeId} (S:Nat→Prop) (j j2:Nat) (h:aA w0 w (.aH (Old w0) w0::H)) (hj:H[j]? = some (.aB b (.cells (wv l).toArray T (0,0)))) (tx:H[j2]? = some (.aB b2 (.cells (wv l2).toArray T2 (0,0)))) (hw:Wd l) (mM:Wd l2) (hn:l.length≤maxLen) (fx:l2.length≤maxLen) :
 Pure w0 S w (fun k=>S k∨(k=b∨k=b2))∧dA w (fun k=>S k∨(k=b∨k=b2)) (.slice (some ⟨b,0,none⟩) l.length l.length) l∧dA w (fun k=>S k∨(k=b∨k=b2)) (.slice (some ⟨b2,0,none⟩) l2.length l2.length) l2:=by
 obtain⟨p1,m1⟩:=h.zI S j hj hw hn;obtain⟨p2,m2⟩:=h.zI S j2 tx mM fx;refine⟨⟨p1.below,p1.drawn,fun k hk=>.inl hk,fun k hk=>?_⟩,m1.weaken fun k hk=>?_,m2.weaken fun k hk=>?_⟩
 ·rcases hk with hk|hk|hk
  ·exact .inl hk
  ·exact p1.new k (.inr hk)
  ·exact p2.new k (.inr hk)
 ·rcases hk with hk|hk
  ·exact .inl hk
  ·exact .inr (.inl hk)
 ·rcases hk with hk|hk
  ·exact .inl hk
  ·exact .inr (.inr hk)
section
variable {P:Program} {ops:Array Oper} {Q:Exit→Act→World→Prop} {rest:List Oper} {a:Act} {w w0 wr:World} {H:List Chunk} {S:Nat→Prop} {dst:Option Tmp} {ty T E Tb:TypeId} {pos:String} {ak:Array Edge} {g:Option (Nat × Bool)} {x y ix:Operand} {b:Nat} {l:List Nat} {K:Act→Prop}
theorem mE {i:Int} {ad:Option Addr} {n cap:Nat} (hu:P.underlying T=some (.slice E)) (hz:∀ w,(sizeOf E).run P w=.ok 1 w) (hx:a.eval x=.slice ad n cap) (hi:a.eval ix=.int .i64 i) (hv:dA wr S (.slice ad n cap) l) (dg:0≤i) (jU:i<n)
 (hk:∀ b off,dM wr S ⟨b,off,none⟩ [.int .u32 ((nth 0 l i.toNat:Nat):Int)]→K (a.put dst (.pointer (some ⟨b,off,none⟩)))):oN P ⟨dst,.indexAddr T x ix,ty,pos,ak,g⟩ a K:=by
 have hn:=hv.len;subst hn;exact lI hu hz hx hi hv.sl dg (by omega) (by omega) fun b off hc=>hk b off (by rw [Nat.mul_one,aTb (by omega)] at hc;exact hc)
theorem kD {i:Nat} (j:Nat) (fU:∀ w,(isAgg T).run P w=.ok false w) (hx:a.eval x=.pointer (some ⟨b,i,none⟩)) (hj:H[j]? = some (Chunk.aB b (.cells (wv l).toArray Tb (0,0)))) (hi:i<l.length)
 (hk:K (a.put dst (.int .u32 ((nth 0 l i:Nat):Int)))):nj P w0 H ⟨dst,.load T x,ty,pos,ak,g⟩ a K :=
 zD j fU hx hj (by simp [a8p hi]) hk
theorem jQ {i v:Nat} {u:Int} (j:Nat) (hS:aA w0 w H) (hx:a.eval x=.pointer (some ⟨b,i,none⟩)) (hy:a.eval y=.int .u32 u) (hu:u=(v:Int)) (hj:H[j]? = some (.aB b (.cells (wv l).toArray Tb (0,0)))) (hi:i<l.length) (dJ:∀ w,(sizeOf T).run P w=.ok 1 w)
 (hk:∀ w',aA w0 w' (H.set j (.aB b (.cells (wv (l.set i v)).toArray Tb (0,0))))→wpList P ops Q rest (a.put dst undef) w'):wpList P ops Q (⟨dst,.store T x y,ty,pos,ak,none⟩::rest) a w:=by
 subst hu;refine aAm (T:=T) (u:=.int .u32 (v:Int)) j hS hx hy hj dJ (by simp [Value.cells,Value.oneCell']) (by simp [Value.cells,xt];omega) (fun w' fY=>hk w' ?_)
 have e:((wv l).toArray.toList.take i++(Value.int .u32 (v:Int)).cells.toList++(wv l).toArray.toList.drop (i+(Value.int .u32 (v:Int)).cells.size))=wv (l.set i v):=by
  rw [← aRm,List.set_eq_take_append_cons_drop,if_pos (by rw [xt];exact hi)];simp [Value.cells]
 rw [e] at fY;exact fY
theorem zj {n:Nat} {xv:Int} (hS:aA w0 w H) (hu:P.underlying T=some (.slice E)) (ky:(P.info? E).map (fun i=>(i.zero,i.size,i.bytes))=some (some (.int .u32 0),1,4))
 (hx:a.eval x=.int .i64 xv) (hy:a.eval y=.int .i64 xv) (fL:xv=(n:Int)) (hn:n≤65536)
 (hk:∀ b w',aA w0 w' (H++[.aB b (.cells (wv (List.replicate n 0)).toArray E (0,0))])→wpList P ops Q rest (a.put dst (.slice (some ⟨b,0,none⟩) n n)) w') :
 wpList P ops Q (⟨dst,.makeSlice T x y,ty,pos,ak,none⟩::rest) a w:=by
 subst fL;obtain⟨i,hi,hz,dJ,jm⟩:=info_parts ky;have hr:=run_make (P:=P) w T E i _ hu hi hz .i64 .i64 n n (by omega) (by omega) (by rw [jm];omega) (by omega)
 have hc:madeCells (Value.int .u32 0).cells ((n:Int).toNat*i.size)=(wv (List.replicate n 0)).toArray:=by
  rw [dJ,Int.toNat_natCast,Nat.mul_one];apply Array.ext
  ·simp [madeCells,wv]
  ·intro j h1 h2
   simp [madeCells,wv,Value.cells,Nat.mod_one]
 rw [hc,Int.toNat_natCast] at hr;refine lx (w':=w.alloc (.cells (wv (List.replicate n 0)).toArray E (0,0))) (v:=.slice (some ⟨w.heap.size,0,none⟩) n n) rfl ?_ (hk _ _ (hS.alloc _));simp only [execOp,hx,hy];simp [hr,go_sem]
theorem tD {lo hi mx:Option Operand} (h:wpList P ops Q (⟨dst,.slice T x lo hi mx,ty,pos,ak,g⟩::rest) a w):wpList P ops Q (⟨dst,.slice T x lo hi mx,ty,pos,ak,g⟩::rest) a w:=h
theorem aPi {hi:Operand} {ad:Option Addr} {off n c k:Nat} {kv:Int} (hu:P.underlying T=some (.slice E)) (hz:∀ w,(sizeOf E).run P w=.ok 1 w) (hx:a.eval x=.slice (some ⟨b,off,none⟩) n c) (hh:a.eval hi=.int .i64 kv) (hkv:kv=(k:Int)) (hkc:k≤c)
 (hk:K (a.put dst (.slice (some ⟨b,off,none⟩) k c))):oN P ⟨dst,.slice T x none (some hi) none,ty,pos,ak,g⟩ a K:=by
 subst hkv;refine⟨⟨_,fun w'=>?_,hk⟩⟩;generalize a.eval=ρ at hx hh
 have hb:(Instr.sliceBound (.int .i64 (k:Int)) c .sliceAcap).run P w'=.ok k w':=by
  simp [Instr.sliceBound,asIntOf,go_sem,hkc]
 simp [execOp,hx,hh,Instr.sliceAt,Instr.slice,Instr.sliceBounds,go_sem,run_underlying hu,hb,hz]
theorem a3z {lo hi:Operand} {ad:Option Addr} {off n c j k:Nat} {jv kv:Int} (hu:P.underlying T=some (.slice E)) (hz:∀ w,(sizeOf E).run P w=.ok 1 w) (hx:a.eval x=.slice (some ⟨b,off,none⟩) n c) (hl:a.eval lo=.int .i64 jv) (hh:a.eval hi=.int .i64 kv) (vh:jv=(j:Int)) (hkv:kv=(k:Int)) (hkc:k≤c) (gM:j<k)
 (hk:K (a.put dst (.slice (some ⟨b,off+j,none⟩) (k - j) (c - j)))):oN P ⟨dst,.slice T x (some lo) (some hi) none,ty,pos,ak,g⟩ a K:=by
 subst hkv vh;refine⟨⟨_,fun w'=>?_,hk⟩⟩;generalize a.eval=ρ at hx hh hl
 have hb:(Instr.sliceBound (.int .i64 (k:Int)) c .sliceAcap).run P w'=.ok k w':=by
  simp [Instr.sliceBound,asIntOf,go_sem,hkc]
 have iD:(Instr.sliceBound (.int .i64 (j:Int)) k .sliceB).run P w'=.ok j w':=by
  simp [Instr.sliceBound,asIntOf,go_sem,show j≤k by omega]
 simp [execOp,hx,hh,hl,Instr.sliceAt,Instr.slice,Instr.sliceBounds,go_sem,run_underlying hu,hb,iD,hz,show ¬ c=j by omega];intro h;omega
theorem aTE {args:Array Operand} {ts:Array TypeId} (h:wpList P ops Q (⟨dst,.call ⟨.builtin .copy,args,ts⟩,ty,pos,ak,g⟩::rest) a w):wpList P ops Q (⟨dst,.call ⟨.builtin .copy,args,ts⟩,ty,pos,ak,g⟩::rest) a w:=h
theorem aNW {sT:TypeId} {m:List Nat} {sv:Value} {n c:Nat} (j:Nat) (hS:aA w0 w H) (hu:P.underlying T=some (.slice E)) (hs:(P.info? E).map (·.size)=some 1) (hx:a.eval x=.slice (some ⟨b,0,none⟩) n c) (hy:a.eval y=sv) (hm:dA w S sv m) (hj:H[j]? = some (.aB b (.cells (wv l).toArray Tb (0,0)))) (hn:n=l.length) (hl:m.length=l.length)
 (hk:∀ w',aA w0 w' (H.set j (.aB b (.cells (wv m).toArray Tb (0,0))))→wpList P ops Q rest (a.put dst (.int .i64 (m.length:Nat))) w'):wpList P ops Q (⟨dst,.call ⟨.builtin .copy,#[x,y],#[T,sT]⟩,ty,pos,ak,none⟩::rest) a w:=by
 obtain⟨⟨h1,ad,cap,rfl,h3,h4,h5,h6⟩,h7⟩:=hm;have hb:=hS.aB (bW hj);subst hn;cases ad with
 | none =>
  have h0:=(h5 rfl).1;have wA:m=[]:=List.length_eq_zero_iff.1 h0;subst wA;have hl0:l=[]:=List.length_eq_zero_iff.1 hl.symm;subst hl0;have hr:=run_copy_none (P:=P) w T sT ty E (some ⟨b,0,none⟩) none 0 c 0 cap hu hs rfl
  refine lx (w':=w) (v:=.int .i64 0) rfl ?_ (hk w (by
   have:H.set j (Chunk.aB b (.cells (wv []).toArray Tb (0,0)))=H:=by
    obtain⟨h1,h2⟩:=List.getElem?_eq_some_iff.1 hj;apply List.ext_getElem (by simp);intro i h3 h4;rw [List.getElem_set]
    split
    ·rename_i e;subst e;exact h2.symm
    ·rfl
   rw [this];exact hS))
  simp only [List.length_nil] at hx;generalize a.eval=ρ at hx hy;simp [execOp,resolve,invoke,builtin,hx,hy,hr,go_sem,goInt]
 | some ad =>
  have hc:=h6 ad rfl
  have aEP:∀ j v,(wv m)[j]? = some v→w.cell? (ad.add j)=some v:=fun j v hv=>by
   obtain⟨bx,ox,sx⟩:=ad;have uo:sx=none:=hc.spot (by intro e;rw [e] at hv;simp at hv);subst uo;rw [xQ];exact hc.cell j v hv
  have hr:=run_copy_row P w T sT ty E b 0 l.length c ad m.length cap (wv l).toArray Tb (wv m) hu hs hb (by rw [xt,hl];exact (Nat.min_self _).symm) aEP (by simp [xt,hl]) (aPy m)
  have e:((wv l).toArray.toList.take 0++wv m++(wv l).toArray.toList.drop (0+(wv m).length))=wv m:=by
   simp [xt,hl,List.drop_of_length_le]
  rw [e] at hr;have aW:b<w.heap.size:=(Array.getElem?_eq_some_iff.1 hb).1;refine lx (w':=w.setRow b (wv m).toArray) (v:=.int .i64 (m.length:Nat)) rfl ?_ (hk _ (hS.write (o':=.cells (wv m).toArray Tb (0,0)) j hj rfl rfl rfl (Nat.le_refl _) (by simp [World.setRow]) (setRow_heap w b _ _ _ _ hb) (fun k _ hkb=>by simp [World.setRow,Array.getElem?_modify,Ne.symm hkb])));generalize a.eval=ρ at hx hy;simp [execOp,resolve,invoke,builtin,hx,hy,hr,go_sem,goInt,xt]
theorem r7 (h:wpList P ops Q (⟨dst,.makeSlice T x y,ty,pos,ak,g⟩::rest) a w):wpList P ops Q (⟨dst,.makeSlice T x y,ty,pos,ak,g⟩::rest) a w:=h
end
section
variable {fn:Func} {p p2 t:Tmp} {T T2:TypeId} {P:Program} {w0 w:World} {H:List Chunk} {b b2 k k2:Nat} {arr xc:Array Value} {Tb Tb2:TypeId} {fr fr2:Nat × Nat} {R:Ending→World→Prop} {a:Act}
theorem fE (j:Nat) (hS:aA w0 w H) (hr:fn.results=#[.cell p T]) (hp:a.tmps.getD p undef=.pointer (some ⟨b,0,none⟩)) (hj:H[j]? = some (Chunk.aB b (.cells arr Tb fr))) (eT:∀ w,(isAgg T).run P w=.ok true w) (hz:∀ w,(sizeOf T).run P w=.ok k w) (dJ:arr.size=k) (hd:a.defers=[])
 (h:R (.returned (.agg arr)) w):bodyPost P fn R .ret a w:=by
 refine bodyPost_ret (v:=.agg arr) ?_ hd h;have h1:=a2F (P:=P) j hS hj eT hz dJ;have iY:a.tmps[p]?.getD undef=.pointer (some ⟨b,0,none⟩):=by simpa using hp
 simp [results,hr,iY,asAddr,h1]
theorem jJ (j:Nat) (hS:aA w0 w H) (hr:fn.results=#[.cell p T,.tmp t]) (hp:a.tmps.getD p undef=.pointer (some ⟨b,0,none⟩)) (hj:H[j]? = some (Chunk.aB b (.cells arr Tb fr))) (eT:∀ w,(isAgg T).run P w=.ok true w) (hz:∀ w,(sizeOf T).run P w=.ok k w) (dJ:arr.size=k) (hd:a.defers=[])
 (h:R (.returned (.tuple #[.agg arr,a.tmps.getD t undef])) w):bodyPost P fn R .ret a w:=by
 refine bodyPost_ret (v:=.tuple #[.agg arr,a.tmps.getD t undef]) ?_ hd h;have h1:=a2F (P:=P) j hS hj eT hz dJ;have iY:a.tmps[p]?.getD undef=.pointer (some ⟨b,0,none⟩):=by simpa using hp
 simp [results,hr,iY,asAddr,h1]
theorem aD4 (j j2:Nat) (hS:aA w0 w H) (hr:fn.results=#[.cell p T,.cell p2 T2,.tmp t]) (hp:a.tmps.getD p undef=.pointer (some ⟨b,0,none⟩)) (bR:a.tmps.getD p2 undef=.pointer (some ⟨b2,0,none⟩))
 (hj:H[j]? = some (Chunk.aB b (.cells arr Tb fr))) (tx:H[j2]? = some (Chunk.aB b2 (.cells xc Tb2 fr2))) (eT:∀ w,(isAgg T).run P w=.ok true w) (hz:∀ w,(sizeOf T).run P w=.ok k w) (dJ:arr.size=k) (jy:∀ w,(isAgg T2).run P w=.ok true w) (gS:∀ w,(sizeOf T2).run P w=.ok k2 w) (a2j:xc.size=k2) (hd:a.defers=[])
 (h:R (.returned (.tuple #[.agg arr,.agg xc,a.tmps.getD t undef])) w):bodyPost P fn R .ret a w:=by
 refine bodyPost_ret (v:=.tuple #[.agg arr,.agg xc,a.tmps.getD t undef]) ?_ hd h;have h1:=a2F (P:=P) j hS hj eT hz dJ;have h2:=a2F (P:=P) j2 hS tx jy gS a2j;have iY:a.tmps[p]?.getD undef=.pointer (some ⟨b,0,none⟩):=by simpa using hp
 have aE7:a.tmps[p2]?.getD undef=.pointer (some ⟨b2,0,none⟩):=by simpa using bR
 simp [results,hr,iY,aE7,asAddr,h1,h2]
end
theorem aA.aj {w0 w wr w':World} {H:List Chunk} {F S0 S S':Nat→Prop} (hS:aA w0 w (.aH F wr::H)) (hF:∀ k,S k→F k) (hO:∀ k,Old w0 k→F k) (hp:Pure w0 S0 wr S) (hq:Pure w S w' S'):∃ F',(∀ k,S' k→F' k)∧(∀ k,F k→F' k)∧Pure w0 S0 w' S'∧(∀ k,Old w0 k→F' k)∧aA w0 w' (.aH F' w'::H) :=
 let ⟨F',h1,h2,h3⟩:=hS.a1l hF hq
 ⟨F',h1,h2,(hp.step hS hO hF).trans hq,fun k h=>h2 k (hO k h),h3⟩
theorem info188:(prog.info? 188).map (fun i=>(i.zero,i.size,i.bytes))=some (some (.int .u32 0),1,4):=by kernel_rfl
theorem jH {k:IntKind} {a b:Int} (h:a=b):Ending.returned (.int k a)=.returned (.int k b):=by rw [h]
theorem aUU {a b:Bool} (h:a=b):Ending.returned (.bool a)=.returned (.bool b):=by rw [h]
def rZ (l:List Nat):Nat→Nat
 | 0=>0
 | k+1=>if nth 0 l k=0 then rZ l k else k+1
def mF (l:List Nat):List Nat:=l.take (rZ l l.length)
theorem a47 (l:List Nat):∀ k,rZ l k≤k
 | 0=>Nat.le_refl _
 | k+1=>by have:=a47 l k;simp only [rZ];split <;> omega
theorem aMt (l:List Nat):∀ k i,rZ l k≤i→i<k→nth 0 l i=0
 | 0,i,_,h=>by omega
 | k+1,i,h1,h2=>by
  simp only [rZ] at h1
  split at h1
  ·rename_i h0
   rcases Nat.lt_or_ge i k with h|h
   ·exact aMt l k i h1 h
   ·obtain rfl:i=k:=by omega
    exact h0
  ·omega
theorem aHD (l:List Nat):∀ k,k≤l.length→Nm (l.take (rZ l k))
 | 0,_=>.inl (by simp [rZ])
 | k+1,h=>by
  simp only [rZ]
  split
  ·exact aHD l k (by omega)
  ·rename_i h0;exact aOc h h0
theorem a2b (l:List Nat):Nm (mF l):=aHD l _ (Nat.le_refl _)
theorem zZ (l:List Nat):val (mF l)=val l:=a8J fun i hi=>by
 rcases Nat.lt_or_ge i l.length with h|h
 ·exact aMt l _ i hi h
 ·exact qP 0 l i h
theorem a3Q (l:List Nat):(mF l).length=rZ l l.length:=by have:=a47 l l.length;simp [mF];omega
def aIW:Value→Nat
 | .slice _ k _=>k
 | _=>0
theorem a34 (ad:Option Addr) (n c:Nat) (l:List Nat) (w:World) (S:Nat→Prop) (hm:dA w S (.slice ad n c) l) :
 Calls prog 130 #[.slice ad n c] w fun e w'=>e=.returned (.slice ad (mF l).length c)∧w=w':=by
 have hn:=hm.len;subst hn;have hle:=hm.sl.le;have jr:=hm.bj;have hS:=aA.start w
 go_enter func130,ntmps130
 go_wp2
 go_loopw [0] (fun v wr=>∃ k:Nat,k≤l.length∧v=.slice ad k c∧wr=w∧rZ l l.length=rZ l k) (fun v _=>aIW v)
 case atStart=>exact⟨l.length,Nat.le_refl _,rfl,rfl,rfl⟩
 case round =>
  obtain⟨k,hk,rfl,rfl,ht⟩:=hrel
  by_cases h0:k=0
  ·subst h0
   go_wp2;go_ret;refine⟨?_,rfl⟩;rw [a3Q,ht];rfl
  ·obtain⟨j,rfl⟩:∃ j,k=j+1:=⟨k - 1,by omega⟩
   have tm:=jr.cut hk;have aW:=List.length_take_le (j+1) l;have mR:nth 0 (l.take (j+1)) j=nth 0 l j:=xI 0 l (by omega);have hc:=hm.cap
   by_cases hz:nth 0 l j=0
   ·have hb:((((nth 0 (l.take (j+1)) j:Nat):Int)) == 0)=true:=by rw [mR,hz];rfl
    replace mR:=Hd mR;replace hz:=Hd hz
    go_wp2_with (first|((with_reducible refine du (T:=49) ?_);refine ck rfl (mE (T:=49) underlying49 sizeOf188 rfl rfl tm (by omega) (by omega) (fun _ _ _=>?_));simp only [aD])|(with_reducible refine fP hS isAgg188 ?_))
    go_roundw
    case rel=>exact⟨j,by omega,rfl,trivial,by rw [ht];simp [rZ,hz.out]⟩
    case measure=>simp [aIW]
   ·have hb:((((nth 0 (l.take (j+1)) j:Nat):Int)) == 0)=false:=by rw [mR];simpa using hz
    go_wp2_with (first|((with_reducible refine du (T:=49) ?_);refine ck rfl (mE (T:=49) underlying49 sizeOf188 rfl rfl tm (by omega) (by omega) (fun _ _ _=>?_));simp only [aD])|(with_reducible refine fP hS isAgg188 ?_))
    go_ret;refine⟨?_,rfl⟩;rw [a3Q,ht];simp [rZ,hz]
theorem aP6 {w:World} {S:Nat→Prop} {ad:Option Addr} {n c:Nat} {l:List Nat} (hm:dA w S (.slice ad n c) l) (neg:Bool) (iV:val l<kR):dR w S ⟨neg && decide (0<(mF l).length),ad,(mF l).length,c⟩ (if neg then -(val l:Int) else val l):=by
 have h1:=hm.len;subst h1;have h2:dA w S (.slice ad (mF l).length c) (mF l):=by rw [a3Q];exact hm.cut (a47 l _)
 have h3:=zZ l;have h4:=a2b l;refine⟨mF l,h2,h4,a4l h4 (by rw [h3];exact iV),?_,?_⟩
 ·have h5:=a9H h4
  rw [h3] at h5;cases neg
  ·simp
  ·simp only [Bool.true_and,if_true]
   congr 1
   have:0<(mF l).length↔mF l≠[]:=by rw [List.length_pos_iff]
   rw [eq_iff_iff,this]
   constructor
   ·intro h;have:val l≠0:=fun e=>h (h5.1 e)
    omega
   ·intro h e;have:=h5.2 e;omega
 ·rw [h3];cases neg <;> simp
theorem pd (neg:Bool) (ad:Option Addr) (n c:Nat) (l:List Nat) (w:World) (S:Nat→Prop) (hm:dA w S (.slice ad n c) l) (iV:val l<kR) :
 Calls prog 80 #[.bool neg,.slice ad n c] w fun e w'=>∃ x:WI,e=.returned (.tuple #[.agg #[.bool x.neg,.slice x.ad x.n x.cap],.int .i64 0])∧Pure w S w' S∧dR w' S x (if neg then -(val l:Int) else val l):=by
 have hS:=aA.start w;have hI:=aP6 hm neg iV;have hlen:(mF l).length≤512:=a4l (a2b l) (by rw [zZ];exact iV)
 go_enter func80,ntmps80
 go_wp2_with (first|(with_reducible refine bH hS zeroValue51 fun br fu hS=>?_)|(go_at_call 130;refine (a34 _ _ _ l _ S (hm.grow (hS.pure S))).mono ?_;rintro e w' ⟨rfl,rfl⟩)|(with_reducible refine aJ 1 hS sizeOf51 fun _ hS=>?_))
 ·exact jJ 1 hS rfl rfl rfl isAgg51 sizeOf51 rfl rfl ⟨⟨decide (0<(mF l).length),ad,_,c⟩,rfl,hS.pure S,by simpa [h] using hI.grow (hS.pure S)⟩
 ·exact jJ 1 hS rfl rfl rfl isAgg51 sizeOf51 rfl rfl ⟨⟨false,ad,_,c⟩,rfl,hS.pure S,by simpa [h] using hI.grow (hS.pure S)⟩
theorem _root_.Go.Hp.dR.neg {w:World} {S:Nat→Prop} {x:WI} {z:Int} (h:dR w S x z):dR w S ⟨(!x.neg) && decide (0<x.n),x.ad,x.n,x.cap⟩ (-z):=by
 obtain⟨l,h1,h2,h3,h4,h5⟩:=h;refine⟨l,h1,h2,h3,?_,by rw [h5,Int.natAbs_neg]⟩;have hl:=h1.len;have h6:=a9H h2
 have h7:0<x.n↔z≠0:=by
  rw [hl,List.length_pos_iff]
  constructor
  ·intro h e;exact h (h6.1 (by rw [h5,e];rfl))
  ·intro h e;have:=h6.2 e;omega
 dsimp only;rw [h4]
 by_cases hz:z<0
 ·simp [hz];omega
 ·by_cases h0:z=0
  ·subst h0;simp at h7;simp [h7]
  ·have:0<x.n:=h7.2 h0
   simp [hz,this];omega
theorem a8c (x:WI) (z:Int) (w:World) (S:Nat→Prop) (hx:dR w S x z) :
 Calls prog 88 #[.agg #[.bool x.neg,.slice x.ad x.n x.cap]] w fun e w'=>∃ y:WI,e=.returned (.agg #[.bool y.neg,.slice y.ad y.n y.cap])∧Pure w S w' S∧dR w' S y (-z):=by
 have hI:=hx.neg;obtain⟨uL,vV,xn,vk⟩:=x;have hS:=aA.start w;dsimp only at hI ⊢;cases uL
 ·go_enter func88,ntmps88
  go_wp2_with (with_reducible first|refine cI hS fun b1 wb1 hS=>?_|refine bH hS zeroValue51 fun br fu hS=>?_|refine aU 1 hS isAgg4 ?_|refine aU 1 hS isAgg49 ?_|refine aJ 2 hS sizeOf51 fun _ hS=>?_)
  exact fE 2 hS rfl rfl rfl isAgg51 sizeOf51 rfl rfl ⟨⟨decide (0<xn),vV,xn,vk⟩,rfl,hS.pure S,by simpa using hI.grow (hS.pure S)⟩
 ·go_enter func88,ntmps88
  go_wp2_with (with_reducible first|refine cI hS fun b1 wb1 hS=>?_|refine bH hS zeroValue51 fun br fu hS=>?_|refine aU 1 hS isAgg4 ?_|refine aU 1 hS isAgg49 ?_|refine aJ 2 hS sizeOf51 fun _ hS=>?_)
  exact fE 2 hS rfl rfl rfl isAgg51 sizeOf51 rfl rfl ⟨⟨false,vV,xn,vk⟩,rfl,hS.pure S,by simpa using hI.grow (hS.pure S)⟩
def cR (a b:Int):Int:=if a<b then -1 else if b<a then 1 else 0
theorem a0S (a b:Int) (w:World):Calls prog 56 #[.int .i64 a,.int .i64 b] w fun e w'=>e=.returned (.int .i64 (cR a b))∧w=w':=by
 unfold cR
 by_cases h1:a<b
 ·go_enter func56,ntmps56
  go_wp2;go_ret;exact⟨jH (by simp [h1]),rfl⟩
 ·by_cases h2:b<a
  ·go_enter func56,ntmps56
   go_wp2;go_ret;exact⟨jH (by simp [h1,h2]),rfl⟩
  ·go_enter func56,ntmps56
   go_wp2;go_ret;exact⟨jH (by simp [h1,h2]),rfl⟩
theorem aIe (a b:Nat) (w:World):Calls prog 136 #[.int .u32 a,.int .u32 b] w fun e w'=>e=.returned (.int .i64 (cR a b))∧w=w':=by
 unfold cR
 by_cases h1:a<b
 ·go_enter func136,ntmps136
  go_wp2;go_ret;exact⟨jH (by simp [h1]),rfl⟩
 ·by_cases h2:b<a
  ·go_enter func136,ntmps136
   go_wp2;go_ret;exact⟨jH (by simp [h1,h2]),rfl⟩
  ·go_enter func136,ntmps136
   go_wp2;go_ret;exact⟨jH (by simp [h1,h2]),rfl⟩
end Go.Hp
