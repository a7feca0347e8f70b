/- Texts for the walk of the law: FD DR2 FR E8 E9 ED FS FW FX FY KS KT. -/
import Derived.Test.YtihpoboahbpaiaaGreatR07
import Derived.Shelf.Sort.Plain
import Derived.Shelf.Slices.In.SortNone
import Derived.Shelf.SlSortCmp.NoneTotal
set_option maxRecDepth 100000
set_option maxHeartbeats 16000000
set_option linter.unusedVariables false
set_option linter.unusedSimpArgs false
namespace Go.Hp
open Go Go.RowKit Go.Proofs.Tryz
structure mZ (L:List Nat):Prop where
 le:∀ v,v<L.length→nth 0 L v≤v
def yD (L:List Nat):Nat→Nat→Nat
 | 0,v=>v
 | f+1,v=>if nth 0 L v=v then v else yD L f (nth 0 L v)
def rep (L:List Nat) (v:Nat):Nat:=yD L v v
theorem aSj {L:List Nat} (h:mZ L):∀ (v f:Nat),v<L.length→v≤f→yD L f v=yD L v v:=by
 intro v
 induction v using Nat.strongRecOn with
 | _ v ih =>
  intro f hv hf;have hle:=h.le v hv;cases f with
  | zero =>
   obtain rfl:v=0:=by omega
   rfl
  | succ f =>
   by_cases e:nth 0 L v=v
   ·cases v with
    | zero=>simp only [yD,if_pos e]
    | succ v=>simp only [yD,if_pos e]
   ·cases v with
    | zero=>omega
    | succ v =>
     simp only [yD,if_neg e];rw [ih _ (by omega) f (by omega) (by omega),ih _ (by omega) v (by omega) (by omega)]
theorem th {L:List Nat} (h:mZ L) {v:Nat} (hv:v<L.length) (e:nth 0 L v=v):rep L v=v:=by
 unfold rep;cases v with
 | zero=>rfl
 | succ v=>simp only [yD,if_pos e]
theorem yw {L:List Nat} (h:mZ L) {v:Nat} (hv:v<L.length):rep L (nth 0 L v)=rep L v:=by
 by_cases e:nth 0 L v=v
 ·rw [e]
 ·have hle:=h.le v hv
  unfold rep;cases v with
  | zero=>omega
  | succ v =>
   conv=>rhs;simp only [yD,if_neg e]
   rw [aSj h _ v (by omega) (by omega)]
theorem a6i {L:List Nat} (h:mZ L):∀ (v:Nat),v<L.length→rep L v≤v∧nth 0 L (rep L v)=rep L v:=by
 intro v
 induction v using Nat.strongRecOn with
 | _ v ih =>
  intro hv;have hle:=h.le v hv
  by_cases e:nth 0 L v=v
  ·rw [th h hv e];exact⟨Nat.le_refl _,e⟩
  ·rw [← yw h hv]
   obtain⟨a,b⟩:=ih (nth 0 L v) (by omega) (by omega);exact⟨by omega,b⟩
theorem a3T {L:List Nat} (h:mZ L) {v:Nat} (hv:v<L.length):rep L v<L.length:=Nat.lt_of_le_of_lt (a6i h v hv).1 hv
theorem aTG {L:List Nat} (h:mZ L) {v:Nat} (hv:v<L.length):rep L (rep L v)=rep L v:=th h (a3T h hv) (a6i h v hv).2
theorem aRQ {L:List Nat} (h:mZ L) {v:Nat} (hv:v<L.length):mZ (L.set v (rep L v))∧∀ u,u<L.length→rep (L.set v (rep L v)) u=rep L u:=by
 obtain⟨s1,s2⟩:=a6i h v hv
 have hF:mZ (L.set v (rep L v)):=⟨fun u hu=>by
  rw [List.length_set] at hu;rw [wO _ _ _ _ _ hv]
  split
  ·omega
  ·exact h.le u hu⟩
 refine⟨hF,fun u=>?_⟩
 induction u using Nat.strongRecOn with
 | _ u ih =>
  intro hu;have uk:u<(L.set v (rep L v)).length:=by rw [List.length_set];exact hu
  have hn:=wO 0 L v u (rep L v) hv
  by_cases e:u=v
  ·subst e
   rw [if_pos rfl] at hn
   by_cases e2:rep L u=u
   ·rw [th hF uk (by rw [hn,e2]),e2]
   ·rw [← yw hF uk,hn,ih _ (by omega) (by omega),aTG h hu]
  ·rw [if_neg e] at hn
   have hle:=h.le u hu
   by_cases e2:nth 0 L u=u
   ·rw [th hF uk (by rw [hn,e2]),th h hu e2]
   ·rw [← yw hF uk,hn,ih _ (by omega) (by omega),yw h hu]
theorem aNR {L:List Nat} (h:mZ L) {p q:Nat} (hp:p<L.length) (hq:q<L.length) (ep:nth 0 L p=p) (eq:nth 0 L q=q) (gH:q≤p):mZ (L.set p q)∧∀ u,u<L.length→rep (L.set p q) u=if rep L u=p then q else rep L u:=by
 have hF:mZ (L.set p q):=⟨fun u hu=>by
  rw [List.length_set] at hu;rw [wO _ _ _ _ _ hp]
  split
  ·omega
  ·exact h.le u hu⟩
 refine⟨hF,fun u=>?_⟩
 induction u using Nat.strongRecOn with
 | _ u ih =>
  intro hu;have uk:u<(L.set p q).length:=by rw [List.length_set];exact hu
  have hn:=wO 0 L p u q hp
  by_cases e:u=p
  ·subst e
   rw [if_pos rfl] at hn;rw [th h hu ep,if_pos rfl]
   by_cases e2:q=u
   ·rw [th hF uk (by rw [hn,e2]),e2]
   ·rw [← yw hF uk,hn,ih _ (by omega) (by omega),th h hq eq,if_neg e2]
  ·rw [if_neg e] at hn
   have hle:=h.le u hu
   by_cases e2:nth 0 L u=u
   ·rw [th hF uk (by rw [hn,e2]),th h hu e2,if_neg e]
   ·rw [← yw hF uk,hn,ih _ (by omega) (by omega),yw h hu]
def comp (E:List (Nat × Nat)):Nat→Nat→Nat
 | 0,u=>u
 | j+1,u=>if comp E j u=max (comp E j (nth (0,0) E j).1) (comp E j (nth (0,0) E j).2) then min (comp E j (nth (0,0) E j).1) (comp E j (nth (0,0) E j).2) else comp E j u
def zl (E:List (Nat × Nat)) (u:Nat):Prop:=∃ e ∈ E,e.1=u∨e.2=u
structure aRS (E:List (Nat × Nat)) (j:Nat):Prop where
 le:∀ u,comp E j u≤u
 idem:∀ u,comp E j (comp E j u)=comp E j u
 mw:∀ i,i<j→comp E j (nth (0,0) E i).1=comp E j (nth (0,0) E i).2
 ends:∀ u,comp E j u=u∨(zl E u∧zl E (comp E j u))
theorem aDL (E:List (Nat × Nat)):∀ j,j≤E.length→aRS E j
 | 0,_=>⟨fun u=>Nat.le_refl _,fun u=>rfl,fun i hi=>by omega,fun u=>.inl rfl⟩
 | j+1,hj=>by
  have ih:=aDL E j (by omega);obtain⟨a,ha⟩:∃ a,(nth (0,0) E j).1=a:=⟨_,rfl⟩;obtain⟨b,hb⟩:∃ b,(nth (0,0) E j).2=b:=⟨_,rfl⟩;have j0:=cQ (0,0) E j (by omega);have hae:zl E a:=⟨_,j0,.inl ha⟩;have pB:zl E b:=⟨_,j0,.inr hb⟩
  have kV:∀ u,comp E (j+1) u=if comp E j u=max (comp E j a) (comp E j b) then min (comp E j a) (comp E j b) else comp E j u:=fun u=>by
   show (if comp E j u=max (comp E j (nth (0,0) E j).1) (comp E j (nth (0,0) E j).2) then _ else _)=_;rw [ha,hb]
  have nH:zl E (comp E j a):=by
   rcases ih.ends a with h|h
   ·rw [h];exact hae
   ·exact h.2
  have hye:zl E (comp E j b):=by
   rcases ih.ends b with h|h
   ·rw [h];exact pB
   ·exact h.2
  have hxi:=ih.idem a;have hyi:=ih.idem b;generalize hx:comp E j a=x at *;generalize hy:comp E j b=y at *;refine⟨fun u=>?_,fun u=>?_,fun i hi=>?_,fun u=>?_⟩
  ·have:=ih.le u
   rw [kV];split <;> omega
  ·have h1:=ih.idem u
   have hm:comp E j (min x y)=min x y:=by
    rcases Nat.le_total x y with h|h
    ·rw [Nat.min_eq_left h];exact hxi
    ·rw [Nat.min_eq_right h];exact hyi
   rw [kV u]
   split
   ·rw [kV,hm];split
    ·rfl
    ·rfl
   ·rename_i bJ
    rw [kV,h1,if_neg bJ]
  ·rcases Nat.lt_or_eq_of_le (Nat.lt_succ_iff.1 hi) with h|h
   ·have:=ih.mw i h
    rw [kV,kV,this]
   ·subst h
    rw [ha,hb,kV a,kV b,hx,hy]
    split <;> split <;> omega
  ·rw [kV]
   split
   ·rename_i hcu
    by_cases hmu:min x y=u
    ·exact .inl hmu
    ·right
     have aPa:zl E (min x y):=by
      rcases Nat.le_total x y with h|h
      ·rw [Nat.min_eq_left h];exact nH
      ·rw [Nat.min_eq_right h];exact hye
     refine⟨?_,aPa⟩
     rcases ih.ends u with h|h
     ·rw [hcu] at h
      rw [← h]
      rcases Nat.le_total x y with h|h
      ·rw [Nat.max_eq_right h];exact hye
      ·rw [Nat.max_eq_left h];exact nH
     ·exact h.1
   ·exact ih.ends u
def nK (E:List (Nat × Nat)) (n:Nat):List Nat:=(List.range n).map (comp E E.length)
theorem aUb {E:List (Nat × Nat)} {n v:Nat} (hv:v<n):nth 0 (nK E n) v=comp E E.length v:=by
 rw [bS _ _ _ (by simp [nK];exact hv)];simp [nK]
section
variable {P:Program} {ops:Array Oper} {Q:Exit→Act→World→Prop} {rest:List Oper} {a:Act} {w w0 wr:World} {H:List Chunk} {S:Nat→Prop} {dst:Option Tmp} {x y ix:Operand} {ty T E Tb:TypeId} {pos:String} {ak:Array Edge} {gd:Option (Nat × Bool)} {K:Act→Prop} {n c g:Nat}
theorem yy {cs:List Value} {k q:Nat} {u:Value} (j:Nat) (fU:∀ w,(isAgg T).run P w=.ok false w) (hx:a.eval x=.pointer (some ⟨g,q,none⟩)) (hj:H[j]? = some (.row (.slice (some ⟨g,0,none⟩) n c) Tb k n cs)) (h0:cs[q]? = some u)
 (hk:K (a.put dst u)):nj P w0 H ⟨dst,.load T x,ty,pos,ak,gd⟩ a K:=by
 refine⟨⟨_,fun w' hS=>?_,hk⟩⟩;have hr:=hS.dn j hj;obtain⟨hl,ad,cap,e,_,_,_,hc⟩:=hr;simp only [Value.slice.injEq] at e;have hc:=(hc ⟨g,0,none⟩ e.1.symm).cell q u h0
 have h1:w'.cell? ⟨g,q,none⟩=some u:=by
  have e2:(⟨g,0,none⟩:Addr).add q=⟨g,q,none⟩:=by rw [xQ,Nat.zero_add]
  first|(rw [Nat.zero_add] at hc;exact hc)
 generalize a.eval=ρ at hx;simp [execOp,hx,Instr.loadAt,Instr.sureAddr,loadVar,fU,go_sem,h1]
theorem a0g {cs:List Value} {k kk q:Nat} (j:Nat) (eT:∀ w,(isAgg T).run P w=.ok true w) (hz:∀ w,(sizeOf T).run P w=.ok kk w) (hx:a.eval x=.pointer (some ⟨g,q,none⟩)) (hj:H[j]? = some (.row (.slice (some ⟨g,0,none⟩) n c) Tb k n cs)) {us:List Value} (h0:(cs.drop q).take kk=us) (hlen:us.length=kk)
 (hk:K (a.put dst (.agg us.toArray))):nj P w0 H ⟨dst,.load T x,ty,pos,ak,gd⟩ a K:=by
 subst h0;refine⟨⟨_,fun w' hS=>?_,hk⟩⟩;have hr:=hS.dn j hj;obtain⟨hl,ad,cap,e,_,_,_,hc⟩:=hr;simp only [Value.slice.injEq] at e;have hc:=hc ⟨g,0,none⟩ e.1.symm
 have h1:=run_loadCells_list (P:=P) w' ⟨g,q,none⟩ ((cs.drop q).take kk) (fun j u hu=>by
  rw [xQ];rw [List.getElem?_take] at hu
  split at hu
  ·rw [List.getElem?_drop] at hu
   have:=hc.cell _ _ hu
   rwa [Nat.zero_add] at this
  ·cases hu)
 rw [hlen] at h1;generalize a.eval=ρ at hx;simp only [execOp,hx,Instr.loadAt,Instr.sureAddr,Sem.run_bind,Sem.run_pure,Result.andThen_ok,a9K eT hz h1]
theorem a6k {cs:List Value} {k i:Nat} {v:Value} (j:Nat) (hS:aA w0 w H) (hx:a.eval x=.pointer (some ⟨g,i,none⟩)) (hy:a.eval y=v) (hj:H[j]? = some (.row (.slice (some ⟨g,0,none⟩) n c) Tb k n cs)) (hi:i<cs.length)
 (hT:∀ w,(sizeOf T).run P w=.ok 1 w) (kU:v.cells=#[v]) (hv:v.oneCell'=true)
 (hk:∀ w',aA w0 w' (H.set j (.row (.slice (some ⟨g,0,none⟩) n c) Tb k n (cs.set i v)))→wpList P ops Q rest (a.put dst undef) w') :
 wpList P ops Q (⟨dst,.store T x y,ty,pos,ak,none⟩::rest) a w:=by
 obtain⟨hl,ho⟩:=hS.ok _ (bW hj)
 rcases ho with ⟨h1,h2⟩|⟨g',cap,cur,h1,fk,hg,mm,fg,hcs,eK⟩
 ·subst h2;rw [hl] at hi;omega
 ·simp only [Value.slice.injEq,Option.some.injEq,Addr.mk.injEq] at h1
  obtain⟨⟨rfl,-⟩,-,rfl⟩:=h1
  have aW:i<cur.size:=by
   have:n*k≤c*k:=Nat.mul_le_mul_right k mm;omega
  have hr:=a7S (P:=P) (T:=T) (u:=v) (off:=i) (by rw [kU];exact hT) hg (by rw [kU];simp [hv]) (by rw [kU];simp;omega);refine a3j (w':=w.setRow g (cur.toList.take i++v.cells.toList++cur.toList.drop (i+v.cells.size)).toArray) rfl ?_ (hk _ ?_)
  ·generalize a.eval=ρ at hx hy
   simp only [execOp,hx,hy,Instr.storeAt,Instr.sureAddr,Sem.run_bind,Sem.run_pure,Result.andThen_ok,hr]
  ·have iF:(cur.toList.take i++v.cells.toList++cur.toList.drop (i+v.cells.size))=cur.toList.set i v:=by
    rw [List.set_eq_take_append_cons_drop,if_pos (by rw [Array.length_toList];omega),kU];simp
   rw [iF];refine hS.sQ j hj rfl rfl rfl (Nat.le_refl _) (by simp [World.setRow]) ?_ (fun k hk=>.inl hk) (fun k _ bJ=>setRow_other w g k _ (fun e=>bJ (by simp [Chunk.has,Value.ownBlock,e])));refine⟨by rw [List.length_set];exact hl,.inr ⟨g,c,_,rfl,fk,setRow_heap w g cur _ Tb (0,0) hg,mm,fg,by simp [hcs],?_⟩⟩;rw [List.take_set,eK]
end
section
variable {P:Program} {ops:Array Oper} {Q:Exit→Act→World→Prop} {rest:List Oper} {a:Act} {w w0:World} {H:List Chunk} {dst:Option Tmp} {x y:Operand} {ty T E:TypeId} {pos:String} {ak:Array Edge}
theorem a9J {n:Nat} {xv:Int} (hS:aA w0 w H) (hu:P.underlying T=some (.slice E)) (ky:(P.info? E).map (fun i=>(i.zero,i.size,i.bytes))=some (some (.int .i64 0),1,8))
 (hx:a.eval x=.int .i64 xv) (hy:a.eval y=.int .i64 xv) (fL:xv=(n:Int)) (hn:n≤65536)
 (hk:∀ b w',aA w0 w' (H++[.row (.slice (some ⟨b,0,none⟩) n n) E 1 n (iv (List.replicate n 0))])→wpList P ops Q rest (a.put dst (.slice (some ⟨b,0,none⟩) n n)) w') :
 wpList P ops Q (⟨dst,.makeSlice T x y,ty,pos,ak,none⟩::rest) a w:=by
 subst fL;obtain⟨i,hi,hz,dJ,jm⟩:=info_parts ky;have hr:=run_make (P:=P) w T E i _ hu hi hz .i64 .i64 n n (by omega) (by omega) (by rw [jm];omega) (by omega)
 have hc:madeCells (Value.int .i64 0).cells ((n:Int).toNat*i.size)=(iv (List.replicate n 0)).toArray:=by
  rw [dJ,Int.toNat_natCast,Nat.mul_one];apply Array.ext
  ·simp [madeCells,iv]
  ·intro j h1 h2
   simp [madeCells,iv,Value.cells,Nat.mod_one]
 rw [hc,Int.toNat_natCast] at hr;have hA:=hS.alloc (.cells (iv (List.replicate n 0)).toArray E (0,0));have hR:=hA.uj (k:=1) (m:=n) (g:=w.heap.size) (arr:=(iv (List.replicate n 0)).toArray) (Tb:=E) H.length (by simp) (by simp [iv]) (by unfold maxLen;omega)
 have o9:aA w0 (w.alloc (.cells (iv (List.replicate n 0)).toArray E (0,0))) (H++[.row (.slice (some ⟨w.heap.size,0,none⟩) n n) E 1 n (iv (List.replicate n 0))]):=by
  simpa using hR
 refine lx (w':=w.alloc (.cells (iv (List.replicate n 0)).toArray E (0,0))) (v:=.slice (some ⟨w.heap.size,0,none⟩) n n) rfl ?_ (hk _ _ o9);simp only [execOp,hx,hy];simp [hr,go_sem]
end
section
variable {P:Program} {Q:Exit→Act→World→Prop}
theorem qR {id:Nat} {a:Act} {w:World} {l:List Oper} (s:List Mv) (M:List Nat) (C D:World→Prop) (hm:P.follows .mixedOrders=true)
 (bG:(Region.noSelect l.toArray && (s.length == l.length) && p9 .any l.toArray M s (Array.replicate l.length false))=true) (hD:D w.drew) (hDC:∀ w',D w'→C w')
 (h:∀ w',D w'→dN P l.toArray (di Q) C s a w'):(Code.region id l.toArray true).wp P Q a w :=
 a6q s M C hm bG (hDC _ hD) (h _ hD)
end
theorem a0A:(prog.info? 3).map (fun i=>(i.zero,i.size,i.bytes))=some (some (.int .i64 0),1,8):=by kernel_rfl
def aQl (w:World) (S:Nat→Prop) (g n c bo br:Nat) (L:List Nat) (v:Nat) (e:Ending) (w':World):Prop :=
 ∃ L':List Nat,e=.returned (.int .i64 (rep L v:Int))∧aA w w' [.aH S w,.aB bo (.cells #[.slice (some ⟨g,0,none⟩) n c] 22 (0,0)),.aB br (.cells #[.func (.func 127) #[] #[.pointer (some ⟨bo,0,none⟩),.pointer (some ⟨br,0,none⟩)]] 118 (0,0)),.row (.slice (some ⟨g,0,none⟩) n c) 3 1 n (iv (zs L'))] ∧
  mZ L'∧L'.length=L.length∧(∀ u,u<L.length→rep L' u=rep L u)∧(∀ u,u<L.length→nth 0 L' u=nth 0 L u∨nth 0 L' u=rep L u)∧nth 0 L' v=rep L v
theorem aB8 (g n c bo br:Nat):∀ (v:Nat) (L:List Nat) (w:World) (S:Nat→Prop),mZ L→L.length=n→v<n →
 aA w w [.aH S w,.aB bo (.cells #[.slice (some ⟨g,0,none⟩) n c] 22 (0,0)),.aB br (.cells #[.func (.func 127) #[] #[.pointer (some ⟨bo,0,none⟩),.pointer (some ⟨br,0,none⟩)]] 118 (0,0)),.row (.slice (some ⟨g,0,none⟩) n c) 3 1 n (iv (zs L))] →
 Calls prog 127 #[.int .i64 (v:Int),.pointer (some ⟨bo,0,none⟩),.pointer (some ⟨br,0,none⟩)] w (aQl w S g n c bo br L v):=by
 intro v
 induction v using Nat.strongRecOn with
 | _ v ih =>
  intro L w S hF lO hv hS;have hle:=hF.le v (by omega);have hnz:=xj L v
  by_cases he:nth 0 L v=v
  ·have rh:=Hd (th hF (by omega) he)
   rw [he] at hnz;have q1:((v:Int) != (v:Int))=false:=by simp
   clear ih hle;replace he:=Hd he;replace hF:=Hd hF
   go_enter func127,ntmps127
   go_wp2_with (with_reducible first|refine aU 1 hS isAgg22 ?_|refine kW underlying22 sizeOf3 ?_|refine uC 3 hS isAgg3 ?_)
   go_ret;refine⟨L,?_,hS,hF.out,rfl,fun u _=>rfl,fun u _=>.inl rfl,by rw [he.out,rh.out]⟩;rw [rh.out];show Ending.returned (.int .i64 (nth 0 (zs L) v))=_;rw [hnz]
  ·obtain⟨p,hp⟩:∃ p,nth 0 L v=p:=⟨_,rfl⟩
   have rh:=yw hF (show v<L.length by omega);rw [hp] at hnz hle he rh;have q1:((p:Int) != (v:Int))=true:=by simp;omega
   have ihp:=fun w S h=>ih p (by omega) L w S hF lO (by omega) h
   replace rh:=Hd rh;replace hp:=Hd hp;replace hF:=Hd hF;clear ih
   go_enter func127,ntmps127
   go_wp2_with (with_reducible first|refine aU 1 hS isAgg22 ?_|refine kW underlying22 sizeOf3 ?_|refine uC 3 hS isAgg3 ?_)
   refine qR [.r 0,.p 1,.r 2,.r 3,.p 4,.p 5,.e 6,.e 7,.p 8,.m 9] [9] (fun w'=>aA w w' [.aH S w,.aB bo (.cells #[.slice (some ⟨g,0,none⟩) n c] 22 (0,0)),.aB br (.cells #[.func (.func 127) #[] #[.pointer (some ⟨bo,0,none⟩),.pointer (some ⟨br,0,none⟩)]] 118 (0,0))]) (fun w'=>aA w w' _) (by kernel_rfl) (by kernel_rfl) hS.drew (fun _ hZ=>aA.sub hZ (by repeat (first|exact List.Sublist.refl _|apply List.Sublist.cons_cons|apply List.Sublist.cons))) (fun w1 hS=>?_)
   repeat (with_reducible first|refine cZ 1 isAgg22 ?_|refine cZ 2 isAgg118 ?_|refine a2J underlying22 sizeOf3 ?_|refine bU ?_)
   refine aZ ?_
   (with_reducible refine uC 3 hS isAgg3 ?_)
   refine aX hS.sb ?_;refine aM ?_;refine aZ ?_;simp only [hnz]
   go_wp2_with (fail)
   refine (ihp _ _ (aA.split (A:=[.aH S w]) hS)).mono ?_;rintro e w' ⟨L1,rfl,cU,aG,kN,il,eX,kU⟩;simp only [];go_step;have hS:=aA.su (A:=[.aH S w]) hS cU;simp only [aK] at hS;replace aG:=Hd aG;replace il:=Hd il;replace eX:=Hd eX;replace kU:=Hd kU;replace kN:=Hd kN;clear cU;refine aX hS.sb ?_
   repeat (with_reducible refine a2J underlying22 sizeOf3 ?_)
   refine dC ?_
   (with_reducible refine xS 3 hS sizeOf3 fun _ hS=>?_)
   refine dD ?_;refine bE ?_
   go_wp2_with (with_reducible first|refine aU 1 hS isAgg22 ?_|refine kW underlying22 sizeOf3 ?_|refine uC 3 hS isAgg3 ?_)
   go_ret;have lP:v<L.length:=by omega
   have aAW:v<L1.length:=by rw [kN.out];exact lP
   obtain⟨aQ,cT⟩:=aRQ aG.out aAW;have e1:rep L1 v=rep L v:=il.out v lP;rw [e1] at aQ cT;have e2:(zs L1).set v ((rep L p:Nat):Int)=zs (L1.set v (rep L v)):=by rw [rh.out];simp [zs]
   have e3:nth 0 (L1.set v (rep L v)) v=rep L v:=by rw [wO _ _ _ _ _ aAW,if_pos rfl]
   refine⟨L1.set v (rep L v),?_,by rw [← e2];exact hS,aQ,by rw [List.length_set,kN.out],fun u hu=>?_,fun u hu=>?_,e3⟩
   ·show Ending.returned (.int .i64 (nth 0 ((zs L1).set v ((rep L p:Nat):Int)) v))=_
    rw [e2,xj,e3]
   ·rw [cT u (by rw [kN.out];exact hu),il.out u hu]
   ·rw [wO _ _ _ _ _ aAW]
    split
    ·rename_i e;subst e;exact .inr rfl
    ·exact eX.out u hu
def sG (ad:Option Addr) (c j m k:Nat):Value:=.slice (if c=j then ad else ad.map (·.add (j*k))) (m - j) (c - j)
theorem bN.sub {w:World} {S:Nat→Prop} {k n c j m:Nat} {ad:Option Addr} {cs:List Value} (h:bN w S k (.slice ad n c) n cs) (hj:j≤m) (hm:m≤n):bN w S k (sG ad c j m k) (m - j) ((cs.take (m*k)).drop (j*k)):=by
 obtain⟨h1,a,cap,h2,h3,h4,h5,h6⟩:=h;simp only [Value.slice.injEq] at h2;obtain⟨rfl,-,rfl⟩:=h2;have vi:m*k≤n*k:=Nat.mul_le_mul_right k hm
 have hlen:((cs.take (m*k)).drop (j*k)).length=(m - j)*k:=by
  rw [List.length_drop,List.length_take,Nat.min_eq_left (by omega),Nat.sub_mul]
 refine⟨hlen,_,_,rfl,by omega,by omega,?_,?_⟩
 ·intro e
  split at e
  ·subst e;have:=h5 rfl;omega
  ·cases ad with
   | none=>have:=h5 rfl;omega
   | some x=>simp at e
 ·intro x hx
  have kJ:∀ i u,((cs.take (m*k)).drop (j*k))[i]? = some u→cs[j*k+i]? = some u:=by
   intro i u hu;rw [List.getElem?_drop,List.getElem?_take] at hu
   split at hu
   ·exact hu
   ·cases hu
  have bJ:((cs.take (m*k)).drop (j*k))≠[]→cs≠[]:=fun h e=>h (by rw [e];simp)
  by_cases hcj:c=j
  ·have he:((cs.take (m*k)).drop (j*k))=[]:=List.eq_nil_of_length_eq_zero (by rw [hlen,show m - j=0 by omega,Nat.zero_mul])
   rw [he];exact⟨fun h=>absurd rfl h,fun h=>absurd rfl h,fun i u hu=>by simp at hu⟩
  ·rw [if_neg hcj] at hx
   cases ad with
   | none=>simp at hx
   | some y =>
    simp only [Option.map_some,Option.some.injEq] at hx;subst hx;have hy:=h6 y rfl;have hb:(y.add (j*k)).block=y.block:=by unfold Addr.add;split <;> rfl
    have ho:(y.add (j*k)).off=y.off+j*k:=by unfold Addr.add;split <;> simp_all
    refine⟨fun h=>?_,fun h=>by rw [hb];exact hy.tO (bJ h),fun i u hu=>?_⟩
    ·have:=hy.spot (bJ h)
     unfold Addr.add;split
     ·exact this
     ·rfl
    ·rw [hb,ho,Nat.add_assoc]
     exact hy.cell _ u (kJ i u hu)
section
variable {P:Program} {ops:Array Oper} {Q:Exit→Act→World→Prop} {rest:List Oper} {a:Act} {w w0:World} {H:List Chunk} {K:Act→Prop}
variable {dst:Option Tmp} {ty T E:TypeId} {pos:String} {ak:Array Edge} {gd:Option (Nat × Bool)} {x lo hi y:Operand}
theorem aGn {ad:Option Addr} {n c m k:Nat} {mv:Int} (hu:P.underlying T=some (.slice E)) (hz:∀ w,(sizeOf E).run P w=.ok k w) (hx:a.eval x=.slice ad n c) (hh:a.eval hi=.int .i64 mv) (fi:mv=(m:Int)) (s8:m≤c) {v:Value} (nC:sG ad c 0 m k=v)
 (hk:K (a.put dst v)):oN P ⟨dst,.slice T x none (some hi) none,ty,pos,ak,gd⟩ a K:=by
 subst fi;subst nC;refine⟨⟨_,fun w'=>?_,hk⟩⟩;generalize a.eval=ρ at hx hh
 have iD:(Instr.sliceBound (.int .i64 (m:Int)) c .sliceAcap).run P w'=.ok m w':=by
  simp [Instr.sliceBound,asIntOf,go_sem,s8]
 simp [execOp,hx,hh,Instr.sliceAt,Instr.slice,Instr.sliceBounds,go_sem,run_underlying hu,iD,hz,sG]
theorem aMr {ad:Option Addr} {n c j k:Nat} {jv:Int} (hu:P.underlying T=some (.slice E)) (hz:∀ w,(sizeOf E).run P w=.ok k w) (hx:a.eval x=.slice ad n c) (hl:a.eval lo=.int .i64 jv) (vh:jv=(j:Int)) (hjn:j≤n) {v:Value} (nC:sG ad c j n k=v)
 (hk:K (a.put dst v)):oN P ⟨dst,.slice T x (some lo) none none,ty,pos,ak,gd⟩ a K:=by
 subst vh;subst nC;refine⟨⟨_,fun w'=>?_,hk⟩⟩;generalize a.eval=ρ at hx hl
 have iD:(Instr.sliceBound (.int .i64 (j:Int)) n .sliceB).run P w'=.ok j w':=by
  simp [Instr.sliceBound,asIntOf,go_sem,hjn]
 simp [execOp,hx,hl,Instr.sliceAt,Instr.slice,Instr.sliceBounds,go_sem,run_underlying hu,iD,hz,sG]
theorem aMR {k m:Nat} {mv:Int} {z:Value} {bytes:Nat} {tn:TypeId} {kn:IntKind} (hS:aA w0 w H) (hu:P.underlying T=some (.slice E)) (htn:P.underlying tn=some (.int kn)) (ky:(P.info? E).map (fun i=>(i.zero,i.size,i.bytes))=some (some z,k,bytes)) (kE:0<k) (hzk:z.cells.size=k)
 (hx:a.eval x=.slice none 0 0) (hy:a.eval y=.int .i64 mv) (fi:mv=(m:Int)) (wA:0<m) (sk:m*bytes≤140737488355328) (uP:m≤9223372036854775807)
 (hk:∀ b G arr w',aA w0 w' (H++[.aB b (.cells arr E (0,0))])→arr.size=G*k→m≤G→G≤maxLen→wpList P ops Q rest (a.put dst (.slice (some ⟨b,0,none⟩) m G)) w') :
 wpList P ops Q (⟨dst,.call ⟨.builtin .append,#[x,y],#[T,tn]⟩,ty,pos,ak,none⟩::rest) a w:=by
 subst fi;obtain⟨inf,hi,hz,dJ,jm⟩:=info_parts ky;have hold:(Builtin.firstCells inf.size 0 (.slice none 0 0)).run P w.drew=.ok ([]:List Value).toArray w.drew:=rfl;have hr:=Lib.run_append_grow_zeros (P:=P) w T tn ty E inf z .i64 kn hu htn hi hz none 0 0 [] hold m wA (by omega) (by omega) (by omega) (by rw [jm];omega) (by rw [jm];exact growslice_fits (by omega) (by simpa using sk));have hG1:m≤grownCap w m 0 E:=grownCap_ge w _ _ _;have pW:grownCap w m 0 E≤maxLen:=grownCap_le_maxLen w m 0 E (by unfold maxLen;omega);simp only [Nat.zero_add] at hr;refine Lib.wpList_append_run w rfl x y T tn rfl _ _ hx hy _ _ hr (hk w.heap.size (grownCap w m 0 E) _ _ (hS.drew.alloc _) ?_ hG1 pW);simp only [Builtin.zeroCells,hzk,Array.size_append,List.size_toArray,List.length_nil,Array.size_map,Array.size_range];rw [Nat.zero_add,← Nat.add_mul]
 congr 1;omega
end
theorem aS5 (n:Nat) (w:World) (hn:n≤1000000) :
 Calls prog 114 #[.slice none 0 0,.int .i64 (n:Int)] w fun e w'=>∃ ad c,e=.returned (.slice ad 0 c)∧aA w w' [.aH (Old w) w,.row (.slice ad 0 c) 95 4 0 []]:=by
 have hS:=aA.start w
 by_cases h0:n=0
 ·subst h0
  go_enter func114,ntmps114
  go_wp2;go_ret;exact⟨none,0,rfl,hS.iB 95 4⟩
 ·have hd:decide (0<n)=true:=by simp;omega
  have w1:IntKind.i64.wrap (n:Int)=(n:Int):=w6
  go_enter func114,ntmps114
  go_wp2_with (first|((with_reducible refine eG ?_);refine aMR (m:=n) (T:=23) (E:=95) (tn:=3) (k:=4) hS underlying23 underlying3 sM (by decide) rfl rfl rfl (by omega) (by omega) (by omega) (by omega) (fun b G arr _ hS a9Z hG1 pW=>?_);simp only [aD];simp only [aK] at hS))
  go_ret;have hS:=hS.a4d (c:=G) (n:=0) (k:=4) 1 rfl (by simpa using a9Z) (by omega) pW;simp only [List.set_cons_succ,List.set_cons_zero,Nat.zero_mul,List.take_zero] at hS;exact⟨_,_,rfl,hS⟩
theorem aNO (b:Nat) (lV dU:Option Addr) (n1 c1 n2 c2:Nat) (l1 l2:List Sz) (w:World) (S:Nat→Prop) (hL:aP w S) (hb:bN w (fun k=>k=b) 1 (.slice (some ⟨b,0,none⟩) 2 2) 2 [.slice lV n1 c1,.slice dU n2 c2]) (iD:b<w.heap.size)
 (kU:bN w S 4 (.slice lV n1 c1) l1.length (l1.flatMap sc)) (gW:bN w S 4 (.slice dU n2 c2) l2.length (l2.flatMap sc)) (kN:l1.length≤100000) (eJ:l2.length≤100000) :
 Calls prog 68 #[.slice (some ⟨b,0,none⟩) 2 2] w fun e w'=>∃ ad c S',e=.returned (.slice ad (l1++l2).length c)∧Pure w S w' S'∧bN w' S' 4 (.slice ad (l1++l2).length c) (l1++l2).length ((l1++l2).flatMap sc):=by
 obtain rfl:n1=l1.length:=by obtain⟨h1,a,cap,h2,_⟩:=kU;cases h2;rfl
 obtain rfl:n2=l2.length:=by obtain⟨h1,a,cap,h2,_⟩:=gW;cases h2;rfl
 rw [List.length_append,List.flatMap_append];have aNj:bN w (Old w) 4 _ _ _:=kU.weaken hL;have aVS:bN w (Old w) 4 _ _ _:=gW.weaken hL;have hbF:bN w (Old w) 1 _ _ _:=hb.weaken (fun k h=>by rw [h];exact iD);have hS:=aA.start w;have aC:=hL;obtain⟨M,hM⟩:∃ M,M=l1.length+l2.length:=⟨_,rfl⟩;have w1:IntKind.i64.wrap (l1.length:Int)=(l1.length:Int):=w6;have w2:IntKind.i64.wrap ((l1.length:Int)+(l2.length:Int))=(M:Int):=w7;have w3:decide ((M:Int)<0)=false:=by simp
 have gr:=fun w=>aS5 M w (by omega)
 replace hM:=Hd hM;clear kU gW hb iD
 go_enter func68,ntmps68
 go_wp2;refine wp_loop_rounds 3 ?_;rw [rounds_succ]
 go_wp2_with (first|((with_reducible refine du (T:=192) ?_);refine ck rfl (lI (T:=192) underlying192 sizeOf23 rfl rfl hbF (by omega) (by omega) (by omega) (fun bq oq bO=>?_));replace bO:dM _ _ ⟨bq,oq,none⟩ [.slice lV l1.length c1]:=bO;simp only [aD])|(with_reducible refine fP hS isAgg23 ?_))
 first|rw [rounds_succ]
 go_wp2_with (first|((with_reducible refine du (T:=192) ?_);refine ck rfl (lI (T:=192) underlying192 sizeOf23 rfl rfl hbF (by omega) (by omega) (by omega) (fun bq oq bO=>?_));replace bO:dM _ _ ⟨bq,oq,none⟩ [.slice dU l2.length c2]:=bO;simp only [aD])|(with_reducible refine fP hS isAgg23 ?_))
 first|rw [rounds_succ]
 go_wp2_with (fail)
 refine (gr _).mono ?_;rintro e w' ⟨ad,c,rfl,hG⟩;have cK:=hS.import hG;clear hS hG gr;have hS:=cK;clear cK;simp only [aK] at hS;simp only [];go_wp2;refine wp_loop_rounds 3 ?_;rw [rounds_succ]
 go_wp2_with (first|((with_reducible refine du (T:=192) ?_);refine ck rfl (lI (T:=192) underlying192 sizeOf23 rfl rfl hbF (by omega) (by omega) (by omega) (fun bq oq bO=>?_));replace bO:dM _ _ ⟨bq,oq,none⟩ [.slice lV l1.length c1]:=bO;simp only [aD])|(with_reducible refine fP hS isAgg23 ?_)|((with_reducible refine eG ?_);refine uA (t:=23) 1 hS underlying23 sM rfl (by decide) rfl rfl rfl aNj (by simp) (a2X l1) (by omega) (by unfold maxLen;omega) (fun _ _ _ hS=>?_);simp only [aD];simp only [aK] at hS;try simp only [Nat.zero_add,List.nil_append] at hS ⊢))
 first|rw [rounds_succ]
 go_wp2_with (first|((with_reducible refine du (T:=192) ?_);refine ck rfl (lI (T:=192) underlying192 sizeOf23 rfl rfl hbF (by omega) (by omega) (by omega) (fun bq oq bO=>?_));replace bO:dM _ _ ⟨bq,oq,none⟩ [.slice dU l2.length c2]:=bO;simp only [aD])|(with_reducible refine fP hS isAgg23 ?_)|((with_reducible refine eG ?_);refine uA (t:=23) 1 hS underlying23 sM rfl (by decide) rfl rfl rfl aVS (by simp) (a2X l2) (by omega) (by unfold maxLen;omega) (fun _ _ _ hS=>?_);simp only [aD];simp only [aK] at hS;try simp only [Nat.zero_add,List.nil_append] at hS ⊢))
 first|rw [rounds_succ]
 go_wp2;go_ret;exact⟨_,_,_,rfl,hS.a5W (fun _ h=>h) aC (Pure.refl w S) (bW (i:=0) rfl),(hS.dn 1 rfl).weaken fun k h=>.inr h⟩
structure Ed where
 a:Nat
 b:Nat
 of:List Nat
 dir:Gp
def ah:Ed:=⟨0,0,[],g0⟩
structure ER where
 a:Nat
 b:Nat
 ad:Option Addr
 n:Nat
 c:Nat
 dir:Gp
def jk:ER:=⟨0,0,none,0,0,g0⟩
def ec (e:ER):List Value:=[.int .i64 e.a,.int .i64 e.b,.slice e.ad e.n e.c,.int .i64 e.dir.x,.int .i64 e.dir.y]
theorem sU (e:ER):(ec e).length=5:=rfl
theorem aVn (l:List ER):∀ v ∈ l.flatMap ec,v.oneCell'=true:=by
 intro v hv;obtain⟨p,_,h⟩:=List.mem_flatMap.1 hv;simp only [ec,List.mem_cons,List.not_mem_nil,or_false] at h
 rcases h with rfl|rfl|rfl|rfl|rfl <;> rfl
structure ta (w:World) (S:Nat→Prop) (r:ER) (e:Ed):Prop where
 a:r.a=e.a
 b:r.b=e.b
 dir:r.dir=e.dir
 of:jZ w S (.slice r.ad r.n r.c) e.of
structure kP (w:World) (S:Nat→Prop) (rs:List ER) (es:List Ed):Prop where
 len:rs.length=es.length
 el:∀ i,i<es.length→ta w S (nth jk rs i) (nth ah es i)
theorem jZ.move {w wr:World} {S:Nat→Prop} {v:Value} {xs:List Nat} (h:jZ wr S v xs) (hk:∀ k,S k→w.heap[k]? = wr.heap[k]?):jZ w S v xs:=⟨h.1.move hk,h.2⟩
theorem jZ.grow {w w':World} {S S':Nat→Prop} {v:Value} {xs:List Nat} (h:jZ w S v xs) (hp:Pure w S w' S'):jZ w' S' v xs:=⟨h.1.grow hp,h.2⟩
theorem ta.move {w wr:World} {S:Nat→Prop} {r:ER} {e:Ed} (h:ta wr S r e) (hk:∀ k,S k→w.heap[k]? = wr.heap[k]?):ta w S r e:=⟨h.a,h.b,h.dir,h.of.move hk⟩
theorem ta.grow {w w':World} {S S':Nat→Prop} {r:ER} {e:Ed} (h:ta w S r e) (hp:Pure w S w' S'):ta w' S' r e:=⟨h.a,h.b,h.dir,h.of.grow hp⟩
theorem ta.weaken {w:World} {S T:Nat→Prop} {r:ER} {e:Ed} (h:ta w S r e) (iU:∀ k,S k→T k):ta w T r e:=⟨h.a,h.b,h.dir,h.of.weaken iU⟩
theorem kP.move {w wr:World} {S:Nat→Prop} {rs:List ER} {es:List Ed} (h:kP wr S rs es) (hk:∀ k,S k→w.heap[k]? = wr.heap[k]?):kP w S rs es:=⟨h.len,fun i hi=>(h.el i hi).move hk⟩
theorem kP.at {w0 w wr:World} {H:List Chunk} {F S:Nat→Prop} {rs:List ER} {es:List Ed} (h:kP wr S rs es) (hS:aA w0 w (.aH F wr::H)) (hF:∀ k,S k→F k):kP w S rs es:=h.move (hS.da hF)
theorem kP.grow {w w':World} {S S':Nat→Prop} {rs:List ER} {es:List Ed} (h:kP w S rs es) (hp:Pure w S w' S'):kP w' S' rs es:=⟨h.len,fun i hi=>(h.el i hi).grow hp⟩
theorem kP.weaken {w:World} {S T:Nat→Prop} {rs:List ER} {es:List Ed} (h:kP w S rs es) (iU:∀ k,S k→T k):kP w T rs es:=⟨h.len,fun i hi=>(h.el i hi).weaken iU⟩
theorem ez.snoc {w:World} {S:Nat→Prop} {rs:List PR} {es:List Pt} (h:ez w S rs es) {r:PR} {e:Pt} (hr:dh w S r e):ez w S (rs++[r]) (es++[e]):=by
 have hl:=h.len;refine⟨by simp [hl],fun i hi=>?_⟩;simp only [List.length_append,List.length_singleton] at hi
 rcases Nat.lt_or_ge i es.length with h1|h1
 ·rw [ju _ _ _ _ h1,ju _ _ _ _ (by omega)];exact h.el i h1
 ·obtain rfl:i=es.length:=by omega
  rw [uE,← hl,uE];exact hr
theorem ez.append {w:World} {S:Nat→Prop} {rs rs2:List PR} {es es2:List Pt} (h:ez w S rs es) (h2:ez w S rs2 es2):ez w S (rs++rs2) (es++es2):=by
 have hl:=h.len;have eJ:=h2.len;refine⟨by simp [hl,eJ],fun i hi=>?_⟩;rw [List.length_append] at hi
 rcases Nat.lt_or_ge i es.length with h1|h1
 ·rw [ju _ _ _ _ h1,ju _ _ _ _ (by omega)];exact h.el i h1
 ·rw [aHe _ _ _ _ h1,aHe _ _ _ _ (by omega),hl];exact h2.el _ (by omega)
theorem dM.part {w:World} {S:Nat→Prop} {b o:Nat} {cs:List Value} (h:dM w S ⟨b,o,none⟩ cs) (i k:Nat):dM w S ⟨b,o+i,none⟩ ((cs.drop i).take k):=by
 refine⟨fun _=>rfl,fun bJ=>h.tO (fun e=>bJ (by rw [e];simp)),fun j u hu=>?_⟩;rw [List.getElem?_take] at hu
 split at hu
 ·rw [List.getElem?_drop] at hu
  have:=h.cell (i+j) u hu
  simpa [Nat.add_assoc] using this
 ·cases hu
def pH (n k:Nat):List Nat:=List.range k++List.replicate (n - k) 0
theorem a6E {n k:Nat} (h:k≤n):(pH n k).length=n:=by simp [pH];omega
theorem aNJ {n k:Nat} (h:k<n):(pH n k).set k k=pH n (k+1):=by
 unfold pH;rw [List.set_append_right _ _ (by simp),List.length_range,Nat.sub_self];have e:n - k=(n - (k+1))+1:=by omega
 rw [e,List.replicate_succ,List.set_cons_zero,List.range_succ,List.append_assoc]
 rfl
theorem aTR (n:Nat):mZ (pH n n)∧∀ u,u<n→rep (pH n n) u=u:=by
 have hn:∀ u,u<n→nth 0 (pH n n) u=u:=fun u hu=>by
  rw [bS _ _ _ (by rw [a6E (Nat.le_refl _)];exact hu)];unfold pH;rw [List.getElem_append_left (by simpa using hu)];simp
 have hF:mZ (pH n n):=⟨fun u hu=>by rw [a6E (Nat.le_refl _)] at hu;rw [hn u hu];exact Nat.le_refl _⟩;exact⟨hF,fun u hu=>th hF (by rw [a6E (Nat.le_refl _)];exact hu) (hn u hu)⟩
theorem aGB (L:List Nat) (i x:Nat):(zs L).set i ((x:Nat):Int)=zs (L.set i x):=by simp [zs]
def gT (es:List Ed):List (Nat × Nat):=es.map fun e=>(e.a,e.b)
theorem aEb {es:List Ed} {k:Nat} (h:k<es.length):nth (0,0) (gT es) k=((nth ah es k).a,(nth ah es k).b):=by
 rw [bS _ _ _ (by simp [gT];exact h),bS _ _ _ h];simp [gT]
theorem aWw {E:List (Nat × Nat)} {L:List Nat} {n k a b p q:Nat} (hF:mZ L) (hl:L.length=n) (hr:∀ u,u<n→rep L u=comp E k u) (he:nth (0,0) E k=(a,b)) (ha:a<n) (hb:b<n) (hp:p=max (comp E k a) (comp E k b)) (hq:q=min (comp E k a) (comp E k b)) :
 mZ (L.set p q)∧∀ u,u<n→rep (L.set p q) u=comp E (k+1) u:=by
 have h1:=hr a ha;have h2:=hr b hb;have la:=a3T hF (show a<L.length by omega);have lb:=a3T hF (show b<L.length by omega);have ra:=(a6i hF a (by omega)).2;have rb:=(a6i hF b (by omega)).2;have jP:p<L.length:=by rw [hp,← h1,← h2];omega
 have uJ:q<L.length:=by rw [hq,← h1,← h2];omega
 have hpr:nth 0 L p=p:=by
  rw [hp,← h1,← h2]
  rcases Nat.le_total (rep L a) (rep L b) with h|h
  ·rw [Nat.max_eq_right h];exact rb
  ·rw [Nat.max_eq_left h];exact ra
 have hqr:nth 0 L q=q:=by
  rw [hq,← h1,← h2]
  rcases Nat.le_total (rep L a) (rep L b) with h|h
  ·rw [Nat.min_eq_left h];exact ra
  ·rw [Nat.min_eq_right h];exact rb
 obtain⟨aQ,cT⟩:=aNR hF jP uJ hpr hqr (by omega);refine⟨aQ,fun u hu=>?_⟩;rw [cT u (by omega),hr u hu];show _=if comp E k u=max (comp E k (nth (0,0) E k).1) (comp E k (nth (0,0) E k).2) then min (comp E k (nth (0,0) E k).1) (comp E k (nth (0,0) E k).2) else comp E k u
 rw [he,hp,hq]
theorem aWB (a1 a2 a3 a4:Option Addr) (n1 c1 n2 c2 n c3 n4 c4:Nat) (rs:List ER) (es:List Ed) (w:World) (S:Nat→Prop) (hL:aP w S) (bh:bN w S 5 (.slice a4 n4 c4) es.length (rs.flatMap ec)) (dW:kP w S rs es) (hn:n≤65536) (gV:es.length≤400000) (bV:∀ e ∈ es,e.a<n∧e.b<n) :
 Calls prog 82 #[.agg #[.slice a1 n1 c1,.slice a2 n2 c2,.slice a3 n c3,.slice a4 n4 c4]] w fun e w'=>∃ g c,e=.returned (.slice (some ⟨g,0,none⟩) n c)∧aA w w' [.aH (Old w) w,.row (.slice (some ⟨g,0,none⟩) n c) 3 1 n (iv (zs (nK (gT es) n)))]:=by
 have j6:n4=es.length:=by obtain⟨h1,a,cap,h2,_⟩:=bh;cases h2;rfl
 subst j6;have bh:=bh.bj;have hS:=aA.start w
 go_enter func82,ntmps82
 go_wp2_with (first|(with_reducible first|refine cI (T:=34) (v:=.agg _) hS fun bx cu hS=>?_|refine aU 1 hS isAgg31 ?_)|((with_reducible refine r7 (T:=22) ?_);refine a9J (n:=n) (T:=22) (E:=3) hS underlying22 a0A rfl rfl (by omega) (by omega) (fun g wg hS=>?_);simp only [aD];simp only [aK] at hS)|(with_reducible first|refine bH hS zeroValue22 fun bo wbo hS=>?_|refine aJ (u:=.slice _ _ _) 3 hS sizeOf22 fun _ hS=>?_|refine aU 3 hS isAgg22 ?_))
 try try simp only [fA]
 have aLx:zs (pH n 0)=List.replicate n 0:=by simp [pH,zs]
 rw [← aLx] at hS;clear aLx
 go_loopw [17] (fun v17 wr=>∃ k:Nat,k≤n∧v17=.int .i64 (k:Int)∧aA w wr [.aH (Old w) w,.aB bx (.cells #[.slice a1 n1 c1,.slice a2 n2 c2,.slice a3 n c3,.slice a4 es.length c4] 34 (0,0)),.row (.slice (some ⟨g,0,none⟩) n n) 3 1 n (iv (zs (pH n k))),.aB bo (.cells #[.slice (some ⟨g,0,none⟩) n n] 22 (0,0))]) (fun v17 _=>n - (intOf v17).toNat)
 case atStart=>exact⟨0,by omega,rfl,hS⟩
 case round =>
  clear hS;obtain⟨k,hk,rfl,hS⟩:=hrel
  by_cases cW:k<n
  ·have cA:(zs (pH n k)).set k ((k:Nat):Int)=zs (pH n (k+1)):=by rw [aGB,aNJ cW]
   have xU:=a6E hk;replace cA:=Hd cA
   go_wp2_with (with_reducible first|refine aU 3 hS isAgg22 ?_|refine kW underlying22 sizeOf3 ?_|refine xS 2 hS sizeOf3 fun _ hS=>?_)
   go_roundw
   case rel=>exact⟨k+1,by omega,by simp,by rw [← cA.out];exact hS⟩
   case measure=>simp [intOf];omega
  ·obtain rfl:n=k:=by omega
   obtain⟨hF,hr⟩:=aTR n;have hl:=a6E (Nat.le_refl n);obtain⟨L,hLL⟩:∃ L,pH n n=L:=⟨_,rfl⟩;rw [hLL] at hF hr hl hS;clear hLL hk cW;replace hF:=Hd hF;replace hr:=Hd hr;replace hl:=Hd hl
   go_wp2_with (with_reducible first|refine bH hS zeroValue118 fun br fu hS=>?_|refine aJ (u:=.func _ _ _) 4 hS sizeOf118 fun _ hS=>?_|refine aU 1 hS isAgg32 ?_)
   have hS:=hS.order [0,1,3,4,2] rfl;simp only [iw] at hS
   try try simp only [fA]
   go_loopw [29] (fun v29 wr=>∃ (k:Nat) (L:List Nat),k≤es.length∧v29=.int .i64 (k:Int)∧Hid (mZ L)∧Hid (L.length=n)∧Hid (∀ u,u<n→rep L u=comp (gT es) k u)∧aA w wr [.aH (Old w) w,.aB bx (.cells #[.slice a1 n1 c1,.slice a2 n2 c2,.slice a3 n c3,.slice a4 es.length c4] 34 (0,0)),.aB bo (.cells #[.slice (some ⟨g,0,none⟩) n n] 22 (0,0)),.aB br (.cells #[.func (.func 127) #[] #[.pointer (some ⟨bo,0,none⟩),.pointer (some ⟨br,0,none⟩)]] 118 (0,0)),.row (.slice (some ⟨g,0,none⟩) n n) 3 1 n (iv (zs L))]) (fun v29 _=>es.length - (intOf v29).toNat)
   case atStart=>exact⟨0,L,by omega,rfl,hF,hl,hr,hS⟩
   case round =>
    clear hS;obtain⟨k,L,hk,rfl,hF,hl,hr,hS⟩:=hrel
    by_cases cW:k<es.length
    ·have hc:=eS sU jk (show k<rs.length by rw [dW.len];omega)
     have hE:=dW.el k cW;obtain⟨r,cT⟩:∃ r,nth jk rs k=r:=⟨_,rfl⟩;rw [cT] at hc hE;have aHN:=bV _ (cQ ah es k cW);have gq:=aEb cW;rw [← hE.a,← hE.b] at aHN gq;obtain⟨ha1,oY⟩:=aHN;obtain⟨x,hx⟩:∃ x,comp (gT es) k r.a=x:=⟨_,rfl⟩;obtain⟨y,hy⟩:∃ y,comp (gT es) k r.b=y:=⟨_,rfl⟩;replace hx:=Hd hx;replace hy:=Hd hy;replace gq:=Hd gq;clear hE cT;have hlL:=hl.out
     go_wp2_with (with_reducible first|refine iH underlying32 sizeOf101 bh hc fun bq oq bO=>?_|refine j9 hS isAgg101 sizeOf101 ?_|refine bH hS zeroValue101 fun b7 wb7 hS=>?_|refine aJ (u:=.agg #[_,_,_,_,_]) 5 hS sizeOf101 fun _ hS=>?_)
     have hS:=hS.order [0,1,5,2,3,4] rfl;simp only [iw] at hS;refine qR [.r 0,.p 1,.r 2,.r 4,.p 5,.r 6,.e 3,.e 7,.p 8,.p 9] [] (fun w'=>aA w w' [.aH (Old w) w,.aB bx (.cells #[.slice a1 n1 c1,.slice a2 n2 c2,.slice a3 n c3,.slice a4 es.length c4] 34 (0,0)),.aB b7 (.cells #[.int .i64 (r.a:Int),.int .i64 (r.b:Int),.slice r.ad r.n r.c,.int .i64 r.dir.x,.int .i64 r.dir.y] 101 (0,0)),.aB bo (.cells #[.slice (some ⟨g,0,none⟩) n n] 22 (0,0)),.aB br (.cells #[.func (.func 127) #[] #[.pointer (some ⟨bo,0,none⟩),.pointer (some ⟨br,0,none⟩)]] 118 (0,0))]) (fun w'=>aA w w' _) (by kernel_rfl) (by kernel_rfl) hS.drew (fun _ hZ=>aA.sub hZ (by repeat (first|exact List.Sublist.refl _|apply List.Sublist.cons_cons|apply List.Sublist.cons))) (fun w1 hS=>?_)
     repeat (with_reducible first|refine cZ 4 isAgg118 ?_|refine cZ 2 isAgg3 ?_|refine bU ?_)
     have hxL:rep L r.a=x:=by rw [hr.out r.a ha1];exact hx.out
     have hyL:rep L r.b=y:=by rw [hr.out r.b oY];exact hy.out
     replace hxL:=Hd hxL;replace hyL:=Hd hyL;refine aZ ?_
     go_wp2_with (fail)
     refine (aB8 g n n bo br r.a L _ _ hF.out hl.out ha1 (aA.split (A:=[_,_,_]) hS)).mono ?_;rintro e w' ⟨L1,he,cU,aG,kN,il,eX,kU⟩;rw [hxL.out] at he;subst he;have hS:=aA.su (A:=[_,_,_]) hS cU;simp only [aK] at hS;replace aG:=Hd aG;replace il:=Hd il;replace kN:=Hd kN;clear cU eX kU;simp only [];go_step;refine aX hS.sb ?_;refine aM ?_;refine aZ ?_
     go_wp2_with (fail)
     refine (aB8 g n n bo br r.b L1 _ _ aG.out (by rw [kN.out,hl.out]) oY (aA.split (A:=[_,_,_]) hS)).mono ?_;rintro e w' ⟨L2,he,cU,aQ,eJ,cT,fx,gW⟩;rw [il.out r.b (by omega),hyL.out] at he;subst he;have hS:=aA.su (A:=[_,_,_]) hS cU;simp only [aK] at hS;replace aQ:=Hd aQ;replace cT:=Hd cT;replace eJ:=Hd eJ;clear cU fx gW;simp only [];go_step;refine aX hS.sb ?_;refine aM ?_;refine bE ?_
     have oT:∀ u,u<n→rep L2 u=comp (gT es) k u:=fun u hu=>by
      rw [cT.out u (by rw [kN.out];omega),il.out u (by omega),hr.out u hu]
     have hlc:L2.length=n:=by rw [eJ.out,kN.out,hl.out]
     have fL:x<n:=by rw [← hx.out,← hr.out _ ha1];exact hlL ▸ a3T hF.out (by omega)
     have gY:y<n:=by rw [← hy.out,← hr.out _ oY];exact hlL ▸ a3T hF.out (by omega)
     have kV:=fun p q h1 h2=>aWw (p:=p) (q:=q) aQ.out hlc oT gq.out ha1 oY h1 h2
     rw [hx.out,hy.out] at kV;replace oT:=Hd oT;replace hlc:=Hd hlc;revert hS
     repeat (rename aA _ _ _=>hZ;clear hZ)
     repeat (rename dM _ _ _ _=>hZ;clear hZ)
     repeat (rename Below _ _ _=>hZ;clear hZ)
     intro hS;have cA:=kV (max x y) (min x y) rfl rfl;replace cA:=Hd cA
     have pj:(zs L2).set (max (x:Int) (y:Int)).toNat (min (x:Int) (y:Int))=zs (L2.set (max x y) (min x y)):=by
      rw [← aGB];congr 1 <;> omega
     replace pj:=Hd pj;clear kV
     go_wp2_with (with_reducible first|refine aU 3 hS isAgg22 ?_|refine kW underlying22 sizeOf3 ?_|refine xS 5 hS sizeOf3 fun _ hS=>?_)
     rw [pj.out] at hS;go_roundw
     case rel=>exact⟨k+1,L2.set (max x y) (min x y),by omega,by simp,cA.out.1,by show (L2.set (max x y) (min x y)).length=n;rw [List.length_set];exact hlc.out,cA.out.2,hS.sb⟩
     case measure=>simp [intOf];omega
    ·obtain rfl:es.length=k:=by omega
     obtain⟨C,hCC⟩:∃ C,comp (gT es) es.length=C:=⟨_,rfl⟩;rw [hCC] at hr;have kI:nK (gT es) n=(List.range n).map C:=by unfold nK;rw [← hCC];simp [gT]
     replace hCC:=Hd hCC;replace kI:=Hd kI;clear hk cW
     go_wp2_with (with_reducible refine aU 2 hS isAgg22 ?_)
     try try simp only [fA]
     go_loopw [52] (fun v52 wr=>∃ (k:Nat) (L:List Nat),k≤n∧v52=.int .i64 (k:Int)∧Hid (mZ L)∧Hid (L.length=n)∧Hid (∀ u,u<n→rep L u=C u)∧Hid (∀ u,u<k→nth 0 L u=C u)∧aA w wr [.aH (Old w) w,.aB bx (.cells #[.slice a1 n1 c1,.slice a2 n2 c2,.slice a3 n c3,.slice a4 es.length c4] 34 (0,0)),.aB bo (.cells #[.slice (some ⟨g,0,none⟩) n n] 22 (0,0)),.aB br (.cells #[.func (.func 127) #[] #[.pointer (some ⟨bo,0,none⟩),.pointer (some ⟨br,0,none⟩)]] 118 (0,0)),.row (.slice (some ⟨g,0,none⟩) n n) 3 1 n (iv (zs L))]) (fun v52 _=>n - (intOf v52).toNat)
     case atStart=>exact⟨0,L,by omega,rfl,hF,hl,hr,Hd (fun u hu=>by omega),hS⟩
     case round =>
      clear hS hF hl hr;obtain⟨k,L,hk,rfl,hF,hl,hr,hd,hS⟩:=hrel
      by_cases cW:k<n
      ·have hlL:=hl.out
       go_wp2_with (with_reducible refine aU 3 hS isAgg118 ?_)
       refine (aB8 g n n bo br k L _ _ hF.out hl.out cW (aA.split (A:=[_,_]) hS)).mono ?_;rintro e w' ⟨L1,he,cU,aG,kN,il,eX,kU⟩;subst he;have hS:=aA.su (A:=[_,_]) hS cU;simp only [aK] at hS;replace aG:=Hd aG;have cT:∀ u,u<n→rep L1 u=C u:=fun u hu=>by rw [il u (by omega),hr.out u hu]
       have fH:∀ u,u<k+1→nth 0 L1 u=C u:=fun u hu=>by
        by_cases e:u=k
        ·subst e;rw [kU,hr.out u cW]
        ·rcases eX u (by omega) with h|h
         ·rw [h,hd.out u (by omega)]
         ·rw [h,hr.out u (by omega)]
       have eJ:L1.length=n:=by rw [kN,hlL]
       replace cT:=Hd cT;replace fH:=Hd fH;replace eJ:=Hd eJ;clear cU kN il eX kU;simp only [];go_wp2;go_roundw
       case rel=>exact⟨k+1,L1,by omega,by simp,aG,eJ,cT,fH,hS⟩
       case measure=>simp [intOf];omega
      ·obtain rfl:n=k:=by omega
       have rp:L=(List.range n).map C:=by
        refine yP 0 (by rw [hl.out];simp) (fun i hi=>?_);rw [hl.out] at hi;rw [hd.out i hi,bS _ _ _ (by simpa using hi)];simp
       replace rp:=Hd rp
       go_wp2_with (with_reducible refine aU 2 hS isAgg22 ?_)
       go_ret;exact⟨g,n,rfl,by rw [kI.out,← rp.out];exact hS.sb⟩
def iN (V:List Pt) (es:List Ed) (e x:Nat):Int:=e8 (bT (nth au V (nth ah es e).a) (nth au V (nth ah es e).b) (nth au V x)) 0
def r6 (V:List Pt) (u v:Nat):Bool:=decide ((nth au V u).x≤(nth au V v).x)
structure kC (w:World) (S:Nat→Prop) (a3 a4:Option Addr) (n3 c3 n4 c4:Nat) (rs:List ER) (es:List Ed) (prs:List PR) (V:List Pt) (k:Nat):Prop where
 live:aP w S
 hE:bN w S 5 (.slice a4 n4 c4) es.length (rs.flatMap ec)
 jf:kP w S rs es
 hV:PL w S (.slice a3 n3 c3) prs V
 ab:∀ e ∈ es,e.a<V.length∧e.b<V.length
 bq:∀ p ∈ V,Bq k p.x∧Bq k p.y
 n3:n3=V.length
 n4:n4=es.length
theorem kC.at {w0 w wr:World} {H:List Chunk} {F S:Nat→Prop} {a3 a4:Option Addr} {n3 c3 n4 c4:Nat} {rs:List ER} {es:List Ed} {prs:List PR} {V:List Pt} {k:Nat} (h:kC wr S a3 a4 n3 c3 n4 c4 rs es prs V k) (hS:aA w0 w (.aH F wr::H)) (hF:∀ k,S k→F k):kC w S a3 a4 n3 c3 n4 c4 rs es prs V k :=
 ⟨aP.at hS hF,h.hE.move (hS.da hF),h.jf.at hS hF,h.hV.at hS hF,h.ab,h.bq,h.n3,h.n4⟩
theorem kC.move {w wr:World} {S:Nat→Prop} {a3 a4:Option Addr} {n3 c3 n4 c4:Nat} {rs:List ER} {es:List Ed} {prs:List PR} {V:List Pt} {k:Nat} (h:kC wr S a3 a4 n3 c3 n4 c4 rs es prs V k) (hL:aP w S) (hk:∀ k,S k→w.heap[k]? = wr.heap[k]?):kC w S a3 a4 n3 c3 n4 c4 rs es prs V k :=
 ⟨hL,h.hE.move hk,h.jf.move hk,⟨h.hV.sl.move hk,h.hV.ps.move hk⟩,h.ab,h.bq,h.n3,h.n4⟩
def dT:PR:=⟨⟨⟨false,none,0,0⟩,⟨false,none,0,0⟩⟩,⟨⟨false,none,0,0⟩,⟨false,none,0,0⟩⟩⟩
theorem eN.aIO (w:World) (S:Nat→Prop):eN w S ⟨⟨false,none,0,0⟩,⟨false,none,0,0⟩⟩ 0:=by
 refine⟨dR.zero w S,dR.zero w S,?_⟩;have h:=ua (l:=[1]) (by intro x hx;simp at hx;subst hx;rw [dc];decide) (by simp)
 simpa [val] using h
theorem aFL (bx:Nat) (a1 a2 a3 a4:Option Addr) (n1 c1 n2 c2 n3 c3 n4 c4:Nat) (rs:List ER) (es:List Ed) (prs:List PR) (V:List Pt) (k e x:Nat) (w:World) (S:Nat→Prop) (hb:dM w (Old w) ⟨bx,0,none⟩ [.slice a1 n1 c1,.slice a2 n2 c2,.slice a3 n3 c3,.slice a4 n4 c4]) (hA:kC w S a3 a4 n3 c3 n4 c4 rs es prs V k) (hk:8*k+8≤16384) (he:e<es.length) (hx:x<V.length) (gO:V.length≤1000000) (pw:es.length≤1000000) :
 Calls prog 129 #[.int .i64 (e:Int),.int .i64 (x:Int),.pointer (some ⟨bx,0,none⟩)] w fun en w'=>en=.returned (.int .i64 (iN V es e x))∧Pure w S w' S:=by
 have my:=hA.n3;have j6:=hA.n4;subst my j6;have hL:=hA.live;have bh:=hA.hE.bj;have dL:=hA.hV.sl.bj;have hE:=hA.jf.el e he;have bV:=hA.ab _ (cQ ah es e he);have dF:=eS sU jk (show e<rs.length by rw [hA.jf.len];omega);obtain⟨r,hr⟩:∃ r,nth jk rs e=r:=⟨_,rfl⟩;rw [hr] at dF hE;obtain⟨a,ha⟩:∃ a,(nth ah es e).a=a:=⟨_,rfl⟩;obtain⟨b,pB⟩:∃ b,(nth ah es e).b=b:=⟨_,rfl⟩;have hra:r.a=a:=hE.a.trans ha;have xw:r.b=b:=hE.b.trans pB;have fT:iN V es e x=e8 (bT (nth au V a) (nth au V b) (nth au V x)) 0:=by unfold iN;rw [ha,pB]
 rw [fT];rw [ha,pB] at bV;have aRU:((rs.flatMap ec).drop (e*5)).take 5=[.int .i64 (a:Int),.int .i64 (b:Int),.slice r.ad r.n r.c,.int .i64 r.dir.x,.int .i64 r.dir.y]:=by rw [dF,← hra,← xw];rfl
 have jP:prs.length=V.length:=hA.hV.ps.len;have cell:=fun i (hi:i<V.length)=>eS gF dT (show i<prs.length by omega)
 have pt:=fun i (hi:i<V.length)=>hA.hV.ps.el i hi
 have bq:=fun i (hi:i<V.length)=>hA.bq _ (cQ au V i hi)
 have ca:=cell a bV.1;have cb:=cell b bV.2;have cx:=cell x hx;have sd:=fun w' eM p1 p2 p3=>aFV (nth dT prs a) (nth dT prs b) (nth dT prs x) (nth au V a) (nth au V b) (nth au V x) k w' S p1 p2 p3 eM (bq a bV.1) (bq b bV.2) (bq x hx) hk
 have pa:dh w S (nth dT prs a) (nth au V a):=pt a bV.1;have pb:dh w S (nth dT prs b) (nth au V b):=pt b bV.2;have px:dh w S (nth dT prs x) (nth au V x):=pt x hx;obtain⟨A1,e1⟩:∃ q,nth dT prs a=q:=⟨_,rfl⟩;obtain⟨B1,e2⟩:∃ q,nth dT prs b=q:=⟨_,rfl⟩;obtain⟨X1,e3⟩:∃ q,nth dT prs x=q:=⟨_,rfl⟩;rw [e1] at ca sd pa;rw [e2] at cb sd pb;rw [e3] at cx sd px;obtain⟨R,hR⟩:∃ R,e8 (bT (nth au V a) (nth au V b) (nth au V x)) 0=R:=⟨_,rfl⟩;rw [hR];rw [hR] at sd;have ha1:=bV.1;have oY:=bV.2;clear hE dF hr ha pB hra xw fT bV cell pt bq e1 e2 e3 hR jP hA;obtain⟨hS,aC,bC,bD⟩:=eR hL
 go_enter func129,ntmps129
 go_wp2;refine dB [.p 0,.r 1,.p 2,.r 3,.p 4,.p 5,.p 6,.r 7,.p 8,.r 9,.p 10,.r 11,.p 12,.r 13,.p 14,.p 15,.p 16,.r 17,.p 18,.r 19,.p 20,.r 21,.p 22,.p 23,.r 24,.e 25,.p 26,.p 27,.p 28,.p 29,.p 30] [] hS fun w1 hS=>?_
 have hC:=hS
 repeat (first|((with_reducible refine l8 ?_);refine jh rfl rfl (gu (T:=31) 2 isAgg31 rfl hb (by simp) rfl ?_);simp only [aD])|((with_reducible refine l8 ?_);refine jh rfl rfl (gu (T:=32) 3 isAgg32 rfl hb (by simp) rfl ?_);simp only [aD])|(with_reducible first|refine e9 underlying32 sizeOf101 bh aRU fun bq oq bO=>?_|refine e9 underlying31 sizeOf56 dL ca fun bq oq bO=>?_|refine e9 underlying31 sizeOf56 dL cb fun bq oq bO=>?_|refine e9 underlying31 sizeOf56 dL cx fun bq oq bO=>?_|refine eY isAgg3 ?_|refine pU 1 isAgg3 ?_|refine qE isAgg56 sizeOf56 ?_|refine bU ?_))
 refine aZ ?_
 go_wp2_with (fail)
 refine (sd _ (aP.at hS aC) (pa.at hS aC) (pb.at hS aC) (px.at hS aC)).mono ?_;rintro e w' ⟨rfl,hq⟩;simp only [];go_step;have hS:=hS.below hq.below hq.drawn;have hC:=hC.below hq.below hq.drawn;refine aX hC ?_;refine aM ?_;refine bE ?_;go_wp2;go_ret;exact⟨rfl,hS.pure S⟩
theorem aSP (a b:Rat):(mW ⟨a,0⟩ ⟨b,0⟩≤0)↔a≤b:=by
 have h0:e8 (0:Rat) 0=0:=a6m.2 rfl;have h1:=@a6B a b;unfold mW;simp only [h0]
 split
 ·exact h1
 ·rename_i h
  have h2:e8 a b=0:=by omega
  constructor
  ·intro _;exact h1.1 (by omega)
  ·intro _;omega
theorem aF3 (bx:Nat) (a1 a2 a3 a4:Option Addr) (n1 c1 n2 c2 n3 c3 n4 c4:Nat) (rs:List ER) (es:List Ed) (prs:List PR) (V:List Pt) (k a b:Nat) (w:World) (S:Nat→Prop) (hb:dM w (Old w) ⟨bx,0,none⟩ [.slice a1 n1 c1,.slice a2 n2 c2,.slice a3 n3 c3,.slice a4 n4 c4]) (hA:kC w S a3 a4 n3 c3 n4 c4 rs es prs V k) (ha:a<V.length) (zb:b<V.length) (gO:V.length≤1000000) :
 Calls prog 130 #[.int .i64 (a:Int),.int .i64 (b:Int),.pointer (some ⟨bx,0,none⟩)] w fun en w'=>en=.returned (.bool (r6 V a b))∧Pure w S w' S:=by
 have my:=hA.n3;subst my;have hL:=hA.live;have dL:=hA.hV.sl.bj;have jP:prs.length=V.length:=hA.hV.ps.len;have cell:=fun i (hi:i<V.length)=>eS gF dT (show i<prs.length by omega)
 have pt:=fun i (hi:i<V.length)=>hA.hV.ps.el i hi
 have ca:=cell a ha;have cb:=cell b zb;have pa:dh w S (nth dT prs a) (nth au V a):=pt a ha;have pb:dh w S (nth dT prs b) (nth au V b):=pt b zb;obtain⟨A1,e1⟩:∃ q,nth dT prs a=q:=⟨_,rfl⟩;obtain⟨B1,e2⟩:∃ q,nth dT prs b=q:=⟨_,rfl⟩;rw [e1] at ca pa;rw [e2] at cb pb;have cm:=fun w' S eM p1 p2=>a3H ⟨A1.x,⟨⟨false,none,0,0⟩,⟨false,none,0,0⟩⟩⟩ ⟨B1.x,⟨⟨false,none,0,0⟩,⟨false,none,0,0⟩⟩⟩ ⟨(nth au V a).x,0⟩ ⟨(nth au V b).x,0⟩ w' S ⟨p1,eN.aIO _ _⟩ ⟨p2,eN.aIO _ _⟩ eM
 have hx:=aSP (nth au V a).x (nth au V b).x;obtain⟨R,hR⟩:∃ R,mW ⟨(nth au V a).x,0⟩ ⟨(nth au V b).x,0⟩=R:=⟨_,rfl⟩;rw [hR] at cm hx;have hxd:r6 V a b=decide (R≤0):=by unfold r6;simp only [hx]
 rw [hxd];have pax:=pa.x;have pbx:=pb.x;clear pa pb hxd hR hx e1 e2 cell pt jP hA;obtain⟨hS,aC,bC,bD⟩:=eR hL
 go_enter func130,ntmps130
 go_wp2;refine dB [.p 0,.r 1,.p 2,.p 3,.p 4,.r 5,.p 6,.p 7,.r 8,.p 9,.p 10,.p 11,.r 12,.p 13,.e 14,.p 15,.p 16] [] hS fun w1 hS=>?_
 have hC:=hS
 repeat (first|((with_reducible refine l8 ?_);refine jh rfl rfl (gu (T:=31) 2 isAgg31 rfl hb (by simp) rfl ?_);simp only [aD])|((with_reducible refine e9 underlying31 sizeOf56 dL ca fun bq oq bO=>?_);replace bO:dM _ _ ⟨bq,oq,none⟩ [.bool A1.x.num.neg,.slice A1.x.num.ad A1.x.num.n A1.x.num.cap,.bool A1.x.less.neg,.slice A1.x.less.ad A1.x.less.n A1.x.less.cap]:=bO.part 0 4)|((with_reducible refine e9 underlying31 sizeOf56 dL cb fun bq oq bO=>?_);replace bO:dM _ _ ⟨bq,oq,none⟩ [.bool B1.x.num.neg,.slice B1.x.num.ad B1.x.num.n B1.x.num.cap,.bool B1.x.less.neg,.slice B1.x.less.ad B1.x.less.n B1.x.less.cap]:=bO.part 0 4)|(with_reducible first|refine qE isAgg54 sizeOf54 ?_|refine bU ?_))
 refine aZ ?_
 go_wp2_with (fail)
 refine (cm _ S (aP.at hS aC) (pax.at hS aC) (pbx.at hS aC)).mono ?_;rintro e w' ⟨rfl,hq⟩;simp only [];go_step;have hS:=hS.below hq.below hq.drawn;have hC:=hC.below hq.below hq.drawn;refine aX hC ?_;refine aM ?_;refine bE ?_;go_wp2;go_ret;exact⟨rfl,hS.pure S⟩
def mr (V:List Pt) (es:List Ed) (e f:Nat):Bool :=
 if (nth ah es e).a<(nth ah es f).a then decide (iN V es e (nth ah es f).a<0) || (decide (iN V es e (nth ah es f).a=0) && decide (iN V es e (nth ah es f).b<0))
 else decide (0<iN V es f (nth ah es e).a) || (decide (iN V es f (nth ah es e).a=0) && decide (0<iN V es f (nth ah es e).b))
theorem dM.at {w0 w:World} {H:List Chunk} {ad:Addr} {cs:List Value} {w1:World} (h:dM w1 (Old w1) ad cs) (hS:aA w0 w H) (hm:Chunk.aH (Old w1) w1 ∈ H):dM w (Old w) ad cs:=by
 have h2:=h.later hS hm;refine⟨h2.spot,fun e=>?_,h2.cell⟩;have h3:=h.tO e;exact (hS.ok _ hm _ h3).1
theorem aWK (bx b5:Nat) (a1 a2 a3 a4:Option Addr) (n1 c1 n2 c2 n3 c3 n4 c4:Nat) (rs:List ER) (es:List Ed) (prs:List PR) (V:List Pt) (k e f:Nat) (w:World) (S:Nat→Prop) (hb:dM w (Old w) ⟨bx,0,none⟩ [.slice a1 n1 c1,.slice a2 n2 c2,.slice a3 n3 c3,.slice a4 n4 c4]) (tN:dM w (Old w) ⟨b5,0,none⟩ [.func (.func 129) #[] #[.pointer (some ⟨bx,0,none⟩)]]) (hA:kC w S a3 a4 n3 c3 n4 c4 rs es prs V k) (hk:8*k+8≤16384) (he:e<es.length) (hf:f<es.length) (gO:V.length≤1000000) (pw:es.length≤1000000) :
 Calls prog 131 #[.int .i64 (e:Int),.int .i64 (f:Int),.pointer (some ⟨bx,0,none⟩),.pointer (some ⟨b5,0,none⟩)] w fun en w'=>en=.returned (.bool (mr V es e f))∧Pure w S w' S:=by
 have my:=hA.n3;have j6:=hA.n4;subst my j6;have hL:=hA.live;have bh:=hA.hE.bj;have hE:=hA.jf.el e he;have hF:=hA.jf.el f hf;obtain⟨fv,fM⟩:=hA.ab _ (cQ ah es e he);obtain⟨qU,j7⟩:=hA.ab _ (cQ ah es f hf);have dF:=eS sU jk (show e<rs.length by rw [hA.jf.len];omega);have hcf:=eS sU jk (show f<rs.length by rw [hA.jf.len];omega);obtain⟨r,hr⟩:∃ r,nth jk rs e=r:=⟨_,rfl⟩;obtain⟨q,hq⟩:∃ q,nth jk rs f=q:=⟨_,rfl⟩;rw [hr] at dF hE;rw [hq] at hcf hF;have s1:=fun x (hx:x<V.length) w' S (hb:dM w' (Old w') ⟨bx,0,none⟩ [.slice a1 n1 c1,.slice a2 n2 c2,.slice a3 V.length c3,.slice a4 es.length c4]) hA=>aFL bx a1 a2 a3 a4 n1 c1 n2 c2 V.length c3 es.length c4 rs es prs V k e x w' S hb hA hk he hx gO pw
 have s2:=fun x (hx:x<V.length) w' S (hb:dM w' (Old w') ⟨bx,0,none⟩ [.slice a1 n1 c1,.slice a2 n2 c2,.slice a3 V.length c3,.slice a4 es.length c4]) hA=>aFL bx a1 a2 a3 a4 n1 c1 n2 c2 V.length c3 es.length c4 rs es prs V k f x w' S hb hA hk hf hx gO pw
 have u1:=s1 _ qU;have u2:=s1 _ j7;have v1:=s2 _ fv;have v2:=s2 _ fM;obtain⟨R,hR⟩:∃ R,mr V es e f=R:=⟨_,rfl⟩;rw [hR];unfold mr at hR;rw [← hE.a] at fv hR v1;rw [← hE.b] at fM hR v2;rw [← hF.a] at qU hR u1;rw [← hF.b] at j7 hR u2;obtain⟨x1,pO⟩:∃ x,iN V es e q.a=x:=⟨_,rfl⟩;obtain⟨x2,uz⟩:∃ x,iN V es e q.b=x:=⟨_,rfl⟩;obtain⟨y1,wE⟩:∃ x,iN V es f r.a=x:=⟨_,rfl⟩;obtain⟨y2,tT⟩:∃ x,iN V es f r.b=x:=⟨_,rfl⟩;rw [pO] at u1 hR;rw [uz] at u2 hR;rw [wE] at v1 hR;rw [tT] at v2 hR;clear s1 s2 hE hF hr hq pO uz wE tT;obtain⟨hS,aC,bC,bD⟩:=eR hL
 go_enter func131,ntmps131
 go_wp2;refine kQ 1 [.p 0,.r 1,.p 2,.p 3,.p 4,.r 5,.p 6,.r 7,.p 8,.p 9,.p 10,.r 11,.p 12,.p 13,.r 14,.p 15,.p 16,.p 17,.r 18,.p 19,.r 20,.p 21,.p 22,.p 23,.r 24,.p 25] [.e 28,.e 29] [] [eU 26 7 213 (.agg #[.int .i64 0,.int .i64 0]),eU 27 8 213 (.agg #[.int .i64 0,.int .i64 0])] w _ (by kernel_rfl) (by kernel_rfl) (a0n rfl zeroValue213 rfl zeroValue213 (by decide) (by decide)) hS.drew ?_;obtain⟨aI,aT⟩:=hS.jw
 repeat (first|((with_reducible refine tg ?_);refine qF rfl rfl (gu (T:=32) 3 isAgg32 rfl hb (by simp) rfl ?_);simp only [aD])|((with_reducible refine zu ?_);refine zn rfl rfl (lI (T:=32) underlying32 sizeOf101 rfl rfl bh (by omega) (by omega) (by omega) (fun bq oq bO=>?_));simp only [Int.toNat_natCast] at bO;rw [dF] at bO;simp only [aD])|((with_reducible refine zu ?_);refine zn rfl rfl (lI (T:=32) underlying32 sizeOf101 rfl rfl bh (by omega) (by omega) (by omega) (fun bq oq bO=>?_));simp only [Int.toNat_natCast] at bO;rw [hcf] at bO;simp only [aD])|((with_reducible refine tg ?_);refine qF rfl rfl (a6w (T:=3) isAgg3 rfl (by with_reducible assumption) (by simp) rfl ?_);simp only [aD])|((with_reducible refine tg ?_);refine qF rfl rfl (gu (T:=3) 1 isAgg3 rfl (by with_reducible assumption) (by simp) rfl ?_);simp only [aD])|(with_reducible refine lF ?_))
 refine a0H (fun b7 b8 wB hS=>?_);simp only [aK] at hS;simp only [aD];refine aZ ?_
 (with_reducible refine aJ 1 hS sizeOf213 fun _ hS=>?_)
 refine aX (aA.gA hS.sb aI aT) ?_;refine aM ?_;refine aZ ?_
 (with_reducible refine aJ 2 hS sizeOf213 fun _ hS=>?_)
 refine aX (aA.gA hS.sb aI aT) ?_;refine aM ?_;refine bE ?_;clear aI aT dF hcf;have hm:Chunk.aH (Old w) w ∈ [Chunk.aH (Old w) w]:=by simp
 by_cases bV:r.a<q.a
 ·have d1:decide ((r.a:Int)<(q.a:Int))=true:=by simp;omega
  rw [if_pos bV] at hR
  by_cases z1:x1<0
  ·have d2:decide (x1<0)=true:=by simpa using z1
   have o9:R=true:=by rw [← hR];simp [z1]
   subst o9;clear hR
   go_wp2_with (first|(with_reducible first|refine aU 1 hS isAgg3 ?_|refine aU 2 hS isAgg3 ?_)|((with_reducible refine dq (T:=27) ?_);refine dI hS rfl (gu (T:=27) 0 isAgg27 rfl tN (by simp) rfl ?_);simp only [aD]))
   refine (u1 _ S (hb.at hS (by simp)) (hA.at hS aC)).mono ?_;rintro e w5 ⟨rfl,hq⟩;have hS:=hS.below hq.below hq.drawn;simp only [];go_wp2;go_ret;exact⟨rfl,hS.pure S⟩
  ·have d2:decide (x1<0)=false:=by simpa using z1
   by_cases z2:x1=0
   ·have o9:R=decide (x2<0):=by rw [← hR];simp [z2]
    subst o9;subst z2;clear hR z1
    go_wp2_with (first|(with_reducible first|refine aU 1 hS isAgg3 ?_|refine aU 2 hS isAgg3 ?_)|((with_reducible refine dq (T:=27) ?_);refine dI hS rfl (gu (T:=27) 0 isAgg27 rfl tN (by simp) rfl ?_);simp only [aD]))
    refine (u1 _ S (hb.at hS (by simp)) (hA.at hS aC)).mono ?_;rintro e w5 ⟨rfl,hq⟩;have hS:=hS.below hq.below hq.drawn;simp only []
    go_wp2_with (first|(with_reducible refine aU 2 hS isAgg3 ?_)|((with_reducible refine dq (T:=27) ?_);refine dI hS rfl (gu (T:=27) 0 isAgg27 rfl tN (by simp) rfl ?_);simp only [aD]))
    refine (u1 _ S (hb.at hS (by simp)) (hA.at hS aC)).mono ?_;rintro e w5 ⟨rfl,hq⟩;have hS:=hS.below hq.below hq.drawn;simp only []
    go_wp2_with (first|(with_reducible refine aU 2 hS isAgg3 ?_)|((with_reducible refine dq (T:=27) ?_);refine dI hS rfl (gu (T:=27) 0 isAgg27 rfl tN (by simp) rfl ?_);simp only [aD]))
    refine (u2 _ S (hb.at hS (by simp)) (hA.at hS aC)).mono ?_;rintro e w5 ⟨rfl,hq⟩;have hS:=hS.below hq.below hq.drawn;simp only [];go_wp2;go_ret;exact⟨rfl,hS.pure S⟩
   ·have d3:(x1 == 0)=false:=by simpa using z2
    have o9:R=false:=by rw [← hR];simp [z1,z2]
    subst o9;clear hR
    go_wp2_with (first|(with_reducible first|refine aU 1 hS isAgg3 ?_|refine aU 2 hS isAgg3 ?_)|((with_reducible refine dq (T:=27) ?_);refine dI hS rfl (gu (T:=27) 0 isAgg27 rfl tN (by simp) rfl ?_);simp only [aD]))
    refine (u1 _ S (hb.at hS (by simp)) (hA.at hS aC)).mono ?_;rintro e w5 ⟨rfl,hq⟩;have hS:=hS.below hq.below hq.drawn;simp only []
    go_wp2_with (first|(with_reducible refine aU 2 hS isAgg3 ?_)|((with_reducible refine dq (T:=27) ?_);refine dI hS rfl (gu (T:=27) 0 isAgg27 rfl tN (by simp) rfl ?_);simp only [aD]))
    refine (u1 _ S (hb.at hS (by simp)) (hA.at hS aC)).mono ?_;rintro e w5 ⟨rfl,hq⟩;have hS:=hS.below hq.below hq.drawn;simp only [];go_wp2;go_ret;exact⟨rfl,hS.pure S⟩
 ·have d1:decide ((r.a:Int)<(q.a:Int))=false:=by simp;omega
  rw [if_neg bV] at hR
  by_cases z1:0<y1
  ·have d2:decide (0<y1)=true:=by simpa using z1
   have o9:R=true:=by rw [← hR];simp [z1]
   subst o9;clear hR
   go_wp2_with (first|(with_reducible first|refine aU 1 hS isAgg3 ?_|refine aU 2 hS isAgg3 ?_)|((with_reducible refine dq (T:=27) ?_);refine dI hS rfl (gu (T:=27) 0 isAgg27 rfl tN (by simp) rfl ?_);simp only [aD]))
   refine (v1 _ S (hb.at hS (by simp)) (hA.at hS aC)).mono ?_;rintro e w5 ⟨rfl,hq⟩;have hS:=hS.below hq.below hq.drawn;simp only [];go_wp2;go_ret;exact⟨rfl,hS.pure S⟩
  ·have d2:decide (0<y1)=false:=by simpa using z1
   by_cases z2:y1=0
   ·have o9:R=decide (0<y2):=by rw [← hR];simp [z2]
    subst o9;subst z2;clear hR z1
    go_wp2_with (first|(with_reducible first|refine aU 1 hS isAgg3 ?_|refine aU 2 hS isAgg3 ?_)|((with_reducible refine dq (T:=27) ?_);refine dI hS rfl (gu (T:=27) 0 isAgg27 rfl tN (by simp) rfl ?_);simp only [aD]))
    refine (v1 _ S (hb.at hS (by simp)) (hA.at hS aC)).mono ?_;rintro e w5 ⟨rfl,hq⟩;have hS:=hS.below hq.below hq.drawn;simp only []
    go_wp2_with (first|(with_reducible refine aU 1 hS isAgg3 ?_)|((with_reducible refine dq (T:=27) ?_);refine dI hS rfl (gu (T:=27) 0 isAgg27 rfl tN (by simp) rfl ?_);simp only [aD]))
    refine (v2 _ S (hb.at hS (by simp)) (hA.at hS aC)).mono ?_;rintro e w5 ⟨rfl,hq⟩;have hS:=hS.below hq.below hq.drawn;simp only [];go_wp2;go_ret;exact⟨rfl,hS.pure S⟩
   ·have d3:(y1 == 0)=false:=by simpa using z2
    have o9:R=false:=by rw [← hR];simp [z1,z2]
    subst o9;clear hR
    go_wp2_with (first|(with_reducible first|refine aU 1 hS isAgg3 ?_|refine aU 2 hS isAgg3 ?_)|((with_reducible refine dq (T:=27) ?_);refine dI hS rfl (gu (T:=27) 0 isAgg27 rfl tN (by simp) rfl ?_);simp only [aD]))
    refine (v1 _ S (hb.at hS (by simp)) (hA.at hS aC)).mono ?_;rintro e w5 ⟨rfl,hq⟩;have hS:=hS.below hq.below hq.drawn;simp only [];go_wp2;go_ret;exact⟨rfl,hS.pure S⟩
def nM (V:List Pt) (es:List Ed) (v e:Nat):Bool :=
 decide ((nth ah es e).a=v) || decide ((nth ah es e).b=v) || !r6 V (nth ah es e).a v || r6 V (nth ah es e).b v || decide (iN V es e v≤0)
def fR (V:List Pt) (es:List Ed) (v:Nat):Nat→Int
 | 0=>-1
 | k+1=>if nM V es v k then fR V es v k else if fR V es v k<0 then (k:Int) else if mr V es k (fR V es v k).toNat then (k:Int) else fR V es v k
theorem a9h (V:List Pt) (es:List Ed) (v:Nat):∀ k,-1≤fR V es v k∧fR V es v k<(k:Int)
 | 0=>by unfold fR;omega
 | k+1=>by
  have:=a9h V es v k;unfold fR
  split
  ·omega
  ·split
   ·omega
   ·split <;> omega
theorem aA.kT {w0 w:World} {H:List Chunk} {b:Nat} {arr:Array Value} {T:TypeId} (hS:aA w0 w H) (j:Nat) (hj:H[j]? = some (.aB b (.cells arr T (0,0)))):dM w (Old w) ⟨b,0,none⟩ arr.toList:=by
 have hb:=hS.aB (bW hj);refine⟨fun _=>rfl,fun _=>(Array.getElem?_eq_some_iff.1 hb).1,fun q u hu=>?_⟩;have h1:w.cell? ⟨b,q,none⟩=some u:=by rw [cell_of_row w b q _ T (0,0) hb];simpa using hu
 simpa using h1
theorem aUB (a1 a2 a3 a4:Option Addr) (n1 c1 n2 c2 n3 c3 n4 c4:Nat) (rs:List ER) (es:List Ed) (prs:List PR) (V:List Pt) (m v:Nat) (w:World) (S:Nat→Prop) (hA:kC w S a3 a4 n3 c3 n4 c4 rs es prs V m) (hm:8*m+8≤16384) (hv:v<V.length) (gO:V.length≤1000000) (pw:es.length≤1000000) :
 Calls prog 85 #[.agg #[.slice a1 n1 c1,.slice a2 n2 c2,.slice a3 n3 c3,.slice a4 n4 c4],.int .i64 (v:Int)] w fun en w'=>en=.returned (.int .i64 (fR V es v es.length))∧Pure w S w' S:=by
 have my:=hA.n3;have j6:=hA.n4;subst my j6;have hL:=hA.live;have bh:=hA.hE.weaken hL;replace bh:bN w (Old w) 5 (.slice a4 es.length c4) es.length (rs.flatMap ec):=bh;obtain⟨hS,aC,bC,bD⟩:=eR hL
 go_enter func85,ntmps85
 go_wp2_with (with_reducible first|refine cI hS fun bx cu hS=>?_|refine bH hS zeroValue27 fun b5 wb5 hS=>?_|refine aJ 2 hS sizeOf27 fun _ hS=>?_|refine aU 1 hS isAgg32 ?_)
 try try simp only [fA]
 go_loopw [8,17] (fun v8 v17 wr=>∃ k:Nat,k≤es.length∧v17=.int .i64 (k:Int)∧v8=.int .i64 (fR V es v k)∧aA w wr [.aH (Old w) w,.aB bx (.cells #[.slice a1 n1 c1,.slice a2 n2 c2,.slice a3 V.length c3,.slice a4 es.length c4] 34 (0,0)),.aB b5 (.cells #[.func (.func 129) #[] #[.pointer (some ⟨bx,0,none⟩)]] 27 (0,0))]) (fun _ v17 _=>es.length - (intOf v17).toNat)
 case atStart=>exact⟨0,by omega,rfl,rfl,hS⟩
 case round =>
  clear hS;obtain⟨k,hk,rfl,rfl,hS⟩:=hrel;have dH:fR V es v (k+1)=if nM V es v k then fR V es v k else if fR V es v k<0 then (k:Int) else if mr V es k (fR V es v k).toNat then (k:Int) else fR V es v k:=rfl
  have oB:=a9h V es v k;obtain⟨B,hB⟩:∃ B,fR V es v k=B:=⟨_,rfl⟩;rw [hB] at dH oB;rw [hB]
  by_cases cW:k<es.length
  ·have hc:=eS sU jk (show k<rs.length by rw [hA.jf.len];omega)
   have hE:=hA.jf.el k cW;have bV:=hA.ab _ (cQ ah es k cW);obtain⟨r,hr⟩:∃ r,nth jk rs k=r:=⟨_,rfl⟩;rw [hr] at hc hE;unfold nM at dH;rw [← hE.a,← hE.b] at dH bV;replace hc:((rs.flatMap ec).drop (k*5)).take 5=[.int .i64 (r.a:Int),.int .i64 (r.b:Int),.slice r.ad r.n r.c,.int .i64 r.dir.x,.int .i64 r.dir.y]:=hc;have x1:=fun w' S' h1 h2=>aF3 bx a1 a2 a3 a4 n1 c1 n2 c2 V.length c3 es.length c4 rs es prs V m r.a v w' S' h1 h2 bV.1 hv gO
   have x2:=fun w' S' h1 h2=>aF3 bx a1 a2 a3 a4 n1 c1 n2 c2 V.length c3 es.length c4 rs es prs V m r.b v w' S' h1 h2 bV.2 hv gO
   have x3:=fun w' S' h1 h2=>aFL bx a1 a2 a3 a4 n1 c1 n2 c2 V.length c3 es.length c4 rs es prs V m k v w' S' h1 h2 hm cW hv gO pw
   have x4:=fun (b:Nat) (hb:b<es.length) w' S' h1 h2 h3=>aWK bx b5 a1 a2 a3 a4 n1 c1 n2 c2 V.length c3 es.length c4 rs es prs V m k b w' S' h1 h2 h3 hm cW hb gO pw
   obtain⟨X1,e1⟩:∃ X,r6 V r.a v=X:=⟨_,rfl⟩;obtain⟨X2,e2⟩:∃ X,r6 V r.b v=X:=⟨_,rfl⟩;obtain⟨X3,e3⟩:∃ X,iN V es k v=X:=⟨_,rfl⟩;simp only [e1] at x1;simp only [e2] at x2;simp only [e3] at x3;rw [e1,e2,e3] at dH;clear e1 e2 e3 hE hr bV
   by_cases q1:r.a=v
   ·have d1:((r.a:Int) == (v:Int))=true:=by simp [q1]
    rw [if_pos (by simp [q1])] at dH;replace dH:=Hd dH;replace hB:=Hd hB;clear q1 x1 x2 x3 x4;go_wp2;refine dB [.p 0,.r 1,.p 2,.p 3,.p 4,.r 5,.p 6,.r 7,.p 8,.p 9,.p 10,.r 11,.p 12,.e 13,.m 14] [14] hS fun w1 hS=>?_
    repeat (with_reducible first|refine cZ 1 isAgg32 ?_|refine e9 underlying32 sizeOf101 bh hc fun bq oq bO=>?_|refine eY isAgg3 ?_|refine pU 1 isAgg3 ?_|refine bU ?_)
    refine aZ ?_
    (with_reducible refine bH hS zeroValue213 fun fo qM hS=>?_)
    refine aX hS.sb ?_;refine aM ?_;refine dC ?_
    (with_reducible refine aJ 3 hS sizeOf213 fun _ hS=>?_)
    refine dD ?_;refine bE ?_;clear hc bO
    go_wp2_with (with_reducible refine aU 3 hS isAgg3 ?_)
    go_roundw
    case rel=>exact⟨k+1,by omega,by simp,by rw [dH.out],hS.sb⟩
    case measure=>simp [intOf];omega
   ·have d1:((r.a:Int) == (v:Int))=false:=by simp;omega
    by_cases q2:r.b=v
    ·have d2:((r.b:Int) == (v:Int))=true:=by simp [q2]
     rw [if_pos (by simp [q2])] at dH;replace dH:=Hd dH;replace hB:=Hd hB;clear q1 q2 x1 x2 x3 x4;go_wp2;refine dB [.p 0,.r 1,.p 2,.p 3,.p 4,.r 5,.p 6,.r 7,.p 8,.p 9,.p 10,.r 11,.p 12,.e 13,.m 14] [14] hS fun w1 hS=>?_
     repeat (with_reducible first|refine cZ 1 isAgg32 ?_|refine e9 underlying32 sizeOf101 bh hc fun bq oq bO=>?_|refine eY isAgg3 ?_|refine pU 1 isAgg3 ?_|refine bU ?_)
     refine aZ ?_
     (with_reducible refine bH hS zeroValue213 fun fo qM hS=>?_)
     refine aX hS.sb ?_;refine aM ?_;refine dC ?_
     (with_reducible refine aJ 3 hS sizeOf213 fun _ hS=>?_)
     refine dD ?_;refine bE ?_;clear hc bO
     go_wp2_with (with_reducible refine aU 3 hS isAgg3 ?_)
     go_roundw
     case rel=>exact⟨k+1,by omega,by simp,by rw [dH.out],hS.sb⟩
     case measure=>simp [intOf];omega
    ·have d2:((r.b:Int) == (v:Int))=false:=by simp;omega
     cases X1 with
     | false =>
      rw [if_pos (by simp)] at dH;replace dH:=Hd dH;replace hB:=Hd hB;clear q1 q2 x2 x3 x4;go_wp2;refine dB [.p 0,.r 1,.p 2,.p 3,.p 4,.r 5,.p 6,.r 7,.p 8,.p 9,.p 10,.r 11,.p 12,.e 13,.m 14] [14] hS fun w1 hS=>?_
      repeat (with_reducible first|refine cZ 1 isAgg32 ?_|refine e9 underlying32 sizeOf101 bh hc fun bq oq bO=>?_|refine eY isAgg3 ?_|refine pU 1 isAgg3 ?_|refine bU ?_)
      refine aZ ?_
      (with_reducible refine bH hS zeroValue213 fun fo qM hS=>?_)
      refine aX hS.sb ?_;refine aM ?_;refine dC ?_
      (with_reducible refine aJ 3 hS sizeOf213 fun _ hS=>?_)
      refine dD ?_;refine bE ?_;clear hc bO
      go_wp2_with (with_reducible refine aU 3 hS isAgg3 ?_)
      refine (x1 _ S (hS.kT 1 rfl) (hA.at hS aC)).mono ?_;rintro e w5 ⟨rfl,hq⟩;have hS:=hS.below hq.below hq.drawn;simp only []
      go_wp2_with (with_reducible first|refine aU 3 hS isAgg3 ?_|refine aU 2 hS isAgg27 ?_)
      go_roundw
      case rel=>exact⟨k+1,by omega,by simp,by rw [dH.out],hS.sb⟩
      case measure=>simp [intOf];omega
     | true =>
      cases X2 with
      | true =>
       rw [if_pos (by simp)] at dH;replace dH:=Hd dH;replace hB:=Hd hB;clear q1 q2 x3 x4;go_wp2;refine dB [.p 0,.r 1,.p 2,.p 3,.p 4,.r 5,.p 6,.r 7,.p 8,.p 9,.p 10,.r 11,.p 12,.e 13,.m 14] [14] hS fun w1 hS=>?_
       repeat (with_reducible first|refine cZ 1 isAgg32 ?_|refine e9 underlying32 sizeOf101 bh hc fun bq oq bO=>?_|refine eY isAgg3 ?_|refine pU 1 isAgg3 ?_|refine bU ?_)
       refine aZ ?_
       (with_reducible refine bH hS zeroValue213 fun fo qM hS=>?_)
       refine aX hS.sb ?_;refine aM ?_;refine dC ?_
       (with_reducible refine aJ 3 hS sizeOf213 fun _ hS=>?_)
       refine dD ?_;refine bE ?_;clear hc bO
       go_wp2_with (with_reducible refine aU 3 hS isAgg3 ?_)
       refine (x1 _ S (hS.kT 1 rfl) (hA.at hS aC)).mono ?_;rintro e w5 ⟨rfl,hq⟩;have hS:=hS.below hq.below hq.drawn;simp only []
       go_wp2_with (with_reducible refine aU 3 hS isAgg3 ?_)
       refine (x2 _ S (hS.kT 1 rfl) (hA.at hS aC)).mono ?_;rintro e w5 ⟨rfl,hq⟩;have hS:=hS.below hq.below hq.drawn;simp only []
       go_wp2_with (with_reducible first|refine aU 3 hS isAgg3 ?_|refine aU 2 hS isAgg27 ?_)
       go_roundw
       case rel=>exact⟨k+1,by omega,by simp,by rw [dH.out],hS.sb⟩
       case measure=>simp [intOf];omega
      | false =>
       by_cases q3:X3≤0
       ·have d3:decide (X3≤0)=true:=by simpa using q3
        rw [if_pos (by simp [q3])] at dH;replace dH:=Hd dH;replace hB:=Hd hB;clear q1 q2 q3 x4;go_wp2;refine dB [.p 0,.r 1,.p 2,.p 3,.p 4,.r 5,.p 6,.r 7,.p 8,.p 9,.p 10,.r 11,.p 12,.e 13,.m 14] [14] hS fun w1 hS=>?_
        repeat (with_reducible first|refine cZ 1 isAgg32 ?_|refine e9 underlying32 sizeOf101 bh hc fun bq oq bO=>?_|refine eY isAgg3 ?_|refine pU 1 isAgg3 ?_|refine bU ?_)
        refine aZ ?_
        (with_reducible refine bH hS zeroValue213 fun fo qM hS=>?_)
        refine aX hS.sb ?_;refine aM ?_;refine dC ?_
        (with_reducible refine aJ 3 hS sizeOf213 fun _ hS=>?_)
        refine dD ?_;refine bE ?_;clear hc bO
        go_wp2_with (with_reducible refine aU 3 hS isAgg3 ?_)
        refine (x1 _ S (hS.kT 1 rfl) (hA.at hS aC)).mono ?_;rintro e w5 ⟨rfl,hq⟩;have hS:=hS.below hq.below hq.drawn;simp only []
        go_wp2_with (with_reducible refine aU 3 hS isAgg3 ?_)
        refine (x2 _ S (hS.kT 1 rfl) (hA.at hS aC)).mono ?_;rintro e w5 ⟨rfl,hq⟩;have hS:=hS.below hq.below hq.drawn;simp only []
        go_wp2_with (with_reducible refine aU 2 hS isAgg27 ?_)
        refine (x3 _ S (hS.kT 1 rfl) (hA.at hS aC)).mono ?_;rintro e w5 ⟨rfl,hq⟩;have hS:=hS.below hq.below hq.drawn;simp only []
        go_wp2_with (with_reducible first|refine aU 3 hS isAgg3 ?_|refine aU 2 hS isAgg27 ?_)
        go_roundw
        case rel=>exact⟨k+1,by omega,by simp,by rw [dH.out],hS.sb⟩
        case measure=>simp [intOf];omega
       ·have d3:decide (X3≤0)=false:=by simpa using q3
        rw [if_neg (by simp [q1,q2,q3])] at dH
        by_cases q4:B<0
        ·have d4:decide (B<0)=true:=by simpa using q4
         rw [if_pos q4] at dH;replace dH:=Hd dH;replace hB:=Hd hB;clear q1 q2 q3 x4;go_wp2;refine dB [.p 0,.r 1,.p 2,.p 3,.p 4,.r 5,.p 6,.r 7,.p 8,.p 9,.p 10,.r 11,.p 12,.e 13,.m 14] [14] hS fun w1 hS=>?_
         repeat (with_reducible first|refine cZ 1 isAgg32 ?_|refine e9 underlying32 sizeOf101 bh hc fun bq oq bO=>?_|refine eY isAgg3 ?_|refine pU 1 isAgg3 ?_|refine bU ?_)
         refine aZ ?_
         (with_reducible refine bH hS zeroValue213 fun fo qM hS=>?_)
         refine aX hS.sb ?_;refine aM ?_;refine dC ?_
         (with_reducible refine aJ 3 hS sizeOf213 fun _ hS=>?_)
         refine dD ?_;refine bE ?_;clear hc bO
         go_wp2_with (with_reducible refine aU 3 hS isAgg3 ?_)
         refine (x1 _ S (hS.kT 1 rfl) (hA.at hS aC)).mono ?_;rintro e w5 ⟨rfl,hq⟩;have hS:=hS.below hq.below hq.drawn;simp only []
         go_wp2_with (with_reducible refine aU 3 hS isAgg3 ?_)
         refine (x2 _ S (hS.kT 1 rfl) (hA.at hS aC)).mono ?_;rintro e w5 ⟨rfl,hq⟩;have hS:=hS.below hq.below hq.drawn;simp only []
         go_wp2_with (with_reducible refine aU 2 hS isAgg27 ?_)
         refine (x3 _ S (hS.kT 1 rfl) (hA.at hS aC)).mono ?_;rintro e w5 ⟨rfl,hq⟩;have hS:=hS.below hq.below hq.drawn;simp only []
         go_wp2_with (with_reducible first|refine aU 3 hS isAgg3 ?_|refine aU 2 hS isAgg27 ?_)
         go_roundw
         case rel=>exact⟨k+1,by omega,by simp,by rw [dH.out],hS.sb⟩
         case measure=>simp [intOf];omega
        ·obtain⟨b,hb⟩:∃ b:Nat,B=(b:Int):=⟨B.toNat,by omega⟩
         subst hb;have d4:decide ((b:Int)<0)=false:=by simp
         rw [if_neg q4,Int.toNat_natCast] at dH;have x5:=x4 b (by omega);obtain⟨X4,e4⟩:∃ X,mr V es k b=X:=⟨_,rfl⟩;simp only [e4] at x5;rw [e4] at dH;cases X4 with
         | true =>
          rw [if_pos rfl] at dH;replace dH:=Hd dH;replace hB:=Hd hB;replace e4:=Hd e4;clear q1 q2 q3 q4 x4;go_wp2;refine dB [.p 0,.r 1,.p 2,.p 3,.p 4,.r 5,.p 6,.r 7,.p 8,.p 9,.p 10,.r 11,.p 12,.e 13,.m 14] [14] hS fun w1 hS=>?_
          repeat (with_reducible first|refine cZ 1 isAgg32 ?_|refine e9 underlying32 sizeOf101 bh hc fun bq oq bO=>?_|refine eY isAgg3 ?_|refine pU 1 isAgg3 ?_|refine bU ?_)
          refine aZ ?_
          (with_reducible refine bH hS zeroValue213 fun fo qM hS=>?_)
          refine aX hS.sb ?_;refine aM ?_;refine dC ?_
          (with_reducible refine aJ 3 hS sizeOf213 fun _ hS=>?_)
          refine dD ?_;refine bE ?_;clear hc bO
          go_wp2_with (with_reducible refine aU 3 hS isAgg3 ?_)
          refine (x1 _ S (hS.kT 1 rfl) (hA.at hS aC)).mono ?_;rintro e w5 ⟨rfl,hq⟩;have hS:=hS.below hq.below hq.drawn;simp only []
          go_wp2_with (with_reducible refine aU 3 hS isAgg3 ?_)
          refine (x2 _ S (hS.kT 1 rfl) (hA.at hS aC)).mono ?_;rintro e w5 ⟨rfl,hq⟩;have hS:=hS.below hq.below hq.drawn;simp only []
          go_wp2_with (with_reducible refine aU 2 hS isAgg27 ?_)
          refine (x3 _ S (hS.kT 1 rfl) (hA.at hS aC)).mono ?_;rintro e w5 ⟨rfl,hq⟩;have hS:=hS.below hq.below hq.drawn;simp only []
          go_wp2_with (with_reducible first|refine aU 3 hS isAgg3 ?_|refine aU 2 hS isAgg27 ?_)
          refine (x5 _ S (hS.kT 1 rfl) (hS.kT 2 rfl) (hA.at hS aC)).mono ?_;rintro e w5 ⟨rfl,hq⟩;have hS:=hS.below hq.below hq.drawn;simp only []
          go_wp2_with (with_reducible first|refine aU 3 hS isAgg3 ?_|refine aU 2 hS isAgg27 ?_)
          go_roundw
          case rel=>exact⟨k+1,by omega,by simp,by rw [dH.out],hS.sb⟩
          case measure=>simp [intOf];omega
         | false =>
          rw [if_neg (by simp)] at dH;replace dH:=Hd dH;replace hB:=Hd hB;replace e4:=Hd e4;clear q1 q2 q3 q4 x4;go_wp2;refine dB [.p 0,.r 1,.p 2,.p 3,.p 4,.r 5,.p 6,.r 7,.p 8,.p 9,.p 10,.r 11,.p 12,.e 13,.m 14] [14] hS fun w1 hS=>?_
          repeat (with_reducible first|refine cZ 1 isAgg32 ?_|refine e9 underlying32 sizeOf101 bh hc fun bq oq bO=>?_|refine eY isAgg3 ?_|refine pU 1 isAgg3 ?_|refine bU ?_)
          refine aZ ?_
          (with_reducible refine bH hS zeroValue213 fun fo qM hS=>?_)
          refine aX hS.sb ?_;refine aM ?_;refine dC ?_
          (with_reducible refine aJ 3 hS sizeOf213 fun _ hS=>?_)
          refine dD ?_;refine bE ?_;clear hc bO
          go_wp2_with (with_reducible refine aU 3 hS isAgg3 ?_)
          refine (x1 _ S (hS.kT 1 rfl) (hA.at hS aC)).mono ?_;rintro e w5 ⟨rfl,hq⟩;have hS:=hS.below hq.below hq.drawn;simp only []
          go_wp2_with (with_reducible refine aU 3 hS isAgg3 ?_)
          refine (x2 _ S (hS.kT 1 rfl) (hA.at hS aC)).mono ?_;rintro e w5 ⟨rfl,hq⟩;have hS:=hS.below hq.below hq.drawn;simp only []
          go_wp2_with (with_reducible refine aU 2 hS isAgg27 ?_)
          refine (x3 _ S (hS.kT 1 rfl) (hA.at hS aC)).mono ?_;rintro e w5 ⟨rfl,hq⟩;have hS:=hS.below hq.below hq.drawn;simp only []
          go_wp2_with (with_reducible first|refine aU 3 hS isAgg3 ?_|refine aU 2 hS isAgg27 ?_)
          refine (x5 _ S (hS.kT 1 rfl) (hS.kT 2 rfl) (hA.at hS aC)).mono ?_;rintro e w5 ⟨rfl,hq⟩;have hS:=hS.below hq.below hq.drawn;simp only []
          go_wp2_with (with_reducible first|refine aU 3 hS isAgg3 ?_|refine aU 2 hS isAgg27 ?_)
          go_roundw
          case rel=>exact⟨k+1,by omega,by simp,by rw [dH.out],hS.sb⟩
          case measure=>simp [intOf];omega
  ·obtain rfl:es.length=k:=by omega
   replace dH:=Hd dH;replace hB:=Hd hB;go_wp2;go_ret;exact⟨by rw [hB.out];rfl,hS.pure S⟩
theorem dr {α:Type} {o:Option α} {f g:α} (h:o=some f) (e:f=g:=by kernel_rfl):o=some g:=h.trans (congrArg some e)
section
open Go.Shelf
def aNw:Go.Shelf.Ren:=⟨fun|122=>80|215=>126|n=>n,fun|3=>3|4=>4|n=>n,fun|n=>n⟩
theorem aRI:Go.Proofs.Lays.n122 prog aNw:={
 mixed:=by kernel_rfl
 f122:=dr func80
 f215:=dr func126
 t3:=underlying3
 a3:=isAgg3
 z3:=sizeOf3
 v3:=zeroValue3
 t4:=underlying4
 a4:=isAgg4
 z4:=sizeOf4
 v4:=zeroValue4 }
open Go.RowKit in
theorem cmp_Compare_int (x y:Int) (w:World) :
 Calls prog 80 #[.int .i64 x,.int .i64 y] w fun e w'=>e=.returned (.int .i64 (Lib.compareInt x y))∧w'=w:=Proofs.Any.cmp_Compare_int aRI x y w
def aVC:Go.Shelf.Ren:=⟨fun|189=>86|125=>112|257=>132|128=>165|129=>166|294=>193|295=>194|296=>195|297=>196|298=>197|299=>198|216=>199|300=>200|301=>201|328=>239|329=>224|330=>225|331=>240|332=>241|215=>126|343=>252|n=>n,fun|28=>22|3=>3|46=>190|0=>0|51=>228|53=>217|4=>4|183=>243|182=>242|131=>108|5=>5|9=>9|218=>294|222=>298|228=>312|229=>313|n=>n,fun|n=>n⟩
theorem aHv:Go.Proofs.Lays.n189 prog aVC:={
 mixed:=by kernel_rfl
 f125:=dr func112
 f128:=dr func165
 f129:=dr func166
 f189:=dr func86
 f215:=dr func126
 f216:=dr func199
 f257:=dr func132
 f294:=dr func193
 f295:=dr func194
 f296:=dr func195
 f297:=dr func196
 f298:=dr func197
 f299:=dr func198
 f300:=dr func200
 f301:=dr func201
 f328:=dr func239
 f329:=dr func224
 f330:=dr func225
 f331:=dr func240
 f332:=dr func241
 f343:=dr func252
 t0:=underlying0
 a0:=isAgg0
 z0:=sizeOf0
 v0:=zeroValue0
 t3:=underlying3
 a3:=isAgg3
 z3:=sizeOf3
 v3:=zeroValue3
 t4:=underlying4
 a4:=isAgg4
 z4:=sizeOf4
 v4:=zeroValue4
 t5:=underlying5
 a5:=isAgg5
 z5:=sizeOf5
 v5:=zeroValue5
 t9:=underlying9
 a9:=isAgg9
 z9:=sizeOf9
 v9:=zeroValue9
 t28:=underlying22
 a28:=isAgg22
 z28:=sizeOf22
 v28:=zeroValue22
 t46:=underlying190
 a46:=isAgg190
 z46:=sizeOf190
 v46:=zeroValue190
 t51:=underlying228
 a51:=isAgg228
 z51:=sizeOf228
 v51:=zeroValue228
 t53:=underlying217
 a53:=isAgg217
 z53:=sizeOf217
 v53:=zeroValue217
 t131:=underlying108
 a131:=isAgg108
 z131:=sizeOf108
 v131:=zeroValue108
 t182:=underlying242
 a182:=isAgg242
 z182:=sizeOf242
 v182:=zeroValue242
 t183:=underlying243
 a183:=isAgg243
 z183:=sizeOf243
 v183:=zeroValue243
 t218:=underlying294
 a218:=isAgg294
 z218:=sizeOf294
 v218:=zeroValue294
 t222:=underlying298
 a222:=isAgg298
 z222:=sizeOf298
 v222:=zeroValue298
 t228:=underlying312
 a228:=isAgg312
 z228:=sizeOf312
 v228:=zeroValue312
 t229:=underlying313
 a229:=isAgg313
 z229:=sizeOf313
 v229:=zeroValue313 }
open Go.Sort Go.RowKit in
theorem slices_Sort_int (aB off cap:Nat) (zs:List Int) (w:World) (hH:Holds (Value.int .i64) w aB off zs.toArray) (hblk:aB<w.heap.size) (dJ:zs.length<4611686018427387904) :
 Calls prog 86 #[.slice (some ⟨aB,off,none⟩) zs.length cap] w fun e w' =>
  e=.returned (.tuple #[])∧∃ n os,w'=grow (putRow (Value.int .i64) (Sort.ahead w n) aB off (zs.mergeSort fun x y=>decide (x≤y)).toArray) os:=Proofs.Any.slices_Sort_int aHv aB off cap zs w hH hblk dJ
open Go.RowKit Go.Sort in
theorem slices_Sort_int_none (p:Option Addr) (cap:Nat) (w:World) :
 Calls prog 86 #[.slice p 0 cap] w fun e w'=>e=.returned (.tuple #[])∧w'=w:=Proofs.Any.slices_Sort_int_none aHv p cap w
def aM3:Go.Shelf.Ren:=⟨fun|6=>91|15=>112|14=>136|28=>165|29=>166|20=>202|21=>203|22=>204|23=>205|24=>206|25=>207|26=>208|27=>209|46=>242|47=>224|48=>225|49=>243|50=>244|57=>253|n=>n,fun|22=>22|24=>3|25=>27|3=>3|39=>190|0=>0|53=>228|55=>217|4=>4|46=>243|45=>242|50=>108|5=>5|9=>9|66=>294|70=>298|76=>312|77=>313|n=>n,fun|n=>n⟩
theorem aRM:Go.Proofs.SlLaysF.n6 prog aM3:={
 mixed:=by kernel_rfl
 f6:=⟨f91.name,by decide,dr func91⟩
 f14:=⟨f136.name,by decide,dr func136⟩
 f15:=dr func112
 f20:=⟨f202.name,by decide,dr func202⟩
 f21:=⟨f203.name,by decide,dr func203⟩
 f22:=⟨f204.name,by decide,dr func204⟩
 f23:=⟨f205.name,by decide,dr func205⟩
 f24:=⟨f206.name,by decide,dr func206⟩
 f25:=⟨f207.name,by decide,dr func207⟩
 f26:=⟨f208.name,by decide,dr func208⟩
 f27:=⟨f209.name,by decide,dr func209⟩
 f28:=dr func165
 f29:=dr func166
 f46:=⟨f242.name,by decide,dr func242⟩
 f47:=dr func224
 f48:=dr func225
 f49:=⟨f243.name,by decide,dr func243⟩
 f50:=⟨f244.name,by decide,dr func244⟩
 f57:=⟨f253.name,by decide,dr func253⟩
 t0:=underlying0
 a0:=isAgg0
 z0:=sizeOf0
 v0:=zeroValue0
 t3:=underlying3
 a3:=isAgg3
 z3:=sizeOf3
 v3:=zeroValue3
 t4:=underlying4
 a4:=isAgg4
 z4:=sizeOf4
 v4:=zeroValue4
 t5:=underlying5
 a5:=isAgg5
 z5:=sizeOf5
 v5:=zeroValue5
 t9:=underlying9
 a9:=isAgg9
 z9:=sizeOf9
 v9:=zeroValue9
 t22:=underlying22
 a22:=isAgg22
 z22:=sizeOf22
 v22:=zeroValue22
 a24:=isAgg3
 z24:=sizeOf3
 t25:=underlying27
 a25:=isAgg27
 z25:=sizeOf27
 v25:=zeroValue27
 t39:=underlying190
 a39:=isAgg190
 z39:=sizeOf190
 v39:=zeroValue190
 t45:=underlying242
 a45:=isAgg242
 z45:=sizeOf242
 v45:=zeroValue242
 t46:=underlying243
 a46:=isAgg243
 z46:=sizeOf243
 v46:=zeroValue243
 t50:=underlying108
 a50:=isAgg108
 z50:=sizeOf108
 v50:=zeroValue108
 t53:=underlying228
 a53:=isAgg228
 z53:=sizeOf228
 v53:=zeroValue228
 t55:=underlying217
 a55:=isAgg217
 z55:=sizeOf217
 v55:=zeroValue217
 t66:=underlying294
 a66:=isAgg294
 z66:=sizeOf294
 v66:=zeroValue294
 t70:=underlying298
 a70:=isAgg298
 z70:=sizeOf298
 v70:=zeroValue298
 t76:=underlying312
 a76:=isAgg312
 z76:=sizeOf312
 v76:=zeroValue312
 t77:=underlying313
 a77:=isAgg313
 z77:=sizeOf313
 v77:=zeroValue313 }
def aQX:Go.Shelf.Ren:=⟨fun|6=>91|15=>112|14=>136|28=>165|29=>166|20=>202|21=>203|22=>204|23=>205|24=>206|25=>207|26=>208|27=>209|46=>242|47=>224|48=>225|49=>243|50=>244|57=>253|n=>n,fun|22=>22|24=>3|25=>27|3=>3|39=>190|0=>0|53=>228|55=>217|4=>4|46=>243|45=>242|50=>108|5=>5|9=>9|66=>294|70=>298|76=>312|77=>313|n=>n,fun|n=>n⟩
theorem aHb:Go.Proofs.SlLaysF0.n6 prog aQX:={
 mixed:=by kernel_rfl
 f6:=⟨f91.name,by decide,dr func91⟩
 f14:=⟨f136.name,by decide,dr func136⟩
 f15:=dr func112
 f20:=⟨f202.name,by decide,dr func202⟩
 f21:=⟨f203.name,by decide,dr func203⟩
 f22:=⟨f204.name,by decide,dr func204⟩
 f23:=⟨f205.name,by decide,dr func205⟩
 f24:=⟨f206.name,by decide,dr func206⟩
 f25:=⟨f207.name,by decide,dr func207⟩
 f26:=⟨f208.name,by decide,dr func208⟩
 f27:=⟨f209.name,by decide,dr func209⟩
 f28:=dr func165
 f29:=dr func166
 f46:=⟨f242.name,by decide,dr func242⟩
 f47:=dr func224
 f48:=dr func225
 f49:=⟨f243.name,by decide,dr func243⟩
 f50:=⟨f244.name,by decide,dr func244⟩
 f57:=⟨f253.name,by decide,dr func253⟩
 t0:=underlying0
 a0:=isAgg0
 z0:=sizeOf0
 v0:=zeroValue0
 t3:=underlying3
 a3:=isAgg3
 z3:=sizeOf3
 v3:=zeroValue3
 t4:=underlying4
 a4:=isAgg4
 z4:=sizeOf4
 v4:=zeroValue4
 t5:=underlying5
 a5:=isAgg5
 z5:=sizeOf5
 v5:=zeroValue5
 t9:=underlying9
 a9:=isAgg9
 z9:=sizeOf9
 v9:=zeroValue9
 t22:=underlying22
 a22:=isAgg22
 z22:=sizeOf22
 v22:=zeroValue22
 t25:=underlying27
 a25:=isAgg27
 z25:=sizeOf27
 v25:=zeroValue27
 t39:=underlying190
 a39:=isAgg190
 z39:=sizeOf190
 v39:=zeroValue190
 t45:=underlying242
 a45:=isAgg242
 z45:=sizeOf242
 v45:=zeroValue242
 t46:=underlying243
 a46:=isAgg243
 z46:=sizeOf243
 v46:=zeroValue243
 t50:=underlying108
 a50:=isAgg108
 z50:=sizeOf108
 v50:=zeroValue108
 t53:=underlying228
 a53:=isAgg228
 z53:=sizeOf228
 v53:=zeroValue228
 t55:=underlying217
 a55:=isAgg217
 z55:=sizeOf217
 v55:=zeroValue217
 t66:=underlying294
 a66:=isAgg294
 z66:=sizeOf294
 v66:=zeroValue294
 t70:=underlying298
 a70:=isAgg298
 z70:=sizeOf298
 v70:=zeroValue298
 t76:=underlying312
 a76:=isAgg312
 z76:=sizeOf312
 v76:=zeroValue312
 t77:=underlying313
 a77:=isAgg313
 z77:=sizeOf313
 v77:=zeroValue313 }
end
theorem gU {α:Type} {o:Option α} {f g:α} (h:o=some f) (e:f=g:=by kernel_rfl):o=some g:=h.trans (congrArg some e)
def aT2:Go.Shelf.Ren:=⟨fun|6=>72|15=>112|14=>123|28=>165|29=>166|20=>176|21=>177|22=>178|23=>179|24=>180|25=>181|26=>182|27=>183|46=>233|47=>224|48=>225|49=>234|50=>235|57=>250|n=>n,fun|22=>31|24=>56|25=>147|3=>3|39=>190|0=>0|53=>228|55=>217|4=>4|46=>243|45=>242|50=>108|5=>5|9=>9|66=>294|70=>298|76=>312|77=>313|n=>n,fun|n=>n⟩
theorem aTq:Go.Proofs.SlLaysF0.n6 prog aT2:={
 mixed:=by kernel_rfl
 f6:=⟨f72.name,by decide,gU func72⟩
 f14:=⟨f123.name,by decide,gU func123⟩
 f15:=gU func112
 f20:=⟨f176.name,by decide,gU func176⟩
 f21:=⟨f177.name,by decide,gU func177⟩
 f22:=⟨f178.name,by decide,gU func178⟩
 f23:=⟨f179.name,by decide,gU func179⟩
 f24:=⟨f180.name,by decide,gU func180⟩
 f25:=⟨f181.name,by decide,gU func181⟩
 f26:=⟨f182.name,by decide,gU func182⟩
 f27:=⟨f183.name,by decide,gU func183⟩
 f28:=gU func165
 f29:=gU func166
 f46:=⟨f233.name,by decide,gU func233⟩
 f47:=gU func224
 f48:=gU func225
 f49:=⟨f234.name,by decide,gU func234⟩
 f50:=⟨f235.name,by decide,gU func235⟩
 f57:=⟨f250.name,by decide,gU func250⟩
 t0:=underlying0
 a0:=isAgg0
 z0:=sizeOf0
 v0:=zeroValue0
 t3:=underlying3
 a3:=isAgg3
 z3:=sizeOf3
 v3:=zeroValue3
 t4:=underlying4
 a4:=isAgg4
 z4:=sizeOf4
 v4:=zeroValue4
 t5:=underlying5
 a5:=isAgg5
 z5:=sizeOf5
 v5:=zeroValue5
 t9:=underlying9
 a9:=isAgg9
 z9:=sizeOf9
 v9:=zeroValue9
 t22:=underlying31
 a22:=isAgg31
 z22:=sizeOf31
 v22:=zeroValue31
 t25:=underlying147
 a25:=isAgg147
 z25:=sizeOf147
 v25:=zeroValue147
 t39:=underlying190
 a39:=isAgg190
 z39:=sizeOf190
 v39:=zeroValue190
 t45:=underlying242
 a45:=isAgg242
 z45:=sizeOf242
 v45:=zeroValue242
 t46:=underlying243
 a46:=isAgg243
 z46:=sizeOf243
 v46:=zeroValue243
 t50:=underlying108
 a50:=isAgg108
 z50:=sizeOf108
 v50:=zeroValue108
 t53:=underlying228
 a53:=isAgg228
 z53:=sizeOf228
 v53:=zeroValue228
 t55:=underlying217
 a55:=isAgg217
 z55:=sizeOf217
 v55:=zeroValue217
 t66:=underlying294
 a66:=isAgg294
 z66:=sizeOf294
 v66:=zeroValue294
 t70:=underlying298
 a70:=isAgg298
 z70:=sizeOf298
 v70:=zeroValue298
 t76:=underlying312
 a76:=isAgg312
 z76:=sizeOf312
 v76:=zeroValue312
 t77:=underlying313
 a77:=isAgg313
 z77:=sizeOf313
 v77:=zeroValue313 }
def aRB:Go.Shelf.Ren:=⟨fun|6=>77|15=>112|14=>125|28=>165|29=>166|20=>184|21=>185|22=>186|23=>187|24=>188|25=>189|26=>190|27=>191|46=>236|47=>224|48=>225|49=>237|50=>238|57=>251|n=>n,fun|22=>32|24=>101|25=>158|3=>3|39=>190|0=>0|53=>228|55=>217|4=>4|46=>243|45=>242|50=>108|5=>5|9=>9|66=>294|70=>298|76=>312|77=>313|n=>n,fun|n=>n⟩
theorem aSu:Go.Proofs.SlLaysF0.n6 prog aRB:={
 mixed:=by kernel_rfl
 f6:=⟨f77.name,by decide,gU func77⟩
 f14:=⟨f125.name,by decide,gU func125⟩
 f15:=gU func112
 f20:=⟨f184.name,by decide,gU func184⟩
 f21:=⟨f185.name,by decide,gU func185⟩
 f22:=⟨f186.name,by decide,gU func186⟩
 f23:=⟨f187.name,by decide,gU func187⟩
 f24:=⟨f188.name,by decide,gU func188⟩
 f25:=⟨f189.name,by decide,gU func189⟩
 f26:=⟨f190.name,by decide,gU func190⟩
 f27:=⟨f191.name,by decide,gU func191⟩
 f28:=gU func165
 f29:=gU func166
 f46:=⟨f236.name,by decide,gU func236⟩
 f47:=gU func224
 f48:=gU func225
 f49:=⟨f237.name,by decide,gU func237⟩
 f50:=⟨f238.name,by decide,gU func238⟩
 f57:=⟨f251.name,by decide,gU func251⟩
 t0:=underlying0
 a0:=isAgg0
 z0:=sizeOf0
 v0:=zeroValue0
 t3:=underlying3
 a3:=isAgg3
 z3:=sizeOf3
 v3:=zeroValue3
 t4:=underlying4
 a4:=isAgg4
 z4:=sizeOf4
 v4:=zeroValue4
 t5:=underlying5
 a5:=isAgg5
 z5:=sizeOf5
 v5:=zeroValue5
 t9:=underlying9
 a9:=isAgg9
 z9:=sizeOf9
 v9:=zeroValue9
 t22:=underlying32
 a22:=isAgg32
 z22:=sizeOf32
 v22:=zeroValue32
 t25:=underlying158
 a25:=isAgg158
 z25:=sizeOf158
 v25:=zeroValue158
 t39:=underlying190
 a39:=isAgg190
 z39:=sizeOf190
 v39:=zeroValue190
 t45:=underlying242
 a45:=isAgg242
 z45:=sizeOf242
 v45:=zeroValue242
 t46:=underlying243
 a46:=isAgg243
 z46:=sizeOf243
 v46:=zeroValue243
 t50:=underlying108
 a50:=isAgg108
 z50:=sizeOf108
 v50:=zeroValue108
 t53:=underlying228
 a53:=isAgg228
 z53:=sizeOf228
 v53:=zeroValue228
 t55:=underlying217
 a55:=isAgg217
 z55:=sizeOf217
 v55:=zeroValue217
 t66:=underlying294
 a66:=isAgg294
 z66:=sizeOf294
 v66:=zeroValue294
 t70:=underlying298
 a70:=isAgg298
 z70:=sizeOf298
 v70:=zeroValue298
 t76:=underlying312
 a76:=isAgg312
 z76:=sizeOf312
 v76:=zeroValue312
 t77:=underlying313
 a77:=isAgg313
 z77:=sizeOf313
 v77:=zeroValue313 }
end Go.Hp
