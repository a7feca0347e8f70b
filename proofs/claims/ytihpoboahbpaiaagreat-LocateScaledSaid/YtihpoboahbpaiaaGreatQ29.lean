/- Texts for the walk of the law: E15 E15b E15c E15d. -/
import Derived.Test.YtihpoboahbpaiaaGreatQ28
set_option maxRecDepth 100000
set_option maxHeartbeats 16000000
set_option linter.unusedVariables false
set_option linter.unusedSimpArgs false
namespace Go.Hp
open Go Go.RowKit
def nilV:Value:=.slice none 0 0
def opp (os:List Sz) (i:Nat):List Sz:=os.take i++os.drop (i+1)
structure PartsUp (w:World) (S:Nat→Prop) (os:List Sz) (gs:List Gp) (vs:List Value) (pp:List (List Pt)):Prop where
 vl:vs.length=os.length
 pl:pp.length≤os.length
 el:∀ i,i<pp.length→∃ ad n c prs,nth nilV vs i=.slice ad n c∧PL w S (.slice ad n c) prs (nth [] pp i)
 ok:∀ i,i<pp.length→PartsL (nth s0 os i) (opp os i) gs (nth [] pp i)
theorem PartsUp.grow {w w':World} {S S':Nat→Prop} {os:List Sz} {gs:List Gp} {vs:List Value} {pp:List (List Pt)} (h:PartsUp w S os gs vs pp) (hp:Pure w S w' S'):PartsUp w' S' os gs vs pp :=
 ⟨h.vl,h.pl,fun i hi=>by obtain⟨ad,n,c,prs,h1,h2⟩:=h.el i hi;exact⟨ad,n,c,prs,h1,h2.grow hp⟩,h.ok⟩
theorem PartsUp.at {w0 w wr:World} {H:List Chunk} {F S:Nat→Prop} {os:List Sz} {gs:List Gp} {vs:List Value} {pp:List (List Pt)} (h:PartsUp wr S os gs vs pp) (hS:Heap w0 w (.frz F wr::H)) (hF:∀ k,S k→F k):PartsUp w S os gs vs pp :=
 ⟨h.vl,h.pl,fun i hi=>by obtain⟨ad,n,c,prs,h1,h2⟩:=h.el i hi;exact⟨ad,n,c,prs,h1,h2.at hS hF⟩,h.ok⟩
theorem PartsUp.start (w:World) (S:Nat→Prop) (os:List Sz) (gs:List Gp):PartsUp w S os gs (List.replicate os.length nilV) []:=⟨by simp,by simp,fun i hi=>by simp at hi,fun i hi=>by simp at hi⟩
theorem PartsUp.step {w:World} {S:Nat→Prop} {os:List Sz} {gs:List Gp} {vs:List Value} {pp:List (List Pt)} (h:PartsUp w S os gs vs pp) (hlt:pp.length<os.length) {ad:Option Addr} {n c:Nat} {prs:List PR} {l:List Pt} (hl:PL w S (.slice ad n c) prs l) (hp:PartsL (nth s0 os pp.length) (opp os pp.length) gs l):PartsUp w S os gs (vs.set pp.length (.slice ad n c)) (pp++[l]):=by
 have hvl:=h.vl;refine⟨by simp [hvl],by simp;omega,fun i hi=>?_,fun i hi=>?_⟩
 ·simp only [List.length_append,List.length_singleton] at hi
  rcases Nat.lt_or_ge i pp.length with h1|h1
  ·rw [nth_append_left _ _ _ _ h1,nth_put _ _ _ _ _ (by omega),if_neg (by omega)]
   exact h.el i h1
  ·obtain rfl:i=pp.length:=by omega
   rw [nth_snoc,nth_put _ _ _ _ _ (by omega),if_pos rfl];exact⟨ad,n,c,prs,rfl,hl⟩
 ·simp only [List.length_append,List.length_singleton] at hi
  rcases Nat.lt_or_ge i pp.length with h1|h1
  ·rw [nth_append_left _ _ _ _ h1];exact h.ok i h1
  ·obtain rfl:i=pp.length:=by omega
   rw [nth_snoc];exact hp
theorem PartsL.two {s:Sz} {os:List Sz} {gs:List Gp} {l:List Pt} (h:PartsL s os gs l) (hne:s.a≠s.b):2≤l.length:=by
 have ha:=(h.mem s.a.pt).2 (.inl rfl);have hb:=(h.mem s.b.pt).2 (.inr (.inl rfl));have hab:s.a.pt≠s.b.pt:=fun e=>hne (Gp.pt_inj.1 e)
 match l with
 | []=>cases ha
 | [x] =>
  simp only [List.mem_singleton] at ha hb;exact absurd (ha.trans hb.symm) hab
 | _::_::_=>simp
theorem opp_len {os:List Sz} {i:Nat} (h:i<os.length):(opp os i).length=os.length - 1:=by
 unfold opp;rw [List.length_append,List.length_take,List.length_drop];omega
theorem opp_mem {os:List Sz} {i:Nat} {t:Sz} (h:t ∈ opp os i):t ∈ os:=by
 unfold opp at h
 rcases List.mem_append.1 h with h|h
 ·exact List.mem_of_mem_take h
 ·exact List.mem_of_mem_drop h
structure ArrP (os:List Sz) (gs:List Gp) (V:List Pt) (es:List Ed):Prop where
 arr:Arr0 (os.map Sz.sg) (gs.map Gp.pt) V (es.map fun e=>(e.a,e.b))
 of:∀ e ∈ es,∀ i,i ∈ e.of↔∃ s,os[i]? = some s∧nextOn V s.sg e.a e.b
 ofs:∀ e ∈ es,e.of.Pairwise (· < ·)
 dir:∀ e ∈ es,∃ s ∈ os,nextOn V s.sg e.a e.b∧e.dir=dirZ s
structure IsArr (w:World) (S:Nat→Prop) (sg pt v e:Option Addr × Nat × Nat) (os:List Sz) (gs:List Gp) (V:List Pt) (es:List Ed):Prop where
 segs:SlC w S 4 (sv sg) os.length (os.flatMap sc)
 pts:SlC w S 2 (sv pt) gs.length (gs.flatMap gc)
 vs:∃ prs,PL w S (sv v) prs V
 es:∃ rs,SlC w S 5 (sv e) es.length (rs.flatMap ec)∧IsEs w S rs es
def ARes (w:World) (S:Nat→Prop) (os:List Sz) (gs:List Gp) (e:Ending) (w':World):Prop :=
 ∃ (sg pt v ee:Option Addr × Nat × Nat) (S':Nat→Prop) (V:List Pt) (es:List Ed),e=.returned (.tuple #[.agg #[sv sg,sv pt,sv v,sv ee],.int .i64 0])∧Pure w S w' S'∧IsArr w' S' sg pt v ee os gs V es∧ArrP os gs V es
end Go.Hp
namespace Go.Hp
open Go Go.RowKit
def ORow.g (r:ORow):(Nat × Nat) × List Nat:=(r.k,r.is)
theorem PartsUp.weaken {w:World} {S T:Nat→Prop} {os:List Sz} {gs:List Gp} {vs:List Value} {pp:List (List Pt)} (h:PartsUp w S os gs vs pp) (hST:∀ k,S k→T k):PartsUp w T os gs vs pp :=
 ⟨h.vl,h.pl,fun i hi=>by obtain⟨ad,n,c,prs,h1,h2⟩:=h.el i hi;exact⟨ad,n,c,prs,h1,h2.weaken hST⟩,h.ok⟩
structure RSplit (R:List ORow) (key:Nat × Nat) (R1:List ORow) (r:ORow) (R2:List ORow):Prop where
 rk:r.k=key
 put:∀ v,putL (R.map ORow.s) key v=R1.map ORow.s++(key,v)::R2.map ORow.s
 get:(getL (R.map ORow.s) key).getD (none,0,0)=(r.ad,r.n,r.c)
 putg:∀ l,putL (R.map ORow.g) key l=R1.map ORow.g++(key,l)::R2.map ORow.g
 getg:(getL (R.map ORow.g) key).getD []=r.is
theorem row_split {w0 w:World} {L:List Chunk} {T:TypeId} {R:List ORow} (hS:Heap w0 w (L++R.map (ORow.ch T))) (hnd:((R.map ORow.g).map (·.1)).Nodup) (key:Nat × Nat) :
 ∃ R1 r R2,RSplit R key R1 r R2∧Heap w0 w (L++(R1++r::R2).map (ORow.ch T)):=by
 have hks:(R.map ORow.s).map (·.1)=R.map (·.k):=by rw [List.map_map];rfl
 have hkg:(R.map ORow.g).map (·.1)=R.map (·.k):=by rw [List.map_map];rfl
 by_cases hk:key ∈ R.map (·.k)
 ·obtain⟨r,hr,rfl⟩:=List.mem_map.1 hk
  obtain⟨R1,R2,rfl⟩:=List.append_of_mem hr;rw [hkg,List.map_append,List.map_cons,List.nodup_append] at hnd;have h1:r.k ∉ R1.map (·.k):=fun h=>hnd.2.2 _ h _ (List.mem_cons_self) rfl
  have h1s:r.k ∉ (R1.map ORow.s).map (·.1):=by rw [List.map_map];exact h1
  have h1g:r.k ∉ (R1.map ORow.g).map (·.1):=by rw [List.map_map];exact h1
  refine⟨R1,r,R2,⟨rfl,fun v=>?_,?_,fun l=>?_,?_⟩,hS⟩
  ·rw [List.map_append,List.map_cons];exact (putL_split (u:=(r.ad,r.n,r.c)) h1s).1
  ·rw [List.map_append,List.map_cons]
   have:=(putL_split (l2:=R2.map ORow.s) (u:=(r.ad,r.n,r.c)) (v:=(none,0,0)) h1s).2;unfold ORow.s at this ⊢;rw [this];rfl
  ·rw [List.map_append,List.map_cons];exact (putL_split (u:=r.is) h1g).1
  ·rw [List.map_append,List.map_cons]
   have:=(putL_split (l2:=R2.map ORow.g) (u:=r.is) (v:=[]) h1g).2;unfold ORow.g at this ⊢;rw [this];rfl
 ·have hs:key ∉ (R.map ORow.s).map (·.1):=by rw [hks];exact hk
  have hg:key ∉ (R.map ORow.g).map (·.1):=by rw [hkg];exact hk
  refine⟨R,⟨key,none,0,0,[]⟩,[],⟨rfl,fun v=>?_,?_,fun l=>?_,?_⟩,?_⟩
  ·rw [(putL_absent hs).1];rfl
  ·rw [(putL_absent (v:=(none,0,0)) hs).2];rfl
  ·rw [(putL_absent hg).1];rfl
  ·rw [(putL_absent (v:=([]:List Nat)) hg).2];rfl
  ·have:=hS.addNil T 1
   rw [List.append_assoc] at this;rw [List.map_append];exact this
section
variable {P:Program} {ops:Array Oper} {Q:Exit→Act→World→Prop} {rest:List Oper} {a:Act} {w w0:World}
variable {dst:Option Tmp} {ty T E:TypeId} {pos:String} {aft:Array Edge} {x y:Operand}
theorem seq_append_orow {L:List Chunk} {R1 R2:List ORow} {r:ORow} {i b:Nat} {Tb:TypeId} {bytes:Nat} (hS:Heap w0 w (L++((R1++r::R2).map (ORow.ch E)++[.blk b (.cells #[.int .i64 (i:Int)] Tb (0,0))]))) (ht:P.underlying T=some (.slice E)) (hinfo:(P.info? E).map (fun i=>(i.zero,i.size,i.bytes))=some (some (.int .i64 0),1,bytes)) (hb8:bytes=8)
 (hx:a.eval x=.slice r.ad r.n r.c) (hy:a.eval y=.slice (some ⟨b,0,none⟩) 1 1) (hn:r.n≤100000000)
 (hk:∀ ad c w',Heap w0 w' (L++(R1++(⟨r.k,ad,r.n+1,c,r.is++[i]⟩:ORow)::R2).map (ORow.ch E))→wpList P ops Q rest (a.put dst (.slice ad (r.n+1) c)) w') :
 wpList P ops Q (⟨dst,.call ⟨.builtin .append,#[x,y],#[T,T]⟩,ty,pos,aft,none⟩::rest) a w:=by
 subst hb8;rw [← List.append_assoc] at hS
 have hj:(L++(R1++r::R2).map (ORow.ch E))[L.length+R1.length]? = some (.row (.slice r.ad r.n r.c) E 1 r.n (iv (zs r.is))):=by
  rw [List.getElem?_append_right (by omega),List.map_append,List.map_cons,List.getElem?_append_right (by simp)];simp [ORow.ch]
 refine seq_append_lit (t:=T) (L.length+R1.length) hS ht hinfo rfl (by decide) hx hy hj (by simp) (by simp [Value.oneCell']) (by omega) (by unfold maxLen;omega) (fun ad c w' hS'=>hk ad c w' ?_)
 have e:(L++(R1++r::R2).map (ORow.ch E)).set (L.length+R1.length) (.row (.slice ad (r.n+1) c) E 1 (r.n+1) (iv (zs r.is)++#[Value.int .i64 (i:Int)].toList))=L++(R1++(⟨r.k,ad,r.n+1,c,r.is++[i]⟩:ORow)::R2).map (ORow.ch E):=by
  rw [List.set_append_right _ _ (by omega),List.map_append,List.map_cons,List.map_append,List.map_cons,List.set_append_right _ _ (by simp)];simp only [List.length_map,Nat.add_sub_cancel_left,Nat.sub_self,List.set_cons_zero]
  congr 3
  simp [ORow.ch,zs,iv]
 rw [← e];exact hS'
end
theorem RSplit.step {R R1 R2:List ORow} {r:ORow} {key:Nat × Nat} (h:RSplit R key R1 r R2) {ad:Option Addr} {c i:Nat} :
 putL (R.map ORow.s) key (ad,r.n+1,c)=(R1++(⟨r.k,ad,r.n+1,c,r.is++[i]⟩:ORow)::R2).map ORow.s∧putL (R.map ORow.g) key ((getL (R.map ORow.g) key).getD []++[i])=(R1++(⟨r.k,ad,r.n+1,c,r.is++[i]⟩:ORow)::R2).map ORow.g:=by
 constructor
 ·rw [h.put,List.map_append,List.map_cons]
  unfold ORow.s;rw [h.rk]
 ·rw [h.putg,h.getg,List.map_append,List.map_cons]
  unfold ORow.g;rw [h.rk]
theorem Stands.at {V:List Pt} {q:Pt} {i:Nat} (h:Stands V q i) (hs:V.Pairwise Pt.lt) (hq:q ∈ V):V[i]? = some q:=by
 obtain⟨j,hj,rfl⟩:=List.mem_iff_getElem.1 hq;obtain⟨h1,h2,h3⟩:=h
 rcases Nat.lt_trichotomy i j with h4|h4|h4
 ·exfalso
  apply h3 i (Nat.le_refl _) (by omega);rw [nth_eq pt0 V i (by omega)];exact List.pairwise_iff_getElem.1 hs i j (by omega) hj h4
 ·subst h4;exact List.getElem?_eq_getElem hj
 ·exfalso
  have:=h2 j h4;rw [nth_eq pt0 V j hj] at this;exact Pt.lt_irrefl _ this
end Go.Hp
namespace Go.Hp
open Go.Proofs.Tryz
open Go Go.RowKit
def itSize (w:World) (b:Nat):Nat:=match w.heap[b]? with|some (.mapIter _ _ seen _)=>seen.size|_=>0
theorem itSize_eq {κ ν:Type} {ek:κ→Value} {ev:ν→Value} {b bi:Nat} {o oi:Obj} {l d:List (κ × ν)} (h:ItIs ek ev b o oi l d) {w:World} (hb:w.heap[bi]? = some oi):itSize w bi=d.length:=by
 obtain⟨es,clock,f,rfl,rfl,_⟩:=h;simp [itSize,hb]
theorem itLen {κ ν:Type} [DecidableEq κ] {ek:κ→Value} {ev:ν→Value} {b:Nat} {o oi:Obj} {l d:List (κ × ν)} (h:ItIs ek ev b o oi l d):d.length≤l.length:=by
 obtain⟨es,clock,f,rfl,rfl,_,_,_,h1,h2,h3,_⟩:=h;have n2:(d.map (·.1)).Nodup:=h2
 have hsub:d.map (·.1) ⊆ l.map (·.1):=by
  intro x hx;obtain⟨p,hp,rfl⟩:=List.mem_map.1 hx;exact List.mem_map.2 ⟨p,h1 p hp,rfl⟩
 have:=n2.length_le_of_subset hsub
 simpa using this
theorem itSub {κ ν:Type} {ek:κ→Value} {ev:ν→Value} {b:Nat} {o oi:Obj} {l d:List (κ × ν)} (h:ItIs ek ev b o oi l d):(d.map (·.1)).Nodup∧∀ p ∈ d,p ∈ l:=by
 obtain⟨es,clock,f,rfl,rfl,_,_,_,h1,h2,h3,_⟩:=h;exact⟨h2,h1⟩
theorem rows_out {w0 w:World} {L:List Chunk} {T:TypeId} {R:List ORow} (hS:Heap w0 w (L++R.map (ORow.ch T))) {r:ORow} (hr:r ∈ R) (hb:∀ x ∈ r.is,x≤9223372036854775807):Nats w (fun k=>∃ c ∈ R.map (ORow.ch T),c.has k) (.slice r.ad r.n r.c) r.is:=by
 have hm:r.ch T ∈ R.map (ORow.ch T):=List.mem_map.2 ⟨r,hr,rfl⟩;have hok:(r.ch T).ok w:=hS.ok _ (by simp only [List.mem_append];exact .inr hm);have hsl:SlC w _ 1 (.slice r.ad r.n r.c) r.n (iv (zs r.is)):=SlC.ofRow hok
 have hn:r.n=(zs r.is).length:=by
  have:=hsl.1;rw [iv_length] at this;omega
 refine⟨?_,fun x hx=>?_⟩
 ·rw [← hn]
  exact hsl.weaken fun k h=>⟨r.ch T,hm,h⟩
 ·obtain⟨n,hn2,rfl⟩:=List.mem_map.1 hx
  have:=hb n hn2;unfold InI;omega
instance :Inhabited ER:=⟨er0⟩
end Go.Hp
namespace Go.Proofs
open Go.Proofs.Tryz
open Go.RowKit Go.Hp Go.Sort Go.Shelf
def cmpE (x y:ER):Int:=if cmpZ x.a y.a≠0 then cmpZ x.a y.a else cmpZ x.b y.b
theorem cmpE_lt (x y:ER):cmpE x y<0↔ltE (x.a,x.b) (y.a,y.b):=by
 unfold cmpE ltE cmpZ;simp only
 split <;> split <;> (try split) <;> (try split) <;> omega
theorem cmpE_swo:SWO (ltOf cmpE) where
 irrefl x:=by unfold ltOf;rw [decide_eq_false_iff_not,cmpE_lt];exact ltE_irr _
 trans x y z h1 h2:=by
  unfold ltOf at *;rw [decide_eq_true_iff,cmpE_lt] at *;exact ltE_tr h1 h2
 ntrans x y z h1 h2:=by
  unfold ltOf at *;rw [decide_eq_false_iff_not,cmpE_lt] at *;unfold ltE at *;simp only at *;omega
theorem cmpE_any (x y:ER) (w:World):Calls Tryz.prog 78 #[.agg (ec x).toArray,.agg (ec y).toArray] w fun e w'=>e=.returned (.int .i64 (cmpE x y))∧Pure w (fun _=>False) w' (fun _=>False):=by
 obtain⟨a,b,ad,n,c,d⟩:=x;obtain⟨a2,b2,ad2,n2,c2,d2⟩:=y;obtain⟨r,hr⟩:∃ r,cmpE ⟨a,b,ad,n,c,d⟩ ⟨a2,b2,ad2,n2,c2,d2⟩=r:=⟨_,rfl⟩;rw [hr];unfold cmpE at hr;simp only at hr;obtain⟨r1,h1⟩:∃ r1,cmpZ a a2=r1:=⟨_,rfl⟩;obtain⟨r2,h2⟩:∃ r2,cmpZ b b2=r2:=⟨_,rfl⟩;rw [h1,h2] at hr;replace h1:=Hd h1;replace h2:=Hd h2;have hor:=fun b w S hv=>or2_any b r1 r2 r hr w S hv
 clear hr;have hS:=Heap.start w;simp only [ec]
 go_enter func78,ntmps78
 go_wp2_with (with_reducible refine bxA hS fun bx wbx hS=>?_)
 refine rg0 [.p 0,.r 1,.p 2,.r 3,.p 5,.r 6,.p 7,.r 8,.e 4,.e 9,.e 10,.e 11,.p 12] [] hS fun w1 hS=>?_
 have hC:=hS
 repeat (with_reducible first|refine sldB 1 isAgg3 ?_|refine sldB 2 isAgg3 ?_|refine spL ?_)
 refine exL ?_
 go_wp2_with (fail)
 refine (cmpInt_any a a2 _).mono ?_;rintro e w' ⟨rfl,rfl⟩;simp only [];go_step;rw [h1.out];refine ext_end hC ?_;refine mvs ?_;refine exL ?_
 go_wp2_with (fail)
 refine (cmpInt_any b b2 _).mono ?_;rintro e w' ⟨rfl,rfl⟩;simp only [];go_step;rw [h2.out];refine ext_end hC ?_;refine mvs ?_;refine exL ?_
 ((with_reducible refine g_bs (T:=22) ?_);refine seq_buildSlice (k:=1) (z:=.int .i64 0) (len:=2) hS underlying22 sizeOf3 zeroValue3 (by decide) (by decide) (fill2n _ _) (fun bl wbl hS=>?_);simp only [NRM];simp only [NRH] at hS)
 refine ext_end hS.sb ?_;refine mvs ?_;refine exL ?_
 go_wp2_with (fail)
 refine (hor bl _ _ (SlC.ofBlk (k:=1) (n:=2) hS (List.mem_of_getElem? (i:=3) rfl) rfl (by decide))).mono ?_;rintro e w' ⟨rfl,rfl⟩;simp only [];go_step;refine ext_end hS.sb ?_;refine mvs ?_;refine snL ?_;go_wp2;go_ret;exact⟨rfl,hS.pure _⟩
theorem sortE_any {w0 w:World} {H:List Chunk} {ad:Option Addr} {n c:Nat} {T:TypeId} {rs:List ER} (j:Nat) (hS:Heap w0 w H) (hj:H[j]? = some (.row (.slice ad n c) T 5 n (rs.flatMap ec))) (hl:n≤100000000) :
 Calls Tryz.prog 77 #[.slice ad n c,.func (.func 78) #[] #[]] w fun e w'=>e=.returned (.tuple #[])∧∃ rs':List ER,rs'.Perm rs∧rs'.Pairwise (fun x y=>¬ ltE (y.a,y.b) (x.a,x.b))∧Heap w0 w' (H.set j (.row (.slice ad n c) T 5 n (rs'.flatMap ec))):=by
 refine (sortK_row Tryz.sortE (by decide) isAgg101 sizeOf101 ec (fun x=>rfl) (fun x v hv=>ec_one [x] v (by simpa using hv)) cmpE cmpE_swo 78 #[] j hS hj hl (enters_of func78 (by kernel_rfl) rfl) ?_).mono ?_
 ·intro W hW x y
  exact (cmpE_any x y W).mono fun e w' ⟨he,hq⟩=>⟨he,hq.below,hq.drawn⟩
 ·rintro e w' ⟨he,rs',hp,hs,hS'⟩
  refine⟨he,rs',hp,?_,hS'⟩;refine hs.imp fun {x y} h=>?_
  unfold ltOf at h
  rwa [decide_eq_false_iff_not,cmpE_lt] at h
end Go.Proofs
namespace Go.Hp
open Go Go.RowKit
def eOf (G:List ((Nat × Nat) × List Nat)) (D:List ((Nat × Nat) × Gp)) (k:Nat × Nat):Ed:=⟨k.1,k.2,(getL G k).getD [],(getL D k).getD g0⟩
theorem getSome {ν:Type} {l:List ((Nat × Nat) × ν)} {k:Nat × Nat} (h:k ∈ l.map (·.1)):∃ v,getL l k=some v:=by
 cases hg:getL l k with
 | some v=>exact⟨v,rfl⟩
 | none =>
  exfalso
  induction l with
  | nil=>simp at h
  | cons p l ih =>
   obtain⟨x,u⟩:=p;rw [getL_cons] at hg
   split at hg
   ·cases hg
   ·rename_i hne
    rcases List.mem_cons.1 h with h1|h1
    ·exact hne h1.symm
    ·exact ih h1 hg
theorem nth_some {α:Type} {d:α} {l:List α} {i:Nat} {s:α} (h:l[i]? = some s):nth d l i=s:=by
 unfold nth;simp [List.getD_eq_getElem?_getD,h]
theorem some_nth {α:Type} {d:α} {l:List α} {i:Nat} (h:i<l.length):l[i]? = some (nth d l i):=by
 rw [nth_eq d l i h];exact List.getElem?_eq_getElem h
theorem PartsL.isPart {os:List Sz} {gs:List Gp} {i:Nat} {s:Sz} {l:List Pt} (h:PartsL s (opp os i) gs l) (hos:∀ t ∈ os,t.ok) (hi:os[i]? = some s) (x:Pt):x ∈ l↔isPart (os.map Sz.sg) (gs.map Gp.pt) i s.sg x:=by
 have hne:∀ t ∈ os.map Sz.sg,t.a≠t.b:=by
  intro t ht;obtain⟨u,hu,rfl⟩:=List.mem_map.1 ht;exact fun e=>(hos u hu).2.2 (Gp.pt_inj.1 e)
 have hi2:(os.map Sz.sg)[i]? = some s.sg:=by rw [List.getElem?_map,hi];rfl
 rw [isPart_of hi2 hne,h.mem];have e:(os.map Sz.sg).take i++(os.map Sz.sg).drop (i+1)=(opp os i).map Sz.sg:=by unfold opp;rw [List.map_append,List.map_take,List.map_drop]
 rw [e];refine or_congr Iff.rfl (or_congr Iff.rfl (or_congr ?_ ?_))
 ·constructor
  ·rintro⟨t,ht,h⟩;exact⟨t.sg,List.mem_map.2 ⟨t,ht,rfl⟩,h⟩
  ·rintro⟨t,ht,h⟩
   obtain⟨u,hu,rfl⟩:=List.mem_map.1 ht;exact⟨u,hu,h⟩
 ·constructor
  ·rintro⟨g,hg,rfl,h⟩;exact⟨List.mem_map.2 ⟨g,hg,rfl⟩,h⟩
  ·rintro⟨hg,h⟩
   obtain⟨g,hg2,rfl⟩:=List.mem_map.1 hg;exact⟨g,hg2,rfl,h⟩
theorem verts_isVert {os:List Sz} {gs:List Gp} {pp:List (List Pt)} (hos:∀ t ∈ os,t.ok) (hlen:pp.length=os.length) (hok:∀ i,i<pp.length→PartsL (nth s0 os i) (opp os i) gs (nth [] pp i)) {x:Pt} (hx:x ∈ gs.map Gp.pt∨∃ l ∈ pp,x ∈ l):isVert (os.map Sz.sg) (gs.map Gp.pt) x:=by
 rw [isVert_parts]
 rcases hx with h|⟨l,hl,h⟩
 ·exact .inl h
 ·obtain⟨i,hi⟩:=List.mem_iff_getElem?.1 hl
  have hil:=(List.getElem?_eq_some_iff.1 hi).1;have hs:os[i]? = some (nth s0 os i):=some_nth (by omega);have hk:=hok i hil;rw [nth_some hi] at hk;exact .inr ⟨i,(nth s0 os i).sg,by rw [List.getElem?_map,hs];rfl,(hk.isPart hos hs x).1 h⟩
theorem ArrP.of_maps {os:List Sz} {gs:List Gp} {V:List Pt} {pp:List (List Pt)} {tr:List Step} {G:List ((Nat × Nat) × List Nat)} {D:List ((Nat × Nat) × Gp)} {es:List Ed} (hos:∀ t ∈ os,t.ok) (hlen:pp.length=os.length)
 (hok:∀ i,i<pp.length→PartsL (nth s0 os i) (opp os i) gs (nth [] pp i)) (hV:V.Pairwise Pt.lt) (hVm:∀ x,x ∈ V↔x ∈ gs.map Gp.pt∨∃ l ∈ pp,x ∈ l) (hT:TInv V pp os.length 1 tr) (hG:GInv tr G) (hD:DInv (fun i=>dirZ (nth s0 os i)) tr D)
 (hes:∀ e,e ∈ es↔∃ k ∈ G.map (·.1),e=eOf G D k) (hsort:(es.map fun e=>(e.a,e.b)).Pairwise ltE):ArrP os gs V es:=by
 have hne:∀ t ∈ os.map Sz.sg,t.a≠t.b:=by
  intro t ht;obtain⟨u,hu,rfl⟩:=List.mem_map.1 ht;exact fun e=>(hos u hu).2.2 (Gp.pt_inj.1 e)
 have hsorted:∀ l ∈ pp,l.Pairwise Pt.lt:=by
  intro l hl;obtain⟨i,hi⟩:=List.mem_iff_getElem?.1 hl;have hil:=(List.getElem?_eq_some_iff.1 hi).1;have:=hok i hil;rw [nth_some hi] at this;exact this.sorted
 have hE:∀ u v,(u,v) ∈ es.map (fun e=>(e.a,e.b))↔∃ l ∈ pp,∃ k p q,l[k]? = some p∧l[k+1]? = some q∧V[u]? = some p∧V[v]? = some q:=by
  intro u v
  have h1:(u,v) ∈ es.map (fun e=>(e.a,e.b))↔(u,v) ∈ G.map (·.1):=by
   rw [List.mem_map]
   constructor
   ·rintro⟨e,he,h⟩
    obtain⟨k,hk,rfl⟩:=(hes e).1 he;simp only [eOf,Prod.mk.injEq] at h;obtain⟨rfl,rfl⟩:=h;exact hk
   ·intro h
    exact⟨_,(hes _).2 ⟨_,h,rfl⟩,rfl⟩
  rw [h1,hG.key]
  constructor
  ·rintro⟨⟨j,x,y⟩,ht,h⟩
   simp only [Prod.mk.injEq] at h;obtain⟨rfl,rfl⟩:=h;obtain⟨q,hq,l,a,b,h1,h2,h3,h4,h5⟩:=(hT.mem j x y).1 ht;exact⟨l,List.mem_of_getElem? h1,q,a,b,h2,h3,h4,h5⟩
  ·rintro⟨l,hl,q,a,b,h2,h3,h4,h5⟩
   obtain⟨j,hj⟩:=List.mem_iff_getElem?.1 hl;have hjl:=(List.getElem?_eq_some_iff.1 hj).1;exact⟨(j,(u,v)),(hT.mem j u v).2 ⟨q,.inl (by omega),l,a,b,hj,h2,h3,h4,h5⟩,rfl⟩
 have hparts:=Arr0.of_parts (ss:=os.map Sz.sg) (ps:=gs.map Gp.pt) (parts:=pp) (V:=V) (E:=es.map fun e=>(e.a,e.b)) hne (by simp [hlen]) hsorted (fun i s l hi hl p=>by
  rw [List.getElem?_map,Option.map_eq_some_iff] at hi;obtain⟨t,ht,rfl⟩:=hi;have hil:=(List.getElem?_eq_some_iff.1 hl).1;have:=hok i hil;rw [nth_some hl,nth_some ht] at this;exact this.isPart hos ht p) hV hVm hsort hE
 have hnext:∀ j u v,(j,(u,v)) ∈ tr↔∃ s,os[j]? = some s∧nextOn V s.sg u v:=by
  intro j u v;rw [hT.mem]
  constructor
  ·rintro⟨q,hq,l,a,b,h1,h2,h3,h4,h5⟩
   have hjl:j<os.length:=by omega
   refine⟨nth s0 os j,some_nth hjl,?_⟩;exact (next_of_parts hV (hsorted l (List.mem_of_getElem? h1)) (hparts.2 j _ l (by rw [List.getElem?_map,some_nth (d:=s0) hjl];rfl) h1) u v).2 ⟨q,a,b,h2,h3,h4,h5⟩
  ·rintro⟨s,hs,hn⟩
   have hjl:=(List.getElem?_eq_some_iff.1 hs).1;obtain⟨l,hl⟩:∃ l,pp[j]? = some l:=⟨_,List.getElem?_eq_getElem (by omega)⟩;obtain⟨q,a,b,h2,h3,h4,h5⟩:=(next_of_parts hV (hsorted l (List.mem_of_getElem? hl)) (hparts.2 j _ l (by rw [List.getElem?_map,hs];rfl) hl) u v).1 hn;exact⟨q,.inl hjl,l,a,b,hl,h2,h3,h4,h5⟩
 refine⟨hparts.1,fun e he i=>?_,fun e he=>?_,fun e he=>?_⟩
 ·obtain⟨k,hk,rfl⟩:=(hes e).1 he
  rw [← hnext];simp only [eOf];rw [hG.old,List.mem_map]
  constructor
  ·rintro⟨⟨j,x⟩,ht,rfl⟩
   rw [List.mem_filter] at ht;obtain⟨h1,h2⟩:=ht;simp only [decide_eq_true_eq] at h2;rw [← h2];exact h1
  ·intro h
   exact⟨(i,k),List.mem_filter.2 ⟨h,by simp⟩,rfl⟩
 ·obtain⟨k,hk,rfl⟩:=(hes e).1 he
  simp only [eOf];rw [hG.old,List.pairwise_map];have h1:(tr.filter (fun t=>decide (t.2=k))).Pairwise (fun s t=>s.1<t.1∨(s.1=t.1∧s.2≠t.2)):=hT.ord.sublist List.filter_sublist;refine List.Pairwise.imp_of_mem ?_ h1;intro s t hs ht h;rw [List.mem_filter] at hs ht;have e1:=of_decide_eq_true hs.2;have e2:=of_decide_eq_true ht.2
  rcases h with h|⟨_,h⟩
  ·exact h
  ·exact absurd (e1.trans e2.symm) h
 ·obtain⟨k,hk,rfl⟩:=(hes e).1 he
  have hkD:k ∈ D.map (·.1):=by rw [hD.key,← hG.key];exact hk
  obtain⟨d,hd⟩:=getSome hkD;obtain⟨⟨j,x⟩,ht,h1,h2⟩:=hD.val k d (getL_mem hd);simp only at h1 h2;subst h1;obtain⟨s,hs,hn⟩:=(hnext j x.1 x.2).1 ht;refine⟨s,List.mem_of_getElem? hs,hn,?_⟩;simp only [eOf,hd,Option.getD_some,h2];rw [nth_some hs]
end Go.Hp
