/- Texts for the walk of the law: E6 E7 E8 E9 ED FS FW FX FY KS KT SK E10 E11. -/
import Derived.Lib.SliceRun
import Derived.Test.YtgaejkbkfoaaiaaGreatR07
import Derived.Shelf.Sort.Plain
import Derived.Shelf.Slices.In.SortNone
import Derived.Shelf.SlSortCmp.NoneTotal
set_option maxRecDepth 100000
set_option maxHeartbeats 16000000
set_option linter.unusedVariables false
set_option linter.unusedSimpArgs false
namespace Go.Hp
open Go Go.RowKit Go.Proofs.Tryz
theorem aWt (b:Nat) (w:World) (S:Nat→Prop) (hv:bN w S 1 (.slice (some ⟨b,0,none⟩) 2 2) 2 [.int .i64 0,.int .i64 0]) :
 Calls prog 91 #[.slice (some ⟨b,0,none⟩) 2 2] w fun e w'=>e=.returned (.int .i64 0)∧w=w':=by
 have hS:=aA.start w;have dS:=hv.bj
 go_enter func91,ntmps91
 go_wp2;refine wp_loop_rounds 3 ?_;rw [rounds_succ]
 go_wp2_with (first|((with_reducible refine du (T:=200) ?_);refine ck rfl (lI (T:=200) underlying200 sizeOf38 rfl rfl dS (by omega) (by omega) (by omega) (fun bq oq bO=>?_));replace bO:dM _ _ ⟨bq,oq,none⟩ [.int .i64 0]:=bO;simp only [aD])|(with_reducible refine fP hS isAgg38 ?_))
 first|rw [rounds_succ]
 go_wp2_with (first|((with_reducible refine du (T:=200) ?_);refine ck rfl (lI (T:=200) underlying200 sizeOf38 rfl rfl dS (by omega) (by omega) (by omega) (fun bq oq bO=>?_));replace bO:dM _ _ ⟨bq,oq,none⟩ [.int .i64 0]:=bO;simp only [aD])|(with_reducible refine fP hS isAgg38 ?_))
 first|rw [rounds_succ]
 go_wp2;go_ret;exact⟨rfl,rfl⟩
theorem aCo (ad:Option Addr) (n c:Nat) (prs:List PR) (l:List Pt) (p:PR) (q:Pt) (w:World) (S:Nat→Prop) (hv:PL w S (.slice ad n c) prs l) (hp:dh w S p q) (hL:aP w S) (qW:l.Pairwise Pt.lt) (hle:l.length≤1000000) :
 Calls prog 51 #[.slice ad n c,.agg #[.bool p.x.num.neg,.slice p.x.num.ad p.x.num.n p.x.num.cap,.bool p.x.less.neg,.slice p.x.less.ad p.x.less.n p.x.less.cap,.bool p.y.num.neg,.slice p.y.num.ad p.y.num.n p.y.num.cap,.bool p.y.less.neg,.slice p.y.less.ad p.y.less.n p.y.less.cap]] w fun e w'=>(∃ i,vw l q i∧e=.returned (.tuple #[.int .i64 (i:Int),.bool (decide (i<l.length∧nth au l i=q))]))∧Pure w S w' S:=by
 have hb:=fun w' (hv:PL w' S (.slice ad n c) prs l) hp hL=>aJn ad n c prs l p q w' S hv hp hL qW hle
 obtain⟨hS,aC,bC,bD⟩:=eR hL
 go_enter func51,ntmps51
 go_wp2_with (with_reducible first|refine cI (T:=55) (v:=.agg _) hS fun bx cu hS=>?_|refine bA 1 hS isAgg55 sizeOf55 ?_)
 refine (hb _ (hv.at hS aC) (hp.at hS aC) (aP.at hS aC)).mono ?_;rintro e w' ⟨⟨i,hi,rfl⟩,hq⟩;replace hS:=hS.aj aC bC bD hq;obtain⟨F1,aG,-,bB,av,hS⟩:=hS;replace hi:=Hd hi;obtain⟨d,hd⟩:∃ d,decide (i<l.length∧nth au l i=q)=d:=⟨_,rfl⟩;rw [hd];replace hd:=Hd hd;simp only [];go_wp2;refine bodyPost_ret (results_tmp2 rfl _ _ _) rfl ?_;exact⟨⟨i,hi.out,by rw [hd.out];rfl⟩,bB.step hS av aG⟩
theorem aOI (os:List Sz) (gs:List Gp) (ao ap:Option Addr) (no co np cp:Nat) (w:World) (S:Nat→Prop) (cJ:∀ t ∈ os,t.ok) (qm:∀ g ∈ gs,g.ok) (hv:bN w S 4 (.slice ao no co) os.length (os.flatMap sc)) (hg:bN w S 2 (.slice ap np cp) gs.length (gs.flatMap gc)) (dg:os.length≤512) (hlg:gs.length≤256) :
 Calls prog 41 #[.slice ao no co,.slice ap np cp] w fun e w'=>e=.returned (.int .i64 0)∧Pure w (fun _=>False) w' (fun _=>False):=by
 obtain rfl:no=os.length:=by obtain⟨h1,a,cap,h2,_⟩:=hv;cases h2;rfl
 obtain rfl:np=gs.length:=by obtain⟨h1,a,cap,h2,_⟩:=hg;cases h2;rfl
 have dS:=hv.bj;have jG:=hg.bj;have eo:decide ((512:Int)<(os.length:Int))=false:=by simp;omega
 have fH:decide ((256:Int)<(gs.length:Int))=false:=by simp;omega
 clear hv hg;have hS:=aA.start w
 go_enter func41,ntmps41
 go_wp2
 go_loopw [21] (fun v wr=>∃ k:Nat,k≤os.length∧v=.int .i64 (k:Int)∧aA w wr [.aH (Old w) w]) (fun v _=>os.length - (intOf v).toNat)
 case atStart=>exact⟨0,by omega,rfl,hS⟩
 case round =>
  clear hS;obtain⟨k,hk,rfl,hS⟩:=hrel
  by_cases cW:k<os.length
  ·obtain⟨t,ht⟩:∃ t,nth s0 os k=t:=⟨_,rfl⟩
   have hc:=eS tc s0 cW;rw [ht] at hc;have pI:=cJ t (by rw [← ht];exact cQ s0 os k cW);have v1:=fun w=>a0L t.a.x t.a.y w pI.1.1 pI.1.2
   have v2:=fun w=>a0L t.b.x t.b.y w pI.2.1.1 pI.2.1.2
   have bJ:=pI.2.2;have HE:∀ w,(Op.equalIn 10000 43 (.agg #[.int .i64 t.a.x,.int .i64 t.a.y]) (.agg #[.int .i64 t.b.x,.int .i64 t.b.y])).run prog w=.ok false w:=fun w=>by rw [pv,decide_eq_false bJ]
   clear ht pI bJ
   go_wp2_with (with_reducible first|refine iH underlying23 sizeOf94 dS hc fun bq oq bO=>?_|refine j9 hS isAgg94 sizeOf94 ?_|refine bH hS zeroValue94 fun b6 xz hS=>?_|refine aJ (u:=.agg #[_,_,_,_]) 1 hS sizeOf94 fun _ hS=>?_)
   refine dB [.p 0,.r 1,.p 3,.r 4,.e 2,.e 5,.e 6,.e 7,.p 8] [] hS fun w1 hS=>?_
   have hC:=hS
   repeat (with_reducible first|refine tf 1 isAgg43 sizeOf43 ?_|refine bU ?_)
   refine aZ ?_
   go_wp2_with (fail)
   refine (v1 _).mono ?_;rintro e w' ⟨rfl,hq⟩;simp only [];go_step;have hS:=hS.below hq.below hq.drawn;have hC:=hC.below hq.below hq.drawn;refine aX hC ?_;refine aM ?_;refine aZ ?_
   go_wp2_with (fail)
   refine (v2 _).mono ?_;rintro e w' ⟨rfl,hq⟩;simp only [];go_step;have hS:=hS.below hq.below hq.drawn;have hC:=hC.below hq.below hq.drawn;refine aX hC ?_;refine aM ?_;refine aZ ?_
   ((with_reducible refine dV (T:=200) ?_);refine nc (k:=1) (z:=.int .i64 0) (len:=2) hS underlying200 sizeOf38 zeroValue38 (by decide) (by decide) (a8x _ _) (fun b31 aWL hS=>?_);simp only [aD];simp only [aK] at hS)
   refine aX hS.sb ?_;refine aM ?_;refine aZ ?_
   go_wp2_with (fail)
   refine (aWt b31 _ _ (bN.ve (k:=1) (n:=2) hS (bW (i:=2) rfl) rfl (by decide))).mono ?_;rintro e w' ⟨rfl,rfl⟩;simp only [];go_step;refine aX hS.sb ?_;refine aM ?_;refine bE ?_;clear hC
   go_wp2_with (with_reducible refine eW 1 hS isAgg43 sizeOf43 ?_)
   go_roundw
   case rel=>exact⟨k+1,by omega,rfl,hS.sb⟩
   case measure=>simp [intOf];omega
  ·obtain rfl:k=os.length:=by omega
   go_wp2
   go_loopw [44] (fun v wr=>∃ k:Nat,k≤gs.length∧v=.int .i64 (k:Int)∧aA w wr [.aH (Old w) w]) (fun v _=>gs.length - (intOf v).toNat)
   case atStart=>exact⟨0,by omega,rfl,hS⟩
   case round =>
    clear hS;obtain⟨k,hk,rfl,hS⟩:=hrel
    by_cases cW:k<gs.length
    ·obtain⟨p,hp⟩:∃ p,nth g0 gs k=p:=⟨_,rfl⟩
     have hc:=eS yT g0 cW;rw [hp] at hc;have ho:=qm p (by rw [← hp];exact cQ g0 gs k cW);have vW:=fun w=>a0L p.x p.y w ho.1 ho.2
     clear hp ho
     go_wp2_with (first|(with_reducible first|refine iH underlying24 sizeOf43 jG hc fun bq oq bO=>?_|refine j9 hS isAgg43 sizeOf43 ?_|refine bH hS zeroValue43 fun bp wbp hS=>?_|refine aJ (u:=.agg #[_,_]) 1 hS sizeOf43 fun _ hS=>?_|refine bA 1 hS isAgg43 sizeOf43 ?_)|(go_at_call 92;refine (vW _).mono ?_;rintro e w' ⟨rfl,hq⟩;have hS:=hS.below hq.below hq.drawn))
     go_roundw
     case rel=>exact⟨k+1,by omega,rfl,hS.sb⟩
     case measure=>simp [intOf];omega
    ·obtain rfl:k=gs.length:=by omega
     go_wp2;go_ret;exact⟨rfl,hS.pure _⟩
section
variable {P:Program} {ops:Array Oper} {Q:Exit→Act→World→Prop} {rest:List Oper} {a:Act} {w w0:World} {H:List Chunk}
variable {dst:Option Tmp} {ty T E:TypeId} {pos:String} {ak:Array Edge} {gd:Option (Nat × Bool)}
theorem a7F {k:Nat} (hS:aA w0 w H) (hu:P.underlying T=some (.slice E)) (dJ:∀ w,(sizeOf E).run P w=.ok k w) (hg:Region.wanted ⟨dst,.buildSlice T 0 #[],ty,pos,ak,gd⟩ (yielded ops a.tmps)=true)
 (hk:∀ b w',aA w0 w' (H++[.row (.slice (some ⟨b,0,none⟩) 0 0) E k 0 []])→wpList P ops Q rest (a.put dst (.slice (some ⟨b,0,none⟩) 0 0)) w'):wpList P ops Q (⟨dst,.buildSlice T 0 #[],ty,pos,ak,gd⟩::rest) a w:=by
 have hA:=(hS.alloc (.cells #[] E (0,0)));have hR:=hA.uj (k:=k) (m:=0) (g:=w.heap.size) (arr:=#[]) (Tb:=E) H.length (by simp) (by simp) (by decide)
 have o9:aA w0 (w.alloc (.cells #[] E (0,0))) (H++[.row (.slice (some ⟨w.heap.size,0,none⟩) 0 0) E k 0 []]):=by
  simpa using hR
 refine lx (w':=w.alloc (.cells #[] E (0,0))) (v:=.slice (some ⟨w.heap.size,0,none⟩) 0 0) hg ?_ (hk _ _ o9);generalize a.eval=ρ;have h0:∀ f:Nat→Value,(Array.range 0).map f=#[]:=fun f=>by simp
 have h1:¬ ((0:Nat) > 2 ^ 24):=by decide
 simp only [execOp,Instr.buildSlice,Sem.run_bind,run_underlying hu,dJ,Result.andThen_ok,Nat.zero_mul,h0,if_neg h1,if_true,Sem.run_pure];have h2:Instr.fill (fun i=>some (i*k,k)) #[] (Array.map (fun x:Nat × Operand=>(x.1,ρ x.2)) #[]).toList=some #[]:=by simp [Instr.fill]
 rw [h2]
 rfl
end
theorem a27:(prog.info? 43).map (fun i=>(i.zero,i.size,i.bytes))=some (some (.agg #[.int .i64 g0.x,.int .i64 g0.y]),2,16):=by kernel_rfl
theorem aDj (l:List Gp):∀ v ∈ l.flatMap gc,v.oneCell'=true:=by
 intro v hv;obtain⟨p,_,h⟩:=List.mem_flatMap.1 hv;simp only [gc,List.mem_cons,List.not_mem_nil,or_false] at h
 rcases h with rfl|rfl <;> rfl
theorem aB2 {w:World} {S:Nat→Prop} {k n c m:Nat} {cs:List Value} (h:bN w S k (.slice none n c) m cs):n=0∧c=0∧m=0∧cs=[]:=by
 obtain⟨h1,a,cap,h2,h3,h4,h5,h6⟩:=h;simp only [Value.slice.injEq] at h2;obtain⟨rfl,rfl,rfl⟩:=h2;have:=h5 rfl;obtain⟨e1,e2⟩:=this;subst e1;subst e2;exact⟨rfl,rfl,rfl,List.eq_nil_of_length_eq_zero (by omega)⟩
theorem aNn (ad:Option Addr) (n c:Nat) (l:List Sz) (w:World) (S:Nat→Prop) (hv:bN w S 4 (.slice ad n c) l.length (l.flatMap sc)) (hL:aP w S) (hle:l.length≤1000000) :
 Calls prog 42 #[.slice ad n c] w fun e w'=>∃ gD c' S',e=.returned (.slice gD n c')∧Pure w S w' S'∧bN w' S' 4 (.slice gD n c') l.length (l.flatMap sc):=by
 obtain rfl:n=l.length:=by obtain⟨h1,a,cap,h2,_⟩:=hv;cases h2;rfl
 have qT:∀ (w:World) (a:Option Addr) (n c n' c':Nat),(binOp .eql 23 (.slice a n c) (.slice none n' c')).run prog w=.ok (.bool a.isNone) w:=fun w a n c n' c'=>Lib.run_eql_slice_nil w _ _ a n c n' c' underlying23
 have hS:=aA.start w;have aC:=hL;cases ad with
 | none =>
  obtain⟨h1,rfl,h3,h4⟩:=aB2 hv;have hl:l=[]:=List.eq_nil_of_length_eq_zero h1;subst hl
  go_enter func42,ntmps42
  go_wp2;go_ret;exact⟨none,0,S,rfl,hS.pure S,bN.nil _ _ _⟩
 | some ad =>
  have nF:bN w (Old w) 4 _ _ _:=hv.weaken aC
  go_enter func42,ntmps42
  go_wp2_with (first|((with_reducible refine dV (T:=23) ?_);refine a7F (T:=23) hS underlying23 sizeOf94 rfl (fun b7 _ hS=>?_);simp only [aD];simp only [aK] at hS)|((with_reducible refine eG ?_);refine uA (t:=23) 1 hS underlying23 sM rfl (by decide) rfl rfl rfl nF (by simp) (a2X l) (by omega) (by unfold maxLen;omega) (fun lV c1 _ hS=>?_);simp only [aD];simp only [aK] at hS;simp only [Nat.zero_add,List.nil_append] at hS ⊢))
  go_ret;exact⟨lV,c1,_,rfl,hS.a5W (fun _ h=>h) aC (Pure.refl w S) (bW (i:=0) rfl),(hS.dn 1 rfl).weaken fun k h=>.inr h⟩
theorem aSX (ad:Option Addr) (n c:Nat) (l:List Gp) (w:World) (S:Nat→Prop) (hv:bN w S 2 (.slice ad n c) l.length (l.flatMap gc)) (hL:aP w S) (hle:l.length≤1000000) :
 Calls prog 43 #[.slice ad n c] w fun e w'=>∃ gD c' S',e=.returned (.slice gD n c')∧Pure w S w' S'∧bN w' S' 2 (.slice gD n c') l.length (l.flatMap gc):=by
 obtain rfl:n=l.length:=by obtain⟨h1,a,cap,h2,_⟩:=hv;cases h2;rfl
 have qT:∀ (w:World) (a:Option Addr) (n c n' c':Nat),(binOp .eql 24 (.slice a n c) (.slice none n' c')).run prog w=.ok (.bool a.isNone) w:=fun w a n c n' c'=>Lib.run_eql_slice_nil w _ _ a n c n' c' underlying24
 have hS:=aA.start w;have aC:=hL;cases ad with
 | none =>
  obtain⟨h1,rfl,h3,h4⟩:=aB2 hv;have hl:l=[]:=List.eq_nil_of_length_eq_zero h1;subst hl
  go_enter func43,ntmps43
  go_wp2;go_ret;exact⟨none,0,S,rfl,hS.pure S,bN.nil _ _ _⟩
 | some ad =>
  have nF:bN w (Old w) 2 _ _ _:=hv.weaken aC
  go_enter func43,ntmps43
  go_wp2_with (first|((with_reducible refine dV (T:=24) ?_);refine a7F (T:=24) hS underlying24 sizeOf43 rfl (fun b7 _ hS=>?_);simp only [aD];simp only [aK] at hS)|((with_reducible refine eG ?_);refine uA (t:=24) 1 hS underlying24 a27 rfl (by decide) rfl rfl rfl nF (by simp) (aDj l) (by omega) (by unfold maxLen;omega) (fun lV c1 _ hS=>?_);simp only [aD];simp only [aK] at hS;simp only [Nat.zero_add,List.nil_append] at hS ⊢))
  go_ret;exact⟨lV,c1,_,rfl,hS.a5W (fun _ h=>h) aC (Pure.refl w S) (bW (i:=0) rfl),(hS.dn 1 rfl).weaken fun k h=>.inr h⟩
def sG (ad:Option Addr) (c j m k:Nat):Value:=.slice (if c=j then ad else ad.map (·.add (j*k))) (m - j) (c - j)
theorem bN.sub {w:World} {S:Nat→Prop} {k n c j m:Nat} {ad:Option Addr} {cs:List Value} (h:bN w S k (.slice ad n c) n cs) (hj:j≤m) (hm:m≤n):bN w S k (sG ad c j m k) (m - j) ((cs.take (m*k)).drop (j*k)):=by
 obtain⟨h1,a,cap,h2,h3,h4,h5,h6⟩:=h;simp only [Value.slice.injEq] at h2;obtain⟨rfl,-,rfl⟩:=h2;have vi:m*k≤n*k:=Nat.mul_le_mul_right k hm
 have hlen:((cs.take (m*k)).drop (j*k)).length=(m - j)*k:=by
  rw [List.length_drop,List.length_take,Nat.min_eq_left (by omega),Nat.sub_mul]
 refine⟨hlen,_,_,rfl,by omega,by omega,?_,?_⟩
 ·intro e
  split at e
  ·subst e;have:=h5 rfl;omega
  ·cases ad with
   | none=>have:=h5 rfl;omega
   | some x=>simp at e
 ·intro x hx
  have kJ:∀ i u,((cs.take (m*k)).drop (j*k))[i]? = some u→cs[j*k+i]? = some u:=by
   intro i u hu;rw [List.getElem?_drop,List.getElem?_take] at hu
   split at hu
   ·exact hu
   ·cases hu
  have bJ:((cs.take (m*k)).drop (j*k))≠[]→cs≠[]:=fun h e=>h (by rw [e];simp)
  by_cases hcj:c=j
  ·have he:((cs.take (m*k)).drop (j*k))=[]:=List.eq_nil_of_length_eq_zero (by rw [hlen,show m - j=0 by omega,Nat.zero_mul])
   rw [he];exact⟨fun h=>absurd rfl h,fun h=>absurd rfl h,fun i u hu=>by simp at hu⟩
  ·rw [if_neg hcj] at hx
   cases ad with
   | none=>simp at hx
   | some y =>
    simp only [Option.map_some,Option.some.injEq] at hx;subst hx;have hy:=h6 y rfl;have hb:(y.add (j*k)).block=y.block:=by unfold Addr.add;split <;> rfl
    have ho:(y.add (j*k)).off=y.off+j*k:=by unfold Addr.add;split <;> simp_all
    refine⟨fun h=>?_,fun h=>by rw [hb];exact hy.tO (bJ h),fun i u hu=>?_⟩
    ·have:=hy.spot (bJ h)
     unfold Addr.add;split
     ·exact this
     ·rfl
    ·rw [hb,ho,Nat.add_assoc]
     exact hy.cell _ u (kJ i u hu)
section
variable {P:Program} {ops:Array Oper} {Q:Exit→Act→World→Prop} {rest:List Oper} {a:Act} {w w0:World} {H:List Chunk} {K:Act→Prop}
variable {dst:Option Tmp} {ty T E:TypeId} {pos:String} {ak:Array Edge} {gd:Option (Nat × Bool)} {x lo hi y:Operand}
theorem aGn {ad:Option Addr} {n c m k:Nat} {mv:Int} (hu:P.underlying T=some (.slice E)) (hz:∀ w,(sizeOf E).run P w=.ok k w) (hx:a.eval x=.slice ad n c) (hh:a.eval hi=.int .i64 mv) (fi:mv=(m:Int)) (s8:m≤c) {v:Value} (nC:sG ad c 0 m k=v)
 (hk:K (a.put dst v)):oN P ⟨dst,.slice T x none (some hi) none,ty,pos,ak,gd⟩ a K:=by
 subst fi;subst nC;refine⟨⟨_,fun w'=>?_,hk⟩⟩;generalize a.eval=ρ at hx hh
 have iD:(Instr.sliceBound (.int .i64 (m:Int)) c .sliceAcap).run P w'=.ok m w':=by
  simp [Instr.sliceBound,asIntOf,go_sem,s8]
 simp [execOp,hx,hh,Instr.sliceAt,Instr.slice,Instr.sliceBounds,go_sem,run_underlying hu,iD,hz,sG]
theorem aMr {ad:Option Addr} {n c j k:Nat} {jv:Int} (hu:P.underlying T=some (.slice E)) (hz:∀ w,(sizeOf E).run P w=.ok k w) (hx:a.eval x=.slice ad n c) (hl:a.eval lo=.int .i64 jv) (vh:jv=(j:Int)) (hjn:j≤n) {v:Value} (nC:sG ad c j n k=v)
 (hk:K (a.put dst v)):oN P ⟨dst,.slice T x (some lo) none none,ty,pos,ak,gd⟩ a K:=by
 subst vh;subst nC;refine⟨⟨_,fun w'=>?_,hk⟩⟩;generalize a.eval=ρ at hx hl
 have iD:(Instr.sliceBound (.int .i64 (j:Int)) n .sliceB).run P w'=.ok j w':=by
  simp [Instr.sliceBound,asIntOf,go_sem,hjn]
 simp [execOp,hx,hl,Instr.sliceAt,Instr.slice,Instr.sliceBounds,go_sem,run_underlying hu,iD,hz,sG]
theorem aMR {k m:Nat} {mv:Int} {z:Value} {bytes:Nat} {tn:TypeId} {kn:IntKind} (hS:aA w0 w H) (hu:P.underlying T=some (.slice E)) (htn:P.underlying tn=some (.int kn)) (ky:(P.info? E).map (fun i=>(i.zero,i.size,i.bytes))=some (some z,k,bytes)) (kE:0<k) (hzk:z.cells.size=k)
 (hx:a.eval x=.slice none 0 0) (hy:a.eval y=.int .i64 mv) (fi:mv=(m:Int)) (wA:0<m) (sk:m*bytes≤140737488355328) (uP:m≤9223372036854775807)
 (hk:∀ b G arr w',aA w0 w' (H++[.aB b (.cells arr E (0,0))])→arr.size=G*k→m≤G→G≤maxLen→wpList P ops Q rest (a.put dst (.slice (some ⟨b,0,none⟩) m G)) w') :
 wpList P ops Q (⟨dst,.call ⟨.builtin .append,#[x,y],#[T,tn]⟩,ty,pos,ak,none⟩::rest) a w:=by
 subst fi;obtain⟨inf,hi,hz,dJ,jm⟩:=info_parts ky;have hold:(Builtin.firstCells inf.size 0 (.slice none 0 0)).run P w.drew=.ok ([]:List Value).toArray w.drew:=rfl;have hr:=Lib.run_append_grow_zeros (P:=P) w T tn ty E inf z .i64 kn hu htn hi hz none 0 0 [] hold m wA (by omega) (by omega) (by omega) (by rw [jm];omega) (by rw [jm];exact growslice_fits (by omega) (by simpa using sk));have hG1:m≤grownCap w m 0 E:=grownCap_ge w _ _ _;have pW:grownCap w m 0 E≤maxLen:=grownCap_le_maxLen w m 0 E (by unfold maxLen;omega);simp only [Nat.zero_add] at hr;refine Lib.wpList_append_run w rfl x y T tn rfl _ _ hx hy _ _ hr (hk w.heap.size (grownCap w m 0 E) _ _ (hS.drew.alloc _) ?_ hG1 pW);simp only [Builtin.zeroCells,hzk,Array.size_append,List.size_toArray,List.length_nil,Array.size_map,Array.size_range];rw [Nat.zero_add,← Nat.add_mul]
 congr 1;omega
end
theorem aS5 (n:Nat) (w:World) (hn:n≤1000000) :
 Calls prog 93 #[.slice none 0 0,.int .i64 (n:Int)] w fun e w'=>∃ ad c,e=.returned (.slice ad 0 c)∧aA w w' [.aH (Old w) w,.row (.slice ad 0 c) 94 4 0 []]:=by
 have hS:=aA.start w
 by_cases h0:n=0
 ·subst h0
  go_enter func93,ntmps93
  go_wp2;go_ret;exact⟨none,0,rfl,hS.iB 94 4⟩
 ·have hd:decide (0<n)=true:=by simp;omega
  have w1:IntKind.i64.wrap (n:Int)=(n:Int):=w6
  go_enter func93,ntmps93
  go_wp2_with (first|((with_reducible refine eG ?_);refine aMR (m:=n) (T:=23) (E:=94) (tn:=3) (k:=4) hS underlying23 underlying3 sM (by decide) rfl rfl rfl (by omega) (by omega) (by omega) (by omega) (fun b G arr _ hS a9Z hG1 pW=>?_);simp only [aD];simp only [aK] at hS))
  go_ret;have hS:=hS.a4d (c:=G) (n:=0) (k:=4) 1 rfl (by simpa using a9Z) (by omega) pW;simp only [List.set_cons_succ,List.set_cons_zero,Nat.zero_mul,List.take_zero] at hS;exact⟨_,_,rfl,hS⟩
theorem aNO (b:Nat) (lV dU:Option Addr) (n1 c1 n2 c2:Nat) (l1 l2:List Sz) (w:World) (S:Nat→Prop) (hL:aP w S) (hb:bN w (fun k=>k=b) 1 (.slice (some ⟨b,0,none⟩) 2 2) 2 [.slice lV n1 c1,.slice dU n2 c2]) (iD:b<w.heap.size)
 (kU:bN w S 4 (.slice lV n1 c1) l1.length (l1.flatMap sc)) (gW:bN w S 4 (.slice dU n2 c2) l2.length (l2.flatMap sc)) (kN:l1.length≤100000) (eJ:l2.length≤100000) :
 Calls prog 44 #[.slice (some ⟨b,0,none⟩) 2 2] w fun e w'=>∃ ad c S',e=.returned (.slice ad (l1++l2).length c)∧Pure w S w' S'∧bN w' S' 4 (.slice ad (l1++l2).length c) (l1++l2).length ((l1++l2).flatMap sc):=by
 obtain rfl:n1=l1.length:=by obtain⟨h1,a,cap,h2,_⟩:=kU;cases h2;rfl
 obtain rfl:n2=l2.length:=by obtain⟨h1,a,cap,h2,_⟩:=gW;cases h2;rfl
 rw [List.length_append,List.flatMap_append];have aNj:bN w (Old w) 4 _ _ _:=kU.weaken hL;have aVS:bN w (Old w) 4 _ _ _:=gW.weaken hL;have hbF:bN w (Old w) 1 _ _ _:=hb.weaken (fun k h=>by rw [h];exact iD);have hS:=aA.start w;have aC:=hL;obtain⟨M,hM⟩:∃ M,M=l1.length+l2.length:=⟨_,rfl⟩;have w1:IntKind.i64.wrap (l1.length:Int)=(l1.length:Int):=w6;have w2:IntKind.i64.wrap ((l1.length:Int)+(l2.length:Int))=(M:Int):=w7;have w3:decide ((M:Int)<0)=false:=by simp
 have gr:=fun w=>aS5 M w (by omega)
 replace hM:=Hd hM;clear kU gW hb iD
 go_enter func44,ntmps44
 go_wp2;refine wp_loop_rounds 3 ?_;rw [rounds_succ]
 go_wp2_with (first|((with_reducible refine du (T:=156) ?_);refine ck rfl (lI (T:=156) underlying156 sizeOf23 rfl rfl hbF (by omega) (by omega) (by omega) (fun bq oq bO=>?_));replace bO:dM _ _ ⟨bq,oq,none⟩ [.slice lV l1.length c1]:=bO;simp only [aD])|(with_reducible refine fP hS isAgg23 ?_))
 first|rw [rounds_succ]
 go_wp2_with (first|((with_reducible refine du (T:=156) ?_);refine ck rfl (lI (T:=156) underlying156 sizeOf23 rfl rfl hbF (by omega) (by omega) (by omega) (fun bq oq bO=>?_));replace bO:dM _ _ ⟨bq,oq,none⟩ [.slice dU l2.length c2]:=bO;simp only [aD])|(with_reducible refine fP hS isAgg23 ?_))
 first|rw [rounds_succ]
 go_wp2_with (fail)
 refine (gr _).mono ?_;rintro e w' ⟨ad,c,rfl,hG⟩;have cK:=hS.import hG;clear hS hG gr;have hS:=cK;clear cK;simp only [aK] at hS;simp only [];go_wp2;refine wp_loop_rounds 3 ?_;rw [rounds_succ]
 go_wp2_with (first|((with_reducible refine du (T:=156) ?_);refine ck rfl (lI (T:=156) underlying156 sizeOf23 rfl rfl hbF (by omega) (by omega) (by omega) (fun bq oq bO=>?_));replace bO:dM _ _ ⟨bq,oq,none⟩ [.slice lV l1.length c1]:=bO;simp only [aD])|(with_reducible refine fP hS isAgg23 ?_)|((with_reducible refine eG ?_);refine uA (t:=23) 1 hS underlying23 sM rfl (by decide) rfl rfl rfl aNj (by simp) (a2X l1) (by omega) (by unfold maxLen;omega) (fun _ _ _ hS=>?_);simp only [aD];simp only [aK] at hS;try simp only [Nat.zero_add,List.nil_append] at hS ⊢))
 first|rw [rounds_succ]
 go_wp2_with (first|((with_reducible refine du (T:=156) ?_);refine ck rfl (lI (T:=156) underlying156 sizeOf23 rfl rfl hbF (by omega) (by omega) (by omega) (fun bq oq bO=>?_));replace bO:dM _ _ ⟨bq,oq,none⟩ [.slice dU l2.length c2]:=bO;simp only [aD])|(with_reducible refine fP hS isAgg23 ?_)|((with_reducible refine eG ?_);refine uA (t:=23) 1 hS underlying23 sM rfl (by decide) rfl rfl rfl aVS (by simp) (a2X l2) (by omega) (by unfold maxLen;omega) (fun _ _ _ hS=>?_);simp only [aD];simp only [aK] at hS;try simp only [Nat.zero_add,List.nil_append] at hS ⊢))
 first|rw [rounds_succ]
 go_wp2;go_ret;exact⟨_,_,_,rfl,hS.a5W (fun _ h=>h) aC (Pure.refl w S) (bW (i:=0) rfl),(hS.dn 1 rfl).weaken fun k h=>.inr h⟩
structure Ed where
 a:Nat
 b:Nat
 of:List Nat
 dir:Gp
def ah:Ed:=⟨0,0,[],g0⟩
structure ER where
 a:Nat
 b:Nat
 ad:Option Addr
 n:Nat
 c:Nat
 dir:Gp
def jk:ER:=⟨0,0,none,0,0,g0⟩
def ec (e:ER):List Value:=[.int .i64 e.a,.int .i64 e.b,.slice e.ad e.n e.c,.int .i64 e.dir.x,.int .i64 e.dir.y]
theorem sU (e:ER):(ec e).length=5:=rfl
theorem aVn (l:List ER):∀ v ∈ l.flatMap ec,v.oneCell'=true:=by
 intro v hv;obtain⟨p,_,h⟩:=List.mem_flatMap.1 hv;simp only [ec,List.mem_cons,List.not_mem_nil,or_false] at h
 rcases h with rfl|rfl|rfl|rfl|rfl <;> rfl
structure ta (w:World) (S:Nat→Prop) (r:ER) (e:Ed):Prop where
 a:r.a=e.a
 b:r.b=e.b
 dir:r.dir=e.dir
 of:jZ w S (.slice r.ad r.n r.c) e.of
structure kP (w:World) (S:Nat→Prop) (rs:List ER) (es:List Ed):Prop where
 len:rs.length=es.length
 el:∀ i,i<es.length→ta w S (nth jk rs i) (nth ah es i)
theorem jZ.move {w wr:World} {S:Nat→Prop} {v:Value} {xs:List Nat} (h:jZ wr S v xs) (hk:∀ k,S k→w.heap[k]? = wr.heap[k]?):jZ w S v xs:=⟨h.1.move hk,h.2⟩
theorem jZ.grow {w w':World} {S S':Nat→Prop} {v:Value} {xs:List Nat} (h:jZ w S v xs) (hp:Pure w S w' S'):jZ w' S' v xs:=⟨h.1.grow hp,h.2⟩
theorem ta.move {w wr:World} {S:Nat→Prop} {r:ER} {e:Ed} (h:ta wr S r e) (hk:∀ k,S k→w.heap[k]? = wr.heap[k]?):ta w S r e:=⟨h.a,h.b,h.dir,h.of.move hk⟩
theorem ta.grow {w w':World} {S S':Nat→Prop} {r:ER} {e:Ed} (h:ta w S r e) (hp:Pure w S w' S'):ta w' S' r e:=⟨h.a,h.b,h.dir,h.of.grow hp⟩
theorem ta.weaken {w:World} {S T:Nat→Prop} {r:ER} {e:Ed} (h:ta w S r e) (iU:∀ k,S k→T k):ta w T r e:=⟨h.a,h.b,h.dir,h.of.weaken iU⟩
theorem kP.move {w wr:World} {S:Nat→Prop} {rs:List ER} {es:List Ed} (h:kP wr S rs es) (hk:∀ k,S k→w.heap[k]? = wr.heap[k]?):kP w S rs es:=⟨h.len,fun i hi=>(h.el i hi).move hk⟩
theorem kP.at {w0 w wr:World} {H:List Chunk} {F S:Nat→Prop} {rs:List ER} {es:List Ed} (h:kP wr S rs es) (hS:aA w0 w (.aH F wr::H)) (hF:∀ k,S k→F k):kP w S rs es:=h.move (hS.da hF)
theorem kP.grow {w w':World} {S S':Nat→Prop} {rs:List ER} {es:List Ed} (h:kP w S rs es) (hp:Pure w S w' S'):kP w' S' rs es:=⟨h.len,fun i hi=>(h.el i hi).grow hp⟩
theorem kP.weaken {w:World} {S T:Nat→Prop} {rs:List ER} {es:List Ed} (h:kP w S rs es) (iU:∀ k,S k→T k):kP w T rs es:=⟨h.len,fun i hi=>(h.el i hi).weaken iU⟩
theorem kP.nil (w:World) (S:Nat→Prop):kP w S [] []:=⟨rfl,fun i hi=>by simp at hi⟩
theorem kP.snoc {w:World} {S:Nat→Prop} {rs:List ER} {es:List Ed} (h:kP w S rs es) {r:ER} {e:Ed} (hr:ta w S r e):kP w S (rs++[r]) (es++[e]):=by
 have hl:=h.len;refine⟨by simp [hl],fun i hi=>?_⟩;simp only [List.length_append,List.length_singleton] at hi
 rcases Nat.lt_or_ge i es.length with h1|h1
 ·rw [ju _ _ _ _ h1,ju _ _ _ _ (by omega)];exact h.el i h1
 ·obtain rfl:i=es.length:=by omega
  rw [uE,← hl,uE];exact hr
theorem ez.snoc {w:World} {S:Nat→Prop} {rs:List PR} {es:List Pt} (h:ez w S rs es) {r:PR} {e:Pt} (hr:dh w S r e):ez w S (rs++[r]) (es++[e]):=by
 have hl:=h.len;refine⟨by simp [hl],fun i hi=>?_⟩;simp only [List.length_append,List.length_singleton] at hi
 rcases Nat.lt_or_ge i es.length with h1|h1
 ·rw [ju _ _ _ _ h1,ju _ _ _ _ (by omega)];exact h.el i h1
 ·obtain rfl:i=es.length:=by omega
  rw [uE,← hl,uE];exact hr
theorem ez.append {w:World} {S:Nat→Prop} {rs rs2:List PR} {es es2:List Pt} (h:ez w S rs es) (h2:ez w S rs2 es2):ez w S (rs++rs2) (es++es2):=by
 have hl:=h.len;have eJ:=h2.len;refine⟨by simp [hl,eJ],fun i hi=>?_⟩;rw [List.length_append] at hi
 rcases Nat.lt_or_ge i es.length with h1|h1
 ·rw [ju _ _ _ _ h1,ju _ _ _ _ (by omega)];exact h.el i h1
 ·rw [aHe _ _ _ _ h1,aHe _ _ _ _ (by omega),hl];exact h2.el _ (by omega)
theorem dM.part {w:World} {S:Nat→Prop} {b o:Nat} {cs:List Value} (h:dM w S ⟨b,o,none⟩ cs) (i k:Nat):dM w S ⟨b,o+i,none⟩ ((cs.drop i).take k):=by
 refine⟨fun _=>rfl,fun bJ=>h.tO (fun e=>bJ (by rw [e];simp)),fun j u hu=>?_⟩;rw [List.getElem?_take] at hu
 split at hu
 ·rw [List.getElem?_drop] at hu
  have:=h.cell (i+j) u hu
  simpa [Nat.add_assoc] using this
 ·cases hu
def pH (n k:Nat):List Nat:=List.range k++List.replicate (n - k) 0
theorem a6E {n k:Nat} (h:k≤n):(pH n k).length=n:=by simp [pH];omega
theorem aNJ {n k:Nat} (h:k<n):(pH n k).set k k=pH n (k+1):=by
 unfold pH;rw [List.set_append_right _ _ (by simp),List.length_range,Nat.sub_self];have e:n - k=(n - (k+1))+1:=by omega
 rw [e,List.replicate_succ,List.set_cons_zero,List.range_succ,List.append_assoc]
 rfl
theorem aTR (n:Nat):mZ (pH n n)∧∀ u,u<n→rep (pH n n) u=u:=by
 have hn:∀ u,u<n→nth 0 (pH n n) u=u:=fun u hu=>by
  rw [bS _ _ _ (by rw [a6E (Nat.le_refl _)];exact hu)];unfold pH;rw [List.getElem_append_left (by simpa using hu)];simp
 have hF:mZ (pH n n):=⟨fun u hu=>by rw [a6E (Nat.le_refl _)] at hu;rw [hn u hu];exact Nat.le_refl _⟩;exact⟨hF,fun u hu=>th hF (by rw [a6E (Nat.le_refl _)];exact hu) (hn u hu)⟩
theorem aGB (L:List Nat) (i x:Nat):(zs L).set i ((x:Nat):Int)=zs (L.set i x):=by simp [zs]
def gT (es:List Ed):List (Nat × Nat):=es.map fun e=>(e.a,e.b)
theorem aEb {es:List Ed} {k:Nat} (h:k<es.length):nth (0,0) (gT es) k=((nth ah es k).a,(nth ah es k).b):=by
 rw [bS _ _ _ (by simp [gT];exact h),bS _ _ _ h];simp [gT]
theorem aWw {E:List (Nat × Nat)} {L:List Nat} {n k a b p q:Nat} (hF:mZ L) (hl:L.length=n) (hr:∀ u,u<n→rep L u=comp E k u) (he:nth (0,0) E k=(a,b)) (ha:a<n) (hb:b<n) (hp:p=max (comp E k a) (comp E k b)) (hq:q=min (comp E k a) (comp E k b)) :
 mZ (L.set p q)∧∀ u,u<n→rep (L.set p q) u=comp E (k+1) u:=by
 have h1:=hr a ha;have h2:=hr b hb;have la:=a3T hF (show a<L.length by omega);have lb:=a3T hF (show b<L.length by omega);have ra:=(a6i hF a (by omega)).2;have rb:=(a6i hF b (by omega)).2;have jP:p<L.length:=by rw [hp,← h1,← h2];omega
 have uJ:q<L.length:=by rw [hq,← h1,← h2];omega
 have hpr:nth 0 L p=p:=by
  rw [hp,← h1,← h2]
  rcases Nat.le_total (rep L a) (rep L b) with h|h
  ·rw [Nat.max_eq_right h];exact rb
  ·rw [Nat.max_eq_left h];exact ra
 have hqr:nth 0 L q=q:=by
  rw [hq,← h1,← h2]
  rcases Nat.le_total (rep L a) (rep L b) with h|h
  ·rw [Nat.min_eq_left h];exact ra
  ·rw [Nat.min_eq_right h];exact rb
 obtain⟨aQ,cT⟩:=aNR hF jP uJ hpr hqr (by omega);refine⟨aQ,fun u hu=>?_⟩;rw [cT u (by omega),hr u hu];show _=if comp E k u=max (comp E k (nth (0,0) E k).1) (comp E k (nth (0,0) E k).2) then min (comp E k (nth (0,0) E k).1) (comp E k (nth (0,0) E k).2) else comp E k u
 rw [he,hp,hq]
theorem aWB (a1 a2 a3 a4:Option Addr) (n1 c1 n2 c2 n c3 n4 c4:Nat) (rs:List ER) (es:List Ed) (w:World) (S:Nat→Prop) (hL:aP w S) (bh:bN w S 5 (.slice a4 n4 c4) es.length (rs.flatMap ec)) (dW:kP w S rs es) (hn:n≤65536) (gV:es.length≤400000) (bV:∀ e ∈ es,e.a<n∧e.b<n) :
 Calls prog 7 #[.agg #[.slice a1 n1 c1,.slice a2 n2 c2,.slice a3 n c3,.slice a4 n4 c4]] w fun e w'=>∃ g c,e=.returned (.slice (some ⟨g,0,none⟩) n c)∧aA w w' [.aH (Old w) w,.row (.slice (some ⟨g,0,none⟩) n c) 3 1 n (iv (zs (nK (gT es) n)))]:=by
 have j6:n4=es.length:=by obtain⟨h1,a,cap,h2,_⟩:=bh;cases h2;rfl
 subst j6;have bh:=bh.bj;have hS:=aA.start w
 go_enter func7,ntmps7
 go_wp2_with (first|(with_reducible first|refine cI (T:=28) (v:=.agg _) hS fun bx cu hS=>?_|refine aU 1 hS isAgg25 ?_)|((with_reducible refine r7 (T:=22) ?_);refine a9J (n:=n) (T:=22) (E:=3) hS underlying22 a0A rfl rfl (by omega) (by omega) (fun g wg hS=>?_);simp only [aD];simp only [aK] at hS)|(with_reducible first|refine bH hS zeroValue22 fun bo wbo hS=>?_|refine aJ (u:=.slice _ _ _) 3 hS sizeOf22 fun _ hS=>?_|refine aU 3 hS isAgg22 ?_))
 try try simp only [fA]
 have aLx:zs (pH n 0)=List.replicate n 0:=by simp [pH,zs]
 rw [← aLx] at hS;clear aLx
 go_loopw [17] (fun v17 wr=>∃ k:Nat,k≤n∧v17=.int .i64 (k:Int)∧aA w wr [.aH (Old w) w,.aB bx (.cells #[.slice a1 n1 c1,.slice a2 n2 c2,.slice a3 n c3,.slice a4 es.length c4] 28 (0,0)),.row (.slice (some ⟨g,0,none⟩) n n) 3 1 n (iv (zs (pH n k))),.aB bo (.cells #[.slice (some ⟨g,0,none⟩) n n] 22 (0,0))]) (fun v17 _=>n - (intOf v17).toNat)
 case atStart=>exact⟨0,by omega,rfl,hS⟩
 case round =>
  clear hS;obtain⟨k,hk,rfl,hS⟩:=hrel
  by_cases cW:k<n
  ·have cA:(zs (pH n k)).set k ((k:Nat):Int)=zs (pH n (k+1)):=by rw [aGB,aNJ cW]
   have xU:=a6E hk;replace cA:=Hd cA
   go_wp2_with (with_reducible first|refine aU 3 hS isAgg22 ?_|refine kW underlying22 sizeOf3 ?_|refine xS 2 hS sizeOf3 fun _ hS=>?_)
   go_roundw
   case rel=>exact⟨k+1,by omega,by simp,by rw [← cA.out];exact hS⟩
   case measure=>simp [intOf];omega
  ·obtain rfl:n=k:=by omega
   obtain⟨hF,hr⟩:=aTR n;have hl:=a6E (Nat.le_refl n);obtain⟨L,hLL⟩:∃ L,pH n n=L:=⟨_,rfl⟩;rw [hLL] at hF hr hl hS;clear hLL hk cW;replace hF:=Hd hF;replace hr:=Hd hr;replace hl:=Hd hl
   go_wp2_with (with_reducible first|refine bH hS zeroValue80 fun br fu hS=>?_|refine aJ (u:=.func _ _ _) 4 hS sizeOf80 fun _ hS=>?_|refine aU 1 hS isAgg26 ?_)
   have hS:=hS.order [0,1,3,4,2] rfl;simp only [iw] at hS
   try try simp only [fA]
   go_loopw [29] (fun v29 wr=>∃ (k:Nat) (L:List Nat),k≤es.length∧v29=.int .i64 (k:Int)∧Hid (mZ L)∧Hid (L.length=n)∧Hid (∀ u,u<n→rep L u=comp (gT es) k u)∧aA w wr [.aH (Old w) w,.aB bx (.cells #[.slice a1 n1 c1,.slice a2 n2 c2,.slice a3 n c3,.slice a4 es.length c4] 28 (0,0)),.aB bo (.cells #[.slice (some ⟨g,0,none⟩) n n] 22 (0,0)),.aB br (.cells #[.func (.func 25) #[] #[.pointer (some ⟨bo,0,none⟩),.pointer (some ⟨br,0,none⟩)]] 80 (0,0)),.row (.slice (some ⟨g,0,none⟩) n n) 3 1 n (iv (zs L))]) (fun v29 _=>es.length - (intOf v29).toNat)
   case atStart=>exact⟨0,L,by omega,rfl,hF,hl,hr,hS⟩
   case round =>
    clear hS;obtain⟨k,L,hk,rfl,hF,hl,hr,hS⟩:=hrel
    by_cases cW:k<es.length
    ·have hc:=eS sU jk (show k<rs.length by rw [dW.len];omega)
     have hE:=dW.el k cW;obtain⟨r,cT⟩:∃ r,nth jk rs k=r:=⟨_,rfl⟩;rw [cT] at hc hE;have aHN:=bV _ (cQ ah es k cW);have gq:=aEb cW;rw [← hE.a,← hE.b] at aHN gq;obtain⟨ha1,oY⟩:=aHN;obtain⟨x,hx⟩:∃ x,comp (gT es) k r.a=x:=⟨_,rfl⟩;obtain⟨y,hy⟩:∃ y,comp (gT es) k r.b=y:=⟨_,rfl⟩;replace hx:=Hd hx;replace hy:=Hd hy;replace gq:=Hd gq;clear hE cT;have hlL:=hl.out
     go_wp2_with (with_reducible first|refine iH underlying26 sizeOf45 bh hc fun bq oq bO=>?_|refine j9 hS isAgg45 sizeOf45 ?_|refine bH hS zeroValue45 fun b7 wb7 hS=>?_|refine aJ (u:=.agg #[_,_,_,_,_]) 5 hS sizeOf45 fun _ hS=>?_)
     have hS:=hS.order [0,1,5,2,3,4] rfl;simp only [iw] at hS;refine qR [.r 0,.p 1,.r 2,.r 4,.p 5,.r 6,.e 3,.e 7,.p 8,.p 9] [] (fun w'=>aA w w' [.aH (Old w) w,.aB bx (.cells #[.slice a1 n1 c1,.slice a2 n2 c2,.slice a3 n c3,.slice a4 es.length c4] 28 (0,0)),.aB b7 (.cells #[.int .i64 (r.a:Int),.int .i64 (r.b:Int),.slice r.ad r.n r.c,.int .i64 r.dir.x,.int .i64 r.dir.y] 45 (0,0)),.aB bo (.cells #[.slice (some ⟨g,0,none⟩) n n] 22 (0,0)),.aB br (.cells #[.func (.func 25) #[] #[.pointer (some ⟨bo,0,none⟩),.pointer (some ⟨br,0,none⟩)]] 80 (0,0))]) (fun w'=>aA w w' _) (by kernel_rfl) (by kernel_rfl) hS.drew (fun _ hZ=>aA.sub hZ (by repeat (first|exact List.Sublist.refl _|apply List.Sublist.cons_cons|apply List.Sublist.cons))) (fun w1 hS=>?_)
     repeat (with_reducible first|refine cZ 4 isAgg80 ?_|refine cZ 2 isAgg3 ?_|refine bU ?_)
     have hxL:rep L r.a=x:=by rw [hr.out r.a ha1];exact hx.out
     have hyL:rep L r.b=y:=by rw [hr.out r.b oY];exact hy.out
     replace hxL:=Hd hxL;replace hyL:=Hd hyL;refine aZ ?_
     go_wp2_with (fail)
     refine (aB8 g n n bo br r.a L _ _ hF.out hl.out ha1 (aA.split (A:=[_,_,_]) hS)).mono ?_;rintro e w' ⟨L1,he,cU,aG,kN,il,eX,kU⟩;rw [hxL.out] at he;subst he;have hS:=aA.su (A:=[_,_,_]) hS cU;simp only [aK] at hS;replace aG:=Hd aG;replace il:=Hd il;replace kN:=Hd kN;clear cU eX kU;simp only [];go_step;refine aX hS.sb ?_;refine aM ?_;refine aZ ?_
     go_wp2_with (fail)
     refine (aB8 g n n bo br r.b L1 _ _ aG.out (by rw [kN.out,hl.out]) oY (aA.split (A:=[_,_,_]) hS)).mono ?_;rintro e w' ⟨L2,he,cU,aQ,eJ,cT,fx,gW⟩;rw [il.out r.b (by omega),hyL.out] at he;subst he;have hS:=aA.su (A:=[_,_,_]) hS cU;simp only [aK] at hS;replace aQ:=Hd aQ;replace cT:=Hd cT;replace eJ:=Hd eJ;clear cU fx gW;simp only [];go_step;refine aX hS.sb ?_;refine aM ?_;refine bE ?_
     have oT:∀ u,u<n→rep L2 u=comp (gT es) k u:=fun u hu=>by
      rw [cT.out u (by rw [kN.out];omega),il.out u (by omega),hr.out u hu]
     have hlc:L2.length=n:=by rw [eJ.out,kN.out,hl.out]
     have fL:x<n:=by rw [← hx.out,← hr.out _ ha1];exact hlL ▸ a3T hF.out (by omega)
     have gY:y<n:=by rw [← hy.out,← hr.out _ oY];exact hlL ▸ a3T hF.out (by omega)
     have kV:=fun p q h1 h2=>aWw (p:=p) (q:=q) aQ.out hlc oT gq.out ha1 oY h1 h2
     rw [hx.out,hy.out] at kV;replace oT:=Hd oT;replace hlc:=Hd hlc;revert hS
     repeat (rename aA _ _ _=>hZ;clear hZ)
     repeat (rename dM _ _ _ _=>hZ;clear hZ)
     repeat (rename Below _ _ _=>hZ;clear hZ)
     intro hS;have cA:=kV (max x y) (min x y) rfl rfl;replace cA:=Hd cA
     have pj:(zs L2).set (max (x:Int) (y:Int)).toNat (min (x:Int) (y:Int))=zs (L2.set (max x y) (min x y)):=by
      rw [← aGB];congr 1 <;> omega
     replace pj:=Hd pj;clear kV
     go_wp2_with (with_reducible first|refine aU 3 hS isAgg22 ?_|refine kW underlying22 sizeOf3 ?_|refine xS 5 hS sizeOf3 fun _ hS=>?_)
     rw [pj.out] at hS;go_roundw
     case rel=>exact⟨k+1,L2.set (max x y) (min x y),by omega,by simp,cA.out.1,by show (L2.set (max x y) (min x y)).length=n;rw [List.length_set];exact hlc.out,cA.out.2,hS.sb⟩
     case measure=>simp [intOf];omega
    ·obtain rfl:es.length=k:=by omega
     obtain⟨C,hCC⟩:∃ C,comp (gT es) es.length=C:=⟨_,rfl⟩;rw [hCC] at hr;have kI:nK (gT es) n=(List.range n).map C:=by unfold nK;rw [← hCC];simp [gT]
     replace hCC:=Hd hCC;replace kI:=Hd kI;clear hk cW
     go_wp2_with (with_reducible refine aU 2 hS isAgg22 ?_)
     try try simp only [fA]
     go_loopw [52] (fun v52 wr=>∃ (k:Nat) (L:List Nat),k≤n∧v52=.int .i64 (k:Int)∧Hid (mZ L)∧Hid (L.length=n)∧Hid (∀ u,u<n→rep L u=C u)∧Hid (∀ u,u<k→nth 0 L u=C u)∧aA w wr [.aH (Old w) w,.aB bx (.cells #[.slice a1 n1 c1,.slice a2 n2 c2,.slice a3 n c3,.slice a4 es.length c4] 28 (0,0)),.aB bo (.cells #[.slice (some ⟨g,0,none⟩) n n] 22 (0,0)),.aB br (.cells #[.func (.func 25) #[] #[.pointer (some ⟨bo,0,none⟩),.pointer (some ⟨br,0,none⟩)]] 80 (0,0)),.row (.slice (some ⟨g,0,none⟩) n n) 3 1 n (iv (zs L))]) (fun v52 _=>n - (intOf v52).toNat)
     case atStart=>exact⟨0,L,by omega,rfl,hF,hl,hr,Hd (fun u hu=>by omega),hS⟩
     case round =>
      clear hS hF hl hr;obtain⟨k,L,hk,rfl,hF,hl,hr,hd,hS⟩:=hrel
      by_cases cW:k<n
      ·have hlL:=hl.out
       go_wp2_with (with_reducible refine aU 3 hS isAgg80 ?_)
       refine (aB8 g n n bo br k L _ _ hF.out hl.out cW (aA.split (A:=[_,_]) hS)).mono ?_;rintro e w' ⟨L1,he,cU,aG,kN,il,eX,kU⟩;subst he;have hS:=aA.su (A:=[_,_]) hS cU;simp only [aK] at hS;replace aG:=Hd aG;have cT:∀ u,u<n→rep L1 u=C u:=fun u hu=>by rw [il u (by omega),hr.out u hu]
       have fH:∀ u,u<k+1→nth 0 L1 u=C u:=fun u hu=>by
        by_cases e:u=k
        ·subst e;rw [kU,hr.out u cW]
        ·rcases eX u (by omega) with h|h
         ·rw [h,hd.out u (by omega)]
         ·rw [h,hr.out u (by omega)]
       have eJ:L1.length=n:=by rw [kN,hlL]
       replace cT:=Hd cT;replace fH:=Hd fH;replace eJ:=Hd eJ;clear cU kN il eX kU;simp only [];go_wp2;go_roundw
       case rel=>exact⟨k+1,L1,by omega,by simp,aG,eJ,cT,fH,hS⟩
       case measure=>simp [intOf];omega
      ·obtain rfl:n=k:=by omega
       have rp:L=(List.range n).map C:=by
        refine yP 0 (by rw [hl.out];simp) (fun i hi=>?_);rw [hl.out] at hi;rw [hd.out i hi,bS _ _ _ (by simpa using hi)];simp
       replace rp:=Hd rp
       go_wp2_with (with_reducible refine aU 2 hS isAgg22 ?_)
       go_ret;exact⟨g,n,rfl,by rw [kI.out,← rp.out];exact hS.sb⟩
def iN (V:List Pt) (es:List Ed) (e x:Nat):Int:=e8 (bT (nth au V (nth ah es e).a) (nth au V (nth ah es e).b) (nth au V x)) 0
def r6 (V:List Pt) (u v:Nat):Bool:=decide ((nth au V u).x≤(nth au V v).x)
structure kC (w:World) (S:Nat→Prop) (a3 a4:Option Addr) (n3 c3 n4 c4:Nat) (rs:List ER) (es:List Ed) (prs:List PR) (V:List Pt) (k:Nat):Prop where
 live:aP w S
 hE:bN w S 5 (.slice a4 n4 c4) es.length (rs.flatMap ec)
 jf:kP w S rs es
 hV:PL w S (.slice a3 n3 c3) prs V
 ab:∀ e ∈ es,e.a<V.length∧e.b<V.length
 bq:∀ p ∈ V,Bq k p.x∧Bq k p.y
 n3:n3=V.length
 n4:n4=es.length
theorem kC.at {w0 w wr:World} {H:List Chunk} {F S:Nat→Prop} {a3 a4:Option Addr} {n3 c3 n4 c4:Nat} {rs:List ER} {es:List Ed} {prs:List PR} {V:List Pt} {k:Nat} (h:kC wr S a3 a4 n3 c3 n4 c4 rs es prs V k) (hS:aA w0 w (.aH F wr::H)) (hF:∀ k,S k→F k):kC w S a3 a4 n3 c3 n4 c4 rs es prs V k :=
 ⟨aP.at hS hF,h.hE.move (hS.da hF),h.jf.at hS hF,h.hV.at hS hF,h.ab,h.bq,h.n3,h.n4⟩
theorem kC.move {w wr:World} {S:Nat→Prop} {a3 a4:Option Addr} {n3 c3 n4 c4:Nat} {rs:List ER} {es:List Ed} {prs:List PR} {V:List Pt} {k:Nat} (h:kC wr S a3 a4 n3 c3 n4 c4 rs es prs V k) (hL:aP w S) (hk:∀ k,S k→w.heap[k]? = wr.heap[k]?):kC w S a3 a4 n3 c3 n4 c4 rs es prs V k :=
 ⟨hL,h.hE.move hk,h.jf.move hk,⟨h.hV.sl.move hk,h.hV.ps.move hk⟩,h.ab,h.bq,h.n3,h.n4⟩
def dT:PR:=⟨⟨⟨false,none,0,0⟩,⟨false,none,0,0⟩⟩,⟨⟨false,none,0,0⟩,⟨false,none,0,0⟩⟩⟩
theorem eN.aIO (w:World) (S:Nat→Prop):eN w S ⟨⟨false,none,0,0⟩,⟨false,none,0,0⟩⟩ 0:=by
 refine⟨dR.zero w S,dR.zero w S,?_⟩;have h:=ua (l:=[1]) (by intro x hx;simp at hx;subst hx;rw [dc];decide) (by simp)
 simpa [val] using h
theorem aFL (bx:Nat) (a1 a2 a3 a4:Option Addr) (n1 c1 n2 c2 n3 c3 n4 c4:Nat) (rs:List ER) (es:List Ed) (prs:List PR) (V:List Pt) (k e x:Nat) (w:World) (S:Nat→Prop) (hb:dM w (Old w) ⟨bx,0,none⟩ [.slice a1 n1 c1,.slice a2 n2 c2,.slice a3 n3 c3,.slice a4 n4 c4]) (hA:kC w S a3 a4 n3 c3 n4 c4 rs es prs V k) (hk:8*k+8≤16384) (he:e<es.length) (hx:x<V.length) (gO:V.length≤1000000) (pw:es.length≤1000000) :
 Calls prog 66 #[.int .i64 (e:Int),.int .i64 (x:Int),.pointer (some ⟨bx,0,none⟩)] w fun en w'=>en=.returned (.int .i64 (iN V es e x))∧Pure w S w' S:=by
 have my:=hA.n3;have j6:=hA.n4;subst my j6;have hL:=hA.live;have bh:=hA.hE.bj;have dL:=hA.hV.sl.bj;have hE:=hA.jf.el e he;have bV:=hA.ab _ (cQ ah es e he);have dF:=eS sU jk (show e<rs.length by rw [hA.jf.len];omega);obtain⟨r,hr⟩:∃ r,nth jk rs e=r:=⟨_,rfl⟩;rw [hr] at dF hE;obtain⟨a,ha⟩:∃ a,(nth ah es e).a=a:=⟨_,rfl⟩;obtain⟨b,pB⟩:∃ b,(nth ah es e).b=b:=⟨_,rfl⟩;have hra:r.a=a:=hE.a.trans ha;have xw:r.b=b:=hE.b.trans pB;have fT:iN V es e x=e8 (bT (nth au V a) (nth au V b) (nth au V x)) 0:=by unfold iN;rw [ha,pB]
 rw [fT];rw [ha,pB] at bV;have aRU:((rs.flatMap ec).drop (e*5)).take 5=[.int .i64 (a:Int),.int .i64 (b:Int),.slice r.ad r.n r.c,.int .i64 r.dir.x,.int .i64 r.dir.y]:=by rw [dF,← hra,← xw];rfl
 have jP:prs.length=V.length:=hA.hV.ps.len;have cell:=fun i (hi:i<V.length)=>eS gF dT (show i<prs.length by omega)
 have pt:=fun i (hi:i<V.length)=>hA.hV.ps.el i hi
 have bq:=fun i (hi:i<V.length)=>hA.bq _ (cQ au V i hi)
 have ca:=cell a bV.1;have cb:=cell b bV.2;have cx:=cell x hx;have sd:=fun w' eM p1 p2 p3=>aFV (nth dT prs a) (nth dT prs b) (nth dT prs x) (nth au V a) (nth au V b) (nth au V x) k w' S p1 p2 p3 eM (bq a bV.1) (bq b bV.2) (bq x hx) hk
 have pa:dh w S (nth dT prs a) (nth au V a):=pt a bV.1;have pb:dh w S (nth dT prs b) (nth au V b):=pt b bV.2;have px:dh w S (nth dT prs x) (nth au V x):=pt x hx;obtain⟨A1,e1⟩:∃ q,nth dT prs a=q:=⟨_,rfl⟩;obtain⟨B1,e2⟩:∃ q,nth dT prs b=q:=⟨_,rfl⟩;obtain⟨X1,e3⟩:∃ q,nth dT prs x=q:=⟨_,rfl⟩;rw [e1] at ca sd pa;rw [e2] at cb sd pb;rw [e3] at cx sd px;obtain⟨R,hR⟩:∃ R,e8 (bT (nth au V a) (nth au V b) (nth au V x)) 0=R:=⟨_,rfl⟩;rw [hR];rw [hR] at sd;have ha1:=bV.1;have oY:=bV.2;clear hE dF hr ha pB hra xw fT bV cell pt bq e1 e2 e3 hR jP hA;obtain⟨hS,aC,bC,bD⟩:=eR hL
 go_enter func66,ntmps66
 go_wp2;refine dB [.p 0,.r 1,.p 2,.r 3,.p 4,.p 5,.p 6,.r 7,.p 8,.r 9,.p 10,.r 11,.p 12,.r 13,.p 14,.p 15,.p 16,.r 17,.p 18,.r 19,.p 20,.r 21,.p 22,.p 23,.r 24,.e 25,.p 26,.p 27,.p 28,.p 29,.p 30] [] hS fun w1 hS=>?_
 have hC:=hS
 repeat (first|((with_reducible refine l8 ?_);refine jh rfl rfl (gu (T:=25) 2 isAgg25 rfl hb (by simp) rfl ?_);simp only [aD])|((with_reducible refine l8 ?_);refine jh rfl rfl (gu (T:=26) 3 isAgg26 rfl hb (by simp) rfl ?_);simp only [aD])|(with_reducible first|refine e9 underlying26 sizeOf45 bh aRU fun bq oq bO=>?_|refine e9 underlying25 sizeOf55 dL ca fun bq oq bO=>?_|refine e9 underlying25 sizeOf55 dL cb fun bq oq bO=>?_|refine e9 underlying25 sizeOf55 dL cx fun bq oq bO=>?_|refine eY isAgg3 ?_|refine pU 1 isAgg3 ?_|refine qE isAgg55 sizeOf55 ?_|refine bU ?_))
 refine aZ ?_
 go_wp2_with (fail)
 refine (sd _ (aP.at hS aC) (pa.at hS aC) (pb.at hS aC) (px.at hS aC)).mono ?_;rintro e w' ⟨rfl,hq⟩;simp only [];go_step;have hS:=hS.below hq.below hq.drawn;have hC:=hC.below hq.below hq.drawn;refine aX hC ?_;refine aM ?_;refine bE ?_;go_wp2;go_ret;exact⟨rfl,hS.pure S⟩
theorem aSP (a b:Rat):(mW ⟨a,0⟩ ⟨b,0⟩≤0)↔a≤b:=by
 have h0:e8 (0:Rat) 0=0:=a6m.2 rfl;have h1:=@a6B a b;unfold mW;simp only [h0]
 split
 ·exact h1
 ·rename_i h
  have h2:e8 a b=0:=by omega
  constructor
  ·intro _;exact h1.1 (by omega)
  ·intro _;omega
theorem aF3 (bx:Nat) (a1 a2 a3 a4:Option Addr) (n1 c1 n2 c2 n3 c3 n4 c4:Nat) (rs:List ER) (es:List Ed) (prs:List PR) (V:List Pt) (k a b:Nat) (w:World) (S:Nat→Prop) (hb:dM w (Old w) ⟨bx,0,none⟩ [.slice a1 n1 c1,.slice a2 n2 c2,.slice a3 n3 c3,.slice a4 n4 c4]) (hA:kC w S a3 a4 n3 c3 n4 c4 rs es prs V k) (ha:a<V.length) (zb:b<V.length) (gO:V.length≤1000000) :
 Calls prog 68 #[.int .i64 (a:Int),.int .i64 (b:Int),.pointer (some ⟨bx,0,none⟩)] w fun en w'=>en=.returned (.bool (r6 V a b))∧Pure w S w' S:=by
 have my:=hA.n3;subst my;have hL:=hA.live;have dL:=hA.hV.sl.bj;have jP:prs.length=V.length:=hA.hV.ps.len;have cell:=fun i (hi:i<V.length)=>eS gF dT (show i<prs.length by omega)
 have pt:=fun i (hi:i<V.length)=>hA.hV.ps.el i hi
 have ca:=cell a ha;have cb:=cell b zb;have pa:dh w S (nth dT prs a) (nth au V a):=pt a ha;have pb:dh w S (nth dT prs b) (nth au V b):=pt b zb;obtain⟨A1,e1⟩:∃ q,nth dT prs a=q:=⟨_,rfl⟩;obtain⟨B1,e2⟩:∃ q,nth dT prs b=q:=⟨_,rfl⟩;rw [e1] at ca pa;rw [e2] at cb pb;have cm:=fun w' S eM p1 p2=>a3H ⟨A1.x,⟨⟨false,none,0,0⟩,⟨false,none,0,0⟩⟩⟩ ⟨B1.x,⟨⟨false,none,0,0⟩,⟨false,none,0,0⟩⟩⟩ ⟨(nth au V a).x,0⟩ ⟨(nth au V b).x,0⟩ w' S ⟨p1,eN.aIO _ _⟩ ⟨p2,eN.aIO _ _⟩ eM
 have hx:=aSP (nth au V a).x (nth au V b).x;obtain⟨R,hR⟩:∃ R,mW ⟨(nth au V a).x,0⟩ ⟨(nth au V b).x,0⟩=R:=⟨_,rfl⟩;rw [hR] at cm hx;have hxd:r6 V a b=decide (R≤0):=by unfold r6;simp only [hx]
 rw [hxd];have pax:=pa.x;have pbx:=pb.x;clear pa pb hxd hR hx e1 e2 cell pt jP hA;obtain⟨hS,aC,bC,bD⟩:=eR hL
 go_enter func68,ntmps68
 go_wp2;refine dB [.p 0,.r 1,.p 2,.p 3,.p 4,.r 5,.p 6,.p 7,.r 8,.p 9,.p 10,.p 11,.r 12,.p 13,.e 14,.p 15,.p 16] [] hS fun w1 hS=>?_
 have hC:=hS
 repeat (first|((with_reducible refine l8 ?_);refine jh rfl rfl (gu (T:=25) 2 isAgg25 rfl hb (by simp) rfl ?_);simp only [aD])|((with_reducible refine e9 underlying25 sizeOf55 dL ca fun bq oq bO=>?_);replace bO:dM _ _ ⟨bq,oq,none⟩ [.bool A1.x.num.neg,.slice A1.x.num.ad A1.x.num.n A1.x.num.cap,.bool A1.x.less.neg,.slice A1.x.less.ad A1.x.less.n A1.x.less.cap]:=bO.part 0 4)|((with_reducible refine e9 underlying25 sizeOf55 dL cb fun bq oq bO=>?_);replace bO:dM _ _ ⟨bq,oq,none⟩ [.bool B1.x.num.neg,.slice B1.x.num.ad B1.x.num.n B1.x.num.cap,.bool B1.x.less.neg,.slice B1.x.less.ad B1.x.less.n B1.x.less.cap]:=bO.part 0 4)|(with_reducible first|refine qE isAgg53 sizeOf53 ?_|refine bU ?_))
 refine aZ ?_
 go_wp2_with (fail)
 refine (cm _ S (aP.at hS aC) (pax.at hS aC) (pbx.at hS aC)).mono ?_;rintro e w' ⟨rfl,hq⟩;simp only [];go_step;have hS:=hS.below hq.below hq.drawn;have hC:=hC.below hq.below hq.drawn;refine aX hC ?_;refine aM ?_;refine bE ?_;go_wp2;go_ret;exact⟨rfl,hS.pure S⟩
def mr (V:List Pt) (es:List Ed) (e f:Nat):Bool :=
 if (nth ah es e).a<(nth ah es f).a then decide (iN V es e (nth ah es f).a<0) || (decide (iN V es e (nth ah es f).a=0) && decide (iN V es e (nth ah es f).b<0))
 else decide (0<iN V es f (nth ah es e).a) || (decide (iN V es f (nth ah es e).a=0) && decide (0<iN V es f (nth ah es e).b))
theorem dM.at {w0 w:World} {H:List Chunk} {ad:Addr} {cs:List Value} {w1:World} (h:dM w1 (Old w1) ad cs) (hS:aA w0 w H) (hm:Chunk.aH (Old w1) w1 ∈ H):dM w (Old w) ad cs:=by
 have h2:=h.later hS hm;refine⟨h2.spot,fun e=>?_,h2.cell⟩;have h3:=h.tO e;exact (hS.ok _ hm _ h3).1
theorem aWK (bx b5:Nat) (a1 a2 a3 a4:Option Addr) (n1 c1 n2 c2 n3 c3 n4 c4:Nat) (rs:List ER) (es:List Ed) (prs:List PR) (V:List Pt) (k e f:Nat) (w:World) (S:Nat→Prop) (hb:dM w (Old w) ⟨bx,0,none⟩ [.slice a1 n1 c1,.slice a2 n2 c2,.slice a3 n3 c3,.slice a4 n4 c4]) (tN:dM w (Old w) ⟨b5,0,none⟩ [.func (.func 66) #[] #[.pointer (some ⟨bx,0,none⟩)]]) (hA:kC w S a3 a4 n3 c3 n4 c4 rs es prs V k) (hk:8*k+8≤16384) (he:e<es.length) (hf:f<es.length) (gO:V.length≤1000000) (pw:es.length≤1000000) :
 Calls prog 69 #[.int .i64 (e:Int),.int .i64 (f:Int),.pointer (some ⟨bx,0,none⟩),.pointer (some ⟨b5,0,none⟩)] w fun en w'=>en=.returned (.bool (mr V es e f))∧Pure w S w' S:=by
 have my:=hA.n3;have j6:=hA.n4;subst my j6;have hL:=hA.live;have bh:=hA.hE.bj;have hE:=hA.jf.el e he;have hF:=hA.jf.el f hf;obtain⟨fv,fM⟩:=hA.ab _ (cQ ah es e he);obtain⟨qU,j7⟩:=hA.ab _ (cQ ah es f hf);have dF:=eS sU jk (show e<rs.length by rw [hA.jf.len];omega);have hcf:=eS sU jk (show f<rs.length by rw [hA.jf.len];omega);obtain⟨r,hr⟩:∃ r,nth jk rs e=r:=⟨_,rfl⟩;obtain⟨q,hq⟩:∃ q,nth jk rs f=q:=⟨_,rfl⟩;rw [hr] at dF hE;rw [hq] at hcf hF;have s1:=fun x (hx:x<V.length) w' S (hb:dM w' (Old w') ⟨bx,0,none⟩ [.slice a1 n1 c1,.slice a2 n2 c2,.slice a3 V.length c3,.slice a4 es.length c4]) hA=>aFL bx a1 a2 a3 a4 n1 c1 n2 c2 V.length c3 es.length c4 rs es prs V k e x w' S hb hA hk he hx gO pw
 have s2:=fun x (hx:x<V.length) w' S (hb:dM w' (Old w') ⟨bx,0,none⟩ [.slice a1 n1 c1,.slice a2 n2 c2,.slice a3 V.length c3,.slice a4 es.length c4]) hA=>aFL bx a1 a2 a3 a4 n1 c1 n2 c2 V.length c3 es.length c4 rs es prs V k f x w' S hb hA hk hf hx gO pw
 have u1:=s1 _ qU;have u2:=s1 _ j7;have v1:=s2 _ fv;have v2:=s2 _ fM;obtain⟨R,hR⟩:∃ R,mr V es e f=R:=⟨_,rfl⟩;rw [hR];unfold mr at hR;rw [← hE.a] at fv hR v1;rw [← hE.b] at fM hR v2;rw [← hF.a] at qU hR u1;rw [← hF.b] at j7 hR u2;obtain⟨x1,pO⟩:∃ x,iN V es e q.a=x:=⟨_,rfl⟩;obtain⟨x2,uz⟩:∃ x,iN V es e q.b=x:=⟨_,rfl⟩;obtain⟨y1,wE⟩:∃ x,iN V es f r.a=x:=⟨_,rfl⟩;obtain⟨y2,tT⟩:∃ x,iN V es f r.b=x:=⟨_,rfl⟩;rw [pO] at u1 hR;rw [uz] at u2 hR;rw [wE] at v1 hR;rw [tT] at v2 hR;clear s1 s2 hE hF hr hq pO uz wE tT;obtain⟨hS,aC,bC,bD⟩:=eR hL
 go_enter func69,ntmps69
 go_wp2;refine kQ 1 [.p 0,.r 1,.p 2,.p 3,.p 4,.r 5,.p 6,.r 7,.p 8,.p 9,.p 10,.r 11,.p 12,.p 13,.r 14,.p 15,.p 16,.p 17,.r 18,.p 19,.r 20,.p 21,.p 22,.p 23,.r 24,.p 25] [.e 28,.e 29] [] [eU 26 7 130 (.agg #[.int .i64 0,.int .i64 0]),eU 27 8 130 (.agg #[.int .i64 0,.int .i64 0])] w _ (by kernel_rfl) (by kernel_rfl) (a0n rfl zeroValue130 rfl zeroValue130 (by decide) (by decide)) hS.drew ?_;obtain⟨aI,aT⟩:=hS.jw
 repeat (first|((with_reducible refine tg ?_);refine qF rfl rfl (gu (T:=26) 3 isAgg26 rfl hb (by simp) rfl ?_);simp only [aD])|((with_reducible refine zu ?_);refine zn rfl rfl (lI (T:=26) underlying26 sizeOf45 rfl rfl bh (by omega) (by omega) (by omega) (fun bq oq bO=>?_));simp only [Int.toNat_natCast] at bO;rw [dF] at bO;simp only [aD])|((with_reducible refine zu ?_);refine zn rfl rfl (lI (T:=26) underlying26 sizeOf45 rfl rfl bh (by omega) (by omega) (by omega) (fun bq oq bO=>?_));simp only [Int.toNat_natCast] at bO;rw [hcf] at bO;simp only [aD])|((with_reducible refine tg ?_);refine qF rfl rfl (a6w (T:=3) isAgg3 rfl (by with_reducible assumption) (by simp) rfl ?_);simp only [aD])|((with_reducible refine tg ?_);refine qF rfl rfl (gu (T:=3) 1 isAgg3 rfl (by with_reducible assumption) (by simp) rfl ?_);simp only [aD])|(with_reducible refine lF ?_))
 refine a0H (fun b7 b8 wB hS=>?_);simp only [aK] at hS;simp only [aD];refine aZ ?_
 (with_reducible refine aJ 1 hS sizeOf130 fun _ hS=>?_)
 refine aX (aA.gA hS.sb aI aT) ?_;refine aM ?_;refine aZ ?_
 (with_reducible refine aJ 2 hS sizeOf130 fun _ hS=>?_)
 refine aX (aA.gA hS.sb aI aT) ?_;refine aM ?_;refine bE ?_;clear aI aT dF hcf;have hm:Chunk.aH (Old w) w ∈ [Chunk.aH (Old w) w]:=by simp
 by_cases bV:r.a<q.a
 ·have d1:decide ((r.a:Int)<(q.a:Int))=true:=by simp;omega
  rw [if_pos bV] at hR
  by_cases z1:x1<0
  ·have d2:decide (x1<0)=true:=by simpa using z1
   have o9:R=true:=by rw [← hR];simp [z1]
   subst o9;clear hR
   go_wp2_with (first|(with_reducible first|refine aU 1 hS isAgg3 ?_|refine aU 2 hS isAgg3 ?_)|((with_reducible refine dq (T:=74) ?_);refine dI hS rfl (gu (T:=74) 0 isAgg74 rfl tN (by simp) rfl ?_);simp only [aD]))
   refine (u1 _ S (hb.at hS (by simp)) (hA.at hS aC)).mono ?_;rintro e w5 ⟨rfl,hq⟩;have hS:=hS.below hq.below hq.drawn;simp only [];go_wp2;go_ret;exact⟨rfl,hS.pure S⟩
  ·have d2:decide (x1<0)=false:=by simpa using z1
   by_cases z2:x1=0
   ·have o9:R=decide (x2<0):=by rw [← hR];simp [z2]
    subst o9;subst z2;clear hR z1
    go_wp2_with (first|(with_reducible first|refine aU 1 hS isAgg3 ?_|refine aU 2 hS isAgg3 ?_)|((with_reducible refine dq (T:=74) ?_);refine dI hS rfl (gu (T:=74) 0 isAgg74 rfl tN (by simp) rfl ?_);simp only [aD]))
    refine (u1 _ S (hb.at hS (by simp)) (hA.at hS aC)).mono ?_;rintro e w5 ⟨rfl,hq⟩;have hS:=hS.below hq.below hq.drawn;simp only []
    go_wp2_with (first|(with_reducible refine aU 2 hS isAgg3 ?_)|((with_reducible refine dq (T:=74) ?_);refine dI hS rfl (gu (T:=74) 0 isAgg74 rfl tN (by simp) rfl ?_);simp only [aD]))
    refine (u1 _ S (hb.at hS (by simp)) (hA.at hS aC)).mono ?_;rintro e w5 ⟨rfl,hq⟩;have hS:=hS.below hq.below hq.drawn;simp only []
    go_wp2_with (first|(with_reducible refine aU 2 hS isAgg3 ?_)|((with_reducible refine dq (T:=74) ?_);refine dI hS rfl (gu (T:=74) 0 isAgg74 rfl tN (by simp) rfl ?_);simp only [aD]))
    refine (u2 _ S (hb.at hS (by simp)) (hA.at hS aC)).mono ?_;rintro e w5 ⟨rfl,hq⟩;have hS:=hS.below hq.below hq.drawn;simp only [];go_wp2;go_ret;exact⟨rfl,hS.pure S⟩
   ·have d3:(x1 == 0)=false:=by simpa using z2
    have o9:R=false:=by rw [← hR];simp [z1,z2]
    subst o9;clear hR
    go_wp2_with (first|(with_reducible first|refine aU 1 hS isAgg3 ?_|refine aU 2 hS isAgg3 ?_)|((with_reducible refine dq (T:=74) ?_);refine dI hS rfl (gu (T:=74) 0 isAgg74 rfl tN (by simp) rfl ?_);simp only [aD]))
    refine (u1 _ S (hb.at hS (by simp)) (hA.at hS aC)).mono ?_;rintro e w5 ⟨rfl,hq⟩;have hS:=hS.below hq.below hq.drawn;simp only []
    go_wp2_with (first|(with_reducible refine aU 2 hS isAgg3 ?_)|((with_reducible refine dq (T:=74) ?_);refine dI hS rfl (gu (T:=74) 0 isAgg74 rfl tN (by simp) rfl ?_);simp only [aD]))
    refine (u1 _ S (hb.at hS (by simp)) (hA.at hS aC)).mono ?_;rintro e w5 ⟨rfl,hq⟩;have hS:=hS.below hq.below hq.drawn;simp only [];go_wp2;go_ret;exact⟨rfl,hS.pure S⟩
 ·have d1:decide ((r.a:Int)<(q.a:Int))=false:=by simp;omega
  rw [if_neg bV] at hR
  by_cases z1:0<y1
  ·have d2:decide (0<y1)=true:=by simpa using z1
   have o9:R=true:=by rw [← hR];simp [z1]
   subst o9;clear hR
   go_wp2_with (first|(with_reducible first|refine aU 1 hS isAgg3 ?_|refine aU 2 hS isAgg3 ?_)|((with_reducible refine dq (T:=74) ?_);refine dI hS rfl (gu (T:=74) 0 isAgg74 rfl tN (by simp) rfl ?_);simp only [aD]))
   refine (v1 _ S (hb.at hS (by simp)) (hA.at hS aC)).mono ?_;rintro e w5 ⟨rfl,hq⟩;have hS:=hS.below hq.below hq.drawn;simp only [];go_wp2;go_ret;exact⟨rfl,hS.pure S⟩
  ·have d2:decide (0<y1)=false:=by simpa using z1
   by_cases z2:y1=0
   ·have o9:R=decide (0<y2):=by rw [← hR];simp [z2]
    subst o9;subst z2;clear hR z1
    go_wp2_with (first|(with_reducible first|refine aU 1 hS isAgg3 ?_|refine aU 2 hS isAgg3 ?_)|((with_reducible refine dq (T:=74) ?_);refine dI hS rfl (gu (T:=74) 0 isAgg74 rfl tN (by simp) rfl ?_);simp only [aD]))
    refine (v1 _ S (hb.at hS (by simp)) (hA.at hS aC)).mono ?_;rintro e w5 ⟨rfl,hq⟩;have hS:=hS.below hq.below hq.drawn;simp only []
    go_wp2_with (first|(with_reducible refine aU 1 hS isAgg3 ?_)|((with_reducible refine dq (T:=74) ?_);refine dI hS rfl (gu (T:=74) 0 isAgg74 rfl tN (by simp) rfl ?_);simp only [aD]))
    refine (v2 _ S (hb.at hS (by simp)) (hA.at hS aC)).mono ?_;rintro e w5 ⟨rfl,hq⟩;have hS:=hS.below hq.below hq.drawn;simp only [];go_wp2;go_ret;exact⟨rfl,hS.pure S⟩
   ·have d3:(y1 == 0)=false:=by simpa using z2
    have o9:R=false:=by rw [← hR];simp [z1,z2]
    subst o9;clear hR
    go_wp2_with (first|(with_reducible first|refine aU 1 hS isAgg3 ?_|refine aU 2 hS isAgg3 ?_)|((with_reducible refine dq (T:=74) ?_);refine dI hS rfl (gu (T:=74) 0 isAgg74 rfl tN (by simp) rfl ?_);simp only [aD]))
    refine (v1 _ S (hb.at hS (by simp)) (hA.at hS aC)).mono ?_;rintro e w5 ⟨rfl,hq⟩;have hS:=hS.below hq.below hq.drawn;simp only [];go_wp2;go_ret;exact⟨rfl,hS.pure S⟩
def nM (V:List Pt) (es:List Ed) (v e:Nat):Bool :=
 decide ((nth ah es e).a=v) || decide ((nth ah es e).b=v) || !r6 V (nth ah es e).a v || r6 V (nth ah es e).b v || decide (iN V es e v≤0)
def fR (V:List Pt) (es:List Ed) (v:Nat):Nat→Int
 | 0=>-1
 | k+1=>if nM V es v k then fR V es v k else if fR V es v k<0 then (k:Int) else if mr V es k (fR V es v k).toNat then (k:Int) else fR V es v k
theorem a9h (V:List Pt) (es:List Ed) (v:Nat):∀ k,-1≤fR V es v k∧fR V es v k<(k:Int)
 | 0=>by unfold fR;omega
 | k+1=>by
  have:=a9h V es v k;unfold fR
  split
  ·omega
  ·split
   ·omega
   ·split <;> omega
theorem aA.kT {w0 w:World} {H:List Chunk} {b:Nat} {arr:Array Value} {T:TypeId} (hS:aA w0 w H) (j:Nat) (hj:H[j]? = some (.aB b (.cells arr T (0,0)))):dM w (Old w) ⟨b,0,none⟩ arr.toList:=by
 have hb:=hS.aB (bW hj);refine⟨fun _=>rfl,fun _=>(Array.getElem?_eq_some_iff.1 hb).1,fun q u hu=>?_⟩;have h1:w.cell? ⟨b,q,none⟩=some u:=by rw [cell_of_row w b q _ T (0,0) hb];simpa using hu
 simpa using h1
theorem aUB (a1 a2 a3 a4:Option Addr) (n1 c1 n2 c2 n3 c3 n4 c4:Nat) (rs:List ER) (es:List Ed) (prs:List PR) (V:List Pt) (m v:Nat) (w:World) (S:Nat→Prop) (hA:kC w S a3 a4 n3 c3 n4 c4 rs es prs V m) (hm:8*m+8≤16384) (hv:v<V.length) (gO:V.length≤1000000) (pw:es.length≤1000000) :
 Calls prog 23 #[.agg #[.slice a1 n1 c1,.slice a2 n2 c2,.slice a3 n3 c3,.slice a4 n4 c4],.int .i64 (v:Int)] w fun en w'=>en=.returned (.int .i64 (fR V es v es.length))∧Pure w S w' S:=by
 have my:=hA.n3;have j6:=hA.n4;subst my j6;have hL:=hA.live;have bh:=hA.hE.weaken hL;replace bh:bN w (Old w) 5 (.slice a4 es.length c4) es.length (rs.flatMap ec):=bh;obtain⟨hS,aC,bC,bD⟩:=eR hL
 go_enter func23,ntmps23
 go_wp2_with (with_reducible first|refine cI hS fun bx cu hS=>?_|refine bH hS zeroValue74 fun b5 wb5 hS=>?_|refine aJ 2 hS sizeOf74 fun _ hS=>?_|refine aU 1 hS isAgg26 ?_)
 try try simp only [fA]
 go_loopw [8,17] (fun v8 v17 wr=>∃ k:Nat,k≤es.length∧v17=.int .i64 (k:Int)∧v8=.int .i64 (fR V es v k)∧aA w wr [.aH (Old w) w,.aB bx (.cells #[.slice a1 n1 c1,.slice a2 n2 c2,.slice a3 V.length c3,.slice a4 es.length c4] 28 (0,0)),.aB b5 (.cells #[.func (.func 66) #[] #[.pointer (some ⟨bx,0,none⟩)]] 74 (0,0))]) (fun _ v17 _=>es.length - (intOf v17).toNat)
 case atStart=>exact⟨0,by omega,rfl,rfl,hS⟩
 case round =>
  clear hS;obtain⟨k,hk,rfl,rfl,hS⟩:=hrel;have dH:fR V es v (k+1)=if nM V es v k then fR V es v k else if fR V es v k<0 then (k:Int) else if mr V es k (fR V es v k).toNat then (k:Int) else fR V es v k:=rfl
  have oB:=a9h V es v k;obtain⟨B,hB⟩:∃ B,fR V es v k=B:=⟨_,rfl⟩;rw [hB] at dH oB;rw [hB]
  by_cases cW:k<es.length
  ·have hc:=eS sU jk (show k<rs.length by rw [hA.jf.len];omega)
   have hE:=hA.jf.el k cW;have bV:=hA.ab _ (cQ ah es k cW);obtain⟨r,hr⟩:∃ r,nth jk rs k=r:=⟨_,rfl⟩;rw [hr] at hc hE;unfold nM at dH;rw [← hE.a,← hE.b] at dH bV;replace hc:((rs.flatMap ec).drop (k*5)).take 5=[.int .i64 (r.a:Int),.int .i64 (r.b:Int),.slice r.ad r.n r.c,.int .i64 r.dir.x,.int .i64 r.dir.y]:=hc;have x1:=fun w' S' h1 h2=>aF3 bx a1 a2 a3 a4 n1 c1 n2 c2 V.length c3 es.length c4 rs es prs V m r.a v w' S' h1 h2 bV.1 hv gO
   have x2:=fun w' S' h1 h2=>aF3 bx a1 a2 a3 a4 n1 c1 n2 c2 V.length c3 es.length c4 rs es prs V m r.b v w' S' h1 h2 bV.2 hv gO
   have x3:=fun w' S' h1 h2=>aFL bx a1 a2 a3 a4 n1 c1 n2 c2 V.length c3 es.length c4 rs es prs V m k v w' S' h1 h2 hm cW hv gO pw
   have x4:=fun (b:Nat) (hb:b<es.length) w' S' h1 h2 h3=>aWK bx b5 a1 a2 a3 a4 n1 c1 n2 c2 V.length c3 es.length c4 rs es prs V m k b w' S' h1 h2 h3 hm cW hb gO pw
   obtain⟨X1,e1⟩:∃ X,r6 V r.a v=X:=⟨_,rfl⟩;obtain⟨X2,e2⟩:∃ X,r6 V r.b v=X:=⟨_,rfl⟩;obtain⟨X3,e3⟩:∃ X,iN V es k v=X:=⟨_,rfl⟩;simp only [e1] at x1;simp only [e2] at x2;simp only [e3] at x3;rw [e1,e2,e3] at dH;clear e1 e2 e3 hE hr bV
   by_cases q1:r.a=v
   ·have d1:((r.a:Int) == (v:Int))=true:=by simp [q1]
    rw [if_pos (by simp [q1])] at dH;replace dH:=Hd dH;replace hB:=Hd hB;clear q1 x1 x2 x3 x4;go_wp2;refine dB [.p 0,.r 1,.p 2,.p 3,.p 4,.r 5,.p 6,.r 7,.p 8,.p 9,.p 10,.r 11,.p 12,.e 13,.m 14] [14] hS fun w1 hS=>?_
    repeat (with_reducible first|refine cZ 1 isAgg26 ?_|refine e9 underlying26 sizeOf45 bh hc fun bq oq bO=>?_|refine eY isAgg3 ?_|refine pU 1 isAgg3 ?_|refine bU ?_)
    refine aZ ?_
    (with_reducible refine bH hS zeroValue130 fun fo qM hS=>?_)
    refine aX hS.sb ?_;refine aM ?_;refine dC ?_
    (with_reducible refine aJ 3 hS sizeOf130 fun _ hS=>?_)
    refine dD ?_;refine bE ?_;clear hc bO
    go_wp2_with (with_reducible refine aU 3 hS isAgg3 ?_)
    go_roundw
    case rel=>exact⟨k+1,by omega,by simp,by rw [dH.out],hS.sb⟩
    case measure=>simp [intOf];omega
   ·have d1:((r.a:Int) == (v:Int))=false:=by simp;omega
    by_cases q2:r.b=v
    ·have d2:((r.b:Int) == (v:Int))=true:=by simp [q2]
     rw [if_pos (by simp [q2])] at dH;replace dH:=Hd dH;replace hB:=Hd hB;clear q1 q2 x1 x2 x3 x4;go_wp2;refine dB [.p 0,.r 1,.p 2,.p 3,.p 4,.r 5,.p 6,.r 7,.p 8,.p 9,.p 10,.r 11,.p 12,.e 13,.m 14] [14] hS fun w1 hS=>?_
     repeat (with_reducible first|refine cZ 1 isAgg26 ?_|refine e9 underlying26 sizeOf45 bh hc fun bq oq bO=>?_|refine eY isAgg3 ?_|refine pU 1 isAgg3 ?_|refine bU ?_)
     refine aZ ?_
     (with_reducible refine bH hS zeroValue130 fun fo qM hS=>?_)
     refine aX hS.sb ?_;refine aM ?_;refine dC ?_
     (with_reducible refine aJ 3 hS sizeOf130 fun _ hS=>?_)
     refine dD ?_;refine bE ?_;clear hc bO
     go_wp2_with (with_reducible refine aU 3 hS isAgg3 ?_)
     go_roundw
     case rel=>exact⟨k+1,by omega,by simp,by rw [dH.out],hS.sb⟩
     case measure=>simp [intOf];omega
    ·have d2:((r.b:Int) == (v:Int))=false:=by simp;omega
     cases X1 with
     | false =>
      rw [if_pos (by simp)] at dH;replace dH:=Hd dH;replace hB:=Hd hB;clear q1 q2 x2 x3 x4;go_wp2;refine dB [.p 0,.r 1,.p 2,.p 3,.p 4,.r 5,.p 6,.r 7,.p 8,.p 9,.p 10,.r 11,.p 12,.e 13,.m 14] [14] hS fun w1 hS=>?_
      repeat (with_reducible first|refine cZ 1 isAgg26 ?_|refine e9 underlying26 sizeOf45 bh hc fun bq oq bO=>?_|refine eY isAgg3 ?_|refine pU 1 isAgg3 ?_|refine bU ?_)
      refine aZ ?_
      (with_reducible refine bH hS zeroValue130 fun fo qM hS=>?_)
      refine aX hS.sb ?_;refine aM ?_;refine dC ?_
      (with_reducible refine aJ 3 hS sizeOf130 fun _ hS=>?_)
      refine dD ?_;refine bE ?_;clear hc bO
      go_wp2_with (with_reducible refine aU 3 hS isAgg3 ?_)
      refine (x1 _ S (hS.kT 1 rfl) (hA.at hS aC)).mono ?_;rintro e w5 ⟨rfl,hq⟩;have hS:=hS.below hq.below hq.drawn;simp only []
      go_wp2_with (with_reducible first|refine aU 3 hS isAgg3 ?_|refine aU 2 hS isAgg74 ?_)
      go_roundw
      case rel=>exact⟨k+1,by omega,by simp,by rw [dH.out],hS.sb⟩
      case measure=>simp [intOf];omega
     | true =>
      cases X2 with
      | true =>
       rw [if_pos (by simp)] at dH;replace dH:=Hd dH;replace hB:=Hd hB;clear q1 q2 x3 x4;go_wp2;refine dB [.p 0,.r 1,.p 2,.p 3,.p 4,.r 5,.p 6,.r 7,.p 8,.p 9,.p 10,.r 11,.p 12,.e 13,.m 14] [14] hS fun w1 hS=>?_
       repeat (with_reducible first|refine cZ 1 isAgg26 ?_|refine e9 underlying26 sizeOf45 bh hc fun bq oq bO=>?_|refine eY isAgg3 ?_|refine pU 1 isAgg3 ?_|refine bU ?_)
       refine aZ ?_
       (with_reducible refine bH hS zeroValue130 fun fo qM hS=>?_)
       refine aX hS.sb ?_;refine aM ?_;refine dC ?_
       (with_reducible refine aJ 3 hS sizeOf130 fun _ hS=>?_)
       refine dD ?_;refine bE ?_;clear hc bO
       go_wp2_with (with_reducible refine aU 3 hS isAgg3 ?_)
       refine (x1 _ S (hS.kT 1 rfl) (hA.at hS aC)).mono ?_;rintro e w5 ⟨rfl,hq⟩;have hS:=hS.below hq.below hq.drawn;simp only []
       go_wp2_with (with_reducible refine aU 3 hS isAgg3 ?_)
       refine (x2 _ S (hS.kT 1 rfl) (hA.at hS aC)).mono ?_;rintro e w5 ⟨rfl,hq⟩;have hS:=hS.below hq.below hq.drawn;simp only []
       go_wp2_with (with_reducible first|refine aU 3 hS isAgg3 ?_|refine aU 2 hS isAgg74 ?_)
       go_roundw
       case rel=>exact⟨k+1,by omega,by simp,by rw [dH.out],hS.sb⟩
       case measure=>simp [intOf];omega
      | false =>
       by_cases q3:X3≤0
       ·have d3:decide (X3≤0)=true:=by simpa using q3
        rw [if_pos (by simp [q3])] at dH;replace dH:=Hd dH;replace hB:=Hd hB;clear q1 q2 q3 x4;go_wp2;refine dB [.p 0,.r 1,.p 2,.p 3,.p 4,.r 5,.p 6,.r 7,.p 8,.p 9,.p 10,.r 11,.p 12,.e 13,.m 14] [14] hS fun w1 hS=>?_
        repeat (with_reducible first|refine cZ 1 isAgg26 ?_|refine e9 underlying26 sizeOf45 bh hc fun bq oq bO=>?_|refine eY isAgg3 ?_|refine pU 1 isAgg3 ?_|refine bU ?_)
        refine aZ ?_
        (with_reducible refine bH hS zeroValue130 fun fo qM hS=>?_)
        refine aX hS.sb ?_;refine aM ?_;refine dC ?_
        (with_reducible refine aJ 3 hS sizeOf130 fun _ hS=>?_)
        refine dD ?_;refine bE ?_;clear hc bO
        go_wp2_with (with_reducible refine aU 3 hS isAgg3 ?_)
        refine (x1 _ S (hS.kT 1 rfl) (hA.at hS aC)).mono ?_;rintro e w5 ⟨rfl,hq⟩;have hS:=hS.below hq.below hq.drawn;simp only []
        go_wp2_with (with_reducible refine aU 3 hS isAgg3 ?_)
        refine (x2 _ S (hS.kT 1 rfl) (hA.at hS aC)).mono ?_;rintro e w5 ⟨rfl,hq⟩;have hS:=hS.below hq.below hq.drawn;simp only []
        go_wp2_with (with_reducible refine aU 2 hS isAgg74 ?_)
        refine (x3 _ S (hS.kT 1 rfl) (hA.at hS aC)).mono ?_;rintro e w5 ⟨rfl,hq⟩;have hS:=hS.below hq.below hq.drawn;simp only []
        go_wp2_with (with_reducible first|refine aU 3 hS isAgg3 ?_|refine aU 2 hS isAgg74 ?_)
        go_roundw
        case rel=>exact⟨k+1,by omega,by simp,by rw [dH.out],hS.sb⟩
        case measure=>simp [intOf];omega
       ·have d3:decide (X3≤0)=false:=by simpa using q3
        rw [if_neg (by simp [q1,q2,q3])] at dH
        by_cases q4:B<0
        ·have d4:decide (B<0)=true:=by simpa using q4
         rw [if_pos q4] at dH;replace dH:=Hd dH;replace hB:=Hd hB;clear q1 q2 q3 x4;go_wp2;refine dB [.p 0,.r 1,.p 2,.p 3,.p 4,.r 5,.p 6,.r 7,.p 8,.p 9,.p 10,.r 11,.p 12,.e 13,.m 14] [14] hS fun w1 hS=>?_
         repeat (with_reducible first|refine cZ 1 isAgg26 ?_|refine e9 underlying26 sizeOf45 bh hc fun bq oq bO=>?_|refine eY isAgg3 ?_|refine pU 1 isAgg3 ?_|refine bU ?_)
         refine aZ ?_
         (with_reducible refine bH hS zeroValue130 fun fo qM hS=>?_)
         refine aX hS.sb ?_;refine aM ?_;refine dC ?_
         (with_reducible refine aJ 3 hS sizeOf130 fun _ hS=>?_)
         refine dD ?_;refine bE ?_;clear hc bO
         go_wp2_with (with_reducible refine aU 3 hS isAgg3 ?_)
         refine (x1 _ S (hS.kT 1 rfl) (hA.at hS aC)).mono ?_;rintro e w5 ⟨rfl,hq⟩;have hS:=hS.below hq.below hq.drawn;simp only []
         go_wp2_with (with_reducible refine aU 3 hS isAgg3 ?_)
         refine (x2 _ S (hS.kT 1 rfl) (hA.at hS aC)).mono ?_;rintro e w5 ⟨rfl,hq⟩;have hS:=hS.below hq.below hq.drawn;simp only []
         go_wp2_with (with_reducible refine aU 2 hS isAgg74 ?_)
         refine (x3 _ S (hS.kT 1 rfl) (hA.at hS aC)).mono ?_;rintro e w5 ⟨rfl,hq⟩;have hS:=hS.below hq.below hq.drawn;simp only []
         go_wp2_with (with_reducible first|refine aU 3 hS isAgg3 ?_|refine aU 2 hS isAgg74 ?_)
         go_roundw
         case rel=>exact⟨k+1,by omega,by simp,by rw [dH.out],hS.sb⟩
         case measure=>simp [intOf];omega
        ·obtain⟨b,hb⟩:∃ b:Nat,B=(b:Int):=⟨B.toNat,by omega⟩
         subst hb;have d4:decide ((b:Int)<0)=false:=by simp
         rw [if_neg q4,Int.toNat_natCast] at dH;have x5:=x4 b (by omega);obtain⟨X4,e4⟩:∃ X,mr V es k b=X:=⟨_,rfl⟩;simp only [e4] at x5;rw [e4] at dH;cases X4 with
         | true =>
          rw [if_pos rfl] at dH;replace dH:=Hd dH;replace hB:=Hd hB;replace e4:=Hd e4;clear q1 q2 q3 q4 x4;go_wp2;refine dB [.p 0,.r 1,.p 2,.p 3,.p 4,.r 5,.p 6,.r 7,.p 8,.p 9,.p 10,.r 11,.p 12,.e 13,.m 14] [14] hS fun w1 hS=>?_
          repeat (with_reducible first|refine cZ 1 isAgg26 ?_|refine e9 underlying26 sizeOf45 bh hc fun bq oq bO=>?_|refine eY isAgg3 ?_|refine pU 1 isAgg3 ?_|refine bU ?_)
          refine aZ ?_
          (with_reducible refine bH hS zeroValue130 fun fo qM hS=>?_)
          refine aX hS.sb ?_;refine aM ?_;refine dC ?_
          (with_reducible refine aJ 3 hS sizeOf130 fun _ hS=>?_)
          refine dD ?_;refine bE ?_;clear hc bO
          go_wp2_with (with_reducible refine aU 3 hS isAgg3 ?_)
          refine (x1 _ S (hS.kT 1 rfl) (hA.at hS aC)).mono ?_;rintro e w5 ⟨rfl,hq⟩;have hS:=hS.below hq.below hq.drawn;simp only []
          go_wp2_with (with_reducible refine aU 3 hS isAgg3 ?_)
          refine (x2 _ S (hS.kT 1 rfl) (hA.at hS aC)).mono ?_;rintro e w5 ⟨rfl,hq⟩;have hS:=hS.below hq.below hq.drawn;simp only []
          go_wp2_with (with_reducible refine aU 2 hS isAgg74 ?_)
          refine (x3 _ S (hS.kT 1 rfl) (hA.at hS aC)).mono ?_;rintro e w5 ⟨rfl,hq⟩;have hS:=hS.below hq.below hq.drawn;simp only []
          go_wp2_with (with_reducible first|refine aU 3 hS isAgg3 ?_|refine aU 2 hS isAgg74 ?_)
          refine (x5 _ S (hS.kT 1 rfl) (hS.kT 2 rfl) (hA.at hS aC)).mono ?_;rintro e w5 ⟨rfl,hq⟩;have hS:=hS.below hq.below hq.drawn;simp only []
          go_wp2_with (with_reducible first|refine aU 3 hS isAgg3 ?_|refine aU 2 hS isAgg74 ?_)
          go_roundw
          case rel=>exact⟨k+1,by omega,by simp,by rw [dH.out],hS.sb⟩
          case measure=>simp [intOf];omega
         | false =>
          rw [if_neg (by simp)] at dH;replace dH:=Hd dH;replace hB:=Hd hB;replace e4:=Hd e4;clear q1 q2 q3 q4 x4;go_wp2;refine dB [.p 0,.r 1,.p 2,.p 3,.p 4,.r 5,.p 6,.r 7,.p 8,.p 9,.p 10,.r 11,.p 12,.e 13,.m 14] [14] hS fun w1 hS=>?_
          repeat (with_reducible first|refine cZ 1 isAgg26 ?_|refine e9 underlying26 sizeOf45 bh hc fun bq oq bO=>?_|refine eY isAgg3 ?_|refine pU 1 isAgg3 ?_|refine bU ?_)
          refine aZ ?_
          (with_reducible refine bH hS zeroValue130 fun fo qM hS=>?_)
          refine aX hS.sb ?_;refine aM ?_;refine dC ?_
          (with_reducible refine aJ 3 hS sizeOf130 fun _ hS=>?_)
          refine dD ?_;refine bE ?_;clear hc bO
          go_wp2_with (with_reducible refine aU 3 hS isAgg3 ?_)
          refine (x1 _ S (hS.kT 1 rfl) (hA.at hS aC)).mono ?_;rintro e w5 ⟨rfl,hq⟩;have hS:=hS.below hq.below hq.drawn;simp only []
          go_wp2_with (with_reducible refine aU 3 hS isAgg3 ?_)
          refine (x2 _ S (hS.kT 1 rfl) (hA.at hS aC)).mono ?_;rintro e w5 ⟨rfl,hq⟩;have hS:=hS.below hq.below hq.drawn;simp only []
          go_wp2_with (with_reducible refine aU 2 hS isAgg74 ?_)
          refine (x3 _ S (hS.kT 1 rfl) (hA.at hS aC)).mono ?_;rintro e w5 ⟨rfl,hq⟩;have hS:=hS.below hq.below hq.drawn;simp only []
          go_wp2_with (with_reducible first|refine aU 3 hS isAgg3 ?_|refine aU 2 hS isAgg74 ?_)
          refine (x5 _ S (hS.kT 1 rfl) (hS.kT 2 rfl) (hA.at hS aC)).mono ?_;rintro e w5 ⟨rfl,hq⟩;have hS:=hS.below hq.below hq.drawn;simp only []
          go_wp2_with (with_reducible first|refine aU 3 hS isAgg3 ?_|refine aU 2 hS isAgg74 ?_)
          go_roundw
          case rel=>exact⟨k+1,by omega,by simp,by rw [dH.out],hS.sb⟩
          case measure=>simp [intOf];omega
  ·obtain rfl:es.length=k:=by omega
   replace dH:=Hd dH;replace hB:=Hd hB;go_wp2;go_ret;exact⟨by rw [hB.out];rfl,hS.pure S⟩
theorem dr {α:Type} {o:Option α} {f g:α} (h:o=some f) (e:f=g:=by kernel_rfl):o=some g:=h.trans (congrArg some e)
section
open Go.Shelf
def aVC:Go.Shelf.Ren:=⟨fun|189=>24|125=>71|257=>70|128=>127|129=>128|294=>118|295=>119|296=>120|297=>121|298=>122|299=>123|216=>124|300=>125|301=>126|328=>170|329=>171|330=>172|331=>173|332=>174|215=>106|343=>200|n=>n,fun|28=>22|3=>3|46=>133|0=>0|51=>188|53=>190|4=>4|183=>182|182=>181|131=>78|5=>5|9=>9|218=>223|222=>227|228=>244|229=>245|n=>n,fun|n=>n⟩
theorem aHv:Go.Proofs.Lays.n189 prog aVC:={
 mixed:=by kernel_rfl
 f125:=dr func71
 f128:=dr func127
 f129:=dr func128
 f189:=dr func24
 f215:=dr func106
 f216:=dr func124
 f257:=dr func70
 f294:=dr func118
 f295:=dr func119
 f296:=dr func120
 f297:=dr func121
 f298:=dr func122
 f299:=dr func123
 f300:=dr func125
 f301:=dr func126
 f328:=dr func170
 f329:=dr func171
 f330:=dr func172
 f331:=dr func173
 f332:=dr func174
 f343:=dr func200
 t0:=underlying0
 a0:=isAgg0
 z0:=sizeOf0
 v0:=zeroValue0
 t3:=underlying3
 a3:=isAgg3
 z3:=sizeOf3
 v3:=zeroValue3
 t4:=underlying4
 a4:=isAgg4
 z4:=sizeOf4
 v4:=zeroValue4
 t5:=underlying5
 a5:=isAgg5
 z5:=sizeOf5
 v5:=zeroValue5
 t9:=underlying9
 a9:=isAgg9
 z9:=sizeOf9
 v9:=zeroValue9
 t28:=underlying22
 a28:=isAgg22
 z28:=sizeOf22
 v28:=zeroValue22
 t46:=underlying133
 a46:=isAgg133
 z46:=sizeOf133
 v46:=zeroValue133
 t51:=underlying188
 a51:=isAgg188
 z51:=sizeOf188
 v51:=zeroValue188
 t53:=underlying190
 a53:=isAgg190
 z53:=sizeOf190
 v53:=zeroValue190
 t131:=underlying78
 a131:=isAgg78
 z131:=sizeOf78
 v131:=zeroValue78
 t182:=underlying181
 a182:=isAgg181
 z182:=sizeOf181
 v182:=zeroValue181
 t183:=underlying182
 a183:=isAgg182
 z183:=sizeOf182
 v183:=zeroValue182
 t218:=underlying223
 a218:=isAgg223
 z218:=sizeOf223
 v218:=zeroValue223
 t222:=underlying227
 a222:=isAgg227
 z222:=sizeOf227
 v222:=zeroValue227
 t228:=underlying244
 a228:=isAgg244
 z228:=sizeOf244
 v228:=zeroValue244
 t229:=underlying245
 a229:=isAgg245
 z229:=sizeOf245
 v229:=zeroValue245 }
open Go.Sort Go.RowKit in
theorem slices_Sort_int (aB off cap:Nat) (zs:List Int) (w:World) (hH:Holds (Value.int .i64) w aB off zs.toArray) (hblk:aB<w.heap.size) (dJ:zs.length<4611686018427387904) :
 Calls prog 24 #[.slice (some ⟨aB,off,none⟩) zs.length cap] w fun e w' =>
  e=.returned (.tuple #[])∧∃ n os,w'=grow (putRow (Value.int .i64) (Sort.ahead w n) aB off (zs.mergeSort fun x y=>decide (x≤y)).toArray) os:=Proofs.Any.slices_Sort_int aHv aB off cap zs w hH hblk dJ
open Go.RowKit Go.Sort in
theorem slices_Sort_int_none (p:Option Addr) (cap:Nat) (w:World) :
 Calls prog 24 #[.slice p 0 cap] w fun e w'=>e=.returned (.tuple #[])∧w'=w:=Proofs.Any.slices_Sort_int_none aHv p cap w
def aM3:Go.Shelf.Ren:=⟨fun|6=>113|15=>71|14=>167|28=>127|29=>128|20=>190|21=>191|22=>192|23=>193|24=>194|25=>195|26=>196|27=>197|46=>204|47=>171|48=>172|49=>205|50=>206|57=>207|n=>n,fun|22=>22|24=>3|25=>74|3=>3|39=>133|0=>0|53=>188|55=>190|4=>4|46=>182|45=>181|50=>78|5=>5|9=>9|66=>223|70=>227|76=>244|77=>245|n=>n,fun|n=>n⟩
theorem aRM:Go.Proofs.SlLaysF.n6 prog aM3:={
 mixed:=by kernel_rfl
 f6:=⟨f113.name,by decide,dr func113⟩
 f14:=⟨f167.name,by decide,dr func167⟩
 f15:=dr func71
 f20:=⟨f190.name,by decide,dr func190⟩
 f21:=⟨f191.name,by decide,dr func191⟩
 f22:=⟨f192.name,by decide,dr func192⟩
 f23:=⟨f193.name,by decide,dr func193⟩
 f24:=⟨f194.name,by decide,dr func194⟩
 f25:=⟨f195.name,by decide,dr func195⟩
 f26:=⟨f196.name,by decide,dr func196⟩
 f27:=⟨f197.name,by decide,dr func197⟩
 f28:=dr func127
 f29:=dr func128
 f46:=⟨f204.name,by decide,dr func204⟩
 f47:=dr func171
 f48:=dr func172
 f49:=⟨f205.name,by decide,dr func205⟩
 f50:=⟨f206.name,by decide,dr func206⟩
 f57:=⟨f207.name,by decide,dr func207⟩
 t0:=underlying0
 a0:=isAgg0
 z0:=sizeOf0
 v0:=zeroValue0
 t3:=underlying3
 a3:=isAgg3
 z3:=sizeOf3
 v3:=zeroValue3
 t4:=underlying4
 a4:=isAgg4
 z4:=sizeOf4
 v4:=zeroValue4
 t5:=underlying5
 a5:=isAgg5
 z5:=sizeOf5
 v5:=zeroValue5
 t9:=underlying9
 a9:=isAgg9
 z9:=sizeOf9
 v9:=zeroValue9
 t22:=underlying22
 a22:=isAgg22
 z22:=sizeOf22
 v22:=zeroValue22
 a24:=isAgg3
 z24:=sizeOf3
 t25:=underlying74
 a25:=isAgg74
 z25:=sizeOf74
 v25:=zeroValue74
 t39:=underlying133
 a39:=isAgg133
 z39:=sizeOf133
 v39:=zeroValue133
 t45:=underlying181
 a45:=isAgg181
 z45:=sizeOf181
 v45:=zeroValue181
 t46:=underlying182
 a46:=isAgg182
 z46:=sizeOf182
 v46:=zeroValue182
 t50:=underlying78
 a50:=isAgg78
 z50:=sizeOf78
 v50:=zeroValue78
 t53:=underlying188
 a53:=isAgg188
 z53:=sizeOf188
 v53:=zeroValue188
 t55:=underlying190
 a55:=isAgg190
 z55:=sizeOf190
 v55:=zeroValue190
 t66:=underlying223
 a66:=isAgg223
 z66:=sizeOf223
 v66:=zeroValue223
 t70:=underlying227
 a70:=isAgg227
 z70:=sizeOf227
 v70:=zeroValue227
 t76:=underlying244
 a76:=isAgg244
 z76:=sizeOf244
 v76:=zeroValue244
 t77:=underlying245
 a77:=isAgg245
 z77:=sizeOf245
 v77:=zeroValue245 }
def aQX:Go.Shelf.Ren:=⟨fun|6=>113|15=>71|14=>167|28=>127|29=>128|20=>190|21=>191|22=>192|23=>193|24=>194|25=>195|26=>196|27=>197|46=>204|47=>171|48=>172|49=>205|50=>206|57=>207|n=>n,fun|22=>22|24=>3|25=>74|3=>3|39=>133|0=>0|53=>188|55=>190|4=>4|46=>182|45=>181|50=>78|5=>5|9=>9|66=>223|70=>227|76=>244|77=>245|n=>n,fun|n=>n⟩
theorem aHb:Go.Proofs.SlLaysF0.n6 prog aQX:={
 mixed:=by kernel_rfl
 f6:=⟨f113.name,by decide,dr func113⟩
 f14:=⟨f167.name,by decide,dr func167⟩
 f15:=dr func71
 f20:=⟨f190.name,by decide,dr func190⟩
 f21:=⟨f191.name,by decide,dr func191⟩
 f22:=⟨f192.name,by decide,dr func192⟩
 f23:=⟨f193.name,by decide,dr func193⟩
 f24:=⟨f194.name,by decide,dr func194⟩
 f25:=⟨f195.name,by decide,dr func195⟩
 f26:=⟨f196.name,by decide,dr func196⟩
 f27:=⟨f197.name,by decide,dr func197⟩
 f28:=dr func127
 f29:=dr func128
 f46:=⟨f204.name,by decide,dr func204⟩
 f47:=dr func171
 f48:=dr func172
 f49:=⟨f205.name,by decide,dr func205⟩
 f50:=⟨f206.name,by decide,dr func206⟩
 f57:=⟨f207.name,by decide,dr func207⟩
 t0:=underlying0
 a0:=isAgg0
 z0:=sizeOf0
 v0:=zeroValue0
 t3:=underlying3
 a3:=isAgg3
 z3:=sizeOf3
 v3:=zeroValue3
 t4:=underlying4
 a4:=isAgg4
 z4:=sizeOf4
 v4:=zeroValue4
 t5:=underlying5
 a5:=isAgg5
 z5:=sizeOf5
 v5:=zeroValue5
 t9:=underlying9
 a9:=isAgg9
 z9:=sizeOf9
 v9:=zeroValue9
 t22:=underlying22
 a22:=isAgg22
 z22:=sizeOf22
 v22:=zeroValue22
 t25:=underlying74
 a25:=isAgg74
 z25:=sizeOf74
 v25:=zeroValue74
 t39:=underlying133
 a39:=isAgg133
 z39:=sizeOf133
 v39:=zeroValue133
 t45:=underlying181
 a45:=isAgg181
 z45:=sizeOf181
 v45:=zeroValue181
 t46:=underlying182
 a46:=isAgg182
 z46:=sizeOf182
 v46:=zeroValue182
 t50:=underlying78
 a50:=isAgg78
 z50:=sizeOf78
 v50:=zeroValue78
 t53:=underlying188
 a53:=isAgg188
 z53:=sizeOf188
 v53:=zeroValue188
 t55:=underlying190
 a55:=isAgg190
 z55:=sizeOf190
 v55:=zeroValue190
 t66:=underlying223
 a66:=isAgg223
 z66:=sizeOf223
 v66:=zeroValue223
 t70:=underlying227
 a70:=isAgg227
 z70:=sizeOf227
 v70:=zeroValue227
 t76:=underlying244
 a76:=isAgg244
 z76:=sizeOf244
 v76:=zeroValue244
 t77:=underlying245
 a77:=isAgg245
 z77:=sizeOf245
 v77:=zeroValue245 }
end
theorem gU {α:Type} {o:Option α} {f g:α} (h:o=some f) (e:f=g:=by kernel_rfl):o=some g:=h.trans (congrArg some e)
def aT2:Go.Shelf.Ren:=⟨fun|6=>48|15=>71|14=>103|28=>127|29=>128|20=>149|21=>150|22=>151|23=>152|24=>153|25=>154|26=>155|27=>156|46=>184|47=>171|48=>172|49=>185|50=>186|57=>202|n=>n,fun|22=>25|24=>55|25=>102|3=>3|39=>133|0=>0|53=>188|55=>190|4=>4|46=>182|45=>181|50=>78|5=>5|9=>9|66=>223|70=>227|76=>244|77=>245|n=>n,fun|n=>n⟩
theorem aTq:Go.Proofs.SlLaysF0.n6 prog aT2:={
 mixed:=by kernel_rfl
 f6:=⟨f48.name,by decide,gU func48⟩
 f14:=⟨f103.name,by decide,gU func103⟩
 f15:=gU func71
 f20:=⟨f149.name,by decide,gU func149⟩
 f21:=⟨f150.name,by decide,gU func150⟩
 f22:=⟨f151.name,by decide,gU func151⟩
 f23:=⟨f152.name,by decide,gU func152⟩
 f24:=⟨f153.name,by decide,gU func153⟩
 f25:=⟨f154.name,by decide,gU func154⟩
 f26:=⟨f155.name,by decide,gU func155⟩
 f27:=⟨f156.name,by decide,gU func156⟩
 f28:=gU func127
 f29:=gU func128
 f46:=⟨f184.name,by decide,gU func184⟩
 f47:=gU func171
 f48:=gU func172
 f49:=⟨f185.name,by decide,gU func185⟩
 f50:=⟨f186.name,by decide,gU func186⟩
 f57:=⟨f202.name,by decide,gU func202⟩
 t0:=underlying0
 a0:=isAgg0
 z0:=sizeOf0
 v0:=zeroValue0
 t3:=underlying3
 a3:=isAgg3
 z3:=sizeOf3
 v3:=zeroValue3
 t4:=underlying4
 a4:=isAgg4
 z4:=sizeOf4
 v4:=zeroValue4
 t5:=underlying5
 a5:=isAgg5
 z5:=sizeOf5
 v5:=zeroValue5
 t9:=underlying9
 a9:=isAgg9
 z9:=sizeOf9
 v9:=zeroValue9
 t22:=underlying25
 a22:=isAgg25
 z22:=sizeOf25
 v22:=zeroValue25
 t25:=underlying102
 a25:=isAgg102
 z25:=sizeOf102
 v25:=zeroValue102
 t39:=underlying133
 a39:=isAgg133
 z39:=sizeOf133
 v39:=zeroValue133
 t45:=underlying181
 a45:=isAgg181
 z45:=sizeOf181
 v45:=zeroValue181
 t46:=underlying182
 a46:=isAgg182
 z46:=sizeOf182
 v46:=zeroValue182
 t50:=underlying78
 a50:=isAgg78
 z50:=sizeOf78
 v50:=zeroValue78
 t53:=underlying188
 a53:=isAgg188
 z53:=sizeOf188
 v53:=zeroValue188
 t55:=underlying190
 a55:=isAgg190
 z55:=sizeOf190
 v55:=zeroValue190
 t66:=underlying223
 a66:=isAgg223
 z66:=sizeOf223
 v66:=zeroValue223
 t70:=underlying227
 a70:=isAgg227
 z70:=sizeOf227
 v70:=zeroValue227
 t76:=underlying244
 a76:=isAgg244
 z76:=sizeOf244
 v76:=zeroValue244
 t77:=underlying245
 a77:=isAgg245
 z77:=sizeOf245
 v77:=zeroValue245 }
def aRB:Go.Shelf.Ren:=⟨fun|6=>53|15=>71|14=>105|28=>127|29=>128|20=>157|21=>158|22=>159|23=>160|24=>161|25=>162|26=>163|27=>164|46=>187|47=>171|48=>172|49=>188|50=>189|57=>203|n=>n,fun|22=>26|24=>45|25=>114|3=>3|39=>133|0=>0|53=>188|55=>190|4=>4|46=>182|45=>181|50=>78|5=>5|9=>9|66=>223|70=>227|76=>244|77=>245|n=>n,fun|n=>n⟩
theorem aSu:Go.Proofs.SlLaysF0.n6 prog aRB:={
 mixed:=by kernel_rfl
 f6:=⟨f53.name,by decide,gU func53⟩
 f14:=⟨f105.name,by decide,gU func105⟩
 f15:=gU func71
 f20:=⟨f157.name,by decide,gU func157⟩
 f21:=⟨f158.name,by decide,gU func158⟩
 f22:=⟨f159.name,by decide,gU func159⟩
 f23:=⟨f160.name,by decide,gU func160⟩
 f24:=⟨f161.name,by decide,gU func161⟩
 f25:=⟨f162.name,by decide,gU func162⟩
 f26:=⟨f163.name,by decide,gU func163⟩
 f27:=⟨f164.name,by decide,gU func164⟩
 f28:=gU func127
 f29:=gU func128
 f46:=⟨f187.name,by decide,gU func187⟩
 f47:=gU func171
 f48:=gU func172
 f49:=⟨f188.name,by decide,gU func188⟩
 f50:=⟨f189.name,by decide,gU func189⟩
 f57:=⟨f203.name,by decide,gU func203⟩
 t0:=underlying0
 a0:=isAgg0
 z0:=sizeOf0
 v0:=zeroValue0
 t3:=underlying3
 a3:=isAgg3
 z3:=sizeOf3
 v3:=zeroValue3
 t4:=underlying4
 a4:=isAgg4
 z4:=sizeOf4
 v4:=zeroValue4
 t5:=underlying5
 a5:=isAgg5
 z5:=sizeOf5
 v5:=zeroValue5
 t9:=underlying9
 a9:=isAgg9
 z9:=sizeOf9
 v9:=zeroValue9
 t22:=underlying26
 a22:=isAgg26
 z22:=sizeOf26
 v22:=zeroValue26
 t25:=underlying114
 a25:=isAgg114
 z25:=sizeOf114
 v25:=zeroValue114
 t39:=underlying133
 a39:=isAgg133
 z39:=sizeOf133
 v39:=zeroValue133
 t45:=underlying181
 a45:=isAgg181
 z45:=sizeOf181
 v45:=zeroValue181
 t46:=underlying182
 a46:=isAgg182
 z46:=sizeOf182
 v46:=zeroValue182
 t50:=underlying78
 a50:=isAgg78
 z50:=sizeOf78
 v50:=zeroValue78
 t53:=underlying188
 a53:=isAgg188
 z53:=sizeOf188
 v53:=zeroValue188
 t55:=underlying190
 a55:=isAgg190
 z55:=sizeOf190
 v55:=zeroValue190
 t66:=underlying223
 a66:=isAgg223
 z66:=sizeOf223
 v66:=zeroValue223
 t70:=underlying227
 a70:=isAgg227
 z70:=sizeOf227
 v70:=zeroValue227
 t76:=underlying244
 a76:=isAgg244
 z76:=sizeOf244
 v76:=zeroValue244
 t77:=underlying245
 a77:=isAgg245
 z77:=sizeOf245
 v77:=zeroValue245 }
section
open Go Go.RowKit Go.Sort Go.Shelf Go.Proofs
theorem aJX {w w':World} (h:Go.RowKit.Below w.heap.size w w') (hd:w.drawn≤w'.drawn):∃ q os',w'=grow (w.drewN q) os':=by
 refine⟨w'.drawn - w.drawn,w'.heap.extract w.heap.size w'.heap.size,?_⟩;obtain⟨h1,h2,h3,h4,h5⟩:=h;cases w;cases w';simp only at *;subst h1 h2 h3;unfold grow World.drewN;simp only [World.mk.injEq];refine⟨?_,trivial,by omega,trivial,trivial⟩;apply Array.ext_getElem?;intro k;rw [Array.getElem?_append]
 split
 ·rename_i hk;exact h5 k hk
 ·rename_i hk
  rw [Array.getElem?_extract];have:∀ n m:Nat,n+(k - n)=k∨k<n:=fun n m=>by omega
  split
  ·congr 1;omega
  ·rw [Array.getElem?_eq_none (by omega)]
theorem aLm {w:World} {g n:Nat} {os:Array Obj} {cur:Array Value} {e:TypeId} {fr:Nat × Nat} (d:Array Value) (hb:w.heap[g]? = some (.cells cur e fr)) :
 (grow (putRow id (Sort.ahead w n) g 0 d) os).heap[g]? = some (.cells (putCells id 0 d cur) e fr):=by
 have hg:g<w.heap.size:=(Array.getElem?_eq_some_iff.1 hb).1;rw [heap_grow_old _ _ (by simpa using hg)];simp [putRow,mapBlock,Sort.ahead,Array.getElem?_modify,hb,onCells]
theorem a7m {w:World} {g n:Nat} {os:Array Obj} (d:Array Value):w.grownBy (grow (putRow id (Sort.ahead w n) g 0 d) os) (some g):=by
 refine⟨rfl,rfl,rfl,by simp,fun k hk bJ=>?_⟩;rw [heap_grow_old _ _ (by simpa using hk)];have:g≠k:=fun e=>bJ (by rw [e])
 simp [putRow,mapBlock,Sort.ahead,Array.getElem?_modify,this]
theorem aGc {w:World} {g n:Nat} {os:Array Obj} (d:Array Value):w.drawn≤(grow (putRow id (Sort.ahead w n) g 0 d) os).drawn:=by
 simp [grow,putRow,mapBlock,Sort.ahead]
theorem aHr (cur:Array Value) (ts:List Value) (h:ts.length≤cur.size):(putCells id 0 ts.toArray cur).toList.take ts.length=ts:=by
 apply List.ext_getElem?;intro j
 by_cases hj:j<ts.length
 ·rw [List.getElem?_take_of_lt hj,Array.getElem?_toList]
  simp [putCells,hj,show j<cur.size by omega]
 ·rw [List.getElem?_take_eq_none (by omega),List.getElem?_eq_none (by omega)]
theorem aFQ {w:World} {g:Nat} {cur:Array Value} {e:TypeId} {ss:List Value} (hb:w.heap[g]? = some (.cells cur e (0,0))) (ht:cur.toList.take ss.length=ss):Holds id w g 0 ss.toArray:=by
 intro j hj;have mI:j<ss.length:=by simpa using hj
 refine⟨?_,by simp [World.frozen?,hb]⟩;have h1:(cur.toList.take ss.length)[j]? = ss[j]?:=by rw [ht]
 rw [List.getElem?_take_of_lt mI] at h1;simp only [World.cell?,hb,Nat.zero_add];simp only [Option.isSome_none,Bool.false_eq_true,if_false];rw [← Array.getElem?_toList,h1,List.getElem?_eq_getElem mI];simp [mI]
theorem aL0 {α:Type} [Inhabited α] {enc:α→List Value} {k:Nat} (hk:∀ x,(enc x).length=k) (kE:0<k) (ts:List α):flatK enc k ts.toArray=(ts.flatMap enc).toArray:=by
 have hl:=nB hk ts;apply Array.ext
 ·simp only [List.size_toArray,hl]
  unfold flatK;simp
 ·intro t h1 h2
  have h1':t<ts.length*k:=by simpa [hl] using h2
  have hg:=get_flatK enc k ts.toArray t (by simpa using h1');rw [getElem!_pos _ t h1] at hg;rw [hg];have hi:t / k<ts.length:=by rw [Nat.div_lt_iff_lt_mul kE];exact h1'
  have hc:=eS hk (default:α) (l:=ts) (i:=t / k) hi;have hd:ts.toArray[t / k]! = nth default ts (t / k):=by rw [getElem!_pos _ _ (by simpa using hi),bS _ _ _ hi];simp
  have hm:t % k<k:=Nat.mod_lt _ kE;have hdm:t / k*k+t % k=t:=by rw [Nat.mul_comm];exact Nat.div_add_mod t k
  rw [hd,← hc,getElem!_pos _ _ (by simp [hl];omega)];simp only [List.getElem_take,List.getElem_drop,List.getElem_toArray]
  congr 1
variable {P:Program} {ρ:Ren} {α:Type} [Inhabited α]
def a3B (w:World) (c:Chunk) (W:World):Prop:=w.heap.size≤W.heap.size∧∀ k,k<w.heap.size→¬ c.has k→W.heap[k]? = w.heap[k]?
theorem aBE (L:Proofs.SlLaysF0.n6 P ρ) {k:Nat} (kE:0<k) (aE:∀ w,(isAgg (ρ.t 24)).run P w=.ok true w) (zE:∀ w,(Go.sizeOf (ρ.t 24)).run P w=.ok k w) (enc:α→List Value) (hk:∀ x,(enc x).length=k) (h1:∀ x,∀ v ∈ enc x,v.oneCell'=true) (cf:α→α→Int) (hO:SWO (Proofs.ltOf cf)) (g:Nat) (cb:Array Value)
 {w0 w:World} {H:List Chunk} {ad:Option Addr} {n cap:Nat} {T:TypeId} {ts:List α} (j:Nat) (hS:aA w0 w H) (hj:H[j]? = some (.row (.slice ad n cap) T k n (ts.flatMap enc))) (hl:n≤100000000) (eg:∀ args w,(callFunc g args).run P w=.ok (.enter g args) w)
 (aEZ:∀ W,a3B w (.row (.slice ad n cap) T k n (ts.flatMap enc)) W→∀ x y,Calls P g (#[.agg (enc x).toArray,.agg (enc y).toArray]++cb) W fun e w'=>e=.returned (.int .i64 (cf x y))∧Go.RowKit.Below W.heap.size W w'∧W.drawn≤w'.drawn) :
 Calls P (ρ.f 6) #[.slice ad n cap,.func (.func g) #[] cb] w fun e w'=>e=.returned (.tuple #[])∧∃ nv:List α,nv.Perm ts∧nv.Pairwise (fun x y=>Proofs.ltOf cf y x=false)∧aA w0 w' (H.set j (.row (.slice ad n cap) T k n (nv.flatMap enc))):=by
 have lW:=hS.ok _ (bW hj);obtain⟨hlen,mL⟩:=lW;rw [nB hk] at hlen;have wF:ts.length=n:=Nat.eq_of_mul_eq_mul_right kE hlen;subst wF
 rcases mL with ⟨hv,hn⟩|⟨b,a5H,cur,hv,hb,hg,mm,fg,hcs,a0Q⟩
 ·simp only [Value.slice.injEq] at hv
  obtain⟨rfl,hx,rfl⟩:=hv;have lB:ts=[]:=List.eq_nil_of_length_eq_zero hx;subst lB;refine (Proofs.AnyF.slices_SortFunc_none L none 0 _ w).mono fun e w' ⟨he,hw⟩=>⟨he,[],List.Perm.refl _,List.Pairwise.nil,?_⟩
  subst hw
  have:H.set j (.row (.slice none 0 0) T k 0 ([].flatMap enc))=H:=by
   apply List.ext_getElem?;intro i;rw [List.getElem?_set]
   split
   ·rename_i h;subst h
    obtain⟨aW,hq⟩:=List.getElem?_eq_some_iff.1 hj;rw [if_pos aW,List.getElem?_eq_getElem aW,hq]
    rfl
   ·rfl
  show aA w0 w' (H.set j (.row (.slice none 0 0) T k 0 ([].flatMap enc)));rw [this];exact hS
 ·simp only [Value.slice.injEq] at hv
  obtain⟨rfl,-,rfl⟩:=hv;have tj:=nB hk ts;have a6I:cur.toList.take (ts.flatMap enc).length=ts.flatMap enc:=by rw [tj];exact a0Q
  have hH:HoldsK enc k w b 0 ts.toArray:=by
   unfold HoldsK;rw [aL0 hk kE];exact aFQ hg a6I
  have oB:=(Array.getElem?_eq_some_iff.1 hg).1
  have a2c:Proofs.CmpLays P g cb enc k cf b 0 ts.toArray.size w:=by
   intro m os dk xd x y
   have hW:a3B w (.row (.slice (some ⟨b,0,none⟩) ts.length cap) T k ts.length (ts.flatMap enc)) (Proofs.sortWorldK enc k w b 0 m dk os):=by
    have fy:=a7m (w:=w) (g:=b) (n:=m) (os:=os) (flatK enc k dk);exact⟨fy.size,fun i hi kO=>fy.block i hi (fun e=>kO (by simp only [Chunk.has,Value.ownBlock];exact e.symm))⟩
   refine (aEZ _ hW x y).mono fun e w' ⟨he,kj,hd⟩=>⟨he,aJX kj hd⟩
  have y7:=Proofs.AnyQ.slices_SortFunc L k aE zE enc hk h1 cf hO g cb b 0 cap ts.toArray w eg a2c hH oB (by simp;omega);rw [List.size_toArray] at y7;refine y7.mono fun e w' ⟨he,d',m,os,qz,qW,hw⟩=>⟨he,d'.toList,?_,?_,?_⟩
  ·obtain⟨dJ,_,hp⟩:=qz
   have e1:d'.extract 0 ts.length=d':=by
    have:d'.size=ts.length:=by simpa using dJ
    rw [← this];exact Array.extract_size
   have e2:ts.toArray.extract 0 ts.length=ts.toArray:=by
    simp
   rw [e1,e2] at hp
   simpa using hp
  ·have dJ:d'.size=ts.length:=by simpa using qz.1
   rw [List.pairwise_iff_getElem];intro i q hi hq hiq;have pG:i<d'.size:=by simpa using hi
   have jB:q<d'.size:=by simpa using hq
   have:=qW i q (Nat.zero_le _) hiq (by omega);rw [getElem!_pos d' q jB,getElem!_pos d' i pG] at this
   simpa using this
  ·have dJ:d'.size=ts.length:=by simpa using qz.1
   have mn:(d'.toList.flatMap enc).length=ts.length*k:=by rw [nB hk,show d'.toList.length=ts.length by simpa using dJ]
   have dp:flatK enc k d'=(d'.toList.flatMap enc).toArray:=by
    have:=aL0 hk kE d'.toList
    simpa using this
   have mM:w'=grow (putRow id (Sort.ahead w m) b 0 (d'.toList.flatMap enc).toArray) os:=by
    rw [hw,← dp]
    rfl
   clear hw;subst mM;have fy:=a7m (w:=w) (g:=b) (n:=m) (os:=os) (d'.toList.flatMap enc).toArray;refine hS.sQ j hj fy.os fy.tape fy.output (aGc _) fy.size ?_ (fun k hk=>.inl hk) (fun k hk tR=>fy.block k hk (fun e=>tR (by simp only [Chunk.has,Value.ownBlock];exact e.symm)));refine⟨mn,.inr ⟨b,cap,_,rfl,Nat.zero_le _,aLm _ hg,mm,fg,?_,?_⟩⟩
   ·simp [Go.Sort.putCells,hcs]
   ·rw [← mn]
    have hm:ts.length*k≤cap*k:=Nat.mul_le_mul_right k mm;exact aHr cur _ (by rw [mn,hcs];exact hm)
end
section
open Go Go.RowKit Go.Sort Go.Shelf Go.Proofs
theorem Bsd.da {w0 w wr W:World} {H:List Chunk} {F S:Nat→Prop} {c:Chunk} (hS:aA w0 w (.aH F wr::H)) (hF:∀ k,S k→F k) {j:Nat} (hj:H[j]? = some c) (hW:a3B w c W):∀ k,S k→W.heap[k]? = w.heap[k]?:=fun k hk =>
 hW.2 k (hS.ok (.aH F wr) (by simp) k (hF k hk)).1 ((List.pairwise_cons.1 hS.apart).1 _ (bW hj) k (hF k hk))
theorem Bsd.yj {w0 w wr W:World} {H:List Chunk} {F S:Nat→Prop} {c:Chunk} (hS:aA w0 w (.aH F wr::H)) (hF:∀ k,S k→F k) (hW:a3B w c W):aP W S:=fun k hk =>
 Nat.lt_of_lt_of_le (hS.ok (.aH F wr) (by simp) k (hF k hk)).1 hW.1
theorem aTz:1<kR:=by
 rw [aAp]
 exact Nat.lt_of_lt_of_le (by rw [dc];omega:1<WB) (by
  have:=Nat.pow_le_pow_right rN (show 1≤512 by omega)
  rwa [Nat.pow_one] at this)
theorem eN.zero (w:World) (S:Nat→Prop):eN w S ⟨⟨false,none,0,0⟩,⟨false,none,0,0⟩⟩ 0:=⟨dR.zero w S,dR.zero w S,aTz⟩
theorem dh.zero (w:World) (S:Nat→Prop):dh w S p0 au:=⟨eN.zero w S,eN.zero w S⟩
def PAt (w:World) (S:Nat→Prop):Type:={ x:PR × Pt // dh w S x.1 x.2 }
theorem ez.zip {w:World} {S:Nat→Prop} {prs:List PR} {l:List Pt} (h:ez w S prs l):∃ ts:List (PAt w S),ts.map (·.1.1)=prs∧ts.map (·.1.2)=l:=by
 obtain⟨f,qU,j7⟩:∃ f:Fin l.length→PAt w S,(∀ i,(f i).1.1=nth p0 prs i)∧∀ i,(f i).1.2=nth au l i:=⟨fun i=>⟨(nth p0 prs i,nth au l i),h.el i i.2⟩,fun i=>rfl,fun i=>rfl⟩;have hlen:=h.len;refine⟨List.ofFn f,?_,?_⟩
 ·apply yP p0
  ·rw [List.length_map,List.length_ofFn,hlen]
  ·intro i hi
   have pG:i<l.length:=by rw [List.length_map,List.length_ofFn] at hi;exact hi
   rw [bS _ _ _ hi,List.getElem_map,List.getElem_ofFn];exact qU ⟨i,pG⟩
 ·apply yP au
  ·rw [List.length_map,List.length_ofFn]
  ·intro i hi
   have pG:i<l.length:=by rw [List.length_map,List.length_ofFn] at hi;exact hi
   rw [bS _ _ _ hi,List.getElem_map,List.getElem_ofFn];exact j7 ⟨i,pG⟩
theorem ez.aUz {w:World} {S:Nat→Prop} (ts:List (PAt w S)):ez w S (ts.map (·.1.1)) (ts.map (·.1.2)):=by
 refine⟨by simp,fun i hi=>?_⟩;have pG:i<ts.length:=by simpa using hi
 rw [bS _ _ _ (by simpa using pG),bS _ _ _ hi];simp only [List.getElem_map];exact (ts[i]).2
end
section
open Go.RowKit Go.Hp Go.Sort Go.Shelf
theorem aVf (w:World) (S:Nat→Prop):SWO (Proofs.ltOf (fun x y:PAt w S=>mW x.1.2 y.1.2)) where
 irrefl x:=by unfold Proofs.ltOf;rw [decide_eq_false_iff_not,a3s];exact Pt.lt_irrefl _
 trans x y z h1 h2:=by
  unfold Proofs.ltOf at *;rw [decide_eq_true_iff,a3s] at *;exact Pt.lt_trans h1 h2
 ntrans x y z h1 h2:=by
  unfold Proofs.ltOf at *;rw [decide_eq_false_iff_not,a3s,Pt.not_lt] at *;exact Pt.le_trans h2 h1
theorem aRE {w0 w wr:World} {H:List Chunk} {F S:Nat→Prop} {ad:Option Addr} {n c:Nat} {T:TypeId} {prs:List PR} {l:List Pt} (j:Nat) (hS:aA w0 w (.aH F wr::H)) (hF:∀ k,S k→F k) (dL:ez wr S prs l) (hj:H[j]? = some (.row (.slice ad n c) T 8 n (prs.flatMap pc))) (hl:n≤1000000) :
 Calls prog 48 #[.slice ad n c,.func (.func 46) #[] #[]] w fun e w'=>e=.returned (.tuple #[])∧∃ nJ l',aA w0 w' (.aH F wr::H.set j (.row (.slice ad n c) T 8 n (nJ.flatMap pc)))∧ez wr S nJ l'∧l'.Perm l∧l'.Pairwise Pt.le:=by
 obtain⟨ts,h1,h2⟩:=(dL.at hS hF).zip
 haveI:Inhabited (PAt w S):=⟨⟨(p0,au),dh.zero w S⟩⟩
 have dp:∀ ts:List (PAt w S),ts.flatMap (fun x=>pc x.1.1)=(ts.map (·.1.1)).flatMap pc:=fun ts=>by rw [List.flatMap_map]
 have mI:(Chunk.aH F wr::H)[j+1]? = some (.row (.slice ad n c) T 8 n (ts.flatMap (fun x=>pc x.1.1))):=by
  rw [dp,h1];exact hj
 refine (aBE aTq (by decide) isAgg55 sizeOf55 (fun x:PAt w S=>pc x.1.1) (fun x=>rfl) (fun x v hv=>a9V [x.1.1] v (by simpa using hv)) (fun x y=>mW x.1.2 y.1.2) (aVf w S) 46 #[] (j+1) hS mI (by omega) (Proofs.enters_of func46 (by kernel_rfl) rfl) ?_).mono ?_
 ·intro W hW x y
  have a4a:=Bsd.da hS hF (j:=j) (by rw [hj,dp,h1]) hW;exact (a3H x.1.1 y.1.1 x.1.2 y.1.2 W S (x.2.move a4a) (y.2.move a4a) (Bsd.yj hS hF hW)).mono fun e w' ⟨he,hq⟩=>⟨he,hq.below,hq.drawn⟩
 ·rintro e w' ⟨he,nv,hp,hs,fY⟩
  have cK:aA w0 w' (.aH F wr::H.set j (.row (.slice ad n c) T 8 n ((nv.map (·.1.1)).flatMap pc))):=by rw [← dp];exact fY
  refine⟨he,_,_,cK,(ez.aUz nv).move (fun k hk=>(hS.da hF k hk).symm),?_,?_⟩
  ·rw [← h2];exact hp.map _
  ·rw [List.pairwise_map]
   refine hs.imp fun {x y} h=>?_
   unfold Proofs.ltOf at h;rw [decide_eq_false_iff_not,a3s,Pt.not_lt] at h;exact h
end
theorem aAo {prs:List PR} {z:List Value} {i:Nat} (hi:i<prs.length):((prs.flatMap pc++z).drop (i*8)).take 8=pc (nth p0 prs i):=by
 have h:=eS gF p0 hi;have hl:=nB gF prs;rw [List.drop_append_of_le_length (by omega),List.take_append_of_le_length (by rw [List.length_drop];omega)];exact h
theorem aSV {prs:List PR} {z:List Value} {i:Nat} {p:PR} (hi:i<prs.length):(prs.flatMap pc++z).take (i*8)++pc p++(prs.flatMap pc++z).drop (i*8+8)=(prs.set i p).flatMap pc++z:=by
 have hl:=nB gF prs;rw [List.take_append_of_le_length (by omega),List.drop_append_of_le_length (by omega),show i*8+8=(i+1)*8 by omega,a29 gF,a8P gF,← List.append_assoc]
 congr 1
 rw [List.set_eq_take_append_cons_drop,if_pos hi];simp
theorem ez.set {w:World} {S:Nat→Prop} {prs:List PR} {l:List Pt} (h:ez w S prs l) {i:Nat} {p:PR} {q:Pt} (hp:dh w S p q) (hi:i<l.length):ez w S (prs.set i p) (l.set i q):=by
 have hl:=h.len;refine⟨by simp [hl],fun j hj=>?_⟩;rw [List.length_set] at hj;unfold nth;simp only [List.getD_eq_getElem?_getD,List.getElem?_set]
 by_cases e:i=j
 ·subst e;simp [hi,hl];exact hp
 ·rw [if_neg e,if_neg e];have:=h.el j hj;unfold nth at this;simpa [List.getD_eq_getElem?_getD] using this
theorem ez.take {w:World} {S:Nat→Prop} {prs:List PR} {l:List Pt} (h:ez w S prs l) (k:Nat):ez w S (prs.take k) (l.take k):=by
 have hl:=h.len;refine⟨by simp [hl],fun j hj=>?_⟩;rw [List.length_take] at hj;rw [xI _ _ (by omega),xI _ _ (by omega)];exact h.el j (by omega)
structure uH (l ls:List Pt) (K m:Nat):Prop where
 len:ls.length=l.length
 lo:1≤K
 hi:K+1≤m
 ml:m≤l.length
 rest:∀ i,m - 1≤i→nth au ls i=nth au l i
 sorted:(ls.take K).Pairwise Pt.lt
 mem:∀ x,x ∈ ls.take K↔x ∈ l.take m
theorem zF {l:List Pt} {m:Nat} (hm:m≤l.length) {x:Pt}:x ∈ l.take m↔∃ i,i<m∧nth au l i=x:=by
 constructor
 ·intro h
  obtain⟨i,hi,rfl⟩:=List.mem_iff_getElem.1 h;have pG:i<m:=by rw [List.length_take] at hi;omega
  exact⟨i,pG,by rw [bS _ _ _ (by omega)];simp⟩
 ·rintro⟨i,hi,rfl⟩
  rw [bS _ _ _ (by omega)];exact List.mem_iff_getElem.2 ⟨i,by rw [List.length_take];omega,by simp⟩
theorem a8d {l:List Pt} (hs:l.Pairwise Pt.le) {i j:Nat} (fe:i≤j) (hj:j<l.length):(nth au l i).le (nth au l j):=by
 rcases Nat.lt_or_eq_of_le fe with h|h
 ·rw [bS _ _ _ (by omega),bS _ _ _ hj]
  exact List.pairwise_iff_getElem.1 hs i j (by omega) hj h
 ·subst h;exact Pt.le_refl _
theorem uH.start {l:List Pt} {k:Nat} (hk:1≤k) (cW:k<l.length) (hs:(l.take k).Pairwise Pt.lt) (he:nth au l k=nth au l (k - 1)):uH l l k (k+1):=by
 refine⟨rfl,hk,Nat.le_refl _,cW,fun _ _=>rfl,hs,fun x=>?_⟩;rw [zF (by omega),zF (by omega)]
 constructor
 ·rintro⟨i,hi,h⟩;exact⟨i,by omega,h⟩
 ·rintro⟨i,hi,h⟩
  by_cases hik:i=k
  ·subst hik;exact⟨i - 1,by omega,by rw [← he];exact h⟩
  ·exact⟨i,by omega,h⟩
theorem uH.skip {l ls:List Pt} {K m:Nat} (h:uH l ls K m) (hm:m<l.length) (he:nth au ls m=nth au ls (m - 1)):uH l ls K (m+1):=by
 have gv:=h.hi;have e1:=h.rest m (by omega);have e2:=h.rest (m - 1) (by omega);refine⟨h.len,h.lo,by omega,hm,fun i hi=>h.rest i (by omega),h.sorted,fun x=>?_⟩;rw [h.mem,zF (by omega),zF (by omega)]
 constructor
 ·rintro⟨i,hi,h⟩;exact⟨i,by omega,h⟩
 ·rintro⟨i,hi,h3⟩
  by_cases hik:i=m
  ·subst hik
   have:=h.lo;exact⟨i - 1,by omega,by rw [← e2,← he,e1];exact h3⟩
  ·exact⟨i,by omega,h3⟩
theorem aAX {α:Type} (d x:α) (l:List α) (i j:Nat) (hi:i<l.length):nth d (l.set i x) j=if j=i then x else nth d l j:=by
 unfold nth;simp only [List.getD_eq_getElem?_getD,List.getElem?_set]
 by_cases h:i=j
 ·subst h;simp [hi]
 ·rw [if_neg h,if_neg (fun e=>h e.symm)]
theorem uH.take {l ls:List Pt} {K m:Nat} (h:uH l ls K m) (hs:l.Pairwise Pt.le) (hm:m<l.length) (he:nth au ls m≠nth au ls (m - 1)):uH l (ls.set K (nth au ls m)) (K+1) (m+1):=by
 have h1:=h.hi;have h2:=h.lo;have h3:=h.len;have e1:=h.rest m (by omega);have e2:=h.rest (m - 1) (by omega)
 have aW:(nth au l (m - 1)).lt (nth au l m):=by
  rcases Pt.le_iff.1 (a8d hs (show m - 1≤m by omega) hm) with h|h
  ·exact h
  ·exact absurd (by rw [e1,e2];exact h.symm) he
 have eK:(ls.set K (nth au ls m)).take (K+1)=ls.take K++[nth au ls m]:=by
  rw [nk au _ _ (by rw [List.length_set];omega),aAX _ _ _ _ _ (by omega),if_pos rfl,List.take_set_of_le (Nat.le_refl _)]
 refine⟨by rw [List.length_set];exact h3,by omega,by omega,hm,fun i hi=>?_,?_,fun x=>?_⟩
 ·rw [aAX _ _ _ _ _ (by omega),if_neg (by omega)]
  exact h.rest i (by omega)
 ·rw [eK]
  refine List.pairwise_append.2 ⟨h.sorted,List.pairwise_singleton _ _,fun a ha b hb=>?_⟩;rw [List.mem_singleton] at hb;subst hb;obtain⟨i,hi,rfl⟩:=(zF (by omega)).1 ((h.mem a).1 ha);rw [e1];have:=a8d hs (show i≤m - 1 by omega) (by omega)
  rcases Pt.le_iff.1 this with h4|h4
  ·exact Pt.lt_trans h4 aW
  ·rw [h4];exact aW
 ·rw [eK,List.mem_append,h.mem,List.mem_singleton,zF (by omega),zF (by omega)]
  constructor
  ·rintro (⟨i,hi,h⟩|h)
   ·exact⟨i,by omega,h⟩
   ·exact⟨m,by omega,by rw [← e1];exact h.symm⟩
  ·rintro⟨i,hi,h5⟩
   by_cases hik:i=m
   ·subst hik;exact .inr (by rw [e1];exact h5.symm)
   ·exact .inl ⟨i,by omega,h5⟩
theorem aQ6 {l:List Pt} (hs:l.Pairwise Pt.le) {k:Nat} (hk:1≤k) (cW:k<l.length) (h:(l.take k).Pairwise Pt.lt) (he:nth au l k≠nth au l (k - 1)):(l.take (k+1)).Pairwise Pt.lt:=by
 rw [nk au _ _ cW]
 have aW:(nth au l (k - 1)).lt (nth au l k):=by
  rcases Pt.le_iff.1 (a8d hs (show k - 1≤k by omega) cW) with h|h
  ·exact h
  ·exact absurd h.symm he
 refine List.pairwise_append.2 ⟨h,List.pairwise_singleton _ _,fun a ha b hb=>?_⟩;rw [List.mem_singleton] at hb;subst hb;obtain⟨i,hi,rfl⟩:=(zF (by omega)).1 ha
 rcases Pt.le_iff.1 (a8d hs (show i≤k - 1 by omega) (by omega)) with h4|h4
 ·exact Pt.lt_trans h4 aW
 ·rw [h4];exact aW
section
variable {P:Program} {ops:Array Oper} {Q:Exit→Act→World→Prop} {rest:List Oper} {a:Act} {w w0:World} {H:List Chunk}
variable {dst:Option Tmp} {ty T E Tb:TypeId} {pos:String} {ak:Array Edge} {x:Operand}
theorem aRv {args:Array Operand} {ts:Array TypeId} {gd:Option (Nat × Bool)} (h:wpList P ops Q (⟨dst,.call ⟨.builtin .clear,args,ts⟩,ty,pos,ak,gd⟩::rest) a w):wpList P ops Q (⟨dst,.call ⟨.builtin .clear,args,ts⟩,ty,pos,ak,gd⟩::rest) a w:=h
theorem aUG {k n c o g:Nat} {cur:Array Value} {z:Value} (j:Nat) (hS:aA w0 w H) (hu:P.underlying T=some (.slice E)) (hzv:∀ w,(zeroValue E).run P w=.ok z w) (hzk:z.cells.size=k) (h1:∀ v ∈ z.cells.toList,v.oneCell'=true) (kE:0<k) (hn:0<n)
 (hx:a.eval x=.slice (some ⟨g,o,none⟩) n c) (hj:H[j]? = some (.aB g (.cells cur Tb (0,0)))) (iV:o+n*k≤cur.size)
 (hk:∀ w' arr,arr.size=cur.size→arr.toList.take o=cur.toList.take o→aA w0 w' (H.set j (.aB g (.cells arr Tb (0,0))))→wpList P ops Q rest (a.put dst (.tuple #[])) w') :
 wpList P ops Q (⟨dst,.call ⟨.builtin .clear,#[x],#[T]⟩,ty,pos,ak,none⟩::rest) a w:=by
 have hg:=hS.aB (bW hj);obtain⟨m,rfl⟩:∃ m,n=m+1:=⟨n - 1,by omega⟩;have hzl:(Builtin.zeroCells z.cells (m+1)).toList.length=(m+1)*k:=by simp [Builtin.zeroCells,hzk]
 have fG:∀ v ∈ (Builtin.zeroCells z.cells (m+1)).toList,v.oneCell'=true:=by
  intro v hv;simp only [Builtin.zeroCells,Array.toList_map,List.mem_map] at hv;obtain⟨i,_,rfl⟩:=hv;have aW:i % z.cells.size<z.cells.size:=Nat.mod_lt _ (by omega);rw [getElem!_pos z.cells (i % z.cells.size) aW];exact h1 _ (by simp)
 have cA:=run_storeCells_at (P:=P) g o Tb (Builtin.zeroCells z.cells (m+1)).toList 0 cur w hg (by simpa [hzl] using iV) fG;simp only [Nat.add_zero] at cA
 have hr:(Builtin.clear_ #[T] ty #[.slice (some ⟨g,o,none⟩) (m+1) c]).run P w=.ok (.tuple #[]) (w.setRow g (cur.toList.take o++(Builtin.zeroCells z.cells (m+1)).toList++cur.toList.drop (o+(Builtin.zeroCells z.cells (m+1)).toList.length)).toArray):=by
  simp [Builtin.clear_,run_underlying hu,hzv,cA]
 refine lx (w':=w.setRow g (cur.toList.take o++(Builtin.zeroCells z.cells (m+1)).toList++cur.toList.drop (o+(Builtin.zeroCells z.cells (m+1)).toList.length)).toArray) (v:=.tuple #[]) rfl ?_ (hk _ (cur.toList.take o++(Builtin.zeroCells z.cells (m+1)).toList++cur.toList.drop (o+(Builtin.zeroCells z.cells (m+1)).toList.length)).toArray ?_ ?_ (hS.write (o':=.cells _ Tb (0,0)) j hj rfl rfl rfl (Nat.le_refl _) (by simp [World.setRow]) (setRow_heap w g cur _ _ _ hg) (fun k _ hkb=>by simp [World.setRow,Array.getElem?_modify,Ne.symm hkb])))
 ·generalize a.eval=ρ at hx
  simp [execOp,resolve,invoke,builtin,hx,hr,go_sem]
 ·simp only [List.size_toArray,List.length_append,List.length_take,List.length_drop,hzl,Array.length_toList];omega
 ·rw [List.append_assoc,List.take_append_of_le_length (by simp;omega),List.take_take,Nat.min_self]
variable {K:Act→Prop} {g:Option (Nat × Bool)}
theorem a5S {b off k:Nat} {arr:Array Value} {fr:Nat × Nat} {cs:List Value} (j:Nat) (eT:∀ w,(isAgg T).run P w=.ok true w) (hz:∀ w,(sizeOf T).run P w=.ok k w) (hx:a.eval x=.pointer (some ⟨b,off,none⟩)) (hj:H[j]? = some (Chunk.aB b (.cells arr Tb fr))) (h0:off+k≤arr.size)
 (hc:(arr.toList.drop off).take k=cs) (hk:K (a.put dst (.agg cs.toArray))):nj P w0 H ⟨dst,.load T x,ty,pos,ak,g⟩ a K:=by
 subst hc;exact a6f j eT hz hx hj h0 hk
theorem aOP {qs:List PR} {z:List Value} {p:PR} {b k:Nat} {y:Operand} (j:Nat) (hS:aA w0 w H) (hx:a.eval x=.pointer (some ⟨b,k*8,none⟩)) (hy:a.eval y=.agg (pc p).toArray) (hj:H[j]? = some (.aB b (.cells (qs.flatMap pc++z).toArray Tb (0,0))))
 (hT:∀ w,(sizeOf T).run P w=.ok 8 w) (hi:k<qs.length)
 (hk:∀ w',aA w0 w' (H.set j (.aB b (.cells ((qs.set k p).flatMap pc++z).toArray Tb (0,0))))→wpList P ops Q rest (a.put dst undef) w') :
 wpList P ops Q (⟨dst,.store T x y,ty,pos,ak,none⟩::rest) a w:=by
 have hl:=nB gF qs;refine aAm (u:=.agg (pc p).toArray) j hS hx hy hj hT ?_ ?_ (fun w' fY=>hk w' ?_)
 ·simp [Value.cells,pc,Value.oneCell']
 ·show k*8+8≤_
  rw [List.size_toArray,List.length_append];omega
 ·rw [← aSV hi]
  exact fY
end
end Go.Hp
