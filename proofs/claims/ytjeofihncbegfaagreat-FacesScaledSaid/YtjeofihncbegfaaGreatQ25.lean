/- Of E6 E7 E8 E9 ED. -/
import Derived.Lib.SliceRun
import Derived.Test.YtjeofihncbegfaaGreatQ24
set_option maxRecDepth 100000
set_option maxHeartbeats 16000000
set_option linter.unusedVariables false
set_option linter.unusedSimpArgs false
namespace Go.Proofs
open Go.Proofs.Tryz
open Go.RowKit Go.Hp
theorem orE_any (b:Nat) (w:World) (S:Nat→Prop) (hv:SlC w S 1 (.slice (some ⟨b,0,none⟩) 2 2) 2 [.int .i64 0,.int .i64 0]) :
 Calls Tryz.prog 134 #[.slice (some ⟨b,0,none⟩) 2 2] w fun e w'=>e=.returned (.int .i64 0)∧w=w':=by
 have hS:=Heap.start w;have hvo:=hv.old
 go_enter func134,ntmps134
 go_wp2;refine wp_loop_rounds 3 ?_;rw [rounds_succ]
 go_wp2_with (first|((with_reducible refine g_idx (T:=249) ?_);refine seq_any rfl (any_index (T:=249) underlying249 sizeOf38 rfl rfl hvo (by omega) (by omega) (by omega) (fun bq oq hcellq=>?_));replace hcellq:CellsAt _ _ ⟨bq,oq,none⟩ [.int .i64 0]:=hcellq;simp only [NRM])|(with_reducible refine ld0 hS isAgg38 ?_))
 first|rw [rounds_succ]
 go_wp2_with (first|((with_reducible refine g_idx (T:=249) ?_);refine seq_any rfl (any_index (T:=249) underlying249 sizeOf38 rfl rfl hvo (by omega) (by omega) (by omega) (fun bq oq hcellq=>?_));replace hcellq:CellsAt _ _ ⟨bq,oq,none⟩ [.int .i64 0]:=hcellq;simp only [NRM])|(with_reducible refine ld0 hS isAgg38 ?_))
 first|rw [rounds_succ]
 go_wp2;go_ret;exact⟨rfl,rfl⟩
theorem afind_any (ad:Option Addr) (n c:Nat) (prs:List PR) (l:List Pt) (p:PR) (q:Pt) (w:World) (S:Nat→Prop) (hv:PL w S (.slice ad n c) prs l) (hp:IsP w S p q) (hL:Liv w S) (hsort:l.Pairwise Pt.lt) (hle:l.length≤1000000) :
 Calls Tryz.prog 82 #[.slice ad n c,.agg #[.bool p.x.num.neg,.slice p.x.num.ad p.x.num.n p.x.num.cap,.bool p.x.less.neg,.slice p.x.less.ad p.x.less.n p.x.less.cap,.bool p.y.num.neg,.slice p.y.num.ad p.y.num.n p.y.num.cap,.bool p.y.less.neg,.slice p.y.less.ad p.y.less.n p.y.less.cap]] w fun e w'=>(∃ i,Stands l q i∧e=.returned (.tuple #[.int .i64 (i:Int),.bool (decide (i<l.length∧nth pt0 l i=q))]))∧Pure w S w' S:=by
 have hb:=fun w' (hv:PL w' S (.slice ad n c) prs l) hp hL=>bsearchP_any ad n c prs l p q w' S hv hp hL hsort hle
 obtain⟨hS,hF0,hO0,hp0⟩:=st0 hL
 go_enter func82,ntmps82
 go_wp2_with (with_reducible first|refine bxA (T:=65) (v:=.agg _) hS fun bx wbx hS=>?_|refine ldA 1 hS isAgg65 sizeOf65 ?_)
 refine (hb _ (hv.at hS hF0) (hp.at hS hF0) (Liv.at hS hF0)).mono ?_;rintro e w' ⟨⟨i,hi,rfl⟩,hq⟩;replace hS:=hS.pcl hF0 hO0 hp0 hq;obtain⟨F1,hF1,-,hp1,hO1,hS⟩:=hS;replace hi:=Hd hi;obtain⟨d,hd⟩:∃ d,decide (i<l.length∧nth pt0 l i=q)=d:=⟨_,rfl⟩;rw [hd];replace hd:=Hd hd;simp only [];go_wp2;refine bodyPost_ret (results_tmp2 rfl _ _ _) rfl ?_;exact⟨⟨i,hi.out,by rw [hd.out];rfl⟩,hp1.step hS hO1 hF1⟩
theorem acheck_any (os:List Sz) (gs:List Gp) (ao ap:Option Addr) (no co np cp:Nat) (w:World) (S:Nat→Prop) (hos:∀ t ∈ os,t.ok) (hgs:∀ g ∈ gs,g.ok) (hv:SlC w S 4 (.slice ao no co) os.length (os.flatMap sc)) (hg:SlC w S 2 (.slice ap np cp) gs.length (gs.flatMap gc)) (hlo:os.length≤512) (hlg:gs.length≤256) :
 Calls Tryz.prog 72 #[.slice ao no co,.slice ap np cp] w fun e w'=>e=.returned (.int .i64 0)∧Pure w (fun _=>False) w' (fun _=>False):=by
 obtain rfl:no=os.length:=by obtain⟨h1,a,cap,h2,_⟩:=hv;cases h2;rfl
 obtain rfl:np=gs.length:=by obtain⟨h1,a,cap,h2,_⟩:=hg;cases h2;rfl
 have hvo:=hv.old;have hgo:=hg.old;have hd1:decide ((512:Int)<(os.length:Int))=false:=by simp;omega
 have hd2:decide ((256:Int)<(gs.length:Int))=false:=by simp;omega
 clear hv hg;have hS:=Heap.start w
 go_enter func72,ntmps72
 go_wp2
 go_loopw [21] (fun v wr=>∃ k:Nat,k≤os.length∧v=.int .i64 (k:Int)∧Heap w wr [.frz (Old w) w]) (fun v _=>os.length - (intOf v).toNat)
 case atStart=>exact⟨0,by omega,rfl,hS⟩
 case round =>
  clear hS;obtain⟨k,hk,rfl,hS⟩:=hrel
  by_cases hkl:k<os.length
  ·obtain⟨t,ht⟩:∃ t,nth s0 os k=t:=⟨_,rfl⟩
   have hc:=flat_cell sc_len s0 hkl;rw [ht] at hc;have hto:=hos t (by rw [← ht];exact nth_mem s0 os k hkl);have v1:=fun w=>pvalid_any t.a.x t.a.y w hto.1.1 hto.1.2
   have v2:=fun w=>pvalid_any t.b.x t.b.y w hto.2.1.1 hto.2.1.2
   have hne:=hto.2.2;have HE:∀ w,(Op.equalIn 10000 51 (.agg #[.int .i64 t.a.x,.int .i64 t.a.y]) (.agg #[.int .i64 t.b.x,.int .i64 t.b.y])).run Tryz.prog w=.ok false w:=fun w=>by rw [equalG,decide_eq_false hne]
   clear ht hto hne
   go_wp2_with (with_reducible first|refine ixE underlying23 sizeOf121 hvo hc fun bq oq hcellq=>?_|refine ldG hS isAgg121 sizeOf121 ?_|refine alA hS zeroValue121 fun b6 wb6 hS=>?_|refine stA (u:=.agg #[_,_,_,_]) 1 hS sizeOf121 fun _ hS=>?_)
   refine rg0 [.p 0,.r 1,.p 3,.r 4,.e 2,.e 5,.e 6,.e 7,.p 8] [] hS fun w1 hS=>?_
   have hC:=hS
   repeat (with_reducible first|refine sldK 1 isAgg51 sizeOf51 ?_|refine spL ?_)
   refine exL ?_
   go_wp2_with (fail)
   refine (v1 _).mono ?_;rintro e w' ⟨rfl,hq⟩;simp only [];go_step;have hS:=hS.below hq.below hq.drawn;have hC:=hC.below hq.below hq.drawn;refine ext_end hC ?_;refine mvs ?_;refine exL ?_
   go_wp2_with (fail)
   refine (v2 _).mono ?_;rintro e w' ⟨rfl,hq⟩;simp only [];go_step;have hS:=hS.below hq.below hq.drawn;have hC:=hC.below hq.below hq.drawn;refine ext_end hC ?_;refine mvs ?_;refine exL ?_
   ((with_reducible refine g_bs (T:=249) ?_);refine seq_buildSlice (k:=1) (z:=.int .i64 0) (len:=2) hS underlying249 sizeOf38 zeroValue38 (by decide) (by decide) (fill2n _ _) (fun b31 wb31 hS=>?_);simp only [NRM];simp only [NRH] at hS)
   refine ext_end hS.sb ?_;refine mvs ?_;refine exL ?_
   go_wp2_with (fail)
   refine (orE_any b31 _ _ (SlC.ofBlk (k:=1) (n:=2) hS (List.mem_of_getElem? (i:=2) rfl) rfl (by decide))).mono ?_;rintro e w' ⟨rfl,rfl⟩;simp only [];go_step;refine ext_end hS.sb ?_;refine mvs ?_;refine snL ?_;clear hC
   go_wp2_with (with_reducible refine ldK 1 hS isAgg51 sizeOf51 ?_)
   go_roundw
   case rel=>exact⟨k+1,by omega,rfl,hS.sb⟩
   case measure=>simp [intOf];omega
  ·obtain rfl:k=os.length:=by omega
   go_wp2
   go_loopw [44] (fun v wr=>∃ k:Nat,k≤gs.length∧v=.int .i64 (k:Int)∧Heap w wr [.frz (Old w) w]) (fun v _=>gs.length - (intOf v).toNat)
   case atStart=>exact⟨0,by omega,rfl,hS⟩
   case round =>
    clear hS;obtain⟨k,hk,rfl,hS⟩:=hrel
    by_cases hkl:k<gs.length
    ·obtain⟨p,hp⟩:∃ p,nth g0 gs k=p:=⟨_,rfl⟩
     have hc:=flat_cell gc_len g0 hkl;rw [hp] at hc;have ho:=hgs p (by rw [← hp];exact nth_mem g0 gs k hkl);have hvk:=fun w=>pvalid_any p.x p.y w ho.1 ho.2
     clear hp ho
     go_wp2_with (first|(with_reducible first|refine ixE underlying24 sizeOf51 hgo hc fun bq oq hcellq=>?_|refine ldG hS isAgg51 sizeOf51 ?_|refine alA hS zeroValue51 fun bp wbp hS=>?_|refine stA (u:=.agg #[_,_]) 1 hS sizeOf51 fun _ hS=>?_|refine ldA 1 hS isAgg51 sizeOf51 ?_)|(go_at_call 135;refine (hvk _).mono ?_;rintro e w' ⟨rfl,hq⟩;have hS:=hS.below hq.below hq.drawn))
     go_roundw
     case rel=>exact⟨k+1,by omega,rfl,hS.sb⟩
     case measure=>simp [intOf];omega
    ·obtain rfl:k=gs.length:=by omega
     go_wp2;go_ret;exact⟨rfl,hS.pure _⟩
end Go.Proofs
namespace Go.Hp
open Go.Proofs.Tryz
open Go Go.RowKit
section
variable {P:Program} {ops:Array Oper} {Q:Exit→Act→World→Prop} {rest:List Oper} {a:Act} {w w0:World} {H:List Chunk}
variable {dst:Option Tmp} {ty T E:TypeId} {pos:String} {aft:Array Edge} {gd:Option (Nat × Bool)}
theorem seq_bs0 {k:Nat} (hS:Heap w0 w H) (hu:P.underlying T=some (.slice E)) (hsz:∀ w,(sizeOf E).run P w=.ok k w) (hg:Region.wanted ⟨dst,.buildSlice T 0 #[],ty,pos,aft,gd⟩ (yielded ops a.tmps)=true)
 (hk:∀ b w',Heap w0 w' (H++[.row (.slice (some ⟨b,0,none⟩) 0 0) E k 0 []])→wpList P ops Q rest (a.put dst (.slice (some ⟨b,0,none⟩) 0 0)) w'):wpList P ops Q (⟨dst,.buildSlice T 0 #[],ty,pos,aft,gd⟩::rest) a w:=by
 have hA:=(hS.alloc (.cells #[] E (0,0)));have hR:=hA.toRow (k:=k) (m:=0) (g:=w.heap.size) (arr:=#[]) (Tb:=E) H.length (by simp) (by simp) (by decide)
 have hR2:Heap w0 (w.alloc (.cells #[] E (0,0))) (H++[.row (.slice (some ⟨w.heap.size,0,none⟩) 0 0) E k 0 []]):=by
  simpa using hR
 refine seq_heap (w':=w.alloc (.cells #[] E (0,0))) (v:=.slice (some ⟨w.heap.size,0,none⟩) 0 0) hg ?_ (hk _ _ hR2);generalize a.eval=ρ;have h0:∀ f:Nat→Value,(Array.range 0).map f=#[]:=fun f=>by simp
 have h1:¬ ((0:Nat) > 2 ^ 24):=by decide
 simp only [execOp,Instr.buildSlice,Sem.run_bind,run_underlying hu,hsz,Result.andThen_ok,Nat.zero_mul,h0,if_neg h1,if_true,Sem.run_pure];have h2:Instr.fill (fun i=>some (i*k,k)) #[] (Array.map (fun x:Nat × Operand=>(x.1,ρ x.2)) #[]).toList=some #[]:=by simp [Instr.fill]
 rw [h2]
 rfl
end
end Go.Hp
namespace Go.Proofs
open Go.Proofs.Tryz
open Go.RowKit Go.Hp
theorem infoG:(Tryz.prog.info? 51).map (fun i=>(i.zero,i.size,i.bytes))=some (some (.agg #[.int .i64 g0.x,.int .i64 g0.y]),2,16):=by kernel_rfl
theorem gc_one (l:List Gp):∀ v ∈ l.flatMap gc,v.oneCell'=true:=by
 intro v hv;obtain⟨p,_,h⟩:=List.mem_flatMap.1 hv;simp only [gc,List.mem_cons,List.not_mem_nil,or_false] at h
 rcases h with rfl|rfl <;> rfl
theorem SlC_none {w:World} {S:Nat→Prop} {k n c m:Nat} {cs:List Value} (h:SlC w S k (.slice none n c) m cs):n=0∧c=0∧m=0∧cs=[]:=by
 obtain⟨h1,a,cap,h2,h3,h4,h5,h6⟩:=h;simp only [Value.slice.injEq] at h2;obtain⟨rfl,rfl,rfl⟩:=h2;have:=h5 rfl;obtain⟨e1,e2⟩:=this;subst e1;subst e2;exact⟨rfl,rfl,rfl,List.eq_nil_of_length_eq_zero (by omega)⟩
theorem cloneS_any (ad:Option Addr) (n c:Nat) (l:List Sz) (w:World) (S:Nat→Prop) (hv:SlC w S 4 (.slice ad n c) l.length (l.flatMap sc)) (hL:Liv w S) (hle:l.length≤1000000) :
 Calls Tryz.prog 73 #[.slice ad n c] w fun e w'=>∃ ad' c' S',e=.returned (.slice ad' n c')∧Pure w S w' S'∧SlC w' S' 4 (.slice ad' n c') l.length (l.flatMap sc):=by
 obtain rfl:n=l.length:=by obtain⟨h1,a,cap,h2,_⟩:=hv;cases h2;rfl
 have qT:∀ (w:World) (a:Option Addr) (n c n' c':Nat),(binOp .eql 23 (.slice a n c) (.slice none n' c')).run Tryz.prog w=.ok (.bool a.isNone) w:=fun w a n c n' c'=>Lib.run_eql_slice_nil w _ _ a n c n' c' underlying23
 have hS:=Heap.start w;have hF0:=hL;cases ad with
 | none =>
  obtain⟨h1,rfl,h3,h4⟩:=SlC_none hv;have hl:l=[]:=List.eq_nil_of_length_eq_zero h1;subst hl
  go_enter func73,ntmps73
  go_wp2;go_ret;exact⟨none,0,S,rfl,hS.pure S,SlC.nil _ _ _⟩
 | some ad =>
  have hvF:SlC w (Old w) 4 _ _ _:=hv.weaken hF0
  go_enter func73,ntmps73
  go_wp2_with (first|((with_reducible refine g_bs (T:=23) ?_);refine seq_bs0 (T:=23) hS underlying23 sizeOf121 rfl (fun b7 _ hS=>?_);simp only [NRM];simp only [NRH] at hS)|((with_reducible refine g_app ?_);refine seq_append (t:=23) 1 hS underlying23 infoS rfl (by decide) rfl rfl rfl hvF (by simp) (sc_one l) (by omega) (by unfold maxLen;omega) (fun ad1 c1 _ hS=>?_);simp only [NRM];simp only [NRH] at hS;simp only [Nat.zero_add,List.nil_append] at hS ⊢))
  go_ret;exact⟨ad1,c1,_,rfl,hS.handOut (fun _ h=>h) hF0 (Pure.refl w S) (List.mem_of_getElem? (i:=0) rfl),(hS.rowSl 1 rfl).weaken fun k h=>.inr h⟩
theorem cloneG_any (ad:Option Addr) (n c:Nat) (l:List Gp) (w:World) (S:Nat→Prop) (hv:SlC w S 2 (.slice ad n c) l.length (l.flatMap gc)) (hL:Liv w S) (hle:l.length≤1000000) :
 Calls Tryz.prog 74 #[.slice ad n c] w fun e w'=>∃ ad' c' S',e=.returned (.slice ad' n c')∧Pure w S w' S'∧SlC w' S' 2 (.slice ad' n c') l.length (l.flatMap gc):=by
 obtain rfl:n=l.length:=by obtain⟨h1,a,cap,h2,_⟩:=hv;cases h2;rfl
 have qT:∀ (w:World) (a:Option Addr) (n c n' c':Nat),(binOp .eql 24 (.slice a n c) (.slice none n' c')).run Tryz.prog w=.ok (.bool a.isNone) w:=fun w a n c n' c'=>Lib.run_eql_slice_nil w _ _ a n c n' c' underlying24
 have hS:=Heap.start w;have hF0:=hL;cases ad with
 | none =>
  obtain⟨h1,rfl,h3,h4⟩:=SlC_none hv;have hl:l=[]:=List.eq_nil_of_length_eq_zero h1;subst hl
  go_enter func74,ntmps74
  go_wp2;go_ret;exact⟨none,0,S,rfl,hS.pure S,SlC.nil _ _ _⟩
 | some ad =>
  have hvF:SlC w (Old w) 2 _ _ _:=hv.weaken hF0
  go_enter func74,ntmps74
  go_wp2_with (first|((with_reducible refine g_bs (T:=24) ?_);refine seq_bs0 (T:=24) hS underlying24 sizeOf51 rfl (fun b7 _ hS=>?_);simp only [NRM];simp only [NRH] at hS)|((with_reducible refine g_app ?_);refine seq_append (t:=24) 1 hS underlying24 infoG rfl (by decide) rfl rfl rfl hvF (by simp) (gc_one l) (by omega) (by unfold maxLen;omega) (fun ad1 c1 _ hS=>?_);simp only [NRM];simp only [NRH] at hS;simp only [Nat.zero_add,List.nil_append] at hS ⊢))
  go_ret;exact⟨ad1,c1,_,rfl,hS.handOut (fun _ h=>h) hF0 (Pure.refl w S) (List.mem_of_getElem? (i:=0) rfl),(hS.rowSl 1 rfl).weaken fun k h=>.inr h⟩
end Go.Proofs
namespace Go.Hp
open Go.Proofs.Tryz
open Go Go.RowKit
def subV (ad:Option Addr) (c j m k:Nat):Value:=.slice (if c=j then ad else ad.map (·.add (j*k))) (m - j) (c - j)
theorem SlC.sub {w:World} {S:Nat→Prop} {k n c j m:Nat} {ad:Option Addr} {cs:List Value} (h:SlC w S k (.slice ad n c) n cs) (hj:j≤m) (hm:m≤n):SlC w S k (subV ad c j m k) (m - j) ((cs.take (m*k)).drop (j*k)):=by
 obtain⟨h1,a,cap,h2,h3,h4,h5,h6⟩:=h;simp only [Value.slice.injEq] at h2;obtain⟨rfl,-,rfl⟩:=h2;have hmk:m*k≤n*k:=Nat.mul_le_mul_right k hm
 have hlen:((cs.take (m*k)).drop (j*k)).length=(m - j)*k:=by
  rw [List.length_drop,List.length_take,Nat.min_eq_left (by omega),Nat.sub_mul]
 refine⟨hlen,_,_,rfl,by omega,by omega,?_,?_⟩
 ·intro e
  split at e
  ·subst e;have:=h5 rfl;omega
  ·cases ad with
   | none=>have:=h5 rfl;omega
   | some x=>simp at e
 ·intro x hx
  have hget:∀ i u,((cs.take (m*k)).drop (j*k))[i]? = some u→cs[j*k+i]? = some u:=by
   intro i u hu;rw [List.getElem?_drop,List.getElem?_take] at hu
   split at hu
   ·exact hu
   ·cases hu
  have hne:((cs.take (m*k)).drop (j*k))≠[]→cs≠[]:=fun h e=>h (by rw [e];simp)
  by_cases hcj:c=j
  ·have he:((cs.take (m*k)).drop (j*k))=[]:=List.eq_nil_of_length_eq_zero (by rw [hlen,show m - j=0 by omega,Nat.zero_mul])
   rw [he];exact⟨fun h=>absurd rfl h,fun h=>absurd rfl h,fun i u hu=>by simp at hu⟩
  ·rw [if_neg hcj] at hx
   cases ad with
   | none=>simp at hx
   | some y =>
    simp only [Option.map_some,Option.some.injEq] at hx;subst hx;have hy:=h6 y rfl;have hb:(y.add (j*k)).block=y.block:=by unfold Addr.add;split <;> rfl
    have ho:(y.add (j*k)).off=y.off+j*k:=by unfold Addr.add;split <;> simp_all
    refine⟨fun h=>?_,fun h=>by rw [hb];exact hy.inS (hne h),fun i u hu=>?_⟩
    ·have:=hy.spot (hne h)
     unfold Addr.add;split
     ·exact this
     ·rfl
    ·rw [hb,ho,Nat.add_assoc]
     exact hy.cell _ u (hget i u hu)
section
variable {P:Program} {ops:Array Oper} {Q:Exit→Act→World→Prop} {rest:List Oper} {a:Act} {w w0:World} {H:List Chunk} {K:Act→Prop}
variable {dst:Option Tmp} {ty T E:TypeId} {pos:String} {aft:Array Edge} {gd:Option (Nat × Bool)} {x lo hi y:Operand}
theorem any_slice_hiG {ad:Option Addr} {n c m k:Nat} {mv:Int} (hu:P.underlying T=some (.slice E)) (hz:∀ w,(sizeOf E).run P w=.ok k w) (hx:a.eval x=.slice ad n c) (hh:a.eval hi=.int .i64 mv) (hmv:mv=(m:Int)) (hmc:m≤c) {v:Value} (hvv:subV ad c 0 m k=v)
 (hk:K (a.put dst v)):StpAny P ⟨dst,.slice T x none (some hi) none,ty,pos,aft,gd⟩ a K:=by
 subst hmv;subst hvv;refine⟨⟨_,fun w'=>?_,hk⟩⟩;generalize a.eval=ρ at hx hh
 have hb2:(Instr.sliceBound (.int .i64 (m:Int)) c .sliceAcap).run P w'=.ok m w':=by
  simp [Instr.sliceBound,asIntOf,go_sem,hmc]
 simp [execOp,hx,hh,Instr.sliceAt,Instr.slice,Instr.sliceBounds,go_sem,run_underlying hu,hb2,hz,subV]
theorem any_slice_loG {ad:Option Addr} {n c j k:Nat} {jv:Int} (hu:P.underlying T=some (.slice E)) (hz:∀ w,(sizeOf E).run P w=.ok k w) (hx:a.eval x=.slice ad n c) (hl:a.eval lo=.int .i64 jv) (hjv:jv=(j:Int)) (hjn:j≤n) {v:Value} (hvv:subV ad c j n k=v)
 (hk:K (a.put dst v)):StpAny P ⟨dst,.slice T x (some lo) none none,ty,pos,aft,gd⟩ a K:=by
 subst hjv;subst hvv;refine⟨⟨_,fun w'=>?_,hk⟩⟩;generalize a.eval=ρ at hx hl
 have hb2:(Instr.sliceBound (.int .i64 (j:Int)) n .sliceB).run P w'=.ok j w':=by
  simp [Instr.sliceBound,asIntOf,go_sem,hjn]
 simp [execOp,hx,hl,Instr.sliceAt,Instr.slice,Instr.sliceBounds,go_sem,run_underlying hu,hb2,hz,subV]
theorem seq_append_zeros0 {k m:Nat} {mv:Int} {z:Value} {bytes:Nat} {tn:TypeId} {kn:IntKind} (hS:Heap w0 w H) (hu:P.underlying T=some (.slice E)) (htn:P.underlying tn=some (.int kn)) (hinfo:(P.info? E).map (fun i=>(i.zero,i.size,i.bytes))=some (some z,k,bytes)) (hk0:0<k) (hzk:z.cells.size=k)
 (hx:a.eval x=.slice none 0 0) (hy:a.eval y=.int .i64 mv) (hmv:mv=(m:Int)) (hm0:0<m) (hbytes:m*bytes≤140737488355328) (h63:m≤9223372036854775807)
 (hk:∀ b G arr w',Heap w0 w' (H++[.blk b (.cells arr E (0,0))])→arr.size=G*k→m≤G→G≤maxLen→wpList P ops Q rest (a.put dst (.slice (some ⟨b,0,none⟩) m G)) w') :
 wpList P ops Q (⟨dst,.call ⟨.builtin .append,#[x,y],#[T,tn]⟩,ty,pos,aft,none⟩::rest) a w:=by
 subst hmv;obtain⟨inf,hi,hz,hsz,hby⟩:=info_parts hinfo;have hold:(Builtin.firstCells inf.size 0 (.slice none 0 0)).run P w.drew=.ok ([]:List Value).toArray w.drew:=rfl;have hr:=Lib.run_append_grow_zeros (P:=P) w T tn ty E inf z .i64 kn hu htn hi hz none 0 0 [] hold m hm0 (by omega) (by omega) (by omega) (by rw [hby];omega) (by rw [hby];exact growslice_fits (by omega) (by simpa using hbytes));have hG1:m≤grownCap w m 0 E:=grownCap_ge w _ _ _;have hG2:grownCap w m 0 E≤maxLen:=grownCap_le_maxLen w m 0 E (by unfold maxLen;omega);simp only [Nat.zero_add] at hr;refine Lib.wpList_append_run w rfl x y T tn rfl _ _ hx hy _ _ hr (hk w.heap.size (grownCap w m 0 E) _ _ (hS.drew.alloc _) ?_ hG1 hG2);simp only [Builtin.zeroCells,hzk,Array.size_append,List.size_toArray,List.length_nil,Array.size_map,Array.size_range];rw [Nat.zero_add,← Nat.add_mul]
 congr 1;omega
end
end Go.Hp
namespace Go.Proofs
open Go.Proofs.Tryz
open Go.RowKit Go.Hp
theorem growS_any (n:Nat) (w:World) (hn:n≤1000000) :
 Calls Tryz.prog 136 #[.slice none 0 0,.int .i64 (n:Int)] w fun e w'=>∃ ad c,e=.returned (.slice ad 0 c)∧Heap w w' [.frz (Old w) w,.row (.slice ad 0 c) 121 4 0 []]:=by
 have hS:=Heap.start w
 by_cases h0:n=0
 ·subst h0
  go_enter func136,ntmps136
  go_wp2;go_ret;exact⟨none,0,rfl,hS.addNil 121 4⟩
 ·have hd:decide (0<n)=true:=by simp;omega
  have w1:IntKind.i64.wrap (n:Int)=(n:Int):=w6
  go_enter func136,ntmps136
  go_wp2_with (first|((with_reducible refine g_app ?_);refine seq_append_zeros0 (m:=n) (T:=23) (E:=121) (tn:=3) (k:=4) hS underlying23 underlying3 infoS (by decide) rfl rfl rfl (by omega) (by omega) (by omega) (by omega) (fun b G arr _ hS harr hG1 hG2=>?_);simp only [NRM];simp only [NRH] at hS))
  go_ret;have hS:=hS.closeRow (c:=G) (n:=0) (k:=4) 1 rfl (by simpa using harr) (by omega) hG2;simp only [List.set_cons_succ,List.set_cons_zero,Nat.zero_mul,List.take_zero] at hS;exact⟨_,_,rfl,hS⟩
end Go.Proofs
namespace Go.Proofs
open Go.Proofs.Tryz
open Go.RowKit Go.Hp
theorem concatS_any (b:Nat) (ad1 ad2:Option Addr) (n1 c1 n2 c2:Nat) (l1 l2:List Sz) (w:World) (S:Nat→Prop) (hL:Liv w S) (hb:SlC w (fun k=>k=b) 1 (.slice (some ⟨b,0,none⟩) 2 2) 2 [.slice ad1 n1 c1,.slice ad2 n2 c2]) (hb2:b<w.heap.size)
 (hv1:SlC w S 4 (.slice ad1 n1 c1) l1.length (l1.flatMap sc)) (hv2:SlC w S 4 (.slice ad2 n2 c2) l2.length (l2.flatMap sc)) (hl1:l1.length≤100000) (hl2:l2.length≤100000) :
 Calls Tryz.prog 75 #[.slice (some ⟨b,0,none⟩) 2 2] w fun e w'=>∃ ad c S',e=.returned (.slice ad (l1++l2).length c)∧Pure w S w' S'∧SlC w' S' 4 (.slice ad (l1++l2).length c) (l1++l2).length ((l1++l2).flatMap sc):=by
 obtain rfl:n1=l1.length:=by obtain⟨h1,a,cap,h2,_⟩:=hv1;cases h2;rfl
 obtain rfl:n2=l2.length:=by obtain⟨h1,a,cap,h2,_⟩:=hv2;cases h2;rfl
 rw [List.length_append,List.flatMap_append];have hvF1:SlC w (Old w) 4 _ _ _:=hv1.weaken hL;have hvF2:SlC w (Old w) 4 _ _ _:=hv2.weaken hL;have hbF:SlC w (Old w) 1 _ _ _:=hb.weaken (fun k h=>by rw [h];exact hb2);have hS:=Heap.start w;have hF0:=hL;obtain⟨M,hM⟩:∃ M,M=l1.length+l2.length:=⟨_,rfl⟩;have w1:IntKind.i64.wrap (l1.length:Int)=(l1.length:Int):=w6;have w2:IntKind.i64.wrap ((l1.length:Int)+(l2.length:Int))=(M:Int):=w7;have w3:decide ((M:Int)<0)=false:=by simp
 have gr:=fun w=>growS_any M w (by omega)
 replace hM:=Hd hM;clear hv1 hv2 hb hb2
 go_enter func75,ntmps75
 go_wp2;refine wp_loop_rounds 3 ?_;rw [rounds_succ]
 go_wp2_with (first|((with_reducible refine g_idx (T:=194) ?_);refine seq_any rfl (any_index (T:=194) underlying194 sizeOf23 rfl rfl hbF (by omega) (by omega) (by omega) (fun bq oq hcellq=>?_));replace hcellq:CellsAt _ _ ⟨bq,oq,none⟩ [.slice ad1 l1.length c1]:=hcellq;simp only [NRM])|(with_reducible refine ld0 hS isAgg23 ?_))
 first|rw [rounds_succ]
 go_wp2_with (first|((with_reducible refine g_idx (T:=194) ?_);refine seq_any rfl (any_index (T:=194) underlying194 sizeOf23 rfl rfl hbF (by omega) (by omega) (by omega) (fun bq oq hcellq=>?_));replace hcellq:CellsAt _ _ ⟨bq,oq,none⟩ [.slice ad2 l2.length c2]:=hcellq;simp only [NRM])|(with_reducible refine ld0 hS isAgg23 ?_))
 first|rw [rounds_succ]
 go_wp2_with (fail)
 refine (gr _).mono ?_;rintro e w' ⟨ad,c,rfl,hG⟩;have hS2:=hS.import hG;clear hS hG gr;have hS:=hS2;clear hS2;simp only [NRH] at hS;simp only [];go_wp2;refine wp_loop_rounds 3 ?_;rw [rounds_succ]
 go_wp2_with (first|((with_reducible refine g_idx (T:=194) ?_);refine seq_any rfl (any_index (T:=194) underlying194 sizeOf23 rfl rfl hbF (by omega) (by omega) (by omega) (fun bq oq hcellq=>?_));replace hcellq:CellsAt _ _ ⟨bq,oq,none⟩ [.slice ad1 l1.length c1]:=hcellq;simp only [NRM])|(with_reducible refine ld0 hS isAgg23 ?_)|((with_reducible refine g_app ?_);refine seq_append (t:=23) 1 hS underlying23 infoS rfl (by decide) rfl rfl rfl hvF1 (by simp) (sc_one l1) (by omega) (by unfold maxLen;omega) (fun _ _ _ hS=>?_);simp only [NRM];simp only [NRH] at hS;try simp only [Nat.zero_add,List.nil_append] at hS ⊢))
 first|rw [rounds_succ]
 go_wp2_with (first|((with_reducible refine g_idx (T:=194) ?_);refine seq_any rfl (any_index (T:=194) underlying194 sizeOf23 rfl rfl hbF (by omega) (by omega) (by omega) (fun bq oq hcellq=>?_));replace hcellq:CellsAt _ _ ⟨bq,oq,none⟩ [.slice ad2 l2.length c2]:=hcellq;simp only [NRM])|(with_reducible refine ld0 hS isAgg23 ?_)|((with_reducible refine g_app ?_);refine seq_append (t:=23) 1 hS underlying23 infoS rfl (by decide) rfl rfl rfl hvF2 (by simp) (sc_one l2) (by omega) (by unfold maxLen;omega) (fun _ _ _ hS=>?_);simp only [NRM];simp only [NRH] at hS;try simp only [Nat.zero_add,List.nil_append] at hS ⊢))
 first|rw [rounds_succ]
 go_wp2;go_ret;exact⟨_,_,_,rfl,hS.handOut (fun _ h=>h) hF0 (Pure.refl w S) (List.mem_of_getElem? (i:=0) rfl),(hS.rowSl 1 rfl).weaken fun k h=>.inr h⟩
end Go.Proofs
namespace Go.Hp
open Go Go.RowKit
structure Ed where
 a:Nat
 b:Nat
 of:List Nat
 dir:Gp
def ed0:Ed:=⟨0,0,[],g0⟩
structure ER where
 a:Nat
 b:Nat
 ad:Option Addr
 n:Nat
 c:Nat
 dir:Gp
def er0:ER:=⟨0,0,none,0,0,g0⟩
def ec (e:ER):List Value:=[.int .i64 e.a,.int .i64 e.b,.slice e.ad e.n e.c,.int .i64 e.dir.x,.int .i64 e.dir.y]
theorem ec_len (e:ER):(ec e).length=5:=rfl
theorem ec_one (l:List ER):∀ v ∈ l.flatMap ec,v.oneCell'=true:=by
 intro v hv;obtain⟨p,_,h⟩:=List.mem_flatMap.1 hv;simp only [ec,List.mem_cons,List.not_mem_nil,or_false] at h
 rcases h with rfl|rfl|rfl|rfl|rfl <;> rfl
structure IsE (w:World) (S:Nat→Prop) (r:ER) (e:Ed):Prop where
 a:r.a=e.a
 b:r.b=e.b
 dir:r.dir=e.dir
 of:Nats w S (.slice r.ad r.n r.c) e.of
structure IsEs (w:World) (S:Nat→Prop) (rs:List ER) (es:List Ed):Prop where
 len:rs.length=es.length
 el:∀ i,i<es.length→IsE w S (nth er0 rs i) (nth ed0 es i)
theorem Nats.move {w wr:World} {S:Nat→Prop} {v:Value} {xs:List Nat} (h:Nats wr S v xs) (hk:∀ k,S k→w.heap[k]? = wr.heap[k]?):Nats w S v xs:=⟨h.1.move hk,h.2⟩
theorem Nats.grow {w w':World} {S S':Nat→Prop} {v:Value} {xs:List Nat} (h:Nats w S v xs) (hp:Pure w S w' S'):Nats w' S' v xs:=⟨h.1.grow hp,h.2⟩
theorem IsE.move {w wr:World} {S:Nat→Prop} {r:ER} {e:Ed} (h:IsE wr S r e) (hk:∀ k,S k→w.heap[k]? = wr.heap[k]?):IsE w S r e:=⟨h.a,h.b,h.dir,h.of.move hk⟩
theorem IsE.grow {w w':World} {S S':Nat→Prop} {r:ER} {e:Ed} (h:IsE w S r e) (hp:Pure w S w' S'):IsE w' S' r e:=⟨h.a,h.b,h.dir,h.of.grow hp⟩
theorem IsE.weaken {w:World} {S T:Nat→Prop} {r:ER} {e:Ed} (h:IsE w S r e) (hST:∀ k,S k→T k):IsE w T r e:=⟨h.a,h.b,h.dir,h.of.weaken hST⟩
theorem IsEs.move {w wr:World} {S:Nat→Prop} {rs:List ER} {es:List Ed} (h:IsEs wr S rs es) (hk:∀ k,S k→w.heap[k]? = wr.heap[k]?):IsEs w S rs es:=⟨h.len,fun i hi=>(h.el i hi).move hk⟩
theorem IsEs.at {w0 w wr:World} {H:List Chunk} {F S:Nat→Prop} {rs:List ER} {es:List Ed} (h:IsEs wr S rs es) (hS:Heap w0 w (.frz F wr::H)) (hF:∀ k,S k→F k):IsEs w S rs es:=h.move (hS.keep hF)
theorem IsEs.grow {w w':World} {S S':Nat→Prop} {rs:List ER} {es:List Ed} (h:IsEs w S rs es) (hp:Pure w S w' S'):IsEs w' S' rs es:=⟨h.len,fun i hi=>(h.el i hi).grow hp⟩
theorem IsEs.weaken {w:World} {S T:Nat→Prop} {rs:List ER} {es:List Ed} (h:IsEs w S rs es) (hST:∀ k,S k→T k):IsEs w T rs es:=⟨h.len,fun i hi=>(h.el i hi).weaken hST⟩
theorem IsPs.snoc {w:World} {S:Nat→Prop} {rs:List PR} {es:List Pt} (h:IsPs w S rs es) {r:PR} {e:Pt} (hr:IsP w S r e):IsPs w S (rs++[r]) (es++[e]):=by
 have hl:=h.len;refine⟨by simp [hl],fun i hi=>?_⟩;simp only [List.length_append,List.length_singleton] at hi
 rcases Nat.lt_or_ge i es.length with h1|h1
 ·rw [nth_append_left _ _ _ _ h1,nth_append_left _ _ _ _ (by omega)];exact h.el i h1
 ·obtain rfl:i=es.length:=by omega
  rw [nth_snoc,← hl,nth_snoc];exact hr
theorem IsPs.append {w:World} {S:Nat→Prop} {rs rs2:List PR} {es es2:List Pt} (h:IsPs w S rs es) (h2:IsPs w S rs2 es2):IsPs w S (rs++rs2) (es++es2):=by
 have hl:=h.len;have hl2:=h2.len;refine⟨by simp [hl,hl2],fun i hi=>?_⟩;rw [List.length_append] at hi
 rcases Nat.lt_or_ge i es.length with h1|h1
 ·rw [nth_append_left _ _ _ _ h1,nth_append_left _ _ _ _ (by omega)];exact h.el i h1
 ·rw [nth_append_right _ _ _ _ h1,nth_append_right _ _ _ _ (by omega),hl];exact h2.el _ (by omega)
theorem CellsAt.part {w:World} {S:Nat→Prop} {b o:Nat} {cs:List Value} (h:CellsAt w S ⟨b,o,none⟩ cs) (i k:Nat):CellsAt w S ⟨b,o+i,none⟩ ((cs.drop i).take k):=by
 refine⟨fun _=>rfl,fun hne=>h.inS (fun e=>hne (by rw [e];simp)),fun j u hu=>?_⟩;rw [List.getElem?_take] at hu
 split at hu
 ·rw [List.getElem?_drop] at hu
  have:=h.cell (i+j) u hu
  simpa [Nat.add_assoc] using this
 ·cases hu
end Go.Hp
