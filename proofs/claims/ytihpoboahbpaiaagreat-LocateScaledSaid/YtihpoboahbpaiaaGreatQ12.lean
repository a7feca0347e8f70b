/- Texts for the walk of the law: KC K17 K18. -/
import Derived.Test.YtihpoboahbpaiaaGreatQ11
import Derived.Test.YtihpoboahbpaiaaGreatQ10
set_option maxRecDepth 100000
set_option maxHeartbeats 16000000
set_option linter.unusedVariables false
set_option linter.unusedSimpArgs false
namespace Go.Hp
open Go Go.RowKit
section
variable {P:Program} {ops:Array Oper} {Q:Exit→Act→World→Prop} {C:World→Prop} {A:List Box} {E:Act→World→Prop} {s:List Mv} {a:Act} {w w0:World} {H:List Chunk} {J:List Chunk→World→Prop} {i:Nat} {o:Oper}
theorem stable_heap (w0:World) (H:List Chunk):Stable (fun B w=>Heap w0 w (H++B)) :=
 ⟨fun B w o h=>by
  have:=h.alloc o
  rwa [List.append_assoc] at this,fun B B' w hp h=>h.perm (List.Perm.append_left H hp)⟩
def laidAll (A:List Box) (l:Array Bool):Array Bool:=A.foldl (fun l p=>l.setIfInBounds p.i true) l
theorem laidAll_spec:∀ (A:List Box) (l:Array Bool),(laidAll A l).size=l.size∧∀ j,(laidAll A l).getD j true=true↔l.getD j true=true∨∃ p ∈ A,p.i=j
 | [],l=>⟨rfl,fun j=>by simp [laidAll]⟩
 | p::A,l=>by
  obtain⟨h1,h2⟩:=laidAll_spec A (l.setIfInBounds p.i true);refine⟨by show (laidAll A _).size=_;rw [h1];simp,fun j=>?_⟩;show (laidAll A _).getD j true=true↔_;rw [h2,getD_set'];simp only [List.mem_cons,exists_eq_or_imp]
  constructor
  ·rintro ((h|h)|h)
   ·exact .inl h
   ·exact .inr (.inl h.symm)
   ·exact .inr (.inr h)
  ·rintro (h|h|h)
   ·exact .inl (.inl h)
   ·exact .inl (.inr h.symm)
   ·exact .inr h
theorem wp_region_box {id:Nat} {l:List Oper} (n:Nat) (s1 s2:List Mv) (M:List Nat) (A:List Box) (w0:World) (H:List Chunk) (hm:P.follows .mixedOrders=true)
 (hok:(Region.noSelect l.toArray && (s1.length+A.length+s2.length == l.length) && boxesFree .any l.toArray M A (laidAll A (Array.replicate l.length false)) && boxOk .any l.toArray M A s2 s1 (Array.replicate l.length false) (laidAll A (Array.replicate l.length false)))=true) (hA:BoxesOk P l.toArray A) (hS:Heap w0 w.drew H)
 (h:wpPre P l.toArray Q (fun w=>Heap w0 w H) A (wpSched P l.toArray (NoPanic Q) (fun w=>Heap w0 w H) s2) s1 a (fun B w=>Heap w0 w (H++B))):(Code.region id l.toArray true).wp P Q a w:=by
 simp only [Bool.and_eq_true,beq_iff_eq] at hok;obtain⟨⟨⟨h1,h2⟩,h4⟩,h3⟩:=hok;refine wp_mono (Q:=NoPanic Q) (wp_region_any hm ?_) (fun e a w hq=>by cases e <;> first|exact hq|exact hq.elim);have hsp:=laidAll_spec A (Array.replicate l.length false);have hbf:=h4;simp only [boxesFree,List.all_eq_true,Bool.and_eq_true,decide_eq_true_eq] at hbf
 have hup:Up A (Array.replicate l.length false) (Array.replicate l.length false) (laidAll A (Array.replicate l.length false)) [] :=
  ⟨rfl,hsp.1,fun j=>by simp,hsp.2,fun j hj=>absurd hj (by simp),fun p hp=>by
   have h5:=(hbf p hp).1.2;rw [hsp.1] at h5;have h6:p.i<l.length:=by simpa using h5
   simp [h6]⟩
 have:=wpG_of_box (P:=P) (Q:=Q) (md:=.any) (M:=M) (C:=fun w=>Heap w0 w H) (s2:=s2) hA h1 _ s1 (Array.replicate l.length false) _ _ A [] a w.drew (fun B w=>Heap w0 w (H++B)) rfl h3 h4 hup (closed_start _) (by simp) (by simpa using hS) (stable_heap w0 H) (fun B w h=>h.sub (List.sublist_append_left _ _)) h;rw [h2] at this
 simpa [over] using this.any
theorem p_pure (h:wpPre P ops Q C A E (.p i::s) a J):wpPre P ops Q C A E (.p i::s) a J:=h
theorem p_read (h:wpPre P ops Q C A E (.r i::s) a J):wpPre P ops Q C A E (.r i::s) a J:=h
theorem pre_run {dst:Option Tmp} {op:Op} {ty:TypeId} {pos:String} {aft:Array Edge} {g:Option (Nat × Bool)} (ho:ops[i]? = some ⟨dst,op,ty,pos,aft,g⟩) (hw:Region.wanted ⟨dst,op,ty,pos,aft,g⟩ (yielded ops a.tmps)=true)
 (h:∀ K:Act→Prop,(∀ a,wpPre P ops Q C A E s a J→K a)→∃ v,(∀ w',(execOp a.eval ⟨dst,op,ty,pos,aft,g⟩).run P w'=.ok (.value v) w')∧K (a.put dst v)):wpPre P ops Q C A E (.p i::s) a J :=
 let ⟨v,hr,hk⟩:=h _ (fun _ h=>h)
 ⟨_,v,ho,.inl ⟨hw,fun w' _=>hr w'⟩,hk⟩
theorem pre_any (ho:ops[i]? = some o) (hw:Region.wanted o (yielded ops a.tmps)=true) (h:StpAny P o a (fun a'=>wpPre P ops Q C A E s a' J)):wpPre P ops Q C A E (.p i::s) a J :=
 let ⟨v,hr,hk⟩:=h.ex
 ⟨_,v,ho,.inl ⟨hw,fun w' _=>hr w'⟩,hk⟩
theorem pre_of (ho:ops[i]? = some o) (hw:Region.wanted o (yielded ops a.tmps)=true) (h:Stp P w0 H o a (fun a'=>wpPre P ops Q (fun w=>Heap w0 w H) A E s a' J)):wpPre P ops Q (fun w=>Heap w0 w H) A E (.r i::s) a J :=
 let ⟨v,hr,hk⟩:=h.ex
 ⟨_,v,ho,.inl ⟨hw,fun w' hw'=>hr w' hw'⟩,hk⟩
theorem pre_ext {dst:Option Tmp} {op:Op} {ty:TypeId} {pos:String} {aft:Array Edge} {g:Option (Nat × Bool)} (ho:ops[i]? = some ⟨dst,op,ty,pos,aft,g⟩)
 (h:∀ B w,J B w→wpList P ops (Exit.then (fun a' w'=>∃ J',J' B w'∧Stable J'∧(∀ B w,J' B w→C w)∧wpPre P ops Q C A E s a' J') (NoPanic Q)) [⟨dst,op,ty,pos,aft,g⟩] a w):wpPre P ops Q C A E (.e i::s) a J :=
 fun B w hJ=>wpOp_of_list ho (h B w hJ) (fun _ _ _ h=>h)
def SubC (F F':Nat→Prop):Prop:=∀ k,F k→F' k
def KeepC (F:Nat→Prop) (wr wm:World):Prop:=∀ k,F k→wr.heap[k]? = wm.heap[k]?
theorem SubC.refl (F:Nat→Prop):SubC F F:=fun _ h=>h
theorem SubC.trans {F F' F'':Nat→Prop} (h:SubC F F') (h':∀ k,F' k→F'' k):SubC F F'':=fun k hk=>h' k (h k hk)
theorem KeepC.refl (F:Nat→Prop) (w:World):KeepC F w w:=fun _ _=>rfl
theorem Heap.cstart {wr:World} {F:Nat→Prop} (hS:Heap w0 w (.frz F wr::H)):SubC F F∧KeepC F wr wr:=⟨SubC.refl _,KeepC.refl _ _⟩
theorem Heap.toC {wr wr':World} {F F':Nat→Prop} (h:Heap w0 w (.frz F' wr'::H)) (hs:∀ k,F k→F' k) (hk:∀ k,F k→wr'.heap[k]? = wr.heap[k]?):Heap w0 w (.frz F wr::H):=by
 refine⟨h.os,h.tape,h.output,h.drawn,h.size,?_,?_⟩
 ·intro c hc
  rcases List.mem_cons.1 hc with hc|hc
  ·subst hc
   exact fun k hf=>⟨(h.ok (.frz F' wr') (by simp) k (hs k hf)).1,(h.keep hs k hf).trans (hk k hf)⟩
  ·exact h.ok c (by simp [hc])
 ·have h1:=List.pairwise_cons.1 h.apart
  exact List.pairwise_cons.2 ⟨fun c hc k hf=>h1.1 c hc k (hs k hf),h1.2⟩
theorem pre_end {K:Act→(List Chunk→World→Prop)→Prop} {Q':Exit→Act→World→Prop} {B:List Chunk} {wr wr':World} {F F':Nat→Prop} (hS:Heap w0 w ((.frz F' wr'::H)++B)) (hs:∀ k,F k→F' k) (hk:∀ k,F k→wr'.heap[k]? = wr.heap[k]?)
 (h:K a (fun B w=>Heap w0 w ((.frz F' wr'::H)++B))):wpList P ops (Exit.then (fun a' w'=>∃ J',J' B w'∧Stable J'∧(∀ B w,J' B w→Heap w0 w (.frz F wr::H))∧K a' J') Q') [] a w :=
 ⟨_,hS,stable_heap w0 (.frz F' wr'::H),fun B w hb=>(hb.sub (List.sublist_append_left _ _)).toC hs hk,h⟩
def bxz (i:Nat) (t:Tmp) (T:TypeId) (z:Value):Box:=⟨i,t,fun b=>.pointer (some ⟨b,0,none⟩),.cells z.cells T (0,0)⟩
theorem run_al {T ty:TypeId} {z:Value} {t:Tmp} {pos:String} {aft:Array Edge} (hz:∀ w,(zeroValue T).run P w=.ok z w) (a:Act) (w:World) :
 (execOp a.eval ⟨some t,.alloc T,ty,pos,aft,none⟩).run P w=.ok (.value (.pointer (some ⟨w.heap.size,0,none⟩))) (w.alloc (.cells z.cells T (0,0))):=by
 simp [execOp,Instr.alloc,newVar,newRow,go_sem,hz]
theorem pre_nil1 {i:Nat} {t:Tmp} {T:TypeId} {z:Value} (h:∀ b w,J [.blk b (.cells z.cells T (0,0))] w→E (a.put (some t) (.pointer (some ⟨b,0,none⟩))) w):wpPre P ops Q C [bxz i t T z] E [] a J:=by
 intro L w hL hJ
 match L,hL,hJ with
 | [(q,b)],hL,hJ =>
  simp only [List.map_cons,List.map_nil,List.cons.injEq,and_true] at hL;subst hL;exact h b w hJ
theorem pre_nil2 {i j:Nat} {t u:Tmp} {T U:TypeId} {y z:Value} (h:∀ b c w,J [.blk b (.cells y.cells T (0,0)),.blk c (.cells z.cells U (0,0))] w→E ((a.put (some t) (.pointer (some ⟨b,0,none⟩))).put (some u) (.pointer (some ⟨c,0,none⟩))) w):wpPre P ops Q C [bxz i t T y,bxz j u U z] E [] a J:=by
 intro L w hL hJ
 match L,hL,hJ with
 | [(x,b),(y,c)],hL,hJ =>
  simp only [List.map_cons,List.map_nil,List.cons.injEq,and_true] at hL;obtain⟨rfl,rfl⟩:=hL;exact h b c w hJ
theorem pre_nil4 {i j k l:Nat} {t u v s:Tmp} {T:TypeId} {z:Value} (h:∀ b c d e w,J [.blk b (.cells z.cells T (0,0)),.blk c (.cells z.cells T (0,0)),.blk d (.cells z.cells T (0,0)),.blk e (.cells z.cells T (0,0))] w→E ((((a.put (some t) (.pointer (some ⟨b,0,none⟩))).put (some u) (.pointer (some ⟨c,0,none⟩))).put (some v) (.pointer (some ⟨d,0,none⟩))).put (some s) (.pointer (some ⟨e,0,none⟩))) w):wpPre P ops Q C [bxz i t T z,bxz j u T z,bxz k v T z,bxz l s T z] E [] a J:=by
 intro L w hL hJ
 match L,hL,hJ with
 | [(x,b),(y,c),(z,d),(u,e)],hL,hJ =>
  simp only [List.map_cons,List.map_nil,List.cons.injEq,and_true] at hL;obtain⟨rfl,rfl,rfl,rfl⟩:=hL;exact h b c d e w hJ
theorem bxz_ok {i:Nat} {t:Tmp} {T ty:TypeId} {z:Value} {pos:String} {aft:Array Edge} (h:ops[i]? = some ⟨some t,.alloc T,ty,pos,aft,none⟩) (hz:∀ w,(zeroValue T).run P w=.ok z w) :
 ∃ o,ops[(bxz i t T z).i]? = some o∧o.dst=some (bxz i t T z).t∧o.guard=none∧∀ (a:Act) (w:World),(execOp a.eval o).run P w=.ok (.value ((bxz i t T z).v w.heap.size)) (w.alloc (bxz i t T z).o):=⟨_,h,rfl,rfl,fun a w=>run_al hz a w⟩
theorem boxesOk1 {i:Nat} {t:Tmp} {T ty:TypeId} {z:Value} {pos:String} {aft:Array Edge} (h:ops[i]? = some ⟨some t,.alloc T,ty,pos,aft,none⟩) (hz:∀ w,(zeroValue T).run P w=.ok z w):BoxesOk P ops [bxz i t T z] :=
 ⟨fun p hp=>by rw [List.mem_singleton.1 hp];exact bxz_ok h hz,by simp,by simp⟩
theorem boxesOk2 {i i':Nat} {t t':Tmp} {T T' ty ty':TypeId} {z z':Value} {pos pos':String} {aft aft':Array Edge} (h:ops[i]? = some ⟨some t,.alloc T,ty,pos,aft,none⟩) (hz:∀ w,(zeroValue T).run P w=.ok z w) (h':ops[i']? = some ⟨some t',.alloc T',ty',pos',aft',none⟩) (hz':∀ w,(zeroValue T').run P w=.ok z' w) (hi:i≠i') (ht:t≠t'):BoxesOk P ops [bxz i t T z,bxz i' t' T' z'] :=
 ⟨fun p hp=>by
  simp only [List.mem_cons,List.not_mem_nil,or_false] at hp
  rcases hp with rfl|rfl
  ·exact bxz_ok h hz
  ·exact bxz_ok h' hz',by simp [bxz,hi],by simp [bxz,ht]⟩
theorem Heap.keepC {wr wm w':World} {F Fm:Nat→Prop} (hS:Heap w0 w (.frz F wr::H)) (hb:Below w.heap.size w w') (hsC:SubC Fm F) (hkC:KeepC Fm wr wm):KeepC Fm w' wm:=fun k hk =>
 ((hb.block k (hS.ok (.frz F wr) (by simp) k (hsC k hk)).1).trans (hS.keep hsC k hk)).trans (hkC k hk)
theorem Heap.keepN {wr wm:World} {F Fm:Nat→Prop} (hS:Heap w0 w (.frz F wr::H)) (hsC:SubC Fm F) (hkC:KeepC Fm wr wm):KeepC Fm w wm:=fun k hk=>(hS.keep hsC k hk).trans (hkC k hk)
theorem Heap.takeLast {wr:World} {F:Nat→Prop} {b:Nat} {ob:Obj} (hS:Heap w0 w (.frz F wr::(H++[.blk b ob]))):Heap w0 w (.frz (fun k=>F k∨k=b) w::H):=by
 have h1:Heap w0 w (.frz F wr::.blk b ob::H):=hS.perm (List.Perm.cons _ (List.perm_append_comm (l₁:=[Chunk.blk b ob]) (l₂:=H)));have h2:=h1.freeze 1 rfl;exact h2.join
theorem Heap.isNewL {wr:World} {F:Nat→Prop} {b:Nat} {ob:Obj} (hS:Heap w0 w (.frz F wr::(H++[.blk b ob]))) (hO:∀ k,Old w0 k→F k):New w0 w b:=by
 have hm:Chunk.blk b ob ∈ H++[.blk b ob]:=by simp
 refine⟨?_,Chunk.lt (hS.ok _ (List.mem_cons_of_mem _ hm)) (c:=.blk b ob) rfl⟩
 rcases Nat.lt_or_ge b w0.heap.size with hlt|hge
 ·exact absurd rfl ((List.pairwise_cons.1 hS.apart).1 _ hm b (hO b hlt))
 ·exact hge
end
section
variable {P:Program} {ops:Array Oper} {Q:Exit→Act→World→Prop} {C:World→Prop} {A:List Box} {Ed:Act→World→Prop} {s:List Mv} {i k:Nat} {a a':Act} {w w0:World} {H:List Chunk} {J:List Chunk→World→Prop} {dst:Option Tmp} {x:Operand} {op:Op} {ty T Tb:TypeId} {pos:String} {aft:Array Edge} {b off:Nat} {arr:Array Value} {fr:Nat × Nat} {u v:Value} {gd:Option (Nat × Bool)}
theorem ppL (hk:wpPre P ops Q C A Ed s a' J) (ho:ops[i]? = some ⟨dst,op,ty,pos,aft,gd⟩:=by with_unfolding_all rfl) (hw:Region.wanted ⟨dst,op,ty,pos,aft,gd⟩ (yielded ops a.tmps)=true:=by with_unfolding_all rfl)
 (h:∀ K:Act→Prop,K a'→∃ v,(∀ w',(execOp a.eval ⟨dst,op,ty,pos,aft,gd⟩).run P w'=.ok (.value v) w')∧K (a.put dst v):=by (intro K hK;go_simp;exact hK)):wpPre P ops Q C A Ed (.p i::s) a J :=
 let ⟨v,hr,h2⟩:=h (fun x=>x=a') rfl
 ⟨_,v,ho,.inl ⟨hw,fun w' _=>hr w'⟩,by rw [show a.put dst v=a' from h2];exact hk⟩
theorem pldB (j:Nat) (hna:∀ w,(isAgg T).run P w=.ok false w) (hk:wpPre P ops Q (fun w=>Heap w0 w H) A Ed s a' J) (ho:ops[i]? = some ⟨dst,.load T x,ty,pos,aft,gd⟩:=by with_unfolding_all rfl) (hx:a.eval x=.pointer (some ⟨b,off,none⟩):=by with_unfolding_all rfl) (hj:H[j]? = some (.blk b (.cells arr Tb fr)):=by with_unfolding_all rfl) (h0:arr[off]? = some u:=by with_unfolding_all rfl) (hg:Region.wanted ⟨dst,.load T x,ty,pos,aft,gd⟩ (yielded ops a.tmps)=true:=by with_unfolding_all rfl) (ha:a.put dst (u)=a':=by (simp only [NRM,NRG];exact rfl)):wpPre P ops Q (fun w=>Heap w0 w H) A Ed (.r i::s) a J:=by
 subst ha;exact pre_of ho hg (stp_load_blk (T:=T) j hna hx hj h0 hk)
theorem pldA (j:Nat) (hna:∀ w,(isAgg T).run P w=.ok true w) (hz:∀ w,(sizeOf T).run P w=.ok k w) (hk:wpPre P ops Q (fun w=>Heap w0 w H) A Ed s a' J) (ho:ops[i]? = some ⟨dst,.load T x,ty,pos,aft,gd⟩:=by with_unfolding_all rfl) (hx:a.eval x=.pointer (some ⟨b,0,none⟩):=by with_unfolding_all rfl) (hj:H[j]? = some (.blk b (.cells arr Tb fr)):=by with_unfolding_all rfl) (h0:arr.size=k:=by with_unfolding_all rfl) (hg:Region.wanted ⟨dst,.load T x,ty,pos,aft,gd⟩ (yielded ops a.tmps)=true:=by with_unfolding_all rfl) (ha:a.put dst (.agg arr)=a':=by (simp only [NRM];exact rfl)):wpPre P ops Q (fun w=>Heap w0 w H) A Ed (.r i::s) a J:=by
 subst ha;exact pre_of ho hg (stp_load_all (T:=T) j hna hz hx hj h0 hk)
theorem pldK (j:Nat) (hna:∀ w,(isAgg T).run P w=.ok true w) (hz:∀ w,(sizeOf T).run P w=.ok k w) (hk:wpPre P ops Q (fun w=>Heap w0 w H) A Ed s a' J) (ho:ops[i]? = some ⟨dst,.load T x,ty,pos,aft,gd⟩:=by with_unfolding_all rfl) (hx:a.eval x=.pointer (some ⟨b,off,none⟩):=by with_unfolding_all rfl) (hj:H[j]? = some (.blk b (.cells arr Tb fr)):=by with_unfolding_all rfl) (h0:off+k≤arr.size:=by simp) (hg:Region.wanted ⟨dst,.load T x,ty,pos,aft,gd⟩ (yielded ops a.tmps)=true:=by with_unfolding_all rfl) (ha:a.put dst (.agg ((arr.toList.drop off).take k).toArray)=a':=by (simp only [NRM,NRS];exact rfl)):wpPre P ops Q (fun w=>Heap w0 w H) A Ed (.r i::s) a J:=by
 subst ha;exact pre_of ho hg (stp_loadk_blk (T:=T) j hna hz hx hj h0 hk)
end
theorem mvp {G G':Prop} (hk:G') (h:PLift G'→G:=by (intro hk;(repeat (first|(with_reducible refine pskL ?_)|(with_reducible refine ppL ?_)));exact hk.down)):G:=h ⟨hk⟩
end Go.Hp
namespace Go.Hp
open Go.Proofs.Tryz
open Go
structure FR where
 num:WI
 less:WI
structure IsF (w:World) (S:Nat→Prop) (x:FR) (q:Rat):Prop where
 num:IsI w S x.num q.num
 less:IsI w S x.less ((q.den:Int) - 1)
 lt:q.den<Lim
theorem IsF.grow {w w':World} {S S':Nat→Prop} {x:FR} {q:Rat} (h:IsF w S x q) (hp:Pure w S w' S'):IsF w' S' x q:=⟨h.num.grow hp,h.less.grow hp,h.lt⟩
theorem IsF.at {w0 w wr:World} {H:List Chunk} {F S:Nat→Prop} {x:FR} {q:Rat} (h:IsF wr S x q) (hS:Heap w0 w (.frz F wr::H)) (hF:∀ k,S k→F k):IsF w S x q:=⟨h.num.at hS hF,h.less.at hS hF,h.lt⟩
theorem IsF.weaken {w:World} {S T:Nat→Prop} {x:FR} {q:Rat} (h:IsF w S x q) (hST:∀ k,S k→T k):IsF w T x q:=⟨h.num.weaken hST,h.less.weaken hST,h.lt⟩
theorem IsF.move {w wr:World} {S:Nat→Prop} {x:FR} {q:Rat} (h:IsF wr S x q) (hk:∀ k,S k→w.heap[k]? = wr.heap[k]?):IsF w S x q:=⟨h.num.move hk,h.less.move hk,h.lt⟩
theorem IsF.cast {w:World} {S:Nat→Prop} {x:FR} {q q':Rat} (h:IsF w S x q) (e:q=q'):IsF w S x q':=e ▸ h
end Go.Hp
namespace Go.Proofs
open Go.Proofs.Tryz
open Go.RowKit Go.Hp
theorem must_any (x:WI) (ev:Int) (w:World) (S:Nat→Prop):Calls Tryz.prog 137 #[.agg #[.bool x.neg,.slice x.ad x.n x.cap],.int .i64 ev] w fun e w'=>e=.returned (.agg #[.bool x.neg,.slice x.ad x.n x.cap])∧Pure w S w' S:=by
 have hS:=Heap.start w
 go_enter func137,ntmps137
 go_wp2_with (with_reducible first|refine bxA hS fun bx wbx hS=>?_|refine alA hS zeroValue52 fun br wbr hS=>?_|refine ldA 1 hS isAgg52 sizeOf52 ?_|refine stA 2 hS sizeOf52 fun _ hS=>?_)
 exact ret_c 2 hS rfl rfl rfl isAgg52 sizeOf52 rfl rfl ⟨rfl,hS.pure S⟩
theorem over_any (x y:WI) (a b:Int) (w:World) (S:Nat→Prop) (hx:IsI w S x a) (hy:IsI w S y b) (hL:Liv w S) (hb:b≠0) :
 Calls Tryz.prog 154 #[.agg #[.bool x.neg,.slice x.ad x.n x.cap],.agg #[.bool y.neg,.slice y.ad y.n y.cap]] w (JRes w S (a / b)):=by
 obtain⟨hS,hF0,hO0,hp0⟩:=st0 hL
 go_enter func154,ntmps154
 go_wp2_with (with_reducible first|refine bxA hS fun bx wbx hS=>?_|refine alA hS zeroValue52 fun br wbr hS=>?_|refine ldA 1 hS isAgg52 sizeOf52 ?_|refine ldA 2 hS isAgg52 sizeOf52 ?_)
 refine (divI_any x y a b _ S (hx.at hS hF0) (hy.at hS hF0) (Liv.at hS hF0) hb).mono ?_;rintro e w' ⟨z,r,S2,rfl,hq,hz,hr⟩;replace hS:=hS.pcl hF0 hO0 hp0 hq;obtain⟨F1,hF1,-,hp1,hO1,hS⟩:=hS;simp only []
 go_wp2_with (with_reducible first|refine alA hS zeroValue52 fun b5 wb5 hS=>?_|refine stA 5 hS sizeOf52 fun _ hS=>?_|refine stA 4 hS sizeOf52 fun _ hS=>?_|refine stA 3 hS sizeOf52 fun _ hS=>?_|refine ldA 4 hS isAgg52 sizeOf52 ?_)
 exact ret_c 3 hS rfl rfl rfl isAgg52 sizeOf52 rfl rfl ⟨z,S2,rfl,hp1.step hS hO1 hF1,hz.at hS hF1⟩
theorem den_any (x:FR) (q:Rat) (w:World) (S:Nat→Prop) (hx:IsF w S x q) (hL:Liv w S) :
 Calls Tryz.prog 95 #[.agg #[.bool x.num.neg,.slice x.num.ad x.num.n x.num.cap,.bool x.less.neg,.slice x.less.ad x.less.n x.less.cap]] w (JRes w S (q.den:Int)):=by
 obtain⟨hS,hF0,hO0,hp0⟩:=st0 hL
 go_enter func95,ntmps95
 go_wp2_with (with_reducible first|refine bxA hS fun bx wbx hS=>?_|refine alA hS zeroValue52 fun br wbr hS=>?_)
 refine rg0 [.p 0,.r 1,.e 2,.e 3,.p 4,.p 5,.e 6,.m 7] [7] hS fun w1 hS=>?_
 have hC:=hS
 repeat (with_reducible first|refine sldK 1 isAgg52 sizeOf52 ?_|refine spL ?_)
 refine exL ?_
 go_wp2_with (fail)
 refine (from_any 1 _ S (by unfold InI;omega)).mono ?_;rintro e w' ⟨o,S2,rfl,hq,ho⟩;simp only [];go_step;have hl:=(hx.less.at hS hF0).grow hq;have hC:=hC.below hq.below hq.drawn;replace hS:=hS.pcl hF0 hO0 hp0 hq;obtain⟨F1,hF1,-,hp1,hO1,hS⟩:=hS;refine ext_end hC ?_;refine mvs ?_;refine exL ?_
 go_wp2_with (fail)
 refine (addI_any x.less o ((q.den:Int) - 1) 1 _ S2 (hl.at hS hF1) (ho.at hS hF1) (Liv.at hS hF1) (by have:=hx.lt;omega)).mono ?_;rintro e w' ⟨z,S3,rfl,hq3,hz⟩;simp only [iRes];go_step;have hC:=hC.below hq3.below hq3.drawn;replace hS:=hS.pcl hF1 hO1 hp1 hq3;obtain⟨F2,hF2,-,hp2,hO2,hS⟩:=hS;refine ext_end hC ?_;refine mvs ?_;refine exL ?_
 go_wp2_with (fail)
 refine (must_any z 0 _ S3).mono ?_;rintro e w' ⟨rfl,hq4⟩;simp only [];go_step;have hz:=(hz.at hS hF2).grow hq4;have hC:=hC.below hq4.below hq4.drawn;replace hS:=hS.pcl hF2 hO2 hp2 hq4;obtain⟨F3,hF3,-,hp3,hO3,hS⟩:=hS;refine ext_end hC ?_;refine mvs ?_;refine muL ?_
 (with_reducible refine stA 2 hS sizeOf52 fun _ hS=>?_)
 refine mut_end ?_;refine mvs ?_;refine snL ?_;go_wp2;exact ret_c 2 hS rfl rfl rfl isAgg52 sizeOf52 rfl rfl ⟨z,S3,rfl,hp3.step hS hO3 hF3,(hz.at hS hF3).cast (by omega)⟩
def fRes (z:FR) (e:Int):Ending:=.returned (.tuple #[.agg #[.bool z.num.neg,.slice z.num.ad z.num.n z.num.cap,.bool z.less.neg,.slice z.less.ad z.less.n z.less.cap],.int .i64 e])
def FRes (w:World) (S:Nat→Prop) (q:Rat) (e:Ending) (w':World):Prop:=∃ (z:FR) (S':Nat→Prop),e=fRes z 0∧Pure w S w' S'∧IsF w' S' z q
theorem lowest_any (x y:WI) (q:Rat) (w:World) (S:Nat→Prop) (hx:IsI w S x q.num) (hy:IsI w S y (q.den:Int)) (hL:Liv w S) :
 Calls Tryz.prog 155 #[.agg #[.bool x.neg,.slice x.ad x.n x.cap],.agg #[.bool y.neg,.slice y.ad y.n y.cap],.int .i64 0,.int .i64 0] w (FRes w S q):=by
 have hlt:=hy.lt;have hdp:=q.den_pos;obtain⟨hS,hF0,hO0,hp0⟩:=st0 hL
 go_enter func155,ntmps155
 go_wp2_with (with_reducible first|refine bxA hS fun bx wbx hS=>?_|refine alA hS zeroValue54 fun br wbr hS=>?_)
 refine rg0 [.r 0,.r 1,.e 2,.e 3,.p 4,.p 5,.e 6,.p 7,.m 8,.p 9] [8] hS fun w1 hS=>?_
 have hC:=hS
 repeat (with_reducible first|refine sldA 1 isAgg52 sizeOf52 ?_|refine sldA 2 isAgg52 sizeOf52 ?_)
 refine exL ?_
 go_wp2_with (fail)
 refine (from_any 1 _ S (by unfold InI;omega)).mono ?_;rintro e w' ⟨o,S2,rfl,hq,ho⟩;simp only [];go_step;have hx:=(hx.at hS hF0).grow hq;have hy:=(hy.at hS hF0).grow hq;have hC:=hC.below hq.below hq.drawn;replace hS:=hS.pcl hF0 hO0 hp0 hq;obtain⟨F1,hF1,-,hp1,hO1,hS⟩:=hS;refine ext_end hC ?_;refine mvs ?_;refine exL ?_
 go_wp2_with (fail)
 refine (subI_any y o (q.den:Int) 1 _ S2 (hy.at hS hF1) (ho.at hS hF1) (Liv.at hS hF1) (by omega)).mono ?_;rintro e w' ⟨z,S3,rfl,hq3,hz⟩;simp only [iRes];go_step;have hx:=(hx.at hS hF1).grow hq3;have hC:=hC.below hq3.below hq3.drawn;replace hS:=hS.pcl hF1 hO1 hp1 hq3;obtain⟨F2,hF2,-,hp2,hO2,hS⟩:=hS;refine ext_end hC ?_;refine mvs ?_;refine exL ?_
 go_wp2_with (fail)
 refine (must_any z 0 _ S3).mono ?_;rintro e w' ⟨rfl,hq4⟩;simp only [];go_step;have hz:=(hz.at hS hF2).grow hq4;have hx:=(hx.at hS hF2).grow hq4;have hC:=hC.below hq4.below hq4.drawn;replace hS:=hS.pcl hF2 hO2 hp2 hq4;obtain⟨F3,hF3,-,hp3,hO3,hS⟩:=hS;refine ext_end hC ?_;refine mvs ?_;refine muL ?_
 (with_reducible refine stA 3 hS sizeOf54 fun _ hS=>?_)
 refine mut_end ?_;refine mvs ?_;refine snL ?_;go_wp2;exact ret_ct 3 hS rfl rfl rfl isAgg54 sizeOf54 rfl rfl ⟨⟨x,z⟩,S3,rfl,hp3.step hS hO3 hF3,hx.at hS hF3,hz.at hS hF3,by omega⟩
end Go.Proofs
namespace Go.Hp
open Go.Proofs.Tryz
open Go
theorem divInt_parts {a b:Int} (hb:0<b):(Rat.divInt a b).num=a / (Int.gcd a b:Nat)∧((Rat.divInt a b).den:Int)=b / (Int.gcd a b:Nat):=by
 constructor
 ·rw [Rat.num_divInt,Int.sign_eq_one_of_pos hb,Int.one_mul,Int.gcd_comm]
 ·rw [Rat.den_divInt,if_neg (by omega),Int.gcd_comm]
  rw [Int.natCast_ediv,Int.natAbs_of_nonneg (by omega)]
end Go.Hp
namespace Go.Proofs
open Go.Proofs.Tryz
open Go.RowKit Go.Hp
theorem make_any (x y:WI) (a b:Int) (w:World) (S:Nat→Prop) (hx:IsI w S x a) (hy:IsI w S y b) (hL:Liv w S) (hb:b≠0) :
 Calls Tryz.prog 150 #[.agg #[.bool x.neg,.slice x.ad x.n x.cap],.agg #[.bool y.neg,.slice y.ad y.n y.cap]] w (FRes w S (Rat.divInt a b)):=by
 obtain⟨hS,hF0,hO0,hp0⟩:=st0 hL
 by_cases hpos:0<b
 ·have hs:cmpZ b 0=1:=by unfold cmpZ;rw [if_neg (by omega),if_pos hpos]
  obtain⟨hpn,hpd⟩:=divInt_parts (a:=a) hpos
  have hgz:((Int.gcd a b:Nat):Int)≠0:=by
   have:Int.gcd a b≠0:=fun h=>by have:=(Int.gcd_eq_zero_iff.1 h).2;omega
   omega
  go_enter func150,ntmps150
  go_wp2_with (with_reducible first|refine bxA hS fun bx wbx hS=>?_|refine alA hS zeroValue54 fun br wbr hS=>?_|refine ldA 2 hS isAgg52 sizeOf52 ?_)
  refine (signI_any y b _ S (hy.at hS hF0)).mono ?_;rintro e w1 ⟨rfl,hq0⟩;have hx:=(hx.at hS hF0).grow hq0;have hy:=(hy.at hS hF0).grow hq0;replace hS:=hS.pcl hF0 hO0 hp0 hq0;obtain⟨F1,hF1,-,hp1,hO1,hS⟩:=hS;simp only [hs]
  go_wp2_with (with_reducible refine ldA 2 hS isAgg52 sizeOf52 ?_)
  refine (signI_any y b _ S (hy.at hS hF1)).mono ?_;rintro e w2 ⟨rfl,hq1⟩;have hx:=(hx.at hS hF1).grow hq1;have hy:=(hy.at hS hF1).grow hq1;replace hS:=hS.pcl hF1 hO1 hp1 hq1;obtain⟨F2,hF2,-,hp2,hO2,hS⟩:=hS;simp only [hs];clear hs
  go_wp2_with (with_reducible first|refine ldA 1 hS isAgg52 sizeOf52 ?_|refine ldA 2 hS isAgg52 sizeOf52 ?_)
  refine (gcdI_any x y (a) (b) _ S (hx.at hS hF2) (hy.at hS hF2) (Liv.at hS hF2)).mono ?_;rintro e w' ⟨g,S2,rfl,hq,hg⟩;have hx:=(hx.at hS hF2).grow hq;have hy:=(hy.at hS hF2).grow hq;replace hS:=hS.pcl hF2 hO2 hp2 hq;obtain⟨F3,hF3,-,hp3,hO3,hS⟩:=hS;simp only []
  go_wp2_with (with_reducible first|refine alA hS zeroValue52 fun bg wbg hS=>?_|refine stA 4 hS sizeOf52 fun _ hS=>?_)
  refine rg0 [.r 0,.r 1,.r 3,.r 4,.e 2,.e 5,.e 6,.p 7,.p 8,.m 9,.p 10] [9] hS fun w1 hS=>?_
  have hC:=hS
  repeat (with_reducible first|refine sldA 1 isAgg52 sizeOf52 ?_|refine sldA 2 isAgg52 sizeOf52 ?_|refine sldA 4 isAgg52 sizeOf52 ?_)
  refine exL ?_
  go_wp2_with (fail)
  refine (over_any x g (a) (Int.gcd (a) (b):Nat) _ S2 (hx.at hS hF3) (hg.at hS hF3) (Liv.at hS hF3) hgz).mono ?_;rintro e w' ⟨n,S3,rfl,hq2,hn⟩;simp only [];go_step;have hy:=(hy.at hS hF3).grow hq2;have hg:=(hg.at hS hF3).grow hq2;have hC:=hC.below hq2.below hq2.drawn;replace hS:=hS.pcl hF3 hO3 hp3 hq2;obtain⟨F4,hF4,-,hp4,hO4,hS⟩:=hS;refine ext_end hC ?_;refine mvs ?_;refine exL ?_
  go_wp2_with (fail)
  refine (over_any y g (b) (Int.gcd (a) (b):Nat) _ S3 (hy.at hS hF4) (hg.at hS hF4) (Liv.at hS hF4) hgz).mono ?_;rintro e w' ⟨d,S4,rfl,hq3,hd⟩;simp only [];go_step;have hn:=(hn.at hS hF4).grow hq3;have hC:=hC.below hq3.below hq3.drawn;replace hS:=hS.pcl hF4 hO4 hp4 hq3;obtain⟨F5,hF5,-,hp5,hO5,hS⟩:=hS;refine ext_end hC ?_;refine mvs ?_;refine exL ?_
  go_wp2_with (fail)
  refine (lowest_any n d (Rat.divInt (a) (b)) _ S4 ((hn.at hS hF5).cast hpn.symm) ((hd.at hS hF5).cast hpd.symm) (Liv.at hS hF5)).mono ?_;rintro e w' ⟨z,S5,rfl,hq4,hz⟩;simp only [fRes];go_step;have hC:=hC.below hq4.below hq4.drawn;replace hS:=hS.pcl hF5 hO5 hp5 hq4;obtain⟨F6,hF6,-,hp6,hO6,hS⟩:=hS;refine ext_end hC ?_;refine mvs ?_;refine muL ?_
  (with_reducible refine stA 3 hS sizeOf54 fun _ hS=>?_)
  refine mut_end ?_;refine mvs ?_;refine snL ?_;go_wp2;exact ret_ct 3 hS rfl rfl rfl isAgg54 sizeOf54 rfl rfl ⟨z,S5,rfl,hp6.step hS hO6 hF6,hz.at hS hF6⟩
 ·have hneg:b<0:=by omega
  have hs:cmpZ b 0 = -1:=by unfold cmpZ;rw [if_pos hneg]
  obtain⟨hpn,hpd⟩:=divInt_parts (a:=-a) (b:=-b) (by omega)
  have hgz:((Int.gcd (-a) (-b):Nat):Int)≠0:=by
   have:Int.gcd (-a) (-b)≠0:=fun h=>by have:=(Int.gcd_eq_zero_iff.1 h).2;omega
   omega
  go_enter func150,ntmps150
  go_wp2_with (with_reducible first|refine bxA hS fun bx wbx hS=>?_|refine alA hS zeroValue54 fun br wbr hS=>?_|refine ldA 2 hS isAgg52 sizeOf52 ?_)
  refine (signI_any y b _ S (hy.at hS hF0)).mono ?_;rintro e w1 ⟨rfl,hq0⟩;have hx:=(hx.at hS hF0).grow hq0;have hy:=(hy.at hS hF0).grow hq0;replace hS:=hS.pcl hF0 hO0 hp0 hq0;obtain⟨F1,hF1,-,hp1,hO1,hS⟩:=hS;simp only [hs]
  go_wp2_with (with_reducible refine ldA 2 hS isAgg52 sizeOf52 ?_)
  refine (signI_any y b _ S (hy.at hS hF1)).mono ?_;rintro e w2 ⟨rfl,hq1⟩;have hx:=(hx.at hS hF1).grow hq1;have hy:=(hy.at hS hF1).grow hq1;replace hS:=hS.pcl hF1 hO1 hp1 hq1;obtain⟨F2,hF2,-,hp2,hO2,hS⟩:=hS;simp only [hs];clear hs
  go_wp2_with (fail)
  refine rg0 [.r 0,.r 2,.e 1,.e 3,.m 4,.m 5] [4,5] hS fun w1 hS=>?_
  have hC:=hS
  repeat (with_reducible first|refine sldA 1 isAgg52 sizeOf52 ?_|refine sldA 2 isAgg52 sizeOf52 ?_)
  refine exL ?_
  go_wp2_with (fail)
  refine (neg_any x a _ S (hx.at hS hF2)).mono ?_;rintro e w' ⟨x2,rfl,hq2,hx2⟩;simp only [];go_step;have hy:=(hy.at hS hF2).grow hq2;have hC:=hC.below hq2.below hq2.drawn;replace hS:=hS.pcl hF2 hO2 hp2 hq2;obtain⟨F3,hF3,-,hp3,hO3,hS⟩:=hS;refine ext_end hC ?_;refine mvs ?_;refine exL ?_
  go_wp2_with (fail)
  refine (neg_any y b _ S (hy.at hS hF3)).mono ?_;rintro e w' ⟨y2,rfl,hq3,hy2⟩;simp only [];go_step;have hx2:=(hx2.at hS hF3).grow hq3;have hC:=hC.below hq3.below hq3.drawn;replace hS:=hS.pcl hF3 hO3 hp3 hq3;obtain⟨F4,hF4,-,hp4,hO4,hS⟩:=hS;refine ext_end hC ?_;refine mvs ?_;refine muL ?_
  (with_reducible refine stA 1 hS sizeOf52 fun _ hS=>?_)
  refine mut_end ?_;refine mvs ?_;refine muL ?_
  (with_reducible refine stA 2 hS sizeOf52 fun _ hS=>?_)
  refine mut_end ?_;refine mvs ?_;refine snL ?_;clear hx hy hC;have hx:=hx2;have hy:=hy2
  go_wp2_with (with_reducible first|refine ldA 1 hS isAgg52 sizeOf52 ?_|refine ldA 2 hS isAgg52 sizeOf52 ?_)
  refine (gcdI_any x2 y2 (-a) (-b) _ S (hx.at hS hF4) (hy.at hS hF4) (Liv.at hS hF4)).mono ?_;rintro e w' ⟨g,S2,rfl,hq,hg⟩;have hx:=(hx.at hS hF4).grow hq;have hy:=(hy.at hS hF4).grow hq;replace hS:=hS.pcl hF4 hO4 hp4 hq;obtain⟨F5,hF5,-,hp5,hO5,hS⟩:=hS;simp only []
  go_wp2_with (with_reducible first|refine alA hS zeroValue52 fun bg wbg hS=>?_|refine stA 4 hS sizeOf52 fun _ hS=>?_)
  refine rg0 [.r 0,.r 1,.r 3,.r 4,.e 2,.e 5,.e 6,.p 7,.p 8,.m 9,.p 10] [9] hS fun w1 hS=>?_
  have hC:=hS
  repeat (with_reducible first|refine sldA 1 isAgg52 sizeOf52 ?_|refine sldA 2 isAgg52 sizeOf52 ?_|refine sldA 4 isAgg52 sizeOf52 ?_)
  refine exL ?_
  go_wp2_with (fail)
  refine (over_any x2 g (-a) (Int.gcd (-a) (-b):Nat) _ S2 (hx.at hS hF5) (hg.at hS hF5) (Liv.at hS hF5) hgz).mono ?_;rintro e w' ⟨n,S3,rfl,hq2,hn⟩;simp only [];go_step;have hy:=(hy.at hS hF5).grow hq2;have hg:=(hg.at hS hF5).grow hq2;have hC:=hC.below hq2.below hq2.drawn;replace hS:=hS.pcl hF5 hO5 hp5 hq2;obtain⟨F6,hF6,-,hp6,hO6,hS⟩:=hS;refine ext_end hC ?_;refine mvs ?_;refine exL ?_
  go_wp2_with (fail)
  refine (over_any y2 g (-b) (Int.gcd (-a) (-b):Nat) _ S3 (hy.at hS hF6) (hg.at hS hF6) (Liv.at hS hF6) hgz).mono ?_;rintro e w' ⟨d,S4,rfl,hq3,hd⟩;simp only [];go_step;have hn:=(hn.at hS hF6).grow hq3;have hC:=hC.below hq3.below hq3.drawn;replace hS:=hS.pcl hF6 hO6 hp6 hq3;obtain⟨F7,hF7,-,hp7,hO7,hS⟩:=hS;refine ext_end hC ?_;refine mvs ?_;refine exL ?_
  go_wp2_with (fail)
  refine (lowest_any n d (Rat.divInt (-a) (-b)) _ S4 ((hn.at hS hF7).cast hpn.symm) ((hd.at hS hF7).cast hpd.symm) (Liv.at hS hF7)).mono ?_;rintro e w' ⟨z,S5,rfl,hq4,hz⟩;simp only [fRes];go_step;have hC:=hC.below hq4.below hq4.drawn;replace hS:=hS.pcl hF7 hO7 hp7 hq4;obtain⟨F8,hF8,-,hp8,hO8,hS⟩:=hS;refine ext_end hC ?_;refine mvs ?_;refine muL ?_
  (with_reducible refine stA 3 hS sizeOf54 fun _ hS=>?_)
  refine mut_end ?_;refine mvs ?_;refine snL ?_;go_wp2;exact ret_ct 3 hS rfl rfl rfl isAgg54 sizeOf54 rfl rfl ⟨z,S5,rfl,hp8.step hS hO8 hF8,(hz.at hS hF8).cast (Rat.neg_divInt_neg a b)⟩
theorem of_any (p q:Int) (w:World) (S:Nat→Prop) (hp:InI p) (hq:InI q) (hL:Liv w S) (h0:q≠0) :
 Calls Tryz.prog 103 #[.int .i64 p,.int .i64 q] w (FRes w S (Rat.divInt p q)):=by
 obtain⟨hS,hF0,hO0,hp0⟩:=st0 hL
 go_enter func103,ntmps103
 go_wp2_with (with_reducible refine alA hS zeroValue54 fun br wbr hS=>?_)
 refine (from_any p _ S hp).mono ?_;rintro e w1 ⟨x,S1,rfl,hq1,hx⟩;replace hS:=hS.pcl hF0 hO0 hp0 hq1;obtain⟨F1,hF1,-,hp1,hO1,hS⟩:=hS;simp only []
 go_wp2_with (fail)
 refine (from_any q _ S1 hq).mono ?_;rintro e w2 ⟨y,S2,rfl,hq2,hy⟩;have hx:=(hx.at hS hF1).grow hq2;replace hS:=hS.pcl hF1 hO1 hp1 hq2;obtain⟨F2,hF2,-,hp2,hO2,hS⟩:=hS;simp only []
 go_wp2_with (fail)
 refine (make_any x y p q _ S2 (hx.at hS hF2) (hy.at hS hF2) (Liv.at hS hF2) h0).mono ?_;rintro e w3 ⟨z,S3,rfl,hq3,hz⟩;replace hS:=hS.pcl hF2 hO2 hp2 hq3;obtain⟨F3,hF3,-,hp3,hO3,hS⟩:=hS;simp only [fRes]
 go_wp2_with (with_reducible refine stA 1 hS sizeOf54 fun _ hS=>?_)
 exact ret_ct 1 hS rfl rfl rfl isAgg54 sizeOf54 rfl rfl ⟨z,S3,rfl,hp3.step hS hO3 hF3,hz.at hS hF3⟩
theorem signF_any (x:FR) (q:Rat) (w:World) (S:Nat→Prop) (hx:IsF w S x q) (hL:Liv w S) :
 Calls Tryz.prog 149 #[.agg #[.bool x.num.neg,.slice x.num.ad x.num.n x.num.cap,.bool x.less.neg,.slice x.less.ad x.less.n x.less.cap]] w fun e w'=>e=.returned (.int .i64 (cmpZ q.num 0))∧Pure w S w' S:=by
 obtain⟨hS,hF0,hO0,hp0⟩:=st0 hL
 go_enter func149,ntmps149
 go_wp2_with (with_reducible first|refine bxA hS fun bx wbx hS=>?_|refine ldK 1 hS isAgg52 sizeOf52 ?_)
 refine (signI_any x.num q.num _ S (hx.num.at hS hF0)).mono ?_;rintro e w1 ⟨rfl,hq1⟩;replace hS:=hS.pcl hF0 hO0 hp0 hq1;obtain⟨F1,hF1,-,hp1,hO1,hS⟩:=hS;simp only [];go_wp2;go_ret;exact⟨rfl,hp1.step hS hO1 hF1⟩
end Go.Proofs
