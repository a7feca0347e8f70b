/- Texts for the walk of the law: KC K17 K18 K19 K20 K21 K22 K23 D0 GA. -/
import Derived.Test.YtgaejkbkfoaaiaaGreatR04
set_option maxRecDepth 100000
set_option maxHeartbeats 16000000
set_option linter.unusedVariables false
set_option linter.unusedSimpArgs false
namespace Go.Hp
open Go Go.RowKit Go.Proofs.Tryz
section
variable {P:Program} {ops:Array Oper} {Q:Exit→Act→World→Prop} {C:World→Prop} {A:List cX} {E:Act→World→Prop} {s:List Mv} {a:Act} {w w0:World} {H:List Chunk} {J:List Chunk→World→Prop} {i:Nat} {o:Oper}
theorem aAg (w0:World) (H:List Chunk):sq (fun B w=>aA w0 w (H++B)) :=
 ⟨fun B w o h=>by
  have:=h.alloc o
  rwa [List.append_assoc] at this,fun B B' w hp h=>h.perm (List.Perm.append_left H hp)⟩
def pN (A:List cX) (l:Array Bool):Array Bool:=A.foldl (fun l p=>l.setIfInBounds p.i true) l
theorem a8s:∀ (A:List cX) (l:Array Bool),(pN A l).size=l.size∧∀ j,(pN A l).getD j true=true↔l.getD j true=true∨∃ p ∈ A,p.i=j
 | [],l=>⟨rfl,fun j=>by simp [pN]⟩
 | p::A,l=>by
  obtain⟨h1,h2⟩:=a8s A (l.setIfInBounds p.i true);refine⟨by show (pN A _).size=_;rw [h1];simp,fun j=>?_⟩;show (pN A _).getD j true=true↔_;rw [h2,a3k];simp only [List.mem_cons,exists_eq_or_imp]
  constructor
  ·rintro ((h|h)|h)
   ·exact .inl h
   ·exact .inr (.inl h.symm)
   ·exact .inr (.inr h)
  ·rintro (h|h|h)
   ·exact .inl (.inl h)
   ·exact .inl (.inr h.symm)
   ·exact .inr h
theorem kQ {id:Nat} {l:List Oper} (n:Nat) (s1 s2:List Mv) (M:List Nat) (A:List cX) (w0:World) (H:List Chunk) (hm:P.follows .mixedOrders=true)
 (bG:(Region.noSelect l.toArray && (s1.length+A.length+s2.length == l.length) && mf .any l.toArray M A (pN A (Array.replicate l.length false)) && sC .any l.toArray M A s2 s1 (Array.replicate l.length false) (pN A (Array.replicate l.length false)))=true) (hA:xO P l.toArray A) (hS:aA w0 w.drew H)
 (h:gw P l.toArray Q (fun w=>aA w0 w H) A (dN P l.toArray (di Q) (fun w=>aA w0 w H) s2) s1 a (fun B w=>aA w0 w (H++B))):(Code.region id l.toArray true).wp P Q a w:=by
 simp only [Bool.and_eq_true,beq_iff_eq] at bG;obtain⟨⟨⟨h1,h2⟩,h4⟩,h3⟩:=bG;refine wp_mono (Q:=di Q) (wp_region_any hm ?_) (fun e a w hq=>by cases e <;> first|exact hq|exact hq.elim);have dw:=a8s A (Array.replicate l.length false);have jN:=h4;simp only [mf,List.all_eq_true,Bool.and_eq_true,decide_eq_true_eq] at jN
 have db:Up A (Array.replicate l.length false) (Array.replicate l.length false) (pN A (Array.replicate l.length false)) [] :=
  ⟨rfl,dw.1,fun j=>by simp,dw.2,fun j hj=>absurd hj (by simp),fun p hp=>by
   have h5:=(jN p hp).1.2;rw [dw.1] at h5;have h6:p.i<l.length:=by simpa using h5
   simp [h6]⟩
 have:=aKK (P:=P) (Q:=Q) (md:=.any) (M:=M) (C:=fun w=>aA w0 w H) (s2:=s2) hA h1 _ s1 (Array.replicate l.length false) _ _ A [] a w.drew (fun B w=>aA w0 w (H++B)) rfl h3 h4 db (a6p _) (by simp) (by simpa using hS) (aAg w0 H) (fun B w h=>h.sub (List.sublist_append_left _ _)) h;rw [h2] at this
 simpa [over] using this.any
theorem zu (h:gw P ops Q C A E (.p i::s) a J):gw P ops Q C A E (.p i::s) a J:=h
theorem tg (h:gw P ops Q C A E (.r i::s) a J):gw P ops Q C A E (.r i::s) a J:=h
theorem pre_skip {dst:Option Tmp} {op:Op} {ty:TypeId} {pos:String} {ak:Array Edge} {g:Option (Nat × Bool)} (ho:ops[i]? = some ⟨dst,op,ty,pos,ak,g⟩) (hw:Region.wanted ⟨dst,op,ty,pos,ak,g⟩ (yielded ops a.tmps)=false) (h:gw P ops Q C A E s (a.put dst undef) J):gw P ops Q C A E (.p i::s) a J :=
 ⟨_,undef,ho,.inr ⟨hw,rfl⟩,h⟩
theorem pre_skipr {dst:Option Tmp} {op:Op} {ty:TypeId} {pos:String} {ak:Array Edge} {g:Option (Nat × Bool)} (ho:ops[i]? = some ⟨dst,op,ty,pos,ak,g⟩) (hw:Region.wanted ⟨dst,op,ty,pos,ak,g⟩ (yielded ops a.tmps)=false) (h:gw P ops Q C A E s (a.put dst undef) J):gw P ops Q C A E (.r i::s) a J :=
 ⟨_,undef,ho,.inr ⟨hw,rfl⟩,h⟩
theorem aRt {dst:Option Tmp} {op:Op} {ty:TypeId} {pos:String} {ak:Array Edge} {g:Option (Nat × Bool)} (ho:ops[i]? = some ⟨dst,op,ty,pos,ak,g⟩) (hw:Region.wanted ⟨dst,op,ty,pos,ak,g⟩ (yielded ops a.tmps)=true)
 (h:∀ K:Act→Prop,(∀ a,gw P ops Q C A E s a J→K a)→∃ v,(∀ w',(execOp a.eval ⟨dst,op,ty,pos,ak,g⟩).run P w'=.ok (.value v) w')∧K (a.put dst v)):gw P ops Q C A E (.p i::s) a J :=
 let ⟨v,hr,hk⟩:=h _ (fun _ h=>h)
 ⟨_,v,ho,.inl ⟨hw,fun w' _=>hr w'⟩,hk⟩
theorem zn (ho:ops[i]? = some o) (hw:Region.wanted o (yielded ops a.tmps)=true) (h:oN P o a (fun a'=>gw P ops Q C A E s a' J)):gw P ops Q C A E (.p i::s) a J :=
 let ⟨v,hr,hk⟩:=h.ex
 ⟨_,v,ho,.inl ⟨hw,fun w' _=>hr w'⟩,hk⟩
theorem qF (ho:ops[i]? = some o) (hw:Region.wanted o (yielded ops a.tmps)=true) (h:nj P w0 H o a (fun a'=>gw P ops Q (fun w=>aA w0 w H) A E s a' J)):gw P ops Q (fun w=>aA w0 w H) A E (.r i::s) a J :=
 let ⟨v,hr,hk⟩:=h.ex
 ⟨_,v,ho,.inl ⟨hw,fun w' hw'=>hr w' hw'⟩,hk⟩
theorem eI {dst:Option Tmp} {op:Op} {ty:TypeId} {pos:String} {ak:Array Edge} {g:Option (Nat × Bool)} (ho:ops[i]? = some ⟨dst,op,ty,pos,ak,g⟩)
 (h:∀ B w,J B w→wpList P ops (Exit.then (fun a' w'=>∃ J',J' B w'∧sq J'∧(∀ B w,J' B w→C w)∧gw P ops Q C A E s a' J') (di Q)) [⟨dst,op,ty,pos,ak,g⟩] a w):gw P ops Q C A E (.e i::s) a J :=
 fun B w hJ=>a4N ho (h B w hJ) (fun _ _ _ h=>h)
def dZ (F F':Nat→Prop):Prop:=∀ k,F k→F' k
def xD (F:Nat→Prop) (wr wm:World):Prop:=∀ k,F k→wr.heap[k]? = wm.heap[k]?
theorem dZ.refl (F:Nat→Prop):dZ F F:=fun _ h=>h
theorem dZ.trans {F F' F'':Nat→Prop} (h:dZ F F') (h':∀ k,F' k→F'' k):dZ F F'':=fun k hk=>h' k (h k hk)
theorem xD.refl (F:Nat→Prop) (w:World):xD F w w:=fun _ _=>rfl
theorem aA.jw {wr:World} {F:Nat→Prop} (hS:aA w0 w (.aH F wr::H)):dZ F F∧xD F wr wr:=⟨dZ.refl _,xD.refl _ _⟩
theorem aA.gA {wr zd:World} {F F':Nat→Prop} (h:aA w0 w (.aH F' zd::H)) (hs:∀ k,F k→F' k) (hk:∀ k,F k→zd.heap[k]? = wr.heap[k]?):aA w0 w (.aH F wr::H):=by
 refine⟨h.os,h.tape,h.output,h.drawn,h.size,?_,?_⟩
 ·intro c hc
  rcases List.mem_cons.1 hc with hc|hc
  ·subst hc
   exact fun k hf=>⟨(h.ok (.aH F' zd) (by simp) k (hs k hf)).1,(h.da hs k hf).trans (hk k hf)⟩
  ·exact h.ok c (by simp [hc])
 ·have h1:=List.pairwise_cons.1 h.apart
  exact List.pairwise_cons.2 ⟨fun c hc k hf=>h1.1 c hc k (hs k hf),h1.2⟩
theorem eH {K:Act→(List Chunk→World→Prop)→Prop} {Q':Exit→Act→World→Prop} {B:List Chunk} {wr zd:World} {F F':Nat→Prop} (hS:aA w0 w ((.aH F' zd::H)++B)) (hs:∀ k,F k→F' k) (hk:∀ k,F k→zd.heap[k]? = wr.heap[k]?)
 (h:K a (fun B w=>aA w0 w ((.aH F' zd::H)++B))):wpList P ops (Exit.then (fun a' w'=>∃ J',J' B w'∧sq J'∧(∀ B w,J' B w→aA w0 w (.aH F wr::H))∧K a' J') Q') [] a w :=
 ⟨_,hS,aAg w0 (.aH F' zd::H),fun B w hb=>(hb.sub (List.sublist_append_left _ _)).gA hs hk,h⟩
def eU (i:Nat) (t:Tmp) (T:TypeId) (z:Value):cX:=⟨i,t,fun b=>.pointer (some ⟨b,0,none⟩),.cells z.cells T (0,0)⟩
theorem aIK {T ty:TypeId} {z:Value} {t:Tmp} {pos:String} {ak:Array Edge} (hz:∀ w,(zeroValue T).run P w=.ok z w) (a:Act) (w:World) :
 (execOp a.eval ⟨some t,.alloc T,ty,pos,ak,none⟩).run P w=.ok (.value (.pointer (some ⟨w.heap.size,0,none⟩))) (w.alloc (.cells z.cells T (0,0))):=by
 simp [execOp,Instr.alloc,newVar,newRow,go_sem,hz]
theorem mq {i:Nat} {t:Tmp} {T:TypeId} {z:Value} (h:∀ b w,J [.aB b (.cells z.cells T (0,0))] w→E (a.put (some t) (.pointer (some ⟨b,0,none⟩))) w):gw P ops Q C [eU i t T z] E [] a J:=by
 intro L w hL hJ
 match L,hL,hJ with
 | [(q,b)],hL,hJ =>
  simp only [List.map_cons,List.map_nil,List.cons.injEq,and_true] at hL;subst hL;exact h b w hJ
theorem a0H {i j:Nat} {t u:Tmp} {T U:TypeId} {y z:Value} (h:∀ b c w,J [.aB b (.cells y.cells T (0,0)),.aB c (.cells z.cells U (0,0))] w→E ((a.put (some t) (.pointer (some ⟨b,0,none⟩))).put (some u) (.pointer (some ⟨c,0,none⟩))) w):gw P ops Q C [eU i t T y,eU j u U z] E [] a J:=by
 intro L w hL hJ
 match L,hL,hJ with
 | [(x,b),(y,c)],hL,hJ =>
  simp only [List.map_cons,List.map_nil,List.cons.injEq,and_true] at hL;obtain⟨rfl,rfl⟩:=hL;exact h b c w hJ
theorem aQN {i j k l:Nat} {t u v s:Tmp} {T:TypeId} {z:Value} (h:∀ b c d e w,J [.aB b (.cells z.cells T (0,0)),.aB c (.cells z.cells T (0,0)),.aB d (.cells z.cells T (0,0)),.aB e (.cells z.cells T (0,0))] w→E ((((a.put (some t) (.pointer (some ⟨b,0,none⟩))).put (some u) (.pointer (some ⟨c,0,none⟩))).put (some v) (.pointer (some ⟨d,0,none⟩))).put (some s) (.pointer (some ⟨e,0,none⟩))) w):gw P ops Q C [eU i t T z,eU j u T z,eU k v T z,eU l s T z] E [] a J:=by
 intro L w hL hJ
 match L,hL,hJ with
 | [(x,b),(y,c),(z,d),(u,e)],hL,hJ =>
  simp only [List.map_cons,List.map_nil,List.cons.injEq,and_true] at hL;obtain⟨rfl,rfl,rfl,rfl⟩:=hL;exact h b c d e w hJ
theorem a0B {i:Nat} {t:Tmp} {T ty:TypeId} {z:Value} {pos:String} {ak:Array Edge} (h:ops[i]? = some ⟨some t,.alloc T,ty,pos,ak,none⟩) (hz:∀ w,(zeroValue T).run P w=.ok z w) :
 ∃ o,ops[(eU i t T z).i]? = some o∧o.dst=some (eU i t T z).t∧o.guard=none∧∀ (a:Act) (w:World),(execOp a.eval o).run P w=.ok (.value ((eU i t T z).v w.heap.size)) (w.alloc (eU i t T z).o):=⟨_,h,rfl,rfl,fun a w=>aIK hz a w⟩
theorem o8 {i:Nat} {t:Tmp} {T ty:TypeId} {z:Value} {pos:String} {ak:Array Edge} (h:ops[i]? = some ⟨some t,.alloc T,ty,pos,ak,none⟩) (hz:∀ w,(zeroValue T).run P w=.ok z w):xO P ops [eU i t T z] :=
 ⟨fun p hp=>by rw [List.mem_singleton.1 hp];exact a0B h hz,by simp,by simp⟩
theorem a0n {i i':Nat} {t t':Tmp} {T T' ty ty':TypeId} {z z':Value} {pos pos':String} {ak aTU:Array Edge} (h:ops[i]? = some ⟨some t,.alloc T,ty,pos,ak,none⟩) (hz:∀ w,(zeroValue T).run P w=.ok z w) (h':ops[i']? = some ⟨some t',.alloc T',ty',pos',aTU,none⟩) (hz':∀ w,(zeroValue T').run P w=.ok z' w) (hi:i≠i') (ht:t≠t'):xO P ops [eU i t T z,eU i' t' T' z'] :=
 ⟨fun p hp=>by
  simp only [List.mem_cons,List.not_mem_nil,or_false] at hp
  rcases hp with rfl|rfl
  ·exact a0B h hz
  ·exact a0B h' hz',by simp [eU,hi],by simp [eU,ht]⟩
theorem aA.fC {wr wm w':World} {F Fm:Nat→Prop} (hS:aA w0 w (.aH F wr::H)) (hb:Below w.heap.size w w') (aI:dZ Fm F) (aT:xD Fm wr wm):xD Fm w' wm:=fun k hk =>
 ((hb.block k (hS.ok (.aH F wr) (by simp) k (aI k hk)).1).trans (hS.da aI k hk)).trans (aT k hk)
theorem aA.a36 {wr wm:World} {F Fm:Nat→Prop} (hS:aA w0 w (.aH F wr::H)) (aI:dZ Fm F) (aT:xD Fm wr wm):xD Fm w wm:=fun k hk=>(hS.da aI k hk).trans (aT k hk)
theorem aA.a5b {wr:World} {F:Nat→Prop} {b:Nat} {ob:Obj} (hS:aA w0 w (.aH F wr::(H++[.aB b ob]))):aA w0 w (.aH (fun k=>F k∨k=b) w::H):=by
 have h1:aA w0 w (.aH F wr::.aB b ob::H):=hS.perm (List.Perm.cons _ (List.perm_append_comm (l₁:=[Chunk.aB b ob]) (l₂:=H)));have h2:=h1.freeze 1 rfl;exact h2.join
theorem aA.a3V {wr:World} {F:Nat→Prop} {b:Nat} {ob:Obj} (hS:aA w0 w (.aH F wr::(H++[.aB b ob]))) (hO:∀ k,Old w0 k→F k):ja w0 w b:=by
 have hm:Chunk.aB b ob ∈ H++[.aB b ob]:=by simp
 refine⟨?_,Chunk.lt (hS.ok _ (List.mem_cons_of_mem _ hm)) (c:=.aB b ob) rfl⟩
 rcases Nat.lt_or_ge b w0.heap.size with aW|gB
 ·exact absurd rfl ((List.pairwise_cons.1 hS.apart).1 _ hm b (hO b aW))
 ·exact gB
end
section
variable {P:Program} {ops:Array Oper} {Q:Exit→Act→World→Prop} {C:World→Prop} {A:List cX} {Ed:Act→World→Prop} {s:List Mv} {i k:Nat} {a a':Act} {w w0:World} {H:List Chunk} {J:List Chunk→World→Prop} {dst:Option Tmp} {x:Operand} {op:Op} {ty T Tb:TypeId} {pos:String} {ak:Array Edge} {b off:Nat} {arr:Array Value} {fr:Nat × Nat} {u v:Value} {gd:Option (Nat × Bool)}
theorem lF (hk:gw P ops Q C A Ed s a' J) (ho:ops[i]? = some ⟨dst,op,ty,pos,ak,gd⟩:=by with_unfolding_all rfl) (hw:Region.wanted ⟨dst,op,ty,pos,ak,gd⟩ (yielded ops a.tmps)=true:=by with_unfolding_all rfl)
 (h:∀ K:Act→Prop,K a'→∃ v,(∀ w',(execOp a.eval ⟨dst,op,ty,pos,ak,gd⟩).run P w'=.ok (.value v) w')∧K (a.put dst v):=by (intro K hK;go_simp;exact hK)):gw P ops Q C A Ed (.p i::s) a J :=
 let ⟨v,hr,h2⟩:=h (fun x=>x=a') rfl
 ⟨_,v,ho,.inl ⟨hw,fun w' _=>hr w'⟩,by rw [show a.put dst v=a' from h2];exact hk⟩
theorem aWN {m:Mv} (hk:gw P ops Q C A Ed s a' J) (hm:m=.p i∨m=.r i:=by first|exact .inl rfl|exact .inr rfl) (ho:ops[i]? = some ⟨dst,op,ty,pos,ak,gd⟩:=by with_unfolding_all rfl) (hw:Region.wanted ⟨dst,op,ty,pos,ak,gd⟩ (yielded ops a.tmps)=false:=by with_unfolding_all rfl) (ha:a.put dst undef=a':=by (simp only [aD];exact rfl)):gw P ops Q C A Ed (m::s) a J:=by
 subst ha
 rcases hm with rfl|rfl
 ·exact pre_skip ho hw hk
 ·exact pre_skipr ho hw hk
theorem vq (j:Nat) (fU:∀ w,(isAgg T).run P w=.ok false w) (hk:gw P ops Q (fun w=>aA w0 w H) A Ed s a' J) (ho:ops[i]? = some ⟨dst,.load T x,ty,pos,ak,gd⟩:=by with_unfolding_all rfl) (hx:a.eval x=.pointer (some ⟨b,off,none⟩):=by with_unfolding_all rfl) (hj:H[j]? = some (.aB b (.cells arr Tb fr)):=by with_unfolding_all rfl) (h0:arr[off]? = some u:=by with_unfolding_all rfl) (hg:Region.wanted ⟨dst,.load T x,ty,pos,ak,gd⟩ (yielded ops a.tmps)=true:=by with_unfolding_all rfl) (ha:a.put dst (u)=a':=by (simp only [aD,fA];exact rfl)):gw P ops Q (fun w=>aA w0 w H) A Ed (.r i::s) a J:=by
 subst ha;exact qF ho hg (zD (T:=T) j fU hx hj h0 hk)
theorem kq (j:Nat) (fU:∀ w,(isAgg T).run P w=.ok true w) (hz:∀ w,(sizeOf T).run P w=.ok k w) (hk:gw P ops Q (fun w=>aA w0 w H) A Ed s a' J) (ho:ops[i]? = some ⟨dst,.load T x,ty,pos,ak,gd⟩:=by with_unfolding_all rfl) (hx:a.eval x=.pointer (some ⟨b,0,none⟩):=by with_unfolding_all rfl) (hj:H[j]? = some (.aB b (.cells arr Tb fr)):=by with_unfolding_all rfl) (h0:arr.size=k:=by with_unfolding_all rfl) (hg:Region.wanted ⟨dst,.load T x,ty,pos,ak,gd⟩ (yielded ops a.tmps)=true:=by with_unfolding_all rfl) (ha:a.put dst (.agg arr)=a':=by (simp only [aD];exact rfl)):gw P ops Q (fun w=>aA w0 w H) A Ed (.r i::s) a J:=by
 subst ha;exact qF ho hg (aCf (T:=T) j fU hz hx hj h0 hk)
theorem py (j:Nat) (fU:∀ w,(isAgg T).run P w=.ok true w) (hz:∀ w,(sizeOf T).run P w=.ok k w) (hk:gw P ops Q (fun w=>aA w0 w H) A Ed s a' J) (ho:ops[i]? = some ⟨dst,.load T x,ty,pos,ak,gd⟩:=by with_unfolding_all rfl) (hx:a.eval x=.pointer (some ⟨b,off,none⟩):=by with_unfolding_all rfl) (hj:H[j]? = some (.aB b (.cells arr Tb fr)):=by with_unfolding_all rfl) (h0:off+k≤arr.size:=by simp) (hg:Region.wanted ⟨dst,.load T x,ty,pos,ak,gd⟩ (yielded ops a.tmps)=true:=by with_unfolding_all rfl) (ha:a.put dst (.agg ((arr.toList.drop off).take k).toArray)=a':=by (simp only [aD,NRS];exact rfl)):gw P ops Q (fun w=>aA w0 w H) A Ed (.r i::s) a J:=by
 subst ha;exact qF ho hg (a6f (T:=T) j fU hz hx hj h0 hk)
end
theorem dz {G G':Prop} (hk:G') (h:PLift G'→G:=by (intro hk;(repeat (first|(with_reducible refine aWN ?_)|(with_reducible refine lF ?_)));exact hk.down)):G:=h ⟨hk⟩
structure FR where
 num:WI
 less:WI
structure eN (w:World) (S:Nat→Prop) (x:FR) (q:Rat):Prop where
 num:dR w S x.num q.num
 less:dR w S x.less ((q.den:Int) - 1)
 lt:q.den<kR
theorem eN.grow {w w':World} {S S':Nat→Prop} {x:FR} {q:Rat} (h:eN w S x q) (hp:Pure w S w' S'):eN w' S' x q:=⟨h.num.grow hp,h.less.grow hp,h.lt⟩
theorem eN.at {w0 w wr:World} {H:List Chunk} {F S:Nat→Prop} {x:FR} {q:Rat} (h:eN wr S x q) (hS:aA w0 w (.aH F wr::H)) (hF:∀ k,S k→F k):eN w S x q:=⟨h.num.at hS hF,h.less.at hS hF,h.lt⟩
theorem eN.weaken {w:World} {S T:Nat→Prop} {x:FR} {q:Rat} (h:eN w S x q) (iU:∀ k,S k→T k):eN w T x q:=⟨h.num.weaken iU,h.less.weaken iU,h.lt⟩
theorem eN.move {w wr:World} {S:Nat→Prop} {x:FR} {q:Rat} (h:eN wr S x q) (hk:∀ k,S k→w.heap[k]? = wr.heap[k]?):eN w S x q:=⟨h.num.move hk,h.less.move hk,h.lt⟩
theorem eN.cast {w:World} {S:Nat→Prop} {x:FR} {q q':Rat} (h:eN w S x q) (e:q=q'):eN w S x q':=e ▸ h
theorem aIj (x:WI) (ev:Int) (w:World) (S:Nat→Prop):Calls prog 81 #[.agg #[.bool x.neg,.slice x.ad x.n x.cap],.int .i64 ev] w fun e w'=>e=.returned (.agg #[.bool x.neg,.slice x.ad x.n x.cap])∧Pure w S w' S:=by
 have hS:=aA.start w
 go_enter func81,ntmps81
 go_wp2_with (with_reducible first|refine cI hS fun bx cu hS=>?_|refine bH hS zeroValue51 fun br fu hS=>?_|refine bA 1 hS isAgg51 sizeOf51 ?_|refine aJ 2 hS sizeOf51 fun _ hS=>?_)
 exact fE 2 hS rfl rfl rfl isAgg51 sizeOf51 rfl rfl ⟨rfl,hS.pure S⟩
theorem vO (x y:WI) (a b:Int) (w:World) (S:Nat→Prop) (hx:dR w S x a) (hy:dR w S y b) (hL:aP w S) (hb:b≠0) :
 Calls prog 34 #[.agg #[.bool x.neg,.slice x.ad x.n x.cap],.agg #[.bool y.neg,.slice y.ad y.n y.cap]] w (a9t w S (a / b)):=by
 obtain⟨hS,aC,bC,bD⟩:=eR hL
 go_enter func34,ntmps34
 go_wp2_with (with_reducible first|refine cI hS fun bx cu hS=>?_|refine bH hS zeroValue51 fun br fu hS=>?_|refine bA 1 hS isAgg51 sizeOf51 ?_|refine bA 2 hS isAgg51 sizeOf51 ?_)
 refine (aDS x y a b _ S (hx.at hS aC) (hy.at hS aC) (aP.at hS aC) hb).mono ?_;rintro e w' ⟨z,r,S2,rfl,hq,hz,hr⟩;replace hS:=hS.aj aC bC bD hq;obtain⟨F1,aG,-,bB,av,hS⟩:=hS;simp only []
 go_wp2_with (with_reducible first|refine bH hS zeroValue51 fun b5 wb5 hS=>?_|refine aJ 5 hS sizeOf51 fun _ hS=>?_|refine aJ 4 hS sizeOf51 fun _ hS=>?_|refine aJ 3 hS sizeOf51 fun _ hS=>?_|refine bA 4 hS isAgg51 sizeOf51 ?_)
 exact fE 3 hS rfl rfl rfl isAgg51 sizeOf51 rfl rfl ⟨z,S2,rfl,bB.step hS av aG,hz.at hS aG⟩
theorem rm (x:FR) (q:Rat) (w:World) (S:Nat→Prop) (hx:eN w S x q) (hL:aP w S) :
 Calls prog 32 #[.agg #[.bool x.num.neg,.slice x.num.ad x.num.n x.num.cap,.bool x.less.neg,.slice x.less.ad x.less.n x.less.cap]] w (a9t w S (q.den:Int)):=by
 obtain⟨hS,aC,bC,bD⟩:=eR hL
 go_enter func32,ntmps32
 go_wp2_with (with_reducible first|refine cI hS fun bx cu hS=>?_|refine bH hS zeroValue51 fun br fu hS=>?_)
 refine dB [.p 0,.r 1,.e 2,.e 3,.p 4,.p 5,.e 6,.m 7] [7] hS fun w1 hS=>?_
 have hC:=hS
 repeat (with_reducible first|refine tf 1 isAgg51 sizeOf51 ?_|refine bU ?_)
 refine aZ ?_
 go_wp2_with (fail)
 refine (x6 1 _ S (by unfold bQ;omega)).mono ?_;rintro e w' ⟨o,S2,rfl,hq,ho⟩;simp only [];go_step;have hl:=(hx.less.at hS aC).grow hq;have hC:=hC.below hq.below hq.drawn;replace hS:=hS.aj aC bC bD hq;obtain⟨F1,aG,-,bB,av,hS⟩:=hS;refine aX hC ?_;refine aM ?_;refine aZ ?_
 go_wp2_with (fail)
 refine (aEd x.less o ((q.den:Int) - 1) 1 _ S2 (hl.at hS aG) (ho.at hS aG) (aP.at hS aG) (by have:=hx.lt;omega)).mono ?_;rintro e w' ⟨z,S3,rfl,bI,hz⟩;simp only [sJ];go_step;have hC:=hC.below bI.below bI.drawn;replace hS:=hS.aj aG av bB bI;obtain⟨F2,aQ,-,bR,bP,hS⟩:=hS;refine aX hC ?_;refine aM ?_;refine aZ ?_
 go_wp2_with (fail)
 refine (aIj z 0 _ S3).mono ?_;rintro e w' ⟨rfl,cY⟩;simp only [];go_step;have hz:=(hz.at hS aQ).grow cY;have hC:=hC.below cY.below cY.drawn;replace hS:=hS.aj aQ bP bR cY;obtain⟨F3,bM,-,dP,dE,hS⟩:=hS;refine aX hC ?_;refine aM ?_;refine dC ?_
 (with_reducible refine aJ 2 hS sizeOf51 fun _ hS=>?_)
 refine dD ?_;refine aM ?_;refine bE ?_;go_wp2;exact fE 2 hS rfl rfl rfl isAgg51 sizeOf51 rfl rfl ⟨z,S3,rfl,dP.step hS dE bM,(hz.at hS bM).cast (by omega)⟩
def iW (z:FR) (e:Int):Ending:=.returned (.tuple #[.agg #[.bool z.num.neg,.slice z.num.ad z.num.n z.num.cap,.bool z.less.neg,.slice z.less.ad z.less.n z.less.cap],.int .i64 e])
def yb (w:World) (S:Nat→Prop) (q:Rat) (e:Ending) (w':World):Prop:=∃ (z:FR) (S':Nat→Prop),e=iW z 0∧Pure w S w' S'∧eN w' S' z q
theorem aEz (x y:WI) (q:Rat) (w:World) (S:Nat→Prop) (hx:dR w S x q.num) (hy:dR w S y (q.den:Int)) (hL:aP w S) :
 Calls prog 89 #[.agg #[.bool x.neg,.slice x.ad x.n x.cap],.agg #[.bool y.neg,.slice y.ad y.n y.cap],.int .i64 0,.int .i64 0] w (yb w S q):=by
 have aW:=hy.lt;have hdp:=q.den_pos;obtain⟨hS,aC,bC,bD⟩:=eR hL
 go_enter func89,ntmps89
 go_wp2_with (with_reducible first|refine cI hS fun bx cu hS=>?_|refine bH hS zeroValue53 fun br fu hS=>?_)
 refine dB [.r 0,.r 1,.e 2,.e 3,.p 4,.p 5,.e 6,.p 7,.m 8,.p 9] [8] hS fun w1 hS=>?_
 have hC:=hS
 repeat (with_reducible first|refine cz 1 isAgg51 sizeOf51 ?_|refine cz 2 isAgg51 sizeOf51 ?_)
 refine aZ ?_
 go_wp2_with (fail)
 refine (x6 1 _ S (by unfold bQ;omega)).mono ?_;rintro e w' ⟨o,S2,rfl,hq,ho⟩;simp only [];go_step;have hx:=(hx.at hS aC).grow hq;have hy:=(hy.at hS aC).grow hq;have hC:=hC.below hq.below hq.drawn;replace hS:=hS.aj aC bC bD hq;obtain⟨F1,aG,-,bB,av,hS⟩:=hS;refine aX hC ?_;refine aM ?_;refine aZ ?_
 go_wp2_with (fail)
 refine (aTk y o (q.den:Int) 1 _ S2 (hy.at hS aG) (ho.at hS aG) (aP.at hS aG) (by omega)).mono ?_;rintro e w' ⟨z,S3,rfl,bI,hz⟩;simp only [sJ];go_step;have hx:=(hx.at hS aG).grow bI;have hC:=hC.below bI.below bI.drawn;replace hS:=hS.aj aG av bB bI;obtain⟨F2,aQ,-,bR,bP,hS⟩:=hS;refine aX hC ?_;refine aM ?_;refine aZ ?_
 go_wp2_with (fail)
 refine (aIj z 0 _ S3).mono ?_;rintro e w' ⟨rfl,cY⟩;simp only [];go_step;have hz:=(hz.at hS aQ).grow cY;have hx:=(hx.at hS aQ).grow cY;have hC:=hC.below cY.below cY.drawn;replace hS:=hS.aj aQ bP bR cY;obtain⟨F3,bM,-,dP,dE,hS⟩:=hS;refine aX hC ?_;refine aM ?_;refine dC ?_
 (with_reducible refine aJ 3 hS sizeOf53 fun _ hS=>?_)
 refine dD ?_;refine aM ?_;refine bE ?_;go_wp2;exact jJ 3 hS rfl rfl rfl isAgg53 sizeOf53 rfl rfl ⟨⟨x,z⟩,S3,rfl,dP.step hS dE bM,hx.at hS bM,hz.at hS bM,by omega⟩
theorem a5i {a b:Int} (hb:0<b):(Rat.divInt a b).num=a / (Int.gcd a b:Nat)∧((Rat.divInt a b).den:Int)=b / (Int.gcd a b:Nat):=by
 constructor
 ·rw [Rat.num_divInt,Int.sign_eq_one_of_pos hb,Int.one_mul,Int.gcd_comm]
 ·rw [Rat.den_divInt,if_neg (by omega),Int.gcd_comm]
  rw [Int.natCast_ediv,Int.natAbs_of_nonneg (by omega)]
theorem aDa (x y:WI) (a b:Int) (w:World) (S:Nat→Prop) (hx:dR w S x a) (hy:dR w S y b) (hL:aP w S) (hb:b≠0) :
 Calls prog 36 #[.agg #[.bool x.neg,.slice x.ad x.n x.cap],.agg #[.bool y.neg,.slice y.ad y.n y.cap]] w (yb w S (Rat.divInt a b)):=by
 obtain⟨hS,aC,bC,bD⟩:=eR hL
 by_cases kx:0<b
 ·have hs:cR b 0=1:=by unfold cR;rw [if_neg (by omega),if_pos kx]
  obtain⟨oW,uy⟩:=a5i (a:=a) kx
  have si:((Int.gcd a b:Nat):Int)≠0:=by
   have:Int.gcd a b≠0:=fun h=>by have:=(Int.gcd_eq_zero_iff.1 h).2;omega
   omega
  go_enter func36,ntmps36
  go_wp2_with (with_reducible first|refine cI hS fun bx cu hS=>?_|refine bH hS zeroValue53 fun br fu hS=>?_|refine bA 2 hS isAgg51 sizeOf51 ?_)
  refine (qu y b _ S (hy.at hS aC)).mono ?_;rintro e w1 ⟨rfl,jz⟩;have hx:=(hx.at hS aC).grow jz;have hy:=(hy.at hS aC).grow jz;replace hS:=hS.aj aC bC bD jz;obtain⟨F1,aG,-,bB,av,hS⟩:=hS;simp only [hs]
  go_wp2_with (with_reducible refine bA 2 hS isAgg51 sizeOf51 ?_)
  refine (qu y b _ S (hy.at hS aG)).mono ?_;rintro e w2 ⟨rfl,az⟩;have hx:=(hx.at hS aG).grow az;have hy:=(hy.at hS aG).grow az;replace hS:=hS.aj aG av bB az;obtain⟨F2,aQ,-,bR,bP,hS⟩:=hS;simp only [hs];clear hs
  go_wp2_with (with_reducible first|refine bA 1 hS isAgg51 sizeOf51 ?_|refine bA 2 hS isAgg51 sizeOf51 ?_)
  refine (a6d x y (a) (b) _ S (hx.at hS aQ) (hy.at hS aQ) (aP.at hS aQ)).mono ?_;rintro e w' ⟨g,S2,rfl,hq,hg⟩;have hx:=(hx.at hS aQ).grow hq;have hy:=(hy.at hS aQ).grow hq;replace hS:=hS.aj aQ bP bR hq;obtain⟨F3,bM,-,dP,dE,hS⟩:=hS;simp only []
  go_wp2_with (with_reducible first|refine bH hS zeroValue51 fun bg wbg hS=>?_|refine aJ 4 hS sizeOf51 fun _ hS=>?_)
  refine dB [.r 0,.r 1,.r 3,.r 4,.e 2,.e 5,.e 6,.p 7,.p 8,.m 9,.p 10] [9] hS fun w1 hS=>?_
  have hC:=hS
  repeat (with_reducible first|refine cz 1 isAgg51 sizeOf51 ?_|refine cz 2 isAgg51 sizeOf51 ?_|refine cz 4 isAgg51 sizeOf51 ?_)
  refine aZ ?_
  go_wp2_with (fail)
  refine (vO x g (a) (Int.gcd (a) (b):Nat) _ S2 (hx.at hS bM) (hg.at hS bM) (aP.at hS bM) si).mono ?_;rintro e w' ⟨n,S3,rfl,aR,hn⟩;simp only [];go_step;have hy:=(hy.at hS bM).grow aR;have hg:=(hg.at hS bM).grow aR;have hC:=hC.below aR.below aR.drawn;replace hS:=hS.aj bM dE dP aR;obtain⟨F4,bZ,-,gN,gG,hS⟩:=hS;refine aX hC ?_;refine aM ?_;refine aZ ?_
  go_wp2_with (fail)
  refine (vO y g (b) (Int.gcd (a) (b):Nat) _ S3 (hy.at hS bZ) (hg.at hS bZ) (aP.at hS bZ) si).mono ?_;rintro e w' ⟨d,S4,rfl,bI,hd⟩;simp only [];go_step;have hn:=(hn.at hS bZ).grow bI;have hC:=hC.below bI.below bI.drawn;replace hS:=hS.aj bZ gG gN bI;obtain⟨F5,cG,-,gR,ff,hS⟩:=hS;refine aX hC ?_;refine aM ?_;refine aZ ?_
  go_wp2_with (fail)
  refine (aEz n d (Rat.divInt (a) (b)) _ S4 ((hn.at hS cG).cast oW.symm) ((hd.at hS cG).cast uy.symm) (aP.at hS cG)).mono ?_;rintro e w' ⟨z,S5,rfl,cY,hz⟩;simp only [iW];go_step;have hC:=hC.below cY.below cY.drawn;replace hS:=hS.aj cG ff gR cY;obtain⟨F6,eO,-,kY,j4,hS⟩:=hS;refine aX hC ?_;refine aM ?_;refine dC ?_
  (with_reducible refine aJ 3 hS sizeOf53 fun _ hS=>?_)
  refine dD ?_;refine aM ?_;refine bE ?_;go_wp2;exact jJ 3 hS rfl rfl rfl isAgg53 sizeOf53 rfl rfl ⟨z,S5,rfl,kY.step hS j4 eO,hz.at hS eO⟩
 ·have aEe:b<0:=by omega
  have hs:cR b 0 = -1:=by unfold cR;rw [if_pos aEe]
  obtain⟨oW,uy⟩:=a5i (a:=-a) (b:=-b) (by omega)
  have si:((Int.gcd (-a) (-b):Nat):Int)≠0:=by
   have:Int.gcd (-a) (-b)≠0:=fun h=>by have:=(Int.gcd_eq_zero_iff.1 h).2;omega
   omega
  go_enter func36,ntmps36
  go_wp2_with (with_reducible first|refine cI hS fun bx cu hS=>?_|refine bH hS zeroValue53 fun br fu hS=>?_|refine bA 2 hS isAgg51 sizeOf51 ?_)
  refine (qu y b _ S (hy.at hS aC)).mono ?_;rintro e w1 ⟨rfl,jz⟩;have hx:=(hx.at hS aC).grow jz;have hy:=(hy.at hS aC).grow jz;replace hS:=hS.aj aC bC bD jz;obtain⟨F1,aG,-,bB,av,hS⟩:=hS;simp only [hs]
  go_wp2_with (with_reducible refine bA 2 hS isAgg51 sizeOf51 ?_)
  refine (qu y b _ S (hy.at hS aG)).mono ?_;rintro e w2 ⟨rfl,az⟩;have hx:=(hx.at hS aG).grow az;have hy:=(hy.at hS aG).grow az;replace hS:=hS.aj aG av bB az;obtain⟨F2,aQ,-,bR,bP,hS⟩:=hS;simp only [hs];clear hs
  go_wp2_with (fail)
  refine dB [.r 0,.r 2,.e 1,.e 3,.m 4,.m 5] [4,5] hS fun w1 hS=>?_
  have hC:=hS
  repeat (with_reducible first|refine cz 1 isAgg51 sizeOf51 ?_|refine cz 2 isAgg51 sizeOf51 ?_)
  refine aZ ?_
  go_wp2_with (fail)
  refine (a8c x a _ S (hx.at hS aQ)).mono ?_;rintro e w' ⟨x2,rfl,aR,uz⟩;simp only [];go_step;have hy:=(hy.at hS aQ).grow aR;have hC:=hC.below aR.below aR.drawn;replace hS:=hS.aj aQ bP bR aR;obtain⟨F3,bM,-,dP,dE,hS⟩:=hS;refine aX hC ?_;refine aM ?_;refine aZ ?_
  go_wp2_with (fail)
  refine (a8c y b _ S (hy.at hS bM)).mono ?_;rintro e w' ⟨y2,rfl,bI,tT⟩;simp only [];go_step;have uz:=(uz.at hS bM).grow bI;have hC:=hC.below bI.below bI.drawn;replace hS:=hS.aj bM dE dP bI;obtain⟨F4,bZ,-,gN,gG,hS⟩:=hS;refine aX hC ?_;refine aM ?_;refine dC ?_
  (with_reducible refine aJ 1 hS sizeOf51 fun _ hS=>?_)
  refine dD ?_;refine aM ?_;refine dC ?_
  (with_reducible refine aJ 2 hS sizeOf51 fun _ hS=>?_)
  refine dD ?_;refine aM ?_;refine bE ?_;clear hx hy hC;have hx:=uz;have hy:=tT
  go_wp2_with (with_reducible first|refine bA 1 hS isAgg51 sizeOf51 ?_|refine bA 2 hS isAgg51 sizeOf51 ?_)
  refine (a6d x2 y2 (-a) (-b) _ S (hx.at hS bZ) (hy.at hS bZ) (aP.at hS bZ)).mono ?_;rintro e w' ⟨g,S2,rfl,hq,hg⟩;have hx:=(hx.at hS bZ).grow hq;have hy:=(hy.at hS bZ).grow hq;replace hS:=hS.aj bZ gG gN hq;obtain⟨F5,cG,-,gR,ff,hS⟩:=hS;simp only []
  go_wp2_with (with_reducible first|refine bH hS zeroValue51 fun bg wbg hS=>?_|refine aJ 4 hS sizeOf51 fun _ hS=>?_)
  refine dB [.r 0,.r 1,.r 3,.r 4,.e 2,.e 5,.e 6,.p 7,.p 8,.m 9,.p 10] [9] hS fun w1 hS=>?_
  have hC:=hS
  repeat (with_reducible first|refine cz 1 isAgg51 sizeOf51 ?_|refine cz 2 isAgg51 sizeOf51 ?_|refine cz 4 isAgg51 sizeOf51 ?_)
  refine aZ ?_
  go_wp2_with (fail)
  refine (vO x2 g (-a) (Int.gcd (-a) (-b):Nat) _ S2 (hx.at hS cG) (hg.at hS cG) (aP.at hS cG) si).mono ?_;rintro e w' ⟨n,S3,rfl,aR,hn⟩;simp only [];go_step;have hy:=(hy.at hS cG).grow aR;have hg:=(hg.at hS cG).grow aR;have hC:=hC.below aR.below aR.drawn;replace hS:=hS.aj cG ff gR aR;obtain⟨F6,eO,-,kY,j4,hS⟩:=hS;refine aX hC ?_;refine aM ?_;refine aZ ?_
  go_wp2_with (fail)
  refine (vO y2 g (-b) (Int.gcd (-a) (-b):Nat) _ S3 (hy.at hS eO) (hg.at hS eO) (aP.at hS eO) si).mono ?_;rintro e w' ⟨d,S4,rfl,bI,hd⟩;simp only [];go_step;have hn:=(hn.at hS eO).grow bI;have hC:=hC.below bI.below bI.drawn;replace hS:=hS.aj eO j4 kY bI;obtain⟨F7,iR,-,mT,qN,hS⟩:=hS;refine aX hC ?_;refine aM ?_;refine aZ ?_
  go_wp2_with (fail)
  refine (aEz n d (Rat.divInt (-a) (-b)) _ S4 ((hn.at hS iR).cast oW.symm) ((hd.at hS iR).cast uy.symm) (aP.at hS iR)).mono ?_;rintro e w' ⟨z,S5,rfl,cY,hz⟩;simp only [iW];go_step;have hC:=hC.below cY.below cY.drawn;replace hS:=hS.aj iR qN mT cY;obtain⟨F8,mK,-,hp8,hO8,hS⟩:=hS;refine aX hC ?_;refine aM ?_;refine dC ?_
  (with_reducible refine aJ 3 hS sizeOf53 fun _ hS=>?_)
  refine dD ?_;refine aM ?_;refine bE ?_;go_wp2;exact jJ 3 hS rfl rfl rfl isAgg53 sizeOf53 rfl rfl ⟨z,S5,rfl,hp8.step hS hO8 mK,(hz.at hS mK).cast (Rat.neg_divInt_neg a b)⟩
theorem aBs (p q:Int) (w:World) (S:Nat→Prop) (hp:bQ p) (hq:bQ q) (hL:aP w S) (h0:q≠0) :
 Calls prog 73 #[.int .i64 p,.int .i64 q] w (yb w S (Rat.divInt p q)):=by
 obtain⟨hS,aC,bC,bD⟩:=eR hL
 go_enter func73,ntmps73
 go_wp2_with (with_reducible refine bH hS zeroValue53 fun br fu hS=>?_)
 refine (x6 p _ S hp).mono ?_;rintro e w1 ⟨x,S1,rfl,az,hx⟩;replace hS:=hS.aj aC bC bD az;obtain⟨F1,aG,-,bB,av,hS⟩:=hS;simp only []
 go_wp2_with (fail)
 refine (x6 q _ S1 hq).mono ?_;rintro e w2 ⟨y,S2,rfl,aR,hy⟩;have hx:=(hx.at hS aG).grow aR;replace hS:=hS.aj aG av bB aR;obtain⟨F2,aQ,-,bR,bP,hS⟩:=hS;simp only []
 go_wp2_with (fail)
 refine (aDa x y p q _ S2 (hx.at hS aQ) (hy.at hS aQ) (aP.at hS aQ) h0).mono ?_;rintro e w3 ⟨z,S3,rfl,bI,hz⟩;replace hS:=hS.aj aQ bP bR bI;obtain⟨F3,bM,-,dP,dE,hS⟩:=hS;simp only [iW]
 go_wp2_with (with_reducible refine aJ 1 hS sizeOf53 fun _ hS=>?_)
 exact jJ 1 hS rfl rfl rfl isAgg53 sizeOf53 rfl rfl ⟨z,S3,rfl,dP.step hS dE bM,hz.at hS bM⟩
theorem aSU (x:FR) (q:Rat) (w:World) (S:Nat→Prop) (hx:eN w S x q) (hL:aP w S) :
 Calls prog 14 #[.agg #[.bool x.num.neg,.slice x.num.ad x.num.n x.num.cap,.bool x.less.neg,.slice x.less.ad x.less.n x.less.cap]] w fun e w'=>e=.returned (.int .i64 (cR q.num 0))∧Pure w S w' S:=by
 obtain⟨hS,aC,bC,bD⟩:=eR hL
 go_enter func14,ntmps14
 go_wp2_with (with_reducible first|refine cI hS fun bx cu hS=>?_|refine eW 1 hS isAgg51 sizeOf51 ?_)
 refine (qu x.num q.num _ S (hx.num.at hS aC)).mono ?_;rintro e w1 ⟨rfl,az⟩;replace hS:=hS.aj aC bC bD az;obtain⟨F1,aG,-,bB,av,hS⟩:=hS;simp only [];go_wp2;go_ret;exact⟨rfl,bB.step hS av aG⟩
def WI.enc (x:WI):List Value:=[.bool x.neg,.slice x.ad x.n x.cap]
def wi0:WI × Int:=(⟨false,none,0,0⟩,0)
def aHn (xs:List (WI × Int)):List Value:=xs.flatMap fun p=>p.1.enc
theorem aMs:∀ {xs:List (WI × Int)} {i:Nat},i<xs.length→((aHn xs).drop (i*2)).take 2=(nth wi0 xs i).1.enc
 | [],i,h=>by simp at h
 | x::xs,0,_=>rfl
 | x::xs,i+1,h=>by
  have:=aMs (xs:=xs) (i:=i) (by simpa using h);rw [show (i+1)*2=i*2+1+1 by omega];exact this
def rG (xs:List (WI × Int)):Nat→Int
 | 0=>1
 | k+1=>rG xs k*(nth wi0 xs k).2
structure xM (w:World) (S:Nat→Prop) (v:Value) (xs:List (WI × Int)):Prop where
 sl:bN w S 2 v xs.length (aHn xs)
 el:∀ i,i<xs.length→dR w S (nth wi0 xs i).1 (nth wi0 xs i).2
theorem xM.grow {w w':World} {S S':Nat→Prop} {v:Value} {xs:List (WI × Int)} (h:xM w S v xs) (hp:Pure w S w' S'):xM w' S' v xs:=⟨h.sl.grow hp,fun i hi=>(h.el i hi).grow hp⟩
theorem xM.at {w0 w wr:World} {H:List Chunk} {F S:Nat→Prop} {v:Value} {xs:List (WI × Int)} (h:xM wr S v xs) (hS:aA w0 w (.aH F wr::H)) (hF:∀ k,S k→F k):xM w S v xs:=⟨h.sl.move (hS.da hF),fun i hi=>(h.el i hi).at hS hF⟩
theorem xM.weaken {w:World} {S T:Nat→Prop} {v:Value} {xs:List (WI × Int)} (h:xM w S v xs) (iU:∀ k,S k→T k):xM w T v xs:=⟨h.sl.weaken iU,fun i hi=>(h.el i hi).weaken iU⟩
theorem a6P (ad:Option Addr) (n c:Nat) (xs:List (WI × Int)) (w:World) (S:Nat→Prop) (hx:xM w S (.slice ad n c) xs) (hL:aP w S) (iV:∀ k,k≤xs.length→(rG xs k).natAbs<kR) (hle:xs.length≤100) :
 Calls prog 33 #[.slice ad n c] w (aA9 w S (rG xs xs.length)):=by
 have hn:n=xs.length:=by obtain⟨h1,a,cap,h2,_⟩:=hx.sl;cases h2;rfl
 subst hn;obtain⟨hS,aC,bC,bD⟩:=eR hL
 go_enter func33,ntmps33
 go_wp2_with (with_reducible refine bH hS zeroValue51 fun br fu hS=>?_)
 refine (x6 1 _ S (by unfold bQ;omega)).mono ?_;rintro e w1 ⟨o,S1,rfl,az,ho⟩;have hx:=(hx.at hS aC).grow az;replace hS:=hS.aj aC bC bD az;obtain⟨F1,aG,gp,bB,av,hS⟩:=hS;simp only []
 go_wp2_with (with_reducible first|refine bH hS zeroValue51 fun bo wbo hS=>?_|refine aJ (u:=.agg #[.bool _,.slice _ _ _]) 2 hS sizeOf51 fun _ hS=>?_)
 go_loopw [12] (fun v wr=>∃ (k:Nat) (S1 F:Nat→Prop) (wq:World) (z:WI),k≤xs.length∧v=.int .i64 (k:Int)∧aA w wr [.aH F wq,.aB br (.cells #[.bool false,.slice none 0 0] 51 (0,0)),.aB bo (.cells #[.bool z.neg,.slice z.ad z.n z.cap] 51 (0,0))]∧(∀ k,S1 k→F k)∧(∀ k,Old w k→F k)∧Pure w S wq S1∧xM wq S1 (.slice ad xs.length c) xs∧dR wq S1 z (rG xs k)) (fun v _=>xs.length - (intOf v).toNat)
 case atStart=>exact⟨0,S1,F1,w1,o,by omega,rfl,hS,aG,av,bB,hx,ho⟩
 case round =>
  clear hS hx ho aC bC bD hL aG av bB gp az;obtain⟨k,S1,F1,wq,z,hk,rfl,hS,aG,av,bB,hx,hz⟩:=hrel
  by_cases fm:k<xs.length
  ·have sh:=hx.sl.weaken aG
   have he:=aMs fm;have gV:=hx.el k fm;have hpk:=iV (k+1) (by omega);obtain⟨e,yk⟩:∃ e,(nth wi0 xs k).1=e:=⟨_,rfl⟩;obtain⟨y,iJ⟩:∃ y,(nth wi0 xs k).2=y:=⟨_,rfl⟩;rw [yk] at he;rw [yk,iJ] at gV;have iS:rG xs (k+1)=rG xs k*y:=by simp only [rG,iJ]
   rw [iS] at hpk;replace he:=Hd he;replace iS:=Hd iS;clear yk iJ
   go_wp2_with (with_reducible first|refine iH underlying146 sizeOf51 sh he.out fun bq oq bO=>?_|refine j9 hS isAgg51 sizeOf51 ?_|refine bH hS zeroValue51 fun b6 xz hS=>?_|refine aJ (u:=.agg #[.bool _,.slice _ _ _]) 3 hS sizeOf51 fun _ hS=>?_|refine bA 2 hS isAgg51 sizeOf51 ?_|refine bA 3 hS isAgg51 sizeOf51 ?_)
   refine (aCi z e (rG xs k) y _ S1 (hz.at hS aG) (gV.at hS aG) (aP.at hS aG) hpk).mono ?_;rintro e' w2 ⟨z2,S2,rfl,aR,gS⟩;have hx:=(hx.at hS aG).grow aR;replace hS:=hS.aj aG av bB aR;obtain⟨F2,aQ,-,bR,bP,hS⟩:=hS;simp only [sJ]
   go_wp2_with (with_reducible first|refine bH hS zeroValue51 fun b7 wb7 hS=>?_|refine aJ (u:=.agg #[.bool _,.slice _ _ _]) 4 hS sizeOf51 fun _ hS=>?_|refine aJ (u:=.agg #[.bool _,.slice _ _ _]) 2 hS sizeOf51 fun _ hS=>?_|refine bA 4 hS isAgg51 sizeOf51 ?_)
   go_roundw
   case rel=>exact⟨k+1,S2,F2,w2,z2,by omega,rfl,hS.sb,aQ,bP,bR,hx,gS.cast iS.out.symm⟩
   case measure=>simp [intOf];omega
  ·obtain rfl:k=xs.length:=by omega
   go_wp2_with (with_reducible first|refine bA 2 hS isAgg51 sizeOf51 ?_|refine aJ (u:=.agg #[.bool _,.slice _ _ _]) 1 hS sizeOf51 fun _ hS=>?_)
   exact jJ 1 hS rfl rfl rfl isAgg51 sizeOf51 rfl rfl ⟨z,S1,rfl,bB.step hS av aG,hz.at hS aG⟩
theorem a5Q (a b c d:Value):Instr.fill (fun i=>some (i*2,2)) ((Array.range (2*2)).map ((Value.agg #[.bool false,.slice none 0 0]).cells[· % (Value.agg #[.bool false,.slice none 0 0]).cells.size]!)) [(0,.agg #[a,b]),(1,.agg #[c,d])]=some #[a,b,c,d]:=by
 have h:((Array.range (2*2)).map ((Value.agg #[.bool false,.slice none 0 0]).cells[· % (Value.agg #[.bool false,.slice none 0 0]).cells.size]!))=#[.bool false,.slice none 0 0,.bool false,.slice none 0 0]:=by
  apply Array.ext';simp [Array.range,List.ofFn_succ,Value.cells]
 rw [h];simp [Instr.fill,Value.cells]
theorem a52 {w0 w:World} {H:List Chunk} {S:Nat→Prop} {b:Nat} {T:TypeId} {x y:WI} {a c:Int} (hS:aA w0 w H) (hm:Chunk.aB b (.cells #[.bool x.neg,.slice x.ad x.n x.cap,.bool y.neg,.slice y.ad y.n y.cap] T (0,0)) ∈ H) (hx:dR w S x a) (hy:dR w S y c) :
 xM w (fun k=>S k∨k=b) (.slice (some ⟨b,0,none⟩) 2 2) [(x,a),(y,c)] :=
 ⟨(bN.ve (k:=2) (n:=2) hS hm rfl (by simp [maxLen])).weaken fun k h=>.inr h,fun i hi=>by
  match i,hi with
  | 0,_=>exact hx.weaken fun k h=>.inl h
  | 1,_=>exact hy.weaken fun k h=>.inl h⟩
def Bq (k:Nat) (q:Rat):Prop:=q.num.natAbs<2 ^ k∧q.den<2 ^ k
theorem Bq.mono {j k:Nat} {q:Rat} (h:Bq j q) (gM:j≤k):Bq k q:=by
 have:2 ^ j≤2 ^ k:=Nat.pow_le_pow_right (by decide) gM;exact⟨Nat.lt_of_lt_of_le h.1 this,Nat.lt_of_lt_of_le h.2 this⟩
theorem rX {k:Nat} (hk:k≤16384) {n:Nat} (h:n<2 ^ k):n<kR:=by
 obtain⟨e,he⟩:∃ e:Nat,e=512:=⟨_,rfl⟩;rw [aAp,← he,dc,show (4294967296:Nat)=2 ^ 32 by decide,← Nat.pow_mul];exact Nat.lt_of_lt_of_le h (Nat.pow_le_pow_right (by decide) (by omega))
theorem sL {a b j k:Nat} (ha:a<2 ^ j) (hb:b<2 ^ k):a*b<2 ^ (j+k):=by
 rw [Nat.pow_add]
 rcases Nat.eq_zero_or_pos b with h|h
 ·subst h;simp;exact Nat.mul_pos (Nat.pow_pos (by decide)) (Nat.pow_pos (by decide))
 ·exact Nat.lt_of_lt_of_le (Nat.mul_lt_mul_of_pos_right ha h) (Nat.mul_le_mul_left _ (Nat.le_of_lt hb))
theorem aFO (a b:Rat):Rat.divInt (a.num*((b.den:Int) / (Int.gcd a.den b.den:Nat))+b.num*((a.den:Int) / (Int.gcd a.den b.den:Nat))) (((a.den:Int) / (Int.gcd a.den b.den:Nat))*b.den)=a+b:=by
 have h1:((Int.gcd a.den b.den:Nat):Int) ∣ (a.den:Int):=Int.gcd_dvd_left ..;have h2:((Int.gcd a.den b.den:Nat):Int) ∣ (b.den:Int):=Int.gcd_dvd_right ..;have ha:=a.den_pos;have hg:((Int.gcd a.den b.den:Nat):Int)≠0:=fun h=>by rw [h] at h1;have:=Int.zero_dvd.1 h1;omega
 generalize ((Int.gcd a.den b.den:Nat):Int)=g at *;obtain⟨e1,fv⟩:=h1;obtain⟨e2,fM⟩:=h2;have d1:(a.den:Int) / g=e1:=by rw [fv,Int.mul_ediv_cancel_left _ hg]
 have d2:(b.den:Int) / g=e2:=by rw [fM,Int.mul_ediv_cancel_left _ hg]
 rw [d1,d2,Rat.add_def',← Rat.divInt_ofNat,Int.natCast_mul,← Rat.divInt_mul_right hg]
 congr 1
 ·rw [fv,fM];grind
 ·rw [fv];grind
theorem a6O {x y:WI} {a b:Int} (h0:1<kR) (h1:a.natAbs<kR) (h2:(a*b).natAbs<kR):∀ k,k≤[(x,a),(y,b)].length→(rG [(x,a),(y,b)] k).natAbs<kR:=by
 intro k hk
 match k,hk with
 | 0,_=>simpa [rG] using h0
 | 1,_=>simpa [rG,nth] using h1
 | 2,_=>simpa [rG,nth] using h2
theorem a5s (x y:WI) (a b:Int):rG [(x,a),(y,b)] [(x,a),(y,b)].length=a*b:=by simp [rG,nth]
theorem a1i (a:Int) (g:Nat):(a / (g:Int)).natAbs≤a.natAbs:=Int.natAbs_ediv_le_natAbs a g
theorem aAw (x y:FR) (a b:Rat) (j k:Nat) (w:World) (S:Nat→Prop) (hx:eN w S x a) (hy:eN w S y b) (hL:aP w S) (ha:Bq j a) (hb:Bq k b) (gM:j+k+1≤16384) :
 Calls prog 13 #[.agg #[.bool x.num.neg,.slice x.num.ad x.num.n x.num.cap,.bool x.less.neg,.slice x.less.ad x.less.n x.less.cap],.agg #[.bool y.num.neg,.slice y.num.ad y.num.n y.num.cap,.bool y.less.neg,.slice y.less.ad y.less.n y.less.cap]] w (yb w S (a+b)):=by
 have hdp:=a.den_pos;have hdq:=b.den_pos;obtain⟨g,mA⟩:∃ g:Nat,g=Int.gcd a.den b.den:=⟨_,rfl⟩
 have si:(g:Int)≠0:=by
  have:Int.gcd (a.den:Int) (b.den:Int)≠0:=fun h=>by have:=(Int.gcd_eq_zero_iff.1 h).1;omega
  omega
 have a5m:=aFO a b;rw [← mA] at a5m;obtain⟨e1,fv⟩:∃ e1:Int,e1=(a.den:Int) / (g:Int):=⟨_,rfl⟩;obtain⟨e2,fM⟩:∃ e2:Int,e2=(b.den:Int) / (g:Int):=⟨_,rfl⟩;rw [← fv,← fM] at a5m;have oY:e1.natAbs<2 ^ j:=Nat.lt_of_le_of_lt (by rw [fv];exact a1i _ _) (by simpa using ha.2);have iD:e2.natAbs<2 ^ k:=Nat.lt_of_le_of_lt (by rw [fM];exact a1i _ _) (by simpa using hb.2);have hxy:(a.num*e2).natAbs<2 ^ (j+k):=by rw [Int.natAbs_mul];exact sL ha.1 iD
 have hyx:(b.num*e1).natAbs<2 ^ (j+k):=by rw [Int.natAbs_mul,Nat.add_comm];exact sL hb.1 oY
 have qC:(e1*(b.den:Int)).natAbs<2 ^ (j+k):=by rw [Int.natAbs_mul];exact sL oY (by simpa using hb.2)
 have aUI:(a.num*e2+b.num*e1).natAbs<kR:=rX gM (by rw [Nat.pow_succ];omega);have f1:=rX (by omega) (Nat.lt_of_lt_of_le ha.1 (Nat.le_refl _));have f2:=rX (by omega) (Nat.lt_of_lt_of_le hb.1 (Nat.le_refl _));have f3:=rX (by omega) hxy;have f4:=rX (by omega) hyx;have f5:=rX (by omega) qC;have f6:=rX (by omega) oY;have f0:1<kR:=rX (k:=1) (by omega) (by decide)
 have hez:e1*(b.den:Int)≠0:=by
  intro h
  rcases Int.mul_eq_zero.1 h with h|h
  ·have h1:((Int.gcd a.den b.den:Nat):Int) ∣ (a.den:Int):=Int.gcd_dvd_left ..
   rw [← mA] at h1;obtain⟨c,hc⟩:=h1;rw [fv,hc,Int.mul_ediv_cancel_left _ si] at h;rw [h] at hc;simp at hc;omega
  ·omega
 replace a5m:=Hd a5m;replace mA:=Hd mA;replace fv:=Hd fv;replace fM:=Hd fM;clear oY iD hxy hyx qC;obtain⟨hS,aC,bC,bD⟩:=eR hL
 go_enter func13,ntmps13
 go_wp2_with (with_reducible first|refine cI hS fun bx cu hS=>?_|refine bH hS zeroValue53 fun br fu hS=>?_)
 refine kQ 40 [.r 0,.r 2,.e 1,.e 3,.e 4] [.e 6] [] [eU 5 6 51 (.agg #[.bool false,.slice none 0 0])] w _ (by kernel_rfl) (by kernel_rfl) (o8 rfl zeroValue51) hS.drew ?_;have aI:=dZ.refl (Old w);have aT:=xD.refl (Old w) w
 repeat (with_reducible first|refine kq 1 isAgg53 sizeOf53 ?_|refine kq 2 isAgg53 sizeOf53 ?_)
 refine eI rfl (fun B wB hS=>?_);simp only [aK] at hS
 go_wp2_with (fail)
 refine (rm x a _ S (hx.at hS aC) (aP.at hS aC)).mono ?_;rintro e w' ⟨d1,S1,rfl,hq,eo⟩;simp only [];go_step;have hx:=(hx.at hS aC).grow hq;have hy:=(hy.at hS aC).grow hq;have aT:=aA.fC hS hq.below aI aT;replace hS:=hS.aj aC bC bD hq;obtain⟨F1,aG,gp,bB,av,hS⟩:=hS;have aI:=dZ.trans aI gp;refine eH (H:=[_,_,_]) hS aI aT ?_;refine dz ?_;refine eI rfl (fun B wB hS=>?_);simp only [aK] at hS
 go_wp2_with (fail)
 refine (rm y b _ S1 (hy.at hS aG) (aP.at hS aG)).mono ?_;rintro e w' ⟨d2,S2,rfl,aR,fH⟩;simp only [];go_step;have hx:=(hx.at hS aG).grow aR;have hy:=(hy.at hS aG).grow aR;have eo:=(eo.at hS aG).grow aR;have aT:=aA.fC hS aR.below aI aT;replace hS:=hS.aj aG av bB aR;obtain⟨F2,aQ,jV,bR,bP,hS⟩:=hS;have aI:=dZ.trans aI jV;refine eH (H:=[_,_,_]) hS aI aT ?_;refine dz ?_;refine eI rfl (fun B wB hS=>?_);simp only [aK] at hS
 go_wp2_with (fail)
 refine (a6d d1 d2 a.den b.den _ S2 (eo.at hS aQ) (fH.at hS aQ) (aP.at hS aQ)).mono ?_;rintro e w' ⟨gg,S3,rfl,bI,fD⟩;simp only [];go_step;have hx:=(hx.at hS aQ).grow bI;have hy:=(hy.at hS aQ).grow bI;have aT:=aA.fC hS bI.below aI aT;replace hS:=hS.aj aQ bP bR bI;obtain⟨F3,bM,nQ,dP,dE,hS⟩:=hS;have aI:=dZ.trans aI nQ;replace fD:=fD.cast (show ((Int.gcd (a.den:Int) (b.den:Int):Nat):Int)=(g:Int) by rw [mA.out]);refine eH (H:=[_,_,_]) hS aI aT ?_;refine dz ?_;refine mq (fun b6 wB hS=>?_);simp only [aK] at hS;simp only [aD];refine aZ ?_
 (with_reducible refine aJ 4 hS sizeOf51 fun _ hS=>?_)
 refine aX (aA.gA hS.sb aI aT) ?_;refine aM ?_;refine bE ?_;clear aI aT
 go_wp2_with (fail)
 refine kQ 60 [.p 0,.r 1,.r 2,.r 4,.e 3,.e 5,.e 6,.e 7,.p 8,.p 9,.p 10] [.e 12,.p 13] [] [eU 11 7 51 (.agg #[.bool false,.slice none 0 0])] w _ (by kernel_rfl) (by kernel_rfl) (o8 rfl zeroValue51) hS.drew ?_;obtain⟨aI,aT⟩:=hS.jw
 repeat (with_reducible first|refine py 1 isAgg51 sizeOf51 ?_|refine kq 2 isAgg53 sizeOf53 ?_|refine kq 4 isAgg51 sizeOf51 ?_|refine lF ?_)
 refine eI rfl (fun B wB hS=>?_);simp only [aK] at hS
 go_wp2_with (fail)
 refine (rm y b _ S3 (hy.at hS bM) (aP.at hS bM)).mono ?_;rintro e w' ⟨dd,S1,rfl,hq,kz⟩;simp only [];go_step;have hx:=(hx.at hS bM).grow hq;have hy:=(hy.at hS bM).grow hq;have fD:=(fD.at hS bM).grow hq
 skip
 have aT:=aA.fC hS hq.below aI aT;replace hS:=hS.aj bM dE dP hq;obtain⟨F4,bZ,tl,gN,gG,hS⟩:=hS;have aI:=dZ.trans aI tl;refine eH (H:=[_,_,_,_]) hS aI aT ?_;refine dz ?_;refine eI rfl (fun B wB hS=>?_);simp only [aK] at hS
 go_wp2_with (fail)
 refine (vO dd gg b.den g _ S1 (kz.at hS bZ) (fD.at hS bZ) (aP.at hS bZ) si).mono ?_;rintro e w' ⟨oo,S2,rfl,aR,sH⟩;simp only [];go_step;have hx:=(hx.at hS bZ).grow aR;have hy:=(hy.at hS bZ).grow aR;have fD:=(fD.at hS bZ).grow aR
 skip
 have aT:=aA.fC hS aR.below aI aT;replace hS:=hS.aj bZ gG gN aR;obtain⟨F5,cG,a4W,gR,ff,hS⟩:=hS;have aI:=dZ.trans aI a4W;replace sH:=sH.cast fM.out.symm;refine eH (H:=[_,_,_,_]) hS aI aT ?_;refine dz ?_;refine eI rfl (fun B wB hS=>?_);simp only [aK] at hS
 ((with_reducible refine dV (T:=146) ?_);refine nc (k:=2) (z:=.agg #[.bool false,.slice none 0 0]) (len:=2) hS underlying146 sizeOf51 zeroValue51 (by decide) (by decide) (a5Q _ _ _ _) (fun bl fX hS=>?_);simp only [aD];simp only [aK] at hS)
 have sP:=a52 (b:=bl) (T:=51) hS (by simp) (hx.num.at hS cG) (sH.at hS cG);have hx:=(hx.at hS cG).weaken (T:=fun k=>S2 k∨k=bl) (fun k h=>.inl h);have hy:=(hy.at hS cG).weaken (T:=fun k=>S2 k∨k=bl) (fun k h=>.inl h);have fD:=(fD.at hS cG).weaken (T:=fun k=>S2 k∨k=bl) (fun k h=>.inl h)
 skip
 have kY:=(gR.step hS ff cG).add (aA.a3V (H:=(_::_::_::_::B)) hS ff);have aT:=aA.a36 hS aI aT;have hS6:=aA.a5b (H:=(_::_::_::_::B)) hS;obtain⟨F6,a4z⟩:∃ F',F'=fun k=>F5 k∨k=bl:=⟨_,rfl⟩
 rw [← a4z] at hS6;have j4:∀ k,Old w k→F6 k:=fun k h=>by rw [a4z];exact .inl (ff k h)
 have aI:=dZ.trans aI (F'':=F6) (fun k h=>by rw [a4z];exact .inl h)
 have eO:∀ k,(S2 k∨k=bl)→F6 k:=fun k h=>by
  rw [a4z]
  rcases h with h|h
  ·exact .inl (cG k h)
  ·exact .inr h
 clear a4z hS;have hS:=hS6;clear hS6;refine eH (H:=[_,_,_,_]) hS aI aT ?_;refine dz ?_;refine eI rfl (fun B wB hS=>?_);simp only [aK] at hS
 go_wp2_with (fail)
 refine (a6P _ 2 2 [(x.num,a.num),(oo,e2)] _ _ (sP.at hS eO) (aP.at hS eO) (a6O f0 f1 f3) (by simp)).mono ?_;rintro e w' ⟨xx,S4,rfl,cY,sO⟩;simp only [sJ];go_step;have hx:=(hx.at hS eO).grow cY;have hy:=(hy.at hS eO).grow cY;have fD:=(fD.at hS eO).grow cY
 skip
 have aT:=aA.fC hS cY.below aI aT;replace hS:=hS.aj eO j4 kY cY;obtain⟨F7,iR,aQh,mT,qN,hS⟩:=hS;have aI:=dZ.trans aI aQh;replace sO:=sO.cast (a5s _ _ _ _);refine eH (H:=[_,_,_,_]) hS aI aT ?_;refine dz ?_;refine mq (fun bq wB hS=>?_);simp only [aK] at hS;simp only [aD];refine aZ ?_
 (with_reducible refine aJ 5 hS sizeOf51 fun _ hS=>?_)
 refine aX (aA.gA hS.sb aI aT) ?_;refine aM ?_;refine bE ?_;clear aI aT;have mX:=sO;clear sO
 go_wp2_with (fail)
 refine kQ 60 [.p 0,.r 1,.r 2,.r 4,.e 3,.e 5,.e 6,.e 7,.p 8,.p 9,.p 10] [.e 12,.p 13] [] [eU 11 9 51 (.agg #[.bool false,.slice none 0 0])] w _ (by kernel_rfl) (by kernel_rfl) (o8 rfl zeroValue51) hS.drew ?_;obtain⟨aI,aT⟩:=hS.jw
 repeat (with_reducible first|refine py 2 isAgg51 sizeOf51 ?_|refine kq 1 isAgg53 sizeOf53 ?_|refine kq 4 isAgg51 sizeOf51 ?_|refine lF ?_)
 refine eI rfl (fun B wB hS=>?_);simp only [aK] at hS
 go_wp2_with (fail)
 refine (rm x a _ S4 (hx.at hS iR) (aP.at hS iR)).mono ?_;rintro e w' ⟨dd,S1,rfl,hq,kz⟩;simp only [];go_step;have hx:=(hx.at hS iR).grow hq;have hy:=(hy.at hS iR).grow hq;have fD:=(fD.at hS iR).grow hq;have mX:=(mX.at hS iR).grow hq;have aT:=aA.fC hS hq.below aI aT;replace hS:=hS.aj iR qN mT hq;obtain⟨F8,mK,aCr,hp8,hO8,hS⟩:=hS;have aI:=dZ.trans aI aCr;refine eH (H:=[_,_,_,_,_]) hS aI aT ?_;refine dz ?_;refine eI rfl (fun B wB hS=>?_);simp only [aK] at hS
 go_wp2_with (fail)
 refine (vO dd gg a.den g _ S1 (kz.at hS mK) (fD.at hS mK) (aP.at hS mK) si).mono ?_;rintro e w' ⟨oo,S2,rfl,aR,sH⟩;simp only [];go_step;have hx:=(hx.at hS mK).grow aR;have hy:=(hy.at hS mK).grow aR;have fD:=(fD.at hS mK).grow aR;have mX:=(mX.at hS mK).grow aR;have aT:=aA.fC hS aR.below aI aT;replace hS:=hS.aj mK hO8 hp8 aR;obtain⟨F9,jO,aD9,hp9,xF,hS⟩:=hS;have aI:=dZ.trans aI aD9;replace sH:=sH.cast fv.out.symm;refine eH (H:=[_,_,_,_,_]) hS aI aT ?_;refine dz ?_;refine eI rfl (fun B wB hS=>?_);simp only [aK] at hS
 ((with_reducible refine dV (T:=146) ?_);refine nc (k:=2) (z:=.agg #[.bool false,.slice none 0 0]) (len:=2) hS underlying146 sizeOf51 zeroValue51 (by decide) (by decide) (a5Q _ _ _ _) (fun bl fX hS=>?_);simp only [aD];simp only [aK] at hS)
 have sP:=a52 (b:=bl) (T:=51) hS (by simp) (hy.num.at hS jO) (sH.at hS jO);have hx:=(hx.at hS jO).weaken (T:=fun k=>S2 k∨k=bl) (fun k h=>.inl h);have hy:=(hy.at hS jO).weaken (T:=fun k=>S2 k∨k=bl) (fun k h=>.inl h);have fD:=(fD.at hS jO).weaken (T:=fun k=>S2 k∨k=bl) (fun k h=>.inl h);have mX:=(mX.at hS jO).weaken (T:=fun k=>S2 k∨k=bl) (fun k h=>.inl h);have a2H:=(hp9.step hS xF jO).add (aA.a3V (H:=(_::_::_::_::_::B)) hS xF);have aT:=aA.a36 hS aI aT;have a0P:=aA.a5b (H:=(_::_::_::_::_::B)) hS;obtain⟨wD,a6l⟩:∃ F',F'=fun k=>F9 k∨k=bl:=⟨_,rfl⟩
 rw [← a6l] at a0P;have a3U:∀ k,Old w k→wD k:=fun k h=>by rw [a6l];exact .inl (xF k h)
 have aI:=dZ.trans aI (F'':=wD) (fun k h=>by rw [a6l];exact .inl h)
 have mU:∀ k,(S2 k∨k=bl)→wD k:=fun k h=>by
  rw [a6l]
  rcases h with h|h
  ·exact .inl (jO k h)
  ·exact .inr h
 clear a6l hS;have hS:=a0P;clear a0P;refine eH (H:=[_,_,_,_,_]) hS aI aT ?_;refine dz ?_;refine eI rfl (fun B wB hS=>?_);simp only [aK] at hS
 go_wp2_with (fail)
 refine (a6P _ 2 2 [(y.num,b.num),(oo,e1)] _ _ (sP.at hS mU) (aP.at hS mU) (a6O f0 f2 f4) (by simp)).mono ?_;rintro e w' ⟨xx,S4,rfl,cY,sO⟩;simp only [sJ];go_step;have hx:=(hx.at hS mU).grow cY;have hy:=(hy.at hS mU).grow cY;have fD:=(fD.at hS mU).grow cY;have mX:=(mX.at hS mU).grow cY;have aT:=aA.fC hS cY.below aI aT;replace hS:=hS.aj mU a3U a2H cY;obtain⟨F11,qo,aC3,aB6,aEx,hS⟩:=hS;have aI:=dZ.trans aI aC3;replace sO:=sO.cast (a5s _ _ _ _);refine eH (H:=[_,_,_,_,_]) hS aI aT ?_;refine dz ?_;refine mq (fun bq wB hS=>?_);simp only [aK] at hS;simp only [aD];refine aZ ?_
 (with_reducible refine aJ 6 hS sizeOf51 fun _ hS=>?_)
 refine aX (aA.gA hS.sb aI aT) ?_;refine aM ?_;refine bE ?_;clear aI aT;have pY:=sO;clear sO
 go_wp2_with (with_reducible first|refine bA 5 hS isAgg51 sizeOf51 ?_|refine bA 6 hS isAgg51 sizeOf51 ?_)
 refine (aEd _ _ (a.num*e2) (b.num*e1) _ S4 (mX.at hS qo) (pY.at hS qo) (aP.at hS qo) aUI).mono ?_;rintro e w' ⟨sm,S5,rfl,gh,uW⟩;have hx:=(hx.at hS qo).grow gh;have hy:=(hy.at hS qo).grow gh;have fD:=(fD.at hS qo).grow gh;replace hS:=hS.aj qo aEx aB6 gh;obtain⟨F12,uI,-,lC,a6z,hS⟩:=hS;clear mX pY;simp only [sJ]
 go_wp2_with (with_reducible first|refine bH hS zeroValue51 fun b11 a3b hS=>?_|refine aJ 7 hS sizeOf51 fun _ hS=>?_)
 refine kQ 60 [.r 0,.r 2,.r 4,.e 1,.e 3,.e 5,.e 6,.e 7,.p 8,.p 9,.p 10] [.e 12,.p 13] [] [eU 11 13 51 (.agg #[.bool false,.slice none 0 0])] w _ (by kernel_rfl) (by kernel_rfl) (o8 rfl zeroValue51) hS.drew ?_;obtain⟨aI,aT⟩:=hS.jw
 repeat (with_reducible first|refine kq 1 isAgg53 sizeOf53 ?_|refine kq 4 isAgg51 sizeOf51 ?_|refine kq 2 isAgg53 sizeOf53 ?_)
 refine eI rfl (fun B wB hS=>?_);simp only [aK] at hS
 go_wp2_with (fail)
 refine (rm x a _ S5 (hx.at hS uI) (aP.at hS uI)).mono ?_;rintro e w' ⟨dd,S1,rfl,hq,kz⟩;simp only [];go_step;have hy:=(hy.at hS uI).grow hq;have fD:=(fD.at hS uI).grow hq;have uW:=(uW.at hS uI).grow hq;have aT:=aA.fC hS hq.below aI aT;replace hS:=hS.aj uI a6z lC hq;obtain⟨F13,ue,aV2,aFr,aEp,hS⟩:=hS;have aI:=dZ.trans aI aV2;refine eH (H:=[_,_,_,_,_,_,_]) hS aI aT ?_;refine dz ?_;refine eI rfl (fun B wB hS=>?_);simp only [aK] at hS
 go_wp2_with (fail)
 refine (vO dd gg a.den g _ S1 (kz.at hS ue) (fD.at hS ue) (aP.at hS ue) si).mono ?_;rintro e w' ⟨oo,S2,rfl,aR,sH⟩;simp only [];go_step;have hy:=(hy.at hS ue).grow aR;have uW:=(uW.at hS ue).grow aR;have aT:=aA.fC hS aR.below aI aT;replace hS:=hS.aj ue aEp aFr aR;obtain⟨F14,vy,aCt,aCR,aB7,hS⟩:=hS;have aI:=dZ.trans aI aCt;replace sH:=sH.cast fv.out.symm;refine eH (H:=[_,_,_,_,_,_,_]) hS aI aT ?_;refine dz ?_;refine eI rfl (fun B wB hS=>?_);simp only [aK] at hS
 go_wp2_with (fail)
 refine (rm y b _ S2 (hy.at hS vy) (aP.at hS vy)).mono ?_;rintro e w' ⟨de,S3,rfl,bI,qC⟩;simp only [];go_step;have sH:=(sH.at hS vy).grow bI;have uW:=(uW.at hS vy).grow bI;have aT:=aA.fC hS bI.below aI aT;replace hS:=hS.aj vy aB7 aCR bI;obtain⟨F15,yv,aVU,aDU,a6b,hS⟩:=hS;have aI:=dZ.trans aI aVU;refine eH (H:=[_,_,_,_,_,_,_]) hS aI aT ?_;refine dz ?_;refine eI rfl (fun B wB hS=>?_);simp only [aK] at hS
 ((with_reducible refine dV (T:=146) ?_);refine nc (k:=2) (z:=.agg #[.bool false,.slice none 0 0]) (len:=2) hS underlying146 sizeOf51 zeroValue51 (by decide) (by decide) (a5Q _ _ _ _) (fun bl fX hS=>?_);simp only [aD];simp only [aK] at hS)
 have sP:=a52 (b:=bl) (T:=51) hS (by simp) (sH.at hS yv) (qC.at hS yv);have uW:=(uW.at hS yv).weaken (T:=fun k=>S3 k∨k=bl) (fun k h=>.inl h);have aTQ:=(aDU.step hS a6b yv).add (aA.a3V (H:=(_::_::_::_::_::_::_::B)) hS a6b);have aT:=aA.a36 hS aI aT;have aBu:=aA.a5b (H:=(_::_::_::_::_::_::_::B)) hS;obtain⟨F16,a3P⟩:∃ F',F'=fun k=>F15 k∨k=bl:=⟨_,rfl⟩
 rw [← a3P] at aBu;have aPD:∀ k,Old w k→F16 k:=fun k h=>by rw [a3P];exact .inl (a6b k h)
 have aI:=dZ.trans aI (F'':=F16) (fun k h=>by rw [a3P];exact .inl h)
 have a7a:∀ k,(S3 k∨k=bl)→F16 k:=fun k h=>by
  rw [a3P]
  rcases h with h|h
  ·exact .inl (yv k h)
  ·exact .inr h
 clear a3P hS;have hS:=aBu;clear aBu;refine eH (H:=[_,_,_,_,_,_,_]) hS aI aT ?_;refine dz ?_;refine eI rfl (fun B wB hS=>?_);simp only [aK] at hS
 go_wp2_with (fail)
 refine (a6P _ 2 2 [(oo,e1),(de,(b.den:Int))] _ _ (sP.at hS a7a) (aP.at hS a7a) (a6O f0 f6 f5) (by simp)).mono ?_;rintro e w' ⟨xx,S4,rfl,cY,sO⟩;simp only [sJ];go_step;have uW:=(uW.at hS a7a).grow cY;have aT:=aA.fC hS cY.below aI aT;replace hS:=hS.aj a7a aPD aTQ cY;obtain⟨F17,a9A,aSb,aQK,aQU,hS⟩:=hS;have aI:=dZ.trans aI aSb;replace sO:=sO.cast (a5s _ _ _ _);refine eH (H:=[_,_,_,_,_,_,_]) hS aI aT ?_;refine dz ?_;refine mq (fun bq wB hS=>?_);simp only [aK] at hS;simp only [aD];refine aZ ?_
 (with_reducible refine aJ 8 hS sizeOf51 fun _ hS=>?_)
 refine aX (aA.gA hS.sb aI aT) ?_;refine aM ?_;refine bE ?_;clear aI aT
 go_wp2_with (with_reducible first|refine bA 7 hS isAgg51 sizeOf51 ?_|refine bA 8 hS isAgg51 sizeOf51 ?_)
 refine (aDa _ _ (a.num*e2+b.num*e1) (e1*(b.den:Int)) _ S4 (uW.at hS a9A) (sO.at hS a9A) (aP.at hS a9A) hez).mono ?_;rintro e w' ⟨z,S5,rfl,gh,hz⟩;replace hS:=hS.aj a9A aQU aQK gh;obtain⟨F18,aGP,-,aVW,aPn,hS⟩:=hS;simp only [iW]
 go_wp2_with (with_reducible refine aJ 3 hS sizeOf53 fun _ hS=>?_)
 exact jJ 3 hS rfl rfl rfl isAgg53 sizeOf53 rfl rfl ⟨z,S5,rfl,aVW.step hS aPn aGP,(hz.at hS aGP).cast a5m.out⟩
theorem Bq.neg {k:Nat} {q:Rat} (h:Bq k q):Bq k (-q):=⟨by rw [Rat.neg_num,Int.natAbs_neg];exact h.1,h.2⟩
theorem aGU (a b:Rat):(a*b).num=(a.num / (Int.gcd a.num b.den:Nat))*(b.num / (Int.gcd b.num a.den:Nat))∧((a*b).den:Int)=((a.den:Int) / (Int.gcd b.num a.den:Nat))*((b.den:Int) / (Int.gcd a.num b.den:Nat)):=by
 have h:a*b=Rat.mul a b:=rfl;have g1:Nat.gcd a.num.natAbs b.den=Int.gcd a.num b.den:=by simp [Int.gcd]
 have g2:Nat.gcd b.num.natAbs a.den=Int.gcd b.num a.den:=by simp [Int.gcd]
 rw [h]
 constructor
 ·delta Rat.mul
  dsimp only;rw [Int.divExact_eq_tdiv,Int.divExact_eq_tdiv,g1,g2,Int.tdiv_eq_ediv_of_dvd (Int.gcd_dvd_left ..),Int.tdiv_eq_ediv_of_dvd (Int.gcd_dvd_left ..)]
 ·delta Rat.mul
  dsimp only;rw [Nat.divExact_eq_div,Nat.divExact_eq_div,g1,g2,Int.natCast_mul,Int.natCast_ediv,Int.natCast_ediv]
theorem zi (x y:FR) (a b:Rat) (j k:Nat) (w:World) (S:Nat→Prop) (hx:eN w S x a) (hy:eN w S y b) (hL:aP w S) (ha:Bq j a) (hb:Bq k b) (gM:j+k+1≤16384) :
 Calls prog 75 #[.agg #[.bool x.num.neg,.slice x.num.ad x.num.n x.num.cap,.bool x.less.neg,.slice x.less.ad x.less.n x.less.cap],.agg #[.bool y.num.neg,.slice y.num.ad y.num.n y.num.cap,.bool y.less.neg,.slice y.less.ad y.less.n y.less.cap]] w (yb w S (a - b)):=by
 obtain⟨hS,aC,bC,bD⟩:=eR hL
 go_enter func75,ntmps75
 go_wp2_with (with_reducible first|refine cI hS fun bx cu hS=>?_|refine bH hS zeroValue53 fun br fu hS=>?_)
 refine dB [.r 0,.p 1,.r 2,.p 4,.r 5,.e 3,.p 6,.e 7,.p 8,.p 9,.m 10,.p 11] [10] hS fun w1 hS=>?_
 have hC:=hS
 repeat (with_reducible first|refine cz 1 isAgg53 sizeOf53 ?_|refine tf 2 isAgg51 sizeOf51 ?_|refine bU ?_)
 refine aZ ?_
 go_wp2_with (fail)
 refine (a8c y.num b.num _ S (hy.num.at hS aC)).mono ?_;rintro e w' ⟨n,rfl,hq,hn⟩;simp only [];go_step;have hx:=(hx.at hS aC).grow hq;have hy:=(hy.at hS aC).grow hq;have hC:=hC.below hq.below hq.drawn;replace hS:=hS.aj aC bC bD hq;obtain⟨F1,aG,gp,bB,av,hS⟩:=hS;refine aX hC ?_;refine aM ?_;refine aZ ?_
 go_wp2_with (fail)
 refine (aAw x ⟨n,y.less⟩ a (-b) j k _ S (hx.at hS aG) ⟨hn.at hS aG,hy.less.at hS aG,hy.lt⟩ (aP.at hS aG) ha hb.neg gM).mono ?_;rintro e w' ⟨z,S2,rfl,aR,hz⟩;simp only [iW];go_step;have hC:=hC.below aR.below aR.drawn;replace hS:=hS.aj aG av bB aR;obtain⟨F2,aQ,jV,bR,bP,hS⟩:=hS;refine aX hC ?_;refine aM ?_;refine dC ?_
 (with_reducible refine aJ 3 hS sizeOf53 fun _ hS=>?_)
 refine dD ?_;refine aM ?_;refine bE ?_;go_wp2;exact jJ 3 hS rfl rfl rfl isAgg53 sizeOf53 rfl rfl ⟨z,S2,rfl,bR.step hS bP aQ,(hz.at hS aQ).cast (Rat.sub_eq_add_neg a b).symm⟩
theorem a1A (x y:FR) (a b:Rat) (j k:Nat) (w:World) (S:Nat→Prop) (hx:eN w S x a) (hy:eN w S y b) (hL:aP w S) (ha:Bq j a) (hb:Bq k b) (gM:j+k≤16384) :
 Calls prog 78 #[.agg #[.bool x.num.neg,.slice x.num.ad x.num.n x.num.cap,.bool x.less.neg,.slice x.less.ad x.less.n x.less.cap],.agg #[.bool y.num.neg,.slice y.num.ad y.num.n y.num.cap,.bool y.less.neg,.slice y.less.ad y.less.n y.less.cap]] w (yb w S (a*b)):=by
 have hdp:=a.den_pos;have hdq:=b.den_pos;obtain⟨oW,uy⟩:=aGU a b;obtain⟨g,mA⟩:∃ g:Nat,g=Int.gcd a.num b.den:=⟨_,rfl⟩;obtain⟨h,hh0⟩:∃ h:Nat,h=Int.gcd b.num a.den:=⟨_,rfl⟩
 have si:(g:Int)≠0:=by
  have:Int.gcd a.num (b.den:Int)≠0:=fun h=>by have:=(Int.gcd_eq_zero_iff.1 h).2;omega
  omega
 have hhz:(h:Int)≠0:=by
  have:Int.gcd b.num (a.den:Int)≠0:=fun h=>by have:=(Int.gcd_eq_zero_iff.1 h).2;omega
  omega
 rw [← mA,← hh0] at oW uy;obtain⟨n1,eX⟩:∃ e:Int,e=a.num / (g:Int):=⟨_,rfl⟩;obtain⟨n2,fx⟩:∃ e:Int,e=b.num / (h:Int):=⟨_,rfl⟩;obtain⟨e1,fv⟩:∃ e:Int,e=(a.den:Int) / (h:Int):=⟨_,rfl⟩;obtain⟨e2,fM⟩:∃ e:Int,e=(b.den:Int) / (g:Int):=⟨_,rfl⟩;rw [← eX,← fx] at oW;rw [← fv,← fM] at uy;have b1:n1.natAbs<2 ^ j:=Nat.lt_of_le_of_lt (by rw [eX];exact a1i _ _) ha.1;have b2:n2.natAbs<2 ^ k:=Nat.lt_of_le_of_lt (by rw [fx];exact a1i _ _) hb.1;have b3:e1.natAbs<2 ^ j:=Nat.lt_of_le_of_lt (by rw [fv];exact a1i _ _) (by simpa using ha.2);have b4:e2.natAbs<2 ^ k:=Nat.lt_of_le_of_lt (by rw [fM];exact a1i _ _) (by simpa using hb.2);have f0:1<kR:=rX (k:=1) (by omega) (by decide);have f1:=rX (by omega) b1;have f3:=rX (by omega) b3;have f2:(n1*n2).natAbs<kR:=rX gM (by rw [Int.natAbs_mul];exact sL b1 b2);have f4:(e1*e2).natAbs<kR:=rX gM (by rw [Int.natAbs_mul];exact sL b3 b4);replace oW:=Hd oW;replace uy:=Hd uy;replace mA:=Hd mA;replace hh0:=Hd hh0;replace eX:=Hd eX;replace fx:=Hd fx;replace fv:=Hd fv;replace fM:=Hd fM;clear b1 b2 b3 b4;obtain⟨hS,aC,bC,bD⟩:=eR hL
 go_enter func78,ntmps78
 go_wp2_with (with_reducible first|refine cI hS fun bx cu hS=>?_|refine bH hS zeroValue53 fun br fu hS=>?_)
 refine kQ 80 [.p 0,.r 1,.r 2,.p 5,.r 6,.r 7,.e 3,.e 4,.e 8,.e 9] [.e 12,.e 13] [] [eU 10 6 51 (.agg #[.bool false,.slice none 0 0]),eU 11 7 51 (.agg #[.bool false,.slice none 0 0])] w _ (by kernel_rfl) (by kernel_rfl) (a0n rfl zeroValue51 rfl zeroValue51 (by decide) (by decide)) hS.drew ?_;obtain⟨aI,aT⟩:=hS.jw
 repeat (with_reducible first|refine py 1 isAgg51 sizeOf51 ?_|refine kq 2 isAgg53 sizeOf53 ?_|refine py 2 isAgg51 sizeOf51 ?_|refine kq 1 isAgg53 sizeOf53 ?_|refine lF ?_)
 refine eI rfl (fun B wB hS=>?_);simp only [aK] at hS
 go_wp2_with (fail)
 refine (rm y b _ S (hy.at hS aC) (aP.at hS aC)).mono ?_;rintro e w' ⟨dd,S1,rfl,hq,kz⟩;simp only [];go_step;have hx:=(hx.at hS aC).grow hq;have hy:=(hy.at hS aC).grow hq;have aT:=aA.fC hS hq.below aI aT;replace hS:=hS.aj aC bC bD hq;obtain⟨F1,aG,gp,bB,av,hS⟩:=hS;have aI:=dZ.trans aI gp;refine eH (H:=[_,_,_]) hS aI aT ?_;refine dz ?_;refine eI rfl (fun B wB hS=>?_);simp only [aK] at hS
 go_wp2_with (fail)
 refine (a6d x.num dd a.num b.den _ S1 (hx.num.at hS aG) (kz.at hS aG) (aP.at hS aG)).mono ?_;rintro e w' ⟨gg,S2,rfl,aR,fD⟩;simp only [];go_step;have hx:=(hx.at hS aG).grow aR;have hy:=(hy.at hS aG).grow aR;have aT:=aA.fC hS aR.below aI aT;replace hS:=hS.aj aG av bB aR;obtain⟨F2,aQ,jV,bR,bP,hS⟩:=hS;have aI:=dZ.trans aI jV;replace fD:=fD.cast (show ((Int.gcd a.num (b.den:Int):Nat):Int)=(g:Int) by rw [mA.out]);refine eH (H:=[_,_,_]) hS aI aT ?_;refine dz ?_;refine eI rfl (fun B wB hS=>?_);simp only [aK] at hS
 go_wp2_with (fail)
 refine (rm x a _ S2 (hx.at hS aQ) (aP.at hS aQ)).mono ?_;rintro e w' ⟨dd2,S3,rfl,bI,aCV⟩;simp only [];go_step;have hx:=(hx.at hS aQ).grow bI;have hy:=(hy.at hS aQ).grow bI;have fD:=(fD.at hS aQ).grow bI;have aT:=aA.fC hS bI.below aI aT;replace hS:=hS.aj aQ bP bR bI;obtain⟨F3,bM,nQ,dP,dE,hS⟩:=hS;have aI:=dZ.trans aI nQ;refine eH (H:=[_,_,_]) hS aI aT ?_;refine dz ?_;refine eI rfl (fun B wB hS=>?_);simp only [aK] at hS
 go_wp2_with (fail)
 refine (a6d y.num dd2 b.num a.den _ S3 (hy.num.at hS bM) (aCV.at hS bM) (aP.at hS bM)).mono ?_;rintro e w' ⟨hh,S4,rfl,cY,qp⟩;simp only [];go_step;have hx:=(hx.at hS bM).grow cY;have hy:=(hy.at hS bM).grow cY;have fD:=(fD.at hS bM).grow cY;have aT:=aA.fC hS cY.below aI aT;replace hS:=hS.aj bM dE dP cY;obtain⟨F4,bZ,tl,gN,gG,hS⟩:=hS;have aI:=dZ.trans aI tl;replace qp:=qp.cast (show ((Int.gcd b.num (a.den:Int):Nat):Int)=(h:Int) by rw [hh0.out]);refine eH (H:=[_,_,_]) hS aI aT ?_;refine dz ?_;refine a0H (fun b6 b7 wB hS=>?_);simp only [aK] at hS;simp only [aD];refine aZ ?_
 (with_reducible refine aJ 4 hS sizeOf51 fun _ hS=>?_)
 refine aX (aA.gA hS.sb aI aT) ?_;refine aM ?_;refine aZ ?_
 (with_reducible refine aJ 5 hS sizeOf51 fun _ hS=>?_)
 refine aX (aA.gA hS.sb aI aT) ?_;refine aM ?_;refine bE ?_;clear aI aT
 go_wp2_with (fail)
 refine kQ 60 [.p 0,.r 1,.r 2,.p 4,.r 5,.r 6,.e 3,.e 7,.e 8,.e 9,.p 10,.p 11,.p 12] [.e 14,.p 15] [] [eU 13 8 51 (.agg #[.bool false,.slice none 0 0])] w _ (by kernel_rfl) (by kernel_rfl) (o8 rfl zeroValue51) hS.drew ?_;obtain⟨aI,aT⟩:=hS.jw
 repeat (with_reducible first|refine py 1 isAgg51 sizeOf51 ?_|refine kq 4 isAgg51 sizeOf51 ?_|refine py 2 isAgg51 sizeOf51 ?_|refine kq 5 isAgg51 sizeOf51 ?_|refine lF ?_)
 refine eI rfl (fun B wB hS=>?_);simp only [aK] at hS
 go_wp2_with (fail)
 refine (vO x.num gg a.num g _ S4 (hx.num.at hS bZ) (fD.at hS bZ) (aP.at hS bZ) si).mono ?_;rintro e w' ⟨o1,S1,rfl,hq,sE⟩;simp only [];go_step;have hx:=(hx.at hS bZ).grow hq;have hy:=(hy.at hS bZ).grow hq;have fD:=(fD.at hS bZ).grow hq;have qp:=(qp.at hS bZ).grow hq;have aT:=aA.fC hS hq.below aI aT;replace hS:=hS.aj bZ gG gN hq;obtain⟨F5,cG,a4W,gR,ff,hS⟩:=hS;have aI:=dZ.trans aI a4W;replace sE:=sE.cast eX.out.symm;refine eH (H:=[_,_,_,_,_]) hS aI aT ?_;refine dz ?_;refine eI rfl (fun B wB hS=>?_);simp only [aK] at hS
 go_wp2_with (fail)
 refine (vO y.num hh b.num h _ S1 (hy.num.at hS cG) (qp.at hS cG) (aP.at hS cG) hhz).mono ?_;rintro e w' ⟨o2,S2,rfl,aR,wM⟩;simp only [];go_step;have hx:=(hx.at hS cG).grow aR;have hy:=(hy.at hS cG).grow aR;have fD:=(fD.at hS cG).grow aR;have qp:=(qp.at hS cG).grow aR;have sE:=(sE.at hS cG).grow aR;have aT:=aA.fC hS aR.below aI aT;replace hS:=hS.aj cG ff gR aR;obtain⟨F6,eO,aEh,kY,j4,hS⟩:=hS;have aI:=dZ.trans aI aEh;replace wM:=wM.cast fx.out.symm;refine eH (H:=[_,_,_,_,_]) hS aI aT ?_;refine dz ?_;refine eI rfl (fun B wB hS=>?_);simp only [aK] at hS
 ((with_reducible refine dV (T:=146) ?_);refine nc (k:=2) (z:=.agg #[.bool false,.slice none 0 0]) (len:=2) hS underlying146 sizeOf51 zeroValue51 (by decide) (by decide) (a5Q _ _ _ _) (fun bl fX hS=>?_);simp only [aD];simp only [aK] at hS)
 have sP:=a52 (b:=bl) (T:=51) hS (by simp) (sE.at hS eO) (wM.at hS eO);have hx:=(hx.at hS eO).weaken (T:=fun k=>S2 k∨k=bl) (fun k h=>.inl h);have hy:=(hy.at hS eO).weaken (T:=fun k=>S2 k∨k=bl) (fun k h=>.inl h);have fD:=(fD.at hS eO).weaken (T:=fun k=>S2 k∨k=bl) (fun k h=>.inl h);have qp:=(qp.at hS eO).weaken (T:=fun k=>S2 k∨k=bl) (fun k h=>.inl h);have mT:=(kY.step hS j4 eO).add (aA.a3V (H:=(_::_::_::_::_::B)) hS j4);have aT:=aA.a36 hS aI aT;have hS7:=aA.a5b (H:=(_::_::_::_::_::B)) hS;obtain⟨F7,a5C⟩:∃ F',F'=fun k=>F6 k∨k=bl:=⟨_,rfl⟩
 rw [← a5C] at hS7;have qN:∀ k,Old w k→F7 k:=fun k h=>by rw [a5C];exact .inl (j4 k h)
 have aI:=dZ.trans aI (F'':=F7) (fun k h=>by rw [a5C];exact .inl h)
 have iR:∀ k,(S2 k∨k=bl)→F7 k:=fun k h=>by
  rw [a5C]
  rcases h with h|h
  ·exact .inl (eO k h)
  ·exact .inr h
 clear a5C hS;have hS:=hS7;clear hS7;refine eH (H:=[_,_,_,_,_]) hS aI aT ?_;refine dz ?_;refine eI rfl (fun B wB hS=>?_);simp only [aK] at hS
 go_wp2_with (fail)
 refine (a6P _ 2 2 [(o1,n1),(o2,n2)] _ _ (sP.at hS iR) (aP.at hS iR) (a6O f0 f1 f2) (by simp)).mono ?_;rintro e w' ⟨pp,S3,rfl,cY,qk⟩;simp only [sJ];go_step;have hx:=(hx.at hS iR).grow cY;have hy:=(hy.at hS iR).grow cY;have fD:=(fD.at hS iR).grow cY;have qp:=(qp.at hS iR).grow cY;have aT:=aA.fC hS cY.below aI aT;replace hS:=hS.aj iR qN mT cY;obtain⟨F8,mK,aCr,hp8,hO8,hS⟩:=hS;have aI:=dZ.trans aI aCr;replace qk:=qk.cast (a5s _ _ _ _);refine eH (H:=[_,_,_,_,_]) hS aI aT ?_;refine dz ?_;refine mq (fun b8 wB hS=>?_);simp only [aK] at hS;simp only [aD];refine aZ ?_
 (with_reducible refine aJ 6 hS sizeOf51 fun _ hS=>?_)
 refine aX (aA.gA hS.sb aI aT) ?_;refine aM ?_;refine bE ?_;clear aI aT
 go_wp2_with (fail)
 refine kQ 60 [.r 0,.r 2,.r 4,.r 6,.e 1,.e 3,.e 5,.e 7,.e 8,.e 9,.p 10,.p 11,.p 12] [.e 14,.p 15] [] [eU 13 10 51 (.agg #[.bool false,.slice none 0 0])] w _ (by kernel_rfl) (by kernel_rfl) (o8 rfl zeroValue51) hS.drew ?_;obtain⟨aI,aT⟩:=hS.jw
 repeat (with_reducible first|refine kq 1 isAgg53 sizeOf53 ?_|refine kq 5 isAgg51 sizeOf51 ?_|refine kq 2 isAgg53 sizeOf53 ?_|refine kq 4 isAgg51 sizeOf51 ?_)
 refine eI rfl (fun B wB hS=>?_);simp only [aK] at hS
 go_wp2_with (fail)
 refine (rm x a _ S3 (hx.at hS mK) (aP.at hS mK)).mono ?_;rintro e w' ⟨dd,S1,rfl,hq,kz⟩;simp only [];go_step;have hy:=(hy.at hS mK).grow hq;have fD:=(fD.at hS mK).grow hq;have qp:=(qp.at hS mK).grow hq;have qk:=(qk.at hS mK).grow hq;have aT:=aA.fC hS hq.below aI aT;replace hS:=hS.aj mK hO8 hp8 hq;obtain⟨F9,jO,aD9,hp9,xF,hS⟩:=hS;have aI:=dZ.trans aI aD9;refine eH (H:=[_,_,_,_,_,_]) hS aI aT ?_;refine dz ?_;refine eI rfl (fun B wB hS=>?_);simp only [aK] at hS
 go_wp2_with (fail)
 refine (vO dd hh a.den h _ S1 (kz.at hS jO) (qp.at hS jO) (aP.at hS jO) hhz).mono ?_;rintro e w' ⟨o1,S2,rfl,aR,sE⟩;simp only [];go_step;have hy:=(hy.at hS jO).grow aR;have fD:=(fD.at hS jO).grow aR;have qk:=(qk.at hS jO).grow aR;have aT:=aA.fC hS aR.below aI aT;replace hS:=hS.aj jO xF hp9 aR;obtain⟨wD,mU,aSa,a2H,a3U,hS⟩:=hS;have aI:=dZ.trans aI aSa;replace sE:=sE.cast fv.out.symm;refine eH (H:=[_,_,_,_,_,_]) hS aI aT ?_;refine dz ?_;refine eI rfl (fun B wB hS=>?_);simp only [aK] at hS
 go_wp2_with (fail)
 refine (rm y b _ S2 (hy.at hS mU) (aP.at hS mU)).mono ?_;rintro e w' ⟨dd2,S3,rfl,bI,aCV⟩;simp only [];go_step;have fD:=(fD.at hS mU).grow bI;have qk:=(qk.at hS mU).grow bI;have sE:=(sE.at hS mU).grow bI;have aT:=aA.fC hS bI.below aI aT;replace hS:=hS.aj mU a3U a2H bI;obtain⟨F11,qo,aC3,aB6,aEx,hS⟩:=hS;have aI:=dZ.trans aI aC3;refine eH (H:=[_,_,_,_,_,_]) hS aI aT ?_;refine dz ?_;refine eI rfl (fun B wB hS=>?_);simp only [aK] at hS
 go_wp2_with (fail)
 refine (vO dd2 gg b.den g _ S3 (aCV.at hS qo) (fD.at hS qo) (aP.at hS qo) si).mono ?_;rintro e w' ⟨o2,S4,rfl,cY,wM⟩;simp only [];go_step;have qk:=(qk.at hS qo).grow cY;have sE:=(sE.at hS qo).grow cY;have aT:=aA.fC hS cY.below aI aT;replace hS:=hS.aj qo aEx aB6 cY;obtain⟨F12,uI,aTy,lC,a6z,hS⟩:=hS;have aI:=dZ.trans aI aTy;replace wM:=wM.cast fM.out.symm;refine eH (H:=[_,_,_,_,_,_]) hS aI aT ?_;refine dz ?_;refine eI rfl (fun B wB hS=>?_);simp only [aK] at hS
 ((with_reducible refine dV (T:=146) ?_);refine nc (k:=2) (z:=.agg #[.bool false,.slice none 0 0]) (len:=2) hS underlying146 sizeOf51 zeroValue51 (by decide) (by decide) (a5Q _ _ _ _) (fun bl fX hS=>?_);simp only [aD];simp only [aK] at hS)
 have sP:=a52 (b:=bl) (T:=51) hS (by simp) (sE.at hS uI) (wM.at hS uI);have qk:=(qk.at hS uI).weaken (T:=fun k=>S4 k∨k=bl) (fun k h=>.inl h);have aFr:=(lC.step hS a6z uI).add (aA.a3V (H:=(_::_::_::_::_::_::B)) hS a6z);have aT:=aA.a36 hS aI aT;have aFc:=aA.a5b (H:=(_::_::_::_::_::_::B)) hS;obtain⟨F13,a4u⟩:∃ F',F'=fun k=>F12 k∨k=bl:=⟨_,rfl⟩
 rw [← a4u] at aFc;have aEp:∀ k,Old w k→F13 k:=fun k h=>by rw [a4u];exact .inl (a6z k h)
 have aI:=dZ.trans aI (F'':=F13) (fun k h=>by rw [a4u];exact .inl h)
 have ue:∀ k,(S4 k∨k=bl)→F13 k:=fun k h=>by
  rw [a4u]
  rcases h with h|h
  ·exact .inl (uI k h)
  ·exact .inr h
 clear a4u hS;have hS:=aFc;clear aFc;refine eH (H:=[_,_,_,_,_,_]) hS aI aT ?_;refine dz ?_;refine eI rfl (fun B wB hS=>?_);simp only [aK] at hS
 go_wp2_with (fail)
 refine (a6P _ 2 2 [(o1,e1),(o2,e2)] _ _ (sP.at hS ue) (aP.at hS ue) (a6O f0 f3 f4) (by simp)).mono ?_;rintro e w' ⟨qq,S5,rfl,gh,xu⟩;simp only [sJ];go_step;have qk:=(qk.at hS ue).grow gh;have aT:=aA.fC hS gh.below aI aT;replace hS:=hS.aj ue aEp aFr gh;obtain⟨F14,vy,aCt,aCR,aB7,hS⟩:=hS;have aI:=dZ.trans aI aCt;replace xu:=xu.cast (a5s _ _ _ _);refine eH (H:=[_,_,_,_,_,_]) hS aI aT ?_;refine dz ?_;refine mq (fun fo wB hS=>?_);simp only [aK] at hS;simp only [aD];refine aZ ?_
 (with_reducible refine aJ 7 hS sizeOf51 fun _ hS=>?_)
 refine aX (aA.gA hS.sb aI aT) ?_;refine aM ?_;refine bE ?_;clear aI aT
 go_wp2_with (with_reducible first|refine bA 6 hS isAgg51 sizeOf51 ?_|refine bA 7 hS isAgg51 sizeOf51 ?_)
 refine (aEz _ _ (a*b) _ S5 ((qk.at hS vy).cast oW.out.symm) ((xu.at hS vy).cast uy.out.symm) (aP.at hS vy)).mono ?_;rintro e w' ⟨z,S6,rfl,lT,hz⟩;replace hS:=hS.aj vy aB7 aCR lT;obtain⟨F15,yv,-,aDU,a6b,hS⟩:=hS;simp only [iW]
 go_wp2_with (with_reducible refine aJ 3 hS sizeOf53 fun _ hS=>?_)
 exact jJ 3 hS rfl rfl rfl isAgg53 sizeOf53 rfl rfl ⟨z,S6,rfl,aDU.step hS a6b yv,hz.at hS yv⟩
theorem Bq.inv {k:Nat} {q:Rat} (h:Bq k q) (h0:q≠0):Bq k q⁻¹:=by
 constructor
 ·rw [Rat.num_inv,Int.natAbs_mul]
  have:q.num.sign.natAbs≤1:=by
   rcases Int.lt_trichotomy q.num 0 with h|h|h
   ·rw [Int.sign_eq_neg_one_of_neg h];decide
   ·rw [h];decide
   ·rw [Int.sign_eq_one_of_pos h];decide
  have h2:q.num.sign.natAbs*(q.den:Int).natAbs≤1*(q.den:Int).natAbs:=Nat.mul_le_mul_right _ this;simp at h2 ⊢;exact Nat.lt_of_le_of_lt h2 h.2
 ·rw [Rat.den_inv,if_neg (fun h=>h0 (Rat.num_eq_zero.1 h))]
  exact h.1
theorem aG4 (x y:FR) (a b:Rat) (j k:Nat) (w:World) (S:Nat→Prop) (hx:eN w S x a) (hy:eN w S y b) (hL:aP w S) (ha:Bq j a) (hb:Bq k b) (gM:j+k≤16384) (h0:b≠0) :
 Calls prog 180 #[.agg #[.bool x.num.neg,.slice x.num.ad x.num.n x.num.cap,.bool x.less.neg,.slice x.less.ad x.less.n x.less.cap],.agg #[.bool y.num.neg,.slice y.num.ad y.num.n y.num.cap,.bool y.less.neg,.slice y.less.ad y.less.n y.less.cap]] w (yb w S (a / b)):=by
 have oh:b.num≠0:=fun h=>h0 (Rat.num_eq_zero.1 h)
 obtain⟨hS,aC,bC,bD⟩:=eR hL
 go_enter func180,ntmps180
 go_wp2_with (with_reducible first|refine cI hS fun bx cu hS=>?_|refine bH hS zeroValue53 fun br fu hS=>?_)
 refine kQ 60 [.r 0,.p 2,.r 3,.e 1,.e 4,.p 5,.p 6,.p 7] [.e 9,.p 10] [] [eU 8 6 53 (.agg #[.bool false,.slice none 0 0,.bool false,.slice none 0 0])] w _ (by kernel_rfl) (by kernel_rfl) (o8 rfl zeroValue53) hS.drew ?_;obtain⟨aI,aT⟩:=hS.jw
 repeat (with_reducible first|refine kq 2 isAgg53 sizeOf53 ?_|refine py 2 isAgg51 sizeOf51 ?_|refine lF ?_)
 refine eI rfl (fun B wB hS=>?_);simp only [aK] at hS
 go_wp2_with (fail)
 refine (rm y b _ S (hy.at hS aC) (aP.at hS aC)).mono ?_;rintro e w' ⟨dd,S1,rfl,hq,kz⟩;simp only [];go_step;have hx:=(hx.at hS aC).grow hq;have hy:=(hy.at hS aC).grow hq;have aT:=aA.fC hS hq.below aI aT;replace hS:=hS.aj aC bC bD hq;obtain⟨F1,aG,gp,bB,av,hS⟩:=hS;have aI:=dZ.trans aI gp;refine eH (H:=[_,_,_]) hS aI aT ?_;refine dz ?_;refine eI rfl (fun B wB hS=>?_);simp only [aK] at hS
 go_wp2_with (fail)
 refine (aDa dd y.num b.den b.num _ S1 (kz.at hS aG) (hy.num.at hS aG) (aP.at hS aG) oh).mono ?_;rintro e w' ⟨tt,S2,rfl,aR,htt⟩;simp only [iW];go_step;have hx:=(hx.at hS aG).grow aR;have aT:=aA.fC hS aR.below aI aT;replace hS:=hS.aj aG av bB aR;obtain⟨F2,aQ,jV,bR,bP,hS⟩:=hS;have aI:=dZ.trans aI jV;replace htt:=htt.cast (Rat.inv_def b).symm;refine eH (H:=[_,_,_]) hS aI aT ?_;refine dz ?_;refine mq (fun b6 wB hS=>?_);simp only [aK] at hS;simp only [aD];refine aZ ?_
 (with_reducible refine aJ 4 hS sizeOf53 fun _ hS=>?_)
 refine aX (aA.gA hS.sb aI aT) ?_;refine aM ?_;refine bE ?_;clear aI aT
 go_wp2_with (with_reducible first|refine bA 1 hS isAgg53 sizeOf53 ?_|refine bA 4 hS isAgg53 sizeOf53 ?_)
 refine (a1A x tt a b⁻¹ j k _ S2 (hx.at hS aQ) (htt.at hS aQ) (aP.at hS aQ) ha (hb.inv h0) gM).mono ?_;rintro e w' ⟨z,S3,rfl,bI,hz⟩;replace hS:=hS.aj aQ bP bR bI;obtain⟨F3,bM,-,dP,dE,hS⟩:=hS;simp only [iW]
 go_wp2_with (with_reducible refine aJ 3 hS sizeOf53 fun _ hS=>?_)
 exact jJ 3 hS rfl rfl rfl isAgg53 sizeOf53 rfl rfl ⟨z,S3,rfl,dP.step hS dE bM,(hz.at hS bM).cast (Rat.div_def a b).symm⟩
section
variable {P:Program} {ops:Array Oper}
theorem aOX {i1 i2 i3 i4:Nat} {t1 t2 t3 t4:Tmp} {T ty1 ty2 ty3 ty4:TypeId} {z:Value} {p1 p2 p3 p4:String} {a1 a2 a3 a4:Array Edge} (h1:ops[i1]? = some ⟨some t1,.alloc T,ty1,p1,a1,none⟩) (h2:ops[i2]? = some ⟨some t2,.alloc T,ty2,p2,a2,none⟩) (h3:ops[i3]? = some ⟨some t3,.alloc T,ty3,p3,a3,none⟩) (h4:ops[i4]? = some ⟨some t4,.alloc T,ty4,p4,a4,none⟩)
 (hz:∀ w,(zeroValue T).run P w=.ok z w) (hi:[i1,i2,i3,i4].Nodup) (ht:[t1,t2,t3,t4].Nodup):xO P ops [eU i1 t1 T z,eU i2 t2 T z,eU i3 t3 T z,eU i4 t4 T z] :=
 ⟨fun p hp=>by
  simp only [List.mem_cons,List.not_mem_nil,or_false] at hp
  rcases hp with rfl|rfl|rfl|rfl
  ·exact a0B h1 hz
  ·exact a0B h2 hz
  ·exact a0B h3 hz
  ·exact a0B h4 hz,by simpa [eU] using hi,by simpa [eU] using ht⟩
end
theorem Pure.back {w w':World} {S S':Nat→Prop} (h:Pure w S w' S'):Pure w S w' S:=⟨h.below,h.drawn,fun _ h=>h,fun _ h=>.inl h⟩
noncomputable def aCL (w:World) (b:Nat):Nat:=match w.heap[b]? with
 | some (.cells cs _ _)=>a5f w (cs.getD 1 undef)
 | _=>0
theorem aLt {w w0:World} {H:List Chunk} {b:Nat} {x:WI} {z:Int} {T:TypeId} {S:Nat→Prop} (hS:aA w0 w H) (hm:Chunk.aB b (.cells #[.bool x.neg,.slice x.ad x.n x.cap] T (0,0)) ∈ H) (hx:dR w S x z):aCL w b=z.natAbs:=by
 unfold aCL;rw [hS.aB hm];obtain⟨l,h1,h2,h3,h4,h5⟩:=hx;show a5f w (.slice x.ad x.n x.cap)=_;rw [aEF h1,h5]
theorem aBW (a b:Int):-1≤cR a b∧cR a b≤1:=by unfold cR;split <;> (try split) <;> omega
theorem aVl (a b:Int):cR b a = -cR a b:=by unfold cR;split <;> split <;> (try split) <;> (try split) <;> omega
theorem aOO {a b c d:Int} (h:a - b=c - d):cR a b=cR c d:=by unfold cR;split <;> split <;> (try split) <;> (try split) <;> omega
def ub (p q r s:Int):Int:=cR (p*s) (r*q)
theorem aTJ {p q r s:Int} (hq:0<q) (hs:0<s) (bJ:p / q≠r / s):ub p q r s=cR (p / q) (r / s):=by
 have h1:=Int.mul_ediv_add_emod p q;have h2:=Int.mul_ediv_add_emod r s;have h3:=Int.emod_lt_of_pos p hq;have h4:=Int.emod_lt_of_pos r hs;have h5:=Int.emod_nonneg p (show q≠0 by omega);have h6:=Int.emod_nonneg r (show s≠0 by omega);generalize p / q=x at *;generalize r / s=y at *;generalize p % q=m at *;generalize r % s=n at *
 have key:∀ {p q r s x y m n:Int},0<q→0<s→q*x+m=p→s*y+n=r→0≤m→m<q→0≤n→x<y→p*s<r*q:=by
  intro p q r s x y m n hq hs h1 h2 h5 h3 h6 aW;have e1:p+1≤q*(x+1):=by rw [Int.mul_add,Int.mul_one];omega
  have e2:q*(x+1)≤q*y:=Int.mul_le_mul_of_nonneg_left (by omega) (by omega);have e3:(p+1)*s≤(q*y)*s:=Int.mul_le_mul_of_nonneg_right (by omega) (by omega);have e4:(s*y)*q≤r*q:=Int.mul_le_mul_of_nonneg_right (by omega) (by omega);have e5:(q*y)*s=(s*y)*q:=by grind
  rw [Int.add_mul,Int.one_mul] at e3;omega
 unfold ub
 rcases Int.lt_or_gt_of_ne bJ with aW|jK
 ·have:=key hq hs h1 h2 h5 h3 h6 aW
  simp [cR,this,aW]
 ·have:=key hs hq h2 h1 h6 h4 h5 jK
  have h7:¬ p*s<r*q:=by omega
  have h8:¬ x<y:=by omega
  simp [cR,this,jK,h7,h8]
theorem aPU {p q r s:Int} (he:p / q=r / s):ub p q r s=cR ((p % q)*s) ((r % s)*q):=by
 have h1:=Int.mul_ediv_add_emod p q;have h2:=Int.mul_ediv_add_emod r s;unfold ub;apply aOO;rw [he] at h1;generalize r / s=y at *;generalize p % q=m at *;generalize r % s=n at *;subst h1 h2
 grind
theorem aOs {q s m n:Int} (hq:0<q) (hs:0<s) (hm:0≤m) (hn:0≤n) (h0:m=0∨n=0):cR (m*s) (n*q)=cR m 0 - cR n 0:=by
 rcases h0 with rfl|rfl
 ·rw [Int.zero_mul]
  rcases Int.lt_or_eq_of_le hn with h|h
  ·have:=Int.mul_pos h hq
   simp only [cR];rw [if_pos this,if_neg (by omega),if_neg (by omega),if_neg (by omega),if_pos h];rfl
  ·subst h;simp [cR]
 ·rw [Int.zero_mul]
  rcases Int.lt_or_eq_of_le hm with h|h
  ·have:=Int.mul_pos h hs
   simp only [cR];rw [if_neg (by omega),if_pos this,if_neg (by omega),if_pos h];simp
  ·subst h;simp [cR]
theorem aQW (q s m n:Int):cR (m*s) (n*q) = -ub q m s n:=by
 unfold ub;rw [← aVl,Int.mul_comm q n,Int.mul_comm s m]
theorem aQ3 (x y:FR) (a b:Rat) (w:World) (S:Nat→Prop) (hx:eN w S x a) (hy:eN w S y b) (hL:aP w S) :
 Calls prog 102 #[.agg #[.bool x.num.neg,.slice x.num.ad x.num.n x.num.cap,.bool x.less.neg,.slice x.less.ad x.less.n x.less.cap],.agg #[.bool y.num.neg,.slice y.num.ad y.num.n y.num.cap,.bool y.less.neg,.slice y.less.ad y.less.n y.less.cap]] w fun e w'=>e=.returned (.int .i64 (ub a.num a.den b.num b.den))∧Pure w S w' S:=by
 have hdp:=a.den_pos;have hdq:=b.den_pos;obtain⟨G,hG⟩:∃ G,ub a.num a.den b.num b.den=G:=⟨_,rfl⟩;replace hG:=Hd hG;obtain⟨hS,aC,bC,bD⟩:=eR hL;rw [hG.out]
 go_enter func102,ntmps102
 go_wp2_with (with_reducible refine cI hS fun bx cu hS=>?_)
 refine kQ 1000 [.p 0,.r 1,.r 2,.p 4,.r 5,.r 6,.e 3,.e 7] [.e 12,.e 13,.e 14,.e 15] [] [eU 8 5 51 (.agg #[.bool false,.slice none 0 0]),eU 9 6 51 (.agg #[.bool false,.slice none 0 0]),eU 10 7 51 (.agg #[.bool false,.slice none 0 0]),eU 11 8 51 (.agg #[.bool false,.slice none 0 0])] w _ (by kernel_rfl) (by as_aux_lemma=>kernel_rfl) (aOX rfl rfl rfl rfl zeroValue51 (by decide) (by decide)) hS.drew ?_;obtain⟨aI,aT⟩:=hS.jw
 repeat (with_reducible first|refine py 1 isAgg51 sizeOf51 ?_|refine kq 1 isAgg53 sizeOf53 ?_|refine py 2 isAgg51 sizeOf51 ?_|refine kq 2 isAgg53 sizeOf53 ?_|refine lF ?_)
 refine eI rfl (fun B wB hS=>?_);simp only [aK] at hS
 go_wp2_with (fail)
 refine (rm x a _ S (hx.at hS aC) (aP.at hS aC)).mono ?_;rintro e w' ⟨d1,S1,rfl,hq,eo⟩;simp only [];go_step;have hx:=(hx.at hS aC).grow hq;have hy:=(hy.at hS aC).grow hq;have aT:=aA.fC hS hq.below aI aT;replace hS:=hS.aj aC bC bD hq;obtain⟨F1,aG,gp,bB,av,hS⟩:=hS;have aI:=dZ.trans aI gp;refine eH (H:=[_,_]) hS aI aT ?_;refine dz ?_;refine eI rfl (fun B wB hS=>?_);simp only [aK] at hS
 go_wp2_with (fail)
 refine (rm y b _ S1 (hy.at hS aG) (aP.at hS aG)).mono ?_;rintro e w' ⟨d2,S2,rfl,aR,fH⟩;simp only [];go_step;have hx:=(hx.at hS aG).grow aR;have hy:=(hy.at hS aG).grow aR;have eo:=(eo.at hS aG).grow aR;have aT:=aA.fC hS aR.below aI aT;replace hS:=hS.aj aG av bB aR;obtain⟨F2,aQ,jV,bR,bP,hS⟩:=hS;have aI:=dZ.trans aI jV;refine eH (H:=[_,_]) hS aI aT ?_;refine dz ?_;refine aQN (fun b5 b6 b7 b8 wB hS=>?_);simp only [aK] at hS;simp only [aD];refine aZ ?_
 (with_reducible refine aJ 3 hS sizeOf51 fun _ hS=>?_)
 refine aX (aA.gA hS.sb aI aT) ?_;refine aM ?_;refine aZ ?_
 (with_reducible refine aJ 4 hS sizeOf51 fun _ hS=>?_)
 refine aX (aA.gA hS.sb aI aT) ?_;refine aM ?_;refine aZ ?_
 (with_reducible refine aJ 5 hS sizeOf51 fun _ hS=>?_)
 refine aX (aA.gA hS.sb aI aT) ?_;refine aM ?_;refine aZ ?_
 (with_reducible refine aJ 6 hS sizeOf51 fun _ hS=>?_)
 refine aX (aA.gA hS.sb aI aT) ?_;refine aM ?_;refine bE ?_;clear aI aT;have oW:=hx.num;have sz:=hy.num;have hS:=hS.pick [0,3,4,5,6] rfl;simp only [iw] at hS
 go_wp2_with (fail)
 go_loopw [9] (fun v9 wr=>∃ (sg p q r s:Int) (zp zq zr zs:WI) (S1 F:Nat→Prop) (wq:World),(sg=1∨sg = -1)∧v9=.int .i64 sg∧0<q∧0<s∧sg*ub p q r s=G∧aA w wr [.aH F wq,.aB b5 (.cells #[.bool zp.neg,.slice zp.ad zp.n zp.cap] 51 (0,0)),.aB b6 (.cells #[.bool zq.neg,.slice zq.ad zq.n zq.cap] 51 (0,0)),.aB b7 (.cells #[.bool zr.neg,.slice zr.ad zr.n zr.cap] 51 (0,0)),.aB b8 (.cells #[.bool zs.neg,.slice zs.ad zs.n zs.cap] 51 (0,0))]∧(∀ k,S1 k→F k)∧(∀ k,Old w k→F k)∧Pure w S wq S1∧dR wq S1 zp p∧dR wq S1 zq q∧dR wq S1 zr r∧dR wq S1 zs s) (fun _ w=>aCL w b6)
 case atStart=>exact⟨1,a.num,a.den,b.num,b.den,_,_,_,_,S2,F2,_,.inl rfl,rfl,by omega,by omega,by rw [Int.one_mul];exact hG.out,hS,aQ,bP,bR,oW,eo,sz,fH⟩
 case round =>
  clear hS;clear aC bC bD aG av bB aQ bP bR hx hy eo fH oW sz;obtain⟨sg,p,q,r,s,zp,zq,zr,zs,S1,F1,wq,nG,rfl,jz,tp,pW,hS,aG,av,bB,hzp,mo,hzr,iC⟩:=hrel;have hM0:=aLt hS (bW (i:=2) rfl) (mo.at hS aG);replace hM0:=Hd hM0;replace pW:=Hd pW;replace nG:=Hd nG
  go_wp2_with (with_reducible first|refine bA 1 hS isAgg51 sizeOf51 ?_|refine bA 2 hS isAgg51 sizeOf51 ?_)
  refine (aDS zp zq p q _ S1 (hzp.at hS aG) (mo.at hS aG) (aP.at hS aG) (by omega)).mono ?_;rintro e w' ⟨x,rest,S2,rfl,oX,hx,k9⟩;have mo:=(mo.at hS aG).grow oX;have hzr:=(hzr.at hS aG).grow oX;have iC:=(iC.at hS aG).grow oX;replace hS:=hS.aj aG av bB oX;obtain⟨F2,aQ,jV,bR,bP,hS⟩:=hS;simp only []
  go_wp2_with (with_reducible first|refine bH hS zeroValue51 fun bz wbz hS=>?_|refine aJ 5 hS sizeOf51 fun _ hS=>?_|refine aJ 6 hS sizeOf51 fun _ hS=>?_|refine bA 3 hS isAgg51 sizeOf51 ?_|refine bA 4 hS isAgg51 sizeOf51 ?_)
  refine (aDS zr zs r s _ S2 (hzr.at hS aQ) (iC.at hS aQ) (aP.at hS aQ) (by omega)).mono ?_;rintro e w' ⟨y,other,S3,rfl,yS,hy,kF⟩;have mo:=(mo.at hS aQ).grow yS;have iC:=(iC.at hS aQ).grow yS;have hx:=(hx.at hS aQ).grow yS;have k9:=(k9.at hS aQ).grow yS;replace hS:=hS.aj aQ bP bR yS;obtain⟨F3,bM,-,dP,dE,hS⟩:=hS;simp only []
  go_wp2_with (with_reducible first|refine bH hS zeroValue51 fun bz wbz hS=>?_|refine aJ 7 hS sizeOf51 fun _ hS=>?_|refine aJ 8 hS sizeOf51 fun _ hS=>?_|refine bA 5 hS isAgg51 sizeOf51 ?_|refine bA 7 hS isAgg51 sizeOf51 ?_)
  refine (a8M x y (p / q) (r / s) _ S3 (hx.at hS bM) (hy.at hS bM)).mono ?_;rintro e w' ⟨rfl,hqc⟩;have mo:=(mo.at hS bM).grow hqc;have iC:=(iC.at hS bM).grow hqc;have hx:=(hx.at hS bM).grow hqc;have k9:=(k9.at hS bM).grow hqc;have hy:=(hy.at hS bM).grow hqc;have kF:=(kF.at hS bM).grow hqc;replace hS:=hS.aj bM dE dP hqc;obtain⟨F4,bZ,-,gN,gG,hS⟩:=hS;simp only [];obtain⟨c,hc⟩:∃ c,cR (p / q) (r / s)=c:=⟨_,rfl⟩;have vD:=aBW (p / q) (r / s);rw [hc] at vD;rw [hc]
  by_cases iq:c=0
  ·subst iq
   have heq:p / q=r / s:=a4E.1 hc;have wA:=Int.emod_nonneg p (show q≠0 by omega);have oh:=Int.emod_nonneg r (show s≠0 by omega);have hmq:=Int.emod_lt_of_pos p jz;have hns:=Int.emod_lt_of_pos r tp;have a1U:=aPU (q:=q) (s:=s) heq;replace heq:=Hd heq;replace hc:=Hd hc;replace a1U:=Hd a1U;obtain⟨m,hm⟩:∃ m,p % q=m:=⟨_,rfl⟩;obtain⟨n,hn⟩:∃ n,r % s=n:=⟨_,rfl⟩;rw [hm] at wA hmq k9 a1U;rw [hn] at oh hns kF a1U
   by_cases hz:m=0∨n=0
   ·have gq:=aOs jz tp wA oh hz
    obtain⟨ca,vJ⟩:∃ ca,cR m 0=ca:=⟨_,rfl⟩;obtain⟨cb,a1b⟩:∃ cb,cR n 0=cb:=⟨_,rfl⟩
    have bV:ca=0∨cb=0:=by
     rcases hz with h|h
     ·left;rw [← vJ,h];rfl
     ·right;rw [← a1b,h];rfl
    have wC:=aBW m 0;have pD:=aBW n 0;rw [vJ] at wC gq;rw [a1b] at pD gq;have kI:=Hd (show sg*(ca - cb)=G by rw [← gq,← a1U.out];exact pW.out);have nT:IntKind.i64.wrap (ca - cb)=ca - cb:=w6
    have mM:IntKind.i64.wrap (sg*(ca - cb))=sg*(ca - cb):=by
     rcases nG.out with rfl|rfl
     ·exact w6
     ·exact w6
    clear gq
    by_cases a5U:ca=0
    ·have aWQ:(ca == 0)=true:=by simp [a5U]
     clear bV wC pD;replace a5U:=Hd a5U
     go_wp2_with (with_reducible refine bA 6 hS isAgg51 sizeOf51 ?_)
     refine (qu rest m _ S3 (k9.at hS bZ)).mono ?_;rintro e w' ⟨rfl,iZ⟩;have mo:=(mo.at hS bZ).grow iZ;have iC:=(iC.at hS bZ).grow iZ;have k9:=(k9.at hS bZ).grow iZ;have kF:=(kF.at hS bZ).grow iZ;replace hS:=hS.aj bZ gG gN iZ;obtain⟨F5,cG,-,gR,ff,hS⟩:=hS;rw [vJ];simp only [];go_wp2;refine dB [.p 0,.r 1,.r 3,.e 2,.e 4,.p 5,.p 6,.p 7] [] hS fun w1 hS=>?_
     have hC:=hS
     repeat (with_reducible first|refine cz 6 isAgg51 sizeOf51 ?_|refine cz 8 isAgg51 sizeOf51 ?_|refine bU ?_)
     refine aZ ?_
     go_wp2_with (fail)
     refine (qu rest m _ S3 (k9.at hS cG)).mono ?_;rintro e w' ⟨rfl,kh⟩;simp only [];go_step;have kF:=(kF.at hS cG).grow kh;have hC:=hC.below kh.below kh.drawn;replace hS:=hS.aj cG ff gR kh;obtain⟨F6,eO,-,kY,j4,hS⟩:=hS;rw [vJ];refine aX hC ?_;refine aM ?_;refine aZ ?_
     go_wp2_with (fail)
     refine (qu other n _ S3 (kF.at hS eO)).mono ?_;rintro e w' ⟨rfl,ma⟩;simp only [];go_step;have hC:=hC.below ma.below ma.drawn;replace hS:=hS.aj eO j4 kY ma;obtain⟨F7,iR,-,mT,qN,hS⟩:=hS;rw [a1b];refine aX hC ?_;refine aM ?_;refine bE ?_;go_wp2;go_ret;exact⟨jH kI.out,(mT.step hS qN iR).back⟩
    ·have aXA:(ca == 0)=false:=by simpa using a5U
     have aYq:(cb == 0)=true:=by
      rcases bV with h|h
      ·exact absurd h a5U
      ·simp [h]
     go_wp2_with (with_reducible refine bA 6 hS isAgg51 sizeOf51 ?_)
     refine (qu rest m _ S3 (k9.at hS bZ)).mono ?_;rintro e w' ⟨rfl,iZ⟩;have mo:=(mo.at hS bZ).grow iZ;have iC:=(iC.at hS bZ).grow iZ;have k9:=(k9.at hS bZ).grow iZ;have kF:=(kF.at hS bZ).grow iZ;replace hS:=hS.aj bZ gG gN iZ;obtain⟨F5,cG,-,gR,ff,hS⟩:=hS;rw [vJ];simp only []
     go_wp2_with (with_reducible refine bA 8 hS isAgg51 sizeOf51 ?_)
     refine (qu other n _ S3 (kF.at hS cG)).mono ?_;rintro e w' ⟨rfl,iZ⟩;have mo:=(mo.at hS cG).grow iZ;have iC:=(iC.at hS cG).grow iZ;have k9:=(k9.at hS cG).grow iZ;have kF:=(kF.at hS cG).grow iZ;replace hS:=hS.aj cG ff gR iZ;obtain⟨F6,eO,-,kY,j4,hS⟩:=hS;rw [a1b];simp only [];go_wp2;refine dB [.p 0,.r 1,.r 3,.e 2,.e 4,.p 5,.p 6,.p 7] [] hS fun w1 hS=>?_
     have hC:=hS
     repeat (with_reducible first|refine cz 6 isAgg51 sizeOf51 ?_|refine cz 8 isAgg51 sizeOf51 ?_|refine bU ?_)
     refine aZ ?_
     go_wp2_with (fail)
     refine (qu rest m _ S3 (k9.at hS eO)).mono ?_;rintro e w' ⟨rfl,kh⟩;simp only [];go_step;have kF:=(kF.at hS eO).grow kh;have hC:=hC.below kh.below kh.drawn;replace hS:=hS.aj eO j4 kY kh;obtain⟨F7,iR,-,mT,qN,hS⟩:=hS;rw [vJ];refine aX hC ?_;refine aM ?_;refine aZ ?_
     go_wp2_with (fail)
     refine (qu other n _ S3 (kF.at hS iR)).mono ?_;rintro e w' ⟨rfl,ma⟩;simp only [];go_step;have hC:=hC.below ma.below ma.drawn;replace hS:=hS.aj iR qN mT ma;obtain⟨F8,mK,-,hp8,hO8,hS⟩:=hS;rw [a1b];refine aX hC ?_;refine aM ?_;refine bE ?_;go_wp2;go_ret;exact⟨jH kI.out,(hp8.step hS hO8 mK).back⟩
   ·have vJ:cR m 0=1:=by have:¬ m=0:=fun h=>hz (.inl h);unfold cR;rw [if_neg (by omega),if_pos (by omega)]
    have a1b:cR n 0=1:=by have:¬ n=0:=fun h=>hz (.inr h);unfold cR;rw [if_neg (by omega),if_pos (by omega)]
    have jA:IntKind.i64.wrap (-sg) = -sg:=by rcases nG.out with rfl|rfl <;> rfl
    go_wp2_with (with_reducible refine bA 6 hS isAgg51 sizeOf51 ?_)
    refine (qu rest m _ S3 (k9.at hS bZ)).mono ?_;rintro e w' ⟨rfl,iZ⟩;have mo:=(mo.at hS bZ).grow iZ;have iC:=(iC.at hS bZ).grow iZ;have k9:=(k9.at hS bZ).grow iZ;have kF:=(kF.at hS bZ).grow iZ;replace hS:=hS.aj bZ gG gN iZ;obtain⟨F5,cG,-,gR,ff,hS⟩:=hS;rw [vJ];simp only []
    go_wp2_with (with_reducible refine bA 8 hS isAgg51 sizeOf51 ?_)
    refine (qu other n _ S3 (kF.at hS cG)).mono ?_;rintro e w' ⟨rfl,iZ⟩;have mo:=(mo.at hS cG).grow iZ;have iC:=(iC.at hS cG).grow iZ;have k9:=(k9.at hS cG).grow iZ;have kF:=(kF.at hS cG).grow iZ;replace hS:=hS.aj cG ff gR iZ;obtain⟨F6,eO,-,kY,j4,hS⟩:=hS;rw [a1b];simp only [];go_wp2;have hP:=hS.drew.pick [0,4,6,8] rfl;simp only [List.filterMap_cons,List.getElem?_cons_zero,List.getElem?_cons_succ,List.filterMap_nil] at hP;refine a6q [.r 1,.r 2,.r 3,.e 0,.e 4,.e 5,.e 6,.m 7] [7] (fun w'=>aA w w' _) (by kernel_rfl) (by kernel_rfl) hP ?_;have hS:=hS.drew;clear hP
    repeat (with_reducible first|refine cz 1 isAgg51 sizeOf51 ?_|refine cz 2 isAgg51 sizeOf51 ?_|refine cz 3 isAgg51 sizeOf51 ?_)
    refine aZ ?_
    (with_reducible refine bA 2 hS isAgg51 sizeOf51 ?_)
    refine aX (hS.pick [0,4,6,8] rfl) ?_;refine aM ?_;refine aZ ?_
    (with_reducible refine aJ 1 hS sizeOf51 fun _ hS=>?_)
    refine aX (hS.pick [0,4,6,8] rfl) ?_;refine aM ?_;refine aZ ?_
    (with_reducible refine aJ 2 hS sizeOf51 fun _ hS=>?_)
    refine aX (hS.pick [0,4,6,8] rfl) ?_;refine aM ?_;refine aZ ?_
    (with_reducible refine aJ 3 hS sizeOf51 fun _ hS=>?_)
    refine aX (hS.pick [0,4,6,8] rfl) ?_;refine aM ?_;refine dC ?_
    (with_reducible refine aJ 4 hS sizeOf51 fun _ hS=>?_)
    refine dD ?_;refine aM ?_;refine bE ?_;go_wp2;go_roundw
    case rel =>
     have hG3:=pW.out;rw [a1U.out,aQW] at hG3;have e1:¬ m=0:=fun h=>hz (.inl h)
     have e2:¬ n=0:=fun h=>hz (.inr h)
     refine⟨-sg,q,m,s,n,zq,rest,zs,other,S3,F6,_,?_,rfl,by omega,by omega,by rw [Int.neg_mul,← Int.mul_neg];exact hG3,hS.pick [0,1,2,3,4] rfl,eO,j4,kY,mo,k9,iC,kF⟩
     rcases nG.out with h|h <;> omega
    case measure =>
     rw [hM0.out,aLt hS (bW (i:=2) rfl) (k9.at hS eO)];omega
  ·have hcf:(c == 0)=false:=by simpa using iq
   have nT:IntKind.i64.wrap (sg*c)=sg*c:=by
    rcases nG.out with rfl|rfl
    ·exact w6
    ·exact w6
   have kI:=Hd (show sg*c=G by
    rw [← pW.out,aTJ jz tp (fun h=>iq (by rw [← hc];exact a4E.2 h)),hc])
   go_wp2_with (with_reducible first|refine bA 5 hS isAgg51 sizeOf51 ?_|refine bA 7 hS isAgg51 sizeOf51 ?_)
   refine (a8M x y (p / q) (r / s) _ S3 (hx.at hS bZ) (hy.at hS bZ)).mono ?_;rintro e w' ⟨rfl,iZ⟩;replace hS:=hS.aj bZ gG gN iZ;obtain⟨F5,cG,-,gR,ff,hS⟩:=hS;rw [hc];simp only [];go_wp2;go_ret;exact⟨jH kI.out,(gR.step hS ff cG).back⟩
theorem sf {P:Program} {ops:Array Oper} {Q:Exit→Act→World→Prop} {rest:List Oper} {dst:Option Tmp} {op:Op} {ty:TypeId} {pos:String} {ak:Array Edge} {g:Option (Nat × Bool)} {a:Act} {w:World} (hg:Region.wanted ⟨dst,op,ty,pos,ak,g⟩ (yielded ops a.tmps)=false) (h:wpList P ops Q rest (a.put dst undef) w):wpList P ops Q (⟨dst,op,ty,pos,ak,g⟩::rest) a w :=
 wpList_step fun K hK=>by rw [if_neg (by simp [hg])];exact hK _ _ h
section
variable {P:Program} {ops:Array Oper} {Q:Exit→Act→World→Prop} {rest:List Oper} {a:Act} {w w0 wr:World} {H:List Chunk} {dst:Option Tmp} {ty T E:TypeId} {pos:String} {ak:Array Edge} {g:Option (Nat × Bool)} {x ix:Operand} {K:Act→Prop}
theorem wR (h:wpList P ops Q (⟨dst,.index T x ix,ty,pos,ak,g⟩::rest) a w):wpList P ops Q (⟨dst,.index T x ix,ty,pos,ak,g⟩::rest) a w:=h
theorem zT {n i:Nat} {iv:Int} {cs:Array Value} {u:Value} (hu:P.underlying T=some (.array n E)) (hz:∀ w,(sizeOf E).run P w=.ok 1 w) (hg:∀ w,(isAgg E).run P w=.ok false w) (hx:a.eval x=.agg cs) (hi:a.eval ix=.int .i64 iv) (hiv:iv=(i:Int)) (jM:i<n) (hc:cs[i]? = some u) (hk:K (a.put dst u)) :
 oN P ⟨dst,.index T x ix,ty,pos,ak,g⟩ a K:=by
 subst hiv;refine⟨⟨u,fun w'=>?_,hk⟩⟩;generalize a.eval=ρ at hx hi;simp [execOp,hx,hi,Instr.index,asIntOf,go_sem,run_underlying hu,hz,jM,part,hg,hc]
theorem aIp {n i k:Nat} {iv:Int} {cs:Array Value} {us:Array Value} (hu:P.underlying T=some (.array n E)) (hz:∀ w,(sizeOf E).run P w=.ok k w) (hg:∀ w,(isAgg E).run P w=.ok true w) (hx:a.eval x=.agg cs) (hi:a.eval ix=.int .i64 iv) (hiv:iv=(i:Int)) (jM:i<n) (hc:cs.extract (i*k) (i*k+k)=us) (hk:K (a.put dst (.agg us))) :
 oN P ⟨dst,.index T x ix,ty,pos,ak,g⟩ a K:=by
 subst hiv;subst hc;refine⟨⟨_,fun w'=>?_,hk⟩⟩;generalize a.eval=ρ at hx hi;simp [execOp,hx,hi,Instr.index,asIntOf,go_sem,run_underlying hu,hz,jM,part,hg]
end
structure Pt where
 x:Rat
 y:Rat
 deriving DecidableEq
theorem Pt.ext' {p q:Pt} (hx:p.x=q.x) (hy:p.y=q.y):p=q:=by cases p;cases q;simp_all
def Pt.lt (p q:Pt):Prop:=p.x<q.x∨(p.x=q.x∧p.y<q.y)
def Pt.le (p q:Pt):Prop:=p.x<q.x∨(p.x=q.x∧p.y≤q.y)
instance (p q:Pt):Decidable (p.lt q):=by unfold Pt.lt;infer_instance
instance (p q:Pt):Decidable (p.le q):=by unfold Pt.le;infer_instance
theorem Pt.le_refl (p:Pt):p.le p:=by unfold Pt.le;grind
theorem Pt.lt_irrefl (p:Pt):¬ p.lt p:=by unfold Pt.lt;grind
theorem Pt.lt_trans {p q r:Pt}:p.lt q→q.lt r→p.lt r:=by unfold Pt.lt;grind
theorem Pt.le_trans {p q r:Pt}:p.le q→q.le r→p.le r:=by unfold Pt.le;grind
theorem Pt.not_lt {p q:Pt}:¬ p.lt q↔q.le p:=by unfold Pt.lt Pt.le;grind
theorem Pt.le_iff {p q:Pt}:p.le q↔p.lt q∨p=q:=by
 constructor
 ·unfold Pt.lt Pt.le
  intro h
  by_cases e:p.x=q.x∧p.y=q.y
  ·exact .inr (Pt.ext' e.1 e.2)
  ·left;grind
 ·rintro (h|rfl)
  ·unfold Pt.lt at h;unfold Pt.le;grind
  ·exact Pt.le_refl _
theorem Pt.total (p q:Pt):p.lt q∨p=q∨q.lt p:=by
 by_cases h:p.lt q
 ·exact .inl h
 ·rcases Pt.le_iff.1 (Pt.not_lt.1 h) with h|h
  ·exact .inr (.inr h)
  ·exact .inr (.inl h.symm)
theorem Pt.lt_asymm {p q:Pt} (h:p.lt q):¬ q.lt p:=by unfold Pt.lt at *;grind
theorem Pt.le_antisymm {p q:Pt} (h:p.le q) (h':q.le p):p=q:=by
 rcases Pt.le_iff.1 h with h|h
 ·exact absurd h (Pt.not_lt.2 h')
 ·exact h
def bT (a b c:Pt):Rat:=(b.x - a.x)*(c.y - a.y) - (b.y - a.y)*(c.x - a.x)
structure Sg where
 a:Pt
 b:Pt
 deriving DecidableEq
def sj (s:Sg) (p:Pt):Prop:=min s.a.x s.b.x≤p.x∧p.x≤max s.a.x s.b.x∧min s.a.y s.b.y≤p.y∧p.y≤max s.a.y s.b.y
def cj (s:Sg) (p:Pt):Prop:=bT s.a s.b p=0∧sj s p
instance (s:Sg) (p:Pt):Decidable (sj s p):=by unfold sj;infer_instance
instance (s:Sg) (p:Pt):Decidable (cj s p):=by unfold cj;infer_instance
theorem sw (a b:Rat):a≤b∨b≤a:=Rat.le_total
theorem a0f {a b:Rat} (ha:0<a) (hb:0<b):0<a*b:=Rat.mul_pos ha hb
theorem oH {a b:Rat} (ha:0≤a) (hb:0≤b):0≤a*b:=Rat.mul_nonneg ha hb
theorem yE {a b:Rat} (ha:0<a) (h:0<a*b):0<b:=by
 rcases sw b 0 with hb|hb
 ·have:0≤a*(-b):=oH (by grind) (by grind)
  grind
 ·by_cases e:b=0
  ·subst e;simp at h
  ·grind
theorem tW {a b:Rat} (ha:0<a) (h:0≤a*b):0≤b:=by
 rcases sw 0 b with hb|hb
 ·exact hb
 ·by_cases e:b=0
  ·subst e;exact Rat.le_refl
  ·have:0<a*(-b):=a0f ha (by grind)
   grind
theorem aGH {u a b p:Rat} (vm:0≤u) (nY:u≤1) (h:p=a+u*(b - a)):min a b≤p∧p≤max a b:=by
 subst h
 rcases sw a b with bV|bV
 ·have h1:0≤u*(b - a):=oH vm (by grind)
  have h2:0≤(1 - u)*(b - a):=oH (by grind) (by grind)
  constructor <;> grind
 ·have h1:0≤u*(a - b):=oH vm (by grind)
  have h2:0≤(1 - u)*(a - b):=oH (by grind) (by grind)
  constructor <;> grind
theorem a6Y {s:Sg} {p:Pt} {u:Rat} (vm:0≤u) (nY:u≤1) (hx:p.x=s.a.x+u*(s.b.x - s.a.x)) (hy:p.y=s.a.y+u*(s.b.y - s.a.y)):cj s p:=by
 obtain⟨h1,h2⟩:=aGH vm nY hx;obtain⟨h3,h4⟩:=aGH vm nY hy;refine⟨?_,h1,h2,h3,h4⟩;unfold bT;rw [hx,hy]
 grind
theorem aLf {a b p:Rat} (bJ:a≠b) (h1:min a b≤p) (h2:p≤max a b):∃ u:Rat,0≤u∧u≤1∧p=a+u*(b - a):=by
 have hd:b - a≠0:=by grind
 refine⟨(p - a) / (b - a),?_,?_,?_⟩
 ·rcases sw a b with bV|bV
  ·apply tW (a:=b - a) (by grind)
   have:(b - a)*((p - a) / (b - a))=p - a:=by grind
   grind
  ·apply tW (a:=a - b) (by grind)
   have:(a - b)*((p - a) / (b - a))=a - p:=by grind
   grind
 ·rcases sw a b with bV|bV
  ·have h3:0≤1 - (p - a) / (b - a):=by
    apply tW (a:=b - a) (by grind);have:(b - a)*(1 - (p - a) / (b - a))=b - p:=by grind
    grind
   grind
  ·have h3:0≤1 - (p - a) / (b - a):=by
    apply tW (a:=a - b) (by grind);have:(a - b)*(1 - (p - a) / (b - a))=p - b:=by grind
    grind
   grind
 ·grind
theorem a9M {s:Sg} (bJ:s.a≠s.b) {p:Pt} (h:cj s p):∃ u:Rat,0≤u∧u≤1∧p.x=s.a.x+u*(s.b.x - s.a.x)∧p.y=s.a.y+u*(s.b.y - s.a.y):=by
 obtain⟨h0,h1,h2,h3,h4⟩:=h;unfold bT at h0
 by_cases hx:s.a.x=s.b.x
 ·have hy:s.a.y≠s.b.y:=fun e=>bJ (Pt.ext' hx e)
  obtain⟨u,g1,g2,g3⟩:=aLf hy h3 h4;refine⟨u,g1,g2,?_,g3⟩;have:p.x=s.a.x:=by grind
  grind
 ·obtain⟨u,g1,g2,g3⟩:=aLf hx h1 h2
  refine⟨u,g1,g2,g3,?_⟩;rw [g3] at h0;have hd:s.b.x - s.a.x≠0:=by grind
  have:(s.b.x - s.a.x)*(p.y - s.a.y - u*(s.b.y - s.a.y))=0:=by grind
  rcases Rat.mul_eq_zero.1 this with h|h
  ·exact absurd h hd
  ·grind
def fJ (s t:Sg):Rat:=(s.b.x - s.a.x)*(t.b.y - t.a.y) - (s.b.y - s.a.y)*(t.b.x - t.a.x)
def lz (s t:Sg):Pt:=⟨s.a.x+bT t.a t.b s.a / (bT t.a t.b s.a - bT t.a t.b s.b)*(s.b.x - s.a.x),s.a.y+bT t.a t.b s.a / (bT t.a t.b s.a - bT t.a t.b s.b)*(s.b.y - s.a.y)⟩
theorem a0b (s t:Sg):bT t.a t.b s.a - bT t.a t.b s.b=fJ s t:=by unfold bT fJ;grind
def mi (s t:Sg) (p:Pt):Prop:=cj s p∧cj t p∧(fJ s t≠0∨p=s.a∨p=s.b∨p=t.a∨p=t.b)
theorem aWH {s t:Sg} {p:Pt} (h:mi s t p):mi t s p:=by
 obtain⟨h1,h2,h3⟩:=h;refine⟨h2,h1,?_⟩
 rcases h3 with h3|h3|h3|h3|h3
 ·left;unfold fJ at *;grind
 all_goals grind
theorem aFq {s t:Sg} {p:Pt} (hd:fJ s t≠0) (hs:cj s p) (ht:cj t p):p=lz s t:=by
 have bJ:s.a≠s.b:=by intro e;apply hd;unfold fJ;rw [e];grind
 obtain⟨u,h0,h1,hx,hy⟩:=a9M bJ hs;have ha:=ht.1
 have e:bT t.a t.b s.a=u*fJ s t:=by
  unfold bT fJ at *;rw [hx,hy] at ha
  grind
 unfold lz;rw [a0b,e];apply Pt.ext'
 ·simp only;rw [hx];grind
 ·simp only;rw [hy];grind
theorem aJD {a b:Rat} (h:¬ 0<a*b) (hd:a - b≠0):0≤a / (a - b)∧a / (a - b)≤1:=by
 by_cases h0:0<a - b
 ·have e:(a - b)*(a / (a - b))=a:=by grind
  have ha:0≤a:=by
   rcases sw 0 a with h1|h1
   ·exact h1
   ·by_cases e0:a=0
    ·subst e0;exact Rat.le_refl
    ·exact absurd (by have:=a0f (a:=-a) (b:=-b) (by grind) (by grind);grind) h
  have hb:b≤0:=by
   rcases sw b 0 with h1|h1
   ·exact h1
   ·by_cases e0:b=0
    ·subst e0;exact Rat.le_refl
    ·exact absurd (a0f (a:=a) (b:=b) (by grind) (by grind)) h
  refine⟨tW h0 (by grind),?_⟩;have:=tW (b:=1 - a / (a - b)) h0 (by grind)
  grind
 ·have zG:0<b - a:=by grind
  have e:(b - a)*(a / (a - b)) = -a:=by grind
  have ha:a≤0:=by
   rcases sw a 0 with h1|h1
   ·exact h1
   ·by_cases e0:a=0
    ·subst e0;exact Rat.le_refl
    ·exact absurd (a0f (a:=a) (b:=b) (by grind) (by grind)) h
  have hb:0≤b:=by
   rcases sw 0 b with h1|h1
   ·exact h1
   ·by_cases e0:b=0
    ·subst e0;exact Rat.le_refl
    ·exact absurd (by have:=a0f (a:=-a) (b:=-b) (by grind) (by grind);grind) h
  refine⟨tW zG (by grind),?_⟩;have:=tW (b:=1 - a / (a - b)) zG (by grind)
  grind
theorem aFW {a b u:Rat} (h0:0≤u) (h1:u≤1) (h:a=u*(a - b)):¬ 0<a*b:=by
 have e:b = -((1 - u)*(a - b)):=by grind
 intro hp
 have h2:0≤(u*(1 - u))*((a - b)*(a - b)):=oH (oH h0 (by grind)) (by
  rcases sw 0 (a - b) with h3|h3
  ·exact oH h3 h3
  ·have:=oH (a:=-(a - b)) (b:=-(a - b)) (by grind) (by grind);grind)
 have h3:a*b = -((u*(1 - u))*((a - b)*(a - b))):=by
  generalize a - b=d at *;subst h e
  grind
 grind
theorem aS2 {s t:Sg} (hs:s.a≠s.b) (ht:t.a≠t.b) (hd:fJ s t≠0):(¬ 0<bT t.a t.b s.a*bT t.a t.b s.b∧¬ 0<bT s.a s.b t.a*bT s.a s.b t.b)↔(cj s (lz s t)∧cj t (lz s t)):=by
 constructor
 ·rintro⟨h1,h2⟩
  have e:=a0b s t;obtain⟨g1,g2⟩:=aJD h1 (by rw [e];exact hd);have e2:=a0b t s;have fH:fJ t s = -fJ s t:=by unfold fJ;grind
  obtain⟨g3,g4⟩:=aJD h2 (by rw [e2,fH];grind);refine⟨a6Y g1 g2 rfl rfl,a6Y g3 g4 ?_ ?_⟩
  ·unfold lz
   simp only;rw [e,e2,fH];unfold bT fJ at *
   grind
  ·unfold lz
   simp only;rw [e,e2,fH];unfold bT fJ at *
   grind
 ·rintro⟨h1,h2⟩
  obtain⟨u,a0,a1,ax,ay⟩:=a9M hs h1;obtain⟨v,b0,b1,bx,bY⟩:=a9M ht h2;have k1:=h1.1;have k2:=h2.1;generalize lz s t=p at *;refine⟨aFW a0 a1 ?_,aFW b0 b1 ?_⟩
  ·rw [a0b];unfold bT fJ at *;rw [ax,ay] at k2;grind
  ·rw [a0b];unfold bT fJ at *;rw [bx,bY] at k1;grind
end Go.Hp
