/- Of E2 E3. -/
import Derived.Test.YtjeofihncbegfaaGreatQ22
set_option maxRecDepth 100000
set_option maxHeartbeats 16000000
set_option linter.unusedVariables false
set_option linter.unusedSimpArgs false
namespace Go.Hp
open Go.Proofs.Tryz
open Go
theorem pc1 (p:PR):∀ v ∈ (pc p).toArray.toList,v.oneCell'=true:=by
 intro v hv;have:=pc_one [p] v (by simpa using hv);exact this
theorem flat_take {α:Type} {f:α→List Value} {k:Nat} (hk:∀ x,(f x).length=k):∀ (l:List α) (i:Nat),(l.flatMap f).take (i*k)=(l.take i).flatMap f
 | [],i=>by simp
 | x::l,0=>by simp
 | x::l,i+1=>by
  have h:=flat_take hk l i;rw [List.flatMap_cons,List.take_succ_cons,List.flatMap_cons,Nat.add_mul,Nat.one_mul,Nat.add_comm,← h,← hk x,List.take_length_add_append]
theorem flat_drop {α:Type} {f:α→List Value} {k:Nat} (hk:∀ x,(f x).length=k):∀ (l:List α) (i:Nat),(l.flatMap f).drop (i*k)=(l.drop i).flatMap f
 | [],i=>by simp
 | x::l,0=>by simp
 | x::l,i+1=>by
  have h:=flat_drop hk l i;rw [List.flatMap_cons,List.drop_succ_cons,Nat.add_mul,Nat.one_mul,Nat.add_comm,← h,← List.drop_drop,← hk x,List.drop_left]
theorem ins_shift {cur D X:List Value} {i n:Nat} (hX:X.length=8) (hD:D.length=(n - i)*8) (hin:i<n) (hc:(n+1)*8≤cur.length) :
 ((((cur.take ((i+1)*8)++D++cur.drop ((i+1)*8+D.length)).take (i*8))++X++(cur.take ((i+1)*8)++D++cur.drop ((i+1)*8+D.length)).drop (i*8+X.length))).take ((n+1)*8)=cur.take (i*8)++X++D:=by
 have h1:(cur.take ((i+1)*8)++D++cur.drop ((i+1)*8+D.length)).take (i*8)=cur.take (i*8):=by
  rw [List.append_assoc,List.take_append_of_le_length (by simp;omega),List.take_take,Nat.min_eq_left (by omega)]
 have h2:(cur.take ((i+1)*8)++D++cur.drop ((i+1)*8+D.length)).drop (i*8+X.length)=D++cur.drop ((i+1)*8+D.length):=by
  rw [List.append_assoc,List.drop_append_of_le_length (by simp;omega),List.drop_of_length_le (by simp;omega),List.nil_append]
 rw [h1,h2,← List.append_assoc,List.take_append_of_le_length (by simp;omega),List.take_of_length_le (by simp;omega)]
theorem ins_grow {arr D X:List Value} {i n:Nat} (hX:X.length=8) (hD:D.length=(n - i)*8) (hin:i<n) (hc:(n+1)*8≤arr.length) :
 ((arr.take (i*8)++X++arr.drop (i*8+X.length)).take ((i+1)*8)++D++(arr.take (i*8)++X++arr.drop (i*8+X.length)).drop ((i+1)*8+D.length)).take ((n+1)*8)=arr.take (i*8)++X++D:=by
 have h1:(arr.take (i*8)++X++arr.drop (i*8+X.length)).take ((i+1)*8)=arr.take (i*8)++X:=by
  rw [List.take_append_of_le_length (by simp;omega),List.take_of_length_le (by simp;omega)]
 rw [h1,List.append_assoc (arr.take (i*8)++X) D,← List.append_assoc (arr.take (i*8)++X) D,List.take_append_of_le_length (by simp;omega),List.take_of_length_le (by simp;omega)]
end Go.Hp
namespace Go.Proofs
open Go.Proofs.Tryz
open Go.RowKit Go.Hp
theorem infoP:(Tryz.prog.info? 65).map (fun i=>(i.zero,i.size,i.bytes))=some (some (.agg #[.bool p0.x.num.neg,.slice p0.x.num.ad p0.x.num.n p0.x.num.cap,.bool p0.x.less.neg,.slice p0.x.less.ad p0.x.less.n p0.x.less.cap,.bool p0.y.num.neg,.slice p0.y.num.ad p0.y.num.n p0.y.num.cap,.bool p0.y.less.neg,.slice p0.y.less.ad p0.y.less.n p0.y.less.cap]),8,128):=by kernel_rfl
theorem sizeP:(Tryz.prog.info? 65).map (·.size)=some 8:=by kernel_rfl
theorem ov_points (w:World) (vb b o m vc lb cb:Nat) (hne:vb≠b) (A B:Array Value) (tA tB:TypeId) (hA:w.heap[vb]? = some (.cells A tA (0,0))) (hB:w.heap[b]? = some (.cells B tB (0,0))) (hB0:B.size≠0) :
 (callFunc 198 #[.slice (some ⟨vb,0,none⟩) m vc,.slice (some ⟨b,o,none⟩) lb cb]).run Tryz.prog w=.ok (.value (.bool false)) w:=by
 rw [run_callFunc_extern func198 (by kernel_rfl) (by kernel_rfl) (by kernel_rfl) (e:=Extern.SlicesOverlaps.overlaps #[25,25] #[4]) (by kernel_rfl),
  Lib.run_overlaps_apart w 25 4 65 underlying25 8 sizeOf65 ⟨vb,0,none⟩ ⟨b,o,none⟩ m vc lb cb hne tA tB A.size B.size (by simp [World.shape?,hA]) (by simp [World.shape?,hB]) hB0 (by simp [World.frozen?,hA]) (by simp [World.frozen?,hA])]
 rfl
theorem insertP_any (ad:Option Addr) (n c i vb:Nat) (prs:List PR) (p:PR) (Tb:TypeId) (w:World) (S:Nat→Prop) (hS:Heap w w [.frz S w,.row (.slice ad n c) 65 8 n (prs.flatMap pc),.blk vb (.cells (pc p).toArray Tb (0,0))]) (hi:i≤n) (hn:n≤100000) :
 Calls Tryz.prog 140 #[.slice ad n c,.int .i64 i,.slice (some ⟨vb,0,none⟩) 1 1] w fun e w'=>∃ ad' c',e=.returned (.slice ad' (n+1) c')∧Heap w w' [.frz S w,.row (.slice ad' (n+1) c') 65 8 (n+1) ((prs.take i++p::prs.drop i).flatMap pc)]:=by
 have hlen:prs.length=n:=by
  have:=(hS.rowSl 1 rfl).1;rw [flat_len pc_len] at this;omega
 have hnc:n≤c:=hS.rowCap 1 rfl
 by_cases hin:i=n
 ·subst hin
  have hres:(prs.take i++p::prs.drop i).flatMap pc=prs.flatMap pc++(pc p).toArray.toList:=by
   rw [List.take_of_length_le (by omega),List.drop_of_length_le (by omega)];simp
  rw [hres];clear hres;replace hS:Heap w w ([.frz S w,.row (.slice ad i c) 65 8 i (prs.flatMap pc)]++[.blk vb (.cells (pc p).toArray Tb (0,0))]):=hS;obtain⟨hl0,ho0⟩:=hS.ok _ (List.mem_of_getElem? (i:=1) rfl)
  rcases ho0 with ⟨h1,h2⟩|⟨g,cap,cur,h1,hb0,hg,hnc2,hcm,hcs,htk⟩
  ·simp only [Value.slice.injEq] at h1
   obtain⟨rfl,rfl,rfl⟩:=h1;clear h2 hl0
   go_enter func140,ntmps140
   go_wp2_with (first|((with_reducible refine g_app ?_);refine seq_append_lit (t:=25) 1 hS underlying25 infoP rfl (by decide) rfl rfl rfl rfl (pc1 p) (by omega) (by unfold maxLen;omega) (fun ad2 cp2 _ hS=>?_)))
   go_ret;exact⟨_,_,rfl,hS⟩
  ·simp only [Value.slice.injEq] at h1
   obtain⟨rfl,-,rfl⟩:=h1;clear hl0 hb0 hg hcs htk hnc2
   by_cases hci:c=i
   ·subst hci
    go_enter func140,ntmps140
    go_wp2_with (first|((with_reducible refine g_app ?_);refine seq_append_lit (t:=25) 1 hS underlying25 infoP rfl (by decide) rfl rfl rfl rfl (pc1 p) (by omega) (by unfold maxLen;omega) (fun ad2 cp2 _ hS=>?_)))
    go_ret;exact⟨_,_,rfl,hS⟩
   ·skip
    go_enter func140,ntmps140
    go_wp2_with (first|((with_reducible refine g_app ?_);refine seq_append_lit (t:=25) 1 hS underlying25 infoP rfl (by decide) rfl rfl rfl rfl (pc1 p) (by omega) (by unfold maxLen;omega) (fun ad2 cp2 _ hS=>?_)))
    go_ret;exact⟨_,_,rfl,hS⟩
 ·obtain⟨g,cur,rfl,hnc2,hcm,hcs,hcl,htk,hS⟩:=hS.openRow 1 rfl (by omega)
  simp only [NRH] at hS;have hif:((i:Int) == (n:Int))=false:=by simp;omega
  have hin2:¬ n=i:=fun h=>hin h.symm
  have hci:¬ c=i:=by omega
  have hc8:c*8=cur.size:=hcs.symm;have hvb:w.heap[vb]? = some (.cells (pc p).toArray Tb (0,0)):=hS.blk (List.mem_of_getElem? (i:=2) rfl);have hgb:w.heap[g]? = some (.cells cur 65 (0,0)):=hS.blk (List.mem_of_getElem? (i:=1) rfl)
  have hne:vb≠g:=by
   have:=List.pairwise_iff_getElem.1 hS.apart 1 2 (by simp) (by simp) (by omega);intro e;subst e;exact absurd rfl (this vb rfl)
  have hov:=fun o lb cb=>ov_points w vb g o 1 1 lb cb hne _ _ _ _ hvb hgb (by omega)
  have hw1:IntKind.i64.wrap ((i:Int)+1)=(i:Int)+1:=w6;have hw2:IntKind.i64.wrap ((n:Int)+1)=(n:Int)+1:=w6;have htn:((i:Int)+1).toNat=i+1:=by omega
  have htn2:((n:Int)+1).toNat=n+1:=by omega
  have hA:(prs.take i).flatMap pc=cur.toList.take (i*8):=by rw [← flat_take pc_len,← htk,List.take_take,Nat.min_eq_left (by omega)]
  have hD:(prs.drop i).flatMap pc=(cur.toList.drop (i*8)).take ((n - i)*8):=by
   rw [← flat_drop pc_len,← htk,List.drop_take];congr 1;omega
  have hDl:((prs.drop i).flatMap pc).length=(n - i)*8:=by rw [flat_len pc_len,List.length_drop,hlen]
  have hres:(prs.take i++p::prs.drop i).flatMap pc=cur.toList.take (i*8)++pc p++(prs.drop i).flatMap pc:=by
   rw [← hA];simp
  rw [hres];clear hres hA;obtain⟨D,hDe⟩:∃ D,(prs.drop i).flatMap pc=D:=⟨_,rfl⟩;have hD1:∀ u ∈ D,u.oneCell'=true:=by rw [← hDe];exact pc_one _
  rw [hDe] at hD hDl ⊢;clear hDe htk hcl;replace hD:=Hd hD;replace hDl:=Hd hDl
  by_cases hroom:n+1≤c
  ·have hrf:decide ((c:Int)<(n:Int)+1)=false:=by simp;omega
   have hci1:¬ c=i+1:=by omega
   have hr2:(n:Int)+1≤(c:Int):=by omega
   clear hvb hgb
   go_enter func140,ntmps140
   go_wp2_with (simp only [hov])
   refine rg0 [.p 0,.p 1,.p 2,.p 3,.p 4,.p 5,.p 6,.p 7,.m 8] [8] hS fun w1 hS=>?_
   repeat (first|((with_reducible refine m_pure ?_);refine sched_any rfl rfl (any_slice_lo (T:=25) (j:=i+1) underlying25 sizeOf65 rfl rfl (by omega) (by omega) (by omega) ?_);simp only [NRM];simp only [Nat.zero_add])|((with_reducible refine m_pure ?_);refine sched_any rfl rfl (any_slice_lo (T:=25) (j:=i) underlying25 sizeOf65 rfl rfl (by omega) (by omega) (by omega) ?_);simp only [NRM];simp only [Nat.zero_add])|(with_reducible refine spL ?_))
   refine muL ?_
   ((with_reducible refine g_cpy ?_);refine seq_copy_k (k:=8) (m:=n - i) (cs:=D) 1 hS underlying25 sizeP rfl rfl rfl (by simp only [Nat.min_def];split <;> omega) hDl.out (cells_of_blk hS (List.mem_of_getElem? (i:=1) rfl) (by rw [hDl.out];exact hD.out)) (by rw [hDl.out];omega) hD1 (fun _ hS=>?_);simp only [NRM];simp only [NRH] at hS)
   refine mut_end ?_;refine snL ?_
   go_wp2_with (first|((with_reducible refine g_slice (T:=25) ?_);refine seq_any rfl (any_slice_lo (T:=25) (j:=i) underlying25 sizeOf65 rfl rfl (by omega) (by omega) (by omega) ?_);simp only [NRM];simp only [Nat.zero_add])|((with_reducible refine g_cpy ?_);refine seq_copy_k (k:=8) (m:=1) (cs:=pc p) 1 hS underlying25 sizeP rfl rfl rfl (by simp only [Nat.min_def];split <;> omega) rfl (cells_of_blk hS (arr:=(pc p).toArray) (Tb:=Tb) (List.mem_of_getElem? (i:=2) rfl) rfl) (by simp [hDl.out,pc_len];omega) (pc1 p) (fun _ hS=>?_);simp only [NRM];simp only [NRH] at hS))
   go_ret;have hS:=(hS.closeRow (c:=c) (n:=n+1) (k:=8) 1 rfl (by simp [hDl.out,pc_len];omega) hroom hcm).pick [0,1] rfl;simp only [List.filterMap_cons,List.getElem?_cons_zero,List.getElem?_cons_succ,List.filterMap_nil,List.set_cons_succ,List.set_cons_zero] at hS;refine⟨_,_,rfl,?_⟩;rw [← ins_shift (pc_len p) hDl.out (by omega) (by simp;omega)]
   simpa using hS
  ·have hrt:decide ((c:Int)<(n:Int)+1)=true:=by simp;omega
   have hw3:IntKind.i64.wrap ((n:Int)+1 - (i:Int))=(n:Int)+1 - (i:Int):=w6;have him:i+(n+1 - i)=n+1:=by omega
   have hic:(i:Int)≤(c:Int):=by omega
   clear hov hvb hgb
   go_enter func140,ntmps140
   go_wp2_with (first|((with_reducible refine g_app ?_);refine seq_append_zeros (m:=n+1 - i) (i:=i) (T:=25) (E:=65) (tn:=3) (k:=8) 1 hS underlying25 underlying3 infoP (by decide) rfl rfl rfl (by omega) (by omega) (by omega) rfl (by omega) (by omega) (by omega) (fun b G arr _ hS harr hG1 hG2 htk2=>?_);rw [him] at hG1 ⊢;simp only [NRM];simp only [NRH] at hS)|((with_reducible refine g_slice (T:=25) ?_);refine seq_any rfl (any_slice_lo (T:=25) (j:=i) underlying25 sizeOf65 rfl rfl (by omega) (by omega) (by omega) ?_);simp only [NRM];simp only [Nat.zero_add])|((with_reducible refine g_cpy ?_);refine seq_copy_k (k:=8) (m:=1) (cs:=pc p) 3 hS underlying25 sizeP rfl rfl rfl (by simp only [Nat.min_def];split <;> omega) rfl (cells_of_blk hS (arr:=(pc p).toArray) (Tb:=Tb) (List.mem_of_getElem? (i:=2) rfl) rfl) (by simp [pc_len];omega) (pc1 p) (fun _ hS=>?_);simp only [NRM];simp only [NRH] at hS))
   refine rg0 [.p 0,.p 1,.p 2,.p 3,.p 4,.p 5,.p 6,.p 7,.m 8] [8] hS fun w1 hS=>?_
   repeat (first|((with_reducible refine m_pure ?_);refine sched_any rfl rfl (any_slice_lo (T:=25) (j:=i+1) underlying25 sizeOf65 rfl rfl (by omega) (by omega) (by omega) ?_);simp only [NRM];simp only [Nat.zero_add])|((with_reducible refine m_pure ?_);refine sched_any rfl rfl (any_slice_lo (T:=25) (j:=i) underlying25 sizeOf65 rfl rfl (by omega) (by omega) (by omega) ?_);simp only [NRM];simp only [Nat.zero_add])|(with_reducible refine spL ?_))
   refine muL ?_
   ((with_reducible refine g_cpy ?_);refine seq_copy_k (k:=8) (m:=n - i) (cs:=D) 3 hS underlying25 sizeP rfl rfl rfl (by simp only [Nat.min_def];split <;> omega) hDl.out (cells_of_blk hS (List.mem_of_getElem? (i:=1) rfl) (by rw [hDl.out];exact hD.out)) (by simp [hDl.out,pc_len];omega) hD1 (fun _ hS=>?_);simp only [NRM];simp only [NRH] at hS)
   refine mut_end ?_;refine snL ?_;go_wp2;go_ret;have hS:=(hS.closeRow (c:=G) (n:=n+1) (k:=8) 3 rfl (by simp [hDl.out,pc_len];omega) hG1 hG2).pick [0,3] rfl;simp only [List.filterMap_cons,List.getElem?_cons_zero,List.getElem?_cons_succ,List.filterMap_nil,List.set_cons_succ,List.set_cons_zero] at hS;refine⟨_,_,rfl,?_⟩;rw [← htk2,← ins_grow (pc_len p) hDl.out (by omega) (by simp;omega)]
   simpa using hS
end Go.Proofs
namespace Go.Hp
open Go.Proofs.Tryz
open Go
theorem nth_ins {α:Type} (d x:α) (l:List α) (i j:Nat) (hi:i≤l.length):nth d (l.take i++x::l.drop i) j=if j<i then nth d l j else if j=i then x else nth d l (j - 1):=by
 unfold nth;simp only [List.getD_eq_getElem?_getD,List.getElem?_append,List.length_take,Nat.min_eq_left hi]
 split
 ·rename_i h;rw [List.getElem?_take,if_pos h]
 ·rename_i h
  split
  ·rename_i h2;subst h2;simp
  ·rename_i h2
   obtain⟨k,rfl⟩:∃ k,j=i+(k+1):=⟨j - i - 1,by omega⟩;rw [show i+(k+1) - i=k+1 by omega,show i+(k+1) - 1=i+k by omega];simp
theorem IsPs.insert {w:World} {S:Nat→Prop} {prs:List PR} {l:List Pt} {p:PR} {q:Pt} (h:IsPs w S prs l) (hp:IsP w S p q) {i:Nat} (hi:i≤l.length):IsPs w S (prs.take i++p::prs.drop i) (l.take i++q::l.drop i):=by
 have hl:=h.len;refine⟨by simp [hl],fun j hj=>?_⟩;simp only [List.length_append,List.length_take,List.length_cons,List.length_drop] at hj;rw [nth_ins _ _ _ _ _ (by omega),nth_ins _ _ _ _ _ hi]
 by_cases h1:j<i
 ·rw [if_pos h1,if_pos h1];exact h.el j (by omega)
 ·rw [if_neg h1,if_neg h1]
  by_cases h2:j=i
  ·rw [if_pos h2,if_pos h2];exact hp
  ·rw [if_neg h2,if_neg h2];exact h.el (j - 1) (by omega)
theorem Stands.sorted {l:List Pt} {q:Pt} {i:Nat} (h:Stands l q i) (hs:l.Pairwise Pt.lt) (hne:¬ (i<l.length∧nth pt0 l i=q)):(l.take i++q::l.drop i).Pairwise Pt.lt:=by
 obtain⟨h1,h2,h3⟩:=h
 have hq:∀ b ∈ l.drop i,q.lt b:=by
  intro b hb;obtain⟨j,hj,rfl⟩:=List.mem_iff_getElem.1 hb;rw [List.getElem_drop];have hjl:i+j<l.length:=by simp at hj;omega
  have e:=nth_eq pt0 l (i+j) hjl;rw [← e]
  rcases Pt.total q (nth pt0 l (i+j)) with h4|h4|h4
  ·exact h4
  ·exfalso
   rcases Nat.eq_zero_or_pos j with h5|h5
   ·subst h5;exact hne ⟨by omega,h4.symm⟩
   ·apply h3 i (Nat.le_refl _) (by omega)
    rw [h4,nth_eq pt0 l i (by omega),e];exact List.pairwise_iff_getElem.1 hs i (i+j) (by omega) hjl (by omega)
  ·exact absurd h4 (h3 (i+j) (by omega) hjl)
 have hlo:∀ a ∈ l.take i,a.lt q:=by
  intro a ha;obtain⟨j,hj,rfl⟩:=List.mem_iff_getElem.1 ha;rw [List.getElem_take];have hjl:j<i:=by simp at hj;omega
  rw [← nth_eq pt0 l j (by omega)];exact h2 j hjl
 refine List.pairwise_append.2 ⟨hs.sublist (List.take_sublist _ _),List.pairwise_cons.2 ⟨hq,hs.sublist (List.drop_sublist _ _)⟩,fun a ha b hb=>?_⟩
 rcases List.mem_cons.1 hb with rfl|hb
 ·exact hlo a ha
 ·exact Pt.lt_trans (hlo a ha) (hq b hb)
theorem mem_ins {l:List Pt} {q x:Pt} {i:Nat}:x ∈ l.take i++q::l.drop i↔x ∈ l∨x=q:=by
 conv=>rhs;rw [← List.take_append_drop i l]
 simp only [List.mem_append,List.mem_cons]
 constructor
 ·rintro (h|h|h)
  ·exact .inl (.inl h)
  ·exact .inr h
  ·exact .inl (.inr h)
 ·rintro ((h|h)|h)
  ·exact .inl h
  ·exact .inr (.inr h)
  ·exact .inr (.inl h)
end Go.Hp
namespace Go.Proofs
open Go.Proofs.Tryz
open Go.RowKit Go.Hp
theorem note_any (bo:Nat) (ad:Option Addr) (n c:Nat) (prs:List PR) (l:List Pt) (p:PR) (q:Pt) (F S:Nat→Prop) (w:World)
 (hS:Heap w w [.frz F w,.blk bo (.cells #[.slice ad n c] 25 (0,0)),.row (.slice ad n c) 65 8 n (prs.flatMap pc)]) (hF:∀ k,S k→F k) (hps:IsPs w S prs l) (hp:IsP w S p q) (hs:l.Pairwise Pt.lt) (hle:l.length≤5000) :
 Calls Tryz.prog 138 #[.agg #[.bool p.x.num.neg,.slice p.x.num.ad p.x.num.n p.x.num.cap,.bool p.x.less.neg,.slice p.x.less.ad p.x.less.n p.x.less.cap,.bool p.y.num.neg,.slice p.y.num.ad p.y.num.n p.y.num.cap,.bool p.y.less.neg,.slice p.y.less.ad p.y.less.n p.y.less.cap],.pointer (some ⟨bo,0,none⟩)] w fun e w'=>e=.returned (.tuple #[])∧∃ ad' n' c' prs' l',Heap w w' [.frz F w,.blk bo (.cells #[.slice ad' n' c'] 25 (0,0)),.row (.slice ad' n' c') 65 8 n' (prs'.flatMap pc)]∧IsPs w' S prs' l'∧l'.Pairwise Pt.lt∧(∀ x,x ∈ l'↔x ∈ l∨x=q)∧l'.length≤l.length+1:=by
 have hn:n=l.length:=by
  have:=(hS.rowSl 2 rfl).1;rw [flat_len pc_len,hps.len] at this;omega
 subst hn
 go_enter func138,ntmps138
 go_wp2_with (with_reducible first|refine bxA hS fun bx wbx hS=>?_|refine ldB 1 hS isAgg25 ?_|refine ldA 3 hS isAgg65 sizeOf65 ?_)
 have hsl:=hS.rowSl 2 rfl;have hmv:∀ k,S k→F k:=hF;refine (bsearchP_any ad l.length c prs l p q _ (fun k=>S k∨(Chunk.row (.slice ad l.length c) 65 8 l.length (prs.flatMap pc)).has k) ⟨hsl.weaken fun k h=>.inr h,(hps.at hS hF).weaken fun k h=>.inl h⟩ ((hp.at hS hF).weaken fun k h=>.inl h) (fun k h=>?_) hs (by omega)).mono ?_
 ·rcases h with h|h
  ·exact (hS.ok (.frz F w) (by simp) k (hF k h)).1
  ·exact Chunk.lt (hS.ok _ (List.mem_of_getElem? (i:=2) rfl)) h
 clear hsl hmv;rintro e w' ⟨⟨i,hst,rfl⟩,hq1⟩;have hS:=hS.below hq1.below hq1.drawn;clear hq1
 by_cases hf:i<l.length∧nth pt0 l i=q
 ·have hd:decide (i<l.length∧nth pt0 l i=q)=true:=by simpa using hf
  rw [hd];clear hd;have hqm:q ∈ l:=by rw [← hf.2];exact nth_mem pt0 l i hf.1
  clear hf;replace hst:=Hd hst;simp only [];go_wp2
  go_end0
  exact⟨rfl,ad,l.length,c,prs,l,hS.sb,hps.at hS hF,hs,fun x=>⟨fun h=>.inl h,fun h=>h.elim id (fun e=>e ▸ hqm)⟩,by omega⟩
 ·have hd:decide (i<l.length∧nth pt0 l i=q)=false:=by simpa using hf
  rw [hd];clear hd;replace hf:=Hd hf;have hil:=hst.1;replace hst:=Hd hst;simp only []
  go_wp2_with (first|(with_reducible first|refine ldB 1 hS isAgg25 ?_|refine ldA 3 hS isAgg65 sizeOf65 ?_)|((with_reducible refine g_bs (T:=25) ?_);refine seq_bs1 (T:=25) (v:=.agg #[.bool _,.slice _ _ _,.bool _,.slice _ _ _,.bool _,.slice _ _ _,.bool _,.slice _ _ _]) hS underlying25 sizeOf65 zeroValue65 rfl rfl rfl (by decide) (by decide) rfl (fun bl wbl hS=>?_);simp only [NRM];simp only [Value.cells] at hS))
  have hS1:=hS.order [0,1,3,2,4] rfl;have hsp:=Heap.split (A:=[.frz F w,.blk bo (.cells #[.slice ad l.length c] 25 (0,0)),.blk bx (.cells (pc p).toArray 65 (0,0))]) (B:=[.row (.slice ad l.length c) 65 8 l.length (prs.flatMap pc),.blk bl (.cells (pc p).toArray 65 (0,0))]) hS1;refine (insertP_any ad l.length c i bl prs p _ _ _ hsp hil (by omega)).mono ?_;rintro e w2 ⟨ad2,c2,rfl,hSt⟩;have hS2:=Heap.unsplit (A:=[.frz F w,.blk bo (.cells #[.slice ad l.length c] 25 (0,0)),.blk bx (.cells (pc p).toArray 65 (0,0))]) (B:=[.row (.slice ad l.length c) 65 8 l.length (prs.flatMap pc),.blk bl (.cells (pc p).toArray 65 (0,0))]) hS1 hSt;clear hS hS1 hsp hSt;have hS:=hS2;clear hS2;simp only [NRH] at hS;simp only []
  go_wp2_with (with_reducible refine stA 1 hS sizeOf25 fun _ hS=>?_)
  go_end0
  exact⟨rfl,ad2,_,c2,_,_,hS.sb,(hps.at hS hF).insert (hp.at hS hF) hil,hst.out.sorted hs hf.out,fun x=>mem_ins,by simp;omega⟩
end Go.Proofs
