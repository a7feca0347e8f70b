/- Texts for the walk of the law: FS FW FX. -/
import Derived.Test.YtihpoboahbpaiaaGreatQ24
set_option maxRecDepth 100000
set_option maxHeartbeats 16000000
set_option linter.unusedVariables false
set_option linter.unusedSimpArgs false
namespace Go.Hp
open Go.Proofs.Tryz
open Go Go.RowKit
def initTo (n k:Nat):List Nat:=List.range k++List.replicate (n - k) 0
theorem initTo_length {n k:Nat} (h:k≤n):(initTo n k).length=n:=by simp [initTo];omega
theorem initTo_set {n k:Nat} (h:k<n):(initTo n k).set k k=initTo n (k+1):=by
 unfold initTo;rw [List.set_append_right _ _ (by simp),List.length_range,Nat.sub_self];have e:n - k=(n - (k+1))+1:=by omega
 rw [e,List.replicate_succ,List.set_cons_zero,List.range_succ,List.append_assoc]
 rfl
theorem initTo_forest (n:Nat):Forest (initTo n n)∧∀ u,u<n→rep (initTo n n) u=u:=by
 have hn:∀ u,u<n→nth 0 (initTo n n) u=u:=fun u hu=>by
  rw [nth_eq _ _ _ (by rw [initTo_length (Nat.le_refl _)];exact hu)];unfold initTo;rw [List.getElem_append_left (by simpa using hu)];simp
 have hF:Forest (initTo n n):=⟨fun u hu=>by rw [initTo_length (Nat.le_refl _)] at hu;rw [hn u hu];exact Nat.le_refl _⟩;exact⟨hF,fun u hu=>rep_root hF (by rw [initTo_length (Nat.le_refl _)];exact hu) (hn u hu)⟩
theorem zs_set (L:List Nat) (i x:Nat):(zs L).set i ((x:Nat):Int)=zs (L.set i x):=by simp [zs]
def endsL (es:List Ed):List (Nat × Nat):=es.map fun e=>(e.a,e.b)
theorem nth_ends {es:List Ed} {k:Nat} (h:k<es.length):nth (0,0) (endsL es) k=((nth ed0 es k).a,(nth ed0 es k).b):=by
 rw [nth_eq _ _ _ (by simp [endsL];exact h),nth_eq _ _ _ h];simp [endsL]
theorem comp_step {E:List (Nat × Nat)} {L:List Nat} {n k a b p q:Nat} (hF:Forest L) (hl:L.length=n) (hr:∀ u,u<n→rep L u=comp E k u) (he:nth (0,0) E k=(a,b)) (ha:a<n) (hb:b<n) (hp:p=max (comp E k a) (comp E k b)) (hq:q=min (comp E k a) (comp E k b)) :
 Forest (L.set p q)∧∀ u,u<n→rep (L.set p q) u=comp E (k+1) u:=by
 have h1:=hr a ha;have h2:=hr b hb;have la:=rep_lt hF (show a<L.length by omega);have lb:=rep_lt hF (show b<L.length by omega);have ra:=(rep_spec hF a (by omega)).2;have rb:=(rep_spec hF b (by omega)).2;have hpl:p<L.length:=by rw [hp,← h1,← h2];omega
 have hql:q<L.length:=by rw [hq,← h1,← h2];omega
 have hpr:nth 0 L p=p:=by
  rw [hp,← h1,← h2]
  rcases Nat.le_total (rep L a) (rep L b) with h|h
  ·rw [Nat.max_eq_right h];exact rb
  ·rw [Nat.max_eq_left h];exact ra
 have hqr:nth 0 L q=q:=by
  rw [hq,← h1,← h2]
  rcases Nat.le_total (rep L a) (rep L b) with h|h
  ·rw [Nat.min_eq_left h];exact ra
  ·rw [Nat.min_eq_right h];exact rb
 obtain⟨hF2,hr2⟩:=rep_join hF hpl hql hpr hqr (by omega);refine⟨hF2,fun u hu=>?_⟩;rw [hr2 u (by omega),hr u hu];show _=if comp E k u=max (comp E k (nth (0,0) E k).1) (comp E k (nth (0,0) E k).2) then min (comp E k (nth (0,0) E k).1) (comp E k (nth (0,0) E k).2) else comp E k u
 rw [he,hp,hq]
end Go.Hp
namespace Go.Proofs
open Go.Proofs.Tryz
open Go.RowKit Go.Hp
theorem components_any (a1 a2 a3 a4:Option Addr) (n1 c1 n2 c2 n c3 n4 c4:Nat) (rs:List ER) (es:List Ed) (w:World) (S:Nat→Prop) (hL:Liv w S) (hsl:SlC w S 5 (.slice a4 n4 c4) es.length (rs.flatMap ec)) (hes:IsEs w S rs es) (hn:n≤65536) (hel:es.length≤400000) (hab:∀ e ∈ es,e.a<n∧e.b<n) :
 Calls Tryz.prog 82 #[.agg #[.slice a1 n1 c1,.slice a2 n2 c2,.slice a3 n c3,.slice a4 n4 c4]] w fun e w'=>∃ g c,e=.returned (.slice (some ⟨g,0,none⟩) n c)∧Heap w w' [.frz (Old w) w,.row (.slice (some ⟨g,0,none⟩) n c) 3 1 n (iv (zs (comps (endsL es) n)))]:=by
 have hn4:n4=es.length:=by obtain⟨h1,a,cap,h2,_⟩:=hsl;cases h2;rfl
 subst hn4;have hsl:=hsl.old;have hS:=Heap.start w
 go_enter func82,ntmps82
 go_wp2_with (first|(with_reducible first|refine bxA (T:=34) (v:=.agg _) hS fun bx wbx hS=>?_|refine ldB 1 hS isAgg31 ?_)|((with_reducible refine g_mks' (T:=22) ?_);refine seq_make_ints (n:=n) (T:=22) (E:=3) hS underlying22 infoI rfl rfl (by omega) (by omega) (fun g wg hS=>?_);simp only [NRM];simp only [NRH] at hS)|(with_reducible first|refine alA hS zeroValue22 fun bo wbo hS=>?_|refine stA (u:=.slice _ _ _) 3 hS sizeOf22 fun _ hS=>?_|refine ldB 3 hS isAgg22 ?_))
 try try simp only [NRG]
 have hrep0:zs (initTo n 0)=List.replicate n 0:=by simp [initTo,zs]
 rw [← hrep0] at hS;clear hrep0
 go_loopw [17] (fun v17 wr=>∃ k:Nat,k≤n∧v17=.int .i64 (k:Int)∧Heap w wr [.frz (Old w) w,.blk bx (.cells #[.slice a1 n1 c1,.slice a2 n2 c2,.slice a3 n c3,.slice a4 es.length c4] 34 (0,0)),.row (.slice (some ⟨g,0,none⟩) n n) 3 1 n (iv (zs (initTo n k))),.blk bo (.cells #[.slice (some ⟨g,0,none⟩) n n] 22 (0,0))]) (fun v17 _=>n - (intOf v17).toNat)
 case atStart=>exact⟨0,by omega,rfl,hS⟩
 case round =>
  clear hS;obtain⟨k,hk,rfl,hS⟩:=hrel
  by_cases hkl:k<n
  ·have hst:(zs (initTo n k)).set k ((k:Nat):Int)=zs (initTo n (k+1)):=by rw [zs_set,initTo_set hkl]
   have hln:=initTo_length hk;replace hst:=Hd hst
   go_wp2_with (with_reducible first|refine ldB 3 hS isAgg22 ?_|refine ixS underlying22 sizeOf3 ?_|refine stR 2 hS sizeOf3 fun _ hS=>?_)
   go_roundw
   case rel=>exact⟨k+1,by omega,by simp,by rw [← hst.out];exact hS⟩
   case measure=>simp [intOf];omega
  ·obtain rfl:n=k:=by omega
   obtain⟨hF,hr⟩:=initTo_forest n;have hl:=initTo_length (Nat.le_refl n);obtain⟨L,hLL⟩:∃ L,initTo n n=L:=⟨_,rfl⟩;rw [hLL] at hF hr hl hS;clear hLL hk hkl;replace hF:=Hd hF;replace hr:=Hd hr;replace hl:=Hd hl
   go_wp2_with (with_reducible first|refine alA hS zeroValue118 fun br wbr hS=>?_|refine stA (u:=.func _ _ _) 4 hS sizeOf118 fun _ hS=>?_|refine ldB 1 hS isAgg32 ?_)
   have hS:=hS.order [0,1,3,4,2] rfl;simp only [NRF] at hS
   try try simp only [NRG]
   go_loopw [29] (fun v29 wr=>∃ (k:Nat) (L:List Nat),k≤es.length∧v29=.int .i64 (k:Int)∧Hid (Forest L)∧Hid (L.length=n)∧Hid (∀ u,u<n→rep L u=comp (endsL es) k u)∧Heap w wr [.frz (Old w) w,.blk bx (.cells #[.slice a1 n1 c1,.slice a2 n2 c2,.slice a3 n c3,.slice a4 es.length c4] 34 (0,0)),.blk bo (.cells #[.slice (some ⟨g,0,none⟩) n n] 22 (0,0)),.blk br (.cells #[.func (.func 127) #[] #[.pointer (some ⟨bo,0,none⟩),.pointer (some ⟨br,0,none⟩)]] 118 (0,0)),.row (.slice (some ⟨g,0,none⟩) n n) 3 1 n (iv (zs L))]) (fun v29 _=>es.length - (intOf v29).toNat)
   case atStart=>exact⟨0,L,by omega,rfl,hF,hl,hr,hS⟩
   case round =>
    clear hS;obtain⟨k,L,hk,rfl,hF,hl,hr,hS⟩:=hrel
    by_cases hkl:k<es.length
    ·have hc:=flat_cell ec_len er0 (show k<rs.length by rw [hes.len];omega)
     have hE:=hes.el k hkl;obtain⟨r,hr2⟩:∃ r,nth er0 rs k=r:=⟨_,rfl⟩;rw [hr2] at hc hE;have hab1:=hab _ (nth_mem ed0 es k hkl);have hend:=nth_ends hkl;rw [← hE.a,← hE.b] at hab1 hend;obtain⟨ha1,hb1⟩:=hab1;obtain⟨x,hx⟩:∃ x,comp (endsL es) k r.a=x:=⟨_,rfl⟩;obtain⟨y,hy⟩:∃ y,comp (endsL es) k r.b=y:=⟨_,rfl⟩;replace hx:=Hd hx;replace hy:=Hd hy;replace hend:=Hd hend;clear hE hr2;have hlL:=hl.out
     go_wp2_with (with_reducible first|refine ixE underlying32 sizeOf101 hsl hc fun bq oq hcellq=>?_|refine ldG hS isAgg101 sizeOf101 ?_|refine alA hS zeroValue101 fun b7 wb7 hS=>?_|refine stA (u:=.agg #[_,_,_,_,_]) 5 hS sizeOf101 fun _ hS=>?_)
     have hS:=hS.order [0,1,5,2,3,4] rfl;simp only [NRF] at hS;refine wp_region_sched2 [.r 0,.p 1,.r 2,.r 4,.p 5,.r 6,.e 3,.e 7,.p 8,.p 9] [] (fun w'=>Heap w w' [.frz (Old w) w,.blk bx (.cells #[.slice a1 n1 c1,.slice a2 n2 c2,.slice a3 n c3,.slice a4 es.length c4] 34 (0,0)),.blk b7 (.cells #[.int .i64 (r.a:Int),.int .i64 (r.b:Int),.slice r.ad r.n r.c,.int .i64 r.dir.x,.int .i64 r.dir.y] 101 (0,0)),.blk bo (.cells #[.slice (some ⟨g,0,none⟩) n n] 22 (0,0)),.blk br (.cells #[.func (.func 127) #[] #[.pointer (some ⟨bo,0,none⟩),.pointer (some ⟨br,0,none⟩)]] 118 (0,0))]) (fun w'=>Heap w w' _) (by kernel_rfl) (by kernel_rfl) hS.drew (fun _ hZ=>Heap.sub hZ (by repeat (first|exact List.Sublist.refl _|apply List.Sublist.cons_cons|apply List.Sublist.cons))) (fun w1 hS=>?_)
     repeat (with_reducible first|refine sldB 4 isAgg118 ?_|refine sldB 2 isAgg3 ?_|refine spL ?_)
     have hxL:rep L r.a=x:=by rw [hr.out r.a ha1];exact hx.out
     have hyL:rep L r.b=y:=by rw [hr.out r.b hb1];exact hy.out
     replace hxL:=Hd hxL;replace hyL:=Hd hyL;refine exL ?_
     go_wp2_with (fail)
     refine (root_any g n n bo br r.a L _ _ hF.out hl.out ha1 (Heap.split (A:=[_,_,_]) hS)).mono ?_;rintro e w' ⟨L1,he,hS1,hF1,hl1,hr1,hn1,hv1⟩;rw [hxL.out] at he;subst he;have hS:=Heap.unsplit (A:=[_,_,_]) hS hS1;simp only [NRH] at hS;replace hF1:=Hd hF1;replace hr1:=Hd hr1;replace hl1:=Hd hl1;clear hS1 hn1 hv1;simp only [];go_step;refine ext_end hS.sb ?_;refine mvs ?_;refine exL ?_
     go_wp2_with (fail)
     refine (root_any g n n bo br r.b L1 _ _ hF1.out (by rw [hl1.out,hl.out]) hb1 (Heap.split (A:=[_,_,_]) hS)).mono ?_;rintro e w' ⟨L2,he,hS1,hF2,hl2,hr2,hn2,hv2⟩;rw [hr1.out r.b (by omega),hyL.out] at he;subst he;have hS:=Heap.unsplit (A:=[_,_,_]) hS hS1;simp only [NRH] at hS;replace hF2:=Hd hF2;replace hr2:=Hd hr2;replace hl2:=Hd hl2;clear hS1 hn2 hv2;simp only [];go_step;refine ext_end hS.sb ?_;refine mvs ?_;refine snL ?_
     have hrc:∀ u,u<n→rep L2 u=comp (endsL es) k u:=fun u hu=>by
      rw [hr2.out u (by rw [hl1.out];omega),hr1.out u (by omega),hr.out u hu]
     have hlc:L2.length=n:=by rw [hl2.out,hl1.out,hl.out]
     have hxn:x<n:=by rw [← hx.out,← hr.out _ ha1];exact hlL ▸ rep_lt hF.out (by omega)
     have hyn:y<n:=by rw [← hy.out,← hr.out _ hb1];exact hlL ▸ rep_lt hF.out (by omega)
     have hstep:=fun p q h1 h2=>comp_step (p:=p) (q:=q) hF2.out hlc hrc hend.out ha1 hb1 h1 h2
     rw [hx.out,hy.out] at hstep;replace hrc:=Hd hrc;replace hlc:=Hd hlc;revert hS
     repeat (rename Heap _ _ _=>hZ;clear hZ)
     repeat (rename CellsAt _ _ _ _=>hZ;clear hZ)
     repeat (rename Below _ _ _=>hZ;clear hZ)
     intro hS;have hst:=hstep (max x y) (min x y) rfl rfl;replace hst:=Hd hst
     have hmm:(zs L2).set (max (x:Int) (y:Int)).toNat (min (x:Int) (y:Int))=zs (L2.set (max x y) (min x y)):=by
      rw [← zs_set];congr 1 <;> omega
     replace hmm:=Hd hmm;clear hstep
     go_wp2_with (with_reducible first|refine ldB 3 hS isAgg22 ?_|refine ixS underlying22 sizeOf3 ?_|refine stR 5 hS sizeOf3 fun _ hS=>?_)
     rw [hmm.out] at hS;go_roundw
     case rel=>exact⟨k+1,L2.set (max x y) (min x y),by omega,by simp,hst.out.1,by show (L2.set (max x y) (min x y)).length=n;rw [List.length_set];exact hlc.out,hst.out.2,hS.sb⟩
     case measure=>simp [intOf];omega
    ·obtain rfl:es.length=k:=by omega
     obtain⟨C,hCC⟩:∃ C,comp (endsL es) es.length=C:=⟨_,rfl⟩;rw [hCC] at hr;have hfin:comps (endsL es) n=(List.range n).map C:=by unfold comps;rw [← hCC];simp [endsL]
     replace hCC:=Hd hCC;replace hfin:=Hd hfin;clear hk hkl
     go_wp2_with (with_reducible refine ldB 2 hS isAgg22 ?_)
     try try simp only [NRG]
     go_loopw [52] (fun v52 wr=>∃ (k:Nat) (L:List Nat),k≤n∧v52=.int .i64 (k:Int)∧Hid (Forest L)∧Hid (L.length=n)∧Hid (∀ u,u<n→rep L u=C u)∧Hid (∀ u,u<k→nth 0 L u=C u)∧Heap w wr [.frz (Old w) w,.blk bx (.cells #[.slice a1 n1 c1,.slice a2 n2 c2,.slice a3 n c3,.slice a4 es.length c4] 34 (0,0)),.blk bo (.cells #[.slice (some ⟨g,0,none⟩) n n] 22 (0,0)),.blk br (.cells #[.func (.func 127) #[] #[.pointer (some ⟨bo,0,none⟩),.pointer (some ⟨br,0,none⟩)]] 118 (0,0)),.row (.slice (some ⟨g,0,none⟩) n n) 3 1 n (iv (zs L))]) (fun v52 _=>n - (intOf v52).toNat)
     case atStart=>exact⟨0,L,by omega,rfl,hF,hl,hr,Hd (fun u hu=>by omega),hS⟩
     case round =>
      clear hS hF hl hr;obtain⟨k,L,hk,rfl,hF,hl,hr,hd,hS⟩:=hrel
      by_cases hkl:k<n
      ·have hlL:=hl.out
       go_wp2_with (with_reducible refine ldB 3 hS isAgg118 ?_)
       refine (root_any g n n bo br k L _ _ hF.out hl.out hkl (Heap.split (A:=[_,_]) hS)).mono ?_;rintro e w' ⟨L1,he,hS1,hF1,hl1,hr1,hn1,hv1⟩;subst he;have hS:=Heap.unsplit (A:=[_,_]) hS hS1;simp only [NRH] at hS;replace hF1:=Hd hF1;have hr2:∀ u,u<n→rep L1 u=C u:=fun u hu=>by rw [hr1 u (by omega),hr.out u hu]
       have hd2:∀ u,u<k+1→nth 0 L1 u=C u:=fun u hu=>by
        by_cases e:u=k
        ·subst e;rw [hv1,hr.out u hkl]
        ·rcases hn1 u (by omega) with h|h
         ·rw [h,hd.out u (by omega)]
         ·rw [h,hr.out u (by omega)]
       have hl2:L1.length=n:=by rw [hl1,hlL]
       replace hr2:=Hd hr2;replace hd2:=Hd hd2;replace hl2:=Hd hl2;clear hS1 hl1 hr1 hn1 hv1;simp only [];go_wp2;go_roundw
       case rel=>exact⟨k+1,L1,by omega,by simp,hF1,hl2,hr2,hd2,hS⟩
       case measure=>simp [intOf];omega
      ·obtain rfl:n=k:=by omega
       have hLf:L=(List.range n).map C:=by
        refine nth_ext 0 (by rw [hl.out];simp) (fun i hi=>?_);rw [hl.out] at hi;rw [hd.out i hi,nth_eq _ _ _ (by simpa using hi)];simp
       replace hLf:=Hd hLf
       go_wp2_with (with_reducible refine ldB 2 hS isAgg22 ?_)
       go_ret;exact⟨g,n,rfl,by rw [hfin.out,← hLf.out];exact hS.sb⟩
end Go.Proofs
namespace Go.Hp
open Go.Proofs.Tryz
open Go Go.RowKit
def sdV (V:List Pt) (es:List Ed) (e x:Nat):Int:=cmpQ (area (nth pt0 V (nth ed0 es e).a) (nth pt0 V (nth ed0 es e).b) (nth pt0 V x)) 0
def xleV (V:List Pt) (u v:Nat):Bool:=decide ((nth pt0 V u).x≤(nth pt0 V v).x)
structure ArrIn (w:World) (S:Nat→Prop) (a3 a4:Option Addr) (n3 c3 n4 c4:Nat) (rs:List ER) (es:List Ed) (prs:List PR) (V:List Pt) (k:Nat):Prop where
 live:Liv w S
 hE:SlC w S 5 (.slice a4 n4 c4) es.length (rs.flatMap ec)
 hEs:IsEs w S rs es
 hV:PL w S (.slice a3 n3 c3) prs V
 ab:∀ e ∈ es,e.a<V.length∧e.b<V.length
 bq:∀ p ∈ V,Bq k p.x∧Bq k p.y
 n3:n3=V.length
 n4:n4=es.length
theorem ArrIn.at {w0 w wr:World} {H:List Chunk} {F S:Nat→Prop} {a3 a4:Option Addr} {n3 c3 n4 c4:Nat} {rs:List ER} {es:List Ed} {prs:List PR} {V:List Pt} {k:Nat} (h:ArrIn wr S a3 a4 n3 c3 n4 c4 rs es prs V k) (hS:Heap w0 w (.frz F wr::H)) (hF:∀ k,S k→F k):ArrIn w S a3 a4 n3 c3 n4 c4 rs es prs V k :=
 ⟨Liv.at hS hF,h.hE.move (hS.keep hF),h.hEs.at hS hF,h.hV.at hS hF,h.ab,h.bq,h.n3,h.n4⟩
theorem ArrIn.move {w wr:World} {S:Nat→Prop} {a3 a4:Option Addr} {n3 c3 n4 c4:Nat} {rs:List ER} {es:List Ed} {prs:List PR} {V:List Pt} {k:Nat} (h:ArrIn wr S a3 a4 n3 c3 n4 c4 rs es prs V k) (hL:Liv w S) (hk:∀ k,S k→w.heap[k]? = wr.heap[k]?):ArrIn w S a3 a4 n3 c3 n4 c4 rs es prs V k :=
 ⟨hL,h.hE.move hk,h.hEs.move hk,⟨h.hV.sl.move hk,h.hV.ps.move hk⟩,h.ab,h.bq,h.n3,h.n4⟩
def pr0:PR:=⟨⟨⟨false,none,0,0⟩,⟨false,none,0,0⟩⟩,⟨⟨false,none,0,0⟩,⟨false,none,0,0⟩⟩⟩
theorem IsF.zero0 (w:World) (S:Nat→Prop):IsF w S ⟨⟨false,none,0,0⟩,⟨false,none,0,0⟩⟩ 0:=by
 refine⟨IsI.zero w S,IsI.zero w S,?_⟩;have h:=Lim_lt (l:=[1]) (by intro x hx;simp at hx;subst hx;rw [WB_eq];decide) (by simp)
 simpa [val] using h
end Go.Hp
namespace Go.Proofs
open Go.Proofs.Tryz
open Go.RowKit Go.Hp
theorem bside_any (bx:Nat) (a1 a2 a3 a4:Option Addr) (n1 c1 n2 c2 n3 c3 n4 c4:Nat) (rs:List ER) (es:List Ed) (prs:List PR) (V:List Pt) (k e x:Nat) (w:World) (S:Nat→Prop) (hb:CellsAt w (Old w) ⟨bx,0,none⟩ [.slice a1 n1 c1,.slice a2 n2 c2,.slice a3 n3 c3,.slice a4 n4 c4]) (hA:ArrIn w S a3 a4 n3 c3 n4 c4 rs es prs V k) (hk:8*k+8≤16384) (he:e<es.length) (hx:x<V.length) (hVl:V.length≤1000000) (hEl:es.length≤1000000) :
 Calls Tryz.prog 129 #[.int .i64 (e:Int),.int .i64 (x:Int),.pointer (some ⟨bx,0,none⟩)] w fun en w'=>en=.returned (.int .i64 (sdV V es e x))∧Pure w S w' S:=by
 have hn3:=hA.n3;have hn4:=hA.n4;subst hn3 hn4;have hL:=hA.live;have hsl:=hA.hE.old;have hps:=hA.hV.sl.old;have hE:=hA.hEs.el e he;have hab:=hA.ab _ (nth_mem ed0 es e he);have hce:=flat_cell ec_len er0 (show e<rs.length by rw [hA.hEs.len];omega);obtain⟨r,hr⟩:∃ r,nth er0 rs e=r:=⟨_,rfl⟩;rw [hr] at hce hE;obtain⟨a,ha⟩:∃ a,(nth ed0 es e).a=a:=⟨_,rfl⟩;obtain⟨b,hbe⟩:∃ b,(nth ed0 es e).b=b:=⟨_,rfl⟩;have hra:r.a=a:=hE.a.trans ha;have hrb:r.b=b:=hE.b.trans hbe;have hres:sdV V es e x=cmpQ (area (nth pt0 V a) (nth pt0 V b) (nth pt0 V x)) 0:=by unfold sdV;rw [ha,hbe]
 rw [hres];rw [ha,hbe] at hab;have hce':((rs.flatMap ec).drop (e*5)).take 5=[.int .i64 (a:Int),.int .i64 (b:Int),.slice r.ad r.n r.c,.int .i64 r.dir.x,.int .i64 r.dir.y]:=by rw [hce,← hra,← hrb];rfl
 have hpl:prs.length=V.length:=hA.hV.ps.len;have cell:=fun i (hi:i<V.length)=>flat_cell pc_len pr0 (show i<prs.length by omega)
 have pt:=fun i (hi:i<V.length)=>hA.hV.ps.el i hi
 have bq:=fun i (hi:i<V.length)=>hA.bq _ (nth_mem pt0 V i hi)
 have ca:=cell a hab.1;have cb:=cell b hab.2;have cx:=cell x hx;have sd:=fun w' hL' p1 p2 p3=>side_any (nth pr0 prs a) (nth pr0 prs b) (nth pr0 prs x) (nth pt0 V a) (nth pt0 V b) (nth pt0 V x) k w' S p1 p2 p3 hL' (bq a hab.1) (bq b hab.2) (bq x hx) hk
 have pa:IsP w S (nth pr0 prs a) (nth pt0 V a):=pt a hab.1;have pb:IsP w S (nth pr0 prs b) (nth pt0 V b):=pt b hab.2;have px:IsP w S (nth pr0 prs x) (nth pt0 V x):=pt x hx;obtain⟨A1,e1⟩:∃ q,nth pr0 prs a=q:=⟨_,rfl⟩;obtain⟨B1,e2⟩:∃ q,nth pr0 prs b=q:=⟨_,rfl⟩;obtain⟨X1,e3⟩:∃ q,nth pr0 prs x=q:=⟨_,rfl⟩;rw [e1] at ca sd pa;rw [e2] at cb sd pb;rw [e3] at cx sd px;obtain⟨R,hR⟩:∃ R,cmpQ (area (nth pt0 V a) (nth pt0 V b) (nth pt0 V x)) 0=R:=⟨_,rfl⟩;rw [hR];rw [hR] at sd;have ha1:=hab.1;have hb1:=hab.2;clear hE hce hr ha hbe hra hrb hres hab cell pt bq e1 e2 e3 hR hpl hA;obtain⟨hS,hF0,hO0,hp0⟩:=st0 hL
 go_enter func129,ntmps129
 go_wp2;refine rg0 [.p 0,.r 1,.p 2,.r 3,.p 4,.p 5,.p 6,.r 7,.p 8,.r 9,.p 10,.r 11,.p 12,.r 13,.p 14,.p 15,.p 16,.r 17,.p 18,.r 19,.p 20,.r 21,.p 22,.p 23,.r 24,.e 25,.p 26,.p 27,.p 28,.p 29,.p 30] [] hS fun w1 hS=>?_
 have hC:=hS
 repeat (first|((with_reducible refine m_read ?_);refine sched_of rfl rfl (stp_loadj (T:=31) 2 isAgg31 rfl hb (by simp) rfl ?_);simp only [NRM])|((with_reducible refine m_read ?_);refine sched_of rfl rfl (stp_loadj (T:=32) 3 isAgg32 rfl hb (by simp) rfl ?_);simp only [NRM])|(with_reducible first|refine sixE underlying32 sizeOf101 hsl hce' fun bq oq hcellq=>?_|refine sixE underlying31 sizeOf56 hps ca fun bq oq hcellq=>?_|refine sixE underlying31 sizeOf56 hps cb fun bq oq hcellq=>?_|refine sixE underlying31 sizeOf56 hps cx fun bq oq hcellq=>?_|refine sld0 isAgg3 ?_|refine sldJ 1 isAgg3 ?_|refine sldG isAgg56 sizeOf56 ?_|refine spL ?_))
 refine exL ?_
 go_wp2_with (fail)
 refine (sd _ (Liv.at hS hF0) (pa.at hS hF0) (pb.at hS hF0) (px.at hS hF0)).mono ?_;rintro e w' ⟨rfl,hq⟩;simp only [];go_step;have hS:=hS.below hq.below hq.drawn;have hC:=hC.below hq.below hq.drawn;refine ext_end hC ?_;refine mvs ?_;refine snL ?_;go_wp2;go_ret;exact⟨rfl,hS.pure S⟩
theorem cmpP_x (a b:Rat):(cmpP ⟨a,0⟩ ⟨b,0⟩≤0)↔a≤b:=by
 have h0:cmpQ (0:Rat) 0=0:=cmpQ_eq.2 rfl;have h1:=@cmpQ_le a b;unfold cmpP;simp only [h0]
 split
 ·exact h1
 ·rename_i h
  have h2:cmpQ a b=0:=by omega
  constructor
  ·intro _;exact h1.1 (by omega)
  ·intro _;omega
theorem bxle_any (bx:Nat) (a1 a2 a3 a4:Option Addr) (n1 c1 n2 c2 n3 c3 n4 c4:Nat) (rs:List ER) (es:List Ed) (prs:List PR) (V:List Pt) (k a b:Nat) (w:World) (S:Nat→Prop) (hb:CellsAt w (Old w) ⟨bx,0,none⟩ [.slice a1 n1 c1,.slice a2 n2 c2,.slice a3 n3 c3,.slice a4 n4 c4]) (hA:ArrIn w S a3 a4 n3 c3 n4 c4 rs es prs V k) (ha:a<V.length) (hbv:b<V.length) (hVl:V.length≤1000000) :
 Calls Tryz.prog 130 #[.int .i64 (a:Int),.int .i64 (b:Int),.pointer (some ⟨bx,0,none⟩)] w fun en w'=>en=.returned (.bool (xleV V a b))∧Pure w S w' S:=by
 have hn3:=hA.n3;subst hn3;have hL:=hA.live;have hps:=hA.hV.sl.old;have hpl:prs.length=V.length:=hA.hV.ps.len;have cell:=fun i (hi:i<V.length)=>flat_cell pc_len pr0 (show i<prs.length by omega)
 have pt:=fun i (hi:i<V.length)=>hA.hV.ps.el i hi
 have ca:=cell a ha;have cb:=cell b hbv;have pa:IsP w S (nth pr0 prs a) (nth pt0 V a):=pt a ha;have pb:IsP w S (nth pr0 prs b) (nth pt0 V b):=pt b hbv;obtain⟨A1,e1⟩:∃ q,nth pr0 prs a=q:=⟨_,rfl⟩;obtain⟨B1,e2⟩:∃ q,nth pr0 prs b=q:=⟨_,rfl⟩;rw [e1] at ca pa;rw [e2] at cb pb;have cm:=fun w' S hL' p1 p2=>pcompare_any ⟨A1.x,⟨⟨false,none,0,0⟩,⟨false,none,0,0⟩⟩⟩ ⟨B1.x,⟨⟨false,none,0,0⟩,⟨false,none,0,0⟩⟩⟩ ⟨(nth pt0 V a).x,0⟩ ⟨(nth pt0 V b).x,0⟩ w' S ⟨p1,IsF.zero0 _ _⟩ ⟨p2,IsF.zero0 _ _⟩ hL'
 have hx:=cmpP_x (nth pt0 V a).x (nth pt0 V b).x;obtain⟨R,hR⟩:∃ R,cmpP ⟨(nth pt0 V a).x,0⟩ ⟨(nth pt0 V b).x,0⟩=R:=⟨_,rfl⟩;rw [hR] at cm hx;have hxd:xleV V a b=decide (R≤0):=by unfold xleV;simp only [hx]
 rw [hxd];have pax:=pa.x;have pbx:=pb.x;clear pa pb hxd hR hx e1 e2 cell pt hpl hA;obtain⟨hS,hF0,hO0,hp0⟩:=st0 hL
 go_enter func130,ntmps130
 go_wp2;refine rg0 [.p 0,.r 1,.p 2,.p 3,.p 4,.r 5,.p 6,.p 7,.r 8,.p 9,.p 10,.p 11,.r 12,.p 13,.e 14,.p 15,.p 16] [] hS fun w1 hS=>?_
 have hC:=hS
 repeat (first|((with_reducible refine m_read ?_);refine sched_of rfl rfl (stp_loadj (T:=31) 2 isAgg31 rfl hb (by simp) rfl ?_);simp only [NRM])|((with_reducible refine sixE underlying31 sizeOf56 hps ca fun bq oq hcellq=>?_);replace hcellq:CellsAt _ _ ⟨bq,oq,none⟩ [.bool A1.x.num.neg,.slice A1.x.num.ad A1.x.num.n A1.x.num.cap,.bool A1.x.less.neg,.slice A1.x.less.ad A1.x.less.n A1.x.less.cap]:=hcellq.part 0 4)|((with_reducible refine sixE underlying31 sizeOf56 hps cb fun bq oq hcellq=>?_);replace hcellq:CellsAt _ _ ⟨bq,oq,none⟩ [.bool B1.x.num.neg,.slice B1.x.num.ad B1.x.num.n B1.x.num.cap,.bool B1.x.less.neg,.slice B1.x.less.ad B1.x.less.n B1.x.less.cap]:=hcellq.part 0 4)|(with_reducible first|refine sldG isAgg54 sizeOf54 ?_|refine spL ?_))
 refine exL ?_
 go_wp2_with (fail)
 refine (cm _ S (Liv.at hS hF0) (pax.at hS hF0) (pbx.at hS hF0)).mono ?_;rintro e w' ⟨rfl,hq⟩;simp only [];go_step;have hS:=hS.below hq.below hq.drawn;have hC:=hC.below hq.below hq.drawn;refine ext_end hC ?_;refine mvs ?_;refine snL ?_;go_wp2;go_ret;exact⟨rfl,hS.pure S⟩
end Go.Proofs
namespace Go.Hp
open Go.Proofs.Tryz
open Go Go.RowKit
def higherV (V:List Pt) (es:List Ed) (e f:Nat):Bool :=
 if (nth ed0 es e).a<(nth ed0 es f).a then decide (sdV V es e (nth ed0 es f).a<0) || (decide (sdV V es e (nth ed0 es f).a=0) && decide (sdV V es e (nth ed0 es f).b<0))
 else decide (0<sdV V es f (nth ed0 es e).a) || (decide (sdV V es f (nth ed0 es e).a=0) && decide (0<sdV V es f (nth ed0 es e).b))
theorem CellsAt.at {w0 w:World} {H:List Chunk} {ad:Addr} {cs:List Value} {w1:World} (h:CellsAt w1 (Old w1) ad cs) (hS:Heap w0 w H) (hm:Chunk.frz (Old w1) w1 ∈ H):CellsAt w (Old w) ad cs:=by
 have h2:=h.later hS hm;refine⟨h2.spot,fun e=>?_,h2.cell⟩;have h3:=h.inS e;exact (hS.ok _ hm _ h3).1
end Go.Hp
namespace Go.Proofs
open Go.Proofs.Tryz
open Go.RowKit Go.Hp
theorem bhigher_any (bx b5:Nat) (a1 a2 a3 a4:Option Addr) (n1 c1 n2 c2 n3 c3 n4 c4:Nat) (rs:List ER) (es:List Ed) (prs:List PR) (V:List Pt) (k e f:Nat) (w:World) (S:Nat→Prop) (hb:CellsAt w (Old w) ⟨bx,0,none⟩ [.slice a1 n1 c1,.slice a2 n2 c2,.slice a3 n3 c3,.slice a4 n4 c4]) (hb5:CellsAt w (Old w) ⟨b5,0,none⟩ [.func (.func 129) #[] #[.pointer (some ⟨bx,0,none⟩)]]) (hA:ArrIn w S a3 a4 n3 c3 n4 c4 rs es prs V k) (hk:8*k+8≤16384) (he:e<es.length) (hf:f<es.length) (hVl:V.length≤1000000) (hEl:es.length≤1000000) :
 Calls Tryz.prog 131 #[.int .i64 (e:Int),.int .i64 (f:Int),.pointer (some ⟨bx,0,none⟩),.pointer (some ⟨b5,0,none⟩)] w fun en w'=>en=.returned (.bool (higherV V es e f))∧Pure w S w' S:=by
 have hn3:=hA.n3;have hn4:=hA.n4;subst hn3 hn4;have hL:=hA.live;have hsl:=hA.hE.old;have hE:=hA.hEs.el e he;have hF:=hA.hEs.el f hf;obtain⟨he1,he2⟩:=hA.ab _ (nth_mem ed0 es e he);obtain⟨hf1,hf2⟩:=hA.ab _ (nth_mem ed0 es f hf);have hce:=flat_cell ec_len er0 (show e<rs.length by rw [hA.hEs.len];omega);have hcf:=flat_cell ec_len er0 (show f<rs.length by rw [hA.hEs.len];omega);obtain⟨r,hr⟩:∃ r,nth er0 rs e=r:=⟨_,rfl⟩;obtain⟨q,hq⟩:∃ q,nth er0 rs f=q:=⟨_,rfl⟩;rw [hr] at hce hE;rw [hq] at hcf hF;have s1:=fun x (hx:x<V.length) w' S (hb:CellsAt w' (Old w') ⟨bx,0,none⟩ [.slice a1 n1 c1,.slice a2 n2 c2,.slice a3 V.length c3,.slice a4 es.length c4]) hA=>bside_any bx a1 a2 a3 a4 n1 c1 n2 c2 V.length c3 es.length c4 rs es prs V k e x w' S hb hA hk he hx hVl hEl
 have s2:=fun x (hx:x<V.length) w' S (hb:CellsAt w' (Old w') ⟨bx,0,none⟩ [.slice a1 n1 c1,.slice a2 n2 c2,.slice a3 V.length c3,.slice a4 es.length c4]) hA=>bside_any bx a1 a2 a3 a4 n1 c1 n2 c2 V.length c3 es.length c4 rs es prs V k f x w' S hb hA hk hf hx hVl hEl
 have u1:=s1 _ hf1;have u2:=s1 _ hf2;have v1:=s2 _ he1;have v2:=s2 _ he2;obtain⟨R,hR⟩:∃ R,higherV V es e f=R:=⟨_,rfl⟩;rw [hR];unfold higherV at hR;rw [← hE.a] at he1 hR v1;rw [← hE.b] at he2 hR v2;rw [← hF.a] at hf1 hR u1;rw [← hF.b] at hf2 hR u2;obtain⟨x1,hx1⟩:∃ x,sdV V es e q.a=x:=⟨_,rfl⟩;obtain⟨x2,hx2⟩:∃ x,sdV V es e q.b=x:=⟨_,rfl⟩;obtain⟨y1,hy1⟩:∃ x,sdV V es f r.a=x:=⟨_,rfl⟩;obtain⟨y2,hy2⟩:∃ x,sdV V es f r.b=x:=⟨_,rfl⟩;rw [hx1] at u1 hR;rw [hx2] at u2 hR;rw [hy1] at v1 hR;rw [hy2] at v2 hR;clear s1 s2 hE hF hr hq hx1 hx2 hy1 hy2;obtain⟨hS,hF0,hO0,hp0⟩:=st0 hL
 go_enter func131,ntmps131
 go_wp2;refine wp_region_box 1 [.p 0,.r 1,.p 2,.p 3,.p 4,.r 5,.p 6,.r 7,.p 8,.p 9,.p 10,.r 11,.p 12,.p 13,.r 14,.p 15,.p 16,.p 17,.r 18,.p 19,.r 20,.p 21,.p 22,.p 23,.r 24,.p 25] [.e 28,.e 29] [] [bxz 26 7 213 (.agg #[.int .i64 0,.int .i64 0]),bxz 27 8 213 (.agg #[.int .i64 0,.int .i64 0])] w _ (by kernel_rfl) (by kernel_rfl) (boxesOk2 rfl zeroValue213 rfl zeroValue213 (by decide) (by decide)) hS.drew ?_;obtain⟨hsC,hkC⟩:=hS.cstart
 repeat (first|((with_reducible refine p_read ?_);refine pre_of rfl rfl (stp_loadj (T:=32) 3 isAgg32 rfl hb (by simp) rfl ?_);simp only [NRM])|((with_reducible refine p_pure ?_);refine pre_any rfl rfl (any_index (T:=32) underlying32 sizeOf101 rfl rfl hsl (by omega) (by omega) (by omega) (fun bq oq hcellq=>?_));simp only [Int.toNat_natCast] at hcellq;rw [hce] at hcellq;simp only [NRM])|((with_reducible refine p_pure ?_);refine pre_any rfl rfl (any_index (T:=32) underlying32 sizeOf101 rfl rfl hsl (by omega) (by omega) (by omega) (fun bq oq hcellq=>?_));simp only [Int.toNat_natCast] at hcellq;rw [hcf] at hcellq;simp only [NRM])|((with_reducible refine p_read ?_);refine pre_of rfl rfl (stp_load (T:=3) isAgg3 rfl (by with_reducible assumption) (by simp) rfl ?_);simp only [NRM])|((with_reducible refine p_read ?_);refine pre_of rfl rfl (stp_loadj (T:=3) 1 isAgg3 rfl (by with_reducible assumption) (by simp) rfl ?_);simp only [NRM])|(with_reducible refine ppL ?_))
 refine pre_nil2 (fun b7 b8 wB hS=>?_);simp only [NRH] at hS;simp only [NRM];refine exL ?_
 (with_reducible refine stA 1 hS sizeOf213 fun _ hS=>?_)
 refine ext_end (Heap.toC hS.sb hsC hkC) ?_;refine mvs ?_;refine exL ?_
 (with_reducible refine stA 2 hS sizeOf213 fun _ hS=>?_)
 refine ext_end (Heap.toC hS.sb hsC hkC) ?_;refine mvs ?_;refine snL ?_;clear hsC hkC hce hcf;have hm:Chunk.frz (Old w) w ∈ [Chunk.frz (Old w) w]:=by simp
 by_cases hab:r.a<q.a
 ·have d1:decide ((r.a:Int)<(q.a:Int))=true:=by simp;omega
  rw [if_pos hab] at hR
  by_cases z1:x1<0
  ·have d2:decide (x1<0)=true:=by simpa using z1
   have hR2:R=true:=by rw [← hR];simp [z1]
   subst hR2;clear hR
   go_wp2_with (first|(with_reducible first|refine ldB 1 hS isAgg3 ?_|refine ldB 2 hS isAgg3 ?_)|((with_reducible refine g_load (T:=27) ?_);refine seq_of hS rfl (stp_loadj (T:=27) 0 isAgg27 rfl hb5 (by simp) rfl ?_);simp only [NRM]))
   refine (u1 _ S (hb.at hS (by simp)) (hA.at hS hF0)).mono ?_;rintro e w5 ⟨rfl,hq⟩;have hS:=hS.below hq.below hq.drawn;simp only [];go_wp2;go_ret;exact⟨rfl,hS.pure S⟩
  ·have d2:decide (x1<0)=false:=by simpa using z1
   by_cases z2:x1=0
   ·have hR2:R=decide (x2<0):=by rw [← hR];simp [z2]
    subst hR2;subst z2;clear hR z1
    go_wp2_with (first|(with_reducible first|refine ldB 1 hS isAgg3 ?_|refine ldB 2 hS isAgg3 ?_)|((with_reducible refine g_load (T:=27) ?_);refine seq_of hS rfl (stp_loadj (T:=27) 0 isAgg27 rfl hb5 (by simp) rfl ?_);simp only [NRM]))
    refine (u1 _ S (hb.at hS (by simp)) (hA.at hS hF0)).mono ?_;rintro e w5 ⟨rfl,hq⟩;have hS:=hS.below hq.below hq.drawn;simp only []
    go_wp2_with (first|(with_reducible refine ldB 2 hS isAgg3 ?_)|((with_reducible refine g_load (T:=27) ?_);refine seq_of hS rfl (stp_loadj (T:=27) 0 isAgg27 rfl hb5 (by simp) rfl ?_);simp only [NRM]))
    refine (u1 _ S (hb.at hS (by simp)) (hA.at hS hF0)).mono ?_;rintro e w5 ⟨rfl,hq⟩;have hS:=hS.below hq.below hq.drawn;simp only []
    go_wp2_with (first|(with_reducible refine ldB 2 hS isAgg3 ?_)|((with_reducible refine g_load (T:=27) ?_);refine seq_of hS rfl (stp_loadj (T:=27) 0 isAgg27 rfl hb5 (by simp) rfl ?_);simp only [NRM]))
    refine (u2 _ S (hb.at hS (by simp)) (hA.at hS hF0)).mono ?_;rintro e w5 ⟨rfl,hq⟩;have hS:=hS.below hq.below hq.drawn;simp only [];go_wp2;go_ret;exact⟨rfl,hS.pure S⟩
   ·have d3:(x1 == 0)=false:=by simpa using z2
    have hR2:R=false:=by rw [← hR];simp [z1,z2]
    subst hR2;clear hR
    go_wp2_with (first|(with_reducible first|refine ldB 1 hS isAgg3 ?_|refine ldB 2 hS isAgg3 ?_)|((with_reducible refine g_load (T:=27) ?_);refine seq_of hS rfl (stp_loadj (T:=27) 0 isAgg27 rfl hb5 (by simp) rfl ?_);simp only [NRM]))
    refine (u1 _ S (hb.at hS (by simp)) (hA.at hS hF0)).mono ?_;rintro e w5 ⟨rfl,hq⟩;have hS:=hS.below hq.below hq.drawn;simp only []
    go_wp2_with (first|(with_reducible refine ldB 2 hS isAgg3 ?_)|((with_reducible refine g_load (T:=27) ?_);refine seq_of hS rfl (stp_loadj (T:=27) 0 isAgg27 rfl hb5 (by simp) rfl ?_);simp only [NRM]))
    refine (u1 _ S (hb.at hS (by simp)) (hA.at hS hF0)).mono ?_;rintro e w5 ⟨rfl,hq⟩;have hS:=hS.below hq.below hq.drawn;simp only [];go_wp2;go_ret;exact⟨rfl,hS.pure S⟩
 ·have d1:decide ((r.a:Int)<(q.a:Int))=false:=by simp;omega
  rw [if_neg hab] at hR
  by_cases z1:0<y1
  ·have d2:decide (0<y1)=true:=by simpa using z1
   have hR2:R=true:=by rw [← hR];simp [z1]
   subst hR2;clear hR
   go_wp2_with (first|(with_reducible first|refine ldB 1 hS isAgg3 ?_|refine ldB 2 hS isAgg3 ?_)|((with_reducible refine g_load (T:=27) ?_);refine seq_of hS rfl (stp_loadj (T:=27) 0 isAgg27 rfl hb5 (by simp) rfl ?_);simp only [NRM]))
   refine (v1 _ S (hb.at hS (by simp)) (hA.at hS hF0)).mono ?_;rintro e w5 ⟨rfl,hq⟩;have hS:=hS.below hq.below hq.drawn;simp only [];go_wp2;go_ret;exact⟨rfl,hS.pure S⟩
  ·have d2:decide (0<y1)=false:=by simpa using z1
   by_cases z2:y1=0
   ·have hR2:R=decide (0<y2):=by rw [← hR];simp [z2]
    subst hR2;subst z2;clear hR z1
    go_wp2_with (first|(with_reducible first|refine ldB 1 hS isAgg3 ?_|refine ldB 2 hS isAgg3 ?_)|((with_reducible refine g_load (T:=27) ?_);refine seq_of hS rfl (stp_loadj (T:=27) 0 isAgg27 rfl hb5 (by simp) rfl ?_);simp only [NRM]))
    refine (v1 _ S (hb.at hS (by simp)) (hA.at hS hF0)).mono ?_;rintro e w5 ⟨rfl,hq⟩;have hS:=hS.below hq.below hq.drawn;simp only []
    go_wp2_with (first|(with_reducible refine ldB 1 hS isAgg3 ?_)|((with_reducible refine g_load (T:=27) ?_);refine seq_of hS rfl (stp_loadj (T:=27) 0 isAgg27 rfl hb5 (by simp) rfl ?_);simp only [NRM]))
    refine (v2 _ S (hb.at hS (by simp)) (hA.at hS hF0)).mono ?_;rintro e w5 ⟨rfl,hq⟩;have hS:=hS.below hq.below hq.drawn;simp only [];go_wp2;go_ret;exact⟨rfl,hS.pure S⟩
   ·have d3:(y1 == 0)=false:=by simpa using z2
    have hR2:R=false:=by rw [← hR];simp [z1,z2]
    subst hR2;clear hR
    go_wp2_with (first|(with_reducible first|refine ldB 1 hS isAgg3 ?_|refine ldB 2 hS isAgg3 ?_)|((with_reducible refine g_load (T:=27) ?_);refine seq_of hS rfl (stp_loadj (T:=27) 0 isAgg27 rfl hb5 (by simp) rfl ?_);simp only [NRM]))
    refine (v1 _ S (hb.at hS (by simp)) (hA.at hS hF0)).mono ?_;rintro e w5 ⟨rfl,hq⟩;have hS:=hS.below hq.below hq.drawn;simp only [];go_wp2;go_ret;exact⟨rfl,hS.pure S⟩
end Go.Proofs
