/- Of M7 SQ UC FJ FK. -/
import Derived.Test.YtjeofihncbegfaaGreatQ38
set_option maxRecDepth 100000
set_option maxHeartbeats 16000000
set_option linter.unusedVariables false
set_option linter.unusedSimpArgs false
namespace Go.Hp
open Go.Proofs.Tryz
open Go Go.RowKit
theorem fill4p (a b c d e f g h:Value):Instr.fill (fun i=>some (i*2,2)) ((Array.range (4*2)).map ((Value.agg #[.int .i64 0,.int .i64 0]).cells[· % (Value.agg #[.int .i64 0,.int .i64 0]).cells.size]!)) [(0,.agg #[a,b]),(1,.agg #[c,d]),(2,.agg #[e,f]),(3,.agg #[g,h])]=some #[a,b,c,d,e,f,g,h]:=by
 have hh:((Array.range (4*2)).map ((Value.agg #[.int .i64 0,.int .i64 0]).cells[· % (Value.agg #[.int .i64 0,.int .i64 0]).cells.size]!))=#[.int .i64 0,.int .i64 0,.int .i64 0,.int .i64 0,.int .i64 0,.int .i64 0,.int .i64 0,.int .i64 0]:=by
  apply Array.ext';simp [Array.range,List.ofFn_succ,Value.cells]
 rw [hh];simp [Instr.fill,Value.cells]
theorem P3.make_bd {x y d:Int} (hx:x.natAbs<1073741824) (hy:y.natAbs<1073741824) (hd:d.natAbs<1073741824):(P3.make x y d).bd:=by
 unfold P3.make P3.bd
 have e:∀ (s z:Int) (g:Nat),(s = -1∨s=1)→(s*z / (g:Int)).natAbs≤z.natAbs:=by
  intro s z g hs;have h1:=natAbs_ediv_le (s*z) g;have h2:(s*z).natAbs=z.natAbs:=by rcases hs with rfl|rfl <;> simp
  omega
 have hs:(if d<0 then (-1:Int) else 1) = -1∨(if d<0 then (-1:Int) else 1)=1:=by split <;> simp
 refine⟨?_,?_,?_⟩
 ·have:=e _ x (g3 x y d) hs;simp only at this ⊢;omega
 ·have:=e _ y (g3 x y d) hs;simp only at this ⊢;omega
 ·have:=e _ d (g3 x y d) hs;simp only at this ⊢;omega
theorem P3.of_bd {x y:Int} (hx:smC x) (hy:smC y):(P3.of x y).bd:=by
 unfold smC at hx hy;unfold P3.of P3.bd;simp only;omega
end Go.Hp
namespace Go.Proofs
open Go.Proofs.Tryz
open Go.RowKit Go.Hp
def TRes (w:World) (S:Nat→Prop) (M:List Pt) (e:Ending) (w':World):Prop:=∃ (ad:Option Addr) (n c:Nat) (l:List P3) (S':Nat→Prop),e=.returned (.slice ad n c)∧Pure w S w' S'∧SlC w' S' 3 (.slice ad n c) l.length (l.flatMap tc)∧TL l∧(∀ q,q ∈ l.map P3.pt↔q ∈ M)∧l.length≤4
theorem cuts08_any (s t:Sz) (w:World) (S:Nat→Prop) (hL:Liv w S) (hs:s.sm) (ht:t.sm) :
 Calls Tryz.prog 98 #[.agg #[.int .i64 s.a.x,.int .i64 s.a.y,.int .i64 s.b.x,.int .i64 s.b.y],.agg #[.int .i64 t.a.x,.int .i64 t.a.y,.int .i64 t.b.x,.int .i64 t.b.y]] w (TRes w S (cutsL s.sg t.sg)):=by
 have on1:=fun p w hp hd=>on08_any s p w hs hp hd
 have on2:=fun p w hp hd=>on08_any t p w ht hp hd
 obtain⟨M,hM⟩:∃ M,cutsL s.sg t.sg=M:=⟨_,rfl⟩;rw [hM];unfold cutsL at hM;obtain⟨⟨ax,ay⟩,⟨bx,by'⟩⟩:=s;obtain⟨⟨cx,cy⟩,⟨ex,ey⟩⟩:=t;obtain⟨⟨a1,a2⟩,b1,b2⟩:=hs;obtain⟨⟨c1,c2⟩,e1,e2⟩:=ht;simp only at a1 a2 b1 b2 c1 c2 e1 e2;have a1':=a1;have a2':=a2;have b1':=b1;have b2':=b2;have c1':=c1;have c2':=c2;have e1':=e1;have e2':=e2;unfold smC at a1 a2 b1 b2 c1 c2 e1 e2;have w1:IntKind.i64.wrap (bx - ax)=bx - ax:=Go.Hp.w6;have w2:IntKind.i64.wrap (by' - ay)=by' - ay:=Go.Hp.w6
 have w3:IntKind.i64.wrap (ex - cx)=ex - cx:=Go.Hp.w6;have w4:IntKind.i64.wrap (ey - cy)=ey - cy:=Go.Hp.w6;have w5:IntKind.i64.wrap (cx - ax)=cx - ax:=Go.Hp.w6;have w6:IntKind.i64.wrap (cy - ay)=cy - ay:=Go.Hp.w6;have m1:=mul_bdk (a:=bx - ax) (b:=ey - cy) (m:=200) (n:=200) (by omega) (by omega);have m2:=mul_bdk (a:=by' - ay) (b:=ex - cx) (m:=200) (n:=200) (by omega) (by omega);have m3:=mul_bdk (a:=cx - ax) (b:=ey - cy) (m:=200) (n:=200) (by omega) (by omega);have m4:=mul_bdk (a:=cy - ay) (b:=ex - cx) (m:=200) (n:=200) (by omega) (by omega);have w7:IntKind.i64.wrap ((bx - ax)*(ey - cy))=(bx - ax)*(ey - cy):=Go.Hp.w6;have w8:IntKind.i64.wrap ((by' - ay)*(ex - cx))=(by' - ay)*(ex - cx):=Go.Hp.w6;have w9:IntKind.i64.wrap ((cx - ax)*(ey - cy))=(cx - ax)*(ey - cy):=Go.Hp.w6;have w10:IntKind.i64.wrap ((cy - ay)*(ex - cx))=(cy - ay)*(ex - cx):=Go.Hp.w6;obtain⟨d,hd⟩:∃ d,d=(bx - ax)*(ey - cy) - (by' - ay)*(ex - cx):=⟨_,rfl⟩;obtain⟨n,hn⟩:∃ n,n=(cx - ax)*(ey - cy) - (cy - ay)*(ex - cx):=⟨_,rfl⟩;have w11:IntKind.i64.wrap ((bx - ax)*(ey - cy) - (by' - ay)*(ex - cx))=d:=by rw [hd];exact Go.Hp.w6
 have w12:IntKind.i64.wrap ((cx - ax)*(ey - cy) - (cy - ay)*(ex - cx))=n:=by rw [hn];exact Go.Hp.w6
 have bd:d.natAbs≤80000:=by omega
 have bn:n.natAbs≤80000:=by omega
 have k1:=mul_bdk (a:=ax) (b:=d) (m:=100) (n:=80000) (by omega) bd;have k2:=mul_bdk (a:=bx - ax) (b:=n) (m:=200) (n:=80000) (by omega) bn;have k3:=mul_bdk (a:=ay) (b:=d) (m:=100) (n:=80000) (by omega) bd;have k4:=mul_bdk (a:=by' - ay) (b:=n) (m:=200) (n:=80000) (by omega) bn;have w13:IntKind.i64.wrap (ax*d)=ax*d:=Go.Hp.w6;have w14:IntKind.i64.wrap ((bx - ax)*n)=(bx - ax)*n:=Go.Hp.w6;have w15:IntKind.i64.wrap (ay*d)=ay*d:=Go.Hp.w6;have w16:IntKind.i64.wrap ((by' - ay)*n)=(by' - ay)*n:=Go.Hp.w6;have w17:IntKind.i64.wrap (ax*d+(bx - ax)*n)=ax*d+(bx - ax)*n:=Go.Hp.w6;have w18:IntKind.i64.wrap (ay*d+(by' - ay)*n)=ay*d+(by' - ay)*n:=Go.Hp.w6
 by_cases h0:d=0
 ·have hdt:(d == 0)=true:=by simp [h0]
  have hz:det (Sz.sg ⟨⟨ax,ay⟩,⟨bx,by'⟩⟩) (Sz.sg ⟨⟨cx,cy⟩,⟨ex,ey⟩⟩)=0:=(det_zero hd).2 h0;rw [if_neg (by simpa using hz)] at hM;obtain⟨ends,hends⟩:∃ ends:List Gp,ends=[⟨ax,ay⟩,⟨bx,by'⟩,⟨cx,cy⟩,⟨ex,ey⟩]:=⟨_,rfl⟩
  have hsm:∀ g ∈ ends,smC g.x∧smC g.y:=by
   intro g hg;rw [hends] at hg;simp only [List.mem_cons,List.not_mem_nil,or_false] at hg
   rcases hg with rfl|rfl|rfl|rfl
   ·exact⟨a1',a2'⟩
   ·exact⟨b1',b2'⟩
   ·exact⟨c1',c2'⟩
   ·exact⟨e1',e2'⟩
  have hM2:M=(ends.map Gp.pt).filter (fun p=>decide (onS (Sz.sg ⟨⟨ax,ay⟩,⟨bx,by'⟩⟩) p) && decide (onS (Sz.sg ⟨⟨cx,cy⟩,⟨ex,ey⟩⟩) p)):=by
   rw [← hM,hends];simp only [Bool.decide_and]
   rfl
  have hel:ends.length=4:=by rw [hends];rfl
  have hcells:(ends.flatMap gc).toArray=#[.int .i64 ax,.int .i64 ay,.int .i64 bx,.int .i64 by',.int .i64 cx,.int .i64 cy,.int .i64 ex,.int .i64 ey]:=by rw [hends];rfl
  clear hM hz hends k1 k2 k3 k4 bd bn m1 m2 m3 m4 hn a1' a2' b1' b2' c1' c2' e1' e2' a1 a2 b1 b2 c1 c2 e1 e2 w13 w14 w15 w16 w17 w18 w12 w5 w6 w9 w10;subst h0;clear hd;replace hM2:=Hd hM2;replace hcells:=Hd hcells;obtain⟨hS,hF0,hO0,hp0⟩:=st0 hL
  go_enter func98,ntmps98
  repeat ((fail_if_success ((with_reducible refine g_box ?_)));go_step)
  (with_reducible refine bxO (T:=121) (v:=.agg _) hS fun b1 wb1 hS=>?_)
  repeat ((fail_if_success ((with_reducible refine g_box ?_)));go_step)
  (with_reducible refine bxO (T:=121) (v:=.agg _) hS fun b2 wb2 hS=>?_)
  go_wp2_with (first|(with_reducible first|refine ldB 1 hS isAgg3 ?_|refine ldB 2 hS isAgg3 ?_|refine ldK 1 hS isAgg51 sizeOf51 ?_|refine ldK 2 hS isAgg51 sizeOf51 ?_)|((with_reducible refine g_bs (T:=24) ?_);refine seq_buildSlice (k:=2) (z:=.agg #[.int .i64 0,.int .i64 0]) (len:=4) hS underlying24 sizeOf51 zeroValue51 (by decide) (by decide) (fill4p _ _ _ _ _ _ _ _) (fun b13 wb13 hS=>?_);simp only [NRM];simp only [NRH] at hS))
  rw [← hcells.out] at hS
  go_loopw [12,14] (fun v12 v14 wr=>∃ (k:Nat) (F S':Nat→Prop) (wq:World) (ad:Option Addr) (n c:Nat) (l:List P3),k≤4∧v12=.slice ad n c∧v14=.int .i64 (k:Int)∧Heap w wr [.frz F wq,.blk b1 (.cells #[.int .i64 ax,.int .i64 ay,.int .i64 bx,.int .i64 by'] 121 (0,0)),.blk b2 (.cells #[.int .i64 cx,.int .i64 cy,.int .i64 ex,.int .i64 ey] 121 (0,0)),.blk b13 (.cells (ends.flatMap gc).toArray 51 (0,0))]∧(∀ k,S' k→F k)∧(∀ k,Old w k→F k)∧Pure w S wq S'∧SlC wq S' 3 (.slice ad n c) l.length (l.flatMap tc)∧TL l∧Hid (∀ q,q ∈ l.map P3.pt↔q ∈ ((ends.take k).map Gp.pt).filter (fun p=>decide (onS (Sz.sg ⟨⟨ax,ay⟩,⟨bx,by'⟩⟩) p) && decide (onS (Sz.sg ⟨⟨cx,cy⟩,⟨ex,ey⟩⟩) p)))∧l.length≤k) (fun _ v14 _=>4 - (intOf v14).toNat)
  case atStart=>exact⟨0,_,S,_,none,0,0,[],by omega,rfl,rfl,hS,hF0,hO0,hp0,SlC.nil _ _ _,TL.nil,Hd (fun q=>by simp),by simp⟩
  case round =>
   clear hS hF0 hO0 hp0;obtain⟨k,F0,S0,wq,ad,n,c,l,hk,rfl,rfl,hS,hF0,hO0,hp0,hsl,hl,hmem,hlen⟩:=hrel
   by_cases hkl:k<4
   ·obtain⟨g,hg⟩:∃ g,nth g0 ends k=g:=⟨_,rfl⟩
    have hc:=flat_cell gc_len g0 (show k<ends.length by omega);rw [hg] at hc;have hgs:=hsm g (by rw [← hg];exact nth_mem g0 ends k (by omega));have htk:ends.take (k+1)=ends.take k++[g]:=by rw [← hg];exact take_snoc g0 ends k (by omega)
    have h0b:k*2+2≤(ends.flatMap gc).toArray.size:=by rw [List.size_toArray,flat_len gc_len];omega
    have hbd:=P3.of_bd hgs.1 hgs.2;have hok:=P3.of_ok g.x g.y;have hpt:(P3.of g.x g.y).pt=g.pt:=P3.of_pt g.x g.y;have o1:=fun w=>on1 (P3.of g.x g.y) w hbd hok.1
    have o2:=fun w=>on2 (P3.of g.x g.y) w hbd hok.1
    rw [hpt] at o1 o2;have hpa:=fun w' S' hL' hv'=>put08_any ad n c l (P3.of g.x g.y) w' S' hL' hv' hl ⟨hok,hbd⟩ (by omega)
    obtain⟨r1,hr1⟩:∃ r1,decide (onS (Sz.sg ⟨⟨ax,ay⟩,⟨bx,by'⟩⟩) g.pt)=r1:=⟨_,rfl⟩;obtain⟨r2,hr2⟩:∃ r2,decide (onS (Sz.sg ⟨⟨cx,cy⟩,⟨ex,ey⟩⟩) g.pt)=r2:=⟨_,rfl⟩;simp only [hr1] at o1;simp only [hr2] at o2
    have hm2:∀ q,q ∈ ((ends.take (k+1)).map Gp.pt).filter (fun p=>decide (onS (Sz.sg ⟨⟨ax,ay⟩,⟨bx,by'⟩⟩) p) && decide (onS (Sz.sg ⟨⟨cx,cy⟩,⟨ex,ey⟩⟩) p))↔q ∈ l.map P3.pt∨(q=g.pt∧(r1=true∧r2=true)):=by
     intro q;rw [htk,List.map_append,List.filter_append,List.mem_append,← hmem.out q,List.map_cons,List.map_nil,List.mem_filter,List.mem_singleton,Bool.and_eq_true]
     constructor
     ·rintro (h|⟨rfl,h1,h2⟩)
      ·exact .inl h
      ·exact .inr ⟨rfl,by rw [← hr1,← hr2];exact⟨h1,h2⟩⟩
     ·rintro (h|⟨rfl,h1,h2⟩)
      ·exact .inl h
      ·exact .inr ⟨rfl,by rw [hr1,hr2];exact⟨h1,h2⟩⟩
    replace hm2:=Hd hm2;replace hpt:=Hd hpt;clear hg hgs htk hbd hok hr1 hr2 hmem
    go_wp2_with (first|((with_reducible refine g_idx (T:=24) ?_);refine seq_any rfl (any_index_atk (T:=24) underlying24 sizeOf51 rfl rfl (by omega) (by omega) ?_);simp only [NRM];try simp only [Nat.zero_add,Int.toNat_natCast])|((with_reducible refine g_load (T:=51) ?_);refine seq_of hS rfl (stp_loadk_to (T:=51) 3 isAgg51 sizeOf51 rfl rfl h0b hc ?_);simp only [NRM]))
    refine (of05_any g.x g.y _).mono ?_;rintro e w5 ⟨rfl,hq⟩;have hS:=hS.below hq.below hq.drawn;simp only []
    go_wp2_with (with_reducible first|refine alA hS zeroValue152 fun b15 wb15 hS=>?_|refine stA (u:=.agg #[_,_,_]) 4 hS sizeOf152 fun _ hS=>?_|refine ldA 1 hS isAgg121 sizeOf121 ?_|refine ldA 4 hS isAgg152 sizeOf152 ?_)
    refine (o1 _).mono ?_;rintro e w6 ⟨rfl,hq⟩;have hS:=hS.below hq.below hq.drawn;simp only [];cases r1
    ·go_wp2_with (first|((with_reducible refine g_load (T:=121) ?_);refine wpList_unwanted rfl ?_;simp only [NRM])|((with_reducible refine g_load (T:=152) ?_);refine wpList_unwanted rfl ?_;simp only [NRM]))
     go_roundw
     case rel=>exact⟨k+1,F0,S0,wq,ad,n,c,l,by omega,rfl,by simp,hS.sb,hF0,hO0,hp0,hsl,hl,Hd (fun q=>by rw [hm2.out q];simp),by omega⟩
     case measure=>simp [intOf];omega
    ·go_wp2_with (with_reducible first|refine ldA 2 hS isAgg121 sizeOf121 ?_|refine ldA 4 hS isAgg152 sizeOf152 ?_)
     refine (o2 _).mono ?_;rintro e w7 ⟨rfl,hq⟩;have hS:=hS.below hq.below hq.drawn;simp only [];cases r2
     ·go_wp2
      go_roundw
      case rel=>exact⟨k+1,F0,S0,wq,ad,n,c,l,by omega,rfl,by simp,hS.sb,hF0,hO0,hp0,hsl,hl,Hd (fun q=>by rw [hm2.out q];simp),by omega⟩
      case measure=>simp [intOf];omega
     ·go_wp2_with (with_reducible refine ldA 4 hS isAgg152 sizeOf152 ?_)
      refine (hpa _ S0 (Liv.at hS hF0) (hsl.at hS hF0)).mono ?_;rintro e w8 ⟨ad2,n2,c2,l2,S2,rfl,hq2,hsl2,hl2,hm3,hlen2⟩;replace hS:=hS.pcl hF0 hO0 hp0 hq2;obtain⟨F1,hF1,-,hp1,hO1,hS⟩:=hS;simp only []
      have hm4:∀ q,q ∈ l2.map P3.pt↔q ∈ l.map P3.pt∨q=g.pt:=by
       intro q;rw [← hpt.out];simp only [List.mem_map]
       constructor
       ·rintro⟨x,hx,rfl⟩
        rcases (hm3 x).1 hx with h|rfl
        ·exact .inl ⟨x,h,rfl⟩
        ·exact .inr rfl
       ·rintro (⟨x,hx,rfl⟩|rfl)
        ·exact⟨x,(hm3 x).2 (.inl hx),rfl⟩
        ·exact⟨_,(hm3 _).2 (.inr rfl),rfl⟩
      replace hm4:=Hd hm4;clear hm3;go_wp2;go_roundw
      case rel=>exact⟨k+1,F1,S2,_,ad2,n2,c2,l2,by omega,rfl,by simp,hS.sb,hF1,hO1,hp1,hsl2,hl2,Hd (fun q=>by rw [hm2.out q,hm4.out q];simp),by omega⟩
      case measure=>simp [intOf];omega
   ·obtain rfl:k=4:=by omega
    go_wp2;go_ret;exact⟨ad,n,c,l,S0,rfl,hp0.step hS hO0 hF0,hsl.at hS hF0,hl,fun q=>by rw [hM2.out,hmem.out q,List.take_of_length_le (by omega)],hlen⟩
 ·have hdf:(d == 0)=false:=by simp [h0]
  have mk:=fun w=>make05_any (ax*d+(bx - ax)*n) (ay*d+(by' - ay)*n) d w (by omega) (by omega) (by omega) h0
  have hcm:=crossing_make (ax:=ax) (ay:=ay) (bx:=bx) (by':=by') (cx:=cx) (cy:=cy) (ex:=ex) (ey:=ey) hd hn h0;have hok:=(P3.make_ok (x:=ax*d+(bx - ax)*n) (y:=ay*d+(by' - ay)*n) h0).1;have hbd:=P3.make_bd (x:=ax*d+(bx - ax)*n) (y:=ay*d+(by' - ay)*n) (d:=d) (by omega) (by omega) (by omega);obtain⟨Q,hQ⟩:∃ Q,P3.make (ax*d+(bx - ax)*n) (ay*d+(by' - ay)*n) d=Q:=⟨_,rfl⟩;rw [hQ] at hcm hok hbd;simp only [hQ] at mk;have o1:=fun w=>on1 Q w hbd hok.1
  have o2:=fun w=>on2 Q w hbd hok.1
  have hne:det (Sz.sg ⟨⟨ax,ay⟩,⟨bx,by'⟩⟩) (Sz.sg ⟨⟨cx,cy⟩,⟨ex,ey⟩⟩)≠0:=fun h=>h0 ((det_zero hd).1 h)
  rw [if_pos hne,show crossing (Sz.sg ⟨⟨ax,ay⟩,⟨bx,by'⟩⟩) (Sz.sg ⟨⟨cx,cy⟩,⟨ex,ey⟩⟩)=Q.pt from hcm.1.symm] at hM;obtain⟨r1,hr1⟩:∃ r1,decide (onS (Sz.sg ⟨⟨ax,ay⟩,⟨bx,by'⟩⟩) Q.pt)=r1:=⟨_,rfl⟩;obtain⟨r2,hr2⟩:∃ r2,decide (onS (Sz.sg ⟨⟨cx,cy⟩,⟨ex,ey⟩⟩) Q.pt)=r2:=⟨_,rfl⟩;simp only [hr1] at o1;simp only [hr2] at o2;have hTL:TL [Q]:=⟨fun p hp=>by rw [List.mem_singleton] at hp;subst hp;exact⟨hok,hbd⟩,List.pairwise_singleton _ _⟩
  have hM2:M=if r1=true∧r2=true then [Q.pt] else []:=by
   rw [← hM,← hr1,← hr2];simp only [decide_eq_true_eq]
  clear hM hr1 hr2 hne hcm hok hbd hQ on1 on2 k1 k2 k3 k4 bd bn m1 m2 m3 m4 hd hn a1' a2' b1' b2' c1' c2' e1' e2' a1 a2 b1 b2 c1 c2 e1 e2 h0;replace hM2:=Hd hM2;replace hTL:=Hd hTL;obtain⟨hS,hF0,hO0,hp0⟩:=st0 hL
  go_enter func98,ntmps98
  go_wp2_with (with_reducible first|refine bxO (T:=121) (v:=.agg _) hS fun b1 wb1 hS=>?_|refine ldB 1 hS isAgg3 ?_|refine ldB 2 hS isAgg3 ?_)
  refine (mk _).mono ?_;rintro e w1 ⟨rfl,hq⟩;have hS:=hS.below hq.below hq.drawn;simp only []
  go_wp2_with (with_reducible first|refine alA hS zeroValue152 fun b3 wb3 hS=>?_|refine stA (u:=.agg #[_,_,_]) 3 hS sizeOf152 fun _ hS=>?_|refine ldA 1 hS isAgg121 sizeOf121 ?_|refine ldA 3 hS isAgg152 sizeOf152 ?_)
  refine (o1 _).mono ?_;rintro e w2 ⟨rfl,hq⟩;have hS:=hS.below hq.below hq.drawn;simp only [];cases r1
  ·go_wp2_with (first|((with_reducible refine g_load (T:=121) ?_);refine wpList_unwanted rfl ?_;simp only [NRM])|((with_reducible refine g_load (T:=152) ?_);refine wpList_unwanted rfl ?_;simp only [NRM]))
   go_ret;exact⟨none,0,0,[],S,rfl,hS.pure S,SlC.nil _ _ _,TL.nil,fun q=>by rw [hM2.out];simp,by simp⟩
  ·go_wp2_with (with_reducible first|refine ldA 2 hS isAgg121 sizeOf121 ?_|refine ldA 3 hS isAgg152 sizeOf152 ?_)
   refine (o2 _).mono ?_;rintro e w3 ⟨rfl,hq⟩;have hS:=hS.below hq.below hq.drawn;simp only [];cases r2
   ·go_wp2
    go_ret;exact⟨none,0,0,[],S,rfl,hS.pure S,SlC.nil _ _ _,TL.nil,fun q=>by rw [hM2.out];simp,by simp⟩
   ·go_wp2_with (first|(with_reducible refine ldA 3 hS isAgg152 sizeOf152 ?_)|((with_reducible refine g_bs (T:=29) ?_);refine seq_bs1 (T:=29) (v:=.agg #[.int .i64 _,.int .i64 _,.int .i64 _]) hS underlying29 sizeOf152 zeroValue152 rfl rfl rfl (by decide) (by decide) rfl (fun bl wbl hS=>?_);simp only [NRM];simp only [Value.cells] at hS))
    go_ret;have hsl:=SlC.ofBlk (k:=3) (n:=1) hS (List.mem_of_getElem? (i:=4) rfl) rfl (by decide);exact⟨_,1,1,[Q],_,rfl,hS.handOut hO0 hF0 hp0 (List.mem_of_getElem? (i:=3) rfl),hsl.weaken (fun k h=>.inr h),hTL.out,fun q=>by rw [hM2.out];simp,by simp⟩
end Go.Proofs
namespace Go.Hp
open Go.Proofs.Tryz
open Go Go.RowKit
theorem fill4g (a b c d a2 b2 c2 d2 a3 b3 c3 d3 a4 b4 c4 d4:Value):Instr.fill (fun i=>some (i*4,4)) ((Array.range (4*4)).map ((Value.agg #[.int .i64 0,.int .i64 0,.int .i64 0,.int .i64 0]).cells[· % (Value.agg #[.int .i64 0,.int .i64 0,.int .i64 0,.int .i64 0]).cells.size]!)) [(0,.agg #[a,b,c,d]),(1,.agg #[a2,b2,c2,d2]),(2,.agg #[a3,b3,c3,d3]),(3,.agg #[a4,b4,c4,d4])]=some #[a,b,c,d,a2,b2,c2,d2,a3,b3,c3,d3,a4,b4,c4,d4]:=by
 have hh:((Array.range (4*4)).map ((Value.agg #[.int .i64 0,.int .i64 0,.int .i64 0,.int .i64 0]).cells[· % (Value.agg #[.int .i64 0,.int .i64 0,.int .i64 0,.int .i64 0]).cells.size]!))=#[.int .i64 0,.int .i64 0,.int .i64 0,.int .i64 0,.int .i64 0,.int .i64 0,.int .i64 0,.int .i64 0,.int .i64 0,.int .i64 0,.int .i64 0,.int .i64 0,.int .i64 0,.int .i64 0,.int .i64 0,.int .i64 0]:=by
  apply Array.ext';simp [Array.range,List.ofFn_succ,Value.cells]
 rw [hh];simp [Instr.fill,Value.cells]
end Go.Hp
namespace Go.Proofs
open Go.Proofs.Tryz
open Go.RowKit Go.Hp
theorem square_any (x y s:Int) (hx:0≤x∧x≤1000) (hy:0≤y∧y≤1000) (hs:0≤s∧s≤1000) (w:World) :
 Calls Tryz.prog 55 #[.int .i64 x,.int .i64 y,.int .i64 s] w fun e w'=>∃ ad c,e=.returned (.slice ad 4 c)∧Heap w w' [.frz (Old w) w,.row (.slice ad 4 c) 121 4 4 ((sqZ x y s).flatMap sc)]:=by
 have m1:IntKind.i64.wrap (x+s)=x+s:=w6;have m2:IntKind.i64.wrap (y+s)=y+s:=w6;have hS:=Heap.start w
 go_enter func55,ntmps55
 go_wp2_with (first|((with_reducible refine g_bs (T:=24) ?_);refine seq_buildSlice (k:=2) (z:=.agg #[.int .i64 0,.int .i64 0]) (len:=4) hS underlying24 sizeOf51 zeroValue51 (by decide) (by decide) (fill4p _ _ _ _ _ _ _ _) (fun b7 wb7 hS=>?_);simp only [NRM];simp only [NRH] at hS))
 refine rg0 [.p 0,.p 1,.r 2,.p 3,.p 4,.r 5,.p 6,.p 7,.p 8,.r 9,.p 10,.p 11,.r 12,.p 13,.p 14,.p 15,.r 16,.p 17,.p 18,.r 19,.p 20,.p 21,.p 22,.r 23,.p 24,.p 25,.r 26,.p 27,.e 28,.p 29] [] hS fun w1 hS=>?_
 repeat (first|((with_reducible refine m_pure ?_);refine sched_any rfl rfl (any_index_atk (T:=24) (k:=2) underlying24 sizeOf51 rfl rfl (by decide) (by decide) ?_);simp only [NRM];simp only [Nat.reduceMul,Nat.reduceAdd,Int.reduceToNat,Nat.zero_add])|(with_reducible first|refine sldK 1 isAgg51 sizeOf51 ?_|refine spL ?_))
 refine exL ?_
 ((with_reducible refine g_bs (T:=23) ?_);refine seq_buildSlice (k:=4) (z:=.agg #[.int .i64 0,.int .i64 0,.int .i64 0,.int .i64 0]) (len:=4) hS underlying23 sizeOf121 zeroValue121 (by decide) (by decide) (fill4g _ _ _ _ _ _ _ _ _ _ _ _ _ _ _ _) (fun b8 wb8 hS=>?_);simp only [NRM];simp only [NRH] at hS)
 refine ext_end hS.sb ?_;refine mvs ?_;refine snL ?_;have hS:=hS.toRow (k:=4) (m:=4) 2 rfl rfl (by decide);simp only [NRH] at hS;have hS:=hS.order [0,2,1] rfl;simp only [NRF] at hS;have hS:=Heap.sub hS (List.sublist_append_left [_,_] [_]);go_wp2;go_ret;exact⟨_,_,rfl,hS⟩
end Go.Proofs
namespace Go.Hp
open Go Go.RowKit
theorem flat_lenG {α β:Type} {f:α→List β} {k:Nat} (hk:∀ x,(f x).length=k) (l:List α):(l.flatMap f).length=l.length*k:=by
 induction l with
 | nil=>simp
 | cons a l ih=>rw [List.flatMap_cons,List.length_append,hk,ih,List.length_cons,Nat.add_mul];omega
def vList (os:List Sz) (gs:List Gp):List Pt:=gs.map Gp.pt++(os.flatMap (fun s=>[s.sg.a,s.sg.b])++os.flatMap (fun s=>os.map fun t=>crossing s.sg t.sg))
theorem vList_len (os:List Sz) (gs:List Gp):(vList os gs).length=gs.length+(os.length*2+os.length*os.length):=by
 unfold vList;rw [List.length_append,List.length_append,List.length_map,flat_lenG (k:=2) (fun s=>rfl),flat_lenG (k:=os.length) (fun s=>by simp) os]
theorem cut_cases {s t:Sg} {p:Pt} (h:isCut s t p):(det s t≠0∧p=crossing s t)∨p=s.a∨p=s.b∨p=t.a∨p=t.b:=by
 have h1:=(cuts_iff s t p).2 h;unfold cutsL at h1
 by_cases hd:det s t=0
 ·rw [if_neg (by simpa using hd),List.mem_filter] at h1
  right
  simpa using h1.1
 ·rw [if_pos hd] at h1
  split at h1
  ·exact .inl ⟨hd,by simpa using h1⟩
  ·cases h1
theorem vert_cases {os:List Sz} {gs:List Gp} {p:Pt} (h:isVert (os.map Sz.sg) (gs.map Gp.pt) p):(∃ g ∈ gs,p=g.pt)∨(∃ s ∈ os,p=s.a.pt∨p=s.b.pt)∨∃ s ∈ os,∃ t ∈ os,det s.sg t.sg≠0∧p=crossing s.sg t.sg:=by
 rcases h with h|⟨s,hs,h⟩|⟨i,j,s,t,hij,hi,hj,hc⟩
 ·obtain⟨g,hg,rfl⟩:=List.mem_map.1 h
  exact .inl ⟨g,hg,rfl⟩
 ·obtain⟨s',hs',rfl⟩:=List.mem_map.1 hs
  exact .inr (.inl ⟨s',hs',h⟩)
 ·obtain⟨s',hs',rfl⟩:=List.mem_map.1 (List.mem_of_getElem? hi)
  obtain⟨t',ht',rfl⟩:=List.mem_map.1 (List.mem_of_getElem? hj)
  rcases cut_cases hc with h|h|h|h|h
  ·exact .inr (.inr ⟨s',hs',t',ht',h⟩)
  ·exact .inr (.inl ⟨s',hs',.inl h⟩)
  ·exact .inr (.inl ⟨s',hs',.inr h⟩)
  ·exact .inr (.inl ⟨t',ht',.inl h⟩)
  ·exact .inr (.inl ⟨t',ht',.inr h⟩)
theorem ArrP.vlen {os:List Sz} {gs:List Gp} {V:List Pt} {es:List Ed} (h:ArrP os gs V es):V.length≤gs.length+(os.length*2+os.length*os.length):=by
 rw [← vList_len];refine List.Nodup.length_le_of_subset (h.arr.sv.imp (fun hlt e=>by subst e;exact Pt.lt_irrefl _ hlt)) (fun p hp=>?_);unfold vList;rw [List.mem_append,List.mem_append,List.mem_flatMap,List.mem_flatMap]
 rcases vert_cases ((h.arr.mv p).1 hp) with ⟨g,hg,rfl⟩|⟨s,hs,h⟩|⟨s,hs,t,ht,_,h⟩
 ·exact .inl (List.mem_map.2 ⟨g,hg,rfl⟩)
 ·refine .inr (.inl ⟨s,hs,?_⟩)
  rcases h with rfl|rfl
  ·exact List.mem_cons_self
  ·exact List.mem_cons_of_mem _ List.mem_cons_self
 ·exact .inr (.inr ⟨s,hs,List.mem_map.2 ⟨t,ht,h.symm⟩⟩)
theorem next_one {V:List Pt} {s:Sg} {u v v':Nat} (h:nextOn V s u v) (h':nextOn V s u v'):v=v':=by
 obtain⟨a1,p,q,a2,a3,a4,a5,a6⟩:=h;obtain⟨b1,p',q',b2,b3,b4,b5,b6⟩:=h'
 rcases Nat.lt_trichotomy v v' with hlt|hlt|hlt
 ·exact absurd a5 (b6 v q a1 hlt a3)
 ·exact hlt
 ·exact absurd b5 (a6 v' q' b1 hlt b3)
theorem ArrP.elen {os:List Sz} {gs:List Gp} {V:List Pt} {es:List Ed} (h:ArrP os gs V es):es.length≤os.length*V.length:=by
 have e1:es.length=(es.map fun e=>(e.a,e.b)).length:=by simp
 have e2:(os.flatMap fun s=>(List.range V.length).map fun u=>(u,((List.range V.length).find? fun v=>nextB V s.sg u v).getD 0)).length=os.length*V.length:=flat_lenG (k:=V.length) (fun s=>by simp) os;rw [e1,← e2];refine List.Nodup.length_le_of_subset (h.arr.se.imp (fun hlt e=>by subst e;exact ltE_irr _ hlt)) (fun p hp=>?_);obtain⟨u,v⟩:=p;obtain⟨s,hs,hn⟩:=(h.arr.me u v).1 hp;obtain⟨s',hs',rfl⟩:=List.mem_map.1 hs;rw [List.mem_flatMap];obtain⟨huv,p,q,hp1,hq1,_⟩:=id hn;have hv:=(List.getElem?_eq_some_iff.1 hq1).1;refine⟨s',hs',List.mem_map.2 ⟨u,List.mem_range.2 (by omega),?_⟩⟩;rw [Prod.mk.injEq];refine⟨rfl,?_⟩;cases hf:(List.range V.length).find? fun v=>nextB V s'.sg u v with
 | none =>
  have:=List.find?_eq_none.1 hf v (List.mem_range.2 hv);rw [(nextB_iff _ _ _ _).2 hn] at this;exact absurd rfl this
 | some v' =>
  have h1:=List.find?_some hf;exact (next_one hn ((nextB_iff _ _ _ _).1 h1)).symm
theorem ArrP.bq {os:List Sz} {gs:List Gp} {V:List Pt} {es:List Ed} (h:ArrP os gs V es) (hos:∀ t ∈ os,t.ok) (hgs:∀ g ∈ gs,g.ok):∀ p ∈ V,Bq 300 p.x∧Bq 300 p.y:=fun p hp=>by
 have hg:∀ g:Gp,g.ok→Bq 300 g.pt.x∧Bq 300 g.pt.y:=fun g hg=>by
  unfold Gp.ok okC at hg;have k1:Bq 33 (g.x:Rat):=Bq.int (by omega) (by omega);have k2:Bq 33 (g.y:Rat):=Bq.int (by omega) (by omega);exact⟨k1.mono (by omega),k2.mono (by omega)⟩
 rcases vert_cases ((h.arr.mv p).1 hp) with ⟨g,hgm,rfl⟩|⟨s,hs,h⟩|⟨s,hs,t,ht,hd,rfl⟩
 ·exact hg g (hgs g hgm)
 ·have hok:=hos s hs
  rcases h with rfl|rfl
  ·exact hg _ hok.1
  ·exact hg _ hok.2.1
 ·have h1:=hos s hs
  have h2:=hos t ht
  have hne:areaZ t.a t.b s.a≠areaZ t.a t.b s.b:=fun e=>hd (by
   rw [← area_det];have e1:area t.sg.a t.sg.b s.sg.a=(areaZ t.a t.b s.a:Rat):=areaZ_pt ..;have e2:area t.sg.a t.sg.b s.sg.b=(areaZ t.a t.b s.b:Rat):=areaZ_pt ..;rw [e1,e2,e];grind)
  obtain⟨a,b,_⟩:=crossing_bq ⟨h1.1,h1.2.1⟩ ⟨h2.1,h2.2.1⟩ hne;exact⟨a,b⟩
theorem ArrP.arrIn {w:World} {S:Nat→Prop} {os:List Sz} {gs:List Gp} {V:List Pt} {es:List Ed} {sg pt:Option Addr × Nat × Nat} {a3 a4:Option Addr} {n3 c3 n4 c4:Nat} (h:ArrP os gs V es) (hos:∀ t ∈ os,t.ok) (hgs:∀ g ∈ gs,g.ok) (hL:Liv w S) (hA:IsArr w S sg pt (a3,n3,c3) (a4,n4,c4) os gs V es) :
 ∃ rs prs,ArrIn w S a3 a4 n3 c3 n4 c4 rs es prs V 300:=by
 obtain⟨prs,h3⟩:=hA.vs;obtain⟨rs,h4,h5⟩:=hA.es;have hos2:∀ t ∈ os,t.a≠t.b:=fun t ht=>(hos t ht).2.2
 have hn3:n3=V.length:=by obtain⟨_,a,c,e,_⟩:=h3.sl;cases e;rfl
 have hn4:n4=es.length:=by obtain⟨_,a,c,e,_⟩:=h4;cases e;rfl
 refine⟨rs,prs,hL,h4,h5,h3,fun e he=>?_,h.bq hos hgs,hn3,hn4⟩;obtain⟨x1,x2,_⟩:=h.edge hos2 he;omega
end Go.Hp
namespace Go.Proofs
open Go.RowKit Go.Hp
theorem ArrP.dirs {os:List Sz} {gs:List Gp} {V:List Pt} {es:List Ed} (h:ArrP os gs V es) (hos:∀ t ∈ os,t.ok):(∀ e ∈ es,e.dir.dir)∧∀ e ∈ es,e.a≠e.b:=by
 refine⟨fun e he=>?_,fun e he=>?_⟩
 ·obtain⟨_,_,_,s,hs,_,hd⟩:=h.edge (fun t ht=>(hos t ht).2.2) he
  rw [hd];exact dirZ_dir (hos s hs)
 ·have:=(h.edge (fun t ht=>(hos t ht).2.2) he).1
  omega
end Go.Proofs
namespace Go.Hp
open Go Go.RowKit
theorem Heap.pimport {w0 w wr w':World} {H B:List Chunk} {F F' S S':Nat→Prop} (hS:Heap w0 w (.frz F wr::H)) (hF:∀ k,S k→F k) (hp:Pure w S w' S') (hq:Heap w w' (.frz F' w'::B)) (hO:∀ k,Old w k→F' k) (hS':∀ k,S' k→F' k) :
 ∃ G,(∀ k,S' k→G k)∧(∀ k,F k→G k)∧Heap w0 w' (.frz G w'::(H++B)):=by
 have hb:=hS.below hp.below hp.drawn;have hwF:∀ k,F k→k<w.heap.size:=fun k hk=>(hS.ok (.frz F wr) (by simp) k hk).1
 have hwH:∀ c ∈ H,∀ k,c.has k→k<w.heap.size:=fun c hc k hk=>Chunk.lt (hS.ok c (by simp [hc])) hk
 have aS:=List.pairwise_cons.1 hS.apart;have aq:=List.pairwise_cons.1 hq.apart
 have hwB:∀ c ∈ B,∀ k,c.has k→w.heap.size≤k:=fun c hc k hk=>by
  refine Classical.byContradiction fun h=>?_
  exact aq.1 c hc k (hO k (by unfold Old;omega)) hk
 refine⟨fun k=>F k∨(F' k∧w.heap.size≤k),fun k hk=>?_,fun k hk=>.inl hk,hb.os,hb.tape,hb.output,hb.drawn,hb.size,?_,?_⟩
 ·rcases hp.new k hk with h|h
  ·exact .inl (hF k h)
  ·exact .inr ⟨hS' k hk,h.1⟩
 ·intro c hc
  rcases List.mem_cons.1 hc with rfl|hc
  ·rintro k (hk|hk)
   ·exact⟨Nat.lt_of_lt_of_le (hwF k hk) hp.below.size,rfl⟩
   ·exact⟨(hq.ok (.frz F' w') (by simp) k hk.1).1,rfl⟩
  ·rcases List.mem_append.1 hc with hc|hc
   ·exact hb.ok c (by simp [hc])
   ·exact hq.ok c (by simp [hc])
 ·refine List.pairwise_cons.2 ⟨?_,List.pairwise_append.2 ⟨aS.2,aq.2,?_⟩⟩
  ·rintro c hc k (hk|hk) hn
   ·rcases List.mem_append.1 hc with hc|hc
    ·exact aS.1 c hc k hk hn
    ·have:=hwB c hc k hn;have:=hwF k hk;omega
   ·rcases List.mem_append.1 hc with hc|hc
    ·have:=hwH c hc k hn;omega
    ·exact aq.1 c hc k hk.1 hn
  ·intro c hc d hd k hk hn
   have:=hwH c hc k hk;have:=hwB d hd k hn;omega
theorem Pure.startD (w:World) (S:Nat→Prop):Pure (nd w) S w S:=⟨⟨rfl,rfl,rfl,Nat.le_refl _,fun _ _=>rfl⟩,Nat.zero_le _,fun _ h=>h,fun _ h=>.inl h⟩
end Go.Hp
namespace Go.Hp.G
open Go Go.RowKit Go.Hp
section
variable {P:Program} {ops:Array Oper} {Q:Exit→Act→World→Prop} {C:World→Prop}
theorem run_lit {T E:TypeId} {k len:Nat} {z:Value} {parts:Array (Nat × Operand)} {cells:Array Value} {t:Tmp} {ty:TypeId} {pos:String} {aft:Array Edge} (hu:P.underlying T=some (.slice E)) (hsz:∀ w,(sizeOf E).run P w=.ok k w) (hz:∀ w,(zeroValue E).run P w=.ok z w)
 (hl:len*k≤16777216) (h0:0<len*k) (a:Act) (hf:Instr.fill (fun i=>some (i*k,k)) ((Array.range (len*k)).map (z.cells[· % z.cells.size]!)) (parts.toList.map fun p=>(p.1,a.eval p.2))=some cells) (w:World) :
 (execOp a.eval ⟨some t,.buildSlice T len parts,ty,pos,aft,none⟩).run P w=.ok (.value (.slice (some ⟨w.heap.size,0,none⟩) len len)) (w.alloc (.cells cells E (0,0))):=by
 generalize a.eval=ρ at hf;have h1:¬ (16777216<len*k):=by omega
 have h2:¬ (len*k=0):=by omega
 have h3:Array.toList (Array.map (fun x:Nat × Operand=>(x.1,ρ x.2)) parts)=parts.toList.map fun p=>(p.1,ρ p.2):=by simp
 simp only [execOp,Instr.buildSlice,Sem.run_bind,run_underlying hu,hsz,Result.andThen_ok,gt_iff_lt,Nat.reducePow,h1,if_false,h2,hz,Sem.run_pure,h3,hf]
 rfl
theorem pre_nil1 {J:List Chunk→World→Prop} {E:Act→World→Prop} {a:Act} {p:Box} (h:∀ b w,J [.blk b p.o] w→E (a.put (some p.t) (p.v b)) w):wpPre P ops Q C [p] E [] a J:=by
 intro L w hL hJ
 match L,hL,hJ with
 | [(q,b)],hL,hJ =>
  simp only [List.map_cons,List.map_nil,List.cons.injEq,and_true] at hL;subst hL;exact h b w hJ
end
end Go.Hp.G
