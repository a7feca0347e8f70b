/- Of M3 M4 M5 M6. -/
import Derived.Test.YtjeofihncbegfaaGreatQ37
set_option maxRecDepth 100000
set_option maxHeartbeats 16000000
set_option linter.unusedVariables false
set_option linter.unusedSimpArgs false
namespace Go.Hp
open Go.Proofs.Tryz
open Go Go.RowKit
def smC (x:Int):Prop:=-100≤x∧x≤100
def Gp.sm (p:Gp):Prop:=smC p.x∧smC p.y
def Sz.sm (s:Sz):Prop:=s.a.sm∧s.b.sm
end Go.Hp
namespace Go.Proofs
open Go.Proofs.Tryz
open Go.RowKit Go.Hp
theorem side05_any (ax ay bx by':Int) (c:P3) (w:World) (ha:smC ax∧smC ay) (hb:smC bx∧smC by') (hc:c.bd) :
 Calls Tryz.prog 158 #[.agg #[.int .i64 ax,.int .i64 ay,.int .i64 1],.agg #[.int .i64 bx,.int .i64 by',.int .i64 1],.agg #[.int .i64 c.x,.int .i64 c.y,.int .i64 c.d]] w fun e w'=>e=.returned (.int .i64 (sgnZ (sideI (P3.of ax ay) (P3.of bx by') c)))∧Pure w (fun _=>False) w' (fun _=>False):=by
 obtain⟨cx,cy,cd⟩:=c;obtain⟨c1,c2,c3⟩:=hc;obtain⟨ha1,ha2⟩:=ha;obtain⟨hb1,hb2⟩:=hb;unfold smC at ha1 ha2 hb1 hb2;simp only at c1 c2 c3;obtain⟨s,hs⟩:∃ s,sgnZ (sideI (P3.of ax ay) (P3.of bx by') ⟨cx,cy,cd⟩)=s:=⟨_,rfl⟩;rw [hs];unfold sideI P3.of at hs;simp only [Int.mul_one] at hs;have m1:=mul_bdk (a:=ax) (b:=cd) (m:=1000) (n:=1073741824) (by omega) (by omega);have m2:=mul_bdk (a:=ay) (b:=cd) (m:=1000) (n:=1073741824) (by omega) (by omega);have m3:=mul_bdk (a:=bx - ax) (b:=cy - ay*cd) (m:=2000) (n:=1100000000000) (by omega) (by omega);have m4:=mul_bdk (a:=by' - ay) (b:=cx - ax*cd) (m:=2000) (n:=1100000000000) (by omega) (by omega);have w1:IntKind.i64.wrap ax=ax:=Go.Hp.w6;have w2:IntKind.i64.wrap ay=ay:=Go.Hp.w6;have w3:IntKind.i64.wrap bx=bx:=Go.Hp.w6;have w4:IntKind.i64.wrap by'=by':=Go.Hp.w6
 have w5:IntKind.i64.wrap cx=cx:=Go.Hp.w6;have w6:IntKind.i64.wrap cy=cy:=Go.Hp.w6;have w7:IntKind.i64.wrap (bx - ax)=bx - ax:=Go.Hp.w6;have w8:IntKind.i64.wrap (by' - ay)=by' - ay:=Go.Hp.w6
 have w9:IntKind.i64.wrap (ax*cd)=ax*cd:=Go.Hp.w6;have w10:IntKind.i64.wrap (ay*cd)=ay*cd:=Go.Hp.w6;have w11:IntKind.i64.wrap (cx - ax*cd)=cx - ax*cd:=Go.Hp.w6;have w12:IntKind.i64.wrap (cy - ay*cd)=cy - ay*cd:=Go.Hp.w6;have w13:IntKind.i64.wrap ((bx - ax)*(cy - ay*cd))=(bx - ax)*(cy - ay*cd):=Go.Hp.w6;have w14:IntKind.i64.wrap ((by' - ay)*(cx - ax*cd))=(by' - ay)*(cx - ax*cd):=Go.Hp.w6;have w15:IntKind.i64.wrap ((bx - ax)*(cy - ay*cd) - (by' - ay)*(cx - ax*cd))=(bx - ax)*(cy - ay*cd) - (by' - ay)*(cx - ax*cd):=Go.Hp.w6;have s1:=fun w=>sign05_any ((bx - ax)*(cy - ay*cd) - (by' - ay)*(cx - ax*cd)) w
 simp only [hs] at s1;clear m1 m2 m3 m4 c1 c2 c3 ha1 ha2 hb1 hb2 hs;have hS:=Heap.start w
 go_enter func158,ntmps158
 go_wp2_with (with_reducible first|refine bxA hS fun b1 wb1 hS=>?_|refine bxA hS fun b2 wb2 hS=>?_|refine bxA hS fun b3 wb3 hS=>?_|refine ldB 1 hS isAgg3 ?_|refine ldB 2 hS isAgg3 ?_|refine ldB 3 hS isAgg3 ?_)
 refine (s1 _).mono ?_;rintro e w' ⟨rfl,rfl⟩;simp only [];go_wp2;go_ret;exact⟨rfl,hS.pure _⟩
theorem in05_any (x0 y0 x1 y1:Int) (p:P3) (w:World) (h0:smC x0∧smC y0) (h1:smC x1∧smC y1) (hp:p.bd) :
 Calls Tryz.prog 159 #[.agg #[.int .i64 x0,.int .i64 y0,.int .i64 x1,.int .i64 y1],.agg #[.int .i64 p.x,.int .i64 p.y,.int .i64 p.d]] w fun e w'=>e=.returned (.bool (decide (x0*p.d≤p.x) && decide (p.x≤x1*p.d) && decide (y0*p.d≤p.y) && decide (p.y≤y1*p.d)))∧Pure w (fun _=>False) w' (fun _=>False):=by
 obtain⟨px,py,pd⟩:=p;obtain⟨p1,p2,p3⟩:=hp;obtain⟨h0,h0'⟩:=h0;obtain⟨h1,h1'⟩:=h1;unfold smC at h0 h0' h1 h1';simp only at p1 p2 p3 ⊢;have w1:IntKind.i64.wrap (x0*pd)=x0*pd:=wrapMul (by omega) (by omega);have w2:IntKind.i64.wrap (y0*pd)=y0*pd:=wrapMul (by omega) (by omega);have w3:IntKind.i64.wrap (x1*pd)=x1*pd:=wrapMul (by omega) (by omega);have w4:IntKind.i64.wrap (y1*pd)=y1*pd:=wrapMul (by omega) (by omega);obtain⟨c1,e1⟩:∃ c1,decide (x0*pd≤px)=c1:=⟨_,rfl⟩;obtain⟨c2,e2⟩:∃ c2,decide (px≤x1*pd)=c2:=⟨_,rfl⟩;obtain⟨c3,e3⟩:∃ c3,decide (y0*pd≤py)=c3:=⟨_,rfl⟩;obtain⟨c4,e4⟩:∃ c4,decide (py≤y1*pd)=c4:=⟨_,rfl⟩;rw [e1,e2,e3,e4];clear p1 p2 p3 h0 h0' h1 h1';have hS:=Heap.start w;cases c1
 ·go_enter func159,ntmps159
  go_wp2_with (first|(with_reducible first|refine bxA hS fun b1 wb1 hS=>?_|refine bxA hS fun b2 wb2 hS=>?_|refine ldB 1 hS isAgg3 ?_|refine ldB 2 hS isAgg3 ?_)|((with_reducible refine g_load (T:=3) ?_);refine wpList_unwanted rfl ?_;simp only [NRM]))
  go_ret;exact⟨by first|rfl|simp,hS.pure _⟩
 ·cases c2
  ·go_enter func159,ntmps159
   go_wp2_with (first|(with_reducible first|refine bxA hS fun b1 wb1 hS=>?_|refine bxA hS fun b2 wb2 hS=>?_|refine ldB 1 hS isAgg3 ?_|refine ldB 2 hS isAgg3 ?_)|((with_reducible refine g_load (T:=3) ?_);refine wpList_unwanted rfl ?_;simp only [NRM]))
   go_ret;exact⟨by first|rfl|simp,hS.pure _⟩
  ·cases c3
   ·go_enter func159,ntmps159
    go_wp2_with (first|(with_reducible first|refine bxA hS fun b1 wb1 hS=>?_|refine bxA hS fun b2 wb2 hS=>?_|refine ldB 1 hS isAgg3 ?_|refine ldB 2 hS isAgg3 ?_)|((with_reducible refine g_load (T:=3) ?_);refine wpList_unwanted rfl ?_;simp only [NRM]))
    go_ret;exact⟨by first|rfl|simp,hS.pure _⟩
   ·cases c4
    ·go_enter func159,ntmps159
     go_wp2_with (first|(with_reducible first|refine bxA hS fun b1 wb1 hS=>?_|refine bxA hS fun b2 wb2 hS=>?_|refine ldB 1 hS isAgg3 ?_|refine ldB 2 hS isAgg3 ?_)|((with_reducible refine g_load (T:=3) ?_);refine wpList_unwanted rfl ?_;simp only [NRM]))
     go_ret;exact⟨by first|rfl|simp,hS.pure _⟩
    ·go_enter func159,ntmps159
     go_wp2_with (first|(with_reducible first|refine bxA hS fun b1 wb1 hS=>?_|refine bxA hS fun b2 wb2 hS=>?_|refine ldB 1 hS isAgg3 ?_|refine ldB 2 hS isAgg3 ?_)|((with_reducible refine g_load (T:=3) ?_);refine wpList_unwanted rfl ?_;simp only [NRM]))
     go_ret;exact⟨by first|rfl|simp,hS.pure _⟩
end Go.Proofs
namespace Go.Proofs
open Go.Proofs.Tryz
open Go.RowKit Go.Hp
theorem on08_any (s:Sz) (p:P3) (w:World) (hs:s.sm) (hp:p.bd) (hd:0<p.d) :
 Calls Tryz.prog 99 #[.agg #[.int .i64 s.a.x,.int .i64 s.a.y,.int .i64 s.b.x,.int .i64 s.b.y],.agg #[.int .i64 p.x,.int .i64 p.y,.int .i64 p.d]] w fun e w'=>e=.returned (.bool (decide (onS s.sg p.pt)))∧Pure w (fun _=>False) w' (fun _=>False):=by
 obtain⟨⟨ax,ay⟩,⟨bx,by'⟩⟩:=s;obtain⟨⟨a1,a2⟩,b1,b2⟩:=hs;simp only at a1 a2 b1 b2;have hiff:=onI_iff (ax:=ax) (ay:=ay) (bx:=bx) (by':=by') hd;obtain⟨R,hR⟩:∃ R,decide (onS (Sz.sg ⟨⟨ax,ay⟩,⟨bx,by'⟩⟩) p.pt)=R:=⟨_,rfl⟩;rw [hR]
 have hR2:R=(decide (sideI (P3.of ax ay) (P3.of bx by') p=0) && (decide (min ax bx*p.d≤p.x) && decide (p.x≤max ax bx*p.d) && decide (min ay by'*p.d≤p.y) && decide (p.y≤max ay by'*p.d))):=by
  rw [← hR,Bool.eq_iff_iff,decide_eq_true_iff];refine Iff.trans hiff ?_;unfold inI;simp only [Bool.and_eq_true,decide_eq_true_eq,and_assoc]
 have sd:=fun w=>side05_any ax ay bx by' p w ⟨a1,a2⟩ ⟨b1,b2⟩ hp
 have mm:smC (min ax bx)∧smC (min ay by')∧smC (max ax bx)∧smC (max ay by'):=by unfold smC at *;omega
 have ii:=fun w=>in05_any (min ax bx) (min ay by') (max ax bx) (max ay by') p w ⟨mm.1,mm.2.1⟩ ⟨mm.2.2.1,mm.2.2.2⟩ hp
 have hz:=@sgnZ_zero (sideI (P3.of ax ay) (P3.of bx by') p);obtain⟨q,hq⟩:∃ q,sgnZ (sideI (P3.of ax ay) (P3.of bx by') p)=q:=⟨_,rfl⟩;rw [hq] at hz;simp only [hq] at sd;obtain⟨J,hJ⟩:∃ J,(decide (min ax bx*p.d≤p.x) && decide (p.x≤max ax bx*p.d) && decide (min ay by'*p.d≤p.y) && decide (p.y≤max ay by'*p.d))=J:=⟨_,rfl⟩;simp only [hJ] at ii
 have hR4:R=(decide (q=0) && J):=by
  rw [hR2,hJ,Bool.eq_iff_iff,Bool.and_eq_true,Bool.and_eq_true,decide_eq_true_iff,decide_eq_true_iff,hz]
 clear hR2;have hR2:=hR4;clear hR4 hq hJ hR hiff hz mm a1 a2 b1 b2 hp hd;obtain⟨px,py,pd⟩:=p;simp only at sd ii;have hS:=Heap.start w
 by_cases h0:q=0
 ·have d0:(q == 0)=true:=by simp [h0]
  have hR3:R=J:=by rw [hR2];simp [h0]
  clear hR2;subst h0;subst hR3
  go_enter func99,ntmps99
  go_wp2_with (with_reducible first|refine bxA hS fun b1 wb1 hS=>?_|refine bxA hS fun b2 wb2 hS=>?_|refine ldK 1 hS isAgg51 sizeOf51 ?_)
  refine (of05_any ax ay _).mono ?_;rintro e w' ⟨rfl,hq⟩;have hS:=hS.below hq.below hq.drawn;simp only []
  go_wp2_with (with_reducible first|refine alA hS zeroValue152 fun b5 wb5 hS=>?_|refine stA 3 hS sizeOf152 fun _ hS=>?_|refine ldK 1 hS isAgg51 sizeOf51 ?_)
  refine (of05_any bx by' _).mono ?_;rintro e w' ⟨rfl,hq⟩;have hS:=hS.below hq.below hq.drawn;simp only []
  go_wp2_with (with_reducible first|refine alA hS zeroValue152 fun b6 wb6 hS=>?_|refine stA 4 hS sizeOf152 fun _ hS=>?_|refine ldB 1 hS isAgg3 ?_|refine alA hS zeroValue205 fun b7 wb7 hS=>?_|refine stA 5 hS sizeOf205 fun _ hS=>?_|refine ldA 3 hS isAgg152 sizeOf152 ?_|refine ldA 4 hS isAgg152 sizeOf152 ?_|refine ldA 2 hS isAgg152 sizeOf152 ?_)
  refine (sd _).mono ?_;rintro e w' ⟨rfl,hq⟩;have hS:=hS.below hq.below hq.drawn;simp only []
  go_wp2_with (with_reducible first|refine ldA 5 hS isAgg205 sizeOf205 ?_|refine ldA 2 hS isAgg152 sizeOf152 ?_)
  refine (ii _).mono ?_;rintro e w' ⟨rfl,hq⟩;have hS:=hS.below hq.below hq.drawn;simp only [];go_wp2;go_ret;exact⟨rfl,hS.pure _⟩
 ·have d0:(q == 0)=false:=by simp [h0]
  have hR3:R=false:=by rw [hR2];simp [h0]
  clear hR2;subst hR3
  go_enter func99,ntmps99
  go_wp2_with (with_reducible first|refine bxA hS fun b1 wb1 hS=>?_|refine bxA hS fun b2 wb2 hS=>?_|refine ldK 1 hS isAgg51 sizeOf51 ?_)
  refine (of05_any ax ay _).mono ?_;rintro e w' ⟨rfl,hq⟩;have hS:=hS.below hq.below hq.drawn;simp only []
  go_wp2_with (with_reducible first|refine alA hS zeroValue152 fun b5 wb5 hS=>?_|refine stA 3 hS sizeOf152 fun _ hS=>?_|refine ldK 1 hS isAgg51 sizeOf51 ?_)
  refine (of05_any bx by' _).mono ?_;rintro e w' ⟨rfl,hq⟩;have hS:=hS.below hq.below hq.drawn;simp only []
  go_wp2_with (with_reducible first|refine alA hS zeroValue152 fun b6 wb6 hS=>?_|refine stA 4 hS sizeOf152 fun _ hS=>?_|refine ldB 1 hS isAgg3 ?_|refine alA hS zeroValue205 fun b7 wb7 hS=>?_|refine stA 5 hS sizeOf205 fun _ hS=>?_|refine ldA 3 hS isAgg152 sizeOf152 ?_|refine ldA 4 hS isAgg152 sizeOf152 ?_|refine ldA 2 hS isAgg152 sizeOf152 ?_)
  refine (sd _).mono ?_;rintro e w' ⟨rfl,hq⟩;have hS:=hS.below hq.below hq.drawn;simp only []
  go_wp2_with (first|((with_reducible refine g_load (T:=205) ?_);refine wpList_unwanted rfl ?_;simp only [NRM])|((with_reducible refine g_load (T:=152) ?_);refine wpList_unwanted rfl ?_;simp only [NRM]))
  go_ret;exact⟨rfl,hS.pure _⟩
end Go.Proofs
namespace Go.Hp
open Go Go.RowKit
instance :DecidableEq P3:=fun a b=>decidable_of_iff (a.x=b.x∧a.y=b.y∧a.d=b.d) ⟨fun h=>P3.ext' h.1 h.2.1 h.2.2,fun h=>by subst h;exact⟨rfl,rfl,rfl⟩⟩
def tc (p:P3):List Value:=[.int .i64 p.x,.int .i64 p.y,.int .i64 p.d]
theorem tc_len (p:P3):(tc p).length=3:=rfl
def tp0:P3:=⟨0,0,1⟩
theorem tc_one (l:List P3):∀ v ∈ l.flatMap tc,v.oneCell'=true:=by
 intro v hv;obtain⟨p,_,h⟩:=List.mem_flatMap.1 hv;simp only [tc,List.mem_cons,List.not_mem_nil,or_false] at h
 rcases h with rfl|rfl|rfl <;> rfl
structure TL (l:List P3):Prop where
 ok:∀ p ∈ l,p.ok∧p.bd
 sorted:(l.map P3.pt).Pairwise Pt.lt
theorem TL.nil:TL []:=⟨by simp,by simp⟩
theorem nth_mapP {l:List P3} {i:Nat} (hi:i<l.length):nth pt0 (l.map P3.pt) i=(nth tp0 l i).pt:=by
 rw [nth_eq _ _ _ (by simpa using hi),nth_eq _ _ _ hi,List.getElem_map]
theorem TL.insert {l:List P3} {p:P3} {k:Nat} (h:TL l) (hp:p.ok∧p.bd) (hk:k≤l.length) (hlo:∀ j,j<k→(nth tp0 l j).pt.lt p.pt) (hhi:k<l.length→¬ (nth tp0 l k).pt.lt p.pt) (hne:¬ (k<l.length∧nth tp0 l k=p)):TL (l.take k++p::l.drop k)∧∀ x,x ∈ l.take k++p::l.drop k↔x ∈ l∨x=p:=by
 have hst:Stands (l.map P3.pt) p.pt k:=by
  refine⟨by simpa using hk,fun j hj=>by rw [nth_mapP (by omega)];exact hlo j hj,fun j hj hjl=>?_⟩;have hjl':j<l.length:=by simpa using hjl
  rw [nth_mapP hjl'];intro hlt
  rcases Nat.lt_or_eq_of_le hj with h1|h1
  ·have h2:=List.pairwise_iff_getElem.1 h.sorted k j (by simp;omega) (by simpa using hjl') h1
   rw [List.getElem_map,List.getElem_map,← nth_eq tp0 l k (by omega),← nth_eq tp0 l j hjl'] at h2;exact hhi (by omega) (Pt.lt_trans h2 hlt)
  ·subst h1;exact hhi hjl' hlt
 have hne2:¬ (k<(l.map P3.pt).length∧nth pt0 (l.map P3.pt) k=p.pt):=by
  rintro⟨h1,h2⟩;have h1':k<l.length:=by simpa using h1
  rw [nth_mapP h1'] at h2;exact hne ⟨h1',P3.inj (h.ok _ (nth_mem tp0 l k h1')).1 hp.1 h2⟩
 have hmem:∀ x,x ∈ l.take k++p::l.drop k↔x ∈ l∨x=p:=by
  intro x
  conv=>rhs;rw [← List.take_append_drop k l]
  simp only [List.mem_append,List.mem_cons]
  constructor
  ·rintro (h|h|h)
   ·exact .inl (.inl h)
   ·exact .inr h
   ·exact .inl (.inr h)
  ·rintro ((h|h)|h)
   ·exact .inl h
   ·exact .inr (.inr h)
   ·exact .inr (.inl h)
 refine⟨⟨fun x hx=>?_,?_⟩,hmem⟩
 ·rcases (hmem x).1 hx with h1|rfl
  ·exact h.ok x h1
  ·exact hp
 ·rw [List.map_append,List.map_cons,List.map_take,List.map_drop]
  exact hst.sorted h.sorted hne2
end Go.Hp
namespace Go.Proofs
open Go.Proofs.Tryz
open Go.RowKit Go.Hp
theorem equalT (a b:P3) (w:World):(Op.equalIn 10000 152 (.agg #[.int .i64 a.x,.int .i64 a.y,.int .i64 a.d]) (.agg #[.int .i64 b.x,.int .i64 b.y,.int .i64 b.d])).run Tryz.prog w=.ok (decide (a=b)) w:=by
 obtain⟨x,y,z⟩:=a;obtain⟨u,v,t⟩:=b;have he:((⟨x,y,z⟩:P3)=⟨u,v,t⟩)↔(x=u∧y=v∧z=t):=by simp
 simp only [he]
 by_cases h1:x=u
 ·by_cases h2:y=v
  ·by_cases h3:z=t
   ·subst h1 h2 h3
    go_simp
   ·go_simp
  ·go_simp
 ·go_simp
theorem infoT:(Tryz.prog.info? 152).map (fun i=>(i.zero,i.size,i.bytes))=some (some (.agg #[.int .i64 0,.int .i64 0,.int .i64 0]),3,24):=by kernel_rfl
theorem put08_any (ad:Option Addr) (n c:Nat) (l:List P3) (p:P3) (w:World) (S:Nat→Prop) (hL:Liv w S) (hv:SlC w S 3 (.slice ad n c) l.length (l.flatMap tc)) (hl:TL l) (hp:p.ok∧p.bd) (hle:l.length≤100000) :
 Calls Tryz.prog 96 #[.slice ad n c,.agg #[.int .i64 p.x,.int .i64 p.y,.int .i64 p.d]] w fun e w'=>∃ ad' n' c' l' S',e=.returned (.slice ad' n' c')∧Pure w S w' S'∧SlC w' S' 3 (.slice ad' n' c') l'.length (l'.flatMap tc)∧TL l'∧(∀ x,x ∈ l'↔x ∈ l∨x=p)∧l'.length≤l.length+1:=by
 obtain rfl:n=l.length:=by obtain⟨h1,a,cap,h2,_⟩:=hv;cases h2;rfl
 have hvF:SlC w (Old w) 3 _ _ _:=hv.weaken hL
 have hcap:l.length≤c:=by
  obtain⟨_,a,cap,h2,h3,_⟩:=hv;simp only [Value.slice.injEq] at h2;omega
 replace hl:=Hd hl;obtain⟨hS,hF0,hO0,hp0⟩:=st0 hL
 go_enter func96,ntmps96
 go_wp2_with (with_reducible refine bxA hS fun bx wbx hS=>?_)
 go_loopw [5] (fun v wr=>∃ k:Nat,k≤l.length∧v=.int .i64 (k:Int)∧Heap w wr [.frz (Old w) w,.blk bx (.cells #[.int .i64 p.x,.int .i64 p.y,.int .i64 p.d] 152 (0,0))]∧∀ j,j<k→(nth tp0 l j).pt.lt p.pt) (fun v _=>l.length - (intOf v).toNat)
 case atStart=>exact⟨0,by omega,rfl,hS,fun j hj=>by omega⟩
 case round =>
  clear hS;obtain⟨k,hk,rfl,hS,hlo⟩:=hrel;replace hlo:=Hd hlo
  by_cases hkl:k<l.length
  ·obtain⟨q,hq⟩:∃ q,nth tp0 l k=q:=⟨_,rfl⟩
   have hc:=flat_cell tc_len tp0 hkl;rw [hq] at hc;replace hc:((l.flatMap tc).drop (k*3)).take 3=[.int .i64 q.x,.int .i64 q.y,.int .i64 q.d]:=hc;have hqo:=hl.out.ok q (by rw [← hq];exact nth_mem tp0 l k hkl);have cm:=fun w=>cmp05_any q p w hqo.2 hp.2
   have hlow:=cmp3_low q p;rw [← P3.lt_iff hqo.1 hp.1] at hlow;obtain⟨r,hr⟩:∃ r,cmp3 q p=r:=⟨_,rfl⟩;simp only [hr] at cm;rw [hr] at hlow;have hins:=fun h1 h2=>hl.out.insert hp (show k≤l.length by omega) hlo.out h1 h2
   rw [hq] at hins
   by_cases hlt:q.pt.lt p.pt
   ·have hd1:decide (r<0)=true:=by simpa using hlow.2 hlt
    have hlo2:∀ j,j<k+1→(nth tp0 l j).pt.lt p.pt:=fun j hj=>by
     by_cases e:j=k
     ·subst e;rw [hq];exact hlt
     ·exact hlo.out j (by omega)
    replace hlo2:=Hd hlo2;clear hq hqo hlow hr hins hlt;go_wp2;refine rg0 [.p 0,.p 1,.p 2,.p 3,.p 4,.p 5,.p 6,.p 7,.r 8,.r 9,.e 10,.p 11,.p 12] [] hS fun w1 hS=>?_
    have hC:=hS
    repeat (with_reducible first|refine skL ?_|refine sixE underlying29 sizeOf152 hvF hc fun bq oq hcellq=>?_|refine sldG isAgg152 sizeOf152 ?_|refine sldA 1 isAgg152 sizeOf152 ?_|refine spL ?_)
    refine exL ?_
    go_wp2_with (fail)
    refine (cm _).mono ?_;rintro e w' ⟨rfl,hq⟩;simp only [];go_step;have hS:=hS.below hq.below hq.drawn;have hC:=hC.below hq.below hq.drawn;refine ext_end hC ?_;refine mvs ?_;refine snL ?_;clear hC;go_wp2;go_roundw
    case rel=>exact⟨k+1,by omega,by simp,hS,hlo2.out⟩
    case measure=>simp [intOf];omega
   ·have hd1:decide (r<0)=false:=by simpa using fun h=>hlt (hlow.1 h)
    replace hins:=Hd (fun h=>hins (fun _=>hlt) h);have HE:∀ w,(Op.equalIn 10000 152 (.agg #[.int .i64 q.x,.int .i64 q.y,.int .i64 q.d]) (.agg #[.int .i64 p.x,.int .i64 p.y,.int .i64 p.d])).run Tryz.prog w=.ok (decide (q=p)) w:=fun w=>equalT q p w
    by_cases he:q=p
    ·have hd2:decide (q=p)=true:=by simpa using he
     rw [hd2] at HE;have hmem:p ∈ l:=by rw [← he,← hq];exact nth_mem tp0 l k hkl
     replace hmem:=Hd hmem;clear hq hqo hlow hr hins hlt he hd2;go_wp2;refine rg0 [.p 0,.p 1,.p 2,.p 3,.p 4,.p 5,.p 6,.p 7,.r 8,.r 9,.e 10,.p 11,.p 12] [] hS fun w1 hS=>?_
     have hC:=hS
     repeat (with_reducible first|refine skL ?_|refine sixE underlying29 sizeOf152 hvF hc fun bq oq hcellq=>?_|refine sldG isAgg152 sizeOf152 ?_|refine sldA 1 isAgg152 sizeOf152 ?_|refine spL ?_)
     refine exL ?_
     go_wp2_with (fail)
     refine (cm _).mono ?_;rintro e w' ⟨rfl,hq⟩;simp only [];go_step;have hS:=hS.below hq.below hq.drawn;have hC:=hC.below hq.below hq.drawn;refine ext_end hC ?_;refine mvs ?_;refine snL ?_;clear hC;go_wp2;refine rg0 [.p 0,.p 1,.p 2,.p 3,.p 4,.p 5,.p 6,.p 7,.r 8,.r 9,.p 10,.p 11] [] hS fun w1 hS=>?_
     repeat (with_reducible first|refine skL ?_|refine sixE underlying29 sizeOf152 hvF hc fun bq oq hcellq=>?_|refine sldG isAgg152 sizeOf152 ?_|refine sldA 1 isAgg152 sizeOf152 ?_|refine spL ?_)
     refine snL ?_;go_wp2;go_ret;exact⟨ad,l.length,c,l,S,rfl,hS.pure S,hv.at hS hF0,hl.out,fun x=>⟨.inl,fun h=>h.elim id (fun e=>e ▸ hmem.out)⟩,by omega⟩
    ·have hd2:decide (q=p)=false:=by simpa using he
     rw [hd2] at HE;have hins2:=hins.out (fun h=>he h.2);replace hins2:=Hd hins2;clear hq hqo hlow hr hins hlt he hd2;obtain⟨a1,c1,e1⟩:∃ a1 c1,subV ad c 0 k 3=.slice a1 k c1:=⟨_,_,rfl⟩;obtain⟨a2,c2,e2⟩:∃ a2 c2,subV ad c k l.length 3=.slice a2 (l.length - k) c2:=⟨_,_,rfl⟩;have n1:=hvF.sub (j:=0) (m:=k) (by omega) (by omega);have n2:=hvF.sub (j:=k) (m:=l.length) (by omega) (by omega);rw [e1,flat_take tc_len,Nat.zero_mul,List.drop_zero] at n1;rw [e2,flat_take tc_len,List.take_length,flat_drop tc_len] at n2;replace e1:=Hd e1;replace e2:=Hd e2;go_wp2;refine rg0 [.p 0,.p 1,.p 2,.p 3,.p 4,.p 5,.p 6,.p 7,.r 8,.r 9,.e 10,.p 11,.p 12] [] hS fun w1 hS=>?_
     have hC:=hS
     repeat (with_reducible first|refine skL ?_|refine sixE underlying29 sizeOf152 hvF hc fun bq oq hcellq=>?_|refine sldG isAgg152 sizeOf152 ?_|refine sldA 1 isAgg152 sizeOf152 ?_|refine spL ?_)
     refine exL ?_
     go_wp2_with (fail)
     refine (cm _).mono ?_;rintro e w' ⟨rfl,hq⟩;simp only [];go_step;have hS:=hS.below hq.below hq.drawn;have hC:=hC.below hq.below hq.drawn;refine ext_end hC ?_;refine mvs ?_;refine snL ?_;clear hC;go_wp2;refine rg0 [.p 0,.p 1,.p 2,.p 3,.p 4,.p 5,.p 6,.p 7,.r 8,.r 9,.p 10,.p 11] [] hS fun w1 hS=>?_
     repeat (with_reducible first|refine skL ?_|refine sixE underlying29 sizeOf152 hvF hc fun bq oq hcellq=>?_|refine sldG isAgg152 sizeOf152 ?_|refine sldA 1 isAgg152 sizeOf152 ?_|refine spL ?_)
     refine snL ?_;have hS:=hS.addNil 152 3;simp only [NRH] at hS
     go_wp2_with (first|((with_reducible refine g_slice (T:=29) ?_);refine seq_any rfl (any_slice_hiG (T:=29) (m:=k) underlying29 sizeOf152 rfl rfl rfl (by omega) e1.out ?_);simp only [NRM])|((with_reducible refine g_slice (T:=29) ?_);refine seq_any rfl (any_slice_loG (T:=29) (j:=k) underlying29 sizeOf152 rfl rfl rfl (by omega) e2.out ?_);simp only [NRM])|(with_reducible refine ldA 1 hS isAgg152 sizeOf152 ?_)|((with_reducible refine g_bs (T:=29) ?_);refine seq_bs1 (T:=29) (v:=.agg #[.int .i64 _,.int .i64 _,.int .i64 _]) hS underlying29 sizeOf152 zeroValue152 rfl rfl rfl (by decide) (by decide) rfl (fun bl wbl hS=>?_);simp only [NRM];simp only [Value.cells] at hS)|((with_reducible refine g_app ?_);refine seq_append_lit (t:=29) 2 hS underlying29 infoT rfl (by decide) rfl rfl rfl rfl (by simp [Value.oneCell']) (by omega) (by unfold maxLen;omega) (fun _ _ _ hS=>?_);simp only [NRM];simp only [NRH] at hS)|((with_reducible refine g_app ?_);refine seq_append (t:=29) 2 hS underlying29 infoT rfl (by decide) rfl rfl rfl n1 (by simp) (tc_one _) (by omega) (by unfold maxLen;omega) (fun _ _ _ hS=>?_);simp only [NRM];simp only [NRH] at hS;try simp only [Nat.zero_add,List.nil_append] at hS ⊢)|((with_reducible refine g_app ?_);refine seq_append (t:=29) 2 hS underlying29 infoT rfl (by decide) rfl rfl rfl n2 (by simp) (tc_one _) (by omega) (by unfold maxLen;omega) (fun _ _ _ hS=>?_);simp only [NRM];simp only [NRH] at hS))
     go_ret;have hfin:(l.take (k)++p::l.drop (k)).flatMap tc=(l.take (k)).flatMap tc++tc p++(l.drop (k)).flatMap tc:=by simp
     have hlen:(l.take (k)++p::l.drop (k)).length=(k)+1+(l.length - (k)):=by first|(simp;done)|(simp;omega)
     have hsl:=hS.rowSl 2 rfl;refine⟨_,_,_,l.take (k)++p::l.drop (k),_,rfl,hS.handOut hO0 hF0 hp0 (List.mem_of_getElem? (i:=1) rfl),?_,hins2.out.1,hins2.out.2,by rw [hlen];omega⟩;rw [hlen,hfin];exact hsl.weaken fun k h=>.inr h
  ·obtain rfl:k=l.length:=by omega
   have hins2:=hl.out.insert hp (Nat.le_refl _) hlo.out (fun h=>absurd h (Nat.lt_irrefl _)) (fun h=>absurd h.1 (Nat.lt_irrefl _));replace hins2:=Hd hins2;obtain⟨a1,c1,e1⟩:∃ a1 c1,subV ad c 0 l.length 3=.slice a1 l.length c1:=⟨_,_,rfl⟩;obtain⟨a2,c2,e2⟩:∃ a2 c2,subV ad c l.length l.length 3=.slice a2 (l.length - l.length) c2:=⟨_,_,rfl⟩;have n1:=hvF.sub (j:=0) (m:=l.length) (by omega) (by omega);have n2:=hvF.sub (j:=l.length) (m:=l.length) (by omega) (by omega);rw [e1,flat_take tc_len,Nat.zero_mul,List.drop_zero] at n1;rw [e2,flat_take tc_len,List.take_length,flat_drop tc_len] at n2;replace e1:=Hd e1;replace e2:=Hd e2;go_wp2;refine rg0 [.p 0,.p 1,.p 2,.p 3,.p 4,.p 5,.p 6,.p 7,.r 8,.r 9,.e 10,.p 11,.p 12] [] hS fun w1 hS=>?_
   have hC:=hS;refine mvs ?_;refine exL ?_;refine wpList_unwanted rfl ?_;refine ext_end hC ?_;refine mvs ?_;refine snL ?_;clear hC;go_wp2;refine rg0 [.p 0,.p 1,.p 2,.p 3,.p 4,.p 5,.p 6,.p 7,.r 8,.r 9,.p 10,.p 11] [] hS fun w1 hS=>?_
   refine mvs ?_;refine snL ?_;have hS:=hS.addNil 152 3;simp only [NRH] at hS
   go_wp2_with (first|((with_reducible refine g_slice (T:=29) ?_);refine seq_any rfl (any_slice_hiG (T:=29) (m:=l.length) underlying29 sizeOf152 rfl rfl rfl (by omega) e1.out ?_);simp only [NRM])|((with_reducible refine g_slice (T:=29) ?_);refine seq_any rfl (any_slice_loG (T:=29) (j:=l.length) underlying29 sizeOf152 rfl rfl rfl (by omega) e2.out ?_);simp only [NRM])|(with_reducible refine ldA 1 hS isAgg152 sizeOf152 ?_)|((with_reducible refine g_bs (T:=29) ?_);refine seq_bs1 (T:=29) (v:=.agg #[.int .i64 _,.int .i64 _,.int .i64 _]) hS underlying29 sizeOf152 zeroValue152 rfl rfl rfl (by decide) (by decide) rfl (fun bl wbl hS=>?_);simp only [NRM];simp only [Value.cells] at hS)|((with_reducible refine g_app ?_);refine seq_append_lit (t:=29) 2 hS underlying29 infoT rfl (by decide) rfl rfl rfl rfl (by simp [Value.oneCell']) (by omega) (by unfold maxLen;omega) (fun _ _ _ hS=>?_);simp only [NRM];simp only [NRH] at hS)|((with_reducible refine g_app ?_);refine seq_append (t:=29) 2 hS underlying29 infoT rfl (by decide) rfl rfl rfl n1 (by simp) (tc_one _) (by omega) (by unfold maxLen;omega) (fun _ _ _ hS=>?_);simp only [NRM];simp only [NRH] at hS;try simp only [Nat.zero_add,List.nil_append] at hS ⊢)|((with_reducible refine g_app ?_);refine seq_append (t:=29) 2 hS underlying29 infoT rfl (by decide) rfl rfl rfl n2 (by simp) (tc_one _) (by omega) (by unfold maxLen;omega) (fun _ _ _ hS=>?_);simp only [NRM];simp only [NRH] at hS))
   go_ret;have hfin:(l.take (l.length)++p::l.drop (l.length)).flatMap tc=(l.take (l.length)).flatMap tc++tc p++(l.drop (l.length)).flatMap tc:=by simp
   have hlen:(l.take (l.length)++p::l.drop (l.length)).length=(l.length)+1+(l.length - (l.length)):=by first|(simp;done)|(simp;omega)
   have hsl:=hS.rowSl 2 rfl;refine⟨_,_,_,l.take (l.length)++p::l.drop (l.length),_,rfl,hS.handOut hO0 hF0 hp0 (List.mem_of_getElem? (i:=1) rfl),?_,hins2.out.1,hins2.out.2,by rw [hlen];omega⟩;rw [hlen,hfin];exact hsl.weaken fun k h=>.inr h
end Go.Proofs
