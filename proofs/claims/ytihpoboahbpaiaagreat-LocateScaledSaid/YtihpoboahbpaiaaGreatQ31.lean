/- Texts for the walk of the law: E17 E18 E19 FQ EI. -/
import Derived.Test.YtihpoboahbpaiaaGreatQ30
set_option maxRecDepth 100000
set_option maxHeartbeats 16000000
set_option linter.unusedVariables false
set_option linter.unusedSimpArgs false
namespace Go.Hp
open Go Go.RowKit
def crsZ (es:List Ed) (h:Nat):Gp:=if h % 2=1 then ⟨-(nth ed0 es (h / 2)).dir.x,-(nth ed0 es (h / 2)).dir.y⟩ else (nth ed0 es (h / 2)).dir
def outs1 (es:List Ed) (v i:Nat):List Nat:=if (nth ed0 es i).a=v then [2*i] else if (nth ed0 es i).b=v then [2*i+1] else []
def outsTo (es:List Ed) (v:Nat):Nat→List Nat
 | 0=>[]
 | k+1=>outsTo es v k++outs1 es v k
def outs (es:List Ed) (v:Nat):List Nat:=outsTo es v es.length
def crossZ (a b:Gp):Int:=a.x*b.y - a.y*b.x
theorem tdiv_exact {x:Int} {g:Nat} (h:(g:Int) ∣ x):x.tdiv g*g=x:=Int.tdiv_mul_cancel h
theorem dirZ_dir {s:Sz} (h:s.ok):(dirZ s).dir:=by
 obtain⟨ha,hb,hne⟩:=h;unfold Gp.ok okC at ha hb
 have hne2:¬ (s.b.x - s.a.x=0∧s.b.y - s.a.y=0):=fun h=>hne (by
  obtain⟨⟨ax,ay⟩,⟨bx,by'⟩⟩:=s;simp only at h;simp only [Gp.mk.injEq];omega)
 obtain⟨X,hX⟩:∃ X,X=s.b.x - s.a.x:=⟨_,rfl⟩;obtain⟨Y,hY⟩:∃ Y,Y=s.b.y - s.a.y:=⟨_,rfl⟩;unfold dirZ;rw [← hX,← hY] at hne2 ⊢;have d1:=natAbs_tdiv_le X (Int.gcd X Y);have d2:=natAbs_tdiv_le Y (Int.gcd X Y);have e1:=tdiv_exact (x:=X) (g:=Int.gcd X Y) (Int.gcd_dvd_left ..);have e2:=tdiv_exact (x:=Y) (g:=Int.gcd X Y) (Int.gcd_dvd_right ..);have hn:¬ (X.tdiv (Int.gcd X Y:Nat)=0∧Y.tdiv (Int.gcd X Y:Nat)=0):=fun h=>hne2 ⟨by rw [← e1,h.1];simp,by rw [← e2,h.2];simp⟩
 unfold Gp.dir
 split <;> simp only <;> omega
theorem Gp.dir_neg {d:Gp} (h:d.dir):(⟨-d.x,-d.y⟩:Gp).dir:=by
 unfold Gp.dir at *;simp only;omega
theorem turn_lt {a b:Gp}:turnZ a b<0↔halfZ a<halfZ b∨(halfZ a=halfZ b∧0<crossZ a b):=by
 unfold turnZ crossZ
 by_cases h:halfZ a=halfZ b
 ·rw [if_pos h]
  unfold sgnZ
  split
  ·constructor
   ·intro h;omega
   ·intro h;omega
  ·split
   ·constructor
    ·intro _;exact .inr ⟨h,by omega⟩
    ·intro _;omega
   ·constructor
    ·intro h;omega
    ·intro h;omega
 ·rw [if_neg h]
  split
  ·constructor
   ·intro _;exact .inl (by assumption)
   ·intro _;omega
  ·constructor
   ·intro h;omega
   ·intro h;omega
theorem half_cases {d:Gp} (hd:d.dir):(halfZ d=0∧(0<d.y∨(d.y=0∧0<d.x)))∨(halfZ d=1∧(d.y<0∨(d.y=0∧d.x<0))):=by
 unfold halfZ Gp.dir at *
 split <;> simp <;> omega
def UpD (d:Gp):Prop:=0<d.y∨(d.y=0∧0<d.x)
theorem cross_id (a b c:Gp):crossZ a c*b.y=crossZ a b*c.y+crossZ b c*a.y∧crossZ a c*b.x=crossZ a b*c.x+crossZ b c*a.x:=by
 unfold crossZ
 constructor <;> grind
theorem pos_of_mul {x y:Int} (hy:0<y) (h:0<x*y):0<x:=by
 rcases Int.lt_trichotomy x 0 with h1|h1|h1
 ·have:=Int.mul_neg_of_neg_of_pos h1 hy;omega
 ·subst h1;simp at h
 ·exact h1
theorem nonpos_of_mul {x y:Int} (hy:0<y) (h:x*y≤0):x≤0:=by
 rcases Int.lt_trichotomy x 0 with h1|h1|h1
 ·omega
 ·omega
 ·have:=Int.mul_pos h1 hy;omega
theorem up_trans {a b c:Gp} (ha:UpD a) (hb:UpD b) (hc:UpD c) (h1:0<crossZ a b) (h2:0<crossZ b c):0<crossZ a c:=by
 obtain⟨i1,i2⟩:=cross_id a b c;unfold UpD at *
 rcases hb with hb|⟨hb0,hb⟩
 ·apply pos_of_mul hb
  rw [i1];have e1:0≤crossZ a b*c.y:=Int.mul_nonneg (by omega) (by omega);have e2:0≤crossZ b c*a.y:=Int.mul_nonneg (by omega) (by omega)
  rcases ha with ha|⟨ha0,ha⟩
  ·have:=Int.mul_pos h2 ha;omega
  ·rcases hc with hc|⟨hc0,hc⟩
   ·have:=Int.mul_pos h1 hc;omega
   ·exfalso
    unfold crossZ at h2;rw [hc0] at h2;have:=Int.mul_pos hb hc;omega
 ·exfalso
  unfold crossZ at h1;rw [hb0] at h1;have:0≤a.y*b.x:=Int.mul_nonneg (by omega) (by omega);omega
theorem up_ntrans {a b c:Gp} (ha:UpD a) (hb:UpD b) (hc:UpD c) (h1:crossZ a b≤0) (h2:crossZ b c≤0):crossZ a c≤0:=by
 obtain⟨i1,i2⟩:=cross_id a b c;unfold UpD at *
 rcases hb with hb|⟨hb0,hb⟩
 ·apply nonpos_of_mul hb
  rw [i1];have e1:crossZ a b*c.y≤0:=Int.mul_nonpos_of_nonpos_of_nonneg h1 (by omega);have e2:crossZ b c*a.y≤0:=Int.mul_nonpos_of_nonpos_of_nonneg h2 (by omega);omega
 ·have hc0:c.y=0:=by
   unfold crossZ at h2;rw [hb0] at h2
   rcases hc with hc|⟨hc,_⟩
   ·have:=Int.mul_pos hb hc;omega
   ·exact hc
  unfold crossZ;rw [hc0];have:0≤a.y*c.x:=Int.mul_nonneg (by omega) (by omega);omega
def Gp.neg (d:Gp):Gp:=⟨-d.x,-d.y⟩
theorem cross_neg (a b:Gp):crossZ a.neg b.neg=crossZ a b:=by unfold crossZ Gp.neg;grind
theorem half_up {d:Gp} (hd:d.dir):(halfZ d=0∧UpD d)∨(halfZ d=1∧UpD d.neg):=by
 rcases half_cases hd with h|h
 ·exact .inl h
 ·right
  refine⟨h.1,?_⟩;unfold UpD Gp.neg;simp only;omega
theorem turn_trans {a b c:Gp} (ha:a.dir) (hb:b.dir) (hc:c.dir) (h1:turnZ a b<0) (h2:turnZ b c<0):turnZ a c<0:=by
 rw [turn_lt] at *
 rcases half_up ha with ⟨a1,a2⟩|⟨a1,a2⟩ <;> rcases half_up hb with ⟨b1,b2⟩|⟨b1,b2⟩ <;> rcases half_up hc with ⟨c1,c2⟩|⟨c1,c2⟩ <;> rw [a1,b1] at h1 <;> rw [b1,c1] at h2 <;> rw [a1,c1]
 all_goals first|(left;omega)|(exfalso;omega)|skip
 ·exact .inr ⟨rfl,up_trans a2 b2 c2 (by omega) (by omega)⟩
 ·refine .inr ⟨rfl,?_⟩
  rw [← cross_neg];exact up_trans a2 b2 c2 (by rw [cross_neg];omega) (by rw [cross_neg];omega)
theorem turn_ntrans {a b c:Gp} (ha:a.dir) (hb:b.dir) (hc:c.dir) (h1:¬ turnZ a b<0) (h2:¬ turnZ b c<0):¬ turnZ a c<0:=by
 rw [turn_lt] at *
 rcases half_up ha with ⟨a1,a2⟩|⟨a1,a2⟩ <;> rcases half_up hb with ⟨b1,b2⟩|⟨b1,b2⟩ <;> rcases half_up hc with ⟨c1,c2⟩|⟨c1,c2⟩ <;> rw [a1,b1] at h1 <;> rw [b1,c1] at h2 <;> rw [a1,c1]
 all_goals first|(exfalso;omega)|(intro h;omega)|skip
 ·have:=up_ntrans a2 b2 c2 (by omega) (by omega);omega
 ·have:=up_ntrans a2 b2 c2 (by rw [cross_neg];omega) (by rw [cross_neg];omega)
  rw [cross_neg] at this;omega
theorem turn_irrefl (a:Gp):¬ turnZ a a<0:=by
 rw [turn_lt];have:crossZ a a=0:=by unfold crossZ;grind
 omega
end Go.Hp
namespace Go.Hp
open Go Go.RowKit Go.Sort Go.Shelf Go.Proofs
variable {P:Program} {ρ:Ren} {α:Type} [Inhabited α]
theorem sort1_row (L:SlLaysF.n6 P ρ) (L0:SlLaysF0.n6 P ρ) (enc:α→Value) (h1:OneCell enc) (cf:α→α→Int) (hO:SWO (ltOf cf)) (g:Nat) (cb:Array Value)
 {w0 w:World} {H:List Chunk} {ad:Option Addr} {n cap:Nat} {T:TypeId} {ts:List α} (j:Nat) (hS:Heap w0 w H) (hj:H[j]? = some (.row (.slice ad n cap) T 1 n (ts.map enc))) (hl:n≤100000000) (eg:∀ args w,(callFunc g args).run P w=.ok (.enter g args) w)
 (hcmp:∀ W,Beside w (.row (.slice ad n cap) T 1 n (ts.map enc)) W→∀ x y,Calls P g (#[enc x,enc y]++cb) W fun e w'=>e=.returned (.int .i64 (cf x y))∧Go.RowKit.Below W.heap.size W w'∧W.drawn≤w'.drawn) :
 Calls P (ρ.f 6) #[.slice ad n cap,.func (.func g) #[] cb] w fun e w'=>e=.returned (.tuple #[])∧∃ ts':List α,ts'.Perm ts∧ts'.Pairwise (fun x y=>ltOf cf y x=false)∧Heap w0 w' (H.set j (.row (.slice ad n cap) T 1 n (ts'.map enc))):=by
 have hown:=hS.ok _ (List.mem_of_getElem? hj);obtain⟨hlen,hor⟩:=hown;rw [List.length_map] at hlen;have hlen':ts.length=n:=by omega
 subst hlen'
 rcases hor with ⟨hv,hn⟩|⟨b,cap',cur,hv,hb,hg,hnc,hcm,hcs,htake⟩
 ·simp only [Value.slice.injEq] at hv
  obtain⟨rfl,hx,rfl⟩:=hv;have hxs:ts=[]:=List.eq_nil_of_length_eq_zero hx;subst hxs;refine (AnyF.slices_SortFunc_none L0 none 0 _ w).mono fun e w' ⟨he,hw⟩=>⟨he,[],List.Perm.refl _,List.Pairwise.nil,?_⟩
  subst hw
  have:H.set j (.row (.slice none 0 0) T 1 0 ([].map enc))=H:=by
   apply List.ext_getElem?;intro i;rw [List.getElem?_set]
   split
   ·rename_i h;subst h
    obtain⟨hlt,hq⟩:=List.getElem?_eq_some_iff.1 hj;rw [if_pos hlt,List.getElem?_eq_getElem hlt,hq]
    rfl
   ·rfl
  show Heap w0 w' (H.set j (.row (.slice none 0 0) T 1 0 ([].map enc)));rw [this];exact hS
 ·simp only [Value.slice.injEq] at hv
  obtain⟨rfl,-,rfl⟩:=hv;have htake':cur.toList.take (ts.map enc).length=ts.map enc:=by rw [List.length_map];simpa using htake
  have hHv:=holds_blockG hg htake'
  have hH:Holds enc w b 0 ts.toArray:=by
   intro q hq;have hq':q<ts.length:=by simpa using hq
   have:=hHv q (by simpa using hq');refine⟨?_,this.2⟩;rw [this.1,getElem!_pos _ q (by simpa using hq'),getElem!_pos _ q hq];simp
  have hbl:=(Array.getElem?_eq_some_iff.1 hg).1
  have hput:∀ (m:Nat) (os:Array Obj) (dk:Array α),sortWorld enc w b 0 m dk os=grow (putRow id (Sort.ahead w m) b 0 (dk.toList.map enc).toArray) os:=by
   intro m os dk;unfold sortWorld putRow
   congr 1
   congr 1
   funext cs
   unfold putCells;apply Array.ext
   ·simp
   ·intro q h1 h2
    simp only [Array.getElem_mapIdx]
    by_cases hq:0≤q∧q<0+dk.size
    ·have hq':q<dk.size:=by omega
     simp [hq']
    ·have hq':¬ q<dk.size:=by omega
     simp [hq']
  have hlays:CmpLays1 P g cb enc cf b 0 ts.toArray.size w:=by
   intro m os dk hdk x y
   have hW:Beside w (.row (.slice (some ⟨b,0,none⟩) ts.length cap) T 1 ts.length (ts.map enc)) (sortWorld enc w b 0 m dk os):=by
    rw [hput];have hgr:=grownBy_sortG (w:=w) (g:=b) (n:=m) (os:=os) (dk.toList.map enc).toArray;exact⟨hgr.size,fun i hi hni=>hgr.block i hi (fun e=>hni (by simp only [Chunk.has,Value.ownBlock];exact e.symm))⟩
   refine (hcmp _ hW x y).mono fun e w' ⟨he,hbw,hd⟩=>⟨he,grow_of_below hbw hd⟩
  have hcon:=Any.slices_SortFunc L enc h1 cf hO g cb b 0 cap ts.toArray w eg hlays hH hbl (by simp;omega);rw [List.size_toArray] at hcon;refine hcon.mono fun e w' ⟨he,d',m,os,hperm,hsort,hw⟩=>⟨he,d'.toList,?_,?_,?_⟩
  ·obtain⟨hsz,_,hp⟩:=hperm
   have e1:d'.extract 0 ts.length=d':=by
    have:d'.size=ts.length:=by simpa using hsz
    rw [← this];exact Array.extract_size
   have e2:ts.toArray.extract 0 ts.length=ts.toArray:=by
    simp
   rw [e1,e2] at hp
   simpa using hp
  ·have hsz:d'.size=ts.length:=by simpa using hperm.1
   rw [List.pairwise_iff_getElem];intro i q hi hq hiq;have hi':i<d'.size:=by simpa using hi
   have hq':q<d'.size:=by simpa using hq
   have:=hsort i q (Nat.zero_le _) hiq (by omega);rw [getElem!_pos d' q hq',getElem!_pos d' i hi'] at this
   simpa using this
  ·have hsz:d'.size=ts.length:=by simpa using hperm.1
   have hdl:(d'.toList.map enc).length=ts.length:=by simp [hsz]
   rw [hput] at hw;subst hw;have hgr:=grownBy_sortG (w:=w) (g:=b) (n:=m) (os:=os) (d'.toList.map enc).toArray;refine hS.turn j hj hgr.os hgr.tape hgr.output (drawn_sortG _) hgr.size ?_ (fun k hk=>.inl hk) (fun k hk hnk=>hgr.block k hk (fun e=>hnk (by simp only [Chunk.has,Value.ownBlock];exact e.symm)));refine⟨by omega,.inr ⟨b,cap,_,rfl,Nat.zero_le _,heap_sortG _ hg,hnc,hcm,?_,?_⟩⟩
   ·simp [Go.Sort.putCells,hcs]
   ·rw [Nat.mul_one]
    conv=>lhs;rw [← hdl]
    exact take_putG cur _ (by rw [hdl,hcs];omega)
end Go.Hp
namespace Go.Hp
open Go.Proofs.Tryz
open Go Go.RowKit
theorem tdiv2 (h:Nat):(h:Int).tdiv 2=((h / 2:Nat):Int):=by
 rw [Int.tdiv_eq_ediv_of_nonneg (by omega)];rfl
theorem tmod2 (h:Nat):(h:Int).tmod 2=((h % 2:Nat):Int):=by
 rw [Int.tmod_eq_emod_of_nonneg (by omega)];rfl
end Go.Hp
namespace Go.Proofs
open Go.Proofs.Tryz
open Go.RowKit Go.Hp Go.Sort Go.Shelf
theorem course_any (a1 a2 a3 a4:Option Addr) (n1 c1 n2 c2 n3 c3 n4 c4:Nat) (rs:List ER) (es:List Ed) (h:Nat) (w:World) (S:Nat→Prop) (hL:Liv w S) (hsl:SlC w S 5 (.slice a4 n4 c4) es.length (rs.flatMap ec)) (hes:IsEs w S rs es) (hh:h / 2<es.length) (hd:(nth ed0 es (h / 2)).dir.dir) (hle:h≤1000000) :
 Calls Tryz.prog 93 #[.agg #[.slice a1 n1 c1,.slice a2 n2 c2,.slice a3 n3 c3,.slice a4 n4 c4],.int .i64 (h:Int)] w fun e w'=>e=.returned (.agg #[.int .i64 (crsZ es h).x,.int .i64 (crsZ es h).y])∧Pure w (fun _=>False) w' (fun _=>False):=by
 have hn4:n4=es.length:=by obtain⟨h1,a,cap,h2,_⟩:=hsl;cases h2;rfl
 subst hn4;have hle4:=hsl.le;have hsl:=hsl.old;obtain⟨i,hi⟩:∃ i,h / 2=i:=⟨_,rfl⟩;have hel:=hes.el (h / 2) hh;have hc:=flat_cell ec_len er0 (show i<rs.length by rw [hes.len];omega);obtain⟨D,hD⟩:∃ D,crsZ es h=D:=⟨_,rfl⟩;rw [hD];unfold crsZ at hD;rw [hi] at hD hel hd hh;obtain⟨r,hr⟩:∃ r,nth er0 rs i=r:=⟨_,rfl⟩;rw [hr] at hc hel;rw [← hel.dir] at hD hd;have q1:=tdiv2 h;have q2:=tmod2 h;rw [hi] at q1;have q3:IntKind.i64.wrap (i:Int)=(i:Int):=w6;unfold Gp.dir at hd;have q5:IntKind.i64.wrap (-r.dir.x) = -r.dir.x:=w6;have q6:IntKind.i64.wrap (-r.dir.y) = -r.dir.y:=w6;clear hes hel hr hi hd;have hS:=Heap.start w
 by_cases hm:h % 2=1
 ·rw [if_pos hm] at hD
  rw [hm] at q2;have q4:(((1:Nat):Int) == 1)=true:=rfl;replace hD:=Hd hD;clear hm
  go_enter func93,ntmps93
  go_wp2_with (first|(with_reducible first|refine bxA (T:=34) (v:=.agg _) hS fun bx wbx hS=>?_|refine alA hS zeroValue29 fun br wbr hS=>?_|refine ldB 1 hS isAgg32 ?_)|((with_reducible refine ixE underlying32 sizeOf101 hsl hc fun bq oq hcellq=>?_);have hp3:CellsAt _ _ ⟨bq,oq+3,none⟩ [.int .i64 r.dir.x,.int .i64 r.dir.y]:=hcellq.part 3 2)|(with_reducible first|refine ldG hS isAgg29 sizeOf29 ?_|refine alA hS zeroValue29 fun bd wbd hS=>?_|refine stA (u:=.agg #[_,_]) 3 hS sizeOf29 fun _ hS=>?_|refine ldB 3 hS isAgg3 ?_|refine ldA 3 hS isAgg29 sizeOf29 ?_|refine stA (u:=.agg #[_,_]) 2 hS sizeOf29 fun _ hS=>?_))
  exact ret_c 2 hS rfl rfl rfl isAgg29 sizeOf29 rfl rfl ⟨by first|(rw [← hD.out];done)|(rw [← hD.out];rfl),hS.pure _⟩
 ·rw [if_neg hm] at hD
  rw [show h % 2=0 by omega] at q2;replace hD:=Hd hD;clear hm
  go_enter func93,ntmps93
  go_wp2_with (first|(with_reducible first|refine bxA (T:=34) (v:=.agg _) hS fun bx wbx hS=>?_|refine alA hS zeroValue29 fun br wbr hS=>?_|refine ldB 1 hS isAgg32 ?_)|((with_reducible refine ixE underlying32 sizeOf101 hsl hc fun bq oq hcellq=>?_);have hp3:CellsAt _ _ ⟨bq,oq+3,none⟩ [.int .i64 r.dir.x,.int .i64 r.dir.y]:=hcellq.part 3 2)|(with_reducible first|refine ldG hS isAgg29 sizeOf29 ?_|refine alA hS zeroValue29 fun bd wbd hS=>?_|refine stA (u:=.agg #[_,_]) 3 hS sizeOf29 fun _ hS=>?_|refine ldB 3 hS isAgg3 ?_|refine ldA 3 hS isAgg29 sizeOf29 ?_|refine stA (u:=.agg #[_,_]) 2 hS sizeOf29 fun _ hS=>?_))
  exact ret_c 2 hS rfl rfl rfl isAgg29 sizeOf29 rfl rfl ⟨by first|(rw [← hD.out];done)|(rw [← hD.out];rfl),hS.pure _⟩
theorem crsZ_dir {es:List Ed} {h:Nat} (hd:(nth ed0 es (h / 2)).dir.dir):(crsZ es h).dir:=by
 unfold crsZ;split
 ·exact Gp.dir_neg hd
 ·exact hd
theorem turnH_any (b:Nat) (a1 a2 a3 a4:Option Addr) (n1 c1 n2 c2 n3 c3 n4 c4:Nat) (rs:List ER) (es:List Ed) (x y:Nat) (w:World) (S:Nat→Prop) (hL:Liv w S) (hb:CellsAt w (Old w) ⟨b,0,none⟩ [.slice a1 n1 c1,.slice a2 n2 c2,.slice a3 n3 c3,.slice a4 n4 c4]) (hsl:SlC w S 5 (.slice a4 n4 c4) es.length (rs.flatMap ec)) (hes:IsEs w S rs es)
 (hx:x / 2<es.length) (hy:y / 2<es.length) (hdx:(nth ed0 es (x / 2)).dir.dir) (hdy:(nth ed0 es (y / 2)).dir.dir) (hlx:x≤1000000) (hly:y≤1000000) :
 Calls Tryz.prog 92 #[.int .i64 (x:Int),.int .i64 (y:Int),.pointer (some ⟨b,0,none⟩)] w fun e w'=>e=.returned (.int .i64 (turnZ (crsZ es x) (crsZ es y)))∧Pure w S w' S:=by
 have cx:=fun w' hL' hsl' hes'=>course_any a1 a2 a3 a4 n1 c1 n2 c2 n3 c3 n4 c4 rs es x w' S hL' hsl' hes' hx hdx hlx
 have cy:=fun w' hL' hsl' hes'=>course_any a1 a2 a3 a4 n1 c1 n2 c2 n3 c3 n4 c4 rs es y w' S hL' hsl' hes' hy hdy hly
 have tn:=fun w' hL'=>turn_any (crsZ es x) (crsZ es y) w' S hL' (crsZ_dir hdx) (crsZ_dir hdy)
 obtain⟨dx,e1⟩:∃ dx,crsZ es x=dx:=⟨_,rfl⟩;obtain⟨dy,e2⟩:∃ dy,crsZ es y=dy:=⟨_,rfl⟩;obtain⟨t,e3⟩:∃ t,turnZ dx dy=t:=⟨_,rfl⟩;rw [e1] at cx tn;rw [e2] at cy tn;rw [e1,e2,e3];rw [e3] at tn;clear e1 e2 e3 hx hy hdx hdy;obtain⟨hS,hF0,hO0,hp0⟩:=st0 hL
 go_enter func92,ntmps92
 go_wp2;refine rg0 [.r 0,.p 1,.r 3,.p 4,.e 2,.e 5,.e 6,.p 7,.p 8,.p 9,.p 10,.p 11] [] hS fun w1 hS=>?_
 have hC:=hS
 repeat (with_reducible first|refine skL ?_|refine sldG isAgg34 sizeOf34 ?_|refine spL ?_)
 refine exL ?_
 go_wp2_with (fail)
 refine (cx _ (Liv.at hS hF0) (hsl.at hS hF0) (hes.at hS hF0)).mono ?_;rintro e w' ⟨rfl,hq⟩;simp only [];go_step;have hS:=hS.below hq.below hq.drawn;have hC:=hC.below hq.below hq.drawn;refine ext_end hC ?_;refine mvs ?_;refine exL ?_
 go_wp2_with (fail)
 refine (cy _ (Liv.at hS hF0) (hsl.at hS hF0) (hes.at hS hF0)).mono ?_;rintro e w' ⟨rfl,hq⟩;simp only [];go_step;have hS:=hS.below hq.below hq.drawn;have hC:=hC.below hq.below hq.drawn;refine ext_end hC ?_;refine mvs ?_;refine exL ?_
 go_wp2_with (fail)
 refine (tn _ (Liv.at hS hF0)).mono ?_;rintro e w' ⟨rfl,hq⟩;simp only [];go_step;have hS:=hS.below hq.below hq.drawn;have hC:=hC.below hq.below hq.drawn;refine ext_end hC ?_;refine mvs ?_;refine snL ?_;go_wp2;go_ret;exact⟨rfl,hS.pure S⟩
structure AroundL (es:List Ed) (v:Nat) (l:List Nat):Prop where
 perm:l.Perm (outs es v)
 sorted:l.Pairwise (fun g h=>¬ turnZ (crsZ es h) (crsZ es g)<0)
theorem outs1_lt {es:List Ed} {v i h:Nat} (hh:h ∈ outs1 es v i):h / 2=i:=by
 unfold outs1 at hh
 split at hh
 ·rw [List.mem_singleton] at hh;omega
 ·split at hh
  ·rw [List.mem_singleton] at hh;omega
  ·cases hh
theorem outsTo_lt {es:List Ed} {v:Nat}:∀ {k h:Nat},h ∈ outsTo es v k→h / 2<k
 | 0,h,hh=>by cases hh
 | k+1,h,hh=>by
  rcases List.mem_append.1 hh with h1|h1
  ·have:=outsTo_lt h1;omega
  ·have:=outs1_lt h1;omega
theorem outsTo_len {es:List Ed} {v:Nat}:∀ k:Nat,(outsTo es v k).length≤k
 | 0=>Nat.le_refl _
 | k+1=>by
  have:=outsTo_len (es:=es) (v:=v) k;have h1:(outs1 es v k).length≤1:=by unfold outs1;split <;> (try split) <;> simp
  simp only [outsTo,List.length_append];omega
def HIdx (es:List Ed):Type:={ h:Nat // h / 2<es.length }
theorem aroundSort {w wr w2:World} (bx:Nat) (a1 a2 a3 a4:Option Addr) (n1 c1 n2 c2 n3 c3 n4 c4:Nat) (rs:List ER) (es:List Ed) (ad:Option Addr) (c:Nat) (O:List Nat) (S:Nat→Prop) {F:Nat→Prop} {T:TypeId}
 (hS:Heap w w2 [.frz F wr,.blk bx (.cells #[.slice a1 n1 c1,.slice a2 n2 c2,.slice a3 n3 c3,.slice a4 n4 c4] T (0,0)),.row (.slice ad O.length c) 3 1 O.length (iv (zs O))]) (hF:∀ k,S k→F k) (hsl:SlC wr S 5 (.slice a4 n4 c4) es.length (rs.flatMap ec)) (hes:IsEs wr S rs es) (hd:∀ e ∈ es,e.dir.dir) (hel:es.length≤400000) (hO:∀ h ∈ O,h / 2<es.length) (hOl:O.length≤1000000) :
 Calls Tryz.prog 91 #[.slice ad O.length c,.func (.func 92) #[] #[.pointer (some ⟨bx,0,none⟩)]] w2 fun e w'=>e=.returned (.tuple #[])∧∃ l:List Nat,l.Perm O∧l.Pairwise (fun g h=>¬ turnZ (crsZ es h) (crsZ es g)<0)∧Heap w w' [.frz F wr,.blk bx (.cells #[.slice a1 n1 c1,.slice a2 n2 c2,.slice a3 n3 c3,.slice a4 n4 c4] T (0,0)),.row (.slice ad O.length c) 3 1 O.length (iv (zs l))]:=by
 by_cases h0:es.length=0
 ·have hO0:O=[]:=by
   cases O with
   | nil=>rfl
   | cons h t=>have:=hO h (by simp);omega
  subst hO0;refine (AnyF.slices_SortFunc_none Tryz.laysSI06 ad c _ w2).mono fun e w' ⟨he,hw⟩=>⟨he,[],List.Perm.refl _,List.Pairwise.nil,?_⟩
  subst hw;exact hS
 ·haveI:Inhabited (HIdx es):=⟨⟨0,by omega⟩⟩
  have hdir:∀ x:HIdx es,(crsZ es x.1).dir:=fun x=>crsZ_dir (hd _ (nth_mem ed0 es _ x.2))
  obtain⟨ts,hts⟩:∃ ts:List (HIdx es),ts.map (·.1)=O:=by
   obtain⟨g,hg⟩:∃ g:{ x // x ∈ O }→HIdx es,∀ x,(g x).1=x.1:=⟨fun x=>⟨x.1,hO x.1 x.2⟩,fun x=>rfl⟩;refine⟨O.attach.map g,?_⟩
   have e:(O.attach.map g).map (·.1)=O.attach.map (·.1):=by
    apply List.ext_getElem
    ·simp only [List.length_map]
    ·intro i h1 h2
     rw [List.getElem_map,List.getElem_map,List.getElem_map];exact hg _
   rw [e];exact List.attach_map_subtype_val O
  have henc:∀ ts:List (HIdx es),ts.map (fun x=>Value.int .i64 (x.1:Int))=iv (zs (ts.map (·.1))):=fun ts=>by simp [iv,zs]
  have hlen:ts.length=O.length:=by rw [← hts,List.length_map]
  have hj:[Chunk.frz F wr,.blk bx (.cells #[.slice a1 n1 c1,.slice a2 n2 c2,.slice a3 n3 c3,.slice a4 n4 c4] T (0,0)),.row (.slice ad O.length c) 3 1 O.length (iv (zs O))][2]? = some (.row (.slice ad O.length c) 3 1 O.length (ts.map (fun x=>Value.int .i64 (x.1:Int)))):=by
   rw [henc,hts];rfl
  refine (sort1_row Tryz.laysSI6 Tryz.laysSI06 (fun x:HIdx es=>Value.int .i64 (x.1:Int)) (fun _=>rfl) (fun x y=>turnZ (crsZ es x.1) (crsZ es y.1)) ⟨fun x=>?_,fun x y z h1 h2=>?_,fun x y z h1 h2=>?_⟩ 92 #[.pointer (some ⟨bx,0,none⟩)] 2 hS hj (by omega) (enters_of func92 (by kernel_rfl) rfl) ?_).mono ?_
  ·unfold ltOf;rw [decide_eq_false_iff_not];exact turn_irrefl _
  ·unfold ltOf at *
   rw [decide_eq_true_iff] at *;exact turn_trans (hdir x) (hdir y) (hdir z) h1 h2
  ·unfold ltOf at *
   rw [decide_eq_false_iff_not] at *;exact turn_ntrans (hdir x) (hdir y) (hdir z) h1 h2
  ·intro W hW x y
   rw [henc,hts] at hW;have hkeep:=Bsd.keep hS hF (j:=1) rfl hW;have hliv:=Bsd.liv hS hF hW;have hbb:w2.heap[bx]? = some (.cells #[.slice a1 n1 c1,.slice a2 n2 c2,.slice a3 n3 c3,.slice a4 n4 c4] T (0,0)):=hS.blk (List.mem_of_getElem? (i:=1) rfl);have hbl:=(Array.getElem?_eq_some_iff.1 hbb).1
   have hWb:W.heap[bx]? = some (.cells #[.slice a1 n1 c1,.slice a2 n2 c2,.slice a3 n3 c3,.slice a4 n4 c4] T (0,0)):=by
    rw [hW.2 bx hbl ?_]
    ·exact hbb
    ·have:=List.pairwise_iff_getElem.1 hS.apart 1 2 (by simp) (by simp) (by omega)
     exact this bx rfl
   have hcb:CellsAt W (Old W) ⟨bx,0,none⟩ [.slice a1 n1 c1,.slice a2 n2 c2,.slice a3 n3 c3,.slice a4 n4 c4]:=by
    refine⟨fun _=>rfl,fun _=>Nat.lt_of_lt_of_le hbl hW.1,fun q u hu=>?_⟩;rw [Nat.zero_add,cell_of_row W bx q _ T (0,0) hWb]
    simpa using hu
   have hx2:=x.2;have hy2:=y.2;exact (turnH_any bx a1 a2 a3 a4 n1 c1 n2 c2 n3 c3 n4 c4 rs es x.1 y.1 W S hliv hcb ((hsl.at hS hF).move hkeep) ((hes.at hS hF).move hkeep) x.2 y.2 (hd _ (nth_mem ed0 es _ x.2)) (hd _ (nth_mem ed0 es _ y.2)) (by omega) (by omega)).mono fun e w' ⟨he,hq⟩=>⟨he,hq.below,hq.drawn⟩
  ·rintro e w' ⟨he,ts',hp,hs,hS'⟩
   refine⟨he,ts'.map (·.1),?_,?_,?_⟩
   ·rw [← hts];exact hp.map _
   ·rw [List.pairwise_map]
    refine hs.imp fun {x y} h=>?_
    unfold ltOf at h
    rwa [decide_eq_false_iff_not] at h
   ·rw [← henc]
    exact hS'
theorem around_any (a1 a2 a3 a4:Option Addr) (n1 c1 n2 c2 n3 c3 n4 c4:Nat) (rs:List ER) (es:List Ed) (v:Nat) (w:World) (S:Nat→Prop) (hL:Liv w S) (hsl:SlC w S 5 (.slice a4 n4 c4) es.length (rs.flatMap ec)) (hes:IsEs w S rs es) (hd:∀ e ∈ es,e.dir.dir) (hel:es.length≤400000) (hv:v<n3) (hn3:n3≤1000000) :
 Calls Tryz.prog 40 #[.agg #[.slice a1 n1 c1,.slice a2 n2 c2,.slice a3 n3 c3,.slice a4 n4 c4],.int .i64 (v:Int)] w fun e w'=>∃ ad n c l,e=.returned (.tuple #[.slice ad n c,.int .i64 0])∧Heap w w' [.frz (Old w) w,.row (.slice ad n c) 3 1 n (iv (zs l))]∧AroundL es v l:=by
 have hn4:n4=es.length:=by obtain⟨h1,a,cap,h2,_⟩:=hsl;cases h2;rfl
 subst hn4;have hslo:=hsl.old;have hd1:decide ((v:Int)<0)=false:=by simp
 have hd2:decide ((n3:Int)≤(v:Int))=false:=by simp;omega
 obtain⟨hS,hF0,hO0,hp0⟩:=st0 hL
 go_enter func40,ntmps40
 go_wp2_with (with_reducible first|refine bxA (T:=34) (v:=.agg _) hS fun bx wbx hS=>?_|refine ldB 1 hS isAgg31 ?_|refine ldB 1 hS isAgg32 ?_)
 have hS:=hS.addNil 3 1;simp only [List.cons_append,List.nil_append] at hS
 try try simp only [NRG]
 go_loopw [6,21] (fun v6 v21 wr=>∃ (k:Nat) (ad:Option Addr) (c:Nat),k≤es.length∧v21=.int .i64 (k:Int)∧v6=.slice ad (outsTo es v k).length c∧Heap w wr [.frz (Old w) w,.blk bx (.cells #[.slice a1 n1 c1,.slice a2 n2 c2,.slice a3 n3 c3,.slice a4 es.length c4] 34 (0,0)),.row (.slice ad (outsTo es v k).length c) 3 1 (outsTo es v k).length (iv (zs (outsTo es v k)))]) (fun _ v21 _=>es.length - (intOf v21).toNat)
 case atStart=>exact⟨0,none,0,by omega,rfl,rfl,hS⟩
 case round =>
  clear hS;obtain⟨k,ad,c,hk,rfl,rfl,hS⟩:=hrel;have hol:=outsTo_len (es:=es) (v:=v) k
  by_cases hkl:k<es.length
  ·have hc:=flat_cell ec_len er0 (show k<rs.length by rw [hes.len];omega)
   have hE:=hes.el k hkl;obtain⟨r,hr⟩:∃ r,nth er0 rs k=r:=⟨_,rfl⟩;rw [hr] at hc hE;have ha:=hE.a;have hbb:=hE.b;have hnx:outsTo es v (k+1)=outsTo es v k++outs1 es v k:=rfl;unfold outs1 at hnx;rw [← ha,← hbb] at hnx;clear ha hbb hE hr;obtain⟨O,hO⟩:∃ O,outsTo es v k=O:=⟨_,rfl⟩;rw [hO] at hnx hS hol;rw [hO];clear hO;have w1:IntKind.i64.wrap (2*(k:Int))=((2*k:Nat):Int):=w7;have w2:IntKind.i64.wrap (((2*k:Nat):Int)+1)=((2*k+1:Nat):Int):=w7
   by_cases ra:r.a=v
   ·rw [if_pos ra] at hnx
    have q1:((v:Int) == (r.a:Int))=true:=by simp [ra]
    have hlen:(outsTo es v (k+1)).length=O.length+1:=by rw [hnx];simp
    have hzs:iv (zs (outsTo es v (k+1)))=iv (zs O)++[.int .i64 ((2*k:Nat):Int)]:=by rw [hnx];simp [iv,zs]
    replace hlen:=Hd hlen;replace hzs:=Hd hzs;clear hnx ra
    go_wp2_with (first|(with_reducible first|refine ixE underlying32 sizeOf101 hslo hc fun bq oq hcellq=>?_|refine ldG hS isAgg101 sizeOf101 ?_)|((with_reducible refine alA hS zeroValue101 fun b8 wb8 hS=>?_);have hS:=Heap.lastTo [_,_] [_] _ hS;simp only [List.cons_append,List.nil_append] at hS)|(with_reducible first|refine stA (u:=.agg #[_,_,_,_,_]) 2 hS sizeOf101 fun _ hS=>?_|refine ldB 2 hS isAgg3 ?_)|((with_reducible refine g_bs (T:=22) ?_);refine seq_bs1 (T:=22) (v:=.int .i64 _) hS underlying22 sizeOf3 zeroValue3 rfl rfl rfl (by decide) (by decide) rfl (fun bl wbl hS=>?_);simp only [NRM];simp only [Value.cells] at hS)|((with_reducible refine g_app ?_);refine seq_append_lit (t:=22) 3 hS underlying22 infoInt rfl (by decide) rfl rfl rfl rfl (by simp [Value.oneCell']) (by omega) (by unfold maxLen;omega) (fun ad2 cp2 _ hS=>?_);simp only [NRM];simp only [List.set_cons_succ,List.set_cons_zero] at hS))
    go_roundw
    case rel=>exact⟨k+1,ad2,cp2,by omega,by simp,by rw [hlen.out],by rw [hlen.out,hzs.out];exact hS.sb⟩
    case measure=>simp [intOf];omega
   ·rw [if_neg ra] at hnx
    have q1:((v:Int) == (r.a:Int))=false:=by simp;omega
    by_cases rb:r.b=v
    ·rw [if_pos rb] at hnx
     have q2:((v:Int) == (r.b:Int))=true:=by simp [rb]
     have hlen:(outsTo es v (k+1)).length=O.length+1:=by rw [hnx];simp
     have hzs:iv (zs (outsTo es v (k+1)))=iv (zs O)++[.int .i64 ((2*k+1:Nat):Int)]:=by rw [hnx];simp [iv,zs]
     replace hlen:=Hd hlen;replace hzs:=Hd hzs;clear hnx ra rb
     go_wp2_with (first|(with_reducible first|refine ixE underlying32 sizeOf101 hslo hc fun bq oq hcellq=>?_|refine ldG hS isAgg101 sizeOf101 ?_)|((with_reducible refine alA hS zeroValue101 fun b8 wb8 hS=>?_);have hS:=Heap.lastTo [_,_] [_] _ hS;simp only [List.cons_append,List.nil_append] at hS)|(with_reducible first|refine stA (u:=.agg #[_,_,_,_,_]) 2 hS sizeOf101 fun _ hS=>?_|refine ldB 2 hS isAgg3 ?_)|((with_reducible refine g_bs (T:=22) ?_);refine seq_bs1 (T:=22) (v:=.int .i64 _) hS underlying22 sizeOf3 zeroValue3 rfl rfl rfl (by decide) (by decide) rfl (fun bl wbl hS=>?_);simp only [NRM];simp only [Value.cells] at hS)|((with_reducible refine g_app ?_);refine seq_append_lit (t:=22) 3 hS underlying22 infoInt rfl (by decide) rfl rfl rfl rfl (by simp [Value.oneCell']) (by omega) (by unfold maxLen;omega) (fun ad2 cp2 _ hS=>?_);simp only [NRM];simp only [List.set_cons_succ,List.set_cons_zero] at hS))
     go_roundw
     case rel=>exact⟨k+1,ad2,cp2,by omega,by simp,by rw [hlen.out],by rw [hlen.out,hzs.out];exact hS.sb⟩
     case measure=>simp [intOf];omega
    ·rw [if_neg rb,List.append_nil] at hnx
     have q2:((v:Int) == (r.b:Int))=false:=by simp;omega
     replace hnx:=Hd hnx;clear ra rb
     go_wp2_with (first|(with_reducible first|refine ixE underlying32 sizeOf101 hslo hc fun bq oq hcellq=>?_|refine ldG hS isAgg101 sizeOf101 ?_)|((with_reducible refine alA hS zeroValue101 fun b8 wb8 hS=>?_);have hS:=Heap.lastTo [_,_] [_] _ hS;simp only [List.cons_append,List.nil_append] at hS)|(with_reducible first|refine stA (u:=.agg #[_,_,_,_,_]) 2 hS sizeOf101 fun _ hS=>?_|refine ldB 2 hS isAgg3 ?_)|((with_reducible refine g_bs (T:=22) ?_);refine seq_bs1 (T:=22) (v:=.int .i64 _) hS underlying22 sizeOf3 zeroValue3 rfl rfl rfl (by decide) (by decide) rfl (fun bl wbl hS=>?_);simp only [NRM];simp only [Value.cells] at hS)|((with_reducible refine g_app ?_);refine seq_append_lit (t:=22) 3 hS underlying22 infoInt rfl (by decide) rfl rfl rfl rfl (by simp [Value.oneCell']) (by omega) (by unfold maxLen;omega) (fun ad2 cp2 _ hS=>?_);simp only [NRM];simp only [List.set_cons_succ,List.set_cons_zero] at hS))
     go_roundw
     case rel=>exact⟨k+1,ad,c,by omega,by simp,by rw [hnx.out],by rw [hnx.out];exact hS.sb⟩
     case measure=>simp [intOf];omega
  ·obtain rfl:k=es.length:=by omega
   have hlt:∀ h ∈ outsTo es v es.length,h / 2<es.length:=fun h hh=>outsTo_lt hh
   obtain⟨O,hO⟩:∃ O,outsTo es v es.length=O:=⟨_,rfl⟩;rw [hO] at hS hol hlt;rw [hO];replace hO:=Hd hO
   go_wp2_with (fail)
   have hsort:=aroundSort bx a1 a2 a3 a4 n1 c1 n2 c2 n3 c3 es.length c4 rs es ad c O S hS hF0 hsl hes hd hel hlt (by omega);refine hsort.mono ?_;rintro e w5 ⟨rfl,l,hp,hsr,hS5⟩;clear hS hsort;have hS:=hS5;clear hS5;replace hp:=Hd hp;replace hsr:=Hd hsr;simp only [];go_wp2;refine bodyPost_ret (results_tmp2 rfl _ _ _) rfl ?_;exact⟨_,_,_,rfl,l,hS.sb,⟨by have:=hp.out;rw [← hO.out] at this;exact this,hsr.out.imp (fun h=>by omega)⟩⟩
end Go.Proofs
namespace Go.Hp
open Go Go.RowKit
theorem nat_xor1 (h:Nat):h ^^^ 1=tw h:=by
 have h0:h ^^^ 1=2*((h ^^^ 1) / 2)+(h ^^^ 1) % 2:=by omega
 have h1:(h ^^^ 1) / 2=h / 2:=by
  have:=Nat.xor_div_two_pow (a:=h) (b:=1) (n:=1)
  simpa using this
 have h2:(h ^^^ 1) % 2=(h % 2) ^^^ 1:=by
  have:=Nat.xor_mod_two_pow (a:=h) (b:=1) (n:=1)
  simpa using this
 have h3:h % 2=0∨h % 2=1:=by omega
 unfold tw;rw [h0,h1,h2]
 rcases h3 with h3|h3
 ·rw [h3,if_pos rfl];show 2*(h / 2)+1=h+1;omega
 ·rw [h3,if_neg (by decide)];show 2*(h / 2)+0=h - 1;omega
theorem xor1_back {h:Nat} (hh:h<4294967296):IntKind.i64.wrap (((BitVec.ofInt 64 (h:Int)) ^^^ (BitVec.ofInt 64 1)).toNat:Int)=((tw h:Nat):Int):=by
 have e1:(BitVec.ofInt 64 (h:Int))=BitVec.ofNat 64 h:=BitVec.ofInt_natCast 64 h;have e2:(BitVec.ofInt 64 1)=BitVec.ofNat 64 1:=rfl;have h2:h<2 ^ 64:=Nat.lt_of_lt_of_le hh (by decide);rw [e1,e2,BitVec.toNat_xor,BitVec.toNat_ofNat,BitVec.toNat_ofNat,Nat.mod_eq_of_lt h2];have e3:1 % 2 ^ 64=1:=by decide
 rw [e3,nat_xor1];have h3:tw h≤h+1:=by unfold tw;split <;> omega
 exact w6
theorem xor1_bits {h:Nat} (hh:h<4294967296):bits .xor .i64 (h:Int) 1=((tw h:Nat):Int):=by
 exact xor1_back hh
end Go.Hp
namespace Go.Hp
open Go Go.RowKit
theorem Heap.isNewC {w0 w wr:World} {F:Nat→Prop} {H:List Chunk} (h:Heap w0 w (.frz F wr::H)) (hO:∀ k,Old w0 k→F k) {c:Chunk} (hc:c ∈ H) {k:Nat} (hk:c.has k):New w0 w k:=by
 refine⟨?_,Chunk.lt (h.ok c (List.mem_cons_of_mem _ hc)) hk⟩
 rcases Nat.lt_or_ge k w0.heap.size with hlt|hge
 ·exact absurd hk ((List.pairwise_cons.1 h.apart).1 c hc k (hO k hlt))
 ·exact hge
end Go.Hp
