/- Texts for the walk of the law: E17 E18 E19 FQ EI FZ FB FE FO FO2 FO3 FJ. -/
import Derived.Test.YtgaejkbkfoaaiaaGreatR09
import Derived.RangeFuncBox
import Derived.RangeFuncNested
import Derived.RangeFuncBound
import Derived.RangeFuncCalls
import Derived.RangeFuncLeaves
import Derived.RangeFuncKeeps
import Derived.RangeFuncOwn
import Derived.RangeFuncFrom
import Derived.Shelf.Abstract
import Derived.OwnWalkIn
import Derived.TacticsInMore
import Derived.LoopNIn
import Derived.LoopIn
set_option maxRecDepth 100000
set_option maxHeartbeats 16000000
set_option linter.unusedVariables false
set_option linter.unusedSimpArgs false
namespace Go.Hp
open Go Go.RowKit Go.Proofs.Tryz
def eh (es:List Ed) (h:Nat):Gp:=if h % 2=1 then ⟨-(nth ah es (h / 2)).dir.x,-(nth ah es (h / 2)).dir.y⟩ else (nth ah es (h / 2)).dir
def qj (es:List Ed) (v i:Nat):List Nat:=if (nth ah es i).a=v then [2*i] else if (nth ah es i).b=v then [2*i+1] else []
def jX (es:List Ed) (v:Nat):Nat→List Nat
 | 0=>[]
 | k+1=>jX es v k++qj es v k
def outs (es:List Ed) (v:Nat):List Nat:=jX es v es.length
def je (a b:Gp):Int:=a.x*b.y - a.y*b.x
theorem aBX {x:Int} {g:Nat} (h:(g:Int) ∣ x):x.tdiv g*g=x:=Int.tdiv_mul_cancel h
theorem aOv {s:Sz} (h:s.ok):(fN s).dir:=by
 obtain⟨ha,hb,bJ⟩:=h;unfold Gp.ok fS at ha hb
 have wi:¬ (s.b.x - s.a.x=0∧s.b.y - s.a.y=0):=fun h=>bJ (by
  obtain⟨⟨ax,ay⟩,⟨bx,by'⟩⟩:=s;simp only at h;simp only [Gp.mk.injEq];omega)
 obtain⟨X,hX⟩:∃ X,X=s.b.x - s.a.x:=⟨_,rfl⟩;obtain⟨Y,hY⟩:∃ Y,Y=s.b.y - s.a.y:=⟨_,rfl⟩;unfold fN;rw [← hX,← hY] at wi ⊢;have d1:=aFK X (Int.gcd X Y);have d2:=aFK Y (Int.gcd X Y);have e1:=aBX (x:=X) (g:=Int.gcd X Y) (Int.gcd_dvd_left ..);have e2:=aBX (x:=Y) (g:=Int.gcd X Y) (Int.gcd_dvd_right ..);have hn:¬ (X.tdiv (Int.gcd X Y:Nat)=0∧Y.tdiv (Int.gcd X Y:Nat)=0):=fun h=>wi ⟨by rw [← e1,h.1];simp,by rw [← e2,h.2];simp⟩
 unfold Gp.dir
 split <;> simp only <;> omega
theorem Gp.aVj {d:Gp} (h:d.dir):(⟨-d.x,-d.y⟩:Gp).dir:=by
 unfold Gp.dir at *;simp only;omega
theorem aCl {a b:Gp}:jW a b<0↔kA a<kA b∨(kA a=kA b∧0<je a b):=by
 unfold jW je
 by_cases h:kA a=kA b
 ·rw [if_pos h]
  unfold gQ
  split
  ·constructor
   ·intro h;omega
   ·intro h;omega
  ·split
   ·constructor
    ·intro _;exact .inr ⟨h,by omega⟩
    ·intro _;omega
   ·constructor
    ·intro h;omega
    ·intro h;omega
 ·rw [if_neg h]
  split
  ·constructor
   ·intro _;exact .inl (by assumption)
   ·intro _;omega
  ·constructor
   ·intro h;omega
   ·intro h;omega
theorem aWo {d:Gp} (hd:d.dir):(kA d=0∧(0<d.y∨(d.y=0∧0<d.x)))∨(kA d=1∧(d.y<0∨(d.y=0∧d.x<0))):=by
 unfold kA Gp.dir at *
 split <;> simp <;> omega
def jE (d:Gp):Prop:=0<d.y∨(d.y=0∧0<d.x)
theorem aK8 (a b c:Gp):je a c*b.y=je a b*c.y+je b c*a.y∧je a c*b.x=je a b*c.x+je b c*a.x:=by
 unfold je
 constructor <;> grind
theorem aUA {x y:Int} (hy:0<y) (h:0<x*y):0<x:=by
 rcases Int.lt_trichotomy x 0 with h1|h1|h1
 ·have:=Int.mul_neg_of_neg_of_pos h1 hy;omega
 ·subst h1;simp at h
 ·exact h1
theorem aRu {x y:Int} (hy:0<y) (h:x*y≤0):x≤0:=by
 rcases Int.lt_trichotomy x 0 with h1|h1|h1
 ·omega
 ·omega
 ·have:=Int.mul_pos h1 hy;omega
theorem aMh {a b c:Gp} (ha:jE a) (hb:jE b) (hc:jE c) (h1:0<je a b) (h2:0<je b c):0<je a c:=by
 obtain⟨i1,i2⟩:=aK8 a b c;unfold jE at *
 rcases hb with hb|⟨fk,hb⟩
 ·apply aUA hb
  rw [i1];have e1:0≤je a b*c.y:=Int.mul_nonneg (by omega) (by omega);have e2:0≤je b c*a.y:=Int.mul_nonneg (by omega) (by omega)
  rcases ha with ha|⟨ha0,ha⟩
  ·have:=Int.mul_pos h2 ha;omega
  ·rcases hc with hc|⟨iq,hc⟩
   ·have:=Int.mul_pos h1 hc;omega
   ·exfalso
    unfold je at h2;rw [iq] at h2;have:=Int.mul_pos hb hc;omega
 ·exfalso
  unfold je at h1;rw [fk] at h1;have:0≤a.y*b.x:=Int.mul_nonneg (by omega) (by omega);omega
theorem aH3 {a b c:Gp} (ha:jE a) (hb:jE b) (hc:jE c) (h1:je a b≤0) (h2:je b c≤0):je a c≤0:=by
 obtain⟨i1,i2⟩:=aK8 a b c;unfold jE at *
 rcases hb with hb|⟨fk,hb⟩
 ·apply aRu hb
  rw [i1];have e1:je a b*c.y≤0:=Int.mul_nonpos_of_nonpos_of_nonneg h1 (by omega);have e2:je b c*a.y≤0:=Int.mul_nonpos_of_nonpos_of_nonneg h2 (by omega);omega
 ·have iq:c.y=0:=by
   unfold je at h2;rw [fk] at h2
   rcases hc with hc|⟨hc,_⟩
   ·have:=Int.mul_pos hb hc;omega
   ·exact hc
  unfold je;rw [iq];have:0≤a.y*c.x:=Int.mul_nonneg (by omega) (by omega);omega
def Gp.neg (d:Gp):Gp:=⟨-d.x,-d.y⟩
theorem a2P (a b:Gp):je a.neg b.neg=je a b:=by unfold je Gp.neg;grind
theorem a2z {d:Gp} (hd:d.dir):(kA d=0∧jE d)∨(kA d=1∧jE d.neg):=by
 rcases aWo hd with h|h
 ·exact .inl h
 ·right
  refine⟨h.1,?_⟩;unfold jE Gp.neg;simp only;omega
theorem aVP {a b c:Gp} (ha:a.dir) (hb:b.dir) (hc:c.dir) (h1:jW a b<0) (h2:jW b c<0):jW a c<0:=by
 rw [aCl] at *
 rcases a2z ha with ⟨a1,a2⟩|⟨a1,a2⟩ <;> rcases a2z hb with ⟨b1,b2⟩|⟨b1,b2⟩ <;> rcases a2z hc with ⟨c1,c2⟩|⟨c1,c2⟩ <;> rw [a1,b1] at h1 <;> rw [b1,c1] at h2 <;> rw [a1,c1]
 all_goals first|(left;omega)|(exfalso;omega)|skip
 ·exact .inr ⟨rfl,aMh a2 b2 c2 (by omega) (by omega)⟩
 ·refine .inr ⟨rfl,?_⟩
  rw [← a2P];exact aMh a2 b2 c2 (by rw [a2P];omega) (by rw [a2P];omega)
theorem aM9 {a b c:Gp} (ha:a.dir) (hb:b.dir) (hc:c.dir) (h1:¬ jW a b<0) (h2:¬ jW b c<0):¬ jW a c<0:=by
 rw [aCl] at *
 rcases a2z ha with ⟨a1,a2⟩|⟨a1,a2⟩ <;> rcases a2z hb with ⟨b1,b2⟩|⟨b1,b2⟩ <;> rcases a2z hc with ⟨c1,c2⟩|⟨c1,c2⟩ <;> rw [a1,b1] at h1 <;> rw [b1,c1] at h2 <;> rw [a1,c1]
 all_goals first|(exfalso;omega)|(intro h;omega)|skip
 ·have:=aH3 a2 b2 c2 (by omega) (by omega);omega
 ·have:=aH3 a2 b2 c2 (by rw [a2P];omega) (by rw [a2P];omega)
  rw [a2P] at this;omega
theorem aM5 (a:Gp):¬ jW a a<0:=by
 rw [aCl];have:je a a=0:=by unfold je;grind
 omega
section
open Go Go.RowKit Go.Sort Go.Shelf Go.Proofs
variable {P:Program} {ρ:Ren} {α:Type} [Inhabited α]
theorem aNo (L:Proofs.SlLaysF.n6 P ρ) (L0:Proofs.SlLaysF0.n6 P ρ) (enc:α→Value) (h1:Proofs.OneCell enc) (cf:α→α→Int) (hO:SWO (Proofs.ltOf cf)) (g:Nat) (cb:Array Value)
 {w0 w:World} {H:List Chunk} {ad:Option Addr} {n cap:Nat} {T:TypeId} {ts:List α} (j:Nat) (hS:aA w0 w H) (hj:H[j]? = some (.row (.slice ad n cap) T 1 n (ts.map enc))) (hl:n≤100000000) (eg:∀ args w,(callFunc g args).run P w=.ok (.enter g args) w)
 (aEZ:∀ W,a3B w (.row (.slice ad n cap) T 1 n (ts.map enc)) W→∀ x y,Calls P g (#[enc x,enc y]++cb) W fun e w'=>e=.returned (.int .i64 (cf x y))∧Go.RowKit.Below W.heap.size W w'∧W.drawn≤w'.drawn) :
 Calls P (ρ.f 6) #[.slice ad n cap,.func (.func g) #[] cb] w fun e w'=>e=.returned (.tuple #[])∧∃ nv:List α,nv.Perm ts∧nv.Pairwise (fun x y=>Proofs.ltOf cf y x=false)∧aA w0 w' (H.set j (.row (.slice ad n cap) T 1 n (nv.map enc))):=by
 have lW:=hS.ok _ (bW hj);obtain⟨hlen,mL⟩:=lW;rw [List.length_map] at hlen;have wF:ts.length=n:=by omega
 subst wF
 rcases mL with ⟨hv,hn⟩|⟨b,a5H,cur,hv,hb,hg,mm,fg,hcs,a0Q⟩
 ·simp only [Value.slice.injEq] at hv
  obtain⟨rfl,hx,rfl⟩:=hv;have lB:ts=[]:=List.eq_nil_of_length_eq_zero hx;subst lB;refine (Proofs.AnyF.slices_SortFunc_none L0 none 0 _ w).mono fun e w' ⟨he,hw⟩=>⟨he,[],List.Perm.refl _,List.Pairwise.nil,?_⟩
  subst hw
  have:H.set j (.row (.slice none 0 0) T 1 0 ([].map enc))=H:=by
   apply List.ext_getElem?;intro i;rw [List.getElem?_set]
   split
   ·rename_i h;subst h
    obtain⟨aW,hq⟩:=List.getElem?_eq_some_iff.1 hj;rw [if_pos aW,List.getElem?_eq_getElem aW,hq]
    rfl
   ·rfl
  show aA w0 w' (H.set j (.row (.slice none 0 0) T 1 0 ([].map enc)));rw [this];exact hS
 ·simp only [Value.slice.injEq] at hv
  obtain⟨rfl,-,rfl⟩:=hv;have a6I:cur.toList.take (ts.map enc).length=ts.map enc:=by rw [List.length_map];simpa using a0Q
  have hHv:=aFQ hg a6I
  have hH:Holds enc w b 0 ts.toArray:=by
   intro q hq;have jB:q<ts.length:=by simpa using hq
   have:=hHv q (by simpa using jB);refine⟨?_,this.2⟩;rw [this.1,getElem!_pos _ q (by simpa using jB),getElem!_pos _ q hq];simp
  have oB:=(Array.getElem?_eq_some_iff.1 hg).1
  have vz:∀ (m:Nat) (os:Array Obj) (dk:Array α),Proofs.sortWorld enc w b 0 m dk os=grow (putRow id (Sort.ahead w m) b 0 (dk.toList.map enc).toArray) os:=by
   intro m os dk;unfold Proofs.sortWorld putRow
   congr 1
   congr 1
   funext cs
   unfold putCells;apply Array.ext
   ·simp
   ·intro q h1 h2
    simp only [Array.getElem_mapIdx]
    by_cases hq:0≤q∧q<0+dk.size
    ·have jB:q<dk.size:=by omega
     simp [jB]
    ·have jB:¬ q<dk.size:=by omega
     simp [jB]
  have a2c:Proofs.CmpLays1 P g cb enc cf b 0 ts.toArray.size w:=by
   intro m os dk xd x y
   have hW:a3B w (.row (.slice (some ⟨b,0,none⟩) ts.length cap) T 1 ts.length (ts.map enc)) (Proofs.sortWorld enc w b 0 m dk os):=by
    rw [vz];have fy:=a7m (w:=w) (g:=b) (n:=m) (os:=os) (dk.toList.map enc).toArray;exact⟨fy.size,fun i hi kO=>fy.block i hi (fun e=>kO (by simp only [Chunk.has,Value.ownBlock];exact e.symm))⟩
   refine (aEZ _ hW x y).mono fun e w' ⟨he,kj,hd⟩=>⟨he,aJX kj hd⟩
  have y7:=Proofs.Any.slices_SortFunc L enc h1 cf hO g cb b 0 cap ts.toArray w eg a2c hH oB (by simp;omega);rw [List.size_toArray] at y7;refine y7.mono fun e w' ⟨he,d',m,os,qz,qW,hw⟩=>⟨he,d'.toList,?_,?_,?_⟩
  ·obtain⟨dJ,_,hp⟩:=qz
   have e1:d'.extract 0 ts.length=d':=by
    have:d'.size=ts.length:=by simpa using dJ
    rw [← this];exact Array.extract_size
   have e2:ts.toArray.extract 0 ts.length=ts.toArray:=by
    simp
   rw [e1,e2] at hp
   simpa using hp
  ·have dJ:d'.size=ts.length:=by simpa using qz.1
   rw [List.pairwise_iff_getElem];intro i q hi hq hiq;have pG:i<d'.size:=by simpa using hi
   have jB:q<d'.size:=by simpa using hq
   have:=qW i q (Nat.zero_le _) hiq (by omega);rw [getElem!_pos d' q jB,getElem!_pos d' i pG] at this
   simpa using this
  ·have dJ:d'.size=ts.length:=by simpa using qz.1
   have mn:(d'.toList.map enc).length=ts.length:=by simp [dJ]
   rw [vz] at hw;subst hw;have fy:=a7m (w:=w) (g:=b) (n:=m) (os:=os) (d'.toList.map enc).toArray;refine hS.sQ j hj fy.os fy.tape fy.output (aGc _) fy.size ?_ (fun k hk=>.inl hk) (fun k hk tR=>fy.block k hk (fun e=>tR (by simp only [Chunk.has,Value.ownBlock];exact e.symm)));refine⟨by omega,.inr ⟨b,cap,_,rfl,Nat.zero_le _,aLm _ hg,mm,fg,?_,?_⟩⟩
   ·simp [Go.Sort.putCells,hcs]
   ·rw [Nat.mul_one]
    conv=>lhs;rw [← mn]
    exact aHr cur _ (by rw [mn,hcs];omega)
end
theorem aJp (h:Nat):(h:Int).tdiv 2=((h / 2:Nat):Int):=by
 rw [Int.tdiv_eq_ediv_of_nonneg (by omega)];rfl
theorem aGg (h:Nat):(h:Int).tmod 2=((h % 2:Nat):Int):=by
 rw [Int.tmod_eq_emod_of_nonneg (by omega)];rfl
section
open Go.RowKit Go.Hp Go.Sort Go.Shelf
theorem aIC (a1 a2 a3 a4:Option Addr) (n1 c1 n2 c2 n3 c3 n4 c4:Nat) (rs:List ER) (es:List Ed) (h:Nat) (w:World) (S:Nat→Prop) (hL:aP w S) (bh:bN w S 5 (.slice a4 n4 c4) es.length (rs.flatMap ec)) (dW:kP w S rs es) (hh:h / 2<es.length) (hd:(nth ah es (h / 2)).dir.dir) (hle:h≤1000000) :
 Calls prog 116 #[.agg #[.slice a1 n1 c1,.slice a2 n2 c2,.slice a3 n3 c3,.slice a4 n4 c4],.int .i64 (h:Int)] w fun e w'=>e=.returned (.agg #[.int .i64 (eh es h).x,.int .i64 (eh es h).y])∧Pure w (fun _=>False) w' (fun _=>False):=by
 have j6:n4=es.length:=by obtain⟨h1,a,cap,h2,_⟩:=bh;cases h2;rfl
 subst j6;have aX5:=bh.le;have bh:=bh.bj;obtain⟨i,hi⟩:∃ i,h / 2=i:=⟨_,rfl⟩;have gV:=dW.el (h / 2) hh;have hc:=eS sU jk (show i<rs.length by rw [dW.len];omega);obtain⟨D,hD⟩:∃ D,eh es h=D:=⟨_,rfl⟩;rw [hD];unfold eh at hD;rw [hi] at hD gV hd hh;obtain⟨r,hr⟩:∃ r,nth jk rs i=r:=⟨_,rfl⟩;rw [hr] at hc gV;rw [← gV.dir] at hD hd;have q1:=aJp h;have q2:=aGg h;rw [hi] at q1;have q3:IntKind.i64.wrap (i:Int)=(i:Int):=w6;unfold Gp.dir at hd;have q5:IntKind.i64.wrap (-r.dir.x) = -r.dir.x:=w6;have q6:IntKind.i64.wrap (-r.dir.y) = -r.dir.y:=w6;clear dW gV hr hi hd;have hS:=aA.start w
 by_cases hm:h % 2=1
 ·rw [if_pos hm] at hD
  rw [hm] at q2;have q4:(((1:Nat):Int) == 1)=true:=rfl;replace hD:=Hd hD;clear hm
  go_enter func116,ntmps116
  go_wp2_with (first|(with_reducible first|refine cI (T:=28) (v:=.agg _) hS fun bx cu hS=>?_|refine bH hS zeroValue43 fun br fu hS=>?_|refine aU 1 hS isAgg26 ?_)|((with_reducible refine iH underlying26 sizeOf45 bh hc fun bq oq bO=>?_);have dP:dM _ _ ⟨bq,oq+3,none⟩ [.int .i64 r.dir.x,.int .i64 r.dir.y]:=bO.part 3 2)|(with_reducible first|refine j9 hS isAgg43 sizeOf43 ?_|refine bH hS zeroValue43 fun bd wbd hS=>?_|refine aJ (u:=.agg #[_,_]) 3 hS sizeOf43 fun _ hS=>?_|refine aU 3 hS isAgg3 ?_|refine bA 3 hS isAgg43 sizeOf43 ?_|refine aJ (u:=.agg #[_,_]) 2 hS sizeOf43 fun _ hS=>?_))
  exact fE 2 hS rfl rfl rfl isAgg43 sizeOf43 rfl rfl ⟨by first|(rw [← hD.out];done)|(rw [← hD.out];rfl),hS.pure _⟩
 ·rw [if_neg hm] at hD
  rw [show h % 2=0 by omega] at q2;replace hD:=Hd hD;clear hm
  go_enter func116,ntmps116
  go_wp2_with (first|(with_reducible first|refine cI (T:=28) (v:=.agg _) hS fun bx cu hS=>?_|refine bH hS zeroValue43 fun br fu hS=>?_|refine aU 1 hS isAgg26 ?_)|((with_reducible refine iH underlying26 sizeOf45 bh hc fun bq oq bO=>?_);have dP:dM _ _ ⟨bq,oq+3,none⟩ [.int .i64 r.dir.x,.int .i64 r.dir.y]:=bO.part 3 2)|(with_reducible first|refine j9 hS isAgg43 sizeOf43 ?_|refine bH hS zeroValue43 fun bd wbd hS=>?_|refine aJ (u:=.agg #[_,_]) 3 hS sizeOf43 fun _ hS=>?_|refine aU 3 hS isAgg3 ?_|refine bA 3 hS isAgg43 sizeOf43 ?_|refine aJ (u:=.agg #[_,_]) 2 hS sizeOf43 fun _ hS=>?_))
  exact fE 2 hS rfl rfl rfl isAgg43 sizeOf43 rfl rfl ⟨by first|(rw [← hD.out];done)|(rw [← hD.out];rfl),hS.pure _⟩
theorem aDl {es:List Ed} {h:Nat} (hd:(nth ah es (h / 2)).dir.dir):(eh es h).dir:=by
 unfold eh;split
 ·exact Gp.aVj hd
 ·exact hd
theorem aSM (b:Nat) (a1 a2 a3 a4:Option Addr) (n1 c1 n2 c2 n3 c3 n4 c4:Nat) (rs:List ER) (es:List Ed) (x y:Nat) (w:World) (S:Nat→Prop) (hL:aP w S) (hb:dM w (Old w) ⟨b,0,none⟩ [.slice a1 n1 c1,.slice a2 n2 c2,.slice a3 n3 c3,.slice a4 n4 c4]) (bh:bN w S 5 (.slice a4 n4 c4) es.length (rs.flatMap ec)) (dW:kP w S rs es)
 (hx:x / 2<es.length) (hy:y / 2<es.length) (vU:(nth ah es (x / 2)).dir.dir) (wT:(nth ah es (y / 2)).dir.dir) (hlx:x≤1000000) (hly:y≤1000000) :
 Calls prog 114 #[.int .i64 (x:Int),.int .i64 (y:Int),.pointer (some ⟨b,0,none⟩)] w fun e w'=>e=.returned (.int .i64 (jW (eh es x) (eh es y)))∧Pure w S w' S:=by
 have cx:=fun w' eM aEO aFl=>aIC a1 a2 a3 a4 n1 c1 n2 c2 n3 c3 n4 c4 rs es x w' S eM aEO aFl hx vU hlx
 have cy:=fun w' eM aEO aFl=>aIC a1 a2 a3 a4 n1 c1 n2 c2 n3 c3 n4 c4 rs es y w' S eM aEO aFl hy wT hly
 have tn:=fun w' eM=>aLJ (eh es x) (eh es y) w' S eM (aDl vU) (aDl wT)
 obtain⟨dx,e1⟩:∃ dx,eh es x=dx:=⟨_,rfl⟩;obtain⟨dy,e2⟩:∃ dy,eh es y=dy:=⟨_,rfl⟩;obtain⟨t,e3⟩:∃ t,jW dx dy=t:=⟨_,rfl⟩;rw [e1] at cx tn;rw [e2] at cy tn;rw [e1,e2,e3];rw [e3] at tn;clear e1 e2 e3 hx hy vU wT;obtain⟨hS,aC,bC,bD⟩:=eR hL
 go_enter func114,ntmps114
 go_wp2;refine dB [.r 0,.p 1,.r 3,.p 4,.e 2,.e 5,.e 6,.p 7,.p 8,.p 9,.p 10,.p 11] [] hS fun w1 hS=>?_
 have hC:=hS
 repeat (with_reducible first|refine gm ?_|refine qE isAgg28 sizeOf28 ?_|refine bU ?_)
 refine aZ ?_
 go_wp2_with (fail)
 refine (cx _ (aP.at hS aC) (bh.at hS aC) (dW.at hS aC)).mono ?_;rintro e w' ⟨rfl,hq⟩;simp only [];go_step;have hS:=hS.below hq.below hq.drawn;have hC:=hC.below hq.below hq.drawn;refine aX hC ?_;refine aM ?_;refine aZ ?_
 go_wp2_with (fail)
 refine (cy _ (aP.at hS aC) (bh.at hS aC) (dW.at hS aC)).mono ?_;rintro e w' ⟨rfl,hq⟩;simp only [];go_step;have hS:=hS.below hq.below hq.drawn;have hC:=hC.below hq.below hq.drawn;refine aX hC ?_;refine aM ?_;refine aZ ?_
 go_wp2_with (fail)
 refine (tn _ (aP.at hS aC)).mono ?_;rintro e w' ⟨rfl,hq⟩;simp only [];go_step;have hS:=hS.below hq.below hq.drawn;have hC:=hC.below hq.below hq.drawn;refine aX hC ?_;refine aM ?_;refine bE ?_;go_wp2;go_ret;exact⟨rfl,hS.pure S⟩
structure nU (es:List Ed) (v:Nat) (l:List Nat):Prop where
 perm:l.Perm (outs es v)
 sorted:l.Pairwise (fun g h=>¬ jW (eh es h) (eh es g)<0)
theorem aNf {es:List Ed} {v i h:Nat} (hh:h ∈ qj es v i):h / 2=i:=by
 unfold qj at hh
 split at hh
 ·rw [List.mem_singleton] at hh;omega
 ·split at hh
  ·rw [List.mem_singleton] at hh;omega
  ·cases hh
theorem aD5 {es:List Ed} {v:Nat}:∀ {k h:Nat},h ∈ jX es v k→h / 2<k
 | 0,h,hh=>by cases hh
 | k+1,h,hh=>by
  rcases List.mem_append.1 hh with h1|h1
  ·have:=aD5 h1;omega
  ·have:=aNf h1;omega
theorem a9y {es:List Ed} {v:Nat}:∀ k:Nat,(jX es v k).length≤k
 | 0=>Nat.le_refl _
 | k+1=>by
  have:=a9y (es:=es) (v:=v) k;have h1:(qj es v k).length≤1:=by unfold qj;split <;> (try split) <;> simp
  simp only [jX,List.length_append];omega
def a2W (es:List Ed):Type:={ h:Nat // h / 2<es.length }
theorem aV1 {w wr w2:World} (bx:Nat) (a1 a2 a3 a4:Option Addr) (n1 c1 n2 c2 n3 c3 n4 c4:Nat) (rs:List ER) (es:List Ed) (ad:Option Addr) (c:Nat) (O:List Nat) (S:Nat→Prop) {F:Nat→Prop} {T:TypeId}
 (hS:aA w w2 [.aH F wr,.aB bx (.cells #[.slice a1 n1 c1,.slice a2 n2 c2,.slice a3 n3 c3,.slice a4 n4 c4] T (0,0)),.row (.slice ad O.length c) 3 1 O.length (iv (zs O))]) (hF:∀ k,S k→F k) (bh:bN wr S 5 (.slice a4 n4 c4) es.length (rs.flatMap ec)) (dW:kP wr S rs es) (hd:∀ e ∈ es,e.dir.dir) (gV:es.length≤400000) (hO:∀ h ∈ O,h / 2<es.length) (hOl:O.length≤1000000) :
 Calls prog 113 #[.slice ad O.length c,.func (.func 114) #[] #[.pointer (some ⟨bx,0,none⟩)]] w2 fun e w'=>e=.returned (.tuple #[])∧∃ l:List Nat,l.Perm O∧l.Pairwise (fun g h=>¬ jW (eh es h) (eh es g)<0)∧aA w w' [.aH F wr,.aB bx (.cells #[.slice a1 n1 c1,.slice a2 n2 c2,.slice a3 n3 c3,.slice a4 n4 c4] T (0,0)),.row (.slice ad O.length c) 3 1 O.length (iv (zs l))]:=by
 by_cases h0:es.length=0
 ·have bC:O=[]:=by
   cases O with
   | nil=>rfl
   | cons h t=>have:=hO h (by simp);omega
  subst bC;refine (Proofs.AnyF.slices_SortFunc_none aHb ad c _ w2).mono fun e w' ⟨he,hw⟩=>⟨he,[],List.Perm.refl _,List.Pairwise.nil,?_⟩
  subst hw;exact hS
 ·haveI:Inhabited (a2W es):=⟨⟨0,by omega⟩⟩
  have qS:∀ x:a2W es,(eh es x.1).dir:=fun x=>aDl (hd _ (cQ ah es _ x.2))
  obtain⟨ts,tS⟩:∃ ts:List (a2W es),ts.map (·.1)=O:=by
   obtain⟨g,hg⟩:∃ g:{ x // x ∈ O }→a2W es,∀ x,(g x).1=x.1:=⟨fun x=>⟨x.1,hO x.1 x.2⟩,fun x=>rfl⟩;refine⟨O.attach.map g,?_⟩
   have e:(O.attach.map g).map (·.1)=O.attach.map (·.1):=by
    apply List.ext_getElem
    ·simp only [List.length_map]
    ·intro i h1 h2
     rw [List.getElem_map,List.getElem_map,List.getElem_map];exact hg _
   rw [e];exact List.attach_map_subtype_val O
  have aDx:∀ ts:List (a2W es),ts.map (fun x=>Value.int .i64 (x.1:Int))=iv (zs (ts.map (·.1))):=fun ts=>by simp [iv,zs]
  have hlen:ts.length=O.length:=by rw [← tS,List.length_map]
  have hj:[Chunk.aH F wr,.aB bx (.cells #[.slice a1 n1 c1,.slice a2 n2 c2,.slice a3 n3 c3,.slice a4 n4 c4] T (0,0)),.row (.slice ad O.length c) 3 1 O.length (iv (zs O))][2]? = some (.row (.slice ad O.length c) 3 1 O.length (ts.map (fun x=>Value.int .i64 (x.1:Int)))):=by
   rw [aDx,tS];rfl
  refine (aNo aRM aHb (fun x:a2W es=>Value.int .i64 (x.1:Int)) (fun _=>rfl) (fun x y=>jW (eh es x.1) (eh es y.1)) ⟨fun x=>?_,fun x y z h1 h2=>?_,fun x y z h1 h2=>?_⟩ 114 #[.pointer (some ⟨bx,0,none⟩)] 2 hS hj (by omega) (Proofs.enters_of func114 (by kernel_rfl) rfl) ?_).mono ?_
  ·unfold Proofs.ltOf;rw [decide_eq_false_iff_not];exact aM5 _
  ·unfold Proofs.ltOf at *
   rw [decide_eq_true_iff] at *;exact aVP (qS x) (qS y) (qS z) h1 h2
  ·unfold Proofs.ltOf at *
   rw [decide_eq_false_iff_not] at *;exact aM9 (qS x) (qS y) (qS z) h1 h2
  ·intro W hW x y
   rw [aDx,tS] at hW;have a4a:=Bsd.da hS hF (j:=1) rfl hW;have aO8:=Bsd.yj hS hF hW;have pD:w2.heap[bx]? = some (.cells #[.slice a1 n1 c1,.slice a2 n2 c2,.slice a3 n3 c3,.slice a4 n4 c4] T (0,0)):=hS.aB (bW (i:=1) rfl);have oB:=(Array.getElem?_eq_some_iff.1 pD).1
   have hWb:W.heap[bx]? = some (.cells #[.slice a1 n1 c1,.slice a2 n2 c2,.slice a3 n3 c3,.slice a4 n4 c4] T (0,0)):=by
    rw [hW.2 bx oB ?_]
    ·exact pD
    ·have:=List.pairwise_iff_getElem.1 hS.apart 1 2 (by simp) (by simp) (by omega)
     exact this bx rfl
   have vD:dM W (Old W) ⟨bx,0,none⟩ [.slice a1 n1 c1,.slice a2 n2 c2,.slice a3 n3 c3,.slice a4 n4 c4]:=by
    refine⟨fun _=>rfl,fun _=>Nat.lt_of_lt_of_le oB hW.1,fun q u hu=>?_⟩;rw [Nat.zero_add,cell_of_row W bx q _ T (0,0) hWb]
    simpa using hu
   have uz:=x.2;have tT:=y.2;exact (aSM bx a1 a2 a3 a4 n1 c1 n2 c2 n3 c3 n4 c4 rs es x.1 y.1 W S aO8 vD ((bh.at hS hF).move a4a) ((dW.at hS hF).move a4a) x.2 y.2 (hd _ (cQ ah es _ x.2)) (hd _ (cQ ah es _ y.2)) (by omega) (by omega)).mono fun e w' ⟨he,hq⟩=>⟨he,hq.below,hq.drawn⟩
  ·rintro e w' ⟨he,nv,hp,hs,fY⟩
   refine⟨he,nv.map (·.1),?_,?_,?_⟩
   ·rw [← tS];exact hp.map _
   ·rw [List.pairwise_map]
    refine hs.imp fun {x y} h=>?_
    unfold Proofs.ltOf at h
    rwa [decide_eq_false_iff_not] at h
   ·rw [← aDx]
    exact fY
theorem aS9 (a1 a2 a3 a4:Option Addr) (n1 c1 n2 c2 n3 c3 n4 c4:Nat) (rs:List ER) (es:List Ed) (v:Nat) (w:World) (S:Nat→Prop) (hL:aP w S) (bh:bN w S 5 (.slice a4 n4 c4) es.length (rs.flatMap ec)) (dW:kP w S rs es) (hd:∀ e ∈ es,e.dir.dir) (gV:es.length≤400000) (hv:v<n3) (my:n3≤1000000) :
 Calls prog 64 #[.agg #[.slice a1 n1 c1,.slice a2 n2 c2,.slice a3 n3 c3,.slice a4 n4 c4],.int .i64 (v:Int)] w fun e w'=>∃ ad n c l,e=.returned (.tuple #[.slice ad n c,.int .i64 0])∧aA w w' [.aH (Old w) w,.row (.slice ad n c) 3 1 n (iv (zs l))]∧nU es v l:=by
 have j6:n4=es.length:=by obtain⟨h1,a,cap,h2,_⟩:=bh;cases h2;rfl
 subst j6;have aCD:=bh.bj;have eo:decide ((v:Int)<0)=false:=by simp
 have fH:decide ((n3:Int)≤(v:Int))=false:=by simp;omega
 obtain⟨hS,aC,bC,bD⟩:=eR hL
 go_enter func64,ntmps64
 go_wp2_with (with_reducible first|refine cI (T:=28) (v:=.agg _) hS fun bx cu hS=>?_|refine aU 1 hS isAgg25 ?_|refine aU 1 hS isAgg26 ?_)
 have hS:=hS.iB 3 1;simp only [List.cons_append,List.nil_append] at hS
 try try simp only [fA]
 go_loopw [6,21] (fun v6 v21 wr=>∃ (k:Nat) (ad:Option Addr) (c:Nat),k≤es.length∧v21=.int .i64 (k:Int)∧v6=.slice ad (jX es v k).length c∧aA w wr [.aH (Old w) w,.aB bx (.cells #[.slice a1 n1 c1,.slice a2 n2 c2,.slice a3 n3 c3,.slice a4 es.length c4] 28 (0,0)),.row (.slice ad (jX es v k).length c) 3 1 (jX es v k).length (iv (zs (jX es v k)))]) (fun _ v21 _=>es.length - (intOf v21).toNat)
 case atStart=>exact⟨0,none,0,by omega,rfl,rfl,hS⟩
 case round =>
  clear hS;obtain⟨k,ad,c,hk,rfl,rfl,hS⟩:=hrel;have cD:=a9y (es:=es) (v:=v) k
  by_cases cW:k<es.length
  ·have hc:=eS sU jk (show k<rs.length by rw [dW.len];omega)
   have hE:=dW.el k cW;obtain⟨r,hr⟩:∃ r,nth jk rs k=r:=⟨_,rfl⟩;rw [hr] at hc hE;have ha:=hE.a;have pD:=hE.b;have dH:jX es v (k+1)=jX es v k++qj es v k:=rfl;unfold qj at dH;rw [← ha,← pD] at dH;clear ha pD hE hr;obtain⟨O,hO⟩:∃ O,jX es v k=O:=⟨_,rfl⟩;rw [hO] at dH hS cD;rw [hO];clear hO;have w1:IntKind.i64.wrap (2*(k:Int))=((2*k:Nat):Int):=w7;have w2:IntKind.i64.wrap (((2*k:Nat):Int)+1)=((2*k+1:Nat):Int):=w7
   by_cases ra:r.a=v
   ·rw [if_pos ra] at dH
    have q1:((v:Int) == (r.a:Int))=true:=by simp [ra]
    have hlen:(jX es v (k+1)).length=O.length+1:=by rw [dH];simp
    have iC:iv (zs (jX es v (k+1)))=iv (zs O)++[.int .i64 ((2*k:Nat):Int)]:=by rw [dH];simp [iv,zs]
    replace hlen:=Hd hlen;replace iC:=Hd iC;clear dH ra
    go_wp2_with (first|(with_reducible first|refine iH underlying26 sizeOf45 aCD hc fun bq oq bO=>?_|refine j9 hS isAgg45 sizeOf45 ?_)|((with_reducible refine bH hS zeroValue45 fun b8 xe hS=>?_);have hS:=aA.aAU [_,_] [_] _ hS;simp only [List.cons_append,List.nil_append] at hS)|(with_reducible first|refine aJ (u:=.agg #[_,_,_,_,_]) 2 hS sizeOf45 fun _ hS=>?_|refine aU 2 hS isAgg3 ?_)|((with_reducible refine dV (T:=22) ?_);refine fZ (T:=22) (v:=.int .i64 _) hS underlying22 sizeOf3 zeroValue3 rfl rfl rfl (by decide) (by decide) rfl (fun bl fX hS=>?_);simp only [aD];simp only [Value.cells] at hS)|((with_reducible refine eG ?_);refine fw (t:=22) 3 hS underlying22 tQ rfl (by decide) rfl rfl rfl rfl (by simp [Value.oneCell']) (by omega) (by unfold maxLen;omega) (fun dU gL _ hS=>?_);simp only [aD];simp only [List.set_cons_succ,List.set_cons_zero] at hS))
    go_roundw
    case rel=>exact⟨k+1,dU,gL,by omega,by simp,by rw [hlen.out],by rw [hlen.out,iC.out];exact hS.sb⟩
    case measure=>simp [intOf];omega
   ·rw [if_neg ra] at dH
    have q1:((v:Int) == (r.a:Int))=false:=by simp;omega
    by_cases rb:r.b=v
    ·rw [if_pos rb] at dH
     have q2:((v:Int) == (r.b:Int))=true:=by simp [rb]
     have hlen:(jX es v (k+1)).length=O.length+1:=by rw [dH];simp
     have iC:iv (zs (jX es v (k+1)))=iv (zs O)++[.int .i64 ((2*k+1:Nat):Int)]:=by rw [dH];simp [iv,zs]
     replace hlen:=Hd hlen;replace iC:=Hd iC;clear dH ra rb
     go_wp2_with (first|(with_reducible first|refine iH underlying26 sizeOf45 aCD hc fun bq oq bO=>?_|refine j9 hS isAgg45 sizeOf45 ?_)|((with_reducible refine bH hS zeroValue45 fun b8 xe hS=>?_);have hS:=aA.aAU [_,_] [_] _ hS;simp only [List.cons_append,List.nil_append] at hS)|(with_reducible first|refine aJ (u:=.agg #[_,_,_,_,_]) 2 hS sizeOf45 fun _ hS=>?_|refine aU 2 hS isAgg3 ?_)|((with_reducible refine dV (T:=22) ?_);refine fZ (T:=22) (v:=.int .i64 _) hS underlying22 sizeOf3 zeroValue3 rfl rfl rfl (by decide) (by decide) rfl (fun bl fX hS=>?_);simp only [aD];simp only [Value.cells] at hS)|((with_reducible refine eG ?_);refine fw (t:=22) 3 hS underlying22 tQ rfl (by decide) rfl rfl rfl rfl (by simp [Value.oneCell']) (by omega) (by unfold maxLen;omega) (fun dU gL _ hS=>?_);simp only [aD];simp only [List.set_cons_succ,List.set_cons_zero] at hS))
     go_roundw
     case rel=>exact⟨k+1,dU,gL,by omega,by simp,by rw [hlen.out],by rw [hlen.out,iC.out];exact hS.sb⟩
     case measure=>simp [intOf];omega
    ·rw [if_neg rb,List.append_nil] at dH
     have q2:((v:Int) == (r.b:Int))=false:=by simp;omega
     replace dH:=Hd dH;clear ra rb
     go_wp2_with (first|(with_reducible first|refine iH underlying26 sizeOf45 aCD hc fun bq oq bO=>?_|refine j9 hS isAgg45 sizeOf45 ?_)|((with_reducible refine bH hS zeroValue45 fun b8 xe hS=>?_);have hS:=aA.aAU [_,_] [_] _ hS;simp only [List.cons_append,List.nil_append] at hS)|(with_reducible first|refine aJ (u:=.agg #[_,_,_,_,_]) 2 hS sizeOf45 fun _ hS=>?_|refine aU 2 hS isAgg3 ?_)|((with_reducible refine dV (T:=22) ?_);refine fZ (T:=22) (v:=.int .i64 _) hS underlying22 sizeOf3 zeroValue3 rfl rfl rfl (by decide) (by decide) rfl (fun bl fX hS=>?_);simp only [aD];simp only [Value.cells] at hS)|((with_reducible refine eG ?_);refine fw (t:=22) 3 hS underlying22 tQ rfl (by decide) rfl rfl rfl rfl (by simp [Value.oneCell']) (by omega) (by unfold maxLen;omega) (fun dU gL _ hS=>?_);simp only [aD];simp only [List.set_cons_succ,List.set_cons_zero] at hS))
     go_roundw
     case rel=>exact⟨k+1,ad,c,by omega,by simp,by rw [dH.out],by rw [dH.out];exact hS.sb⟩
     case measure=>simp [intOf];omega
  ·obtain rfl:k=es.length:=by omega
   have aW:∀ h ∈ jX es v es.length,h / 2<es.length:=fun h hh=>aD5 hh
   obtain⟨O,hO⟩:∃ O,jX es v es.length=O:=⟨_,rfl⟩;rw [hO] at hS cD aW;rw [hO];replace hO:=Hd hO
   go_wp2_with (fail)
   have qW:=aV1 bx a1 a2 a3 a4 n1 c1 n2 c2 n3 c3 es.length c4 rs es ad c O S hS aC bh dW hd gV aW (by omega);refine qW.mono ?_;rintro e w5 ⟨rfl,l,hp,wz,hS5⟩;clear hS qW;have hS:=hS5;clear hS5;replace hp:=Hd hp;replace wz:=Hd wz;simp only [];go_wp2;refine bodyPost_ret (results_tmp2 rfl _ _ _) rfl ?_;exact⟨_,_,_,rfl,l,hS.sb,⟨by have:=hp.out;rw [← hO.out] at this;exact this,wz.out.imp (fun h=>by omega)⟩⟩
end
theorem aOd (h:Nat):h ^^^ 1=tw h:=by
 have h0:h ^^^ 1=2*((h ^^^ 1) / 2)+(h ^^^ 1) % 2:=by omega
 have h1:(h ^^^ 1) / 2=h / 2:=by
  have:=Nat.xor_div_two_pow (a:=h) (b:=1) (n:=1)
  simpa using this
 have h2:(h ^^^ 1) % 2=(h % 2) ^^^ 1:=by
  have:=Nat.xor_mod_two_pow (a:=h) (b:=1) (n:=1)
  simpa using this
 have h3:h % 2=0∨h % 2=1:=by omega
 unfold tw;rw [h0,h1,h2]
 rcases h3 with h3|h3
 ·rw [h3,if_pos rfl];show 2*(h / 2)+1=h+1;omega
 ·rw [h3,if_neg (by decide)];show 2*(h / 2)+0=h - 1;omega
theorem aTL {h:Nat} (hh:h<4294967296):IntKind.i64.wrap (((BitVec.ofInt 64 (h:Int)) ^^^ (BitVec.ofInt 64 1)).toNat:Int)=((tw h:Nat):Int):=by
 have e1:(BitVec.ofInt 64 (h:Int))=BitVec.ofNat 64 h:=BitVec.ofInt_natCast 64 h;have e2:(BitVec.ofInt 64 1)=BitVec.ofNat 64 1:=rfl;have h2:h<2 ^ 64:=Nat.lt_of_lt_of_le hh (by decide);rw [e1,e2,BitVec.toNat_xor,BitVec.toNat_ofNat,BitVec.toNat_ofNat,Nat.mod_eq_of_lt h2];have e3:1 % 2 ^ 64=1:=by decide
 rw [e3,aOd];have h3:tw h≤h+1:=by unfold tw;split <;> omega
 exact w6
theorem aSS {h:Nat} (hh:h<4294967296):bits .xor .i64 (h:Int) 1=((tw h:Nat):Int):=by
 exact aTL hh
theorem aA.oJ {w0 w wr:World} {F:Nat→Prop} {H:List Chunk} (h:aA w0 w (.aH F wr::H)) (hO:∀ k,Old w0 k→F k) {c:Chunk} (hc:c ∈ H) {k:Nat} (hk:c.has k):ja w0 w k:=by
 refine⟨?_,Chunk.lt (h.ok c (List.mem_cons_of_mem _ hc)) hk⟩
 rcases Nat.lt_or_ge k w0.heap.size with aW|gB
 ·exact absurd hk ((List.pairwise_cons.1 h.apart).1 c hc k (hO k aW))
 ·exact gB
def pg (N l:List Nat):Nat→List Nat
 | 0=>N
 | i+1=>(pg N l i).set (tw (nth 0 l i)) (nth 0 l ((i+l.length - 1) % l.length))
def jq (m:Nat) (RL:List (List Nat)):Nat→List Nat
 | 0=>List.replicate (2*m) 0
 | v+1=>pg (jq m RL v) (nth [] RL v) (nth [] RL v).length
theorem aAR (N l:List Nat):∀ i,(pg N l i).length=N.length
 | 0=>rfl
 | i+1=>by unfold pg;rw [List.length_set];exact aAR N l i
theorem sW (m:Nat) (RL:List (List Nat)):∀ v,(jq m RL v).length=2*m
 | 0=>by simp [jq]
 | v+1=>by unfold jq;rw [aAR];exact sW m RL v
theorem aKx (m:Nat) (RL:List (List Nat)) (L:List Nat):∀ v,v≤RL.length→jq m (RL++[L]) v=jq m RL v
 | 0,_=>rfl
 | v+1,h=>by
  unfold jq;rw [aKx m RL L v (by omega),ju _ _ _ _ (by omega)]
structure l9 (w:World) (S:Nat→Prop) (RL:List (List Nat)) (l:List (Int × (Option Addr × Nat × Nat))):Prop where
 keys:l.map (·.1)=((List.range RL.length).filter (fun v=>decide (nth [] RL v≠[]))).map (fun (v:Nat)=>(v:Int))
 a5L:∀ p ∈ l,jZ w S (sv p.2) (nth [] RL p.1.toNat)
theorem l9.move {w wr:World} {S:Nat→Prop} {RL:List (List Nat)} {l:List (Int × (Option Addr × Nat × Nat))} (h:l9 wr S RL l) (hk:∀ k,S k→w.heap[k]? = wr.heap[k]?):l9 w S RL l:=⟨h.keys,fun p hp=>(h.a5L p hp).move hk⟩
theorem l9.mono {w:World} {S T:Nat→Prop} {RL:List (List Nat)} {l:List (Int × (Option Addr × Nat × Nat))} (h:l9 w S RL l) (hs:∀ k,S k→T k):l9 w T RL l:=⟨h.keys,fun p hp=>(h.a5L p hp).weaken hs⟩
theorem l9.skip {w:World} {S:Nat→Prop} {RL:List (List Nat)} {l:List (Int × (Option Addr × Nat × Nat))} (h:l9 w S RL l):l9 w S (RL++[[]]) l:=by
 refine⟨?_,fun p hp=>?_⟩
 ·rw [h.keys,List.length_append,List.length_singleton,List.range_succ,List.filter_append,List.map_append]
  have e1:List.filter (fun v=>decide (nth [] (RL++[[]]) v≠[])) [RL.length]=[]:=by
   rw [List.filter_cons_of_neg]
   ·rfl
   ·simp [uE]
  rw [e1,List.map_nil,List.append_nil]
  congr 1
  apply List.filter_congr;intro v hv;rw [List.mem_range] at hv;rw [ju _ _ _ _ hv]
 ·have h1:=h.a5L p hp
  have hk:p.1 ∈ l.map (·.1):=List.mem_map.2 ⟨p,hp,rfl⟩;rw [h.keys,List.mem_map] at hk;obtain⟨v,hv,e⟩:=hk;rw [List.mem_filter,List.mem_range] at hv;rw [ju _ _ _ _ (by omega)];exact h1
theorem l9.aUY {w:World} {S:Nat→Prop} {RL:List (List Nat)} {l:List (Int × (Option Addr × Nat × Nat))} (h:l9 w S RL l):eZ l (RL.length:Int)=none:=by
 refine aC6 (fun hm=>?_);rw [h.keys,List.mem_map] at hm;obtain⟨v,hv,e⟩:=hm;rw [List.mem_filter,List.mem_range] at hv;omega
theorem l9.add {w:World} {S:Nat→Prop} {RL:List (List Nat)} {l:List (Int × (Option Addr × Nat × Nat))} (h:l9 w S RL l) {L:List Nat} (hL:L≠[]) {s:Option Addr × Nat × Nat} (hs:jZ w S (sv s) L):l9 w S (RL++[L]) (fV l (RL.length:Int) s):=by
 rw [a7t h.aUY];refine⟨?_,fun p hp=>?_⟩
 ·rw [List.map_append,h.keys,List.length_append,List.length_singleton,List.range_succ,List.filter_append,List.map_append]
  have e1:List.filter (fun v=>decide (nth [] (RL++[L]) v≠[])) [RL.length]=[RL.length]:=by
   rw [List.filter_cons_of_pos]
   ·rfl
   ·simp [uE,hL]
  rw [e1];simp only [List.map_cons,List.map_nil]
  congr 2
  apply List.filter_congr;intro v hv;rw [List.mem_range] at hv;rw [ju _ _ _ _ hv]
 ·rcases List.mem_append.1 hp with hp|hp
  ·have h1:=h.a5L p hp
   have hk:p.1 ∈ l.map (·.1):=List.mem_map.2 ⟨p,hp,rfl⟩;rw [h.keys,List.mem_map] at hk;obtain⟨v,hv,e⟩:=hk;rw [List.mem_filter,List.mem_range] at hv;rw [ju _ _ _ _ (by omega)];exact h1
  ·rw [List.mem_singleton] at hp
   subst hp;simp only [Int.toNat_natCast];rw [uE];exact hs
theorem aA.aMG {w0 w wr:World} {F:Nat→Prop} {c1 c2 c3 r:Chunk} (hS:aA w0 w [.aH F wr,c1,c2,c3,r]):aA w0 w [.aH (fun k=>F k∨r.has k) w,c1,c2,c3]:=by
 have h1:=(hS.freeze 4 rfl).order [0,4,1,2,3] rfl;simp only [List.set_cons_succ,List.set_cons_zero,List.filterMap_cons,List.getElem?_cons_zero,List.getElem?_cons_succ,List.filterMap_nil] at h1;exact h1.join
theorem nU.lt {es:List Ed} {v:Nat} {L:List Nat} (h:nU es v L):∀ x ∈ L,x / 2<es.length:=fun x hx=>aD5 ((h.perm.mem_iff).1 hx)
theorem aMN (a1 a2 a3 a4:Option Addr) (n1 c1 n2 c2 n3 c3 n4 c4:Nat) (rs:List ER) (es:List Ed) (w:World) (S:Nat→Prop) (hL:aP w S) (bh:bN w S 5 (.slice a4 n4 c4) es.length (rs.flatMap ec)) (dW:kP w S rs es) (hd:∀ e ∈ es,e.dir.dir) (gV:es.length≤30000) (my:n3≤65536) :
 Calls prog 20 #[.agg #[.slice a1 n1 c1,.slice a2 n2 c2,.slice a3 n3 c3,.slice a4 n4 c4]] w fun e w'=>∃ (RL:List (List Nat)) (g c bm:Nat) (o:Obj) (l:List (Int × (Option Addr × Nat × Nat))) (F' S':Nat→Prop),e=.returned (.tuple #[.slice (some ⟨g,0,none⟩) (2*es.length) c,.map (some bm)])∧aA w w' [.aH F' w',.row (.slice (some ⟨g,0,none⟩) (2*es.length) c) 3 1 (2*es.length) (iv (zs (jq es.length RL n3))),.aB bm o]∧(∀ k,S' k→F' k)∧(∀ k,Old w k→F' k)∧Pure w S w' S'∧aP w' S'∧gj ik sv o l∧RL.length=n3∧(∀ v,v<n3→nU es v (nth [] RL v))∧l9 w' S' RL l:=by
 have j6:n4=es.length:=by obtain⟨h1,a,cap,h2,_⟩:=bh;cases h2;rfl
 subst j6;have w2m:IntKind.i64.wrap (2*(es.length:Int))=((2*es.length:Nat):Int):=w7;have ar:=fun v w' S hL bh dW (hv:v<n3)=>aS9 a1 a2 a3 a4 n1 c1 n2 c2 n3 c3 es.length c4 rs es v w' S hL bh dW hd (by omega) hv (by omega)
 obtain⟨hS,aC,bC,bD⟩:=eR hL
 go_enter func20,ntmps20
 go_wp2_with (first|(with_reducible refine cI hS fun bx cu hS=>?_)|((with_reducible refine a16 (T:=71) ?_);refine a3L hS (fun bm wbm hS=>?_);simp only [aD];simp only [aK] at hS)|(with_reducible refine aU 1 hS isAgg26 ?_)|((with_reducible refine r7 (T:=22) ?_);refine a9J (n:=2*es.length) (T:=22) (E:=3) hS underlying22 a0A rfl rfl (by omega) (by omega) (fun g wg hS=>?_);simp only [aD];simp only [aK] at hS)|(with_reducible refine aU 1 hS isAgg25 ?_))
 try try simp only [fA]
 have lX:List.replicate (2*es.length) (0:Int)=zs (jq es.length [] 0):=by simp [jq,zs]
 rw [lX] at hS;clear lX;have oO:gj ik sv (.map #[] 0) []:=gj.empty _ _;have zP:l9 w S [] []:=⟨rfl,fun p hp=>by cases hp⟩
 go_loopw [20] (fun v20 wr=>∃ (F S':Nat→Prop) (wq:World) (RL:List (List Nat)) (o:Obj) (l:List (Int × (Option Addr × Nat × Nat))),RL.length≤n3∧v20=.int .i64 (RL.length:Int)∧aA w wr [.aH F wq,.aB bx (.cells #[.slice a1 n1 c1,.slice a2 n2 c2,.slice a3 n3 c3,.slice a4 es.length c4] 28 (0,0)),.aB bm o,.row (.slice (some ⟨g,0,none⟩) (2*es.length) (2*es.length)) 3 1 (2*es.length) (iv (zs (jq es.length RL RL.length)))]∧(∀ k,S' k→F k)∧(∀ k,Old w k→F k)∧Pure w S wq S'∧aP wq S'∧bN wq S' 5 (.slice a4 es.length c4) es.length (rs.flatMap ec)∧kP wq S' rs es∧gj ik sv o l∧Hid (∀ v,v<RL.length→nU es v (nth [] RL v))∧l9 wq S' RL l) (fun v20 _=>n3 - (intOf v20).toNat)
 case atStart=>exact⟨_,S,w,[],_,[],by simp,rfl,hS,aC,bC,bD,hL,bh,dW,oO,Hd (fun v hv=>by simp at hv),zP⟩
 case round =>
  clear hS aC bC bD hL bh dW oO zP;obtain⟨F0,S0,wq,RL,o,l,hk,rfl,hS,aC,bC,bD,xN,bh,dW,oO,rH,zP⟩:=hrel
  by_cases cW:RL.length<n3
  ·have hnl:=sW es.length RL RL.length
   go_wp2_with (with_reducible refine bA 1 hS isAgg28 sizeOf28 ?_)
   refine (ar RL.length _ S0 (aP.at hS aC) (bh.move (hS.da aC)) (dW.at hS aC) cW).mono ?_;rintro e wc ⟨ad,n,c,h,rfl,cU,xr⟩;replace hS:=hS.import cU;simp only [aK] at hS;clear cU;have oE:=hS.dn 4 rfl
   have hnl:n=h.length:=by
    have:=oE.1;rw [tK,vC,Nat.mul_one] at this;exact this.symm
   subst hnl;have aW:=xr.lt;have hhl:h.length≤es.length:=by rw [xr.perm.length_eq];exact a9y _
   have hNr:jZ wc (Chunk.row (.slice ad h.length c) 3 1 h.length (iv (zs h))).has (.slice ad h.length c) h:=⟨by rw [vC];exact oE,aAv (fun x hx=>by have:=aW x hx;omega)⟩;have dL:=bD.step hS bC aC;have p8:∀ k,(Chunk.row (.slice ad h.length c) 3 1 h.length (iv (zs h))).has k→ja w wc k:=fun k hk=>hS.oJ bC (bW (i:=3) rfl) hk
   have aGz:=bh.move (hS.da aC);have aIL:=dW.at hS aC;have a9b:=zP.move (hS.da aC);replace hS:=aA.aMG hS;obtain⟨T,hT⟩:∃ T,T=(Chunk.row (.slice ad h.length c) 3 1 h.length (iv (zs h))).has:=⟨_,rfl⟩;rw [← hT] at hS hNr p8;clear hT oE;have bB:Pure w S wc (fun k=>S0 k∨T k):=⟨dL.below,dL.drawn,fun k hk=>.inl (dL.sub k hk),fun k hk=>hk.elim (dL.new k) (fun hk=>.inr (p8 k hk))⟩;have aG:∀ k,(S0 k∨T k)→(F0 k∨T k):=fun k hk=>hk.elim (fun hk=>.inl (aC k hk)) .inr
   have av:∀ k,Old w k→(F0 k∨T k):=fun k hk=>.inl (bC k hk)
   have sR:aP wc (fun k=>S0 k∨T k):=fun k hk=>(hS.ok (.aH (fun k=>F0 k∨T k) wc) (bW (i:=0) rfl) k (aG k hk)).1
   have aLv:=aGz.weaken (T:=fun k=>S0 k∨T k) (fun k hk=>.inl hk);have aGr:=aIL.weaken (T:=fun k=>S0 k∨T k) (fun k hk=>.inl hk);have aGx:=a9b.mono (T:=fun k=>S0 k∨T k) (fun k hk=>.inl hk);have aOf:jZ wc (fun k=>S0 k∨T k) (.slice ad h.length c) h:=hNr.weaken (fun k hk=>.inr hk);have aXh:jZ wc (fun k=>F0 k∨T k) (.slice ad h.length c) h:=hNr.weaken (fun k hk=>.inr hk)
   have aAe:∀ v,v<(RL++[h]).length→nU es v (nth [] (RL++[h]) v):=fun v hv=>by
    rw [List.length_append,List.length_singleton] at hv
    by_cases e:v=RL.length
    ·subst e;rw [uE];exact xr
    ·rw [ju _ _ _ _ (by omega)];exact rH.out v (by omega)
   have yO:(RL++[h]).length=RL.length+1:=by simp
   have a4b:jq es.length (RL++[h]) (RL++[h]).length=pg (jq es.length RL RL.length) h h.length:=by
    rw [yO];show pg (jq es.length (RL++[h]) RL.length) (nth [] (RL++[h]) RL.length) (nth [] (RL++[h]) RL.length).length=_;rw [uE,aKx _ _ _ _ (Nat.le_refl _)]
   replace aAe:=Hd aAe;replace yO:=Hd yO;replace a4b:=Hd a4b;replace aW:=Hd aW;clear hNr p8 dL aGz aIL a9b xr bh dW xN bD aC bC;simp only []
   by_cases hh:h=[]
   ·subst hh
    have aE6:=aGx.skip;go_wp2;go_roundw
    case rel=>exact⟨_,_,wc,RL++[[]],o,l,by rw [yO.out];omega,by rw [yO.out];simp,by rw [a4b.out];exact hS,aG,av,bB,sR,aLv,aGr,oO,aAe,aE6⟩
    case measure=>simp [intOf];omega
   ·have aE6:=aGx.add (s:=(ad,h.length,c)) hh aOf
    have hl0:((h.length:Int) == 0)=false:=by
     rw [beq_eq_false_iff_ne];intro e;exact hh (List.length_eq_zero_iff.1 (by omega))
    have kN:0<h.length:=Nat.pos_of_ne_zero (fun e=>hh (List.length_eq_zero_iff.1 e));replace hh:=Hd hh;obtain⟨N0,hN0⟩:∃ N0,jq es.length RL RL.length=N0:=⟨_,rfl⟩;have aW8:N0.length=2*es.length:=by rw [← hN0];exact sW _ _ _
    rw [hN0] at hS a4b;replace hN0:=Hd hN0
    go_wp2_with (first|((with_reducible refine a3x (T:=71) ?_);refine a1Z (ev:=sv) (k:=(RL.length:Int)) (v:=(ad,h.length,c)) 2 hS underlying71 (uX underlying3) rfl rfl rfl rfl oO rfl (fun ou wu hmu hS=>?_);simp only [aD];simp only [aK] at hS))
    go_loopw [41] (fun v41 wr=>∃ i:Nat,i≤h.length∧v41=.int .i64 (i:Int)∧aA w wr [.aH (fun k=>F0 k∨T k) wc,.aB bx (.cells #[.slice a1 n1 c1,.slice a2 n2 c2,.slice a3 n3 c3,.slice a4 es.length c4] 28 (0,0)),.aB bm ou,.row (.slice (some ⟨g,0,none⟩) (2*es.length) (2*es.length)) 3 1 (2*es.length) (iv (zs (pg N0 h i)))]) (fun v41 _=>h.length - (intOf v41).toNat)
    case atStart=>exact⟨0,by omega,rfl,hS⟩
    case round =>
     clear hS;obtain⟨i,hi,rfl,hS⟩:=hrel
     by_cases dj:i<h.length
     ·have pO:=aW.out _ (cQ 0 h i dj)
      have hxb:=aSS (h:=nth 0 h i) (by omega);have tj:tw (nth 0 h i)<2*es.length:=a1Q (m:=es.length) (by omega);obtain⟨j,hj⟩:∃ j,(i+h.length - 1) % h.length=j:=⟨_,rfl⟩;have gX:j<h.length:=by rw [← hj];exact Nat.mod_lt _ kN
      have m1:IntKind.i64.wrap ((i:Int)+(h.length:Int))=(i:Int)+(h.length:Int):=w6;have m2:IntKind.i64.wrap ((i:Int)+(h.length:Int) - 1)=(i:Int)+(h.length:Int) - 1:=w6
      have m3:((i:Int)+(h.length:Int) - 1) % (h.length:Int)=(j:Int):=by
       rw [← hj,Int.natCast_emod];congr 1;omega
      have m4:((i:Int)+(h.length:Int) - 1).tmod (h.length:Int)=(j:Int):=by rw [Int.tmod_eq_emod_of_nonneg (by omega)];exact m3
      have m5:IntKind.i64.wrap (j:Int)=(j:Int):=w6;have xh:=aAR N0 h i
      have cA:(zs (pg N0 h i)).set (tw (nth 0 h i)) ((nth 0 h j:Nat):Int)=zs (pg N0 h (i+1)):=by
       show _=zs ((pg N0 h i).set (tw (nth 0 h i)) (nth 0 h ((i+h.length - 1) % h.length)));rw [hj];simp [zs]
      replace cA:=Hd cA;replace xh:=Hd xh;clear hj
      go_wp2_with (with_reducible first|refine ixN underlying22 sizeOf3 fun _ _ _=>?_|refine fP hS isAgg3 ?_|refine kW underlying22 sizeOf3 ?_|refine xS 3 hS sizeOf3 fun _ hS=>?_)
      rw [cA.out] at hS;go_roundw
      case rel=>exact⟨i+1,by omega,by simp,hS⟩
      case measure=>simp [intOf];omega
     ·obtain rfl:h.length=i:=by omega
      go_wp2;go_roundw
      case rel=>exact⟨_,_,wc,RL++[h],ou,_,by rw [yO.out];omega,by rw [yO.out];simp,by rw [a4b.out];exact hS,aG,av,bB,sR,aLv,aGr,hmu,aAe,aE6⟩
      case measure=>simp [intOf];omega
  ·obtain rfl:RL.length=n3:=by omega
   go_wp2;refine bodyPost_ret (results_tmp2 rfl _ _ _) rfl ?_;have dL:=bD.step hS bC aC;have a9b:=zP.move (hS.da aC);have sR:=aP.at hS aC;have hS:=(hS.freeze 0 rfl).order [0,3,2,1] rfl;simp only [List.set_cons_succ,List.set_cons_zero,List.filterMap_cons,List.getElem?_cons_zero,List.getElem?_cons_succ,List.filterMap_nil] at hS;exact⟨RL,g,2*es.length,bm,o,l,F0,S0,rfl,hS.sb,aC,bC,dL,sR,oO,rfl,rH.out,a9b⟩
structure FI where
 N:List Nat
 m:Nat
 n:Nat
 root:List Nat
 out:Nat→Nat
 fh:Nat→Bool
 nI:Nat→Option Nat
def FI.pq (x:FI) (d:List Nat) (k:Nat):Bool:=d.any fun v=>nth 0 x.root v == v && (et x.N (x.out v)).contains k
def FI.L1 (x:FI) (d:List Nat):List Int:=(List.range x.N.length).map fun k=>if x.pq d k then -2 else -1
def FI.keys (x:FI):List Nat:=(List.range x.n).filter x.fh
def FI.fO (x:FI):Nat→List Int × List Int
 | 0=>(x.L1 x.keys,[-1])
 | h+1=>if nth 0 (x.fO h).1 h = -1 then (lE (x.fO h).1 (et x.N h) (x.fO h).2.length,(x.fO h).2++[(ed x.N h:Int)]) else x.fO h
def FI.L2 (x:FI):List Int:=(x.fO x.N.length).1
def FI.O (x:FI):List Int:=(x.fO x.N.length).2
def FI.fK (x:FI) (L:List Int) (v:Nat):Int:=match x.nI v with|none=>0|some e=>nth 0 L (2*e)
def xf (I:List (List Nat)) (i y:Nat):List (List Nat):=I.set i (nth [] I i++[y])
structure F3 where
 L:List Int
 I:List (List Nat)
 A:List (List Nat)
def FI.a0a (x:FI) (s:F3) (v:Nat):F3 :=
 if nth 0 x.root v=v then
  if x.fh v=true then ⟨lE s.L (et x.N (x.out v)) (x.fK s.L v),xf s.I (x.fK s.L v).toNat (ed x.N (x.out v)),s.A⟩
  else ⟨s.L,s.I,xf s.A (x.fK s.L v).toNat v⟩
 else s
def FI.gE (x:FI):Nat→F3
 | 0=>⟨x.L2,List.replicate x.O.length [],List.replicate x.O.length []⟩
 | v+1=>x.a0a (x.gE v) v
structure FI.Ok (x:FI) (fB:Nat→Nat):Prop where
 perm:jg x.N
 len:x.N.length=2*x.m
 aBG:∀ h,h<x.N.length→fB h<x.n
 aI3:∀ h,h<x.N.length→fB (nth 0 x.N h)=fB (tw h)
 aKW:∀ v,v<x.n→nth 0 x.root v≤v
 aYF:∀ v,v<x.n→nth 0 x.root (nth 0 x.root v)=nth 0 x.root v
 aQa:∀ h,h<x.N.length→nth 0 x.root (fB h)=nth 0 x.root (fB (tw h))
 zJ:∀ v,v<x.n→x.fh v=true→x.out v<x.N.length
 aK9:∀ v,v<x.n→x.fh v=true→fB (x.out v)=v
 aYk:∀ h,h<x.N.length→x.fh (fB h)=true
 aXW:∀ v,v<x.n→x.fh v=true→x.fh (nth 0 x.root v)=true
 alone:∀ v,v<x.n→x.fh v=false→nth 0 x.root v=v
 aPb:∀ v e,v<x.n→x.nI v=some e→e<x.m∧fB (2*e)<v
def FI.W (x:FI) (k:Nat):Prop:=x.pq x.keys k=true
instance (x:FI) (k:Nat):Decidable (x.W k):=by unfold FI.W;infer_instance
section
variable {x:FI} {fB:Nat→Nat} (hx:x.Ok fB)
theorem FI.a7A (x:FI) (k:Nat):x.W k↔∃ v,v<x.n∧x.fh v=true∧nth 0 x.root v=v∧k ∈ et x.N (x.out v):=by
 unfold FI.W FI.pq FI.keys;simp only [List.any_eq_true,List.mem_filter,List.mem_range,Bool.and_eq_true,beq_iff_eq,List.contains_iff_mem]
 constructor
 ·rintro⟨v,⟨a,b⟩,c,d⟩;exact⟨v,a,b,c,d⟩
 ·rintro⟨v,a,b,c,d⟩;exact⟨v,⟨a,b⟩,c,d⟩
 include hx
theorem FI.Ok.aU0 {h:Nat} (hh:h<x.N.length):nth 0 x.root (fB (nth 0 x.N h))=nth 0 x.root (fB h):=by
 rw [hx.aI3 h hh,hx.aQa h hh]
theorem FI.Ok.aIJ {h:Nat} (hh:h<x.N.length):∀ j,nth 0 x.root (fB (it x.N j h))=nth 0 x.root (fB h)
 | 0=>rfl
 | j+1=>by
  show nth 0 x.root (fB (nth 0 x.N (it x.N j h)))=_;rw [hx.aU0 (xk hx.perm hh j),FI.Ok.aIJ hh j]
theorem FI.Ok.aJA {h k:Nat} (hh:h<x.N.length) (hk:k ∈ et x.N h):nth 0 x.root (fB k)=nth 0 x.root (fB h):=by
 obtain⟨j,rfl⟩:=(xo hx.perm hh k).1 hk;exact hx.aIJ hh j
theorem FI.Ok.aHH {h k:Nat} (hh:h<x.N.length) (hk:k ∈ et x.N h):x.W k↔x.W h:=by
 rw [x.a7A,x.a7A];have cW:=uO hx.perm hh hk
 constructor
 ·rintro⟨v,a,b,c,d⟩
  exact⟨v,a,b,c,a9T hx.perm (hx.zJ v a b) d (aHV hx.perm hh hk)⟩
 ·rintro⟨v,a,b,c,d⟩
  exact⟨v,a,b,c,a9T hx.perm (hx.zJ v a b) d hk⟩
theorem FI.Ok.aTf {h:Nat} (hh:h<x.N.length):x.W (ed x.N h)↔x.W h:=hx.aHH hh (a0s hx.perm hh).1
theorem FI.Ok.aCM {k:Nat} (hk:k<x.N.length) (h:x.W k):nth 0 x.root (fB k)<x.n∧x.fh (nth 0 x.root (fB k))=true∧nth 0 x.root (nth 0 x.root (fB k))=nth 0 x.root (fB k)∧k ∈ et x.N (x.out (nth 0 x.root (fB k))):=by
 obtain⟨v,a,b,c,d⟩:=(x.a7A k).1 h;have e:=hx.aJA (hx.zJ v a b) d;rw [hx.aK9 v a b,c] at e;rw [e];exact⟨a,b,c,d⟩
theorem FI.Ok.aA7 {v:Nat} (hv:v<x.n) (hr:nth 0 x.root v=v) (he:x.fh v=true) {k:Nat} (hk:k<x.N.length):k ∈ et x.N (x.out v)↔x.W k∧nth 0 x.root (fB k)=v:=by
 constructor
 ·intro h
  refine⟨(x.a7A k).2 ⟨v,hv,he,hr,h⟩,?_⟩;rw [hx.aJA (hx.zJ v hv he) h,hx.aK9 v hv he,hr]
 ·rintro⟨h1,h2⟩
  have:=(hx.aCM hk h1).2.2.2
  rwa [h2] at this
structure Ph2 (x:FI) (h:Nat) (L O:List Int):Prop where
 len:L.length=x.N.length
 pos:0<O.length
 zero:nth 0 O 0 = -1
 outs:∀ i,0<i→i<O.length→∃ q:Nat,nth 0 O i=(q:Int)∧q<x.N.length∧ed x.N q=q∧¬ x.W q∧nth 0 L q=(i:Int)
 w:∀ k,k<x.N.length→x.W k→nth 0 L k = -2
 low:∀ k,k<x.N.length→¬ x.W k→ed x.N k<h→∃ i:Nat,0<i∧i<O.length∧nth 0 L k=(i:Int)∧nth 0 O i=(ed x.N k:Int)
 high:∀ k,k<x.N.length→¬ x.W k→h≤ed x.N k→nth 0 L k = -1
 many:O.length≤h+1
 omit hx in
theorem FI.yJ (x:FI) (d:List Nat):(x.L1 d).length=x.N.length:=by unfold FI.L1;simp
 omit hx in
theorem FI.a4O (x:FI) (d:List Nat) {k:Nat} (hk:k<x.N.length):nth 0 (x.L1 d) k=if x.pq d k=true then -2 else -1:=by
  rw [bS _ _ _ (by rw [x.yJ];exact hk)];unfold FI.L1;simp
theorem FI.Ok.fO:∀ h,h≤x.N.length→Ph2 x h (x.fO h).1 (x.fO h).2
 | 0,_=>by
  refine⟨x.yJ _,by simp [FI.fO],rfl,fun i h0 hi=>by simp [FI.fO] at hi;omega,fun k hk hw=>?_,fun k hk hw h0=>by omega,fun k hk hw h0=>?_,by simp [FI.fO]⟩
  ·show nth 0 (x.L1 x.keys) k = -2
   rw [x.a4O _ hk,if_pos (show x.pq x.keys k=true from hw)]
  ·show nth 0 (x.L1 x.keys) k = -1
   rw [x.a4O _ hk,if_neg (show ¬ x.pq x.keys k=true from hw)]
 | h+1,hh=>by
  have ih:=FI.Ok.fO h (by omega);have hl:h<x.N.length:=by omega
  unfold FI.fO;generalize x.fO h=s at ih;obtain⟨L,O⟩:=s;simp only at ih ⊢
  by_cases h1:nth 0 L h = -1
  ·rw [if_pos h1]
   have rn:¬ x.W h:=fun hw=>by rw [ih.w h hl hw] at h1;omega
   have hle:ed x.N h=h:=by
    have h2:=aIF hx.perm hl
    by_cases h3:ed x.N h<h
    ·obtain⟨i,i0,_,e,_⟩:=ih.low h hl rn h3;omega
    ·omega
   have j0:∀ k,k<x.N.length→(k ∈ et x.N h↔ed x.N k=h):=fun k hk=>by
    constructor
    ·intro hm;rw [a9U hx.perm hl hm,hle]
    ·intro e;exact aTu hx.perm hl hk (by rw [hle,e])
   have iF:∀ k,k<x.N.length→nth 0 (lE L (et x.N h) O.length) k=if ed x.N k=h then (O.length:Int) else nth 0 L k:=fun k hk=>by
    rw [a2R _ _ _ (fun k hk=>by rw [ih.len];exact uO hx.perm hl hk)]
    by_cases hm:k ∈ et x.N h
    ·rw [if_pos hm,if_pos ((j0 k hk).1 hm)]
    ·rw [if_neg hm,if_neg (fun e=>hm ((j0 k hk).2 e))]
   refine⟨by rw [zH];exact ih.len,by simp,by rw [ju _ _ _ _ ih.pos];exact ih.zero,fun i i0 hi=>?_,fun k hk hw=>?_,fun k hk hw aA6=>?_,fun k hk hw aA3=>?_,by have:=ih.many;simp;omega⟩
   ·rw [List.length_append,List.length_singleton] at hi
    by_cases mg:i<O.length
    ·obtain⟨q,e,q1,q2,q3,q4⟩:=ih.outs i i0 mg
     refine⟨q,by rw [ju _ _ _ _ mg];exact e,q1,q2,q3,?_⟩;rw [iF q q1,if_neg ?_]
     ·exact q4
     ·intro e2
      rw [q2] at e2;subst e2;omega
    ·obtain rfl:i=O.length:=by omega
     exact⟨h,by rw [uE,hle],hl,hle,rn,by rw [iF h hl,if_pos hle]⟩
   ·rw [iF k hk,if_neg ?_]
    ·exact ih.w k hk hw
    ·intro e
     exact rn ((hx.aHH hl ((j0 k hk).2 e)).1 hw)
   ·rw [iF k hk]
    by_cases e:ed x.N k=h
    ·rw [if_pos e]
     exact⟨O.length,ih.pos,by simp,rfl,by rw [uE,hle,e]⟩
    ·rw [if_neg e]
     obtain⟨i,i0,i1,i2,i3⟩:=ih.low k hk hw (by omega);exact⟨i,i0,by simp;omega,i2,by rw [ju _ _ _ _ i1];exact i3⟩
   ·rw [iF k hk,if_neg (by omega)]
    exact ih.high k hk hw (by omega)
  ·rw [if_neg h1]
   refine⟨ih.len,ih.pos,ih.zero,ih.outs,ih.w,fun k hk hw aA6=>?_,fun k hk hw aA3=>ih.high k hk hw (by omega),Nat.le_succ_of_le ih.many⟩
   by_cases e:ed x.N k=h
   ·exfalso
    apply h1;have e2:=a7y hx.perm hk;rw [e] at e2;refine ih.high h hl (fun mM=>hw ?_) (by omega);rw [← hx.aTf hk,e];exact mM
   ·exact ih.low k hk hw (by omega)
theorem FI.Ok.p2:Ph2 x x.N.length x.L2 x.O:=hx.fO _ (Nat.le_refl _)
 omit hx in
theorem aMc {I:List (List Nat)} {i:Nat} (hi:i<I.length) (y z:Nat):(xf I i y).flatten.count z=I.flatten.count z+if z=y then 1 else 0:=by
  have e1:I=I.take i++nth [] I i::I.drop (i+1):=by
   rw [bS _ _ _ hi];simp
  have hl:(I.take i).length=i:=by simp;omega
  unfold xf;generalize nth [] I i=a at e1;generalize I.take i=A at e1 hl;generalize I.drop (i+1)=B at e1;subst e1;subst hl;rw [List.set_append_right _ _ (Nat.le_refl _),Nat.sub_self,List.set_cons_zero];simp only [List.flatten_append,List.flatten_cons,List.count_append,List.count_cons,List.count_nil]
  by_cases h:z=y
  ·subst h;simp;omega
  ·have:¬ y=z:=fun e=>h e.symm
   simp [h,this]
 omit hx in
theorem aAT {I:List (List Nat)} {i:Nat} (hi:i<I.length) (y k:Nat):nth [] (xf I i y) k=if k=i then nth [] I i++[y] else nth [] I k:=by
  unfold xf;rw [wO _ _ _ _ _ hi]
 omit hx in
theorem aIR (I:List (List Nat)) (i y:Nat):(xf I i y).length=I.length:=by unfold xf;simp
structure Ph3 (x:FI) (fB:Nat→Nat) (v:Nat) (s:F3):Prop where
 len:s.L.length=x.N.length
 vA:s.I.length=x.O.length
 vY:s.A.length=x.O.length
 nw:∀ k,k<x.N.length→¬ x.W k→nth 0 s.L k=nth 0 x.L2 k
 a1w:∀ k,k<x.N.length→x.W k→nth 0 x.root (fB k)<v→∃ i:Nat,i<x.O.length∧nth 0 s.L k=(i:Int)∧ed x.N k ∈ nth [] s.I i
 aFE:∀ k,k<x.N.length→x.W k→v≤nth 0 x.root (fB k)→nth 0 s.L k = -2
 im:∀ i,i<x.O.length→∀ y ∈ nth [] s.I i,y<x.N.length∧ed x.N y=y∧x.W y∧nth 0 x.root (fB y)<v∧nth 0 s.L y=(i:Int)
 a1L:∀ y,s.I.flatten.count y≤1
 am:∀ i,i<x.O.length→∀ u ∈ nth [] s.A i,u<v
 a1Y:∀ u,s.A.flatten.count u=if u<v∧nth 0 x.root u=u∧x.fh u=false then 1 else 0
theorem FI.Ok.aIH {v:Nat} {s:F3} (hv:v<x.n) (ih:Ph3 x fB v s):∃ i:Nat,i<x.O.length∧x.fK s.L v=(i:Int):=by
 unfold FI.fK;cases hb:x.nI v with
 | none=>exact⟨0,hx.p2.pos,rfl⟩
 | some e =>
  obtain⟨h1,h2⟩:=hx.aPb v e hv hb;have hk:2*e<x.N.length:=by rw [hx.len];omega
  by_cases hw:x.W (2*e)
  ·have h3:=hx.aKW _ (hx.aBG _ hk)
   obtain⟨i,a,b,_⟩:=ih.a1w _ hk hw (by omega);exact⟨i,a,b⟩
  ·obtain⟨i,a,b,c,_⟩:=hx.p2.low _ hk hw (a0R hx.perm hk)
   exact⟨i,b,(ih.nw _ hk hw).trans c⟩
 omit hx in
theorem aWF {I:List (List Nat)} {y:Nat} (h:y ∈ I.flatten):∃ i,i<I.length∧y ∈ nth [] I i:=by
  obtain⟨l,hl,hy⟩:=List.mem_flatten.1 h;obtain⟨i,hi,rfl⟩:=List.getElem_of_mem hl;exact⟨i,hi,by rw [bS _ _ _ hi];exact hy⟩
theorem FI.Ok.gE:∀ v,v≤x.n→Ph3 x fB v (x.gE v)
 | 0,_=>by
  have hp:=hx.p2
  have rh:∀ i,nth [] (List.replicate x.O.length ([]:List Nat)) i=[]:=fun i=>by
   simp only [nth,List.getD_eq_getElem?_getD,List.getElem?_replicate];split <;> rfl
  refine⟨hp.len,by simp [FI.gE],by simp [FI.gE],fun k hk hw=>rfl,fun k hk hw h0=>by omega,fun k hk hw h0=>hp.w k hk hw,fun i hi y hy=>?_,fun y=>?_,fun i hi y hy=>?_,fun u=>?_⟩
  ·simp only [FI.gE] at hy;rw [rh] at hy;cases hy
  ·simp [FI.gE]
  ·simp only [FI.gE] at hy;rw [rh] at hy;cases hy
  ·simp [FI.gE]
 | v+1,kU=>by
  have hv:v<x.n:=by omega
  have ih:=FI.Ok.gE v (by omega);show Ph3 x fB (v+1) (x.a0a (x.gE v) v);generalize x.gE v=s at ih;obtain⟨f,hf,lU⟩:=hx.aIH hv ih;unfold FI.a0a
  by_cases hr:nth 0 x.root v=v
  ·rw [if_pos hr]
   by_cases he:x.fh v=true
   ·rw [if_pos he,lU]
    have cD:=hx.zJ v hv he
    have iF:∀ k,k<x.N.length→nth 0 (lE s.L (et x.N (x.out v)) (f:Int)) k=if x.W k∧nth 0 x.root (fB k)=v then (f:Int) else nth 0 s.L k:=fun k hk=>by
     rw [a2R _ _ _ (fun k hk=>by rw [ih.len];exact uO hx.perm cD hk)]
     by_cases hm:k ∈ et x.N (x.out v)
     ·rw [if_pos hm,if_pos ((hx.aA7 hv hr he hk).1 hm)]
     ·rw [if_neg hm,if_neg (fun e=>hm ((hx.aA7 hv hr he hk).2 e))]
    obtain⟨y,hy⟩:∃ y,ed x.N (x.out v)=y:=⟨_,rfl⟩;have hyo:y ∈ et x.N (x.out v):=by rw [← hy];exact (a0s hx.perm cD).1
    have iT:=uO hx.perm cD hyo;obtain⟨hyw,hyr⟩:=(hx.aA7 hv hr he iT).1 hyo;have hyy:ed x.N y=y:=by rw [← hy];exact a7y hx.perm cD
    have hfi:f<s.I.length:=by rw [ih.vA];exact hf
    rw [hy,Int.toNat_natCast];refine⟨by rw [zH];exact ih.len,by rw [aIR];exact ih.vA,ih.vY,fun k hk hw=>?_,fun k hk hw aA6=>?_,fun k hk hw aA3=>?_,fun i hi z hz=>?_,fun z=>?_,fun i hi u hu=>Nat.lt_succ_of_lt (ih.am i hi u hu),fun u=>?_⟩
    ·rw [iF k hk,if_neg (fun e=>hw e.1)];exact ih.nw k hk hw
    ·rw [iF k hk]
     by_cases e:nth 0 x.root (fB k)=v
     ·rw [if_pos ⟨hw,e⟩]
      refine⟨f,hf,rfl,?_⟩;rw [aAT hfi,if_pos rfl]
      have:ed x.N k=y:=by
       rw [← hy];exact a9U hx.perm cD ((hx.aA7 hv hr he hk).2 ⟨hw,e⟩)
      rw [this];simp
     ·rw [if_neg (fun h=>e h.2)]
      obtain⟨i,a,b,c⟩:=ih.a1w k hk hw (by omega);refine⟨i,a,b,?_⟩;rw [aAT hfi]
      split
      ·rename_i e2;subst e2;exact List.mem_append_left _ c
      ·exact c
    ·rw [iF k hk,if_neg (fun h=>by omega)]
     exact ih.aFE k hk hw (by omega)
    ·rw [aAT hfi] at hz
     by_cases hfz:i=f
     ·rw [if_pos hfz] at hz
      subst hfz
      rcases List.mem_append.1 hz with h1|h1
      ·obtain⟨a,b,c,d,e⟩:=ih.im i hi z h1
       exact⟨a,b,c,by omega,by rw [iF z a,if_neg (fun h=>by omega)];exact e⟩
      ·rw [List.mem_singleton] at h1
       subst h1;exact⟨iT,hyy,hyw,by omega,by rw [iF z iT,if_pos ⟨hyw,hyr⟩]⟩
     ·rw [if_neg hfz] at hz
      obtain⟨a,b,c,d,e⟩:=ih.im i hi z hz;exact⟨a,b,c,by omega,by rw [iF z a,if_neg (fun h=>by omega)];exact e⟩
    ·rw [aMc hfi]
     by_cases e:z=y
     ·subst e
      rw [if_pos rfl]
      have:List.count z s.I.flatten=0:=by
       rw [List.count_eq_zero];intro hm;obtain⟨i,hi,gv⟩:=aWF hm;rw [ih.vA] at hi;have:=(ih.im i hi z gv).2.2.2.1;omega
      omega
     ·rw [if_neg e];exact ih.a1L z
    ·rw [ih.a1Y u]
     by_cases e:u=v
     ·subst e
      rw [if_neg (by omega),if_neg (by rw [he];simp)]
     ·by_cases h1:u<v∧nth 0 x.root u=u∧x.fh u=false
      ·rw [if_pos h1,if_pos ⟨by omega,h1.2⟩]
      ·rw [if_neg h1,if_neg (fun h=>h1 ⟨by omega,h.2⟩)]
   ·rw [if_neg he,lU,Int.toNat_natCast]
    have fM:x.fh v=false:=by simpa using he
    have hfa:f<s.A.length:=by rw [ih.vY];exact hf
    have a0p:∀ k,k<x.N.length→x.W k→nth 0 x.root (fB k)≠v:=fun k hk hw e=>by
     have:=(hx.aCM hk hw).2.1;rw [e] at this;exact he this
    refine⟨ih.len,ih.vA,by rw [aIR];exact ih.vY,ih.nw,fun k hk hw aA6=>ih.a1w k hk hw (by have:=a0p k hk hw;omega),fun k hk hw aA3=>ih.aFE k hk hw (by omega),fun i hi y hy=>?_,ih.a1L,fun i hi u hu=>?_,fun u=>?_⟩
    ·obtain⟨a,b,c,d,e⟩:=ih.im i hi y hy
     exact⟨a,b,c,by omega,e⟩
    ·rw [aAT hfa] at hu
     split at hu
     ·rename_i e2
      subst e2
      rcases List.mem_append.1 hu with h1|h1
      ·have:=ih.am i hi u h1;omega
      ·rw [List.mem_singleton] at h1;omega
     ·have:=ih.am i hi u hu;omega
    ·rw [aMc hfa,ih.a1Y u]
     by_cases e:u=v
     ·subst e
      rw [if_neg (by omega),if_pos rfl,if_pos ⟨by omega,hr,fM⟩]
     ·rw [if_neg e]
      by_cases h1:u<v∧nth 0 x.root u=u∧x.fh u=false
      ·rw [if_pos h1,if_pos ⟨by omega,h1.2⟩]
      ·rw [if_neg h1,if_neg (fun h=>h1 ⟨by omega,h.2⟩)]
  ·rw [if_neg hr]
   have a0p:∀ k,k<x.N.length→x.W k→nth 0 x.root (fB k)≠v:=fun k hk hw e=>by
    have:=(hx.aCM hk hw).2.2.1;rw [e] at this;exact hr this
   refine⟨ih.len,ih.vA,ih.vY,ih.nw,fun k hk hw aA6=>ih.a1w k hk hw (by have:=a0p k hk hw;omega),fun k hk hw aA3=>ih.aFE k hk hw (by omega),fun i hi y hy=>?_,ih.a1L,fun i hi u hu=>by have:=ih.am i hi u hu;omega,fun u=>?_⟩
   ·obtain⟨a,b,c,d,e⟩:=ih.im i hi y hy
    exact⟨a,b,c,by omega,e⟩
   ·rw [ih.a1Y u]
    by_cases e:u=v
    ·subst e
     rw [if_neg (by omega),if_neg (fun h=>hr h.2.1)]
    ·by_cases h1:u<v∧nth 0 x.root u=u∧x.fh u=false
     ·rw [if_pos h1,if_pos ⟨by omega,h1.2⟩]
     ·rw [if_neg h1,if_neg (fun h=>h1 ⟨by omega,h.2⟩)]
end
def iA (es:List Ed) (h:Nat):Nat:=if h % 2=0 then (nth ah es (h / 2)).a else (nth ah es (h / 2)).b
theorem aIT {es:List Ed} {v i h:Nat} (bJ:(nth ah es i).a≠(nth ah es i).b):h ∈ qj es v i↔h / 2=i∧iA es h=v:=by
 unfold qj iA
 constructor
 ·intro hh
  split at hh
  ·rename_i e
   rw [List.mem_singleton] at hh;subst hh;have h1:2*i / 2=i:=by omega
   have h2:2*i % 2=0:=by omega
   rw [h1,if_pos h2];exact⟨rfl,e⟩
  ·split at hh
   ·rename_i e
    rw [List.mem_singleton] at hh;subst hh;have h1:(2*i+1) / 2=i:=by omega
    have h2:¬ (2*i+1) % 2=0:=by omega
    rw [h1,if_neg h2];exact⟨rfl,e⟩
   ·cases hh
 ·rintro⟨rfl,ho⟩
  by_cases e:h % 2=0
  ·rw [if_pos e] at ho
   rw [if_pos ho,List.mem_singleton];omega
  ·rw [if_neg e] at ho
   rw [if_neg (fun h1=>bJ (h1.trans ho.symm)),if_pos ho,List.mem_singleton];omega
theorem a4Y {es:List Ed} {v h:Nat}:∀ {k:Nat},k≤es.length→(∀ e ∈ es,e.a≠e.b)→(h ∈ jX es v k↔h / 2<k∧iA es h=v)
 | 0,_,_=>⟨fun h=>(by cases h),fun h=>absurd h.1 (Nat.not_lt_zero _)⟩
 | k+1,hk,bJ=>by
  show h ∈ jX es v k++qj es v k↔_;rw [List.mem_append,a4Y (by omega) bJ,aIT (bJ _ (cQ ah es k (by omega)))]
  constructor
  ·rintro (⟨a,b⟩|⟨a,b⟩)
   ·exact⟨by omega,b⟩
   ·exact⟨by omega,b⟩
  ·rintro⟨a,b⟩
   by_cases e:h / 2=k
   ·exact .inr ⟨e,b⟩
   ·exact .inl ⟨by omega,b⟩
theorem aJo {es:List Ed} {v:Nat}:∀ {k:Nat},k≤es.length→(∀ e ∈ es,e.a≠e.b)→(jX es v k).Nodup
 | 0,_,_=>List.nodup_nil
 | k+1,hk,bJ=>by
  show (jX es v k++qj es v k).Nodup;refine List.nodup_append.2 ⟨aJo (by omega) bJ,?_,fun x hx y hy e=>?_⟩
  ·unfold qj;split
   ·simp
   ·split <;> simp
  ·subst e
   have h1:=(a4Y (by omega) bJ).1 hx;have h2:=(aIT (bJ _ (cQ ah es k (by omega)))).1 hy;omega
structure zA (es:List Ed) (n:Nat) (RL:List (List Nat)):Prop where
 len:RL.length=n
 nodup:∀ v,v<n→(nth [] RL v).Nodup
 mem:∀ v h,v<n→(h ∈ nth [] RL v↔h<2*es.length∧iA es h=v)
theorem aHc {l:List Nat} (h:l.Nodup) {i j:Nat} (hi:i<l.length) (hj:j<l.length) (e:nth 0 l i=nth 0 l j):i=j:=by
 rw [bS _ _ _ hi,bS _ _ _ hj] at e
 rcases Nat.lt_trichotomy i j with fe|fe|fe
 ·exact absurd e (List.pairwise_iff_getElem.1 h i j hi hj fe)
 ·exact fe
 ·exact absurd e.symm (List.pairwise_iff_getElem.1 h j i hj hi fe)
theorem aGs {N l:List Nat} (hn:l.Nodup) (hl:∀ x ∈ l,tw x<N.length):∀ i,i≤l.length→(∀ j,j<i→nth 0 (pg N l i) (tw (nth 0 l j))=nth 0 l ((j+l.length - 1) % l.length))∧∀ k,(∀ j,j<i→tw (nth 0 l j)≠k)→nth 0 (pg N l i) k=nth 0 N k
 | 0,_=>⟨fun j hj=>by omega,fun k _=>rfl⟩
 | i+1,hi=>by
  obtain⟨ih1,ih2⟩:=aGs hn hl i (by omega);have aW:tw (nth 0 l i)<(pg N l i).length:=by rw [aAR];exact hl _ (cQ 0 l i (by omega))
  refine⟨fun j hj=>?_,fun k hk=>?_⟩
  ·show nth 0 ((pg N l i).set (tw (nth 0 l i)) _) _=_
   rw [wO _ _ _ _ _ aW]
   by_cases e:j=i
   ·subst e;rw [if_pos rfl]
   ·rw [if_neg (fun h=>e (aHc hn (by omega) (by omega) (aEK h)))]
    exact ih1 j (by omega)
  ·show nth 0 ((pg N l i).set (tw (nth 0 l i)) _) _=_
   rw [wO _ _ _ _ _ aW,if_neg (fun h=>hk i (by omega) h.symm)];exact ih2 k (fun j hj=>hk j (by omega))
theorem aJ0 {es:List Ed} {n:Nat} {RL:List (List Nat)} (h:zA es n RL):∀ v,v≤n→∀ u,u<v→∀ j,j<(nth [] RL u).length→nth 0 (jq es.length RL v) (tw (nth 0 (nth [] RL u) j))=nth 0 (nth [] RL u) ((j+(nth [] RL u).length - 1) % (nth [] RL u).length)
 | 0,_=>fun u hu=>by omega
 | v+1,hv=>fun u hu j hj=>by
  have ih:=aJ0 h v (by omega)
  have hl:∀ x ∈ nth [] RL v,tw x<(jq es.length RL v).length:=fun x hx=>by
   rw [sW];exact a1Q ((h.mem v x (by omega)).1 hx).1
  obtain⟨s1,s2⟩:=aGs (N:=jq es.length RL v) (h.nodup v (by omega)) hl _ (Nat.le_refl _);show nth 0 (pg (jq es.length RL v) (nth [] RL v) (nth [] RL v).length) _=_
  by_cases e:u=v
  ·subst e;exact s1 j hj
  ·rw [s2 _ (fun i hi he=>?_)]
   ·exact ih u (by omega) j hj
   ·have h1:=aEK he
    have h2:=((h.mem v _ (by omega)).1 (cQ 0 _ i hi)).2;have h3:=((h.mem u _ (by omega)).1 (cQ 0 _ j hj)).2;rw [h1] at h2;omega
theorem a02 {es:List Ed} {n h:Nat} (bV:∀ e ∈ es,e.a<n∧e.b<n) (hh:h<2*es.length):iA es h<n:=by
 have:=bV _ (cQ ah es (h / 2) (by omega));unfold iA;split
 ·exact this.1
 ·exact this.2
theorem aDR {es:List Ed} {n:Nat} {RL:List (List Nat)} (h:zA es n RL) (bV:∀ e ∈ es,e.a<n∧e.b<n) {k:Nat} (hk:k<2*es.length) :
 ∃ j,j<(nth [] RL (iA es (tw k))).length∧nth 0 (nth [] RL (iA es (tw k))) j=tw k∧nth 0 (jq es.length RL n) k=nth 0 (nth [] RL (iA es (tw k))) ((j+(nth [] RL (iA es (tw k))).length - 1) % (nth [] RL (iA es (tw k))).length):=by
 have ht:=a1Q hk;have hu:=a02 bV ht;have hm:=(h.mem _ (tw k) hu).2 ⟨ht,rfl⟩;obtain⟨j,hj,e⟩:=List.getElem_of_mem hm;have e2:nth 0 (nth [] RL (iA es (tw k))) j=tw k:=by rw [bS _ _ _ hj];exact e
 refine⟨j,hj,e2,?_⟩;have:=aJ0 h n (Nat.le_refl _) _ hu j hj;rw [e2,aEI] at this;exact this
theorem aT3 {es:List Ed} {n:Nat} {RL:List (List Nat)} (h:zA es n RL) (bV:∀ e ∈ es,e.a<n∧e.b<n):jg (jq es.length RL n)∧∀ k,k<2*es.length→iA es (nth 0 (jq es.length RL n) k)=iA es (tw k):=by
 have jM:∀ k,k<2*es.length→nth 0 (jq es.length RL n) k<2*es.length∧iA es (nth 0 (jq es.length RL n) k)=iA es (tw k):=fun k hk=>by
  obtain⟨j,hj,e1,e2⟩:=aDR h bV hk;rw [e2];exact (h.mem _ _ (a02 bV (a1Q hk))).1 (cQ 0 _ _ (Nat.mod_lt _ (by omega)))
 refine⟨⟨fun k hk=>?_,fun k k' hk iI e=>?_⟩,fun k hk=>(jM k hk).2⟩
 ·rw [sW] at hk ⊢;exact (jM k hk).1
 ·rw [sW] at hk iI
  have ho:iA es (tw k)=iA es (tw k'):=by rw [← (jM k hk).2,← (jM k' iI).2,e]
  obtain⟨j,hj,e1,e2⟩:=aDR h bV hk;obtain⟨j',mI,e1',e2'⟩:=aDR h bV iI;rw [← ho] at mI e1' e2';rw [e2,e2'] at e;have hu:=a02 bV (a1Q hk);have hnd:=h.nodup _ hu;generalize nth [] RL (iA es (tw k))=l at *;have h3:=aHc hnd (Nat.mod_lt _ (by omega)) (Nat.mod_lt _ (by omega)) e
  have h4:j=j':=by
   have key:∀ j,j<l.length→(j+l.length - 1) % l.length=if j=0 then l.length - 1 else j - 1:=fun j hj=>by
    split
    ·subst_vars;rw [Nat.zero_add];exact Nat.mod_eq_of_lt (by omega)
    ·have:j+l.length - 1=(j - 1)+l.length:=by omega
     rw [this,Nat.add_mod_right];exact Nat.mod_eq_of_lt (by omega)
   rw [key j hj,key j' mI] at h3
   split at h3 <;> split at h3 <;> omega
  subst h4;exact aEK (e1.symm.trans e1')
theorem zA.of {es:List Ed} {n:Nat} {RL:List (List Nat)} (bJ:∀ e ∈ es,e.a≠e.b) (hl:RL.length=n) (h:∀ v,v<n→nU es v (nth [] RL v)):zA es n RL :=
 ⟨hl,fun v hv=>(h v hv).perm.nodup_iff.2 (aJo (Nat.le_refl _) bJ),fun v x hv=>by
  rw [(h v hv).perm.mem_iff];show x ∈ jX es v es.length↔_;rw [a4Y (Nat.le_refl _) bJ]
  constructor
  ·rintro⟨a,b⟩;exact⟨by omega,b⟩
  ·rintro⟨a,b⟩;exact⟨by omega,b⟩⟩
section
open Go.RowKit Go.Shelf Go.Hp
attribute [local go_sem] Oper.semAt_some
def a2r {len:Nat} (ys:List (Fin len)) (c:Nat):Prop:=∀ q:Fin len,q ∈ ys↔c≤q.val
theorem aPj (F:Fence) (n:Nat) (h7:F.fn 117) (tV:F.round=none) (hn:1≤n) (l Bs n₀ b off len cap:Nat) (L:Nat→Int) (hlen:len≤1000000) (hb:b<n₀) (hBs:Bs<n₀) (J Jx:List (Fin len)→World→Prop)
 (hY:∀ pre (x:Fin len) W,J pre W→pre.length<len→YieldAt F (n - 1) prog l #[.int .i64 (x.val:Int),.int .i64 (L x.val)] W fun e W' =>
  (e=.returned (.bool true)∧J (pre++[x]) W'∧Below n₀ W W')∨(e=.returned (.bool false)∧Jx (pre++[x]) W'))
 (W:World) (hcB:W.cell? ⟨Bs,0,none⟩=some (.slice (some ⟨b,off,none⟩) len cap)) (hc:∀ j,j<len→W.cell? ⟨b,off+j,none⟩=some (.int .i64 (L j))) (h0:J [] W) :
 CallsIn F n prog 117 #[.func (.yield l) #[] #[],.pointer (some ⟨Bs,0,none⟩)] W fun e W'=>(∃ v,e=.returned v) ∧
  ((∃ ys,a2r ys 0∧J ys W')∨(∃ pre,(∃ p k,pre=p++[k]∧a2r p (k.val+1))∧Jx pre W')):=by
 refine callsIn_of_wp func117 rfl h7 ?_ tV;simp only [ntmps117,List.size_toArray,List.length_cons,List.length_nil,Nat.reduceAdd,Nat.reduceSub,Array.replicate_succ,Array.replicate_zero,List.push_toArray,List.append_toArray,List.nil_append,List.cons_append];have w0:IntKind.i64.wrap ((len:Int) - 1)=(len:Int) - 1:=w6
 gi_wp2
 gi_loopw [3] (fun i wr=>∃ (j:Nat) (z:Int) (ys:List (Fin len)),j≤len∧i=.int .i64 z∧z+1=(j:Int)∧a2r ys j∧ys.length+j=len∧J ys wr∧Below n₀ W wr)
  (fun i _=>(intOf i+1).toNat)
 case atStart=>exact⟨len,(len:Int) - 1,[],Nat.le_refl _,rfl,by omega,fun q=>by simp,by simp,h0,Below.refl _ _⟩
 case round =>
  obtain⟨j,z,ys,hj,rfl,hz,hD,iT,hJs,dH⟩:=hrel;have aXx:=(dH.cell (p:=⟨Bs,0,none⟩) hBs).trans hcB;cases j with
  | zero =>
   obtain rfl:z = -1:=by omega
   gi_wp2
   go_end0
   exact⟨⟨_,rfl⟩,.inl ⟨ys,hD,hJs⟩⟩
  | succ q =>
   obtain rfl:z=(q:Int):=by omega
   have hq:q<len:=by omega
   have hcx:=(dH.cell (p:=⟨b,off+q,none⟩) hb).trans (hc q hq);obtain⟨fn,tmps,assign,body,hy,hR⟩:=hY ys ⟨q,hq⟩ wr hJs (by omega);simp only at hR hy;have w1:IntKind.i64.wrap ((q:Int) - 1)=(q:Int) - 1:=w6
   gi_wp2
   refine hR.mono ?_;rintro e W3 (⟨rfl,hJ3,xP⟩|⟨rfl,hJx3⟩)
   ·have hD2:a2r (ys++[(⟨q,hq⟩:Fin len)]) q:=fun r=>by
     rw [List.mem_append,hD r,List.mem_singleton]
     constructor
     ·rintro (h|h)
      ·omega
      ·rw [h];exact Nat.le_refl _
     ·intro h
      by_cases e:r.val=q
      ·exact .inr (Fin.ext e)
      ·exact .inl (by omega)
    have eJ:(ys++[(⟨q,hq⟩:Fin len)]).length+q=len:=by simp;omega
    have iD:=dH.trans xP;replace hD2:=Hd hD2;replace eJ:=Hd eJ
    gi_wp2
    go_roundw
    case rel=>exact⟨q,(q:Int) - 1,ys++[⟨q,hq⟩],by omega,rfl,by omega,hD2.out,eJ.out,hJ3,iD⟩
    case measure=>simp only [intOf];omega
   ·gi_wp2
    refine bodyPost_ret (results_none rfl _ _ _) rfl ?_;exact⟨⟨_,rfl⟩,.inr ⟨ys++[⟨q,hq⟩],⟨ys,⟨q,hq⟩,rfl,hD⟩,hJx3⟩⟩
theorem aTP (F:Fence) (n:Nat) (h7:F.fn 117) (tV:F.round=none) (hn:1≤n) (Bs b off len cap:Nat) (L:Nat→Int) (hlen:len≤1000000) (w:World) (hb:b<w.heap.size) (hBs:Bs<w.heap.size)
 (hcB:w.cell? ⟨Bs,0,none⟩=some (.slice (some ⟨b,off,none⟩) len cap)) (hc:∀ j,j<len→w.cell? ⟨b,off+j,none⟩=some (.int .i64 (L j))) :
 SeqStopsK F n prog 117 #[.pointer (some ⟨Bs,0,none⟩)] (fun x:Fin len=>#[Value.int .i64 (x.val:Int),Value.int .i64 (L x.val)]) (Below w.heap.size) (fun ys=>a2r ys 0) (fun pre=>∃ p k,pre=p++[k]∧a2r p (k.val+1)) len w:=fun l J Jx W hW _ _ hY h0 =>
 aPj F n h7 tV hn l Bs w.heap.size b off len cap L hlen hb hBs J Jx (fun pre x W1 h1 h2=>hY pre x W1 h1 h2) W ((hW.cell (p:=⟨Bs,0,none⟩) hBs).trans hcB) (fun j hj=>(hW.cell (p:=⟨b,off+j,none⟩) hb).trans (hc j hj)) h0
theorem aPI (F:Fence) (n:Nat) (h5:F.fn 65) (tV:F.round=none) (ad:Option Addr) (len cap:Nat) (w:World) :
 CallsIn F n prog 65 #[.slice ad len cap] w fun e w'=>e=.returned (.func (.func 117) #[] #[.pointer (some ⟨w.heap.size,0,none⟩)])∧w'=w.alloc (.cells #[.slice ad len cap] 22 (0,0)):=by
 refine callsIn_of_wp func65 rfl h5 ?_ tV;simp only [ntmps65,List.size_toArray,List.length_cons,List.length_nil,Nat.reduceAdd,Nat.reduceSub,Array.replicate_succ,Array.replicate_zero,List.push_toArray,List.append_toArray,List.nil_append,List.cons_append]
 gi_wp2
 go_ret;exact⟨rfl,rfl⟩
def a4T (es:List Ed) (L:List Nat) (r:Nat):Prop:=(∃ k,k<L.length∧r=nth 0 L k∧jE (eh es r)∧∀ q,k<q→q<L.length→¬ jE (eh es (nth 0 L q)))∨(r=nth 0 L (L.length - 1)∧∀ q,q<L.length→¬ jE (eh es (nth 0 L q)))
end
section
open Go.RowKit Go.Shelf Go.Hp
attribute [local go_sem] Oper.semAt_some
theorem aI5 {W:World} {B:Nat} {vs:Array Value} {t:TypeId} (h:W.heap[B]? = some (.cells vs t (0,0))) (i:Nat) (v:Value) (hv:vs[i]? = some v):W.cell? ⟨B,i,none⟩=some v∧W.frozen? ⟨B,i,none⟩=false:=by
 constructor <;> simp [World.cell?,World.frozen?,h,hv]
theorem aBt (W:World) (vs:Array Value) (t:TypeId) (i:Nat) (v:Value) (hv:vs[i]? = some v):(W.alloc (.cells vs t)).cell? ⟨W.heap.size,i,none⟩=some v:=(aI5 (World.alloc_heap_new W _) i v hv).1
theorem aO0 (W:World) (vs:Array Value) (t:TypeId) (i:Nat) (v:Value) (hv:vs[i]? = some v):(W.alloc (.cells vs t)).frozen? ⟨W.heap.size,i,none⟩=false:=(aI5 (World.alloc_heap_new W _) i v hv).2
theorem ckA {W:World} {a:Addr} {v:Value} (o:Obj) (h:W.cell? a=some v):(W.alloc o).cell? a=some v:=cell_kept h (World.grownBy_alloc W o none) (fun r e=>by cases e)
theorem fkA {W:World} {a:Addr} {v:Value} (o:Obj) (h:W.cell? a=some v) (hf:W.frozen? a=false):(W.alloc o).frozen? a=false:=(frozen_kept h (World.grownBy_alloc W o none) (fun r e=>by cases e)).trans hf
theorem aOK (F:Fence) (n:Nat) (h3:F.fn 22) (h4:F.fn 65) (h5:F.fn 117) (tV:F.round=none) (hn:3≤n) (a1 a2 a3:Option Addr) (n1 c1 n2 c2 n3 c3 c4 cap b be oe off:Nat) (es:List Ed) (L:List Nat) (w:World)
 (hE:∀ i,i<es.length→w.cell? ⟨be,oe+i*5+3,none⟩=some (.int .i64 (nth ah es i).dir.x)∧w.cell? ⟨be,oe+i*5+4,none⟩=some (.int .i64 (nth ah es i).dir.y)) (pB:be<w.heap.size) (hb:b<w.heap.size)
 (hLc:∀ j,j<L.length→w.cell? ⟨b,off+j,none⟩=some (.int .i64 ((nth 0 L j:Nat):Int))) (xN:0<L.length) (hlen:L.length≤1000000) (uV:∀ j,j<L.length→nth 0 L j / 2<es.length) (gV:es.length≤400000) (hd:∀ e ∈ es,e.dir.dir) :
 CallsIn F n prog 22 #[.agg #[.slice a1 n1 c1,.slice a2 n2 c2,.slice a3 n3 c3,.slice (some ⟨be,oe,none⟩) es.length c4],.slice (some ⟨b,off,none⟩) L.length cap] w fun e w'=>∃ r,e=.returned (.int .i64 ((r:Nat):Int))∧a4T es L r∧Below w.heap.size w w':=by
 have h1:1≤n:=by omega
 refine callsIn_of_wp_marks func22 rfl h3 ?_ tV;simp only [ntmps22,List.size_toArray,List.length_cons,List.length_nil,Nat.reduceAdd,Nat.reduceSub,Array.replicate_succ,Array.replicate_zero,List.push_toArray,List.append_toArray,List.nil_append,List.cons_append]
 gi_wp2_with (gi_at_call 65;refine (aPI F (n - 1) h4 tV _ _ _ _).mono ?_;rintro e w' ⟨rfl,rfl⟩)
 have z0:=aBt w #[Value.slice a1 n1 c1,Value.slice a2 n2 c2,Value.slice a3 n3 c3,Value.slice (some ⟨be,oe,none⟩) es.length c4] 28 3 (.slice (some ⟨be,oe,none⟩) es.length c4) rfl;have z1:=aBt (w.alloc (.cells #[Value.slice a1 n1 c1,Value.slice a2 n2 c2,Value.slice a3 n3 c3,Value.slice (some ⟨be,oe,none⟩) es.length c4] 28)) #[Value.int .i64 0] 3 0 (.int .i64 0) rfl;have zf:=aO0 (w.alloc (.cells #[Value.slice a1 n1 c1,Value.slice a2 n2 c2,Value.slice a3 n3 c3,Value.slice (some ⟨be,oe,none⟩) es.length c4] 28)) #[Value.int .i64 0] 3 0 (.int .i64 0) rfl;have z2:=aBt ((w.alloc (.cells #[Value.slice a1 n1 c1,Value.slice a2 n2 c2,Value.slice a3 n3 c3,Value.slice (some ⟨be,oe,none⟩) es.length c4] 28)).alloc (.cells #[Value.int .i64 0] 3)) #[Value.slice (some ⟨b,off,none⟩) L.length cap] 22 0 (.slice (some ⟨b,off,none⟩) L.length cap) rfl;simp only [World.size_alloc] at z1 z2 zf;have lS:Below w.heap.size w (((w.alloc (.cells #[Value.slice a1 n1 c1,Value.slice a2 n2 c2,Value.slice a3 n3 c3,Value.slice (some ⟨be,oe,none⟩) es.length c4] 28)).alloc (.cells #[Value.int .i64 0] 3)).alloc (.cells #[Value.slice (some ⟨b,off,none⟩) L.length cap] 22)):=(((Below.refl _ w).alloc (Nat.le_refl _) _).alloc (by simp) _).alloc (by simp;omega) _
 refine wpIn_rangeFunc_ownF tV h1 (gf:=117) (lb:=#[.pointer (some ⟨w.heap.size+1+1,0,none⟩)]) rfl h5 (Proofs.enters_of func117 (by kernel_rfl) rfl)
  (aTP F (n - 1) h5 tV (by omega) (w.heap.size+1+1) b off L.length cap (fun j=>((nth 0 L j:Nat):Int)) hlen _ (by simp;omega) (by simp) z2 (fun j hj=>(lS.cell (p:=⟨b,off+j,none⟩) hb).trans (hLc j hj))) belowK_t (belowK_b (Nat.le_refl _)) (Below.refl _ _) (fun _=>rfl)
  (fun pre W=>((∀ q ∈ pre,¬ jE (eh es (nth 0 L q.val)))∧W.cell? ⟨w.heap.size,3,none⟩=some (.slice (some ⟨be,oe,none⟩) es.length c4)∧W.cell? ⟨w.heap.size+1,0,none⟩=some (.int .i64 0)∧W.frozen? ⟨w.heap.size+1,0,none⟩=false∧w.heap.size+3≤W.heap.size)∧Below w.heap.size w W)
  (fun c pre W=>(c=.ret∧∃ p k,pre=p++[k]∧jE (eh es (nth 0 L k.val))∧(∀ q ∈ p,¬ jE (eh es (nth 0 L q.val)))∧W.cell? ⟨w.heap.size+1,0,none⟩=some (.int .i64 ((nth 0 L k.val:Nat):Int)))∧Below w.heap.size w W)
  (OwnFrom.and (Own.from (fun s A B row hs hg hr=>⟨hs.1,cell_kept hs.2.1 hg hr,cell_kept hs.2.2.1 hg hr,(frozen_kept hs.2.2.1 hg hr).trans hs.2.2.2.1,Nat.le_trans hs.2.2.2.2 hg.size⟩) _) (ownFrom_below (Nat.le_refl _) (by simp;omega)))
  (fun c=>OwnFrom.and (Own.from (fun s A B row hs hg hr=>by
   obtain⟨e,p,k,h1,h2,h3,h4⟩:=hs;exact⟨e,p,k,h1,h2,h3,cell_kept h4 hg hr⟩) _) (ownFrom_below (Nat.le_refl _) (by simp;omega)))
  ⟨⟨by simp,ckA _ (ckA _ z0),ckA _ z1,fkA _ z1 zf,by simp⟩,lS⟩
  (fun x=>{ tmps:=#[.agg #[.slice a1 n1 c1,.slice a2 n2 c2,.slice a3 n3 c3,.slice (some ⟨be,oe,none⟩) es.length c4],.slice (some ⟨b,off,none⟩) L.length cap,.pointer (some ⟨w.heap.size,0,none⟩),undef,.pointer (some ⟨w.heap.size+1,0,none⟩),undef,.int .i64 ((nth 0 L x.val:Nat):Int),undef,.slice (some ⟨b,off,none⟩) L.length cap,.func (.func 117) #[] #[.pointer (some ⟨w.heap.size+1+1,0,none⟩)],.int .i64 (x.val:Int),.int .i64 ((nth 0 L x.val:Nat):Int),undef,undef,undef,undef,undef,undef,undef,undef,undef,undef,undef,undef,undef,undef,undef,undef,undef,undef,undef,undef,undef,undef,undef,undef,undef,undef,undef,undef,undef,undef,undef,undef,undef,undef,undef,undef,undef],defers:=[] }) ?assign ?body ?done ?stop
 case assign =>
  intro l x W K hK
  gi_wp2
  exact hK
 case body =>
  rintro l pre x W ⟨⟨hp,vJ,ql,vP,dJ⟩,hB⟩ jP;clear z0 z1 z2 zf lS;obtain⟨h,hh⟩:∃ h,nth 0 L x.val=h:=⟨_,rfl⟩;have rY:=uV x.val x.isLt;rw [hh] at rY;rw [hh];obtain⟨i,hi⟩:∃ i,h / 2=i:=⟨_,rfl⟩;obtain⟨dx,vU⟩:∃ z,(nth ah es i).dir.x=z:=⟨_,rfl⟩;obtain⟨dy,wT⟩:∃ z,(nth ah es i).dir.y=z:=⟨_,rfl⟩;rw [hi] at rY;have kz:=hd _ (cQ ah es i rY);unfold Gp.dir at kz;rw [vU,wT] at kz;have ex:=(hB.cell (p:=⟨be,oe+i*5+3,none⟩) pB).trans (hE i rY).1;have ey:=(hB.cell (p:=⟨be,oe+i*5+4,none⟩) pB).trans (hE i rY).2;rw [vU] at ex;rw [wT] at ey;have q1:=aJp h;have q2:=aGg h;rw [hi] at q1;have q3:IntKind.i64.wrap (i:Int)=(i:Int):=w6;have q5:IntKind.i64.wrap (-dx) = -dx:=w6;have q6:IntKind.i64.wrap (-dy) = -dy:=w6;have aLN:∀ o,(W.alloc o).cell? ⟨w.heap.size+1,0,none⟩=some (.int .i64 0):=fun o=>ckA o ql
  have a8S:∀ o,(W.alloc o).frozen? ⟨w.heap.size+1,0,none⟩=false:=fun o=>fkA o ql vP
  have aSv:∀ o,(W.alloc o).cell? ⟨w.heap.size,3,none⟩=some (.slice (some ⟨be,oe,none⟩) es.length c4):=fun o=>ckA o vJ
  have z6:∀ (o:Obj) (a:Act),jE (eh es h)→ownPostK (Below (w.heap.size+1+1+1)) (fun pre W=>((∀ q ∈ pre,¬ jE (eh es (nth 0 L q.val)))∧W.cell? ⟨w.heap.size,3,none⟩=some (.slice (some ⟨be,oe,none⟩) es.length c4)∧W.cell? ⟨w.heap.size+1,0,none⟩=some (.int .i64 0)∧W.frozen? ⟨w.heap.size+1,0,none⟩=false∧w.heap.size+3≤W.heap.size)∧Below w.heap.size w W)
   (fun c pre W=>(c=.ret∧∃ p k,pre=p++[k]∧jE (eh es (nth 0 L k.val))∧(∀ q ∈ p,¬ jE (eh es (nth 0 L q.val)))∧W.cell? ⟨w.heap.size+1,0,none⟩=some (.int .i64 ((nth 0 L k.val:Nat):Int)))∧Below w.heap.size w W)
   (pre++[x]) W .ret a ((W.alloc o).setCell ⟨w.heap.size+1,0,none⟩ (.int .i64 (h:Int))):=fun o a hu =>
   ⟨(KeepsOthers.alloc W o).trans (KeepsOthers.setCell _ _ _),⟨rfl,pre,x,rfl,by rw [hh];exact hu,hp,by rw [hh];exact World.cell?_setCell_same' _ _ _ (by rw [aLN];rfl)⟩,(hB.alloc hB.size _).setCell (p:=⟨w.heap.size+1,0,none⟩) (by simp) _⟩
  have z7:∀ (o:Obj) (a:Act),¬ jE (eh es h)→ownPostK (Below (w.heap.size+1+1+1)) (fun pre W=>((∀ q ∈ pre,¬ jE (eh es (nth 0 L q.val)))∧W.cell? ⟨w.heap.size,3,none⟩=some (.slice (some ⟨be,oe,none⟩) es.length c4)∧W.cell? ⟨w.heap.size+1,0,none⟩=some (.int .i64 0)∧W.frozen? ⟨w.heap.size+1,0,none⟩=false∧w.heap.size+3≤W.heap.size)∧Below w.heap.size w W)
   (fun c pre W=>(c=.ret∧∃ p k,pre=p++[k]∧jE (eh es (nth 0 L k.val))∧(∀ q ∈ p,¬ jE (eh es (nth 0 L q.val)))∧W.cell? ⟨w.heap.size+1,0,none⟩=some (.int .i64 ((nth 0 L k.val:Nat):Int)))∧Below w.heap.size w W)
   (pre++[x]) W .normal a (W.alloc o):=fun o a hu =>
   ⟨KeepsOthers.alloc W o,(Below.refl _ W).alloc (by omega) _,⟨fun q hq=>(List.mem_append.1 hq).elim (hp q) (fun e=>by rw [List.mem_singleton.1 e,hh];exact hu),aSv o,aLN o,a8S o,by simp;omega⟩,hB.alloc hB.size _⟩
  by_cases hm:h % 2=1
  ·rw [hm] at q2
   have hD:eh es h=⟨-dx,-dy⟩:=by unfold eh;rw [if_pos hm,hi,vU,wT]
   rw [hD] at z7 z6;replace z7:=Hd z7;replace z6:=Hd z6;replace hD:=Hd hD;clear hp hh hi vU wT hm hE hLc uV hd
   gi_wp2
   all_goals ((try simp only [World.size_alloc]);first|exact z6.out _ _ (by unfold jE;simp only;omega)|exact z7.out _ _ (by unfold jE;simp only;omega))
  ·rw [show h % 2=0 by omega] at q2
   have hD:eh es h=⟨dx,dy⟩:=by unfold eh;rw [if_neg hm,hi,← vU,← wT]
   rw [hD] at z7 z6;replace z7:=Hd z7;replace z6:=Hd z6;replace hD:=Hd hD;clear hp hh hi vU wT hm hE hLc uV hd
   gi_wp2
   all_goals ((try simp only [World.size_alloc]);first|exact z6.out _ _ (by unfold jE;simp only;omega)|exact z7.out _ _ (by unfold jE;simp only;omega))
 case done =>
  rintro D ys W hD qi ⟨⟨hp,vJ,ql,vP,dJ⟩,hB⟩ hK;have hlc:=(hB.cell (p:=⟨b,off+(L.length - 1),none⟩) hb).trans (hLc (L.length - 1) (by omega));have q1:IntKind.i64.wrap ((L.length:Int) - 1)=((L.length - 1:Nat):Int):=(w6).trans (by omega)
  gi_wp2
  have hK':=(KeepsOthers.setCell W ⟨w.heap.size+1,0,none⟩ (.int .i64 ((nth 0 L (L.length - 1):Nat):Int))).same D _ hK rfl;refine⟨by simp,.inl ⟨_,_,rfl,run_takeDeferred hK',?_⟩⟩;have hc5:=cell_kept (World.cell?_setCell_same' W ⟨w.heap.size+1,0,none⟩ (.int .i64 ((nth 0 L (L.length - 1):Nat):Int)) (by rw [ql];rfl)) (grownBy_putObj' _ D (.deferred none)) (fun r e=>by cases e;exact⟨_,hK',rfl⟩);refine⟨.int .i64 ((nth 0 L (L.length - 1):Nat):Int),?_,nth 0 L (L.length - 1),rfl,.inr ⟨rfl,fun q hq=>hp ⟨q,hq⟩ ((qi ⟨q,hq⟩).2 (Nat.zero_le _))⟩,(hB.setCell (p:=⟨w.heap.size+1,0,none⟩) (by simp) _).trans (belowK_b (w:=w) (Nat.le_refl _) _ D _ _ (by simp at hD;omega) hK' rfl rfl)⟩;simp [results,func22,go_sem,hc5]
 case stop =>
  rintro D c pre W hD ij ⟨⟨rfl,p,k,he,hu,hnu,ql⟩,hB⟩ hK
  gi_wp2
  refine⟨by simp,.inl ⟨_,_,rfl,run_takeDeferred hK,?_⟩⟩;have hc5:=cell_kept ql (grownBy_putObj' _ D (.deferred none)) (fun r e=>by cases e;exact⟨_,hK,rfl⟩);refine⟨.int .i64 ((nth 0 L k.val:Nat):Int),?_,nth 0 L k.val,rfl,.inl ⟨k.val,k.isLt,rfl,hu,?_⟩,hB.trans (belowK_b (w:=w) (Nat.le_refl _) W D _ _ (by simp at hD;omega) hK rfl rfl)⟩
  ·simp [results,func22,go_sem,hc5]
  ·obtain⟨p',k',he',hd'⟩:=ij
   rw [he] at he';obtain⟨rfl,aT7⟩:=List.append_inj' he' rfl;cases aT7;intro q hq uJ;exact hnu ⟨q,uJ⟩ ((hd' ⟨q,uJ⟩).2 hq)
theorem aTh (a1 a2 a3:Option Addr) (n1 c1 n2 c2 n3 c3 c4 cap b be oe off:Nat) (es:List Ed) (L:List Nat) (w:World)
 (hE:∀ i,i<es.length→w.cell? ⟨be,oe+i*5+3,none⟩=some (.int .i64 (nth ah es i).dir.x)∧w.cell? ⟨be,oe+i*5+4,none⟩=some (.int .i64 (nth ah es i).dir.y)) (pB:be<w.heap.size) (hb:b<w.heap.size)
 (hLc:∀ j,j<L.length→w.cell? ⟨b,off+j,none⟩=some (.int .i64 ((nth 0 L j:Nat):Int))) (xN:0<L.length) (hlen:L.length≤1000000) (uV:∀ j,j<L.length→nth 0 L j / 2<es.length) (gV:es.length≤400000) (hd:∀ e ∈ es,e.dir.dir) :
 Calls prog 22 #[.agg #[.slice a1 n1 c1,.slice a2 n2 c2,.slice a3 n3 c3,.slice (some ⟨be,oe,none⟩) es.length c4],.slice (some ⟨b,off,none⟩) L.length cap] w fun e w'=>∃ r,e=.returned (.int .i64 ((r:Nat):Int))∧a4T es L r∧Below w.heap.size w w' :=
 (callsIn_wide (n:=5)).1 (aOK Fence.wide 5 trivial trivial trivial rfl (by omega) a1 a2 a3 n1 c1 n2 c2 n3 c3 c4 cap b be oe off es L w hE pB hb hLc xN hlen uV gV hd)
end
def nd (w:World):World:={ w with drawn:=0 }
theorem tb (w:World):(nd w).drawn=0:=rfl
theorem aA.toD {w0 w:World} {H:List Chunk} (h:aA w0 w H):aA (nd w0) w H:=⟨h.os,h.tape,h.output,Nat.zero_le _,h.size,h.ok,h.apart⟩
theorem aA.oI (w:World):aA (nd w) w [.aH (Old w) w]:=(aA.start w).toD
theorem aA.fW {w0 w w':World} {H:List Chunk} (h:aA w0 w H) (h0:w0.drawn=0) (hb:Below w.heap.size w w'):aA w0 w' H :=
 ⟨hb.os.trans h.os,hb.tape.trans h.tape,hb.output.trans h.output,by rw [h0];exact Nat.zero_le _,Nat.le_trans h.size hb.size,
  fun c hc=>Chunk.aAV (h.ok c hc) hb.size (fun k hk=>hb.block k (Chunk.lt (h.ok c hc) hk)),h.apart⟩
theorem aA.aGh {w0 w w':World} {H:List Chunk} (h:aA w0 w H) (h0:w0.drawn=0) (hb:Below w.heap.size w w'):aA w0 w' (H++[.aH (ja w w') w']):=by
 have h':=h.fW h0 hb;refine⟨h'.os,h'.tape,h'.output,h'.drawn,h'.size,?_,?_⟩
 ·intro c hc
  rcases List.mem_append.1 hc with hc|hc
  ·exact h'.ok c hc
  ·simp at hc;subst hc
   exact fun k hk=>⟨hk.2,rfl⟩
 ·exact a07 h'.apart fun c hc k hk hn=>by
   have:=Chunk.lt (h.ok c hc) hk;have:=hn.1;omega
theorem aA.aKb {w0 w wr w':World} {H:List Chunk} {F:Nat→Prop} (hS:aA w0 w (.aH F wr::H)) (h0:w0.drawn=0) (hb:Below w.heap.size w w'):∃ F',(∀ k,F k→F' k)∧(∀ k,ja w w' k→F' k)∧aA w0 w' (.aH F' w'::H):=by
 refine⟨fun k=>F k∨ja w w' k,fun k hk=>.inl hk,fun k hk=>.inr hk,?_⟩;have h1:=hS.aGh h0 hb
 have h2:aA w0 w' (.aH F wr::.aH (ja w w') w'::H):=h1.perm (by
  simp only [List.cons_append];refine List.Perm.cons _ ?_;exact (List.perm_append_comm (l₁:=[Chunk.aH (ja w w') w']) (l₂:=H)))
 exact h2.join
section
open Go.RowKit Go.Hp Go.Shelf
theorem aOe (a1 a2 a3 a4 al:Option Addr) (n1 c1 n2 c2 n3 c3 n4 c4 nl cl:Nat) (rs:List ER) (es:List Ed) (L:List Nat) (w:World) (S T:Nat→Prop)
 (bh:bN w S 5 (.slice a4 n4 c4) es.length (rs.flatMap ec)) (dW:kP w S rs es) (hN:jZ w T (.slice al nl cl) L)
 (xN:0<L.length) (hlen:L.length≤1000000) (uV:∀ j,j<L.length→nth 0 L j / 2<es.length) (gV:es.length≤400000) (hd:∀ e ∈ es,e.dir.dir) :
 Calls prog 22 #[.agg #[.slice a1 n1 c1,.slice a2 n2 c2,.slice a3 n3 c3,.slice a4 n4 c4],.slice al nl cl] w fun e w'=>∃ r,e=.returned (.int .i64 ((r:Nat):Int))∧a4T es L r∧Below w.heap.size w w':=by
 obtain⟨h1,a,cap,h2,h3,h4,h5,h6⟩:=bh.bj;cases h2;obtain⟨k1,b,kap,k2,k3,k4,k5,k6⟩:=(bN.bj hN.1);cases k2;rw [vC];have yk:0<es.length:=Nat.lt_of_le_of_lt (Nat.zero_le _) (uV 0 xN)
 obtain⟨ae,rfl⟩:∃ q,a4=some q:=by
  cases h:a4 with
  | none=>have:=(h5 h).1;omega
  | some q=>exact⟨q,rfl⟩
 obtain⟨ab,rfl⟩:∃ q,al=some q:=by
  cases h:al with
  | none=>have:=(k5 h).1;rw [vC] at this;omega
  | some q=>exact⟨q,rfl⟩
 have he:=h6 ae rfl;have hb:=k6 ab rfl;have bJ:rs.flatMap ec≠[]:=fun e=>by rw [e] at h1;simp at h1;omega
 have pE:(zs L).map (Value.int .i64)≠[]:=fun e=>by
  have:=congrArg List.length e;rw [List.length_map,vC,List.length_nil] at this;omega
 have se:=he.spot bJ;have sb:=hb.spot pE;have ie:=he.tO bJ;have ib:=hb.tO pE;obtain⟨be,oe,pe⟩:=ae;obtain⟨bb,ob,pb⟩:=ab;simp only at se sb;subst se;subst sb;refine aTh a1 a2 a3 n1 c1 n2 c2 n3 c3 _ _ bb be oe ob es L w ?_ ie ib ?_ xN hlen uV gV hd
 ·intro i hi
  have hr:i<rs.length:=by rw [dW.len];exact hi
  have hp:=he.part (i*5) 5;rw [eS sU jk hr] at hp;rw [← (dW.el i hi).dir];exact⟨hp.cell 3 _ rfl,hp.cell 4 _ rfl⟩
 ·intro j hj
  refine hb.cell j _ ?_;rw [List.getElem?_map,zs,List.getElem?_map,List.getElem?_eq_getElem hj,bS 0 L j hj]
  rfl
end
theorem aA.aTr {w0 w wr w':World} {H B:List Chunk} {F F' S S':Nat→Prop} (hS:aA w0 w (.aH F wr::H)) (hF:∀ k,S k→F k) (hp:Pure w S w' S') (hq:aA w w' (.aH F' w'::B)) (hO:∀ k,Old w k→F' k) (fY:∀ k,S' k→F' k) :
 ∃ G,(∀ k,S' k→G k)∧(∀ k,F k→G k)∧aA w0 w' (.aH G w'::(H++B)):=by
 have hb:=hS.below hp.below hp.drawn;have hwF:∀ k,F k→k<w.heap.size:=fun k hk=>(hS.ok (.aH F wr) (by simp) k hk).1
 have hwH:∀ c ∈ H,∀ k,c.has k→k<w.heap.size:=fun c hc k hk=>Chunk.lt (hS.ok c (by simp [hc])) hk
 have aS:=List.pairwise_cons.1 hS.apart;have aq:=List.pairwise_cons.1 hq.apart
 have hwB:∀ c ∈ B,∀ k,c.has k→w.heap.size≤k:=fun c hc k hk=>by
  refine Classical.byContradiction fun h=>?_
  exact aq.1 c hc k (hO k (by unfold Old;omega)) hk
 refine⟨fun k=>F k∨(F' k∧w.heap.size≤k),fun k hk=>?_,fun k hk=>.inl hk,hb.os,hb.tape,hb.output,hb.drawn,hb.size,?_,?_⟩
 ·rcases hp.new k hk with h|h
  ·exact .inl (hF k h)
  ·exact .inr ⟨fY k hk,h.1⟩
 ·intro c hc
  rcases List.mem_cons.1 hc with rfl|hc
  ·rintro k (hk|hk)
   ·exact⟨Nat.lt_of_lt_of_le (hwF k hk) hp.below.size,rfl⟩
   ·exact⟨(hq.ok (.aH F' w') (by simp) k hk.1).1,rfl⟩
  ·rcases List.mem_append.1 hc with hc|hc
   ·exact hb.ok c (by simp [hc])
   ·exact hq.ok c (by simp [hc])
 ·refine List.pairwise_cons.2 ⟨?_,List.pairwise_append.2 ⟨aS.2,aq.2,?_⟩⟩
  ·rintro c hc k (hk|hk) hn
   ·rcases List.mem_append.1 hc with hc|hc
    ·exact aS.1 c hc k hk hn
    ·have:=hwB c hc k hn;have:=hwF k hk;omega
   ·rcases List.mem_append.1 hc with hc|hc
    ·have:=hwH c hc k hn;omega
    ·exact aq.1 c hc k hk.1 hn
  ·intro c hc d hd k hk hn
   have:=hwH c hc k hk;have:=hwB d hd k hn;omega
theorem Pure.oI (w:World) (S:Nat→Prop):Pure (nd w) S w S:=⟨⟨rfl,rfl,rfl,Nat.le_refl _,fun _ _=>rfl⟩,Nat.zero_le _,fun _ h=>h,fun _ h=>.inl h⟩
end Go.Hp
