/- Texts for the walk of the law: CW CL CM CQ CR CS CX OG OE CE CV CZ. -/
import Derived.Test.YtihpoboahbpaiaaGreatU15
set_option maxRecDepth 100000
set_option maxHeartbeats 16000000
set_option linter.unusedVariables false
set_option linter.unusedSimpArgs false
namespace Go.Hp
open Go Go.RowKit Go.Proofs.Tryz
theorem jc.arg {w0 w wr:World} {H:List Chunk} {S:Nat→Prop} {rs:List kr} {ls:List Lay} (h:jc wr S rs ls) (hS:aA w0 w H) (hm:Chunk.aH S wr ∈ H):jc w (Old w) rs ls:=⟨h.len,fun i hi=>(h.sg i hi).arg hS hm,fun i hi=>(h.pt i hi).arg hS hm⟩
theorem jc.bj {w:World} {S:Nat→Prop} {rs:List kr} {ls:List Lay} (h:jc w S rs ls):jc w (Old w) rs ls:=⟨h.len,fun i hi=>(h.sg i hi).bj,fun i hi=>(h.pt i hi).bj⟩
theorem a2u.okS {l:Lay} (h:a2u l):(∀ t ∈ l.1,t.ok)∧∀ g ∈ l.2,g.ok:=⟨fun t ht=>⟨(h.sg t ht).1.ok,(h.sg t ht).2.1.ok,(h.sg t ht).2.2⟩,fun g hg=>(h.pt g hg).ok⟩
theorem a2u.fits {l:Lay} (h:a2u l):Fits l.1 l.2:=Fits.few h.okS.1 h.okS.2 (by have:=h.ls;omega) (by have:=h.lp;omega)
theorem nW.okA {ls:List Lay} (h:nW ls):(∀ t ∈ Hp.dX ls,t.ok)∧∀ g ∈ Hp.dm ls,g.ok:=⟨fun t ht=>⟨(h.dX.1 t ht).1.ok,(h.dX.1 t ht).2.1.ok,(h.dX.1 t ht).2.2⟩,fun g hg=>(h.dm.1 g hg).ok⟩
theorem nW.a6V {ls:List Lay} (h:nW ls):a2m ls:=⟨by have:=h.len;omega,fun i hi=>(h.el _ (cQ fF ls i hi)).fits,Fits.few h.okA.1 h.okA.2 h.dX.2 h.dm.2⟩
theorem aF6:(prog.info? 65).map (fun i=>(i.zero,i.size,i.bytes))=some (some (.agg #[.slice none 0 0,.slice none 0 0]),2,48):=by kernel_rfl
theorem aCU (bF:List kr) (ad:Option Addr) (c:Nat) (w:World) (hv:bN w (Old w) 2 (.slice ad bF.length c) bF.length (bF.flatMap fI)) (hl:bF.length≤100) :
 Calls prog 21 #[.slice ad bF.length c] w fun e w'=>∃ a2 c2,e=.returned (.slice a2 bF.length c2)∧aA w w' [.aH (Old w) w,.row (.slice a2 bF.length c2) 65 2 bF.length (bF.flatMap fI)]:=by
 have hS:=(aA.start w).iB 65 2;simp only [aK] at hS
 go_enter func21,ntmps21
 go_wp2
 go_loopw [3,4] (fun v3 v4 wr=>∃ (i:Nat) (a2:Option Addr) (c2:Nat),i≤bF.length∧v4=.int .i64 (i:Int)∧v3=.slice a2 i c2∧aA w wr [.aH (Old w) w,.row (.slice a2 i c2) 65 2 i ((bF.take i).flatMap fI)]) (fun _ v4 _=>bF.length - (intOf v4).toNat)
 case atStart=>exact⟨0,none,0,by omega,rfl,rfl,by simpa using hS⟩
 case round =>
  clear hS;obtain⟨i,a2,c2,hi,rfl,rfl,hS⟩:=hrel
  by_cases aW:i<bF.length
  ·have dF:=eS a8g nu aW
   have eK:=nk nu bF i aW;obtain⟨r,hr⟩:∃ r,nth nu bF i=r:=⟨_,rfl⟩;rw [hr] at dF eK;replace dF:((bF.flatMap fI).drop (i*2)).take 2=[.slice r.a.1 r.a.2.1 r.a.2.2,.slice r.b.1 r.b.2.1 r.b.2.2]:=dF;have fz:(bF.take (i+1)).flatMap fI=(bF.take i).flatMap fI++[.slice r.a.1 r.a.2.1 r.a.2.2,.slice r.b.1 r.b.2.1 r.b.2.2]:=by rw [eK];simp [fI]
   replace fz:=Hd fz;clear hr eK;go_wp2;refine dB [.p 0,.p 1,.p 2,.p 3,.p 4,.r 5,.p 6,.p 7,.p 8,.p 9,.r 10,.p 11,.e 12,.m 13,.p 14] [13] hS fun w1 hS=>?_
   repeat (first|(with_reducible first|refine e9 underlying60 sizeOf64 hv dF fun bq oq bO=>?_|refine eY isAgg23 ?_)|((with_reducible refine l8 ?_);refine jh rfl rfl (gu (T:=25) 1 isAgg25 rfl (by with_reducible assumption) (by simp) rfl ?_);simp only [aD])|(with_reducible refine bU ?_))
   refine aZ ?_
   ((with_reducible refine dV (T:=62) ?_);refine fZ (T:=62) (v:=.agg #[.slice _ _ _,.slice _ _ _]) hS underlying62 sizeOf65 zeroValue65 rfl rfl rfl (by decide) (by decide) rfl (fun bl fX hS=>?_);simp only [aD];simp only [Value.cells] at hS)
   refine aX hS.sb ?_;refine aM ?_;refine dC ?_
   ((with_reducible refine eG ?_);refine fw (t:=62) 1 hS underlying62 aF6 rfl (by decide) rfl rfl rfl rfl (by simp [Value.oneCell']) (by omega) (by unfold maxLen;omega) (fun a3 c3 _ hS=>?_);simp only [aD];simp only [aK] at hS)
   refine dD ?_;refine aM ?_;refine bE ?_;go_wp2;go_roundw
   case rel=>exact⟨i+1,a3,c3,by omega,by simp,rfl,by rw [fz.out];exact hS.sb⟩
   case measure=>simp [intOf];omega
  ·obtain rfl:i=bF.length:=by omega
   rw [List.take_length] at hS;go_wp2;go_ret;exact⟨_,_,rfl,hS⟩
theorem mz {α:Type} {o:Option α} {f g:α} (h:o=some f) (e:f=g:=by kernel_rfl):o=some g:=h.trans (congrArg some e)
def aOR:Go.Shelf.Ren:=⟨fun|6=>62|15=>112|14=>111|28=>165|29=>166|20=>157|21=>158|22=>159|23=>160|24=>161|25=>162|26=>163|27=>164|46=>223|47=>224|48=>225|49=>226|50=>227|57=>248|n=>n,fun|22=>80|24=>84|25=>138|3=>3|39=>190|0=>0|53=>228|55=>217|4=>4|46=>243|45=>242|50=>108|5=>5|9=>9|66=>294|70=>298|76=>312|77=>313|n=>n,fun|n=>n⟩
theorem aM0:Go.Proofs.SlLaysF0.n6 prog aOR:={
 mixed:=by kernel_rfl
 f6:=⟨f62.name,by decide,mz func62⟩
 f14:=⟨f111.name,by decide,mz func111⟩
 f15:=mz func112
 f20:=⟨f157.name,by decide,mz func157⟩
 f21:=⟨f158.name,by decide,mz func158⟩
 f22:=⟨f159.name,by decide,mz func159⟩
 f23:=⟨f160.name,by decide,mz func160⟩
 f24:=⟨f161.name,by decide,mz func161⟩
 f25:=⟨f162.name,by decide,mz func162⟩
 f26:=⟨f163.name,by decide,mz func163⟩
 f27:=⟨f164.name,by decide,mz func164⟩
 f28:=mz func165
 f29:=mz func166
 f46:=⟨f223.name,by decide,mz func223⟩
 f47:=mz func224
 f48:=mz func225
 f49:=⟨f226.name,by decide,mz func226⟩
 f50:=⟨f227.name,by decide,mz func227⟩
 f57:=⟨f248.name,by decide,mz func248⟩
 t0:=underlying0
 a0:=isAgg0
 z0:=sizeOf0
 v0:=zeroValue0
 t3:=underlying3
 a3:=isAgg3
 z3:=sizeOf3
 v3:=zeroValue3
 t4:=underlying4
 a4:=isAgg4
 z4:=sizeOf4
 v4:=zeroValue4
 t5:=underlying5
 a5:=isAgg5
 z5:=sizeOf5
 v5:=zeroValue5
 t9:=underlying9
 a9:=isAgg9
 z9:=sizeOf9
 v9:=zeroValue9
 t22:=underlying80
 a22:=isAgg80
 z22:=sizeOf80
 v22:=zeroValue80
 t25:=underlying138
 a25:=isAgg138
 z25:=sizeOf138
 v25:=zeroValue138
 t39:=underlying190
 a39:=isAgg190
 z39:=sizeOf190
 v39:=zeroValue190
 t45:=underlying242
 a45:=isAgg242
 z45:=sizeOf242
 v45:=zeroValue242
 t46:=underlying243
 a46:=isAgg243
 z46:=sizeOf243
 v46:=zeroValue243
 t50:=underlying108
 a50:=isAgg108
 z50:=sizeOf108
 v50:=zeroValue108
 t53:=underlying228
 a53:=isAgg228
 z53:=sizeOf228
 v53:=zeroValue228
 t55:=underlying217
 a55:=isAgg217
 z55:=sizeOf217
 v55:=zeroValue217
 t66:=underlying294
 a66:=isAgg294
 z66:=sizeOf294
 v66:=zeroValue294
 t70:=underlying298
 a70:=isAgg298
 z70:=sizeOf298
 v70:=zeroValue298
 t76:=underlying312
 a76:=isAgg312
 z76:=sizeOf312
 v76:=zeroValue312
 t77:=underlying313
 a77:=isAgg313
 z77:=sizeOf313
 v77:=zeroValue313 }
section
open Go Go.RowKit Go.Sort Go.Shelf Go.Proofs
abbrev gz:=Int × Int
def fp:gz:=(0,0)
def kB (x:gz):List Value:=[.int .i64 x.1,.int .i64 x.2]
theorem a01 (x:gz):(kB x).length=2:=rfl
def c2 (x y:gz):Int:=if x.1<y.1 then -1 else if y.1<x.1 then 1 else if x.2<y.2 then -1 else if y.2<x.2 then 1 else 0
def lK (x y:gz):Prop:=x.1<y.1∨(x.1=y.1∧x.2<y.2)
theorem aAC (x y:gz):c2 x y<0↔lK x y:=by
 unfold c2 lK
 by_cases h1:x.1<y.1
 ·rw [if_pos h1];omega
 ·rw [if_neg h1]
  by_cases h2:y.1<x.1
  ·rw [if_pos h2];omega
  ·rw [if_neg h2]
   by_cases h3:x.2<y.2
   ·rw [if_pos h3];omega
   ·rw [if_neg h3]
    by_cases h4:y.2<x.2
    ·rw [if_pos h4];omega
    ·rw [if_neg h4];omega
theorem aSf {x y:gz} (h1:¬ lK x y) (h2:¬ lK y x):x=y:=by
 unfold lK at *;obtain⟨x1,x2⟩:=x;obtain⟨y1,y2⟩:=y;simp only [Prod.mk.injEq] at *;omega
theorem aSF:SWO (Proofs.ltOf c2) where
 irrefl x:=by unfold Proofs.ltOf;rw [decide_eq_false_iff_not,aAC];unfold lK;omega
 trans x y z h1 h2:=by
  unfold Proofs.ltOf at *;rw [decide_eq_true_iff,aAC] at *;unfold lK at *;omega
 ntrans x y z h1 h2:=by
  unfold Proofs.ltOf at *;rw [decide_eq_false_iff_not,aAC] at *;unfold lK at *;omega
theorem aK0 (x y:Int):(x<y∧Lib.compareInt x y = -1)∨(x=y∧Lib.compareInt x y=0)∨(y<x∧Lib.compareInt x y=1):=by
 unfold Lib.compareInt
 by_cases h1:x<y
 ·left;exact⟨h1,by simp [h1]⟩
 ·by_cases h2:y<x
  ·right;right;exact⟨h2,by simp [h1,h2]⟩
  ·right;left;exact⟨by omega,by simp [h1,h2]⟩
theorem aPV (x:gz) (v:Value) (hv:v ∈ kB x):v.oneCell'=true:=by
 unfold kB at hv;simp only [List.mem_cons,List.not_mem_nil,or_false] at hv
 rcases hv with rfl|rfl <;> rfl
theorem ret_i6 {r s:Int} (h:s=r):Ending.returned (.int .i64 r)=Ending.returned (.int .i64 s):=by rw [h]
end
section
open Go.RowKit Go.Hp Go.Sort Go.Shelf
theorem aQY (b1 k1 b2 k2:Nat) (x y:gz) (w:World) (iz:w.cell? ⟨b1,0,none⟩=some (.int .i64 x.1)) (pO:w.cell? ⟨b1,1,none⟩=some (.int .i64 x.2)) (iJ:w.cell? ⟨b2,0,none⟩=some (.int .i64 y.1)) (wE:w.cell? ⟨b2,1,none⟩=some (.int .i64 y.2)) :
 Calls prog 64 #[.slice (some ⟨b1,0,none⟩) 2 k1,.slice (some ⟨b2,0,none⟩) 2 k2] w fun e w'=>e=.returned (.int .i64 (c2 x y))∧w'=w:=by
 obtain⟨x0,x1⟩:=x;obtain⟨y0,y1⟩:=y;simp only at iz pO iJ wE
 go_enter func64,ntmps64
 go_wp2
 go_loopw [11] (fun i wr=>wr=w∧(i=.int .i64 0∨(i=.int .i64 1∧x0=y0)∨(i=.int .i64 2∧x0=y0∧x1=y1))) (fun i _=>2 - (intOf i).toNat)
 case atStart=>exact⟨rfl,.inl rfl⟩
 case round =>
  obtain⟨rfl,rfl|⟨rfl,h0⟩|⟨rfl,h0,h1⟩⟩:=hrel
  ·rcases aK0 x0 y0 with ⟨h,hc⟩|⟨h,hc⟩|⟨h,hc⟩
   ·have HC:=Hd hc
    replace h:=Hd h;clear hc
    go_wp2_with (first|(go_at_call 80;refine (cmp_Compare_int _ _ _).mono ?_;rintro e w' ⟨rfl,rfl⟩;rw [HC.out]))
    go_ret;exact⟨ret_i6 (by have:=h.out;unfold c2;simp only;repeat (first|rw [if_pos (by omega)])),rfl⟩
   ·have HC:=Hd hc
    replace h:=Hd h;clear hc
    go_wp2_with (first|(go_at_call 80;refine (cmp_Compare_int _ _ _).mono ?_;rintro e w' ⟨rfl,rfl⟩;rw [HC.out]))
    go_roundw
    case rel=>exact⟨trivial,.inr (.inl ⟨rfl,h.out⟩)⟩
    case measure=>simp [intOf]
   ·have HC:=Hd hc
    replace h:=Hd h;clear hc
    go_wp2_with (first|(go_at_call 80;refine (cmp_Compare_int _ _ _).mono ?_;rintro e w' ⟨rfl,rfl⟩;rw [HC.out]))
    go_ret;exact⟨ret_i6 (by have:=h.out;unfold c2;simp only;repeat (first|rw [if_pos (by omega)]|rw [if_neg (by omega)])),rfl⟩
  ·replace h0:=Hd h0
   rcases aK0 x1 y1 with ⟨h,hc⟩|⟨h,hc⟩|⟨h,hc⟩
   ·have HC:=Hd hc
    replace h:=Hd h;clear hc
    go_wp2_with (first|(go_at_call 80;refine (cmp_Compare_int _ _ _).mono ?_;rintro e w' ⟨rfl,rfl⟩;rw [HC.out]))
    go_ret;exact⟨ret_i6 (by have:=h0.out;have:=h.out;unfold c2;simp only;repeat (first|rw [if_pos (by omega)]|rw [if_neg (by omega)])),rfl⟩
   ·have HC:=Hd hc
    replace h:=Hd h;clear hc
    go_wp2_with (first|(go_at_call 80;refine (cmp_Compare_int _ _ _).mono ?_;rintro e w' ⟨rfl,rfl⟩;rw [HC.out]))
    go_roundw
    case rel=>exact⟨trivial,.inr (.inr ⟨rfl,h0.out,h.out⟩)⟩
    case measure=>simp [intOf]
   ·have HC:=Hd hc
    replace h:=Hd h;clear hc
    go_wp2_with (first|(go_at_call 80;refine (cmp_Compare_int _ _ _).mono ?_;rintro e w' ⟨rfl,rfl⟩;rw [HC.out]))
    go_ret;exact⟨ret_i6 (by have:=h0.out;have:=h.out;unfold c2;simp only;repeat (first|rw [if_pos (by omega)]|rw [if_neg (by omega)])),rfl⟩
  ·replace h0:=Hd h0
   replace h1:=Hd h1;go_wp2;go_ret;exact⟨ret_i6 (by have:=h0.out;have:=h1.out;unfold c2;simp only;repeat (first|rw [if_neg (by omega)])),rfl⟩
theorem aMJ (x y:gz) (w:World):Calls prog 63 #[.agg (kB x).toArray,.agg (kB y).toArray] w fun e w'=>e=.returned (.int .i64 (c2 x y))∧Below w.heap.size w w'∧w.drawn≤w'.drawn:=by
 have y7:=fun b1 k1 b2 k2 W'=>aQY b1 k1 b2 k2 x y W'
 obtain⟨x0,x1⟩:=x;obtain⟨y0,y1⟩:=y;generalize c2 (x0,x1) (y0,y1)=r at y7 ⊢;unfold kB;simp only at y7 ⊢;have hS:=aA.start w
 go_enter func63,ntmps63
 go_wp2_with (first|((with_reducible refine cI hS fun b4 zS hS=>?_)))
 refine qR [.p 0,.p 1,.e 2,.p 3] [] (fun w'=>aA w w' _) (fun w'=>aA w w' _) (by kernel_rfl) (by kernel_rfl) hS.drew (fun _ hZ=>aA.sub hZ (by repeat (first|exact List.Sublist.refl _))) (fun w1 hS=>?_);refine aM ?_;refine aZ ?_
 go_wp2_with (fail)
 have ef:=hS.aB (bW (i:=1) rfl);have iu:=hS.aB (bW (i:=2) rfl);refine (y7 _ _ _ _ _ (by simp [World.cell?,ef]) (by simp [World.cell?,ef]) (by simp [World.cell?,iu]) (by simp [World.cell?,iu])).mono ?_;rintro e w' ⟨rfl,rfl⟩;simp only [];go_step;refine aX hS ?_;refine aM ?_;refine bE ?_;clear ef iu;go_wp2;go_ret;exact⟨rfl,hS.toBelow (by simp),hS.drawn⟩
theorem aNZ {w0 w:World} {H:List Chunk} {ad:Option Addr} {n c:Nat} {T:TypeId} {ts:List gz} (j:Nat) (hS:aA w0 w H) (hj:H[j]? = some (.row (.slice ad n c) T 2 n (ts.flatMap kB))) (hl:n≤1000000) :
 Calls prog 62 #[.slice ad n c,.func (.func 63) #[] #[]] w fun e w'=>e=.returned (.tuple #[])∧∃ nv:List gz,nv.Perm ts∧nv.Pairwise (fun x y=>¬ lK y x)∧aA w0 w' (H.set j (.row (.slice ad n c) T 2 n (nv.flatMap kB))):=by
 haveI:Inhabited gz:=⟨fp⟩
 refine (aBE aM0 (by decide) isAgg84 sizeOf84 kB a01 aPV c2 aSF 63 #[] j hS hj (by omega) (Proofs.enters_of func63 (by kernel_rfl) rfl) (fun W hW x y=>aMJ x y W)).mono ?_;rintro e w' ⟨he,nv,hp,hs,fY⟩;refine⟨he,nv,hp,hs.imp fun {x y} h=>?_,fY⟩;unfold Proofs.ltOf at h;rw [decide_eq_false_iff_not,aAC] at h;exact h
end
def pki (p:gz):Value:=.agg #[.int .i64 p.1,.int .i64 p.2]
def bki (b:Bool):Value:=.bool b
section
variable {P:Program} {w:World} {ops:Array Oper} {Q:Exit→Act→World→Prop} {rest:List Oper} {a:Act} {dst:Option Tmp} {x ix:Operand} {ty T:TypeId} {pos:String} {ak:Array Edge} {g:Option (Nat × Bool)}
theorem aFT (h:wpList P ops Q (⟨dst,.lookup T x ix false,ty,pos,ak,g⟩::rest) a w):wpList P ops Q (⟨dst,.lookup T x ix false,ty,pos,ak,g⟩::rest) a w:=h
end
def lJ (kf:Nat→gz):Nat→List gz
 | 0=>[]
 | i+1=>if kf i ∈ lJ kf i then lJ kf i else lJ kf i++[kf i]
theorem aBm {kf:Nat→gz} {p:gz}:∀ i,p ∈ lJ kf i↔∃ j,j<i∧kf j=p
 | 0=>by simp [lJ]
 | i+1=>by
  have ih:=aBm (kf:=kf) (p:=p) i;unfold lJ
  split
  ·rename_i h
   rw [ih]
   constructor
   ·rintro⟨j,hj,e⟩;exact⟨j,by omega,e⟩
   ·rintro⟨j,hj,e⟩
    rcases Nat.lt_or_ge j i with aW|gB
    ·exact⟨j,aW,e⟩
    ·obtain rfl:j=i:=by omega
     obtain⟨q,hq,e2⟩:=(aBm (kf:=kf) (p:=kf j) j).1 h;exact⟨q,hq,e2.trans e⟩
  ·rw [List.mem_append,ih,List.mem_singleton]
   constructor
   ·rintro (⟨j,hj,e⟩|rfl)
    ·exact⟨j,by omega,e⟩
    ·exact⟨i,by omega,rfl⟩
   ·rintro⟨j,hj,e⟩
    rcases Nat.lt_or_ge j i with aW|gB
    ·exact .inl ⟨j,aW,e⟩
    ·obtain rfl:j=i:=by omega
     exact .inr e.symm
theorem aBl (kf:Nat→gz):∀ i,(lJ kf i).Nodup
 | 0=>List.nodup_nil
 | i+1=>by
  unfold lJ
  split
  ·exact aBl kf i
  ·rename_i h
   rw [List.nodup_append];exact⟨aBl kf i,by simp,fun x hx y hy e=>h (by obtain rfl:=List.mem_singleton.1 hy;exact e ▸ hx)⟩
theorem aWp {ts:List gz} (hn:ts.Nodup) (hs:ts.Pairwise fun x y=>¬ lK y x):ts.Pairwise lK:=by
 refine (hs.and hn).imp fun {x y} h=>?_
 by_cases h1:lK x y
 ·exact h1
 ·exact absurd (aSf h1 h.1) h.2
theorem aC2:tP prog 84 pki:=by
 refine aI9 underlying84 (fun k=>⟨_,rfl⟩) (fun e k w=>?_) (fun k x w=>?_) (fun k=>?_)
 ·have a3:=isAgg3
  have z3:=sizeOf3;have jM:∀ (n:Nat) (a:Int) (w:World),(Instr.checkKey e (n+1) 3 (.int .i64 a)).run prog w=.ok () w:=fun n a w=>MapKept.run_checkKey (k:=.int .i64 a) underlying3 (show IntKind.i64=IntKind.i64 from rfl) e n
  rw [show (10000:Nat)=9998+1+1 from rfl,Instr.checkKey];simp only [pki];generalize 9998=n;simp [run_underlying underlying84,part,a3,z3,jM];simp [List.range',a3,z3,jM]
 ·have u3:=underlying3
  have a3:=isAgg3;have z3:=sizeOf3;obtain⟨i,hi,_⟩:=info_parts tQ;have hc:prog.cellsOf 3=1:=by kernel_rfl
  unfold Op.equal;simp only [pki];rw [show Op.maxDepth=9998+1+1 from rfl,run_equalIn_array w (9998+1) _ _ underlying84 hi,hc]
  have hcell:∀ (a b:Int),(Op.equalIn (9998+1) 3 (.int .i64 a) (.int .i64 b)).run prog w=.ok (decide (a=b)) w:=fun a b=>by
   have:=run_equalIn_int (P:=prog) w 9998 3 .i64 .i64 a b underlying3;rw [this]
   by_cases h:a=b <;> simp [h]
  generalize 9998=n at hcell;rw [show List.range 2=[0,1] from rfl];simp only [Op.eqItems];simp [part,a3,z3,hcell,hc]
  by_cases h1:k.fst=x.fst <;> by_cases h2:k.snd=x.snd <;> simp [h1,h2,Prod.ext_iff]
  all_goals first|omega|(intro _;omega)
 ·rw [show (10000:Nat)=9999+1 from rfl]
  simp [pki,Instr.sameBits]
def wa (fs:List (List Int)) (a b:Int) (i:Nat):gz:=(nth 0 (nth [] fs i) a.toNat,nth 0 (nth [] fs i) b.toNat)
structure a3f (fs:List (List Int)) (a b:Int) (ts:List gz):Prop where
 rV:ts.Pairwise lK
 mem:∀ p,p ∈ ts↔∃ j,j<fs.length∧wa fs a b j=p
 len:ts.length≤fs.length
theorem aN9 {w0 w:World} {H:List Chunk} {T:TypeId} {v:Value} {n:Nat} {ts:List gz} (j:Nat) (h:aA w0 w (.aH (Old w0) w0::H)) (hj:H[j]? = some (Chunk.row v T 2 n (ts.flatMap kB))):bN w (Go.Hp.ja w0 w) 2 v n (ts.flatMap kB) :=
 (h.dn (j+1) hj).weaken fun k hk=>h.a9i (c:=.row v T 2 n (ts.flatMap kB)) (bW hj) hk
theorem aR9:(prog.info? 84).map (fun i=>(i.zero,i.size,i.bytes))=some (some (.agg #[.int .i64 0,.int .i64 0]),2,16):=by kernel_rfl
theorem a1u (r:yr) (fs:List (List Int)) (la lb:Int) (w:World) (S:Nat→Prop) (hF:j8 w S r.fa r.rF fs) (hL:aP w S) (bG:a4n fs) (h1:bQ la) (h2:bQ lb) :
 Calls prog 29 #[.agg #[.slice r.g1.1 r.g1.2.1 r.g1.2.2,.slice r.g2.1 r.g2.2.1 r.g2.2.2,.slice r.g3.1 r.g3.2.1 r.g3.2.2,.slice r.g4.1 r.g4.2.1 r.g4.2.2,.slice r.r1.1 r.r1.2.1 r.r1.2.2,.slice r.r2.1 r.r2.2.1 r.r2.2.2,.slice r.r3.1 r.r3.2.1 r.r3.2.2,.slice r.r4.1 r.r4.2.1 r.r4.2.2,.slice r.r5.1 r.r5.2.1 r.r5.2.2,.slice r.fa.1 r.fa.2.1 r.fa.2.2,.slice r.ea.1 r.ea.2.1 r.ea.2.2],.int .i64 la,.int .i64 lb] w fun e w'=>Pure w S w' (fun k=>S k∨ja w w' k)∧if pF fs [la,lb]=true then ∃ (a:Option Addr) (c:Nat) (ts:List gz),e=.returned (.tuple #[.slice a ts.length c,.int .i64 0])∧a3f fs la lb ts∧bN w' (ja w w') 2 (.slice a ts.length c) ts.length (ts.flatMap kB) else e=.returned (.tuple #[.slice none 0 0,.int .i64 7]):=by
 have cH:=fun ad n c W w' hF'=>aSs r fs ad n c W w' S hF'
 obtain⟨g1,g2,g3,g4,r1,r2,r3,r4,r5,⟨fa,nf,cf⟩,ea,_,_,rF,_⟩:=r;simp only at hF cH ⊢;obtain rfl:=hF.n;have pT:=hF.bj;have bh:bN w (Old w) 1 (.slice fa fs.length cf) fs.length (rF.map sv):=pT.sl;have hle:=bh.le;have hlen:=bG.len;have oE:=bG.row;replace bG:=Hd bG;replace oE:=Hd oE;obtain⟨P,hP⟩:∃ P:Bool,P=pF fs [la,lb]:=⟨_,rfl⟩;rw [← hP];replace hP:=Hd hP;have hS:=aA.start w
 go_enter func29,ntmps29
 go_wp2_with (first|(with_reducible first|refine cI hS fun b2 ri hS=>?_|refine bA 1 hS isAgg67 sizeOf67 ?_)|((with_reducible refine dV (T:=22) ?_);refine nc (k:=1) (z:=.int .i64 0) (len:=2) hS underlying22 sizeOf3 zeroValue3 (by decide) (by decide) (a8x _ _) (fun bl fX hS=>?_);simp only [aD];simp only [aK] at hS))
 try simp only [aK] at hS
 refine (cH _ _ _ [la,lb] _ (hF.move (hS.da hL)) (aI0 2 hS rfl h1 h2)).mono ?_;rintro e w' ⟨rfl,hq⟩;have hS:=hS.below hq.below hq.drawn;rw [← hP.out];clear hq cH;revert hS
 repeat (rename aA _ _ _=>hZ;clear hZ)
 intro hS;cases P with
 | true =>
  have eJ:=a1r.1 hP.out.symm;obtain⟨⟨l1,l2⟩,l3,l4⟩:=eJ;obtain⟨kf,hkf⟩:∃ kf,kf=wa fs la lb:=⟨_,rfl⟩;have zL:∀ i,(kf i).1=nth 0 (nth [] fs i) la.toNat∧(kf i).2=nth 0 (nth [] fs i) lb.toNat:=fun i=>by rw [hkf];exact⟨rfl,rfl⟩
  replace hkf:=Hd hkf;replace zL:=Hd zL;simp only []
  go_wp2_with (first|((with_reducible refine a16 (T:=135) ?_);refine a3L hS (fun bm wbm hS=>?_);simp only [aD];simp only [aK] at hS)|(with_reducible refine aU 1 hS isAgg35 ?_))
  have hS:=hS.iB 84 2;simp only [aK] at hS
  try try simp only [fA]
  go_loopw [9,23] (fun v9 v23 wr=>∃ (i m:Nat) (a9:Option Addr) (c9:Nat) (om:Obj) (l:List (gz × Bool)),i≤fs.length∧m≤i∧v23=.int .i64 (i:Int)∧v9=.slice a9 m c9∧aA w wr [.aH (Old w) w,.aB b2 (.cells #[.slice g1.1 g1.2.1 g1.2.2,.slice g2.1 g2.2.1 g2.2.2,.slice g3.1 g3.2.1 g3.2.2,.slice g4.1 g4.2.1 g4.2.2,.slice r1.1 r1.2.1 r1.2.2,.slice r2.1 r2.2.1 r2.2.2,.slice r3.1 r3.2.1 r3.2.2,.slice r4.1 r4.2.1 r4.2.2,.slice r5.1 r5.2.1 r5.2.2,.slice fa fs.length cf,.slice ea.1 ea.2.1 ea.2.2] 67 (0,0)),.aB bl (.cells #[.int .i64 la,.int .i64 lb] 3 (0,0)),.aB bm om,.row (.slice a9 m c9) 84 2 m ((lJ kf i).flatMap kB)]∧gj pki bki om l∧(∀ k,(eZ l k).getD false=decide (k ∈ lJ kf i))∧(lJ kf i).length=m) (fun _ v23 _=>fs.length - (intOf v23).toNat)
  case atStart=>exact⟨0,0,none,0,_,[],by omega,by omega,rfl,rfl,hS,gj.empty _ _,fun k=>by simp [lJ,eZ],rfl⟩
  case round =>
   clear hS;obtain⟨i,m,a9,c9,om,l,hi,oO,rfl,rfl,hS,yh,kJ,jY⟩:=hrel;replace jY:=Hd jY
   by_cases aW:i<fs.length
   ·obtain⟨a1,n1,c1,ef,pO,eX⟩:=vo pT aW
    rw [oE.out i aW] at eX;subst eX;have fm:=zL.out i;have hgi:=kJ (kf i);have kz:lJ kf (i+1)=if kf i ∈ lJ kf i then lJ kf i else lJ kf i++[kf i]:=rfl
    obtain⟨x1,aH8⟩:∃ x,nth 0 (nth [] fs i) la.toNat=x:=⟨_,rfl⟩;obtain⟨x2,aL9⟩:∃ x,nth 0 (nth [] fs i) lb.toNat=x:=⟨_,rfl⟩;have hke:kf i=(x1,x2):=by rw [← aH8,← aL9];exact Prod.ext fm.1 fm.2
    rw [hke] at hgi kz;replace hgi:=Hd hgi;replace kz:=Hd kz;replace kJ:=Hd kJ;clear fm hke
    go_wp2_with (with_reducible first|refine iH underlying35 sizeOf22 bh ef fun bq oq bO=>?_|refine fP hS isAgg22 ?_)
    refine qR [.p 0,.p 1,.p 2,.r 3,.p 4,.p 5,.p 6,.r 7,.p 8,.e 9,.m 10] [10] (fun w'=>aA w w' [.aH (Old w) w]) (fun w'=>aA w w' _) (by kernel_rfl) (by kernel_rfl) hS.drew (fun _ hZ=>aA.sub hZ (by repeat (first|exact List.Sublist.refl _|apply List.Sublist.cons_cons|apply List.Sublist.cons))) (fun w1 hS=>?_)
    repeat (with_reducible first|refine jl underlying22 sizeOf3 fun _ _ _=>?_|refine eY isAgg3 ?_|refine bU ?_)
    refine aZ ?_
    (with_reducible refine bH hS zeroValue84 fun bk wbk hS=>?_)
    refine aX hS.sb ?_;refine aM ?_;refine dC ?_
    (with_reducible refine aJ 5 hS sizeOf84 fun _ hS=>?_)
    refine dD ?_;refine aM ?_;refine bE ?_;clear aH8 aL9
    by_cases j0:(x1,x2) ∈ lJ kf i
    ·have qK:(eZ l (x1,x2)).getD false=true:=by rw [hgi.out];simpa using j0
     have fH:lJ kf (i+1)=lJ kf i:=by rw [kz.out,if_pos j0]
     replace fH:=Hd fH;clear j0
     go_wp2_with (first|(with_reducible refine bA 5 hS isAgg84 sizeOf84 ?_)|((with_reducible refine aFT (T:=135) ?_);refine dI hS rfl (aEi (ev:=bki) (k:=(x1,x2)) (z:=false) 3 underlying135 zeroValue4 aC2 rfl rfl rfl yh ?_);simp only [aD];simp only [bki]))
     go_roundw
     case rel=>exact⟨i+1,m,a9,c9,om,l,by omega,by omega,by simp,rfl,by rw [fH.out];exact hS.sb,yh,by rw [fH.out];exact kJ.out,by rw [fH.out,jY.out]⟩
     case measure=>simp [intOf];omega
    ·have qK:(eZ l (x1,x2)).getD false=false:=by rw [hgi.out];simpa using j0
     have fH:lJ kf (i+1)=lJ kf i++[(x1,x2)]:=by rw [kz.out,if_neg j0]
     have jI:(lJ kf i).flatMap kB++[.int .i64 x1,.int .i64 x2]=(lJ kf (i+1)).flatMap kB:=by rw [fH,List.flatMap_append];rfl
     replace fH:=Hd fH;replace jI:=Hd jI;clear j0
     go_wp2_with (first|(with_reducible refine bA 5 hS isAgg84 sizeOf84 ?_)|((with_reducible refine aFT (T:=135) ?_);refine dI hS rfl (aEi (ev:=bki) (k:=(x1,x2)) (z:=false) 3 underlying135 zeroValue4 aC2 rfl rfl rfl yh ?_);simp only [aD];simp only [bki])|((with_reducible refine a3x (T:=135) ?_);refine a1Z (ev:=bki) (k:=(x1,x2)) (v:=true) 3 hS underlying135 aC2 rfl rfl rfl rfl yh rfl (fun ou wu hmu hS=>?_);simp only [aD];simp only [aK] at hS)|((with_reducible refine dV (T:=80) ?_);refine fZ (T:=80) (v:=.agg #[.int .i64 _,.int .i64 _]) hS underlying80 sizeOf84 zeroValue84 rfl rfl rfl (by decide) (by decide) rfl (fun bl3 aYE hS=>?_);simp only [aD];simp only [Value.cells] at hS)|((with_reducible refine eG ?_);refine fw (t:=80) 4 hS underlying80 aR9 rfl (by decide) rfl rfl rfl rfl (by simp [Value.oneCell']) (by omega) (by unfold maxLen;omega) (fun a8 c8 _ hS=>?_);simp only [aD];simp only [aK] at hS))
     go_roundw
     case rel=>exact⟨i+1,m+1,a8,c8,_,_,by omega,by omega,by simp,rfl,by rw [← jI.out];exact hS.sb,hmu,fun k=>by
      rw [a1y,fH.out]
      by_cases e:(x1,x2)=k
      ·subst e;simp
      ·have e2:¬ k=(x1,x2):=fun h=>e h.symm
       rw [if_neg e,kJ.out k];simp only [List.mem_append,List.mem_singleton,e2,or_false],by rw [fH.out,List.length_append,jY.out];rfl⟩
     case measure=>simp [intOf];omega
   ·obtain rfl:i=fs.length:=by omega
    go_wp2_with (fail)
    refine (aNZ 4 hS rfl (by omega)).mono ?_;clear hS;rintro e w' ⟨rfl,ts,hp,wz,hS⟩;revert hS
    repeat (rename aA _ _ _=>hZ;clear hZ)
    intro hS;simp only [aK] at hS;have yO:ts.length=m:=by rw [hp.length_eq];exact jY.out
    have hcq:a3f fs la lb ts:=⟨aWp (hp.nodup_iff.2 (aBl _ _)) wz,fun p=>by rw [hp.mem_iff,aBm,← hkf.out],by omega⟩;subst yO;have fT:=aN9 3 hS rfl;have dL:=Pure.own hS S;replace hcq:=Hd hcq;simp only [];go_wp2;refine bodyPost_ret (results_tmp2 rfl _ _ _) rfl ?_;exact⟨dL,a9,c9,ts,rfl,hcq.out,fT⟩
 | false =>
  have dL:=Pure.own hS S;simp only [];go_wp2;refine bodyPost_ret (results_tmp2 rfl _ _ _) rfl ?_;exact⟨dL,rfl⟩
def a2V (fs:List (List Int)) (a b:Int):Prop:=∀ i,i<fs.length→∀ j,j<fs.length→(wa fs a b i).1=(wa fs a b j).1→(wa fs a b i).2=(wa fs a b j).2
def a7P (ts:List gz):Prop:=∀ p ∈ ts,∀ q ∈ ts,p.1=q.1→p.2=q.2
theorem a3f.fn {fs:List (List Int)} {a b:Int} {ts:List gz} (h:a3f fs a b ts):a7P ts↔a2V fs a b:=by
 constructor
 ·intro hf i hi j hj e
  exact hf _ ((h.mem _).2 ⟨i,hi,rfl⟩) _ ((h.mem _).2 ⟨j,hj,rfl⟩) e
 ·intro hf p hp q hq e
  obtain⟨i,hi,rfl⟩:=(h.mem _).1 hp;obtain⟨j,hj,rfl⟩:=(h.mem _).1 hq;exact hf i hi j hj e
theorem aKm {l:List (Int × Int)} {T:List gz} {p:gz} (h:∀ x y,eZ l x=some y↔(x,y) ∈ T) (hp:eZ l p.1=none∨eZ l p.1=some p.2):∀ x y,eZ (fV l p.1 p.2) x=some y↔(x,y) ∈ T++[p]:=by
 intro x y;rw [a1y,List.mem_append,List.mem_singleton]
 by_cases e:p.1=x
 ·rw [if_pos e]
  subst e
  rcases hp with hn|hs
  ·constructor
   ·intro h1;cases h1;exact .inr rfl
   ·rintro (h1|h1)
    ·rw [← h,hn] at h1;cases h1
    ·rw [← h1]
  ·constructor
   ·intro h1;cases h1;exact .inr rfl
   ·rintro (h1|h1)
    ·rw [← h,hs] at h1;exact h1
    ·rw [← h1]
 ·rw [if_neg e,h]
  constructor
  ·exact .inl
  ·rintro (h1|h1)
   ·exact h1
   ·exact absurd (by rw [← h1]) e
theorem a2v (r:yr) (fs:List (List Int)) (la lb:Int) (w:World) (S:Nat→Prop) (hF:j8 w S r.fa r.rF fs) (hL:aP w S) (bG:a4n fs) (h1:bQ la) (h2:bQ lb) :
 Calls prog 26 #[.agg #[.slice r.g1.1 r.g1.2.1 r.g1.2.2,.slice r.g2.1 r.g2.2.1 r.g2.2.2,.slice r.g3.1 r.g3.2.1 r.g3.2.2,.slice r.g4.1 r.g4.2.1 r.g4.2.2,.slice r.r1.1 r.r1.2.1 r.r1.2.2,.slice r.r2.1 r.r2.2.1 r.r2.2.2,.slice r.r3.1 r.r3.2.1 r.r3.2.2,.slice r.r4.1 r.r4.2.1 r.r4.2.2,.slice r.r5.1 r.r5.2.1 r.r5.2.2,.slice r.fa.1 r.fa.2.1 r.fa.2.2,.slice r.ea.1 r.ea.2.1 r.ea.2.2],.int .i64 la,.int .i64 lb] w fun e w'=>Pure w S w' S∧if pF fs [la,lb]=true then ∃ b:Bool,e=.returned (.tuple #[.bool b,.int .i64 0])∧(b=true↔a2V fs la lb) else e=.returned (.tuple #[.bool false,.int .i64 7]):=by
 have cC:=fun w' hF' eM=>a1u r fs la lb w' S hF' eM bG h1 h2
 have dp:=bG.len;obtain⟨g1,g2,g3,g4,r1,r2,r3,r4,r5,fa,ea,_,_,rF,_⟩:=r;simp only at hF cC ⊢;replace bG:=Hd bG;obtain⟨P,hP⟩:∃ P:Bool,P=pF fs [la,lb]:=⟨_,rfl⟩;rw [← hP];simp only [← hP] at cC;replace hP:=Hd hP;obtain⟨hS,aC,bC,bD⟩:=eR hL
 go_enter func26,ntmps26
 go_wp2_with (with_reducible first|refine cI hS fun b3 wb3 hS=>?_|refine bA 1 hS isAgg67 sizeOf67 ?_)
 refine (cC _ (hF.move (hS.da aC)) (aP.at hS aC)).mono ?_;rintro e w1 ⟨az,fT⟩;cases P with
 | true =>
  rw [if_pos rfl] at fT;obtain⟨ap,cp,ts,rfl,fg,bh⟩:=fT;have bh:=bh.weaken (T:=fun k=>S k∨ja _ w1 k) fun k h=>.inr h
  replace hS:=hS.aj aC bC bD az;obtain⟨F1,aG,-,bB,av,hS⟩:=hS;have bh:=bh.weaken aG;have tj:=fg.len;have oR:=fg.fn;replace fg:=Hd fg;replace oR:=Hd oR;clear cC;simp only []
  go_wp2_with (first|((with_reducible refine a16 (T:=133) ?_);refine a3L hS (fun bm wbm hS=>?_);simp only [aD];simp only [aK] at hS))
  try try simp only [fA]
  go_loopw [28] (fun v28 wr=>∃ (k:Nat) (om:Obj) (l:List (Int × Int)),k≤ts.length∧v28=.int .i64 (k:Int)∧aA w wr [.aH F1 w1,.aB b3 (.cells #[.slice g1.1 g1.2.1 g1.2.2,.slice g2.1 g2.2.1 g2.2.2,.slice g3.1 g3.2.1 g3.2.2,.slice g4.1 g4.2.1 g4.2.2,.slice r1.1 r1.2.1 r1.2.2,.slice r2.1 r2.2.1 r2.2.2,.slice r3.1 r3.2.1 r3.2.2,.slice r4.1 r4.2.1 r4.2.2,.slice r5.1 r5.2.1 r5.2.2,.slice fa.1 fa.2.1 fa.2.2,.slice ea.1 ea.2.1 ea.2.2] 67 (0,0)),.aB bm om]∧gj ik ik om l∧∀ x y,eZ l x=some y↔(x,y) ∈ ts.take k) (fun v28 _=>ts.length - (intOf v28).toNat)
  case atStart=>exact⟨0,_,[],by omega,rfl,hS,gj.empty _ _,fun x y=>by simp [eZ]⟩
  case round =>
   clear hS;obtain⟨k,om,l,hk,rfl,hS,yh,kJ⟩:=hrel;revert hS
   repeat (rename aA _ _ _=>hZ;clear hZ)
   intro hS
   by_cases aW:k<ts.length
   ·have dF:=eS a01 fp aW
    have eK:=nk fp ts k aW;have j0:=cQ fp ts k aW;obtain⟨⟨p1,p2⟩,iS⟩:∃ p,nth fp ts k=p:=⟨_,rfl⟩;rw [iS] at dF eK j0;replace dF:((ts.flatMap kB).drop (k*2)).take 2=[.int .i64 p1,.int .i64 p2]:=dF;clear iS;have zQ:∀ p,p ∈ ts.take k→p ∈ ts:=fun p hp=>List.mem_of_mem_take hp
    replace eK:=Hd eK;replace j0:=Hd j0;replace zQ:=Hd zQ;cases hg:eZ l p1 with
    | none =>
     have cA:=aKm (p:=(p1,p2)) kJ (.inl hg);replace cA:=Hd cA;replace kJ:=Hd kJ;replace hg:=Hd hg
     go_wp2_with (first|(with_reducible first|refine iH underlying80 sizeOf84 bh dF fun bq oq bO=>?_|refine j9 hS isAgg84 sizeOf84 ?_|refine bH hS zeroValue84 fun bk wbk hS=>?_|refine aJ 3 hS sizeOf84 fun _ hS=>?_|refine aU 3 hS isAgg3 ?_)|((with_reducible refine a0J (T:=133) ?_);refine dI hS rfl (a1J (ev:=ik) (k:=p1) (z:=(0:Int)) 2 underlying133 zeroValue3 (uX underlying3) rfl rfl rfl yh ?_);simp only [aD];simp only [ik,hg.out,Option.getD_some,Option.getD_none,Option.isSome_some,Option.isSome_none])|((with_reducible refine a3x (T:=133) ?_);refine a1Z (ev:=ik) (k:=p1) (v:=p2) 2 hS underlying133 (uX underlying3) rfl rfl rfl rfl (by with_reducible assumption) rfl (fun ou wu hmu hS=>?_);simp only [aD];simp only [aK] at hS))
     go_roundw
     case rel=>exact⟨k+1,_,_,by omega,by simp,hS.sb,hmu,by rw [eK.out];exact cA.out⟩
     case measure=>simp [intOf];omega
    | some y =>
     by_cases hy:y=p2
     ·subst hy
      have cA:=aKm (p:=(p1,y)) kJ (.inr hg);replace cA:=Hd cA;replace kJ:=Hd kJ;replace hg:=Hd hg
      go_wp2_with (first|(with_reducible first|refine iH underlying80 sizeOf84 bh dF fun bq oq bO=>?_|refine j9 hS isAgg84 sizeOf84 ?_|refine bH hS zeroValue84 fun bk wbk hS=>?_|refine aJ 3 hS sizeOf84 fun _ hS=>?_|refine aU 3 hS isAgg3 ?_)|((with_reducible refine a0J (T:=133) ?_);refine dI hS rfl (a1J (ev:=ik) (k:=p1) (z:=(0:Int)) 2 underlying133 zeroValue3 (uX underlying3) rfl rfl rfl yh ?_);simp only [aD];simp only [ik,hg.out,Option.getD_some,Option.getD_none,Option.isSome_some,Option.isSome_none])|((with_reducible refine a3x (T:=133) ?_);refine a1Z (ev:=ik) (k:=p1) (v:=y) 2 hS underlying133 (uX underlying3) rfl rfl rfl rfl (by with_reducible assumption) rfl (fun ou wu hmu hS=>?_);simp only [aD];simp only [aK] at hS))
      go_roundw
      case rel=>exact⟨k+1,_,_,by omega,by simp,hS.sb,hmu,by rw [eK.out];exact cA.out⟩
      case measure=>simp [intOf];omega
     ·have hf:(y == p2)=false:=by simpa using hy
      have lD:¬ a7P ts:=fun h=>hy (h _ (zQ.out _ ((kJ p1 y).1 hg)) _ j0.out rfl)
      replace lD:=Hd lD;replace kJ:=Hd kJ;replace hg:=Hd hg;clear hy
      go_wp2_with (first|(with_reducible first|refine iH underlying80 sizeOf84 bh dF fun bq oq bO=>?_|refine j9 hS isAgg84 sizeOf84 ?_|refine bH hS zeroValue84 fun bk wbk hS=>?_|refine aJ 3 hS sizeOf84 fun _ hS=>?_|refine aU 3 hS isAgg3 ?_)|((with_reducible refine a0J (T:=133) ?_);refine dI hS rfl (a1J (ev:=ik) (k:=p1) (z:=(0:Int)) 2 underlying133 zeroValue3 (uX underlying3) rfl rfl rfl yh ?_);simp only [aD];simp only [ik,hg.out,Option.getD_some,Option.getD_none,Option.isSome_some,Option.isSome_none]))
      refine bodyPost_ret (results_tmp2 rfl _ _ _) rfl ?_;have bR:=bB.step hS av aG;exact⟨⟨bR.below,bR.drawn,fun k h=>h,fun k h=>.inl h⟩,.inl ⟨rfl,by first|(rw [← oR.out];exact lD.out)⟩⟩
   ·obtain rfl:k=ts.length:=by omega
    have aCZ:a7P ts:=fun p hp q hq e=>by
     have h1:=(kJ p.1 p.2).2 (by rw [List.take_length];exact hp);have h2:=(kJ q.1 q.2).2 (by rw [List.take_length];exact hq);rw [e,h2] at h1;exact (Option.some.inj h1).symm
    replace aCZ:=Hd aCZ;replace kJ:=Hd kJ;go_wp2;refine bodyPost_ret (results_tmp2 rfl _ _ _) rfl ?_;have bR:=bB.step hS av aG;exact⟨⟨bR.below,bR.drawn,fun k h=>h,fun k h=>.inl h⟩,.inr ⟨rfl,by first|(rw [← oR.out];exact aCZ.out)⟩⟩
 | false =>
  rw [if_neg (by decide)] at fT;obtain rfl:=fT;have bB:=(bD.step hS bC aC).trans az;clear cC;simp only [];go_wp2;refine bodyPost_ret (results_tmp2 rfl _ _ _) rfl ?_;exact⟨⟨bB.below,bB.drawn,fun k h=>h,fun k h=>.inl h⟩,rfl⟩
structure aJf (L O:List Int) (ne n:Nat) (fs ee:List (List Int)):Prop where
 fl:fs.length=O.length
 el:ee.length=ne
 ll:L.length=2*ne
 fr:∀ i,i<fs.length→(nth [] fs i).length=n
 er:∀ i,i<ee.length→(nth [] ee i).length=n
 lr:∀ k,k<2*ne→∃ i:Nat,i<fs.length∧nth 0 L k=(i:Int)
 nl:n≤64
 le:ne≤1000000
 lf:fs.length≤1000000
theorem aKk (r:yr) (y:Sh) (fs ee:List (List Int)) (n:Nat) (w:World) (S:Nat→Prop) (hO:zR w S r y fs ee) (hL:aP w S) (hf:aJf (Sh.f y).L (Sh.f y).O y.es.length n fs ee) :
 Calls prog 25 #[.agg #[.slice r.g1.1 r.g1.2.1 r.g1.2.2,.slice r.g2.1 r.g2.2.1 r.g2.2.2,.slice r.g3.1 r.g3.2.1 r.g3.2.2,.slice r.g4.1 r.g4.2.1 r.g4.2.2,.slice r.r1.1 r.r1.2.1 r.r1.2.2,.slice r.r2.1 r.r2.2.1 r.r2.2.2,.slice r.r3.1 r.r3.2.1 r.r3.2.2,.slice r.r4.1 r.r4.2.1 r.r4.2.2,.slice r.r5.1 r.r5.2.1 r.r5.2.2,.slice r.fa.1 r.fa.2.1 r.fa.2.2,.slice r.ea.1 r.ea.2.1 r.ea.2.2],.int .i64 (n:Int)] w fun e w'=>e=.returned (.bool true)∧Pure w S w' S:=by
 have pT:=hO.fK.bj;have hEO:=hO.mw.bj;have j6:=hO.arr.n4;have hLI:=Ints.bj hO.fc.l;have hOn:r.r3.2.1=(Sh.f y).O.length:=Ints.len hO.fc.o;have hLn:r.r2.2.1=(Sh.f y).L.length:=Ints.len hO.fc.l;have oR:=hO.fK.n;have hen:=hO.mw.n;clear hO;obtain⟨g1,g2,g3,⟨a4,n4,c4⟩,r1,⟨a2,n2,c2⟩,⟨a3,n3,c3⟩,r4,r5,⟨fa,nf,cf⟩,⟨ea,ne,ce⟩,_,_,rF,rE⟩:=r;simp only [sv] at pT hEO j6 hLI hOn hLn oR hen ⊢;obtain⟨dp,gV,fQ,vP,uh,rB,hnl,hle,hlf⟩:=hf;rw [← dp] at hOn;subst hOn oR hen;rw [← gV] at j6 fQ rB hle;subst j6;obtain⟨Lf,rp⟩:∃ Lf,(Sh.f y).L=Lf:=⟨_,rfl⟩;rw [rp] at hLI fQ rB hLn;clear rp dp gV;have sh:bN w (Old w) 1 (.slice fa fs.length cf) fs.length (rF.map sv):=pT.sl;have aS0:bN w (Old w) 1 (.slice ea ee.length ce) ee.length (rE.map sv):=hEO.sl;have a9C:bN w (Old w) 1 (.slice a2 n2 c2) n2 (Lf.map (Value.int .i64)):=by rw [hLn];rw [hLn] at hLI;exact hLI.1
 have f1:((fs.length:Int) != (fs.length:Int))=false:=by simp
 have f2:((ee.length:Int) != (ee.length:Int))=false:=by simp
 have fx:(n2:Int)=2*(ee.length:Int):=by omega
 have u0:IntKind.i64.wrap (2*(ee.length:Int))=(n2:Int):=by rw [w6];try omega
 have f3:((n2:Int) != (n2:Int))=false:=by simp
 have f4:((n:Int) != (n:Int))=false:=by simp
 have aW6:n2≤2000000:=by omega
 replace fx:=Hd fx;replace hLn:=Hd hLn;replace fQ:=Hd fQ;replace rB:=Hd rB;replace vP:=Hd vP;replace uh:=Hd uh;have hS:=aA.start w
 go_enter func25,ntmps25
 go_wp2_with (with_reducible first|refine cI hS fun b2 ri hS=>?_|refine aU 1 hS isAgg35 ?_|refine aU 1 hS isAgg22 ?_|refine aU 1 hS isAgg32 ?_)
 try try simp only [fA]
 go_loopw [5] (fun v5 wr=>∃ (i:Nat),i≤fs.length∧v5=.int .i64 (i:Int)∧aA w wr [.aH (Old w) w,.aB b2 (.cells #[.slice g1.1 g1.2.1 g1.2.2,.slice g2.1 g2.2.1 g2.2.2,.slice g3.1 g3.2.1 g3.2.2,.slice a4 ee.length c4,.slice r1.1 r1.2.1 r1.2.2,.slice a2 n2 c2,.slice a3 fs.length c3,.slice r4.1 r4.2.1 r4.2.2,.slice r5.1 r5.2.1 r5.2.2,.slice fa fs.length cf,.slice ea ee.length ce] 67 (0,0))]) (fun v5 _=>fs.length - (intOf v5).toNat)
 case atStart=>exact⟨0,by omega,rfl,hS⟩
 case round =>
  clear hS;obtain⟨i,hi,rfl,hS⟩:=hrel
  by_cases aW:i<fs.length
  ·obtain⟨a1,n1,c1,ef,pO,eX⟩:=vo pT aW
   rw [vP.out i aW] at eX;subst eX
   go_wp2_with (with_reducible first|refine iH underlying35 sizeOf22 sh ef fun bq oq bO=>?_|refine fP hS isAgg22 ?_|refine aU 1 hS isAgg35 ?_)
   go_roundw
   case rel=>exact⟨i+1,by omega,by simp,hS.sb⟩
   case measure=>simp [intOf];omega
  ·obtain rfl:i=fs.length:=by omega
   go_wp2_with (with_reducible refine aU 1 hS isAgg35 ?_)
   try try simp only [fA]
   go_loopw [6] (fun v6 wr=>∃ (i:Nat),i≤ee.length∧v6=.int .i64 (i:Int)∧aA w wr [.aH (Old w) w,.aB b2 (.cells #[.slice g1.1 g1.2.1 g1.2.2,.slice g2.1 g2.2.1 g2.2.2,.slice g3.1 g3.2.1 g3.2.2,.slice a4 ee.length c4,.slice r1.1 r1.2.1 r1.2.2,.slice a2 n2 c2,.slice a3 fs.length c3,.slice r4.1 r4.2.1 r4.2.2,.slice r5.1 r5.2.1 r5.2.2,.slice fa fs.length cf,.slice ea ee.length ce] 67 (0,0))]) (fun v6 _=>ee.length - (intOf v6).toNat)
   case atStart=>exact⟨0,by omega,rfl,hS⟩
   case round =>
    clear hS;obtain⟨i,hi,rfl,hS⟩:=hrel
    by_cases aW:i<ee.length
    ·obtain⟨a1,n1,c1,ef,pO,eX⟩:=vo hEO aW
     rw [uh.out i aW] at eX;subst eX
     obtain⟨l,eJ,hl0,kN⟩:∃ l:Int,nth 0 Lf (2*i)=l∧0≤l∧l<(fs.length:Int):=by
      obtain⟨l,h1,h2⟩:=rB.out (2*i) (by omega);exact⟨l,h2,by omega,by omega⟩
     obtain⟨r,cT,pK,il⟩:∃ l:Int,nth 0 Lf (2*i+1)=l∧0≤l∧l<(fs.length:Int):=by
      obtain⟨l,h1,h2⟩:=rB.out (2*i+1) (by omega);exact⟨l,h2,by omega,by omega⟩
     have a1c:=fQ.out;have dK:((Lf.map (Value.int .i64)).drop (2*i*1)).take 1=[.int .i64 l]:=by rw [aA4 (by omega),eJ]
     have ql:((Lf.map (Value.int .i64)).drop ((2*i+1)*1)).take 1=[.int .i64 r]:=by rw [aA4 (by omega),cT]
     have oY:2*i+1<n2:=by have:=hLn.out;omega
     have u1:IntKind.i64.wrap (2*(i:Int))=((2*i:Nat):Int):=by rw [w6];try omega
     have u2:IntKind.i64.wrap (2*(i:Int)+1)=((2*i+1:Nat):Int):=by rw [w6];try omega
     have t1:decide (l<0)=false:=by simp;omega
     have t2:decide (r<0)=false:=by simp;omega
     have t3:decide ((fs.length:Int)≤l)=false:=by simp;omega
     have t4:decide ((fs.length:Int)≤r)=false:=by simp;omega
     replace eJ:=Hd eJ;replace cT:=Hd cT;clear a1c
     go_wp2_with (with_reducible refine aU 1 hS isAgg35 ?_)
     refine gI [.p 0,.r 1,.p 2,.p 3,.r 4,.p 5,.p 6,.p 7,.p 8,.p 9,.p 10,.r 11,.p 12,.p 13,.p 14,.r 15,.p 16,.p 17,.p 18,.p 19,.p 20,.r 21,.p 22,.p 23,.p 24,.r 25,.p 26,.r 27,.p 28,.p 29,.p 30,.p 31,.p 32,.p 33,.r 34,.p 35,.p 36,.p 37,.p 38,.r 39,.p 40,.p 41,.p 42,.p 43,.p 44,.r 45,.p 46,.p 47,.p 48,.p 49,.r 50,.p 51,.r 52,.p 53,.p 54,.p 55] [] (fun w'=>aA w w' _) (by kernel_rfl) (by as_aux_lemma=>kernel_rfl) hS.drew (fun w1 hS=>?_)
     repeat (with_reducible first|refine cZ 1 isAgg35 ?_|refine cZ 1 isAgg22 ?_|refine e9 underlying35 sizeOf22 aS0 ef fun bq oq bO=>?_|refine eY isAgg22 ?_|refine bU ?_)
     try simp only [u1]
     (with_reducible refine e9 underlying22 sizeOf3 a9C dK fun bq oq bO=>?_)
     (with_reducible refine eY isAgg3 ?_)
     repeat (with_reducible first|refine cZ 1 isAgg22 ?_|refine bU ?_)
     try simp only [u1]
     (with_reducible refine e9 underlying22 sizeOf3 a9C dK fun bq oq bO=>?_)
     (with_reducible refine eY isAgg3 ?_)
     repeat (with_reducible first|refine cZ 1 isAgg35 ?_|refine cZ 1 isAgg22 ?_|refine bU ?_)
     try simp only [u1,u2]
     (with_reducible refine e9 underlying22 sizeOf3 a9C ql fun bq oq bO=>?_)
     (with_reducible refine eY isAgg3 ?_)
     repeat (with_reducible first|refine cZ 1 isAgg22 ?_|refine bU ?_)
     try simp only [u1,u2]
     (with_reducible refine e9 underlying22 sizeOf3 a9C ql fun bq oq bO=>?_)
     (with_reducible refine eY isAgg3 ?_)
     repeat (with_reducible first|refine cZ 1 isAgg35 ?_|refine bU ?_)
     refine bE ?_;go_wp2;go_roundw
     case rel=>exact⟨i+1,by omega,by simp,hS.sb⟩
     case measure=>simp [intOf];omega
    ·obtain rfl:i=ee.length:=by omega
     go_wp2_with (with_reducible refine aU 1 hS isAgg35 ?_)
     go_ret;exact⟨rfl,hS.pure S⟩
theorem aEJ (fs:List (List Int)) (i k:Nat) (v:Int) (j:Nat):(nth [] (tC fs i k v) j).length=(nth [] fs j).length:=by
 unfold tC
 by_cases hi:i<fs.length
 ·rw [a7v _ _ _ _ _ hi]
  split
  ·rename_i e;subst e;simp
  ·rfl
 ·rw [List.set_eq_of_length_le (by omega)]
theorem a7O {α:Type} (z:α) {n i:Nat} {a:α} (h:i<n):nth z (List.replicate n a) i=a:=by
 rw [bS z _ i (by simpa using h)];simp
theorem a8v (ss:List (Int × Int × Int)) (l r:Nat) (fs:List (List Int)) (j:Nat):∀ k,(nth [] (qy ss l r fs k) j).length=(nth [] fs j).length
 | 0=>rfl
 | k+1=>by rw [qy,aEJ,aEJ,a8v ss l r fs j k]
theorem aCq (y:Sh) (ys:List Sh) (fs:List (List Int)) (j:Nat):∀ e,(nth [] (nV y ys fs e) j).length=(nth [] fs j).length
 | 0=>rfl
 | e+1=>by rw [nV,a8v,aCq y ys fs j e]
theorem yA (y0:Sh) (ys:List Sh):(jL y0 ys).length=(Sh.f y0).O.length:=by unfold jL;rw [a0m,List.length_replicate]
theorem aE3 (y0:Sh) (ys:List Sh) {i:Nat} (hi:i<(Sh.f y0).O.length):(nth [] (jL y0 ys) i).length=ys.length:=by
 unfold jL;rw [aCq,a7O _ hi,List.length_replicate]
theorem aGj (y0:Sh) (ys:List Sh) (h:0<(Sh.f y0).O.length):po (jL y0 ys)=ys.length:=by
 unfold po;rw [yA,if_pos h,aE3 y0 ys h]
theorem aJO (y0:Sh) (ys:List Sh) (h:0<(Sh.f y0).O.length) (h2:(Sh.f y0).O.length≤65536):a4n (jL y0 ys) :=
 ⟨fun i hi=>by rw [yA] at hi;rw [aE3 y0 ys hi,aGj y0 ys h],by rw [yA];exact h2⟩
theorem aUC (y:Sh) (ys:List Sh) {n e:Nat} (h:e<n):nth [] (km y ys n) e=re y ys e:=by
 unfold km;rw [bS [] _ e (by simpa using h)];simp
theorem aO3 (y:Sh) (ys:List Sh) (e:Nat):(re y ys e).length=ys.length:=by simp [re,pQ]
theorem mN.a1N {os:List Sz} {gs:List Gp} {y:Sh} (h:mN os gs y) (cJ:∀ t ∈ os,t.a≠t.b):tZ y.es.length y.V.length (iA y.es) (jR y.V y.es y.RL (fun v=>nR y.es (nth [] y.RL v))).fh (Sh.f y) :=
 a99 h.arr (fun e he=>by have:=(h.arr.mw cJ he).1;omega) (fun e he=>by have:=h.arr.mw cJ he;omega) h.rl
section
variable {y0:Sh} {ys:List Sh} {m:Nat}
end
theorem aEB {ls:List Lay} {y0:Sh} {ys:List Sh} (bG:a2m ls) (h0:mN (dX ls) (dm ls) y0) (hl:ys.length=ls.length):aJf (Sh.f y0).L (Sh.f y0).O y0.es.length ys.length (jL y0 ys) (km y0 ys y0.es.length)∧a4n (jL y0 ys)∧po (jL y0 ys)=ys.length:=by
 have hg:=h0.a1N bG.all.one;have he:=bG.all.E _ _ h0.arr;have cD:=hg.aAy;refine⟨⟨yA y0 ys,a5l y0 ys _,hg.a2I,fun i hi=>?_,fun i hi=>?_,fun k hk=>?_,?_,by omega,?_⟩,aJO y0 ys hg.aAE (by omega),aGj y0 ys hg.aAE⟩
 ·rw [yA] at hi;exact aE3 y0 ys hi
 ·rw [a5l] at hi;rw [aUC y0 ys hi,aO3]
 ·rw [yA];exact hg.lr k hk
 ·have:=bG.len;omega
 ·rw [yA];omega
def lH:List Lay:=[(zqZ 0 0 4,[]),(zqZ 2 2 4,[])]
def ovV:List Pt:=[⟨0,0⟩,⟨0,4⟩,⟨2,2⟩,⟨2,4⟩,⟨2,6⟩,⟨4,0⟩,⟨4,2⟩,⟨4,4⟩,⟨6,2⟩,⟨6,6⟩]
def ovE:List Ed:=[⟨0,1,[3],⟨0,1⟩⟩,⟨0,5,[0],⟨1,0⟩⟩,⟨1,3,[2],⟨1,0⟩⟩,⟨2,3,[7],⟨0,1⟩⟩,⟨2,6,[4],⟨1,0⟩⟩,⟨3,4,[7],⟨0,1⟩⟩,⟨3,7,[2],⟨1,0⟩⟩,⟨4,9,[6],⟨1,0⟩⟩,⟨5,6,[1],⟨0,1⟩⟩,⟨6,7,[1],⟨0,1⟩⟩,⟨6,8,[4],⟨1,0⟩⟩,⟨8,9,[5],⟨0,1⟩⟩]
def ovR:List (List Nat):=[[2,0],[4,1],[8,6],[12,10,5,7],[14,11],[16,3],[20,18,9,17],[13,19],[22,21],[15,23]]
def owV:List Pt:=[⟨2,2⟩,⟨2,6⟩,⟨6,2⟩,⟨6,6⟩]
def ovY:Sh:=⟨ovV,ovE,ovR⟩
def ov1:Sh:=⟨zqV,ze,zqR⟩
def ov2:Sh:=⟨owV,ze,zqR⟩
theorem aRx:eu (dX lH) (dm lH) ovV ovE:=by
 have h:eu (dX lH) [⟨4,2⟩,⟨2,4⟩] ovV ovE:=aBI (by decide +kernel);refine⟨⟨h.arr.sv,fun p=>?_,h.arr.se,h.arr.me⟩,h.of,h.ofs,h.dir⟩;rw [h.arr.mv]
 constructor
 ·rintro (hp|hp)
  ·obtain⟨g,hg,rfl⟩:=List.mem_map.1 hp
   simp only [List.mem_cons,List.not_mem_nil,or_false] at hg
   rcases hg with rfl|rfl
   ·exact .inr (.inr ⟨1,4,(⟨⟨4,0⟩,⟨4,4⟩⟩:Sz).sg,(⟨⟨2,2⟩,⟨6,2⟩⟩:Sz).sg,by decide,rfl,rfl,(a6g _ _ _).1 (by decide +kernel)⟩)
   ·exact .inr (.inr ⟨2,7,(⟨⟨4,4⟩,⟨0,4⟩⟩:Sz).sg,(⟨⟨2,6⟩,⟨2,2⟩⟩:Sz).sg,by decide,rfl,rfl,(a6g _ _ _).1 (by decide +kernel)⟩)
  ·exact .inr hp
 ·rintro (hp|hp)
  ·simp [dm,lH] at hp
  ·exact .inr hp
theorem aRp:eu (zqZ 2 2 4) [] owV ze:=aBI (by decide +kernel)
theorem aNG:o4 ovV ovE ovR:=⟨rfl,fun v hv=>by
 have h:(List.range ovV.length).all (fun v=>a4B ovE v (nth [] ovR v))=true:=by decide +kernel
 rw [List.all_eq_true] at h;exact aBz (h v (List.mem_range.2 hv))⟩
theorem aMF:o4 owV ze zqR:=⟨rfl,fun v hv=>by
 have h:(List.range owV.length).all (fun v=>a4B ze v (nth [] zqR v))=true:=by decide +kernel
 rw [List.all_eq_true] at h;exact aBz (h v (List.mem_range.2 hv))⟩
theorem aFh (t:Sz) (ht:t ∈ dX lH):t.ok:=by
 have h:(dX lH).all (fun t=>decide ((-1073741824≤t.a.x∧t.a.x≤1073741824)∧(-1073741824≤t.a.y∧t.a.y≤1073741824)) && decide ((-1073741824≤t.b.x∧t.b.x≤1073741824)∧(-1073741824≤t.b.y∧t.b.y≤1073741824)) && decide (t.a≠t.b))=true:=by decide +kernel
 rw [List.all_eq_true] at h;have h1:=h t ht;simp only [Bool.and_eq_true,decide_eq_true_eq] at h1;exact⟨h1.1.1,h1.1.2,h1.2⟩
theorem aFG {os:List Sz} {gs:List Gp} {y y':Sh} (cJ:∀ t ∈ os,t.a≠t.b) (h:mN os gs y) (h':mN os gs y'):y=y':=by
 obtain⟨V,es,RL⟩:=y;obtain⟨V',iy,RL'⟩:=y';obtain⟨e1,e2⟩:=h.arr.unique cJ h'.arr;simp only at e1 e2;subst e1 e2;have e3:=h.rl.unique h'.arr cJ h'.rl;simp only at e3;rw [e3]
theorem aQg:a2m lH:=by
 have bG:∀ i,i<lH.length→∀ t ∈ (nth fF lH i).1,t.ok:=fun i hi t ht=>aFh t (List.mem_flatMap.2 ⟨_,cQ fF lH i hi,ht⟩)
 refine⟨by decide,fun i hi=>Fits.few (bG i hi) ?_ ?_ ?_,Fits.few aFh (fun g hg=>by simp [dm,lH] at hg) (by decide) (by decide)⟩
 ·intro g hg
  have h:i=0∨i=1:=by have:i<2:=hi;omega
  rcases h with rfl|rfl <;> simp [nth,lH] at hg
 ·have h:i=0∨i=1:=by have:i<2:=hi;omega
  rcases h with rfl|rfl <;> decide
 ·have h:i=0∨i=1:=by have:i<2:=hi;omega
  rcases h with rfl|rfl <;> decide
theorem aPR {y0:Sh} {ys:List Sh} (h0:mN (dX lH) (dm lH) y0) (hl:ys.length=lH.length) (hj:∀ j,j<lH.length→mN (nth fF lH j).1 (nth fF lH j).2 (nth mO ys j)):y0=ovY∧ys=[ov1,ov2]:=by
 have cJ:∀ t ∈ dX lH,t.a≠t.b:=fun t ht=>(aFh t ht).2.2
 refine⟨aFG cJ h0 ⟨aRx,aNG⟩,?_⟩;have h1:=hj 0 (by decide);have h2:=hj 1 (by decide)
 match ys,hl with
 | [a,b],_ =>
  have e1:a=ov1:=aFG (fun t ht=>cJ t (List.mem_flatMap.2 ⟨_,cQ fF lH 0 (by decide),ht⟩)) h1 ⟨aQS,aSA⟩;have e2:b=ov2:=aFG (fun t ht=>cJ t (List.mem_flatMap.2 ⟨_,cQ fF lH 1 (by decide),ht⟩)) h2 ⟨aRp,aMF⟩;rw [e1,e2]
def ovF:List (List Int):=[[0,0],[1,0],[1,1],[0,1]]
theorem aPh:jL ovY [ov1,ov2]=ovF:=by decide +kernel
theorem aGk:(Sh.f ovY).O.length=4:=by decide +kernel
def ovT:List gz:=[(0,0),(0,1),(1,0),(1,1)]
theorem aSz {ts:List gz} (h:a3f ovF 0 1 ts):ts=ovT:=by
 refine a5G (lt:=lK) (fun x h=>by unfold lK at h;omega) (fun h1 h2=>by unfold lK at *;omega) h.rV ?_ fun p=>?_
 ·unfold ovT lK;simp
 ·rw [h.mem]
  constructor
  ·rintro⟨j,hj,rfl⟩
   have h:j=0∨j=1∨j=2∨j=3:=by have:j<4:=hj;omega
   rcases h with rfl|rfl|rfl|rfl <;> decide
  ·intro hp
   unfold ovT at hp;simp only [List.mem_cons,List.not_mem_nil,or_false] at hp
   rcases hp with rfl|rfl|rfl|rfl
   ·exact⟨0,by decide,rfl⟩
   ·exact⟨3,by decide,rfl⟩
   ·exact⟨1,by decide,rfl⟩
   ·exact⟨2,by decide,rfl⟩
theorem aAr (a b c d:Int) (w:World):(Op.equalIn 10000 84 (.agg #[.int .i64 a,.int .i64 b]) (.agg #[.int .i64 c,.int .i64 d])).run prog w=.ok (decide (a=c) && decide (b=d)) w:=by
 have a3:=isAgg3;have z3:=sizeOf3;obtain⟨i,hi,_⟩:=info_parts tQ;have hc:prog.cellsOf 3=1:=by kernel_rfl
 rw [show 10000=9998+1+1 from rfl,run_equalIn_array w (9998+1) _ _ underlying84 hi,hc]
 have hcell:∀ (a b:Int),(Op.equalIn (9998+1) 3 (.int .i64 a) (.int .i64 b)).run prog w=.ok (decide (a=b)) w:=fun a b=>by
  have:=run_equalIn_int (P:=prog) w 9998 3 .i64 .i64 a b underlying3;rw [this]
  by_cases h:a=b <;> simp [h]
 generalize 9998=n at hcell;rw [show List.range 2=[0,1] from rfl];simp only [Op.eqItems];simp [part,a3,z3,hcell,hc]
 by_cases h1:a=c <;> by_cases h2:b=d <;> simp [h1,h2]
theorem aTZ (a b c d:Value):Instr.fill (fun i=>some (i*2,2)) ((Array.range (2*2)).map ((Value.agg #[.slice none 0 0,.slice none 0 0]).cells[· % (Value.agg #[.slice none 0 0,.slice none 0 0]).cells.size]!)) [(0,.agg #[a,b]),(1,.agg #[c,d])]=some #[a,b,c,d]:=by
 have hh:((Array.range (2*2)).map ((Value.agg #[.slice none 0 0,.slice none 0 0]).cells[· % (Value.agg #[.slice none 0 0,.slice none 0 0]).cells.size]!))=#[.slice none 0 0,.slice none 0 0,.slice none 0 0,.slice none 0 0]:=by
  apply Array.ext';simp [Array.range,List.ofFn_succ,Value.cells]
 rw [hh];simp [Instr.fill,Value.cells]
def sqZ (a b:Int):List Sz:=[⟨⟨a,a⟩,⟨b,a⟩⟩,⟨⟨b,a⟩,⟨b,b⟩⟩,⟨⟨b,b⟩,⟨a,b⟩⟩,⟨⟨a,b⟩,⟨a,a⟩⟩]
theorem aHq (a b:Int) (w:World) :
 Calls prog 60 #[.int .i64 a,.int .i64 b] w fun e w'=>∃ ad c,e=.returned (.slice ad 4 c)∧aA w w' [.aH (Old w) w,.row (.slice ad 4 c) 95 4 4 ((sqZ a b).flatMap sc)]:=by
 have hS:=aA.start w
 go_enter func60,ntmps60
 go_wp2_with (first|((with_reducible refine dV (T:=25) ?_);refine nc (k:=2) (z:=.agg #[.int .i64 0,.int .i64 0]) (len:=4) hS underlying25 sizeOf29 zeroValue29 (by decide) (by decide) (aNb _ _ _ _ _ _ _ _) (fun b7 wb7 hS=>?_);simp only [aD];simp only [aK] at hS))
 refine dB [.p 0,.p 1,.r 2,.p 3,.p 4,.r 5,.p 6,.p 7,.p 8,.r 9,.p 10,.p 11,.r 12,.p 13,.p 14,.p 15,.r 16,.p 17,.p 18,.r 19,.p 20,.p 21,.p 22,.r 23,.p 24,.p 25,.r 26,.p 27,.e 28,.p 29] [] hS fun w1 hS=>?_
 repeat (first|((with_reducible refine kM ?_);refine j3 rfl rfl (yZ (T:=25) (k:=2) underlying25 sizeOf29 rfl rfl (by decide) (by decide) ?_);simp only [aD];simp only [Nat.reduceMul,Nat.reduceAdd,Int.reduceToNat,Nat.zero_add])|(with_reducible first|refine tf 1 isAgg29 sizeOf29 ?_|refine bU ?_))
 refine aZ ?_
 ((with_reducible refine dV (T:=23) ?_);refine nc (k:=4) (z:=.agg #[.int .i64 0,.int .i64 0,.int .i64 0,.int .i64 0]) (len:=4) hS underlying23 sizeOf95 zeroValue95 (by decide) (by decide) (aNl _ _ _ _ _ _ _ _ _ _ _ _ _ _ _ _) (fun b8 xe hS=>?_);simp only [aD];simp only [aK] at hS)
 refine aX hS.sb ?_;refine aM ?_;refine bE ?_;have hS:=hS.uj (k:=4) (m:=4) 2 rfl rfl (by decide);simp only [aK] at hS;have hS:=hS.order [0,2,1] rfl;simp only [iw] at hS;have hS:=aA.sub hS (List.sublist_append_left [_,_] [_]);go_wp2;go_ret;exact⟨_,_,rfl,hS⟩
theorem aEo (w:World):Calls prog 23 #[] w fun e w'=>e=.returned (.bool true)∧Below w.heap.size w w':=by
 have hS:=aA.start w
 go_enter func23,ntmps23
 go_wp2_with (fail)
 refine (aHq 0 4 _).mono ?_;rintro e w1 ⟨lV,cp1,rfl,cU⟩;replace hS:=hS.import cU;simp only [aK] at hS;clear cU;simp only []
 go_wp2_with (fail)
 refine (aHq 2 6 _).mono ?_;rintro e w2 ⟨dU,gL,rfl,cU⟩;replace hS:=hS.import cU;simp only [aK] at hS;clear cU;simp only []
 go_wp2_with (first|((with_reducible refine dV (T:=62) ?_);refine nc (k:=2) (z:=.agg #[.slice none 0 0,.slice none 0 0]) (len:=2) hS underlying62 sizeOf65 zeroValue65 (by decide) (by decide) (aTZ _ _ _ _) (fun bl fX hS=>?_);simp only [aD];simp only [aK] at hS))
 have zC:=(hS.dn 1 rfl).bj;have hs2:=(hS.dn 2 rfl).bj;have hB:=hS.toBelow (by simp);have hR:=hS.uj (k:=2) (m:=2) 3 rfl rfl (by decide);simp only [List.set_cons_succ,List.set_cons_zero] at hR;obtain⟨bF,aCY⟩:∃ bF:List kr,bF=[⟨(lV,4,cp1),(none,0,0)⟩,⟨(dU,4,gL),(none,0,0)⟩]:=⟨_,rfl⟩;have hs3:bN fX (Old fX) 2 (.slice (some ⟨bl,0,none⟩) 2 2) bF.length (bF.flatMap fI):=by rw [aCY];exact (hR.dn 3 rfl).bj
 have a2c:jc fX (Old fX) bF lH:=by
  rw [aCY];refine⟨rfl,fun i hi=>?_,fun i hi=>?_⟩ <;> have h:i=0∨i=1:=(by have:i<2:=hi;omega) <;> rcases h with rfl|rfl
  ·exact zC
  ·exact hs2
  ·exact bN.nil _ _ _
  ·exact bN.nil _ _ _
 clear zC hs2 hR hS aCY;have hS:=aA.oI fX;have dY:=tb fX;refine (a57 _ _ _ bF lH _ (Old fX) (fun k h=>h) aQg hs3 a2c).mono ?_;rintro e w4 ⟨r,y0,ys,S',rfl,hq,jx,h0,iT,qi⟩;obtain⟨rfl,rfl⟩:=aPR h0 iT qi;have jn:=aJO ovY [ov1,ov2] (by rw [aGk];decide) (by rw [aGk];decide);rw [aPh] at jx jn;have kj:=hq.below;obtain⟨F,hF,hO,cK⟩:=hS.wV dY (fun k h=>h) hq;have hL:=jx.arr.live;have a4m:j8 w4 S' r.fa r.rF ovF:=jx.fK;clear hS hq h0 iT qi hs3 a2c jx;have hS:=cK;clear cK;obtain⟨g1,g2,g3,g4,r1,r2,r3,r4,r5,⟨fa,nf,cf⟩,ea,rs,prs,rF,rE⟩:=r;simp only at a4m;obtain rfl:nf=4:=a4m.n;simp only []
 go_wp2_with (with_reducible first|refine bH hS zeroValue67 fun b1 wb1 hS=>?_|refine aJ 1 hS sizeOf67 fun _ hS=>?_|refine bA 1 hS isAgg67 sizeOf67 ?_)
 refine (a1u ⟨g1,g2,g3,g4,r1,r2,r3,r4,r5,(fa,4,cf),ea,rs,prs,rF,rE⟩ ovF 0 1 _ S' (a4m.move (hS.da hF)) (aP.at hS hF) jn (by unfold bQ;omega) (by unfold bQ;omega)).mono ?_;rintro e w5 ⟨hq,fT⟩;rw [if_pos (by decide)] at fT;obtain⟨ac,cc,ts,rfl,fg,bh⟩:=fT;obtain rfl:=aSz fg;have wH:=aP.at hS hF;have hm5:=(a4m.move (hS.da hF)).move (fun k hk=>hq.below.block k (wH k hk));have aBp:=aA.gZ hS hO kj;have hB5:=aBp.trans (hq.below.mono aBp.size);obtain⟨F5,cG,ff,hS5⟩:=hS.a1l hF hq;have j4:=fun k h=>ff k (hO k h)
 have aKp:bN w5 F5 2 (.slice ac 4 cc) 4 (ovT.flatMap kB):=bh.weaken fun k hk=>cG k (.inr hk)
 have hmF:=hm5.wk fun k hk=>cG k (.inl hk)
 obtain⟨a0,n0,c0,iq,iz,oh⟩:=vo (i:=0) hmF (by decide);replace iz:Ints w5 F5 (.slice a0 n0 c0) [0,0]:=iz;have sh:bN w5 F5 1 (.slice fa 4 cf) 4 (rF.map sv):=hmF.sl;replace iq:((rF.map sv).drop (0*1)).take 1=[.slice a0 n0 c0]:=iq;have aPm:((ovT.flatMap kB).drop (0*2)).take 2=[.int .i64 0,.int .i64 0]:=rfl;have aSi:((ovT.flatMap kB).drop (3*2)).take 2=[.int .i64 1,.int .i64 1]:=rfl;have e4:ovT.length=4:=rfl;rw [e4];clear hS hq bh hm5 hmF oh a4m fg jn aBp ff hO wH;have hS:=hS5;clear hS5;simp only []
 go_wp2_with (with_reducible first|refine aU 1 hS isAgg35 ?_|refine iH underlying35 sizeOf22 sh iq fun bq oq bO=>?_|refine fP hS isAgg22 ?_)
 have hS:=hS.alloc (.cells #[.int .i64 0,.int .i64 0] 3 (0,0));simp only [aK] at hS;refine (wU a0 (some ⟨w5.heap.size,0,none⟩) c0 2 n0 2 [0,0] [0,0] _ (iz.arg hS (by simp)) (aI0 2 hS rfl (by unfold bQ;omega) (by unfold bQ;omega))).mono ?_;rintro e w6 ⟨rfl,hq⟩;have hS:=hS.fW dY hq.below;clear hq;have hd:decide (([0,0]:List Int)=[0,0])=true:=by decide
 rw [hd];have HE0:∀ w,(Op.equalIn 10000 84 (.agg #[.int .i64 0,.int .i64 0]) (.agg #[.int .i64 0,.int .i64 0])).run prog w=.ok true w:=fun w=>aAr 0 0 0 0 w
 have HE1:∀ w,(Op.equalIn 10000 84 (.agg #[.int .i64 1,.int .i64 1]) (.agg #[.int .i64 1,.int .i64 1])).run prog w=.ok true w:=fun w=>aAr 1 1 1 1 w
 simp only []
 go_wp2_with (with_reducible first|refine iH underlying80 sizeOf84 aKp aPm fun bq oq bO=>?_|refine iH underlying80 sizeOf84 aKp aSi fun bq oq bO=>?_|refine j9 hS isAgg84 sizeOf84 ?_)
 go_ret;have vf:=Below.mS (aA.gZ hS j4 hB5);exact⟨rfl,hB.trans (vf.mono hB.size)⟩
def mJ (l:List Bool):List Value:=l.map Value.bool
theorem aPZ (l:List Bool):(mJ l).length=l.length:=by simp [mJ]
theorem aO7 {l:List Bool} {i:Nat} {b:Bool} (hi:i<l.length) (h:nth false l i=b):(mJ l)[i]? = some (.bool b):=by
 rw [bS false l i hi] at h;simp [mJ,hi,h]
theorem aPK (l:List Bool) (i:Nat) (b:Bool):(mJ l).set i (.bool b)=mJ (l.set i b):=by simp [mJ,List.map_set]
section
variable {P:Program} {ops:Array Oper} {Q:Exit→Act→World→Prop} {rest:List Oper} {a:Act} {w w0:World} {H:List Chunk} {dst:Option Tmp} {x y:Operand} {ty T E:TypeId} {pos:String} {ak:Array Edge}
theorem aTp {n:Nat} {xv:Int} (hS:aA w0 w H) (hu:P.underlying T=some (.slice E)) (ky:(P.info? E).map (fun i=>(i.zero,i.size,i.bytes))=some (some (.bool false),1,1))
 (hx:a.eval x=.int .i64 xv) (hy:a.eval y=.int .i64 xv) (fL:xv=(n:Int)) (hn:n≤65536)
 (hk:∀ b w',aA w0 w' (H++[.row (.slice (some ⟨b,0,none⟩) n n) E 1 n (mJ (List.replicate n false))])→wpList P ops Q rest (a.put dst (.slice (some ⟨b,0,none⟩) n n)) w') :
 wpList P ops Q (⟨dst,.makeSlice T x y,ty,pos,ak,none⟩::rest) a w:=by
 subst fL;obtain⟨i,hi,hz,dJ,jm⟩:=info_parts ky;have hr:=run_make (P:=P) w T E i _ hu hi hz .i64 .i64 n n (by omega) (by omega) (by rw [jm];omega) (by omega)
 have hc:madeCells (Value.bool false).cells ((n:Int).toNat*i.size)=(mJ (List.replicate n false)).toArray:=by
  rw [dJ,Int.toNat_natCast,Nat.mul_one];apply Array.ext
  ·simp [madeCells,mJ]
  ·intro j h1 h2
   simp [madeCells,mJ,Value.cells,Nat.mod_one]
 rw [hc,Int.toNat_natCast] at hr;have hA:=hS.alloc (.cells (mJ (List.replicate n false)).toArray E (0,0));have hR:=hA.uj (k:=1) (m:=n) (g:=w.heap.size) (arr:=(mJ (List.replicate n false)).toArray) (Tb:=E) H.length (by simp) (by simp [mJ]) (by unfold maxLen;omega)
 have o9:aA w0 (w.alloc (.cells (mJ (List.replicate n false)).toArray E (0,0))) (H++[.row (.slice (some ⟨w.heap.size,0,none⟩) n n) E 1 n (mJ (List.replicate n false))]):=by
  simpa using hR
 refine lx (w':=w.alloc (.cells (mJ (List.replicate n false)).toArray E (0,0))) (v:=.slice (some ⟨w.heap.size,0,none⟩) n n) rfl ?_ (hk _ _ o9);simp only [execOp,hx,hy];simp [hr,go_sem]
end
theorem aGi {l:List Bool} {i:Nat} {b:Bool} (hi:i<l.length) (k:Nat):nth false (l.set i b) k=if k=i then b else nth false l k:=by
 unfold nth;simp only [List.getD_eq_getElem?_getD,List.getElem?_set]
 by_cases h:i=k
 ·subst h;simp [hi]
 ·have h2:¬ k=i:=fun e=>h e.symm
  simp [h,h2]
theorem aP3:(prog.info? 4).map (fun i=>(i.zero,i.size,i.bytes))=some (some (.bool false),1,1):=by kernel_rfl
theorem aQR (r:yr) (fs:List (List Int)) (la lb:Int) (ts:List gz) (a:Option Addr) (c:Nat) (w:World) (S:Nat→Prop) (hF:j8 w (Old w) r.fa r.rF fs) (bG:a4n fs) (h1:0≤la∧la<(po fs:Int)) (h2:0≤lb∧lb<(po fs:Int)) (hc:a3f fs la lb ts) (bh:bN w (Old w) 2 (.slice a ts.length c) ts.length (ts.flatMap kB)) :
 Calls prog 30 #[.agg #[.slice r.g1.1 r.g1.2.1 r.g1.2.2,.slice r.g2.1 r.g2.2.1 r.g2.2.2,.slice r.g3.1 r.g3.2.1 r.g3.2.2,.slice r.g4.1 r.g4.2.1 r.g4.2.2,.slice r.r1.1 r.r1.2.1 r.r1.2.2,.slice r.r2.1 r.r2.2.1 r.r2.2.2,.slice r.r3.1 r.r3.2.1 r.r3.2.2,.slice r.r4.1 r.r4.2.1 r.r4.2.2,.slice r.r5.1 r.r5.2.1 r.r5.2.2,.slice r.fa.1 r.fa.2.1 r.fa.2.2,.slice r.ea.1 r.ea.2.1 r.ea.2.2],.int .i64 la,.int .i64 lb,.slice a ts.length c] w fun e w'=>e=.returned (.bool true)∧Pure w S w' S:=by
 obtain⟨g1,g2,g3,g4,r1,r2,r3,r4,r5,⟨fa,nf,cf⟩,ea,_,_,rF,_⟩:=r;simp only at hF ⊢;obtain rfl:=hF.n;have sh:bN w (Old w) 1 (.slice fa fs.length cf) fs.length (rF.map sv):=hF.sl;have hle:=bG.len;have aW:=hc.len;have oE:=bG.row;have hlz:(la.toNat:Int)=la:=by omega
 have hmz:(lb.toNat:Int)=lb:=by omega
 have eJ:la.toNat<po fs:=by omega
 have gv:lb.toNat<po fs:=by omega
 replace bG:=Hd bG;replace oE:=Hd oE;replace hc:=Hd hc;have hS:=aA.start w
 go_enter func30,ntmps30
 go_wp2_with (with_reducible refine cI hS fun b4 zS hS=>?_)
 try try simp only [fA]
 go_loopw [9] (fun v9 wr=>∃ (i:Nat),1≤i∧(i≤ts.length∨i=1)∧v9=.int .i64 (i:Int)∧aA w wr [.aH (Old w) w,.aB b4 (.cells #[.slice g1.1 g1.2.1 g1.2.2,.slice g2.1 g2.2.1 g2.2.2,.slice g3.1 g3.2.1 g3.2.2,.slice g4.1 g4.2.1 g4.2.2,.slice r1.1 r1.2.1 r1.2.2,.slice r2.1 r2.2.1 r2.2.2,.slice r3.1 r3.2.1 r3.2.2,.slice r4.1 r4.2.1 r4.2.2,.slice r5.1 r5.2.1 r5.2.2,.slice fa fs.length cf,.slice ea.1 ea.2.1 ea.2.2] 67 (0,0))]) (fun v9 _=>ts.length - (intOf v9).toNat)
 case atStart=>exact⟨1,by omega,by omega,rfl,hS⟩
 case round =>
  clear hS;obtain⟨i,hi1,hi,rfl,hS⟩:=hrel
  by_cases dj:i<ts.length
  ·obtain⟨j,hj⟩:∃ j,j+1=i:=⟨i - 1,by omega⟩
   have gX:j<ts.length:=by omega
   have dF:=eS a01 fp dj;have vN:=eS a01 fp gX
   have uK:lK (nth fp ts j) (nth fp ts i):=by
    rw [bS fp ts _ dj,bS fp ts _ gX];exact List.pairwise_iff_getElem.1 hc.out.rV _ _ _ _ (by omega)
   obtain⟨⟨p1,p2⟩,hp⟩:∃ p,nth fp ts j=p:=⟨_,rfl⟩;obtain⟨⟨q1,q2⟩,hq⟩:∃ p,nth fp ts i=p:=⟨_,rfl⟩;rw [hp] at vN uK;rw [hq] at dF uK;replace vN:((ts.flatMap kB).drop (j*2)).take 2=[.int .i64 p1,.int .i64 p2]:=vN;replace dF:((ts.flatMap kB).drop (i*2)).take 2=[.int .i64 q1,.int .i64 q2]:=dF;have u1:IntKind.i64.wrap ((i:Int) - 1)=(j:Int):=w7;replace hj:=Hd hj;unfold lK at uK;simp only at uK;clear hp hq
   rcases uK with h|⟨rfl,h⟩
   ·have f1:decide (q1<p1)=false:=by simp;omega
    have f2:(p1 == q1)=false:=by simp;omega
    clear h;go_wp2;refine dB [.p 0,.p 1,.p 2,.p 3,.p 4,.r 5,.p 6,.p 7,.p 8,.p 9,.r 10,.p 11,.p 12,.p 13,.p 14,.p 15,.p 16,.p 17,.r 18,.p 19,.p 20,.p 21,.p 22,.r 23,.p 24,.p 25,.p 26,.p 27,.p 28,.p 29,.p 30,.r 31,.p 32,.p 33,.p 34,.p 35,.r 36,.p 37,.p 38,.p 39] [] hS fun w1 hS=>?_
    repeat (with_reducible first|refine gm ?_|refine e9 underlying80 sizeOf84 bh vN fun bq oq bO=>?_|refine e9 underlying80 sizeOf84 bh dF fun bq oq bO=>?_|refine pU 0 isAgg3 ?_|refine pU 1 isAgg3 ?_|refine bU ?_)
    refine bE ?_;go_wp2;go_roundw
    case rel=>exact⟨i+1,by omega,by omega,by simp,hS.sb⟩
    case measure=>simp [intOf];omega
   ·have f1:decide (p1<p1)=false:=by simp
    have f2:(p1 == p1)=true:=by simp
    have f3:decide (q2≤p2)=false:=by simp;omega
    clear h;go_wp2;refine dB [.p 0,.p 1,.p 2,.p 3,.p 4,.r 5,.p 6,.p 7,.p 8,.p 9,.r 10,.p 11,.p 12,.p 13,.p 14,.p 15,.p 16,.p 17,.r 18,.p 19,.p 20,.p 21,.p 22,.r 23,.p 24,.p 25,.p 26,.p 27,.p 28,.p 29,.p 30,.r 31,.p 32,.p 33,.p 34,.p 35,.r 36,.p 37,.p 38,.p 39] [] hS fun w1 hS=>?_
    repeat (with_reducible first|refine gm ?_|refine e9 underlying80 sizeOf84 bh vN fun bq oq bO=>?_|refine e9 underlying80 sizeOf84 bh dF fun bq oq bO=>?_|refine pU 0 isAgg3 ?_|refine pU 1 isAgg3 ?_|refine bU ?_)
    refine bE ?_;go_wp2;go_roundw
    case rel=>exact⟨i+1,by omega,by omega,by simp,hS.sb⟩
    case measure=>simp [intOf];omega
  ·clear hi1 hi
   have zU:decide ((i:Int)<(ts.length:Int))=false:=by simp;omega
   go_wp2_with (first|((with_reducible refine r7 (T:=139) ?_);refine aTp (n:=ts.length) (T:=139) (E:=4) hS underlying139 aP3 rfl rfl (by omega) (by omega) (fun g wg hS=>?_);simp only [aD];simp only [aK] at hS))
   clear zU
   try try simp only [fA]
   go_loopw [11] (fun v11 wr=>∃ (f:Nat) (U:List Bool),f≤fs.length∧v11=.int .i64 (f:Int)∧aA w wr [.aH (Old w) w,.aB b4 (.cells #[.slice g1.1 g1.2.1 g1.2.2,.slice g2.1 g2.2.1 g2.2.2,.slice g3.1 g3.2.1 g3.2.2,.slice g4.1 g4.2.1 g4.2.2,.slice r1.1 r1.2.1 r1.2.2,.slice r2.1 r2.2.1 r2.2.2,.slice r3.1 r3.2.1 r3.2.2,.slice r4.1 r4.2.1 r4.2.2,.slice r5.1 r5.2.1 r5.2.2,.slice fa fs.length cf,.slice ea.1 ea.2.1 ea.2.2] 67 (0,0)),.row (.slice (some ⟨g,0,none⟩) ts.length ts.length) 4 1 ts.length (mJ U)]∧U.length=ts.length∧∀ k,k<ts.length→(∃ j,j<f∧wa fs la lb j=nth fp ts k)→nth false U k=true) (fun v11 _=>fs.length - (intOf v11).toNat)
   case atStart=>exact⟨0,List.replicate ts.length false,by omega,rfl,hS,by simp,fun k hk ⟨j,hj,_⟩=>by omega⟩
   case round =>
    clear hS dj;obtain⟨f,U,hf,rfl,hS,tX,hU⟩:=hrel;revert hS
    repeat (rename aA _ _ _=>hZ;clear hZ)
    intro hS;replace hU:=Hd hU
    by_cases dp:f<fs.length
    ·obtain⟨a1,n1,c1,ef,pO,eX⟩:=vo hF dp
     rw [oE.out f dp] at eX;subst eX;have xV:wa fs la lb f=(nth 0 (nth [] fs f) la.toNat,nth 0 (nth [] fs f) lb.toNat):=rfl;obtain⟨k1,fm⟩:∃ k,nth 0 (nth [] fs f) la.toNat=k:=⟨_,rfl⟩;obtain⟨k2,iE⟩:∃ k,nth 0 (nth [] fs f) lb.toNat=k:=⟨_,rfl⟩;rw [fm,iE] at xV;have j0:=(hc.out.mem (k1,k2)).2 ⟨f,dp,xV⟩;replace xV:=Hd xV;replace j0:=Hd j0;replace tX:=Hd tX
     go_wp2_with (with_reducible refine aU 1 hS isAgg35 ?_)
     try try simp only [fA]
     go_loopw [12,13] (fun v12 qQ wr=>∃ (i:Nat) (U:List Bool) (s:Bool),i≤ts.length∧qQ=.int .i64 (i:Int)∧v12=.bool s∧aA w wr [.aH (Old w) w,.aB b4 (.cells #[.slice g1.1 g1.2.1 g1.2.2,.slice g2.1 g2.2.1 g2.2.2,.slice g3.1 g3.2.1 g3.2.2,.slice g4.1 g4.2.1 g4.2.2,.slice r1.1 r1.2.1 r1.2.2,.slice r2.1 r2.2.1 r2.2.2,.slice r3.1 r3.2.1 r3.2.2,.slice r4.1 r4.2.1 r4.2.2,.slice r5.1 r5.2.1 r5.2.2,.slice fa fs.length cf,.slice ea.1 ea.2.1 ea.2.2] 67 (0,0)),.row (.slice (some ⟨g,0,none⟩) ts.length ts.length) 4 1 ts.length (mJ U)]∧U.length=ts.length∧(∀ k,k<ts.length→(∃ j,j<f∧wa fs la lb j=nth fp ts k)→nth false U k=true)∧(∀ k,k<i→nth fp ts k=(k1,k2)→nth false U k=true∧s=true)) (fun _ qQ _=>ts.length - (intOf qQ).toNat)
     case atStart=>exact⟨0,U,false,by omega,rfl,rfl,hS,tX.out,hU.out,fun k hk=>by omega⟩
     case round =>
      clear hS hU tX;obtain⟨i,U,s,hi,rfl,rfl,hS,tX,hU,hU2⟩:=hrel;revert hS
      repeat (rename aA _ _ _=>hZ;clear hZ)
      intro hS;replace hU:=Hd hU;replace hU2:=Hd hU2
      by_cases dj:i<ts.length
      ·have dF:=eS a01 fp dj
       obtain⟨⟨q1,q2⟩,hq⟩:∃ p,nth fp ts i=p:=⟨_,rfl⟩;rw [hq] at dF;replace dF:((ts.flatMap kB).drop (i*2)).take 2=[.int .i64 q1,.int .i64 q2]:=dF;replace hq:=Hd hq
       by_cases he:q1=k1∧q2=k2
       ·obtain⟨rfl,rfl⟩:=he
        replace fm:=Hd fm;replace iE:=Hd iE;have aYg:=fm.out;have aYv:=iE.out;have HE:∀ w,(Op.equalIn 10000 84 (.agg #[.int .i64 q1,.int .i64 q2]) (.agg #[.int .i64 q1,.int .i64 q2])).run prog w=.ok true w:=fun w=>by rw [aAr];simp
        go_wp2;refine dB [.p 0,.p 1,.p 2,.r 3,.p 4,.r 5,.p 6,.p 7,.r 8,.p 9,.p 10,.r 11,.p 12,.r 13,.p 14,.p 15,.r 16,.p 17,.p 18,.r 19,.p 20,.p 21] [] hS fun w1 hS=>?_
        repeat (with_reducible first|refine gm ?_|refine e9 underlying80 sizeOf84 bh dF fun bq oq bO=>?_|refine qE isAgg84 sizeOf84 ?_|refine cZ 1 isAgg35 ?_|refine e9 underlying35 sizeOf22 sh ef fun bq oq bO=>?_|refine eY isAgg22 ?_|refine jl underlying22 sizeOf3 fun _ _ _=>?_|refine eY isAgg3 ?_|refine bU ?_)
        refine bE ?_;have iF:=aPK U i true;have hUi:i<(mJ U).length:=by rw [aPZ];omega
        go_wp2_with (first|(with_reducible refine kW underlying139 sizeOf4 ?_)|((with_reducible refine gK (T:=4) ?_);refine a6k (T:=4) (v:=.bool true) 2 hS rfl rfl rfl hUi sizeOf4 rfl rfl (fun _ hS=>?_);simp only [aD];simp only [aK] at hS))
        go_roundw
        case rel=>exact⟨i+1,U.set i true,true,by omega,by simp,rfl,by rw [← iF];exact hS.sb,by simp [tX],fun k hk h=>by
         rw [aGi (by omega)]
         split
         ·rfl
         ·exact hU.out k hk h,fun k hk h=>by
         rw [aGi (by omega)];refine⟨?_,rfl⟩
         split
         ·rfl
         ·exact (hU2.out k (by omega) h).1⟩
        case measure=>simp [intOf];omega
       ·have HE:∀ w,(Op.equalIn 10000 84 (.agg #[.int .i64 q1,.int .i64 q2]) (.agg #[.int .i64 k1,.int .i64 k2])).run prog w=.ok false w:=fun w=>by
         have e:(decide (q1=k1) && decide (q2=k2))=false:=by
          rw [Bool.eq_false_iff];intro h;simp at h;exact he h
         rw [aAr,e]
        have hnq:(q1,q2)≠(k1,k2):=fun h=>he (by simpa using h)
        replace hnq:=Hd hnq;clear he;go_wp2;refine dB [.p 0,.p 1,.p 2,.r 3,.p 4,.r 5,.p 6,.p 7,.r 8,.p 9,.p 10,.r 11,.p 12,.r 13,.p 14,.p 15,.r 16,.p 17,.p 18,.r 19,.p 20,.p 21] [] hS fun w1 hS=>?_
        repeat (with_reducible first|refine gm ?_|refine e9 underlying80 sizeOf84 bh dF fun bq oq bO=>?_|refine qE isAgg84 sizeOf84 ?_|refine cZ 1 isAgg35 ?_|refine e9 underlying35 sizeOf22 sh ef fun bq oq bO=>?_|refine eY isAgg22 ?_|refine jl underlying22 sizeOf3 fun _ _ _=>?_|refine eY isAgg3 ?_|refine bU ?_)
        refine bE ?_;go_wp2;go_roundw
        case rel=>exact⟨i+1,U,s,by omega,by simp,rfl,hS.sb,tX,hU.out,fun k hk h=>by
         rcases Nat.lt_or_ge k i with aW|gB
         ·exact hU2.out k aW h
         ·obtain rfl:k=i:=by omega
          exact absurd (hq.out.symm.trans h) hnq.out⟩
        case measure=>simp [intOf];omega
      ·obtain rfl:i=ts.length:=by omega
       have hs:s=true:=by
        obtain⟨k,hk,e⟩:=List.getElem_of_mem j0.out;exact (hU2.out k hk (by rw [bS fp ts k hk];exact e)).2
       subst hs;go_wp2;go_roundw
       case rel=>exact⟨f+1,U,by omega,by simp,hS.sb,tX,fun k hk ⟨j,hj,e⟩=>by
        rcases Nat.lt_or_ge j f with aW|gB
        ·exact hU.out k hk ⟨j,aW,e⟩
        ·obtain rfl:j=f:=by omega
         exact (hU2.out k hk (by rw [← e];exact xV.out)).1⟩
       case measure=>simp [intOf];omega
    ·obtain rfl:f=fs.length:=by omega
     have a0U:∀ k,k<ts.length→nth false U k=true:=fun k hk=>by
      obtain⟨j,hj,e⟩:=(hc.out.mem (nth fp ts k)).1 (cQ fp ts k hk);exact hU.out k hk ⟨j,hj,e⟩
     replace a0U:=Hd a0U
     go_wp2_with (with_reducible refine aU 1 hS isAgg35 ?_)
     try try simp only [fA]
     go_loopw [14] (fun v14 wr=>∃ (i:Nat),i≤ts.length∧v14=.int .i64 (i:Int)∧aA w wr [.aH (Old w) w,.aB b4 (.cells #[.slice g1.1 g1.2.1 g1.2.2,.slice g2.1 g2.2.1 g2.2.2,.slice g3.1 g3.2.1 g3.2.2,.slice g4.1 g4.2.1 g4.2.2,.slice r1.1 r1.2.1 r1.2.2,.slice r2.1 r2.2.1 r2.2.2,.slice r3.1 r3.2.1 r3.2.2,.slice r4.1 r4.2.1 r4.2.2,.slice r5.1 r5.2.1 r5.2.2,.slice fa fs.length cf,.slice ea.1 ea.2.1 ea.2.2] 67 (0,0)),.row (.slice (some ⟨g,0,none⟩) ts.length ts.length) 4 1 ts.length (mJ U)]) (fun v14 _=>ts.length - (intOf v14).toNat)
     case atStart=>exact⟨0,by omega,rfl,hS⟩
     case round =>
      clear hS;obtain⟨i,hi,rfl,hS⟩:=hrel
      by_cases dj:i<ts.length
      ·have hgi:=aO7 (by omega) (a0U.out i dj)
       go_wp2_with (first|(with_reducible refine kW underlying139 sizeOf4 ?_)|((with_reducible refine dq (T:=4) ?_);refine dI hS rfl (yy (T:=4) 2 isAgg4 rfl rfl hgi ?_);simp only [aD]))
       go_roundw
       case rel=>exact⟨i+1,by omega,by simp,hS.sb⟩
       case measure=>simp [intOf];omega
      ·obtain rfl:i=ts.length:=by omega
       go_wp2;go_ret;exact⟨rfl,hS.pure S⟩
end Go.Hp
