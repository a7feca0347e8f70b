/- Texts for the walk of the law: M6 M7 SQ FT LY M13 M8 MA M9. -/
import Derived.Test.YtgaejkbkfoaaiaaGreatV13
import Derived.Test.YtgaejkbkfoaaiaaGreatR12
set_option maxRecDepth 100000
set_option maxHeartbeats 16000000
set_option linter.unusedVariables false
set_option linter.unusedSimpArgs false
namespace Go.Hp
open Go Go.RowKit Go.Proofs.Tryz
theorem equalT (a b:P3) (w:World):(Op.equalIn 10000 117 (.agg #[.int .i64 a.x,.int .i64 a.y,.int .i64 a.d]) (.agg #[.int .i64 b.x,.int .i64 b.y,.int .i64 b.d])).run prog w=.ok (decide (a=b)) w:=by
 obtain⟨x,y,z⟩:=a;obtain⟨u,v,t⟩:=b;have he:((⟨x,y,z⟩:P3)=⟨u,v,t⟩)↔(x=u∧y=v∧z=t):=by simp
 simp only [he]
 by_cases h1:x=u
 ·by_cases h2:y=v
  ·by_cases h3:z=t
   ·subst h1 h2 h3
    go_simp
   ·go_simp
  ·go_simp
 ·go_simp
theorem infoT:(prog.info? 117).map (fun i=>(i.zero,i.size,i.bytes))=some (some (.agg #[.int .i64 0,.int .i64 0,.int .i64 0]),3,24):=by kernel_rfl
theorem put08_any (ad:Option Addr) (n c:Nat) (l:List P3) (p:P3) (w:World) (S:Nat→Prop) (hL:aP w S) (hv:bN w S 3 (.slice ad n c) l.length (l.flatMap tcQ)) (hl:TL l) (hp:p.ok∧p.bd) (hle:l.length≤100000) :
 Calls prog 58 #[.slice ad n c,.agg #[.int .i64 p.x,.int .i64 p.y,.int .i64 p.d]] w fun e w'=>∃ gD n' c' l' S',e=.returned (.slice gD n' c')∧Pure w S w' S'∧bN w' S' 3 (.slice gD n' c') l'.length (l'.flatMap tcQ)∧TL l'∧(∀ x,x ∈ l'↔x ∈ l∨x=p)∧l'.length≤l.length+1:=by
 obtain rfl:n=l.length:=by obtain⟨h1,a,cap,h2,_⟩:=hv;cases h2;rfl
 have nF:bN w (Old w) 3 _ _ _:=hv.weaken hL
 have aXb:l.length≤c:=by
  obtain⟨_,a,cap,h2,h3,_⟩:=hv;simp only [Value.slice.injEq] at h2;omega
 replace hl:=Hd hl;obtain⟨hS,aC,bC,bD⟩:=eR hL
 go_enter func58,ntmps58
 go_wp2_with (with_reducible refine cI hS fun bx cu hS=>?_)
 go_loopw [5] (fun v wr=>∃ k:Nat,k≤l.length∧v=.int .i64 (k:Int)∧aA w wr [.aH (Old w) w,.aB bx (.cells #[.int .i64 p.x,.int .i64 p.y,.int .i64 p.d] 117 (0,0))]∧∀ j,j<k→(nth tp0 l j).pt.lt p.pt) (fun v _=>l.length - (intOf v).toNat)
 case atStart=>exact⟨0,by omega,rfl,hS,fun j hj=>by omega⟩
 case round =>
  clear hS;obtain⟨k,hk,rfl,hS,dg⟩:=hrel;replace dg:=Hd dg
  by_cases cW:k<l.length
  ·obtain⟨q,hq⟩:∃ q,nth tp0 l k=q:=⟨_,rfl⟩
   have hc:=eS tc_len tp0 cW;rw [hq] at hc;replace hc:((l.flatMap tcQ).drop (k*3)).take 3=[.int .i64 q.x,.int .i64 q.y,.int .i64 q.d]:=hc;have hqo:=hl.out.ok q (by rw [← hq];exact cQ tp0 l k cW);have cm:=fun w=>cmp05_any q p w hqo.2 hp.2
   have aA6:=cmp3_low q p;rw [← P3.lt_iff hqo.1 hp.1] at aA6;obtain⟨r,hr⟩:∃ r,cmp3 q p=r:=⟨_,rfl⟩;simp only [hr] at cm;rw [hr] at aA6;have hins:=fun h1 h2=>hl.out.insert hp (show k≤l.length by omega) dg.out h1 h2
   rw [hq] at hins
   by_cases aW:q.pt.lt p.pt
   ·have eo:decide (r<0)=true:=by simpa using aA6.2 aW
    have yB:∀ j,j<k+1→(nth tp0 l j).pt.lt p.pt:=fun j hj=>by
     by_cases e:j=k
     ·subst e;rw [hq];exact aW
     ·exact dg.out j (by omega)
    replace yB:=Hd yB;clear hq hqo aA6 hr hins aW;go_wp2;refine dB [.p 0,.p 1,.p 2,.p 3,.p 4,.p 5,.p 6,.p 7,.r 8,.r 9,.e 10,.p 11,.p 12] [] hS fun w1 hS=>?_
    have hC:=hS
    repeat (with_reducible first|refine gm ?_|refine e9 underlying29 sizeOf117 nF hc fun bq oq bO=>?_|refine qE isAgg117 sizeOf117 ?_|refine cz 1 isAgg117 sizeOf117 ?_|refine bU ?_)
    refine aZ ?_
    go_wp2_with (fail)
    refine (cm _).mono ?_;rintro e w' ⟨rfl,hq⟩;simp only [];go_step;have hS:=hS.below hq.below hq.drawn;have hC:=hC.below hq.below hq.drawn;refine aX hC ?_;refine aM ?_;refine bE ?_;clear hC;go_wp2;go_roundw
    case rel=>exact⟨k+1,by omega,by simp,hS,yB.out⟩
    case measure=>simp [intOf];omega
   ·have eo:decide (r<0)=false:=by simpa using fun h=>aW (aA6.1 h)
    replace hins:=Hd (fun h=>hins (fun _=>aW) h);have HE:∀ w,(Op.equalIn 10000 117 (.agg #[.int .i64 q.x,.int .i64 q.y,.int .i64 q.d]) (.agg #[.int .i64 p.x,.int .i64 p.y,.int .i64 p.d])).run prog w=.ok (decide (q=p)) w:=fun w=>equalT q p w
    by_cases he:q=p
    ·have fH:decide (q=p)=true:=by simpa using he
     rw [fH] at HE;have j0:p ∈ l:=by rw [← he,← hq];exact cQ tp0 l k cW
     replace j0:=Hd j0;clear hq hqo aA6 hr hins aW he fH;go_wp2;refine dB [.p 0,.p 1,.p 2,.p 3,.p 4,.p 5,.p 6,.p 7,.r 8,.r 9,.e 10,.p 11,.p 12] [] hS fun w1 hS=>?_
     have hC:=hS
     repeat (with_reducible first|refine gm ?_|refine e9 underlying29 sizeOf117 nF hc fun bq oq bO=>?_|refine qE isAgg117 sizeOf117 ?_|refine cz 1 isAgg117 sizeOf117 ?_|refine bU ?_)
     refine aZ ?_
     go_wp2_with (fail)
     refine (cm _).mono ?_;rintro e w' ⟨rfl,hq⟩;simp only [];go_step;have hS:=hS.below hq.below hq.drawn;have hC:=hC.below hq.below hq.drawn;refine aX hC ?_;refine aM ?_;refine bE ?_;clear hC;go_wp2;refine dB [.p 0,.p 1,.p 2,.p 3,.p 4,.p 5,.p 6,.p 7,.r 8,.r 9,.p 10,.p 11] [] hS fun w1 hS=>?_
     repeat (with_reducible first|refine gm ?_|refine e9 underlying29 sizeOf117 nF hc fun bq oq bO=>?_|refine qE isAgg117 sizeOf117 ?_|refine cz 1 isAgg117 sizeOf117 ?_|refine bU ?_)
     refine bE ?_;go_wp2;go_ret;exact⟨ad,l.length,c,l,S,rfl,hS.pure S,hv.at hS aC,hl.out,fun x=>⟨.inl,fun h=>h.elim id (fun e=>e ▸ j0.out)⟩,by omega⟩
    ·have fH:decide (q=p)=false:=by simpa using he
     rw [fH] at HE;have hins2:=hins.out (fun h=>he h.2);replace hins2:=Hd hins2;clear hq hqo aA6 hr hins aW he fH;obtain⟨a1,c1,e1⟩:∃ a1 c1,sG ad c 0 k 3=.slice a1 k c1:=⟨_,_,rfl⟩;obtain⟨a2,c2,e2⟩:∃ a2 c2,sG ad c k l.length 3=.slice a2 (l.length - k) c2:=⟨_,_,rfl⟩;have n1:=nF.sub (j:=0) (m:=k) (by omega) (by omega);have n2:=nF.sub (j:=k) (m:=l.length) (by omega) (by omega);rw [e1,a29 tc_len,Nat.zero_mul,List.drop_zero] at n1;rw [e2,a29 tc_len,List.take_length,a8P tc_len] at n2;replace e1:=Hd e1;replace e2:=Hd e2;go_wp2;refine dB [.p 0,.p 1,.p 2,.p 3,.p 4,.p 5,.p 6,.p 7,.r 8,.r 9,.e 10,.p 11,.p 12] [] hS fun w1 hS=>?_
     have hC:=hS
     repeat (with_reducible first|refine gm ?_|refine e9 underlying29 sizeOf117 nF hc fun bq oq bO=>?_|refine qE isAgg117 sizeOf117 ?_|refine cz 1 isAgg117 sizeOf117 ?_|refine bU ?_)
     refine aZ ?_
     go_wp2_with (fail)
     refine (cm _).mono ?_;rintro e w' ⟨rfl,hq⟩;simp only [];go_step;have hS:=hS.below hq.below hq.drawn;have hC:=hC.below hq.below hq.drawn;refine aX hC ?_;refine aM ?_;refine bE ?_;clear hC;go_wp2;refine dB [.p 0,.p 1,.p 2,.p 3,.p 4,.p 5,.p 6,.p 7,.r 8,.r 9,.p 10,.p 11] [] hS fun w1 hS=>?_
     repeat (with_reducible first|refine gm ?_|refine e9 underlying29 sizeOf117 nF hc fun bq oq bO=>?_|refine qE isAgg117 sizeOf117 ?_|refine cz 1 isAgg117 sizeOf117 ?_|refine bU ?_)
     refine bE ?_;have hS:=hS.iB 117 3;simp only [aK] at hS
     go_wp2_with (first|((with_reducible refine tD (T:=29) ?_);refine ck rfl (aGn (T:=29) (m:=k) underlying29 sizeOf117 rfl rfl rfl (by omega) e1.out ?_);simp only [aD])|((with_reducible refine tD (T:=29) ?_);refine ck rfl (aMr (T:=29) (j:=k) underlying29 sizeOf117 rfl rfl rfl (by omega) e2.out ?_);simp only [aD])|(with_reducible refine bA 1 hS isAgg117 sizeOf117 ?_)|((with_reducible refine dV (T:=29) ?_);refine fZ (T:=29) (v:=.agg #[.int .i64 _,.int .i64 _,.int .i64 _]) hS underlying29 sizeOf117 zeroValue117 rfl rfl rfl (by decide) (by decide) rfl (fun bl fX hS=>?_);simp only [aD];simp only [Value.cells] at hS)|((with_reducible refine eG ?_);refine fw (t:=29) 2 hS underlying29 infoT rfl (by decide) rfl rfl rfl rfl (by simp [Value.oneCell']) (by omega) (by unfold maxLen;omega) (fun _ _ _ hS=>?_);simp only [aD];simp only [aK] at hS)|((with_reducible refine eG ?_);refine uA (t:=29) 2 hS underlying29 infoT rfl (by decide) rfl rfl rfl n1 (by simp) (tc_one _) (by omega) (by unfold maxLen;omega) (fun _ _ _ hS=>?_);simp only [aD];simp only [aK] at hS;try simp only [Nat.zero_add,List.nil_append] at hS ⊢)|((with_reducible refine eG ?_);refine uA (t:=29) 2 hS underlying29 infoT rfl (by decide) rfl rfl rfl n2 (by simp) (tc_one _) (by omega) (by unfold maxLen;omega) (fun _ _ _ hS=>?_);simp only [aD];simp only [aK] at hS))
     go_ret;have kI:(l.take (k)++p::l.drop (k)).flatMap tcQ=(l.take (k)).flatMap tcQ++tcQ p++(l.drop (k)).flatMap tcQ:=by simp
     have hlen:(l.take (k)++p::l.drop (k)).length=(k)+1+(l.length - (k)):=by first|(simp;done)|(simp;omega)
     have bh:=hS.dn 2 rfl;refine⟨_,_,_,l.take (k)++p::l.drop (k),_,rfl,hS.a5W bC aC bD (bW (i:=1) rfl),?_,hins2.out.1,hins2.out.2,by rw [hlen];omega⟩;rw [hlen,kI];exact bh.weaken fun k h=>.inr h
  ·obtain rfl:k=l.length:=by omega
   have hins2:=hl.out.insert hp (Nat.le_refl _) dg.out (fun h=>absurd h (Nat.lt_irrefl _)) (fun h=>absurd h.1 (Nat.lt_irrefl _));replace hins2:=Hd hins2;obtain⟨a1,c1,e1⟩:∃ a1 c1,sG ad c 0 l.length 3=.slice a1 l.length c1:=⟨_,_,rfl⟩;obtain⟨a2,c2,e2⟩:∃ a2 c2,sG ad c l.length l.length 3=.slice a2 (l.length - l.length) c2:=⟨_,_,rfl⟩;have n1:=nF.sub (j:=0) (m:=l.length) (by omega) (by omega);have n2:=nF.sub (j:=l.length) (m:=l.length) (by omega) (by omega);rw [e1,a29 tc_len,Nat.zero_mul,List.drop_zero] at n1;rw [e2,a29 tc_len,List.take_length,a8P tc_len] at n2;replace e1:=Hd e1;replace e2:=Hd e2;go_wp2;refine dB [.p 0,.p 1,.p 2,.p 3,.p 4,.p 5,.p 6,.p 7,.r 8,.r 9,.e 10,.p 11,.p 12] [] hS fun w1 hS=>?_
   have hC:=hS;refine aM ?_;refine aZ ?_;refine sf rfl ?_;refine aX hC ?_;refine aM ?_;refine bE ?_;clear hC;go_wp2;refine dB [.p 0,.p 1,.p 2,.p 3,.p 4,.p 5,.p 6,.p 7,.r 8,.r 9,.p 10,.p 11] [] hS fun w1 hS=>?_
   refine aM ?_;refine bE ?_;have hS:=hS.iB 117 3;simp only [aK] at hS
   go_wp2_with (first|((with_reducible refine tD (T:=29) ?_);refine ck rfl (aGn (T:=29) (m:=l.length) underlying29 sizeOf117 rfl rfl rfl (by omega) e1.out ?_);simp only [aD])|((with_reducible refine tD (T:=29) ?_);refine ck rfl (aMr (T:=29) (j:=l.length) underlying29 sizeOf117 rfl rfl rfl (by omega) e2.out ?_);simp only [aD])|(with_reducible refine bA 1 hS isAgg117 sizeOf117 ?_)|((with_reducible refine dV (T:=29) ?_);refine fZ (T:=29) (v:=.agg #[.int .i64 _,.int .i64 _,.int .i64 _]) hS underlying29 sizeOf117 zeroValue117 rfl rfl rfl (by decide) (by decide) rfl (fun bl fX hS=>?_);simp only [aD];simp only [Value.cells] at hS)|((with_reducible refine eG ?_);refine fw (t:=29) 2 hS underlying29 infoT rfl (by decide) rfl rfl rfl rfl (by simp [Value.oneCell']) (by omega) (by unfold maxLen;omega) (fun _ _ _ hS=>?_);simp only [aD];simp only [aK] at hS)|((with_reducible refine eG ?_);refine uA (t:=29) 2 hS underlying29 infoT rfl (by decide) rfl rfl rfl n1 (by simp) (tc_one _) (by omega) (by unfold maxLen;omega) (fun _ _ _ hS=>?_);simp only [aD];simp only [aK] at hS;try simp only [Nat.zero_add,List.nil_append] at hS ⊢)|((with_reducible refine eG ?_);refine uA (t:=29) 2 hS underlying29 infoT rfl (by decide) rfl rfl rfl n2 (by simp) (tc_one _) (by omega) (by unfold maxLen;omega) (fun _ _ _ hS=>?_);simp only [aD];simp only [aK] at hS))
   go_ret;have kI:(l.take (l.length)++p::l.drop (l.length)).flatMap tcQ=(l.take (l.length)).flatMap tcQ++tcQ p++(l.drop (l.length)).flatMap tcQ:=by simp
   have hlen:(l.take (l.length)++p::l.drop (l.length)).length=(l.length)+1+(l.length - (l.length)):=by first|(simp;done)|(simp;omega)
   have bh:=hS.dn 2 rfl;refine⟨_,_,_,l.take (l.length)++p::l.drop (l.length),_,rfl,hS.a5W bC aC bD (bW (i:=1) rfl),?_,hins2.out.1,hins2.out.2,by rw [hlen];omega⟩;rw [hlen,kI];exact bh.weaken fun k h=>.inr h
theorem aNb (a b c d e f g h:Value):Instr.fill (fun i=>some (i*2,2)) ((Array.range (4*2)).map ((Value.agg #[.int .i64 0,.int .i64 0]).cells[· % (Value.agg #[.int .i64 0,.int .i64 0]).cells.size]!)) [(0,.agg #[a,b]),(1,.agg #[c,d]),(2,.agg #[e,f]),(3,.agg #[g,h])]=some #[a,b,c,d,e,f,g,h]:=by
 have hh:((Array.range (4*2)).map ((Value.agg #[.int .i64 0,.int .i64 0]).cells[· % (Value.agg #[.int .i64 0,.int .i64 0]).cells.size]!))=#[.int .i64 0,.int .i64 0,.int .i64 0,.int .i64 0,.int .i64 0,.int .i64 0,.int .i64 0,.int .i64 0]:=by
  apply Array.ext';simp [Array.range,List.ofFn_succ,Value.cells]
 rw [hh];simp [Instr.fill,Value.cells]
theorem P3.make_bd {x y d:Int} (hx:x.natAbs<1073741824) (hy:y.natAbs<1073741824) (hd:d.natAbs<1073741824):(P3.make x y d).bd:=by
 unfold P3.make P3.bd
 have e:∀ (s z:Int) (g:Nat),(s = -1∨s=1)→(s*z / (g:Int)).natAbs≤z.natAbs:=by
  intro s z g hs;have h1:=a1i (s*z) g;have h2:(s*z).natAbs=z.natAbs:=by rcases hs with rfl|rfl <;> simp
  omega
 have hs:(if d<0 then (-1:Int) else 1) = -1∨(if d<0 then (-1:Int) else 1)=1:=by split <;> simp
 refine⟨?_,?_,?_⟩
 ·have:=e _ x (g3 x y d) hs;simp only at this ⊢;omega
 ·have:=e _ y (g3 x y d) hs;simp only at this ⊢;omega
 ·have:=e _ d (g3 x y d) hs;simp only at this ⊢;omega
theorem P3.of_bd {x y:Int} (hx:smC x) (hy:smC y):(P3.of x y).bd:=by
 unfold smC at hx hy;unfold P3.of P3.bd;simp only;omega
def TRes (w:World) (S:Nat→Prop) (M:List Pt) (e:Ending) (w':World):Prop:=∃ (ad:Option Addr) (n c:Nat) (l:List P3) (S':Nat→Prop),e=.returned (.slice ad n c)∧Pure w S w' S'∧bN w' S' 3 (.slice ad n c) l.length (l.flatMap tcQ)∧TL l∧(∀ q,q ∈ l.map P3.pt↔q ∈ M)∧l.length≤4
theorem cuts08_any (s t:Sz) (w:World) (S:Nat→Prop) (hL:aP w S) (hs:s.sm) (ht:t.sm) :
 Calls prog 60 #[.agg #[.int .i64 s.a.x,.int .i64 s.a.y,.int .i64 s.b.x,.int .i64 s.b.y],.agg #[.int .i64 t.a.x,.int .i64 t.a.y,.int .i64 t.b.x,.int .i64 t.b.y]] w (TRes w S (a5B s.sg t.sg)):=by
 have on1:=fun p w hp hd=>on08_any s p w hs hp hd
 have on2:=fun p w hp hd=>on08_any t p w ht hp hd
 obtain⟨M,hM⟩:∃ M,a5B s.sg t.sg=M:=⟨_,rfl⟩;rw [hM];unfold a5B at hM;obtain⟨⟨ax,ay⟩,⟨bx,by'⟩⟩:=s;obtain⟨⟨cx,cy⟩,⟨ex,ey⟩⟩:=t;obtain⟨⟨a1,a2⟩,b1,b2⟩:=hs;obtain⟨⟨c1,c2⟩,e1,e2⟩:=ht;simp only at a1 a2 b1 b2 c1 c2 e1 e2;have a1':=a1;have a2':=a2;have b1':=b1;have b2':=b2;have c1':=c1;have c2':=c2;have e1':=e1;have e2':=e2;unfold smC at a1 a2 b1 b2 c1 c2 e1 e2;have w1:IntKind.i64.wrap (bx - ax)=bx - ax:=Go.Hp.w6;have w2:IntKind.i64.wrap (by' - ay)=by' - ay:=Go.Hp.w6
 have w3:IntKind.i64.wrap (ex - cx)=ex - cx:=Go.Hp.w6;have w4:IntKind.i64.wrap (ey - cy)=ey - cy:=Go.Hp.w6;have w5:IntKind.i64.wrap (cx - ax)=cx - ax:=Go.Hp.w6;have w6:IntKind.i64.wrap (cy - ay)=cy - ay:=Go.Hp.w6;have m1:=mul_bdk (a:=bx - ax) (b:=ey - cy) (m:=200) (n:=200) (by omega) (by omega);have m2:=mul_bdk (a:=by' - ay) (b:=ex - cx) (m:=200) (n:=200) (by omega) (by omega);have m3:=mul_bdk (a:=cx - ax) (b:=ey - cy) (m:=200) (n:=200) (by omega) (by omega);have m4:=mul_bdk (a:=cy - ay) (b:=ex - cx) (m:=200) (n:=200) (by omega) (by omega);have w7:IntKind.i64.wrap ((bx - ax)*(ey - cy))=(bx - ax)*(ey - cy):=Go.Hp.w6;have w8:IntKind.i64.wrap ((by' - ay)*(ex - cx))=(by' - ay)*(ex - cx):=Go.Hp.w6;have w9:IntKind.i64.wrap ((cx - ax)*(ey - cy))=(cx - ax)*(ey - cy):=Go.Hp.w6;have w10:IntKind.i64.wrap ((cy - ay)*(ex - cx))=(cy - ay)*(ex - cx):=Go.Hp.w6;obtain⟨d,hd⟩:∃ d,d=(bx - ax)*(ey - cy) - (by' - ay)*(ex - cx):=⟨_,rfl⟩;obtain⟨n,hn⟩:∃ n,n=(cx - ax)*(ey - cy) - (cy - ay)*(ex - cx):=⟨_,rfl⟩;have w11:IntKind.i64.wrap ((bx - ax)*(ey - cy) - (by' - ay)*(ex - cx))=d:=by rw [hd];exact Go.Hp.w6
 have w12:IntKind.i64.wrap ((cx - ax)*(ey - cy) - (cy - ay)*(ex - cx))=n:=by rw [hn];exact Go.Hp.w6
 have bd:d.natAbs≤80000:=by omega
 have bn:n.natAbs≤80000:=by omega
 have k1:=mul_bdk (a:=ax) (b:=d) (m:=100) (n:=80000) (by omega) bd;have k2:=mul_bdk (a:=bx - ax) (b:=n) (m:=200) (n:=80000) (by omega) bn;have k3:=mul_bdk (a:=ay) (b:=d) (m:=100) (n:=80000) (by omega) bd;have k4:=mul_bdk (a:=by' - ay) (b:=n) (m:=200) (n:=80000) (by omega) bn;have w13:IntKind.i64.wrap (ax*d)=ax*d:=Go.Hp.w6;have w14:IntKind.i64.wrap ((bx - ax)*n)=(bx - ax)*n:=Go.Hp.w6;have w15:IntKind.i64.wrap (ay*d)=ay*d:=Go.Hp.w6;have w16:IntKind.i64.wrap ((by' - ay)*n)=(by' - ay)*n:=Go.Hp.w6;have w17:IntKind.i64.wrap (ax*d+(bx - ax)*n)=ax*d+(bx - ax)*n:=Go.Hp.w6;have w18:IntKind.i64.wrap (ay*d+(by' - ay)*n)=ay*d+(by' - ay)*n:=Go.Hp.w6
 by_cases h0:d=0
 ·have hdt:(d == 0)=true:=by simp [h0]
  have hz:fJ (Sz.sg ⟨⟨ax,ay⟩,⟨bx,by'⟩⟩) (Sz.sg ⟨⟨cx,cy⟩,⟨ex,ey⟩⟩)=0:=(det_zero hd).2 h0;rw [if_neg (by simpa using hz)] at hM;obtain⟨ends,hends⟩:∃ ends:List Gp,ends=[⟨ax,ay⟩,⟨bx,by'⟩,⟨cx,cy⟩,⟨ex,ey⟩]:=⟨_,rfl⟩
  have uW:∀ g ∈ ends,smC g.x∧smC g.y:=by
   intro g hg;rw [hends] at hg;simp only [List.mem_cons,List.not_mem_nil,or_false] at hg
   rcases hg with rfl|rfl|rfl|rfl
   ·exact⟨a1',a2'⟩
   ·exact⟨b1',b2'⟩
   ·exact⟨c1',c2'⟩
   ·exact⟨e1',e2'⟩
  have hM2:M=(ends.map Gp.pt).filter (fun p=>decide (cj (Sz.sg ⟨⟨ax,ay⟩,⟨bx,by'⟩⟩) p) && decide (cj (Sz.sg ⟨⟨cx,cy⟩,⟨ex,ey⟩⟩) p)):=by
   rw [← hM,hends];simp only [Bool.decide_and]
   rfl
  have gV:ends.length=4:=by rw [hends];rfl
  have aEP:(ends.flatMap gc).toArray=#[.int .i64 ax,.int .i64 ay,.int .i64 bx,.int .i64 by',.int .i64 cx,.int .i64 cy,.int .i64 ex,.int .i64 ey]:=by rw [hends];rfl
  clear hM hz hends k1 k2 k3 k4 bd bn m1 m2 m3 m4 hn a1' a2' b1' b2' c1' c2' e1' e2' a1 a2 b1 b2 c1 c2 e1 e2 w13 w14 w15 w16 w17 w18 w12 w5 w6 w9 w10;subst h0;clear hd;replace hM2:=Hd hM2;replace aEP:=Hd aEP;obtain⟨hS,aC,bC,bD⟩:=eR hL
  go_enter func60,ntmps60
  repeat ((fail_if_success ((with_reducible refine g_box ?_)));go_step)
  (with_reducible refine bxO (T:=94) (v:=.agg _) hS fun b1 wb1 hS=>?_)
  repeat ((fail_if_success ((with_reducible refine g_box ?_)));go_step)
  (with_reducible refine bxO (T:=94) (v:=.agg _) hS fun b2 ri hS=>?_)
  go_wp2_with (first|(with_reducible first|refine aU 1 hS isAgg3 ?_|refine aU 2 hS isAgg3 ?_|refine eW 1 hS isAgg43 sizeOf43 ?_|refine eW 2 hS isAgg43 sizeOf43 ?_)|((with_reducible refine dV (T:=24) ?_);refine nc (k:=2) (z:=.agg #[.int .i64 0,.int .i64 0]) (len:=4) hS underlying24 sizeOf43 zeroValue43 (by decide) (by decide) (aNb _ _ _ _ _ _ _ _) (fun xY a62 hS=>?_);simp only [aD];simp only [aK] at hS))
  rw [← aEP.out] at hS
  go_loopw [12,14] (fun v12 v14 wr=>∃ (k:Nat) (F S':Nat→Prop) (wq:World) (ad:Option Addr) (n c:Nat) (l:List P3),k≤4∧v12=.slice ad n c∧v14=.int .i64 (k:Int)∧aA w wr [.aH F wq,.aB b1 (.cells #[.int .i64 ax,.int .i64 ay,.int .i64 bx,.int .i64 by'] 94 (0,0)),.aB b2 (.cells #[.int .i64 cx,.int .i64 cy,.int .i64 ex,.int .i64 ey] 94 (0,0)),.aB xY (.cells (ends.flatMap gc).toArray 43 (0,0))]∧(∀ k,S' k→F k)∧(∀ k,Old w k→F k)∧Pure w S wq S'∧bN wq S' 3 (.slice ad n c) l.length (l.flatMap tcQ)∧TL l∧Hid (∀ q,q ∈ l.map P3.pt↔q ∈ ((ends.take k).map Gp.pt).filter (fun p=>decide (cj (Sz.sg ⟨⟨ax,ay⟩,⟨bx,by'⟩⟩) p) && decide (cj (Sz.sg ⟨⟨cx,cy⟩,⟨ex,ey⟩⟩) p)))∧l.length≤k) (fun _ v14 _=>4 - (intOf v14).toNat)
  case atStart=>exact⟨0,_,S,_,none,0,0,[],by omega,rfl,rfl,hS,aC,bC,bD,bN.nil _ _ _,TL.nil,Hd (fun q=>by simp),by simp⟩
  case round =>
   clear hS aC bC bD;obtain⟨k,F0,S0,wq,ad,n,c,l,hk,rfl,rfl,hS,aC,bC,bD,bh,hl,j0,hlen⟩:=hrel
   by_cases cW:k<4
   ·obtain⟨g,hg⟩:∃ g,nth g0 ends k=g:=⟨_,rfl⟩
    have hc:=eS yT g0 (show k<ends.length by omega);rw [hg] at hc;have qm:=uW g (by rw [← hg];exact cQ g0 ends k (by omega));have eK:ends.take (k+1)=ends.take k++[g]:=by rw [← hg];exact nk g0 ends k (by omega)
    have h0b:k*2+2≤(ends.flatMap gc).toArray.size:=by rw [List.size_toArray,nB yT];omega
    have tu:=P3.of_bd qm.1 qm.2;have bG:=P3.of_ok g.x g.y;have hpt:(P3.of g.x g.y).pt=g.pt:=P3.of_pt g.x g.y;have o1:=fun w=>on1 (P3.of g.x g.y) w tu bG.1
    have o2:=fun w=>on2 (P3.of g.x g.y) w tu bG.1
    rw [hpt] at o1 o2;have hpa:=fun w' S' eM hv'=>put08_any ad n c l (P3.of g.x g.y) w' S' eM hv' hl ⟨bG,tu⟩ (by omega)
    obtain⟨r1,il⟩:∃ r1,decide (cj (Sz.sg ⟨⟨ax,ay⟩,⟨bx,by'⟩⟩) g.pt)=r1:=⟨_,rfl⟩;obtain⟨r2,cT⟩:∃ r2,decide (cj (Sz.sg ⟨⟨cx,cy⟩,⟨ex,ey⟩⟩) g.pt)=r2:=⟨_,rfl⟩;simp only [il] at o1;simp only [cT] at o2
    have gv:∀ q,q ∈ ((ends.take (k+1)).map Gp.pt).filter (fun p=>decide (cj (Sz.sg ⟨⟨ax,ay⟩,⟨bx,by'⟩⟩) p) && decide (cj (Sz.sg ⟨⟨cx,cy⟩,⟨ex,ey⟩⟩) p))↔q ∈ l.map P3.pt∨(q=g.pt∧(r1=true∧r2=true)):=by
     intro q;rw [eK,List.map_append,List.filter_append,List.mem_append,← j0.out q,List.map_cons,List.map_nil,List.mem_filter,List.mem_singleton,Bool.and_eq_true]
     constructor
     ·rintro (h|⟨rfl,h1,h2⟩)
      ·exact .inl h
      ·exact .inr ⟨rfl,by rw [← il,← cT];exact⟨h1,h2⟩⟩
     ·rintro (h|⟨rfl,h1,h2⟩)
      ·exact .inl h
      ·exact .inr ⟨rfl,by rw [il,cT];exact⟨h1,h2⟩⟩
    replace gv:=Hd gv;replace hpt:=Hd hpt;clear hg qm eK tu bG il cT j0
    go_wp2_with (first|((with_reducible refine du (T:=24) ?_);refine ck rfl (yZ (T:=24) underlying24 sizeOf43 rfl rfl (by omega) (by omega) ?_);simp only [aD];try simp only [Nat.zero_add,Int.toNat_natCast])|((with_reducible refine dq (T:=43) ?_);refine dI hS rfl (a5S (T:=43) 3 isAgg43 sizeOf43 rfl rfl h0b hc ?_);simp only [aD]))
    refine (of05_any g.x g.y _).mono ?_;rintro e w5 ⟨rfl,hq⟩;have hS:=hS.below hq.below hq.drawn;simp only []
    go_wp2_with (with_reducible first|refine bH hS zeroValue117 fun b15 aLr hS=>?_|refine aJ (u:=.agg #[_,_,_]) 4 hS sizeOf117 fun _ hS=>?_|refine bA 1 hS isAgg94 sizeOf94 ?_|refine bA 4 hS isAgg117 sizeOf117 ?_)
    refine (o1 _).mono ?_;rintro e w6 ⟨rfl,hq⟩;have hS:=hS.below hq.below hq.drawn;simp only [];cases r1
    ·go_wp2_with (first|((with_reducible refine dq (T:=94) ?_);refine sf rfl ?_;simp only [aD])|((with_reducible refine dq (T:=117) ?_);refine sf rfl ?_;simp only [aD]))
     go_roundw
     case rel=>exact⟨k+1,F0,S0,wq,ad,n,c,l,by omega,rfl,by simp,hS.sb,aC,bC,bD,bh,hl,Hd (fun q=>by rw [gv.out q];simp),by omega⟩
     case measure=>simp [intOf];omega
    ·go_wp2_with (with_reducible first|refine bA 2 hS isAgg94 sizeOf94 ?_|refine bA 4 hS isAgg117 sizeOf117 ?_)
     refine (o2 _).mono ?_;rintro e w7 ⟨rfl,hq⟩;have hS:=hS.below hq.below hq.drawn;simp only [];cases r2
     ·go_wp2
      go_roundw
      case rel=>exact⟨k+1,F0,S0,wq,ad,n,c,l,by omega,rfl,by simp,hS.sb,aC,bC,bD,bh,hl,Hd (fun q=>by rw [gv.out q];simp),by omega⟩
      case measure=>simp [intOf];omega
     ·go_wp2_with (with_reducible refine bA 4 hS isAgg117 sizeOf117 ?_)
      refine (hpa _ S0 (aP.at hS aC) (bh.at hS aC)).mono ?_;rintro e w8 ⟨dU,n2,c2,l2,S2,rfl,aR,aLv,eJ,hm3,yO⟩;replace hS:=hS.aj aC bC bD aR;obtain⟨F1,aG,-,bB,av,hS⟩:=hS;simp only []
      have hm4:∀ q,q ∈ l2.map P3.pt↔q ∈ l.map P3.pt∨q=g.pt:=by
       intro q;rw [← hpt.out];simp only [List.mem_map]
       constructor
       ·rintro⟨x,hx,rfl⟩
        rcases (hm3 x).1 hx with h|rfl
        ·exact .inl ⟨x,h,rfl⟩
        ·exact .inr rfl
       ·rintro (⟨x,hx,rfl⟩|rfl)
        ·exact⟨x,(hm3 x).2 (.inl hx),rfl⟩
        ·exact⟨_,(hm3 _).2 (.inr rfl),rfl⟩
      replace hm4:=Hd hm4;clear hm3;go_wp2;go_roundw
      case rel=>exact⟨k+1,F1,S2,_,dU,n2,c2,l2,by omega,rfl,by simp,hS.sb,aG,av,bB,aLv,eJ,Hd (fun q=>by rw [gv.out q,hm4.out q];simp),by omega⟩
      case measure=>simp [intOf];omega
   ·obtain rfl:k=4:=by omega
    go_wp2;go_ret;exact⟨ad,n,c,l,S0,rfl,bD.step hS bC aC,bh.at hS aC,hl,fun q=>by rw [hM2.out,j0.out q,List.take_of_length_le (by omega)],hlen⟩
 ·have hdf:(d == 0)=false:=by simp [h0]
  have mk:=fun w=>make05_any (ax*d+(bx - ax)*n) (ay*d+(by' - ay)*n) d w (by omega) (by omega) (by omega) h0
  have fg:=crossing_make (ax:=ax) (ay:=ay) (bx:=bx) (by':=by') (cx:=cx) (cy:=cy) (ex:=ex) (ey:=ey) hd hn h0;have bG:=(P3.make_ok (x:=ax*d+(bx - ax)*n) (y:=ay*d+(by' - ay)*n) h0).1;have tu:=P3.make_bd (x:=ax*d+(bx - ax)*n) (y:=ay*d+(by' - ay)*n) (d:=d) (by omega) (by omega) (by omega);obtain⟨Q,hQ⟩:∃ Q,P3.make (ax*d+(bx - ax)*n) (ay*d+(by' - ay)*n) d=Q:=⟨_,rfl⟩;rw [hQ] at fg bG tu;simp only [hQ] at mk;have o1:=fun w=>on1 Q w tu bG.1
  have o2:=fun w=>on2 Q w tu bG.1
  have bJ:fJ (Sz.sg ⟨⟨ax,ay⟩,⟨bx,by'⟩⟩) (Sz.sg ⟨⟨cx,cy⟩,⟨ex,ey⟩⟩)≠0:=fun h=>h0 ((det_zero hd).1 h)
  rw [if_pos bJ,show lz (Sz.sg ⟨⟨ax,ay⟩,⟨bx,by'⟩⟩) (Sz.sg ⟨⟨cx,cy⟩,⟨ex,ey⟩⟩)=Q.pt from fg.1.symm] at hM;obtain⟨r1,il⟩:∃ r1,decide (cj (Sz.sg ⟨⟨ax,ay⟩,⟨bx,by'⟩⟩) Q.pt)=r1:=⟨_,rfl⟩;obtain⟨r2,cT⟩:∃ r2,decide (cj (Sz.sg ⟨⟨cx,cy⟩,⟨ex,ey⟩⟩) Q.pt)=r2:=⟨_,rfl⟩;simp only [il] at o1;simp only [cT] at o2;have hTL:TL [Q]:=⟨fun p hp=>by rw [List.mem_singleton] at hp;subst hp;exact⟨bG,tu⟩,List.pairwise_singleton _ _⟩
  have hM2:M=if r1=true∧r2=true then [Q.pt] else []:=by
   rw [← hM,← il,← cT];simp only [decide_eq_true_eq]
  clear hM il cT bJ fg bG tu hQ on1 on2 k1 k2 k3 k4 bd bn m1 m2 m3 m4 hd hn a1' a2' b1' b2' c1' c2' e1' e2' a1 a2 b1 b2 c1 c2 e1 e2 h0;replace hM2:=Hd hM2;replace hTL:=Hd hTL;obtain⟨hS,aC,bC,bD⟩:=eR hL
  go_enter func60,ntmps60
  go_wp2_with (with_reducible first|refine bxO (T:=94) (v:=.agg _) hS fun b1 wb1 hS=>?_|refine aU 1 hS isAgg3 ?_|refine aU 2 hS isAgg3 ?_)
  refine (mk _).mono ?_;rintro e w1 ⟨rfl,hq⟩;have hS:=hS.below hq.below hq.drawn;simp only []
  go_wp2_with (with_reducible first|refine bH hS zeroValue117 fun b3 wb3 hS=>?_|refine aJ (u:=.agg #[_,_,_]) 3 hS sizeOf117 fun _ hS=>?_|refine bA 1 hS isAgg94 sizeOf94 ?_|refine bA 3 hS isAgg117 sizeOf117 ?_)
  refine (o1 _).mono ?_;rintro e w2 ⟨rfl,hq⟩;have hS:=hS.below hq.below hq.drawn;simp only [];cases r1
  ·go_wp2_with (first|((with_reducible refine dq (T:=94) ?_);refine sf rfl ?_;simp only [aD])|((with_reducible refine dq (T:=117) ?_);refine sf rfl ?_;simp only [aD]))
   go_ret;exact⟨none,0,0,[],S,rfl,hS.pure S,bN.nil _ _ _,TL.nil,fun q=>by rw [hM2.out];simp,by simp⟩
  ·go_wp2_with (with_reducible first|refine bA 2 hS isAgg94 sizeOf94 ?_|refine bA 3 hS isAgg117 sizeOf117 ?_)
   refine (o2 _).mono ?_;rintro e w3 ⟨rfl,hq⟩;have hS:=hS.below hq.below hq.drawn;simp only [];cases r2
   ·go_wp2
    go_ret;exact⟨none,0,0,[],S,rfl,hS.pure S,bN.nil _ _ _,TL.nil,fun q=>by rw [hM2.out];simp,by simp⟩
   ·go_wp2_with (first|(with_reducible refine bA 3 hS isAgg117 sizeOf117 ?_)|((with_reducible refine dV (T:=29) ?_);refine fZ (T:=29) (v:=.agg #[.int .i64 _,.int .i64 _,.int .i64 _]) hS underlying29 sizeOf117 zeroValue117 rfl rfl rfl (by decide) (by decide) rfl (fun bl fX hS=>?_);simp only [aD];simp only [Value.cells] at hS))
    go_ret;have bh:=bN.ve (k:=3) (n:=1) hS (bW (i:=4) rfl) rfl (by decide);exact⟨_,1,1,[Q],_,rfl,hS.a5W bC aC bD (bW (i:=3) rfl),bh.weaken (fun k h=>.inr h),hTL.out,fun q=>by rw [hM2.out];simp,by simp⟩
theorem fill4g (a b c d a2 b2 c2 d2 a3 b3 c3 d3 a4 b4 c4 d4:Value):Instr.fill (fun i=>some (i*4,4)) ((Array.range (4*4)).map ((Value.agg #[.int .i64 0,.int .i64 0,.int .i64 0,.int .i64 0]).cells[· % (Value.agg #[.int .i64 0,.int .i64 0,.int .i64 0,.int .i64 0]).cells.size]!)) [(0,.agg #[a,b,c,d]),(1,.agg #[a2,b2,c2,d2]),(2,.agg #[a3,b3,c3,d3]),(3,.agg #[a4,b4,c4,d4])]=some #[a,b,c,d,a2,b2,c2,d2,a3,b3,c3,d3,a4,b4,c4,d4]:=by
 have hh:((Array.range (4*4)).map ((Value.agg #[.int .i64 0,.int .i64 0,.int .i64 0,.int .i64 0]).cells[· % (Value.agg #[.int .i64 0,.int .i64 0,.int .i64 0,.int .i64 0]).cells.size]!))=#[.int .i64 0,.int .i64 0,.int .i64 0,.int .i64 0,.int .i64 0,.int .i64 0,.int .i64 0,.int .i64 0,.int .i64 0,.int .i64 0,.int .i64 0,.int .i64 0,.int .i64 0,.int .i64 0,.int .i64 0,.int .i64 0]:=by
  apply Array.ext';simp [Array.range,List.ofFn_succ,Value.cells]
 rw [hh];simp [Instr.fill,Value.cells]
theorem square_any (x y s:Int) (hx:0≤x∧x≤1000) (hy:0≤y∧y≤1000) (hs:0≤s∧s≤1000) (w:World) :
 Calls prog 26 #[.int .i64 x,.int .i64 y,.int .i64 s] w fun e w'=>∃ ad c,e=.returned (.slice ad 4 c)∧aA w w' [.aH (Old w) w,.row (.slice ad 4 c) 94 4 4 ((sqZ x y s).flatMap sc)]:=by
 have m1:IntKind.i64.wrap (x+s)=x+s:=w6;have m2:IntKind.i64.wrap (y+s)=y+s:=w6;have hS:=aA.start w
 go_enter func26,ntmps26
 go_wp2_with (first|((with_reducible refine dV (T:=24) ?_);refine nc (k:=2) (z:=.agg #[.int .i64 0,.int .i64 0]) (len:=4) hS underlying24 sizeOf43 zeroValue43 (by decide) (by decide) (aNb _ _ _ _ _ _ _ _) (fun b7 wb7 hS=>?_);simp only [aD];simp only [aK] at hS))
 refine dB [.p 0,.p 1,.r 2,.p 3,.p 4,.r 5,.p 6,.p 7,.p 8,.r 9,.p 10,.p 11,.r 12,.p 13,.p 14,.p 15,.r 16,.p 17,.p 18,.r 19,.p 20,.p 21,.p 22,.r 23,.p 24,.p 25,.r 26,.p 27,.e 28,.p 29] [] hS fun w1 hS=>?_
 repeat (first|((with_reducible refine kM ?_);refine j3 rfl rfl (yZ (T:=24) (k:=2) underlying24 sizeOf43 rfl rfl (by decide) (by decide) ?_);simp only [aD];simp only [Nat.reduceMul,Nat.reduceAdd,Int.reduceToNat,Nat.zero_add])|(with_reducible first|refine tf 1 isAgg43 sizeOf43 ?_|refine bU ?_))
 refine aZ ?_
 ((with_reducible refine dV (T:=23) ?_);refine nc (k:=4) (z:=.agg #[.int .i64 0,.int .i64 0,.int .i64 0,.int .i64 0]) (len:=4) hS underlying23 sizeOf94 zeroValue94 (by decide) (by decide) (fill4g _ _ _ _ _ _ _ _ _ _ _ _ _ _ _ _) (fun b8 xe hS=>?_);simp only [aD];simp only [aK] at hS)
 refine aX hS.sb ?_;refine aM ?_;refine bE ?_;have hS:=hS.uj (k:=4) (m:=4) 2 rfl rfl (by decide);simp only [aK] at hS;have hS:=hS.order [0,2,1] rfl;simp only [iw] at hS;have hS:=aA.sub hS (List.sublist_append_left [_,_] [_]);go_wp2;go_ret;exact⟨_,_,rfl,hS⟩
theorem lives_any (w:World):Calls prog 8 #[] w fun e w'=>e=.returned (.bool true)∧Below w.heap.size w w':=by
 have hS:=aA.oI w;have dY:=tb w;have bD:=Pure.oI w (fun _=>False);have bC:=fun k (h:Old w k)=>h
 go_enter func8,ntmps8
 go_wp2_with (fail)
 refine (square_any 0 0 9 (by decide) (by decide) (by decide) _).mono ?_;rintro e w1 ⟨lV,cp1,rfl,cU⟩;replace hS:=hS.import cU;simp only [aK] at hS;clear cU;simp only []
 go_wp2_with (fail)
 refine (square_any 3 3 2 (by decide) (by decide) (by decide) _).mono ?_;rintro e w2 ⟨dU,gL,rfl,cU⟩;replace hS:=hS.import cU;simp only [aK] at hS;clear cU;simp only [];have oE:=hS.dn 2 rfl;replace hS:=hS.freeze 2 rfl;simp only [aK] at hS
 go_wp2_with (first|((with_reducible refine eG ?_);refine uA (t:=23) 1 hS underlying23 sM rfl (by decide) rfl rfl rfl oE (by simp) (a2X _) (by omega) (by unfold maxLen;omega) (fun uS cp3 _ hS=>?_);simp only [aD];simp only [aK] at hS)|((with_reducible refine dV (T:=24) ?_);refine nc (k:=2) (z:=.agg #[.int .i64 0,.int .i64 0]) (len:=2) hS underlying24 sizeOf43 zeroValue43 (by decide) (by decide) (aQA _ _ _ _) (fun xY a62 hS=>?_);simp only [aD];simp only [aK] at hS))
 have e1:List.flatMap sc (sqZ 0 0 9)++List.flatMap sc (sqZ 3 3 2)=lvS.flatMap sc:=by rw [← List.flatMap_append];rfl
 rw [e1] at hS;clear e1 oE;replace hS:=hS.uj (k:=2) (m:=2) 3 rfl rfl (by decide);replace hS:=hS.order [0,1,3,2] rfl;simp only [List.set_cons_succ,List.set_cons_zero,List.filterMap_cons,List.getElem?_cons_zero,List.getElem?_cons_succ,List.filterMap_nil] at hS;replace hS:aA (nd w) _ [.aH (Old w) w,.row (.slice uS 8 cp3) 94 4 8 (lvS.flatMap sc),.row (.slice (some ⟨xY,0,none⟩) 2 2) 43 2 2 (lvG.flatMap gc),_]:=hS;have hv:=hS.dn 1 rfl;have hg:=hS.dn 2 rfl;have dL:=bD.step hS bC (fun k h=>h.elim);have eX:∀ k,(Chunk.row (.slice uS 8 cp3) 94 4 8 (lvS.flatMap sc)).has k→ja (nd w) a62 k:=fun k h=>hS.oJ bC (bW (i:=0) rfl) h
 have fx:∀ k,(Chunk.row (.slice (some ⟨xY,0,none⟩) 2 2) 43 2 2 (lvG.flatMap gc)).has k→ja (nd w) a62 k:=fun k h=>hS.oJ bC (bW (i:=1) rfl) h
 replace hS:=aA.a13 hS;replace hS:=aA.sub hS (List.sublist_append_left [_] [_]);obtain⟨F1,p6⟩:∃ F1,F1=fun k=>(Old w k∨(Chunk.row (.slice uS 8 cp3) 94 4 8 (lvS.flatMap sc)).has k)∨(Chunk.row (.slice (some ⟨xY,0,none⟩) 2 2) 43 2 2 (lvG.flatMap gc)).has k:=⟨_,rfl⟩
 obtain⟨S1,zv⟩:∃ S1,S1=fun k=>(Chunk.row (.slice uS 8 cp3) 94 4 8 (lvS.flatMap sc)).has k∨(Chunk.row (.slice (some ⟨xY,0,none⟩) 2 2) 43 2 2 (lvG.flatMap gc)).has k:=⟨_,rfl⟩
 rw [← p6] at hS;have av:∀ k,Old w k→F1 k:=fun k h=>by rw [p6];exact .inl (.inl h)
 have kU:bN a62 S1 4 (.slice uS 8 cp3) 8 (lvS.flatMap sc):=hv.weaken (fun k h=>by rw [zv];exact .inl h);have hg1:bN a62 S1 2 (.slice (some ⟨xY,0,none⟩) 2 2) 2 (lvG.flatMap gc):=hg.weaken (fun k h=>by rw [zv];exact .inr h)
 have aG:∀ k,S1 k→F1 k:=fun k h=>by
  rw [zv] at h;rw [p6];exact h.elim (fun h=>.inl (.inr h)) (fun h=>.inr h)
 have bB:Hp.Pure (nd w) (fun _=>False) a62 S1:=⟨dL.below,dL.drawn,fun k h=>h.elim,fun k h=>by
  rw [zv] at h;exact .inr (h.elim (eX k) (fx k))⟩
 have sR:aP a62 S1:=fun k h=>(hS.ok (.aH F1 a62) (by simp) k (aG k h)).1
 clear p6 zv eX fx dL hv hg bD bC;have cJ:∀ t ∈ lvS,t.ok:=lv_hos;have qm:∀ g ∈ lvG,g.ok:=lv_hgs;refine (new_any lvS lvG uS (some ⟨xY,0,none⟩) 8 cp3 2 2 _ S1 sR cJ qm kU hg1 (by decide) (by decide) (by decide)).mono ?_;rintro e w' ⟨⟨a1,n1,c1⟩,⟨a2,n2,c2⟩,⟨a3,n3,c3⟩,⟨a4,n4,c4⟩,S2,V,es,rfl,hq,hA,hP⟩;have hL2:=hq.yj sR;replace hP:=Hd hP;replace hS:=hS.aj aG av bB hq;obtain⟨F2,aQ,-,bR,bP,hS⟩:=hS;simp only [sv]
 go_wp2_with (with_reducible first|refine bH hS zeroValue28 fun b1 wb1 hS=>?_|refine aJ 1 hS sizeOf28 fun _ hS=>?_|refine bA 1 hS isAgg28 sizeOf28 ?_)
 obtain⟨rs,prs,hAI⟩:=hP.out.aM6 cJ qm hL2 hA;obtain⟨qS,bJ⟩:=eu.aEf hP.out cJ;have lP:=hP.out.vlen;have gV:=hP.out.elen;have hlS:lvS.length=8:=rfl;have hlG:lvG.length=2:=rfl;rw [hlS] at lP gV;rw [hlG] at lP;refine (aGL a1 a2 a3 a4 n1 c1 n2 c2 n3 c3 n4 c4 rs es prs V 300 _ S2 (hAI.at hS aQ) (by decide) qS bJ hP.out.arr.sv (by omega) (by omega)).mono ?_;rintro e w4 ⟨RL,⟨an,nn,cn⟩,⟨al,nl,cl⟩,⟨ao,no,co⟩,⟨ai,ni,ci⟩,⟨aa,na,ca⟩,S3,rfl,sa,rH,aR,hL3,hF⟩;obtain⟨rfl,rfl,rfl⟩:=lv_unique hP.out sa rH;obtain⟨F3,bM,nQ,yo⟩:=hS.wV dY aQ aR;have dP:=(bR.step hS bP aQ).aE4 dY aR;have dE:=fun k h=>nQ k (bP k h)
 clear hS;have hS:=yo;clear yo sa rH hP hAI hA qS bJ lP gV hlS hlG;replace hF:jb w4 S3 (an,nn,cn) (al,nl,cl) (ao,no,co) (ai,ni,ci) (aa,na,ca) lvX.fr:=hF;have hFL:Ints w4 S3 (.slice al nl cl) lvX.fr.L:=hF.l;obtain rfl:nl=16:=by rw [hFL.len,lv_L];rfl
 obtain rfl:no=3:=by have h:Ints w4 S3 (.slice ao no co) lvX.fr.O:=hF.o;rw [h.len,lv_O];rfl
 have hIl:lvX.fr.I.length=3:=by have:=congrArg List.length lv_I;simpa using this
 have hAl:lvX.fr.A.length=3:=by have:=congrArg List.length lv_A;simpa using this
 have hFI:nO w4 S3 (.slice ai ni ci) lvX.fr.I:=hF.i;have hFA:nO w4 S3 (.slice aa na ca) lvX.fr.A:=hF.a;obtain rfl:ni=3:=by obtain⟨R,h1,h2,_⟩:=hFI;obtain⟨_,a,c,e,_⟩:=h2;cases e;exact hIl
 obtain rfl:na=3:=by obtain⟨R,h1,h2,_⟩:=hFA;obtain⟨_,a,c,e,_⟩:=h2;cases e;exact hAl
 simp only [sv]
 go_wp2_with (with_reducible first|refine bH hS zeroValue37 fun b3 wb3 hS=>?_|refine aJ 2 hS sizeOf37 fun _ hS=>?_|refine aU 2 hS isAgg22 ?_|refine aU 2 hS isAgg35 ?_|refine bA 2 hS isAgg37 sizeOf37 ?_)
 refine (neighbours_any lvX.fr.L 8 (by rw [lv_L];rfl) (by rw [lv_L];decide) 1 an al ao ai aa nn cn 16 cl 3 co 3 ci 3 ca (by decide) (by decide) _ ⟨(hFL.move (hS.da bM)).1.bj,hFL.2⟩).mono ?_;rintro e w5 ⟨ad,c,rfl,cU⟩;rw [lv_nbs] at cU;have eJ:(nbs lvX.fr.L 1).length=2:=by rw [lv_nbs];rfl
 rw [eJ]
 have hI1:(nth [] lvX.fr.I 1).length=1∧(nth [] lvX.fr.I 0).length=1∧(nth [] lvX.fr.I 2).length=0:=by
  have h:∀ i,(nth [] lvX.fr.I i).length=nth 0 (lvX.fr.I.map List.length) i:=fun i=>(aNE List.length [] lvX.fr.I i).symm
  rw [h,h,h,lv_I];decide
 have yX:(nth [] lvX.fr.A 1).length=1∧(nth [] lvX.fr.A 0).length=1:=by
  have h:∀ i,(nth [] lvX.fr.A i).length=nth 0 (lvX.fr.A.map List.length) i:=fun i=>(aNE List.length [] lvX.fr.A i).symm
  rw [h,h,lv_A];decide
 obtain⟨R1,x1,y1,z1,zM,i1,_,k1⟩:=aOm hFI (i:=1) (by omega);obtain⟨R2,x2,y2,z2,hRI2,i2,_,k2⟩:=aOm hFI (i:=0) (by omega);obtain⟨R3,x3,y3,z3,hRI3,i3,_,k3⟩:=aOm hFI (i:=2) (by omega);obtain⟨R4,x4,y4,z4,yQ,i4,_,k4⟩:=aOm hFA (i:=1) (by omega);obtain⟨R5,x5,y5,z5,hRA2,i5,_,k5⟩:=aOm hFA (i:=0) (by omega);rw [hI1.1] at k1;rw [hI1.2.1] at k2;rw [hI1.2.2] at k3;rw [yX.1] at k4;rw [yX.2] at k5;rw [hIl] at zM hRI2 hRI3;rw [hAl] at yQ hRA2;subst k1 k2 k3 k4 k5;replace zM:=zM.weaken bM;replace hRI2:=hRI2.weaken bM;replace hRI3:=hRI3.weaken bM;replace yQ:=yQ.weaken bM;replace hRA2:=hRA2.weaken bM;replace hS:=hS.import cU;simp only [aK] at hS;replace eJ:=Hd eJ;clear cU hI1 yX hFI hFA hFL hF hIl hAl;simp only []
 go_wp2_with (first|(with_reducible refine aU 2 hS isAgg35 ?_)|((with_reducible refine du (T:=35) ?_);refine ck rfl (lI (T:=35) (i:=1) underlying35 sizeOf22 rfl rfl zM (by decide) (by decide) (by decide) (fun bq oq (bO:dM _ _ ⟨bq,oq,none⟩ ((List.drop (1*1) _).take 1))=>?_));rw [i1] at bO;simp only [aD])|((with_reducible refine du (T:=35) ?_);refine ck rfl (lI (T:=35) (i:=0) underlying35 sizeOf22 rfl rfl hRI2 (by decide) (by decide) (by decide) (fun bq oq (bO:dM _ _ ⟨bq,oq,none⟩ ((List.drop (0*1) _).take 1))=>?_));rw [i2] at bO;simp only [aD])|((with_reducible refine du (T:=35) ?_);refine ck rfl (lI (T:=35) (i:=2) underlying35 sizeOf22 rfl rfl hRI3 (by decide) (by decide) (by decide) (fun bq oq (bO:dM _ _ ⟨bq,oq,none⟩ ((List.drop (2*1) _).take 1))=>?_));rw [i3] at bO;simp only [aD])|((with_reducible refine du (T:=35) ?_);refine ck rfl (lI (T:=35) (i:=1) underlying35 sizeOf22 rfl rfl yQ (by decide) (by decide) (by decide) (fun bq oq (bO:dM _ _ ⟨bq,oq,none⟩ ((List.drop (1*1) _).take 1))=>?_));rw [i4] at bO;simp only [aD])|((with_reducible refine du (T:=35) ?_);refine ck rfl (lI (T:=35) (i:=0) underlying35 sizeOf22 rfl rfl hRA2 (by decide) (by decide) (by decide) (fun bq oq (bO:dM _ _ ⟨bq,oq,none⟩ ((List.drop (0*1) _).take 1))=>?_));rw [i5] at bO;simp only [aD])|((with_reducible refine dq (T:=22) ?_);refine dI hS rfl (a6w (T:=22) isAgg22 rfl (by with_reducible assumption) (by simp) rfl ?_);simp only [aD]))
 replace hS:=hS.alloc (.cells #[.int .i64 0,.int .i64 2] 3 (0,0));simp only [aK] at hS;have hrowN:=hS.dn 3 rfl;have sP:=bN.ve (k:=1) (n:=2) (arr:=#[.int .i64 0,.int .i64 2]) hS (bW (i:=4) rfl) rfl (by decide);have mg:∀ y ∈ [(0:Int),2],bQ y:=by intro y hy;simp at hy;unfold bQ;omega
 refine (wU ad _ c 2 2 2 [0,2] [0,2] _ ⟨hrowN.bj,mg⟩ ⟨sP.bj,mg⟩).mono ?_;rintro e w6 ⟨rfl,lT⟩;replace hS:=hS.fW dY lT.below;simp only [decide_true];go_wp2;have hpf:=dP.step hS dE bM;go_ret;exact⟨rfl,hpf.pf⟩
def ER.k (r:ER):Nat × Nat:=(r.a,r.b)
def KS (rs:List ER):Prop:=(rs.map ER.k).Pairwise mY
def OfOk (w:World) (S:Nat→Prop) (rs:List ER) (B:Nat):Prop:=∀ r ∈ rs,∃ is:List Nat,jZ w S (.slice r.ad r.n r.c) is∧is.length≤B
theorem OfOk.mono {w:World} {S S':Nat→Prop} {rs:List ER} {B B':Nat} (h:OfOk w S rs B) (hs:∀ k,S k→S' k) (hb:B≤B'):OfOk w S' rs B':=fun r hr=>by
 obtain⟨is,h1,h2⟩:=h r hr;exact⟨is,h1.weaken hs,by omega⟩
theorem OfOk.move {w wr:World} {S:Nat→Prop} {rs:List ER} {B:Nat} (h:OfOk wr S rs B) (hk:∀ k,S k→w.heap[k]? = wr.heap[k]?):OfOk w S rs B:=fun r hr=>by
 obtain⟨is,h1,h2⟩:=h r hr;exact⟨is,h1.move hk,h2⟩
theorem ec_cells {rs:List ER} {k:Nat} {r:ER} (hk:k<rs.length) (hr:nth jk rs k=r):(rs.flatMap ec)[k*5]? = some (.int .i64 (r.a:Int))∧(rs.flatMap ec)[k*5+1]? = some (.int .i64 (r.b:Int))∧(rs.flatMap ec)[k*5+2]? = some (.slice r.ad r.n r.c):=by
 have hc:=eS sU jk hk;rw [hr] at hc
 have e:∀ j,j<5→(rs.flatMap ec)[k*5+j]? = (ec r)[j]?:=fun j hj=>by
  rw [← hc,List.getElem?_take,if_pos hj,List.getElem?_drop]
 refine⟨?_,?_,?_⟩
 ·have:=e 0 (by omega);rw [Nat.add_zero] at this;rw [this];rfl
 ·rw [e 1 (by omega)];rfl
 ·rw [e 2 (by omega)];rfl
theorem ec_set {rs:List ER} {k:Nat} {r:ER} {ad:Option Addr} {n c:Nat} (hk:k<rs.length) (hr:nth jk rs k=r):(rs.flatMap ec).set (k*5+2) (.slice ad n c)=(rs.set k ⟨r.a,r.b,ad,n,c,r.dir⟩).flatMap ec:=by
 have e1:rs=rs.take k++r::rs.drop (k+1):=by
  rw [← hr,bS _ _ _ hk];simp
 have hl:(rs.take k).length=k:=by simp;omega
 have dp:∀ l:List ER,(l.flatMap ec).length=l.length*5:=fun l=>by
  induction l with
  | nil=>rfl
  | cons x t ih=>rw [List.flatMap_cons,List.length_append,ih,sU,List.length_cons];omega
 generalize rs.take k=A at e1 hl;generalize rs.drop (k+1)=B at e1;subst e1;subst hl;rw [List.set_append_right _ _ (Nat.le_refl _),Nat.sub_self,List.set_cons_zero];rw [List.flatMap_append,List.flatMap_append,List.set_append_right _ _ (by rw [dp];omega),dp]
 congr 1
 rw [List.flatMap_cons,List.flatMap_cons];have:A.length*5+2 - A.length*5=2:=by omega
 rw [this]
 rfl
theorem keys_set {rs:List ER} {k:Nat} {r r':ER} (hk:k<rs.length) (hr:nth jk rs k=r) (he:r'.k=r.k):(rs.set k r').map ER.k=rs.map ER.k:=by
 rw [List.map_set,he];apply List.ext_getElem?;intro i;rw [List.getElem?_set]
 split
 ·rename_i h
  subst h;rw [← hr,bS _ _ _ hk];simp [hk]
 ·rfl
theorem jZ.join {w:World} {S:Nat→Prop} {ad:Option Addr} {c n:Nat} {is is2:List Nat} {w1:World} {S1 S2:Nat→Prop} {v1 v2:Value} (h:bN w S 1 (.slice ad ((zs is).length+(zs is2).length) c) ((zs is).length+(zs is2).length) (List.map (Value.int .i64) (zs is)++List.map (Value.int .i64) (zs is2))) (h1:jZ w1 S1 v1 is) (h2:jZ w1 S2 v2 is2) (hn:n=is.length+is2.length):jZ w S (.slice ad n c) (is++is2):=by
 have e:zs (is++is2)=zs is++zs is2:=by simp [zs]
 subst hn;refine⟨?_,fun x hx=>?_⟩
 ·rw [e,List.length_append,List.map_append]
  rw [vC,vC] at h ⊢;exact h
 ·rw [e] at hx
  rcases List.mem_append.1 hx with h|h
  ·exact h1.2 x h
  ·exact h2.2 x h
theorem KS.insert {rs:List ER} {e:ER} {k:Nat} (h:KS rs) (hk:k≤rs.length) (dg:∀ j,j<k→mY (nth jk rs j).k e.k) (jU:k<rs.length→mY e.k (nth jk rs k).k):KS (rs.take k++e::rs.drop k)∧∀ x,x ∈ rs.take k++e::rs.drop k↔x ∈ rs∨x=e:=by
 have j0:∀ x,x ∈ rs.take k++e::rs.drop k↔x ∈ rs∨x=e:=by
  intro x
  conv=>rhs;rw [← List.take_append_drop k rs]
  simp only [List.mem_append,List.mem_cons]
  constructor
  ·rintro (h|h|h)
   ·exact .inl (.inl h)
   ·exact .inr h
   ·exact .inl (.inr h)
  ·rintro ((h|h)|h)
   ·exact .inl h
   ·exact .inr (.inr h)
   ·exact .inr (.inl h)
 refine⟨?_,j0⟩;unfold KS at *
 have aA6:∀ x ∈ rs.take k,mY x.k e.k:=fun x hx=>by
  obtain⟨j,hj,rfl⟩:=List.getElem_of_mem hx;have gM:j<k:=by have:=hj;rw [List.length_take] at this;omega
  have gX:j<rs.length:=by omega
  have:=dg j gM;rw [bS _ _ _ gX] at this
  rwa [List.getElem_take]
 have aA3:∀ x ∈ rs.drop k,mY e.k x.k:=fun x hx=>by
  obtain⟨j,hj,rfl⟩:=List.getElem_of_mem hx;rw [List.length_drop] at hj;have cW:k<rs.length:=by omega
  have h0:=jU cW;rw [bS _ _ _ cW] at h0;rw [List.getElem_drop]
  rcases Nat.eq_zero_or_pos j with rfl|hj0
  ·simpa using h0
  ·have h1:=List.pairwise_iff_getElem.1 h k (k+j) (by simpa using cW) (by simp;omega) (by omega)
   simp only [List.getElem_map] at h1;exact aGW h0 h1
 rw [List.map_append,List.map_cons,List.pairwise_append];have dw:=h;rw [← List.take_append_drop k rs,List.map_append,List.pairwise_append] at dw;refine⟨dw.1,?_,?_⟩
 ·rw [List.pairwise_cons]
  refine⟨fun y hy=>?_,dw.2.1⟩;obtain⟨x,hx,rfl⟩:=List.mem_map.1 hy;exact aA3 x hx
 ·intro y hy z hz
  obtain⟨x,hx,rfl⟩:=List.mem_map.1 hy
  rcases List.mem_cons.1 hz with rfl|hz
  ·exact aA6 x hx
  ·obtain⟨x2,uz,rfl⟩:=List.mem_map.1 hz
   exact aGW (aA6 x hx) (aA3 x2 uz)
theorem infoE8:(prog.info? 70).map (fun i=>(i.zero,i.size,i.bytes))=some (some (.agg #[.int .i64 0,.int .i64 0,.slice none 0 0,.int .i64 0,.int .i64 0]),5,56):=by kernel_rfl
def PutRes (w:World) (Fz S:Nat→Prop) (rs:List ER) (e:ER) (B:Nat) (en:Ending) (w':World):Prop :=
 ∃ (gD:Option Addr) (c':Nat) (zX:List ER) (G:Nat→Prop),en=.returned (.slice gD zX.length c')∧aA w w' [.aH Fz w,.aH G w',.row (.slice gD zX.length c') 70 5 zX.length (zX.flatMap ec)]∧KS zX∧OfOk w' (fun k=>S k∨G k) zX (B+1)∧(∀ x,x ∈ zX.map ER.k↔x ∈ rs.map ER.k∨x=e.k)∧zX.length≤rs.length+1
theorem putE_any (ad:Option Addr) (n c:Nat) (rs:List ER) (e:ER) (B:Nat) (w:World) (Fz S:Nat→Prop) (hSF:∀ k,S k→Fz k) (hS:aA w w [.aH Fz w,.row (.slice ad n c) 70 5 n (rs.flatMap ec)]) (hn:n=rs.length) (hks:KS rs) (hof:OfOk w S rs B) (heo:∃ is,jZ w S (.slice e.ad e.n e.c) is∧is.length≤1) (hle:n≤100000) (hB:B≤100000) :
 Calls prog 62 #[.slice ad n c,.agg #[.int .i64 (e.a:Int),.int .i64 (e.b:Int),.slice e.ad e.n e.c,.int .i64 e.dir.x,.int .i64 e.dir.y]] w (PutRes w Fz S rs e B):=by
 subst hn;have aXb:=hS.aGI 1 rfl;replace hks:=Hd hks
 go_enter func62,ntmps62
 go_wp2_with (with_reducible refine cI hS fun bx cu hS=>?_)
 go_loopw [5] (fun v wr=>∃ k:Nat,k≤rs.length∧v=.int .i64 (k:Int)∧aA w wr [.aH Fz w,.row (.slice ad rs.length c) 70 5 rs.length (rs.flatMap ec),.aB bx (.cells #[.int .i64 (e.a:Int),.int .i64 (e.b:Int),.slice e.ad e.n e.c,.int .i64 e.dir.x,.int .i64 e.dir.y] 70 (0,0))]∧∀ j,j<k→mY (nth jk rs j).k e.k) (fun v _=>rs.length - (intOf v).toNat)
 case atStart=>exact⟨0,by omega,rfl,hS,fun j hj=>by omega⟩
 case round =>
  clear hS;obtain⟨k,hk,rfl,hS,dg⟩:=hrel;replace dg:=Hd dg
  by_cases cW:k<rs.length
  ·obtain⟨g,hg⟩:=hS.rowAt 1 rfl (by omega)
   subst hg;obtain⟨r,hr⟩:∃ r,nth jk rs k=r:=⟨_,rfl⟩;obtain⟨hA,hB,hO⟩:=ec_cells cW hr
   by_cases h1:r.a<e.a
   ·have q1:decide (r.a<e.a)=true:=by simp;omega
    have yB:∀ j,j<k+1→mY (nth jk rs j).k e.k:=fun j hj=>by
     by_cases ee:j=k
     ·subst ee;rw [hr];exact .inl h1
     ·exact dg.out j (by omega)
    replace yB:=Hd yB;replace hr:=Hd hr;clear h1;go_wp2;refine dB [.p 0,.p 1,.p 2,.p 3,.p 4,.p 5,.p 6,.p 7,.p 8,.r 9,.p 10,.r 11,.p 12,.p 13,.p 14,.p 15,.p 16,.p 17,.r 18,.p 19,.r 20,.p 21,.p 22,.p 23,.p 24,.p 25,.p 26,.r 27,.p 28,.r 29,.p 30,.p 31,.p 32,.p 33] [] hS fun w1 hS=>?_
    repeat (first|(with_reducible refine gm ?_)|((with_reducible refine kM ?_);refine j3 rfl rfl (yZ (T:=30) underlying30 sizeOf70 rfl rfl (by omega) (by omega) ?_);simp only [aD];try simp only [Nat.zero_add,Int.toNat_natCast])|((with_reducible refine l8 ?_);refine jh rfl rfl (yy (T:=3) 1 isAgg3 rfl rfl hA ?_);simp only [aD])|(with_reducible first|refine cZ 2 isAgg3 ?_|refine bU ?_))
    refine bE ?_;go_wp2;go_roundw
    case rel=>exact⟨k+1,by omega,by simp,hS,yB.out⟩
    case measure=>simp [intOf];omega
   ·have q1:decide (r.a<e.a)=false:=by simp;omega
    by_cases h2:r.a=e.a
    ·have q2:((r.a:Int) == (e.a:Int))=true:=by simp [h2]
     by_cases h3:r.b<e.b
     ·have q3:decide (r.b<e.b)=true:=by simp;omega
      have yB:∀ j,j<k+1→mY (nth jk rs j).k e.k:=fun j hj=>by
       by_cases ee:j=k
       ·subst ee;rw [hr];exact .inr ⟨h2,h3⟩
       ·exact dg.out j (by omega)
      replace yB:=Hd yB;replace hr:=Hd hr;clear h1 h2 h3;go_wp2;refine dB [.p 0,.p 1,.p 2,.p 3,.p 4,.p 5,.p 6,.p 7,.p 8,.r 9,.p 10,.r 11,.p 12,.p 13,.p 14,.p 15,.p 16,.p 17,.r 18,.p 19,.r 20,.p 21,.p 22,.p 23,.p 24,.p 25,.p 26,.r 27,.p 28,.r 29,.p 30,.p 31,.p 32,.p 33] [] hS fun w1 hS=>?_
      repeat (first|((with_reducible refine kM ?_);refine j3 rfl rfl (yZ (T:=30) underlying30 sizeOf70 rfl rfl (by omega) (by omega) ?_);simp only [aD];try simp only [Nat.zero_add,Int.toNat_natCast])|((with_reducible refine l8 ?_);refine jh rfl rfl (yy (T:=3) 1 isAgg3 rfl rfl hA ?_);simp only [aD])|((with_reducible refine l8 ?_);refine jh rfl rfl (yy (T:=3) 1 isAgg3 rfl rfl hB ?_);simp only [aD])|(with_reducible first|refine cZ 2 isAgg3 ?_|refine bU ?_))
      refine bE ?_;go_wp2;go_roundw
      case rel=>exact⟨k+1,by omega,by simp,hS,yB.out⟩
      case measure=>simp [intOf];omega
     ·have q3:decide (r.b<e.b)=false:=by simp;omega
      by_cases h4:r.b=e.b
      ·have q4:((r.b:Int) == (e.b:Int))=true:=by simp [h4]
       have hek:e.k=r.k:=by unfold ER.k;rw [h2,h4]
       replace hek:=Hd hek;replace hr:=Hd hr;clear h1 h2 h3 h4;go_wp2;refine dB [.p 0,.p 1,.p 2,.p 3,.p 4,.p 5,.p 6,.p 7,.p 8,.r 9,.p 10,.r 11,.p 12,.p 13,.p 14,.p 15,.p 16,.p 17,.r 18,.p 19,.r 20,.p 21,.p 22,.p 23,.p 24,.p 25,.p 26,.r 27,.p 28,.r 29,.p 30,.p 31,.p 32,.p 33] [] hS fun w1 hS=>?_
       repeat (first|((with_reducible refine kM ?_);refine j3 rfl rfl (yZ (T:=30) underlying30 sizeOf70 rfl rfl (by omega) (by omega) ?_);simp only [aD];try simp only [Nat.zero_add,Int.toNat_natCast])|((with_reducible refine l8 ?_);refine jh rfl rfl (yy (T:=3) 1 isAgg3 rfl rfl hA ?_);simp only [aD])|((with_reducible refine l8 ?_);refine jh rfl rfl (yy (T:=3) 1 isAgg3 rfl rfl hB ?_);simp only [aD])|(with_reducible first|refine cZ 2 isAgg3 ?_|refine bU ?_))
       refine bE ?_;go_wp2;refine dB [.p 0,.p 1,.p 2,.p 3,.p 4,.p 5,.p 6,.p 7,.p 8,.r 9,.p 10,.r 11,.p 12,.p 13,.p 14,.p 15,.p 16,.p 17,.p 18,.r 19,.p 20,.r 21,.p 22,.p 23] [] hS fun w1 hS=>?_
       repeat (first|((with_reducible refine kM ?_);refine j3 rfl rfl (yZ (T:=30) underlying30 sizeOf70 rfl rfl (by omega) (by omega) ?_);simp only [aD];try simp only [Nat.zero_add,Int.toNat_natCast])|((with_reducible refine l8 ?_);refine jh rfl rfl (yy (T:=3) 1 isAgg3 rfl rfl hA ?_);simp only [aD])|((with_reducible refine l8 ?_);refine jh rfl rfl (yy (T:=3) 1 isAgg3 rfl rfl hB ?_);simp only [aD])|(with_reducible first|refine cZ 2 isAgg3 ?_|refine bU ?_))
       refine bE ?_;obtain⟨is,hN,hBl⟩:=hof r (by rw [← hr.out];exact cQ jk rs k cW);obtain⟨is2,sy,hBl2⟩:=heo;have fG:(zs is).length=is.length:=vC is;have gS:(zs is2).length=is2.length:=vC is2
       have dK:k*5+2<(rs.flatMap ec).length:=by
        have:=List.getElem?_eq_some_iff.1 hO;exact this.1
       go_wp2;refine qR [.p 0,.p 1,.p 3,.p 4,.p 5,.p 6,.r 7,.p 9,.r 10,.e 2,.e 8,.e 11,.p 12,.p 13,.m 14] [14] (fun w'=>aA w w' [.aH Fz w,.row (.slice (some ⟨g,0,none⟩) rs.length c) 70 5 rs.length (rs.flatMap ec),.aB bx (.cells #[.int .i64 (e.a:Int),.int .i64 (e.b:Int),.slice e.ad e.n e.c,.int .i64 e.dir.x,.int .i64 e.dir.y] 70 (0,0))]) (fun w'=>aA w w' _) (by kernel_rfl) (by kernel_rfl) hS.drew (fun _ hZ=>aA.sub hZ (by repeat (first|exact List.Sublist.refl _))) (fun w1 hS=>?_)
       repeat (first|((with_reducible refine kM ?_);refine j3 rfl rfl (yZ (T:=30) underlying30 sizeOf70 rfl rfl (by omega) (by omega) ?_);simp only [aD];try simp only [Nat.zero_add,Int.toNat_natCast])|((with_reducible refine l8 ?_);refine jh rfl rfl (yy (T:=22) 1 isAgg22 rfl rfl hO ?_);simp only [aD])|(with_reducible first|refine cZ 2 isAgg22 ?_|refine bU ?_))
       refine aZ ?_
       ((with_reducible refine dV (T:=22) ?_);refine a7F (T:=22) hS underlying22 sizeOf3 rfl (fun b7 _ hS=>?_);simp only [aD];simp only [aK] at hS)
       refine aX hS.sb ?_;refine aM ?_;refine aZ ?_
       ((with_reducible refine eG ?_);refine uA (t:=22) 3 hS underlying22 tQ rfl (by decide) rfl rfl rfl (hN.weaken hSF).1 (by simp) (iv_one _) (by omega) (by unfold maxLen;omega) (fun lV cp1 _ hS=>?_);simp only [aD];simp only [aK] at hS;try simp only [List.nil_append,Nat.zero_add] at hS ⊢)
       refine aX hS.sb ?_;refine aM ?_;refine aZ ?_
       ((with_reducible refine eG ?_);refine uA (t:=22) 3 hS underlying22 tQ rfl (by decide) rfl rfl rfl (sy.weaken hSF).1 (by simp) (iv_one _) (by omega) (by unfold maxLen;omega) (fun dU gL _ hS=>?_);simp only [aD];simp only [aK] at hS)
       refine aX hS.sb ?_
       repeat (first|((with_reducible refine kM ?_);refine j3 rfl rfl (yZ (T:=30) underlying30 sizeOf70 rfl rfl (by omega) (by omega) ?_);simp only [aD];try simp only [Nat.zero_add,Int.toNat_natCast])|(with_reducible refine bU ?_))
       refine dC ?_
       ((with_reducible refine gK (T:=22) ?_);refine a6k (T:=22) (v:=.slice _ _ _) 1 hS rfl rfl rfl dK sizeOf22 rfl rfl (fun _ hS=>?_);simp only [aD];simp only [aK] at hS)
       refine dD ?_;refine bE ?_;go_wp2;go_ret;have oE:=hS.dn 3 rfl;have hf:=(hS.freeze 3 rfl).order [0,3,1,2] rfl;simp only [List.set_cons_succ,List.set_cons_zero,List.filterMap_cons,List.getElem?_cons_zero,List.getElem?_cons_succ,List.filterMap_nil] at hf;rw [ec_set cW hr.out] at hf;refine⟨some ⟨g,0,none⟩,c,rs.set k ⟨r.a,r.b,dU,is.length+is2.length,gL,r.dir⟩,_,by rw [List.length_set];rfl,by rw [List.length_set];exact hf.sub (by repeat (first|exact List.Sublist.refl _|apply List.Sublist.cons_cons|apply List.Sublist.cons)),?_,?_,?_,by rw [List.length_set];omega⟩
       ·unfold KS;rw [keys_set (r':=⟨r.a,r.b,dU,is.length+is2.length,gL,r.dir⟩) cW hr.out rfl];exact hks.out
       ·intro x hx
        rcases List.mem_or_eq_of_mem_set hx with h|h
        ·obtain⟨jsQ,j1,j2⟩:=hof x h
         exact⟨jsQ,(j1.move (hS.da hSF)).weaken (fun _ h=>.inl h),by omega⟩
        ·subst h
         exact⟨is++is2,(jZ.join oE hN sy rfl).weaken (fun _ h=>.inr h),by simp;omega⟩
       ·intro x
        rw [keys_set (r':=⟨r.a,r.b,dU,is.length+is2.length,gL,r.dir⟩) cW hr.out rfl,hek.out];refine⟨.inl,fun h=>h.elim id (fun h=>?_)⟩;subst h;exact List.mem_map.2 ⟨r,by rw [← hr.out];exact cQ jk rs k cW,rfl⟩
      ·have q4:((r.b:Int) == (e.b:Int))=false:=by simp;omega
       have jU:k<rs.length→mY e.k (nth jk rs k).k:=fun _=>by rw [hr];exact .inr ⟨h2.symm,by show e.b<r.b;omega⟩
       replace jU:=Hd jU;replace hr:=Hd hr;clear h1 h2 h3 h4;go_wp2;refine dB [.p 0,.p 1,.p 2,.p 3,.p 4,.p 5,.p 6,.p 7,.p 8,.r 9,.p 10,.r 11,.p 12,.p 13,.p 14,.p 15,.p 16,.p 17,.r 18,.p 19,.r 20,.p 21,.p 22,.p 23,.p 24,.p 25,.p 26,.r 27,.p 28,.r 29,.p 30,.p 31,.p 32,.p 33] [] hS fun w1 hS=>?_
       repeat (first|((with_reducible refine kM ?_);refine j3 rfl rfl (yZ (T:=30) underlying30 sizeOf70 rfl rfl (by omega) (by omega) ?_);simp only [aD];try simp only [Nat.zero_add,Int.toNat_natCast])|((with_reducible refine l8 ?_);refine jh rfl rfl (yy (T:=3) 1 isAgg3 rfl rfl hA ?_);simp only [aD])|((with_reducible refine l8 ?_);refine jh rfl rfl (yy (T:=3) 1 isAgg3 rfl rfl hB ?_);simp only [aD])|(with_reducible first|refine cZ 2 isAgg3 ?_|refine bU ?_))
       refine bE ?_;go_wp2;refine dB [.p 0,.p 1,.p 2,.p 3,.p 4,.p 5,.p 6,.p 7,.p 8,.r 9,.p 10,.r 11,.p 12,.p 13,.p 14,.p 15,.p 16,.p 17,.p 18,.r 19,.p 20,.r 21,.p 22,.p 23] [] hS fun w1 hS=>?_
       repeat (first|((with_reducible refine kM ?_);refine j3 rfl rfl (yZ (T:=30) underlying30 sizeOf70 rfl rfl (by omega) (by omega) ?_);simp only [aD];try simp only [Nat.zero_add,Int.toNat_natCast])|((with_reducible refine l8 ?_);refine jh rfl rfl (yy (T:=3) 1 isAgg3 rfl rfl hA ?_);simp only [aD])|((with_reducible refine l8 ?_);refine jh rfl rfl (yy (T:=3) 1 isAgg3 rfl rfl hB ?_);simp only [aD])|(with_reducible first|refine cZ 2 isAgg3 ?_|refine bU ?_))
       refine bE ?_;obtain⟨a1,c1,e1⟩:∃ a1 c1,sG (some ⟨g,0,none⟩) c 0 (k) 5=.slice a1 (k) c1:=⟨_,_,rfl⟩;obtain⟨a2,c2,e2⟩:∃ a2 c2,sG (some ⟨g,0,none⟩) c (k) rs.length 5=.slice a2 (rs.length - (k)) c2:=⟨_,_,rfl⟩;have oE:=hS.dn 1 rfl;have n1:=oE.sub (j:=0) (m:=k) (by omega) (by omega);have n2:=oE.sub (j:=k) (m:=rs.length) (by omega) (by omega);rw [e1,a29 sU,Nat.zero_mul,List.drop_zero,Nat.sub_zero] at n1;rw [e2,a29 sU,List.take_length,a8P sU] at n2;replace e1:=Hd e1;replace e2:=Hd e2;have hS:=hS.freeze 1 rfl;simp only [aK] at hS;have hS:=hS.iB 70 5;simp only [aK] at hS
       go_wp2_with (first|((with_reducible refine tD (T:=30) ?_);refine ck rfl (aGn (T:=30) (m:=k) underlying30 sizeOf70 rfl rfl rfl (by omega) e1.out ?_);simp only [aD])|((with_reducible refine tD (T:=30) ?_);refine ck rfl (aMr (T:=30) (j:=k) underlying30 sizeOf70 rfl rfl rfl (by omega) e2.out ?_);simp only [aD])|(with_reducible refine bA 2 hS isAgg70 sizeOf70 ?_)|((with_reducible refine dV (T:=30) ?_);refine fZ (T:=30) (v:=.agg #[.int .i64 _,.int .i64 _,.slice _ _ _,.int .i64 _,.int .i64 _]) hS underlying30 sizeOf70 zeroValue70 rfl rfl rfl (by decide) (by decide) rfl (fun bl fX hS=>?_);simp only [aD];simp only [Value.cells] at hS)|((with_reducible refine eG ?_);refine fw (t:=30) 3 hS underlying30 infoE8 rfl (by decide) rfl rfl rfl rfl (by simp [Value.oneCell']) (by omega) (by unfold maxLen;omega) (fun _ _ _ hS=>?_);simp only [aD];simp only [aK] at hS)|((with_reducible refine eG ?_);refine uA (t:=30) 3 hS underlying30 infoE8 rfl (by decide) rfl rfl rfl n1 (by simp) (aVn _) (by omega) (by unfold maxLen;omega) (fun _ _ _ hS=>?_);simp only [aD];simp only [aK] at hS;try simp only [Nat.zero_add,List.nil_append] at hS ⊢)|((with_reducible refine eG ?_);refine uA (t:=30) 3 hS underlying30 infoE8 rfl (by decide) rfl rfl rfl n2 (by simp) (aVn _) (by omega) (by unfold maxLen;omega) (fun _ _ _ hS=>?_);simp only [aD];simp only [aK] at hS))
       go_ret;have kI:(rs.take (k)++e::rs.drop (k)).flatMap ec=(rs.take (k)).flatMap ec++ec e++(rs.drop (k)).flatMap ec:=by simp
       have hlen:(rs.take (k)++e::rs.drop (k)).length=(k)+1+(rs.length - (k)):=by first|(simp;omega)
       obtain⟨fm,qe⟩:=hks.out.insert (show (k)≤rs.length by omega) dg.out jU.out;have hf:=(hS.freeze 1 rfl).order [0,1,3,2] rfl;simp only [List.set_cons_succ,List.set_cons_zero,List.filterMap_cons,List.getElem?_cons_zero,List.getElem?_cons_succ,List.filterMap_nil] at hf;refine⟨_,_,rs.take (k)++e::rs.drop (k),(Chunk.aH (Chunk.row (.slice (some ⟨g,0,none⟩) rs.length c) 70 5 rs.length (rs.flatMap ec)).has w1).has,by rw [hlen];rfl,?_,fm,?_,?_,by rw [hlen];omega⟩
       ·rw [hlen,kI]
        exact hf.sub (by repeat (first|exact List.Sublist.refl _|apply List.Sublist.cons_cons|apply List.Sublist.cons))
       ·intro x hx
        rcases (qe x).1 hx with h|h
        ·obtain⟨jsQ,j1,j2⟩:=hof x h
         exact⟨jsQ,(j1.move (hS.da hSF)).weaken (fun _ h=>.inl h),by omega⟩
        ·subst h
         obtain⟨jsQ,j1,j2⟩:=heo;exact⟨jsQ,(j1.move (hS.da hSF)).weaken (fun _ h=>.inl h),by omega⟩
       ·intro x
        rw [List.mem_map,List.mem_map]
        constructor
        ·rintro⟨y,hy,rfl⟩
         rcases (qe y).1 hy with h|h
         ·exact .inl ⟨y,h,rfl⟩
         ·exact .inr (by rw [h])
        ·rintro (⟨y,hy,rfl⟩|rfl)
         ·exact⟨y,(qe y).2 (.inl hy),rfl⟩
         ·exact⟨e,(qe e).2 (.inr rfl),rfl⟩
    ·have q2:((r.a:Int) == (e.a:Int))=false:=by simp;omega
     have jU:k<rs.length→mY e.k (nth jk rs k).k:=fun _=>by rw [hr];exact .inl (by show e.a<r.a;omega)
     replace jU:=Hd jU;replace hr:=Hd hr;clear h1 h2;go_wp2;refine dB [.p 0,.p 1,.p 2,.p 3,.p 4,.p 5,.p 6,.p 7,.p 8,.r 9,.p 10,.r 11,.p 12,.p 13,.p 14,.p 15,.p 16,.p 17,.r 18,.p 19,.r 20,.p 21,.p 22,.p 23,.p 24,.p 25,.p 26,.r 27,.p 28,.r 29,.p 30,.p 31,.p 32,.p 33] [] hS fun w1 hS=>?_
     repeat (first|(with_reducible refine gm ?_)|((with_reducible refine kM ?_);refine j3 rfl rfl (yZ (T:=30) underlying30 sizeOf70 rfl rfl (by omega) (by omega) ?_);simp only [aD];try simp only [Nat.zero_add,Int.toNat_natCast])|((with_reducible refine l8 ?_);refine jh rfl rfl (yy (T:=3) 1 isAgg3 rfl rfl hA ?_);simp only [aD])|(with_reducible first|refine cZ 2 isAgg3 ?_|refine bU ?_))
     refine bE ?_;go_wp2;refine dB [.p 0,.p 1,.p 2,.p 3,.p 4,.p 5,.p 6,.p 7,.p 8,.r 9,.p 10,.r 11,.p 12,.p 13,.p 14,.p 15,.p 16,.p 17,.p 18,.r 19,.p 20,.r 21,.p 22,.p 23] [] hS fun w1 hS=>?_
     repeat (first|(with_reducible refine gm ?_)|((with_reducible refine kM ?_);refine j3 rfl rfl (yZ (T:=30) underlying30 sizeOf70 rfl rfl (by omega) (by omega) ?_);simp only [aD];try simp only [Nat.zero_add,Int.toNat_natCast])|((with_reducible refine l8 ?_);refine jh rfl rfl (yy (T:=3) 1 isAgg3 rfl rfl hA ?_);simp only [aD])|(with_reducible first|refine cZ 2 isAgg3 ?_|refine bU ?_))
     refine bE ?_;obtain⟨a1,c1,e1⟩:∃ a1 c1,sG (some ⟨g,0,none⟩) c 0 (k) 5=.slice a1 (k) c1:=⟨_,_,rfl⟩;obtain⟨a2,c2,e2⟩:∃ a2 c2,sG (some ⟨g,0,none⟩) c (k) rs.length 5=.slice a2 (rs.length - (k)) c2:=⟨_,_,rfl⟩;have oE:=hS.dn 1 rfl;have n1:=oE.sub (j:=0) (m:=k) (by omega) (by omega);have n2:=oE.sub (j:=k) (m:=rs.length) (by omega) (by omega);rw [e1,a29 sU,Nat.zero_mul,List.drop_zero,Nat.sub_zero] at n1;rw [e2,a29 sU,List.take_length,a8P sU] at n2;replace e1:=Hd e1;replace e2:=Hd e2;have hS:=hS.freeze 1 rfl;simp only [aK] at hS;have hS:=hS.iB 70 5;simp only [aK] at hS
     go_wp2_with (first|((with_reducible refine tD (T:=30) ?_);refine ck rfl (aGn (T:=30) (m:=k) underlying30 sizeOf70 rfl rfl rfl (by omega) e1.out ?_);simp only [aD])|((with_reducible refine tD (T:=30) ?_);refine ck rfl (aMr (T:=30) (j:=k) underlying30 sizeOf70 rfl rfl rfl (by omega) e2.out ?_);simp only [aD])|(with_reducible refine bA 2 hS isAgg70 sizeOf70 ?_)|((with_reducible refine dV (T:=30) ?_);refine fZ (T:=30) (v:=.agg #[.int .i64 _,.int .i64 _,.slice _ _ _,.int .i64 _,.int .i64 _]) hS underlying30 sizeOf70 zeroValue70 rfl rfl rfl (by decide) (by decide) rfl (fun bl fX hS=>?_);simp only [aD];simp only [Value.cells] at hS)|((with_reducible refine eG ?_);refine fw (t:=30) 3 hS underlying30 infoE8 rfl (by decide) rfl rfl rfl rfl (by simp [Value.oneCell']) (by omega) (by unfold maxLen;omega) (fun _ _ _ hS=>?_);simp only [aD];simp only [aK] at hS)|((with_reducible refine eG ?_);refine uA (t:=30) 3 hS underlying30 infoE8 rfl (by decide) rfl rfl rfl n1 (by simp) (aVn _) (by omega) (by unfold maxLen;omega) (fun _ _ _ hS=>?_);simp only [aD];simp only [aK] at hS;try simp only [Nat.zero_add,List.nil_append] at hS ⊢)|((with_reducible refine eG ?_);refine uA (t:=30) 3 hS underlying30 infoE8 rfl (by decide) rfl rfl rfl n2 (by simp) (aVn _) (by omega) (by unfold maxLen;omega) (fun _ _ _ hS=>?_);simp only [aD];simp only [aK] at hS))
     go_ret;have kI:(rs.take (k)++e::rs.drop (k)).flatMap ec=(rs.take (k)).flatMap ec++ec e++(rs.drop (k)).flatMap ec:=by simp
     have hlen:(rs.take (k)++e::rs.drop (k)).length=(k)+1+(rs.length - (k)):=by first|(simp;omega)
     obtain⟨fm,qe⟩:=hks.out.insert (show (k)≤rs.length by omega) dg.out jU.out;have hf:=(hS.freeze 1 rfl).order [0,1,3,2] rfl;simp only [List.set_cons_succ,List.set_cons_zero,List.filterMap_cons,List.getElem?_cons_zero,List.getElem?_cons_succ,List.filterMap_nil] at hf;refine⟨_,_,rs.take (k)++e::rs.drop (k),(Chunk.aH (Chunk.row (.slice (some ⟨g,0,none⟩) rs.length c) 70 5 rs.length (rs.flatMap ec)).has w1).has,by rw [hlen];rfl,?_,fm,?_,?_,by rw [hlen];omega⟩
     ·rw [hlen,kI]
      exact hf.sub (by repeat (first|exact List.Sublist.refl _|apply List.Sublist.cons_cons|apply List.Sublist.cons))
     ·intro x hx
      rcases (qe x).1 hx with h|h
      ·obtain⟨jsQ,j1,j2⟩:=hof x h
       exact⟨jsQ,(j1.move (hS.da hSF)).weaken (fun _ h=>.inl h),by omega⟩
      ·subst h
       obtain⟨jsQ,j1,j2⟩:=heo;exact⟨jsQ,(j1.move (hS.da hSF)).weaken (fun _ h=>.inl h),by omega⟩
     ·intro x
      rw [List.mem_map,List.mem_map]
      constructor
      ·rintro⟨y,hy,rfl⟩
       rcases (qe y).1 hy with h|h
       ·exact .inl ⟨y,h,rfl⟩
       ·exact .inr (by rw [h])
      ·rintro (⟨y,hy,rfl⟩|rfl)
       ·exact⟨y,(qe y).2 (.inl hy),rfl⟩
       ·exact⟨e,(qe e).2 (.inr rfl),rfl⟩
  ·obtain rfl:k=rs.length:=by omega
   have jU:rs.length<rs.length→mY e.k (nth jk rs rs.length).k:=fun h=>absurd h (Nat.lt_irrefl _)
   replace jU:=Hd jU;have hA:(0:Nat)=0:=rfl;have hB:=hA;go_wp2;refine dB [.p 0,.p 1,.p 2,.p 3,.p 4,.p 5,.p 6,.p 7,.p 8,.r 9,.p 10,.r 11,.p 12,.p 13,.p 14,.p 15,.p 16,.p 17,.r 18,.p 19,.r 20,.p 21,.p 22,.p 23,.p 24,.p 25,.p 26,.r 27,.p 28,.r 29,.p 30,.p 31,.p 32,.p 33] [] hS fun w1 hS=>?_
   repeat (with_reducible first|refine gm ?_|refine bU ?_)
   refine bE ?_;go_wp2;refine dB [.p 0,.p 1,.p 2,.p 3,.p 4,.p 5,.p 6,.p 7,.p 8,.r 9,.p 10,.r 11,.p 12,.p 13,.p 14,.p 15,.p 16,.p 17,.p 18,.r 19,.p 20,.r 21,.p 22,.p 23] [] hS fun w1 hS=>?_
   repeat (with_reducible first|refine gm ?_|refine bU ?_)
   refine bE ?_;obtain⟨a1,c1,e1⟩:∃ a1 c1,sG (ad) c 0 (rs.length) 5=.slice a1 (rs.length) c1:=⟨_,_,rfl⟩;obtain⟨a2,c2,e2⟩:∃ a2 c2,sG (ad) c (rs.length) rs.length 5=.slice a2 (rs.length - (rs.length)) c2:=⟨_,_,rfl⟩;have oE:=hS.dn 1 rfl;have n1:=oE.sub (j:=0) (m:=rs.length) (by omega) (by omega);have n2:=oE.sub (j:=rs.length) (m:=rs.length) (by omega) (by omega);rw [e1,a29 sU,Nat.zero_mul,List.drop_zero,Nat.sub_zero] at n1;rw [e2,a29 sU,List.take_length,a8P sU] at n2;replace e1:=Hd e1;replace e2:=Hd e2;have hS:=hS.freeze 1 rfl;simp only [aK] at hS;have hS:=hS.iB 70 5;simp only [aK] at hS
   go_wp2_with (first|((with_reducible refine tD (T:=30) ?_);refine ck rfl (aGn (T:=30) (m:=rs.length) underlying30 sizeOf70 rfl rfl rfl (by omega) e1.out ?_);simp only [aD])|((with_reducible refine tD (T:=30) ?_);refine ck rfl (aMr (T:=30) (j:=rs.length) underlying30 sizeOf70 rfl rfl rfl (by omega) e2.out ?_);simp only [aD])|(with_reducible refine bA 2 hS isAgg70 sizeOf70 ?_)|((with_reducible refine dV (T:=30) ?_);refine fZ (T:=30) (v:=.agg #[.int .i64 _,.int .i64 _,.slice _ _ _,.int .i64 _,.int .i64 _]) hS underlying30 sizeOf70 zeroValue70 rfl rfl rfl (by decide) (by decide) rfl (fun bl fX hS=>?_);simp only [aD];simp only [Value.cells] at hS)|((with_reducible refine eG ?_);refine fw (t:=30) 3 hS underlying30 infoE8 rfl (by decide) rfl rfl rfl rfl (by simp [Value.oneCell']) (by omega) (by unfold maxLen;omega) (fun _ _ _ hS=>?_);simp only [aD];simp only [aK] at hS)|((with_reducible refine eG ?_);refine uA (t:=30) 3 hS underlying30 infoE8 rfl (by decide) rfl rfl rfl n1 (by simp) (aVn _) (by omega) (by unfold maxLen;omega) (fun _ _ _ hS=>?_);simp only [aD];simp only [aK] at hS;try simp only [Nat.zero_add,List.nil_append] at hS ⊢)|((with_reducible refine eG ?_);refine uA (t:=30) 3 hS underlying30 infoE8 rfl (by decide) rfl rfl rfl n2 (by simp) (aVn _) (by omega) (by unfold maxLen;omega) (fun _ _ _ hS=>?_);simp only [aD];simp only [aK] at hS))
   go_ret;have kI:(rs.take (rs.length)++e::rs.drop (rs.length)).flatMap ec=(rs.take (rs.length)).flatMap ec++ec e++(rs.drop (rs.length)).flatMap ec:=by simp
   have hlen:(rs.take (rs.length)++e::rs.drop (rs.length)).length=(rs.length)+1+(rs.length - (rs.length)):=by first|(simp;done)
   obtain⟨fm,qe⟩:=hks.out.insert (show (rs.length)≤rs.length by omega) dg.out jU.out;have hf:=(hS.freeze 1 rfl).order [0,1,3,2] rfl;simp only [List.set_cons_succ,List.set_cons_zero,List.filterMap_cons,List.getElem?_cons_zero,List.getElem?_cons_succ,List.filterMap_nil] at hf;refine⟨_,_,rs.take (rs.length)++e::rs.drop (rs.length),(Chunk.aH (Chunk.row (.slice (ad) rs.length c) 70 5 rs.length (rs.flatMap ec)).has w1).has,by rw [hlen];rfl,?_,fm,?_,?_,by rw [hlen];omega⟩
   ·rw [hlen,kI]
    exact hf.sub (by repeat (first|exact List.Sublist.refl _|apply List.Sublist.cons_cons|apply List.Sublist.cons))
   ·intro x hx
    rcases (qe x).1 hx with h|h
    ·obtain⟨jsQ,j1,j2⟩:=hof x h
     exact⟨jsQ,(j1.move (hS.da hSF)).weaken (fun _ h=>.inl h),by omega⟩
    ·subst h
     obtain⟨jsQ,j1,j2⟩:=heo;exact⟨jsQ,(j1.move (hS.da hSF)).weaken (fun _ h=>.inl h),by omega⟩
   ·intro x
    rw [List.mem_map,List.mem_map]
    constructor
    ·rintro⟨y,hy,rfl⟩
     rcases (qe y).1 hy with h|h
     ·exact .inl ⟨y,h,rfl⟩
     ·exact .inr (by rw [h])
    ·rintro (⟨y,hy,rfl⟩|rfl)
     ·exact⟨y,(qe y).2 (.inl hy),rfl⟩
     ·exact⟨e,(qe e).2 (.inr rfl),rfl⟩
theorem common08_any (a b:Int) (w:World) (ha:a.natAbs<1099511627776) (hb:b.natAbs<1099511627776) :
 Calls prog 112 #[.int .i64 a,.int .i64 b] w fun e w'=>e=.returned (.int .i64 (Int.gcd a b:Nat))∧w'=w:=by
 obtain⟨G,hG⟩:∃ G,Int.gcd a b=G:=⟨_,rfl⟩;rw [hG];have nT:IntKind.i64.wrap (-a) = -a:=w6;have mM:IntKind.i64.wrap (-b) = -b:=w6;have qe:max a (-a)=((a.natAbs:Nat):Int):=by omega
 have gv:max b (-b)=((b.natAbs:Nat):Int):=by omega
 have hg:=Hd (show Int.gcd ((a.natAbs:Nat):Int) ((b.natAbs:Nat):Int)=G by rw [← hG];simp [Int.gcd]);clear hG
 go_enter func112,ntmps112
 go_wp2
 go_loopw [0,1] (fun va vb wr=>∃ x y:Int,va=.int .i64 x∧vb=.int .i64 y∧wr=w∧0≤x∧0≤y∧x<1099511627776∧y<1099511627776∧Int.gcd x y=G) (fun va vb _=>(intOf vb).natAbs)
 case atStart=>exact⟨(a.natAbs:Int),(b.natAbs:Int),rfl,rfl,rfl,by omega,by omega,by omega,by omega,hg.out⟩
 case round =>
  obtain⟨x,y,rfl,rfl,rfl,iz,iJ,hx,hy,qK⟩:=hrel
  by_cases h0:y=0
  ·subst h0
   have hg3:(G:Int)=x:=by rw [← qK,Int.gcd_zero];omega
   replace hg3:=Hd hg3;clear qK;go_wp2;go_ret;exact⟨by rw [hg3.out];rfl,rfl⟩
  ·have hyt:decide (0<y)=true:=by simp;omega
   have hyf:(y == 0)=false:=by simp [h0]
   have hm:=Int.tmod_eq_emod_of_nonneg (b:=y) iz;have hg3:=aWr x y;have hb3:=@aOx x y h0;have my:0≤Int.tmod x y:=Int.tmod_nonneg _ iz;rw [hm] at hg3 hb3 my;have hw:IntKind.i64.wrap (x % y)=x % y:=w6;have hb4:(x % y)<1099511627776:=by omega
   replace qK:=Hd qK;replace hg3:=Hd hg3;replace hb3:=Hd hb3;replace hb4:=Hd hb4;replace my:=Hd my;go_wp2;go_roundw
   case rel=>exact⟨y,x % y,rfl,rfl,trivial,iJ,my.out,hy,hb4.out,hg3.out.trans qK.out⟩
   case measure=>exact hb3.out
theorem dir08_any (s:Sz) (w:World) (h:s.ok):Calls prog 63 #[.agg #[.int .i64 s.a.x,.int .i64 s.a.y,.int .i64 s.b.x,.int .i64 s.b.y]] w fun e w'=>e=.returned (.agg #[.int .i64 (fN s).x,.int .i64 (fN s).y])∧Pure w (fun _=>False) w' (fun _=>False):=by
 obtain⟨⟨ax,ay⟩,⟨bx,by'⟩⟩:=s;obtain⟨ha,hb,bJ⟩:=h;unfold Gp.ok fS at ha hb;simp only at ha hb;have wi:¬ (bx - ax=0∧by' - ay=0):=fun h=>bJ (by have h1:=h.1;have h2:=h.2;simp only [Gp.mk.injEq];omega)
 clear bJ;have w1:IntKind.i64.wrap (bx - ax)=bx - ax:=w6;have w2:IntKind.i64.wrap (by' - ay)=by' - ay:=w6
 have w3:IntKind.i64.wrap (-(bx - ax)) = -(bx - ax):=w6;have w4:IntKind.i64.wrap (-(by' - ay)) = -(by' - ay):=w6;obtain⟨D,hD⟩:∃ D,fN ⟨⟨ax,ay⟩,⟨bx,by'⟩⟩=D:=⟨_,rfl⟩;rw [hD];unfold fN at hD;simp only at hD;obtain⟨X,hX⟩:∃ X,X=bx - ax:=⟨_,rfl⟩;obtain⟨Y,hY⟩:∃ Y,Y=by' - ay:=⟨_,rfl⟩
 have w1':IntKind.i64.wrap (bx - ax)=X:=by rw [w1,hX]
 have w2':IntKind.i64.wrap (by' - ay)=Y:=by rw [w2,hY]
 rw [← hX] at w1 w3 hD wi;rw [← hY] at w2 w4 hD wi;have bX:X.natAbs<1099511627776:=by omega
 have bY:Y.natAbs<1099511627776:=by omega
 have mA:((Int.gcd X Y:Nat):Int)≠0:=by
  intro h;have:=Int.gcd_eq_zero_iff.1 (by omega:Int.gcd X Y=0);exact wi this
 have hgn:((Int.gcd (-X) (-Y):Nat):Int)=((Int.gcd X Y:Nat):Int):=by simp
 have q1:=fun a=>aFK a (Int.gcd X Y)
 obtain⟨G,hG⟩:∃ G:Int,G=((Int.gcd X Y:Nat):Int):=⟨_,rfl⟩;rw [← hG] at hD mA hgn;simp only [← hG] at q1;have q2:∀ a:Int,a.natAbs<1099511627776→IntKind.i64.wrap (a.tdiv G)=a.tdiv G:=fun a h=>by have:=q1 a;exact w6
 have q3:=q2 X bX;have q4:=q2 Y bY;have q5:IntKind.i64.wrap (-(X.tdiv G)) = -(X.tdiv G):=by have:=q1 X;exact w6
 have q6:IntKind.i64.wrap (-(Y.tdiv G)) = -(Y.tdiv G):=by have:=q1 Y;exact w6
 have hG0:(G == 0)=false:=by simpa using mA
 replace hG:=Hd hG;replace hX:=Hd hX;replace hY:=Hd hY;replace hgn:=Hd hgn;clear q1 q2 ha hb wi;have hS:=aA.start w
 by_cases hc:X<0∨(X=0∧Y<0)
 ·rw [if_pos hc] at hD
  replace hD:=Hd hD
  rcases hc with h1|⟨h1,h2⟩
  ·have eo:decide (X<0)=true:=by simpa using h1
   replace h1:=Hd h1
   go_enter func63,ntmps63
   go_wp2_with (with_reducible first|refine cI hS fun b1 wb1 hS=>?_|refine bH hS zeroValue43 fun b2 ri hS=>?_|refine aU 1 hS isAgg3 ?_)
   refine (common08_any (-X) (-Y) _ (by omega) (by omega)).mono ?_;rintro e w' ⟨rfl,rfl⟩;simp only [];rw [hgn.out];go_wp2;refine dB [.p 0,.p 1,.p 2,.p 3,.p 4,.p 5,.p 6,.m 7] [7] hS fun w1 hS=>?_
   refine aM ?_;refine dC ?_
   (with_reducible refine aJ 2 hS sizeOf43 fun _ hS=>?_)
   refine dD ?_;refine bE ?_;go_wp2;exact fE 2 hS rfl rfl rfl isAgg43 sizeOf43 rfl rfl ⟨by first|(rw [← hD.out];done),hS.pure _⟩
  ·have eo:decide (X<0)=false:=by simp [h1]
   have fH:(X == 0)=true:=by simp [h1]
   have jI:decide (Y<0)=true:=by simpa using h2
   replace h1:=Hd h1;replace h2:=Hd h2
   go_enter func63,ntmps63
   go_wp2_with (with_reducible first|refine cI hS fun b1 wb1 hS=>?_|refine bH hS zeroValue43 fun b2 ri hS=>?_|refine aU 1 hS isAgg3 ?_)
   refine (common08_any (-X) (-Y) _ (by omega) (by omega)).mono ?_;rintro e w' ⟨rfl,rfl⟩;simp only [];rw [hgn.out];go_wp2;refine dB [.p 0,.p 1,.p 2,.p 3,.p 4,.p 5,.p 6,.m 7] [7] hS fun w1 hS=>?_
   refine aM ?_;refine dC ?_
   (with_reducible refine aJ 2 hS sizeOf43 fun _ hS=>?_)
   refine dD ?_;refine bE ?_;go_wp2;exact fE 2 hS rfl rfl rfl isAgg43 sizeOf43 rfl rfl ⟨by first|(rw [← hD.out];done),hS.pure _⟩
 ·rw [if_neg hc] at hD
  replace hD:=Hd hD;have h1:decide (X<0)=false:=by simp;omega
  by_cases h0:X=0
  ·have fH:(X == 0)=true:=by simp [h0]
   have jI:decide (Y<0)=false:=by simp;omega
   replace h0:=Hd h0;replace hc:=Hd hc
   go_enter func63,ntmps63
   go_wp2_with (with_reducible first|refine cI hS fun b1 wb1 hS=>?_|refine bH hS zeroValue43 fun b2 ri hS=>?_|refine aU 1 hS isAgg3 ?_)
   refine (common08_any (X) (Y) _ (by omega) (by omega)).mono ?_;rintro e w' ⟨rfl,rfl⟩;simp only [];rw [← hG.out];go_wp2;refine dB [.p 0,.p 1,.p 2,.p 3,.p 4,.p 5,.p 6,.m 7] [7] hS fun w1 hS=>?_
   refine aM ?_;refine dC ?_
   (with_reducible refine aJ 2 hS sizeOf43 fun _ hS=>?_)
   refine dD ?_;refine bE ?_;go_wp2;exact fE 2 hS rfl rfl rfl isAgg43 sizeOf43 rfl rfl ⟨by first|(rw [← hD.out];done),hS.pure _⟩
  ·have fH:(X == 0)=false:=by simp [h0]
   replace h0:=Hd h0;replace hc:=Hd hc
   go_enter func63,ntmps63
   go_wp2_with (with_reducible first|refine cI hS fun b1 wb1 hS=>?_|refine bH hS zeroValue43 fun b2 ri hS=>?_|refine aU 1 hS isAgg3 ?_)
   refine (common08_any (X) (Y) _ (by omega) (by omega)).mono ?_;rintro e w' ⟨rfl,rfl⟩;simp only [];rw [← hG.out];go_wp2;refine dB [.p 0,.p 1,.p 2,.p 3,.p 4,.p 5,.p 6,.m 7] [7] hS fun w1 hS=>?_
   refine aM ?_;refine dC ?_
   (with_reducible refine aJ 2 hS sizeOf43 fun _ hS=>?_)
   refine dD ?_;refine bE ?_;go_wp2;exact fE 2 hS rfl rfl rfl isAgg43 sizeOf43 rfl rfl ⟨by first|(rw [← hD.out];done),hS.pure _⟩
def sgAt (os:List Sz) (i:Nat):Sg:=(nth s0 os i).sg
def vPQ (os:List Sz) (gs:List Gp) (i:Nat) (p:Pt):Prop:=p ∈ gs.map Gp.pt∨(∃ j,j<i∧(p=(sgAt os j).a∨p=(sgAt os j).b))∨∃ j m,m<j∧j<i∧p ∈ a5B (sgAt os j) (sgAt os m)
def vQQ (os:List Sz) (gs:List Gp) (i k:Nat) (p:Pt):Prop:=vPQ os gs i p∨(p=(sgAt os i).a∨p=(sgAt os i).b)∨∃ m,m<k∧p ∈ a5B (sgAt os i) (sgAt os m)
theorem vQ_step {os:List Sz} {gs:List Gp} {i:Nat} {p:Pt}:vQQ os gs i i p↔vPQ os gs (i+1) p:=by
 unfold vQQ vPQ
 constructor
 ·rintro ((h|⟨j,h1,h2⟩|⟨j,m,h1,h2,h3⟩)|h|⟨m,h1,h2⟩)
  ·exact .inl h
  ·exact .inr (.inl ⟨j,by omega,h2⟩)
  ·exact .inr (.inr ⟨j,m,h1,by omega,h3⟩)
  ·exact .inr (.inl ⟨i,by omega,h⟩)
  ·exact .inr (.inr ⟨i,m,h1,by omega,h2⟩)
 ·rintro (h|⟨j,h1,h2⟩|⟨j,m,h1,h2,h3⟩)
  ·exact .inl (.inl h)
  ·by_cases e:j=i
   ·subst e;exact .inr (.inl h2)
   ·exact .inl (.inr (.inl ⟨j,by omega,h2⟩))
  ·by_cases e:j=i
   ·subst e;exact .inr (.inr ⟨m,h1,h3⟩)
   ·exact .inl (.inr (.inr ⟨j,m,h1,by omega,h3⟩))
theorem sgAt_some {os:List Sz} {i:Nat} {s:Sg} (h:(os.map Sz.sg)[i]? = some s):i<os.length∧s=sgAt os i:=by
 rw [List.getElem?_map] at h;cases ho:os[i]? with
 | none=>rw [ho] at h;cases h
 | some t =>
  rw [ho] at h;obtain⟨hi,hh⟩:=List.getElem?_eq_some_iff.1 ho;refine⟨hi,?_⟩;unfold sgAt;rw [bS _ _ _ hi,hh];exact (Option.some.inj h).symm
theorem sgAt_get {os:List Sz} {i:Nat} (h:i<os.length):(os.map Sz.sg)[i]? = some (sgAt os i):=by
 unfold sgAt;rw [List.getElem?_map,List.getElem?_eq_getElem h,bS _ _ _ h];rfl
theorem vP_end {os:List Sz} {gs:List Gp} {p:Pt}:vPQ os gs os.length p↔mB (os.map Sz.sg) (gs.map Gp.pt) p:=by
 unfold vPQ mB
 constructor
 ·rintro (h|⟨j,h1,h2⟩|⟨j,m,h1,h2,h3⟩)
  ·exact .inl h
  ·exact .inr (.inl ⟨sgAt os j,bW (sgAt_get h1),h2⟩)
  ·exact .inr (.inr ⟨j,m,_,_,by omega,sgAt_get h2,sgAt_get (by omega),(a6g _ _ _).1 h3⟩)
 ·rintro (h|⟨s,h1,h2⟩|⟨i,j,s,t,fe,h1,h2,h3⟩)
  ·exact .inl h
  ·obtain⟨j,hj⟩:=List.getElem?_of_mem h1
   obtain⟨a,b⟩:=sgAt_some hj;exact .inr (.inl ⟨j,a,by rw [← b];exact h2⟩)
  ·obtain⟨a,rfl⟩:=sgAt_some h1
   obtain⟨b,rfl⟩:=sgAt_some h2
   rcases Nat.lt_or_ge j i with h|h
   ·exact .inr (.inr ⟨i,j,h,a,(a6g _ _ _).2 h3⟩)
   ·exact .inr (.inr ⟨j,i,by omega,b,(a6g _ _ _).2 (aWH h3)⟩)
theorem nextOn_nth {V:List Pt} {s:Sg} {u v:Nat}:kX V s u v↔u<v∧v<V.length∧cj s (nth au V u)∧cj s (nth au V v)∧∀ w,u<w→w<v→¬ cj s (nth au V w):=by
 unfold kX
 constructor
 ·rintro⟨kZ,p,q,hu,hv,h1,h2,h3⟩
  obtain⟨a,rfl⟩:=List.getElem?_eq_some_iff.1 hu;obtain⟨b,rfl⟩:=List.getElem?_eq_some_iff.1 hv;refine⟨kZ,b,by rw [bS _ _ _ a];exact h1,by rw [bS _ _ _ b];exact h2,fun w nT mM=>?_⟩;have hw:w<V.length:=by omega
  rw [bS _ _ _ hw];exact h3 w _ nT mM (List.getElem?_eq_getElem hw)
 ·rintro⟨kZ,b,h1,h2,h3⟩
  have a:u<V.length:=by omega
  rw [bS _ _ _ a] at h1;rw [bS _ _ _ b] at h2;refine⟨kZ,_,_,List.getElem?_eq_getElem a,List.getElem?_eq_getElem b,h1,h2,fun w r nT mM hr=>?_⟩;obtain⟨hw,rfl⟩:=List.getElem?_eq_some_iff.1 hr;have:=h3 w nT mM
  rwa [bS _ _ _ hw] at this
def Last (V:List Pt) (s:Sg) (v:Nat) (l:Int):Prop:=(l = -1∧∀ w,w<v→¬ cj s (nth au V w))∨∃ u:Nat,u<v∧l=(u:Int)∧cj s (nth au V u)∧∀ w,u<w→w<v→¬ cj s (nth au V w)
def EP (os:List Sz) (V:List Pt) (i v:Nat) (e:Nat × Nat):Prop:=(∃ j,j<i∧kX V (sgAt os j) e.1 e.2)∨(kX V (sgAt os i) e.1 e.2∧e.2<v)
theorem Last.start (V:List Pt) (s:Sg):Last V s 0 (-1):=.inl ⟨rfl,fun w hw=>by omega⟩
theorem Last.skip {V:List Pt} {s:Sg} {v:Nat} {l:Int} (h:Last V s v l) (hn:¬ cj s (nth au V v)):Last V s (v+1) l:=by
 rcases h with ⟨a,b⟩|⟨u,a,b,c,d⟩
 ·exact .inl ⟨a,fun w hw=>(Nat.lt_or_eq_of_le (Nat.lt_succ_iff.1 hw)).elim (b w) (fun e=>e ▸ hn)⟩
 ·exact .inr ⟨u,by omega,b,c,fun w h1 h2=>(Nat.lt_or_eq_of_le (Nat.lt_succ_iff.1 h2)).elim (d w h1) (fun e=>e ▸ hn)⟩
theorem Last.take {V:List Pt} {s:Sg} {v:Nat} (hn:cj s (nth au V v)):Last V s (v+1) (v:Int):=.inr ⟨v,by omega,rfl,hn,fun w h1 h2=>by omega⟩
theorem EP.skip {os:List Sz} {V:List Pt} {i v:Nat} (hn:¬ cj (sgAt os i) (nth au V v)) (e:Nat × Nat):EP os V i (v+1) e↔EP os V i v e:=by
 unfold EP;refine⟨fun h=>?_,fun h=>?_⟩
 ·rcases h with h|⟨h1,h2⟩
  ·exact .inl h
  ·by_cases ee:e.2=v
   ·exact absurd (ee ▸ (nextOn_nth.1 h1).2.2.2.1) hn
   ·exact .inr ⟨h1,by omega⟩
 ·rcases h with h|⟨h1,h2⟩
  ·exact .inl h
  ·exact .inr ⟨h1,by omega⟩
theorem EP.none {os:List Sz} {V:List Pt} {i v:Nat} (hl:Last V (sgAt os i) v (-1)) (e:Nat × Nat):EP os V i (v+1) e↔EP os V i v e:=by
 have lD:∀ w,w<v→¬ cj (sgAt os i) (nth au V w):=by
  rcases hl with ⟨_,b⟩|⟨u,_,b,_,_⟩
  ·exact b
  ·omega
 unfold EP;refine⟨fun h=>?_,fun h=>?_⟩
 ·rcases h with h|⟨h1,h2⟩
  ·exact .inl h
  ·have:=nextOn_nth.1 h1
   by_cases ee:e.2=v
   ·exact absurd this.2.2.1 (lD _ (by omega))
   ·exact .inr ⟨h1,by omega⟩
 ·rcases h with h|⟨h1,h2⟩
  ·exact .inl h
  ·exact .inr ⟨h1,by omega⟩
theorem EP.put {os:List Sz} {V:List Pt} {i v u:Nat} (hv:v<V.length) (hn:cj (sgAt os i) (nth au V v)) (hl:Last V (sgAt os i) v (u:Int)) (e:Nat × Nat):EP os V i (v+1) e↔EP os V i v e∨e=(u,v):=by
 have hu:u<v∧cj (sgAt os i) (nth au V u)∧∀ w,u<w→w<v→¬ cj (sgAt os i) (nth au V w):=by
  rcases hl with ⟨a,_⟩|⟨u',a,b,c,d⟩
  ·omega
  ·have:u'=u:=by omega
   subst this;exact⟨a,c,d⟩
 unfold EP;refine⟨fun h=>?_,fun h=>?_⟩
 ·rcases h with h|⟨h1,h2⟩
  ·exact .inl (.inl h)
  ·by_cases ee:e.2=v
   ·right
    have h3:=nextOn_nth.1 h1;obtain⟨e1,e2⟩:=e;simp only at ee h3;subst ee
    have:e1=u:=by
     rcases Nat.lt_trichotomy e1 u with h|h|h
     ·exact absurd hu.2.1 (h3.2.2.2.2 u h hu.1)
     ·exact h
     ·exact absurd h3.2.2.1 (hu.2.2 e1 h h3.1)
    rw [this]
   ·exact .inl (.inr ⟨h1,by omega⟩)
 ·rcases h with (h|⟨h1,h2⟩)|h
  ·exact .inl h
  ·exact .inr ⟨h1,by omega⟩
  ·subst h
   exact .inr ⟨nextOn_nth.2 ⟨hu.1,hv,hu.2.1,hn,hu.2.2⟩,Nat.lt_succ_self _⟩
theorem EP.next {os:List Sz} {V:List Pt} {i:Nat} (e:Nat × Nat):EP os V i V.length e↔EP os V (i+1) 0 e:=by
 unfold EP;refine⟨fun h=>?_,fun h=>?_⟩
 ·rcases h with ⟨j,h1,h2⟩|⟨h1,h2⟩
  ·exact .inl ⟨j,by omega,h2⟩
  ·exact .inl ⟨i,by omega,h1⟩
 ·rcases h with ⟨j,h1,h2⟩|⟨h1,h2⟩
  ·by_cases ee:j=i
   ·subst ee;exact .inr ⟨h2,(nextOn_nth.1 h2).2.1⟩
   ·exact .inl ⟨j,by omega,h2⟩
  ·omega
theorem EP.end_iff {os:List Sz} {V:List Pt} {u v:Nat}:EP os V os.length 0 (u,v)↔∃ s ∈ os.map Sz.sg,kX V s u v:=by
 unfold EP
 constructor
 ·rintro (⟨j,h1,h2⟩|⟨_,h⟩)
  ·exact⟨_,bW (sgAt_get h1),h2⟩
  ·simp at h
 ·rintro⟨s,h1,h2⟩
  obtain⟨j,hj⟩:=List.getElem?_of_mem h1;obtain⟨a,rfl⟩:=sgAt_some hj;exact .inl ⟨j,a,h2⟩
theorem good05_any (g:Gp) (w:World) (h:g.ok):Calls prog 107 #[.agg #[.int .i64 g.x,.int .i64 g.y]] w fun e w'=>e=.returned (.int .i64 0)∧Pure w (fun _=>False) w' (fun _=>False):=by
 obtain⟨x,y⟩:=g;unfold Gp.ok fS at h;simp only at h;have d1:decide (x < -1073741824)=false:=by simp;omega
 have d2:decide ((1073741824:Int)<x)=false:=by simp;omega
 have d3:decide (y < -1073741824)=false:=by simp;omega
 have d4:decide ((1073741824:Int)<y)=false:=by simp;omega
 clear h;have hS:=aA.start w
 go_enter func107,ntmps107
 go_wp2_with (with_reducible first|refine cI hS fun b1 wb1 hS=>?_|refine aU 1 hS isAgg3 ?_)
 go_ret;exact⟨rfl,hS.pure _⟩
theorem check08_any (os:List Sz) (gs:List Gp) (ao ap:Option Addr) (no co np cp:Nat) (w:World) (S:Nat→Prop) (cJ:∀ t ∈ os,t.ok) (qm:∀ g ∈ gs,g.ok) (hv:bN w S 4 (.slice ao no co) os.length (os.flatMap sc)) (hg:bN w S 2 (.slice ap np cp) gs.length (gs.flatMap gc)) (dg:os.length≤512) (hlg:gs.length≤256) :
 Calls prog 57 #[.slice ao no co,.slice ap np cp] w fun e w'=>e=.returned (.int .i64 0)∧Pure w (fun _=>False) w' (fun _=>False):=by
 obtain rfl:no=os.length:=by obtain⟨h1,a,cap,h2,_⟩:=hv;cases h2;rfl
 obtain rfl:np=gs.length:=by obtain⟨h1,a,cap,h2,_⟩:=hg;cases h2;rfl
 have dS:=hv.bj;have jG:=hg.bj;have eo:decide ((512:Int)<(os.length:Int))=false:=by simp;omega
 have fH:decide ((256:Int)<(gs.length:Int))=false:=by simp;omega
 clear hv hg;have hS:=aA.start w
 go_enter func57,ntmps57
 go_wp2
 go_loopw [5] (fun v wr=>∃ k:Nat,k≤os.length∧v=.int .i64 (k:Int)∧aA w wr [.aH (Old w) w]) (fun v _=>os.length - (intOf v).toNat)
 case atStart=>exact⟨0,by omega,rfl,hS⟩
 case round =>
  clear hS;obtain⟨k,hk,rfl,hS⟩:=hrel
  by_cases cW:k<os.length
  ·obtain⟨t,ht⟩:∃ t,nth s0 os k=t:=⟨_,rfl⟩
   have hc:=eS tc s0 cW;rw [ht] at hc;have pI:=cJ t (by rw [← ht];exact cQ s0 os k cW);have v1:=fun w=>good05_any t.a w pI.1
   have v2:=fun w=>good05_any t.b w pI.2.1
   have bJ:=pI.2.2;have HE:∀ w,(Op.equalIn 10000 43 (.agg #[.int .i64 t.a.x,.int .i64 t.a.y]) (.agg #[.int .i64 t.b.x,.int .i64 t.b.y])).run prog w=.ok false w:=fun w=>by rw [pv,decide_eq_false bJ]
   clear ht pI bJ
   go_wp2_with (first|((with_reducible refine iH underlying23 sizeOf94 dS hc fun bq oq bO=>?_);have bD:dM _ _ ⟨bq,oq,none⟩ [.int .i64 t.a.x,.int .i64 t.a.y]:=bO.part 0 2;have bR:dM _ _ ⟨bq,oq+2,none⟩ [.int .i64 t.b.x,.int .i64 t.b.y]:=bO.part 2 2)|(with_reducible refine j9 hS isAgg43 sizeOf43 ?_))
   refine (v1 _).mono ?_;rintro e w5 ⟨rfl,hq⟩;have hS:=hS.below hq.below hq.drawn;simp only []
   go_wp2_with (first|((with_reducible refine iH underlying23 sizeOf94 dS hc fun bq oq bO=>?_);have bD:dM _ _ ⟨bq,oq,none⟩ [.int .i64 t.a.x,.int .i64 t.a.y]:=bO.part 0 2;have bR:dM _ _ ⟨bq,oq+2,none⟩ [.int .i64 t.b.x,.int .i64 t.b.y]:=bO.part 2 2)|(with_reducible refine j9 hS isAgg43 sizeOf43 ?_))
   refine (v2 _).mono ?_;rintro e w6 ⟨rfl,hq⟩;have hS:=hS.below hq.below hq.drawn;simp only [];go_wp2;refine dB [.p 0,.p 1,.p 2,.p 3,.r 4,.p 5,.p 6,.p 7,.p 8,.r 9,.p 10] [] hS fun w1 hS=>?_
   repeat (first|((with_reducible refine e9 underlying23 sizeOf94 dS hc fun bq oq bO=>?_);have bD:dM _ _ ⟨bq,oq,none⟩ [.int .i64 t.a.x,.int .i64 t.a.y]:=bO.part 0 2;have bR:dM _ _ ⟨bq,oq+2,none⟩ [.int .i64 t.b.x,.int .i64 t.b.y]:=bO.part 2 2)|(with_reducible first|refine qE isAgg43 sizeOf43 ?_|refine bU ?_))
   refine bE ?_;go_wp2;go_roundw
   case rel=>exact⟨k+1,by omega,by simp,hS⟩
   case measure=>simp [intOf];omega
  ·obtain rfl:k=os.length:=by omega
   go_wp2
   go_loopw [6] (fun v wr=>∃ k:Nat,k≤gs.length∧v=.int .i64 (k:Int)∧aA w wr [.aH (Old w) w]) (fun v _=>gs.length - (intOf v).toNat)
   case atStart=>exact⟨0,by omega,rfl,hS⟩
   case round =>
    clear hS;obtain⟨k,hk,rfl,hS⟩:=hrel
    by_cases cW:k<gs.length
    ·obtain⟨p,hp⟩:∃ p,nth g0 gs k=p:=⟨_,rfl⟩
     have hc:=eS yT g0 cW;rw [hp] at hc;have ho:=qm p (by rw [← hp];exact cQ g0 gs k cW);have vW:=fun w=>good05_any p w ho
     clear hp ho
     go_wp2_with (with_reducible first|refine iH underlying24 sizeOf43 jG hc fun bq oq bO=>?_|refine j9 hS isAgg43 sizeOf43 ?_)
     refine (vW _).mono ?_;rintro e w5 ⟨rfl,hq⟩;have hS:=hS.below hq.below hq.drawn;simp only [];go_wp2;go_roundw
     case rel=>exact⟨k+1,by omega,by simp,hS⟩
     case measure=>simp [intOf];omega
    ·obtain rfl:k=gs.length:=by omega
     go_wp2;go_ret;exact⟨rfl,hS.pure _⟩
end Go.Hp
