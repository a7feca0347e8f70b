/- Texts for the walk of the law: MG MH WE PS WS. -/
import Derived.Test.YtihpoboahbpaiaaGreatQ41
import Derived.Test.YtihpoboahbpaiaaGreatQ38
set_option maxRecDepth 100000
set_option maxHeartbeats 16000000
set_option linter.unusedVariables false
set_option linter.unusedSimpArgs false
namespace Go.Hp
open Go Go.RowKit
structure Gen (os:List Sz) (gs:List Gp):Prop where
 hos:∀ t ∈ os,t.ok∧t.sm
 hgs:∀ g ∈ gs,g.ok∧g.sm
 lo:os.length≤24
 lg:gs.length≤4
theorem net_ok {g:Gp} (h:g.net):g.ok∧g.sm:=by unfold Gp.net at h;unfold Gp.ok okC Gp.sm smC;omega
theorem upto_ok {g:Gp} {b:Int} (h:g.upto b) (hb:b≤60):g.ok∧g.sm:=by unfold Gp.upto at h;unfold Gp.ok okC Gp.sm smC;omega
theorem IsArr.at {w0 w wr:World} {H:List Chunk} {F S:Nat→Prop} {sg pt v e:Option Addr × Nat × Nat} {os:List Sz} {gs:List Gp} {V:List Pt} {es:List Ed} (h:IsArr wr S sg pt v e os gs V es) (hS:Heap w0 w (.frz F wr::H)) (hF:∀ k,S k→F k):IsArr w S sg pt v e os gs V es:=by
 obtain⟨prs,h3⟩:=h.vs;obtain⟨rs,h4,h5⟩:=h.es;exact⟨h.segs.move (hS.keep hF),h.pts.move (hS.keep hF),⟨prs,h3.at hS hF⟩,⟨rs,h4.move (hS.keep hF),h5.at hS hF⟩⟩
theorem IsArr.grow {w w':World} {S S':Nat→Prop} {sg pt v e:Option Addr × Nat × Nat} {os:List Sz} {gs:List Gp} {V:List Pt} {es:List Ed} (h:IsArr w S sg pt v e os gs V es) (hp:Pure w S w' S'):IsArr w' S' sg pt v e os gs V es:=by
 obtain⟨prs,h3⟩:=h.vs;obtain⟨rs,h4,h5⟩:=h.es;exact⟨h.segs.grow hp,h.pts.grow hp,⟨prs,h3.grow hp⟩,⟨rs,h4.grow hp,h5.grow hp⟩⟩
theorem Heap.frz3 {w0 w wr:World} {F:Nat→Prop} {c1 c2:Chunk} {H:List Chunk} (hS:Heap w0 w (.frz F wr::c1::c2::H)):Heap w0 w (.frz (fun k=>(F k∨c1.has k)∨c2.has k) w::H):=by
 have h1:=(hS.freeze 1 rfl).freeze 2 rfl;exact h1.join.join
end Go.Hp
namespace Go.Proofs
open Go.RowKit Go.Hp
theorem gen_of {o1 o2:List Sz} {xs:List Int} (h1:NetOk o1) (h2:SegsUp o2) (l1:o1.length≤20) (l2:o2.length≤4):Gen (o1++o2) ((xs.take 4).map gridZ):=by
 refine⟨fun t ht=>?_,fun g hg=>?_,by rw [List.length_append];omega,by simp;omega⟩
 ·rcases List.mem_append.1 ht with h|h
  ·obtain⟨a,b,c⟩:=h1 t h
   exact⟨⟨(net_ok a).1,(net_ok b).1,c⟩,(net_ok a).2,(net_ok b).2⟩
  ·obtain⟨a,b,c⟩:=h2 t h
   have hb:(32:Int)+2*(o2.length:Nat)≤60:=by omega
   exact⟨⟨(upto_ok a hb).1,(upto_ok b hb).1,c⟩,(upto_ok a hb).2,(upto_ok b hb).2⟩
 ·obtain⟨x,_,rfl⟩:=List.mem_map.1 hg
  have:=gridZ_bd x;exact upto_ok (b:=32) this (by decide)
end Go.Proofs
namespace Go.Hp
open Go Go.RowKit
theorem Ints.old {w:World} {S:Nat→Prop} {v:Value} {xs:List Int} (h:Ints w S v xs):Ints w (Old w) v xs:=⟨h.1.old,h.2⟩
theorem Ints.intro {w:World} {S:Nat→Prop} {v:Value} {n:Nat} {xs:List Int} (h:SlC w S 1 v n (iv xs)) (hi:∀ x ∈ xs,InI x):Ints w S v xs:=by
 have hn:n=xs.length:=by have:=h.1;rw [iv_length] at this;omega
 subst hn;exact⟨h,hi⟩
theorem RowsOf.old {w:World} {S:Nat→Prop} {v:Value} {I:List (List Nat)} (h:RowsOf w S v I):RowsOf w (Old w) v I:=by
 obtain⟨R,h1,h2,h3⟩:=h;exact⟨R,h1,h2.old,fun i hi=>Ints.old (h3 i hi)⟩
theorem IsFc.old {w:World} {S:Nat→Prop} {s1 s2 s3 s4 s5:Option Addr × Nat × Nat} {f:FRec} (h:IsFc w S s1 s2 s3 s4 s5 f):IsFc w (Old w) s1 s2 s3 s4 s5 f:=⟨Ints.old h.n,Ints.old h.l,Ints.old h.o,RowsOf.old h.i,RowsOf.old h.a⟩
end Go.Hp
namespace Go.Hp
open Go.Proofs.Tryz
open Go Go.RowKit
def lsTo (X:List (List Nat)) (i:Nat):List Int:=wencI X.length++(X.take i).flatMap fun l=>encIs (zs l)
def encLs (X:List (List Nat)):List Int:=lsTo X X.length
theorem lsTo_zero (X:List (List Nat)):wencI X.length=lsTo X 0:=by simp [lsTo]
theorem lsTo_succ {X:List (List Nat)} {i:Nat} (hi:i<X.length):lsTo X (i+1)=lsTo X i++encIs (zs (nth [] X i)):=by
 simp [lsTo,take_snoc [] X i hi]
theorem encIs_len (ls:List Int):(encIs ls).length≤10*(ls.length+1):=encTo_len _ (Nat.le_refl _)
theorem zs_len (l:List Nat):(zs l).length=l.length:=by simp [zs]
theorem lsTo_len {X:List (List Nat)} (hX:∀ i,i<X.length→(nth [] X i).length≤70000):∀ i,i≤X.length→(lsTo X i).length≤10+700010*i
 | 0,_=>by have:=encU_len 9 (zz X.length);rw [← lsTo_zero];unfold wencI;omega
 | i+1,h=>by
  have h1:=lsTo_len hX i (by omega);have h2:=encIs_len (zs (nth [] X i));have h3:=hX i (by omega);rw [zs_len] at h2;rw [lsTo_succ (by omega),List.length_append];omega
def encTw (f:FRec) (j:Nat):List Int:=((([]++encIs (zs f.N))++encIs f.L)++encIs f.O)++([f.I,f.A].take j).flatMap encLs
def encF (f:FRec):List Int:=encTw f 2
structure FBd (f:FRec):Prop where
 n:f.N.length≤70000
 l:f.L.length≤70000
 o:f.O.length≤70000
 i:f.I.length≤70000
 a:f.A.length≤70000
 is:∀ i,i<f.I.length→(nth [] f.I i).length≤70000
 al:∀ i,i<f.A.length→(nth [] f.A i).length≤70000
theorem encTw_len {f:FRec} (h:FBd f):∀ j,j≤2→(encTw f j).length≤3000000+50000000000*j:=fun j hj=>by
 have h1:=encIs_len (zs f.N);have h2:=encIs_len f.L;have h3:=encIs_len f.O;have h4:(encLs f.I).length≤10+700010*f.I.length:=lsTo_len h.is _ (Nat.le_refl _);have h5:(encLs f.A).length≤10+700010*f.A.length:=lsTo_len h.al _ (Nat.le_refl _);have:=h.n;have:=h.l;have:=h.o;have:=h.i;have:=h.a;rw [zs_len] at h1;have hj3:j=0∨j=1∨j=2:=by omega
 rcases hj3 with rfl|rfl|rfl <;> simp [encTw] <;> omega
end Go.Hp
namespace Go.Proofs
open Go.Proofs.Tryz
open Go.RowKit Go.Hp
theorem encode_any (s1 s2 s3 s4 s5:Option Addr × Nat × Nat) (f:FRec) (w:World) (hf:IsFc w (Old w) s1 s2 s3 s4 s5 f) (hb:FBd f) :
 Calls Tryz.prog 38 #[.agg #[sv s1,sv s2,sv s3,sv s4,sv s5]] w fun e w'=>∃ ad c,e=.returned (.slice ad (encF f).length c)∧Heap w w' [.frz (Old w) w,.row (.slice ad (encF f).length c) 5 1 (encF f).length (bv (encF f))]:=by
 obtain⟨an,nn,cn⟩:=s1;obtain⟨aL,nL,cL⟩:=s2;obtain⟨ao,no,co⟩:=s3;obtain⟨ai,ni,ci⟩:=s4;obtain⟨aa,na,ca⟩:=s5;have hN:Ints w (Old w) (.slice an nn cn) (zs f.N):=hf.n;have hL:Ints w (Old w) (.slice aL nL cL) f.L:=hf.l;have hO:Ints w (Old w) (.slice ao no co) f.O:=hf.o;have hI:RowsOf w (Old w) (.slice ai ni ci) f.I:=hf.i;have hA:RowsOf w (Old w) (.slice aa na ca) f.A:=hf.a;have hni:ni=f.I.length:=by obtain⟨R,h1,h2,_⟩:=hI;obtain⟨_,a,c,e,_⟩:=h2;cases e;rfl
 have hna:na=f.A.length:=by obtain⟨R,h1,h2,_⟩:=hA;obtain⟨_,a,c,e,_⟩:=h2;cases e;rfl
 have bn:=hb.n;have bl:=hb.l;have bo:=hb.o;have ht:=encTw_len hb;have hz:=zs_len f.N
 have hgen:∀ j,j<2→∃ (al:Option Addr) (cl:Nat) (X:List (List Nat)),(#[.slice ai ni ci,.slice aa na ca]:Array Value)[j]? = some (.slice al X.length cl)∧RowsOf w (Old w) (.slice al X.length cl) X∧X.length≤70000∧(∀ i,i<X.length→(nth [] X i).length≤70000)∧encTw f (j+1)=encTw f j++encLs X:=fun j hj=>by
  have hj2:j=0∨j=1:=by omega
  rcases hj2 with rfl|rfl
  ·subst hni;exact⟨ai,ci,f.I,rfl,hI,hb.i,hb.is,by simp [encTw]⟩
  ·subst hna;exact⟨aa,ca,f.A,rfl,hA,hb.a,hb.al,by simp [encTw]⟩
 have h0:encTw f 0=(([]++encIs (zs f.N))++encIs f.L)++encIs f.O:=by simp [encTw]
 have t1:=encIs_len (zs f.N);have t2:=encIs_len f.L;obtain⟨X1,hX1⟩:∃ X,([]:List Int)++encIs (zs f.N)=X:=⟨_,rfl⟩;obtain⟨X2,hX2⟩:∃ X,X1++encIs f.L=X:=⟨_,rfl⟩;have l1:X1.length≤700010:=by rw [← hX1,List.nil_append];omega
 have l2:X2.length≤1400020:=by rw [← hX2,List.length_append];omega
 rw [hX1,hX2] at h0;clear t1 t2;replace hgen:=Hd hgen;replace ht:=Hd ht;replace h0:=Hd h0;replace hX1:=Hd hX1;replace hX2:=Hd hX2;replace hb:=Hd hb;have hfin:(encF f)=encTw f 2:=rfl;rw [hfin];clear hfin hf hI hA hni hna;simp only [sv];have hS:=Heap.start w
 go_enter func38,ntmps38
 go_wp2_with (with_reducible first|refine bxA hS fun bx wbx hS=>?_|refine alA hS zeroValue167 fun b3 wb3 hS=>?_|refine ldB 1 hS isAgg22 ?_)
 have hS:=hS.addNil 5 1;simp only [NRH] at hS;have hS:=hS.order [2,3,0,1] rfl;simp only [NRF] at hS;refine (wints_any b3 0 nn cn none an [] (zs f.N) hN (by simp) (by rw [hz];simp;omega) hS).mono ?_;rintro e w1 ⟨rfl,d1,c1,hS1⟩;simp only [];rw [hX1.out] at hS1;clear hS;have hS:=hS1;clear hS1
 go_wp2_with (with_reducible refine ldB 3 hS isAgg22 ?_)
 refine (wints_any b3 c1 nL cL d1 aL X1 f.L hL (by simp) (by omega) hS).mono ?_;rintro e w2 ⟨rfl,d2,c2,hS1⟩;simp only [];rw [hX2.out] at hS1;clear hS;have hS:=hS1;clear hS1
 go_wp2_with (with_reducible refine ldB 3 hS isAgg22 ?_)
 refine (wints_any b3 c2 no co d2 ao X2 f.O hO (by simp) (by omega) hS).mono ?_;rintro e w3 ⟨rfl,d3,c3,hS1⟩;simp only [];rw [← h0.out] at hS1;clear hS;have hS:=hS1;clear hS1
 go_wp2_with (first|(with_reducible refine ldB 3 hS isAgg35 ?_)|((with_reducible refine g_bs (T:=168) ?_);refine seq_buildSlice (k:=1) (z:=.slice none 0 0) (len:=2) hS underlying168 sizeOf35 zeroValue35 (by decide) (by decide) (fill2s _ _ _ _ _ _) (fun b21 wb21 hS=>?_);simp only [NRM];simp only [NRH] at hS))
 try try simp only [NRG]
 go_loopw [23] (fun v23 wr=>∃ (j:Nat) (ad:Option Addr) (c:Nat),j≤2∧v23=.int .i64 (j:Int)∧Heap w wr [.blk b3 (.cells #[.slice ad (encTw f j).length c] 167 (0,0)),.row (.slice ad (encTw f j).length c) 5 1 (encTw f j).length (bv (encTw f j)),.frz (Old w) w,.blk bx (.cells #[.slice an nn cn,.slice aL nL cL,.slice ao no co,.slice ai ni ci,.slice aa na ca] 37 (0,0)),.blk b21 (.cells #[.slice ai ni ci,.slice aa na ca] 35 (0,0))]) (fun v23 _=>2 - (intOf v23).toNat)
 case atStart=>exact⟨0,d3,c3,by omega,rfl,hS⟩
 case round =>
  clear hS;obtain⟨j,ad,c,hj,rfl,hS⟩:=hrel;have htj:=ht.out j hj
  by_cases hj2:j<2
  ·obtain⟨al,cl,X,hlit,hX,hXl,hXs,hnx⟩:=hgen.out j hj2
   have hle:=lsTo_len hXs;have hz0:=lsTo_zero X;have hsu:=fun i (hi:i<X.length)=>lsTo_succ hi
   have hend:encTw f j++lsTo X X.length=encTw f (j+1):=by rw [hnx];rfl
   obtain⟨Y,hY⟩:∃ Y,encTw f j=Y:=⟨_,rfl⟩;rw [hY] at hS hend htj;have hii:InI ((X.length:Nat):Int):=by unfold InI;omega
   replace hle:=Hd hle;replace hz0:=Hd hz0;replace hsu:=Hd hsu;replace hend:=Hd hend;replace hXs:=Hd hXs;replace hY:=Hd hY;replace hii:=Hd hii;clear hnx
   go_wp2_with (first|(with_reducible refine ixS underlying168 sizeOf35 ?_)|((with_reducible refine g_load (T:=35) ?_);refine seq_of hS rfl (stp_load_blk (T:=35) 4 isAgg35 rfl rfl hlit ?_);simp only [NRM]))
   refine (wint_any b3 c ad Y (X.length:Int) hii.out (by omega) hS).mono ?_;rintro e w4 ⟨rfl,d4,c4,hS1⟩;simp only [];rw [hz0.out] at hS1;clear hS;go_wp2
   go_loopw [32] (fun v32 wr=>∃ (i:Nat) (ad:Option Addr) (c:Nat),i≤X.length∧v32=.int .i64 (i:Int)∧Heap w wr [.blk b3 (.cells #[.slice ad (Y++lsTo X i).length c] 167 (0,0)),.row (.slice ad (Y++lsTo X i).length c) 5 1 (Y++lsTo X i).length (bv (Y++lsTo X i)),.frz (Old w) w,.blk bx (.cells #[.slice an nn cn,.slice aL nL cL,.slice ao no co,.slice ai ni ci,.slice aa na ca] 37 (0,0)),.blk b21 (.cells #[.slice ai ni ci,.slice aa na ca] 35 (0,0))]) (fun v32 _=>X.length - (intOf v32).toNat)
   case atStart=>exact⟨0,d4,c4,by omega,rfl,hS1⟩
   case round =>
    clear hS1;obtain⟨i,ad,c,hi,rfl,hS⟩:=hrel
    by_cases hil:i<X.length
    ·obtain⟨R,ad1,nq,cq,hsl,hcell,hrow,hnq⟩:=rows_cell hX hil
     have hl1:=hle.out i (by omega);have hl2:=hXs.out i hil;have hlen:(Y++lsTo X i).length=Y.length+(lsTo X i).length:=List.length_append;have hz2:=zs_len (nth [] X i);have hs1:(Y++lsTo X i)++encIs (zs (nth [] X i))=Y++lsTo X (i+1):=by rw [hsu.out i hil,List.append_assoc]
     subst hnq;replace hlen:=Hd hlen;replace hz2:=Hd hz2;replace hs1:=Hd hs1
     go_wp2_with (first|(with_reducible refine ixE underlying35 sizeOf22 hsl hcell fun bq oq hcellq=>?_)|((with_reducible refine g_load (T:=22) ?_);refine seq_of hS rfl (stp_load (T:=22) isAgg22 rfl (by with_reducible assumption) (by simp) rfl ?_);simp only [NRM]))
     refine (wints_any b3 c (nth [] X i).length cq ad ad1 (Y++lsTo X i) (zs (nth [] X i)) hrow (by simp) (by rw [hlen.out,hz2.out];omega) hS).mono ?_;rintro e w5 ⟨rfl,d5,c5,hS1⟩;simp only [];rw [hs1.out] at hS1;clear hS;have hS:=hS1;clear hS1;go_wp2;go_roundw
     case rel=>exact⟨i+1,d5,c5,by omega,by simp,hS⟩
     case measure=>simp [intOf];omega
    ·obtain rfl:X.length=i:=by omega
     rw [hend.out] at hS;go_wp2;go_roundw
     case rel=>exact⟨j+1,ad,c,by omega,by simp,hS⟩
     case measure=>simp [intOf];omega
  ·obtain rfl:2=j:=by omega
   go_wp2_with (fail)
   refine (wdone_any b3 c ad (encTw f 2) (by omega) hS).mono ?_;rintro e w4 ⟨d4,c4,rfl,hS1⟩;simp only [];simp only [NRH] at hS1;go_wp2;go_ret;exact⟨d4,c4,rfl,hS1.sb⟩
theorem equalF_any (s1 s2 s3 s4 s5 t1 t2 t3 t4 t5:Option Addr × Nat × Nat) (f:FRec) (w:World) (hf:IsFc w (Old w) s1 s2 s3 s4 s5 f) (hg:IsFc w (Old w) t1 t2 t3 t4 t5 f) (hb:FBd f) :
 Calls Tryz.prog 14 #[.agg #[sv s1,sv s2,sv s3,sv s4,sv s5],.agg #[sv t1,sv t2,sv t3,sv t4,sv t5]] w fun e w'=>e=.returned (.bool true)∧Pure w (fun _=>False) w' (fun _=>False):=by
 have hl:=encTw_len hb 2 (by omega);have c1:=fun w' h=>encode_any s1 s2 s3 s4 s5 f w' h hb
 have c2:=fun w' h=>encode_any t1 t2 t3 t4 t5 f w' h hb
 have hl2:(encF f).length≤1000000000000:=by show (encTw f 2).length≤_;omega
 obtain⟨Y,hY⟩:∃ Y,encF f=Y:=⟨_,rfl⟩;rw [hY] at hl2;simp only [hY] at c1 c2;clear hl hY hb;have hS:=Heap.start w;obtain⟨a1,n1,x1⟩:=s1;obtain⟨a2,n2,x2⟩:=s2;obtain⟨a3,n3,x3⟩:=s3;obtain⟨a4,n4,x4⟩:=s4;obtain⟨a5,n5,x5⟩:=s5;obtain⟨b1,m1,y1⟩:=t1;obtain⟨b2,m2,y2⟩:=t2;obtain⟨b3,m3,y3⟩:=t3;obtain⟨b4,m4,y4⟩:=t4;obtain⟨b5,m5,y5⟩:=t5;simp only [sv] at c1 c2 ⊢
 go_enter func14,ntmps14
 go_wp2_with (with_reducible refine bxA hS fun bx wbx hS=>?_)
 refine rg0 [.r 0,.r 2,.e 1,.e 3,.e 4,.p 5] [] hS fun w1 hS=>?_
 repeat (with_reducible first|refine skL ?_|refine sldA 1 isAgg37 sizeOf37 ?_|refine sldA 2 isAgg37 sizeOf37 ?_|refine spL ?_)
 refine exL ?_
 go_wp2_with (fail)
 refine (c1 _ ((hf.at hS (fun _ h=>h)).old)).mono ?_;rintro e w' ⟨d1,z1,rfl,h1⟩;simp only [];go_step;have hS:=hS.import h1;simp only [NRH] at hS;refine ext_end hS.sb ?_;refine mvs ?_;refine exL ?_
 go_wp2_with (fail)
 refine (c2 _ ((hg.at hS (fun _ h=>h)).old)).mono ?_;rintro e w' ⟨d2,z2,rfl,h2⟩;simp only [];go_step;have hS:=hS.import h2;simp only [NRH] at hS;refine ext_end hS.sb ?_;refine mvs ?_;refine exL ?_
 go_wp2_with (fail)
 refine (equalB_any d1 d2 z1 z2 Y _ (hS.rowSl 3 rfl).old (hS.rowSl 4 rfl).old hl2).mono ?_;rintro e w' ⟨rfl,h3⟩;simp only [];go_step;have hS:=hS.import h3;simp only [List.append_nil] at hS;refine ext_end hS.sb ?_;refine mvs ?_;refine snL ?_;go_wp2;go_ret;exact⟨rfl,hS.pure _⟩
end Go.Proofs
namespace Go.Hp
open Go
structure Mv2 where
 k:Int
 x:Int
 y:Int
 pos:0<k
variable (m:Mv2)
def Mv2.g (p:Gp):Gp:=⟨m.k*p.x+m.x,m.k*p.y+m.y⟩
def Mv2.s (s:Sz):Sz:=⟨m.g s.a,m.g s.b⟩
def Mv2.p (p:Pt):Pt:=⟨(m.k:Rat)*p.x+m.x,(m.k:Rat)*p.y+m.y⟩
def Mv2.sg (s:Sg):Sg:=⟨m.p s.a,m.p s.b⟩
theorem Mv2.kpos:(0:Rat)<(m.k:Rat):=by have:=m.pos;exact_mod_cast this
theorem Mv2.pt (g:Gp):(m.g g).pt=m.p g.pt:=by
 unfold Mv2.g Mv2.p Gp.pt;simp only [Rat.intCast_add,Rat.intCast_mul]
theorem Mv2.ssg (s:Sz):(m.s s).sg=m.sg s.sg:=by
 unfold Mv2.s Mv2.sg Sz.sg;rw [m.pt,m.pt]
theorem mul_lt {k a b:Rat} (hk:0<k):k*a<k*b↔a<b:=Rat.mul_lt_mul_left hk
theorem mul_le {k a b:Rat} (hk:0<k):k*a≤k*b↔a≤b:=by
 have:=mul_lt (a:=b) (b:=a) hk
 grind
theorem lin_lt {k x a b:Rat} (hk:0<k):k*a+x<k*b+x↔a<b:=by
 have:=mul_lt (a:=a) (b:=b) hk;grind
theorem lin_le {k x a b:Rat} (hk:0<k):k*a+x≤k*b+x↔a≤b:=by
 have:=mul_le (a:=a) (b:=b) hk;grind
theorem lin_eq {k x a b:Rat} (hk:0<k):k*a+x=k*b+x↔a=b:=by
 have h1:=lin_le (x:=x) (a:=a) (b:=b) hk;have h2:=lin_le (x:=x) (a:=b) (b:=a) hk
 grind
theorem Mv2.lt {p q:Pt}:(m.p p).lt (m.p q)↔p.lt q:=by
 unfold Pt.lt Mv2.p;simp only [lin_lt m.kpos,lin_eq m.kpos]
theorem Mv2.inj {p q:Pt}:m.p p=m.p q↔p=q:=by
 obtain⟨a,b⟩:=p;obtain⟨c,d⟩:=q;unfold Mv2.p;simp only [Pt.mk.injEq,lin_eq m.kpos]
theorem Mv2.surj (q:Pt):∃ p,m.p p=q:=by
 have hk:=m.kpos;obtain⟨a,b⟩:=q;refine⟨⟨(a - m.x) / m.k,(b - m.y) / m.k⟩,?_⟩;unfold Mv2.p;have hne:(m.k:Rat)≠0:=by grind
 simp only [Pt.mk.injEq]
 constructor
 ·grind
 ·grind
theorem Mv2.area (a b c:Pt):area (m.p a) (m.p b) (m.p c)=(m.k:Rat)*m.k*area a b c:=by
 unfold Hp.area Mv2.p;grind
theorem Mv2.det (s t:Sg):det (m.sg s) (m.sg t)=(m.k:Rat)*m.k*det s t:=by
 unfold Hp.det Mv2.sg Mv2.p;grind
theorem Mv2.k2:(0:Rat)<(m.k:Rat)*m.k:=Rat.mul_pos m.kpos m.kpos
theorem lin_min {k x a b:Rat} (hk:0<k):min (k*a+x) (k*b+x)=k*min a b+x:=by
 have:=lin_le (x:=x) (a:=a) (b:=b) hk
 rcases Rat.le_total (a:=a) (b:=b) with h|h <;> grind
theorem lin_max {k x a b:Rat} (hk:0<k):max (k*a+x) (k*b+x)=k*max a b+x:=by
 have:=lin_le (x:=x) (a:=a) (b:=b) hk
 rcases Rat.le_total (a:=a) (b:=b) with h|h <;> grind
theorem Mv2.onS {s:Sg} {p:Pt}:onS (m.sg s) (m.p p)↔onS s p:=by
 unfold Hp.onS inBox
 have h1:Hp.area (m.sg s).a (m.sg s).b (m.p p)=0↔Hp.area s.a s.b p=0:=by
  rw [show (m.sg s).a=m.p s.a from rfl,show (m.sg s).b=m.p s.b from rfl,m.area];have:=m.k2
  constructor
  ·intro h
   rcases Rat.mul_eq_zero.1 h with h|h
   ·grind
   ·exact h
  ·intro h;rw [h];grind
 rw [h1];unfold Mv2.sg Mv2.p;simp only [lin_min m.kpos,lin_max m.kpos,lin_le m.kpos]
theorem Mv2.isCut {s t:Sg} {p:Pt}:isCut (m.sg s) (m.sg t) (m.p p)↔isCut s t p:=by
 unfold Hp.isCut
 have h1:Hp.det (m.sg s) (m.sg t)≠0↔Hp.det s t≠0:=by
  rw [m.det];have:=m.k2
  constructor
  ·intro h e;apply h;rw [e];grind
  ·intro h e
   rcases Rat.mul_eq_zero.1 e with e|e
   ·grind
   ·exact h e
 rw [m.onS,m.onS,h1,show (m.sg s).a=m.p s.a from rfl,show (m.sg s).b=m.p s.b from rfl,show (m.sg t).a=m.p t.a from rfl,show (m.sg t).b=m.p t.b from rfl,m.inj,m.inj,m.inj,m.inj]
theorem Mv2.isVert {ss:List Sg} {ps:List Pt} {p:Pt}:isVert (ss.map m.sg) (ps.map m.p) (m.p p)↔isVert ss ps p:=by
 unfold Hp.isVert
 have h1:m.p p ∈ ps.map m.p↔p ∈ ps:=by
  rw [List.mem_map];exact⟨fun ⟨q,hq,e⟩=>by rw [m.inj] at e;exact e ▸ hq,fun h=>⟨p,h,rfl⟩⟩
 have h2:(∃ s ∈ ss.map m.sg,m.p p=s.a∨m.p p=s.b)↔∃ s ∈ ss,p=s.a∨p=s.b:=by
  constructor
  ·rintro⟨s,hs,h⟩
   obtain⟨t,ht,rfl⟩:=List.mem_map.1 hs;exact⟨t,ht,h.imp m.inj.1 m.inj.1⟩
  ·rintro⟨s,hs,h⟩
   exact⟨m.sg s,List.mem_map.2 ⟨s,hs,rfl⟩,h.imp (fun e=>by rw [e];rfl) (fun e=>by rw [e];rfl)⟩
 have h3:(∃ i j:Nat,∃ s t,i≠j∧(ss.map m.sg)[i]? = some s∧(ss.map m.sg)[j]? = some t∧Hp.isCut s t (m.p p))↔∃ i j:Nat,∃ s t,i≠j∧ss[i]? = some s∧ss[j]? = some t∧Hp.isCut s t p:=by
  simp only [List.getElem?_map,Option.map_eq_some_iff]
  constructor
  ·rintro⟨i,j,_,_,hij,⟨s,hs,rfl⟩,⟨t,ht,rfl⟩,hc⟩
   exact⟨i,j,s,t,hij,hs,ht,m.isCut.1 hc⟩
  ·rintro⟨i,j,s,t,hij,hs,ht,hc⟩
   exact⟨i,j,_,_,hij,⟨s,hs,rfl⟩,⟨t,ht,rfl⟩,m.isCut.2 hc⟩
 rw [h1,h2,h3]
theorem Mv2.nextOn {V:List Pt} {s:Sg} {u v:Nat}:nextOn (V.map m.p) (m.sg s) u v↔nextOn V s u v:=by
 unfold Hp.nextOn;simp only [List.getElem?_map,Option.map_eq_some_iff]
 constructor
 ·rintro⟨h,_,_,⟨p,hp,rfl⟩,⟨q,hq,rfl⟩,h1,h2,h3⟩
  exact⟨h,p,q,hp,hq,m.onS.1 h1,m.onS.1 h2,fun w r a b c d=>h3 w _ a b ⟨r,c,rfl⟩ (m.onS.2 d)⟩
 ·rintro⟨h,p,q,hp,hq,h1,h2,h3⟩
  exact⟨h,_,_,⟨p,hp,rfl⟩,⟨q,hq,rfl⟩,m.onS.2 h1,m.onS.2 h2,fun w r a b ⟨r',c,e⟩ d=>h3 w r' a b c (m.onS.1 (by rw [e];exact d))⟩
theorem Arr0.scaled {ss:List Sg} {ps V:List Pt} {E:List (Nat × Nat)} (h:Arr0 ss ps V E):Arr0 (ss.map m.sg) (ps.map m.p) (V.map m.p) E:=by
 refine⟨?_,fun p=>?_,h.se,fun u v=>?_⟩
 ·rw [List.pairwise_map]
  exact h.sv.imp fun a=>m.lt.2 a
 ·obtain⟨q,rfl⟩:=m.surj p
  rw [m.isVert,← h.mv,List.mem_map];exact⟨fun ⟨r,hr,e⟩=>by rw [m.inj] at e;exact e ▸ hr,fun h=>⟨q,h,rfl⟩⟩
 ·rw [h.me]
  constructor
  ·rintro⟨s,hs,hn⟩
   exact⟨m.sg s,List.mem_map.2 ⟨s,hs,rfl⟩,m.nextOn.2 hn⟩
  ·rintro⟨_,h1,hn⟩
   obtain⟨s,hs,rfl⟩:=List.mem_map.1 h1;exact⟨s,hs,m.nextOn.1 hn⟩
theorem Mv2.ne {s:Sz} (h:s.a≠s.b):(m.s s).a≠(m.s s).b:=fun e=>h (by
 have hk:=m.pos;obtain⟨⟨a,b⟩,⟨c,d⟩⟩:=s;have e:(⟨m.k*a+m.x,m.k*b+m.y⟩:Gp)=⟨m.k*c+m.x,m.k*d+m.y⟩:=e;rw [Gp.mk.injEq] at e ⊢;obtain⟨e1,e2⟩:=e;have e1:m.k*a=m.k*c:=by omega
 have e2:m.k*b=m.k*d:=by omega
 exact⟨Int.eq_of_mul_eq_mul_left (by omega) e1,Int.eq_of_mul_eq_mul_left (by omega) e2⟩)
theorem Mv2.dir {s:Sz} (h:s.a≠s.b):dirZ (m.s s)=dirZ s:=by
 obtain⟨h1,k,hk,hx,hy⟩:=dirZ_spec h;obtain⟨h2,l,hl,gx,gy⟩:=dirZ_spec (m.ne h);have ex:(m.s s).b.x - (m.s s).a.x=m.k*(s.b.x - s.a.x):=by show (m.k*s.b.x+m.x) - (m.k*s.a.x+m.x)=_;rw [Int.mul_sub];omega
 have ey:(m.s s).b.y - (m.s s).a.y=m.k*(s.b.y - s.a.y):=by show (m.k*s.b.y+m.y) - (m.k*s.a.y+m.y)=_;rw [Int.mul_sub];omega
 rw [ex,hx] at gx;rw [ey,hy] at gy;refine h2.eq h1 ?_;have hk0:=m.pos;generalize dirZ (m.s s)=d at *;generalize dirZ s=e at *;have h3:(m.k*k*l)*(d.x*e.y)=(m.k*k*l)*(d.y*e.x):=by grind
 have h4:m.k*k*l≠0:=by
  intro h
  rcases Int.mul_eq_zero.1 h with h|h
  ·rcases Int.mul_eq_zero.1 h with h|h
   ·omega
   ·exact hk h
  ·exact hl h
 exact Int.eq_of_mul_eq_mul_left h4 h3
theorem ArrP.scaled {os:List Sz} {gs:List Gp} {V:List Pt} {es:List Ed} (hos:∀ t ∈ os,t.a≠t.b) (h:ArrP os gs V es):ArrP (os.map m.s) (gs.map m.g) (V.map m.p) es:=by
 have e1:(os.map m.s).map Sz.sg=(os.map Sz.sg).map m.sg:=by rw [List.map_map,List.map_map];exact List.map_congr_left fun s _=>m.ssg s
 have e2:(gs.map m.g).map Gp.pt=(gs.map Gp.pt).map m.p:=by rw [List.map_map,List.map_map];exact List.map_congr_left fun s _=>m.pt s
 refine⟨by rw [e1,e2];exact h.arr.scaled m,fun e he i=>?_,h.ofs,fun e he=>?_⟩
 ·rw [h.of e he,List.getElem?_map]
  simp only [Option.map_eq_some_iff]
  constructor
  ·rintro⟨s,hs,hn⟩
   exact⟨_,⟨s,hs,rfl⟩,by rw [m.ssg];exact m.nextOn.2 hn⟩
  ·rintro⟨_,⟨s,hs,rfl⟩,hn⟩
   rw [m.ssg] at hn;exact⟨s,hs,m.nextOn.1 hn⟩
 ·obtain⟨s,hs,hn,hd⟩:=h.dir e he
  exact⟨m.s s,List.mem_map.2 ⟨s,hs,rfl⟩,by rw [m.ssg];exact m.nextOn.2 hn,by rw [hd,m.dir (hos s hs)]⟩
theorem cmpQ_mul {c a:Rat} (hc:0<c):cmpQ (c*a) 0=cmpQ a 0:=by
 have h1:=mul_lt (a:=a) (b:=0) hc;have h2:=mul_lt (a:=0) (b:=a) hc;have h0:c*0=0:=by grind
 rw [h0] at h1 h2;unfold cmpQ;simp only [h1,h2]
theorem Mv2.nth {V:List Pt} {i:Nat} (hi:i<V.length):nth pt0 (V.map m.p) i=m.p (nth pt0 V i):=by
 rw [nth_eq _ _ _ (by simpa using hi),nth_eq _ _ _ hi,List.getElem_map]
section
variable {V:List Pt} {es:List Ed} (hab:∀ e ∈ es,e.a<V.length∧e.b<V.length)
 include hab
theorem Mv2.sdV {e x:Nat} (he:e<es.length) (hx:x<V.length):sdV (V.map m.p) es e x=sdV V es e x:=by
 obtain⟨h1,h2⟩:=hab _ (nth_mem ed0 es e he);unfold Hp.sdV;rw [m.nth h1,m.nth h2,m.nth hx,m.area,cmpQ_mul m.k2]
 omit hab in
theorem Mv2.xleV {u v:Nat} (hu:u<V.length) (hv:v<V.length):xleV (V.map m.p) u v=xleV V u v:=by
  unfold Hp.xleV;rw [m.nth hu,m.nth hv];unfold Mv2.p;simp only [lin_le m.kpos]
theorem Mv2.higherV {e f:Nat} (he:e<es.length) (hf:f<es.length):higherV (V.map m.p) es e f=higherV V es e f:=by
 obtain⟨h1,h2⟩:=hab _ (nth_mem ed0 es e he);obtain⟨h3,h4⟩:=hab _ (nth_mem ed0 es f hf);unfold Hp.higherV;rw [m.sdV hab he h3,m.sdV hab he h4,m.sdV hab hf h1,m.sdV hab hf h2]
theorem Mv2.skipV {v e:Nat} (he:e<es.length) (hv:v<V.length):skipV (V.map m.p) es v e=skipV V es v e:=by
 obtain⟨h1,h2⟩:=hab _ (nth_mem ed0 es e he);unfold Hp.skipV;rw [m.xleV h1 hv,m.xleV h2 hv,m.sdV hab he hv]
theorem Mv2.belTo {v:Nat} (hv:v<V.length):∀ k,k≤es.length→belTo (V.map m.p) es v k=belTo V es v k
 | 0,_=>rfl
 | k+1,hk=>by
  have ih:=Mv2.belTo hv k (by omega);have hl:=belTo_lt V es v k;have e1:∀ W:List Pt,Hp.belTo W es v (k+1)=if Hp.skipV W es v k then Hp.belTo W es v k else if Hp.belTo W es v k<0 then (k:Int) else if Hp.higherV W es k (Hp.belTo W es v k).toNat then (k:Int) else Hp.belTo W es v k:=fun _=>rfl
  rw [e1,e1,ih,m.skipV hab (by omega) hv]
  by_cases hb:Hp.belTo V es v k<0
  ·simp only [hb,if_true]
  ·rw [m.higherV hab (by omega) (by omega)]
theorem Mv2.belO {v:Nat} (hv:v<V.length):belO (V.map m.p) es v=belO V es v:=by
 unfold Hp.belO;rw [m.belTo hab hv _ (Nat.le_refl _)]
end
def FI.wb (x:FI) (b:Nat→Option Nat):FI:=⟨x.N,x.m,x.n,x.root,x.out,x.hasE,b⟩
theorem FI.ph2_bel (x:FI) (b:Nat→Option Nat):∀ h,(x.wb b).ph2 h=x.ph2 h
 | 0=>rfl
 | h+1=>by
  have ih:=FI.ph2_bel x b h;have e:∀ y:FI,y.ph2 (h+1)=if nth 0 (y.ph2 h).1 h = -1 then (setAll (y.ph2 h).1 (orb y.N h) (y.ph2 h).2.length,(y.ph2 h).2++[(leastF y.N h:Int)]) else y.ph2 h:=fun _=>rfl
  rw [e,e,ih];rfl
theorem FI.L2_bel (x:FI) (b:Nat→Option Nat):(x.wb b).L2=x.L2∧(x.wb b).O=x.O:=by
 have h:=FI.ph2_bel x b x.N.length;exact⟨congrArg Prod.fst h,congrArg Prod.snd h⟩
theorem FI.ph3_bel (x:FI) (b:Nat→Option Nat):∀ v,(∀ u,u<v→b u=x.bel u)→(x.wb b).ph3 v=x.ph3 v
 | 0,_=>by
  obtain⟨h1,h2⟩:=FI.L2_bel x b;have e:∀ y:FI,y.ph3 0=⟨y.L2,List.replicate y.O.length [],List.replicate y.O.length []⟩:=fun _=>rfl
  rw [e,e,h1,h2]
 | v+1,h=>by
  have ih:=FI.ph3_bel x b v (fun u hu=>h u (by omega));have e:∀ y:FI,y.ph3 (v+1)=y.step3 (y.ph3 v) v:=fun _=>rfl
  have hf:∀ L,(x.wb b).face L v=x.face L v:=fun L=>by
   have hb:(x.wb b).bel v=x.bel v:=h v (by omega);unfold FI.face;rw [hb]
  rw [e,e,ih];unfold FI.step3;rw [hf];rfl
theorem Mv2.fr {V:List Pt} {es:List Ed} (hab:∀ e ∈ es,e.a<V.length∧e.b<V.length) (RL:List (List Nat)) (out:Nat→Nat):(faceIn (V.map m.p) es RL out).fr=(faceIn V es RL out).fr:=by
 have e1:faceIn (V.map m.p) es RL out=(faceIn V es RL out).wb (Hp.belO (V.map m.p) es):=by
  unfold faceIn FI.wb;rw [List.length_map]
 have e2:=FI.ph3_bel (faceIn V es RL out) (Hp.belO (V.map m.p) es) V.length (fun u hu=>m.belO hab hu);have e3:=(FI.L2_bel (faceIn V es RL out) (Hp.belO (V.map m.p) es)).2;rw [e1];have e:∀ y:FI,y.fr=⟨y.N,(y.ph3 y.n).L,y.O,(y.ph3 y.n).I.map srtN,(y.ph3 y.n).A⟩:=fun _=>rfl
 have en:((faceIn V es RL out).wb (Hp.belO (V.map m.p) es)).n=V.length:=rfl;have en2:(faceIn V es RL out).n=V.length:=rfl;rw [e,e,en,en2,e2,e3];rfl
end Go.Hp
namespace Go.Hp
open Go.Proofs.Tryz
open Go Go.RowKit
structure Mv2.Ok (m:Mv2):Prop where
 k:m.k≤1048576
 x:-536870912≤m.x∧m.x≤536870912
 y:-536870912≤m.y∧m.y≤536870912
theorem mul_bd2 {k x:Int} (h0:0<k) (h1:k≤1048576) (hx:smC x):-104857600≤k*x∧k*x≤104857600:=by
 obtain⟨a,b⟩:=hx;have h2:k*x≤k*100:=Int.mul_le_mul_of_nonneg_left b (by omega);have h3:k*(-100)≤k*x:=Int.mul_le_mul_of_nonneg_left a (by omega);omega
theorem Mv2.ok (m:Mv2) (h:m.Ok) {g:Gp} (hg:g.sm):(m.g g).ok:=by
 have h1:=mul_bd2 m.pos h.k hg.1;have h2:=mul_bd2 m.pos h.k hg.2;have:=h.x;have:=h.y;unfold Mv2.g Gp.ok okC;simp only;omega
structure Mv2.Fit (m:Mv2) (g:Gp):Prop where
 a:-1073741824≤m.k*g.x∧m.k*g.x≤1073741824
 b:-1073741824≤m.k*g.y∧m.k*g.y≤1073741824
 x:-1073741824≤m.x∧m.x≤1073741824
 y:-1073741824≤m.y∧m.y≤1073741824
theorem Mv2.Ok.fit {m:Mv2} (ho:m.Ok) {g:Gp} (hg:g.sm):m.Fit g:=by
 have h1:=mul_bd2 m.pos ho.k hg.1;have h2:=mul_bd2 m.pos ho.k hg.2;have:=ho.x;have:=ho.y;exact⟨by omega,by omega,by omega,by omega⟩
def Gp.s48 (g:Gp):Prop:=(-48≤g.x∧g.x≤48)∧-48≤g.y∧g.y≤48
structure Mv2.Far (m:Mv2):Prop where
 k:m.k≤16777216
 x:-268435456≤m.x∧m.x≤268435456
 y:-268435456≤m.y∧m.y≤268435456
theorem mul_bd48 {k x:Int} (h0:0<k) (h1:k≤16777216) (hx:-48≤x∧x≤48):-805306368≤k*x∧k*x≤805306368:=by
 obtain⟨a,b⟩:=hx;have h2:k*x≤k*48:=Int.mul_le_mul_of_nonneg_left b (by omega);have h3:k*(-48)≤k*x:=Int.mul_le_mul_of_nonneg_left a (by omega);omega
theorem Mv2.Far.fit {m:Mv2} (ho:m.Far) {g:Gp} (hg:g.s48):m.Fit g:=by
 have h1:=mul_bd48 m.pos ho.k hg.1;have h2:=mul_bd48 m.pos ho.k hg.2;have:=ho.x;have:=ho.y;exact⟨by omega,by omega,by omega,by omega⟩
theorem Mv2.Far.ok {m:Mv2} (ho:m.Far) {g:Gp} (hg:g.s48):(m.g g).ok:=by
 have h1:=mul_bd48 m.pos ho.k hg.1;have h2:=mul_bd48 m.pos ho.k hg.2;have:=ho.x;have:=ho.y;unfold Mv2.g Gp.ok okC;simp only;omega
end Go.Hp
namespace Go.Proofs
open Go.Proofs.Tryz
open Go.RowKit Go.Hp
theorem scaledP_fit (m:Mv2) (g:Gp) (hf:m.Fit g) (w:World) :
 Calls Tryz.prog 11 #[.agg #[.int .i64 g.x,.int .i64 g.y],.int .i64 m.k,.agg #[.int .i64 m.x,.int .i64 m.y]] w fun e w'=>e=.returned (.agg #[.int .i64 (m.g g).x,.int .i64 (m.g g).y])∧Pure w (fun _=>False) w' (fun _=>False):=by
 obtain⟨⟨a1,a2⟩,⟨b1,b2⟩,⟨x1,x2⟩,⟨y1,y2⟩⟩:=hf;obtain⟨g1,g2⟩:=g;have e1:(m.g ⟨g1,g2⟩).x=m.k*g1+m.x:=rfl;have e2:(m.g ⟨g1,g2⟩).y=m.k*g2+m.y:=rfl;rw [e1,e2];simp only at a1 a2 b1 b2;clear e1 e2;obtain⟨k,x,y,hk⟩:=m;simp only at a1 a2 b1 b2 x1 x2 y1 y2 ⊢;obtain⟨p,hp⟩:∃ p,k*g1=p:=⟨_,rfl⟩;obtain⟨q,hq⟩:∃ q,k*g2=q:=⟨_,rfl⟩;rw [hp] at a1 a2 ⊢;rw [hq] at b1 b2 ⊢;have u1:IntKind.i64.wrap p=p:=w6;have u2:IntKind.i64.wrap q=q:=w6;have u3:IntKind.i64.wrap (p+x)=p+x:=w6;have u4:IntKind.i64.wrap (q+y)=q+y:=w6;have hS:=Heap.start w
 go_enter func11,ntmps11
 go_wp2_with (with_reducible first|refine bxA hS fun bx wbx hS=>?_|refine alA hS zeroValue29 fun b6 wb6 hS=>?_|refine ldB 1 hS isAgg3 ?_|refine ldB 2 hS isAgg3 ?_|refine stA 3 hS sizeOf29 fun _ hS=>?_)
 exact ret_c 3 hS rfl rfl rfl isAgg29 sizeOf29 rfl rfl ⟨rfl,hS.pure _⟩
theorem bound_any (n b:Int) (hn:InI n) (h0:0≤b) (h1:b≤1000000000) (w:World) :
 Calls Tryz.prog 10 #[.int .i64 n,.int .i64 b] w fun e w'=>(∃ z:Int,e=.returned (.int .i64 z)∧-b≤z∧z≤b)∧w=w':=by
 have u1:IntKind.i64.wrap (2*b)=2*b:=w6;have u2:IntKind.i64.wrap (2*b+1)=2*b+1:=w6;have hz:0≤aro n (2*b+1)∧aro n (2*b+1)<2*b+1:=aro_lt n (by omega);obtain⟨z,hz0⟩:∃ z,aro n (2*b+1)=z:=⟨_,rfl⟩;rw [hz0] at hz;obtain⟨z1,z2⟩:=hz;have u3:IntKind.i64.wrap (z - b)=z - b:=w6;have ca:=fun w'=>aro_any n (2*b+1) w' (by omega) (by omega) hn
 rw [hz0] at ca
 go_enter func10,ntmps10
 go_wp2_with (fail)
 refine (ca _).mono ?_;rintro e w' ⟨rfl,rfl⟩;simp only [];go_wp2;go_ret;exact⟨⟨z - b,rfl,by omega,by omega⟩,rfl⟩
theorem scaledS_fit (m:Mv2) (os:List Sz) (hos:∀ t ∈ os,m.Fit t.a∧m.Fit t.b) (a:Option Addr) (c:Nat) (w:World) (hv:SlC w (Old w) 4 (.slice a os.length c) os.length (os.flatMap sc)) (hle:os.length≤1000000) :
 Calls Tryz.prog 13 #[.slice a os.length c,.int .i64 m.k,.agg #[.int .i64 m.x,.int .i64 m.y]] w fun e w'=>∃ ad c2,e=.returned (.slice ad os.length c2)∧Heap w w' [.frz (Old w) w,.row (.slice ad os.length c2) 95 4 os.length ((os.map m.s).flatMap sc)]:=by
 have hS:=Heap.start w
 go_enter func13,ntmps13
 go_wp2_with (with_reducible refine bxA hS fun bx wbx hS=>?_)
 have hS:=hS.addNil 95 4;simp only [NRH] at hS
 try try simp only [NRG]
 go_loopw [7,8] (fun v7 v8 wr=>∃ (i:Nat) (ad:Option Addr) (c2:Nat),i≤os.length∧v8=.int .i64 (i:Int)∧v7=.slice ad i c2∧Heap w wr [.frz (Old w) w,.blk bx (.cells #[.int .i64 m.x,.int .i64 m.y] 29 (0,0)),.row (.slice ad i c2) 95 4 i (((os.take i).map m.s).flatMap sc)]) (fun _ v8 _=>os.length - (intOf v8).toNat)
 case atStart=>exact⟨0,none,0,by omega,rfl,rfl,hS⟩
 case round =>
  clear hS;obtain⟨i,ad,c2,hi,rfl,rfl,hS⟩:=hrel
  by_cases hil:i<os.length
  ·obtain⟨t,ht⟩:∃ t,nth s0 os i=t:=⟨_,rfl⟩
   have htm:=hos t (by rw [← ht];exact nth_mem s0 os i hil);have hts:=take_snoc s0 os i hil;have hc:=flat_cell sc_len s0 hil;rw [ht] at hts hc;have c1:=fun w'=>scaledP_fit m t.a htm.1 w'
   have c3:=fun w'=>scaledP_fit m t.b htm.2 w'
   obtain⟨p,hp⟩:∃ p,m.g t.a=p:=⟨_,rfl⟩;obtain⟨q,hq⟩:∃ q,m.g t.b=q:=⟨_,rfl⟩;rw [hp] at c1;rw [hq] at c3;have hz:((os.take (i+1)).map m.s).flatMap sc=((os.take i).map m.s).flatMap sc++[.int .i64 p.x,.int .i64 p.y,.int .i64 q.x,.int .i64 q.y]:=by rw [hts,← hp,← hq];simp [sc,Mv2.s]
   obtain⟨⟨a1,a2⟩,⟨b1,b2⟩⟩:=t;replace hz:=Hd hz;clear hts ht htm hp hq;go_wp2;refine rg0 [.p 0,.p 1,.p 2,.p 3,.p 4,.r 5,.p 6,.r 7,.p 9,.p 10,.p 11,.p 12,.r 13,.p 14,.r 15,.e 8,.e 16,.p 17,.e 18,.m 19,.p 20] [19] hS fun w1 hS=>?_
   repeat (first|(with_reducible refine skL ?_)|((with_reducible refine sixE underlying23 sizeOf95 hv hc fun bq oq hcellq=>?_);have hq1:CellsAt _ _ ⟨bq,oq,none⟩ [.int .i64 a1,.int .i64 a2]:=hcellq.part 0 2;have hq2:CellsAt _ _ ⟨bq,oq+2,none⟩ [.int .i64 b1,.int .i64 b2]:=hcellq.part 2 2)|(with_reducible first|refine sldA 1 isAgg29 sizeOf29 ?_|refine sldG isAgg29 sizeOf29 ?_|refine spL ?_))
   refine exL ?_
   go_wp2_with (fail)
   refine (c1 _).mono ?_;rintro e w' ⟨rfl,hq⟩;simp only [];go_step;have hS:=hS.below hq.below hq.drawn;refine ext_end hS.sb ?_;refine mvs ?_;refine exL ?_
   go_wp2_with (fail)
   refine (c3 _).mono ?_;rintro e w' ⟨rfl,hq⟩;simp only [];go_step;have hS:=hS.below hq.below hq.drawn;refine ext_end hS.sb ?_;refine mvs ?_;refine exL ?_
   ((with_reducible refine g_bs (T:=23) ?_);refine seq_bs1 (T:=23) (v:=.agg #[.int .i64 _,.int .i64 _,.int .i64 _,.int .i64 _]) hS underlying23 sizeOf95 zeroValue95 rfl rfl rfl (by decide) (by decide) rfl (fun bl wbl hS=>?_);simp only [NRM];simp only [Value.cells] at hS)
   refine ext_end hS.sb ?_;refine mvs ?_;refine muL ?_
   ((with_reducible refine g_app ?_);refine seq_append_lit (t:=23) 2 hS underlying23 infoS rfl (by decide) rfl rfl rfl rfl (by simp [Value.oneCell']) (by omega) (by unfold maxLen;omega) (fun ad2 cp2 _ hS=>?_);simp only [NRM];simp only [NRH] at hS)
   refine mut_end ?_;refine mvs ?_;refine snL ?_;go_wp2;go_roundw
   case rel=>exact⟨i+1,ad2,cp2,by omega,by simp,rfl,by rw [hz.out];exact hS⟩
   case measure=>simp [intOf];omega
  ·obtain rfl:os.length=i:=by omega
   rw [List.take_length] at hS;go_wp2;go_ret;exact⟨ad,c2,rfl,hS.sb⟩
theorem scaledP_any (m:Mv2) (ho:m.Ok) (g:Gp) (hg:g.sm) (w:World) :
 Calls Tryz.prog 11 #[.agg #[.int .i64 g.x,.int .i64 g.y],.int .i64 m.k,.agg #[.int .i64 m.x,.int .i64 m.y]] w fun e w'=>e=.returned (.agg #[.int .i64 (m.g g).x,.int .i64 (m.g g).y])∧Pure w (fun _=>False) w' (fun _=>False) :=
 scaledP_fit m g (ho.fit hg) w
theorem scaledS_any (m:Mv2) (ho:m.Ok) (os:List Sz) (hos:∀ t ∈ os,t.sm) (a:Option Addr) (c:Nat) (w:World) (hv:SlC w (Old w) 4 (.slice a os.length c) os.length (os.flatMap sc)) (hle:os.length≤1000000) :
 Calls Tryz.prog 13 #[.slice a os.length c,.int .i64 m.k,.agg #[.int .i64 m.x,.int .i64 m.y]] w fun e w'=>∃ ad c2,e=.returned (.slice ad os.length c2)∧Heap w w' [.frz (Old w) w,.row (.slice ad os.length c2) 95 4 os.length ((os.map m.s).flatMap sc)] :=
 scaledS_fit m os (fun t ht=>⟨ho.fit (hos t ht).1,ho.fit (hos t ht).2⟩) a c w hv hle
end Go.Proofs
