/- Texts for the walk of the law: ON CN CO CT. -/
import Derived.Test.YtihpoboahbpaiaaGreatU14
set_option maxRecDepth 100000
set_option maxHeartbeats 16000000
set_option linter.unusedVariables false
set_option linter.unusedSimpArgs false
namespace Go.Hp
open Go Go.RowKit Go.Proofs.Tryz
structure yr where
 g1:Option Addr × Nat × Nat
 g2:Option Addr × Nat × Nat
 g3:Option Addr × Nat × Nat
 g4:Option Addr × Nat × Nat
 r1:Option Addr × Nat × Nat
 r2:Option Addr × Nat × Nat
 r3:Option Addr × Nat × Nat
 r4:Option Addr × Nat × Nat
 r5:Option Addr × Nat × Nat
 fa:Option Addr × Nat × Nat
 ea:Option Addr × Nat × Nat
 rs:List ER
 prs:List PR
 rF:List (Option Addr × Nat × Nat)
 rE:List (Option Addr × Nat × Nat)
structure zR (w:World) (S:Nat→Prop) (r:yr) (y:Sh) (fs ee:List (List Int)):Prop where
 arr:kC w S r.g3.1 r.g4.1 r.g3.2.1 r.g3.2.2 r.g4.2.1 r.g4.2.2 r.rs y.es r.prs y.V 300
 fc:jb w S r.r1 r.r2 r.r3 r.r4 r.r5 (Sh.f y)
 fK:j8 w S r.fa r.rF fs
 mw:j8 w S r.ea r.rE ee
theorem zR.at {w0 w wr:World} {F S:Nat→Prop} {H:List Chunk} {r:yr} {y:Sh} {fs ee:List (List Int)} (h:zR wr S r y fs ee) (hS:aA w0 w (.aH F wr::H)) (hF:∀ k,S k→F k):zR w S r y fs ee :=
 ⟨h.arr.at hS hF,h.fc.move (hS.da hF),h.fK.move (hS.da hF),h.mw.move (hS.da hF)⟩
def jL (y0:Sh) (ys:List Sh):List (List Int):=nV y0 ys (List.replicate (Sh.f y0).O.length (List.replicate ys.length 0)) y0.es.length
structure tH (w:World) (S:Nat→Prop) (xs:List oU) (ys:List Sh) (a1:Option Addr) (n1 c1:Nat) (g3 g4 r1 r2 r3 r4 r5:Option Addr × Nat × Nat) (rs:List ER) (es:List Ed) (prs:List PR) (V:List Pt) (f:iL) (Lf:List Int):Prop where
 live:aP w S
 arr:kC w S g3.1 g4.1 g3.2.1 g3.2.2 g4.2.1 g4.2.2 rs es prs V 300
 fl:Ints w S (sv r2) Lf
 fc:jb w S r1 r2 r3 r4 r5 f
 shs:rK w S xs ys
 sl:bN w S 10 (.slice a1 n1 c1) n1 (xs.flatMap uv)
section
variable {w0 w w' wr:World} {F S:Nat→Prop} {H:List Chunk} {xs:List oU} {ys:List Sh} {a1:Option Addr} {n1 c1:Nat} {g3 g4 r1 r2 r3 r4 r5:Option Addr × Nat × Nat} {rs:List ER} {es:List Ed} {prs:List PR} {V:List Pt} {f:iL} {Lf:List Int}
theorem aA4 {L:List Int} {i:Nat} (h:i<L.length):((L.map (Value.int .i64)).drop (i*1)).take 1=[.int .i64 (nth 0 L i)]:=by
 rw [Nat.mul_one,bS 0 L i h,List.drop_eq_getElem_cons (by simpa using h)];simp
theorem tH.at (h:tH wr S xs ys a1 n1 c1 g3 g4 r1 r2 r3 r4 r5 rs es prs V f Lf) (hS:aA w0 w (.aH F wr::H)) (hF:∀ k,S k→F k):tH w S xs ys a1 n1 c1 g3 g4 r1 r2 r3 r4 r5 rs es prs V f Lf :=
 ⟨aP.at hS hF,h.arr.at hS hF,h.fl.move (hS.da hF),h.fc.move (hS.da hF),h.shs.at hS hF,h.sl.move (hS.da hF)⟩
theorem tH.wk {T:Nat→Prop} (h:tH w S xs ys a1 n1 c1 g3 g4 r1 r2 r3 r4 r5 rs es prs V f Lf) (hs:∀ k,S k→T k) (hL:aP w T):tH w T xs ys a1 n1 c1 g3 g4 r1 r2 r3 r4 r5 rs es prs V f Lf :=
 ⟨hL,h.arr.wk hs hL,⟨h.fl.1.weaken hs,h.fl.2⟩,h.fc.wk hs,h.shs.wk hs hL,h.sl.weaken hs⟩
theorem tH.below (h:tH w S xs ys a1 n1 c1 g3 g4 r1 r2 r3 r4 r5 rs es prs V f Lf) (hb:Below w.heap.size w w'):tH w' S xs ys a1 n1 c1 g3 g4 r1 r2 r3 r4 r5 rs es prs V f Lf :=
 ⟨fun k hk=>Nat.lt_of_lt_of_le (h.live k hk) hb.size,h.arr.k8 hb,h.fl.move fun k hk=>hb.block k (h.live k hk),h.fc.k8 h.live hb,h.shs.below hb,h.sl.k8 h.live hb⟩
end
theorem a57 (ad:Option Addr) (n c:Nat) (bF:List kr) (ls:List Lay) (w:World) (S:Nat→Prop) (hL:aP w S) (bG:a2m ls) (hv:bN w S 2 (.slice ad n c) bF.length (bF.flatMap fI)) (hl:jc w S bF ls) :
 Calls prog 20 #[.slice ad n c] w fun e w'=>∃ (r:yr) (y0:Sh) (ys:List Sh) (S':Nat→Prop),e=.returned (.tuple #[.agg #[.slice r.g1.1 r.g1.2.1 r.g1.2.2,.slice r.g2.1 r.g2.2.1 r.g2.2.2,.slice r.g3.1 r.g3.2.1 r.g3.2.2,.slice r.g4.1 r.g4.2.1 r.g4.2.2,.slice r.r1.1 r.r1.2.1 r.r1.2.2,.slice r.r2.1 r.r2.2.1 r.r2.2.2,.slice r.r3.1 r.r3.2.1 r.r3.2.2,.slice r.r4.1 r.r4.2.1 r.r4.2.2,.slice r.r5.1 r.r5.2.1 r.r5.2.2,.slice r.fa.1 r.fa.2.1 r.fa.2.2,.slice r.ea.1 r.ea.2.1 r.ea.2.2],.int .i64 0])∧Pure (nd w) S w' S'∧zR w' S' r y0 (jL y0 ys) (km y0 ys y0.es.length)∧mN (dX ls) (dm ls) y0∧ys.length=ls.length∧∀ j,j<ls.length→mN (nth fF ls j).1 (nth fF ls j).2 (nth mO ys j):=by
 obtain rfl:n=bF.length:=by obtain⟨h1,a,cap,h2,_⟩:=hv;cases h2;rfl
 have hlen:=hl.len;have aY1:=bG.len;have wQ:=bG.all.lo;have zK:=bG.all.lg;replace bG:=Hd bG;replace hlen:=Hd hlen;have aY4:decide ((16:Int)<(bF.length:Int))=false:=by have:=hlen.out;simp;omega
 have hS:=aA.oI w;have dY:=tb w;have aC:=hL;have bC:=fun k (h:Old w k)=>h
 go_enter func20,ntmps20
 go_wp2_with (with_reducible first|refine bH hS zeroValue67 fun b2 ri hS=>?_|refine bH hS zeroValue65 fun b4 zS hS=>?_)
 have hS:=((hS.iB 125 10).iB 95 4).iB 29 2;simp only [aK] at hS
 try try simp only [fA]
 go_loopw [5,30] (fun v5 v30 wr=>∃ (i:Nat) (F S':Nat→Prop) (wq:World) (a1 a2 a3:Option Addr) (N2 N3 c1 c2 c3:Nat) (xs:List oU) (ys:List Sh),i≤bF.length∧v30=.int .i64 (i:Int)∧v5=.slice a1 i c1∧aA (nd w) wr [.aH F wq,.aB b2 (.cells #[.slice none 0 0,.slice none 0 0,.slice none 0 0,.slice none 0 0,.slice none 0 0,.slice none 0 0,.slice none 0 0,.slice none 0 0,.slice none 0 0,.slice none 0 0,.slice none 0 0] 67 (0,0)),.aB b4 (.cells #[.slice a2 N2 c2,.slice a3 N3 c3] 65 (0,0)),.row (.slice a1 i c1) 125 10 i (xs.flatMap uv),.row (.slice a2 N2 c2) 95 4 N2 ((dX (ls.take i)).flatMap sc),.row (.slice a3 N3 c3) 29 2 N3 ((dm (ls.take i)).flatMap gc)]∧N2=(dX (ls.take i)).length∧N3=(dm (ls.take i)).length∧xs.length=i∧ys.length=i∧(∀ k,S' k→F k)∧(∀ k,S k→S' k)∧(∀ k,Old w k→F k)∧(∀ k,S' k→S k∨w.heap.size≤k)∧Below (nd w).heap.size (nd w) wq∧rK wq S' xs ys∧∀ j,j<i→mN (nth fF ls j).1 (nth fF ls j).2 (nth mO ys j)) (fun _ v30 _=>bF.length - (intOf v30).toNat)
 case atStart=>exact⟨0,Old w,S,w,none,none,none,0,0,0,0,0,[],[],by omega,rfl,rfl,by simpa [dX,dm] using hS,by simp [dX],by simp [dm],rfl,rfl,aC,fun k h=>h,bC,fun k h=>.inl h,(Pure.oI w S).below,⟨rfl,fun i hi=>by simp at hi⟩,fun j hj=>by omega⟩
 case round =>
  clear hS aC bC;obtain⟨i,F0,S0,wq,a1,a2,a3,N2,N3,c1,c2,c3,xs,ys,hi,rfl,rfl,hS,sy,ti,hxl,iT,aC,nh,bC,oh,lS,hsh,a1v⟩:=hrel;replace a1v:=Hd a1v
  by_cases dj:i<bF.length
  ·have kK:i<ls.length:=by have:=hlen.out;omega
   have hc:=eS a8g nu dj;have h1:=hl.sg i kK;have h2:=hl.pt i kK;have iV:=bG.out.one i kK;obtain⟨r,hr⟩:∃ r,nth nu bF i=r:=⟨_,rfl⟩;rw [hr] at hc h1 h2;replace hc:((bF.flatMap fI).drop (i*2)).take 2=[.slice r.a.1 r.a.2.1 r.a.2.2,.slice r.b.1 r.b.2.1 r.b.2.2]:=hc;have nF:bN wq F0 2 (.slice ad bF.length c) bF.length (bF.flatMap fI):=(hv.k8 hL (Below.mS lS)).weaken fun k h=>aC k (nh k h)
   have h1F:=(h1.k8 hL (Below.mS lS)).weaken nh;have zm:=(h2.k8 hL (Below.mS lS)).weaken nh;obtain⟨y,hy⟩:∃ y,nth fF ls i=y:=⟨_,rfl⟩;rw [hy] at h1F zm iV;clear hr h1 h2
   go_wp2_with (with_reducible first|refine iH underlying62 sizeOf65 nF hc fun bq oq bO=>?_|refine j9 hS isAgg65 sizeOf65 ?_|refine bH hS zeroValue65 fun b7 wb7 hS=>?_|refine aJ 6 hS sizeOf65 fun _ hS=>?_|refine bA 6 hS isAgg65 sizeOf65 ?_)
   refine (aHM y.1 y.2 r.a.1 r.b.1 r.a.2.1 r.a.2.2 r.b.2.1 r.b.2.2 _ S0 (aP.at hS aC) iV (h1F.move (hS.da aC)) (zm.move (hS.da aC))).mono ?_;rintro e w2 ⟨L,g1,g2,g3,g4,r1,r2,r3,r4,r5,rs,es,prs,V,RL,S1,rfl,az,a1G,vT,rD,hP,hR⟩;have sR:=a1G.arr.live;have p8:tz w2 S1 ⟨L,g1,g2,g3,g4,r1,r2,r3,r4,r5,rs,prs⟩ ⟨V,es,RL⟩:=⟨a1G,vT,rD⟩;have a4Z:=(((hsh.at hS aC).below az.pf).wk az.sub sR).snoc p8;have a8G:mN y.1 y.2 ⟨V,es,RL⟩:=⟨hP,hR⟩;have eX:∀ k,S1 k→S k∨w.heap.size≤k:=fun k hk=>(az.new k hk).elim (oh k) fun h=>.inr (Nat.le_trans hS.size h.1)
   have aAl:∀ k,S k→S1 k:=fun k h=>az.sub k (nh k h)
   have ki:=(aA.gZ hS bC lS).trans (az.pf.mono (aA.gZ hS bC lS).size);have g1F:=((h1F.move (hS.da aC)).k8 (aP.at hS aC) az.pf).weaken az.sub;have g2F:=((zm.move (hS.da aC)).k8 (aP.at hS aC) az.pf).weaken az.sub;obtain⟨F1,aG,gp,cU⟩:=hS.wV dY aC az;have av:=fun k h=>gp k (bC k h)
   have s1F:=g1F.weaken aG;have s2F:=g2F.weaken aG;have tF:=congrArg List.length (a8Q kK);have lZ:=congrArg List.length (aAO kK);have xp:=a8Q kK;have yN:=aAO kK;rw [hy] at tF lZ xp yN;rw [List.length_append] at tF lZ;have pM:=aGN (ls:=ls) (i+1);have oF:=aL7 (ls:=ls) (i+1);have wC:N2+y.1.length≤512:=by omega
   have pD:N3+y.2.length≤256:=by omega
   clear hS gp az a1G vT rD hP hR p8 hsh g1F g2F h1F zm nF pM oF lS oh nh aC bC;have hS:=cU;clear cU;obtain⟨x,hx⟩:∃ x:oU,x=⟨L,g1,g2,g3,g4,r1,r2,r3,r4,r5,rs,prs⟩:=⟨_,rfl⟩;obtain⟨ny,hny⟩:∃ ny:Sh,ny=⟨V,es,RL⟩:=⟨_,rfl⟩;rw [← hx,← hny] at a4Z;rw [← hny] at a8G;have hxc:uv x=[.slice g1.1 g1.2.1 g1.2.2,.slice g2.1 g2.2.1 g2.2.2,.slice g3.1 g3.2.1 g3.2.2,.slice g4.1 g4.2.1 g4.2.2,.slice r1.1 r1.2.1 r1.2.2,.slice r2.1 r2.2.1 r2.2.2,.slice r3.1 r3.2.1 r3.2.2,.slice r4.1 r4.2.1 r4.2.2,.slice r5.1 r5.2.1 r5.2.2,.func (.func 16) #[.pointer (some ⟨L.bl,0,none⟩)] #[]]:=by rw [hx];rfl
   have fz:(xs++[x]).flatMap uv=xs.flatMap uv++uv x:=by simp
   rw [hxc] at fz;replace fz:=Hd fz;replace sy:=Hd sy;replace ti:=Hd ti;replace tF:=Hd tF;replace lZ:=Hd lZ;replace xp:=Hd xp;replace yN:=Hd yN;replace a8G:=Hd a8G;replace hxl:=Hd hxl;replace iT:=Hd iT;replace hy:=Hd hy;clear hx hny hxc iV bO;simp only [sv]
   go_wp2_with (first|(with_reducible first|refine bH hS zeroValue125 fun b8 xe hS=>?_|refine aJ 7 hS sizeOf125 fun _ hS=>?_|refine bA 7 hS isAgg125 sizeOf125 ?_)|((with_reducible refine dV (T:=123) ?_);refine fZ (T:=123) (v:=.agg #[_,_,_,_,_,_,_,_,_,_]) hS underlying123 sizeOf125 zeroValue125 rfl rfl rfl (by decide) (by decide) rfl (fun bl fX hS=>?_);simp only [aD];simp only [Value.cells] at hS)|((with_reducible refine eG ?_);refine fw (t:=123) 3 hS underlying123 aUa rfl (by decide) rfl rfl rfl rfl (by simp [Value.oneCell']) (by omega) (by unfold maxLen;omega) (fun lV cp1 _ hS=>?_);simp only [aD];simp only [aK] at hS))
   refine qR [.p 0,.r 1,.p 2,.r 3,.p 5,.r 6,.p 7,.r 8,.e 4,.p 10,.e 9,.m 11,.p 12,.m 13] [11,13] (fun w'=>aA (nd w) w' [.aH F1 w2,.aB b4 (.cells #[.slice a2 N2 c2,.slice a3 N3 c3] 65 (0,0)),.aB b7 (.cells #[.slice r.a.1 r.a.2.1 r.a.2.2,.slice r.b.1 r.b.2.1 r.b.2.2] 65 (0,0))]) (fun w'=>aA (nd w) w' _) (by kernel_rfl) (by kernel_rfl) hS.drew (fun _ hZ=>aA.sub hZ (by repeat (first|exact List.Sublist.refl _|apply List.Sublist.cons_cons|apply List.Sublist.cons))) (fun w1 hS=>?_)
   repeat (with_reducible first|refine cZ 1 isAgg23 ?_|refine cZ 2 isAgg23 ?_|refine cZ 1 isAgg25 ?_|refine cZ 2 isAgg25 ?_|refine bU ?_)
   refine aZ ?_
   ((with_reducible refine eG ?_);refine uA (t:=23) 4 hS underlying23 sM rfl (by decide) rfl rfl rfl s1F (by simp) (a2X _) (by omega) (by unfold maxLen;omega) (fun dU gL _ hS=>?_);simp only [aD];simp only [aK] at hS)
   refine aX hS.sb ?_;refine aM ?_;refine aZ ?_
   ((with_reducible refine eG ?_);refine uA (t:=25) 5 hS underlying25 a27 rfl (by decide) rfl rfl rfl s2F (by simp) (aDj _) (by omega) (by unfold maxLen;omega) (fun uS cp3 _ hS=>?_);simp only [aD];simp only [aK] at hS)
   refine aX hS.sb ?_;refine aM ?_;refine dC ?_
   (with_reducible refine aJ 2 hS sizeOf23 fun _ hS=>?_)
   refine dD ?_;refine aM ?_;refine dC ?_
   (with_reducible refine aJ 2 hS sizeOf25 fun _ hS=>?_)
   refine dD ?_;refine aM ?_;refine bE ?_;go_wp2;go_roundw
   case rel=>exact⟨i+1,F1,S1,_,_,_,_,_,_,_,_,_,xs++[x],ys++[ny],by omega,by simp,rfl,by rw [fz.out,xp.out,yN.out,List.flatMap_append,List.flatMap_append];exact hS.sb,by rw [tF.out,sy.out],by rw [lZ.out,ti.out],by simp [hxl.out],by simp [iT.out],aG,aAl,av,eX,ki,a4Z,fun j hj=>by
    rcases Nat.lt_or_ge j i with aW|gB
    ·rw [ju mO ys [ny] j (by have:=iT.out;omega)];exact a1v.out j aW
    ·obtain rfl:j=i:=by omega
     have e1:nth mO (ys++[ny]) j=ny:=by rw [← iT.out];unfold nth;simp
     rw [e1,hy.out];exact a8G.out⟩
   case measure=>simp [intOf];omega
  ·obtain rfl:i=bF.length:=by omega
   have eK:ls.take bF.length=ls:=by rw [hlen.out];exact List.take_length
   rw [eK] at hS sy ti;clear eK;have hS:=hS.order [0,4,5,3,1,2] rfl;simp only [iw] at hS;have hvs:=hS.dn 1 rfl;have hvg:=hS.dn 2 rfl;have hvx:=hS.dn 3 rfl;have m1:=fun k h=>hS.oJ bC (c:=.row (.slice a2 N2 c2) 95 4 N2 ((dX ls).flatMap sc)) (bW (i:=0) rfl) (k:=k) h
   have m2:=fun k h=>hS.oJ bC (c:=.row (.slice a3 N3 c3) 29 2 N3 ((dm ls).flatMap gc)) (bW (i:=1) rfl) (k:=k) h
   have m3:=fun k h=>hS.oJ bC (c:=.row (.slice a1 bF.length c1) 125 10 bF.length (xs.flatMap uv)) (bW (i:=2) rfl) (k:=k) h
   have ki:=aA.gZ hS bC lS;have a4Z:=hsh.at hS aC;have hS:=aA.join (aA.a13 hS |>.freeze 1 rfl);try simp only [aK] at hS
   obtain⟨F1,p6⟩:∃ F1:Nat→Prop,F1=fun k=>((F0 k∨(Chunk.row (.slice a2 N2 c2) 95 4 N2 ((dX ls).flatMap sc)).has k)∨(Chunk.row (.slice a3 N3 c3) 29 2 N3 ((dm ls).flatMap gc)).has k)∨(Chunk.row (.slice a1 bF.length c1) 125 10 bF.length (xs.flatMap uv)).has k:=⟨_,rfl⟩
   obtain⟨S1,zv⟩:∃ S1:Nat→Prop,S1=fun k=>((S0 k∨(Chunk.row (.slice a2 N2 c2) 95 4 N2 ((dX ls).flatMap sc)).has k)∨(Chunk.row (.slice a3 N3 c3) 29 2 N3 ((dm ls).flatMap gc)).has k)∨(Chunk.row (.slice a1 bF.length c1) 125 10 bF.length (xs.flatMap uv)).has k:=⟨_,rfl⟩
   rw [← p6] at hS
   have aG:∀ k,S1 k→F1 k:=fun k h=>by
    rw [zv] at h;rw [p6];exact h.imp (fun h=>h.imp (fun h=>h.imp (aC k) id) id) id
   have av:∀ k,Old w k→F1 k:=fun k h=>by rw [p6];exact .inl (.inl (.inl (bC k h)))
   have aAl:∀ k,S k→S1 k:=fun k h=>by rw [zv];exact .inl (.inl (.inl (nh k h)))
   have a4Q:∀ k,S0 k→S1 k:=fun k h=>by rw [zv];exact .inl (.inl (.inl h))
   have eX:∀ k,S1 k→S k∨w.heap.size≤k:=fun k h=>by
    rw [zv] at h
    rcases h with ((h|h)|h)|h
    ·exact oh k h
    ·exact .inr (m1 k h).1
    ·exact .inr (m2 k h).1
    ·exact .inr (m3 k h).1
   have hvs:=hvs.weaken (T:=S1) (fun k h=>by rw [zv];exact .inl (.inl (.inr h)));have hvg:=hvg.weaken (T:=S1) (fun k h=>by rw [zv];exact .inl (.inr h));have hvx:=hvx.weaken (T:=S1) (fun k h=>by rw [zv];exact .inr h);have sR:=aP.at hS aG;have aIx:=a4Z.wk a4Q sR;have iV:=bG.out.all;rw [sy,ti] at hS;rw [sy] at hvs;rw [ti] at hvg;clear m1 m2 m3 p6 zv hsh a4Z aC bC oh nh lS a4Q
   go_wp2_with (with_reducible refine bA 2 hS isAgg65 sizeOf65 ?_)
   refine (aHM (dX ls) (dm ls) a2 a3 _ c2 _ c3 _ S1 (aP.at hS aG) iV (hvs.move (hS.da aG)) (hvg.move (hS.da aG))).mono ?_;rintro e w2 ⟨L,g1,g2,g3,g4,r1,r2,r3,r4,r5,rs,es,prs,V,RL,S2,rfl,aR,a1G,vT,rD,hP,hR⟩;have hL2:=vT.live;have fx:∀ k,S2 k→S k∨w.heap.size≤k:=fun k hk=>(aR.new k hk).elim (eX k) fun h=>.inr (Nat.le_trans hS.size h.1)
   have a5J:∀ k,S k→S2 k:=fun k h=>aR.sub k (aAl k h)
   have mH:=(aA.gZ hS av ki).trans (aR.pf.mono (aA.gZ hS av ki).size);have hC:tH w2 S2 xs ys a1 bF.length c1 g3 g4 r1 r2 r3 r4 r5 rs es prs V (nZ V es RL) (nZ V es RL).L:=⟨hL2,vT,rD.l,rD,((aIx.at hS aG).below aR.pf).wk aR.sub hL2,((hvx.move (hS.da aG)).k8 (aP.at hS aG) aR.pf).weaken aR.sub⟩;obtain⟨F2,aQ,jV,cK⟩:=hS.wV dY aG aR;have bP:=fun k h=>jV k (av k h)
   have pT:Ints w2 S2 (sv r3) (nZ V es RL).O:=rD.o;clear hS ki jV aR a1G av aG eX aAl sR hvs hvg hvx aIx vT;have hS:=cK;clear cK;simp only [sv] at pT ⊢
   go_wp2_with (with_reducible first|refine bH hS zeroValue125 fun fo qM hS=>?_|refine aJ 3 hS sizeOf125 fun _ hS=>?_|refine eW 3 hS isAgg34 sizeOf34 ?_|refine eW 3 hS isAgg37 sizeOf37 ?_|refine bH hS zeroValue67 fun qH a1h hS=>?_|refine aJ 4 hS sizeOf67 fun _ hS=>?_|refine aU 4 hS isAgg22 ?_)
   have hS:=hS.order [0,1,4,2,3] rfl;simp only [iw] at hS;have hS:=hS.sub (List.take_sublist 3 _);simp only [List.take_succ_cons,List.take_zero] at hS;have hS:=(hS.iB 22 1).aJk;simp only [aK] at hS;have a8B:=pT.len;obtain⟨qS,bJ⟩:=eu.aEf hP bG.out.all.ok;have yt:=a99 hP bJ hC.arr.ab hR;have hnf:=yt.aAy;have dW:=bG.out.all.E V es hP;have rB:=yt.lr;have fQ:=yt.a2I;obtain⟨nf,a2d⟩:∃ nf,nf=(nZ V es RL).O.length:=⟨_,rfl⟩;rw [← a2d] at a8B hnf rB;rw [a8B] at hS ⊢;replace rB:=Hd rB;replace fQ:=Hd fQ;replace a2d:=Hd a2d;replace yt:=Hd yt
   try try simp only [fA]
   go_loopw [78] (fun v78 wr=>∃ (i:Nat) (M:Nat→Prop) (wm:World) (bs:List Nat) (af:Option Addr) (cf:Nat),i≤nf∧v78=.int .i64 (i:Int)∧aA (nd w) wr [.aH F2 w2,.aB b2 (.cells #[.slice none 0 0,.slice none 0 0,.slice none 0 0,.slice none 0 0,.slice none 0 0,.slice none 0 0,.slice none 0 0,.slice none 0 0,.slice none 0 0,.slice none 0 0,.slice none 0 0] 67 (0,0)),.aB qH (.cells #[.slice g1.1 g1.2.1 g1.2.2,.slice g2.1 g2.2.1 g2.2.2,.slice g3.1 g3.2.1 g3.2.2,.slice g4.1 g4.2.1 g4.2.2,.slice r1.1 r1.2.1 r1.2.2,.slice r2.1 r2.2.1 r2.2.2,.slice r3.1 nf r3.2.2,.slice r4.1 r4.2.1 r4.2.2,.slice r5.1 r5.2.1 r5.2.2,.slice af i cf,.slice none 0 0] 67 (0,0)),.row (.slice af i cf) 22 1 i (qL bF.length bs),.aH M wm]∧k7 wm M 3 bF.length bs (List.replicate i (List.replicate bF.length 0))) (fun v78 _=>nf - (intOf v78).toNat)
   case atStart=>exact⟨0,_,_,[],none,0,by omega,rfl,hS,k7.no _ _ _ (by have:=hlen.out;unfold maxLen;omega)⟩
   case round =>
    clear hS;obtain⟨i,M,wm,bs,af,cf,hi,rfl,hS,hM⟩:=hrel;have aXi:bF.length≤16:=by have:=hlen.out;omega
    by_cases dj:i<nf
    ·
     go_wp2_with (fail)
     refine qR [.p 0,.r 1,.p 2,.p 3,.e 4,.e 5,.e 6,.p 7,.m 8] [8] (fun w'=>aA (nd w) w' [.aH F2 w2,.aB qH (.cells #[.slice g1.1 g1.2.1 g1.2.2,.slice g2.1 g2.2.1 g2.2.2,.slice g3.1 g3.2.1 g3.2.2,.slice g4.1 g4.2.1 g4.2.2,.slice r1.1 r1.2.1 r1.2.2,.slice r2.1 r2.2.1 r2.2.2,.slice r3.1 nf r3.2.2,.slice r4.1 r4.2.1 r4.2.2,.slice r5.1 r5.2.1 r5.2.2,.slice af i cf,.slice none 0 0] 67 (0,0))]) (fun w'=>aA (nd w) w' _) (by kernel_rfl) (by kernel_rfl) hS.drew (fun _ hZ=>aA.sub hZ (by repeat (first|exact List.Sublist.refl _|apply List.Sublist.cons_cons|apply List.Sublist.cons))) (fun w1 hS=>?_)
     repeat (with_reducible first|refine cZ 1 isAgg35 ?_|refine bU ?_)
     refine aZ ?_
     ((with_reducible refine r7 (T:=22) ?_);refine a9J (n:=bF.length) (T:=22) (E:=3) hS underlying22 a0A rfl rfl (by omega) (by omega) (fun nb wnb hS=>?_);simp only [aD];simp only [aK] at hS)
     refine aX hS.sb ?_;refine aM ?_;refine aZ ?_
     ((with_reducible refine dV (T:=35) ?_);refine fZ (T:=35) (v:=.slice _ _ _) hS underlying35 sizeOf22 zeroValue22 rfl rfl rfl (by decide) (by decide) rfl (fun bl fX hS=>?_);simp only [aD];simp only [Value.cells] at hS)
     refine aX hS.sb ?_;refine aM ?_;refine aZ ?_
     ((with_reducible refine eG ?_);refine fw (t:=35) 3 hS underlying35 zh rfl (by decide) rfl rfl rfl rfl (by simp [Value.oneCell']) (by omega) (by unfold maxLen;omega) (fun a5 c5 _ hS=>?_);simp only [aD];simp only [aK] at hS)
     refine aX hS.sb ?_;refine aM ?_;refine dC ?_
     (with_reducible refine aJ 2 hS sizeOf35 fun _ hS=>?_)
     refine dD ?_;refine aM ?_;refine bE ?_;have hS:=hS.order [4,5,0,1,2,3] rfl;simp only [iw] at hS;obtain⟨M',hMM,fY,hM'⟩:=hM.add hS (fun x hx=>by obtain⟨_,rfl⟩:=List.mem_replicate.1 hx;unfold bQ;omega);clear hS;have hS:=fY;clear fY;have hS:=hS.order [1,2,3,4,0] rfl;simp only [iw] at hS;rw [← List.replicate_succ',← aOB] at *;go_wp2;go_roundw
     case rel=>exact⟨i+1,M',_,bs++[nb],a5,c5,by omega,by simp,hS,hM'⟩
     case measure=>simp [intOf];omega
    ·obtain rfl:i=nf:=by omega
     have j6:g4.2.1=es.length:=hC.arr.n4;have kx:0<i:=by have:=a2d.out;have:=yt.out.aAE;omega
     obtain⟨ga,rfl⟩:=hS.rowAt 3 rfl kx;have a7Z:=hC.fl.len;obtain⟨nf,aKz⟩:∃ nf,nf=i:=⟨_,rfl⟩;rw [← aKz] at hS rB hM a8B hnf a2d kx;clear aKz dj hi;obtain⟨y0,iJ⟩:∃ y0:Sh,y0=⟨V,es,RL⟩:=⟨_,rfl⟩;obtain⟨Lf,rp⟩:∃ Lf,Lf=(nZ V es RL).L:=⟨_,rfl⟩;rw [← rp] at hC rB fQ
     go_wp2_with (with_reducible refine aU 2 hS isAgg32 ?_)
     rw [j6] at hS ⊢;have hS:=(hS.iB 22 1).aJk;simp only [aK] at hS;obtain⟨fs0,a4i⟩:∃ fs0,fs0=List.replicate nf (List.replicate bF.length (0:Int)):=⟨_,rfl⟩;have dp:fs0.length=nf:=by rw [a4i,List.length_replicate]
     rw [← a4i] at hM;have lP:V.length≤4096:=iV.V V hP.arr.sv (fun x hx=>(hP.arr.mv x).1 hx);replace a4i:=Hd a4i;replace hP:=Hd hP;replace hR:=Hd hR;replace j6:=Hd j6;replace hxl:=Hd hxl;replace iT:=Hd iT;replace a7Z:r2.2.1=Lf.length:=by rw [rp];exact a7Z
     have aXf:2*es.length≤r2.2.1:=by have:=fQ.out;omega
     have aXk:2*es.length≤Lf.length:=by have:=fQ.out;omega
     have aXQ:Lf.length≤60000:=by have:=fQ.out;omega
     replace a7Z:=Hd a7Z;replace rp:=Hd rp
     try try simp only [fA]
     go_loopw [93] (fun v93 wr=>∃ (e:Nat) (F G S2:Nat→Prop) (wq wm wG:World) (ae:Option Addr) (ce:Nat) (rE:List (Option Addr × Nat × Nat)),e≤es.length∧v93=.int .i64 (e:Int)∧aA (nd w) wr [.aH F wq,.aB b2 (.cells #[.slice none 0 0,.slice none 0 0,.slice none 0 0,.slice none 0 0,.slice none 0 0,.slice none 0 0,.slice none 0 0,.slice none 0 0,.slice none 0 0,.slice none 0 0,.slice none 0 0] 67 (0,0)),.aB qH (.cells #[.slice g1.1 g1.2.1 g1.2.2,.slice g2.1 g2.2.1 g2.2.2,.slice g3.1 g3.2.1 g3.2.2,.slice g4.1 es.length g4.2.2,.slice r1.1 r1.2.1 r1.2.2,.slice r2.1 r2.2.1 r2.2.2,.slice r3.1 nf r3.2.2,.slice r4.1 r4.2.1 r4.2.2,.slice r5.1 r5.2.1 r5.2.2,.slice (some ⟨ga,0,none⟩) nf cf,.slice ae e ce] 67 (0,0)),.row (.slice (some ⟨ga,0,none⟩) nf cf) 22 1 nf (qL bF.length bs),.aH M wm,.row (.slice ae e ce) 22 1 e (rE.map sv),.aH G wG]∧tH wq S2 xs ys a1 bF.length c1 g3 g4 r1 r2 r3 r4 r5 rs es prs V (nZ V es RL) Lf∧(∀ k,S2 k→F k)∧(∀ k,S k→S2 k)∧(∀ k,S2 k→S k∨w.heap.size≤k)∧(∀ k,Old w k→F k)∧Below (nd w).heap.size (nd w) wq∧k7 wm M 3 bF.length bs (nV y0 ys fs0 e)∧rE.length=e∧∀ i,i<(km y0 ys e).length→Ints wG G (sv (nth nn rE i)) (nth [] (km y0 ys e) i)) (fun v93 _=>es.length - (intOf v93).toNat)
     case atStart=>exact⟨0,F2,_,S2,w2,wm,_,none,0,[],by omega,rfl,hS,hC,aQ,a5J,fx,bP,mH,hM,rfl,fun i hi=>by simp [km] at hi⟩
     case round =>
      clear hS hC hM mH aQ bP a5J fx;obtain⟨e,F2,G,S2,wq,wm,wG,ae,ce,rE,he,rfl,hS,hC,aQ,a5J,fx,bP,mH,hM,hrE,u9⟩:=hrel;replace u9:=Hd u9;replace hrE:=Hd hrE
      by_cases gV:e<es.length
      ·obtain⟨l,hl,el⟩:=rB.out (2*e) (by omega)
       obtain⟨r,hr,er⟩:=rB.out (2*e+1) (by omega);obtain⟨hea,heb⟩:=hC.arr.ab _ (cQ ah es e gV);have hrl:rs.length=es.length:=hC.arr.jf.len;have jP:prs.length=V.length:=hC.arr.hV.ps.len;have dF:=eS sU jk (show e<rs.length by omega);have hE1:=hC.arr.jf.el e gV;have pa:dh wq S2 (nth dT prs (nth ah es e).a) (nth au V (nth ah es e).a):=hC.arr.hV.ps.el _ hea;have pb:dh wq S2 (nth dT prs (nth ah es e).b) (nth au V (nth ah es e).b):=hC.arr.hV.ps.el _ heb;have ba:=hC.arr.bq _ (cQ au V _ hea);have bb:=hC.arr.bq _ (cQ au V _ heb);obtain⟨rr,hrr⟩:∃ rr,nth jk rs e=rr:=⟨_,rfl⟩;rw [hrr] at dF hE1;have ca:=eS gF dT (show (nth ah es e).a<prs.length by omega);have cb:=eS gF dT (show (nth ah es e).b<prs.length by omega);have kh:oK y0 e=oz (nth au V (nth ah es e).a) (nth au V (nth ah es e).b):=by rw [iJ];rfl
       have jt:=aVc ba bb;obtain⟨hae,pB⟩:(nth ah es e).a=rr.a∧(nth ah es e).b=rr.b:=⟨hE1.a.symm,hE1.b.symm⟩;rw [hae] at ca pa ba kh jt hea;rw [pB] at cb pb bb kh jt heb;obtain⟨A1,e1⟩:∃ q,nth dT prs rr.a=q:=⟨_,rfl⟩;obtain⟨B1,e2⟩:∃ q,nth dT prs rr.b=q:=⟨_,rfl⟩;obtain⟨a,e3⟩:∃ q,nth au V rr.a=q:=⟨_,rfl⟩;obtain⟨b,e4⟩:∃ q,nth au V rr.b=q:=⟨_,rfl⟩;rw [e1] at ca pa;rw [e2] at cb pb;rw [e3] at pa ba kh jt;rw [e4] at pb bb kh jt;clear e1 e2 e3 e4 hE1 hrr hae pB;replace ca:((prs.flatMap pc).drop (rr.a*8)).take 8=[.bool A1.x.num.neg,.slice A1.x.num.ad A1.x.num.n A1.x.num.cap,.bool A1.x.less.neg,.slice A1.x.less.ad A1.x.less.n A1.x.less.cap,.bool A1.y.num.neg,.slice A1.y.num.ad A1.y.num.n A1.y.num.cap,.bool A1.y.less.neg,.slice A1.y.less.ad A1.y.less.n A1.y.less.cap]:=ca;replace cb:((prs.flatMap pc).drop (rr.b*8)).take 8=[.bool B1.x.num.neg,.slice B1.x.num.ad B1.x.num.n B1.x.num.cap,.bool B1.x.less.neg,.slice B1.x.less.ad B1.x.less.n B1.x.less.cap,.bool B1.y.num.neg,.slice B1.y.num.ad B1.y.num.n B1.y.num.cap,.bool B1.y.less.neg,.slice B1.y.less.ad B1.y.less.n B1.y.less.cap]:=cb;replace dF:((rs.flatMap ec).drop (e*5)).take 5=[.int .i64 (rr.a:Int),.int .i64 (rr.b:Int),.slice rr.ad rr.n rr.c,.int .i64 rr.dir.x,.int .i64 rr.dir.y]:=dF;have bh:=hC.arr.hE.weaken aQ;have dL:=hC.arr.hV.sl.weaken aQ;rw [j6.out] at bh;replace el:=Hd el;replace er:=Hd er;replace kh:=Hd kh
       go_wp2_with (with_reducible first|refine iH underlying32 sizeOf101 bh dF fun bq oq bO=>?_|refine j9 hS isAgg101 sizeOf101 ?_|refine bH hS zeroValue101 fun b14 aX1 hS=>?_|refine aJ 7 hS sizeOf101 fun _ hS=>?_)
       refine kQ 1 [.p 0,.p 1,.r 2,.p 3,.r 4,.p 5,.r 6,.p 7,.p 8,.r 9,.p 10,.r 11,.p 12,.r 13,.e 14,.p 15,.p 16,.p 17] [.e 19,.p 20] [] [eU 18 15 56 (.agg #[.bool false,.slice none 0 0,.bool false,.slice none 0 0,.bool false,.slice none 0 0,.bool false,.slice none 0 0])] (nd w) _ (by kernel_rfl) (by kernel_rfl) (o8 rfl zeroValue56) hS.drew ?_;obtain⟨aI,aT⟩:=hS.jw
       repeat (first|(with_reducible first|refine vq 2 isAgg31 ?_|refine vq 7 isAgg3 ?_)|((with_reducible refine zu ?_);refine zn rfl rfl (lI (T:=31) underlying31 sizeOf56 rfl rfl dL (by omega) (by omega) (by omega) (fun bq oq bO=>?_));simp only [Int.toNat_natCast] at bO;rw [ca] at bO;simp only [aD])|((with_reducible refine zu ?_);refine zn rfl rfl (lI (T:=31) underlying31 sizeOf56 rfl rfl dL (by omega) (by omega) (by omega) (fun bq oq bO=>?_));simp only [Int.toNat_natCast] at bO;rw [cb] at bO;simp only [aD])|((with_reducible refine tg ?_);refine qF rfl rfl (a9E (T:=56) isAgg56 sizeOf56 rfl (by with_reducible assumption) (by simp) rfl ?_);simp only [aD])|(with_reducible refine lF ?_))
       refine eI rfl (fun B wB hS=>?_);simp only [aK] at hS
       go_wp2_with (fail)
       refine (aMU A1 B1 a b 300 _ S2 (pa.at hS aQ) (pb.at hS aQ) (aP.at hS aQ) ba bb (by decide)).mono ?_;rintro e w' ⟨z,S3,rfl,bI,hz⟩;simp only [];go_step;have hC:=((hC.at hS aQ).below bI.below).wk bI.sub (bI.yj (aP.at hS aQ));have my:∀ k,S3 k→S2 k∨w.heap.size≤k:=fun k hk=>(bI.new k hk).imp id fun h=>Nat.le_trans hS.size h.1
       have pJ:=(aA.gZ hS bP mH).trans (bI.below.mono (aA.gZ hS bP mH).size);have aT:=aA.fC hS bI.below aI aT;obtain⟨F3,bM,nQ,yo⟩:=hS.a1l aQ bI;have dE:=fun k h=>nQ k (bP k h)
       have aV6:=bI.sub;clear hS bI aQ bP mH bh dL ca cb dF pa pb;have hS:=yo;clear yo;have aI:=dZ.trans aI nQ;refine eH (H:=_) hS aI aT ?_;refine dz ?_;refine mq (fun b15 wB hS=>?_);simp only [aK] at hS;simp only [aD];refine aZ ?_
       (with_reducible refine aJ 8 hS sizeOf56 fun _ hS=>?_)
       refine aX (aA.gA hS.sb aI aT) ?_;refine aM ?_;refine bE ?_;clear aI aT nQ
       go_wp2_with (fail)
       have hS:=(hS.sub (H':=[.aH F3 _,.aB b2 _,.aB qH _,.row (.slice (some ⟨ga,0,none⟩) nf cf) _ _ _ _,.aH M _,.row (.slice ae e ce) _ _ _ _,.aH G _,.aB b15 _]) (by repeat (first|exact List.Sublist.refl _|apply List.Sublist.cons_cons|apply List.Sublist.cons))).iB 3 1;simp only [aK] at hS;rw [← kh.out] at hz jt;obtain⟨q,hq⟩:∃ q,q=oK y0 e:=⟨_,rfl⟩;rw [← hq] at hz jt;obtain⟨ss,vI⟩:∃ ss,ss=pQ ys q:=⟨_,rfl⟩;obtain⟨fs,lN⟩:∃ fs,fs=nV y0 ys fs0 e:=⟨_,rfl⟩;have aVm:fs.length=nf:=by rw [lN,a0m,dp]
       have aME:ss.length=bF.length:=by rw [vI,a6C,iT.out]
       have zo:∀ k,k<bF.length→ke (nth mO ys k).V q=none:=fun k hk=>by
        rw [hq,iJ];exact aRq hP.out (by rw [← hlen.out];exact hk) (a1v.out k hk).arr gV
       rw [← lN] at hM;replace lN:=Hd lN;replace vI:=Hd vI;replace hq:=Hd hq;replace zo:=Hd zo;clear kh ba bb hea heb dj
       try try simp only [fA]
       go_loopw [17,122] (fun v17 aCv wr=>∃ (k:Nat) (F:Nat→Prop) (wq wm:World) (a7:Option Addr) (c7:Nat),k≤bF.length∧aCv=.int .i64 (k:Int)∧v17=.slice a7 k c7∧aA (nd w) wr [.aH F wq,.aB b2 (.cells #[.slice none 0 0,.slice none 0 0,.slice none 0 0,.slice none 0 0,.slice none 0 0,.slice none 0 0,.slice none 0 0,.slice none 0 0,.slice none 0 0,.slice none 0 0,.slice none 0 0] 67 (0,0)),.aB qH (.cells #[.slice g1.1 g1.2.1 g1.2.2,.slice g2.1 g2.2.1 g2.2.2,.slice g3.1 g3.2.1 g3.2.2,.slice g4.1 es.length g4.2.2,.slice r1.1 r1.2.1 r1.2.2,.slice r2.1 r2.2.1 r2.2.2,.slice r3.1 nf r3.2.2,.slice r4.1 r4.2.1 r4.2.2,.slice r5.1 r5.2.1 r5.2.2,.slice (some ⟨ga,0,none⟩) nf cf,.slice ae e ce] 67 (0,0)),.row (.slice (some ⟨ga,0,none⟩) nf cf) 22 1 nf (qL bF.length bs),.aH M wm,.row (.slice ae e ce) 22 1 e (rE.map sv),.aH G wG,.aB b15 (.cells #[.bool z.x.num.neg,.slice z.x.num.ad z.x.num.n z.x.num.cap,.bool z.x.less.neg,.slice z.x.less.ad z.x.less.n z.x.less.cap,.bool z.y.num.neg,.slice z.y.num.ad z.y.num.n z.y.num.cap,.bool z.y.less.neg,.slice z.y.less.ad z.y.less.n z.y.less.cap] 56 (0,0)),.row (.slice a7 k c7) 3 1 k (iv ((ss.take k).map (·.1)))]∧tH wq S3 xs ys a1 bF.length c1 g3 g4 r1 r2 r3 r4 r5 rs es prs V (nZ V es RL) Lf∧dh wq S3 z q∧(∀ k,S3 k→F k)∧(∀ k,Old w k→F k)∧Below (nd w).heap.size (nd w) wq∧k7 wm M 3 bF.length bs (qy ss l r fs k)) (fun _ aCv _=>bF.length - (intOf aCv).toNat)
       case atStart=>exact⟨0,F3,_,wm,none,0,by omega,rfl,rfl,hS,hC,hz,bM,dE,pJ,hM⟩
       case round =>
        clear hS hC hz bM dE pJ hM;obtain⟨k,F3,wq,wm,a7,c7,hk,rfl,rfl,hS,hC,hz,bM,dE,pJ,hM⟩:=hrel;revert hS
        repeat (rename aA _ _ _=>hZ;clear hZ)
        intro hS
        by_cases cW:k<bF.length
        ·
         have hcx:=eS aSW sr0 (show k<xs.length by have:=hxl.out;omega);have hky:k<ys.length:=by have:=iT.out;omega
         have hIS:=hC.shs.el k hky;have qI:=a7c.of (a1v.out k cW) (bG.out.one k (by rw [← hlen.out];exact cW)) hIS.arr.ab;have lD:=zo.out k cW;have qB:=a9X (q:=q) hky;rw [← vI.out] at qB;have a1V:Ints wq S3 (sv (nth sr0 xs k).r2) (Sh.f (nth mO ys k)).L:=hIS.fc.l;have hrg:=aHg (L:=(Sh.f (nth mO ys k)).L) lD a1V.2 (Nat.le_trans qI.el (by decide));rw [← qB] at hrg
         have eK:(ss.take (k+1)).map (·.1)=(ss.take k).map (·.1)++[(nth sn ss k).1]:=by
          rw [nk sn ss k (by omega)];simp
         obtain⟨x,hx⟩:∃ x,nth sr0 xs k=x:=⟨_,rfl⟩;obtain⟨y,hy⟩:∃ y,nth mO ys k=y:=⟨_,rfl⟩;obtain⟨s,hs⟩:∃ s,nth sn ss k=s:=⟨_,rfl⟩;rw [hx] at hcx hIS;rw [hy] at hIS qI lD qB;rw [hs] at qB hrg eK;have aDf:qy ss l r fs (k+1)=tC (tC (qy ss l r fs k) l k s.2.1) r k s.2.2:=by rw [qy,hs]
         replace hcx:((xs.flatMap uv).drop (k*10)).take 10=[.slice x.g1.1 x.g1.2.1 x.g1.2.2,.slice x.g2.1 x.g2.2.1 x.g2.2.2,.slice x.g3.1 x.g3.2.1 x.g3.2.2,.slice x.g4.1 x.g4.2.1 x.g4.2.2,.slice x.r1.1 x.r1.2.1 x.r1.2.2,.slice x.r2.1 x.r2.2.1 x.r2.2.2,.slice x.r3.1 x.r3.2.1 x.r3.2.2,.slice x.r4.1 x.r4.2.1 x.r4.2.2,.slice x.r5.1 x.r5.2.1 x.r5.2.2,.func (.func 16) #[.pointer (some ⟨x.l.bl,0,none⟩)] #[]]:=hcx;have lB:=hC.sl.weaken bM;replace qB:=Hd qB;replace eK:=Hd eK;replace aDf:=Hd aDf;clear hx hy hs a1V
         go_wp2_with (with_reducible first|refine iH underlying123 sizeOf125 lB hcx fun bq oq bO=>?_|refine j9 hS isAgg125 sizeOf125 ?_|refine bH hS zeroValue125 fun b19 aXK hS=>?_|refine aJ 9 hS sizeOf125 fun _ hS=>?_|refine bA 9 hS isAgg125 sizeOf125 ?_|refine bA 7 hS isAgg56 sizeOf56 ?_)
         refine (aRW x.l x.g1 x.g2 x.g3 x.g4 x.r1 x.r2 x.r3 x.r4 x.r5 x.rs y.es x.prs y.V 700 (Sh.f y) z q _ S3 (iX.aVa (hIS.at hS bM).loc (by decide)) (hIS.at hS bM).fc (hz.at hS bM) lD ⟨jt.1.mono (by decide),jt.2.mono (by decide)⟩ (by decide) qI.dir qI.dx qI.lt qI.ll qI.vl qI.el).mono ?_;rintro e' w4 ⟨rfl,cY⟩;rw [← qB.out];have hC4:=(hC.at hS bM).below cY.below;have hz4:=(hz.at hS bM).grow cY;have hB4:=(aA.gZ hS dE pJ).trans (cY.below.mono (aA.gZ hS dE pJ).size);obtain⟨F4,bZ,tl,hS4⟩:=hS.a1l bM cY;have gG:=fun k h=>tl k (dE k h)
         clear hS cY hC hz bM dE pJ tl hIS qI lD lB hcx;have hS:=hS4;clear hS4;revert hS
         repeat (rename aA _ _ _=>hZ;clear hZ)
         intro hS
         go_wp2_with (first|((with_reducible refine dV (T:=22) ?_);refine fZ (T:=22) (v:=.int .i64 _) hS underlying22 sizeOf3 zeroValue3 rfl rfl rfl (by decide) (by decide) rfl (fun bl fX hS=>?_);simp only [aD];simp only [Value.cells] at hS)|((with_reducible refine eG ?_);refine fw (t:=22) 8 hS underlying22 a0A rfl (by decide) rfl rfl rfl rfl (by simp [Value.oneCell']) (by omega) (by unfold maxLen;omega) (fun a8 c8 _ hS=>?_);simp only [aD];simp only [aK] at hS))
         have u1:IntKind.i64.wrap (2*(e:Int))=((2*e:Nat):Int):=w7;have u2:IntKind.i64.wrap (2*(e:Int)+1)=((2*e+1:Nat):Int):=w7;have hLs:=hC4.fl.1.weaken bZ;have dK:((Lf.map (Value.int .i64)).drop (2*e*1)).take 1=[.int .i64 (l:Int)]:=by rw [aA4 (by have:=fQ.out;omega),el.out]
         have ql:((Lf.map (Value.int .i64)).drop ((2*e+1)*1)).take 1=[.int .i64 (r:Int)]:=by rw [aA4 (by have:=fQ.out;omega),er.out]
         have oB:bs.length=nf:=by rw [hM.len,a0u,aVm]
         have aG1:=aG3 bF.length (bs:=bs) (i:=l) (by omega);have aKL:=aG3 bF.length (bs:=bs) (i:=r) (by omega);obtain⟨bl',aAn⟩:∃ b,nth 0 bs l=b:=⟨_,rfl⟩;obtain⟨br',aAi⟩:∃ b,nth 0 bs r=b:=⟨_,rfl⟩;rw [aAn] at aG1;rw [aAi] at aKL;replace aAn:=Hd aAn;replace aAi:=Hd aAi;refine qR [.p 0,.r 1,.p 2,.p 3,.r 4,.p 5,.p 6,.p 7,.r 8,.p 9,.r 10,.p 11,.p 12,.r 13,.p 14,.p 15,.r 16,.p 17,.p 18,.p 19,.p 20,.r 21,.p 22,.r 23,.p 24,.p 25,.p 26,.p 27,.m 28,.p 29,.m 30] [28,30] (fun w'=>aA (nd w) w' [.aH F4 w4,.aB qH (.cells #[.slice g1.1 g1.2.1 g1.2.2,.slice g2.1 g2.2.1 g2.2.2,.slice g3.1 g3.2.1 g3.2.2,.slice g4.1 es.length g4.2.2,.slice r1.1 r1.2.1 r1.2.2,.slice r2.1 r2.2.1 r2.2.2,.slice r3.1 nf r3.2.2,.slice r4.1 r4.2.1 r4.2.2,.slice r5.1 r5.2.1 r5.2.2,.slice (some ⟨ga,0,none⟩) nf cf,.slice ae e ce] 67 (0,0)),.row (.slice (some ⟨ga,0,none⟩) nf cf) 22 1 nf (qL bF.length bs)]) (fun w'=>aA (nd w) w' _) (by kernel_rfl) (by kernel_rfl) hS.drew (fun _ hZ=>aA.sub hZ (by repeat (first|exact List.Sublist.refl _|apply List.Sublist.cons_cons|apply List.Sublist.cons))) (fun w1 hS=>?_)
         repeat (with_reducible first|refine cZ 1 isAgg35 ?_|refine cZ 1 isAgg22 ?_|refine bU ?_)
         try simp only [u1]
         (with_reducible refine e9 underlying22 sizeOf3 hLs dK fun bq oq bO=>?_)
         (with_reducible refine eY isAgg3 ?_)
         (with_reducible refine a2J underlying35 sizeOf22 ?_)
         ((with_reducible refine l8 ?_);refine jh rfl rfl (yy (T:=22) 2 isAgg22 rfl rfl aG1 ?_);simp only [aD])
         repeat (with_reducible first|refine cZ 1 isAgg35 ?_|refine cZ 1 isAgg22 ?_|refine bU ?_)
         try simp only [u1,u2]
         clear u1 u2
         (with_reducible refine e9 underlying22 sizeOf3 hLs ql fun bq oq bO=>?_)
         (with_reducible refine eY isAgg3 ?_)
         (with_reducible refine a2J underlying35 sizeOf22 ?_)
         ((with_reducible refine l8 ?_);refine jh rfl rfl (yy (T:=22) 2 isAgg22 rfl rfl aKL ?_);simp only [aD])
         repeat (with_reducible first|refine a2J underlying22 sizeOf3 ?_|refine bU ?_)
         refine dC ?_
         ((with_reducible refine gK (T:=3) ?_);refine aLA (T:=3) 4 hS hM (i:=l) (by rw [a0u];omega) cW hrg.2.1 aAn.out rfl rfl rfl sizeOf3 (fun _ hS hM=>?_);simp only [aD];simp only [aK] at hS)
         refine dD ?_
         repeat (with_reducible refine a2J underlying22 sizeOf3 ?_)
         refine dC ?_
         ((with_reducible refine gK (T:=3) ?_);refine aLA (T:=3) 4 hS hM (i:=r) (by rw [a2Q,a0u];omega) cW hrg.2.2 aAi.out rfl rfl rfl sizeOf3 (fun _ hS hM=>?_);simp only [aD];simp only [aK] at hS)
         refine dD ?_;refine aM ?_;refine bE ?_;go_wp2;go_roundw
         case rel=>exact⟨k+1,F4,w4,_,a8,c8,by omega,by simp,rfl,by rw [eK.out];exact hS.sb,hC4,hz4,bZ,gG,hB4,by rw [aDf.out];exact hM⟩
         case measure=>simp [intOf];omega
        ·obtain rfl:k=bF.length:=by omega
         have eK:(ss.take bF.length).map (·.1)=re y0 ys e:=by rw [← aME,List.take_length,vI.out,hq.out];rfl
         have hei:∀ x ∈ re y0 ys e,bQ x:=fun x hx=>by
          unfold re pQ at hx;rw [List.map_map,List.mem_map] at hx;obtain⟨y,hy,rfl⟩:=hx;obtain⟨k,hk,rfl⟩:=List.mem_iff_getElem.1 hy;have iE:k<bF.length:=by have:=iT.out;omega
          have h1:=hC.shs.el k hk;have h2:=a7c.of (a1v.out k iE) (bG.out.one k (by rw [← hlen.out];exact iE)) h1.arr.ab;have h3:Ints wq S3 (sv (nth sr0 xs k).r2) (Sh.f (nth mO ys k)).L:=h1.fc.l;have h4:=zo.out k iE;rw [bS mO ys k hk] at h2 h3 h4;rw [hq.out] at h4;exact (aHg (L:=(Sh.f ys[k]).L) h4 h3.2 (Nat.le_trans h2.el (by decide))).1
         have jx:qy ss l r fs bF.length=nV y0 ys fs0 (e+1):=by
          have e1:nth 0 (Sh.f y0).L (2*e)=(l:Int):=by rw [← el.out,rp.out,iJ];rfl
          have e2:nth 0 (Sh.f y0).L (2*e+1)=(r:Int):=by rw [← er.out,rp.out,iJ];rfl
          rw [nV,e1,e2,← lN.out,← hq.out,← vI.out,iT.out];rfl
         rw [eK] at hS;rw [jx] at hM;replace hei:=Hd hei;replace eK:=Hd eK;replace jx:=Hd jx
         go_wp2_with (first|(with_reducible refine aU 2 hS isAgg35 ?_)|((with_reducible refine dV (T:=35) ?_);refine fZ (T:=35) (v:=.slice _ _ _) hS underlying35 sizeOf22 zeroValue22 rfl rfl rfl (by decide) (by decide) rfl (fun bl fX hS=>?_);simp only [aD];simp only [Value.cells] at hS)|((with_reducible refine eG ?_);refine fw (t:=35) 5 hS underlying35 zh rfl (by decide) rfl rfl rfl rfl (by simp [Value.oneCell']) (by omega) (by unfold maxLen;omega) (fun a9 c9 _ hS=>?_);simp only [aD];simp only [aK] at hS)|(with_reducible refine aJ 2 hS sizeOf35 fun _ hS=>?_))
         have hS:=hS.order [6,8,0,1,2,3,4,5,7] rfl;simp only [iw] at hS;have pr:Ints _ _ (.slice a7 bF.length c7) (re y0 ys e):=Ints.intro (hS.dn 1 rfl) hei.out;have aKU:∀ i,i<(km y0 ys e).length→Ints _ G (sv (nth nn rE i)) (nth [] (km y0 ys e) i):=fun i hi=>(u9.out i hi).move fun k hk=>hS.aH (bW (i:=0) rfl) hk
         have hS:=aA.join (hS.freeze 1 rfl);obtain⟨G',hG'⟩:∃ G':Nat→Prop,G'=fun k=>G k∨(Chunk.row (.slice a7 bF.length c7) 3 1 bF.length (iv (re y0 ys e))).has k:=⟨_,rfl⟩
         rw [← hG'] at hS;have a9Q:=j8.snoc (S:=G') (r:=(a7,bF.length,c7)) (l:=re y0 ys e) (fun i hi=>(aKU i hi).weaken fun k hk=>by rw [hG'];exact .inl hk) (by rw [hrE.out,a5l]) (pr.weaken fun k hk=>by rw [hG'];exact .inr hk);rw [← aQb] at a9Q;replace a9Q:=Hd a9Q;clear pr aKU hG';have hS:=hS.order [1,2,3,4,5,6,0,7] rfl;simp only [iw] at hS;have hS:=hS.sub (List.take_sublist 7 _);simp only [List.take_succ_cons,List.take_zero] at hS;have hrm:(rE++[(a7,bF.length,c7)]).map sv=rE.map sv++[.slice a7 bF.length c7]:=by simp [sv]
         rw [← hrm] at hS;replace hrm:=Hd hrm;have aMw:∀ k,S k→S3 k:=fun k h=>aV6 k (a5J k h)
         have aTY:∀ k,S3 k→S k∨w.heap.size≤k:=fun k hk=>(my k hk).elim (fx k) .inr
         go_wp2;go_roundw
         case rel=>exact⟨e+1,F3,G',S3,wq,wm,_,a9,c9,rE++[(a7,bF.length,c7)],by omega,by simp,hS,hC,bM,aMw,aTY,dE,pJ,hM,by simp [hrE.out],a9Q.out⟩
         case measure=>simp [intOf];omega
      ·obtain rfl:e=es.length:=by omega
       revert hS
       repeat (rename aA _ _ _=>hZ;clear hZ)
       intro hS;have hC:=hC.at hS aQ;have hmt:=hM.now hS (bW (i:=4) rfl);have qI:=hS.dn 3 rfl;have hse:=hS.dn 5 rfl;have hG:=fun k hk=>hS.aH (bW (i:=6) rfl) (k:=k) hk
       have hS:=hS.order [0,4,6,3,5,1,2] rfl;simp only [iw] at hS;have m1:=fun k h=>hS.oJ bP (c:=.aH M wm) (bW (i:=0) rfl) (k:=k) h
       have m2:=fun k h=>hS.oJ bP (c:=.aH G wG) (bW (i:=1) rfl) (k:=k) h
       have m3:=fun k h=>hS.oJ bP (c:=.row (.slice (some ⟨ga,0,none⟩) nf cf) 22 1 nf (qL bF.length bs)) (bW (i:=2) rfl) (k:=k) h
       have m4:=fun k h=>hS.oJ bP (c:=.row (.slice ae es.length ce) 22 1 es.length (rE.map sv)) (bW (i:=3) rfl) (k:=k) h
       have hB5:=aA.gZ hS bP mH;have hS:=aA.a13 (aA.join (aA.join hS));obtain⟨S5,zg⟩:∃ S5:Nat→Prop,S5=fun k=>(((S2 k∨M k)∨G k)∨(Chunk.row (.slice (some ⟨ga,0,none⟩) nf cf) 22 1 nf (qL bF.length bs)).has k)∨(Chunk.row (.slice ae es.length ce) 22 1 es.length (rE.map sv)).has k:=⟨_,rfl⟩
       obtain⟨F5,aBc⟩:∃ F5:Nat→Prop,F5=fun k=>(((F2 k∨M k)∨G k)∨(Chunk.row (.slice (some ⟨ga,0,none⟩) nf cf) 22 1 nf (qL bF.length bs)).has k)∨(Chunk.row (.slice ae es.length ce) 22 1 es.length (rE.map sv)).has k:=⟨_,rfl⟩
       rw [← aBc] at hS
       have cG:∀ k,S5 k→F5 k:=fun k h=>by
        rw [zg] at h;rw [aBc];exact h.imp (fun h=>h.imp (fun h=>h.imp (fun h=>h.imp (aQ k) id) id) id) id
       have hn5:∀ k,S5 k→S k∨w.heap.size≤k:=fun k h=>by
        rw [zg] at h
        rcases h with (((h|h)|h)|h)|h
        ·exact fx k h
        ·exact .inr (m1 k h).1
        ·exact .inr (m2 k h).1
        ·exact .inr (m3 k h).1
        ·exact .inr (m4 k h).1
       have t1:∀ k,S2 k→S5 k:=fun k h=>by rw [zg];exact .inl (.inl (.inl (.inl h)))
       have t2:∀ k,M k→S5 k:=fun k h=>by rw [zg];exact .inl (.inl (.inl (.inr h)))
       have t3:∀ k,G k→S5 k:=fun k h=>by rw [zg];exact .inl (.inl (.inr h))
       have qI:=qI.weaken (T:=S5) fun k h=>by rw [zg];exact .inl (.inr h)
       have hse:=hse.weaken (T:=S5) fun k h=>by rw [zg];exact .inr h
       have hL5:=aP.at hS cG;have ff:∀ k,Old w k→F5 k:=fun k h=>by rw [aBc];exact .inl (.inl (.inl (.inl (bP k h))))
       have aVv:∀ k,S k→S5 k:=fun k h=>t1 k (a5J k h)
       have jx:jL y0 ys=nV y0 ys fs0 es.length:=by
        have e1:(Sh.f y0).O.length=nf:=by rw [a2d.out,iJ];rfl
        have e2:y0.es=es:=by rw [iJ]
        unfold jL;rw [e1,e2,iT.out,← a4i.out]
       have hg4:(g4.1,es.length,g4.2.2)=g4:=by rw [← j6.out]
       have rS:(r3.1,nf,r3.2.2)=r3:=by rw [← a8B]
       have qi:y0.es=es:=by rw [iJ]
       have fT:zR wr S5 ⟨g1,g2,g3,(g4.1,es.length,g4.2.2),r1,r2,(r3.1,nf,r3.2.2),r4,r5,(some ⟨ga,0,none⟩,nf,cf),(ae,es.length,ce),rs,prs,bs.map fun b=>(some ⟨b,0,none⟩,bF.length,bF.length),rE⟩ y0 (jL y0 ys) (km y0 ys y0.es.length):=by
        rw [jx,hg4,rS,qi];refine⟨by rw [iJ];exact hC.arr.wk t1 hL5,by rw [iJ];exact hC.fc.wk t1,hmt.mat qI (by rw [a0m,dp]) t2,⟨by rw [a5l];exact hrE.out,?_,fun i hi=>((u9.out i hi).move hG).weaken t3⟩⟩;rw [a5l];exact hse
       clear hg4 rS qi t1 t2 t3 m1 m2 m3 m4 qI hse hmt hG aBc zg hC hM u9 jx;replace fT:=Hd fT
       go_wp2_with (with_reducible first|refine bA 2 hS isAgg67 sizeOf67 ?_|refine aJ 1 hS sizeOf67 fun _ hS=>?_)
       exact jJ 1 hS rfl rfl rfl isAgg67 sizeOf67 rfl rfl ⟨_,y0,ys,S5,rfl,⟨aA.gZ hS ff hB5,by rw [dY];exact Nat.zero_le _,aVv,fun k hk=>(hn5 k hk).imp id fun h=>⟨h,(hS.ok _ List.mem_cons_self k (cG k hk)).1⟩⟩,fT.out.at hS cG,by rw [iJ];exact⟨hP.out,hR.out⟩,by rw [iT.out,hlen.out],fun j hj=>a1v.out j (by rw [hlen.out];exact hj)⟩
theorem vo {w:World} {S:Nat→Prop} {s:Option Addr × Nat × Nat} {rs:List (Option Addr × Nat × Nat)} {fs:List (List Int)} (h:j8 w S s rs fs) {i:Nat} (hi:i<fs.length):∃ (ad:Option Addr) (n c:Nat),((rs.map sv).drop (i*1)).take 1=[.slice ad n c]∧Ints w S (.slice ad n c) (nth [] fs i)∧n=(nth [] fs i).length:=by
 have h4:=h.row i hi;have hr:i<rs.length:=by rw [h.len];exact hi
 refine⟨(nth nn rs i).1,(nth nn rs i).2.1,(nth nn rs i).2.2,?_,h4,Ints.len h4⟩;rw [Nat.mul_one,bS _ _ _ hr,List.drop_eq_getElem_cons (by simpa using hr)];simp [sv]
theorem j8.bj {w:World} {S:Nat→Prop} {s:Option Addr × Nat × Nat} {rs:List (Option Addr × Nat × Nat)} {fs:List (List Int)} (h:j8 w S s rs fs):j8 w (Old w) s rs fs:=⟨h.len,h.sl.bj,fun i hi=>Ints.bj (h.row i hi)⟩
theorem j8.n {w:World} {S:Nat→Prop} {a:Option Addr} {n c:Nat} {rs:List (Option Addr × Nat × Nat)} {fs:List (List Int)} (h:j8 w S (a,n,c) rs fs):n=fs.length:=by
 obtain⟨_,_,_,e,_⟩:=h.sl;cases e;rfl
def vx (m x:Int):Bool:=decide (x<0) || decide (m≤x)
def po (fs:List (List Int)):Nat:=if 0<fs.length then (nth [] fs 0).length else 0
def pF (fs:List (List Int)) (W:List Int):Bool:=!(W.any (vx (po fs:Int)))
def xi (fs:List (List Int)) (aDc fK:Int):List Nat:=if pF fs [aDc]=true then (List.range fs.length).filter (fun i=>decide (nth 0 (nth [] fs i) aDc.toNat=fK)) else []
theorem aRg (x m:Int) (b:Nat) (w:World) (hb:dM w (Old w) ⟨b,0,none⟩ [.int .i64 m]):Calls prog 110 #[.int .i64 x,.pointer (some ⟨b,0,none⟩)] w fun e w'=>e=.returned (.bool (vx m x))∧w'=w:=by
 have hS:=aA.start w;have pD:(vx m x)=(decide (x<0) || decide (m≤x)):=rfl;rw [pD];clear pD
 go_enter func110,ntmps110
 by_cases h1:x<0
 ·have f1:decide (x<0)=true:=by simpa using h1
  go_wp2_with (first|((with_reducible refine dq (T:=3) ?_);refine dI hS rfl (gu (T:=3) 0 isAgg3 rfl hb (by simp) rfl ?_);simp only [aD]))
  go_ret;exact⟨by simp [h1],rfl⟩
 ·have f1:decide (x<0)=false:=by simpa using h1
  by_cases h2:m≤x
  ·have f2:decide (m≤x)=true:=by simpa using h2
   go_wp2_with (first|((with_reducible refine dq (T:=3) ?_);refine dI hS rfl (gu (T:=3) 0 isAgg3 rfl hb (by simp) rfl ?_);simp only [aD]))
   go_ret;exact⟨by simp [h1,h2],rfl⟩
  ·have f2:decide (m≤x)=false:=by simpa using h2
   go_wp2_with (first|((with_reducible refine dq (T:=3) ?_);refine dI hS rfl (gu (T:=3) 0 isAgg3 rfl hb (by simp) rfl ?_);simp only [aD]))
   go_ret;exact⟨by simp [h1,h2],rfl⟩
theorem aV9 (a:Option Addr) (n c b:Nat) (W:List Int) (m:Int) (w:World) (hx:Ints w (Old w) (.slice a n c) W) (hb:dM w (Old w) ⟨b,0,none⟩ [.int .i64 m]) :
 Calls prog 156 #[.slice a n c,.func (.func 110) #[] #[.pointer (some ⟨b,0,none⟩)]] w fun e w'=>(∃ r:Int,e=.returned (.int .i64 r)∧decide (0≤r)=W.any (vx m))∧w'=w:=by
 have hn:=hx.len;subst hn;have hS:=aA.start w;have hle:=hx.le
 go_enter func156,ntmps156
 go_wp2
 go_loopw [8] (fun i wr=>∃ k:Nat,k≤W.length∧i=.int .i64 (k:Int)∧(W.take k).any (vx m)=false∧wr=w) (fun i _=>W.length - (intOf i).toNat)
 case atStart=>exact⟨0,by omega,rfl,by simp,by first|rfl⟩
 case round =>
  obtain⟨k,hk,rfl,hA,rfl⟩:=hrel
  by_cases aW:k<W.length
  ·have eK:=nk 0 W k aW
   have HA:=Hd hA;have HT:=Hd eK;clear hA eK;have qe:=cQ 0 W k aW;obtain⟨x,nH⟩:∃ x,nth 0 W k=x:=⟨_,rfl⟩
   go_wp2_with (with_reducible first|refine sV underlying22 sizeOf3 fun _ _ _=>?_|refine fP hS isAgg3 ?_)
   try rw [nH]
   rw [nH] at HT qe;refine (aRg x m b _ hb).mono ?_;rintro e w' ⟨rfl,rfl⟩;cases tu:vx m x with
   | true =>
    simp only [];replace tu:=Hd tu;go_wp2;go_ret;refine⟨⟨_,rfl,?_⟩,rfl⟩;have h1:W.any (vx m)=true:=List.any_eq_true.2 ⟨_,qe,tu.out⟩;rw [h1];simp
   | false =>
    simp only [];replace tu:=Hd tu;go_wp2;go_roundw
    case rel=>exact⟨k+1,by omega,by simp,by rw [HT.out,List.any_append,HA.out];simp [tu.out],by first|trivial⟩
    case measure=>simp [intOf];omega
  ·obtain rfl:k=W.length:=by omega
   rw [List.take_length] at hA;replace hA:=Hd hA;go_wp2;go_ret;exact⟨⟨_,rfl,by rw [hA.out];rfl⟩,rfl⟩
theorem aIz (a:Option Addr) (n c b:Nat) (W:List Int) (m:Int) (w:World) (hx:Ints w (Old w) (.slice a n c) W) (hb:dM w (Old w) ⟨b,0,none⟩ [.int .i64 m]) :
 Calls prog 109 #[.slice a n c,.func (.func 110) #[] #[.pointer (some ⟨b,0,none⟩)]] w fun e w'=>e=.returned (.bool (W.any (vx m)))∧w'=w:=by
 go_enter func109,ntmps109
 go_wp2_with (fail)
 refine (aV9 a n c b W m _ hx hb).mono ?_;rintro e w' ⟨⟨r,rfl,hr⟩,rfl⟩;replace hr:=Hd hr;simp only [];go_wp2;go_ret;exact⟨by rw [← hr.out];rfl,rfl⟩
theorem aSs (r:yr) (fs:List (List Int)) (ad:Option Addr) (n c:Nat) (W:List Int) (w:World) (S:Nat→Prop) (hF:j8 w S r.fa r.rF fs) (hl:Ints w (Old w) (.slice ad n c) W) :
 Calls prog 61 #[.agg #[.slice r.g1.1 r.g1.2.1 r.g1.2.2,.slice r.g2.1 r.g2.2.1 r.g2.2.2,.slice r.g3.1 r.g3.2.1 r.g3.2.2,.slice r.g4.1 r.g4.2.1 r.g4.2.2,.slice r.r1.1 r.r1.2.1 r.r1.2.2,.slice r.r2.1 r.r2.2.1 r.r2.2.2,.slice r.r3.1 r.r3.2.1 r.r3.2.2,.slice r.r4.1 r.r4.2.1 r.r4.2.2,.slice r.r5.1 r.r5.2.1 r.r5.2.2,.slice r.fa.1 r.fa.2.1 r.fa.2.2,.slice r.ea.1 r.ea.2.1 r.ea.2.2],.slice ad n c] w fun e w'=>e=.returned (.bool (pF fs W))∧Pure w S w' S:=by
 obtain⟨g1,g2,g3,g4,r1,r2,r3,r4,r5,⟨fa,nf,cf⟩,ea,_,_,rF,_⟩:=r;simp only at hF ⊢;obtain rfl:=hF.n;have pT:=hF.bj;have bh:bN w (Old w) 1 (.slice fa fs.length cf) fs.length (rF.map sv):=pT.sl;have hle:=bh.le;have hhq:pF fs W = !(W.any (vx (po fs:Int))):=rfl;rw [hhq];clear hhq;obtain⟨M,hM⟩:∃ M,po fs=M:=⟨_,rfl⟩;rw [hM];have hS:=aA.start w
 go_enter func61,ntmps61
 by_cases hp:0<fs.length
 ·obtain⟨ad0,n0,c0,iq,hi0,oh⟩:=vo pT hp
  have hMn:n0=M:=by rw [← hM];unfold po;rw [if_pos hp];exact oh
  have qU:decide ((0:Int)<(fs.length:Int))=true:=by simpa using hp
  clear oh hi0 hM;subst hMn;replace iq:((rF.map sv).drop (((0:Nat))*1)).take 1=[.slice ad0 n0 c0]:=iq
  go_wp2_with (with_reducible first|refine cI hS fun b2 ri hS=>?_|refine bH hS zeroValue3 fun b5 wb5 hS=>?_|refine aJ 2 hS sizeOf3 fun _ hS=>?_|refine aU 1 hS isAgg35 ?_|refine iH underlying35 sizeOf22 bh iq fun bq oq bO=>?_|refine fP hS isAgg22 ?_)
  refine (aIz ad n c b5 W (n0:Int) _ (hl.arg hS (by simp)) (hS.kT 2 rfl)).mono ?_;rintro e w' ⟨rfl,rfl⟩;simp only [];go_wp2;go_ret;exact⟨rfl,hS.pure S⟩
 ·have hMn:M=0:=by rw [← hM];unfold po;rw [if_neg hp]
  have qU:decide ((0:Int)<(fs.length:Int))=false:=by simp only [decide_eq_false_iff_not];omega
  clear hM;subst hMn
  go_wp2_with (with_reducible first|refine cI hS fun b2 ri hS=>?_|refine bH hS zeroValue3 fun b5 wb5 hS=>?_|refine aJ 2 hS sizeOf3 fun _ hS=>?_|refine aU 1 hS isAgg35 ?_)
  refine (aIz ad n c b5 W (((0:Nat)):Int) _ (hl.arg hS (by simp)) (hS.kT 2 rfl)).mono ?_;rintro e w' ⟨rfl,rfl⟩;simp only [];go_wp2;go_ret;exact⟨rfl,hS.pure S⟩
structure a4n (fs:List (List Int)):Prop where
 row:∀ i,i<fs.length→(nth [] fs i).length=po fs
 len:fs.length≤65536
theorem hasQ_one {fs:List (List Int)} {x:Int}:pF fs [x]=true↔0≤x∧x<(po fs:Int):=by
 unfold pF vx;simp
theorem a1r {fs:List (List Int)} {x y:Int}:pF fs [x,y]=true↔(0≤x∧x<(po fs:Int))∧0≤y∧y<(po fs:Int):=by
 unfold pF vx;simp
theorem Pure.own {w w':World} {H:List Chunk} (hS:aA w w' (.aH (Old w) w::H)) (S:Nat→Prop):Pure w S w' (fun k=>S k∨Go.Hp.ja w w' k):=⟨hS.toBelow (by simp),hS.drawn,fun k h=>.inl h,fun k h=>h⟩
theorem zs_app (xs:List Nat) (n:Nat):zs xs++[(n:Int)]=zs (xs++[n]):=by simp [zs]
theorem aA.resInts {w0 w:World} {H:List Chunk} {T:TypeId} {v:Value} {n:Nat} {xs:List Int} (j:Nat) (h:aA w0 w (.aH (Old w0) w0::H)) (hj:H[j]? = some (Chunk.row v T 1 n (iv xs))) (hb:∀ x ∈ xs,bQ x):Ints w (Go.Hp.ja w0 w) v xs :=
 (Ints.intro (h.dn (j+1) hj) hb).weaken fun k hk=>h.a9i (c:=.row v T 1 n (iv xs)) (bW hj) hk
theorem aA.resNats {w0 w:World} {H:List Chunk} {T:TypeId} {v:Value} {n:Nat} {xs:List Nat} (j:Nat) (h:aA w0 w (.aH (Old w0) w0::H)) (hj:H[j]? = some (Chunk.row v T 1 n (iv (zs xs)))) (hb:∀ x ∈ xs,x≤9223372036854775807):jZ w (Go.Hp.ja w0 w) v xs :=
 h.resInts j hj fun x hx=>by
  simp only [zs,List.mem_map] at hx;obtain⟨y,hy,rfl⟩:=hx;have:=hb y hy;exact⟨by omega,by omega⟩
theorem ints1 {w0 w:World} {H:List Chunk} {b:Nat} {x:Int} {T:TypeId} (j:Nat) (hS:aA w0 w H) (hj:H[j]? = some (.aB b (.cells #[.int .i64 x] T (0,0)))) (hx:bQ x):Ints w (Old w) (.slice (some ⟨b,0,none⟩) 1 1) [x] :=
 Ints.intro (xs:=[x]) (bN.ve (k:=1) (n:=1) hS (bW hj) rfl (by unfold maxLen;omega)).bj (fun y hy=>by simp at hy;exact hy ▸ hx)
theorem aI0 {w0 w:World} {H:List Chunk} {b:Nat} {x y:Int} {T:TypeId} (j:Nat) (hS:aA w0 w H) (hj:H[j]? = some (.aB b (.cells #[.int .i64 x,.int .i64 y] T (0,0)))) (hx:bQ x) (hy:bQ y):Ints w (Old w) (.slice (some ⟨b,0,none⟩) 2 2) [x,y] :=
 Ints.intro (xs:=[x,y]) (bN.ve (k:=1) (n:=2) hS (bW hj) rfl (by unfold maxLen;omega)).bj (fun z hz=>by
  simp only [List.mem_cons,List.not_mem_nil,or_false] at hz
  rcases hz with rfl|rfl
  ·exact hx
  ·exact hy)
theorem part_any (r:yr) (fs:List (List Int)) (aDc fK:Int) (w:World) (S:Nat→Prop) (hF:j8 w S r.fa r.rF fs) (hL:aP w S) (bG:a4n fs) (h1:bQ aDc) (h2:bQ fK) :
 Calls prog 27 #[.agg #[.slice r.g1.1 r.g1.2.1 r.g1.2.2,.slice r.g2.1 r.g2.2.1 r.g2.2.2,.slice r.g3.1 r.g3.2.1 r.g3.2.2,.slice r.g4.1 r.g4.2.1 r.g4.2.2,.slice r.r1.1 r.r1.2.1 r.r1.2.2,.slice r.r2.1 r.r2.2.1 r.r2.2.2,.slice r.r3.1 r.r3.2.1 r.r3.2.2,.slice r.r4.1 r.r4.2.1 r.r4.2.2,.slice r.r5.1 r.r5.2.1 r.r5.2.2,.slice r.fa.1 r.fa.2.1 r.fa.2.2,.slice r.ea.1 r.ea.2.1 r.ea.2.2],.int .i64 aDc,.int .i64 fK] w fun e w'=>∃ (a:Option Addr) (n c:Nat),e=.returned (.tuple #[.slice a n c,.int .i64 (if xi fs aDc fK=[] then 7 else 0)])∧Pure w S w' (fun k=>S k∨ja w w' k)∧jZ w' (ja w w') (.slice a n c) (xi fs aDc fK):=by
 have cH:=fun ad n c W w' hF'=>aSs r fs ad n c W w' S hF'
 obtain⟨g1,g2,g3,g4,r1,r2,r3,r4,r5,⟨fa,nf,cf⟩,ea,_,_,rF,_⟩:=r;simp only at hF cH ⊢;obtain rfl:=hF.n;have pT:=hF.bj;have bh:bN w (Old w) 1 (.slice fa fs.length cf) fs.length (rF.map sv):=pT.sl;have hle:=bh.le;have hlen:=bG.len;have oE:=bG.row;replace bG:=Hd bG;replace oE:=Hd oE;obtain⟨P,hP⟩:∃ P,P=xi fs aDc fK:=⟨_,rfl⟩;rw [← hP];replace hP:=Hd hP;have hS:=aA.start w
 go_enter func27,ntmps27
 go_wp2_with (first|(with_reducible first|refine cI hS fun b2 ri hS=>?_|refine bA 1 hS isAgg67 sizeOf67 ?_)|((with_reducible refine dV (T:=22) ?_);refine fZ (T:=22) (v:=.int .i64 _) hS underlying22 sizeOf3 zeroValue3 rfl rfl rfl (by decide) (by decide) rfl (fun bl fX hS=>?_);simp only [aD];simp only [Value.cells] at hS))
 simp only [aK] at hS;refine (cH _ _ _ [aDc] _ (hF.move (hS.da hL)) (ints1 2 hS rfl h1)).mono ?_;rintro e w' ⟨rfl,hq⟩;have hS:=hS.below hq.below hq.drawn;clear hq cH;revert hS
 repeat (rename aA _ _ _=>hZ;clear hZ)
 intro hS
 by_cases hh:pF fs [aDc]=true
 ·have eJ:=hasQ_one.1 hh
  have gH:xi fs aDc fK=(List.range fs.length).filter (fun i=>decide (nth 0 (nth [] fs i) aDc.toNat=fK)):=by unfold xi;rw [if_pos hh]
  rw [← hP.out] at gH;rw [hh];obtain⟨p,hp⟩:∃ p:Nat→Bool,p=fun i=>decide (nth 0 (nth [] fs i) aDc.toNat=fK):=⟨_,rfl⟩
  rw [← hp] at gH;have qX:∀ i,p i=decide (nth 0 (nth [] fs i) aDc.toNat=fK):=fun i=>by rw [hp]
  clear hp hh;replace qX:=Hd qX;replace gH:=Hd gH;clear hP;simp only []
  go_wp2_with (with_reducible refine aU 1 hS isAgg35 ?_)
  have hS:=hS.iB 3 1;simp only [aK] at hS
  try try simp only [fA]
  go_loopw [8,19] (fun v8 v19 wr=>∃ (i m:Nat) (a8:Option Addr) (c8:Nat),i≤fs.length∧m≤i∧v19=.int .i64 (i:Int)∧v8=.slice a8 m c8∧aA w wr [.aH (Old w) w,.aB b2 (.cells #[.slice g1.1 g1.2.1 g1.2.2,.slice g2.1 g2.2.1 g2.2.2,.slice g3.1 g3.2.1 g3.2.2,.slice g4.1 g4.2.1 g4.2.2,.slice r1.1 r1.2.1 r1.2.2,.slice r2.1 r2.2.1 r2.2.2,.slice r3.1 r3.2.1 r3.2.2,.slice r4.1 r4.2.1 r4.2.2,.slice r5.1 r5.2.1 r5.2.2,.slice fa fs.length cf,.slice ea.1 ea.2.1 ea.2.2] 67 (0,0)),.aB bl (.cells #[.int .i64 aDc] 3 (0,0)),.row (.slice a8 m c8) 3 1 m (iv (zs ((List.range i).filter p)))]∧((List.range i).filter p).length=m) (fun _ v19 _=>fs.length - (intOf v19).toNat)
  case atStart=>exact⟨0,0,none,0,by omega,by omega,rfl,rfl,by simpa [iv,zs] using hS,rfl⟩
  case round =>
   clear hS;obtain⟨i,m,a8,c8,hi,oO,rfl,rfl,hS,jY⟩:=hrel;replace jY:=Hd jY
   by_cases aW:i<fs.length
   ·obtain⟨a1,n1,c1,ef,pO,eX⟩:=vo pT aW
    rw [oE.out i aW] at eX;have hlz:(aDc.toNat:Int)=aDc:=by omega
    have j7:(nth 0 (nth [] fs i) aDc.toNat == fK)=p i:=by rw [qX.out i];rfl
    have xL:(List.range (i+1)).filter p=(List.range i).filter p++if p i=true then [i] else []:=by
     rw [List.range_succ,List.filter_append,List.filter_cons,List.filter_nil]
    cases hpv:p i with
    | true =>
     rw [hpv] at j7;have nD:(List.range (i+1)).filter p=(List.range i).filter p++[i]:=by rw [xL,hpv];rfl
     replace nD:=Hd nD;clear hpv xL
     go_wp2_with (first|(with_reducible first|refine iH underlying35 sizeOf22 bh ef fun bq oq bO=>?_|refine fP hS isAgg22 ?_|refine sV underlying22 sizeOf3 fun _ _ _=>?_|refine fP hS isAgg3 ?_)|((with_reducible refine dV (T:=22) ?_);refine fZ (T:=22) (v:=.int .i64 _) hS underlying22 sizeOf3 zeroValue3 rfl rfl rfl (by decide) (by decide) rfl (fun bl2 aWI hS=>?_);simp only [aD];simp only [Value.cells] at hS)|((with_reducible refine eG ?_);refine fw (t:=22) 3 hS underlying22 a0A rfl (by decide) rfl rfl rfl rfl (by simp [Value.oneCell']) (by omega) (by unfold maxLen;omega) (fun a9 c9 _ hS=>?_);simp only [aD];simp only [aK] at hS))
     go_roundw
     case rel=>exact⟨i+1,m+1,a9,c9,by omega,by omega,by simp,rfl,by rw [nD.out,← zs_app];exact hS.sb,by rw [nD.out,List.length_append,jY.out];rfl⟩
     case measure=>simp [intOf];omega
    | false =>
     rw [hpv] at j7;have nD:(List.range (i+1)).filter p=(List.range i).filter p:=by rw [xL,hpv];simp
     replace nD:=Hd nD;clear hpv xL
     go_wp2_with (first|(with_reducible first|refine iH underlying35 sizeOf22 bh ef fun bq oq bO=>?_|refine fP hS isAgg22 ?_|refine sV underlying22 sizeOf3 fun _ _ _=>?_|refine fP hS isAgg3 ?_)|((with_reducible refine dV (T:=22) ?_);refine fZ (T:=22) (v:=.int .i64 _) hS underlying22 sizeOf3 zeroValue3 rfl rfl rfl (by decide) (by decide) rfl (fun bl2 aWI hS=>?_);simp only [aD];simp only [Value.cells] at hS)|((with_reducible refine eG ?_);refine fw (t:=22) 3 hS underlying22 a0A rfl (by decide) rfl rfl rfl rfl (by simp [Value.oneCell']) (by omega) (by unfold maxLen;omega) (fun a9 c9 _ hS=>?_);simp only [aD];simp only [aK] at hS))
     go_roundw
     case rel=>exact⟨i+1,m,a8,c8,by omega,by omega,by simp,rfl,by rw [nD.out];exact hS,by rw [nD.out,jY.out]⟩
     case measure=>simp [intOf];omega
   ·obtain rfl:i=fs.length:=by omega
    have hre:jZ wr (ja w wr) (.slice a8 m c8) ((List.range fs.length).filter p):=hS.resNats 2 rfl (fun x hx=>by have:=List.mem_range.1 (List.mem_filter.1 hx).1;omega);rw [← gH.out] at jY hre;have dL:=Pure.own hS S
    by_cases wA:m=0
    ·subst wA
     have hPe:P=[]:=List.eq_nil_of_length_eq_zero jY.out;replace hPe:=Hd hPe;go_wp2;refine bodyPost_ret (results_tmp2 rfl _ _ _) rfl ?_;exact⟨none,0,0,by first|rfl|(rw [hPe.out];rfl),dL,by first|exact Ints.nil _ _|(rw [hPe.out];exact Ints.nil _ _)⟩
    ·have hPe:P≠[]:=fun e=>wA (by rw [← jY.out,e];rfl)
     have hf3:decide ((m:Int)=0)=false:=by simp;omega
     replace hPe:=Hd hPe;go_wp2;refine bodyPost_ret (results_tmp2 rfl _ _ _) rfl ?_;exact⟨a8,m,c8,by first|rfl|(rw [if_neg hPe.out];rfl),dL,hre⟩
 ·have hPe:P=[]:=by rw [hP.out];unfold xi;rw [if_neg hh]
  have hh:pF fs [aDc]=false:=by simpa using hh
  rw [hh];have dL:=Pure.own hS S;replace hPe:=Hd hPe;simp only [];go_wp2;refine bodyPost_ret (results_tmp2 rfl _ _ _) rfl ?_;exact⟨none,0,0,by first|rfl|(rw [hPe.out];rfl),dL,by first|exact Ints.nil _ _|(rw [hPe.out];exact Ints.nil _ _)⟩
def uZ (g:Gp):Gp:=⟨(g.x+12) / 4 - 3,(g.y+12) / 4 - 3⟩
def Gp.jd (g:Gp):Prop:=(-3≤g.x∧g.x≤11)∧-3≤g.y∧g.y≤11
theorem a2M {g:Gp} (h:g.mV):(uZ g).jd:=by unfold Gp.mV at h;unfold Gp.jd uZ;simp only;omega
theorem Gp.jd.ok {g:Gp} (h:g.jd):g.ok:=by unfold Gp.jd at h;unfold Gp.ok fS;omega
theorem Gp.gP.mV {b:Int} {g:Gp} (h:g.gP b) (hb:b≤44):g.mV:=by unfold Gp.gP at h;unfold Gp.mV;omega
structure a2u (l:Lay):Prop where
 sg:∀ t ∈ l.1,t.a.jd∧t.b.jd∧t.a≠t.b
 pt:∀ g ∈ l.2,g.jd
 ls:l.1.length≤20
 lp:l.2.length≤1
structure nW (ls:List Lay):Prop where
 len:ls.length≤3
 el:∀ l ∈ ls,a2u l
theorem nW.snoc {ls:List Lay} {l:Lay} (h:nW ls) (h1:a2u l) (hl:ls.length<3):nW (ls++[l]):=⟨by rw [List.length_append,List.length_singleton];omega,fun x hx=>by
 rw [List.mem_append,List.mem_singleton] at hx
 rcases hx with hx|rfl
 ·exact h.el x hx
 ·exact h1⟩
theorem nW.dX {ls:List Lay} (h:nW ls):(∀ t ∈ dX ls,t.a.jd∧t.b.jd∧t.a≠t.b)∧(dX ls).length≤60:=by
 refine⟨fun t ht=>?_,?_⟩
 ·obtain⟨l,hl,ht⟩:=List.mem_flatMap.1 ht
  exact (h.el l hl).sg t ht
 ·have h1:=aE2 (f:=Prod.fst) (k:=20) fun l hl=>(h.el l hl).ls
  have h2:=h.len;unfold Hp.dX;have:ls.length*20≤3*20:=Nat.mul_le_mul_right _ h2;omega
theorem nW.dm {ls:List Lay} (h:nW ls):(∀ g ∈ dm ls,g.jd)∧(dm ls).length≤3:=by
 refine⟨fun t ht=>?_,?_⟩
 ·obtain⟨l,hl,ht⟩:=List.mem_flatMap.1 ht
  exact (h.el l hl).pt t ht
 ·have h1:=aE2 (f:=Prod.snd) (k:=1) fun l hl=>(h.el l hl).lp
  have h2:=h.len;unfold Hp.dm;omega
theorem jc.snoc {w:World} {S:Nat→Prop} {rs:List kr} {ls:List Lay} {r:kr} {l:Lay} (h:jc w S rs ls) (h1:bN w S 4 (.slice r.a.1 r.a.2.1 r.a.2.2) l.1.length (l.1.flatMap sc)) (h2:bN w S 2 (.slice r.b.1 r.b.2.1 r.b.2.2) l.2.length (l.2.flatMap gc)):jc w S (rs++[r]) (ls++[l]):=by
 have e1:nth nu (rs++[r]) ls.length=r:=by rw [← h.len];unfold nth;simp
 have e2:nth fF (ls++[l]) ls.length=l:=by unfold nth;simp
 refine⟨by simp [h.len],fun i hi=>?_,fun i hi=>?_⟩ <;> rw [List.length_append,List.length_singleton] at hi <;> rcases Nat.lt_or_ge i ls.length with aW|gB
 ·rw [ju nu rs [r] i (by rw [h.len];exact aW),ju fF ls [l] i aW];exact h.sg i aW
 ·obtain rfl:i=ls.length:=by omega
  rw [e1,e2];exact h1
 ·rw [ju nu rs [r] i (by rw [h.len];exact aW),ju fF ls [l] i aW];exact h.pt i aW
 ·obtain rfl:i=ls.length:=by omega
  rw [e1,e2];exact h2
theorem jc.wk {w:World} {S T:Nat→Prop} {rs:List kr} {ls:List Lay} (h:jc w S rs ls) (hs:∀ k,S k→T k):jc w T rs ls:=⟨h.len,fun i hi=>(h.sg i hi).weaken hs,fun i hi=>(h.pt i hi).weaken hs⟩
theorem mapx_end {w wS w':World} {F1:Nat→Prop} {bF:List kr} {ls:List Lay} {xs:List Sz} {ps:List Gp} {ax ap:Option Addr} {cx cp:Nat} {T1 T2:TypeId} {c:Chunk} {R:List Chunk}
 (hS:aA (nd w) w' (.aH F1 wS::.row (.slice ax xs.length cx) T1 4 xs.length (xs.flatMap sc)::.row (.slice ap ps.length cp) T2 2 ps.length (ps.flatMap gc)::c::R)) (hO:∀ k,Old w k→F1 k) (hl:jc wS (fun k=>F1 k∧w.heap.size≤k) bF ls) (hB:Below (nd w).heap.size (nd w) wS) :
 ∃ F2:Nat→Prop,aA (nd w) w' [.aH F2 w',c]∧jc w' (fun k=>F2 k∧w.heap.size≤k) (bF++[⟨(ax,xs.length,cx),(ap,ps.length,cp)⟩]) (ls++[(xs,ps)])∧(∀ k,Old w k→F2 k)∧Below (nd w).heap.size (nd w) w':=by
 have h1:=hS.dn 1 rfl;have h2:=hS.dn 2 rfl;have eX:∀ k,(Chunk.row (.slice ax xs.length cx) T1 4 xs.length (xs.flatMap sc)).has k→w.heap.size≤k:=fun k hk=>(hS.oJ hO (c:=.row (.slice ax xs.length cx) T1 4 xs.length (xs.flatMap sc)) (by simp) hk).1
 have fx:∀ k,(Chunk.row (.slice ap ps.length cp) T2 2 ps.length (ps.flatMap gc)).has k→w.heap.size≤k:=fun k hk=>(hS.oJ hO (c:=.row (.slice ap ps.length cp) T2 2 ps.length (ps.flatMap gc)) (by simp) hk).1
 obtain⟨F2,aQ⟩:∃ F2:Nat→Prop,F2=fun k=>(F1 k∨(Chunk.row (.slice ax xs.length cx) T1 4 xs.length (xs.flatMap sc)).has k)∨(Chunk.row (.slice ap ps.length cp) T2 2 ps.length (ps.flatMap gc)).has k:=⟨_,rfl⟩
 have cK:=aA.a13 hS;rw [← aQ] at cK;refine⟨F2,aA.sub cK ?_,((hl.move (hS.da fun k h=>h.1)).wk (T:=fun k=>F2 k∧w.heap.size≤k) fun k h=>⟨by rw [aQ];exact .inl (.inl h.1),h.2⟩).snoc (r:=⟨(ax,xs.length,cx),(ap,ps.length,cp)⟩) (l:=(xs,ps)) (h1.weaken fun k h=>⟨by rw [aQ];exact .inl (.inr h),eX k h⟩) (h2.weaken fun k h=>⟨by rw [aQ];exact .inr h,fx k h⟩),fun k h=>by rw [aQ];exact .inl (.inl (hO k h)),aA.gZ hS hO hB⟩;exact List.Sublist.cons_cons _ (List.Sublist.cons_cons _ (List.nil_sublist _))
section
variable {P:Program} {K:Act→Prop} {a:Act} {dst:Option Tmp} {ty T E:TypeId} {pos:String} {ak:Array Edge} {gd:Option (Nat × Bool)} {x lo hi:Operand}
theorem aPo {ad:Option Addr} {n c j m k:Nat} {jv mv:Int} (hu:P.underlying T=some (.slice E)) (hz:∀ w,(sizeOf E).run P w=.ok k w) (hx:a.eval x=.slice ad n c) (hl:a.eval lo=.int .i64 jv) (hh:a.eval hi=.int .i64 mv) (vh:jv=(j:Int)) (fi:mv=(m:Int)) (xg:j≤m) (s8:m≤c) {v:Value} (nC:sG ad c j m k=v)
 (hk:K (a.put dst v)):oN P ⟨dst,.slice T x (some lo) (some hi) none,ty,pos,ak,gd⟩ a K:=by
 subst vh fi;subst nC;refine⟨⟨_,fun w'=>?_,hk⟩⟩;generalize a.eval=ρ at hx hh hl
 have hb:(Instr.sliceBound (.int .i64 (m:Int)) c .sliceAcap).run P w'=.ok m w':=by
  simp [Instr.sliceBound,asIntOf,go_sem,s8]
 have iD:(Instr.sliceBound (.int .i64 (j:Int)) m .sliceB).run P w'=.ok j w':=by
  simp [Instr.sliceBound,asIntOf,go_sem,xg]
 simp [execOp,hx,hh,hl,Instr.sliceAt,Instr.slice,Instr.sliceBounds,go_sem,run_underlying hu,hb,iD,hz,sG];intro h;omega
end
theorem aWu (ad:Option Addr) (c j m k:Nat):∃ gD c',sG ad c j m k=.slice gD (m - j) c':=⟨_,_,rfl⟩
theorem Ints.part {w:World} {S:Nat→Prop} {ad:Option Addr} {c j m:Nat} {xs:List Int} (h:Ints w S (.slice ad xs.length c) xs) (hj:j≤m) (hm:m≤xs.length):∃ gD c',sG ad c j m 1=.slice gD (m - j) c'∧Ints w S (.slice gD (m - j) c') ((xs.take m).drop j):=by
 obtain⟨gD,c',e⟩:=aWu ad c j m 1;refine⟨gD,c',e,?_,fun x hx=>h.2 x (List.mem_of_mem_take (List.mem_of_mem_drop hx))⟩;have h1:=bN.sub h.1 hj hm;rw [e,Nat.mul_one,Nat.mul_one,← List.map_take,← List.map_drop] at h1;have hl:((xs.take m).drop j).length=m - j:=by rw [List.length_drop,List.length_take];omega
 rw [hl];exact h1
theorem a95 (n:Int):(og n).mV:=by have:=a7k n;unfold Gp.mV;omega
theorem a2E (g:Gp) (hg:g.mV) (w:World) :
 Calls prog 56 #[.agg #[.int .i64 g.x,.int .i64 g.y]] w fun e w'=>e=.returned (.agg #[.int .i64 (uZ g).x,.int .i64 (uZ g).y])∧Pure w (fun _=>False) w' (fun _=>False):=by
 obtain⟨⟨x1,x2⟩,y1,y2⟩:=hg;obtain⟨x,y⟩:=g;simp only [uZ] at x1 x2 y1 y2 ⊢;obtain⟨p,hp⟩:∃ p,x+12=p:=⟨_,rfl⟩;obtain⟨q,hq⟩:∃ q,y+12=q:=⟨_,rfl⟩;rw [hp,hq];have e1:p.tdiv 4=p / 4:=Int.tdiv_eq_ediv_of_nonneg (by omega);have e2:q.tdiv 4=q / 4:=Int.tdiv_eq_ediv_of_nonneg (by omega);have u1:IntKind.i64.wrap (x+12)=p:=by rw [hp];exact w6
 have u2:IntKind.i64.wrap (y+12)=q:=by rw [hq];exact w6
 have u3:IntKind.i64.wrap (p / 4)=p / 4:=w6;have u4:IntKind.i64.wrap (q / 4)=q / 4:=w6;have u5:IntKind.i64.wrap (p / 4 - 3)=p / 4 - 3:=w6;have u6:IntKind.i64.wrap (q / 4 - 3)=q / 4 - 3:=w6;replace hp:=Hd hp;replace hq:=Hd hq;have hS:=aA.start w
 go_enter func56,ntmps56
 go_wp2_with (with_reducible first|refine cI hS fun bx cu hS=>?_|refine bH hS zeroValue29 fun b6 xz hS=>?_|refine aU 1 hS isAgg3 ?_|refine aJ 2 hS sizeOf29 fun _ hS=>?_)
 exact fE 2 hS rfl rfl rfl isAgg29 sizeOf29 rfl rfl ⟨rfl,hS.pure _⟩
theorem a3E:(prog.info? 64).map (fun i=>(i.zero,i.size,i.bytes))=some (some (.agg #[.slice none 0 0,.slice none 0 0]),2,48):=by kernel_rfl
theorem aFk (al am:Option Addr) (nl cl nm cm:Nat) (xl xm:List Int) (w:World) (hl:Ints w (Old w) (.slice al nl cl) xl) (hm:Ints w (Old w) (.slice am nm cm) xm) :
 Calls prog 19 #[.slice al nl cl,.slice am nm cm] w fun e w'=>∃ (bF:List kr) (ls:List Lay) (ad:Option Addr) (c:Nat),e=.returned (.slice ad bF.length c)∧nW ls∧Below w.heap.size w w'∧bN w' (ja w w') 2 (.slice ad bF.length c) bF.length (bF.flatMap fI)∧jc w' (ja w w') bF ls:=by
 obtain rfl:=hl.len;have hle:=hl.le;have dK:xl.length≤cl:=by obtain⟨_,a,cap,e,h3,_⟩:=hl.1;cases e;exact h3
 have c0:=fun w' h=>a3r am nm cm xm 0 4 w' h (by decide) (by decide)
 have hz:=a9e xm 0 (show (1:Int)≤4 by decide);obtain⟨Z,hZ⟩:∃ Z:Nat,rJ xm 0 4=(Z:Int):=⟨(rJ xm 0 4).toNat,by omega⟩;rw [hZ] at hz;simp only [hZ] at c0;clear hZ;have hS:=aA.oI w;have dY:=tb w
 go_enter func19,ntmps19
 go_wp2_with (fail)
 refine (c0 _ (hm.arg hS (by simp))).mono ?_;rintro e w' ⟨rfl,rfl⟩;simp only []
 go_wp2_with (fail)
 clear c0;have hS:=hS.iB 64 2;simp only [aK] at hS
 try try simp only [fA]
 go_loopw [5,7] (fun v5 v7 wr=>∃ (i:Nat) (F:Nat→Prop) (wq:World) (bF:List kr) (ls:List Lay) (aO:Option Addr) (cO:Nat),i≤Z∧v7=.int .i64 (i:Int)∧v5=.slice aO i cO∧aA (nd w) wr [.aH F wq,.row (.slice aO i cO) 64 2 i (bF.flatMap fI)]∧bF.length=i∧nW ls∧jc wq (fun k=>F k∧w.heap.size≤k) bF ls∧(∀ k,Old w k→F k)∧Below (nd w).heap.size (nd w) wq) (fun _ v7 _=>Z - (intOf v7).toNat)
 case atStart=>exact⟨0,Old w,w,[],[],none,0,by omega,rfl,rfl,hS,rfl,⟨by simp,fun l hl=>by simp at hl⟩,⟨rfl,fun i hi=>by simp at hi,fun i hi=>by simp at hi⟩,fun k h=>h,(Pure.oI w (fun _=>False)).below⟩
 case round =>
  clear hS;obtain⟨i,F,wq,bF,ls,aO,cO,hi,rfl,rfl,hS,fQ,bG,fq,hO,hB⟩:=hrel
  by_cases hiz:i<Z
  ·have c1:=fun w' h=>a3r am nm cm xm (1+(i:Int)) 3 w' h (by decide) (by decide)
   have c2:=fun w' h=>a3r am nm cm xm (1+(i:Int)) 4 w' h (by decide) (by decide)
   have c3:=fun w' h=>a3r am nm cm xm 4 1048576 w' h (by decide) (by decide)
   obtain⟨z1,fG⟩:∃ z,rJ xm (1+(i:Int)) 3=z:=⟨_,rfl⟩;obtain⟨z2,gS⟩:∃ z,rJ xm (1+(i:Int)) 4=z:=⟨_,rfl⟩;obtain⟨z3,hz3⟩:∃ z,rJ xm 4 1048576=z:=⟨_,rfl⟩;have aT6:=a9e xm 4 (show (1:Int)≤1048576 by decide);rw [hz3] at aT6;simp only [fG] at c1;simp only [gS] at c2;simp only [hz3] at c3;clear fG gS hz3;obtain⟨fr,vP⟩:∃ fr:Nat,min (xl.length:Int) (4*(i:Int))=(fr:Int):=⟨min xl.length (4*i),by omega⟩;have a8S:fr≤xl.length:=by omega
   obtain⟨tt,htt⟩:∃ tt:Nat,min (xl.length:Int) ((fr:Int)+5)=(tt:Int):=⟨min xl.length (fr+5),by omega⟩;have aEM:fr≤tt∧tt≤xl.length:=by omega
   obtain⟨a1,k1,e1,n1⟩:=Ints.part hl aEM.1 aEM.2;obtain⟨a2,k2,e2,n2⟩:=Ints.part hl a8S (Nat.le_refl _);have u1:IntKind.i64.wrap (4*(i:Int))=4*(i:Int):=w6;have u2:IntKind.i64.wrap ((fr:Int)+5)=(fr:Int)+5:=w6;have u3:IntKind.i64.wrap (1+(i:Int))=1+(i:Int):=w6;replace e1:=Hd e1;replace e2:=Hd e2;replace fQ:=Hd fQ;replace bG:=Hd bG;have bh:=fun (w':World) (hb:Below w.heap.size w w')=>Ints.bj (Ints.move hm fun k hk=>hb.block k hk)
   go_wp2_with (first|((with_reducible refine tD (T:=22) ?_);refine ck rfl (aPo (T:=22) (j:=fr) (m:=tt) underlying22 sizeOf3 rfl rfl rfl rfl rfl aEM.1 (by omega) e1.out ?_);simp only [aD]))
   refine (aS1 a1 (tt - fr) k1 _ _ (Ints.bj (Ints.move n1 fun k hk=>(Below.mS (aA.gZ hS hO hB)).block k hk))).mono ?_;rintro e w2 ⟨os,ad,c1',rfl,a0K,cD,cU⟩;replace hS:=hS.import cU;simp only [aK] at hS;have cJ:∀ t ∈ os,t.a.mV∧t.b.mV∧t.a≠t.b:=a0K;clear cU a0K;simp only []
   go_wp2_with (fail)
   refine (c1 _ (bh _ (Below.mS (aA.gZ hS hO hB)))).mono ?_;rintro e w' ⟨rfl,rfl⟩;simp only []
   by_cases a9S:z1=0
   ·have aQm:(z1 == 0)=true:=by simp [a9S]
    clear a9S
    go_wp2_with (first|((with_reducible refine tD (T:=22) ?_);refine ck rfl (aMr (T:=22) (j:=fr) underlying22 sizeOf3 rfl rfl rfl a8S e2.out ?_);simp only [aD]))
    refine (aR3 a2 (xl.length - fr) k2 4 _ _ (Ints.bj (Ints.move n2 fun k hk=>(Below.mS (aA.gZ hS hO hB)).block k hk)) (by decide)).mono ?_;rintro e w3 ⟨qZ,dU,c12,rfl,a0K,qf,cU⟩;replace hS:=hS.import cU;simp only [aK] at hS;have aIl:∀ t ∈ qZ,t.a.mV∧t.b.mV∧t.a≠t.b:=fun t ht=>⟨(a0K t ht).1.mV (by omega),(a0K t ht).2.1.mV (by omega),(a0K t ht).2.2⟩
    have hS:=hS.order [0,1,3,2] rfl;simp only [iw] at hS;have hS:=aA.sub hS (List.sublist_append_left [_,_,_] [_]);clear cU a0K cJ cD;have cD:qZ.length≤20:=by omega
    have cJ:=aIl;clear aIl;simp only [];obtain⟨wS,hwS⟩:∃ wS,aA (nd w) wS [.aH F wq,.row (.slice aO i cO) 64 2 i (bF.flatMap fI),.row (.slice dU (qZ).length c12) 95 4 (qZ).length ((qZ).flatMap sc)]∧wS=_:=⟨_,hS,rfl⟩;obtain⟨fY,hwS⟩:=hwS;subst hwS;clear fY;have xC:=hS.dn 2 rfl;have wQ:=fq.move (hS.da fun k h=>h.1);have ki:=aA.gZ hS hO hB;have hS:=hS.order [0,2,1] rfl;simp only [iw] at hS;have hS:=aA.sub (aA.join (hS.freeze 1 rfl)) (List.Sublist.refl _);obtain⟨F1,p6⟩:∃ F1,F1=fun k=>F k∨(Chunk.row (.slice dU (qZ).length c12) 95 4 (qZ).length ((qZ).flatMap sc)).has k:=⟨_,rfl⟩
    rw [← p6] at hS;replace xC:=xC.weaken (T:=F1) fun k h=>by rw [p6];exact .inr h
    have av:∀ k,Old w k→F1 k:=fun k h=>by rw [p6];exact .inl (hO k h)
    replace wQ:=wQ.wk (T:=fun k=>F1 k∧w.heap.size≤k) fun k h=>⟨by rw [p6];exact .inl h.1,h.2⟩
    clear p6;replace cJ:=Hd cJ;revert hS
    repeat (rename aA _ _ _=>hZ;clear hZ)
    intro hS
    go_wp2_with (with_reducible first|refine bH hS zeroValue64 fun fo qM hS=>?_|refine aJ 2 hS sizeOf64 fun _ hS=>?_)
    have hS:=hS.iB 95 4;simp only [aK] at hS
    try try simp only [fA]
    revert hS
    repeat (rename aA _ _ _=>hZ;clear hZ)
    intro hS
    go_loopw [11] (fun v11 wr=>∃ (k:Nat) (xs:List Sz) (ax:Option Addr) (cx:Nat),k≤(qZ).length∧v11=.int .i64 (k:Int)∧aA (nd w) wr [.aH F1 wS,.row (.slice aO i cO) 64 2 i (bF.flatMap fI),.aB fo (.cells #[.slice ax xs.length cx,.slice none 0 0] 64 (0,0)),.row (.slice ax xs.length cx) 95 4 xs.length (xs.flatMap sc)]∧xs.length≤k∧∀ t ∈ xs,t.a.jd∧t.b.jd∧t.a≠t.b) (fun v11 _=>(qZ).length - (intOf v11).toNat)
    case atStart=>exact⟨0,[],none,0,by omega,rfl,hS,by simp,fun t ht=>by simp at ht⟩
    case round =>
     clear hS;obtain⟨k,xs,ax,cx,hk,rfl,hS,lG,lB⟩:=hrel;revert hS
     repeat (rename aA _ _ _=>hZ;clear hZ)
     intro hS;replace lB:=Hd lB
     by_cases cW:k<(qZ).length
     ·obtain⟨t,ht⟩:∃ t,nth s0 qZ k=t:=⟨_,rfl⟩
      have mR:=cJ.out t (by rw [← ht];exact cQ s0 qZ k cW);have dF:=eS tc s0 cW;rw [ht] at dF;replace dF:(((qZ).flatMap sc).drop (k*4)).take 4=[.int .i64 t.a.x,.int .i64 t.a.y,.int .i64 t.b.x,.int .i64 t.b.y]:=dF;have qa:=fun w'=>a2E t.a mR.1 w'
      have qb:=fun w'=>a2E t.b mR.2.1 w'
      have xT:=a2M mR.1;have xa:=a2M mR.2.1;obtain⟨p,hp⟩:∃ p,uZ t.a=p:=⟨_,rfl⟩;obtain⟨q,hq⟩:∃ p,uZ t.b=p:=⟨_,rfl⟩;rw [hp] at qa xT;rw [hq] at qb xa;replace xT:=Hd xT;replace xa:=Hd xa;clear ht mR hp hq
      go_wp2_with (with_reducible first|refine iH underlying23 sizeOf95 xC dF fun bq oq bO=>?_|refine j9 hS isAgg95 sizeOf95 ?_|refine bH hS zeroValue95 fun qH a1h hS=>?_|refine aJ 4 hS sizeOf95 fun _ hS=>?_)
      refine kQ 1 [.p 0,.r 1,.p 3,.r 4,.e 2,.e 5,.p 6] [.e 8] [] [eU 7 13 95 (.agg #[.int .i64 0,.int .i64 0,.int .i64 0,.int .i64 0])] (nd w) _ (by kernel_rfl) (by kernel_rfl) (o8 rfl zeroValue95) hS.drew ?_;obtain⟨aI,aT⟩:=hS.jw
      repeat (with_reducible first|refine py 4 isAgg29 sizeOf29 ?_|refine lF ?_)
      refine eI rfl (fun B wB hS=>?_);simp only [aK] at hS
      go_wp2_with (fail)
      refine (qa _).mono ?_;rintro e w' ⟨rfl,hq⟩;simp only [];go_step;replace hS:=hS.fW dY hq.below;refine eH (H:=_) hS aI aT ?_;refine dz ?_;refine eI rfl (fun B wB hS=>?_);simp only [aK] at hS
      go_wp2_with (fail)
      refine (qb _).mono ?_;rintro e w' ⟨rfl,hq⟩;simp only [];go_step;replace hS:=hS.fW dY hq.below;refine eH (H:=_) hS aI aT ?_;refine dz ?_;refine mq (fun xY wB hS=>?_);simp only [aK] at hS;simp only [aD];refine aZ ?_
      (with_reducible refine aJ 5 hS sizeOf95 fun _ hS=>?_)
      refine aX (aA.gA hS.sb aI aT) ?_;refine aM ?_;refine bE ?_;clear aI aT qa qb hq
      by_cases gH:p=q
      ·have HE:∀ w,(Op.equalIn 10000 29 (.agg #[.int .i64 p.x,.int .i64 p.y]) (.agg #[.int .i64 q.x,.int .i64 q.y])).run prog w=.ok true w:=fun w=>by rw [pv,decide_eq_true gH]
       replace gH:=Hd gH
       go_wp2_with (with_reducible refine eW 5 hS isAgg29 sizeOf29 ?_)
       go_roundw
       case rel=>exact⟨k+1,xs,ax,cx,by omega,by simp,hS.sb,by omega,lB.out⟩
       case measure=>simp [intOf];omega
      ·have HE:∀ w,(Op.equalIn 10000 29 (.agg #[.int .i64 p.x,.int .i64 p.y]) (.agg #[.int .i64 q.x,.int .i64 q.y])).run prog w=.ok false w:=fun w=>by rw [pv,decide_eq_false gH]
       have a1a:∀ t ∈ xs++[(⟨p,q⟩:Sz)],t.a.jd∧t.b.jd∧t.a≠t.b:=fun t ht=>by
        rw [List.mem_append,List.mem_singleton] at ht
        rcases ht with ht|rfl
        ·exact lB.out t ht
        ·exact⟨xT.out,xa.out,gH⟩
       have fz:(xs++[(⟨p,q⟩:Sz)]).flatMap sc=xs.flatMap sc++[.int .i64 p.x,.int .i64 p.y,.int .i64 q.x,.int .i64 q.y]:=by simp [sc]
       have dp:(xs++[(⟨p,q⟩:Sz)]).length=xs.length+1:=by simp
       replace gH:=Hd gH;replace a1a:=Hd a1a;replace fz:=Hd fz;replace dp:=Hd dp
       go_wp2_with (first|(with_reducible first|refine eW 5 hS isAgg29 sizeOf29 ?_|refine aU 2 hS isAgg23 ?_|refine bA 5 hS isAgg95 sizeOf95 ?_)|((with_reducible refine dV (T:=23) ?_);refine fZ (T:=23) (v:=.agg #[.int .i64 _,.int .i64 _,.int .i64 _,.int .i64 _]) hS underlying23 sizeOf95 zeroValue95 rfl rfl rfl (by decide) (by decide) rfl (fun bl fX hS=>?_);simp only [aD];simp only [Value.cells] at hS)|((with_reducible refine eG ?_);refine fw (t:=23) 3 hS underlying23 sM rfl (by decide) rfl rfl rfl rfl (by simp [Value.oneCell']) (by omega) (by unfold maxLen;omega) (fun ad9 cp9 _ hS=>?_);simp only [aD];simp only [aK] at hS)|(with_reducible refine aJ 2 hS sizeOf23 fun _ hS=>?_))
       go_roundw
       case rel=>exact⟨k+1,xs++[⟨p,q⟩],ad9,cp9,by omega,by simp,by rw [dp.out,fz.out];exact hS.sb,by rw [dp.out];omega,a1a.out⟩
       case measure=>simp [intOf];omega
     ·obtain rfl:k=(qZ).length:=by omega
      have hS:=hS.iB 29 2;simp only [aK] at hS
      go_wp2_with (fail)
      refine (c2 _ (bh _ (Below.mS (aA.gZ hS av ki)))).mono ?_;rintro e w' ⟨rfl,rfl⟩;simp only []
      by_cases xG:z2=1
      ·have aEc:(z2 == 1)=true:=by simp [xG]
       clear xG;obtain⟨g,hg⟩:∃ g,uZ (og z3)=g:=⟨_,rfl⟩;have qg:=fun w'=>a2E (og z3) (a95 z3) w'
       have g11:=a2M (a95 z3);rw [hg] at qg g11;have dL:∀ y ∈ [g],y.jd:=fun y hy=>by rw [List.mem_singleton.1 hy];exact g11
       replace dL:=Hd dL;have gr:=fun w'=>a4e z3 w' (by unfold bQ;omega)
       clear hg g11
       go_wp2_with (fail)
       refine gI [.p 0,.r 1,.p 2,.e 3,.e 4,.e 5,.e 6,.m 7,.p 8,.m 9] [7,9] (fun wZ=>aA (nd w) wZ _) (by kernel_rfl) (by kernel_rfl) hS.drew (fun w1 hS=>?_)
       repeat (with_reducible first|refine cZ 2 isAgg25 ?_|refine bU ?_)
       refine aZ ?_
       go_wp2_with (fail)
       refine (c3 _ (bh _ (Below.mS (aA.gZ hS av ki)))).mono ?_;rintro e w' ⟨rfl,rfl⟩;simp only [];go_step;refine aX hS.sb ?_;refine aM ?_;refine aZ ?_
       go_wp2_with (fail)
       refine (gr _).mono ?_;rintro e w' ⟨rfl,hq⟩;simp only [];go_step;have hS:=hS.fW dY hq.below;refine aX hS.sb ?_;refine aM ?_;refine aZ ?_
       go_wp2_with (fail)
       refine (qg _).mono ?_;rintro e w' ⟨rfl,hq⟩;simp only [];go_step;have hS:=hS.fW dY hq.below;refine aX hS.sb ?_;refine aM ?_;refine aZ ?_
       ((with_reducible refine dV (T:=25) ?_);refine fZ (T:=25) (v:=.agg #[.int .i64 _,.int .i64 _]) hS underlying25 sizeOf29 zeroValue29 rfl rfl rfl (by decide) (by decide) rfl (fun bl fX hS=>?_);simp only [aD];simp only [Value.cells] at hS)
       refine aX hS.sb ?_;refine aM ?_;refine dC ?_
       ((with_reducible refine eG ?_);refine fw (t:=25) 4 hS underlying25 a27 rfl (by decide) rfl rfl rfl rfl (by simp [Value.oneCell']) (by omega) (by unfold maxLen;omega) (fun ap cp _ hS=>?_);simp only [aD];simp only [aK] at hS)
       refine dD ?_;refine aM ?_;refine dC ?_
       (with_reducible refine aJ 2 hS sizeOf25 fun _ hS=>?_)
       refine dD ?_;refine aM ?_;refine bE ?_;clear qg gr;have hS:=aA.sub hS (H':=[_,_,_,_,_]) (by repeat (first|exact List.Sublist.refl _));revert hS
       repeat (rename aA _ _ _=>hZ;clear hZ)
       intro hS;have hS:=hS.order [0,3,4,1,2] rfl;simp only [iw] at hS;replace hS:aA (nd w) _ [.aH F1 wS,.row (.slice ax xs.length cx) 95 4 xs.length (xs.flatMap sc),.row (.slice ap ([g]).length cp) 29 2 ([g]).length (([g]).flatMap gc),.row (.slice aO i cO) 64 2 i (bF.flatMap fI),.aB fo (.cells #[.slice ax xs.length cx,.slice ap ([g]).length cp] 64 (0,0))]:=hS
       go_wp2_with (first|(with_reducible refine bA 4 hS isAgg64 sizeOf64 ?_)|((with_reducible refine dV (T:=60) ?_);refine fZ (T:=60) (v:=.agg #[.slice _ _ _,.slice _ _ _]) hS underlying60 sizeOf64 zeroValue64 rfl rfl rfl (by decide) (by decide) rfl (fun bl fX hS=>?_);simp only [aD];simp only [Value.cells] at hS)|((with_reducible refine eG ?_);refine fw (t:=60) 3 hS underlying60 a3E rfl (by decide) rfl rfl rfl rfl (by simp [Value.oneCell']) (by omega) (by unfold maxLen;omega) (fun aN cN _ hS=>?_);simp only [aD];simp only [aK] at hS))
       obtain⟨F2,cK,ku,bP,yW⟩:=mapx_end hS av wQ ki;clear hS;have hS:=cK;clear cK;have fz:(bF++[(⟨(ax,xs.length,cx),(ap,([g]).length,cp)⟩:kr)]).flatMap fI=bF.flatMap fI++[.slice ax xs.length cx,.slice ap ([g]).length cp]:=by simp [fI]
       have kS:=bG.out.snoc (l:=(xs,[g])) ⟨lB.out,dL.out,by show xs.length≤20;omega,by simp⟩ (by have:=fQ.out;have:=fq.len;omega);replace fz:=Hd fz;replace ku:=Hd ku;replace kS:=Hd kS;go_roundw
       case rel=>exact⟨i+1,F2,_,_,_,aN,cN,by omega,by simp,rfl,by rw [fz.out];exact hS.sb,by simp [fQ.out],kS.out,ku.out,bP,yW⟩
       case measure=>simp [intOf];omega
      ·have aEc:(z2 == 1)=false:=by simpa using xG
       clear xG;have dL:∀ y ∈ ([]:List Gp),y.jd:=fun y hy=>by simp at hy
       replace dL:=Hd dL;revert hS
       repeat (rename aA _ _ _=>hZ;clear hZ)
       intro hS;have hS:=hS.order [0,3,4,1,2] rfl;simp only [iw] at hS;replace hS:aA (nd w) _ [.aH F1 wS,.row (.slice ax xs.length cx) 95 4 xs.length (xs.flatMap sc),.row (.slice none (([]:List Gp)).length 0) 29 2 (([]:List Gp)).length ((([]:List Gp)).flatMap gc),.row (.slice aO i cO) 64 2 i (bF.flatMap fI),.aB fo (.cells #[.slice ax xs.length cx,.slice none (([]:List Gp)).length 0] 64 (0,0))]:=hS
       go_wp2_with (first|(with_reducible refine bA 4 hS isAgg64 sizeOf64 ?_)|((with_reducible refine dV (T:=60) ?_);refine fZ (T:=60) (v:=.agg #[.slice _ _ _,.slice _ _ _]) hS underlying60 sizeOf64 zeroValue64 rfl rfl rfl (by decide) (by decide) rfl (fun bl fX hS=>?_);simp only [aD];simp only [Value.cells] at hS)|((with_reducible refine eG ?_);refine fw (t:=60) 3 hS underlying60 a3E rfl (by decide) rfl rfl rfl rfl (by simp [Value.oneCell']) (by omega) (by unfold maxLen;omega) (fun aN cN _ hS=>?_);simp only [aD];simp only [aK] at hS))
       obtain⟨F2,cK,ku,bP,yW⟩:=mapx_end hS av wQ ki;clear hS;have hS:=cK;clear cK;have fz:(bF++[(⟨(ax,xs.length,cx),(none,(([]:List Gp)).length,0)⟩:kr)]).flatMap fI=bF.flatMap fI++[.slice ax xs.length cx,.slice none (([]:List Gp)).length 0]:=by simp [fI]
       have kS:=bG.out.snoc (l:=(xs,([]:List Gp))) ⟨lB.out,dL.out,by show xs.length≤20;omega,by simp⟩ (by have:=fQ.out;have:=fq.len;omega);replace fz:=Hd fz;replace ku:=Hd ku;replace kS:=Hd kS;go_roundw
       case rel=>exact⟨i+1,F2,_,_,_,aN,cN,by omega,by simp,rfl,by rw [fz.out];exact hS.sb,by simp [fQ.out],kS.out,ku.out,bP,yW⟩
       case measure=>simp [intOf];omega
   ·have aQm:(z1 == 0)=false:=by simpa using a9S
    clear a9S;obtain⟨wS,hwS⟩:∃ wS,aA (nd w) wS [.aH F wq,.row (.slice aO i cO) 64 2 i (bF.flatMap fI),.row (.slice ad (os).length c1') 95 4 (os).length ((os).flatMap sc)]∧wS=_:=⟨_,hS,rfl⟩;obtain⟨fY,hwS⟩:=hwS;subst hwS;clear fY;have xC:=hS.dn 2 rfl;have wQ:=fq.move (hS.da fun k h=>h.1);have ki:=aA.gZ hS hO hB;have hS:=hS.order [0,2,1] rfl;simp only [iw] at hS;have hS:=aA.sub (aA.join (hS.freeze 1 rfl)) (List.Sublist.refl _);obtain⟨F1,p6⟩:∃ F1,F1=fun k=>F k∨(Chunk.row (.slice ad (os).length c1') 95 4 (os).length ((os).flatMap sc)).has k:=⟨_,rfl⟩
    rw [← p6] at hS;replace xC:=xC.weaken (T:=F1) fun k h=>by rw [p6];exact .inr h
    have av:∀ k,Old w k→F1 k:=fun k h=>by rw [p6];exact .inl (hO k h)
    replace wQ:=wQ.wk (T:=fun k=>F1 k∧w.heap.size≤k) fun k h=>⟨by rw [p6];exact .inl h.1,h.2⟩
    clear p6;replace cJ:=Hd cJ;revert hS
    repeat (rename aA _ _ _=>hZ;clear hZ)
    intro hS
    go_wp2_with (with_reducible first|refine bH hS zeroValue64 fun fo qM hS=>?_|refine aJ 2 hS sizeOf64 fun _ hS=>?_)
    have hS:=hS.iB 95 4;simp only [aK] at hS
    try try simp only [fA]
    revert hS
    repeat (rename aA _ _ _=>hZ;clear hZ)
    intro hS
    go_loopw [11] (fun v11 wr=>∃ (k:Nat) (xs:List Sz) (ax:Option Addr) (cx:Nat),k≤(os).length∧v11=.int .i64 (k:Int)∧aA (nd w) wr [.aH F1 wS,.row (.slice aO i cO) 64 2 i (bF.flatMap fI),.aB fo (.cells #[.slice ax xs.length cx,.slice none 0 0] 64 (0,0)),.row (.slice ax xs.length cx) 95 4 xs.length (xs.flatMap sc)]∧xs.length≤k∧∀ t ∈ xs,t.a.jd∧t.b.jd∧t.a≠t.b) (fun v11 _=>(os).length - (intOf v11).toNat)
    case atStart=>exact⟨0,[],none,0,by omega,rfl,hS,by simp,fun t ht=>by simp at ht⟩
    case round =>
     clear hS;obtain⟨k,xs,ax,cx,hk,rfl,hS,lG,lB⟩:=hrel;revert hS
     repeat (rename aA _ _ _=>hZ;clear hZ)
     intro hS;replace lB:=Hd lB
     by_cases cW:k<(os).length
     ·obtain⟨t,ht⟩:∃ t,nth s0 os k=t:=⟨_,rfl⟩
      have mR:=cJ.out t (by rw [← ht];exact cQ s0 os k cW);have dF:=eS tc s0 cW;rw [ht] at dF;replace dF:(((os).flatMap sc).drop (k*4)).take 4=[.int .i64 t.a.x,.int .i64 t.a.y,.int .i64 t.b.x,.int .i64 t.b.y]:=dF;have qa:=fun w'=>a2E t.a mR.1 w'
      have qb:=fun w'=>a2E t.b mR.2.1 w'
      have xT:=a2M mR.1;have xa:=a2M mR.2.1;obtain⟨p,hp⟩:∃ p,uZ t.a=p:=⟨_,rfl⟩;obtain⟨q,hq⟩:∃ p,uZ t.b=p:=⟨_,rfl⟩;rw [hp] at qa xT;rw [hq] at qb xa;replace xT:=Hd xT;replace xa:=Hd xa;clear ht mR hp hq
      go_wp2_with (with_reducible first|refine iH underlying23 sizeOf95 xC dF fun bq oq bO=>?_|refine j9 hS isAgg95 sizeOf95 ?_|refine bH hS zeroValue95 fun qH a1h hS=>?_|refine aJ 4 hS sizeOf95 fun _ hS=>?_)
      refine kQ 1 [.p 0,.r 1,.p 3,.r 4,.e 2,.e 5,.p 6] [.e 8] [] [eU 7 13 95 (.agg #[.int .i64 0,.int .i64 0,.int .i64 0,.int .i64 0])] (nd w) _ (by kernel_rfl) (by kernel_rfl) (o8 rfl zeroValue95) hS.drew ?_;obtain⟨aI,aT⟩:=hS.jw
      repeat (with_reducible first|refine py 4 isAgg29 sizeOf29 ?_|refine lF ?_)
      refine eI rfl (fun B wB hS=>?_);simp only [aK] at hS
      go_wp2_with (fail)
      refine (qa _).mono ?_;rintro e w' ⟨rfl,hq⟩;simp only [];go_step;replace hS:=hS.fW dY hq.below;refine eH (H:=_) hS aI aT ?_;refine dz ?_;refine eI rfl (fun B wB hS=>?_);simp only [aK] at hS
      go_wp2_with (fail)
      refine (qb _).mono ?_;rintro e w' ⟨rfl,hq⟩;simp only [];go_step;replace hS:=hS.fW dY hq.below;refine eH (H:=_) hS aI aT ?_;refine dz ?_;refine mq (fun xY wB hS=>?_);simp only [aK] at hS;simp only [aD];refine aZ ?_
      (with_reducible refine aJ 5 hS sizeOf95 fun _ hS=>?_)
      refine aX (aA.gA hS.sb aI aT) ?_;refine aM ?_;refine bE ?_;clear aI aT qa qb hq
      by_cases gH:p=q
      ·have HE:∀ w,(Op.equalIn 10000 29 (.agg #[.int .i64 p.x,.int .i64 p.y]) (.agg #[.int .i64 q.x,.int .i64 q.y])).run prog w=.ok true w:=fun w=>by rw [pv,decide_eq_true gH]
       replace gH:=Hd gH
       go_wp2_with (with_reducible refine eW 5 hS isAgg29 sizeOf29 ?_)
       go_roundw
       case rel=>exact⟨k+1,xs,ax,cx,by omega,by simp,hS.sb,by omega,lB.out⟩
       case measure=>simp [intOf];omega
      ·have HE:∀ w,(Op.equalIn 10000 29 (.agg #[.int .i64 p.x,.int .i64 p.y]) (.agg #[.int .i64 q.x,.int .i64 q.y])).run prog w=.ok false w:=fun w=>by rw [pv,decide_eq_false gH]
       have a1a:∀ t ∈ xs++[(⟨p,q⟩:Sz)],t.a.jd∧t.b.jd∧t.a≠t.b:=fun t ht=>by
        rw [List.mem_append,List.mem_singleton] at ht
        rcases ht with ht|rfl
        ·exact lB.out t ht
        ·exact⟨xT.out,xa.out,gH⟩
       have fz:(xs++[(⟨p,q⟩:Sz)]).flatMap sc=xs.flatMap sc++[.int .i64 p.x,.int .i64 p.y,.int .i64 q.x,.int .i64 q.y]:=by simp [sc]
       have dp:(xs++[(⟨p,q⟩:Sz)]).length=xs.length+1:=by simp
       replace gH:=Hd gH;replace a1a:=Hd a1a;replace fz:=Hd fz;replace dp:=Hd dp
       go_wp2_with (first|(with_reducible first|refine eW 5 hS isAgg29 sizeOf29 ?_|refine aU 2 hS isAgg23 ?_|refine bA 5 hS isAgg95 sizeOf95 ?_)|((with_reducible refine dV (T:=23) ?_);refine fZ (T:=23) (v:=.agg #[.int .i64 _,.int .i64 _,.int .i64 _,.int .i64 _]) hS underlying23 sizeOf95 zeroValue95 rfl rfl rfl (by decide) (by decide) rfl (fun bl fX hS=>?_);simp only [aD];simp only [Value.cells] at hS)|((with_reducible refine eG ?_);refine fw (t:=23) 3 hS underlying23 sM rfl (by decide) rfl rfl rfl rfl (by simp [Value.oneCell']) (by omega) (by unfold maxLen;omega) (fun ad9 cp9 _ hS=>?_);simp only [aD];simp only [aK] at hS)|(with_reducible refine aJ 2 hS sizeOf23 fun _ hS=>?_))
       go_roundw
       case rel=>exact⟨k+1,xs++[⟨p,q⟩],ad9,cp9,by omega,by simp,by rw [dp.out,fz.out];exact hS.sb,by rw [dp.out];omega,a1a.out⟩
       case measure=>simp [intOf];omega
     ·obtain rfl:k=(os).length:=by omega
      have hS:=hS.iB 29 2;simp only [aK] at hS
      go_wp2_with (fail)
      refine (c2 _ (bh _ (Below.mS (aA.gZ hS av ki)))).mono ?_;rintro e w' ⟨rfl,rfl⟩;simp only []
      by_cases xG:z2=1
      ·have aEc:(z2 == 1)=true:=by simp [xG]
       clear xG;obtain⟨g,hg⟩:∃ g,uZ (og z3)=g:=⟨_,rfl⟩;have qg:=fun w'=>a2E (og z3) (a95 z3) w'
       have g11:=a2M (a95 z3);rw [hg] at qg g11;have dL:∀ y ∈ [g],y.jd:=fun y hy=>by rw [List.mem_singleton.1 hy];exact g11
       replace dL:=Hd dL;have gr:=fun w'=>a4e z3 w' (by unfold bQ;omega)
       clear hg g11
       go_wp2_with (fail)
       refine gI [.p 0,.r 1,.p 2,.e 3,.e 4,.e 5,.e 6,.m 7,.p 8,.m 9] [7,9] (fun wZ=>aA (nd w) wZ _) (by kernel_rfl) (by kernel_rfl) hS.drew (fun w1 hS=>?_)
       repeat (with_reducible first|refine cZ 2 isAgg25 ?_|refine bU ?_)
       refine aZ ?_
       go_wp2_with (fail)
       refine (c3 _ (bh _ (Below.mS (aA.gZ hS av ki)))).mono ?_;rintro e w' ⟨rfl,rfl⟩;simp only [];go_step;refine aX hS.sb ?_;refine aM ?_;refine aZ ?_
       go_wp2_with (fail)
       refine (gr _).mono ?_;rintro e w' ⟨rfl,hq⟩;simp only [];go_step;have hS:=hS.fW dY hq.below;refine aX hS.sb ?_;refine aM ?_;refine aZ ?_
       go_wp2_with (fail)
       refine (qg _).mono ?_;rintro e w' ⟨rfl,hq⟩;simp only [];go_step;have hS:=hS.fW dY hq.below;refine aX hS.sb ?_;refine aM ?_;refine aZ ?_
       ((with_reducible refine dV (T:=25) ?_);refine fZ (T:=25) (v:=.agg #[.int .i64 _,.int .i64 _]) hS underlying25 sizeOf29 zeroValue29 rfl rfl rfl (by decide) (by decide) rfl (fun bl fX hS=>?_);simp only [aD];simp only [Value.cells] at hS)
       refine aX hS.sb ?_;refine aM ?_;refine dC ?_
       ((with_reducible refine eG ?_);refine fw (t:=25) 4 hS underlying25 a27 rfl (by decide) rfl rfl rfl rfl (by simp [Value.oneCell']) (by omega) (by unfold maxLen;omega) (fun ap cp _ hS=>?_);simp only [aD];simp only [aK] at hS)
       refine dD ?_;refine aM ?_;refine dC ?_
       (with_reducible refine aJ 2 hS sizeOf25 fun _ hS=>?_)
       refine dD ?_;refine aM ?_;refine bE ?_;clear qg gr;have hS:=aA.sub hS (H':=[_,_,_,_,_]) (by repeat (first|exact List.Sublist.refl _));revert hS
       repeat (rename aA _ _ _=>hZ;clear hZ)
       intro hS;have hS:=hS.order [0,3,4,1,2] rfl;simp only [iw] at hS;replace hS:aA (nd w) _ [.aH F1 wS,.row (.slice ax xs.length cx) 95 4 xs.length (xs.flatMap sc),.row (.slice ap ([g]).length cp) 29 2 ([g]).length (([g]).flatMap gc),.row (.slice aO i cO) 64 2 i (bF.flatMap fI),.aB fo (.cells #[.slice ax xs.length cx,.slice ap ([g]).length cp] 64 (0,0))]:=hS
       go_wp2_with (first|(with_reducible refine bA 4 hS isAgg64 sizeOf64 ?_)|((with_reducible refine dV (T:=60) ?_);refine fZ (T:=60) (v:=.agg #[.slice _ _ _,.slice _ _ _]) hS underlying60 sizeOf64 zeroValue64 rfl rfl rfl (by decide) (by decide) rfl (fun bl fX hS=>?_);simp only [aD];simp only [Value.cells] at hS)|((with_reducible refine eG ?_);refine fw (t:=60) 3 hS underlying60 a3E rfl (by decide) rfl rfl rfl rfl (by simp [Value.oneCell']) (by omega) (by unfold maxLen;omega) (fun aN cN _ hS=>?_);simp only [aD];simp only [aK] at hS))
       obtain⟨F2,cK,ku,bP,yW⟩:=mapx_end hS av wQ ki;clear hS;have hS:=cK;clear cK;have fz:(bF++[(⟨(ax,xs.length,cx),(ap,([g]).length,cp)⟩:kr)]).flatMap fI=bF.flatMap fI++[.slice ax xs.length cx,.slice ap ([g]).length cp]:=by simp [fI]
       have kS:=bG.out.snoc (l:=(xs,[g])) ⟨lB.out,dL.out,by show xs.length≤20;omega,by simp⟩ (by have:=fQ.out;have:=fq.len;omega);replace fz:=Hd fz;replace ku:=Hd ku;replace kS:=Hd kS;go_roundw
       case rel=>exact⟨i+1,F2,_,_,_,aN,cN,by omega,by simp,rfl,by rw [fz.out];exact hS.sb,by simp [fQ.out],kS.out,ku.out,bP,yW⟩
       case measure=>simp [intOf];omega
      ·have aEc:(z2 == 1)=false:=by simpa using xG
       clear xG;have dL:∀ y ∈ ([]:List Gp),y.jd:=fun y hy=>by simp at hy
       replace dL:=Hd dL;revert hS
       repeat (rename aA _ _ _=>hZ;clear hZ)
       intro hS;have hS:=hS.order [0,3,4,1,2] rfl;simp only [iw] at hS;replace hS:aA (nd w) _ [.aH F1 wS,.row (.slice ax xs.length cx) 95 4 xs.length (xs.flatMap sc),.row (.slice none (([]:List Gp)).length 0) 29 2 (([]:List Gp)).length ((([]:List Gp)).flatMap gc),.row (.slice aO i cO) 64 2 i (bF.flatMap fI),.aB fo (.cells #[.slice ax xs.length cx,.slice none (([]:List Gp)).length 0] 64 (0,0))]:=hS
       go_wp2_with (first|(with_reducible refine bA 4 hS isAgg64 sizeOf64 ?_)|((with_reducible refine dV (T:=60) ?_);refine fZ (T:=60) (v:=.agg #[.slice _ _ _,.slice _ _ _]) hS underlying60 sizeOf64 zeroValue64 rfl rfl rfl (by decide) (by decide) rfl (fun bl fX hS=>?_);simp only [aD];simp only [Value.cells] at hS)|((with_reducible refine eG ?_);refine fw (t:=60) 3 hS underlying60 a3E rfl (by decide) rfl rfl rfl rfl (by simp [Value.oneCell']) (by omega) (by unfold maxLen;omega) (fun aN cN _ hS=>?_);simp only [aD];simp only [aK] at hS))
       obtain⟨F2,cK,ku,bP,yW⟩:=mapx_end hS av wQ ki;clear hS;have hS:=cK;clear cK;have fz:(bF++[(⟨(ax,xs.length,cx),(none,(([]:List Gp)).length,0)⟩:kr)]).flatMap fI=bF.flatMap fI++[.slice ax xs.length cx,.slice none (([]:List Gp)).length 0]:=by simp [fI]
       have kS:=bG.out.snoc (l:=(xs,([]:List Gp))) ⟨lB.out,dL.out,by show xs.length≤20;omega,by simp⟩ (by have:=fQ.out;have:=fq.len;omega);replace fz:=Hd fz;replace ku:=Hd ku;replace kS:=Hd kS;go_roundw
       case rel=>exact⟨i+1,F2,_,_,_,aN,cN,by omega,by simp,rfl,by rw [fz.out];exact hS.sb,by simp [fQ.out],kS.out,ku.out,bP,yW⟩
       case measure=>simp [intOf];omega
  ·obtain rfl:i=Z:=by omega
   have p8:∀ k,(F k∧w.heap.size≤k)→ja w wr k:=fun k ⟨h1,h2⟩=>⟨h2,(hS.ok (.aH F wq) (by simp) k h1).1⟩
   have mH:=aA.gZ hS hO hB;subst fQ;have bh:=hS.dn 1 rfl;have zK:=(fq.move (hS.da fun k h=>h.1)).wk p8;go_wp2;go_ret;exact⟨bF,ls,aO,cO,rfl,bG,⟨mH.os,mH.tape,mH.output,mH.size,mH.block⟩,bh.weaken fun k hk=>hS.oJ hO (c:=.row (.slice aO bF.length cO) 64 2 bF.length (bF.flatMap fI)) (by simp) hk,zK⟩
end Go.Hp
