/- Texts for the walk of the law: M15 M16 JG JA JB JC JD JE JF. -/
import Derived.Test.YtgaejkbkfoaaiaaGreatR14
set_option maxRecDepth 100000
set_option maxHeartbeats 16000000
set_option linter.unusedVariables false
set_option linter.unusedSimpArgs false
namespace Go.Hp
open Go Go.RowKit Go.Proofs.Tryz
structure NS (w:World) (S:Nat→Prop) (os:List Sz) (gs:List Gp) (ao:Option Addr) (co:Nat) (ap:Option Addr) (cp:Nat) (avQ:Option Addr) (nvQ cv:Nat) (V:List P3):Prop where
 v:bN w S 4 (.slice ao os.length co) os.length (os.flatMap sc)
 g:bN w S 2 (.slice ap gs.length cp) gs.length (gs.flatMap gc)
 vs:bN w S 3 (.slice avQ nvQ cv) V.length (V.flatMap tcQ)
theorem NS.at {w0 w wr:World} {H:List Chunk} {F S:Nat→Prop} {os:List Sz} {gs:List Gp} {ao:Option Addr} {co:Nat} {ap:Option Addr} {cp:Nat} {avQ:Option Addr} {nvQ cv:Nat} {V:List P3} (h:NS wr S os gs ao co ap cp avQ nvQ cv V) (hS:aA w0 w (.aH F wr::H)) (hF:∀ k,S k→F k):NS w S os gs ao co ap cp avQ nvQ cv V:=⟨h.v.move (hS.da hF),h.g.move (hS.da hF),h.vs.move (hS.da hF)⟩
theorem NS.grow {w w':World} {S S':Nat→Prop} {os:List Sz} {gs:List Gp} {ao:Option Addr} {co:Nat} {ap:Option Addr} {cp:Nat} {avQ:Option Addr} {nvQ cv:Nat} {V:List P3} (h:NS w S os gs ao co ap cp avQ nvQ cv V) (hp:Pure w S w' S'):NS w' S' os gs ao co ap cp avQ nvQ cv V:=⟨h.v.grow hp,h.g.grow hp,h.vs.grow hp⟩
theorem NS.mono {w:World} {S T:Nat→Prop} {os:List Sz} {gs:List Gp} {ao:Option Addr} {co:Nat} {ap:Option Addr} {cp:Nat} {avQ:Option Addr} {nvQ cv:Nat} {V:List P3} (h:NS w S os gs ao co ap cp avQ nvQ cv V) (hs:∀ k,S k→T k):NS w T os gs ao co ap cp avQ nvQ cv V:=⟨h.v.weaken hs,h.g.weaken hs,h.vs.weaken hs⟩
theorem aA.rest_of {w0 w:World} {A B:List Chunk} (h:aA w0 w (A++B)) {c:Chunk} (hc:c ∈ A) {k:Nat} (hk:c.has k):Rest w B k :=
 ⟨Chunk.lt (h.ok c (List.mem_append_left _ hc)) hk,fun d hd xd=>(List.pairwise_append.1 h.apart).2.2 c hc d hd k hk xd⟩
theorem aA.mergeBG {w0 w wr:World} {F G:Nat→Prop} {bl:Nat} {o:Obj} {c1 c2 c3:Chunk} (hS:aA w0 w [.aH F wr,c1,c2,.aB bl o,.aH G w,c3]):∃ F1:Nat→Prop,aA w0 w [.aH F1 w,c1,c2,c3]∧(∀ k,F k→F1 k)∧F1 bl∧∀ k,G k→F1 k:=by
 have h1:=(hS.freeze 3 rfl).order [0,3,4,1,2,5] rfl;simp only [List.set_cons_succ,List.set_cons_zero,List.filterMap_cons,List.getElem?_cons_zero,List.getElem?_cons_succ,List.filterMap_nil] at h1;exact⟨_,h1.join.join,fun k h=>.inl (.inl h),.inl (.inr rfl),fun k h=>.inr h⟩
def VM (V:List P3) (Q:Pt→Prop):Prop:=TL V∧∀ p,p ∈ V.map P3.pt↔Q p
theorem VM.put {V V':List P3} {Q:Pt→Prop} {x:P3} (h:VM V Q) (h1:TL V') (h2:∀ y,y ∈ V'↔y ∈ V∨y=x):VM V' (fun p=>Q p∨p=x.pt):=by
 refine⟨h1,fun p=>?_⟩;show p ∈ V'.map P3.pt↔(Q p∨p=x.pt);rw [← h.2 p,List.mem_map,List.mem_map]
 constructor
 ·rintro⟨y,hy,rfl⟩
  rcases (h2 y).1 hy with h|rfl
  ·exact .inl ⟨y,h,rfl⟩
  ·exact .inr rfl
 ·rintro (⟨y,hy,rfl⟩|rfl)
  ·exact⟨y,(h2 y).2 (.inl hy),rfl⟩
  ·exact⟨x,(h2 x).2 (.inr rfl),rfl⟩
theorem VM.cast {V:List P3} {Q Q':Pt→Prop} (h:VM V Q) (e:∀ p,Q p↔Q' p):VM V Q':=⟨h.1,fun p=>(h.2 p).trans (e p)⟩
theorem gp_of (g:Gp):(⟨g.x,g.y,1⟩:P3).pt=g.pt:=P3.of_pt g.x g.y
theorem gp_ok {g:Gp} (h:g.sm):(⟨g.x,g.y,1⟩:P3).ok∧(⟨g.x,g.y,1⟩:P3).bd:=⟨P3.of_ok g.x g.y,P3.of_bd h.1 h.2⟩
theorem new08_any (os:List Sz) (gs:List Gp) (ao ap:Option Addr) (co cp:Nat) (w:World) (S:Nat→Prop) (hL:aP w S) (cJ:∀ t ∈ os,t.ok∧t.sm) (qm:∀ g ∈ gs,g.ok∧g.sm) (hv:bN w S 4 (.slice ao os.length co) os.length (os.flatMap sc)) (hg:bN w S 2 (.slice ap gs.length cp) gs.length (gs.flatMap gc)) (dg:os.length≤24) (hlg:gs.length≤4) :
 Calls prog 19 #[.slice ao os.length co,.slice ap gs.length cp] w fun e w'=>∃ (avQ ae:Option Addr) (nvQ cv ce:Nat) (V:List P3) (rs:List ER) (S':Nat→Prop),e=.returned (.tuple #[.agg #[.slice ao os.length co,.slice ap gs.length cp,.slice avQ nvQ cv,.slice ae rs.length ce],.int .i64 0])∧Pure w S w' S'∧nvQ=V.length∧bN w' S' 5 (.slice ae rs.length ce) rs.length (rs.flatMap ec)∧qG (os.map Sz.sg) (gs.map Gp.pt) (V.map P3.pt) (rs.map ER.k):=by
 have ckQ:=fun w' S h1 h2=>check08_any os gs ao ap os.length co gs.length cp w' S (fun t h=>(cJ t h).1) (fun g h=>(qm g h).1) h1 h2 (by omega) (by omega)
 obtain⟨hS,aC,bC,bD⟩:=eR hL
 go_enter func19,ntmps19
 go_wp2_with (with_reducible refine bH hS zeroValue32 fun b4 zS hS=>?_)
 refine (ckQ _ S (hv.move (hS.da aC)) (hg.move (hS.da aC))).mono ?_;rintro e w' ⟨rfl,hq⟩;have hS:=hS.below hq.below hq.drawn;simp only [];have hns:NS w S os gs ao co ap cp none 0 0 []:=⟨hv,hg,bN.nil _ _ _⟩;have oS:VM [] (fun p=>p ∈ (gs.take 0).map Gp.pt):=⟨TL.nil,fun p=>by simp⟩;replace oS:=Hd oS;clear ckQ hv hg
 go_wp2_with (with_reducible first|refine bH hS zeroValue32 fun b7 wb7 hS=>?_|refine aJ 2 hS sizeOf32 fun _ hS=>?_)
 go_loopw [8] (fun v wr=>∃ (k:Nat) (F S':Nat→Prop) (wq:World) (avQ:Option Addr) (nvQ cv:Nat) (V:List P3),k≤gs.length∧v=.int .i64 (k:Int)∧aA w wr [.aH F wq,.aB b4 (.cells #[.slice none 0 0,.slice none 0 0,.slice none 0 0,.slice none 0 0] 32 (0,0)),.aB b7 (.cells #[.slice ao os.length co,.slice ap gs.length cp,.slice avQ nvQ cv,.slice none 0 0] 32 (0,0))]∧(∀ k,S' k→F k)∧(∀ k,Old w k→F k)∧Pure w S wq S'∧aP wq S'∧NS wq S' os gs ao co ap cp avQ nvQ cv V∧Hid (VM V (fun p=>p ∈ (gs.take k).map Gp.pt))∧V.length≤k) (fun v _=>gs.length - (intOf v).toNat)
 case atStart=>exact⟨0,_,S,w,none,0,0,[],by omega,rfl,hS,aC,bC,bD,hL,hns,oS,by simp⟩
 case round =>
  clear hS aC bC bD hns oS;obtain⟨k,F0,S0,wq,avQ,nvQ,cv,V,hk,rfl,hS,aC,bC,bD,xN,hns,oS,gO⟩:=hrel
  by_cases cW:k<gs.length
  ·obtain⟨g,jK⟩:∃ g,nth g0 gs k=g:=⟨_,rfl⟩
   have hc:=eS yT g0 cW;rw [jK] at hc;obtain⟨jG,hgm⟩:=qm g (by rw [← jK];exact cQ g0 gs k cW);obtain⟨poQ,pb⟩:=gp_ok hgm;have hpt:=gp_of g
   have eK:∀ p,(p ∈ (gs.take k).map Gp.pt∨p=(⟨g.x,g.y,1⟩:P3).pt)↔p ∈ (gs.take (k+1)).map Gp.pt:=fun p=>by
    rw [nk g0 gs k cW,jK,hpt];simp
   have yu:=hns.g.weaken aC;replace eK:=Hd eK;replace jK:=Hd jK;replace hpt:=Hd hpt;replace poQ:=Hd poQ;replace pb:=Hd pb;clear jG hgm;go_wp2;refine dB [.p 0,.r 1,.p 2,.p 3,.p 4,.r 5,.e 6,.e 7,.p 8,.m 9] [9] hS fun w1 hS=>?_
   obtain⟨aI,aT⟩:=hS.jw
   repeat (with_reducible first|refine cZ 2 isAgg29 ?_|refine e9 underlying24 sizeOf43 yu hc fun bq oq bO=>?_|refine qE isAgg43 sizeOf43 ?_|refine bU ?_)
   refine aZ ?_
   go_wp2_with (fail)
   refine (of05_any g.x g.y _).mono ?_;rintro e w' ⟨rfl,hq⟩;simp only [];go_step;have hS:=hS.below hq.below hq.drawn;refine aX hS.sb ?_;refine aM ?_;refine aZ ?_
   go_wp2_with (fail)
   refine (put08_any avQ nvQ cv V ⟨g.x,g.y,1⟩ _ S0 (aP.at hS aC) (hns.at hS aC).vs oS.out.1 ⟨poQ.out,pb.out⟩ (by omega)).mono ?_;rintro e w' ⟨av2,nv2,cv2,V2,S1,rfl,hq,gW,ht2,gv,eJ⟩;simp only [];go_step;have sR:=hq.yj (aP.at hS aC);have hns2:NS w' S1 os gs ao co ap cp av2 nv2 cv2 V2:=⟨((hns.at hS aC).v.grow hq),((hns.at hS aC).g.grow hq),gW⟩;have zc:=(oS.out.put ht2 gv).cast eK.out;replace zc:=Hd zc;clear gW ht2 gv;have aT:=aA.fC hS hq.below aI aT;replace hS:=hS.aj aC bC bD hq;obtain⟨F1,aG,gp,bB,av,hS⟩:=hS;have aI:=dZ.trans aI gp;refine aX (aA.gA hS.sb aI aT) ?_;refine aM ?_;refine dC ?_
   (with_reducible refine aJ 2 hS sizeOf29 fun _ hS=>?_)
   refine dD ?_;refine bE ?_;go_wp2;go_roundw
   case rel=>exact⟨k+1,F1,S1,w',av2,nv2,cv2,V2,by omega,by simp,hS,aG,av,bB,sR,hns2,zc,by omega⟩
   case measure=>simp [intOf];omega
  ·obtain rfl:gs.length=k:=by omega
   have zc:VM V (vPQ os gs 0):=oS.out.cast (fun p=>by
    unfold vPQ;rw [List.take_length];refine⟨.inl,fun h=>?_⟩
    rcases h with h|⟨j,h,_⟩|⟨j,m,_,h,_⟩
    ·exact h
    ·omega
    ·omega)
   replace zc:=Hd zc;clear oS
   go_wp2_with (fail)
   go_loopw [9] (fun v9 wr=>∃ (i:Nat) (F S':Nat→Prop) (wq:World) (avQ:Option Addr) (nvQ cv:Nat) (V:List P3),i≤os.length∧v9=.int .i64 (i:Int)∧aA w wr [.aH F wq,.aB b4 (.cells #[.slice none 0 0,.slice none 0 0,.slice none 0 0,.slice none 0 0] 32 (0,0)),.aB b7 (.cells #[.slice ao os.length co,.slice ap gs.length cp,.slice avQ nvQ cv,.slice none 0 0] 32 (0,0))]∧(∀ k,S' k→F k)∧(∀ k,Old w k→F k)∧Pure w S wq S'∧aP wq S'∧NS wq S' os gs ao co ap cp avQ nvQ cv V∧Hid (VM V (vPQ os gs i))∧V.length≤gs.length+i*100) (fun v9 _=>os.length - (intOf v9).toNat)
   case atStart=>exact⟨0,F0,S0,wq,avQ,nvQ,cv,V,by omega,rfl,hS,aC,bC,bD,xN,hns,zc,by omega⟩
   case round =>
    clear hS aC bC bD xN hns zc gO;obtain⟨i,F0,S0,wq,avQ,nvQ,cv,V,hi,rfl,hS,aC,bC,bD,xN,hns,oS,gO⟩:=hrel
    by_cases dj:i<os.length
    ·obtain⟨t,ht⟩:∃ t,nth s0 os i=t:=⟨_,rfl⟩
     have hc:=eS tc s0 dj;rw [ht] at hc;obtain⟨pI,htm⟩:=cJ t (by rw [← ht];exact cQ s0 os i dj);have nG:sgAt os i=t.sg:=by unfold sgAt;rw [ht]
     obtain⟨pa,qa⟩:=gp_ok htm.1;obtain⟨pb,qb⟩:=gp_ok htm.2;have hpa:=gp_of t.a;have hpb:=gp_of t.b;have dS:=hns.v.weaken aC;replace ht:=Hd ht;replace hpa:=Hd hpa;replace hpb:=Hd hpb;replace pa:=Hd pa;replace pb:=Hd pb;replace qa:=Hd qa;replace qb:=Hd qb;replace htm:=Hd htm;replace nG:=Hd nG;clear pI;go_wp2;refine dB [.p 0,.r 1,.p 2,.p 3,.p 4,.p 5,.r 6,.p 9,.p 10,.p 11,.p 12,.r 13,.e 7,.e 8,.e 14,.e 15,.p 16,.m 17] [17] hS fun w1 hS=>?_
     obtain⟨aI,aT⟩:=hS.jw
     repeat (first|(with_reducible refine cZ 2 isAgg29 ?_)|((with_reducible refine e9 underlying23 sizeOf94 dS hc fun bq oq bO=>?_);have az:dM _ _ ⟨bq,oq,none⟩ [.int .i64 t.a.x,.int .i64 t.a.y]:=bO.part 0 2;have aR:dM _ _ ⟨bq,oq+2,none⟩ [.int .i64 t.b.x,.int .i64 t.b.y]:=bO.part 2 2)|(with_reducible first|refine qE isAgg43 sizeOf43 ?_|refine bU ?_))
     refine aZ ?_
     go_wp2_with (fail)
     refine (of05_any t.a.x t.a.y _).mono ?_;rintro e w' ⟨rfl,hq⟩;simp only [];go_step;have hS:=hS.below hq.below hq.drawn;refine aX hS.sb ?_;refine aM ?_;refine aZ ?_
     go_wp2_with (fail)
     refine (put08_any avQ nvQ cv V ⟨t.a.x,t.a.y,1⟩ _ S0 (aP.at hS aC) (hns.at hS aC).vs oS.out.1 ⟨pa.out,qa.out⟩ (by omega)).mono ?_;rintro e w' ⟨av2,nv2,cv2,V2,S1,rfl,hq,gW,ht2,gv,eJ⟩;simp only [];go_step;have sR:=hq.yj (aP.at hS aC);have hns2:NS w' S1 os gs ao co ap cp av2 nv2 cv2 V2:=⟨((hns.at hS aC).v.grow hq),((hns.at hS aC).g.grow hq),gW⟩;have zc:=oS.out.put ht2 gv;replace zc:=Hd zc;clear gW ht2 gv;have aT:=aA.fC hS hq.below aI aT;replace hS:=hS.aj aC bC bD hq;obtain⟨F1,aG,gp,bB,av,hS⟩:=hS;have aI:=dZ.trans aI gp;refine aX (aA.gA hS.sb aI aT) ?_;refine aM ?_;refine aZ ?_
     go_wp2_with (fail)
     refine (of05_any t.b.x t.b.y _).mono ?_;rintro e w' ⟨rfl,hq⟩;simp only [];go_step;have hS:=hS.below hq.below hq.drawn;refine aX (aA.gA hS.sb aI aT) ?_;refine aM ?_;refine aZ ?_
     go_wp2_with (fail)
     refine (put08_any av2 nv2 cv2 V2 ⟨t.b.x,t.b.y,1⟩ _ S1 (aP.at hS aG) (hns2.at hS aG).vs zc.out.1 ⟨pb.out,qb.out⟩ (by omega)).mono ?_;rintro e w' ⟨av3,nv3,cv3,V3,S2,rfl,hq,gW,ht2,gv,hl3⟩;simp only [];go_step;have hL2:=hq.yj (aP.at hS aG);have hns3:NS w' S2 os gs ao co ap cp av3 nv3 cv3 V3:=⟨((hns2.at hS aG).v.grow hq),((hns2.at hS aG).g.grow hq),gW⟩
     have hvm3:VM V3 (vQQ os gs i 0):=(zc.out.put ht2 gv).cast (fun p=>by
      unfold vQQ;rw [hpa.out,hpb.out,nG.out]
      constructor
      ·rintro ((h|h)|h)
       ·exact .inl h
       ·exact .inr (.inl (.inl h))
       ·exact .inr (.inl (.inr h))
      ·rintro (h|(h|h)|⟨m,hm,_⟩)
       ·exact .inl (.inl h)
       ·exact .inl (.inr h)
       ·exact .inr h
       ·omega)
     replace hvm3:=Hd hvm3;clear gW ht2 gv;have aT:=aA.fC hS hq.below aI aT;replace hS:=hS.aj aG av bB hq;obtain⟨F2,aQ,jV,bR,bP,hS⟩:=hS;have aI:=dZ.trans aI jV;refine aX (aA.gA hS.sb aI aT) ?_;refine aM ?_;refine dC ?_
     (with_reducible refine aJ 2 hS sizeOf29 fun _ hS=>?_)
     refine dD ?_;refine bE ?_;clear aI aT dS hc az aR bO;have hV3l:V3.length≤gs.length+i*100+2:=by omega
     clear eJ hl3 hns2 zc hns oS aC bC bD xN aG av bB sR
     go_wp2_with (fail)
     go_loopw [10] (fun v10 wr=>∃ (k:Nat) (F S':Nat→Prop) (wq:World) (avQ:Option Addr) (nvQ cv:Nat) (V:List P3),k≤i∧v10=.int .i64 (k:Int)∧aA w wr [.aH F wq,.aB b4 (.cells #[.slice none 0 0,.slice none 0 0,.slice none 0 0,.slice none 0 0] 32 (0,0)),.aB b7 (.cells #[.slice ao os.length co,.slice ap gs.length cp,.slice avQ nvQ cv,.slice none 0 0] 32 (0,0))]∧(∀ k,S' k→F k)∧(∀ k,Old w k→F k)∧Pure w S wq S'∧aP wq S'∧NS wq S' os gs ao co ap cp avQ nvQ cv V∧Hid (VM V (vQQ os gs i k))∧V.length≤gs.length+i*100+2+4*k) (fun v10 _=>i - (intOf v10).toNat)
     case atStart=>exact⟨0,F2,S2,w',av3,nv3,cv3,V3,by omega,rfl,hS,aQ,bP,bR,hL2,hns3,hvm3,by omega⟩
     case round =>
      clear hS aQ bP bR hL2 hns3 hvm3 hV3l;obtain⟨k,F0,S0,wq,avQ,nvQ,cv,V,hk,rfl,hS,aC,bC,bD,xN,hns,oS,gO⟩:=hrel
      by_cases zL:k<i
      ·obtain⟨u,hu⟩:∃ u,nth s0 os k=u:=⟨_,rfl⟩
       have kK:k<os.length:=by omega
       have hc:=eS tc s0 dj;have hd:=eS tc s0 kK;rw [ht.out] at hc;rw [hu] at hd;obtain⟨hto2,htm2⟩:=cJ u (by rw [← hu];exact cQ s0 os k kK);have hsg2:sgAt os k=u.sg:=by unfold sgAt;rw [hu]
       have dS:=hns.v.weaken aC;replace hu:=Hd hu;replace hsg2:=Hd hsg2;replace htm2:=Hd htm2;clear hto2;go_wp2;refine dB [.p 0,.p 1,.p 2,.r 3,.p 4,.p 5,.p 6,.r 7,.e 8,.p 9] [] hS fun w1 hS=>?_
       obtain⟨aI,aT⟩:=hS.jw
       repeat (with_reducible first|refine e9 underlying23 sizeOf94 dS hc fun bq oq bO=>?_|refine e9 underlying23 sizeOf94 dS hd fun bq oq bO=>?_|refine qE isAgg94 sizeOf94 ?_|refine bU ?_)
       refine aZ ?_
       go_wp2_with (fail)
       refine (cuts08_any t u _ S0 (aP.at hS aC) htm.out htm2.out).mono ?_;rintro e w' ⟨al,nl,cl,l,S1,rfl,hq,gW,ht2,gv,eJ⟩;simp only [];go_step;have sR:=hq.yj (aP.at hS aC);have hns2:NS w' S1 os gs ao co ap cp avQ nvQ cv V:=(hns.at hS aC).grow hq;obtain rfl:nl=l.length:=by obtain⟨h1,a,cap,h2,_⟩:=gW;cases h2;rfl
       replace ht2:=Hd ht2;replace gv:=Hd gv;have aT:=aA.fC hS hq.below aI aT;replace hS:=hS.aj aC bC bD hq;obtain⟨F1,aG,gp,bB,av,hS⟩:=hS;have aI:=dZ.trans aI gp;refine aX (aA.gA hS.sb aI aT) ?_;refine aM ?_;refine bE ?_;clear aI aT dS hc hd hns aC bC bD xN;have zc:VM V (fun p=>vQQ os gs i k p∨p ∈ (l.take 0).map P3.pt):=oS.out.cast (fun p=>by simp);replace zc:=Hd zc;clear oS
       go_wp2_with (fail)
       go_loopw [12] (fun v12 wr=>∃ (j:Nat) (F S':Nat→Prop) (wq:World) (avQ:Option Addr) (nvQ cv:Nat) (V:List P3),j≤l.length∧v12=.int .i64 (j:Int)∧aA w wr [.aH F wq,.aB b4 (.cells #[.slice none 0 0,.slice none 0 0,.slice none 0 0,.slice none 0 0] 32 (0,0)),.aB b7 (.cells #[.slice ao os.length co,.slice ap gs.length cp,.slice avQ nvQ cv,.slice none 0 0] 32 (0,0))]∧(∀ k,S' k→F k)∧(∀ k,Old w k→F k)∧Pure w S wq S'∧aP wq S'∧NS wq S' os gs ao co ap cp avQ nvQ cv V∧bN wq S' 3 (.slice al l.length cl) l.length (l.flatMap tcQ)∧Hid (VM V (fun p=>vQQ os gs i k p∨p ∈ (l.take j).map P3.pt))∧V.length≤gs.length+i*100+2+4*k+j) (fun v12 _=>l.length - (intOf v12).toNat)
       case atStart=>exact⟨0,F1,S1,w',avQ,nvQ,cv,V,by omega,rfl,hS,aG,av,bB,sR,hns2,gW,zc,by omega⟩
       case round =>
        clear hS aG av bB sR hns2 zc gW;obtain⟨j,F0,S0,wq,avQ,nvQ,cv,V,hj,rfl,hS,aC,bC,bD,xN,hns,rY,oS,gO⟩:=hrel
        by_cases gX:j<l.length
        ·obtain⟨x,hx⟩:∃ x,nth tp0 l j=x:=⟨_,rfl⟩
         have hc:=eS tc_len tp0 gX;rw [hx] at hc;have hxo:=ht2.out.ok x (by rw [← hx];exact cQ tp0 l j gX)
         have eK:∀ p,((vQQ os gs i k p∨p ∈ (l.take j).map P3.pt)∨p=x.pt)↔(vQQ os gs i k p∨p ∈ (l.take (j+1)).map P3.pt):=fun p=>by
          rw [nk tp0 l j gX,hx];simp [or_assoc]
         have yB:=rY.weaken aC;replace hc:((l.flatMap tcQ).drop (j*3)).take 3=[.int .i64 x.x,.int .i64 x.y,.int .i64 x.d]:=hc;replace eK:=Hd eK;replace hx:=Hd hx;replace hxo:=Hd hxo;go_wp2;refine dB [.p 0,.r 1,.p 2,.p 3,.p 4,.r 5,.e 6,.p 7,.m 8] [8] hS fun w1 hS=>?_
         obtain⟨aI,aT⟩:=hS.jw
         repeat (with_reducible first|refine cZ 2 isAgg29 ?_|refine e9 underlying29 sizeOf117 yB hc fun bq oq bO=>?_|refine qE isAgg117 sizeOf117 ?_|refine bU ?_)
         refine aZ ?_
         go_wp2_with (fail)
         refine (put08_any avQ nvQ cv V x _ S0 (aP.at hS aC) (hns.at hS aC).vs oS.out.1 hxo.out (by omega)).mono ?_;rintro e w' ⟨av2,nv2,cv2,V2,S1,rfl,hq,gW,ht3,hm3,hl3⟩;simp only [];go_step;have sR:=hq.yj (aP.at hS aC);have hns2:NS w' S1 os gs ao co ap cp av2 nv2 cv2 V2:=⟨((hns.at hS aC).v.grow hq),((hns.at hS aC).g.grow hq),gW⟩;have hlv2:bN w' S1 3 (.slice al l.length cl) l.length (l.flatMap tcQ):=(rY.move (hS.da aC)).grow hq;have zc:=(oS.out.put ht3 hm3).cast eK.out;replace zc:=Hd zc;clear gW ht3 hm3;have aT:=aA.fC hS hq.below aI aT;replace hS:=hS.aj aC bC bD hq;obtain⟨F1,aG,gp,bB,av,hS⟩:=hS;have aI:=dZ.trans aI gp;refine aX (aA.gA hS.sb aI aT) ?_;refine aM ?_;refine dC ?_
         (with_reducible refine aJ 2 hS sizeOf29 fun _ hS=>?_)
         refine dD ?_;refine bE ?_;go_wp2;go_roundw
         case rel=>exact⟨j+1,F1,S1,w',av2,nv2,cv2,V2,by omega,by simp,hS,aG,av,bB,sR,hns2,hlv2,zc,by omega⟩
         case measure=>simp [intOf];omega
        ·obtain rfl:l.length=j:=by omega
         have zc:VM V (vQQ os gs i (k+1)):=oS.out.cast (fun p=>by
          rw [List.take_length,gv.out];unfold vQQ;rw [nG.out]
          constructor
          ·rintro ((h|h|⟨m,h1,h2⟩)|h)
           ·exact .inl h
           ·exact .inr (.inl h)
           ·exact .inr (.inr ⟨m,by omega,h2⟩)
           ·exact .inr (.inr ⟨k,by omega,by rw [hsg2.out];exact h⟩)
          ·rintro (h|h|⟨m,h1,h2⟩)
           ·exact .inl (.inl h)
           ·exact .inl (.inr (.inl h))
           ·by_cases e:m=k
            ·subst e;rw [hsg2.out] at h2;exact .inr h2
            ·exact .inl (.inr (.inr ⟨m,by omega,h2⟩)))
         replace zc:=Hd zc;clear oS;go_wp2;go_roundw
         case rel=>exact⟨k+1,F0,S0,wq,avQ,nvQ,cv,V,by omega,by simp,hS,aC,bC,bD,xN,hns,zc,by omega⟩
         case measure=>simp [intOf];omega
      ·obtain rfl:i=k:=by omega
       have zc:VM V (vPQ os gs (i+1)):=oS.out.cast (fun p=>vQ_step);replace zc:=Hd zc;clear oS;go_wp2;go_roundw
       case rel=>exact⟨i+1,F0,S0,wq,avQ,nvQ,cv,V,by omega,by simp,hS,aC,bC,bD,xN,hns,zc,by omega⟩
       case measure=>simp [intOf];omega
    ·obtain rfl:os.length=i:=by omega
     obtain⟨VV,hVV⟩:∃ VV,V.map P3.pt=VV:=⟨_,rfl⟩;have hVVl:VV.length=V.length:=by rw [← hVV];simp
     have hSv:VV.Pairwise Pt.lt:=by rw [← hVV];exact oS.out.1.sorted
     have hMv:∀ p,p ∈ VV↔mB (os.map Sz.sg) (gs.map Gp.pt) p:=fun p=>by rw [← hVV,oS.out.2 p];exact vP_end
     have bG:=oS.out.1.ok;have hVb:V.length≤2404:=by omega
     have hnv:Hid (nvQ=V.length):=by obtain⟨h1,a,cap,h2,_⟩:=hns.vs;cases h2;rfl
     have hS:=hS.iB 70 5;simp only [aK] at hS;replace hVV:=Hd hVV;replace hVVl:=Hd hVVl;replace hSv:=Hd hSv;replace hMv:=Hd hMv;replace bG:=Hd bG;have hks:KS []:=List.Pairwise.nil
     have hke:∀ e,e ∈ ([]:List ER).map ER.k↔EP os VV 0 0 e:=fun e=>by
      unfold EP;refine⟨fun h=>(by cases h),fun h=>?_⟩
      rcases h with ⟨j,h,_⟩|⟨_,h⟩ <;> omega
     have hof:OfOk wq S0 [] 0:=fun r hr=>by cases hr
     replace hks:=Hd hks;replace hke:=Hd hke;clear oS gO dj
     go_wp2_with (fail)
     go_loopw [13] (fun qQ wr=>∃ (i:Nat) (F S':Nat→Prop) (wq:World) (ae:Option Addr) (ne ce:Nat) (rs:List ER),i≤os.length∧qQ=.int .i64 (i:Int)∧aA w wr [.aH F wq,.aB b4 (.cells #[.slice none 0 0,.slice none 0 0,.slice none 0 0,.slice none 0 0] 32 (0,0)),.aB b7 (.cells #[.slice ao os.length co,.slice ap gs.length cp,.slice avQ nvQ cv,.slice ae ne ce] 32 (0,0)),.row (.slice ae ne ce) 70 5 ne (rs.flatMap ec)]∧(∀ k,S' k→F k)∧(∀ k,Old w k→F k)∧Pure w S wq S'∧aP wq S'∧NS wq S' os gs ao co ap cp avQ nvQ cv V∧Hid (KS rs)∧Hid (∀ e,e ∈ rs.map ER.k↔EP os VV i 0 e)∧OfOk wq S' rs (i*2404)∧ne=rs.length∧rs.length≤i*2404) (fun qQ _=>os.length - (intOf qQ).toNat)
     case atStart=>exact⟨0,F0,S0,wq,none,0,0,[],by omega,rfl,hS,aC,bC,bD,xN,hns,hks,hke,hof,rfl,by simp⟩
     case round =>
      clear hS aC bC bD xN hns hks hke hof;obtain⟨i,F0,S0,wq,ae,ne,ce,rs,hi,rfl,hS,aC,bC,bD,xN,hns,hks,hke,hof,bJ,hrl⟩:=hrel
      by_cases dj:i<os.length
      ·subst bJ
       obtain⟨t,ht⟩:∃ t,nth s0 os i=t:=⟨_,rfl⟩;obtain⟨pI,htm⟩:=cJ t (by rw [← ht];exact cQ s0 os i dj);have nG:sgAt os i=t.sg:=by unfold sgAt;rw [ht]
       have hlast:=Last.start VV (sgAt os i);replace ht:=Hd ht;replace pI:=Hd pI;replace htm:=Hd htm;replace nG:=Hd nG;replace hlast:=Hd hlast
       go_wp2_with (fail)
       go_loopw [14,15] (fun v14 qO wr=>∃ (v:Nat) (F S':Nat→Prop) (wq:World) (ae:Option Addr) (ce:Nat) (rs:List ER) (l:Int),v≤V.length∧qO=.int .i64 (v:Int)∧v14=.int .i64 l∧aA w wr [.aH F wq,.aB b4 (.cells #[.slice none 0 0,.slice none 0 0,.slice none 0 0,.slice none 0 0] 32 (0,0)),.aB b7 (.cells #[.slice ao os.length co,.slice ap gs.length cp,.slice avQ nvQ cv,.slice ae rs.length ce] 32 (0,0)),.row (.slice ae rs.length ce) 70 5 rs.length (rs.flatMap ec)]∧(∀ k,S' k→F k)∧(∀ k,Old w k→F k)∧Pure w S wq S'∧aP wq S'∧NS wq S' os gs ao co ap cp avQ nvQ cv V∧Hid (KS rs)∧Hid (∀ e,e ∈ rs.map ER.k↔EP os VV i v e)∧OfOk wq S' rs (i*2404+v)∧rs.length≤i*2404+v∧Hid (Last VV (sgAt os i) v l)) (fun _ qO _=>V.length - (intOf qO).toNat)
       case atStart=>exact⟨0,F0,S0,wq,ae,ce,rs,-1,by omega,rfl,rfl,hS,aC,bC,bD,xN,hns,hks,hke,hof,hrl,hlast⟩
       case round =>
        clear hS aC bC bD xN hns hks hke hof hrl hlast;obtain⟨v,F0,S0,wq,ae,ce,rs,l,nC,rfl,rfl,hS,aC,bC,bD,xN,hns,hks,hke,hof,hrl,hlast⟩:=hrel;obtain rfl:nvQ=V.length:=hnv
        by_cases lP:v<V.length
        ·obtain⟨x,hx⟩:∃ x,nth tp0 V v=x:=⟨_,rfl⟩
         have hc:=eS tc s0 dj;rw [ht.out] at hc;have hd:=eS tc_len tp0 lP;rw [hx] at hd;replace hd:((V.flatMap tcQ).drop (v*3)).take 3=[.int .i64 x.x,.int .i64 x.y,.int .i64 x.d]:=hd;have hxo:=bG.out x (by rw [← hx];exact cQ tp0 V v lP);have hxp:nth au VV v=x.pt:=by rw [← hVV.out,nth_mapP lP,hx]
         have on:=fun w'=>on08_any t x w' htm.out hxo.2 hxo.1.1
         have dS:=hns.v.weaken aC;have hvs:=hns.vs.weaken aC;have hvV:v<VV.length:=by rw [hVVl.out];exact lP
         by_cases pr:cj t.sg x.pt
         ·have d1:decide (cj t.sg x.pt)=true:=by simpa using pr
          rw [d1] at on;have hon2:cj (sgAt os i) (nth au VV v):=by rw [nG.out,hxp];exact pr
          have eJ:=Last.take hon2;replace eJ:=Hd eJ;replace hon2:=Hd hon2;clear pr d1 hxp hx hxo
          rcases hlast.out with ⟨rfl,lD⟩|⟨u,kZ,rfl,nY,tY⟩
          ·have hke2:∀ e,e ∈ rs.map ER.k↔EP os VV i (v+1) e:=fun e=>(hke.out e).trans (EP.none hlast.out e).symm
           replace hke2:=Hd hke2;clear lD
           go_wp2_with (with_reducible refine aU 2 hS isAgg29 ?_)
           refine dB [.p 0,.p 1,.p 2,.r 3,.p 4,.r 5,.p 6,.p 7,.r 8,.e 9,.p 10] [] hS fun w1 hS=>?_
           repeat (with_reducible first|refine e9 underlying23 sizeOf94 dS hc fun bq oq bO=>?_|refine e9 underlying29 sizeOf117 hvs hd fun bq oq bO=>?_|refine qE isAgg94 sizeOf94 ?_|refine qE isAgg117 sizeOf117 ?_|refine cZ 2 isAgg29 ?_|refine bU ?_)
           refine aZ ?_
           go_wp2_with (fail)
           refine (on _).mono ?_;rintro e w' ⟨rfl,hq⟩;simp only [];go_step;have hS:=hS.below hq.below hq.drawn;refine aX hS.sb ?_;refine aM ?_;refine bE ?_;clear dS hvs hc hd bO on;go_wp2;go_roundw
           case rel=>exact⟨v+1,F0,S0,wq,ae,ce,rs,v,by omega,by simp,rfl,hS,aC,bC,bD,xN,hns,hks,hke2,hof.mono (fun _ h=>h) (by omega),by omega,eJ⟩
           case measure=>simp [intOf];omega
          ·have hke2:∀ e,EP os VV i (v+1) e↔e ∈ rs.map ER.k∨e=(u,v):=fun e=>(EP.put hvV hon2.out hlast.out e).trans (or_congr_left (hke.out e).symm)
           replace hke2:=Hd hke2;have drQ:=fun w'=>dir08_any t w' pI.out
           obtain⟨D,hD⟩:∃ D,fN t=D:=⟨_,rfl⟩;simp only [hD] at drQ;clear nY tY hD
           go_wp2_with (with_reducible refine aU 2 hS isAgg29 ?_)
           refine dB [.p 0,.p 1,.p 2,.r 3,.p 4,.r 5,.p 6,.p 7,.r 8,.e 9,.p 10] [] hS fun w1 hS=>?_
           repeat (with_reducible first|refine e9 underlying23 sizeOf94 dS hc fun bq oq bO=>?_|refine e9 underlying29 sizeOf117 hvs hd fun bq oq bO=>?_|refine qE isAgg94 sizeOf94 ?_|refine qE isAgg117 sizeOf117 ?_|refine cZ 2 isAgg29 ?_|refine bU ?_)
           refine aZ ?_
           go_wp2_with (fail)
           refine (on _).mono ?_;rintro e w' ⟨rfl,hq⟩;simp only [];go_step;have hS:=hS.below hq.below hq.drawn;refine aX hS.sb ?_;refine aM ?_;refine bE ?_;clear dS hvs hc hd bO on;go_wp2;have dS:=hns.v.weaken aC;have hc:=eS tc s0 dj;rw [ht.out] at hc;refine wp_region_tr (.fork [.p 0,.r 1,.p 2,.p 3,.p 4,.p 6,.p 7,.p 8,.r 9] 5 (.line [.e 10,.p 11,.m 12,.p 13,.m 14]) 10 (.line [.e 5,.p 11,.m 12,.p 13,.m 14])) [12,14] (fun w'=>aA w w' _) (by kernel_rfl) (by kernel_rfl) hS.drew (fun w1 hS=>?_);refine aJb ?_
           repeat (with_reducible first|refine e9 underlying23 sizeOf94 dS hc fun bq oq bO=>?_|refine qE isAgg94 sizeOf94 ?_|refine cZ 2 isAgg30 ?_|refine bU ?_)
           refine aLC ?_;simp only [di,a1n];refine⟨?_,?_⟩
           ·refine a7L rfl ?_
            ((with_reducible refine dV (T:=22) ?_);refine fZ (T:=22) (v:=.int .i64 _) hS underlying22 sizeOf3 zeroValue3 rfl rfl rfl (by decide) (by decide) rfl (fun bl fX hS=>?_);simp only [aD];simp only [Value.cells] at hS)
            refine aX hS.sb ?_;refine aEs ?_;refine aM ?_;refine aZ ?_
            go_wp2_with (fail)
            refine (drQ _).mono ?_;rintro e w' ⟨rfl,hq⟩;simp only [];go_step;have hS:=hS.below hq.below hq.drawn;refine aX hS.sb ?_;refine aM ?_;refine dC ?_;try simp only [aK] at hS
            have hS:=hS.order [0,1,2,4,3] rfl;simp only [iw] at hS;have dw:=aA.split (A:=[_,_,_,_]) (B:=[_]) hS;have k9:∀ k,(S0 k∨k=bl)→Go.Hp.Rest _ _ k:=fun k h=>h.elim (fun h=>aA.rest_of (A:=[_,_,_,_]) (B:=[_]) hS (c:=.aH F0 wq) (bW (i:=0) rfl) (aC k h)) (fun h=>aA.rest_of (A:=[_,_,_,_]) (B:=[_]) hS (c:=.aB bl _) (bW (i:=3) rfl) h)
            have hof2:OfOk _ (fun k=>S0 k∨k=bl) rs (i*2404+v):=(hof.move (hS.da aC)).mono (fun k h=>.inl h) (Nat.le_refl _);have oB:=bN.ve (n:=1) (k:=1) hS (bW (i:=3) rfl) rfl (by decide);have heo:∃ is:List Nat,jZ _ (fun k=>S0 k∨k=bl) (.slice (some ⟨bl,0,none⟩) 1 1) is∧is.length≤1:=⟨[i],⟨oB.weaken (fun k h=>.inr h),fun x hx=>by simp [zs] at hx;subst hx;unfold bQ;omega⟩,Nat.le_refl _⟩
            go_wp2_with (fail)
            refine (putE_any ae rs.length ce rs ⟨u,v,some ⟨bl,0,none⟩,1,1,D⟩ (i*2404+v) _ _ (fun k=>S0 k∨k=bl) k9 dw rfl hks.out hof2 heo (by omega) (by omega)).mono ?_;rintro e w' ⟨dU,ce2,rs2,G,rfl,cU,fm,hof1,qe,kN⟩;have hS:=aA.su (A:=[_,_,_,_]) (B:=[_]) hS cU;simp only [aK] at hS;have dL:=bD.step hS bC aC;have pE:∀ k,k=bl→ja w w' k:=fun k h=>hS.oJ bC (c:=.aB bl _) (bW (i:=2) rfl) h
            have hnG:∀ k,G k→ja w w' k:=fun k h=>hS.oJ bC (c:=.aH G w') (bW (i:=3) rfl) h
            have bB:Pure w S w' (fun k=>(S0 k∨k=bl)∨G k):=⟨dL.below,dL.drawn,fun k h=>.inl (.inl (dL.sub k h)),fun k h=>by
             rcases h with (h|h)|h
             ·exact dL.new k h
             ·exact .inr (pE k h)
             ·exact .inr (hnG k h)⟩
            have sR:aP w' (fun k=>(S0 k∨k=bl)∨G k):=fun k h=>by
             rcases h with (h|h)|h
             ·exact (aP.at hS aC) k h
             ·exact (pE k h).2
             ·exact (hnG k h).2
            have hns1:NS w' (fun k=>(S0 k∨k=bl)∨G k) os gs ao co ap cp avQ V.length cv V:=(hns.at hS aC).mono (fun k h=>.inl (.inl h));have hke3:∀ e,e ∈ rs2.map ER.k↔EP os VV i (v+1) e:=fun e=>(qe e).trans (hke2.out e).symm
            replace hke3:=Hd hke3;replace fm:=Hd fm;obtain⟨F1,hS9,hFF,hFb,hFG⟩:=aA.mergeBG hS;clear hS;have hS:=hS9;clear hS9 cU dw k9 hof2 oB heo qe dL pE hnG
            have aG:∀ k,((S0 k∨k=bl)∨G k)→F1 k:=fun k h=>by
             rcases h with (h|h)|h
             ·exact hFF k (aC k h)
             ·subst h;exact hFb
             ·exact hFG k h
            have av:∀ k,Old w k→F1 k:=fun k h=>hFF k (bC k h)
            clear hFF hFb hFG;simp only [];go_step;refine dD ?_;refine aM ?_;refine dC ?_
            (with_reducible refine aJ 2 hS sizeOf30 fun _ hS=>?_)
            refine dD ?_;refine bE ?_;go_wp2;go_roundw
            case rel=>exact⟨v+1,F1,(fun k=>(S0 k∨k=bl)∨G k),w',dU,ce2,rs2,v,by omega,by simp,rfl,hS,aG,av,bB,sR,hns1,fm,hke3,hof1.mono (fun _ h=>h) (by omega),by omega,eJ⟩
            case measure=>simp [intOf];omega
           ·refine a7L rfl ?_
            go_wp2_with (fail)
            refine (drQ _).mono ?_;rintro e w' ⟨rfl,hq⟩;simp only [];go_step;have hS:=hS.below hq.below hq.drawn;refine aX hS.sb ?_;refine aEs ?_;refine aM ?_;refine aZ ?_
            ((with_reducible refine dV (T:=22) ?_);refine fZ (T:=22) (v:=.int .i64 _) hS underlying22 sizeOf3 zeroValue3 rfl rfl rfl (by decide) (by decide) rfl (fun bl fX hS=>?_);simp only [aD];simp only [Value.cells] at hS)
            refine aX hS.sb ?_;refine aM ?_;refine dC ?_;try simp only [aK] at hS
            have hS:=hS.order [0,1,2,4,3] rfl;simp only [iw] at hS;have dw:=aA.split (A:=[_,_,_,_]) (B:=[_]) hS;have k9:∀ k,(S0 k∨k=bl)→Go.Hp.Rest _ _ k:=fun k h=>h.elim (fun h=>aA.rest_of (A:=[_,_,_,_]) (B:=[_]) hS (c:=.aH F0 wq) (bW (i:=0) rfl) (aC k h)) (fun h=>aA.rest_of (A:=[_,_,_,_]) (B:=[_]) hS (c:=.aB bl _) (bW (i:=3) rfl) h)
            have hof2:OfOk _ (fun k=>S0 k∨k=bl) rs (i*2404+v):=(hof.move (hS.da aC)).mono (fun k h=>.inl h) (Nat.le_refl _);have oB:=bN.ve (n:=1) (k:=1) hS (bW (i:=3) rfl) rfl (by decide);have heo:∃ is:List Nat,jZ _ (fun k=>S0 k∨k=bl) (.slice (some ⟨bl,0,none⟩) 1 1) is∧is.length≤1:=⟨[i],⟨oB.weaken (fun k h=>.inr h),fun x hx=>by simp [zs] at hx;subst hx;unfold bQ;omega⟩,Nat.le_refl _⟩
            go_wp2_with (fail)
            refine (putE_any ae rs.length ce rs ⟨u,v,some ⟨bl,0,none⟩,1,1,D⟩ (i*2404+v) _ _ (fun k=>S0 k∨k=bl) k9 dw rfl hks.out hof2 heo (by omega) (by omega)).mono ?_;rintro e w' ⟨dU,ce2,rs2,G,rfl,cU,fm,hof1,qe,kN⟩;have hS:=aA.su (A:=[_,_,_,_]) (B:=[_]) hS cU;simp only [aK] at hS;have dL:=bD.step hS bC aC;have pE:∀ k,k=bl→ja w w' k:=fun k h=>hS.oJ bC (c:=.aB bl _) (bW (i:=2) rfl) h
            have hnG:∀ k,G k→ja w w' k:=fun k h=>hS.oJ bC (c:=.aH G w') (bW (i:=3) rfl) h
            have bB:Pure w S w' (fun k=>(S0 k∨k=bl)∨G k):=⟨dL.below,dL.drawn,fun k h=>.inl (.inl (dL.sub k h)),fun k h=>by
             rcases h with (h|h)|h
             ·exact dL.new k h
             ·exact .inr (pE k h)
             ·exact .inr (hnG k h)⟩
            have sR:aP w' (fun k=>(S0 k∨k=bl)∨G k):=fun k h=>by
             rcases h with (h|h)|h
             ·exact (aP.at hS aC) k h
             ·exact (pE k h).2
             ·exact (hnG k h).2
            have hns1:NS w' (fun k=>(S0 k∨k=bl)∨G k) os gs ao co ap cp avQ V.length cv V:=(hns.at hS aC).mono (fun k h=>.inl (.inl h));have hke3:∀ e,e ∈ rs2.map ER.k↔EP os VV i (v+1) e:=fun e=>(qe e).trans (hke2.out e).symm
            replace hke3:=Hd hke3;replace fm:=Hd fm;obtain⟨F1,hS9,hFF,hFb,hFG⟩:=aA.mergeBG hS;clear hS;have hS:=hS9;clear hS9 cU dw k9 hof2 oB heo qe dL pE hnG
            have aG:∀ k,((S0 k∨k=bl)∨G k)→F1 k:=fun k h=>by
             rcases h with (h|h)|h
             ·exact hFF k (aC k h)
             ·subst h;exact hFb
             ·exact hFG k h
            have av:∀ k,Old w k→F1 k:=fun k h=>hFF k (bC k h)
            clear hFF hFb hFG;simp only [];go_step;refine dD ?_;refine aM ?_;refine dC ?_
            (with_reducible refine aJ 2 hS sizeOf30 fun _ hS=>?_)
            refine dD ?_;refine bE ?_;go_wp2;go_roundw
            case rel=>exact⟨v+1,F1,(fun k=>(S0 k∨k=bl)∨G k),w',dU,ce2,rs2,v,by omega,by simp,rfl,hS,aG,av,bB,sR,hns1,fm,hke3,hof1.mono (fun _ h=>h) (by omega),by omega,eJ⟩
            case measure=>simp [intOf];omega
         ·have d1:decide (cj t.sg x.pt)=false:=by simpa using pr
          rw [d1] at on;have hon2:¬ cj (sgAt os i) (nth au VV v):=by rw [nG.out,hxp];exact pr
          have eJ:=Last.skip hlast.out hon2;have hke2:∀ e,e ∈ rs.map ER.k↔EP os VV i (v+1) e:=fun e=>(hke.out e).trans (EP.skip hon2 e).symm
          replace eJ:=Hd eJ;replace hke2:=Hd hke2;clear pr d1 hxp hx hon2 hxo
          go_wp2_with (with_reducible refine aU 2 hS isAgg29 ?_)
          refine dB [.p 0,.p 1,.p 2,.r 3,.p 4,.r 5,.p 6,.p 7,.r 8,.e 9,.p 10] [] hS fun w1 hS=>?_
          repeat (with_reducible first|refine e9 underlying23 sizeOf94 dS hc fun bq oq bO=>?_|refine e9 underlying29 sizeOf117 hvs hd fun bq oq bO=>?_|refine qE isAgg94 sizeOf94 ?_|refine qE isAgg117 sizeOf117 ?_|refine cZ 2 isAgg29 ?_|refine bU ?_)
          refine aZ ?_
          go_wp2_with (fail)
          refine (on _).mono ?_;rintro e w' ⟨rfl,hq⟩;simp only [];go_step;have hS:=hS.below hq.below hq.drawn;refine aX hS.sb ?_;refine aM ?_;refine bE ?_;clear dS hvs hc hd bO on;go_wp2;go_roundw
          case rel=>exact⟨v+1,F0,S0,wq,ae,ce,rs,l,by omega,by simp,rfl,hS,aC,bC,bD,xN,hns,hks,hke2,hof.mono (fun _ h=>h) (by omega),by omega,eJ⟩
          case measure=>simp [intOf];omega
        ·obtain rfl:V.length=v:=by omega
         have hke2:∀ e,e ∈ rs.map ER.k↔EP os VV (i+1) 0 e:=fun e=>by
          rw [← EP.next,hVVl.out];exact hke.out e
         replace hke2:=Hd hke2;clear hke
         go_wp2_with (with_reducible refine aU 2 hS isAgg29 ?_)
         go_roundw
         case rel=>exact⟨i+1,F0,S0,wq,ae,rs.length,ce,rs,by omega,by simp,hS,aC,bC,bD,xN,hns,hks,hke2,hof.mono (fun _ h=>h) (by omega),rfl,by omega⟩
         case measure=>simp [intOf];omega
      ·obtain rfl:os.length=i:=by omega
       subst bJ
       have kI:qG (os.map Sz.sg) (gs.map Gp.pt) (V.map P3.pt) (rs.map ER.k):=by
        rw [hVV.out];exact⟨hSv.out,hMv.out,hks.out,fun u v=>(hke.out (u,v)).trans EP.end_iff⟩
       replace kI:=Hd kI
       go_wp2_with (with_reducible first|refine bA 2 hS isAgg32 sizeOf32 ?_|refine aJ 1 hS sizeOf32 fun _ hS=>?_)
       have oE:=hS.dn 3 rfl;exact jJ 1 hS rfl rfl rfl isAgg32 sizeOf32 rfl rfl ⟨avQ,ae,nvQ,cv,ce,V,rs,_,rfl,hS.a5W bC aC bD (bW (i:=2) rfl),hnv,oE.weaken (fun k h=>.inr h),kI.out⟩
theorem made_any (al am ap:Option Addr) (nl cl nm cm np cp:Nat) (xl xm xpQ:List Int) (w:World) (hl:Ints w (Old w) (.slice al nl cl) xl) (hm:Ints w (Old w) (.slice am nm cm) xm) (hp:Ints w (Old w) (.slice ap np cp) xpQ) :
 Calls prog 5 #[.slice al nl cl,.slice am nm cm,.slice ap np cp] w fun e w'=>∃ (os:List Sz) (gs:List Gp) (V:List Pt) (es:List Ed) (sg pt v ee b1 b2 b3 b4:Option Addr × Nat × Nat) (S:Nat→Prop),e=.returned (.tuple #[.agg #[sv sg,sv pt,sv v,sv ee],.agg #[sv b1,sv b2,sv b3,sv b4],.bool true])∧Gen os gs∧Pure w (Old w) w' S∧aP w' S∧aF0 w' S sg pt v ee os gs V es∧eu os gs V es:=by
 have hS:=aA.start w
 go_enter func5,ntmps5
 go_wp2_with (with_reducible first|refine bH hS zeroValue28 fun b6 xz hS=>?_|refine bH hS zeroValue32 fun b7 wb7 hS=>?_)
 refine (aS1 al nl cl xl _ (hl.arg hS (by simp))).mono ?_;rintro e w' ⟨o1,lV,cp1,rfl,sE,kN,cU⟩;have hS:=hS.import cU;simp only [aK] at hS;clear cU;simp only []
 go_wp2_with (fail)
 refine (aR3 am nm cm 4 xm _ (hm.arg hS (by simp)) (by decide)).mono ?_;rintro e w' ⟨o2,dU,gL,rfl,wM,eJ,cU⟩;have hS:=hS.import cU;simp only [aK] at hS;clear cU;simp only [];have oE:=hS.dn 4 rfl;have hS:=hS.freeze 4 rfl;simp only [aK] at hS
 go_wp2_with (first|((with_reducible refine eG ?_);refine uA (t:=23) 3 hS underlying23 sM rfl (by decide) rfl rfl rfl oE (by simp) (a2X _) (by omega) (by unfold maxLen;omega) (fun uS cp3 _ hS=>?_);simp only [aD];simp only [aK] at hS))
 refine (points08_any ap np cp 4 xpQ _ (hp.arg hS (by simp)) (by decide)).mono ?_;rintro e wc ⟨ad4,cp4,rfl,cU⟩;have hS:=hS.import cU;simp only [aK] at hS;have zV:=gen_of (xs:=xpQ) sE wM kN eJ;obtain⟨gs,qm⟩:∃ gs,(xpQ.take 4).map og=gs:=⟨_,rfl⟩;obtain⟨os,cJ⟩:∃ os,o1++o2=os:=⟨_,rfl⟩;have hlen:o1.length+o2.length=os.length:=by rw [← cJ,List.length_append]
 rw [qm] at hS zV;rw [cJ] at zV;rw [hlen,← List.flatMap_append,cJ] at hS;simp only [hlen,qm];clear cU qm cJ hlen sE wM kN eJ oE;have hS:=hS.order [0,3,5,1,2,4] rfl;simp only [iw] at hS;have hv:=hS.dn 1 rfl;have hg:=hS.dn 2 rfl;have dL:=hS.pure (Old w);have eX:∀ k,(Chunk.row (.slice uS os.length cp3) 94 4 os.length (os.flatMap sc)).has k→ja w wc k:=fun k h=>hS.oJ (fun _ h=>h) (bW (i:=0) rfl) h
 have fx:∀ k,(Chunk.row (.slice ad4 gs.length cp4) 43 2 gs.length (gs.flatMap gc)).has k→ja w wc k:=fun k h=>hS.oJ (fun _ h=>h) (bW (i:=1) rfl) h
 have hS:=aA.a13 hS;have hS:=aA.sub hS (List.sublist_append_left [_,_,_] [_]);obtain⟨F1,p6⟩:∃ F1,F1=fun k=>(Old w k∨(Chunk.row (.slice uS os.length cp3) 94 4 os.length (os.flatMap sc)).has k)∨(Chunk.row (.slice ad4 gs.length cp4) 43 2 gs.length (gs.flatMap gc)).has k:=⟨_,rfl⟩
 rw [← p6] at hS;have av:∀ k,Old w k→F1 k:=fun k h=>by rw [p6];exact .inl (.inl h)
 have kU:bN wc F1 4 (.slice uS os.length cp3) os.length (os.flatMap sc):=hv.weaken (fun k h=>by rw [p6];exact .inl (.inr h));have hg1:bN wc F1 2 (.slice ad4 gs.length cp4) gs.length (gs.flatMap gc):=hg.weaken (fun k h=>by rw [p6];exact .inr h)
 have bB:Pure w (Old w) wc F1:=⟨dL.below,dL.drawn,av,fun k h=>by
  rw [p6] at h
  rcases h with (h|h)|h
  ·exact .inl h
  ·exact .inr (eX k h)
  ·exact .inr (fx k h)⟩
 have sR:aP wc F1:=fun k h=>(hS.ok (.aH F1 wc) (by simp) k h).1
 have aG:∀ k,F1 k→F1 k:=fun k h=>h
 clear p6 eX fx dL hv hg
 have hB:gs.length+os.length*(2+2*os.length+gs.length)≤4096:=by
  have h1:os.length*(2+2*os.length+gs.length)≤24*54:=Nat.mul_le_mul zV.lo (by have:=zV.lo;have:=zV.lg;omega);have:=zV.lg;omega
 have dg:=zV.lo;have hlg:=zV.lg
 go_wp2_with (fail)
 refine (new_any os gs uS ad4 os.length cp3 gs.length cp4 _ F1 sR (fun t h=>(zV.cJ t h).1) (fun g h=>(zV.qm g h).1) kU hg1 (by omega) (by omega) hB).mono ?_;rintro e w' ⟨⟨a1,n1,c1⟩,⟨a2,n2,c2⟩,⟨a3,n3,c3⟩,⟨a4,n4,c4⟩,S2,V,es,rfl,hq,hA,hP⟩;have gW:=kU.grow hq;have qK:=hg1.grow hq;have hL2:=hq.yj sR;replace zV:=Hd zV;replace hP:=Hd hP;clear hB;replace hS:=hS.aj aG av bB hq;obtain⟨F2,aQ,-,bR,bP,hS⟩:=hS;simp only [sv]
 go_wp2_with (with_reducible first|refine bH hS zeroValue28 fun b11 a3b hS=>?_|refine aJ 3 hS sizeOf28 fun _ hS=>?_)
 refine (new08_any os gs uS ad4 cp3 cp4 _ S2 (aP.at hS aQ) zV.out.cJ zV.out.qm (gW.move (hS.da aQ)) (qK.move (hS.da aQ)) dg hlg).mono ?_;rintro e wd ⟨avQ,ae,nvQ,cv,ce,V2,rs2,S3,rfl,aR,hnv,hE2,vT⟩;obtain⟨hVV,hEE⟩:=hP.out.arr.unique vT;obtain⟨hE1s,hEsl,hE1e⟩:=hA.es;obtain⟨prs,hPL⟩:=hA.vs;have j6:n4=es.length:=by obtain⟨h1,a,cap,h2,_⟩:=hEsl;cases h2;rfl
 have my:n3=V.length:=by obtain⟨h1,a,cap,h2,_⟩:=hPL.sl;cases h2;rfl
 have hnv2:nvQ=V.length:=by rw [hnv,hVV];simp
 have hrl:rs2.length=es.length:=by have:=congrArg List.length hEE;simpa using this.symm
 subst j6;subst my;subst hnv2;rw [hrl] at hE2;replace hnv:=Hd hnv
 have bV:∀ i,i<es.length→(nth jk hE1s i).a=(nth jk rs2 i).a∧(nth jk hE1s i).b=(nth jk rs2 i).b:=fun i hi=>by
  have h1:=hE1e.el i hi;have h2:(es.map fun e=>(e.a,e.b))[i]? = (rs2.map ER.k)[i]?:=by rw [hEE]
  rw [List.getElem?_map,List.getElem?_map,List.getElem?_eq_getElem hi,List.getElem?_eq_getElem (show i<rs2.length by omega)] at h2;simp only [Option.map_some,Option.some.injEq,Prod.mk.injEq,ER.k] at h2;rw [h1.a,h1.b,bS _ _ _ hi,bS _ _ _ (show i<rs2.length by omega)];exact h2
 have hr1l:hE1s.length=es.length:=hE1e.len;replace bV:=Hd bV;replace hVV:=Hd hVV;replace hEE:=Hd hEE;replace vT:=Hd vT;have hAg:=(aF0.at hA hS aQ).grow aR;have hEslg:=(hEsl.move (hS.da aQ)).grow aR;have hL3:=aR.yj (aP.at hS aQ);replace hS:=hS.aj aQ bP bR aR;obtain⟨F3,bM,-,dP,dE,hS⟩:=hS;simp only [hrl]
 go_wp2_with (with_reducible first|refine bH hS zeroValue32 fun xY a62 hS=>?_|refine aJ 4 hS sizeOf32 fun _ hS=>?_|refine aU 3 hS isAgg25 ?_|refine aU 4 hS isAgg29 ?_|refine aU 3 hS isAgg26 ?_|refine aU 4 hS isAgg30 ?_)
 try try simp only [fA]
 have zC:=hEslg.weaken bM;have hs2:=hE2.weaken bM
 go_loopw [15] (fun v wr=>∃ k:Nat,k≤es.length∧v=.int .i64 (k:Int)∧aA w wr [.aH F3 wd,.aB b6 (.cells #[.slice none 0 0,.slice none 0 0,.slice none 0 0,.slice none 0 0] 28 (0,0)),.aB b7 (.cells #[.slice none 0 0,.slice none 0 0,.slice none 0 0,.slice none 0 0] 32 (0,0)),.aB b11 (.cells #[.slice a1 n1 c1,.slice a2 n2 c2,.slice a3 V.length c3,.slice a4 es.length c4] 28 (0,0)),.aB xY (.cells #[.slice uS os.length cp3,.slice ad4 gs.length cp4,.slice avQ V.length cv,.slice ae es.length ce] 32 (0,0))]) (fun v _=>es.length - (intOf v).toNat)
 case atStart=>exact⟨0,by omega,rfl,hS⟩
 case round =>
  clear hS;obtain⟨k,hk,rfl,hS⟩:=hrel;have hle:=zC.le
  by_cases cW:k<es.length
  ·have ef:=eS sU jk (show k<hE1s.length by omega)
   have iu:=eS sU jk (show k<rs2.length by omega);obtain⟨r,hr⟩:∃ r,nth jk hE1s k=r:=⟨_,rfl⟩;obtain⟨q,hq⟩:∃ q,nth jk rs2 k=q:=⟨_,rfl⟩;obtain⟨h1,h2⟩:=bV.out k cW;rw [hr] at ef h1 h2;rw [hq] at iu h1 h2;replace ef:((hE1s.flatMap ec).drop (k*5)).take 5=[.int .i64 (r.a:Int),.int .i64 (r.b:Int),.slice r.ad r.n r.c,.int .i64 r.dir.x,.int .i64 r.dir.y]:=ef;replace iu:((rs2.flatMap ec).drop (k*5)).take 5=[.int .i64 (r.a:Int),.int .i64 (r.b:Int),.slice q.ad q.n q.c,.int .i64 q.dir.x,.int .i64 q.dir.y]:=by rw [h1,h2];exact iu
   clear hr hq h1 h2
   go_wp2_with (with_reducible refine aU 3 hS isAgg26 ?_)
   refine dB [.p 0,.r 1,.p 2,.p 3,.p 4,.r 5,.p 6,.r 7,.p 8,.p 9,.p 10,.r 11,.p 12,.p 13,.p 14,.r 15,.p 16,.p 17,.p 18,.r 19,.p 20,.r 21,.p 22,.p 23,.p 24,.r 25,.p 26,.p 27] [] hS fun w1 hS=>?_
   repeat (with_reducible first|refine cZ 3 isAgg26 ?_|refine cZ 4 isAgg30 ?_|refine e9 underlying26 sizeOf45 zC ef fun bq oq bO=>?_|refine e9 underlying30 sizeOf70 hs2 iu fun bq oq bO=>?_|refine eY isAgg3 ?_|refine pU 1 isAgg3 ?_|refine bU ?_)
   refine bE ?_;go_wp2;go_roundw
   case rel=>exact⟨k+1,by omega,by simp,hS⟩
   case measure=>simp [intOf];omega
  ·obtain rfl:es.length=k:=by omega
   go_wp2_with (with_reducible refine aU 3 hS isAgg26 ?_)
   refine qR [.r 0,.r 1,.e 2,.e 3,.p 4] [] (fun w'=>aA w w' [.aH F3 wd,.aB b11 (.cells #[.slice a1 n1 c1,.slice a2 n2 c2,.slice a3 V.length c3,.slice a4 es.length c4] 28 (0,0)),.aB xY (.cells #[.slice uS os.length cp3,.slice ad4 gs.length cp4,.slice avQ V.length cv,.slice ae es.length ce] 32 (0,0))]) (fun w'=>aA w w' _) (by kernel_rfl) (by kernel_rfl) hS.drew (fun _ hZ=>aA.sub hZ (by repeat (first|exact List.Sublist.refl _|apply List.Sublist.cons_cons|apply List.Sublist.cons))) (fun w1 hS=>?_)
   repeat (with_reducible first|refine cz 1 isAgg28 sizeOf28 ?_|refine cz 2 isAgg32 sizeOf32 ?_)
   refine aZ ?_
   (with_reducible refine aJ 1 hS sizeOf28 fun _ hS=>?_)
   refine aX hS.sb ?_;refine aM ?_;refine aZ ?_
   (with_reducible refine aJ 2 hS sizeOf32 fun _ hS=>?_)
   refine aX hS.sb ?_;refine aM ?_;refine bE ?_;go_wp2;have hpf:=dP.step hS dE bM;have rp:=aP.at hS bM;have hAf:=aF0.at hAg hS bM;exact aD4 1 2 hS rfl rfl rfl rfl rfl isAgg28 sizeOf28 rfl isAgg32 sizeOf32 rfl rfl ⟨os,gs,V,es,(a1,n1,c1),(a2,n2,c2),(a3,V.length,c3),(a4,es.length,c4),(uS,os.length,cp3),(ad4,gs.length,cp4),(avQ,V.length,cv),(ae,es.length,ce),S3,rfl,zV.out,hpf,rp,hAf,hP.out⟩
def cvx (t:Rat) (p r:Pt):Pt:=⟨p.x+t*(r.x - p.x),p.y+t*(r.y - p.y)⟩
theorem cvx_le {t u v w:Rat} (t0:0≤t) (t1:t≤1) (h3:u≤v) (h4:u≤w):u≤v+t*(w - v):=by
 have e1:v+t*(w - v) - u=(1 - t)*(v - u)+t*(w - u):=by grind
 have e2:0≤(1 - t)*(v - u):=Rat.mul_nonneg (by grind) (by grind);have e3:0≤t*(w - u):=Rat.mul_nonneg t0 (by grind)
 grind
theorem cvx_ge {t u v w:Rat} (t0:0≤t) (t1:t≤1) (h3:v≤u) (h4:w≤u):v+t*(w - v)≤u:=by
 have e1:u - (v+t*(w - v))=(1 - t)*(u - v)+t*(u - w):=by grind
 have e2:0≤(1 - t)*(u - v):=Rat.mul_nonneg (by grind) (by grind);have e3:0≤t*(u - w):=Rat.mul_nonneg t0 (by grind)
 grind
theorem cvx_on {s:Sg} {p r:Pt} {t:Rat} (t0:0≤t) (t1:t≤1) (hp:cj s p) (hr:cj s r):cj s (cvx t p r):=by
 obtain⟨a1,b1,b2,b3,b4⟩:=hp;obtain⟨a2,c1,c2,c3,c4⟩:=hr;refine⟨?_,cvx_le t0 t1 b1 c1,cvx_ge t0 t1 b2 c2,cvx_le t0 t1 b3 c3,cvx_ge t0 t1 b4 c4⟩;have:bT s.a s.b (cvx t p r)=(1 - t)*bT s.a s.b p+t*bT s.a s.b r:=by unfold bT cvx;grind
 rw [this,a1,a2];grind
theorem cvx_lt {t u v w:Rat} (t0:0<t) (t1:t<1) (h3:u≤v) (h4:u≤w) (h:u<v∨u<w):u<v+t*(w - v):=by
 have e1:v+t*(w - v) - u=(1 - t)*(v - u)+t*(w - u):=by grind
 have e2:0≤(1 - t)*(v - u):=Rat.mul_nonneg (by grind) (by grind);have e3:0≤t*(w - u):=Rat.mul_nonneg (by grind) (by grind)
 rcases h with h|h
 ·have:0<(1 - t)*(v - u):=Rat.mul_pos (by grind) (by grind)
  grind
 ·have:0<t*(w - u):=Rat.mul_pos t0 (by grind)
  grind
theorem lt_cvx {t:Rat} {P x y:Pt} (t0:0<t) (t1:t<1) (hx:P.lt x) (hy:P.lt y):P.lt (cvx t x y):=by
 unfold Pt.lt cvx at *;simp only
 by_cases h:P.x<x.x∨P.x<y.x
 ·exact .inl (cvx_lt t0 t1 (by grind) (by grind) h)
 ·have e1:x.x=P.x:=by grind
  have e2:y.x=P.x:=by grind
  refine .inr ⟨by rw [e1,e2];grind,cvx_lt t0 t1 (by grind) (by grind) (.inl (by grind))⟩
theorem cvx_lt' {t:Rat} {Q x y:Pt} (t0:0<t) (t1:t<1) (hx:x.lt Q) (hy:y.lt Q):(cvx t x y).lt Q:=by
 have neg:∀ a b:Pt,a.lt b↔Pt.lt ⟨-b.x,-b.y⟩ ⟨-a.x,-a.y⟩:=fun a b=>by unfold Pt.lt;grind
 have h:=lt_cvx t0 t1 ((neg _ _).1 hx) ((neg _ _).1 hy);rw [neg];have e:(⟨-(cvx t x y).x,-(cvx t x y).y⟩:Pt)=cvx t ⟨-x.x,-x.y⟩ ⟨-y.x,-y.y⟩:=by unfold cvx;simp only [Pt.mk.injEq];constructor <;> grind
 rw [e];exact h
theorem area_cvx (P Q x y:Pt) (t:Rat):bT P Q (cvx t x y)=bT P Q x+t*(bT P Q y - bT P Q x):=by unfold bT cvx;grind
theorem on_ends (P Q:Pt):cj ⟨P,Q⟩ P∧cj ⟨P,Q⟩ Q:=by
 constructor
 ·unfold cj sj bT;simp only;refine⟨by grind,?_,?_,?_,?_⟩ <;> grind
 ·unfold cj sj bT;simp only;refine⟨by grind,?_,?_,?_,?_⟩ <;> grind
theorem at_x {P Q:Pt} {x:Rat} (h:P.x<Q.x) (h1:P.x≤x) (h2:x≤Q.x):∃ z:Pt,cj ⟨P,Q⟩ z∧z.x=x∧∀ w:Pt,w.x=x→bT P Q w=(Q.x - P.x)*(w.y - z.y):=by
 have hd:0<Q.x - P.x:=by grind
 have bJ:Q.x - P.x≠0:=by grind
 obtain⟨t,ht⟩:∃ t,(Q.x - P.x)*t=x - P.x:=⟨(x - P.x) / (Q.x - P.x),by grind⟩
 have t0:0≤t:=by
  rcases sw 0 t with h|h
  ·exact h
  ·have:0≤(Q.x - P.x)*(-t):=oH (by grind) (by grind)
   have e:(Q.x - P.x)*t=0:=by grind
   rcases Rat.mul_eq_zero.1 e with e|e <;> grind
 have t1:t≤1:=by
  rcases sw t 1 with h|h
  ·exact h
  ·have:0≤(Q.x - P.x)*(t - 1):=oH (by grind) (by grind)
   have e:(Q.x - P.x)*(t - 1)=0:=by grind
   rcases Rat.mul_eq_zero.1 e with e|e <;> grind
 refine⟨cvx t P Q,cvx_on t0 t1 (on_ends P Q).1 (on_ends P Q).2,by unfold cvx;grind,fun w hw=>?_⟩;unfold bT cvx;rw [hw];simp only
 grind
theorem span_cross {a b c d:Pt} (h1:a.lt c) (h2:c.lt b) (h3:b.lt d) (n1:bT c d b≠0) (n2:bT a b c≠0)
 (s1:∀ x y,cj ⟨a,b⟩ x→cj ⟨a,b⟩ y→c.lt x→x.lt d→c.lt y→y.lt d→bT c d x<0→0<bT c d y→False)
 (s2:∀ x y,cj ⟨c,d⟩ x→cj ⟨c,d⟩ y→a.lt x→x.lt b→a.lt y→y.lt b→bT a b x<0→0<bT a b y→False) :
 0<bT c d b↔bT a b c<0:=by
 constructor
 ·intro hp
  refine Classical.byContradiction fun hn=>?_
  have hq:0<bT a b c:=by grind
  have uN:c.x<d.x:=by
   refine Classical.byContradiction fun e=>?_
   have e1:c.x=d.x:=by unfold Pt.lt at *;grind
   have e2:b.x=c.x:=by unfold Pt.lt at *;grind
   apply n1;unfold bT;grind
  have vD:c.x≤b.x:=by unfold Pt.lt at h2;grind
  have tu:b.x≤d.x:=by unfold Pt.lt at h3;grind
  have hac:a.x≤c.x:=by unfold Pt.lt at h1;grind
  obtain⟨z,ozQ,zx,zaQ⟩:=at_x uN vD tu
  have hz:z.y<b.y:=by
   have:=zaQ b rfl;rw [this] at hp;have:=yE (by grind) hp
   grind
  have hzb:z.lt b:=.inr ⟨zx,hz⟩
  by_cases hx:c.x=b.x
  ·
   have hy:c.y<b.y:=by unfold Pt.lt at h2;grind
   have e:bT a b c = -((b.x - a.x)*(b.y - c.y)):=by unfold bT;rw [hx];grind
   have:0≤(b.x - a.x)*(b.y - c.y):=oH (by grind) (by grind)
   grind
  ·refine s2 z c ozQ (on_ends c d).1 (.inl (by grind)) hzb h1 h2 ?_ hq
   have e:bT a b z = -((b.x - a.x)*(b.y - z.y)):=by unfold bT;rw [zx];grind
   have:0<(b.x - a.x)*(b.y - z.y):=a0f (by grind) (by grind)
   grind
 ·intro hp
  refine Classical.byContradiction fun hn=>?_
  have hq:bT c d b<0:=by grind
  have bV:a.x<b.x:=by
   refine Classical.byContradiction fun e=>?_
   have e1:a.x=b.x:=by unfold Pt.lt at *;grind
   have e2:c.x=a.x:=by unfold Pt.lt at *;grind
   apply n2;unfold bT;grind
  have vD:c.x≤b.x:=by unfold Pt.lt at h2;grind
  have tu:b.x≤d.x:=by unfold Pt.lt at h3;grind
  have hac:a.x≤c.x:=by unfold Pt.lt at h1;grind
  obtain⟨z,ozQ,zx,zaQ⟩:=at_x bV hac vD
  have hz:c.y<z.y:=by
   have:=zaQ c rfl;rw [this] at hp;have h0:0<(b.x - a.x)*(z.y - c.y):=by grind
   have:=yE (by grind) h0
   grind
  have hcz:c.lt z:=.inr ⟨zx.symm,hz⟩
  by_cases hx:c.x=b.x
  ·have hy:c.y<b.y:=by unfold Pt.lt at h2;grind
   have e:bT c d b=(d.x - c.x)*(b.y - c.y):=by unfold bT;rw [hx];grind
   have:0≤(d.x - c.x)*(b.y - c.y):=oH (by grind) (by grind)
   grind
  ·have hzb:z.lt b:=.inl (by grind)
   refine s1 b z (on_ends a b).2 ozQ h2 h3 hcz (Pt.lt_trans hzb h3) hq ?_;have e:bT c d z=(d.x - c.x)*(z.y - c.y):=by unfold bT;rw [zx];grind
   rw [e];exact a0f (by grind) (by grind)
def xsum (f:Nat→Bool):Nat→Bool
 | 0=>false
 | n+1=>xor (xsum f n) (f n)
theorem xsum_congr {f g:Nat→Bool}:∀ {n:Nat},(∀ i,i<n→f i=g i)→xsum f n=xsum g n
 | 0,_=>rfl
 | n+1,h=>by
  show xor (xsum f n) (f n)=xor (xsum g n) (g n);rw [xsum_congr (fun i hi=>h i (by omega)),h n (by omega)]
theorem xsum_xor (f g:Nat→Bool):∀ n,xsum (fun i=>xor (f i) (g i)) n=xor (xsum f n) (xsum g n)
 | 0=>rfl
 | n+1=>by
  show xor (xsum _ n) (xor (f n) (g n))=xor (xor (xsum f n) (f n)) (xor (xsum g n) (g n));rw [xsum_xor f g n];generalize xsum f n=a;generalize xsum g n=b;generalize f n=c;generalize g n=d;cases a <;> cases b <;> cases c <;> cases d <;> rfl
theorem xsum_false:∀ {n:Nat} {f:Nat→Bool},(∀ i,i<n→f i=false)→xsum f n=false
 | 0,_,_=>rfl
 | n+1,f,h=>by
  show xor (xsum f n) (f n)=false;rw [xsum_false (fun i hi=>h i (by omega)),h n (by omega)];rfl
theorem xsum_and (b:Bool) (f:Nat→Bool):∀ n,xsum (fun i=>b && f i) n=(b && xsum f n)
 | 0=>by cases b <;> rfl
 | n+1=>by
  show xor (xsum _ n) (b && f n)=(b && xor (xsum f n) (f n));rw [xsum_and b f n];cases b <;> simp
theorem xsum_swap (f:Nat→Nat→Bool) (m:Nat):∀ n,xsum (fun i=>xsum (f i) m) n=xsum (fun j=>xsum (fun i=>f i j) n) m
 | 0=>(xsum_false fun _ _=>rfl).symm
 | n+1=>by
  show xor (xsum _ n) (xsum (f n) m)=_;rw [xsum_swap f m n,← xsum_xor]
  rfl
theorem xsum_one {k:Nat} (f:Nat→Bool):∀ {n:Nat},k<n→xsum (fun i=>decide (k=i) && f i) n=f k
 | 0,h=>by omega
 | n+1,h=>by
  show xor (xsum _ n) (decide (k=n) && f n)=f k
  by_cases e:k=n
  ·subst e
   rw [xsum_false (fun i hi=>by rw [decide_eq_false (by omega)];rfl)];simp
  ·rw [xsum_one f (by omega),decide_eq_false e];simp
def degB (A B:Nat→Nat) (p:Nat→Bool) (j x:Nat):Bool:=xsum (fun e=>p e && xor (decide (A e=x)) (decide (B e=x))) j
theorem deg_xor (A B:Nat→Nat) (p q:Nat→Bool) (j x:Nat):degB A B (fun e=>xor (p e) (q e)) j x=xor (degB A B p j x) (degB A B q j x):=by
 unfold degB;rw [← xsum_xor]
 exact xsum_congr fun e _=>by
  dsimp only;generalize decide (A e=x)=a;generalize decide (B e=x)=b;generalize p e=c;generalize q e=d;cases a <;> cases b <;> cases c <;> cases d <;> rfl
theorem even_sum {A B:Nat→Nat} {g:Nat→Bool} {j n:Nat} (hA:∀ e,e<j→A e<n) (hB:∀ e,e<j→B e<n) (hg:∀ x,degB A B g j x=false) (f:Nat→Bool):xsum (fun e=>g e && xor (f (A e)) (f (B e))) j=false:=by
 have h1:xsum (fun e=>g e && xor (f (A e)) (f (B e))) j=xsum (fun e=>xsum (fun u=>f u && (g e && xor (decide (A e=u)) (decide (B e=u)))) n) j:=by
  refine xsum_congr fun e he=>?_
  rw [← xsum_one f (hA e he),← xsum_one f (hB e he),← xsum_xor,← xsum_and];refine xsum_congr fun u _=>?_
  cases g e <;> cases decide (A e=u) <;> cases decide (B e=u) <;> cases f u <;> rfl
 rw [h1,xsum_swap];refine xsum_false fun u _=>?_
 rw [xsum_and];have:=hg u;unfold degB at this;rw [this];simp
def Join (A B:Nat→Nat) (j u v:Nat):Prop:=∃ p:Nat→Bool,∀ x,degB A B p j x=xor (decide (u=x)) (decide (v=x))
theorem Join.refl (A B:Nat→Nat) (j u:Nat):Join A B j u u:=⟨fun _=>false,fun x=>by
 unfold degB;rw [xsum_false fun e _=>by simp];simp⟩
theorem Join.symm {A B:Nat→Nat} {j u v:Nat} (h:Join A B j u v):Join A B j v u:=by
 obtain⟨p,hp⟩:=h;exact⟨p,fun x=>by rw [hp,Bool.xor_comm]⟩
theorem Join.trans {A B:Nat→Nat} {j u v w:Nat} (h:Join A B j u v) (h':Join A B j v w):Join A B j u w:=by
 obtain⟨p,hp⟩:=h;obtain⟨q,hq⟩:=h';refine⟨fun e=>xor (p e) (q e),fun x=>?_⟩;rw [deg_xor,hp,hq];cases decide (u=x) <;> cases decide (v=x) <;> cases decide (w=x) <;> rfl
theorem Join.next {A B:Nat→Nat} {j u v:Nat} (h:Join A B j u v):Join A B (j+1) u v:=by
 obtain⟨p,hp⟩:=h;refine⟨fun e=>decide (e<j) && p e,fun x=>?_⟩;rw [← hp];show xor (xsum _ j) ((decide (j<j) && p j) && _)=xsum _ j;rw [decide_eq_false (Nat.lt_irrefl j)];simp only [Bool.false_and,Bool.xor_false];exact xsum_congr fun e he=>by rw [decide_eq_true he];simp
theorem Join.mw (A B:Nat→Nat) (j:Nat):Join A B (j+1) (A j) (B j):=by
 refine⟨fun e=>decide (e=j),fun x=>?_⟩;show xor (xsum _ j) (decide (j=j) && _)=_;rw [xsum_false fun e he=>by dsimp only;rw [show decide (e=j)=false from decide_eq_false (by omega)];rfl];simp
theorem join_comp {E:List (Nat × Nat)} {A B:Nat→Nat} (hA:∀ e,A e=(nth (0,0) E e).1) (hB:∀ e,B e=(nth (0,0) E e).2):∀ {j u v:Nat},comp E j u=comp E j v→Join A B j u v
 | 0,u,v,h=>by
  obtain rfl:u=v:=h;exact Join.refl A B 0 u
 | j+1,u,v,h=>by
  have ih:=fun {u v}=>@join_comp E A B hA hB j u v
  have hs:∀ u,comp E (j+1) u=if comp E j u=max (comp E j (A j)) (comp E j (B j)) then min (comp E j (A j)) (comp E j (B j)) else comp E j u:=fun u=>by rw [hA,hB];rfl
  have key:∀ u,comp E (j+1) u≠comp E j u→comp E j u=max (comp E j (A j)) (comp E j (B j))∧comp E (j+1) u=min (comp E j (A j)) (comp E j (B j)):=fun u hu=>by
   rw [hs] at hu ⊢
   split at hu
   ·rename_i h1;rw [if_pos h1];exact⟨h1,rfl⟩
   ·exact absurd rfl hu
  have bV:=Join.mw A B j
  have hm:∀ u v,comp E j u=max (comp E j (A j)) (comp E j (B j))→comp E j v=min (comp E j (A j)) (comp E j (B j))→Join A B (j+1) u v:=fun u v h1 h2=>by
   rcases Nat.le_total (comp E j (A j)) (comp E j (B j)) with h|h
   ·rw [Nat.max_eq_right h] at h1
    rw [Nat.min_eq_left h] at h2;exact ((ih h1).next.trans bV.symm).trans (ih h2.symm).next
   ·rw [Nat.max_eq_left h] at h1
    rw [Nat.min_eq_right h] at h2;exact ((ih h1).next.trans bV).trans (ih h2.symm).next
  by_cases h1:comp E (j+1) u=comp E j u <;> by_cases h2:comp E (j+1) v=comp E j v
  ·exact (ih (h1.symm.trans (h.trans h2))).next
  ·obtain⟨a,b⟩:=key v h2
   exact (hm v u a (by rw [← h1,h,b])).symm
  ·obtain⟨a,b⟩:=key u h1
   exact hm u v a (by rw [← h2,← h,b])
  ·exact (ih ((key u h1).1.trans (key v h2).1.symm)).next
theorem close_path {E:List (Nat × Nat)} {A B:Nat→Nat} (hA:∀ e,A e=(nth (0,0) E e).1) (hB:∀ e,B e=(nth (0,0) E e).2) {j:Nat} (h:comp E j (A j)=comp E j (B j)):∃ g:Nat→Bool,g j=true∧(∀ e,j<e→g e=false)∧∀ x,degB A B g (j+1) x=false:=by
 obtain⟨p,hp⟩:=join_comp hA hB h;refine⟨fun e=>if e<j then p e else decide (e=j),by simp,fun e he=>by simp only [];rw [if_neg (by omega),decide_eq_false (by omega)],fun x=>?_⟩;show xor (xsum _ j) ((if j<j then p j else decide (j=j)) && _)=_;rw [if_neg (Nat.lt_irrefl j)];have:=hp x;unfold degB at this;rw [xsum_congr (g:=fun e=>p e && xor (decide (A e=x)) (decide (B e=x))) (fun e he=>by simp only [if_pos he]),this];simp
def fit (P:Nat→Nat):Nat→Nat→Nat
 | 0,x=>x
 | j+1,x=>P (fit P j x)
theorem fit_add (P:Nat→Nat) (i x:Nat):∀ j,fit P (i+j) x=fit P j (fit P i x)
 | 0=>rfl
 | j+1=>by show P (fit P (i+j) x)=P (fit P j (fit P i x));rw [fit_add P i x j]
theorem fit_lt {P:Nat→Nat} {M x:Nat} (h:∀ x,x<M→P x<M) (hx:x<M):∀ j,fit P j x<M
 | 0=>hx
 | j+1=>h _ (fit_lt h hx j)
structure PermF (P:Nat→Nat) (M:Nat):Prop where
 lt:∀ x,x<M→P x<M
 inj:∀ x y,x<M→y<M→P x=P y→x=y
theorem PermF.fit_inj {P:Nat→Nat} {M:Nat} (h:PermF P M) {x y:Nat} (hx:x<M) (hy:y<M):∀ j,fit P j x=fit P j y→x=y
 | 0,e=>e
 | j+1,e=>h.fit_inj hx hy j (h.inj _ _ (fit_lt h.lt hx j) (fit_lt h.lt hy j) e)
theorem PermF.back {P:Nat→Nat} {M:Nat} (h:PermF P M) {x:Nat} (hx:x<M):∃ p,0<p∧fit P p x=x:=by
 obtain⟨i,j,fe,_,e⟩:=aFZ M (fun i=>fit P i x) (fun i _=>fit_lt h.lt hx i);refine⟨j - i,by omega,?_⟩
 have e2:fit P i (fit P (j - i) x)=fit P i x:=by
  rw [← fit_add,show j - i+i=j by omega];exact e.symm
 exact h.fit_inj (fit_lt h.lt hx _) hx i e2
def meet (P:Nat→Nat) (x y:Nat):Prop:=∃ i j,fit P i x=fit P j y
theorem meet.refl (P:Nat→Nat) (x:Nat):meet P x x:=⟨0,0,rfl⟩
theorem meet.symm {P:Nat→Nat} {x y:Nat} (h:meet P x y):meet P y x:=by
 obtain⟨i,j,e⟩:=h;exact⟨j,i,e.symm⟩
theorem meet.trans {P:Nat→Nat} {x y z:Nat} (h:meet P x y) (h':meet P y z):meet P x z:=by
 obtain⟨i,j,e⟩:=h;obtain⟨k,l,e'⟩:=h';refine⟨i+k,l+j,?_⟩;rw [fit_add,e,← fit_add,Nat.add_comm j k,fit_add,e',← fit_add]
theorem meet.step (P:Nat→Nat) (x:Nat):meet P x (P x):=⟨1,0,rfl⟩
theorem meet.fit (P:Nat→Nat) (x:Nat):∀ j,meet P x (fit P j x):=fun j=>⟨j,0,rfl⟩
theorem meet.lift {P:Nat→Nat} {M:Nat} (hl:∀ x,x<M→P x<M) {R:Nat→Nat→Prop} (h0:∀ x,x<M→R x x) (hs:∀ x y,x<M→y<M→R x y→R y x) (ht:∀ x y z,x<M→y<M→z<M→R x y→R y z→R x z) (h1:∀ x,x<M→R x (P x)) {x y:Nat} (hx:x<M) (hy:y<M) (h:meet P x y):R x y:=by
 have go:∀ x,x<M→∀ j,R x (Go.Hp.fit P j x):=fun x hx j=>by
  induction j with
  | zero=>exact h0 x hx
  | succ j ih=>exact ht _ _ _ hx (fit_lt hl hx j) (fit_lt hl hx (j+1)) ih (h1 _ (fit_lt hl hx j))
 obtain⟨i,j,e⟩:=h;have h2:=go y hy j;rw [← e] at h2;exact ht _ _ _ hx (fit_lt hl hx i) hy (go x hx i) (hs _ _ hy (fit_lt hl hx i) h2)
theorem PermF.reach {P:Nat→Nat} {M:Nat} (h:PermF P M) {x y:Nat} (hx:x<M) (hy:y<M) (hm:meet P x y):∃ q,0<q∧fit P q x=y:=by
 have back:∀ x,x<M→∀ n,∃ q,n≤q∧fit P q x=x:=fun x hx n=>by
  obtain⟨p,hp,e⟩:=h.back hx
  induction n with
  | zero=>exact⟨p,by omega,e⟩
  | succ n ih =>
   obtain⟨q,hq,e2⟩:=ih;exact⟨q+p,by omega,by rw [fit_add,e2,e]⟩
 obtain⟨i,j,e⟩:=hm;obtain⟨q,hq,e2⟩:=back x hx (j+1);refine⟨q - j+i,by omega,h.fit_inj (fit_lt h.lt hx _) hy j ?_⟩;rw [← fit_add,show q - j+i+j=q+i by omega,fit_add,e2,e]
theorem least_ex {p:Nat→Prop} (h:∃ q,0<q∧p q):∃ q,0<q∧p q∧∀ i,0<i→i<q→¬ p i:=by
 obtain⟨q,h1,h2⟩:=h
 induction q using Nat.strongRecOn with
 | _ q ih =>
  by_cases hx:∃ i,0<i∧i<q∧p i
  ·obtain⟨i,a,b,c⟩:=hx
   exact ih i b a c
  ·exact⟨q,h1,h2,fun i a b c=>hx ⟨i,a,b,c⟩⟩
def swp (a b x:Nat):Nat:=if x=a then b else if x=b then a else x
theorem swp_swp (a b x:Nat):swp a b (swp a b x)=x:=by
 unfold swp
 by_cases h1:x=a
 ·rw [if_pos h1]
  by_cases h2:b=a
  ·rw [if_pos h2];omega
  ·rw [if_neg h2,if_pos rfl];exact h1.symm
 ·rw [if_neg h1]
  by_cases h2:x=b
  ·rw [if_pos h2,if_pos rfl];exact h2.symm
  ·rw [if_neg h2,if_neg h1,if_neg h2]
theorem swp_else {a b x:Nat} (h1:x≠a) (h2:x≠b):swp a b x=x:=by unfold swp;rw [if_neg h1,if_neg h2]
theorem swp_l (a b:Nat):swp a b a=b:=by unfold swp;rw [if_pos rfl]
theorem swp_r (a b:Nat):swp a b b=a:=by unfold swp;split <;> simp_all
theorem swp_lt {a b x M:Nat} (ha:a<M) (hb:b<M) (hx:x<M):swp a b x<M:=by unfold swp;split <;> (try split) <;> assumption
theorem PermF.swp {P:Nat→Nat} {M a b:Nat} (h:PermF P M) (ha:a<M) (hb:b<M):PermF (fun x=>Go.Hp.swp a b (P x)) M :=
 ⟨fun x hx=>swp_lt ha hb (h.lt x hx),fun x y hx hy e=>h.inj x y hx hy (by
  have:Go.Hp.swp a b (Go.Hp.swp a b (P x))=Go.Hp.swp a b (Go.Hp.swp a b (P y)):=congrArg (Go.Hp.swp a b) e
  rwa [swp_swp,swp_swp] at this)⟩
section
variable {P:Nat→Nat} {M a b:Nat} (h:PermF P M) (ha:a<M) (hb:b<M)
 include h ha hb
 omit hb in
theorem swp_join (hn:¬ meet P a b):meet (fun x=>swp a b (P x)) a b:=by
  obtain⟨p,hp,e,hf⟩:=least_ex (p:=fun q=>fit P q a=a) (h.back ha)
  have jG:∀ i,i<p→fit (fun x=>swp a b (P x)) i a=fit P i a:=fun i=>by
   induction i with
   | zero=>intro _;rfl
   | succ i ih =>
    intro hi;show swp a b (P (fit (fun x=>swp a b (P x)) i a))=P (fit P i a);rw [ih (by omega)];exact swp_else (hf (i+1) (by omega) hi) (fun e=>hn ⟨i+1,0,e⟩)
  refine⟨p,0,?_⟩;obtain⟨q,rfl⟩:∃ q,p=q+1:=⟨p - 1,by omega⟩;show swp a b (P (fit (fun x=>swp a b (P x)) q a))=b;rw [jG q (by omega),show P (fit P q a)=a from e,swp_l]
theorem swp_part (bV:a≠b) (hn:meet P a b):¬ meet (fun x=>swp a b (P x)) a b:=by
 obtain⟨q,hq,e,hf⟩:=least_ex (h.reach ha hb hn)
 have hfa:∀ i,0<i→i<q→fit P i a≠a:=fun i hi hiq ea=>by
  refine hf (q - i) (by omega) (by omega) ?_;have e2:fit P (i+(q - i)) a=b:=by rw [show i+(q - i)=q by omega];exact e
  rw [fit_add,ea] at e2;exact e2
 have jG:∀ i,i<q→fit (fun x=>swp a b (P x)) i a=fit P i a:=fun i=>by
  induction i with
  | zero=>intro _;rfl
  | succ i ih =>
   intro hi;show swp a b (P (fit (fun x=>swp a b (P x)) i a))=P (fit P i a);rw [ih (by omega)];exact swp_else (hfa (i+1) (by omega) hi) (hf (i+1) (by omega) hi)
 have gq:swp a b (P (fit P (q - 1) a))=a:=by
  have:P (fit P (q - 1) a)=b:=by
   have e2:fit P (q - 1+1) a=b:=by rw [show q - 1+1=q by omega];exact e
   exact e2
  rw [this,swp_r]
 have hT:=h.swp ha hb;intro hm
 have hR:(∃ i,i<q∧fit P i a=a)↔(∃ i,i<q∧fit P i a=b):=by
  refine meet.lift (P:=fun x=>swp a b (P x)) (M:=M) hT.lt (R:=fun x y=>(∃ i,i<q∧fit P i a=x)↔(∃ i,i<q∧fit P i a=y)) (fun _ _=>Iff.rfl) (fun _ _ _ _=>Iff.symm) (fun _ _ _ _ _ _=>Iff.trans) (fun x hx=>?_) ha hb hm
  constructor
  ·rintro⟨i,hi,rfl⟩
   by_cases h1:i+1<q
   ·exact⟨i+1,h1,by rw [← jG (i+1) h1,← jG i hi];rfl⟩
   ·obtain rfl:i=q - 1:=by omega
    exact⟨0,hq,gq.symm⟩
  ·rintro⟨i,hi,e2⟩
   cases i with
   | zero =>
    refine⟨q - 1,by omega,hT.inj _ _ (fit_lt h.lt ha _) hx ?_⟩;show swp a b (P (fit P (q - 1) a))=swp a b (P x);rw [gq];exact e2
   | succ i =>
    refine⟨i,by omega,hT.inj _ _ (fit_lt h.lt ha _) hx ?_⟩;show swp a b (P (fit P i a))=swp a b (P x);rw [← e2,← jG (i+1) hi,← jG i (by omega)];rfl
 obtain⟨i,hi,e2⟩:=hR.1 ⟨0,hq,rfl⟩
 rcases Nat.eq_zero_or_pos i with h0|h0
 ·subst h0;exact bV e2
 ·exact hf i h0 hi e2
theorem swp_meet (hn:¬ meet P a b) {x y:Nat} (hx:x<M) (hy:y<M):meet (fun x=>swp a b (P x)) x y↔meet P x y∨(meet P x a∧meet P b y)∨(meet P x b∧meet P a y):=by
 have hT:=h.swp ha hb;have hj:=swp_join h ha hn
 constructor
 ·intro hm
  refine meet.lift (P:=fun x=>swp a b (P x)) (M:=M) hT.lt (R:=fun x y=>meet P x y∨(meet P x a∧meet P b y)∨(meet P x b∧meet P a y)) (fun x _=>.inl (meet.refl P x)) (fun x y _ _ hr=>?_) (fun x y z _ _ _ hr hs=>?_) (fun x _=>?_) hx hy hm
  ·rcases hr with hr|⟨h1,h2⟩|⟨h1,h2⟩
   ·exact .inl hr.symm
   ·exact .inr (.inr ⟨h2.symm,h1.symm⟩)
   ·exact .inr (.inl ⟨h2.symm,h1.symm⟩)
  ·rcases hr with hr|⟨h1,h2⟩|⟨h1,h2⟩ <;> rcases hs with hs|⟨h3,h4⟩|⟨h3,h4⟩
   ·exact .inl (hr.trans hs)
   ·exact .inr (.inl ⟨hr.trans h3,h4⟩)
   ·exact .inr (.inr ⟨hr.trans h3,h4⟩)
   ·exact .inr (.inl ⟨h1,h2.trans hs⟩)
   ·exact absurd (h2.trans h3).symm hn
   ·exact .inl (h1.trans h4)
   ·exact .inr (.inr ⟨h1,h2.trans hs⟩)
   ·exact .inl (h1.trans h4)
   ·exact absurd (h2.trans h3) hn
  ·show meet P x (swp a b (P x))∨(meet P x a∧meet P b (swp a b (P x)))∨(meet P x b∧meet P a (swp a b (P x)))
   have hs:=meet.step P x
   by_cases e1:P x=a
   ·rw [e1,swp_l];rw [e1] at hs
    exact .inr (.inl ⟨hs,meet.refl P b⟩)
   ·by_cases e2:P x=b
    ·rw [e2,swp_r];rw [e2] at hs
     exact .inr (.inr ⟨hs,meet.refl P a⟩)
    ·rw [swp_else e1 e2];exact .inl hs
 ·have hs:∀ x y,x<M→y<M→meet P x y→meet (fun x=>swp a b (P x)) x y:=fun x y hx hy hm =>
   meet.lift (P:=P) (M:=M) h.lt (R:=meet (fun x=>swp a b (P x))) (fun x _=>meet.refl _ x) (fun _ _ _ _=>meet.symm) (fun _ _ _ _ _ _=>meet.trans) (fun x _=>by
    have hs:meet (fun x=>swp a b (P x)) x (swp a b (P x)):=meet.step _ x
    by_cases e1:P x=a
    ·rw [e1,swp_l] at hs;rw [e1];exact hs.trans hj.symm
    ·by_cases e2:P x=b
     ·rw [e2,swp_r] at hs;rw [e2];exact hs.trans hj
     ·rwa [swp_else e1 e2] at hs) hx hy hm
  rintro (hm|⟨h1,h2⟩|⟨h1,h2⟩)
  ·exact hs x y hx hy hm
  ·exact ((hs _ _ hx ha h1).trans hj).trans (hs _ _ hb hy h2)
  ·exact ((hs _ _ hx hb h1).trans hj.symm).trans (hs _ _ ha hy h2)
end
noncomputable def cntP (p:Nat→Prop):Nat→Nat
 | 0=>0
 | n+1=>cntP p n+@ite _ (p n) (Classical.propDecidable _) 1 0
theorem cntP_succ_pos {p:Nat→Prop} {n:Nat} (h:p n):cntP p (n+1)=cntP p n+1:=by
 show cntP p n+_=_;rw [if_pos h]
theorem cntP_succ_neg {p:Nat→Prop} {n:Nat} (h:¬ p n):cntP p (n+1)=cntP p n:=by
 show cntP p n+_=_;rw [if_neg h];rfl
theorem cntP_congr {p q:Nat→Prop}:∀ {n:Nat},(∀ i,i<n→(p i↔q i))→cntP p n=cntP q n
 | 0,_=>rfl
 | n+1,h=>by
  have ih:=cntP_congr (p:=p) (q:=q) (n:=n) (fun i hi=>h i (by omega))
  by_cases hp:p n
  ·rw [cntP_succ_pos hp,cntP_succ_pos ((h n (by omega)).1 hp),ih]
  ·rw [cntP_succ_neg hp,cntP_succ_neg (fun hq=>hp ((h n (by omega)).2 hq)),ih]
theorem cntP_less {p q:Nat→Prop} {k:Nat} (hk:p k) (hq:∀ i,q i↔p i∧i≠k):∀ n,cntP p n=cntP q n+if k<n then 1 else 0
 | 0=>by rw [if_neg (by omega)];rfl
 | n+1=>by
  have ih:=cntP_less hk hq n
  by_cases e:n=k
  ·subst e
   rw [cntP_succ_pos hk,cntP_succ_neg (fun h=>((hq n).1 h).2 rfl),if_pos (by omega)];rw [if_neg (by omega)] at ih;omega
  ·by_cases hp:p n
   ·rw [cntP_succ_pos hp,cntP_succ_pos ((hq n).2 ⟨hp,e⟩),ih]
    by_cases h:k<n
    ·rw [if_pos h,if_pos (by omega)]
    ·rw [if_neg h,if_neg (by omega)]
   ·rw [cntP_succ_neg hp,cntP_succ_neg (fun h=>hp ((hq n).1 h).1),ih]
    by_cases h:k<n
    ·rw [if_pos h,if_pos (by omega)]
    ·rw [if_neg h,if_neg (by omega)]
theorem cntP_all {p:Nat→Prop}:∀ {n:Nat},(∀ i,i<n→p i)→cntP p n=n
 | 0,_=>rfl
 | n+1,h=>by rw [cntP_succ_pos (h n (by omega)),cntP_all fun i hi=>h i (by omega)]
def newP (R:Nat→Nat→Prop) (k:Nat):Prop:=∀ j,j<k→¬ R k j
noncomputable def clsN (R:Nat→Nat→Prop) (n:Nat):Nat:=cntP (newP R) n
theorem clsN_congr {R R':Nat→Nat→Prop} {n:Nat} (h:∀ x y,x<n→y<n→(R x y↔R' x y)):clsN R n=clsN R' n :=
 cntP_congr fun i hi=>⟨fun hn j hj hr=>hn j hj ((h i j hi (by omega)).2 hr),fun hn j hj hr=>hn j hj ((h i j hi (by omega)).1 hr)⟩
theorem newP_ex {R:Nat→Nat→Prop} (rfQ:∀ x,R x x) (tr:∀ x y z,R x y→R y z→R x z) (a:Nat):∃ l,l≤a∧R a l∧newP R l:=by
 have:∀ a b,R a b→∃ l,l≤b∧R a l∧newP R l:=fun a b=>by
  induction b using Nat.strongRecOn with
  | _ b ih =>
   intro bV
   by_cases h:∃ j,j<b∧R b j
   ·obtain⟨j,hj,hr⟩:=h
    obtain⟨l,h1,h2,h3⟩:=ih j hj (tr _ _ _ bV hr);exact⟨l,by omega,h2,h3⟩
   ·exact⟨b,Nat.le_refl _,bV,fun j hj hr=>h ⟨j,hj,hr⟩⟩
 exact this a a (rfQ a)
theorem clsN_merge {R:Nat→Nat→Prop} (rfQ:∀ x,R x x) (syQ:∀ x y,R x y→R y x) (tr:∀ x y z,R x y→R y z→R x z) {a b n:Nat} (ha:a<n) (hb:b<n) (hn:¬ R a b):clsN R n=clsN (fun x y=>R x y∨(R x a∧R b y)∨(R x b∧R a y)) n+1:=by
 have main:∀ a b,a<n→b<n→¬ R a b→∀ la lb,R a la→R b lb→newP R la→newP R lb→la<lb→lb<n→clsN R n=clsN (fun x y=>R x y∨(R x a∧R b y)∨(R x b∧R a y)) n+1:=by
  intro a b ha hb hn la lb h1 h2 n1 n2 aW oF;have:=cntP_less (p:=newP R) (q:=newP (fun x y=>R x y∨(R x a∧R b y)∨(R x b∧R a y))) (k:=lb) n2 (fun i=>?_) n
  ·rw [if_pos oF] at this;exact this
  ·constructor
   ·intro h
    refine⟨fun j hj hr=>h j hj (.inl hr),?_⟩;rintro rfl;exact h la aW (.inr (.inr ⟨syQ _ _ h2,h1⟩))
   ·rintro⟨h,bJ⟩ j hj hr
    rcases hr with hr|⟨h3,h4⟩|⟨h3,h4⟩
    ·exact h j hj hr
    ·
     have e1:i=la:=by
      have r1:R i la:=tr _ _ _ h3 h1
      rcases Nat.lt_trichotomy i la with hh|hh|hh
      ·exact absurd (syQ _ _ r1) (n1 i hh)
      ·exact hh
      ·exact absurd r1 (h la hh)
     have r2:R lb j:=tr _ _ _ (syQ _ _ h2) h4;exact n2 j (by omega) r2
    ·have r1:R i lb:=tr _ _ _ h3 h2
     rcases Nat.lt_trichotomy i lb with hh|hh|hh
     ·exact n2 i hh (syQ _ _ r1)
     ·exact bJ hh
     ·exact h lb hh r1
 obtain⟨la,l1,r1,n1⟩:=newP_ex rfQ tr a;obtain⟨lb,l2,r2,n2⟩:=newP_ex rfQ tr b
 rcases Nat.lt_trichotomy la lb with h|h|h
 ·exact main a b ha hb hn la lb r1 r2 n1 n2 h (by omega)
 ·subst h;exact absurd (tr _ _ _ r1 (syQ _ _ r2)) hn
 ·rw [main b a hb ha (fun h=>hn (syQ _ _ h)) lb la r2 r1 n2 n1 h (by omega)]
  congr 1
  exact clsN_congr fun x y _ _=>⟨fun h=>h.elim .inl fun h=>.inr h.symm,fun h=>h.elim .inl fun h=>.inr h.symm⟩
def skip (T:Nat→Nat) (m x:Nat):Nat:=if T x<m then T x else T (T x)
section
variable {T:Nat→Nat} {m:Nat} (h:PermF T (m+2)) (h1:∀ x,x<m→skip T m x<m)
 include h1
theorem skip_sub {x y:Nat} (hx:x<m) (hy:y<m) (hm:meet (skip T m) x y):meet T x y :=
 meet.lift (P:=skip T m) (M:=m) h1 (R:=meet T) (fun x _=>meet.refl T x) (fun _ _ _ _=>meet.symm) (fun _ _ _ _ _ _=>meet.trans) (fun x _=>by
  unfold skip
  split
  ·exact meet.step T x
  ·exact (meet.step T x).trans (meet.step T (T x))) hx hy hm
 include h
theorem skip_meet {x y:Nat} (hx:x<m) (hy:y<m):meet (skip T m) x y↔meet T x y:=by
 refine⟨skip_sub h1 hx hy,fun hm=>?_⟩;obtain⟨q,-,e⟩:=h.reach (x:=x) (y:=y) (by omega) (by omega) hm;clear hm
 induction q using Nat.strongRecOn generalizing x with
 | _ q ih =>
  cases q with
  | zero=>exact⟨0,0,e⟩
  | succ q =>
   have hs:=meet.step (skip T m) x;have h2:=h1 x hx;have e1:∀ q x,fit T (q+1) x=fit T q (T x):=fun q x=>by rw [Nat.add_comm,fit_add];rfl
   rw [e1] at e;unfold skip at hs h2
   by_cases aW:T x<m
   ·rw [if_pos aW] at hs
    exact hs.trans (ih q (by omega) aW e)
   ·rw [if_neg aW] at hs h2
    cases q with
    | zero=>exact absurd (by rw [show T x=y from e];exact hy) aW
    | succ q =>
     rw [e1] at e;exact hs.trans (ih q (by omega) h2 e)
theorem skip_perm:PermF (skip T m) m:=by
 refine⟨h1,fun x y hx hy e=>?_⟩
 have two:∀ x y,x<m→y<m→T x<m→¬ T y<m→T x=T (T y)→False:=fun x y hx hy h2 h3 e=>by
  have:=h.inj _ _ (by omega) (h.lt y (by omega)) e;exact h3 (this ▸ hx)
 unfold skip at e
 by_cases h2:T x<m <;> by_cases h3:T y<m
 ·rw [if_pos h2,if_pos h3] at e;exact h.inj _ _ (by omega) (by omega) e
 ·rw [if_pos h2,if_neg h3] at e;exact (two x y hx hy h2 h3 e).elim
 ·rw [if_neg h2,if_pos h3] at e;exact (two y x hy hx h3 h2 e.symm).elim
 ·rw [if_neg h2,if_neg h3] at e
  exact h.inj _ _ (by omega) (by omega) (h.inj _ _ (h.lt x (by omega)) (h.lt y (by omega)) e)
end
def cutP (P:Nat→Nat) (k:Nat):Nat→Nat:=skip (fun x=>swp k (k+1) (P x)) k
theorem fixed_new {T:Nat→Nat} {M x:Nat} (h:PermF T M) (hx:x<M) (e:T x=x):newP (meet T) x:=fun j hj hm=>by
 obtain⟨q,-,e2⟩:=h.reach hx (by omega) hm
 have:∀ q,fit T q x=x:=fun q=>by
  induction q with
  | zero=>rfl
  | succ q ih=>show T (fit T q x)=x;rw [ih,e]
 rw [this] at e2;omega
section
variable {P:Nat→Nat} {k:Nat} (hP:PermF P (k+2)) (h1:P k≠k) (h2:P (k+1)≠k+1)
 include hP h1 h2
theorem cutP_eq {x:Nat} (hx:x<k):cutP P k x=(if P x=k then P (k+1) else if P x=k+1 then P k else P x)∧cutP P k x<k:=by
 have aW:=hP.lt x (by omega);have ha:=hP.lt k (by omega);have hb:=hP.lt (k+1) (by omega);unfold cutP skip;simp only []
 by_cases e1:P x=k
 ·rw [e1,swp_l,if_neg (by omega),if_pos rfl]
  have h3:P (k+1)≠k:=fun e=>by have:=hP.inj _ _ (by omega) (by omega) (e.trans e1.symm);omega
  rw [swp_else h3 h2];exact⟨rfl,by omega⟩
 ·by_cases e2:P x=k+1
  ·rw [e2,swp_r,if_neg (by omega),if_neg (by omega),if_pos rfl]
   have h3:P k≠k+1:=fun e=>by have:=hP.inj _ _ (by omega) (by omega) (e.trans e2.symm);omega
   rw [swp_else h1 h3];exact⟨rfl,by omega⟩
  ·rw [swp_else e1 e2,if_pos (by omega),if_neg e1,if_neg e2]
   exact⟨rfl,by omega⟩
theorem cutP_perm:PermF (cutP P k) k:=skip_perm (hP.swp (by omega) (by omega)) fun x hx=>(cutP_eq hP h1 h2 hx).2
theorem cut_cls:clsN (meet fun x=>swp k (k+1) (P x)) (k+2)=clsN (meet (cutP P k)) k+(if P k=k+1 then 1 else 0)+(if P (k+1)=k then 1 else 0):=by
 have hT:=hP.swp (a:=k) (b:=k+1) (by omega) (by omega);have ha:=hP.lt k (by omega);have hb:=hP.lt (k+1) (by omega)
 have e0:clsN (meet fun x=>swp k (k+1) (P x)) k=clsN (meet (cutP P k)) k :=
  clsN_congr fun x y hx hy=>(skip_meet hT (fun x hx=>(cutP_eq hP h1 h2 hx).2) hx hy).symm
 rw [← e0]
 have n1:newP (meet fun x=>swp k (k+1) (P x)) k↔P k=k+1:=by
  constructor
  ·intro hn
   refine Classical.byContradiction fun e=>?_
   have hs:=meet.step (fun x=>swp k (k+1) (P x)) k;simp only [swp_else h1 e] at hs;exact hn (P k) (by omega) hs
  ·intro e
   exact fixed_new hT (by omega) (by simp only [e,swp_r])
 have n2:newP (meet fun x=>swp k (k+1) (P x)) (k+1)↔P (k+1)=k:=by
  constructor
  ·intro hn
   refine Classical.byContradiction fun e=>?_
   have hs:=meet.step (fun x=>swp k (k+1) (P x)) (k+1);simp only [swp_else e h2] at hs;exact hn (P (k+1)) (by omega) hs
  ·intro e
   exact fixed_new hT (by omega) (by simp only [e,swp_l])
 show (cntP _ k+_)+_=_;simp only [n1,n2]
 rfl
theorem cut_apart (hn:¬ meet P k (k+1)):clsN (meet P) (k+2)=clsN (meet (cutP P k)) k+1∧P k<k∧P (k+1)<k∧meet (cutP P k) (P k) (P (k+1)):=by
 have ha:=hP.lt k (by omega);have hb:=hP.lt (k+1) (by omega);have e1:P k≠k+1:=fun e=>hn (by have:=meet.step P k;rwa [e] at this)
 have e2:P (k+1)≠k:=fun e=>hn (by have:=(meet.step P (k+1)).symm;rwa [e] at this)
 have hT:=hP.swp (a:=k) (b:=k+1) (by omega) (by omega);have hc:=cut_cls hP h1 h2;rw [if_neg e1,if_neg e2] at hc;refine⟨?_,by omega,by omega,?_⟩
 ·rw [clsN_merge (meet.refl P) (fun _ _=>meet.symm) (fun _ _ _=>meet.trans) (a:=k) (b:=k+1) (by omega) (by omega) hn]
  rw [← clsN_congr fun x y hx hy=>swp_meet hP (by omega) (by omega) hn hx hy,hc]
 ·refine (skip_meet hT (fun x hx=>(cutP_eq hP h1 h2 hx).2) (by omega) (by omega)).2 ?_
  have s1:=meet.step (fun x=>swp k (k+1) (P x)) k;have s2:=meet.step (fun x=>swp k (k+1) (P x)) (k+1);simp only [swp_else h1 e1] at s1;simp only [swp_else e2 h2] at s2;exact (s1.symm.trans (swp_join hP (by omega) hn)).trans s2
theorem cut_one (hn:meet P k (k+1)):clsN (meet P) (k+2)+1=clsN (meet (cutP P k)) k+(if P k=k+1 then 1 else 0)+(if P (k+1)=k then 1 else 0):=by
 have hT:=hP.swp (a:=k) (b:=k+1) (by omega) (by omega);have hp:=swp_part hP (by omega) (by omega) (by omega) hn;rw [← cut_cls hP h1 h2,clsN_merge (meet.refl _) (fun _ _=>meet.symm) (fun _ _ _=>meet.trans) (a:=k) (b:=k+1) (by omega) (by omega) hp]
 congr 1
 refine clsN_congr fun x y hx hy=>?_
 have:=swp_meet hT (by omega) (by omega) hp hx hy;simp only [swp_swp] at this;exact this
end
def orgF (A B:Nat→Nat) (h:Nat):Nat:=if h % 2=0 then A (h / 2) else B (h / 2)
theorem orgF_l (A B:Nat→Nat) (e:Nat):orgF A B (2*e)=A e:=by unfold orgF;rw [if_pos (by omega),show 2*e / 2=e by omega]
theorem orgF_r (A B:Nat→Nat) (e:Nat):orgF A B (2*e+1)=B e:=by unfold orgF;rw [if_neg (by omega),show (2*e+1) / 2=e by omega]
theorem tw_l (e:Nat):tw (2*e)=2*e+1:=by unfold tw;rw [if_pos (by omega)]
theorem tw_r (e:Nat):tw (2*e+1)=2*e:=by unfold tw;rw [if_neg (by omega)];omega
structure Rot (A B:Nat→Nat) (j:Nat) (P:Nat→Nat):Prop where
 perm:PermF P (2*j)
 fB:∀ x,x<2*j→orgF A B (P x)=orgF A B (tw x)
 tr:∀ x y,x<2*j→y<2*j→orgF A B x=orgF A B y→meet (fun x=>P (tw x)) x y
 par:∀ g,(∀ v,degB A B g j v=false)→∃ p:Nat→Bool,(∀ x,x<2*j→p (P x)=p x)∧∀ e,e<j→p (2*e+1)=xor (p (2*e)) (g e)
section
variable {A B:Nat→Nat} {j:Nat} {P:Nat→Nat} (h:Rot A B (j+1) P) (bJ:A j≠B j)
 include h bJ
theorem Rot.ne:PermF P (2*j+2)∧P (2*j)≠2*j∧P (2*j+1)≠2*j+1:=by
 refine⟨h.perm,fun e=>?_,fun e=>?_⟩
 ·have:=h.fB (2*j) (by omega)
  rw [e,tw_l,orgF_l,orgF_r] at this;exact bJ this
 ·have:=h.fB (2*j+1) (by omega)
  rw [e,tw_r,orgF_l,orgF_r] at this;exact bJ this.symm
 omit bJ in
theorem Rot.sig:PermF (fun x=>P (tw x)) (2*j+2) :=
  ⟨fun x hx=>h.perm.lt _ (a1Q (m:=j+1) (by omega)),fun x y hx hy e=>aEK (h.perm.inj _ _ (a1Q (m:=j+1) (by omega)) (a1Q (m:=j+1) (by omega)) e)⟩
theorem Rot.down:Rot A B j (cutP P (2*j)):=by
 obtain⟨hp,h1,h2⟩:=h.ne bJ;have hq:=fun {x} hx=>@cutP_eq P (2*j) hp h1 h2 x hx
 refine⟨cutP_perm hp h1 h2,fun x hx=>?_,fun x y hx hy e=>?_,fun g hg=>?_⟩
 ·rw [(hq hx).1]
  have h3:=h.fB x (by omega)
  by_cases e1:P x=2*j
  ·rw [if_pos e1,h.fB _ (by omega),tw_r,← h3,e1]
  ·rw [if_neg e1]
   by_cases e2:P x=2*j+1
   ·rw [if_pos e2,h.fB _ (by omega),tw_l,← h3,e2]
   ·rw [if_neg e2,h3]
 ·have hs:∀ x,x<2*j→skip (fun x=>P (tw x)) (2*j) x=cutP P (2*j) (tw x):=fun x hx=>by
   have aW:=hp.lt (tw x) (by have:=a1Q (m:=j) hx;omega);rw [(hq (a1Q hx)).1];unfold skip
   by_cases e1:P (tw x)=2*j
   ·simp only [e1,if_true,Nat.lt_irrefl,if_false,tw_l]
   ·by_cases e2:P (tw x)=2*j+1
    ·simp only [e2,if_true,if_false,tw_r,show ¬ 2*j+1<2*j by omega,show ¬ 2*j+1=2*j by omega]
    ·dsimp only
     rw [if_pos (by omega),if_neg e1,if_neg e2]
  have hl:∀ x,x<2*j→skip (fun x=>P (tw x)) (2*j) x<2*j:=fun x hx=>by rw [hs x hx];exact (hq (a1Q hx)).2
  have hm:=(skip_meet h.sig hl hx hy).2 (h.tr x y (by omega) (by omega) e);refine meet.lift (M:=2*j) hl (R:=meet fun x=>cutP P (2*j) (tw x)) (fun x _=>meet.refl _ x) (fun _ _ _ _=>meet.symm) (fun _ _ _ _ _ _=>meet.trans) (fun x hx=>?_) hx hy hm;rw [hs x hx];exact meet.step (fun x=>cutP P (2*j) (tw x)) x
 ·obtain⟨p,bB,bR⟩:=h.par (fun e=>decide (e<j) && g e) (fun v=>by
   have:=hg v;unfold degB at this ⊢;show xor (xsum _ j) ((decide (j<j) && g j) && _)=false;rw [decide_eq_false (Nat.lt_irrefl j)];rw [xsum_congr (g:=fun e=>g e && xor (decide (A e=v)) (decide (B e=v))) fun e he=>by dsimp only;rw [show decide (e<j)=true from decide_eq_true he,Bool.true_and],this]
   rfl)
  have hj:=bR j (by omega);rw [decide_eq_false (Nat.lt_irrefl j),Bool.false_and,Bool.xor_false] at hj;refine⟨p,fun x hx=>?_,fun e he=>by rw [bR e (by omega)];simp only [he,decide_true,Bool.true_and]⟩;rw [(hq hx).1];have h3:=bB x (by omega)
  by_cases e1:P x=2*j
  ·rw [if_pos e1,bB _ (by omega),hj,← h3,e1]
  ·rw [if_neg e1]
   by_cases e2:P x=2*j+1
   ·rw [if_pos e2,bB _ (by omega),← hj,← h3,e2]
   ·rw [if_neg e2,h3]
def isoP (A B:Nat→Nat) (j v:Nat):Prop:=∀ x,x<2*j→orgF A B x≠v
 omit h bJ in
theorem isoP_succ (v:Nat):isoP A B (j+1) v↔(isoP A B j v∧v≠A j)∧v≠B j:=by
  constructor
  ·intro hi
   refine⟨⟨fun x hx=>hi x (by omega),fun e=>hi (2*j) (by omega) (by rw [orgF_l,e])⟩,fun e=>hi (2*j+1) (by omega) (by rw [orgF_r,e])⟩
  ·rintro⟨⟨h1,h2⟩,h3⟩ x hx e
   by_cases aW:x<2*j
   ·exact h1 x aW e
   ·rcases (by omega:x=2*j∨x=2*j+1) with rfl|rfl
    ·rw [orgF_l] at e;exact h2 e.symm
    ·rw [orgF_r] at e;exact h3 e.symm
theorem Rot.isoA:isoP A B j (A j)↔P (2*j+1)=2*j:=by
 obtain⟨hp,h1,h2⟩:=h.ne bJ
 constructor
 ·intro hi
  have h3:=h.fB (2*j+1) (by omega);rw [tw_r,orgF_l] at h3;have h4:=hp.lt (2*j+1) (by omega);refine Classical.byContradiction fun e=>hi (P (2*j+1)) (by omega) h3
 ·intro e x hx e2
  refine fixed_new h.sig (x:=2*j) (by omega) (by simp only [tw_l,e]) x hx (h.tr _ _ (by omega) (by omega) (by rw [orgF_l,e2]))
theorem Rot.isoB:isoP A B j (B j)↔P (2*j)=2*j+1:=by
 obtain⟨hp,h1,h2⟩:=h.ne bJ
 constructor
 ·intro hi
  have h3:=h.fB (2*j) (by omega);rw [tw_l,orgF_r] at h3;have h4:=hp.lt (2*j) (by omega);refine Classical.byContradiction fun e=>hi (P (2*j)) (by omega) h3
 ·intro e x hx e2
  have hm:=h.tr (2*j+1) x (by omega) (by omega) (by rw [orgF_r,e2]);obtain⟨q,-,e3⟩:=h.sig.reach (by omega) (by omega) hm
  have:∀ q,fit (fun x=>P (tw x)) q (2*j+1)=2*j+1:=fun q=>by
   induction q with
   | zero=>rfl
   | succ q ih=>show P (tw (fit (fun x=>P (tw x)) q (2*j+1)))=_;rw [ih,tw_r,e]
  rw [this] at e3;omega
theorem Rot.iso {n:Nat} (ha:A j<n) (hb:B j<n):cntP (isoP A B j) n=cntP (isoP A B (j+1)) n+(if P (2*j)=2*j+1 then 1 else 0)+(if P (2*j+1)=2*j then 1 else 0):=by
 rw [cntP_congr (p:=isoP A B (j+1)) (q:=fun v=>(isoP A B j v∧v≠A j)∧v≠B j) fun v _=>isoP_succ v]
 have s1:cntP (isoP A B j) n=cntP (fun v=>isoP A B j v∧v≠A j) n+(if P (2*j+1)=2*j then 1 else 0):=by
  by_cases e:P (2*j+1)=2*j
  ·rw [if_pos e,cntP_less ((h.isoA bJ).2 e) (fun i=>Iff.rfl) n,if_pos ha]
  ·rw [if_neg e]
   exact cntP_congr fun v _=>⟨fun hv=>⟨hv,fun e2=>e ((h.isoA bJ).1 (e2 ▸ hv))⟩,fun hv=>hv.1⟩
 have s2:cntP (fun v=>isoP A B j v∧v≠A j) n=cntP (fun v=>(isoP A B j v∧v≠A j)∧v≠B j) n+(if P (2*j)=2*j+1 then 1 else 0):=by
  by_cases e:P (2*j)=2*j+1
  ·rw [if_pos e,cntP_less (p:=fun v=>isoP A B j v∧v≠A j) (k:=B j) ⟨(h.isoB bJ).2 e,fun e=>bJ e.symm⟩ (fun i=>Iff.rfl) n,if_pos hb]
  ·rw [if_neg e]
   exact cntP_congr fun v _=>⟨fun hv=>⟨hv,fun e2=>e ((h.isoB bJ).1 (e2 ▸ hv.1))⟩,fun hv=>hv.1⟩
 rw [s1,s2]
end
noncomputable def cmpN (E:List (Nat × Nat)) (j n:Nat):Nat:=cntP (fun v=>comp E j v=v) n
section
variable {E:List (Nat × Nat)} {A B:Nat→Nat} (hA:∀ e,A e=(nth (0,0) E e).1) (hB:∀ e,B e=(nth (0,0) E e).2)
 include hA hB
theorem compE_step (j u:Nat):comp E (j+1) u=if comp E j u=max (comp E j (A j)) (comp E j (B j)) then min (comp E j (A j)) (comp E j (B j)) else comp E j u:=by rw [hA,hB];rfl
theorem cmpN_same {j n:Nat} (e:comp E j (A j)=comp E j (B j)):cmpN E (j+1) n=cmpN E j n :=
 cntP_congr fun v _=>by
  rw [compE_step hA hB,e,Nat.max_self,Nat.min_self]
  by_cases h:comp E j v=comp E j (B j)
  ·rw [if_pos h,h]
  ·rw [if_neg h]
theorem cmpN_less {j n:Nat} (hj:j≤E.length) (ha:A j<n) (hb:B j<n) (e:comp E j (A j)≠comp E j (B j)):cmpN E j n=cmpN E (j+1) n+1:=by
 have ok:=aDL E j hj;have ia:=ok.idem (A j);have ib:=ok.idem (B j);have la:=ok.le (A j);have lb:=ok.le (B j);have hs:=compE_step (E:=E) hA hB j;generalize comp E j (A j)=a at *;generalize comp E j (B j)=b at *
 have hM:comp E j (max a b)=max a b:=by
  rcases Nat.le_total a b with h|h
  ·rw [Nat.max_eq_right h];exact ib
  ·rw [Nat.max_eq_left h];exact ia
 have hm:comp E j (min a b)=min a b:=by
  rcases Nat.le_total a b with h|h
  ·rw [Nat.min_eq_left h];exact ia
  ·rw [Nat.min_eq_right h];exact ib
 have:=cntP_less (p:=fun v=>comp E j v=v) (q:=fun v=>comp E (j+1) v=v) (k:=max a b) hM (fun v=>by
  rw [hs]
  constructor
  ·intro h1
   by_cases e1:comp E j v=max a b
   ·rw [if_pos e1] at h1
    rw [← h1,hm] at e1;omega
   ·rw [if_neg e1] at h1
    exact⟨h1,fun e2=>e1 (h1.trans e2)⟩
  ·rintro⟨h1,h2⟩
   rw [if_neg (by rw [h1];exact h2),h1]) n
 rw [if_pos (by omega)] at this;exact this
theorem euler_rot {n:Nat}:∀ {j:Nat} {P:Nat→Nat},j≤E.length→(∀ e,e<j→A e<n∧B e<n∧A e≠B e)→Rot A B j P→n+(clsN (meet P) (2*j)+cntP (isoP A B j) n)=2*cmpN E j n+j
 | 0,P,_,_,h=>by
  have e1:cntP (isoP A B 0) n=n:=cntP_all fun i _ x hx=>by omega
  have e2:cmpN E 0 n=n:=cntP_all fun i _=>rfl
  rw [e1,e2];show n+(0+n)=2*n+0;omega
 | j+1,P,hj,hE,h=>by
  obtain⟨ha,hb,bJ⟩:=hE j (by omega);obtain⟨hp,h1,h2⟩:=h.ne bJ;have hd:=h.down bJ;have ih:=euler_rot (j:=j) (P:=cutP P (2*j)) (by omega) (fun e he=>hE e (by omega)) hd;have hi:=h.iso bJ ha hb;rw [show 2*(j+1)=2*j+2 by omega]
  have hcomp:∀ x y,x<2*j→y<2*j→meet (cutP P (2*j)) x y→comp E j (orgF A B x)=comp E j (orgF A B y):=fun x y hx hy hm =>
   meet.lift (M:=2*j) hd.perm.lt (R:=fun x y=>comp E j (orgF A B x)=comp E j (orgF A B y)) (fun _ _=>rfl) (fun _ _ _ _=>Eq.symm) (fun _ _ _ _ _ _=>Eq.trans) (fun x hx=>by
    show _=comp E j (orgF A B (cutP P (2*j) x));rw [hd.fB x hx];have:=(aDL E j (by omega)).mw (x / 2) (by omega);rw [← hA,← hB] at this
    rcases Nat.mod_two_eq_zero_or_one x with e|e
    ·obtain⟨y,rfl⟩:∃ y,x=2*y:=⟨x / 2,by omega⟩
     rw [tw_l,orgF_l,orgF_r]
     rwa [show 2*y / 2=y by omega] at this
    ·obtain⟨y,rfl⟩:∃ y,x=2*y+1:=⟨x / 2,by omega⟩
     rw [tw_r,orgF_l,orgF_r];rw [show (2*y+1) / 2=y by omega] at this;exact this.symm) hx hy hm
  by_cases hm:meet P (2*j) (2*j+1)
  ·
   have hc:comp E j (A j)≠comp E j (B j):=fun e=>by
    obtain⟨g,g1,_,g2⟩:=close_path hA hB e;obtain⟨p,p1,p2⟩:=h.par g g2;have h3:=p2 j (by omega);have h4:p (2*j)=p (2*j+1):=meet.lift (M:=2*(j+1)) h.perm.lt (R:=fun x y=>p x=p y) (fun _ _=>rfl) (fun _ _ _ _=>Eq.symm) (fun _ _ _ _ _ _=>Eq.trans) (fun x hx=>(p1 x hx).symm) (by omega) (by omega) hm;rw [g1,← h4] at h3;cases hq:p (2*j) <;> rw [hq] at h3 <;> exact absurd h3 (by decide)
   have e1:=cut_one hp h1 h2 hm;have e2:=cmpN_less hA hB (n:=n) (by omega) ha hb hc;omega
  ·obtain⟨e1,l1,l2,pj⟩:=cut_apart hp h1 h2 hm
   have hc:comp E j (A j)=comp E j (B j):=by
    have:=hcomp _ _ l1 l2 pj;rw [h.fB _ (by omega),h.fB _ (by omega),tw_l,tw_r,orgF_l,orgF_r] at this;exact this.symm
   have e2:=cmpN_same hA hB (n:=n) hc;rw [if_neg (by omega),if_neg (by omega)] at hi;omega
end
structure Plan (p:Nat→Pt) (A B:Nat→Nat) (m n:Nat):Prop where
 rV:∀ u v,u<v→v<n→(p u).lt (p v)
 ab:∀ e,e<m→A e<B e∧B e<n
 inj:∀ e f,e<m→f<m→A e=A f→B e=B f→e=f
 free:∀ e u,e<m→A e<u→u<B e→bT (p (A e)) (p (B e)) (p u)≠0
 side:∀ e f x y,e<m→f<m→cj ⟨p (A f),p (B f)⟩ x→cj ⟨p (A f),p (B f)⟩ y→(p (A e)).lt x→x.lt (p (B e))→(p (A e)).lt y→y.lt (p (B e))→bT (p (A e)) (p (B e)) x<0→0<bT (p (A e)) (p (B e)) y→False
section
variable (p:Nat→Pt) (A B:Nat→Nat)
def belV (f u:Nat):Bool:=decide (A f<u∧u<B f∧0<bT (p (A f)) (p (B f)) (p u))
def undE (e u:Nat):Bool:=decide (A e<u∧u<B e∧bT (p (A e)) (p (B e)) (p u)<0)
def belA (e f:Nat):Bool:=belV p A B f (A e) || decide (A f=A e∧(f=e∨0<bT (p (A e)) (p (B f)) (p (B e))))
def belB (e f:Nat):Bool:=belV p A B f (B e) || decide (B f=B e∧(f=e∨0<bT (p (B e)) (p (A e)) (p (A f))))
end
theorem dec_iff {a b:Prop} [Decidable a] [Decidable b] (h:a↔b):decide a=decide b:=decide_eq_decide.2 h
theorem area_turn (a b c:Pt):bT b c a=bT a b c∧bT a c b = -bT a b c∧bT b a c = -bT a b c:=by unfold bT;refine⟨?_,?_,?_⟩ <;> grind
section
variable {p:Nat→Pt} {A B:Nat→Nat} {m n:Nat} (h:Plan p A B m n)
theorem belV_no {f u:Nat} (hf:u≤A f∨B f≤u):belV p A B f u=false:=by unfold belV;exact decide_eq_false fun h=>by omega
theorem undE_no {f u:Nat} (hf:u≤A f∨B f≤u):undE p A B f u=false:=by unfold undE;exact decide_eq_false fun h=>by omega
theorem belV_in {f u:Nat} (h1:A f<u) (h2:u<B f):belV p A B f u=decide (0<bT (p (A f)) (p (B f)) (p u)):=by
 unfold belV;rw [Bool.eq_iff_iff];simp [h1,h2]
theorem undE_in {f u:Nat} (h1:A f<u) (h2:u<B f):undE p A B f u=decide (bT (p (A f)) (p (B f)) (p u)<0):=by
 unfold undE;rw [Bool.eq_iff_iff];simp [h1,h2]
theorem belA_no {e f:Nat} (hf:A f≠A e):belA p A B e f=belV p A B f (A e):=by
 unfold belA;rw [decide_eq_false fun h=>hf h.1,Bool.or_false]
theorem belB_no {e f:Nat} (hf:B f≠B e):belB p A B e f=belV p A B f (B e):=by
 unfold belB;rw [decide_eq_false fun h=>hf h.1,Bool.or_false]
theorem belA_eq {e f:Nat} (hf:A f=A e) (bJ:f≠e):belA p A B e f=decide (0<bT (p (A e)) (p (B f)) (p (B e))):=by
 unfold belA;rw [belV_no (.inl (by omega)),Bool.false_or,Bool.eq_iff_iff];simp [hf,bJ]
theorem belB_eq {e f:Nat} (hf:B f=B e) (bJ:f≠e):belB p A B e f=decide (0<bT (p (B e)) (p (A e)) (p (A f))):=by
 unfold belB;rw [belV_no (.inr (by omega)),Bool.false_or,Bool.eq_iff_iff];simp [hf,bJ]
 include h
theorem Plan.same {e f:Nat} (he:e<m) (hf:f<m) (u v:Nat) (hu:u=A f∨u=B f) (hv:v=A f∨v=B f) (u1:A e<u) (u2:u<B e) (v1:A e<v) (v2:v<B e):0<bT (p (A e)) (p (B e)) (p u)↔0<bT (p (A e)) (p (B e)) (p v):=by
 obtain⟨_,hb⟩:=h.ab e he
 have on:∀ w,w=A f∨w=B f→cj ⟨p (A f),p (B f)⟩ (p w):=fun w hw=>by
  rcases hw with rfl|rfl
  ·exact (on_ends _ _).1
  ·exact (on_ends _ _).2
 have key:∀ u v,u=A f∨u=B f→v=A f∨v=B f→A e<u→u<B e→A e<v→v<B e→0<bT (p (A e)) (p (B e)) (p u)→0<bT (p (A e)) (p (B e)) (p v):=fun u v hu hv u1 u2 v1 v2 h1=>by
  refine Classical.byContradiction fun h2=>?_
  have h3:=h.free e v he v1 v2;exact h.side e f (p v) (p u) he hf (on v hv) (on u hu) (h.rV _ _ v1 (by omega)) (h.rV _ _ v2 hb) (h.rV _ _ u1 (by omega)) (h.rV _ _ u2 hb) (by grind) h1
 exact⟨key u v hu hv u1 u2 v1 v2,key v u hv hu v1 v2 u1 u2⟩
theorem Plan.cross {e f:Nat} (he:e<m) (hf:f<m) (h1:A e<A f) (h2:A f<B e) (h3:B e<B f):0<bT (p (A f)) (p (B f)) (p (B e))↔bT (p (A e)) (p (B e)) (p (A f))<0:=by
 obtain⟨_,hb⟩:=h.ab f hf;exact span_cross (h.rV _ _ h1 (by omega)) (h.rV _ _ h2 (by omega)) (h.rV _ _ h3 hb) (h.free f _ hf h2 h3) (h.free e _ he h1 h2) (fun x y hx hy=>h.side f e x y hf he hx hy) (fun x y hx hy=>h.side e f x y he hf hx hy)
theorem Plan.edge_xor {e f:Nat} (he:e<m) (hf:f<m):xor (belA p A B e f) (belB p A B e f)=xor (undE p A B e (A f)) (undE p A B e (B f)):=by
 obtain⟨e1,e2⟩:=h.ab e he;obtain⟨f1,f2⟩:=h.ab f hf
 by_cases hef:f=e
 ·subst hef
  rw [undE_no (.inl (Nat.le_refl _)),undE_no (.inr (Nat.le_refl _))];unfold belA belB;simp
 have jM:=h.inj f e hf he
 by_cases c1:B f≤A e∨B e≤A f
 ·rw [belA_no (by omega),belB_no (by omega),belV_no (by omega),belV_no (by omega),undE_no (by omega),undE_no (by omega)]
 rcases Nat.lt_or_ge (A e) (A f) with ca|ca <;> rcases Nat.lt_or_ge (B f) (B e) with cb|cb
 ·
  rw [belA_no (by omega),belB_no (by omega),belV_no (by omega),belV_no (by omega),undE_in ca (by omega),undE_in (by omega) cb];have:=h.same he hf (A f) (B f) (.inl rfl) (.inr rfl) ca (by omega) (by omega) cb;have n1:=h.free e (A f) he ca (by omega);have n2:=h.free e (B f) he (by omega) cb;have:bT (p (A e)) (p (B e)) (p (A f))<0↔bT (p (A e)) (p (B e)) (p (B f))<0:=by grind
  rw [dec_iff this];simp
 ·
  rw [belA_no (by omega),belV_no (f:=f) (u:=A e) (by omega),undE_in ca (by omega),undE_no (.inr cb)]
  rcases Nat.lt_or_ge (B e) (B f) with cc|cc
  ·rw [belB_no (by omega),belV_in (by omega) cc,dec_iff (h.cross he hf ca (by omega) cc)];simp
  ·rw [belB_eq (by omega) hef]
   have:=(area_turn (p (A e)) (p (B e)) (p (A f))).2.2;have:0<bT (p (B e)) (p (A e)) (p (A f))↔bT (p (A e)) (p (B e)) (p (A f))<0:=by grind
   rw [dec_iff this];simp
 ·
  rw [belB_no (by omega),belV_no (f:=f) (u:=B e) (by omega),undE_in (by omega) cb,undE_no (.inl ca)]
  rcases Nat.lt_or_ge (A f) (A e) with cc|cc
  ·rw [belA_no (by omega),belV_in cc (by omega)]
   have h1:=h.cross hf he cc (by omega) cb;have n1:=h.free f (A e) hf cc (by omega);have n2:=h.free e (B f) he (by omega) cb;have:0<bT (p (A f)) (p (B f)) (p (A e))↔bT (p (A e)) (p (B e)) (p (B f))<0:=by grind
   rw [dec_iff this];simp
  ·rw [belA_eq (by omega) hef]
   have:=(area_turn (p (A e)) (p (B e)) (p (B f))).2.1;have:0<bT (p (A e)) (p (B f)) (p (B e))↔bT (p (A e)) (p (B e)) (p (B f))<0:=by grind
   rw [dec_iff this];simp
 ·
  rw [undE_no (.inl ca),undE_no (.inr cb)]
  have key:belA p A B e f=belB p A B e f:=by
   rcases Nat.lt_or_ge (A f) (A e) with ka|ka <;> rcases Nat.lt_or_ge (B e) (B f) with kb|kb
   ·rw [belA_no (by omega),belB_no (by omega),belV_in ka (by omega),belV_in (by omega) kb]
    exact dec_iff (h.same hf he (A e) (B e) (.inl rfl) (.inr rfl) ka (by omega) (by omega) kb)
   ·rw [belA_no (by omega),belV_in ka (by omega),belB_eq (by omega) hef,show B f=B e by omega]
    rw [(area_turn (p (B e)) (p (A e)) (p (A f))).1.symm,(area_turn (p (A e)) (p (A f)) (p (B e))).1.symm]
   ·rw [belB_no (by omega),belV_in (by omega) kb,belA_eq (by omega) hef,show A f=A e by omega]
   ·exact absurd (jM (by omega) (by omega)) hef
  rw [key];simp
theorem Plan.along {g:Nat→Bool} (hg:∀ v,degB A B g m v=false) {e:Nat} (he:e<m):xsum (fun f=>g f && belA p A B e f) m=xsum (fun f=>g f && belB p A B e f) m:=by
 have h1:xor (xsum (fun f=>g f && belA p A B e f) m) (xsum (fun f=>g f && belB p A B e f) m)=false:=by
  rw [← xsum_xor,← even_sum (A:=A) (B:=B) (n:=n) (fun f hf=>by have:=h.ab f hf;omega) (fun f hf=>(h.ab f hf).2) hg (undE p A B e)];refine xsum_congr fun f hf=>?_
  rw [← h.edge_xor he hf];cases g f <;> simp
 generalize xsum (fun f=>g f && belA p A B e f) m=x at *;generalize xsum (fun f=>g f && belB p A B e f) m=y at *;cases x <;> cases y <;> first|rfl|exact absurd h1 (by decide)
end
end Go.Hp
