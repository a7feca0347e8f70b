/- Of M15. -/
import Derived.Test.YtjeofihncbegfaaGreatQ44
set_option maxRecDepth 100000
set_option maxHeartbeats 16000000
set_option linter.unusedVariables false
set_option linter.unusedSimpArgs false
namespace Go.Hp
open Go.Proofs.Tryz
open Go Go.RowKit
structure NS (w:World) (S:Nat→Prop) (os:List Sz) (gs:List Gp) (ao:Option Addr) (co:Nat) (ap:Option Addr) (cp:Nat) (av:Option Addr) (nv cv:Nat) (V:List P3):Prop where
 v:SlC w S 4 (.slice ao os.length co) os.length (os.flatMap sc)
 g:SlC w S 2 (.slice ap gs.length cp) gs.length (gs.flatMap gc)
 vs:SlC w S 3 (.slice av nv cv) V.length (V.flatMap tc)
theorem NS.at {w0 w wr:World} {H:List Chunk} {F S:Nat→Prop} {os:List Sz} {gs:List Gp} {ao:Option Addr} {co:Nat} {ap:Option Addr} {cp:Nat} {av:Option Addr} {nv cv:Nat} {V:List P3} (h:NS wr S os gs ao co ap cp av nv cv V) (hS:Heap w0 w (.frz F wr::H)) (hF:∀ k,S k→F k):NS w S os gs ao co ap cp av nv cv V:=⟨h.v.move (hS.keep hF),h.g.move (hS.keep hF),h.vs.move (hS.keep hF)⟩
theorem NS.grow {w w':World} {S S':Nat→Prop} {os:List Sz} {gs:List Gp} {ao:Option Addr} {co:Nat} {ap:Option Addr} {cp:Nat} {av:Option Addr} {nv cv:Nat} {V:List P3} (h:NS w S os gs ao co ap cp av nv cv V) (hp:Pure w S w' S'):NS w' S' os gs ao co ap cp av nv cv V:=⟨h.v.grow hp,h.g.grow hp,h.vs.grow hp⟩
theorem NS.mono {w:World} {S T:Nat→Prop} {os:List Sz} {gs:List Gp} {ao:Option Addr} {co:Nat} {ap:Option Addr} {cp:Nat} {av:Option Addr} {nv cv:Nat} {V:List P3} (h:NS w S os gs ao co ap cp av nv cv V) (hs:∀ k,S k→T k):NS w T os gs ao co ap cp av nv cv V:=⟨h.v.weaken hs,h.g.weaken hs,h.vs.weaken hs⟩
theorem Heap.rest_of {w0 w:World} {A B:List Chunk} (h:Heap w0 w (A++B)) {c:Chunk} (hc:c ∈ A) {k:Nat} (hk:c.has k):Rest w B k :=
 ⟨Chunk.lt (h.ok c (List.mem_append_left _ hc)) hk,fun d hd hdk=>(List.pairwise_append.1 h.apart).2.2 c hc d hd k hk hdk⟩
theorem Heap.mergeBG {w0 w wr:World} {F G:Nat→Prop} {bl:Nat} {o:Obj} {c1 c2 c3:Chunk} (hS:Heap w0 w [.frz F wr,c1,c2,.blk bl o,.frz G w,c3]):∃ F1:Nat→Prop,Heap w0 w [.frz F1 w,c1,c2,c3]∧(∀ k,F k→F1 k)∧F1 bl∧∀ k,G k→F1 k:=by
 have h1:=(hS.freeze 3 rfl).order [0,3,4,1,2,5] rfl;simp only [List.set_cons_succ,List.set_cons_zero,List.filterMap_cons,List.getElem?_cons_zero,List.getElem?_cons_succ,List.filterMap_nil] at h1;exact⟨_,h1.join.join,fun k h=>.inl (.inl h),.inl (.inr rfl),fun k h=>.inr h⟩
def VM (V:List P3) (Q:Pt→Prop):Prop:=TL V∧∀ p,p ∈ V.map P3.pt↔Q p
theorem VM.put {V V':List P3} {Q:Pt→Prop} {x:P3} (h:VM V Q) (h1:TL V') (h2:∀ y,y ∈ V'↔y ∈ V∨y=x):VM V' (fun p=>Q p∨p=x.pt):=by
 refine⟨h1,fun p=>?_⟩;show p ∈ V'.map P3.pt↔(Q p∨p=x.pt);rw [← h.2 p,List.mem_map,List.mem_map]
 constructor
 ·rintro⟨y,hy,rfl⟩
  rcases (h2 y).1 hy with h|rfl
  ·exact .inl ⟨y,h,rfl⟩
  ·exact .inr rfl
 ·rintro (⟨y,hy,rfl⟩|rfl)
  ·exact⟨y,(h2 y).2 (.inl hy),rfl⟩
  ·exact⟨x,(h2 x).2 (.inr rfl),rfl⟩
theorem VM.cast {V:List P3} {Q Q':Pt→Prop} (h:VM V Q) (e:∀ p,Q p↔Q' p):VM V Q':=⟨h.1,fun p=>(h.2 p).trans (e p)⟩
theorem gp_of (g:Gp):(⟨g.x,g.y,1⟩:P3).pt=g.pt:=P3.of_pt g.x g.y
theorem gp_ok {g:Gp} (h:g.sm):(⟨g.x,g.y,1⟩:P3).ok∧(⟨g.x,g.y,1⟩:P3).bd:=⟨P3.of_ok g.x g.y,P3.of_bd h.1 h.2⟩
end Go.Hp
namespace Go.Proofs
open Go.Proofs.Tryz
open Go.RowKit Go.Hp
theorem new08_any (os:List Sz) (gs:List Gp) (ao ap:Option Addr) (co cp:Nat) (w:World) (S:Nat→Prop) (hL:Liv w S) (hos:∀ t ∈ os,t.ok∧t.sm) (hgs:∀ g ∈ gs,g.ok∧g.sm) (hv:SlC w S 4 (.slice ao os.length co) os.length (os.flatMap sc)) (hg:SlC w S 2 (.slice ap gs.length cp) gs.length (gs.flatMap gc)) (hlo:os.length≤24) (hlg:gs.length≤4) :
 Calls Tryz.prog 40 #[.slice ao os.length co,.slice ap gs.length cp] w fun e w'=>∃ (av ae:Option Addr) (nv cv ce:Nat) (V:List P3) (rs:List ER) (S':Nat→Prop),e=.returned (.tuple #[.agg #[.slice ao os.length co,.slice ap gs.length cp,.slice av nv cv,.slice ae rs.length ce],.int .i64 0])∧Pure w S w' S'∧nv=V.length∧SlC w' S' 5 (.slice ae rs.length ce) rs.length (rs.flatMap ec)∧Arr0 (os.map Sz.sg) (gs.map Gp.pt) (V.map P3.pt) (rs.map ER.k):=by
 have ck:=fun w' S h1 h2=>check08_any os gs ao ap os.length co gs.length cp w' S (fun t h=>(hos t h).1) (fun g h=>(hgs g h).1) h1 h2 (by omega) (by omega)
 obtain⟨hS,hF0,hO0,hp0⟩:=st0 hL
 go_enter func40,ntmps40
 go_wp2_with (with_reducible refine alA hS zeroValue32 fun b4 wb4 hS=>?_)
 refine (ck _ S (hv.move (hS.keep hF0)) (hg.move (hS.keep hF0))).mono ?_;rintro e w' ⟨rfl,hq⟩;have hS:=hS.below hq.below hq.drawn;simp only [];have hns:NS w S os gs ao co ap cp none 0 0 []:=⟨hv,hg,SlC.nil _ _ _⟩;have hvm:VM [] (fun p=>p ∈ (gs.take 0).map Gp.pt):=⟨TL.nil,fun p=>by simp⟩;replace hvm:=Hd hvm;clear ck hv hg
 go_wp2_with (with_reducible first|refine alA hS zeroValue32 fun b7 wb7 hS=>?_|refine stA 2 hS sizeOf32 fun _ hS=>?_)
 go_loopw [8] (fun v wr=>∃ (k:Nat) (F S':Nat→Prop) (wq:World) (av:Option Addr) (nv cv:Nat) (V:List P3),k≤gs.length∧v=.int .i64 (k:Int)∧Heap w wr [.frz F wq,.blk b4 (.cells #[.slice none 0 0,.slice none 0 0,.slice none 0 0,.slice none 0 0] 32 (0,0)),.blk b7 (.cells #[.slice ao os.length co,.slice ap gs.length cp,.slice av nv cv,.slice none 0 0] 32 (0,0))]∧(∀ k,S' k→F k)∧(∀ k,Old w k→F k)∧Pure w S wq S'∧Liv wq S'∧NS wq S' os gs ao co ap cp av nv cv V∧Hid (VM V (fun p=>p ∈ (gs.take k).map Gp.pt))∧V.length≤k) (fun v _=>gs.length - (intOf v).toNat)
 case atStart=>exact⟨0,_,S,w,none,0,0,[],by omega,rfl,hS,hF0,hO0,hp0,hL,hns,hvm,by simp⟩
 case round =>
  clear hS hF0 hO0 hp0 hns hvm;obtain⟨k,F0,S0,wq,av,nv,cv,V,hk,rfl,hS,hF0,hO0,hp0,hL0,hns,hvm,hVl⟩:=hrel
  by_cases hkl:k<gs.length
  ·obtain⟨g,hgt⟩:∃ g,nth g0 gs k=g:=⟨_,rfl⟩
   have hc:=flat_cell gc_len g0 hkl;rw [hgt] at hc;obtain⟨hgo,hgm⟩:=hgs g (by rw [← hgt];exact nth_mem g0 gs k hkl);obtain⟨po,pb⟩:=gp_ok hgm;have hpt:=gp_of g
   have htk:∀ p,(p ∈ (gs.take k).map Gp.pt∨p=(⟨g.x,g.y,1⟩:P3).pt)↔p ∈ (gs.take (k+1)).map Gp.pt:=fun p=>by
    rw [take_snoc g0 gs k hkl,hgt,hpt];simp
   have hgF:=hns.g.weaken hF0;replace htk:=Hd htk;replace hgt:=Hd hgt;replace hpt:=Hd hpt;replace po:=Hd po;replace pb:=Hd pb;clear hgo hgm;go_wp2;refine rg0 [.p 0,.r 1,.p 2,.p 3,.p 4,.r 5,.e 6,.e 7,.p 8,.m 9] [9] hS fun w1 hS=>?_
   obtain⟨hsC,hkC⟩:=hS.cstart
   repeat (with_reducible first|refine sldB 2 isAgg29 ?_|refine sixE underlying24 sizeOf51 hgF hc fun bq oq hcellq=>?_|refine sldG isAgg51 sizeOf51 ?_|refine spL ?_)
   refine exL ?_
   go_wp2_with (fail)
   refine (of05_any g.x g.y _).mono ?_;rintro e w' ⟨rfl,hq⟩;simp only [];go_step;have hS:=hS.below hq.below hq.drawn;refine ext_end hS.sb ?_;refine mvs ?_;refine exL ?_
   go_wp2_with (fail)
   refine (put08_any av nv cv V ⟨g.x,g.y,1⟩ _ S0 (Liv.at hS hF0) (hns.at hS hF0).vs hvm.out.1 ⟨po.out,pb.out⟩ (by omega)).mono ?_;rintro e w' ⟨av2,nv2,cv2,V2,S1,rfl,hq,hv2,ht2,hm2,hl2⟩;simp only [];go_step;have hL1:=hq.liv (Liv.at hS hF0);have hns2:NS w' S1 os gs ao co ap cp av2 nv2 cv2 V2:=⟨((hns.at hS hF0).v.grow hq),((hns.at hS hF0).g.grow hq),hv2⟩;have hvm2:=(hvm.out.put ht2 hm2).cast htk.out;replace hvm2:=Hd hvm2;clear hv2 ht2 hm2;have hkC:=Heap.keepC hS hq.below hsC hkC;replace hS:=hS.pcl hF0 hO0 hp0 hq;obtain⟨F1,hF1,hOO1,hp1,hO1,hS⟩:=hS;have hsC:=SubC.trans hsC hOO1;refine ext_end (Heap.toC hS.sb hsC hkC) ?_;refine mvs ?_;refine muL ?_
   (with_reducible refine stA 2 hS sizeOf29 fun _ hS=>?_)
   refine mut_end ?_;refine snL ?_;go_wp2;go_roundw
   case rel=>exact⟨k+1,F1,S1,w',av2,nv2,cv2,V2,by omega,by simp,hS,hF1,hO1,hp1,hL1,hns2,hvm2,by omega⟩
   case measure=>simp [intOf];omega
  ·obtain rfl:gs.length=k:=by omega
   have hvm2:VM V (vP os gs 0):=hvm.out.cast (fun p=>by
    unfold vP;rw [List.take_length];refine⟨.inl,fun h=>?_⟩
    rcases h with h|⟨j,h,_⟩|⟨j,m,_,h,_⟩
    ·exact h
    ·omega
    ·omega)
   replace hvm2:=Hd hvm2;clear hvm
   go_wp2_with (fail)
   go_loopw [9] (fun v9 wr=>∃ (i:Nat) (F S':Nat→Prop) (wq:World) (av:Option Addr) (nv cv:Nat) (V:List P3),i≤os.length∧v9=.int .i64 (i:Int)∧Heap w wr [.frz F wq,.blk b4 (.cells #[.slice none 0 0,.slice none 0 0,.slice none 0 0,.slice none 0 0] 32 (0,0)),.blk b7 (.cells #[.slice ao os.length co,.slice ap gs.length cp,.slice av nv cv,.slice none 0 0] 32 (0,0))]∧(∀ k,S' k→F k)∧(∀ k,Old w k→F k)∧Pure w S wq S'∧Liv wq S'∧NS wq S' os gs ao co ap cp av nv cv V∧Hid (VM V (vP os gs i))∧V.length≤gs.length+i*100) (fun v9 _=>os.length - (intOf v9).toNat)
   case atStart=>exact⟨0,F0,S0,wq,av,nv,cv,V,by omega,rfl,hS,hF0,hO0,hp0,hL0,hns,hvm2,by omega⟩
   case round =>
    clear hS hF0 hO0 hp0 hL0 hns hvm2 hVl;obtain⟨i,F0,S0,wq,av,nv,cv,V,hi,rfl,hS,hF0,hO0,hp0,hL0,hns,hvm,hVl⟩:=hrel
    by_cases hil:i<os.length
    ·obtain⟨t,ht⟩:∃ t,nth s0 os i=t:=⟨_,rfl⟩
     have hc:=flat_cell sc_len s0 hil;rw [ht] at hc;obtain⟨hto,htm⟩:=hos t (by rw [← ht];exact nth_mem s0 os i hil);have hsg:sgAt os i=t.sg:=by unfold sgAt;rw [ht]
     obtain⟨pa,qa⟩:=gp_ok htm.1;obtain⟨pb,qb⟩:=gp_ok htm.2;have hpa:=gp_of t.a;have hpb:=gp_of t.b;have hvo:=hns.v.weaken hF0;replace ht:=Hd ht;replace hpa:=Hd hpa;replace hpb:=Hd hpb;replace pa:=Hd pa;replace pb:=Hd pb;replace qa:=Hd qa;replace qb:=Hd qb;replace htm:=Hd htm;replace hsg:=Hd hsg;clear hto;go_wp2;refine rg0 [.p 0,.r 1,.p 2,.p 3,.p 4,.p 5,.r 6,.p 9,.p 10,.p 11,.p 12,.r 13,.e 7,.e 8,.e 14,.e 15,.p 16,.m 17] [17] hS fun w1 hS=>?_
     obtain⟨hsC,hkC⟩:=hS.cstart
     repeat (first|(with_reducible refine sldB 2 isAgg29 ?_)|((with_reducible refine sixE underlying23 sizeOf121 hvo hc fun bq oq hcellq=>?_);have hq1:CellsAt _ _ ⟨bq,oq,none⟩ [.int .i64 t.a.x,.int .i64 t.a.y]:=hcellq.part 0 2;have hq2:CellsAt _ _ ⟨bq,oq+2,none⟩ [.int .i64 t.b.x,.int .i64 t.b.y]:=hcellq.part 2 2)|(with_reducible first|refine sldG isAgg51 sizeOf51 ?_|refine spL ?_))
     refine exL ?_
     go_wp2_with (fail)
     refine (of05_any t.a.x t.a.y _).mono ?_;rintro e w' ⟨rfl,hq⟩;simp only [];go_step;have hS:=hS.below hq.below hq.drawn;refine ext_end hS.sb ?_;refine mvs ?_;refine exL ?_
     go_wp2_with (fail)
     refine (put08_any av nv cv V ⟨t.a.x,t.a.y,1⟩ _ S0 (Liv.at hS hF0) (hns.at hS hF0).vs hvm.out.1 ⟨pa.out,qa.out⟩ (by omega)).mono ?_;rintro e w' ⟨av2,nv2,cv2,V2,S1,rfl,hq,hv2,ht2,hm2,hl2⟩;simp only [];go_step;have hL1:=hq.liv (Liv.at hS hF0);have hns2:NS w' S1 os gs ao co ap cp av2 nv2 cv2 V2:=⟨((hns.at hS hF0).v.grow hq),((hns.at hS hF0).g.grow hq),hv2⟩;have hvm2:=hvm.out.put ht2 hm2;replace hvm2:=Hd hvm2;clear hv2 ht2 hm2;have hkC:=Heap.keepC hS hq.below hsC hkC;replace hS:=hS.pcl hF0 hO0 hp0 hq;obtain⟨F1,hF1,hOO1,hp1,hO1,hS⟩:=hS;have hsC:=SubC.trans hsC hOO1;refine ext_end (Heap.toC hS.sb hsC hkC) ?_;refine mvs ?_;refine exL ?_
     go_wp2_with (fail)
     refine (of05_any t.b.x t.b.y _).mono ?_;rintro e w' ⟨rfl,hq⟩;simp only [];go_step;have hS:=hS.below hq.below hq.drawn;refine ext_end (Heap.toC hS.sb hsC hkC) ?_;refine mvs ?_;refine exL ?_
     go_wp2_with (fail)
     refine (put08_any av2 nv2 cv2 V2 ⟨t.b.x,t.b.y,1⟩ _ S1 (Liv.at hS hF1) (hns2.at hS hF1).vs hvm2.out.1 ⟨pb.out,qb.out⟩ (by omega)).mono ?_;rintro e w' ⟨av3,nv3,cv3,V3,S2,rfl,hq,hv2,ht2,hm2,hl3⟩;simp only [];go_step;have hL2:=hq.liv (Liv.at hS hF1);have hns3:NS w' S2 os gs ao co ap cp av3 nv3 cv3 V3:=⟨((hns2.at hS hF1).v.grow hq),((hns2.at hS hF1).g.grow hq),hv2⟩
     have hvm3:VM V3 (vQ os gs i 0):=(hvm2.out.put ht2 hm2).cast (fun p=>by
      unfold vQ;rw [hpa.out,hpb.out,hsg.out]
      constructor
      ·rintro ((h|h)|h)
       ·exact .inl h
       ·exact .inr (.inl (.inl h))
       ·exact .inr (.inl (.inr h))
      ·rintro (h|(h|h)|⟨m,hm,_⟩)
       ·exact .inl (.inl h)
       ·exact .inl (.inr h)
       ·exact .inr h
       ·omega)
     replace hvm3:=Hd hvm3;clear hv2 ht2 hm2;have hkC:=Heap.keepC hS hq.below hsC hkC;replace hS:=hS.pcl hF1 hO1 hp1 hq;obtain⟨F2,hF2,hOO2,hp2,hO2,hS⟩:=hS;have hsC:=SubC.trans hsC hOO2;refine ext_end (Heap.toC hS.sb hsC hkC) ?_;refine mvs ?_;refine muL ?_
     (with_reducible refine stA 2 hS sizeOf29 fun _ hS=>?_)
     refine mut_end ?_;refine snL ?_;clear hsC hkC hvo hc hq1 hq2 hcellq;have hV3l:V3.length≤gs.length+i*100+2:=by omega
     clear hl2 hl3 hns2 hvm2 hns hvm hF0 hO0 hp0 hL0 hF1 hO1 hp1 hL1
     go_wp2_with (fail)
     go_loopw [10] (fun v10 wr=>∃ (k:Nat) (F S':Nat→Prop) (wq:World) (av:Option Addr) (nv cv:Nat) (V:List P3),k≤i∧v10=.int .i64 (k:Int)∧Heap w wr [.frz F wq,.blk b4 (.cells #[.slice none 0 0,.slice none 0 0,.slice none 0 0,.slice none 0 0] 32 (0,0)),.blk b7 (.cells #[.slice ao os.length co,.slice ap gs.length cp,.slice av nv cv,.slice none 0 0] 32 (0,0))]∧(∀ k,S' k→F k)∧(∀ k,Old w k→F k)∧Pure w S wq S'∧Liv wq S'∧NS wq S' os gs ao co ap cp av nv cv V∧Hid (VM V (vQ os gs i k))∧V.length≤gs.length+i*100+2+4*k) (fun v10 _=>i - (intOf v10).toNat)
     case atStart=>exact⟨0,F2,S2,w',av3,nv3,cv3,V3,by omega,rfl,hS,hF2,hO2,hp2,hL2,hns3,hvm3,by omega⟩
     case round =>
      clear hS hF2 hO2 hp2 hL2 hns3 hvm3 hV3l;obtain⟨k,F0,S0,wq,av,nv,cv,V,hk,rfl,hS,hF0,hO0,hp0,hL0,hns,hvm,hVl⟩:=hrel
      by_cases hki:k<i
      ·obtain⟨u,hu⟩:∃ u,nth s0 os k=u:=⟨_,rfl⟩
       have hil2:k<os.length:=by omega
       have hc:=flat_cell sc_len s0 hil;have hd:=flat_cell sc_len s0 hil2;rw [ht.out] at hc;rw [hu] at hd;obtain⟨hto2,htm2⟩:=hos u (by rw [← hu];exact nth_mem s0 os k hil2);have hsg2:sgAt os k=u.sg:=by unfold sgAt;rw [hu]
       have hvo:=hns.v.weaken hF0;replace hu:=Hd hu;replace hsg2:=Hd hsg2;replace htm2:=Hd htm2;clear hto2;go_wp2;refine rg0 [.p 0,.p 1,.p 2,.r 3,.p 4,.p 5,.p 6,.r 7,.e 8,.p 9] [] hS fun w1 hS=>?_
       obtain⟨hsC,hkC⟩:=hS.cstart
       repeat (with_reducible first|refine sixE underlying23 sizeOf121 hvo hc fun bq oq hcellq=>?_|refine sixE underlying23 sizeOf121 hvo hd fun bq oq hcellq=>?_|refine sldG isAgg121 sizeOf121 ?_|refine spL ?_)
       refine exL ?_
       go_wp2_with (fail)
       refine (cuts08_any t u _ S0 (Liv.at hS hF0) htm.out htm2.out).mono ?_;rintro e w' ⟨al,nl,cl,l,S1,rfl,hq,hv2,ht2,hm2,hl2⟩;simp only [];go_step;have hL1:=hq.liv (Liv.at hS hF0);have hns2:NS w' S1 os gs ao co ap cp av nv cv V:=(hns.at hS hF0).grow hq;obtain rfl:nl=l.length:=by obtain⟨h1,a,cap,h2,_⟩:=hv2;cases h2;rfl
       replace ht2:=Hd ht2;replace hm2:=Hd hm2;have hkC:=Heap.keepC hS hq.below hsC hkC;replace hS:=hS.pcl hF0 hO0 hp0 hq;obtain⟨F1,hF1,hOO1,hp1,hO1,hS⟩:=hS;have hsC:=SubC.trans hsC hOO1;refine ext_end (Heap.toC hS.sb hsC hkC) ?_;refine mvs ?_;refine snL ?_;clear hsC hkC hvo hc hd hns hF0 hO0 hp0 hL0;have hvm2:VM V (fun p=>vQ os gs i k p∨p ∈ (l.take 0).map P3.pt):=hvm.out.cast (fun p=>by simp);replace hvm2:=Hd hvm2;clear hvm
       go_wp2_with (fail)
       go_loopw [12] (fun v12 wr=>∃ (j:Nat) (F S':Nat→Prop) (wq:World) (av:Option Addr) (nv cv:Nat) (V:List P3),j≤l.length∧v12=.int .i64 (j:Int)∧Heap w wr [.frz F wq,.blk b4 (.cells #[.slice none 0 0,.slice none 0 0,.slice none 0 0,.slice none 0 0] 32 (0,0)),.blk b7 (.cells #[.slice ao os.length co,.slice ap gs.length cp,.slice av nv cv,.slice none 0 0] 32 (0,0))]∧(∀ k,S' k→F k)∧(∀ k,Old w k→F k)∧Pure w S wq S'∧Liv wq S'∧NS wq S' os gs ao co ap cp av nv cv V∧SlC wq S' 3 (.slice al l.length cl) l.length (l.flatMap tc)∧Hid (VM V (fun p=>vQ os gs i k p∨p ∈ (l.take j).map P3.pt))∧V.length≤gs.length+i*100+2+4*k+j) (fun v12 _=>l.length - (intOf v12).toNat)
       case atStart=>exact⟨0,F1,S1,w',av,nv,cv,V,by omega,rfl,hS,hF1,hO1,hp1,hL1,hns2,hv2,hvm2,by omega⟩
       case round =>
        clear hS hF1 hO1 hp1 hL1 hns2 hvm2 hv2;obtain⟨j,F0,S0,wq,av,nv,cv,V,hj,rfl,hS,hF0,hO0,hp0,hL0,hns,hlv,hvm,hVl⟩:=hrel
        by_cases hjl:j<l.length
        ·obtain⟨x,hx⟩:∃ x,nth tp0 l j=x:=⟨_,rfl⟩
         have hc:=flat_cell tc_len tp0 hjl;rw [hx] at hc;have hxo:=ht2.out.ok x (by rw [← hx];exact nth_mem tp0 l j hjl)
         have htk:∀ p,((vQ os gs i k p∨p ∈ (l.take j).map P3.pt)∨p=x.pt)↔(vQ os gs i k p∨p ∈ (l.take (j+1)).map P3.pt):=fun p=>by
          rw [take_snoc tp0 l j hjl,hx];simp [or_assoc]
         have hlo2:=hlv.weaken hF0;replace hc:((l.flatMap tc).drop (j*3)).take 3=[.int .i64 x.x,.int .i64 x.y,.int .i64 x.d]:=hc;replace htk:=Hd htk;replace hx:=Hd hx;replace hxo:=Hd hxo;go_wp2;refine rg0 [.p 0,.r 1,.p 2,.p 3,.p 4,.r 5,.e 6,.p 7,.m 8] [8] hS fun w1 hS=>?_
         obtain⟨hsC,hkC⟩:=hS.cstart
         repeat (with_reducible first|refine sldB 2 isAgg29 ?_|refine sixE underlying29 sizeOf152 hlo2 hc fun bq oq hcellq=>?_|refine sldG isAgg152 sizeOf152 ?_|refine spL ?_)
         refine exL ?_
         go_wp2_with (fail)
         refine (put08_any av nv cv V x _ S0 (Liv.at hS hF0) (hns.at hS hF0).vs hvm.out.1 hxo.out (by omega)).mono ?_;rintro e w' ⟨av2,nv2,cv2,V2,S1,rfl,hq,hv2,ht3,hm3,hl3⟩;simp only [];go_step;have hL1:=hq.liv (Liv.at hS hF0);have hns2:NS w' S1 os gs ao co ap cp av2 nv2 cv2 V2:=⟨((hns.at hS hF0).v.grow hq),((hns.at hS hF0).g.grow hq),hv2⟩;have hlv2:SlC w' S1 3 (.slice al l.length cl) l.length (l.flatMap tc):=(hlv.move (hS.keep hF0)).grow hq;have hvm2:=(hvm.out.put ht3 hm3).cast htk.out;replace hvm2:=Hd hvm2;clear hv2 ht3 hm3;have hkC:=Heap.keepC hS hq.below hsC hkC;replace hS:=hS.pcl hF0 hO0 hp0 hq;obtain⟨F1,hF1,hOO1,hp1,hO1,hS⟩:=hS;have hsC:=SubC.trans hsC hOO1;refine ext_end (Heap.toC hS.sb hsC hkC) ?_;refine mvs ?_;refine muL ?_
         (with_reducible refine stA 2 hS sizeOf29 fun _ hS=>?_)
         refine mut_end ?_;refine snL ?_;go_wp2;go_roundw
         case rel=>exact⟨j+1,F1,S1,w',av2,nv2,cv2,V2,by omega,by simp,hS,hF1,hO1,hp1,hL1,hns2,hlv2,hvm2,by omega⟩
         case measure=>simp [intOf];omega
        ·obtain rfl:l.length=j:=by omega
         have hvm2:VM V (vQ os gs i (k+1)):=hvm.out.cast (fun p=>by
          rw [List.take_length,hm2.out];unfold vQ;rw [hsg.out]
          constructor
          ·rintro ((h|h|⟨m,h1,h2⟩)|h)
           ·exact .inl h
           ·exact .inr (.inl h)
           ·exact .inr (.inr ⟨m,by omega,h2⟩)
           ·exact .inr (.inr ⟨k,by omega,by rw [hsg2.out];exact h⟩)
          ·rintro (h|h|⟨m,h1,h2⟩)
           ·exact .inl (.inl h)
           ·exact .inl (.inr (.inl h))
           ·by_cases e:m=k
            ·subst e;rw [hsg2.out] at h2;exact .inr h2
            ·exact .inl (.inr (.inr ⟨m,by omega,h2⟩)))
         replace hvm2:=Hd hvm2;clear hvm;go_wp2;go_roundw
         case rel=>exact⟨k+1,F0,S0,wq,av,nv,cv,V,by omega,by simp,hS,hF0,hO0,hp0,hL0,hns,hvm2,by omega⟩
         case measure=>simp [intOf];omega
      ·obtain rfl:i=k:=by omega
       have hvm2:VM V (vP os gs (i+1)):=hvm.out.cast (fun p=>vQ_step);replace hvm2:=Hd hvm2;clear hvm;go_wp2;go_roundw
       case rel=>exact⟨i+1,F0,S0,wq,av,nv,cv,V,by omega,by simp,hS,hF0,hO0,hp0,hL0,hns,hvm2,by omega⟩
       case measure=>simp [intOf];omega
    ·obtain rfl:os.length=i:=by omega
     obtain⟨VV,hVV⟩:∃ VV,V.map P3.pt=VV:=⟨_,rfl⟩;have hVVl:VV.length=V.length:=by rw [← hVV];simp
     have hSv:VV.Pairwise Pt.lt:=by rw [← hVV];exact hvm.out.1.sorted
     have hMv:∀ p,p ∈ VV↔isVert (os.map Sz.sg) (gs.map Gp.pt) p:=fun p=>by rw [← hVV,hvm.out.2 p];exact vP_end
     have hok:=hvm.out.1.ok;have hVb:V.length≤2404:=by omega
     have hnv:Hid (nv=V.length):=by obtain⟨h1,a,cap,h2,_⟩:=hns.vs;cases h2;rfl
     have hS:=hS.addNil 88 5;simp only [NRH] at hS;replace hVV:=Hd hVV;replace hVVl:=Hd hVVl;replace hSv:=Hd hSv;replace hMv:=Hd hMv;replace hok:=Hd hok;have hks:KS []:=List.Pairwise.nil
     have hke:∀ e,e ∈ ([]:List ER).map ER.k↔EP os VV 0 0 e:=fun e=>by
      unfold EP;refine⟨fun h=>(by cases h),fun h=>?_⟩
      rcases h with ⟨j,h,_⟩|⟨_,h⟩ <;> omega
     have hof:OfOk wq S0 [] 0:=fun r hr=>by cases hr
     replace hks:=Hd hks;replace hke:=Hd hke;clear hvm hVl hil
     go_wp2_with (fail)
     go_loopw [13] (fun v13 wr=>∃ (i:Nat) (F S':Nat→Prop) (wq:World) (ae:Option Addr) (ne ce:Nat) (rs:List ER),i≤os.length∧v13=.int .i64 (i:Int)∧Heap w wr [.frz F wq,.blk b4 (.cells #[.slice none 0 0,.slice none 0 0,.slice none 0 0,.slice none 0 0] 32 (0,0)),.blk b7 (.cells #[.slice ao os.length co,.slice ap gs.length cp,.slice av nv cv,.slice ae ne ce] 32 (0,0)),.row (.slice ae ne ce) 88 5 ne (rs.flatMap ec)]∧(∀ k,S' k→F k)∧(∀ k,Old w k→F k)∧Pure w S wq S'∧Liv wq S'∧NS wq S' os gs ao co ap cp av nv cv V∧Hid (KS rs)∧Hid (∀ e,e ∈ rs.map ER.k↔EP os VV i 0 e)∧OfOk wq S' rs (i*2404)∧ne=rs.length∧rs.length≤i*2404) (fun v13 _=>os.length - (intOf v13).toNat)
     case atStart=>exact⟨0,F0,S0,wq,none,0,0,[],by omega,rfl,hS,hF0,hO0,hp0,hL0,hns,hks,hke,hof,rfl,by simp⟩
     case round =>
      clear hS hF0 hO0 hp0 hL0 hns hks hke hof;obtain⟨i,F0,S0,wq,ae,ne,ce,rs,hi,rfl,hS,hF0,hO0,hp0,hL0,hns,hks,hke,hof,hne,hrl⟩:=hrel
      by_cases hil:i<os.length
      ·subst hne
       obtain⟨t,ht⟩:∃ t,nth s0 os i=t:=⟨_,rfl⟩;obtain⟨hto,htm⟩:=hos t (by rw [← ht];exact nth_mem s0 os i hil);have hsg:sgAt os i=t.sg:=by unfold sgAt;rw [ht]
       have hlast:=Last.start VV (sgAt os i);replace ht:=Hd ht;replace hto:=Hd hto;replace htm:=Hd htm;replace hsg:=Hd hsg;replace hlast:=Hd hlast
       go_wp2_with (fail)
       go_loopw [14,15] (fun v14 v15 wr=>∃ (v:Nat) (F S':Nat→Prop) (wq:World) (ae:Option Addr) (ce:Nat) (rs:List ER) (l:Int),v≤V.length∧v15=.int .i64 (v:Int)∧v14=.int .i64 l∧Heap w wr [.frz F wq,.blk b4 (.cells #[.slice none 0 0,.slice none 0 0,.slice none 0 0,.slice none 0 0] 32 (0,0)),.blk b7 (.cells #[.slice ao os.length co,.slice ap gs.length cp,.slice av nv cv,.slice ae rs.length ce] 32 (0,0)),.row (.slice ae rs.length ce) 88 5 rs.length (rs.flatMap ec)]∧(∀ k,S' k→F k)∧(∀ k,Old w k→F k)∧Pure w S wq S'∧Liv wq S'∧NS wq S' os gs ao co ap cp av nv cv V∧Hid (KS rs)∧Hid (∀ e,e ∈ rs.map ER.k↔EP os VV i v e)∧OfOk wq S' rs (i*2404+v)∧rs.length≤i*2404+v∧Hid (Last VV (sgAt os i) v l)) (fun _ v15 _=>V.length - (intOf v15).toNat)
       case atStart=>exact⟨0,F0,S0,wq,ae,ce,rs,-1,by omega,rfl,rfl,hS,hF0,hO0,hp0,hL0,hns,hks,hke,hof,hrl,hlast⟩
       case round =>
        clear hS hF0 hO0 hp0 hL0 hns hks hke hof hrl hlast;obtain⟨v,F0,S0,wq,ae,ce,rs,l,hvv,rfl,rfl,hS,hF0,hO0,hp0,hL0,hns,hks,hke,hof,hrl,hlast⟩:=hrel;obtain rfl:nv=V.length:=hnv
        by_cases hvl:v<V.length
        ·obtain⟨x,hx⟩:∃ x,nth tp0 V v=x:=⟨_,rfl⟩
         have hc:=flat_cell sc_len s0 hil;rw [ht.out] at hc;have hd:=flat_cell tc_len tp0 hvl;rw [hx] at hd;replace hd:((V.flatMap tc).drop (v*3)).take 3=[.int .i64 x.x,.int .i64 x.y,.int .i64 x.d]:=hd;have hxo:=hok.out x (by rw [← hx];exact nth_mem tp0 V v hvl);have hxp:nth pt0 VV v=x.pt:=by rw [← hVV.out,nth_mapP hvl,hx]
         have on:=fun w'=>on08_any t x w' htm.out hxo.2 hxo.1.1
         have hvo:=hns.v.weaken hF0;have hvs:=hns.vs.weaken hF0;have hvV:v<VV.length:=by rw [hVVl.out];exact hvl
         by_cases hon:onS t.sg x.pt
         ·have d1:decide (onS t.sg x.pt)=true:=by simpa using hon
          rw [d1] at on;have hon2:onS (sgAt os i) (nth pt0 VV v):=by rw [hsg.out,hxp];exact hon
          have hl2:=Last.take hon2;replace hl2:=Hd hl2;replace hon2:=Hd hon2;clear hon d1 hxp hx hxo
          rcases hlast.out with ⟨rfl,hno⟩|⟨u,huv,rfl,hu1,hu2⟩
          ·have hke2:∀ e,e ∈ rs.map ER.k↔EP os VV i (v+1) e:=fun e=>(hke.out e).trans (EP.none hlast.out e).symm
           replace hke2:=Hd hke2;clear hno
           go_wp2_with (with_reducible refine ldB 2 hS isAgg29 ?_)
           refine rg0 [.p 0,.p 1,.p 2,.r 3,.p 4,.r 5,.p 6,.p 7,.r 8,.e 9,.p 10] [] hS fun w1 hS=>?_
           repeat (with_reducible first|refine sixE underlying23 sizeOf121 hvo hc fun bq oq hcellq=>?_|refine sixE underlying29 sizeOf152 hvs hd fun bq oq hcellq=>?_|refine sldG isAgg121 sizeOf121 ?_|refine sldG isAgg152 sizeOf152 ?_|refine sldB 2 isAgg29 ?_|refine spL ?_)
           refine exL ?_
           go_wp2_with (fail)
           refine (on _).mono ?_;rintro e w' ⟨rfl,hq⟩;simp only [];go_step;have hS:=hS.below hq.below hq.drawn;refine ext_end hS.sb ?_;refine mvs ?_;refine snL ?_;clear hvo hvs hc hd hcellq on;go_wp2;go_roundw
           case rel=>exact⟨v+1,F0,S0,wq,ae,ce,rs,v,by omega,by simp,rfl,hS,hF0,hO0,hp0,hL0,hns,hks,hke2,hof.mono (fun _ h=>h) (by omega),by omega,hl2⟩
           case measure=>simp [intOf];omega
          ·have hke2:∀ e,EP os VV i (v+1) e↔e ∈ rs.map ER.k∨e=(u,v):=fun e=>(EP.put hvV hon2.out hlast.out e).trans (or_congr_left (hke.out e).symm)
           replace hke2:=Hd hke2;have dr:=fun w'=>dir08_any t w' hto.out
           obtain⟨D,hD⟩:∃ D,dirZ t=D:=⟨_,rfl⟩;simp only [hD] at dr;clear hu1 hu2 hD
           go_wp2_with (with_reducible refine ldB 2 hS isAgg29 ?_)
           refine rg0 [.p 0,.p 1,.p 2,.r 3,.p 4,.r 5,.p 6,.p 7,.r 8,.e 9,.p 10] [] hS fun w1 hS=>?_
           repeat (with_reducible first|refine sixE underlying23 sizeOf121 hvo hc fun bq oq hcellq=>?_|refine sixE underlying29 sizeOf152 hvs hd fun bq oq hcellq=>?_|refine sldG isAgg121 sizeOf121 ?_|refine sldG isAgg152 sizeOf152 ?_|refine sldB 2 isAgg29 ?_|refine spL ?_)
           refine exL ?_
           go_wp2_with (fail)
           refine (on _).mono ?_;rintro e w' ⟨rfl,hq⟩;simp only [];go_step;have hS:=hS.below hq.below hq.drawn;refine ext_end hS.sb ?_;refine mvs ?_;refine snL ?_;clear hvo hvs hc hd hcellq on;go_wp2;have hvo:=hns.v.weaken hF0;have hc:=flat_cell sc_len s0 hil;rw [ht.out] at hc;refine wp_region_tr (.fork [.p 0,.r 1,.p 2,.p 3,.p 4,.p 6,.p 7,.p 8,.r 9] 5 (.line [.e 10,.p 11,.m 12,.p 13,.m 14]) 10 (.line [.e 5,.p 11,.m 12,.p 13,.m 14])) [12,14] (fun w'=>Heap w w' _) (by kernel_rfl) (by kernel_rfl) hS.drew (fun w1 hS=>?_);refine tr_fork ?_
           repeat (with_reducible first|refine sixE underlying23 sizeOf121 hvo hc fun bq oq hcellq=>?_|refine sldG isAgg121 sizeOf121 ?_|refine sldB 2 isAgg30 ?_|refine spL ?_)
           refine sched_nil ?_;simp only [NoPanic,WithK];refine⟨?_,?_⟩
           ·refine fork_op rfl ?_
            ((with_reducible refine g_bs (T:=22) ?_);refine seq_bs1 (T:=22) (v:=.int .i64 _) hS underlying22 sizeOf3 zeroValue3 rfl rfl rfl (by decide) (by decide) rfl (fun bl wbl hS=>?_);simp only [NRM];simp only [Value.cells] at hS)
            refine ext_end hS.sb ?_;refine tr_line ?_;refine mvs ?_;refine exL ?_
            go_wp2_with (fail)
            refine (dr _).mono ?_;rintro e w' ⟨rfl,hq⟩;simp only [];go_step;have hS:=hS.below hq.below hq.drawn;refine ext_end hS.sb ?_;refine mvs ?_;refine muL ?_;try simp only [NRH] at hS
            have hS:=hS.order [0,1,2,4,3] rfl;simp only [NRF] at hS;have hsp:=Heap.split (A:=[_,_,_,_]) (B:=[_]) hS;have hrest:∀ k,(S0 k∨k=bl)→Go.Hp.Rest _ _ k:=fun k h=>h.elim (fun h=>Heap.rest_of (A:=[_,_,_,_]) (B:=[_]) hS (c:=.frz F0 wq) (List.mem_of_getElem? (i:=0) rfl) (hF0 k h)) (fun h=>Heap.rest_of (A:=[_,_,_,_]) (B:=[_]) hS (c:=.blk bl _) (List.mem_of_getElem? (i:=3) rfl) h)
            have hof2:OfOk _ (fun k=>S0 k∨k=bl) rs (i*2404+v):=(hof.move (hS.keep hF0)).mono (fun k h=>.inl h) (Nat.le_refl _);have hbl:=SlC.ofBlk (n:=1) (k:=1) hS (List.mem_of_getElem? (i:=3) rfl) rfl (by decide);have heo:∃ is:List Nat,Nats _ (fun k=>S0 k∨k=bl) (.slice (some ⟨bl,0,none⟩) 1 1) is∧is.length≤1:=⟨[i],⟨hbl.weaken (fun k h=>.inr h),fun x hx=>by simp [zs] at hx;subst hx;unfold InI;omega⟩,Nat.le_refl _⟩
            go_wp2_with (fail)
            refine (putE_any ae rs.length ce rs ⟨u,v,some ⟨bl,0,none⟩,1,1,D⟩ (i*2404+v) _ _ (fun k=>S0 k∨k=bl) hrest hsp rfl hks.out hof2 heo (by omega) (by omega)).mono ?_;rintro e w' ⟨ad2,ce2,rs2,G,rfl,hS1,hk1,hof1,hm1,hl1⟩;have hS:=Heap.unsplit (A:=[_,_,_,_]) (B:=[_]) hS hS1;simp only [NRH] at hS;have hps:=hp0.step hS hO0 hF0;have hnb:∀ k,k=bl→New w w' k:=fun k h=>hS.isNewC hO0 (c:=.blk bl _) (List.mem_of_getElem? (i:=2) rfl) h
            have hnG:∀ k,G k→New w w' k:=fun k h=>hS.isNewC hO0 (c:=.frz G w') (List.mem_of_getElem? (i:=3) rfl) h
            have hp1:Pure w S w' (fun k=>(S0 k∨k=bl)∨G k):=⟨hps.below,hps.drawn,fun k h=>.inl (.inl (hps.sub k h)),fun k h=>by
             rcases h with (h|h)|h
             ·exact hps.new k h
             ·exact .inr (hnb k h)
             ·exact .inr (hnG k h)⟩
            have hL1:Liv w' (fun k=>(S0 k∨k=bl)∨G k):=fun k h=>by
             rcases h with (h|h)|h
             ·exact (Liv.at hS hF0) k h
             ·exact (hnb k h).2
             ·exact (hnG k h).2
            have hns1:NS w' (fun k=>(S0 k∨k=bl)∨G k) os gs ao co ap cp av V.length cv V:=(hns.at hS hF0).mono (fun k h=>.inl (.inl h));have hke3:∀ e,e ∈ rs2.map ER.k↔EP os VV i (v+1) e:=fun e=>(hm1 e).trans (hke2.out e).symm
            replace hke3:=Hd hke3;replace hk1:=Hd hk1;obtain⟨F1,hS9,hFF,hFb,hFG⟩:=Heap.mergeBG hS;clear hS;have hS:=hS9;clear hS9 hS1 hsp hrest hof2 hbl heo hm1 hps hnb hnG
            have hF1:∀ k,((S0 k∨k=bl)∨G k)→F1 k:=fun k h=>by
             rcases h with (h|h)|h
             ·exact hFF k (hF0 k h)
             ·subst h;exact hFb
             ·exact hFG k h
            have hO1:∀ k,Old w k→F1 k:=fun k h=>hFF k (hO0 k h)
            clear hFF hFb hFG;simp only [];go_step;refine mut_end ?_;refine mvs ?_;refine muL ?_
            (with_reducible refine stA 2 hS sizeOf30 fun _ hS=>?_)
            refine mut_end ?_;refine snL ?_;go_wp2;go_roundw
            case rel=>exact⟨v+1,F1,(fun k=>(S0 k∨k=bl)∨G k),w',ad2,ce2,rs2,v,by omega,by simp,rfl,hS,hF1,hO1,hp1,hL1,hns1,hk1,hke3,hof1.mono (fun _ h=>h) (by omega),by omega,hl2⟩
            case measure=>simp [intOf];omega
           ·refine fork_op rfl ?_
            go_wp2_with (fail)
            refine (dr _).mono ?_;rintro e w' ⟨rfl,hq⟩;simp only [];go_step;have hS:=hS.below hq.below hq.drawn;refine ext_end hS.sb ?_;refine tr_line ?_;refine mvs ?_;refine exL ?_
            ((with_reducible refine g_bs (T:=22) ?_);refine seq_bs1 (T:=22) (v:=.int .i64 _) hS underlying22 sizeOf3 zeroValue3 rfl rfl rfl (by decide) (by decide) rfl (fun bl wbl hS=>?_);simp only [NRM];simp only [Value.cells] at hS)
            refine ext_end hS.sb ?_;refine mvs ?_;refine muL ?_;try simp only [NRH] at hS
            have hS:=hS.order [0,1,2,4,3] rfl;simp only [NRF] at hS;have hsp:=Heap.split (A:=[_,_,_,_]) (B:=[_]) hS;have hrest:∀ k,(S0 k∨k=bl)→Go.Hp.Rest _ _ k:=fun k h=>h.elim (fun h=>Heap.rest_of (A:=[_,_,_,_]) (B:=[_]) hS (c:=.frz F0 wq) (List.mem_of_getElem? (i:=0) rfl) (hF0 k h)) (fun h=>Heap.rest_of (A:=[_,_,_,_]) (B:=[_]) hS (c:=.blk bl _) (List.mem_of_getElem? (i:=3) rfl) h)
            have hof2:OfOk _ (fun k=>S0 k∨k=bl) rs (i*2404+v):=(hof.move (hS.keep hF0)).mono (fun k h=>.inl h) (Nat.le_refl _);have hbl:=SlC.ofBlk (n:=1) (k:=1) hS (List.mem_of_getElem? (i:=3) rfl) rfl (by decide);have heo:∃ is:List Nat,Nats _ (fun k=>S0 k∨k=bl) (.slice (some ⟨bl,0,none⟩) 1 1) is∧is.length≤1:=⟨[i],⟨hbl.weaken (fun k h=>.inr h),fun x hx=>by simp [zs] at hx;subst hx;unfold InI;omega⟩,Nat.le_refl _⟩
            go_wp2_with (fail)
            refine (putE_any ae rs.length ce rs ⟨u,v,some ⟨bl,0,none⟩,1,1,D⟩ (i*2404+v) _ _ (fun k=>S0 k∨k=bl) hrest hsp rfl hks.out hof2 heo (by omega) (by omega)).mono ?_;rintro e w' ⟨ad2,ce2,rs2,G,rfl,hS1,hk1,hof1,hm1,hl1⟩;have hS:=Heap.unsplit (A:=[_,_,_,_]) (B:=[_]) hS hS1;simp only [NRH] at hS;have hps:=hp0.step hS hO0 hF0;have hnb:∀ k,k=bl→New w w' k:=fun k h=>hS.isNewC hO0 (c:=.blk bl _) (List.mem_of_getElem? (i:=2) rfl) h
            have hnG:∀ k,G k→New w w' k:=fun k h=>hS.isNewC hO0 (c:=.frz G w') (List.mem_of_getElem? (i:=3) rfl) h
            have hp1:Pure w S w' (fun k=>(S0 k∨k=bl)∨G k):=⟨hps.below,hps.drawn,fun k h=>.inl (.inl (hps.sub k h)),fun k h=>by
             rcases h with (h|h)|h
             ·exact hps.new k h
             ·exact .inr (hnb k h)
             ·exact .inr (hnG k h)⟩
            have hL1:Liv w' (fun k=>(S0 k∨k=bl)∨G k):=fun k h=>by
             rcases h with (h|h)|h
             ·exact (Liv.at hS hF0) k h
             ·exact (hnb k h).2
             ·exact (hnG k h).2
            have hns1:NS w' (fun k=>(S0 k∨k=bl)∨G k) os gs ao co ap cp av V.length cv V:=(hns.at hS hF0).mono (fun k h=>.inl (.inl h));have hke3:∀ e,e ∈ rs2.map ER.k↔EP os VV i (v+1) e:=fun e=>(hm1 e).trans (hke2.out e).symm
            replace hke3:=Hd hke3;replace hk1:=Hd hk1;obtain⟨F1,hS9,hFF,hFb,hFG⟩:=Heap.mergeBG hS;clear hS;have hS:=hS9;clear hS9 hS1 hsp hrest hof2 hbl heo hm1 hps hnb hnG
            have hF1:∀ k,((S0 k∨k=bl)∨G k)→F1 k:=fun k h=>by
             rcases h with (h|h)|h
             ·exact hFF k (hF0 k h)
             ·subst h;exact hFb
             ·exact hFG k h
            have hO1:∀ k,Old w k→F1 k:=fun k h=>hFF k (hO0 k h)
            clear hFF hFb hFG;simp only [];go_step;refine mut_end ?_;refine mvs ?_;refine muL ?_
            (with_reducible refine stA 2 hS sizeOf30 fun _ hS=>?_)
            refine mut_end ?_;refine snL ?_;go_wp2;go_roundw
            case rel=>exact⟨v+1,F1,(fun k=>(S0 k∨k=bl)∨G k),w',ad2,ce2,rs2,v,by omega,by simp,rfl,hS,hF1,hO1,hp1,hL1,hns1,hk1,hke3,hof1.mono (fun _ h=>h) (by omega),by omega,hl2⟩
            case measure=>simp [intOf];omega
         ·have d1:decide (onS t.sg x.pt)=false:=by simpa using hon
          rw [d1] at on;have hon2:¬ onS (sgAt os i) (nth pt0 VV v):=by rw [hsg.out,hxp];exact hon
          have hl2:=Last.skip hlast.out hon2;have hke2:∀ e,e ∈ rs.map ER.k↔EP os VV i (v+1) e:=fun e=>(hke.out e).trans (EP.skip hon2 e).symm
          replace hl2:=Hd hl2;replace hke2:=Hd hke2;clear hon d1 hxp hx hon2 hxo
          go_wp2_with (with_reducible refine ldB 2 hS isAgg29 ?_)
          refine rg0 [.p 0,.p 1,.p 2,.r 3,.p 4,.r 5,.p 6,.p 7,.r 8,.e 9,.p 10] [] hS fun w1 hS=>?_
          repeat (with_reducible first|refine sixE underlying23 sizeOf121 hvo hc fun bq oq hcellq=>?_|refine sixE underlying29 sizeOf152 hvs hd fun bq oq hcellq=>?_|refine sldG isAgg121 sizeOf121 ?_|refine sldG isAgg152 sizeOf152 ?_|refine sldB 2 isAgg29 ?_|refine spL ?_)
          refine exL ?_
          go_wp2_with (fail)
          refine (on _).mono ?_;rintro e w' ⟨rfl,hq⟩;simp only [];go_step;have hS:=hS.below hq.below hq.drawn;refine ext_end hS.sb ?_;refine mvs ?_;refine snL ?_;clear hvo hvs hc hd hcellq on;go_wp2;go_roundw
          case rel=>exact⟨v+1,F0,S0,wq,ae,ce,rs,l,by omega,by simp,rfl,hS,hF0,hO0,hp0,hL0,hns,hks,hke2,hof.mono (fun _ h=>h) (by omega),by omega,hl2⟩
          case measure=>simp [intOf];omega
        ·obtain rfl:V.length=v:=by omega
         have hke2:∀ e,e ∈ rs.map ER.k↔EP os VV (i+1) 0 e:=fun e=>by
          rw [← EP.next,hVVl.out];exact hke.out e
         replace hke2:=Hd hke2;clear hke
         go_wp2_with (with_reducible refine ldB 2 hS isAgg29 ?_)
         go_roundw
         case rel=>exact⟨i+1,F0,S0,wq,ae,rs.length,ce,rs,by omega,by simp,hS,hF0,hO0,hp0,hL0,hns,hks,hke2,hof.mono (fun _ h=>h) (by omega),rfl,by omega⟩
         case measure=>simp [intOf];omega
      ·obtain rfl:os.length=i:=by omega
       subst hne
       have hfin:Arr0 (os.map Sz.sg) (gs.map Gp.pt) (V.map P3.pt) (rs.map ER.k):=by
        rw [hVV.out];exact⟨hSv.out,hMv.out,hks.out,fun u v=>(hke.out (u,v)).trans EP.end_iff⟩
       replace hfin:=Hd hfin
       go_wp2_with (with_reducible first|refine ldA 2 hS isAgg32 sizeOf32 ?_|refine stA 1 hS sizeOf32 fun _ hS=>?_)
       have hrow:=hS.rowSl 3 rfl;exact ret_ct 1 hS rfl rfl rfl isAgg32 sizeOf32 rfl rfl ⟨av,ae,nv,cv,ce,V,rs,_,rfl,hS.handOut hO0 hF0 hp0 (List.mem_of_getElem? (i:=2) rfl),hnv,hrow.weaken (fun k h=>.inr h),hfin.out⟩
end Go.Proofs
