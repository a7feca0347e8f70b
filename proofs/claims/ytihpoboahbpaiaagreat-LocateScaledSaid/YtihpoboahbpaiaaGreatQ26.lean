/- Texts for the walk of the law: FY KS KT. -/
import Derived.Shelf.Sort.Plain
import Derived.Shelf.Slices.In.SortNone
import Derived.Shelf.SlSortCmp.NoneTotal
import Derived.Test.YtihpoboahbpaiaaGreatQ25
set_option maxRecDepth 100000
set_option maxHeartbeats 16000000
set_option linter.unusedVariables false
set_option linter.unusedSimpArgs false
namespace Go.Hp
open Go.Proofs.Tryz
open Go Go.RowKit
def skipV (V:List Pt) (es:List Ed) (v e:Nat):Bool :=
 decide ((nth ed0 es e).a=v) || decide ((nth ed0 es e).b=v) || !xleV V (nth ed0 es e).a v || xleV V (nth ed0 es e).b v || decide (sdV V es e v≤0)
def belTo (V:List Pt) (es:List Ed) (v:Nat):Nat→Int
 | 0=>-1
 | k+1=>if skipV V es v k then belTo V es v k else if belTo V es v k<0 then (k:Int) else if higherV V es k (belTo V es v k).toNat then (k:Int) else belTo V es v k
theorem belTo_lt (V:List Pt) (es:List Ed) (v:Nat):∀ k,-1≤belTo V es v k∧belTo V es v k<(k:Int)
 | 0=>by unfold belTo;omega
 | k+1=>by
  have:=belTo_lt V es v k;unfold belTo
  split
  ·omega
  ·split
   ·omega
   ·split <;> omega
theorem Heap.cellsOld {w0 w:World} {H:List Chunk} {b:Nat} {arr:Array Value} {T:TypeId} (hS:Heap w0 w H) (j:Nat) (hj:H[j]? = some (.blk b (.cells arr T (0,0)))):CellsAt w (Old w) ⟨b,0,none⟩ arr.toList:=by
 have hb:=hS.blk (List.mem_of_getElem? hj);refine⟨fun _=>rfl,fun _=>(Array.getElem?_eq_some_iff.1 hb).1,fun q u hu=>?_⟩;have h1:w.cell? ⟨b,q,none⟩=some u:=by rw [cell_of_row w b q _ T (0,0) hb];simpa using hu
 simpa using h1
end Go.Hp
namespace Go.Proofs
open Go.Proofs.Tryz
open Go.RowKit Go.Hp
theorem below_any (a1 a2 a3 a4:Option Addr) (n1 c1 n2 c2 n3 c3 n4 c4:Nat) (rs:List ER) (es:List Ed) (prs:List PR) (V:List Pt) (m v:Nat) (w:World) (S:Nat→Prop) (hA:ArrIn w S a3 a4 n3 c3 n4 c4 rs es prs V m) (hm:8*m+8≤16384) (hv:v<V.length) (hVl:V.length≤1000000) (hEl:es.length≤1000000) :
 Calls Tryz.prog 85 #[.agg #[.slice a1 n1 c1,.slice a2 n2 c2,.slice a3 n3 c3,.slice a4 n4 c4],.int .i64 (v:Int)] w fun en w'=>en=.returned (.int .i64 (belTo V es v es.length))∧Pure w S w' S:=by
 have hn3:=hA.n3;have hn4:=hA.n4;subst hn3 hn4;have hL:=hA.live;have hsl:=hA.hE.weaken hL;replace hsl:SlC w (Old w) 5 (.slice a4 es.length c4) es.length (rs.flatMap ec):=hsl;obtain⟨hS,hF0,hO0,hp0⟩:=st0 hL
 go_enter func85,ntmps85
 go_wp2_with (with_reducible first|refine bxA hS fun bx wbx hS=>?_|refine alA hS zeroValue27 fun b5 wb5 hS=>?_|refine stA 2 hS sizeOf27 fun _ hS=>?_|refine ldB 1 hS isAgg32 ?_)
 try try simp only [NRG]
 go_loopw [8,17] (fun v8 v17 wr=>∃ k:Nat,k≤es.length∧v17=.int .i64 (k:Int)∧v8=.int .i64 (belTo V es v k)∧Heap w wr [.frz (Old w) w,.blk bx (.cells #[.slice a1 n1 c1,.slice a2 n2 c2,.slice a3 V.length c3,.slice a4 es.length c4] 34 (0,0)),.blk b5 (.cells #[.func (.func 129) #[] #[.pointer (some ⟨bx,0,none⟩)]] 27 (0,0))]) (fun _ v17 _=>es.length - (intOf v17).toNat)
 case atStart=>exact⟨0,by omega,rfl,rfl,hS⟩
 case round =>
  clear hS;obtain⟨k,hk,rfl,rfl,hS⟩:=hrel;have hnx:belTo V es v (k+1)=if skipV V es v k then belTo V es v k else if belTo V es v k<0 then (k:Int) else if higherV V es k (belTo V es v k).toNat then (k:Int) else belTo V es v k:=rfl
  have hbl:=belTo_lt V es v k;obtain⟨B,hB⟩:∃ B,belTo V es v k=B:=⟨_,rfl⟩;rw [hB] at hnx hbl;rw [hB]
  by_cases hkl:k<es.length
  ·have hc:=flat_cell ec_len er0 (show k<rs.length by rw [hA.hEs.len];omega)
   have hE:=hA.hEs.el k hkl;have hab:=hA.ab _ (nth_mem ed0 es k hkl);obtain⟨r,hr⟩:∃ r,nth er0 rs k=r:=⟨_,rfl⟩;rw [hr] at hc hE;unfold skipV at hnx;rw [← hE.a,← hE.b] at hnx hab;replace hc:((rs.flatMap ec).drop (k*5)).take 5=[.int .i64 (r.a:Int),.int .i64 (r.b:Int),.slice r.ad r.n r.c,.int .i64 r.dir.x,.int .i64 r.dir.y]:=hc;have x1:=fun w' S' h1 h2=>bxle_any bx a1 a2 a3 a4 n1 c1 n2 c2 V.length c3 es.length c4 rs es prs V m r.a v w' S' h1 h2 hab.1 hv hVl
   have x2:=fun w' S' h1 h2=>bxle_any bx a1 a2 a3 a4 n1 c1 n2 c2 V.length c3 es.length c4 rs es prs V m r.b v w' S' h1 h2 hab.2 hv hVl
   have x3:=fun w' S' h1 h2=>bside_any bx a1 a2 a3 a4 n1 c1 n2 c2 V.length c3 es.length c4 rs es prs V m k v w' S' h1 h2 hm hkl hv hVl hEl
   have x4:=fun (b:Nat) (hb:b<es.length) w' S' h1 h2 h3=>bhigher_any bx b5 a1 a2 a3 a4 n1 c1 n2 c2 V.length c3 es.length c4 rs es prs V m k b w' S' h1 h2 h3 hm hkl hb hVl hEl
   obtain⟨X1,e1⟩:∃ X,xleV V r.a v=X:=⟨_,rfl⟩;obtain⟨X2,e2⟩:∃ X,xleV V r.b v=X:=⟨_,rfl⟩;obtain⟨X3,e3⟩:∃ X,sdV V es k v=X:=⟨_,rfl⟩;simp only [e1] at x1;simp only [e2] at x2;simp only [e3] at x3;rw [e1,e2,e3] at hnx;clear e1 e2 e3 hE hr hab
   by_cases q1:r.a=v
   ·have d1:((r.a:Int) == (v:Int))=true:=by simp [q1]
    rw [if_pos (by simp [q1])] at hnx;replace hnx:=Hd hnx;replace hB:=Hd hB;clear q1 x1 x2 x3 x4;go_wp2;refine rg0 [.p 0,.r 1,.p 2,.p 3,.p 4,.r 5,.p 6,.r 7,.p 8,.p 9,.p 10,.r 11,.p 12,.e 13,.m 14] [14] hS fun w1 hS=>?_
    repeat (with_reducible first|refine sldB 1 isAgg32 ?_|refine sixE underlying32 sizeOf101 hsl hc fun bq oq hcellq=>?_|refine sld0 isAgg3 ?_|refine sldJ 1 isAgg3 ?_|refine spL ?_)
    refine exL ?_
    (with_reducible refine alA hS zeroValue213 fun b10 wb10 hS=>?_)
    refine ext_end hS.sb ?_;refine mvs ?_;refine muL ?_
    (with_reducible refine stA 3 hS sizeOf213 fun _ hS=>?_)
    refine mut_end ?_;refine snL ?_;clear hc hcellq
    go_wp2_with (with_reducible refine ldB 3 hS isAgg3 ?_)
    go_roundw
    case rel=>exact⟨k+1,by omega,by simp,by rw [hnx.out],hS.sb⟩
    case measure=>simp [intOf];omega
   ·have d1:((r.a:Int) == (v:Int))=false:=by simp;omega
    by_cases q2:r.b=v
    ·have d2:((r.b:Int) == (v:Int))=true:=by simp [q2]
     rw [if_pos (by simp [q2])] at hnx;replace hnx:=Hd hnx;replace hB:=Hd hB;clear q1 q2 x1 x2 x3 x4;go_wp2;refine rg0 [.p 0,.r 1,.p 2,.p 3,.p 4,.r 5,.p 6,.r 7,.p 8,.p 9,.p 10,.r 11,.p 12,.e 13,.m 14] [14] hS fun w1 hS=>?_
     repeat (with_reducible first|refine sldB 1 isAgg32 ?_|refine sixE underlying32 sizeOf101 hsl hc fun bq oq hcellq=>?_|refine sld0 isAgg3 ?_|refine sldJ 1 isAgg3 ?_|refine spL ?_)
     refine exL ?_
     (with_reducible refine alA hS zeroValue213 fun b10 wb10 hS=>?_)
     refine ext_end hS.sb ?_;refine mvs ?_;refine muL ?_
     (with_reducible refine stA 3 hS sizeOf213 fun _ hS=>?_)
     refine mut_end ?_;refine snL ?_;clear hc hcellq
     go_wp2_with (with_reducible refine ldB 3 hS isAgg3 ?_)
     go_roundw
     case rel=>exact⟨k+1,by omega,by simp,by rw [hnx.out],hS.sb⟩
     case measure=>simp [intOf];omega
    ·have d2:((r.b:Int) == (v:Int))=false:=by simp;omega
     cases X1 with
     | false =>
      rw [if_pos (by simp)] at hnx;replace hnx:=Hd hnx;replace hB:=Hd hB;clear q1 q2 x2 x3 x4;go_wp2;refine rg0 [.p 0,.r 1,.p 2,.p 3,.p 4,.r 5,.p 6,.r 7,.p 8,.p 9,.p 10,.r 11,.p 12,.e 13,.m 14] [14] hS fun w1 hS=>?_
      repeat (with_reducible first|refine sldB 1 isAgg32 ?_|refine sixE underlying32 sizeOf101 hsl hc fun bq oq hcellq=>?_|refine sld0 isAgg3 ?_|refine sldJ 1 isAgg3 ?_|refine spL ?_)
      refine exL ?_
      (with_reducible refine alA hS zeroValue213 fun b10 wb10 hS=>?_)
      refine ext_end hS.sb ?_;refine mvs ?_;refine muL ?_
      (with_reducible refine stA 3 hS sizeOf213 fun _ hS=>?_)
      refine mut_end ?_;refine snL ?_;clear hc hcellq
      go_wp2_with (with_reducible refine ldB 3 hS isAgg3 ?_)
      refine (x1 _ S (hS.cellsOld 1 rfl) (hA.at hS hF0)).mono ?_;rintro e w5 ⟨rfl,hq⟩;have hS:=hS.below hq.below hq.drawn;simp only []
      go_wp2_with (with_reducible first|refine ldB 3 hS isAgg3 ?_|refine ldB 2 hS isAgg27 ?_)
      go_roundw
      case rel=>exact⟨k+1,by omega,by simp,by rw [hnx.out],hS.sb⟩
      case measure=>simp [intOf];omega
     | true =>
      cases X2 with
      | true =>
       rw [if_pos (by simp)] at hnx;replace hnx:=Hd hnx;replace hB:=Hd hB;clear q1 q2 x3 x4;go_wp2;refine rg0 [.p 0,.r 1,.p 2,.p 3,.p 4,.r 5,.p 6,.r 7,.p 8,.p 9,.p 10,.r 11,.p 12,.e 13,.m 14] [14] hS fun w1 hS=>?_
       repeat (with_reducible first|refine sldB 1 isAgg32 ?_|refine sixE underlying32 sizeOf101 hsl hc fun bq oq hcellq=>?_|refine sld0 isAgg3 ?_|refine sldJ 1 isAgg3 ?_|refine spL ?_)
       refine exL ?_
       (with_reducible refine alA hS zeroValue213 fun b10 wb10 hS=>?_)
       refine ext_end hS.sb ?_;refine mvs ?_;refine muL ?_
       (with_reducible refine stA 3 hS sizeOf213 fun _ hS=>?_)
       refine mut_end ?_;refine snL ?_;clear hc hcellq
       go_wp2_with (with_reducible refine ldB 3 hS isAgg3 ?_)
       refine (x1 _ S (hS.cellsOld 1 rfl) (hA.at hS hF0)).mono ?_;rintro e w5 ⟨rfl,hq⟩;have hS:=hS.below hq.below hq.drawn;simp only []
       go_wp2_with (with_reducible refine ldB 3 hS isAgg3 ?_)
       refine (x2 _ S (hS.cellsOld 1 rfl) (hA.at hS hF0)).mono ?_;rintro e w5 ⟨rfl,hq⟩;have hS:=hS.below hq.below hq.drawn;simp only []
       go_wp2_with (with_reducible first|refine ldB 3 hS isAgg3 ?_|refine ldB 2 hS isAgg27 ?_)
       go_roundw
       case rel=>exact⟨k+1,by omega,by simp,by rw [hnx.out],hS.sb⟩
       case measure=>simp [intOf];omega
      | false =>
       by_cases q3:X3≤0
       ·have d3:decide (X3≤0)=true:=by simpa using q3
        rw [if_pos (by simp [q3])] at hnx;replace hnx:=Hd hnx;replace hB:=Hd hB;clear q1 q2 q3 x4;go_wp2;refine rg0 [.p 0,.r 1,.p 2,.p 3,.p 4,.r 5,.p 6,.r 7,.p 8,.p 9,.p 10,.r 11,.p 12,.e 13,.m 14] [14] hS fun w1 hS=>?_
        repeat (with_reducible first|refine sldB 1 isAgg32 ?_|refine sixE underlying32 sizeOf101 hsl hc fun bq oq hcellq=>?_|refine sld0 isAgg3 ?_|refine sldJ 1 isAgg3 ?_|refine spL ?_)
        refine exL ?_
        (with_reducible refine alA hS zeroValue213 fun b10 wb10 hS=>?_)
        refine ext_end hS.sb ?_;refine mvs ?_;refine muL ?_
        (with_reducible refine stA 3 hS sizeOf213 fun _ hS=>?_)
        refine mut_end ?_;refine snL ?_;clear hc hcellq
        go_wp2_with (with_reducible refine ldB 3 hS isAgg3 ?_)
        refine (x1 _ S (hS.cellsOld 1 rfl) (hA.at hS hF0)).mono ?_;rintro e w5 ⟨rfl,hq⟩;have hS:=hS.below hq.below hq.drawn;simp only []
        go_wp2_with (with_reducible refine ldB 3 hS isAgg3 ?_)
        refine (x2 _ S (hS.cellsOld 1 rfl) (hA.at hS hF0)).mono ?_;rintro e w5 ⟨rfl,hq⟩;have hS:=hS.below hq.below hq.drawn;simp only []
        go_wp2_with (with_reducible refine ldB 2 hS isAgg27 ?_)
        refine (x3 _ S (hS.cellsOld 1 rfl) (hA.at hS hF0)).mono ?_;rintro e w5 ⟨rfl,hq⟩;have hS:=hS.below hq.below hq.drawn;simp only []
        go_wp2_with (with_reducible first|refine ldB 3 hS isAgg3 ?_|refine ldB 2 hS isAgg27 ?_)
        go_roundw
        case rel=>exact⟨k+1,by omega,by simp,by rw [hnx.out],hS.sb⟩
        case measure=>simp [intOf];omega
       ·have d3:decide (X3≤0)=false:=by simpa using q3
        rw [if_neg (by simp [q1,q2,q3])] at hnx
        by_cases q4:B<0
        ·have d4:decide (B<0)=true:=by simpa using q4
         rw [if_pos q4] at hnx;replace hnx:=Hd hnx;replace hB:=Hd hB;clear q1 q2 q3 x4;go_wp2;refine rg0 [.p 0,.r 1,.p 2,.p 3,.p 4,.r 5,.p 6,.r 7,.p 8,.p 9,.p 10,.r 11,.p 12,.e 13,.m 14] [14] hS fun w1 hS=>?_
         repeat (with_reducible first|refine sldB 1 isAgg32 ?_|refine sixE underlying32 sizeOf101 hsl hc fun bq oq hcellq=>?_|refine sld0 isAgg3 ?_|refine sldJ 1 isAgg3 ?_|refine spL ?_)
         refine exL ?_
         (with_reducible refine alA hS zeroValue213 fun b10 wb10 hS=>?_)
         refine ext_end hS.sb ?_;refine mvs ?_;refine muL ?_
         (with_reducible refine stA 3 hS sizeOf213 fun _ hS=>?_)
         refine mut_end ?_;refine snL ?_;clear hc hcellq
         go_wp2_with (with_reducible refine ldB 3 hS isAgg3 ?_)
         refine (x1 _ S (hS.cellsOld 1 rfl) (hA.at hS hF0)).mono ?_;rintro e w5 ⟨rfl,hq⟩;have hS:=hS.below hq.below hq.drawn;simp only []
         go_wp2_with (with_reducible refine ldB 3 hS isAgg3 ?_)
         refine (x2 _ S (hS.cellsOld 1 rfl) (hA.at hS hF0)).mono ?_;rintro e w5 ⟨rfl,hq⟩;have hS:=hS.below hq.below hq.drawn;simp only []
         go_wp2_with (with_reducible refine ldB 2 hS isAgg27 ?_)
         refine (x3 _ S (hS.cellsOld 1 rfl) (hA.at hS hF0)).mono ?_;rintro e w5 ⟨rfl,hq⟩;have hS:=hS.below hq.below hq.drawn;simp only []
         go_wp2_with (with_reducible first|refine ldB 3 hS isAgg3 ?_|refine ldB 2 hS isAgg27 ?_)
         go_roundw
         case rel=>exact⟨k+1,by omega,by simp,by rw [hnx.out],hS.sb⟩
         case measure=>simp [intOf];omega
        ·obtain⟨b,hb⟩:∃ b:Nat,B=(b:Int):=⟨B.toNat,by omega⟩
         subst hb;have d4:decide ((b:Int)<0)=false:=by simp
         rw [if_neg q4,Int.toNat_natCast] at hnx;have x5:=x4 b (by omega);obtain⟨X4,e4⟩:∃ X,higherV V es k b=X:=⟨_,rfl⟩;simp only [e4] at x5;rw [e4] at hnx;cases X4 with
         | true =>
          rw [if_pos rfl] at hnx;replace hnx:=Hd hnx;replace hB:=Hd hB;replace e4:=Hd e4;clear q1 q2 q3 q4 x4;go_wp2;refine rg0 [.p 0,.r 1,.p 2,.p 3,.p 4,.r 5,.p 6,.r 7,.p 8,.p 9,.p 10,.r 11,.p 12,.e 13,.m 14] [14] hS fun w1 hS=>?_
          repeat (with_reducible first|refine sldB 1 isAgg32 ?_|refine sixE underlying32 sizeOf101 hsl hc fun bq oq hcellq=>?_|refine sld0 isAgg3 ?_|refine sldJ 1 isAgg3 ?_|refine spL ?_)
          refine exL ?_
          (with_reducible refine alA hS zeroValue213 fun b10 wb10 hS=>?_)
          refine ext_end hS.sb ?_;refine mvs ?_;refine muL ?_
          (with_reducible refine stA 3 hS sizeOf213 fun _ hS=>?_)
          refine mut_end ?_;refine snL ?_;clear hc hcellq
          go_wp2_with (with_reducible refine ldB 3 hS isAgg3 ?_)
          refine (x1 _ S (hS.cellsOld 1 rfl) (hA.at hS hF0)).mono ?_;rintro e w5 ⟨rfl,hq⟩;have hS:=hS.below hq.below hq.drawn;simp only []
          go_wp2_with (with_reducible refine ldB 3 hS isAgg3 ?_)
          refine (x2 _ S (hS.cellsOld 1 rfl) (hA.at hS hF0)).mono ?_;rintro e w5 ⟨rfl,hq⟩;have hS:=hS.below hq.below hq.drawn;simp only []
          go_wp2_with (with_reducible refine ldB 2 hS isAgg27 ?_)
          refine (x3 _ S (hS.cellsOld 1 rfl) (hA.at hS hF0)).mono ?_;rintro e w5 ⟨rfl,hq⟩;have hS:=hS.below hq.below hq.drawn;simp only []
          go_wp2_with (with_reducible first|refine ldB 3 hS isAgg3 ?_|refine ldB 2 hS isAgg27 ?_)
          refine (x5 _ S (hS.cellsOld 1 rfl) (hS.cellsOld 2 rfl) (hA.at hS hF0)).mono ?_;rintro e w5 ⟨rfl,hq⟩;have hS:=hS.below hq.below hq.drawn;simp only []
          go_wp2_with (with_reducible first|refine ldB 3 hS isAgg3 ?_|refine ldB 2 hS isAgg27 ?_)
          go_roundw
          case rel=>exact⟨k+1,by omega,by simp,by rw [hnx.out],hS.sb⟩
          case measure=>simp [intOf];omega
         | false =>
          rw [if_neg (by simp)] at hnx;replace hnx:=Hd hnx;replace hB:=Hd hB;replace e4:=Hd e4;clear q1 q2 q3 q4 x4;go_wp2;refine rg0 [.p 0,.r 1,.p 2,.p 3,.p 4,.r 5,.p 6,.r 7,.p 8,.p 9,.p 10,.r 11,.p 12,.e 13,.m 14] [14] hS fun w1 hS=>?_
          repeat (with_reducible first|refine sldB 1 isAgg32 ?_|refine sixE underlying32 sizeOf101 hsl hc fun bq oq hcellq=>?_|refine sld0 isAgg3 ?_|refine sldJ 1 isAgg3 ?_|refine spL ?_)
          refine exL ?_
          (with_reducible refine alA hS zeroValue213 fun b10 wb10 hS=>?_)
          refine ext_end hS.sb ?_;refine mvs ?_;refine muL ?_
          (with_reducible refine stA 3 hS sizeOf213 fun _ hS=>?_)
          refine mut_end ?_;refine snL ?_;clear hc hcellq
          go_wp2_with (with_reducible refine ldB 3 hS isAgg3 ?_)
          refine (x1 _ S (hS.cellsOld 1 rfl) (hA.at hS hF0)).mono ?_;rintro e w5 ⟨rfl,hq⟩;have hS:=hS.below hq.below hq.drawn;simp only []
          go_wp2_with (with_reducible refine ldB 3 hS isAgg3 ?_)
          refine (x2 _ S (hS.cellsOld 1 rfl) (hA.at hS hF0)).mono ?_;rintro e w5 ⟨rfl,hq⟩;have hS:=hS.below hq.below hq.drawn;simp only []
          go_wp2_with (with_reducible refine ldB 2 hS isAgg27 ?_)
          refine (x3 _ S (hS.cellsOld 1 rfl) (hA.at hS hF0)).mono ?_;rintro e w5 ⟨rfl,hq⟩;have hS:=hS.below hq.below hq.drawn;simp only []
          go_wp2_with (with_reducible first|refine ldB 3 hS isAgg3 ?_|refine ldB 2 hS isAgg27 ?_)
          refine (x5 _ S (hS.cellsOld 1 rfl) (hS.cellsOld 2 rfl) (hA.at hS hF0)).mono ?_;rintro e w5 ⟨rfl,hq⟩;have hS:=hS.below hq.below hq.drawn;simp only []
          go_wp2_with (with_reducible first|refine ldB 3 hS isAgg3 ?_|refine ldB 2 hS isAgg27 ?_)
          go_roundw
          case rel=>exact⟨k+1,by omega,by simp,by rw [hnx.out],hS.sb⟩
          case measure=>simp [intOf];omega
  ·obtain rfl:es.length=k:=by omega
   replace hnx:=Hd hnx;replace hB:=Hd hB;go_wp2;go_ret;exact⟨by rw [hB.out];rfl,hS.pure S⟩
end Go.Proofs
theorem kfKS {α:Type} {o:Option α} {f g:α} (h:o=some f) (e:f=g:=by kernel_rfl):o=some g:=h.trans (congrArg some e)
namespace Go.Proofs
open Go.Proofs.Tryz
open Go.Shelf
def Tryz.lays122_ren:Go.Shelf.Ren:=⟨fun|122=>80|215=>126|n=>n,fun|3=>3|4=>4|n=>n,fun|n=>n⟩
theorem Tryz.lays122:Go.Proofs.Lays.n122 Tryz.prog Tryz.lays122_ren:={
 mixed:=by kernel_rfl
 f122:=kfKS func80
 f215:=kfKS func126
 t3:=underlying3
 a3:=isAgg3
 z3:=sizeOf3
 v3:=zeroValue3
 t4:=underlying4
 a4:=isAgg4
 z4:=sizeOf4
 v4:=zeroValue4 }
open Go.RowKit in
theorem Tryz.cmp_Compare_int (x y:Int) (w:World) :
 Calls Tryz.prog 80 #[.int .i64 x,.int .i64 y] w fun e w'=>e=.returned (.int .i64 (Lib.compareInt x y))∧w'=w:=Any.cmp_Compare_int Tryz.lays122 x y w
def Tryz.lays189_ren:Go.Shelf.Ren:=⟨fun|189=>86|125=>112|257=>132|128=>165|129=>166|294=>193|295=>194|296=>195|297=>196|298=>197|299=>198|216=>199|300=>200|301=>201|328=>239|329=>224|330=>225|331=>240|332=>241|215=>126|343=>252|n=>n,fun|28=>22|3=>3|46=>190|0=>0|51=>228|53=>217|4=>4|183=>243|182=>242|131=>108|5=>5|9=>9|218=>294|222=>298|228=>312|229=>313|n=>n,fun|n=>n⟩
theorem Tryz.lays189:Go.Proofs.Lays.n189 Tryz.prog Tryz.lays189_ren:={
 mixed:=by kernel_rfl
 f125:=kfKS func112
 f128:=kfKS func165
 f129:=kfKS func166
 f189:=kfKS func86
 f215:=kfKS func126
 f216:=kfKS func199
 f257:=kfKS func132
 f294:=kfKS func193
 f295:=kfKS func194
 f296:=kfKS func195
 f297:=kfKS func196
 f298:=kfKS func197
 f299:=kfKS func198
 f300:=kfKS func200
 f301:=kfKS func201
 f328:=kfKS func239
 f329:=kfKS func224
 f330:=kfKS func225
 f331:=kfKS func240
 f332:=kfKS func241
 f343:=kfKS func252
 t0:=underlying0
 a0:=isAgg0
 z0:=sizeOf0
 v0:=zeroValue0
 t3:=underlying3
 a3:=isAgg3
 z3:=sizeOf3
 v3:=zeroValue3
 t4:=underlying4
 a4:=isAgg4
 z4:=sizeOf4
 v4:=zeroValue4
 t5:=underlying5
 a5:=isAgg5
 z5:=sizeOf5
 v5:=zeroValue5
 t9:=underlying9
 a9:=isAgg9
 z9:=sizeOf9
 v9:=zeroValue9
 t28:=underlying22
 a28:=isAgg22
 z28:=sizeOf22
 v28:=zeroValue22
 t46:=underlying190
 a46:=isAgg190
 z46:=sizeOf190
 v46:=zeroValue190
 t51:=underlying228
 a51:=isAgg228
 z51:=sizeOf228
 v51:=zeroValue228
 t53:=underlying217
 a53:=isAgg217
 z53:=sizeOf217
 v53:=zeroValue217
 t131:=underlying108
 a131:=isAgg108
 z131:=sizeOf108
 v131:=zeroValue108
 t182:=underlying242
 a182:=isAgg242
 z182:=sizeOf242
 v182:=zeroValue242
 t183:=underlying243
 a183:=isAgg243
 z183:=sizeOf243
 v183:=zeroValue243
 t218:=underlying294
 a218:=isAgg294
 z218:=sizeOf294
 v218:=zeroValue294
 t222:=underlying298
 a222:=isAgg298
 z222:=sizeOf298
 v222:=zeroValue298
 t228:=underlying312
 a228:=isAgg312
 z228:=sizeOf312
 v228:=zeroValue312
 t229:=underlying313
 a229:=isAgg313
 z229:=sizeOf313
 v229:=zeroValue313 }
open Go.Sort Go.RowKit in
theorem Tryz.slices_Sort_int (blk off cap:Nat) (zs:List Int) (w:World) (hH:Holds (Value.int .i64) w blk off zs.toArray) (hblk:blk<w.heap.size) (hsz:zs.length<4611686018427387904) :
 Calls Tryz.prog 86 #[.slice (some ⟨blk,off,none⟩) zs.length cap] w fun e w' =>
  e=.returned (.tuple #[])∧∃ n os,w'=grow (putRow (Value.int .i64) (Sort.ahead w n) blk off (zs.mergeSort fun x y=>decide (x≤y)).toArray) os:=Any.slices_Sort_int Tryz.lays189 blk off cap zs w hH hblk hsz
open Go.RowKit Go.Sort in
theorem Tryz.slices_Sort_int_none (p:Option Addr) (cap:Nat) (w:World) :
 Calls Tryz.prog 86 #[.slice p 0 cap] w fun e w'=>e=.returned (.tuple #[])∧w'=w:=Any.slices_Sort_int_none Tryz.lays189 p cap w
def Tryz.laysSI6_ren:Go.Shelf.Ren:=⟨fun|6=>91|15=>112|14=>136|28=>165|29=>166|20=>202|21=>203|22=>204|23=>205|24=>206|25=>207|26=>208|27=>209|46=>242|47=>224|48=>225|49=>243|50=>244|57=>253|n=>n,fun|22=>22|24=>3|25=>27|3=>3|39=>190|0=>0|53=>228|55=>217|4=>4|46=>243|45=>242|50=>108|5=>5|9=>9|66=>294|70=>298|76=>312|77=>313|n=>n,fun|n=>n⟩
theorem Tryz.laysSI6:Go.Proofs.SlLaysF.n6 Tryz.prog Tryz.laysSI6_ren:={
 mixed:=by kernel_rfl
 f6:=⟨Tryz.f91.name,by decide,kfKS func91⟩
 f14:=⟨Tryz.f136.name,by decide,kfKS func136⟩
 f15:=kfKS func112
 f20:=⟨Tryz.f202.name,by decide,kfKS func202⟩
 f21:=⟨Tryz.f203.name,by decide,kfKS func203⟩
 f22:=⟨Tryz.f204.name,by decide,kfKS func204⟩
 f23:=⟨Tryz.f205.name,by decide,kfKS func205⟩
 f24:=⟨Tryz.f206.name,by decide,kfKS func206⟩
 f25:=⟨Tryz.f207.name,by decide,kfKS func207⟩
 f26:=⟨Tryz.f208.name,by decide,kfKS func208⟩
 f27:=⟨Tryz.f209.name,by decide,kfKS func209⟩
 f28:=kfKS func165
 f29:=kfKS func166
 f46:=⟨Tryz.f242.name,by decide,kfKS func242⟩
 f47:=kfKS func224
 f48:=kfKS func225
 f49:=⟨Tryz.f243.name,by decide,kfKS func243⟩
 f50:=⟨Tryz.f244.name,by decide,kfKS func244⟩
 f57:=⟨Tryz.f253.name,by decide,kfKS func253⟩
 t0:=underlying0
 a0:=isAgg0
 z0:=sizeOf0
 v0:=zeroValue0
 t3:=underlying3
 a3:=isAgg3
 z3:=sizeOf3
 v3:=zeroValue3
 t4:=underlying4
 a4:=isAgg4
 z4:=sizeOf4
 v4:=zeroValue4
 t5:=underlying5
 a5:=isAgg5
 z5:=sizeOf5
 v5:=zeroValue5
 t9:=underlying9
 a9:=isAgg9
 z9:=sizeOf9
 v9:=zeroValue9
 t22:=underlying22
 a22:=isAgg22
 z22:=sizeOf22
 v22:=zeroValue22
 a24:=isAgg3
 z24:=sizeOf3
 t25:=underlying27
 a25:=isAgg27
 z25:=sizeOf27
 v25:=zeroValue27
 t39:=underlying190
 a39:=isAgg190
 z39:=sizeOf190
 v39:=zeroValue190
 t45:=underlying242
 a45:=isAgg242
 z45:=sizeOf242
 v45:=zeroValue242
 t46:=underlying243
 a46:=isAgg243
 z46:=sizeOf243
 v46:=zeroValue243
 t50:=underlying108
 a50:=isAgg108
 z50:=sizeOf108
 v50:=zeroValue108
 t53:=underlying228
 a53:=isAgg228
 z53:=sizeOf228
 v53:=zeroValue228
 t55:=underlying217
 a55:=isAgg217
 z55:=sizeOf217
 v55:=zeroValue217
 t66:=underlying294
 a66:=isAgg294
 z66:=sizeOf294
 v66:=zeroValue294
 t70:=underlying298
 a70:=isAgg298
 z70:=sizeOf298
 v70:=zeroValue298
 t76:=underlying312
 a76:=isAgg312
 z76:=sizeOf312
 v76:=zeroValue312
 t77:=underlying313
 a77:=isAgg313
 z77:=sizeOf313
 v77:=zeroValue313 }
def Tryz.laysSI06_ren:Go.Shelf.Ren:=⟨fun|6=>91|15=>112|14=>136|28=>165|29=>166|20=>202|21=>203|22=>204|23=>205|24=>206|25=>207|26=>208|27=>209|46=>242|47=>224|48=>225|49=>243|50=>244|57=>253|n=>n,fun|22=>22|24=>3|25=>27|3=>3|39=>190|0=>0|53=>228|55=>217|4=>4|46=>243|45=>242|50=>108|5=>5|9=>9|66=>294|70=>298|76=>312|77=>313|n=>n,fun|n=>n⟩
theorem Tryz.laysSI06:Go.Proofs.SlLaysF0.n6 Tryz.prog Tryz.laysSI06_ren:={
 mixed:=by kernel_rfl
 f6:=⟨Tryz.f91.name,by decide,kfKS func91⟩
 f14:=⟨Tryz.f136.name,by decide,kfKS func136⟩
 f15:=kfKS func112
 f20:=⟨Tryz.f202.name,by decide,kfKS func202⟩
 f21:=⟨Tryz.f203.name,by decide,kfKS func203⟩
 f22:=⟨Tryz.f204.name,by decide,kfKS func204⟩
 f23:=⟨Tryz.f205.name,by decide,kfKS func205⟩
 f24:=⟨Tryz.f206.name,by decide,kfKS func206⟩
 f25:=⟨Tryz.f207.name,by decide,kfKS func207⟩
 f26:=⟨Tryz.f208.name,by decide,kfKS func208⟩
 f27:=⟨Tryz.f209.name,by decide,kfKS func209⟩
 f28:=kfKS func165
 f29:=kfKS func166
 f46:=⟨Tryz.f242.name,by decide,kfKS func242⟩
 f47:=kfKS func224
 f48:=kfKS func225
 f49:=⟨Tryz.f243.name,by decide,kfKS func243⟩
 f50:=⟨Tryz.f244.name,by decide,kfKS func244⟩
 f57:=⟨Tryz.f253.name,by decide,kfKS func253⟩
 t0:=underlying0
 a0:=isAgg0
 z0:=sizeOf0
 v0:=zeroValue0
 t3:=underlying3
 a3:=isAgg3
 z3:=sizeOf3
 v3:=zeroValue3
 t4:=underlying4
 a4:=isAgg4
 z4:=sizeOf4
 v4:=zeroValue4
 t5:=underlying5
 a5:=isAgg5
 z5:=sizeOf5
 v5:=zeroValue5
 t9:=underlying9
 a9:=isAgg9
 z9:=sizeOf9
 v9:=zeroValue9
 t22:=underlying22
 a22:=isAgg22
 z22:=sizeOf22
 v22:=zeroValue22
 t25:=underlying27
 a25:=isAgg27
 z25:=sizeOf27
 v25:=zeroValue27
 t39:=underlying190
 a39:=isAgg190
 z39:=sizeOf190
 v39:=zeroValue190
 t45:=underlying242
 a45:=isAgg242
 z45:=sizeOf242
 v45:=zeroValue242
 t46:=underlying243
 a46:=isAgg243
 z46:=sizeOf243
 v46:=zeroValue243
 t50:=underlying108
 a50:=isAgg108
 z50:=sizeOf108
 v50:=zeroValue108
 t53:=underlying228
 a53:=isAgg228
 z53:=sizeOf228
 v53:=zeroValue228
 t55:=underlying217
 a55:=isAgg217
 z55:=sizeOf217
 v55:=zeroValue217
 t66:=underlying294
 a66:=isAgg294
 z66:=sizeOf294
 v66:=zeroValue294
 t70:=underlying298
 a70:=isAgg298
 z70:=sizeOf298
 v70:=zeroValue298
 t76:=underlying312
 a76:=isAgg312
 z76:=sizeOf312
 v76:=zeroValue312
 t77:=underlying313
 a77:=isAgg313
 z77:=sizeOf313
 v77:=zeroValue313 }
end Go.Proofs
theorem kfKT {α:Type} {o:Option α} {f g:α} (h:o=some f) (e:f=g:=by kernel_rfl):o=some g:=h.trans (congrArg some e)
namespace Go.Proofs
open Go.Proofs.Tryz
open Go.RowKit
def Tryz.sortP_ren:Go.Shelf.Ren:=⟨fun|6=>72|15=>112|14=>123|28=>165|29=>166|20=>176|21=>177|22=>178|23=>179|24=>180|25=>181|26=>182|27=>183|46=>233|47=>224|48=>225|49=>234|50=>235|57=>250|n=>n,fun|22=>31|24=>56|25=>147|3=>3|39=>190|0=>0|53=>228|55=>217|4=>4|46=>243|45=>242|50=>108|5=>5|9=>9|66=>294|70=>298|76=>312|77=>313|n=>n,fun|n=>n⟩
theorem Tryz.sortP:Go.Proofs.SlLaysF0.n6 Tryz.prog Tryz.sortP_ren:={
 mixed:=by kernel_rfl
 f6:=⟨Tryz.f72.name,by decide,kfKT func72⟩
 f14:=⟨Tryz.f123.name,by decide,kfKT func123⟩
 f15:=kfKT func112
 f20:=⟨Tryz.f176.name,by decide,kfKT func176⟩
 f21:=⟨Tryz.f177.name,by decide,kfKT func177⟩
 f22:=⟨Tryz.f178.name,by decide,kfKT func178⟩
 f23:=⟨Tryz.f179.name,by decide,kfKT func179⟩
 f24:=⟨Tryz.f180.name,by decide,kfKT func180⟩
 f25:=⟨Tryz.f181.name,by decide,kfKT func181⟩
 f26:=⟨Tryz.f182.name,by decide,kfKT func182⟩
 f27:=⟨Tryz.f183.name,by decide,kfKT func183⟩
 f28:=kfKT func165
 f29:=kfKT func166
 f46:=⟨Tryz.f233.name,by decide,kfKT func233⟩
 f47:=kfKT func224
 f48:=kfKT func225
 f49:=⟨Tryz.f234.name,by decide,kfKT func234⟩
 f50:=⟨Tryz.f235.name,by decide,kfKT func235⟩
 f57:=⟨Tryz.f250.name,by decide,kfKT func250⟩
 t0:=underlying0
 a0:=isAgg0
 z0:=sizeOf0
 v0:=zeroValue0
 t3:=underlying3
 a3:=isAgg3
 z3:=sizeOf3
 v3:=zeroValue3
 t4:=underlying4
 a4:=isAgg4
 z4:=sizeOf4
 v4:=zeroValue4
 t5:=underlying5
 a5:=isAgg5
 z5:=sizeOf5
 v5:=zeroValue5
 t9:=underlying9
 a9:=isAgg9
 z9:=sizeOf9
 v9:=zeroValue9
 t22:=underlying31
 a22:=isAgg31
 z22:=sizeOf31
 v22:=zeroValue31
 t25:=underlying147
 a25:=isAgg147
 z25:=sizeOf147
 v25:=zeroValue147
 t39:=underlying190
 a39:=isAgg190
 z39:=sizeOf190
 v39:=zeroValue190
 t45:=underlying242
 a45:=isAgg242
 z45:=sizeOf242
 v45:=zeroValue242
 t46:=underlying243
 a46:=isAgg243
 z46:=sizeOf243
 v46:=zeroValue243
 t50:=underlying108
 a50:=isAgg108
 z50:=sizeOf108
 v50:=zeroValue108
 t53:=underlying228
 a53:=isAgg228
 z53:=sizeOf228
 v53:=zeroValue228
 t55:=underlying217
 a55:=isAgg217
 z55:=sizeOf217
 v55:=zeroValue217
 t66:=underlying294
 a66:=isAgg294
 z66:=sizeOf294
 v66:=zeroValue294
 t70:=underlying298
 a70:=isAgg298
 z70:=sizeOf298
 v70:=zeroValue298
 t76:=underlying312
 a76:=isAgg312
 z76:=sizeOf312
 v76:=zeroValue312
 t77:=underlying313
 a77:=isAgg313
 z77:=sizeOf313
 v77:=zeroValue313 }
def Tryz.sortE_ren:Go.Shelf.Ren:=⟨fun|6=>77|15=>112|14=>125|28=>165|29=>166|20=>184|21=>185|22=>186|23=>187|24=>188|25=>189|26=>190|27=>191|46=>236|47=>224|48=>225|49=>237|50=>238|57=>251|n=>n,fun|22=>32|24=>101|25=>158|3=>3|39=>190|0=>0|53=>228|55=>217|4=>4|46=>243|45=>242|50=>108|5=>5|9=>9|66=>294|70=>298|76=>312|77=>313|n=>n,fun|n=>n⟩
theorem Tryz.sortE:Go.Proofs.SlLaysF0.n6 Tryz.prog Tryz.sortE_ren:={
 mixed:=by kernel_rfl
 f6:=⟨Tryz.f77.name,by decide,kfKT func77⟩
 f14:=⟨Tryz.f125.name,by decide,kfKT func125⟩
 f15:=kfKT func112
 f20:=⟨Tryz.f184.name,by decide,kfKT func184⟩
 f21:=⟨Tryz.f185.name,by decide,kfKT func185⟩
 f22:=⟨Tryz.f186.name,by decide,kfKT func186⟩
 f23:=⟨Tryz.f187.name,by decide,kfKT func187⟩
 f24:=⟨Tryz.f188.name,by decide,kfKT func188⟩
 f25:=⟨Tryz.f189.name,by decide,kfKT func189⟩
 f26:=⟨Tryz.f190.name,by decide,kfKT func190⟩
 f27:=⟨Tryz.f191.name,by decide,kfKT func191⟩
 f28:=kfKT func165
 f29:=kfKT func166
 f46:=⟨Tryz.f236.name,by decide,kfKT func236⟩
 f47:=kfKT func224
 f48:=kfKT func225
 f49:=⟨Tryz.f237.name,by decide,kfKT func237⟩
 f50:=⟨Tryz.f238.name,by decide,kfKT func238⟩
 f57:=⟨Tryz.f251.name,by decide,kfKT func251⟩
 t0:=underlying0
 a0:=isAgg0
 z0:=sizeOf0
 v0:=zeroValue0
 t3:=underlying3
 a3:=isAgg3
 z3:=sizeOf3
 v3:=zeroValue3
 t4:=underlying4
 a4:=isAgg4
 z4:=sizeOf4
 v4:=zeroValue4
 t5:=underlying5
 a5:=isAgg5
 z5:=sizeOf5
 v5:=zeroValue5
 t9:=underlying9
 a9:=isAgg9
 z9:=sizeOf9
 v9:=zeroValue9
 t22:=underlying32
 a22:=isAgg32
 z22:=sizeOf32
 v22:=zeroValue32
 t25:=underlying158
 a25:=isAgg158
 z25:=sizeOf158
 v25:=zeroValue158
 t39:=underlying190
 a39:=isAgg190
 z39:=sizeOf190
 v39:=zeroValue190
 t45:=underlying242
 a45:=isAgg242
 z45:=sizeOf242
 v45:=zeroValue242
 t46:=underlying243
 a46:=isAgg243
 z46:=sizeOf243
 v46:=zeroValue243
 t50:=underlying108
 a50:=isAgg108
 z50:=sizeOf108
 v50:=zeroValue108
 t53:=underlying228
 a53:=isAgg228
 z53:=sizeOf228
 v53:=zeroValue228
 t55:=underlying217
 a55:=isAgg217
 z55:=sizeOf217
 v55:=zeroValue217
 t66:=underlying294
 a66:=isAgg294
 z66:=sizeOf294
 v66:=zeroValue294
 t70:=underlying298
 a70:=isAgg298
 z70:=sizeOf298
 v70:=zeroValue298
 t76:=underlying312
 a76:=isAgg312
 z76:=sizeOf312
 v76:=zeroValue312
 t77:=underlying313
 a77:=isAgg313
 z77:=sizeOf313
 v77:=zeroValue313 }
end Go.Proofs
