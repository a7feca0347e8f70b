/- Of FY KS KT. -/
import Derived.Shelf.Strconv.Itoa0
import Derived.Shelf.Sort.Plain
import Derived.Ground.Names2Prog
import Derived.Shelf.Slices.CompactI
import Derived.Shelf.Slices.SearchI
import Derived.Shelf.Slices.Cells
import Derived.Shelf.Slices.In.SortNone
import Derived.Ground.SlsfProg
import Derived.Shelf.SlSortCmp.Insertion
import Derived.Shelf.SlSortCmp.SiftDown1
import Derived.Shelf.SlSortCmp.HeapSort1
import Derived.Shelf.SlSortCmp.Insertion1
import Derived.Shelf.SlSortCmp.Median1
import Derived.Shelf.SlSortCmp.Pivot1
import Derived.Shelf.SlSortCmp.ReverseRange1
import Derived.Shelf.SlSortCmp.PartialInsertion1
import Derived.Shelf.SlSortCmp.PartitionEqual1
import Derived.Shelf.SlSortCmp.Partition1
import Derived.Shelf.SlSortCmp.Pdq1
import Derived.Shelf.SlSortCmp.Whole1
import Derived.Shelf.SlSortCmp.NoneTotal
import Derived.Test.YtjeofihncbegfaaGreatQ26
set_option maxRecDepth 100000
set_option maxHeartbeats 16000000
set_option linter.unusedVariables false
set_option linter.unusedSimpArgs false
namespace Go.Hp
open Go.Proofs.Tryz
open Go Go.RowKit
def skipV (V:List Pt) (es:List Ed) (v e:Nat):Bool :=
 decide ((nth ed0 es e).a=v) || decide ((nth ed0 es e).b=v) || !xleV V (nth ed0 es e).a v || xleV V (nth ed0 es e).b v || decide (sdV V es e v≤0)
def belTo (V:List Pt) (es:List Ed) (v:Nat):Nat→Int
 | 0=>-1
 | k+1=>if skipV V es v k then belTo V es v k else if belTo V es v k<0 then (k:Int) else if higherV V es k (belTo V es v k).toNat then (k:Int) else belTo V es v k
theorem belTo_lt (V:List Pt) (es:List Ed) (v:Nat):∀ k,-1≤belTo V es v k∧belTo V es v k<(k:Int)
 | 0=>by unfold belTo;omega
 | k+1=>by
  have:=belTo_lt V es v k;unfold belTo
  split
  ·omega
  ·split
   ·omega
   ·split <;> omega
theorem Heap.cellsOld {w0 w:World} {H:List Chunk} {b:Nat} {arr:Array Value} {T:TypeId} (hS:Heap w0 w H) (j:Nat) (hj:H[j]? = some (.blk b (.cells arr T (0,0)))):CellsAt w (Old w) ⟨b,0,none⟩ arr.toList:=by
 have hb:=hS.blk (List.mem_of_getElem? hj);refine⟨fun _=>rfl,fun _=>(Array.getElem?_eq_some_iff.1 hb).1,fun q u hu=>?_⟩;have h1:w.cell? ⟨b,q,none⟩=some u:=by rw [cell_of_row w b q _ T (0,0) hb];simpa using hu
 simpa using h1
end Go.Hp
namespace Go.Proofs
open Go.Proofs.Tryz
open Go.RowKit Go.Hp
theorem below_any (a1 a2 a3 a4:Option Addr) (n1 c1 n2 c2 n3 c3 n4 c4:Nat) (rs:List ER) (es:List Ed) (prs:List PR) (V:List Pt) (m v:Nat) (w:World) (S:Nat→Prop) (hA:ArrIn w S a3 a4 n3 c3 n4 c4 rs es prs V m) (hm:8*m+8≤16384) (hv:v<V.length) (hVl:V.length≤1000000) (hEl:es.length≤1000000) :
 Calls Tryz.prog 44 #[.agg #[.slice a1 n1 c1,.slice a2 n2 c2,.slice a3 n3 c3,.slice a4 n4 c4],.int .i64 (v:Int)] w fun en w'=>en=.returned (.int .i64 (belTo V es v es.length))∧Pure w S w' S:=by
 have hn3:=hA.n3;have hn4:=hA.n4;subst hn3 hn4;have hL:=hA.live;have hsl:=hA.hE.weaken hL;replace hsl:SlC w (Old w) 5 (.slice a4 es.length c4) es.length (rs.flatMap ec):=hsl;obtain⟨hS,hF0,hO0,hp0⟩:=st0 hL
 go_enter func44,ntmps44
 go_wp2_with (with_reducible first|refine bxA hS fun bx wbx hS=>?_|refine alA hS zeroValue74 fun b5 wb5 hS=>?_|refine stA 2 hS sizeOf74 fun _ hS=>?_|refine ldB 1 hS isAgg26 ?_)
 try try simp only [NRG]
 go_loopw [8,17] (fun v8 v17 wr=>∃ k:Nat,k≤es.length∧v17=.int .i64 (k:Int)∧v8=.int .i64 (belTo V es v k)∧Heap w wr [.frz (Old w) w,.blk bx (.cells #[.slice a1 n1 c1,.slice a2 n2 c2,.slice a3 V.length c3,.slice a4 es.length c4] 28 (0,0)),.blk b5 (.cells #[.func (.func 103) #[] #[.pointer (some ⟨bx,0,none⟩)]] 74 (0,0))]) (fun _ v17 _=>es.length - (intOf v17).toNat)
 case atStart=>exact⟨0,by omega,rfl,rfl,hS⟩
 case round =>
  clear hS;obtain⟨k,hk,rfl,rfl,hS⟩:=hrel;have hnx:belTo V es v (k+1)=if skipV V es v k then belTo V es v k else if belTo V es v k<0 then (k:Int) else if higherV V es k (belTo V es v k).toNat then (k:Int) else belTo V es v k:=rfl
  have hbl:=belTo_lt V es v k;obtain⟨B,hB⟩:∃ B,belTo V es v k=B:=⟨_,rfl⟩;rw [hB] at hnx hbl;rw [hB]
  by_cases hkl:k<es.length
  ·have hc:=flat_cell ec_len er0 (show k<rs.length by rw [hA.hEs.len];omega)
   have hE:=hA.hEs.el k hkl;have hab:=hA.ab _ (nth_mem ed0 es k hkl);obtain⟨r,hr⟩:∃ r,nth er0 rs k=r:=⟨_,rfl⟩;rw [hr] at hc hE;unfold skipV at hnx;rw [← hE.a,← hE.b] at hnx hab;replace hc:((rs.flatMap ec).drop (k*5)).take 5=[.int .i64 (r.a:Int),.int .i64 (r.b:Int),.slice r.ad r.n r.c,.int .i64 r.dir.x,.int .i64 r.dir.y]:=hc;have x1:=fun w' S' h1 h2=>bxle_any bx a1 a2 a3 a4 n1 c1 n2 c2 V.length c3 es.length c4 rs es prs V m r.a v w' S' h1 h2 hab.1 hv hVl
   have x2:=fun w' S' h1 h2=>bxle_any bx a1 a2 a3 a4 n1 c1 n2 c2 V.length c3 es.length c4 rs es prs V m r.b v w' S' h1 h2 hab.2 hv hVl
   have x3:=fun w' S' h1 h2=>bside_any bx a1 a2 a3 a4 n1 c1 n2 c2 V.length c3 es.length c4 rs es prs V m k v w' S' h1 h2 hm hkl hv hVl hEl
   have x4:=fun (b:Nat) (hb:b<es.length) w' S' h1 h2 h3=>bhigher_any bx b5 a1 a2 a3 a4 n1 c1 n2 c2 V.length c3 es.length c4 rs es prs V m k b w' S' h1 h2 h3 hm hkl hb hVl hEl
   obtain⟨X1,e1⟩:∃ X,xleV V r.a v=X:=⟨_,rfl⟩;obtain⟨X2,e2⟩:∃ X,xleV V r.b v=X:=⟨_,rfl⟩;obtain⟨X3,e3⟩:∃ X,sdV V es k v=X:=⟨_,rfl⟩;simp only [e1] at x1;simp only [e2] at x2;simp only [e3] at x3;rw [e1,e2,e3] at hnx;clear e1 e2 e3 hE hr hab
   by_cases q1:r.a=v
   ·have d1:((r.a:Int) == (v:Int))=true:=by simp [q1]
    rw [if_pos (by simp [q1])] at hnx;replace hnx:=Hd hnx;replace hB:=Hd hB;clear q1 x1 x2 x3 x4;go_wp2;refine rg0 [.p 0,.r 1,.p 2,.p 3,.p 4,.r 5,.p 6,.r 7,.p 8,.p 9,.p 10,.r 11,.p 12,.e 13,.m 14] [14] hS fun w1 hS=>?_
    repeat (with_reducible first|refine sldB 1 isAgg26 ?_|refine sixE underlying26 sizeOf53 hsl hc fun bq oq hcellq=>?_|refine sld0 isAgg3 ?_|refine sldJ 1 isAgg3 ?_|refine spL ?_)
    refine exL ?_
    (with_reducible refine alA hS zeroValue163 fun b10 wb10 hS=>?_)
    refine ext_end hS.sb ?_;refine mvs ?_;refine muL ?_
    (with_reducible refine stA 3 hS sizeOf163 fun _ hS=>?_)
    refine mut_end ?_;refine snL ?_;clear hc hcellq
    go_wp2_with (with_reducible refine ldB 3 hS isAgg3 ?_)
    go_roundw
    case rel=>exact⟨k+1,by omega,by simp,by rw [hnx.out],hS.sb⟩
    case measure=>simp [intOf];omega
   ·have d1:((r.a:Int) == (v:Int))=false:=by simp;omega
    by_cases q2:r.b=v
    ·have d2:((r.b:Int) == (v:Int))=true:=by simp [q2]
     rw [if_pos (by simp [q2])] at hnx;replace hnx:=Hd hnx;replace hB:=Hd hB;clear q1 q2 x1 x2 x3 x4;go_wp2;refine rg0 [.p 0,.r 1,.p 2,.p 3,.p 4,.r 5,.p 6,.r 7,.p 8,.p 9,.p 10,.r 11,.p 12,.e 13,.m 14] [14] hS fun w1 hS=>?_
     repeat (with_reducible first|refine sldB 1 isAgg26 ?_|refine sixE underlying26 sizeOf53 hsl hc fun bq oq hcellq=>?_|refine sld0 isAgg3 ?_|refine sldJ 1 isAgg3 ?_|refine spL ?_)
     refine exL ?_
     (with_reducible refine alA hS zeroValue163 fun b10 wb10 hS=>?_)
     refine ext_end hS.sb ?_;refine mvs ?_;refine muL ?_
     (with_reducible refine stA 3 hS sizeOf163 fun _ hS=>?_)
     refine mut_end ?_;refine snL ?_;clear hc hcellq
     go_wp2_with (with_reducible refine ldB 3 hS isAgg3 ?_)
     go_roundw
     case rel=>exact⟨k+1,by omega,by simp,by rw [hnx.out],hS.sb⟩
     case measure=>simp [intOf];omega
    ·have d2:((r.b:Int) == (v:Int))=false:=by simp;omega
     cases X1 with
     | false =>
      rw [if_pos (by simp)] at hnx;replace hnx:=Hd hnx;replace hB:=Hd hB;clear q1 q2 x2 x3 x4;go_wp2;refine rg0 [.p 0,.r 1,.p 2,.p 3,.p 4,.r 5,.p 6,.r 7,.p 8,.p 9,.p 10,.r 11,.p 12,.e 13,.m 14] [14] hS fun w1 hS=>?_
      repeat (with_reducible first|refine sldB 1 isAgg26 ?_|refine sixE underlying26 sizeOf53 hsl hc fun bq oq hcellq=>?_|refine sld0 isAgg3 ?_|refine sldJ 1 isAgg3 ?_|refine spL ?_)
      refine exL ?_
      (with_reducible refine alA hS zeroValue163 fun b10 wb10 hS=>?_)
      refine ext_end hS.sb ?_;refine mvs ?_;refine muL ?_
      (with_reducible refine stA 3 hS sizeOf163 fun _ hS=>?_)
      refine mut_end ?_;refine snL ?_;clear hc hcellq
      go_wp2_with (with_reducible refine ldB 3 hS isAgg3 ?_)
      refine (x1 _ S (hS.cellsOld 1 rfl) (hA.at hS hF0)).mono ?_;rintro e w5 ⟨rfl,hq⟩;have hS:=hS.below hq.below hq.drawn;simp only []
      go_wp2_with (with_reducible first|refine ldB 3 hS isAgg3 ?_|refine ldB 2 hS isAgg74 ?_)
      go_roundw
      case rel=>exact⟨k+1,by omega,by simp,by rw [hnx.out],hS.sb⟩
      case measure=>simp [intOf];omega
     | true =>
      cases X2 with
      | true =>
       rw [if_pos (by simp)] at hnx;replace hnx:=Hd hnx;replace hB:=Hd hB;clear q1 q2 x3 x4;go_wp2;refine rg0 [.p 0,.r 1,.p 2,.p 3,.p 4,.r 5,.p 6,.r 7,.p 8,.p 9,.p 10,.r 11,.p 12,.e 13,.m 14] [14] hS fun w1 hS=>?_
       repeat (with_reducible first|refine sldB 1 isAgg26 ?_|refine sixE underlying26 sizeOf53 hsl hc fun bq oq hcellq=>?_|refine sld0 isAgg3 ?_|refine sldJ 1 isAgg3 ?_|refine spL ?_)
       refine exL ?_
       (with_reducible refine alA hS zeroValue163 fun b10 wb10 hS=>?_)
       refine ext_end hS.sb ?_;refine mvs ?_;refine muL ?_
       (with_reducible refine stA 3 hS sizeOf163 fun _ hS=>?_)
       refine mut_end ?_;refine snL ?_;clear hc hcellq
       go_wp2_with (with_reducible refine ldB 3 hS isAgg3 ?_)
       refine (x1 _ S (hS.cellsOld 1 rfl) (hA.at hS hF0)).mono ?_;rintro e w5 ⟨rfl,hq⟩;have hS:=hS.below hq.below hq.drawn;simp only []
       go_wp2_with (with_reducible refine ldB 3 hS isAgg3 ?_)
       refine (x2 _ S (hS.cellsOld 1 rfl) (hA.at hS hF0)).mono ?_;rintro e w5 ⟨rfl,hq⟩;have hS:=hS.below hq.below hq.drawn;simp only []
       go_wp2_with (with_reducible first|refine ldB 3 hS isAgg3 ?_|refine ldB 2 hS isAgg74 ?_)
       go_roundw
       case rel=>exact⟨k+1,by omega,by simp,by rw [hnx.out],hS.sb⟩
       case measure=>simp [intOf];omega
      | false =>
       by_cases q3:X3≤0
       ·have d3:decide (X3≤0)=true:=by simpa using q3
        rw [if_pos (by simp [q3])] at hnx;replace hnx:=Hd hnx;replace hB:=Hd hB;clear q1 q2 q3 x4;go_wp2;refine rg0 [.p 0,.r 1,.p 2,.p 3,.p 4,.r 5,.p 6,.r 7,.p 8,.p 9,.p 10,.r 11,.p 12,.e 13,.m 14] [14] hS fun w1 hS=>?_
        repeat (with_reducible first|refine sldB 1 isAgg26 ?_|refine sixE underlying26 sizeOf53 hsl hc fun bq oq hcellq=>?_|refine sld0 isAgg3 ?_|refine sldJ 1 isAgg3 ?_|refine spL ?_)
        refine exL ?_
        (with_reducible refine alA hS zeroValue163 fun b10 wb10 hS=>?_)
        refine ext_end hS.sb ?_;refine mvs ?_;refine muL ?_
        (with_reducible refine stA 3 hS sizeOf163 fun _ hS=>?_)
        refine mut_end ?_;refine snL ?_;clear hc hcellq
        go_wp2_with (with_reducible refine ldB 3 hS isAgg3 ?_)
        refine (x1 _ S (hS.cellsOld 1 rfl) (hA.at hS hF0)).mono ?_;rintro e w5 ⟨rfl,hq⟩;have hS:=hS.below hq.below hq.drawn;simp only []
        go_wp2_with (with_reducible refine ldB 3 hS isAgg3 ?_)
        refine (x2 _ S (hS.cellsOld 1 rfl) (hA.at hS hF0)).mono ?_;rintro e w5 ⟨rfl,hq⟩;have hS:=hS.below hq.below hq.drawn;simp only []
        go_wp2_with (with_reducible refine ldB 2 hS isAgg74 ?_)
        refine (x3 _ S (hS.cellsOld 1 rfl) (hA.at hS hF0)).mono ?_;rintro e w5 ⟨rfl,hq⟩;have hS:=hS.below hq.below hq.drawn;simp only []
        go_wp2_with (with_reducible first|refine ldB 3 hS isAgg3 ?_|refine ldB 2 hS isAgg74 ?_)
        go_roundw
        case rel=>exact⟨k+1,by omega,by simp,by rw [hnx.out],hS.sb⟩
        case measure=>simp [intOf];omega
       ·have d3:decide (X3≤0)=false:=by simpa using q3
        rw [if_neg (by simp [q1,q2,q3])] at hnx
        by_cases q4:B<0
        ·have d4:decide (B<0)=true:=by simpa using q4
         rw [if_pos q4] at hnx;replace hnx:=Hd hnx;replace hB:=Hd hB;clear q1 q2 q3 x4;go_wp2;refine rg0 [.p 0,.r 1,.p 2,.p 3,.p 4,.r 5,.p 6,.r 7,.p 8,.p 9,.p 10,.r 11,.p 12,.e 13,.m 14] [14] hS fun w1 hS=>?_
         repeat (with_reducible first|refine sldB 1 isAgg26 ?_|refine sixE underlying26 sizeOf53 hsl hc fun bq oq hcellq=>?_|refine sld0 isAgg3 ?_|refine sldJ 1 isAgg3 ?_|refine spL ?_)
         refine exL ?_
         (with_reducible refine alA hS zeroValue163 fun b10 wb10 hS=>?_)
         refine ext_end hS.sb ?_;refine mvs ?_;refine muL ?_
         (with_reducible refine stA 3 hS sizeOf163 fun _ hS=>?_)
         refine mut_end ?_;refine snL ?_;clear hc hcellq
         go_wp2_with (with_reducible refine ldB 3 hS isAgg3 ?_)
         refine (x1 _ S (hS.cellsOld 1 rfl) (hA.at hS hF0)).mono ?_;rintro e w5 ⟨rfl,hq⟩;have hS:=hS.below hq.below hq.drawn;simp only []
         go_wp2_with (with_reducible refine ldB 3 hS isAgg3 ?_)
         refine (x2 _ S (hS.cellsOld 1 rfl) (hA.at hS hF0)).mono ?_;rintro e w5 ⟨rfl,hq⟩;have hS:=hS.below hq.below hq.drawn;simp only []
         go_wp2_with (with_reducible refine ldB 2 hS isAgg74 ?_)
         refine (x3 _ S (hS.cellsOld 1 rfl) (hA.at hS hF0)).mono ?_;rintro e w5 ⟨rfl,hq⟩;have hS:=hS.below hq.below hq.drawn;simp only []
         go_wp2_with (with_reducible first|refine ldB 3 hS isAgg3 ?_|refine ldB 2 hS isAgg74 ?_)
         go_roundw
         case rel=>exact⟨k+1,by omega,by simp,by rw [hnx.out],hS.sb⟩
         case measure=>simp [intOf];omega
        ·obtain⟨b,hb⟩:∃ b:Nat,B=(b:Int):=⟨B.toNat,by omega⟩
         subst hb;have d4:decide ((b:Int)<0)=false:=by simp
         rw [if_neg q4,Int.toNat_natCast] at hnx;have x5:=x4 b (by omega);obtain⟨X4,e4⟩:∃ X,higherV V es k b=X:=⟨_,rfl⟩;simp only [e4] at x5;rw [e4] at hnx;cases X4 with
         | true =>
          rw [if_pos rfl] at hnx;replace hnx:=Hd hnx;replace hB:=Hd hB;replace e4:=Hd e4;clear q1 q2 q3 q4 x4;go_wp2;refine rg0 [.p 0,.r 1,.p 2,.p 3,.p 4,.r 5,.p 6,.r 7,.p 8,.p 9,.p 10,.r 11,.p 12,.e 13,.m 14] [14] hS fun w1 hS=>?_
          repeat (with_reducible first|refine sldB 1 isAgg26 ?_|refine sixE underlying26 sizeOf53 hsl hc fun bq oq hcellq=>?_|refine sld0 isAgg3 ?_|refine sldJ 1 isAgg3 ?_|refine spL ?_)
          refine exL ?_
          (with_reducible refine alA hS zeroValue163 fun b10 wb10 hS=>?_)
          refine ext_end hS.sb ?_;refine mvs ?_;refine muL ?_
          (with_reducible refine stA 3 hS sizeOf163 fun _ hS=>?_)
          refine mut_end ?_;refine snL ?_;clear hc hcellq
          go_wp2_with (with_reducible refine ldB 3 hS isAgg3 ?_)
          refine (x1 _ S (hS.cellsOld 1 rfl) (hA.at hS hF0)).mono ?_;rintro e w5 ⟨rfl,hq⟩;have hS:=hS.below hq.below hq.drawn;simp only []
          go_wp2_with (with_reducible refine ldB 3 hS isAgg3 ?_)
          refine (x2 _ S (hS.cellsOld 1 rfl) (hA.at hS hF0)).mono ?_;rintro e w5 ⟨rfl,hq⟩;have hS:=hS.below hq.below hq.drawn;simp only []
          go_wp2_with (with_reducible refine ldB 2 hS isAgg74 ?_)
          refine (x3 _ S (hS.cellsOld 1 rfl) (hA.at hS hF0)).mono ?_;rintro e w5 ⟨rfl,hq⟩;have hS:=hS.below hq.below hq.drawn;simp only []
          go_wp2_with (with_reducible first|refine ldB 3 hS isAgg3 ?_|refine ldB 2 hS isAgg74 ?_)
          refine (x5 _ S (hS.cellsOld 1 rfl) (hS.cellsOld 2 rfl) (hA.at hS hF0)).mono ?_;rintro e w5 ⟨rfl,hq⟩;have hS:=hS.below hq.below hq.drawn;simp only []
          go_wp2_with (with_reducible first|refine ldB 3 hS isAgg3 ?_|refine ldB 2 hS isAgg74 ?_)
          go_roundw
          case rel=>exact⟨k+1,by omega,by simp,by rw [hnx.out],hS.sb⟩
          case measure=>simp [intOf];omega
         | false =>
          rw [if_neg (by simp)] at hnx;replace hnx:=Hd hnx;replace hB:=Hd hB;replace e4:=Hd e4;clear q1 q2 q3 q4 x4;go_wp2;refine rg0 [.p 0,.r 1,.p 2,.p 3,.p 4,.r 5,.p 6,.r 7,.p 8,.p 9,.p 10,.r 11,.p 12,.e 13,.m 14] [14] hS fun w1 hS=>?_
          repeat (with_reducible first|refine sldB 1 isAgg26 ?_|refine sixE underlying26 sizeOf53 hsl hc fun bq oq hcellq=>?_|refine sld0 isAgg3 ?_|refine sldJ 1 isAgg3 ?_|refine spL ?_)
          refine exL ?_
          (with_reducible refine alA hS zeroValue163 fun b10 wb10 hS=>?_)
          refine ext_end hS.sb ?_;refine mvs ?_;refine muL ?_
          (with_reducible refine stA 3 hS sizeOf163 fun _ hS=>?_)
          refine mut_end ?_;refine snL ?_;clear hc hcellq
          go_wp2_with (with_reducible refine ldB 3 hS isAgg3 ?_)
          refine (x1 _ S (hS.cellsOld 1 rfl) (hA.at hS hF0)).mono ?_;rintro e w5 ⟨rfl,hq⟩;have hS:=hS.below hq.below hq.drawn;simp only []
          go_wp2_with (with_reducible refine ldB 3 hS isAgg3 ?_)
          refine (x2 _ S (hS.cellsOld 1 rfl) (hA.at hS hF0)).mono ?_;rintro e w5 ⟨rfl,hq⟩;have hS:=hS.below hq.below hq.drawn;simp only []
          go_wp2_with (with_reducible refine ldB 2 hS isAgg74 ?_)
          refine (x3 _ S (hS.cellsOld 1 rfl) (hA.at hS hF0)).mono ?_;rintro e w5 ⟨rfl,hq⟩;have hS:=hS.below hq.below hq.drawn;simp only []
          go_wp2_with (with_reducible first|refine ldB 3 hS isAgg3 ?_|refine ldB 2 hS isAgg74 ?_)
          refine (x5 _ S (hS.cellsOld 1 rfl) (hS.cellsOld 2 rfl) (hA.at hS hF0)).mono ?_;rintro e w5 ⟨rfl,hq⟩;have hS:=hS.below hq.below hq.drawn;simp only []
          go_wp2_with (with_reducible first|refine ldB 3 hS isAgg3 ?_|refine ldB 2 hS isAgg74 ?_)
          go_roundw
          case rel=>exact⟨k+1,by omega,by simp,by rw [hnx.out],hS.sb⟩
          case measure=>simp [intOf];omega
  ·obtain rfl:es.length=k:=by omega
   replace hnx:=Hd hnx;replace hB:=Hd hB;go_wp2;go_ret;exact⟨by rw [hB.out];rfl,hS.pure S⟩
end Go.Proofs
theorem kfKS {α:Type} {o:Option α} {f g:α} (h:o=some f) (e:f=g:=by kernel_rfl):o=some g:=h.trans (congrArg some e)
namespace Go.Proofs
open Go.Proofs.Tryz
open Go.Shelf
def Tryz.lays189_ren:Go.Shelf.Ren:=⟨fun|189=>45|125=>108|257=>107|128=>171|129=>172|294=>162|295=>163|296=>164|297=>165|298=>166|299=>167|216=>168|300=>169|301=>170|328=>224|329=>225|330=>226|331=>227|332=>228|215=>149|343=>246|n=>n,fun|28=>22|3=>3|46=>166|0=>0|51=>230|53=>214|4=>4|183=>224|182=>223|131=>95|5=>5|9=>9|218=>269|222=>273|228=>284|229=>285|n=>n,fun|n=>n⟩
theorem Tryz.lays189:Go.Proofs.Lays.n189 Tryz.prog Tryz.lays189_ren:={
 mixed:=by kernel_rfl
 f125:=kfKS func108
 f128:=kfKS func171
 f129:=kfKS func172
 f189:=kfKS func45
 f215:=kfKS func149
 f216:=kfKS func168
 f257:=kfKS func107
 f294:=kfKS func162
 f295:=kfKS func163
 f296:=kfKS func164
 f297:=kfKS func165
 f298:=kfKS func166
 f299:=kfKS func167
 f300:=kfKS func169
 f301:=kfKS func170
 f328:=kfKS func224
 f329:=kfKS func225
 f330:=kfKS func226
 f331:=kfKS func227
 f332:=kfKS func228
 f343:=kfKS func246
 t0:=underlying0
 a0:=isAgg0
 z0:=sizeOf0
 v0:=zeroValue0
 t3:=underlying3
 a3:=isAgg3
 z3:=sizeOf3
 v3:=zeroValue3
 t4:=underlying4
 a4:=isAgg4
 z4:=sizeOf4
 v4:=zeroValue4
 t5:=underlying5
 a5:=isAgg5
 z5:=sizeOf5
 v5:=zeroValue5
 t9:=underlying9
 a9:=isAgg9
 z9:=sizeOf9
 v9:=zeroValue9
 t28:=underlying22
 a28:=isAgg22
 z28:=sizeOf22
 v28:=zeroValue22
 t46:=underlying166
 a46:=isAgg166
 z46:=sizeOf166
 v46:=zeroValue166
 t51:=underlying230
 a51:=isAgg230
 z51:=sizeOf230
 v51:=zeroValue230
 t53:=underlying214
 a53:=isAgg214
 z53:=sizeOf214
 v53:=zeroValue214
 t131:=underlying95
 a131:=isAgg95
 z131:=sizeOf95
 v131:=zeroValue95
 t182:=underlying223
 a182:=isAgg223
 z182:=sizeOf223
 v182:=zeroValue223
 t183:=underlying224
 a183:=isAgg224
 z183:=sizeOf224
 v183:=zeroValue224
 t218:=underlying269
 a218:=isAgg269
 z218:=sizeOf269
 v218:=zeroValue269
 t222:=underlying273
 a222:=isAgg273
 z222:=sizeOf273
 v222:=zeroValue273
 t228:=underlying284
 a228:=isAgg284
 z228:=sizeOf284
 v228:=zeroValue284
 t229:=underlying285
 a229:=isAgg285
 z229:=sizeOf285
 v229:=zeroValue285 }
open Go.Sort Go.RowKit in
theorem Tryz.slices_Sort_int (blk off cap:Nat) (zs:List Int) (w:World) (hH:Holds (Value.int .i64) w blk off zs.toArray) (hblk:blk<w.heap.size) (hsz:zs.length<4611686018427387904) :
 Calls Tryz.prog 45 #[.slice (some ⟨blk,off,none⟩) zs.length cap] w fun e w' =>
  e=.returned (.tuple #[])∧∃ n os,w'=grow (putRow (Value.int .i64) (Sort.ahead w n) blk off (zs.mergeSort fun x y=>decide (x≤y)).toArray) os:=Any.slices_Sort_int Tryz.lays189 blk off cap zs w hH hblk hsz
def Tryz.laysNm220_ren:Go.Shelf.Ren:=⟨fun|20=>56|n=>n,fun|22=>22|3=>3|4=>4|0=>0|n=>n,fun|n=>n⟩
theorem Tryz.laysNm220:Go.Proofs.Lays2.n20 Tryz.prog Tryz.laysNm220_ren:={
 mixed:=by kernel_rfl
 f20:=kfKS func56
 t0:=underlying0
 a0:=isAgg0
 z0:=sizeOf0
 v0:=zeroValue0
 t3:=underlying3
 a3:=isAgg3
 z3:=sizeOf3
 v3:=zeroValue3
 t4:=underlying4
 a4:=isAgg4
 z4:=sizeOf4
 v4:=zeroValue4
 t22:=underlying22
 a22:=isAgg22
 z22:=sizeOf22
 v22:=zeroValue22
 i3:=by kernel_rfl }
open Go.RowKit Go.Lib Go.Sort in
theorem Tryz.slices_Compact_int (blk off cap:Nat) (zs:List Int) (w:World) (hH:Holds (Value.int .i64) w blk off zs.toArray) (hsz:zs.length≤9223372036854775807) (hcap:zs.length≤cap) :
 Calls Tryz.prog 56 #[.slice (some ⟨blk,off,none⟩) zs.length cap] w fun e w'=>e=.returned (.slice (some ⟨blk,off,none⟩) (Lib.compact zs).length cap)∧∃ q,w'=putRow (Value.int .i64) (Sort.ahead w q) blk off (Lib.compact zs++List.replicate (zs.length - (Lib.compact zs).length) 0).toArray:=Any.slices_Compact_int Tryz.laysNm220 blk off cap zs w hH hsz hcap
open Go.RowKit Go.Lib Go.Sort in
theorem Tryz.slices_Compact_int_empty (a:Option Addr) (cap:Nat) (w:World) :
 Calls Tryz.prog 56 #[.slice a 0 cap] w fun e w'=>e=.returned (.slice a 0 cap)∧w'=w:=Any.slices_Compact_int_empty Tryz.laysNm220 a cap w
open Go.RowKit Go.Sort in
theorem Tryz.slices_Sort_int_none (p:Option Addr) (cap:Nat) (w:World) :
 Calls Tryz.prog 45 #[.slice p 0 cap] w fun e w'=>e=.returned (.tuple #[])∧w'=w:=Any.slices_Sort_int_none Tryz.lays189 p cap w
def Tryz.laysSlF6_f57_ren:Go.Shelf.Ren:=⟨fun|6=>57|15=>108|14=>113|28=>171|29=>172|20=>175|21=>176|22=>177|23=>178|24=>179|25=>180|26=>181|27=>182|46=>229|47=>225|48=>226|49=>230|50=>231|57=>247|n=>n,fun|22=>22|24=>3|25=>74|3=>3|39=>166|0=>0|53=>230|55=>214|4=>4|46=>224|45=>223|50=>95|5=>5|9=>9|66=>269|70=>273|76=>284|77=>285|n=>n,fun|n=>n⟩
theorem Tryz.laysSlF6_f57:Go.Proofs.SlLaysF.n6 Tryz.prog Tryz.laysSlF6_f57_ren:={
 mixed:=by kernel_rfl
 f6:=⟨Tryz.f57.name,by decide,kfKS func57⟩
 f14:=⟨Tryz.f113.name,by decide,kfKS func113⟩
 f15:=kfKS func108
 f20:=⟨Tryz.f175.name,by decide,kfKS func175⟩
 f21:=⟨Tryz.f176.name,by decide,kfKS func176⟩
 f22:=⟨Tryz.f177.name,by decide,kfKS func177⟩
 f23:=⟨Tryz.f178.name,by decide,kfKS func178⟩
 f24:=⟨Tryz.f179.name,by decide,kfKS func179⟩
 f25:=⟨Tryz.f180.name,by decide,kfKS func180⟩
 f26:=⟨Tryz.f181.name,by decide,kfKS func181⟩
 f27:=⟨Tryz.f182.name,by decide,kfKS func182⟩
 f28:=kfKS func171
 f29:=kfKS func172
 f46:=⟨Tryz.f229.name,by decide,kfKS func229⟩
 f47:=kfKS func225
 f48:=kfKS func226
 f49:=⟨Tryz.f230.name,by decide,kfKS func230⟩
 f50:=⟨Tryz.f231.name,by decide,kfKS func231⟩
 f57:=⟨Tryz.f247.name,by decide,kfKS func247⟩
 t0:=underlying0
 a0:=isAgg0
 z0:=sizeOf0
 v0:=zeroValue0
 t3:=underlying3
 a3:=isAgg3
 z3:=sizeOf3
 v3:=zeroValue3
 t4:=underlying4
 a4:=isAgg4
 z4:=sizeOf4
 v4:=zeroValue4
 t5:=underlying5
 a5:=isAgg5
 z5:=sizeOf5
 v5:=zeroValue5
 t9:=underlying9
 a9:=isAgg9
 z9:=sizeOf9
 v9:=zeroValue9
 t22:=underlying22
 a22:=isAgg22
 z22:=sizeOf22
 v22:=zeroValue22
 a24:=isAgg3
 z24:=sizeOf3
 t25:=underlying74
 a25:=isAgg74
 z25:=sizeOf74
 v25:=zeroValue74
 t39:=underlying166
 a39:=isAgg166
 z39:=sizeOf166
 v39:=zeroValue166
 t45:=underlying223
 a45:=isAgg223
 z45:=sizeOf223
 v45:=zeroValue223
 t46:=underlying224
 a46:=isAgg224
 z46:=sizeOf224
 v46:=zeroValue224
 t50:=underlying95
 a50:=isAgg95
 z50:=sizeOf95
 v50:=zeroValue95
 t53:=underlying230
 a53:=isAgg230
 z53:=sizeOf230
 v53:=zeroValue230
 t55:=underlying214
 a55:=isAgg214
 z55:=sizeOf214
 v55:=zeroValue214
 t66:=underlying269
 a66:=isAgg269
 z66:=sizeOf269
 v66:=zeroValue269
 t70:=underlying273
 a70:=isAgg273
 z70:=sizeOf273
 v70:=zeroValue273
 t76:=underlying284
 a76:=isAgg284
 z76:=sizeOf284
 v76:=zeroValue284
 t77:=underlying285
 a77:=isAgg285
 z77:=sizeOf285
 v77:=zeroValue285 }
def Tryz.laysSlF06_f57_ren:Go.Shelf.Ren:=⟨fun|6=>57|15=>108|14=>113|28=>171|29=>172|20=>175|21=>176|22=>177|23=>178|24=>179|25=>180|26=>181|27=>182|46=>229|47=>225|48=>226|49=>230|50=>231|57=>247|n=>n,fun|22=>22|24=>3|25=>74|3=>3|39=>166|0=>0|53=>230|55=>214|4=>4|46=>224|45=>223|50=>95|5=>5|9=>9|66=>269|70=>273|76=>284|77=>285|n=>n,fun|n=>n⟩
theorem Tryz.laysSlF06_f57:Go.Proofs.SlLaysF0.n6 Tryz.prog Tryz.laysSlF06_f57_ren:={
 mixed:=by kernel_rfl
 f6:=⟨Tryz.f57.name,by decide,kfKS func57⟩
 f14:=⟨Tryz.f113.name,by decide,kfKS func113⟩
 f15:=kfKS func108
 f20:=⟨Tryz.f175.name,by decide,kfKS func175⟩
 f21:=⟨Tryz.f176.name,by decide,kfKS func176⟩
 f22:=⟨Tryz.f177.name,by decide,kfKS func177⟩
 f23:=⟨Tryz.f178.name,by decide,kfKS func178⟩
 f24:=⟨Tryz.f179.name,by decide,kfKS func179⟩
 f25:=⟨Tryz.f180.name,by decide,kfKS func180⟩
 f26:=⟨Tryz.f181.name,by decide,kfKS func181⟩
 f27:=⟨Tryz.f182.name,by decide,kfKS func182⟩
 f28:=kfKS func171
 f29:=kfKS func172
 f46:=⟨Tryz.f229.name,by decide,kfKS func229⟩
 f47:=kfKS func225
 f48:=kfKS func226
 f49:=⟨Tryz.f230.name,by decide,kfKS func230⟩
 f50:=⟨Tryz.f231.name,by decide,kfKS func231⟩
 f57:=⟨Tryz.f247.name,by decide,kfKS func247⟩
 t0:=underlying0
 a0:=isAgg0
 z0:=sizeOf0
 v0:=zeroValue0
 t3:=underlying3
 a3:=isAgg3
 z3:=sizeOf3
 v3:=zeroValue3
 t4:=underlying4
 a4:=isAgg4
 z4:=sizeOf4
 v4:=zeroValue4
 t5:=underlying5
 a5:=isAgg5
 z5:=sizeOf5
 v5:=zeroValue5
 t9:=underlying9
 a9:=isAgg9
 z9:=sizeOf9
 v9:=zeroValue9
 t22:=underlying22
 a22:=isAgg22
 z22:=sizeOf22
 v22:=zeroValue22
 t25:=underlying74
 a25:=isAgg74
 z25:=sizeOf74
 v25:=zeroValue74
 t39:=underlying166
 a39:=isAgg166
 z39:=sizeOf166
 v39:=zeroValue166
 t45:=underlying223
 a45:=isAgg223
 z45:=sizeOf223
 v45:=zeroValue223
 t46:=underlying224
 a46:=isAgg224
 z46:=sizeOf224
 v46:=zeroValue224
 t50:=underlying95
 a50:=isAgg95
 z50:=sizeOf95
 v50:=zeroValue95
 t53:=underlying230
 a53:=isAgg230
 z53:=sizeOf230
 v53:=zeroValue230
 t55:=underlying214
 a55:=isAgg214
 z55:=sizeOf214
 v55:=zeroValue214
 t66:=underlying269
 a66:=isAgg269
 z66:=sizeOf269
 v66:=zeroValue269
 t70:=underlying273
 a70:=isAgg273
 z70:=sizeOf273
 v70:=zeroValue273
 t76:=underlying284
 a76:=isAgg284
 z76:=sizeOf284
 v76:=zeroValue284
 t77:=underlying285
 a77:=isAgg285
 z77:=sizeOf285
 v77:=zeroValue285 }
end Go.Proofs
theorem kfKT {α:Type} {o:Option α} {f g:α} (h:o=some f) (e:f=g:=by kernel_rfl):o=some g:=h.trans (congrArg some e)
namespace Go.Proofs
open Go.Proofs.Tryz
open Go.RowKit
def Tryz.sortP_ren:Go.Shelf.Ren:=⟨fun|6=>79|15=>108|14=>146|28=>171|29=>172|20=>206|21=>207|22=>208|23=>209|24=>210|25=>211|26=>212|27=>213|46=>240|47=>225|48=>226|49=>241|50=>242|57=>249|n=>n,fun|22=>25|24=>65|25=>129|3=>3|39=>166|0=>0|53=>230|55=>214|4=>4|46=>224|45=>223|50=>95|5=>5|9=>9|66=>269|70=>273|76=>284|77=>285|n=>n,fun|n=>n⟩
theorem Tryz.sortP:Go.Proofs.SlLaysF0.n6 Tryz.prog Tryz.sortP_ren:={
 mixed:=by kernel_rfl
 f6:=⟨Tryz.f79.name,by decide,kfKT func79⟩
 f14:=⟨Tryz.f146.name,by decide,kfKT func146⟩
 f15:=kfKT func108
 f20:=⟨Tryz.f206.name,by decide,kfKT func206⟩
 f21:=⟨Tryz.f207.name,by decide,kfKT func207⟩
 f22:=⟨Tryz.f208.name,by decide,kfKT func208⟩
 f23:=⟨Tryz.f209.name,by decide,kfKT func209⟩
 f24:=⟨Tryz.f210.name,by decide,kfKT func210⟩
 f25:=⟨Tryz.f211.name,by decide,kfKT func211⟩
 f26:=⟨Tryz.f212.name,by decide,kfKT func212⟩
 f27:=⟨Tryz.f213.name,by decide,kfKT func213⟩
 f28:=kfKT func171
 f29:=kfKT func172
 f46:=⟨Tryz.f240.name,by decide,kfKT func240⟩
 f47:=kfKT func225
 f48:=kfKT func226
 f49:=⟨Tryz.f241.name,by decide,kfKT func241⟩
 f50:=⟨Tryz.f242.name,by decide,kfKT func242⟩
 f57:=⟨Tryz.f249.name,by decide,kfKT func249⟩
 t0:=underlying0
 a0:=isAgg0
 z0:=sizeOf0
 v0:=zeroValue0
 t3:=underlying3
 a3:=isAgg3
 z3:=sizeOf3
 v3:=zeroValue3
 t4:=underlying4
 a4:=isAgg4
 z4:=sizeOf4
 v4:=zeroValue4
 t5:=underlying5
 a5:=isAgg5
 z5:=sizeOf5
 v5:=zeroValue5
 t9:=underlying9
 a9:=isAgg9
 z9:=sizeOf9
 v9:=zeroValue9
 t22:=underlying25
 a22:=isAgg25
 z22:=sizeOf25
 v22:=zeroValue25
 t25:=underlying129
 a25:=isAgg129
 z25:=sizeOf129
 v25:=zeroValue129
 t39:=underlying166
 a39:=isAgg166
 z39:=sizeOf166
 v39:=zeroValue166
 t45:=underlying223
 a45:=isAgg223
 z45:=sizeOf223
 v45:=zeroValue223
 t46:=underlying224
 a46:=isAgg224
 z46:=sizeOf224
 v46:=zeroValue224
 t50:=underlying95
 a50:=isAgg95
 z50:=sizeOf95
 v50:=zeroValue95
 t53:=underlying230
 a53:=isAgg230
 z53:=sizeOf230
 v53:=zeroValue230
 t55:=underlying214
 a55:=isAgg214
 z55:=sizeOf214
 v55:=zeroValue214
 t66:=underlying269
 a66:=isAgg269
 z66:=sizeOf269
 v66:=zeroValue269
 t70:=underlying273
 a70:=isAgg273
 z70:=sizeOf273
 v70:=zeroValue273
 t76:=underlying284
 a76:=isAgg284
 z76:=sizeOf284
 v76:=zeroValue284
 t77:=underlying285
 a77:=isAgg285
 z77:=sizeOf285
 v77:=zeroValue285 }
def Tryz.sortE_ren:Go.Shelf.Ren:=⟨fun|6=>84|15=>108|14=>148|28=>171|29=>172|20=>214|21=>215|22=>216|23=>217|24=>218|25=>219|26=>220|27=>221|46=>243|47=>225|48=>226|49=>244|50=>245|57=>250|n=>n,fun|22=>26|24=>53|25=>141|3=>3|39=>166|0=>0|53=>230|55=>214|4=>4|46=>224|45=>223|50=>95|5=>5|9=>9|66=>269|70=>273|76=>284|77=>285|n=>n,fun|n=>n⟩
theorem Tryz.sortE:Go.Proofs.SlLaysF0.n6 Tryz.prog Tryz.sortE_ren:={
 mixed:=by kernel_rfl
 f6:=⟨Tryz.f84.name,by decide,kfKT func84⟩
 f14:=⟨Tryz.f148.name,by decide,kfKT func148⟩
 f15:=kfKT func108
 f20:=⟨Tryz.f214.name,by decide,kfKT func214⟩
 f21:=⟨Tryz.f215.name,by decide,kfKT func215⟩
 f22:=⟨Tryz.f216.name,by decide,kfKT func216⟩
 f23:=⟨Tryz.f217.name,by decide,kfKT func217⟩
 f24:=⟨Tryz.f218.name,by decide,kfKT func218⟩
 f25:=⟨Tryz.f219.name,by decide,kfKT func219⟩
 f26:=⟨Tryz.f220.name,by decide,kfKT func220⟩
 f27:=⟨Tryz.f221.name,by decide,kfKT func221⟩
 f28:=kfKT func171
 f29:=kfKT func172
 f46:=⟨Tryz.f243.name,by decide,kfKT func243⟩
 f47:=kfKT func225
 f48:=kfKT func226
 f49:=⟨Tryz.f244.name,by decide,kfKT func244⟩
 f50:=⟨Tryz.f245.name,by decide,kfKT func245⟩
 f57:=⟨Tryz.f250.name,by decide,kfKT func250⟩
 t0:=underlying0
 a0:=isAgg0
 z0:=sizeOf0
 v0:=zeroValue0
 t3:=underlying3
 a3:=isAgg3
 z3:=sizeOf3
 v3:=zeroValue3
 t4:=underlying4
 a4:=isAgg4
 z4:=sizeOf4
 v4:=zeroValue4
 t5:=underlying5
 a5:=isAgg5
 z5:=sizeOf5
 v5:=zeroValue5
 t9:=underlying9
 a9:=isAgg9
 z9:=sizeOf9
 v9:=zeroValue9
 t22:=underlying26
 a22:=isAgg26
 z22:=sizeOf26
 v22:=zeroValue26
 t25:=underlying141
 a25:=isAgg141
 z25:=sizeOf141
 v25:=zeroValue141
 t39:=underlying166
 a39:=isAgg166
 z39:=sizeOf166
 v39:=zeroValue166
 t45:=underlying223
 a45:=isAgg223
 z45:=sizeOf223
 v45:=zeroValue223
 t46:=underlying224
 a46:=isAgg224
 z46:=sizeOf224
 v46:=zeroValue224
 t50:=underlying95
 a50:=isAgg95
 z50:=sizeOf95
 v50:=zeroValue95
 t53:=underlying230
 a53:=isAgg230
 z53:=sizeOf230
 v53:=zeroValue230
 t55:=underlying214
 a55:=isAgg214
 z55:=sizeOf214
 v55:=zeroValue214
 t66:=underlying269
 a66:=isAgg269
 z66:=sizeOf269
 v66:=zeroValue269
 t70:=underlying273
 a70:=isAgg273
 z70:=sizeOf273
 v70:=zeroValue273
 t76:=underlying284
 a76:=isAgg284
 z76:=sizeOf284
 v76:=zeroValue284
 t77:=underlying285
 a77:=isAgg285
 z77:=sizeOf285
 v77:=zeroValue285 }
end Go.Proofs
