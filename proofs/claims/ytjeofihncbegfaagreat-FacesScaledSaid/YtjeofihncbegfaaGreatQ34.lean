/- Of FO2 FO3 KR FF. -/
import Derived.Sort.OwnSortedInts
import Derived.Test.YtjeofihncbegfaaGreatQ33
set_option maxRecDepth 100000
set_option maxHeartbeats 16000000
set_option linter.unusedVariables false
set_option linter.unusedSimpArgs false
namespace Go.Proofs
open Go.Proofs.Tryz
open Go.RowKit Go.Shelf Go.Hp
attribute [local go_sem] Oper.semAt_some
theorem cells_box {W:World} {B:Nat} {vs:Array Value} {t:TypeId} (h:W.heap[B]? = some (.cells vs t (0,0))) (i:Nat) (v:Value) (hv:vs[i]? = some v):W.cell? ⟨B,i,none⟩=some v∧W.frozen? ⟨B,i,none⟩=false:=by
 constructor <;> simp [World.cell?,World.frozen?,h,hv]
theorem cells_new (W:World) (vs:Array Value) (t:TypeId) (i:Nat) (v:Value) (hv:vs[i]? = some v):(W.alloc (.cells vs t)).cell? ⟨W.heap.size,i,none⟩=some v:=(cells_box (World.alloc_heap_new W _) i v hv).1
theorem frozen_new (W:World) (vs:Array Value) (t:TypeId) (i:Nat) (v:Value) (hv:vs[i]? = some v):(W.alloc (.cells vs t)).frozen? ⟨W.heap.size,i,none⟩=false:=(cells_box (World.alloc_heap_new W _) i v hv).2
theorem ckA {W:World} {a:Addr} {v:Value} (o:Obj) (h:W.cell? a=some v):(W.alloc o).cell? a=some v:=cell_kept h (World.grownBy_alloc W o none) (fun r e=>by cases e)
theorem fkA {W:World} {a:Addr} {v:Value} (o:Obj) (h:W.cell? a=some v) (hf:W.frozen? a=false):(W.alloc o).frozen? a=false:=(frozen_kept h (World.grownBy_alloc W o none) (fun r e=>by cases e)).trans hf
theorem outside_in (F:Fence) (n:Nat) (h3:F.fn 43) (h4:F.fn 102) (h5:F.fn 161) (hro:F.round=none) (hn:3≤n) (a1 a2 a3:Option Addr) (n1 c1 n2 c2 n3 c3 c4 cap b be oe off:Nat) (es:List Ed) (L:List Nat) (w:World)
 (hE:∀ i,i<es.length→w.cell? ⟨be,oe+i*5+3,none⟩=some (.int .i64 (nth ed0 es i).dir.x)∧w.cell? ⟨be,oe+i*5+4,none⟩=some (.int .i64 (nth ed0 es i).dir.y)) (hbe:be<w.heap.size) (hb:b<w.heap.size)
 (hLc:∀ j,j<L.length→w.cell? ⟨b,off+j,none⟩=some (.int .i64 ((nth 0 L j:Nat):Int))) (hL0:0<L.length) (hlen:L.length≤1000000) (hLv:∀ j,j<L.length→nth 0 L j / 2<es.length) (hel:es.length≤400000) (hd:∀ e ∈ es,e.dir.dir) :
 CallsIn F n Tryz.prog 43 #[.agg #[.slice a1 n1 c1,.slice a2 n2 c2,.slice a3 n3 c3,.slice (some ⟨be,oe,none⟩) es.length c4],.slice (some ⟨b,off,none⟩) L.length cap] w fun e w'=>∃ r,e=.returned (.int .i64 ((r:Nat):Int))∧OutIs es L r∧Below w.heap.size w w':=by
 have h1:1≤n:=by omega
 refine callsIn_of_wp_marks func43 rfl h3 ?_ hro;simp only [ntmps43,List.size_toArray,List.length_cons,List.length_nil,Nat.reduceAdd,Nat.reduceSub,Array.replicate_succ,Array.replicate_zero,List.push_toArray,List.append_toArray,List.nil_append,List.cons_append]
 gi_wp2_with (gi_at_call 102;refine (backward_in F (n - 1) h4 hro _ _ _ _).mono ?_;rintro e w' ⟨rfl,rfl⟩)
 have z0:=cells_new w #[Value.slice a1 n1 c1,Value.slice a2 n2 c2,Value.slice a3 n3 c3,Value.slice (some ⟨be,oe,none⟩) es.length c4] 28 3 (.slice (some ⟨be,oe,none⟩) es.length c4) rfl;have z1:=cells_new (w.alloc (.cells #[Value.slice a1 n1 c1,Value.slice a2 n2 c2,Value.slice a3 n3 c3,Value.slice (some ⟨be,oe,none⟩) es.length c4] 28)) #[Value.int .i64 0] 3 0 (.int .i64 0) rfl;have zf:=frozen_new (w.alloc (.cells #[Value.slice a1 n1 c1,Value.slice a2 n2 c2,Value.slice a3 n3 c3,Value.slice (some ⟨be,oe,none⟩) es.length c4] 28)) #[Value.int .i64 0] 3 0 (.int .i64 0) rfl;have z2:=cells_new ((w.alloc (.cells #[Value.slice a1 n1 c1,Value.slice a2 n2 c2,Value.slice a3 n3 c3,Value.slice (some ⟨be,oe,none⟩) es.length c4] 28)).alloc (.cells #[Value.int .i64 0] 3)) #[Value.slice (some ⟨b,off,none⟩) L.length cap] 22 0 (.slice (some ⟨b,off,none⟩) L.length cap) rfl;simp only [World.size_alloc] at z1 z2 zf;have hB0:Below w.heap.size w (((w.alloc (.cells #[Value.slice a1 n1 c1,Value.slice a2 n2 c2,Value.slice a3 n3 c3,Value.slice (some ⟨be,oe,none⟩) es.length c4] 28)).alloc (.cells #[Value.int .i64 0] 3)).alloc (.cells #[Value.slice (some ⟨b,off,none⟩) L.length cap] 22)):=(((Below.refl _ w).alloc (Nat.le_refl _) _).alloc (by simp) _).alloc (by simp;omega) _
 refine wpIn_rangeFunc_ownF hro h1 (gf:=161) (lb:=#[.pointer (some ⟨w.heap.size+1+1,0,none⟩)]) rfl h5 (enters_of func161 (by kernel_rfl) rfl)
  (backward_stops F (n - 1) h5 hro (by omega) (w.heap.size+1+1) b off L.length cap (fun j=>((nth 0 L j:Nat):Int)) hlen _ (by simp;omega) (by simp) z2 (fun j hj=>(hB0.cell (p:=⟨b,off+j,none⟩) hb).trans (hLc j hj))) belowK_t (belowK_b (Nat.le_refl _)) (Below.refl _ _) (fun _=>rfl)
  (fun pre W=>((∀ q ∈ pre,¬ UpD (crsZ es (nth 0 L q.val)))∧W.cell? ⟨w.heap.size,3,none⟩=some (.slice (some ⟨be,oe,none⟩) es.length c4)∧W.cell? ⟨w.heap.size+1,0,none⟩=some (.int .i64 0)∧W.frozen? ⟨w.heap.size+1,0,none⟩=false∧w.heap.size+3≤W.heap.size)∧Below w.heap.size w W)
  (fun c pre W=>(c=.ret∧∃ p k,pre=p++[k]∧UpD (crsZ es (nth 0 L k.val))∧(∀ q ∈ p,¬ UpD (crsZ es (nth 0 L q.val)))∧W.cell? ⟨w.heap.size+1,0,none⟩=some (.int .i64 ((nth 0 L k.val:Nat):Int)))∧Below w.heap.size w W)
  (OwnFrom.and (Own.from (fun s A B row hs hg hr=>⟨hs.1,cell_kept hs.2.1 hg hr,cell_kept hs.2.2.1 hg hr,(frozen_kept hs.2.2.1 hg hr).trans hs.2.2.2.1,Nat.le_trans hs.2.2.2.2 hg.size⟩) _) (ownFrom_below (Nat.le_refl _) (by simp;omega)))
  (fun c=>OwnFrom.and (Own.from (fun s A B row hs hg hr=>by
   obtain⟨e,p,k,h1,h2,h3,h4⟩:=hs;exact⟨e,p,k,h1,h2,h3,cell_kept h4 hg hr⟩) _) (ownFrom_below (Nat.le_refl _) (by simp;omega)))
  ⟨⟨by simp,ckA _ (ckA _ z0),ckA _ z1,fkA _ z1 zf,by simp⟩,hB0⟩
  (fun x=>{ tmps:=#[.agg #[.slice a1 n1 c1,.slice a2 n2 c2,.slice a3 n3 c3,.slice (some ⟨be,oe,none⟩) es.length c4],.slice (some ⟨b,off,none⟩) L.length cap,.pointer (some ⟨w.heap.size,0,none⟩),undef,.pointer (some ⟨w.heap.size+1,0,none⟩),undef,.int .i64 ((nth 0 L x.val:Nat):Int),undef,.slice (some ⟨b,off,none⟩) L.length cap,.func (.func 161) #[] #[.pointer (some ⟨w.heap.size+1+1,0,none⟩)],.int .i64 (x.val:Int),.int .i64 ((nth 0 L x.val:Nat):Int),undef,undef,undef,undef,undef,undef,undef,undef,undef,undef,undef,undef,undef,undef,undef,undef,undef,undef,undef,undef,undef,undef,undef,undef,undef,undef,undef,undef,undef,undef,undef,undef,undef,undef,undef,undef,undef],defers:=[] }) ?assign ?body ?done ?stop
 case assign =>
  intro l x W K hK
  gi_wp2
  exact hK
 case body =>
  rintro l pre x W ⟨⟨hp,hca,hcr,hfr,hsz⟩,hB⟩ hpl;clear z0 z1 z2 zf hB0;obtain⟨h,hh⟩:∃ h,nth 0 L x.val=h:=⟨_,rfl⟩;have hlv:=hLv x.val x.isLt;rw [hh] at hlv;rw [hh];obtain⟨i,hi⟩:∃ i,h / 2=i:=⟨_,rfl⟩;obtain⟨dx,hdx⟩:∃ z,(nth ed0 es i).dir.x=z:=⟨_,rfl⟩;obtain⟨dy,hdy⟩:∃ z,(nth ed0 es i).dir.y=z:=⟨_,rfl⟩;rw [hi] at hlv;have hdd:=hd _ (nth_mem ed0 es i hlv);unfold Gp.dir at hdd;rw [hdx,hdy] at hdd;have ex:=(hB.cell (p:=⟨be,oe+i*5+3,none⟩) hbe).trans (hE i hlv).1;have ey:=(hB.cell (p:=⟨be,oe+i*5+4,none⟩) hbe).trans (hE i hlv).2;rw [hdx] at ex;rw [hdy] at ey;have q1:=tdiv2 h;have q2:=tmod2 h;rw [hi] at q1;have q3:IntKind.i64.wrap (i:Int)=(i:Int):=w6;have q5:IntKind.i64.wrap (-dx) = -dx:=w6;have q6:IntKind.i64.wrap (-dy) = -dy:=w6;have hcr2:∀ o,(W.alloc o).cell? ⟨w.heap.size+1,0,none⟩=some (.int .i64 0):=fun o=>ckA o hcr
  have hfr2:∀ o,(W.alloc o).frozen? ⟨w.heap.size+1,0,none⟩=false:=fun o=>fkA o hcr hfr
  have hca2:∀ o,(W.alloc o).cell? ⟨w.heap.size,3,none⟩=some (.slice (some ⟨be,oe,none⟩) es.length c4):=fun o=>ckA o hca
  have fin1:∀ (o:Obj) (a:Act),UpD (crsZ es h)→ownPostK (Below (w.heap.size+1+1+1)) (fun pre W=>((∀ q ∈ pre,¬ UpD (crsZ es (nth 0 L q.val)))∧W.cell? ⟨w.heap.size,3,none⟩=some (.slice (some ⟨be,oe,none⟩) es.length c4)∧W.cell? ⟨w.heap.size+1,0,none⟩=some (.int .i64 0)∧W.frozen? ⟨w.heap.size+1,0,none⟩=false∧w.heap.size+3≤W.heap.size)∧Below w.heap.size w W)
   (fun c pre W=>(c=.ret∧∃ p k,pre=p++[k]∧UpD (crsZ es (nth 0 L k.val))∧(∀ q ∈ p,¬ UpD (crsZ es (nth 0 L q.val)))∧W.cell? ⟨w.heap.size+1,0,none⟩=some (.int .i64 ((nth 0 L k.val:Nat):Int)))∧Below w.heap.size w W)
   (pre++[x]) W .ret a ((W.alloc o).setCell ⟨w.heap.size+1,0,none⟩ (.int .i64 (h:Int))):=fun o a hu =>
   ⟨(KeepsOthers.alloc W o).trans (KeepsOthers.setCell _ _ _),⟨rfl,pre,x,rfl,by rw [hh];exact hu,hp,by rw [hh];exact World.cell?_setCell_same' _ _ _ (by rw [hcr2];rfl)⟩,(hB.alloc hB.size _).setCell (p:=⟨w.heap.size+1,0,none⟩) (by simp) _⟩
  have fin0:∀ (o:Obj) (a:Act),¬ UpD (crsZ es h)→ownPostK (Below (w.heap.size+1+1+1)) (fun pre W=>((∀ q ∈ pre,¬ UpD (crsZ es (nth 0 L q.val)))∧W.cell? ⟨w.heap.size,3,none⟩=some (.slice (some ⟨be,oe,none⟩) es.length c4)∧W.cell? ⟨w.heap.size+1,0,none⟩=some (.int .i64 0)∧W.frozen? ⟨w.heap.size+1,0,none⟩=false∧w.heap.size+3≤W.heap.size)∧Below w.heap.size w W)
   (fun c pre W=>(c=.ret∧∃ p k,pre=p++[k]∧UpD (crsZ es (nth 0 L k.val))∧(∀ q ∈ p,¬ UpD (crsZ es (nth 0 L q.val)))∧W.cell? ⟨w.heap.size+1,0,none⟩=some (.int .i64 ((nth 0 L k.val:Nat):Int)))∧Below w.heap.size w W)
   (pre++[x]) W .normal a (W.alloc o):=fun o a hu =>
   ⟨KeepsOthers.alloc W o,(Below.refl _ W).alloc (by omega) _,⟨fun q hq=>(List.mem_append.1 hq).elim (hp q) (fun e=>by rw [List.mem_singleton.1 e,hh];exact hu),hca2 o,hcr2 o,hfr2 o,by simp;omega⟩,hB.alloc hB.size _⟩
  by_cases hm:h % 2=1
  ·rw [hm] at q2
   have hD:crsZ es h=⟨-dx,-dy⟩:=by unfold crsZ;rw [if_pos hm,hi,hdx,hdy]
   rw [hD] at fin0 fin1;replace fin0:=Hd fin0;replace fin1:=Hd fin1;replace hD:=Hd hD;clear hp hh hi hdx hdy hm hE hLc hLv hd
   gi_wp2
   all_goals ((try simp only [World.size_alloc]);first|exact fin1.out _ _ (by unfold UpD;simp only;omega)|exact fin0.out _ _ (by unfold UpD;simp only;omega))
  ·rw [show h % 2=0 by omega] at q2
   have hD:crsZ es h=⟨dx,dy⟩:=by unfold crsZ;rw [if_neg hm,hi,← hdx,← hdy]
   rw [hD] at fin0 fin1;replace fin0:=Hd fin0;replace fin1:=Hd fin1;replace hD:=Hd hD;clear hp hh hi hdx hdy hm hE hLc hLv hd
   gi_wp2
   all_goals ((try simp only [World.size_alloc]);first|exact fin1.out _ _ (by unfold UpD;simp only;omega)|exact fin0.out _ _ (by unfold UpD;simp only;omega))
 case done =>
  rintro D ys W hD hys ⟨⟨hp,hca,hcr,hfr,hsz⟩,hB⟩ hK;have hlc:=(hB.cell (p:=⟨b,off+(L.length - 1),none⟩) hb).trans (hLc (L.length - 1) (by omega));have q1:IntKind.i64.wrap ((L.length:Int) - 1)=((L.length - 1:Nat):Int):=(w6).trans (by omega)
  gi_wp2
  have hK':=(KeepsOthers.setCell W ⟨w.heap.size+1,0,none⟩ (.int .i64 ((nth 0 L (L.length - 1):Nat):Int))).same D _ hK rfl;refine⟨by simp,.inl ⟨_,_,rfl,run_takeDeferred hK',?_⟩⟩;have hc5:=cell_kept (World.cell?_setCell_same' W ⟨w.heap.size+1,0,none⟩ (.int .i64 ((nth 0 L (L.length - 1):Nat):Int)) (by rw [hcr];rfl)) (grownBy_putObj' _ D (.deferred none)) (fun r e=>by cases e;exact⟨_,hK',rfl⟩);refine⟨.int .i64 ((nth 0 L (L.length - 1):Nat):Int),?_,nth 0 L (L.length - 1),rfl,.inr ⟨rfl,fun q hq=>hp ⟨q,hq⟩ ((hys ⟨q,hq⟩).2 (Nat.zero_le _))⟩,(hB.setCell (p:=⟨w.heap.size+1,0,none⟩) (by simp) _).trans (belowK_b (w:=w) (Nat.le_refl _) _ D _ _ (by simp at hD;omega) hK' rfl rfl)⟩;simp [results,func43,go_sem,hc5]
 case stop =>
  rintro D c pre W hD hpre ⟨⟨rfl,p,k,he,hu,hnu,hcr⟩,hB⟩ hK
  gi_wp2
  refine⟨by simp,.inl ⟨_,_,rfl,run_takeDeferred hK,?_⟩⟩;have hc5:=cell_kept hcr (grownBy_putObj' _ D (.deferred none)) (fun r e=>by cases e;exact⟨_,hK,rfl⟩);refine⟨.int .i64 ((nth 0 L k.val:Nat):Int),?_,nth 0 L k.val,rfl,.inl ⟨k.val,k.isLt,rfl,hu,?_⟩,hB.trans (belowK_b (w:=w) (Nat.le_refl _) W D _ _ (by simp at hD;omega) hK rfl rfl)⟩
  ·simp [results,func43,go_sem,hc5]
  ·obtain⟨p',k',he',hd'⟩:=hpre
   rw [he] at he';obtain⟨rfl,he''⟩:=List.append_inj' he' rfl;cases he'';intro q hq hql;exact hnu ⟨q,hql⟩ ((hd' ⟨q,hql⟩).2 hq)
theorem outside_calls (a1 a2 a3:Option Addr) (n1 c1 n2 c2 n3 c3 c4 cap b be oe off:Nat) (es:List Ed) (L:List Nat) (w:World)
 (hE:∀ i,i<es.length→w.cell? ⟨be,oe+i*5+3,none⟩=some (.int .i64 (nth ed0 es i).dir.x)∧w.cell? ⟨be,oe+i*5+4,none⟩=some (.int .i64 (nth ed0 es i).dir.y)) (hbe:be<w.heap.size) (hb:b<w.heap.size)
 (hLc:∀ j,j<L.length→w.cell? ⟨b,off+j,none⟩=some (.int .i64 ((nth 0 L j:Nat):Int))) (hL0:0<L.length) (hlen:L.length≤1000000) (hLv:∀ j,j<L.length→nth 0 L j / 2<es.length) (hel:es.length≤400000) (hd:∀ e ∈ es,e.dir.dir) :
 Calls Tryz.prog 43 #[.agg #[.slice a1 n1 c1,.slice a2 n2 c2,.slice a3 n3 c3,.slice (some ⟨be,oe,none⟩) es.length c4],.slice (some ⟨b,off,none⟩) L.length cap] w fun e w'=>∃ r,e=.returned (.int .i64 ((r:Nat):Int))∧OutIs es L r∧Below w.heap.size w w' :=
 (callsIn_wide (n:=5)).1 (outside_in Fence.wide 5 trivial trivial trivial rfl (by omega) a1 a2 a3 n1 c1 n2 c2 n3 c3 c4 cap b be oe off es L w hE hbe hb hLc hL0 hlen hLv hel hd)
end Go.Proofs
namespace Go.Hp
open Go Go.RowKit
def nd (w:World):World:={ w with drawn:=0 }
theorem nd_drawn (w:World):(nd w).drawn=0:=rfl
theorem Heap.toD {w0 w:World} {H:List Chunk} (h:Heap w0 w H):Heap (nd w0) w H:=⟨h.os,h.tape,h.output,Nat.zero_le _,h.size,h.ok,h.apart⟩
theorem Heap.startD (w:World):Heap (nd w) w [.frz (Old w) w]:=(Heap.start w).toD
theorem Heap.belowD {w0 w w':World} {H:List Chunk} (h:Heap w0 w H) (h0:w0.drawn=0) (hb:Below w.heap.size w w'):Heap w0 w' H :=
 ⟨hb.os.trans h.os,hb.tape.trans h.tape,hb.output.trans h.output,by rw [h0];exact Nat.zero_le _,Nat.le_trans h.size hb.size,
  fun c hc=>Chunk.ok_of (h.ok c hc) hb.size (fun k hk=>hb.block k (Chunk.lt (h.ok c hc) hk)),h.apart⟩
theorem Heap.callD {w0 w w':World} {H:List Chunk} (h:Heap w0 w H) (h0:w0.drawn=0) (hb:Below w.heap.size w w'):Heap w0 w' (H++[.frz (New w w') w']):=by
 have h':=h.belowD h0 hb;refine⟨h'.os,h'.tape,h'.output,h'.drawn,h'.size,?_,?_⟩
 ·intro c hc
  rcases List.mem_append.1 hc with hc|hc
  ·exact h'.ok c hc
  ·simp at hc;subst hc
   exact fun k hk=>⟨hk.2,rfl⟩
 ·exact pairwise_snoc h'.apart fun c hc k hk hn=>by
   have:=Chunk.lt (h.ok c hc) hk;have:=hn.1;omega
theorem Heap.pcallD {w0 w wr w':World} {H:List Chunk} {F:Nat→Prop} (hS:Heap w0 w (.frz F wr::H)) (h0:w0.drawn=0) (hb:Below w.heap.size w w'):∃ F',(∀ k,F k→F' k)∧(∀ k,New w w' k→F' k)∧Heap w0 w' (.frz F' w'::H):=by
 refine⟨fun k=>F k∨New w w' k,fun k hk=>.inl hk,fun k hk=>.inr hk,?_⟩;have h1:=hS.callD h0 hb
 have h2:Heap w0 w' (.frz F wr::.frz (New w w') w'::H):=h1.perm (by
  simp only [List.cons_append];refine List.Perm.cons _ ?_;exact (List.perm_append_comm (l₁:=[Chunk.frz (New w w') w']) (l₂:=H)))
 exact h2.join
end Go.Hp
namespace Go.Proofs
open Go.RowKit Go.Hp Go.Shelf
theorem outside_any (a1 a2 a3 a4 al:Option Addr) (n1 c1 n2 c2 n3 c3 n4 c4 nl cl:Nat) (rs:List ER) (es:List Ed) (L:List Nat) (w:World) (S T:Nat→Prop)
 (hsl:SlC w S 5 (.slice a4 n4 c4) es.length (rs.flatMap ec)) (hes:IsEs w S rs es) (hN:Nats w T (.slice al nl cl) L)
 (hL0:0<L.length) (hlen:L.length≤1000000) (hLv:∀ j,j<L.length→nth 0 L j / 2<es.length) (hel:es.length≤400000) (hd:∀ e ∈ es,e.dir.dir) :
 Calls Tryz.prog 43 #[.agg #[.slice a1 n1 c1,.slice a2 n2 c2,.slice a3 n3 c3,.slice a4 n4 c4],.slice al nl cl] w fun e w'=>∃ r,e=.returned (.int .i64 ((r:Nat):Int))∧OutIs es L r∧Below w.heap.size w w':=by
 obtain⟨h1,a,cap,h2,h3,h4,h5,h6⟩:=hsl.old;cases h2;obtain⟨k1,b,kap,k2,k3,k4,k5,k6⟩:=(SlC.old hN.1);cases k2;rw [zs_length];have he0:0<es.length:=Nat.lt_of_le_of_lt (Nat.zero_le _) (hLv 0 hL0)
 obtain⟨ae,rfl⟩:∃ q,a4=some q:=by
  cases h:a4 with
  | none=>have:=(h5 h).1;omega
  | some q=>exact⟨q,rfl⟩
 obtain⟨ab,rfl⟩:∃ q,al=some q:=by
  cases h:al with
  | none=>have:=(k5 h).1;rw [zs_length] at this;omega
  | some q=>exact⟨q,rfl⟩
 have he:=h6 ae rfl;have hb:=k6 ab rfl;have hne:rs.flatMap ec≠[]:=fun e=>by rw [e] at h1;simp at h1;omega
 have hnb:(zs L).map (Value.int .i64)≠[]:=fun e=>by
  have:=congrArg List.length e;rw [List.length_map,zs_length,List.length_nil] at this;omega
 have se:=he.spot hne;have sb:=hb.spot hnb;have ie:=he.inS hne;have ib:=hb.inS hnb;obtain⟨be,oe,pe⟩:=ae;obtain⟨bb,ob,pb⟩:=ab;simp only at se sb;subst se;subst sb;refine outside_calls a1 a2 a3 n1 c1 n2 c2 n3 c3 _ _ bb be oe ob es L w ?_ ie ib ?_ hL0 hlen hLv hel hd
 ·intro i hi
  have hr:i<rs.length:=by rw [hes.len];exact hi
  have hp:=he.part (i*5) 5;rw [flat_cell ec_len er0 hr] at hp;rw [← (hes.el i hi).dir];exact⟨hp.cell 3 _ rfl,hp.cell 4 _ rfl⟩
 ·intro j hj
  refine hb.cell j _ ?_;rw [List.getElem?_map,zs,List.getElem?_map,List.getElem?_eq_getElem hj,nth_eq 0 L j hj]
  rfl
end Go.Proofs
namespace Go.Proofs
open Go.RowKit Go.Shelf Go.Hp
def srt (xs:List Int):List Int:=xs.mergeSort fun x y=>decide (x≤y)
theorem sort_row {w0 w:World} {H:List Chunk} {ad:Option Addr} {n cap:Nat} {T:TypeId} {xs:List Int} (j:Nat) (hS:Heap w0 w H) (hj:H[j]? = some (.row (.slice ad n cap) T 1 n (iv xs))) (hl:n≤1000000) :
 Calls Tryz.prog 45 #[.slice ad n cap] w fun e w'=>e=.returned (.tuple #[])∧Heap w0 w' (H.set j (.row (.slice ad n cap) T 1 n (iv (srt xs)))):=by
 have hown:=hS.ok _ (List.mem_of_getElem? hj);obtain⟨hlen,hor⟩:=hown;rw [iv_length] at hlen;have hlen':xs.length=n:=by omega
 subst hlen';have hperm:(srt xs).length=xs.length:=(List.mergeSort_perm _ _).length_eq
 rcases hor with ⟨hv,hn⟩|⟨g,cap',cur,hv,hb,hg,hnc,hcm,hcs,htake⟩
 ·simp only [Value.slice.injEq] at hv
  obtain⟨rfl,hx,rfl⟩:=hv;have hxs:xs=[]:=List.eq_nil_of_length_eq_zero hx;subst hxs;refine (Tryz.slices_Sort_int_none none 0 w).mono fun e w' ⟨he,hw⟩=>⟨he,?_⟩
  subst hw
  have:H.set j (.row (.slice none 0 0) T 1 0 (iv (srt [])))=H:=by
   apply List.ext_getElem?;intro i;rw [List.getElem?_set]
   split
   ·rename_i h;subst h
    obtain⟨hlt,hq⟩:=List.getElem?_eq_some_iff.1 hj;rw [if_pos hlt,List.getElem?_eq_getElem hlt,hq,show srt []=[] by simp [srt]]
    rfl
   ·rfl
  simp only [List.length_nil];rw [this];exact hS
 ·simp only [Value.slice.injEq] at hv
  obtain⟨rfl,-,rfl⟩:=hv;have htake':cur.toList.take xs.length=xs.map (Value.int .i64):=by simpa [iv] using htake
  refine (Tryz.slices_Sort_int g 0 cap xs w (holds_of_blockI hg htake') (Array.getElem?_eq_some_iff.1 hg).1 (by omega)).mono fun e w' ⟨he,m,os,hw⟩=>⟨he,?_⟩
  subst hw;have hgr:=grownBy_sortedI (w:=w) (g:=g) (n:=m) (os:=os) (xs.mergeSort fun x y=>decide (x≤y)).toArray;refine hS.turn j hj hgr.os hgr.tape hgr.output (by first|exact Nat.le_add_right _ _|simp [Go.Sort.grow,Go.Sort.putRow,Go.Sort.ahead]) hgr.size ?_ (fun k hk=>.inl hk) (fun k hk hnk=>hgr.block k hk (fun e=>hnk (by simp only [Chunk.has,Value.ownBlock];exact e.symm)));have hc2:(srt xs).length≤cur.size:=by rw [hperm,hcs];omega
  refine⟨by rw [iv_length,hperm,Nat.mul_one],.inr ⟨g,cap,_,rfl,Nat.zero_le _,heap_sortedI _ hg,hnc,hcm,?_,?_⟩⟩
  ·simp [Go.Sort.putCells,hcs]
  ·rw [Nat.mul_one,← hperm]
   exact take_putCellsI cur (srt xs) hc2
theorem compact_sub (xs:List Int):(Lib.compact xs).Sublist xs:=by
 unfold Lib.compact Lib.compactUpTo;have h:=(List.filter_sublist (l:=List.range xs.length) (p:=Lib.keeps xs.toArray)).map (fun i=>xs.toArray[i]!)
 have e:(List.range xs.length).map (fun i=>xs.toArray[i]!)=xs:=by
  have:=Lib.range_map_get xs.toArray
  simpa using this
 rw [e] at h;exact h
theorem compact_len (xs:List Int):(Lib.compact xs).length≤xs.length:=(compact_sub xs).length_le
theorem srt_sorted (xs:List Int):(srt xs).Pairwise (· ≤ ·):=by
 have ht:∀ (a b c:Int),decide (a≤b)=true→decide (b≤c)=true→decide (a≤c)=true:=by intro a b c;simp;omega
 have hT:∀ (a b:Int),(decide (a≤b) || decide (b≤a))=true:=by intro a b;simp;omega
 exact (List.pairwise_mergeSort ht hT xs).imp (fun h=>by simpa using h)
theorem srt_len (xs:List Int):(srt xs).length=xs.length:=(List.mergeSort_perm _ _).length_eq
theorem compact_row {w0 w:World} {H:List Chunk} {ad:Option Addr} {n cap:Nat} {T:TypeId} {xs:List Int} (j:Nat) (hS:Heap w0 w H) (hj:H[j]? = some (.row (.slice ad n cap) T 1 n (iv xs))) (hl:n≤1000000) :
 Calls Tryz.prog 56 #[.slice ad n cap] w fun e w'=>e=.returned (.slice ad (Lib.compact xs).length cap)∧Heap w0 w' (H.set j (.row (.slice ad (Lib.compact xs).length cap) T 1 (Lib.compact xs).length (iv (Lib.compact xs)))):=by
 have hown:=hS.ok _ (List.mem_of_getElem? hj);obtain⟨hlen,hor⟩:=hown;rw [iv_length] at hlen;have hlen':xs.length=n:=by omega
 subst hlen'
 rcases hor with ⟨hv,hn⟩|⟨g,cap',cur,hv,hb,hg,hnc,hcm,hcs,htake⟩
 ·simp only [Value.slice.injEq] at hv
  obtain⟨rfl,hx,rfl⟩:=hv;have hxs:xs=[]:=List.eq_nil_of_length_eq_zero hx;subst hxs;have hc0:Lib.compact ([]:List Int)=[]:=rfl;refine (Tryz.slices_Compact_int_empty none 0 w).mono fun e w' ⟨he,hw⟩=>⟨by rw [he,hc0];rfl,?_⟩
  subst hw
  have:H.set j (.row (.slice none 0 0) T 1 0 (iv []))=H:=by
   apply List.ext_getElem?;intro i;rw [List.getElem?_set]
   split
   ·rename_i h;subst h
    obtain⟨hlt,hq⟩:=List.getElem?_eq_some_iff.1 hj;rw [if_pos hlt,List.getElem?_eq_getElem hlt,hq]
    rfl
   ·rfl
  rw [hc0];simp only [List.length_nil];rw [this];exact hS
 ·simp only [Value.slice.injEq] at hv
  obtain⟨rfl,-,rfl⟩:=hv;have htake':cur.toList.take xs.length=xs.map (Value.int .i64):=by simpa [iv] using htake
  refine (Tryz.slices_Compact_int g 0 cap xs w (holds_of_blockI hg htake') (by omega) hnc).mono fun e w' ⟨he,q,hw⟩=>⟨he,?_⟩
  have hw':w'=Sort.grow (Sort.putRow (Value.int .i64) (Sort.ahead w q) g 0 (Lib.compact xs++List.replicate (xs.length - (Lib.compact xs).length) 0).toArray) #[]:=by rw [hw,Sort.grow_empty]
  clear hw;subst hw';have hcl:=compact_len xs;have hgr:=grownBy_sortedI (w:=w) (g:=g) (n:=q) (os:=#[]) (Lib.compact xs++List.replicate (xs.length - (Lib.compact xs).length) 0).toArray;refine hS.turn j hj hgr.os hgr.tape hgr.output (by first|exact Nat.le_add_right _ _|simp [Go.Sort.grow,Go.Sort.putRow,Go.Sort.ahead]) hgr.size ?_ (fun k hk=>.inl hk) (fun k hk hnk=>hgr.block k hk (fun e=>hnk (by simp only [Chunk.has,Value.ownBlock];exact e.symm)));refine⟨by rw [iv_length];omega,.inr ⟨g,cap,_,rfl,Nat.zero_le _,heap_sortedI _ hg,by omega,hcm,?_,?_⟩⟩
  ·simp [Go.Sort.putCells,hcs]
  ·have h1:=take_putCellsI cur (Lib.compact xs++List.replicate (xs.length - (Lib.compact xs).length) 0) (by simp;omega)
   have h2:(Lib.compact xs++List.replicate (xs.length - (Lib.compact xs).length) (0:Int)).length=xs.length:=by simp;omega
   rw [h2] at h1;rw [Nat.mul_one];have h3:=congrArg (List.take (Lib.compact xs).length) h1;rw [List.take_take,Nat.min_eq_left hcl] at h3;rw [h3];simp [iv,List.map_append]
end Go.Proofs
namespace Go.Hp
open Go Go.RowKit
def belO (V:List Pt) (es:List Ed) (v:Nat):Option Nat:=if belTo V es v es.length<0 then none else some (belTo V es v es.length).toNat
def faceIn (V:List Pt) (es:List Ed) (RL:List (List Nat)) (out:Nat→Nat):FI:=⟨nxTo es.length RL V.length,es.length,V.length,comps (endsL es) V.length,out,fun v=>decide (nth [] RL v≠[]),belO V es⟩
theorem belTo_skip {V:List Pt} {es:List Ed} {v:Nat}:∀ {k:Nat},0≤belTo V es v k→skipV V es v (belTo V es v k).toNat=false∧(belTo V es v k).toNat<k
 | 0,h=>by unfold belTo at h;omega
 | k+1,h=>by
  have ih:=@belTo_skip V es v k;have hnx:belTo V es v (k+1)=if skipV V es v k then belTo V es v k else if belTo V es v k<0 then (k:Int) else if higherV V es k (belTo V es v k).toNat then (k:Int) else belTo V es v k:=rfl
  rw [hnx] at h ⊢
  by_cases hs:skipV V es v k=true
  ·rw [if_pos hs] at h ⊢
   exact⟨(ih h).1,Nat.lt_succ_of_lt (ih h).2⟩
  ·rw [if_neg hs] at h ⊢
   have hs2:skipV V es v k=false:=by simpa using hs
   by_cases hb:belTo V es v k<0
   ·rw [if_pos hb];exact⟨by simpa using hs2,by simp⟩
   ·rw [if_neg hb] at h ⊢
    by_cases hh:higherV V es k (belTo V es v k).toNat=true
    ·rw [if_pos hh];exact⟨by simpa using hs2,by simp⟩
    ·rw [if_neg hh] at h ⊢
     exact⟨(ih h).1,Nat.lt_succ_of_lt (ih h).2⟩
theorem sorted_lt {V:List Pt} (hV:V.Pairwise Pt.lt) {a b:Nat} (ha:a<V.length) (hb:b<V.length) (h:(nth pt0 V a).lt (nth pt0 V b)):a<b:=by
 rcases Nat.lt_trichotomy a b with h1|h1|h1
 ·exact h1
 ·subst h1;exact absurd h (Pt.lt_irrefl _)
 ·have:=List.pairwise_iff_getElem.1 hV b a hb ha h1
  rw [← nth_eq pt0 V b hb,← nth_eq pt0 V a ha] at this;exact absurd h (Pt.lt_asymm this)
theorem below_lex {a b p:Pt} (h1:a.x≤p.x) (h2:¬ b.x≤p.x) (h3:¬ cmpQ (area a b p) 0≤0):a.lt p:=by
 have h4:¬ area a b p≤0:=fun h=>h3 (cmpQ_le.2 h)
 unfold Pt.lt
 by_cases e:a.x<p.x
 ·exact .inl e
 ·have e2:a.x=p.x:=by grind
  refine .inr ⟨e2,?_⟩;have hbx:0<b.x - a.x:=by grind
  have hA:area a b p=(b.x - a.x)*(p.y - a.y):=by unfold area;rw [e2];grind
  have hpos:0<(b.x - a.x)*(p.y - a.y):=by rw [← hA];grind
  have:=rpos_of hbx hpos
  grind
theorem belO_ok {V:List Pt} {es:List Ed} (hV:V.Pairwise Pt.lt) (hab:∀ e ∈ es,e.a<V.length∧e.b<V.length) {v e:Nat} (hv:v<V.length) (h:belO V es v=some e):e<es.length∧orgE es (2*e)<v:=by
 unfold belO at h
 split at h
 ·cases h
 ·rename_i hb
  obtain⟨h1,h2⟩:=@belTo_skip V es v es.length (by omega);have h3:=Option.some.inj h;rw [h3] at h1 h2;refine⟨h2,?_⟩;have ha:=(hab _ (nth_mem ed0 es e h2)).1
  have hae:orgE es (2*e)=(nth ed0 es e).a:=by
   unfold orgE;have e1:2*e / 2=e:=by omega
   have e2:2*e % 2=0:=by omega
   rw [if_pos e2,e1]
  rw [hae];unfold skipV xleV sdV at h1;simp only [Bool.or_eq_false_iff,decide_eq_false_iff_not,Bool.not_eq_false',decide_eq_true_eq] at h1;exact sorted_lt hV ha hv (below_lex h1.1.1.2 h1.1.2 h1.2)
theorem isEnd_half {es:List Ed} {u:Nat} (h:isEnd (endsL es) u):∃ k,k<2*es.length∧orgE es k=u:=by
 obtain⟨p,hp,hu⟩:=h;obtain⟨i,hi,rfl⟩:=List.getElem_of_mem hp;have hi2:i<es.length:=by simpa [endsL] using hi
 have e1:(endsL es)[i]=((nth ed0 es i).a,(nth ed0 es i).b):=by rw [← nth_ends hi2,nth_eq _ _ _ hi]
 rw [e1] at hu
 rcases hu with hu|hu
 ·refine⟨2*i,by omega,?_⟩
  unfold orgE;have e1:2*i / 2=i:=by omega
  have e2:2*i % 2=0:=by omega
  rw [if_pos e2,e1];exact hu
 ·refine⟨2*i+1,by omega,?_⟩
  unfold orgE;have e1:(2*i+1) / 2=i:=by omega
  have e2:¬ (2*i+1) % 2=0:=by omega
  rw [if_neg e2,e1];exact hu
theorem comp_edge {es:List Ed} {h:Nat} (hh:h<2*es.length):comp (endsL es) es.length (orgE es h)=comp (endsL es) es.length (orgE es (tw h)):=by
 have hl:(endsL es).length=es.length:=by simp [endsL]
 have hc:=(compOk (endsL es) es.length (by omega)).edge (h / 2) (by omega);rw [nth_ends (show h / 2<es.length by omega)] at hc;simp only at hc;unfold orgE;rw [tw_div,tw_mod];have:h % 2=0∨h % 2=1:=by omega
 rcases this with e|e
 ·rw [e,if_pos rfl,if_neg (by decide)];exact hc
 ·rw [e,if_neg (by decide),if_pos rfl];exact hc.symm
theorem faceIn_ok {V:List Pt} {es:List Ed} {RL:List (List Nat)} {out:Nat→Nat} (hV:V.Pairwise Pt.lt) (hab:∀ e ∈ es,e.a<V.length∧e.b<V.length) (hR:RLok es V.length RL) (hout:∀ v,v<V.length→nth [] RL v≠[]→out v ∈ nth [] RL v):(faceIn V es RL out).Ok (orgE es):=by
 obtain⟨h1,h2⟩:=next_perm hR hab;have hl:(endsL es).length=es.length:=by simp [endsL]
 have hco:=compOk (endsL es) es.length (by omega);have hcl:∀ v,v<V.length→nth 0 (comps (endsL es) V.length) v=comp (endsL es) es.length v:=fun v hv=>by rw [nth_comps hv,hl]
 have hcv:∀ v,v<V.length→comp (endsL es) es.length v<V.length:=fun v hv=>Nat.lt_of_le_of_lt (hco.le v) hv
 have hhas:∀ k,k<2*es.length→nth [] RL (orgE es k)≠[]:=fun k hk e=>by
  have:=(hR.mem _ k (orgE_lt hab hk)).2 ⟨hk,rfl⟩;rw [e] at this;cases this
 refine⟨h1,nxTo_length _ _ _,fun h hh=>?_,fun h hh=>?_,fun v hv=>?_,fun v hv=>?_,fun h hh=>?_,fun v hv he=>?_,fun v hv he=>?_,fun h hh=>?_,fun v hv he=>?_,fun v hv he=>?_,fun v e hv hb=>belO_ok hV hab hv hb⟩
 ·exact orgE_lt hab (by simpa [faceIn,nxTo_length] using hh)
 ·exact h2 h (by simpa [faceIn,nxTo_length] using hh)
 ·show nth 0 (comps (endsL es) V.length) v≤v
  rw [hcl v hv];exact hco.le v
 ·show nth 0 (comps (endsL es) V.length) (nth 0 (comps (endsL es) V.length) v)=nth 0 (comps (endsL es) V.length) v
  rw [hcl v hv,hcl _ (hcv v hv)];exact hco.idem v
 ·have hh2:h<2*es.length:=by simpa [faceIn,nxTo_length] using hh
  show nth 0 (comps (endsL es) V.length) (orgE es h)=nth 0 (comps (endsL es) V.length) (orgE es (tw h));rw [hcl _ (orgE_lt hab hh2),hcl _ (orgE_lt hab (tw_lt hh2))];exact comp_edge hh2
 ·have:=((hR.mem v _ hv).1 (hout v hv (by simpa [faceIn] using he))).1
  simpa [faceIn,nxTo_length] using this
 ·exact ((hR.mem v _ hv).1 (hout v hv (by simpa [faceIn] using he))).2
 ·have hh2:h<2*es.length:=by simpa [faceIn,nxTo_length] using hh
  simpa [faceIn] using hhas h hh2
 ·have hv':v<V.length:=hv
  show decide (nth [] RL (nth 0 (comps (endsL es) V.length) v)≠[])=true;rw [hcl v hv']
  rcases hco.ends v with h|⟨_,h⟩
  ·rw [h];exact he
  ·obtain⟨k,hk,hk2⟩:=isEnd_half h
   rw [← hk2];simpa using hhas k hk
 ·have hv':v<V.length:=hv
  show nth 0 (comps (endsL es) V.length) v=v;rw [hcl v hv']
  rcases hco.ends v with h|⟨h,_⟩
  ·exact h
  ·obtain⟨k,hk,hk2⟩:=isEnd_half h
   exfalso
   have:=hhas k hk;rw [hk2] at this;have he2:decide (nth [] RL v≠[])=false:=he;simp [this] at he2
end Go.Hp
