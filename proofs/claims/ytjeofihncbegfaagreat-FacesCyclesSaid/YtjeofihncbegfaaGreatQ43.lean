/- Of M13. -/
import Derived.Test.YtjeofihncbegfaaGreatQ42
set_option maxRecDepth 100000
set_option maxHeartbeats 16000000
set_option linter.unusedVariables false
set_option linter.unusedSimpArgs false
namespace Go.Hp
open Go.Proofs.Tryz
open Go Go.RowKit
def ER.k (r:ER):Nat × Nat:=(r.a,r.b)
def KS (rs:List ER):Prop:=(rs.map ER.k).Pairwise ltE
def OfOk (w:World) (S:Nat→Prop) (rs:List ER) (B:Nat):Prop:=∀ r ∈ rs,∃ is:List Nat,Nats w S (.slice r.ad r.n r.c) is∧is.length≤B
theorem OfOk.mono {w:World} {S S':Nat→Prop} {rs:List ER} {B B':Nat} (h:OfOk w S rs B) (hs:∀ k,S k→S' k) (hb:B≤B'):OfOk w S' rs B':=fun r hr=>by
 obtain⟨is,h1,h2⟩:=h r hr;exact⟨is,h1.weaken hs,by omega⟩
theorem OfOk.move {w wr:World} {S:Nat→Prop} {rs:List ER} {B:Nat} (h:OfOk wr S rs B) (hk:∀ k,S k→w.heap[k]? = wr.heap[k]?):OfOk w S rs B:=fun r hr=>by
 obtain⟨is,h1,h2⟩:=h r hr;exact⟨is,h1.move hk,h2⟩
theorem ec_cells {rs:List ER} {k:Nat} {r:ER} (hk:k<rs.length) (hr:nth er0 rs k=r):(rs.flatMap ec)[k*5]? = some (.int .i64 (r.a:Int))∧(rs.flatMap ec)[k*5+1]? = some (.int .i64 (r.b:Int))∧(rs.flatMap ec)[k*5+2]? = some (.slice r.ad r.n r.c):=by
 have hc:=flat_cell ec_len er0 hk;rw [hr] at hc
 have e:∀ j,j<5→(rs.flatMap ec)[k*5+j]? = (ec r)[j]?:=fun j hj=>by
  rw [← hc,List.getElem?_take,if_pos hj,List.getElem?_drop]
 refine⟨?_,?_,?_⟩
 ·have:=e 0 (by omega);rw [Nat.add_zero] at this;rw [this];rfl
 ·rw [e 1 (by omega)];rfl
 ·rw [e 2 (by omega)];rfl
theorem ec_set {rs:List ER} {k:Nat} {r:ER} {ad:Option Addr} {n c:Nat} (hk:k<rs.length) (hr:nth er0 rs k=r):(rs.flatMap ec).set (k*5+2) (.slice ad n c)=(rs.set k ⟨r.a,r.b,ad,n,c,r.dir⟩).flatMap ec:=by
 have e1:rs=rs.take k++r::rs.drop (k+1):=by
  rw [← hr,nth_eq _ _ _ hk];simp
 have hl:(rs.take k).length=k:=by simp;omega
 have hfl:∀ l:List ER,(l.flatMap ec).length=l.length*5:=fun l=>by
  induction l with
  | nil=>rfl
  | cons x t ih=>rw [List.flatMap_cons,List.length_append,ih,ec_len,List.length_cons];omega
 generalize rs.take k=A at e1 hl;generalize rs.drop (k+1)=B at e1;subst e1;subst hl;rw [List.set_append_right _ _ (Nat.le_refl _),Nat.sub_self,List.set_cons_zero];rw [List.flatMap_append,List.flatMap_append,List.set_append_right _ _ (by rw [hfl];omega),hfl]
 congr 1
 rw [List.flatMap_cons,List.flatMap_cons];have:A.length*5+2 - A.length*5=2:=by omega
 rw [this]
 rfl
theorem keys_set {rs:List ER} {k:Nat} {r r':ER} (hk:k<rs.length) (hr:nth er0 rs k=r) (he:r'.k=r.k):(rs.set k r').map ER.k=rs.map ER.k:=by
 rw [List.map_set,he];apply List.ext_getElem?;intro i;rw [List.getElem?_set]
 split
 ·rename_i h
  subst h;rw [← hr,nth_eq _ _ _ hk];simp [hk]
 ·rfl
theorem Nats.join {w:World} {S:Nat→Prop} {ad:Option Addr} {c n:Nat} {is is2:List Nat} {w1:World} {S1 S2:Nat→Prop} {v1 v2:Value} (h:SlC w S 1 (.slice ad ((zs is).length+(zs is2).length) c) ((zs is).length+(zs is2).length) (List.map (Value.int .i64) (zs is)++List.map (Value.int .i64) (zs is2))) (h1:Nats w1 S1 v1 is) (h2:Nats w1 S2 v2 is2) (hn:n=is.length+is2.length):Nats w S (.slice ad n c) (is++is2):=by
 have e:zs (is++is2)=zs is++zs is2:=by simp [zs]
 subst hn;refine⟨?_,fun x hx=>?_⟩
 ·rw [e,List.length_append,List.map_append]
  rw [zs_length,zs_length] at h ⊢;exact h
 ·rw [e] at hx
  rcases List.mem_append.1 hx with h|h
  ·exact h1.2 x h
  ·exact h2.2 x h
theorem KS.insert {rs:List ER} {e:ER} {k:Nat} (h:KS rs) (hk:k≤rs.length) (hlo:∀ j,j<k→ltE (nth er0 rs j).k e.k) (hhi:k<rs.length→ltE e.k (nth er0 rs k).k):KS (rs.take k++e::rs.drop k)∧∀ x,x ∈ rs.take k++e::rs.drop k↔x ∈ rs∨x=e:=by
 have hmem:∀ x,x ∈ rs.take k++e::rs.drop k↔x ∈ rs∨x=e:=by
  intro x
  conv=>rhs;rw [← List.take_append_drop k rs]
  simp only [List.mem_append,List.mem_cons]
  constructor
  ·rintro (h|h|h)
   ·exact .inl (.inl h)
   ·exact .inr h
   ·exact .inl (.inr h)
  ·rintro ((h|h)|h)
   ·exact .inl h
   ·exact .inr (.inr h)
   ·exact .inr (.inl h)
 refine⟨?_,hmem⟩;unfold KS at *
 have hlow:∀ x ∈ rs.take k,ltE x.k e.k:=fun x hx=>by
  obtain⟨j,hj,rfl⟩:=List.getElem_of_mem hx;have hjk:j<k:=by have:=hj;rw [List.length_take] at this;omega
  have hjl:j<rs.length:=by omega
  have:=hlo j hjk;rw [nth_eq _ _ _ hjl] at this
  rwa [List.getElem_take]
 have hhigh:∀ x ∈ rs.drop k,ltE e.k x.k:=fun x hx=>by
  obtain⟨j,hj,rfl⟩:=List.getElem_of_mem hx;rw [List.length_drop] at hj;have hkl:k<rs.length:=by omega
  have h0:=hhi hkl;rw [nth_eq _ _ _ hkl] at h0;rw [List.getElem_drop]
  rcases Nat.eq_zero_or_pos j with rfl|hj0
  ·simpa using h0
  ·have h1:=List.pairwise_iff_getElem.1 h k (k+j) (by simpa using hkl) (by simp;omega) (by omega)
   simp only [List.getElem_map] at h1;exact ltE_tr h0 h1
 rw [List.map_append,List.map_cons,List.pairwise_append];have hsp:=h;rw [← List.take_append_drop k rs,List.map_append,List.pairwise_append] at hsp;refine⟨hsp.1,?_,?_⟩
 ·rw [List.pairwise_cons]
  refine⟨fun y hy=>?_,hsp.2.1⟩;obtain⟨x,hx,rfl⟩:=List.mem_map.1 hy;exact hhigh x hx
 ·intro y hy z hz
  obtain⟨x,hx,rfl⟩:=List.mem_map.1 hy
  rcases List.mem_cons.1 hz with rfl|hz
  ·exact hlow x hx
  ·obtain⟨x2,hx2,rfl⟩:=List.mem_map.1 hz
   exact ltE_tr (hlow x hx) (hhigh x2 hx2)
end Go.Hp
namespace Go.Proofs
open Go.Proofs.Tryz
open Go.RowKit Go.Hp
theorem infoE8:(Tryz.prog.info? 88).map (fun i=>(i.zero,i.size,i.bytes))=some (some (.agg #[.int .i64 0,.int .i64 0,.slice none 0 0,.int .i64 0,.int .i64 0]),5,56):=by kernel_rfl
def PutRes (w:World) (Fz S:Nat→Prop) (rs:List ER) (e:ER) (B:Nat) (en:Ending) (w':World):Prop :=
 ∃ (ad':Option Addr) (c':Nat) (rs':List ER) (G:Nat→Prop),en=.returned (.slice ad' rs'.length c')∧Heap w w' [.frz Fz w,.frz G w',.row (.slice ad' rs'.length c') 88 5 rs'.length (rs'.flatMap ec)]∧KS rs'∧OfOk w' (fun k=>S k∨G k) rs' (B+1)∧(∀ x,x ∈ rs'.map ER.k↔x ∈ rs.map ER.k∨x=e.k)∧rs'.length≤rs.length+1
theorem putE_any (ad:Option Addr) (n c:Nat) (rs:List ER) (e:ER) (B:Nat) (w:World) (Fz S:Nat→Prop) (hSF:∀ k,S k→Fz k) (hS:Heap w w [.frz Fz w,.row (.slice ad n c) 88 5 n (rs.flatMap ec)]) (hn:n=rs.length) (hks:KS rs) (hof:OfOk w S rs B) (heo:∃ is,Nats w S (.slice e.ad e.n e.c) is∧is.length≤1) (hle:n≤100000) (hB:B≤100000) :
 Calls Tryz.prog 100 #[.slice ad n c,.agg #[.int .i64 (e.a:Int),.int .i64 (e.b:Int),.slice e.ad e.n e.c,.int .i64 e.dir.x,.int .i64 e.dir.y]] w (PutRes w Fz S rs e B):=by
 subst hn;have hcap:=hS.rowCap 1 rfl;replace hks:=Hd hks
 go_enter func100,ntmps100
 go_wp2_with (with_reducible refine bxA hS fun bx wbx hS=>?_)
 go_loopw [5] (fun v wr=>∃ k:Nat,k≤rs.length∧v=.int .i64 (k:Int)∧Heap w wr [.frz Fz w,.row (.slice ad rs.length c) 88 5 rs.length (rs.flatMap ec),.blk bx (.cells #[.int .i64 (e.a:Int),.int .i64 (e.b:Int),.slice e.ad e.n e.c,.int .i64 e.dir.x,.int .i64 e.dir.y] 88 (0,0))]∧∀ j,j<k→ltE (nth er0 rs j).k e.k) (fun v _=>rs.length - (intOf v).toNat)
 case atStart=>exact⟨0,by omega,rfl,hS,fun j hj=>by omega⟩
 case round =>
  clear hS;obtain⟨k,hk,rfl,hS,hlo⟩:=hrel;replace hlo:=Hd hlo
  by_cases hkl:k<rs.length
  ·obtain⟨g,hg⟩:=hS.rowAt 1 rfl (by omega)
   subst hg;obtain⟨r,hr⟩:∃ r,nth er0 rs k=r:=⟨_,rfl⟩;obtain⟨hA,hB,hO⟩:=ec_cells hkl hr
   by_cases h1:r.a<e.a
   ·have q1:decide (r.a<e.a)=true:=by simp;omega
    have hlo2:∀ j,j<k+1→ltE (nth er0 rs j).k e.k:=fun j hj=>by
     by_cases ee:j=k
     ·subst ee;rw [hr];exact .inl h1
     ·exact hlo.out j (by omega)
    replace hlo2:=Hd hlo2;replace hr:=Hd hr;clear h1;go_wp2;refine rg0 [.p 0,.p 1,.p 2,.p 3,.p 4,.p 5,.p 6,.p 7,.p 8,.r 9,.p 10,.r 11,.p 12,.p 13,.p 14,.p 15,.p 16,.p 17,.r 18,.p 19,.r 20,.p 21,.p 22,.p 23,.p 24,.p 25,.p 26,.r 27,.p 28,.r 29,.p 30,.p 31,.p 32,.p 33] [] hS fun w1 hS=>?_
    repeat (first|(with_reducible refine skL ?_)|((with_reducible refine m_pure ?_);refine sched_any rfl rfl (any_index_atk (T:=30) underlying30 sizeOf88 rfl rfl (by omega) (by omega) ?_);simp only [NRM];try simp only [Nat.zero_add,Int.toNat_natCast])|((with_reducible refine m_read ?_);refine sched_of rfl rfl (stp_load_rowc (T:=3) 1 isAgg3 rfl rfl hA ?_);simp only [NRM])|(with_reducible first|refine sldB 2 isAgg3 ?_|refine spL ?_))
    refine snL ?_;go_wp2;go_roundw
    case rel=>exact⟨k+1,by omega,by simp,hS,hlo2.out⟩
    case measure=>simp [intOf];omega
   ·have q1:decide (r.a<e.a)=false:=by simp;omega
    by_cases h2:r.a=e.a
    ·have q2:((r.a:Int) == (e.a:Int))=true:=by simp [h2]
     by_cases h3:r.b<e.b
     ·have q3:decide (r.b<e.b)=true:=by simp;omega
      have hlo2:∀ j,j<k+1→ltE (nth er0 rs j).k e.k:=fun j hj=>by
       by_cases ee:j=k
       ·subst ee;rw [hr];exact .inr ⟨h2,h3⟩
       ·exact hlo.out j (by omega)
      replace hlo2:=Hd hlo2;replace hr:=Hd hr;clear h1 h2 h3;go_wp2;refine rg0 [.p 0,.p 1,.p 2,.p 3,.p 4,.p 5,.p 6,.p 7,.p 8,.r 9,.p 10,.r 11,.p 12,.p 13,.p 14,.p 15,.p 16,.p 17,.r 18,.p 19,.r 20,.p 21,.p 22,.p 23,.p 24,.p 25,.p 26,.r 27,.p 28,.r 29,.p 30,.p 31,.p 32,.p 33] [] hS fun w1 hS=>?_
      repeat (first|((with_reducible refine m_pure ?_);refine sched_any rfl rfl (any_index_atk (T:=30) underlying30 sizeOf88 rfl rfl (by omega) (by omega) ?_);simp only [NRM];try simp only [Nat.zero_add,Int.toNat_natCast])|((with_reducible refine m_read ?_);refine sched_of rfl rfl (stp_load_rowc (T:=3) 1 isAgg3 rfl rfl hA ?_);simp only [NRM])|((with_reducible refine m_read ?_);refine sched_of rfl rfl (stp_load_rowc (T:=3) 1 isAgg3 rfl rfl hB ?_);simp only [NRM])|(with_reducible first|refine sldB 2 isAgg3 ?_|refine spL ?_))
      refine snL ?_;go_wp2;go_roundw
      case rel=>exact⟨k+1,by omega,by simp,hS,hlo2.out⟩
      case measure=>simp [intOf];omega
     ·have q3:decide (r.b<e.b)=false:=by simp;omega
      by_cases h4:r.b=e.b
      ·have q4:((r.b:Int) == (e.b:Int))=true:=by simp [h4]
       have hek:e.k=r.k:=by unfold ER.k;rw [h2,h4]
       replace hek:=Hd hek;replace hr:=Hd hr;clear h1 h2 h3 h4;go_wp2;refine rg0 [.p 0,.p 1,.p 2,.p 3,.p 4,.p 5,.p 6,.p 7,.p 8,.r 9,.p 10,.r 11,.p 12,.p 13,.p 14,.p 15,.p 16,.p 17,.r 18,.p 19,.r 20,.p 21,.p 22,.p 23,.p 24,.p 25,.p 26,.r 27,.p 28,.r 29,.p 30,.p 31,.p 32,.p 33] [] hS fun w1 hS=>?_
       repeat (first|((with_reducible refine m_pure ?_);refine sched_any rfl rfl (any_index_atk (T:=30) underlying30 sizeOf88 rfl rfl (by omega) (by omega) ?_);simp only [NRM];try simp only [Nat.zero_add,Int.toNat_natCast])|((with_reducible refine m_read ?_);refine sched_of rfl rfl (stp_load_rowc (T:=3) 1 isAgg3 rfl rfl hA ?_);simp only [NRM])|((with_reducible refine m_read ?_);refine sched_of rfl rfl (stp_load_rowc (T:=3) 1 isAgg3 rfl rfl hB ?_);simp only [NRM])|(with_reducible first|refine sldB 2 isAgg3 ?_|refine spL ?_))
       refine snL ?_;go_wp2;refine rg0 [.p 0,.p 1,.p 2,.p 3,.p 4,.p 5,.p 6,.p 7,.p 8,.r 9,.p 10,.r 11,.p 12,.p 13,.p 14,.p 15,.p 16,.p 17,.p 18,.r 19,.p 20,.r 21,.p 22,.p 23] [] hS fun w1 hS=>?_
       repeat (first|((with_reducible refine m_pure ?_);refine sched_any rfl rfl (any_index_atk (T:=30) underlying30 sizeOf88 rfl rfl (by omega) (by omega) ?_);simp only [NRM];try simp only [Nat.zero_add,Int.toNat_natCast])|((with_reducible refine m_read ?_);refine sched_of rfl rfl (stp_load_rowc (T:=3) 1 isAgg3 rfl rfl hA ?_);simp only [NRM])|((with_reducible refine m_read ?_);refine sched_of rfl rfl (stp_load_rowc (T:=3) 1 isAgg3 rfl rfl hB ?_);simp only [NRM])|(with_reducible first|refine sldB 2 isAgg3 ?_|refine spL ?_))
       refine snL ?_;obtain⟨is,hN,hBl⟩:=hof r (by rw [← hr.out];exact nth_mem er0 rs k hkl);obtain⟨is2,hN2,hBl2⟩:=heo;have hz1:(zs is).length=is.length:=zs_length is;have hz2:(zs is2).length=is2.length:=zs_length is2
       have hcl:k*5+2<(rs.flatMap ec).length:=by
        have:=List.getElem?_eq_some_iff.1 hO;exact this.1
       go_wp2;refine wp_region_sched2 [.p 0,.p 1,.p 3,.p 4,.p 5,.p 6,.r 7,.p 9,.r 10,.e 2,.e 8,.e 11,.p 12,.p 13,.m 14] [14] (fun w'=>Heap w w' [.frz Fz w,.row (.slice (some ⟨g,0,none⟩) rs.length c) 88 5 rs.length (rs.flatMap ec),.blk bx (.cells #[.int .i64 (e.a:Int),.int .i64 (e.b:Int),.slice e.ad e.n e.c,.int .i64 e.dir.x,.int .i64 e.dir.y] 88 (0,0))]) (fun w'=>Heap w w' _) (by kernel_rfl) (by kernel_rfl) hS.drew (fun _ hZ=>Heap.sub hZ (by repeat (first|exact List.Sublist.refl _))) (fun w1 hS=>?_)
       repeat (first|((with_reducible refine m_pure ?_);refine sched_any rfl rfl (any_index_atk (T:=30) underlying30 sizeOf88 rfl rfl (by omega) (by omega) ?_);simp only [NRM];try simp only [Nat.zero_add,Int.toNat_natCast])|((with_reducible refine m_read ?_);refine sched_of rfl rfl (stp_load_rowc (T:=22) 1 isAgg22 rfl rfl hO ?_);simp only [NRM])|(with_reducible first|refine sldB 2 isAgg22 ?_|refine spL ?_))
       refine exL ?_
       ((with_reducible refine g_bs (T:=22) ?_);refine seq_bs0 (T:=22) hS underlying22 sizeOf3 rfl (fun b7 _ hS=>?_);simp only [NRM];simp only [NRH] at hS)
       refine ext_end hS.sb ?_;refine mvs ?_;refine exL ?_
       ((with_reducible refine g_app ?_);refine seq_append (t:=22) 3 hS underlying22 infoInt rfl (by decide) rfl rfl rfl (hN.weaken hSF).1 (by simp) (iv_one _) (by omega) (by unfold maxLen;omega) (fun ad1 cp1 _ hS=>?_);simp only [NRM];simp only [NRH] at hS;try simp only [List.nil_append,Nat.zero_add] at hS ⊢)
       refine ext_end hS.sb ?_;refine mvs ?_;refine exL ?_
       ((with_reducible refine g_app ?_);refine seq_append (t:=22) 3 hS underlying22 infoInt rfl (by decide) rfl rfl rfl (hN2.weaken hSF).1 (by simp) (iv_one _) (by omega) (by unfold maxLen;omega) (fun ad2 cp2 _ hS=>?_);simp only [NRM];simp only [NRH] at hS)
       refine ext_end hS.sb ?_
       repeat (first|((with_reducible refine m_pure ?_);refine sched_any rfl rfl (any_index_atk (T:=30) underlying30 sizeOf88 rfl rfl (by omega) (by omega) ?_);simp only [NRM];try simp only [Nat.zero_add,Int.toNat_natCast])|(with_reducible refine spL ?_))
       refine muL ?_
       ((with_reducible refine g_store (T:=22) ?_);refine seq_store_rowc (T:=22) (v:=.slice _ _ _) 1 hS rfl rfl rfl hcl sizeOf22 rfl rfl (fun _ hS=>?_);simp only [NRM];simp only [NRH] at hS)
       refine mut_end ?_;refine snL ?_;go_wp2;go_ret;have hrow:=hS.rowSl 3 rfl;have hf:=(hS.freeze 3 rfl).order [0,3,1,2] rfl;simp only [List.set_cons_succ,List.set_cons_zero,List.filterMap_cons,List.getElem?_cons_zero,List.getElem?_cons_succ,List.filterMap_nil] at hf;rw [ec_set hkl hr.out] at hf;refine⟨some ⟨g,0,none⟩,c,rs.set k ⟨r.a,r.b,ad2,is.length+is2.length,cp2,r.dir⟩,_,by rw [List.length_set];rfl,by rw [List.length_set];exact hf.sub (by repeat (first|exact List.Sublist.refl _|apply List.Sublist.cons_cons|apply List.Sublist.cons)),?_,?_,?_,by rw [List.length_set];omega⟩
       ·unfold KS;rw [keys_set (r':=⟨r.a,r.b,ad2,is.length+is2.length,cp2,r.dir⟩) hkl hr.out rfl];exact hks.out
       ·intro x hx
        rcases List.mem_or_eq_of_mem_set hx with h|h
        ·obtain⟨js,j1,j2⟩:=hof x h
         exact⟨js,(j1.move (hS.keep hSF)).weaken (fun _ h=>.inl h),by omega⟩
        ·subst h
         exact⟨is++is2,(Nats.join hrow hN hN2 rfl).weaken (fun _ h=>.inr h),by simp;omega⟩
       ·intro x
        rw [keys_set (r':=⟨r.a,r.b,ad2,is.length+is2.length,cp2,r.dir⟩) hkl hr.out rfl,hek.out];refine⟨.inl,fun h=>h.elim id (fun h=>?_)⟩;subst h;exact List.mem_map.2 ⟨r,by rw [← hr.out];exact nth_mem er0 rs k hkl,rfl⟩
      ·have q4:((r.b:Int) == (e.b:Int))=false:=by simp;omega
       have hhi:k<rs.length→ltE e.k (nth er0 rs k).k:=fun _=>by rw [hr];exact .inr ⟨h2.symm,by show e.b<r.b;omega⟩
       replace hhi:=Hd hhi;replace hr:=Hd hr;clear h1 h2 h3 h4;go_wp2;refine rg0 [.p 0,.p 1,.p 2,.p 3,.p 4,.p 5,.p 6,.p 7,.p 8,.r 9,.p 10,.r 11,.p 12,.p 13,.p 14,.p 15,.p 16,.p 17,.r 18,.p 19,.r 20,.p 21,.p 22,.p 23,.p 24,.p 25,.p 26,.r 27,.p 28,.r 29,.p 30,.p 31,.p 32,.p 33] [] hS fun w1 hS=>?_
       repeat (first|((with_reducible refine m_pure ?_);refine sched_any rfl rfl (any_index_atk (T:=30) underlying30 sizeOf88 rfl rfl (by omega) (by omega) ?_);simp only [NRM];try simp only [Nat.zero_add,Int.toNat_natCast])|((with_reducible refine m_read ?_);refine sched_of rfl rfl (stp_load_rowc (T:=3) 1 isAgg3 rfl rfl hA ?_);simp only [NRM])|((with_reducible refine m_read ?_);refine sched_of rfl rfl (stp_load_rowc (T:=3) 1 isAgg3 rfl rfl hB ?_);simp only [NRM])|(with_reducible first|refine sldB 2 isAgg3 ?_|refine spL ?_))
       refine snL ?_;go_wp2;refine rg0 [.p 0,.p 1,.p 2,.p 3,.p 4,.p 5,.p 6,.p 7,.p 8,.r 9,.p 10,.r 11,.p 12,.p 13,.p 14,.p 15,.p 16,.p 17,.p 18,.r 19,.p 20,.r 21,.p 22,.p 23] [] hS fun w1 hS=>?_
       repeat (first|((with_reducible refine m_pure ?_);refine sched_any rfl rfl (any_index_atk (T:=30) underlying30 sizeOf88 rfl rfl (by omega) (by omega) ?_);simp only [NRM];try simp only [Nat.zero_add,Int.toNat_natCast])|((with_reducible refine m_read ?_);refine sched_of rfl rfl (stp_load_rowc (T:=3) 1 isAgg3 rfl rfl hA ?_);simp only [NRM])|((with_reducible refine m_read ?_);refine sched_of rfl rfl (stp_load_rowc (T:=3) 1 isAgg3 rfl rfl hB ?_);simp only [NRM])|(with_reducible first|refine sldB 2 isAgg3 ?_|refine spL ?_))
       refine snL ?_;obtain⟨a1,c1,e1⟩:∃ a1 c1,subV (some ⟨g,0,none⟩) c 0 (k) 5=.slice a1 (k) c1:=⟨_,_,rfl⟩;obtain⟨a2,c2,e2⟩:∃ a2 c2,subV (some ⟨g,0,none⟩) c (k) rs.length 5=.slice a2 (rs.length - (k)) c2:=⟨_,_,rfl⟩;have hrow:=hS.rowSl 1 rfl;have n1:=hrow.sub (j:=0) (m:=k) (by omega) (by omega);have n2:=hrow.sub (j:=k) (m:=rs.length) (by omega) (by omega);rw [e1,flat_take ec_len,Nat.zero_mul,List.drop_zero,Nat.sub_zero] at n1;rw [e2,flat_take ec_len,List.take_length,flat_drop ec_len] at n2;replace e1:=Hd e1;replace e2:=Hd e2;have hS:=hS.freeze 1 rfl;simp only [NRH] at hS;have hS:=hS.addNil 88 5;simp only [NRH] at hS
       go_wp2_with (first|((with_reducible refine g_slice (T:=30) ?_);refine seq_any rfl (any_slice_hiG (T:=30) (m:=k) underlying30 sizeOf88 rfl rfl rfl (by omega) e1.out ?_);simp only [NRM])|((with_reducible refine g_slice (T:=30) ?_);refine seq_any rfl (any_slice_loG (T:=30) (j:=k) underlying30 sizeOf88 rfl rfl rfl (by omega) e2.out ?_);simp only [NRM])|(with_reducible refine ldA 2 hS isAgg88 sizeOf88 ?_)|((with_reducible refine g_bs (T:=30) ?_);refine seq_bs1 (T:=30) (v:=.agg #[.int .i64 _,.int .i64 _,.slice _ _ _,.int .i64 _,.int .i64 _]) hS underlying30 sizeOf88 zeroValue88 rfl rfl rfl (by decide) (by decide) rfl (fun bl wbl hS=>?_);simp only [NRM];simp only [Value.cells] at hS)|((with_reducible refine g_app ?_);refine seq_append_lit (t:=30) 3 hS underlying30 infoE8 rfl (by decide) rfl rfl rfl rfl (by simp [Value.oneCell']) (by omega) (by unfold maxLen;omega) (fun _ _ _ hS=>?_);simp only [NRM];simp only [NRH] at hS)|((with_reducible refine g_app ?_);refine seq_append (t:=30) 3 hS underlying30 infoE8 rfl (by decide) rfl rfl rfl n1 (by simp) (ec_one _) (by omega) (by unfold maxLen;omega) (fun _ _ _ hS=>?_);simp only [NRM];simp only [NRH] at hS;try simp only [Nat.zero_add,List.nil_append] at hS ⊢)|((with_reducible refine g_app ?_);refine seq_append (t:=30) 3 hS underlying30 infoE8 rfl (by decide) rfl rfl rfl n2 (by simp) (ec_one _) (by omega) (by unfold maxLen;omega) (fun _ _ _ hS=>?_);simp only [NRM];simp only [NRH] at hS))
       go_ret;have hfin:(rs.take (k)++e::rs.drop (k)).flatMap ec=(rs.take (k)).flatMap ec++ec e++(rs.drop (k)).flatMap ec:=by simp
       have hlen:(rs.take (k)++e::rs.drop (k)).length=(k)+1+(rs.length - (k)):=by first|(simp;omega)
       obtain⟨hk1,hm1⟩:=hks.out.insert (show (k)≤rs.length by omega) hlo.out hhi.out;have hf:=(hS.freeze 1 rfl).order [0,1,3,2] rfl;simp only [List.set_cons_succ,List.set_cons_zero,List.filterMap_cons,List.getElem?_cons_zero,List.getElem?_cons_succ,List.filterMap_nil] at hf;refine⟨_,_,rs.take (k)++e::rs.drop (k),(Chunk.frz (Chunk.row (.slice (some ⟨g,0,none⟩) rs.length c) 88 5 rs.length (rs.flatMap ec)).has w1).has,by rw [hlen];rfl,?_,hk1,?_,?_,by rw [hlen];omega⟩
       ·rw [hlen,hfin]
        exact hf.sub (by repeat (first|exact List.Sublist.refl _|apply List.Sublist.cons_cons|apply List.Sublist.cons))
       ·intro x hx
        rcases (hm1 x).1 hx with h|h
        ·obtain⟨js,j1,j2⟩:=hof x h
         exact⟨js,(j1.move (hS.keep hSF)).weaken (fun _ h=>.inl h),by omega⟩
        ·subst h
         obtain⟨js,j1,j2⟩:=heo;exact⟨js,(j1.move (hS.keep hSF)).weaken (fun _ h=>.inl h),by omega⟩
       ·intro x
        rw [List.mem_map,List.mem_map]
        constructor
        ·rintro⟨y,hy,rfl⟩
         rcases (hm1 y).1 hy with h|h
         ·exact .inl ⟨y,h,rfl⟩
         ·exact .inr (by rw [h])
        ·rintro (⟨y,hy,rfl⟩|rfl)
         ·exact⟨y,(hm1 y).2 (.inl hy),rfl⟩
         ·exact⟨e,(hm1 e).2 (.inr rfl),rfl⟩
    ·have q2:((r.a:Int) == (e.a:Int))=false:=by simp;omega
     have hhi:k<rs.length→ltE e.k (nth er0 rs k).k:=fun _=>by rw [hr];exact .inl (by show e.a<r.a;omega)
     replace hhi:=Hd hhi;replace hr:=Hd hr;clear h1 h2;go_wp2;refine rg0 [.p 0,.p 1,.p 2,.p 3,.p 4,.p 5,.p 6,.p 7,.p 8,.r 9,.p 10,.r 11,.p 12,.p 13,.p 14,.p 15,.p 16,.p 17,.r 18,.p 19,.r 20,.p 21,.p 22,.p 23,.p 24,.p 25,.p 26,.r 27,.p 28,.r 29,.p 30,.p 31,.p 32,.p 33] [] hS fun w1 hS=>?_
     repeat (first|(with_reducible refine skL ?_)|((with_reducible refine m_pure ?_);refine sched_any rfl rfl (any_index_atk (T:=30) underlying30 sizeOf88 rfl rfl (by omega) (by omega) ?_);simp only [NRM];try simp only [Nat.zero_add,Int.toNat_natCast])|((with_reducible refine m_read ?_);refine sched_of rfl rfl (stp_load_rowc (T:=3) 1 isAgg3 rfl rfl hA ?_);simp only [NRM])|(with_reducible first|refine sldB 2 isAgg3 ?_|refine spL ?_))
     refine snL ?_;go_wp2;refine rg0 [.p 0,.p 1,.p 2,.p 3,.p 4,.p 5,.p 6,.p 7,.p 8,.r 9,.p 10,.r 11,.p 12,.p 13,.p 14,.p 15,.p 16,.p 17,.p 18,.r 19,.p 20,.r 21,.p 22,.p 23] [] hS fun w1 hS=>?_
     repeat (first|(with_reducible refine skL ?_)|((with_reducible refine m_pure ?_);refine sched_any rfl rfl (any_index_atk (T:=30) underlying30 sizeOf88 rfl rfl (by omega) (by omega) ?_);simp only [NRM];try simp only [Nat.zero_add,Int.toNat_natCast])|((with_reducible refine m_read ?_);refine sched_of rfl rfl (stp_load_rowc (T:=3) 1 isAgg3 rfl rfl hA ?_);simp only [NRM])|(with_reducible first|refine sldB 2 isAgg3 ?_|refine spL ?_))
     refine snL ?_;obtain⟨a1,c1,e1⟩:∃ a1 c1,subV (some ⟨g,0,none⟩) c 0 (k) 5=.slice a1 (k) c1:=⟨_,_,rfl⟩;obtain⟨a2,c2,e2⟩:∃ a2 c2,subV (some ⟨g,0,none⟩) c (k) rs.length 5=.slice a2 (rs.length - (k)) c2:=⟨_,_,rfl⟩;have hrow:=hS.rowSl 1 rfl;have n1:=hrow.sub (j:=0) (m:=k) (by omega) (by omega);have n2:=hrow.sub (j:=k) (m:=rs.length) (by omega) (by omega);rw [e1,flat_take ec_len,Nat.zero_mul,List.drop_zero,Nat.sub_zero] at n1;rw [e2,flat_take ec_len,List.take_length,flat_drop ec_len] at n2;replace e1:=Hd e1;replace e2:=Hd e2;have hS:=hS.freeze 1 rfl;simp only [NRH] at hS;have hS:=hS.addNil 88 5;simp only [NRH] at hS
     go_wp2_with (first|((with_reducible refine g_slice (T:=30) ?_);refine seq_any rfl (any_slice_hiG (T:=30) (m:=k) underlying30 sizeOf88 rfl rfl rfl (by omega) e1.out ?_);simp only [NRM])|((with_reducible refine g_slice (T:=30) ?_);refine seq_any rfl (any_slice_loG (T:=30) (j:=k) underlying30 sizeOf88 rfl rfl rfl (by omega) e2.out ?_);simp only [NRM])|(with_reducible refine ldA 2 hS isAgg88 sizeOf88 ?_)|((with_reducible refine g_bs (T:=30) ?_);refine seq_bs1 (T:=30) (v:=.agg #[.int .i64 _,.int .i64 _,.slice _ _ _,.int .i64 _,.int .i64 _]) hS underlying30 sizeOf88 zeroValue88 rfl rfl rfl (by decide) (by decide) rfl (fun bl wbl hS=>?_);simp only [NRM];simp only [Value.cells] at hS)|((with_reducible refine g_app ?_);refine seq_append_lit (t:=30) 3 hS underlying30 infoE8 rfl (by decide) rfl rfl rfl rfl (by simp [Value.oneCell']) (by omega) (by unfold maxLen;omega) (fun _ _ _ hS=>?_);simp only [NRM];simp only [NRH] at hS)|((with_reducible refine g_app ?_);refine seq_append (t:=30) 3 hS underlying30 infoE8 rfl (by decide) rfl rfl rfl n1 (by simp) (ec_one _) (by omega) (by unfold maxLen;omega) (fun _ _ _ hS=>?_);simp only [NRM];simp only [NRH] at hS;try simp only [Nat.zero_add,List.nil_append] at hS ⊢)|((with_reducible refine g_app ?_);refine seq_append (t:=30) 3 hS underlying30 infoE8 rfl (by decide) rfl rfl rfl n2 (by simp) (ec_one _) (by omega) (by unfold maxLen;omega) (fun _ _ _ hS=>?_);simp only [NRM];simp only [NRH] at hS))
     go_ret;have hfin:(rs.take (k)++e::rs.drop (k)).flatMap ec=(rs.take (k)).flatMap ec++ec e++(rs.drop (k)).flatMap ec:=by simp
     have hlen:(rs.take (k)++e::rs.drop (k)).length=(k)+1+(rs.length - (k)):=by first|(simp;omega)
     obtain⟨hk1,hm1⟩:=hks.out.insert (show (k)≤rs.length by omega) hlo.out hhi.out;have hf:=(hS.freeze 1 rfl).order [0,1,3,2] rfl;simp only [List.set_cons_succ,List.set_cons_zero,List.filterMap_cons,List.getElem?_cons_zero,List.getElem?_cons_succ,List.filterMap_nil] at hf;refine⟨_,_,rs.take (k)++e::rs.drop (k),(Chunk.frz (Chunk.row (.slice (some ⟨g,0,none⟩) rs.length c) 88 5 rs.length (rs.flatMap ec)).has w1).has,by rw [hlen];rfl,?_,hk1,?_,?_,by rw [hlen];omega⟩
     ·rw [hlen,hfin]
      exact hf.sub (by repeat (first|exact List.Sublist.refl _|apply List.Sublist.cons_cons|apply List.Sublist.cons))
     ·intro x hx
      rcases (hm1 x).1 hx with h|h
      ·obtain⟨js,j1,j2⟩:=hof x h
       exact⟨js,(j1.move (hS.keep hSF)).weaken (fun _ h=>.inl h),by omega⟩
      ·subst h
       obtain⟨js,j1,j2⟩:=heo;exact⟨js,(j1.move (hS.keep hSF)).weaken (fun _ h=>.inl h),by omega⟩
     ·intro x
      rw [List.mem_map,List.mem_map]
      constructor
      ·rintro⟨y,hy,rfl⟩
       rcases (hm1 y).1 hy with h|h
       ·exact .inl ⟨y,h,rfl⟩
       ·exact .inr (by rw [h])
      ·rintro (⟨y,hy,rfl⟩|rfl)
       ·exact⟨y,(hm1 y).2 (.inl hy),rfl⟩
       ·exact⟨e,(hm1 e).2 (.inr rfl),rfl⟩
  ·obtain rfl:k=rs.length:=by omega
   have hhi:rs.length<rs.length→ltE e.k (nth er0 rs rs.length).k:=fun h=>absurd h (Nat.lt_irrefl _)
   replace hhi:=Hd hhi;have hA:(0:Nat)=0:=rfl;have hB:=hA;go_wp2;refine rg0 [.p 0,.p 1,.p 2,.p 3,.p 4,.p 5,.p 6,.p 7,.p 8,.r 9,.p 10,.r 11,.p 12,.p 13,.p 14,.p 15,.p 16,.p 17,.r 18,.p 19,.r 20,.p 21,.p 22,.p 23,.p 24,.p 25,.p 26,.r 27,.p 28,.r 29,.p 30,.p 31,.p 32,.p 33] [] hS fun w1 hS=>?_
   repeat (with_reducible first|refine skL ?_|refine spL ?_)
   refine snL ?_;go_wp2;refine rg0 [.p 0,.p 1,.p 2,.p 3,.p 4,.p 5,.p 6,.p 7,.p 8,.r 9,.p 10,.r 11,.p 12,.p 13,.p 14,.p 15,.p 16,.p 17,.p 18,.r 19,.p 20,.r 21,.p 22,.p 23] [] hS fun w1 hS=>?_
   repeat (with_reducible first|refine skL ?_|refine spL ?_)
   refine snL ?_;obtain⟨a1,c1,e1⟩:∃ a1 c1,subV (ad) c 0 (rs.length) 5=.slice a1 (rs.length) c1:=⟨_,_,rfl⟩;obtain⟨a2,c2,e2⟩:∃ a2 c2,subV (ad) c (rs.length) rs.length 5=.slice a2 (rs.length - (rs.length)) c2:=⟨_,_,rfl⟩;have hrow:=hS.rowSl 1 rfl;have n1:=hrow.sub (j:=0) (m:=rs.length) (by omega) (by omega);have n2:=hrow.sub (j:=rs.length) (m:=rs.length) (by omega) (by omega);rw [e1,flat_take ec_len,Nat.zero_mul,List.drop_zero,Nat.sub_zero] at n1;rw [e2,flat_take ec_len,List.take_length,flat_drop ec_len] at n2;replace e1:=Hd e1;replace e2:=Hd e2;have hS:=hS.freeze 1 rfl;simp only [NRH] at hS;have hS:=hS.addNil 88 5;simp only [NRH] at hS
   go_wp2_with (first|((with_reducible refine g_slice (T:=30) ?_);refine seq_any rfl (any_slice_hiG (T:=30) (m:=rs.length) underlying30 sizeOf88 rfl rfl rfl (by omega) e1.out ?_);simp only [NRM])|((with_reducible refine g_slice (T:=30) ?_);refine seq_any rfl (any_slice_loG (T:=30) (j:=rs.length) underlying30 sizeOf88 rfl rfl rfl (by omega) e2.out ?_);simp only [NRM])|(with_reducible refine ldA 2 hS isAgg88 sizeOf88 ?_)|((with_reducible refine g_bs (T:=30) ?_);refine seq_bs1 (T:=30) (v:=.agg #[.int .i64 _,.int .i64 _,.slice _ _ _,.int .i64 _,.int .i64 _]) hS underlying30 sizeOf88 zeroValue88 rfl rfl rfl (by decide) (by decide) rfl (fun bl wbl hS=>?_);simp only [NRM];simp only [Value.cells] at hS)|((with_reducible refine g_app ?_);refine seq_append_lit (t:=30) 3 hS underlying30 infoE8 rfl (by decide) rfl rfl rfl rfl (by simp [Value.oneCell']) (by omega) (by unfold maxLen;omega) (fun _ _ _ hS=>?_);simp only [NRM];simp only [NRH] at hS)|((with_reducible refine g_app ?_);refine seq_append (t:=30) 3 hS underlying30 infoE8 rfl (by decide) rfl rfl rfl n1 (by simp) (ec_one _) (by omega) (by unfold maxLen;omega) (fun _ _ _ hS=>?_);simp only [NRM];simp only [NRH] at hS;try simp only [Nat.zero_add,List.nil_append] at hS ⊢)|((with_reducible refine g_app ?_);refine seq_append (t:=30) 3 hS underlying30 infoE8 rfl (by decide) rfl rfl rfl n2 (by simp) (ec_one _) (by omega) (by unfold maxLen;omega) (fun _ _ _ hS=>?_);simp only [NRM];simp only [NRH] at hS))
   go_ret;have hfin:(rs.take (rs.length)++e::rs.drop (rs.length)).flatMap ec=(rs.take (rs.length)).flatMap ec++ec e++(rs.drop (rs.length)).flatMap ec:=by simp
   have hlen:(rs.take (rs.length)++e::rs.drop (rs.length)).length=(rs.length)+1+(rs.length - (rs.length)):=by first|(simp;done)
   obtain⟨hk1,hm1⟩:=hks.out.insert (show (rs.length)≤rs.length by omega) hlo.out hhi.out;have hf:=(hS.freeze 1 rfl).order [0,1,3,2] rfl;simp only [List.set_cons_succ,List.set_cons_zero,List.filterMap_cons,List.getElem?_cons_zero,List.getElem?_cons_succ,List.filterMap_nil] at hf;refine⟨_,_,rs.take (rs.length)++e::rs.drop (rs.length),(Chunk.frz (Chunk.row (.slice (ad) rs.length c) 88 5 rs.length (rs.flatMap ec)).has w1).has,by rw [hlen];rfl,?_,hk1,?_,?_,by rw [hlen];omega⟩
   ·rw [hlen,hfin]
    exact hf.sub (by repeat (first|exact List.Sublist.refl _|apply List.Sublist.cons_cons|apply List.Sublist.cons))
   ·intro x hx
    rcases (hm1 x).1 hx with h|h
    ·obtain⟨js,j1,j2⟩:=hof x h
     exact⟨js,(j1.move (hS.keep hSF)).weaken (fun _ h=>.inl h),by omega⟩
    ·subst h
     obtain⟨js,j1,j2⟩:=heo;exact⟨js,(j1.move (hS.keep hSF)).weaken (fun _ h=>.inl h),by omega⟩
   ·intro x
    rw [List.mem_map,List.mem_map]
    constructor
    ·rintro⟨y,hy,rfl⟩
     rcases (hm1 y).1 hy with h|h
     ·exact .inl ⟨y,h,rfl⟩
     ·exact .inr (by rw [h])
    ·rintro (⟨y,hy,rfl⟩|rfl)
     ·exact⟨y,(hm1 y).2 (.inl hy),rfl⟩
     ·exact⟨e,(hm1 e).2 (.inr rfl),rfl⟩
end Go.Proofs
