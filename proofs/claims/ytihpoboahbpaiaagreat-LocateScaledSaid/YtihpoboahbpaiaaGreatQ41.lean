/- Texts for the walk of the law: M14. -/
import Derived.Test.YtihpoboahbpaiaaGreatQ40
set_option maxRecDepth 100000
set_option maxHeartbeats 16000000
set_option linter.unusedVariables false
set_option linter.unusedSimpArgs false
namespace Go.Hp
open Go.Proofs.Tryz
open Go Go.RowKit
theorem fill5p (a b c d e f g h i j:Value):Instr.fill (fun i=>some (i*2,2)) ((Array.range (5*2)).map ((Value.agg #[.int .i64 0,.int .i64 0]).cells[· % (Value.agg #[.int .i64 0,.int .i64 0]).cells.size]!)) [(0,.agg #[a,b]),(1,.agg #[c,d]),(2,.agg #[e,f]),(3,.agg #[g,h]),(4,.agg #[i,j])]=some #[a,b,c,d,e,f,g,h,i,j]:=by
 have hh:((Array.range (5*2)).map ((Value.agg #[.int .i64 0,.int .i64 0]).cells[· % (Value.agg #[.int .i64 0,.int .i64 0]).cells.size]!))=#[.int .i64 0,.int .i64 0,.int .i64 0,.int .i64 0,.int .i64 0,.int .i64 0,.int .i64 0,.int .i64 0,.int .i64 0,.int .i64 0]:=by
  apply Array.ext';simp [Array.range,List.ofFn_succ,Value.cells]
 rw [hh];simp [Instr.fill,Value.cells]
def Gp.net (g:Gp):Prop:=(-12≤g.x∧g.x≤44)∧-12≤g.y∧g.y≤44
def NetOk (os:List Sz):Prop:=∀ s ∈ os,s.a.net∧s.b.net∧s.a≠s.b
theorem netOk_snoc {os:List Sz} {p q:Gp} (h:NetOk os) (hp:p.net) (hq:q.net) (hne:p≠q):NetOk (os++[⟨p,q⟩]):=by
 intro s hs
 rcases List.mem_append.1 hs with h1|h1
 ·exact h s h1
 ·rw [List.mem_singleton] at h1;subst h1;exact⟨hp,hq,hne⟩
theorem quo_small {n m:Int} (h0:0≤n) (h1:n<1048576) (hm:0<m) (r:Int) (hr:1≤r∧r≤12):n.tdiv m=n / m∧IntKind.i64.wrap (n / m)=n / m∧(n / m).tmod r=n / m % r∧IntKind.i64.wrap (n / m % r)=n / m % r∧0≤n / m % r∧n / m % r<r∧0≤n / m:=by
 have e1:=Int.ediv_nonneg h0 (Int.le_of_lt hm);have e2:=Int.ediv_le_self m h0;have e3:=Int.emod_nonneg (n / m) (show r≠0 by omega);have e4:=Int.emod_lt_of_pos (n / m) (show 0<r by omega);exact⟨Int.tdiv_eq_ediv_of_nonneg h0,w6,Int.tmod_eq_emod_of_nonneg e1,w6,e3,e4,e1⟩
end Go.Hp
namespace Go.Proofs
open Go.Proofs.Tryz
open Go.RowKit Go.Hp
theorem net08_any (a:Option Addr) (n c:Nat) (xs:List Int) (w:World) (hx:Ints w (Old w) (.slice a n c) xs) :
 Calls Tryz.prog 32 #[.slice a n c] w fun e w'=>∃ (os:List Sz) (ad:Option Addr) (c2:Nat),e=.returned (.slice ad os.length c2)∧NetOk os∧os.length≤20∧Heap w w' [.frz (Old w) w,.row (.slice ad os.length c2) 95 4 os.length (os.flatMap sc)]:=by
 have hn:=hx.len;subst hn;have hle:=hx.le;have hS:=(Heap.start w).addNil 95 4;simp only [NRH] at hS
 go_enter func32,ntmps32
 go_wp2
 go_loopw [3,4] (fun v3 v4 wr=>∃ (k:Nat) (os:List Sz) (ad:Option Addr) (N c2:Nat),k≤4∧os.length=N∧N≤5*k∧v4=.int .i64 (k:Int)∧v3=.slice ad N c2∧NetOk os∧Heap w wr [.frz (Old w) w,.row (.slice ad N c2) 95 4 N (os.flatMap sc)]) (fun _ v4 _=>4 - (intOf v4).toNat)
 case atStart=>exact⟨0,[],none,0,0,by omega,rfl,by omega,rfl,rfl,(by intro s hs;cases hs),hS⟩
 case round =>
  clear hS;obtain⟨k,os,ad,N,c2,hk,hN,hN5,rfl,rfl,hok,hS⟩:=hrel;replace hok:=Hd hok;replace hN:=Hd hN
  by_cases hk4:k<4
  ·have d1:decide (k<4)=true:=by simpa using hk4
   have w1:IntKind.i64.wrap (3*(k:Int))=3*(k:Int):=w6;have w2:IntKind.i64.wrap (3*(k:Int)+1)=3*(k:Int)+1:=w6
   by_cases hkl:3*(k:Int)<(xs.length:Int)
   ·have d2:decide (3*(k:Int)<(xs.length:Int))=true:=by simpa using hkl
    have p1:=fun w' (h:Ints w' (Old w') (.slice a xs.length c) xs)=>pck_any a xs.length c xs (3*(k:Int)) 1048576 w' h (by decide) (by decide)
    have p2:=fun w' (h:Ints w' (Old w') (.slice a xs.length c) xs)=>pck_any a xs.length c xs (3*(k:Int)+1) 1048576 w' h (by decide) (by decide)
    have b1:=pck_lt xs (3*(k:Int)) (show (1:Int)≤1048576 by decide);have b2:=pck_lt xs (3*(k:Int)+1) (show (1:Int)≤1048576 by decide);obtain⟨z,hz⟩:∃ z,pck xs (3*(k:Int)) 1048576=z:=⟨_,rfl⟩;obtain⟨y,hy⟩:∃ y,pck xs (3*(k:Int)+1) 1048576=y:=⟨_,rfl⟩;rw [hz] at b1;rw [hy] at b2;simp only [hz] at p1;simp only [hy] at p2;clear hz hy;obtain⟨z0,z1⟩:=b1;have gd:=fun w=>grid05_any y w (by unfold InI;omega)
    have gb:=gridZ_bd y;obtain⟨C,hC⟩:∃ C,gridZ y=C:=⟨_,rfl⟩;simp only [hC] at gd;rw [hC] at gb;clear hC b2;obtain⟨⟨cx0,cx1⟩,cy0,cy1⟩:=gb;obtain⟨r,hr⟩:∃ r,1+z % 12=r:=⟨_,rfl⟩;have hrb:1≤r∧r≤12:=by omega
    have r1:z.tmod 12=z % 12:=Int.tmod_eq_emod_of_nonneg z0;have r2:IntKind.i64.wrap (z % 12)=z % 12:=w6;have r3:IntKind.i64.wrap (1+z % 12)=r:=by rw [w6];exact hr
    replace hr:=Hd hr
    go_wp2_with (fail)
    refine (p1 _ (hx.arg hS (by simp))).mono ?_;rintro e w5 ⟨rfl,rfl⟩;simp only []
    go_wp2_with (fail)
    refine (p2 _ (hx.arg hS (by simp))).mono ?_;rintro e w5 ⟨rfl,rfl⟩;simp only []
    go_wp2_with (fail)
    refine (gd _).mono ?_;rintro e w5 ⟨rfl,hq⟩;have hS:=hS.below hq.below hq.drawn;simp only []
    go_wp2_with (with_reducible first|refine alA hS zeroValue29 fun b6 wb6 hS=>?_|refine stA (u:=.agg #[_,_]) 2 hS sizeOf29 fun _ hS=>?_)
    clear p1 p2 gd r1 r2 r3 w1 w2 d1 d2;have rz:(r == 0)=false:=by rw [beq_eq_false_iff_ne];omega
    obtain⟨q1,q2,q3,q4,q5,q6,q7⟩:=quo_small z0 z1 (show (0:Int)<12 by decide) r hrb;obtain⟨s1,s2,s3,s4,s5,s6,s7⟩:=quo_small z0 z1 (show (0:Int)<144 by decide) r hrb;obtain⟨t1,t2,t3,t4,t5,t6,t7⟩:=quo_small z0 z1 (show (0:Int)<1728 by decide) r hrb;obtain⟨u1,u2,u3,u4,u5,u6,u7⟩:=quo_small z0 z1 (show (0:Int)<36 by decide) r hrb;obtain⟨v1,v2,v3,v4,v5,v6,v7⟩:=quo_small z0 z1 (show (0:Int)<500 by decide) r hrb;have f1:z.tdiv 7=z / 7:=Int.tdiv_eq_ediv_of_nonneg z0;have f2:IntKind.i64.wrap (z / 7)=z / 7:=w6;have f3:(z / 7).tmod 3=z / 7 % 3:=Int.tmod_eq_emod_of_nonneg (by omega);have f4:IntKind.i64.wrap (z / 7 % 3)=z / 7 % 3:=w6;obtain⟨K,hK⟩:∃ K:Nat,3+z / 7 % 3=(K:Int):=⟨(3+z / 7 % 3).toNat,by omega⟩;have hKb:3≤K∧K≤5:=by omega
    have f5:IntKind.i64.wrap (3+z / 7 % 3)=(K:Int):=by rw [w6];exact hK
    replace hK:=Hd hK;obtain⟨D1,gD1⟩:∃ D,z / 12 % r=D:=⟨_,rfl⟩;rw [gD1] at q3 q4 q5 q6;obtain⟨D2,gD2⟩:∃ D,z / 144 % r=D:=⟨_,rfl⟩;rw [gD2] at s3 s4 s5 s6;obtain⟨D3,gD3⟩:∃ D,z / 1728 % r=D:=⟨_,rfl⟩;rw [gD3] at t3 t4 t5 t6;obtain⟨D4,gD4⟩:∃ D,z / 36 % r=D:=⟨_,rfl⟩;rw [gD4] at u3 u4 u5 u6;obtain⟨D5,gD5⟩:∃ D,z / 500 % r=D:=⟨_,rfl⟩;rw [gD5] at v3 v4 v5 v6;have h1:IntKind.i64.wrap (C.x - r)=C.x - r:=w6;have h2:IntKind.i64.wrap (C.y - D1)=C.y - D1:=w6;have h3:IntKind.i64.wrap (C.x+D2)=C.x+D2:=w6;have h4:IntKind.i64.wrap (C.y - r)=C.y - r:=w6;have h5:IntKind.i64.wrap (C.x+r)=C.x+r:=w6;have h6:IntKind.i64.wrap (C.y+D3)=C.y+D3:=w6;have h7:IntKind.i64.wrap (C.x - D4)=C.x - D4:=w6;have h8:IntKind.i64.wrap (C.y+r)=C.y+r:=w6;have h9:IntKind.i64.wrap (C.y+D5)=C.y+D5:=w6;obtain⟨ps,hps⟩:∃ ps:List Gp,ps=[⟨C.x - r,C.y - D1⟩,⟨C.x+D2,C.y - r⟩,⟨C.x+r,C.y+D3⟩,⟨C.x - D4,C.y+r⟩,⟨C.x - r,C.y+D5⟩]:=⟨_,rfl⟩;have hpf:ps.flatMap gc=[.int .i64 (C.x - r),.int .i64 (C.y - D1),.int .i64 (C.x+D2),.int .i64 (C.y - r),.int .i64 (C.x+r),.int .i64 (C.y+D3),.int .i64 (C.x - D4),.int .i64 (C.y+r),.int .i64 (C.x - r),.int .i64 (C.y+D5)]:=by rw [hps];rfl
    have hpl:ps.length=5:=by rw [hps];rfl
    have hpn:∀ p ∈ ps,p.net:=by
     rw [hps];intro p hp;simp only [List.mem_cons,List.not_mem_nil,or_false] at hp;unfold Gp.net
     rcases hp with rfl|rfl|rfl|rfl|rfl <;> (simp only;omega)
    replace hps:=Hd hps;replace hpf:=Hd hpf;replace hpl:=Hd hpl;replace hpn:=Hd hpn;obtain⟨hr1,hr12⟩:=hrb;have hr0:r≠0:=by omega
    refine wp_region_sched [.p 0,.r 1,.p 2,.p 3,.p 4,.r 5,.p 6,.p 7,.p 8,.p 9,.p 10,.p 11,.p 12,.r 13,.p 14,.p 15,.p 16,.p 17,.p 18,.p 19,.r 20,.p 21,.p 22,.p 23,.p 24,.r 25,.p 26,.p 27,.p 28,.r 29,.p 30,.p 31,.p 32,.p 33,.p 34,.p 35,.p 36,.r 37,.p 38,.p 39,.p 40,.p 41,.p 42,.p 43,.r 44,.p 45,.p 46,.p 47,.p 48,.r 49,.p 50,.p 51,.p 52,.r 53,.p 54,.p 55,.p 56,.p 57,.p 58,.p 59,.e 60,.p 61] [] (fun w'=>Heap w w' _) (by kernel_rfl) (by as_aux_lemma=>kernel_rfl) hS.drew (fun w1 hS=>?_)
    repeat (with_reducible first|refine sldB 2 isAgg3 ?_|refine spL ?_)
    refine exL ?_
    ((with_reducible refine g_bs (T:=25) ?_);refine seq_bsL (n:=5) (k:=2) (z:=.agg #[.int .i64 0,.int .i64 0]) (T:=25) hS underlying25 sizeOf29 zeroValue29 (by decide) (by decide) (fill5p _ _ _ _ _ _ _ _ _ _) rfl rfl (fun bl wbl hS=>?_);simp only [NRM];simp only [NRH] at hS)
    refine ext_end hS.sb ?_;refine mvs ?_;refine snL ?_;have hS:=hS.toRow (m:=5) (k:=2) 3 rfl rfl (by decide);simp only [NRH] at hS;rw [← hpf.out] at hS;have hS:=hS.order [0,1,3,2] rfl;simp only [NRF] at hS
    have e1:subV (some ⟨bl,0,none⟩) 5 0 K 2=.slice (some ⟨bl,0,none⟩) K 5:=by
     unfold subV;simp [Addr.add]
    replace e1:=Hd e1;clear gD1 gD2 gD3 gD4 gD5 q1 q2 q3 q4 q5 q6 q7 s1 s2 s3 s4 s5 s6 s7 t1 t2 t3 t4 t5 t6 t7 u1 u2 u3 u4 u5 u6 u7 v1 v2 v3 v4 v5 v6 v7 h1 h2 h3 h4 h5 h6 h7 h8 h9 rz
    go_wp2_with (first|((with_reducible refine g_slice (T:=25) ?_);refine seq_any rfl (any_slice_hiG (T:=25) (m:=K) underlying25 sizeOf29 rfl rfl rfl (by omega) e1.out ?_);simp only [NRM]))
    try try simp only [NRG]
    have hS:=hS.sub (H':=[.frz (Old w) w,.row (.slice ad N c2) 95 4 N (os.flatMap sc),.row (.slice (some ⟨bl,0,none⟩) 5 5) 29 2 5 (ps.flatMap gc)]) (by repeat (first|exact List.Sublist.refl _|apply List.Sublist.cons_cons|apply List.Sublist.cons))
    go_loopw [3,9] (fun v3 v9 wr=>∃ (j:Nat) (os:List Sz) (ad:Option Addr) (N c2:Nat),j≤K∧Hid (os.length=N)∧N≤5*k+j∧v9=.int .i64 (j:Int)∧v3=.slice ad N c2∧Hid (NetOk os)∧Heap w wr [.frz (Old w) w,.row (.slice ad N c2) 95 4 N (os.flatMap sc),.row (.slice (some ⟨bl,0,none⟩) 5 5) 29 2 5 (ps.flatMap gc)]) (fun _ v9 _=>K - (intOf v9).toNat)
    case atStart=>exact⟨0,os,ad,N,c2,by omega,hN,by omega,rfl,rfl,hok,hS⟩
    case round =>
     clear hS hok hN hN5;obtain⟨j,os,ad,N,c2,hj,hN,hN5,rfl,rfl,hok,hS⟩:=hrel
     by_cases hjK:j<K
     ·have c1:=flat_cell gc_len g0 (show j<ps.length by rw [hpl.out];omega)
      obtain⟨i,hi⟩:∃ i,(j+1) % K=i:=⟨_,rfl⟩;have hiK:i<K:=by rw [← hi];exact Nat.mod_lt _ (by omega)
      have hi2:((j:Int)+1) % (K:Int)=(i:Int):=by rw [← hi,Int.natCast_emod];simp
      have hi3:((j:Int)+1).tmod (K:Int)=(i:Int):=by rw [Int.tmod_eq_emod_of_nonneg (by omega)];exact hi2
      have hi4:IntKind.i64.wrap (i:Int)=(i:Int):=w6;have hi5:IntKind.i64.wrap ((j:Int)+1)=(j:Int)+1:=w6;have hz0:((K:Int) == 0)=false:=by rw [beq_eq_false_iff_ne];omega
      have c2':=flat_cell gc_len g0 (show i<ps.length by rw [hpl.out];omega);have np:=hpn.out _ (nth_mem g0 ps j (by rw [hpl.out];omega));have nq:=hpn.out _ (nth_mem g0 ps i (by rw [hpl.out];omega));obtain⟨p,hp⟩:∃ p,nth g0 ps j=p:=⟨_,rfl⟩;obtain⟨q,hq⟩:∃ q,nth g0 ps i=q:=⟨_,rfl⟩;rw [hp] at c1 np;rw [hq] at c2' nq;replace c1:((ps.flatMap gc).drop (j*2)).take 2=[.int .i64 p.x,.int .i64 p.y]:=c1;replace c2':((ps.flatMap gc).drop (i*2)).take 2=[.int .i64 q.x,.int .i64 q.y]:=c2';replace np:=Hd np;replace nq:=Hd nq;have HE:∀ w,(Op.equalIn 10000 29 (.agg #[.int .i64 p.x,.int .i64 p.y]) (.agg #[.int .i64 q.x,.int .i64 q.y])).run Tryz.prog w=.ok (decide (p=q)) w:=fun w=>equalG p q w
      clear hp hq hi
      by_cases ce:p=q
      ·subst ce
       have cb:decide (p=p)=true:=by simp
       go_wp2_with (first|((with_reducible refine g_idx (T:=25) ?_);refine seq_any rfl (any_index_atk (T:=25) underlying25 sizeOf29 rfl rfl (by omega) (by omega) ?_);simp only [NRM];try simp only [Nat.zero_add,Int.toNat_natCast])|((with_reducible refine g_load (T:=29) ?_);refine seq_of hS rfl (stp_loadk_rowc (T:=29) 2 isAgg29 sizeOf29 rfl rfl c1 rfl ?_);simp only [NRM])|((with_reducible refine g_load (T:=29) ?_);refine seq_of hS rfl (stp_loadk_rowc (T:=29) 2 isAgg29 sizeOf29 rfl rfl c2' rfl ?_);simp only [NRM])|(with_reducible first|refine alA hS zeroValue29 fun b10 wb10 hS=>?_|refine stA (u:=.agg #[_,_]) 3 hS sizeOf29 fun _ hS=>?_|refine stA (u:=.agg #[_,_]) 4 hS sizeOf29 fun _ hS=>?_|refine ldA 3 hS isAgg29 sizeOf29 ?_|refine ldA 4 hS isAgg29 sizeOf29 ?_))
       go_roundw
       case rel=>exact⟨j+1,os,ad,N,c2,by omega,hN,by omega,by simp,rfl,hok,hS.sb⟩
       case measure=>simp [intOf];omega
      ·have cb:decide (p=q)=false:=by simpa using ce
       have hok2:NetOk (os++[⟨p,q⟩]):=netOk_snoc hok.out np.out nq.out ce;have hl2:(os++[(⟨p,q⟩:Sz)]).length=N+1:=by rw [List.length_append,List.length_singleton,hN.out]
       have hf2:(os++[(⟨p,q⟩:Sz)]).flatMap sc=os.flatMap sc++[.int .i64 p.x,.int .i64 p.y,.int .i64 q.x,.int .i64 q.y]:=by simp [sc]
       replace hok2:=Hd hok2;replace hl2:=Hd hl2;replace hf2:=Hd hf2;replace ce:=Hd ce
       go_wp2_with (first|((with_reducible refine g_idx (T:=25) ?_);refine seq_any rfl (any_index_atk (T:=25) underlying25 sizeOf29 rfl rfl (by omega) (by omega) ?_);simp only [NRM];try simp only [Nat.zero_add,Int.toNat_natCast])|((with_reducible refine g_load (T:=29) ?_);refine seq_of hS rfl (stp_loadk_rowc (T:=29) 2 isAgg29 sizeOf29 rfl rfl c1 rfl ?_);simp only [NRM])|((with_reducible refine g_load (T:=29) ?_);refine seq_of hS rfl (stp_loadk_rowc (T:=29) 2 isAgg29 sizeOf29 rfl rfl c2' rfl ?_);simp only [NRM])|(with_reducible first|refine alA hS zeroValue29 fun b10 wb10 hS=>?_|refine stA (u:=.agg #[_,_]) 3 hS sizeOf29 fun _ hS=>?_|refine stA (u:=.agg #[_,_]) 4 hS sizeOf29 fun _ hS=>?_|refine ldA 3 hS isAgg29 sizeOf29 ?_|refine ldA 4 hS isAgg29 sizeOf29 ?_)|((with_reducible refine g_bs (T:=23) ?_);refine seq_bs1 (T:=23) (v:=.agg #[.int .i64 _,.int .i64 _,.int .i64 _,.int .i64 _]) hS underlying23 sizeOf95 zeroValue95 rfl rfl rfl (by decide) (by decide) rfl (fun bq wbq hS=>?_);simp only [NRM];simp only [Value.cells] at hS)|((with_reducible refine g_app ?_);refine seq_append_lit (t:=23) 1 hS underlying23 infoS rfl (by decide) rfl rfl rfl rfl (by simp [Value.oneCell']) (by omega) (by unfold maxLen;omega) (fun ad2 cp2 _ hS=>?_);simp only [NRM];simp only [NRH] at hS))
       go_roundw
       case rel=>exact⟨j+1,os++[⟨p,q⟩],ad2,N+1,cp2,by omega,hl2,by omega,by simp,rfl,hok2,by rw [hf2.out];exact hS.sb⟩
       case measure=>simp [intOf];omega
     ·obtain rfl:K=j:=by omega
      go_wp2;go_roundw
      case rel=>exact⟨k+1,os,ad,N,c2,by omega,hN.out,by omega,by simp,rfl,hok.out,hS.sb⟩
      case measure=>simp [intOf];omega
   ·have d2:decide (3*(k:Int)<(xs.length:Int))=false:=by simpa using hkl
    go_wp2;go_ret;exact⟨os,ad,c2,by rw [hN.out];rfl,hok.out,by rw [hN.out];omega,by rw [hN.out];exact hS⟩
  ·obtain rfl:k=4:=by omega
   go_wp2;go_ret;exact⟨os,ad,c2,by rw [hN.out];rfl,hok.out,by rw [hN.out];omega,by rw [hN.out];exact hS⟩
end Go.Proofs
