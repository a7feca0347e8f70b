/- Texts for the walk of the law: M14 MG MH WE PS WS QS RI RT BW LO LN LM OL LH LQ. -/
import Derived.Test.YtihpoboahbpaiaaGreatR12
import Derived.OpenShut
set_option maxRecDepth 100000
set_option maxHeartbeats 16000000
set_option linter.unusedVariables false
set_option linter.unusedSimpArgs false
namespace Go.Hp
open Go Go.RowKit Go.Proofs.Tryz
theorem aQn (a b c d e f g h i j:Value):Instr.fill (fun i=>some (i*2,2)) ((Array.range (5*2)).map ((Value.agg #[.int .i64 0,.int .i64 0]).cells[· % (Value.agg #[.int .i64 0,.int .i64 0]).cells.size]!)) [(0,.agg #[a,b]),(1,.agg #[c,d]),(2,.agg #[e,f]),(3,.agg #[g,h]),(4,.agg #[i,j])]=some #[a,b,c,d,e,f,g,h,i,j]:=by
 have hh:((Array.range (5*2)).map ((Value.agg #[.int .i64 0,.int .i64 0]).cells[· % (Value.agg #[.int .i64 0,.int .i64 0]).cells.size]!))=#[.int .i64 0,.int .i64 0,.int .i64 0,.int .i64 0,.int .i64 0,.int .i64 0,.int .i64 0,.int .i64 0,.int .i64 0,.int .i64 0]:=by
  apply Array.ext';simp [Array.range,List.ofFn_succ,Value.cells]
 rw [hh];simp [Instr.fill,Value.cells]
def Gp.mV (g:Gp):Prop:=(-12≤g.x∧g.x≤44)∧-12≤g.y∧g.y≤44
def a3e (os:List Sz):Prop:=∀ s ∈ os,s.a.mV∧s.b.mV∧s.a≠s.b
theorem aV7 {os:List Sz} {p q:Gp} (h:a3e os) (hp:p.mV) (hq:q.mV) (bJ:p≠q):a3e (os++[⟨p,q⟩]):=by
 intro s hs
 rcases List.mem_append.1 hs with h1|h1
 ·exact h s h1
 ·rw [List.mem_singleton] at h1;subst h1;exact⟨hp,hq,bJ⟩
theorem a4c {n m:Int} (h0:0≤n) (h1:n<1048576) (hm:0<m) (r:Int) (hr:1≤r∧r≤12):n.tdiv m=n / m∧IntKind.i64.wrap (n / m)=n / m∧(n / m).tmod r=n / m % r∧IntKind.i64.wrap (n / m % r)=n / m % r∧0≤n / m % r∧n / m % r<r∧0≤n / m:=by
 have e1:=Int.ediv_nonneg h0 (Int.le_of_lt hm);have e2:=Int.ediv_le_self m h0;have e3:=Int.emod_nonneg (n / m) (show r≠0 by omega);have e4:=Int.emod_lt_of_pos (n / m) (show 0<r by omega);exact⟨Int.tdiv_eq_ediv_of_nonneg h0,w6,Int.tmod_eq_emod_of_nonneg e1,w6,e3,e4,e1⟩
theorem aS1 (a:Option Addr) (n c:Nat) (xs:List Int) (w:World) (hx:Ints w (Old w) (.slice a n c) xs) :
 Calls prog 32 #[.slice a n c] w fun e w'=>∃ (os:List Sz) (ad:Option Addr) (c2:Nat),e=.returned (.slice ad os.length c2)∧a3e os∧os.length≤20∧aA w w' [.aH (Old w) w,.row (.slice ad os.length c2) 95 4 os.length (os.flatMap sc)]:=by
 have hn:=hx.len;subst hn;have hle:=hx.le;have hS:=(aA.start w).iB 95 4;simp only [aK] at hS
 go_enter func32,ntmps32
 go_wp2
 go_loopw [3,4] (fun v3 v4 wr=>∃ (k:Nat) (os:List Sz) (ad:Option Addr) (N c2:Nat),k≤4∧os.length=N∧N≤5*k∧v4=.int .i64 (k:Int)∧v3=.slice ad N c2∧a3e os∧aA w wr [.aH (Old w) w,.row (.slice ad N c2) 95 4 N (os.flatMap sc)]) (fun _ v4 _=>4 - (intOf v4).toNat)
 case atStart=>exact⟨0,[],none,0,0,by omega,rfl,by omega,rfl,rfl,(by intro s hs;cases hs),hS⟩
 case round =>
  clear hS;obtain⟨k,os,ad,N,c2,hk,hN,hN5,rfl,rfl,bG,hS⟩:=hrel;replace bG:=Hd bG;replace hN:=Hd hN
  by_cases hk4:k<4
  ·have d1:decide (k<4)=true:=by simpa using hk4
   have w1:IntKind.i64.wrap (3*(k:Int))=3*(k:Int):=w6;have w2:IntKind.i64.wrap (3*(k:Int)+1)=3*(k:Int)+1:=w6
   by_cases cW:3*(k:Int)<(xs.length:Int)
   ·have d2:decide (3*(k:Int)<(xs.length:Int))=true:=by simpa using cW
    have p1:=fun w' (h:Ints w' (Old w') (.slice a xs.length c) xs)=>a3r a xs.length c xs (3*(k:Int)) 1048576 w' h (by decide) (by decide)
    have p2:=fun w' (h:Ints w' (Old w') (.slice a xs.length c) xs)=>a3r a xs.length c xs (3*(k:Int)+1) 1048576 w' h (by decide) (by decide)
    have b1:=a9e xs (3*(k:Int)) (show (1:Int)≤1048576 by decide);have b2:=a9e xs (3*(k:Int)+1) (show (1:Int)≤1048576 by decide);obtain⟨z,hz⟩:∃ z,rJ xs (3*(k:Int)) 1048576=z:=⟨_,rfl⟩;obtain⟨y,hy⟩:∃ y,rJ xs (3*(k:Int)+1) 1048576=y:=⟨_,rfl⟩;rw [hz] at b1;rw [hy] at b2;simp only [hz] at p1;simp only [hy] at p2;clear hz hy;obtain⟨z0,z1⟩:=b1;have gd:=fun w=>a4e y w (by unfold bQ;omega)
    have gb:=a7k y;obtain⟨C,hC⟩:∃ C,og y=C:=⟨_,rfl⟩;simp only [hC] at gd;rw [hC] at gb;clear hC b2;obtain⟨⟨cx0,cx1⟩,cy0,cy1⟩:=gb;obtain⟨r,hr⟩:∃ r,1+z % 12=r:=⟨_,rfl⟩;have xw:1≤r∧r≤12:=by omega
    have r1:z.tmod 12=z % 12:=Int.tmod_eq_emod_of_nonneg z0;have r2:IntKind.i64.wrap (z % 12)=z % 12:=w6;have r3:IntKind.i64.wrap (1+z % 12)=r:=by rw [w6];exact hr
    replace hr:=Hd hr
    go_wp2_with (fail)
    refine (p1 _ (hx.arg hS (by simp))).mono ?_;rintro e w5 ⟨rfl,rfl⟩;simp only []
    go_wp2_with (fail)
    refine (p2 _ (hx.arg hS (by simp))).mono ?_;rintro e w5 ⟨rfl,rfl⟩;simp only []
    go_wp2_with (fail)
    refine (gd _).mono ?_;rintro e w5 ⟨rfl,hq⟩;have hS:=hS.below hq.below hq.drawn;simp only []
    go_wp2_with (with_reducible first|refine bH hS zeroValue29 fun b6 xz hS=>?_|refine aJ (u:=.agg #[_,_]) 2 hS sizeOf29 fun _ hS=>?_)
    clear p1 p2 gd r1 r2 r3 w1 w2 d1 d2;have rz:(r == 0)=false:=by rw [beq_eq_false_iff_ne];omega
    obtain⟨q1,q2,q3,q4,q5,q6,q7⟩:=a4c z0 z1 (show (0:Int)<12 by decide) r xw;obtain⟨s1,s2,s3,s4,s5,s6,s7⟩:=a4c z0 z1 (show (0:Int)<144 by decide) r xw;obtain⟨t1,t2,t3,t4,t5,t6,t7⟩:=a4c z0 z1 (show (0:Int)<1728 by decide) r xw;obtain⟨u1,u2,u3,u4,u5,u6,u7⟩:=a4c z0 z1 (show (0:Int)<36 by decide) r xw;obtain⟨v1,v2,v3,v4,v5,v6,v7⟩:=a4c z0 z1 (show (0:Int)<500 by decide) r xw;have f1:z.tdiv 7=z / 7:=Int.tdiv_eq_ediv_of_nonneg z0;have f2:IntKind.i64.wrap (z / 7)=z / 7:=w6;have f3:(z / 7).tmod 3=z / 7 % 3:=Int.tmod_eq_emod_of_nonneg (by omega);have f4:IntKind.i64.wrap (z / 7 % 3)=z / 7 % 3:=w6;obtain⟨K,hK⟩:∃ K:Nat,3+z / 7 % 3=(K:Int):=⟨(3+z / 7 % 3).toNat,by omega⟩;have hKb:3≤K∧K≤5:=by omega
    have f5:IntKind.i64.wrap (3+z / 7 % 3)=(K:Int):=by rw [w6];exact hK
    replace hK:=Hd hK;obtain⟨D1,gD1⟩:∃ D,z / 12 % r=D:=⟨_,rfl⟩;rw [gD1] at q3 q4 q5 q6;obtain⟨D2,gD2⟩:∃ D,z / 144 % r=D:=⟨_,rfl⟩;rw [gD2] at s3 s4 s5 s6;obtain⟨D3,gD3⟩:∃ D,z / 1728 % r=D:=⟨_,rfl⟩;rw [gD3] at t3 t4 t5 t6;obtain⟨D4,gD4⟩:∃ D,z / 36 % r=D:=⟨_,rfl⟩;rw [gD4] at u3 u4 u5 u6;obtain⟨D5,gD5⟩:∃ D,z / 500 % r=D:=⟨_,rfl⟩;rw [gD5] at v3 v4 v5 v6;have h1:IntKind.i64.wrap (C.x - r)=C.x - r:=w6;have h2:IntKind.i64.wrap (C.y - D1)=C.y - D1:=w6;have h3:IntKind.i64.wrap (C.x+D2)=C.x+D2:=w6;have h4:IntKind.i64.wrap (C.y - r)=C.y - r:=w6;have h5:IntKind.i64.wrap (C.x+r)=C.x+r:=w6;have h6:IntKind.i64.wrap (C.y+D3)=C.y+D3:=w6;have h7:IntKind.i64.wrap (C.x - D4)=C.x - D4:=w6;have h8:IntKind.i64.wrap (C.y+r)=C.y+r:=w6;have h9:IntKind.i64.wrap (C.y+D5)=C.y+D5:=w6;obtain⟨ps,dL⟩:∃ ps:List Gp,ps=[⟨C.x - r,C.y - D1⟩,⟨C.x+D2,C.y - r⟩,⟨C.x+r,C.y+D3⟩,⟨C.x - D4,C.y+r⟩,⟨C.x - r,C.y+D5⟩]:=⟨_,rfl⟩;have hpf:ps.flatMap gc=[.int .i64 (C.x - r),.int .i64 (C.y - D1),.int .i64 (C.x+D2),.int .i64 (C.y - r),.int .i64 (C.x+r),.int .i64 (C.y+D3),.int .i64 (C.x - D4),.int .i64 (C.y+r),.int .i64 (C.x - r),.int .i64 (C.y+D5)]:=by rw [dL];rfl
    have jP:ps.length=5:=by rw [dL];rfl
    have oW:∀ p ∈ ps,p.mV:=by
     rw [dL];intro p hp;simp only [List.mem_cons,List.not_mem_nil,or_false] at hp;unfold Gp.mV
     rcases hp with rfl|rfl|rfl|rfl|rfl <;> (simp only;omega)
    replace dL:=Hd dL;replace hpf:=Hd hpf;replace jP:=Hd jP;replace oW:=Hd oW;obtain⟨il,aXn⟩:=xw;have pK:r≠0:=by omega
    refine gI [.p 0,.r 1,.p 2,.p 3,.p 4,.r 5,.p 6,.p 7,.p 8,.p 9,.p 10,.p 11,.p 12,.r 13,.p 14,.p 15,.p 16,.p 17,.p 18,.p 19,.r 20,.p 21,.p 22,.p 23,.p 24,.r 25,.p 26,.p 27,.p 28,.r 29,.p 30,.p 31,.p 32,.p 33,.p 34,.p 35,.p 36,.r 37,.p 38,.p 39,.p 40,.p 41,.p 42,.p 43,.r 44,.p 45,.p 46,.p 47,.p 48,.r 49,.p 50,.p 51,.p 52,.r 53,.p 54,.p 55,.p 56,.p 57,.p 58,.p 59,.e 60,.p 61] [] (fun w'=>aA w w' _) (by kernel_rfl) (by as_aux_lemma=>kernel_rfl) hS.drew (fun w1 hS=>?_)
    repeat (with_reducible first|refine cZ 2 isAgg3 ?_|refine bU ?_)
    refine aZ ?_
    ((with_reducible refine dV (T:=25) ?_);refine aMo (n:=5) (k:=2) (z:=.agg #[.int .i64 0,.int .i64 0]) (T:=25) hS underlying25 sizeOf29 zeroValue29 (by decide) (by decide) (aQn _ _ _ _ _ _ _ _ _ _) rfl rfl (fun bl fX hS=>?_);simp only [aD];simp only [aK] at hS)
    refine aX hS.sb ?_;refine aM ?_;refine bE ?_;have hS:=hS.uj (m:=5) (k:=2) 3 rfl rfl (by decide);simp only [aK] at hS;rw [← hpf.out] at hS;have hS:=hS.order [0,1,3,2] rfl;simp only [iw] at hS
    have e1:sG (some ⟨bl,0,none⟩) 5 0 K 2=.slice (some ⟨bl,0,none⟩) K 5:=by
     unfold sG;simp [Addr.add]
    replace e1:=Hd e1;clear gD1 gD2 gD3 gD4 gD5 q1 q2 q3 q4 q5 q6 q7 s1 s2 s3 s4 s5 s6 s7 t1 t2 t3 t4 t5 t6 t7 u1 u2 u3 u4 u5 u6 u7 v1 v2 v3 v4 v5 v6 v7 h1 h2 h3 h4 h5 h6 h7 h8 h9 rz
    go_wp2_with (first|((with_reducible refine tD (T:=25) ?_);refine ck rfl (aGn (T:=25) (m:=K) underlying25 sizeOf29 rfl rfl rfl (by omega) e1.out ?_);simp only [aD]))
    try try simp only [fA]
    have hS:=hS.sub (H':=[.aH (Old w) w,.row (.slice ad N c2) 95 4 N (os.flatMap sc),.row (.slice (some ⟨bl,0,none⟩) 5 5) 29 2 5 (ps.flatMap gc)]) (by repeat (first|exact List.Sublist.refl _|apply List.Sublist.cons_cons|apply List.Sublist.cons))
    go_loopw [3,9] (fun v3 v9 wr=>∃ (j:Nat) (os:List Sz) (ad:Option Addr) (N c2:Nat),j≤K∧Hid (os.length=N)∧N≤5*k+j∧v9=.int .i64 (j:Int)∧v3=.slice ad N c2∧Hid (a3e os)∧aA w wr [.aH (Old w) w,.row (.slice ad N c2) 95 4 N (os.flatMap sc),.row (.slice (some ⟨bl,0,none⟩) 5 5) 29 2 5 (ps.flatMap gc)]) (fun _ v9 _=>K - (intOf v9).toNat)
    case atStart=>exact⟨0,os,ad,N,c2,by omega,hN,by omega,rfl,rfl,bG,hS⟩
    case round =>
     clear hS bG hN hN5;obtain⟨j,os,ad,N,c2,hj,hN,hN5,rfl,rfl,bG,hS⟩:=hrel
     by_cases hjK:j<K
     ·have c1:=eS yT g0 (show j<ps.length by rw [jP.out];omega)
      obtain⟨i,hi⟩:∃ i,(j+1) % K=i:=⟨_,rfl⟩;have hiK:i<K:=by rw [← hi];exact Nat.mod_lt _ (by omega)
      have mg:((j:Int)+1) % (K:Int)=(i:Int):=by rw [← hi,Int.natCast_emod];simp
      have hi3:((j:Int)+1).tmod (K:Int)=(i:Int):=by rw [Int.tmod_eq_emod_of_nonneg (by omega)];exact mg
      have hi4:IntKind.i64.wrap (i:Int)=(i:Int):=w6;have hi5:IntKind.i64.wrap ((j:Int)+1)=(j:Int)+1:=w6;have lX:((K:Int) == 0)=false:=by rw [beq_eq_false_iff_ne];omega
      have c2':=eS yT g0 (show i<ps.length by rw [jP.out];omega);have np:=oW.out _ (cQ g0 ps j (by rw [jP.out];omega));have nq:=oW.out _ (cQ g0 ps i (by rw [jP.out];omega));obtain⟨p,hp⟩:∃ p,nth g0 ps j=p:=⟨_,rfl⟩;obtain⟨q,hq⟩:∃ q,nth g0 ps i=q:=⟨_,rfl⟩;rw [hp] at c1 np;rw [hq] at c2' nq;replace c1:((ps.flatMap gc).drop (j*2)).take 2=[.int .i64 p.x,.int .i64 p.y]:=c1;replace c2':((ps.flatMap gc).drop (i*2)).take 2=[.int .i64 q.x,.int .i64 q.y]:=c2';replace np:=Hd np;replace nq:=Hd nq;have HE:∀ w,(Op.equalIn 10000 29 (.agg #[.int .i64 p.x,.int .i64 p.y]) (.agg #[.int .i64 q.x,.int .i64 q.y])).run prog w=.ok (decide (p=q)) w:=fun w=>pv p q w
      clear hp hq hi
      by_cases ce:p=q
      ·subst ce
       have cb:decide (p=p)=true:=by simp
       go_wp2_with (first|((with_reducible refine du (T:=25) ?_);refine ck rfl (yZ (T:=25) underlying25 sizeOf29 rfl rfl (by omega) (by omega) ?_);simp only [aD];try simp only [Nat.zero_add,Int.toNat_natCast])|((with_reducible refine dq (T:=29) ?_);refine dI hS rfl (a0g (T:=29) 2 isAgg29 sizeOf29 rfl rfl c1 rfl ?_);simp only [aD])|((with_reducible refine dq (T:=29) ?_);refine dI hS rfl (a0g (T:=29) 2 isAgg29 sizeOf29 rfl rfl c2' rfl ?_);simp only [aD])|(with_reducible first|refine bH hS zeroValue29 fun fo qM hS=>?_|refine aJ (u:=.agg #[_,_]) 3 hS sizeOf29 fun _ hS=>?_|refine aJ (u:=.agg #[_,_]) 4 hS sizeOf29 fun _ hS=>?_|refine bA 3 hS isAgg29 sizeOf29 ?_|refine bA 4 hS isAgg29 sizeOf29 ?_))
       go_roundw
       case rel=>exact⟨j+1,os,ad,N,c2,by omega,hN,by omega,by simp,rfl,bG,hS.sb⟩
       case measure=>simp [intOf];omega
      ·have cb:decide (p=q)=false:=by simpa using ce
       have kS:a3e (os++[⟨p,q⟩]):=aV7 bG.out np.out nq.out ce;have eJ:(os++[(⟨p,q⟩:Sz)]).length=N+1:=by rw [List.length_append,List.length_singleton,hN.out]
       have j7:(os++[(⟨p,q⟩:Sz)]).flatMap sc=os.flatMap sc++[.int .i64 p.x,.int .i64 p.y,.int .i64 q.x,.int .i64 q.y]:=by simp [sc]
       replace kS:=Hd kS;replace eJ:=Hd eJ;replace j7:=Hd j7;replace ce:=Hd ce
       go_wp2_with (first|((with_reducible refine du (T:=25) ?_);refine ck rfl (yZ (T:=25) underlying25 sizeOf29 rfl rfl (by omega) (by omega) ?_);simp only [aD];try simp only [Nat.zero_add,Int.toNat_natCast])|((with_reducible refine dq (T:=29) ?_);refine dI hS rfl (a0g (T:=29) 2 isAgg29 sizeOf29 rfl rfl c1 rfl ?_);simp only [aD])|((with_reducible refine dq (T:=29) ?_);refine dI hS rfl (a0g (T:=29) 2 isAgg29 sizeOf29 rfl rfl c2' rfl ?_);simp only [aD])|(with_reducible first|refine bH hS zeroValue29 fun fo qM hS=>?_|refine aJ (u:=.agg #[_,_]) 3 hS sizeOf29 fun _ hS=>?_|refine aJ (u:=.agg #[_,_]) 4 hS sizeOf29 fun _ hS=>?_|refine bA 3 hS isAgg29 sizeOf29 ?_|refine bA 4 hS isAgg29 sizeOf29 ?_)|((with_reducible refine dV (T:=23) ?_);refine fZ (T:=23) (v:=.agg #[.int .i64 _,.int .i64 _,.int .i64 _,.int .i64 _]) hS underlying23 sizeOf95 zeroValue95 rfl rfl rfl (by decide) (by decide) rfl (fun bq wbq hS=>?_);simp only [aD];simp only [Value.cells] at hS)|((with_reducible refine eG ?_);refine fw (t:=23) 1 hS underlying23 sM rfl (by decide) rfl rfl rfl rfl (by simp [Value.oneCell']) (by omega) (by unfold maxLen;omega) (fun dU gL _ hS=>?_);simp only [aD];simp only [aK] at hS))
       go_roundw
       case rel=>exact⟨j+1,os++[⟨p,q⟩],dU,N+1,gL,by omega,eJ,by omega,by simp,rfl,kS,by rw [j7.out];exact hS.sb⟩
       case measure=>simp [intOf];omega
     ·obtain rfl:K=j:=by omega
      go_wp2;go_roundw
      case rel=>exact⟨k+1,os,ad,N,c2,by omega,hN.out,by omega,by simp,rfl,bG.out,hS.sb⟩
      case measure=>simp [intOf];omega
   ·have d2:decide (3*(k:Int)<(xs.length:Int))=false:=by simpa using cW
    go_wp2;go_ret;exact⟨os,ad,c2,by rw [hN.out];rfl,bG.out,by rw [hN.out];omega,by rw [hN.out];exact hS⟩
  ·obtain rfl:k=4:=by omega
   go_wp2;go_ret;exact⟨os,ad,c2,by rw [hN.out];rfl,bG.out,by rw [hN.out];omega,by rw [hN.out];exact hS⟩
theorem aA.a13 {w0 w wr:World} {F:Nat→Prop} {c1 c2:Chunk} {H:List Chunk} (hS:aA w0 w (.aH F wr::c1::c2::H)):aA w0 w (.aH (fun k=>(F k∨c1.has k)∨c2.has k) w::H):=by
 have h1:=(hS.freeze 1 rfl).freeze 2 rfl;exact h1.join.join
theorem Ints.bj {w:World} {S:Nat→Prop} {v:Value} {xs:List Int} (h:Ints w S v xs):Ints w (Old w) v xs:=⟨h.1.bj,h.2⟩
theorem Ints.intro {w:World} {S:Nat→Prop} {v:Value} {n:Nat} {xs:List Int} (h:bN w S 1 v n (iv xs)) (hi:∀ x ∈ xs,bQ x):Ints w S v xs:=by
 have hn:n=xs.length:=by have:=h.1;rw [tK] at this;omega
 subst hn;exact⟨h,hi⟩
theorem nO.bj {w:World} {S:Nat→Prop} {v:Value} {I:List (List Nat)} (h:nO w S v I):nO w (Old w) v I:=by
 obtain⟨R,h1,h2,h3⟩:=h;exact⟨R,h1,h2.bj,fun i hi=>Ints.bj (h3 i hi)⟩
theorem jb.bj {w:World} {S:Nat→Prop} {s1 s2 s3 s4 s5:Option Addr × Nat × Nat} {f:iL} (h:jb w S s1 s2 s3 s4 s5 f):jb w (Old w) s1 s2 s3 s4 s5 f:=⟨Ints.bj h.n,Ints.bj h.l,Ints.bj h.o,nO.bj h.i,nO.bj h.a⟩
def o7 (X:List (List Nat)) (i:Nat):List Int:=wY X.length++(X.take i).flatMap fun l=>pZ (zs l)
def a8f (X:List (List Nat)):List Int:=o7 X X.length
theorem aKu (X:List (List Nat)):wY X.length=o7 X 0:=by simp [o7]
theorem aLi {X:List (List Nat)} {i:Nat} (hi:i<X.length):o7 X (i+1)=o7 X i++pZ (zs (nth [] X i)):=by
 simp [o7,nk [] X i hi]
theorem a2Y (ls:List Int):(pZ ls).length≤10*(ls.length+1):=aBA _ (Nat.le_refl _)
theorem a9d (l:List Nat):(zs l).length=l.length:=by simp [zs]
theorem a9P {X:List (List Nat)} (hX:∀ i,i<X.length→(nth [] X i).length≤70000):∀ i,i≤X.length→(o7 X i).length≤10+700010*i
 | 0,_=>by have:=a7T 9 (zz X.length);rw [← aKu];unfold wY;omega
 | i+1,h=>by
  have h1:=a9P hX i (by omega);have h2:=a2Y (zs (nth [] X i));have h3:=hX i (by omega);rw [a9d] at h2;rw [aLi (by omega),List.length_append];omega
def mj (f:iL) (j:Nat):List Int:=((([]++pZ (zs f.N))++pZ f.L)++pZ f.O)++([f.I,f.A].take j).flatMap a8f
def a0E (f:iL):List Int:=mj f 2
structure FBd (f:iL):Prop where
 n:f.N.length≤70000
 l:f.L.length≤70000
 o:f.O.length≤70000
 i:f.I.length≤70000
 a:f.A.length≤70000
 is:∀ i,i<f.I.length→(nth [] f.I i).length≤70000
 al:∀ i,i<f.A.length→(nth [] f.A i).length≤70000
theorem aG2 {f:iL} (h:FBd f):∀ j,j≤2→(mj f j).length≤3000000+50000000000*j:=fun j hj=>by
 have h1:=a2Y (zs f.N);have h2:=a2Y f.L;have h3:=a2Y f.O;have h4:(a8f f.I).length≤10+700010*f.I.length:=a9P h.is _ (Nat.le_refl _);have h5:(a8f f.A).length≤10+700010*f.A.length:=a9P h.al _ (Nat.le_refl _);have:=h.n;have:=h.l;have:=h.o;have:=h.i;have:=h.a;rw [a9d] at h1;have hj3:j=0∨j=1∨j=2:=by omega
 rcases hj3 with rfl|rfl|rfl <;> simp [mj] <;> omega
theorem aLz (s1 s2 s3 s4 s5:Option Addr × Nat × Nat) (f:iL) (w:World) (hf:jb w (Old w) s1 s2 s3 s4 s5 f) (hb:FBd f) :
 Calls prog 38 #[.agg #[sv s1,sv s2,sv s3,sv s4,sv s5]] w fun e w'=>∃ ad c,e=.returned (.slice ad (a0E f).length c)∧aA w w' [.aH (Old w) w,.row (.slice ad (a0E f).length c) 5 1 (a0E f).length (bv (a0E f))]:=by
 obtain⟨an,nn,cn⟩:=s1;obtain⟨aL,nL,cL⟩:=s2;obtain⟨ao,no,co⟩:=s3;obtain⟨ai,ni,ci⟩:=s4;obtain⟨aa,na,ca⟩:=s5;have hN:Ints w (Old w) (.slice an nn cn) (zs f.N):=hf.n;have hL:Ints w (Old w) (.slice aL nL cL) f.L:=hf.l;have hO:Ints w (Old w) (.slice ao no co) f.O:=hf.o;have hI:nO w (Old w) (.slice ai ni ci) f.I:=hf.i;have hA:nO w (Old w) (.slice aa na ca) f.A:=hf.a;have kO:ni=f.I.length:=by obtain⟨R,h1,h2,_⟩:=hI;obtain⟨_,a,c,e,_⟩:=h2;cases e;rfl
 have fU:na=f.A.length:=by obtain⟨R,h1,h2,_⟩:=hA;obtain⟨_,a,c,e,_⟩:=h2;cases e;rfl
 have bn:=hb.n;have bl:=hb.l;have bo:=hb.o;have ht:=aG2 hb;have hz:=a9d f.N
 have zV:∀ j,j<2→∃ (al:Option Addr) (cl:Nat) (X:List (List Nat)),(#[.slice ai ni ci,.slice aa na ca]:Array Value)[j]? = some (.slice al X.length cl)∧nO w (Old w) (.slice al X.length cl) X∧X.length≤70000∧(∀ i,i<X.length→(nth [] X i).length≤70000)∧mj f (j+1)=mj f j++a8f X:=fun j hj=>by
  have tx:j=0∨j=1:=by omega
  rcases tx with rfl|rfl
  ·subst kO;exact⟨ai,ci,f.I,rfl,hI,hb.i,hb.is,by simp [mj]⟩
  ·subst fU;exact⟨aa,ca,f.A,rfl,hA,hb.a,hb.al,by simp [mj]⟩
 have h0:mj f 0=(([]++pZ (zs f.N))++pZ f.L)++pZ f.O:=by simp [mj]
 have t1:=a2Y (zs f.N);have t2:=a2Y f.L;obtain⟨X1,mX⟩:∃ X,([]:List Int)++pZ (zs f.N)=X:=⟨_,rfl⟩;obtain⟨X2,pY⟩:∃ X,X1++pZ f.L=X:=⟨_,rfl⟩;have l1:X1.length≤700010:=by rw [← mX,List.nil_append];omega
 have l2:X2.length≤1400020:=by rw [← pY,List.length_append];omega
 rw [mX,pY] at h0;clear t1 t2;replace zV:=Hd zV;replace ht:=Hd ht;replace h0:=Hd h0;replace mX:=Hd mX;replace pY:=Hd pY;replace hb:=Hd hb;have kI:(a0E f)=mj f 2:=rfl;rw [kI];clear kI hf hI hA kO fU;simp only [sv];have hS:=aA.start w
 go_enter func38,ntmps38
 go_wp2_with (with_reducible first|refine cI hS fun bx cu hS=>?_|refine bH hS zeroValue167 fun b3 wb3 hS=>?_|refine aU 1 hS isAgg22 ?_)
 have hS:=hS.iB 5 1;simp only [aK] at hS;have hS:=hS.order [2,3,0,1] rfl;simp only [iw] at hS;refine (a9k b3 0 nn cn none an [] (zs f.N) hN (by simp) (by rw [hz];simp;omega) hS).mono ?_;rintro e w1 ⟨rfl,d1,c1,cU⟩;simp only [];rw [mX.out] at cU;clear hS;have hS:=cU;clear cU
 go_wp2_with (with_reducible refine aU 3 hS isAgg22 ?_)
 refine (a9k b3 c1 nL cL d1 aL X1 f.L hL (by simp) (by omega) hS).mono ?_;rintro e w2 ⟨rfl,d2,c2,cU⟩;simp only [];rw [pY.out] at cU;clear hS;have hS:=cU;clear cU
 go_wp2_with (with_reducible refine aU 3 hS isAgg22 ?_)
 refine (a9k b3 c2 no co d2 ao X2 f.O hO (by simp) (by omega) hS).mono ?_;rintro e w3 ⟨rfl,d3,c3,cU⟩;simp only [];rw [← h0.out] at cU;clear hS;have hS:=cU;clear cU
 go_wp2_with (first|(with_reducible refine aU 3 hS isAgg35 ?_)|((with_reducible refine dV (T:=168) ?_);refine nc (k:=1) (z:=.slice none 0 0) (len:=2) hS underlying168 sizeOf35 zeroValue35 (by decide) (by decide) (aJm _ _ _ _ _ _) (fun b21 aYQ hS=>?_);simp only [aD];simp only [aK] at hS))
 try try simp only [fA]
 go_loopw [23] (fun v23 wr=>∃ (j:Nat) (ad:Option Addr) (c:Nat),j≤2∧v23=.int .i64 (j:Int)∧aA w wr [.aB b3 (.cells #[.slice ad (mj f j).length c] 167 (0,0)),.row (.slice ad (mj f j).length c) 5 1 (mj f j).length (bv (mj f j)),.aH (Old w) w,.aB bx (.cells #[.slice an nn cn,.slice aL nL cL,.slice ao no co,.slice ai ni ci,.slice aa na ca] 37 (0,0)),.aB b21 (.cells #[.slice ai ni ci,.slice aa na ca] 35 (0,0))]) (fun v23 _=>2 - (intOf v23).toNat)
 case atStart=>exact⟨0,d3,c3,by omega,rfl,hS⟩
 case round =>
  clear hS;obtain⟨j,ad,c,hj,rfl,hS⟩:=hrel;have htj:=ht.out j hj
  by_cases tx:j<2
  ·obtain⟨al,cl,X,sP,hX,hXl,hXs,dH⟩:=zV.out j tx
   have hle:=a9P hXs;have lX:=aKu X;have nS:=fun i (hi:i<X.length)=>aLi hi
   have gq:mj f j++o7 X X.length=mj f (j+1):=by rw [dH];rfl
   obtain⟨Y,hY⟩:∃ Y,mj f j=Y:=⟨_,rfl⟩;rw [hY] at hS gq htj;have ym:bQ ((X.length:Nat):Int):=by unfold bQ;omega
   replace hle:=Hd hle;replace lX:=Hd lX;replace nS:=Hd nS;replace gq:=Hd gq;replace hXs:=Hd hXs;replace hY:=Hd hY;replace ym:=Hd ym;clear dH
   go_wp2_with (first|(with_reducible refine kW underlying168 sizeOf35 ?_)|((with_reducible refine dq (T:=35) ?_);refine dI hS rfl (zD (T:=35) 4 isAgg35 rfl rfl sP ?_);simp only [aD]))
   refine (aIq b3 c ad Y (X.length:Int) ym.out (by omega) hS).mono ?_;rintro e w4 ⟨rfl,d4,c4,cU⟩;simp only [];rw [lX.out] at cU;clear hS;go_wp2
   go_loopw [32] (fun v32 wr=>∃ (i:Nat) (ad:Option Addr) (c:Nat),i≤X.length∧v32=.int .i64 (i:Int)∧aA w wr [.aB b3 (.cells #[.slice ad (Y++o7 X i).length c] 167 (0,0)),.row (.slice ad (Y++o7 X i).length c) 5 1 (Y++o7 X i).length (bv (Y++o7 X i)),.aH (Old w) w,.aB bx (.cells #[.slice an nn cn,.slice aL nL cL,.slice ao no co,.slice ai ni ci,.slice aa na ca] 37 (0,0)),.aB b21 (.cells #[.slice ai ni ci,.slice aa na ca] 35 (0,0))]) (fun v32 _=>X.length - (intOf v32).toNat)
   case atStart=>exact⟨0,d4,c4,by omega,rfl,cU⟩
   case round =>
    clear cU;obtain⟨i,ad,c,hi,rfl,hS⟩:=hrel
    by_cases dj:i<X.length
    ·obtain⟨R,lV,nq,cq,bh,hcell,oE,hnq⟩:=aOm hX dj
     have kN:=hle.out i (by omega);have eJ:=hXs.out i dj;have hlen:(Y++o7 X i).length=Y.length+(o7 X i).length:=List.length_append;have gS:=a9d (nth [] X i);have zC:(Y++o7 X i)++pZ (zs (nth [] X i))=Y++o7 X (i+1):=by rw [nS.out i dj,List.append_assoc]
     subst hnq;replace hlen:=Hd hlen;replace gS:=Hd gS;replace zC:=Hd zC
     go_wp2_with (first|(with_reducible refine iH underlying35 sizeOf22 bh hcell fun bq oq bO=>?_)|((with_reducible refine dq (T:=22) ?_);refine dI hS rfl (a6w (T:=22) isAgg22 rfl (by with_reducible assumption) (by simp) rfl ?_);simp only [aD]))
     refine (a9k b3 c (nth [] X i).length cq ad lV (Y++o7 X i) (zs (nth [] X i)) oE (by simp) (by rw [hlen.out,gS.out];omega) hS).mono ?_;rintro e w5 ⟨rfl,d5,c5,cU⟩;simp only [];rw [zC.out] at cU;clear hS;have hS:=cU;clear cU;go_wp2;go_roundw
     case rel=>exact⟨i+1,d5,c5,by omega,by simp,hS⟩
     case measure=>simp [intOf];omega
    ·obtain rfl:X.length=i:=by omega
     rw [gq.out] at hS;go_wp2;go_roundw
     case rel=>exact⟨j+1,ad,c,by omega,by simp,hS⟩
     case measure=>simp [intOf];omega
  ·obtain rfl:2=j:=by omega
   go_wp2_with (fail)
   refine (aT8 b3 c ad (mj f 2) (by omega) hS).mono ?_;rintro e w4 ⟨d4,c4,rfl,cU⟩;simp only [];simp only [aK] at cU;go_wp2;go_ret;exact⟨d4,c4,rfl,cU.sb⟩
theorem aOo (s1 s2 s3 s4 s5 t1 t2 t3 t4 t5:Option Addr × Nat × Nat) (f:iL) (w:World) (hf:jb w (Old w) s1 s2 s3 s4 s5 f) (hg:jb w (Old w) t1 t2 t3 t4 t5 f) (hb:FBd f) :
 Calls prog 14 #[.agg #[sv s1,sv s2,sv s3,sv s4,sv s5],.agg #[sv t1,sv t2,sv t3,sv t4,sv t5]] w fun e w'=>e=.returned (.bool true)∧Pure w (fun _=>False) w' (fun _=>False):=by
 have hl:=aG2 hb 2 (by omega);have c1:=fun w' h=>aLz s1 s2 s3 s4 s5 f w' h hb
 have c2:=fun w' h=>aLz t1 t2 t3 t4 t5 f w' h hb
 have eJ:(a0E f).length≤1000000000000:=by show (mj f 2).length≤_;omega
 obtain⟨Y,hY⟩:∃ Y,a0E f=Y:=⟨_,rfl⟩;rw [hY] at eJ;simp only [hY] at c1 c2;clear hl hY hb;have hS:=aA.start w;obtain⟨a1,n1,x1⟩:=s1;obtain⟨a2,n2,x2⟩:=s2;obtain⟨a3,n3,x3⟩:=s3;obtain⟨a4,n4,x4⟩:=s4;obtain⟨a5,n5,x5⟩:=s5;obtain⟨b1,m1,y1⟩:=t1;obtain⟨b2,m2,y2⟩:=t2;obtain⟨b3,m3,y3⟩:=t3;obtain⟨b4,m4,y4⟩:=t4;obtain⟨b5,m5,y5⟩:=t5;simp only [sv] at c1 c2 ⊢
 go_enter func14,ntmps14
 go_wp2_with (with_reducible refine cI hS fun bx cu hS=>?_)
 refine dB [.r 0,.r 2,.e 1,.e 3,.e 4,.p 5] [] hS fun w1 hS=>?_
 repeat (with_reducible first|refine gm ?_|refine cz 1 isAgg37 sizeOf37 ?_|refine cz 2 isAgg37 sizeOf37 ?_|refine bU ?_)
 refine aZ ?_
 go_wp2_with (fail)
 refine (c1 _ ((hf.at hS (fun _ h=>h)).bj)).mono ?_;rintro e w' ⟨d1,z1,rfl,h1⟩;simp only [];go_step;have hS:=hS.import h1;simp only [aK] at hS;refine aX hS.sb ?_;refine aM ?_;refine aZ ?_
 go_wp2_with (fail)
 refine (c2 _ ((hg.at hS (fun _ h=>h)).bj)).mono ?_;rintro e w' ⟨d2,z2,rfl,h2⟩;simp only [];go_step;have hS:=hS.import h2;simp only [aK] at hS;refine aX hS.sb ?_;refine aM ?_;refine aZ ?_
 go_wp2_with (fail)
 refine (aVz d1 d2 z1 z2 Y _ (hS.dn 3 rfl).bj (hS.dn 4 rfl).bj eJ).mono ?_;rintro e w' ⟨rfl,h3⟩;simp only [];go_step;have hS:=hS.import h3;simp only [List.append_nil] at hS;refine aX hS.sb ?_;refine aM ?_;refine bE ?_;go_wp2;go_ret;exact⟨rfl,hS.pure _⟩
structure cV where
 k:Int
 x:Int
 y:Int
 pos:0<k
variable (m:cV)
section
variable {V:List Pt} {es:List Ed} (bV:∀ e ∈ es,e.a<V.length∧e.b<V.length)
 include bV
end
structure cV.Fit (m:cV) (g:Gp):Prop where
 a:-1073741824≤m.k*g.x∧m.k*g.x≤1073741824
 b:-1073741824≤m.k*g.y∧m.k*g.y≤1073741824
 x:-1073741824≤m.x∧m.x≤1073741824
 y:-1073741824≤m.y∧m.y≤1073741824
structure cV.Far (m:cV):Prop where
 k:m.k≤16777216
 x:-268435456≤m.x∧m.x≤268435456
 y:-268435456≤m.y∧m.y≤268435456
def sr (V:List Pt) (es:List Ed) (e:Nat) (x:Rat):Bool:=decide ((nth au V (nth ah es e).a).x≤x) && decide (x<(nth au V (nth ah es e).b).x)
def iK (V:List Pt) (es:List Ed) (e:Nat) (x:Rat):Rat:=(nth au V (nth ah es e).a).y+(x - (nth au V (nth ah es e).a).x)*(((nth ah es e).dir.y:Rat) / ((nth ah es e).dir.x:Rat))
def yG (V:List Pt) (es:List Ed) (p:Pt) (kd:Option Nat) (e:Nat):Bool :=
 match kd with
 | none=>true
 | some b=>if iK V es e p.x=iK V es b p.x then decide (0<jW ⟨-(nth ah es e).dir.y,(nth ah es e).dir.x⟩ ⟨-(nth ah es b).dir.y,(nth ah es b).dir.x⟩) else decide (iK V es b p.x<iK V es e p.x)
def iO (V:List Pt) (es:List Ed) (p:Pt):Nat→Option Nat
 | 0=>none
 | e+1=>if (sr V es e p.x && decide (iK V es e p.x<p.y) && yG V es p (iO V es p e) e)=true then some e else iO V es p e
theorem a7f (V:List Pt) (es:List Ed) (p:Pt):∀ k b,iO V es p k=some b→b<k
 | 0,b,h=>by cases h
 | k+1,b,h=>by
  unfold iO at h
  split at h
  ·cases h;omega
  ·have:=a7f V es p k b h;omega
section
variable (m:cV) {V:List Pt} {es:List Ed} (bV:∀ e ∈ es,e.a<V.length∧e.b<V.length)
 include bV
end
theorem a2C {n:Int} (h:(Lit.int .i64 n).wf=true):bQ n:=bounds_i64 h
theorem aIN {w:World} {a:Addr} {u:Value} (h:w.cell? a=some u):a.spot=none:=by
 unfold World.cell? at h
 split at h
 ·split at h
  ·cases h
  ·rename_i hs
   cases dw:a.spot with
   | none=>rfl
   | some s=>rw [dw] at hs;simp at hs
 ·cases h
theorem a3l {w:World} {a:Option Addr} {len cap:Nat} {zs:List Int}
 (h:(a=none∧len=0∧cap=0∧zs=[])∨∃ x,a=some x∧len≤cap∧cap≤maxLen∧zs.length=cap∧(∀ i,i<zs.length→w.cell? (x.add i)=some (.int .i64 (zs.getD i 0)))∧∀ n ∈ zs,(Lit.int .i64 n).wf=true) :
 Ints w (Old w) (.slice a len cap) (zs.take len):=by
 rcases h with ⟨rfl,rfl,rfl,rfl⟩|⟨x,rfl,hl,hm,hz,hcell,hwf⟩
 ·exact Ints.nil w _
 ·have hlen:(zs.take len).length=len:=by rw [List.length_take];omega
  have xH:0<zs.length→∀ j,x.add j=⟨x.block,x.off+j,none⟩:=fun hp j=>by
   have h0:=aIN (hcell 0 hp);have h1:x.spot=none:=by simpa [Addr.add] using h0
   unfold Addr.add
   split
   ·rename_i hj;subst hj;cases x;simp_all
   ·rfl
  refine⟨⟨by simp,some x,cap,by rw [hlen],by omega,hm,(fun e=>by cases e),fun ad e=>?_⟩,fun z hz'=>a2C (hwf z (List.mem_of_mem_take hz'))⟩;cases e
  have bJ:(zs.take len).map (Value.int .i64)≠[]→0<zs.length:=fun bJ=>by
   rcases Nat.eq_zero_or_pos zs.length with h|h
   ·exact absurd (by rw [List.eq_nil_of_length_eq_zero h];simp) bJ
   ·exact h
  refine⟨fun h=>?_,fun h=>?_,fun j u hu=>?_⟩
  ·have h0:=aIN (hcell 0 (bJ h))
   simpa [Addr.add] using h0
  ·have h0:=World.block_lt_of_cell? w _ (hcell 0 (bJ h))
   have h1:x.block<w.heap.size:=by simpa [Addr.add] using h0
   exact h1
  ·rw [List.getElem?_map,Option.map_eq_some_iff] at hu
   obtain⟨z,gS,rfl⟩:=hu;rw [List.getElem?_take] at gS
   split at gS
   ·have hj:j<zs.length:=(List.getElem?_eq_some_iff.1 gS).1
    have:=hcell j hj;rw [xH (by omega) j] at this;rw [this,List.getD_eq_getElem?_getD,gS]
    rfl
   ·cases gS
def ux (a b x:Rat):Bool:=decide (0≤e8 a x*e8 x b)
theorem aFA {a b:Rat}:e8 a b<0↔a<b:=by unfold e8;split <;> (try split) <;> grind
def ph (a b p:Pt):Bool:=decide (e8 (bT a b p) 0=0) && ux a.x b.x p.x && ux a.y b.y p.y
theorem aK2 (p q r:FR) (a b x:Rat) (w:World) (S:Nat→Prop) (hp:eN w S p a) (hq:eN w S q b) (hr:eN w S r x) (hL:aP w S) :
 Calls prog 102 #[.agg #[.bool p.num.neg,.slice p.num.ad p.num.n p.num.cap,.bool p.less.neg,.slice p.less.ad p.less.n p.less.cap],.agg #[.bool q.num.neg,.slice q.num.ad q.num.n q.num.cap,.bool q.less.neg,.slice q.less.ad q.less.n q.less.cap],.agg #[.bool r.num.neg,.slice r.num.ad r.num.n r.num.cap,.bool r.less.neg,.slice r.less.ad r.less.n r.less.cap]] w fun e w'=>e=.returned (.bool (ux a b x))∧Pure w S w' S:=by
 have k1:=fun w' iY x7 eM=>vM p r a x w' S iY x7 eM
 have k2:=fun w' x7 jB eM=>vM r q x b w' S x7 jB eM
 have c1b:=aDM a x;have c2b:=aDM x b;have hbt:ux a b x=decide (0≤e8 a x*e8 x b):=rfl;rw [hbt];clear hbt;obtain⟨c1,e1⟩:∃ c,e8 a x=c:=⟨_,rfl⟩;obtain⟨c2,e2⟩:∃ c,e8 x b=c:=⟨_,rfl⟩;simp only [e1,e2] at k1 k2 c1b c2b ⊢;clear e1 e2
 have hw:IntKind.i64.wrap (c1*c2)=c1*c2:=by
  have h:c1 = -1∨c1=0∨c1=1:=by omega
  rcases h with rfl|rfl|rfl <;> exact w6
 obtain⟨hS,aC,bC,bD⟩:=eR hL
 go_enter func102,ntmps102
 go_wp2_with (with_reducible refine cI hS fun bx cu hS=>?_)
 refine dB [.r 0,.r 1,.r 3,.r 4,.e 2,.e 5,.p 6,.p 7,.p 8] [] hS fun w1 hS=>?_
 have hC:=hS
 repeat (with_reducible first|refine cz 1 isAgg54 sizeOf54 ?_|refine cz 2 isAgg54 sizeOf54 ?_|refine cz 3 isAgg54 sizeOf54 ?_)
 refine aZ ?_
 go_wp2_with (fail)
 refine (k1 _ (hp.at hS aC) (hr.at hS aC) (aP.at hS aC)).mono ?_;rintro e w' ⟨rfl,az⟩;simp only [];go_step;have hr:=(hr.at hS aC).grow az;have hq:=(hq.at hS aC).grow az;have hC:=hC.below az.below az.drawn;replace hS:=hS.aj aC bC bD az;obtain⟨F1,aG,-,bB,av,hS⟩:=hS;refine aX hC ?_;refine aM ?_;refine aZ ?_
 go_wp2_with (fail)
 refine (k2 _ (hr.at hS aG) (hq.at hS aG) (aP.at hS aG)).mono ?_;rintro e w' ⟨rfl,aR⟩;simp only [];go_step;have hC:=hC.below aR.below aR.drawn;replace hS:=hS.aj aG av bB aR;obtain⟨F2,aQ,-,bR,bP,hS⟩:=hS;refine aX hC ?_;refine aM ?_;refine bE ?_;go_wp2;go_ret;exact⟨rfl,bR.step hS bP aQ⟩
theorem aRP (p q r:PR) (a b c:Pt) (k:Nat) (w:World) (S:Nat→Prop) (hp:dh w S p a) (hq:dh w S q b) (hr:dh w S r c) (hL:aP w S) (ka:Bq k a.x∧Bq k a.y) (kb:Bq k b.x∧Bq k b.y) (kc:Bq k c.x∧Bq k c.y) (hk:8*k+8≤16384) :
 Calls prog 49 #[.agg #[.bool p.x.num.neg,.slice p.x.num.ad p.x.num.n p.x.num.cap,.bool p.x.less.neg,.slice p.x.less.ad p.x.less.n p.x.less.cap,.bool p.y.num.neg,.slice p.y.num.ad p.y.num.n p.y.num.cap,.bool p.y.less.neg,.slice p.y.less.ad p.y.less.n p.y.less.cap],.agg #[.bool q.x.num.neg,.slice q.x.num.ad q.x.num.n q.x.num.cap,.bool q.x.less.neg,.slice q.x.less.ad q.x.less.n q.x.less.cap,.bool q.y.num.neg,.slice q.y.num.ad q.y.num.n q.y.num.cap,.bool q.y.less.neg,.slice q.y.less.ad q.y.less.n q.y.less.cap],.agg #[.bool r.x.num.neg,.slice r.x.num.ad r.x.num.n r.x.num.cap,.bool r.x.less.neg,.slice r.x.less.ad r.x.less.n r.x.less.cap,.bool r.y.num.neg,.slice r.y.num.ad r.y.num.n r.y.num.cap,.bool r.y.less.neg,.slice r.y.less.ad r.y.less.n r.y.less.cap]] w fun e w'=>e=.returned (.tuple #[.bool (ph a b c),.int .i64 0])∧Pure w S w' S:=by
 have k1:=fun w' S iY jB x7 eM=>aFV p q r a b c k w' S iY jB x7 eM ka kb kc hk
 have k2:=fun w' S iY jB x7 eM=>aK2 p.x q.x r.x a.x b.x c.x w' S iY jB x7 eM
 have k3:=fun w' S iY jB x7 eM=>aK2 p.y q.y r.y a.y b.y c.y w' S iY jB x7 eM
 have hbt:ph a b c=(decide (e8 (bT a b c) 0=0) && ux a.x b.x c.x && ux a.y b.y c.y):=rfl;rw [hbt];clear hbt ka kb kc;obtain⟨s,e1⟩:∃ s,e8 (bT a b c) 0=s:=⟨_,rfl⟩;obtain⟨b1,e2⟩:∃ s,ux a.x b.x c.x=s:=⟨_,rfl⟩;obtain⟨b2,e3⟩:∃ s,ux a.y b.y c.y=s:=⟨_,rfl⟩;simp only [e1,e2,e3] at k1 k2 k3 ⊢;clear e1 e2 e3;obtain⟨hS,aC,bC,bD⟩:=eR hL
 by_cases hs:s=0
 ·subst hs
  cases b1 with
  | false =>
   go_enter func49,ntmps49
   go_wp2_with (with_reducible first|refine cI hS fun bx cu hS=>?_|refine bA 1 hS isAgg56 sizeOf56 ?_|refine bA 2 hS isAgg56 sizeOf56 ?_|refine bA 3 hS isAgg56 sizeOf56 ?_)
   refine (k1 _ S (hp.at hS aC) (hq.at hS aC) (hr.at hS aC) (aP.at hS aC)).mono ?_;rintro e w' ⟨rfl,az⟩;have hp:=(hp.at hS aC).grow az;have hq:=(hq.at hS aC).grow az;have hr:=(hr.at hS aC).grow az;replace hS:=hS.aj aC bC bD az;obtain⟨F1,aG,-,bB,av,hS⟩:=hS;simp only []
   go_wp2_with (with_reducible first|refine eW 1 hS isAgg54 sizeOf54 ?_|refine eW 2 hS isAgg54 sizeOf54 ?_|refine eW 3 hS isAgg54 sizeOf54 ?_)
   refine (k2 _ S (hp.x.at hS aG) (hq.x.at hS aG) (hr.x.at hS aG) (aP.at hS aG)).mono ?_;rintro e w' ⟨rfl,aR⟩;replace hS:=hS.aj aG av bB aR;obtain⟨F2,aQ,-,bR,bP,hS⟩:=hS;simp only []
   go_wp2_with (first|((with_reducible refine dq (T:=54) ?_);refine sf rfl ?_;simp only [aD]))
   refine bodyPost_ret (results_tmp2 rfl _ _ _) rfl ?_;exact⟨rfl,bR.step hS bP aQ⟩
  | true =>
   go_enter func49,ntmps49
   go_wp2_with (with_reducible first|refine cI hS fun bx cu hS=>?_|refine bA 1 hS isAgg56 sizeOf56 ?_|refine bA 2 hS isAgg56 sizeOf56 ?_|refine bA 3 hS isAgg56 sizeOf56 ?_)
   refine (k1 _ S (hp.at hS aC) (hq.at hS aC) (hr.at hS aC) (aP.at hS aC)).mono ?_;rintro e w' ⟨rfl,az⟩;have hp:=(hp.at hS aC).grow az;have hq:=(hq.at hS aC).grow az;have hr:=(hr.at hS aC).grow az;replace hS:=hS.aj aC bC bD az;obtain⟨F1,aG,-,bB,av,hS⟩:=hS;simp only []
   go_wp2_with (with_reducible first|refine eW 1 hS isAgg54 sizeOf54 ?_|refine eW 2 hS isAgg54 sizeOf54 ?_|refine eW 3 hS isAgg54 sizeOf54 ?_)
   refine (k2 _ S (hp.x.at hS aG) (hq.x.at hS aG) (hr.x.at hS aG) (aP.at hS aG)).mono ?_;rintro e w' ⟨rfl,aR⟩;have hp:=(hp.at hS aG).grow aR;have hq:=(hq.at hS aG).grow aR;have hr:=(hr.at hS aG).grow aR;replace hS:=hS.aj aG av bB aR;obtain⟨F2,aQ,-,bR,bP,hS⟩:=hS;simp only []
   go_wp2_with (with_reducible first|refine eW 1 hS isAgg54 sizeOf54 ?_|refine eW 2 hS isAgg54 sizeOf54 ?_|refine eW 3 hS isAgg54 sizeOf54 ?_)
   refine (k3 _ S (hp.y.at hS aQ) (hq.y.at hS aQ) (hr.y.at hS aQ) (aP.at hS aQ)).mono ?_;rintro e w' ⟨rfl,bI⟩;replace hS:=hS.aj aQ bP bR bI;obtain⟨F3,bM,-,dP,dE,hS⟩:=hS;simp only [];go_wp2;refine bodyPost_ret (results_tmp2 rfl _ _ _) rfl ?_;exact⟨by simp,dP.step hS dE bM⟩
 ·have qI:(s == 0)=false:=by simpa using hs
  have hsd:decide (s=0)=false:=by simpa using hs
  rw [hsd];clear hs
  go_enter func49,ntmps49
  go_wp2_with (with_reducible first|refine cI hS fun bx cu hS=>?_|refine bA 1 hS isAgg56 sizeOf56 ?_|refine bA 2 hS isAgg56 sizeOf56 ?_|refine bA 3 hS isAgg56 sizeOf56 ?_)
  refine (k1 _ S (hp.at hS aC) (hq.at hS aC) (hr.at hS aC) (aP.at hS aC)).mono ?_;rintro e w' ⟨rfl,az⟩;replace hS:=hS.aj aC bC bD az;obtain⟨F1,aG,-,bB,av,hS⟩:=hS;simp only []
  go_wp2_with (first|((with_reducible refine dq (T:=54) ?_);refine sf rfl ?_;simp only [aD]))
  refine bodyPost_ret (results_tmp2 rfl _ _ _) rfl ?_;exact⟨rfl,bB.step hS av aG⟩
theorem aSw (a1 a2 a3 a4:Option Addr) (n1 c1 n2 c2 n3 c3 n4 c4:Nat) (prs:List PR) (V:List Pt) (p:PR) (q:Pt) (w:World) (S:Nat→Prop) (hv:PL w S (.slice a3 n3 c3) prs V) (hp:dh w S p q) (hL:aP w S) (hV:V.Pairwise Pt.lt) (gO:V.length≤1000000) :
 Calls prog 44 #[.agg #[.slice a1 n1 c1,.slice a2 n2 c2,.slice a3 n3 c3,.slice a4 n4 c4],.agg #[.bool p.x.num.neg,.slice p.x.num.ad p.x.num.n p.x.num.cap,.bool p.x.less.neg,.slice p.x.less.ad p.x.less.n p.x.less.cap,.bool p.y.num.neg,.slice p.y.num.ad p.y.num.n p.y.num.cap,.bool p.y.less.neg,.slice p.y.less.ad p.y.less.n p.y.less.cap]] w fun e w'=>(∃ i,vw V q i∧e=.returned (.tuple (if i<V.length∧nth au V i=q then #[.int .i64 (i:Int),.bool true] else #[.int .i64 0,.bool false])))∧Pure w S w' S:=by
 have hb:=fun w' (hv:PL w' S (.slice a3 n3 c3) prs V) hp hL=>aCo a3 n3 c3 prs V p q w' S hv hp hL hV gO
 obtain⟨hS,aC,bC,bD⟩:=eR hL
 go_enter func44,ntmps44
 go_wp2_with (with_reducible first|refine cI hS fun bx cu hS=>?_|refine bA 2 hS isAgg56 sizeOf56 ?_|refine aU 1 hS isAgg31 ?_)
 refine (hb _ (hv.at hS aC) (hp.at hS aC) (aP.at hS aC)).mono ?_;rintro e w' ⟨⟨i,hi,rfl⟩,hq⟩;replace hS:=hS.aj aC bC bD hq;obtain⟨F1,aG,-,bB,av,hS⟩:=hS;replace hi:=Hd hi
 by_cases hd:i<V.length∧nth au V i=q
 ·rw [decide_eq_true hd]
  simp only [];go_wp2;refine bodyPost_ret (results_tmp2 rfl _ _ _) rfl ?_;exact⟨⟨i,hi.out,by rw [if_pos hd];rfl⟩,bB.step hS av aG⟩
 ·rw [decide_eq_false hd]
  simp only [];go_wp2;refine bodyPost_ret (results_tmp2 rfl _ _ _) rfl ?_;exact⟨⟨i,hi.out,by rw [if_neg hd];rfl⟩,bB.step hS av aG⟩
structure rQ where
 bl:Nat
 g1:Option Addr × Nat × Nat
 g2:Option Addr × Nat × Nat
 g3:Option Addr × Nat × Nat
 g4:Option Addr × Nat × Nat
 s1:Option Addr × Nat × Nat
 s2:Option Addr × Nat × Nat
 s3:Option Addr × Nat × Nat
 s4:Option Addr × Nat × Nat
 s5:Option Addr × Nat × Nat
structure iX (w:World) (S:Nat→Prop) (L:rQ) (rs:List ER) (es:List Ed) (prs:List PR) (V:List Pt) (k:Nat) (f:iL):Prop where
 cell:dM w S ⟨L.bl,0,none⟩ [.slice L.g1.1 L.g1.2.1 L.g1.2.2,.slice L.g2.1 L.g2.2.1 L.g2.2.2,.slice L.g3.1 L.g3.2.1 L.g3.2.2,.slice L.g4.1 L.g4.2.1 L.g4.2.2,.slice L.s1.1 L.s1.2.1 L.s1.2.2,.slice L.s2.1 L.s2.2.1 L.s2.2.2,.slice L.s3.1 L.s3.2.1 L.s3.2.2,.slice L.s4.1 L.s4.2.1 L.s4.2.2,.slice L.s5.1 L.s5.2.1 L.s5.2.2]
 arr:kC w S L.g3.1 L.g4.1 L.g3.2.1 L.g3.2.2 L.g4.2.1 L.g4.2.2 rs es prs V k
 fc:jb w S L.s1 L.s2 L.s3 L.s4 L.s5 f
variable {w0 w w' wr:World} {F S S':Nat→Prop} {L:rQ} {rs:List ER} {es:List Ed} {prs:List PR} {V:List Pt} {k:Nat} {f:iL}
theorem dM.bj {ad:Addr} {cs:List Value} (h:dM w S ad cs) (hL:aP w S):dM w (Old w) ad cs:=h.weaken hL
theorem iX.move (h:iX wr S L rs es prs V k f) (hL:aP w S) (hk:∀ k,S k→w.heap[k]? = wr.heap[k]?):iX w S L rs es prs V k f:=⟨h.cell.move hk,h.arr.move hL hk,h.fc.move hk⟩
theorem iX.at {H:List Chunk} (h:iX wr S L rs es prs V k f) (hS:aA w0 w (.aH F wr::H)) (hF:∀ k,S k→F k):iX w S L rs es prs V k f:=h.move (aP.at hS hF) (hS.da hF)
theorem iX.below (h:iX w S L rs es prs V k f) (hb:Below w.heap.size w w'):iX w' S L rs es prs V k f :=
 h.move (fun k hk=>Nat.lt_of_lt_of_le (h.arr.live k hk) hb.size) (fun k hk=>hb.block k (h.arr.live k hk))
theorem jb.k8 {w w':World} {S:Nat→Prop} {s1 s2 s3 s4 s5:Option Addr × Nat × Nat} {f:iL} (h:jb w S s1 s2 s3 s4 s5 f) (hL:aP w S) (hb:Below w.heap.size w w'):jb w' S s1 s2 s3 s4 s5 f:=h.move fun k hk=>hb.block k (hL k hk)
theorem nO.wk {v:Value} {I:List (List Nat)} (h:nO w S v I) (hs:∀ k,S k→S' k):nO w S' v I:=by
 obtain⟨R,h1,h2,h3⟩:=h;exact⟨R,h1,h2.weaken hs,fun i hi=>(h3 i hi).weaken hs⟩
theorem jb.wk {s1 s2 s3 s4 s5:Option Addr × Nat × Nat} (h:jb w S s1 s2 s3 s4 s5 f) (hs:∀ k,S k→S' k):jb w S' s1 s2 s3 s4 s5 f:=⟨h.n.weaken hs,⟨h.l.1.weaken hs,h.l.2⟩,⟨h.o.1.weaken hs,h.o.2⟩,h.i.wk hs,h.a.wk hs⟩
theorem iX.grow (h:iX w S L rs es prs V k f) (hp:Pure w S w' S'):iX w' S' L rs es prs V k f :=
 ⟨(h.cell.move (fun j hj=>hp.below.block j (h.arr.live j hj))).weaken hp.sub,h.arr.grow hp,(h.fc.k8 h.arr.live hp.below).wk hp.sub⟩
section
variable {fn:Func} {p p2 t:Tmp} {T T2:TypeId} {P:Program} {H:List Chunk} {b b2 k2:Nat} {arr xc:Array Value} {Tb Tb2:TypeId} {fr fr2:Nat × Nat} {R:Ending→World→Prop} {a:Act}
theorem aPz (j j2:Nat) (hS:aA w0 w H) (hr:fn.results=#[.cell p T,.cell p2 T2]) (hp:a.tmps.getD p undef=.pointer (some ⟨b,0,none⟩)) (bR:a.tmps.getD p2 undef=.pointer (some ⟨b2,0,none⟩))
 (hj:H[j]? = some (Chunk.aB b (.cells arr Tb fr))) (tx:H[j2]? = some (Chunk.aB b2 (.cells xc Tb2 fr2))) (eT:∀ w,(isAgg T).run P w=.ok true w) (hz:∀ w,(sizeOf T).run P w=.ok k w) (dJ:arr.size=k) (jy:∀ w,(isAgg T2).run P w=.ok true w) (gS:∀ w,(sizeOf T2).run P w=.ok k2 w) (a2j:xc.size=k2) (hd:a.defers=[])
 (h:R (.returned (.tuple #[.agg arr,.agg xc])) w):bodyPost P fn R .ret a w:=by
 refine bodyPost_ret (v:=.tuple #[.agg arr,.agg xc]) ?_ hd h;have h1:=a2F (P:=P) j hS hj eT hz dJ;have h2:=a2F (P:=P) j2 hS tx jy gS a2j;have iY:a.tmps[p]?.getD undef=.pointer (some ⟨b,0,none⟩):=by simpa using hp
 have aE7:a.tmps[p2]?.getD undef=.pointer (some ⟨b2,0,none⟩):=by simpa using bR
 simp [results,hr,iY,aE7,asAddr,h1,h2]
end
theorem aCu (L:rQ) (rs:List ER) (es:List Ed) (prs:List PR) (V:List Pt) (k:Nat) (f:iL) (e:Nat) (w:World) (S:Nat→Prop) (h:iX w S L rs es prs V k f) (he:e<es.length) (gO:V.length≤1000000) (pw:es.length≤1000000) :
 Calls prog 48 #[.pointer (some ⟨L.bl,0,none⟩),.int .i64 (e:Int)] w fun en w'=>en=.returned (.tuple #[.agg #[.bool (nth dT prs (nth ah es e).a).x.num.neg,.slice (nth dT prs (nth ah es e).a).x.num.ad (nth dT prs (nth ah es e).a).x.num.n (nth dT prs (nth ah es e).a).x.num.cap,.bool (nth dT prs (nth ah es e).a).x.less.neg,.slice (nth dT prs (nth ah es e).a).x.less.ad (nth dT prs (nth ah es e).a).x.less.n (nth dT prs (nth ah es e).a).x.less.cap,.bool (nth dT prs (nth ah es e).a).y.num.neg,.slice (nth dT prs (nth ah es e).a).y.num.ad (nth dT prs (nth ah es e).a).y.num.n (nth dT prs (nth ah es e).a).y.num.cap,.bool (nth dT prs (nth ah es e).a).y.less.neg,.slice (nth dT prs (nth ah es e).a).y.less.ad (nth dT prs (nth ah es e).a).y.less.n (nth dT prs (nth ah es e).a).y.less.cap],.agg #[.bool (nth dT prs (nth ah es e).b).x.num.neg,.slice (nth dT prs (nth ah es e).b).x.num.ad (nth dT prs (nth ah es e).b).x.num.n (nth dT prs (nth ah es e).b).x.num.cap,.bool (nth dT prs (nth ah es e).b).x.less.neg,.slice (nth dT prs (nth ah es e).b).x.less.ad (nth dT prs (nth ah es e).b).x.less.n (nth dT prs (nth ah es e).b).x.less.cap,.bool (nth dT prs (nth ah es e).b).y.num.neg,.slice (nth dT prs (nth ah es e).b).y.num.ad (nth dT prs (nth ah es e).b).y.num.n (nth dT prs (nth ah es e).b).y.num.cap,.bool (nth dT prs (nth ah es e).b).y.less.neg,.slice (nth dT prs (nth ah es e).b).y.less.ad (nth dT prs (nth ah es e).b).y.less.n (nth dT prs (nth ah es e).b).y.less.cap]])∧Pure w S w' S:=by
 have hL:=h.arr.live;have bh:=h.arr.hE.bj;have dL:=h.arr.hV.sl.bj;have jP:prs.length=V.length:=h.arr.hV.ps.len;have hc:=h.cell.bj hL;have hE:=h.arr.jf.el e he;obtain⟨fv,fM⟩:=h.arr.ab _ (cQ ah es e he);have dF:=eS sU jk (show e<rs.length by rw [h.arr.jf.len];omega);obtain⟨r,hr⟩:∃ r,nth jk rs e=r:=⟨_,rfl⟩;rw [hr] at dF hE;rw [← hE.a] at fv ⊢;rw [← hE.b] at fM ⊢;have ca:=eS gF dT (show r.a<prs.length by omega);have cb:=eS gF dT (show r.b<prs.length by omega);clear hE hr h jP;obtain⟨A1,e1⟩:∃ q,nth dT prs r.a=q:=⟨_,rfl⟩;obtain⟨B1,e2⟩:∃ q,nth dT prs r.b=q:=⟨_,rfl⟩;rw [e1] at ca ⊢;rw [e2] at cb ⊢;clear e1 e2;replace ca:((prs.flatMap pc).drop (r.a*8)).take 8=[.bool A1.x.num.neg,.slice A1.x.num.ad A1.x.num.n A1.x.num.cap,.bool A1.x.less.neg,.slice A1.x.less.ad A1.x.less.n A1.x.less.cap,.bool A1.y.num.neg,.slice A1.y.num.ad A1.y.num.n A1.y.num.cap,.bool A1.y.less.neg,.slice A1.y.less.ad A1.y.less.n A1.y.less.cap]:=ca;replace cb:((prs.flatMap pc).drop (r.b*8)).take 8=[.bool B1.x.num.neg,.slice B1.x.num.ad B1.x.num.n B1.x.num.cap,.bool B1.x.less.neg,.slice B1.x.less.ad B1.x.less.n B1.x.less.cap,.bool B1.y.num.neg,.slice B1.y.num.ad B1.y.num.n B1.y.num.cap,.bool B1.y.less.neg,.slice B1.y.less.ad B1.y.less.n B1.y.less.cap]:=cb;obtain⟨hS,aC,bC,bD⟩:=eR hL
 go_enter func48,ntmps48
 go_wp2_with (with_reducible refine bH hS zeroValue56 fun b4 zS hS=>?_)
 refine qR [.p 0,.p 1,.p 2,.p 3,.r 4,.p 5,.p 6,.p 7,.p 8,.r 9,.p 10,.p 11,.p 12,.r 13,.p 14,.r 15,.p 16,.p 17,.p 18,.p 19,.r 20,.p 21,.p 22,.p 23,.p 24,.r 25,.p 26,.p 27,.p 28,.r 29,.p 30,.r 31,.e 32,.e 33] [] (fun w'=>aA w w' [.aH (Old w) w]) (fun w'=>aA w w' _) (by kernel_rfl) (by kernel_rfl) hS.drew (fun _ hZ=>aA.sub hZ (by repeat (first|exact List.Sublist.refl _|apply List.Sublist.cons_cons|apply List.Sublist.cons))) (fun w1 hS=>?_)
 repeat (first|((with_reducible refine l8 ?_);refine jh rfl rfl (gu (T:=31) 2 isAgg31 rfl hc (by simp) rfl ?_);simp only [aD])|((with_reducible refine l8 ?_);refine jh rfl rfl (gu (T:=32) 3 isAgg32 rfl hc (by simp) rfl ?_);simp only [aD])|(with_reducible first|refine e9 underlying32 sizeOf101 bh dF fun bq oq bO=>?_|refine eY isAgg3 ?_|refine pU 1 isAgg3 ?_|refine e9 underlying31 sizeOf56 dL ca fun bq oq bO=>?_|refine e9 underlying31 sizeOf56 dL cb fun bq oq bO=>?_|refine qE isAgg56 sizeOf56 ?_|refine bU ?_))
 refine aZ ?_
 (with_reducible refine aJ 1 hS sizeOf56 fun _ hS=>?_)
 refine aX hS.sb ?_;refine aM ?_;refine aZ ?_
 (with_reducible refine aJ 2 hS sizeOf56 fun _ hS=>?_)
 refine aX hS.sb ?_;refine aM ?_;refine bE ?_;go_wp2;exact aPz 1 2 hS rfl rfl rfl rfl rfl isAgg56 sizeOf56 rfl isAgg56 sizeOf56 rfl rfl ⟨rfl,hS.pure S⟩
theorem aUS (L:rQ) (rs:List ER) (es:List Ed) (prs:List PR) (V:List Pt) (k:Nat) (f:iL) (e:Nat) (w:World) (S:Nat→Prop) (h:iX w S L rs es prs V k f) (he:2*e<f.L.length) (hl:f.L.length≤1000000) :
 Calls prog 52 #[.pointer (some ⟨L.bl,0,none⟩),.int .i64 (e:Int)] w fun en w'=>en=.returned (.int .i64 (nth 0 f.L (2*e)))∧Pure w S w' S:=by
 have hL:=h.arr.live;have hc:=h.cell.bj hL;have dp:Ints w S (.slice L.s2.1 L.s2.2.1 L.s2.2.2) f.L:=h.fc.l;have hlen:=dp.len;have hFL:=Ints.bj dp;have u1:IntKind.i64.wrap (2*(e:Int))=((2*e:Nat):Int):=w7;clear dp h;have hS:=aA.start w
 go_enter func52,ntmps52
 go_wp2_with (first|((with_reducible refine dq (T:=22) ?_);refine dI hS rfl (gu (T:=22) 5 isAgg22 rfl hc (by simp) rfl ?_);simp only [aD])|(with_reducible first|refine sV underlying22 sizeOf3 fun _ _ _=>?_|refine fP hS isAgg3 ?_))
 go_ret;exact⟨rfl,hS.pure S⟩
theorem aSK (L:rQ) (rs:List ER) (es:List Ed) (prs:List PR) (V:List Pt) (k:Nat) (f:iL) (e:Nat) (x:FR) (q:Rat) (w:World) (S:Nat→Prop) (h:iX w S L rs es prs V k f) (he:e<es.length) (hx:eN w S x q) (gO:V.length≤1000000) (pw:es.length≤1000000) :
 Calls prog 50 #[.pointer (some ⟨L.bl,0,none⟩),.int .i64 (e:Int),.agg #[.bool x.num.neg,.slice x.num.ad x.num.n x.num.cap,.bool x.less.neg,.slice x.less.ad x.less.n x.less.cap]] w fun en w'=>en=.returned (.bool (sr V es e q))∧Pure w S w' S:=by
 have hL:=h.arr.live;have hE:=fun w' h=>aCu L rs es prs V k f e w' S h he gO pw
 obtain⟨fv,fM⟩:=h.arr.ab _ (cQ ah es e he);have pa:dh w S (nth dT prs (nth ah es e).a) (nth au V (nth ah es e).a):=h.arr.hV.ps.el _ fv;have pb:dh w S (nth dT prs (nth ah es e).b) (nth au V (nth ah es e).b):=h.arr.hV.ps.el _ fM;have dw:sr V es e q=(decide ((nth au V (nth ah es e).a).x≤q) && decide (q<(nth au V (nth ah es e).b).x)):=rfl;rw [dw];clear dw;obtain⟨A1,e1⟩:∃ q,nth dT prs (nth ah es e).a=q:=⟨_,rfl⟩;obtain⟨B1,e2⟩:∃ q,nth dT prs (nth ah es e).b=q:=⟨_,rfl⟩;obtain⟨a,e3⟩:∃ q,nth au V (nth ah es e).a=q:=⟨_,rfl⟩;obtain⟨b,e4⟩:∃ q,nth au V (nth ah es e).b=q:=⟨_,rfl⟩;simp only [e1,e2,e3,e4] at hE pa pb ⊢;clear e1 e2 e3 e4 fv fM;have k1:=fun w' p1 p2 eM=>vM A1.x x a.x q w' S p1 p2 eM
 have k2:=fun w' p1 p2 eM=>vM x B1.x q b.x w' S p1 p2 eM
 have g1:=@a6B a.x q;have g2:=@aFA q b.x;obtain⟨c1,ef⟩:∃ c,e8 a.x q=c:=⟨_,rfl⟩;obtain⟨c2,iu⟩:∃ c,e8 q b.x=c:=⟨_,rfl⟩;simp only [ef,iu] at k1 k2 g1 g2;have hR:(decide (a.x≤q) && decide (q<b.x))=(decide (c1≤0) && decide (c2<0)):=by simp only [g1,g2]
 rw [hR];have oG:=pa.x;have oA:=pb.x;clear g1 g2 hR ef iu pa pb;obtain⟨hS,aC,bC,bD⟩:=eR hL
 by_cases h1:c1≤0
 ·have sI:decide (c1≤0)=true:=by simpa using h1
  rw [sI];clear h1
  go_enter func50,ntmps50
  go_wp2_with (with_reducible refine cI hS fun bx cu hS=>?_)
  refine (hE _ (h.at hS aC)).mono ?_;rintro e' w' ⟨rfl,az⟩;have hx:=(hx.at hS aC).grow az;have oG:=(oG.at hS aC).grow az;have oA:=(oA.at hS aC).grow az;replace hS:=hS.aj aC bC bD az;obtain⟨F1,aG,-,bB,av,hS⟩:=hS;simp only []
  go_wp2_with (with_reducible first|refine bH hS zeroValue56 fun b7 wb7 hS=>?_|refine aJ 2 hS sizeOf56 fun _ hS=>?_|refine aJ 3 hS sizeOf56 fun _ hS=>?_|refine eW 2 hS isAgg54 sizeOf54 ?_|refine bA 1 hS isAgg54 sizeOf54 ?_)
  refine (k1 _ (oG.at hS aG) (hx.at hS aG) (aP.at hS aG)).mono ?_;rintro e' w' ⟨rfl,aR⟩;have hx:=(hx.at hS aG).grow aR;have oA:=(oA.at hS aG).grow aR;replace hS:=hS.aj aG av bB aR;obtain⟨F2,aQ,-,bR,bP,hS⟩:=hS;simp only []
  go_wp2_with (with_reducible first|refine eW 3 hS isAgg54 sizeOf54 ?_|refine bA 1 hS isAgg54 sizeOf54 ?_)
  refine (k2 _ (hx.at hS aQ) (oA.at hS aQ) (aP.at hS aQ)).mono ?_;rintro e' w' ⟨rfl,bI⟩;replace hS:=hS.aj aQ bP bR bI;obtain⟨F3,bM,-,dP,dE,hS⟩:=hS;simp only [];go_wp2;go_ret;exact⟨by simp,dP.step hS dE bM⟩
 ·have sI:decide (c1≤0)=false:=by simpa using h1
  rw [sI];clear h1
  go_enter func50,ntmps50
  go_wp2_with (with_reducible refine cI hS fun bx cu hS=>?_)
  refine (hE _ (h.at hS aC)).mono ?_;rintro e' w' ⟨rfl,az⟩;have hx:=(hx.at hS aC).grow az;have oG:=(oG.at hS aC).grow az;replace hS:=hS.aj aC bC bD az;obtain⟨F1,aG,-,bB,av,hS⟩:=hS;simp only []
  go_wp2_with (with_reducible first|refine bH hS zeroValue56 fun b7 wb7 hS=>?_|refine aJ 2 hS sizeOf56 fun _ hS=>?_|refine aJ 3 hS sizeOf56 fun _ hS=>?_|refine eW 2 hS isAgg54 sizeOf54 ?_|refine bA 1 hS isAgg54 sizeOf54 ?_)
  refine (k1 _ (oG.at hS aG) (hx.at hS aG) (aP.at hS aG)).mono ?_;rintro e' w' ⟨rfl,aR⟩;replace hS:=hS.aj aG av bB aR;obtain⟨F2,aQ,-,bR,bP,hS⟩:=hS;simp only []
  go_wp2_with (first|((with_reducible refine dq (T:=54) ?_);refine sf rfl ?_;simp only [aD]))
  go_ret;exact⟨by simp,bR.step hS bP aQ⟩
theorem kP.wk {w:World} {S T:Nat→Prop} {rs:List ER} {es:List Ed} (h:kP w S rs es) (hs:∀ k,S k→T k):kP w T rs es :=
 ⟨h.len,fun i hi=>by have h1:=h.el i hi;exact⟨h1.a,h1.b,h1.dir,h1.of.weaken hs⟩⟩
theorem kC.wk {w:World} {S T:Nat→Prop} {a3 a4:Option Addr} {n3 c3 n4 c4:Nat} {rs:List ER} {es:List Ed} {prs:List PR} {V:List Pt} {k:Nat} (h:kC w S a3 a4 n3 c3 n4 c4 rs es prs V k) (hs:∀ k,S k→T k) (hL:aP w T):kC w T a3 a4 n3 c3 n4 c4 rs es prs V k :=
 ⟨hL,h.hE.weaken hs,h.jf.wk hs,h.hV.weaken hs,h.ab,h.bq,h.n3,h.n4⟩
theorem kC.k8 {w w':World} {S:Nat→Prop} {a3 a4:Option Addr} {n3 c3 n4 c4:Nat} {rs:List ER} {es:List Ed} {prs:List PR} {V:List Pt} {k:Nat} (h:kC w S a3 a4 n3 c3 n4 c4 rs es prs V k) (hb:Below w.heap.size w w'):kC w' S a3 a4 n3 c3 n4 c4 rs es prs V k :=
 h.move (fun k hk=>Nat.lt_of_lt_of_le (h.live k hk) hb.size) fun k hk=>hb.block k (h.live k hk)
theorem aA.aNh {w0 w:World} {H:List Chunk} {b:Nat} {arr:Array Value} {T:TypeId} (hS:aA w0 w H) (j:Nat) (hj:H[j]? = some (.aB b (.cells arr T (0,0)))):dM w (fun k=>k=b) ⟨b,0,none⟩ arr.toList:=by
 have hb:=hS.aB (bW hj);refine⟨fun _=>rfl,fun _=>rfl,fun q u hu=>?_⟩;have h1:w.cell? ⟨b,q,none⟩=some u:=by rw [cell_of_row w b q _ T (0,0) hb];simpa using hu
 simpa using h1
theorem aVk (a1 a2 a3 a4:Option Addr) (n1 c1 n2 c2 n3 c3 n4 c4:Nat) (t1 t2 t3 t4 t5:Option Addr × Nat × Nat) (rs:List ER) (es:List Ed) (prs:List PR) (V:List Pt) (m:Nat) (f:iL) (w:World) (S:Nat→Prop) (hA:kC w S a3 a4 n3 c3 n4 c4 rs es prs V m) (hFi:jb w S t1 t2 t3 t4 t5 f) (hfu:∀ RL:List (List Nat),RL.length=V.length→(∀ v,v<V.length→nU es v (nth [] RL v))→(jR V es RL (fun v=>nR es (nth [] RL v))).fr=f) (tu:FBd f) (hm:8*m+8≤16384) (hd:∀ e ∈ es,e.dir.dir) (bJ:∀ e ∈ es,e.a≠e.b) (hV:V.Pairwise Pt.lt) (gV:es.length≤30000) (gO:V.length≤65536) :
 Calls prog 36 #[.agg #[.slice a1 n1 c1,.slice a2 n2 c2,.slice a3 n3 c3,.slice a4 n4 c4],.agg #[sv t1,sv t2,sv t3,sv t4,sv t5]] w fun e w'=>∃ (L:rQ) (S':Nat→Prop),e=.returned (.tuple #[.pointer (some ⟨L.bl,0,none⟩),.int .i64 0])∧Pure (nd w) S w' S'∧aP w' S'∧iX w' S' L rs es prs V m f:=by
 obtain⟨t1,x1,y1⟩:=t1;obtain⟨t2,x2,y2⟩:=t2;obtain⟨t3,x3,y3⟩:=t3;obtain⟨t4,x4,y4⟩:=t4;obtain⟨t5,x5,y5⟩:=t5;simp only [sv];have hL:=hA.live;replace hfu:=Hd hfu;replace hV:=Hd hV;have hS:=aA.oI w;have dY:=tb w;have bD:=Pure.oI w S;have aC:=hL;have bC:=fun k (h:Old w k)=>h
 go_enter func36,ntmps36
 go_wp2_with (with_reducible first|refine cI hS fun b2 ri hS=>?_|refine bA 1 hS isAgg34 sizeOf34 ?_)
 refine (aGL a1 a2 a3 a4 n1 c1 n2 c2 n3 c3 n4 c4 rs es prs V m _ S (hA.at hS aC) hm hd bJ hV.out gV gO).mono ?_;rintro e w1 ⟨RL,⟨s1,k1,l1⟩,⟨s2,k2,l2⟩,⟨s3,k3,l3⟩,⟨s4,k4,l4⟩,⟨s5,k5,l5⟩,S1,rfl,sa,rH,az,sR,hFo⟩;rw [hfu.out RL sa rH] at hFo;clear sa rH;have yX:=((hA.at hS aC).k8 az.pf).wk az.sub sR;have aVT:=(((hFi.at hS aC).k8 (aP.at hS aC) az.pf)).wk az.sub;obtain⟨F1,aG,gp,cU⟩:=hS.wV dY aC az;have bB:=(bD.step hS bC aC).aE4 dY az;have av:=fun k h=>gp k (bC k h)
 clear hS gp hA hFi az;have hS:=cU;clear cU;simp only [sv]
 go_wp2_with (with_reducible first|refine bH hS zeroValue37 fun b6 xz hS=>?_|refine aJ 3 hS sizeOf37 fun _ hS=>?_|refine bA 2 hS isAgg37 sizeOf37 ?_|refine bA 3 hS isAgg37 sizeOf37 ?_)
 refine (aOo (t1,x1,y1) (t2,x2,y2) (t3,x3,y3) (t4,x4,y4) (t5,x5,y5) (s1,k1,l1) (s2,k2,l2) (s3,k3,l3) (s4,k4,l4) (s5,k5,l5) f _ ((aVT.at hS aG).wk (aP.at hS aG)) ((hFo.at hS aG).wk (aP.at hS aG)) tu).mono ?_;rintro e w2 ⟨rfl,aR⟩;replace hS:=hS.fW dY aR.below;simp only []
 go_wp2_with (with_reducible first|refine bA 1 hS isAgg34 sizeOf34 ?_|refine bA 3 hS isAgg37 sizeOf37 ?_|refine cI hS fun bl fX hS=>?_)
 have xB:=yX.at hS aG;have aQ:=hFo.at hS aG;have vD:=hS.aNh 4 rfl;have bR:=(bB.step hS av aG).add (hS.aJ2 av 3 rfl);have uV:aP _ (fun k=>S1 k∨k=bl):=bR.yj hL;refine bodyPost_ret (results_tmp2 rfl _ _ _) rfl ?_;exact⟨⟨bl,(a1,n1,c1),(a2,n2,c2),(a3,n3,c3),(a4,n4,c4),(s1,k1,l1),(s2,k2,l2),(s3,k3,l3),(s4,k4,l4),(s5,k5,l5)⟩,rfl,fun k=>S1 k∨k=bl,bR,uV,⟨vD.weaken fun k hk=>.inr hk,xB.wk (fun k hk=>.inl hk) uV,aQ.wk fun k hk=>.inl hk⟩⟩
theorem aQG {A B:List (List Nat)} (hl:A.length=B.length) (h:∀ i,i<A.length→nth [] A i=nth [] B i):A=B:=by
 apply List.ext_getElem hl;intro i h1 h2;have:=h i h1
 rwa [bS _ _ _ h1,bS _ _ _ h2] at this
theorem Below.mS {w w':World} (h:Below (Hp.nd w).heap.size (Hp.nd w) w'):Below w.heap.size w w':=⟨h.os,h.tape,h.output,h.size,h.block⟩
theorem aA.gZ {w0 w wr:World} {F:Nat→Prop} {H:List Chunk} (hS:aA w0 w (.aH F wr::H)) (hO:∀ k,Old w0 k→F k) (hb:Below w0.heap.size w0 wr):Below w0.heap.size w0 w :=
 ⟨hS.os,hS.tape,hS.output,hS.size,fun k hk=>(hS.da hO k hk).trans (hb.block k hk)⟩
theorem bN.k8 {w w':World} {S:Nat→Prop} {k n:Nat} {v:Value} {cs:List Value} (h:bN w S k v n cs) (hL:aP w S) (hb:Below w.heap.size w w'):bN w' S k v n cs:=h.move fun k hk=>hb.block k (hL k hk)
theorem tZ.bd' {m n:Nat} {fB:Nat→Nat} {fh:Nat→Bool} {f:iL} (h:tZ m n fB fh f) (hm:m≤30000) (hn:n≤65536):FBd f:=by
 have h1:=h.aFC;have h2:=h.a2I;have h3:=h.aAy;have h4:=h.vA;have h5:=h.vY;exact⟨by omega,by omega,by omega,by omega,by omega,fun i hi=>by have:=h.aQq (i:=i) (by omega);omega,fun i hi=>by have:=h.aRc (i:=i) (by omega);omega⟩
def nZ (V:List Pt) (es:List Ed) (RL:List (List Nat)):iL:=(jR V es RL (fun v=>nR es (nth [] RL v))).fr
structure o4 (V:List Pt) (es:List Ed) (RL:List (List Nat)):Prop where
 len:RL.length=V.length
 jo:∀ v,v<V.length→nU es v (nth [] RL v)
theorem o4.unique {os:List Sz} {gs:List Gp} {V:List Pt} {es:List Ed} {A B:List (List Nat)} (hP:eu os gs V es) (mb:∀ t ∈ os,t.a≠t.b) (hA:o4 V es A) (hB:o4 V es B):A=B :=
 aQG (by rw [hA.len,hB.len]) fun i hi=>nU.unique hP mb (hA.jo i (by rw [← hA.len];exact hi)) (hB.jo i (by rw [← hA.len];exact hi))
theorem a99 {os:List Sz} {gs:List Gp} {V:List Pt} {es:List Ed} {RL:List (List Nat)} (hP:eu os gs V es) (bJ:∀ e ∈ es,e.a≠e.b) (bV:∀ e ∈ es,e.a<V.length∧e.b<V.length) (hR:o4 V es RL):tZ es.length V.length (iA es) (jR V es RL (fun v=>nR es (nth [] RL v))).fh (nZ V es RL):=by
 have lG:=aKS (out:=fun v=>nR es (nth [] RL v)) hP.arr.sv bV (zA.of bJ hR.len hR.jo) (fun v _ h=>aIv h);exact lG.a1N
structure Fits (os:List Sz) (gs:List Gp):Prop where
 ok:∀ t ∈ os,t.ok
 gk:∀ g ∈ gs,g.ok
 lo:os.length≤512
 lg:gs.length≤256
 B:gs.length+os.length*(2+2*os.length+gs.length)≤65536
 V:∀ V:List Pt,V.Pairwise Pt.lt→(∀ x ∈ V,mB (os.map Sz.sg) (gs.map Gp.pt) x)→V.length≤4096
 E:∀ V es,eu os gs V es→es.length≤30000
theorem Fits.one {os:List Sz} {gs:List Gp} (h:Fits os gs):∀ t ∈ os,t.a≠t.b:=fun t ht=>(h.ok t ht).2.2
theorem aHM (os:List Sz) (gs:List Gp) (ao ap:Option Addr) (no co np cp:Nat) (w:World) (S:Nat→Prop) (hL:aP w S) (hf:Fits os gs) (hv:bN w S 4 (.slice ao no co) os.length (os.flatMap sc)) (hg:bN w S 2 (.slice ap np cp) gs.length (gs.flatMap gc)) :
 Calls prog 57 #[.agg #[.slice ao no co,.slice ap np cp]] w fun e w'=>∃ (L:rQ) (g1 g2 g3 g4 r1 r2 r3 r4 r5:Option Addr × Nat × Nat) (rs:List ER) (es:List Ed) (prs:List PR) (V:List Pt) (RL:List (List Nat)) (S':Nat→Prop),e=.returned (.tuple #[.agg #[sv g1,sv g2,sv g3,sv g4,sv r1,sv r2,sv r3,sv r4,sv r5,.func (.func 16) #[.pointer (some ⟨L.bl,0,none⟩)] #[]],.int .i64 0])∧Pure (nd w) S w' S'∧iX w' S' L rs es prs V 300 (nZ V es RL)∧kC w' S' g3.1 g4.1 g3.2.1 g3.2.2 g4.2.1 g4.2.2 rs es prs V 300∧jb w' S' r1 r2 r3 r4 r5 (nZ V es RL)∧eu os gs V es∧o4 V es RL:=by
 have mb:=hf.one;replace hf:=Hd hf;replace mb:=Hd mb;have hS:=aA.oI w;have dY:=tb w;have bD:=Pure.oI w S;have aC:=hL;have bC:=fun k (h:Old w k)=>h
 go_enter func57,ntmps57
 go_wp2_with (with_reducible first|refine cI hS fun b1 wb1 hS=>?_|refine bH hS zeroValue125 fun b2 ri hS=>?_|refine aU 1 hS isAgg23 ?_|refine aU 1 hS isAgg25 ?_)
 refine (aVB os gs ao ap no co np cp _ S (aP.at hS aC) hf.out.ok hf.out.gk (hv.move (hS.da aC)) (hg.move (hS.da aC)) hf.out.lo hf.out.lg hf.out.B (.inr hf.out.V)).mono ?_;rintro e w1 ⟨⟨a1,n1,c1⟩,⟨a2,n2,c2⟩,⟨a3,n3,c3⟩,⟨a4,n4,c4⟩,S1,V,es,rfl,hq,hA,hP⟩;obtain⟨rs,prs,hAI⟩:=hP.aM6 hf.out.ok hf.out.gk (hq.yj (aP.at hS aC)) hA;obtain⟨qS,bJ⟩:=eu.aEf hP hf.out.ok;have bV:=hAI.ab;have hV:=hP.arr.sv;have aVG:V.length≤4096:=hf.out.V V hV (fun x hx=>(hP.arr.mv x).1 hx);have aVJ:es.length≤30000:=hf.out.E V es hP;clear hA hv hg;replace hS:=hS.aj aC bC bD hq;obtain⟨F1,aG,-,bB,av,hS⟩:=hS;simp only [sv];replace hP:=Hd hP;replace qS:=Hd qS;replace bJ:=Hd bJ;replace hV:=Hd hV;replace bV:=Hd bV
 go_wp2_with (with_reducible first|refine bH hS zeroValue34 fun b4 zS hS=>?_|refine aJ 3 hS sizeOf34 fun _ hS=>?_|refine bA 3 hS isAgg34 sizeOf34 ?_)
 refine (aGL a1 a2 a3 a4 n1 c1 n2 c2 n3 c3 n4 c4 rs es prs V 300 _ S1 (hAI.at hS aG) (by decide) qS.out bJ.out hV.out (by omega) (by omega)).mono ?_;rintro e w2 ⟨RL,⟨s1,k1,l1⟩,⟨s2,k2,l2⟩,⟨s3,k3,l3⟩,⟨s4,k4,l4⟩,⟨s5,k5,l5⟩,S2,rfl,sa,rH,aR,hL2,rD⟩;have hR:o4 V es RL:=⟨sa,rH⟩;replace rD:jb w2 S2 (s1,k1,l1) (s2,k2,l2) (s3,k3,l3) (s4,k4,l4) (s5,k5,l5) (nZ V es RL):=rD;have hgd:=a99 hP.out bJ.out bV.out hR;have tu:=hgd.bd' (by omega) (by omega);have xB:=((hAI.at hS aG).k8 aR.pf).wk aR.sub hL2;obtain⟨F2,aQ,jV,cK⟩:=hS.wV dY aG aR;have bR:=(bB.step hS av aG).aE4 dY aR;have bP:=fun k h=>jV k (av k h)
 clear hS jV aR hAI sa rH hgd;have hS:=cK;clear cK;replace hR:=Hd hR;replace tu:=Hd tu
 have hfu:∀ RL':List (List Nat),RL'.length=V.length→(∀ v,v<V.length→nU es v (nth [] RL' v))→(jR V es RL' (fun v=>nR es (nth [] RL' v))).fr=nZ V es RL:=fun RL' h1 h2=>by
  rw [o4.unique hP.out mb.out ⟨h1,h2⟩ hR.out];rfl
 replace hfu:=Hd hfu;simp only [sv]
 go_wp2_with (with_reducible first|refine bH hS zeroValue37 fun b6 xz hS=>?_|refine aJ 4 hS sizeOf37 fun _ hS=>?_|refine bA 3 hS isAgg34 sizeOf34 ?_|refine bA 4 hS isAgg37 sizeOf37 ?_)
 refine (aVk a1 a2 a3 a4 n1 c1 n2 c2 n3 c3 n4 c4 (s1,k1,l1) (s2,k2,l2) (s3,k3,l3) (s4,k4,l4) (s5,k5,l5) rs es prs V 300 (nZ V es RL) _ S2 (xB.at hS aQ) (rD.at hS aQ) hfu.out tu.out (by decide) qS.out bJ.out hV.out (by omega) (by omega)).mono ?_;rintro e w3 ⟨L,S3,rfl,bI,hL3,a1G⟩;have aTt:=(((rD.at hS aQ).k8 (aP.at hS aQ) bI.pf)).wk bI.sub;have hA3:=((xB.at hS aQ).k8 bI.pf).wk bI.sub hL3;obtain⟨F3,bM,nQ,yo⟩:=hS.wV dY aQ bI;have dP:=(bR.step hS bP aQ).aE4 dY bI;have dE:=fun k h=>nQ k (bP k h)
 clear hS nQ bI rD xB;have hS:=yo;clear yo;simp only []
 go_wp2_with (with_reducible first|refine bA 3 hS isAgg34 sizeOf34 ?_|refine bA 4 hS isAgg37 sizeOf37 ?_|refine aJ 2 hS sizeOf125 fun _ hS=>?_)
 exact jJ 2 hS rfl rfl rfl isAgg125 sizeOf125 rfl rfl ⟨L,(a1,n1,c1),(a2,n2,c2),(a3,n3,c3),(a4,n4,c4),(s1,k1,l1),(s2,k2,l2),(s3,k3,l3),(s4,k4,l4),(s5,k5,l5),rs,es,prs,V,RL,S3,rfl,dP.step hS dE bM,a1G.at hS bM,hA3.at hS bM,aTt.at hS bM,hP.out,hR.out⟩
def Gp.uD (d:Gp):Gp:=⟨-d.y,d.x⟩
theorem Gp.aLX {d:Gp} (h:d.dir):d.uD.dir:=by
 unfold Gp.dir at h;unfold Gp.uD Gp.dir;simp only;omega
theorem aPp (a b:Int):Rat.divInt a b=(a:Rat) / (b:Rat):=Rat.divInt_eq_div a b
theorem aTS (L:rQ) (rs:List ER) (es:List Ed) (prs:List PR) (V:List Pt) (k:Nat) (f:iL) (e:Nat) (x:FR) (q:Rat) (j:Nat) (w:World) (S:Nat→Prop) (h:iX w S L rs es prs V k f) (he:e<es.length) (hx:eN w S x q) (hj:Bq j q) (hd:(nth ah es e).dir.dir) (h0:(nth ah es e).dir.x≠0) (hb:2*k+j+40≤16384) (gO:V.length≤1000000) (pw:es.length≤1000000) :
 Calls prog 51 #[.pointer (some ⟨L.bl,0,none⟩),.int .i64 (e:Int),.agg #[.bool x.num.neg,.slice x.num.ad x.num.n x.num.cap,.bool x.less.neg,.slice x.less.ad x.less.n x.less.cap]] w (yb w S (iK V es e q)):=by
 have hL:=h.arr.live;have hEn:=fun w' h=>aCu L rs es prs V k f e w' S h he gO pw
 obtain⟨fv,fM⟩:=h.arr.ab _ (cQ ah es e he);have pa:dh w S (nth dT prs (nth ah es e).a) (nth au V (nth ah es e).a):=h.arr.hV.ps.el _ fv;have wC:=h.arr.bq _ (cQ au V _ fv);have hE:=h.arr.jf.el e he;have dF:=eS sU jk (show e<rs.length by rw [h.arr.jf.len];omega);have dw:iK V es e q=(nth au V (nth ah es e).a).y+(q - (nth au V (nth ah es e).a).x)*Rat.divInt (nth ah es e).dir.y (nth ah es e).dir.x:=by rw [aPp];rfl
 rw [dw];clear dw;obtain⟨r,hr⟩:∃ r,nth jk rs e=r:=⟨_,rfl⟩;rw [hr] at dF hE;rw [← hE.dir] at hd h0 ⊢;have kz:=hd;unfold Gp.dir at kz;have i1:bQ r.dir.y:=by unfold bQ;omega
 have i2:bQ r.dir.x:=by unfold bQ;omega
 have b1:Bq 33 (Rat.divInt r.dir.y r.dir.x):=by
  have bJ:r.dir.x≠0:=h0
  have key:∀ (a b:Int),b≠0→a.natAbs<2 ^ 33→b.natAbs<2 ^ 33→Bq 33 (Rat.divInt a b):=by
   intro a b hb ha iD
   rcases Int.lt_or_lt_of_ne hb with h|h
   ·have e1:Rat.divInt a b=Rat.divInt (-a) (-b):=(Rat.neg_divInt_neg a b).symm
    rw [e1];obtain⟨p1,p2⟩:=a5i (a:=-a) (b:=-b) (by omega);refine⟨by rw [p1];exact tk _ (by simpa using ha),?_⟩;have:((Rat.divInt (-a) (-b)).den:Int).natAbs<2 ^ 33:=by rw [p2];exact tk _ (by simpa using iD)
    simpa using this
   ·obtain⟨p1,p2⟩:=a5i (a:=a) (b:=b) h
    refine⟨by rw [p1];exact tk _ ha,?_⟩;have:((Rat.divInt a b).den:Int).natAbs<2 ^ 33:=by rw [p2];exact tk _ iD
    simpa using this
  exact key _ _ bJ (by omega) (by omega)
 replace dF:((rs.flatMap ec).drop (e*5)).take 5=[.int .i64 (r.a:Int),.int .i64 (r.b:Int),.slice r.ad r.n r.c,.int .i64 r.dir.x,.int .i64 r.dir.y]:=dF;obtain⟨A1,e1⟩:∃ q,nth dT prs (nth ah es e).a=q:=⟨_,rfl⟩;obtain⟨B1,e2⟩:∃ q,nth dT prs (nth ah es e).b=q:=⟨_,rfl⟩;obtain⟨a,e3⟩:∃ q,nth au V (nth ah es e).a=q:=⟨_,rfl⟩;simp only [e1,e2,e3] at hEn pa wC ⊢;have oG:=pa.x;have rI:=pa.y;clear e1 e2 e3 fv fM hr hE hd kz pa;obtain⟨s,hs⟩:∃ s,Rat.divInt r.dir.y r.dir.x=s:=⟨_,rfl⟩;have co:=fun w' S' eM=>aBs r.dir.y r.dir.x w' S' i1 i2 eM h0
 rw [hs] at co b1 ⊢;clear hs i1 i2;obtain⟨hS,aC,bC,bD⟩:=eR hL
 go_enter func51,ntmps51
 go_wp2_with (with_reducible first|refine cI hS fun bx cu hS=>?_|refine bH hS zeroValue54 fun b6 xz hS=>?_)
 refine (hEn _ (h.at hS aC)).mono ?_;rintro e' w' ⟨rfl,az⟩;have hx:=(hx.at hS aC).grow az;have oG:=(oG.at hS aC).grow az;have rI:=(rI.at hS aC).grow az;have h:=(h.at hS aC).grow az;replace hS:=hS.aj aC bC bD az;obtain⟨F1,aG,-,bB,av,hS⟩:=hS;have hc:=h.cell.weaken aG;have bh:=h.arr.hE.weaken aG;simp only []
 go_wp2_with (with_reducible first|refine bH hS zeroValue56 fun b9 xX hS=>?_|refine aJ 4 hS sizeOf56 fun _ hS=>?_|refine aJ 5 hS sizeOf56 fun _ hS=>?_)
 refine kQ 1 [.p 0,.p 1,.p 2,.p 3,.r 4,.p 5,.p 6,.p 7,.p 8,.r 9,.p 10,.p 11,.p 12,.p 13,.r 14,.p 15,.p 16,.p 17,.p 18,.r 19,.e 20,.p 21,.p 22,.p 23] [.e 25,.p 26] [] [eU 24 11 54 (.agg #[.bool false,.slice none 0 0,.bool false,.slice none 0 0])] w _ (by kernel_rfl) (by kernel_rfl) (o8 rfl zeroValue54) hS.drew ?_;obtain⟨aI,aT⟩:=hS.jw
 repeat (first|((with_reducible refine tg ?_);refine qF rfl rfl (gu (T:=32) 3 isAgg32 rfl hc (by simp) rfl ?_);simp only [aD])|((with_reducible refine zu ?_);refine zn rfl rfl (lI (T:=32) underlying32 sizeOf101 rfl rfl bh (by omega) (by omega) (by omega) (fun bq oq bO=>?_));simp only [Int.toNat_natCast] at bO;rw [dF] at bO;simp only [aD])|((with_reducible refine tg ?_);refine qF rfl rfl (gu (T:=3) 4 isAgg3 rfl (by with_reducible assumption) (by simp) rfl ?_);simp only [aD])|((with_reducible refine tg ?_);refine qF rfl rfl (gu (T:=3) 3 isAgg3 rfl (by with_reducible assumption) (by simp) rfl ?_);simp only [aD])|(with_reducible refine lF ?_))
 refine eI rfl (fun B wB hS=>?_);simp only [aK] at hS
 go_wp2_with (fail)
 refine (co _ S (aP.at hS aG)).mono ?_;rintro e w' ⟨z,S2,rfl,aR,hz⟩;simp only [iW];go_step;have hx:=(hx.at hS aG).grow aR;have oG:=(oG.at hS aG).grow aR;have rI:=(rI.at hS aG).grow aR;have aT:=aA.fC hS aR.below aI aT;replace hS:=hS.aj aG av bB aR;obtain⟨F2,aQ,jV,bR,bP,hS⟩:=hS;have aI:=dZ.trans aI jV;refine eH (H:=_) hS aI aT ?_;refine dz ?_;refine mq (fun b11 wB hS=>?_);simp only [aK] at hS;simp only [aD];refine aZ ?_
 (with_reducible refine aJ 6 hS sizeOf54 fun _ hS=>?_)
 refine aX (aA.gA hS.sb aI aT) ?_;refine aM ?_;refine bE ?_;clear aI aT
 go_wp2_with (with_reducible first|refine bA 1 hS isAgg54 sizeOf54 ?_|refine eW 4 hS isAgg54 sizeOf54 ?_)
 refine (zi x A1.x q a.x j k _ S2 (hx.at hS aQ) (oG.at hS aQ) (aP.at hS aQ) hj wC.1 (by omega)).mono ?_;rintro e' w' ⟨u,S3,rfl,bI,hu⟩;have hz:=(hz.at hS aQ).grow bI;have rI:=(rI.at hS aQ).grow bI;replace hS:=hS.aj aQ bP bR bI;obtain⟨F3,bM,-,dP,dE,hS⟩:=hS;simp only [iW]
 go_wp2_with (with_reducible first|refine bH hS zeroValue54 fun xY a62 hS=>?_|refine aJ 7 hS sizeOf54 fun _ hS=>?_|refine bA 7 hS isAgg54 sizeOf54 ?_|refine bA 6 hS isAgg54 sizeOf54 ?_)
 refine (a1A u z _ _ (j+k+1) 33 _ S3 (hu.at hS bM) (hz.at hS bM) (aP.at hS bM) (hj.sub wC.1) b1 (by omega)).mono ?_;rintro e' w' ⟨v,S4,rfl,cY,hv⟩;have rI:=(rI.at hS bM).grow cY;replace hS:=hS.aj bM dE dP cY;obtain⟨F4,bZ,-,gN,gG,hS⟩:=hS;simp only [iW]
 go_wp2_with (with_reducible first|refine aJ 7 hS sizeOf54 fun _ hS=>?_|refine bA 7 hS isAgg54 sizeOf54 ?_|refine eW 4 hS isAgg54 sizeOf54 ?_)
 refine (aAw A1.y v _ _ k (j+k+1+33) _ S4 (rI.at hS bZ) (hv.at hS bZ) (aP.at hS bZ) wC.2 ((hj.sub wC.1).mul b1) (by omega)).mono ?_;rintro e' w' ⟨y,S5,rfl,gh,hy⟩;replace hS:=hS.aj bZ gG gN gh;obtain⟨F5,cG,-,gR,ff,hS⟩:=hS;simp only [iW]
 go_wp2_with (with_reducible refine aJ 2 hS sizeOf54 fun _ hS=>?_)
 exact jJ 2 hS rfl rfl rfl isAgg54 sizeOf54 rfl rfl ⟨y,S5,rfl,gR.step hS ff cG,hy.at hS cG⟩
theorem aRs (e:Nat) (y:FR) (bb bt b2:Nat) (w:World) (S:Nat→Prop) (hb:dM w (Old w) ⟨bb,0,none⟩ [.int .i64 (-1)]) :
 Calls prog 45 #[.int .i64 (e:Int),.agg #[.bool y.num.neg,.slice y.num.ad y.num.n y.num.cap,.bool y.less.neg,.slice y.less.ad y.less.n y.less.cap],.pointer (some ⟨bb,0,none⟩),.pointer (some ⟨bt,0,none⟩),.pointer (some ⟨b2,0,none⟩)] w fun en w'=>en=.returned (.bool true)∧Pure w S w' S:=by
 have hS:=aA.start w
 go_enter func45,ntmps45
 go_wp2_with (first|(with_reducible refine cI hS fun bx cu hS=>?_)|((with_reducible refine dq (T:=3) ?_);refine dI hS rfl (gu (T:=3) 0 isAgg3 rfl hb (by simp) rfl ?_);simp only [aD]))
 go_ret;exact⟨rfl,hS.pure S⟩
theorem aTw (L:rQ) (rs:List ER) (es:List Ed) (prs:List PR) (V:List Pt) (k:Nat) (f:iL) (e b:Nat) (y t:FR) (yq tq:Rat) (bb bt b2:Nat) (w:World) (S:Nat→Prop) (h:iX w S L rs es prs V k f) (he:e<es.length) (oB:b<es.length) (hy:eN w S y yq) (ht:eN w S t tq) (hd:∀ e ∈ es,e.dir.dir) (pw:es.length≤1000000) (hb:dM w (Old w) ⟨bb,0,none⟩ [.int .i64 (b:Int)]) (hbt:dM w (Old w) ⟨bt,0,none⟩ [.bool t.num.neg,.slice t.num.ad t.num.n t.num.cap,.bool t.less.neg,.slice t.less.ad t.less.n t.less.cap]) (iD:dM w (Old w) ⟨b2,0,none⟩ [.pointer (some ⟨L.bl,0,none⟩)]) :
 Calls prog 45 #[.int .i64 (e:Int),.agg #[.bool y.num.neg,.slice y.num.ad y.num.n y.num.cap,.bool y.less.neg,.slice y.less.ad y.less.n y.less.cap],.pointer (some ⟨bb,0,none⟩),.pointer (some ⟨bt,0,none⟩),.pointer (some ⟨b2,0,none⟩)] w fun en w'=>en=.returned (.bool (if yq=tq then decide (0<jW (nth ah es e).dir.uD (nth ah es b).dir.uD) else decide (tq<yq)))∧Pure w S w' S:=by
 have hL:=h.arr.live;have bh:=h.arr.hE.bj;have hc:=h.cell.bj hL;have hE:=h.arr.jf.el e he;have hB:=h.arr.jf.el b oB;have dF:=eS sU jk (show e<rs.length by rw [h.arr.jf.len];omega);have vD:=eS sU jk (show b<rs.length by rw [h.arr.jf.len];omega);have qC:=hd _ (cQ ah es e he);have hdb:=hd _ (cQ ah es b oB);obtain⟨r,hr⟩:∃ r,nth jk rs e=r:=⟨_,rfl⟩;obtain⟨q,hq⟩:∃ r,nth jk rs b=r:=⟨_,rfl⟩;rw [hr] at dF hE;rw [hq] at vD hB;rw [← hE.dir] at qC ⊢;rw [← hB.dir] at hdb ⊢;replace dF:((rs.flatMap ec).drop (e*5)).take 5=[.int .i64 (r.a:Int),.int .i64 (r.b:Int),.slice r.ad r.n r.c,.int .i64 r.dir.x,.int .i64 r.dir.y]:=dF;replace vD:((rs.flatMap ec).drop (b*5)).take 5=[.int .i64 (q.a:Int),.int .i64 (q.b:Int),.slice q.ad q.n q.c,.int .i64 q.dir.x,.int .i64 q.dir.y]:=vD;clear hE hB hr hq hd h;have r1:=Gp.aLX qC;have r2:=Gp.aLX hdb;have w1:IntKind.i64.wrap (-r.dir.y) = -r.dir.y:=by unfold Gp.dir at qC;exact w6
 have w2:IntKind.i64.wrap (-q.dir.y) = -q.dir.y:=by unfold Gp.dir at hdb;exact w6
 have ct:=fun w' S' eM=>aLJ r.dir.uD q.dir.uD w' S' eM r1 r2
 have mA:=@a6m yq tq;have hg1:=@aFA yq tq;have qK:e8 yq tq > 0↔tq<yq:=by unfold e8;split <;> (try split) <;> grind
 have cq:=fun w' S' p1 p2 eM=>vM y t yq tq w' S' p1 p2 eM
 obtain⟨c,iq⟩:∃ c,e8 yq tq=c:=⟨_,rfl⟩;obtain⟨T,hT⟩:∃ T,jW r.dir.uD q.dir.uD=T:=⟨_,rfl⟩;rw [hT] at ct ⊢;simp only [iq] at cq mA hg1 qK;clear iq hT qC hdb r1 r2 hg1;have aEe:decide ((b:Int)<0)=false:=by simp
 obtain⟨hS,aC,bC,bD⟩:=eR hL
 by_cases hz:c=0
 ·subst hz
  rw [if_pos (mA.1 rfl)];clear mA qK
  go_enter func45,ntmps45
  go_wp2_with (first|(with_reducible refine cI hS fun bx cu hS=>?_)|((with_reducible refine dq (T:=3) ?_);refine dI hS rfl (gu (T:=3) 0 isAgg3 rfl hb (by simp) rfl ?_);simp only [aD])|(with_reducible first|refine bA 1 hS isAgg54 sizeOf54 ?_|refine j9 hS isAgg54 sizeOf54 ?_))
  refine (cq _ S (hy.at hS aC) (ht.at hS aC) (aP.at hS aC)).mono ?_;rintro e' w' ⟨rfl,az⟩;have hS:=hS.below az.below az.drawn;simp only [];go_wp2;refine kQ 1 [.r 0,.p 1,.p 2,.p 3,.r 4,.p 5,.p 6,.p 7,.r 8,.r 9,.p 10,.p 11,.p 12,.r 13,.r 14,.p 15,.p 16,.r 17] [.e 20,.e 21] [] [eU 18 9 29 (.agg #[.int .i64 0,.int .i64 0]),eU 19 10 29 (.agg #[.int .i64 0,.int .i64 0])] w _ (by kernel_rfl) (by kernel_rfl) (a0n rfl zeroValue29 rfl zeroValue29 (by decide) (by decide)) hS.drew ?_;obtain⟨aI,aT⟩:=hS.jw
  repeat (first|((with_reducible refine tg ?_);refine qF rfl rfl (gu (T:=38) 0 isAgg38 rfl iD (by simp) rfl ?_);simp only [aD])|((with_reducible refine tg ?_);refine qF rfl rfl (gu (T:=32) 3 isAgg32 rfl hc (by simp) rfl ?_);simp only [aD])|(((with_reducible refine zu ?_);refine zn rfl rfl (lI (T:=32) underlying32 sizeOf101 rfl rfl bh (by omega) (by omega) (by omega) (fun bq oq bO=>?_));simp only [Int.toNat_natCast] at bO;rw [dF] at bO;simp only [aD]);replace bO:dM _ _ ⟨bq,oq+3,none⟩ [.int .i64 r.dir.x,.int .i64 r.dir.y]:=bO.part 3 2)|(((with_reducible refine zu ?_);refine zn rfl rfl (lI (T:=32) underlying32 sizeOf101 rfl rfl bh (by omega) (by omega) (by omega) (fun bq oq bO=>?_));simp only [Int.toNat_natCast] at bO;rw [vD] at bO;simp only [aD]);replace bO:dM _ _ ⟨bq,oq+3,none⟩ [.int .i64 q.dir.x,.int .i64 q.dir.y]:=bO.part 3 2)|((with_reducible refine tg ?_);refine qF rfl rfl (a9E (T:=29) isAgg29 sizeOf29 rfl (by with_reducible assumption) (by simp) rfl ?_);simp only [aD])|((with_reducible refine tg ?_);refine qF rfl rfl (gu (T:=3) 0 isAgg3 rfl hb (by simp) rfl ?_);simp only [aD])|(with_reducible refine lF ?_))
  refine a0H (fun b9 fo wB hS=>?_);simp only [aK] at hS;simp only [aD];refine aZ ?_
  (with_reducible refine aJ 2 hS sizeOf29 fun _ hS=>?_)
  refine aX (aA.gA hS.sb aI aT) ?_;refine aM ?_;refine aZ ?_
  (with_reducible refine aJ 3 hS sizeOf29 fun _ hS=>?_)
  refine aX (aA.gA hS.sb aI aT) ?_;refine aM ?_;refine bE ?_;clear aI aT dF vD
  go_wp2_with (with_reducible first|refine aU 2 hS isAgg3 ?_|refine aU 3 hS isAgg3 ?_)
  refine (ct _ S (aP.at hS aC)).mono ?_;rintro e' w' ⟨rfl,aR⟩;replace hS:=hS.aj aC bC bD aR;obtain⟨F1,aG,-,bB,av,hS⟩:=hS;simp only [];go_wp2;go_ret;exact⟨rfl,bB.step hS av aG⟩
 ·rw [if_neg (fun e=>hz (mA.2 e))]
  have hR:decide (tq<yq)=decide (0<c):=by simp only [← qK]
  rw [hR];have hzf:(c != 0)=true:=by simpa using hz
  clear mA qK hR hz
  go_enter func45,ntmps45
  go_wp2_with (first|(with_reducible refine cI hS fun bx cu hS=>?_)|((with_reducible refine dq (T:=3) ?_);refine dI hS rfl (gu (T:=3) 0 isAgg3 rfl hb (by simp) rfl ?_);simp only [aD])|(with_reducible first|refine bA 1 hS isAgg54 sizeOf54 ?_|refine j9 hS isAgg54 sizeOf54 ?_))
  refine (cq _ S (hy.at hS aC) (ht.at hS aC) (aP.at hS aC)).mono ?_;rintro e' w' ⟨rfl,az⟩;replace hS:=hS.aj aC bC bD az;obtain⟨F1,aG,-,bB,av,hS⟩:=hS;simp only [];go_wp2;go_ret;exact⟨rfl,bB.step hS av aG⟩
def ke (V:List Pt) (p:Pt):Option Nat:=(List.range V.length).find? fun v=>decide (nth au V v=p)
theorem aDD {V:List Pt} {p:Pt} (h:∀ v,v<V.length→nth au V v≠p):ke V p=none:=by
 unfold ke;rw [List.find?_eq_none];intro v hv
 simpa using h v (List.mem_range.1 hv)
theorem aNT {V:List Pt} {p:Pt} {v:Nat} (h:ke V p=some v):v<V.length∧nth au V v=p:=by
 unfold ke at h;exact⟨List.mem_range.1 (List.mem_of_find?_eq_some h),by simpa using List.find?_some h⟩
theorem aOE {V:List Pt} (hV:V.Pairwise Pt.lt) {u v:Nat} (hu:u<V.length) (hv:v<V.length) (h:nth au V u=nth au V v):u=v:=by
 rcases Nat.lt_trichotomy u v with aW|aW|aW
 ·have h1:=List.pairwise_iff_getElem.1 hV u v hu hv aW
  rw [← bS au V u hu,← bS au V v hv,h] at h1;exact absurd h1 (Pt.lt_irrefl _)
 ·exact aW
 ·have h1:=List.pairwise_iff_getElem.1 hV v u hv hu aW
  rw [← bS au V u hu,← bS au V v hv,h] at h1;exact absurd h1 (Pt.lt_irrefl _)
theorem aON {V:List Pt} (hV:V.Pairwise Pt.lt) {p:Pt} {v:Nat} (hv:v<V.length) (h:nth au V v=p):ke V p=some v:=by
 cases hq:ke V p with
 | none =>
  exfalso
  unfold ke at hq;have:=List.find?_eq_none.1 hq v (List.mem_range.2 hv);simp [h] at this
 | some u =>
  obtain⟨h1,h2⟩:=aNT hq;rw [aOE hV h1 hv (h2.trans h.symm)]
theorem vw.none {V:List Pt} {p:Pt} {i:Nat} (hs:vw V p i) (h:¬ (i<V.length∧nth au V i=p)) (hV:V.Pairwise Pt.lt):ke V p=none:=by
 refine aDD fun v hv e=>h ?_
 obtain⟨h1,h2,h3⟩:=hs
 have hiv:i≤v:=by
  rcases Nat.lt_or_ge v i with aW|gB
  ·have:=h2 v aW
   rw [e] at this;exact absurd this (Pt.lt_irrefl _)
  ·exact gB
 rcases Nat.lt_or_ge i v with aW|gB
 ·have h4:=List.pairwise_iff_getElem.1 hV i v (by omega) hv aW
  rw [← bS au V i (by omega),← bS au V v hv,e] at h4;exact absurd h4 (h3 i (Nat.le_refl _) (by omega))
 ·obtain rfl:i=v:=by omega
  exact⟨hv,e⟩
def jC (V:List Pt) (es:List Ed) (p:Pt):Nat→Option Nat
 | 0=>none
 | e+1=>match jC V es p e with
  | some x=>some x
  | none=>if ph (nth au V (nth ah es e).a) (nth au V (nth ah es e).b) p=true then some e else none
theorem aOL {V:List Pt} {es:List Ed} {p:Pt} {e:Nat} (h:jC V es p e=none) (hb:ph (nth au V (nth ah es e).a) (nth au V (nth ah es e).b) p=false):jC V es p (e+1)=none:=by
 unfold jC;rw [h];simp [hb]
theorem aLk {V:List Pt} {es:List Ed} {p:Pt} {e:Nat} (h:jC V es p e=none) (hb:ph (nth au V (nth ah es e).a) (nth au V (nth ah es e).b) p=true):∀ k,jC V es p (e+1+k)=some e
 | 0=>by show jC V es p (e+1)=some e;unfold jC;rw [h];simp [hb]
 | k+1=>by
  have ih:=aLk h hb k;show jC V es p (e+1+k+1)=some e;unfold jC;rw [ih]
theorem a7d {V:List Pt} {es:List Ed} {p:Pt}:∀ k e,jC V es p k=some e→e<k∧ph (nth au V (nth ah es e).a) (nth au V (nth ah es e).b) p=true
 | 0,e,h=>by cases h
 | k+1,e,h=>by
  unfold jC at h;cases hk:jC V es p k with
  | some x =>
   rw [hk] at h;cases h;obtain⟨h1,h2⟩:=a7d k e hk;exact⟨by omega,h2⟩
  | none =>
   rw [hk] at h;simp only at h
   split at h
   ·rename_i hb
    cases h;exact⟨by omega,hb⟩
   ·cases h
theorem aRF (V:List Pt) (es:List Ed) (p:Pt) (e:Nat):iO V es p (e+1)=if (sr V es e p.x && decide (iK V es e p.x<p.y) && yG V es p (iO V es p e) e)=true then some e else iO V es p e:=rfl
def jS (V:List Pt) (es:List Ed) (Lf:List Int) (p:Pt):Int × Int :=
 match ke V p with
 | some v=>(0,(v:Int))
 | none=>match jC V es p es.length with
  | some e=>(1,(e:Int))
  | none=>match iO V es p es.length with
   | none=>(2,0)
   | some b=>(2,nth 0 Lf (2*b))
theorem aQr {V:List Pt} {es:List Ed} {Lf:List Int} {p:Pt} {v:Nat} (h:ke V p=some v):jS V es Lf p=(0,(v:Int)):=by unfold jS;rw [h]
theorem a7G {V:List Pt} {es:List Ed} {Lf:List Int} {p:Pt} {e:Nat} (h:ke V p=none) (h1:jC V es p es.length=some e):jS V es Lf p=(1,(e:Int)):=by unfold jS;rw [h,h1]
theorem aEY {V:List Pt} {es:List Ed} {Lf:List Int} {p:Pt} (h:ke V p=none) (h1:jC V es p es.length=none) (h2:iO V es p es.length=none):jS V es Lf p=(2,0):=by unfold jS;rw [h,h1,h2]
theorem aD1 {V:List Pt} {es:List Ed} {Lf:List Int} {p:Pt} {b:Nat} (h:ke V p=none) (h1:jC V es p es.length=none) (h2:iO V es p es.length=some b):jS V es Lf p=(2,nth 0 Lf (2*b)):=by unfold jS;rw [h,h1,h2]
section
variable (m:cV) {V:List Pt} {es:List Ed} (bV:∀ e ∈ es,e.a<V.length∧e.b<V.length)
 include bV
end
end Go.Hp
