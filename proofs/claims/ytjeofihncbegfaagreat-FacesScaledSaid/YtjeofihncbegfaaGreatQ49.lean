/- Of WU WV WE. -/
import Derived.Test.YtjeofihncbegfaaGreatQ48
set_option maxRecDepth 100000
set_option maxHeartbeats 16000000
set_option linter.unusedVariables false
set_option linter.unusedSimpArgs false
namespace Go.Hp
open Go.Proofs.Tryz
open Go Go.RowKit
def bv (xs:List Int):List Value:=xs.map (Value.int .u8)
theorem bv_length (xs:List Int):(bv xs).length=xs.length:=by simp [bv]
theorem bv_append (xs ys:List Int):bv (xs++ys)=bv xs++bv ys:=by simp [bv]
def encU:Nat→Nat→List Int
 | 0,n=>[(n:Int) % 256]
 | f+1,n=>if 128≤n then bits .or .u8 ((n:Int) % 256) 128::encU f (n / 128) else [(n:Int) % 256]
def zz (n:Int):Nat:=(bits .xor .u64 (IntKind.u64.wrap (IntKind.u64.wrap n*2)) (IntKind.u64.wrap (n / 9223372036854775808))).toNat
theorem bits_u64 (o:BinOp) (a b:Int):0≤bits o .u64 a b∧bits o .u64 a b<18446744073709551616:=by
 unfold bits;rw [IntKind.wrap_u64];omega
theorem zz_lt (n:Int):zz n<18446744073709551616:=by have:=bits_u64 .xor (IntKind.u64.wrap (IntKind.u64.wrap n*2)) (IntKind.u64.wrap (n / 9223372036854775808));unfold zz;omega
def wencI (n:Int):List Int:=encU 9 (zz n)
theorem encU_len:∀ f n,(encU f n).length≤f+1
 | 0,n=>by simp [encU]
 | f+1,n=>by
  have:=encU_len f (n / 128);unfold encU;split <;> simp <;> omega
def encTo (ls:List Int) (i:Nat):List Int:=encU 9 ls.length++(ls.take i).flatMap wencI
def encIs (ls:List Int):List Int:=encTo ls ls.length
theorem encTo_succ {ls:List Int} {i:Nat} (hi:i<ls.length):encTo ls (i+1)=encTo ls i++wencI (nth 0 ls i):=by
 simp [encTo,take_snoc 0 ls i hi]
theorem encTo_len {ls:List Int}:∀ i,i≤ls.length→(encTo ls i).length≤10*(i+1)
 | 0,_=>by have:=encU_len 9 ls.length;simp [encTo];omega
 | i+1,h=>by
  have h1:=encTo_len (ls:=ls) i (by omega);have h2:(wencI (nth 0 ls i)).length≤10:=encU_len 9 _;rw [encTo_succ (by omega),List.length_append];omega
end Go.Hp
namespace Go.Proofs
open Go.Proofs.Tryz
open Go.RowKit Go.Hp
theorem infoB:(Tryz.prog.info? 5).map (fun i=>(i.zero,i.size,i.bytes))=some (some (.int .u8 0),1,1):=by kernel_rfl
theorem wuint_any {w0 w:World} {H:List Chunk} (bw c:Nat) (ad:Option Addr) (xs:List Int) (n f:Nat) (hn:n<128 ^ (f+1)) (hf:f≤9) (hx:xs.length≤1000000000000) (hS:Heap w0 w (.blk bw (.cells #[.slice ad xs.length c] 144 (0,0))::.row (.slice ad xs.length c) 5 1 xs.length (bv xs)::H)) :
 Calls Tryz.prog 150 #[.pointer (some ⟨bw,0,none⟩),.int .u64 (n:Int)] w fun e w'=>e=.returned (.tuple #[])∧∃ (ad':Option Addr) (c':Nat),Heap w0 w' (.blk bw (.cells #[.slice ad' (xs++encU f n).length c'] 144 (0,0))::.row (.slice ad' (xs++encU f n).length c') 5 1 (xs++encU f n).length (bv (xs++encU f n))::H):=by
 go_enter func150,ntmps150
 go_wp2
 go_loopw [1] (fun v1 wr=>∃ (g k c2:Nat) (ad2:Option Addr) (ys:List Int),v1=.int .u64 (k:Int)∧k<128 ^ (g+1)∧g≤f∧ys.length≤1000000000000+(f - g)∧ys++encU g k=xs++encU f n∧Heap w0 wr (.blk bw (.cells #[.slice ad2 ys.length c2] 144 (0,0))::.row (.slice ad2 ys.length c2) 5 1 ys.length (bv ys)::H)) (fun v1 _=>(intOf v1).toNat)
 case atStart=>exact⟨f,n,c,ad,xs,rfl,hn,by omega,by omega,rfl,hS⟩
 case round =>
  clear hS;obtain⟨g,k,c2,ad2,ys,rfl,hk,hg,hy,he,hS⟩:=hrel
  by_cases h1:128≤k
  ·have d1:decide ((128:Int)≤(k:Int))=true:=by simp;omega
   obtain⟨g',rfl⟩:∃ g',g=g'+1:=⟨g - 1,by
    rcases Nat.eq_zero_or_pos g with h|h
    ·subst h;omega
    ·omega⟩
   have he2:(ys++[bits .or .u8 ((k:Int) % 256) 128])++encU g' (k / 128)=xs++encU f n:=by rw [← he];simp [encU,h1]
   have hk2:k / 128<128 ^ (g'+1):=by rw [Nat.pow_succ] at hk;exact (Nat.div_lt_iff_lt_mul (by decide)).2 hk
   have hl:(ys++[bits .or .u8 ((k:Int) % 256) 128]).length=ys.length+1:=by simp
   have hb:bv (ys++[bits .or .u8 ((k:Int) % 256) 128])=bv ys++[.int .u8 (bits .or .u8 ((k:Int) % 256) 128)]:=by simp [bv]
   replace he2:=Hd he2;replace hk2:=Hd hk2;replace hl:=Hd hl;replace hb:=Hd hb;clear hk he
   go_wp2_with (first|(with_reducible refine ldB 0 hS isAgg82 ?_)|((with_reducible refine g_bs (T:=82) ?_);refine seq_bs1 (T:=82) (v:=.int .u8 _) hS underlying82 sizeOf5 zeroValue5 rfl rfl rfl (by decide) (by decide) rfl (fun bq wbq hS=>?_);simp only [NRM];simp only [Value.cells] at hS)|((with_reducible refine g_app ?_);refine seq_append_lit (t:=82) 1 hS underlying82 infoB rfl (by decide) rfl rfl rfl rfl (by simp [Value.oneCell']) (by omega) (by unfold maxLen;omega) (fun ad3 c3 _ hS=>?_);simp only [NRM];simp only [NRH] at hS)|(with_reducible refine stA 0 hS sizeOf82 fun _ hS=>?_))
   go_roundw
   case rel=>exact⟨g',k / 128,c3,ad3,_,by simp,hk2.out,by omega,by rw [hl.out];omega,he2.out,by rw [hl.out,hb.out];exact hS.sb⟩
   case measure=>simp [intOf];omega
  ·have d1:decide ((128:Int)≤(k:Int))=false:=by simp;omega
   have h2:(k:Int) % 256=k:=by omega
   have he2:ys++[(k:Int)]=xs++encU f n:=by rw [← he];cases g <;> simp [encU,h1,h2]
   clear h2;have hl:(xs++encU f n).length=ys.length+1:=by rw [← he2];simp
   have hb:bv (xs++encU f n)=bv ys++[.int .u8 (k:Int)]:=by rw [← he2];simp [bv]
   replace hl:=Hd hl;replace hb:=Hd hb;clear hk he he2
   go_wp2_with (first|(with_reducible refine ldB 0 hS isAgg82 ?_)|((with_reducible refine g_bs (T:=82) ?_);refine seq_bs1 (T:=82) (v:=.int .u8 _) hS underlying82 sizeOf5 zeroValue5 rfl rfl rfl (by decide) (by decide) rfl (fun bq wbq hS=>?_);simp only [NRM];simp only [Value.cells] at hS)|((with_reducible refine g_app ?_);refine seq_append_lit (t:=82) 1 hS underlying82 infoB rfl (by decide) rfl rfl rfl rfl (by simp [Value.oneCell']) (by omega) (by unfold maxLen;omega) (fun ad3 c3 _ hS=>?_);simp only [NRM];simp only [NRH] at hS)|(with_reducible refine stA 0 hS sizeOf82 fun _ hS=>?_))
   exact bodyPost_end (results_none rfl _ _ _) rfl ⟨rfl,ad3,c3,by rw [hl.out,hb.out];exact hS.sb⟩
theorem zigzag_any (n:Int) (hn:InI n) (w:World) :
 Calls Tryz.prog 151 #[.int .i64 n] w fun e w'=>e=.returned (.int .u64 (zz n:Int))∧w'=w:=by
 go_enter func151,ntmps151
 go_wp2;go_ret;exact⟨by rw [zz,Int.toNat_of_nonneg (bits_u64 _ _ _).1];rfl,rfl⟩
theorem wint_any {w0 w:World} {H:List Chunk} (bw c:Nat) (ad:Option Addr) (xs:List Int) (n:Int) (hn:InI n) (hx:xs.length≤1000000000000) (hS:Heap w0 w (.blk bw (.cells #[.slice ad xs.length c] 144 (0,0))::.row (.slice ad xs.length c) 5 1 xs.length (bv xs)::H)) :
 Calls Tryz.prog 91 #[.pointer (some ⟨bw,0,none⟩),.int .i64 n] w fun e w'=>e=.returned (.tuple #[])∧∃ (ad':Option Addr) (c':Nat),Heap w0 w' (.blk bw (.cells #[.slice ad' (xs++wencI n).length c'] 144 (0,0))::.row (.slice ad' (xs++wencI n).length c') 5 1 (xs++wencI n).length (bv (xs++wencI n))::H):=by
 go_enter func91,ntmps91
 go_wp2_with (fail)
 refine (zigzag_any n hn _).mono ?_;rintro e w' ⟨rfl,rfl⟩;simp only []
 go_wp2_with (fail)
 refine (wuint_any bw c ad xs (zz n) 9 (Nat.lt_of_lt_of_le (zz_lt n) (by decide)) (by decide) hx hS).mono ?_;rintro e w' ⟨rfl,h⟩;simp only [];go_wp2;exact bodyPost_end (results_none rfl _ _ _) rfl ⟨rfl,h⟩
theorem wints_any {w0 w wr:World} {S:Nat→Prop} {H:List Chunk} (bw c nl cl:Nat) (ad al:Option Addr) (xs ls:List Int) (hl:Ints wr S (.slice al nl cl) ls) (hm:Chunk.frz S wr ∈ H) (hx:xs.length+10*(ls.length+1)≤1000000000000) (hS:Heap w0 w (.blk bw (.cells #[.slice ad xs.length c] 144 (0,0))::.row (.slice ad xs.length c) 5 1 xs.length (bv xs)::H)) :
 Calls Tryz.prog 90 #[.pointer (some ⟨bw,0,none⟩),.slice al nl cl] w fun e w'=>e=.returned (.tuple #[])∧∃ (ad':Option Addr) (c':Nat),Heap w0 w' (.blk bw (.cells #[.slice ad' (xs++encIs ls).length c'] 144 (0,0))::.row (.slice ad' (xs++encIs ls).length c') 5 1 (xs++encIs ls).length (bv (xs++encIs ls))::H):=by
 have hn:=hl.len;subst hn;have hin:=hl.2;have he0:encU 9 ls.length=encTo ls 0:=by simp [encTo]
 have hfr:Chunk.frz S wr ∈ (.blk bw (.cells #[.slice ad xs.length c] 144 (0,0))::.row (.slice ad xs.length c) 5 1 xs.length (bv xs)::H):=List.mem_cons_of_mem _ (List.mem_cons_of_mem _ hm)
 go_enter func90,ntmps90
 go_wp2_with (fail)
 refine (wuint_any bw c ad xs ls.length 9 (by omega) (by decide) (by omega) hS).mono ?_;rintro e w' ⟨rfl,ad1,c1,h1⟩;simp only [];clear hS;rw [he0] at h1;replace hin:=Hd hin;replace he0:=Hd he0;go_wp2
 try try simp only [NRG]
 go_loopw [13] (fun v13 wx=>∃ (i:Nat) (ad2:Option Addr) (c2:Nat),i≤ls.length∧v13=.int .i64 (i:Int)∧Heap w0 wx (.blk bw (.cells #[.slice ad2 (xs++encTo ls i).length c2] 144 (0,0))::.row (.slice ad2 (xs++encTo ls i).length c2) 5 1 (xs++encTo ls i).length (bv (xs++encTo ls i))::H)) (fun v13 _=>ls.length - (intOf v13).toNat)
 case atStart=>exact⟨0,ad1,c1,by omega,rfl,h1⟩
 case round =>
  clear h1;obtain⟨i,ad2,c2,hi,rfl,hS⟩:=hrel
  by_cases hil:i<ls.length
  ·have hsu:=encTo_succ hil
   have hle:=encTo_len (ls:=ls) i (by omega);have hii:=hin.out _ (nth_mem 0 ls i hil);obtain⟨x,hxe⟩:∃ x,nth 0 ls i=x:=⟨_,rfl⟩;rw [hxe] at hii hsu;have hc:=fun w' h=>wint_any (H:=H) (w0:=w0) (w:=w') bw c2 ad2 (xs++encTo ls i) x hii (by rw [List.length_append];omega) h
   rw [List.append_assoc,← hsu] at hc;replace hsu:=Hd hsu;replace hii:=Hd hii
   go_wp2_with (with_reducible first|refine ixI underlying22 sizeOf3 fun _ _ _=>?_|refine ld0 hS isAgg3 ?_ (hm:=List.mem_cons_of_mem _ (List.mem_cons_of_mem _ hm)))
   refine (hc _ hS).mono ?_;rintro e w' ⟨rfl,ad3,c3,hS⟩;simp only [];go_wp2;go_roundw
   case rel=>exact⟨i+1,ad3,c3,by omega,by simp,hS⟩
   case measure=>simp [intOf];omega
  ·obtain rfl:ls.length=i:=by omega
   go_wp2;exact bodyPost_end (results_none rfl _ _ _) rfl ⟨rfl,ad2,c2,hS⟩
end Go.Proofs
namespace Go.Hp
open Go.Proofs.Tryz
open Go Go.RowKit
theorem bv_one (xs:List Int):∀ v ∈ bv xs,v.oneCell'=true:=by
 intro v hv;obtain⟨x,_,rfl⟩:=List.mem_map.1 hv
 rfl
theorem bv_cell {xs:List Int} {i:Nat} (hi:i<xs.length):((bv xs).drop (i*1)).take 1=[.int .u8 (nth 0 xs i)]:=by
 rw [Nat.mul_one,nth_eq _ _ _ hi,List.drop_eq_getElem_cons (by simpa [bv] using hi)];simp [bv]
end Go.Hp
namespace Go.Proofs
open Go.Proofs.Tryz
open Go.RowKit Go.Hp
theorem cloneB_any (ad:Option Addr) (c:Nat) (xs:List Int) (w:World) (hv:SlC w (Old w) 1 (.slice ad xs.length c) xs.length (bv xs)) (hle:xs.length≤1000000000000) :
 Calls Tryz.prog 152 #[.slice ad xs.length c] w fun e w'=>∃ ad' c',e=.returned (.slice ad' xs.length c')∧Heap w w' [.frz (Old w) w,.row (.slice ad' xs.length c') 5 1 xs.length (bv xs)]:=by
 have qT:∀ (w:World) (a:Option Addr) (n c n' c':Nat),(binOp .eql 82 (.slice a n c) (.slice none n' c')).run Tryz.prog w=.ok (.bool a.isNone) w:=fun w a n c n' c'=>Lib.run_eql_slice_nil w _ _ a n c n' c' underlying82
 have hS:=Heap.start w;cases ad with
 | none =>
  obtain⟨h1,rfl,h3,h4⟩:=SlC_none hv;have hl:xs=[]:=List.eq_nil_of_length_eq_zero h1;subst hl;have hS:=hS.addNil 5 1
  go_enter func152,ntmps152
  go_wp2;go_ret;exact⟨none,0,rfl,hS⟩
 | some ad =>
  go_enter func152,ntmps152
  go_wp2_with (first|((with_reducible refine g_bs (T:=82) ?_);refine seq_bs0 (T:=82) hS underlying82 sizeOf5 rfl (fun b7 _ hS=>?_);simp only [NRM];simp only [NRH] at hS)|((with_reducible refine g_app ?_);refine seq_append (t:=82) 1 hS underlying82 infoB rfl (by decide) rfl rfl rfl hv (by simp) (bv_one xs) (by omega) (by unfold maxLen;omega) (fun ad1 c1 _ hS=>?_);simp only [NRM];simp only [NRH] at hS;simp only [Nat.zero_add,List.nil_append] at hS ⊢))
  go_ret;exact⟨ad1,c1,rfl,hS⟩
theorem wdone_any {w0 w:World} {H:List Chunk} (bw c:Nat) (ad:Option Addr) (xs:List Int) (hx:xs.length≤1000000000000) (hS:Heap w0 w (.blk bw (.cells #[.slice ad xs.length c] 144 (0,0))::.row (.slice ad xs.length c) 5 1 xs.length (bv xs)::H)) :
 Calls Tryz.prog 92 #[.pointer (some ⟨bw,0,none⟩)] w fun e w'=>∃ (ad':Option Addr) (c':Nat),e=.returned (.slice ad' xs.length c')∧Heap w0 w' (.blk bw (.cells #[.slice ad xs.length c] 144 (0,0))::.row (.slice ad xs.length c) 5 1 xs.length (bv xs)::(H++[.row (.slice ad' xs.length c') 5 1 xs.length (bv xs)])):=by
 have hv:=(hS.rowSl 1 rfl).old
 go_enter func92,ntmps92
 go_wp2_with (with_reducible refine ldB 0 hS isAgg82 ?_)
 refine (cloneB_any ad c xs _ hv hx).mono ?_;rintro e w' ⟨ad1,c1,rfl,h1⟩;have hS:=hS.import h1;simp only [];go_wp2;go_ret;exact⟨ad1,c1,rfl,hS⟩
theorem equalB_any (a b:Option Addr) (c d:Nat) (xs:List Int) (w:World) (ha:SlC w (Old w) 1 (.slice a xs.length c) xs.length (bv xs)) (hb:SlC w (Old w) 1 (.slice b xs.length d) xs.length (bv xs)) (hle:xs.length≤1000000000000) :
 Calls Tryz.prog 88 #[.slice a xs.length c,.slice b xs.length d] w fun e w'=>e=.returned (.bool true)∧Heap w w' [.frz (Old w) w]:=by
 have hS:=Heap.start w
 go_enter func88,ntmps88
 go_wp2
 go_loopw [13] (fun v13 wr=>∃ i:Nat,i≤xs.length∧v13=.int .i64 (i:Int)∧Heap w wr [.frz (Old w) w]) (fun v13 _=>xs.length - (intOf v13).toNat)
 case atStart=>exact⟨0,by omega,rfl,hS⟩
 case round =>
  clear hS;obtain⟨i,hi,rfl,hS⟩:=hrel
  by_cases hil:i<xs.length
  ·have hc:=bv_cell hil
   obtain⟨x,hx⟩:∃ x,nth 0 xs i=x:=⟨_,rfl⟩;rw [hx] at hc;have d1:(x != x)=false:=by simp
   clear hx;go_wp2;refine rg0 [.p 0,.p 1,.p 2,.r 3,.p 4,.p 5,.p 6,.r 7,.p 8] [] hS fun w1 hS=>?_
   repeat (with_reducible first|refine skL ?_|refine sixE underlying82 sizeOf5 ha hc fun bq oq hcellq=>?_|refine sixE underlying82 sizeOf5 hb hc fun bq oq hcellq=>?_|refine sld0 isAgg5 ?_|refine spL ?_)
   refine snL ?_;go_wp2;go_roundw
   case rel=>exact⟨i+1,by omega,by simp,hS⟩
   case measure=>simp [intOf];omega
  ·obtain rfl:xs.length=i:=by omega
   go_wp2;go_ret;exact⟨rfl,hS⟩
end Go.Proofs
namespace Go.Hp
open Go.Proofs.Tryz
open Go Go.RowKit
def lsTo (X:List (List Nat)) (i:Nat):List Int:=wencI X.length++(X.take i).flatMap fun l=>encIs (zs l)
def encLs (X:List (List Nat)):List Int:=lsTo X X.length
theorem lsTo_zero (X:List (List Nat)):wencI X.length=lsTo X 0:=by simp [lsTo]
theorem lsTo_succ {X:List (List Nat)} {i:Nat} (hi:i<X.length):lsTo X (i+1)=lsTo X i++encIs (zs (nth [] X i)):=by
 simp [lsTo,take_snoc [] X i hi]
theorem encIs_len (ls:List Int):(encIs ls).length≤10*(ls.length+1):=encTo_len _ (Nat.le_refl _)
theorem zs_len (l:List Nat):(zs l).length=l.length:=by simp [zs]
theorem lsTo_len {X:List (List Nat)} (hX:∀ i,i<X.length→(nth [] X i).length≤70000):∀ i,i≤X.length→(lsTo X i).length≤10+700010*i
 | 0,_=>by have:=encU_len 9 (zz X.length);rw [← lsTo_zero];unfold wencI;omega
 | i+1,h=>by
  have h1:=lsTo_len hX i (by omega);have h2:=encIs_len (zs (nth [] X i));have h3:=hX i (by omega);rw [zs_len] at h2;rw [lsTo_succ (by omega),List.length_append];omega
def encTw (f:FRec) (j:Nat):List Int:=((([]++encIs (zs f.N))++encIs f.L)++encIs f.O)++([f.I,f.A].take j).flatMap encLs
def encF (f:FRec):List Int:=encTw f 2
structure FBd (f:FRec):Prop where
 n:f.N.length≤70000
 l:f.L.length≤70000
 o:f.O.length≤70000
 i:f.I.length≤70000
 a:f.A.length≤70000
 is:∀ i,i<f.I.length→(nth [] f.I i).length≤70000
 al:∀ i,i<f.A.length→(nth [] f.A i).length≤70000
theorem encTw_len {f:FRec} (h:FBd f):∀ j,j≤2→(encTw f j).length≤3000000+50000000000*j:=fun j hj=>by
 have h1:=encIs_len (zs f.N);have h2:=encIs_len f.L;have h3:=encIs_len f.O;have h4:(encLs f.I).length≤10+700010*f.I.length:=lsTo_len h.is _ (Nat.le_refl _);have h5:(encLs f.A).length≤10+700010*f.A.length:=lsTo_len h.al _ (Nat.le_refl _);have:=h.n;have:=h.l;have:=h.o;have:=h.i;have:=h.a;rw [zs_len] at h1;have hj3:j=0∨j=1∨j=2:=by omega
 rcases hj3 with rfl|rfl|rfl <;> simp [encTw] <;> omega
end Go.Hp
namespace Go.Proofs
open Go.Proofs.Tryz
open Go.RowKit Go.Hp
theorem encode_any (s1 s2 s3 s4 s5:Option Addr × Nat × Nat) (f:FRec) (w:World) (hf:IsFc w (Old w) s1 s2 s3 s4 s5 f) (hb:FBd f) :
 Calls Tryz.prog 38 #[.agg #[sv s1,sv s2,sv s3,sv s4,sv s5]] w fun e w'=>∃ ad c,e=.returned (.slice ad (encF f).length c)∧Heap w w' [.frz (Old w) w,.row (.slice ad (encF f).length c) 5 1 (encF f).length (bv (encF f))]:=by
 obtain⟨an,nn,cn⟩:=s1;obtain⟨aL,nL,cL⟩:=s2;obtain⟨ao,no,co⟩:=s3;obtain⟨ai,ni,ci⟩:=s4;obtain⟨aa,na,ca⟩:=s5;have hN:Ints w (Old w) (.slice an nn cn) (zs f.N):=hf.n;have hL:Ints w (Old w) (.slice aL nL cL) f.L:=hf.l;have hO:Ints w (Old w) (.slice ao no co) f.O:=hf.o;have hI:RowsOf w (Old w) (.slice ai ni ci) f.I:=hf.i;have hA:RowsOf w (Old w) (.slice aa na ca) f.A:=hf.a;have hni:ni=f.I.length:=by obtain⟨R,h1,h2,_⟩:=hI;obtain⟨_,a,c,e,_⟩:=h2;cases e;rfl
 have hna:na=f.A.length:=by obtain⟨R,h1,h2,_⟩:=hA;obtain⟨_,a,c,e,_⟩:=h2;cases e;rfl
 have bn:=hb.n;have bl:=hb.l;have bo:=hb.o;have ht:=encTw_len hb;have hz:=zs_len f.N
 have hgen:∀ j,j<2→∃ (al:Option Addr) (cl:Nat) (X:List (List Nat)),(#[.slice ai ni ci,.slice aa na ca]:Array Value)[j]? = some (.slice al X.length cl)∧RowsOf w (Old w) (.slice al X.length cl) X∧X.length≤70000∧(∀ i,i<X.length→(nth [] X i).length≤70000)∧encTw f (j+1)=encTw f j++encLs X:=fun j hj=>by
  have hj2:j=0∨j=1:=by omega
  rcases hj2 with rfl|rfl
  ·subst hni;exact⟨ai,ci,f.I,rfl,hI,hb.i,hb.is,by simp [encTw]⟩
  ·subst hna;exact⟨aa,ca,f.A,rfl,hA,hb.a,hb.al,by simp [encTw]⟩
 have h0:encTw f 0=(([]++encIs (zs f.N))++encIs f.L)++encIs f.O:=by simp [encTw]
 have t1:=encIs_len (zs f.N);have t2:=encIs_len f.L;obtain⟨X1,hX1⟩:∃ X,([]:List Int)++encIs (zs f.N)=X:=⟨_,rfl⟩;obtain⟨X2,hX2⟩:∃ X,X1++encIs f.L=X:=⟨_,rfl⟩;have l1:X1.length≤700010:=by rw [← hX1,List.nil_append];omega
 have l2:X2.length≤1400020:=by rw [← hX2,List.length_append];omega
 rw [hX1,hX2] at h0;clear t1 t2;replace hgen:=Hd hgen;replace ht:=Hd ht;replace h0:=Hd h0;replace hX1:=Hd hX1;replace hX2:=Hd hX2;replace hb:=Hd hb;have hfin:(encF f)=encTw f 2:=rfl;rw [hfin];clear hfin hf hI hA hni hna;simp only [sv];have hS:=Heap.start w
 go_enter func38,ntmps38
 go_wp2_with (with_reducible first|refine bxA hS fun bx wbx hS=>?_|refine alA hS zeroValue144 fun b3 wb3 hS=>?_|refine ldB 1 hS isAgg22 ?_)
 have hS:=hS.addNil 5 1;simp only [NRH] at hS;have hS:=hS.order [2,3,0,1] rfl;simp only [NRF] at hS;refine (wints_any b3 0 nn cn none an [] (zs f.N) hN (by simp) (by rw [hz];simp;omega) hS).mono ?_;rintro e w1 ⟨rfl,d1,c1,hS1⟩;simp only [];rw [hX1.out] at hS1;clear hS;have hS:=hS1;clear hS1
 go_wp2_with (with_reducible refine ldB 3 hS isAgg22 ?_)
 refine (wints_any b3 c1 nL cL d1 aL X1 f.L hL (by simp) (by omega) hS).mono ?_;rintro e w2 ⟨rfl,d2,c2,hS1⟩;simp only [];rw [hX2.out] at hS1;clear hS;have hS:=hS1;clear hS1
 go_wp2_with (with_reducible refine ldB 3 hS isAgg22 ?_)
 refine (wints_any b3 c2 no co d2 ao X2 f.O hO (by simp) (by omega) hS).mono ?_;rintro e w3 ⟨rfl,d3,c3,hS1⟩;simp only [];rw [← h0.out] at hS1;clear hS;have hS:=hS1;clear hS1
 go_wp2_with (first|(with_reducible refine ldB 3 hS isAgg35 ?_)|((with_reducible refine g_bs (T:=145) ?_);refine seq_buildSlice (k:=1) (z:=.slice none 0 0) (len:=2) hS underlying145 sizeOf35 zeroValue35 (by decide) (by decide) (fill2s _ _ _ _ _ _) (fun b21 wb21 hS=>?_);simp only [NRM];simp only [NRH] at hS))
 try try simp only [NRG]
 go_loopw [23] (fun v23 wr=>∃ (j:Nat) (ad:Option Addr) (c:Nat),j≤2∧v23=.int .i64 (j:Int)∧Heap w wr [.blk b3 (.cells #[.slice ad (encTw f j).length c] 144 (0,0)),.row (.slice ad (encTw f j).length c) 5 1 (encTw f j).length (bv (encTw f j)),.frz (Old w) w,.blk bx (.cells #[.slice an nn cn,.slice aL nL cL,.slice ao no co,.slice ai ni ci,.slice aa na ca] 37 (0,0)),.blk b21 (.cells #[.slice ai ni ci,.slice aa na ca] 35 (0,0))]) (fun v23 _=>2 - (intOf v23).toNat)
 case atStart=>exact⟨0,d3,c3,by omega,rfl,hS⟩
 case round =>
  clear hS;obtain⟨j,ad,c,hj,rfl,hS⟩:=hrel;have htj:=ht.out j hj
  by_cases hj2:j<2
  ·obtain⟨al,cl,X,hlit,hX,hXl,hXs,hnx⟩:=hgen.out j hj2
   have hle:=lsTo_len hXs;have hz0:=lsTo_zero X;have hsu:=fun i (hi:i<X.length)=>lsTo_succ hi
   have hend:encTw f j++lsTo X X.length=encTw f (j+1):=by rw [hnx];rfl
   obtain⟨Y,hY⟩:∃ Y,encTw f j=Y:=⟨_,rfl⟩;rw [hY] at hS hend htj;have hii:InI ((X.length:Nat):Int):=by unfold InI;omega
   replace hle:=Hd hle;replace hz0:=Hd hz0;replace hsu:=Hd hsu;replace hend:=Hd hend;replace hXs:=Hd hXs;replace hY:=Hd hY;replace hii:=Hd hii;clear hnx
   go_wp2_with (first|(with_reducible refine ixS underlying145 sizeOf35 ?_)|((with_reducible refine g_load (T:=35) ?_);refine seq_of hS rfl (stp_load_blk (T:=35) 4 isAgg35 rfl rfl hlit ?_);simp only [NRM]))
   refine (wint_any b3 c ad Y (X.length:Int) hii.out (by omega) hS).mono ?_;rintro e w4 ⟨rfl,d4,c4,hS1⟩;simp only [];rw [hz0.out] at hS1;clear hS;go_wp2
   go_loopw [32] (fun v32 wr=>∃ (i:Nat) (ad:Option Addr) (c:Nat),i≤X.length∧v32=.int .i64 (i:Int)∧Heap w wr [.blk b3 (.cells #[.slice ad (Y++lsTo X i).length c] 144 (0,0)),.row (.slice ad (Y++lsTo X i).length c) 5 1 (Y++lsTo X i).length (bv (Y++lsTo X i)),.frz (Old w) w,.blk bx (.cells #[.slice an nn cn,.slice aL nL cL,.slice ao no co,.slice ai ni ci,.slice aa na ca] 37 (0,0)),.blk b21 (.cells #[.slice ai ni ci,.slice aa na ca] 35 (0,0))]) (fun v32 _=>X.length - (intOf v32).toNat)
   case atStart=>exact⟨0,d4,c4,by omega,rfl,hS1⟩
   case round =>
    clear hS1;obtain⟨i,ad,c,hi,rfl,hS⟩:=hrel
    by_cases hil:i<X.length
    ·obtain⟨R,ad1,nq,cq,hsl,hcell,hrow,hnq⟩:=rows_cell hX hil
     have hl1:=hle.out i (by omega);have hl2:=hXs.out i hil;have hlen:(Y++lsTo X i).length=Y.length+(lsTo X i).length:=List.length_append;have hz2:=zs_len (nth [] X i);have hs1:(Y++lsTo X i)++encIs (zs (nth [] X i))=Y++lsTo X (i+1):=by rw [hsu.out i hil,List.append_assoc]
     subst hnq;replace hlen:=Hd hlen;replace hz2:=Hd hz2;replace hs1:=Hd hs1
     go_wp2_with (first|(with_reducible refine ixE underlying35 sizeOf22 hsl hcell fun bq oq hcellq=>?_)|((with_reducible refine g_load (T:=22) ?_);refine seq_of hS rfl (stp_load (T:=22) isAgg22 rfl (by with_reducible assumption) (by simp) rfl ?_);simp only [NRM]))
     refine (wints_any b3 c (nth [] X i).length cq ad ad1 (Y++lsTo X i) (zs (nth [] X i)) hrow (by simp) (by rw [hlen.out,hz2.out];omega) hS).mono ?_;rintro e w5 ⟨rfl,d5,c5,hS1⟩;simp only [];rw [hs1.out] at hS1;clear hS;have hS:=hS1;clear hS1;go_wp2;go_roundw
     case rel=>exact⟨i+1,d5,c5,by omega,by simp,hS⟩
     case measure=>simp [intOf];omega
    ·obtain rfl:X.length=i:=by omega
     rw [hend.out] at hS;go_wp2;go_roundw
     case rel=>exact⟨j+1,ad,c,by omega,by simp,hS⟩
     case measure=>simp [intOf];omega
  ·obtain rfl:2=j:=by omega
   go_wp2_with (fail)
   refine (wdone_any b3 c ad (encTw f 2) (by omega) hS).mono ?_;rintro e w4 ⟨d4,c4,rfl,hS1⟩;simp only [];simp only [NRH] at hS1;go_wp2;go_ret;exact⟨d4,c4,rfl,hS1.sb⟩
theorem equalF_any (s1 s2 s3 s4 s5 t1 t2 t3 t4 t5:Option Addr × Nat × Nat) (f:FRec) (w:World) (hf:IsFc w (Old w) s1 s2 s3 s4 s5 f) (hg:IsFc w (Old w) t1 t2 t3 t4 t5 f) (hb:FBd f) :
 Calls Tryz.prog 36 #[.agg #[sv s1,sv s2,sv s3,sv s4,sv s5],.agg #[sv t1,sv t2,sv t3,sv t4,sv t5]] w fun e w'=>e=.returned (.bool true)∧Pure w (fun _=>False) w' (fun _=>False):=by
 have hl:=encTw_len hb 2 (by omega);have c1:=fun w' h=>encode_any s1 s2 s3 s4 s5 f w' h hb
 have c2:=fun w' h=>encode_any t1 t2 t3 t4 t5 f w' h hb
 have hl2:(encF f).length≤1000000000000:=by show (encTw f 2).length≤_;omega
 obtain⟨Y,hY⟩:∃ Y,encF f=Y:=⟨_,rfl⟩;rw [hY] at hl2;simp only [hY] at c1 c2;clear hl hY hb;have hS:=Heap.start w;obtain⟨a1,n1,x1⟩:=s1;obtain⟨a2,n2,x2⟩:=s2;obtain⟨a3,n3,x3⟩:=s3;obtain⟨a4,n4,x4⟩:=s4;obtain⟨a5,n5,x5⟩:=s5;obtain⟨b1,m1,y1⟩:=t1;obtain⟨b2,m2,y2⟩:=t2;obtain⟨b3,m3,y3⟩:=t3;obtain⟨b4,m4,y4⟩:=t4;obtain⟨b5,m5,y5⟩:=t5;simp only [sv] at c1 c2 ⊢
 go_enter func36,ntmps36
 go_wp2_with (with_reducible refine bxA hS fun bx wbx hS=>?_)
 refine rg0 [.r 0,.r 2,.e 1,.e 3,.e 4,.p 5] [] hS fun w1 hS=>?_
 repeat (with_reducible first|refine skL ?_|refine sldA 1 isAgg37 sizeOf37 ?_|refine sldA 2 isAgg37 sizeOf37 ?_|refine spL ?_)
 refine exL ?_
 go_wp2_with (fail)
 refine (c1 _ ((hf.at hS (fun _ h=>h)).old)).mono ?_;rintro e w' ⟨d1,z1,rfl,h1⟩;simp only [];go_step;have hS:=hS.import h1;simp only [NRH] at hS;refine ext_end hS.sb ?_;refine mvs ?_;refine exL ?_
 go_wp2_with (fail)
 refine (c2 _ ((hg.at hS (fun _ h=>h)).old)).mono ?_;rintro e w' ⟨d2,z2,rfl,h2⟩;simp only [];go_step;have hS:=hS.import h2;simp only [NRH] at hS;refine ext_end hS.sb ?_;refine mvs ?_;refine exL ?_
 go_wp2_with (fail)
 refine (equalB_any d1 d2 z1 z2 Y _ (hS.rowSl 3 rfl).old (hS.rowSl 4 rfl).old hl2).mono ?_;rintro e w' ⟨rfl,h3⟩;simp only [];go_step;have hS:=hS.import h3;simp only [List.append_nil] at hS;refine ext_end hS.sb ?_;refine mvs ?_;refine snL ?_;go_wp2;go_ret;exact⟨rfl,hS.pure _⟩
end Go.Proofs
