/-
 Part of the proof of TopMarked. No condition beyond those in each theorem.
-/
import Derived.Test.YtpgalhbplcanhaaGreatDoorSC
import Derived.Test.YtpgalhbplcanhaaGreatDoorSA
import Derived.Test.YtpgalhbplcanhaaGreatDoorSD
import Derived.Test.YtpgalhbplcanhaaGreatDoorPvH
section
open Go PvL Go.Proofs
set_option linter.unusedSimpArgs false
set_option linter.unusedVariables false
namespace Go.Proofs.YtpgalhbplcanhaaGreatDoor.C
theorem zfe{E:Env}{M:Mem}{x y:XO}{s:ByteArray}{k:Nat}{q:IntKind}(hx:xval E x=some (.str s))(hy:xval E y=some (.int q (k:Int)))(h:k < s.size):zm Tryz.prog (.idxS x y) E M=some (.val (.int .u8 (byteAt s k:Int)) M):=by
 have h1:=zjz (P:=Tryz.prog) (E:=[(0,.str s),(1,I k)]) (M:=M) (x:=.t 0) (y:=.t 1) rfl rfl h
 have h2:zm Tryz.prog (.idxS (.t 0) (.t 1)) [(0,.str s),(1,I k)] M=zm Tryz.prog (.idxS (.t 0) (.t 1)) [(0,.str s),(1,.int q (k:Int))] M:=rfl
 rw[h2] at h1
 show ob (xval E x) _=_
 rw[hx,za,hy]
 exact h1
set_option maxRecDepth 100000 in
def len8K:ByteArray:=⟨#[0,1,2,2,3,3,3,3,4,4,4,4,4,4,4,4,5,5,5,5,5,5,5,5,5,5,5,5,5,5,5,5,6,6,6,6,6,6,6,6,6,6,6,6,6,6,6,6,6,6,6,6,6,6,6,6,6,6,6,6,6,6,6,6,7,7,7,7,7,7,7,7,7,7,7,7,7,7,7,7,7,7,7,7,7,7,7,7,7,7,7,7,7,7,7,7,7,7,7,7,7,7,7,7,7,7,7,7,7,7,7,7,7,7,7,7,7,7,7,7,7,7,7,7,7,7,7,7,8,8,8,8,8,8,8,8,8,8,8,8,8,8,8,8,8,8,8,8,8,8,8,8,8,8,8,8,8,8,8,8,8,8,8,8,8,8,8,8,8,8,8,8,8,8,8,8,8,8,8,8,8,8,8,8,8,8,8,8,8,8,8,8,8,8,8,8,8,8,8,8,8,8,8,8,8,8,8,8,8,8,8,8,8,8,8,8,8,8,8,8,8,8,8,8,8,8,8,8,8,8,8,8,8,8,8,8,8,8,8,8,8,8,8,8,8,8,8,8,8,8,8,8,8,8,8,8]⟩
set_option maxRecDepth 100000 in
theorem zer:(List.range 256).all (fun n=>Nat.ble (byteAt len8K n) 8 && (Nat.ble n 0 ||(Nat.ble (n+1) (2 ^ byteAt len8K n) && Nat.ble (2 ^ byteAt len8K n) (2*n))))=true:=by decide +kernel
set_option maxRecDepth 100000 in
set_option maxHeartbeats 4000000 in
theorem zkd{M:Mem}{n:Nat}(hn:n<=1100):ze Tryz.prog 259 [.int .u64 (n:Int)] M (fun w M'=>∃ k:Nat,w=I k /\ k<=16 /\ (1<=n->n < 2 ^ k /\ 2 ^ k<=2*n) /\ M'=M):=by
 refine zf k259 rfl ?_
 delta x259;refine un ?_
 by_cases h256:n < 256
 ·repeat' first|with_reducible intro _|refine sv ?_|refine ss ?_ ?_<;>(intro h;first|exact sz h|refine sy h ?_)|exact sq|fail
  all_goals try(exfalso;omega)
  have h8:=List.all_eq_true.1 zer n (List.mem_range.2 h256)
  simp only[Bool.and_eq_true,Bool.or_eq_true,Nat.ble_eq] at h8
  refine z00 (by exact gd) (zfe (s:=len8K) (k:=n) rfl rfl (show n < 256 from h256)) ?_
  generalize hb:byteAt len8K n=k at *
  repeat' first|with_reducible intro _|refine sv ?_|refine ss ?_ ?_<;>(intro h;first|exact sz h|refine sy h ?_)|exact sq|fail
  refine kf ?_
  exact⟨k,by show I (0+(k:Int))=_;rw[Int.zero_add],Nat.le_trans h8.1 (by decide),fun h1=>by rcases h8.2 with h2|h2;omega;exact⟨h2.1,h2.2⟩,rfl⟩
 ·repeat' first|with_reducible intro _|refine sv ?_|refine ss ?_ ?_<;>(intro h;first|exact sz h|refine sy h ?_)|exact sq|fail
  all_goals try(exfalso;omega)
  refine z00 (by exact gd) (zbc (a:=n) (b:=8) rfl rfl (by omega)) ?_
  have hq:n / 2 ^ 8 < 256:=by omega
  have h8:=List.all_eq_true.1 zer (n / 2 ^ 8) (List.mem_range.2 hq)
  simp only[Bool.and_eq_true,Bool.or_eq_true,Nat.ble_eq] at h8
  have hd:n=n / 2 ^ 8*256+n % 256:=by omega
  have hr:n % 256 < 256:=by omega
  have hq1:1<=n / 2 ^ 8:=by omega
  generalize n / 2 ^ 8=q at *
  repeat' first|with_reducible intro _|refine sv ?_|refine ss ?_ ?_<;>(intro h;first|exact sz h|refine sy h ?_)|exact sq|fail
  refine z00 (by exact gd) (zfe (s:=len8K) (k:=q) rfl rfl (show q < 256 from hq)) ?_
  generalize hb:byteAt len8K q=k at *
  repeat' first|with_reducible intro _|refine sv ?_|refine ss ?_ ?_<;>(intro h;first|exact sz h|refine sy h ?_)|exact sq|fail
  refine kf ?_
  refine⟨8+k,rfl,by omega,fun h1=>?_,rfl⟩
  have h2:=h8.2.resolve_left (by omega)
  rw[Nat.pow_add]
  omega
theorem wrapK64(z:Int):0<=IntKind.wrap .u64 z /\ IntKind.wrap .u64 z < 18446744073709551616:=by
 unfold IntKind.wrap
 simp only[IntKind.signed,IntKind.bits,Bool.false_and,Bool.false_eq_true,if_false]
 omega
theorem z3b{z:Int}(h:0<=z /\ z < 18446744073709551616):IntKind.wrap .u64 z=z:=by
 unfold IntKind.wrap
 simp only[IntKind.signed,IntKind.bits,Bool.false_and,Bool.false_eq_true,if_false]
 omega
section
variable {E:Env} {M:Mem} {x y:XO} {a b:Int}
theorem zfg(hx:xval E x=some (.int .u64 a))(hy:xval E y=some (.int .u64 b))(hb:0<=b):∃ r,zm Tryz.prog (.bin .shl x y) E M=some (.val (.int .u64 r) M) /\ 0<=r /\ r < 18446744073709551616:=by
 obtain⟨n,rfl⟩:=Int.eq_ofNat_of_zero_le hb
 refine⟨IntKind.wrap .u64 (a*((2 ^ (Nat.min n 64):Nat):Int)),?_,wrapK64 _⟩
 show ob (xval E x) _=_
 rw[hx,za,hy,za]
 show ob (fI (IntKind.wrap .u64 (a*((2 ^ (Nat.min n 64):Nat):Int))) fun z=>some (LV.int .u64 z)) _=_
 rw[zdd];rfl
theorem zmo(hx:xval E x=some (.int .u64 a))(hy:xval E y=some (.int .u64 b))(hb:0<=b)(ha:0<=a /\ a < 18446744073709551616):∃ r,zm Tryz.prog (.bin .shr x y) E M=some (.val (.int .u64 r) M) /\ 0<=r /\ r < 18446744073709551616:=by
 obtain⟨n,rfl⟩:=Int.eq_ofNat_of_zero_le hb
 have hp:(0:Int) <((2 ^ (Nat.min n 64):Nat):Int):=by
  have:=Nat.two_pow_pos (Nat.min n 64)
  omega
 refine⟨a.fdiv ((2 ^ (Nat.min n 64):Nat):Int),?_,Int.fdiv_nonneg ha.1 (Int.le_of_lt hp),?_⟩
 ·show ob (xval E x) _=_
  rw[hx,za,hy,za]
  show ob (fI (a.fdiv ((2 ^ (Nat.min n 64):Nat):Int)) fun z=>some (LV.int .u64 z)) _=_
  rw[zdd];rfl
 ·rw[Int.fdiv_eq_ediv_of_nonneg _ (Int.le_of_lt hp)]
  exact Int.lt_of_le_of_lt (Int.ediv_le_self _ ha.1) ha.2
theorem zbe(hx:xval E x=some (.int .u64 a))(hy:xval E y=some (.int .u64 b)):∃ r,zm Tryz.prog (.bin .xor x y) E M=some (.val (.int .u64 r) M) /\ 0<=r /\ r < 18446744073709551616:=by
 refine⟨IntKind.wrap .u64 ((BitVec.ofInt 64 a ^^^ BitVec.ofInt 64 b).toNat),?_,wrapK64 _⟩
 show ob (xval E x) _=_
 rw[hx,za,hy,za]
 show ob (fI (IntKind.wrap .u64 ((BitVec.ofInt 64 a ^^^ BitVec.ofInt 64 b).toNat)) fun z=>some (LV.int .u64 z)) _=_
 rw[zdd];rfl
theorem zmh(hx:xval E x=some (.int .u64 a))(hy:xval E y=some (.int .u64 b))(hb:0<=b /\ b < 18446744073709551616):∃ r:Nat,zm Tryz.prog (.bin .and x y) E M=some (.val (.int .u64 (r:Int)) M) /\ (r:Int)<=b:=by
 obtain⟨n,rfl⟩:=Int.eq_ofNat_of_zero_le hb.1
 have hn:n < 2 ^ 64:=by have:=hb.2;omega
 have h1:(BitVec.ofInt 64 a &&& BitVec.ofInt 64 (n:Int)).toNat<=n:=by
  rw[BitVec.toNat_and]
  refine Nat.le_trans Nat.and_le_right ?_
  rw[BitVec.toNat_ofInt]
  omega
 refine⟨(BitVec.ofInt 64 a &&& BitVec.ofInt 64 (n:Int)).toNat,?_,by omega⟩
 show ob (xval E x) _=_
 rw[hx,za,hy,za]
 show ob (fI (IntKind.wrap .u64 ((BitVec.ofInt 64 a &&& BitVec.ofInt 64 (n:Int)).toNat)) fun z=>some (LV.int .u64 z)) _=_
 rw[zdd,z3b (by omega)];rfl
theorem zmm{k:Nat}(hx:xval E x=some (.int .u64 1))(hy:xval E y=some (I (k:Int)))(hk:k<=16):zm Tryz.prog (.bin .shl x y) E M=some (.val (.int .u64 ((2 ^ k:Nat):Int)) M):=by
 show ob (xval E x) _=_
 rw[hx,za,hy,za]
 show ob (fI (IntKind.wrap .u64 (1*((2 ^ (Nat.min k 64):Nat):Int))) fun z=>some (LV.int .u64 z)) _=_
 have hm:Nat.min k 64=k:=Nat.min_eq_left (by omega)
 have h2:2 ^ k<=65536:=Nat.pow_le_pow_right (n:=2) (by decide) hk
 rw[hm,Int.one_mul]
 generalize 2 ^ k=m at *
 rw[z3b (by omega),zdd];rfl
end
theorem zmu{M:Mem}{n:Nat}(hn:n<=1100):ze Tryz.prog 205 [.int .u64 (n:Int)] M (fun w M'=>∃ k:Nat,w=I k /\ k<=16 /\ (1<=n->n < 2 ^ k /\ 2 ^ k<=2*n) /\ M'=M):=by
 refine zf k205 rfl ?_
 delta x205;refine un ?_
 repeat' first|with_reducible intro _|refine sv ?_|((with_reducible first|apply zt|apply zz|apply zn);exact gd;exact rfl;exact rfl;(first|exact zkd hn))|refine ss ?_ ?_<;>(intro h;first|exact sz h|refine sy h ?_)|exact sq|fail
 rename_i hh
 obtain⟨k,rfl,hk,h1,rfl⟩:=hh
 repeat' first|with_reducible intro _|refine sv ?_|refine ss ?_ ?_<;>(intro h;first|exact sz h|refine sy h ?_)|exact sq|fail
 refine kf ?_
 exact⟨k,rfl,hk,h1,rfl⟩
theorem zha{M:Mem}{n:Nat}(hn:n<=1100)(h1:1<=n):ze Tryz.prog 317 [I n] M (fun w M'=>∃ m:Nat,w=.int .u64 (m:Int) /\ 1<=m /\ m<=2*n /\ M'=M):=by
 refine zf k317 rfl ?_
 delta x317;refine un ?_
 have cl:=zmu (M:=M) hn
 repeat' first|with_reducible intro _|refine sv ?_|refine ss ?_ ?_<;>(intro h;first|exact sz h|refine sy h ?_)|exact sq|fail
 rw[z3b (by omega)]
 repeat' first|with_reducible intro _|refine sv ?_|((with_reducible first|apply zt|apply zz|apply zn);exact gd;exact rfl;exact rfl;(first|exact cl))|refine ss ?_ ?_<;>(intro h;first|exact sz h|refine sy h ?_)|exact sq|fail
 rename_i hh
 obtain⟨k,rfl,hk,h2,rfl⟩:=hh
 refine z00 (by exact gd) (zmm rfl rfl hk) ?_
 have h3:=(h2 h1).2
 have h4:1<=2 ^ k:=Nat.one_le_two_pow
 repeat' first|with_reducible intro _|refine sv ?_|refine ss ?_ ?_<;>(intro h;first|exact sz h|refine sy h ?_)|exact sq|fail
 refine kf ?_
 exact⟨2 ^ k,rfl,h4,h3,rfl⟩
theorem zqg{M:Mem}{q:Nat}{ty:TypeId}{c:Int}(hq:At M q (.cells true [.int .u64 c] ty))(hc:0<=c /\ c < 18446744073709551616):ze Tryz.prog 318 [.ptr (some (q,0))] M (fun w M'=>∃ c',w=.int .u64 c' /\ 0<=c' /\ c' < 18446744073709551616 /\ At M' q (.cells true [.int .u64 c'] ty) /\ Keep (fun i=>i=q) M M'):=by
 refine zf k318 rfl ?_
 delta x318;refine un ?_
 repeat' first|with_reducible intro _|refine sv ?_|refine ss ?_ ?_<;>(intro h;first|exact sz h|refine sy h ?_)|exact sq|fail
 obtain⟨r1,sr1,br1⟩:=zfg (E:=[(8,.int .u64 c),(1000,.int .u64 13)]) (M:=M) (x:=.t 8) (y:=.t 1000) (a:=c) (b:=13) rfl rfl (by omega)
 refine z3x (by exact gd) (v:=.int .u64 r1) (by exact sr1) ?_
 obtain⟨r2,sr2,br2⟩:=zbe (E:=[(5,.int .u64 c),(9,.int .u64 r1)]) (M:=M) (x:=.t 5) (y:=.t 9) (a:=c) (b:=r1) rfl rfl
 refine z3x (by exact gd) (v:=.int .u64 r2) (by exact sr2) ?_
 repeat' first|with_reducible intro _|refine sv ?_|refine ss ?_ ?_<;>(intro h;first|exact sz h|refine sy h ?_)|exact sq|fail
 rename_i M1 hU1 e1 hA1
 obtain⟨r3,sr3,br3⟩:=zmo (E:=[(17,.int .u64 r2),(1000,.int .u64 7)]) (M:=M1) (x:=.t 17) (y:=.t 1000) (a:=r2) (b:=7) rfl rfl (by omega) (by omega)
 refine z3x (by exact gd) (v:=.int .u64 r3) (by exact sr3) ?_
 obtain⟨r4,sr4,br4⟩:=zbe (E:=[(14,.int .u64 r2),(18,.int .u64 r3)]) (M:=M1) (x:=.t 14) (y:=.t 18) (a:=r2) (b:=r3) rfl rfl
 refine z3x (by exact gd) (v:=.int .u64 r4) (by exact sr4) ?_
 repeat' first|with_reducible intro _|refine sv ?_|refine ss ?_ ?_<;>(intro h;first|exact sz h|refine sy h ?_)|exact sq|fail
 rename_i M2 hU2 e2 hA2
 obtain⟨r5,sr5,br5⟩:=zfg (E:=[(26,.int .u64 r4),(1000,.int .u64 17)]) (M:=M2) (x:=.t 26) (y:=.t 1000) (a:=r4) (b:=17) rfl rfl (by omega)
 refine z3x (by exact gd) (v:=.int .u64 r5) (by exact sr5) ?_
 obtain⟨r6,sr6,br6⟩:=zbe (E:=[(23,.int .u64 r4),(27,.int .u64 r5)]) (M:=M2) (x:=.t 23) (y:=.t 27) (a:=r4) (b:=r5) rfl rfl
 refine z3x (by exact gd) (v:=.int .u64 r6) (by exact sr6) ?_
 repeat' first|with_reducible intro _|refine sv ?_|refine ss ?_ ?_<;>(intro h;first|exact sz h|refine sy h ?_)|exact sq|fail
 rename_i M3 hU3 e3 hA3
 have hk3:Keep (fun i=>i=q) M M3:=xk
 refine kf ?_
 exact⟨r6,rfl,br6.1,br6.2,hA3,hk3⟩
set_option maxHeartbeats 4000000 in
theorem zhc{M:Mem}{p n a b:Nat}{f:Bool}{e:Nat}{ty:TypeId}{G:Nat->Ky}(hA:KT M p n ty G)(hb:b<=n)(hab:a < b)(hn:n<=1100) :
  ze Tryz.prog 254 [.slice (some (p,0)) n f e,I a,I b,cf] M (fun w M'=>∃ G',Sw a b G G' /\ KT M' p n ty G' /\ Keep (fun i=>i=p) M M'):=by
 refine zf k254 rfl ?_
 delta x254;refine un ?_
 repeat' first|with_reducible intro _|refine sv ?_|refine ss ?_ ?_<;>(intro h;first|exact sz h|refine sy h ?_)|exact sq|fail
 refine zi (fun z E ms M'=>∃(i j:Nat) (G':Nat->Ky),z=b - i /\ a<=i /\ i<=b /\ j < b /\ a<=j+1 /\ ms=[] /\ Has E [(0,.slice (some (p,0)) n f e),(8,I i),(9,I j)] /\ Sw a b G G' /\ KT M' p n ty G' /\ Keep (fun i=>i=p) M M')
  ?_ (b - a) _ _ _ ⟨a,b - 1,G,rfl,by omega,by omega,by omega,by omega,rfl,.cons rfl (.cons rfl (.cons (by show some (I _)=some (I _);rw[show(b:Int) - 1=((b - 1:Nat):Int) by omega]) .nil)),.refl,hA,Keep.refl _ _⟩
 rintro z E ms M1 ⟨i,j,G1,rfl,hi1,hi2,hj1,hj2,rfl,hE,hw1,hA1,hk1⟩
 refine z02 hE ?_
 by_cases hlt:i < j
 case neg =>
  repeat' first|with_reducible intro _|refine sv ?_|refine ss ?_ ?_<;>(intro h;first|exact sz h|refine sy h ?_)|exact sq|fail
  all_goals try(exfalso;omega)
  refine kf ?_
  exact⟨G1,hw1,hA1,hk1⟩
 have hr1:=z0z hA1 (show i < n by omega)
 have hr2:=z0z hA1 (show j < n by omega)
 (have hrd0:=hr1;have hrd1:=hr2;repeat' (first|(with_reducible intro _)|refine sv ?_|refine ss ?_ ?_<;>(intro h;first|exact sz h|refine sy h ?_)|exact sq|fail))
 all_goals try(exfalso;omega)
 have hK:=hA1
 refine d_st (by exact gd) rfl rfl hK rfl rfl (z0r (by omega) (G1 j)) ?_
 intro M7 hU7 e7 hA7
 repeat' first|with_reducible intro _|refine sv ?_|refine ss ?_ ?_<;>(intro h;first|exact sz h|refine sy h ?_)|exact sq|fail
 refine d_st (by exact gd) rfl rfl hA7 rfl rfl (z0r (by omega) (G1 i)) ?_
 intro M8 hU8 e8 hA8
 have hk8:Keep (fun i=>i=p) M M8:=xk
 repeat' first|with_reducible intro _|refine sv ?_|refine ss ?_ ?_<;>(intro h;first|exact sz h|refine sy h ?_)|exact sq|fail
 refine zq (b - (i+1)) (by omega) ⟨i+1,j - 1,sw G1 i j,rfl,by omega,by omega,by omega,by omega,rfl,.cons rfl (.cons rfl (.cons ?_ .nil)),.step hw1 (by omega) (by omega) (by omega) (by omega),hA8,hk8⟩
 show some (I _)=some (I _)
 rw[show((j - 1:Nat):Int)=(j:Int) - 1 by omega]
set_option maxHeartbeats 8000000 in
theorem zo5{M:Mem}{p n a b:Nat}{f:Bool}{e:Nat}{ty:TypeId}{G:Nat->Ky}(hA:KT M p n ty G)(hb:b<=n)(hab:a+8<=b)(hn:n<=1100) :
  ze Tryz.prog 252 [.slice (some (p,0)) n f e,I a,I b,cf] M (fun w M'=>∃ G',Sw a b G G' /\ KT M' p n ty G' /\ Keep (fun i=>i=p) M M'):=by
 refine zf k252 rfl ?_
 delta x252;refine un ?_
 obtain⟨l,rfl⟩:∃ l,b=a+l:=⟨b - a,by omega⟩
 have v0:((a+l:Nat):Int) - (a:Int)=l:=by omega
 repeat' first|with_reducible intro _|refine sv ?_|refine ss ?_ ?_<;>(intro h;first|exact sz h|refine sy h ?_)|exact sq|fail
 all_goals try(exfalso;omega)
 rename_i q M1 hN1 e1 e2 M2 hU2 e3 hA2
 rw[v0] at *
 have hq2:At M2 q (.cells true [.int .u64 (l:Int)] 470):=by rw[z3b (by omega)] at hA2;exact hA2
 have hqn:M.next<=q:=by omega
 have hK2:KT M2 p n ty G:=At.upd_ne hU2 (by have:=hA.2;omega) (At.grow hN1.grow hA)
 have hk2:Keep (fun i=>i=p) M M2:=xk
 have hle2:M.next<=M2.next:=by omega
 clear hN1 hU2 hA2 e1 e2 e3
 repeat' first|with_reducible intro _|refine sv ?_|((with_reducible first|apply zt|apply zz|apply zn);exact gd;exact rfl;exact rfl;(first|exact zha (n:=l) (by omega) (by omega)))|refine ss ?_ ?_<;>(intro h;first|exact sz h|refine sy h ?_)|exact sq|fail
 rename_i hh
 obtain⟨m,rfl,hm1,hm2,rfl⟩:=hh
 repeat' first|with_reducible intro _|refine sv ?_|refine ss ?_ ?_<;>(intro h;first|exact sz h|refine sy h ?_)|exact sq|fail
 refine zi (fun z E ms M'=>∃(i:Nat) (G':Nat->Ky) (c:Int),z=a+l / 4*2+2 - i /\ a+l / 4*2<=i+1 /\ i<=a+l / 4*2+2 /\ ms=[] /\ Has E [(0,.slice (some (p,0)) n f e),(1,I a),(8,I l),(9,.ptr (some (q,0))),(10,.int .u64 (m:Int)),(11,I i)] /\ Sw a (a+l) G G' /\ KT M' p n ty G' /\ At M' q (.cells true [.int .u64 c] 470) /\ 0<=c /\ c < 18446744073709551616 /\ Keep (fun i=>i=p) M M')
  ?_ 3 _ _ _ ⟨a+l / 4*2 - 1,G,l,by omega,by omega,by omega,rfl,.cons rfl (.cons rfl (.cons rfl (.cons rfl (.cons rfl (.cons (by show some (I _)=some (I _);rw[show(a:Int)+(l:Int) / 4*2 - 1=((a+l / 4*2 - 1:Nat):Int) by omega]) .nil))))),.refl,hK2,hq2,by omega,by omega,hk2⟩
 rintro z E ms M3 ⟨i,G3,c3,rfl,hi1,hi2,rfl,hE,hw3,hK3,hq3,hc3,hc3',hk3⟩
 refine z02 hE ?_
 by_cases hlast:i=a+l / 4*2+2
 ·subst hlast
  repeat' first|with_reducible intro _|refine sv ?_|refine ss ?_ ?_<;>(intro h;first|exact sz h|refine sy h ?_)|exact sq|fail
  all_goals try(exfalso;omega)
  refine kf ?_
  exact⟨G3,hw3,hK3,hk3⟩
 repeat' first|with_reducible intro _|refine sv ?_|((with_reducible first|apply zt|apply zz|apply zn);exact gd;exact rfl;exact rfl;(first|exact zqg hq3 ⟨hc3,hc3'⟩))|refine ss ?_ ?_<;>(intro h;first|exact sz h|refine sy h ?_)|exact sq|fail
 all_goals try(exfalso;omega)
 rename_i w4 M4 hh
 obtain⟨c4,rfl,hc4,hc4',hq4,hk4⟩:=hh
 have hpq:p ≠ q:=by have:=hA.2;omega
 have hK4:KT M4 p n ty G3:=hK3.keep hk4 hpq
 have hkk4:Keep (fun i=>i=p) M M4:=hk3.trans hk4 (fun i hi=>.inr (by omega))
 clear hk4
 repeat' first|with_reducible intro _|refine sv ?_|refine ss ?_ ?_<;>(intro h;first|exact sz h|refine sy h ?_)|exact sq|fail
 rw[z3b (by omega)]
 obtain⟨r,sr,br⟩:=zmh (E:=[(38,.int .u64 c4),(40,.int .u64 ((m:Int) - 1))]) (M:=M4) (x:=.t 38) (y:=.t 40) (a:=c4) (b:=(m:Int) - 1) rfl rfl (by omega)
 refine z00 (by exact gd) (v:=.int .u64 (r:Int)) (by exact sr) ?_
 have hr1:=z0z hK4 (show i < n by omega)
 by_cases hrl:r < l
 ·have hr2:=z0z hK4 (show a+r < n by omega)
  (have hrd0:=hr1;have hrd1:=hr2;repeat' (first|(with_reducible intro _)|refine sv ?_|refine ss ?_ ?_<;>(intro h;first|exact sz h|refine sy h ?_)|exact sq|fail))
  all_goals try(exfalso;omega)
  have hK:=hK4
  refine d_st (by exact gd) rfl rfl hK rfl rfl (z0r (by omega) (G3 (a+r))) ?_
  intro M7 hU7 e7 hA7
  repeat' first|with_reducible intro _|refine sv ?_|refine ss ?_ ?_<;>(intro h;first|exact sz h|refine sy h ?_)|exact sq|fail
  refine d_st (by exact gd) rfl rfl hA7 rfl rfl (z0r (by omega) (G3 i)) ?_
  intro M8 hU8 e8 hA8
  have hk8:Keep (fun i=>i=p) M M8:=xk
  have hq8:At M8 q (.cells true [.int .u64 c4] 470):=At.upd_ne hU8 (fun hh=>hpq hh.symm) (At.upd_ne hU7 (fun hh=>hpq hh.symm) hq4)
  repeat' first|with_reducible intro _|refine sv ?_|refine ss ?_ ?_<;>(intro h;first|exact sz h|refine sy h ?_)|exact sq|fail
  exact zq (a+l / 4*2+2 - (i+1)) (by omega) ⟨i+1,sw G3 i (a+r),c4,rfl,by omega,by omega,rfl,.cons rfl (.cons rfl (.cons rfl (.cons rfl (.cons rfl (.cons rfl .nil))))),.step hw3 (by omega) (by omega) (by omega) (by omega),hA8,hq8,hc4,hc4',hk8⟩
 ·have hr2:=z0z hK4 (show a+(r - l) < n by omega)
  have f1:((a:Int)+((r:Int) - (l:Int))).toNat=a+(r - l):=by omega
  have hr3:Rd M4 p (0+((a:Int)+((r:Int) - (l:Int))).toNat*2) 2 [I (G3 (a+(r - l))).1,I (G3 (a+(r - l))).2]:=by rw[f1];exact hr2
  (have hrd0:=hr1;have hrd1:=hr3;repeat' (first|(with_reducible intro _)|refine sv ?_|refine ss ?_ ?_<;>(intro h;first|exact sz h|refine sy h ?_)|exact sq|fail))
  all_goals try(exfalso;omega)
  have hK:=hK4
  refine d_st (by exact gd) rfl rfl hK rfl rfl (z0r (by omega) (G3 (a+(r - l)))) ?_
  intro M7 hU7 e7 hA7
  repeat' first|with_reducible intro _|refine sv ?_|refine ss ?_ ?_<;>(intro h;first|exact sz h|refine sy h ?_)|exact sq|fail
  refine d_st (by exact gd) rfl rfl hA7 rfl rfl (by rw[f1];exact z0r (by omega) (G3 i)) ?_
  intro M8 hU8 e8 hA8
  have hk8:Keep (fun i=>i=p) M M8:=xk
  have hq8:At M8 q (.cells true [.int .u64 c4] 470):=At.upd_ne hU8 (fun hh=>hpq hh.symm) (At.upd_ne hU7 (fun hh=>hpq hh.symm) hq4)
  repeat' first|with_reducible intro _|refine sv ?_|refine ss ?_ ?_<;>(intro h;first|exact sz h|refine sy h ?_)|exact sq|fail
  exact zq (a+l / 4*2+2 - (i+1)) (by omega) ⟨i+1,sw G3 i (a+(r - l)),c4,rfl,by omega,by omega,rfl,.cons rfl (.cons rfl (.cons rfl (.cons rfl (.cons rfl (.cons rfl .nil))))),.step hw3 (by omega) (by omega) (by omega) (by omega),hA8,hq8,hc4,hc4',hk8⟩
set_option maxHeartbeats 4000000 in
theorem zak{M:Mem}{p n a b q:Nat}{f:Bool}{e:Nat}{ty ty2:TypeId}{G:Nat->Ky}{c:Int}(hA:KT M p n ty G)(hq:At M q (.cells true [I c] ty2))(ha:a < n)(hb:b < n)(hn:n<=1100)(hc:0<=c /\ c<=1000) :
  ze Tryz.prog 351 [.slice (some (p,0)) n f e,I a,I b,.ptr (some (q,0)),cf] M (fun w M'=>∃(x y:Nat) (c':Int),w=.tup [I x,I y] /\ ((x=a /\ y=b) ∨(x=b /\ y=a)) /\ c<=c' /\ c'<=c+1 /\ At M' q (.cells true [I c'] ty2) /\ Keep (fun i=>i=q) M M'):=by
 refine zf k351 rfl ?_
 delta x351;refine un ?_
 have hr1:=z0z hA ha
 have hr2:=z0z hA hb
 have co:=fun M'=>z2x (G b) (G a) M'
 (have hrd0:=hr1;have hrd1:=hr2;repeat' (first|(with_reducible intro _)|refine sv ?_|((with_reducible first|apply zp|apply zo|apply zj);exact gd;exact rfl;exact rfl;(first|exact co _))|refine ss ?_ ?_<;>(intro h;first|exact sz h|refine sy h ?_)|exact sq|fail))
 ·rename_i M5 hg5 q5 M6 hU6 q6 hA6
  have hk6:Keep (fun i=>i=q) M M6:=xk
  refine kf ?_
  exact⟨b,a,c+1,rfl,.inr ⟨rfl,rfl⟩,by omega,by omega,hA6,hk6⟩
 ·rename_i M5 hg5 q5
  have hk5:Keep (fun i=>i=q) M M5:=xk
  refine kf ?_
  exact⟨a,b,c,rfl,.inl ⟨rfl,rfl⟩,by omega,by omega,hq.grow hg5,hk5⟩
set_option maxHeartbeats 4000000 in
theorem zaj{M:Mem}{p n a b d q:Nat}{f:Bool}{e:Nat}{ty ty2:TypeId}{G:Nat->Ky}{c:Int}(hA:KT M p n ty G)(hq:At M q (.cells true [I c] ty2))(hpq:p ≠ q)(ha:a < n)(hb:b < n)(hd:d < n)(hn:n<=1100)(hc:0<=c /\ c<=900) :
  ze Tryz.prog 320 [.slice (some (p,0)) n f e,I a,I b,I d,.ptr (some (q,0)),cf] M (fun w M'=>∃(x:Nat) (c':Int),w=I x /\ (x=a ∨ x=b ∨ x=d) /\ c<=c' /\ c'<=c+3 /\ At M' q (.cells true [I c'] ty2) /\ Keep (fun i=>i=q) M M'):=by
 refine zf k320 rfl ?_
 delta x320;refine un ?_
 have c1:=zak (f:=f) (e:=e) hA hq ha hb hn (by omega)
 repeat' first|with_reducible intro _|refine sv ?_|((with_reducible first|apply zt|apply zz|apply zn);exact gd;exact rfl;exact rfl;(first|exact c1))|refine ss ?_ ?_<;>(intro h;first|exact sz h|refine sy h ?_)|exact sq|fail
 rename_i w1 M1 hh
 obtain⟨x1,y1,d1,rfl,hxy1,hd1,hd1',hq1,hk1⟩:=hh
 have hA1:KT M1 p n ty G:=hA.keep hk1 hpq
 have c2:=zak (f:=f) (e:=e) (a:=y1) (b:=d) hA1 hq1 (by omega) hd hn (by omega)
 repeat' first|with_reducible intro _|refine sv ?_|((with_reducible first|apply zt|apply zz|apply zn);exact gd;exact rfl;exact rfl;(first|exact c2))|refine ss ?_ ?_<;>(intro h;first|exact sz h|refine sy h ?_)|exact sq|fail
 rename_i w2 M2 hh
 obtain⟨x2,y2,d2,rfl,hxy2,hd2,hd2',hq2,hk2⟩:=hh
 have hA2:KT M2 p n ty G:=hA1.keep hk2 hpq
 have c3:=zak (f:=f) (e:=e) (a:=x1) (b:=x2) hA2 hq2 (by omega) (by omega) hn (by omega)
 repeat' first|with_reducible intro _|refine sv ?_|((with_reducible first|apply zt|apply zz|apply zn);exact gd;exact rfl;exact rfl;(first|exact c3))|refine ss ?_ ?_<;>(intro h;first|exact sz h|refine sy h ?_)|exact sq|fail
 rename_i w3 M3 hh
 obtain⟨x3,y3,d3,rfl,hxy3,hd3,hd3',hq3,hk3⟩:=hh
 repeat' first|with_reducible intro _|refine sv ?_|refine ss ?_ ?_<;>(intro h;first|exact sz h|refine sy h ?_)|exact sq|fail
 refine kf ?_
 exact⟨y3,d3,rfl,by omega,by omega,by omega,hq3,(hk1.trans hk2 (fun i hi=>.inl hi)).trans hk3 (fun i hi=>.inl hi)⟩
set_option maxHeartbeats 4000000 in
theorem zai{M:Mem}{p n a q:Nat}{f:Bool}{e:Nat}{ty ty2:TypeId}{G:Nat->Ky}{c:Int}(hA:KT M p n ty G)(hq:At M q (.cells true [I c] ty2))(hpq:p ≠ q)(ha:1<=a /\ a+1 < n)(hn:n<=1100)(hc:0<=c /\ c<=900) :
  ze Tryz.prog 319 [.slice (some (p,0)) n f e,I a,.ptr (some (q,0)),cf] M (fun w M'=>∃(x:Nat) (c':Int),w=I x /\ a<=x+1 /\ x<=a+1 /\ c<=c' /\ c'<=c+3 /\ At M' q (.cells true [I c'] ty2) /\ Keep (fun i=>i=q) M M'):=by
 refine zf k319 rfl ?_
 delta x319;refine un ?_
 have c1:=zaj (f:=f) (e:=e) (a:=a - 1) (b:=a) (d:=a+1) hA hq hpq (by omega) (by omega) (by omega) hn hc
 rw[show((a - 1:Nat):Int)=(a:Int) - 1 by omega,show((a+1:Nat):Int)=(a:Int)+1 by omega] at c1
 repeat' first|with_reducible intro _|refine sv ?_|((with_reducible first|apply zt|apply zz|apply zn);exact gd;exact rfl;exact rfl;(first|exact c1))|refine ss ?_ ?_<;>(intro h;first|exact sz h|refine sy h ?_)|exact sq|fail
 rename_i w1 M1 hh
 obtain⟨x1,d1,rfl,hx1,hd1,hd1',hq1,hk1⟩:=hh
 repeat' first|with_reducible intro _|refine sv ?_|refine ss ?_ ?_<;>(intro h;first|exact sz h|refine sy h ?_)|exact sq|fail
 refine kf ?_
 exact⟨x1,d1,rfl,by omega,by omega,hd1,hd1',hq1,hk1⟩
set_option maxHeartbeats 8000000 in
theorem zkg{M:Mem}{p n a b:Nat}{f:Bool}{e:Nat}{ty:TypeId}{G:Nat->Ky}(hA:KT M p n ty G)(hb:b<=n)(hab:a+8<=b)(hn:n<=1100) :
  ze Tryz.prog 253 [.slice (some (p,0)) n f e,I a,I b,cf] M (fun w M'=>∃(x:Nat) (h:Int),w=.tup [I x,I h] /\ a<=x /\ x < b /\ Grow M M'):=by
 refine zf k253 rfl ?_
 delta x253;refine un ?_
 obtain⟨l,rfl⟩:∃ l,b=a+l:=⟨b - a,by omega⟩
 have v1:((a+l / 4:Nat):Int)=(a:Int)+(((a+l:Nat):Int) - (a:Int)) / 4*1:=by omega
 have v2:((a+l / 4*2:Nat):Int)=(a:Int)+(((a+l:Nat):Int) - (a:Int)) / 4*2:=by omega
 have v3:((a+l / 4*3:Nat):Int)=(a:Int)+(((a+l:Nat):Int) - (a:Int)) / 4*3:=by omega
 repeat' first|with_reducible intro _|refine sv ?_|refine ss ?_ ?_<;>(intro h;first|exact sz h|refine sy h ?_)|exact sq|fail
 all_goals try(exfalso;omega)
 ·rename_i q M1 hN1 e1 e2 h50
  have hq1:At M1 q (.cells true [I 0] 3):=At.new_same hN1
  have hA1:KT M1 p n ty G:=At.grow hN1.grow hA
  have hpq:p ≠ q:=by have:=hA.2;omega
  have c1:=zai (f:=f) (e:=e) (a:=a+l / 4) hA1 hq1 hpq (by omega) hn (by omega)
  rw[v1] at c1
  repeat' first|with_reducible intro _|refine sv ?_|((with_reducible first|apply zt|apply zz|apply zn);exact gd;exact rfl;exact rfl;(first|exact c1))|refine ss ?_ ?_<;>(intro h;first|exact sz h|refine sy h ?_)|exact sq|fail
  rename_i w1 M2 hh
  obtain⟨x1,d1,rfl,hx1,hx1',hd1,hd1',hq2,hk2⟩:=hh
  have hA2:KT M2 p n ty G:=hA1.keep hk2 hpq
  have c2:=zai (f:=f) (e:=e) (a:=a+l / 4*2) hA2 hq2 hpq (by omega) hn (by omega)
  rw[v2] at c2
  repeat' first|with_reducible intro _|refine sv ?_|((with_reducible first|apply zt|apply zz|apply zn);exact gd;exact rfl;exact rfl;(first|exact c2))|refine ss ?_ ?_<;>(intro h;first|exact sz h|refine sy h ?_)|exact sq|fail
  rename_i w2 M3 hh
  obtain⟨x2,d2,rfl,hx2,hx2',hd2,hd2',hq3,hk3⟩:=hh
  have hA3:KT M3 p n ty G:=hA2.keep hk3 hpq
  have c3:=zai (f:=f) (e:=e) (a:=a+l / 4*3) hA3 hq3 hpq (by omega) hn (by omega)
  rw[v3] at c3
  repeat' first|with_reducible intro _|refine sv ?_|((with_reducible first|apply zt|apply zz|apply zn);exact gd;exact rfl;exact rfl;(first|exact c3))|refine ss ?_ ?_<;>(intro h;first|exact sz h|refine sy h ?_)|exact sq|fail
  rename_i w3 M4 hh
  obtain⟨x3,d3,rfl,hx3,hx3',hd3,hd3',hq4,hk4⟩:=hh
  have hA4:KT M4 p n ty G:=hA3.keep hk4 hpq
  have c4:=zaj (f:=f) (e:=e) (a:=x1) (b:=x2) (d:=x3) hA4 hq4 hpq (by omega) (by omega) (by omega) hn (by omega)
  repeat' first|with_reducible intro _|refine sv ?_|((with_reducible first|apply zt|apply zz|apply zn);exact gd;exact rfl;exact rfl;(first|exact c4))|refine ss ?_ ?_<;>(intro h;first|exact sz h|refine sy h ?_)|exact sq|fail
  rename_i w9 M9 hh
  obtain⟨x9,d9,rfl,hx9,hd9,hd9',hq9,hk9⟩:=hh
  have hgr:Grow M M9:=Keep.to_grow' hN1.grow (((hk2.trans hk3 (fun i hi=>.inl hi)).trans hk4 (fun i hi=>.inl hi)).trans hk9 (fun i hi=>.inl hi)) (fun i hi=>by omega)
  repeat' first|with_reducible intro _|refine sv ?_|refine ss ?_ ?_<;>(intro h;first|exact sz h|refine sy h ?_)|exact sq|fail
  all_goals ((refine kf ?_);exact⟨x9,_,rfl,by omega,by omega,hgr⟩)
 ·rename_i q M1 hN1 e1 e2 h50
  have hq1:At M1 q (.cells true [I 0] 3):=At.new_same hN1
  have hA1:KT M1 p n ty G:=At.grow hN1.grow hA
  have hpq:p ≠ q:=by have:=hA.2;omega
  have c4:=zaj (f:=f) (e:=e) (a:=a+l / 4) (b:=a+l / 4*2) (d:=a+l / 4*3) hA1 hq1 hpq (by omega) (by omega) (by omega) hn (by omega)
  rw[v1,v2,v3] at c4
  repeat' first|with_reducible intro _|refine sv ?_|((with_reducible first|apply zt|apply zz|apply zn);exact gd;exact rfl;exact rfl;(first|exact c4))|refine ss ?_ ?_<;>(intro h;first|exact sz h|refine sy h ?_)|exact sq|fail
  rename_i w9 M9 hh
  obtain⟨x9,d9,rfl,hx9,hd9,hd9',hq9,hk9⟩:=hh
  have hgr:Grow M M9:=Keep.to_grow' hN1.grow hk9 (fun i hi=>by omega)
  repeat' first|with_reducible intro _|refine sv ?_|refine ss ?_ ?_<;>(intro h;first|exact sz h|refine sy h ?_)|exact sq|fail
  all_goals ((refine kf ?_);exact⟨x9,_,rfl,by omega,by omega,hgr⟩)
set_option maxHeartbeats 16000000 in
theorem zqy{M:Mem}{p n a b x:Nat}{f:Bool}{e:Nat}{ty:TypeId}{G:Nat->Ky}(hA:KT M p n ty G)(hb:b<=n)(hax:a<=x)(hxb:x < b)(hn:n<=1100) :
  ze Tryz.prog 257 [.slice (some (p,0)) n f e,I a,I b,I x,cf] M (fun w M'=>∃(m:Nat) (q:Bool) (G':Nat->Ky),w=.tup [I m,.bool q] /\ Parted a b m G' /\ Sw a b G G' /\ KT M' p n ty G' /\ Keep (fun i=>i=p) M M'):=by
 refine zf k257 rfl ?_
 delta x257;refine un ?_
 have hr1:=z0z hA (show a < n by omega)
 have hr2:=z0z hA (show x < n by omega)
 (have hrd0:=hr1;have hrd1:=hr2;repeat' (first|(with_reducible intro _)|refine sv ?_|refine ss ?_ ?_<;>(intro h;first|exact sz h|refine sy h ?_)|exact sq|fail))
 refine d_st (by exact gd) rfl rfl hA rfl rfl (z0r (by omega) (G x)) ?_
 intro M7 hU7 e7 hA7
 repeat' first|with_reducible intro _|refine sv ?_|refine ss ?_ ?_<;>(intro h;first|exact sz h|refine sy h ?_)|exact sq|fail
 refine d_st (by exact gd) rfl rfl hA7 rfl rfl (z0r (by omega) (G a)) ?_
 intro M8 hU8 e8 hK
 have hkk:Keep (fun i=>i=p) M M8:=xk
 have hK:KT M8 p n ty (sw G a x):=hK
 have hw:Sw a b G (sw G a x):=.one (by omega) (by omega) hax hxb
 generalize sw G a x=G1 at *
 clear hr1 hr2 hA hU7 e7 hA7 hU8 e8
 repeat' first|with_reducible intro _|refine sv ?_|refine ss ?_ ?_<;>(intro h;first|exact sz h|refine sy h ?_)|exact sq|fail
 have hP:PL a b (a+1) (b - 1) G1:=PL.start (by omega)
 rw[show(b:Int) - 1=((b - 1:Nat):Int) by omega]
 have hj0:b - 1 < b:=by omega
 generalize b - 1=j0 at *
 refine z27 (K:=fun x E ms M'=>x=.exit 0 /\ ms=[] /\ ∃ i,PL a b i j0 G1 /\ (i<=j0->¬ klt (G1 i) (G1 a)) /\ Has E [(0,.slice (some (p,0)) n f e),(1,I a),(4,cf),(12,I i),(13,I j0)] /\ KT M' p n ty G1 /\ Keep (fun i=>i=p) M M') ?_ ?_
 ·refine zi (fun z E ms M'=>∃ i,z=b+2 - i /\ PL a b i j0 G1 /\ ms=[] /\ Has E [(0,.slice (some (p,0)) n f e),(1,I a),(4,cf),(12,I i),(13,I j0)] /\ KT M' p n ty G1 /\ Keep (fun i=>i=p) M M')
   ?_ (b+2 - (a+1)) _ _ _ ⟨(a+1),rfl,hP,rfl,.cons rfl (.cons rfl (.cons rfl (.cons rfl (.cons rfl .nil)))),hK,hkk⟩
  rintro z E ms M5 ⟨i,rfl,hP,rfl,hE,hK,hkk⟩
  refine z02 hE ?_
  have hP9:=hP
  obtain⟨g1,g2,g3,-,-⟩:=hP9
  by_cases hij:i<=j0
  case neg =>
   repeat' first|with_reducible intro _|refine sv ?_|refine ss ?_ ?_<;>(intro h;first|exact sz h|refine sy h ?_)|exact sq|fail
   all_goals try(exfalso;omega)
   exact⟨rfl,rfl,i,hP,fun hh=>absurd hh hij,.cons rfl (.cons rfl (.cons rfl (.cons rfl (.cons rfl .nil)))),hK,hkk⟩
  have hr1:=z0z hK (show i < n by omega)
  have hr2:=z0z hK (show a < n by omega)
  have co:=fun M'=>z2x (G1 i) (G1 a) M'
  (have hrd0:=hr1;have hrd1:=hr2;repeat' (first|(with_reducible intro _)|refine sv ?_|((with_reducible first|apply zp|apply zo|apply zj);exact gd;exact rfl;exact rfl;(first|exact co _))|refine ss ?_ ?_<;>(intro h;first|exact sz h|refine sy h ?_)|exact sq|fail))
  all_goals try(exfalso;omega)
  ·rename_i hx M6 g6 q6
   have hlt:=(z0u (G1 i) (G1 a)).1 h
   exact zq (b+2 - (i+1)) (by omega) ⟨i+1,rfl,hP.up hij hlt,rfl,.cons rfl (.cons rfl (.cons rfl (.cons rfl (.cons rfl .nil)))),hK.grow g6,xk⟩
  ·rename_i hx M6 g6 q6
   have hkk6:Keep (fun i=>i=p) M M6:=xk
   exact⟨rfl,rfl,i,hP,fun _ hh=>absurd ((z0u _ _).2 hh) (Int.not_lt.2 h),.cons rfl (.cons rfl (.cons rfl (.cons rfl (.cons rfl .nil)))),hK.grow g6,hkk6⟩
 rintro x E ms M10 ⟨rfl,rfl,i1,hP,hxi,hE,hK,hkk⟩
 apply z1s
 apply z43
 refine z02 hE ?_
 repeat' first|with_reducible intro _|refine sv ?_|refine ss ?_ ?_<;>(intro h;first|exact sz h|refine sy h ?_)|exact sq|fail
 refine z27 (K:=fun x E ms M'=>x=.exit 2 /\ ms=[] /\ ∃ j,j<=j0 /\ PL a b i1 j G1 /\ (i1<=j->klt (G1 j) (G1 a)) /\ (i1<=j->¬ klt (G1 i1) (G1 a)) /\ Has E [(0,.slice (some (p,0)) n f e),(1,I a),(4,cf),(12,I i1),(13,I j)] /\ KT M' p n ty G1 /\ Keep (fun i=>i=p) M M') ?_ ?_
 ·refine zi (fun z E ms M'=>z<=j0 /\ PL a b i1 z G1 /\ (i1<=z->¬ klt (G1 i1) (G1 a)) /\ ms=[] /\ Has E [(0,.slice (some (p,0)) n f e),(1,I a),(4,cf),(12,I i1),(13,I z)] /\ KT M' p n ty G1 /\ Keep (fun i=>i=p) M M')
   ?_ j0 _ _ _ ⟨Nat.le_refl _,hP,hxi,rfl,.cons rfl (.cons rfl (.cons rfl (.cons rfl (.cons rfl .nil)))),hK,hkk⟩
  rintro j E ms M5 ⟨hjj,hP,hxi,rfl,hE,hK,hkk⟩
  refine z02 hE ?_
  have hP9:=hP
  obtain⟨g1,g2,g3,-,-⟩:=hP9
  by_cases hij:i1<=j
  case neg =>
   repeat' first|with_reducible intro _|refine sv ?_|refine ss ?_ ?_<;>(intro h;first|exact sz h|refine sy h ?_)|exact sq|fail
   all_goals try(exfalso;omega)
   exact⟨rfl,rfl,j,hjj,hP,fun hh=>absurd hh hij,fun hh=>absurd hh hij,.cons rfl (.cons rfl (.cons rfl (.cons rfl (.cons rfl .nil)))),hK,hkk⟩
  have hr1:=z0z hK (show j < n by omega)
  have hr2:=z0z hK (show a < n by omega)
  have co:=fun M'=>z2x (G1 j) (G1 a) M'
  (have hrd0:=hr1;have hrd1:=hr2;repeat' (first|(with_reducible intro _)|refine sv ?_|((with_reducible first|apply zp|apply zo|apply zj);exact gd;exact rfl;exact rfl;(first|exact co _))|refine ss ?_ ?_<;>(intro h;first|exact sz h|refine sy h ?_)|exact sq|fail))
  all_goals try(exfalso;omega)
  ·rename_i hx M6 g6 q6
   obtain⟨j',rfl⟩:∃ j',j=j' + 1:=⟨j - 1,by omega⟩
   have hge:¬ klt (G1 (j' + 1)) (G1 a):=fun hh=>absurd ((z0u _ _).2 hh) (Int.not_lt.2 h)
   have hkk6:Keep (fun i=>i=p) M M6:=xk
   refine zq j' (by omega) ⟨by omega,hP.down hij hge,fun hh=>hxi (by omega),rfl,.cons rfl (.cons rfl (.cons rfl (.cons rfl (.cons ?_ .nil)))),hK.grow g6,hkk6⟩
   show some (I _)=some (I _)
   rw[show(((j' + 1:Nat):Int) - 1)=(j':Int) by omega]
  ·rename_i hx M6 g6 q6
   have hlt:=(z0u (G1 j) (G1 a)).1 h
   have hkk6:Keep (fun i=>i=p) M M6:=xk
   exact⟨rfl,rfl,j,hjj,hP,fun _=>hlt,hxi,.cons rfl (.cons rfl (.cons rfl (.cons rfl (.cons rfl .nil)))),hK.grow g6,hkk6⟩
 rintro x E ms M11 ⟨rfl,rfl,j1,hjj,hP,hxj,hxi,hE,hK,hkk⟩
 apply z1s
 apply z43
 have hP1:=hP
 obtain⟨g1,g2,g3,-,-⟩:=hP1
 refine z02 hE ?_
 by_cases hij:j1 < i1
 case pos =>
  have hr1:=z0z hK (show j1 < n by omega)
  have hr2:=z0z hK (show a < n by omega)
  (have hrd0:=hr1;have hrd1:=hr2;repeat' (first|(with_reducible intro _)|refine sv ?_|refine ss ?_ ?_<;>(intro h;first|exact sz h|refine sy h ?_)|exact sq|fail))
  all_goals try(exfalso;omega)
  have hKs:=hK
  refine d_st (by exact gd) rfl rfl hKs rfl rfl (z0r (by omega) (G1 a)) ?_
  intro M17 hU17 e17 hA17
  repeat' first|with_reducible intro _|refine sv ?_|refine ss ?_ ?_<;>(intro h;first|exact sz h|refine sy h ?_)|exact sq|fail
  refine d_st (by exact gd) rfl rfl hA17 rfl rfl (z0r (by omega) (G1 j1)) ?_
  intro M12 hU18 e18 hK
  have hkk:Keep (fun i=>i=p) M M12:=xk
  have hK:KT M12 p n ty (sw G1 j1 a):=hK
  clear hr1 hr2 hKs hU17 e17 hA17 hU18 e18
  have hw2:Sw a b G (sw G1 j1 a):=.step hw (by omega) (by omega) (by omega) (by omega)
  have hd:=hP.done hij
  repeat' first|with_reducible intro _|refine sv ?_|refine ss ?_ ?_<;>(intro h;first|exact sz h|refine sy h ?_)|exact sq|fail
  refine kf ?_
  exact⟨j1,true,_,rfl,hd,hw2,hK,hkk⟩
 have hr1:=z0z hK (show i1 < n by omega)
 have hr2:=z0z hK (show j1 < n by omega)
 (have hrd0:=hr1;have hrd1:=hr2;repeat' (first|(with_reducible intro _)|refine sv ?_|refine ss ?_ ?_<;>(intro h;first|exact sz h|refine sy h ?_)|exact sq|fail))
 all_goals try(exfalso;omega)
 have hKs:=hK
 refine d_st (by exact gd) rfl rfl hKs rfl rfl (z0r (by omega) (G1 j1)) ?_
 intro M17 hU17 e17 hA17
 repeat' first|with_reducible intro _|refine sv ?_|refine ss ?_ ?_<;>(intro h;first|exact sz h|refine sy h ?_)|exact sq|fail
 refine d_st (by exact gd) rfl rfl hA17 rfl rfl (z0r (by omega) (G1 i1)) ?_
 intro M12 hU18 e18 hK
 have hkk:Keep (fun i=>i=p) M M12:=xk
 have hK:KT M12 p n ty (sw G1 i1 j1):=hK
 clear hr1 hr2 hKs hU17 e17 hA17 hU18 e18
 obtain⟨hij2,hP2⟩:=hP.swap (by omega) (hxi (by omega)) (hxj (by omega))
 have hw2:Sw a b G (sw G1 i1 j1):=.step hw (by omega) (by omega) (by omega) (by omega)
 repeat' first|with_reducible intro _|refine sv ?_|refine ss ?_ ?_<;>(intro h;first|exact sz h|refine sy h ?_)|exact sq|fail
 rw[show(j1:Int) - 1=((j1 - 1:Nat):Int) by omega]
 generalize hG2:sw G1 i1 j1=G2 at *
 generalize hJ2:j1 - 1=j2 at *
 refine zi (fun z E ms M'=>∃(i:Nat) (G':Nat->Ky),PL a b i z G' /\ Sw a b G G' /\ ms=[] /\ Has E [(0,.slice (some (p,0)) n f e),(1,I a),(4,cf),(12,I i),(13,I z)] /\ KT M' p n ty G' /\ Keep (fun i=>i=p) M M')
  ?_ j2 _ _ _ ⟨i1+1,G2,hP2,hw2,rfl,.cons rfl (.cons rfl (.cons rfl (.cons rfl (.cons rfl .nil)))),hK,hkk⟩
 clear hK hkk hw2 hP2 hE hxi hxj hP
 rintro j3 E ms M3 ⟨i3,G3,hP,hw3,rfl,hE,hK,hkk⟩
 refine z02 hE ?_
 repeat' first|with_reducible intro _|refine sv ?_|refine ss ?_ ?_<;>(intro h;first|exact sz h|refine sy h ?_)|exact sq|fail
 refine z27 (K:=fun x E ms M'=>x=.exit 6 /\ ms=[] /\ ∃ i,PL a b i j3 G3 /\ (i<=j3->¬ klt (G3 i) (G3 a)) /\ Has E [(0,.slice (some (p,0)) n f e),(1,I a),(4,cf),(12,I i),(13,I j3)] /\ KT M' p n ty G3 /\ Keep (fun i=>i=p) M M') ?_ ?_
 ·refine zi (fun z E ms M'=>∃ i,z=b+2 - i /\ PL a b i j3 G3 /\ ms=[] /\ Has E [(0,.slice (some (p,0)) n f e),(1,I a),(4,cf),(12,I i),(13,I j3)] /\ KT M' p n ty G3 /\ Keep (fun i=>i=p) M M')
   ?_ (b+2 - i3) _ _ _ ⟨i3,rfl,hP,rfl,.cons rfl (.cons rfl (.cons rfl (.cons rfl (.cons rfl .nil)))),hK,hkk⟩
  rintro z E ms M5 ⟨i,rfl,hP,rfl,hE,hK,hkk⟩
  refine z02 hE ?_
  have hP9:=hP
  obtain⟨g1,g2,g3,-,-⟩:=hP9
  by_cases hij:i<=j3
  case neg =>
   repeat' first|with_reducible intro _|refine sv ?_|refine ss ?_ ?_<;>(intro h;first|exact sz h|refine sy h ?_)|exact sq|fail
   all_goals try(exfalso;omega)
   exact⟨rfl,rfl,i,hP,fun hh=>absurd hh hij,.cons rfl (.cons rfl (.cons rfl (.cons rfl (.cons rfl .nil)))),hK,hkk⟩
  have hr1:=z0z hK (show i < n by omega)
  have hr2:=z0z hK (show a < n by omega)
  have co:=fun M'=>z2x (G3 i) (G3 a) M'
  (have hrd0:=hr1;have hrd1:=hr2;repeat' (first|(with_reducible intro _)|refine sv ?_|((with_reducible first|apply zp|apply zo|apply zj);exact gd;exact rfl;exact rfl;(first|exact co _))|refine ss ?_ ?_<;>(intro h;first|exact sz h|refine sy h ?_)|exact sq|fail))
  all_goals try(exfalso;omega)
  ·rename_i hx M6 g6 q6
   have hlt:=(z0u (G3 i) (G3 a)).1 h
   exact zq (b+2 - (i+1)) (by omega) ⟨i+1,rfl,hP.up hij hlt,rfl,.cons rfl (.cons rfl (.cons rfl (.cons rfl (.cons rfl .nil)))),hK.grow g6,xk⟩
  ·rename_i hx M6 g6 q6
   have hkk6:Keep (fun i=>i=p) M M6:=xk
   exact⟨rfl,rfl,i,hP,fun _ hh=>absurd ((z0u _ _).2 hh) (Int.not_lt.2 h),.cons rfl (.cons rfl (.cons rfl (.cons rfl (.cons rfl .nil)))),hK.grow g6,hkk6⟩
 rintro x E ms M20 ⟨rfl,rfl,i4,hP,hxi,hE,hK,hkk⟩
 apply z1s
 apply z43
 refine z02 hE ?_
 repeat' first|with_reducible intro _|refine sv ?_|refine ss ?_ ?_<;>(intro h;first|exact sz h|refine sy h ?_)|exact sq|fail
 refine z27 (K:=fun x E ms M'=>x=.exit 8 /\ ms=[] /\ ∃ j,j<=j3 /\ PL a b i4 j G3 /\ (i4<=j->klt (G3 j) (G3 a)) /\ (i4<=j->¬ klt (G3 i4) (G3 a)) /\ Has E [(0,.slice (some (p,0)) n f e),(1,I a),(4,cf),(12,I i4),(13,I j)] /\ KT M' p n ty G3 /\ Keep (fun i=>i=p) M M') ?_ ?_
 ·refine zi (fun z E ms M'=>z<=j3 /\ PL a b i4 z G3 /\ (i4<=z->¬ klt (G3 i4) (G3 a)) /\ ms=[] /\ Has E [(0,.slice (some (p,0)) n f e),(1,I a),(4,cf),(12,I i4),(13,I z)] /\ KT M' p n ty G3 /\ Keep (fun i=>i=p) M M')
   ?_ j3 _ _ _ ⟨Nat.le_refl _,hP,hxi,rfl,.cons rfl (.cons rfl (.cons rfl (.cons rfl (.cons rfl .nil)))),hK,hkk⟩
  rintro j E ms M5 ⟨hjj,hP,hxi,rfl,hE,hK,hkk⟩
  refine z02 hE ?_
  have hP9:=hP
  obtain⟨g1,g2,g3,-,-⟩:=hP9
  by_cases hij:i4<=j
  case neg =>
   repeat' first|with_reducible intro _|refine sv ?_|refine ss ?_ ?_<;>(intro h;first|exact sz h|refine sy h ?_)|exact sq|fail
   all_goals try(exfalso;omega)
   exact⟨rfl,rfl,j,hjj,hP,fun hh=>absurd hh hij,fun hh=>absurd hh hij,.cons rfl (.cons rfl (.cons rfl (.cons rfl (.cons rfl .nil)))),hK,hkk⟩
  have hr1:=z0z hK (show j < n by omega)
  have hr2:=z0z hK (show a < n by omega)
  have co:=fun M'=>z2x (G3 j) (G3 a) M'
  (have hrd0:=hr1;have hrd1:=hr2;repeat' (first|(with_reducible intro _)|refine sv ?_|((with_reducible first|apply zp|apply zo|apply zj);exact gd;exact rfl;exact rfl;(first|exact co _))|refine ss ?_ ?_<;>(intro h;first|exact sz h|refine sy h ?_)|exact sq|fail))
  all_goals try(exfalso;omega)
  ·rename_i hx M6 g6 q6
   obtain⟨j',rfl⟩:∃ j',j=j' + 1:=⟨j - 1,by omega⟩
   have hge:¬ klt (G3 (j' + 1)) (G3 a):=fun hh=>absurd ((z0u _ _).2 hh) (Int.not_lt.2 h)
   have hkk6:Keep (fun i=>i=p) M M6:=xk
   refine zq j' (by omega) ⟨by omega,hP.down hij hge,fun hh=>hxi (by omega),rfl,.cons rfl (.cons rfl (.cons rfl (.cons rfl (.cons ?_ .nil)))),hK.grow g6,hkk6⟩
   show some (I _)=some (I _)
   rw[show(((j' + 1:Nat):Int) - 1)=(j':Int) by omega]
  ·rename_i hx M6 g6 q6
   have hlt:=(z0u (G3 j) (G3 a)).1 h
   have hkk6:Keep (fun i=>i=p) M M6:=xk
   exact⟨rfl,rfl,j,hjj,hP,fun _=>hlt,hxi,.cons rfl (.cons rfl (.cons rfl (.cons rfl (.cons rfl .nil)))),hK.grow g6,hkk6⟩
 rintro x E ms M21 ⟨rfl,rfl,j4,hjj,hP,hxj,hxi,hE,hK,hkk⟩
 apply z1s
 apply z43
 have hP1:=hP
 obtain⟨k1,k2,k3,-,-⟩:=hP1
 refine z02 hE ?_
 by_cases hij4:j4 < i4
 case pos =>
  have hr1:=z0z hK (show j4 < n by omega)
  have hr2:=z0z hK (show a < n by omega)
  (have hrd0:=hr1;have hrd1:=hr2;repeat' (first|(with_reducible intro _)|refine sv ?_|refine ss ?_ ?_<;>(intro h;first|exact sz h|refine sy h ?_)|exact sq|fail))
  all_goals try(exfalso;omega)
  have hKs:=hK
  refine d_st (by exact gd) rfl rfl hKs rfl rfl (z0r (by omega) (G3 a)) ?_
  intro M17 hU17 e17 hA17
  repeat' first|with_reducible intro _|refine sv ?_|refine ss ?_ ?_<;>(intro h;first|exact sz h|refine sy h ?_)|exact sq|fail
  refine d_st (by exact gd) rfl rfl hA17 rfl rfl (z0r (by omega) (G3 j4)) ?_
  intro M22 hU18 e18 hK
  have hkk:Keep (fun i=>i=p) M M22:=xk
  have hK:KT M22 p n ty (sw G3 j4 a):=hK
  clear hr1 hr2 hKs hU17 e17 hA17 hU18 e18
  have hw4:Sw a b G (sw G3 j4 a):=.step hw3 (by omega) (by omega) (by omega) (by omega)
  have hd:=hP.done hij4
  repeat' first|with_reducible intro _|refine sv ?_|refine ss ?_ ?_<;>(intro h;first|exact sz h|refine sy h ?_)|exact sq|fail
  refine kf ?_
  exact⟨j4,false,_,rfl,hd,hw4,hK,hkk⟩
 have hr1:=z0z hK (show i4 < n by omega)
 have hr2:=z0z hK (show j4 < n by omega)
 (have hrd0:=hr1;have hrd1:=hr2;repeat' (first|(with_reducible intro _)|refine sv ?_|refine ss ?_ ?_<;>(intro h;first|exact sz h|refine sy h ?_)|exact sq|fail))
 all_goals try(exfalso;omega)
 have hKs:=hK
 refine d_st (by exact gd) rfl rfl hKs rfl rfl (z0r (by omega) (G3 j4)) ?_
 intro M17 hU17 e17 hA17
 repeat' first|with_reducible intro _|refine sv ?_|refine ss ?_ ?_<;>(intro h;first|exact sz h|refine sy h ?_)|exact sq|fail
 refine d_st (by exact gd) rfl rfl hA17 rfl rfl (z0r (by omega) (G3 i4)) ?_
 intro M22 hU18 e18 hK
 have hkk:Keep (fun i=>i=p) M M22:=xk
 have hK:KT M22 p n ty (sw G3 i4 j4):=hK
 clear hr1 hr2 hKs hU17 e17 hA17 hU18 e18
 obtain⟨hij5,hP5⟩:=hP.swap (by omega) (hxi (by omega)) (hxj (by omega))
 have hw5:Sw a b G (sw G3 i4 j4):=.step hw3 (by omega) (by omega) (by omega) (by omega)
 repeat' first|with_reducible intro _|refine sv ?_|refine ss ?_ ?_<;>(intro h;first|exact sz h|refine sy h ?_)|exact sq|fail
 refine zq (j4 - 1) (by omega) ⟨i4+1,_,hP5,hw5,rfl,.cons rfl (.cons rfl (.cons rfl (.cons rfl (.cons ?_ .nil)))),hK,hkk⟩
 show some (I _)=some (I _)
 rw[show((j4 - 1:Nat):Int)=(j4:Int) - 1 by omega]
abbrev PE(p n:Nat)(f:Bool)(e:Nat)(a b:Nat)(lim:Int)(wb wp:Bool)(l:Env):Env:=(0,.slice (some (p,0)) n f e) ::(1,I a) ::(2,I b) ::(3,I lim) ::(4,cf) ::(10,.bool wb) ::(11,.bool wp) :: l
theorem pe9{E l:Env}{p n:Nat}{f:Bool}{e:Nat}{a b:Nat}{lim:Int}{wb wp:Bool}(h:Has E l)(h0:PvL.look E 0=some (.slice (some (p,0)) n f e):=by exact rfl)(h1:PvL.look E 1=some (I a):=by exact rfl)(h2:PvL.look E 2=some (I b):=by exact rfl)(h3:PvL.look E 3=some (I lim):=by exact rfl)(h4:PvL.look E 4=some cf:=by exact rfl)(h5:PvL.look E 10=some (.bool wb):=by exact rfl)(h6:PvL.look E 11=some (.bool wp):=by exact rfl):Has E (PE p n f e a b lim wb wp l) :=
 .cons h0 (.cons h1 (.cons h2 (.cons h3 (.cons h4 (.cons h5 (.cons h6 h))))))
set_option maxHeartbeats 16000000 in
theorem zta{p n:Nat}{f:Bool}{e:Nat}{ty:TypeId}(hn:n<=1100):∀(N:Nat) {M:Mem} {a b:Nat} {lim:Int} {G:Nat->Ky},b - a < N->KT M p n ty G->b<=n->a<=b->Inj n G->Lo a b G->0<=lim /\ lim<=1000 ->
  ze Tryz.prog 204 [.slice (some (p,0)) n f e,I a,I b,I lim,cf] M (fun w M'=>∃ G',Sw a b G G' /\ Srt a b G' /\ KT M' p n ty G' /\ Keep (fun i=>i=p) M M'):=by
 intro N
 induction N with
 | zero=>intro M a b lim G h;omega
 | succ N ih =>
 intro M a b lim G hN hA hb hab hij hlo hlim
 refine zf k204 rfl ?_
 delta x204;refine un ?_
 repeat' first|with_reducible intro _|refine sv ?_|refine ss ?_ ?_<;>(intro h;first|exact sz h|refine sy h ?_)|exact sq|fail
 refine zi (fun z E ms M'=>∃(a' b':Nat) (lim':Int) (wb wp:Bool) (G':Nat->Ky),z=b' - a' /\ a<=a' /\ a'<=b' /\ b'<=b /\ (0<=lim' /\ lim'<=1000) /\ ms=[] /\ Has E (PE p n f e a' b' lim' wb wp []) /\ Sw a b G G' /\ Out a b a' b' G' /\ Inj n G' /\ Lo a' b' G' /\ KT M' p n ty G' /\ Keep (fun i=>i=p) M M')
  ?_ (b - a) _ _ _ ⟨a,b,lim,true,true,G,rfl,by omega,hab,by omega,hlim,rfl,pe9 .nil,.refl,Out.start,hij,hlo,hA,Keep.refl _ _⟩
 clear hA hlo hlim hij lim
 rintro z E ms M1 ⟨a',b',lim,wb,wp,G1,rfl,ha1,hab1,hb1,hlim,rfl,hE,hw1,ho1,hij1,hlo1,hA1,hk1⟩
 refine z02 hE ?_
 by_cases hshort:b'<=a' + 12
 ·repeat' first|with_reducible intro _|refine sv ?_|((with_reducible first|apply zt|apply zz|apply zn);exact gd;exact rfl;exact rfl;(first|exact zt8 hA1 (show b'<=n by omega) hab1 (by omega)))|refine ss ?_ ?_<;>(intro h;first|exact sz h|refine sy h ?_)|exact sq|fail
  all_goals try(exfalso;omega)
  rename_i hq
  obtain⟨G2,hw2,hs2,hA2,hk2⟩:=hq
  refine kf ?_
  exact⟨G2,hw1.trans (hw2.wider ha1 hb1),(ho1.sw hw2 ha1 hb1).fin hs2,hA2,hk1.trans hk2 (fun i hi=>.inl hi)⟩
 by_cases hl0:lim=0
 ·subst hl0
  repeat' first|with_reducible intro _|refine sv ?_|((with_reducible first|apply zt|apply zz|apply zn);exact gd;exact rfl;exact rfl;(first|exact zqs hA1 (show b'<=n by omega) (show a' < b' by omega) (by omega)))|refine ss ?_ ?_<;>(intro h;first|exact sz h|refine sy h ?_)|exact sq|fail
  all_goals try(exfalso;omega)
  rename_i hq
  obtain⟨G2,hw2,hs2,hA2,hk2⟩:=hq
  refine kf ?_
  exact⟨G2,hw1.trans (hw2.wider ha1 hb1),(ho1.sw hw2 ha1 hb1).fin hs2,hA2,hk1.trans hk2 (fun i hi=>.inl hi)⟩
 apply zjo
 apply z7b
 refine z27 (K:=fun x E ms M'=>x=.norm /\ ms=[] /\ Has E (PE p n f e a' b' lim wb wp [(12,I ((b':Int) - a'))]) /\ M'=M1) ?_ ?_
 ·repeat' first|with_reducible intro _|refine sv ?_|refine ss ?_ ?_<;>(intro h;first|exact sz h|refine sy h ?_)|exact sq|fail
  exact⟨rfl,rfl,pe9 (.cons rfl .nil),rfl⟩
 clear hE
 rintro x E ms M2 ⟨rfl,rfl,hE,rfl⟩
 apply z43
 refine z02 hE ?_
 apply z7b
 refine z27 (K:=fun x E ms M'=>x=.norm /\ ms=[] /\ Has E (PE p n f e a' b' lim wb wp [(12,I ((b':Int) - a'))]) /\ M'=M2) ?_ ?_
 ·repeat' first|with_reducible intro _|refine sv ?_|refine ss ?_ ?_<;>(intro h;first|exact sz h|refine sy h ?_)|exact sq|fail
  all_goals try(exfalso;omega)
  exact⟨rfl,rfl,pe9 (.cons rfl .nil),rfl⟩
 clear hE
 rintro x E ms M3 ⟨rfl,rfl,hE,rfl⟩
 apply z43
 refine z02 hE ?_
 apply z7b
 refine z27 (K:=fun x E ms M'=>x=.norm /\ ms=[] /\ Has E (PE p n f e a' b' lim wb wp [(12,I ((b':Int) - a'))]) /\ M'=M3) ?_ ?_
 ·repeat' first|with_reducible intro _|refine sv ?_|refine ss ?_ ?_<;>(intro h;first|exact sz h|refine sy h ?_)|exact sq|fail
  all_goals try(exfalso;omega)
  exact⟨rfl,rfl,pe9 (.cons rfl .nil),rfl⟩
 clear hE
 rintro x E ms M4 ⟨rfl,rfl,hE,rfl⟩
 apply z43
 refine z02 hE ?_
 apply z7b
 refine z27 (K:=fun x E ms M'=>x=.norm /\ ms=[] /\ ∃(lim':Int) (G':Nat->Ky),(0<=lim' /\ lim'<=1000) /\ Has E (PE p n f e a' b' lim' wb wp [(12,I ((b':Int) - a'))]) /\ Sw a' b' G1 G' /\ KT M' p n ty G' /\ Keep (fun i=>i=p) M M') ?_ ?_
 ·cases wb with
  | true =>
   repeat' first|with_reducible intro _|refine sv ?_|refine ss ?_ ?_<;>(intro h;first|exact sz h|refine sy h ?_)|exact sq|fail
   exact⟨rfl,rfl,lim,G1,hlim,pe9 (.cons rfl .nil),.refl,hA1,hk1⟩
  | false =>
   repeat' first|with_reducible intro _|refine sv ?_|((with_reducible first|apply zt|apply zz|apply zn);exact gd;exact rfl;exact rfl;(first|exact zo5 hA1 (show b'<=n by omega) (show a' + 8<=b' by omega) hn))|refine ss ?_ ?_<;>(intro h;first|exact sz h|refine sy h ?_)|exact sq|fail
   rename_i hq
   obtain⟨G2,hw2,hA2,hk2⟩:=hq
   repeat' first|with_reducible intro _|refine sv ?_|refine ss ?_ ?_<;>(intro h;first|exact sz h|refine sy h ?_)|exact sq|fail
   exact⟨rfl,rfl,lim - 1,G2,by omega,pe9 (.cons rfl .nil),hw2,hA2,hk1.trans hk2 (fun i hi=>.inl hi)⟩
 clear hE hlim
 rintro x E ms M5 ⟨rfl,rfl,lim2,G2,hlim,hE,hw2,hA2,hk2⟩
 have ho2:=ho1.sw hw2 ha1 hb1
 have hij2:=hw2.inj (show b'<=n by omega) hij1
 have hlo2:=hlo1.sw hw2 (Nat.le_refl _) (Nat.le_refl _)
 have hw3:=hw1.trans (hw2.wider ha1 hb1)
 clear hw1 ho1 hij1 hlo1 hA1 hk1 hl0 lim hw2 G1
 apply z43
 refine z02 hE ?_
 apply z7b
 refine z27 (K:=fun x E ms M'=>x=.norm /\ ms=[] /\ ∃(x:Nat) (h:Int),a'<=x /\ x < b' /\ Has E (PE p n f e a' b' lim2 wb wp [(12,I ((b':Int) - a')),(13,I x),(14,I h)]) /\ KT M' p n ty G2 /\ Keep (fun i=>i=p) M M') ?_ ?_
 ·repeat' first|with_reducible intro _|refine sv ?_|((with_reducible first|apply zt|apply zz|apply zn);exact gd;exact rfl;exact rfl;(first|exact zkg hA2 (show b'<=n by omega) (show a' + 8<=b' by omega) (by omega)))|refine ss ?_ ?_<;>(intro h;first|exact sz h|refine sy h ?_)|exact sq|fail
  rename_i hq
  obtain⟨x,h,rfl,hx1,hx2,hg⟩:=hq
  repeat' first|with_reducible intro _|refine sv ?_|refine ss ?_ ?_<;>(intro h;first|exact sz h|refine sy h ?_)|exact sq|fail
  exact⟨rfl,rfl,x,h,hx1,hx2,pe9 (.cons rfl (.cons rfl (.cons rfl .nil))),hA2.grow hg,xk⟩
 clear hE hA2 hk2
 rintro x E ms M6 ⟨rfl,rfl,x,hh,hx1,hx2,hE,hA2,hk2⟩
 apply z43
 refine z02 hE ?_
 apply z7b
 refine z27 (K:=fun x E ms M'=>x=.norm /\ ms=[] /\ ∃(x:Nat) (h:Int) (G':Nat->Ky),a'<=x /\ x < b' /\ Has E (PE p n f e a' b' lim2 wb wp [(12,I ((b':Int) - a')),(13,I x),(14,I h)]) /\ Sw a' b' G2 G' /\ KT M' p n ty G' /\ Keep (fun i=>i=p) M M') ?_ ?_
 ·repeat' first|with_reducible intro _|refine sv ?_|((with_reducible first|apply zt|apply zz|apply zn);exact gd;exact rfl;exact rfl;(first|exact zhc hA2 (show b'<=n by omega) (show a' < b' by omega) (by omega)))|refine ss ?_ ?_<;>(intro h;first|exact sz h|refine sy h ?_)|exact sq|fail
  ·rename_i hq
   obtain⟨G3,hw4,hA3,hk3⟩:=hq
   repeat' first|with_reducible intro _|refine sv ?_|refine ss ?_ ?_<;>(intro h;first|exact sz h|refine sy h ?_)|exact sq|fail
   refine⟨rfl,rfl,b' - 1 - (x - a'),1,G3,by omega,by omega,pe9 (.cons rfl (.cons ?_ (.cons rfl .nil))),hw4,hA3,hk2.trans hk3 (fun i hi=>.inl hi)⟩
   show some (I _)=some (I _)
   rw[show((b' - 1 - (x - a'):Nat):Int)=(b':Int) - 1 - ((x:Int) - a') by omega]
  ·exact⟨rfl,rfl,x,hh,G2,hx1,hx2,pe9 (.cons rfl (.cons rfl (.cons rfl .nil))),.refl,hA2,hk2⟩
 clear hE hA2 hk2 hx1 hx2 x hh
 rintro x E ms M7 ⟨rfl,rfl,x,hh,G3,hx1,hx2,hE,hw4,hA2,hk2⟩
 have ho3:=ho2.sw hw4 ha1 hb1
 have hij3:=hw4.inj (show b'<=n by omega) hij2
 have hlo3:=hlo2.sw hw4 (Nat.le_refl _) (Nat.le_refl _)
 have hw5:=hw3.trans (hw4.wider ha1 hb1)
 clear hw3 ho2 hij2 hlo2 hw4 G2
 apply z43
 refine z02 hE ?_
 apply z7b
 refine z27 (K:=fun x' E ms M'=>ms=[] /\ ((x'=.norm /\ ∃(G':Nat->Ky),Has E (PE p n f e a' b' lim2 wb wp [(12,I ((b':Int) - a')),(13,I x)]) /\ Sw a' b' G3 G' /\ KT M' p n ty G' /\ Keep (fun i=>i=p) M M') ∨(x'=.ret /\ ∃(G':Nat->Ky),Sw a' b' G3 G' /\ Srt a' b' G' /\ KT M' p n ty G' /\ Keep (fun i=>i=p) M M'))) ?_ ?_
 ·cases wb with
  | false =>
   repeat' first|with_reducible intro _|refine sv ?_|refine ss ?_ ?_<;>(intro h;first|exact sz h|refine sy h ?_)|exact sq|fail
   exact⟨rfl,.inl ⟨rfl,G3,pe9 (.cons rfl (.cons rfl .nil)),.refl,hA2,hk2⟩⟩
  | true =>
  cases wp with
  | false =>
   repeat' first|with_reducible intro _|refine sv ?_|refine ss ?_ ?_<;>(intro h;first|exact sz h|refine sy h ?_)|exact sq|fail
   exact⟨rfl,.inl ⟨rfl,G3,pe9 (.cons rfl (.cons rfl .nil)),.refl,hA2,hk2⟩⟩
  | true =>
   repeat' first|with_reducible intro _|refine sv ?_|((with_reducible first|apply zt|apply zz|apply zn);exact gd;exact rfl;exact rfl;(first|exact ztb hA2 (show b'<=n by omega) (show a' < b' by omega) (by omega) hlo3))|refine ss ?_ ?_<;>(intro h;first|exact sz h|refine sy h ?_)|exact sq|fail
   ·rename_i hq
    obtain⟨q,G4,rfl,hsq,hw6,hA4,hk4⟩:=hq
    cases q with
    | true =>
     repeat' first|with_reducible intro _|refine sv ?_|refine ss ?_ ?_<;>(intro h;first|exact sz h|refine sy h ?_)|exact sq|fail
     exact⟨rfl,.inr ⟨rfl,G4,hw6,hsq rfl,hA4,hk2.trans hk4 (fun i hi=>.inl hi)⟩⟩
    | false =>
     repeat' first|with_reducible intro _|refine sv ?_|refine ss ?_ ?_<;>(intro h;first|exact sz h|refine sy h ?_)|exact sq|fail
     exact⟨rfl,.inl ⟨rfl,G4,pe9 (.cons rfl (.cons rfl .nil)),hw6,hA4,hk2.trans hk4 (fun i hi=>.inl hi)⟩⟩
   ·exact⟨rfl,.inl ⟨rfl,G3,pe9 (.cons rfl (.cons rfl .nil)),.refl,hA2,hk2⟩⟩
 clear hE hA2 hk2
 rintro z E ms M8 ⟨rfl,⟨rfl,G4,hE,hw6,hA4,hk4⟩|⟨rfl,G4,hw6,hs6,hA4,hk4⟩⟩
 case inr =>
  repeat' first|with_reducible intro _|refine sv ?_|refine ss ?_ ?_<;>(intro h;first|exact sz h|refine sy h ?_)|exact sq|fail
  refine kf ?_
  exact⟨G4,hw5.trans (hw6.wider ha1 hb1),(ho3.sw hw6 ha1 hb1).fin hs6,hA4,hk4⟩
 have ho4:=ho3.sw hw6 ha1 hb1
 have hij4:=hw6.inj (show b'<=n by omega) hij3
 have hlo4:=hlo3.sw hw6 (Nat.le_refl _) (Nat.le_refl _)
 have hw7:=hw5.trans (hw6.wider ha1 hb1)
 clear hw5 ho3 hij3 hlo3 hw6 G3
 apply z43
 refine z02 hE ?_
 apply z7b
 refine z27 (K:=fun x' E ms M'=>x'=.norm /\ ms=[] /\ Has E (PE p n f e a' b' lim2 wb wp [(12,I ((b':Int) - a')),(13,I x)]) /\ KT M' p n ty G4 /\ Keep (fun i=>i=p) M M') ?_ ?_
 ·by_cases ha0:a'=0
  ·subst ha0
   repeat' first|with_reducible intro _|refine sv ?_|refine ss ?_ ?_<;>(intro h;first|exact sz h|refine sy h ?_)|exact sq|fail
   all_goals try(exfalso;omega)
   exact⟨rfl,rfl,pe9 (.cons rfl (.cons rfl .nil)),hA4,hk4⟩
  obtain⟨a2,rfl⟩:∃ a2,a'=a2+1:=⟨a' - 1,by omega⟩
  have hz:(((a2+1:Nat):Int) - 1).toNat=a2:=by omega
  have hr1:=z0z hA4 (show x < n by omega)
  have hr2:=z0z hA4 (show a2 < n by omega)
  have hr3:Rd M8 p (0+(((a2+1:Nat):Int) - 1).toNat*2) 2 [I (G4 a2).1,I (G4 a2).2]:=by rw[hz];exact hr2
  have co:=fun M'=>z2x (G4 a2) (G4 x) M'
  have hlt9:=(z0u (G4 a2) (G4 x)).2 ((hlo4.resolve_left ha0) x hx1 hx2)
  have hlt8:cmpC (G4 a2) (G4 x) < 0:=hlt9
  (have hrd0:=hr1;have hrd1:=hr3;repeat' (first|(with_reducible intro _)|refine sv ?_|((with_reducible first|apply zp|apply zo|apply zj);exact gd;exact rfl;exact rfl;(first|exact co _))|refine ss ?_ ?_<;>(intro h;first|exact sz h|refine sy h ?_)|exact sq|fail))
  all_goals try(exfalso;omega)
  rename_i M9 hg9 q9
  exact⟨rfl,rfl,pe9 (.cons rfl (.cons rfl .nil)),hA4.grow hg9,xk⟩
 clear hE hA4 hk4
 rintro z E ms M9 ⟨rfl,rfl,hE,hA4,hk4⟩
 apply z43
 refine z02 hE ?_
 repeat' first|with_reducible intro _|refine sv ?_|((with_reducible first|apply zt|apply zz|apply zn);exact gd;exact rfl;exact rfl;(first|exact zqy hA4 (show b'<=n by omega) hx1 hx2 (by omega)))|refine ss ?_ ?_<;>(intro h;first|exact sz h|refine sy h ?_)|exact sq|fail
 rename_i hq
 obtain⟨m,q,G5,rfl,hp5,hw8,hA5,hk5⟩:=hq
 have hm1:=hp5.1
 have hm2:=hp5.2.1
 have ho5:=ho4.sw hw8 ha1 hb1
 have hij5:=hw8.inj (show b'<=n by omega) hij4
 have hlo5:=hlo4.sw hw8 (Nat.le_refl _) (Nat.le_refl _)
 have hw9:=hw7.trans (hw8.wider ha1 hb1)
 have hk6:Keep (fun i=>i=p) M _:=hk4.trans hk5 (fun i hi=>.inl hi)
 clear hw7 ho4 hij4 hlo4 hw8 hA4 hk4 hk5 hE
 repeat' first|with_reducible intro _|refine sv ?_|((with_reducible first|apply zt|apply zz|apply zn);exact gd;exact rfl;exact rfl;(first|exact ih (b:=m) (by omega) hA5 (by omega) hm1 hij5 (hlo5.sub (Nat.le_of_lt hm2)) hlim|exact ih (a:=m+1) (by omega) hA5 (show b'<=n by omega) (by omega) hij5 (hp5.lo hij5 (by omega)) hlim))|refine ss ?_ ?_<;>(intro h;first|exact sz h|refine sy h ?_)|exact sq|fail
 ·rename_i hq
  obtain⟨G6,hw10,hs10,hA6,hk7⟩:=hq
  have hij6:=hw10.inj (show m<=n by omega) hij5
  have hp6:=hp5.sw hw10 (.inl ⟨Nat.le_refl _,Nat.le_refl _⟩)
  refine zq (b' - (m+1)) (by omega) ⟨m+1,b',lim2,_,_,G6,rfl,by omega,by omega,hb1,hlim,rfl,pe9 .nil (h1:=?_),hw9.trans (hw10.wider ha1 (by omega)),ho5.left hp5 hw10 hs10 ha1 hb1,hij6,hp6.lo hij6 (by omega),hA6,hk6.trans hk7 (fun i hi=>.inl hi)⟩
  show some (I _)=some (I _)
  rw[show((m+1:Nat):Int)=(m:Int)+1 by omega]
 ·rename_i hq
  obtain⟨G6,hw10,hs10,hA6,hk7⟩:=hq
  have hij6:=hw10.inj (show b'<=n by omega) hij5
  refine zq (m - a') (by omega) ⟨a',m,lim2,_,_,G6,rfl,ha1,hm1,by omega,hlim,rfl,pe9 .nil,hw9.trans (hw10.wider (by omega) hb1),ho5.right hp5 hw10 hs10 ha1 hb1,hij6,(hlo5.sw (hw10.wider (by omega) (Nat.le_refl _)) (Nat.le_refl _) (Nat.le_refl _)).sub (by omega),hA6,hk6.trans hk7 (fun i hi=>.inl hi)⟩
end Go.Proofs.YtpgalhbplcanhaaGreatDoor.C
end
section
open Go PvL Go.Proofs
set_option linter.unusedSimpArgs false
set_option linter.unusedVariables false
variable {μ:Md}
namespace Go.Proofs.YtpgalhbplcanhaaGreatDoor.C
theorem Sw.mem{n:Nat}{G G':Nat->Ky}(h:Sw 0 n G G')(k:Ky):(∃ t,t < n /\ G' t=k) ↔ ∃ t,t < n /\ G t=k:=by
 constructor
 ·rintro⟨t,ht,hk⟩
  have:=h.all (p:=fun k=>∃ t,t < n /\ G t=k) (fun t _ ht=>⟨t,ht,rfl⟩) t (Nat.zero_le _) ht
  rw[hk] at this;exact this
 ·induction h with
  | refl=>exact id
  | @step G' i j _ h1 h2 h3 h4 ih =>
   intro hk
   obtain⟨t,ht,hk⟩:=ih hk
   by_cases hi:t=i
   ·subst hi;exact⟨j,h4,by rw[sw_j];exact hk⟩
   ·by_cases hj:t=j
    ·subst hj;exact⟨i,h2,by rw[sw_i];exact hk⟩
    ·exact⟨t,ht,by rw[z4o hi hj];exact hk⟩
theorem zgo{ks:List Ky}:(List.range ks.length).map (fun i=>ks.getD i kz)=ks:=by
 refine List.ext_getElem (by simp) fun i h1 h2=>?_
 simp only[List.getElem_map,List.getElem_range]
 rw[List.getD_eq_getElem?_getD,List.getElem?_eq_getElem h2];rfl
theorem zqu{M:Mem}{a:Option (Nat × Nat)}{f:Bool}{e:Nat}:ze Tryz.prog 250 [.slice a 0 f e,I 0,I 0,cf] M (fun w M'=>M'=M):=by
 refine zf k250 rfl ?_
 delta x250;refine un ?_
 repeat' first|with_reducible intro _|refine sv ?_|refine su ?_|refine ss ?_ ?_<;>(intro h;first|exact sz h|refine sy h ?_)|exact sq|fail
 refine kf ?_
 rfl
theorem zqz{M:Mem}{a:Option (Nat × Nat)}{f:Bool}{e:Nat}{lim:Int}:ze Tryz.prog 204 [.slice a 0 f e,I 0,I 0,I lim,cf] M (fun w M'=>M'=M):=by
 refine zf k204 rfl ?_
 delta x204;refine un ?_
 repeat' first|with_reducible intro _|refine sv ?_|refine su ?_|((with_reducible first|apply zt|apply zz|apply zn);exact gd;exact rfl;exact rfl;(first|exact zqu))|refine ss ?_ ?_<;>(intro h;first|exact sz h|refine sy h ?_)|exact sq|fail
 rename_i hq
 subst hq
 repeat' first|with_reducible intro _|refine sv ?_|refine ss ?_ ?_<;>(intro h;first|exact sz h|refine sy h ?_)|exact sq|fail
 refine kf ?_
 rfl
set_option maxHeartbeats 4000000 in
theorem zfp{M:Mem}{b:Nat}{v:LV}{ks:List Ky}(hv:Vec b 2 122 kyc M v ks)(hl:ks.length<=1100)(hn:ks.Nodup) :
  ze Tryz.prog 157 [v,cf] M (fun _ M'=>∃ ks',Vec b 2 122 kyc M' v ks' /\ ks'.Pairwise klt /\ (∀ k,k ∈ ks' ↔ k ∈ ks) /\ ks'.length=ks.length /\ Keep (fun i=>b<=i) M M'):=by
 have cl:=zmu (M:=M) (n:=ks.length) (by omega)
 have hw:=z3b (z:=(ks.length:Int)) (by omega)
 rcases hv with⟨rfl,rfl⟩|⟨i,rfl,hA,hbi⟩
 ·refine zf k157 rfl ?_
  delta x157;refine un ?_
  repeat' first|with_reducible intro _|refine sv ?_|((with_reducible first|apply zt|apply zz|apply zn);exact gd;exact rfl;exact rfl;(first|exact cl))|refine ss ?_ ?_<;>(intro h;first|exact sz h|refine sy h ?_)|exact sq|fail
  rename_i hq
  obtain⟨k,rfl,hk1,hk2,rfl⟩:=hq
  repeat' first|with_reducible intro _|refine sv ?_|((with_reducible first|apply zt|apply zz|apply zn);exact gd;exact rfl;exact rfl;(first|exact zqz))|refine ss ?_ ?_<;>(intro h;first|exact sz h|refine sy h ?_)|exact sq|fail
  rename_i hq
  subst hq
  refine kf ?_
  exact⟨[],.inl ⟨rfl,rfl⟩,List.Pairwise.nil,fun _=>Iff.rfl,rfl,Keep.refl _ _⟩
 ·have hT:KT M i ks.length (apE 122) (fun i=>ks.getD i kz):=by
   show At M i (.cells true (tabL kyc (fun i=>ks.getD i kz) ks.length) (apE 122))
   unfold tabL
   rw[zgo];exact hA
  have hij:Inj ks.length (fun i=>ks.getD i kz):=fun x y hx hy hxy=>by
   simp only[List.getD_eq_getElem?_getD,List.getElem?_eq_getElem hx,List.getElem?_eq_getElem hy,Option.getD_some] at hxy
   unfold List.Nodup at hn
   rw[List.pairwise_iff_getElem] at hn
   rcases Nat.lt_trichotomy x y with h|h|h
   ·exact absurd hxy (hn x y hx hy h)
   ·exact h
   ·exact absurd hxy.symm (hn y x hy hx h)
  have hmem:∀ k,(∃ t,t < ks.length /\ ks.getD t kz=k) ↔ k ∈ ks:=fun k=>by
   rw[List.mem_iff_getElem]
   constructor
   ·rintro⟨t,ht,h⟩;exact⟨t,ht,by rw[List.getD_eq_getElem?_getD,List.getElem?_eq_getElem ht] at h;exact h⟩
   ·rintro⟨t,ht,h⟩;exact⟨t,ht,by rw[List.getD_eq_getElem?_getD,List.getElem?_eq_getElem ht];exact h⟩
  refine zf k157 rfl ?_
  delta x157;refine un ?_
  repeat' first|with_reducible intro _|refine sv ?_|refine ss ?_ ?_<;>(intro h;first|exact sz h|refine sy h ?_)|exact sq|fail
  rw[hw]
  repeat' first|with_reducible intro _|refine sv ?_|((with_reducible first|apply zt|apply zz|apply zn);exact gd;exact rfl;exact rfl;(first|exact cl))|refine ss ?_ ?_<;>(intro h;first|exact sz h|refine sy h ?_)|exact sq|fail
  rename_i hq
  obtain⟨k,rfl,hk1,hk2,rfl⟩:=hq
  repeat' first|with_reducible intro _|refine sv ?_|((with_reducible first|apply zt|apply zz|apply zn);exact gd;exact rfl;exact rfl;(first|exact zta (p:=i) (n:=ks.length) (f:=false) (e:=2) (by omega) (ks.length+1) (a:=0) (by omega) hT (Nat.le_refl _) (Nat.zero_le _) hij (.inl rfl) (by omega)))|refine ss ?_ ?_<;>(intro h;first|exact sz h|refine sy h ?_)|exact sq|fail
  rename_i hq
  obtain⟨G',hsw,hsr,hT',hkp⟩:=hq
  have hm2:=Sw.mem hsw
  have hij2:=hsw.inj (Nat.le_refl _) hij
  refine kf ?_
  refine⟨(List.range ks.length).map G',.inr ⟨i,by simp,hT',hbi⟩,?_,fun k=>?_,by simp,hkp.weaken (fun j hj=>by omega)⟩
  ·rw[List.pairwise_iff_getElem]
   intro x y hx hy hxy
   simp only[List.length_map,List.length_range] at hx hy
   simp only[List.getElem_map,List.getElem_range]
   rcases zi9 (a:=G' x) (b:=G' y) (fun he=>by have:=hij2 x y hx hy he;omega) with h|h
   ·exact h
   ·exact absurd h (hsr x y (Nat.zero_le _) hxy hy)
  ·rw[List.mem_map,<- hmem,<- hm2]
   constructor
   ·rintro⟨t,ht,h⟩;exact⟨t,List.mem_range.1 ht,h⟩
   ·rintro⟨t,ht,h⟩;exact⟨t,List.mem_range.2 ht,h⟩
abbrev MkC:=List (Ky × LV)
def encK(L:MkC):List (LV × LV):=L.map fun p=>(kyv p.1,p.2)
def lkM:MkC->Ky->Option LV
 | [],_=>none
 |(a,b) :: L,k=>if k=a then some b else lkM L k
def stV:MkC->Ky->LV->MkC
 | [],k,v=>[(k,v)]
 |(a,b) :: L,k,v=>if k=a then(k,v) :: L else(a,b) :: stV L k v
theorem zos(a:Ky)(b:LV)(L:MkC)(k:Ky):lkM ((a,b) :: L) k=if k=a then some b else lkM L k:=rfl
theorem zm0(a:Ky)(b:LV)(L:MkC)(k:Ky)(v:LV):stV ((a,b) :: L) k v=if k=a then(k,v) :: L else(a,b) :: stV L k v:=rfl
theorem zn6(a b:Ky):eqL Tryz.prog Op.maxDepth 122 (kyv a) (kyv b)=some (decide (a=b)):=by
 refine zb6 4 Op.maxDepth 122 [0,1] (by decide) (by kernel_rfl) _ _ _ (fun N hN=>?_) ?_
 ·have h2:szOf Tryz.prog 122=some 2:=by kernel_rfl
  rw[h2] at hN
  cases hN
  exact⟨Nat.le_refl _,Nat.le_refl _⟩
 ·show some (decide (a.1=b.1) && (decide (a.2=b.2) && true))=_
  congr 1
  rw[Bool.eq_iff_iff]
  simp only[Bool.and_eq_true,decide_eq_true_eq,and_true]
  exact⟨fun⟨h1,h2⟩=>Ky.ext2 h1 h2,fun h=>by rw[h];exact⟨rfl,rfl⟩⟩
theorem zr6(a:Ky)(b:LV)(L:MkC):encK ((a,b) :: L)=(kyv a,b) :: encK L:=rfl
theorem z6f{P:Program}{kt:TypeId}(heq:∀ a b:Ky,eqL P Op.maxDepth kt (kyv a) (kyv b)=some (decide (a=b)))(k a:Ky)(b:LV)(L:MkC)(i:Nat):findL P kt (kyv k) (encK ((a,b) :: L)) i=if k=a then some (some (i,kyv a,b)) else findL P kt (kyv k) (encK L) (i+1):=by
 rw[zr6]
 generalize encK L=es
 have hk:=heq k a
 generalize kyv k=kv at *
 generalize kyv a=av at *
 show ob (eqL P Op.maxDepth kt kv av) (fun b'=>ifb b' (some (some (i,av,b))) (findL P kt kv es (i+1)))=_
 rw[hk,za]
 by_cases hab:k=a
 ·rw[decide_eq_true hab,z07,if_pos hab]
 ·rw[decide_eq_false hab,zh,if_neg hab]
theorem z84{P:Program}{kt:TypeId}(heq:∀ a b:Ky,eqL P Op.maxDepth kt (kyv a) (kyv b)=some (decide (a=b)))(k:Ky):∀(L:MkC) (i:Nat),lkM L k=none->findL P kt (kyv k) (encK L) i=some none /\ ∀ v,encK L ++ [(kyv k,v)]=encK (stV L k v)
 | [],i,_=>⟨rfl,fun v=>rfl⟩
 |(a,b) :: L,i,h=>by
  rw[zos] at h
  by_cases hka:k=a
  ·rw[if_pos hka] at h;cases h
  ·rw[if_neg hka] at h
   obtain⟨h1,h2⟩:=z84 heq k L (i+1) h
   constructor
   ·rw[z6f heq,if_neg hka,h1]
   ·intro v
    rw[zm0,if_neg hka]
    show(kyv a,b) ::(encK L ++ [(kyv k,v)])=(kyv a,b) :: encK (stV L k v)
    rw[h2 v]
theorem z85{P:Program}{kt:TypeId}(heq:∀ a b:Ky,eqL P Op.maxDepth kt (kyv a) (kyv b)=some (decide (a=b)))(k:Ky):∀(L:MkC) (i:Nat) (b:LV),lkM L k=some b->∃ j,findL P kt (kyv k) (encK L) i=some (some (i+j,kyv k,b)) /\ ∀ v,setVal (encK L) j (kyv k) v=encK (stV L k v)
 | [],i,b,h=>by cases h
 |(a,c) :: L,i,b,h=>by
  rw[zos] at h
  by_cases hka:k=a
  ·rw[if_pos hka] at h
   obtain rfl:=Option.some.inj h
   subst hka
   refine⟨0,?_,fun v=>?_⟩
   ·rw[z6f heq,if_pos rfl,Nat.add_zero]
   ·rw[zm0,if_pos rfl];rfl
  ·rw[if_neg hka] at h
   obtain⟨j,h1,h2⟩:=z85 heq k L (i+1) b h
   refine⟨j+1,?_,fun v=>?_⟩
   ·rw[z6f heq,if_neg hka,h1,Nat.add_assoc,Nat.add_comm 1 j]
   ·rw[zm0,if_neg hka]
    show(kyv a,c) :: setVal (encK L) j (kyv k) v=(kyv a,c) :: encK (stV L k v)
    rw[h2 v]
theorem zfz(k:Ky)(L:MkC)(i:Nat)(h:lkM L k=none):findL Tryz.prog 122 (kyv k) (encK L) i=some none /\ ∀ v,encK L ++ [(kyv k,v)]=encK (stV L k v):=z84 zn6 k L i h
theorem zg0(k:Ky)(L:MkC)(i:Nat)(b:LV)(h:lkM L k=some b):∃ j,findL Tryz.prog 122 (kyv k) (encK L) i=some (some (i+j,kyv k,b)) /\ ∀ v,setVal (encK L) j (kyv k) v=encK (stV L k v):=z85 zn6 k L i b h
theorem zoq(k:Ky):keyOk Tryz.prog 10000 122 (kyv k)=true:=by kernel_rfl
structure StOk (bs:List Nat) (clk n:Nat):Prop where
 len:bs.length=n
 nodup:bs.Nodup
 lt:∀ b ∈ bs,b < clk
section
variable {M M':Mem} {L:MkC} {r:Nat} {k:Ky} {E:Env} {x y z':XO}
def cellsM(ks:List Ky):MkC:=ks.map fun k=>(k,.bool true)
def addK(ks:List Ky)(k:Ky):List Ky:=if k ∈ ks then ks else ks ++ [k]
def CsM(M:Mem)(r:Nat)(ks:List Ky):Prop:=∃ bs clk,At M r (.map (encK (cellsM ks)) bs clk) /\ StOk bs clk ks.length /\ ks.Nodup
theorem zes(k:Ky):∀ ks:List Ky,lkM (cellsM ks) k=if k ∈ ks then some (.bool true) else none
 | []=>rfl
 | a :: ks=>by
  show lkM ((a,.bool true) :: cellsM ks) k=_
  rw[zos,zes k ks]
  by_cases h:k=a
  ·rw[if_pos h,if_pos (by rw[h];exact List.mem_cons_self ..)]
  ·rw[if_neg h]
   by_cases h2:k ∈ ks
   ·rw[if_pos h2,if_pos (List.mem_cons_of_mem _ h2)]
   ·rw[if_neg h2,if_neg (fun h3=>(List.mem_cons.1 h3).elim h h2)]
theorem zf8(k:Ky):∀ ks:List Ky,stV (cellsM ks) k (.bool true)=cellsM (addK ks k)
 | []=>by unfold addK;rw[if_neg (by simp)];rfl
 | a :: ks=>by
  show stV ((a,.bool true) :: cellsM ks) k (.bool true)=_
  rw[zm0,zf8 k ks]
  unfold addK
  by_cases h:k=a
  ·rw[if_pos h,if_pos (by rw[h];exact List.mem_cons_self ..),h];rfl
  ·rw[if_neg h]
   by_cases h2:k ∈ ks
   ·rw[if_pos h2,if_pos (List.mem_cons_of_mem _ h2)];rfl
   ·rw[if_neg h2,if_neg (fun h3=>(List.mem_cons.1 h3).elim h h2)];rfl
theorem zk6{ks:List Ky}{k a:Ky}:a ∈ addK ks k ↔ a ∈ ks ∨ a=k:=by
 unfold addK
 split
 ·rename_i h
  exact⟨.inl,fun h'=>h'.elim id (fun e=>by rw[e];exact h)⟩
 ·rw[List.mem_append,List.mem_singleton]
theorem z9f{ks:List Ky}{k:Ky}(h:ks.Nodup):(addK ks k).Nodup:=by
 unfold addK
 split
 ·exact h
 ·rename_i hk
  rw[List.nodup_append]
  exact⟨h,by simp,fun a ha b hb=>by
   obtain rfl:b=k:=by simpa using hb
   rintro rfl;exact hk ha⟩
theorem CsM.grow{ks:List Ky}(h:CsM M r ks)(hg:Grow M M'):CsM M' r ks:=by
 obtain⟨bs,clk,h1,h2⟩:=h
 exact⟨bs,clk,h1.grow hg,h2⟩
theorem CsM.keep{F:Nat->Prop}{ks:List Ky}(h:CsM M r ks)(hk:Keep F M M')(hF:¬ F r):CsM M' r ks:=by
 obtain⟨bs,clk,h1,h2⟩:=h
 exact⟨bs,clk,h1.keep hk hF,h2⟩
theorem CsM.lt{ks:List Ky}(h:CsM M r ks):r < M.next:=by
 obtain⟨bs,clk,h1,h2⟩:=h
 exact h1.2
theorem zlp{ks:List Ky}(h:CsM M r ks)(hx:xval E x=some (.map (some r)))(hy:xval E y=some (kyv k))(hz:xval E z'=some (.bool true)):∃ lb M',zm Tryz.prog (.mset 122 x y z') E M=some (.skip M') /\ Upd M r lb M' /\ CsM M' r (addK ks k):=by
 obtain⟨bs,clk,hm,hok,hnd⟩:=h
 have key:∀ R,(ob (findL Tryz.prog 122 (kyv k) (encK (cellsM ks)) 0) fun p=>oe p
   (some (R1.skip (M.upd r (some (.map (encK (cellsM ks) ++ [(kyv k,.bool true)]) (bs ++ [clk]) (clk+1))))))
   (fun p=>pr p fun i q=>pr q fun k' _=>guard' (lvEq (kyv k) k') (some (.skip (M.upd r (some (.map (setVal (encK (cellsM ks)) i (kyv k) (.bool true)) bs clk)))))))=some R->zm Tryz.prog (.mset 122 x y z') E M=some R:=fun R hR=>by
  show ob (xval E x) _=_
  rw[hx,za,hy,za,hz,za,zoq,zd]
  show atMap M r _=_
  unfold atMap
  rw[hm.1,za]
  exact hR
 have hlk:=zes k ks
 have hst:=zf8 k ks
 by_cases hk:k ∈ ks
 ·rw[if_pos hk] at hlk
  obtain⟨j,h1,h2⟩:=zg0 k (cellsM ks) 0 _ hlk
  refine⟨_,_,key (.skip (M.upd r (some (.map (setVal (encK (cellsM ks)) j (kyv k) (.bool true)) bs clk)))) (by
   rw[h1,za,Nat.zero_add]
   show guard' (lvEq (kyv k) (kyv k)) _=_
   rw[z5n,zd]),⟨rfl⟩,bs,clk,?_,?_,z9f hnd⟩
  ·rw[<-hst,<- h2]
   exact At.upd_same ⟨rfl⟩ hm
  ·unfold addK;rw[if_pos hk];exact hok
 ·rw[if_neg hk] at hlk
  obtain⟨h1,h2⟩:=zfz k (cellsM ks) 0 hlk
  refine⟨_,_,key _ (by rw[h1,za];rfl),⟨rfl⟩,bs ++ [clk],clk+1,?_,?_,z9f hnd⟩
  ·rw[<-hst,<- h2]
   exact At.upd_same ⟨rfl⟩ hm
  ·unfold addK
   rw[if_neg hk]
   refine⟨by rw[List.length_append,List.length_append,hok.len];rfl,?_,fun b hb=>?_⟩
   ·rw[List.nodup_append]
    exact⟨hok.nodup,by simp,fun a ha b hb=>by
     obtain rfl:b=clk:=by simpa using hb
     have:=hok.lt a ha;omega⟩
   ·rcases List.mem_append.1 hb with hb|hb
    ·have:=hok.lt b hb;omega
    ·obtain rfl:b=clk:=by simpa using hb
     omega
end
theorem zav{seen:List Nat}:∀ {bs:List Nat} {es:List (LV × LV)} {b:Nat} {kk v:LV},(b,kk,v) ∈ leftL seen bs es->∃ i:Nat,bs[i]?=some b /\ es[i]?=some (kk,v) /\ b ∉ seen
 | [],_,_,_,_,h=>nomatch h
 | c :: bs,[],_,_,_,h=>nomatch h
 | c :: bs,e :: es,b,kk,v,h=>by
  have h:(b,kk,v) ∈ ifb (memN c seen) (leftL seen bs es) ((c,e) :: leftL seen bs es):=h
  cases hm:memN c seen with
  | true =>
   rw[hm,z07] at h
   obtain⟨i,h1,h2,h3⟩:=zav h
   exact⟨i+1,h1,h2,h3⟩
  | false =>
   rw[hm,zh] at h
   rcases List.mem_cons.1 h with h|h
   ·cases h
    exact⟨0,rfl,rfl,fun hh=>by rw[z8j.2 hh] at hm;cases hm⟩
   ·obtain⟨i,h1,h2,h3⟩:=zav h
    exact⟨i+1,h1,h2,h3⟩
theorem zeq{seen:List Nat}:∀ {bs:List Nat} {es:List (LV × LV)},leftL seen bs es=[]->bs.length=es.length->∀ b ∈ bs,b ∈ seen
 | [],_,_,_,b,hb=>nomatch hb
 | c :: bs,[],_,hl,_,_=>by simp at hl
 | c :: bs,e :: es,h,hl,b,hb=>by
  have h:ifb (memN c seen) (leftL seen bs es) ((c,e) :: leftL seen bs es)=[]:=h
  cases hm:memN c seen with
  | false=>rw[hm,zh] at h;cases h
  | true =>
   rw[hm,z07] at h
   rcases List.mem_cons.1 hb with rfl|hb
   ·exact z8j.1 hm
   ·exact zeq h (by simpa using hl) b hb
theorem zcs{n:Nat}:∀ {bs:List Nat} {es:List (LV × LV)} {i:Nat} {e:LV × LV},bs.Nodup->bs[i]?=some n->es[i]?=some e->stampL n bs es=some e
 | [],_,i,_,_,h,_=>by simp at h
 | c :: bs,[],i,_,_,_,h=>by simp at h
 | c :: bs,f :: es,0,e,hn,h1,h2=>by
  obtain rfl:c=n:=by simpa using h1
  obtain rfl:f=e:=by simpa using h2
  show ifb (Nat.beq c c) (some f) _=_
  rw[show Nat.beq c c=true by simp];rfl
 | c :: bs,f :: es,i+1,e,hn,h1,h2=>by
  have hn':=List.nodup_cons.1 hn
  have hne:¬ c=n:=by
   rintro rfl
   exact hn'.1 (List.mem_of_getElem? (i:=i) (by simpa using h1))
  show ifb (Nat.beq c n) (some f) (stampL n bs es)=_
  rw[show Nat.beq c n=false by cases hb:Nat.beq c n;rfl;exact absurd (Nat.eq_of_beq_eq_true hb) hne,zh]
  exact zcs hn'.2 (by simpa using h1) (by simpa using h2)
theorem zea{n:Nat}:∀ {l:List Nat},(∀ x ∈ l,x < n)->allLt n l=true
 | [],_=>rfl
 | x :: l,h=>by
  show ifb (Nat.ble (Nat.succ x) n) (allLt n l) false=true
  rw[Nat.ble_eq_true_of_le (h x (by simp)),z07]
  exact zea fun y hy=>h y (by simp[hy])
theorem zeb{n x:Nat}:∀ {l:List Nat},x ∈ l->x < n->anyLt n l=true
 | [],h,_=>nomatch h
 | y :: l,h,hx=>by
  show ifb (Nat.ble (Nat.succ y) n) true (anyLt n l)=true
  cases hb:Nat.ble (Nat.succ y) n with
  | true=>rfl
  | false =>
   rw[zh]
   rcases List.mem_cons.1 h with rfl|h
   ·rw[Nat.ble_eq_true_of_le hx] at hb;cases hb
   ·exact zeb h hx
