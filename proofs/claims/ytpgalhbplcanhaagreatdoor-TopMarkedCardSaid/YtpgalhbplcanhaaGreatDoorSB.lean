/-
 Part of the proof of TopMarked. No condition beyond those in each theorem.
-/
import Derived.Test.YtpgalhbplcanhaaGreatDoorSA
section
open Go PvL Go.Proofs
set_option linter.unusedSimpArgs false
set_option linter.unusedVariables false
namespace Go.Proofs.YtpgalhbplcanhaaGreatDoor.C
def dcL(n:Nat):List UInt8:=if n < 100 then lo1 n else if n < 1000 then [u8 (48+n / 100),u8 (48+n / 10 % 10),u8 (48+n % 10)] else if n < 10000 then [u8 (48+n / 1000),u8 (48+n / 100 % 10),u8 (48+n / 10 % 10),u8 (48+n % 10)] else [u8 (48+n / 10000),u8 (48+n / 1000 % 10),u8 (48+n / 100 % 10),u8 (48+n / 10 % 10),u8 (48+n % 10)]
theorem bytU{n:Nat}(h:n < 256):ub n=byteL (u8 n):=(znv h).symm
theorem wrap64{n:Nat}(h:n < 4294967296):IntKind.wrap .u64 (n:Int)=n:=by
 unfold IntKind.wrap
 simp only[IntKind.signed,IntKind.bits,Bool.false_and,Bool.false_eq_true,if_false]
 omega
theorem zrs{M:Mem}{p:Nat}{own:Bool}{a:LV}{cs tl:List LV}{ty:TypeId}(h:At M p (.cells own (a ::(cs ++ tl)) ty)):Rd M p 1 cs.length cs:=by
 refine Rd.of_at h ?_
 show take' cs.length (cs ++ tl)=_
 have:∀ cs:List LV,take' cs.length (cs ++ tl)=some cs:=fun cs=>by
  induction cs with
  | nil=>rfl
  | cons b l ih =>
   show ob (take' l.length (l ++ tl)) _=_
   rw[ih];rfl
 exact this cs
theorem zk1{E:Env}{M:Mem}{x lo hi:XO}{p nd:Nat}{own:Bool}{cs:List LV}{ty:TypeId}(hx:xval E x=some (.ptr (some (p,0))))(hl:xval E lo=some (I 1))(hh:xval E hi=some (I ((1+nd:Nat):Int)))(hn:1<=nd /\ nd<=20)(ha:At M p (.cells own cs ty))(hc:cs.length=24) :
  zm Tryz.prog (.slA 24 1 x (some lo) (some hi) none) E M=some (.val (.slice (some (p,1)) nd false 1) M):=by
 show ob (xval E x) _=_
 rw[hx,za]
 have e1:xvalo E (some lo)=some (some (I 1)):=by show ob (xval E lo) _=_;rw[hl];rfl
 have e2:xvalo E (some hi)=some (some (I ((1+nd:Nat):Int))):=by show ob (xval E hi) _=_;rw[hh];rfl
 rw[e1,za,e2,za]
 show atCells M p _=_
 unfold atCells
 rw[ha.1]
 show guard' (Nat.ble 1 cs.length && Nat.ble (0+24*1) cs.length) (guard' (Nat.ble (1+nd) 24) (guard' (Nat.ble 1 (1+nd)) (some (R1.val (.slice (some (p,ifb (Nat.beq 24 1) 0 (0+1*1))) (1+nd - 1) (Nat.beq (1+nd) 24) 1) M))))=_
 rw[hc,Nat.ble_eq_true_of_le (show 1+nd<=24 by omega),Nat.ble_eq_true_of_le (show 1<=1+nd by omega)]
 have e3:Nat.beq (1+nd) 24=false:=Bool.eq_false_iff.2 fun h=>by have:=Nat.eq_of_beq_eq_true h;omega
 rw[e3,Nat.add_sub_cancel_left];rfl
theorem z69(l:List UInt8):(z0f l).length=l.length:=List.length_map _
theorem zoj{n:Nat}(h:100<=n):(dcL n).length=ndN n:=by
 unfold dcL ndN
 rw[if_neg (by omega)]
 split<;>(try split)<;>rfl
theorem zt7(n:Nat)(h1:100<=n)(h2:n<=99999){M:Mem}{p:Nat}{ty:TypeId}{f:Bool}(ha:At M p (.cells true (rep 24 [.int .u8 0]) ty)) :
  ze Tryz.prog 290 [.slice (some (p,1)) (ndN n) f 1,.int .u64 n] M (fun w M'=>(∃ tl,At M' p (.cells true (ub 0 ::(z0f (dcL n) ++ tl)) ty) /\ 1+((dcL n).length+tl.length)=24) /\ Keep (fun i=>i=p) M M'):=by
 unfold ndN dcL
 rw[if_neg (show ¬ n < 100 by omega)]
 by_cases h3:n < 1000
 ·rw[if_pos h3,if_pos h3]
  refine(zqp n h1 h3 ha).mono ?_
  rintro w M' ⟨h4,h5⟩
  refine⟨⟨rep 20 [.int .u8 0],?_,rfl⟩,h5⟩
  rw[bytU (n:=48+n / 100) (by omega),bytU (n:=48+n / 10 % 10) (by omega),bytU (n:=48+n % 10) (by omega)] at h4
  exact h4
 rw[if_neg h3,if_neg h3]
 by_cases h6:n < 10000
 ·rw[if_pos h6,if_pos h6]
  refine(zqq n (by omega) h6 ha).mono ?_
  rintro w M' ⟨h4,h5⟩
  refine⟨⟨rep 19 [.int .u8 0],?_,rfl⟩,h5⟩
  rw[bytU (n:=48+n / 1000) (by omega),bytU (n:=48+n / 100 % 10) (by omega),bytU (n:=48+n / 10 % 10) (by omega),bytU (n:=48+n % 10) (by omega)] at h4
  exact h4
 rw[if_neg h6,if_neg h6]
 refine(zqr n (by omega) (by omega) ha).mono ?_
 rintro w M' ⟨h4,h5⟩
 refine⟨⟨rep 18 [.int .u8 0],?_,rfl⟩,h5⟩
 rw[bytU (n:=48+n / 10000) (by omega),bytU (n:=48+n / 1000 % 10) (by omega),bytU (n:=48+n / 100 % 10) (by omega),bytU (n:=48+n / 10 % 10) (by omega),bytU (n:=48+n % 10) (by omega)] at h4
 exact h4
theorem zqd(n:Nat)(hn:n<=99999){M:Mem}(hP:P10 M):ze Tryz.prog 230 [I n,I 10] M (fun w M'=>w=.str (strL (dcL n)) /\ Grow M M'):=by
 refine zf k230 rfl ?_
 delta x230;refine un ?_
 by_cases h1:n < 100
 ·repeat' first|with_reducible intro _|refine sv ?_|((with_reducible first|apply z0c|apply z0a|apply zx);exact gd;exact rfl;exact rfl;(first|exact zoc n h1 _))|refine ss ?_ ?_<;>(intro h;first|exact sz h|refine sy h ?_)|exact sq|fail
  all_goals try(exfalso;omega)
  refine kf ?_
  exact⟨by unfold dcL;rw[if_pos h1];rfl,Grow.refl _⟩
 repeat' first|with_reducible intro _|refine sv ?_|refine ss ?_ ?_<;>(intro h;first|exact sz h|refine sy h ?_)|exact sq|fail
 all_goals try(exfalso;omega)
 rename_i p M1 z1 z2 z3
 rw[wrap64 (by omega)]
 have cn:=zd4 n (by omega) hn (hP.grow z1.grow)
 have ha:At M1 p (.cells true (rep 24 [.int .u8 0]) _):=At.new_same z1
 have cf:=zt7 n (by omega) hn (f:=false) ha
 have hg:=z1.grow
 have hdl:=zoj (n:=n) (by omega)
 have hnd:3<=ndN n /\ ndN n<=5:=by unfold ndN;split<;>(try split)<;>omega
 clear z1
 generalize ndN n=nd at *
 generalize dcL n=dl at *
 repeat' first|with_reducible intro _|refine sv ?_|((with_reducible first|apply z0c|apply z0a|apply zx);exact gd;exact rfl;exact rfl;(first|exact cn))|refine ss ?_ ?_<;>(intro h;first|exact sz h|refine sy h ?_)|exact sq|fail
 refine z00 (by exact gd) (zk1 (nd:=nd) rfl rfl rfl (by omega) ha rfl) ?_
 repeat' first|with_reducible intro _|refine sv ?_|refine ss ?_ ?_<;>(intro h;first|exact sz h|refine sy h ?_)|exact sq|fail
 refine zt (by exact gd) rfl rfl (show AppOk Tryz.prog _ _ M1 _ from cf) ?_
 rintro w M2 ⟨⟨tl,hA2,htl⟩,hk2⟩
 repeat' first|with_reducible intro _|refine sv ?_|refine ss ?_ ?_<;>(intro h;first|exact sz h|refine sy h ?_)|exact sq|fail
 all_goals try(exfalso;omega)
 refine z00 (by exact gd) (zk1 (nd:=nd) rfl rfl rfl (by omega) hA2 (by rw[List.length_cons,List.length_append,z69];omega)) ?_
 have hr:=zrs hA2
 rw[z69] at hr
 rw[<-hdl]
 refine z00 (by exact gd) (ze8 rfl hr) ?_
 repeat' first|with_reducible intro _|refine sv ?_|refine ss ?_ ?_<;>(intro h;first|exact sz h|refine sy h ?_)|exact sq|fail
 refine kf ?_
 exact⟨rfl,Keep.to_grow' hg hk2 (fun i hi=>by omega)⟩
theorem z1n{f:FuncId}{args:List LV}{M:Mem}{v:LV}{n:Nat}(h:runO Tryz.prog n (.call f args M)=some (.call v M)):ze Tryz.prog f args M (fun w M'=>w=v /\ M'=M) :=
 ⟨_,_,z70.2 ⟨n,h⟩,rfl,rfl⟩
theorem zqh(M:Mem):ze Tryz.prog 179 [.str ⟨#[48]⟩,I 0] M (fun w M'=>w=.str (strL []) /\ M'=M):=z1n (n:=60) (by kernel_rfl)
theorem zqi(M:Mem):ze Tryz.prog 179 [.str ⟨#[48]⟩,I 1] M (fun w M'=>w=.str (strL [48]) /\ M'=M):=z1n (n:=60) (by kernel_rfl)
theorem zqj(M:Mem):ze Tryz.prog 179 [.str ⟨#[48]⟩,I 2] M (fun w M'=>w=.str (strL [48,48]) /\ M'=M):=z1n (n:=60) (by kernel_rfl)
theorem zqk(M:Mem):ze Tryz.prog 179 [.str ⟨#[48]⟩,I 3] M (fun w M'=>w=.str (strL [48,48,48]) /\ M'=M):=z1n (n:=60) (by kernel_rfl)
theorem zql(M:Mem):ze Tryz.prog 179 [.str ⟨#[48]⟩,I 4] M (fun w M'=>w=.str (strL [48,48,48,48]) /\ M'=M):=z1n (n:=60) (by kernel_rfl)
def D64(M:Mem):Prop:=∃ own,At M 8 (.cells own (intsL .u8 zs5) 0)
theorem D64.grow{M M':Mem}(h:D64 M)(hg:Grow M M'):D64 M':=by
 obtain⟨own,h⟩:=h
 exact⟨own,At.grow hg h⟩
theorem zr2{M:Mem}(hD:D64 M):ze Tryz.prog 357 [.int .u64 16] M (fun w M'=>w=I 4 /\ M'=M):=by
 obtain⟨own,ha⟩:=hD
 refine zf k357 rfl ?_
 delta x357;refine un ?_
 repeat' first|with_reducible intro _|refine sv ?_|refine ss ?_ ?_<;>(intro h;first|exact sz h|refine sy h ?_)|exact sq|fail
 have r1:Rd1 M 8 (0+15*1) (.int .u8 4):=Rd1.of_at ha rfl
 refine z00 (v:=.int .u64 16) (by exact gd) (by kernel_rfl) ?_
 refine z00 (v:=.int .u64 4573923408821661840) (by exact gd) (by kernel_rfl) ?_
 refine z00 (v:=.int .u64 15) (by exact gd) (by kernel_rfl) ?_
 (have hrd0:=r1;repeat' (first|(with_reducible intro _)|refine sv ?_|refine ss ?_ ?_<;>(intro h;first|exact sz h|refine sy h ?_)|exact sq|fail))
 refine kf ?_
 exact⟨rfl,rfl⟩
theorem c_tz{M:Mem}(hD:D64 M):ze Tryz.prog 333 [.int .u64 16] M (fun w M'=>w=I 4 /\ M'=M):=by
 refine zf k333 rfl ?_
 delta x333;refine un ?_
 repeat' first|with_reducible intro _|refine sv ?_|((with_reducible first|apply z0c|apply z0a|apply zx);exact gd;exact rfl;exact rfl;(first|exact zr2 hD))|refine ss ?_ ?_<;>(intro h;first|exact sz h|refine sy h ?_)|exact sq|fail
 refine kf ?_
 exact⟨rfl,rfl⟩
theorem c_p2(M:Mem):ze Tryz.prog 332 [I 16] M (fun w M'=>w=.bool true /\ M'=M):=z1n (n:=60) (by kernel_rfl)
theorem zps{E:Env}{M:Mem}{x y:XO}{a:Nat}(hx:xval E x=some (.int .u64 (a:Int)))(hy:xval E y=some (.int .u64 15))(ha:a < 4294967296):zm Tryz.prog (.bin .and x y) E M=some (.val (.int .u64 ((a % 16:Nat):Int)) M):=by
 show ob (xval E x) _=_
 rw[hx,za,hy,za]
 show guard' true (ob (mkI .u64 (wr .u64 (BitVec.ofInt 64 (a:Int) &&& BitVec.ofInt 64 ((15:Nat):Int)).toNat)) _)=_
 have h1:(((BitVec.ofInt 64 (a:Int) &&& BitVec.ofInt 64 ((15:Nat):Int)).toNat:Nat):Int)=((a % 16:Nat):Int):=by
  rw[BitVec.toNat_and,z23 (by omega),z23 (by omega)]
  exact congrArg _ (Nat.and_two_pow_sub_one_eq_mod a 4)
 rw[h1,zd,z2v,wrap64 (by omega),z1a,za];rfl
theorem zj5{M:Mem}{p:Nat}{own:Bool}{pre cs:List LV}{ty:TypeId}(h:At M p (.cells own (pre ++ cs) ty)):Rd M p pre.length cs.length cs:=by
 refine Rd.of_at h ?_
 have e1:drop' pre.length (pre ++ cs)=cs:=by
  clear h
  induction pre with
  | nil=>rfl
  | cons b l ih=>exact ih
 have e2:take' cs.length cs=some cs:=by
  clear h e1
  induction cs with
  | nil=>rfl
  | cons b l ih =>
   show ob (take' l.length l) _=_
   rw[ih];rfl
 rw[e1,e2]
theorem zfh{E:Env}{M:Mem}{x lo:XO}{p k:Nat}{own:Bool}{cs:List LV}{ty:TypeId}(hx:xval E x=some (.ptr (some (p,0))))(hl:xval E lo=some (I (k:Int)))(hn:1<=k /\ k<=64)(ha:At M p (.cells own cs ty))(hc:cs.length=65) :
  zm Tryz.prog (.slA 65 1 x (some lo) none none) E M=some (.val (.slice (some (p,k)) (65 - k) true 1) M):=by
 show ob (xval E x) _=_
 rw[hx,za]
 have e1:xvalo E (some lo)=some (some (I (k:Int))):=by show ob (xval E lo) _=_;rw[hl];rfl
 rw[e1,za]
 show atCells M p _=_
 unfold atCells
 rw[ha.1]
 show guard' (Nat.ble 1 cs.length && Nat.ble (0+65*1) cs.length) (guard' (Nat.ble k 65) (some (R1.val (.slice (some (p,ifb (Nat.beq 65 k) 0 (0+k*1))) (65 - k) (Nat.beq 65 65) 1) M)))=_
 rw[hc,Nat.ble_eq_true_of_le (show k<=65 by omega)]
 have e3:Nat.beq 65 k=false:=Bool.eq_false_iff.2 fun h=>by have:=Nat.eq_of_beq_eq_true h;omega
 rw[e3]
 show some (R1.val (.slice (some (p,0+k*1)) (65 - k) true 1) M)=_
 rw[Nat.zero_add,Nat.mul_one]
theorem zd9{k:Nat}(h:k < 16):(byteAt digs k:Int)=((hxN k:Nat):Int):=by
 have:=z9g (k:=16) (p:=fun k=>decide (byteAt digs k=hxN k)) (by decide +kernel) h
 rw[of_decide_eq_true this]
theorem zda{k:Nat}(h:k < 16):k < digs.size:=Nat.lt_of_lt_of_le h (by decide)
theorem zi2{k:Nat}(h:k < 16):hxN k < 256:=by unfold hxN;split<;>omega
set_option maxRecDepth 20000 in
set_option maxHeartbeats 4000000 in
theorem zo7(x:Nat)(hx:x < 256){M:Mem}(hD:D64 M):ze Tryz.prog 291 [.slice none 0 true 0,.int .u64 x,I 16,.bool false,.bool false] M (fun w M'=>∃ s,w=.tup [s,.str (strL (if x < 16 then [hxB x] else [hxB (x / 16),hxB (x % 16)]))] /\ Grow M M'):=by
 refine zf k291 rfl ?_
 delta x291;refine un ?_
 have ct:=fun M' (hg:Grow M M')=>c_tz (hD.grow hg)
 repeat' first|with_reducible intro _|refine sv ?_|((with_reducible first|apply z0c|apply z0a|apply zx);exact gd;exact rfl;exact rfl;(first|exact c_p2 _))|refine ss ?_ ?_<;>(intro h;first|exact sz h|refine sy h ?_)|exact sq|fail
 all_goals try(exfalso;omega)
 rename_i p M1 z1 z2 z3 _
 repeat' first|with_reducible intro _|refine sv ?_|((with_reducible first|apply z0c|apply z0a|apply zx);exact gd;exact rfl;exact rfl;(first|exact ct _ (xg)))|refine ss ?_ ?_<;>(intro h;first|exact sz h|refine sy h ?_)|exact sq|fail
 have e16:IntKind.wrap .u64 16=16:=by decide
 have e15:IntKind.wrap .u64 (16 - 1)=15:=by decide
 have e4:IntKind.wrap .u64 4=4:=by decide
 rw[e16,e15,e4]
 have hA:At M1 p (.cells true (rep 65 [.int .u8 0]) _):=At.new_same z1
 have hg:=z1.grow
 clear z1
 by_cases h16:x < 16
 ·rw[if_pos h16]
  repeat' first|with_reducible intro _|refine sv ?_|refine su ?_|refine ss ?_ ?_<;>(intro h;first|exact sz h|refine sy h ?_)|exact sq|fail
  all_goals try(exfalso;omega)
  refine z00 (by exact gd) (z1f (k:=x) rfl rfl (zda h16)) ?_
  rw[zd9 h16,show LV.int .u8 ((hxN x:Nat):Int)=byteL (u8 (hxN x)) from bytU (zi2 h16)]
  refine z00 (v:=.ptr (some (p,64))) (by exact gd) (by kernel_rfl) ?_
  refine x_st (by exact gd) rfl rfl hA rfl rfl (show _=some (rep 64 [.int .u8 0] ++ z0f [hxB x]) by kernel_rfl) ?_
  intro M7 hu7 e7 b7
  repeat' first|with_reducible intro _|refine sv ?_|refine su ?_|refine ss ?_ ?_<;>(intro h;first|exact sz h|refine sy h ?_)|exact sq|fail
  refine z00 (by exact gd) (zfh (k:=64) rfl rfl (by omega) b7 rfl) ?_
  refine z00 (by exact gd) (ze8 rfl (zj5 b7)) ?_
  repeat' first|with_reducible intro _|refine sv ?_|refine ss ?_ ?_<;>(intro h;first|exact sz h|refine sy h ?_)|exact sq|fail
  refine kf ?_
  exact⟨_,rfl,hg.upd hu7 (by omega)⟩
 ·rw[if_neg h16]
  repeat' first|with_reducible intro _|refine sv ?_|refine su ?_|refine ss ?_ ?_<;>(intro h;first|exact sz h|refine sy h ?_)|exact sq|fail
  all_goals try(exfalso;omega)
  have hx2:x / 16 < 16:=by omega
  have hx3:x % 16 < 16:=by omega
  refine z00 (by exact gd) (zps (a:=x) rfl rfl (by omega)) ?_
  refine z00 (by exact gd) (z1f (k:=x % 16) rfl rfl (zda hx3)) ?_
  rw[zd9 hx3,show LV.int .u8 ((hxN (x % 16):Nat):Int)=byteL (u8 (hxN (x % 16))) from bytU (zi2 hx3)]
  refine z00 (v:=.ptr (some (p,64))) (by exact gd) (by kernel_rfl) ?_
  refine x_st (by exact gd) rfl rfl hA rfl rfl (show _=some (rep 64 [.int .u8 0] ++ z0f [hxB (x % 16)]) by kernel_rfl) ?_
  intro M7 hu7 e7 b7
  repeat' first|with_reducible intro _|refine sv ?_|refine ss ?_ ?_<;>(intro h;first|exact sz h|refine sy h ?_)|exact sq|fail
  refine z00 (by exact gd) (zbc (a:=x) (b:=4) rfl rfl (by omega)) ?_
  rw[show x / 2 ^ 4=x / 16 by omega]
  generalize hxq:x / 16=q at *
  generalize x % 16=r at *
  repeat' first|with_reducible intro _|refine sv ?_|refine su ?_|refine ss ?_ ?_<;>(intro h;first|exact sz h|refine sy h ?_)|exact sq|fail
  all_goals try(exfalso;omega)
  refine z00 (by exact gd) (z1f (k:=q) rfl rfl (zda hx2)) ?_
  rw[zd9 hx2,show LV.int .u8 ((hxN q:Nat):Int)=byteL (u8 (hxN q)) from bytU (zi2 hx2)]
  refine z00 (v:=.ptr (some (p,63))) (by exact gd) (by kernel_rfl) ?_
  refine x_st (by exact gd) rfl rfl b7 rfl rfl (show _=some (rep 63 [.int .u8 0] ++ z0f [hxB q,hxB r]) by kernel_rfl) ?_
  intro M8 hu8 e8 b8
  repeat' first|with_reducible intro _|refine sv ?_|refine su ?_|refine ss ?_ ?_<;>(intro h;first|exact sz h|refine sy h ?_)|exact sq|fail
  refine z00 (by exact gd) (zfh (k:=63) rfl rfl (by omega) b8 rfl) ?_
  refine z00 (by exact gd) (ze8 rfl (zj5 b8)) ?_
  repeat' first|with_reducible intro _|refine sv ?_|refine ss ?_ ?_<;>(intro h;first|exact sz h|refine sy h ?_)|exact sq|fail
  refine kf ?_
  exact⟨_,rfl,(hg.upd hu7 (by omega)).upd hu8 (by omega)⟩
theorem zt5(k:Nat)(hk:k<=4)(M:Mem):ze Tryz.prog 179 [.str ⟨#[48]⟩,I k] M (fun w M'=>w=.str (strL (List.replicate k 48)) /\ M'=M):=by
 match k,hk with
 | 0,_=>exact zqh M
 | 1,_=>exact zqi M
 | 2,_=>exact zqj M
 | 3,_=>exact zqk M
 | 4,_=>exact zql M
theorem zqc(x:Nat)(hx:x < 256){M:Mem}(hD:D64 M):ze Tryz.prog 230 [I x,I 16] M (fun w M'=>w=.str (strL (if x < 16 then [hxB x] else [hxB (x / 16),hxB (x % 16)])) /\ Grow M M'):=by
 refine zf k230 rfl ?_
 delta x230;refine un ?_
 have cf:=zo7 x hx hD
 repeat' first|with_reducible intro _|refine sv ?_|refine ss ?_ ?_<;>(intro h;first|exact sz h|refine sy h ?_)|exact sq|fail
 all_goals try(exfalso;omega)
 rw[wrap64 (by omega),show decide ((x:Int) < 0)=false from decide_eq_false (by omega)]
 repeat' first|with_reducible intro _|refine sv ?_|((with_reducible first|apply zt|apply zz|apply zn);exact gd;exact rfl;exact rfl;(first|exact cf))|refine ss ?_ ?_<;>(intro h;first|exact sz h|refine sy h ?_)|exact sq|fail
 rename_i w M1 hq
 obtain⟨s,rfl,hg⟩:=hq
 repeat' first|with_reducible intro _|refine sv ?_|refine ss ?_ ?_<;>(intro h;first|exact sz h|refine sy h ?_)|exact sq|fail
 refine kf ?_
 exact⟨rfl,hg⟩
theorem zqe{x b:Int}{s:ByteArray}{M:Mem}(h:ze Tryz.prog 230 [I x,I b] M (fun w M'=>w=.str s /\ Grow M M')):ze Tryz.prog 178 [I x,I b] M (fun w M'=>w=.str s /\ Grow M M'):=by
 refine zf k178 rfl ?_
 delta x178;refine un ?_
 repeat' first|with_reducible intro _|refine sv ?_|((with_reducible first|apply zp|apply zo|apply zj);exact gd;exact rfl;exact rfl;(first|exact h))|refine ss ?_ ?_<;>(intro h;first|exact sz h|refine sy h ?_)|exact sq|fail
 refine kf ?_
 exact⟨rfl,xg⟩
theorem ztk{n:Nat}(h:n<=99999):1<=(dcL n).length /\ (dcL n).length<=5 /\ List.replicate (5 - (dcL n).length) 48 ++ dcL n=fvL n:=by
 have z:(48:UInt8)=u8 48:=rfl
 unfold dcL
 by_cases h1:n < 100
 ·rw[if_pos h1]
  unfold lo1
  by_cases h2:n < 10
  ·rw[if_pos h2]
   refine⟨by simp,by simp,?_⟩
   show [(48:UInt8),48,48,48,u8 (48+n)]=_
   unfold fvL
   rw[z,show n / 10000 % 10=0 by omega,show n / 1000 % 10=0 by omega,show n / 100 % 10=0 by omega,show n / 10 % 10=0 by omega,show n % 10=n by omega]
  ·rw[if_neg h2]
   refine⟨by simp,by simp,?_⟩
   show [(48:UInt8),48,48,u8 (48+n / 10),u8 (48+n % 10)]=_
   unfold fvL
   rw[z,show n / 10000 % 10=0 by omega,show n / 1000 % 10=0 by omega,show n / 100 % 10=0 by omega,show n / 10 % 10=n / 10 by omega]
 rw[if_neg h1]
 by_cases h2:n < 1000
 ·rw[if_pos h2]
  refine⟨by simp,by simp,?_⟩
  show [(48:UInt8),48,u8 (48+n / 100),u8 (48+n / 10 % 10),u8 (48+n % 10)]=_
  unfold fvL
  rw[z,show n / 10000 % 10=0 by omega,show n / 1000 % 10=0 by omega,show n / 100 % 10=n / 100 by omega]
 rw[if_neg h2]
 by_cases h3:n < 10000
 ·rw[if_pos h3]
  refine⟨by simp,by simp,?_⟩
  show [(48:UInt8),u8 (48+n / 1000),u8 (48+n / 100 % 10),u8 (48+n / 10 % 10),u8 (48+n % 10)]=_
  unfold fvL
  rw[z,show n / 10000 % 10=0 by omega,show n / 1000 % 10=n / 1000 by omega]
 rw[if_neg h3]
 refine⟨by simp,by simp,?_⟩
 show [u8 (48+n / 10000),u8 (48+n / 1000 % 10),u8 (48+n / 100 % 10),u8 (48+n / 10 % 10),u8 (48+n % 10)]=_
 unfold fvL
 rw[show n / 10000 % 10=n / 10000 by omega]
theorem zah{x b:Int}{m:Nat}{l:List UInt8}{M:Mem}(hm:1<=l.length /\ l.length<=m /\ m<=5)(h:ze Tryz.prog 230 [I x,I b] M (fun w M'=>w=.str (strL l) /\ Grow M M')) :
  ze Tryz.prog 119 [I x,I b,I m] M (fun w M'=>w=.str (strL (List.replicate (m - l.length) 48 ++ l)) /\ Grow M M'):=by
 refine zf k119 rfl ?_
 delta x119;refine un ?_
 have cf:=zqe h
 repeat' first|with_reducible intro _|refine sv ?_|((with_reducible first|apply zp|apply zo|apply zj);exact gd;exact rfl;exact rfl;(first|exact cf))|refine ss ?_ ?_<;>(intro h;first|exact sz h|refine sy h ?_)|exact sq|fail
 have hsz:=z01 l
 have e:iMax 0 (IntKind.wrap .i64 ((m:Int) - ((strL l).size:Int)))=((m - l.length:Nat):Int):=by
  rw[hsz,z4a ⟨by omega,by omega⟩]
  unfold iMax
  omega
 rw[e]
 repeat' first|with_reducible intro _|refine sv ?_|((with_reducible first|apply z0c|apply z0a|apply zx);exact gd;exact rfl;exact rfl;(first|exact zt5 _ (by omega) _))|refine ss ?_ ?_<;>(intro h;first|exact sz h|refine sy h ?_)|exact sq|fail
 refine z00 (by exact gd) (z34 rfl rfl (by rw[z01,z01,List.length_replicate];omega)) ?_
 rw[z2c]
 repeat' first|with_reducible intro _|refine sv ?_|refine ss ?_ ?_<;>(intro h;first|exact sz h|refine sy h ?_)|exact sq|fail
 refine kf ?_
 exact⟨rfl,xg⟩
theorem zef(n:Nat)(hn:n<=99999){M:Mem}(hP:P10 M):ze Tryz.prog 119 [I n,I 10,I 5] M (fun w M'=>w=.str (strL (fvL n)) /\ Grow M M'):=by
 obtain⟨h1,h2,h3⟩:=ztk hn
 have:=zah (m:=5) ⟨h1,h2,by omega⟩ (zqd n hn hP)
 rwa [h3] at this
theorem zqt(x:Nat)(hx:x < 256){M:Mem}(hD:D64 M):ze Tryz.prog 119 [I x,I 16,I 2] M (fun w M'=>w=.str (strL [hxB (x / 16),hxB (x % 16)]) /\ Grow M M'):=by
 have h:=zqc x hx hD
 by_cases h1:x < 16
 ·rw[if_pos h1] at h
  have:=zah (m:=2) ⟨by simp,by simp,by omega⟩ h
  rwa [show List.replicate (2 - [hxB x].length) 48 ++ [hxB x]=[hxB (x / 16),hxB (x % 16)] by rw[show x / 16=0 by omega,show x % 16=x by omega];rfl] at this
 ·rw[if_neg h1] at h
  exact zah (m:=2) ⟨by simp,by simp,by omega⟩ h
theorem zeh(n:Int)(hn:-99999<=n /\ n<=99999){M:Mem}(hP:P10 M):ze Tryz.prog 120 [I n] M (fun w M'=>w=.str (strL (sgL n)) /\ Grow M M'):=by
 refine zf k120 rfl ?_
 delta x120;refine un ?_
 by_cases h0:n < 0
 ·have cf:=zef n.natAbs (by omega) hP
  have e:-n=(n.natAbs:Int):=by omega
  rw[<-e] at cf
  repeat' first|with_reducible intro _|refine sv ?_|((with_reducible first|apply zp|apply zo|apply zj);exact gd;exact rfl;exact rfl;(first|exact cf))|refine ss ?_ ?_<;>(intro h;first|exact sz h|refine sy h ?_)|exact sq|fail
  all_goals try(exfalso;omega)
  refine z00 (by exact gd) (z34 rfl rfl (by rw[z01];show 1+5<=_;omega)) ?_
  rw[show(⟨#[45]⟩:ByteArray)=strL [45] from rfl,z2c,show [(45:UInt8)] ++ fvL n.natAbs=sgL n by unfold sgL;rw[if_pos h0];rfl]
  repeat' first|with_reducible intro _|refine sv ?_|refine ss ?_ ?_<;>(intro h;first|exact sz h|refine sy h ?_)|exact sq|fail
  refine kf ?_
  exact⟨rfl,xg⟩
 ·have cf:=zef n.natAbs (by omega) hP
  have e:n=(n.natAbs:Int):=by omega
  rw[<-e] at cf
  repeat' first|with_reducible intro _|refine sv ?_|((with_reducible first|apply zp|apply zo|apply zj);exact gd;exact rfl;exact rfl;(first|exact cf))|refine ss ?_ ?_<;>(intro h;first|exact sz h|refine sy h ?_)|exact sq|fail
  all_goals try(exfalso;omega)
  refine z00 (by exact gd) (z34 rfl rfl (by rw[z01];show 1+5<=_;omega)) ?_
  rw[show(⟨#[43]⟩:ByteArray)=strL [43] from rfl,z2c,show [(43:UInt8)] ++ fvL n.natAbs=sgL n by unfold sgL;rw[if_neg h0];rfl]
  repeat' first|with_reducible intro _|refine sv ?_|refine ss ?_ ?_<;>(intro h;first|exact sz h|refine sy h ?_)|exact sq|fail
  refine kf ?_
  exact⟨rfl,xg⟩
def spL(ws:List (List UInt8)):List UInt8:=ws.flatMap fun w=>w ++ [32]
def spK(ws:List (List UInt8))(k:Nat):List UInt8:=spL (ws.take k)
theorem zry{ws:List (List UInt8)}{k:Nat}(h:k < ws.length):spK ws (k+1)=spK ws k ++(ws[k] ++ [32]):=by
 unfold spK spL
 rw[List.take_succ_eq_append_getElem h,List.flatMap_append];simp
theorem zji{ws:List (List UInt8)}{B:Nat}(h:∀ w ∈ ws,w.length<=B):∀ k,k<=ws.length->(spK ws k).length<=k*(B+1)
 | 0,_=>by unfold spK spL;simp
 | k+1,hk=>by
  have h1:=zji h k (by omega)
  have h2:=h _ (List.getElem_mem (show k < ws.length by omega))
  rw[zry (by omega),List.length_append,List.length_append,Nat.succ_mul]
  simp only[List.length_singleton]
  omega
def smK8(l:List UInt8)(k:Nat):Nat:=sumN (l.take k)
theorem zrx{l:List UInt8}{k:Nat}(h:k < l.length):smK8 l (k+1)=smK8 l k+byteAt (strL l) k:=by
 unfold smK8
 rw[List.take_succ_eq_append_getElem h,zm4]
 have:byteAt (strL l) k=l[k].toNat:=by
  unfold byteAt strL
  rw[List.getD_eq_getElem?_getD,List.getElem?_eq_getElem h];rfl
 rw[this]
 unfold sumN;simp
theorem zjh(l:List UInt8)(k:Nat):smK8 l k<=255*l.length:=by
 have h1:=zjl (l.take k)
 have h2:(l.take k).length<=l.length:=by rw[List.length_take];omega
 unfold smK8
 omega
set_option maxHeartbeats 4000000 in
theorem zqv{M:Mem}{n:Nat}{own:Bool}{ws:List (List UInt8)}{ty:TypeId}{f:Bool}{e:Nat}(ha:At M n (.cells own (ws.map fun l=>.str (strL l)) ty))(hw:∀ w ∈ ws,w.length<=100)(hl:ws.length<=100)(hD:D64 M) :
  ze Tryz.prog 118 [.slice (some (n,0)) ws.length f e] M (fun w M'=>w=.str (strL (spL ws ++ [hxB (sumN (spL ws) % 256 / 16),hxB (sumN (spL ws) % 256 % 16),10])) /\ Grow M M'):=by
 refine zf k118 rfl ?_
 delta x118;refine un ?_
 repeat' first|with_reducible intro _|refine sv ?_|refine ss ?_ ?_<;>(intro h;first|exact sz h|refine sy h ?_)|exact sq|fail
 refine zi (fun m E ms M'=>∃ k:Nat,m=ws.length - k /\ k<=ws.length /\ ms=[] /\ Has E [(3,.str (strL (spK ws k))),(8,.slice (some (n,0)) ws.length f e),(9,I ws.length),(10,I k)] /\ M'=M)
  ?_ ws.length _ _ _ ⟨0,by omega,by omega,rfl,.cons rfl (.cons rfl (.cons rfl (.cons rfl .nil))),rfl⟩
 rintro m E ms M1 ⟨k,rfl,hk,rfl,hE,rfl⟩
 refine z02 hE ?_
 by_cases hlast:k=ws.length
 case neg =>
  have hlt:k < ws.length:=by omega
  have r1:Rd1 M1 n (0+k*1) (.str (strL ws[k])):=Rd1.of_at ha (by rw[Nat.zero_add,Nat.mul_one,z4w,List.getElem?_map,List.getElem?_eq_getElem hlt];rfl)
  have hsl:=zji hw k hk
  have hwl:=hw _ (List.getElem_mem hlt)
  have hss:=zry hlt
  (have hrd0:=r1;repeat' (first|(with_reducible intro _)|refine sv ?_|refine ss ?_ ?_<;>(intro h;first|exact sz h|refine sy h ?_)|exact sq|fail))
  all_goals try(exfalso;omega)
  have hkb:k*(100+1)<=100*(100+1):=Nat.mul_le_mul_right _ (by omega)
  refine z00 (by exact gd) (z34 rfl rfl (by rw[z01];show _+1<=_;omega)) ?_
  rw[show(⟨#[32]⟩:ByteArray)=strL [32] from rfl,z2c]
  refine z00 (by exact gd) (z34 rfl rfl (by rw[z01,z01,List.length_append];show _+(_+1)<=_;omega)) ?_
  rw[z2c,<- hss]
  repeat' first|with_reducible intro _|refine sv ?_|refine ss ?_ ?_<;>(intro h;first|exact sz h|refine sy h ?_)|exact sq|fail
  exact zq (ws.length - (k+1)) (by omega) ⟨k+1,rfl,by omega,rfl,.cons rfl (.cons rfl (.cons rfl (.cons rfl .nil))),rfl⟩
 rw[hlast] at ⊢
 have hsl:=zji hw ws.length (Nat.le_refl _)
 have hkb:ws.length*(100+1)<=100*(100+1):=Nat.mul_le_mul_right _ (by omega)
 have he:spK ws ws.length=spL ws:=by unfold spK;rw[List.take_length]
 clear hE
 rw[he] at hsl ⊢
 clear he
 generalize spL ws=S at *
 have hsz:=z01 S
 repeat' first|with_reducible intro _|refine sv ?_|refine ss ?_ ?_<;>(intro h;first|exact sz h|refine sy h ?_)|exact sq|fail
 all_goals try(exfalso;omega)
 refine zi (fun m E ms M'=>∃ i:Nat,m=S.length - i /\ i<=S.length /\ ms=[] /\ Has E [(3,.str (strL S)),(6,I (smK8 S i)),(20,I S.length),(21,I i)] /\ M'=M1)
  ?_ S.length _ _ _ ⟨0,by omega,by omega,rfl,.cons rfl (.cons rfl (.cons (by rw[<-hsz];rfl) (.cons rfl .nil))),rfl⟩
 rintro m E ms M2 ⟨i,rfl,hi,rfl,hE,rfl⟩
 refine z02 hE ?_
 by_cases hlast2:i=S.length
 case neg =>
  have hlt:i < S.length:=by omega
  have hss:=zrx hlt
  have hsb:=zjh S i
  have hb:=zh3 (strL S) i
  repeat' first|with_reducible intro _|refine sv ?_|refine ss ?_ ?_<;>(intro h;first|exact sz h|refine sy h ?_)|exact sq|fail
  all_goals try(exfalso;omega)
  exact zq (S.length - (i+1)) (by omega) ⟨i+1,rfl,by omega,rfl,.cons rfl (.cons (by rw[hss];rfl) (.cons rfl (.cons rfl .nil))),rfl⟩
 rw[hlast2]
 have he2:smK8 S S.length=sumN S:=by unfold smK8;rw[List.take_length]
 have hsb:=zjh S S.length
 rw[he2] at hsb ⊢
 have ch:=zqt (sumN S % 256) (by omega) hD
 have er:((sumN S:Int) % 256)=((sumN S % 256:Nat):Int):=by omega
 rw[<-er] at ch
 repeat' first|with_reducible intro _|refine sv ?_|((with_reducible first|apply zp|apply zo|apply zj);exact gd;exact rfl;exact rfl;(first|exact ch))|refine ss ?_ ?_<;>(intro h;first|exact sz h|refine sy h ?_)|exact sq|fail
 all_goals try(exfalso;omega)
 refine z00 (by exact gd) (z34 rfl rfl (by rw[z01,z01];show _+2<=_;omega)) ?_
 rw[z2c]
 refine z00 (by exact gd) (z34 rfl rfl (by rw[z01,List.length_append];show _+2+1<=_;omega)) ?_
 rw[show(⟨#[10]⟩:ByteArray)=strL [10] from rfl,z2c,List.append_assoc]
 repeat' first|with_reducible intro _|refine sv ?_|refine ss ?_ ?_<;>(intro h;first|exact sz h|refine sy h ?_)|exact sq|fail
 refine kf ?_
 exact⟨rfl,xg⟩
end Go.Proofs.YtpgalhbplcanhaaGreatDoor.C
end
section
open Go PvL Go.Proofs
set_option linter.unusedVariables false
set_option linter.unusedSimpArgs false
namespace Go.Proofs.YtpgalhbplcanhaaGreatDoor.C
theorem zsk{E:Env}{M:Mem}{x:XO}{p:Nat}{own:Bool}{c:LV}{cs:List LV}{ty:TypeId}(hx:xval E x=some (.ptr (some (p,0))))(ha:At M p (.cells own (c :: cs) ty)):zm Tryz.prog (.cvp x) E M=some (.val (.ptr (some (p,0))) M):=by
 show ob (xval E x) _=_
 rw[hx,za]
 show atCells M p _=_
 unfold atCells
 rw[ha.1];rfl
theorem zsl{E:Env}{M:Mem}{x:XO}{p:Nat}{a b:LV}{ty:TypeId}(hx:xval E x=some (.ptr (some (p,0))))(ha:At M p (.cells true [a,b] ty)):zm Tryz.prog (.cvq ty 2 x) E M=some (.val (.ptr (some (p,0))) M):=by
 show ob (xval E x) _=_
 rw[hx,za]
 show atCells M p _=_
 unfold atCells
 rw[ha.1]
 show guard' (true && (Nat.beq ty ty && true)) _=_
 rw[Nat.beq_refl];rfl
def self(b:Nat)(a:LV):Prop:=a=.ptr none ∨ a=.ptr (some (b,0))
theorem zjy{E:Env}{M:Mem}{x y:XO}{b:Nat}(hx:xval E x=some (.ptr (some (b,0))))(hy:xval E y=some (.ptr (some (b,0)))):zm Tryz.prog (.eqg true 253 x y) E M=some (.val (.bool false) M):=by
 have e:eqV Tryz.prog 253 (.ptr (some (b,0))) (.ptr (some (b,0)))=guard' (true && Nat.beq b b) (some true):=by kernel_rfl
 have e2:eqV Tryz.prog 253 (.ptr (some (b,0))) (.ptr (some (b,0)))=some true:=by rw[e,Nat.beq_refl];rfl
 show ob (xval E x) _=_
 rw[hx,za,hy,za]
 show guard' true (ob (eqV Tryz.prog 253 (.ptr (some (b,0))) (.ptr (some (b,0)))) _)=_
 rw[e2];rfl
theorem zd3{M:Mem}{b:Nat}{a v:LV}(ha:At M b (.cells true [a,v] 255))(hs:self b a):ze Tryz.prog 177 [.ptr (some (b,0))] M (fun w M'=>At M' b (.cells true [.ptr (some (b,0)),v] 255) /\ Keep (fun i=>i=b) M M'):=by
 refine zf k177 rfl ?_
 delta x177;refine un ?_
 rcases hs with rfl|rfl
 ·repeat' first|with_reducible intro _|refine sv ?_|refine ss ?_ ?_<;>(intro h;first|exact sz h|refine sy h ?_)|exact sq|fail
  refine z00 (v:=.bool true) (by exact gd) (by kernel_rfl) ?_
  repeat' first|with_reducible intro _|refine sv ?_|refine ss ?_ ?_<;>(intro h;first|exact sz h|refine sy h ?_)|exact sq|fail
  refine z00 (by exact gd) (zsk rfl ha) ?_
  repeat' first|with_reducible intro _|refine sv ?_|refine ss ?_ ?_<;>(intro h;first|exact sz h|refine sy h ?_)|exact sq|fail
  refine z00 (by exact gd) (zsl rfl ha) ?_
  repeat' first|with_reducible intro _|refine sv ?_|refine ss ?_ ?_<;>(intro h;first|exact sz h|refine sy h ?_)|exact sq|fail
  rename_i M1 z1 z2 z3
  refine kf ?_
  exact⟨z3,xk⟩
 ·repeat' first|with_reducible intro _|refine sv ?_|refine ss ?_ ?_<;>(intro h;first|exact sz h|refine sy h ?_)|exact sq|fail
  refine z00 (v:=.bool false) (by exact gd) (by kernel_rfl) ?_
  repeat' first|with_reducible intro _|refine sv ?_|refine ss ?_ ?_<;>(intro h;first|exact sz h|refine sy h ?_)|exact sq|fail
  refine z00 (by exact gd) (zjy rfl rfl) ?_
  repeat' first|with_reducible intro _|refine sv ?_|refine ss ?_ ?_<;>(intro h;first|exact sz h|refine sy h ?_)|exact sq|fail
  refine kf ?_
  exact⟨ha,Keep.refl _ _⟩
variable {μ:Md}
theorem Vec.ge{α:Type}{b sz:Nat}{ty:TypeId}{enc:α->List LV}{M:Mem}{v:LV}{l:List α}(h:Vec b sz ty enc M v l){i o n e:Nat}{f:Bool}(hv:v=.slice (some (i,o)) n f e):b<=i:=by
 rcases h with⟨_,rfl⟩|⟨j,rfl,_,h3⟩
 ·cases hv
 ·cases hv;exact h3
theorem Vec.blt{α:Type}{b sz:Nat}{ty:TypeId}{enc:α->List LV}{M:Mem}{v:LV}{l:List α}(h:Vec b sz ty enc M v l){i o n e:Nat}{f:Bool}(hv:v=.slice (some (i,o)) n f e):i < M.next:=by
 rcases h with⟨_,rfl⟩|⟨j,rfl,h2,_⟩
 ·cases hv
 ·cases hv;exact h2.2
section
variable {α:Type} {b sz:Nat} {ty:TypeId} {enc:α->List LV} {M:Mem} {v:LV} {l:List α}
theorem Vec.appx{P:Program}[Orc P]{E:Env}{s x:XO}{by':Nat}{z:List LV}{l':List α}{xv:LV}(h:Vec b sz ty enc M v l)(hs:xval E s=some v)(hx:xval E x=some xv)(hn:z1k xv=some l'.length)(h0:0 < l'.length)
  (hb:(2*(l.length+l'.length)+2048)*by'<=140737488355328) (hz:(Nat.ble 1 sz && (Nat.ble 1 by' && Nat.beq z.length sz))=true) (hw:z0l sz l'.length xv M=some (l'.flatMap enc))
  (henc:∀ x,(enc x).length=sz) (hfl:∀ x,zl (enc x)=true) (hbM:b<=M.next) :
  ∃ v' M',zm P (.app ty sz by' z s x) E M=some (.val v' M') /\ Vec b sz ty enc M' v' (l ++ l') /\ M'.next=M.next+1 /\ Keep (fun i=>b<=i /\ ∃ o n f e,v=.slice (some (i,o)) n f e) M M' /\ ∃ n f e,v'=.slice (some (M.next,0)) n f e:=by
 have hf:=z2j (l:=l') (enc:=enc) (fun x _=>hfl x)
 rcases h with⟨rfl,rfl⟩|⟨i,rfl,h2,h3⟩
 ·refine⟨_,_,z6o hs hx hn h0 (by simpa using hb) hz rfl hw hf (.inl rfl),.inr ⟨M.next,?_,?_,hbM⟩,rfl,?_,_,_,_,rfl⟩
  ·rw[List.nil_append,Nat.zero_add]
  ·rw[List.nil_append,List.nil_append];exact⟨by rw[Mem.get_push,if_pos rfl],Nat.lt_succ_self _⟩
  ·have hN:New M M.next (.cells true ([] ++ l'.flatMap enc) (apE ty)) (M.push (.cells true ([] ++ l'.flatMap enc) (apE ty))):=⟨rfl,rfl⟩
   exact hN.grow.to_keep _
 ·have ho:z0l sz l.length (.slice (some (i,0)) l.length false sz) M=some (l.flatMap enc):=by
   rw[z6y h2 (by rw[z2m (fun x _=>henc x)];omega),List.drop_zero,List.take_of_length_le (by rw[z2m (fun x _=>henc x)];omega)]
  have hK:Kill M i M.next (.cells true (l.flatMap enc ++ l'.flatMap enc) (apE ty)) ((M.upd i none).push (.cells true (l.flatMap enc ++ l'.flatMap enc) (apE ty))):=⟨rfl,rfl⟩
  refine⟨_,_,z95 hs hx hn h0 hb hz ho hw hf h2 (by rw[show Nat.beq (apE ty) (apE ty)=true by simp,Bool.or_true]),.inr ⟨M.next,by rw[List.length_append],?_,hbM⟩,hK.next,hK.keep.weaken fun j hj=>?_,_,_,_,rfl⟩
  ·rw[List.flatMap_append];exact hK.same
  ·subst hj;exact⟨h3,_,_,_,_,rfl⟩
theorem zgw{P:Program}[Orc P]{s0:Nat}{E:Env}{K:Env->Mem->Prop}{ll:List XG}{d:Nat}{g:Option (Nat × Bool)}{s x:XO}{by':Nat}{z:List LV}{l':List α}{xv:LV}{μ:Md}(hg:GOn E g)(hv:Vec b sz ty enc M v l)(hs:xval E s=some v)(hx:xval E x=some xv)(hn:z1k xv=some l'.length)(h0:0 < l'.length)(hb:(2*(l.length+l'.length)+2048)*by'<=140737488355328)(hz:(Nat.ble 1 sz && (Nat.ble 1 by' && Nat.beq z.length sz))=true)(hw:z0l sz l'.length xv M=some (l'.flatMap enc))
  (henc:∀ x,(enc x).length=sz) (hfl:∀ x,zl (enc x)=true) (hbM:b<=M.next) (hk:∀ v' M',Vec b sz ty enc M' v' (l ++ l')->M'.next=M.next+1->Keep (fun i=>b<=i /\ ∃ o n f e,v=.slice (some (i,o)) n f e) M M'->(∃ n f e,v'=.slice (some (M.next,0)) n f e)->XW μ P s0 ll ((d,v') :: E) M' K):XW μ P s0 (⟨some d,.app ty sz by' z s x,g⟩ :: ll) E M K:=by
 obtain⟨v',M',h1,h2,h3,h4,h5⟩:=Vec.appx (P:=P) hv hs hx hn h0 hb hz hw henc hfl hbM
 exact z7c hg h1 (hk v' M' h2 h3 h4 h5)
end
theorem firstS(l:List UInt8)(M:Mem):z0l 1 l.length (.str (strL l)) M=some (l.flatMap u8c):=by
 have:=zhw (strL l) M
 rw[show(strL l).data.toList=l from rfl] at this
 rw[this,z2k]
def BldS(b0:Nat)(M:Mem)(b:Nat)(l:List UInt8):Prop:=∃ a v,At M b (.cells true [a,v] 255) /\ self b a /\ Vec b0 1 5 u8c M v l /\ (l=[]->v=.slice none 0 true 0)
set_option maxHeartbeats 2000000 in
theorem zaf{M:Mem}{b b0:Nat}{l l':List UInt8}(hb:BldS b0 M b l)(hb0:b < b0)(hbM:b0<=M.next)(h0:0 < l'.length)(hl:l.length+l'.length<=1000000000000) :
  ze Tryz.prog 117 [.ptr (some (b,0)),.str (strL l')] M (fun w M'=>BldS b0 M' b (l ++ l') /\ Keep (fun i=>i=b ∨ b0<=i) M M'):=by
 obtain⟨a,v,ha,hs,hv,-⟩:=hb
 refine zf k117 rfl ?_
 delta x117;refine un ?_
 have cc:=zd3 ha hs
 repeat' first|with_reducible intro _|refine sv ?_|refine ss ?_ ?_<;>(intro h;first|exact sz h|refine sy h ?_)|exact sq|fail
 refine zt (by exact gd) rfl rfl (show AppOk Tryz.prog _ _ M _ from cc) ?_
 rintro w M1 ⟨a1,k1⟩
 have hv1:=hv.keep k1 (fun i hi=>by omega)
 obtain⟨va,vf,ve,rfl⟩:=hv1.shape
 have rd1:Rd1 M1 b 1 (.slice va l.length vf ve):=Rd1.of_at a1 rfl
 (have hrd0:=rd1;repeat' (first|(with_reducible intro _)|refine sv ?_|refine ss ?_ ?_<;>(intro h;first|exact sz h|refine sy h ?_)|exact sq|fail))
 have k1n:=k1.le
 refine zgw (by exact gd) hv1 rfl rfl (show some (strL l').size=_ by rw[z01]) h0 (by omega) rfl (firstS l' M1) (fun _=>rfl) (fun _=>rfl) (by omega) ?_
 rintro v2 M2 hv2 e2 k2 ⟨n2,f2,q2,rfl⟩
 have a2:=k2.at a1 (fun hi=>by have:=hi.1;omega)
 repeat' first|with_reducible intro _|refine sv ?_|refine ss ?_ ?_<;>(intro h;first|exact sz h|refine sy h ?_)|exact sq|fail
 rename_i M3 D1 D2 D3
 refine kf ?_
 have hu:Keep (fun i=>i=b) M2 M3:=(Keep.refl (fun i=>i=b) M2).upd D1 (.inl rfl)
 refine⟨⟨_,_,D3,.inr rfl,hv2.keep hu (fun i hi=>by subst hi;omega),fun h=>absurd (congrArg List.length h) (by rw[List.length_append];show _ ≠ 0;omega)⟩,?_⟩
 exact((k1.weaken (fun i hi=>.inl hi)).trans k2 (fun i hi=>.inl (.inr hi.1))).trans hu (fun i hi=>.inl (.inl hi))
theorem zpy{E:Env}{M:Mem}{x:XO}{i n:Nat}{f:Bool}{e:Nat}(hx:xval E x=some (.slice (some (i,0)) n f e))(hn:1<=n):zm Tryz.prog (.sdat x) E M=some (.val (.ptr (some (i,0))) M):=by
 show ob (xval E x) _=_
 rw[hx,za]
 show guard' (Nat.ble 1 n) _=_
 rw[Nat.ble_eq_true_of_le hn];rfl
theorem zq2{E:Env}{M:Mem}{x y:XO}{i:Nat}{l:List UInt8}(hx:xval E x=some (.ptr (some (i,0))))(hy:xval E y=some (I (l.length:Int)))(hn:1<=l.length)(hl:l.length<=1000000000000)(ha:At M i (.cells true (z0f l) (apE 5))):zm Tryz.prog (.ustr 5 x y) E M=some (.val (.str (strL l)) (M.upd i none)):=by
 show ob (xval E x) _=_
 rw[hx,za,hy,za]
 have h0:Nat.beq l.length 0=false:=Bool.eq_false_iff.2 fun h=>by have:=Nat.eq_of_beq_eq_true h;omega
 show ifb (Nat.beq l.length 0) _ _=_
 rw[h0,zh]
 show atCells M i _=_
 unfold atCells
 rw[ha.1]
 show guard' (true && ((Nat.beq (apE 5) 5 || Nat.beq (apE 5) (apE 5)) && Nat.ble l.length 9223372036854775807)) (ob (take' l.length (drop' 0 (z0f l))) _)=_
 have ht:=(zf4 ha).1
 unfold loadN atCells at ht
 rw[ha.1] at ht
 have ht:take' l.length (drop' 0 (z0f l))=some (z0f l):=ht
 rw[ht,Nat.ble_eq_true_of_le (show l.length<=9223372036854775807 by omega),za,z2a];rfl
theorem zkf{M:Mem}{b b0:Nat}{l:List UInt8}(hb:BldS b0 M b l)(hb0:b < b0)(hl:l.length<=1000000000000) :
  ze Tryz.prog 121 [.ptr (some (b,0))] M (fun w M'=>w=.str (strL l) /\ Keep (fun i=>b0<=i) M M'):=by
 obtain⟨a,v,ha,hs,hv,hnil⟩:=hb
 refine zf k121 rfl ?_
 delta x121;refine un ?_
 have rd1:Rd1 M b 1 v:=Rd1.of_at ha rfl
 (have hrd0:=rd1;repeat' (first|(with_reducible intro _)|refine sv ?_|refine ss ?_ ?_<;>(intro h;first|exact sz h|refine sy h ?_)|exact sq|fail))
 rcases hv with⟨rfl,rfl⟩|⟨i,rfl,h2,h3⟩
 ·refine zbv (v:=.ptr none) (M':=M) (by exact gd) (by kernel_rfl) ?_
  (have hrd0:=rd1;repeat' (first|(with_reducible intro _)|refine sv ?_|refine ss ?_ ?_<;>(intro h;first|exact sz h|refine sy h ?_)|exact sq|fail))
  refine zbv (v:=.str ⟨#[]⟩) (M':=M) (by exact gd) (by kernel_rfl) ?_
  repeat' first|with_reducible intro _|refine sv ?_|refine ss ?_ ?_<;>(intro h;first|exact sz h|refine sy h ?_)|exact sq|fail
  refine kf ?_
  exact⟨rfl,Keep.refl _ _⟩
 ·have hn:1<=l.length:=Nat.one_le_iff_ne_zero.2 fun h=>by
   have:=hnil (List.eq_nil_of_length_eq_zero h)
   cases this
  rw[<-z2k] at h2
  refine zbv (by exact gd) (zpy rfl hn) ?_
  (have hrd0:=rd1;repeat' (first|(with_reducible intro _)|refine sv ?_|refine ss ?_ ?_<;>(intro h;first|exact sz h|refine sy h ?_)|exact sq|fail))
  refine zbv (by exact gd) (zq2 rfl rfl hn hl h2) ?_
  have hk:Keep (fun i=>b0<=i) M (M.upd i none):=⟨Nat.le_refl _,fun j hj hf=>by
   rw[Mem.get_upd,if_neg (fun h=>hf (by rw[h];exact h3))]⟩
  generalize M.upd i none=M9 at *
  repeat' first|with_reducible intro _|refine sv ?_|refine ss ?_ ?_<;>(intro h;first|exact sz h|refine sy h ?_)|exact sq|fail
  refine kf ?_
  exact⟨rfl,hk⟩
end Go.Proofs.YtpgalhbplcanhaaGreatDoor.C
end
section
open Go PvL Go.Proofs
set_option linter.unusedSimpArgs false
set_option linter.unusedVariables false
namespace Go.Proofs.YtpgalhbplcanhaaGreatDoor.C
theorem zrg{m:Mk}(h:mkB m=true):(0<=m.1 /\ m.1<=60000) /\ (-32768<=m.2.1 /\ m.2.1<=32768) /\ (-32768<=m.2.2.1 /\ m.2.2.1<=32768) /\ 0<=m.2.2.2 /\ m.2.2.2<=99999:=by
 unfold mkB ptB btB at h
 simp only[Bool.and_eq_true,decide_eq_true_eq] at h
 omega
theorem BldS.grow{b0 b:Nat}{M M':Mem}{l:List UInt8}(h:BldS b0 M b l)(hg:Grow M M'):BldS b0 M' b l:=by
 obtain⟨a,v,h1,h2,h3,h4⟩:=h
 exact⟨a,v,h1.grow hg,h2,h3.grow hg,h4⟩
theorem zu0(sn tn:Nat)(x y:Int):spL [fvL sn,sgL x,sgL y,fvL tn]=lbL ((sn:Int),x,y,(tn:Int)):=rfl
theorem zu4(sn tn:Nat)(x y:Int):∀ w ∈ [fvL sn,sgL x,sgL y,fvL tn],w.length<=100:=by
 intro w hw
 simp only[List.mem_cons,List.not_mem_nil,or_false] at hw
 rcases hw with rfl|rfl|rfl|rfl
 ·show 5<=100;omega
 ·show 6<=100;omega
 ·show 6<=100;omega
 ·show 5<=100;omega
set_option maxHeartbeats 8000000 in
theorem zn1{M:Mem}{a:Option (Nat × Nat)}{l:List Mk}{f:Bool}{e:Nat}(hs:SlM M a l)(hm:mksB l=true)(hP:P10 M)(hD:D64 M) :
  ze Tryz.prog 51 [.slice a l.length f e] M (fun w M'=>w=.str (strL (mxL l)) /\ Grow M M'):=by
 have hl:=zih hm
 have hmk:=z7f hm
 refine zf k51 rfl ?_
 delta x51;refine un ?_
 repeat' first|with_reducible intro _|refine sv ?_|refine ss ?_ ?_<;>(intro h;first|exact sz h|refine sy h ?_)|exact sq|fail
 rename_i b M1 z1 z2 z3
 have hg:=z1.grow
 have hb1:BldS M1.next M1 b []:=⟨_,_,At.new_same z1,.inl rfl,Vec.nil,fun _=>rfl⟩
 generalize hb0:M1.next=b0 at *
 clear z1
 refine zi (fun m E ms M'=>∃ k:Nat,m=l.length - k /\ k<=l.length /\ ms=[] /\ Has E [(3,.ptr (some (b,0))),(6,.slice a l.length f e),(7,I l.length),(8,I k)] /\ Grow M M' /\ b0<=M'.next /\ BldS b0 M' b (mxK l k))
  ?_ l.length _ _ _ ⟨0,by omega,by omega,rfl,.cons rfl (.cons rfl (.cons rfl (.cons rfl .nil))),hg,by omega,hb1⟩
 rintro m E ms M2 ⟨k,rfl,hk,rfl,hE,hg2,hn2,hb2⟩
 refine z02 hE ?_
 by_cases hlast:k=l.length
 ·rw[hlast] at hb2 ⊢
  rw[zoy] at hb2
  have hlen:=z48 l
  repeat' first|with_reducible intro _|refine sv ?_|refine ss ?_ ?_<;>(intro h;first|exact sz h|refine sy h ?_)|exact sq|fail
  all_goals try(exfalso;omega)
  refine zt (by exact gd) rfl rfl (show AppOk Tryz.prog _ _ M2 _ from zkf hb2 (by omega) (by omega)) ?_
  rintro w M3 ⟨rfl,k3⟩
  repeat' first|with_reducible intro _|refine sv ?_|refine ss ?_ ?_<;>(intro h;first|exact sz h|refine sy h ?_)|exact sq|fail
  refine kf ?_
  exact⟨rfl,Keep.to_grow' hg2 k3 (fun i hi=>by omega)⟩
 have hlt:k < l.length:=by omega
 obtain⟨i,o,rfl,hr⟩:=(hs.grow hg2).rd hlt
 have hrk:=hr k hlt
 have hks:=zts hlt
 have hkl:=zoz hk
 have hmb:=zrg (hmk _ (List.getElem_mem hlt))
 rw[<-zif hlt] at hmb
 generalize hK1:mxK l (k+1)=K1 at *
 generalize hmm:me l k=m at *
 obtain⟨s,x,y,t⟩:=m
 dsimp only at hmb
 have hrk:Rd M2 i (o+k*4) 4 [I s,I x,I y,I t]:=hrk
 have hl2:=hg2.le
 obtain⟨sn,rfl⟩:∃ sn:Nat,s=sn:=⟨s.toNat,by omega⟩
 obtain⟨tn,rfl⟩:∃ tn:Nat,t=tn:=⟨t.toNat,by omega⟩
 have hP2:=hP.grow hg2
 have hD2:=hD.grow hg2
 have c1:=fun M' (hg:Grow M2 M')=>zef sn (by omega) (hP2.grow hg)
 have c2:=fun M' (hg:Grow M2 M')=>zeh x (by omega) (hP2.grow hg)
 have c3:=fun M' (hg:Grow M2 M')=>zeh y (by omega) (hP2.grow hg)
 have c4:=fun M' (hg:Grow M2 M')=>zef tn (by omega) (hP2.grow hg)
 (have hrd0:=hrk;repeat' (first|(with_reducible intro _)|refine sv ?_|((with_reducible first|apply zp|apply zo|apply zj);exact gd;exact rfl;exact rfl;(first|exact c1 _ (xg)|exact c2 _ (xg)|exact c3 _ (xg)|exact c4 _ (xg)))|refine ss ?_ ?_<;>(intro h;first|exact sz h|refine sy h ?_)|exact sq|fail))
 all_goals try(exfalso;omega)
 rename_i n5 M5 y1 y2 y3 M6 y4 y5 y6 M7 y7 y8 M8 y9 y10 M9 y11 y12 M10 y13 y14 n11 M11 y15 y16 y17
 have g11:Grow M2 M11:=xg
 have a11:At M11 n11 (.cells true ([fvL sn,sgL x,sgL y,fvL tn].map fun l=>.str (strL l)) _):=At.new_same y15
 have hD11:=hD2.grow g11
 have hb11:=hb2.grow g11
 have hg11:=hg2.trans g11
 have l11:=g11.le
 clear y1 y4 y13 y15 g11 c1 c2 c3 c4
 have cl:=zqv (f:=true) (e:=1) a11 (zu4 sn tn x y) (by show 4<=100;omega) hD11
 rw[zu0] at cl
 refine zz (by exact gd) rfl rfl (show AppOk Tryz.prog _ _ M11 _ from cl) ?_
 rintro w M12 ⟨rfl,g12⟩
 have hb12:=hb11.grow g12
 have hg12:=hg11.trans g12
 have l12:=g12.le
 have cw:=zaf (l':=lnL ((sn:Int),x,y,(tn:Int))) hb12 (by omega) (by omega) (by rw[z8d];omega) (by rw[z8d];omega)
 refine zz (by exact gd) rfl rfl (show AppOk Tryz.prog _ _ M12 _ from cw) ?_
 rintro w M13 ⟨hb13,k13⟩
 rw[<-hks] at hb13
 have l13:=k13.le
 repeat' first|with_reducible intro _|refine sv ?_|refine ss ?_ ?_<;>(intro h;first|exact sz h|refine sy h ?_)|exact sq|fail
 exact zq (l.length - (k+1)) (by omega) ⟨k+1,rfl,by omega,rfl,.cons rfl (.cons rfl (.cons rfl (.cons rfl .nil))),Keep.to_grow' hg12 k13 (fun i hi=>by omega),by omega,by rw[<-hK1] at hb13;exact hb13⟩
theorem z2w{M:Mem}{a:Option (Nat × Nat)}{l:List Mk}{f:Bool}{e:Nat}(hs:SlM M a l)(hl:l.length<=1000000000000000)(hP:P10 M)(hD:D64 M) :
  ze Tryz.prog 12 [.slice a l.length f e] M (fun w M'=>w=.tup [.str (strL (mpF l).1),I (mpF l).2] /\ Grow M M'):=by
 refine zf k12 rfl ?_
 delta x12;refine un ?_
 have cc:=fun M' (hg:Grow M M')=>z3v (f:=f) (e:=e) (hs.grow hg) hl
 unfold mpF errMk at *
 cases hm:mksB l with
 | false =>
  simp only[hm,if_true,if_false,Bool.false_eq_true] at cc ⊢
  repeat' first|with_reducible intro _|refine sv ?_|((with_reducible first|apply zp|apply zo|apply zj);exact gd;exact rfl;exact rfl;(first|exact cc _ (xg)))|refine ss ?_ ?_<;>(intro h;first|exact sz h|refine sy h ?_)|exact sq|fail
  refine kf ?_
  exact⟨rfl,xg⟩
 | true =>
  simp only[hm,if_true,if_false,Bool.false_eq_true] at cc ⊢
  have ct:=fun M' (hg:Grow M M')=>zn1 (f:=f) (e:=e) (hs.grow hg) hm (hP.grow hg) (hD.grow hg)
  repeat' first|with_reducible intro _|refine sv ?_|((with_reducible first|apply zp|apply zo|apply zj);exact gd;exact rfl;exact rfl;(first|exact cc _ (xg)|exact ct _ (xg)))|refine ss ?_ ?_<;>(intro h;first|exact sz h|refine sy h ?_)|exact sq|fail
  refine kf ?_
  exact⟨rfl,xg⟩
theorem zfi{E:Env}{M:Mem}{x lo:XO}{s:ByteArray}{q:Nat}(hx:xval E x=some (.str s))(hl:xval E lo=some (I (q:Int)))(hq:q<=s.size):zm Tryz.prog (.slS x (some lo) none none) E M=some (.val (.str (s.extract q s.size)) M):=by
 show ob (xval E x) _=_
 rw[hx,za]
 have e1:xvalo E (some lo)=some (some (I (q:Int))):=by show ob (xval E lo) _=_;rw[hl];rfl
 rw[e1,za]
 show guard' (Nat.ble q s.size) (some (R1.val (LV.str (s.extract q s.size)) M))=_
 rw[Nat.ble_eq_true_of_le hq];rfl
theorem zhv(s:ByteArray)(p q:Nat):(s.extract p q).data.toList=(s.data.toList.drop p).take (q - p):=by
 rw[ByteArray.data_extract,Array.toList_extract]
theorem zjk(s:ByteArray):strL s.data.toList=s:=rfl
theorem zl0(l:List UInt8)(a b:Nat):(strL l).extract a b=strL (sub8 l a b):=by
 have h:=zhv (strL l) a b
 rw[<-zjk ((strL l).extract a b),h];rfl
theorem zto(l:List UInt8):byteAt (strL l) 0=(l.headD 0).toNat:=by
 unfold byteAt strL
 cases l<;>rfl
theorem zs8{b:UInt8}(h:dg8 b=true):IntKind.wrap .u8 ((b.toNat:Int) - 48)=((b.toNat - 48:Nat):Int) /\ b.toNat - 48<=9:=by
 unfold dg8 at h
 rw[Bool.and_eq_true,decide_eq_true_eq,decide_eq_true_eq] at h
 refine⟨?_,by omega⟩
 rw[wrap8 (by omega)];omega
theorem zu1{b:UInt8}(h:dg8 b=false):9 < IntKind.wrap .u8 ((b.toNat:Int) - 48):=by
 have hb:=b.toNat_lt
 unfold dg8 at h
 by_cases h1:48<=b.toNat
 ·rw[decide_eq_true h1,Bool.true_and,decide_eq_false_iff_not] at h
  rw[wrap8 (by omega)];omega
 ·unfold IntKind.wrap
  simp only[IntKind.signed,IntKind.bits,Bool.false_and,Bool.false_eq_true,if_false]
  omega
theorem zmn{E:Env}{M:Mem}{x:XO}{e:Nat}{r r':List UInt8}(hx:xval E x=some (.str (strL r')))(h:r'=r):zm Tryz.prog (.sbyt e x) E M=some (.val (.slice (some (M.next,0)) r.length false 1) (M.push (.cells true (z0f r) (apE e)))):=by
 subst h
 show ob (xval E x) _=_
 rw[hx,za];rfl
set_option maxHeartbeats 8000000 in
theorem znx(l:List UInt8)(hl:2<=l.length /\ l.length<=18)(M:Mem):ze Tryz.prog 180 [.str (strL l)] M (fun w M'=>(w=.tup [I (atI l),.nilIface] ∨(w=.tup [I 0,.iface 401 (I 2)] /\ atI l=0)) /\ Grow M M'):=by
 refine zf k180 rfl ?_
 delta x180;refine un ?_
 have hsz:=z01 l
 have hh:=zto l
 have htl:sub8 l 1 l.length=l.tail:=by
  unfold sub8
  rw[List.take_of_length_le (by rw[List.length_drop];exact Nat.le_refl _)]
  exact List.drop_one
 have hlt:l.tail.length=l.length - 1:=List.length_tail
 have hat:atI l=if (atR l).all dg8 then(if (l.headD 0).toNat=45 then -(vlN (atR l):Int) else(vlN (atR l):Int)) else 0:=rfl
 have har:atR l=if sgB (l.headD 0) then l.tail else l:=rfl
 unfold sgB at har
 rw[<-hh] at hat har
 have i0:∀(E:Env) (M:Mem) (x:XO),xval E x=some (.str (strL l))->zm Tryz.prog (.idxS x (.c (.int .i64 0))) E M=some (.val (.int .u8 (byteAt (strL l) 0:Int)) M):=fun E M x hx=>z1f (k:=0) hx rfl (by rw[hsz];omega)
 generalize byteAt (strL l) 0=b0 at *
 repeat' first|with_reducible intro _|refine sv ?_|refine ss ?_ ?_<;>(intro h;first|exact sz h|refine sy h ?_)|exact sq|fail
 refine z00 (by exact gd) (i0 _ _ _ rfl) ?_
 repeat' first|with_reducible intro _|refine sv ?_|refine ss ?_ ?_<;>(intro h;first|exact sz h|refine sy h ?_)|exact sq|fail
 rename_i h45 _
 have hr:atR l=l.tail:=by rw[har,decide_eq_true (by omega:b0=45)];rfl
 refine z00 (by exact gd) (zfi (q:=1) rfl rfl (by omega)) ?_
 rw[zl0,hsz,htl]
 have hz:=z01 l.tail
 repeat' first|with_reducible intro _|refine sv ?_|refine ss ?_ ?_<;>(intro h;first|exact sz h|refine sy h ?_)|exact sq|fail
 all_goals try(exfalso;omega)
 rotate_left
 rename_i h45
 have h45:b0 ≠ 45:=by omega
 refine z00 (by exact gd) (i0 _ _ _ rfl) ?_
 repeat' first|with_reducible intro _|refine sv ?_|refine ss ?_ ?_<;>(intro h;first|exact sz h|refine sy h ?_)|exact sq|fail
 rename_i h43
 have hr:atR l=l.tail:=by rw[har,decide_eq_true (by omega:b0=43),Bool.or_true];rfl
 refine z00 (by exact gd) (zfi (q:=1) rfl rfl (by omega)) ?_
 rw[zl0,hsz,htl]
 have hz:=z01 l.tail
 repeat' first|with_reducible intro _|refine sv ?_|refine ss ?_ ?_<;>(intro h;first|exact sz h|refine sy h ?_)|exact sq|fail
 all_goals try(exfalso;omega)
 rotate_left
 rename_i h43
 have hr:atR l=l:=by rw[har,decide_eq_false h45,decide_eq_false (by omega:¬ b0=43)];rfl
 all_goals
  refine z7c (by exact gd) (zmn rfl hr.symm) ?_
  have hrl:1<=(atR l).length /\ (atR l).length<=18:=by rw[hr];omega
  clear hr har
  generalize atR l=r at *
  have hN1:New M M.next (.cells true (z0f r) (apE 5)) (M.push (.cells true (z0f r) (apE 5))):=⟨rfl,rfl⟩
  generalize M.push (.cells true (z0f r) (apE 5))=M1 at *
  have hg:=hN1.grow
  have hA:=At.new_same hN1
  generalize M.next=nb at *
  clear hN1
  repeat' first|with_reducible intro _|refine sv ?_|refine ss ?_ ?_<;>(intro h;first|exact sz h|refine sy h ?_)|exact sq|fail
  refine zi (fun m E ms M'=>∃ k:Nat,m=r.length - k /\ k<=r.length /\ ms=[] /\ Has E [(5,.str (strL l)),(6,I (vlK r k)),(47,.slice (some (nb,0)) r.length false 1),(48,I r.length),(49,I k)] /\ M'=M1 /\ dg8K r k=true)
   ?_ r.length _ _ _ ⟨0,by omega,by omega,rfl,.cons rfl (.cons rfl (.cons rfl (.cons rfl (.cons rfl .nil)))),rfl,rfl⟩
  rintro m E ms M2 ⟨k,rfl,hk,rfl,hE,rfl,hall⟩
  refine z02 hE ?_
  have hpw:10 ^ k<=10 ^ 18:=Nat.pow_le_pow_right (by omega) (by omega)
  have hvk:=Nat.lt_of_lt_of_le (zjn hk hall) hpw
  by_cases hlast:k=r.length
  ·rw[hlast,zku] at hall
   rw[hlast,zpi] at hvk ⊢
   rw[hall,if_pos rfl] at hat
   repeat' first|with_reducible intro _|refine sv ?_|refine ss ?_ ?_<;>(intro h;first|exact sz h|refine sy h ?_)|exact sq|fail
   all_goals try(exfalso;omega)
   refine z00 (by exact gd) (i0 _ _ _ rfl) ?_
   by_cases h9:b0=45
   ·rw[if_pos h9] at hat
    repeat' first|with_reducible intro _|refine sv ?_|refine ss ?_ ?_<;>(intro h;first|exact sz h|refine sy h ?_)|exact sq|fail
    all_goals try(exfalso;omega)
    all_goals (refine kf ?_)
    all_goals exact⟨.inl (by rw[hat];rfl),hg⟩
   ·rw[if_neg h9] at hat
    repeat' first|with_reducible intro _|refine sv ?_|refine ss ?_ ?_<;>(intro h;first|exact sz h|refine sy h ?_)|exact sq|fail
    all_goals try(exfalso;omega)
    all_goals (refine kf ?_)
    all_goals exact⟨.inl (by rw[hat];rfl),hg⟩
  have hlt:k < r.length:=by omega
  have r1:Rd1 M2 nb (0+k*1) (.int .u8 (r[k].toNat:Int)):=Rd1.of_at hA (by rw[Nat.zero_add,Nat.mul_one,z4w];unfold z0f;rw[List.getElem?_map,List.getElem?_eq_getElem hlt];rfl)
  have hvk:=Nat.lt_of_lt_of_le (zjn hk hall) (Nat.pow_le_pow_right (show 0 < 10 by omega) (show k<=17 by omega))
  have hvs:=zs7 hlt
  have hds:=zn4 hlt
  have hno:dg8 r[k]=false->atI l=0:=fun h=>by
   rw[hat,if_neg]
   intro h2
   have:=List.all_eq_true.1 h2 _ (List.getElem_mem hlt)
   rw[h] at this;cases this
  have hy:=zs8 (b:=r[k])
  have hn:=zu1 (b:=r[k])
  generalize r[k]=c at *
  cases hc:dg8 c with
  | false =>
   have hn:=hn hc
   have hno:=hno hc
   (have hrd0:=r1;repeat' (first|(with_reducible intro _)|refine sv ?_|refine ss ?_ ?_<;>(intro h;first|exact sz h|refine sy h ?_)|exact sq|fail))
   all_goals try(exfalso;omega)
   refine z00 (v:=.iface 401 (I 2)) (by exact gd) rfl ?_
   repeat' first|with_reducible intro _|refine sv ?_|refine ss ?_ ?_<;>(intro h;first|exact sz h|refine sy h ?_)|exact sq|fail
   refine kf ?_
   exact⟨.inr ⟨rfl,hno⟩,hg⟩
  | true =>
   obtain⟨hy1,hy2⟩:=hy hc
   rw[hall,hc] at hds
   (have hrd0:=r1;repeat' (first|(with_reducible intro _)|refine sv ?_|refine ss ?_ ?_<;>(intro h;first|exact sz h|refine sy h ?_)|exact sq|fail))
   all_goals try(exfalso;omega)
   exact zq (r.length - (k+1)) (by omega) ⟨k+1,rfl,by omega,rfl,.cons rfl (.cons (by rw[hvs];show some (LV.int .i64 ((vlK r k:Int)*10+IntKind.wrap .u8 ((c.toNat:Int) - 48)))=_;rw[hy1];rfl) (.cons rfl (.cons rfl (.cons rfl .nil)))),rfl,hds⟩
def ES(M:Mem):Prop:=∃ own,At M 2 (.cells own [.iface 495 .unk] 0)
theorem ES.grow{M M':Mem}(h:ES M)(hg:Grow M M'):ES M':=by
 obtain⟨own,h⟩:=h
 exact⟨own,At.grow hg h⟩
theorem zmp{E:Env}{M:Mem}{x y:XO}{i:Nat}{l:List UInt8}(hx:xval E x=some (.ptr (some (i,0))))(hy:xval E y=some (I (l.length:Int)))(hn:1<=l.length)(hl:l.length<=1000000000000)(ha:At M i (.cells true (z0f l) 5)):zm Tryz.prog (.ustr 5 x y) E M=some (.val (.str (strL l)) (M.upd i none)):=by
 show ob (xval E x) _=_
 rw[hx,za,hy,za]
 have h0:Nat.beq l.length 0=false:=Bool.eq_false_iff.2 fun h=>by have:=Nat.eq_of_beq_eq_true h;omega
 show ifb (Nat.beq l.length 0) _ _=_
 rw[h0,zh]
 show atCells M i _=_
 unfold atCells
 rw[ha.1]
 show guard' (true && ((Nat.beq 5 5 || Nat.beq 5 (apE 5)) && Nat.ble l.length 9223372036854775807)) (ob (take' l.length (drop' 0 (z0f l))) _)=_
 have ht:=(zf4 ha).1
 unfold loadN atCells at ht
 rw[ha.1] at ht
 have ht:take' l.length (drop' 0 (z0f l))=some (z0f l):=ht
 rw[ht,Nat.ble_eq_true_of_le (show l.length<=9223372036854775807 by omega),za,z2a];rfl
theorem setAll:∀(cs vs:List LV),cs.length=vs.length->z0h cs 0 vs=some vs
 | [],[],_=>rfl
 | c :: cs,v :: vs,h=>by
  have ih:=setAll cs vs (Nat.succ.inj h)
  show ob (z0h cs 0 vs) _=_
  rw[ih];rfl
theorem zpt{E:Env}{M:Mem}{x y:XO}{p:Nat}{l:List UInt8}{f:Bool}{e:Nat}{cs:List LV}{ty:TypeId}(hx:xval E x=some (.slice (some (p,0)) l.length f e))(hy:xval E y=some (.str (strL l)))(h1:1<=l.length)(ha:At M p (.cells true cs ty))(hc:cs.length=l.length) :
  zm Tryz.prog (.cpy 1 x y) E M=some (.val (I l.length) (M.upd p (some (.cells true (z0f l) ty)))):=by
 show ob (xval E x) _=_
 rw[hx,za,hy,za]
 have hz:(strL l).size=l.length:=z01 l
 show ifb (Nat.beq (Nat.min (strL l).size l.length) 0) _ (ob (z0l 1 (Nat.min (strL l).size l.length) (.str (strL l)) M) _)=_
 rw[hz,show Nat.min l.length l.length=l.length from Nat.min_self _]
 have h0:Nat.beq l.length 0=false:=Bool.eq_false_iff.2 fun h=>by have:=Nat.eq_of_beq_eq_true h;omega
 have hf:=firstS l M
 rw[<-z2k] at hf
 rw[h0,zh,hf,za,za7,zd]
 show ob (storeCs M p 0 (z0f l)) _=_
 unfold storeCs atCells
 rw[ha.1]
 show ob (guard' true (ob (z0h cs 0 (z0f l)) _)) _=_
 rw[zd,setAll _ _ (by rw[hc,z69])];rfl
theorem z2g(n:Nat)(v:LV):(rep n [v]).length=n:=by
 induction n with
 | zero=>rfl
 | succ n ih =>
  show([v] ++ rep n [v]).length=_
  rw[List.length_append,ih,List.length_singleton];omega
theorem znz(l:List UInt8)(hl:1<=l.length /\ l.length<=1000)(M:Mem):ze Tryz.prog 297 [.str (strL l)] M (fun w M'=>w=.str (strL l) /\ Grow M M'):=by
 refine zf k297 rfl ?_
 delta x297;refine un ?_
 have hsz:=z01 l
 repeat' first|with_reducible intro _|refine sv ?_|refine ss ?_ ?_<;>(intro h;first|exact sz h|refine sy h ?_)|exact sq|fail
 all_goals try(exfalso;omega)
 rw[hsz]
 refine z7c (by exact gd) (z96 (nl:=l.length) (nc:=l.length) rfl rfl (Nat.le_refl _) (by omega) (by omega)) ?_
 have hN1:New M M.next (.cells true (rep l.length [.int .u8 0]) 5) (M.push (.cells true (rep l.length [.int .u8 0]) 5)):=⟨rfl,rfl⟩
 generalize M.push (.cells true (rep l.length [.int .u8 0]) 5)=M1 at *
 have hg:=hN1.grow
 have hA:=At.new_same hN1
 have hle:M.next<=M.next:=Nat.le_refl _
 generalize hnb:M.next=nb at *
 clear hN1
 repeat' first|with_reducible intro _|refine sv ?_|refine ss ?_ ?_<;>(intro h;first|exact sz h|refine sy h ?_)|exact sq|fail
 refine z7c (by exact gd) (zpt rfl rfl hl.1 hA (z2g _ _)) ?_
 have hU:Upd M1 nb (.cells true (z0f l) 5) (M1.upd nb (some (.cells true (z0f l) 5))):=⟨rfl⟩
 have hA2:=At.upd_same hU hA
 have hg2:=hg.upd hU (by omega)
 generalize M1.upd nb (some (.cells true (z0f l) 5))=M2 at *
 clear hU hA hg
 repeat' first|with_reducible intro _|refine sv ?_|refine ss ?_ ?_<;>(intro h;first|exact sz h|refine sy h ?_)|exact sq|fail
 refine z7c (by exact gd) (zmp rfl rfl hl.1 (by omega) hA2) ?_
 have hg3:Grow M (M2.upd nb none):=Grow.drop hg2 (by omega)
 generalize M2.upd nb none=M3 at *
 repeat' first|with_reducible intro _|refine sv ?_|refine ss ?_ ?_<;>(intro h;first|exact sz h|refine sy h ?_)|exact sq|fail
 refine kf ?_
 exact⟨rfl,hg3⟩
theorem ztc{M:Mem}{s l:List UInt8}(hl:1<=l.length /\ l.length<=1000)(hE:ES M):ze Tryz.prog 236 [.str (strL s),.str (strL l)] M (fun w M'=>(∃ p,w=.ptr (some (p,0))) /\ Grow M M'):=by
 have hE0:=hE
 obtain⟨own,ha⟩:=hE0
 refine zf k236 rfl ?_
 delta x236;refine un ?_
 have rE:∀ M',Grow M M'->Rd1 M' 2 0 (.iface 495 .unk):=fun M' hg=>Rd1.of_at (At.grow hg ha) rfl
 repeat' first|with_reducible intro _|refine sv ?_|((with_reducible first|apply zp|apply zo|apply zj);exact gd;exact rfl;exact rfl;(first|exact znz l hl _))|refine ss ?_ ?_<;>(intro h;first|exact sz h|refine sy h ?_)|exact sq|fail
 refine kf ?_
 exact⟨⟨_,rfl⟩,xg⟩
theorem zoe{M:Mem}{s l:List UInt8}(hl:1<=l.length /\ l.length<=1000)(hE:ES M):ze Tryz.prog 181 [.str (strL s),.str (strL l),I 0,I 0,.iface 401 (I 2)] M (fun w M'=>Grow M M'):=by
 refine zf k181 rfl ?_
 delta x181;refine un ?_
 have cs:=ztc (s:=s) hl hE
 repeat' first|with_reducible intro _|refine sv ?_|refine ss ?_ ?_<;>(intro h;first|exact sz h|refine sy h ?_)|exact sq|fail
 refine z00 (v:=.iface 401 (I 2)) (by exact gd) rfl ?_
 refine z00 (v:=.bool true) (by exact gd) (by kernel_rfl) ?_
 repeat' first|with_reducible intro _|refine sv ?_|((with_reducible first|apply zt|apply zz|apply zn);exact gd;exact rfl;exact rfl;(first|exact cs))|refine ss ?_ ?_<;>(intro h;first|exact sz h|refine sy h ?_)|exact sq|fail
 rename_i w M1 hq
 obtain⟨⟨p,rfl⟩,hg⟩:=hq
 refine z00 (v:=.iface 404 (.ptr (some (p,0)))) (by exact gd) rfl ?_
 repeat' first|with_reducible intro _|refine sv ?_|refine ss ?_ ?_<;>(intro h;first|exact sz h|refine sy h ?_)|exact sq|fail
 refine kf ?_
 exact hg
theorem zqa{l:List UInt8}(hl:2<=l.length /\ l.length<=18){M:Mem}(hE:ES M):ze Tryz.prog 123 [.str (strL l)] M (fun w M'=>∃ e,w=.tup [I (atI l),e] /\ Grow M M'):=by
 refine zf k123 rfl ?_
 delta x123;refine un ?_
 have ca:=znx l hl
 repeat' first|with_reducible intro _|refine sv ?_|((with_reducible first|apply zt|apply zz|apply zn);exact gd;exact rfl;exact rfl;(first|exact ca M))|refine ss ?_ ?_<;>(intro h;first|exact sz h|refine sy h ?_)|exact sq|fail
 rename_i w M1 hq
 obtain⟨h1|⟨h1,h0⟩,hg⟩:=hq
 ·subst h1
  repeat' first|with_reducible intro _|refine sv ?_|refine ss ?_ ?_<;>(intro h;first|exact sz h|refine sy h ?_)|exact sq|fail
  refine z00 (v:=.bool false) (by exact gd) rfl ?_
  repeat' first|with_reducible intro _|refine sv ?_|refine ss ?_ ?_<;>(intro h;first|exact sz h|refine sy h ?_)|exact sq|fail
  refine kf ?_
  exact⟨_,rfl,hg⟩
 ·subst h1
  repeat' first|with_reducible intro _|refine sv ?_|refine ss ?_ ?_<;>(intro h;first|exact sz h|refine sy h ?_)|exact sq|fail
  refine z00 (v:=.bool true) (by exact gd) rfl ?_
  repeat' first|with_reducible intro _|refine sv ?_|refine ss ?_ ?_<;>(intro h;first|exact sz h|refine sy h ?_)|exact sq|fail
  have ct:=zoe (s:=[65,116,111,105]) (l:=l) ⟨by omega,by omega⟩ (hE.grow hg)
  refine zt (by exact gd) rfl rfl (show AppOk Tryz.prog _ _ M1 _ from ct) ?_
  intro w M2 hg2
  repeat' first|with_reducible intro _|refine sv ?_|refine ss ?_ ?_<;>(intro h;first|exact sz h|refine sy h ?_)|exact sq|fail
  refine kf ?_
  exact⟨w,by rw[h0];rfl,hg.trans hg2⟩
theorem zf9(x:List UInt8)(a b:Nat)(h:b<=x.length):(sub8 x a b).length=b - a:=by
 unfold sub8
 rw[List.length_take,List.length_drop];omega
theorem zoa{x:List UInt8}(hx:x.length=29)(a b:Nat)(hab:a+2<=b /\ b<=a+18 /\ b<=29){M:Mem}(hE:ES M){p:Nat}(hr:Rd1 M p 0 (.str (strL x))):ze Tryz.prog 122 [I a,I b,.ptr (some (p,0))] M (fun w M'=>w=I (atI (sub8 x a b)) /\ Grow M M'):=by
 refine zf k122 rfl ?_
 delta x122;refine un ?_
 have ca:=zqa (l:=sub8 x a b) (by rw[zf9 x a b (by omega)];omega) hE
 (have hrd0:=hr;repeat' (first|(with_reducible intro _)|refine sv ?_|refine ss ?_ ?_<;>(intro h;first|exact sz h|refine sy h ?_)|exact sq|fail))
 refine z00 (by exact gd) (zbd (f:=a) (p:=b) rfl rfl rfl (by omega) (by rw[z01];omega)) ?_
 rw[zl0]
 repeat' first|with_reducible intro _|refine sv ?_|((with_reducible first|apply zt|apply zz|apply zn);exact gd;exact rfl;exact rfl;(first|exact ca))|refine ss ?_ ?_<;>(intro h;first|exact sz h|refine sy h ?_)|exact sq|fail
 rename_i w M1 hq
 obtain⟨e,rfl,hg⟩:=hq
 repeat' first|with_reducible intro _|refine sv ?_|refine ss ?_ ?_<;>(intro h;first|exact sz h|refine sy h ?_)|exact sq|fail
 refine kf ?_
 exact⟨rfl,hg⟩
theorem zqw{x:List UInt8}(hx:x.length=29){M:Mem}(hE:ES M):ze Tryz.prog 52 [.str (strL x)] M (fun w M'=>w=.agg (mkc (mkP x)) /\ Grow M M'):=by
 refine zf k52 rfl ?_
 delta x52;refine un ?_
 repeat' first|with_reducible intro _|refine sv ?_|refine ss ?_ ?_<;>(intro h;first|exact sz h|refine sy h ?_)|exact sq|fail
 rename_i n1 M1 y1 y2 y3 n2 M2 y4 y5 y6
 have a2:At M2 n1 (.cells true [.str (strL x)] 9):=(At.new_same y1).grow y4.grow
 have b2:=At.new_same y4
 have g2:Grow M M2:=y1.grow.trans y4.grow
 have hn12:n2 ≠ n1:=by omega
 have hn1:M.next<=n1:=by omega
 have hn2:M.next<=n2:=by omega
 have hl2:=g2.le
 clear y1 y2 y3 y4 y5 y6
 have cm:=fun a b hab M' (hg:Grow M2 M')=>zoa (x:=x) hx a b hab (hE.grow (g2.trans hg)) (Rd1.of_at (a2.grow hg) rfl)
 refine zt (by exact gd) rfl rfl (show AppOk Tryz.prog _ _ M2 _ from cm 0 5 (by omega) _ (Grow.refl _)) ?_
 rintro w M3 ⟨rfl,h3⟩
 repeat' first|with_reducible intro _|refine sv ?_|refine ss ?_ ?_<;>(intro h;first|exact sz h|refine sy h ?_)|exact sq|fail
 refine zt (by exact gd) rfl rfl (show AppOk Tryz.prog _ _ M3 _ from cm 6 12 (by omega) _ h3) ?_
 rintro w M4 ⟨rfl,h4⟩
 repeat' first|with_reducible intro _|refine sv ?_|refine ss ?_ ?_<;>(intro h;first|exact sz h|refine sy h ?_)|exact sq|fail
 refine zt (by exact gd) rfl rfl (show AppOk Tryz.prog _ _ M4 _ from cm 13 19 (by omega) _ (h3.trans h4)) ?_
 rintro w M5 ⟨rfl,h5⟩
 repeat' first|with_reducible intro _|refine sv ?_|refine ss ?_ ?_<;>(intro h;first|exact sz h|refine sy h ?_)|exact sq|fail
 refine zt (by exact gd) rfl rfl (show AppOk Tryz.prog _ _ M5 _ from cm 20 25 (by omega) _ ((h3.trans h4).trans h5)) ?_
 rintro w M6 ⟨rfl,h6⟩
 have b6:=b2.grow (((h3.trans h4).trans h5).trans h6)
 have g6:=g2.trans (((h3.trans h4).trans h5).trans h6)
 clear cm h3 h4 h5 h6
 repeat' first|with_reducible intro _|refine sv ?_|refine ss ?_ ?_<;>(intro h;first|exact sz h|refine sy h ?_)|exact sq|fail
 refine kf ?_
 rename_i M7 u _ _
 exact⟨rfl,g6.upd u hn2⟩
theorem zm1(l:List UInt8):(strL l == strL l)=true:=z9h _
theorem zpd{l l':List UInt8}(h:(strL l == strL l')=true):l=l':=by
 have h2:strL l=strL l':=zbl h
 unfold strL at h2
 injection h2 with h2
 injection h2 with h2
theorem zri(l:List Mk):∀ x ∈ l,(mkc x).length=4:=fun _ _=>rfl
theorem zn2(s:List UInt8)(k:Nat):sub8 s (29*k) (29*k+29)=ck s k:=by
 unfold sub8 ck
 rw[Nat.add_sub_cancel_left]
theorem zr3{s:List UInt8}{k:Nat}(h:29*k+29<=s.length):(ck s k).length=29:=by rw[<-zn2,zf9 _ _ _ h];omega
theorem zl8{M M':Mem}{n:Nat}{ty:TypeId}{m:Mk}(h:New M n (.cells true (mkc m) ty) M'):z0l 4 1 (.slice (some (n,0)) 1 true 4) M'=some ([m].flatMap mkc):=by
 have ha:=At.new_same h
 show loadN M' n 0 (1*4)=_
 exact(Rd.of_at (l:=mkc m) ha rfl).1
set_option maxHeartbeats 8000000 in
theorem z6r(s:List UInt8)(hs:s.length<=1000000000000000){M:Mem}(hE:ES M)(hP:P10 M)(hD:D64 M):ze Tryz.prog 13 [.str (strL s)] M (fun w M'=>(∃ a f e,w=.tup [.slice a (pmF mkP s).1.length f e,I (pmF mkP s).2] /\ SlM M' a (pmF mkP s).1) /\ Grow M M'):=by
 refine zf k13 rfl ?_
 delta x13;refine un ?_
 have hsz:=z01 s
 by_cases h1:s.length > 65536
 ·have e:pmF mkP s=([],3):=by unfold pmF;rw[if_pos h1]
  rw[e]
  repeat' first|with_reducible intro _|refine sv ?_|refine ss ?_ ?_<;>(intro h;first|exact sz h|refine sy h ?_)|exact sq|fail
  all_goals try(exfalso;omega)
  refine kf ?_
  exact⟨⟨_,_,_,rfl,.inl rfl⟩,Grow.refl _⟩
 have e:pmF mkP s=if mksB (prs mkP s (s.length / 29))=true /\ mxL (prs mkP s (s.length / 29))=s then(prs mkP s (s.length / 29),0) else([],5):=by unfold pmF;rw[if_neg h1]
 rw[e]
 clear e
 repeat' first|with_reducible intro _|refine sv ?_|refine ss ?_ ?_<;>(intro h;first|exact sz h|refine sy h ?_)|exact sq|fail
 all_goals try(exfalso;omega)
 have hv0:Vec M.next 4 51 mkc M (.slice none 0 true 0) (prs mkP s 0):=Vec.nil
 generalize hb0:M.next=b0 at *
 refine zi (fun m E ms M'=>∃(k:Nat) (v:LV),m=s.length / 29 - k /\ k<=s.length / 29 /\ ms=[] /\ Has E [(0,.str (strL s)),(4,v),(5,I (29*k:Nat))] /\ Grow M M' /\ Vec b0 4 51 mkc M' v (prs mkP s k))
  ?_ (s.length / 29) _ _ _ ⟨0,_,by omega,by omega,rfl,.cons rfl (.cons rfl (.cons rfl .nil)),Grow.refl _,hv0⟩
 rintro m E ms M1 ⟨k,v,rfl,hk,rfl,hE1,hg1,hv1⟩
 refine z02 hE1 ?_
 by_cases hlast:k=s.length / 29
 case neg =>
  have hlt:29*k+29<=s.length:=by omega
  have cm:=zqw (x:=ck s k) (zr3 hlt) (hE.grow hg1)
  repeat' first|with_reducible intro _|refine sv ?_|refine ss ?_ ?_<;>(intro h;first|exact sz h|refine sy h ?_)|exact sq|fail
  all_goals try(exfalso;omega)
  refine z00 (by exact gd) (zbd (f:=29*k) (p:=29*k+29) rfl rfl rfl (by omega) (by omega)) ?_
  rw[zl0,zn2]
  repeat' first|with_reducible intro _|refine sv ?_|((with_reducible first|apply zp|apply zo|apply zj);exact gd;exact rfl;exact rfl;(first|exact cm))|refine ss ?_ ?_<;>(intro h;first|exact sz h|refine sy h ?_)|exact sq|fail
  rename_i M2 hg2 hl2 n3 M3 z1 z2 z3
  have hv3:=(hv1.grow hg2).grow z1.grow
  have hpl:=zdx mkP s k
  have hl1:=hg1.le
  refine z4b (by exact gd) (l':=[mkP (ck s k)]) hv3 rfl rfl rfl (by simp) (by rw[List.length_singleton,hpl];omega) rfl (zl8 z1) (fun _=>rfl) (fun _=>rfl) (by omega) ?_
  intro v4 M4 hv4 hn4 hk4
  rw[<-ztx] at hv4
  repeat' first|with_reducible intro _|refine sv ?_|refine ss ?_ ?_<;>(intro h;first|exact sz h|refine sy h ?_)|exact sq|fail
  exact zq (s.length / 29 - (k+1)) (by omega) ⟨k+1,v4,rfl,by omega,rfl,.cons rfl (.cons rfl (.cons (by rw[Nat.mul_succ];rfl) .nil)),Keep.to_grow' ((hg1.trans hg2).trans z1.grow) hk4 (fun i hi=>by have:=hi.1;omega),hv4⟩
 rw[<-hlast]
 have hpl:=zdx mkP s k
 obtain⟨a,f,e,rfl,hr⟩:=hv1.rd (zri _)
 have hsl:SlM M1 a (prs mkP s k):=hr
 generalize prs mkP s k=l at *
 clear hv1 hr
 have cc:=fun M' (hg:Grow M1 M')=>z3v (f:=f) (e:=e) (hsl.grow hg) (by omega)
 unfold errMk at cc
 cases hm:mksB l with
 | false =>
  simp only[hm,if_true,if_false,Bool.false_eq_true,false_and] at cc ⊢
  repeat' first|with_reducible intro _|refine sv ?_|((with_reducible first|apply zp|apply zo|apply zj);exact gd;exact rfl;exact rfl;(first|exact cc _ (xg)))|refine ss ?_ ?_<;>(intro h;first|exact sz h|refine sy h ?_)|exact sq|fail
  all_goals try(exfalso;omega)
  refine kf ?_
  exact⟨⟨_,_,_,rfl,.inl rfl⟩,xg⟩
 | true =>
  simp only[hm,if_true,if_false,Bool.false_eq_true,true_and] at cc ⊢
  have ct:=fun M' (hg:Grow M1 M')=>zn1 (f:=f) (e:=e) (hsl.grow hg) hm (hP.grow (hg1.trans hg)) (hD.grow (hg1.trans hg))
  repeat' first|with_reducible intro _|refine sv ?_|((with_reducible first|apply zp|apply zo|apply zj);exact gd;exact rfl;exact rfl;(first|exact cc _ (xg)|exact ct _ (xg)))|refine ss ?_ ?_<;>(intro h;first|exact sz h|refine sy h ?_)|exact sq|fail
  all_goals try(exfalso;omega)
  ·rename_i h
   have hne:mxL l ≠ s:=fun h2=>by rw[h2,zm1] at h;cases h
   rw[if_neg hne]
   refine kf ?_
   exact⟨⟨_,_,_,rfl,.inl rfl⟩,xg⟩
  ·rename_i h
   have heq:mxL l=s:=zpd h
   rw[if_pos heq]
   have hse:=hsl
   refine kf ?_
   exact⟨⟨_,_,_,rfl,hsl.grow (xg)⟩,xg⟩
