/-
 Part of the proof of TopMarked. No condition beyond those in each theorem.
-/
import Derived.Test.YtpgalhbplcanhaaGreatDoorSF
import Derived.Test.YtpgalhbplcanhaaGreatDoorSB
import Derived.Test.YtpgalhbplcanhaaGreatDoorTW
import Derived.Test.YtpgalhbplcanhaaGreatDoorPvH
import Derived.Stop.LaidErr
section
open Go PvL Go.Proofs
set_option linter.unusedSimpArgs false
set_option linter.unusedVariables false
namespace Go.Proofs.YtpgalhbplcanhaaGreatDoor.C
theorem zpc{i o len n h:Nat}{f:Bool}(hh:h<=len):∃ o' f',(0 < len->o'=o) /\ sliceSl n (some (i,o)) len f n none (some (.int .i64 (h:Int))) none=some (.slice (some (i,o')) h f' n):=by
 have e1:sliceSl n (some (i,o)) len f n none (some (.int .i64 (h:Int))) none=guard' (Nat.ble h len) (guard' (Nat.beq n n) (ifb (false ||(f ||(Nat.ble (0+1) len || true))) (fN (ifb (Nat.beq len 0 && (f || false)) o (o+0*n)) fun off'=>fN (h - 0) fun len'=>some (LV.slice (some (i,off')) len' (ifb false (Nat.beq h len) (f && Nat.beq h len)) n)) (some (LV.slice (some (i,o)) 0 false 0)))):=by
  show guard' true (guard' (Nat.ble h len) (guard' (Nat.ble 0 h) _))=_
  rw[zd,Nat.ble_eq_true_of_le (Nat.zero_le h),zd]
  rfl
 rw[e1,z1m,z1m,Nat.ble_eq_true_of_le hh,zd,show Nat.beq n n=true by simp,zd]
 rw[show(false ||(f ||(Nat.ble (0+1) len || true)))=true by simp,z07]
 refine⟨_,_,fun h0=>?_,rfl⟩
 have h1:Nat.beq len 0=false:=by cases hb:Nat.beq len 0 with|false=>rfl|true=>have:=Nat.eq_of_beq_eq_true hb;omega
 rw[h1,Bool.false_and,zh,Nat.zero_mul,Nat.add_zero]
theorem zq1{n:Nat}{a:Option (Nat × Nat)}{len h:Nat}{f:Bool}{v:LV}{E:Env}{M:Mem}{x hi:XO}(hs:sliceSl n a len f n none (some (.int .i64 (h:Int))) none=some v)(hx:xval E x=some (.slice a len f n))(hh:xval E hi=some (I (h:Int))):zm Tryz.prog (.slc n x none (some hi) none) E M=some (.val v M):=by
 show ob (xval E x) _=_
 rw[hx,za]
 show ob (ob (xval E hi) _) _=_
 rw[hh,za]
 show ob (sliceSl n a len f n none (some (.int .i64 (h:Int))) none) (rv M)=_
 rw[hs];rfl
def rstM(n m:Int):Int:=if Int.tmod n m < 0 then Int.tmod n m+m else Int.tmod n m
theorem zlx{M:Mem}{a:Option (Nat × Nat)}{L:List Mk}{f:Bool}{h:Nat}(hp:SlM M a L)(hh:h<=L.length):∃ a' f' e',sliceSl 4 a L.length f 4 none (some (.int .i64 (h:Int))) none=some (.slice a' h f' e') /\ SlM M a' (L.take h):=by
 have hl:(L.take h).length=h:=by rw[List.length_take];omega
 rcases a with _|⟨i,o⟩
 ·rcases hp with rfl|⟨i,o,h1,_⟩
  ·obtain rfl:h=0:=by simpa using hh
   exact⟨_,_,_,rfl,.inl rfl⟩
  ·cases h1
 ·obtain⟨o',f',h1,h2⟩:=zpc (i:=i) (o:=o) (n:=4) (f:=f) hh
  refine⟨_,_,_,h2,?_⟩
  rcases hp with rfl|⟨i',o2,h3,h4⟩
  ·exact .inl (by simp)
  ·obtain⟨rfl,rfl⟩:i=i' /\ o=o2:=by injection h3 with q;injection q with q1 q2;exact⟨q1,q2⟩
   refine .inr ⟨i,o',rfl,fun k hk=>?_⟩
   rw[hl] at hk
   rw[h1 (by omega),List.getElem_take]
   exact h4 k (by omega)
def wr(x r:Int):Int:=IntKind.wrap .i64 (IntKind.wrap .i64 (x+r) - 1000)
def plc(m:Mk):Pt:=(m.2.1,m.2.2.1)
def farF(n:Int):Int:=if n=4 then 5 else if n=3 then 4 else n
def rtF(k:Int):Int:=if 16<=k then 4 else if 9<=k then 3 else if 4<=k then 2 else if 1<=k then 1 else 0
theorem five{n:Int}(h:0<=n /\ n<=4):n=0 ∨ n=1 ∨ n=2 ∨ n=3 ∨ n=4:=by omega
theorem zfr(n:Int)(hn:0<=n /\ n<=4)(M:Mem):ze Tryz.prog 94 [I n] M (fun w M'=>w=I (farF n) /\ M'=M):=by
 rcases five hn with rfl|rfl|rfl|rfl|rfl
 ·exact z1n (n:=60) (by kernel_rfl)
 ·exact z1n (n:=60) (by kernel_rfl)
 ·exact z1n (n:=60) (by kernel_rfl)
 ·exact z1n (n:=60) (by kernel_rfl)
 ·exact z1n (n:=60) (by kernel_rfl)
theorem zo3(n:Nat)(hn:n<=16)(M:Mem):ze Tryz.prog 97 [I n] M (fun w M'=>w=.tup [I (rtF n),I 0] /\ M'=M):=by
 match n,hn with
 | 0,_ | 1,_ | 2,_ | 3,_ | 4,_ | 5,_ | 6,_ | 7,_ | 8,_ | 9,_ | 10,_ | 11,_ | 12,_ | 13,_ | 14,_ | 15,_ | 16,_=>exact z1n (n:=60) (by kernel_rfl)
 | n+17,h=>exact absurd h (by omega)
def clipB(l a b:Int):Bd:=(iMax (-l) (iMin a l),iMax (-l) (iMin b l))
def reachB(p:Pt)(n:Int):Rg:=(clipB 32768 (p.1 - n) (p.1+n),clipB 32768 (p.2 - n) (p.2+n),clipB 65536 (p.1+p.2 - farF n) (p.1+p.2+farF n),clipB 65536 (p.1 - p.2 - farF n) (p.1 - p.2+farF n))
theorem zew:∀ n ∈ [(0:Int),1,2,3,4],∀ x ∈ [(-4:Int),-3,-2,-1,0,1,2,3,4],(-n<=x /\ x<=n)->0<=n*n - x*x /\ n*n - x*x<=16 /\ 0<=rtF (n*n - x*x) /\ rtF (n*n - x*x)<=n /\ x+rtF (n*n - x*x)<=farF n /\ -x+rtF (n*n - x*x)<=farF n:=by decide
theorem zij{p:Pt}{n x y:Int}(hp:PlP p)(hn:0<=n /\ n<=4)(hx:-n<=x /\ x<=n)(hy:-rtF (n*n - x*x)<=y /\ y<=rtF (n*n - x*x))(hq:PlP (p.1+x,p.2+y)):inR (reachB p n) (p.1+x,p.2+y):=by
 have h:=zew n (by rcases five hn with rfl|rfl|rfl|rfl|rfl<;>decide) x (by
  have:x=-4 ∨ x=-3 ∨ x=-2 ∨ x=-1 ∨ x=0 ∨ x=1 ∨ x=2 ∨ x=3 ∨ x=4:=by omega
  rcases this with rfl|rfl|rfl|rfl|rfl|rfl|rfl|rfl|rfl<;>decide) hx
 obtain⟨-,-,h1,h2,h3,h4⟩:=h
 generalize rtF (n*n - x*x)=rr at *
 have hp':Pl p.1 p.2:=hp
 have hq':Pl (p.1+x) (p.2+y):=hq
 unfold inR reachB clipB iMax iMin
 unfold Pl at hp' hq'
 dsimp only
 generalize farF n=ff at *
 refine⟨⟨?_,?_⟩,⟨?_,?_⟩,⟨?_,?_⟩,⟨?_,?_⟩⟩<;>omega
theorem zfa{r:Rg}{q:Pt}(h:inR r q):(tightO r).isSome=true /\ q ∈ plsL ((tightO r).getD zRg):=by
 obtain⟨lo,hi,h1,h2,h3,h4⟩:=zdg h
 obtain⟨r',h5,h6,-⟩:=zdf (l:=endsL r) (fun e=>by rw[e] at h1;exact absurd h1 List.not_mem_nil)
 have h7:tightO r=some r':=h5
 rw[h7]
 have g1:=h6 _ h1
 have g2:=h6 _ h2
 refine⟨rfl,zj0.2 ?_⟩
 unfold inR at g1 g2
 unfold rowOf iMax iMin
 dsimp only[Option.getD] at *
 omega
theorem zfb{p:Pt}:tightO (ofP p)=some (ofP p):=by
 have:hullO none [p]=some (ofP p):=by
  show some (map4 spanB (ofP p) (ofP p))=_
  unfold map4 spanB ofP iMin iMax
  simp
 exact zgu (by simp) this
theorem zlq{p:Pt}{n:Int}:Sm 500000 (reachB p n):=by
 unfold Sm reachB clipB iMax iMin
 dsimp only
 omega
abbrev rchC(x y n:Int):Nat->List LV
 | 0=>[I x,I x,I y,I y,I (x+y),I (x+y),I (x - y),I (x - y)]
 | 1=>[I (iMax (-32768) (iMin (x - n) 32768)),I (iMax (-32768) (iMin (x+n) 32768)),I y,I y,I (x+y),I (x+y),I (x - y),I (x - y)]
 | 2=>[I (iMax (-32768) (iMin (x - n) 32768)),I (iMax (-32768) (iMin (x+n) 32768)),I (iMax (-32768) (iMin (y - n) 32768)),I (iMax (-32768) (iMin (y+n) 32768)),I (x+y),I (x+y),I (x - y),I (x - y)]
 | 3=>[I (iMax (-32768) (iMin (x - n) 32768)),I (iMax (-32768) (iMin (x+n) 32768)),I (iMax (-32768) (iMin (y - n) 32768)),I (iMax (-32768) (iMin (y+n) 32768)),I (iMax (-65536) (iMin ((x+y) - farF n) 65536)),I (iMax (-65536) (iMin ((x+y)+farF n) 65536)),I (x - y),I (x - y)]
 | _=>[I (iMax (-32768) (iMin (x - n) 32768)),I (iMax (-32768) (iMin (x+n) 32768)),I (iMax (-32768) (iMin (y - n) 32768)),I (iMax (-32768) (iMin (y+n) 32768)),I (iMax (-65536) (iMin ((x+y) - farF n) 65536)),I (iMax (-65536) (iMin ((x+y)+farF n) 65536)),I (iMax (-65536) (iMin ((x - y) - farF n) 65536)),I (iMax (-65536) (iMin ((x - y)+farF n) 65536))]
set_option maxHeartbeats 8000000 in
theorem zke{x y n:Int}(hp:PlP (x,y))(hn:0<=n /\ n<=4)(M:Mem):ze Tryz.prog 33 [.agg [I x,I x,I y,I y,I (x+y),I (x+y),I (x - y),I (x - y)],I n] M (fun w M'=>w=resv (if eTi (reachB (x,y) n)=0 then((tightO (reachB (x,y) n)).getD zRg,0) else(zRg,eTi (reachB (x,y) n))) /\ Grow M M'):=by
 have hp':Pl x y:=hp
 unfold Pl at hp'
 have e1:eRg (ofP (x,y))=0:=by
  unfold eRg
  rw[if_pos (by unfold RgOk fitsP ofP;dsimp only;omega)]
 have hsm:Sm 500000 (ofP (x,y)):=by unfold Sm ofP;dsimp only;omega
 have cc:=fun M'=>zd0 (ofP (x,y)) M'
 rw[e1] at cc
 have cc:∀ M',ze Tryz.prog 90 [.agg [I x,I x,I y,I y,I (x+y),I (x+y),I (x - y),I (x - y)]] M' (fun w M''=>w=I 0 /\ Grow M' M''):=cc
 have cb:∀ M',ze Tryz.prog 92 [.agg [I x,I x,I y,I y,I (x+y),I (x+y),I (x - y),I (x - y)]] M' (fun w M''=>w=.agg [I x,I x,I y,I y,I (x+y),I (x+y),I (x - y),I (x - y)] /\ Grow M' M''):=fun M'=>zag (ofP (x,y)) M'
 have ct:=fun M'=>zhe (ofP (x,y)) hsm M'
 have et:eTi (ofP (x,y))=0:=by unfold eTi;rw[zfb];rfl
 rw[et,zfb] at ct
 have ct:∀ M',ze Tryz.prog 93 [.agg [I x,I x,I y,I y,I (x+y),I (x+y),I (x - y),I (x - y)]] M' (fun w M''=>w=.tup [.agg [I x,I x,I y,I y,I (x+y),I (x+y),I (x - y),I (x - y)],I 0] /\ Grow M' M''):=ct
 have cf:=fun M'=>zfr n hn M'
 have hf:0<=farF n /\ farF n<=5:=by unfold farF;split<;>(try split)<;>omega
 have ci:=fun(l m:Int) (h:0<=l /\ l<=1000000) M'=>zh9 l m h M'
 have cw:=fun M'=>zhd n 0 32768 M'
 have ct2:∀ M',ze Tryz.prog 93 [.agg [I (iMax (-32768) (iMin (x - n) 32768)),I (iMax (-32768) (iMin (x+n) 32768)),I (iMax (-32768) (iMin (y - n) 32768)),I (iMax (-32768) (iMin (y+n) 32768)),I (iMax (-65536) (iMin ((x+y) - farF n) 65536)),I (iMax (-65536) (iMin ((x+y)+farF n) 65536)),I (iMax (-65536) (iMin ((x - y) - farF n) 65536)),I (iMax (-65536) (iMin ((x - y)+farF n) 65536))]] M' (fun w M''=>w=.tup [rgv ((tightO (reachB (x,y) n)).getD zRg),I (eTi (reachB (x,y) n))] /\ Grow M' M''):=fun M'=>zhe (reachB (x,y) n) zlq M'
 have cd:=fun M'=>zqm ((tightO (reachB (x,y) n)).getD zRg) (eTi (reachB (x,y) n)) M'
 generalize reachB (x,y) n=rb at *
 generalize (tightO rb).getD zRg=tb at *
 generalize eTi rb=eb at *
 clear e1 hsm et
 refine zf k33 rfl ?_
 delta x33;refine un ?_
 repeat' first|with_reducible intro _|refine sv ?_|((with_reducible first|apply z0c|apply z0a|apply zx);exact gd;exact rfl;exact rfl;(first|exact cw _|exact cf _))|((with_reducible first|apply zp|apply zo|apply zj);exact gd;exact rfl;exact rfl;(first|exact cc _|exact cb _|exact ct _))|refine ss ?_ ?_<;>(intro h;first|exact sz h|refine sy h ?_)|exact sq|fail
 all_goals try(exfalso;omega)
 rename_i n2 M1 u1 u2 u3 n4 M2 u4 u5 u6 M3 u7 u8 hzA hzB M4 u9 u10 M4b u11 u12 n7 M4c u13 u14 u15 M4d u16 u17 u18 n10 M4e u20 u21 u22 n11 M4f u23 u24 u25 M4g u26 u27 u28 M4h u29 u30 u31
 have A2:At M4h n2 (.cells true (LV.agg [I x,I x,I y,I y,I (x+y),I (x+y),I (x - y),I (x - y)]).cells 28):=xm
 have A4:At M4h n4 (.cells true [I 0,I 0,I 0,I 0,I 0,I 0,I 0,I 0] 28):=xm
 have A7:At M4h n7 (.cells true (rchC x y n 0) 208):=xm
 have A10:At M4h n10 (.cells true [I 32768,I 32768,I 65536,I 65536] 219):=xm
 have A11:At M4h n11 (.cells true [I n,I n,I (farF n),I (farF n)] 220):=u31
 have g4h:Grow M M4h:=xg
 clear u1 u4 u7 u9 u11 u13 u16 u20 u23 u26 u29
 have q4:=A4.2
 have q7:=A7.2
 have q10:=A10.2
 have q11:=A11.2
 refine zi (fun z E ms M'=>∃ k:Nat,z=4 - k /\ k<=4 /\ ms=[] /\ Has E [(4,.ptr (some (n4,0))),(7,.ptr (some (n7,0))),(10,.ptr (some (n10,0))),(11,.ptr (some (n11,0))),(42,.agg [I x,I x,I y,I y,I (x+y),I (x+y),I (x - y),I (x - y)]),(43,I k)] /\ Grow M M' /\ M4h.next<=M'.next /\ At M' n4 (.cells true [I 0,I 0,I 0,I 0,I 0,I 0,I 0,I 0] 28) /\ At M' n7 (.cells true (rchC x y n k) 208) /\ At M' n10 (.cells true [I 32768,I 32768,I 65536,I 65536] 219) /\ At M' n11 (.cells true [I n,I n,I (farF n),I (farF n)] 220))
  ?_ 4 _ _ _ ⟨0,rfl,by omega,rfl,.cons rfl (.cons rfl (.cons rfl (.cons rfl (.cons rfl (.cons rfl .nil))))),g4h,Nat.le_refl _,A4,A7,A10,A11⟩
 clear A2 A4 A7 A10 A11 u31 u28 u18
 rintro z E ms M5 ⟨k,rfl,hk,rfl,hE,g5,l5,A4,A7,A10,A11⟩
 match k,hk,hE,A7 with
 | 0,hk,hE,A7 =>
  have hE:Has E [(4,.ptr (some (n4,0))),(7,.ptr (some (n7,0))),(10,.ptr (some (n10,0))),(11,.ptr (some (n11,0))),(42,.agg [I x,I x,I y,I y,I (x+y),I (x+y),I (x - y),I (x - y)]),(43,I 0)]:=hE
  have A7:At M5 n7 (.cells true [I x,I x,I y,I y,I (x+y),I (x+y),I (x - y),I (x - y)] 208):=A7
  refine z02 hE ?_
  repeat' first|with_reducible intro _|refine sv ?_|((with_reducible first|apply z0c|apply z0a|apply zx);exact gd;exact rfl;exact rfl;(first|exact ci 32768 (x - n) (by omega) _|exact ci 32768 (x+n) (by omega) _))|refine ss ?_ ?_<;>(intro h;first|exact sz h|refine sy h ?_)|exact sq|fail
  all_goals try(exfalso;omega)
  refine zq 3 (by omega) ⟨1,rfl,by omega,rfl,.cons rfl (.cons rfl (.cons rfl (.cons rfl (.cons rfl (.cons rfl .nil))))),xg,by omega,xm,xm,xm,xm⟩
 | 1,hk,hE,A7 =>
  have hE:Has E [(4,.ptr (some (n4,0))),(7,.ptr (some (n7,0))),(10,.ptr (some (n10,0))),(11,.ptr (some (n11,0))),(42,.agg [I x,I x,I y,I y,I (x+y),I (x+y),I (x - y),I (x - y)]),(43,I 1)]:=hE
  have A7:At M5 n7 (.cells true [I (iMax (-32768) (iMin (x - n) 32768)),I (iMax (-32768) (iMin (x+n) 32768)),I y,I y,I (x+y),I (x+y),I (x - y),I (x - y)] 208):=A7
  refine z02 hE ?_
  repeat' first|with_reducible intro _|refine sv ?_|((with_reducible first|apply z0c|apply z0a|apply zx);exact gd;exact rfl;exact rfl;(first|exact ci 32768 (y - n) (by omega) _|exact ci 32768 (y+n) (by omega) _))|refine ss ?_ ?_<;>(intro h;first|exact sz h|refine sy h ?_)|exact sq|fail
  all_goals try(exfalso;omega)
  refine zq 2 (by omega) ⟨2,rfl,by omega,rfl,.cons rfl (.cons rfl (.cons rfl (.cons rfl (.cons rfl (.cons rfl .nil))))),xg,by omega,xm,xm,xm,xm⟩
 | 2,hk,hE,A7 =>
  have hE:Has E [(4,.ptr (some (n4,0))),(7,.ptr (some (n7,0))),(10,.ptr (some (n10,0))),(11,.ptr (some (n11,0))),(42,.agg [I x,I x,I y,I y,I (x+y),I (x+y),I (x - y),I (x - y)]),(43,I 2)]:=hE
  have A7:At M5 n7 (.cells true [I (iMax (-32768) (iMin (x - n) 32768)),I (iMax (-32768) (iMin (x+n) 32768)),I (iMax (-32768) (iMin (y - n) 32768)),I (iMax (-32768) (iMin (y+n) 32768)),I (x+y),I (x+y),I (x - y),I (x - y)] 208):=A7
  refine z02 hE ?_
  repeat' first|with_reducible intro _|refine sv ?_|((with_reducible first|apply z0c|apply z0a|apply zx);exact gd;exact rfl;exact rfl;(first|exact ci 65536 ((x+y) - farF n) (by omega) _|exact ci 65536 ((x+y)+farF n) (by omega) _))|refine ss ?_ ?_<;>(intro h;first|exact sz h|refine sy h ?_)|exact sq|fail
  all_goals try(exfalso;omega)
  refine zq 1 (by omega) ⟨3,rfl,by omega,rfl,.cons rfl (.cons rfl (.cons rfl (.cons rfl (.cons rfl (.cons rfl .nil))))),xg,by omega,xm,xm,xm,xm⟩
 | 3,hk,hE,A7 =>
  have hE:Has E [(4,.ptr (some (n4,0))),(7,.ptr (some (n7,0))),(10,.ptr (some (n10,0))),(11,.ptr (some (n11,0))),(42,.agg [I x,I x,I y,I y,I (x+y),I (x+y),I (x - y),I (x - y)]),(43,I 3)]:=hE
  have A7:At M5 n7 (.cells true [I (iMax (-32768) (iMin (x - n) 32768)),I (iMax (-32768) (iMin (x+n) 32768)),I (iMax (-32768) (iMin (y - n) 32768)),I (iMax (-32768) (iMin (y+n) 32768)),I (iMax (-65536) (iMin ((x+y) - farF n) 65536)),I (iMax (-65536) (iMin ((x+y)+farF n) 65536)),I (x - y),I (x - y)] 208):=A7
  refine z02 hE ?_
  repeat' first|with_reducible intro _|refine sv ?_|((with_reducible first|apply z0c|apply z0a|apply zx);exact gd;exact rfl;exact rfl;(first|exact ci 65536 ((x - y) - farF n) (by omega) _|exact ci 65536 ((x - y)+farF n) (by omega) _))|refine ss ?_ ?_<;>(intro h;first|exact sz h|refine sy h ?_)|exact sq|fail
  all_goals try(exfalso;omega)
  refine zq 0 (by omega) ⟨4,rfl,by omega,rfl,.cons rfl (.cons rfl (.cons rfl (.cons rfl (.cons rfl (.cons rfl .nil))))),xg,by omega,xm,xm,xm,xm⟩
 | 4,hk,hE,A7 =>
  have hE:Has E [(4,.ptr (some (n4,0))),(7,.ptr (some (n7,0))),(10,.ptr (some (n10,0))),(11,.ptr (some (n11,0))),(42,.agg [I x,I x,I y,I y,I (x+y),I (x+y),I (x - y),I (x - y)]),(43,I 4)]:=hE
  refine z02 hE ?_
  repeat' first|with_reducible intro _|refine sv ?_|((with_reducible first|apply zp|apply zo|apply zj);exact gd;exact rfl;exact rfl;(first|exact ct2 _|exact cd _))|refine ss ?_ ?_<;>(intro h;first|exact sz h|refine sy h ?_)|exact sq|fail
  all_goals try(exfalso;omega)
  refine kf ?_
  exact⟨rfl,xg⟩
 | k+5,hk,_,_=>exact absurd hk (by omega)
theorem zo2{p:Pt}{n:Int}(hp:PlP p)(hn:0<=n /\ n<=4)(M:Mem):ze Tryz.prog 33 [rgv (ofP p),I n] M (fun w M'=>w=resv ((tightO (reachB p n)).getD zRg,0) /\ Grow M M'):=by
 have h:=zke (x:=p.1) (y:=p.2) hp hn M
 have hr:0<=rtF (n*n - 0*0):=by rcases five hn with rfl|rfl|rfl|rfl|rfl<;>decide
 have h0:=zij (p:=p) (n:=n) (x:=0) (y:=0) hp hn (by omega) (by omega) (by rw[Int.add_zero,Int.add_zero];exact hp)
 have ht:=(zfa h0).1
 have he:eTi (reachB p n)=0:=by
  unfold eTi
  cases hh:tightO (reachB p n) with
  | none=>rw[hh] at ht;cases ht
  | some r=>rfl
 rw[if_pos he] at h
 exact h
theorem z5t{n m:Int}(hm:0 < m):0<=rstM n m /\ rstM n m < m:=by
 have h1:=Int.tmod_lt_of_pos n hm
 have h2:=Int.lt_tmod_of_pos n hm
 unfold rstM
 split<;>omega
theorem z7u(n m:Int)(hn:I64 n)(hm:1<=m /\ m<=1000000000000000)(M:Mem):ze Tryz.prog 19 [I n,I m] M (fun w M'=>w=I (rstM n m) /\ M'=M):=by
 refine zf k19 rfl ?_
 delta x19;refine un ?_
 obtain⟨hn1,hn2⟩:=hn
 have h1:=Int.tmod_lt_of_pos n (show 0 < m by omega)
 have h2:=Int.lt_tmod_of_pos n (show 0 < m by omega)
 have hr:rstM n m=if Int.tmod n m < 0 then Int.tmod n m+m else Int.tmod n m:=rfl
 repeat' first|with_reducible intro _|refine sv ?_|refine ss ?_ ?_<;>(intro h;first|exact sz h|refine sy h ?_)|exact sq|fail
 ·refine kf ?_
  rw[if_pos h] at hr
  exact⟨by rw[hr];rfl,rfl⟩
 ·refine kf ?_
  rw[if_neg (by omega)] at hr
  exact⟨by rw[hr];rfl,rfl⟩
def pckJ(l:List Int)(i:Int):Int:=l.getD (rstM i l.length).toNat 0
theorem zf2{l:List Int}(h:∀ n ∈ l,I64 n)(i:Int):I64 (pckJ l i):=by
 unfold pckJ
 rw[List.getD_eq_getElem?_getD]
 cases hh:l[(rstM i l.length).toNat]? with
 | none=>exact⟨by decide,by decide⟩
 | some v=>exact h v (List.mem_of_getElem? hh)
theorem zae{a:Option (Nat × Nat)}{f:Bool}{e:Nat}{l:List Int}{k:Int}{M:Mem}(hl:SlI M a l)(hlen:l.length<=1000000000000000)(hk:I64 k):ze Tryz.prog 30 [.slice a l.length f e,I k] M (fun w M'=>w=I (pckJ l k) /\ M'=M):=by
 refine zf k30 rfl ?_
 delta x30;refine un ?_
 unfold pckJ
 by_cases h0:l.length=0
 ·have h0':(l.length:Int)=0:=by omega
  have hn:l=[]:=List.length_eq_zero_iff.1 h0
  repeat' first|with_reducible intro _|refine sv ?_|refine ss ?_ ?_<;>(intro h;first|exact sz h|refine sy h ?_)|exact sq|fail
  all_goals first
   |(exfalso;omega)
   |((refine kf ?_)
     exact⟨by rw[hn];rfl,rfl⟩)
 ·have hb:=z5t (n:=k) (m:=l.length) (by omega)
  have hlt:(rstM k l.length).toNat < l.length:=by omega
  obtain⟨i,o,rfl,hr1⟩:=hl.rd hlt
  rw[show l.getD (rstM k l.length).toNat 0=l[(rstM k l.length).toNat] by rw[List.getD_eq_getElem?_getD,List.getElem?_eq_getElem hlt];rfl]
  have cr:=z7u k l.length hk (by omega)
  generalize rstM k l.length=R at *
  (have hrd0:=hr1;repeat' (first|(with_reducible intro _)|refine sv ?_|((with_reducible first|apply z0c|apply z0a|apply zx);exact gd;exact rfl;exact rfl;(first|exact cr _))|refine ss ?_ ?_<;>(intro h;first|exact sz h|refine sy h ?_)|exact sq|fail))
  all_goals try(exfalso;omega)
  refine kf ?_
  exact⟨rfl,rfl⟩
set_option maxHeartbeats 8000000 in
theorem zod{x y n:Int}{a:Option (Nat × Nat)}{f:Bool}{e:Nat}{l:List Int}{t:Int}{M:Mem}(hp:PlP (x,y))(hn:0<=n /\ n<=4)(hl:SlI M a l)(hlen:l.length<=1000000000000000)(hi:∀ v ∈ l,I64 v)(ht:0<=t /\ t<=100000) :
  ze Tryz.prog 34 [.agg [I x,I y],I n,.slice a l.length f e,I t] M (fun w M'=>(∃ u v:Int,w=.agg [I (x+u),I (y+v)] /\ (-n<=u /\ u<=n) /\ -rtF (n*n - u*u)<=v /\ v<=rtF (n*n - u*u)) /\ Grow M M'):=by
 have hp':Pl x y:=hp
 unfold Pl at hp'
 have cp1:=fun M' (hgr:Grow M M')=>zae (f:=f) (e:=e) (k:=2*t) (hl.grow hgr) hlen ⟨by omega,by omega⟩
 have i1:=zf2 hi (2*t)
 have cp2:=fun M' (hgr:Grow M M')=>zae (f:=f) (e:=e) (k:=2*t+1) (hl.grow hgr) hlen ⟨by omega,by omega⟩
 have i2:=zf2 hi (2*t+1)
 generalize pckJ l (2*t)=p1 at *
 generalize pckJ l (2*t+1)=p2 at *
 have cr1:=fun M'=>z7u p1 (2*n+1) i1 (by omega) M'
 have b1:=z5t (n:=p1) (m:=2*n+1) (by omega)
 generalize rstM p1 (2*n+1)=r1 at *
 have hu:-n<=r1 - n /\ r1 - n<=n:=by omega
 have hfin:=zew n (by rcases five hn with rfl|rfl|rfl|rfl|rfl<;>decide) (r1 - n) (by
  have:r1 - n=-4 ∨ r1 - n=-3 ∨ r1 - n=-2 ∨ r1 - n=-1 ∨ r1 - n=0 ∨ r1 - n=1 ∨ r1 - n=2 ∨ r1 - n=3 ∨ r1 - n=4:=by omega
  rcases this with h|h|h|h|h|h|h|h|h<;>rw[h]<;>decide) hu
 have hsq:0<=n*n /\ n*n<=16:=by rcases five hn with rfl|rfl|rfl|rfl|rfl<;>decide
 have hsu:0<=(r1 - n)*(r1 - n) /\ (r1 - n)*(r1 - n)<=16:=by
  have:r1 - n=-4 ∨ r1 - n=-3 ∨ r1 - n=-2 ∨ r1 - n=-1 ∨ r1 - n=0 ∨ r1 - n=1 ∨ r1 - n=2 ∨ r1 - n=3 ∨ r1 - n=4:=by omega
  rcases this with h|h|h|h|h|h|h|h|h<;>rw[h]<;>decide
 have crt:∀ M',ze Tryz.prog 97 [I (n*n - (r1 - n)*(r1 - n))] M' (fun w M''=>w=.tup [I (rtF (n*n - (r1 - n)*(r1 - n))),I 0] /\ M''=M'):=fun M'=>by
  obtain⟨k,hk⟩:=Int.eq_ofNat_of_zero_le hfin.1
  rw[hk]
  exact zo3 k (by omega) M'
 obtain⟨hf0,hf1,hf2,hf3,hf4,hf5⟩:=hfin
 generalize hh:rtF (n*n - (r1 - n)*(r1 - n))=rr at *
 have cr2:=fun M'=>z7u p2 (2*rr+1) i2 (by omega) M'
 have b2:=z5t (n:=p2) (m:=2*rr+1) (by omega)
 generalize rstM p2 (2*rr+1)=r2 at *
 refine zf k34 rfl ?_
 delta x34;refine un ?_
 repeat' first|with_reducible intro _|refine sv ?_|((with_reducible first|apply z0c|apply z0a|apply zx);exact gd;exact rfl;exact rfl;(first|exact cr1 _|exact cp1 _ (xg)|exact crt _|exact cr2 _|exact cp2 _ (xg)))|refine ss ?_ ?_<;>(intro h;first|exact sz h|refine sy h ?_)|exact sq|fail
 refine kf ?_
 refine⟨⟨r1 - n,r2 - rr,?_,hu,by rw[hh];omega,by rw[hh];omega⟩,xg⟩
 rw[show y+(r2 - rr)=y+r2 - rr by omega];rfl
theorem zr1{p:Pt}{n:Int}{a:Option (Nat × Nat)}{f:Bool}{e:Nat}{l:List Int}{t:Int}{M:Mem}(hp:PlP p)(hn:0<=n /\ n<=4)(hl:SlI M a l)(hlen:l.length<=1000000000000000)(hi:∀ v ∈ l,I64 v)(ht:0<=t /\ t<=100000) :
  ze Tryz.prog 34 [ptv p,I n,.slice a l.length f e,I t] M (fun w M'=>(∃ q:Pt,w=ptv q /\ (SmP 100000 q) /\ (PlP q->q ∈ plsL ((tightO (reachB p n)).getD zRg))) /\ Grow M M') :=
 (zod (x:=p.1) (y:=p.2) hp hn hl hlen hi ht).mono fun w M' ⟨⟨u,v,h1,h2,h3,h4⟩,h5⟩=>⟨⟨(p.1+u,p.2+v),h1,by
  have hp':Pl p.1 p.2:=hp
  have hr:rtF (n*n - u*u)<=4:=by unfold rtF;(repeat' split)<;>omega
  unfold SmP
  unfold Pl at hp'
  dsimp only
  omega,fun hq=>(zfa (zij hp hn h2 ⟨h3,h4⟩ hq)).2⟩,h5⟩
theorem zow{l:List Mk}(h:mksB l=true){i:Nat}(hi:i < l.length):mksB [l[i]]=true:=by
 have:=z7f h l[i] (List.getElem_mem hi)
 unfold mksB mkK
 simp[List.range_succ,mkA,me,this]
theorem zce{M M':Mem}{n:Nat}{ty:TypeId}{p:Mk}(h:New M n (.cells true (mkc p) ty) M'):z0l 4 1 (.slice (some (n,0)) 1 true 4) M'=some ([p].flatMap mkc):=by
 have ha:=At.new_same h
 show loadN M' n 0 (1*4)=_
 exact(Rd.of_at (l:=mkc p) ha rfl).1
theorem zjg{M M':Mem}{n:Nat}{ty:TypeId}{p:Mk}(h:New M n (.cells true ([] ++ [p].flatMap mkc) ty) M'):SlM M' (some (n,0)) [p]:=.inr ⟨n,0,rfl,fun k hk=>by
 have ha:=At.new_same h
 obtain rfl:k=0:=by simpa using hk
 exact Rd.of_at ha rfl⟩
theorem zcr{M:Mem}{a:Option (Nat × Nat)}{p:Mk}{f:Bool}{e:Nat}(h:SlM M a [p]):z0l 4 1 (.slice a 1 f e) M=some ([p].flatMap mkc):=by
 obtain⟨i,o,rfl,h2⟩:=h.resolve_left (by simp)
 have:=(h2 0 (by simp)).1
 rw[show o+0*4=o by omega] at this
 exact this
set_option maxHeartbeats 16000000 in
theorem zkh{al ab:Option (Nat × Nat)}{fl fb:Bool}{el eb:Nat}{l:List Mk}{bs:List Int}{M:Mem}(hs:SlM M al l)(hl:l.length<=1000000000000000)(hb:SlI M ab bs)(hbl:bs.length<=1000000000000000)(hbi:∀ v ∈ bs,I64 v)(hE:ES M)(hP:P10 M)(hD:D64 M) :
  ze Tryz.prog 31 [.slice al l.length fl el,.slice ab bs.length fb eb] M (fun w M'=>((mksB l=false /\ w=.tup [.slice none 0 true 0,.bool false]) ∨(mksB l=true /\ ∃ v,w=.tup [v,.bool true] /\ Vec M.next 4 51 mkc M' v l)) /\ Grow M M'):=by
 have c1:=fun M' (hg:Grow M M')=>z3v (f:=fl) (e:=el) (hs.grow hg) hl
 refine zf k31 rfl ?_
 delta x31;refine un ?_
 cases hm:mksB l with
 | false =>
  have e1:errMk l=82:=by unfold errMk;rw[hm];rfl
  rw[e1] at c1
  repeat' first|with_reducible intro _|refine sv ?_|((with_reducible first|apply zp|apply zo|apply zj);exact gd;exact rfl;exact rfl;(first|exact c1 _ (xg)))|refine ss ?_ ?_<;>(intro h;first|exact sz h|refine sy h ?_)|exact sq|fail
  all_goals try(exfalso;omega)
  refine kf ?_
  exact⟨.inl ⟨rfl,rfl⟩,xg⟩
 | true =>
 have hl5:=zih hm
 have e1:errMk l=0:=by unfold errMk;rw[hm];rfl
 rw[e1] at c1
 repeat' first|with_reducible intro _|refine sv ?_|((with_reducible first|apply zp|apply zo|apply zj);exact gd;exact rfl;exact rfl;(first|exact c1 _ (xg)))|refine ss ?_ ?_<;>(intro h;first|exact sz h|refine sy h ?_)|exact sq|fail
 all_goals try(exfalso;omega)
 rename_i M1 g1 l1
 refine zi (fun z E ms M'=>∃(k:Nat) (v:LV),z=l.length - k /\ k<=l.length /\ ms=[] /\ Has E [(0,.slice al l.length fl el),(1,.slice ab bs.length fb eb),(6,v),(7,I k)] /\ Grow M M' /\ Vec M.next 4 51 mkc M' v (l.take k))
  ?_ l.length _ _ _ ⟨0,_,by omega,by omega,rfl,.cons rfl (.cons rfl (.cons rfl (.cons rfl .nil))),g1,by rw[List.take_zero];exact Vec.nil⟩
 rintro z E ms M2 ⟨k,v,rfl,hk,rfl,hE2,g2,hv⟩
 refine z02 hE2 ?_
 by_cases hlast:k=l.length
 ·subst hlast
  rw[List.take_length] at hv
  obtain⟨av,fv,ev,rfl⟩:=Vec.shape hv
  repeat' first|with_reducible intro _|refine sv ?_|refine ss ?_ ?_<;>(intro h;first|exact sz h|refine sy h ?_)|exact sq|fail
  all_goals try(exfalso;omega)
  refine kf ?_
  exact⟨.inr ⟨rfl,_,by simp[packed],hv⟩,g2⟩
 have hlt:k < l.length:=by omega
 obtain⟨il,ol,rfl,hrl⟩:=hs.resolve_left (fun h=>by rw[h] at hlt;exact absurd hlt (Nat.not_lt_zero _))
 have rk:Rd M2 il (ol+k*4) 4 (mkc l[k]):=(hrl k hlt).grow g2
 have hone:=zow hm hlt
 have htk:l.take (k+1)=l.take k ++ [l[k]]:=List.take_succ_eq_append_getElem hlt
 have hlk:(l.take k).length=k:=by rw[List.length_take];omega
 generalize l[k]=mm at *
 obtain⟨m1,m2,m3,m4⟩:=mm
 have rk:Rd M2 il (ol+k*4) 4 [I m1,I m2,I m3,I m4]:=rk
 have hpo:=ztw zty hone (by simp)
 have hp1:mpF [(m1,m2,m3,m4)]=(mxL [(m1,m2,m3,m4)],0):=by unfold mpF;rw[if_pos hone]
 have hp0:mpF []=([],0):=rfl
 have cp:=fun M' (hgr:Grow M M')=>zae (f:=fb) (e:=eb) (k:=k) (hb.grow hgr) hbl ⟨by omega,by omega⟩
 have ip:=zf2 hbi (k:Int)
 generalize pckJ bs (k:Int)=pv at *
 have cr:=fun M'=>z7u pv 2 ip (by omega) M'
 have hrb:=z5t (n:=pv) (m:=2) (by omega)
 generalize rstM pv 2=rv at *
 by_cases hrv:rv=0
 ·-- the mark is in the first copy
  repeat' first|with_reducible intro _|refine sv ?_|((with_reducible first|apply z0c|apply z0a|apply zx);exact gd;exact rfl;exact rfl;(first|exact cr _|exact cp _ (xg)))|refine ss ?_ ?_<;>(intro h;first|exact sz h|refine sy h ?_)|exact sq|fail
  all_goals try(exfalso;omega)
  rename_i n4 M3 u1 u2 u3
  refine zcw (by exact gd) (old:=[]) rfl rfl rfl (by omega) (by omega) rfl rfl (zce (p:=(m1,m2,m3,m4)) u1) rfl (.inl rfl) ?_
  intro m5 M4 u4 u5 u6
  have sl:=zjg (p:=(m1,m2,m3,m4)) u4
  have g4:Grow M2 M4:=u1.grow.trans u4.grow
  have hv4:=hv.grow g4
  have g04:=g2.trans g4
  clear u1 u4
  have c2:=fun M' (hgr:Grow M4 M')=>z2w (f:=false) (e:=4) (M:=M') (l:=[(m1,m2,m3,m4)]) (a:=some (m5,0)) (sl.grow hgr) (by simp) (hP.grow (g04.trans hgr)) (hD.grow (g04.trans hgr))
  have c3:=fun M' (hgr:Grow M4 M')=>z2w (f:=true) (e:=0) (M:=M') (l:=[]) (a:=none) (.inl rfl) (by simp) (hP.grow (g04.trans hgr)) (hD.grow (g04.trans hgr))
  rw[hp1] at c2
  rw[hp0] at c3
  have c4:=fun M' (hgr:Grow M4 M')=>z6r (mxL [(m1,m2,m3,m4)]) (by rw[z48];simp) (M:=M') (hE.grow (g04.trans hgr)) (hP.grow (g04.trans hgr)) (hD.grow (g04.trans hgr))
  rw[hpo] at c4
  dsimp only at c2 c3 c4
  repeat' first|with_reducible intro _|refine sv ?_|((with_reducible first|apply zp|apply zo|apply zj);exact gd;exact rfl;exact rfl;(first|exact c2 _ (xg)|exact c3 _ (xg)))|refine ss ?_ ?_<;>(intro h;first|exact sz h|refine sy h ?_)|exact sq|fail
  all_goals try(exfalso;omega)
  refine z00 (by exact gd) (z34 rfl rfl (by rw[z01,z01,z48];simp)) ?_
  rw[z2c]
  simp only[List.append_nil,List.nil_append]
  repeat' first|with_reducible intro _|refine sv ?_|((with_reducible first|apply zt|apply zz|apply zn);exact gd;exact rfl;exact rfl;(first|exact c4 _ (xg)))|refine ss ?_ ?_<;>(intro h;first|exact sz h|refine sy h ?_)|exact sq|fail
  all_goals try(exfalso;omega)
  rename_i M5 g5 l5 M6 g6 l6 w M7 hq
  obtain⟨⟨a7,f7,e7,rfl,s7⟩,g7⟩:=hq
  have g47:Grow M4 M7:=(g5.trans g6).trans g7
  have hl47:=g47.le
  have hl04:=g04.le
  repeat' first|with_reducible intro _|refine sv ?_|refine ss ?_ ?_<;>(intro h;first|exact sz h|refine sy h ?_)|exact sq|fail
  all_goals try(exfalso;omega)
  refine z4b (by exact gd) (l':=[((m1,m2,m3,m4):Mk)]) (hv4.grow g47) rfl rfl rfl (by simp) (by rw[hlk,List.length_singleton];omega) rfl (zcr s7) (fun _=>rfl) (fun _=>rfl) (by omega) ?_
  intro v8 M8 hv8 hn8 hk8
  rw[<-htk] at hv8
  have g8:Grow M M8:=Keep.to_grow' (g04.trans g47) hk8 (fun i hi=>hi.1)
  repeat' first|with_reducible intro _|refine sv ?_|refine ss ?_ ?_<;>(intro h;first|exact sz h|refine sy h ?_)|exact sq|fail
  refine zq (l.length - (k+1)) (by omega) ⟨k+1,v8,rfl,by omega,rfl,.cons rfl (.cons rfl (.cons rfl (.cons rfl .nil))),g8,hv8⟩
 ·-- the mark is in the second copy
  repeat' first|with_reducible intro _|refine sv ?_|((with_reducible first|apply z0c|apply z0a|apply zx);exact gd;exact rfl;exact rfl;(first|exact cr _|exact cp _ (xg)))|refine ss ?_ ?_<;>(intro h;first|exact sz h|refine sy h ?_)|exact sq|fail
  all_goals try(exfalso;omega)
  rename_i n4 M3 u1 u2 u3
  refine zcw (by exact gd) (old:=[]) rfl rfl rfl (by omega) (by omega) rfl rfl (zce (p:=(m1,m2,m3,m4)) u1) rfl (.inl rfl) ?_
  intro m5 M4 u4 u5 u6
  have sl:=zjg (p:=(m1,m2,m3,m4)) u4
  have g4:Grow M2 M4:=u1.grow.trans u4.grow
  have hv4:=hv.grow g4
  have g04:=g2.trans g4
  clear u1 u4
  have c2:=fun M' (hgr:Grow M4 M')=>z2w (f:=true) (e:=0) (M:=M') (l:=[]) (a:=none) (.inl rfl) (by simp) (hP.grow (g04.trans hgr)) (hD.grow (g04.trans hgr))
  have c3:=fun M' (hgr:Grow M4 M')=>z2w (f:=false) (e:=4) (M:=M') (l:=[(m1,m2,m3,m4)]) (a:=some (m5,0)) (sl.grow hgr) (by simp) (hP.grow (g04.trans hgr)) (hD.grow (g04.trans hgr))
  rw[hp0] at c2
  rw[hp1] at c3
  have c4:=fun M' (hgr:Grow M4 M')=>z6r (mxL [(m1,m2,m3,m4)]) (by rw[z48];simp) (M:=M') (hE.grow (g04.trans hgr)) (hP.grow (g04.trans hgr)) (hD.grow (g04.trans hgr))
  rw[hpo] at c4
  dsimp only at c2 c3 c4
  repeat' first|with_reducible intro _|refine sv ?_|((with_reducible first|apply zp|apply zo|apply zj);exact gd;exact rfl;exact rfl;(first|exact c2 _ (xg)|exact c3 _ (xg)))|refine ss ?_ ?_<;>(intro h;first|exact sz h|refine sy h ?_)|exact sq|fail
  all_goals try(exfalso;omega)
  refine z00 (by exact gd) (z34 rfl rfl (by rw[z01,z01,z48];simp)) ?_
  rw[z2c]
  simp only[List.append_nil,List.nil_append]
  repeat' first|with_reducible intro _|refine sv ?_|((with_reducible first|apply zt|apply zz|apply zn);exact gd;exact rfl;exact rfl;(first|exact c4 _ (xg)))|refine ss ?_ ?_<;>(intro h;first|exact sz h|refine sy h ?_)|exact sq|fail
  all_goals try(exfalso;omega)
  rename_i M5 g5 l5 M6 g6 l6 w M7 hq
  obtain⟨⟨a7,f7,e7,rfl,s7⟩,g7⟩:=hq
  have g47:Grow M4 M7:=(g5.trans g6).trans g7
  have hl47:=g47.le
  have hl04:=g04.le
  repeat' first|with_reducible intro _|refine sv ?_|refine ss ?_ ?_<;>(intro h;first|exact sz h|refine sy h ?_)|exact sq|fail
  all_goals try(exfalso;omega)
  refine z4b (by exact gd) (l':=[((m1,m2,m3,m4):Mk)]) (hv4.grow g47) rfl rfl rfl (by simp) (by rw[hlk,List.length_singleton];omega) rfl (zcr s7) (fun _=>rfl) (fun _=>rfl) (by omega) ?_
  intro v8 M8 hv8 hn8 hk8
  rw[<-htk] at hv8
  have g8:Grow M M8:=Keep.to_grow' (g04.trans g47) hk8 (fun i hi=>hi.1)
  repeat' first|with_reducible intro _|refine sv ?_|refine ss ?_ ?_<;>(intro h;first|exact sz h|refine sy h ?_)|exact sq|fail
  refine zq (l.length - (k+1)) (by omega) ⟨k+1,v8,rfl,by omega,rfl,.cons rfl (.cons rfl (.cons rfl (.cons rfl .nil))),g8,hv8⟩
set_option maxHeartbeats 8000000 in
theorem zh8{b1 b2 i1 i2 N C:Nat}{R1 R2:Nat->Nat}{F1 F2:Nat->Nat->Int}{M:Mem}(h1:TbF b1 M i1 N C N R1 F1)(h2:TbF b2 M i2 N C N R2 F2)(hN:N<=256)(hC:C<=4)(hle:∀ k j,k < N->j < C->F1 k j<=F2 k j) :
  ze Tryz.prog 38 [.slice (some (i1,0)) N true 1,.slice (some (i2,0)) N true 1] M (fun w M'=>w=.bool true /\ M'=M):=by
 refine zf k38 rfl ?_
 delta x38;refine un ?_
 repeat' first|with_reducible intro _|refine sv ?_|refine ss ?_ ?_<;>(intro h;first|exact sz h|refine sy h ?_)|exact sq|fail
 all_goals try(exfalso;omega)
 refine zi (fun z E ms M'=>∃ k:Nat,z=N - k /\ k<=N /\ ms=[] /\ Has E [(0,.slice (some (i1,0)) N true 1),(1,.slice (some (i2,0)) N true 1),(5,I k)] /\ M'=M)
  ?_ N _ _ _ ⟨0,by omega,by omega,rfl,.cons rfl (.cons rfl (.cons rfl .nil)),rfl⟩
 rintro z E ms M' ⟨k,rfl,hk,rfl,hE,rfl⟩
 refine z02 hE ?_
 by_cases hlast:k=N
 ·subst hlast
  repeat' first|with_reducible intro _|refine sv ?_|refine ss ?_ ?_<;>(intro h;first|exact sz h|refine sy h ?_)|exact sq|fail
  all_goals try(exfalso;omega)
  refine kf ?_
  exact⟨rfl,rfl⟩
 have hlt:k < N:=by omega
 have r1:=h1.rdR hlt hlt
 have r2:=h2.rdR hlt hlt
 (have hrd0:=r1;have hrd1:=r2;repeat' (first|(with_reducible intro _)|refine sv ?_|refine ss ?_ ?_<;>(intro h;first|exact sz h|refine sy h ?_)|exact sq|fail))
 all_goals try(exfalso;omega)
 refine zi (fun z E ms M''=>∃ j:Nat,z=C - j /\ j<=C /\ ms=[] /\ Has E [(0,.slice (some (i1,0)) N true 1),(1,.slice (some (i2,0)) N true 1),(5,I k),(6,I j)] /\ M''=M')
  ?_ C _ _ _ ⟨0,by omega,by omega,rfl,.cons rfl (.cons rfl (.cons rfl (.cons rfl .nil))),rfl⟩
 rintro z E ms M'' ⟨j,rfl,hj,rfl,hE2,rfl⟩
 refine z02 hE2 ?_
 by_cases hlastj:j=C
 ·subst hlastj
  (have hrd0:=r1;have hrd1:=r2;repeat' (first|(with_reducible intro _)|refine sv ?_|refine ss ?_ ?_<;>(intro h;first|exact sz h|refine sy h ?_)|exact sq|fail))
  all_goals try(exfalso;omega)
  refine zq (N - (k+1)) (by omega) ⟨k+1,rfl,by omega,rfl,.cons rfl (.cons rfl (.cons rfl .nil)),rfl⟩
 have hltj:j < C:=by omega
 have r3:=h1.rdC hlt hltj
 have r4:=h2.rdC hlt hltj
 have hl:=hle k j hlt hltj
 generalize F1 k j=v1 at *
 generalize F2 k j=v2 at *
 (have hrd0:=r1;have hrd1:=r2;have hrd2:=r3;have hrd3:=r4;repeat' (first|(with_reducible intro _)|refine sv ?_|refine ss ?_ ?_<;>(intro h;first|exact sz h|refine sy h ?_)|exact sq|fail))
 all_goals try(exfalso;omega)
 refine zq (C - (j+1)) (by omega) ⟨j+1,rfl,by omega,rfl,.cons rfl (.cons rfl (.cons rfl (.cons rfl .nil))),rfl⟩
theorem zj4{M:Mem}{i o:Nat}{a b c d:LV}(h:Rd M i o 4 [a,b,c,d]):Rd M i (o+1) 2 [b,c]:=by
 obtain⟨h1,h2⟩:=h
 refine⟨?_,h2⟩
 unfold loadN atCells at *
 obtain⟨lb,h3,h4⟩:=zb.1 h1
 rw[h3,za]
 cases lb with
 | cells own cs ty =>
  have h4:take' 4 (drop' o cs)=some [a,b,c,d]:=h4
  obtain⟨h5,h6⟩:=z1z.1 h4
  show take' 2 (drop' (o+1) cs)=some [b,c]
  rw[z1o] at h5 h6 ⊢
  rw[z1z]
  have h7:cs.drop (o+1)=(cs.drop o).drop 1:=by rw[List.drop_drop]
  rw[h7]
  generalize cs.drop o=D at *
  match D,h5,h6 with
  | p :: q :: r :: t :: D,_,h6 =>
   have h6:[a,b,c,d]=[p,q,r,t]:=h6
   cases h6
   exact⟨by simp,rfl⟩
 | _=>cases h4
theorem zp4{p:Pt}(hp:PlP p):ofF [p]=(ofP p,0):=by
 have h1:hullO none [p]=some (ofP p):=by
  show some (map4 spanB (ofP p) (ofP p))=_
  unfold map4 spanB ofP iMin iMax
  simp
 have hp':Pl p.1 p.2:=hp
 unfold Pl at hp'
 have h2:[p].any badP=false:=by
  simp only[List.any_cons,List.any_nil,Bool.or_false]
  unfold badP ptB btB
  simp
  omega
 unfold ofF
 rw[if_neg (by simp),if_neg (by simp),h2,h1]
 rfl
theorem zj9{M M':Mem}{n:Nat}{ty:TypeId}{p:Rg}(h:New M n (.cells true (rgc p) ty) M'):z0l 8 1 (.slice (some (n,0)) 1 true 8) M'=some ([p].flatMap rgc):=by
 have ha:=At.new_same h
 show loadN M' n 0 (1*8)=_
 exact(Rd.of_at (l:=rgc p) ha rfl).1
theorem zly{M M':Mem}{n:Nat}{ty:TypeId}{p:Pt}(h:New M n (.cells true (ptc p) ty) M'):SlQ M' (some (n,0)) [p]:=.inr ⟨n,0,rfl,fun k hk=>by
 have ha:=At.new_same h
 obtain rfl:k=0:=by simpa using hk
 exact Rd.of_at ha rfl⟩
def nrR(far:Int)(m:Mk):Rg:=(tightO (reachB (plc m) far)).getD zRg
theorem z92{α:Type}{b sz:Nat}{ty:TypeId}{enc:α->List LV}{M:Mem}{v:LV}{l:List α}{P:Program}[Orc P]{μ:Md}{s0:Nat}{E:Env}{K:Env->Mem->Prop}{ld:List XG}{d:Nat}{g:Option (Nat × Bool)}{s x:XO}{by':Nat}{z:List LV}{l':List α}{xv:LV}(hg:GOn E g)(hv:Vec b sz ty enc M v l)(hs:xval E s=some v)(hx:xval E x=some xv)(hn:z1k xv=some l'.length)(h0:0 < l'.length)(hb:(2*(l.length+l'.length)+2048)*by'<=140737488355328)(hz:(Nat.ble 1 sz && (Nat.ble 1 by' && Nat.beq z.length sz))=true)(hw:z0l sz l'.length xv M=some (l'.flatMap enc))
  (henc:∀ x,(enc x).length=sz) (hfl:∀ x,zl (enc x)=true) (hbM:b<=M.next) (hk:∀ v' M',Vec b sz ty enc M' v' (l ++ l')->M'.next=M.next+1->Keep (fun i=>b<=i /\ ∃ o n f e,v=.slice (some (i,o)) n f e) M M'->(∃ n f e,v'=.slice (some (M.next,0)) n f e)->XW μ P s0 ld ((d,v') :: E) M' K):XW μ P s0 (⟨some d,.app ty sz by' z s x,g⟩ :: ld) E M K:=by
 obtain⟨v',M',h1,h2,h3,h4,h5⟩:=Vec.appx (P:=P) hv hs hx hn h0 hb hz hw henc hfl hbM
 exact z7c hg h1 (hk v' M' h2 h3 h4 h5)
theorem zfq(n lo hi:Int)(M:Mem):ze Tryz.prog 11 [I n,I lo,I hi] M (fun w M'=>w=.bool (decide (lo<=n /\ n<=hi)) /\ M'=M):=by
 refine zf k11 rfl ?_
 delta x11;refine un ?_
 repeat' first|with_reducible intro _|refine sv ?_|refine ss ?_ ?_<;>(intro h;first|exact sz h|refine sy h ?_)|exact sq|fail
 all_goals (apply zdj;exact .tmp rfl .nil;refine⟨?_,rfl⟩)
 all_goals first
  | exact zep (by omega)
  | exact lb_f (by omega)
  | exact lb_t (by omega)
theorem zhk{H1 H2:Nat->Ky->Prop}{n k j:Nat}(h:∀ t,t < n->∀ c,H1 t c->c.1=(k:Int)->c.2=(j:Int)->∃ c',H2 t c' /\ c'.1=(k:Int) /\ c'.2=(j:Int)):cntF H1 n k j<=cntF H2 n k j:=by
 induction n with
 | zero=>exact Int.le_refl _
 | succ n ih =>
  have h1:=ih fun t ht=>h t (by omega)
  unfold cntF
  by_cases e:∃ c,H1 n c /\ c.1=(k:Int) /\ c.2=(j:Int)
  ·obtain⟨c,h2,h3,h4⟩:=e
   rw[if_pos ⟨c,h2,h3,h4⟩,if_pos (h n (by omega) c h2 h3 h4)]
   omega
  ·rw[if_neg e]
   split<;>omega
def ownH(g:Gd)(qs:List Pt)(ts:List (Int × Int))(t:Nat)(c:Ky):Prop:=c=cellK g (qs.getD (ts.getD t (0,0)).1.toNat (0,0),qs.getD (ts.getD t (0,0)).2.toNat (0,0))
theorem ztv{g:Gd}{qs:List Pt}{ts:List (Int × Int)}{t:Nat}{ck:Ky}(h:ck=cellK g (qs.getD (ts.getD t (0,0)).1.toNat (0,0),qs.getD (ts.getD t (0,0)).2.toNat (0,0)))(k j:Nat):cntF (ownH g qs ts) (t+1) k j=if ck.1=(k:Int) /\ ck.2=(j:Int) then cntF (ownH g qs ts) t k j+1 else cntF (ownH g qs ts) t k j:=by
 have e:cntF (ownH g qs ts) (t+1) k j=cntF (ownH g qs ts) t k j + @ite Int (∃ c,ownH g qs ts t c /\ c.1=(k:Int) /\ c.2=(j:Int)) (Classical.propDecidable _) 1 0:=rfl
 rw[e]
 by_cases h1:ck.1=(k:Int) /\ ck.2=(j:Int)
 ·rw[if_pos h1,if_pos ⟨ck,h,h1⟩]
 ·rw[if_neg h1,if_neg (fun⟨c,h2,h3⟩=>h1 (by rw[h,<- show c=_ from h2];exact h3))]
  omega
theorem zds{g:Gd}{ns:List Rg}{ts:List (Int × Int)}{qs:List Pt}(hok:LyOk ns ts)(hq:qs.length=ns.length)(hin:∀ j (hj:j < qs.length) (hj':j < ns.length),qs[j] ∈ plsL ns[j]){t:Nat}(ht:t < ts.length):hitH g ns ts t (cellK g (qs.getD (ts.getD t (0,0)).1.toNat (0,0),qs.getD (ts.getD t (0,0)).2.toNat (0,0))):=by
 unfold hitH hitP
 obtain⟨⟨h1,h2⟩,⟨h3,h4⟩,-⟩:=hok.tsO _ (List.getElem_mem ht)
 rw[show ts.getD t (0,0)=ts[t] by rw[List.getD_eq_getElem?_getD,List.getElem?_eq_getElem ht];rfl]
 have hpl:∀ k:Int,0<=k->k < ns.length->qs.getD k.toNat (0,0) ∈ plA ns k:=fun k g1 g2=>by
  have g3:k.toNat < ns.length:=by omega
  have g4:k.toNat < qs.length:=by omega
  unfold plA
  have e1:qs.getD k.toNat (0,0)=qs[k.toNat]:=by rw[List.getD_eq_getElem?_getD,List.getElem?_eq_getElem g4];rfl
  have e2:ns.getD k.toNat zRg=ns[k.toNat]:=by rw[List.getD_eq_getElem?_getD,List.getElem?_eq_getElem g3];rfl
  rw[e1,e2]
  exact hin _ g4 g3
 exact⟨_,zdy.2 ⟨hpl _ h1 h2,hpl _ h3 h4⟩,rfl⟩
set_option maxHeartbeats 32000000 in
theorem zd2{M:Mem}{g:Gd}{ca:Option (Nat × Nat)}{f:Bool}{e:Nat}{al ab at':Option (Nat × Nat)}{fl fb ft:Bool}{eb et:Nat}{L:List Mk}{bs:List Int}{ts:List (Int × Int)}(hs:SlC M ca g.cl)(hlc:g.cl.length<=1000000000000000)(hm:SlM M al L)(hml:L.length<=1000000000000000)(ht:SlA 2 trc M at' ts)(htl:ts.length<=1000000000000000)(hb:SlI M ab bs)(hbl:bs.length<=1000000000000000)(hbi:∀ v ∈ bs,I64 v)
  (hN:NonM M) (hE:ES M) (hP:P10 M) (hD:D64 M) (hB:Base M) (hp:preOk M tabsT=true) :
  CallN Tryz.prog 7 [gdv g ca f e,.slice al L.length fl 4,.agg [.slice at' ts.length ft et,.slice ab bs.length fb eb]] M (fun q _=>q=.bool true):=by
 have hpM:∀ M',Grow M M'->preOk M' tabsT=true:=fun M' hg=>z8q (Ext.of_grow hg hB) hp
 refine z5e k7 rfl ?_
 delta x7;refine un ?_
 obtain⟨N1,hh⟩:∃ N1:Nat,N1=min L.length 16:=⟨_,rfl⟩
 have hmin:iMin (L.length:Int) 16=(N1:Int):=by unfold iMin;omega
 obtain⟨a1,f1,e1,hsc,hs1⟩:=zlx (f:=fl) hm (show N1<=L.length by omega)
 have hll:(L.take N1).length=N1:=by rw[List.length_take];omega
 have hN2:N1<=16:=by omega
 have cp:=fun M' (hgr:Grow M M')=>zae (f:=fb) (e:=eb) (k:=0) (hb.grow hgr) hbl ⟨by decide,by decide⟩
 have ip:=zf2 hbi 0
 generalize pckJ bs 0=pv at *
 have cr:=fun M'=>z7u pv 5 ip (by omega) M'
 have hfar:=z5t (n:=pv) (m:=5) (by omega)
 generalize rstM pv 5=far at *
 have hfar:0<=far /\ far<=4:=by omega
 repeat' first|with_reducible intro _|refine sv ?_|refine ss ?_ ?_<;>(intro h;first|exact sz h|refine sy h ?_)|exact sq|fail
 rename_i n3 M1 u1 u2 u3 n5 M2 u4 u5 u6
 rw[hmin]
 refine z00 (by exact gd) (zq1 hsc rfl rfl) ?_
 have g2:Grow M M2:=u1.grow.trans u4.grow
 have A3:At M2 n3 (.cells true (gdc g ca f e) 105):=At.new_old u4 (At.new_same u1)
 clear hsc hmin hh hm u1 u4
 generalize L.take N1=l at *
 subst hll
 have cc:=fun M' (hgr:Grow M M')=>zkh (fl:=f1) (el:=e1) (fb:=fb) (eb:=eb) (hs1.grow hgr) (by omega) (hb.grow hgr) hbl hbi (hE.grow hgr) (hP.grow hgr) (hD.grow hgr)
 repeat' first|with_reducible intro _|refine sv ?_|((with_reducible first|apply z0c|apply z0a|apply zx);exact gd;exact rfl;exact rfl;(first|exact cr _|exact cp _ (xg)))|((with_reducible first|apply zt|apply zz|apply zn);exact gd;exact rfl;exact rfl;(first|exact cc _ (xg)))|refine ss ?_ ?_<;>(intro h;first|exact sz h|refine sy h ?_)|exact sq|fail
 all_goals try(exfalso;omega)
 rename_i w M3 hq
 obtain⟨hq,g23⟩:=hq
 have g3:=g2.trans g23
 rcases hq with⟨-,rfl⟩|⟨hmk,bv,rfl,hbv⟩
 ·repeat' first|with_reducible intro _|refine sv ?_|((with_reducible first|apply z0c|apply z0a|apply zx);exact gd;exact rfl;exact rfl;(first|exact zal (hpM _ g3)))|refine ss ?_ ?_<;>(intro h;first|exact sz h|refine sy h ?_)|exact sq|fail
  refine kf ?_
  rfl
 obtain⟨a6,f6,e6,rfl,hrb⟩:=Vec.rd hbv (fun _ _=>rfl)
 repeat' first|with_reducible intro _|refine sv ?_|refine ss ?_ ?_<;>(intro h;first|exact sz h|refine sy h ?_)|exact sq|fail
 rename_i n12 M4 v1 v2 v3 M5 v4 v5 v6
 have A3':=A3.grow g23
 have hs3:=hs1.grow g3
 have g35:Grow M3 M5:=v1.grow.upd v4 (by omega)
 have A12:At M5 n12 (.cells true [.slice none 0 true 0,.slice at' ts.length ft et] 111):=v6
 have hl12:=A12.2
 have hM3:=g3.le
 have hA3:=A3'.2
 clear v1 v4 v6 hbv cc cr cp A3 hs1
 refine zi (fun z E ms M'=>∃(k:Nat) (vn vt:LV) (qs:List Pt),z=l.length - k /\ k<=l.length /\ ms=[] /\ Has E [(1,.slice a1 l.length f1 e1),(3,.ptr (some (n3,0))),(7,.slice at' ts.length ft et),(8,.slice ab bs.length fb eb),(9,I far),(10,.slice a6 l.length f6 e6),(12,.ptr (some (n12,0))),(13,vt),(14,I k),(6,.bool false)] /\
   Grow M3 M' /\ M5.next<=M'.next /\ At M' n12 (.cells true [vn,.slice at' ts.length ft et] 111) /\ Vec M5.next 8 28 rgc M' vn ((l.take k).map (nrR far)) /\ Vec M5.next 2 30 ptc M' vt qs /\ (∀ i,NV vn i->¬ NV vt i) /\
   qs.length=k /\ ∀ j (hj:j < qs.length) (hj':j < l.length),PlP qs[j] /\ qs[j] ∈ plsL (nrR far l[j]))
  ?_ l.length _ _ _ ⟨0,_,_,[],by omega,by omega,rfl,.cons rfl (.cons rfl (.cons rfl (.cons rfl (.cons rfl (.cons rfl (.cons rfl (.cons rfl (.cons rfl (.cons rfl .nil))))))))),g35,Nat.le_refl _,A12,Vec.nil,Vec.nil,fun i h=>absurd h NV.nil,rfl,fun j hj=>absurd hj (Nat.not_lt_zero _)⟩
 clear A12
 rintro z E ms M6 ⟨k,vn,vt,qs,rfl,hk,rfl,hE6,g6,l6,A12,hvn,hvt,hdj,hql,hqs⟩
 refine z02 hE6 ?_
 by_cases hlast:k=l.length
 ·subst hlast
  rw[List.take_length] at hvn
  obtain⟨a9,f9,e9,rfl,hr9⟩:=Vec.rd hvn (fun _ _=>rfl)
  obtain⟨a10,f10,e10,rfl,hr10⟩:=Vec.rd hvt (fun _ _=>rfl)
  have gM6:=g3.trans g6
  have hB3:=A3'.grow g6
  have hin:∀ j (hj:j < qs.length) (hj':j <(l.map (nrR far)).length),qs[j] ∈ plsL (l.map (nrR far))[j]:=fun j hj hj'=>by
   rw[List.getElem_map];exact(hqs j hj (by simpa using hj')).2
  have hqp:∀ q ∈ qs,PlP q:=fun q hq=>by
   obtain⟨j,hj,rfl⟩:=List.getElem_of_mem hq
   exact(hqs j hj (by omega)).1
  have hnl:(l.map (nrR far)).length=qs.length:=by rw[List.length_map,hql]
  have hln:(l.map (nrR far)).length<=16:=by rw[hnl];omega
  generalize l.map (nrR far)=ns at *
  have cF:=zqf (M:=M6) (f:=f) (e:=e) (fn:=f9) (ft:=ft) (en:=e9) (et:=et) (hs.grow gM6) hlc hr9 (ht.grow gM6) (by omega) htl (hN.grow gM6)
  dsimp only[lyc] at cF
  clear hqs hvn hvt hdj hs3 hrb
  have q3:=hB3.2
  repeat' first|with_reducible intro _|refine sv ?_|refine ss ?_ ?_<;>(intro h;first|exact sz h|refine sy h ?_)|exact sq|fail
  all_goals try(exfalso;omega)
  refine ze6 (by exact gd) rfl rfl cF ?_
  rintro w M7 ⟨hF,g67⟩
  have gM7:=gM6.trans g67
  rcases hF with⟨er,rfl,her⟩|⟨hg,hok,i1,R1,i2,R2,rfl,t1,t2⟩
  ·repeat' first|with_reducible intro _|refine sv ?_|((with_reducible first|apply z0c|apply z0a|apply zx);exact gd;exact rfl;exact rfl;(first|exact zal (hpM _ gM7)))|refine ss ?_ ?_<;>(intro h;first|exact sz h|refine sy h ?_)|exact sq|fail
   all_goals try(exfalso;omega)
   refine kf ?_
   rfl
  obtain⟨hN1,hN2,hN3⟩:=zap hg
  have hC1:=hg.n1
  have hC4:=hg.n4
  have hB7:=hB3.grow g67
  have q7:=hB7.2
  clear cF
  generalize hNN:cellN g=N at *
  repeat' first|with_reducible intro _|refine sv ?_|refine ss ?_ ?_<;>(intro h;first|exact sz h|refine sy h ?_)|exact sq|fail
  all_goals try(exfalso;omega)
  refine z7c (by exact gd) (z96 rfl rfl (Nat.le_refl _) (by omega) (by omega)) ?_
  have hT:New M7 M7.next (.cells true (rep N [.slice none 0 true 0]) 63) (M7.push (.cells true (rep N [.slice none 0 true 0]) 63)):=⟨rfl,rfl⟩
  generalize M7.push (.cells true (rep N [.slice none 0 true 0]) 63)=M8 at hT ⊢
  have e8:=hT.next
  generalize hit:M7.next=nt at hT e8 q7 ⊢
  have tz:TbF nt M8 nt N g.cl.length 0 (fun _=>0) (fun _ _=>0):=TbF.zero hT (Nat.le_refl _)
  have g78:=hT.grow
  refine z59 (t:=126) (v':=.slice (some (nt,0)) N true 1) rfl (by simp) ?_
  repeat' first|with_reducible intro _|refine sv ?_|refine ss ?_ ?_<;>(intro h;first|exact sz h|refine sy h ?_)|exact sq|fail
  all_goals try(exfalso;omega)
  refine zi (fun z E ms M'=>∃(k:Nat) (R:Nat->Nat),z=N - k /\ k<=N /\ ms=[] /\ Has E [(3,.ptr (some (n3,0))),(7,.slice at' ts.length ft et),(13,.slice a10 qs.length f10 e10),(20,.slice (some (i1,0)) N true 1),(21,.slice (some (i2,0)) N true 1),(23,.slice (some (nt,0)) N true 1),(24,I k)] /\ Grow M7 M' /\ TbF nt M' nt N g.cl.length k R (fun _ _=>0))
   ?_ N _ _ _ ⟨0,_,by omega,by omega,rfl,.cons rfl (.cons rfl (.cons rfl (.cons rfl (.cons rfl (.cons rfl (.cons rfl .nil)))))),g78,tz⟩
  clear tz hT
  rintro z E ms M9 ⟨k,R,rfl,hk,rfl,hE,g79,tb⟩
  refine z02 hE ?_
  have B9:=hB7.grow g79
  have q9:=B9.2
  have hl9:=g79.le
  by_cases hlast:k=N
  rotate_left
  ·have hlt:k < N:=by omega
   repeat' first|with_reducible intro _|refine sv ?_|refine ss ?_ ?_<;>(intro h;first|exact sz h|refine sy h ?_)|exact sq|fail
   all_goals try(exfalso;omega)
   refine z7c (by exact gd) (z96 rfl rfl (Nat.le_refl _) (by omega) (by omega)) ?_
   have hR:New M9 M9.next (.cells true (rep g.cl.length [I 0]) 3) (M9.push (.cells true (rep g.cl.length [I 0]) 3)):=⟨rfl,rfl⟩
   generalize M9.push (.cells true (rep g.cl.length [I 0]) 3)=M10 at hR ⊢
   have e10':=hR.next
   have tb4:=tb.grow hR.grow
   refine z59 (t:=138) (v':=.slice (some (M9.next,0)) g.cl.length true 1) rfl (by simp) ?_
   repeat' first|with_reducible intro _|refine sv ?_|refine ss ?_ ?_<;>(intro h;first|exact sz h|refine sy h ?_)|exact sq|fail
   all_goals try(exfalso;omega)
   refine x_st (by exact gd) rfl rfl tb4.hd rfl rfl (z4l hlt) ?_
   intro M11 hu5 e5 a5
   have tb5:=TbF.row tb hR hu5
   have g11:Grow M7 M11:=(g79.trans hR.grow).upd hu5 (by omega)
   clear hu5 hR
   repeat' first|with_reducible intro _|refine sv ?_|refine ss ?_ ?_<;>(intro h;first|exact sz h|refine sy h ?_)|exact sq|fail
   refine zq (N - (k+1)) (by omega) ⟨k+1,_,rfl,by omega,rfl,.cons rfl (.cons rfl (.cons rfl (.cons rfl (.cons rfl (.cons rfl (.cons rfl .nil)))))),g11,tb5⟩
  subst hlast
  have tb0:TbF nt M9 nt k g.cl.length k R (cntF (ownH g qs ts) 0):=tb
  repeat' first|with_reducible intro _|refine sv ?_|refine ss ?_ ?_<;>(intro h;first|exact sz h|refine sy h ?_)|exact sq|fail
  all_goals try(exfalso;omega)
  refine zi (fun z E ms M'=>∃ t:Nat,z=ts.length - t /\ t<=ts.length /\ ms=[] /\ Has E [(3,.ptr (some (n3,0))),(7,.slice at' ts.length ft et),(13,.slice a10 qs.length f10 e10),(20,.slice (some (i1,0)) k true 1),(21,.slice (some (i2,0)) k true 1),(23,.slice (some (nt,0)) k true 1),(25,I t)] /\ Grow M7 M' /\ TbF nt M' nt k g.cl.length k R (cntF (ownH g qs ts) t))
   ?_ ts.length _ _ _ ⟨0,by omega,by omega,rfl,.cons rfl (.cons rfl (.cons rfl (.cons rfl (.cons rfl (.cons rfl (.cons rfl .nil)))))),g79,tb0⟩
  clear tb tb0 hE B9 q9 hl9 g79 g78 e8
  rintro z E ms M12 ⟨t,rfl,ht2,rfl,hE,g12,tb⟩
  refine z02 hE ?_
  have gM12:=gM7.trans g12
  by_cases hlastt:t=ts.length
  ·subst hlastt
   have cf1:=zh8 (t1.grow g12) tb hN2 hC4 (fun k' j' hk' hj'=>zhk fun t ht c hc e1 e2=>⟨_,rfl,by rw[hc.2.1 _ (zds hok (by omega) hin ht)];exact⟨e1,e2⟩⟩)
   have cf2:=zh8 tb (t2.grow g12) hN2 hC4 (fun k' j' hk' hj'=>zhk fun t ht c hc e1 e2=>⟨c,(by rw[show c=_ from hc];exact zds hok (by omega) hin ht),e1,e2⟩)
   repeat' first|with_reducible intro _|refine sv ?_|((with_reducible first|apply z0c|apply z0a|apply zx);exact gd;exact rfl;exact rfl;(first|exact cf1|exact cf2|exact zal (hpM _ gM12)))|refine ss ?_ ?_<;>(intro h;first|exact sz h|refine sy h ?_)|exact sq|fail
   all_goals try(exfalso;omega)
   refine kf ?_
   rfl
  have hltt:t < ts.length:=by omega
  obtain⟨it,ot,rfl,hrt⟩:=ht.resolve_left (fun h=>by rw[h] at hltt;exact absurd hltt (Nat.not_lt_zero _))
  have rt:=(hrt t hltt).grow gM12
  obtain⟨⟨ta1,ta2⟩,⟨tb1,tb2⟩,-⟩:=hok.tsO _ (List.getElem_mem hltt)
  have hck:=ztv (g:=g) (qs:=qs) (ts:=ts) (t:=t) rfl
  have hhit:=zds hok (by omega) hin (g:=g) hltt
  have hbd:=zi1 hg hhit
  rw[show ts.getD t (0,0)=ts[t] by rw[List.getD_eq_getElem?_getD,List.getElem?_eq_getElem hltt];rfl] at hck hbd
  generalize ts[t]=tt at *
  obtain⟨ta,tb'⟩:=tt
  dsimp only at ta1 ta2 tb1 tb2 hck hbd
  have hqa:ta.toNat < qs.length:=by omega
  have hqb:tb'.toNat < qs.length:=by omega
  obtain⟨iq,oq,rfl,hrq⟩:=hr10.resolve_left (fun h=>by rw[h] at hqa;exact absurd hqa (Nat.not_lt_zero _))
  have ra:=((hrq _ hqa).grow g67).grow g12
  have rb:=((hrq _ hqb).grow g67).grow g12
  have hpa:=hqp _ (List.getElem_mem hqa)
  have hpb:=hqp _ (List.getElem_mem hqb)
  rw[show qs.getD ta.toNat (0,0)=qs[ta.toNat] by rw[List.getD_eq_getElem?_getD,List.getElem?_eq_getElem hqa];rfl,show qs.getD tb'.toNat (0,0)=qs[tb'.toNat] by rw[List.getD_eq_getElem?_getD,List.getElem?_eq_getElem hqb];rfl] at hck hbd
  have cC:=fun M' (hgr:Grow M M')=>zqb (f:=f) (e:=e) (hs.grow hgr) hlc hg hpa hpb (hN.grow hgr)
  generalize qs[ta.toNat]=qa at *
  generalize qs[tb'.toNat]=qb at *
  generalize cellK g (qa,qb)=ck at *
  obtain⟨xa,ya⟩:=qa
  obtain⟨xb,yb⟩:=qb
  have rt:Rd M12 it (ot+t*2) 2 [I ta,I tb']:=rt
  have rt0:Rd1 M12 it (ot+t*2+Int.toNat 0*1) (I ta):=rt.nth (j:=0) rfl
  have rt1:Rd1 M12 it (ot+t*2+Int.toNat 1*1) (I tb'):=rt.nth (j:=1) rfl
  have ra:Rd M12 iq (oq+ta.toNat*2) 2 [I xa,I ya]:=ra
  have rb:Rd M12 iq (oq+tb'.toNat*2) 2 [I xb,I yb]:=rb
  have B12:=hB7.grow g12
  have q12:=B12.2
  have cb:=fun n lo hi M'=>zfq n lo hi M'
  dsimp only[gdv,ptv] at cC
  rw[hNN] at hbd
  clear hhit
  unfold nonK at hbd
  generalize ck.1=z1 at *
  generalize ck.2=z2 at *
  have hnt:=tb.hd.2
  rcases hbd with⟨rfl,rfl⟩|⟨⟨b1,b2⟩,b3,b4⟩
  ·have htq:TbF nt M12 nt k g.cl.length k R (cntF (ownH g qs ts) (t+1)):=by
    rw[show cntF (ownH g qs ts) (t+1)=cntF (ownH g qs ts) t from by funext k' j';rw[hck,if_neg (fun h=>by omega)]]
    exact tb
   (have hrd0:=rt0;have hrd1:=rt1;have hrd2:=ra;have hrd3:=rb;repeat' (first|(with_reducible intro _)|refine sv ?_|((with_reducible first|apply z0c|apply z0a|apply zx);exact gd;exact rfl;exact rfl;(first|exact cb _ _ _ _))|((with_reducible first|apply zp|apply zo|apply zj);exact gd;exact rfl;exact rfl;(first|exact cC _ (xg)))|refine ss ?_ ?_<;>(intro h;first|exact sz h|refine sy h ?_)|exact sq|fail))
   all_goals try(exfalso;omega)
   rename_i hA1 hA2 hA3 M13 s1 s2 nE M14 s3 s4 s5 M15 s6 s7 s8 hB1 hB2
   have g15:Grow M12 M15:=(s1.trans s3.grow).upd s6 (by omega)
   refine zq (ts.length - (t+1)) (by omega) ⟨t+1,rfl,by omega,rfl,.cons rfl (.cons rfl (.cons rfl (.cons rfl (.cons rfl (.cons rfl (.cons rfl .nil)))))),g12.trans g15,htq.grow g15⟩
  ·obtain⟨x,rfl⟩:=Int.eq_ofNat_of_zero_le b1
   obtain⟨y,rfl⟩:=Int.eq_ofNat_of_zero_le b3
   have hx:x < k:=by omega
   have hy:y < g.cl.length:=by omega
   have r1:=tb.rdR hx hx
   have r2:=tb.rdC hx hy
   have hrx:=r2.2
   have hcb:=zhj (H:=ownH g qs ts) t x y
   have htb:=hok.t64
   generalize hv0:cntF (ownH g qs ts) t x y=v0 at *
   (have hrd0:=rt0;have hrd1:=rt1;have hrd2:=ra;have hrd3:=rb;have hrd4:=r1;have hrd5:=r2;repeat' (first|(with_reducible intro _)|refine sv ?_|((with_reducible first|apply z0c|apply z0a|apply zx);exact gd;exact rfl;exact rfl;(first|exact cb _ _ _ _))|((with_reducible first|apply zp|apply zo|apply zj);exact gd;exact rfl;exact rfl;(first|exact cC _ (xg)))|refine ss ?_ ?_<;>(intro h;first|exact sz h|refine sy h ?_)|exact sq|fail))
   all_goals try(exfalso;omega)
   rename_i hA1 hA2 hA3 M13 s1 s2 nE M14 s3 s4 s5 M15 s6 s7 s8 hB1 hB2
   have g15:Grow M12 M15:=(s1.trans s3.grow).upd s6 (by omega)
   have tb15:=tb.grow g15
   refine x_st (by exact gd) rfl rfl (tb15.rw x hx).2.2 rfl rfl (z4l hy) ?_
   intro M16 hu16 e16 a16
   have tb16:TbF nt M16 nt k g.cl.length k R (cntF (ownH g qs ts) (t+1)):=by
    refine TbF.put (v:=v0+1) tb15 hx hu16 fun k' j' h1 h2=>?_
    rw[hck]
    by_cases e:k'=x /\ j'=y
    ·rw[if_pos e,if_pos (by omega),e.1,e.2,hv0]
    ·rw[if_neg e,if_neg (by omega)]
   have g16:Grow M7 M16:=(g12.trans g15).upd hu16 (by have:=(tb15.rw x hx).1;omega)
   clear hu16
   repeat' first|with_reducible intro _|refine sv ?_|refine ss ?_ ?_<;>(intro h;first|exact sz h|refine sy h ?_)|exact sq|fail
   refine zq (ts.length - (t+1)) (by omega) ⟨t+1,rfl,by omega,rfl,.cons rfl (.cons rfl (.cons rfl (.cons rfl (.cons rfl (.cons rfl (.cons rfl .nil)))))),g16,tb16⟩
 have hlt:k < l.length:=by omega
 have htk:l.take (k+1)=l.take k ++ [l[k]]:=List.take_succ_eq_append_getElem hlt
 obtain⟨i7,o7,rfl,hr7⟩:=hrb.resolve_left (fun h=>by rw[h] at hlt;exact absurd hlt (Nat.not_lt_zero _))
 obtain⟨i8,o8,rfl,hr8⟩:=hs3.resolve_left (fun h=>by rw[h] at hlt;exact absurd hlt (Nat.not_lt_zero _))
 have rk7:=(hr7 k hlt).grow g6
 have rk8:=hr8 k hlt
 have hmb:=z7f hmk l[k] (List.getElem_mem hlt)
 have hqk:∀ q,PlP q->q ∈ plsL (nrR far l[k])->∀ j (hj:j <(qs ++ [q]).length) (hj':j < l.length),PlP (qs ++ [q])[j] /\ (qs ++ [q])[j] ∈ plsL (nrR far l[j]):=fun q h1 h2 j hj hj'=>by
  by_cases e:j < qs.length
  ·rw[List.getElem_append_left e];exact hqs j e hj'
  ·obtain rfl:j=k:=by rw[List.length_append,List.length_singleton] at hj;omega
   rw[List.getElem_append_right (by omega)]
   simp only[hql,Nat.sub_self,List.getElem_cons_zero]
   exact⟨h1,h2⟩
 have hmap:((l.take (k+1)).map (nrR far))=(l.take k).map (nrR far) ++ [nrR far l[k]]:=by rw[htk,List.map_append];rfl
 have hnl:((l.take k).map (nrR far)).length=k:=by rw[List.length_map,List.length_take];omega
 generalize hmq:l[k]=mm at *
 obtain⟨m1,x,y,m4⟩:=mm
 have hpl:PlP (x,y):=by
  unfold mkB ptB btB at hmb
  simp only[Bool.and_eq_true,decide_eq_true_eq] at hmb
  show Pl x y
  unfold Pl
  omega
 have rx7:Rd M6 i7 (o7+k*4+1) 2 [I x,I y]:=zj4 rk7
 have rx8:Rd M3 i8 (o8+k*4+1) 2 [I x,I y]:=zj4 rk8
 have co:=fun M' n (hQ:SlQ M' (some (n,0)) [(x,y)])=>c_Of (f:=true) (e:=2) hQ (by simp)
 rw[zp4 hpl] at co
 have crr:=fun M'=>zo2 hpl hfar M'
 have hnr:nrR far (m1,x,y,m4)=(tightO (reachB (x,y) far)).getD zRg:=rfl
 rw[<-hnr] at crr
 have csw:=fun M' (hgr:Grow M M')=>zr1 (t:=((k:Int)+1)) (f:=fb) (e:=eb) hpl hfar (hb.grow hgr) hbl hbi (by omega)
 rw[<-hnr] at csw
 clear hnr
 generalize nrR far (m1,x,y,m4)=nr at *
 dsimp only[resv,rgv] at co crr
 (have hrd0:=rx7;repeat' (first|(with_reducible intro _)|refine sv ?_|((with_reducible first|apply zp|apply zo|apply zj);exact gd;exact rfl;exact rfl;(first|exact co _ _ (zly (p:=(x,y)) (by assumption))|exact crr _))|refine ss ?_ ?_<;>(intro h;first|exact sz h|refine sy h ?_)|exact sq|fail))
 all_goals try(exfalso;omega)
 rename_i h43 nA M7 w1 w2 w3 M8 w4 w5 nB M9 w6 w7 w8 M10 w9 w10 w11 M11 w12 w13 nC M12 w14 w15 w16 M13 w17 w18 w19 nD M14 w20 w21 w22
 have g6D:Grow M6 M14:=(((((w1.grow.trans w4).trans w6.grow).upd w9 (by omega)).trans w12).trans (w14.grow.upd w17 (by omega))).trans w20.grow
 have hlD:=g6D.le
 refine z92 (by exact gd) (l':=[nr]) (hvn.grow g6D) rfl rfl rfl (by simp) (by rw[hnl,List.length_singleton];omega) rfl (zj9 (p:=nr) w20) (fun _=>rfl) (fun _=>rfl) (by omega) ?_
 rintro v15 M15 hvn15 hn15 hk15 ⟨z1,z2,z3,rfl⟩
 rw[<-hmap] at hvn15
 have hvt15:Vec M5.next 2 30 ptc M15 vt qs:=Vec.keepN (hvt.grow g6D) hk15 (fun i hi hn=>hdj i hi.2 hn)
 have B12:At M15 n12 (.cells true [vn,.slice at' ts.length ft et] 111):=hk15.at (A12.grow g6D) (fun hf=>by omega)
 have g15:Grow M3 M15:=Keep.to_grow' (g6.trans g6D) hk15 (fun i hi=>by omega)
 clear w1 w4 w6 w9 w12 w14 w17 w20 w11 w19 co crr
 have hvl:∀ i,NV vt i->i < M14.next:=fun i hi=>NV.lt (hvt.grow g6D) hi
 have g15l:=g15.le
 repeat' first|with_reducible intro _|refine sv ?_|refine ss ?_ ?_<;>(intro h;first|exact sz h|refine sy h ?_)|exact sq|fail
 rename_i M16 y1 y2 y3
 have g16:Grow M3 M16:=g15.upd y1 (by omega)
 have hvn16:Vec M5.next 8 28 rgc M16 (.slice (some (M14.next,0)) z1 z2 z3) ((l.take (k+1)).map (nrR far)):=Vec.keepN hvn15 (F:=fun i=>i=n12) ((Keep.refl _ _).upd y1 (.inl rfl)) (fun i hi hn=>by have:=NV.some hn;omega)
 have hvt16:Vec M5.next 2 30 ptc M16 vt qs:=hvt15.keep (F:=fun i=>i=n12) ((Keep.refl _ _).upd y1 (.inl rfl)) (fun i hi=>by omega)
 have gM16:=g3.trans g16
 have rx16:=rx8.grow g16
 have csw16:=csw M16 gM16
 clear y1 hk15 hvn15 hvt15 B12 csw hvn hvt A12
 (have hrd0:=rx16;repeat' (first|(with_reducible intro _)|refine sv ?_|((with_reducible first|apply zt|apply zz|apply zn);exact gd;exact rfl;exact rfl;(first|exact csw16))|refine ss ?_ ?_<;>(intro h;first|exact sz h|refine sy h ?_)|exact sq|fail))
 all_goals try(exfalso;omega)
 rename_i w17 M17 hq nE M18 x1 x2 x3
 obtain⟨⟨q,rfl,hqs2,hqin⟩,g17⟩:=hq
 obtain⟨qx,qy⟩:=q
 have ccp:=fun M'=>z1h qx qy M'
 have hl17:=g17.le
 have gM17:=gM16.trans g17
 by_cases hq:Pl qx qy
 ·have eq:ePt qx qy=0:=if_pos hq
  rw[eq] at ccp
  repeat' first|with_reducible intro _|refine sv ?_|((with_reducible first|apply zp|apply zo|apply zj);exact gd;exact rfl;exact rfl;(first|exact ccp _))|refine ss ?_ ?_<;>(intro h;first|exact sz h|refine sy h ?_)|exact sq|fail
  all_goals try(exfalso;omega)
  rename_i M19 t1 t2 t3 M20 t4 t5 nF M21 t6 t7 t8
  have g21:Grow M16 M21:=(((g17.trans x1.grow).upd t1 (by omega)).trans t4).trans t6.grow
  have hl21:=g21.le
  refine z92 (by exact gd) (l':=[((qx,qy):Pt)]) (hvt16.grow g21) rfl rfl rfl (by simp) (by rw[hql,List.length_singleton];omega) rfl (zcj (p:=(qx,qy)) t6) (fun _=>rfl) (fun _=>rfl) (by omega) ?_
  rintro v22 M22 hvt22 hn22 hk22 ⟨z4,z5,z6,rfl⟩
  have hvn22:Vec M5.next 8 28 rgc M22 (.slice (some (M14.next,0)) z1 z2 z3) ((l.take (k+1)).map (nrR far)):=Vec.keepN (hvn16.grow g21) hk22 (fun i hi hn=>by have:=NV.some hn;have:=hvl i hi.2;omega)
  have C12:=hk22.at (y3.grow g21) (fun hf=>by omega)
  have g22:Grow M3 M22:=Keep.to_grow' (g16.trans g21) hk22 (fun i hi=>by omega)
  clear x1 t1 t4 t6
  repeat' first|with_reducible intro _|refine sv ?_|refine ss ?_ ?_<;>(intro h;first|exact sz h|refine sy h ?_)|exact sq|fail
  refine zq (l.length - (k+1)) (by omega) ⟨k+1,_,_,qs ++ [(qx,qy)],rfl,by omega,rfl,.cons rfl (.cons rfl (.cons rfl (.cons rfl (.cons rfl (.cons rfl (.cons rfl (.cons rfl (.cons rfl (.cons rfl .nil))))))))),g22,by omega,C12,hvn22,hvt22,fun i h1 h2=>by have:=NV.some h1;have:=NV.some h2;omega,by rw[List.length_append,List.length_singleton,hql],hqk _ hq (hqin hq)⟩
 ·have eq:ePt qx qy=10:=if_neg hq
  rw[eq] at ccp
  repeat' first|with_reducible intro _|refine sv ?_|((with_reducible first|apply zp|apply zo|apply zj);exact gd;exact rfl;exact rfl;(first|exact ccp _))|refine ss ?_ ?_<;>(intro h;first|exact sz h|refine sy h ?_)|exact sq|fail
  all_goals try(exfalso;omega)
  rename_i M19 t1 t2 t3 M20 t4 t5
  have g20:Grow M M20:=((gM17.trans x1.grow).upd t1 (by have:=gM17.le;omega)).trans t4
  repeat' first|with_reducible intro _|refine sv ?_|((with_reducible first|apply z0c|apply z0a|apply zx);exact gd;exact rfl;exact rfl;(first|exact zal (hpM _ g20)))|refine ss ?_ ?_<;>(intro h;first|exact sz h|refine sy h ?_)|exact sq|fail
  refine kf ?_
  rfl
abbrev mkSh:Sh:=.pair (.int .i64) (.pair (.pair (.int .i64) (.int .i64)) (.int .i64))
def toMk(x:mkSh.T):Mk:=(x.1,x.2.1.1,x.2.1.2,x.2.2)
theorem zkx{m:Mem}{l:List mkSh.T}{cs:List LV}(h:Enc m (.sl mkSh 32) l cs):∃ a f,cs=[.slice a (l.map toMk).length f 4] /\ SlM m a (l.map toMk) /\ (l.map toMk).length<=reachBytes:=by
 obtain⟨a,f,h1,h2,h3⟩:=h
 rw[List.length_map]
 by_cases hl:l=[]
 ·subst hl
  exact⟨a,f,h1,.inl rfl,h2.1⟩
 ·obtain⟨i,o,g1,g2,_,g3⟩:=h3 hl
  refine⟨a,f,h1,.inr ⟨i,o,g1,fun k hk=>?_⟩,h2.1⟩
  rw[List.length_map] at hk
  obtain⟨c,g4,c1,c2,rfl,⟨rfl,_⟩,c3,c4,rfl,⟨c5,c6,rfl,⟨rfl,_⟩,⟨rfl,_⟩⟩,⟨rfl,_⟩⟩:=g3 k hk
  rw[List.getElem_map]
  exact⟨g4,g2⟩
abbrev twSh:Sh:=.pair (.int .i64) (.int .i64)
theorem zhr{m:Mem}{l:List twSh.T}{cs:List LV}(h:Enc m (.sl twSh 16) l cs):∃ a f,cs=[.slice a l.length f 2] /\ (l=[] ∨ ∃ i o,a=some (i,o) /\ ∀ k (hk:k < l.length),Rd m i (o+k*2) 2 [I l[k].1,I l[k].2]) /\ l.length<=reachBytes:=by
 obtain⟨a,f,h1,h2,h3⟩:=h
 by_cases hl:l=[]
 ·subst hl
  exact⟨a,f,h1,.inl rfl,h2.1⟩
 ·obtain⟨i,o,g1,g2,_,g3⟩:=h3 hl
  refine⟨a,f,h1,.inr ⟨i,o,g1,fun k hk=>?_⟩,h2.1⟩
  obtain⟨c,g4,c1,c2,rfl,⟨rfl,_⟩,⟨rfl,_⟩⟩:=g3 k hk
  exact⟨g4,g2⟩
abbrev gdSh:Sh:=.pair (.pair (.int .i64) (.int .i64)) (.pair (.int .i64) (.pair (.int .i64) (.pair (.int .i64) (.sl twSh 16))))
theorem zr7{m:Mem}{x:gdSh.T}{cs:List LV}(h:Enc m gdSh x cs):∃(g:Gd) (ca:Option (Nat × Nat)) (f:Bool) (e:Nat),cs=gdc g ca f e /\ SlC m ca g.cl /\ g.cl.length<=reachBytes:=by
 obtain⟨c1,c2,rfl,⟨c3,c4,rfl,⟨rfl,_⟩,⟨rfl,_⟩⟩,c5,c6,rfl,⟨rfl,_⟩,c7,c8,rfl,⟨rfl,_⟩,c9,c10,rfl,⟨rfl,_⟩,hq⟩:=h
 obtain⟨a,f,rfl,h1,h2⟩:=zhr hq
 exact⟨⟨_,_,_,_,_,_⟩,a,f,2,rfl,h1,h2⟩
abbrev prSh:Sh:=.pair (.sl twSh 16) (.sl (.int .i64) 8)
theorem zok{m:Mem}{x:prSh.T}{cs:List LV}(h:Enc m prSh x cs):∃(ts:List (Int × Int)) (bs:List Int) (at' ab:Option (Nat × Nat)) (ft fb:Bool),cs=[.slice at' ts.length ft 2,.slice ab bs.length fb 1] /\ SlA 2 trc m at' ts /\ ts.length<=reachBytes /\ SlI m ab bs /\ bs.length<=reachBytes /\ ∀ v ∈ bs,I64 v:=by
 obtain⟨c1,c2,rfl,h1,h2⟩:=h
 obtain⟨a,f,rfl,g1,g2⟩:=zhr h1
 obtain⟨b,f',rfl,g3,g4,g5⟩:=zkw h2
 exact⟨_,_,a,b,f,f',rfl,g1,g2,g3,g4,fun v hv=>g5 v hv⟩
def tabsM:Tab:=[(0,intsL .i64 zs1,0),(1,intsL .i64 zs0,0),(2,[.iface 495 .unk],0),(4,intsL .u64 zs2,0),(8,intsL .u8 zs5,0)]
theorem zm8:tabsOk tabsM=true:=by kernel_rfl
theorem ze4:tabsM.Pairwise (fun x y=>x.1 ≠ y.1):=by decide
theorem zgs{W:World}{name:String}{g:Nat}{t ty:TypeId}{v:Value}{l:Tab}(h:W.var? Tryz.prog name=some #[.iface t v])(hg:Tryz.prog.globalNamed name=some g)(hl:TabW l W):TabW ((g,[.iface t .unk],ty) :: l) W:=fun x hx=>by
 rcases List.mem_cons.1 hx with rfl|hx
 ·unfold World.var? at h
  rw[hg] at h
  have h:(match W.heap[g]? with|some (.cells cs _ _)=>some cs|_=>none)=some #[.iface t v]:=h
  split at h
  ·rename_i cs t' fr hh
   cases h
   refine⟨_,t',fr,hh,fun i u hi=>?_⟩
   match i,hi with
   | 0,hi =>
    cases hi
    exact⟨_,rfl,.iface (.unk v)⟩
  ·cases h
 ·exact hl x hx
theorem z7g{m:Mem}{x:Nat × List LV × TypeId}{l:Tab}(h:preOk m (x :: l)=true):cellsAre (m.get x.1) x.2.1 x.2.2=true /\ preOk m l=true:=Bool.and_eq_true _ _ ▸ h
theorem zj1{m:Mem}{x:Nat × List LV × TypeId}{l:Tab}(h:cellsAre (m.get x.1) x.2.1 x.2.2=true)(h':preOk m l=true):preOk m (x :: l)=true:=by
 show(cellsAre (m.get x.1) x.2.1 x.2.2 && preOk m l)=true
 rw[h,h'];rfl
theorem zlm{m:Mem}(h:preOk m tabsM=true):preOk m tabsT=true:=zj1 (z7g h).1 (z7g (z7g (z7g h).2).2).2
theorem zr9{M:Mem}(hB:Base M)(hp:preOk M tabsM=true):ES M:=by
 obtain⟨own,h⟩:=z2s tabsM hp (2,[.iface 495 .unk],0) (by unfold tabsM;simp only[List.mem_cons,true_or,or_true])
 exact⟨own,h,hB _ _ h⟩
theorem zp8{M:Mem}(hB:Base M)(hp:preOk M tabsM=true):P10 M:=by
 obtain⟨own,h⟩:=z2s tabsM hp (4,intsL .u64 zs2,0) (by unfold tabsM;simp only[List.mem_cons,true_or,or_true])
 exact⟨own,h,hB _ _ h⟩
theorem zoh{M:Mem}(hB:Base M)(hp:preOk M tabsM=true):D64 M:=by
 obtain⟨own,h⟩:=z2s tabsM hp (8,intsL .u8 zs5,0) (by unfold tabsM;simp only[List.mem_cons,true_or,or_true])
 exact⟨own,h,hB _ _ h⟩
theorem zp0{M:Mem}(hB:Base M)(hp:preOk M tabsM=true):NonM M:=by
 obtain⟨own,h⟩:=z2s tabsM hp (1,intsL .i64 zs0,0) (by unfold tabsM;simp only[List.mem_cons,true_or,or_true])
 exact⟨own,h,hB _ _ h⟩
theorem ztp{m:Mem}{g:Gd}{ca:Option (Nat × Nat)}{f:Bool}{e:Nat}{al ab at':Option (Nat × Nat)}{fl fb ft:Bool}{L:List Mk}{bs:List Int}{ts:List (Int × Int)}(hs:SlC m ca g.cl)(hlc:g.cl.length<=reachBytes)(hm:SlM m al L)(hml:L.length<=reachBytes)(ht:SlA 2 trc m at' ts)(htl:ts.length<=reachBytes)(hb:SlI m ab bs)(hbl:bs.length<=reachBytes)(hbi:∀ v ∈ bs,I64 v)(hB:Base m)(hp:preOk m tabsM=true) :
  CallN Tryz.prog 7 [.agg (gdc g ca f e),.slice al L.length fl 4,.agg [.slice at' ts.length ft 2,.slice ab bs.length fb 1]] m (fun v _=>v=.bool true) :=
 zd2 hs (Nat.le_trans hlc (by decide)) hm (Nat.le_trans hml (by decide)) ht (Nat.le_trans htl (by decide)) hb (Nat.le_trans hbl (by decide)) hbi (zp0 hB hp) (zr9 hB hp) (zp8 hB hp) (zoh hB hp) hB (zlm hp)
