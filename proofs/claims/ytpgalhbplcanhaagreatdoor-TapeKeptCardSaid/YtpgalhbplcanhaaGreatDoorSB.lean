/-
 Part of the proof of TapeKept. No condition beyond those in each theorem.
-/
import Derived.Test.YtpgalhbplcanhaaGreatDoorSA
import Derived.Test.YtpgalhbplcanhaaGreatDoorTX
import Derived.Test.YtpgalhbplcanhaaGreatDoorPvH
import Derived.Test.YtpgalhbplcanhaaGreatDoorPvG
import Derived.Test.YtpgalhbplcanhaaGreatDoorTW
set_option linter.unusedVariables false
set_option linter.unusedSimpArgs false
section
open Go PvL Go.Proofs
namespace Go.Proofs.YtpgalhbplcanhaaGreatDoor.C
theorem zx7(a a' b b':Int)(M:Mem):zc Tryz.prog 346 [.agg [I a,I a'],.agg [I b,I b']] M (fun w M'=>w=.bool (decide (a<b))/\Grow M M'):=by
 refine zd Y346.2 rfl ?_
 delta Y346;refine un ?_
 refine Wh ?_;intros
 refine kf ?_
 exact⟨rfl,xg⟩
theorem zx8(a a' b b':Int)(M:Mem):zc Tryz.prog 347 [.agg [I a,I a'],.agg [I b,I b']] M (fun w M'=>w=.bool (decide (b'<a'))/\Grow M M'):=by
 refine zd Y347.2 rfl ?_
 delta Y347;refine un ?_
 refine Wh ?_;intros
 refine kf ?_
 exact⟨rfl,xg⟩
set_option maxHeartbeats 2000000 in
theorem zk2{gf hf:FuncId}{ca:List LV}{S:Nat->Prop}{bs:List Bnd}{P:Bnd->Bnd->Bool}{M0:Mem}
  (hy:∀ M',Grow M0 M'->PvL.Yields Tryz.prog gf [] ca S (bs.map fun b=>[bdv b]) M') (hS:∀ i,S i->i<M0.next)
  (Y:∀ a a' b b' M,zc Tryz.prog hf [.agg [I a,I a'],.agg [I b,I b']] M (fun w M'=>w=.bool (P (a,a') (b,b'))/\Grow M M')) :
  zc Tryz.prog 345 [.func (.func gf) [] ca,.func (.func hf) [] []] M0 (fun w M'=>(∃(a b:Int) (e:Bool),w=.tup [.agg [I a,I b],.bool e])/\Grow M0 M'):=by
 refine zd Y345.2 rfl ?_
 delta Y345;refine un ?_
 refine Wh ?_;intro n3 M1 u1 u2 u3 H M2 u4 u5 u6 U D u7 u8 u9
 have A3:At D n3 (.cells true [.func (.func hf) [] []] 506):=xm
 have A4:At D H (.cells true [I 0,I 0] 26):=xm
 have A5:At D U (.cells true [.bool false] 4):=xm
 have g3:Grow M0 D:=xg
 apply zeo
 exact rfl
 intro lb d l M4 N R G e5 e6 B e7 e8
 have X:Grow M0 N:=xg
 have B3:=At.new_old B (At.new_old G A3)
 have B4:=At.new_old B (At.new_old G A4)
 have B5:=At.new_old B (At.new_old G A5)
 have Bnd:=At.new_old B (At.new_same G)
 have Bl:=At.new_same B
 refine(hy N X l (fun i=>M0.next<=i/\i<N.next)
  (fun _ M=>(∃ a b e,At M H (.cells true [I a,I b] 26)/\At M U (.cells true [.bool e] 4))/\At M n3 (.cells true [.func (.func hf) [] []] 506)/\At M l (lb .ready none)/\At M d .defr)
  (fun _=>False) ?_ ?_ ?_ ?_ ?_ ⟨⟨0,0,false,B4,B5⟩,B3,Bl,Bnd⟩).mono ?_
 ·rintro i ⟨F,r⟩;exact r
 ·intro i A h;have:=hS i A;omega
 ·rintro q M M' ⟨⟨a,b,e,F,r⟩,Q,u,h5⟩ m o
  exact⟨⟨a,b,e,F.same m (o _ (by omega)),r.same m (o _ (by omega))⟩,Q.same m (o _ (by omega)),u.same m (o _ (by omega)),h5.same m (o _ (by omega))⟩
 ·intro M M' h;exact h.elim
 ·rintro q x hx M' m ⟨⟨a,b,e,F,r⟩,Q,u,h5⟩
  rw[List.getElem?_map] at hx
  obtain⟨y,-,rfl⟩:=Option.map_eq_some_iff.1 hx
  obtain⟨y1,y2⟩:=y
  show RoundOk Tryz.prog l [.agg [I y1,I y2]] M' _
  refine z5e R u rfl ?_
  dsimp only[zipP]
  cases e with
  | false=>
   repeat' first|with_reducible intro _|refine sv ?_|((with_reducible first|apply zw|apply zx|apply zm);exact gd;exact rfl;exact rfl;(first|exact Y _ _ _ _ _))|refine ss ?_ ?_<;>(intro h;first|exact sz h|refine sy h ?_)|exact sq|fail
   all_goals exact⟨xk,.inl ⟨rfl,⟨_,_,_,xm,xm⟩,xm,xm,xm⟩⟩
  | true=>
   repeat' first|with_reducible intro _|refine sv ?_|((with_reducible first|apply zw|apply zx|apply zm);exact gd;exact rfl;exact rfl;(first|exact Y y1 y2 a b _))|refine ss ?_ ?_<;>(intro h;first|exact sz h|refine sy h ?_)|exact sq|fail
   all_goals exact⟨xk,.inl ⟨rfl,⟨_,_,_,xm,xm⟩,xm,xm,xm⟩⟩
 ·rintro v M6 ⟨p,⟨⟨a,b,e,F,r⟩,Q,u,h5⟩|h⟩
  ·have a0:Grow M0 M6:=(Grow.to_keep X (fun _=>False) |>.trans p (fun i A=>.inr A.1)).to_grow (fun i A=>A.elim)
   have Z:=p.le
   clear p
   refine z9c u (by simp) fun M7 hu e9 a9=>?_
   refine Wh ?_;intro M8 a1 a2 a3 O a5 a6 V
   have a4:At O H (.cells true [I a,I b] 26):=xm
   have g9:Grow M0 O:=xg
   refine z1y (.inr rfl) (by simp) (by intro z hz;obtain rfl:=List.mem_singleton.1 hz;exact xm) (fun J C=>?_)
   have C:Unmark [d] O J:=C
   have q4:H<d:=by omega
   have q5:U<d:=by omega
   have q0:M0.next<=d:=by omega
   exact⟨_,.cellN rfl (Rd.of_at (a4.unmark C (fun h=>by have:=List.mem_singleton.1 h;omega)) rfl).1 (.cell1 rfl (Rd1.of_at (V.unmark C (fun h=>by have:=List.mem_singleton.1 h;omega)) rfl).1 .nil),⟨_,_,_,rfl⟩,Grow.unmark g9 C (fun z hz=>by obtain rfl:=List.mem_singleton.1 hz;omega)⟩
  ·exact h.elim
theorem zi7(r:Rg)(N:Sm 1000000 r)(M:Mem):zc Tryz.prog 306 [rgv r,.agg [I 0,I 0]] M (fun w M'=>(∃(a b:Int) (e:Bool),w=.tup [.agg [I a,I b],.bool e])/\Grow M M'):=by
 refine zd Y306.2 rfl ?_
 delta Y306;refine un ?_
 refine Wh ?_;intro p R u1 u2 u3 u U u4 u5 u6 n4 B u7 u8 u9
 have y:At B p (.cells true (rgc r) 208):=xm
 have A:At B u (.cells true [I 0,I 0] 30):=xm
 have G:=fun M' (o:Grow B M')=>zk2 (gf:=344) (hf:=346) (ca:=[.ptr (some (p,0)),.ptr (some (u,0))]) (S:=fun i=>i=p∨i=u) (bs:=(rowsL r).map sqN) (P:=fun a b=>decide (a.1<b.1)) (M0:=M')
  (fun C m=>by rw[List.map_map];exact y_sq r N ((y.grow o).grow m) ((A.grow o).grow m)) (fun i Q=>by have:=o.le;have:=y.2;have:=A.2;omega) (fun a D b F M=>zx7 a D b F M)
 have H:=fun M' (o:Grow B M')=>zk2 (gf:=344) (hf:=347) (ca:=[.ptr (some (p,0)),.ptr (some (u,0))]) (S:=fun i=>i=p∨i=u) (bs:=(rowsL r).map sqN) (P:=fun a b=>decide (b.2<a.2)) (M0:=M')
  (fun C m=>by rw[List.map_map];exact y_sq r N ((y.grow o).grow m) ((A.grow o).grow m)) (fun i Q=>by have:=o.le;have:=y.2;have:=A.2;omega) (fun a D b F M=>zx8 a D b F M)
 refine Wlh @G ?_;intro w V J
 obtain⟨⟨a1,a2,a3,rfl⟩,g4⟩:=J
 have l4:=g4.le
 refine Wlh @H ?_;intro n7 X v1 v2 v3 Y v4 v5 v6 w Z J
 obtain⟨⟨b1,b2,b3,rfl⟩,O⟩:=J
 have l7:=O.le
 refine Wh ?_;intros
 refine kf ?_
 exact⟨⟨_,_,_,rfl⟩,xg⟩
theorem zv5{B:Int}{a b:Rg}(h:Sm B a)(m:Sm B b):Sm (2*B) (map4 mnsB a b):=by
 unfold Sm at *
 unfold map4 mnsB
 dsimp only
 omega
set_option maxHeartbeats 2000000 in
theorem zuo(a b:Rg)(M:Mem):zc Tryz.prog 305 [rgv a,rgv b] M (fun w M'=>(∃(x y:Rg) (e:Int),w=.tup [rgv x,rgv y,I e]/\Sm 500000 x/\Sm 500000 y)/\Grow M M'):=by
 have hz:Sm 500000 zRg:=by unfold Sm zRg;dsimp only;omega
 refine zd Y305.2 rfl ?_
 delta Y305;refine un ?_
 by_cases m:RgOk a/\RgOk b
 ·have A:eRg a=0:=if_pos m.1
  have p:eRg b=0:=if_pos m.2
  have r:(if eRg a=0 then eRg b else eRg a)=0:=by rw[A,p];rfl
  have B:=(z8a m.1.sm).mono (by omega:(4*65536:Int)<=500000)
  have C:=(z8a m.2.sm).mono (by omega:(4*65536:Int)<=500000)
  have D:=fun M'=>z71 a (m.1.sm.mono (by omega:(65536:Int)<=500000)) M'
  have F:=fun M'=>z71 b (m.2.sm.mono (by omega:(65536:Int)<=500000)) M'
  generalize (tightO a).getD zRg=x at *
  generalize (tightO b).getD zRg=y at *
  generalize eTi a=G at *
  generalize eTi b=H at *
  repeat' first|with_reducible intro _|refine sv ?_|((with_reducible first|apply z01|apply z05|apply zr);exact gd;exact rfl;exact rfl;(first|exact z83 _ _ (Rd1.of_at (At.new_same (by assumption)) rfl) (Rd1.of_at (At.new_same (by assumption)) rfl)))|((with_reducible first|apply zw|apply zx|apply zm);exact gd;exact rfl;exact rfl;(first|exact z2v a _|exact z2v b _|exact z3v a _|exact z3v b _|exact D _|exact F _))|refine ss ?_ ?_<;>(intro h;first|exact sz h|refine sy h ?_)|exact sq|fail
  all_goals (refine kf ?_)
  all_goals first
   | exact⟨⟨x,y,_,rfl,B,C⟩,xg⟩
   | exact⟨⟨zRg,zRg,_,rfl,hz,hz⟩,xg⟩
 ·have r:(if eRg a=0 then eRg b else eRg a)=11:=by
   unfold eRg
   by_cases o:RgOk a
   ·rw[if_pos o,if_pos rfl,if_neg (fun u=>m ⟨o,u⟩)]
   ·rw[if_neg o];rfl
  repeat' first|with_reducible intro _|refine sv ?_|((with_reducible first|apply z01|apply z05|apply zr);exact gd;exact rfl;exact rfl;(first|exact z83 _ _ (Rd1.of_at (At.new_same (by assumption)) rfl) (Rd1.of_at (At.new_same (by assumption)) rfl)))|((with_reducible first|apply zw|apply zx|apply zm);exact gd;exact rfl;exact rfl;(first|exact z2v a _|exact z2v b _))|refine ss ?_ ?_<;>(intro h;first|exact sz h|refine sy h ?_)|exact sq|fail
  all_goals (refine kf ?_)
  all_goals exact⟨⟨zRg,zRg,_,rfl,hz,hz⟩,xg⟩
theorem zpw(a b:Rg)(M:Mem):zc Tryz.prog 242 [rgv a,rgv b] M (fun w M'=>(∃ x y e:Int,w=.tup [.agg [I x,I y],I e])/\Grow M M'):=by
 refine zd Y242.2 rfl ?_
 delta Y242;refine un ?_
 repeat' first|with_reducible intro _|refine sv ?_|((with_reducible first|apply zk|apply zp|apply zh);exact gd;exact rfl;exact rfl;(first|exact zuo a b _))|refine ss ?_ ?_<;>(intro h;first|exact sz h|refine sy h ?_)|exact sq|fail
 rename_i w C m
 obtain⟨⟨x,y,e,rfl,o,p⟩,g4⟩:=m
 have J:=g4.le
 have r:=fun M'=>zad x y (o.mono (by omega)) (p.mono (by omega)) M'
 have u:=fun M'=>zi7 (map4 mnsB x y) ((zv5 o p).mono (by omega)) M'
 by_cases B:e=0
 ·subst B
  repeat' first|with_reducible intro _|refine sv ?_|((with_reducible first|apply zw|apply zx|apply zm);exact gd;exact rfl;exact rfl;(first|exact r _))|((with_reducible first|apply zk|apply zp|apply zh);exact gd;exact rfl;exact rfl;(first|exact u _))|refine ss ?_ ?_<;>(intro h;first|exact sz h|refine sy h ?_)|exact sq|fail
  all_goals try(exfalso;omega)
  rename_i w D m
  obtain⟨⟨F,G,H,rfl⟩,A⟩:=m
  have N:=A.le
  refine Wh ?_;intros
  refine kf ?_
  exact⟨⟨_,_,_,rfl⟩,xg⟩
 ·refine Wg ?_;intros
  refine kf ?_
  exact⟨⟨_,_,_,rfl⟩,xg⟩
def OcC(gf:FuncId):Prop:=∀(s r:Rg) (m h:Int) (p:Nat) (M:Mem),Sm 1000000 s->(-1000<=m/\m<=1000)->(-1000<=h/\h<=1000)->At M p (.cells true (rgc r) 28) ->
 zc Tryz.prog gf [.agg (rgc s++[I m,I h]),.ptr (some (p,0))] M (fun _ M'=>(∃ o:Rg,At M' p (.cells true (rgc o) 28))/\Keep (fun i=>i=p) M M')
theorem zww:OcC 392:=by
 intro s r y u p M o U V m
 obtain⟨⟨J,N⟩,⟨sc,O⟩,⟨Q,R⟩,sg,S⟩:=s
 obtain⟨⟨A,B⟩,⟨C,rd⟩,⟨D,F⟩,G,H⟩:=r
 unfold Sm at o
 dsimp only at o
 have m:At M p (.cells true [I A,I B,I C,I rd,I D,I F,I G,I H] 28):=m
 show zc Tryz.prog 392 [.agg [I J,I N,I sc,I O,I Q,I R,I sg,I S,I y,I u],.ptr (some (p,0))] M _
 refine zd Y392.2 rfl ?_
 delta Y392;refine un ?_
 have w:=m.2
 refine Wh ?_;intros
 refine kf ?_
 exact⟨⟨((_,_),(_,_),(_,_),_,_),by assumption⟩,xk⟩
theorem zwx:OcC 394:=by
 intro s r y u p M o U V m
 obtain⟨⟨J,N⟩,⟨sc,O⟩,⟨Q,R⟩,sg,S⟩:=s
 obtain⟨⟨A,B⟩,⟨C,rd⟩,⟨D,F⟩,G,H⟩:=r
 unfold Sm at o
 dsimp only at o
 have m:At M p (.cells true [I A,I B,I C,I rd,I D,I F,I G,I H] 28):=m
 show zc Tryz.prog 394 [.agg [I J,I N,I sc,I O,I Q,I R,I sg,I S,I y,I u],.ptr (some (p,0))] M _
 refine zd Y394.2 rfl ?_
 delta Y394;refine un ?_
 have w:=m.2
 refine Wh ?_;intros
 refine kf ?_
 exact⟨⟨((_,_),(_,_),(_,_),_,_),by assumption⟩,xk⟩
theorem zwy:OcC 395:=by
 intro s r y u p M o U V m
 obtain⟨⟨J,N⟩,⟨sc,O⟩,⟨Q,R⟩,sg,S⟩:=s
 obtain⟨⟨A,B⟩,⟨C,rd⟩,⟨D,F⟩,G,H⟩:=r
 unfold Sm at o
 dsimp only at o
 have m:At M p (.cells true [I A,I B,I C,I rd,I D,I F,I G,I H] 28):=m
 show zc Tryz.prog 395 [.agg [I J,I N,I sc,I O,I Q,I R,I sg,I S,I y,I u],.ptr (some (p,0))] M _
 refine zd Y395.2 rfl ?_
 delta Y395;refine un ?_
 have w:=m.2
 refine Wh ?_;intros
 refine kf ?_
 exact⟨⟨((_,_),(_,_),(_,_),_,_),by assumption⟩,xk⟩
theorem zwz:OcC 396:=by
 intro s r y u p M o U V m
 obtain⟨⟨J,N⟩,⟨sc,O⟩,⟨Q,R⟩,sg,S⟩:=s
 obtain⟨⟨A,B⟩,⟨C,rd⟩,⟨D,F⟩,G,H⟩:=r
 unfold Sm at o
 dsimp only at o
 have m:At M p (.cells true [I A,I B,I C,I rd,I D,I F,I G,I H] 28):=m
 show zc Tryz.prog 396 [.agg [I J,I N,I sc,I O,I Q,I R,I sg,I S,I y,I u],.ptr (some (p,0))] M _
 refine zd Y396.2 rfl ?_
 delta Y396;refine un ?_
 have w:=m.2
 refine Wh ?_;intros
 refine kf ?_
 exact⟨⟨((_,_),(_,_),(_,_),_,_),by assumption⟩,xk⟩
theorem zx0:OcC 397:=by
 intro s r y u p M o U V m
 obtain⟨⟨J,N⟩,⟨sc,O⟩,⟨Q,R⟩,sg,S⟩:=s
 obtain⟨⟨A,B⟩,⟨C,rd⟩,⟨D,F⟩,G,H⟩:=r
 unfold Sm at o
 dsimp only at o
 have m:At M p (.cells true [I A,I B,I C,I rd,I D,I F,I G,I H] 28):=m
 show zc Tryz.prog 397 [.agg [I J,I N,I sc,I O,I Q,I R,I sg,I S,I y,I u],.ptr (some (p,0))] M _
 refine zd Y397.2 rfl ?_
 delta Y397;refine un ?_
 have w:=m.2
 refine Wh ?_;intros
 refine kf ?_
 exact⟨⟨((_,_),(_,_),(_,_),_,_),by assumption⟩,xk⟩
theorem zx1:OcC 398:=by
 intro s r y u p M o U V m
 obtain⟨⟨J,N⟩,⟨sc,O⟩,⟨Q,R⟩,sg,S⟩:=s
 obtain⟨⟨A,B⟩,⟨C,rd⟩,⟨D,F⟩,G,H⟩:=r
 unfold Sm at o
 dsimp only at o
 have m:At M p (.cells true [I A,I B,I C,I rd,I D,I F,I G,I H] 28):=m
 show zc Tryz.prog 398 [.agg [I J,I N,I sc,I O,I Q,I R,I sg,I S,I y,I u],.ptr (some (p,0))] M _
 refine zd Y398.2 rfl ?_
 delta Y398;refine un ?_
 have w:=m.2
 refine Wh ?_;intros
 refine kf ?_
 exact⟨⟨((_,_),(_,_),(_,_),_,_),by assumption⟩,xk⟩
theorem zx2:OcC 399:=by
 intro s r y u p M o U V m
 obtain⟨⟨J,N⟩,⟨sc,O⟩,⟨Q,R⟩,sg,S⟩:=s
 obtain⟨⟨A,B⟩,⟨C,rd⟩,⟨D,F⟩,G,H⟩:=r
 unfold Sm at o
 dsimp only at o
 have m:At M p (.cells true [I A,I B,I C,I rd,I D,I F,I G,I H] 28):=m
 show zc Tryz.prog 399 [.agg [I J,I N,I sc,I O,I Q,I R,I sg,I S,I y,I u],.ptr (some (p,0))] M _
 refine zd Y399.2 rfl ?_
 delta Y399;refine un ?_
 have w:=m.2
 refine Wh ?_;intros
 refine kf ?_
 exact⟨⟨((_,_),(_,_),(_,_),_,_),by assumption⟩,xk⟩
theorem zx3:OcC 400:=by
 intro s r y u p M o U V m
 obtain⟨⟨J,N⟩,⟨sc,O⟩,⟨Q,R⟩,sg,S⟩:=s
 obtain⟨⟨A,B⟩,⟨C,rd⟩,⟨D,F⟩,G,H⟩:=r
 unfold Sm at o
 dsimp only at o
 have m:At M p (.cells true [I A,I B,I C,I rd,I D,I F,I G,I H] 28):=m
 show zc Tryz.prog 400 [.agg [I J,I N,I sc,I O,I Q,I R,I sg,I S,I y,I u],.ptr (some (p,0))] M _
 refine zd Y400.2 rfl ?_
 delta Y400;refine un ?_
 have w:=m.2
 refine Wh ?_;intros
 refine kf ?_
 exact⟨⟨((_,_),(_,_),(_,_),_,_),by assumption⟩,xk⟩
def ocs:List LV:=[.func (.func 392) [] [],.func (.func 394) [] [],.func (.func 395) [] [],.func (.func 396) [] [],.func (.func 397) [] [],.func (.func 398) [] [],.func (.func 399) [] [],.func (.func 400) [] []]
def OcM(M:Mem):Prop:=∃ own,At M 6 (.cells own ocs 0)
theorem OcM.grow{M M':Mem}(h:OcM M)(m:Grow M M'):OcM M':=let ⟨own,h⟩:=h;⟨own,h.grow m⟩
theorem OcM.rd{M:Mem}(h:OcM M){k:Nat}(m:k<8):∃ gf,Rd1 M 6 (0+k*1) (.func (.func gf) [] [])/\OcC gf:=by
 obtain⟨own,h⟩:=h
 match k,m with
 | 0,_=>exact⟨392,Rd1.of_at h rfl,zww⟩
 | 1,_=>exact⟨394,Rd1.of_at h rfl,zwx⟩
 | 2,_=>exact⟨395,Rd1.of_at h rfl,zwy⟩
 | 3,_=>exact⟨396,Rd1.of_at h rfl,zwz⟩
 | 4,_=>exact⟨397,Rd1.of_at h rfl,zx0⟩
 | 5,_=>exact⟨398,Rd1.of_at h rfl,zx1⟩
 | 6,_=>exact⟨399,Rd1.of_at h rfl,zx2⟩
 | 7,_=>exact⟨400,Rd1.of_at h rfl,zx3⟩
 | k+8,m=>exact absurd m (by omega)
end Go.Proofs.YtpgalhbplcanhaaGreatDoor.C
end
section
open Go PvL
namespace Go.Proofs.YtpgalhbplcanhaaGreatDoor.C
variable {sz n k:Nat}
theorem zft:∀ l:List LV,z0t l 0 []=some l
 | []=>rfl
 | _::_=>rfl
theorem za3:∀(vs rest m:List LV),m.length=vs.length->z0t (vs++rest) 0 m=some (m++rest)
 | [],rest,[],_=>by rw[List.nil_append];exact zft _
 | v::vs,rest,w::m,h=>by
  show ob (z0t (vs++rest) 0 m) (fun l=>some (w::l))=_
  rw[za3 vs rest m (by simpa using h)]
  rfl
theorem z60:∀(pre l vs:List LV) (k:Nat) (r:List LV),z0t l k vs=some r->vs≠[]->z0t (pre++l) (pre.length+k) vs=some (pre++r)
 | [],l,vs,k,r,h,_=>by rw[List.length_nil,Nat.zero_add];exact h
 | p::pre,l,[],k,r,h,m=>absurd rfl m
 | p::pre,l,v::vs,k,r,h,m=>by
  rw[show(p::pre).length+k=(pre.length+k)+1 from by rw[List.length_cons];omega]
  show ob (z0t (pre++l) (pre.length+k) (v::vs)) (fun l=>some (p::l))=_
  rw[z60 pre l (v::vs) k r h m]
  rfl
theorem z7x {α:Type}{enc:α->List LV}(m:∀ x,(enc x).length=sz)(o:0<sz):∀(l:List α) (k:Nat) (v:α),k<l.length->z0t (l.flatMap enc) (k*sz) (enc v)=some ((l.set k v).flatMap enc)
 | [],k,v,h=>absurd h (Nat.not_lt_zero _)
 | x::l,0,v,h=>by
  rw[Nat.zero_mul,List.set_cons_zero,List.flatMap_cons,List.flatMap_cons]
  exact za3 _ _ _ (by rw[m,m])
 | x::l,k+1,v,h=>by
  rw[List.set_cons_succ,List.flatMap_cons,List.flatMap_cons,show(k+1)*sz=(enc x).length+k*sz from by rw[m,Nat.add_mul,Nat.one_mul,Nat.add_comm]]
  refine z60 _ _ _ _ _ (z7x m o l k v (by simpa using h)) fun p=>?_
  have:=m v
  rw[p] at this
  simp at this
  omega
def tabL {α:Type}(enc:α->List LV)(G:Nat->α)(n:Nat):List LV:=((List.range n).map G).flatMap enc
theorem zp2 {α:Type}{enc:α->List LV}(m:∀ x,(enc x).length=sz)(p:0<sz){G G':Nat->α}(u:k<n)(h:∀ i,i<n->i≠k->G' i=G i):z0t (tabL enc G n) (k*sz) (enc (G' k))=some (tabL enc G' n):=by
 unfold tabL
 rw[z7x m p _ _ _ (by simpa using u)]
 congr 2
 refine List.ext_getElem (by simp) fun i w r=>?_
 rw[List.getElem_set]
 by_cases o:k=i
 ·subst o;simp
 ·rw[if_neg o]
  simp only[List.getElem_map,List.getElem_range]
  exact(h i (by simpa using r) (fun h=>o h.symm)).symm
theorem zt3 {α:Type}{enc:α->List LV}(h:∀ x,(enc x).length=sz){G:Nat->α}{M:Mem}{i:Nat}{own:Bool}{ty:TypeId}(m:At M i (.cells own (tabL enc G n) ty))(o:k<n):Rd M i (0+k*sz) sz (enc (G k)):=by
 have:=z18 (enc:=enc) (l:=(List.range n).map G) (sz:=sz) m (fun x _=>h x) (k:=k) (by simpa using o)
 simpa using this
end Go.Proofs.YtpgalhbplcanhaaGreatDoor.C
end
section
open PvL Go
namespace Go.Proofs.YtpgalhbplcanhaaGreatDoor.C
variable {M M':Mem} {a:Option (Nat × Nat)} {l:List Int}
def SlI (M:Mem)(a:Option (Nat×Nat))(l:List Int):Prop:=l=[] ∨ ∃ i o,a=some (i,o) /\ ∀ k (h:k<l.length),Rd1 M i (o+k*1) (I l[k])
theorem SlI.grow (h:SlI M a l)(r:Grow M M'):SlI M' a l :=
 h.imp id fun⟨i,o,m,p⟩=>⟨i,o,m,fun k u=>(p k u).grow r⟩
theorem SlI.rd (h:SlI M a l){k:Nat}(m:k<l.length):∃ i o,a=some (i,o)/\Rd1 M i (o+k*1) (I l[k]):=by
 rcases h with rfl|⟨i,o,p,r⟩
 ·exact absurd m (Nat.not_lt_zero _)
 ·exact⟨i,o,p,r k m⟩
abbrev intc (n:Int):List LV:=[I n]
theorem z9y {i o:Nat}{v:LV}(h:Rd M i o 1 [v]):Rd1 M i o v:=by
 have:=Rd.nth (j:=0) h (v:=v) rfl
 simpa using this
theorem SlI.vec {b:Nat}{ty:TypeId}{v:LV}(h:Vec b 1 ty intc M v l):∃ a f e,v=.slice a l.length f e/\SlI M a l:=by
 obtain⟨a,f,e,m,p⟩:=h.rd (fun _ _=>rfl)
 refine⟨a,f,e,m,p.imp id fun⟨i,o,r,u⟩=>⟨i,o,r,fun k w=>z9y (u k w)⟩⟩
abbrev Fr:=Int×Int×List Int
def FrV (M:Mem)(v:LV)(x:Fr):Prop:=∃ a f e,v=.agg [I x.1,I x.2.1,.slice a x.2.2.length f e]/\SlI M a x.2.2
def I64 (n:Int):Prop:=-9223372036854775808<=n/\n<=9223372036854775807
def FrIn (x:Fr):Prop:=I64 x.1/\I64 x.2.1/\x.2.2.length<=1000000000000000 /\ ∀ n∈x.2.2,I64 n
theorem FrV.grow {v:LV}{x:Fr}(h:FrV M v x)(p:Grow M M'):FrV M' v x:=by
 obtain⟨a,f,e,m,o⟩:=h
 exact⟨a,f,e,m,o.grow p⟩
def knB (n:Int):Bool:=decide (-32767<=n/\n<=32767)
def smB (n:Int):Bool:=knB n ||(decide (n=40000)||decide (n=40001))
def btB (n a b:Int):Bool:=decide (a<=n/\n<=b)
def smsB (l:List Int):Bool:=btB l.length 1 64&&l.all smB
def frB (x:Fr):Bool:=btB x.1 0 60000&&(btB x.2.1 0 23&&smsB x.2.2)
def errF (x:Fr):Int:=if frB x then 0 else 80
end Go.Proofs.YtpgalhbplcanhaaGreatDoor.C
end
section
open PvL Go
variable {μ:PvL.Md}
namespace Go.Proofs.YtpgalhbplcanhaaGreatDoor.C
variable {a b l:List Int} {k:Nat}
section
variable {α:Type} {b q:Nat} {ty:TypeId} {enc:α->List LV} {M:Mem} {v:LV} {l l':List α} {P:Program} [Orc P] {sz:Nat} {E:Env} {K:Env->Mem->Prop} {ll:List XG} {d:Nat} {g:Option (Nat × Bool)} {s x:XO} {st:List Mem} {k:Nat} {xs:List (Nat × Nat × (Mem->Prop))} {ld:List (XG × XK)} {by':Nat} {z:List LV} {xv:LV}
theorem z36 (C:GOn E g)(H:Vec b q ty enc M v l)(G:xval E s=some v)(N:xval E x=some xv)(F:z0x xv=some l'.length)(r:0<l'.length)(B:(2*(l.length+l'.length)+2048)*by'<=140737488355328)(hz:(Nat.ble 1 q&&(Nat.ble 1 by'&&Nat.beq z.length q))=true)(J:zz q l'.length xv M=some (l'.flatMap enc))(h:∀ x,(enc x).length=q)(p:∀ x,zn (enc x)=true)(m:b<=M.next)(D:∀ v' M',Vec b q ty enc M' v' (l++l')->M'.next=M.next+1->Keep (fun i=>b<=i /\ ∃ o n f e,v=.slice (some (i,o)) n f e) M M'->XW μ P sz ll ((d,v')::E) M' K):XW μ P sz (⟨some d,.app ty q by' z s x,g⟩::ll) E M K:=by
 obtain⟨v',M',u,w,y,A⟩:=H.app (P:=P) G N F r B hz J h p m
 exact zg2 C u (D v' M' w y A)
theorem z4l (C:GOn E g)(H:Vec b q ty enc M v l)(G:xval E s=some v)(N:xval E x=some xv)(F:z0x xv=some l'.length)(r:0<l'.length)(B:(2*(l.length+l'.length)+2048)*by'<=140737488355328)(hz:(Nat.ble 1 q&&(Nat.ble 1 by'&&Nat.beq z.length q))=true)(J:zz q l'.length xv M=some (l'.flatMap enc))(h:∀ x,(enc x).length=q)(p:∀ x,zn (enc x)=true)(m:b<=M.next)(D:∀ v' M',Vec b q ty enc M' v' (l++l')->M'.next=M.next+1->Keep (fun i=>b<=i /\ ∃ o n f e,v=.slice (some (i,o)) n f e) M M'->XD P sz ld ((d,v')::E) M' (M'::st) (k+1) xs K):XD P sz ((⟨some d,.app ty q by' z s x,g⟩,.anchor)::ld) E M st k xs K:=by
 obtain⟨v',M',u,w,y,A⟩:=H.app (P:=P) G N F r B hz J h p m
 exact zpz C u (D v' M' w y A)
end
theorem z30 {m:Nat}{x:Int}{M M':Mem}{ty:TypeId}(o:New M m (.cells true [I x] ty) M'):zz 1 1 (.slice (some (m,0)) 1 true 1) M'=some ([x].flatMap intc) :=
 z1g (enc:=intc) (l:=[x]) (fun _ _=>rfl) (fun p h=>z18 (enc:=intc) (l:=[x]) (At.new_same o) (fun _ _=>rfl) h)
def joinI (a b:Int):Int:=if a=b∨b=40000 then a else if a=40000 then b else 40001
def getG (l:List Int)(k:Nat):Int:=l.getD k 40000
def z1m (a b:List Int):List Int:=(List.range (max a.length b.length)).map fun k=>joinI (getG a k) (getG b k)
theorem zhy (h:k<max a.length b.length):(z1m a b).take (k+1)=(z1m a b).take k++[joinI (getG a k) (getG b k)]:=by
 unfold z1m
 rw[List.take_succ_eq_append_getElem (by simpa using h)]
 simp
theorem z1x:(z1m a b).length=max a.length b.length:=by unfold z1m;simp
theorem z5x (h:k<l.length):getG l k=l[k]:=by unfold getG;rw[List.getD_eq_getElem?_getD,List.getElem?_eq_getElem h];rfl
theorem z98 (h:l.length<=k):getG l k=40000:=by unfold getG;rw[List.getD_eq_getElem?_getD,List.getElem?_eq_none h];rfl
theorem zo4 (a b:Nat):iMax (a:Int) (b:Int)=((max a b:Nat):Int):=by unfold iMax;omega
end Go.Proofs.YtpgalhbplcanhaaGreatDoor.C
end
section
open PvL Go
namespace Go.Proofs.YtpgalhbplcanhaaGreatDoor.C
variable {k:Nat} {M M':Mem} {a:Option (Nat × Nat)} {L:List Fr}
def ltB (c:Nat):Bool:=decide (97<=c/\c<=122)
def dgB (c:Nat):Bool:=decide (c=95)||decide (48<=c/\c<=57)
def nmK (s:ByteArray):Nat->Bool
 | 0=>true
 | k+1=>nmK s k&&(ltB (byteAt s k) ||(decide (k≠0)&&dgB (byteAt s k)))
def nmB (s:ByteArray):Bool:=nmK s s.size&&btB s.size 1 16
theorem zvb (s:ByteArray)(k:Nat):nmK s (k+1)=(nmK s k&&(ltB (byteAt s k) ||(decide (k≠0)&&dgB (byteAt s k)))):=rfl
theorem zqa {s:ByteArray}:∀ {n k:Nat},k<=n->nmK s k=false->nmK s n=false
 | 0,k,h,m=>by obtain rfl:k=0:=by omega
               exact m
 | n+1,k,h,m=>by
  by_cases o:k=n+1
  ·subst o;exact m
  ·rw[zvb,zqa (n:=n) (by omega) m];rfl
theorem zva {s:ByteArray}(h:k<=s.size)(m:nmK s k=false):nmB s=false:=by unfold nmB;rw[zqa h m];rfl
abbrev Rl:=ByteArray×List Fr
def FsV (M:Mem)(a:Option (Nat×Nat))(L:List Fr):Prop:=L=[] ∨ ∃ i o,a=some (i,o) /\ ∀ k (h:k<L.length),∃ b g u,Rd M i (o+k*3) 3 [I L[k].1,I L[k].2.1,.slice b L[k].2.2.length g u]/\SlI M b L[k].2.2
theorem FsV.grow (h:FsV M a L)(m:Grow M M'):FsV M' a L :=
 h.imp id fun⟨i,o,p,r⟩=>⟨i,o,p,fun k A=>by
  obtain⟨b,g,u,w,y⟩:=r k A
  exact⟨b,g,u,w.grow m,y.grow m⟩⟩
def zFr0:Fr:=(0,0,[])
def fe (L:List Fr)(k:Nat):Fr:=L.getD k zFr0
theorem z6j (h:k<L.length):fe L k=L[k]:=by unfold fe;rw[List.getD_eq_getElem?_getD,List.getElem?_eq_getElem h];rfl
theorem FsV.rd (h:FsV M a L)(m:k<L.length):∃ i o b g u,a=some (i,o)/\Rd M i (o+k*3) 3 [I (fe L k).1,I (fe L k).2.1,.slice b (fe L k).2.2.length g u]/\FrV M (.agg [I (fe L k).1,I (fe L k).2.1,.slice b (fe L k).2.2.length g u]) (fe L k):=by
 rcases h with rfl|⟨i,o,w,y⟩
 ·exact absurd m (Nat.not_lt_zero _)
 ·obtain⟨b,g,u,p,r⟩:=y k m
  rw[<-z6j m] at p r
  exact⟨i,o,b,g,u,w,p,b,g,u,rfl,r⟩
def RlV (M:Mem)(v:LV)(r:Rl):Prop:=∃ a f e,v=.agg [.str r.1,.slice a r.2.length f e]/\FsV M a r.2
theorem RlV.grow {v:LV}{r:Rl}(h:RlV M v r)(p:Grow M M'):RlV M' v r:=by
 obtain⟨a,f,e,m,o⟩:=h
 exact⟨a,f,e,m,o.grow p⟩
def keyI (x:Fr):Int:=24*x.1+x.2.1
def rlK (L:List Fr):Nat->Bool
 | 0=>true
 | k+1=>rlK L k&&(frB (fe L k)&&(decide (k=0)||decide (keyI (fe L (k-1))<keyI (fe L k))))
def rlB (r:Rl):Bool:=(nmB r.1&&decide (r.2.length<=128))&&rlK r.2 r.2.length
def zdm (r:Rl):Int:=if rlB r then 0 else 81
theorem zfs (L:List Fr)(k:Nat):rlK L (k+1)=(rlK L k&&(frB (fe L k)&&(decide (k=0)||decide (keyI (fe L (k-1))<keyI (fe L k))))):=rfl
theorem zm8:∀ {n k:Nat},k<=n->rlK L k=false->rlK L n=false
 | 0,k,h,m=>by obtain rfl:k=0:=by omega
               exact m
 | n+1,k,h,m=>by
  by_cases o:k=n+1
  ·subst o;exact m
  ·rw[zfs,zm8 (n:=n) (by omega) m];rfl
theorem zqf {i:Nat}(h:rlK L k=true)(hi:i<k):frB (fe L i)=true:=by
 cases m:frB (fe L i) with
 | true=>rfl
 | false=>
  rw[zm8 (n:=k) (k:=i+1) (by omega) (by rw[zfs,m];simp)] at h
  cases h
theorem zay {x:Fr}(h:frB x=true):0<=x.1/\x.1<=60000/\0<=x.2.1/\x.2.1<=23/\smsB x.2.2=true:=by
 unfold frB btB at h
 simp only[Bool.and_eq_true,decide_eq_true_eq] at h
 exact⟨h.1.1,h.1.2,h.2.1.1,h.2.1.2,h.2.2⟩
def cmpI8 (a b:Int):Int:=if a<b then -1 else if b<a then 1 else 0
def cmpK (a b:Int×Int):Int:=if cmpI8 a.1 b.1≠0 then cmpI8 a.1 b.1 else cmpI8 a.2 b.2
end Go.Proofs.YtpgalhbplcanhaaGreatDoor.C
end
section
open Go PvL
namespace Go.Proofs.YtpgalhbplcanhaaGreatDoor.C
variable {i j t a b:Nat}
abbrev Ky:=Int×Int
abbrev kyc (k:Ky):List LV:=[I k.1,I k.2]
def klt (a b:Ky):Prop:=a.1<b.1 ∨(a.1=b.1/\a.2<b.2)
instance (a b:Ky):Decidable (klt a b):=by unfold klt;infer_instance
theorem z10 (a b:Ky):cmpK a b<0↔klt a b:=by
 unfold cmpK cmpI8 klt
 by_cases h:a.1<b.1
 ·simp[h]
 ·by_cases o:b.1<a.1
  ·have:¬ a.1=b.1:=by omega
   simp[h,o,this]
  ·have:a.1=b.1:=by omega
   simp only[this,Int.lt_irrefl,if_false,ne_eq,not_true,false_or,true_and]
   by_cases m:a.2<b.2
   ·simp[m]
   ·by_cases p:b.2<a.2<;>simp[m,p]
theorem z28 (a:Ky):¬ klt a a:=by unfold klt;omega
theorem z6l {a b c:Ky}(h:klt a b)(m:klt b c):klt a c:=by unfold klt at *;omega
theorem z9h {a b c:Ky}(h:¬ klt b a)(m:¬ klt c b):¬ klt c a:=by unfold klt at *;omega
theorem z9i {a b:Ky}(h:klt a b):¬ klt b a:=by unfold klt at *;omega
theorem zl7 {a b:Ky}(h:a≠b):klt a b∨klt b a:=by
 unfold klt
 have:¬(a.1=b.1/\a.2=b.2):=fun⟨m,o⟩=>h (Prod.ext m o)
 omega
def sw (G:Nat->Ky)(i j:Nat):Nat->Ky:=fun t=>if t=j then G i else if t=i then G j else G t
theorem sw_j (G:Nat->Ky)(i j:Nat):sw G i j j=G i:=by unfold sw;rw[if_pos rfl]
theorem sw_i (G:Nat->Ky)(i j:Nat):sw G i j i=G j:=by
 unfold sw
 by_cases h:i=j
 ·subst h;rw[if_pos rfl]
 ·rw[if_neg h,if_pos rfl]
theorem z5i {G:Nat->Ky}(h1:t≠i)(h:t≠j):sw G i j t=G t:=by unfold sw;rw[if_neg h,if_neg h1]
inductive Sw (a b:Nat) (G:Nat->Ky):(Nat->Ky)->Prop
 | refl:Sw a b G G
 | step {G':Nat->Ky} {i j:Nat} (h:Sw a b G G') (h1:a<=i) (h2:i < b) (h3:a<=j) (h4:j < b):Sw a b G (sw G' i j)
theorem Sw.trans {G m o:Nat->Ky}(h:Sw a b G m)(p:Sw a b m o):Sw a b G o:=by
 induction p with
 | refl=>exact h
 | step _ r u w y A=>exact .step A r u w y
theorem Sw.wider {a' b':Nat}{G m:Nat->Ky}(h:Sw a b G m)(y:a'<=a)(A:b<=b'):Sw a' b' G m:=by
 induction h with
 | refl=>exact .refl
 | step _ p r u w o=>exact .step o (by omega) (by omega) (by omega) (by omega)
theorem Sw.one {G:Nat->Ky}(h1:a<=i)(h:i<b)(m:a<=j)(o:j<b):Sw a b G (sw G i j):=.step .refl h1 h m o
theorem Sw.out {G G':Nat->Ky}(h:Sw a b G G')(w:t<a∨b<=t):G' t=G t:=by
 induction h with
 | refl=>rfl
 | step _ o p r u m=>rw[z5i (by omega) (by omega),m]
theorem Sw.all {G G':Nat->Ky}(h:Sw a b G G'){p:Ky->Prop}(B:∀ t,a<=t->t<b->p (G t)):∀ t,a<=t->t<b->p (G' t):=by
 induction h with
 | refl=>exact B
 | step _ u w y A r=>
  intro t m o
  unfold sw
  split
  ·exact r _ u w
  ·split
   ·exact r _ y A
   ·exact r _ m o
def Inj (n:Nat)(G:Nat->Ky):Prop:=∀ i j,i<n->j<n->G i=G j->i=j
theorem Sw.inj {n:Nat}{G G':Nat->Ky}(h:Sw a b G G')(C:b<=n)(hi:Inj n G):Inj n G':=by
 induction h with
 | refl=>exact hi
 | @step G' i j _ h1 h2 h3 h4 r=>
  intro x y A B m
  unfold sw at m
  by_cases w:x=j
  ·by_cases p:y=j
   ·omega
   ·rw[if_pos w,if_neg p] at m
    by_cases o:y=i
    ·rw[if_pos o] at m;have:=r _ _ (by omega) (by omega) m;omega
    ·rw[if_neg o] at m;have:=r _ _ (by omega) B m;omega
  ·rw[if_neg w] at m
   by_cases u:x=i
   ·rw[if_pos u] at m
    by_cases p:y=j
    ·rw[if_pos p] at m;have:=r _ _ (by omega) (by omega) m;omega
    ·rw[if_neg p] at m
     by_cases o:y=i
     ·omega
     ·rw[if_neg o] at m;have:=r _ _ (by omega) B m;omega
   ·rw[if_neg u] at m
    by_cases p:y=j
    ·rw[if_pos p] at m;have:=r _ _ A (by omega) m;omega
    ·rw[if_neg p] at m
     by_cases o:y=i
     ·rw[if_pos o] at m;have:=r _ _ A (by omega) m;omega
     ·rw[if_neg o] at m;exact r _ _ A B m
def Srt (a b:Nat)(G:Nat->Ky):Prop:=∀ i j,a<=i->i<j->j<b->¬ klt (G j) (G i)
theorem Srt.short {G:Nat->Ky}(h:b<=a+1):Srt a b G:=fun i j m o p=>by omega
def Ins (a b j:Nat)(G:Nat->Ky):Prop:=∀ p q,a<=p->p<q->q<b->q≠j->¬ klt (G q) (G p)
theorem Ins.start {G:Nat->Ky}(h:Srt a i G):Ins a (i+1) i G:=fun p q m o r u=>h p q m o (by omega)
theorem Ins.step {G:Nat->Ky}(h:Ins a b (j+1) G)(B:a<=j)(y:klt (G (j+1)) (G j)):Ins a b j (sw G (j+1) j):=by
 intro p q w A r C
 by_cases o:q=j+1
 ·subst o
  rw[sw_i]
  by_cases u:p=j
  ·subst u;rw[sw_j];exact z9i y
  ·rw[z5i (by omega) (by omega)]
   exact h p j w (by omega) (by omega) (by omega)
 ·by_cases D:q<=j
  ·rw[z5i (by omega) (by omega),z5i (by omega) (by omega)]
   exact h p q w A r o
  ·rw[show sw G (j+1) j q=G q from z5i (by omega) (by omega)]
   by_cases m:p=j+1
   ·subst m;rw[sw_i];exact h j q B (by omega) r (by omega)
   ·by_cases u:p=j
    ·subst u;rw[sw_j];exact h (p+1) q (by omega) (by omega) r (by omega)
    ·rw[z5i m u];exact h p q w A r (by omega)
theorem Ins.done {G:Nat->Ky}(h:Ins a b j G)(m:j<=a∨¬ klt (G j) (G (j-1))):Srt a b G:=by
 intro p q o u w
 by_cases r:q=j
 ·subst r
  rcases m with m|m
  ·omega
  ·by_cases y:p=q-1
   ·subst y;exact m
   ·exact z9h (h p (q-1) o (by omega) (by omega) (by omega)) m
 ·exact h p q o u w r
end Go.Proofs.YtpgalhbplcanhaaGreatDoor.C
end
section
open PvL
namespace Go.Proofs.YtpgalhbplcanhaaGreatDoor.C
variable {a b c:Int}
def stepB (c:Int):Int:=if 65535<shlZ c 1 then xorZ (andZ (shlZ c 1) 65535) 4129 else shlZ c 1
def stepN:Nat->Int->Int
 | 0,c=>c
 | n+1,c=>stepB (stepN n c)
def byteC (c:Int)(b:Nat):Int:=stepN 8 (xorZ c (shlZ (b:Int) 8))
def crcK (s:ByteArray):Nat->Int
 | 0=>65535
 | k+1=>byteC (crcK s k) (byteAt s k)
theorem shl1 (c:Int):shlZ c 1=2*c:=by unfold shlZ;show c*((2^1:Nat):Int)=_;omega
theorem shl8 (c:Int):shlZ c 8=256*c:=by unfold shlZ;show c*((2^8:Nat):Int)=_;omega
theorem zg4 (h:0<=a/\a<=65535)(m:0<=b/\b<=65535):0<=xorZ a b/\xorZ a b<=65535:=by
 have:a.toNat ^^^ b.toNat<65536:=Nat.xor_lt_two_pow (n:=16) (by omega) (by omega)
 unfold xorZ;omega
theorem zjj (h:0<=b):0<=andZ a b/\andZ a b<=b:=by
 have:a.toNat &&& b.toNat<=b.toNat:=Nat.and_le_right
 unfold andZ;omega
theorem zp1 (h:0<=c/\c<=65535):0<=stepB c/\stepB c<=65535:=by
 unfold stepB
 have e:=shl1 c
 split
 ·exact zg4 (zjj (by omega)) (by omega)
 ·omega
theorem zch (h:0<=c/\c<=65535):∀ n,0<=stepN n c/\stepN n c<=65535
 | 0=>h
 | n+1=>zp1 (zch h n)
theorem zn3 (h:0<=c/\c<=65535){b:Nat}(m:b<256):0<=byteC c b/\byteC c b<=65535:=by
 have:=shl8 (b:Int)
 exact zch (zg4 h (by omega)) 8
theorem z8t (s:ByteArray):∀ k,0<=crcK s k/\crcK s k<=65535
 | 0=>by unfold crcK;omega
 | k+1=>zn3 (z8t s k) (z3h s k)
end Go.Proofs.YtpgalhbplcanhaaGreatDoor.C
end
section
open Go PvL Go.Proofs
namespace Go.Proofs.YtpgalhbplcanhaaGreatDoor.C
variable {n e:Nat} {a:Option (Nat × Nat)} {f:Bool} {g:FuncId} {fi ca:List LV} {M:Mem} {l b:List Int}
set_option maxHeartbeats 1000000 in
theorem zr7 (s:ByteArray)(S:s.size<=140737488355328)(M:Mem):zc Tryz.prog 74 [.str s] M (fun w M'=>w=I (crcK s s.size)/\M'=M):=by
 refine zd Y74.2 rfl ?_
 delta Y74;refine un ?_
 refine Wh ?_
 refine zg (fun n E r M'=>∃ k:Nat,n=s.size-k/\k<=s.size/\r=[]/\M'=M/\Has E [(0,.str s),(3,I (crcK s k)),(6,I s.size),(7,I k)])
  ?_ s.size _ _ _ ⟨0,by omega,by omega,rfl,rfl,hz⟩
 rintro n E r M' ⟨k,rfl,R,rfl,rfl,u⟩
 refine z06 u ?_
 have C:=z8t s k
 have D:=z3h s k
 have N:=shl8 ((byteAt s k:Nat):Int)
 by_cases m:k=s.size
 ·subst m
  refine Wh ?_;intros
  refine kf ?_
  exact⟨rfl,rfl⟩
 ·have H:k<s.size:=by omega
  refine Wh ?_;intros
  have p:=zg4 (a:=crcK s k) (b:=shlZ ((byteAt s k:Nat):Int) 8) C (by omega)
  generalize G:xorZ (crcK s k) (shlZ ((byteAt s k:Nat):Int) 8)=o at p ⊢
  refine zg (fun n E r B=>∃ j:Nat,n=8-j/\j<=8/\r=[]/\B=M'/\Has E [(0,.str s),(3,I (stepN j o)),(6,I s.size),(7,I k),(17,I j)])
   ?_ 8 _ _ _ ⟨0,by omega,by omega,rfl,rfl,hz⟩
  rintro n E r M' ⟨j,rfl,Q,rfl,rfl,u⟩
  refine z06 u ?_
  have F:=zch p j
  have J:=shl1 (stepN j o)
  have O:=zjj (a:=shlZ (stepN j o) 1) (b:=65535) (by omega)
  by_cases y:j=8
  ·subst y
   refine Wh ?_;intros
   refine zi (s.size-(k+1)) (by omega) ⟨k+1,rfl,by omega,rfl,rfl,.cons rfl (.cons ?_ (.cons rfl (.cons rfl .nil)))⟩
   show some (I (stepN 8 o))=some (I (byteC (crcK s k) (byteAt s k)))
   unfold byteC
   rw[G]
  ·have A:j<8:=by omega
   repeat' first|with_reducible intro _|refine sv ?_|refine ss ?_ ?_<;>(intro h;first|exact sz h|refine sy h ?_)|exact sq|fail
   ·refine zi (8-(j+1)) (by omega) ⟨j+1,rfl,by omega,rfl,rfl,.cons rfl (.cons ?_ (hz))⟩
    show some (I _)=some (I (stepB (stepN j o)))
    unfold stepB
    rw[if_pos (by assumption)]
   ·refine zi (8-(j+1)) (by omega) ⟨j+1,rfl,by omega,rfl,rfl,.cons rfl (.cons ?_ (hz))⟩
    show some (I _)=some (I (stepB (stepN j o)))
    unfold stepB
    rw[if_neg (by omega)]
theorem zbx (n a b:Int)(M:Mem):zc Tryz.prog 66 [I n,I a,I b] M (fun w M'=>w=.bool (btB n a b)/\M'=M):=by
 refine zd Y66.2 rfl ?_
 delta Y66;refine un ?_
 repeat' first|with_reducible intro _|refine sv ?_|refine ss ?_ ?_<;>(intro h;first|exact sz h|refine sy h ?_)|exact sq|fail
 ·refine kf ?_
  refine⟨?_,rfl⟩
  simp[packed,btB];omega
 ·refine kf ?_
  refine⟨?_,rfl⟩
  simp[packed,btB];omega
theorem z8o (n:Int)(M:Mem):zc Tryz.prog 69 [I n] M (fun w M'=>w=.bool (knB n)/\M'=M):=by
 refine zd Y69.2 rfl ?_
 delta Y69;refine un ?_
 repeat' first|with_reducible intro _|refine sv ?_|((with_reducible first|apply z01|apply z05|apply zr);exact gd;exact rfl;exact rfl;(first|exact zbx _ _ _ _))|refine ss ?_ ?_<;>(intro h;first|exact sz h|refine sy h ?_)|exact sq|fail
 refine kf ?_
 exact⟨rfl,rfl⟩
theorem znj (n:Int)(M:Mem):zc Tryz.prog 132 [I n] M (fun w M'=>w=.bool (smB n)/\M'=M):=by
 refine zd Y132.2 rfl ?_
 delta Y132;refine un ?_
 unfold smB
 cases o:knB n with
 | true=>
  have m:∀ M,zc Tryz.prog 69 [I n] M (fun w M'=>w=.bool true/\M'=M):=fun M=>by rw[<-o];exact z8o n M
  refine Wsh @m ?_
  refine kf ?_
  exact⟨rfl,rfl⟩
 | false=>
  have m:∀ M,zc Tryz.prog 69 [I n] M (fun w M'=>w=.bool false/\M'=M):=fun M=>by rw[<-o];exact z8o n M
  repeat' first|with_reducible intro _|refine sv ?_|((with_reducible first|apply z01|apply z05|apply zr);exact gd;exact rfl;exact rfl;(first|exact m _))|refine ss ?_ ?_<;>(intro h;first|exact sz h|refine sy h ?_)|exact sq|fail
  all_goals ((refine kf ?_);refine⟨?_,rfl⟩;simp[packed];try omega)
theorem z6b (n:Int)(M:Mem):zc Tryz.prog 131 [I n] M (fun w M'=>w=.bool (!smB n)/\M'=M):=by
 refine zd Y131.2 rfl ?_
 delta Y131;refine un ?_
 repeat' first|with_reducible intro _|refine sv ?_|((with_reducible first|apply z01|apply z05|apply zr);exact gd;exact rfl;exact rfl;(first|exact znj _ _))|refine ss ?_ ?_<;>(intro h;first|exact sz h|refine sy h ?_)|exact sq|fail
 refine kf ?_
 exact⟨rfl,rfl⟩
theorem z56 {p:Nat->Bool}:(List.range n).any p=true ↔ ∃ j,j<n/\p j=true:=by
 rw[List.any_eq_true]
 exact⟨fun⟨j,h,m⟩=>⟨j,List.mem_range.1 h,m⟩,fun⟨j,h,m⟩=>⟨j,List.mem_range.2 h,m⟩⟩
set_option maxHeartbeats 1000000 in
theorem zew (y:Nat->LV)(p:Nat->Bool)(Z:n<=1000000000000000)(D:∀ k,k<n->∃ i o,a=some (i,o)/\Rd1 M i (o+k*1) (y k))(X:∀ k,k<n->∀ M',Grow M M'->zc Tryz.prog g (fi++[y k]++ca) M' (fun w H=>w=.bool (p k)/\H=M')) :
  zc Tryz.prog 143 [.slice a n f e,.func (.func g) fi ca] M (fun w M'=>∃ r:Int,w=I r/\(0<=r ↔(List.range n).any p=true)/\M'=M):=by
 refine zd Y143.2 rfl ?_
 delta Y143;refine un ?_
 refine Wh ?_
 refine zg (fun m E R M'=>∃ k:Nat,m=n-k/\k<=n/\R=[]/\Has E [(0,.slice a n f e),(1,.func (.func g) fi ca),(7,I n),(8,I k)]/\M'=M /\ ∀ j,j<k->p j=false)
  ?_ n _ _ _ ⟨0,by omega,by omega,rfl,hz,rfl,fun j O=>absurd O (Nat.not_lt_zero _)⟩
 rintro m E R S ⟨k,rfl,Y,rfl,V,rfl,A⟩
 refine z06 V ?_
 by_cases B:k=n
 ·subst B
  refine Wh ?_;intro h
  refine kf ?_
  refine⟨-1,rfl,?_,rfl⟩
  rw[z56]
  exact⟨fun h=>by omega,fun⟨j,U,N⟩=>by rw[A j U] at N;cases N⟩
 have C:k<n:=by omega
 obtain⟨i,o,rfl,Q⟩:=D k C
 have G:=X k C S (Grow.refl _)
 cases u:p k with
 | true=>
  rw[u] at G
  have F:=Q;refine Wsh @G ?_;intros
  refine kf ?_
  refine⟨k,rfl,?_,rfl⟩
  rw[z56]
  exact⟨fun _=>⟨k,C,u⟩,fun _=>by omega⟩
 | false=>
  rw[u] at G
  have F:=Q;refine Wsh @G ?_;intros
  refine zi (n-(k+1)) (by omega) ⟨k+1,rfl,by omega,rfl,hz,rfl,fun j O=>?_⟩
  by_cases J:j=k
  ·subst J;exact u
  ·exact A j (by omega)
theorem zac (m:Nat->LV)(p:Nat->Bool)(B:n<=1000000000000000)(u:∀ k,k<n->∃ i o,a=some (i,o)/\Rd1 M i (o+k*1) (m k))(C:∀ k,k<n->∀ M',Grow M M'->zc Tryz.prog g (fi++[m k]++ca) M' (fun w y=>w=.bool (p k)/\y=M')) :
  zc Tryz.prog 67 [.slice a n f e,.func (.func g) fi ca] M (fun w M'=>w=.bool ((List.range n).any p)/\M'=M):=by
 refine zd Y67.2 rfl ?_
 delta Y67;refine un ?_
 have A:=zew (f:=f) (e:=e) m p B u C
 refine Wlh @A ?_;intro _ _ D
 obtain⟨r,rfl,F,rfl⟩:=D
 refine Wh ?_
 refine kf ?_
 refine⟨?_,rfl⟩
 exact congrArg LV.bool (by rw[Bool.eq_iff_iff,decide_eq_true_iff];exact F)
theorem zi1 (p:Int->Bool)(D:l.length<=1000000000000000)(F:SlI M a l)(G:∀ n∈l,zc Tryz.prog g (fi++[I n]++ca) M (fun w h=>w=.bool (p n)/\h=M))(y:∀ n∈l,∀ M',Grow M M'->zc Tryz.prog g (fi++[I n]++ca) M' (fun w h=>w=.bool (p n)/\h=M')) :
  zc Tryz.prog 67 [.slice a l.length f e,.func (.func g) fi ca] M (fun w M'=>w=.bool (l.any p)/\M'=M):=by
 have:=zac (f:=f) (e:=e) (g:=g) (fi:=fi) (ca:=ca) (M:=M) (a:=a) (n:=l.length) (fun k=>I (l.getD k 0)) (fun k=>p (l.getD k 0)) D (fun k u=>by
  obtain⟨i,o,m,r⟩:=F.rd u
  exact⟨i,o,m,by rw[List.getD_eq_getElem?_getD,List.getElem?_eq_getElem u];exact r⟩) (fun k u M' C=>y _ (by rw[List.getD_eq_getElem?_getD,List.getElem?_eq_getElem u];exact List.getElem_mem u) M' C)
 have B:(List.range l.length).any (fun k=>p (l.getD k 0))=l.any p:=by
  rw[Bool.eq_iff_iff,z56,List.any_eq_true]
  constructor
  ·rintro⟨j,m,r⟩
   refine⟨l[j],List.getElem_mem m,?_⟩
   rw[List.getD_eq_getElem?_getD,List.getElem?_eq_getElem m] at r;exact r
  ·rintro⟨x,m,r⟩
   obtain⟨j,A,rfl⟩:=List.getElem_of_mem m
   exact⟨j,A,by rw[List.getD_eq_getElem?_getD,List.getElem?_eq_getElem A];exact r⟩
 rw[B] at this;exact this
theorem zqy {p:Int->Bool}:l.any (fun n=>!p n)=!l.all p:=by
 induction l with
 | nil=>rfl
 | cons x xs h=>simp only[List.any_cons,List.all_cons,h];cases p x<;>simp
set_option maxHeartbeats 1000000 in
theorem z7i {v:LV}{x:Fr}(A:FrV M v x)(o:FrIn x):zc Tryz.prog 60 [v] M (fun w M'=>w=I (errF x)/\Grow M M'):=by
 obtain⟨a,f,e,rfl,y⟩:=A
 refine zd Y60.2 rfl ?_
 delta Y60;refine un ?_
 have r:∀ M',Grow M M'->zc Tryz.prog 67 [.slice a x.2.2.length f e,.func (.func 131) [] []] M' (fun w m=>w=.bool (!x.2.2.all smB)/\m=M'):=fun M' u=>by
  have:=zi1 (f:=f) (e:=e) (g:=131) (fi:=[]) (ca:=[]) (M:=M') (fun n=>!smB n) o.2.2.1 (y.grow u) (fun n _=>z6b n M') (fun n _ p _=>z6b n p)
  rw[zqy] at this;exact this
 repeat' first|with_reducible intro _|refine sv ?_|((with_reducible first|apply z01|apply z05|apply zr);exact gd;exact rfl;exact rfl;(first|exact zbx _ _ _ _|exact r _ (xg)))|refine ss ?_ ?_<;>(intro h;first|exact sz h|refine sy h ?_)|exact sq|fail
 all_goals ((refine kf ?_);refine⟨?_,xg⟩;simp_all [packed,errF,frB,smsB])
theorem zua {k:Nat}(u:SlI M a l):zc Tryz.prog 197 [.slice a l.length f e,I k] M (fun w M'=>w=I (getG l k)/\M'=M):=by
 refine zd Y197.2 rfl ?_
 delta Y197;refine un ?_
 by_cases m:k<l.length
 ·obtain⟨i,o,rfl,r⟩:=u.rd m
  rw[z5x m]
  have p:=r;refine Wh ?_;intros
  refine kf ?_
  exact⟨rfl,rfl⟩
 ·rw[z98 (by omega)]
  refine Wh ?_;intros
  refine kf ?_
  exact⟨rfl,rfl⟩
theorem znf (a b:Int):zc Tryz.prog 198 [I a,I b,I 40000,I 40001] M (fun w M'=>w=I (joinI a b)/\M'=M):=by
 refine zd Y198.2 rfl ?_
 delta Y198;refine un ?_
 repeat' first|with_reducible intro _|refine sv ?_|refine ss ?_ ?_<;>(intro h;first|exact sz h|refine sy h ?_)|exact sq|fail
 all_goals ((refine kf ?_);refine⟨?_,rfl⟩;simp_all [packed,joinI])
set_option maxHeartbeats 2000000 in
theorem zu4 {b:Option (Nat×Nat)}{o lb:List Int}{fa fb:Bool}{ea eb:Nat}(V:SlI M a o)(X:SlI M b lb)(Z:o.length<=1000000)(a0:lb.length<=1000000) :
  zc Tryz.prog 145 [.slice a o.length fa ea,.slice b lb.length fb eb] M (fun w M'=>Vec M.next 1 3 intc M' w (z1m o lb)/\Grow M M'):=by
 refine zd Y145.2 rfl ?_
 delta Y145;refine un ?_
 refine Wh ?_
 have O:iMax (o.length:Int) (lb.length:Int)=((max o.length lb.length:Nat):Int):=zo4 _ _
 generalize u:max o.length lb.length=N at O
 have Q:(z1m o lb).length=N:=by rw[z1x,u]
 refine zg (fun m E R M'=>∃(k:Nat) (v:LV),m=N-k/\k<=N/\R=[]/\Has E [(0,.slice a o.length fa ea),(1,.slice b lb.length fb eb),(5,.func (.func 197) [] []),(6,v),(12,I N),(13,I k)]/\Vec M.next 1 3 intc M' v ((z1m o lb).take k)/\Grow M M'/\M.next<=M'.next)
  ?_ N _ _ _ ⟨0,_,by omega,by omega,rfl,.cons rfl (.cons rfl (.cons rfl (.cons rfl (.cons (by rw[<-O];rfl) (.cons rfl .nil))))),by rw[List.take_zero];exact Vec.nil,xg,Nat.le_refl _⟩
 rintro n E R M' ⟨k,v,rfl,hk,rfl,U,G,r,a1⟩
 refine z06 U ?_
 by_cases p:k=N
 ·subst p
  refine Wh ?_;intros
  refine kf ?_
  rw[List.take_of_length_le (by omega)] at G
  exact⟨G,r⟩
 ·have a2:k<N:=by omega
  have y:=V.grow r
  have A:=X.grow r
  repeat' first|with_reducible intro _|refine sv ?_|((with_reducible first|apply z01|apply z05|apply zr);exact gd;exact rfl;exact rfl;(first|exact zua y | exact zua A | exact znf _ _))|refine ss ?_ ?_<;>(intro h;first|exact sz h|refine sy h ?_)|exact sq|fail
  rename_i m M2 D e1 e2
  have H:=G.grow D.grow
  have F:((z1m o lb).take k).length=k:=by rw[List.length_take];omega
  refine z36 (by exact gd) (l':=[joinI (getG o k) (getG lb k)]) H rfl rfl rfl (by simp) (by rw[F,List.length_singleton];omega) rfl (z30 D) (fun _=>rfl) (fun _=>rfl) (by omega) ?_
  intro v' S J e3 C
  have B:Grow M S:=Keep.to_grow' (r.trans D.grow) C (fun i Y=>Y.1)
  refine Wh ?_
  refine zi (N-(k+1)) (by omega) ⟨k+1,v',rfl,by omega,rfl,hz,?_,B,by omega⟩
  rw[zhy (by omega)];exact J
theorem zri {v:LV}{x:Fr}(m:FrV M v x):zc Tryz.prog 142 [v] M (fun w M'=>w=.agg [I x.1,I x.2.1]/\Grow M M'):=by
 obtain⟨a,f,e,rfl,o⟩:=m
 refine zd Y142.2 rfl ?_
 delta Y142;refine un ?_
 refine Wh ?_;intros
 refine kf ?_
 exact⟨rfl,xg⟩
theorem zrx {x:Fr}(h:errF x=0):0<=x.1/\x.1<=60000/\0<=x.2.1/\x.2.1<=23/\1<=x.2.2.length/\x.2.2.length<=64/\x.2.2.all smB=true:=by
 unfold errF at h
 cases m:frB x with
 | false=>rw[m] at h;simp at h
 | true=>
  unfold frB smsB btB at m
  simp only[Bool.and_eq_true,decide_eq_true_eq] at m
  obtain⟨⟨o,p⟩,⟨r,u⟩,⟨h5,y⟩,w⟩:=m
  exact⟨o,p,r,u,by omega,by omega,w⟩
theorem zim (a:Int):joinI a a=a:=by unfold joinI;simp
theorem zil (a b:Int):joinI a b=joinI b a:=by unfold joinI;split<;>split<;>(try split)<;>omega
theorem zfe (a b c:Int):joinI (joinI a b) c=joinI a (joinI b c):=by
 unfold joinI
 by_cases h:a=b<;>by_cases m:b=40000<;>by_cases o:a=40000<;>by_cases p:c=40000<;>by_cases h5:b=c<;>by_cases r:a=c<;>simp_all<;>(split<;>simp_all)
theorem z4q (a b:List Int)(k:Nat):getG (z1m a b) k=joinI (getG a k) (getG b k):=by
 by_cases h:k<max a.length b.length
 ·rw[z5x (by rw[z1x];exact h)]
  unfold z1m
  simp
 ·rw[z98 (by rw[z1x];omega),z98 (l:=a) (by omega),z98 (l:=b) (by omega)];rfl
theorem z82 {a:List Int}(p:a.length=b.length)(h:∀ k,getG a k=getG b k):a=b:=by
 refine List.ext_getElem p fun k m o=>?_
 have:=h k
 rw[z5x m,z5x o] at this;exact this
theorem zhx (a b:List Int):z1m a b=z1m b a :=
 z82 (by rw[z1x,z1x];omega) fun k=>by rw[z4q,z4q,zil]
theorem zal (a:List Int):z1m a a=a :=
 z82 (by rw[z1x];omega) fun k=>by rw[z4q,zim]
theorem z5s (a b c:List Int):z1m (z1m a b) c=z1m a (z1m b c) :=
 z82 (by simp only[z1x];omega) fun k=>by simp only[z4q];exact zfe _ _ _
theorem zqh (h:l.all smB=true)(k:Nat):smB (getG l k)=true:=by
 by_cases m:k<l.length
 ·rw[z5x m];exact List.all_eq_true.1 h _ (List.getElem_mem m)
 ·rw[z98 (by omega)];rfl
theorem zt1 {a b:Int}(h:smB a=true)(m:smB b=true):smB (joinI a b)=true:=by
 unfold joinI
 split
 ·exact h
 ·split
  ·exact m
  ·rfl
theorem zt0 {a:List Int}(m:a.all smB=true)(o:b.all smB=true):(z1m a b).all smB=true:=by
 rw[List.all_eq_true]
 intro x h
 unfold z1m at h
 obtain⟨k,_,rfl⟩:=List.mem_map.1 h
 exact zt1 (zqh m k) (zqh o k)
end Go.Proofs.YtpgalhbplcanhaaGreatDoor.C
end
section
open Go PvL
namespace Go.Proofs.YtpgalhbplcanhaaGreatDoor.C
abbrev Rk:=List (Ky×List Int)
abbrev fky(x:Fr):Ky:=(x.1,x.2.1)
def lkK:Rk->Ky->Option (List Int)
 | [],_=>none
 |(a,b)::L,k=>if k=a then some b else lkK L k
def stK:Rk->Ky->List Int->Rk
 | [],k,v=>[(k,v)]
 |(a,b)::L,k,v=>if k=a then(k,v)::L else(a,b)::stK L k v
theorem zlb:∀(L:Rk) (k:Ky) (v:List Int) (m:Ky),lkK (stK L k v) m=if m=k then some v else lkK L m
 | [],k,v,m=>rfl
 |(a,b)::L,k,v,m=>by
  unfold stK
  by_cases h:k=a
  ·subst h
   rw[if_pos rfl]
   show(if m=k then some v else lkK L m)=if m=k then some v else(if m=k then some b else lkK L m)
   by_cases o:m=k
   ·rw[if_pos o,if_pos o]
   ·rw[if_neg o,if_neg o,if_neg o]
  ·rw[if_neg h]
   show(if m=a then some b else lkK (stK L k v) m)=if m=k then some v else(if m=a then some b else lkK L m)
   rw[zlb L k v m]
   by_cases o:m=a
   ·subst o
    rw[if_pos rfl,if_neg (fun p=>h p.symm),if_pos rfl]
   ·rw[if_neg o,if_neg o]
theorem zfx:∀(L:Rk) (k:Ky) (v:List Int),(stK L k v).map (·.1)=if (lkK L k).isSome then L.map (·.1) else L.map (·.1)++[k]
 | [],k,v=>rfl
 |(a,b)::L,k,v=>by
  unfold stK
  by_cases h:k=a
  ·subst h
   rw[if_pos rfl]
   have:lkK ((k,b)::L) k=some b:=by show(if k=k then some b else lkK L k)=_;rw[if_pos rfl]
   rw[this];rfl
  ·have e:lkK ((a,b)::L) k=lkK L k:=by show(if k=a then some b else lkK L k)=_;rw[if_neg h]
   rw[if_neg h,e,List.map_cons,zfx L k v]
   split<;>rfl
theorem zlc:∀(L:Rk) (k:Ky),(lkK L k).isSome=true↔k∈L.map (·.1)
 | [],k=>by simp[lkK]
 |(a,b)::L,k=>by
  by_cases h:k=a
  ·subst h
   have:lkK ((k,b)::L) k=some b:=by show(if k=k then some b else lkK L k)=_;rw[if_pos rfl]
   rw[this];simp
  ·have e:lkK ((a,b)::L) k=lkK L k:=by show(if k=a then some b else lkK L k)=_;rw[if_neg h]
   rw[e,zlc L k];simp[h]
def RkN(L:Rk):Prop:=(L.map (·.1)).Nodup
theorem RkN.st{L:Rk}(h:RkN L)(k:Ky)(v:List Int):RkN (stK L k v):=by
 unfold RkN at *
 rw[zfx]
 split
 ·exact h
 ·rename_i r
  have:k∉L.map (·.1):=fun p=>r ((zlc L k).2 p)
  rw[List.nodup_append]
  exact⟨h,by simp,fun a m b o=>by
   obtain rfl:b=k:=by simpa using o
   rintro rfl;exact this m⟩
def rkA(R:Rk)(f:Fr):Rk:=stK R (fky f) (z1m ((lkK R (fky f)).getD []) f.2.2)
def addR:List Fr->Fr->List Fr
 | [],f=>[f]
 | g::l,f=>if keyI g=keyI f then(g.1,g.2.1,z1m g.2.2 f.2.2)::l else if keyI g>keyI f then f::g::l else g::addR l f
def z2y(l:List Fr):List Fr:=l.foldl addR []
def rackF(l:List Fr):Rk:=l.foldl rkA []
theorem z8f(l:List Int):z1m [] l=l:=by
 refine z82 ?_ fun k=>?_
 ·rw[z1x];simp
 ·rw[z4q]
  have:getG [] k=40000:=rfl
  rw[this]
  unfold joinI
  split
  ·rename_i h;rcases h with h|h
   ·exact h
   ·exact h.symm
  ·rw[if_pos rfl]
def FrK(x:Fr):Prop:=0<=x.1/\x.1<=60000/\0<=x.2.1/\x.2.1<=23
theorem zfh{x y:Fr}(h:FrK x)(m:FrK y):keyI x<keyI y↔klt (fky x) (fky y):=by unfold FrK keyI klt at *;dsimp only;omega
theorem zl2{x y:Fr}(p:FrK x)(r:FrK y):keyI x=keyI y↔fky x=fky y:=by
 unfold FrK keyI at *
 constructor
 ·intro h;exact Prod.ext (by dsimp only;omega) (by dsimp only;omega)
 ·intro h
  have m:(fky x).1=(fky y).1:=congrArg Prod.fst h
  have o:(fky x).2=(fky y).2:=congrArg Prod.snd h
  dsimp only at m o
  omega
def lkJ:List Fr->Ky->Option (List Int)
 | [],_=>none
 | x::l,k=>if k=fky x then some x.2.2 else lkJ l k
theorem zai(x:Fr)(l:List Fr)(k:Ky):lkJ (x::l) k=if k=fky x then some x.2.2 else lkJ l k:=rfl
theorem zc6:∀(J:List Fr) (k:Ky),(lkJ J k).isSome=true↔k∈J.map fky
 | [],k=>by simp[lkJ]
 | x::J,k=>by
  rw[zai]
  by_cases h:k=fky x
  ·rw[if_pos h];simp[h]
  ·rw[if_neg h,zc6 J k];simp[h]
def SrtJ(J:List Fr):Prop:=J.Pairwise fun x y=>klt (fky x) (fky y)
theorem zla{J:List Fr}{k:Ky}(h:∀ x∈J,klt k (fky x)):lkJ J k=none:=by
 induction J with
 | nil=>rfl
 | cons x J o=>
  rw[zai,if_neg (fun e=>z28 (fky x) (by have:=h x (by simp);rw[e] at this;exact this))]
  exact o fun y m=>h y (by simp[m])
theorem zbo:∀ {J:List Fr} {f:Fr},SrtJ J->(∀ x∈J,FrK x)->FrK f->SrtJ (addR J f)/\(∀ x∈addR J f,FrK x)/\(∀ k,lkJ (addR J f) k=if k=fky f then some (z1m ((lkJ J (fky f)).getD []) f.2.2) else lkJ J k)/\(∀ x∈addR J f,fky x=fky f ∨ ∃ y∈J,fky y=fky x)
 | [],f,_,_,hf=>by
  have N:∀ {x},x∈addR [] f->x=f:=fun {x} m=>by
   have m:x∈[f]:=m
   simpa using m
  refine⟨?_,fun x m=>?_,fun k=>?_,fun x m=>?_⟩
  ·show List.Pairwise _ [f]
   simp
  ·rw[N m];exact hf
  ·show lkJ [f] k=if k=fky f then some (z1m [] f.2.2) else none
   rw[z8f];rfl
  ·rw[N m];exact .inl rfl
 | g::l,f,G,F,hf=>by
  have A:=F g (by simp)
  have C:SrtJ l:=(List.pairwise_cons.1 G).2
  have u:=(List.pairwise_cons.1 G).1
  unfold addR
  by_cases D:keyI g=keyI f
  ·rw[if_pos D]
   have o:=(zl2 A hf).1 D
   refine⟨List.pairwise_cons.2 ⟨u,C⟩,fun x m=>?_,fun k=>?_,fun x m=>?_⟩
   ·rcases List.mem_cons.1 m with rfl|m
    ·exact A
    ·exact F x (by simp[m])
   ·rw[zai,zai,zai,if_pos o.symm,Option.getD_some]
    by_cases h:k=fky f
    ·rw[if_pos h,if_pos (show k=(g.1,g.2.1) by rw[h];exact o.symm)]
    ·rw[if_neg h,if_neg (show ¬ k=(g.1,g.2.1) from fun e=>h (by rw[e];exact o)),if_neg (fun e=>h (by rw[e];exact o))]
   ·rcases List.mem_cons.1 m with rfl|m
    ·exact .inl o
    ·exact .inr ⟨x,by simp[m],rfl⟩
  ·rw[if_neg D]
   by_cases w:keyI g>keyI f
   ·rw[if_pos w]
    have p:=(zfh hf A).1 w
    have r:∀ x∈g::l,klt (fky f) (fky x):=fun x m=>by
     rcases List.mem_cons.1 m with rfl|m
     ·exact p
     ·exact z6l p (u x m)
    refine⟨List.pairwise_cons.2 ⟨r,G⟩,fun x m=>?_,fun k=>?_,fun x m=>?_⟩
    ·rcases List.mem_cons.1 m with rfl|m
     ·exact hf
     ·exact F x m
    ·rw[zla r,Option.getD_none,z8f];rfl
    ·rcases List.mem_cons.1 m with rfl|m
     ·exact .inl rfl
     ·exact .inr ⟨x,m,rfl⟩
   ·rw[if_neg w]
    have p:=(zfh A hf).1 (by omega)
    have B:¬ fky f=fky g:=fun e=>D ((zl2 A hf).2 e.symm)
    obtain⟨Q,R,S,O⟩:=zbo (J:=l) (f:=f) C (fun x m=>F x (by simp[m])) hf
    refine⟨List.pairwise_cons.2 ⟨fun x m=>?_,Q⟩,fun x m=>?_,fun k=>?_,fun x m=>?_⟩
    ·rcases O x m with h|⟨y,H,h⟩
     ·rw[h];exact p
     ·rw[<-h];exact u y H
    ·rcases List.mem_cons.1 m with rfl|m
     ·exact A
     ·exact R x m
    ·rw[zai,S,zai,zai,if_neg B]
     by_cases h:k=fky g
     ·rw[if_pos h,if_neg (fun e=>B (by rw[<-e];exact h)),if_pos h]
     ·rw[if_neg h,if_neg h]
    ·rcases List.mem_cons.1 m with rfl|m
     ·exact .inr ⟨x,by simp,rfl⟩
     ·rcases O x m with h|⟨y,H,h⟩
      ·exact .inl h
      ·exact .inr ⟨y,by simp[H],h⟩
structure RJ (R:Rk) (J:List Fr):Prop where
 n:RkN R
 s:SrtJ J
 k:∀ x ∈ J,FrK x
 e:∀ k,lkK R k=lkJ J k
theorem RJ.nil:RJ [] []:={ n:=List.nodup_nil,s:=List.Pairwise.nil,k:=fun _ h=>(nomatch h),e:=fun _=>rfl }
theorem RJ.add{R:Rk}{J:List Fr}(h:RJ R J){f:Fr}(hf:FrK f):RJ (rkA R f) (addR J f):=by
 obtain⟨m,o,p,r⟩:=zbo h.s h.k hf
 refine⟨h.n.st _ _,m,o,fun k=>?_⟩
 unfold rkA
 rw[zlb,p k,h.e,h.e]
theorem RJ.all{l:List Fr}:∀ {R:Rk} {J:List Fr},RJ R J->(∀ x∈l,FrK x)->RJ (l.foldl rkA R) (l.foldl addR J):=by
 induction l with
 | nil=>intro R J h _;exact h
 | cons f l p=>intro R J h m;exact p (h.add (m f (by simp))) fun x o=>m x (by simp[o])
theorem zvk{l:List Fr}(h:∀ x∈l,FrK x):RJ (rackF l) (z2y l):=RJ.nil.all h
theorem pig:∀(n:Nat) (l:List Nat),l.Nodup->(∀ x∈l,x<n)->l.length<=n
 | 0,l,_,h=>by
  cases l with
  | nil=>exact Nat.le_refl _
  | cons x l=>exact absurd (h x (by simp)) (Nat.not_lt_zero _)
 | n+1,l,p,h=>by
  by_cases r:n∈l
  ·have h1:=pig n (l.erase n) (p.erase n) fun x m=>by
    have o:=(p.mem_erase_iff).1 m
    have u:=h x o.2
    have w:=o.1
    omega
   rw[List.length_erase_of_mem r] at h1
   omega
  ·exact Nat.le_succ_of_le (pig n l p fun x m=>by
    have h1:=h x m
    have o:x≠n:=fun e=>r (e▸m)
    omega)
theorem zfw:∀ {a b:List Ky},a.Pairwise klt->b.Pairwise klt->(∀ k,k∈a↔k∈b)->a=b
 | [],[],_,_,_=>rfl
 | [],y::b,_,_,h=>by have:=(h y).2 (by simp);simp at this
 | x::a,[],_,_,h=>by have:=(h x).1 (by simp);simp at this
 | x::a,y::b,w,A,h=>by
  have m:=List.pairwise_cons.1 w
  have o:=List.pairwise_cons.1 A
  have u:x=y:=by
   rcases List.mem_cons.1 ((h x).1 (by simp)) with e|B
   ·exact e
   rcases List.mem_cons.1 ((h y).2 (by simp)) with e|C
   ·exact e.symm
   ·exact absurd (z6l (m.1 y C) (o.1 x B)) (z28 x)
  subst u
  rw[zfw m.2 o.2 fun k=>?_]
  have r:=h k
  simp only[List.mem_cons] at r
  constructor
  ·intro p
   rcases r.1 (.inr p) with e|e
   ·subst e;exact absurd (m.1 k p) (z28 k)
   ·exact e
  ·intro p
   rcases r.2 (.inr p) with e|e
   ·subst e;exact absurd (o.1 k p) (z28 k)
   ·exact e
theorem RJ.keys{R:Rk}{J:List Fr}(h:RJ R J)(k:Ky):k∈R.map (·.1)↔k∈J.map fky:=by rw[<-zlc,<- zc6,h.e]
theorem SrtJ.keys{J:List Fr}(h:SrtJ J):(J.map fky).Pairwise klt:=by unfold SrtJ at h;rw[List.pairwise_map];exact h
def frK(R:Rk)(k:Ky):Fr:=(k.1,k.2,(lkK R k).getD [])
theorem zdy:∀ {J:List Fr},SrtJ J->∀ x∈J,lkJ J (fky x)=some x.2.2
 | y::J,o,x,m=>by
  have h:=List.pairwise_cons.1 o
  rw[zai]
  rcases List.mem_cons.1 m with rfl|m
  ·rw[if_pos rfl]
  ·rw[if_neg (fun e=>z28 (fky y) (by have:=h.1 x m;rw[e] at this;exact this))]
   exact zdy h.2 x m
theorem RJ.frames{R:Rk}{J:List Fr}(h:RJ R J){m:List Ky}(p:m.Pairwise klt)(o:∀ k,k∈m↔k∈R.map (·.1)):m.map (frK R)=J:=by
 have e:m=J.map fky:=zfw p h.s.keys fun k=>by rw[o,h.keys]
 subst e
 rw[List.map_map]
 conv=>rhs;rw[<-List.map_id J]
 refine List.map_congr_left fun x r=>?_
 show frK R (fky x)=x
 unfold frK
 rw[h.e,zdy h.s x r];rfl
theorem RJ.len{R:Rk}{J:List Fr}(h:RJ R J):R.length=J.length:=by
 have w:(J.map fky).Nodup:=h.s.keys.imp fun m e=>by subst e;exact z28 _ m
 have o:∀ {a b:List Ky},a.Nodup->(∀ k∈a,k∈b)->a.length<=b.length:=by
  intro a
  induction a with
  | nil=>intro b _ _;exact Nat.zero_le _
  | cons x a B=>
   intro b A r
   have p:=List.nodup_cons.1 A
   have:=B (b:=b.erase x) p.2 fun k m=>(List.mem_erase_of_ne (fun e=>p.1 (by rw[<-e];exact m))).2 (r k (by simp[m]))
   rw[List.length_erase_of_mem (r x (by simp))] at this
   have u:0<b.length:=List.length_pos_of_mem (r x (by simp))
   rw[List.length_cons];omega
 have u:=o h.n fun k m=>(h.keys k).1 m
 have y:=o w fun k m=>(h.keys k).2 m
 simp only[List.length_map] at u y
 omega
