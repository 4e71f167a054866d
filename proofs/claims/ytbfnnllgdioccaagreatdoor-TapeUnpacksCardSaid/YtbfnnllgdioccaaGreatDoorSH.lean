/-
 Part of the proof of TapeUnpacks. No condition beyond those in each theorem.
-/
import Derived.Test.YtbfnnllgdioccaaGreatDoorSG
import Derived.Test.YtbfnnllgdioccaaGreatDoorTW
section
open Go PvL Go.Proofs
set_option linter.unusedSimpArgs false
set_option linter.unusedVariables false
variable {μ:Md}
namespace Go.Proofs.YtbfnnllgdioccaaGreatDoor.C
set_option maxHeartbeats 4000000 in
theorem z6y{M:Mem}{a b:Option (Nat × Nat)}{L:List Fr}{f f':Bool}{e e':Nat}(hs:FsV M a L)(hs':FsV M b L)(hl:L.length<=1000000)(hL:∀ z ∈ L,z.2.2.length<=1000000) :
  z9 Tryz.prog 33 [.slice a L.length f e,.slice b L.length f' e'] M (fun w M'=>w=.bool true /\ Grow M M'):=by
 refine zb k33 rfl ?_
 dsimp only[x33,zM,zO,zI,zF,zS,zB,zL,zA,zE,zN,zW,zC,zipE,Nat.reduceAdd]
 repeat' first|with_reducible intro _|refine sv ?_|refine sc ?_ ?_<;>(intro h;try exact sz h)|refine sg ?_ ?_<;>(intro h;first|exact sz h|refine sy h ?_)|exact sq|fail
 all_goals try(exfalso;omega)
 refine z8 (fun z E ms M'=>∃(k:Nat),z=L.length - k /\ k<=L.length /\ ms=[] /\ Has E [(0,.slice a L.length f e),(1,.slice b L.length f' e'),(5,I k)] /\ Grow M M')
  ?_ (L.length - 0) _ _ _ ⟨0,rfl,Nat.zero_le _,rfl,.cons rfl (.cons rfl (.cons rfl .nil)),Grow.refl _⟩
 rintro z E ms M2 ⟨k,rfl,hk,rfl,hE,hg2⟩
 refine zu hE ?_
 by_cases hlast:k=L.length
 ·subst hlast
  repeat' first|with_reducible intro _|refine sv ?_|refine sc ?_ ?_<;>(intro h;try exact sz h)|refine sg ?_ ?_<;>(intro h;first|exact sz h|refine sy h ?_)|exact sq|fail
  refine kf ?_
  exact⟨rfl,hg2⟩
 have hlt:k < L.length:=by omega
 obtain⟨i,o,bk,gk,uk,rfl,hrk,hsk⟩:=(hs.grow hg2).rd hlt
 obtain⟨i',o',bk',gk',uk',rfl,hrk',hsk'⟩:=(hs'.grow hg2).rd hlt
 have hln:=hL (fe L k) (by rw[z83 hlt];exact List.getElem_mem hlt)
 have cs:=zdj hsk hsk' (by omega) (by omega)
 rw[decide_eq_true rfl] at cs
 (have hrd0:=hrk;have hrd1:=hrk';repeat' (first|(with_reducible intro _)|refine sv ?_|(refine sc ?_ ?_<;>(intro h;try exact sz h))|((with_reducible first|apply zp|apply zr|apply d_pure0);exact gd;exact rfl;exact rfl;(first|exact cs))|refine sg ?_ ?_<;>(intro h;first|exact sz h|refine sy h ?_)|exact sq|fail))
 rename_i M3 hg3 q3
 exact zc (L.length - (k+1)) (by omega) ⟨k+1,rfl,by omega,rfl,.cons rfl (.cons rfl (.cons rfl .nil)),hg2.trans hg3⟩
set_option maxHeartbeats 4000000 in
theorem zfy{M:Mem}{v w:LV}{r:Rl}(hv:RlV M v r)(hw:RlV M w r)(hl:r.2.length<=1000000)(hL:∀ z ∈ r.2,z.2.2.length<=1000000) :
  z9 Tryz.prog 25 [v,w] M (fun u M'=>u=.bool true /\ Grow M M'):=by
 obtain⟨a,f,e,rfl,hs⟩:=hv
 obtain⟨b,f',e',rfl,hs'⟩:=hw
 refine zb k25 rfl ?_
 dsimp only[x25,zM,zO,zI,zF,zS,zB,zL,zA,zE,zN,zW,zC,zipE,Nat.reduceAdd]
 have hb:(r.1 == r.1)=true:=z4k _
 have cs:=fun M' hg=>z6y (M:=M') (f:=f) (f':=f') (e:=e) (e':=e') (hs.grow hg) (hs'.grow hg) hl hL
 repeat' first|with_reducible intro _|refine sv ?_|refine sc ?_ ?_<;>(intro h;try exact sz h)|((with_reducible first|apply zp|apply zr|apply d_pure0);exact gd;exact rfl;exact rfl;(first|exact cs _ (xg)))|refine sg ?_ ?_<;>(intro h;first|exact sz h|refine sy h ?_)|exact sq|fail
 ·refine kf ?_
  exact⟨rfl,xg⟩
 ·rw[hb] at h;cases h
abbrev prc(p:Int × Int):List LV:=[I p.1,I p.2]
def SlP(M:Mem)(a:Option (Nat × Nat))(L:List (Int × Int)):Prop:=L=[] ∨ ∃ i o,a=some (i,o) /\ ∀ k (hk:k < L.length),Rd M i (o+k*2) 2 (prc L[k])
theorem SlP.grow{M M':Mem}{a:Option (Nat × Nat)}{L:List (Int × Int)}(h:SlP M a L)(hg:Grow M M'):SlP M' a L :=
 h.imp id fun⟨i,o,h1,h2⟩=>⟨i,o,h1,fun k hk=>(h2 k hk).grow hg⟩
theorem SlP.rd{M:Mem}{a:Option (Nat × Nat)}{L:List (Int × Int)}(h:SlP M a L){k:Nat}(hk:k < L.length):∃ i o,a=some (i,o) /\ Rd M i (o+k*2) 2 [I L[k].1,I L[k].2]:=by
 rcases h with rfl|⟨i,o,h1,h2⟩
 ·exact absurd hk (Nat.not_lt_zero _)
 ·exact⟨i,o,h1,h2 k hk⟩
def PrV(M:Mem)(v:LV)(L:List (Int × Int)):Prop:=∃ a f e,v=.slice a L.length f e /\ SlP M a L
theorem PrV.grow{M M':Mem}{v:LV}{L:List (Int × Int)}(h:PrV M v L)(hg:Grow M M'):PrV M' v L:=by
 obtain⟨a,f,e,h1,h2⟩:=h
 exact⟨a,f,e,h1,h2.grow hg⟩
theorem PrV.vec{M:Mem}{b:Nat}{ty:TypeId}{v:LV}{L:List (Int × Int)}(h:Vec b 2 ty prc M v L):PrV M v L:=by
 obtain⟨a,f,e,h1,h2⟩:=h.rd (fun _ _=>rfl)
 exact⟨a,f,e,h1,h2⟩
set_option maxHeartbeats 2000000 in
theorem znu{M:Mem}{v w:LV}{L:List (Int × Int)}(hv:PrV M v L)(hw:PrV M w L)(hl:L.length<=1000000) :
  z9 Tryz.prog 34 [v,w] M (fun r M'=>r=.bool true /\ M'=M):=by
 obtain⟨a,f,e,rfl,ha⟩:=hv
 obtain⟨b,f',e',rfl,hb⟩:=hw
 refine zb k34 rfl ?_
 dsimp only[x34,zM,zO,zI,zF,zS,zB,zL,zA,zE,zN,zW,zC,zipE,Nat.reduceAdd]
 repeat' first|with_reducible intro _|refine sv ?_|refine sc ?_ ?_<;>(intro h;try exact sz h)|refine sg ?_ ?_<;>(intro h;first|exact sz h|refine sy h ?_)|exact sq|fail
 refine z8 (fun m E ms M'=>∃ k:Nat,m=L.length - k /\ k<=L.length /\ ms=[] /\ Has E [(0,.slice a L.length f e),(1,.slice b L.length f' e'),(5,I k)] /\ M'=M)
  ?_ L.length _ _ _ ⟨0,by omega,by omega,rfl,.cons rfl (.cons rfl (.cons rfl .nil)),rfl⟩
 rintro m E ms M1 ⟨k,rfl,hk,rfl,hE,rfl⟩
 refine zu hE ?_
 by_cases hlast:k=L.length
 ·subst hlast
  repeat' first|with_reducible intro _|refine sv ?_|refine sc ?_ ?_<;>(intro h;try exact sz h)|refine sg ?_ ?_<;>(intro h;first|exact sz h|refine sy h ?_)|exact sq|fail
  refine kf ?_
  exact⟨rfl,rfl⟩
 ·have hlt:k < L.length:=by omega
  obtain⟨i,o,rfl,hr⟩:=ha.rd hlt
  obtain⟨i2,o2,rfl,hr2⟩:=hb.rd hlt
  (have hrd0:=hr;have hrd1:=hr2;repeat' (first|(with_reducible intro _)|refine sv ?_|(refine sc ?_ ?_<;>(intro h;try exact sz h))|refine sg ?_ ?_<;>(intro h;first|exact sz h|refine sy h ?_)|exact sq|fail))
  refine zc (L.length - (k+1)) (by omega) ⟨k+1,rfl,by omega,rfl,.cons rfl (.cons rfl (.cons rfl .nil)),rfl⟩
theorem zih(L:List Bd)(p:Nat):(lostA L p).length<=L.length+1:=by
 unfold lostA
 split
 ·split
  ·rw[List.length_append,List.length_dropLast];simp
  ·simp
 ·simp
theorem zbg{s:ByteArray}:∀(k p:Nat) (F:List Fr) (L:List Bd),p<=s.size->L.length<=p->(whB s k p F L).2.length<=s.size
 | 0,p,F,L,hp,hl=>by show L.length<=_;omega
 | k+1,p,F,L,hp,hl=>by
  unfold whB
  split
  ·split
   ·rename_i x q hx
    have h1:=z9d hp hx
    exact zbg k q _ _ h1.2.2 (by omega)
   ·have:=zih L p
    exact zbg k (p+1) F _ (by omega) (by omega)
  ·show L.length<=_;omega
theorem zr0(s:ByteArray):(unP s).1.2.length<=128 /\ (∀ z ∈ (unP s).1.2,z.2.2.length<=64) /\ (0<=(unP s).2 /\ (unP s).2<=100):=by
 unfold unP
 split
 ·exact⟨by show 0<=128;omega,(fun _ h=>nomatch h),by show(0:Int)<=3 /\ (3:Int)<=100;omega⟩
 ·split
  ·rename_i r q h
   obtain⟨he,_⟩:=zgw h
   obtain⟨h1,h2,_⟩:=zb9 he
   exact⟨h2,fun z hz=>(z32 (h1 z hz)).2,by show(0:Int)<=0 /\ (0:Int)<=100;omega⟩
  ·exact⟨by show 0<=128;omega,(fun _ h=>nomatch h),by show(0:Int)<=5 /\ (5:Int)<=100;omega⟩
theorem zoq(s:ByteArray):(salP s).1.1.length<=128 /\ (∀ z ∈ (salP s).1.1,z.2.2.length<=64) /\ (salP s).1.2.length<=65536 /\ (0<=(salP s).2 /\ (salP s).2<=100):=by
 unfold salP
 split
 ·exact⟨by show 0<=128;omega,(fun _ h=>nomatch h),by show 0<=65536;omega,by show(0:Int)<=3 /\ (3:Int)<=100;omega⟩
 ·split
  ·exact⟨by show 0<=128;omega,(fun _ h=>nomatch h),by show 0<=65536;omega,by show(0:Int)<=6 /\ (6:Int)<=100;omega⟩
  ·refine⟨by show(z1j (whA s).1).length<=128;omega,fun z hz=>?_,?_,by show(0:Int)<=0 /\ (0:Int)<=100;omega⟩
   ·have h1:=z32 (zhu (J:=[]) (fun _ h=>absurd h List.not_mem_nil) (zn6 s).1 z hz)
    exact h1.2
   ·show(whA s).2.length<=65536
    have:=zbg (s:=s) s.size 0 [] [] (Nat.zero_le _) (Nat.le_refl _)
    unfold whA;omega
set_option maxHeartbeats 16000000 in
theorem zam{M:Mem}{s:ByteArray}(hs:s.size<=1000000000000000)(hB:Base M)(hp:preOk M tabs=true) :
  CallN Tryz.prog 8 [.str s] M (fun r _=>r=.bool true):=by
 refine z3j k8 rfl ?_
 dsimp only[x8,zM,zO,zI,zF,zS,zB,zL,zA,zE,zN,zW,zC,zipE,Nat.reduceAdd]
 obtain⟨hu1,hu2,hu3⟩:=zr0 s
 obtain⟨hl1,hl2,hl3,hl4⟩:=zoq s
 have cR:=fun M'=>zhb (s:=s) (M:=M') hs
 have cS:=fun M'=>zfw (s:=s) (M:=M') hs
 rw[zr1] at cR
 rw[zor] at cS
 repeat' first|with_reducible intro _|refine sv ?_|refine sc ?_ ?_<;>(intro h;try exact sz h)|refine sg ?_ ?_<;>(intro h;first|exact sz h|refine sy h ?_)|exact sq|fail
 refine zt (by exact gd) rfl rfl (zk8 hs) ?_
 rintro w1 M1 ⟨v1,rfl,hv1,hg1⟩
 obtain⟨a1,f1,e1,rfl,hs1⟩:=id hv1
 repeat' first|with_reducible intro _|refine sv ?_|refine sc ?_ ?_<;>(intro h;try exact sz h)|refine sg ?_ ?_<;>(intro h;first|exact sz h|refine sy h ?_)|exact sq|fail
 rename_i n2 M2 A1 A2 A3 M3 A4 A5 A6
 have hg13:Grow M1 M3:=xg
 have hv13:=hv1.grow hg13
 clear A1 A4
 refine zt (by exact gd) rfl rfl (cR M3) ?_
 rintro w4 M4 ⟨v4,rfl,hv4,hg4⟩
 obtain⟨a4,f4,e4,rfl,hs4⟩:=id hv4
 have hv14:=hv13.grow hg4
 have hA64:=At.grow hg4 A6
 repeat' first|with_reducible intro _|refine sv ?_|refine sc ?_ ?_<;>(intro h;try exact sz h)|refine sg ?_ ?_<;>(intro h;first|exact sz h|refine sy h ?_)|exact sq|fail
 rename_i n5 M5 B1 B2 B3 M6 B4 B5 B6
 have hg46:Grow M4 M6:=xg
 have hv16:=hv14.grow hg46
 have hv46:=hv4.grow hg46
 have hA66:=At.grow hg46 hA64
 have hg6:Grow M M6:=((hg1.trans hg13).trans hg4).trans hg46
 clear B1 B4
 have csR:=fun M' (hg:Grow M6 M')=>zfy (hv16.grow hg) (hv46.grow hg) (by omega) (fun z hz=>by have:=hu2 z hz;omega)
 repeat' first|with_reducible intro _|refine sv ?_|refine sc ?_ ?_<;>(intro h;try exact sz h)|((with_reducible first|apply zp|apply zr|apply d_pure0);exact gd;exact rfl;exact rfl;(first|exact csR _ (xg)))|refine sg ?_ ?_<;>(intro h;first|exact sz h|refine sy h ?_)|exact sq|fail
 rename_i M7 g7 l7
 have hg7:=hg6.trans g7
 clear csR hA66 hv16 hv46 cR
 refine z93 (by exact gd) rfl rfl (zh9 hs) ?_
 rintro w8 M8 ⟨a8,f8,e8,v8,rfl,hf8,hv8,hg8⟩
 have hf8:=hf8.to
 have hp8:=PrV.vec hv8
 obtain⟨b8,bf8,be8,rfl,hsp8⟩:=id hp8
 have hgg8:=hg7.trans hg8
 repeat' first|with_reducible intro _|refine sv ?_|refine sc ?_ ?_<;>(intro h;try exact sz h)|refine sg ?_ ?_<;>(intro h;first|exact sz h|refine sy h ?_)|exact sq|fail
 refine zt (by exact gd) rfl rfl (cS M8) ?_
 rintro w9 M9 ⟨a9,f9,e9,v9,rfl,hf9,hv9,hg9⟩
 have hp9:=PrV.vec hv9
 obtain⟨b9,bf9,be9,rfl,hsp9⟩:=id hp9
 have hf89:=hf8.grow hg9
 have hp89:=hp8.grow hg9
 have hgg9:=hgg8.trans hg9
 have cF:=fun M' (hg:Grow M9 M')=>z6y (f:=f8) (e:=e8) (f':=f9) (e':=e9) (hf89.grow hg) (hf9.grow hg) (by omega) (fun z hz=>by have:=hl2 z hz;omega)
 have cB:=fun M' (hg:Grow M9 M')=>znu (hp89.grow hg) (hp9.grow hg) (by omega)
 have hpp:∀ M',Grow M9 M'->preOk M' tabs=true:=fun M' hg=>z8u (Ext.of_grow (hgg9.trans hg) hB) hp
 clear cS
 repeat' first|with_reducible intro _|refine sv ?_|refine sc ?_ ?_<;>(intro h;try exact sz h)|((with_reducible first|apply z06|apply z0k|apply d_same0);exact gd;exact rfl;exact rfl;(first|exact cB _ (xg)|exact znw (hpp _ (xg))))|((with_reducible first|apply zp|apply zr|apply d_pure0);exact gd;exact rfl;exact rfl;(first|exact cF _ (xg)))|refine sg ?_ ?_<;>(intro h;first|exact sz h|refine sy h ?_)|exact sq|fail
 all_goals try(exfalso;simp_all;done)
 refine kf ?_
 rfl
