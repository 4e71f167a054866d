/-
 Part of the proof of TapeRepairs. No condition beyond those in each theorem.
-/
import Derived.Test.YtbfnnllgdioccaaGreatDoorSF
import Derived.Test.YtbfnnllgdioccaaGreatDoorTW
import Derived.Test.YtbfnnllgdioccaaGreatDoorSE
import Derived.Test.YtbfnnllgdioccaaGreatDoorSA
import Derived.Test.YtbfnnllgdioccaaGreatDoorSD
section
open Go PvL Go.Proofs
set_option linter.unusedSimpArgs false
set_option linter.unusedVariables false
variable {μ:Md}
namespace Go.Proofs.YtbfnnllgdioccaaGreatDoor.C
set_option maxHeartbeats 4000000 in
theorem zbk{M:Mem}{a b:Option (Nat × Nat)}{L:List Fr}{f f':Bool}{e e':Nat}(hs:FsV M a L)(hs':FsV M b L)(hl:L.length<=1000000)(hL:∀ z ∈ L,z.2.2.length<=1000000) :
  z9 Tryz.prog 33 [.slice a L.length f e,.slice b L.length f' e'] M (fun w M'=>w=.bool true /\ Grow M M'):=by
 refine zb k33 rfl ?_
 dsimp only[x33,zM,zO,zI,zF,zS,zB,zL,zA,zE,zN,zW,zC,zipE,Nat.reduceAdd]
 repeat' first|with_reducible intro _|refine sv ?_|refine sc ?_ ?_<;>(intro h;try exact sz h)|refine sg ?_ ?_<;>(intro h;first|exact sz h|refine sy h ?_)|exact sq|fail
 all_goals try(exfalso;omega)
 refine z8 (fun z E ms M'=>∃(k:Nat),z=L.length - k /\ k<=L.length /\ ms=[] /\ Has E [(0,.slice a L.length f e),(1,.slice b L.length f' e'),(5,I k)] /\ Grow M M')
  ?_ (L.length - 0) _ _ _ ⟨0,rfl,Nat.zero_le _,rfl,.cons rfl (.cons rfl (.cons rfl .nil)),Grow.refl _⟩
 rintro z E ms M2 ⟨k,rfl,hk,rfl,hE,hg2⟩
 refine zy hE ?_
 by_cases hlast:k=L.length
 ·subst hlast
  repeat' first|with_reducible intro _|refine sv ?_|refine sc ?_ ?_<;>(intro h;try exact sz h)|refine sg ?_ ?_<;>(intro h;first|exact sz h|refine sy h ?_)|exact sq|fail
  refine kf ?_
  exact⟨rfl,hg2⟩
 have hlt:k < L.length:=by omega
 obtain⟨i,o,bk,gk,uk,rfl,hrk,hsk⟩:=(hs.grow hg2).rd hlt
 obtain⟨i',o',bk',gk',uk',rfl,hrk',hsk'⟩:=(hs'.grow hg2).rd hlt
 have hln:=hL (fe L k) (by rw[zbz hlt];exact List.getElem_mem hlt)
 have cs:=zd0 hsk hsk' (by omega) (by omega)
 rw[decide_eq_true rfl] at cs
 (have hrd0:=hrk;have hrd1:=hrk';repeat' (first|(with_reducible intro _)|refine sv ?_|(refine sc ?_ ?_<;>(intro h;try exact sz h))|((with_reducible first|apply z0g|apply z0h|apply d_pure0);exact gd;exact rfl;exact rfl;(first|exact cs))|refine sg ?_ ?_<;>(intro h;first|exact sz h|refine sy h ?_)|exact sq|fail))
 rename_i M3 hg3 q3
 exact zd (L.length - (k+1)) (by omega) ⟨k+1,rfl,by omega,rfl,.cons rfl (.cons rfl (.cons rfl .nil)),hg2.trans hg3⟩
set_option maxHeartbeats 4000000 in
theorem zf4{M:Mem}{v w:LV}{r:Rl}(hv:RlV M v r)(hw:RlV M w r)(hl:r.2.length<=1000000)(hL:∀ z ∈ r.2,z.2.2.length<=1000000) :
  z9 Tryz.prog 25 [v,w] M (fun u M'=>u=.bool true /\ Grow M M'):=by
 obtain⟨a,f,e,rfl,hs⟩:=hv
 obtain⟨b,f',e',rfl,hs'⟩:=hw
 refine zb k25 rfl ?_
 dsimp only[x25,zM,zO,zI,zF,zS,zB,zL,zA,zE,zN,zW,zC,zipE,Nat.reduceAdd]
 have hb:(r.1 == r.1)=true:=z60 _
 have cs:=fun M' hg=>zbk (M:=M') (f:=f) (f':=f') (e:=e) (e':=e') (hs.grow hg) (hs'.grow hg) hl hL
 repeat' first|with_reducible intro _|refine sv ?_|refine sc ?_ ?_<;>(intro h;try exact sz h)|((with_reducible first|apply z0g|apply z0h|apply d_pure0);exact gd;exact rfl;exact rfl;(first|exact cs _ (xg)))|refine sg ?_ ?_<;>(intro h;first|exact sz h|refine sy h ?_)|exact sq|fail
 ·refine kf ?_
  exact⟨rfl,xg⟩
 ·rw[hb] at h;cases h
def SlS(M:Mem)(a:Option (Nat × Nat))(L:List ByteArray):Prop:=L=[] ∨ ∃ i o,a=some (i,o) /\ ∀ k (hk:k < L.length),Rd1 M i (o+k*1) (.str L[k])
theorem SlS.grow{M M':Mem}{a:Option (Nat × Nat)}{L:List ByteArray}(h:SlS M a L)(hg:Grow M M'):SlS M' a L :=
 h.imp id fun⟨i,o,h1,h2⟩=>⟨i,o,h1,fun k hk=>(h2 k hk).grow hg⟩
theorem SlS.rd{M:Mem}{a:Option (Nat × Nat)}{L:List ByteArray}(h:SlS M a L){k:Nat}(hk:k < L.length):∃ i o,a=some (i,o) /\ Rd1 M i (o+k*1) (.str L[k]):=by
 rcases h with rfl|⟨i,o,h1,h2⟩
 ·exact absurd hk (Nat.not_lt_zero _)
 ·exact⟨i,o,h1,h2 k hk⟩
theorem zjp{m:Mem}{b:Nat}{l:List ByteArray}{cs:List LV}(h:Enc m (.sl .str b) l cs):∃ a f,cs=[.slice a l.length f 1] /\ SlS m a l /\ l.length<=reachBytes /\ ∀ x ∈ l,x.size<=reachBytes:=by
 obtain⟨a,f,h1,h2,h3⟩:=h
 by_cases hl:l=[]
 ·subst hl
  exact⟨a,f,h1,.inl rfl,h2.1,fun x hx=>nomatch hx⟩
 ·obtain⟨i,o,g1,g2,_,g3⟩:=h3 hl
  have key:∀ k (hk:k < l.length),Rd1 m i (o+k*1) (.str l[k]) /\ l[k].size<=reachBytes:=fun k hk=>by
   obtain⟨c,g4,g5,g6⟩:=g3 k hk
   rw[g5] at g4
   exact⟨z9w ⟨g4,g2⟩,g6⟩
  refine⟨a,f,h1,.inr ⟨i,o,g1,fun k hk=>(key k hk).1⟩,h2.1,fun x hx=>?_⟩
  obtain⟨k,hk,rfl⟩:=List.getElem_of_mem hx
  exact(key k hk).2
def lgB(s:ByteArray):Bool:=decide (65536 < s.size)
def frsC(L:List ByteArray):List Fr:=L.flatMap fun s=>(whA s).1
def repF(n:ByteArray)(L:List ByteArray):Rl × Int :=
 if nmB n=true then(if L.length<=8 /\ L.any lgB=false then(if 128 <(z0u (frsC L)).length then(zRl,6) else((n,z0u (frsC L)),0)) else(zRl,3)) else(zRl,2)
theorem zge(s:ByteArray)(hs:s.size<=1000000000000000)(M:Mem):z9 Tryz.prog 82 [.str s] M (fun w M'=>w=.bool (lgB s) /\ M'=M):=by
 refine zb k82 rfl ?_
 dsimp only[x82,zM,zO,zI,zF,zS,zB,zL,zA,zE,zN,zW,zC,zipE,Nat.reduceAdd]
 repeat' first|with_reducible intro _|refine sv ?_|refine sc ?_ ?_<;>(intro h;try exact sz h)|refine sg ?_ ?_<;>(intro h;first|exact sz h|refine sy h ?_)|exact sq|fail
 refine kf ?_
 refine⟨?_,rfl⟩
 unfold lgB
 simp[packed]
 omega
set_option maxHeartbeats 1000000 in
theorem zbj{a:Option (Nat × Nat)}{n:Nat}{f:Bool}{e:Nat}{g:FuncId}{fi ca:List LV}{M:Mem}(elem:Nat->LV)(p:Nat->Bool)(hn:n<=1000000000000000)
  (hread:∀ k,k < n->∃ i o,a=some (i,o) /\ Rd1 M i (o+k*1) (elem k)) (hp:∀ k,k < n->∀ M',Grow M M'->z9 Tryz.prog g (fi ++ [elem k] ++ ca) M' (fun w M''=>w=.bool (p k) /\ M''=M')) :
  z9 Tryz.prog 129 [.slice a n f e,.func (.func g) fi ca] M (fun w M'=>∃ r:Int,w=I r /\ (0<=r ↔(List.range n).any p=true) /\ M'=M):=by
 refine zb k129 rfl ?_
 dsimp only[x129,zM,zO,zI,zF,zS,zB,zL,zA,zE,zN,zW,zC,zipE,Nat.reduceAdd]
 repeat' first|with_reducible intro _|refine sv ?_|refine sc ?_ ?_<;>(intro h;try exact sz h)|refine sg ?_ ?_<;>(intro h;first|exact sz h|refine sy h ?_)|exact sq|fail
 refine z8 (fun m E ms M'=>∃ k:Nat,m=n - k /\ k<=n /\ ms=[] /\ Has E [(0,.slice a n f e),(1,.func (.func g) fi ca),(7,I n),(8,I k)] /\ M'=M /\ ∀ j,j < k->p j=false)
  ?_ n _ _ _ ⟨0,by omega,by omega,rfl,.cons rfl (.cons rfl (.cons rfl (.cons rfl .nil))),rfl,fun j hj=>absurd hj (Nat.not_lt_zero _)⟩
 rintro m E ms M1 ⟨k,rfl,hk,rfl,hE,rfl,hall⟩
 refine zy hE ?_
 by_cases hlast:k=n
 ·subst hlast
  repeat' first|with_reducible intro _|refine sv ?_|refine sc ?_ ?_<;>(intro h;try exact sz h)|refine sg ?_ ?_<;>(intro h;first|exact sz h|refine sy h ?_)|exact sq|fail
  refine kf ?_
  refine⟨-1,rfl,?_,rfl⟩
  rw[z4a]
  exact⟨fun h=>by omega,fun⟨j,h1,h2⟩=>by rw[hall j h1] at h2;cases h2⟩
 have hlt:k < n:=by omega
 obtain⟨i,o,rfl,hr⟩:=hread k hlt
 have hc:=hp k hlt M1 (Grow.refl _)
 cases hpk:p k with
 | true =>
  rw[hpk] at hc
  (have hrd0:=hr;repeat' (first|(with_reducible intro _)|refine sv ?_|(refine sc ?_ ?_<;>(intro h;try exact sz h))|((with_reducible first|apply z02|apply z0f|apply d_same0);exact gd;exact rfl;exact rfl;(first|exact hc))|refine sg ?_ ?_<;>(intro h;first|exact sz h|refine sy h ?_)|exact sq|fail))
  refine kf ?_
  refine⟨k,rfl,?_,rfl⟩
  rw[z4a]
  exact⟨fun _=>⟨k,hlt,hpk⟩,fun _=>by omega⟩
 | false =>
  rw[hpk] at hc
  (have hrd0:=hr;repeat' (first|(with_reducible intro _)|refine sv ?_|(refine sc ?_ ?_<;>(intro h;try exact sz h))|((with_reducible first|apply z02|apply z0f|apply d_same0);exact gd;exact rfl;exact rfl;(first|exact hc))|refine sg ?_ ?_<;>(intro h;first|exact sz h|refine sy h ?_)|exact sq|fail))
  refine zd (n - (k+1)) (by omega) ⟨k+1,rfl,by omega,rfl,.cons rfl (.cons rfl (.cons rfl (.cons rfl .nil))),rfl,fun j hj=>?_⟩
  by_cases hjk:j=k
  ·subst hjk;exact hpk
  ·exact hall j (by omega)
theorem z7h{a:Option (Nat × Nat)}{n:Nat}{f:Bool}{e:Nat}{g:FuncId}{fi ca:List LV}{M:Mem}(elem:Nat->LV)(p:Nat->Bool)(hn:n<=1000000000000000)
  (hread:∀ k,k < n->∃ i o,a=some (i,o) /\ Rd1 M i (o+k*1) (elem k)) (hp:∀ k,k < n->∀ M',Grow M M'->z9 Tryz.prog g (fi ++ [elem k] ++ ca) M' (fun w M''=>w=.bool (p k) /\ M''=M')) :
  z9 Tryz.prog 81 [.slice a n f e,.func (.func g) fi ca] M (fun w M'=>w=.bool ((List.range n).any p) /\ M'=M):=by
 refine zb k81 rfl ?_
 dsimp only[x81,zM,zO,zI,zF,zS,zB,zL,zA,zE,zN,zW,zC,zipE,Nat.reduceAdd]
 have hc:=zbj (f:=f) (e:=e) elem p hn hread hp
 repeat' first|with_reducible intro _|refine sv ?_|refine sc ?_ ?_<;>(intro h;try exact sz h)|((with_reducible first|apply zx|apply z0e|apply x_call0);exact gd;exact rfl;exact rfl;(first|exact hc))|refine sg ?_ ?_<;>(intro h;first|exact sz h|refine sy h ?_)|exact sq|fail
 rename_i hq
 obtain⟨r,rfl,hr,rfl⟩:=hq
 repeat' first|with_reducible intro _|refine sv ?_|refine sc ?_ ?_<;>(intro h;try exact sz h)|refine sg ?_ ?_<;>(intro h;first|exact sz h|refine sy h ?_)|exact sq|fail
 refine kf ?_
 refine⟨?_,rfl⟩
 exact congrArg LV.bool (by rw[Bool.eq_iff_iff,decide_eq_true_iff];exact hr)
theorem zor{M:Mem}{a:Option (Nat × Nat)}{L:List ByteArray}{f:Bool}{e:Nat}(hs:SlS M a L)(hL:L.length<=1000000000000000)(hb:∀ s ∈ L,s.size<=1000000000000000) :
  z9 Tryz.prog 81 [.slice a L.length f e,.func (.func 82) [] []] M (fun w M'=>w=.bool (L.any lgB) /\ M'=M):=by
 have:=z7h (f:=f) (e:=e) (g:=82) (fi:=[]) (ca:=[]) (M:=M) (a:=a) (n:=L.length) (fun k=>.str (L.getD k ⟨#[]⟩)) (fun k=>lgB (L.getD k ⟨#[]⟩)) hL (fun k hk=>by
  obtain⟨i,o,h1,h2⟩:=hs.rd hk
  exact⟨i,o,h1,by rw[List.getD_eq_getElem?_getD,List.getElem?_eq_getElem hk];exact h2⟩) (fun k hk M' hg=>zge _ (by rw[List.getD_eq_getElem?_getD,List.getElem?_eq_getElem hk];exact hb _ (List.getElem_mem hk)) M')
 have e1:(List.range L.length).any (fun k=>lgB (L.getD k ⟨#[]⟩))=L.any lgB:=by
  rw[Bool.eq_iff_iff,z4a,List.any_eq_true]
  constructor
  ·rintro⟨j,h1,h2⟩
   refine⟨L[j],List.getElem_mem h1,?_⟩
   rw[List.getD_eq_getElem?_getD,List.getElem?_eq_getElem h1] at h2;exact h2
  ·rintro⟨x,h1,h2⟩
   obtain⟨j,h3,rfl⟩:=List.getElem_of_mem h1
   exact⟨j,h3,by rw[List.getD_eq_getElem?_getD,List.getElem?_eq_getElem h3];exact h2⟩
 rw[e1] at this;exact this
theorem z68(L:List ByteArray):FrOk (frsC L):=fun x hx=>by
 obtain⟨s,_,h⟩:=List.mem_flatMap.1 hx
 exact(zim s).1 x h
theorem zlk{L:List ByteArray}{k:Nat}(h:k < L.length):frsC (L.take (k+1))=frsC (L.take k) ++(whA L[k]).1:=by
 unfold frsC
 rw[List.take_succ_eq_append_getElem h,List.flatMap_append];simp
theorem z76:∀(L:List ByteArray),L.any lgB=false->(frsC L).length<=65536*L.length
 | [],_=>Nat.le_refl _
 | s :: L,h=>by
  rw[List.any_cons,Bool.or_eq_false_iff] at h
  have h1:¬ 65536 < s.size:=of_decide_eq_false h.1
  have h2:=z76 L h.2
  have h3:=(zim s).2
  show((whA s).1 ++ frsC L).length<=_
  rw[List.length_append,List.length_cons];omega
theorem zn1{L:List ByteArray}(h:L.any lgB=false){k:Nat}(hk:k < L.length):L[k].size<=65536:=by
 have h1:=List.any_eq_false.1 h L[k] (List.getElem_mem hk)
 have h2:¬ 65536 < L[k].size:=fun h3=>h1 (decide_eq_true h3)
 omega
set_option maxHeartbeats 8000000 in
theorem zjc{M:Mem}{n:ByteArray}{a:Option (Nat × Nat)}{L:List ByteArray}{f:Bool}{e:Nat}(hs:SlS M a L)(hn:n.size<=1000000000000000)(hL:L.length<=1000000000000000)(hb:∀ s ∈ L,s.size<=1000000000000000) :
  CallN Tryz.prog 38 [.str n,.slice a L.length f e] M (fun w M'=>∃ v,w=.tup [v,I (repF n L).2] /\ RlV M' v (repF n L).1 /\ Grow M M'):=by
 refine z3d k38 rfl ?_
 dsimp only[x38,zM,zO,zI,zF,zS,zB,zL,zA,zE,zN,zW,zC,zipE,Nat.reduceAdd]
 have cn:=fun M=>zjb n hn M
 have cl:=fun M' (hg:Grow M M')=>zor (f:=f) (e:=e) (hs.grow hg) hL hb
 by_cases hnm:nmB n=true
 case neg =>
  have hj:repF n L=(zRl,2):=by unfold repF;rw[if_neg hnm]
  rw[hj]
  rw[Bool.not_eq_true] at hnm
  rw[hnm] at cn
  repeat' first|with_reducible intro _|refine sv ?_|refine sc ?_ ?_<;>(intro h;try exact sz h)|((with_reducible first|apply z02|apply z0f|apply d_same0);exact gd;exact rfl;exact rfl;(first|exact cn _))|refine sg ?_ ?_<;>(intro h;first|exact sz h|refine sy h ?_)|exact sq|fail
  refine kf ?_
  exact⟨_,rfl,z2v _,xg⟩
 rw[hnm] at cn
 by_cases hok:L.length<=8 /\ L.any lgB=false
 case neg =>
  have hj:repF n L=(zRl,3):=by unfold repF;rw[if_pos hnm,if_neg hok]
  rw[hj]
  by_cases h8:L.length<=8
  ·have hlg:L.any lgB=true:=by
    cases hq:L.any lgB with
    | true=>rfl
    | false=>exact absurd ⟨h8,hq⟩ hok
   rw[hlg] at cl
   repeat' first|with_reducible intro _|refine sv ?_|refine sc ?_ ?_<;>(intro h;try exact sz h)|((with_reducible first|apply z02|apply z0f|apply d_same0);exact gd;exact rfl;exact rfl;(first|exact cn _|exact cl _ (xg)))|refine sg ?_ ?_<;>(intro h;first|exact sz h|refine sy h ?_)|exact sq|fail
   all_goals first|(exfalso;omega)|skip
   refine kf ?_
   exact⟨_,rfl,z2v _,xg⟩
  ·repeat' first|with_reducible intro _|refine sv ?_|refine sc ?_ ?_<;>(intro h;try exact sz h)|((with_reducible first|apply z02|apply z0f|apply d_same0);exact gd;exact rfl;exact rfl;(first|exact cn _))|refine sg ?_ ?_<;>(intro h;first|exact sz h|refine sy h ?_)|exact sq|fail
   all_goals first|(exfalso;omega)|skip
   refine kf ?_
   exact⟨_,rfl,z2v _,xg⟩
 have hj:repF n L=if 128 <(z0u (frsC L)).length then(zRl,6) else((n,z0u (frsC L)),0):=by unfold repF;rw[if_pos hnm,if_pos hok]
 rw[hj]
 obtain⟨h8,hlg⟩:=hok
 rw[hlg] at cl
 repeat' first|with_reducible intro _|refine sv ?_|refine sc ?_ ?_<;>(intro h;try exact sz h)|((with_reducible first|apply z02|apply z0f|apply d_same0);exact gd;exact rfl;exact rfl;(first|exact cn _|exact cl _ (xg)))|refine sg ?_ ?_<;>(intro h;first|exact sz h|refine sy h ?_)|exact sq|fail
 all_goals first|(exfalso;omega)|skip
 rename_i n1 M1 A1 A2 A3 A3x A3y r M2 A4 A5 A6
 have hR2:=RkM.nil A4
 have g2:Grow M M2:=xg
 have a2:At M2 n1 (.cells true [.str ⟨#[]⟩,.slice none 0 true 0] 24):=xm
 have hr1:n1 < r:=by omega
 have hrM:M.next<=r:=by omega
 clear A1 A4 cl cn
 refine z8 (fun z E ms M'=>∃(k:Nat),z=L.length - k /\ k<=L.length /\ ms=[] /\ Has E [(0,.str n),(4,.ptr (some (n1,0))),(6,.map (some r)),(24,.slice a L.length f e),(25,I L.length),(26,I k)] /\
   RkM M' r ((frsC (L.take k)).foldl rkA []) /\ RkB ((frsC (L.take k)).foldl rkA []) /\ At M' n1 (.cells true [.str ⟨#[]⟩,.slice none 0 true 0] 24) /\ Grow M M')
  ?_ (L.length - 0) _ _ _ ⟨0,rfl,Nat.zero_le _,rfl,.cons rfl (.cons rfl (.cons rfl (.cons rfl (.cons rfl (.cons rfl .nil))))),hR2,RkB.nil,a2,g2⟩
 clear hR2 a2
 rintro z E ms N ⟨k,rfl,hk,rfl,hE,hR,hB,ha,hg⟩
 refine zy hE ?_
 by_cases hlast:k=L.length
 ·subst hlast
  rw[List.take_length] at hR hB
  have hln:=z76 L hlg
  have hrl:=zck (frsC L)
  unfold rackF at hrl
  have hrj:=zpn (z68 L).k
  unfold rackF at hrj
  repeat' first|with_reducible intro _|refine sv ?_|refine sc ?_ ?_<;>(intro h;try exact sz h)|refine sg ?_ ?_<;>(intro h;first|exact sz h|refine sy h ?_)|exact sq|fail
  refine z8p gd rfl rfl (zjf hR hrj (ne9 (z68 L)) (by omega)) ?_
  rintro w3 M3 ⟨hc,hg3⟩
  have a3:=At.grow hg3 ha
  have g3:=hg.trans hg3
  clear hg hg3 ha hR
  rcases hc with⟨hl,aj,fj,ej,rfl,hf3⟩|⟨hl,rfl⟩
  ·rw[if_neg (by omega)]
   repeat' first|with_reducible intro _|refine sv ?_|refine sc ?_ ?_<;>(intro h;try exact sz h)|refine sg ?_ ?_<;>(intro h;first|exact sz h|refine sy h ?_)|exact sq|fail
   rename_i M14 hU14 e14 hA14
   have g14:Grow M M14:=g3.upd hU14 (by omega)
   refine kf ?_
   exact⟨_,rfl,⟨aj,fj,ej,rfl,(FsV1.updr hf3 a3 hU14).to⟩,g14⟩
  ·rw[if_pos hl]
   repeat' first|with_reducible intro _|refine sv ?_|refine sc ?_ ?_<;>(intro h;try exact sz h)|refine sg ?_ ?_<;>(intro h;first|exact sz h|refine sy h ?_)|exact sq|fail
   rename_i M14 hU14 e14 hA14
   have g14:Grow M M14:=g3.upd hU14 (by omega)
   refine kf ?_
   exact⟨_,rfl,z2v _,g14⟩
 have hlt:k < L.length:=by omega
 obtain⟨i,o,rfl,hrd⟩:=(hs.grow hg).rd hlt
 have hsz:=zn1 hlg hlt
 have hrN:r < N.next:=hR.lt
 (have hrd0:=hrd;repeat' (first|(with_reducible intro _)|refine sv ?_|(refine sc ?_ ?_<;>(intro h;try exact sz h))|refine sg ?_ ?_<;>(intro h;first|exact sz h|refine sy h ?_)|exact sq|fail))
 refine zx gd rfl rfl (zmn hR hB (by omega)) ?_
 rintro w M4 ⟨hR4,hB4,-,hk4⟩
 rw[<-List.foldl_append,<- zlk hlt] at hR4 hB4
 have a4:=ha.keep hk4 (show ¬ n1=r by omega)
 have g4:Grow M M4:=Keep.to_grow' hg hk4 (fun i hi=>by omega)
 clear hk4 ha hg hR
 repeat' first|with_reducible intro _|refine sv ?_|refine sc ?_ ?_<;>(intro h;try exact sz h)|refine sg ?_ ?_<;>(intro h;first|exact sz h|refine sy h ?_)|exact sq|fail
 refine zd (L.length - (k+1)) (by omega) ⟨k+1,rfl,by omega,rfl,.cons rfl (.cons rfl (.cons rfl (.cons rfl (.cons rfl (.cons rfl .nil))))),hR4,hB4,a4,g4⟩
theorem FwLN.app{N:Nat->Prop}{M:Mem}{xs xs':List FW}{fs fs':List Fr}(h:FwLN N M xs fs)(h':FwLN N M xs' fs'):FwLN N M (xs ++ xs') (fs ++ fs'):=by
 induction h with
 | nil=>exact h'
 | cons h _ ih=>exact .cons h ih
theorem zik{b:Nat}{ty:TypeId}{M:Mem}{v:LV}{l:List FW}(h:Vec b 3 ty fwc M v l)(hn:0 < l.length):z0v v=some l.length /\ z0d 3 l.length v M=some (l.flatMap fwc):=by
 rcases h with⟨h0,_⟩|⟨i,rfl,h2,_⟩
 ·rw[h0] at hn;exact absurd hn (by decide)
 ·exact⟨rfl,z33 (enc:=fwc) (fun _ _=>rfl) (fun k hk=>z1v (enc:=fwc) (l:=l) h2 (fun _ _=>rfl) hk)⟩
theorem zku{P:Program}[Orc P]{s0 b:Nat}{ty:TypeId}{E:Env}{K:Env->Mem->Prop}{ll:List XG}{d:Nat}{g:Option (Nat × Bool)}{s x:XO}{by':Nat}{z:List LV}{M:Mem}{v xv:LV}{b':Nat}{ty':TypeId}{xs xs':List FW}{F F':List Fr}{μ:Md}
  (hg:GOn E g) (hv:Vec b 3 ty fwc M v xs) (hF:FwLN (NV v) M xs F) (hv':Vec b' 3 ty' fwc M xv xs') (hF':FwLN (NV v) M xs' F') (hs:xval E s=some v) (hx:xval E x=some xv) (hb:(2*(xs.length+xs'.length)+2048)*by'<=140737488355328) (hz:(Nat.ble 1 3 && (Nat.ble 1 by' && Nat.beq z.length 3))=true) (hbM:b<=M.next)
  (hk:∀ v' M',Vec b 3 ty fwc M' v' (xs ++ xs')->FwLN (NV v') M' (xs ++ xs') (F ++ F')->Keep (fun i=>b<=i) M M'->XW μ P s0 ll ((d,v') :: E) M' K):XW μ P s0 (⟨some d,.app ty 3 by' z s x,g⟩ :: ll) E M K:=by
 cases xs' with
 | nil =>
  have hF2:F'=[]:=List.length_eq_zero_iff.1 hF'.l.len.symm
  have hl:z0v xv=some 0:=by
   obtain⟨a,f,e,h1⟩:=hv'.shape
   rw[h1];rfl
  exact zkv hg (Vec.app0 hv hs hx hl) (hk v M (by rw[List.append_nil];exact hv) (by rw[hF2,List.append_nil,List.append_nil];exact hF) (Keep.refl _ _))
 | cons y ys =>
  obtain⟨h1,h2⟩:=zik hv' (by simp)
  refine z2e hg hv hs hx h1 (by simp) hb hz h2 (fun _=>rfl) (fun _=>rfl) hbM ?_
  intro v' M' h3 h4 h5 ⟨n,f,e,h6⟩
  refine hk v' M' h3 ?_ (h5.weaken fun i hi=>hi.1)
  refine(((hF.app hF').ge (N':=fun i=>NV v i ∨ i=M.next) (fun i hi=>hi.imp id fun h=>by omega)).keep h5 (fun i hi=>.inl hi.2)).ge (fun i hi=>.inl ?_)
  subst h6
  exact .inr (NV.some hi)
set_option maxHeartbeats 8000000 in
theorem zgf{M:Mem}{n:ByteArray}{a:Option (Nat × Nat)}{L:List ByteArray}{f:Bool}{e:Nat}(hs:SlS M a L)(hn:n.size<=1000000000000000)(hL:L.length<=1000000000000000)(hb:∀ s ∈ L,s.size<=1000000000000000) :
  z9 Tryz.prog 39 [.str n,.slice a L.length f e] M (fun w M'=>∃ v,w=.tup [v,I (repF n L).2] /\ RlV M' v (repF n L).1 /\ Grow M M'):=by
 refine zb k39 rfl ?_
 dsimp only[x39,zM,zO,zI,zF,zS,zB,zL,zA,zE,zN,zW,zC,zipE,Nat.reduceAdd]
 have cn:=fun M=>zgd n hn M
 by_cases hnm:nmB n=true
 case neg =>
  have hj:repF n L=(zRl,2):=by unfold repF;rw[if_neg hnm]
  rw[hj]
  rw[Bool.not_eq_true] at hnm
  rw[hnm] at cn
  repeat' first|with_reducible intro _|refine sv ?_|refine sc ?_ ?_<;>(intro h;try exact sz h)|((with_reducible first|apply z02|apply z0f|apply d_same0);exact gd;exact rfl;exact rfl;(first|exact cn _))|refine sg ?_ ?_<;>(intro h;first|exact sz h|refine sy h ?_)|exact sq|fail
  refine kf ?_
  exact⟨_,rfl,z2v _,xg⟩
 rw[hnm] at cn
 by_cases h8:L.length<=8
 case neg =>
  have hj:repF n L=(zRl,3):=by unfold repF;rw[if_pos hnm,if_neg (fun h=>h8 h.1)]
  rw[hj]
  repeat' first|with_reducible intro _|refine sv ?_|refine sc ?_ ?_<;>(intro h;try exact sz h)|((with_reducible first|apply z02|apply z0f|apply d_same0);exact gd;exact rfl;exact rfl;(first|exact cn _))|refine sg ?_ ?_<;>(intro h;first|exact sz h|refine sy h ?_)|exact sq|fail
  all_goals first|(exfalso;omega)|skip
  refine kf ?_
  exact⟨_,rfl,z2v _,xg⟩
 repeat' first|with_reducible intro _|refine sv ?_|refine sc ?_ ?_<;>(intro h;try exact sz h)|((with_reducible first|apply z02|apply z0f|apply d_same0);exact gd;exact rfl;exact rfl;(first|exact cn _))|refine sg ?_ ?_<;>(intro h;first|exact sz h|refine sy h ?_)|exact sq|fail
 all_goals first|(exfalso;omega)|skip
 rename_i n1 M1 A1 A2 A3 A4
 have g1:Grow M M1:=xg
 have a1:At M1 n1 (.cells true [.str ⟨#[]⟩,.slice none 0 true 0] 24):=xm
 clear A1
 refine z8 (fun z E ms M'=>∃(k:Nat),z=L.length - k /\ k<=L.length /\ ms=[] /\ Has E [(0,.str n),(1,.slice a L.length f e),(4,.ptr (some (n1,0))),(6,.slice none 0 true 0),(7,I k)] /\
   (∀ j (hj:j < k) (hj':j < L.length),L[j].size<=65536) /\ M'=M1)
  ?_ (L.length - 0) _ _ _ ⟨0,rfl,Nat.zero_le _,rfl,.cons rfl (.cons rfl (.cons rfl (.cons rfl (.cons rfl .nil)))),fun j hj=>absurd hj (Nat.not_lt_zero _),rfl⟩
 rintro z E ms N ⟨k,rfl,hk,rfl,hE,hall,rfl⟩
 refine zy hE ?_
 clear hE
 by_cases hlast:k=L.length
 ·subst hlast
  have hlg:L.any lgB=false:=by
   rw[List.any_eq_false]
   intro s hs2 h3
   obtain⟨j,hj,rfl⟩:=List.getElem_of_mem hs2
   have:=hall j hj hj
   have h4:65536 < L[j].size:=of_decide_eq_true h3
   omega
  have hj:repF n L=if 128 <(z0u (frsC L)).length then(zRl,6) else((n,z0u (frsC L)),0):=by unfold repF;rw[if_pos hnm,if_pos ⟨h8,hlg⟩]
  rw[hj]
  repeat' first|with_reducible intro _|refine sv ?_|refine sc ?_ ?_<;>(intro h;try exact sz h)|refine sg ?_ ?_<;>(intro h;first|exact sz h|refine sy h ?_)|exact sq|fail
  refine z8 (fun z E ms M'=>∃(k:Nat) (v:LV) (xs:List FW),z=L.length - k /\ k<=L.length /\ ms=[] /\ Has E [(0,.str n),(1,.slice a L.length f e),(4,.ptr (some (n1,0))),(6,v),(8,I k)] /\
    Vec N.next 3 48 fwc M' v xs /\ FwLN (NV v) M' xs (frsC (L.take k)) /\ At M' n1 (.cells true [.str ⟨#[]⟩,.slice none 0 true 0] 24) /\ Grow N M')
   ?_ (L.length - 0) _ _ _ ⟨0,_,[],rfl,Nat.zero_le _,rfl,.cons rfl (.cons rfl (.cons rfl (.cons rfl (.cons rfl .nil)))),Vec.nil,.nil,a1,Grow.refl _⟩
  have hn0:=a1.2
  clear hall a1
  rintro z E ms N2 ⟨k,v,xs,rfl,hk,rfl,hE,hv,hx,ha,hg⟩
  refine zy hE ?_
  have hln:=z76 L hlg
  by_cases hlast:k=L.length
  ·subst hlast
   rw[List.take_length] at hx
   obtain⟨a3,f3,e3,rfl,hfs⟩:=zh2 hv hx.l
   repeat' first|with_reducible intro _|refine sv ?_|refine sc ?_ ?_<;>(intro h;try exact sz h)|refine sg ?_ ?_<;>(intro h;first|exact sz h|refine sy h ?_)|exact sq|fail
   refine zx gd rfl rfl (zgh hfs (fun z hz=>⟨(z68 L).k z hz,(z3w (z68 L z hz)).2⟩) (by omega)) ?_
   rintro w3 M3 ⟨⟨a4,f4,e4,rfl,hf4⟩,hg3⟩
   have hjl:=zdb _ (z68 L)
   have b3:=At.grow hg3 ha
   have g3:Grow M M3:=(g1.trans hg).trans hg3
   clear hg hg3 ha hv hx
   by_cases hl:128 <(z0u (frsC L)).length
   ·rw[if_pos hl]
    repeat' first|with_reducible intro _|refine sv ?_|refine sc ?_ ?_<;>(intro h;try exact sz h)|refine sg ?_ ?_<;>(intro h;first|exact sz h|refine sy h ?_)|exact sq|fail
    all_goals first|(exfalso;omega)|skip
    rename_i M14 hU14 e14 hA14
    have g14:Grow M M14:=g3.upd hU14 (by omega)
    refine kf ?_
    exact⟨_,rfl,z2v _,g14⟩
   ·rw[if_neg hl]
    repeat' first|with_reducible intro _|refine sv ?_|refine sc ?_ ?_<;>(intro h;try exact sz h)|refine sg ?_ ?_<;>(intro h;first|exact sz h|refine sy h ?_)|exact sq|fail
    all_goals first|(exfalso;omega)|skip
    rename_i M14 hU14 e14 hA14
    have g14:Grow M M14:=g3.upd hU14 (by omega)
    refine kf ?_
    exact⟨_,rfl,⟨a4,f4,e4,rfl,FsV.updr hf4 b3 hU14⟩,g14⟩
  have hlt:k < L.length:=by omega
  obtain⟨i,o,rfl,hrd⟩:=(hs.grow (g1.trans hg)).rd hlt
  have hsz:=zn1 hlg hlt
  (have hrd0:=hrd;repeat' (first|(with_reducible intro _)|refine sv ?_|(refine sc ?_ ?_<;>(intro h;try exact sz h))|refine sg ?_ ?_<;>(intro h;first|exact sz h|refine sy h ?_)|exact sq|fail))
  refine zx gd rfl rfl (zjj (by omega)) ?_
  rintro w M4 ⟨v1,v2,ys,rfl,hv1,hy1,hv2,hg4⟩
  rw[zns] at hv2 hy1
  have hwo:=(zim L[k]).2
  have hyl:=hy1.l.len
  have hxl:=hx.l.len
  have hln2:(frsC (L.take k)).length<=65536*8:=by
   have h1:=z76 (L.take k) (by
    rw[List.any_eq_false]
    intro s hs2
    have:=List.any_eq_false.1 hlg s (List.mem_of_mem_take hs2)
    exact this)
   rw[List.length_take] at h1
   omega
  have hv4:=hv.grow hg4
  have hx4:=hx.keep (hg4.to_keep (fun _=>False)) (fun _ h=>h.elim)
  have hy4:=hy1.ge (N':=NV v) (fun i hi=>.inl (NV.lt hv hi))
  have ha4:=At.grow hg4 ha
  have hgl:=hg.le
  have hgl4:=hg4.le
  have hn1:=ha.2
  clear hv hx hy1
  repeat' first|with_reducible intro _|refine sv ?_|refine sc ?_ ?_<;>(intro h;try exact sz h)|refine sg ?_ ?_<;>(intro h;first|exact sz h|refine sy h ?_)|exact sq|fail
  refine zku (by exact gd) hv4 hx4 hv1 hy4 rfl rfl (by omega) rfl (by omega) ?_
  intro v5 M5 hv5 hx5 hk5
  rw[<-zlk hlt] at hx5
  have g5:Grow N M5:=Keep.to_grow' (hg.trans hg4) hk5 (fun i hi=>hi)
  have a5:=ha4.keep hk5 (fun h=>by omega)
  repeat' first|with_reducible intro _|refine sv ?_|refine sc ?_ ?_<;>(intro h;try exact sz h)|refine sg ?_ ?_<;>(intro h;first|exact sz h|refine sy h ?_)|exact sq|fail
  refine zd (L.length - (k+1)) (by omega) ⟨k+1,v5,_,rfl,by omega,rfl,.cons rfl (.cons rfl (.cons rfl (.cons rfl (.cons rfl .nil)))),hv5,hx5,a5,g5⟩
 have hlt:k < L.length:=by omega
 obtain⟨i,o,rfl,hrd⟩:=(hs.grow g1).rd hlt
 have hbk:=hb _ (List.getElem_mem hlt)
 by_cases hlk:L[k].size<=65536
 ·(have hrd0:=hrd;repeat' (first|(with_reducible intro _)|refine sv ?_|(refine sc ?_ ?_<;>(intro h;try exact sz h))|refine sg ?_ ?_<;>(intro h;first|exact sz h|refine sy h ?_)|exact sq|fail))
  all_goals first|(exfalso;omega)|skip
  refine zd (L.length - (k+1)) (by omega) ⟨k+1,rfl,by omega,rfl,.cons rfl (.cons rfl (.cons rfl (.cons rfl (.cons rfl .nil)))),fun j hj hj'=>?_,rfl⟩
  by_cases hjk:j=k
  ·subst hjk;exact hlk
  ·exact hall j (by omega) hj'
 ·have hj:repF n L=(zRl,3):=by
   unfold repF;rw[if_pos hnm,if_neg (fun h=>?_)]
   exact hlk (zn1 h.2 hlt)
  rw[hj]
  (have hrd0:=hrd;repeat' (first|(with_reducible intro _)|refine sv ?_|(refine sc ?_ ?_<;>(intro h;try exact sz h))|refine sg ?_ ?_<;>(intro h;first|exact sz h|refine sy h ?_)|exact sq|fail))
  all_goals first|(exfalso;omega)|skip
  rename_i M14 hU14 e14 hA14
  have g14:Grow M M14:=g1.upd hU14 (by omega)
  refine kf ?_
  exact⟨_,rfl,z2v _,g14⟩
theorem zpl(n:ByteArray)(L:List ByteArray):(repF n L).1.2.length<=128 /\ (∀ z ∈ (repF n L).1.2,z.2.2.length<=64) /\ (0<=(repF n L).2 /\ (repF n L).2<=100):=by
 have h0:∀ c:Int,0<=c->c<=100->(zRl,c).1.2.length<=128 /\ (∀ z ∈ (zRl,c).1.2,z.2.2.length<=64) /\ (0<=(zRl,c).2 /\ (zRl,c).2<=100):=fun c h1 h2=>⟨by show 0<=128;omega,(fun _ h=>nomatch h),h1,h2⟩
 unfold repF
 split
 ·split
  ·split
   ·exact h0 6 (by omega) (by omega)
   ·refine⟨by show(z0u (frsC L)).length<=128;omega,fun z hz=>?_,by show(0:Int)<=0;omega,by show(0:Int)<=100;omega⟩
    exact(z3w (zgz (J:=[]) (fun _ h=>absurd h List.not_mem_nil) (z68 L) z hz)).2
  ·exact h0 3 (by omega) (by omega)
 ·exact h0 2 (by omega) (by omega)
set_option maxHeartbeats 8000000 in
theorem zab{M:Mem}{n:ByteArray}{a:Option (Nat × Nat)}{L:List ByteArray}{f:Bool}{e:Nat}(hs:SlS M a L)(hn:n.size<=1000000000000000)(hL:L.length<=1000000000000000)(hb:∀ s ∈ L,s.size<=1000000000000000)(hB:Base M)(hp:preOk M tabs=true) :
  CallN Tryz.prog 11 [.str n,.slice a L.length f e] M (fun r _=>r=.bool true):=by
 refine z3d k11 rfl ?_
 dsimp only[x11,zM,zO,zI,zF,zS,zB,zL,zA,zE,zN,zW,zC,zipE,Nat.reduceAdd]
 obtain⟨hu1,hu2,hu3⟩:=zpl n L
 have cR:=fun M' (hg:Grow M M')=>zgf (f:=f) (e:=e) (hs.grow hg) hn hL hb
 repeat' first|with_reducible intro _|refine sv ?_|refine sc ?_ ?_<;>(intro h;try exact sz h)|refine sg ?_ ?_<;>(intro h;first|exact sz h|refine sy h ?_)|exact sq|fail
 refine z8p (by exact gd) rfl rfl (zjc hs hn hL hb) ?_
 rintro w1 M1 ⟨v1,rfl,hv1,hg1⟩
 obtain⟨a1,f1,e1,rfl,hs1⟩:=id hv1
 repeat' first|with_reducible intro _|refine sv ?_|refine sc ?_ ?_<;>(intro h;try exact sz h)|refine sg ?_ ?_<;>(intro h;first|exact sz h|refine sy h ?_)|exact sq|fail
 rename_i n2 M2 A1 A2 A3 M3 A4 A5 A6
 have hg13:Grow M1 M3:=xg
 have hv13:=hv1.grow hg13
 clear A1 A4
 refine zx (by exact gd) rfl rfl (cR M3 (hg1.trans hg13)) ?_
 rintro w4 M4 ⟨v4,rfl,hv4,hg4⟩
 obtain⟨a4,f4,e4,rfl,hs4⟩:=id hv4
 have hv14:=hv13.grow hg4
 have hA64:=At.grow hg4 A6
 repeat' first|with_reducible intro _|refine sv ?_|refine sc ?_ ?_<;>(intro h;try exact sz h)|refine sg ?_ ?_<;>(intro h;first|exact sz h|refine sy h ?_)|exact sq|fail
 rename_i n5 M5 B1 B2 B3 M6 B4 B5 B6
 have hg46:Grow M4 M6:=xg
 have hv16:=hv14.grow hg46
 have hv46:=hv4.grow hg46
 have hA66:=At.grow hg46 hA64
 have hg6:Grow M M6:=((hg1.trans hg13).trans hg4).trans hg46
 clear B1 B4
 have csR:=fun M' (hg:Grow M6 M')=>zf4 (hv16.grow hg) (hv46.grow hg) (by omega) (fun z hz=>by have:=hu2 z hz;omega)
 have hpp:∀ M',Grow M6 M'->preOk M' tabs=true:=fun M' hg=>z8g (Ext.of_grow (hg6.trans hg) hB) hp
 generalize (repF n L).2=EN at *
 repeat' first|with_reducible intro _|refine sv ?_|refine sc ?_ ?_<;>(intro h;try exact sz h)|((with_reducible first|apply z02|apply z0f|apply d_same0);exact gd;exact rfl;exact rfl;(first|exact zmo (hpp _ (xg))))|((with_reducible first|apply z0g|apply z0h|apply d_pure0);exact gd;exact rfl;exact rfl;(first|exact csR _ (xg)))|refine sg ?_ ?_<;>(intro h;first|exact sz h|refine sy h ?_)|exact sq|fail
 all_goals try(exfalso;simp_all;done)
 refine kf ?_
 rfl
