/-
 Part of the proof of TapeMended. No condition beyond those in each theorem.
-/
import Derived.Test.YtbfnnllgdioccaaGreatDoorSE
import Derived.Test.YtbfnnllgdioccaaGreatDoorSD
import Derived.Test.YtbfnnllgdioccaaGreatDoorSB
import Derived.Test.YtbfnnllgdioccaaGreatDoorSA
import Derived.Test.YtbfnnllgdioccaaGreatDoorTW
section
open Go PvL Go.Proofs
set_option linter.unusedSimpArgs false
set_option linter.unusedVariables false
variable {μ:Md}
namespace Go.Proofs.YtbfnnllgdioccaaGreatDoor.C
def salP(s:ByteArray):(List Fr × List Bd) × Int :=
 if 65536 < s.size then(([],[]),3) else if 128 <(z1e (whA s).1).length then(([],[]),6) else((z1e (whA s).1,(whA s).2),0)
theorem zj6{s:ByteArray}:∀(k p:Nat) (F:List Fr) (L:List Bd),p<=s.size->FrOk F->F.length<=p->FrOk (whB s k p F L).1 /\ (whB s k p F L).1.length<=s.size
 | 0,p,F,L,hp,h,hl=>⟨h,by show F.length<=_;omega⟩
 | k+1,p,F,L,hp,h,hl=>by
  unfold whB
  split
  ·split
   ·rename_i x q hx
    have h1:=zgn hp hx
    refine zj6 k q _ _ h1.2.2 (fun y hy=>?_) (by rw[List.length_append];simp;omega)
    rcases List.mem_append.1 hy with hy|hy
    ·exact h y hy
    ·rw[List.mem_singleton.1 hy];exact h1.1
   ·exact zj6 k (p+1) F _ (by omega) h (by omega)
  ·exact⟨h,by show F.length<=_;omega⟩
theorem zmj(s:ByteArray):FrOk (whA s).1 /\ (whA s).1.length<=s.size:=zj6 s.size 0 [] [] (Nat.zero_le _) (fun _ h=>nomatch h) (Nat.le_refl _)
theorem ziq(l:List Fr):(rackF l).length<=l.length:=by
 have:∀(l:List Fr) (R:Rk),(l.foldl rkA R).length<=R.length+l.length:=fun l=>by
  induction l with
  | nil=>intro R;exact Nat.le_refl _
  | cons z l ih =>
   intro R
   have h1:=ih (rkA R z)
   have h2:(rkA R z).length<=R.length+1:=by
    have:=congrArg List.length (zdx R (fky z) (z0s ((lkK R (fky z)).getD []) z.2.2))
    rw[List.length_map] at this
    unfold rkA
    rw[this]
    split<;>simp
   rw[List.foldl_cons,List.length_cons];omega
 have:=this l []
 unfold rackF
 have h0:([]:Rk).length=0:=rfl
 omega
theorem ne9{l:List Fr}(h:FrOk l):∀ z ∈ z1e l,z.2.2 ≠ []:=fun z hz=>by
 have h1:=z4w (zhj (J:=[]) (fun _ h=>absurd h List.not_mem_nil) h z hz)
 intro h2;rw[h2] at h1;exact absurd h1.1 (by decide)
end Go.Proofs.YtbfnnllgdioccaaGreatDoor.C
end
section
open Go PvL Go.Proofs
set_option linter.unusedSimpArgs false
set_option linter.unusedVariables false
namespace Go.Proofs.YtbfnnllgdioccaaGreatDoor.C
def pfF(x:Fr):List UInt8 × Int:=if frB x then(pkL x,0) else([],80)
def rpF(r:Rl):List UInt8 × Int:=if rlB r then(rpL r,0) else([],81)
set_option maxHeartbeats 4000000 in
theorem zd1{M:Mem}{v:LV}{x:Fr}(hv:FrV M v x)(hin:FrIn x):za Tryz.prog 36 [v] M (fun w M'=>w=.tup [.str (strL (pfF x).1),I (pfF x).2] /\ Grow M M'):=by
 have hv0:=hv
 obtain⟨a,f,e,rfl,hs⟩:=hv0
 refine zc k36 rfl ?_
 dsimp only[x36,zM,zO,zI,zF,zS,zB,zL,zA,zE,zN,zW,zC,zipE,Nat.reduceAdd]
 have cc:=fun M' (hg:Grow M M')=>z3p (hv.grow hg) hin
 cases hfb:frB x with
 | false =>
  rw[show errF x=80 from by unfold errF;rw[hfb];rfl] at cc
  rw[show pfF x=([],80) from by unfold pfF;rw[hfb];rfl]
  repeat' first|with_reducible intro _|refine sv ?_|refine sc ?_ ?_<;>(intro h;try exact sz h)|((with_reducible first|apply z13|apply z14|apply d_pure0);exact gd;exact rfl;exact rfl;(first|exact cc _ (xg)))|refine sg ?_ ?_<;>(intro h;first|exact sz h|refine sy h ?_)|exact sq|fail
  refine kf ?_
  exact⟨rfl,xg⟩
 | true =>
  rw[show errF x=0 from by unfold errF;rw[hfb];rfl] at cc
  rw[show pfF x=(pkL x,0) from by unfold pfF;rw[hfb];rfl]
  have cp:=fun M' (hg:Grow M M')=>zjx (hv.grow hg) hfb
  repeat' first|with_reducible intro _|refine sv ?_|refine sc ?_ ?_<;>(intro h;try exact sz h)|((with_reducible first|apply z13|apply z14|apply d_pure0);exact gd;exact rfl;exact rfl;(first|exact cc _ (xg)))|((with_reducible first|apply zu|apply z0f|apply x_call0);exact gd;exact rfl;exact rfl;(first|exact cp _ (xg)))|refine sg ?_ ?_<;>(intro h;first|exact sz h|refine sy h ?_)|exact sq|fail
  rename_i hq
  obtain⟨b,hb,hb2,hg⟩:=hq
  refine z36 (by exact gd) (ApB.bstr hb rfl) ?_
  have hl:=hg.le
  repeat' first|with_reducible intro _|refine sv ?_|refine sc ?_ ?_<;>(intro h;try exact sz h)|refine sg ?_ ?_<;>(intro h;first|exact sz h|refine sy h ?_)|exact sq|fail
  refine kf ?_
  exact⟨rfl,xg⟩
theorem zm9(x:Fr):0 <(pkL x).length:=by
 unfold pkL chkL bodyL hdL
 simp only[List.length_append,List.length_cons]
 omega
theorem znm{s:ByteArray}(h:nmB s=true):1<=s.size /\ s.size<=16:=by
 unfold nmB btB at h
 simp only[Bool.and_eq_true,decide_eq_true_eq] at h
 omega
theorem zkz{r:Rl}(h:z1r r=0):FrOk r.2 /\ r.2.length<=128 /\ 1<=r.1.size /\ r.1.size<=16:=by
 obtain⟨h1,h2,h3,_⟩:=znx h
 have:=znm h3
 exact⟨h1,h2,this.1,this.2⟩
def Hm(x:List UInt8):Prop:=∀ b ∈ x,b.toNat ≠ 165
abbrev Sg:=List UInt8 × Fr
def sgB(z:Sg):List UInt8:=z.1 ++ pkL z.2
def lostS:Nat->List Sg->List Bd
 | _,[]=>[]
 | p,z :: r=>(if z.1.length=0 then [] else [((p:Int),(p:Int)+(z.1.length:Int) - 1)]) ++ lostS (p+(sgB z).length) r
theorem znt(x:Fr):∃ t,pkL x=165 :: t:=⟨_,rfl⟩
theorem zor{s:ByteArray}{p:Nat}(hp:p<=s.size)(h:byteAt s p ≠ 165):FrD s p=none:=by
 cases hh:FrD s p with
 | none=>rfl
 | some z =>
  obtain⟨x,q⟩:=z
  obtain⟨_,_,h3⟩:=zoq hp hh
  obtain⟨t,ht⟩:=znt x
  rw[ht] at h3
  exact absurd h3.2.1 h
theorem zpu(l:List UInt8):Mt (strL l) 0 l:=by
 refine(Mt.drop (Nat.zero_le _)).2 ?_
 show(l.drop 0).take l.length=l
 rw[List.drop_zero,List.take_length]
theorem zhr{L:List Fr}(hL:FrOk L):GdL (z1e L) :=
 ⟨(zq5 hL.k).s,zhj (J:=[]) (fun _ h=>absurd h List.not_mem_nil) hL⟩
theorem hasK{x:Fr}:∀ {L J:List Fr},SrtJ J->(∀ y ∈ J,FrK y)->(∀ y ∈ L,FrK y)->(x ∈ L ∨ ∃ l,lkJ J (fky x)=some l /\ z0s l x.2.2=l)->∃ l,lkJ (L.foldl addR J) (fky x)=some l /\ z0s l x.2.2=l
 | [],J,_,_,_,h=>by
  rcases h with h|h
  ·cases h
  ·exact h
 | f :: L,J,h1,h2,h3,h=>by
  obtain⟨g1,g2,g3,_⟩:=za5 h1 h2 (h3 f (by simp))
  show ∃ l,lkJ (L.foldl addR (addR J f)) (fky x)=some l /\ _
  refine hasK g1 g2 (fun y hy=>h3 y (by simp[hy])) ?_
  rcases h with h|⟨l,e1,e2⟩
  ·rcases List.mem_cons.1 h with rfl|h
   ·refine .inr ⟨_,by rw[g3,if_pos rfl],?_⟩
    rw[z4r,z92]
   ·exact .inl h
  ·refine .inr ?_
   rw[g3]
   by_cases hk:fky x=fky f
   ·rw[if_pos hk,<- hk,e1]
    refine⟨_,rfl,?_⟩
    show z0s (z0s l f.2.2) x.2.2=z0s l f.2.2
    rw[z4r,zfi f.2.2,<- z4r,e2]
   ·rw[if_neg hk];exact⟨l,e1,e2⟩
theorem sameK{T:List Fr}(hT:GdL T):∀ {L J:List Fr},SrtJ J->(∀ y ∈ J,FrK y)->(∀ y ∈ L,y ∈ T)->(∀ k l,lkJ J k=some l->lkJ T k=some l)->(∀ k l,lkJ (L.foldl addR J) k=some l->lkJ T k=some l)
 | [],J,_,_,_,h=>h
 | f :: L,J,h1,h2,h3,h=>by
  have hf:=h3 f (by simp)
  obtain⟨g1,g2,g3,_⟩:=za5 h1 h2 (hT.k f hf)
  show ∀ k l,lkJ (L.foldl addR (addR J f)) k=some l->_
  refine sameK hT g1 g2 (fun y hy=>h3 y (by simp[hy])) fun k l=>?_
  rw[g3]
  by_cases hk:k=fky f
  ·rw[if_pos hk,hk]
   intro e
   have e:=Option.some.inj e
   have hat:=zca hT.s f hf
   cases hq:lkJ J (fky f) with
   | none =>
    rw[hq] at e
    rw[hat,<- e]
    show some _=some (z0s [] f.2.2)
    rw[z7b]
   | some l' =>
    have:=h _ _ hq
    rw[hat] at this
    rw[hq,<- Option.some.inj this] at e
    rw[hat,<- e]
    show some _=some (z0s f.2.2 f.2.2)
    rw[z92]
  ·rw[if_neg hk];exact h k l
theorem zdg{T L:List Fr}(hT:GdL T)(h1:∀ y ∈ L,y ∈ T)(h2:∀ y ∈ T,y ∈ L):z1e L=T:=by
 have hL:FrOk L:=fun y hy=>hT.b y (h1 y hy)
 have hs:=zhr hL
 refine zl4 hs.s hT.s fun k=>?_
 have h3:=sameK hT (L:=L) (J:=[]) List.Pairwise.nil (fun _ h=>absurd h List.not_mem_nil) h1 (fun _ _ h=>by cases h)
 cases hq:lkJ (z1e L) k with
 | some l=>exact(h3 k l hq).symm
 | none =>
  cases hq2:lkJ T k with
  | none=>rfl
  | some l =>
   obtain⟨y,h4,h5,h6⟩:=zet hq2
   obtain⟨l',h7,_⟩:=hasK (x:=y) (L:=L) (J:=[]) List.Pairwise.nil (fun _ h=>absurd h List.not_mem_nil) hL.k (.inl (h2 y h4))
   rw[h5] at h7
   rw[show lkJ (z1e L) k=lkJ (L.foldl addR []) k from rfl,h7] at hq
   cases hq
theorem zrm{l l':List Int}{k:Nat}(hk:k < l.length)(hk':k < l'.length)(h:l[k] ≠ l'[k]):decide (l=l')=false:=by
 rw[decide_eq_false_iff_not]
 rintro rfl
 exact h rfl
set_option maxHeartbeats 2000000 in
theorem zmw{M:Mem}{a b:Option (Nat × Nat)}{l l':List Int}{f f':Bool}{e e':Nat}(ha:SlI M a l)(hb:SlI M b l')(hl:l.length<=1000000000000000)(hl':l'.length<=1000000000000000) :
  za Tryz.prog 16 [.slice a l.length f e,.slice b l'.length f' e'] M (fun w M'=>w=.bool (decide (l=l')) /\ M'=M):=by
 refine zc k16 rfl ?_
 dsimp only[x16,zM,zO,zI,zF,zS,zB,zL,zA,zE,zN,zW,zC,zipE,Nat.reduceAdd]
 by_cases hne:l.length=l'.length
 ·repeat' first|with_reducible intro _|refine sv ?_|refine sc ?_ ?_<;>(intro h;try exact sz h)|refine sg ?_ ?_<;>(intro h;first|exact sz h|refine sy h ?_)|exact sq|fail
  all_goals try(exfalso;omega)
  refine z9 (fun m E ms M'=>∃ k:Nat,m=l.length - k /\ k<=l.length /\ ms=[] /\ Has E [(0,.slice a l.length f e),(1,.slice b l'.length f' e'),(5,I k)] /\ M'=M /\ l.take k=l'.take k)
   ?_ l.length _ _ _ ⟨0,by omega,by omega,rfl,.cons rfl (.cons rfl (.cons rfl .nil)),rfl,rfl⟩
  rintro m E ms M1 ⟨k,rfl,hk,rfl,hE,rfl,hall⟩
  refine z0b hE ?_
  by_cases hlast:k=l.length
  ·subst hlast
   repeat' first|with_reducible intro _|refine sv ?_|refine sc ?_ ?_<;>(intro h;try exact sz h)|refine sg ?_ ?_<;>(intro h;first|exact sz h|refine sy h ?_)|exact sq|fail
   refine kf ?_
   refine⟨?_,rfl⟩
   rw[List.take_of_length_le (Nat.le_refl _),List.take_of_length_le (by omega)] at hall
   rw[decide_eq_true hall];rfl
  ·have hlt:k < l.length:=by omega
   have hlt':k < l'.length:=by omega
   obtain⟨i,o,rfl,hr⟩:=ha.rd hlt
   obtain⟨i2,o2,rfl,hr2⟩:=hb.rd hlt'
   by_cases heq:l[k]=l'[k]
   ·rw[<-heq] at hr2
    have htk:l.take (k+1)=l'.take (k+1):=by
     rw[List.take_succ_eq_append_getElem hlt,List.take_succ_eq_append_getElem hlt',hall,heq]
    generalize l[k]=p at *
    (have hrd0:=hr;have hrd1:=hr2;repeat' (first|(with_reducible intro _)|refine sv ?_|(refine sc ?_ ?_<;>(intro h;try exact sz h))|refine sg ?_ ?_<;>(intro h;first|exact sz h|refine sy h ?_)|exact sq|fail))
    all_goals try(exfalso;omega)
    refine zf (l.length - (k+1)) (by omega) ⟨k+1,rfl,by omega,rfl,.cons rfl (.cons rfl (.cons rfl .nil)),rfl,htk⟩
   ·have hd:=zrm hlt hlt' heq
    rw[hd]
    generalize l[k]=p at *
    generalize l'[k]=q at *
    (have hrd0:=hr;have hrd1:=hr2;repeat' (first|(with_reducible intro _)|refine sv ?_|(refine sc ?_ ?_<;>(intro h;try exact sz h))|refine sg ?_ ?_<;>(intro h;first|exact sz h|refine sy h ?_)|exact sq|fail))
    all_goals try(exfalso;omega)
    refine kf ?_
    exact⟨rfl,rfl⟩
 ·have hd:decide (l=l')=false:=by
   rw[decide_eq_false_iff_not];rintro rfl;exact hne rfl
  rw[hd]
  repeat' first|with_reducible intro _|refine sv ?_|refine sc ?_ ?_<;>(intro h;try exact sz h)|refine sg ?_ ?_<;>(intro h;first|exact sz h|refine sy h ?_)|exact sq|fail
  all_goals try(exfalso;omega)
  refine kf ?_
  exact⟨rfl,rfl⟩
set_option maxHeartbeats 2000000 in
theorem zd2{M:Mem}{v w:LV}{x y:Fr}(hv:FrV M v x)(hw:FrV M w y)(hl:x.2.2.length<=1000000000000000)(hl':y.2.2.length<=1000000000000000) :
  za Tryz.prog 70 [v,w] M (fun r M'=>r=.bool (decide (x=y)) /\ Grow M M'):=by
 obtain⟨a,f,e,rfl,hs⟩:=hv
 obtain⟨b,f',e',rfl,hs'⟩:=hw
 obtain⟨x1,x2,x3⟩:=x
 obtain⟨y1,y2,y3⟩:=y
 dsimp only at *
 have hd:decide ((x1,x2,x3)=(y1,y2,y3))=(decide (x1=y1) && (decide (x2=y2) && decide (x3=y3))):=by
  rw[Bool.eq_iff_iff];simp
 rw[hd]
 have hc:∀ M',Grow M M'->za Tryz.prog 16 [.slice a x3.length f e,.slice b y3.length f' e'] M' (fun w M''=>w=.bool (decide (x3=y3)) /\ M''=M'):=fun M' hg=>zmw (hs.grow hg) (hs'.grow hg) hl hl'
 refine zc k70 rfl ?_
 dsimp only[x70,zM,zO,zI,zF,zS,zB,zL,zA,zE,zN,zW,zC,zipE,Nat.reduceAdd]
 by_cases h1:x1=y1
 ·by_cases h2:x2=y2
  ·repeat' first|with_reducible intro _|refine sv ?_|refine sc ?_ ?_<;>(intro h;try exact sz h)|((with_reducible first|apply z02|apply z0e|apply d_same0);exact gd;exact rfl;exact rfl;(first|exact hc _ (xg)))|refine sg ?_ ?_<;>(intro h;first|exact sz h|refine sy h ?_)|exact sq|fail
   refine kf ?_
   refine⟨?_,xg⟩
   rw[decide_eq_true h1,decide_eq_true h2];rfl
  ·repeat' first|with_reducible intro _|refine sv ?_|refine sc ?_ ?_<;>(intro h;try exact sz h)|refine sg ?_ ?_<;>(intro h;first|exact sz h|refine sy h ?_)|exact sq|fail
   refine kf ?_
   refine⟨?_,xg⟩
   rw[decide_eq_true h1,decide_eq_false h2];rfl
 ·repeat' first|with_reducible intro _|refine sv ?_|refine sc ?_ ?_<;>(intro h;try exact sz h)|refine sg ?_ ?_<;>(intro h;first|exact sz h|refine sy h ?_)|exact sq|fail
  refine kf ?_
  refine⟨?_,xg⟩
  rw[decide_eq_false h1];rfl
end Go.Proofs.YtbfnnllgdioccaaGreatDoor.C
end
section
open Go PvL Go.Proofs
set_option linter.unusedSimpArgs false
set_option linter.unusedVariables false
variable {μ:Md}
namespace Go.Proofs.YtbfnnllgdioccaaGreatDoor.C
set_option maxHeartbeats 4000000 in
theorem zbk{M:Mem}{a b:Option (Nat × Nat)}{L:List Fr}{f f':Bool}{e e':Nat}(hs:FsV M a L)(hs':FsV M b L)(hl:L.length<=1000000)(hL:∀ z ∈ L,z.2.2.length<=1000000) :
  za Tryz.prog 33 [.slice a L.length f e,.slice b L.length f' e'] M (fun w M'=>w=.bool true /\ Grow M M'):=by
 refine zc k33 rfl ?_
 dsimp only[x33,zM,zO,zI,zF,zS,zB,zL,zA,zE,zN,zW,zC,zipE,Nat.reduceAdd]
 repeat' first|with_reducible intro _|refine sv ?_|refine sc ?_ ?_<;>(intro h;try exact sz h)|refine sg ?_ ?_<;>(intro h;first|exact sz h|refine sy h ?_)|exact sq|fail
 all_goals try(exfalso;omega)
 refine z9 (fun z E ms M'=>∃(k:Nat),z=L.length - k /\ k<=L.length /\ ms=[] /\ Has E [(0,.slice a L.length f e),(1,.slice b L.length f' e'),(5,I k)] /\ Grow M M')
  ?_ (L.length - 0) _ _ _ ⟨0,rfl,Nat.zero_le _,rfl,.cons rfl (.cons rfl (.cons rfl .nil)),Grow.refl _⟩
 rintro z E ms M2 ⟨k,rfl,hk,rfl,hE,hg2⟩
 refine z0b hE ?_
 by_cases hlast:k=L.length
 ·subst hlast
  repeat' first|with_reducible intro _|refine sv ?_|refine sc ?_ ?_<;>(intro h;try exact sz h)|refine sg ?_ ?_<;>(intro h;first|exact sz h|refine sy h ?_)|exact sq|fail
  refine kf ?_
  exact⟨rfl,hg2⟩
 have hlt:k < L.length:=by omega
 obtain⟨i,o,bk,gk,uk,rfl,hrk,hsk⟩:=(hs.grow hg2).rd hlt
 obtain⟨i',o',bk',gk',uk',rfl,hrk',hsk'⟩:=(hs'.grow hg2).rd hlt
 have hln:=hL (fe L k) (by rw[z71 hlt];exact List.getElem_mem hlt)
 have cs:=zd2 hsk hsk' (by omega) (by omega)
 rw[decide_eq_true rfl] at cs
 (have hrd0:=hrk;have hrd1:=hrk';repeat' (first|(with_reducible intro _)|refine sv ?_|(refine sc ?_ ?_<;>(intro h;try exact sz h))|((with_reducible first|apply z13|apply z14|apply d_pure0);exact gd;exact rfl;exact rfl;(first|exact cs))|refine sg ?_ ?_<;>(intro h;first|exact sz h|refine sy h ?_)|exact sq|fail))
 rename_i M3 hg3 q3
 exact zf (L.length - (k+1)) (by omega) ⟨k+1,rfl,by omega,rfl,.cons rfl (.cons rfl (.cons rfl .nil)),hg2.trans hg3⟩
set_option maxHeartbeats 4000000 in
theorem zfp{M:Mem}{v w:LV}{r:Rl}(hv:RlV M v r)(hw:RlV M w r)(hl:r.2.length<=1000000)(hL:∀ z ∈ r.2,z.2.2.length<=1000000) :
  za Tryz.prog 25 [v,w] M (fun u M'=>u=.bool true /\ Grow M M'):=by
 obtain⟨a,f,e,rfl,hs⟩:=hv
 obtain⟨b,f',e',rfl,hs'⟩:=hw
 refine zc k25 rfl ?_
 dsimp only[x25,zM,zO,zI,zF,zS,zB,zL,zA,zE,zN,zW,zC,zipE,Nat.reduceAdd]
 have hb:(r.1 == r.1)=true:=z93 _
 have cs:=fun M' hg=>zbk (M:=M') (f:=f) (f':=f') (e:=e) (e':=e') (hs.grow hg) (hs'.grow hg) hl hL
 repeat' first|with_reducible intro _|refine sv ?_|refine sc ?_ ?_<;>(intro h;try exact sz h)|((with_reducible first|apply z13|apply z14|apply d_pure0);exact gd;exact rfl;exact rfl;(first|exact cs _ (xg)))|refine sg ?_ ?_<;>(intro h;first|exact sz h|refine sy h ?_)|exact sq|fail
 ·refine kf ?_
  exact⟨rfl,xg⟩
 ·rw[hb] at h;cases h
def SlS(M:Mem)(a:Option (Nat × Nat))(L:List ByteArray):Prop:=L=[] ∨ ∃ i o,a=some (i,o) /\ ∀ k (hk:k < L.length),Rd1 M i (o+k*1) (.str L[k])
theorem SlS.grow{M M':Mem}{a:Option (Nat × Nat)}{L:List ByteArray}(h:SlS M a L)(hg:Grow M M'):SlS M' a L :=
 h.imp id fun⟨i,o,h1,h2⟩=>⟨i,o,h1,fun k hk=>(h2 k hk).grow hg⟩
theorem SlS.rd{M:Mem}{a:Option (Nat × Nat)}{L:List ByteArray}(h:SlS M a L){k:Nat}(hk:k < L.length):∃ i o,a=some (i,o) /\ Rd1 M i (o+k*1) (.str L[k]):=by
 rcases h with rfl|⟨i,o,h1,h2⟩
 ·exact absurd hk (Nat.not_lt_zero _)
 ·exact⟨i,o,h1,h2 k hk⟩
def lgB(s:ByteArray):Bool:=decide (65536 < s.size)
def frsC(L:List ByteArray):List Fr:=L.flatMap fun s=>(whA s).1
def repF(n:ByteArray)(L:List ByteArray):Rl × Int :=
 if nmB n=true then(if L.length<=8 /\ L.any lgB=false then(if 128 <(z1e (frsC L)).length then(zRl,6) else((n,z1e (frsC L)),0)) else(zRl,3)) else(zRl,2)
theorem zgz(s:ByteArray)(hs:s.size<=1000000000000000)(M:Mem):za Tryz.prog 82 [.str s] M (fun w M'=>w=.bool (lgB s) /\ M'=M):=by
 refine zc k82 rfl ?_
 dsimp only[x82,zM,zO,zI,zF,zS,zB,zL,zA,zE,zN,zW,zC,zipE,Nat.reduceAdd]
 repeat' first|with_reducible intro _|refine sv ?_|refine sc ?_ ?_<;>(intro h;try exact sz h)|refine sg ?_ ?_<;>(intro h;first|exact sz h|refine sy h ?_)|exact sq|fail
 refine kf ?_
 refine⟨?_,rfl⟩
 unfold lgB
 simp[packed]
 omega
set_option maxHeartbeats 1000000 in
theorem zbj{a:Option (Nat × Nat)}{n:Nat}{f:Bool}{e:Nat}{g:FuncId}{fi ca:List LV}{M:Mem}(elem:Nat->LV)(p:Nat->Bool)(hn:n<=1000000000000000)
  (hread:∀ k,k < n->∃ i o,a=some (i,o) /\ Rd1 M i (o+k*1) (elem k)) (hp:∀ k,k < n->∀ M',Grow M M'->za Tryz.prog g (fi ++ [elem k] ++ ca) M' (fun w M''=>w=.bool (p k) /\ M''=M')) :
  za Tryz.prog 129 [.slice a n f e,.func (.func g) fi ca] M (fun w M'=>∃ r:Int,w=I r /\ (0<=r ↔(List.range n).any p=true) /\ M'=M):=by
 refine zc k129 rfl ?_
 dsimp only[x129,zM,zO,zI,zF,zS,zB,zL,zE,zN,zW,zC,zipE,Nat.reduceAdd]
 repeat' first|with_reducible intro _|refine sv ?_|refine sc ?_ ?_<;>(intro h;try exact sz h)|refine sg ?_ ?_<;>(intro h;first|exact sz h|refine sy h ?_)|exact sq|fail
 refine z9 (fun m E ms M'=>∃ k:Nat,m=n - k /\ k<=n /\ ms=[] /\ Has E [(0,.slice a n f e),(1,.func (.func g) fi ca),(7,I n),(8,I k)] /\ M'=M /\ ∀ j,j < k->p j=false)
  ?_ n _ _ _ ⟨0,by omega,by omega,rfl,.cons rfl (.cons rfl (.cons rfl (.cons rfl .nil))),rfl,fun j hj=>absurd hj (Nat.not_lt_zero _)⟩
 rintro m E ms M1 ⟨k,rfl,hk,rfl,hE,rfl,hall⟩
 refine z0b hE ?_
 by_cases hlast:k=n
 ·subst hlast
  repeat' first|with_reducible intro _|refine sv ?_|refine sc ?_ ?_<;>(intro h;try exact sz h)|refine sg ?_ ?_<;>(intro h;first|exact sz h|refine sy h ?_)|exact sq|fail
  refine kf ?_
  refine⟨-1,rfl,?_,rfl⟩
  rw[z47]
  exact⟨fun h=>by omega,fun⟨j,h1,h2⟩=>by rw[hall j h1] at h2;cases h2⟩
 have hlt:k < n:=by omega
 obtain⟨i,o,rfl,hr⟩:=hread k hlt
 have hc:=hp k hlt M1 (Grow.refl _)
 cases hpk:p k with
 | true =>
  rw[hpk] at hc
  (have hrd0:=hr;repeat' (first|(with_reducible intro _)|refine sv ?_|(refine sc ?_ ?_<;>(intro h;try exact sz h))|((with_reducible first|apply z02|apply z0e|apply d_same0);exact gd;exact rfl;exact rfl;(first|exact hc))|refine sg ?_ ?_<;>(intro h;first|exact sz h|refine sy h ?_)|exact sq|fail))
  refine kf ?_
  refine⟨k,rfl,?_,rfl⟩
  rw[z47]
  exact⟨fun _=>⟨k,hlt,hpk⟩,fun _=>by omega⟩
 | false =>
  rw[hpk] at hc
  (have hrd0:=hr;repeat' (first|(with_reducible intro _)|refine sv ?_|(refine sc ?_ ?_<;>(intro h;try exact sz h))|((with_reducible first|apply z02|apply z0e|apply d_same0);exact gd;exact rfl;exact rfl;(first|exact hc))|refine sg ?_ ?_<;>(intro h;first|exact sz h|refine sy h ?_)|exact sq|fail))
  refine zf (n - (k+1)) (by omega) ⟨k+1,rfl,by omega,rfl,.cons rfl (.cons rfl (.cons rfl (.cons rfl .nil))),rfl,fun j hj=>?_⟩
  by_cases hjk:j=k
  ·subst hjk;exact hpk
  ·exact hall j (by omega)
theorem z7g{a:Option (Nat × Nat)}{n:Nat}{f:Bool}{e:Nat}{g:FuncId}{fi ca:List LV}{M:Mem}(elem:Nat->LV)(p:Nat->Bool)(hn:n<=1000000000000000)
  (hread:∀ k,k < n->∃ i o,a=some (i,o) /\ Rd1 M i (o+k*1) (elem k)) (hp:∀ k,k < n->∀ M',Grow M M'->za Tryz.prog g (fi ++ [elem k] ++ ca) M' (fun w M''=>w=.bool (p k) /\ M''=M')) :
  za Tryz.prog 81 [.slice a n f e,.func (.func g) fi ca] M (fun w M'=>w=.bool ((List.range n).any p) /\ M'=M):=by
 refine zc k81 rfl ?_
 dsimp only[x81,zM,zO,zI,zF,zS,zB,zL,zA,zE,zN,zW,zC,zipE,Nat.reduceAdd]
 have hc:=zbj (f:=f) (e:=e) elem p hn hread hp
 repeat' first|with_reducible intro _|refine sv ?_|refine sc ?_ ?_<;>(intro h;try exact sz h)|((with_reducible first|apply zu|apply z0f|apply x_call0);exact gd;exact rfl;exact rfl;(first|exact hc))|refine sg ?_ ?_<;>(intro h;first|exact sz h|refine sy h ?_)|exact sq|fail
 rename_i hq
 obtain⟨r,rfl,hr,rfl⟩:=hq
 repeat' first|with_reducible intro _|refine sv ?_|refine sc ?_ ?_<;>(intro h;try exact sz h)|refine sg ?_ ?_<;>(intro h;first|exact sz h|refine sy h ?_)|exact sq|fail
 refine kf ?_
 refine⟨?_,rfl⟩
 exact congrArg LV.bool (by rw[Bool.eq_iff_iff,decide_eq_true_iff];exact hr)
theorem zp9{M:Mem}{a:Option (Nat × Nat)}{L:List ByteArray}{f:Bool}{e:Nat}(hs:SlS M a L)(hL:L.length<=1000000000000000)(hb:∀ s ∈ L,s.size<=1000000000000000) :
  za Tryz.prog 81 [.slice a L.length f e,.func (.func 82) [] []] M (fun w M'=>w=.bool (L.any lgB) /\ M'=M):=by
 have:=z7g (f:=f) (e:=e) (g:=82) (fi:=[]) (ca:=[]) (M:=M) (a:=a) (n:=L.length) (fun k=>.str (L.getD k ⟨#[]⟩)) (fun k=>lgB (L.getD k ⟨#[]⟩)) hL (fun k hk=>by
  obtain⟨i,o,h1,h2⟩:=hs.rd hk
  exact⟨i,o,h1,by rw[List.getD_eq_getElem?_getD,List.getElem?_eq_getElem hk];exact h2⟩) (fun k hk M' hg=>zgz _ (by rw[List.getD_eq_getElem?_getD,List.getElem?_eq_getElem hk];exact hb _ (List.getElem_mem hk)) M')
 have e1:(List.range L.length).any (fun k=>lgB (L.getD k ⟨#[]⟩))=L.any lgB:=by
  rw[Bool.eq_iff_iff,z47,List.any_eq_true]
  constructor
  ·rintro⟨j,h1,h2⟩
   refine⟨L[j],List.getElem_mem h1,?_⟩
   rw[List.getD_eq_getElem?_getD,List.getElem?_eq_getElem h1] at h2;exact h2
  ·rintro⟨x,h1,h2⟩
   obtain⟨j,h3,rfl⟩:=List.getElem_of_mem h1
   exact⟨j,h3,by rw[List.getD_eq_getElem?_getD,List.getElem?_eq_getElem h3];exact h2⟩
 rw[e1] at this;exact this
theorem zhm(L:List ByteArray):FrOk (frsC L):=fun x hx=>by
 obtain⟨s,_,h⟩:=List.mem_flatMap.1 hx
 exact(zmj s).1 x h
theorem zpn{L:List ByteArray}{k:Nat}(h:k < L.length):frsC (L.take (k+1))=frsC (L.take k) ++(whA L[k]).1:=by
 unfold frsC
 rw[List.take_succ_eq_append_getElem h,List.flatMap_append];simp
theorem zel:∀(L:List ByteArray),L.any lgB=false->(frsC L).length<=65536*L.length
 | [],_=>Nat.le_refl _
 | s :: L,h=>by
  rw[List.any_cons,Bool.or_eq_false_iff] at h
  have h1:¬ 65536 < s.size:=of_decide_eq_false h.1
  have h2:=zel L h.2
  have h3:=(zmj s).2
  show((whA s).1 ++ frsC L).length<=_
  rw[List.length_append,List.length_cons];omega
theorem zrl{L:List ByteArray}(h:L.any lgB=false){k:Nat}(hk:k < L.length):L[k].size<=65536:=by
 have h1:=List.any_eq_false.1 h L[k] (List.getElem_mem hk)
 have h2:¬ 65536 < L[k].size:=fun h3=>h1 (decide_eq_true h3)
 omega
set_option maxHeartbeats 8000000 in
theorem zjs{M:Mem}{n:ByteArray}{a:Option (Nat × Nat)}{L:List ByteArray}{f:Bool}{e:Nat}(hs:SlS M a L)(hn:n.size<=1000000000000000)(hL:L.length<=1000000000000000)(hb:∀ s ∈ L,s.size<=1000000000000000) :
  CallN Tryz.prog 38 [.str n,.slice a L.length f e] M (fun w M'=>∃ v,w=.tup [v,I (repF n L).2] /\ RlV M' v (repF n L).1 /\ Grow M M'):=by
 refine z39 k38 rfl ?_
 dsimp only[x38,zM,zO,zI,zF,zS,zB,zL,zA,zE,zN,zW,zC,zipE,Nat.reduceAdd]
 have cn:=fun M=>ze9 n hn M
 have cl:=fun M' (hg:Grow M M')=>zp9 (f:=f) (e:=e) (hs.grow hg) hL hb
 by_cases hnm:nmB n=true
 case neg =>
  have hj:repF n L=(zRl,2):=by unfold repF;rw[if_neg hnm]
  rw[hj]
  rw[Bool.not_eq_true] at hnm
  rw[hnm] at cn
  repeat' first|with_reducible intro _|refine sv ?_|refine sc ?_ ?_<;>(intro h;try exact sz h)|((with_reducible first|apply z02|apply z0e|apply d_same0);exact gd;exact rfl;exact rfl;(first|exact cn _))|refine sg ?_ ?_<;>(intro h;first|exact sz h|refine sy h ?_)|exact sq|fail
  refine kf ?_
  exact⟨_,rfl,z76 _,xg⟩
 rw[hnm] at cn
 by_cases hok:L.length<=8 /\ L.any lgB=false
 case neg =>
  have hj:repF n L=(zRl,3):=by unfold repF;rw[if_pos hnm,if_neg hok]
  rw[hj]
  by_cases h8:L.length<=8
  ·have hlg:L.any lgB=true:=by
    cases hq:L.any lgB with
    | true=>rfl
    | false=>exact absurd ⟨h8,hq⟩ hok
   rw[hlg] at cl
   repeat' first|with_reducible intro _|refine sv ?_|refine sc ?_ ?_<;>(intro h;try exact sz h)|((with_reducible first|apply z02|apply z0e|apply d_same0);exact gd;exact rfl;exact rfl;(first|exact cn _|exact cl _ (xg)))|refine sg ?_ ?_<;>(intro h;first|exact sz h|refine sy h ?_)|exact sq|fail
   all_goals first|(exfalso;omega)|skip
   refine kf ?_
   exact⟨_,rfl,z76 _,xg⟩
  ·repeat' first|with_reducible intro _|refine sv ?_|refine sc ?_ ?_<;>(intro h;try exact sz h)|((with_reducible first|apply z02|apply z0e|apply d_same0);exact gd;exact rfl;exact rfl;(first|exact cn _))|refine sg ?_ ?_<;>(intro h;first|exact sz h|refine sy h ?_)|exact sq|fail
   all_goals first|(exfalso;omega)|skip
   refine kf ?_
   exact⟨_,rfl,z76 _,xg⟩
 have hj:repF n L=if 128 <(z1e (frsC L)).length then(zRl,6) else((n,z1e (frsC L)),0):=by unfold repF;rw[if_pos hnm,if_pos hok]
 rw[hj]
 obtain⟨h8,hlg⟩:=hok
 rw[hlg] at cl
 repeat' first|with_reducible intro _|refine sv ?_|refine sc ?_ ?_<;>(intro h;try exact sz h)|((with_reducible first|apply z02|apply z0e|apply d_same0);exact gd;exact rfl;exact rfl;(first|exact cn _|exact cl _ (xg)))|refine sg ?_ ?_<;>(intro h;first|exact sz h|refine sy h ?_)|exact sq|fail
 all_goals first|(exfalso;omega)|skip
 rename_i n1 M1 A1 A2 A3 A3x A3y r M2 A4 A5 A6
 have hR2:=RkM.nil A4
 have g2:Grow M M2:=xg
 have a2:At M2 n1 (.cells true [.str ⟨#[]⟩,.slice none 0 true 0] 24):=xm
 have hr1:n1 < r:=by omega
 have hrM:M.next<=r:=by omega
 clear A1 A4 cl cn
 refine z9 (fun z E ms M'=>∃(k:Nat),z=L.length - k /\ k<=L.length /\ ms=[] /\ Has E [(0,.str n),(4,.ptr (some (n1,0))),(6,.map (some r)),(24,.slice a L.length f e),(25,I L.length),(26,I k)] /\
   RkM M' r ((frsC (L.take k)).foldl rkA []) /\ RkB ((frsC (L.take k)).foldl rkA []) /\ At M' n1 (.cells true [.str ⟨#[]⟩,.slice none 0 true 0] 24) /\ Grow M M')
  ?_ (L.length - 0) _ _ _ ⟨0,rfl,Nat.zero_le _,rfl,.cons rfl (.cons rfl (.cons rfl (.cons rfl (.cons rfl (.cons rfl .nil))))),hR2,RkB.nil,a2,g2⟩
 clear hR2 a2
 rintro z E ms N ⟨k,rfl,hk,rfl,hE,hR,hB,ha,hg⟩
 refine z0b hE ?_
 by_cases hlast:k=L.length
 ·subst hlast
  rw[List.take_length] at hR hB
  have hln:=zel L hlg
  have hrl:=ziq (frsC L)
  unfold rackF at hrl
  have hrj:=zq5 (zhm L).k
  unfold rackF at hrj
  repeat' first|with_reducible intro _|refine sv ?_|refine sc ?_ ?_<;>(intro h;try exact sz h)|refine sg ?_ ?_<;>(intro h;first|exact sz h|refine sy h ?_)|exact sq|fail
  refine z8q gd rfl rfl (zjv hR hrj (ne9 (zhm L)) (by omega)) ?_
  rintro w3 M3 ⟨hc,hg3⟩
  have a3:=At.grow hg3 ha
  have g3:=hg.trans hg3
  clear hg hg3 ha hR
  rcases hc with⟨hl,aj,fj,ej,rfl,hf3⟩|⟨hl,rfl⟩
  ·rw[if_neg (by omega)]
   repeat' first|with_reducible intro _|refine sv ?_|refine sc ?_ ?_<;>(intro h;try exact sz h)|refine sg ?_ ?_<;>(intro h;first|exact sz h|refine sy h ?_)|exact sq|fail
   rename_i M14 hU14 e14 hA14
   have g14:Grow M M14:=g3.upd hU14 (by omega)
   refine kf ?_
   exact⟨_,rfl,⟨aj,fj,ej,rfl,(FsV1.updr hf3 a3 hU14).to⟩,g14⟩
  ·rw[if_pos hl]
   repeat' first|with_reducible intro _|refine sv ?_|refine sc ?_ ?_<;>(intro h;try exact sz h)|refine sg ?_ ?_<;>(intro h;first|exact sz h|refine sy h ?_)|exact sq|fail
   rename_i M14 hU14 e14 hA14
   have g14:Grow M M14:=g3.upd hU14 (by omega)
   refine kf ?_
   exact⟨_,rfl,z76 _,g14⟩
 have hlt:k < L.length:=by omega
 obtain⟨i,o,rfl,hrd⟩:=(hs.grow hg).rd hlt
 have hsz:=zrl hlg hlt
 have hrN:r < N.next:=hR.lt
 (have hrd0:=hrd;repeat' (first|(with_reducible intro _)|refine sv ?_|(refine sc ?_ ?_<;>(intro h;try exact sz h))|refine sg ?_ ?_<;>(intro h;first|exact sz h|refine sy h ?_)|exact sq|fail))
 refine zu gd rfl rfl (zn2 hR hB (by omega)) ?_
 rintro w M4 ⟨hR4,hB4,-,hk4⟩
 rw[<-List.foldl_append,<- zpn hlt] at hR4 hB4
 have a4:=ha.keep hk4 (show ¬ n1=r by omega)
 have g4:Grow M M4:=Keep.to_grow' hg hk4 (fun i hi=>by omega)
 clear hk4 ha hg hR
 repeat' first|with_reducible intro _|refine sv ?_|refine sc ?_ ?_<;>(intro h;try exact sz h)|refine sg ?_ ?_<;>(intro h;first|exact sz h|refine sy h ?_)|exact sq|fail
 refine zf (L.length - (k+1)) (by omega) ⟨k+1,rfl,by omega,rfl,.cons rfl (.cons rfl (.cons rfl (.cons rfl (.cons rfl (.cons rfl .nil))))),hR4,hB4,a4,g4⟩
def h5(b:UInt8):UInt8:=if b.toNat=165 then 0 else b
def harmL(s:ByteArray):List UInt8:=s.data.toList.map h5
theorem zne(s:ByteArray):Hm (harmL s):=fun b hb=>by
 obtain⟨c,_,rfl⟩:=List.mem_map.1 hb
 unfold h5
 split
 ·decide
 ·assumption
theorem zem(s:ByteArray):(harmL s).length=s.size:=by unfold harmL;rw[List.length_map];rfl
def midL(l:List UInt8)(k:Nat):List UInt8:=(l.take k).map h5 ++ l.drop k
theorem zex(l:List UInt8)(k:Nat):(midL l k).length=l.length:=by
 unfold midL
 rw[List.length_append,List.length_map,List.length_take,List.length_drop];omega
theorem zew{l:List UInt8}{k:Nat}(h:k < l.length):(midL l k)[k]'(by rw[zex];exact h)=l[k]:=by
 unfold midL
 rw[List.getElem_append_right (by simp;omega)]
 simp[List.length_take,Nat.min_eq_left (Nat.le_of_lt h)]
theorem zm5{l:List UInt8}{k:Nat}(h:k < l.length):midL l (k+1)=(midL l k).set k (h5 l[k]):=by
 unfold midL
 have h1:((l.take k).map h5).length=k:=by simp;omega
 rw[List.set_append_right _ _ (by omega),h1,Nat.sub_self,List.take_succ_eq_append_getElem h,List.map_append,List.append_assoc,List.drop_eq_getElem_cons h]
 rfl
theorem zl1:∀ l:List LV,zy l 0 []=some l
 | []=>rfl
 | _ :: _=>rfl
theorem zcp:∀(l:List UInt8) (k:Nat) (b:UInt8),k < l.length->zy (zp l) k [byteL b]=some (zp (l.set k b))
 | x :: l,0,b,_=>by
  show ob (zy (zp l) 0 []) _=_
  rw[zl1];rfl
 | x :: l,k+1,b,h=>by
  show ob (zy (zp l) k [byteL b]) _=_
  rw[zcp l k b (by simpa using h)]
  rfl
theorem zoj{E:Env}{M:Mem}{x:XO}{e:TypeId}{s:ByteArray}(hx:xval E x=some (.str s))(h0:0 < s.size):ze Tryz.prog (.sbyt e x) E M=some (.val (.slice (some (M.next,0)) s.size false 1) (M.push (.cells true (zp s.data.toList) (apE e)))):=by
 show ob (xval E x) _=_
 rw[hx,z0]
 show guard' (Nat.ble 1 s.size) _=_
 rw[show Nat.ble 1 s.size=true by rw[Nat.ble_eq];exact h0,z6]
 rfl
set_option maxHeartbeats 4000000 in
theorem zfo{s:ByteArray}{M:Mem}(hs:s.size<=1000000000000000)(h0:0 < s.size) :
  za Tryz.prog 37 [.str s] M (fun w M'=>w=.str (strL (harmL s)) /\ Grow M M'):=by
 refine zc k37 rfl ?_
 dsimp only[x37,zM,zO,zI,zF,zS,zB,zL,zA,zE,zN,zW,zC,zipE,Nat.reduceAdd]
 repeat' first|with_reducible intro _|refine sv ?_|refine sc ?_ ?_<;>(intro h;try exact sz h)|refine sg ?_ ?_<;>(intro h;first|exact sz h|refine sy h ?_)|exact sq|fail
 refine zj8 (by exact gd) (zoj rfl h0) ?_
 have hN:New M M.next (.cells true (zp s.data.toList) (apE 5)) (M.push (.cells true (zp s.data.toList) (apE 5))):=⟨rfl,rfl⟩
 generalize M.push (.cells true (zp s.data.toList) (apE 5))=M1 at *
 have hlen:s.data.toList.length=s.size:=rfl
 have a1:At M1 M.next (.cells true (zp (midL s.data.toList 0)) (apE 5)):=At.new_same hN
 have g1:=hN.grow
 clear hN
 generalize hb:M.next=b at *
 generalize hl:s.data.toList=l at *
 rw[<-hlen]
 repeat' first|with_reducible intro _|refine sv ?_|refine sc ?_ ?_<;>(intro h;try exact sz h)|refine sg ?_ ?_<;>(intro h;first|exact sz h|refine sy h ?_)|exact sq|fail
 refine z9 (fun z E ms M'=>∃(k:Nat),z=l.length - k /\ k<=l.length /\ ms=[] /\ Has E [(3,.slice (some (b,0)) l.length false 1),(4,I k)] /\ At M' b (.cells true (zp (midL l k)) (apE 5)) /\ Grow M M')
  ?_ (l.length - 0) _ _ _ ⟨0,rfl,Nat.zero_le _,rfl,.cons rfl (.cons rfl .nil),a1,g1⟩
 clear a1 g1
 rintro z E ms N ⟨k,rfl,hk,rfl,hE,ha,hg⟩
 refine z0b hE ?_
 clear hE
 by_cases hlast:k=l.length
 ·subst hlast
  have hm:midL l l.length=harmL s:=by unfold midL harmL;rw[List.take_length,List.drop_length,List.append_nil,hl]
  rw[hm] at ha
  have hv:ApB b N (.slice (some (b,0)) l.length false 1) (harmL s):=⟨false,_,by rw[zem,<- hlen],ha,.inr rfl⟩
  repeat' first|with_reducible intro _|refine sv ?_|refine sc ?_ ?_<;>(intro h;try exact sz h)|refine sg ?_ ?_<;>(intro h;first|exact sz h|refine sy h ?_)|exact sq|fail
  refine z36 (by exact gd) (hv.bstr rfl) ?_
  repeat' first|with_reducible intro _|refine sv ?_|refine sc ?_ ?_<;>(intro h;try exact sz h)|refine sg ?_ ?_<;>(intro h;first|exact sz h|refine sy h ?_)|exact sq|fail
  refine kf ?_
  exact⟨rfl,hg⟩
 have hlt:k < l.length:=by omega
 have hlt':k <(midL l k).length:=by rw[zex];exact hlt
 have hrd:Rd1 N b (0+k*1) (byteL l[k]):=by
  have h1:=z1v (enc:=u8c) (l:=midL l k) (by rw[<-z1k];exact ha) (fun _ _=>rfl) hlt'
  rw[zew hlt] at h1
  exact z6u h1
 have hset:=fun c=>zcp (midL l k) k c hlt'
 by_cases hq:l[k].toNat=165
 ·have e1:h5 l[k]=0:=by unfold h5;rw[if_pos hq]
  have h2:=hset (h5 l[k])
  rw[<-zm5 hlt,e1] at h2
  unfold byteL at hrd
  (have hrd0:=hrd;repeat' (first|(with_reducible intro _)|refine sv ?_|(refine sc ?_ ?_<;>(intro h;try exact sz h))|refine sg ?_ ?_<;>(intro h;first|exact sz h|refine sy h ?_)|exact sq|fail))
  all_goals first|(exfalso;omega)|skip
  refine x_st (by exact gd) rfl rfl ha rfl rfl (by rw[Nat.zero_add,Nat.mul_one];exact h2) ?_
  intro N7 D1 D2 D3
  have g7:Grow M N7:=hg.upd D1 (by omega)
  repeat' first|with_reducible intro _|refine sv ?_|refine sc ?_ ?_<;>(intro h;try exact sz h)|refine sg ?_ ?_<;>(intro h;first|exact sz h|refine sy h ?_)|exact sq|fail
  exact zf (l.length - (k+1)) (by omega) ⟨k+1,rfl,by omega,rfl,.cons rfl (.cons rfl .nil),D3,g7⟩
 ·have e1:h5 l[k]=l[k]:=by unfold h5;rw[if_neg hq]
  have h2:midL l (k+1)=midL l k:=by
   rw[zm5 hlt,e1]
   have:=List.set_getElem_self hlt'
   rw[zew hlt] at this
   exact this
  unfold byteL at hrd
  (have hrd0:=hrd;repeat' (first|(with_reducible intro _)|refine sv ?_|(refine sc ?_ ?_<;>(intro h;try exact sz h))|refine sg ?_ ?_<;>(intro h;first|exact sz h|refine sy h ?_)|exact sq|fail))
  all_goals first|(exfalso;omega)|skip
  exact zf (l.length - (k+1)) (by omega) ⟨k+1,rfl,by omega,rfl,.cons rfl (.cons rfl .nil),by rw[h2];exact ha,hg⟩
end Go.Proofs.YtbfnnllgdioccaaGreatDoor.C
end
section
open Go PvL Go.Proofs
set_option linter.unusedSimpArgs false
set_option linter.unusedVariables false
namespace Go.Proofs.YtbfnnllgdioccaaGreatDoor.C
inductive Cp:List UInt8->List Fr->Prop
 | nil:Cp [] []
 | junk {b:List UInt8} {F:List Fr} {x:List UInt8} (h:Cp b F) (hx:Hm x):Cp (b ++ x) F
 | fr {b:List UInt8} {F:List Fr} {f:Fr} (h:Cp b F) (hf:frB f=true):Cp (b ++ pkL f) (F ++ [f])
theorem zj7{s:ByteArray}:∀(x:List UInt8) (k p:Nat) (F:List Fr) (L:List Bd),Hm x->Mt s p x->p<=s.size->s.size - p<=k ->
  ∃ k' L',whB s k p F L=whB s k' (p+x.length) F L' /\ s.size - (p+x.length)<=k'
 | [],k,p,F,L,_,_,_,hk=>⟨k,L,rfl,hk⟩
 | b :: x,k,p,F,L,hx,hm,hp,hk=>by
  have hlt:p < s.size:=hm.1
  obtain⟨k,rfl⟩:∃ j,k=j+1:=⟨k - 1,by omega⟩
  have h1:byteAt s p ≠ 165:=by rw[hm.2.1];exact hx b (by simp)
  obtain⟨k',L',e1,e2⟩:=zj7 x k (p+1) F (lostA L p) (fun c hc=>hx c (by simp[hc])) hm.2.2 (by omega) (by omega)
  refine⟨k',L',?_,by rw[List.length_cons];omega⟩
  rw[show whB s (k+1) p F L=whB s k (p+1) F (lostA L p) by
   conv=>lhs;unfold whB
   rw[if_pos hlt,zor hp h1]]
  rw[e1,List.length_cons]
  have e4:p+1+x.length=p+(x.length+1):=by omega
  rw[e4]
theorem zrt{s:ByteArray}{b:List UInt8}{F:List Fr}(h:Cp b F):Mt s 0 b->∃ k' L',whA s=whB s k' b.length F L' /\ s.size - b.length<=k':=by
 induction h with
 | nil=>intro _;exact⟨s.size,[],rfl,by simp⟩
 | @junk b F x h hx ih =>
  intro hm
  obtain⟨h1,h2⟩:=Mt.app.1 hm
  rw[Nat.zero_add] at h2
  obtain⟨k',L',e1,e2⟩:=ih h1
  have hb:=h1.le (Nat.zero_le _)
  obtain⟨k2,L2,e3,e4⟩:=zj7 x k' b.length F L' hx h2 (by omega) e2
  exact⟨k2,L2,by rw[e1,e3,List.length_append],by rw[List.length_append];exact e4⟩
 | @fr b F f h hf ih =>
  intro hm
  obtain⟨h1,h2⟩:=Mt.app.1 hm
  rw[Nat.zero_add] at h2
  obtain⟨k',L',e1,e2⟩:=ih h1
  have hb:=h1.le (Nat.zero_le _)
  have hpp:=zm9 f
  have hle:=h2.le (by omega)
  obtain⟨k',rfl⟩:∃ j,k'=j+1:=⟨k' - 1,by omega⟩
  refine⟨k',L',?_,by rw[List.length_append];omega⟩
  rw[e1,List.length_append]
  conv=>lhs;unfold whB
  rw[if_pos (by omega),zpt (by omega) hf h2]
theorem zmi{b:List UInt8}{F:List Fr}(h:Cp b F):(whA (strL b)).1=F:=by
 obtain⟨k',L',e1,_⟩:=zrt h (zpu b)
 rw[e1]
 have h1:(strL b).size=b.length:=rfl
 cases k' with
 | zero=>rfl
 | succ k=>unfold whB;rw[if_neg (by omega)]
end Go.Proofs.YtbfnnllgdioccaaGreatDoor.C
end
section
open Go PvL Go.Proofs
set_option linter.unusedSimpArgs false
set_option linter.unusedVariables false
variable {μ:Md}
namespace Go.Proofs.YtbfnnllgdioccaaGreatDoor.C
def restF(x m:Int):Int:=if x.tmod m < 0 then x.tmod m+m else x.tmod m
theorem zax{x m:Int}(hm:1<=m):0<=restF x m /\ restF x m < m:=by
 have h1:=Int.lt_tmod_of_pos x (b:=m) (by omega)
 have h2:=Int.tmod_lt_of_pos x (b:=m) (by omega)
 unfold restF
 split<;>omega
theorem zh0(x m:Int)(hm:1<=m /\ m<=1000000000000000)(M:Mem):za Tryz.prog 40 [I x,I m] M (fun w M'=>w=I (restF x m) /\ M'=M):=by
 have h1:=Int.lt_tmod_of_pos x (b:=m) (by omega)
 have h2:=Int.tmod_lt_of_pos x (b:=m) (by omega)
 refine zc k40 rfl ?_
 dsimp only[x40,zM,zO,zI,zF,zS,zB,zL,zA,zE,zN,zW,zC,zipE,Nat.reduceAdd]
 repeat' first|with_reducible intro _|refine sv ?_|refine sc ?_ ?_<;>(intro h;try exact sz h)|refine sg ?_ ?_<;>(intro h;first|exact sz h|refine sy h ?_)|exact sq|fail
 all_goals (refine kf ?_)
 all_goals refine⟨?_,rfl⟩
 all_goals unfold restF
 ·rw[if_pos (by omega)];rfl
 ·rw[if_neg (by omega)];rfl
def pickF(l:List Int)(k:Int):Int:=l.getD (restF k l.length).toNat 0
theorem zp0{a:Option (Nat × Nat)}{f:Bool}{e:Nat}{l:List Int}{k:Int}{M:Mem}(hl:SlI M a l)(hlen:l.length<=1000000000000000):za Tryz.prog 41 [.slice a l.length f e,I k] M (fun w M'=>w=I (pickF l k) /\ M'=M):=by
 refine zc k41 rfl ?_
 dsimp only[x41,zM,zO,zI,zF,zS,zB,zL,zA,zE,zN,zW,zC,zipE,Nat.reduceAdd]
 unfold pickF
 by_cases h0:l.length=0
 ·have h0':(l.length:Int)=0:=by omega
  have hn:l=[]:=List.length_eq_zero_iff.1 h0
  repeat' first|with_reducible intro _|refine sv ?_|refine sc ?_ ?_<;>(intro h;try exact sz h)|refine sg ?_ ?_<;>(intro h;first|exact sz h|refine sy h ?_)|exact sq|fail
  all_goals first
   |(exfalso;omega)
   |((refine kf ?_)
     exact⟨by rw[hn];rfl,rfl⟩)
 ·have hb:=zax (x:=k) (m:=l.length) (by omega)
  have hk:(restF k l.length).toNat < l.length:=by omega
  obtain⟨i,o,rfl,hr1⟩:=hl.rd hk
  rw[show l.getD (restF k l.length).toNat 0=l[(restF k l.length).toNat] by rw[List.getD_eq_getElem?_getD,List.getElem?_eq_getElem hk];rfl]
  (have hrd0:=hr1;repeat' (first|(with_reducible intro _)|refine sv ?_|(refine sc ?_ ?_<;>(intro h;try exact sz h))|((with_reducible first|apply z02|apply z0e|apply d_same0);exact gd;exact rfl;exact rfl;(first|exact zh0 k l.length (by omega) _))|refine sg ?_ ?_<;>(intro h;first|exact sz h|refine sy h ?_)|exact sq|fail))
  all_goals (refine kf ?_)
  all_goals exact⟨rfl,rfl⟩
end Go.Proofs.YtbfnnllgdioccaaGreatDoor.C
end
section
open Go PvL Go.Proofs
set_option linter.unusedSimpArgs false
set_option linter.unusedVariables false
namespace Go.Proofs.YtbfnnllgdioccaaGreatDoor.C
def CpI(r:Rl)(m i k:Nat)(c:List UInt8):Prop:=∃ F,Cp c F /\ (∀ f ∈ F,f ∈ r.2) /\ (∀ j:Nat,j < i->(j:Int) % (m:Int)=(k:Int)->fe r.2 j ∈ F) /\ c.length<=100001*i
theorem CpI.zero(r:Rl)(m k:Nat):CpI r m 0 k []:=⟨[],.nil,(fun _ h=>nomatch h),(fun j h=>absurd h (Nat.not_lt_zero _)),Nat.le_refl _⟩
theorem CpI.fr{r:Rl}{m i k:Nat}{c:List UInt8}(h:CpI r m i k c)(hr:FrOk r.2)(hi:i < r.2.length):CpI r m (i+1) k (c ++ pkL (fe r.2 i)):=by
 obtain⟨F,h1,h2,h3,h4⟩:=h
 have hm:fe r.2 i ∈ r.2:=by rw[z71 hi];exact List.getElem_mem hi
 have hf:=hr _ hm
 have hl:=zim (z4w hf).2
 refine⟨F ++ [fe r.2 i],h1.fr hf,fun f hf=>?_,fun j hj hk=>?_,by rw[List.length_append];omega⟩
 ·rcases List.mem_append.1 hf with h|h
  ·exact h2 f h
  ·rw[List.mem_singleton.1 h];exact hm
 ·by_cases hji:j=i
  ·subst hji;simp
  ·exact List.mem_append.2 (.inl (h3 j (by omega) hk))
theorem CpI.junk{r:Rl}{m i k:Nat}{c x:List UInt8}(h:CpI r m i k c)(hx:Hm x)(hk:(i:Int) % (m:Int) ≠(k:Int))(hl:x.length<=100001):CpI r m (i+1) k (c ++ x):=by
 obtain⟨F,h1,h2,h3,h4⟩:=h
 refine⟨F,h1.junk hx,h2,fun j hj hjk=>?_,by rw[List.length_append];omega⟩
 by_cases hji:j=i
 ·subst hji;exact absurd hjk hk
 ·exact h3 j (by omega) hjk
theorem zkw{r:Rl}{m:Nat}{C:List (List UInt8)}(he:z1r r=0)(hm:1<=m /\ m<=3)(hC:C.length=m)(h:∀ k (hk:k < C.length),CpI r m r.2.length k C[k])(hs:∀ k (hk:k < C.length),C[k].length<=65536) :
  repF r.1 (C.map strL)=(r,0):=by
 obtain⟨e1,e2,e3⟩:=err0 he
 have hj:z1e (frsC (C.map strL))=r.2:=by
  refine zdg e3 (fun y hy=>?_) (fun y hy=>?_)
  ·obtain⟨s,hs1,hs2⟩:=List.mem_flatMap.1 hy
   obtain⟨c,hc1,rfl⟩:=List.mem_map.1 hs1
   obtain⟨k,hk,rfl⟩:=List.getElem_of_mem hc1
   obtain⟨F,h1,h2,_⟩:=h k hk
   rw[zmi h1] at hs2
   exact h2 y hs2
  ·obtain⟨j,hj,rfl⟩:=List.getElem_of_mem hy
   have b1:=Int.emod_lt_of_pos (j:Int) (b:=(m:Int)) (by omega)
   have b2:0<=(j:Int) % (m:Int):=Int.emod_nonneg _ (by omega)
   obtain⟨k,hk⟩:∃ k:Nat,(j:Int) % (m:Int)=(k:Int):=⟨((j:Int) % (m:Int)).toNat,by omega⟩
   have hk':k < C.length:=by omega
   obtain⟨F,h1,h2,h3,_⟩:=h k hk'
   have h4:=h3 j hj hk
   rw[z71 hj] at h4
   exact List.mem_flatMap.2 ⟨strL C[k],List.mem_map.2 ⟨C[k],List.getElem_mem hk',rfl⟩,by rw[zmi h1];exact h4⟩
 have hlg:(C.map strL).any lgB=false:=by
  rw[List.any_eq_false]
  intro s h1 h2
  obtain⟨c,hc1,rfl⟩:=List.mem_map.1 h1
  obtain⟨k,hk,rfl⟩:=List.getElem_of_mem hc1
  have h3:=hs k hk
  have h4:65536 <(strL C[k]).size:=of_decide_eq_true h2
  have h5:(strL C[k]).size=C[k].length:=rfl
  omega
 unfold repF
 rw[if_pos e1,if_pos ⟨by rw[List.length_map];omega,hlg⟩,hj,if_neg (by omega)]
theorem zis{x:LV}:∀ n,rep n [x]=List.replicate n x
 | 0=>rfl
 | n+1=>by
  show [x] ++ rep n [x]=_
  rw[zis n];rfl
abbrev stc(c:List UInt8):LV:=.str (strL c)
theorem zf8{α:Type}(g:α->LV):∀(l:List α) (k:Nat) (v:α),k < l.length->zy (l.map g) k [g v]=some ((l.set k v).map g)
 | x :: l,0,b,_=>by
  show ob (zy (l.map g) 0 []) _=_
  have:∀ l:List LV,zy l 0 []=some l:=fun l=>by cases l<;>rfl
  rw[this];rfl
 | x :: l,k+1,b,h=>by
  show ob (zy (l.map g) k [g b]) _=_
  rw[zf8 g l k b (by simpa using h)]
  rfl
theorem z74{α:Type}(g:α->LV):∀ l:List α,l.flatMap (fun x=>[g x])=l.map g
 | []=>rfl
 | x :: l=>by rw[List.flatMap_cons,z74 g l];rfl
theorem zda{r:Rl}{m i k:Nat}{D:List (List UInt8)}{c:List UInt8}(h:∀ j (hj:j < D.length),CpI r m (if j < k then i+1 else i) j D[j])(hc:CpI r m (i+1) k c):∀ j (hj:j <(D.set k c).length),CpI r m (if j < k+1 then i+1 else i) j (D.set k c)[j]:=fun j hj=>by
 rw[List.getElem_set]
 by_cases hjk:k=j
 ·subst hjk
  rw[if_pos rfl,if_pos (by omega)];exact hc
 ·rw[if_neg hjk]
  have h1:=h j (by simpa using hj)
  by_cases hlt:j < k
  ·rw[if_pos hlt] at h1;rw[if_pos (by omega)];exact h1
  ·rw[if_neg hlt] at h1;rw[if_neg (by omega)];exact h1
theorem zdt{D:List (List UInt8)}{k:Nat}(hk:k < D.length)(x:List UInt8){s:ByteArray}(hs:s=strL x):zy (D.map stc) (0+k*1) [.str (strL D[k] ++ s)]=some ((D.set k (D[k] ++ x)).map stc):=by
 rw[hs,zfb,Nat.zero_add,Nat.mul_one]
 exact zf8 stc D k _ hk
