/-
 Part of the proof of TapeWhole. No condition beyond those in each theorem.
-/
import Derived.Test.YtbfnnllgdioccaaGreatDoorSD
import Derived.Test.YtbfnnllgdioccaaGreatDoorSB
import Derived.Test.YtbfnnllgdioccaaGreatDoorSE
import Derived.Test.YtbfnnllgdioccaaGreatDoorSA
import Derived.Test.YtbfnnllgdioccaaGreatDoorTW
section
open Go PvL Go.Proofs
set_option linter.unusedSimpArgs false
set_option linter.unusedVariables false
variable {μ:Md}
namespace Go.Proofs.YtbfnnllgdioccaaGreatDoor.C
section
variable {α:Type} {b q:Nat} {ty:TypeId} {enc:α->List LV} {M:Mem} {v:LV} {l l':List α} {P:Program} [Orc P] {sz:Nat} {E:Env} {K:Env->Mem->Prop} {ll:List XG} {d:Nat} {g:Option (Nat × Bool)} {s x:XO} {st:List Mem} {k:Nat} {xs:List (Nat × Nat × (Mem->Prop))} {ld:List (XG × XK)} {by':Nat} {z:List LV} {xv:LV}
end
def FwB(b:Nat)(M:Mem)(x:FW)(f:Fr):Prop:=x.1=fky f /\ x.2.2.1=f.2.2.length /\ (f.2.2=[] ∨ ∃ i o,x.2.1=some (i,o) /\ i < b /\ ∀ k (hk:k < f.2.2.length),Rd1 M i (o+k*1) (I f.2.2[k]))
inductive FwLB (b:Nat) (M:Mem):List FW->List Fr->Prop
 | nil:FwLB b M [] []
 | cons {x:FW} {f:Fr} {xs:List FW} {fs:List Fr} (h:FwB b M x f) (h':FwLB b M xs fs):FwLB b M (x :: xs) (f :: fs)
theorem FwB.keep{b b':Nat}{M M':Mem}{F:Nat->Prop}{x:FW}{f:Fr}(h:FwB b M x f)(hk:Keep F M M')(hF:∀ i,F i->b<=i)(hb:b<=b'):FwB b' M' x f :=
 ⟨h.1,h.2.1,h.2.2.imp id fun⟨i,o,h1,h2,h3⟩=>⟨i,o,h1,by omega,fun k hk'=>(h3 k hk').keep hk (fun hf=>by have:=hF i hf;omega)⟩⟩
theorem FwB.grow{b b':Nat}{M M':Mem}{x:FW}{f:Fr}(h:FwB b M x f)(hg:Grow M M')(hb:b<=b'):FwB b' M' x f:=h.keep (hg.to_keep (fun _=>False)) (fun _ h=>h.elim) hb
theorem FwLB.keep{b b':Nat}{M M':Mem}{F:Nat->Prop}{xs:List FW}{fs:List Fr}(h:FwLB b M xs fs)(hk:Keep F M M')(hF:∀ i,F i->b<=i)(hb:b<=b'):FwLB b' M' xs fs:=by
 induction h with
 | nil=>exact .nil
 | cons h _ ih=>exact .cons (h.keep hk hF hb) ih
theorem FwLB.grow{b b':Nat}{M M':Mem}{xs:List FW}{fs:List Fr}(h:FwLB b M xs fs)(hg:Grow M M')(hb:b<=b'):FwLB b' M' xs fs:=h.keep (hg.to_keep (fun _=>False)) (fun _ h=>h.elim) hb
theorem FwLB.app{b:Nat}{M:Mem}{xs xs':List FW}{fs fs':List Fr}(h:FwLB b M xs fs)(h':FwLB b M xs' fs'):FwLB b M (xs ++ xs') (fs ++ fs'):=by
 induction h with
 | nil=>exact h'
 | cons h _ ih=>exact .cons h ih
theorem FwLB.len{b:Nat}{M:Mem}{xs:List FW}{fs:List Fr}(h:FwLB b M xs fs):xs.length=fs.length:=by
 induction h with
 | nil=>rfl
 | cons _ _ ih=>simp[ih]
theorem FwLB.l{b:Nat}{M:Mem}{xs:List FW}{fs:List Fr}(h:FwLB b M xs fs):FwL M xs fs:=by
 induction h with
 | nil=>exact .nil
 | cons h _ ih=>exact .cons ⟨h.1,h.2.1,h.2.2.imp id fun⟨i,o,h1,h2,h3⟩=>⟨i,o,h1,h3⟩⟩ ih
theorem zp7{M:Mem}{x:Fr}{b:Option (Nat × Nat)}{g:Bool}{u:Nat}(h:SlI M b x.2.2):FwB M.next M ((x.1,x.2.1),b,x.2.2.length,g,u) x :=
 ⟨rfl,rfl,by
  rcases h with h|⟨i,o,h1,h2⟩
  ·exact .inl h
  ·by_cases h0:x.2.2=[]
   ·exact .inl h0
   ·refine .inr ⟨i,o,h1,?_,h2⟩
    have:=h2 0 (List.length_pos_iff.2 h0)
    exact this.2⟩
theorem FsV.at{M:Mem}{a:Option (Nat × Nat)}{L:List Fr}(h:FsV M a L){k:Nat}(hk:k < L.length):∃ i o b g u,a=some (i,o) /\ Rd M i (o+k*3) 3 [I (fe L k).1,I (fe L k).2.1,.slice b (fe L k).2.2.length g u] /\ SlI M b (fe L k).2.2:=by
 obtain⟨i,o,b,g,u,h1,h2,b',g',u',h3,h4⟩:=h.rd hk
 cases h3
 exact⟨i,o,b,g,u,h1,h2,h4⟩
end Go.Proofs.YtbfnnllgdioccaaGreatDoor.C
end
section
open Go PvL Go.Proofs
set_option linter.unusedSimpArgs false
set_option linter.unusedVariables false
namespace Go.Proofs.YtbfnnllgdioccaaGreatDoor.C
def pfF(x:Fr):List UInt8 × Int:=if frB x then(pkL x,0) else([],80)
set_option maxHeartbeats 4000000 in
theorem zd0{M:Mem}{v:LV}{x:Fr}(hv:FrV M v x)(hin:FrIn x):za Tryz.prog 36 [v] M (fun w M'=>w=.tup [.str (strL (pfF x).1),I (pfF x).2] /\ Grow M M'):=by
 have hv0:=hv
 obtain⟨a,f,e,rfl,hs⟩:=hv0
 refine zd k36 rfl ?_
 dsimp only[x36,zM,zO,zI,zF,zS,zB,zL,zA,zE,zN,zW,zC,zipE,Nat.reduceAdd]
 have cc:=fun M' (hg:Grow M M')=>z1l (hv.grow hg) hin
 cases hfb:frB x with
 | false =>
  rw[show errF x=80 from by unfold errF;rw[hfb];rfl] at cc
  rw[show pfF x=([],80) from by unfold pfF;rw[hfb];rfl]
  repeat' first|with_reducible intro _|refine sv ?_|refine sc ?_ ?_<;>(intro h;try exact sz h)|((with_reducible first|apply z1m|apply z1p|apply d_pure0);exact gd;exact rfl;exact rfl;(first|exact cc _ (xg)))|refine sg ?_ ?_<;>(intro h;first|exact sz h|refine sy h ?_)|exact sq|fail
  refine kf ?_
  exact⟨rfl,xg⟩
 | true =>
  rw[show errF x=0 from by unfold errF;rw[hfb];rfl] at cc
  rw[show pfF x=(pkL x,0) from by unfold pfF;rw[hfb];rfl]
  have cp:=fun M' (hg:Grow M M')=>zjh (hv.grow hg) hfb
  repeat' first|with_reducible intro _|refine sv ?_|refine sc ?_ ?_<;>(intro h;try exact sz h)|((with_reducible first|apply z1m|apply z1p|apply d_pure0);exact gd;exact rfl;exact rfl;(first|exact cc _ (xg)))|((with_reducible first|apply zq|apply z0b|apply x_call0);exact gd;exact rfl;exact rfl;(first|exact cp _ (xg)))|refine sg ?_ ?_<;>(intro h;first|exact sz h|refine sy h ?_)|exact sq|fail
  rename_i hq
  obtain⟨b,hb,hb2,hg⟩:=hq
  refine z3m (by exact gd) (ApB.bstr hb rfl) ?_
  have hl:=hg.le
  repeat' first|with_reducible intro _|refine sv ?_|refine sc ?_ ?_<;>(intro h;try exact sz h)|refine sg ?_ ?_<;>(intro h;first|exact sz h|refine sy h ?_)|exact sq|fail
  refine kf ?_
  exact⟨rfl,xg⟩
theorem zpj(x:Fr):0 <(pkL x).length:=by
 unfold pkL chkL bodyL hdL
 simp only[List.length_append,List.length_cons]
 omega
def Hm(x:List UInt8):Prop:=∀ b ∈ x,b.toNat ≠ 165
abbrev Sg:=List UInt8 × Fr
def sgB(z:Sg):List UInt8:=z.1 ++ pkL z.2
def lostS:Nat->List Sg->List Bd
 | _,[]=>[]
 | p,z :: r=>(if z.1.length=0 then [] else [((p:Int),(p:Int)+(z.1.length:Int) - 1)]) ++ lostS (p+(sgB z).length) r
theorem zca:∀(a b:List Sg) (p:Nat),lostS p (a ++ b)=lostS p a ++ lostS (p+(a.flatMap sgB).length) b
 | [],b,p=>rfl
 | z :: a,b,p=>by
  show _ ++ lostS _ (a ++ b)=(_ ++ lostS _ a) ++ _
  rw[zca a b,List.append_assoc,List.flatMap_cons,List.length_append,Nat.add_assoc]
theorem znh(x:Fr):∃ t,pkL x=165 :: t:=⟨_,rfl⟩
theorem zlf{s:ByteArray}{p:Nat}(hp:p<=s.size)(h:byteAt s p ≠ 165):FrD s p=none:=by
 cases hh:FrD s p with
 | none=>rfl
 | some z =>
  obtain⟨x,q⟩:=z
  obtain⟨_,_,h3⟩:=zoe hp hh
  obtain⟨t,ht⟩:=znh x
  rw[ht] at h3
  exact absurd h3.2.1 h
theorem zhu(L:List Bd)(a p:Int)(q:Nat)(h:p=(q:Int) - 1):lostA (L ++ [(a,p)]) q=L ++ [(a,(q:Int))]:=by
 unfold lostA
 rw[List.getLast?_append]
 simp[h]
theorem zm6{s:ByteArray}:∀(x:List UInt8) (k p:Nat) (F:List Fr) (L:List Bd) (a:Int),Hm x->Mt s p x->p<=s.size->s.size - p<=k ->
  ∃ k',whB s k p F (L ++ [(a,(p:Int) - 1)])=whB s k' (p+x.length) F (L ++ [(a,(p:Int)+x.length - 1)]) /\ s.size - (p+x.length)<=k'
 | [],k,p,F,L,a,_,_,_,hk=>⟨k,by simp,by simpa using hk⟩
 | b :: x,k,p,F,L,a,hx,hm,hp,hk=>by
  have hlt:p < s.size:=hm.1
  obtain⟨k,rfl⟩:∃ j,k=j+1:=⟨k - 1,by omega⟩
  have h1:byteAt s p ≠ 165:=by rw[hm.2.1];exact hx b (by simp)
  obtain⟨k',e1,e2⟩:=zm6 x k (p+1) F L a (fun c hc=>hx c (by simp[hc])) hm.2.2 (by omega) (by omega)
  refine⟨k',?_,by rw[List.length_cons];omega⟩
  rw[show whB s (k+1) p F (L ++ [(a,(p:Int) - 1)])=whB s k (p+1) F (lostA (L ++ [(a,(p:Int) - 1)]) p) by
   conv=>lhs;unfold whB
   rw[if_pos hlt,zlf hp h1]]
  rw[zhu L a _ p rfl]
  have e3:((p+1:Nat):Int) - 1=(p:Int):=by omega
  rw[e3] at e1
  rw[e1,List.length_cons]
  have e4:p+1+x.length=p+(x.length+1):=by omega
  have e5:((p+1:Nat):Int)+(x.length:Int) - 1=(p:Int)+((x.length+1:Nat):Int) - 1:=by omega
  rw[e4,e5]
theorem zpv{s:ByteArray}{x:List UInt8}{k p:Nat}{F:List Fr}{L:List Bd}(hx:Hm x)(hm:Mt s p x)(hp:p<=s.size)(hk:s.size - p<=k)(hL:∀ y ∈ L,y.2 <(p:Int) - 1) :
  ∃ k',whB s k p F L=whB s k' (p+x.length) F (L ++ if x.length=0 then [] else [((p:Int),(p:Int)+(x.length:Int) - 1)]) /\ s.size - (p+x.length)<=k':=by
 cases x with
 | nil=>exact⟨k,by simp,by simpa using hk⟩
 | cons b x =>
  have hlt:p < s.size:=hm.1
  obtain⟨k,rfl⟩:∃ j,k=j+1:=⟨k - 1,by omega⟩
  have h1:byteAt s p ≠ 165:=by rw[hm.2.1];exact hx b (by simp)
  obtain⟨k',e1,e2⟩:=zm6 (s:=s) x k (p+1) F L p (fun c hc=>hx c (by simp[hc])) hm.2.2 (by omega) (by omega)
  refine⟨k',?_,by rw[List.length_cons];omega⟩
  rw[show whB s (k+1) p F L=whB s k (p+1) F (lostA L p) by
   conv=>lhs;unfold whB
   rw[if_pos hlt,zlf hp h1]]
  have e0:lostA L p=L ++ [((p:Int),(p:Int))]:=by
   unfold lostA
   cases hq:L.getLast? with
   | none=>rfl
   | some y =>
    have hy:=hL y (List.mem_of_getLast? hq)
    simp only
    rw[if_neg (by omega)]
  rw[e0]
  have e3:((p+1:Nat):Int) - 1=(p:Int):=by omega
  rw[e3] at e1
  rw[e1,List.length_cons,if_neg (by omega)]
  have e4:p+1+x.length=p+(x.length+1):=by omega
  have e5:((p+1:Nat):Int)+(x.length:Int) - 1=(p:Int)+((x.length+1:Nat):Int) - 1:=by omega
  rw[e4,e5]
theorem zit{s:ByteArray}:∀(S:List Sg) (k p:Nat) (F:List Fr) (L:List Bd),(∀ z ∈ S,Hm z.1 /\ frB z.2=true)->Mt s p (S.flatMap sgB)->p<=s.size->p+(S.flatMap sgB).length=s.size->s.size - p<=k->(∀ y ∈ L,y.2 <(p:Int) - 1) ->
  whB s k p F L=(F ++ S.map (·.2),L ++ lostS p S)
 | [],k,p,F,L,_,_,hp,he,hk,_=>by
  have he:p=s.size:=by simpa using he
  have:whB s k p F L=(F,L):=by
   cases k with
   | zero=>rfl
   | succ k=>unfold whB;rw[if_neg (by omega)]
  rw[this];simp[lostS]
 | z :: S,k,p,F,L,hS,hm,hp,he,hk,hL=>by
  have hz:=hS z (by simp)
  rw[List.flatMap_cons] at hm he
  obtain⟨hm1,hm2⟩:=Mt.app.1 hm
  obtain⟨hm3,hm4⟩:=Mt.app.1 (show Mt s p (z.1 ++ pkL z.2) from hm1)
  have hlen:(sgB z).length=z.1.length+(pkL z.2).length:=by unfold sgB;rw[List.length_append]
  rw[List.length_append] at he
  obtain⟨k',e1,e2⟩:=zpv (F:=F) hz.1 hm3 hp hk hL
  have hpp:=zpj z.2
  have hp':p+z.1.length<=s.size:=hm3.le hp
  obtain⟨k',rfl⟩:∃ j,k'=j+1:=⟨k' - 1,by omega⟩
  rw[e1]
  conv=>lhs;unfold whB
  rw[if_pos (by omega),zpd hp' hz.2 hm4]
  simp only
  have e3:p+z.1.length+(pkL z.2).length=p+(sgB z).length:=by omega
  rw[e3,zit S k' (p+(sgB z).length) (F ++ [z.2]) _ (fun y hy=>hS y (by simp[hy])) hm2 (by omega) (by omega) (by omega) ?_]
  ·rw[List.map_cons,List.append_assoc,List.append_assoc];rfl
  ·intro y hy
   rcases List.mem_append.1 hy with hy|hy
   ·have:=hL y hy;omega
   ·split at hy
    ·cases hy
    ·rw[List.mem_singleton.1 hy];simp only;omega
theorem zpe(l:List UInt8):Mt (strL l) 0 l:=by
 refine(Mt.drop (Nat.zero_le _)).2 ?_
 show(l.drop 0).take l.length=l
 rw[List.drop_zero,List.take_length]
theorem zkz{S:List Sg}(hS:∀ z ∈ S,Hm z.1 /\ frB z.2=true):whA (strL (S.flatMap sgB))=(S.map (·.2),lostS 0 S):=by
 unfold whA
 have h1:(strL (S.flatMap sgB)).size=(S.flatMap sgB).length:=rfl
 rw[zit S _ 0 [] [] hS (zpe _) (Nat.zero_le _) (by rw[h1];omega) (by omega) (fun _ h=>nomatch h)]
 rfl
theorem zhe{L:List Fr}(hL:FrOk L):GdL (z20 L) :=
 ⟨(znl hL.k).s,zh6 (J:=[]) (fun _ h=>absurd h List.not_mem_nil) hL⟩
theorem hasK{x:Fr}:∀ {L J:List Fr},SrtJ J->(∀ y ∈ J,FrK y)->(∀ y ∈ L,FrK y)->(x ∈ L ∨ ∃ l,lkJ J (fky x)=some l /\ z0o l x.2.2=l)->∃ l,lkJ (L.foldl addR J) (fky x)=some l /\ z0o l x.2.2=l
 | [],J,_,_,_,h=>by
  rcases h with h|h
  ·cases h
  ·exact h
 | f :: L,J,h1,h2,h3,h=>by
  obtain⟨g1,g2,g3,_⟩:=zcv h1 h2 (h3 f (by simp))
  show ∃ l,lkJ (L.foldl addR (addR J f)) (fky x)=some l /\ _
  refine hasK g1 g2 (fun y hy=>h3 y (by simp[hy])) ?_
  rcases h with h|⟨l,e1,e2⟩
  ·rcases List.mem_cons.1 h with rfl|h
   ·refine .inr ⟨_,by rw[g3,if_pos rfl],?_⟩
    rw[z4r,zf5]
   ·exact .inl h
  ·refine .inr ?_
   rw[g3]
   by_cases hk:fky x=fky f
   ·rw[if_pos hk,<- hk,e1]
    refine⟨_,rfl,?_⟩
    show z0o (z0o l f.2.2) x.2.2=z0o l f.2.2
    rw[z4r,zf4 f.2.2,<- z4r,e2]
   ·rw[if_neg hk];exact⟨l,e1,e2⟩
theorem zfp{L:List Fr}(hL:FrOk L){x:Fr}(hx:x ∈ L):∃ y ∈ z20 L,fky y=fky x /\ z0o y.2.2 x.2.2=y.2.2:=by
 obtain⟨l,h1,h2⟩:=hasK (L:=L) (J:=[]) List.Pairwise.nil (fun _ h=>absurd h List.not_mem_nil) hL.k (.inl hx)
 obtain⟨y,h3,h4,h5⟩:=zei h1
 exact⟨y,h3,h4,by rw[h5];exact h2⟩
theorem zr5{l l':List Int}{k:Nat}(hk:k < l.length)(hk':k < l'.length)(h:l[k] ≠ l'[k]):decide (l=l')=false:=by
 rw[decide_eq_false_iff_not]
 rintro rfl
 exact h rfl
set_option maxHeartbeats 2000000 in
theorem zmj{M:Mem}{a b:Option (Nat × Nat)}{l l':List Int}{f f':Bool}{e e':Nat}(ha:SlI M a l)(hb:SlI M b l')(hl:l.length<=1000000000000000)(hl':l'.length<=1000000000000000) :
  za Tryz.prog 16 [.slice a l.length f e,.slice b l'.length f' e'] M (fun w M'=>w=.bool (decide (l=l')) /\ M'=M):=by
 refine zd k16 rfl ?_
 dsimp only[x16,zM,zO,zI,zF,zS,zB,zL,zA,zE,zN,zW,zC,zipE,Nat.reduceAdd]
 by_cases hne:l.length=l'.length
 ·repeat' first|with_reducible intro _|refine sv ?_|refine sc ?_ ?_<;>(intro h;try exact sz h)|refine sg ?_ ?_<;>(intro h;first|exact sz h|refine sy h ?_)|exact sq|fail
  all_goals try(exfalso;omega)
  refine z9 (fun m E ms M'=>∃ k:Nat,m=l.length - k /\ k<=l.length /\ ms=[] /\ Has E [(0,.slice a l.length f e),(1,.slice b l'.length f' e'),(5,I k)] /\ M'=M /\ l.take k=l'.take k)
   ?_ l.length _ _ _ ⟨0,by omega,by omega,rfl,.cons rfl (.cons rfl (.cons rfl .nil)),rfl,rfl⟩
  rintro m E ms M1 ⟨k,rfl,hk,rfl,hE,rfl,hall⟩
  refine z0d hE ?_
  by_cases hlast:k=l.length
  ·subst hlast
   repeat' first|with_reducible intro _|refine sv ?_|refine sc ?_ ?_<;>(intro h;try exact sz h)|refine sg ?_ ?_<;>(intro h;first|exact sz h|refine sy h ?_)|exact sq|fail
   refine kf ?_
   refine⟨?_,rfl⟩
   rw[List.take_of_length_le (Nat.le_refl _),List.take_of_length_le (by omega)] at hall
   rw[decide_eq_true hall];rfl
  ·have hlt:k < l.length:=by omega
   have hlt':k < l'.length:=by omega
   obtain⟨i,o,rfl,hr⟩:=ha.rd hlt
   obtain⟨i2,o2,rfl,hr2⟩:=hb.rd hlt'
   by_cases heq:l[k]=l'[k]
   ·rw[<-heq] at hr2
    have htk:l.take (k+1)=l'.take (k+1):=by
     rw[List.take_succ_eq_append_getElem hlt,List.take_succ_eq_append_getElem hlt',hall,heq]
    generalize l[k]=p at *
    (have hrd0:=hr;have hrd1:=hr2;repeat' (first|(with_reducible intro _)|refine sv ?_|(refine sc ?_ ?_<;>(intro h;try exact sz h))|refine sg ?_ ?_<;>(intro h;first|exact sz h|refine sy h ?_)|exact sq|fail))
    all_goals try(exfalso;omega)
    refine zj (l.length - (k+1)) (by omega) ⟨k+1,rfl,by omega,rfl,.cons rfl (.cons rfl (.cons rfl .nil)),rfl,htk⟩
   ·have hd:=zr5 hlt hlt' heq
    rw[hd]
    generalize l[k]=p at *
    generalize l'[k]=q at *
    (have hrd0:=hr;have hrd1:=hr2;repeat' (first|(with_reducible intro _)|refine sv ?_|(refine sc ?_ ?_<;>(intro h;try exact sz h))|refine sg ?_ ?_<;>(intro h;first|exact sz h|refine sy h ?_)|exact sq|fail))
    all_goals try(exfalso;omega)
    refine kf ?_
    exact⟨rfl,rfl⟩
 ·have hd:decide (l=l')=false:=by
   rw[decide_eq_false_iff_not];rintro rfl;exact hne rfl
  rw[hd]
  repeat' first|with_reducible intro _|refine sv ?_|refine sc ?_ ?_<;>(intro h;try exact sz h)|refine sg ?_ ?_<;>(intro h;first|exact sz h|refine sy h ?_)|exact sq|fail
  all_goals try(exfalso;omega)
  refine kf ?_
  exact⟨rfl,rfl⟩
set_option maxHeartbeats 2000000 in
theorem zd1{M:Mem}{v w:LV}{x y:Fr}(hv:FrV M v x)(hw:FrV M w y)(hl:x.2.2.length<=1000000000000000)(hl':y.2.2.length<=1000000000000000) :
  za Tryz.prog 70 [v,w] M (fun r M'=>r=.bool (decide (x=y)) /\ Grow M M'):=by
 obtain⟨a,f,e,rfl,hs⟩:=hv
 obtain⟨b,f',e',rfl,hs'⟩:=hw
 obtain⟨x1,x2,x3⟩:=x
 obtain⟨y1,y2,y3⟩:=y
 dsimp only at *
 have hd:decide ((x1,x2,x3)=(y1,y2,y3))=(decide (x1=y1) && (decide (x2=y2) && decide (x3=y3))):=by
  rw[Bool.eq_iff_iff];simp
 rw[hd]
 have hc:∀ M',Grow M M'->za Tryz.prog 16 [.slice a x3.length f e,.slice b y3.length f' e'] M' (fun w M''=>w=.bool (decide (x3=y3)) /\ M''=M'):=fun M' hg=>zmj (hs.grow hg) (hs'.grow hg) hl hl'
 refine zd k70 rfl ?_
 dsimp only[x70,zM,zO,zI,zF,zS,zB,zL,zA,zE,zN,zW,zC,zipE,Nat.reduceAdd]
 by_cases h1:x1=y1
 ·by_cases h2:x2=y2
  ·repeat' first|with_reducible intro _|refine sv ?_|refine sc ?_ ?_<;>(intro h;try exact sz h)|((with_reducible first|apply z0r|apply z1b|apply d_same0);exact gd;exact rfl;exact rfl;(first|exact hc _ (xg)))|refine sg ?_ ?_<;>(intro h;first|exact sz h|refine sy h ?_)|exact sq|fail
   refine kf ?_
   refine⟨?_,xg⟩
   rw[decide_eq_true h1,decide_eq_true h2];rfl
  ·repeat' first|with_reducible intro _|refine sv ?_|refine sc ?_ ?_<;>(intro h;try exact sz h)|refine sg ?_ ?_<;>(intro h;first|exact sz h|refine sy h ?_)|exact sq|fail
   refine kf ?_
   refine⟨?_,xg⟩
   rw[decide_eq_true h1,decide_eq_false h2];rfl
 ·repeat' first|with_reducible intro _|refine sv ?_|refine sc ?_ ?_<;>(intro h;try exact sz h)|refine sg ?_ ?_<;>(intro h;first|exact sz h|refine sy h ?_)|exact sq|fail
  refine kf ?_
  refine⟨?_,xg⟩
  rw[decide_eq_false h1];rfl
end Go.Proofs.YtbfnnllgdioccaaGreatDoor.C
end
section
open Go PvL Go.Proofs
set_option linter.unusedSimpArgs false
set_option linter.unusedVariables false
variable {μ:Md}
namespace Go.Proofs.YtbfnnllgdioccaaGreatDoor.C
abbrev prc(p:Int × Int):List LV:=[I p.1,I p.2]
def SlP(M:Mem)(a:Option (Nat × Nat))(L:List (Int × Int)):Prop:=L=[] ∨ ∃ i o,a=some (i,o) /\ ∀ k (hk:k < L.length),Rd M i (o+k*2) 2 (prc L[k])
theorem SlP.rd{M:Mem}{a:Option (Nat × Nat)}{L:List (Int × Int)}(h:SlP M a L){k:Nat}(hk:k < L.length):∃ i o,a=some (i,o) /\ Rd M i (o+k*2) 2 [I L[k].1,I L[k].2]:=by
 rcases h with rfl|⟨i,o,h1,h2⟩
 ·exact absurd hk (Nat.not_lt_zero _)
 ·exact⟨i,o,h1,h2 k hk⟩
def PrV(M:Mem)(v:LV)(L:List (Int × Int)):Prop:=∃ a f e,v=.slice a L.length f e /\ SlP M a L
theorem PrV.vec{M:Mem}{b:Nat}{ty:TypeId}{v:LV}{L:List (Int × Int)}(h:Vec b 2 ty prc M v L):PrV M v L:=by
 obtain⟨a,f,e,h1,h2⟩:=h.rd (fun _ _=>rfl)
 exact⟨a,f,e,h1,h2⟩
set_option maxHeartbeats 2000000 in
theorem zmq{M:Mem}{v w:LV}{L:List (Int × Int)}(hv:PrV M v L)(hw:PrV M w L)(hl:L.length<=1000000) :
  za Tryz.prog 34 [v,w] M (fun r M'=>r=.bool true /\ M'=M):=by
 obtain⟨a,f,e,rfl,ha⟩:=hv
 obtain⟨b,f',e',rfl,hb⟩:=hw
 refine zd k34 rfl ?_
 dsimp only[x34,zM,zO,zI,zF,zS,zB,zL,zA,zE,zN,zW,zC,zipE,Nat.reduceAdd]
 repeat' first|with_reducible intro _|refine sv ?_|refine sc ?_ ?_<;>(intro h;try exact sz h)|refine sg ?_ ?_<;>(intro h;first|exact sz h|refine sy h ?_)|exact sq|fail
 refine z9 (fun m E ms M'=>∃ k:Nat,m=L.length - k /\ k<=L.length /\ ms=[] /\ Has E [(0,.slice a L.length f e),(1,.slice b L.length f' e'),(5,I k)] /\ M'=M)
  ?_ L.length _ _ _ ⟨0,by omega,by omega,rfl,.cons rfl (.cons rfl (.cons rfl .nil)),rfl⟩
 rintro m E ms M1 ⟨k,rfl,hk,rfl,hE,rfl⟩
 refine z0d hE ?_
 by_cases hlast:k=L.length
 ·subst hlast
  repeat' first|with_reducible intro _|refine sv ?_|refine sc ?_ ?_<;>(intro h;try exact sz h)|refine sg ?_ ?_<;>(intro h;first|exact sz h|refine sy h ?_)|exact sq|fail
  refine kf ?_
  exact⟨rfl,rfl⟩
 ·have hlt:k < L.length:=by omega
  obtain⟨i,o,rfl,hr⟩:=ha.rd hlt
  obtain⟨i2,o2,rfl,hr2⟩:=hb.rd hlt
  (have hrd0:=hr;have hrd1:=hr2;repeat' (first|(with_reducible intro _)|refine sv ?_|(refine sc ?_ ?_<;>(intro h;try exact sz h))|refine sg ?_ ?_<;>(intro h;first|exact sz h|refine sy h ?_)|exact sq|fail))
  refine zj (L.length - (k+1)) (by omega) ⟨k+1,rfl,by omega,rfl,.cons rfl (.cons rfl (.cons rfl .nil)),rfl⟩
def SlS(M:Mem)(a:Option (Nat × Nat))(L:List ByteArray):Prop:=L=[] ∨ ∃ i o,a=some (i,o) /\ ∀ k (hk:k < L.length),Rd1 M i (o+k*1) (.str L[k])
theorem SlS.grow{M M':Mem}{a:Option (Nat × Nat)}{L:List ByteArray}(h:SlS M a L)(hg:Grow M M'):SlS M' a L :=
 h.imp id fun⟨i,o,h1,h2⟩=>⟨i,o,h1,fun k hk=>(h2 k hk).grow hg⟩
theorem SlS.rd{M:Mem}{a:Option (Nat × Nat)}{L:List ByteArray}(h:SlS M a L){k:Nat}(hk:k < L.length):∃ i o,a=some (i,o) /\ Rd1 M i (o+k*1) (.str L[k]):=by
 rcases h with rfl|⟨i,o,h1,h2⟩
 ·exact absurd hk (Nat.not_lt_zero _)
 ·exact⟨i,o,h1,h2 k hk⟩
theorem zjq{m:Mem}{b:Nat}{l:List ByteArray}{cs:List LV}(h:Enc m (.sl .str b) l cs):∃ a f,cs=[.slice a l.length f 1] /\ SlS m a l /\ l.length<=reachBytes /\ ∀ x ∈ l,x.size<=reachBytes:=by
 obtain⟨a,f,h1,h2,h3⟩:=h
 by_cases hl:l=[]
 ·subst hl
  exact⟨a,f,h1,.inl rfl,h2.1,fun x hx=>nomatch hx⟩
 ·obtain⟨i,o,g1,g2,_,g3⟩:=h3 hl
  have key:∀ k (hk:k < l.length),Rd1 m i (o+k*1) (.str l[k]) /\ l[k].size<=reachBytes:=fun k hk=>by
   obtain⟨c,g4,g5,g6⟩:=g3 k hk
   rw[g5] at g4
   exact⟨z9s ⟨g4,g2⟩,g6⟩
  refine⟨a,f,h1,.inr ⟨i,o,g1,fun k hk=>(key k hk).1⟩,h2.1,fun x hx=>?_⟩
  obtain⟨k,hk,rfl⟩:=List.getElem_of_mem hx
  exact(key k hk).2
def h5(b:UInt8):UInt8:=if b.toNat=165 then 0 else b
def harmL(s:ByteArray):List UInt8:=s.data.toList.map h5
theorem zn2(s:ByteArray):Hm (harmL s):=fun b hb=>by
 obtain⟨c,_,rfl⟩:=List.mem_map.1 hb
 unfold h5
 split
 ·decide
 ·assumption
theorem zeb(s:ByteArray):(harmL s).length=s.size:=by unfold harmL;rw[List.length_map];rfl
def midL(l:List UInt8)(k:Nat):List UInt8:=(l.take k).map h5 ++ l.drop k
theorem zem(l:List UInt8)(k:Nat):(midL l k).length=l.length:=by
 unfold midL
 rw[List.length_append,List.length_map,List.length_take,List.length_drop];omega
theorem zel{l:List UInt8}{k:Nat}(h:k < l.length):(midL l k)[k]'(by rw[zem];exact h)=l[k]:=by
 unfold midL
 rw[List.getElem_append_right (by simp;omega)]
 simp[List.length_take,Nat.min_eq_left (Nat.le_of_lt h)]
theorem zlv{l:List UInt8}{k:Nat}(h:k < l.length):midL l (k+1)=(midL l k).set k (h5 l[k]):=by
 unfold midL
 have h1:((l.take k).map h5).length=k:=by simp;omega
 rw[List.set_append_right _ _ (by omega),h1,Nat.sub_self,List.take_succ_eq_append_getElem h,List.map_append,List.append_assoc,List.drop_eq_getElem_cons h]
 rfl
theorem zkm:∀ l:List LV,z0c l 0 []=some l
 | []=>rfl
 | _ :: _=>rfl
theorem zco:∀(l:List UInt8) (k:Nat) (b:UInt8),k < l.length->z0c (zp l) k [byteL b]=some (zp (l.set k b))
 | x :: l,0,b,_=>by
  show ob (z0c (zp l) 0 []) _=_
  rw[zkm];rfl
 | x :: l,k+1,b,h=>by
  show ob (z0c (zp l) k [byteL b]) _=_
  rw[zco l k b (by simpa using h)]
  rfl
theorem zo6{E:Env}{M:Mem}{x:XO}{e:TypeId}{s:ByteArray}(hx:xval E x=some (.str s)):ze Tryz.prog (.sbyt e x) E M=some (.val (.slice (some (M.next,0)) s.size false 1) (M.push (.cells true (zp s.data.toList) (apE e)))):=by
 show ob (xval E x) _=_
 rw[hx,z0]
 rfl
set_option maxHeartbeats 4000000 in
theorem zfc{s:ByteArray}{M:Mem}(hs:s.size<=1000000000000000) :
  za Tryz.prog 37 [.str s] M (fun w M'=>w=.str (strL (harmL s)) /\ Grow M M'):=by
 refine zd k37 rfl ?_
 dsimp only[x37,zM,zO,zI,zF,zS,zB,zL,zA,zE,zN,zW,zC,zipE,Nat.reduceAdd]
 repeat' first|with_reducible intro _|refine sv ?_|refine sc ?_ ?_<;>(intro h;try exact sz h)|refine sg ?_ ?_<;>(intro h;first|exact sz h|refine sy h ?_)|exact sq|fail
 refine zl1 (by exact gd) (zo6 rfl) ?_
 have hN:New M M.next (.cells true (zp s.data.toList) (apE 5)) (M.push (.cells true (zp s.data.toList) (apE 5))):=⟨rfl,rfl⟩
 generalize M.push (.cells true (zp s.data.toList) (apE 5))=M1 at *
 have hlen:s.data.toList.length=s.size:=rfl
 have a1:At M1 M.next (.cells true (zp (midL s.data.toList 0)) (apE 5)):=At.new_same hN
 have g1:=hN.grow
 clear hN
 generalize hb:M.next=b at *
 generalize hl:s.data.toList=l at *
 rw[<-hlen]
 repeat' first|with_reducible intro _|refine sv ?_|refine sc ?_ ?_<;>(intro h;try exact sz h)|refine sg ?_ ?_<;>(intro h;first|exact sz h|refine sy h ?_)|exact sq|fail
 refine z9 (fun z E ms M'=>∃(k:Nat),z=l.length - k /\ k<=l.length /\ ms=[] /\ Has E [(3,.slice (some (b,0)) l.length false 1),(4,I k)] /\ At M' b (.cells true (zp (midL l k)) (apE 5)) /\ Grow M M')
  ?_ (l.length - 0) _ _ _ ⟨0,rfl,Nat.zero_le _,rfl,.cons rfl (.cons rfl .nil),a1,g1⟩
 clear a1 g1
 rintro z E ms N ⟨k,rfl,hk,rfl,hE,ha,hg⟩
 refine z0d hE ?_
 clear hE
 by_cases hlast:k=l.length
 ·subst hlast
  have hm:midL l l.length=harmL s:=by unfold midL harmL;rw[List.take_length,List.drop_length,List.append_nil,hl]
  rw[hm] at ha
  have hv:ApB b N (.slice (some (b,0)) l.length false 1) (harmL s):=⟨false,_,by rw[zeb,<- hlen],ha,.inr rfl⟩
  repeat' first|with_reducible intro _|refine sv ?_|refine sc ?_ ?_<;>(intro h;try exact sz h)|refine sg ?_ ?_<;>(intro h;first|exact sz h|refine sy h ?_)|exact sq|fail
  refine z3m (by exact gd) (hv.bstr rfl) ?_
  repeat' first|with_reducible intro _|refine sv ?_|refine sc ?_ ?_<;>(intro h;try exact sz h)|refine sg ?_ ?_<;>(intro h;first|exact sz h|refine sy h ?_)|exact sq|fail
  refine kf ?_
  exact⟨rfl,hg⟩
 have hlt:k < l.length:=by omega
 have hlt':k <(midL l k).length:=by rw[zem];exact hlt
 have hrd:Rd1 N b (0+k*1) (byteL l[k]):=by
  have h1:=z2x (enc:=u8c) (l:=midL l k) (by rw[<-z1h];exact ha) (fun _ _=>rfl) hlt'
  rw[zel hlt] at h1
  exact z9s h1
 have hset:=fun c=>zco (midL l k) k c hlt'
 by_cases hq:l[k].toNat=165
 ·have e1:h5 l[k]=0:=by unfold h5;rw[if_pos hq]
  have h2:=hset (h5 l[k])
  rw[<-zlv hlt,e1] at h2
  unfold byteL at hrd
  (have hrd0:=hrd;repeat' (first|(with_reducible intro _)|refine sv ?_|(refine sc ?_ ?_<;>(intro h;try exact sz h))|refine sg ?_ ?_<;>(intro h;first|exact sz h|refine sy h ?_)|exact sq|fail))
  all_goals first|(exfalso;omega)|skip
  refine x_st (by exact gd) rfl rfl ha rfl rfl (by rw[Nat.zero_add,Nat.mul_one];exact h2) ?_
  intro N7 D1 D2 D3
  have g7:Grow M N7:=hg.upd D1 (by omega)
  repeat' first|with_reducible intro _|refine sv ?_|refine sc ?_ ?_<;>(intro h;try exact sz h)|refine sg ?_ ?_<;>(intro h;first|exact sz h|refine sy h ?_)|exact sq|fail
  exact zj (l.length - (k+1)) (by omega) ⟨k+1,rfl,by omega,rfl,.cons rfl (.cons rfl .nil),D3,g7⟩
 ·have e1:h5 l[k]=l[k]:=by unfold h5;rw[if_neg hq]
  have h2:midL l (k+1)=midL l k:=by
   rw[zlv hlt,e1]
   have:=List.set_getElem_self hlt'
   rw[zel hlt] at this
   exact this
  unfold byteL at hrd
  (have hrd0:=hrd;repeat' (first|(with_reducible intro _)|refine sv ?_|(refine sc ?_ ?_<;>(intro h;try exact sz h))|refine sg ?_ ?_<;>(intro h;first|exact sz h|refine sy h ?_)|exact sq|fail))
  all_goals first|(exfalso;omega)|skip
  exact zj (l.length - (k+1)) (by omega) ⟨k+1,rfl,by omega,rfl,.cons rfl (.cons rfl .nil),by rw[h2];exact ha,hg⟩
theorem zk0{x y:Fr}(hx:frB x=true)(hy:frB y=true)(hk:fky x=fky y)(hb:z0o x.2.2 y.2.2=x.2.2):joinF x y=(x,0):=by
 have e1:errF x=0:=by unfold errF;rw[hx];rfl
 have e2:errF y=0:=by unfold errF;rw[hy];rfl
 have h1:(fky x).1=(fky y).1:=congrArg Prod.fst hk
 have h2:(fky x).2=(fky y).2:=congrArg Prod.snd hk
 unfold joinF
 rw[if_pos e1,if_pos e2,if_pos ⟨h1,h2⟩,hb]
theorem zfv{α:Type}{bs:List α}(hn:bs.Nodup){i j:Nat}(hi:i < bs.length)(hj:j < bs.length)(he:bs[i]=bs[j]):i=j:=by
 unfold List.Nodup at hn
 rw[List.pairwise_iff_getElem] at hn
 rcases Nat.lt_trichotomy i j with h|h|h
 ·exact absurd he (hn i j hi hj h)
 ·exact h
 ·exact absurd he.symm (hn j i hj hi h)
theorem zh8{x:Fr}(h:frB x=true):FrIn x:=zr7 (by unfold errF;rw[h];rfl)
set_option maxHeartbeats 8000000 in
theorem zmp{M:Mem}{a:Option (Nat × Nat)}{L:List Fr}{f:Bool}{e:Nat}{v:LV}{x:Fr}(hs:FsV M a L)(hL:GdL L)(hv:FrV M v x)(hx:frB x=true)(hin:∃ y ∈ L,fky y=fky x /\ z0o y.2.2 x.2.2=y.2.2)(hl:L.length<=1000000) :
  za Tryz.prog 27 [.slice a L.length f e,v] M (fun w M'=>w=.bool true /\ Grow M M'):=by
 obtain⟨y,hy,hky,hby⟩:=hin
 obtain⟨n,hn,rfl⟩:=List.mem_iff_getElem.1 hy
 obtain⟨bx,gq,ux,rfl,hsx⟩:=id hv
 refine zd k27 rfl ?_
 dsimp only[x27,zM,zO,zI,zF,zS,zB,zL,zA,zE,zN,zW,zC,zipE,Nat.reduceAdd]
 repeat' first|with_reducible intro _|refine sv ?_|refine sc ?_ ?_<;>(intro h;try exact sz h)|refine sg ?_ ?_<;>(intro h;first|exact sz h|refine sy h ?_)|exact sq|fail
 rename_i m1 M1 hN1 q1 q1'
 have hA1:At M1 m1 (.cells true [I x.1,I x.2.1,.slice bx x.2.2.length gq ux] 48):=At.new_same hN1
 have hg1:=hN1.grow
 clear hN1
 refine z9 (fun z E ms M'=>∃(k:Nat),z=L.length - k /\ k<=n /\ ms=[] /\ Has E [(0,.slice a L.length f e),(3,.ptr (some (m1,0))),(5,I k)] /\ Grow M1 M')
  ?_ (L.length - 0) _ _ _ ⟨0,rfl,Nat.zero_le _,rfl,.cons rfl (.cons rfl (.cons rfl .nil)),Grow.refl _⟩
 rintro z E ms M2 ⟨k,rfl,hk,rfl,hE,hg2⟩
 refine z0d hE ?_
 have hlt:k < L.length:=by omega
 have hA2:=At.grow hg2 hA1
 have hgM2:=hg1.trans hg2
 have hv2:=hv.grow hgM2
 have hfk:=hL.b (fe L k) (by rw[z4v hlt];exact List.getElem_mem hlt)
 obtain⟨i,o,bk,gk,uk,rfl,hrk,hsk⟩:=FsV.at (hs.grow hgM2) hlt
 have hvk:FrV M2 (.agg [I (fe L k).1,I (fe L k).2.1,.slice bk (fe L k).2.2.length gk uk]) (fe L k):=⟨_,_,_,rfl,hsk⟩
 have hr0:Rd1 M2 i (o+k*3+0) (I (fe L k).1):=Rd.nth (j:=0) hrk rfl
 have hr1:Rd1 M2 i (o+k*3+1) (I (fe L k).2.1):=Rd.nth (j:=1) hrk rfl
 have hx0:Rd1 M2 m1 (0+0) (I x.1):=Rd1.of_at hA2 rfl
 have hx1:Rd1 M2 m1 (0+1) (I x.2.1):=Rd1.of_at hA2 rfl
 by_cases hkn:k=n
 ·subst hkn
  have hkk:fky (fe L k)=fky x:=by rw[z4v hlt];exact hky
  have h1:(fky (fe L k)).1=(fky x).1:=congrArg Prod.fst hkk
  have h2:(fky (fe L k)).2=(fky x).2:=congrArg Prod.snd hkk
  dsimp only at h1 h2
  have hj:=zk0 hfk hx hkk (by rw[z4v hlt];exact hby)
  have cj:=zok hvk hv2 (zh8 hfk) (zh8 hx)
  rw[hj] at cj
  dsimp only at cj
  (have hrd0:=hr0;have hrd1:=hr1;have hrd2:=hx0;have hrd3:=hx1;have hrd4:=hrk;repeat' (first|(with_reducible intro _)|refine sv ?_|(refine sc ?_ ?_<;>(intro h;try exact sz h))|((with_reducible first|apply zq|apply z0b|apply x_call0);exact gd;exact rfl;exact rfl;(first|exact cj))|refine sg ?_ ?_<;>(intro h;first|exact sz h|refine sy h ?_)|exact sq|fail))
  all_goals try(exfalso;omega)
  rename_i w3 M3 hq
  obtain⟨q3,rfl,hq3,hg3⟩:=hq
  obtain⟨a3,f3,e3,rfl,hs3⟩:=id hq3
  have hvk3:=hvk.grow hg3
  have hrk3:=hrk.grow hg3
  have hl3:=hg3.le
  have hil:i < M2.next:=hrk.2
  have hln:=(z68 hfk).2
  have cs:=fun M' (hg:Grow M3 M')=>zd1 (M:=M') (hq3.grow hg) (hvk3.grow hg) (by omega) (by omega)
  rw[decide_eq_true rfl] at cs
  have hg9:=hg3
  have hgM3:=hgM2.trans hg9
  clear hg3 hg9
  (have hrd0:=hrk3;repeat' (first|(with_reducible intro _)|refine sv ?_|(refine sc ?_ ?_<;>(intro h;try exact sz h))|((with_reducible first|apply z1m|apply z1p|apply d_pure0);exact gd;exact rfl;exact rfl;(first|exact cs _ (xg)))|refine sg ?_ ?_<;>(intro h;first|exact sz h|refine sy h ?_)|exact sq|fail))
  refine kf ?_
  exact⟨rfl,hgM3.trans (xg)⟩
 ·have hne:¬((fe L k).1=x.1 /\ (fe L k).2.1=x.2.1):=fun⟨h1,h2⟩=>by
   have h3:fky (fe L k)=fky L[n]:=by rw[hky];exact Prod.ext h1 h2
   rw[z4v hlt] at h3
   exact hkn (zfv hL.nd (by rw[List.length_map];exact hlt) (by rw[List.length_map];exact hn) (by rw[List.getElem_map,List.getElem_map];exact h3))
  (have hrd0:=hr0;have hrd1:=hr1;have hrd2:=hx0;have hrd3:=hx1;repeat' (first|(with_reducible intro _)|refine sv ?_|(refine sc ?_ ?_<;>(intro h;try exact sz h))|refine sg ?_ ?_<;>(intro h;first|exact sz h|refine sy h ?_)|exact sq|fail))
  all_goals try(exfalso;omega)
  all_goals exact zj (L.length - (k+1)) (by omega) ⟨k+1,rfl,by omega,rfl,.cons rfl (.cons rfl (.cons rfl .nil)),hg2⟩
theorem zmw{m:Mem}{L:List Fr}{cs:List LV}(h:Enc m (.sl frSh 40) L cs):∃ a f,cs=[.slice a L.length f 3] /\ FsV m a L /\ L.length<=reachBytes /\ ∀ x ∈ L,FrIn x:=by
 obtain⟨a,f,rfl,h2,h3⟩:=h
 by_cases hl:L=[]
 ·exact⟨a,f,rfl,.inl hl,h2.1,fun x hx=>by rw[hl] at hx;cases hx⟩
 ·obtain⟨i,o,g1,g2,_,g3⟩:=h3 hl
  have key:∀ k (hk:k < L.length),(∃ b g u,Rd m i (o+k*3) 3 [I L[k].1,I L[k].2.1,.slice b L[k].2.2.length g u] /\ SlI m b L[k].2.2) /\ FrIn L[k]:=fun k hk=>by
   obtain⟨c,g4,g5⟩:=g3 k hk
   obtain⟨⟨b,g,u,g6,g7⟩,g8⟩:=zp4 g5
   injection g6 with g6
   subst g6
   exact⟨⟨b,g,u,⟨g4,g2⟩,g7⟩,g8⟩
  refine⟨a,f,rfl,.inr ⟨i,o,g1,fun k hk=>(key k hk).1⟩,h2.1,fun x hx=>?_⟩
  obtain⟨k,hk,rfl⟩:=List.getElem_of_mem hx
  exact(key k hk).2
theorem zoa{E:Env}{M:Mem}{x hi:XO}{a:Option (Nat × Nat)}{L:List Fr}{f:Bool}{k:Nat}(hs:FsV M a L)(hx:xval E x=some (.slice a L.length f 3))(hh:xval E hi=some (I (k:Int)))(hk:k<=L.length) :
  ∃ a' f' e',ze Tryz.prog (.slc 3 x none (some hi) none) E M=some (.val (.slice a' k f' e') M) /\ FsV M a' (L.take k):=by
 have h1:∀ v,sliceSl 3 a L.length f 3 none (some (I (k:Int))) none=some v->ze Tryz.prog (.slc 3 x none (some hi) none) E M=some (.val v M):=fun v hv=>by
  show ob (xval E x) _=_
  rw[hx,z0]
  show ob (ob (xval E hi) _) _=_
  rw[hh,z0,z0]
  show ob (sliceSl 3 a L.length f 3 none (some (I (k:Int))) none) _=_
  rw[hv,z0];rfl
 have hb:Nat.ble k L.length=true:=by rw[Nat.ble_eq];exact hk
 rcases a with _|⟨i,o⟩
 ·have h0:L=[]:=by
   rcases hs with h|⟨_,_,h,_⟩
   ·exact h
   ·cases h
  subst h0
  obtain rfl:k=0:=by simpa using hk
  exact⟨none,true,0,h1 _ rfl,.inl rfl⟩
 ·have h2:∃ f',sliceSl 3 (some (i,o)) L.length f 3 none (some (I (k:Int))) none=some (.slice (some (i,o)) k f' 3):=by
   unfold sliceSl
   show ∃ f',guard' (Nat.ble k L.length) _=_
   rw[hb,z6]
   show ∃ f',guard' true (ifb (false ||(f ||(Nat.ble (0+1) L.length || true))) (fN (ifb (Nat.beq L.length 0 && (f || false)) o (o+0*3)) fun off'=>fN (k - 0) fun len'=>some (LV.slice (some (i,off')) len' (ifb false (Nat.beq k L.length) (f && Nat.beq k L.length)) 3)) (some (LV.slice (some (i,o)) 0 false 0)))=_
   have h0:∀ c:Bool,ifb c o (o+0*3)=o:=fun c=>by cases c<;>simp[zf,z8]
   rw[z6,Bool.or_true,Bool.or_true,Bool.or_true,zf,h0,z13,z13,Nat.sub_zero]
   exact⟨_,rfl⟩
  obtain⟨f',h2⟩:=h2
  refine⟨some (i,o),f',3,h1 _ h2,?_⟩
  rcases hs with h|⟨i',o',h3,h4⟩
  ·left;rw[h];exact List.take_nil
  ·right
   refine⟨i',o',h3,fun j hj=>?_⟩
   have hj':j < L.length:=by rw[List.length_take] at hj;omega
   rw[List.getElem_take]
   exact h4 j hj'
