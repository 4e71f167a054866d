/-
 Part of the proof of TapeBack. No condition beyond those in each theorem.
-/
import Derived.Test.YtbfnnllgdioccaaGreatDoorVG
import Derived.Test.YtbfnnllgdioccaaGreatDoorVB
import Derived.Test.YtbfnnllgdioccaaGreatDoorXW
section
open Go PvL Go.Proofs
set_option linter.unusedSimpArgs false
set_option linter.unusedVariables false
namespace Go.Proofs.YtbfnnllgdioccaaGreatDoor.C
theorem zcz (x:UInt8):u8 x.toNat=x:=by unfold u8;simp
theorem zgm {i:Nat} (h:i < wordL.length):byteAt (strL wordL) i=(wordL[i]'h).toNat:=by
 show (wordL.getD i 0).toNat=_
 rw [List.getD_eq_getElem?_getD,List.getElem?_eq_getElem h];rfl
theorem zms {s:ByteArray}:∀ (k i p:Nat) {u:Unit} {q:Nat},i+k=8->wdB s k i p=some (u,q)->q=p+k /\ Mt s p (wordL.drop i)
 | 0,i,p,u,q,hi,h=>by
  cases h
  obtain rfl:i=8:=by omega
  exact ⟨rfl,trivial⟩
 | k+1,i,p,u,q,hi,h=>by
  unfold wdB at h
  split at h
  ·cases h
  ·rename_i b p' hb
   obtain ⟨g1,rfl⟩:=z48 hb
   split at h
   ·rename_i he
    obtain ⟨h1,h2⟩:=zms k (i+1) (p+1) (by omega) h
    refine ⟨by omega,?_⟩
    have hi8:i < wordL.length:=by show i < 8;omega
    rw [List.drop_eq_getElem_cons hi8]
    have hw:=zgm hi8
    rw [he,hw,zcz] at g1
    exact ⟨g1.1,g1.2.1,h2⟩
   ·cases h
theorem zm0 {s:ByteArray}:∀ (k i p:Nat),i+k=8->Mt s p (wordL.drop i)->wdB s k i p=some ((),p+k)
 | 0,i,p,hi,h=>rfl
 | k+1,i,p,hi,h=>by
  have hi8:i < wordL.length:=by show i < 8;omega
  rw [List.drop_eq_getElem_cons hi8] at h
  unfold wdB
  rw [z33 h]
  simp only
  rw [if_pos (zgm hi8).symm,zm0 k (i+1) (p+1) (by omega) h.2.2]
  congr 2;omega
theorem zm4 {s:ByteArray}:∀ (n p:Nat) (acc:List UInt8) {l:List UInt8} {q:Nat},nmR s n p acc=some (l,q)->∃ r,l=acc ++ r /\ r.length=n /\ q=p+n /\ Mt s p r
 | 0,p,acc,l,q,h=>by cases h;exact ⟨[],by simp,rfl,rfl,trivial⟩
 | n+1,p,acc,l,q,h=>by
  unfold nmR at h
  split at h
  ·cases h
  ·rename_i b p' hb
   obtain ⟨g1,rfl⟩:=z48 hb
   obtain ⟨r,e1,e2,e3,e4⟩:=zm4 n (p+1) _ h
   exact ⟨u8 b :: r,by rw [e1];simp,by rw [List.length_cons,e2],by omega,g1.1,g1.2.1,e4⟩
theorem zlz {s:ByteArray}:∀ (r:List UInt8) (p:Nat) (acc:List UInt8),Mt s p r->nmR s r.length p acc=some (acc ++ r,p+r.length)
 | [],p,acc,h=>by simp [nmR]
 | x :: r,p,acc,h=>by
  rw [List.length_cons]
  unfold nmR
  rw [z33 h]
  simp only
  rw [zcz,zlz r (p+1) _ h.2.2,List.append_assoc]
  congr 2;omega
theorem zis {s:ByteArray}:∀ (m p:Nat) (acc:List Fr) {L:List Fr} {q:Nat},p<=s.size->frsB s m p acc=some (L,q)->∃ r,L=acc ++ r /\ r.length=m /\ q=p+(r.flatMap pkL).length /\ Mt s p (r.flatMap pkL) /\ FrOk r
 | 0,p,acc,L,q,hp,h=>by cases h;exact ⟨[],by simp,rfl,rfl,trivial,fun _ h=>nomatch h⟩
 | m+1,p,acc,L,q,hp,h=>by
  unfold frsB at h
  split at h
  ·cases h
  ·rename_i x p' hx
   have hok:=zec hp hx
   obtain ⟨g1,rfl,g3⟩:=zl5 hp hx
   obtain ⟨r,e1,e2,e3,e4,e5⟩:=zis m _ _ hok.2.2 h
   refine ⟨x :: r,by rw [e1];simp,by rw [List.length_cons,e2],by rw [List.flatMap_cons,List.length_append,e3];omega,by rw [List.flatMap_cons];exact Mt.app.2 ⟨g3,e4⟩,fun y hy=>?_⟩
   rcases List.mem_cons.1 hy with rfl|hy
   ·exact g1
   ·exact e5 y hy
theorem zix {s:ByteArray}:∀ (r:List Fr) (p:Nat) (acc:List Fr),p<=s.size->FrOk r->Mt s p (r.flatMap pkL)->frsB s r.length p acc=some (acc ++ r,p+(r.flatMap pkL).length)
 | [],p,acc,hp,ho,h=>by simp [frsB]
 | x :: r,p,acc,hp,ho,h=>by
  rw [List.flatMap_cons] at h ⊢
  obtain ⟨h1,h2⟩:=Mt.app.1 h
  rw [List.length_cons]
  unfold frsB
  rw [zlw hp (ho x (by simp)) h1]
  simp only
  rw [zix r _ _ (h1.le hp) (fun y hy=>ho y (by simp [hy])) h2,List.append_assoc,List.length_append]
  congr 2;omega
theorem zme (r:Rl):rhL r=wordL ++ ([u8 r.1.size] ++ (r.1.data.toList ++ [u8 r.2.length])):=by unfold rhL wordL;simp
theorem zl6 {s:ByteArray} {r:Rl} {q:Nat} (h:RlD s=some (r,q)):errRl r=0 /\ (rpL r).length=s.size /\ Mt s 0 (rpL r):=by
 unfold RlD at h
 split at h
 ·cases h
 ·rename_i u1 p1 h1
  split at h
  ·cases h
  ·rename_i n p2 h2
   split at h
   ·cases h
   ·rename_i nm p3 h3
    split at h
    ·cases h
    ·rename_i m p4 h4
     split at h
     ·cases h
     ·rename_i u5 p5 h5
      split at h
      ·cases h
      ·rename_i L p6 h6
       split at h
       ·rename_i hc
        cases h
        obtain ⟨rfl,g1⟩:=zms 8 0 0 rfl h1
        obtain ⟨g2,rfl⟩:=z48 h2
        obtain ⟨r3,e3,e3',rfl,g3⟩:=zm4 n _ [] h3
        rw [List.nil_append] at e3
        subst e3
        have hp4:=z1w h4
        obtain ⟨g4,rfl⟩:=z48 h4
        unfold chkB at h5
        split at h5
        ·cases h5
        ·rename_i c p7 h7
         have hp7:=z2i h7
         obtain ⟨g7,rfl,hc7⟩:=zcy h7
         split at h5
         ·rename_i hcrc
          cases h5
          obtain ⟨r6,e6,e6',hp6,g6,ho⟩:=zis m _ [] hp7.2.1 h6
          rw [List.nil_append] at e6
          subst e6
          have hr:rhL (strL nm,L)=wordL ++ ([u8 n] ++ (nm ++ [u8 m])):=by
           rw [zme]
           show wordL ++ ([u8 nm.length] ++ (nm ++ [u8 L.length]))=_
           rw [e3',e6']
          have hM:Mt s 0 (rhL (strL nm,L)):=by
           rw [hr]
           refine Mt.app.2 ⟨g1,Mt.app.2 ⟨g2,Mt.app.2 ⟨g3,?_⟩⟩⟩
           rw [e3'];exact g4
          have hl:(rhL (strL nm,L)).length=0+8+1+n+1:=by rw [hr];simp [wordL,e3'];omega
          have hx:=z8m (p:=0) (Nat.zero_le _) hM
          rw [Nat.zero_add,hl] at hx
          have hrp:rpL (strL nm,L)=rhL (strL nm,L) ++ (twoL c ++ L.flatMap pkL):=by
           unfold rpL chkL
           rw [hl,<- hx,<- hcrc,Int.toNat_natCast,List.append_assoc]
          refine ⟨hc.2,?_,?_⟩
          ·rw [hrp,List.length_append,List.length_append,hl,<- hc.1,hp6]
           simp [twoL];omega
          ·rw [hrp]
           refine Mt.app.2 ⟨hM,Mt.app.2 ⟨?_,?_⟩⟩
           ·rw [Nat.zero_add,hl];exact g7
           ·rw [Nat.zero_add,hl];exact g6
         ·cases h5
       ·cases h
theorem zk7 {s:ByteArray} (h:nmB s=true):1<=s.size /\ s.size<=16:=by
 unfold nmB btB at h
 simp only [Bool.and_eq_true,decide_eq_true_eq] at h
 omega
theorem zct {r:Rl} (h:errRl r=0):FrOk r.2 /\ r.2.length<=128 /\ 1<=r.1.size /\ r.1.size<=16:=by
 obtain ⟨h1,h2,h3,_⟩:=zo6 h
 have:=zk7 h3
 exact ⟨h1,h2,this.1,this.2⟩
theorem zlx {s:ByteArray} {r:Rl} (he:errRl r=0) (hl:(rpL r).length=s.size) (h:Mt s 0 (rpL r)):RlD s=some (r,s.size):=by
 obtain ⟨ho,hm,hn1,hn16⟩:=zct he
 obtain ⟨nm,L⟩:=r
 simp only at ho hm hn1 hn16
 have hr:=zme (nm,L)
 simp only at hr
 have hsz:nm.data.toList.length=nm.size:=rfl
 have hlen:(rhL (nm,L)).length=0+8+1+nm.size+1:=by rw [hr];simp [wordL,hsz];omega
 have hbd:=z37 (strL (rhL (nm,L))) (rhL (nm,L)).length
 unfold rpL chkL at h hl
 rw [List.append_assoc] at h hl
 obtain ⟨hM,h⟩:=Mt.app.1 h
 obtain ⟨hC,hF⟩:=Mt.app.1 h
 have hx:=z8m (p:=0) (Nat.zero_le _) hM
 rw [List.length_append,List.length_append] at hl
 rw [Nat.zero_add,hlen] at hC hF hx
 rw [hlen] at hl
 have hM2:=hM
 rw [hr] at hM2
 obtain ⟨m1,hM2⟩:=Mt.app.1 hM2
 obtain ⟨m2,hM2⟩:=Mt.app.1 hM2
 obtain ⟨m3,m4⟩:=Mt.app.1 hM2
 have r1:=zm0 8 0 0 rfl m1
 have r2:=z33 (l:=[]) m2
 rw [u8_n (by omega)] at r2
 have r3:=zlz _ _ [] m3
 rw [hsz,List.nil_append] at r3
 have r4:=z33 (l:=[]) m4
 rw [u8_n (by omega),hsz] at r4
 rw [hlen] at hbd
 generalize hcv:crcK (strL (rhL (nm,L))) (0+8+1+nm.size+1)=cv at *
 have r1':wdB s 8 0 0=some ((),8):=r1
 have r2':oneB s 8=some (nm.size,9):=r2
 have r3':nmR s nm.size 9 []=some (nm.data.toList,9+nm.size):=r3
 have r4':oneB s (9+nm.size)=some (L.length,9+nm.size+1):=r4
 have hC':Mt s (9+nm.size+1) (twoL cv.toNat):=hC
 have r5:=zcl (by omega) hC'
 have hx':crcX s 0 (9+nm.size+1)=cv:=hx
 have hF':Mt s (9+nm.size+1+2) (L.flatMap pkL):=hF
 have hl':9+nm.size+1+(2+(L.flatMap pkL).length)=s.size:=hl
 have r6:=zix L _ [] (by omega) ho hF'
 rw [List.nil_append] at r6
 have hck:chkB s 0 (9+nm.size+1)=some ((),9+nm.size+1+2):=by
  unfold chkB
  rw [r5]
  simp only
  rw [if_pos (by rw [hx'];omega)]
 unfold RlD
 rw [r1'];simp only;rw [r2'];simp only;rw [r3'];simp only;rw [r4'];simp only;rw [hck];simp only;rw [r6];simp only
 rw [z71,if_pos ⟨by omega,he⟩]
 congr 2;omega
theorem zje {s:ByteArray} {r:Rl} {q:Nat} (h:RlD s=some (r,q)):errRl r=0 /\ strL (rpL r)=s:=by
 obtain ⟨h1,h2,h3⟩:=zl6 h
 refine ⟨h1,?_⟩
 have h4:=(Mt.drop (Nat.zero_le _)).1 h3
 rw [List.drop_zero,h2,List.take_of_length_le (by show s.size<=s.size;omega)] at h4
 rw [<-h4,z71]
theorem zk0 {s:ByteArray} {r:Rl} (he:errRl r=0) (h:strL (rpL r)=s):RlD s=some (r,s.size):=by
 have hl:(rpL r).length=s.size:=by rw [<-h];rfl
 refine zlx he hl ((Mt.drop (Nat.zero_le _)).2 ?_)
 rw [List.drop_zero,<- h]
 show (rpL r).take (rpL r).length=rpL r
 rw [List.take_length]
theorem zcu {r:Rl} (h:errRl r=0):rpF r=(rpL r,0):=by
 have:rlB r=true:=by
  unfold errRl at h
  by_cases hb:rlB r=true
  ·exact hb
  ·rw [if_neg hb] at h;cases h
 unfold rpF;rw [if_pos this]
theorem zo0 {l l':List Int} {k:Nat} (hk:k < l.length) (hk':k < l'.length) (h:l[k] ≠ l'[k]):decide (l=l')=false:=by
 rw [decide_eq_false_iff_not]
 rintro rfl
 exact h rfl
set_option maxHeartbeats 2000000 in
theorem zjm {M:Mem} {a b:Option (Nat × Nat)} {l l':List Int} {f f':Bool} {e e':Nat} (ha:SlI M a l) (hb:SlI M b l') (hl:l.length<=1000000000000000) (hl':l'.length<=1000000000000000) :
  CallOk Tryz.prog 16 [.slice a l.length f e,.slice b l'.length f' e'] M (fun w M'=>w=.bool (decide (l=l')) /\ M'=M):=by
 refine zh k16 rfl ?_
 dsimp only [x16,zipE,Nat.reduceAdd]
 by_cases hne:l.length=l'.length
 ·(repeat' (first|(with_reducible intro _)|refine sv ?_|(refine sc ?_ ?_<;>(intro h;try first|exact h.elim|exact absurd rfl h|(exfalso;omega)))|(refine sg ?_ ?_<;>(intro h;(fail_if_success (have:True:=h));try first|exact h.elim|exact absurd rfl h|(exfalso;omega)))|assumption|exact xm|exact rfl))
  all_goals try (exfalso;omega)
  refine zg (fun m E ms M'=>∃ k:Nat,m=l.length - k /\ k<=l.length /\ ms=[] /\ Has E [(0,.slice a l.length f e),(1,.slice b l'.length f' e'),(5,I k)] /\ M'=M /\ l.take k=l'.take k)
   ?_ l.length _ _ _ ⟨0,by omega,by omega,rfl,.cons rfl (.cons rfl (.cons rfl .nil)),rfl,rfl⟩
  rintro m E ms M1 ⟨k,rfl,hk,rfl,hE,rfl,hall⟩
  refine z2v hE ?_
  by_cases hlast:k=l.length
  ·subst hlast
   (repeat' (first|(with_reducible intro _)|refine sv ?_|(refine sc ?_ ?_<;>(intro h;try first|exact h.elim|exact absurd rfl h|(exfalso;omega)))|(refine sg ?_ ?_<;>(intro h;(fail_if_success (have:True:=h));try first|exact h.elim|exact absurd rfl h|(exfalso;omega)))|assumption|exact xm|exact rfl))
   ((with_reducible first|apply zc|apply z6);exact rx)
   refine ⟨?_,rfl⟩
   rw [List.take_of_length_le (Nat.le_refl _),List.take_of_length_le (by omega)] at hall
   rw [decide_eq_true hall];rfl
  ·have hlt:k < l.length:=by omega
   have hlt':k < l'.length:=by omega
   obtain ⟨i,o,rfl,hr⟩:=ha.rd hlt
   obtain ⟨i2,o2,rfl,hr2⟩:=hb.rd hlt'
   by_cases heq:l[k]=l'[k]
   ·rw [<-heq] at hr2
    have htk:l.take (k+1)=l'.take (k+1):=by
     rw [List.take_succ_eq_append_getElem hlt,List.take_succ_eq_append_getElem hlt',hall,heq]
    generalize l[k]=p at *
    (have hrd0:=hr;have hrd1:=hr2;repeat' (first|(with_reducible intro _)|refine sv ?_|(refine sc ?_ ?_<;>(intro h;try first|exact h.elim|exact absurd rfl h|(exfalso;omega)))|(refine sg ?_ ?_<;>(intro h;(fail_if_success (have:True:=h));try first|exact h.elim|exact absurd rfl h|(exfalso;omega)))|assumption|exact xm|exact rfl))
    all_goals try (exfalso;omega)
    refine zw (l.length - (k+1)) (by omega) ⟨k+1,rfl,by omega,rfl,.cons rfl (.cons rfl (.cons rfl .nil)),rfl,htk⟩
   ·have hd:=zo0 hlt hlt' heq
    rw [hd]
    generalize l[k]=p at *
    generalize l'[k]=q at *
    (have hrd0:=hr;have hrd1:=hr2;repeat' (first|(with_reducible intro _)|refine sv ?_|(refine sc ?_ ?_<;>(intro h;try first|exact h.elim|exact absurd rfl h|(exfalso;omega)))|(refine sg ?_ ?_<;>(intro h;(fail_if_success (have:True:=h));try first|exact h.elim|exact absurd rfl h|(exfalso;omega)))|assumption|exact xm|exact rfl))
    all_goals try (exfalso;omega)
    ((with_reducible first|apply zc|apply z6);exact rx)
    exact ⟨rfl,rfl⟩
 ·have hd:decide (l=l')=false:=by
   rw [decide_eq_false_iff_not];rintro rfl;exact hne rfl
  rw [hd]
  (repeat' (first|(with_reducible intro _)|refine sv ?_|(refine sc ?_ ?_<;>(intro h;try first|exact h.elim|exact absurd rfl h|(exfalso;omega)))|(refine sg ?_ ?_<;>(intro h;(fail_if_success (have:True:=h));try first|exact h.elim|exact absurd rfl h|(exfalso;omega)))|assumption|exact xm|exact rfl))
  all_goals try (exfalso;omega)
  ((with_reducible first|apply zc|apply z6);exact rx)
  exact ⟨rfl,rfl⟩
set_option maxHeartbeats 2000000 in
theorem zb1 {M:Mem} {v w:LV} {x y:Fr} (hv:FrV M v x) (hw:FrV M w y) (hl:x.2.2.length<=1000000000000000) (hl':y.2.2.length<=1000000000000000) :
  CallOk Tryz.prog 70 [v,w] M (fun r M'=>r=.bool (decide (x=y)) /\ Grow M M'):=by
 obtain ⟨a,f,e,rfl,hs⟩:=hv
 obtain ⟨b,f',e',rfl,hs'⟩:=hw
 obtain ⟨x1,x2,x3⟩:=x
 obtain ⟨y1,y2,y3⟩:=y
 dsimp only at *
 have hd:decide ((x1,x2,x3)=(y1,y2,y3))=(decide (x1=y1) && (decide (x2=y2) && decide (x3=y3))):=by
  rw [Bool.eq_iff_iff];simp
 rw [hd]
 have hc:∀ M',Grow M M'->CallOk Tryz.prog 16 [.slice a x3.length f e,.slice b y3.length f' e'] M' (fun w M''=>w=.bool (decide (x3=y3)) /\ M''=M'):=fun M' hg=>zjm (hs.grow hg) (hs'.grow hg) hl hl'
 refine zh k70 rfl ?_
 dsimp only [x70,zipE,Nat.reduceAdd]
 by_cases h1:x1=y1
 ·by_cases h2:x2=y2
  ·(repeat' (first|(with_reducible intro _)|refine sv ?_|(refine sc ?_ ?_<;>(intro h;try first|exact h.elim|exact absurd rfl h|(exfalso;omega)))|((with_reducible first|apply zn|apply zt|apply zk);exact gd;exact rfl;exact rfl;(first|exact hc _ (xg)))|(refine sg ?_ ?_<;>(intro h;(fail_if_success (have:True:=h));try first|exact h.elim|exact absurd rfl h|(exfalso;omega)))|assumption|exact xm|exact rfl))
   ((with_reducible first|apply zc|apply z6);exact rx)
   refine ⟨?_,xg⟩
   rw [decide_eq_true h1,decide_eq_true h2];rfl
  ·(repeat' (first|(with_reducible intro _)|refine sv ?_|(refine sc ?_ ?_<;>(intro h;try first|exact h.elim|exact absurd rfl h|(exfalso;omega)))|(refine sg ?_ ?_<;>(intro h;(fail_if_success (have:True:=h));try first|exact h.elim|exact absurd rfl h|(exfalso;omega)))|assumption|exact xm|exact rfl))
   ((with_reducible first|apply zc|apply z6);exact rx)
   refine ⟨?_,xg⟩
   rw [decide_eq_true h1,decide_eq_false h2];rfl
 ·(repeat' (first|(with_reducible intro _)|refine sv ?_|(refine sc ?_ ?_<;>(intro h;try first|exact h.elim|exact absurd rfl h|(exfalso;omega)))|(refine sg ?_ ?_<;>(intro h;(fail_if_success (have:True:=h));try first|exact h.elim|exact absurd rfl h|(exfalso;omega)))|assumption|exact xm|exact rfl))
  ((with_reducible first|apply zc|apply z6);exact rx)
  refine ⟨?_,xg⟩
  rw [decide_eq_false h1];rfl
end Go.Proofs.YtbfnnllgdioccaaGreatDoor.C
end
section
open Go PvL Go.Proofs
set_option linter.unusedSectionVars false
set_option linter.unusedSimpArgs false
set_option linter.unusedVariables false
variable {μ:Md}
namespace Go.Proofs.YtbfnnllgdioccaaGreatDoor.C
theorem FwL.app {M:Mem} {xs xs':List FW} {fs fs':List Fr} (h:FwL M xs fs) (h':FwL M xs' fs'):FwL M (xs ++ xs') (fs ++ fs'):=by
 induction h with
 | nil=>exact h'
 | cons h _ ih=>exact .cons h ih
section
variable {α:Type} {b q:Nat} {ty:TypeId} {enc:α->List LV} {M:Mem} {v:LV} {l l':List α} {P:Program} [Orc P] {sz:Nat} {E:Env} {K:Env->Mem->Prop} {ll:List XG} {d:Nat} {g:Option (Nat × Bool)} {s x:XO} {st:List Mem} {k:Nat} {xs:List (Nat × Nat × (Mem->Prop))} {ld:List (XG × XK)} {by':Nat} {z:List LV} {xv:LV}
end
theorem FrOk.all {L:List Fr} (h:FrOk L):∀ z ∈ L,FrK z /\ z.2.2.length<=64:=fun z hz=>⟨h.k z hz,(z8q (h z hz)).2⟩
end Go.Proofs.YtbfnnllgdioccaaGreatDoor.C
end
section
open Go PvL Go.Proofs
set_option linter.unusedSimpArgs false
set_option linter.unusedVariables false
variable {μ:Md}
namespace Go.Proofs.YtbfnnllgdioccaaGreatDoor.C
set_option maxHeartbeats 4000000 in
theorem z9l {M:Mem} {a b:Option (Nat × Nat)} {L:List Fr} {f f':Bool} {e e':Nat} (hs:FsV M a L) (hs':FsV M b L) (hl:L.length<=1000000) (hL:∀ z ∈ L,z.2.2.length<=1000000) :
  CallOk Tryz.prog 33 [.slice a L.length f e,.slice b L.length f' e'] M (fun w M'=>w=.bool true /\ Grow M M'):=by
 refine zh k33 rfl ?_
 dsimp only [x33,zipE,Nat.reduceAdd]
 (repeat' (first|(with_reducible intro _)|refine sv ?_|(refine sc ?_ ?_<;>(intro h;try first|exact h.elim|exact absurd rfl h|(exfalso;omega)))|(refine sg ?_ ?_<;>(intro h;(fail_if_success (have:True:=h));try first|exact h.elim|exact absurd rfl h|(exfalso;omega)))|assumption|exact xm|exact rfl))
 all_goals try (exfalso;omega)
 refine zg (fun z E ms M'=>∃ (k:Nat),z=L.length - k /\ k<=L.length /\ ms=[] /\ Has E [(0,.slice a L.length f e),(1,.slice b L.length f' e'),(5,I k)] /\ Grow M M')
  ?_ (L.length - 0) _ _ _ ⟨0,rfl,Nat.zero_le _,rfl,.cons rfl (.cons rfl (.cons rfl .nil)),Grow.refl _⟩
 rintro z E ms M2 ⟨k,rfl,hk,rfl,hE,hg2⟩
 refine z2v hE ?_
 by_cases hlast:k=L.length
 ·subst hlast
  (repeat' (first|(with_reducible intro _)|refine sv ?_|(refine sc ?_ ?_<;>(intro h;try first|exact h.elim|exact absurd rfl h|(exfalso;omega)))|(refine sg ?_ ?_<;>(intro h;(fail_if_success (have:True:=h));try first|exact h.elim|exact absurd rfl h|(exfalso;omega)))|assumption|exact xm|exact rfl))
  ((with_reducible first|apply zc|apply z6);exact rx)
  exact ⟨rfl,hg2⟩
 have hlt:k < L.length:=by omega
 obtain ⟨i,o,bk,gk,uk,rfl,hrk,hsk⟩:=(hs.grow hg2).rd hlt
 obtain ⟨i',o',bk',gk',uk',rfl,hrk',hsk'⟩:=(hs'.grow hg2).rd hlt
 have hln:=hL (fe L k) (by rw [z67 hlt];exact List.getElem_mem hlt)
 have cs:=zb1 hsk hsk' (by omega) (by omega)
 rw [decide_eq_true rfl] at cs
 (have hrd0:=hrk;have hrd1:=hrk';repeat' (first|(with_reducible intro _)|refine sv ?_|(refine sc ?_ ?_<;>(intro h;try first|exact h.elim|exact absurd rfl h|(exfalso;omega)))|((with_reducible first|apply z36|apply z53|apply z24);exact gd;exact rfl;exact rfl;(first|exact cs))|(refine sg ?_ ?_<;>(intro h;(fail_if_success (have:True:=h));try first|exact h.elim|exact absurd rfl h|(exfalso;omega)))|assumption|exact xm|exact rfl))
 rename_i M3 hg3 q3
 exact zw (L.length - (k+1)) (by omega) ⟨k+1,rfl,by omega,rfl,.cons rfl (.cons rfl (.cons rfl .nil)),hg2.trans hg3⟩
set_option maxHeartbeats 4000000 in
theorem zdj {M:Mem} {v w:LV} {r:Rl} (hv:RlV M v r) (hw:RlV M w r) (hl:r.2.length<=1000000) (hL:∀ z ∈ r.2,z.2.2.length<=1000000) :
  CallOk Tryz.prog 25 [v,w] M (fun u M'=>u=.bool true /\ Grow M M'):=by
 obtain ⟨a,f,e,rfl,hs⟩:=hv
 obtain ⟨b,f',e',rfl,hs'⟩:=hw
 refine zh k25 rfl ?_
 dsimp only [x25,zipE,Nat.reduceAdd]
 have hb:(r.1 == r.1)=true:=z7e _
 have cs:=fun M' hg=>z9l (M:=M') (f:=f) (f':=f') (e:=e) (e':=e') (hs.grow hg) (hs'.grow hg) hl hL
 (repeat' (first|(with_reducible intro _)|refine sv ?_|(refine sc ?_ ?_<;>(intro h;try first|exact h.elim|exact absurd rfl h|(exfalso;omega)))|((with_reducible first|apply z36|apply z53|apply z24);exact gd;exact rfl;exact rfl;(first|exact cs _ (xg)))|(refine sg ?_ ?_<;>(intro h;(fail_if_success (have:True:=h));try first|exact h.elim|exact absurd rfl h|(exfalso;omega)))|assumption|exact xm|exact rfl))
 ·((with_reducible first|apply zc|apply z6);exact rx)
  exact ⟨rfl,xg⟩
 ·rw [hb] at h;cases h
abbrev prc (p:Int × Int):List LV:=[I p.1,I p.2]
def SlP (M:Mem) (a:Option (Nat × Nat)) (L:List (Int × Int)):Prop:=L=[] ∨ ∃ i o,a=some (i,o) /\ ∀ k (hk:k < L.length),Rd M i (o+k*2) 2 (prc L[k])
theorem SlP.grow {M M':Mem} {a:Option (Nat × Nat)} {L:List (Int × Int)} (h:SlP M a L) (hg:Grow M M'):SlP M' a L :=
 h.imp id fun ⟨i,o,h1,h2⟩=>⟨i,o,h1,fun k hk=>(h2 k hk).grow hg⟩
theorem SlP.rd {M:Mem} {a:Option (Nat × Nat)} {L:List (Int × Int)} (h:SlP M a L) {k:Nat} (hk:k < L.length):∃ i o,a=some (i,o) /\ Rd M i (o+k*2) 2 [I L[k].1,I L[k].2]:=by
 rcases h with rfl|⟨i,o,h1,h2⟩
 ·exact absurd hk (Nat.not_lt_zero _)
 ·exact ⟨i,o,h1,h2 k hk⟩
def PrV (M:Mem) (v:LV) (L:List (Int × Int)):Prop:=∃ a f e,v=.slice a L.length f e /\ SlP M a L
theorem PrV.grow {M M':Mem} {v:LV} {L:List (Int × Int)} (h:PrV M v L) (hg:Grow M M'):PrV M' v L:=by
 obtain ⟨a,f,e,h1,h2⟩:=h
 exact ⟨a,f,e,h1,h2.grow hg⟩
theorem PrV.nil (M:Mem):PrV M (.slice none 0 true 0) []:=⟨none,true,0,rfl,.inl rfl⟩
theorem PrV.vec {M:Mem} {b:Nat} {ty:TypeId} {v:LV} {L:List (Int × Int)} (h:Vec b 2 ty prc M v L):PrV M v L:=by
 obtain ⟨a,f,e,h1,h2⟩:=h.rd (fun _ _=>rfl)
 exact ⟨a,f,e,h1,h2⟩
theorem zmh {r:Rl} (h:errRl r ≠ 0):rpF r=([],81):=by
 unfold errRl at h
 by_cases hb:rlB r=true
 ·rw [if_pos hb] at h;exact absurd rfl h
 ·unfold rpF;rw [if_neg hb]
theorem zmf {r:Rl} (h:errRl r=0):rlB r=true:=by
 unfold errRl at h
 by_cases hb:rlB r=true
 ·exact hb
 ·rw [if_neg hb] at h;cases h
theorem zmi {r:Rl} (h:errRl r=0):(strL (rpL r)).size<=100000000:=by
 have h1:=zmf h
 have h2:=zbj h1 r.2.length (Nat.le_refl _)
 have h3:rbL r r.2.length=rpL r:=by unfold rbL rpL;rw [List.take_length]
 rw [h3] at h2
 have h4:=(zi4 h1).2.2.1
 show (rpL r).length<=_
 omega
theorem zkj {r:Rl} (h:errRl r=0):unP (strL (rpL r))=if 65536 < (strL (rpL r)).size then (zRl,3) else (r,0):=by
 unfold unP
 rw [zk0 h rfl]
set_option maxHeartbeats 8000000 in
theorem zdi {M:Mem} {v:LV} {r:Rl} {s:ByteArray} (hv:RlV M v r) (hin:RlIn r) (hs:s.size<=1000000000000000) (hB:Base M) (hp:preOk M tabs=true) :
  CallOk Tryz.prog 9 [v,.str s] M (fun q _=>q=.bool true):=by
 have hv0:=hv
 obtain ⟨a,f,e,rfl,hsf⟩:=hv
 refine zh k9 rfl ?_
 dsimp only [x9,zipE,Nat.reduceAdd]
 have hpp:∀ M',Grow M M'->preOk M' tabs=true:=fun M' hg=>z6t (Ext.of_grow hg hB) hp
 (repeat' (first|(with_reducible intro _)|refine sv ?_|(refine sc ?_ ?_<;>(intro h;try first|exact h.elim|exact absurd rfl h|(exfalso;omega)))|(refine sg ?_ ?_<;>(intro h;(fail_if_success (have:True:=h));try first|exact h.elim|exact absurd rfl h|(exfalso;omega)))|assumption|exact xm|exact rfl))
 rename_i n1 M1 A1 A2 A3
 have a1:At M1 n1 (.cells true [.str r.1,.slice a r.2.length f e] 24):=At.new_same A1
 have hg1:Grow M M1:=A1.grow
 refine z19 (by exact gd) rfl rfl (zbz (hv0.grow hg1) hin) ?_
 rintro w2 M2 ⟨rfl,hg2⟩
 have a2:=At.grow hg2 a1
 have g2:=hg1.trans hg2
 have hl2:=g2.le
 clear A1 hg2
 have cu:=fun M'=>zc0 (s:=s) (M:=M') hs
 have hun:(unP s=(zRl,3) ∨ unP s=(zRl,5)) ∨ ∃ r',errRl r'=0 /\ strL (rpL r')=s /\ unP s=(r',0):=by
  unfold unP
  split
  ·exact .inl (.inl rfl)
  ·split
   ·rename_i r' q h
    obtain ⟨e1,e2⟩:=zje h
    exact .inr ⟨r',e1,e2,rfl⟩
   ·exact .inl (.inr rfl)
 by_cases he:errRl r=0
 ·rw [zcu he]
  have hu:=zkj he
  have hsz:=zmi he
  have hc:=zc0 (s:=strL (rpL r)) (M:=M2) (by omega)
  rw [hu] at hc
  generalize strL (rpL r)=t at *
  (repeat' (first|(with_reducible intro _)|refine sv ?_|(refine sc ?_ ?_<;>(intro h;try first|exact h.elim|exact absurd rfl h|(exfalso;omega)))|(refine sg ?_ ?_<;>(intro h;(fail_if_success (have:True:=h));try first|exact h.elim|exact absurd rfl h|(exfalso;omega)))|assumption|exact xm|exact rfl))
  refine z19 (by exact gd) rfl rfl hc ?_
  rintro w3 M3 ⟨v3,rfl,hv3,hg3⟩
  have a3:=At.grow hg3 a2
  have g3:=g2.trans hg3
  have hl3:=g3.le
  clear hg3 hc a2 g2 hl2
  by_cases hlong:65536 < t.size
  ·rw [if_pos hlong] at hv3 ⊢
   obtain ⟨v4,f4,e4,rfl,hs4⟩:=hv3
   (repeat' (first|(with_reducible intro _)|refine sv ?_|(refine sc ?_ ?_<;>(intro h;try first|exact h.elim|exact absurd rfl h|(exfalso;omega)))|(refine sg ?_ ?_<;>(intro h;(fail_if_success (have:True:=h));try first|exact h.elim|exact absurd rfl h|(exfalso;omega)))|assumption|exact xm|exact rfl))
   all_goals first|(exfalso;omega)|skip
   rename_i n4 M4 A1 A2 A3 M5 A4 A5 A6 A7 A8
   have g5:Grow M M5:=xg
   refine z19 (by exact gd) rfl rfl (cu M5) ?_
   rintro w6 M6 ⟨v6,rfl,hv6,hg6⟩
   have g6:=Grow.trans g5 hg6
   have hl6:=g6.le
   clear hg6
   rcases hun with hq|⟨r',e1,e2,e3⟩
   ·have hv7:RlV M6 v6 zRl:=by rcases hq with hq|hq<;>(rw [hq] at hv6;exact hv6)
    obtain ⟨v8,f8,e8,rfl,hs8⟩:=hv7
    rcases hq with hq|hq
    all_goals
     rw [hq]
     have hz:zRl.2.length=0:=rfl
     rw [hz]
     (repeat' (first|(with_reducible intro _)|refine sv ?_|(refine sc ?_ ?_<;>(intro h;try first|exact h.elim|exact absurd rfl h|(exfalso;omega)))|((with_reducible first|apply zn|apply zt|apply zk);exact gd;exact rfl;exact rfl;(first|exact z4m (hpp _ (xg))))|(refine sg ?_ ?_<;>(intro h;(fail_if_success (have:True:=h));try first|exact h.elim|exact absurd rfl h|(exfalso;omega)))|assumption|exact xm|exact rfl))
     all_goals try (exfalso;simp_all;done)
     ((with_reducible first|apply zc|apply z6);exact rx)
     try rfl
   ·rw [e3] at hv6 ⊢
    have hv7:RlV M6 v6 r':=hv6
    have hv8:=hv7
    obtain ⟨v8,f8,e8,rfl,hs8⟩:=hv8
    have hp8:=fun M' (hg:Grow M6 M')=>zbz (hv7.grow hg) (zbk e1)
    rw [zcu e1,e2] at hp8
    have hbb:(s == s)=true:=zbw s
    (repeat' (first|(with_reducible intro _)|refine sv ?_|(refine sc ?_ ?_<;>(intro h;try first|exact h.elim|exact absurd rfl h|(exfalso;omega)))|(refine sg ?_ ?_<;>(intro h;(fail_if_success (have:True:=h));try first|exact h.elim|exact absurd rfl h|(exfalso;omega)))|assumption|exact xm|exact rfl))
    rename_i n9 M9 B1 B2 B3 M10 B4 B5 B6
    have g10:Grow M6 M10:=xg
    have g610:Grow M M10:=g6.trans g10
    refine z19 (by exact gd) rfl rfl (hp8 _ g10) ?_
    rintro w11 M11 ⟨rfl,hg11⟩
    have b11:=At.grow hg11 B6
    have g11:=g610.trans hg11
    have hl11:=g11.le
    clear hg11 g10 g610 B1 B4 B6
    (repeat' (first|(with_reducible intro _)|refine sv ?_|(refine sc ?_ ?_<;>(intro h;try first|exact h.elim|exact absurd rfl h|(exfalso;omega)))|((with_reducible first|apply zn|apply zt|apply zk);exact gd;exact rfl;exact rfl;(first|exact zbq rfl rfl|exact z4m (hpp _ (xg))))|(refine sg ?_ ?_<;>(intro h;(fail_if_success (have:True:=h));try first|exact h.elim|exact absurd rfl h|(exfalso;omega)))|assumption|exact xm|exact rfl))
    all_goals try (exfalso;simp_all;done)
    ((with_reducible first|apply zc|apply z6);exact rx)
    rfl
  ·rw [if_neg hlong] at hv3 ⊢
   have hv4:RlV M3 v3 r:=hv3
   obtain ⟨v4,f4,e4,rfl,hs4⟩:=hv3
   obtain ⟨p1,p2,p3,p4⟩:=zct he
   have cS:=fun M' (hg:Grow M M') (hh:Grow M3 M')=>zdj (hv4.grow hh) (hv0.grow hg) (by omega) (fun z hz=>by have:=(z8q (p1 z hz)).2;omega)
   (repeat' (first|(with_reducible intro _)|refine sv ?_|(refine sc ?_ ?_<;>(intro h;try first|exact h.elim|exact absurd rfl h|(exfalso;omega)))|(refine sg ?_ ?_<;>(intro h;(fail_if_success (have:True:=h));try first|exact h.elim|exact absurd rfl h|(exfalso;omega)))|assumption|exact xm|exact rfl))
   all_goals first|(exfalso;omega)|skip
   rename_i n4 M4 A1 A2 A3 M5 A4 A5 A6 A7
   have a5:=At.upd_ne A4 (show n1 ≠ n4 by have:=a3.2;omega) (At.new_old A1 a3)
   have g35:Grow M3 M5:=xg
   have a55:At M5 n1 (.cells true [.str r.1,.slice a r.2.length f e] 24):=a5
   have g05:=g3.trans g35
   have cS5:=cS _ g05 g35
   have hl05:=g05.le
   clear A1 A4 cS a3 g35 g3 hl3
   (repeat' (first|(with_reducible intro _)|refine sv ?_|(refine sc ?_ ?_<;>(intro h;try first|exact h.elim|exact absurd rfl h|(exfalso;omega)))|((with_reducible first|apply z36|apply z53|apply z24);exact gd;exact rfl;exact rfl;(first|exact cS5))|(refine sg ?_ ?_<;>(intro h;(fail_if_success (have:True:=h));try first|exact h.elim|exact absurd rfl h|(exfalso;omega)))|assumption|exact xm|exact rfl))
   rename_i M55 hM54 hM56 hM57
   have g5:Grow M M55:=g05.trans hM54
   clear hM54 g05
   refine z19 (by exact gd) rfl rfl (cu M55) ?_
   rintro w6 M6 ⟨v6,rfl,hv6,hg6⟩
   have g6:=Grow.trans g5 hg6
   have hl6:=g6.le
   clear hg6
   rcases hun with hq|⟨r',e1,e2,e3⟩
   ·have hv7:RlV M6 v6 zRl:=by rcases hq with hq|hq<;>(rw [hq] at hv6;exact hv6)
    obtain ⟨v8,f8,e8,rfl,hs8⟩:=hv7
    rcases hq with hq|hq
    all_goals
     rw [hq]
     have hz:zRl.2.length=0:=rfl
     rw [hz]
     (repeat' (first|(with_reducible intro _)|refine sv ?_|(refine sc ?_ ?_<;>(intro h;try first|exact h.elim|exact absurd rfl h|(exfalso;omega)))|((with_reducible first|apply zn|apply zt|apply zk);exact gd;exact rfl;exact rfl;(first|exact z4m (hpp _ (xg))))|(refine sg ?_ ?_<;>(intro h;(fail_if_success (have:True:=h));try first|exact h.elim|exact absurd rfl h|(exfalso;omega)))|assumption|exact xm|exact rfl))
     all_goals try (exfalso;simp_all;done)
     ((with_reducible first|apply zc|apply z6);exact rx)
     try rfl
   ·rw [e3] at hv6 ⊢
    have hv7:RlV M6 v6 r':=hv6
    have hv8:=hv7
    obtain ⟨v8,f8,e8,rfl,hs8⟩:=hv8
    have hp8:=fun M' (hg:Grow M6 M')=>zbz (hv7.grow hg) (zbk e1)
    rw [zcu e1,e2] at hp8
    have hbb:(s == s)=true:=zbw s
    (repeat' (first|(with_reducible intro _)|refine sv ?_|(refine sc ?_ ?_<;>(intro h;try first|exact h.elim|exact absurd rfl h|(exfalso;omega)))|(refine sg ?_ ?_<;>(intro h;(fail_if_success (have:True:=h));try first|exact h.elim|exact absurd rfl h|(exfalso;omega)))|assumption|exact xm|exact rfl))
    rename_i n9 M9 B1 B2 B3 M10 B4 B5 B6
    have g10:Grow M6 M10:=xg
    have g610:Grow M M10:=g6.trans g10
    refine z19 (by exact gd) rfl rfl (hp8 _ g10) ?_
    rintro w11 M11 ⟨rfl,hg11⟩
    have b11:=At.grow hg11 B6
    have g11:=g610.trans hg11
    have hl11:=g11.le
    clear hg11 g10 g610 B1 B4 B6
    (repeat' (first|(with_reducible intro _)|refine sv ?_|(refine sc ?_ ?_<;>(intro h;try first|exact h.elim|exact absurd rfl h|(exfalso;omega)))|((with_reducible first|apply zn|apply zt|apply zk);exact gd;exact rfl;exact rfl;(first|exact zbq rfl rfl|exact z4m (hpp _ (xg))))|(refine sg ?_ ?_<;>(intro h;(fail_if_success (have:True:=h));try first|exact h.elim|exact absurd rfl h|(exfalso;omega)))|assumption|exact xm|exact rfl))
    all_goals try (exfalso;simp_all;done)
    ((with_reducible first|apply zc|apply z6);exact rx)
    rfl
 ·rw [zmh he]
  have hbe:(strL [] == (⟨#[]⟩:ByteArray))=true:=rfl
  (repeat' (first|(with_reducible intro _)|refine sv ?_|(refine sc ?_ ?_<;>(intro h;try first|exact h.elim|exact absurd rfl h|(exfalso;omega)))|(refine sg ?_ ?_<;>(intro h;(fail_if_success (have:True:=h));try first|exact h.elim|exact absurd rfl h|(exfalso;omega)))|assumption|exact xm|exact rfl))
  all_goals first|exact absurd (hbe.symm.trans h) (by decide)|skip
  ·refine z19 (by exact gd) rfl rfl (cu M2) ?_
   rintro w6 M6 ⟨v6,rfl,hv6,hg6⟩
   have g6:=Grow.trans g2 hg6
   have hl6:=g6.le
   clear hg6
   rcases hun with hq|⟨r',e1,e2,e3⟩
   ·have hv7:RlV M6 v6 zRl:=by rcases hq with hq|hq<;>(rw [hq] at hv6;exact hv6)
    obtain ⟨v8,f8,e8,rfl,hs8⟩:=hv7
    rcases hq with hq|hq
    all_goals
     rw [hq]
     have hz:zRl.2.length=0:=rfl
     rw [hz]
     (repeat' (first|(with_reducible intro _)|refine sv ?_|(refine sc ?_ ?_<;>(intro h;try first|exact h.elim|exact absurd rfl h|(exfalso;omega)))|((with_reducible first|apply zn|apply zt|apply zk);exact gd;exact rfl;exact rfl;(first|exact z4m (hpp _ (xg))))|(refine sg ?_ ?_<;>(intro h;(fail_if_success (have:True:=h));try first|exact h.elim|exact absurd rfl h|(exfalso;omega)))|assumption|exact xm|exact rfl))
     all_goals try (exfalso;simp_all;done)
     ((with_reducible first|apply zc|apply z6);exact rx)
     try rfl
   ·rw [e3] at hv6 ⊢
    have hv7:RlV M6 v6 r':=hv6
    have hv8:=hv7
    obtain ⟨v8,f8,e8,rfl,hs8⟩:=hv8
    have hp8:=fun M' (hg:Grow M6 M')=>zbz (hv7.grow hg) (zbk e1)
    rw [zcu e1,e2] at hp8
    have hbb:(s == s)=true:=zbw s
    (repeat' (first|(with_reducible intro _)|refine sv ?_|(refine sc ?_ ?_<;>(intro h;try first|exact h.elim|exact absurd rfl h|(exfalso;omega)))|(refine sg ?_ ?_<;>(intro h;(fail_if_success (have:True:=h));try first|exact h.elim|exact absurd rfl h|(exfalso;omega)))|assumption|exact xm|exact rfl))
    rename_i n9 M9 B1 B2 B3 M10 B4 B5 B6
    have g10:Grow M6 M10:=xg
    have g610:Grow M M10:=g6.trans g10
    refine z19 (by exact gd) rfl rfl (hp8 _ g10) ?_
    rintro w11 M11 ⟨rfl,hg11⟩
    have b11:=At.grow hg11 B6
    have g11:=g610.trans hg11
    have hl11:=g11.le
    clear hg11 g10 g610 B1 B4 B6
    (repeat' (first|(with_reducible intro _)|refine sv ?_|(refine sc ?_ ?_<;>(intro h;try first|exact h.elim|exact absurd rfl h|(exfalso;omega)))|((with_reducible first|apply zn|apply zt|apply zk);exact gd;exact rfl;exact rfl;(first|exact zbq rfl rfl|exact z4m (hpp _ (xg))))|(refine sg ?_ ?_<;>(intro h;(fail_if_success (have:True:=h));try first|exact h.elim|exact absurd rfl h|(exfalso;omega)))|assumption|exact xm|exact rfl))
    all_goals try (exfalso;simp_all;done)
    ((with_reducible first|apply zc|apply z6);exact rx)
    rfl
end Go.Proofs.YtbfnnllgdioccaaGreatDoor.C
end
