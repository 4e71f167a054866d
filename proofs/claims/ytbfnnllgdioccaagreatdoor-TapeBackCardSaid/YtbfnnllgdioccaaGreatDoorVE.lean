/-
 Part of the proof of TapeBack. No condition beyond those in each theorem.
-/
import Derived.Test.YtbfnnllgdioccaaGreatDoorVD
import Derived.Test.YtbfnnllgdioccaaGreatDoorVA
import Derived.Test.YtbfnnllgdioccaaGreatDoorVB
import Derived.Test.YtbfnnllgdioccaaGreatDoorXW
import Derived.Test.YtbfnnllgdioccaaGreatDoorXX
section
open Go PvL Go.Proofs
set_option linter.unusedSimpArgs false
set_option linter.unusedVariables false
variable {μ:Md}
namespace Go.Proofs.YtbfnnllgdioccaaGreatDoor.C
abbrev FW:=Ky × Option (Nat × Nat) × Nat × Bool × Nat
abbrev fwc (x:FW):List LV:=[I x.1.1,I x.1.2,.slice x.2.1 x.2.2.1 x.2.2.2.1 x.2.2.2.2]
def FwV (M:Mem) (x:FW) (f:Fr):Prop:=x.1=fky f /\ x.2.2.1=f.2.2.length /\ SlI M x.2.1 f.2.2
inductive FwL (M:Mem):List FW->List Fr->Prop
 | nil:FwL M [] []
 | cons {x:FW} {f:Fr} {xs:List FW} {fs:List Fr} (h:FwV M x f) (h':FwL M xs fs):FwL M (x :: xs) (f :: fs)
theorem FwL.len {M:Mem} {xs:List FW} {fs:List Fr} (h:FwL M xs fs):xs.length=fs.length:=by
 induction h with
 | nil=>rfl
 | cons _ _ ih=>simp [ih]
theorem FwL.snoc {M:Mem} {xs:List FW} {fs:List Fr} {x:FW} {f:Fr} (h:FwL M xs fs) (h':FwV M x f):FwL M (xs ++ [x]) (fs ++ [f]):=by
 induction h with
 | nil=>exact .cons h' .nil
 | cons h _ ih=>exact .cons h ih
theorem FwL.at {M:Mem} {xs:List FW} {fs:List Fr} (h:FwL M xs fs):∀ {k:Nat} (h1:k < xs.length) (h2:k < fs.length),FwV M xs[k] fs[k]:=by
 induction h with
 | nil=>intro k h1;simp at h1
 | cons h _ ih =>
  intro k h1 h2
  cases k with
  | zero=>exact h
  | succ k=>exact ih (by simpa using h1) (by simpa using h2)
theorem FwV.grow {M M':Mem} {x:FW} {f:Fr} (h:FwV M x f) (hg:Grow M M'):FwV M' x f:=⟨h.1,h.2.1,h.2.2.grow hg⟩
theorem FwL.grow {M M':Mem} {xs:List FW} {fs:List Fr} (h:FwL M xs fs) (hg:Grow M M'):FwL M' xs fs:=by
 induction h with
 | nil=>exact .nil
 | cons h _ ih=>exact .cons (h.grow hg) ih
theorem zit {b:Nat} {ty:TypeId} {M:Mem} {v:LV} {xs:List FW} {fs:List Fr} (hv:Vec b 3 ty fwc M v xs) (hl:FwL M xs fs):∃ a f e,v=.slice a fs.length f e /\ FsV M a fs:=by
 obtain ⟨a,f,e,h1,h2⟩:=hv.rd (fun _ _=>rfl)
 refine ⟨a,f,e,by rw [<-hl.len];exact h1,?_⟩
 rcases h2 with rfl|⟨i,o,rfl,h3⟩
 ·left
  have:=hl.len
  exact List.length_eq_zero_iff.1 (by rw [<-this];rfl)
 ·refine .inr ⟨i,o,rfl,fun k hk=>?_⟩
  have hk':k < xs.length:=by rw [hl.len];exact hk
  have h4:=h3 k hk'
  obtain ⟨g1,g2,g3⟩:=hl.at hk' hk
  refine ⟨xs[k].2.1,xs[k].2.2.2.1,xs[k].2.2.2.2,?_,g3⟩
  have e1:xs[k].1.1=fs[k].1:=congrArg Prod.fst g1
  have e2:xs[k].1.2=fs[k].2.1:=congrArg Prod.snd g1
  rw [<-e1,<- e2,<- g2]
  exact h4
inductive FwL1 (M:Mem):List FW->List Fr->Prop
 | nil:FwL1 M [] []
 | cons {x:FW} {f:Fr} {xs:List FW} {fs:List Fr} (h:FwV M x f) (h1:f.2.2 ≠ []->x.2.2.2.2=1) (h':FwL1 M xs fs):FwL1 M (x :: xs) (f :: fs)
theorem FwL1.l {M:Mem} {xs:List FW} {fs:List Fr} (h:FwL1 M xs fs):FwL M xs fs:=by
 induction h with
 | nil=>exact .nil
 | cons h _ _ ih=>exact .cons h ih
theorem FwL1.snoc {M:Mem} {xs:List FW} {fs:List Fr} {x:FW} {f:Fr} (h:FwL1 M xs fs) (h':FwV M x f) (h1:f.2.2 ≠ []->x.2.2.2.2=1):FwL1 M (xs ++ [x]) (fs ++ [f]):=by
 induction h with
 | nil=>exact .cons h' h1 .nil
 | cons h h2 _ ih=>exact .cons h h2 ih
theorem FwL1.grow {M M':Mem} {xs:List FW} {fs:List Fr} (h:FwL1 M xs fs) (hg:Grow M M'):FwL1 M' xs fs:=by
 induction h with
 | nil=>exact .nil
 | cons h h2 _ ih=>exact .cons (h.grow hg) h2 ih
theorem FwL1.one {M:Mem} {xs:List FW} {fs:List Fr} (h:FwL1 M xs fs):∀ {k:Nat} (h1:k < xs.length) (h2:k < fs.length),fs[k].2.2 ≠ []->xs[k].2.2.2.2=1:=by
 induction h with
 | nil=>intro k h1;simp at h1
 | cons h h2 _ ih =>
  intro k g1 g2
  cases k with
  | zero=>exact h2
  | succ k=>exact ih (by simpa using g1) (by simpa using g2)
theorem zhk {m:Nat} {x:FW} {M M':Mem} {ty:TypeId} (hn:New M m (.cells true (fwc x) ty) M'):firstL 3 1 (.slice (some (m,0)) 1 true 3) M'=some ([x].flatMap fwc) :=
 z68 (enc:=fwc) (l:=[x]) (fun _ _=>rfl) (fun k' hk'=>z3j (enc:=fwc) (l:=[x]) (At.new_same hn) (fun _ _=>rfl) hk')
section
variable {P:Program} [Orc P] {sz:Nat} {E:Env} {M:Mem} {K:Env->Mem->Prop} {l:List XG} {g:Option (Nat × Bool)} {st:List Mem} {n:Nat} {xs:List (Nat × Nat × (Mem->Prop))} {ld:List (XG × XK)} {x y z':XO} {r:Nat} {R:Rk} {k:Ky} {v:LV} {smp:List Int}
end
def RkB (R:Rk):Prop:=∀ k,((lkK R k).getD []).length<=64
theorem RkB.nil:RkB []:=fun k=>Nat.zero_le _
theorem RkB.add {R:Rk} (h:RkB R) {f:Fr} (hf:f.2.2.length<=64):RkB (rkA R f):=fun k=>by
 unfold rkA
 rw [zfl]
 split
 ·rw [Option.getD_some,z3o]
  have:=h (fky f)
  omega
 ·exact h k
def FrOk (L:List Fr):Prop:=∀ x ∈ L,frB x=true
theorem FrOk.k {L:List Fr} (h:FrOk L):∀ x ∈ L,FrK x:=fun x hx=>by have:=z5a (h x hx);exact ⟨this.1,this.2.1,this.2.2.1,this.2.2.2.1⟩
theorem z8q {x:Fr} (h:frB x=true):1<=x.2.2.length /\ x.2.2.length<=64:=by
 have:=zf3 (x:=x) (by unfold errF;rw [h];rfl)
 omega
end Go.Proofs.YtbfnnllgdioccaaGreatDoor.C
end
section
open Go PvL
set_option linter.unusedSimpArgs false
set_option linter.unusedVariables false
namespace Go.Proofs.YtbfnnllgdioccaaGreatDoor.C
def oJ:Option (List Int)->Option (List Int)->Option (List Int)
 | none,b=>b
 | some a,none=>some a
 | some a,some b=>some (bothL a b)
structure GdL (J:List Fr):Prop where
 s:SrtJ J
 b:∀ x ∈ J,frB x=true
theorem zf6 {x:Fr} (h:frB x=true):FrK x:=by have:=z5a h;exact ⟨this.1,this.2.1,this.2.2.1,this.2.2.2.1⟩
theorem GdL.k {J:List Fr} (h:GdL J):∀ x ∈ J,FrK x:=fun x hx=>zf6 (h.b x hx)
theorem GdL.rlK {J:List Fr} (h:GdL J):∀ n,n<=J.length->rlK J n=true
 | 0,_=>rfl
 | n+1,hn=>by
  have hlt:n < J.length:=hn
  have hb:=h.b J[n] (List.getElem_mem hlt)
  rw [ze7,GdL.rlK h n (by omega),z67 hlt,hb,Bool.true_and,Bool.true_and]
  by_cases h0:n=0
  ·rw [decide_eq_true h0];rfl
  ·have hl2:n - 1 < J.length:=by omega
   rw [z67 hl2,decide_eq_true (p:=keyI J[n - 1] < keyI J[n]) ?_,Bool.or_true]
   have:=h.s
   unfold SrtJ at this
   rw [List.pairwise_iff_getElem] at this
   exact (z8s (zf6 (h.b _ (List.getElem_mem hl2))) (zf6 hb)).2 (this (n - 1) n hl2 hlt (by omega))
theorem zlq {J:List Fr} (h:C.rlK J J.length=true):GdL J:=by
 have hb:∀ x ∈ J,frB x=true:=fun x hx=>by
  obtain ⟨i,hi,rfl⟩:=List.mem_iff_getElem.1 hx
  have:=zcq h hi
  rw [z67 hi] at this;exact this
 refine ⟨?_,hb⟩
 unfold SrtJ
 rw [List.pairwise_iff_getElem]
 intro i j hi hj hij
 have:=zmg h hij hj
 rw [z67 hi,z67 hj] at this
 exact (z8s (zf6 (hb _ (List.getElem_mem hi))) (zf6 (hb _ (List.getElem_mem hj)))).1 this
def jnL (a b:List Fr):List Fr:=joinedR (a ++ b)
def zRl:Rl:=(⟨#[]⟩,[])
def mergeF (x y:Rl):Rl × Int :=
 if errRl x=0 then (if errRl y=0 then (if x.1=y.1 then (if (joinedR (x.2 ++ y.2)).length<=128 then ((x.1,joinedR (x.2 ++ y.2)),0) else (zRl,6)) else (zRl,2)) else (zRl,errRl y)) else (zRl,errRl x)
def mgOk (x y:Rl):Prop:=errRl x=0 /\ errRl y=0 /\ x.1=y.1 /\ (jnL x.2 y.2).length<=128
theorem err0 {x:Rl} (h:errRl x=0):nmB x.1=true /\ x.2.length<=128 /\ GdL x.2:=by
 unfold errRl at h
 cases hb:rlB x with
 | false=>rw [hb] at h;simp at h
 | true =>
  unfold rlB at hb
  simp only [Bool.and_eq_true,decide_eq_true_eq] at hb
  exact ⟨hb.1.1,hb.1.2,zlq hb.2⟩
theorem zbk {x:Rl} (h:errRl x=0):RlIn x:=by
 obtain ⟨h1,h2,h3⟩:=err0 h
 refine ⟨?_,by omega,fun f hf=>zo2 (by unfold errF;rw [h3.b f hf];rfl)⟩
 unfold nmB btB at h1
 simp only [Bool.and_eq_true,decide_eq_true_eq] at h1
 omega
end Go.Proofs.YtbfnnllgdioccaaGreatDoor.C
end
section
open Go PvL Go.Proofs
set_option linter.unusedSimpArgs false
set_option linter.unusedVariables false
variable {μ:Md}
namespace Go.Proofs.YtbfnnllgdioccaaGreatDoor.C
theorem zo6 {x:Rl} (h:errRl x=0):FrOk x.2 /\ x.2.length<=128 /\ nmB x.1=true /\ rlK x.2 x.2.length=true:=by
 unfold errRl at h
 cases hb:rlB x with
 | false=>rw [hb] at h;simp at h
 | true =>
  unfold rlB at hb
  simp only [Bool.and_eq_true,decide_eq_true_eq] at hb
  refine ⟨fun f hf=>?_,hb.1.2,hb.1.1,hb.2⟩
  obtain ⟨i,hi,rfl⟩:=List.mem_iff_getElem.1 hf
  have:=zcq hb.2 hi
  rw [z67 hi] at this;exact this
theorem zcs (M:Mem):RlV M (.agg [.str ⟨#[]⟩,.slice none 0 true 0]) zRl:=⟨none,true,0,rfl,.inl rfl⟩
theorem RkM.nil {M M':Mem} {r:Nat} (hN:New M r (.map [] [] 0) M'):RkM M' r []:=⟨[],[],0,At.new_same hN,⟨rfl,List.nodup_nil,fun _ h=>nomatch h⟩,.nil⟩
def GeB (N:Nat->Prop) (v:LV):Prop:=∀ i o n f e,v=.slice (some (i,o)) n f e->n ≠ 0->¬ N i
theorem GeB.vec {N:Nat->Prop} {b' sz:Nat} {ty:TypeId} {M:Mem} {v:LV} {l:List Int} (h:Vec b' sz ty intc M v l) (hb:∀ i,N i->i < b'):GeB N v:=fun i o n f e hv _=>by
 rcases h with ⟨_,rfl⟩|⟨j,rfl,_,h3⟩
 ·cases hv
 ·cases hv;exact fun hN=>by have:=hb _ hN;omega
theorem SlV.ge {N N':Nat->Prop} {M:Mem} {v:LV} {l:List Int} (h:SlV M v l) (hg:GeB N v) (hb:∀ i,N' i->N i ∨ M.next<=i):GeB N' v:=fun i o n f e hv hn hN=>by
 have hg0:=hg i o n f e hv hn
 obtain ⟨a,f',e',rfl,h0,h2⟩:=h
 cases hv
 rcases h2 with rfl|⟨i',o',h3,h4⟩
 ·exact absurd rfl hn
 ·cases h3
  have h5:=(h4 0 (by omega)).2
  rcases hb i hN with h6|h6
  ·exact hg0 h6
  ·omega
theorem SlV.keepb {N:Nat->Prop} {M M':Mem} {F:Nat->Prop} {v:LV} {l:List Int} (h:SlV M v l) (hg:GeB N v) (hk:Keep F M M') (hF:∀ i,F i->N i):SlV M' v l:=by
 obtain ⟨a,f,e,rfl,h0,h2⟩:=h
 refine ⟨a,f,e,rfl,h0,h2.imp id fun ⟨i,o,h3,h4⟩=>⟨i,o,h3,fun k hk'=>(h4 k hk').keep hk (fun hf=>?_)⟩⟩
 exact hg i o _ _ _ (by rw [h3]) (by omega) (hF i hf)
def RkMb (b:Nat->Prop) (M:Mem) (r:Nat) (R:Rk):Prop:=∃ L bs clk,At M r (.map (encK L) bs clk) /\ StOk bs clk L.length /\ RkL M L R /\ ∀ p ∈ L,GeB b p.2
theorem RkL.keepb {b:Nat->Prop} {M M':Mem} {F:Nat->Prop} {L:Mk} {R:Rk} (h:RkL M L R) (hg:∀ p ∈ L,GeB b p.2) (hk:Keep F M M') (hF:∀ i,F i->b i):RkL M' L R:=by
 induction h with
 | nil=>exact .nil
 | cons h _ ih=>exact .cons (h.keepb (hg _ List.mem_cons_self) hk hF) (ih (fun p hp=>hg p (List.mem_cons_of_mem _ hp)))
theorem RkMb.keep {b:Nat->Prop} {M M':Mem} {F:Nat->Prop} {r:Nat} {R:Rk} (h:RkMb b M r R) (hk:Keep F M M') (hF:∀ i,F i->b i) (hr:¬ b r):RkMb b M' r R:=by
 obtain ⟨L,bs,clk,h1,h2,h3,h4⟩:=h
 exact ⟨L,bs,clk,hk.at h1 (fun hf=>hr (hF r hf)),h2,h3.keepb h4 hk hF,h4⟩
theorem RkMb.grow {b:Nat->Prop} {M M':Mem} {r:Nat} {R:Rk} (h:RkMb b M r R) (hg:Grow M M'):RkMb b M' r R:=by
 obtain ⟨L,bs,clk,h1,h2,h3,h4⟩:=h
 exact ⟨L,bs,clk,h1.grow hg,h2,h3.grow hg,h4⟩
theorem RkL.ge {b b':Nat->Prop} {M:Mem} {L:Mk} {R:Rk} (h:RkL M L R) (hg:∀ p ∈ L,GeB b p.2) (hb:∀ i,b' i->b i ∨ M.next<=i):∀ p ∈ L,GeB b' p.2:=by
 induction h with
 | nil=>exact fun _ h=>nomatch h
 | cons h _ ih =>
  intro p hp
  rcases List.mem_cons.1 hp with rfl|hp
  ·exact h.ge (hg _ List.mem_cons_self) hb
  ·exact ih (fun p hp=>hg p (List.mem_cons_of_mem _ hp)) p hp
theorem RkMb.ge {b b':Nat->Prop} {M:Mem} {r:Nat} {R:Rk} (h:RkMb b M r R) (hb:∀ i,b' i->b i ∨ M.next<=i):RkMb b' M r R:=by
 obtain ⟨L,bs,clk,h1,h2,h3,h4⟩:=h
 exact ⟨L,bs,clk,h1,h2,h3,h3.ge h4 hb⟩
theorem RkM.b {M:Mem} {r:Nat} {R:Rk} (h:RkM M r R):RkMb (fun _=>False) M r R:=by
 obtain ⟨L,bs,clk,h1,h2,h3⟩:=h
 exact ⟨L,bs,clk,h1,h2,h3,fun p _ i o n f e _ _ h=>h⟩
theorem RkMb.nil {b:Nat->Prop} {M M':Mem} {r:Nat} (hN:New M r (.map [] [] 0) M'):RkMb b M' r []:=⟨[],[],0,At.new_same hN,⟨rfl,List.nodup_nil,fun _ h=>nomatch h⟩,.nil,fun _ h=>nomatch h⟩
section
variable {M M':Mem} {L:Mk} {R:Rk} {r:Nat} {k:Ky} {sz:Nat} {E:Env} {x y z':XO}
end
section
variable {P:Program} [Orc P] {sz:Nat} {E:Env} {M:Mem} {K:Env->Mem->Prop} {l:List XG} {g:Option (Nat × Bool)} {st:List Mem} {n:Nat} {xs:List (Nat × Nat × (Mem->Prop))} {ld:List (XG × XK)} {x y z':XO} {r:Nat} {R:Rk} {k:Ky} {v:LV} {smp:List Int}
end
end Go.Proofs.YtbfnnllgdioccaaGreatDoor.C
end
section
open Go PvL Go.Proofs
set_option linter.unusedSimpArgs false
set_option linter.unusedVariables false
namespace Go.Proofs.YtbfnnllgdioccaaGreatDoor.C
abbrev bk:LV:=.iface 185 (.agg [])
abbrev rdr (s:ByteArray) (p:Nat):LB:=.cells true [.str s,I p] 120
abbrev RdQ {β:Type} (enc:β->LV) (a:Nat) (s:ByteArray) (r:Option (β × Nat)) (M:Mem):LV->Mem->Prop:=RdOk enc a (rdr s) r M
abbrev RdN {β:Type} (a:Nat) (s:ByteArray) (r:Option (β × Nat)) (M:Mem):LV->Mem->Prop:=RdNo a (rdr s) r bk M
abbrev encI (n:Nat):LV:=I n
def oneB (s:ByteArray) (p:Nat):Option (Nat × Nat):=if p < s.size then some (byteAt s p,p+1) else none
def twoB (s:ByteArray) (p:Nat):Option (Nat × Nat):=match oneB s p with|none=>none|some (a,p)=>match oneB s p with|none=>none|some (b,p)=>some (256*a+b,p)
theorem z52 (q:Bool) (M:Mem):CallB Tryz.prog 120 [.bool q] M (MuOk q M) (MuNo q bk M):=by
 refine z0w k120 rfl ?_
 dsimp only [x120,zipE,Nat.reduceAdd]
 cases q with
 | true =>
  (repeat' (first|(with_reducible intro _)|refine svb ?_|(refine sc ?_ ?_<;>(intro h;try first|exact h.elim|exact absurd rfl h|(exfalso;omega)))|(refine sgb ?_ ?_<;>(intro h;(fail_if_success (have:True:=h));try first|exact h.elim|exact absurd rfl h|(exfalso;omega)))|assumption|exact xm|exact rfl))
  ((with_reducible first|apply zc|apply z6);exact rx)
  exact ⟨rfl,rfl,rfl⟩
 | false =>
  (repeat' (first|(with_reducible intro _)|refine svb ?_|(refine sc ?_ ?_<;>(intro h;try first|exact h.elim|exact absurd rfl h|(exfalso;omega)))|(refine sgb ?_ ?_<;>(intro h;(fail_if_success (have:True:=h));try first|exact h.elim|exact absurd rfl h|(exfalso;omega)))|assumption|exact xm|exact rfl))
  refine z5l gd (v:=bk) rfl ?_
  exact zl2 gd (v:=bk) rfl ⟨rfl,rfl,rfl⟩
theorem zno (s:ByteArray) (hs:s.size<=1000000000000000) (p:Nat) (M:Mem):CallOk Tryz.prog 147 [.str s,I p] M (fun w M'=>w=.tup [I (if p < s.size then (byteAt s p:Int) else 0),.bool (decide (p < s.size))] /\ M'=M):=by
 refine zh k147 rfl ?_
 dsimp only [x147,zipE,Nat.reduceAdd]
 have hb2:=z12 s p
 by_cases hlt:p < s.size
 ·rw [if_pos hlt,decide_eq_true hlt]
  (repeat' (first|(with_reducible intro _)|refine sv ?_|(refine sc ?_ ?_<;>(intro h;try first|exact h.elim|exact absurd rfl h|(exfalso;omega)))|(refine sg ?_ ?_<;>(intro h;(fail_if_success (have:True:=h));try first|exact h.elim|exact absurd rfl h|(exfalso;omega)))|assumption|exact xm|exact rfl))
  all_goals first|(((with_reducible first|apply zc|apply z6);exact rx);exact ⟨rfl,rfl⟩)|(exfalso;omega)
 ·rw [if_neg hlt,decide_eq_false hlt]
  (repeat' (first|(with_reducible intro _)|refine sv ?_|(refine sc ?_ ?_<;>(intro h;try first|exact h.elim|exact absurd rfl h|(exfalso;omega)))|(refine sg ?_ ?_<;>(intro h;(fail_if_success (have:True:=h));try first|exact h.elim|exact absurd rfl h|(exfalso;omega)))|assumption|exact xm|exact rfl))
  all_goals first|(((with_reducible first|apply zc|apply z6);exact rx);exact ⟨rfl,rfl⟩)|(exfalso;omega)
theorem z8e {a:Nat} {s:ByteArray} {p:Nat} {M:Mem} (ha:At M a (rdr s p)) (hs:s.size<=1000000000000000):CallB Tryz.prog 121 [.ptr (some (a,0))] M (RdQ encI a s (oneB s p) M) (RdN a s (oneB s p) M):=by
 refine z0w k121 rfl ?_
 dsimp only [x121,zipE,Nat.reduceAdd]
 (repeat' (first|(with_reducible intro _)|refine svb ?_|(refine sc ?_ ?_<;>(intro h;try first|exact h.elim|exact absurd rfl h|(exfalso;omega)))|((with_reducible first|apply zn|apply z9g);exact gd;exact rfl;exact rfl;(first|exact zno s hs p M))|((with_reducible first|apply x_mu|apply b_mu);exact gd;exact rfl;exact rfl;(first|exact z52 _ _);infer_instance)|(refine sgb ?_ ?_<;>(intro h;(fail_if_success (have:True:=h));try first|exact h.elim|exact absurd rfl h|(exfalso;omega)))|assumption|exact xm|exact rfl))
 ·rename_i h
  exact ⟨if_neg h,rfl,Keep.refl _ _,p,ha⟩
 ·rename_i h M' h1 h2 h3
  ((with_reducible first|apply zc|apply z6);exact rx)
  rw [if_pos h]
  exact ⟨byteAt s p,p+1,if_pos h,rfl,xk,h3⟩
theorem zh3 {a b:Nat} (ha:a < 256):shlZ (a:Int) 8+(b:Int)=((256*a+b:Nat):Int):=by
 rw [shl8 (a:Int)];omega
theorem z6q {s:ByteArray} {p b q:Nat} (h:oneB s p=some (b,q)):p < s.size /\ b=byteAt s p /\ q=p+1:=by
 unfold oneB at h
 split at h
 ·cases h;exact ⟨by assumption,rfl,rfl⟩
 ·cases h
theorem z0h {s:ByteArray} {p b q:Nat} (h:oneB s p=some (b,q)):b < 256:=by
 obtain ⟨_,rfl,_⟩:=z6q h
 exact z12 s p
theorem zeq {a:Nat} {s:ByteArray} {p:Nat} {M:Mem} (ha:At M a (rdr s p)) (hs:s.size<=1000000000000000):CallB Tryz.prog 148 [.ptr (some (a,0))] M (RdQ encI a s (twoB s p) M) (RdN a s (twoB s p) M):=by
 refine z0w k148 rfl ?_
 dsimp only [x148,zipE,Nat.reduceAdd]
 (repeat' (first|(with_reducible intro _)|refine svb ?_|(refine sc ?_ ?_<;>(intro h;try first|exact h.elim|exact absurd rfl h|(exfalso;omega)))|((with_reducible first|apply x_rd|apply b_rd);exact gd;exact rfl;exact rfl;(first|exact z8e (by assumption) hs))|(refine sgb ?_ ?_<;>(intro h;(fail_if_success (have:True:=h));try first|exact h.elim|exact absurd rfl h|(exfalso;omega)))|assumption|exact xm|exact rfl))
 ·rename_i h1 M1 h2 h3 q h4
  refine ⟨?_,rfl,h2,q,h4⟩
  unfold twoB;rw [h1]
 rename_i b q h1 M1 h2 h3 h4
 have hb:=z0h h1
 have h8:=shl8 (b:Int)
 (repeat' (first|(with_reducible intro _)|refine svb ?_|(refine sc ?_ ?_<;>(intro h;try first|exact h.elim|exact absurd rfl h|(exfalso;omega)))|(refine sgb ?_ ?_<;>(intro h;(fail_if_success (have:True:=h));try first|exact h.elim|exact absurd rfl h|(exfalso;omega)))|assumption|exact xm|exact rfl))
 refine x_rd gd rfl rfl (z8e h4 hs) ?_ ?_
 ·intro h5 M2 h6 h7 q2 h8
  refine ⟨?_,rfl,h2.trans h6 (fun i hi=>.inl hi),q2,h8⟩
  unfold twoB;rw [h1];simp only;rw [h5]
 intro b2 q2 h5 M2 h6 h7 h9
 have hb2:=z0h h5
 (repeat' (first|(with_reducible intro _)|refine svb ?_|(refine sc ?_ ?_<;>(intro h;try first|exact h.elim|exact absurd rfl h|(exfalso;omega)))|(refine sgb ?_ ?_<;>(intro h;(fail_if_success (have:True:=h));try first|exact h.elim|exact absurd rfl h|(exfalso;omega)))|assumption|exact xm|exact rfl))
 ((with_reducible first|apply zc|apply z6);exact rx)
 refine ⟨256*b+b2,q2,?_,?_,h2.trans h6 (fun i hi=>.inl hi),h9⟩
 ·unfold twoB;rw [h1];simp only;rw [h5]
 ·show I _=I _
  rw [zh3 hb]
def codeS (s:ByteArray):Nat->Nat->Nat->Nat->Option (Nat × Nat)
 | 0,_,_,_=>none
 | j+1,p,n,u=>match oneB s p with
  | none=>none
  | some (b,q)=>if b < 128 then (if 0 < b ∨ u=1 then some (n+b % 128*u,q) else none) else codeS s j q (n+b % 128*u) (u*128)
def codeB (s:ByteArray) (p:Nat):Option (Nat × Nat):=codeS s 3 p 0 1
set_option maxHeartbeats 4000000 in
theorem zjn {a:Nat} {s:ByteArray} {p:Nat} {M:Mem} (ha:At M a (rdr s p)) (hs:s.size<=1000000000000000):CallB Tryz.prog 172 [.ptr (some (a,0))] M (RdQ encI a s (codeB s p) M) (RdN a s (codeB s p) M):=by
 refine z0w k172 rfl ?_
 dsimp only [x172,zipE,Nat.reduceAdd]
 (repeat' (first|(with_reducible intro _)|refine svb ?_|(refine sc ?_ ?_<;>(intro h;try first|exact h.elim|exact absurd rfl h|(exfalso;omega)))|(refine sgb ?_ ?_<;>(intro h;(fail_if_success (have:True:=h));try first|exact h.elim|exact absurd rfl h|(exfalso;omega)))|assumption|exact xm|exact rfl))
 refine zg (fun z E ms M1=>∃ j q n u,z=j /\ 1<=j /\ j<=3 /\ ms=[] /\ (u:Nat)=128 ^ (3 - j) /\ n < u /\ codeB s p=codeS s j q n u /\ Keep (fun i=>i=a) M M1 /\ At M1 a (rdr s q) /\ Has E [(0,.ptr (some (a,0))),(3,I (n:Nat)),(4,I u)])
  ?_ 3 _ _ _ ⟨3,p,0,1,rfl,by omega,by omega,rfl,rfl,by omega,rfl,Keep.refl _ _,ha,.cons rfl (.cons rfl (.cons rfl .nil))⟩
 rintro z E ms M1 ⟨j,q,n,u,rfl,h1,h3,rfl,hu,hn,hc,hk,ha1,hE⟩
 refine z2v hE ?_
 obtain ⟨j,rfl⟩:∃ i,z=i+1:=⟨z - 1,by omega⟩
 have hu3:j=2 /\ u=1 ∨ j=1 /\ u=128 ∨ j=0 /\ u=16384:=by
  have:j=0 ∨ j=1 ∨ j=2:=by omega
  rcases this with rfl|rfl|rfl<;>simp at hu<;>omega
 unfold codeS at hc
 (repeat' (first|(with_reducible intro _)|refine svb ?_|(refine sc ?_ ?_<;>(intro h;try first|exact h.elim|exact absurd rfl h|(exfalso;omega)))|(refine sgb ?_ ?_<;>(intro h;(fail_if_success (have:True:=h));try first|exact h.elim|exact absurd rfl h|(exfalso;omega)))|assumption|exact xm|exact rfl))
 refine x_rd gd rfl rfl (z8e ha1 hs) ?_ ?_
 ·intro g1 M2 g2 g3 q2 g4
  refine ⟨?_,rfl,hk.trans g2 (fun i hi=>.inl hi),q2,g4⟩
  rw [hc,g1]
 intro b q2 g1 M2 g2 g3 g4
 have hb:=z0h g1
 rw [g1] at hc
 simp only at hc
 have hbu:(b % 128*u:Nat)<=127*u:=Nat.mul_le_mul_right _ (by omega)
 have e1:((b:Int) % 128)=((b % 128:Nat):Int):=by omega
 have e2:((b:Int) % 128)*(u:Int)=((b % 128*u:Nat):Int):=by rw [e1];push_cast;rfl
 have hk2:Keep (fun i=>i=a) M M2:=hk.trans g2 (fun i hi=>.inl hi)
 clear hk g2 g3 ha1 ha
 (repeat' (first|(with_reducible intro _)|refine svb ?_|(refine sc ?_ ?_<;>(intro h;try first|exact h.elim|exact absurd rfl h|(exfalso;omega)))|((with_reducible first|apply x_mu|apply b_mu);exact gd;exact rfl;exact rfl;(first|exact z52 _ _);infer_instance)|(refine sgb ?_ ?_<;>(intro h;(fail_if_success (have:True:=h));try first|exact h.elim|exact absurd rfl h|(exfalso;omega)))|assumption|exact xm|exact rfl))
 all_goals first
  |(exfalso;assumption)
  |(refine ⟨?_,rfl,hk2,q2,g4⟩;rw [hc,if_pos (by omega),if_neg (by omega)])
  |(refine ⟨?_,rfl,hk2,q2,g4⟩;rw [hc,if_neg (by omega)];obtain rfl:j=0:=(by omega);rfl)
  |(((with_reducible first|apply zc|apply z6);exact rx);refine ⟨n+b % 128*u,q2,?_,?_,hk2,g4⟩
    ·rw [hc,if_pos (by omega),if_pos (by omega)]
    ·show I _=I _
     rw [e2];rfl)
  |(refine zw j (by omega) ⟨j,q2,n+b % 128*u,u*128,rfl,by omega,by omega,rfl,?_,?_,?_,hk2,g4,.cons rfl (.cons ?_ (.cons ?_ .nil))⟩
    ·rw [hu,<- Nat.pow_succ];congr 1;omega
    ·have:=Nat.mul_le_mul_right u (show b % 128<=127 by omega);omega
    ·rw [hc,if_neg (by omega)]
    ·show some (I _)=some (I _)
     rw [e2];push_cast;rfl
    ·show some (I _)=some (I _)
     push_cast;rfl)
theorem zc5 {s:ByteArray}:∀ (j p n u:Nat) {c q:Nat},n < u->codeS s j p n u=some (c,q)->c < u*128 ^ j
 | 0,p,n,u,c,q,hn,h=>by cases h
 | j+1,p,n,u,c,q,hn,h=>by
  unfold codeS at h
  split at h
  ·cases h
  ·rename_i b p' hb
   have h1:b % 128*u<=127*u:=Nat.mul_le_mul_right _ (by omega)
   split at h
   ·split at h
    ·cases h
     have:u*128<=u*128 ^ (j+1):=Nat.mul_le_mul_left _ (by rw [Nat.pow_succ];exact Nat.le_mul_of_pos_left _ (Nat.pow_pos (by omega)))
     omega
    ·cases h
   ·have:=zc5 j p' _ _ (show n+b % 128*u < u*128 by omega) h
    rwa [Nat.mul_assoc,<- Nat.pow_succ'] at this
theorem zha {s:ByteArray} {p c q:Nat} (h:codeB s p=some (c,q)):c < 2097152:=by
 have:=zc5 3 p 0 1 (by omega) h
 simpa using this
def nxS (last:Int) (c:Nat):Int:=if c % 2=0 then last+((c / 2:Nat) - 1) else last - (c / 2:Nat)
def smpB (s:ByteArray):Nat->Nat->Int->List Int->Option (List Int × Nat)
 | 0,p,_,acc=>some (acc,p)
 | k+1,p,last,acc=>match codeB s p with
  | none=>none
  | some (c,q)=>if c=0 then smpB s k q last (acc ++ [40000]) else if c=1 then smpB s k q last (acc ++ [40001]) else if knB (nxS last c) then smpB s k q (nxS last c) (acc ++ [nxS last c]) else none
def SmQ (a:Nat) (s:ByteArray) (r:Option (List Int × Nat)) (M:Mem) (w:LV) (M':Mem):Prop:=∃ l q,r=some (l,q) /\ Vec M.next 1 3 intc M' w l /\ Keep (fun i=>i=a) M M' /\ At M' a (rdr s q)
set_option maxHeartbeats 4000000 in
theorem zdk {a:Nat} {s:ByteArray} {p:Nat} {M:Mem} {n:Nat} (ha:At M a (rdr s p)) (hs:s.size<=1000000000000000) (hn:n<=1000000) :
  CallB Tryz.prog 149 [.ptr (some (a,0)),I n] M (SmQ a s (smpB s n p 0 []) M) (RdN a s (smpB s n p 0 []) M):=by
 refine z0w k149 rfl ?_
 dsimp only [x149,zipE,Nat.reduceAdd]
 have haM:a < M.next:=ha.2
 (repeat' (first|(with_reducible intro _)|refine svb ?_|(refine sc ?_ ?_<;>(intro h;try first|exact h.elim|exact absurd rfl h|(exfalso;omega)))|(refine sgb ?_ ?_<;>(intro h;(fail_if_success (have:True:=h));try first|exact h.elim|exact absurd rfl h|(exfalso;omega)))|assumption|exact xm|exact rfl))
 refine zg (fun z E ms M1=>∃ (i q:Nat) (acc:List Int) (last:Int) (v:LV),z=n - i /\ i<=n /\ ms=[] /\ Has E [(0,.ptr (some (a,0))),(5,v),(6,I last),(8,I n),(9,I i)] /\ acc.length=i /\ (-32767<=last /\ last<=32767) /\
   smpB s n p 0 []=smpB s (n - i) q last acc /\ Vec M.next 1 3 intc M1 v acc /\ Keep (fun i=>i=a) M M1 /\ M.next<=M1.next /\ At M1 a (rdr s q))
  ?_ n _ _ _ ⟨0,p,[],0,_,by omega,by omega,rfl,.cons rfl (.cons rfl (.cons rfl (.cons rfl (.cons rfl .nil)))),rfl,by omega,rfl,Vec.nil,Keep.refl _ _,Nat.le_refl _,ha⟩
 rintro z E ms M1 ⟨i,q,acc,last,v,rfl,hi,rfl,hE,hacc,hl,hc,hv,hk,hle,ha1⟩
 refine z2v hE ?_
 by_cases hlast:i=n
 ·subst hlast
  rw [Nat.sub_self] at hc
  (repeat' (first|(with_reducible intro _)|refine svb ?_|(refine sc ?_ ?_<;>(intro h;try first|exact h.elim|exact absurd rfl h|(exfalso;omega)))|(refine sgb ?_ ?_<;>(intro h;(fail_if_success (have:True:=h));try first|exact h.elim|exact absurd rfl h|(exfalso;omega)))|assumption|exact xm|exact rfl))
  ((with_reducible first|apply zc|apply z6);exact rx)
  exact ⟨acc,q,hc,hv,hk,ha1⟩
 have hlt:i < n:=by omega
 obtain ⟨k,hkn⟩:∃ k,n - i=k+1:=⟨n - i - 1,by omega⟩
 rw [hkn,show smpB s (k+1) q last acc=(match codeB s q with
  | none=>none
  | some (c,q)=>if c=0 then smpB s k q last (acc ++ [40000]) else if c=1 then smpB s k q last (acc ++ [40001]) else if knB (nxS last c) then smpB s k q (nxS last c) (acc ++ [nxS last c]) else none) from rfl] at hc
 have hkk:n - (i+1)=k:=by omega
 (repeat' (first|(with_reducible intro _)|refine svb ?_|(refine sc ?_ ?_<;>(intro h;try first|exact h.elim|exact absurd rfl h|(exfalso;omega)))|(refine sgb ?_ ?_<;>(intro h;(fail_if_success (have:True:=h));try first|exact h.elim|exact absurd rfl h|(exfalso;omega)))|assumption|exact xm|exact rfl))
 refine x_rd gd rfl rfl (zjn ha1 hs) ?_ ?_
 ·intro g1 M2 g2 g3 q2 g4
  refine ⟨?_,rfl,hk.trans g2 (fun i hi=>.inl hi),q2,g4⟩
  rw [hc,g1]
 intro c q2 g1 M2 g2 g3 g4
 have hcl:=zha g1
 rw [g1] at hc
 simp only at hc
 have hk2:Keep (fun i=>i=a) M M2:=hk.trans g2 (fun i hi=>.inl hi)
 have hv2:Vec M.next 1 3 intc M2 v acc:=hv.keep g2 (fun i hi=>by subst hi;exact haM)
 have hle2:M.next<=M2.next:=by omega
 clear hk g2 ha1 ha hv
 have hn1:∀ {x:Int},knB x=true->-32767<=x /\ x<=32767:=fun h=>by unfold knB at h;exact of_decide_eq_true h
 (repeat' (first|(with_reducible intro _)|refine svb ?_|(refine sc ?_ ?_<;>(intro h;try first|exact h.elim|exact absurd rfl h|(exfalso;omega)))|((with_reducible first|apply zn|apply z9g);exact gd;exact rfl;exact rfl;(first|exact z5y _ _))|((with_reducible first|apply x_mu|apply b_mu);exact gd;exact rfl;exact rfl;(first|exact z52 _ _);infer_instance)|(refine sgb ?_ ?_<;>(intro h;(fail_if_success (have:True:=h));try first|exact h.elim|exact absurd rfl h|(exfalso;omega)))|assumption|exact xm|exact rfl))
 ·rename_i m M3 hnw e1 e2
  have hv3:=hv2.grow hnw.grow
  refine z4h (by exact gd) (l':=[40000]) hv3 rfl rfl rfl (by simp) (by rw [hacc,List.length_singleton];omega) rfl (z47 hnw) (fun _=>rfl) (fun _=>rfl) (by omega) ?_
  intro v' M4 hv4 e4 hk4
  (repeat' (first|(with_reducible intro _)|refine svb ?_|(refine sc ?_ ?_<;>(intro h;try first|exact h.elim|exact absurd rfl h|(exfalso;omega)))|(refine sgb ?_ ?_<;>(intro h;(fail_if_success (have:True:=h));try first|exact h.elim|exact absurd rfl h|(exfalso;omega)))|assumption|exact xm|exact rfl))
  refine zw (n - (i+1)) (by omega) ⟨i+1,q2,acc ++ [40000],last,v',rfl,by omega,rfl,.cons rfl (.cons rfl (.cons rfl (.cons rfl (.cons rfl .nil)))),by simp [hacc],hl,?_,hv4,(hk2.new hnw).trans hk4 (fun i hi=>.inr hi.1),by omega,hk4.at (g4.grow hnw.grow) (fun hi=>by have:=hi.1;omega)⟩
  rw [hkk,hc,if_pos (by omega)]
 ·rename_i m M3 hnw e1 e2
  have hv3:=hv2.grow hnw.grow
  refine z4h (by exact gd) (l':=[40001]) hv3 rfl rfl rfl (by simp) (by rw [hacc,List.length_singleton];omega) rfl (z47 hnw) (fun _=>rfl) (fun _=>rfl) (by omega) ?_
  intro v' M4 hv4 e4 hk4
  (repeat' (first|(with_reducible intro _)|refine svb ?_|(refine sc ?_ ?_<;>(intro h;try first|exact h.elim|exact absurd rfl h|(exfalso;omega)))|(refine sgb ?_ ?_<;>(intro h;(fail_if_success (have:True:=h));try first|exact h.elim|exact absurd rfl h|(exfalso;omega)))|assumption|exact xm|exact rfl))
  refine zw (n - (i+1)) (by omega) ⟨i+1,q2,acc ++ [40001],last,v',rfl,by omega,rfl,.cons rfl (.cons rfl (.cons rfl (.cons rfl (.cons rfl .nil)))),by simp [hacc],hl,?_,hv4,(hk2.new hnw).trans hk4 (fun i hi=>.inr hi.1),by omega,hk4.at (g4.grow hnw.grow) (fun hi=>by have:=hi.1;omega)⟩
  rw [hkk,hc,if_neg (by omega),if_pos (by omega)]
 ·rename_i hF
  have hx:nxS last c=last+(((c:Nat):Int) / 2 - 1):=by unfold nxS;rw [if_pos (by omega)];omega
  refine ⟨?_,rfl,hk2,q2,g4⟩
  rw [hc,if_neg (by omega),if_neg (by omega),hx,if_neg (by rw [hF];decide)]
 ·rename_i hkn2 m M3 hnw e1 e2
  have hx:nxS last c=last+(((c:Nat):Int) / 2 - 1):=by unfold nxS;rw [if_pos (by omega)];omega
  have hv3:=hv2.grow hnw.grow
  refine z4h (by exact gd) (l':=[last+(((c:Nat):Int) / 2 - 1)]) hv3 rfl rfl rfl (by simp) (by rw [hacc,List.length_singleton];omega) rfl (z47 hnw) (fun _=>rfl) (fun _=>rfl) (by omega) ?_
  intro v' M4 hv4 e4 hk4
  (repeat' (first|(with_reducible intro _)|refine svb ?_|(refine sc ?_ ?_<;>(intro h;try first|exact h.elim|exact absurd rfl h|(exfalso;omega)))|(refine sgb ?_ ?_<;>(intro h;(fail_if_success (have:True:=h));try first|exact h.elim|exact absurd rfl h|(exfalso;omega)))|assumption|exact xm|exact rfl))
  refine zw (n - (i+1)) (by omega) ⟨i+1,q2,acc ++ [last+(((c:Nat):Int) / 2 - 1)],last+(((c:Nat):Int) / 2 - 1),v',rfl,by omega,rfl,.cons rfl (.cons rfl (.cons rfl (.cons rfl (.cons rfl .nil)))),by simp [hacc],hn1 hkn2,?_,hv4,(hk2.new hnw).trans hk4 (fun i hi=>.inr hi.1),by omega,hk4.at (g4.grow hnw.grow) (fun hi=>by have:=hi.1;omega)⟩
  rw [hkk,hc,if_neg (by omega),if_neg (by omega),hx,if_pos hkn2]
 ·rename_i hF
  have hx:nxS last c=last - ((c:Nat):Int) / 2:=by unfold nxS;rw [if_neg (by omega)];omega
  refine ⟨?_,rfl,hk2,q2,g4⟩
  rw [hc,if_neg (by omega),if_neg (by omega),hx,if_neg (by rw [hF];decide)]
 ·rename_i hkn2 m M3 hnw e1 e2
  have hx:nxS last c=last - ((c:Nat):Int) / 2:=by unfold nxS;rw [if_neg (by omega)];omega
  have hv3:=hv2.grow hnw.grow
  refine z4h (by exact gd) (l':=[last - ((c:Nat):Int) / 2]) hv3 rfl rfl rfl (by simp) (by rw [hacc,List.length_singleton];omega) rfl (z47 hnw) (fun _=>rfl) (fun _=>rfl) (by omega) ?_
  intro v' M4 hv4 e4 hk4
  (repeat' (first|(with_reducible intro _)|refine svb ?_|(refine sc ?_ ?_<;>(intro h;try first|exact h.elim|exact absurd rfl h|(exfalso;omega)))|(refine sgb ?_ ?_<;>(intro h;(fail_if_success (have:True:=h));try first|exact h.elim|exact absurd rfl h|(exfalso;omega)))|assumption|exact xm|exact rfl))
  refine zw (n - (i+1)) (by omega) ⟨i+1,q2,acc ++ [last - ((c:Nat):Int) / 2],last - ((c:Nat):Int) / 2,v',rfl,by omega,rfl,.cons rfl (.cons rfl (.cons rfl (.cons rfl (.cons rfl .nil)))),by simp [hacc],hn1 hkn2,?_,hv4,(hk2.new hnw).trans hk4 (fun i hi=>.inr hi.1),by omega,hk4.at (g4.grow hnw.grow) (fun hi=>by have:=hi.1;omega)⟩
  rw [hkk,hc,if_neg (by omega),if_neg (by omega),hx,if_pos hkn2]
abbrev encU (_:Unit):LV:=.tup []
def crcX (s:ByteArray) (f p:Nat):Int:=crcK (s.extract f p) (s.extract f p).size
def chkB (s:ByteArray) (f p:Nat):Option (Unit × Nat):=match twoB s p with
 | none=>none
 | some (n,q)=>if (n:Int)=crcX s f p then some ((),q) else none
theorem zl1 {E:Env} {M:Mem} {x lo hi:XO} {s:ByteArray} {f p:Nat} (hx:xval E x=some (.str s)) (hlo:xval E lo=some (I f)) (hhi:xval E hi=some (I p)) (h1:f<=p) (h2:p<=s.size):xstep Tryz.prog (.slS x (some lo) (some hi) none) E M=some (.val (.str (s.extract f p)) M):=by
 show ob (xval E x) _=_
 rw [hx,z0]
 have e1:xvalo E (some lo)=some (some (I f)):=by show ob (xval E lo) _=_;rw [hlo];rfl
 have e2:xvalo E (some hi)=some (some (I p)):=by show ob (xval E hi) _=_;rw [hhi];rfl
 rw [e1,z0,e2,z0]
 show guard' true (guard' (Nat.ble p s.size) (guard' (Nat.ble f p) (some (R1.val (LV.str (s.extract f p)) M))))=_
 rw [Nat.ble_eq_true_of_le h2,Nat.ble_eq_true_of_le h1];rfl
theorem zil {a:Nat} {s:ByteArray} {f p:Nat} {M:Mem} (ha:At M a (rdr s p)) (hs:s.size<=140737488355328) (hfp:f<=p) (hp:p<=s.size) :
  CallB Tryz.prog 122 [.ptr (some (a,0)),I f] M (RdQ encU a s (chkB s f p) M) (RdN a s (chkB s f p) M):=by
 refine z0w k122 rfl ?_
 dsimp only [x122,zipE,Nat.reduceAdd]
 have hx:(s.extract f p).size<=140737488355328:=by rw [ByteArray.size_extract];omega
 (repeat' (first|(with_reducible intro _)|refine svb ?_|(refine sc ?_ ?_<;>(intro h;try first|exact h.elim|exact absurd rfl h|(exfalso;omega)))|((with_reducible first|apply zn|apply z9g);exact gd;exact rfl;exact rfl;(first|exact zh4 _ hx _))|(refine sgb ?_ ?_<;>(intro h;(fail_if_success (have:True:=h));try first|exact h.elim|exact absurd rfl h|(exfalso;omega)))|assumption|exact xm|exact rfl))
 refine zjj gd (zl1 (f:=f) (p:=p) rfl rfl rfl hfp hp) ?_
 (repeat' (first|(with_reducible intro _)|refine svb ?_|(refine sc ?_ ?_<;>(intro h;try first|exact h.elim|exact absurd rfl h|(exfalso;omega)))|((with_reducible first|apply zn|apply z9g);exact gd;exact rfl;exact rfl;(first|exact zh4 _ hx _))|(refine sgb ?_ ?_<;>(intro h;(fail_if_success (have:True:=h));try first|exact h.elim|exact absurd rfl h|(exfalso;omega)))|assumption|exact xm|exact rfl))
 refine x_rd gd rfl rfl (zeq ha (by omega)) ?_ ?_
 ·intro g1 M2 g2 g3 q2 g4
  refine ⟨?_,rfl,g2,q2,g4⟩
  unfold chkB;rw [g1]
 intro n q2 g1 M2 g2 g3 g4
 have hb:=z37 (s.extract f p) (s.extract f p).size
 (repeat' (first|(with_reducible intro _)|refine svb ?_|(refine sc ?_ ?_<;>(intro h;try first|exact h.elim|exact absurd rfl h|(exfalso;omega)))|((with_reducible first|apply x_mu|apply b_mu);exact gd;exact rfl;exact rfl;(first|exact z52 _ _);infer_instance)|(refine sgb ?_ ?_<;>(intro h;(fail_if_success (have:True:=h));try first|exact h.elim|exact absurd rfl h|(exfalso;omega)))|assumption|exact xm|exact rfl))
 ·rename_i hF
  refine ⟨?_,rfl,g2,q2,g4⟩
  unfold chkB;rw [g1];exact if_neg hF
 ·rename_i hT
  ((with_reducible first|apply zc|apply z6);exact rx)
  exact ⟨(),q2,by unfold chkB;rw [g1];exact if_pos hT,rfl,g2,g4⟩
def FrD (s:ByteArray) (p:Nat):Option (Fr × Nat):=match twoB s p with
 | none=>none
 | some (m,p1)=>match twoB s p1 with
  | none=>none
  | some (sh,p2)=>match oneB s p2 with
   | none=>none
   | some (ch,p3)=>match oneB s p3 with
    | none=>none
    | some (n,p4)=>if m=42330 /\ 1<=n /\ n<=64 then (match smpB s n p4 0 [] with
     | none=>none
     | some (l,p5)=>if frB ((sh:Int),(ch:Int),l) then (match chkB s p p5 with
      | none=>none
      | some (_,p6)=>some (((sh:Int),(ch:Int),l),p6)) else none) else none
def FrQ (a:Nat) (s:ByteArray) (r:Option (Fr × Nat)) (M:Mem) (w:LV) (M':Mem):Prop:=∃ x q,r=some (x,q) /\ (∃ v,w=.agg [I x.1,I x.2.1,v] /\ Vec M.next 1 3 intc M' v x.2.2) /\ Keep (fun i=>i=a) M M' /\ At M' a (rdr s q)
theorem z1w {s:ByteArray} {p b q:Nat} (h:oneB s p=some (b,q)):p < q /\ q<=s.size:=by
 obtain ⟨h1,_,h2⟩:=z6q h
 omega
theorem z2i {s:ByteArray} {p b q:Nat} (h:twoB s p=some (b,q)):p < q /\ q<=s.size /\ b < 65536:=by
 unfold twoB at h
 split at h
 ·cases h
 ·rename_i c p1 h1
  split at h
  ·cases h
  ·rename_i d p2 h2
   cases h
   have:=z1w h1
   have:=z1w h2
   have:=z0h h1
   have:=z0h h2
   omega
theorem zc4 {s:ByteArray}:∀ (j p n u:Nat) {c q:Nat},codeS s j p n u=some (c,q)->p < q /\ q<=s.size
 | 0,p,n,u,c,q,h=>by cases h
 | j+1,p,n,u,c,q,h=>by
  unfold codeS at h
  split at h
  ·cases h
  ·rename_i b p' hb
   have h1:=z1w hb
   split at h
   ·split at h
    ·cases h;exact h1
    ·cases h
   ·have:=zc4 j p' _ _ h
    omega
theorem z6z {s:ByteArray}:∀ (n p:Nat) (last:Int) (acc:List Int) {l:List Int} {q:Nat},p<=s.size->smpB s n p last acc=some (l,q)->p<=q /\ q<=s.size /\ l.length=acc.length+n
 | 0,p,last,acc,l,q,hp,h=>by cases h;exact ⟨Nat.le_refl _,hp,rfl⟩
 | n+1,p,last,acc,l,q,hp,h=>by
  unfold smpB at h
  split at h
  ·cases h
  ·rename_i c p' hc
   have h1:=zc4 _ _ _ _ hc
   split at h
   ·have:=z6z n p' _ _ h1.2 h
    rw [List.length_append] at this;simp at this;omega
   ·split at h
    ·have:=z6z n p' _ _ h1.2 h
     rw [List.length_append] at this;simp at this;omega
    ·split at h
     ·have:=z6z n p' _ _ h1.2 h
      rw [List.length_append] at this;simp at this;omega
     ·cases h
theorem Vec.low {α:Type} {b b' sz:Nat} {ty:TypeId} {enc:α->List LV} {M:Mem} {v:LV} {l:List α} (h:Vec b sz ty enc M v l) (hb:b'<=b):Vec b' sz ty enc M v l:=h.imp id fun ⟨i,h1,h2,h3⟩=>⟨i,h1,h2,Nat.le_trans hb h3⟩
theorem Keep.wide {F:Nat->Prop} {M M':Mem} {n:Nat} (h:Keep F M M') (hn:M'.next<=n):Keep F M ⟨n,M'.tr⟩:=⟨Nat.le_trans h.le hn,fun i hi hf=>h.old i hi hf⟩
theorem At.wide {M:Mem} {n i:Nat} {lb:LB} (h:At M i lb) (hn:M.next<=n):At ⟨n,M.tr⟩ i lb:=⟨h.1,Nat.lt_of_lt_of_le h.2 hn⟩
theorem z5o {s:ByteArray}:∀ (n p:Nat) (last:Int) (acc:List Int) {l:List Int} {q:Nat},(∀ x ∈ acc,smB x=true)->smpB s n p last acc=some (l,q)->∀ x ∈ l,smB x=true
 | 0,p,last,acc,l,q,ha,h=>by cases h;exact ha
 | n+1,p,last,acc,l,q,ha,h=>by
  have hx:∀ y,smB y=true->∀ x ∈ acc ++ [y],smB x=true:=fun y hy x hx=>by
   rcases List.mem_append.1 hx with hx|hx
   ·exact ha x hx
   ·rw [List.mem_singleton.1 hx];exact hy
  unfold smpB at h
  split at h
  ·cases h
  ·split at h
   ·exact z5o n _ _ _ (hx _ rfl) h
   ·split at h
    ·exact z5o n _ _ _ (hx _ rfl) h
    ·split at h
     ·rename_i hk
      exact z5o n _ _ _ (hx _ (by unfold smB;rw [hk];rfl)) h
     ·cases h
theorem zgb {x:Int} (h:smB x=true):I64 x:=by
 unfold smB knB at h
 simp only [Bool.or_eq_true,decide_eq_true_eq] at h
 unfold I64
 omega
set_option maxHeartbeats 8000000 in
theorem zh6 {a:Nat} {s:ByteArray} {p:Nat} {M:Mem} (ha:At M a (rdr s p)) (hs:s.size<=140737488355328) (hp:p<=s.size) :
  CallB Tryz.prog 123 [.ptr (some (a,0))] M (FrQ a s (FrD s p) M) (RdN a s (FrD s p) M):=by
 refine z0w k123 rfl ?_
 dsimp only [x123,zipE,Nat.reduceAdd]
 have haM:a < M.next:=ha.2
 (repeat' (first|(with_reducible intro _)|refine svb ?_|refine su ?_|(refine sc ?_ ?_<;>(intro h;try first|exact h.elim|exact absurd rfl h|(exfalso;omega)))|(refine sgb ?_ ?_<;>(intro h;(fail_if_success (have:True:=h));try first|exact h.elim|exact absurd rfl h|(exfalso;omega)))|assumption|exact xm|exact rfl))
 refine x_rd gd rfl rfl (zeq (p:=p) (xm) (by omega)) ?_ ?_
 ·intro g1 M2 g2 g3 q2 g4
  refine ⟨?_,rfl,xk,q2,g4⟩
  unfold FrD;rw [g1]
 intro m p1 r1 N1 k1 l1 a1
 (repeat' (first|(with_reducible intro _)|refine svb ?_|refine su ?_|(refine sc ?_ ?_<;>(intro h;try first|exact h.elim|exact absurd rfl h|(exfalso;omega)))|(refine sgb ?_ ?_<;>(intro h;(fail_if_success (have:True:=h));try first|exact h.elim|exact absurd rfl h|(exfalso;omega)))|assumption|exact xm|exact rfl))
 refine x_rd gd rfl rfl (zeq (p:=p1) (xm) (by omega)) ?_ ?_
 ·intro g1 M2 g2 g3 q2 g4
  refine ⟨?_,rfl,xk,q2,g4⟩
  unfold FrD;rw [r1];simp only;rw [g1]
 intro sh p2 r2 N2 k2 l2 a2
 (repeat' (first|(with_reducible intro _)|refine svb ?_|refine su ?_|(refine sc ?_ ?_<;>(intro h;try first|exact h.elim|exact absurd rfl h|(exfalso;omega)))|(refine sgb ?_ ?_<;>(intro h;(fail_if_success (have:True:=h));try first|exact h.elim|exact absurd rfl h|(exfalso;omega)))|assumption|exact xm|exact rfl))
 refine x_rd gd rfl rfl (z8e (p:=p2) (xm) (by omega)) ?_ ?_
 ·intro g1 M2 g2 g3 q2 g4
  refine ⟨?_,rfl,xk,q2,g4⟩
  unfold FrD;rw [r1];simp only;rw [r2];simp only;rw [g1]
 intro ch p3 r3 N3 k3 l3 a3
 (repeat' (first|(with_reducible intro _)|refine svb ?_|refine su ?_|(refine sc ?_ ?_<;>(intro h;try first|exact h.elim|exact absurd rfl h|(exfalso;omega)))|(refine sgb ?_ ?_<;>(intro h;(fail_if_success (have:True:=h));try first|exact h.elim|exact absurd rfl h|(exfalso;omega)))|assumption|exact xm|exact rfl))
 refine x_rd gd rfl rfl (z8e (p:=p3) (xm) (by omega)) ?_ ?_
 ·intro g1 M2 g2 g3 q2 g4
  refine ⟨?_,rfl,xk,q2,g4⟩
  unfold FrD;rw [r1];simp only;rw [r2];simp only;rw [r3];simp only;rw [g1]
 intro n p4 r4 N4 k4 l4 a4
 (repeat' (first|(with_reducible intro _)|refine svb ?_|refine su ?_|(refine sc ?_ ?_<;>(intro h;try first|exact h.elim|exact absurd rfl h|(exfalso;omega)))|((with_reducible first|apply zn|apply z9g);exact gd;exact rfl;exact rfl;(first|exact z8f _ _ _ _))|((with_reducible first|apply x_mu|apply b_mu);exact gd;exact rfl;exact rfl;(first|exact z52 _ _);infer_instance)|(refine sgb ?_ ?_<;>(intro h;(fail_if_success (have:True:=h));try first|exact h.elim|exact absurd rfl h|(exfalso;omega)))|assumption|exact xm|exact rfl))
 ·rename_i B
  refine ⟨?_,rfl,xk,p4,xm⟩
  unfold FrD;rw [r1];simp only;rw [r2];simp only;rw [r3];simp only;rw [r4];simp only
  rw [if_neg fun h=>?_]
  unfold btB at B
  have:=of_decide_eq_false B
  omega
 ·rename_i n1 M5 A17 A16 A15 n2 M4 A14 A13 A12 q4 M3 A11 A10 A9 q3 M2 A8 A7 A6 q2 M1 A5 A4 A3 q1 M0 A2 A1 A0 q0 B
  have hbt:1<=n /\ n<=64:=by unfold btB at B;have:=of_decide_eq_true B;omega
  have hR:At M0 a (rdr s p4):=xm
  have hc1:At M0 n1 (.cells true [I 0,I 0,.slice none 0 true 0] 48):=xm
  have hK:Keep (fun i=>i=a) M M0:=xk
  have hm:M.next<=M0.next:=hK.le
  have hn1:M.next<=n1:=by omega
  have hn2:n1 < n2:=by omega
  have hF:FrD s p=(match smpB s n p4 0 [] with
     | none=>none
     | some (l,p5)=>if frB ((sh:Int),(ch:Int),l) then (match chkB s p p5 with
      | none=>none
      | some (_,p6)=>some (((sh:Int),(ch:Int),l),p6)) else none):=by
   unfold FrD;rw [r1];simp only;rw [r2];simp only;rw [r3];simp only;rw [r4];simp only
   rw [if_pos ⟨by omega,hbt⟩]
  clear A17 A16 A15 A14 A13 A12 q4 A11 A10 A9 q3 A8 A7 A6 q2 A5 A4 A3 q1 A2 A1 q0 k1 k2 k3 k4 l1 l2 l3 l4 a1 a2 a3 a4 ha
  refine z5p gd rfl rfl (zdk hR (by omega) (by omega)) ?_ ?_
  ·rintro v M' ⟨e1,rfl,e3,pp,e4⟩
   have hg:Grow M0 ⟨M'.next,M0.tr⟩:=⟨e3.le,fun _ _=>rfl⟩
   (repeat' (first|(with_reducible intro _)|refine svb ?_|(refine sc ?_ ?_<;>(intro h;try first|exact h.elim|exact absurd rfl h|(exfalso;omega)))|(refine sgb ?_ ?_<;>(intro h;(fail_if_success (have:True:=h));try first|exact h.elim|exact absurd rfl h|(exfalso;omega)))|assumption|exact xm|exact rfl))
   rename_i m5 M6 hnw x1 x2
   have hle:M'.next<=M6.next:=by rw [x2];exact Nat.le_succ _
   exact ⟨by rw [hF,e1],rfl,Keep.wide (hK.trans e3 (fun i hi=>.inl hi)) hle,pp,At.wide e4 hle⟩
  ·rintro w M' ⟨l,p5,e1,hv,e3,e4⟩
   rw [e1] at hF
   simp only at hF
   have hm':M0.next<=M'.next:=e3.le
   obtain ⟨aa,ff,ee,rfl,hsl⟩:=SlI.vec hv
   have hc2':=e3.at A0 (fun h=>by omega)
   have hc1':=e3.at hc1 (fun h=>by omega)
   have hK':Keep (fun i=>i=a) M M':=hK.trans e3 (fun i hi=>.inl hi)
   refine zkq ?_
   (repeat' (first|(with_reducible intro _)|refine sv ?_|(refine sc ?_ ?_<;>(intro h;try first|exact h.elim|exact absurd rfl h|(exfalso;omega)))|(refine sg ?_ ?_<;>(intro h;(fail_if_success (have:True:=h));try first|exact h.elim|exact absurd rfl h|(exfalso;omega)))|assumption|exact xm|exact rfl))
   rename_i n3 M6 B1 B2 B3 M7 B4 B5 B6
   have hn13:n1 < M'.next:=hc1'.2
   have hfr:FrV M7 (.agg [I sh,I ch,.slice aa l.length ff ee]) ((sh:Int),(ch:Int),l):=⟨aa,ff,ee,rfl,hsl.grow (xg)⟩
   have hb1:=z2i r1
   have hb2:=z2i r2
   have hb3:=z0h r3
   have hb4:=z1w r3
   have hb5:=z1w r4
   have hb6:=z6z n p4 0 [] hb5.2 e1
   have hin:FrIn ((sh:Int),(ch:Int),l):=⟨(show I64 (sh:Int) from by unfold I64;omega),(show I64 (ch:Int) from by unfold I64;omega),by have:=hb6.2.2;simp at this;show l.length<=_;omega,fun x hx=>zgb (z5o n p4 0 [] (fun _ h=>by cases h) e1 x hx)⟩
   have hK7:Keep (fun i=>i=a) M M7:=xk
   have hR7:At M7 a (rdr s p5):=xm
   have hc17:At M7 n1 (.cells true [I 0,I 0,.slice none 0 true 0] 48):=xm
   have hlt1:n1 < M7.next:=by omega
   have hm7:M.next<=M7.next:=hK7.le
   have hv7:Vec M0.next 1 3 intc M7 (.slice aa l.length ff ee) l:=hv.grow (xg)
   have hn10:n1 < M0.next:=hc1.2
   have hn3a:a < n3:=by omega
   have hn3b:n1 < n3:=by omega
   have hn3c:n3 < M7.next:=B6.2
   clear B1 B2 B4 hc1' hc2' hK' hK hR hc1 A0 e3 e4 hv hsl
   (repeat' (first|(with_reducible intro _)|refine svb ?_|(refine sc ?_ ?_<;>(intro h;try first|exact h.elim|exact absurd rfl h|(exfalso;omega)))|((with_reducible first|apply z36|apply zik);exact gd;exact rfl;exact rfl;(first|exact z51 hfr hin))|((with_reducible first|apply x_mu|apply b_mu);exact gd;exact rfl;exact rfl;(first|exact z52 _ _);infer_instance)|(refine sgb ?_ ?_<;>(intro h;(fail_if_success (have:True:=h));try first|exact h.elim|exact absurd rfl h|(exfalso;omega)))|assumption|exact xm|exact rfl))
   ·rename_i M8 C1 C2 hF2
    refine ⟨?_,rfl,xk,p5,xm⟩
    rw [hF,if_neg]
    intro hh
    unfold errF at hF2
    rw [if_pos hh] at hF2
    exact hF2 rfl
   rename_i M8 C1 C2 hT2
   have hfB:frB ((sh:Int),(ch:Int),l)=true:=by
    by_cases hh:frB ((sh:Int),(ch:Int),l)=true
    ·exact hh
    ·unfold errF at hT2
     rw [if_neg hh] at hT2
     exact absurd hT2 (by decide)
   rw [if_pos hfB] at hF
   refine x_rd gd rfl rfl (zil (f:=p) (p:=p5) (xm) hs (by omega) (by omega)) ?_ ?_
   ·intro g1 M2 g2 g3 q2 g4
    refine ⟨?_,rfl,xk,q2,g4⟩
    rw [hF,g1]
   intro u p6 g1 M9 g2 g3 g4
   rw [g1] at hF
   have hc9:At M9 n1 (.cells true [I 0,I 0,.slice none 0 true 0] 48):=xm
   have hc39:At M9 n3 (.cells true [I sh,I ch,.slice aa l.length ff ee] 48):=xm
   have hv9:Vec M0.next 1 3 intc M9 (.slice aa l.length ff ee) l:=(hv7.grow C1).keep g2 (fun i hi=>by subst hi;omega)
   (repeat' (first|(with_reducible intro _)|refine svb ?_|(refine sc ?_ ?_<;>(intro h;try first|exact h.elim|exact absurd rfl h|(exfalso;omega)))|(refine sgb ?_ ?_<;>(intro h;(fail_if_success (have:True:=h));try first|exact h.elim|exact absurd rfl h|(exfalso;omega)))|assumption|exact xm|exact rfl))
   rename_i M10 D1 D2 D3
   ((with_reducible first|apply zc|apply z6);exact rx)
   have hv10:Vec M0.next 1 3 intc M10 (.slice aa l.length ff ee) l:=(hv9.keep ((Keep.refl (fun i=>i=n1) M9).upd D1 (.inl rfl)) (fun i hi=>by subst hi;exact hn10))
   exact ⟨((sh:Int),(ch:Int),l),p6,hF,⟨_,rfl,Vec.low hv10 hm⟩,xk,xm⟩
 ·refine ⟨?_,rfl,xk,p4,xm⟩
  unfold FrD;rw [r1];simp only;rw [r2];simp only;rw [r3];simp only;rw [r4];simp only
  rw [if_neg fun h=>by omega]
 ·exfalso;assumption
end Go.Proofs.YtbfnnllgdioccaaGreatDoor.C
end
