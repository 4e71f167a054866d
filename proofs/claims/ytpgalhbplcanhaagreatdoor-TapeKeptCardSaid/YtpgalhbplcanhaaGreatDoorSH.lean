/-
 Part of the proof of TapeKept. No condition beyond those in each theorem.
-/
import Derived.Test.YtpgalhbplcanhaaGreatDoorSG
import Derived.Test.YtpgalhbplcanhaaGreatDoorSE
import Derived.Test.YtpgalhbplcanhaaGreatDoorSB
import Derived.Test.YtpgalhbplcanhaaGreatDoorTW
import Derived.Test.YtpgalhbplcanhaaGreatDoorTX
set_option linter.unusedVariables false
set_option linter.unusedSimpArgs false
set_option linter.unusedSectionVars false
section
open Go PvL Go.Proofs
variable {μ:Md}
namespace Go.Proofs.YtpgalhbplcanhaaGreatDoor.C
variable {M M':Mem} {i o r c:Nat} {bs:List Nat} {a:Option (Nat × Nat)}
section
variable {P:Program} [Orc P] {sz:Nat} {E:Env} {M:Mem} {K:Env->Mem->Prop} {l:List XG} {g:Option (Nat × Bool)} {st:List Mem} {n:Nat} {xs:List (Nat × Nat × (Mem->Prop))} {ld:List (XG × XK)} {x y z':XO} {r:Nat} {R:Rk} {k:Ky} {v:LV} {smp:List Int}
end
def RkB (R:Rk):Prop:=∀ k,((lkK R k).getD []).length<=64
theorem RkB.nil:RkB []:=fun k=>Nat.zero_le _
theorem RkB.add {R:Rk}(h:RkB R){f:Fr}(hf:f.2.2.length<=64):RkB (rkA R f):=fun k=>by
 unfold rkA
 rw[zlb]
 split
 ·rw[Option.getD_some,z1x]
  have:=h (fky f)
  omega
 ·exact h k
def FrOk (L:List Fr):Prop:=∀ x∈L,frB x=true
theorem FrOk.k {L:List Fr}(h:FrOk L):∀ x∈L,FrK x:=fun x d=>by have:=zay (h x d);exact⟨this.1,this.2.1,this.2.2.1,this.2.2.2.1⟩
theorem z97 {x:Fr}(h:frB x=true):1<=x.2.2.length/\x.2.2.length<=64:=by
 have:=zrx (x:=x) (by unfold errF;rw[h];rfl)
 omega
theorem zih {α d:Type}{f:d->α->d}{b:d}{L:List α}{k:Nat}(h:k<L.length):(L.take (k+1)).foldl f b=f ((L.take k).foldl f b) L[k]:=by
 rw[List.take_succ_eq_append_getElem h,List.foldl_append];rfl
theorem Rd1.nem {v:LV}{es:List (LV×LV)}(h:Rd1 M i o v)(j:At M r (.map es bs c)):i≠r:=fun e=>by
 subst e
 have d:=h.1
 unfold load1 atCells at d
 rw[j.1] at d
 cases d
theorem Rd.nem {n:Nat}{v:List LV}{es:List (LV×LV)}(h:Rd M i o n v)(j:At M r (.map es bs c)):i≠r:=fun e=>by
 subst e
 have d:=h.1
 unfold loadN atCells at d
 rw[j.1] at d
 cases d
theorem SlI.keepm {es:List (LV×LV)}{l:List Int}(h:SlI M a l)(t:At M r (.map es bs c))(q:Keep (fun i=>i=r) M M'):SlI M' a l :=
 h.imp id fun⟨i,o,m,j⟩=>⟨i,o,m,fun k d=>(j k d).keep q (Rd1.nem (j k d) t)⟩
theorem FsV.keepm {es:List (LV×LV)}{L:List Fr}(h:FsV M a L)(q:At M r (.map es bs c))(m:Keep (fun i=>i=r) M M'):FsV M' a L :=
 h.imp id fun⟨i,o,t,w⟩=>⟨i,o,t,fun k d=>by
  obtain⟨b,g,u,j,z⟩:=w k d
  exact⟨b,g,u,j.keep m (Rd.nem j q),SlI.keepm z q m⟩⟩
end Go.Proofs.YtpgalhbplcanhaaGreatDoor.C
end
section
open Go PvL
namespace Go.Proofs.YtpgalhbplcanhaaGreatDoor.C
theorem zp0:∀ {J d:List Fr},SrtJ J->SrtJ d->(∀ k,lkJ J k=lkJ d k)->J=d:=by
 intro J d t u h
 have e:J.map fky=d.map fky:=zfw t.keys u.keys fun k=>by rw[<-zc6,<- zc6,h]
 have C:J.length=d.length:=by simpa using congrArg List.length e
 refine List.ext_getElem C fun i z m=>?_
 have q:fky J[i]=fky d[i]:=by
  have j:=List.getElem_of_eq e (i:=i) (by simpa using z)
  simpa using j
 have j:=zdy t J[i] (List.getElem_mem z)
 have w:=zdy u d[i] (List.getElem_mem m)
 rw[<-q,<- h,j] at w
 have h5:J[i].2.2=d[i].2.2:=Option.some.inj w
 have A:(fky J[i]).1=(fky d[i]).1:=congrArg Prod.fst q
 have B:(fky J[i]).2=(fky d[i]).2:=congrArg Prod.snd q
 exact Prod.ext A (Prod.ext B h5)
structure GdL (J:List Fr):Prop where
 s:SrtJ J
 b:∀ x ∈ J,frB x=true
theorem zs6{x:Fr}(h:frB x=true):FrK x:=by have:=zay h;exact⟨this.1,this.2.1,this.2.2.1,this.2.2.2.1⟩
theorem GdL.k{J:List Fr}(h:GdL J):∀ x∈J,FrK x:=fun x d=>zs6 (h.b x d)
theorem zuz{J:List Fr}(h:C.rlK J J.length=true):GdL J:=by
 have m:∀ x∈J,frB x=true:=fun x u=>by
  obtain⟨i,d,rfl⟩:=List.mem_iff_getElem.1 u
  have:=zqf h d
  rw[z6j d] at this;exact this
 refine⟨?_,m⟩
 unfold SrtJ
 rw[List.pairwise_iff_getElem]
 intro i j d t q
 have:=zvl h q t
 rw[z6j d,z6j t] at this
 exact(zfh (zs6 (m _ (List.getElem_mem d))) (zs6 (m _ (List.getElem_mem t)))).1 this
theorem zoz{a b:List Int}(d:smsB a=true)(h:smsB b=true):smsB (z1m a b)=true:=by
 unfold smsB btB at *
 simp only[Bool.and_eq_true,decide_eq_true_eq] at *
 rw[z1x]
 exact⟨by omega,zt0 d.2 h.2⟩
theorem zo1{g f:Fr}(j:frB g=true)(hf:frB f=true):frB (g.1,g.2.1,z1m g.2.2 f.2.2)=true:=by
 have d:=zay j
 have h:=zay hf
 unfold frB btB
 simp only[Bool.and_eq_true,decide_eq_true_eq]
 exact⟨⟨d.1,d.2.1⟩,⟨d.2.2.1,d.2.2.2.1⟩,zoz d.2.2.2.2 h.2.2.2.2⟩
theorem zjg{f:Fr}(hf:frB f=true):∀ {J:List Fr},(∀ x∈J,frB x=true)->∀ x∈addR J f,frB x=true
 | [],_=>fun x d=>by
  have d:x∈[f]:=d
  have:x=f:=by simpa using d
  rw[this];exact hf
 | g::l,h=>fun x d=>by
  unfold addR at d
  split at d
  ·rcases List.mem_cons.1 d with rfl|d
   ·exact zo1 (h g (by simp)) hf
   ·exact h x (by simp[d])
  ·split at d
   ·rcases List.mem_cons.1 d with rfl|d
    ·exact hf
    ·exact h x d
   ·rcases List.mem_cons.1 d with rfl|d
    ·exact h x (by simp)
    ·exact zjg hf (fun y j=>h y (by simp[j])) x d
theorem zkr{L:List Fr}:∀ {J:List Fr},(∀ x∈J,frB x=true)->(∀ x∈L,frB x=true)->∀ x∈L.foldl addR J,frB x=true:=by
 induction L with
 | nil=>intro J h _;exact h
 | cons f L m=>intro J h d;exact m (zjg (d f (by simp)) h) fun x j=>d x (by simp[j])
theorem zh5:∀ {J:List Fr} {k:Ky} {l:List Int},lkJ J k=some l->∃ x∈J,fky x=k/\x.2.2=l
 | x::J,k,l,h=>by
  rw[zai] at h
  by_cases d:k=fky x
  ·rw[if_pos d] at h
   exact⟨x,by simp,d.symm,Option.some.inj h⟩
  ·rw[if_neg d] at h
   obtain⟨y,h1,j⟩:=zh5 h
   exact⟨y,by simp[h1],j⟩
def zRl:Rl:=(⟨#[]⟩,[])
theorem err0{x:Rl}(h:zdm x=0):nmB x.1=true/\x.2.length<=128/\GdL x.2:=by
 unfold zdm at h
 cases d:rlB x with
 | false=>rw[d] at h;simp at h
 | true=>
  unfold rlB at d
  simp only[Bool.and_eq_true,decide_eq_true_eq] at d
  exact⟨d.1.1,d.1.2,zuz d.2⟩
end Go.Proofs.YtpgalhbplcanhaaGreatDoor.C
end
section
open Go PvL Go.Proofs
variable {μ:Md}
namespace Go.Proofs.YtpgalhbplcanhaaGreatDoor.C
variable {M M':Mem} {r i o n k e:Nat} {v:LV} {own f:Bool} {s:ByteArray} {p a:Option (Nat × Nat)} {ty:TypeId} {l:List Int}
theorem zxs {x:Rl}(h:zdm x=0):FrOk x.2/\x.2.length<=128/\nmB x.1=true/\rlK x.2 x.2.length=true:=by
 unfold zdm at h
 cases d:rlB x with
 | false=>rw[d] at h;simp at h
 | true=>
  unfold rlB at d
  simp only[Bool.and_eq_true,decide_eq_true_eq] at d
  refine⟨fun f m=>?_,d.1.2,d.1.1,d.2⟩
  obtain⟨i,j,rfl⟩:=List.mem_iff_getElem.1 m
  have:=zqf d.2 j
  rw[z6j j] at this;exact this
theorem z88 (M:Mem):RlV M (.agg [.str ⟨#[]⟩,.slice none 0 true 0]) zRl:=⟨none,true,0,rfl,.inl rfl⟩
theorem RkM.nil (d:New M r (.map [] [] 0) M'):RkM M' r []:=⟨[],[],0,At.new_same d,⟨rfl,List.nodup_nil,fun _ h=>nomatch h⟩,.nil⟩
theorem Rd1.ner {v:Int}(h:Rd1 M i o (I v))(m:At M n (.cells own [.str s,.slice p k f e] ty)):i≠n:=fun j=>by
 subst j
 have d:=h.1
 unfold load1 atCells at d
 rw[m.1] at d
 have d:PvL.nth [LV.str s,.slice p k f e] o=some (I v):=d
 match o,d with
 | 0,d=>cases d
 | 1,d=>cases d
 | o+2,d=>cases d
theorem Rd.ner {x y z:LV}(h:Rd M i o 3 [x,y,z])(m:At M n (.cells own [.str s,.slice p k f e] ty)):i≠n:=fun j=>by
 subst j
 have d:=h.1
 unfold loadN atCells at d
 rw[m.1] at d
 have d:take' 3 (drop' o [LV.str s,.slice p k f e])=some [x,y,z]:=d
 match o,d with
 | 0,d=>cases d
 | 1,d=>cases d
 | 2,d=>cases d
 | o+3,d=>cases d
theorem SlI.updr {lb:LB}(h:SlI M a l)(q:At M n (.cells own [.str s,.slice p k f e] ty))(t:Upd M n lb M'):SlI M' a l :=
 h.imp id fun⟨i,o,m,j⟩=>⟨i,o,m,fun k d=>Rd1.upd_ne t (Rd1.ner (j k d) q) (j k d)⟩
theorem FsV1.updr {lb:LB}{L:List Fr}(h:FsV1 M a L)(m:At M n (.cells own [.str s,.slice p k f e] ty))(q:Upd M n lb M'):FsV1 M' a L :=
 h.imp id fun⟨i,o,t,u⟩=>⟨i,o,t,fun k d=>by
  obtain⟨b,g,j,w⟩:=u k d
  exact⟨b,g,Rd.upd_ne q (Rd.ner j m) j,SlI.updr w m q⟩⟩
def GeB (N:Nat->Prop)(v:LV):Prop:=∀ i o n f e,v=.slice (some (i,o)) n f e->n≠0->¬ N i
theorem GeB.vec {N:Nat->Prop}{b' sz:Nat}(h:Vec b' sz ty intc M v l)(q:∀ i,N i->i<b'):GeB N v:=fun i o n f e d _=>by
 rcases h with⟨_,rfl⟩|⟨j,rfl,_,t⟩
 ·cases d
 ·cases d;exact fun m=>by have:=q _ m;omega
theorem SlV.ge {N j:Nat->Prop}(h:SlV M v l)(C:GeB N v)(B:∀ i,j i->N i∨M.next<=i):GeB j v:=fun i o n f e t q A=>by
 have d:=C i o n f e t q
 obtain⟨a,F,D,rfl,G,u⟩:=h
 cases t
 rcases u with rfl|⟨H,J,w,z⟩
 ·exact absurd rfl q
 ·cases w
  have h5:=(z 0 (by omega)).2
  rcases B i A with m|m
  ·exact d m
  ·omega
theorem SlV.keepb {N:Nat->Prop}{F:Nat->Prop}(h:SlV M v l)(z:GeB N v)(A:Keep F M M')(u:∀ i,F i->N i):SlV M' v l:=by
 obtain⟨a,f,e,rfl,m,q⟩:=h
 refine⟨a,f,e,rfl,m,q.imp id fun⟨i,o,j,t⟩=>⟨i,o,j,fun k d=>(t k d).keep A (fun w=>?_)⟩⟩
 exact z i o _ _ _ (by rw[j]) (by omega) (u i w)
theorem zqj {b:Nat->Prop}{L:Mk}{k:Ky}(h:∀ p∈L,GeB b p.2)(j:GeB b v):∀ p∈stV L k v,GeB b p.2:=by
 induction L with
 | nil=>
  intro p d
  obtain rfl:p=(k,v):=by simpa [stV] using d
  exact j
 | cons q L m=>
  obtain⟨x,y⟩:=q
  intro p d
  rw[zj9] at d
  split at d
  ·rcases List.mem_cons.1 d with rfl|d
   ·exact j
   ·exact h p (List.mem_cons_of_mem _ d)
  ·rcases List.mem_cons.1 d with rfl|d
   ·exact h _ List.mem_cons_self
   ·exact m (fun p d=>h p (List.mem_cons_of_mem _ d)) p d
def RkMb (b:Nat->Prop)(M:Mem)(r:Nat)(R:Rk):Prop:=∃ L bs d,At M r (.map (encK L) bs d)/\StOk bs d L.length/\RkL M L R /\ ∀ p∈L,GeB b p.2
theorem RkL.keepb {b:Nat->Prop}{F:Nat->Prop}{L:Mk}{R:Rk}(h:RkL M L R)(d:∀ p∈L,GeB b p.2)(m:Keep F M M')(j:∀ i,F i->b i):RkL M' L R:=by
 induction h with
 | nil=>exact .nil
 | cons h _ t=>exact .cons (h.keepb (d _ List.mem_cons_self) m j) (t (fun p q=>d p (List.mem_cons_of_mem _ q)))
theorem RkMb.keep {b:Nat->Prop}{F:Nat->Prop}{R:Rk}(h:RkMb b M r R)(q:Keep F M M')(m:∀ i,F i->b i)(A:¬ b r):RkMb b M' r R:=by
 obtain⟨L,bs,d,t,u,w,j⟩:=h
 exact⟨L,bs,d,q.at t (fun z=>A (m r z)),u,w.keepb j q m,j⟩
theorem RkMb.grow {b:Nat->Prop}{R:Rk}(h:RkMb b M r R)(j:Grow M M'):RkMb b M' r R:=by
 obtain⟨L,bs,d,m,q,t,u⟩:=h
 exact⟨L,bs,d,m.grow j,q,t.grow j,u⟩
theorem RkL.ge {b b':Nat->Prop}{L:Mk}{R:Rk}(h:RkL M L R)(j:∀ p∈L,GeB b p.2)(m:∀ i,b' i->b i∨M.next<=i):∀ p∈L,GeB b' p.2:=by
 induction h with
 | nil=>exact fun _ h=>nomatch h
 | cons h _ q=>
  intro p d
  rcases List.mem_cons.1 d with rfl|d
  ·exact h.ge (j _ List.mem_cons_self) m
  ·exact q (fun p d=>j p (List.mem_cons_of_mem _ d)) p d
theorem RkMb.ge {b b':Nat->Prop}{R:Rk}(h:RkMb b M r R)(u:∀ i,b' i->b i∨M.next<=i):RkMb b' M r R:=by
 obtain⟨L,bs,d,m,q,j,t⟩:=h
 exact⟨L,bs,d,m,q,j,j.ge t u⟩
theorem RkM.b {R:Rk}(h:RkM M r R):RkMb (fun _=>False) M r R:=by
 obtain⟨L,bs,d,j,m,q⟩:=h
 exact⟨L,bs,d,j,m,q,fun p _ i o n f e _ _ h=>h⟩
theorem RkMb.rk {b:Nat->Prop}{R:Rk}(h:RkMb b M r R):RkM M r R:=by
 obtain⟨L,bs,d,j,m,q,t⟩:=h
 exact⟨L,bs,d,j,m,q⟩
section
variable {M M':Mem} {L:Mk} {R:Rk} {r:Nat} {k:Ky} {sz:Nat} {E:Env} {x y z':XO}
theorem zst {C:Nat->Prop}(h:RkMb C M r R)(H:SlV M v l)(z:GeB C v)(O:xval E x=some (.map (some r)))(Q:xval E y=some (kyv k))(hz:xval E z'=some v):∃ lb M',zl Tryz.prog (.mset 281 x y z') E M=some (.skip M')/\Upd M r lb M'/\RkMb C M' r (stK R k l):=by
 obtain⟨L,bs,d,u,m,G,w⟩:=h
 have A:∀ R,(ob (findL Tryz.prog 281 (kyv k) (encK L) 0) fun p=>oe p
   (some (R1.skip (M.upd r (some (.map (encK L++[(kyv k,v)]) (bs++[d]) (d+1))))))
   (fun p=>pr p fun i q=>pr q fun S _=>guard' (lvEq (kyv k) S) (some (.skip (M.upd r (some (.map (setVal (encK L) i (kyv k) v) bs d)))))))=some R->zl Tryz.prog (.mset 281 x y z') E M=some R:=fun R J=>by
  show ob (xval E x) _=_
  rw[O,z8,Q,z8,hz,z8,zl3,zb]
  show atMap M r _=_
  unfold atMap
  rw[u.1,z8]
  exact J
 cases B:lkM L k with
 | none=>
  obtain⟨D,F⟩:=zat k L 0 B
  refine⟨_,_,A _ (by rw[D,z8];rfl),⟨rfl⟩,stV L k v,bs++[d],d+1,?_,?_,(G.updm u ⟨rfl⟩).put k (H.updm u ⟨rfl⟩),zqj w z⟩
  ·rw[<-F v]
   exact At.upd_same ⟨rfl⟩ u
  ·refine⟨by rw[List.length_append,m.len,zme,B];rfl,?_,fun b t=>?_⟩
   ·rw[List.nodup_append]
    exact⟨m.nodup,by simp,fun a N b t=>by
     obtain rfl:b=d:=by simpa using t
     have:=m.lt a N;omega⟩
   ·rcases List.mem_append.1 t with t|t
    ·have:=m.lt b t;omega
    ·obtain rfl:b=d:=by simpa using t
     omega
 | some b=>
  obtain⟨j,D,F⟩:=zau k L 0 b B
  refine⟨_,_,A (.skip (M.upd r (some (.map (setVal (encK L) j (kyv k) v) bs d)))) (by
   rw[D,z8,Nat.zero_add]
   show guard' (lvEq (kyv k) (kyv k)) _=_
   rw[z4u,zb]),⟨rfl⟩,stV L k v,bs,d,?_,⟨by rw[m.len,zme,B];rfl,m.nodup,m.lt⟩,(G.updm u ⟨rfl⟩).put k (H.updm u ⟨rfl⟩),zqj w z⟩
  rw[<-F v]
  exact At.upd_same ⟨rfl⟩ u
end
section
variable {P:Program} [Orc P] {sz:Nat} {E:Env} {M:Mem} {K:Env->Mem->Prop} {l:List XG} {g:Option (Nat × Bool)} {st:List Mem} {n:Nat} {xs:List (Nat × Nat × (Mem->Prop))} {ld:List (XG × XK)} {x y z':XO} {r:Nat} {R:Rk} {k:Ky} {v:LV} {smp:List Int}
theorem zkg [Orc Tryz.prog](t:GOn E g){d:Nat->Prop}(w:RkMb d M r R)(z:SlV M v smp)(h:GeB d v)(A:xval E x=some (.map (some r)))(B:xval E y=some (kyv k))(hz:xval E z'=some v)(u:∀ lb M',Upd M r lb M'->M'.next=M.next->RkMb d M' r (stK R k smp)->XD Tryz.prog sz ld E M' (M'::st) (n+1) xs K):XD Tryz.prog sz ((⟨none,.mset 281 x y z',g⟩,.anchor)::ld) E M st n xs K:=by
 obtain⟨lb,M',m,j,q⟩:=zst w z h A B hz
 exact zmq t m (u lb M' j (by rw[j.eq];exact Mem.next_upd _ _ _) q)
end
set_option maxHeartbeats 8000000 in
theorem zu3 {N:Nat->Prop}{R:Rk}{L:List Fr}(hR:RkMb N M r R)(b7:∀ i,N i->i<M.next)(hs:FsV M a L)(hL:FrOk L)(hB:RkB R)(d6:L.length<=1000000) :
  zc Tryz.prog 138 [.map (some r),.slice a L.length f e] M (fun _ M'=>RkMb N M' r (L.foldl rkA R)/\Keep (fun i=>i=r) M M'):=by
 refine zd Y138.2 rfl ?_
 delta Y138;refine un ?_
 refine Wh ?_
 refine zg (fun z E ms M'=>∃(k:Nat),z=L.length-k/\k<=L.length/\ms=[]/\Has E [(0,.map (some r)),(6,.slice a L.length f e),(7,I L.length),(8,I k)]/\RkMb N M' r ((L.take k).foldl rkA R)/\RkB ((L.take k).foldl rkA R)/\FsV M' a L/\Keep (fun i=>i=r) M M')
  ?_ (L.length-0) _ _ _ ⟨0,rfl,Nat.zero_le _,rfl,hz,hR,hB,hs,Keep.refl _ _⟩
 rintro z E ms M1 ⟨k,rfl,hk,rfl,hE,C,S,a7,c3⟩
 refine z06 hE ?_
 by_cases H:k=L.length
 ·subst H
  rw[List.take_length] at C
  refine Wh ?_;intros
  refine kf ?_
  exact⟨C,c3⟩
 have j:k<L.length:=by omega
 obtain⟨i,o,b,g,u,rfl,hr,c2⟩:=a7.rd j
 have c0:=hL (fe L k) (by rw[z6j j];exact List.getElem_mem j)
 have b9:=z97 c0
 have q:(L.take (k+1)).foldl rkA R=rkA ((L.take k).foldl rkA R) (fe L k):=by rw[zih j,z6j j]
 generalize d3:(L.take k).foldl rkA R=R1 at *
 generalize hF:fe L k=F at *
 have a5:=hr;refine Wh ?_;intro _ n2 M2 b3 q2 e1 M3 b6 q3 Q
 have A:Grow M1 M3:=xg
 have c8:=a7.grow A
 have b4:RkMb N M3 r R1:=C.grow (xg)
 have w:=c2.grow A
 have a3:Keep (fun i=>i=r) M M3:=xk
 clear b6 b3
 have ck:=fun M' (hg:Grow M3 M')=>zri (w.grow hg)
 refine Wph @ck ?_;intro M4 G q4 M5 a0 q5
 have d:=G.trans a0
 have X:=b4.grow d
 have c9:=c8.grow d
 have Z:=w.grow d
 have b1:=At.grow d Q
 have B:Keep (fun i=>i=r) M M5:=a3.grow d
 obtain⟨Lm,bs,O,a4,d8,b2,d5⟩:=id X
 have c5:=b2.look (fky F)
 have d4:=S (fky F)
 have d0:rkA R1 F=stK R1 (fky F) (z1m ((lkK R1 (fky F)).getD []) F.2.2):=rfl
 generalize (lkK R1 (fky F)).getD []=old at *
 obtain⟨av,fv,ev,d1,e0,d2⟩:=c5
 have a9:∀ {E:Env} {x y:XO} (m:Mem),At m r (.map (encK Lm) bs O)->xval E x=some (.map (some r))->xval E y=some (kyv (fky F))->zl Tryz.prog (.lkp 281 zsl false x y) E m=some (.val (.slice av old.length fv ev) m):=fun m hm hx hy=>by
  have:=zle hm hx hy
  rw[d1] at this;exact this
 have d7:At M4 n2 (.cells true [I F.1,I F.2.1,.slice b F.2.2.length g u] 72):=At.grow G Q
 refine z63 (by exact gd) (a9 _ a4 rfl rfl) (fun m=>At m r (.map (encK Lm) bs O)) (fun m hm=>a9 m hm rfl rfl) ?_
 obtain⟨_,_,_,b8,c1⟩:=id Z
 cases b8
 have cb:=zu4 d2 c1 (by omega) (by omega) (fa:=fv) (ea:=ev) (fb:=g) (eb:=u)
 clear G a0
 have a5:=z9y (Rd.of_at (i:=n2) (o:=0+2) b1 rfl);refine Wlh @cb ?_;intro w6 M6 hq
 obtain⟨J,t⟩:=hq
 have a8:=SlV.vec J
 have a1:GeB N w6:=GeB.vec J (fun i hi=>Nat.lt_of_lt_of_le (b7 i hi) B.le)
 obtain⟨a6,f6,e6,rfl,d9⟩:=SlI.vec J
 have b5:=X.grow t
 have U:=c9.grow t
 have c7:=At.grow t a4
 refine zkg (smp:=z1m old F.2.2) (k:=fky F) (by exact gd) b5 a8 a1 rfl rfl rfl ?_
 intro lb M7 D e7 Y
 have a2:Keep (fun i=>i=r) M6 M7:=(Keep.refl _ _).upd D (.inl rfl)
 have V:=FsV.keepm U c7 a2
 have c4:Keep (fun i=>i=r) M M7:=(B.grow t).upd D (.inl rfl)
 rw[<-d0] at Y
 clear D
 refine Wh ?_
 exact zi (L.length-(k+1)) (by omega) ⟨k+1,rfl,by omega,rfl,hz,by rw[q];exact Y,by rw[q];exact S.add b9.2,V,c4⟩
end Go.Proofs.YtpgalhbplcanhaaGreatDoor.C
end
section
open Go PvL Go.Proofs
namespace Go.Proofs.YtpgalhbplcanhaaGreatDoor.C
abbrev bk:LV:=.iface 349 (.agg [])
abbrev rdr(s:ByteArray)(p:Nat):LB:=.cells true [.str s,I p] 276
abbrev RdQ{d:Type}(enc:d->LV)(a:Nat)(s:ByteArray)(r:Option (d×Nat))(M:Mem):LV->Mem->Prop:=RdOk enc a (rdr s) r M
abbrev RdN{d:Type}(a:Nat)(s:ByteArray)(r:Option (d×Nat))(M:Mem):LV->Mem->Prop:=RdNo a (rdr s) r bk M
abbrev encI(n:Nat):LV:=I n
def oneB(s:ByteArray)(p:Nat):Option (Nat×Nat):=if p<s.size then some (byteAt s p,p+1) else none
def twoB(s:ByteArray)(p:Nat):Option (Nat×Nat):=match oneB s p with|none=>none|some (a,p)=>match oneB s p with|none=>none|some (b,p)=>some (256*a+b,p)
theorem zaq(q:Bool)(M:Mem):CallB Tryz.prog 190 [.bool q] M (MuOk q M) (MuNo q bk M):=by
 refine z38 Y190.2 rfl ?_
 delta Y190;refine un ?_
 cases q with
 | true=>
  repeat' first|with_reducible intro _|refine svb ?_|refine sc ?_ ?_<;>(intro h;try exact sz h)|(refine sgb ?_ ?_<;>(intro h;first|exact sz h|refine sy h ?_))|exact sq|fail
  refine kf ?_
  exact⟨rfl,rfl,rfl⟩
 | false=>
  repeat' first|with_reducible intro _|refine svb ?_|refine sc ?_ ?_<;>(intro h;try exact sz h)|(refine sgb ?_ ?_<;>(intro h;first|exact sz h|refine sy h ?_))|exact sq|fail
  refine z35 gd (v:=bk) rfl ?_
  exact ztq gd (v:=bk) rfl ⟨rfl,rfl,rfl⟩
theorem zwt(s:ByteArray)(m:s.size<=1000000000000000)(p:Nat)(M:Mem):zc Tryz.prog 244 [.str s,I p] M (fun w M'=>w=.tup [I (if p<s.size then(byteAt s p:Int) else 0),.bool (decide (p<s.size))]/\M'=M):=by
 refine zd Y244.2 rfl ?_
 delta Y244;refine un ?_
 have j:=z3h s p
 by_cases d:p<s.size
 ·rw[if_pos d,decide_eq_true d]
  refine Wh ?_;intros
  all_goals first|((refine kf ?_);exact⟨rfl,rfl⟩)|(exfalso;omega)
 ·rw[if_neg d,decide_eq_false d]
  refine Wh ?_;intros
  all_goals first|((refine kf ?_);exact⟨rfl,rfl⟩)|(exfalso;omega)
theorem zk1{a:Nat}{s:ByteArray}{p:Nat}{M:Mem}(j:At M a (rdr s p))(m:s.size<=1000000000000000):CallB Tryz.prog 189 [.ptr (some (a,0))] M (RdQ encI a s (oneB s p) M) (RdN a s (oneB s p) M):=by
 refine z38 Y189.2 rfl ?_
 delta Y189;refine un ?_
 repeat' first|with_reducible intro _|refine svb ?_|refine sc ?_ ?_<;>(intro h;try exact sz h)|((with_reducible first|apply z01|apply zcz);exact gd;exact rfl;exact rfl;(first|exact zwt s m p M))|((with_reducible first|apply x_mu|apply b_mu);exact gd;exact rfl;exact rfl;(first|exact zaq _ _);infer_instance)|(refine sgb ?_ ?_<;>(intro h;first|exact sz h|refine sy h ?_))|exact sq|fail
 ·rename_i h
  exact⟨if_neg h,rfl,Keep.refl _ _,p,j⟩
 ·rename_i h M' q t d
  refine kf ?_
  rw[if_pos h]
  exact⟨byteAt s p,p+1,if_pos h,rfl,xk,d⟩
theorem zn4{a b:Nat}(d:a<256):shlZ (a:Int) 8+(b:Int)=((256*a+b:Nat):Int):=by
 rw[shl8 (a:Int)];omega
theorem z9r{s:ByteArray}{p b q:Nat}(h:oneB s p=some (b,q)):p<s.size/\b=byteAt s p/\q=p+1:=by
 unfold oneB at h
 split at h
 ·cases h;exact⟨by assumption,rfl,rfl⟩
 ·cases h
theorem z3f{s:ByteArray}{p b q:Nat}(h:oneB s p=some (b,q)):b<256:=by
 obtain⟨_,rfl,_⟩:=z9r h
 exact z3h s p
theorem zk6{a:Nat}{s:ByteArray}{p:Nat}{M:Mem}(O:At M a (rdr s p))(A:s.size<=1000000000000000):CallB Tryz.prog 188 [.ptr (some (a,0))] M (RdQ encI a s (twoB s p) M) (RdN a s (twoB s p) M):=by
 refine z38 Y188.2 rfl ?_
 delta Y188;refine un ?_
 repeat' first|with_reducible intro _|refine svb ?_|refine sc ?_ ?_<;>(intro h;try exact sz h)|((with_reducible first|apply x_rd|apply b_rd);exact gd;exact rfl;exact rfl;(first|exact zk1 (by assumption) A))|(refine sgb ?_ ?_<;>(intro h;first|exact sz h|refine sy h ?_))|exact sq|fail
 ·rename_i d B j F q m
  refine⟨?_,rfl,j,q,m⟩
  unfold twoB;rw[d]
 rename_i b q d B j F m
 have J:=z3f d
 have z:=shl8 (b:Int)
 repeat' first|with_reducible intro _|refine svb ?_|refine sc ?_ ?_<;>(intro h;try exact sz h)|(refine sgb ?_ ?_<;>(intro h;first|exact sz h|refine sy h ?_))|exact sq|fail
 refine x_rd gd rfl rfl (zk1 m A) ?_ ?_
 ·intro h5 C t G w z
  refine⟨?_,rfl,j.trans t (fun i u=>.inl u),w,z⟩
  unfold twoB;rw[d];simp only;rw[h5]
 intro D w h5 C t G H
 have N:=z3f h5
 repeat' first|with_reducible intro _|refine svb ?_|refine sc ?_ ?_<;>(intro h;try exact sz h)|(refine sgb ?_ ?_<;>(intro h;first|exact sz h|refine sy h ?_))|exact sq|fail
 refine kf ?_
 refine⟨256*b+D,w,?_,?_,j.trans t (fun i u=>.inl u),H⟩
 ·unfold twoB;rw[d];simp only;rw[h5]
 ·show I _=I _
  rw[zn4 J]
def codeS(s:ByteArray):Nat->Nat->Nat->Nat->Option (Nat×Nat)
 | 0,_,_,_=>none
 | j+1,p,n,u=>match oneB s p with
  | none=>none
  | some (b,q)=>if b<128 then(if 0<b∨u=1 then some (n+b%128*u,q) else none) else codeS s j q (n+b%128*u) (u*128)
def codeB(s:ByteArray)(p:Nat):Option (Nat×Nat):=codeS s 3 p 0 1
set_option maxHeartbeats 4000000 in
theorem zre{a:Nat}{s:ByteArray}{p:Nat}{M:Mem}(N:At M a (rdr s p))(X:s.size<=1000000000000000):CallB Tryz.prog 245 [.ptr (some (a,0))] M (RdQ encI a s (codeB s p) M) (RdN a s (codeB s p) M):=by
 refine z38 Y245.2 rfl ?_
 delta Y245;refine un ?_
 repeat' first|with_reducible intro _|refine svb ?_|refine sc ?_ ?_<;>(intro h;try exact sz h)|(refine sgb ?_ ?_<;>(intro h;first|exact sz h|refine sy h ?_))|exact sq|fail
 refine zg (fun z E Q C=>∃ j q n u,z=j/\1<=j/\j<=3/\Q=[]/\(u:Nat)=128^(3-j)/\n<u/\codeB s p=codeS s j q n u/\Keep (fun i=>i=a) M C/\At C a (rdr s q)/\Has E [(0,.ptr (some (a,0))),(3,I (n:Nat)),(4,I u)])
  ?_ 3 _ _ _ ⟨3,p,0,1,rfl,by omega,by omega,rfl,rfl,by omega,rfl,Keep.refl _ _,N,hz⟩
 rintro z E Q C ⟨j,q,n,u,rfl,Z,h3,rfl,O,hn,m,F,w,U⟩
 refine z06 U ?_
 obtain⟨j,rfl⟩:∃ i,z=i+1:=⟨z-1,by omega⟩
 have Y:j=2/\u=1∨j=1/\u=128∨j=0/\u=16384:=by
  have:j=0∨j=1∨j=2:=by omega
  rcases this with rfl|rfl|rfl<;>simp at O<;>omega
 unfold codeS at m
 repeat' first|with_reducible intro _|refine svb ?_|refine sc ?_ ?_<;>(intro h;try exact sz h)|(refine sgb ?_ ?_<;>(intro h;first|exact sz h|refine sy h ?_))|exact sq|fail
 refine x_rd gd rfl rfl (zk1 w X) ?_ ?_
 ·intro A G B J t g4
  refine⟨?_,rfl,F.trans B (fun i D=>.inl D),t,g4⟩
  rw[m,A]
 intro b t A G B J g4
 have hb:=z3f A
 rw[A] at m
 simp only at m
 have V:(b%128*u:Nat)<=127*u:=Nat.mul_le_mul_right _ (by omega)
 have S:((b:Int)%128)=((b%128:Nat):Int):=by omega
 have H:((b:Int)%128)*(u:Int)=((b%128*u:Nat):Int):=by rw[S];push_cast;rfl
 have d:Keep (fun i=>i=a) M G:=F.trans B (fun i D=>.inl D)
 clear F B J w N
 repeat' first|with_reducible intro _|refine svb ?_|refine sc ?_ ?_<;>(intro h;try exact sz h)|((with_reducible first|apply x_mu|apply b_mu);exact gd;exact rfl;exact rfl;(first|exact zaq _ _);infer_instance)|(refine sgb ?_ ?_<;>(intro h;first|exact sz h|refine sy h ?_))|exact sq|fail
 all_goals first
  |(exfalso;assumption)
  |(refine⟨?_,rfl,d,t,g4⟩;rw[m,if_pos (by omega),if_neg (by omega)])
  |(refine⟨?_,rfl,d,t,g4⟩;rw[m,if_neg (by omega)];obtain rfl:j=0:=(by omega);rfl)
  |((refine kf ?_);refine⟨n+b%128*u,t,?_,?_,d,g4⟩
    ·rw[m,if_pos (by omega),if_pos (by omega)]
    ·show I _=I _
     rw[H];rfl)
  |(refine zi j (by omega) ⟨j,t,n+b%128*u,u*128,rfl,by omega,by omega,rfl,?_,?_,?_,d,g4,.cons rfl (.cons ?_ (.cons ?_ .nil))⟩
    ·rw[O,<- Nat.pow_succ];congr 1;omega
    ·have:=Nat.mul_le_mul_right u (show b%128<=127 by omega);omega
    ·rw[m,if_neg (by omega)]
    ·show some (I _)=some (I _)
     rw[H];push_cast;rfl
    ·show some (I _)=some (I _)
     push_cast;rfl)
theorem zgo{s:ByteArray}:∀(j p n u:Nat) {c q:Nat},n<u->codeS s j p n u=some (c,q)->c<u*128^j
 | 0,p,n,u,c,q,d,h=>by cases h
 | j+1,p,n,u,c,q,d,h=>by
  unfold codeS at h
  split at h
  ·cases h
  ·rename_i b m t
   have h1:b%128*u<=127*u:=Nat.mul_le_mul_right _ (by omega)
   split at h
   ·split at h
    ·cases h
     have:u*128<=u*128^(j+1):=Nat.mul_le_mul_left _ (by rw[Nat.pow_succ];exact Nat.le_mul_of_pos_left _ (Nat.pow_pos (by omega)))
     omega
    ·cases h
   ·have:=zgo j m _ _ (show n+b%128*u<u*128 by omega) h
    rwa [Nat.mul_assoc,<- Nat.pow_succ'] at this
theorem znp{s:ByteArray}{p c q:Nat}(h:codeB s p=some (c,q)):c<2097152:=by
 have:=zgo 3 p 0 1 (by omega) h
 simpa using this
def nxS(d:Int)(c:Nat):Int:=if c%2=0 then d+((c/2:Nat)-1) else d-(c/2:Nat)
def smpB(s:ByteArray):Nat->Nat->Int->List Int->Option (List Int×Nat)
 | 0,p,_,h=>some (h,p)
 | k+1,p,d,h=>match codeB s p with
  | none=>none
  | some (c,q)=>if c=0 then smpB s k q d (h++[40000]) else if c=1 then smpB s k q d (h++[40001]) else if knB (nxS d c) then smpB s k q (nxS d c) (h++[nxS d c]) else none
def SmQ(a:Nat)(s:ByteArray)(r:Option (List Int×Nat))(M:Mem)(w:LV)(M':Mem):Prop:=∃ l q,r=some (l,q)/\Vec M.next 1 3 intc M' w l/\Keep (fun i=>i=a) M M'/\At M' a (rdr s q)
set_option maxHeartbeats 4000000 in
theorem zi6{a:Nat}{s:ByteArray}{p:Nat}{M:Mem}{n:Nat}(ha:At M a (rdr s p))(hs:s.size<=1000000000000000)(hn:n<=1000000) :
  CallB Tryz.prog 191 [.ptr (some (a,0)),I n] M (SmQ a s (smpB s n p 0 []) M) (RdN a s (smpB s n p 0 []) M):=by
 refine z38 Y191.2 rfl ?_
 delta Y191;refine un ?_
 have a0:a<M.next:=ha.2
 repeat' first|with_reducible intro _|refine svb ?_|refine sc ?_ ?_<;>(intro h;try exact sz h)|(refine sgb ?_ ?_<;>(intro h;first|exact sz h|refine sy h ?_))|exact sq|fail
 refine zg (fun z E ms V=>∃(i q:Nat) (t:List Int) (d:Int) (v:LV),z=n-i/\i<=n/\ms=[]/\Has E [(0,.ptr (some (a,0))),(5,v),(6,I d),(8,I n),(9,I i)]/\t.length=i/\(-32767<=d/\d<=32767) /\
   smpB s n p 0 []=smpB s (n-i) q d t/\Vec M.next 1 3 intc V v t/\Keep (fun i=>i=a) M V/\M.next<=V.next/\At V a (rdr s q))
  ?_ n _ _ _ ⟨0,p,[],0,_,by omega,by omega,rfl,hz,rfl,by omega,rfl,Vec.nil,Keep.refl _ _,Nat.le_refl _,ha⟩
 rintro z E ms V ⟨i,q,t,d,v,rfl,A,rfl,hE,u,hl,G,hv,hk,a4,O⟩
 refine z06 hE ?_
 by_cases Q:i=n
 ·subst Q
  rw[Nat.sub_self] at G
  repeat' first|with_reducible intro _|refine svb ?_|refine sc ?_ ?_<;>(intro h;try exact sz h)|(refine sgb ?_ ?_<;>(intro h;first|exact sz h|refine sy h ?_))|exact sq|fail
  refine kf ?_
  exact⟨t,q,G,hv,hk,O⟩
 have a5:i<n:=by omega
 obtain⟨k,a1⟩:∃ k,n-i=k+1:=⟨n-i-1,by omega⟩
 rw[a1,show smpB s (k+1) q d t=(match codeB s q with
  | none=>none
  | some (c,q)=>if c=0 then smpB s k q d (t++[40000]) else if c=1 then smpB s k q d (t++[40001]) else if knB (nxS d c) then smpB s k q (nxS d c) (t++[nxS d c]) else none) from rfl] at G
 have H:n-(i+1)=k:=by omega
 repeat' first|with_reducible intro _|refine svb ?_|refine sc ?_ ?_<;>(intro h;try exact sz h)|(refine sgb ?_ ?_<;>(intro h;first|exact sz h|refine sy h ?_))|exact sq|fail
 refine x_rd gd rfl rfl (zre O hs) ?_ ?_
 ·intro g1 Z X g3 N g4
  refine⟨?_,rfl,hk.trans X (fun i A=>.inl A),N,g4⟩
  rw[G,g1]
 intro c N g1 Z X g3 g4
 have a3:=znp g1
 rw[g1] at G
 simp only at G
 have F:Keep (fun i=>i=a) M Z:=hk.trans X (fun i A=>.inl A)
 have J:Vec M.next 1 3 intc Z v t:=hv.keep X (fun i A=>by subst A;exact a0)
 have a2:M.next<=Z.next:=by omega
 clear hk X O ha hv
 have Y:∀ {x:Int},knB x=true->-32767<=x/\x<=32767:=fun h=>by unfold knB at h;exact of_decide_eq_true h
 repeat' first|with_reducible intro _|refine svb ?_|refine sc ?_ ?_<;>(intro h;try exact sz h)|((with_reducible first|apply z01|apply zcz);exact gd;exact rfl;exact rfl;(first|exact z8o _ _))|((with_reducible first|apply x_mu|apply b_mu);exact gd;exact rfl;exact rfl;(first|exact zaq _ _);infer_instance)|(refine sgb ?_ ?_<;>(intro h;first|exact sz h|refine sy h ?_))|exact sq|fail
 ·rename_i m M3 j e1 e2
  have C:=J.grow j.grow
  refine z36 (by exact gd) (l':=[40000]) C rfl rfl rfl (by simp) (by rw[u,List.length_singleton];omega) rfl (z30 j) (fun _=>rfl) (fun _=>rfl) (by omega) ?_
  intro U M4 D e4 w
  repeat' first|with_reducible intro _|refine svb ?_|refine sc ?_ ?_<;>(intro h;try exact sz h)|(refine sgb ?_ ?_<;>(intro h;first|exact sz h|refine sy h ?_))|exact sq|fail
  refine zi (n-(i+1)) (by omega) ⟨i+1,N,t++[40000],d,U,rfl,by omega,rfl,hz,by simp[u],hl,?_,D,(F.new j).trans w (fun i A=>.inr A.1),by omega,w.at (g4.grow j.grow) (fun A=>by have:=A.1;omega)⟩
  rw[H,G,if_pos (by omega)]
 ·rename_i m M3 j e1 e2
  have C:=J.grow j.grow
  refine z36 (by exact gd) (l':=[40001]) C rfl rfl rfl (by simp) (by rw[u,List.length_singleton];omega) rfl (z30 j) (fun _=>rfl) (fun _=>rfl) (by omega) ?_
  intro U M4 D e4 w
  repeat' first|with_reducible intro _|refine svb ?_|refine sc ?_ ?_<;>(intro h;try exact sz h)|(refine sgb ?_ ?_<;>(intro h;first|exact sz h|refine sy h ?_))|exact sq|fail
  refine zi (n-(i+1)) (by omega) ⟨i+1,N,t++[40001],d,U,rfl,by omega,rfl,hz,by simp[u],hl,?_,D,(F.new j).trans w (fun i A=>.inr A.1),by omega,w.at (g4.grow j.grow) (fun A=>by have:=A.1;omega)⟩
  rw[H,G,if_neg (by omega),if_pos (by omega)]
 ·rename_i hF
  have S:nxS d c=d+(((c:Nat):Int)/2-1):=by unfold nxS;rw[if_pos (by omega)];omega
  refine⟨?_,rfl,F,N,g4⟩
  rw[G,if_neg (by omega),if_neg (by omega),S,if_neg (by rw[hF];decide)]
 ·rename_i B m M3 j e1 e2
  have S:nxS d c=d+(((c:Nat):Int)/2-1):=by unfold nxS;rw[if_pos (by omega)];omega
  have C:=J.grow j.grow
  refine z36 (by exact gd) (l':=[d+(((c:Nat):Int)/2-1)]) C rfl rfl rfl (by simp) (by rw[u,List.length_singleton];omega) rfl (z30 j) (fun _=>rfl) (fun _=>rfl) (by omega) ?_
  intro U M4 D e4 w
  repeat' first|with_reducible intro _|refine svb ?_|refine sc ?_ ?_<;>(intro h;try exact sz h)|(refine sgb ?_ ?_<;>(intro h;first|exact sz h|refine sy h ?_))|exact sq|fail
  refine zi (n-(i+1)) (by omega) ⟨i+1,N,t++[d+(((c:Nat):Int)/2-1)],d+(((c:Nat):Int)/2-1),U,rfl,by omega,rfl,hz,by simp[u],Y B,?_,D,(F.new j).trans w (fun i A=>.inr A.1),by omega,w.at (g4.grow j.grow) (fun A=>by have:=A.1;omega)⟩
  rw[H,G,if_neg (by omega),if_neg (by omega),S,if_pos B]
 ·rename_i hF
  have S:nxS d c=d-((c:Nat):Int)/2:=by unfold nxS;rw[if_neg (by omega)];omega
  refine⟨?_,rfl,F,N,g4⟩
  rw[G,if_neg (by omega),if_neg (by omega),S,if_neg (by rw[hF];decide)]
 ·rename_i B m M3 j e1 e2
  have S:nxS d c=d-((c:Nat):Int)/2:=by unfold nxS;rw[if_neg (by omega)];omega
  have C:=J.grow j.grow
  refine z36 (by exact gd) (l':=[d-((c:Nat):Int)/2]) C rfl rfl rfl (by simp) (by rw[u,List.length_singleton];omega) rfl (z30 j) (fun _=>rfl) (fun _=>rfl) (by omega) ?_
  intro U M4 D e4 w
  repeat' first|with_reducible intro _|refine svb ?_|refine sc ?_ ?_<;>(intro h;try exact sz h)|(refine sgb ?_ ?_<;>(intro h;first|exact sz h|refine sy h ?_))|exact sq|fail
  refine zi (n-(i+1)) (by omega) ⟨i+1,N,t++[d-((c:Nat):Int)/2],d-((c:Nat):Int)/2,U,rfl,by omega,rfl,hz,by simp[u],Y B,?_,D,(F.new j).trans w (fun i A=>.inr A.1),by omega,w.at (g4.grow j.grow) (fun A=>by have:=A.1;omega)⟩
  rw[H,G,if_neg (by omega),if_neg (by omega),S,if_pos B]
abbrev encU(_:Unit):LV:=.tup []
def crcX(s:ByteArray)(f p:Nat):Int:=crcK (s.extract f p) (s.extract f p).size
def chkB(s:ByteArray)(f p:Nat):Option (Unit×Nat):=match twoB s p with
 | none=>none
 | some (n,q)=>if (n:Int)=crcX s f p then some ((),q) else none
theorem zto{E:Env}{M:Mem}{x lo hi:XO}{s:ByteArray}{f p:Nat}(t:xval E x=some (.str s))(h:xval E lo=some (I f))(d:xval E hi=some (I p))(h1:f<=p)(q:p<=s.size):zl Tryz.prog (.slS x (some lo) (some hi) none) E M=some (.val (.str (s.extract f p)) M):=by
 show ob (xval E x) _=_
 rw[t,z8]
 have j:xvalo E (some lo)=some (some (I f)):=by show ob (xval E lo) _=_;rw[h];rfl
 have m:xvalo E (some hi)=some (some (I p)):=by show ob (xval E hi) _=_;rw[d];rfl
 rw[j,z8,m,z8]
 show guard' true (guard' (Nat.ble p s.size) (guard' (Nat.ble f p) (some (R1.val (LV.str (s.extract f p)) M))))=_
 rw[Nat.ble_eq_true_of_le q,Nat.ble_eq_true_of_le h1];rfl
theorem zu5{a:Nat}{s:ByteArray}{f p:Nat}{M:Mem}(B:At M a (rdr s p))(F:s.size<=140737488355328)(q:f<=p)(C:p<=s.size) :
  CallB Tryz.prog 192 [.ptr (some (a,0)),I f] M (RdQ encU a s (chkB s f p) M) (RdN a s (chkB s f p) M):=by
 refine z38 Y192.2 rfl ?_
 delta Y192;refine un ?_
 have t:(s.extract f p).size<=140737488355328:=by rw[ByteArray.size_extract];omega
 repeat' first|with_reducible intro _|refine svb ?_|refine sc ?_ ?_<;>(intro h;try exact sz h)|((with_reducible first|apply z01|apply zcz);exact gd;exact rfl;exact rfl;(first|exact zr7 _ t _))|(refine sgb ?_ ?_<;>(intro h;first|exact sz h|refine sy h ?_))|exact sq|fail
 refine ztx gd (zto (f:=f) (p:=p) rfl rfl rfl q C) ?_
 repeat' first|with_reducible intro _|refine svb ?_|refine sc ?_ ?_<;>(intro h;try exact sz h)|((with_reducible first|apply z01|apply zcz);exact gd;exact rfl;exact rfl;(first|exact zr7 _ t _))|(refine sgb ?_ ?_<;>(intro h;first|exact sz h|refine sy h ?_))|exact sq|fail
 refine x_rd gd rfl rfl (zk6 B (by omega)) ?_ ?_
 ·intro d u j w m g4
  refine⟨?_,rfl,j,m,g4⟩
  unfold chkB;rw[d]
 intro n m d u j w g4
 have D:=z8t (s.extract f p) (s.extract f p).size
 repeat' first|with_reducible intro _|refine svb ?_|refine sc ?_ ?_<;>(intro h;try exact sz h)|((with_reducible first|apply x_mu|apply b_mu);exact gd;exact rfl;exact rfl;(first|exact zaq _ _);infer_instance)|(refine sgb ?_ ?_<;>(intro h;first|exact sz h|refine sy h ?_))|exact sq|fail
 ·rename_i z
  refine⟨?_,rfl,j,m,g4⟩
  unfold chkB;rw[d];exact if_neg z
 ·rename_i A
  refine kf ?_
  exact⟨(),m,by unfold chkB;rw[d];exact if_pos A,rfl,j,g4⟩
def FrD(s:ByteArray)(p:Nat):Option (Fr×Nat):=match twoB s p with
 | none=>none
 | some (m,j)=>match twoB s j with
  | none=>none
  | some (h,q)=>match oneB s q with
   | none=>none
   | some (d,t)=>match oneB s t with
    | none=>none
    | some (n,u)=>if m=42330/\1<=n/\n<=64 then(match smpB s n u 0 [] with
     | none=>none
     | some (l,w)=>if frB ((h:Int),(d:Int),l) then(match chkB s p w with
      | none=>none
      | some (_,z)=>some (((h:Int),(d:Int),l),z)) else none) else none
def FrQ(a:Nat)(s:ByteArray)(r:Option (Fr×Nat))(M:Mem)(w:LV)(M':Mem):Prop:=∃ x q,r=some (x,q)/\(∃ v,w=.agg [I x.1,I x.2.1,v]/\Vec M.next 1 3 intc M' v x.2.2)/\Keep (fun i=>i=a) M M'/\At M' a (rdr s q)
theorem z5y{s:ByteArray}{p b q:Nat}(h:oneB s p=some (b,q)):p<q/\q<=s.size:=by
 obtain⟨d,_,j⟩:=z9r h
 omega
theorem z7g{s:ByteArray}{p b q:Nat}(h:twoB s p=some (b,q)):p<q/\q<=s.size/\b<65536:=by
 unfold twoB at h
 split at h
 ·cases h
 ·rename_i c t j
  split at h
  ·cases h
  ·rename_i d u m
   cases h
   have:=z5y j
   have:=z5y m
   have:=z3f j
   have:=z3f m
   omega
theorem zgn{s:ByteArray}:∀(j p n u:Nat) {c q:Nat},codeS s j p n u=some (c,q)->p<q/\q<=s.size
 | 0,p,n,u,c,q,h=>by cases h
 | j+1,p,n,u,c,q,h=>by
  unfold codeS at h
  split at h
  ·cases h
  ·rename_i b m d
   have h1:=z5y d
   split at h
   ·split at h
    ·cases h;exact h1
    ·cases h
   ·have:=zgn j m _ _ h
    omega
theorem za5{s:ByteArray}:∀(n p:Nat) (d:Int) (j:List Int) {l:List Int} {q:Nat},p<=s.size->smpB s n p d j=some (l,q)->p<=q/\q<=s.size/\l.length=j.length+n
 | 0,p,d,j,l,q,t,h=>by cases h;exact⟨Nat.le_refl _,t,rfl⟩
 | n+1,p,d,j,l,q,t,h=>by
  unfold smpB at h
  split at h
  ·cases h
  ·rename_i c m u
   have h1:=zgn _ _ _ _ u
   split at h
   ·have:=za5 n m _ _ h1.2 h
    rw[List.length_append] at this;simp at this;omega
   ·split at h
    ·have:=za5 n m _ _ h1.2 h
     rw[List.length_append] at this;simp at this;omega
    ·split at h
     ·have:=za5 n m _ _ h1.2 h
      rw[List.length_append] at this;simp at this;omega
     ·cases h
theorem Vec.low{α:Type}{b b' sz:Nat}{ty:TypeId}{enc:α->List LV}{M:Mem}{v:LV}{l:List α}(h:Vec b sz ty enc M v l)(q:b'<=b):Vec b' sz ty enc M v l:=h.imp id fun⟨i,d,j,m⟩=>⟨i,d,j,Nat.le_trans q m⟩
theorem Keep.wide{F:Nat->Prop}{M M':Mem}{n:Nat}(h:Keep F M M')(m:M'.next<=n):Keep F M ⟨n,M'.tr⟩:=⟨Nat.le_trans h.le m,fun i j d=>h.old i j d⟩
theorem At.wide{M:Mem}{n i:Nat}{lb:LB}(h:At M i lb)(d:M.next<=n):At ⟨n,M.tr⟩ i lb:=⟨h.1,Nat.lt_of_lt_of_le h.2 d⟩
theorem z89{s:ByteArray}:∀(n p:Nat) (j:Int) (d:List Int) {l:List Int} {q:Nat},(∀ x∈d,smB x=true)->smpB s n p j d=some (l,q)->∀ x∈l,smB x=true
 | 0,p,j,d,l,q,t,h=>by cases h;exact t
 | n+1,p,j,d,l,q,t,h=>by
  have m:∀ y,smB y=true->∀ x∈d++[y],smB x=true:=fun y w x m=>by
   rcases List.mem_append.1 m with m|m
   ·exact t x m
   ·rw[List.mem_singleton.1 m];exact w
  unfold smpB at h
  split at h
  ·cases h
  ·split at h
   ·exact z89 n _ _ _ (m _ rfl) h
   ·split at h
    ·exact z89 n _ _ _ (m _ rfl) h
    ·split at h
     ·rename_i u
      exact z89 n _ _ _ (m _ (by unfold smB;rw[u];rfl)) h
     ·cases h
theorem zsz{x:Int}(h:smB x=true):I64 x:=by
 unfold smB knB at h
 simp only[Bool.or_eq_true,decide_eq_true_eq] at h
 unfold I64
 omega
set_option maxHeartbeats 8000000 in
theorem znd{a:Nat}{s:ByteArray}{p:Nat}{M:Mem}(ha:At M a (rdr s p))(hs:s.size<=140737488355328)(hp:p<=s.size) :
  CallB Tryz.prog 137 [.ptr (some (a,0))] M (FrQ a s (FrD s p) M) (RdN a s (FrD s p) M):=by
 refine z38 Y137.2 rfl ?_
 delta Y137;refine un ?_
 have d7:a<M.next:=ha.2
 repeat' first|with_reducible intro _|refine svb ?_|refine su ?_|refine sc ?_ ?_<;>(intro h;try exact sz h)|(refine sgb ?_ ?_<;>(intro h;first|exact sz h|refine sy h ?_))|exact sq|fail
 refine x_rd gd rfl rfl (zk6 (p:=p) (xm) (by omega)) ?_ ?_
 ·intro j M2 X g3 q g4
  refine⟨?_,rfl,xk,q,g4⟩
  unfold FrD;rw[j]
 intro m p1 Q N1 k1 l1 a1
 repeat' first|with_reducible intro _|refine svb ?_|refine su ?_|refine sc ?_ ?_<;>(intro h;try exact sz h)|(refine sgb ?_ ?_<;>(intro h;first|exact sz h|refine sy h ?_))|exact sq|fail
 refine x_rd gd rfl rfl (zk6 (p:=p1) (xm) (by omega)) ?_ ?_
 ·intro j M2 X g3 q g4
  refine⟨?_,rfl,xk,q,g4⟩
  unfold FrD;rw[Q];simp only;rw[j]
 intro A p2 Z N2 k2 l2 a2
 repeat' first|with_reducible intro _|refine svb ?_|refine su ?_|refine sc ?_ ?_<;>(intro h;try exact sz h)|(refine sgb ?_ ?_<;>(intro h;first|exact sz h|refine sy h ?_))|exact sq|fail
 refine x_rd gd rfl rfl (zk1 (p:=p2) (xm) (by omega)) ?_ ?_
 ·intro j M2 X g3 q g4
  refine⟨?_,rfl,xk,q,g4⟩
  unfold FrD;rw[Q];simp only;rw[Z];simp only;rw[j]
 intro t p3 r3 N3 k3 l3 a3
 repeat' first|with_reducible intro _|refine svb ?_|refine su ?_|refine sc ?_ ?_<;>(intro h;try exact sz h)|(refine sgb ?_ ?_<;>(intro h;first|exact sz h|refine sy h ?_))|exact sq|fail
 refine x_rd gd rfl rfl (zk1 (p:=p3) (xm) (by omega)) ?_ ?_
 ·intro j M2 X g3 q g4
  refine⟨?_,rfl,xk,q,g4⟩
  unfold FrD;rw[Q];simp only;rw[Z];simp only;rw[r3];simp only;rw[j]
 intro n Y r4 N4 k4 l4 a4
 repeat' first|with_reducible intro _|refine svb ?_|refine su ?_|refine sc ?_ ?_<;>(intro h;try exact sz h)|((with_reducible first|apply z01|apply zcz);exact gd;exact rfl;exact rfl;(first|exact zbx _ _ _ _))|((with_reducible first|apply x_mu|apply b_mu);exact gd;exact rfl;exact rfl;(first|exact zaq _ _);infer_instance)|(refine sgb ?_ ?_<;>(intro h;first|exact sz h|refine sy h ?_))|exact sq|fail
 ·rename_i B
  refine⟨?_,rfl,xk,Y,xm⟩
  unfold FrD;rw[Q];simp only;rw[Z];simp only;rw[r3];simp only;rw[r4];simp only
  rw[if_neg fun h=>?_]
  unfold btB at B
  have:=of_decide_eq_false B
  omega
 ·rename_i z M5 b6 b5 b4 n2 M4 b3 b2 b1 q4 M3 b0 a9 A9 q3 M2 A8 A7 A6 q M1 A5 A4 A3 q1 d A2 A1 A0 q0 B
  have c2:1<=n/\n<=64:=by unfold btB at B;have:=of_decide_eq_true B;omega
  have hR:At d a (rdr s Y):=xm
  have N:At d z (.cells true [I 0,I 0,.slice none 0 true 0] 72):=xm
  have hK:Keep (fun i=>i=a) M d:=xk
  have hm:M.next<=d.next:=hK.le
  have e8:M.next<=z:=by omega
  have e9:z<n2:=by omega
  have F:FrD s p=(match smpB s n Y 0 [] with
     | none=>none
     | some (l,p5)=>if frB ((A:Int),(t:Int),l) then(match chkB s p p5 with
      | none=>none
      | some (_,p6)=>some (((A:Int),(t:Int),l),p6)) else none):=by
   unfold FrD;rw[Q];simp only;rw[Z];simp only;rw[r3];simp only;rw[r4];simp only
   rw[if_pos ⟨by omega,c2⟩]
  clear b6 b5 b4 b3 b2 b1 q4 b0 a9 A9 q3 A8 A7 A6 q A5 A4 A3 q1 A2 A1 q0 k1 k2 k3 k4 l1 l2 l3 l4 a1 a2 a3 a4 ha
  refine zpf gd rfl rfl (zi6 hR (by omega) (by omega)) ?_ ?_
  ·rintro v M' ⟨e1,rfl,D,pp,e4⟩
   have hg:Grow d ⟨M'.next,d.tr⟩:=⟨D.le,fun _ _=>rfl⟩
   repeat' first|with_reducible intro _|refine svb ?_|refine sc ?_ ?_<;>(intro h;try exact sz h)|(refine sgb ?_ ?_<;>(intro h;first|exact sz h|refine sy h ?_))|exact sq|fail
   rename_i m5 M6 f0 x1 x2
   have a5:M'.next<=M6.next:=by rw[x2];exact Nat.le_succ _
   exact⟨by rw[F,e1],rfl,Keep.wide (hK.trans D (fun i O=>.inl O)) a5,pp,At.wide e4 a5⟩
  ·rintro w M' ⟨l,p5,e1,hv,D,e4⟩
   rw[e1] at F
   simp only at F
   have e6:d.next<=M'.next:=D.le
   obtain⟨S,V,U,rfl,a7⟩:=SlI.vec hv
   have a0:=D.at A0 (fun h=>by omega)
   have G:=D.at N (fun h=>by omega)
   have b8:Keep (fun i=>i=a) M M':=hK.trans D (fun i O=>.inl O)
   refine zw1 ?_
   refine Wh ?_;intro n3 M6 B1 B2 B3 C B4 B5 B6
   have d2:z<M'.next:=G.2
   have c4:FrV C (.agg [I A,I t,.slice S l.length V U]) ((A:Int),(t:Int),l):=⟨S,V,U,rfl,a7.grow (xg)⟩
   have d8:=z7g Q
   have d9:=z7g Z
   have e0:=z3f r3
   have e2:=z5y r3
   have c0:=z5y r4
   have c1:=za5 n Y 0 [] c0.2 e1
   have c5:FrIn ((A:Int),(t:Int),l):=⟨(show I64 (A:Int) from by unfold I64;omega),(show I64 (t:Int) from by unfold I64;omega),by have:=c1.2.2;simp at this;show l.length<=_;omega,fun x hx=>zsz (z89 n Y 0 [] (fun _ h=>by cases h) e1 x hx)⟩
   have b9:Keep (fun i=>i=a) M C:=xk
   have d6:At C a (rdr s p5):=xm
   have c9:At C z (.cells true [I 0,I 0,.slice none 0 true 0] 72):=xm
   have d1:z<C.next:=by omega
   have e7:M.next<=C.next:=b9.le
   have c7:Vec d.next 1 3 intc C (.slice S l.length V U) l:=hv.grow (xg)
   have a6:z<d.next:=N.2
   have d3:a<n3:=by omega
   have d4:z<n3:=by omega
   have d5:n3<C.next:=B6.2
   clear B1 B2 B4 G a0 b8 hK hR N A0 D e4 hv a7
   repeat' first|with_reducible intro _|refine svb ?_|refine sc ?_ ?_<;>(intro h;try exact sz h)|((with_reducible first|apply zw|apply b_pure);exact gd;exact rfl;exact rfl;(first|exact z7i c4 c5))|((with_reducible first|apply x_mu|apply b_mu);exact gd;exact rfl;exact rfl;(first|exact zaq _ _);infer_instance)|(refine sgb ?_ ?_<;>(intro h;first|exact sz h|refine sy h ?_))|exact sq|fail
   ·rename_i M8 C1 C2 H
    refine⟨?_,rfl,xk,p5,xm⟩
    rw[F,if_neg]
    intro hh
    unfold errF at H
    rw[if_pos hh] at H
    exact H rfl
   rename_i M8 C1 C2 J
   have c3:frB ((A:Int),(t:Int),l)=true:=by
    by_cases hh:frB ((A:Int),(t:Int),l)=true
    ·exact hh
    ·unfold errF at J
     rw[if_neg hh] at J
     exact absurd J (by decide)
   rw[if_pos c3] at F
   refine x_rd gd rfl rfl (zu5 (f:=p) (p:=p5) (xm) hs (by omega) (by omega)) ?_ ?_
   ·intro j M2 X g3 q g4
    refine⟨?_,rfl,xk,q,g4⟩
    rw[F,j]
   intro u p6 j M9 X g3 g4
   rw[j] at F
   have e5:At M9 z (.cells true [I 0,I 0,.slice none 0 true 0] 72):=xm
   have d0:At M9 n3 (.cells true [I A,I t,.slice S l.length V U] 72):=xm
   have c8:Vec d.next 1 3 intc M9 (.slice S l.length V U) l:=(c7.grow C1).keep X (fun i O=>by subst O;omega)
   repeat' first|with_reducible intro _|refine svb ?_|refine sc ?_ ?_<;>(intro h;try exact sz h)|(refine sgb ?_ ?_<;>(intro h;first|exact sz h|refine sy h ?_))|exact sq|fail
   rename_i b7 D1 D2 D3
   refine kf ?_
   have a8:Vec d.next 1 3 intc b7 (.slice S l.length V U) l:=(c8.keep ((Keep.refl (fun i=>i=z) M9).upd D1 (.inl rfl)) (fun i O=>by subst O;exact a6))
   exact⟨((A:Int),(t:Int),l),p6,F,⟨_,rfl,Vec.low a8 hm⟩,xk,xm⟩
 ·refine⟨?_,rfl,xk,Y,xm⟩
  unfold FrD;rw[Q];simp only;rw[Z];simp only;rw[r3];simp only;rw[r4];simp only
  rw[if_neg fun h=>by omega]
 ·exfalso;assumption
def rc1:XRec:=⟨15,4,some 1,.seq (
 .ops [
  ⟨(some 5),.mv (.t 1),none⟩,
  ⟨(some 6),.isn true (.t 5),none⟩]) (
 .cond (.t 6) (
  .seq (
  .seq (
  .ops [
   ⟨(some 8),.mv (.t 1),none⟩,
   ⟨(some 9),.asr 349 (.agg []) true (.t 8),none⟩,
   ⟨(some 7),.mv (.t 9),none⟩,
   ⟨(some 10),.ext 0 (.t 7),none⟩,
   ⟨(some 11),.ext 1 (.t 7),none⟩,
   ⟨(some 2),.new 349 [],none⟩,
   ⟨none,.st 0 (.t 2) (.t 10),none⟩,
   ⟨(some 3),.mv (.t 11),none⟩]) (
  .seq (
  .ops [
   ⟨(some 12),.mv (.t 3),none⟩,
   ⟨(some 13),.un .not (.t 12),none⟩]) (
  .cond (.t 13) (
   .ops [
    ⟨(some 14),.mv (.t 1),none⟩,
    ⟨none,.pan (.t 14),none⟩]) (
   .skip)))) (
  .ops [
   ⟨none,.st 1 (.t 0) (.c (.bool false)),none⟩])) (
  .skip))⟩
def rd1:XRead:=⟨6,[⟨(some 2),.new 4 [(.bool false)],none⟩],some 3,.mkf 187 [] [(.t 2)],none,.t 3,[],some 4,.mv (.t 0),some 5,.t 4,[],[⟨none,.st 1 (.t 2) (.c (.bool true)),none⟩],[.cell1 2]⟩
theorem kc1:cRec Tryz.prog 187=some rc1:=by kernel_rfl
theorem kd1:cRead Tryz.prog 135=some rd1:=by kernel_rfl
theorem zuk{n:Nat}{M:Mem}:DfrOk Tryz.prog 187 [.ptr (some (n,0))] .nilIface M (fun M'=>M'=M):=by
 refine zq1 kc1 rfl ?_
 dsimp only[rc1,zipE,Nat.reduceAdd]
 refine Wh ?_
 refine z35 gd (v:=.bool false) rfl ?_
 refine Wh ?_;intro h
 exact⟨fun i h=>(by cases h),rfl,rfl⟩
theorem zuj{n:Nat}{b:Bool}{M:Mem}(j:At M n (.cells true [.bool b] 4)):DfrOk Tryz.prog 187 [.ptr (some (n,0))] bk M (fun M'=>Keep (fun i=>i=n) M M'/\At M' n (.cells true [.bool false] 4)):=by
 refine zq1 kc1 rfl ?_
 dsimp only[rc1,zipE,Nat.reduceAdd]
 have d:n<M.next:=j.2
 refine Wh ?_
 refine z35 gd (v:=.bool true) rfl ?_
 refine Wh ?_;intro h
 refine z35 gd (v:=.tup [.agg [],.bool true]) rfl ?_
 refine Wh ?_;intros;rename_i h _ _ _ _
 exact⟨fun i h=>(by cases h),rfl,xk,xm⟩
theorem zui{g:FuncId}{ca:List LV}{M:Mem}{F:Nat->Prop}{R R':Mem->Mem->Prop}(D:∀ i,F i->i<M.next)
  (h:∀ d,Grow M d->CallB Tryz.prog g ca d (fun v M'=>Keep F d M'/\R d M') (fun v M'=>v=bk/\Keep F d M'/\R' d M')) :
  zc Tryz.prog 135 [.func (.func g) [] ca] M (fun w M'=>∃ d j n,Grow M d/\M.next<=n/\n<d.next/\Keep F d j/\Keep (fun i=>i=n) j M'/\((w=.bool true/\R d j) ∨(w=.bool false/\R' d j))):=by
 refine zsw kd1 rfl ?_
 dsimp only[rd1,zipE,Nat.reduceAdd]
 refine Wh ?_;intro n d O V X
 have z:Grow M d:=O.grow
 have C:At d n (.cells true [.bool false] 4):=xm
 refine⟨.func (.func 187) [] [.ptr (some (n,0))],.func (.func g) [] ca,187,[],[.ptr (some (n,0))],[],g,[],ca,[],rfl,rfl,rfl,rfl,rfl,rfl,?_⟩
 refine(h d z).mono (fun v j ⟨m,B⟩=>?_) (fun v j ⟨Q,m,B⟩=>?_)
 ·have q:At j n (.cells true [.bool false] 4):=m.at C (fun A=>by have:=D n A;omega)
  have Y:=m.le
  dsimp only[putE]
  refine Wh ?_;intro G S U H
  obtain⟨t,u,rfl⟩:=zuk (n:=n) (M:=G)
  refine⟨t,u,_,.cell1 rfl (Rd1.of_at H rfl).1 .nil,d,j,n,z,by omega,by omega,m,xk,.inl ⟨rfl,B⟩⟩
 ·subst Q
  have q:At j n (.cells true [.bool false] 4):=m.at C (fun A=>by have:=D n A;omega)
  obtain⟨t,u,J,N⟩:=zuj q
  refine⟨t,u,_,.cell1 rfl (Rd1.of_at N rfl).1 .nil,d,j,n,z,by omega,by omega,m,J,.inr ⟨rfl,B⟩⟩
theorem znl{x d a:Nat}{s:ByteArray}{p:Nat}{M:Mem}{H J N:LV}(hx:At M x (.cells true [.ptr (some (a,0))] 273))(hf:At M d (.cells true [H,J,N] 72))(S:At M a (rdr s p))(m:d≠a)(V:s.size<=140737488355328)(U:p<=s.size) :
  CallB Tryz.prog 136 [.ptr (some (x,0)),.ptr (some (d,0))] M
   (fun _ M'=>Keep (fun i=>i=a∨i=d) M M' /\ ∃ fr q sl,FrD s p=some (fr,q)/\At M' a (rdr s q)/\At M' d (.cells true [I fr.1,I fr.2.1,sl] 72)/\Vec M.next 1 3 intc M' sl fr.2.2)
   (fun v M'=>v=bk/\Keep (fun i=>i=a∨i=d) M M'/\FrD s p=none /\ ∃ q,At M' a (rdr s q)):=by
 refine z38 Y136.2 rfl ?_
 delta Y136;refine un ?_
 have D:d<M.next:=hf.2
 repeat' first|with_reducible intro _|refine svb ?_|refine sc ?_ ?_<;>(intro h;try exact sz h)|(refine sgb ?_ ?_<;>(intro h;first|exact sz h|refine sy h ?_))|exact sq|fail
 refine ztc gd rfl rfl ((znd S V U).mono (fun _ _ h=>h) (fun v M' ⟨z,O,t,q,A⟩=>?_)) ?_
 ·exact⟨O,t.weaken (fun i j=>.inl j),z,q,A⟩
 rintro w u ⟨fr,q,z,⟨sl,rfl,G⟩,t,A⟩
 have C:At u d (.cells true [H,J,N] 72):=t.at hf m
 have F:Keep (fun i=>i=a∨i=d) M u:=t.weaken (fun i j=>.inl j)
 obtain⟨Y,ff,Z,rfl⟩:=G.shape
 refine x_st gd rfl rfl C rfl rfl rfl ?_
 intro X B h2 Q
 repeat' first|with_reducible intro _|refine svb ?_|refine sc ?_ ?_<;>(intro h;try exact sz h)|(refine sgb ?_ ?_<;>(intro h;first|exact sz h|refine sy h ?_))|exact sq|fail
 refine kf ?_
 exact⟨F.upd B (.inl (.inr rfl)),fr,q,_,z,At.upd_ne B m.symm A,Q,G.keep ((Keep.refl (fun i=>i=d) u).upd B (.inl rfl)) (fun i j=>by subst j;exact D)⟩
