/-
 Part of the proof of TapeRepairs. No condition beyond those in each theorem.
-/
import Derived.Test.YtbfnnllgdioccaaGreatDoorSC
import Derived.Test.YtbfnnllgdioccaaGreatDoorSA
import Derived.Test.YtbfnnllgdioccaaGreatDoorSB
import Derived.Test.YtbfnnllgdioccaaGreatDoorTW
import Derived.Test.YtbfnnllgdioccaaGreatDoorTX
section
open Go PvL Go.Proofs
set_option linter.unusedSimpArgs false
set_option linter.unusedVariables false
variable {μ:Md}
namespace Go.Proofs.YtbfnnllgdioccaaGreatDoor.C
theorem Sw.mem{n:Nat}{G G':Nat->Ky}(h:Sw 0 n G G')(k:Ky):(∃ t,t < n /\ G' t=k) ↔ ∃ t,t < n /\ G t=k:=by
 constructor
 ·rintro⟨t,ht,hk⟩
  have:=h.all (p:=fun k=>∃ t,t < n /\ G t=k) (fun t _ ht=>⟨t,ht,rfl⟩) t (Nat.zero_le _) ht
  rw[hk] at this;exact this
 ·induction h with
  | refl=>exact id
  | @step G' i j _ h1 h2 h3 h4 ih =>
   intro hk
   obtain⟨t,ht,hk⟩:=ih hk
   by_cases hi:t=i
   ·subst hi;exact⟨j,h4,by rw[sw_j];exact hk⟩
   ·by_cases hj:t=j
    ·subst hj;exact⟨i,h2,by rw[sw_i];exact hk⟩
    ·exact⟨t,ht,by rw[z4l hi hj];exact hk⟩
theorem zfu{ks:List Ky}:(List.range ks.length).map (fun i=>ks.getD i (0,0))=ks:=by
 refine List.ext_getElem (by simp) fun i h1 h2=>?_
 simp only[List.getElem_map,List.getElem_range]
 rw[List.getD_eq_getElem?_getD,List.getElem?_eq_getElem h2];rfl
theorem zop{M:Mem}{a:Option (Nat × Nat)}{f:Bool}{e:Nat}:z9 Tryz.prog 186 [.slice a 0 f e,I 0,I 0,cf] M (fun w M'=>M'=M):=by
 refine zb k186 rfl ?_
 dsimp only[x186,zM,zO,zI,zF,zS,zB,zL,zE,zN,zW,zC,zipE,Nat.reduceAdd]
 repeat' first|with_reducible intro _|refine sv ?_|refine su ?_|(refine sc ?_ ?_<;>(intro h;try exact sz h))|refine sg ?_ ?_<;>(intro h;first|exact sz h|refine sy h ?_)|exact sq|fail
 refine kf ?_
 rfl
theorem zot{M:Mem}{a:Option (Nat × Nat)}{f:Bool}{e:Nat}{lim:Int}:z9 Tryz.prog 168 [.slice a 0 f e,I 0,I 0,I lim,cf] M (fun w M'=>M'=M):=by
 refine zb k168 rfl ?_
 dsimp only[x168,zM,zO,zI,zF,zS,zB,zL,zE,zN,zW,zC,zipE,Nat.reduceAdd]
 repeat' first|with_reducible intro _|refine sv ?_|refine su ?_|(refine sc ?_ ?_<;>(intro h;try exact sz h))|((with_reducible first|apply zx|apply z0e|apply x_call0);exact gd;exact rfl;exact rfl;(first|exact zop))|refine sg ?_ ?_<;>(intro h;first|exact sz h|refine sy h ?_)|exact sq|fail
 rename_i hq
 subst hq
 repeat' first|with_reducible intro _|refine sv ?_|refine sc ?_ ?_<;>(intro h;try exact sz h)|refine sg ?_ ?_<;>(intro h;first|exact sz h|refine sy h ?_)|exact sq|fail
 refine kf ?_
 rfl
set_option maxHeartbeats 4000000 in
theorem zf3{M:Mem}{b:Nat}{v:LV}{ks:List Ky}(hv:Vec b 2 114 kyc M v ks)(hl:ks.length<=200)(hn:ks.Nodup) :
  z9 Tryz.prog 143 [v,cf] M (fun _ M'=>∃ ks',Vec b 2 114 kyc M' v ks' /\ ks'.Pairwise klt /\ (∀ k,k ∈ ks' ↔ k ∈ ks) /\ ks'.length=ks.length /\ Keep (fun i=>b<=i) M M'):=by
 have cl:=zoe (M:=M) (n:=ks.length) (by omega)
 have hw:=z3b (z:=(ks.length:Int)) (by omega)
 rcases hv with⟨rfl,rfl⟩|⟨i,rfl,hA,hbi⟩
 ·refine zb k143 rfl ?_
  dsimp only[x143,zM,zO,zI,zF,zS,zB,zL,zA,zE,zN,zW,zC,zipE,Nat.reduceAdd]
  repeat' first|with_reducible intro _|refine sv ?_|refine sc ?_ ?_<;>(intro h;try exact sz h)|((with_reducible first|apply zx|apply z0e|apply x_call0);exact gd;exact rfl;exact rfl;(first|exact cl))|refine sg ?_ ?_<;>(intro h;first|exact sz h|refine sy h ?_)|exact sq|fail
  rename_i hq
  obtain⟨k,rfl,hk1,hk2,rfl⟩:=hq
  repeat' first|with_reducible intro _|refine sv ?_|refine sc ?_ ?_<;>(intro h;try exact sz h)|((with_reducible first|apply zx|apply z0e|apply x_call0);exact gd;exact rfl;exact rfl;(first|exact zot))|refine sg ?_ ?_<;>(intro h;first|exact sz h|refine sy h ?_)|exact sq|fail
  rename_i hq
  subst hq
  refine kf ?_
  exact⟨[],.inl ⟨rfl,rfl⟩,List.Pairwise.nil,fun _=>Iff.rfl,rfl,Keep.refl _ _⟩
 ·have hT:KT M i ks.length (apE 114) (fun i=>ks.getD i (0,0)):=by
   show At M i (.cells true (tabL kyc (fun i=>ks.getD i (0,0)) ks.length) (apE 114))
   unfold tabL
   rw[zfu];exact hA
  have hij:Inj ks.length (fun i=>ks.getD i (0,0)):=fun x y hx hy hxy=>by
   simp only[List.getD_eq_getElem?_getD,List.getElem?_eq_getElem hx,List.getElem?_eq_getElem hy,Option.getD_some] at hxy
   unfold List.Nodup at hn
   rw[List.pairwise_iff_getElem] at hn
   rcases Nat.lt_trichotomy x y with h|h|h
   ·exact absurd hxy (hn x y hx hy h)
   ·exact h
   ·exact absurd hxy.symm (hn y x hy hx h)
  have hmem:∀ k,(∃ t,t < ks.length /\ ks.getD t (0,0)=k) ↔ k ∈ ks:=fun k=>by
   rw[List.mem_iff_getElem]
   constructor
   ·rintro⟨t,ht,h⟩;exact⟨t,ht,by rw[List.getD_eq_getElem?_getD,List.getElem?_eq_getElem ht] at h;exact h⟩
   ·rintro⟨t,ht,h⟩;exact⟨t,ht,by rw[List.getD_eq_getElem?_getD,List.getElem?_eq_getElem ht];exact h⟩
  refine zb k143 rfl ?_
  dsimp only[x143,zM,zO,zI,zF,zS,zB,zL,zA,zE,zN,zW,zC,zipE,Nat.reduceAdd]
  repeat' first|with_reducible intro _|refine sv ?_|refine sc ?_ ?_<;>(intro h;try exact sz h)|refine sg ?_ ?_<;>(intro h;first|exact sz h|refine sy h ?_)|exact sq|fail
  rw[hw]
  repeat' first|with_reducible intro _|refine sv ?_|refine sc ?_ ?_<;>(intro h;try exact sz h)|((with_reducible first|apply zx|apply z0e|apply x_call0);exact gd;exact rfl;exact rfl;(first|exact cl))|refine sg ?_ ?_<;>(intro h;first|exact sz h|refine sy h ?_)|exact sq|fail
  rename_i hq
  obtain⟨k,rfl,hk1,hk2,rfl⟩:=hq
  repeat' first|with_reducible intro _|refine sv ?_|refine sc ?_ ?_<;>(intro h;try exact sz h)|((with_reducible first|apply zx|apply z0e|apply x_call0);exact gd;exact rfl;exact rfl;(first|exact zqp (p:=i) (n:=ks.length) (f:=false) (e:=2) (by omega) (ks.length+1) (a:=0) (by omega) hT (Nat.le_refl _) (Nat.zero_le _) hij (.inl rfl) (by omega)))|refine sg ?_ ?_<;>(intro h;first|exact sz h|refine sy h ?_)|exact sq|fail
  rename_i hq
  obtain⟨G',hsw,hsr,hT',hkp⟩:=hq
  have hm2:=Sw.mem hsw
  have hij2:=hsw.inj (Nat.le_refl _) hij
  refine kf ?_
  refine⟨(List.range ks.length).map G',.inr ⟨i,by simp,hT',hbi⟩,?_,fun k=>?_,by simp,hkp.weaken (fun j hj=>by omega)⟩
  ·rw[List.pairwise_iff_getElem]
   intro x y hx hy hxy
   simp only[List.length_map,List.length_range] at hx hy
   simp only[List.getElem_map,List.getElem_range]
   rcases zhf (a:=G' x) (b:=G' y) (fun he=>by have:=hij2 x y hx hy he;omega) with h|h
   ·exact h
   ·exact absurd h (hsr x y (Nat.zero_le _) hxy hy)
  ·rw[List.mem_map,<- hmem,<- hm2]
   constructor
   ·rintro⟨t,ht,h⟩;exact⟨t,List.mem_range.1 ht,h⟩
   ·rintro⟨t,ht,h⟩;exact⟨t,List.mem_range.2 ht,h⟩
end Go.Proofs.YtbfnnllgdioccaaGreatDoor.C
end
section
open Go PvL
set_option linter.unusedSimpArgs false
set_option linter.unusedVariables false
namespace Go.Proofs.YtbfnnllgdioccaaGreatDoor.C
def FsV1(M:Mem)(a:Option (Nat × Nat))(L:List Fr):Prop:=L=[] ∨ ∃ i o,a=some (i,o) /\ ∀ k (hk:k < L.length),∃ b g,Rd M i (o+k*3) 3 [I L[k].1,I L[k].2.1,.slice b L[k].2.2.length g 1] /\ SlI M b L[k].2.2
def RlV1(M:Mem)(v:LV)(r:Rl):Prop:=∃ a f e,v=.agg [.str r.1,.slice a r.2.length f e] /\ FsV1 M a r.2
theorem FsV1.to{M:Mem}{a:Option (Nat × Nat)}{L:List Fr}(h:FsV1 M a L):FsV M a L :=
 h.imp id fun⟨i,o,h1,h2⟩=>⟨i,o,h1,fun k hk=>by
  obtain⟨b,g,h3,h4⟩:=h2 k hk
  exact⟨b,g,1,h3,h4⟩⟩
end Go.Proofs.YtbfnnllgdioccaaGreatDoor.C
end
section
open Go PvL Go.Proofs
set_option linter.unusedSimpArgs false
set_option linter.unusedVariables false
variable {μ:Md}
namespace Go.Proofs.YtbfnnllgdioccaaGreatDoor.C
theorem zod{M:Mem}{r:Nat}:z9 Tryz.prog 113 [.map (some r)] M (MkAt kseq (.cells true [.map (some r)] 107) M):=by
 refine zb k113 rfl ?_
 dsimp only[x113,zM,zO,zI,zF,zS,zB,zL,zA,zE,zN,zW,zC,zipE,Nat.reduceAdd]
 repeat' first|with_reducible intro _|refine sv ?_|refine sc ?_ ?_<;>(intro h;try exact sz h)|refine sg ?_ ?_<;>(intro h;first|exact sz h|refine sy h ?_)|exact sq|fail
 rename_i n1 M1 hN1 e1 e1'
 refine kf ?_
 exact⟨n1,rfl,At.new_same hN1,by omega,by omega,hN1.grow⟩
theorem zee{L:Mk}{i:Nat}(h:i < L.length):kAt L i=L[i].1:=by unfold kAt;rw[List.getElem?_eq_getElem h];rfl
theorem zmy{L:Mk}{is:List Nat}(hL:(L.map (·.1)).Nodup)(hnd:is.Nodup)(hall:∀ i,i < L.length ↔ i ∈ is):(is.map (kAt L)).Nodup /\ (∀ k,k ∈ is.map (kAt L) ↔ k ∈ L.map (·.1)) /\ (is.map (kAt L)).length<=L.length:=by
 refine⟨?_,fun k=>?_,?_⟩
 ·unfold List.Nodup at hnd hL ⊢
  rw[List.pairwise_map]
  refine hnd.imp_of_mem fun {i j} hi hj hne he=>?_
  have hi':=(hall i).2 hi
  have hj':=(hall j).2 hj
  rw[zee hi',zee hj'] at he
  refine hne (zcd (bs:=(List.range L.length)) List.nodup_range (by simpa using hi') (by simpa using hj') ?_)
  simp only[List.getElem_range]
  rw[List.pairwise_iff_getElem] at hL
  rcases Nat.lt_trichotomy i j with h|h|h
  ·exact absurd (by rw[List.getElem_map,List.getElem_map];exact he) (hL i j (by simpa using hi') (by simpa using hj') h)
  ·exact h
  ·exact absurd (by rw[List.getElem_map,List.getElem_map];exact he.symm) (hL j i (by simpa using hj') (by simpa using hi') h)
 ·rw[List.mem_map,List.mem_map]
  constructor
  ·rintro⟨i,hi,rfl⟩
   have hi':=(hall i).2 hi
   exact⟨L[i],List.getElem_mem hi',(zee hi').symm⟩
  ·rintro⟨p,hp,rfl⟩
   obtain⟨i,hi,rfl⟩:=List.mem_iff_getElem.1 hp
   exact⟨i,(hall i).1 hi,zee hi⟩
 ·rw[List.length_map]
  exact pig L.length is hnd fun i hi=>(hall i).2 hi
theorem zgb{M:Mem}{pb r clk:Nat}{ty:TypeId}{L:Mk}{bs:List Nat}(hpb:At M pb (.cells true [.map (some r)] ty))(hm:At M r (.map (encK L) bs clk))(hok:StOk bs clk L.length)(hL:L.length<=1000)(hN:(L.map (·.1)).Nodup) :
  CallN Tryz.prog 142 [kseq pb] M (fun w M'=>∃ ks:List Ky,ks.Nodup /\ (∀ k,k ∈ ks ↔ k ∈ L.map (·.1)) /\ ks.length<=L.length /\ Vec M.next 2 114 kyc M' w ks /\ Grow M M'):=by
 refine z3d k142 rfl ?_
 dsimp only[x142,zM,zO,zI,zF,zS,zB,zL,zA,zE,zN,zW,zC,zipE,Nat.reduceAdd]
 repeat' first|with_reducible intro _|refine sv ?_|refine sc ?_ ?_<;>(intro h;try exact sz h)|refine sg ?_ ?_<;>(intro h;first|exact sz h|refine sy h ?_)|exact sq|fail
 refine z8p (by exact gd) rfl rfl (zd1 hpb hm hok hL) ?_
 rintro w M' ⟨is,hnd,hall,hv,hg⟩
 obtain⟨h1,h2,h3⟩:=zmy hN hnd hall
 obtain⟨a,f,e,rfl⟩:=hv.shape
 repeat' first|with_reducible intro _|refine sv ?_|refine sc ?_ ?_<;>(intro h;try exact sz h)|refine sg ?_ ?_<;>(intro h;first|exact sz h|refine sy h ?_)|exact sq|fail
 refine kf ?_
 exact⟨_,h1,h2,h3,hv,hg⟩
theorem zbl{M:Mem}{pb r clk:Nat}{ty:TypeId}{L:Mk}{bs:List Nat}(hpb:At M pb (.cells true [.map (some r)] ty))(hm:At M r (.map (encK L) bs clk))(hok:StOk bs clk L.length)(hL:L.length<=200)(hN:(L.map (·.1)).Nodup) :
  CallN Tryz.prog 112 [kseq pb,cf] M (fun w M'=>∃ ks:List Ky,ks.Pairwise klt /\ (∀ k,k ∈ ks ↔ k ∈ L.map (·.1)) /\ ks.length<=L.length /\ Vec M.next 2 114 kyc M' w ks /\ Grow M M'):=by
 refine z3d k112 rfl ?_
 dsimp only[x112,zM,zO,zI,zF,zS,zB,zL,zA,zE,zN,zW,zC,zipE,Nat.reduceAdd]
 repeat' first|with_reducible intro _|refine sv ?_|refine sc ?_ ?_<;>(intro h;try exact sz h)|refine sg ?_ ?_<;>(intro h;first|exact sz h|refine sy h ?_)|exact sq|fail
 refine z8p (by exact gd) rfl rfl (zgb hpb hm hok (by omega) hN) ?_
 rintro w M' ⟨ks,h1,h2,h3,hv,hg⟩
 obtain⟨a,f,e,rfl⟩:=hv.shape
 repeat' first|with_reducible intro _|refine sv ?_|refine sc ?_ ?_<;>(intro h;try exact sz h)|((with_reducible first|apply zx|apply z0e|apply x_call0);exact gd;exact rfl;exact rfl;(first|exact zf3 hv (by omega) h1))|refine sg ?_ ?_<;>(intro h;first|exact sz h|refine sy h ?_)|exact sq|fail
 rename_i hq
 obtain⟨ks',hv',h4,h5,h6,hk⟩:=hq
 have hg2:=Keep.to_grow' hg hk (fun i hi=>hi)
 repeat' first|with_reducible intro _|refine sv ?_|refine sc ?_ ?_<;>(intro h;try exact sz h)|refine sg ?_ ?_<;>(intro h;first|exact sz h|refine sy h ?_)|exact sq|fail
 refine kf ?_
 exact⟨ks',h4,fun k=>(h5 k).trans (h2 k),by omega,hv',hg2⟩
abbrev FW:=Ky × Option (Nat × Nat) × Nat × Bool × Nat
abbrev fwc(x:FW):List LV:=[I x.1.1,I x.1.2,.slice x.2.1 x.2.2.1 x.2.2.2.1 x.2.2.2.2]
def FwV(M:Mem)(x:FW)(f:Fr):Prop:=x.1=fky f /\ x.2.2.1=f.2.2.length /\ SlI M x.2.1 f.2.2
inductive FwL (M:Mem):List FW->List Fr->Prop
 | nil:FwL M [] []
 | cons {x:FW} {f:Fr} {xs:List FW} {fs:List Fr} (h:FwV M x f) (h':FwL M xs fs):FwL M (x :: xs) (f :: fs)
theorem FwL.len{M:Mem}{xs:List FW}{fs:List Fr}(h:FwL M xs fs):xs.length=fs.length:=by
 induction h with
 | nil=>rfl
 | cons _ _ ih=>simp[ih]
theorem FwL.at{M:Mem}{xs:List FW}{fs:List Fr}(h:FwL M xs fs):∀ {k:Nat} (h1:k < xs.length) (h2:k < fs.length),FwV M xs[k] fs[k]:=by
 induction h with
 | nil=>intro k h1;simp at h1
 | cons h _ ih =>
  intro k h1 h2
  cases k with
  | zero=>exact h
  | succ k=>exact ih (by simpa using h1) (by simpa using h2)
theorem FwV.grow{M M':Mem}{x:FW}{f:Fr}(h:FwV M x f)(hg:Grow M M'):FwV M' x f:=⟨h.1,h.2.1,h.2.2.grow hg⟩
theorem zh2{b:Nat}{ty:TypeId}{M:Mem}{v:LV}{xs:List FW}{fs:List Fr}(hv:Vec b 3 ty fwc M v xs)(hl:FwL M xs fs):∃ a f e,v=.slice a fs.length f e /\ FsV M a fs:=by
 obtain⟨a,f,e,h1,h2⟩:=hv.rd (fun _ _=>rfl)
 refine⟨a,f,e,by rw[<-hl.len];exact h1,?_⟩
 rcases h2 with rfl|⟨i,o,rfl,h3⟩
 ·left
  have:=hl.len
  exact List.length_eq_zero_iff.1 (by rw[<-this];rfl)
 ·refine .inr ⟨i,o,rfl,fun k hk=>?_⟩
  have hk':k < xs.length:=by rw[hl.len];exact hk
  have h4:=h3 k hk'
  obtain⟨g1,g2,g3⟩:=hl.at hk' hk
  refine⟨xs[k].2.1,xs[k].2.2.2.1,xs[k].2.2.2.2,?_,g3⟩
  have e1:xs[k].1.1=fs[k].1:=congrArg Prod.fst g1
  have e2:xs[k].1.2=fs[k].2.1:=congrArg Prod.snd g1
  rw[<-e1,<- e2,<- g2]
  exact h4
inductive FwL1 (M:Mem):List FW->List Fr->Prop
 | nil:FwL1 M [] []
 | cons {x:FW} {f:Fr} {xs:List FW} {fs:List Fr} (h:FwV M x f) (h1:f.2.2 ≠ []->x.2.2.2.2=1) (h':FwL1 M xs fs):FwL1 M (x :: xs) (f :: fs)
theorem FwL1.l{M:Mem}{xs:List FW}{fs:List Fr}(h:FwL1 M xs fs):FwL M xs fs:=by
 induction h with
 | nil=>exact .nil
 | cons h _ _ ih=>exact .cons h ih
theorem FwL1.snoc{M:Mem}{xs:List FW}{fs:List Fr}{x:FW}{f:Fr}(h:FwL1 M xs fs)(h':FwV M x f)(h1:f.2.2 ≠ []->x.2.2.2.2=1):FwL1 M (xs ++ [x]) (fs ++ [f]):=by
 induction h with
 | nil=>exact .cons h' h1 .nil
 | cons h h2 _ ih=>exact .cons h h2 ih
theorem FwL1.grow{M M':Mem}{xs:List FW}{fs:List Fr}(h:FwL1 M xs fs)(hg:Grow M M'):FwL1 M' xs fs:=by
 induction h with
 | nil=>exact .nil
 | cons h h2 _ ih=>exact .cons (h.grow hg) h2 ih
theorem FwL1.one{M:Mem}{xs:List FW}{fs:List Fr}(h:FwL1 M xs fs):∀ {k:Nat} (h1:k < xs.length) (h2:k < fs.length),fs[k].2.2 ≠ []->xs[k].2.2.2.2=1:=by
 induction h with
 | nil=>intro k h1;simp at h1
 | cons h h2 _ ih =>
  intro k g1 g2
  cases k with
  | zero=>exact h2
  | succ k=>exact ih (by simpa using g1) (by simpa using g2)
theorem zmx{b:Nat}{ty:TypeId}{M:Mem}{v:LV}{xs:List FW}{fs:List Fr}(hv:Vec b 3 ty fwc M v xs)(hl1:FwL1 M xs fs)(hne:∀ x ∈ fs,x.2.2 ≠ []):∃ a f e,v=.slice a fs.length f e /\ FsV1 M a fs:=by
 have hl:=hl1.l
 obtain⟨a,f,e,h1,h2⟩:=hv.rd (fun _ _=>rfl)
 refine⟨a,f,e,by rw[<-hl.len];exact h1,?_⟩
 rcases h2 with rfl|⟨i,o,rfl,h3⟩
 ·left
  have:=hl.len
  exact List.length_eq_zero_iff.1 (by rw[<-this];rfl)
 ·refine .inr ⟨i,o,rfl,fun k hk=>?_⟩
  have hk':k < xs.length:=by rw[hl.len];exact hk
  have h4:=h3 k hk'
  obtain⟨g1,g2,g3⟩:=hl.at hk' hk
  have g4:=hl1.one hk' hk (hne _ (List.getElem_mem hk))
  refine⟨xs[k].2.1,xs[k].2.2.2.1,?_,g3⟩
  have e1:xs[k].1.1=fs[k].1:=congrArg Prod.fst g1
  have e2:xs[k].1.2=fs[k].2.1:=congrArg Prod.snd g1
  rw[<-e1,<- e2,<- g2,<- g4]
  exact h4
theorem zea{m:Nat}{x:FW}{M M':Mem}{ty:TypeId}(hn:New M m (.cells true (fwc x) ty) M'):z0d 3 1 (.slice (some (m,0)) 1 true 3) M'=some ([x].flatMap fwc) :=
 z33 (enc:=fwc) (l:=[x]) (fun _ _=>rfl) (fun k' hk'=>z1v (enc:=fwc) (l:=[x]) (At.new_same hn) (fun _ _=>rfl) hk')
set_option maxHeartbeats 8000000 in
theorem zjf{M:Mem}{r:Nat}{R:Rk}{J:List Fr}(hR:RkM M r R)(hJ:RJ R J)(hne:∀ x ∈ J,x.2.2 ≠ [])(hlen:R.length<=1000000) :
  CallN Tryz.prog 64 [.map (some r)] M (fun w M'=>((J.length<=128 /\ ∃ a f e,w=.tup [.slice a J.length f e,.bool true] /\ FsV1 M' a J) ∨(128 < J.length /\ w=.tup [zsl,.bool false])) /\ Grow M M'):=by
 obtain⟨L,bs,clk,hm,hok,hL⟩:=hR
 have hLl:=hL.len
 have hkeys:=hL.keys
 have hJl:=hJ.len
 have hN:(L.map (·.1)).Nodup:=by rw[hkeys];exact hJ.n
 refine z3d k64 rfl ?_
 dsimp only[x64,zM,zO,zI,zF,zS,zB,zL,zA,zE,zN,zW,zC,zipE,Nat.reduceAdd]
 have hel:(encK L).length=L.length:=by simp[encK]
 by_cases hbig:128 < R.length
 ·repeat' first|with_reducible intro _|refine sv ?_|refine sc ?_ ?_<;>(intro h;try exact sz h)|refine sg ?_ ?_<;>(intro h;first|exact sz h|refine sy h ?_)|exact sq|fail
  refine z1w (by exact gd) (ziv rfl hm) ?_
  repeat' first|with_reducible intro _|refine sv ?_|refine sc ?_ ?_<;>(intro h;try exact sz h)|refine sg ?_ ?_<;>(intro h;first|exact sz h|refine sy h ?_)|exact sq|fail
  all_goals try(exfalso;omega)
  refine kf ?_
  exact⟨.inr ⟨by omega,rfl⟩,Grow.refl _⟩
 repeat' first|with_reducible intro _|refine sv ?_|refine sc ?_ ?_<;>(intro h;try exact sz h)|refine sg ?_ ?_<;>(intro h;first|exact sz h|refine sy h ?_)|exact sq|fail
 refine z1w (by exact gd) (ziv rfl hm) ?_
 repeat' first|with_reducible intro _|refine sv ?_|refine sc ?_ ?_<;>(intro h;try exact sz h)|((with_reducible first|apply zpu|apply d_mkat);exact gd;exact rfl;exact rfl;(first|exact zod))|refine sg ?_ ?_<;>(intro h;first|exact sz h|refine sy h ?_)|exact sq|fail
 all_goals try(exfalso;omega)
 rename_i pb M1 hpb q1 q1' hg1 q1''
 refine z8p (by exact gd) rfl rfl (zbl hpb (At.grow hg1 hm) hok (by omega) hN) ?_
 rintro w M2 ⟨ks,hsrt,hmem,hkl,hv,hg2⟩
 have hks:=hJ.frames hsrt (fun k=>by rw[hmem,hkeys])
 have hgM2:=hg1.trans hg2
 obtain⟨a2,f2,e2,rfl,hrd⟩:=hv.rd (fun _ _=>rfl)
 repeat' first|with_reducible intro _|refine sv ?_|refine sc ?_ ?_<;>(intro h;try exact sz h)|refine sg ?_ ?_<;>(intro h;first|exact sz h|refine sy h ?_)|exact sq|fail
 have hb0:M2.next=M2.next:=rfl
 refine z8 (fun z E ms M'=>∃(k:Nat) (xs:List FW) (v:LV),z=ks.length - k /\ k<=ks.length /\ ms=[] /\ Has E [(0,.map (some r)),(12,.slice a2 ks.length f2 e2),(13,I ks.length),(14,I k),(4,v)] /\ Vec M2.next 3 48 fwc M' v xs /\ FwL1 M xs ((ks.take k).map (frK R)) /\ Grow M2 M')
  ?_ (ks.length - 0) _ _ _ ⟨0,[],_,rfl,Nat.zero_le _,rfl,.cons rfl (.cons rfl (.cons rfl (.cons rfl (.cons rfl .nil)))),Vec.nil,.nil,Grow.refl _⟩
 rintro z E ms M3 ⟨k,xs,v,rfl,hk,rfl,hE,hvx,hfx,hg3⟩
 refine zy hE ?_
 obtain⟨a3,f3,e3,rfl⟩:=hvx.shape
 by_cases hlast:k=ks.length
 ·subst hlast
  rw[List.take_length,hks] at hfx
  have hfx':=hfx.grow (hgM2.trans hg3)
  repeat' first|with_reducible intro _|refine sv ?_|refine sc ?_ ?_<;>(intro h;try exact sz h)|refine sg ?_ ?_<;>(intro h;first|exact sz h|refine sy h ?_)|exact sq|fail
  refine kf ?_
  obtain⟨a,f,e,he,hfs⟩:=zmx hvx hfx' hne
  exact⟨.inl ⟨by omega,a,f,e,by rw[he];rfl,hfs⟩,hgM2.trans hg3⟩
 have hlt:k < ks.length:=by omega
 rcases hrd with h0|⟨i2,o2,rfl,hrd⟩
 ·rw[h0] at hlt;exact absurd hlt (Nat.not_lt_zero _)
 have hr3:=(hrd k hlt).grow hg3
 have hkk:=hL.look ks[k]
 have hfr:frK R ks[k]=(ks[k].1,ks[k].2,(lkK R ks[k]).getD []):=rfl
 have htk:(ks.take (k+1)).map (frK R)=(ks.take k).map (frK R) ++ [frK R ks[k]]:=by rw[List.take_succ_eq_append_getElem hlt,List.map_append];rfl
 obtain⟨av,fv,ev,hve,hv1,hvs⟩:=hkk
 generalize (lkK R ks[k]).getD []=smp at *
 have hmr:=At.grow (hgM2.trans hg3) hm
 have hlke:=hve
 generalize ks[k]=kk at *
 have hxl:xs.length=k:=by rw[hfx.l.len];simp;omega
 (have hrd0:=hr3;repeat' (first|(with_reducible intro _)|refine sv ?_|(refine sc ?_ ?_<;>(intro h;try exact sz h))|refine sg ?_ ?_<;>(intro h;first|exact sz h|refine sy h ?_)|exact sq|fail))
 rename_i n4 M4 hN4 q4 q4' M5 hU5 q5 hA5
 have hm5:At M5 r (.map (encK L) bs clk):=by have:=hm.2;have:=hgM2.le;have:=hg3.le;exact xm
 have lk5:∀ {E:Env} {x y:XO} (m:Mem),At m r (.map (encK L) bs clk)->xval E x=some (.map (some r))->xval E y=some (kyv kk)->zf Tryz.prog (.lkp 114 zsl false x y) E m=some (.val (.slice av smp.length fv ev) m):=fun m hm hx hy=>by
  have:=zhm hm hx hy
  rw[hve] at this;exact this
 have hkp5:Keep (fun _=>False) M3 M5:=xk
 have hl5:=hkp5.le
 have hvx5:=hvx.keep hkp5 (fun i hi=>hi.elim)
 have hl3:=hg3.le
 have hg5:Grow M2 M5:=xg
 have hrl:=hm.2
 have hM2:=hgM2.le
 clear hU5 hN4
 repeat' first|with_reducible intro _|refine sv ?_|refine sc ?_ ?_<;>(intro h;try exact sz h)|refine sg ?_ ?_<;>(intro h;first|exact sz h|refine sy h ?_)|exact sq|fail
 refine z6l (by exact gd) (lk5 _ hm5 rfl rfl) (fun m=>At m r (.map (encK L) bs clk)) (fun m hm=>lk5 m hm rfl rfl) ?_
 repeat' first|with_reducible intro _|refine sv ?_|refine sc ?_ ?_<;>(intro h;try exact sz h)|refine sg ?_ ?_<;>(intro h;first|exact sz h|refine sy h ?_)|exact sq|fail
 rename_i n6 M6 hN6 q6 q6'
 have hvx6:=hvx5.grow hN6.grow
 have hg6:Grow M2 M6:=hg5.trans hN6.grow
 have hfx2:FwL1 M (xs ++ [(kk,av,smp.length,fv,ev)]) ((ks.take (k+1)).map (frK R)):=by
  rw[htk,hfr]
  exact hfx.snoc ⟨rfl,rfl,hvs⟩ hv1
 have hl6:=hg6.le
 refine zbt (l':=[(kk,av,smp.length,fv,ev)]) (by exact gd) hvx6 rfl rfl rfl (by simp) (by simp;omega) rfl (zea (x:=(kk,av,smp.length,fv,ev)) hN6) (fun _=>rfl) (fun _=>rfl) (by omega) ?_
 intro v7 M7 hv7 e7 hk7
 have hg7:Grow M2 M7:=Keep.to_grow' hg6 hk7 (fun i hi=>hi.1)
 obtain⟨a7,f7,e7',rfl⟩:=hv7.shape
 have hob:∀ i,i < M2.next->¬(M2.next<=i /\ ∃ o n f e,LV.slice a3 xs.length f3 e3=.slice (some (i,o)) n f e):=fun i hi h=>by omega
 repeat' first|with_reducible intro _|refine sv ?_|refine sc ?_ ?_<;>(intro h;try exact sz h)|refine sg ?_ ?_<;>(intro h;first|exact sz h|refine sy h ?_)|exact sq|fail
 exact zd (ks.length - (k+1)) (by omega) ⟨k+1,_,_,rfl,by omega,rfl,.cons rfl (.cons rfl (.cons rfl (.cons rfl (.cons rfl .nil)))),hv7,hfx2,hg7⟩
section
variable {P:Program} [Orc P] {sz:Nat} {E:Env} {M:Mem} {K:Env->Mem->Prop} {l:List XG} {g:Option (Nat × Bool)} {st:List Mem} {n:Nat} {xs:List (Nat × Nat × (Mem->Prop))} {ld:List (XG × XK)} {x y z':XO} {r:Nat} {R:Rk} {k:Ky} {v:LV} {smp:List Int}
end
def RkB(R:Rk):Prop:=∀ k,((lkK R k).getD []).length<=64
theorem RkB.nil:RkB []:=fun k=>Nat.zero_le _
theorem RkB.add{R:Rk}(h:RkB R){f:Fr}(hf:f.2.2.length<=64):RkB (rkA R f):=fun k=>by
 unfold rkA
 rw[zhj]
 split
 ·rw[Option.getD_some,z20]
  have:=h (fky f)
  omega
 ·exact h k
def FrOk(L:List Fr):Prop:=∀ x ∈ L,frB x=true
theorem FrOk.k{L:List Fr}(h:FrOk L):∀ x ∈ L,FrK x:=fun x hx=>by have:=z7v (h x hx);exact⟨this.1,this.2.1,this.2.2.1,this.2.2.2.1⟩
theorem z3w{x:Fr}(h:frB x=true):1<=x.2.2.length /\ x.2.2.length<=64:=by
 have:=zmw (x:=x) (by unfold errF;rw[h];rfl)
 omega
theorem z9e{α β:Type}{f:β->α->β}{b:β}{L:List α}{k:Nat}(h:k < L.length):(L.take (k+1)).foldl f b=f ((L.take k).foldl f b) L[k]:=by
 rw[List.take_succ_eq_append_getElem h,List.foldl_append];rfl
theorem Rd1.nem{M:Mem}{i o r:Nat}{v:LV}{es:List (LV × LV)}{bs:List Nat}{c:Nat}(h:Rd1 M i o v)(hm:At M r (.map es bs c)):i ≠ r:=fun e=>by
 subst e
 have h1:=h.1
 unfold load1 atCells at h1
 rw[hm.1] at h1
 cases h1
theorem Rd.nem{M:Mem}{i o n r:Nat}{v:List LV}{es:List (LV × LV)}{bs:List Nat}{c:Nat}(h:Rd M i o n v)(hm:At M r (.map es bs c)):i ≠ r:=fun e=>by
 subst e
 have h1:=h.1
 unfold loadN atCells at h1
 rw[hm.1] at h1
 cases h1
theorem SlI.keepm{M M':Mem}{r:Nat}{es:List (LV × LV)}{bs:List Nat}{c:Nat}{a:Option (Nat × Nat)}{l:List Int}(h:SlI M a l)(hm:At M r (.map es bs c))(hk:Keep (fun i=>i=r) M M'):SlI M' a l :=
 h.imp id fun⟨i,o,h1,h2⟩=>⟨i,o,h1,fun k hk'=>(h2 k hk').keep hk (Rd1.nem (h2 k hk') hm)⟩
theorem FsV.keepm{M M':Mem}{r:Nat}{es:List (LV × LV)}{bs:List Nat}{c:Nat}{a:Option (Nat × Nat)}{L:List Fr}(h:FsV M a L)(hm:At M r (.map es bs c))(hk:Keep (fun i=>i=r) M M'):FsV M' a L :=
 h.imp id fun⟨i,o,h1,h2⟩=>⟨i,o,h1,fun k hk'=>by
  obtain⟨b,g,u,h3,h4⟩:=h2 k hk'
  exact⟨b,g,u,h3.keep hk (Rd.nem h3 hm),SlI.keepm h4 hm hk⟩⟩
end Go.Proofs.YtbfnnllgdioccaaGreatDoor.C
end
section
open Go PvL
set_option linter.unusedSimpArgs false
set_option linter.unusedVariables false
namespace Go.Proofs.YtbfnnllgdioccaaGreatDoor.C
def oJ:Option (List Int)->Option (List Int)->Option (List Int)
 | none,b=>b
 | some a,none=>some a
 | some a,some b=>some (z19 a b)
structure GdL (J:List Fr):Prop where
 s:SrtJ J
 b:∀ x ∈ J,frB x=true
theorem zqx{x:Fr}(h:frB x=true):FrK x:=by have:=z7v h;exact⟨this.1,this.2.1,this.2.2.1,this.2.2.2.1⟩
theorem GdL.k{J:List Fr}(h:GdL J):∀ x ∈ J,FrK x:=fun x hx=>zqx (h.b x hx)
theorem zkj{a b:List Int}(ha:smsB a=true)(hb:smsB b=true):smsB (z19 a b)=true:=by
 unfold smsB btB at *
 simp only[Bool.and_eq_true,decide_eq_true_eq] at *
 rw[z20]
 exact⟨by omega,zng ha.2 hb.2⟩
theorem zjv{g f:Fr}(hg:frB g=true)(hf:frB f=true):frB (g.1,g.2.1,z19 g.2.2 f.2.2)=true:=by
 have h1:=z7v hg
 have h2:=z7v hf
 unfold frB btB
 simp only[Bool.and_eq_true,decide_eq_true_eq]
 exact⟨⟨h1.1,h1.2.1⟩,⟨h1.2.2.1,h1.2.2.2.1⟩,zkj h1.2.2.2.2 h2.2.2.2.2⟩
theorem zg2{f:Fr}(hf:frB f=true):∀ {J:List Fr},(∀ x ∈ J,frB x=true)->∀ x ∈ addR J f,frB x=true
 | [],_=>fun x hx=>by
  have hx:x ∈ [f]:=hx
  have:x=f:=by simpa using hx
  rw[this];exact hf
 | g :: l,h=>fun x hx=>by
  unfold addR at hx
  split at hx
  ·rcases List.mem_cons.1 hx with rfl|hx
   ·exact zjv (h g (by simp)) hf
   ·exact h x (by simp[hx])
  ·split at hx
   ·rcases List.mem_cons.1 hx with rfl|hx
    ·exact hf
    ·exact h x hx
   ·rcases List.mem_cons.1 hx with rfl|hx
    ·exact h x (by simp)
    ·exact zg2 hf (fun y hy=>h y (by simp[hy])) x hx
theorem zgz{L:List Fr}:∀ {J:List Fr},(∀ x ∈ J,frB x=true)->(∀ x ∈ L,frB x=true)->∀ x ∈ L.foldl addR J,frB x=true:=by
 induction L with
 | nil=>intro J h _;exact h
 | cons f L ih=>intro J h h';exact ih (zg2 (h' f (by simp)) h) fun x hx=>h' x (by simp[hx])
def jnL(a b:List Fr):List Fr:=z0u (a ++ b)
def zRl:Rl:=(⟨#[]⟩,[])
def mergeF(x y:Rl):Rl × Int :=
 if zd7 x=0 then(if zd7 y=0 then(if x.1=y.1 then(if (z0u (x.2 ++ y.2)).length<=128 then((x.1,z0u (x.2 ++ y.2)),0) else(zRl,6)) else(zRl,2)) else(zRl,zd7 y)) else(zRl,zd7 x)
def mgOk(x y:Rl):Prop:=zd7 x=0 /\ zd7 y=0 /\ x.1=y.1 /\ (jnL x.2 y.2).length<=128
end Go.Proofs.YtbfnnllgdioccaaGreatDoor.C
end
section
open Go PvL Go.Proofs
set_option linter.unusedSimpArgs false
set_option linter.unusedVariables false
variable {μ:Md}
namespace Go.Proofs.YtbfnnllgdioccaaGreatDoor.C
theorem z2v(M:Mem):RlV M (.agg [.str ⟨#[]⟩,.slice none 0 true 0]) zRl:=⟨none,true,0,rfl,.inl rfl⟩
theorem RkM.nil{M M':Mem}{r:Nat}(hN:New M r (.map [] [] 0) M'):RkM M' r []:=⟨[],[],0,At.new_same hN,⟨rfl,List.nodup_nil,fun _ h=>nomatch h⟩,.nil⟩
theorem Rd1.ner{M:Mem}{i o n:Nat}{v:Int}{own:Bool}{s:ByteArray}{p:Option (Nat × Nat)}{k:Nat}{f:Bool}{e:Nat}{ty:TypeId}(h:Rd1 M i o (I v))(hm:At M n (.cells own [.str s,.slice p k f e] ty)):i ≠ n:=fun he=>by
 subst he
 have h1:=h.1
 unfold load1 atCells at h1
 rw[hm.1] at h1
 have h1:PvL.nth [LV.str s,.slice p k f e] o=some (I v):=h1
 match o,h1 with
 | 0,h1=>cases h1
 | 1,h1=>cases h1
 | o+2,h1=>cases h1
theorem Rd.ner{M:Mem}{i o n:Nat}{x y z:LV}{own:Bool}{s:ByteArray}{p:Option (Nat × Nat)}{k:Nat}{f:Bool}{e:Nat}{ty:TypeId}(h:Rd M i o 3 [x,y,z])(hm:At M n (.cells own [.str s,.slice p k f e] ty)):i ≠ n:=fun he=>by
 subst he
 have h1:=h.1
 unfold loadN atCells at h1
 rw[hm.1] at h1
 have h1:take' 3 (drop' o [LV.str s,.slice p k f e])=some [x,y,z]:=h1
 match o,h1 with
 | 0,h1=>cases h1
 | 1,h1=>cases h1
 | 2,h1=>cases h1
 | o+3,h1=>cases h1
theorem SlI.updr{M M':Mem}{n:Nat}{lb:LB}{own:Bool}{s:ByteArray}{p:Option (Nat × Nat)}{k:Nat}{f:Bool}{e:Nat}{ty:TypeId}{a:Option (Nat × Nat)}{l:List Int}(h:SlI M a l)(hm:At M n (.cells own [.str s,.slice p k f e] ty))(hu:Upd M n lb M'):SlI M' a l :=
 h.imp id fun⟨i,o,h1,h2⟩=>⟨i,o,h1,fun k hk'=>Rd1.upd_ne hu (Rd1.ner (h2 k hk') hm) (h2 k hk')⟩
theorem FsV.updr{M M':Mem}{n:Nat}{lb:LB}{own:Bool}{s:ByteArray}{p:Option (Nat × Nat)}{k:Nat}{f:Bool}{e:Nat}{ty:TypeId}{a:Option (Nat × Nat)}{L:List Fr}(h:FsV M a L)(hm:At M n (.cells own [.str s,.slice p k f e] ty))(hu:Upd M n lb M'):FsV M' a L :=
 h.imp id fun⟨i,o,h1,h2⟩=>⟨i,o,h1,fun k hk'=>by
  obtain⟨b,g,u,h3,h4⟩:=h2 k hk'
  exact⟨b,g,u,Rd.upd_ne hu (Rd.ner h3 hm) h3,SlI.updr h4 hm hu⟩⟩
theorem FsV1.updr{M M':Mem}{n:Nat}{lb:LB}{own:Bool}{s:ByteArray}{p:Option (Nat × Nat)}{k:Nat}{f:Bool}{e:Nat}{ty:TypeId}{a:Option (Nat × Nat)}{L:List Fr}(h:FsV1 M a L)(hm:At M n (.cells own [.str s,.slice p k f e] ty))(hu:Upd M n lb M'):FsV1 M' a L :=
 h.imp id fun⟨i,o,h1,h2⟩=>⟨i,o,h1,fun k hk'=>by
  obtain⟨b,g,h3,h4⟩:=h2 k hk'
  exact⟨b,g,Rd.upd_ne hu (Rd.ner h3 hm) h3,SlI.updr h4 hm hu⟩⟩
def GeB(N:Nat->Prop)(v:LV):Prop:=∀ i o n f e,v=.slice (some (i,o)) n f e->n ≠ 0->¬ N i
theorem GeB.vec{N:Nat->Prop}{b' sz:Nat}{ty:TypeId}{M:Mem}{v:LV}{l:List Int}(h:Vec b' sz ty intc M v l)(hb:∀ i,N i->i < b'):GeB N v:=fun i o n f e hv _=>by
 rcases h with⟨_,rfl⟩|⟨j,rfl,_,h3⟩
 ·cases hv
 ·cases hv;exact fun hN=>by have:=hb _ hN;omega
theorem SlV.ge{N N':Nat->Prop}{M:Mem}{v:LV}{l:List Int}(h:SlV M v l)(hg:GeB N v)(hb:∀ i,N' i->N i ∨ M.next<=i):GeB N' v:=fun i o n f e hv hn hN=>by
 have hg0:=hg i o n f e hv hn
 obtain⟨a,f',e',rfl,h0,h2⟩:=h
 cases hv
 rcases h2 with rfl|⟨i',o',h3,h4⟩
 ·exact absurd rfl hn
 ·cases h3
  have h5:=(h4 0 (by omega)).2
  rcases hb i hN with h6|h6
  ·exact hg0 h6
  ·omega
theorem SlV.keepb{N:Nat->Prop}{M M':Mem}{F:Nat->Prop}{v:LV}{l:List Int}(h:SlV M v l)(hg:GeB N v)(hk:Keep F M M')(hF:∀ i,F i->N i):SlV M' v l:=by
 obtain⟨a,f,e,rfl,h0,h2⟩:=h
 refine⟨a,f,e,rfl,h0,h2.imp id fun⟨i,o,h3,h4⟩=>⟨i,o,h3,fun k hk'=>(h4 k hk').keep hk (fun hf=>?_)⟩⟩
 exact hg i o _ _ _ (by rw[h3]) (by omega) (hF i hf)
theorem zlv{b:Nat->Prop}{L:Mk}{k:Ky}{v:LV}(h:∀ p ∈ L,GeB b p.2)(hv:GeB b v):∀ p ∈ stV L k v,GeB b p.2:=by
 induction L with
 | nil =>
  intro p hp
  obtain rfl:p=(k,v):=by simpa [stV] using hp
  exact hv
 | cons q L ih =>
  obtain⟨x,y⟩:=q
  intro p hp
  rw[zfx] at hp
  split at hp
  ·rcases List.mem_cons.1 hp with rfl|hp
   ·exact hv
   ·exact h p (List.mem_cons_of_mem _ hp)
  ·rcases List.mem_cons.1 hp with rfl|hp
   ·exact h _ List.mem_cons_self
   ·exact ih (fun p hp=>h p (List.mem_cons_of_mem _ hp)) p hp
def RkMb(b:Nat->Prop)(M:Mem)(r:Nat)(R:Rk):Prop:=∃ L bs clk,At M r (.map (encK L) bs clk) /\ StOk bs clk L.length /\ RkL M L R /\ ∀ p ∈ L,GeB b p.2
theorem RkL.keepb{b:Nat->Prop}{M M':Mem}{F:Nat->Prop}{L:Mk}{R:Rk}(h:RkL M L R)(hg:∀ p ∈ L,GeB b p.2)(hk:Keep F M M')(hF:∀ i,F i->b i):RkL M' L R:=by
 induction h with
 | nil=>exact .nil
 | cons h _ ih=>exact .cons (h.keepb (hg _ List.mem_cons_self) hk hF) (ih (fun p hp=>hg p (List.mem_cons_of_mem _ hp)))
theorem RkMb.keep{b:Nat->Prop}{M M':Mem}{F:Nat->Prop}{r:Nat}{R:Rk}(h:RkMb b M r R)(hk:Keep F M M')(hF:∀ i,F i->b i)(hr:¬ b r):RkMb b M' r R:=by
 obtain⟨L,bs,clk,h1,h2,h3,h4⟩:=h
 exact⟨L,bs,clk,hk.at h1 (fun hf=>hr (hF r hf)),h2,h3.keepb h4 hk hF,h4⟩
theorem RkMb.grow{b:Nat->Prop}{M M':Mem}{r:Nat}{R:Rk}(h:RkMb b M r R)(hg:Grow M M'):RkMb b M' r R:=by
 obtain⟨L,bs,clk,h1,h2,h3,h4⟩:=h
 exact⟨L,bs,clk,h1.grow hg,h2,h3.grow hg,h4⟩
theorem RkL.ge{b b':Nat->Prop}{M:Mem}{L:Mk}{R:Rk}(h:RkL M L R)(hg:∀ p ∈ L,GeB b p.2)(hb:∀ i,b' i->b i ∨ M.next<=i):∀ p ∈ L,GeB b' p.2:=by
 induction h with
 | nil=>exact fun _ h=>nomatch h
 | cons h _ ih =>
  intro p hp
  rcases List.mem_cons.1 hp with rfl|hp
  ·exact h.ge (hg _ List.mem_cons_self) hb
  ·exact ih (fun p hp=>hg p (List.mem_cons_of_mem _ hp)) p hp
theorem RkMb.ge{b b':Nat->Prop}{M:Mem}{r:Nat}{R:Rk}(h:RkMb b M r R)(hb:∀ i,b' i->b i ∨ M.next<=i):RkMb b' M r R:=by
 obtain⟨L,bs,clk,h1,h2,h3,h4⟩:=h
 exact⟨L,bs,clk,h1,h2,h3,h3.ge h4 hb⟩
theorem RkM.b{M:Mem}{r:Nat}{R:Rk}(h:RkM M r R):RkMb (fun _=>False) M r R:=by
 obtain⟨L,bs,clk,h1,h2,h3⟩:=h
 exact⟨L,bs,clk,h1,h2,h3,fun p _ i o n f e _ _ h=>h⟩
theorem RkMb.rk{b:Nat->Prop}{M:Mem}{r:Nat}{R:Rk}(h:RkMb b M r R):RkM M r R:=by
 obtain⟨L,bs,clk,h1,h2,h3,h4⟩:=h
 exact⟨L,bs,clk,h1,h2,h3⟩
section
variable {M M':Mem} {L:Mk} {R:Rk} {r:Nat} {k:Ky} {sz:Nat} {E:Env} {x y z':XO}
theorem znd{b0:Nat->Prop}{v:LV}{l:List Int}(h:RkMb b0 M r R)(hv:SlV M v l)(hvb:GeB b0 v)(hx:xval E x=some (.map (some r)))(hy:xval E y=some (kyv k))(hz:xval E z'=some v):∃ lb M',zf Tryz.prog (.mset 114 x y z') E M=some (.skip M') /\ Upd M r lb M' /\ RkMb b0 M' r (stK R k l):=by
 obtain⟨L,bs,clk,hm,hok,hL,hge⟩:=h
 have key:∀ R,(ob (findL Tryz.prog 114 (kyv k) (encK L) 0) fun p=>oe p
   (some (R1.skip (M.upd r (some (.map (encK L ++ [(kyv k,v)]) (bs ++ [clk]) (clk+1))))))
   (fun p=>pr p fun i q=>pr q fun k' _=>guard' (lvEq (kyv k) k') (some (.skip (M.upd r (some (.map (setVal (encK L) i (kyv k) v) bs clk)))))))=some R->zf Tryz.prog (.mset 114 x y z') E M=some R:=fun R hR=>by
  show ob (xval E x) _=_
  rw[hx,z0,hy,z0,hz,z0,zhc,z6]
  show atMap M r _=_
  unfold atMap
  rw[hm.1,z0]
  exact hR
 cases hl:lkM L k with
 | none =>
  obtain⟨h1,h2⟩:=z9a k L 0 hl
  refine⟨_,_,key _ (by rw[h1,z0];rfl),⟨rfl⟩,stV L k v,bs ++ [clk],clk+1,?_,?_,(hL.updm hm ⟨rfl⟩).put k (hv.updm hm ⟨rfl⟩),zlv hge hvb⟩
  ·rw[<-h2 v]
   exact At.upd_same ⟨rfl⟩ hm
  ·refine⟨by rw[List.length_append,hok.len,zie,hl];rfl,?_,fun b hb=>?_⟩
   ·rw[List.nodup_append]
    exact⟨hok.nodup,by simp,fun a ha b hb=>by
     obtain rfl:b=clk:=by simpa using hb
     have:=hok.lt a ha;omega⟩
   ·rcases List.mem_append.1 hb with hb|hb
    ·have:=hok.lt b hb;omega
    ·obtain rfl:b=clk:=by simpa using hb
     omega
 | some b =>
  obtain⟨j,h1,h2⟩:=z9b k L 0 b hl
  refine⟨_,_,key (.skip (M.upd r (some (.map (setVal (encK L) j (kyv k) v) bs clk)))) (by
   rw[h1,z0,Nat.zero_add]
   show guard' (lvEq (kyv k) (kyv k)) _=_
   rw[z44,z6]),⟨rfl⟩,stV L k v,bs,clk,?_,⟨by rw[hok.len,zie,hl];rfl,hok.nodup,hok.lt⟩,(hL.updm hm ⟨rfl⟩).put k (hv.updm hm ⟨rfl⟩),zlv hge hvb⟩
  rw[<-h2 v]
  exact At.upd_same ⟨rfl⟩ hm
end
section
variable {P:Program} [Orc P] {sz:Nat} {E:Env} {M:Mem} {K:Env->Mem->Prop} {l:List XG} {g:Option (Nat × Bool)} {st:List Mem} {n:Nat} {xs:List (Nat × Nat × (Mem->Prop))} {ld:List (XG × XK)} {x y z':XO} {r:Nat} {R:Rk} {k:Ky} {v:LV} {smp:List Int}
theorem zgt[Orc Tryz.prog](hg:GOn E g){b0:Nat->Prop}(hm:RkMb b0 M r R)(hv:SlV M v smp)(hvb:GeB b0 v)(hx:xval E x=some (.map (some r)))(hy:xval E y=some (kyv k))(hz:xval E z'=some v)
  (hk:∀ lb M',Upd M r lb M'->M'.next=M.next->RkMb b0 M' r (stK R k smp)->XD Tryz.prog sz ld E M' (M' :: st) (n+1) xs K):XD Tryz.prog sz ((⟨none,.mset 114 x y z',g⟩,.anchor) :: ld) E M st n xs K:=by
 obtain⟨lb,M',h1,h2,h3⟩:=znd hm hv hvb hx hy hz
 exact zit hg h1 (hk lb M' h2 (by rw[h2.eq];exact Mem.next_upd _ _ _) h3)
end
set_option maxHeartbeats 8000000 in
theorem zoh{b0:Nat->Prop}{M:Mem}{r:Nat}{R:Rk}{a:Option (Nat × Nat)}{L:List Fr}{f:Bool}{e:Nat}(hR:RkMb b0 M r R)(hb0:∀ i,b0 i->i < M.next)(hs:FsV M a L)(hL:FrOk L)(hB:RkB R)(hln:L.length<=1000000) :
  z9 Tryz.prog 63 [.map (some r),.slice a L.length f e] M (fun _ M'=>RkMb b0 M' r (L.foldl rkA R) /\ Keep (fun i=>i=r) M M'):=by
 refine zb k63 rfl ?_
 dsimp only[x63,zM,zO,zI,zF,zS,zB,zL,zA,zE,zN,zW,zC,zipE,Nat.reduceAdd]
 repeat' first|with_reducible intro _|refine sv ?_|refine sc ?_ ?_<;>(intro h;try exact sz h)|refine sg ?_ ?_<;>(intro h;first|exact sz h|refine sy h ?_)|exact sq|fail
 refine z8 (fun z E ms M'=>∃(k:Nat),z=L.length - k /\ k<=L.length /\ ms=[] /\ Has E [(0,.map (some r)),(6,.slice a L.length f e),(7,I L.length),(8,I k)] /\ RkMb b0 M' r ((L.take k).foldl rkA R) /\ RkB ((L.take k).foldl rkA R) /\ FsV M' a L /\ Keep (fun i=>i=r) M M')
  ?_ (L.length - 0) _ _ _ ⟨0,rfl,Nat.zero_le _,rfl,.cons rfl (.cons rfl (.cons rfl (.cons rfl .nil))),hR,hB,hs,Keep.refl _ _⟩
 rintro z E ms M1 ⟨k,rfl,hk,rfl,hE,hR1,hB1,hs1,hk1⟩
 refine zy hE ?_
 by_cases hlast:k=L.length
 ·subst hlast
  rw[List.take_length] at hR1
  repeat' first|with_reducible intro _|refine sv ?_|refine sc ?_ ?_<;>(intro h;try exact sz h)|refine sg ?_ ?_<;>(intro h;first|exact sz h|refine sy h ?_)|exact sq|fail
  refine kf ?_
  exact⟨hR1,hk1⟩
 have hlt:k < L.length:=by omega
 obtain⟨i,o,b,g,u,rfl,hr,hfv⟩:=hs1.rd hlt
 have hfo:=hL (fe L k) (by rw[zbz hlt];exact List.getElem_mem hlt)
 have hfl:=z3w hfo
 have hnext:(L.take (k+1)).foldl rkA R=rkA ((L.take k).foldl rkA R) (fe L k):=by rw[z9e hlt,zbz hlt]
 generalize hRk:(L.take k).foldl rkA R=R1 at *
 generalize hF:fe L k=F at *
 (have hrd0:=hr;repeat' (first|(with_reducible intro _)|refine sv ?_|(refine sc ?_ ?_<;>(intro h;try exact sz h))|refine sg ?_ ?_<;>(intro h;first|exact sz h|refine sy h ?_)|exact sq|fail))
 rename_i n2 M2 hN2 q2 q2' M3 hU3 q3 hA3
 have hg13:Grow M1 M3:=xg
 have hs3:=hs1.grow hg13
 have hR3:RkMb b0 M3 r R1:=hR1.grow (xg)
 have hfv3:=hfv.grow hg13
 have hkp3:Keep (fun i=>i=r) M M3:=xk
 clear hU3 hN2
 have ck:=fun M' (hg:Grow M3 M')=>zmm (hfv3.grow hg)
 repeat' first|with_reducible intro _|refine sv ?_|refine sc ?_ ?_<;>(intro h;try exact sz h)|((with_reducible first|apply z0g|apply z0h|apply d_pure0);exact gd;exact rfl;exact rfl;(first|exact ck _ (xg)))|refine sg ?_ ?_<;>(intro h;first|exact sz h|refine sy h ?_)|exact sq|fail
 rename_i M4 hg4 q4 M5 hg5 q5
 have hg35:=hg4.trans hg5
 have hR5:=hR3.grow hg35
 have hs5:=hs3.grow hg35
 have hfv5:=hfv3.grow hg35
 have hA5:=At.grow hg35 hA3
 have hkp5:Keep (fun i=>i=r) M M5:=hkp3.grow hg35
 obtain⟨Lm,bs,clk,hm5,hok,hLm,hge⟩:=id hR5
 have hlk:=hLm.look (fky F)
 have hbl:=hB1 (fky F)
 have hst:rkA R1 F=stK R1 (fky F) (z19 ((lkK R1 (fky F)).getD []) F.2.2):=rfl
 generalize (lkK R1 (fky F)).getD []=old at *
 obtain⟨av,fv,ev,hve,hv1,hvs⟩:=hlk
 have lk5:∀ {E:Env} {x y:XO} (m:Mem),At m r (.map (encK Lm) bs clk)->xval E x=some (.map (some r))->xval E y=some (kyv (fky F))->zf Tryz.prog (.lkp 114 zsl false x y) E m=some (.val (.slice av old.length fv ev) m):=fun m hm hx hy=>by
  have:=zhm hm hx hy
  rw[hve] at this;exact this
 have hm3:At M4 n2 (.cells true [I F.1,I F.2.1,.slice b F.2.2.length g u] 48):=At.grow hg4 hA3
 refine z6l (by exact gd) (lk5 _ hm5 rfl rfl) (fun m=>At m r (.map (encK Lm) bs clk)) (fun m hm=>lk5 m hm rfl rfl) ?_
 obtain⟨_,_,_,hfe,hfs⟩:=id hfv5
 cases hfe
 have cb:=zoj hvs hfs (by omega) (by omega) (fa:=fv) (ea:=ev) (fb:=g) (eb:=u)
 clear hg4 hg5
 (have hrd0:=z9w (Rd.of_at (i:=n2) (o:=0+2) hA5 rfl);repeat' (first|(with_reducible intro _)|refine sv ?_|(refine sc ?_ ?_<;>(intro h;try exact sz h))|((with_reducible first|apply zx|apply z0e|apply x_call0);exact gd;exact rfl;exact rfl;(first|exact cb))|refine sg ?_ ?_<;>(intro h;first|exact sz h|refine sy h ?_)|exact sq|fail))
 rename_i w6 M6 hq
 obtain⟨hv6,hg6⟩:=hq
 have hsv6:=SlV.vec hv6
 have hge6:GeB b0 w6:=GeB.vec hv6 (fun i hi=>Nat.lt_of_lt_of_le (hb0 i hi) hkp5.le)
 obtain⟨a6,f6,e6,rfl,hs6⟩:=SlI.vec hv6
 have hR6:=hR5.grow hg6
 have hFs6:=hs5.grow hg6
 have hm6:=At.grow hg6 hm5
 refine zgt (smp:=z19 old F.2.2) (k:=fky F) (by exact gd) hR6 hsv6 hge6 rfl rfl rfl ?_
 intro lb M7 hU7 e7 hR7
 have hk67:Keep (fun i=>i=r) M6 M7:=(Keep.refl _ _).upd hU7 (.inl rfl)
 have hFs7:=FsV.keepm hFs6 hm6 hk67
 have hk7:Keep (fun i=>i=r) M M7:=(hkp5.grow hg6).upd hU7 (.inl rfl)
 rw[<-hst] at hR7
 clear hU7
 repeat' first|with_reducible intro _|refine sv ?_|refine sc ?_ ?_<;>(intro h;try exact sz h)|refine sg ?_ ?_<;>(intro h;first|exact sz h|refine sy h ?_)|exact sq|fail
 exact zd (L.length - (k+1)) (by omega) ⟨k+1,rfl,by omega,rfl,.cons rfl (.cons rfl (.cons rfl (.cons rfl .nil))),by rw[hnext];exact hR7,by rw[hnext];exact hB1.add hfl.2,hFs7,hk7⟩
end Go.Proofs.YtbfnnllgdioccaaGreatDoor.C
end
section
open Go PvL Go.Proofs
set_option linter.unusedSimpArgs false
set_option linter.unusedVariables false
namespace Go.Proofs.YtbfnnllgdioccaaGreatDoor.C
abbrev bk:LV:=.iface 185 (.agg [])
abbrev rdr(s:ByteArray)(p:Nat):LB:=.cells true [.str s,I p] 120
abbrev RdQ{β:Type}(enc:β->LV)(a:Nat)(s:ByteArray)(r:Option (β × Nat))(M:Mem):LV->Mem->Prop:=RdOk enc a (rdr s) r M
abbrev RdN{β:Type}(a:Nat)(s:ByteArray)(r:Option (β × Nat))(M:Mem):LV->Mem->Prop:=RdNo a (rdr s) r bk M
abbrev encI(n:Nat):LV:=I n
def oneB(s:ByteArray)(p:Nat):Option (Nat × Nat):=if p < s.size then some (byteAt s p,p+1) else none
def twoB(s:ByteArray)(p:Nat):Option (Nat × Nat):=match oneB s p with|none=>none|some (a,p)=>match oneB s p with|none=>none|some (b,p)=>some (256*a+b,p)
theorem z94(q:Bool)(M:Mem):CallB Tryz.prog 120 [.bool q] M (MuOk q M) (MuNo q bk M):=by
 refine z2p k120 rfl ?_
 dsimp only[x120,zM,zO,zI,zF,zS,zB,zL,zA,zE,zN,zW,zC,zipE,Nat.reduceAdd]
 cases q with
 | true =>
  repeat' first|with_reducible intro _|refine svb ?_|(refine sc ?_ ?_<;>(intro h;try exact sz h))|(refine sgb ?_ ?_<;>(intro h;first|exact sz h|refine sy h ?_))|exact sq|fail
  refine kf ?_
  exact⟨rfl,rfl,rfl⟩
 | false =>
  repeat' first|with_reducible intro _|refine svb ?_|(refine sc ?_ ?_<;>(intro h;try exact sz h))|(refine sgb ?_ ?_<;>(intro h;first|exact sz h|refine sy h ?_))|exact sq|fail
  refine z1w gd (v:=bk) rfl ?_
  exact zo3 gd (v:=bk) rfl ⟨rfl,rfl,rfl⟩
theorem zqn(s:ByteArray)(hs:s.size<=1000000000000000)(p:Nat)(M:Mem):z9 Tryz.prog 147 [.str s,I p] M (fun w M'=>w=.tup [I (if p < s.size then(byteAt s p:Int) else 0),.bool (decide (p < s.size))] /\ M'=M):=by
 refine zb k147 rfl ?_
 dsimp only[x147,zM,zO,zI,zF,zS,zB,zL,zE,zN,zW,zC,zipE,Nat.reduceAdd]
 have hb2:=z0p s p
 by_cases hlt:p < s.size
 ·rw[if_pos hlt,decide_eq_true hlt]
  repeat' first|with_reducible intro _|refine sv ?_|refine sc ?_ ?_<;>(intro h;try exact sz h)|refine sg ?_ ?_<;>(intro h;first|exact sz h|refine sy h ?_)|exact sq|fail
  all_goals first|((refine kf ?_);exact⟨rfl,rfl⟩)|(exfalso;omega)
 ·rw[if_neg hlt,decide_eq_false hlt]
  repeat' first|with_reducible intro _|refine sv ?_|refine sc ?_ ?_<;>(intro h;try exact sz h)|refine sg ?_ ?_<;>(intro h;first|exact sz h|refine sy h ?_)|exact sq|fail
  all_goals first|((refine kf ?_);exact⟨rfl,rfl⟩)|(exfalso;omega)
theorem zgj{a:Nat}{s:ByteArray}{p:Nat}{M:Mem}(ha:At M a (rdr s p))(hs:s.size<=1000000000000000):CallB Tryz.prog 121 [.ptr (some (a,0))] M (RdQ encI a s (oneB s p) M) (RdN a s (oneB s p) M):=by
 refine z2p k121 rfl ?_
 dsimp only[x121,zM,zO,zI,zF,zS,zB,zL,zA,zE,zN,zW,zC,zipE,Nat.reduceAdd]
 repeat' first|with_reducible intro _|refine svb ?_|(refine sc ?_ ?_<;>(intro h;try exact sz h))|((with_reducible first|apply z02|apply zbc);exact gd;exact rfl;exact rfl;(first|exact zqn s hs p M))|((with_reducible first|apply x_mu|apply b_mu);exact gd;exact rfl;exact rfl;(first|exact z94 _ _);infer_instance)|(refine sgb ?_ ?_<;>(intro h;first|exact sz h|refine sy h ?_))|exact sq|fail
 ·rename_i h
  exact⟨if_neg h,rfl,Keep.refl _ _,p,ha⟩
 ·rename_i h M' h1 h2 h3
  refine kf ?_
  rw[if_pos h]
  exact⟨byteAt s p,p+1,if_pos h,rfl,xk,h3⟩
theorem zj8{a b:Nat}(ha:a < 256):shlZ (a:Int) 8+(b:Int)=((256*a+b:Nat):Int):=by
 rw[shl8 (a:Int)];omega
theorem z8d{s:ByteArray}{p b q:Nat}(h:oneB s p=some (b,q)):p < s.size /\ b=byteAt s p /\ q=p+1:=by
 unfold oneB at h
 split at h
 ·cases h;exact⟨by assumption,rfl,rfl⟩
 ·cases h
theorem z30{s:ByteArray}{p b q:Nat}(h:oneB s p=some (b,q)):b < 256:=by
 obtain⟨_,rfl,_⟩:=z8d h
 exact z0p s p
theorem zgm{a:Nat}{s:ByteArray}{p:Nat}{M:Mem}(ha:At M a (rdr s p))(hs:s.size<=1000000000000000):CallB Tryz.prog 148 [.ptr (some (a,0))] M (RdQ encI a s (twoB s p) M) (RdN a s (twoB s p) M):=by
 refine z2p k148 rfl ?_
 dsimp only[x148,zM,zO,zI,zF,zS,zB,zL,zE,zN,zW,zC,zipE,Nat.reduceAdd]
 repeat' first|with_reducible intro _|refine svb ?_|(refine sc ?_ ?_<;>(intro h;try exact sz h))|((with_reducible first|apply x_rd|apply b_rd);exact gd;exact rfl;exact rfl;(first|exact zgj (by assumption) hs))|(refine sgb ?_ ?_<;>(intro h;first|exact sz h|refine sy h ?_))|exact sq|fail
 ·rename_i h1 M1 h2 h3 q h4
  refine⟨?_,rfl,h2,q,h4⟩
  unfold twoB;rw[h1]
 rename_i b q h1 M1 h2 h3 h4
 have hb:=z30 h1
 have h8:=shl8 (b:Int)
 repeat' first|with_reducible intro _|refine svb ?_|(refine sc ?_ ?_<;>(intro h;try exact sz h))|(refine sgb ?_ ?_<;>(intro h;first|exact sz h|refine sy h ?_))|exact sq|fail
 refine x_rd gd rfl rfl (zgj h4 hs) ?_ ?_
 ·intro h5 M2 h6 h7 q2 h8
  refine⟨?_,rfl,h2.trans h6 (fun i hi=>.inl hi),q2,h8⟩
  unfold twoB;rw[h1];simp only;rw[h5]
 intro b2 q2 h5 M2 h6 h7 h9
 have hb2:=z30 h5
 repeat' first|with_reducible intro _|refine svb ?_|(refine sc ?_ ?_<;>(intro h;try exact sz h))|(refine sgb ?_ ?_<;>(intro h;first|exact sz h|refine sy h ?_))|exact sq|fail
 refine kf ?_
 refine⟨256*b+b2,q2,?_,?_,h2.trans h6 (fun i hi=>.inl hi),h9⟩
 ·unfold twoB;rw[h1];simp only;rw[h5]
 ·show I _=I _
  rw[zj8 hb]
def codeS(s:ByteArray):Nat->Nat->Nat->Nat->Option (Nat × Nat)
 | 0,_,_,_=>none
 | j+1,p,n,u=>match oneB s p with
  | none=>none
  | some (b,q)=>if b < 128 then(if 0 < b ∨ u=1 then some (n+b % 128*u,q) else none) else codeS s j q (n+b % 128*u) (u*128)
def codeB(s:ByteArray)(p:Nat):Option (Nat × Nat):=codeS s 3 p 0 1
set_option maxHeartbeats 4000000 in
theorem zmi{a:Nat}{s:ByteArray}{p:Nat}{M:Mem}(ha:At M a (rdr s p))(hs:s.size<=1000000000000000):CallB Tryz.prog 172 [.ptr (some (a,0))] M (RdQ encI a s (codeB s p) M) (RdN a s (codeB s p) M):=by
 refine z2p k172 rfl ?_
 dsimp only[x172,zM,zO,zI,zF,zS,zB,zL,zE,zN,zW,zC,zipE,Nat.reduceAdd]
 repeat' first|with_reducible intro _|refine svb ?_|(refine sc ?_ ?_<;>(intro h;try exact sz h))|(refine sgb ?_ ?_<;>(intro h;first|exact sz h|refine sy h ?_))|exact sq|fail
 refine z8 (fun z E ms M1=>∃ j q n u,z=j /\ 1<=j /\ j<=3 /\ ms=[] /\ (u:Nat)=128 ^ (3 - j) /\ n < u /\ codeB s p=codeS s j q n u /\ Keep (fun i=>i=a) M M1 /\ At M1 a (rdr s q) /\ Has E [(0,.ptr (some (a,0))),(3,I (n:Nat)),(4,I u)])
  ?_ 3 _ _ _ ⟨3,p,0,1,rfl,by omega,by omega,rfl,rfl,by omega,rfl,Keep.refl _ _,ha,.cons rfl (.cons rfl (.cons rfl .nil))⟩
 rintro z E ms M1 ⟨j,q,n,u,rfl,h1,h3,rfl,hu,hn,hc,hk,ha1,hE⟩
 refine zy hE ?_
 obtain⟨j,rfl⟩:∃ i,z=i+1:=⟨z - 1,by omega⟩
 have hu3:j=2 /\ u=1 ∨ j=1 /\ u=128 ∨ j=0 /\ u=16384:=by
  have:j=0 ∨ j=1 ∨ j=2:=by omega
  rcases this with rfl|rfl|rfl<;>simp at hu<;>omega
 unfold codeS at hc
 repeat' first|with_reducible intro _|refine svb ?_|(refine sc ?_ ?_<;>(intro h;try exact sz h))|(refine sgb ?_ ?_<;>(intro h;first|exact sz h|refine sy h ?_))|exact sq|fail
 refine x_rd gd rfl rfl (zgj ha1 hs) ?_ ?_
 ·intro g1 M2 g2 g3 q2 g4
  refine⟨?_,rfl,hk.trans g2 (fun i hi=>.inl hi),q2,g4⟩
  rw[hc,g1]
 intro b q2 g1 M2 g2 g3 g4
 have hb:=z30 g1
 rw[g1] at hc
 simp only at hc
 have hbu:(b % 128*u:Nat)<=127*u:=Nat.mul_le_mul_right _ (by omega)
 have e1:((b:Int) % 128)=((b % 128:Nat):Int):=by omega
 have e2:((b:Int) % 128)*(u:Int)=((b % 128*u:Nat):Int):=by rw[e1];push_cast;rfl
 have hk2:Keep (fun i=>i=a) M M2:=hk.trans g2 (fun i hi=>.inl hi)
 clear hk g2 g3 ha1 ha
 repeat' first|with_reducible intro _|refine svb ?_|(refine sc ?_ ?_<;>(intro h;try exact sz h))|((with_reducible first|apply x_mu|apply b_mu);exact gd;exact rfl;exact rfl;(first|exact z94 _ _);infer_instance)|(refine sgb ?_ ?_<;>(intro h;first|exact sz h|refine sy h ?_))|exact sq|fail
 all_goals first
  |(exfalso;assumption)
  |(refine⟨?_,rfl,hk2,q2,g4⟩;rw[hc,if_pos (by omega),if_neg (by omega)])
  |(refine⟨?_,rfl,hk2,q2,g4⟩;rw[hc,if_neg (by omega)];obtain rfl:j=0:=(by omega);rfl)
  |((refine kf ?_);refine⟨n+b % 128*u,q2,?_,?_,hk2,g4⟩
    ·rw[hc,if_pos (by omega),if_pos (by omega)]
    ·show I _=I _
     rw[e2];rfl)
  |(refine zd j (by omega) ⟨j,q2,n+b % 128*u,u*128,rfl,by omega,by omega,rfl,?_,?_,?_,hk2,g4,.cons rfl (.cons ?_ (.cons ?_ .nil))⟩
    ·rw[hu,<- Nat.pow_succ];congr 1;omega
    ·have:=Nat.mul_le_mul_right u (show b % 128<=127 by omega);omega
    ·rw[hc,if_neg (by omega)]
    ·show some (I _)=some (I _)
     rw[e2];push_cast;rfl
    ·show some (I _)=some (I _)
     push_cast;rfl)
theorem ze5{s:ByteArray}:∀(j p n u:Nat) {c q:Nat},n < u->codeS s j p n u=some (c,q)->c < u*128 ^ j
 | 0,p,n,u,c,q,hn,h=>by cases h
 | j+1,p,n,u,c,q,hn,h=>by
  unfold codeS at h
  split at h
  ·cases h
  ·rename_i b p' hb
   have h1:b % 128*u<=127*u:=Nat.mul_le_mul_right _ (by omega)
   split at h
   ·split at h
    ·cases h
     have:u*128<=u*128 ^ (j+1):=Nat.mul_le_mul_left _ (by rw[Nat.pow_succ];exact Nat.le_mul_of_pos_left _ (Nat.pow_pos (by omega)))
     omega
    ·cases h
   ·have:=ze5 j p' _ _ (show n+b % 128*u < u*128 by omega) h
    rwa [Nat.mul_assoc,<- Nat.pow_succ'] at this
theorem zjm{s:ByteArray}{p c q:Nat}(h:codeB s p=some (c,q)):c < 2097152:=by
 have:=ze5 3 p 0 1 (by omega) h
 simpa using this
def nxS(last:Int)(c:Nat):Int:=if c % 2=0 then last+((c / 2:Nat) - 1) else last - (c / 2:Nat)
def smpB(s:ByteArray):Nat->Nat->Int->List Int->Option (List Int × Nat)
 | 0,p,_,acc=>some (acc,p)
 | k+1,p,last,acc=>match codeB s p with
  | none=>none
  | some (c,q)=>if c=0 then smpB s k q last (acc ++ [40000]) else if c=1 then smpB s k q last (acc ++ [40001]) else if knB (nxS last c) then smpB s k q (nxS last c) (acc ++ [nxS last c]) else none
def SmQ(a:Nat)(s:ByteArray)(r:Option (List Int × Nat))(M:Mem)(w:LV)(M':Mem):Prop:=∃ l q,r=some (l,q) /\ Vec M.next 1 3 intc M' w l /\ Keep (fun i=>i=a) M M' /\ At M' a (rdr s q)
set_option maxHeartbeats 4000000 in
theorem zf5{a:Nat}{s:ByteArray}{p:Nat}{M:Mem}{n:Nat}(ha:At M a (rdr s p))(hs:s.size<=1000000000000000)(hn:n<=1000000) :
  CallB Tryz.prog 149 [.ptr (some (a,0)),I n] M (SmQ a s (smpB s n p 0 []) M) (RdN a s (smpB s n p 0 []) M):=by
 refine z2p k149 rfl ?_
 dsimp only[x149,zM,zO,zI,zF,zS,zB,zL,zE,zN,zW,zC,zipE,Nat.reduceAdd]
 have haM:a < M.next:=ha.2
 repeat' first|with_reducible intro _|refine svb ?_|(refine sc ?_ ?_<;>(intro h;try exact sz h))|(refine sgb ?_ ?_<;>(intro h;first|exact sz h|refine sy h ?_))|exact sq|fail
 refine z8 (fun z E ms M1=>∃(i q:Nat) (acc:List Int) (last:Int) (v:LV),z=n - i /\ i<=n /\ ms=[] /\ Has E [(0,.ptr (some (a,0))),(5,v),(6,I last),(8,I n),(9,I i)] /\ acc.length=i /\ (-32767<=last /\ last<=32767) /\
   smpB s n p 0 []=smpB s (n - i) q last acc /\ Vec M.next 1 3 intc M1 v acc /\ Keep (fun i=>i=a) M M1 /\ M.next<=M1.next /\ At M1 a (rdr s q))
  ?_ n _ _ _ ⟨0,p,[],0,_,by omega,by omega,rfl,.cons rfl (.cons rfl (.cons rfl (.cons rfl (.cons rfl .nil)))),rfl,by omega,rfl,Vec.nil,Keep.refl _ _,Nat.le_refl _,ha⟩
 rintro z E ms M1 ⟨i,q,acc,last,v,rfl,hi,rfl,hE,hacc,hl,hc,hv,hk,hle,ha1⟩
 refine zy hE ?_
 by_cases hlast:i=n
 ·subst hlast
  rw[Nat.sub_self] at hc
  repeat' first|with_reducible intro _|refine svb ?_|(refine sc ?_ ?_<;>(intro h;try exact sz h))|(refine sgb ?_ ?_<;>(intro h;first|exact sz h|refine sy h ?_))|exact sq|fail
  refine kf ?_
  exact⟨acc,q,hc,hv,hk,ha1⟩
 have hlt:i < n:=by omega
 obtain⟨k,hkn⟩:∃ k,n - i=k+1:=⟨n - i - 1,by omega⟩
 rw[hkn,show smpB s (k+1) q last acc=(match codeB s q with
  | none=>none
  | some (c,q)=>if c=0 then smpB s k q last (acc ++ [40000]) else if c=1 then smpB s k q last (acc ++ [40001]) else if knB (nxS last c) then smpB s k q (nxS last c) (acc ++ [nxS last c]) else none) from rfl] at hc
 have hkk:n - (i+1)=k:=by omega
 repeat' first|with_reducible intro _|refine svb ?_|(refine sc ?_ ?_<;>(intro h;try exact sz h))|(refine sgb ?_ ?_<;>(intro h;first|exact sz h|refine sy h ?_))|exact sq|fail
 refine x_rd gd rfl rfl (zmi ha1 hs) ?_ ?_
 ·intro g1 M2 g2 g3 q2 g4
  refine⟨?_,rfl,hk.trans g2 (fun i hi=>.inl hi),q2,g4⟩
  rw[hc,g1]
 intro c q2 g1 M2 g2 g3 g4
 have hcl:=zjm g1
 rw[g1] at hc
 simp only at hc
 have hk2:Keep (fun i=>i=a) M M2:=hk.trans g2 (fun i hi=>.inl hi)
 have hv2:Vec M.next 1 3 intc M2 v acc:=hv.keep g2 (fun i hi=>by subst hi;exact haM)
 have hle2:M.next<=M2.next:=by omega
 clear hk g2 ha1 ha hv
 have hn1:∀ {x:Int},knB x=true->-32767<=x /\ x<=32767:=fun h=>by unfold knB at h;exact of_decide_eq_true h
 repeat' first|with_reducible intro _|refine svb ?_|(refine sc ?_ ?_<;>(intro h;try exact sz h))|((with_reducible first|apply z02|apply zbc);exact gd;exact rfl;exact rfl;(first|exact zd2 _ _))|((with_reducible first|apply x_mu|apply b_mu);exact gd;exact rfl;exact rfl;(first|exact z94 _ _);infer_instance)|(refine sgb ?_ ?_<;>(intro h;first|exact sz h|refine sy h ?_))|exact sq|fail
 ·rename_i m M3 hnw e1 e2
  have hv3:=hv2.grow hnw.grow
  refine z1l (by exact gd) (l':=[40000]) hv3 rfl rfl rfl (by simp) (by rw[hacc,List.length_singleton];omega) rfl (z1k hnw) (fun _=>rfl) (fun _=>rfl) (by omega) ?_
  intro v' M4 hv4 e4 hk4
  repeat' first|with_reducible intro _|refine svb ?_|(refine sc ?_ ?_<;>(intro h;try exact sz h))|(refine sgb ?_ ?_<;>(intro h;first|exact sz h|refine sy h ?_))|exact sq|fail
  refine zd (n - (i+1)) (by omega) ⟨i+1,q2,acc ++ [40000],last,v',rfl,by omega,rfl,.cons rfl (.cons rfl (.cons rfl (.cons rfl (.cons rfl .nil)))),by simp[hacc],hl,?_,hv4,(hk2.new hnw).trans hk4 (fun i hi=>.inr hi.1),by omega,hk4.at (g4.grow hnw.grow) (fun hi=>by have:=hi.1;omega)⟩
  rw[hkk,hc,if_pos (by omega)]
 ·rename_i m M3 hnw e1 e2
  have hv3:=hv2.grow hnw.grow
  refine z1l (by exact gd) (l':=[40001]) hv3 rfl rfl rfl (by simp) (by rw[hacc,List.length_singleton];omega) rfl (z1k hnw) (fun _=>rfl) (fun _=>rfl) (by omega) ?_
  intro v' M4 hv4 e4 hk4
  repeat' first|with_reducible intro _|refine svb ?_|(refine sc ?_ ?_<;>(intro h;try exact sz h))|(refine sgb ?_ ?_<;>(intro h;first|exact sz h|refine sy h ?_))|exact sq|fail
  refine zd (n - (i+1)) (by omega) ⟨i+1,q2,acc ++ [40001],last,v',rfl,by omega,rfl,.cons rfl (.cons rfl (.cons rfl (.cons rfl (.cons rfl .nil)))),by simp[hacc],hl,?_,hv4,(hk2.new hnw).trans hk4 (fun i hi=>.inr hi.1),by omega,hk4.at (g4.grow hnw.grow) (fun hi=>by have:=hi.1;omega)⟩
  rw[hkk,hc,if_neg (by omega),if_pos (by omega)]
 ·rename_i hF
  have hx:nxS last c=last+(((c:Nat):Int) / 2 - 1):=by unfold nxS;rw[if_pos (by omega)];omega
  refine⟨?_,rfl,hk2,q2,g4⟩
  rw[hc,if_neg (by omega),if_neg (by omega),hx,if_neg (by rw[hF];decide)]
 ·rename_i hkn2 m M3 hnw e1 e2
  have hx:nxS last c=last+(((c:Nat):Int) / 2 - 1):=by unfold nxS;rw[if_pos (by omega)];omega
  have hv3:=hv2.grow hnw.grow
  refine z1l (by exact gd) (l':=[last+(((c:Nat):Int) / 2 - 1)]) hv3 rfl rfl rfl (by simp) (by rw[hacc,List.length_singleton];omega) rfl (z1k hnw) (fun _=>rfl) (fun _=>rfl) (by omega) ?_
  intro v' M4 hv4 e4 hk4
  repeat' first|with_reducible intro _|refine svb ?_|(refine sc ?_ ?_<;>(intro h;try exact sz h))|(refine sgb ?_ ?_<;>(intro h;first|exact sz h|refine sy h ?_))|exact sq|fail
  refine zd (n - (i+1)) (by omega) ⟨i+1,q2,acc ++ [last+(((c:Nat):Int) / 2 - 1)],last+(((c:Nat):Int) / 2 - 1),v',rfl,by omega,rfl,.cons rfl (.cons rfl (.cons rfl (.cons rfl (.cons rfl .nil)))),by simp[hacc],hn1 hkn2,?_,hv4,(hk2.new hnw).trans hk4 (fun i hi=>.inr hi.1),by omega,hk4.at (g4.grow hnw.grow) (fun hi=>by have:=hi.1;omega)⟩
  rw[hkk,hc,if_neg (by omega),if_neg (by omega),hx,if_pos hkn2]
 ·rename_i hF
  have hx:nxS last c=last - ((c:Nat):Int) / 2:=by unfold nxS;rw[if_neg (by omega)];omega
  refine⟨?_,rfl,hk2,q2,g4⟩
  rw[hc,if_neg (by omega),if_neg (by omega),hx,if_neg (by rw[hF];decide)]
 ·rename_i hkn2 m M3 hnw e1 e2
  have hx:nxS last c=last - ((c:Nat):Int) / 2:=by unfold nxS;rw[if_neg (by omega)];omega
  have hv3:=hv2.grow hnw.grow
  refine z1l (by exact gd) (l':=[last - ((c:Nat):Int) / 2]) hv3 rfl rfl rfl (by simp) (by rw[hacc,List.length_singleton];omega) rfl (z1k hnw) (fun _=>rfl) (fun _=>rfl) (by omega) ?_
  intro v' M4 hv4 e4 hk4
  repeat' first|with_reducible intro _|refine svb ?_|(refine sc ?_ ?_<;>(intro h;try exact sz h))|(refine sgb ?_ ?_<;>(intro h;first|exact sz h|refine sy h ?_))|exact sq|fail
  refine zd (n - (i+1)) (by omega) ⟨i+1,q2,acc ++ [last - ((c:Nat):Int) / 2],last - ((c:Nat):Int) / 2,v',rfl,by omega,rfl,.cons rfl (.cons rfl (.cons rfl (.cons rfl (.cons rfl .nil)))),by simp[hacc],hn1 hkn2,?_,hv4,(hk2.new hnw).trans hk4 (fun i hi=>.inr hi.1),by omega,hk4.at (g4.grow hnw.grow) (fun hi=>by have:=hi.1;omega)⟩
  rw[hkk,hc,if_neg (by omega),if_neg (by omega),hx,if_pos hkn2]
abbrev encU(_:Unit):LV:=.tup []
def crcX(s:ByteArray)(f p:Nat):Int:=crcK (s.extract f p) (s.extract f p).size
def chkB(s:ByteArray)(f p:Nat):Option (Unit × Nat):=match twoB s p with
 | none=>none
 | some (n,q)=>if (n:Int)=crcX s f p then some ((),q) else none
theorem zix{E:Env}{M:Mem}{x lo hi:XO}{s:ByteArray}{f p:Nat}(hx:xval E x=some (.str s))(hlo:xval E lo=some (I f))(hhi:xval E hi=some (I p))(h1:f<=p)(h2:p<=s.size):zf Tryz.prog (.slS x (some lo) (some hi) none) E M=some (.val (.str (s.extract f p)) M):=by
 show ob (xval E x) _=_
 rw[hx,z0]
 have e1:xvalo E (some lo)=some (some (I f)):=by show ob (xval E lo) _=_;rw[hlo];rfl
 have e2:xvalo E (some hi)=some (some (I p)):=by show ob (xval E hi) _=_;rw[hhi];rfl
 rw[e1,z0,e2,z0]
 show guard' true (guard' (Nat.ble p s.size) (guard' (Nat.ble f p) (some (R1.val (LV.str (s.extract f p)) M))))=_
 rw[Nat.ble_eq_true_of_le h2,Nat.ble_eq_true_of_le h1];rfl
theorem zok{a:Nat}{s:ByteArray}{f p:Nat}{M:Mem}(ha:At M a (rdr s p))(hs:s.size<=140737488355328)(hfp:f<=p)(hp:p<=s.size) :
  CallB Tryz.prog 122 [.ptr (some (a,0)),I f] M (RdQ encU a s (chkB s f p) M) (RdN a s (chkB s f p) M):=by
 refine z2p k122 rfl ?_
 dsimp only[x122,zM,zO,zI,zF,zS,zB,zL,zA,zE,zN,zW,zC,zipE,Nat.reduceAdd]
 have hx:(s.extract f p).size<=140737488355328:=by rw[ByteArray.size_extract];omega
 repeat' first|with_reducible intro _|refine svb ?_|(refine sc ?_ ?_<;>(intro h;try exact sz h))|((with_reducible first|apply z02|apply zbc);exact gd;exact rfl;exact rfl;(first|exact zob _ hx _))|(refine sgb ?_ ?_<;>(intro h;first|exact sz h|refine sy h ?_))|exact sq|fail
 refine zo9 gd (zix (f:=f) (p:=p) rfl rfl rfl hfp hp) ?_
 repeat' first|with_reducible intro _|refine svb ?_|(refine sc ?_ ?_<;>(intro h;try exact sz h))|((with_reducible first|apply z02|apply zbc);exact gd;exact rfl;exact rfl;(first|exact zob _ hx _))|(refine sgb ?_ ?_<;>(intro h;first|exact sz h|refine sy h ?_))|exact sq|fail
 refine x_rd gd rfl rfl (zgm ha (by omega)) ?_ ?_
 ·intro g1 M2 g2 g3 q2 g4
  refine⟨?_,rfl,g2,q2,g4⟩
  unfold chkB;rw[g1]
 intro n q2 g1 M2 g2 g3 g4
 have hb:=z65 (s.extract f p) (s.extract f p).size
 repeat' first|with_reducible intro _|refine svb ?_|(refine sc ?_ ?_<;>(intro h;try exact sz h))|((with_reducible first|apply x_mu|apply b_mu);exact gd;exact rfl;exact rfl;(first|exact z94 _ _);infer_instance)|(refine sgb ?_ ?_<;>(intro h;first|exact sz h|refine sy h ?_))|exact sq|fail
 ·rename_i hF
  refine⟨?_,rfl,g2,q2,g4⟩
  unfold chkB;rw[g1];exact if_neg hF
 ·rename_i hT
  refine kf ?_
  exact⟨(),q2,by unfold chkB;rw[g1];exact if_pos hT,rfl,g2,g4⟩
