/-
 Part of the proof of TapeBack. No condition beyond those in each theorem.
-/
import Derived.Test.YtbfnnllgdioccaaGreatDoorVE
import Derived.Test.YtbfnnllgdioccaaGreatDoorVB
import Derived.Test.YtbfnnllgdioccaaGreatDoorVA
import Derived.Test.YtbfnnllgdioccaaGreatDoorVD
section
open Go PvL Go.Proofs
set_option linter.unusedSimpArgs false
set_option linter.unusedVariables false
namespace Go.Proofs.YtbfnnllgdioccaaGreatDoor.C
def rc1:XRec:=⟨15,4,some 1,.seq (
 .ops [
  ⟨(some 5),.mv (.t 1),none⟩,
  ⟨(some 6),.isn true (.t 5),none⟩]) (
 .cond (.t 6) (
  .seq (
  .seq (
  .ops [
   ⟨(some 8),.mv (.t 1),none⟩,
   ⟨(some 9),.asr 185 (.agg []) true (.t 8),none⟩,
   ⟨(some 7),.mv (.t 9),none⟩,
   ⟨(some 10),.ext 0 (.t 7),none⟩,
   ⟨(some 11),.ext 1 (.t 7),none⟩,
   ⟨(some 2),.new 185 [],none⟩,
   ⟨none,.st 0 (.t 2) (.t 10),none⟩,
   ⟨(some 3),.mv (.t 11),none⟩]) (
  .seq (
  .ops [
   ⟨(some 12),.mv (.t 3),none⟩,
   ⟨(some 13),.un .not (.t 12),none⟩]) (
  .cond (.t 13) (
   .ops [
    ⟨(some 14),.mv (.t 1),none⟩,
    ⟨none,.pan (.t 14),none⟩]) (
   .skip)))) (
  .ops [
   ⟨none,.st 1 (.t 0) (.c (.bool false)),none⟩])) (
  .skip))⟩
def rd1:XRead:=⟨6,[⟨(some 2),.new 4 [(.bool false)],none⟩],some 3,.mkf 119 [] [(.t 2)],none,.t 3,[],some 4,.mv (.t 0),some 5,.t 4,[],[⟨none,.st 1 (.t 2) (.c (.bool true)),none⟩],[.cell1 2]⟩
theorem kc1:cRec Tryz.prog 119=some rc1:=by kernel_rfl
theorem kd1:cRead Tryz.prog 71=some rd1:=by kernel_rfl
theorem zld {n:Nat} {M:Mem}:DfrOk Tryz.prog 119 [.ptr (some (n,0))] .nilIface M (fun M'=>M'=M):=by
 refine ziq kc1 rfl ?_
 dsimp only [rc1,zipE,Nat.reduceAdd]
 (repeat' (first|(with_reducible intro _)|refine sv ?_|(refine sc ?_ ?_<;>(intro h;try first|exact h.elim|exact absurd rfl h|(exfalso;omega)))|(refine sg ?_ ?_<;>(intro h;(fail_if_success (have:True:=h));try first|exact h.elim|exact absurd rfl h|(exfalso;omega)))|assumption|exact xm|exact rfl))
 refine z5l gd (v:=.bool false) rfl ?_
 (repeat' (first|(with_reducible intro _)|refine sv ?_|(refine sc ?_ ?_<;>(intro h;try first|exact h.elim|exact absurd rfl h|(exfalso;omega)))|(refine sg ?_ ?_<;>(intro h;(fail_if_success (have:True:=h));try first|exact h.elim|exact absurd rfl h|(exfalso;omega)))|assumption|exact xm|exact rfl))
 exact ⟨fun i h=>(by cases h),rfl,rfl⟩
theorem zlc {n:Nat} {b:Bool} {M:Mem} (hn:At M n (.cells true [.bool b] 4)):DfrOk Tryz.prog 119 [.ptr (some (n,0))] bk M (fun M'=>Keep (fun i=>i=n) M M' /\ At M' n (.cells true [.bool false] 4)):=by
 refine ziq kc1 rfl ?_
 dsimp only [rc1,zipE,Nat.reduceAdd]
 have hlt:n < M.next:=hn.2
 (repeat' (first|(with_reducible intro _)|refine sv ?_|(refine sc ?_ ?_<;>(intro h;try first|exact h.elim|exact absurd rfl h|(exfalso;omega)))|(refine sg ?_ ?_<;>(intro h;(fail_if_success (have:True:=h));try first|exact h.elim|exact absurd rfl h|(exfalso;omega)))|assumption|exact xm|exact rfl))
 refine z5l gd (v:=.bool true) rfl ?_
 (repeat' (first|(with_reducible intro _)|refine sv ?_|(refine sc ?_ ?_<;>(intro h;try first|exact h.elim|exact absurd rfl h|(exfalso;omega)))|(refine sg ?_ ?_<;>(intro h;(fail_if_success (have:True:=h));try first|exact h.elim|exact absurd rfl h|(exfalso;omega)))|assumption|exact xm|exact rfl))
 refine z5l gd (v:=.tup [.agg [],.bool true]) rfl ?_
 (repeat' (first|(with_reducible intro _)|refine sv ?_|(refine sc ?_ ?_<;>(intro h;try first|exact h.elim|exact absurd rfl h|(exfalso;omega)))|(refine sg ?_ ?_<;>(intro h;(fail_if_success (have:True:=h));try first|exact h.elim|exact absurd rfl h|(exfalso;omega)))|assumption|exact xm|exact rfl))
 exact ⟨fun i h=>(by cases h),rfl,xk,xm⟩
theorem zlb {g:FuncId} {ca:List LV} {M:Mem} {F:Nat->Prop} {R R':Mem->Mem->Prop} (hF:∀ i,F i->i < M.next)
  (h:∀ M1,Grow M M1->CallB Tryz.prog g ca M1 (fun v M'=>Keep F M1 M' /\ R M1 M') (fun v M'=>v=bk /\ Keep F M1 M' /\ R' M1 M')) :
  CallOk Tryz.prog 71 [.func (.func g) [] ca] M (fun w M'=>∃ M1 M2 n,Grow M M1 /\ M.next<=n /\ n < M1.next /\ Keep F M1 M2 /\ Keep (fun i=>i=n) M2 M' /\ ((w=.bool true /\ R M1 M2) ∨ (w=.bool false /\ R' M1 M2))):=by
 refine zke kd1 rfl ?_
 dsimp only [rd1,zipE,Nat.reduceAdd]
 (repeat' (first|(with_reducible intro _)|refine sv ?_|(refine sc ?_ ?_<;>(intro h;try first|exact h.elim|exact absurd rfl h|(exfalso;omega)))|(refine sg ?_ ?_<;>(intro h;(fail_if_success (have:True:=h));try first|exact h.elim|exact absurd rfl h|(exfalso;omega)))|assumption|exact xm|exact rfl))
 rename_i n M1 h1 h2 h3
 have hg:Grow M M1:=h1.grow
 have hA:At M1 n (.cells true [.bool false] 4):=xm
 refine ⟨.func (.func 119) [] [.ptr (some (n,0))],.func (.func g) [] ca,119,[],[.ptr (some (n,0))],[],g,[],ca,[],rfl,rfl,rfl,rfl,rfl,rfl,?_⟩
 refine (h M1 hg).mono (fun v M2 ⟨k1,k2⟩=>?_) (fun v M2 ⟨k0,k1,k2⟩=>?_)
 ·have hA2:At M2 n (.cells true [.bool false] 4):=k1.at hA (fun hi=>by have:=hF n hi;omega)
  have hl:=k1.le
  dsimp only [putE]
  (repeat' (first|(with_reducible intro _)|refine sv ?_|(refine sc ?_ ?_<;>(intro h;try first|exact h.elim|exact absurd rfl h|(exfalso;omega)))|(refine sg ?_ ?_<;>(intro h;(fail_if_success (have:True:=h));try first|exact h.elim|exact absurd rfl h|(exfalso;omega)))|assumption|exact xm|exact rfl))
  rename_i M3 e1 e2 e3
  obtain ⟨M4,e4,rfl⟩:=zld (n:=n) (M:=M3)
  refine ⟨M4,e4,_,.cell1 rfl (Rd1.of_at e3 rfl).1 .nil,M1,M2,n,hg,by omega,by omega,k1,xk,.inl ⟨rfl,k2⟩⟩
 ·subst k0
  have hA2:At M2 n (.cells true [.bool false] 4):=k1.at hA (fun hi=>by have:=hF n hi;omega)
  obtain ⟨M4,e4,e5,e6⟩:=zlc hA2
  refine ⟨M4,e4,_,.cell1 rfl (Rd1.of_at e6 rfl).1 .nil,M1,M2,n,hg,by omega,by omega,k1,e5,.inr ⟨rfl,k2⟩⟩
abbrev Bd:=Int × Int
abbrev bdc (x:Bd):List LV:=[I x.1,I x.2]
def lostA (L:List Bd) (p:Nat):List Bd:=match L.getLast? with
 | some x=>if x.2=(p:Int) - 1 then L.dropLast ++ [(x.1,(p:Int))] else L ++ [((p:Int),(p:Int))]
 | none=>L ++ [((p:Int),(p:Int))]
def whB (s:ByteArray):Nat->Nat->List Fr->List Bd->List Fr × List Bd
 | 0,_,F,L=>(F,L)
 | k+1,p,F,L=>if p < s.size then (match FrD s p with
  | some (x,q)=>whB s k q (F ++ [x]) L
  | none=>whB s k (p+1) F (lostA L p)) else (F,L)
def whA (s:ByteArray):List Fr × List Bd:=whB s s.size 0 [] []
theorem Vec.ge {α:Type} {b sz:Nat} {ty:TypeId} {enc:α->List LV} {M:Mem} {v:LV} {l:List α} (h:Vec b sz ty enc M v l) {i o n e:Nat} {f:Bool} (hv:v=.slice (some (i,o)) n f e):b<=i:=by
 rcases h with ⟨_,rfl⟩|⟨j,rfl,_,h3⟩
 ·cases hv
 ·cases hv;exact h3
theorem Vec.blt {α:Type} {b sz:Nat} {ty:TypeId} {enc:α->List LV} {M:Mem} {v:LV} {l:List α} (h:Vec b sz ty enc M v l) {i o n e:Nat} {f:Bool} (hv:v=.slice (some (i,o)) n f e):i < M.next:=by
 rcases h with ⟨_,rfl⟩|⟨j,rfl,h2,_⟩
 ·cases hv
 ·cases hv;exact h2.2
section
variable {α:Type} {b sz:Nat} {ty:TypeId} {enc:α->List LV} {M:Mem} {v:LV} {l:List α}
theorem Vec.appx {P:Program} [Orc P] {E:Env} {s x:XO} {by':Nat} {z:List LV} {l':List α} {xv:LV} (h:Vec b sz ty enc M v l) (hs:xval E s=some v) (hx:xval E x=some xv) (hn:lenOfL xv=some l'.length) (h0:0 < l'.length)
  (hb:(2*(l.length+l'.length)+2048)*by'<=140737488355328) (hz:(Nat.ble 1 sz && (Nat.ble 1 by' && Nat.beq z.length sz))=true) (hw:firstL sz l'.length xv M=some (l'.flatMap enc))
  (henc:∀ x,(enc x).length=sz) (hfl:∀ x,allFlat (enc x)=true) (hbM:b<=M.next) :
  ∃ v' M',xstep P (.app ty sz by' z s x) E M=some (.val v' M') /\ Vec b sz ty enc M' v' (l ++ l') /\ M'.next=M.next+1 /\ Keep (fun i=>b<=i /\ ∃ o n f e,v=.slice (some (i,o)) n f e) M M' /\ ∃ n f e,v'=.slice (some (M.next,0)) n f e:=by
 have hf:=z11 (l:=l') (enc:=enc) (fun x _=>hfl x)
 rcases h with ⟨rfl,rfl⟩|⟨i,rfl,h2,h3⟩
 ·refine ⟨_,_,z4z hs hx hn h0 (by simpa using hb) hz rfl hw hf (.inl rfl),.inr ⟨M.next,?_,?_,hbM⟩,rfl,?_,_,_,_,rfl⟩
  ·rw [List.nil_append,Nat.zero_add]
  ·rw [List.nil_append,List.nil_append];exact ⟨by rw [Mem.get_push,if_pos rfl],Nat.lt_succ_self _⟩
  ·have hN:New M M.next (.cells true ([] ++ l'.flatMap enc) (apE ty)) (M.push (.cells true ([] ++ l'.flatMap enc) (apE ty))):=⟨rfl,rfl⟩
   exact hN.grow.to_keep _
 ·have ho:firstL sz l.length (.slice (some (i,0)) l.length false sz) M=some (l.flatMap enc):=by
   rw [z28 h2 (by rw [z14 (fun x _=>henc x)];omega),List.drop_zero,List.take_of_length_le (by rw [z14 (fun x _=>henc x)];omega)]
  have hK:Kill M i M.next (.cells true (l.flatMap enc ++ l'.flatMap enc) (apE ty)) ((M.upd i none).push (.cells true (l.flatMap enc ++ l'.flatMap enc) (apE ty))):=⟨rfl,rfl⟩
  refine ⟨_,_,z3k hs hx hn h0 hb hz ho hw hf h2 (by rw [show Nat.beq (apE ty) (apE ty)=true by simp,Bool.or_true]),.inr ⟨M.next,by rw [List.length_append],?_,hbM⟩,hK.next,hK.keep.weaken fun j hj=>?_,_,_,_,rfl⟩
  ·rw [List.flatMap_append];exact hK.same
  ·subst hj;exact ⟨h3,_,_,_,_,rfl⟩
end
theorem zec {s:ByteArray} {p:Nat} {x:Fr} {q:Nat} (hp:p<=s.size) (h:FrD s p=some (x,q)):frB x=true /\ p < q /\ q<=s.size:=by
 unfold FrD at h
 split at h
 ·cases h
 ·rename_i m p1 h1
  split at h
  ·cases h
  ·rename_i sh p2 h2
   split at h
   ·cases h
   ·rename_i ch p3 h3
    split at h
    ·cases h
    ·rename_i n p4 h4
     split at h
     ·split at h
      ·cases h
      ·rename_i l p5 h5
       split at h
       ·rename_i hf
        split at h
        ·cases h
        ·rename_i u p6 h6
         cases h
         have g1:=z2i h1
         have g2:=z2i h2
         have g3:=z1w h3
         have g4:=z1w h4
         have g5:=z6z _ _ _ _ g4.2 h5
         unfold chkB at h6
         split at h6
         ·cases h6
         ·rename_i c p7 h7
          have g6:=z2i h7
          split at h6
          ·cases h6
           exact ⟨hf,by omega,by omega⟩
          ·cases h6
       ·cases h
     ·cases h
end Go.Proofs.YtbfnnllgdioccaaGreatDoor.C
end
section
open Go PvL Go.Proofs
set_option linter.unusedSimpArgs false
set_option linter.unusedVariables false
variable {μ:Md}
namespace Go.Proofs.YtbfnnllgdioccaaGreatDoor.C
def atR (s:ByteArray) (i:Nat):Int:=if i < s.size then (byteAt s i:Int) else -1
def ldC (s:ByteArray):Nat->Nat->Nat->Nat->Option (Nat × Nat)
 | 0,i,n,_=>some (n,i)
 | j+1,i,n,u=>if i < s.size then (if 128<=byteAt s i then ldC s j (i+1) (n+u*(byteAt s i % 128)) (u*128) else some (n+u*(byteAt s i % 128),i+1)) else none
def ldV (n:Nat) (last:Int):Int × Int:=if n=0 then (40000,last) else if n=1 then (40001,last) else (nxS last n,nxS last n)
def ldS (s:ByteArray):Nat->Nat->Int->List Int->Option (List Int)
 | 0,_,_,acc=>some acc
 | k+1,i,last,acc=>match ldC s 4 i 0 1 with
  | none=>none
  | some (n,q)=>ldS s k q (ldV n last).2 (acc ++ [(ldV n last).1])
def fdR (s:ByteArray) (p:Nat):Option (Fr × Nat) :=
 if atR s p=165 /\ atR s (p+1)=90 /\ p+6<=s.size then (match ldS s (byteAt s (p+5)) (p+6) 0 [] with
  | none=>none
  | some l=>let f:Fr:=((((256*byteAt s (p+2)+byteAt s (p+3):Nat)):Int),((byteAt s (p+4):Nat):Int),l)
   if frB f=true /\ p+(pkL f).length<=s.size /\ s.extract p (p+(pkL f).length)=strL (pkL f) then some (f,p+(pkL f).length) else none)
 else none
abbrev zFrv:LV:=.agg [I 0,I 0,.slice none 0 true 0]
def FdQ (r:Option (Fr × Nat)) (M:Mem) (w:LV) (M':Mem):Prop:=(match r with
 | some (x,q)=>∃ v,w=.tup [.agg [I x.1,I x.2.1,v],I q,.bool true] /\ Vec M.next 1 3 intc M' v x.2.2
 | none=>w=.tup [zFrv,I 0,.bool false]) /\ Grow M M'
def FwN (N:Nat->Prop) (M:Mem) (x:FW) (f:Fr):Prop:=x.1=fky f /\ x.2.2.1=f.2.2.length /\ (f.2.2=[] ∨ ∃ i o,x.2.1=some (i,o) /\ ¬ N i /\ ∀ k (hk:k < f.2.2.length),Rd1 M i (o+k*1) (I f.2.2[k]))
inductive FwLN (N:Nat->Prop) (M:Mem):List FW->List Fr->Prop
 | nil:FwLN N M [] []
 | cons {x:FW} {f:Fr} {xs:List FW} {fs:List Fr} (h:FwN N M x f) (h':FwLN N M xs fs):FwLN N M (x :: xs) (f :: fs)
theorem FwN.keep {N F:Nat->Prop} {M M':Mem} {x:FW} {f:Fr} (h:FwN N M x f) (hk:Keep F M M') (hF:∀ i,F i->N i):FwN N M' x f :=
 ⟨h.1,h.2.1,h.2.2.imp id fun ⟨i,o,h1,h2,h3⟩=>⟨i,o,h1,h2,fun k hk'=>(h3 k hk').keep hk (fun hf=>h2 (hF i hf))⟩⟩
theorem FwN.ge {N N':Nat->Prop} {M:Mem} {x:FW} {f:Fr} (h:FwN N M x f) (hb:∀ i,N' i->N i ∨ M.next<=i):FwN N' M x f:=by
 refine ⟨h.1,h.2.1,?_⟩
 rcases h.2.2 with h0|⟨i,o,h1,h2,h3⟩
 ·exact .inl h0
 ·by_cases h0:f.2.2=[]
  ·exact .inl h0
  ·refine .inr ⟨i,o,h1,fun hN=>?_,h3⟩
   have:=(h3 0 (List.length_pos_iff.2 h0)).2
   rcases hb i hN with h|h
   ·exact h2 h
   ·omega
theorem FwLN.keep {N F:Nat->Prop} {M M':Mem} {xs:List FW} {fs:List Fr} (h:FwLN N M xs fs) (hk:Keep F M M') (hF:∀ i,F i->N i):FwLN N M' xs fs:=by
 induction h with
 | nil=>exact .nil
 | cons h _ ih=>exact .cons (h.keep hk hF) ih
theorem FwLN.ge {N N':Nat->Prop} {M:Mem} {xs:List FW} {fs:List Fr} (h:FwLN N M xs fs) (hb:∀ i,N' i->N i ∨ M.next<=i):FwLN N' M xs fs:=by
 induction h with
 | nil=>exact .nil
 | cons h _ ih=>exact .cons (h.ge hb) ih
theorem FwLN.snoc {N:Nat->Prop} {M:Mem} {xs:List FW} {fs:List Fr} {x:FW} {f:Fr} (h:FwLN N M xs fs) (h':FwN N M x f):FwLN N M (xs ++ [x]) (fs ++ [f]):=by
 induction h with
 | nil=>exact .cons h' .nil
 | cons h _ ih=>exact .cons h ih
theorem FwLN.l {N:Nat->Prop} {M:Mem} {xs:List FW} {fs:List Fr} (h:FwLN N M xs fs):FwL M xs fs:=by
 induction h with
 | nil=>exact .nil
 | cons h _ ih=>exact .cons ⟨h.1,h.2.1,h.2.2.imp id fun ⟨i,o,h1,_,h3⟩=>⟨i,o,h1,h3⟩⟩ ih
theorem FwN.vec {N:Nat->Prop} {b:Nat} {ty:TypeId} {M:Mem} {v:LV} {f:Fr} (h:Vec b 1 ty intc M v f.2.2) (hN:∀ i,N i->i < b):∃ a g e,v=.slice a f.2.2.length g e /\ FwN N M (fky f,a,f.2.2.length,g,e) f:=by
 rcases h with ⟨h0,rfl⟩|⟨i,rfl,h2,h3⟩
 ·exact ⟨none,true,0,by rw [h0];rfl,rfl,rfl,.inl h0⟩
 ·exact ⟨_,_,_,rfl,rfl,rfl,.inr ⟨i,0,rfl,fun hn=>by have:=hN i hn;omega,fun k hk=>zak (z3j (enc:=intc) h2 (fun _ _=>rfl) hk)⟩⟩
theorem zdq {α:Type} {b sz:Nat} {ty:TypeId} {enc:α->List LV} {M:Mem} {v:LV} {l:List α} {P:Program} [Orc P] {s0:Nat} {E:Env} {K:Env->Mem->Prop} {ld:List (XG × XK)} {d:Nat} {g:Option (Nat × Bool)} {s x:XO} {by':Nat} {z:List LV} {l':List α} {xv:LV} {st:List Mem} {k:Nat} {xs:List (Nat × Nat × (Mem->Prop))} (hg:GOn E g) (hv:Vec b sz ty enc M v l) (hs:xval E s=some v) (hx:xval E x=some xv) (hn:lenOfL xv=some l'.length) (h0:0 < l'.length) (hb:(2*(l.length+l'.length)+2048)*by'<=140737488355328) (hz:(Nat.ble 1 sz && (Nat.ble 1 by' && Nat.beq z.length sz))=true) (hw:firstL sz l'.length xv M=some (l'.flatMap enc))
  (henc:∀ x,(enc x).length=sz) (hfl:∀ x,allFlat (enc x)=true) (hbM:b<=M.next) (hk:∀ v' M',Vec b sz ty enc M' v' (l ++ l')->M'.next=M.next+1->Keep (fun i=>b<=i /\ ∃ o n f e,v=.slice (some (i,o)) n f e) M M'->(∃ n f e,v'=.slice (some (M.next,0)) n f e)->XD P s0 ld ((d,v') :: E) M' (M' :: st) (k+1) xs K):XD P s0 ((⟨some d,.app ty sz by' z s x,g⟩,.anchor) :: ld) E M st k xs K:=by
 obtain ⟨v',M',h1,h2,h3,h4,h5⟩:=Vec.appx (P:=P) hv hs hx hn h0 hb hz hw henc hfl hbM
 exact zin hg h1 (hk v' M' h2 h3 h4 h5)
theorem zln {x:Fr} (h:frB x=true):FrIn x:=by
 have h1:=z5a h
 have h2:=z8q h
 refine ⟨by unfold I64;omega,by unfold I64;omega,by omega,fun n hn=>zgb ?_⟩
 unfold frB smsB at h
 simp only [Bool.and_eq_true] at h
 exact List.all_eq_true.1 h.2.2.2 n hn
def wordL:List UInt8:=[80,65,82,65,86,65,78,69]
def wdB (s:ByteArray):Nat->Nat->Nat->Option (Unit × Nat)
 | 0,_,p=>some ((),p)
 | k+1,i,p=>match oneB s p with
  | none=>none
  | some (b,q)=>if b=byteAt (strL wordL) i then wdB s k (i+1) q else none
def nmR (s:ByteArray):Nat->Nat->List UInt8->Option (List UInt8 × Nat)
 | 0,p,acc=>some (acc,p)
 | k+1,p,acc=>match oneB s p with
  | none=>none
  | some (b,q)=>nmR s k q (acc ++ [u8 b])
def frsB (s:ByteArray):Nat->Nat->List Fr->Option (List Fr × Nat)
 | 0,p,acc=>some (acc,p)
 | k+1,p,acc=>match FrD s p with
  | none=>none
  | some (x,q)=>frsB s k q (acc ++ [x])
def RlD (s:ByteArray):Option (Rl × Nat):=match wdB s 8 0 0 with
 | none=>none
 | some (_,p1)=>match oneB s p1 with
  | none=>none
  | some (n,p2)=>match nmR s n p2 [] with
   | none=>none
   | some (nm,p3)=>match oneB s p3 with
    | none=>none
    | some (m,p4)=>match chkB s 0 p4 with
     | none=>none
     | some (_,p5)=>match frsB s m p5 [] with
      | none=>none
      | some (L,p6)=>if p6=s.size /\ errRl (strL nm,L)=0 then some ((strL nm,L),p6) else none
def RlQ (a:Nat) (s:ByteArray) (r:Option (Rl × Nat)) (M:Mem) (w:LV) (M':Mem):Prop:=∃ x q,r=some (x,q) /\ (∃ v xs,w=.agg [.str x.1,v] /\ Vec M.next 3 48 fwc M' v xs /\ FwLN (fun i=>i < M.next) M' xs x.2) /\ Keep (fun i=>i=a) M M' /\ At M' a (rdr s q)
set_option maxHeartbeats 8000000 in
theorem zle {a:Nat} {s:ByteArray} {M:Mem} (ha:At M a (rdr s 0)) (hs:s.size<=1000000) :
  CallB Tryz.prog 73 [.ptr (some (a,0))] M (RlQ a s (RlD s) M) (RdN a s (RlD s) M):=by
 refine z0w k73 rfl ?_
 dsimp only [x73,zipE,Nat.reduceAdd]
 have haM:a < M.next:=ha.2
 (repeat' (first|(with_reducible intro _)|refine svb ?_|(refine sc ?_ ?_<;>(intro h;try first|exact h.elim|exact absurd rfl h|(exfalso;omega)))|(refine sgb ?_ ?_<;>(intro h;(fail_if_success (have:True:=h));try first|exact h.elim|exact absurd rfl h|(exfalso;omega)))|assumption|exact xm|exact rfl))
 rename_i res M1 A1 A2 A3
 have ha1:At M1 a (rdr s 0):=xm
 have hr1:At M1 res (.cells true [.str ⟨#[]⟩,.slice none 0 true 0] 24):=xm
 have hg1:Grow M M1:=A1.grow
 have hk1:Keep (fun i=>i=a) M M1:=hg1.to_keep _
 clear A1
 refine zg (fun z E ms M'=>∃ (i p:Nat),z=8 - i /\ i<=8 /\ ms=[] /\ Has E [(0,.ptr (some (a,0))),(2,.ptr (some (res,0))),(7,I i)] /\ wdB s 8 0 0=wdB s (8 - i) i p /\ Keep (fun i=>i=a) M1 M' /\ At M' a (rdr s p))
  ?_ 8 _ _ _ ⟨0,0,by omega,by omega,rfl,.cons rfl (.cons rfl (.cons rfl .nil)),rfl,Keep.refl _ _,ha1⟩
 rintro z E ms N ⟨i,p,rfl,hi,rfl,hE,hw,hk,haN⟩
 refine z2v hE ?_
 by_cases hlast:i=8
 case neg =>
  obtain ⟨k,hkn⟩:∃ k,8 - i=k+1:=⟨8 - i - 1,by omega⟩
  rw [hkn,show wdB s (k+1) i p=(match oneB s p with
   | none=>none
   | some (b,q)=>if b=byteAt (strL wordL) i then wdB s k (i+1) q else none) from rfl] at hw
  (repeat' (first|(with_reducible intro _)|refine svb ?_|(refine sc ?_ ?_<;>(intro h;try first|exact h.elim|exact absurd rfl h|(exfalso;omega)))|(refine sgb ?_ ?_<;>(intro h;(fail_if_success (have:True:=h));try first|exact h.elim|exact absurd rfl h|(exfalso;omega)))|assumption|exact xm|exact rfl))
  refine b_rd gd rfl rfl (z8e haN (by omega)) ?_ ?_
  ·intro g1 M2 g2 g3 q2 g4 g5
   (repeat' (first|(with_reducible intro _)|refine svb ?_|(refine sc ?_ ?_<;>(intro h;try first|exact h.elim|exact absurd rfl h|(exfalso;omega)))|(refine sgb ?_ ?_<;>(intro h;(fail_if_success (have:True:=h));try first|exact h.elim|exact absurd rfl h|(exfalso;omega)))|assumption|exact xm|exact rfl))
   refine zma rfl (by exact gd) (zbr (s:=strL wordL) (k:=i) rfl rfl (by show i < 8;omega)) ?_
   (repeat' (first|(with_reducible intro _)|refine svb ?_|(refine sc ?_ ?_<;>(intro h;try first|exact h.elim|exact absurd rfl h|(exfalso;omega)))|(refine sgb ?_ ?_<;>(intro h;(fail_if_success (have:True:=h));try first|exact h.elim|exact absurd rfl h|(exfalso;omega)))|assumption|exact xm|exact rfl))
   refine ⟨?_,rfl,Keep.wide ((hk1.trans hk (fun i hi=>.inl hi)).trans g2 (fun i hi=>.inl hi)) (Nat.le_refl _),q2,At.wide g4 (Nat.le_refl _)⟩
   unfold RlD;rw [hw,g1]
  ·intro b q g1 M2 g2 g3 g4
   rw [g1] at hw
   simp only at hw
   have hb:=z0h g1
   have hk2:Keep (fun i=>i=a) M1 M2:=hk.trans g2 (fun i hi=>.inl hi)
   (repeat' (first|(with_reducible intro _)|refine svb ?_|(refine sc ?_ ?_<;>(intro h;try first|exact h.elim|exact absurd rfl h|(exfalso;omega)))|(refine sgb ?_ ?_<;>(intro h;(fail_if_success (have:True:=h));try first|exact h.elim|exact absurd rfl h|(exfalso;omega)))|assumption|exact xm|exact rfl))
   refine zjj (by exact gd) (zbr (s:=strL wordL) (k:=i) rfl rfl (by show i < 8;omega)) ?_
   have hb2:=z12 (strL wordL) i
   (repeat' (first|(with_reducible intro _)|refine svb ?_|(refine sc ?_ ?_<;>(intro h;try first|exact h.elim|exact absurd rfl h|(exfalso;omega)))|((with_reducible first|apply x_mu|apply b_mu);exact gd;exact rfl;exact rfl;(first|exact z52 _ _);infer_instance)|(refine sgb ?_ ?_<;>(intro h;(fail_if_success (have:True:=h));try first|exact h.elim|exact absurd rfl h|(exfalso;omega)))|assumption|exact xm|exact rfl))
   ·rename_i hF
    refine ⟨?_,rfl,Keep.wide (hk1.trans hk2 (fun i hi=>.inl hi)) (Nat.le_refl _),q,At.wide g4 (Nat.le_refl _)⟩
    unfold RlD;rw [hw,if_neg (by omega)]
   ·rename_i hT
    refine zw (8 - (i+1)) (by omega) ⟨i+1,q,rfl,by omega,rfl,.cons rfl (.cons rfl (.cons rfl .nil)),?_,hk2,g4⟩
    rw [hw,if_pos (by omega),show 8 - (i+1)=k by omega]
 subst hlast
 have hw0:wdB s 8 0 0=some ((),p):=hw
 have hr2:=hk.at hr1 (fun h=>by omega)
 have hk2:Keep (fun i=>i=a) M N:=hk1.trans hk (fun i hi=>.inl hi)
 have hnN:=hk.le
 clear hk hw hk1 hr1 hg1 ha1
 (repeat' (first|(with_reducible intro _)|refine svb ?_|(refine sc ?_ ?_<;>(intro h;try first|exact h.elim|exact absurd rfl h|(exfalso;omega)))|(refine sgb ?_ ?_<;>(intro h;(fail_if_success (have:True:=h));try first|exact h.elim|exact absurd rfl h|(exfalso;omega)))|assumption|exact xm|exact rfl))
 rename_i nb N1 B1 B2 B3
 have haN1:At N1 a (rdr s p):=xm
 have hr3:=hr2.grow B1.grow
 have hk3:Keep (fun i=>i=a) M N1:=hk2.new B1
 have hb0:ApB nb N1 (.slice (some (nb,0)) 0 true 1) []:=⟨true,_,rfl,At.new_same B1,.inl rfl⟩
 have hlr:res < N1.next:=hr3.2
 have hanb:a < nb:=by omega
 have hrnb:res < nb:=by omega
 clear B1 hr2 hk2 haN
 refine x_rd gd rfl rfl (z8e haN1 (by omega)) ?_ ?_
 ·intro g1 M2 g2 g3 q2 g4
  refine ⟨?_,rfl,hk3.trans g2 (fun i hi=>.inl hi),q2,g4⟩
  unfold RlD;rw [hw0];simp only;rw [g1]
 intro n p2 r1 N2 g2 g3 haN2
 have hn256:=z0h r1
 have hb1:=hb0.keep g2 (fun h=>by omega)
 have hr4:=g2.at hr3 (fun h=>by omega)
 have hk4:Keep (fun i=>i=a) M N2:=hk3.trans g2 (fun i hi=>.inl hi)
 have hnb2:nb < N2.next:=hb1.lt
 clear hb0 hr3 hk3 haN1 g2
 (repeat' (first|(with_reducible intro _)|refine svb ?_|(refine sc ?_ ?_<;>(intro h;try first|exact h.elim|exact absurd rfl h|(exfalso;omega)))|(refine sgb ?_ ?_<;>(intro h;(fail_if_success (have:True:=h));try first|exact h.elim|exact absurd rfl h|(exfalso;omega)))|assumption|exact xm|exact rfl))
 refine zg (fun z E ms M'=>∃ (i p b:Nat) (acc:List UInt8) (v:LV),z=n - i /\ i<=n /\ ms=[] /\ Has E [(0,.ptr (some (a,0))),(2,.ptr (some (res,0))),(4,v),(20,I n),(21,I i)] /\ nmR s n p2 []=nmR s (n - i) p acc /\ acc.length=i /\ ApB b M' v acc /\ (b=nb ∨ N2.next<=b) /\ Keep (fun i=>i=a ∨ i=nb) N2 M' /\ At M' a (rdr s p))
  ?_ n _ _ _ ⟨0,p2,nb,[],_,by omega,by omega,rfl,.cons rfl (.cons rfl (.cons rfl (.cons rfl (.cons rfl .nil)))),rfl,rfl,hb1,.inl rfl,Keep.refl _ _,haN2⟩
 rintro z E ms N ⟨i,p,b,acc,v,rfl,hi,rfl,hE,hw,hacc,hbv,hbb,hk,haN⟩
 refine z2v hE ?_
 by_cases hlast:i=n
 case neg =>
  obtain ⟨k,hkn⟩:∃ k,n - i=k+1:=⟨n - i - 1,by omega⟩
  rw [hkn,show nmR s (k+1) p acc=(match oneB s p with
   | none=>none
   | some (b,q)=>nmR s k q (acc ++ [u8 b])) from rfl] at hw
  (repeat' (first|(with_reducible intro _)|refine svb ?_|(refine sc ?_ ?_<;>(intro h;try first|exact h.elim|exact absurd rfl h|(exfalso;omega)))|(refine sgb ?_ ?_<;>(intro h;(fail_if_success (have:True:=h));try first|exact h.elim|exact absurd rfl h|(exfalso;omega)))|assumption|exact xm|exact rfl))
  refine x_rd gd rfl rfl (z8e haN (by omega)) ?_ ?_
  ·intro g1 M2 g2 g3 q2 g4
   refine ⟨?_,rfl,hk4.trans (hk.trans g2 (fun i hi=>.inl (.inl hi))) (fun i hi=>hi.imp id fun h=>by omega),q2,g4⟩
   unfold RlD;rw [hw0];simp only;rw [r1];simp only;rw [hw,g1]
  intro c q g1 M2 g2 g3 g4
  rw [g1] at hw
  simp only at hw
  have hc:=z0h g1
  have hbv2:=hbv.keep g2 (fun h=>by omega)
  have hk2:Keep (fun i=>i=a ∨ i=nb) N2 M2:=hk.trans g2 (fun i hi=>.inl (.inl hi))
  have hl2:=hk2.le
  clear hbv haN hk g2
  (repeat' (first|(with_reducible intro _)|refine svb ?_|(refine sc ?_ ?_<;>(intro h;try first|exact h.elim|exact absurd rfl h|(exfalso;omega)))|(refine sgb ?_ ?_<;>(intro h;(fail_if_success (have:True:=h));try first|exact h.elim|exact absurd rfl h|(exfalso;omega)))|assumption|exact xm|exact rfl))
  rename_i m M3 C1 C2 C3
  have hbv3:=hbv2.grow C1.grow
  have ha3:=At.grow C1.grow g4
  have hk5:=hk2.new C1
  have hf3:firstL 1 1 (.slice (some (m,0)) 1 true 1) M3=some (bytesC [u8 c]):=zp (l:=[u8 c]) (by rw [<-z3q hc];exact At.new_same C1)
  clear C1 hbv2 hk2
  refine zat (by exact gd) (l':=[u8 c]) hbv3 rfl rfl rfl (by simp) (by rw [hacc];simp;omega) rfl hf3 ?_
  intro v' M4 hv4 e4 k4
  (repeat' (first|(with_reducible intro _)|refine svb ?_|(refine sc ?_ ?_<;>(intro h;try first|exact h.elim|exact absurd rfl h|(exfalso;omega)))|(refine sgb ?_ ?_<;>(intro h;(fail_if_success (have:True:=h));try first|exact h.elim|exact absurd rfl h|(exfalso;omega)))|assumption|exact xm|exact rfl))
  have hbm:b < M3.next:=hbv3.lt
  refine zw (n - (i+1)) (by omega) ⟨i+1,q,M3.next,acc ++ [u8 c],v',rfl,by omega,rfl,.cons rfl (.cons rfl (.cons rfl (.cons rfl (.cons rfl .nil)))),?_,by simp [hacc],hv4,.inr (by omega),hk5.trans k4 (fun j hj=>?_),k4.at ha3 (fun h=>by omega)⟩
  ·rw [hw,show n - (i+1)=k by omega]
  ·rcases hbb with h|h
   ·exact .inl (.inr (by omega))
   ·exact .inr (by omega)
 subst hlast
 have hw1:nmR s i p2 []=some (acc,p):=by rw [hw,Nat.sub_self];rfl
 have hk2:Keep (fun i=>i=a) M N:=hk4.trans hk (fun i hi=>hi.imp id fun h=>by omega)
 have hr5:=hk.at hr4 (fun h=>by omega)
 have hba:b ≠ a:=by omega
 have hlN:=hk.le
 clear hk hw hk4 hr4 hb1 haN2
 (repeat' (first|(with_reducible intro _)|refine svb ?_|(refine sc ?_ ?_<;>(intro h;try first|exact h.elim|exact absurd rfl h|(exfalso;omega)))|(refine sgb ?_ ?_<;>(intro h;(fail_if_success (have:True:=h));try first|exact h.elim|exact absurd rfl h|(exfalso;omega)))|assumption|exact xm|exact rfl))
 refine x_rd gd rfl rfl (z8e haN (by omega)) ?_ ?_
 ·intro g1 M2 g2 g3 q2 g4
  refine ⟨?_,rfl,hk2.trans g2 (fun i hi=>.inl hi),q2,g4⟩
  unfold RlD;rw [hw0];simp only;rw [r1];simp only;rw [hw1];simp only;rw [g1]
 intro m p4 r2 N3 g2 g3 haN3
 have hm256:=z0h r2
 have hp4:=z1w r2
 have hb2:=hbv.keep g2 (fun h=>by omega)
 have hr6:=g2.at hr5 (fun h=>by omega)
 have hk3:Keep (fun i=>i=a) M N3:=hk2.trans g2 (fun i hi=>.inl hi)
 clear hbv hr5 hk2 haN g2
 (repeat' (first|(with_reducible intro _)|refine svb ?_|(refine sc ?_ ?_<;>(intro h;try first|exact h.elim|exact absurd rfl h|(exfalso;omega)))|(refine sgb ?_ ?_<;>(intro h;(fail_if_success (have:True:=h));try first|exact h.elim|exact absurd rfl h|(exfalso;omega)))|assumption|exact xm|exact rfl))
 refine x_rd gd rfl rfl (zil (f:=0) (p:=p4) haN3 (by omega) (Nat.zero_le _) hp4.2) ?_ ?_
 ·intro g1 M2 g2 g3 q2 g4
  refine ⟨?_,rfl,hk3.trans g2 (fun i hi=>.inl hi),q2,g4⟩
  unfold RlD;rw [hw0];simp only;rw [r1];simp only;rw [hw1];simp only;rw [r2];simp only;rw [g1]
 intro u p5 r3 N4 g2 g3 haN4
 have hb3:=hb2.keep g2 (fun h=>by omega)
 have hr7:=g2.at hr6 (fun h=>by omega)
 have hk4:Keep (fun i=>i=a) M N4:=hk3.trans g2 (fun i hi=>.inl hi)
 clear hb2 hr6 hk3 haN3 g2
 (repeat' (first|(with_reducible intro _)|refine svb ?_|(refine sc ?_ ?_<;>(intro h;try first|exact h.elim|exact absurd rfl h|(exfalso;omega)))|(refine sgb ?_ ?_<;>(intro h;(fail_if_success (have:True:=h));try first|exact h.elim|exact absurd rfl h|(exfalso;omega)))|assumption|exact xm|exact rfl))
 refine z5l (by exact gd) (hb3.bstr rfl) ?_
 (repeat' (first|(with_reducible intro _)|refine svb ?_|(refine sc ?_ ?_<;>(intro h;try first|exact h.elim|exact absurd rfl h|(exfalso;omega)))|(refine sgb ?_ ?_<;>(intro h;(fail_if_success (have:True:=h));try first|exact h.elim|exact absurd rfl h|(exfalso;omega)))|assumption|exact xm|exact rfl))
 rename_i oc N5 B1 B2 B3 N6 B4 B5 B6
 have ha6:At N6 a (rdr s p5):=xm
 have hr8:At N6 res (.cells true [.str ⟨#[]⟩,.slice none 0 true 0] 24):=xm
 have hk6:Keep (fun i=>i=a) M N6:=xk
 have haoc:a < oc:=by have:=haN4.2;omega
 have hroc:res < oc:=by have:=hr7.2;omega
 have hoc6:oc < N6.next:=B6.2
 have har:a < res:=by omega
 have hp5:p5<=s.size:=by
  unfold chkB at r3
  split at r3
  ·cases r3
  ·rename_i c q h7
   have:=z2i h7
   split at r3
   ·cases r3;exact this.2.1
   ·cases r3
 clear B1 B4 hb3 haN4 hr7 hk4
 refine zg (fun z E ms M'=>∃ (j p:Nat) (L:List Fr) (xs:List FW) (v:LV),z=m - j /\ j<=m /\ ms=[] /\ Has E [(0,.ptr (some (a,0))),(2,.ptr (some (res,0))),(6,.ptr (some (oc,0))),(37,I m),(38,I j)] /\ frsB s m p5 []=frsB s (m - j) p L /\ L.length=j /\ FrOk L /\
   At M' oc (.cells true [.str (strL acc),v] 24) /\ At M' res (.cells true [.str ⟨#[]⟩,.slice none 0 true 0] 24) /\ Vec N6.next 3 48 fwc M' v xs /\ FwLN (fun i=>i < M.next ∨ i=oc ∨ i=res ∨ ∃ o n f e,v=.slice (some (i,o)) n f e) M' xs L /\ Keep (fun i=>i=a) M M' /\ N6.next<=M'.next /\ p<=s.size /\ At M' a (rdr s p))
  ?_ m _ _ _ ⟨0,p5,[],[],_,by omega,by omega,rfl,.cons rfl (.cons rfl (.cons rfl (.cons rfl (.cons rfl .nil)))),rfl,rfl,(fun _ h=>nomatch h),B6,hr8,Vec.nil,.nil,hk6,Nat.le_refl _,hp5,ha6⟩
 rintro z E ms N ⟨j,p6,L,xs,v,rfl,hj,rfl,hE,hw,hL,hLo,ho1,hr9,hv1,hx1,hk7,hN6,hp6,ha7⟩
 refine z2v hE ?_
 by_cases hlast:j=m
 case neg =>
  obtain ⟨k,hkn⟩:∃ k,m - j=k+1:=⟨m - j - 1,by omega⟩
  rw [hkn,show frsB s (k+1) p6 L=(match FrD s p6 with
   | none=>none
   | some (x,q)=>frsB s k q (L ++ [x])) from rfl] at hw
  (repeat' (first|(with_reducible intro _)|refine svb ?_|(refine sc ?_ ?_<;>(intro h;try first|exact h.elim|exact absurd rfl h|(exfalso;omega)))|(refine sgb ?_ ?_<;>(intro h;(fail_if_success (have:True:=h));try first|exact h.elim|exact absurd rfl h|(exfalso;omega)))|assumption|exact xm|exact rfl))
  refine z5p gd rfl rfl (zh6 ha7 (by omega) hp6) ?_ ?_
  ·rintro v' M' ⟨e1,rfl,e3,q,e4⟩
   have hg:Grow N ⟨M'.next,N.tr⟩:=⟨e3.le,fun _ _=>rfl⟩
   (repeat' (first|(with_reducible intro _)|refine svb ?_|(refine sc ?_ ?_<;>(intro h;try first|exact h.elim|exact absurd rfl h|(exfalso;omega)))|(refine sgb ?_ ?_<;>(intro h;(fail_if_success (have:True:=h));try first|exact h.elim|exact absurd rfl h|(exfalso;omega)))|assumption|exact xm|exact rfl))
   refine ⟨?_,rfl,Keep.wide (hk7.trans e3 (fun i hi=>.inl hi)) (Nat.le_refl _),q,At.wide e4 (Nat.le_refl _)⟩
   unfold RlD;rw [hw0];simp only;rw [r1];simp only;rw [hw1];simp only;rw [r2];simp only;rw [r3];simp only;rw [hw,e1]
  ·rintro w M' ⟨x,q,e1,⟨sl,rfl,hsv⟩,e3,e4⟩
   have hxo:=zec hp6 e1
   have hxl:xs.length=L.length:=hx1.l.len
   have hNlt:∀ i,(i < M.next ∨ i=oc ∨ i=res ∨ ∃ o n f e,v=.slice (some (i,o)) n f e)->i < N.next:=fun i hi=>by
    rcases hi with h|h|h|⟨o,n,f,e,h⟩
    ·have:=hk7.le;omega
    ·omega
    ·omega
    ·exact Vec.blt hv1 h
   obtain ⟨aa,ff,ee,rfl,hfn⟩:=FwN.vec (N:=fun i=>i < M.next ∨ i=oc ∨ i=res ∨ ∃ o n f e,v=.slice (some (i,o)) n f e) hsv hNlt
   rw [e1] at hw
   simp only at hw
   have hx2:=(hx1.keep e3 (fun i hi=>.inl (by omega))).snoc hfn
   have ho2:=e3.at ho1 (fun h=>by omega)
   have hr10:=e3.at hr9 (fun h=>by omega)
   have hv2:Vec N6.next 3 48 fwc M' v xs:=hv1.keep e3 (fun i hi=>by subst hi;omega)
   have hk8:=hk7.trans e3 (fun i hi=>.inl hi)
   have hl8:=e3.le
   obtain ⟨va,vf,ve,rfl⟩:=hv2.shape
   refine zkq ?_
   have hrdo:Rd1 M' oc 1 (.slice va xs.length vf ve):=Rd1.of_at ho2 rfl
   have hrdo0:Rd1 N oc 1 (.slice va xs.length vf ve):=Rd1.of_at ho1 rfl
   clear hx1 hv1 hk7 e3 hfn hsv hr9
   (repeat' (first|(with_reducible intro _)|refine sv ?_|(refine sc ?_ ?_<;>(intro h;try first|exact h.elim|exact absurd rfl h|(exfalso;omega)))|(refine sg ?_ ?_<;>(intro h;(fail_if_success (have:True:=h));try first|exact h.elim|exact absurd rfl h|(exfalso;omega)))|assumption|exact xm|exact rfl))
   rename_i n7 M7 C1 C2 C3
   have hv7:=hv2.grow C1.grow
   have hx7:=hx2.keep (C1.grow.to_keep (fun _=>False)) (fun _ h=>h.elim)
   have ho7:=ho2.grow C1.grow
   have hr11:=hr10.grow C1.grow
   have ha8:=At.grow C1.grow e4
   have hk9:=hk8.new C1
   have hfw:=zhk (x:=(fky x,aa,x.2.2.length,ff,ee)) C1
   have hro7:Rd1 M7 oc 1 (.slice va xs.length vf ve):=Rd1.of_at ho7 rfl
   clear C1 hv2 hx2 hr10 hk8 e4
   refine zdq (by exact gd) (l':=[((fky x,aa,x.2.2.length,ff,ee):FW)]) hv7 rfl rfl rfl (by simp) (by rw [hxl,hL];simp;omega) rfl hfw (fun _=>rfl) (fun _=>rfl) (by omega) ?_
   rintro v8 M8 hv8 e8 k8 ⟨n8,f8,q8,rfl⟩
   have ho8:=k8.at ho7 (fun hi=>by have:=hi.1;omega)
   have ha9:=k8.at ha8 (fun hi=>by have:=hi.1;omega)
   have hr12:=k8.at hr11 (fun hi=>by have:=hi.1;omega)
   (repeat' (first|(with_reducible intro _)|refine sv ?_|(refine sc ?_ ?_<;>(intro h;try first|exact h.elim|exact absurd rfl h|(exfalso;omega)))|(refine sg ?_ ?_<;>(intro h;(fail_if_success (have:True:=h));try first|exact h.elim|exact absurd rfl h|(exfalso;omega)))|assumption|exact xm|exact rfl))
   rename_i M9 D1 D2 D3
   have hu9:Keep (fun i=>i=oc) M8 M9:=(Keep.refl (fun i=>i=oc) M8).upd D1 (.inl rfl)
   refine zw (m - (j+1)) (by omega) ⟨j+1,q,L ++ [x],xs ++ [((fky x,aa,x.2.2.length,ff,ee):FW)],_,rfl,by omega,rfl,.cons rfl (.cons rfl (.cons rfl (.cons rfl (.cons rfl .nil)))),?_,by simp [hL],?_,D3,hu9.at hr12 (fun h=>by omega),hv8.keep hu9 (fun i hi=>by subst hi;exact hoc6),?_,(hk9.trans k8 (fun i hi=>.inr (by have:=hi.1;have:=hk6.le;omega))).trans hu9 (fun i hi=>.inr (by have:=hk6.le;omega)),by omega,hxo.2.2,hu9.at ha9 (fun h=>by omega)⟩
   ·rw [hw,show m - (j+1)=k by omega]
   ·intro y hy
    rcases List.mem_append.1 hy with hy|hy
    ·exact hLo y hy
    ·rw [List.mem_singleton.1 hy];exact hxo.1
   ·refine (((hx7.ge (N':=fun i=>(i < M.next ∨ i=oc ∨ i=res ∨ ∃ o n f e,LV.slice va xs.length vf ve=.slice (some (i,o)) n f e) ∨ i=M7.next) (fun i hi=>hi.imp id fun h=>by omega)).keep k8 (fun i hi=>.inl (.inr (.inr (.inr hi.2))))).keep hu9 (fun i hi=>.inl (.inr (.inl hi)))).ge (fun i hi=>.inl ?_)
    rcases hi with h|h|h|⟨o,n,f,e,h⟩
    ·exact .inl (.inl h)
    ·exact .inl (.inr (.inl h))
    ·exact .inl (.inr (.inr (.inl h)))
    ·cases h;exact .inr rfl
 subst hlast
 have hw2:frsB s j p5 []=some (L,p6):=by rw [hw,Nat.sub_self];rfl
 obtain ⟨va,vf,ve,rfl,hfs⟩:=zit hv1 hx1.l
 have hrl:RlV N (.agg [.str (strL acc),.slice va L.length vf ve]) (strL acc,L):=⟨va,vf,ve,rfl,hfs⟩
 have hrin:RlIn (strL acc,L):=⟨by show acc.length<=_;omega,by show L.length<=_;omega,fun x hx=>zln (hLo x hx)⟩
 have hF:RlD s=if p6=s.size /\ errRl (strL acc,L)=0 then some ((strL acc,L),p6) else none:=by
  unfold RlD;rw [hw0];simp only;rw [r1];simp only;rw [hw1];simp only;rw [r2];simp only;rw [r3];simp only;rw [hw2]
 have hck:=fun M' (hg:Grow N M')=>z5x (hrl.grow hg) hrin
 (repeat' (first|(with_reducible intro _)|refine svb ?_|(refine sc ?_ ?_<;>(intro h;try first|exact h.elim|exact absurd rfl h|(exfalso;omega)))|((with_reducible first|apply z36|apply zik);exact gd;exact rfl;exact rfl;(first|exact hck _ (xg)))|((with_reducible first|apply x_mu|apply b_mu);exact gd;exact rfl;exact rfl;(first|exact z52 _ _);infer_instance)|(refine sgb ?_ ?_<;>(intro h;(fail_if_success (have:True:=h));try first|exact h.elim|exact absurd rfl h|(exfalso;omega)))|assumption|exact xm|exact rfl))
 ·rename_i M8 g1 g2 hh
  refine ⟨?_,rfl,Keep.wide (hk7.grow g1) (Nat.le_refl _),p6,At.wide (ha7.grow g1) (Nat.le_refl _)⟩
  rw [hF,if_neg fun h=>hh h.2]
 ·rename_i M8 g1 g2 hh M9 D1 D2 D3
  have hu9:Keep (fun i=>i=res) M8 M9:=(Keep.refl (fun i=>i=res) M8).upd D1 (.inl rfl)
  have hx9:=(hx1.keep (g1.to_keep (fun _=>False)) (fun _ h=>h.elim)).keep hu9 (fun i hi=>.inr (.inr (.inl hi)))
  have hv9:Vec N6.next 3 48 fwc M9 (.slice va L.length vf ve) xs:=(hv1.grow g1).keep hu9 (fun i hi=>by subst hi;omega)
  have ha9:At M9 a (rdr s p6):=hu9.at (ha7.grow g1) (fun h=>by omega)
  have hk9:Keep (fun i=>i=a) M M9:=(hk7.grow g1).trans hu9 (fun i hi=>.inr (by omega))
  ((with_reducible first|apply zc|apply z6);exact rx)
  exact ⟨(strL acc,L),p6,by rw [hF,if_pos ⟨by omega,hh⟩],⟨_,xs,rfl,Vec.low hv9 (by have:=hk6.le;omega),hx9.ge (fun i hi=>.inl (.inl hi))⟩,hk9,ha9⟩
 ·refine ⟨?_,rfl,Keep.wide hk7 (Nat.le_refl _),p6,At.wide ha7 (Nat.le_refl _)⟩
  rw [hF,if_neg fun h=>by omega]
 ·exfalso;assumption
def NV (v:LV) (i:Nat):Prop:=∃ o n f e,v=.slice (some (i,o)) n f e
theorem NV.lt {α:Type} {b sz:Nat} {ty:TypeId} {enc:α->List LV} {M:Mem} {v:LV} {l:List α} (h:Vec b sz ty enc M v l) {i:Nat} (hi:NV v i):i < M.next:=by
 obtain ⟨o,n,f,e,h1⟩:=hi
 exact Vec.blt h h1
theorem NV.nil {n:Nat} {f:Bool} {e i:Nat}:¬ NV (.slice none n f e) i:=fun ⟨o,n,f,e,h⟩=>by cases h
theorem NV.some {j o n:Nat} {f:Bool} {e i:Nat} (h:NV (.slice (some (j,o)) n f e) i):i=j:=by
 obtain ⟨_,_,_,_,h⟩:=h
 cases h;rfl
def whRB (s:ByteArray):Nat->Nat->List Fr->List Bd->List Fr × List Bd
 | 0,_,F,L=>(F,L)
 | k+1,p,F,L=>if p < s.size then (match fdR s p with
  | some (x,q)=>whRB s k q (F ++ [x]) L
  | none=>whRB s k (p+1) F (lostA L p)) else (F,L)
def whRA (s:ByteArray):List Fr × List Bd:=whRB s s.size 0 [] []
def WhQ (r:List Fr × List Bd) (M:Mem) (w:LV) (M':Mem):Prop:=∃ v1 v2 xs,w=.tup [v1,v2] /\ Vec M.next 3 48 fwc M' v1 xs /\ FwLN (fun i=>i < M.next) M' xs r.1 /\ Vec M.next 2 65 bdc M' v2 r.2 /\ Grow M M'
end Go.Proofs.YtbfnnllgdioccaaGreatDoor.C
end
