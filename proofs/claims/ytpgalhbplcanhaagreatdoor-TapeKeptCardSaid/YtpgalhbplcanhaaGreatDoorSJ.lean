/-
 Part of the proof of TapeKept. No condition beyond those in each theorem.
-/
import Derived.Test.YtpgalhbplcanhaaGreatDoorSI
import Derived.Test.YtpgalhbplcanhaaGreatDoorSF
import Derived.Test.YtpgalhbplcanhaaGreatDoorSH
import Derived.Test.YtpgalhbplcanhaaGreatDoorSE
import Derived.Test.YtpgalhbplcanhaaGreatDoorSG
import Derived.Test.YtpgalhbplcanhaaGreatDoorPvH
set_option linter.unusedVariables false
set_option linter.unusedSimpArgs false
set_option linter.unusedSectionVars false
section
open Go PvL Go.Proofs
namespace Go.Proofs.YtpgalhbplcanhaaGreatDoor.C
def CpI(r:Rl)(m i k:Nat)(c:List UInt8):Prop:=∃ F,Cp c F/\(∀ f∈F,f∈r.2)/\(∀ j:Nat,j<i->(j:Int)%(m:Int)=(k:Int)->fe r.2 j∈F)/\c.length<=100001*i
theorem zos{r:Rl}{m:Nat}{C:List (List UInt8)}(D:zdm r=0)(L:1<=m/\m<=3)(K:C.length=m)(h:∀ k (e:k<C.length),CpI r m r.2.length k C[k])(E:∀ k (e:k<C.length),C[k].length<=65536) :
  repF r.1 (C.map strL)=(r,0):=by
 obtain⟨z,J,A⟩:=err0 D
 have q:z2y (frsC (C.map strL))=r.2:=by
  refine zff A (fun y w=>?_) (fun y w=>?_)
  ·obtain⟨s,v,o⟩:=List.mem_flatMap.1 w
   obtain⟨c,d,rfl⟩:=List.mem_map.1 v
   obtain⟨k,e,rfl⟩:=List.getElem_of_mem d
   obtain⟨F,f,p,_⟩:=h k e
   rw[zqo f] at o
   exact p y o
  ·obtain⟨j,q,rfl⟩:=List.getElem_of_mem w
   have G:=Int.emod_lt_of_pos (j:Int) (b:=(m:Int)) (by omega)
   have H:0<=(j:Int)%(m:Int):=Int.emod_nonneg _ (by omega)
   obtain⟨k,e⟩:∃ k:Nat,(j:Int)%(m:Int)=(k:Int):=⟨((j:Int)%(m:Int)).toNat,by omega⟩
   have g:k<C.length:=by omega
   obtain⟨F,f,p,x,_⟩:=h k g
   have t:=x j q e
   rw[z6j q] at t
   exact List.mem_flatMap.2 ⟨strL C[k],List.mem_map.2 ⟨C[k],List.getElem_mem g,rfl⟩,by rw[zqo f];exact t⟩
 have u:(C.map strL).any lgB=false:=by
  rw[List.any_eq_false]
  intro s f p
  obtain⟨c,d,rfl⟩:=List.mem_map.1 f
  obtain⟨k,e,rfl⟩:=List.getElem_of_mem d
  have x:=E k e
  have t:65536 <(strL C[k]).size:=of_decide_eq_true p
  have h5:(strL C[k]).size=C[k].length:=rfl
  omega
 unfold repF
 rw[if_pos z,if_pos ⟨by rw[List.length_map];omega,u⟩,q,if_neg (by omega)]
end Go.Proofs.YtpgalhbplcanhaaGreatDoor.C
end
section
open Go PvL Go.Proofs
variable {μ:Md}
namespace Go.Proofs.YtpgalhbplcanhaaGreatDoor.C
variable {l:List UInt8}
def h5 (b:UInt8):UInt8:=if b.toNat=165 then 0 else b
def harmL (s:ByteArray):List UInt8:=s.data.toList.map h5
theorem zs9 (s:ByteArray):Hm (harmL s):=fun b d=>by
 obtain⟨c,_,rfl⟩:=List.mem_map.1 d
 unfold h5
 split
 ·decide
 ·assumption
theorem zgx (s:ByteArray):(harmL s).length=s.size:=by unfold harmL;rw[List.length_map];rfl
def midL (l:List UInt8)(k:Nat):List UInt8:=(l.take k).map h5++l.drop k
theorem zha (l:List UInt8)(k:Nat):(midL l k).length=l.length:=by
 unfold midL
 rw[List.length_append,List.length_map,List.length_take,List.length_drop];omega
theorem zh9 {k:Nat}(h:k<l.length):(midL l k)[k]'(by rw[zha];exact h)=l[k]:=by
 unfold midL
 rw[List.getElem_append_right (by simp;omega)]
 simp[List.length_take,Nat.min_eq_left (Nat.le_of_lt h)]
theorem zq9 {k:Nat}(h:k<l.length):midL l (k+1)=(midL l k).set k (h5 l[k]):=by
 unfold midL
 have d:((l.take k).map h5).length=k:=by simp;omega
 rw[List.set_append_right _ _ (by omega),d,Nat.sub_self,List.take_succ_eq_append_getElem h,List.map_append,List.append_assoc,List.drop_eq_getElem_cons h]
 rfl
theorem zox:∀ l:List LV,z0t l 0 []=some l
 | []=>rfl
 | _::_=>rfl
theorem zef:∀(l:List UInt8) (k:Nat) (b:UInt8),k<l.length->z0t (z0b l) k [byteL b]=some (z0b (l.set k b))
 | x::l,0,b,_=>by
  show ob (z0t (z0b l) 0 []) _=_
  rw[zox];rfl
 | x::l,k+1,b,h=>by
  show ob (z0t (z0b l) k [byteL b]) _=_
  rw[zef l k b (by simpa using h)]
  rfl
theorem ztl {E:Env}{M:Mem}{x:XO}{e:TypeId}{s:ByteArray}(d:xval E x=some (.str s)):zl Tryz.prog (.sbyt e x) E M=some (.val (.slice (some (M.next,0)) s.size false 1) (M.push (.cells true (z0b s.data.toList) (apE e)))):=by
 show ob (xval E x) _=_
 rw[d,z8]
 rfl
set_option maxHeartbeats 4000000 in
theorem zi4 {s:ByteArray}{M:Mem}(U:s.size<=1000000000000000) :
  zc Tryz.prog 23 [.str s] M (fun w M'=>w=.str (strL (harmL s))/\Grow M M'):=by
 refine zd Y23.2 rfl ?_
 delta Y23;refine un ?_
 refine Wh ?_
 refine zg2 (by exact gd) (ztl rfl) ?_
 have t:New M M.next (.cells true (z0b s.data.toList) (apE 5)) (M.push (.cells true (z0b s.data.toList) (apE 5))):=⟨rfl,rfl⟩
 generalize M.push (.cells true (z0b s.data.toList) (apE 5))=H at *
 have g:s.data.toList.length=s.size:=rfl
 have v:At H M.next (.cells true (z0b (midL s.data.toList 0)) (apE 5)):=At.new_same t
 have x:=t.grow
 clear t
 generalize R:M.next=b at *
 generalize L:s.data.toList=l at *
 rw[<-g]
 refine Wh ?_
 refine zg (fun z E D M'=>∃(k:Nat),z=l.length-k/\k<=l.length/\D=[]/\Has E [(3,.slice (some (b,0)) l.length false 1),(4,I k)]/\At M' b (.cells true (z0b (midL l k)) (apE 5))/\Grow M M')
  ?_ (l.length-0) _ _ _ ⟨0,rfl,Nat.zero_le _,rfl,.cons rfl (.cons rfl .nil),v,x⟩
 clear v x
 rintro z E D N ⟨k,rfl,S,rfl,A,m,u⟩
 refine z06 A ?_
 clear A
 by_cases j:k=l.length
 ·subst j
  have O:midL l l.length=harmL s:=by unfold midL harmL;rw[List.take_length,List.drop_length,List.append_nil,L]
  rw[O] at m
  have P:ApB b N (.slice (some (b,0)) l.length false 1) (harmL s):=⟨false,_,by rw[zgx,<- g],m,.inr rfl⟩
  refine Wh ?_;intros
  refine z35 (by exact gd) (P.bstr rfl) ?_
  refine Wh ?_
  refine kf ?_
  exact⟨rfl,u⟩
 have d:k<l.length:=by omega
 have e:k <(midL l k).length:=by rw[zha];exact d
 have f:Rd1 N b (0+k*1) (byteL l[k]):=by
  have y:=z18 (enc:=u8c) (l:=midL l k) (by rw[<-z20];exact m) (fun _ _=>rfl) e
  rw[zh9 d] at y
  exact z9y y
 have p:=fun c=>zef (midL l k) k c e
 by_cases C:l[k].toNat=165
 ·have r:h5 l[k]=0:=by unfold h5;rw[if_pos C]
  have q:=p (h5 l[k])
  rw[<-zq9 d,r] at q
  unfold byteL at f
  have o:=f;refine Wh ?_;intros
  all_goals first|(exfalso;omega)|skip
  refine x_st (by exact gd) rfl rfl m rfl rfl (by rw[Nat.zero_add,Nat.mul_one];exact q) ?_
  intro J F Q G
  have K:Grow M J:=u.upd F (by omega)
  refine Wh ?_
  exact zi (l.length-(k+1)) (by omega) ⟨k+1,rfl,by omega,rfl,.cons rfl (.cons rfl .nil),G,K⟩
 ·have r:h5 l[k]=l[k]:=by unfold h5;rw[if_neg C]
  have q:midL l (k+1)=midL l k:=by
   rw[zq9 d,r]
   have:=List.set_getElem_self e
   rw[zh9 d] at this
   exact this
  unfold byteL at f
  have o:=f;refine Wh ?_;intros
  all_goals first|(exfalso;omega)|skip
  exact zi (l.length-(k+1)) (by omega) ⟨k+1,rfl,by omega,rfl,.cons rfl (.cons rfl .nil),by rw[q];exact m,u⟩
end Go.Proofs.YtpgalhbplcanhaaGreatDoor.C
end
section
open Go PvL Go.Proofs
namespace Go.Proofs.YtpgalhbplcanhaaGreatDoor.C
variable {n i N:Nat} {T:List Fr} {c:List UInt8}
abbrev kfr (n i:Nat):Fr:=((n:Int),((i%24:Nat):Int),[(i:Int),-(i:Int),40000])
theorem zq6 (d:n<=60000)(hi:i<=30):frB (kfr n i)=true:=by
 unfold frB smsB btB smB knB
 have:=Nat.mod_lt i (show 0<24 by decide)
 simp only[List.all_cons,List.all_nil,Bool.and_eq_true,Bool.or_eq_true,decide_eq_true_eq,List.length_cons,List.length_nil]
 exact⟨by omega,by omega,by omega,.inl (by omega),.inl (by omega),.inr (.inl trivial),trivial⟩
theorem znn (f:n<=2000000):(cdN n).length<=3:=by
 by_cases d:128<=n
 ·rw[zar d,List.length_cons]
  by_cases e:128<=n/128
  ·rw[zar e,List.length_cons,z7k (show n/128/128<128 by omega)];simp
  ·rw[z7k (by omega)];simp
 ·rw[z7k (by omega)];simp
theorem zdd (l:List Int):∀ k,(cdsL l k).length<=3*k
 | 0=>by unfold cdsL;simp
 | k+1=>by
  rw[zkb,List.length_append]
  have h1:=zdd l k
  have e:=zdc l k
  have d:=znn (n:=(cdA l k).toNat) (by omega)
  omega
theorem zl5 (n i:Nat):(pkL (kfr n i)).length<=20:=by
 have d:=zdd (kfr n i).2.2 (kfr n i).2.2.length
 have e:(kfr n i).2.2.length=3:=rfl
 unfold pkL chkL bodyL hdL twoL
 simp only[List.length_append,List.length_cons,List.length_nil] at *
 omega
structure Kg (T:List Fr) (N:Nat) (c:List UInt8):Prop where
 ok:rlK T T.length=true
 lt:∀ x ∈ T,x.1<=N /\ (0<=x.2.1 /\ x.2.1<=23)
 cp:Cp c T
 ln:c.length<=40*T.length
theorem Kg.nil:Kg [] 0 []:=⟨rfl,(fun _ h=>nomatch h),Cp.nil,Nat.le_refl _⟩
theorem zkq {f:Fr}{k:Nat}(d:k<T.length):fe (T++[f]) k=fe T k:=by
 rw[z6j d,z6j (by rw[List.length_append];omega),List.getElem_append_left d]
theorem zs3 (T:List Fr)(f:Fr):fe (T++[f]) T.length=f:=by
 rw[z6j (by rw[List.length_append,List.length_singleton];omega),List.getElem_append_right (Nat.le_refl _)]
 simp
theorem zm7 {f:Fr}:∀ k,k<=T.length->rlK (T++[f]) k=rlK T k
 | 0,_=>rfl
 | k+1,h=>by rw[zfs,zfs,zm7 k (by omega),zkq (by omega),zkq (by omega)]
theorem Kg.mono {d:Nat}(h:Kg T N c)(f:N<=d):Kg T d c:=⟨h.ok,fun x e=>⟨by have:=(h.lt x e).1;omega,(h.lt x e).2⟩,h.cp,h.ln⟩
theorem Kg.snoc {x:List UInt8}(h:Kg T N c)(m:N+1<=60000)(hi:i<=30)(o:Hm x)(r:x.length<=20):Kg (T++[kfr (N+1) i]) (N+1) (c++x++pkL (kfr (N+1) i)):=by
 have f:=zq6 (n:=N+1) (i:=i) m hi
 have j:=Nat.mod_lt i (show 0<24 by decide)
 refine⟨?_,?_,(h.cp.junk o).fr f,?_⟩
 ·rw[List.length_append,List.length_singleton,zfs,zm7 _ (Nat.le_refl _),h.ok,zs3,f]
  simp only[Bool.true_and,Bool.or_eq_true,decide_eq_true_eq]
  by_cases g:T.length=0
  ·exact .inl g
  ·right
   have d:T.length-1<T.length:=by omega
   rw[zkq d,z6j d]
   have:=h.lt _ (List.getElem_mem d)
   unfold keyI
   dsimp only
   omega
 ·intro y e
  rcases List.mem_append.1 e with e|e
  ·have:=h.lt y e;exact⟨by omega,this.2⟩
  ·rw[List.mem_singleton.1 e];dsimp only;omega
 ·have p:=zl5 (N+1) i
  have q:=h.ln
  simp only[List.length_append,List.length_singleton]
  omega
theorem zq7 {s:ByteArray}(h:Kg T N c)(o:T.length<=30)(g:nmB s=true):zdm (s,T)=0/\repF s [strL c]=((s,T),0):=by
 have e:zdm (s,T)=0:=by
  unfold zdm rlB
  dsimp only
  rw[g,h.ok,decide_eq_true (show T.length<=128 by omega)]
  rfl
 have p:=h.ln
 refine⟨e,?_⟩
 have:=zos (r:=(s,T)) (m:=1) (C:=[c]) e (by omega) rfl (fun k d=>by
  obtain rfl:k=0:=by simpa using d
  refine⟨T,h.cp,fun _ h=>h,fun j f _=>?_,?_⟩
  ·show fe T j∈T
   rw[z6j f];exact List.getElem_mem f
  ·show c.length<=100001*T.length
   omega) (fun k d=>by
  obtain rfl:k=0:=by simpa using d
  show c.length<=65536
  omega)
 exact this
theorem zxj {s:ByteArray}(h:Kg T N c)(d:T.length<=30)(e:nmB s=true):FrOk T:=(zxs (zq7 h d e).1).1
end Go.Proofs.YtpgalhbplcanhaaGreatDoor.C
end
section
open Go PvL Go.Proofs
variable {μ:Md}
namespace Go.Proofs.YtpgalhbplcanhaaGreatDoor.C
variable {M M':Mem} {hi B kp b:Nat} {a:Option (Nat × Nat)} {xs:List FW} {T:List Fr}
def restF (x m:Int):Int:=if x.tmod m<0 then x.tmod m+m else x.tmod m
theorem zou {x m:Int}(f:1<=m):0<=restF x m/\restF x m<m:=by
 have d:=Int.lt_tmod_of_pos x (b:=m) (by omega)
 have e:=Int.tmod_lt_of_pos x (b:=m) (by omega)
 unfold restF
 split<;>omega
theorem zu2 (x m:Int)(f:1<=m/\m<=1000000000000000)(M:Mem):zc Tryz.prog 19 [I x,I m] M (fun w M'=>w=I (restF x m)/\M'=M):=by
 have d:=Int.lt_tmod_of_pos x (b:=m) (by omega)
 have e:=Int.tmod_lt_of_pos x (b:=m) (by omega)
 refine zd Y19.2 rfl ?_
 delta Y19;refine un ?_
 repeat' first|with_reducible intro _|refine sv ?_|refine ss ?_ ?_<;>(intro h;first|exact sz h|refine sy h ?_)|exact sq|fail
 all_goals (refine kf ?_)
 all_goals refine⟨?_,rfl⟩
 all_goals unfold restF
 ·rw[if_pos (by omega)];rfl
 ·rw[if_neg (by omega)];rfl
theorem zpp {E:Env}{x hi:XO}{s:ByteArray}{q:Nat}(f:xval E x=some (.str s))(d:xval E hi=some (I (q:Int)))(e:q<=s.size):zl Tryz.prog (.slS x none (some hi) none) E M=some (.val (.str (s.extract 0 q)) M):=by
 show ob (xval E x) _=_
 rw[f,z8]
 show ob (ob (xval E hi) _) _=_
 rw[d,z8,z8]
 show guard' (Nat.ble q s.size) _=_
 rw[show Nat.ble q s.size=true by rw[Nat.ble_eq];exact e,zb]
 rfl
def LksM (M:Mem)(a:Option (Nat×Nat))(L:List Lk):Prop:=L=[] ∨ ∃ i o,a=some (i,o) /\ ∀ k (g:k<L.length),∃ d f e,Rd M i (o+k*20) 20 (lkc L[k] d f e)/\SlA 5 sgc M d L[k].gs
theorem LksM.grow {L:List Lk}(q:LksM M a L)(d:Grow M M'):LksM M' a L:=q.imp id fun⟨i,o,h,j⟩=>⟨i,o,h,fun k r=>by
 obtain⟨e,g,f,m,p⟩:=j k r
 exact⟨e,g,f,m.grow d,p.grow d⟩⟩
structure LksOk (L:List Lk):Prop where
 n:L.length<=1000000000000000
 g:∀ x ∈ L,x.gs.length*48<=140737488351232
 s:∀ x ∈ L,∀ y ∈ x.gs,y.2.1.size<=1000000000000000
structure WnK (B:Nat) (kp b hi:Nat) (M:Mem) (v:LV) (xs:List FW) (T:List Fr):Prop where
 wv:∀ M',Keep (fun i=>i=kp ∨(b<=i /\ i < hi)) M M'->Vec B 3 72 fwc M' v xs
 wf:∀ M',Keep (fun i=>(i=kp ∨(b<=i /\ i < hi)) ∨ ∃ o n f e,v=.slice (some (i,o)) n f e) M M'->FwL M' xs T
theorem WnK.keep {f b':Nat}{v:LV}{F:Nat->Prop}(q:WnK B kp b hi M v xs T)(p:Keep F M M')(o:∀ i,F i->i=kp ∨(b<=i/\i<hi))(m:∀ i,b'<=i->i<f->M.next<=i ∨(b<=i/\i<hi)):WnK B kp b' f M' v xs T:=by
 have g:=p.weaken o
 refine⟨fun N j=>q.wv N (g.trans j fun i hi=>?_),fun N j=>q.wf N ((g.weaken fun i hi=>.inl hi).trans j fun i hi=>?_)⟩
 ·rcases hi with d|⟨d,h⟩
  ·exact .inl (.inl d)
  ·rcases m i d h with e|e
   ·exact .inr e
   ·exact .inl (.inr e)
 ·rcases hi with(d|⟨d,h⟩)|d
  ·exact .inl (.inl (.inl d))
  ·rcases m i d h with e|e
   ·exact .inr e
   ·exact .inl (.inl (.inr e))
  ·exact .inl (.inr d)
theorem WnK.grow {v:LV}(q:WnK B kp b hi M v xs T)(f:Grow M M'):WnK B kp b hi M' v xs T :=
 q.keep (f.to_keep (fun _=>False)) (fun i hi=>hi.elim) (fun i d e=>.inr ⟨d,e⟩)
theorem FwL.appW {x:FW}{f:Fr}(h1:FwL M xs T)(d:FwV M x f):FwL M (xs++[x]) (T++[f]):=h1.snoc d
theorem WnK.snoc {c:Nat}{v v':LV}{x:FW}{f:Fr}(q:WnK B kp b hi M v xs T)(u:Vec M.next 3 72 fwc M' v' (xs++[x]))(t:Keep (fun i=>B<=i /\ ∃ o n f e,v=.slice (some (i,o)) n f e) M M')(y:B<=M.next)(E:kp<c)(A:hi<=c)(F:c<=M.next){i0:Nat}(C:c<=i0)(D:i0<M.next)(s:∀ i o n f e,v=.slice (some (i,o)) n f e->i<c)(r:∀ N,(∀ lb,At M i0 lb->At N i0 lb)->FwV N x f):WnK B kp b hi M' v' (xs++[x]) (T++[f]):=by
 have g:∀ i o n f e,v'=.slice (some (i,o)) n f e->M.next<=i:=fun i o n f e p=>by
  rcases u with⟨_,h⟩|⟨j,h,_,w⟩
  ·rw[h] at p;cases p
  ·rw[h] at p;cases p;exact w
 refine⟨fun N m=>Vec.lowW (u.keep m fun i hi=>by rcases hi with d|d<;>omega) y,fun N m=>?_⟩
 refine FwL.appW (q.wf N ((t.weaken fun i hi=>.inr hi.2).trans m fun i hi=>?_)) (r N fun lb z=>?_)
 ·rcases hi with d|⟨o,n,f,e,d⟩
  ·exact .inl (.inl d)
  ·exact .inr (g _ _ _ _ _ d)
 ·refine(z.keep t fun d=>?_).keep m fun d=>?_
  ·obtain⟨_,o,n,f,e,h⟩:=d
   have:=s _ _ _ _ _ h
   omega
  ·rcases d with d|⟨o,n,f,e,d⟩
   ·omega
   ·have:=g _ _ _ _ _ d
    omega
set_option maxHeartbeats 16000000 in
theorem zi3 {w:Wt}{L:List Lk}{f:Bool}{e:Nat}(hL:LksM M a L)(a0:LksOk L)(hO:OcM M)(hF:FsM M)(hB:Base M)(hp:preOk M tabs=true) :
  CallN Tryz.prog 5 [wtv w,.slice a L.length f e] M (fun q _=>q=.bool true):=by
 have b7:∀ M',Grow M M'->preOk M' tabs=true:=fun M' O=>z9x (Ext.of_grow O hB) hp
 have cN:=fun M'=>zex w M'
 have hn:=a0.n
 refine z1z Y5.2 rfl ?_
 delta Y5;refine un ?_
 refine Wlh @cN ?_;intro n2 S x1 x2 x3 r M2 hq
 have a2:At S n2 (.cells true (wtc w) 58):=At.new_same x1
 have g1:Grow M S:=x1.grow
 obtain⟨hq,G⟩:=hq
 have a2:=a2.grow G
 have g2:=g1.trans G
 have i5:=G.le
 clear x1 cN
 rcases hq with⟨er,he,rfl⟩|⟨hw,kp,d7,rfl,hK⟩
 ·repeat' first|with_reducible intro _|refine sv ?_|((with_reducible first|apply z01|apply z05|apply zr);exact gd;exact rfl;exact rfl;(first|exact zk8 (b7 _ (xg))))|refine ss ?_ ?_<;>(intro h;first|exact sz h|refine sy h ?_)|exact sq|fail
  all_goals try(exfalso;omega)
  refine kf ?_
  rfl
 refine Wh ?_;intros
 refine z35 (by exact gd) (zg7 rfl) ?_
 refine Wh ?_;intros
 refine zg (fun z E c2 M'=>∃(i b hi:Nat) (s:Sc) (d:List Int) (T:List Fr) (c:List UInt8) (v8:LV) (xs:List FW),z=30-i/\i<=30/\i<=L.length/\c2=[]/\Has E [(1,.slice a L.length f e),(2,.ptr (some (n2,0))),(5,.ptr (some (kp,0))),(7,.str (strL c)),(8,v8),(9,I i)]/\Grow M M'/\At M' n2 (.cells true (wtc w) 58)/\KpV M' kp b hi s d w/\KpOk s d/\(∀ y∈s.sg,y.2.1.size<=1000000000000000)/\(S.next<=b/\hi<=M'.next)/\Kg T d.length c/\T.length<=i/\WnK S.next kp b hi M' v8 xs T)
  ?_ 30 _ _ _ ⟨0,S.next,S.next,_,[],[],[],_,[],rfl,by omega,by omega,rfl,.cons rfl (.cons rfl (.cons rfl (.cons rfl (.cons rfl (.cons rfl .nil))))),g2,a2,hK,⟨rfl,rfl,rfl,rfl,by decide,by decide,fun m hm=>nomatch hm⟩,(fun y hy=>nomatch hy),by omega,Kg.nil,Nat.le_refl _,⟨fun N hN=>Vec.nil,fun N hN=>FwL.nil⟩⟩
 clear hK a2 g2 G
 rintro z E c2 N ⟨i,b,hi,s,d,T,c,v8,xs,rfl,R,h4,rfl,hE,O,Y,hK,a7,D,d3,V,f6,C⟩
 refine z06 hE ?_
 clear hE
 have lg:=O.le
 have i6:=Y.2
 have lkp:kp<N.next:=by
  obtain⟨v1,v2,v3,v4,v5,v6,Z,_⟩:=hK
  exact Z.2
 by_cases e7:i=30∨i=L.length
 ·have a1:=C.wv N (Keep.refl _ _)
  obtain⟨a8,f8,e8,rfl,d5⟩:=zux a1 (C.wf N (Keep.refl _ _))
  have D:nmB ⟨#[108,111,103]⟩=true:=by kernel_rfl
  obtain⟨g5,e1⟩:=zq7 (s:=⟨#[108,111,103]⟩) V (by omega) D
  have h6:=V.ln
  have c9:=zxj V (by omega) D
  repeat' first|with_reducible intro _|refine sv ?_|refine ss ?_ ?_<;>(intro h;first|exact sz h|refine sy h ?_)|exact sq|fail
  all_goals try(exfalso;omega)
  all_goals (
   rename_i nq Mq y1 y2 y3
   have sq:SlS Mq (some (nq,0)) [strL c]:=.inr ⟨nq,0,rfl,fun k hk=>by
    obtain rfl:k=0:=by simpa using hk
    exact Rd1.of_at (At.new_same y1) rfl⟩
   have gq:=O.trans y1.grow
   have U:=zn8 (n:=⟨#[108,111,103]⟩) (f:=true) (e:=1) sq (by decide) (by show 1<=_;decide) (fun s hs=>by
    rw[List.mem_singleton.1 hs];show c.length<=_;omega)
   rw[e1] at U
   have b3:=d5.grow y1.grow
   clear y1
   refine z55 (by exact gd) rfl rfl U ?_
   rintro r Mr ⟨v,rfl,hv,gr⟩
   have hv:RlV Mr v (⟨#[108,111,103]⟩,T):=hv
   have c4:=gq.trans gr
   have lr:=gr.le
   have e6:RlV Mr (.agg [.str ⟨#[108,111,103]⟩,.slice a8 T.length f8 e8]) (⟨#[108,111,103]⟩,T):=⟨a8,f8,e8,rfl,b3.grow gr⟩
   obtain⟨a9,f9,e9,rfl,f0⟩:=id hv
   clear U gr
   have cS:=fun M' (P:Grow Mr M')=>zi5 (hv.grow P) (e6.grow P) (by show T.length<=_;omega) (fun z hz=>by have:=(z97 (c9 z hz)).2;omega)
   have c0:∀ M',Grow Mr M'->preOk M' tabs=true:=fun M' P=>b7 _ (c4.trans P)
   repeat' first|with_reducible intro _|refine sv ?_|((with_reducible first|apply z01|apply z05|apply zr);exact gd;exact rfl;exact rfl;(first|exact zk8 (c0 _ (xg))))|((with_reducible first|apply zw|apply zx|apply zm);exact gd;exact rfl;exact rfl;(first|exact cS _ (xg)))|refine ss ?_ ?_<;>(intro h;first|exact sz h|refine sy h ?_)|exact sq|fail
   all_goals try(exfalso;simp_all;done)
   refine kf ?_
   rfl)
 have h3:i<30:=by omega
 have g:i<L.length:=by omega
 have hr:∃ j o,a=some (j,o) /\ ∃ ag fg eg,Rd N j (o+i*20) 20 (lkc (L[i]'g) ag fg eg)/\SlA 5 sgc N ag (L[i]'g).gs:=by
  rcases hL.grow O with J|⟨j,o,J,h2⟩
  ·subst J;exact absurd g (Nat.not_lt_zero _)
  ·exact⟨j,o,J,h2 i g⟩
 obtain⟨j,o,rfl,ag,fg,eg,hr,a3⟩:=hr
 have cD:=zws (fg:=fg) (eg:=eg) hK a7 hw (hO.grow O) (hF.grow O) D a3 (a0.g _ (List.getElem_mem g)) (a0.s _ (List.getElem_mem g))
 generalize L[i]=x at *
 have lj:=hr.2
 have f2:=hr;refine Wg ?_;intros
 refine z55 (by exact gd) rfl rfl cD ?_
 rintro r p ⟨m,e3,rfl,hD⟩
 clear cD hr a3
 have i1:=hw.so
 rcases hD with⟨g7,u,g3⟩|⟨rfl,s',u,Q,b6,k3⟩
 ·have H:=O.trans g3
  have K:=Y.grow g3
  have A:=C.grow g3
  have l3:=g3.le
  refine Wg ?_;intros
  exact zi (30-(i+1)) (by omega) ⟨i+1,b,hi,s,d,T,c,v8,xs,rfl,by omega,by omega,rfl,.cons rfl (.cons rfl (.cons rfl (.cons rfl (.cons rfl (.cons rfl .nil))))),H,K,u,a7,D,⟨d3.1,by omega⟩,V,by omega,A⟩
 have H:Grow M p:=Keep.to_grow' O k3 (fun i hi=>by rcases hi with J|J<;>omega)
 have l3:=k3.le
 have K:At p n2 (.cells true (wtc w) 58):=Y.keep k3 (fun hi=>by rcases hi with J|J<;>omega)
 have A:WnK S.next kp N.next p.next p v8 xs T:=C.keep k3 (fun i hi=>hi) (fun i J h2=>.inl J)
 have b5:(d++[m]).length=d.length+1:=by simp
 have f1:=Q.n1
 by_cases hm:m=w.so+1
 rotate_left
 ·refine Wg ?_;intros
  exact zi (30-(i+1)) (by omega) ⟨i+1,N.next,p.next,s',d++[m],T,c,v8,xs,rfl,by omega,by omega,rfl,.cons rfl (.cons rfl (.cons rfl (.cons rfl (.cons rfl (.cons rfl .nil))))),H,K,u,Q,b6,⟨by omega,by omega⟩,V.mono (by omega),by omega,A⟩
 have cM:=zra u Q
 refine Wg ?_;intros
 refine zk (by exact gd) rfl rfl (show AppOk Tryz.prog _ _ p _ from cM) ?_
 rintro r M4 ⟨⟨e2,i4⟩,g4⟩
 obtain⟨o4,f4,e4,rfl⟩:=e2.shape
 have l4:=g4.le
 rw[b5]
 refine Wh ?_;intro F M5 y1 y2 y3 n6 M6 y4 y5 y6 M7 y7 y8 y9
 have a4:Grow p M7:=xg
 have s5:At M7 F (.cells true ([(i:Int),-(i:Int),40000].flatMap intc) 3):=xm
 have y9:At M7 n6 (.cells true [I (d.length+1:Nat),I ((i%24:Nat):Int),.slice (some (F,0)) 3 true 1] 72):=y9
 clear y1 y4 y7 g4
 have d4:=zq6 (n:=d.length+1) (i:=i) (by omega) R
 have b0:∀ N',At N' F (.cells true ([(i:Int),-(i:Int),40000].flatMap intc) 3)->SlI N' (some (F,0)) [(i:Int),-(i:Int),40000]:=fun N' ha=>.inr ⟨F,0,rfl,fun k hk=>z9y (z18 (enc:=intc) ha (fun _ _=>rfl) hk)⟩
 have f3:=Nat.mod_lt i (show 0<24 by decide)
 have cP:=zey (M:=M7) (v:=.agg [I (d.length+1:Nat),I ((i%24:Nat):Int),.slice (some (F,0)) 3 true 1]) (x:=kfr (d.length+1) i) ⟨some (F,0),true,1,rfl,b0 _ s5⟩ ⟨by unfold I64;dsimp only;omega,by unfold I64;dsimp only;omega,by show 3<=_;decide,fun y hy=>by
  unfold I64
  simp only[List.mem_cons,List.not_mem_nil,or_false] at hy
  rcases hy with rfl|rfl|rfl<;>omega⟩
 have d9:pfF (kfr (d.length+1) i)=(pkL (kfr (d.length+1) i),0):=by unfold pfF;rw[if_pos d4]
 rw[d9] at cP
 dsimp only at cP
 refine zk (by exact gd) rfl rfl (show AppOk Tryz.prog _ _ M7 _ from cP) ?_
 rintro r M8 ⟨rfl,g8⟩
 clear cP
 have h9:=zl5 (d.length+1) i
 have h8:=zqc (kfr (d.length+1) i)
 have i2:(strL (pkL (kfr (d.length+1) i))).size=(pkL (kfr (d.length+1) i)).length:=rfl
 have e0:=zou (x:=(i:Int)*7) (m:=((strL (pkL (kfr (d.length+1) i))).size:Int)) (by omega)
 obtain⟨q,hq⟩:∃ q:Nat,restF ((i:Int)*7) ((strL (pkL (kfr (d.length+1) i))).size:Int)=(q:Int):=⟨(restF ((i:Int)*7) ((strL (pkL (kfr (d.length+1) i))).size:Int)).toNat,by omega⟩
 have U:=fun M'=>zu2 ((i:Int)*7) ((strL (pkL (kfr (d.length+1) i))).size:Int) (by omega) M'
 rw[hq] at U e0
 have s8:=s5.grow g8
 have b8:=y9.grow g8
 have a5:=a4.trans g8
 have l8:=g8.le
 clear s5 y9 g8
 generalize b2:kfr (d.length+1) i=fr at *
 refine Wsg @U ?_;intros
 refine z35 (by exact gd) (zpp (q:=q) rfl rfl (by omega)) ?_
 have a3:((strL (pkL fr)).extract 0 q).size=q:=by rw[ByteArray.size_extract];omega
 have cH:=zi4 (M:=M8) (s:=(strL (pkL fr)).extract 0 q) (by omega)
 have c5:=zs9 ((strL (pkL fr)).extract 0 q)
 have f5:=zgx ((strL (pkL fr)).extract 0 q)
 generalize harmL ((strL (pkL fr)).extract 0 q)=hh at *
 refine zk (by exact gd) rfl rfl (show AppOk Tryz.prog _ _ M8 _ from cH) ?_
 rintro r M9 ⟨rfl,g9⟩
 have f7:=V.ln
 refine z35 (by exact gd) (zg5 (s:=strL c) (t:=strL hh) rfl rfl (by show c.length+hh.length<=_;omega)) ?_
 refine Wh ?_
 refine z35 (by exact gd) (zg5 (s:=strL c++strL hh) (t:=strL (pkL fr)) rfl rfl (by rw[zck];show(c++hh).length+(pkL fr).length<=_;rw[List.length_append];omega)) ?_
 rw[zck,zck]
 have s9:=s8.grow g9
 have b9:=b8.grow g9
 have c3:=a5.trans g9
 have l9:=g9.le
 clear s8 b8 g9 cH U a4 a5
 refine Wh ?_;intro i9 Ma z1 z2 z3
 have ga:Grow p Ma:=c3.trans z1.grow
 have sa:=s9.grow z1.grow
 have ba:=b9.grow z1.grow
 have X:=A.grow ga
 have i7:=ga.le
 have e5:=A.wv p (Keep.refl _ _)
 have c1:=X.wv Ma (Keep.refl _ _)
 have d1:=K.grow ga
 have a6:=u.grow ga
 have i3:xs.length=T.length:=(X.wf Ma (Keep.refl _ _)).len
 refine z62 (by exact gd) (l':=[((((d.length+1:Nat):Int),((i%24:Nat):Int)),some (F,0),3,true,1)]) c1 rfl rfl rfl (by simp) (by rw[List.length_singleton];omega) rfl (zgw (x:=((((d.length+1:Nat):Int),((i%24:Nat):Int)),some (F,0),3,true,1)) z1) (fun _=>rfl) (fun _=>rfl) ?_
 intro v' Mb hV h7 kV
 have d0:=X.snoc (f:=fr) (c:=M4.next) (i0:=F) hV kV (by omega) (by have:=d7;omega) (by omega) (by omega) (by omega) (by omega) (fun i o n f e q=>by have:=Vec.ltW e5 i o n f e q;omega) (fun N' c8=>by subst b2;exact⟨rfl,rfl,b0 _ (c8 _ sa)⟩)
 have i8:=kV.le
 have gb:Grow M Mb:=Keep.to_grow' (H.trans ga) kV (fun i hi=>by have:=hi.1;omega)
 have d2:At Mb n2 (.cells true (wtc w) 58):=d1.keep kV (fun hi=>by have:=hi.1;omega)
 have a1:=C.wv N (Keep.refl _ _)
 have c7:KpV Mb kp N.next p.next s' (d++[m]) w:=a6.keep kV (fun i hi=>by
  obtain⟨h0,o,n,f,e,b4⟩:=hi
  have d8:=Vec.ltW a1 _ _ _ _ _ b4
  refine⟨fun d6=>?_,.inl d8⟩
  subst d6
  obtain⟨v1,v2,v3,v4,v5,v6,Z,_⟩:=a6
  exact Vec.offW c1 Z (by decide) b4)
 obtain⟨o9,f9,e9,rfl⟩:=hV.shape
 have b1:=V.snoc (i:=i) (by omega) R c5 (by omega)
 rw[b2] at b1
 refine Wh ?_
 refine zi (30-(i+1)) (by omega) ⟨i+1,N.next,p.next,s',d++[m],T++[fr],_,_,_,rfl,by omega,by omega,rfl,.cons rfl (.cons rfl (.cons rfl (.cons rfl (.cons rfl (.cons rfl .nil))))),gb,d2,c7,Q,b6,⟨by omega,by omega⟩,by rw[b5];exact b1,by rw[List.length_append,List.length_singleton];omega,d0⟩
end Go.Proofs.YtpgalhbplcanhaaGreatDoor.C
end
section
open Go PvL Go.Proofs
namespace Go.Proofs.YtpgalhbplcanhaaGreatDoor.C
abbrev bdShK:Sh:=.pair (.int .i64) (.int .i64)
abbrev rgShK:Sh:=.pair bdShK (.pair bdShK (.pair bdShK bdShK))
abbrev sgShK:Sh:=.pair (.int .i64) (.pair .str (.pair (.int .i64) (.pair (.int .i64) (.int .i64))))
abbrev lkShK:Sh:=.pair rgShK (.pair rgShK (.pair .bool (.pair .bool (.pair (.sl sgShK 48) .bool))))
abbrev wtShK:Sh:=.pair (.int .i64) (.pair (.int .i64) (.pair (.int .i64) (.pair (.int .i64) (.pair (.int .i64) (.pair (.int .i64) (.int .i64))))))
def toLk(x:lkShK.T):Lk:=⟨x.1,x.2.1,x.2.2.1,x.2.2.2.1,x.2.2.2.2.1,x.2.2.2.2.2⟩
theorem zrt{m:Mem}{x:wtShK.T}{cs:List LV}(q:Enc m wtShK x cs):∃ w,cs=wtc w:=by
 obtain⟨_,_,rfl,⟨rfl,_⟩,_,_,rfl,⟨rfl,_⟩,_,_,rfl,⟨rfl,_⟩,_,_,rfl,⟨rfl,_⟩,_,_,rfl,⟨rfl,_⟩,_,_,rfl,⟨rfl,_⟩,⟨rfl,_⟩⟩:=q
 exact⟨⟨_,_,_,_,_,_,_⟩,rfl⟩
theorem zkl{m:Mem}{x:rgShK.T}{c:List LV}(q:Enc m rgShK x c):c=rgc x:=by
 obtain⟨_,_,rfl,⟨_,_,rfl,⟨rfl,_⟩,⟨rfl,_⟩⟩,_,_,rfl,⟨_,_,rfl,⟨rfl,_⟩,⟨rfl,_⟩⟩,_,_,rfl,⟨_,_,rfl,⟨rfl,_⟩,⟨rfl,_⟩⟩,⟨_,_,rfl,⟨rfl,_⟩,⟨rfl,_⟩⟩⟩:=q
 rfl
theorem znu{m:Mem}{l:List sgShK.T}{cs:List LV}(q:Enc m (.sl sgShK 48) l cs):∃ a f,cs=[.slice a l.length f 5]/\SlA 5 sgc m a l/\l.length*48<=reachBytes /\ ∀ x∈l,x.2.1.size<=reachBytes:=by
 obtain⟨a,f,h,j,u⟩:=q
 by_cases p:l=[]
 ·subst p
  exact⟨a,f,h,.inl rfl,j.2,fun x g=>nomatch g⟩
 ·obtain⟨i,o,r,s,_,t⟩:=u p
  have e:∀ k (d:k<l.length),Rd m i (o+k*5) 5 (sgc l[k])/\l[k].2.1.size<=reachBytes:=fun k d=>by
   obtain⟨c,g4,_,_,rfl,⟨rfl,_⟩,_,_,rfl,⟨rfl,hz⟩,_,_,rfl,⟨rfl,_⟩,_,_,rfl,⟨rfl,_⟩,⟨rfl,_⟩⟩:=t k d
   exact⟨⟨g4,s⟩,hz⟩
  refine⟨a,f,h,.inr ⟨i,o,r,fun k d=>(e k d).1⟩,j.2,fun x g=>?_⟩
  obtain⟨k,d,rfl⟩:=List.getElem_of_mem g
  exact(e k d).2
theorem znt{m:Mem}{l:List lkShK.T}{cs:List LV}(q:Enc m (.sl lkShK 168) l cs):∃ a f,cs=[.slice a (l.map toLk).length f 20]/\LksM m a (l.map toLk)/\LksOk (l.map toLk):=by
 obtain⟨a,f,u,G,H⟩:=q
 have J:l.length<=140737488351232:=G.1
 rw[List.length_map]
 by_cases v:l=[]
 ·subst v
  exact⟨a,f,u,.inl rfl,by simp,(fun x e=>nomatch e),fun x e=>nomatch e⟩
 ·obtain⟨i,o,D,E,_,F⟩:=H v
  have g:∀ k (d:k<l.length),(∃ j t C,Rd m i (o+k*20) 20 (lkc (toLk l[k]) j t C)/\SlA 5 sgc m j (toLk l[k]).gs)/\(toLk l[k]).gs.length*48<=140737488351232 /\ ∀ y∈(toLk l[k]).gs,y.2.1.size<=1000000000000000:=fun k d=>by
   obtain⟨c,g4,_,_,rfl,w,_,_,rfl,z,_,_,rfl,p,_,_,rfl,r,_,_,rfl,A,s⟩:=F k d
   obtain⟨j,t,rfl,K,L,O⟩:=znu A
   rw[zkl w,zkl z] at g4
   have p:_=[LV.bool _]:=p
   have r:_=[LV.bool _]:=r
   have s:_=[LV.bool _]:=s
   subst p r s
   exact⟨⟨j,t,5,⟨g4,E⟩,K⟩,L,fun y h=>Nat.le_trans (O y h) (by decide)⟩
  refine⟨a,f,u,.inr ⟨i,o,D,fun k d=>?_⟩,by rw[List.length_map];omega,fun x e=>?_,fun x e=>?_⟩
  ·rw[List.length_map] at d
   rw[List.getElem_map]
   exact(g k d).1
  ·obtain⟨y,h,rfl⟩:=List.mem_map.1 e
   obtain⟨k,d,rfl⟩:=List.getElem_of_mem h
   exact(g k d).2.1
  ·obtain⟨y,h,rfl⟩:=List.mem_map.1 e
   obtain⟨k,d,rfl⟩:=List.getElem_of_mem h
   exact(g k d).2.2
def tabsK:Tab:=[(0,intsL .i64 zs1,0),(4,intsL .u64 zs2,0),(6,ocs,0),(8,intsL .u8 zs5,0)]
theorem zp4:tabsOk tabsK=true:=by kernel_rfl
theorem zfz:tabsK.Pairwise (fun x y=>x.1≠y.1):=by decide
theorem z6q{m:Mem}{x:Nat×List LV×TypeId}{l:Tab}(q:preOk m (x::l)=true):cellsAre (m.get x.1) x.2.1 x.2.2=true/\preOk m l=true:=Bool.and_eq_true _ _▸q
theorem zlz{m:Mem}{x:Nat×List LV×TypeId}{l:Tab}(q:cellsAre (m.get x.1) x.2.1 x.2.2=true)(d:preOk m l=true):preOk m (x::l)=true:=by
 show(cellsAre (m.get x.1) x.2.1 x.2.2&&preOk m l)=true
 rw[q,d];rfl
theorem preK{m:Mem}(q:preOk m tabsK=true):preOk m tabs=true:=zlz (z6q (z6q q).2).1 (z6q (z6q (z6q q).2).2).2
theorem ocK{M:Mem}(d:Base M)(e:preOk M tabsK=true):OcM M:=by
 obtain⟨own,q⟩:=z51 tabsK e (6,ocs,0) (by unfold tabsK;simp only[List.mem_cons,true_or,or_true])
 exact⟨own,q,d _ _ q⟩
theorem fsK{M:Mem}(d:Base M)(e:preOk M tabsK=true):FsM M:=by
 obtain⟨own,q⟩:=z51 tabsK e (0,intsL .i64 zs1,0) (by unfold tabsK;simp only[List.mem_cons,true_or,or_true])
 exact Rd.of_at (ty:=0) ⟨q,d _ _ q⟩ rfl
theorem zo6{m:Mem}{w:Wt}{L:List Lk}{a:Option (Nat×Nat)}{f:Bool}{e:Nat}(j:LksM m a L)(g:LksOk L)(d:Base m)(h:preOk m tabsK=true):CallN Tryz.prog 5 [.agg (wtc w),.slice a L.length f e] m (fun v _=>v=.bool true) :=
 zi3 j g (ocK d h) (fsK d h) d (preK h)
