/-
 Part of the proof of TapeUnpacks. No condition beyond those in each theorem.
-/
import Derived.Test.YtbfnnllgdioccaaGreatDoorSB
import Derived.Test.YtbfnnllgdioccaaGreatDoorSE
import Derived.Test.YtbfnnllgdioccaaGreatDoorSA
import Derived.Test.YtbfnnllgdioccaaGreatDoorSD
section
open Go PvL Go.Proofs
set_option linter.unusedSimpArgs false
set_option linter.unusedVariables false
variable {μ:Md}
namespace Go.Proofs.YtbfnnllgdioccaaGreatDoor.C
def atR(s:ByteArray)(i:Nat):Int:=if i < s.size then(byteAt s i:Int) else -1
theorem zk9(s:ByteArray)(hs:s.size<=1000000000000000)(p:Nat)(M:Mem):z9 Tryz.prog 74 [.str s,I p] M (fun w M'=>w=I (atR s p) /\ M'=M):=by
 refine zb k74 rfl ?_
 dsimp only[x74,zM,zO,zI,zF,zS,zB,zL,zA,zE,zN,zW,zC,zipE,Nat.reduceAdd]
 have hb2:=z0h s p
 unfold atR
 by_cases hlt:p < s.size
 ·rw[if_pos hlt]
  repeat' first|with_reducible intro _|refine sv ?_|refine sc ?_ ?_<;>(intro h;try exact sz h)|refine sg ?_ ?_<;>(intro h;first|exact sz h|refine sy h ?_)|exact sq|fail
  all_goals first|((refine kf ?_);exact⟨rfl,rfl⟩)|(exfalso;omega)
 ·rw[if_neg hlt]
  repeat' first|with_reducible intro _|refine sv ?_|refine sc ?_ ?_<;>(intro h;try exact sz h)|refine sg ?_ ?_<;>(intro h;first|exact sz h|refine sy h ?_)|exact sq|fail
  all_goals first|((refine kf ?_);exact⟨rfl,rfl⟩)|(exfalso;omega)
theorem zpr(s:ByteArray)(hs:s.size<=1000000000000000)(p:Nat)(z:Int)(hz:z=p)(M:Mem):z9 Tryz.prog 74 [.str s,I z] M (fun w M'=>w=I (atR s p) /\ M'=M):=by
 subst hz;exact zk9 s hs p M
def ldC(s:ByteArray):Nat->Nat->Nat->Nat->Option (Nat × Nat)
 | 0,i,n,_=>some (n,i)
 | j+1,i,n,u=>if i < s.size then(if 128<=byteAt s i then ldC s j (i+1) (n+u*(byteAt s i % 128)) (u*128) else some (n+u*(byteAt s i % 128),i+1)) else none
def ldV(n:Nat)(last:Int):Int × Int:=if n=0 then(40000,last) else if n=1 then(40001,last) else(nxS last n,nxS last n)
def ldS(s:ByteArray):Nat->Nat->Int->List Int->Option (List Int)
 | 0,_,_,acc=>some acc
 | k+1,i,last,acc=>match ldC s 4 i 0 1 with
  | none=>none
  | some (n,q)=>ldS s k q (ldV n last).2 (acc ++ [(ldV n last).1])
def fdR(s:ByteArray)(p:Nat):Option (Fr × Nat) :=
 if atR s p=165 /\ atR s (p+1)=90 /\ p+6<=s.size then(match ldS s (byteAt s (p+5)) (p+6) 0 [] with
  | none=>none
  | some l=>let f:Fr:=((((256*byteAt s (p+2)+byteAt s (p+3):Nat)):Int),((byteAt s (p+4):Nat):Int),l)
   if frB f=true /\ p+(pkL f).length<=s.size /\ s.extract p (p+(pkL f).length)=strL (pkL f) then some (f,p+(pkL f).length) else none)
 else none
abbrev zFrv:LV:=.agg [I 0,I 0,.slice none 0 true 0]
def FdQ(r:Option (Fr × Nat))(M:Mem)(w:LV)(M':Mem):Prop:=(match r with
 | some (x,q)=>∃ v,w=.tup [.agg [I x.1,I x.2.1,v],I q,.bool true] /\ Vec M.next 1 3 intc M' v x.2.2
 | none=>w=.tup [zFrv,I 0,.bool false]) /\ Grow M M'
set_option maxHeartbeats 8000000 in
theorem zhc{s:ByteArray}{p:Nat}{M:Mem}(hs:s.size<=1000000)(hp:p < s.size) :
  z9 Tryz.prog 75 [.str s,I p] M (FdQ (fdR s p) M):=by
 refine zb k75 rfl ?_
 dsimp only[x75,zM,zO,zI,zF,zS,zB,zL,zA,zE,zN,zW,zC,zipE,Nat.reduceAdd]
 have ca:=fun(k:Nat) (z:Int) (hz:z=(k:Int)) (M':Mem)=>zpr s (by omega) k z hz M'
 have hat:∀ k,-1<=atR s k /\ atR s k<=255:=fun k=>by
  unfold atR
  have:=z0h s k
  split<;>omega
 have h0:=hat p
 have h1:=hat (p+1)
 by_cases hc:atR s p=165 /\ atR s (p+1)=90 /\ p+6<=s.size
 case neg =>
  have hF:fdR s p=none:=by unfold fdR;rw[if_neg hc]
  rw[hF]
  repeat' first|with_reducible intro _|refine sv ?_|refine sc ?_ ?_<;>(intro h;try exact sz h)|((with_reducible first|apply z06|apply z0k|apply d_same0);exact gd;exact rfl;exact rfl;(first|exact ca p _ rfl _|exact ca (p+1) _ (by omega) _))|refine sg ?_ ?_<;>(intro h;first|exact sz h|refine sy h ?_)|exact sq|fail
  all_goals first|(exfalso;omega)|skip
  all_goals ((refine kf ?_);exact⟨rfl,xg⟩)
 obtain⟨hc1,hc2,hc3⟩:=hc
 have hb:∀ k,k < s.size->atR s k=byteAt s k:=fun k hk=>by unfold atR;rw[if_pos hk]
 have e2:=hb (p+2) (by omega)
 have e3:=hb (p+3) (by omega)
 have e4:=hb (p+4) (by omega)
 have e5:=hb (p+5) (by omega)
 have l2:=z0h s (p+2)
 have l3:=z0h s (p+3)
 have l4:=z0h s (p+4)
 have l5:=z0h s (p+5)
 repeat' first|with_reducible intro _|refine sv ?_|refine sc ?_ ?_<;>(intro h;try exact sz h)|((with_reducible first|apply z06|apply z0k|apply d_same0);exact gd;exact rfl;exact rfl;(first|exact ca p _ rfl _|exact ca (p+1) _ (by omega) _|exact ca (p+2) _ (by omega) _|exact ca (p+3) _ (by omega) _|exact ca (p+4) _ (by omega) _|exact ca (p+5) _ (by omega) _))|refine sg ?_ ?_<;>(intro h;first|exact sz h|refine sy h ?_)|exact sq|fail
 all_goals first|(exfalso;omega)|skip
 rename_i rc M1 A1 A2 A3 y1 y2 fc M2 A4 A5 A6 M3 A7 A8 A9
 rw[e2,e3,e4] at A9
 rw[e5]
 generalize hn:byteAt s (p+5)=n at *
 generalize hsh:(256*(byteAt s (p+2):Int)+(byteAt s (p+3):Int))=sh at *
 generalize hch:(byteAt s (p+4):Int)=ch at *
 have hrc3:At M3 rc (.cells true [I 0,I 0,.slice none 0 true 0] 48):=xm
 have hg3:Grow M M3:=xg
 have hrf:rc < fc:=by omega
 have hrM:M.next<=rc:=by omega
 have hfc3:fc < M3.next:=A9.2
 have hF:fdR s p=(match ldS s n (p+6) 0 [] with
  | none=>none
  | some l=>if frB (sh,ch,l)=true /\ p+(pkL (sh,ch,l)).length<=s.size /\ s.extract p (p+(pkL (sh,ch,l)).length)=strL (pkL (sh,ch,l)) then some ((sh,ch,l),p+(pkL (sh,ch,l)).length) else none):=by
  unfold fdR
  rw[if_pos ⟨hc1,hc2,hc3⟩,hn]
  have hs2:(((256*byteAt s (p+2)+byteAt s (p+3):Nat)):Int)=sh:=by omega
  rw[hs2,hch]
 have hshb:0<=sh /\ sh<=65535:=by omega
 have hchb:0<=ch /\ ch<=255:=by omega
 have hn255:n<=255:=by omega
 clear A1 A4 A7
 refine z8 (fun z E ms M'=>∃(k i:Nat) (last:Int) (acc:List Int) (v:LV),z=n - k /\ k<=n /\ ms=[] /\ Has E [(0,.str s),(1,I p),(4,.ptr (some (rc,0))),(7,.ptr (some (fc,0))),(8,I n),(9,I last),(10,I i),(11,I k)] /\ acc.length=k /\ (-(k*134217728)<=last /\ last<=k*134217728) /\ (∀ x ∈ acc,I64 x) /\ i<=s.size /\
   ldS s n (p+6) 0 []=ldS s (n - k) i last acc /\ At M' fc (.cells true [I sh,I ch,v] 48) /\ At M' rc (.cells true [I 0,I 0,.slice none 0 true 0] 48) /\ Vec M3.next 1 3 intc M' v acc /\ Grow M M' /\ M3.next<=M'.next)
  ?_ n _ _ _ ⟨0,p+6,0,[],_,by omega,by omega,rfl,.cons rfl (.cons rfl (.cons rfl (.cons rfl (.cons rfl (.cons rfl (.cons (by show some (I _)=some (I _);push_cast;rfl) (.cons rfl .nil))))))),rfl,by omega,(fun _ h=>nomatch h),hc3,rfl,A9,hrc3,Vec.nil,hg3,Nat.le_refl _⟩
 rintro z E ms N ⟨k,i,last,acc,v,rfl,hk,rfl,hE,hacc,hla,haI,hi,hw,hf1,hr1,hv1,hg1,hN⟩
 refine zu hE ?_
 by_cases hlast:k=n
 case neg =>
  obtain⟨m,hm⟩:∃ m,n - k=m+1:=⟨n - k - 1,by omega⟩
  rw[hm,show ldS s (m+1) i last acc=(match ldC s 4 i 0 1 with
   | none=>none
   | some (n,q)=>ldS s m q (ldV n last).2 (acc ++ [(ldV n last).1])) from rfl] at hw
  repeat' first|with_reducible intro _|refine sv ?_|refine sc ?_ ?_<;>(intro h;try exact sz h)|refine sg ?_ ?_<;>(intro h;first|exact sz h|refine sy h ?_)|exact sq|fail
  refine z2c (K:=fun e E ms M'=>(e=.exit 2 /\ ms=[] /\ M'=N /\ ∃ n' i':Nat,Has E [(0,.str s),(1,I p),(4,.ptr (some (rc,0))),(7,.ptr (some (fc,0))),(8,I n),(9,I last),(10,I i'),(11,I k),(12,I n')] /\ ldC s 4 i 0 1=some (n',i') /\ n' < 268435456 /\ i'<=s.size) ∨(e=.ret /\ KFun [.cellN 4 3,.tmp 5,.tmp 6] (FdQ (fdR s p) M) .ret E ms M')) ?_ ?_
  rotate_left
  ·rintro e E4 ms4 N4 (⟨rfl,rfl,rfl,n',i',hE4,hcd,hn28,hi'⟩|⟨rfl,hkf⟩)
   rotate_left
   ·repeat' first|with_reducible intro _|refine sv ?_|refine sc ?_ ?_<;>(intro h;try exact sz h)|refine sg ?_ ?_<;>(intro h;first|exact sz h|refine sy h ?_)|exact sq|fail
   rw[hcd] at hw
   simp only at hw
   refine z0x ?_
   refine z3p ?_
   refine zu hE4 ?_
   obtain⟨va,vf,ve,rfl⟩:=hv1.shape
   clear ca hE4 hE
   have e1n:((n':Int) % 2)=((n' % 2:Nat):Int):=by omega
   repeat' first|with_reducible intro _|refine sv ?_|refine sc ?_ ?_<;>(intro h;try exact sz h)|refine sg ?_ ?_<;>(intro h;first|exact sz h|refine sy h ?_)|exact sq|fail
   ·rename_i m7 M7 C1 C2 C3
    have hv7:=hv1.grow C1.grow
    have hf7:=hf1.grow C1.grow
    have hr7:=hr1.grow C1.grow
    have hg7:=hg1.trans C1.grow
    have hof:=z1o C1
    clear C1
    refine z1p (by exact gd) (l':=[40000]) hv7 rfl rfl rfl (by simp) (by rw[hacc,List.length_singleton];omega) rfl hof (fun _=>rfl) (fun _=>rfl) (by omega) ?_
    intro v8 M8 hv8 e8 k8
    have hf8:=k8.at hf7 (fun hi=>by have:=hi.1;omega)
    have hr8:=k8.at hr7 (fun hi=>by have:=hi.1;omega)
    have hg8:Grow M M8:=Keep.to_grow' hg7 k8 (fun i hi=>by have:=hi.1;have:=hg3.le;omega)
    obtain⟨v8a,v8f,v8e,rfl⟩:=hv8.shape
    repeat' first|with_reducible intro _|refine sv ?_|refine sc ?_ ?_<;>(intro h;try exact sz h)|refine sg ?_ ?_<;>(intro h;first|exact sz h|refine sy h ?_)|exact sq|fail
    rename_i M9 D1 D2 D3
    have hu9:Keep (fun i=>i=fc) M8 M9:=(Keep.refl (fun i=>i=fc) M8).upd D1 (.inl rfl)
    have hval:ldV n' last=(40000,last):=by unfold ldV;rw[if_pos (by omega)]
    have hI:I64 (40000):=by unfold I64;omega
    refine zc (n - (k+1)) (by omega) ⟨k+1,i',last,acc ++ [40000],_,rfl,by omega,rfl,.cons rfl (.cons rfl (.cons rfl (.cons rfl (.cons rfl (.cons rfl (.cons rfl (.cons rfl .nil))))))),by simp[hacc],by omega,?_,hi',?_,D3,hu9.at hr8 (fun h=>by omega),hv8.keep hu9 (fun i hi=>by subst hi;exact hfc3),hg8.keep hu9 (fun i hi=>by omega),by omega⟩
    ·intro y hy
     rcases List.mem_append.1 hy with hy|hy
     ·exact haI y hy
     ·rw[List.mem_singleton.1 hy];exact hI
    ·rw[hw,hval,show n - (k+1)=m by omega]
   ·rename_i m7 M7 C1 C2 C3
    have hv7:=hv1.grow C1.grow
    have hf7:=hf1.grow C1.grow
    have hr7:=hr1.grow C1.grow
    have hg7:=hg1.trans C1.grow
    have hof:=z1o C1
    clear C1
    refine z1p (by exact gd) (l':=[40001]) hv7 rfl rfl rfl (by simp) (by rw[hacc,List.length_singleton];omega) rfl hof (fun _=>rfl) (fun _=>rfl) (by omega) ?_
    intro v8 M8 hv8 e8 k8
    have hf8:=k8.at hf7 (fun hi=>by have:=hi.1;omega)
    have hr8:=k8.at hr7 (fun hi=>by have:=hi.1;omega)
    have hg8:Grow M M8:=Keep.to_grow' hg7 k8 (fun i hi=>by have:=hi.1;have:=hg3.le;omega)
    obtain⟨v8a,v8f,v8e,rfl⟩:=hv8.shape
    repeat' first|with_reducible intro _|refine sv ?_|refine sc ?_ ?_<;>(intro h;try exact sz h)|refine sg ?_ ?_<;>(intro h;first|exact sz h|refine sy h ?_)|exact sq|fail
    rename_i M9 D1 D2 D3
    have hu9:Keep (fun i=>i=fc) M8 M9:=(Keep.refl (fun i=>i=fc) M8).upd D1 (.inl rfl)
    have hval:ldV n' last=(40001,last):=by unfold ldV;rw[if_neg (by omega),if_pos (by omega)]
    have hI:I64 (40001):=by unfold I64;omega
    refine zc (n - (k+1)) (by omega) ⟨k+1,i',last,acc ++ [40001],_,rfl,by omega,rfl,.cons rfl (.cons rfl (.cons rfl (.cons rfl (.cons rfl (.cons rfl (.cons rfl (.cons rfl .nil))))))),by simp[hacc],by omega,?_,hi',?_,D3,hu9.at hr8 (fun h=>by omega),hv8.keep hu9 (fun i hi=>by subst hi;exact hfc3),hg8.keep hu9 (fun i hi=>by omega),by omega⟩
    ·intro y hy
     rcases List.mem_append.1 hy with hy|hy
     ·exact haI y hy
     ·rw[List.mem_singleton.1 hy];exact hI
    ·rw[hw,hval,show n - (k+1)=m by omega]
   ·rename_i m7 M7 C1 C2 C3
    have hv7:=hv1.grow C1.grow
    have hf7:=hf1.grow C1.grow
    have hr7:=hr1.grow C1.grow
    have hg7:=hg1.trans C1.grow
    have hof:=z1o C1
    clear C1
    refine z1p (by exact gd) (l':=[last+((n':Int) - 2) / 2]) hv7 rfl rfl rfl (by simp) (by rw[hacc,List.length_singleton];omega) rfl hof (fun _=>rfl) (fun _=>rfl) (by omega) ?_
    intro v8 M8 hv8 e8 k8
    have hf8:=k8.at hf7 (fun hi=>by have:=hi.1;omega)
    have hr8:=k8.at hr7 (fun hi=>by have:=hi.1;omega)
    have hg8:Grow M M8:=Keep.to_grow' hg7 k8 (fun i hi=>by have:=hi.1;have:=hg3.le;omega)
    obtain⟨v8a,v8f,v8e,rfl⟩:=hv8.shape
    repeat' first|with_reducible intro _|refine sv ?_|refine sc ?_ ?_<;>(intro h;try exact sz h)|refine sg ?_ ?_<;>(intro h;first|exact sz h|refine sy h ?_)|exact sq|fail
    rename_i M9 D1 D2 D3
    have hu9:Keep (fun i=>i=fc) M8 M9:=(Keep.refl (fun i=>i=fc) M8).upd D1 (.inl rfl)
    have hval:ldV n' last=(last+((n':Int) - 2) / 2,last+((n':Int) - 2) / 2):=by unfold ldV nxS;rw[if_neg (by omega),if_neg (by omega),if_pos (by omega)];congr 1<;>omega
    have hI:I64 (last+((n':Int) - 2) / 2):=by unfold I64;omega
    refine zc (n - (k+1)) (by omega) ⟨k+1,i',last+((n':Int) - 2) / 2,acc ++ [last+((n':Int) - 2) / 2],_,rfl,by omega,rfl,.cons rfl (.cons rfl (.cons rfl (.cons rfl (.cons rfl (.cons rfl (.cons rfl (.cons rfl .nil))))))),by simp[hacc],by omega,?_,hi',?_,D3,hu9.at hr8 (fun h=>by omega),hv8.keep hu9 (fun i hi=>by subst hi;exact hfc3),hg8.keep hu9 (fun i hi=>by omega),by omega⟩
    ·intro y hy
     rcases List.mem_append.1 hy with hy|hy
     ·exact haI y hy
     ·rw[List.mem_singleton.1 hy];exact hI
    ·rw[hw,hval,show n - (k+1)=m by omega]
   ·rename_i m7 M7 C1 C2 C3
    have hv7:=hv1.grow C1.grow
    have hf7:=hf1.grow C1.grow
    have hr7:=hr1.grow C1.grow
    have hg7:=hg1.trans C1.grow
    have hof:=z1o C1
    clear C1
    refine z1p (by exact gd) (l':=[last - ((n':Int) - 1) / 2]) hv7 rfl rfl rfl (by simp) (by rw[hacc,List.length_singleton];omega) rfl hof (fun _=>rfl) (fun _=>rfl) (by omega) ?_
    intro v8 M8 hv8 e8 k8
    have hf8:=k8.at hf7 (fun hi=>by have:=hi.1;omega)
    have hr8:=k8.at hr7 (fun hi=>by have:=hi.1;omega)
    have hg8:Grow M M8:=Keep.to_grow' hg7 k8 (fun i hi=>by have:=hi.1;have:=hg3.le;omega)
    obtain⟨v8a,v8f,v8e,rfl⟩:=hv8.shape
    repeat' first|with_reducible intro _|refine sv ?_|refine sc ?_ ?_<;>(intro h;try exact sz h)|refine sg ?_ ?_<;>(intro h;first|exact sz h|refine sy h ?_)|exact sq|fail
    rename_i M9 D1 D2 D3
    have hu9:Keep (fun i=>i=fc) M8 M9:=(Keep.refl (fun i=>i=fc) M8).upd D1 (.inl rfl)
    have hval:ldV n' last=(last - ((n':Int) - 1) / 2,last - ((n':Int) - 1) / 2):=by unfold ldV nxS;rw[if_neg (by omega),if_neg (by omega),if_neg (by omega)];congr 1<;>omega
    have hI:I64 (last - ((n':Int) - 1) / 2):=by unfold I64;omega
    refine zc (n - (k+1)) (by omega) ⟨k+1,i',last - ((n':Int) - 1) / 2,acc ++ [last - ((n':Int) - 1) / 2],_,rfl,by omega,rfl,.cons rfl (.cons rfl (.cons rfl (.cons rfl (.cons rfl (.cons rfl (.cons rfl (.cons rfl .nil))))))),by simp[hacc],by omega,?_,hi',?_,D3,hu9.at hr8 (fun h=>by omega),hv8.keep hu9 (fun i hi=>by subst hi;exact hfc3),hg8.keep hu9 (fun i hi=>by omega),by omega⟩
    ·intro y hy
     rcases List.mem_append.1 hy with hy|hy
     ·exact haI y hy
     ·rw[List.mem_singleton.1 hy];exact hI
    ·rw[hw,hval,show n - (k+1)=m by omega]
  refine z8 (fun z E ms M'=>∃(j i' n' u:Nat) (more:Bool),z=(if more then 4 - j else 0) /\ j<=4 /\ ms=[] /\ Has E [(0,.str s),(1,I p),(4,.ptr (some (rc,0))),(7,.ptr (some (fc,0))),(8,I n),(9,I last),(10,I i'),(11,I k),(12,I n'),(13,I u),(14,.bool more),(15,I j)] /\ M'=N /\ n' < u /\ u=128 ^ j /\ i'<=s.size /\ ldC s 4 i 0 1=(if more then ldC s (4 - j) i' n' u else some (n',i')))
   ?_ 4 _ _ _ ⟨0,i,0,1,true,rfl,by omega,rfl,.cons rfl (.cons rfl (.cons rfl (.cons rfl (.cons rfl (.cons rfl (.cons rfl (.cons rfl (.cons rfl (.cons rfl (.cons rfl (.cons rfl .nil))))))))))),rfl,by omega,rfl,hi,rfl⟩
  rintro z2 E2 ms2 N2 ⟨j,i',n',u,more,rfl,hj,rfl,hE2,rfl,hnu,hu,hi',hc⟩
  refine zu hE2 ?_
  clear hE hE2
  have huu:u=1 ∨ u=128 ∨ u=16384 ∨ u=2097152 ∨ u=268435456:=by
   have:j=0 ∨ j=1 ∨ j=2 ∨ j=3 ∨ j=4:=by omega
   rcases this with rfl|rfl|rfl|rfl|rfl<;>simp at hu<;>omega
  by_cases hgo:more=true /\ j < 4
  ·obtain⟨rfl,hj4⟩:=hgo
   rw[if_pos rfl] at hc
   obtain⟨jj,hjj⟩:∃ x,4 - j=x+1:=⟨4 - j - 1,by omega⟩
   rw[hjj,show ldC s (jj+1) i' n' u=(if i' < s.size then(if 128<=byteAt s i' then ldC s jj (i' + 1) (n' + u*(byteAt s i' % 128)) (u*128) else some (n' + u*(byteAt s i' % 128),i' + 1)) else none) from rfl] at hc
   by_cases hin:i' < s.size
   ·have hbi:=hb i' hin
    have hbl:=z0h s i'
    rw[if_pos hin] at hc
    have hmul:u*(byteAt s i' % 128)<=u*127:=Nat.mul_le_mul_left _ (by omega)
    generalize hbv:byteAt s i'=bv at *
    have e1':((bv:Int) % 128)=((bv % 128:Nat):Int):=by omega
    have e2':(u:Int)*((bv:Int) % 128)=((u*(bv % 128):Nat):Int):=by rw[e1'];push_cast;rfl
    have ca':∀ M',z9 Tryz.prog 74 [.str s,I i'] M' (fun w M''=>w=I bv /\ M''=M'):=fun M'=>by have:=zk9 s (by omega) i' M';rw[hbi] at this;exact this
    clear ca
    repeat' first|with_reducible intro _|refine sv ?_|refine sc ?_ ?_<;>(intro h;try exact sz h)|((with_reducible first|apply z06|apply z0k|apply d_same0);exact gd;exact rfl;exact rfl;(first|exact ca' _))|refine sg ?_ ?_<;>(intro h;first|exact sz h|refine sy h ?_)|exact sq|fail
    all_goals first|(exfalso;omega)|skip
    have hd:decide ((128:Int)<=(bv:Int))=decide (128<=bv):=decide_eq_decide.2 (by omega)
    refine zc (if decide (128<=bv)=true then 4 - (j+1) else 0) ?_ ⟨j+1,i' + 1,n' + u*(bv % 128),u*128,decide (128<=bv),rfl,by omega,rfl,.cons rfl (.cons rfl (.cons rfl (.cons rfl (.cons rfl (.cons rfl (.cons (by show some (I _)=some (I _);push_cast;rfl) (.cons rfl (.cons ?_ (.cons (by show some (I _)=some (I _);push_cast;rfl) (.cons ?_ (.cons (by show some (I _)=some (I _);push_cast;rfl) .nil))))))))))),rfl,by omega,by rw[hu,<- Nat.pow_succ],by omega,?_⟩
    ·rw[if_pos rfl];split<;>omega
    ·show some (I _)=some (I _)
     rw[e2'];push_cast;rfl
    ·show some (LV.bool _)=some (LV.bool _)
     rw[hd]
    ·rw[hc]
     by_cases h128:128<=bv
     ·rw[if_pos h128,if_pos (decide_eq_true h128),show 4 - (j+1)=jj by omega]
     ·rw[if_neg h128,if_neg (by rw[decide_eq_false h128];decide)]
   ·have hn1:atR s i'=-1:=by unfold atR;rw[if_neg hin]
    have ca':∀ M',z9 Tryz.prog 74 [.str s,I i'] M' (fun w M''=>w=I (-1) /\ M''=M'):=fun M'=>by have:=zk9 s (by omega) i' M';rw[hn1] at this;exact this
    rw[if_neg hin] at hc
    rw[hc] at hw
    have hF2:fdR s p=none:=by rw[hF,hw]
    rw[hF2]
    clear ca
    repeat' first|with_reducible intro _|refine sv ?_|refine sc ?_ ?_<;>(intro h;try exact sz h)|((with_reducible first|apply z06|apply z0k|apply d_same0);exact gd;exact rfl;exact rfl;(first|exact ca' _))|refine sg ?_ ?_<;>(intro h;first|exact sz h|refine sy h ?_)|exact sq|fail
    all_goals first|(exfalso;omega)|skip
    refine .inr ⟨rfl,?_⟩
    refine kf ?_
    exact⟨rfl,xg⟩
  ·have hcd:ldC s 4 i 0 1=some (n',i'):=by
    cases more with
    | false=>exact hc
    | true =>
     obtain rfl:j=4:=by
      by_cases h:j < 4
      ·exact absurd ⟨rfl,h⟩ hgo
      ·omega
     exact hc
   have hn28:n' < 268435456:=by omega
   cases more with
   | false =>
    repeat' first|with_reducible intro _|refine sv ?_|refine sc ?_ ?_<;>(intro h;try exact sz h)|refine sg ?_ ?_<;>(intro h;first|exact sz h|refine sy h ?_)|exact sq|fail
    all_goals exact .inl ⟨rfl,rfl,rfl,n',i',.cons rfl (.cons rfl (.cons rfl (.cons rfl (.cons rfl (.cons rfl (.cons rfl (.cons rfl (.cons rfl .nil)))))))),hcd,hn28,hi'⟩
   | true =>
    have hj4:j=4:=by
     by_cases h:j < 4
     ·exact absurd ⟨rfl,h⟩ hgo
     ·omega
    repeat' first|with_reducible intro _|refine sv ?_|refine sc ?_ ?_<;>(intro h;try exact sz h)|refine sg ?_ ?_<;>(intro h;first|exact sz h|refine sy h ?_)|exact sq|fail
    all_goals first|(exfalso;omega)|skip
    exact .inl ⟨rfl,rfl,rfl,n',i',.cons rfl (.cons rfl (.cons rfl (.cons rfl (.cons rfl (.cons rfl (.cons rfl (.cons rfl (.cons rfl .nil)))))))),hcd,hn28,hi'⟩
 subst hlast
 have hw2:ldS s k (p+6) 0 []=some acc:=by rw[hw,Nat.sub_self];rfl
 rw[hw2] at hF
 simp only at hF
 have hv10:=hv1
 obtain⟨aa,ff,ee,rfl,hsl⟩:=SlI.vec hv1
 have hfr:FrV N (.agg [I sh,I ch,.slice aa acc.length ff ee]) (sh,ch,acc):=⟨aa,ff,ee,rfl,hsl⟩
 have hin:FrIn (sh,ch,acc):=⟨(show I64 sh from by unfold I64;omega),(show I64 ch from by unfold I64;omega),by show acc.length<=_;omega,haI⟩
 have hck:=fun M' (hg:Grow N M')=>z5n (hfr.grow hg) hin
 by_cases hfB:frB (sh,ch,acc)=true
 case neg =>
  have hF2:fdR s p=none:=by rw[hF,if_neg fun h=>hfB h.1]
  have hne:errF (sh,ch,acc)=80:=by unfold errF;rw[if_neg hfB]
  rw[hne] at hck
  rw[hF2]
  clear ca hE
  repeat' first|with_reducible intro _|refine sv ?_|refine sc ?_ ?_<;>(intro h;try exact sz h)|((with_reducible first|apply zp|apply zr|apply d_pure0);exact gd;exact rfl;exact rfl;(first|exact hck _ (xg)))|refine sg ?_ ?_<;>(intro h;first|exact sz h|refine sy h ?_)|exact sq|fail
  all_goals first|(exfalso;omega)|skip
  refine kf ?_
  exact⟨rfl,xg⟩
 have hne:errF (sh,ch,acc)=0:=by unfold errF;rw[if_pos hfB]
 rw[hne] at hck
 have hpk:=fun M' (hg:Grow N M')=>zc0 (hfr.grow hg) hfB
 have hlen:=ze2 (x:=(sh,ch,acc)) (z32 hfB).2
 generalize hpl:pkL (sh,ch,acc)=pl at *
 have hsz:(strL pl).size=pl.length:=rfl
 by_cases hpq:p+pl.length<=s.size
 case neg =>
  have hF2:fdR s p=none:=by rw[hF,if_neg fun h=>hpq h.2.1]
  rw[hF2]
  clear ca hE
  repeat' first|with_reducible intro _|refine sv ?_|refine sc ?_ ?_<;>(intro h;try exact sz h)|((with_reducible first|apply zp|apply zr|apply d_pure0);exact gd;exact rfl;exact rfl;(first|exact hck _ (xg)|exact hpk _ (xg)))|refine sg ?_ ?_<;>(intro h;first|exact sz h|refine sy h ?_)|exact sq|fail
  all_goals first|(exfalso;omega)|skip
  refine kf ?_
  exact⟨rfl,xg⟩
 clear ca hE
 repeat' first|with_reducible intro _|refine sv ?_|refine sc ?_ ?_<;>(intro h;try exact sz h)|((with_reducible first|apply zp|apply zr|apply d_pure0);exact gd;exact rfl;exact rfl;(first|exact hck _ (xg)|exact hpk _ (xg)))|refine sg ?_ ?_<;>(intro h;first|exact sz h|refine sy h ?_)|exact sq|fail
 all_goals first|(exfalso;omega)|skip
 refine z1u (by exact gd) (zeg (f:=p) (p:=p+pl.length) rfl rfl rfl (by omega) hpq) ?_
 repeat' first|with_reducible intro _|refine sv ?_|refine sc ?_ ?_<;>(intro h;try exact sz h)|refine sg ?_ ?_<;>(intro h;first|exact sz h|refine sy h ?_)|exact sq|fail
 ·rename_i h
  have hF2:fdR s p=none:=by
   rw[hF,if_neg]
   intro h'
   have hx:(s.extract p (p+pl.length) == strL pl)=false:=by assumption
   rw[h'.2.2,z4k] at hx
   cases hx
  rw[hF2]
  refine kf ?_
  exact⟨rfl,xg⟩
 ·rename_i _ N1 G1 L1 _ N2 G2 L2 _ N3 U1 U2 U3
  have hx:(s.extract p (p+pl.length) == strL pl)=true:=by assumption
  have hF2:fdR s p=some ((sh,ch,acc),p+pl.length):=by rw[hF,if_pos ⟨hfB,hpq,z7s hx⟩]
  rw[hF2]
  refine kf ?_
  exact⟨⟨_,rfl,Vec.low (((hv10.grow G1).grow G2).keep ((Keep.refl (fun i=>i=rc) N2).upd U1 (.inl rfl)) (fun i hi=>by subst hi;omega)) hg3.le⟩,xg⟩
def FwN(N:Nat->Prop)(M:Mem)(x:FW)(f:Fr):Prop:=x.1=fky f /\ x.2.2.1=f.2.2.length /\ (f.2.2=[] ∨ ∃ i o,x.2.1=some (i,o) /\ ¬ N i /\ ∀ k (hk:k < f.2.2.length),Rd1 M i (o+k*1) (I f.2.2[k]))
inductive FwLN (N:Nat->Prop) (M:Mem):List FW->List Fr->Prop
 | nil:FwLN N M [] []
 | cons {x:FW} {f:Fr} {xs:List FW} {fs:List Fr} (h:FwN N M x f) (h':FwLN N M xs fs):FwLN N M (x :: xs) (f :: fs)
theorem FwN.keep{N F:Nat->Prop}{M M':Mem}{x:FW}{f:Fr}(h:FwN N M x f)(hk:Keep F M M')(hF:∀ i,F i->N i):FwN N M' x f :=
 ⟨h.1,h.2.1,h.2.2.imp id fun⟨i,o,h1,h2,h3⟩=>⟨i,o,h1,h2,fun k hk'=>(h3 k hk').keep hk (fun hf=>h2 (hF i hf))⟩⟩
theorem FwN.ge{N N':Nat->Prop}{M:Mem}{x:FW}{f:Fr}(h:FwN N M x f)(hb:∀ i,N' i->N i ∨ M.next<=i):FwN N' M x f:=by
 refine⟨h.1,h.2.1,?_⟩
 rcases h.2.2 with h0|⟨i,o,h1,h2,h3⟩
 ·exact .inl h0
 ·by_cases h0:f.2.2=[]
  ·exact .inl h0
  ·refine .inr ⟨i,o,h1,fun hN=>?_,h3⟩
   have:=(h3 0 (List.length_pos_iff.2 h0)).2
   rcases hb i hN with h|h
   ·exact h2 h
   ·omega
theorem FwLN.keep{N F:Nat->Prop}{M M':Mem}{xs:List FW}{fs:List Fr}(h:FwLN N M xs fs)(hk:Keep F M M')(hF:∀ i,F i->N i):FwLN N M' xs fs:=by
 induction h with
 | nil=>exact .nil
 | cons h _ ih=>exact .cons (h.keep hk hF) ih
theorem FwLN.ge{N N':Nat->Prop}{M:Mem}{xs:List FW}{fs:List Fr}(h:FwLN N M xs fs)(hb:∀ i,N' i->N i ∨ M.next<=i):FwLN N' M xs fs:=by
 induction h with
 | nil=>exact .nil
 | cons h _ ih=>exact .cons (h.ge hb) ih
theorem FwLN.snoc{N:Nat->Prop}{M:Mem}{xs:List FW}{fs:List Fr}{x:FW}{f:Fr}(h:FwLN N M xs fs)(h':FwN N M x f):FwLN N M (xs ++ [x]) (fs ++ [f]):=by
 induction h with
 | nil=>exact .cons h' .nil
 | cons h _ ih=>exact .cons h ih
theorem FwLN.l{N:Nat->Prop}{M:Mem}{xs:List FW}{fs:List Fr}(h:FwLN N M xs fs):FwL M xs fs:=by
 induction h with
 | nil=>exact .nil
 | cons h _ ih=>exact .cons ⟨h.1,h.2.1,h.2.2.imp id fun⟨i,o,h1,_,h3⟩=>⟨i,o,h1,h3⟩⟩ ih
theorem FwN.vec{N:Nat->Prop}{b:Nat}{ty:TypeId}{M:Mem}{v:LV}{f:Fr}(h:Vec b 1 ty intc M v f.2.2)(hN:∀ i,N i->i < b):∃ a g e,v=.slice a f.2.2.length g e /\ FwN N M (fky f,a,f.2.2.length,g,e) f:=by
 rcases h with⟨h0,rfl⟩|⟨i,rfl,h2,h3⟩
 ·exact⟨none,true,0,by rw[h0];rfl,rfl,rfl,.inl h0⟩
 ·exact⟨_,_,_,rfl,rfl,rfl,.inr ⟨i,0,rfl,fun hn=>by have:=hN i hn;omega,fun k hk=>zd0 (z23 (enc:=intc) h2 (fun _ _=>rfl) hk)⟩⟩
theorem zg6{α:Type}{b sz:Nat}{ty:TypeId}{enc:α->List LV}{M:Mem}{v:LV}{l:List α}{P:Program}[Orc P]{s0:Nat}{E:Env}{K:Env->Mem->Prop}{ld:List (XG × XK)}{d:Nat}{g:Option (Nat × Bool)}{s x:XO}{by':Nat}{z:List LV}{l':List α}{xv:LV}{st:List Mem}{k:Nat}{xs:List (Nat × Nat × (Mem->Prop))}(hg:GOn E g)(hv:Vec b sz ty enc M v l)(hs:xval E s=some v)(hx:xval E x=some xv)(hn:z0y xv=some l'.length)(h0:0 < l'.length)(hb:(2*(l.length+l'.length)+2048)*by'<=140737488355328)(hz:(Nat.ble 1 sz && (Nat.ble 1 by' && Nat.beq z.length sz))=true)(hw:z03 sz l'.length xv M=some (l'.flatMap enc))
  (henc:∀ x,(enc x).length=sz) (hfl:∀ x,ze (enc x)=true) (hbM:b<=M.next) (hk:∀ v' M',Vec b sz ty enc M' v' (l ++ l')->M'.next=M.next+1->Keep (fun i=>b<=i /\ ∃ o n f e,v=.slice (some (i,o)) n f e) M M'->(∃ n f e,v'=.slice (some (M.next,0)) n f e)->XD P s0 ld ((d,v') :: E) M' (M' :: st) (k+1) xs K):XD P s0 ((⟨some d,.app ty sz by' z s x,g⟩,.anchor) :: ld) E M st k xs K:=by
 obtain⟨v',M',h1,h2,h3,h4,h5⟩:=Vec.appx (P:=P) hv hs hx hn h0 hb hz hw henc hfl hbM
 exact zhm hg h1 (hk v' M' h2 h3 h4 h5)
theorem zml{x:Fr}(h:frB x=true):FrIn x:=by
 have h1:=z39 h
 have h2:=z32 h
 refine⟨by unfold I64;omega,by unfold I64;omega,by omega,fun n hn=>zja ?_⟩
 unfold frB smsB at h
 simp only[Bool.and_eq_true] at h
 exact List.all_eq_true.1 h.2.2.2 n hn
def wordL:List UInt8:=[80,65,82,65,86,65,78,69]
def wdB(s:ByteArray):Nat->Nat->Nat->Option (Unit × Nat)
 | 0,_,p=>some ((),p)
 | k+1,i,p=>match oneB s p with
  | none=>none
  | some (b,q)=>if b=byteAt (strL wordL) i then wdB s k (i+1) q else none
def nmR(s:ByteArray):Nat->Nat->List UInt8->Option (List UInt8 × Nat)
 | 0,p,acc=>some (acc,p)
 | k+1,p,acc=>match oneB s p with
  | none=>none
  | some (b,q)=>nmR s k q (acc ++ [u8 b])
def frsB(s:ByteArray):Nat->Nat->List Fr->Option (List Fr × Nat)
 | 0,p,acc=>some (acc,p)
 | k+1,p,acc=>match FrD s p with
  | none=>none
  | some (x,q)=>frsB s k q (acc ++ [x])
def RlD(s:ByteArray):Option (Rl × Nat):=match wdB s 8 0 0 with
 | none=>none
 | some (_,p1)=>match oneB s p1 with
  | none=>none
  | some (n,p2)=>match nmR s n p2 [] with
   | none=>none
   | some (nm,p3)=>match oneB s p3 with
    | none=>none
    | some (m,p4)=>match chkB s 0 p4 with
     | none=>none
     | some (_,p5)=>match frsB s m p5 [] with
      | none=>none
      | some (L,p6)=>if p6=s.size /\ z0v (strL nm,L)=0 then some ((strL nm,L),p6) else none
def RlQ(a:Nat)(s:ByteArray)(r:Option (Rl × Nat))(M:Mem)(w:LV)(M':Mem):Prop:=∃ x q,r=some (x,q) /\ (∃ v xs,w=.agg [.str x.1,v] /\ Vec M.next 3 48 fwc M' v xs /\ FwLN (fun i=>i < M.next) M' xs x.2) /\ Keep (fun i=>i=a) M M' /\ At M' a (rdr s q)
set_option maxHeartbeats 8000000 in
theorem zq3{a:Nat}{s:ByteArray}{M:Mem}(ha:At M a (rdr s 0))(hs:s.size<=1000000) :
  CallB Tryz.prog 73 [.ptr (some (a,0))] M (RlQ a s (RlD s) M) (RdN a s (RlD s) M):=by
 refine z25 k73 rfl ?_
 dsimp only[x73,zM,zO,zI,zF,zS,zB,zL,zA,zE,zN,zW,zC,zipE,Nat.reduceAdd]
 have haM:a < M.next:=ha.2
 repeat' first|with_reducible intro _|refine svb ?_|(refine sc ?_ ?_<;>(intro h;try exact sz h))|(refine sgb ?_ ?_<;>(intro h;first|exact sz h|refine sy h ?_))|exact sq|fail
 rename_i res M1 A1 A2 A3
 have ha1:At M1 a (rdr s 0):=xm
 have hr1:At M1 res (.cells true [.str ⟨#[]⟩,.slice none 0 true 0] 24):=xm
 have hg1:Grow M M1:=A1.grow
 have hk1:Keep (fun i=>i=a) M M1:=hg1.to_keep _
 clear A1
 refine z8 (fun z E ms M'=>∃(i p:Nat),z=8 - i /\ i<=8 /\ ms=[] /\ Has E [(0,.ptr (some (a,0))),(2,.ptr (some (res,0))),(7,I i)] /\ wdB s 8 0 0=wdB s (8 - i) i p /\ Keep (fun i=>i=a) M1 M' /\ At M' a (rdr s p))
  ?_ 8 _ _ _ ⟨0,0,by omega,by omega,rfl,.cons rfl (.cons rfl (.cons rfl .nil)),rfl,Keep.refl _ _,ha1⟩
 rintro z E ms N ⟨i,p,rfl,hi,rfl,hE,hw,hk,haN⟩
 refine zu hE ?_
 by_cases hlast:i=8
 case neg =>
  obtain⟨k,hkn⟩:∃ k,8 - i=k+1:=⟨8 - i - 1,by omega⟩
  rw[hkn,show wdB s (k+1) i p=(match oneB s p with
   | none=>none
   | some (b,q)=>if b=byteAt (strL wordL) i then wdB s k (i+1) q else none) from rfl] at hw
  repeat' first|with_reducible intro _|refine svb ?_|(refine sc ?_ ?_<;>(intro h;try exact sz h))|(refine sgb ?_ ?_<;>(intro h;first|exact sz h|refine sy h ?_))|exact sq|fail
  refine b_rd gd rfl rfl (zap haN (by omega)) ?_ ?_
  ·intro g1 M2 g2 g3 q2 g4 g5
   repeat' first|with_reducible intro _|refine svb ?_|(refine sc ?_ ?_<;>(intro h;try exact sz h))|(refine sgb ?_ ?_<;>(intro h;first|exact sz h|refine sy h ?_))|exact sq|fail
   refine zqt rfl (by exact gd) (z4j (s:=strL wordL) (k:=i) rfl rfl (by show i < 8;omega)) ?_
   repeat' first|with_reducible intro _|refine svb ?_|(refine sc ?_ ?_<;>(intro h;try exact sz h))|(refine sgb ?_ ?_<;>(intro h;first|exact sz h|refine sy h ?_))|exact sq|fail
   refine⟨?_,rfl,Keep.wide ((hk1.trans hk (fun i hi=>.inl hi)).trans g2 (fun i hi=>.inl hi)) (Nat.le_refl _),q2,At.wide g4 (Nat.le_refl _)⟩
   unfold RlD;rw[hw,g1]
  ·intro b q g1 M2 g2 g3 g4
   rw[g1] at hw
   simp only at hw
   have hb:=z1y g1
   have hk2:Keep (fun i=>i=a) M1 M2:=hk.trans g2 (fun i hi=>.inl hi)
   repeat' first|with_reducible intro _|refine svb ?_|(refine sc ?_ ?_<;>(intro h;try exact sz h))|(refine sgb ?_ ?_<;>(intro h;first|exact sz h|refine sy h ?_))|exact sq|fail
   refine zng (by exact gd) (z4j (s:=strL wordL) (k:=i) rfl rfl (by show i < 8;omega)) ?_
   have hb2:=z0h (strL wordL) i
   repeat' first|with_reducible intro _|refine svb ?_|(refine sc ?_ ?_<;>(intro h;try exact sz h))|((with_reducible first|apply x_mu|apply b_mu);exact gd;exact rfl;exact rfl;(first|exact z6z _ _);infer_instance)|(refine sgb ?_ ?_<;>(intro h;first|exact sz h|refine sy h ?_))|exact sq|fail
   ·rename_i hF
    refine⟨?_,rfl,Keep.wide (hk1.trans hk2 (fun i hi=>.inl hi)) (Nat.le_refl _),q,At.wide g4 (Nat.le_refl _)⟩
    unfold RlD;rw[hw,if_neg (by omega)]
   ·rename_i hT
    refine zc (8 - (i+1)) (by omega) ⟨i+1,q,rfl,by omega,rfl,.cons rfl (.cons rfl (.cons rfl .nil)),?_,hk2,g4⟩
    rw[hw,if_pos (by omega),show 8 - (i+1)=k by omega]
 subst hlast
 have hw0:wdB s 8 0 0=some ((),p):=hw
 have hr2:=hk.at hr1 (fun h=>by omega)
 have hk2:Keep (fun i=>i=a) M N:=hk1.trans hk (fun i hi=>.inl hi)
 have hnN:=hk.le
 clear hk hw hk1 hr1 hg1 ha1
 repeat' first|with_reducible intro _|refine svb ?_|(refine sc ?_ ?_<;>(intro h;try exact sz h))|(refine sgb ?_ ?_<;>(intro h;first|exact sz h|refine sy h ?_))|exact sq|fail
 rename_i nb N1 B1 B2 B3
 have haN1:At N1 a (rdr s p):=xm
 have hr3:=hr2.grow B1.grow
 have hk3:Keep (fun i=>i=a) M N1:=hk2.new B1
 have hb0:ApB nb N1 (.slice (some (nb,0)) 0 true 1) []:=⟨true,_,rfl,At.new_same B1,.inl rfl⟩
 have hlr:res < N1.next:=hr3.2
 have hanb:a < nb:=by omega
 have hrnb:res < nb:=by omega
 clear B1 hr2 hk2 haN
 refine x_rd gd rfl rfl (zap haN1 (by omega)) ?_ ?_
 ·intro g1 M2 g2 g3 q2 g4
  refine⟨?_,rfl,hk3.trans g2 (fun i hi=>.inl hi),q2,g4⟩
  unfold RlD;rw[hw0];simp only;rw[g1]
 intro n p2 r1 N2 g2 g3 haN2
 have hn256:=z1y r1
 have hb1:=hb0.keep g2 (fun h=>by omega)
 have hr4:=g2.at hr3 (fun h=>by omega)
 have hk4:Keep (fun i=>i=a) M N2:=hk3.trans g2 (fun i hi=>.inl hi)
 have hnb2:nb < N2.next:=hb1.lt
 clear hb0 hr3 hk3 haN1 g2
 repeat' first|with_reducible intro _|refine svb ?_|(refine sc ?_ ?_<;>(intro h;try exact sz h))|(refine sgb ?_ ?_<;>(intro h;first|exact sz h|refine sy h ?_))|exact sq|fail
 refine z8 (fun z E ms M'=>∃(i p b:Nat) (acc:List UInt8) (v:LV),z=n - i /\ i<=n /\ ms=[] /\ Has E [(0,.ptr (some (a,0))),(2,.ptr (some (res,0))),(4,v),(20,I n),(21,I i)] /\ nmR s n p2 []=nmR s (n - i) p acc /\ acc.length=i /\ ApB b M' v acc /\ (b=nb ∨ N2.next<=b) /\ Keep (fun i=>i=a ∨ i=nb) N2 M' /\ At M' a (rdr s p))
  ?_ n _ _ _ ⟨0,p2,nb,[],_,by omega,by omega,rfl,.cons rfl (.cons rfl (.cons rfl (.cons rfl (.cons rfl .nil)))),rfl,rfl,hb1,.inl rfl,Keep.refl _ _,haN2⟩
 rintro z E ms N ⟨i,p,b,acc,v,rfl,hi,rfl,hE,hw,hacc,hbv,hbb,hk,haN⟩
 refine zu hE ?_
 by_cases hlast:i=n
 case neg =>
  obtain⟨k,hkn⟩:∃ k,n - i=k+1:=⟨n - i - 1,by omega⟩
  rw[hkn,show nmR s (k+1) p acc=(match oneB s p with
   | none=>none
   | some (b,q)=>nmR s k q (acc ++ [u8 b])) from rfl] at hw
  repeat' first|with_reducible intro _|refine svb ?_|(refine sc ?_ ?_<;>(intro h;try exact sz h))|(refine sgb ?_ ?_<;>(intro h;first|exact sz h|refine sy h ?_))|exact sq|fail
  refine x_rd gd rfl rfl (zap haN (by omega)) ?_ ?_
  ·intro g1 M2 g2 g3 q2 g4
   refine⟨?_,rfl,hk4.trans (hk.trans g2 (fun i hi=>.inl (.inl hi))) (fun i hi=>hi.imp id fun h=>by omega),q2,g4⟩
   unfold RlD;rw[hw0];simp only;rw[r1];simp only;rw[hw,g1]
  intro c q g1 M2 g2 g3 g4
  rw[g1] at hw
  simp only at hw
  have hc:=z1y g1
  have hbv2:=hbv.keep g2 (fun h=>by omega)
  have hk2:Keep (fun i=>i=a ∨ i=nb) N2 M2:=hk.trans g2 (fun i hi=>.inl (.inl hi))
  have hl2:=hk2.le
  clear hbv haN hk g2
  repeat' first|with_reducible intro _|refine svb ?_|(refine sc ?_ ?_<;>(intro h;try exact sz h))|(refine sgb ?_ ?_<;>(intro h;first|exact sz h|refine sy h ?_))|exact sq|fail
  rename_i m M3 C1 C2 C3
  have hbv3:=hbv2.grow C1.grow
  have ha3:=At.grow C1.grow g4
  have hk5:=hk2.new C1
  have hf3:z03 1 1 (.slice (some (m,0)) 1 true 1) M3=some (z0i [u8 c]):=z86 (l:=[u8 c]) (by rw[<-zem hc];exact At.new_same C1)
  clear C1 hbv2 hk2
  refine zst (by exact gd) (l':=[u8 c]) hbv3 rfl rfl rfl (by simp) (by rw[hacc];simp;omega) rfl hf3 ?_
  intro v' M4 hv4 e4 k4
  repeat' first|with_reducible intro _|refine svb ?_|(refine sc ?_ ?_<;>(intro h;try exact sz h))|(refine sgb ?_ ?_<;>(intro h;first|exact sz h|refine sy h ?_))|exact sq|fail
  have hbm:b < M3.next:=hbv3.lt
  refine zc (n - (i+1)) (by omega) ⟨i+1,q,M3.next,acc ++ [u8 c],v',rfl,by omega,rfl,.cons rfl (.cons rfl (.cons rfl (.cons rfl (.cons rfl .nil)))),?_,by simp[hacc],hv4,.inr (by omega),hk5.trans k4 (fun j hj=>?_),k4.at ha3 (fun h=>by omega)⟩
  ·rw[hw,show n - (i+1)=k by omega]
  ·rcases hbb with h|h
   ·exact .inl (.inr (by omega))
   ·exact .inr (by omega)
 subst hlast
 have hw1:nmR s i p2 []=some (acc,p):=by rw[hw,Nat.sub_self];rfl
 have hk2:Keep (fun i=>i=a) M N:=hk4.trans hk (fun i hi=>hi.imp id fun h=>by omega)
 have hr5:=hk.at hr4 (fun h=>by omega)
 have hba:b ≠ a:=by omega
 have hlN:=hk.le
 clear hk hw hk4 hr4 hb1 haN2
 repeat' first|with_reducible intro _|refine svb ?_|(refine sc ?_ ?_<;>(intro h;try exact sz h))|(refine sgb ?_ ?_<;>(intro h;first|exact sz h|refine sy h ?_))|exact sq|fail
 refine x_rd gd rfl rfl (zap haN (by omega)) ?_ ?_
 ·intro g1 M2 g2 g3 q2 g4
  refine⟨?_,rfl,hk2.trans g2 (fun i hi=>.inl hi),q2,g4⟩
  unfold RlD;rw[hw0];simp only;rw[r1];simp only;rw[hw1];simp only;rw[g1]
 intro m p4 r2 N3 g2 g3 haN3
 have hm256:=z1y r2
 have hp4:=z3s r2
 have hb2:=hbv.keep g2 (fun h=>by omega)
 have hr6:=g2.at hr5 (fun h=>by omega)
 have hk3:Keep (fun i=>i=a) M N3:=hk2.trans g2 (fun i hi=>.inl hi)
 clear hbv hr5 hk2 haN g2
 repeat' first|with_reducible intro _|refine svb ?_|(refine sc ?_ ?_<;>(intro h;try exact sz h))|(refine sgb ?_ ?_<;>(intro h;first|exact sz h|refine sy h ?_))|exact sq|fail
 refine x_rd gd rfl rfl (zmc (f:=0) (p:=p4) haN3 (by omega) (Nat.zero_le _) hp4.2) ?_ ?_
 ·intro g1 M2 g2 g3 q2 g4
  refine⟨?_,rfl,hk3.trans g2 (fun i hi=>.inl hi),q2,g4⟩
  unfold RlD;rw[hw0];simp only;rw[r1];simp only;rw[hw1];simp only;rw[r2];simp only;rw[g1]
 intro u p5 r3 N4 g2 g3 haN4
 have hb3:=hb2.keep g2 (fun h=>by omega)
 have hr7:=g2.at hr6 (fun h=>by omega)
 have hk4:Keep (fun i=>i=a) M N4:=hk3.trans g2 (fun i hi=>.inl hi)
 clear hb2 hr6 hk3 haN3 g2
 repeat' first|with_reducible intro _|refine svb ?_|(refine sc ?_ ?_<;>(intro h;try exact sz h))|(refine sgb ?_ ?_<;>(intro h;first|exact sz h|refine sy h ?_))|exact sq|fail
 refine z1u (by exact gd) (hb3.bstr rfl) ?_
 repeat' first|with_reducible intro _|refine svb ?_|(refine sc ?_ ?_<;>(intro h;try exact sz h))|(refine sgb ?_ ?_<;>(intro h;first|exact sz h|refine sy h ?_))|exact sq|fail
 rename_i oc N5 B1 B2 B3 N6 B4 B5 B6
 have ha6:At N6 a (rdr s p5):=xm
 have hr8:At N6 res (.cells true [.str ⟨#[]⟩,.slice none 0 true 0] 24):=xm
 have hk6:Keep (fun i=>i=a) M N6:=xk
 have haoc:a < oc:=by have:=haN4.2;omega
 have hroc:res < oc:=by have:=hr7.2;omega
 have hoc6:oc < N6.next:=B6.2
 have har:a < res:=by omega
 have hp5:p5<=s.size:=by
  unfold chkB at r3
  split at r3
  ·cases r3
  ·rename_i c q h7
   have:=z4i h7
   split at r3
   ·cases r3;exact this.2.1
   ·cases r3
 clear B1 B4 hb3 haN4 hr7 hk4
 refine z8 (fun z E ms M'=>∃(j p:Nat) (L:List Fr) (xs:List FW) (v:LV),z=m - j /\ j<=m /\ ms=[] /\ Has E [(0,.ptr (some (a,0))),(2,.ptr (some (res,0))),(6,.ptr (some (oc,0))),(37,I m),(38,I j)] /\ frsB s m p5 []=frsB s (m - j) p L /\ L.length=j /\ FrOk L /\
   At M' oc (.cells true [.str (strL acc),v] 24) /\ At M' res (.cells true [.str ⟨#[]⟩,.slice none 0 true 0] 24) /\ Vec N6.next 3 48 fwc M' v xs /\ FwLN (fun i=>i < M.next ∨ i=oc ∨ i=res ∨ ∃ o n f e,v=.slice (some (i,o)) n f e) M' xs L /\ Keep (fun i=>i=a) M M' /\ N6.next<=M'.next /\ p<=s.size /\ At M' a (rdr s p))
  ?_ m _ _ _ ⟨0,p5,[],[],_,by omega,by omega,rfl,.cons rfl (.cons rfl (.cons rfl (.cons rfl (.cons rfl .nil)))),rfl,rfl,(fun _ h=>nomatch h),B6,hr8,Vec.nil,.nil,hk6,Nat.le_refl _,hp5,ha6⟩
 rintro z E ms N ⟨j,p6,L,xs,v,rfl,hj,rfl,hE,hw,hL,hLo,ho1,hr9,hv1,hx1,hk7,hN6,hp6,ha7⟩
 refine zu hE ?_
 by_cases hlast:j=m
 case neg =>
  obtain⟨k,hkn⟩:∃ k,m - j=k+1:=⟨m - j - 1,by omega⟩
  rw[hkn,show frsB s (k+1) p6 L=(match FrD s p6 with
   | none=>none
   | some (x,q)=>frsB s k q (L ++ [x])) from rfl] at hw
  repeat' first|with_reducible intro _|refine svb ?_|(refine sc ?_ ?_<;>(intro h;try exact sz h))|(refine sgb ?_ ?_<;>(intro h;first|exact sz h|refine sy h ?_))|exact sq|fail
  refine z7m gd rfl rfl (zeo ha7 (by omega) hp6) ?_ ?_
  ·rintro v' M' ⟨e1,rfl,e3,q,e4⟩
   have hg:Grow N ⟨M'.next,N.tr⟩:=⟨e3.le,fun _ _=>rfl⟩
   repeat' first|with_reducible intro _|refine svb ?_|(refine sc ?_ ?_<;>(intro h;try exact sz h))|(refine sgb ?_ ?_<;>(intro h;first|exact sz h|refine sy h ?_))|exact sq|fail
   refine⟨?_,rfl,Keep.wide (hk7.trans e3 (fun i hi=>.inl hi)) (Nat.le_refl _),q,At.wide e4 (Nat.le_refl _)⟩
   unfold RlD;rw[hw0];simp only;rw[r1];simp only;rw[hw1];simp only;rw[r2];simp only;rw[r3];simp only;rw[hw,e1]
  ·rintro w M' ⟨x,q,e1,⟨sl,rfl,hsv⟩,e3,e4⟩
   have hxo:=z9d hp6 e1
   have hxl:xs.length=L.length:=hx1.l.len
   have hNlt:∀ i,(i < M.next ∨ i=oc ∨ i=res ∨ ∃ o n f e,v=.slice (some (i,o)) n f e)->i < N.next:=fun i hi=>by
    rcases hi with h|h|h|⟨o,n,f,e,h⟩
    ·have:=hk7.le;omega
    ·omega
    ·omega
    ·exact Vec.blt hv1 h
   obtain⟨aa,ff,ee,rfl,hfn⟩:=FwN.vec (N:=fun i=>i < M.next ∨ i=oc ∨ i=res ∨ ∃ o n f e,v=.slice (some (i,o)) n f e) hsv hNlt
   rw[e1] at hw
   simp only at hw
   have hx2:=(hx1.keep e3 (fun i hi=>.inl (by omega))).snoc hfn
   have ho2:=e3.at ho1 (fun h=>by omega)
   have hr10:=e3.at hr9 (fun h=>by omega)
   have hv2:Vec N6.next 3 48 fwc M' v xs:=hv1.keep e3 (fun i hi=>by subst hi;omega)
   have hk8:=hk7.trans e3 (fun i hi=>.inl hi)
   have hl8:=e3.le
   obtain⟨va,vf,ve,rfl⟩:=hv2.shape
   refine zp8 ?_
   have hrdo:Rd1 M' oc 1 (.slice va xs.length vf ve):=Rd1.of_at ho2 rfl
   have hrdo0:Rd1 N oc 1 (.slice va xs.length vf ve):=Rd1.of_at ho1 rfl
   clear hx1 hv1 hk7 e3 hfn hsv hr9
   repeat' first|with_reducible intro _|refine sv ?_|refine sc ?_ ?_<;>(intro h;try exact sz h)|refine sg ?_ ?_<;>(intro h;first|exact sz h|refine sy h ?_)|exact sq|fail
   rename_i n7 M7 C1 C2 C3
   have hv7:=hv2.grow C1.grow
   have hx7:=hx2.keep (C1.grow.to_keep (fun _=>False)) (fun _ h=>h.elim)
   have ho7:=ho2.grow C1.grow
   have hr11:=hr10.grow C1.grow
   have ha8:=At.grow C1.grow e4
   have hk9:=hk8.new C1
   have hfw:=z7i (x:=(fky x,aa,x.2.2.length,ff,ee)) C1
   have hro7:Rd1 M7 oc 1 (.slice va xs.length vf ve):=Rd1.of_at ho7 rfl
   clear C1 hv2 hx2 hr10 hk8 e4
   refine zg6 (by exact gd) (l':=[((fky x,aa,x.2.2.length,ff,ee):FW)]) hv7 rfl rfl rfl (by simp) (by rw[hxl,hL];simp;omega) rfl hfw (fun _=>rfl) (fun _=>rfl) (by omega) ?_
   rintro v8 M8 hv8 e8 k8 ⟨n8,f8,q8,rfl⟩
   have ho8:=k8.at ho7 (fun hi=>by have:=hi.1;omega)
   have ha9:=k8.at ha8 (fun hi=>by have:=hi.1;omega)
   have hr12:=k8.at hr11 (fun hi=>by have:=hi.1;omega)
   repeat' first|with_reducible intro _|refine sv ?_|refine sc ?_ ?_<;>(intro h;try exact sz h)|refine sg ?_ ?_<;>(intro h;first|exact sz h|refine sy h ?_)|exact sq|fail
   rename_i M9 D1 D2 D3
   have hu9:Keep (fun i=>i=oc) M8 M9:=(Keep.refl (fun i=>i=oc) M8).upd D1 (.inl rfl)
   refine zc (m - (j+1)) (by omega) ⟨j+1,q,L ++ [x],xs ++ [((fky x,aa,x.2.2.length,ff,ee):FW)],_,rfl,by omega,rfl,.cons rfl (.cons rfl (.cons rfl (.cons rfl (.cons rfl .nil)))),?_,by simp[hL],?_,D3,hu9.at hr12 (fun h=>by omega),hv8.keep hu9 (fun i hi=>by subst hi;exact hoc6),?_,(hk9.trans k8 (fun i hi=>.inr (by have:=hi.1;have:=hk6.le;omega))).trans hu9 (fun i hi=>.inr (by have:=hk6.le;omega)),by omega,hxo.2.2,hu9.at ha9 (fun h=>by omega)⟩
   ·rw[hw,show m - (j+1)=k by omega]
   ·intro y hy
    rcases List.mem_append.1 hy with hy|hy
    ·exact hLo y hy
    ·rw[List.mem_singleton.1 hy];exact hxo.1
   ·refine(((hx7.ge (N':=fun i=>(i < M.next ∨ i=oc ∨ i=res ∨ ∃ o n f e,LV.slice va xs.length vf ve=.slice (some (i,o)) n f e) ∨ i=M7.next) (fun i hi=>hi.imp id fun h=>by omega)).keep k8 (fun i hi=>.inl (.inr (.inr (.inr hi.2))))).keep hu9 (fun i hi=>.inl (.inr (.inl hi)))).ge (fun i hi=>.inl ?_)
    rcases hi with h|h|h|⟨o,n,f,e,h⟩
    ·exact .inl (.inl h)
    ·exact .inl (.inr (.inl h))
    ·exact .inl (.inr (.inr (.inl h)))
    ·cases h;exact .inr rfl
 subst hlast
 have hw2:frsB s j p5 []=some (L,p6):=by rw[hw,Nat.sub_self];rfl
 obtain⟨va,vf,ve,rfl,hfs⟩:=z89 hv1 hx1.l
 have hrl:RlV N (.agg [.str (strL acc),.slice va L.length vf ve]) (strL acc,L):=⟨va,vf,ve,rfl,hfs⟩
 have hrin:RlIn (strL acc,L):=⟨by show acc.length<=_;omega,by show L.length<=_;omega,fun x hx=>zml (hLo x hx)⟩
 have hF:RlD s=if p6=s.size /\ z0v (strL acc,L)=0 then some ((strL acc,L),p6) else none:=by
  unfold RlD;rw[hw0];simp only;rw[r1];simp only;rw[hw1];simp only;rw[r2];simp only;rw[r3];simp only;rw[hw2]
 have hck:=fun M' (hg:Grow N M')=>zdh (hrl.grow hg) hrin
 repeat' first|with_reducible intro _|refine svb ?_|(refine sc ?_ ?_<;>(intro h;try exact sz h))|((with_reducible first|apply zp|apply zmb);exact gd;exact rfl;exact rfl;(first|exact hck _ (xg)))|((with_reducible first|apply x_mu|apply b_mu);exact gd;exact rfl;exact rfl;(first|exact z6z _ _);infer_instance)|(refine sgb ?_ ?_<;>(intro h;first|exact sz h|refine sy h ?_))|exact sq|fail
 ·rename_i M8 g1 g2 hh
  refine⟨?_,rfl,Keep.wide (hk7.grow g1) (Nat.le_refl _),p6,At.wide (ha7.grow g1) (Nat.le_refl _)⟩
  rw[hF,if_neg fun h=>hh h.2]
 ·rename_i M8 g1 g2 hh M9 D1 D2 D3
  have hu9:Keep (fun i=>i=res) M8 M9:=(Keep.refl (fun i=>i=res) M8).upd D1 (.inl rfl)
  have hx9:=(hx1.keep (g1.to_keep (fun _=>False)) (fun _ h=>h.elim)).keep hu9 (fun i hi=>.inr (.inr (.inl hi)))
  have hv9:Vec N6.next 3 48 fwc M9 (.slice va L.length vf ve) xs:=(hv1.grow g1).keep hu9 (fun i hi=>by subst hi;omega)
  have ha9:At M9 a (rdr s p6):=hu9.at (ha7.grow g1) (fun h=>by omega)
  have hk9:Keep (fun i=>i=a) M M9:=(hk7.grow g1).trans hu9 (fun i hi=>.inr (by omega))
  refine kf ?_
  exact⟨(strL acc,L),p6,by rw[hF,if_pos ⟨by omega,hh⟩],⟨_,xs,rfl,Vec.low hv9 (by have:=hk6.le;omega),hx9.ge (fun i hi=>.inl (.inl hi))⟩,hk9,ha9⟩
 ·refine⟨?_,rfl,Keep.wide hk7 (Nat.le_refl _),p6,At.wide ha7 (Nat.le_refl _)⟩
  rw[hF,if_neg fun h=>by omega]
 ·exfalso;assumption
def NV(v:LV)(i:Nat):Prop:=∃ o n f e,v=.slice (some (i,o)) n f e
theorem Vec.keepN{α:Type}{b sz:Nat}{ty:TypeId}{enc:α->List LV}{M M':Mem}{v:LV}{l:List α}{F:Nat->Prop}(h:Vec b sz ty enc M v l)(hk:Keep F M M')(hF:∀ i,F i->¬ NV v i):Vec b sz ty enc M' v l :=
 h.imp id fun⟨i,h1,h2,h3⟩=>⟨i,h1,hk.at h2 (fun hf=>hF i hf ⟨_,_,_,_,h1⟩),h3⟩
theorem NV.lt{α:Type}{b sz:Nat}{ty:TypeId}{enc:α->List LV}{M:Mem}{v:LV}{l:List α}(h:Vec b sz ty enc M v l){i:Nat}(hi:NV v i):i < M.next:=by
 obtain⟨o,n,f,e,h1⟩:=hi
 exact Vec.blt h h1
theorem NV.nil{n:Nat}{f:Bool}{e i:Nat}:¬ NV (.slice none n f e) i:=fun⟨o,n,f,e,h⟩=>by cases h
theorem NV.some{j o n:Nat}{f:Bool}{e i:Nat}(h:NV (.slice (some (j,o)) n f e) i):i=j:=by
 obtain⟨_,_,_,_,h⟩:=h
 cases h;rfl
def whRB(s:ByteArray):Nat->Nat->List Fr->List Bd->List Fr × List Bd
 | 0,_,F,L=>(F,L)
 | k+1,p,F,L=>if p < s.size then(match fdR s p with
  | some (x,q)=>whRB s k q (F ++ [x]) L
  | none=>whRB s k (p+1) F (lostA L p)) else(F,L)
def whRA(s:ByteArray):List Fr × List Bd:=whRB s s.size 0 [] []
theorem zht{s:ByteArray}{p:Nat}{x:Fr}{q:Nat}(h:fdR s p=some (x,q)):frB x=true /\ p < q /\ q<=s.size:=by
 unfold fdR at h
 split at h
 ·split at h
  ·cases h
  ·rename_i l hl
   simp only at h
   split at h
   ·rename_i hc
    cases h
    refine⟨hc.1,?_,hc.2.1⟩
    have:0 <(pkL ((((256*byteAt s (p+2)+byteAt s (p+3):Nat)):Int),((byteAt s (p+4):Nat):Int),l)).length:=by
     unfold pkL chkL bodyL hdL
     simp only[List.length_append,List.length_cons]
     omega
    omega
   ·cases h
 ·cases h
def WhQ(r:List Fr × List Bd)(M:Mem)(w:LV)(M':Mem):Prop:=∃ v1 v2 xs,w=.tup [v1,v2] /\ Vec M.next 3 48 fwc M' v1 xs /\ FwLN (fun i=>i < M.next) M' xs r.1 /\ Vec M.next 2 65 bdc M' v2 r.2 /\ Grow M M'
set_option maxHeartbeats 16000000 in
theorem zkf{s:ByteArray}{M:Mem}(hs:s.size<=1000000) :
  z9 Tryz.prog 78 [.str s] M (WhQ (whRA s) M):=by
 refine zb k78 rfl ?_
 dsimp only[x78,zM,zO,zI,zF,zS,zB,zL,zA,zE,zN,zW,zC,zipE,Nat.reduceAdd]
 repeat' first|with_reducible intro _|refine sv ?_|refine sc ?_ ?_<;>(intro h;try exact sz h)|refine sg ?_ ?_<;>(intro h;first|exact sz h|refine sy h ?_)|exact sq|fail
 refine z8 (fun z E ms M'=>∃(p k:Nat) (F:List Fr) (L:List Bd) (xs:List FW) (v1 v2:LV),z=s.size - p /\ p<=s.size /\ s.size - p<=k /\ ms=[] /\ Has E [(0,.str s),(4,v1),(5,v2),(6,I p)] /\
   Vec M.next 3 48 fwc M' v1 xs /\ FwLN (fun i=>NV v1 i ∨(NV v2 i ∨ i < M.next)) M' xs F /\ Vec M.next 2 65 bdc M' v2 L /\ (∀ i,NV v1 i->¬ NV v2 i) /\ F.length<=p /\ L.length<=p /\ (∀ y ∈ L,-1000000<=y.2 /\ y.2<=1000000) /\ Grow M M' /\ whRA s=whRB s k p F L)
  ?_ s.size _ _ _ ⟨0,s.size,[],[],[],_,_,rfl,Nat.zero_le _,by omega,rfl,.cons rfl (.cons rfl (.cons rfl (.cons rfl .nil))),Vec.nil,.nil,Vec.nil,(fun i h=>absurd h NV.nil),Nat.le_refl _,Nat.le_refl _,(fun _ h=>nomatch h),Grow.refl _,rfl⟩
 rintro z E ms N ⟨p,k,F,L,xs,v1,v2,rfl,hp,hk,rfl,hE,hv1,hx1,hv2,hd,hF1,hL1,hLb,hg,hw⟩
 refine zu hE ?_
 have hgl:=hg.le
 by_cases hlast:p=s.size
 ·subst hlast
  have hw2:whRA s=(F,L):=by
   rw[hw]
   cases k with
   | zero=>rfl
   | succ k=>unfold whRB;rw[if_neg (by omega)]
  repeat' first|with_reducible intro _|refine sv ?_|refine sc ?_ ?_<;>(intro h;try exact sz h)|refine sg ?_ ?_<;>(intro h;first|exact sz h|refine sy h ?_)|exact sq|fail
  refine kf ?_
  rw[hw2]
  exact⟨v1,v2,xs,rfl,hv1,hx1.ge (fun i hi=>.inl (.inr (.inr hi))),hv2,hg⟩
 have hlt:p < s.size:=by omega
 obtain⟨k,rfl⟩:∃ j,k=j+1:=⟨k - 1,by omega⟩
 rw[show whRB s (k+1) p F L=(if p < s.size then(match fdR s p with
  | some (x,q)=>whRB s k q (F ++ [x]) L
  | none=>whRB s k (p+1) F (lostA L p)) else(F,L)) from rfl,if_pos hlt] at hw
 have hxl:xs.length=F.length:=hx1.l.len
 repeat' first|with_reducible intro _|refine sv ?_|refine sc ?_ ?_<;>(intro h;try exact sz h)|refine sg ?_ ?_<;>(intro h;first|exact sz h|refine sy h ?_)|exact sq|fail
 refine zt gd rfl rfl (zhc hs hlt) ?_
 rintro w N1 ⟨hr,hg1⟩
 have hg1l:=hg1.le
 have hv1':=hv1.grow hg1
 have hv2':=hv2.grow hg1
 have hx1':=hx1.keep (hg1.to_keep (fun _=>False)) (fun _ h=>h.elim)
 have hgg:=hg.trans hg1
 cases hfd:fdR s p with
 | some xq =>
  obtain⟨x,q⟩:=xq
  rw[hfd] at hr hw
  obtain⟨sv,rfl,hsv⟩:=hr
  simp only at hw
  have hxo:=zht hfd
  obtain⟨aa,ff,ee,rfl,hfn⟩:=FwN.vec (N:=fun i=>NV v1 i ∨(NV v2 i ∨ i < M.next)) hsv (fun i hi=>hi.elim (fun h=>NV.lt hv1 h) (fun h=>h.elim (fun h=>NV.lt hv2 h) (fun h=>by omega)))
  clear hv1 hv2 hx1 hE
  repeat' first|with_reducible intro _|refine sv ?_|refine sc ?_ ?_<;>(intro h;try exact sz h)|refine sg ?_ ?_<;>(intro h;first|exact sz h|refine sy h ?_)|exact sq|fail
  rename_i fc N2 A1 A2 A3 N3 A4 A5 A6 n4 N4 A7 A8 A9
  have hg4:Grow N1 N4:=xg
  have hv14:=hv1'.grow hg4
  have hv24:=hv2'.grow hg4
  have hx4:=(hx1'.snoc hfn).keep (hg4.to_keep (fun _=>False)) (fun _ h=>h.elim)
  have hfw:=z7i (x:=(fky x,aa,x.2.2.length,ff,ee)) A7
  have hgM:=hgg.trans hg4
  have hgMl:=hgM.le
  clear A1 A4 A7
  refine z2l (by exact gd) (l':=[((fky x,aa,x.2.2.length,ff,ee):FW)]) hv14 rfl rfl rfl (by simp) (by rw[hxl];simp;omega) rfl hfw (fun _=>rfl) (fun _=>rfl) hgMl ?_
  rintro v8 M8 hv8 e8 k8 ⟨n8,f8,q8,rfl⟩
  have hv28:=Vec.keepN hv24 k8 (fun i hi=>hd i hi.2)
  repeat' first|with_reducible intro _|refine sv ?_|refine sc ?_ ?_<;>(intro h;try exact sz h)|refine sg ?_ ?_<;>(intro h;first|exact sz h|refine sy h ?_)|exact sq|fail
  refine zc (s.size - q) (by omega) ⟨q,k,F ++ [x],L,xs ++ [((fky x,aa,x.2.2.length,ff,ee):FW)],_,v2,rfl,hxo.2.2,by omega,rfl,.cons rfl (.cons rfl (.cons rfl (.cons rfl .nil))),hv8,?_,hv28,?_,by simp;omega,by omega,hLb,Keep.to_grow' hgM k8 (fun i hi=>hi.1),hw⟩
  ·refine(((hx4.ge (N':=fun i=>(NV v1 i ∨(NV v2 i ∨ i < M.next)) ∨ i=N4.next) (fun i hi=>hi.imp id fun h=>by omega)).keep k8 (fun i hi=>.inl (.inl hi.2)))).ge (fun i hi=>.inl ?_)
   rcases hi with h|h
   ·exact .inr (NV.some h)
   ·exact .inl (.inr h)
  ·intro i hi h2
   have:=NV.some hi
   have:=NV.lt hv24 h2
   omega
 | none =>
  rw[hfd] at hr hw
  have hr:w=.tup [zFrv,I 0,.bool false]:=hr
  subst hr
  simp only at hw
  clear hv1 hv2 hx1 hE
  have hk1:s.size - (p+1)<=k:=by omega
  rcases List.eq_nil_or_concat L with rfl|⟨D,y,rfl⟩
  ·obtain⟨va,vf,ve,rfl⟩:=hv2'.shape
   repeat' first|with_reducible intro _|refine sv ?_|refine sc ?_ ?_<;>(intro h;try exact sz h)|refine sg ?_ ?_<;>(intro h;first|exact sz h|refine sy h ?_)|exact sq|fail
   all_goals first|(exfalso;omega)|skip
   rename_i fc N2 A1 A2 A3 N3 A4 A5 A6 n4 N4 A7 A8 A9
   have hg4:Grow N1 N4:=xg
   have hv14:=hv1'.grow hg4
   have hv24:=hv2'.grow hg4
   have hx4:=hx1'.keep (hg4.to_keep (fun _=>False)) (fun _ h=>h.elim)
   have hbf:=z7f (x:=((p:Int),(p:Int))) A7
   have hgM:=hgg.trans hg4
   have hgMl:=hgM.le
   clear A1 A4 A7
   refine z2l (by exact gd) (l':=[((p:Int),(p:Int))]) hv24 rfl rfl rfl (by simp) (by simp) rfl hbf (fun _=>rfl) (fun _=>rfl) hgMl ?_
   rintro v8 M8 hv8 e8 k8 ⟨n8,f8,q8,rfl⟩
   have hv18:=Vec.keepN hv14 k8 (fun i hi h=>hd i h hi.2)
   repeat' first|with_reducible intro _|refine sv ?_|refine sc ?_ ?_<;>(intro h;try exact sz h)|refine sg ?_ ?_<;>(intro h;first|exact sz h|refine sy h ?_)|exact sq|fail
   refine zc (s.size - (p+1)) (by omega) ⟨p+1,k,F,lostA [] p,xs,v1,_,rfl,by omega,hk1,rfl,.cons rfl (.cons rfl (.cons rfl (.cons rfl .nil))),hv18,?_,hv8,?_,by omega,?_,?_,Keep.to_grow' hgM k8 (fun i hi=>hi.1),hw⟩
   ·refine(((hx4.ge (N':=fun i=>(NV v1 i ∨(NV (.slice va ([]:List Bd).length vf ve) i ∨ i < M.next)) ∨ i=N4.next) (fun i hi=>hi.imp id fun h=>by omega)).keep k8 (fun i hi=>.inl (.inr (.inl hi.2))))).ge (fun i hi=>.inl ?_)
    rcases hi with h|h|h
    ·exact .inl (.inl h)
    ·exact .inr (NV.some h)
    ·exact .inl (.inr (.inr h))
   ·intro i hi h2
    have:=NV.some h2
    have:=NV.lt hv14 hi
    omega
   ·show 1<=p+1;omega
   ·intro y hy
    obtain rfl:y=((p:Int),(p:Int)):=by simpa [lostA] using hy
    show -1000000<=(p:Int) /\ (p:Int)<=1000000
    omega
  ·rw[List.concat_eq_append] at *
   rcases hv2' with⟨h0,_⟩|⟨i,hveq,hvi,hib⟩
   ·simp at h0
   subst hveq
   have hlen:(D ++ [y]).length=D.length+1:=by simp
   have hyb:=hLb y (by simp)
   have hnn:Int.toNat (((D ++ [y]).length:Int) - 1)=D.length:=by rw[hlen];omega
   have hset:z0m ((D ++ [y]).flatMap bdc) (0+Int.toNat (((D ++ [y]).length:Int) - 1)*2) [I y.1,I p]=some ((D ++ [(y.1,(p:Int))]).flatMap bdc):=by
    rw[hnn,List.flatMap_append,List.flatMap_append]
    have:=z3w (D.flatMap bdc) [I y.1,I y.2] [I y.1,I p] 0 [I y.1,I p] rfl (by simp)
    have hl2:(D.flatMap bdc).length=D.length*2:=z13 (enc:=bdc) (fun _ _=>rfl)
    rw[hl2] at this
    rw[Nat.zero_add];exact this
   have hla:lostA (D ++ [y]) p=if y.2=(p:Int) - 1 then D ++ [(y.1,(p:Int))] else(D ++ [y]) ++ [((p:Int),(p:Int))]:=by
    unfold lostA
    rw[List.getLast?_concat]
    simp only[List.dropLast_concat]
   repeat' first|with_reducible intro _|refine sv ?_|refine sc ?_ ?_<;>(intro h;try exact sz h)|refine sg ?_ ?_<;>(intro h;first|exact sz h|refine sy h ?_)|exact sq|fail
   all_goals first|(exfalso;omega)|skip
   rename_i n0 N2 A1 A2 A3 N3 A4 A5 A6 hh
   have hg3:Grow N1 N3:=xg
   have hi1:i < N1.next:=hvi.2
   have hvi3:=hvi.grow hg3
   have hrdN:=z23 (enc:=bdc) (sz:=2) hvi3 (fun _ _=>rfl) (k:=D.length) (by omega)
   have hyD:(D ++ [y])[D.length]'(by omega)=y:=by simp
   rw[hyD] at hrdN
   have hrd:Rd1 N3 i (0+Int.toNat (((D ++ [y]).length:Int) - 1)*2+1) (I y.2):=by
    rw[hnn]
    exact Rd.nth (j:=1) hrdN rfl
   have hrd0:Rd1 N3 i (0+Int.toNat (((D ++ [y]).length:Int) - 1)*2+0) (I y.1):=by
    rw[hnn]
    exact Rd.nth (j:=0) hrdN rfl
   have hv13:=hv1'.grow hg3
   have hv23:Vec M.next 2 65 bdc N3 (.slice (some (i,0)) (D ++ [y]).length false 2) (D ++ [y]):=.inr ⟨i,rfl,hvi3,hib⟩
   have hx3:=hx1'.keep (hg3.to_keep (fun _=>False)) (fun _ h=>h.elim)
   have hgM:=hgg.trans hg3
   have hgMl:=hgM.le
   clear A1 A4
   refine x_l1 (by exact gd) rfl hrd ?_
   repeat' first|with_reducible intro _|refine sv ?_|refine sc ?_ ?_<;>(intro h;try exact sz h)|refine sg ?_ ?_<;>(intro h;first|exact sz h|refine sy h ?_)|exact sq|fail
   ·refine x_st (by exact gd) rfl rfl hvi3 rfl rfl hset ?_
    intro N7 D1 D2 D3
    have hu7:Keep (fun j=>j=i) N3 N7:=(Keep.refl (fun j=>j=i) N3).upd D1 (.inl rfl)
    have hNi:NV (.slice (some (i,0)) (D ++ [y]).length false 2) i:=⟨_,_,_,_,rfl⟩
    repeat' first|with_reducible intro _|refine sv ?_|refine sc ?_ ?_<;>(intro h;try exact sz h)|refine sg ?_ ?_<;>(intro h;first|exact sz h|refine sy h ?_)|exact sq|fail
    refine zc (s.size - (p+1)) (by omega) ⟨p+1,k,F,D ++ [(y.1,(p:Int))],xs,v1,_,rfl,by omega,hk1,rfl,.cons rfl (.cons rfl (.cons rfl (.cons rfl .nil))),Vec.keepN hv13 hu7 (fun j hj h=>by subst hj;exact hd _ h hNi),hx3.keep hu7 (fun j hj=>.inr (.inl (by subst hj;exact hNi))),.inr ⟨i,by rw[hlen,show(D ++ [(y.1,(p:Int))]).length=D.length+1 by simp],D3,hib⟩,hd,by omega,?_,?_,hgM.upd D1 hib,?_⟩
    ·rw[show(D ++ [(y.1,(p:Int))]).length=D.length+1 by simp];omega
    ·intro z hz
     rcases List.mem_append.1 hz with hz|hz
     ·exact hLb z (by simp[hz])
     ·rw[List.mem_singleton.1 hz]
      show -1000000<=(p:Int) /\ (p:Int)<=1000000
      omega
    ·rw[hw,hla,if_pos ‹y.2=_›]
   ·rename_i n7 N7 C4 C5 C6
    have hv17:=hv13.grow C4.grow
    have hv27:=hv23.grow C4.grow
    have hx7:=hx3.keep (C4.grow.to_keep (fun _=>False)) (fun _ h=>h.elim)
    have hgM7:=hgM.trans C4.grow
    have hgM7l:=hgM7.le
    have hbf:=z7f (x:=((p:Int),(p:Int))) C4
    clear C4
    refine z2l (by exact gd) (l':=[((p:Int),(p:Int))]) hv27 rfl rfl rfl (by simp) (by rw[hlen];simp;omega) rfl hbf (fun _=>rfl) (fun _=>rfl) hgM7l ?_
    rintro v8 M8 hv8 e8 k8 ⟨n8,f8,q8,rfl⟩
    have hv18:=Vec.keepN hv17 k8 (fun i hi h=>hd i h hi.2)
    repeat' first|with_reducible intro _|refine sv ?_|refine sc ?_ ?_<;>(intro h;try exact sz h)|refine sg ?_ ?_<;>(intro h;first|exact sz h|refine sy h ?_)|exact sq|fail
    refine zc (s.size - (p+1)) (by omega) ⟨p+1,k,F,(D ++ [y]) ++ [((p:Int),(p:Int))],xs,v1,_,rfl,by omega,hk1,rfl,.cons rfl (.cons rfl (.cons rfl (.cons rfl .nil))),hv18,?_,hv8,?_,by omega,?_,?_,Keep.to_grow' hgM7 k8 (fun i hi=>hi.1),?_⟩
    ·refine(((hx7.ge (N':=fun j=>(NV v1 j ∨(NV (.slice (some (i,0)) (D ++ [y]).length false 2) j ∨ j < M.next)) ∨ j=N7.next) (fun i hi=>hi.imp id fun h=>by omega)).keep k8 (fun i hi=>.inl (.inr (.inl hi.2))))).ge (fun i hi=>.inl ?_)
     rcases hi with h|h|h
     ·exact .inl (.inl h)
     ·exact .inr (NV.some h)
     ·exact .inl (.inr (.inr h))
    ·intro j hj h2
     have:=NV.some h2
     have:=NV.lt hv17 hj
     omega
    ·rw[List.length_append,hlen];simp;omega
    ·intro z hz
     rcases List.mem_append.1 hz with hz|hz
     ·exact hLb z hz
     ·rw[List.mem_singleton.1 hz]
      show -1000000<=(p:Int) /\ (p:Int)<=1000000
      omega
    ·rw[hw,hla,if_neg ‹¬ y.2=_›]
end Go.Proofs.YtbfnnllgdioccaaGreatDoor.C
end
section
open Go PvL Go.Proofs
set_option linter.unusedSimpArgs false
set_option linter.unusedVariables false
namespace Go.Proofs.YtbfnnllgdioccaaGreatDoor.C
def Mt(s:ByteArray):Nat->List UInt8->Prop
 | _,[]=>True
 | p,b :: l=>p < s.size /\ byteAt s p=b.toNat /\ Mt s (p+1) l
theorem Mt.app{s:ByteArray}:∀ {p:Nat} {a b:List UInt8},Mt s p (a ++ b) ↔ Mt s p a /\ Mt s (p+a.length) b
 | p,[],b=>by simp[Mt]
 | p,x :: a,b=>by
  show(p < s.size /\ byteAt s p=x.toNat /\ Mt s (p+1) (a ++ b)) ↔(p < s.size /\ byteAt s p=x.toNat /\ Mt s (p+1) a) /\ Mt s (p+(a.length+1)) b
  rw[Mt.app (p:=p+1),show p+(a.length+1)=p+1+a.length by omega]
  constructor
  ·rintro⟨h1,h2,h3,h4⟩;exact⟨⟨h1,h2,h3⟩,h4⟩
  ·rintro⟨⟨h1,h2,h3⟩,h4⟩;exact⟨h1,h2,h3,h4⟩
theorem Mt.le{s:ByteArray}:∀ {p:Nat} {l:List UInt8},p<=s.size->Mt s p l->p+l.length<=s.size
 | p,[],hp,_=>hp
 | p,x :: l,hp,h=>by
  have:=Mt.le (l:=l) (show p+1<=s.size from h.1) h.2.2
  rw[List.length_cons];omega
theorem zgu{s:ByteArray}{p:Nat}(h:p < s.size):s.data.toList[p]'h=u8 (byteAt s p):=by
 unfold byteAt u8
 have:s.data.toList.getD p 0=s.data.toList[p]'h:=by rw[List.getD_eq_getElem?_getD,List.getElem?_eq_getElem h];rfl
 rw[this]
 simp
theorem zcd(s:ByteArray)(p q:Nat):(s.extract p q).data.toList=(s.data.toList.drop p).take (q - p):=by
 rw[ByteArray.data_extract,Array.toList_extract]
theorem Mt.drop{s:ByteArray}:∀ {p:Nat} {l:List UInt8},p<=s.size->(Mt s p l ↔(s.data.toList.drop p).take l.length=l)
 | p,[],hp=>by simp[Mt]
 | p,x :: l,hp=>by
  by_cases hlt:p < s.size
  ·have hd:s.data.toList.drop p=u8 (byteAt s p) :: s.data.toList.drop (p+1):=by
    rw[<-zgu hlt];exact List.drop_eq_getElem_cons hlt
   rw[hd,List.length_cons,List.take_succ_cons]
   have ih:=Mt.drop (s:=s) (p:=p+1) (l:=l) hlt
   constructor
   ·rintro⟨_,h2,h3⟩
    rw[ih.1 h3,h2]
    unfold u8;simp
   ·intro h
    injection h with h1 h2
    exact⟨hlt,by rw[<-h1,u8_n (z0h s p)],ih.2 h2⟩
  ·obtain rfl:p=s.size:=by omega
   constructor
   ·intro h;exact absurd h.1 hlt
   ·intro h
    rw[List.drop_of_length_le (by show s.size<=s.size;omega)] at h
    cases h
theorem z68(s:ByteArray):strL s.data.toList=s:=by
 unfold strL
 apply ByteArray.ext
 simp
theorem Mt.ext{s:ByteArray}{p:Nat}{l:List UInt8}(hp:p<=s.size):Mt s p l ↔ p+l.length<=s.size /\ s.extract p (p+l.length)=strL l:=by
 constructor
 ·intro h
  refine⟨h.le hp,?_⟩
  have h1:=(Mt.drop hp).1 h
  rw[<-z68 (s.extract p (p+l.length)),zcd,show p+l.length - p=l.length by omega,h1]
 ·rintro⟨h1,h2⟩
  refine(Mt.drop hp).2 ?_
  have this:(s.extract p (p+l.length)).data.toList=(strL l).data.toList:=by rw[h2]
  rw[zcd,show p+l.length - p=l.length by omega] at this
  rw[this];rfl
theorem z5z{s:ByteArray}{p b q:Nat}(h:oneB s p=some (b,q)):Mt s p [u8 b] /\ q=p+1:=by
 obtain⟨h1,h2,h3⟩:=z8r h
 subst h2
 exact⟨⟨h1,by rw[u8_n (z0h s p)],trivial⟩,h3⟩
theorem z53{s:ByteArray}{p:Nat}{b:UInt8}{l:List UInt8}(h:Mt s p (b :: l)):oneB s p=some (b.toNat,p+1):=by
 unfold oneB
 rw[if_pos h.1,h.2.1]
theorem zfk{s:ByteArray}{p n q:Nat}(h:twoB s p=some (n,q)):Mt s p (twoL n) /\ q=p+2 /\ n < 65536:=by
 have hle:=z4i h
 unfold twoB at h
 split at h
 ·cases h
 ·rename_i a p1 h1
  split at h
  ·cases h
  ·rename_i b p2 h2
   cases h
   obtain⟨g1,rfl⟩:=z5z h1
   obtain⟨g2,rfl⟩:=z5z h2
   have:=z1y h1
   have:=z1y h2
   refine⟨?_,rfl,hle.2.2⟩
   unfold twoL
   rw[show(256*a+b) / 256=a by omega,show(256*a+b) % 256=b by omega]
   exact⟨g1.1,g1.2.1,g2.1,g2.2.1,trivial⟩
theorem zfa{s:ByteArray}{p n:Nat}(hn:n < 65536)(h:Mt s p (twoL n)):twoB s p=some (n,p+2):=by
 unfold twoB
 have h1:=z53 (l:=[u8 (n % 256)]) h
 have h2:=z53 (l:=[]) h.2.2
 rw[h1];simp only;rw[h2];simp only
 rw[u8_n (by omega),u8_n (by omega)]
 congr 2;omega
theorem zq4{s:ByteArray}:∀(j p n u:Nat) {c q:Nat},codeS s j p n u=some (c,q)->1<=u->∃ m,c=n+m*u /\ q=p+(cdN m).length /\ Mt s p (cdN m) /\ (0 < m ∨ u=1) /\ m < 128 ^ j
 | 0,p,n,u,c,q,h,_=>by cases h
 | j+1,p,n,u,c,q,h,hu=>by
  unfold codeS at h
  split at h
  ·cases h
  ·rename_i b p' hb
   obtain⟨g1,rfl⟩:=z5z hb
   have hb256:=z1y hb
   split at h
   ·rename_i h128
    split at h
    ·rename_i hz
     cases h
     refine⟨b,by rw[Nat.mod_eq_of_lt h128],by rw[z9i h128];rfl,by rw[z9i h128];exact g1,hz,?_⟩
     have:128<=128 ^ (j+1):=by rw[Nat.pow_succ];exact Nat.le_mul_of_pos_left _ (Nat.pow_pos (by omega))
     omega
    ·cases h
   ·obtain⟨m,e1,e2,e3,e4,e5⟩:=zq4 j (p+1) _ _ h (by omega)
    have hm:0 < m:=by omega
    have hc:=zc3 (n:=b % 128+128*m) (by omega)
    rw[show(b % 128+128*m) % 128+128=b by omega,show(b % 128+128*m) / 128=m by omega] at hc
    refine⟨b % 128+128*m,?_,?_,?_,.inl (by omega),?_⟩
    ·rw[e1,Nat.add_mul,Nat.add_assoc];congr 2;rw[Nat.mul_comm 128 m,Nat.mul_assoc,Nat.mul_comm u 128]
    ·rw[hc,List.length_cons,e2];omega
    ·rw[hc];exact⟨g1.1,g1.2.1,e3⟩
    ·rw[Nat.pow_succ];omega
theorem zqh{s:ByteArray}:∀(j p n u m:Nat),Mt s p (cdN m)->m < 128 ^ j->(0 < m ∨ u=1 /\ 0 < j)->codeS s j p n u=some (n+m*u,p+(cdN m).length)
 | 0,p,n,u,m,h,hm,hz=>by
  have hm:m < 1:=hm
  omega
 | j+1,p,n,u,m,h,hm,hz=>by
  unfold codeS
  by_cases h128:128<=m
  ·rw[zc3 h128] at h ⊢
   rw[z53 h,u8_n (by omega)]
   simp only
   rw[if_neg (by omega),zqh j (p+1) _ _ (m / 128) h.2.2 (by rw[Nat.pow_succ] at hm;omega) (.inl (by omega)),List.length_cons]
   congr 2
   ·rw[show(m % 128+128) % 128=m % 128 by omega]
    have:m*u=(m % 128+128*(m / 128))*u:=by rw[Nat.mod_add_div]
    rw[this,Nat.add_mul,Nat.add_assoc];congr 2;rw[Nat.mul_comm 128 (m / 128),Nat.mul_assoc,Nat.mul_comm u 128]
   ·omega
  ·rw[z9i (by omega)] at h ⊢
   rw[z53 h,u8_n (by omega)]
   simp only
   rw[if_pos (by omega),if_pos (by omega),Nat.mod_eq_of_lt (by omega)];rfl
theorem zod{s:ByteArray}{p m:Nat}(h:Mt s p (cdN m))(hm:m < 2097152):codeB s p=some (m,p+(cdN m).length):=by
 have:=zqh 3 p 0 1 m h (by omega) (.inr ⟨rfl,by omega⟩)
 unfold codeB
 rw[this];congr 2;omega
theorem znz{s:ByteArray}{p c q:Nat}(h:codeB s p=some (c,q)):Mt s p (cdN c) /\ q=p+(cdN c).length:=by
 obtain⟨m,e1,e2,e3,_,_⟩:=zq4 3 p 0 1 h (by omega)
 obtain rfl:c=m:=by omega
 exact⟨e3,e2⟩
theorem zqi{s:ByteArray}:∀(j p n u m:Nat),Mt s p (cdN m)->m < 128 ^ j->0 < j->ldC s j p n u=some (n+u*m,p+(cdN m).length)
 | 0,p,n,u,m,h,hm,hz=>by omega
 | j+1,p,n,u,m,h,hm,hz=>by
  unfold ldC
  by_cases h128:128<=m
  ·rw[zc3 h128] at h ⊢
   have hb:byteAt s p=m % 128+128:=by rw[h.2.1,u8_n (by omega)]
   rw[if_pos h.1,hb,if_pos (by omega),zqi j (p+1) _ _ (m / 128) h.2.2 (by rw[Nat.pow_succ] at hm;omega) (by
    rcases Nat.eq_zero_or_pos j with rfl|h
    ·have:m < 128:=by simpa using hm
     omega
    ·exact h),List.length_cons]
   congr 2
   ·rw[show(m % 128+128) % 128=m % 128 by omega]
    have:u*m=u*(m % 128+128*(m / 128)):=by rw[Nat.mod_add_div]
    rw[this,Nat.mul_add,Nat.add_assoc,Nat.mul_assoc]
   ·omega
  ·rw[z9i (by omega)] at h ⊢
   have hb:byteAt s p=m:=by rw[h.2.1,u8_n (by omega)]
   rw[if_pos h.1,hb,if_neg (by omega),Nat.mod_eq_of_lt (by omega)];rfl
def csL:Int->List Int->List UInt8
 | _,[]=>[]
 | last,n :: l=>cdN (cdS n last).1.toNat ++ csL (cdS n last).2 l
theorem zet(l:List Int):∀(r:List Int) (k:Nat),l.drop k=r->k<=l.length->cdsL l l.length=cdsL l k ++ csL (lsA l k) r
 | [],k,hr,hk=>by
  have:l.length<=k:=by
   have:=congrArg List.length hr
   rw[List.length_drop] at this
   simp at this;omega
  rw[show k=l.length by omega]
  simp[csL]
 | x :: r,k,hr,hk=>by
  have hlt:k < l.length:=by
   have:=congrArg List.length hr
   rw[List.length_drop,List.length_cons] at this
   omega
  have hx:getG l k=x:=by
   unfold getG
   rw[List.getD_eq_getElem?_getD,List.getElem?_eq_getElem hlt]
   have h1:=List.drop_eq_getElem_cons hlt
   rw[hr] at h1
   injection h1 with h1 _
   simp[h1]
  have hr2:l.drop (k+1)=r:=by
   have h1:=List.drop_eq_getElem_cons hlt
   rw[hr] at h1
   injection h1 with _ h2
   exact h2.symm
  rw[zet l r (k+1) hr2 hlt,z9j,List.append_assoc]
  congr 1
  show cdN (cdA l k).toNat ++ _=cdN (cdS x (lsA l k)).1.toNat ++ csL (cdS x (lsA l k)).2 r
  unfold cdA
  rw[hx,show lsA l (k+1)=(cdS (getG l k) (lsA l k)).2 from rfl,hx]
theorem zo0(l:List Int):cdsL l l.length=csL 0 l:=by
 have:=zet l l 0 rfl (Nat.zero_le _)
 rw[this]
 show [] ++ csL 0 l=_
 rfl
theorem zsk{last:Int}{c:Nat}(h2:2<=c)(hk:knB (nxS last c)=true):cdS (nxS last c) last=((c:Int),nxS last c):=by
 have hb:-32767<=nxS last c /\ nxS last c<=32767:=of_decide_eq_true hk
 unfold cdS
 rw[if_neg (by omega),if_pos hk]
 unfold nxS
 split
 ·rw[if_neg (by omega)];congr 1;omega
 ·rw[if_pos (by omega)];congr 1;omega
theorem zq5{n last:Int}(hn:smB n=true)(hl:-32767<=last /\ last<=32767):(∃ c:Nat,(cdS n last).1=c /\ c < 2097152 /\ ((c=0 /\ n=40000 /\ (cdS n last).2=last) ∨(c=1 /\ n=40001 /\ (cdS n last).2=last) ∨(2<=c /\ nxS last c=n /\ knB n=true /\ (cdS n last).2=n))):=by
 by_cases h1:n=40001
 ·subst h1
  exact⟨1,rfl,by omega,.inr (.inl ⟨rfl,rfl,rfl⟩)⟩
 by_cases hk:knB n=true
 ·have hb:-32767<=n /\ n<=32767:=of_decide_eq_true hk
  unfold cdS
  rw[if_neg h1,if_pos hk]
  by_cases hd:n - last < 0
  ·rw[if_pos hd]
   refine⟨(1 - 2*(n - last)).toNat,by show _=_;simp only;omega,by omega,.inr (.inr ⟨by omega,?_,hk,rfl⟩)⟩
   unfold nxS;rw[if_neg (by omega)];omega
  ·rw[if_neg hd]
   refine⟨(2*(n - last)+2).toNat,by show _=_;simp only;omega,by omega,.inr (.inr ⟨by omega,?_,hk,rfl⟩)⟩
   unfold nxS;rw[if_pos (by omega)];omega
 ·have h0:n=40000:=by
   unfold smB at hn
   simp only[Bool.or_eq_true,decide_eq_true_eq] at hn
   rcases hn with h|h|h
   ·exact absurd h hk
   ·exact h
   ·exact absurd h h1
  subst h0
  exact⟨0,rfl,by omega,.inl ⟨rfl,rfl,rfl⟩⟩
theorem zn1{s:ByteArray}:∀(k p:Nat) (last:Int) (acc:List Int) {l:List Int} {q:Nat},smpB s k p last acc=some (l,q)->∃ r,l=acc ++ r /\ r.length=k /\ q=p+(csL last r).length /\ Mt s p (csL last r)
 | 0,p,last,acc,l,q,h=>by cases h;exact⟨[],by simp,rfl,rfl,trivial⟩
 | k+1,p,last,acc,l,q,h=>by
  unfold smpB at h
  split at h
  ·cases h
  ·rename_i c p' hc
   obtain⟨g1,rfl⟩:=znz hc
   have fin:∀(x last':Int),cdS x last=((c:Int),last')->smpB s k (p+(cdN c).length) last' (acc ++ [x])=some (l,q)->∃ r,l=acc ++ r /\ r.length=k+1 /\ q=p+(csL last r).length /\ Mt s p (csL last r):=fun x last' hx h'=>by
    obtain⟨r,e1,e2,e3,e4⟩:=zn1 k _ last' _ h'
    have hcs:csL last (x :: r)=cdN c ++ csL last' r:=by
     show cdN (cdS x last).1.toNat ++ csL (cdS x last).2 r=_
     rw[hx];rfl
    exact⟨x :: r,by rw[e1];simp,by rw[List.length_cons,e2],by rw[hcs,List.length_append,e3];omega,by rw[hcs];exact Mt.app.2 ⟨g1,e4⟩⟩
   split at h
   ·rename_i h0;subst h0;exact fin 40000 last rfl h
   ·split at h
    ·rename_i h1;subst h1;exact fin 40001 last rfl h
    ·split at h
     ·rename_i hk;exact fin _ _ (zsk (by omega) hk) h
     ·cases h
theorem zf9{s:ByteArray}:∀(r:List Int) (p:Nat) (last:Int) (acc:List Int),(∀ x ∈ r,smB x=true)->-32767<=last /\ last<=32767->Mt s p (csL last r)->smpB s r.length p last acc=some (acc ++ r,p+(csL last r).length)
 | [],p,last,acc,_,_,_=>by simp[smpB,csL]
 | n :: r,p,last,acc,hs,hl,h=>by
  obtain⟨c,e1,e2,e3⟩:=zq5 (hs n (by simp)) hl
  have hcs:csL last (n :: r)=cdN c ++ csL (cdS n last).2 r:=by
   show cdN (cdS n last).1.toNat ++ _=_
   rw[e1];rfl
  rw[hcs] at h ⊢
  obtain⟨h1,h2⟩:=Mt.app.1 h
  have hcd:=zod h1 e2
  have hs':∀ x ∈ r,smB x=true:=fun x hx=>hs x (by simp[hx])
  rw[List.length_cons,show smpB s (r.length+1) p last acc=(match codeB s p with
   | none=>none
   | some (c,q)=>if c=0 then smpB s r.length q last (acc ++ [40000]) else if c=1 then smpB s r.length q last (acc ++ [40001]) else if knB (nxS last c) then smpB s r.length q (nxS last c) (acc ++ [nxS last c]) else none) from rfl,hcd]
  simp only
  rcases e3 with⟨rfl,rfl,h3⟩|⟨rfl,rfl,h3⟩|⟨hc2,hn,hk,h3⟩
  ·rw[if_pos rfl,h3] at *
   rw[zf9 r _ last _ hs' hl h2,List.length_append]
   simp;omega
  ·rw[if_neg (by omega),if_pos rfl]
   rw[h3] at h2 ⊢
   rw[zf9 r _ last _ hs' hl h2,List.length_append]
   simp;omega
  ·rw[if_neg (by omega),if_neg (by omega),hn,if_pos hk]
   rw[h3] at h2 ⊢
   have hb:-32767<=n /\ n<=32767:=of_decide_eq_true hk
   rw[zf9 r _ n _ hs' hb h2,List.length_append]
   simp;omega
theorem zmu{s:ByteArray}:∀(r:List Int) (p:Nat) (last:Int) (acc:List Int),(∀ x ∈ r,smB x=true)->-32767<=last /\ last<=32767->Mt s p (csL last r)->ldS s r.length p last acc=some (acc ++ r)
 | [],p,last,acc,_,_,_=>by simp[ldS]
 | n :: r,p,last,acc,hs,hl,h=>by
  obtain⟨c,e1,e2,e3⟩:=zq5 (hs n (by simp)) hl
  have hcs:csL last (n :: r)=cdN c ++ csL (cdS n last).2 r:=by
   show cdN (cdS n last).1.toNat ++ _=_
   rw[e1];rfl
  rw[hcs] at h
  obtain⟨h1,h2⟩:=Mt.app.1 h
  have hcd:=zqi 4 p 0 1 c h1 (by omega) (by omega)
  rw[Nat.zero_add,Nat.one_mul] at hcd
  have hs':∀ x ∈ r,smB x=true:=fun x hx=>hs x (by simp[hx])
  rw[List.length_cons,show ldS s (r.length+1) p last acc=(match ldC s 4 p 0 1 with
   | none=>none
   | some (n,q)=>ldS s r.length q (ldV n last).2 (acc ++ [(ldV n last).1])) from rfl,hcd]
  simp only
  have hv:ldV c last=(n,(cdS n last).2):=by
   unfold ldV
   rcases e3 with⟨rfl,rfl,h3⟩|⟨rfl,rfl,h3⟩|⟨hc2,hn,hk,h3⟩
   ·rw[if_pos rfl,h3]
   ·rw[if_neg (by omega),if_pos rfl,h3]
   ·rw[if_neg (by omega),if_neg (by omega),hn,h3]
  rw[hv]
  have hb:-32767<=(cdS n last).2 /\ (cdS n last).2<=32767:=by
   rcases e3 with⟨rfl,rfl,h3⟩|⟨rfl,rfl,h3⟩|⟨hc2,hn,hk,h3⟩
   ·rw[h3];exact hl
   ·rw[h3];exact hl
   ·rw[h3];exact of_decide_eq_true hk
  rw[zmu r _ _ _ hs' hb h2]
  simp
theorem zou{s:ByteArray}{k p:Nat}{l:List Int}{q:Nat}(h:smpB s k p 0 []=some (l,q)):l.length=k /\ q=p+(csL 0 l).length /\ Mt s p (csL 0 l):=by
 obtain⟨r,e1,e2,e3,e4⟩:=zn1 k p 0 [] h
 rw[List.nil_append] at e1
 subst e1
 exact⟨e2,e3,e4⟩
theorem zmm{x:Fr}(h:frB x=true):∀ n ∈ x.2.2,smB n=true:=fun n hn=>by
 unfold frB smsB at h
 simp only[Bool.and_eq_true] at h
 exact List.all_eq_true.1 h.2.2.2 n hn
theorem zdf(x:Fr):bodyL x=[165,90] ++(twoL x.1.toNat ++([u8 x.2.1.toNat] ++([u8 x.2.2.length] ++ csL 0 x.2.2))):=by
 unfold bodyL hdL
 rw[zo0]
 simp
theorem zav{s:ByteArray}{p:Nat}{l:List UInt8}(hp:p<=s.size)(h:Mt s p l):crcX s p (p+l.length)=crcK (strL l) l.length:=by
 unfold crcX
 rw[((Mt.ext hp).1 h).2];rfl
theorem zm6{s:ByteArray}{p:Nat}{x:Fr}{q:Nat}(hp:p<=s.size)(h:FrD s p=some (x,q)):frB x=true /\ q=p+(pkL x).length /\ Mt s p (pkL x):=by
 have hok:=z9d hp h
 unfold FrD at h
 split at h
 ·cases h
 ·rename_i m p1 h1
  split at h
  ·cases h
  ·rename_i sh p2 h2
   split at h
   ·cases h
   ·rename_i ch p3 h3
    split at h
    ·cases h
    ·rename_i n p4 h4
     split at h
     ·rename_i hc
      split at h
      ·cases h
      ·rename_i l p5 h5
       split at h
       ·rename_i hf
        split at h
        ·cases h
        ·rename_i u p6 h6
         cases h
         obtain⟨g1,rfl,_⟩:=zfk h1
         obtain⟨g2,rfl,hsh⟩:=zfk h2
         obtain⟨g3,rfl⟩:=z5z h3
         obtain⟨g4,rfl⟩:=z5z h4
         obtain⟨g5,rfl,g6⟩:=zou h5
         have hch:=z1y h3
         obtain⟨rfl,hc2⟩:=hc
         have hb:bodyL ((sh:Int),(ch:Int),l)=twoL 42330 ++(twoL sh ++([u8 ch] ++([u8 n] ++ csL 0 l))):=by
          rw[zdf]
          show [165,90] ++(twoL (sh:Int).toNat ++([u8 (ch:Int).toNat] ++([u8 l.length] ++ csL 0 l)))=_
          rw[g5,Int.toNat_natCast,Int.toNat_natCast];rfl
         have hM:Mt s p (bodyL ((sh:Int),(ch:Int),l)):=by
          rw[hb]
          refine Mt.app.2 ⟨g1,Mt.app.2 ⟨g2,Mt.app.2 ⟨g3,Mt.app.2 ⟨g4,?_⟩⟩⟩⟩
          exact g6
         have hbl:p+(bodyL ((sh:Int),(ch:Int),l)).length=p+2+2+1+1+(csL 0 l).length:=by
          rw[hb];simp[twoL];omega
         unfold chkB at h6
         split at h6
         ·cases h6
         ·rename_i c p7 h7
          obtain⟨g7,rfl,hc7⟩:=zfk h7
          split at h6
          ·rename_i hcrc
           cases h6
           rw[<-hbl,zav hp hM] at hcrc
           have hpk:pkL ((sh:Int),(ch:Int),l)=bodyL ((sh:Int),(ch:Int),l) ++ twoL c:=by
            unfold pkL chkL
            rw[<-hcrc,Int.toNat_natCast]
           refine⟨hf,?_,?_⟩
           ·rw[hpk,List.length_append,<- Nat.add_assoc,hbl];rfl
           ·rw[hpk];exact Mt.app.2 ⟨hM,by rw[hbl];exact g7⟩
          ·cases h6
       ·cases h
     ·cases h
theorem zmr{s:ByteArray}{p:Nat}{x:Fr}(hp:p<=s.size)(hf:frB x=true)(h:Mt s p (pkL x)):FrD s p=some (x,p+(pkL x).length):=by
 obtain⟨sh,ch,l⟩:=x
 have hbd:=z39 hf
 have hln:=z32 hf
 simp only at hbd hln
 obtain⟨sh,rfl⟩:∃ n:Nat,sh=n:=⟨sh.toNat,by omega⟩
 obtain⟨ch,rfl⟩:∃ n:Nat,ch=n:=⟨ch.toNat,by omega⟩
 have hb:bodyL ((sh:Int),(ch:Int),l)=twoL 42330 ++(twoL sh ++([u8 ch] ++([u8 l.length] ++ csL 0 l))):=by
  rw[zdf]
  show [165,90] ++(twoL (sh:Int).toNat ++([u8 (ch:Int).toNat] ++([u8 l.length] ++ csL 0 l)))=_
  rw[Int.toNat_natCast,Int.toNat_natCast];rfl
 have hbl:p+(bodyL ((sh:Int),(ch:Int),l)).length=p+2+2+1+1+(csL 0 l).length:=by
  rw[hb];simp[twoL];omega
 unfold pkL chkL at h
 obtain⟨hM,hC⟩:=Mt.app.1 h
 have hcr:=zav hp hM
 have hM':=hM
 rw[hb] at hM
 obtain⟨m1,hM⟩:=Mt.app.1 hM
 obtain⟨m2,hM⟩:=Mt.app.1 hM
 obtain⟨m3,hM⟩:=Mt.app.1 hM
 obtain⟨m4,m5⟩:=Mt.app.1 hM
 have r1:=zfa (by omega) m1
 have r2:=zfa (by omega) m2
 have r3:=z53 m3
 have r4:=z53 m4
 rw[u8_n (by omega)] at r3 r4
 have r5:=zf9 l _ 0 [] (zmm hf) (by omega) m5
 rw[List.nil_append] at r5
 have hbd2:=z57 (strL (bodyL ((sh:Int),(ch:Int),l))) (bodyL ((sh:Int),(ch:Int),l)).length
 have r6:=zfa (by omega) hC
 rw[hbl] at r6 hcr
 unfold FrD
 simp only[twoL,List.length_cons,List.length_nil] at r1 r2 r3 r4 r5 r6
 rw[r1];simp only;rw[r2];simp only;rw[r3];simp only;rw[r4];simp only
 rw[if_pos ⟨by first|trivial|rfl,by omega,by omega⟩,r5]
 simp only
 rw[if_pos hf]
 unfold chkB
 rw[r6]
 simp only
 rw[if_pos (by rw[hcr];omega)]
 simp only
 unfold pkL chkL
 rw[List.length_append,<- Nat.add_assoc,hbl]
 rfl
end Go.Proofs.YtbfnnllgdioccaaGreatDoor.C
end
section
open Go PvL Go.Proofs
set_option linter.unusedSimpArgs false
set_option linter.unusedVariables false
variable {μ:Md}
namespace Go.Proofs.YtbfnnllgdioccaaGreatDoor.C
def salP(s:ByteArray):(List Fr × List Bd) × Int :=
 if 65536 < s.size then(([],[]),3) else if 128 <(z1j (whA s).1).length then(([],[]),6) else((z1j (whA s).1,(whA s).2),0)
theorem zji{s:ByteArray}:∀(k p:Nat) (F:List Fr) (L:List Bd),p<=s.size->FrOk F->F.length<=p->FrOk (whB s k p F L).1 /\ (whB s k p F L).1.length<=s.size
 | 0,p,F,L,hp,h,hl=>⟨h,by show F.length<=_;omega⟩
 | k+1,p,F,L,hp,h,hl=>by
  unfold whB
  split
  ·split
   ·rename_i x q hx
    have h1:=z9d hp hx
    refine zji k q _ _ h1.2.2 (fun y hy=>?_) (by rw[List.length_append];simp;omega)
    rcases List.mem_append.1 hy with hy|hy
    ·exact h y hy
    ·rw[List.mem_singleton.1 hy];exact h1.1
   ·exact zji k (p+1) F _ (by omega) h (by omega)
  ·exact⟨h,by show F.length<=_;omega⟩
theorem zn6(s:ByteArray):FrOk (whA s).1 /\ (whA s).1.length<=s.size:=zji s.size 0 [] [] (Nat.zero_le _) (fun _ h=>nomatch h) (Nat.le_refl _)
theorem zcz(l:List Fr):(rackF l).length<=l.length:=by
 have:∀(l:List Fr) (R:Rk),(l.foldl rkA R).length<=R.length+l.length:=fun l=>by
  induction l with
  | nil=>intro R;exact Nat.le_refl _
  | cons z l ih =>
   intro R
   have h1:=ih (rkA R z)
   have h2:(rkA R z).length<=R.length+1:=by
    have:=congrArg List.length (ze9 R (fky z) (z1b ((lkK R (fky z)).getD []) z.2.2))
    rw[List.length_map] at this
    unfold rkA
    rw[this]
    split<;>simp
   rw[List.foldl_cons,List.length_cons];omega
 have:=this l []
 unfold rackF
 have h0:([]:Rk).length=0:=rfl
 omega
theorem ne9{l:List Fr}(h:FrOk l):∀ z ∈ z1j l,z.2.2 ≠ []:=fun z hz=>by
 have h1:=z32 (zhu (J:=[]) (fun _ h=>absurd h List.not_mem_nil) h z hz)
 intro h2;rw[h2] at h1;exact absurd h1.1 (by decide)
set_option maxHeartbeats 8000000 in
theorem zh9{s:ByteArray}{M:Mem}(hs:s.size<=1000000000000000) :
  CallN Tryz.prog 31 [.str s] M (fun w M'=>∃ a f e v,w=.tup [.slice a (salP s).1.1.length f e,v,I (salP s).2] /\ FsV1 M' a (salP s).1.1 /\ Vec 0 2 65 bdc M' v (salP s).1.2 /\ Grow M M'):=by
 refine z3j k31 rfl ?_
 dsimp only[x31,zM,zO,zI,zF,zS,zB,zL,zA,zE,zN,zW,zC,zipE,Nat.reduceAdd]
 by_cases hlong:65536 < s.size
 ·have hj:salP s=(([],[]),3):=by unfold salP;rw[if_pos hlong]
  rw[hj]
  repeat' first|with_reducible intro _|refine sv ?_|refine sc ?_ ?_<;>(intro h;try exact sz h)|refine sg ?_ ?_<;>(intro h;first|exact sz h|refine sy h ?_)|exact sq|fail
  all_goals first|(exfalso;omega)|skip
  refine kf ?_
  exact⟨none,true,0,_,rfl,.inl rfl,Vec.nil,xg⟩
 repeat' first|with_reducible intro _|refine sv ?_|refine sc ?_ ?_<;>(intro h;try exact sz h)|refine sg ?_ ?_<;>(intro h;first|exact sz h|refine sy h ?_)|exact sq|fail
 all_goals first|(exfalso;omega)|skip
 rename_i r M1 h1 h2 h3
 have hR1:=RkM.nil h1
 have hg1:Grow M M1:=h1.grow
 have hrM:M.next<=r:=by omega
 refine zt gd rfl rfl (znv hR1 RkB.nil (by omega)) ?_
 rintro w M2 ⟨hR2,hB2,hv2,hk2⟩
 have hg2:Grow M M2:=hg1.keep hk2 (fun i hi=>by subst hi;exact hrM)
 have hwo:=zn6 s
 have hrl:=zcz (whA s).1
 have hrj:=zqy hwo.1.k
 repeat' first|with_reducible intro _|refine sv ?_|refine sc ?_ ?_<;>(intro h;try exact sz h)|refine sg ?_ ?_<;>(intro h;first|exact sz h|refine sy h ?_)|exact sq|fail
 refine z93 gd rfl rfl (zkb hR2 hrj (ne9 hwo.1) (by unfold rackF at hrl;omega)) ?_
 rintro w3 M3 ⟨hc,hg3⟩
 have hg23:=hg2.trans hg3
 have hv3:=hv2.grow hg3
 obtain⟨aa,ff,ee,rfl⟩:=hv3.shape
 rcases hc with⟨hl,a,f,e,rfl,hf3⟩|⟨hl,rfl⟩
 ·have hj:salP s=((z1j (whA s).1,(whA s).2),0):=by unfold salP;rw[if_neg hlong,if_neg (by omega)]
  rw[hj]
  repeat' first|with_reducible intro _|refine sv ?_|refine sc ?_ ?_<;>(intro h;try exact sz h)|refine sg ?_ ?_<;>(intro h;first|exact sz h|refine sy h ?_)|exact sq|fail
  refine kf ?_
  exact⟨a,f,e,_,rfl,hf3,Vec.low hv3 (Nat.zero_le _),hg23⟩
 ·have hj:salP s=(([],[]),6):=by unfold salP;rw[if_neg hlong,if_pos hl]
  rw[hj]
  repeat' first|with_reducible intro _|refine sv ?_|refine sc ?_ ?_<;>(intro h;try exact sz h)|refine sg ?_ ?_<;>(intro h;first|exact sz h|refine sy h ?_)|exact sq|fail
  refine kf ?_
  exact⟨none,true,0,_,rfl,.inl rfl,Vec.nil,hg23⟩
