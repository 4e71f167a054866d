/-
 Part of the proof of TapeWhole. No condition beyond those in each theorem.
-/
import Derived.Test.YtbfnnllgdioccaaGreatDoorPvH
import Derived.Test.YtbfnnllgdioccaaGreatDoorPvG
import Derived.Test.YtbfnnllgdioccaaGreatDoorTW
import Derived.Test.YtbfnnllgdioccaaGreatDoorTX
section
open PvL Go
set_option linter.unusedSimpArgs false
set_option linter.unusedVariables false
namespace Go.Proofs.YtbfnnllgdioccaaGreatDoor.C
def SlI(M:Mem)(a:Option (Nat × Nat))(l:List Int):Prop:=l=[] ∨ ∃ i o,a=some (i,o) /\ ∀ k (hk:k < l.length),Rd1 M i (o+k*1) (I l[k])
theorem SlI.grow{M M':Mem}{a:Option (Nat × Nat)}{l:List Int}(h:SlI M a l)(hg:Grow M M'):SlI M' a l :=
 h.imp id fun⟨i,o,h1,h2⟩=>⟨i,o,h1,fun k hk=>(h2 k hk).grow hg⟩
theorem SlI.rd{M:Mem}{a:Option (Nat × Nat)}{l:List Int}(h:SlI M a l){k:Nat}(hk:k < l.length):∃ i o,a=some (i,o) /\ Rd1 M i (o+k*1) (I l[k]):=by
 rcases h with rfl|⟨i,o,h1,h2⟩
 ·exact absurd hk (Nat.not_lt_zero _)
 ·exact⟨i,o,h1,h2 k hk⟩
abbrev intc(n:Int):List LV:=[I n]
theorem z9s{M:Mem}{i o:Nat}{v:LV}(h:Rd M i o 1 [v]):Rd1 M i o v:=by
 have:=Rd.nth (j:=0) h (v:=v) rfl
 simpa using this
theorem SlI.vec{M:Mem}{b:Nat}{ty:TypeId}{v:LV}{l:List Int}(h:Vec b 1 ty intc M v l):∃ a f e,v=.slice a l.length f e /\ SlI M a l:=by
 obtain⟨a,f,e,h1,h2⟩:=h.rd (fun _ _=>rfl)
 refine⟨a,f,e,h1,h2.imp id fun⟨i,o,h3,h4⟩=>⟨i,o,h3,fun k hk=>z9s (h4 k hk)⟩⟩
abbrev frSh:Sh:=.pair (.int .i64) (.pair (.int .i64) (.sl (.int .i64) 8))
abbrev Fr:=Int × Int × List Int
theorem zjp{m:Mem}{b:Nat}{l:List Int}{cs:List LV}(h:Enc m (.sl (.int .i64) b) l cs):∃ a f,cs=[.slice a l.length f 1] /\ SlI m a l /\ l.length<=reachBytes /\ ∀ x ∈ l,IntKind.min .i64<=x /\ x<=IntKind.max .i64:=by
 obtain⟨a,f,h1,h2,h3⟩:=h
 by_cases hl:l=[]
 ·subst hl
  exact⟨a,f,h1,.inl rfl,h2.1,fun x hx=>nomatch hx⟩
 ·obtain⟨i,o,g1,g2,_,g3⟩:=h3 hl
  have key:∀ k (hk:k < l.length),Rd1 m i (o+k*1) (I l[k]) /\ IntKind.min .i64<=l[k] /\ l[k]<=IntKind.max .i64:=fun k hk=>by
   obtain⟨c,g4,g5,g6⟩:=g3 k hk
   rw[g5] at g4
   exact⟨z9s ⟨g4,g2⟩,g6⟩
  refine⟨a,f,h1,.inr ⟨i,o,g1,fun k hk=>(key k hk).1⟩,h2.1,fun x hx=>?_⟩
  obtain⟨k,hk,rfl⟩:=List.getElem_of_mem hx
  exact(key k hk).2
def FrV(M:Mem)(v:LV)(x:Fr):Prop:=∃ a f e,v=.agg [I x.1,I x.2.1,.slice a x.2.2.length f e] /\ SlI M a x.2.2
def I64(n:Int):Prop:=-9223372036854775808<=n /\ n<=9223372036854775807
def FrIn(x:Fr):Prop:=I64 x.1 /\ I64 x.2.1 /\ x.2.2.length<=1000000000000000 /\ ∀ n ∈ x.2.2,I64 n
theorem zp4{m:Mem}{x:Fr}{cs:List LV}(h:Enc m frSh x cs):FrV m (.agg cs) x /\ FrIn x:=by
 obtain⟨c1,d1,rfl,⟨rfl,hb1⟩,c2,d2,rfl,⟨rfl,hb2⟩,h3⟩:=h
 obtain⟨a,f,rfl,h4,h5,h6⟩:=zjp h3
 have h5:x.2.2.length<=140737488351232:=h5
 exact⟨⟨a,f,1,rfl,h4⟩,hb1,hb2,by omega,h6⟩
theorem FrV.grow{M M':Mem}{v:LV}{x:Fr}(h:FrV M v x)(hg:Grow M M'):FrV M' v x:=by
 obtain⟨a,f,e,h1,h2⟩:=h
 exact⟨a,f,e,h1,h2.grow hg⟩
def knB(n:Int):Bool:=decide (-32767<=n /\ n<=32767)
def smB(n:Int):Bool:=knB n ||(decide (n=40000) || decide (n=40001))
def btB(n a b:Int):Bool:=decide (a<=n /\ n<=b)
def smsB(l:List Int):Bool:=btB l.length 1 64 && l.all smB
def frB(x:Fr):Bool:=btB x.1 0 60000 && (btB x.2.1 0 23 && smsB x.2.2)
def errF(x:Fr):Int:=if frB x then 0 else 80
end Go.Proofs.YtbfnnllgdioccaaGreatDoor.C
end
section
open PvL Go
set_option linter.unusedVariables false
variable {μ:PvL.Md}
namespace Go.Proofs.YtbfnnllgdioccaaGreatDoor.C
section
variable {α:Type} {b q:Nat} {ty:TypeId} {enc:α->List LV} {M:Mem} {v:LV} {l l':List α} {P:Program} [Orc P] {sz:Nat} {E:Env} {K:Env->Mem->Prop} {ll:List XG} {d:Nat} {g:Option (Nat × Bool)} {s x:XO} {st:List Mem} {k:Nat} {xs:List (Nat × Nat × (Mem->Prop))} {ld:List (XG × XK)} {by':Nat} {z:List LV} {xv:LV}
theorem z39(hg:GOn E g)(hv:Vec b q ty enc M v l)(hs:xval E s=some v)(hx:xval E x=some xv)(hn:z15 xv=some l'.length)(h0:0 < l'.length)(hb:(2*(l.length+l'.length)+2048)*by'<=140737488355328)(hz:(Nat.ble 1 q && (Nat.ble 1 by' && Nat.beq z.length q))=true)(hw:z0e q l'.length xv M=some (l'.flatMap enc))
  (henc:∀ x,(enc x).length=q) (hfl:∀ x,zc (enc x)=true) (hbM:b<=M.next) (hk:∀ v' M',Vec b q ty enc M' v' (l ++ l')->M'.next=M.next+1->Keep (fun i=>b<=i /\ ∃ o n f e,v=.slice (some (i,o)) n f e) M M'->XW μ P sz ll ((d,v') :: E) M' K):XW μ P sz (⟨some d,.app ty q by' z s x,g⟩ :: ll) E M K:=by
 obtain⟨v',M',h1,h2,h3,h4⟩:=hv.app (P:=P) hs hx hn h0 hb hz hw henc hfl hbM
 exact zl1 hg h1 (hk v' M' h2 h3 h4)
theorem zh0(hg:GOn E g)(hv:Vec b q ty enc M v l)(hs:xval E s=some v)(hx:xval E x=some xv)(hn:z15 xv=some l'.length)(h0:0 < l'.length)(hb:(2*(l.length+l'.length)+2048)*by'<=140737488355328)(hz:(Nat.ble 1 q && (Nat.ble 1 by' && Nat.beq z.length q))=true)(hw:z0e q l'.length xv M=some (l'.flatMap enc))
  (henc:∀ x,(enc x).length=q) (hfl:∀ x,zc (enc x)=true) (hbM:b<=M.next) (hk:∀ v' M',Vec b q ty enc M' v' (l ++ l')->M'.next=M.next+1->Keep (fun i=>b<=i /\ ∃ o n f e,v=.slice (some (i,o)) n f e) M M'->XD P sz ld ((d,v') :: E) M' (M' :: st) (k+1) xs K):XD P sz ((⟨some d,.app ty q by' z s x,g⟩,.anchor) :: ld) E M st k xs K:=by
 obtain⟨v',M',h1,h2,h3,h4⟩:=hv.app (P:=P) hs hx hn h0 hb hz hw henc hfl hbM
 exact zll hg h1 (hk v' M' h2 h3 h4)
end
theorem z45{m:Nat}{x:Int}{M M':Mem}{ty:TypeId}(hn:New M m (.cells true [I x] ty) M'):z0e 1 1 (.slice (some (m,0)) 1 true 1) M'=some ([x].flatMap intc) :=
 z3v (enc:=intc) (l:=[x]) (fun _ _=>rfl) (fun k' hk'=>z2x (enc:=intc) (l:=[x]) (At.new_same hn) (fun _ _=>rfl) hk')
def joinI(a b:Int):Int:=if a=b ∨ b=40000 then a else if a=40000 then b else 40001
def getG(l:List Int)(k:Nat):Int:=l.getD k 40000
def z0o(a b:List Int):List Int:=(List.range (max a.length b.length)).map fun k=>joinI (getG a k) (getG b k)
theorem zf6{a b:List Int}{k:Nat}(h:k < max a.length b.length):(z0o a b).take (k+1)=(z0o a b).take k ++ [joinI (getG a k) (getG b k)]:=by
 unfold z0o
 rw[List.take_succ_eq_append_getElem (by simpa using h)]
 simp
theorem z1e{a b:List Int}:(z0o a b).length=max a.length b.length:=by unfold z0o;simp
theorem z4x{l:List Int}{k:Nat}(h:k < l.length):getG l k=l[k]:=by unfold getG;rw[List.getD_eq_getElem?_getD,List.getElem?_eq_getElem h];rfl
theorem z7u{l:List Int}{k:Nat}(h:l.length<=k):getG l k=40000:=by unfold getG;rw[List.getD_eq_getElem?_getD,List.getElem?_eq_none h];rfl
theorem zjz(a b:Nat):iMax (a:Int) (b:Int)=((max a b:Nat):Int):=by unfold iMax;omega
end Go.Proofs.YtbfnnllgdioccaaGreatDoor.C
end
section
open PvL Go
set_option linter.unusedSimpArgs false
set_option linter.unusedVariables false
namespace Go.Proofs.YtbfnnllgdioccaaGreatDoor.C
def FsV(M:Mem)(a:Option (Nat × Nat))(L:List Fr):Prop:=L=[] ∨ ∃ i o,a=some (i,o) /\ ∀ k (hk:k < L.length),∃ b g u,Rd M i (o+k*3) 3 [I L[k].1,I L[k].2.1,.slice b L[k].2.2.length g u] /\ SlI M b L[k].2.2
theorem FsV.grow{M M':Mem}{a:Option (Nat × Nat)}{L:List Fr}(h:FsV M a L)(hg:Grow M M'):FsV M' a L :=
 h.imp id fun⟨i,o,h1,h2⟩=>⟨i,o,h1,fun k hk=>by
  obtain⟨b,g,u,h3,h4⟩:=h2 k hk
  exact⟨b,g,u,h3.grow hg,h4.grow hg⟩⟩
def zFr0:Fr:=(0,0,[])
def fe(L:List Fr)(k:Nat):Fr:=L.getD k zFr0
theorem z4v{L:List Fr}{k:Nat}(h:k < L.length):fe L k=L[k]:=by unfold fe;rw[List.getD_eq_getElem?_getD,List.getElem?_eq_getElem h];rfl
theorem FsV.rd{M:Mem}{a:Option (Nat × Nat)}{L:List Fr}(h:FsV M a L){k:Nat}(hk:k < L.length):∃ i o b g u,a=some (i,o) /\ Rd M i (o+k*3) 3 [I (fe L k).1,I (fe L k).2.1,.slice b (fe L k).2.2.length g u] /\ FrV M (.agg [I (fe L k).1,I (fe L k).2.1,.slice b (fe L k).2.2.length g u]) (fe L k):=by
 rcases h with rfl|⟨i,o,h1,h2⟩
 ·exact absurd hk (Nat.not_lt_zero _)
 ·obtain⟨b,g,u,h3,h4⟩:=h2 k hk
  rw[<-z4v hk] at h3 h4
  exact⟨i,o,b,g,u,h1,h3,b,g,u,rfl,h4⟩
def keyI(x:Fr):Int:=24*x.1+x.2.1
theorem z9a{x:Fr}(h:frB x=true):0<=x.1 /\ x.1<=60000 /\ 0<=x.2.1 /\ x.2.1<=23 /\ smsB x.2.2=true:=by
 unfold frB btB at h
 simp only[Bool.and_eq_true,decide_eq_true_eq] at h
 exact⟨h.1.1,h.1.2,h.2.1.1,h.2.1.2,h.2.2⟩
def cmpI8(a b:Int):Int:=if a < b then -1 else if b < a then 1 else 0
def cmpK(a b:Int × Int):Int:=if cmpI8 a.1 b.1 ≠ 0 then cmpI8 a.1 b.1 else cmpI8 a.2 b.2
end Go.Proofs.YtbfnnllgdioccaaGreatDoor.C
end
section
open PvL
set_option linter.unusedSimpArgs false
set_option linter.unusedVariables false
namespace Go.Proofs.YtbfnnllgdioccaaGreatDoor.C
def stepB(c:Int):Int:=if 65535 < shlZ c 1 then xorZ (andZ (shlZ c 1) 65535) 4129 else shlZ c 1
def stepN:Nat->Int->Int
 | 0,c=>c
 | n+1,c=>stepB (stepN n c)
def byteC(c:Int)(b:Nat):Int:=stepN 8 (xorZ c (shlZ (b:Int) 8))
def crcK(s:ByteArray):Nat->Int
 | 0=>65535
 | k+1=>byteC (crcK s k) (byteAt s k)
theorem shl1(c:Int):shlZ c 1=2*c:=by unfold shlZ;show c*((2 ^ 1:Nat):Int)=_;omega
theorem shl8(c:Int):shlZ c 8=256*c:=by unfold shlZ;show c*((2 ^ 8:Nat):Int)=_;omega
theorem zdu{a b:Int}(ha:0<=a /\ a<=65535)(hb:0<=b /\ b<=65535):0<=xorZ a b /\ xorZ a b<=65535:=by
 have:a.toNat ^^^ b.toNat < 65536:=Nat.xor_lt_two_pow (n:=16) (by omega) (by omega)
 unfold xorZ;omega
theorem zgg{a b:Int}(hb:0<=b):0<=andZ a b /\ andZ a b<=b:=by
 have:a.toNat &&& b.toNat<=b.toNat:=Nat.and_le_right
 unfold andZ;omega
theorem zkp{c:Int}(h:0<=c /\ c<=65535):0<=stepB c /\ stepB c<=65535:=by
 unfold stepB
 have e:=shl1 c
 split
 ·exact zdu (zgg (by omega)) (by omega)
 ·omega
theorem zax{c:Int}(h:0<=c /\ c<=65535):∀ n,0<=stepN n c /\ stepN n c<=65535
 | 0=>h
 | n+1=>zkp (zax h n)
theorem zja{c:Int}(h:0<=c /\ c<=65535){b:Nat}(hb:b < 256):0<=byteC c b /\ byteC c b<=65535:=by
 have:=shl8 (b:Int)
 exact zax (zdu h (by omega)) 8
theorem z7i(s:ByteArray):∀ k,0<=crcK s k /\ crcK s k<=65535
 | 0=>by unfold crcK;omega
 | k+1=>zja (z7i s k) (z2y s k)
end Go.Proofs.YtbfnnllgdioccaaGreatDoor.C
end
section
open PvL Go
set_option linter.unusedSimpArgs false
set_option linter.unusedVariables false
namespace Go.Proofs.YtbfnnllgdioccaaGreatDoor.C
def u8(n:Nat):UInt8:=UInt8.ofNat n
theorem u8_n{n:Nat}(h:n < 256):(u8 n).toNat=n:=by unfold u8;simp;omega
def strL(l:List UInt8):ByteArray:=⟨⟨l⟩⟩
theorem z25(a b:List UInt8):strL a ++ strL b=strL (a ++ b):=by
 unfold strL
 apply ByteArray.ext
 simp
theorem zcs(l:List UInt8):(strL l).size=l.length:=rfl
def twoL(n:Nat):List UInt8:=[u8 (n / 256),u8 (n % 256)]
def cdF:Nat->Nat->List UInt8
 | 0,_=>[]
 | f+1,n=>if 128<=n then u8 (n % 128+128) :: cdF f (n / 128) else [u8 n]
theorem ze2:∀(f g n:Nat),n < f->n < g->cdF f n=cdF g n
 | 0,_,n,h,_=>absurd h (Nat.not_lt_zero _)
 | _,0,n,_,h=>absurd h (Nat.not_lt_zero _)
 | f+1,g+1,n,h1,h2=>by
  unfold cdF
  split
  ·rename_i hc
   rw[ze2 f g (n / 128) (by omega) (by omega)]
  ·rfl
def cdN(n:Nat):List UInt8:=cdF (n+1) n
theorem ze3{n:Nat}(h:128<=n):cdN n=u8 (n % 128+128) :: cdN (n / 128):=by
 unfold cdN
 show(if 128<=n then _ else _)=_
 rw[if_pos h,ze2 n (n / 128+1) (n / 128) (by omega) (by omega)]
theorem zbl{n:Nat}(h:n < 128):cdN n=[u8 n]:=by
 unfold cdN
 show(if 128<=n then _ else _)=_
 rw[if_neg (by omega)]
def cdS(n last:Int):Int × Int:=if n=40001 then(1,last) else if knB n then(if n - last < 0 then 1 - 2*(n - last) else 2*(n - last)+2,n) else(0,last)
def lsA(l:List Int):Nat->Int
 | 0=>0
 | k+1=>(cdS (getG l k) (lsA l k)).2
def cdA(l:List Int)(k:Nat):Int:=(cdS (getG l k) (lsA l k)).1
theorem zhv(l:List Int):∀ k,-32767<=lsA l k /\ lsA l k<=32767
 | 0=>by unfold lsA;omega
 | k+1=>by
  have h:=zhv l k
  unfold lsA cdS
  split
  ·exact h
  ·split
   ·rename_i hk
    exact of_decide_eq_true hk
   ·exact h
theorem ze1(l:List Int)(k:Nat):0<=cdA l k /\ cdA l k<=131070:=by
 have h:=zhv l k
 unfold cdA cdS
 split
 ·dsimp only;omega
 ·split
  ·rename_i hk
   have hk:-32767<=getG l k /\ getG l k<=32767:=of_decide_eq_true hk
   dsimp only
   split<;>omega
  ·dsimp only;omega
def cdsL(l:List Int)(k:Nat):List UInt8:=(List.range k).flatMap fun i=>cdN (cdA l i).toNat
theorem zlk(l:List Int)(k:Nat):cdsL l (k+1)=cdsL l k ++ cdN (cdA l k).toNat:=by unfold cdsL;rw[List.range_succ,List.flatMap_append];simp
theorem zaf:∀(n:Nat),(cdN n).length<=n / 128+1
 | n=>by
  by_cases h:128<=n
  ·rw[ze3 h,List.length_cons]
   have:=zaf (n / 128)
   omega
  ·rw[zbl (by omega)];simp
theorem zag(l:List Int):∀ k,(cdsL l k).length<=1100*k
 | 0=>by unfold cdsL;simp
 | k+1=>by
  rw[zlk,List.length_append]
  have h1:=zag l k
  have h2:=zaf (cdA l k).toNat
  have h3:=ze1 l k
  omega
def hdL(x:Fr):List UInt8:=[165,90] ++ twoL x.1.toNat ++ [u8 x.2.1.toNat,u8 x.2.2.length]
def bodyL(x:Fr):List UInt8:=hdL x ++ cdsL x.2.2 x.2.2.length
def chkL(l:List UInt8):List UInt8:=l ++ twoL (crcK (strL l) l.length).toNat
def pkL(x:Fr):List UInt8:=chkL (bodyL x)
theorem zng{x:Fr}(h:x.2.2.length<=64):(pkL x).length<=100000:=by
 have:=zag x.2.2 x.2.2.length
 unfold pkL chkL bodyL hdL twoL
 simp only[List.length_append,List.length_cons,List.length_nil]
 omega
end Go.Proofs.YtbfnnllgdioccaaGreatDoor.C
end
section
open Go PvL Go.Proofs
set_option linter.unusedSimpArgs false
set_option linter.unusedVariables false
namespace Go.Proofs.YtbfnnllgdioccaaGreatDoor.C
set_option maxHeartbeats 1000000 in
theorem zmk(s:ByteArray)(hs:s.size<=140737488355328)(M:Mem):za Tryz.prog 55 [.str s] M (fun w M'=>w=I (crcK s s.size) /\ M'=M):=by
 refine zd k55 rfl ?_
 dsimp only[x55,zM,zO,zI,zF,zS,zB,zL,zA,zE,zN,zW,zC,zipE,Nat.reduceAdd]
 repeat' first|with_reducible intro _|refine sv ?_|refine sc ?_ ?_<;>(intro h;try exact sz h)|refine sg ?_ ?_<;>(intro h;first|exact sz h|refine sy h ?_)|exact sq|fail
 refine z9 (fun n E ms M'=>∃ k:Nat,n=s.size - k /\ k<=s.size /\ ms=[] /\ M'=M /\ Has E [(0,.str s),(3,I (crcK s k)),(6,I s.size),(7,I k)])
  ?_ s.size _ _ _ ⟨0,by omega,by omega,rfl,rfl,.cons rfl (.cons rfl (.cons rfl (.cons rfl .nil)))⟩
 rintro n E ms M' ⟨k,rfl,hk,rfl,rfl,hE⟩
 refine z0d hE ?_
 have hb:=z7i s k
 have hb2:=z2y s k
 have h8:=shl8 ((byteAt s k:Nat):Int)
 by_cases hlast:k=s.size
 ·subst hlast
  repeat' first|with_reducible intro _|refine sv ?_|refine sc ?_ ?_<;>(intro h;try exact sz h)|refine sg ?_ ?_<;>(intro h;first|exact sz h|refine sy h ?_)|exact sq|fail
  refine kf ?_
  exact⟨rfl,rfl⟩
 ·have hlt:k < s.size:=by omega
  repeat' first|with_reducible intro _|refine sv ?_|refine sc ?_ ?_<;>(intro h;try exact sz h)|refine sg ?_ ?_<;>(intro h;first|exact sz h|refine sy h ?_)|exact sq|fail
  have hc0:=zdu (a:=crcK s k) (b:=shlZ ((byteAt s k:Nat):Int) 8) hb (by omega)
  generalize hg:xorZ (crcK s k) (shlZ ((byteAt s k:Nat):Int) 8)=c0 at hc0 ⊢
  refine z9 (fun n E ms M2=>∃ j:Nat,n=8 - j /\ j<=8 /\ ms=[] /\ M2=M' /\ Has E [(0,.str s),(3,I (stepN j c0)),(6,I s.size),(7,I k),(17,I j)])
   ?_ 8 _ _ _ ⟨0,by omega,by omega,rfl,rfl,.cons rfl (.cons rfl (.cons rfl (.cons rfl (.cons rfl .nil))))⟩
  rintro n E ms M' ⟨j,rfl,hj,rfl,rfl,hE⟩
  refine z0d hE ?_
  have hb3:=zax hc0 j
  have h1:=shl1 (stepN j c0)
  have ha:=zgg (a:=shlZ (stepN j c0) 1) (b:=65535) (by omega)
  by_cases hj8:j=8
  ·subst hj8
   repeat' first|with_reducible intro _|refine sv ?_|refine sc ?_ ?_<;>(intro h;try exact sz h)|refine sg ?_ ?_<;>(intro h;first|exact sz h|refine sy h ?_)|exact sq|fail
   refine zj (s.size - (k+1)) (by omega) ⟨k+1,rfl,by omega,rfl,rfl,.cons rfl (.cons ?_ (.cons rfl (.cons rfl .nil)))⟩
   show some (I (stepN 8 c0))=some (I (byteC (crcK s k) (byteAt s k)))
   unfold byteC
   rw[hg]
  ·have hlt8:j < 8:=by omega
   repeat' first|with_reducible intro _|refine sv ?_|refine sc ?_ ?_<;>(intro h;try exact sz h)|refine sg ?_ ?_<;>(intro h;first|exact sz h|refine sy h ?_)|exact sq|fail
   ·refine zj (8 - (j+1)) (by omega) ⟨j+1,rfl,by omega,rfl,rfl,.cons rfl (.cons ?_ (.cons rfl (.cons rfl (.cons rfl .nil))))⟩
    show some (I _)=some (I (stepB (stepN j c0)))
    unfold stepB
    rw[if_pos (by assumption)]
   ·refine zj (8 - (j+1)) (by omega) ⟨j+1,rfl,by omega,rfl,rfl,.cons rfl (.cons ?_ (.cons rfl (.cons rfl (.cons rfl .nil))))⟩
    show some (I _)=some (I (stepB (stepN j c0)))
    unfold stepB
    rw[if_neg (by omega)]
theorem zac(n a b:Int)(M:Mem):za Tryz.prog 44 [I n,I a,I b] M (fun w M'=>w=.bool (btB n a b) /\ M'=M):=by
 refine zd k44 rfl ?_
 dsimp only[x44,zM,zO,zI,zF,zS,zB,zL,zA,zE,zN,zW,zC,zipE,Nat.reduceAdd]
 repeat' first|with_reducible intro _|refine sv ?_|refine sc ?_ ?_<;>(intro h;try exact sz h)|refine sg ?_ ?_<;>(intro h;first|exact sz h|refine sy h ?_)|exact sq|fail
 ·refine kf ?_
  refine⟨?_,rfl⟩
  simp[packed,btB];omega
 ·refine kf ?_
  refine⟨?_,rfl⟩
  simp[packed,btB];omega
theorem z7d(n:Int)(M:Mem):za Tryz.prog 47 [I n] M (fun w M'=>w=.bool (knB n) /\ M'=M):=by
 refine zd k47 rfl ?_
 dsimp only[x47,zM,zO,zI,zF,zS,zB,zL,zA,zE,zN,zW,zC,zipE,Nat.reduceAdd]
 repeat' first|with_reducible intro _|refine sv ?_|refine sc ?_ ?_<;>(intro h;try exact sz h)|((with_reducible first|apply z0r|apply z1b|apply d_same0);exact gd;exact rfl;exact rfl;(first|exact zac _ _ _ _))|refine sg ?_ ?_<;>(intro h;first|exact sz h|refine sy h ?_)|exact sq|fail
 refine kf ?_
 exact⟨rfl,rfl⟩
theorem zji(n:Int)(M:Mem):za Tryz.prog 117 [I n] M (fun w M'=>w=.bool (smB n) /\ M'=M):=by
 refine zd k117 rfl ?_
 dsimp only[x117,zM,zO,zI,zF,zS,zB,zL,zA,zE,zN,zW,zC,zipE,Nat.reduceAdd]
 unfold smB
 cases hk:knB n with
 | true =>
  have hc:∀ M,za Tryz.prog 47 [I n] M (fun w M'=>w=.bool true /\ M'=M):=fun M=>by rw[<-hk];exact z7d n M
  repeat' first|with_reducible intro _|refine sv ?_|refine sc ?_ ?_<;>(intro h;try exact sz h)|((with_reducible first|apply z0r|apply z1b|apply d_same0);exact gd;exact rfl;exact rfl;(first|exact hc _))|refine sg ?_ ?_<;>(intro h;first|exact sz h|refine sy h ?_)|exact sq|fail
  refine kf ?_
  exact⟨rfl,rfl⟩
 | false =>
  have hc:∀ M,za Tryz.prog 47 [I n] M (fun w M'=>w=.bool false /\ M'=M):=fun M=>by rw[<-hk];exact z7d n M
  repeat' first|with_reducible intro _|refine sv ?_|refine sc ?_ ?_<;>(intro h;try exact sz h)|((with_reducible first|apply z0r|apply z1b|apply d_same0);exact gd;exact rfl;exact rfl;(first|exact hc _))|refine sg ?_ ?_<;>(intro h;first|exact sz h|refine sy h ?_)|exact sq|fail
  all_goals ((refine kf ?_);refine⟨?_,rfl⟩;simp[packed];try omega)
theorem z5d(n:Int)(M:Mem):za Tryz.prog 116 [I n] M (fun w M'=>w=.bool (!smB n) /\ M'=M):=by
 refine zd k116 rfl ?_
 dsimp only[x116,zM,zO,zI,zF,zS,zB,zL,zA,zE,zN,zW,zC,zipE,Nat.reduceAdd]
 repeat' first|with_reducible intro _|refine sv ?_|refine sc ?_ ?_<;>(intro h;try exact sz h)|((with_reducible first|apply z0r|apply z1b|apply d_same0);exact gd;exact rfl;exact rfl;(first|exact zji _ _))|refine sg ?_ ?_<;>(intro h;first|exact sz h|refine sy h ?_)|exact sq|fail
 refine kf ?_
 exact⟨rfl,rfl⟩
theorem za5{n:Nat}{p:Nat->Bool}:(List.range n).any p=true ↔ ∃ j,j < n /\ p j=true:=by
 rw[List.any_eq_true]
 exact⟨fun⟨j,h1,h2⟩=>⟨j,List.mem_range.1 h1,h2⟩,fun⟨j,h1,h2⟩=>⟨j,List.mem_range.2 h1,h2⟩⟩
set_option maxHeartbeats 1000000 in
theorem zcz{a:Option (Nat × Nat)}{n:Nat}{f:Bool}{e:Nat}{g:FuncId}{fi ca:List LV}{M:Mem}(elem:Nat->LV)(p:Nat->Bool)(hn:n<=1000000000000000)
  (hread:∀ k,k < n->∃ i o,a=some (i,o) /\ Rd1 M i (o+k*1) (elem k)) (hp:∀ k,k < n->∀ M',Grow M M'->za Tryz.prog g (fi ++ [elem k] ++ ca) M' (fun w M''=>w=.bool (p k) /\ M''=M')) :
  za Tryz.prog 98 [.slice a n f e,.func (.func g) fi ca] M (fun w M'=>∃ r:Int,w=I r /\ (0<=r ↔(List.range n).any p=true) /\ M'=M):=by
 refine zd k98 rfl ?_
 dsimp only[x98,zM,zO,zI,zF,zS,zB,zL,zA,zE,zN,zW,zC,zipE,Nat.reduceAdd]
 repeat' first|with_reducible intro _|refine sv ?_|refine sc ?_ ?_<;>(intro h;try exact sz h)|refine sg ?_ ?_<;>(intro h;first|exact sz h|refine sy h ?_)|exact sq|fail
 refine z9 (fun m E ms M'=>∃ k:Nat,m=n - k /\ k<=n /\ ms=[] /\ Has E [(0,.slice a n f e),(1,.func (.func g) fi ca),(7,I n),(8,I k)] /\ M'=M /\ ∀ j,j < k->p j=false)
  ?_ n _ _ _ ⟨0,by omega,by omega,rfl,.cons rfl (.cons rfl (.cons rfl (.cons rfl .nil))),rfl,fun j hj=>absurd hj (Nat.not_lt_zero _)⟩
 rintro m E ms M1 ⟨k,rfl,hk,rfl,hE,rfl,hall⟩
 refine z0d hE ?_
 by_cases hlast:k=n
 ·subst hlast
  repeat' first|with_reducible intro _|refine sv ?_|refine sc ?_ ?_<;>(intro h;try exact sz h)|refine sg ?_ ?_<;>(intro h;first|exact sz h|refine sy h ?_)|exact sq|fail
  refine kf ?_
  refine⟨-1,rfl,?_,rfl⟩
  rw[za5]
  exact⟨fun h=>by omega,fun⟨j,h1,h2⟩=>by rw[hall j h1] at h2;cases h2⟩
 have hlt:k < n:=by omega
 obtain⟨i,o,rfl,hr⟩:=hread k hlt
 have hc:=hp k hlt M1 (Grow.refl _)
 cases hpk:p k with
 | true =>
  rw[hpk] at hc
  (have hrd0:=hr;repeat' (first|(with_reducible intro _)|refine sv ?_|(refine sc ?_ ?_<;>(intro h;try exact sz h))|((with_reducible first|apply z0r|apply z1b|apply d_same0);exact gd;exact rfl;exact rfl;(first|exact hc))|refine sg ?_ ?_<;>(intro h;first|exact sz h|refine sy h ?_)|exact sq|fail))
  refine kf ?_
  refine⟨k,rfl,?_,rfl⟩
  rw[za5]
  exact⟨fun _=>⟨k,hlt,hpk⟩,fun _=>by omega⟩
 | false =>
  rw[hpk] at hc
  (have hrd0:=hr;repeat' (first|(with_reducible intro _)|refine sv ?_|(refine sc ?_ ?_<;>(intro h;try exact sz h))|((with_reducible first|apply z0r|apply z1b|apply d_same0);exact gd;exact rfl;exact rfl;(first|exact hc))|refine sg ?_ ?_<;>(intro h;first|exact sz h|refine sy h ?_)|exact sq|fail))
  refine zj (n - (k+1)) (by omega) ⟨k+1,rfl,by omega,rfl,.cons rfl (.cons rfl (.cons rfl (.cons rfl .nil))),rfl,fun j hj=>?_⟩
  by_cases hjk:j=k
  ·subst hjk;exact hpk
  ·exact hall j (by omega)
theorem z8q{a:Option (Nat × Nat)}{n:Nat}{f:Bool}{e:Nat}{g:FuncId}{fi ca:List LV}{M:Mem}(elem:Nat->LV)(p:Nat->Bool)(hn:n<=1000000000000000)
  (hread:∀ k,k < n->∃ i o,a=some (i,o) /\ Rd1 M i (o+k*1) (elem k)) (hp:∀ k,k < n->∀ M',Grow M M'->za Tryz.prog g (fi ++ [elem k] ++ ca) M' (fun w M''=>w=.bool (p k) /\ M''=M')) :
  za Tryz.prog 45 [.slice a n f e,.func (.func g) fi ca] M (fun w M'=>w=.bool ((List.range n).any p) /\ M'=M):=by
 refine zd k45 rfl ?_
 dsimp only[x45,zM,zO,zI,zF,zS,zB,zL,zA,zE,zN,zW,zC,zipE,Nat.reduceAdd]
 have hc:=zcz (f:=f) (e:=e) elem p hn hread hp
 repeat' first|with_reducible intro _|refine sv ?_|refine sc ?_ ?_<;>(intro h;try exact sz h)|((with_reducible first|apply zq|apply z0b|apply x_call0);exact gd;exact rfl;exact rfl;(first|exact hc))|refine sg ?_ ?_<;>(intro h;first|exact sz h|refine sy h ?_)|exact sq|fail
 rename_i hq
 obtain⟨r,rfl,hr,rfl⟩:=hq
 repeat' first|with_reducible intro _|refine sv ?_|refine sc ?_ ?_<;>(intro h;try exact sz h)|refine sg ?_ ?_<;>(intro h;first|exact sz h|refine sy h ?_)|exact sq|fail
 refine kf ?_
 refine⟨?_,rfl⟩
 exact congrArg LV.bool (by rw[Bool.eq_iff_iff,decide_eq_true_iff];exact hr)
theorem zfa{a:Option (Nat × Nat)}{l:List Int}{f:Bool}{e:Nat}{g:FuncId}{fi ca:List LV}{M:Mem}(p:Int->Bool)(hn:l.length<=1000000000000000)(hs:SlI M a l)
  (hp:∀ n ∈ l,za Tryz.prog g (fi ++ [I n] ++ ca) M (fun w M''=>w=.bool (p n) /\ M''=M)) (hp':∀ n ∈ l,∀ M',Grow M M'->za Tryz.prog g (fi ++ [I n] ++ ca) M' (fun w M''=>w=.bool (p n) /\ M''=M')) :
  za Tryz.prog 45 [.slice a l.length f e,.func (.func g) fi ca] M (fun w M'=>w=.bool (l.any p) /\ M'=M):=by
 have:=z8q (f:=f) (e:=e) (g:=g) (fi:=fi) (ca:=ca) (M:=M) (a:=a) (n:=l.length) (fun k=>I (l.getD k 0)) (fun k=>p (l.getD k 0)) hn (fun k hk=>by
  obtain⟨i,o,h1,h2⟩:=hs.rd hk
  exact⟨i,o,h1,by rw[List.getD_eq_getElem?_getD,List.getElem?_eq_getElem hk];exact h2⟩) (fun k hk M' hg=>hp' _ (by rw[List.getD_eq_getElem?_getD,List.getElem?_eq_getElem hk];exact List.getElem_mem hk) M' hg)
 have e1:(List.range l.length).any (fun k=>p (l.getD k 0))=l.any p:=by
  rw[Bool.eq_iff_iff,za5,List.any_eq_true]
  constructor
  ·rintro⟨j,h1,h2⟩
   refine⟨l[j],List.getElem_mem h1,?_⟩
   rw[List.getD_eq_getElem?_getD,List.getElem?_eq_getElem h1] at h2;exact h2
  ·rintro⟨x,h1,h2⟩
   obtain⟨j,h3,rfl⟩:=List.getElem_of_mem h1
   exact⟨j,h3,by rw[List.getD_eq_getElem?_getD,List.getElem?_eq_getElem h3];exact h2⟩
 rw[e1] at this;exact this
theorem zmc{l:List Int}{p:Int->Bool}:l.any (fun n=>!p n)=!l.all p:=by
 induction l with
 | nil=>rfl
 | cons x xs ih=>simp only[List.any_cons,List.all_cons,ih];cases p x<;>simp
set_option maxHeartbeats 1000000 in
theorem z1l{M:Mem}{v:LV}{x:Fr}(hv:FrV M v x)(hin:FrIn x):za Tryz.prog 67 [v] M (fun w M'=>w=I (errF x) /\ Grow M M'):=by
 obtain⟨a,f,e,rfl,hs⟩:=hv
 refine zd k67 rfl ?_
 dsimp only[x67,zM,zO,zI,zF,zS,zB,zL,zA,zE,zN,zW,zC,zipE,Nat.reduceAdd]
 have hc:∀ M',Grow M M'->za Tryz.prog 45 [.slice a x.2.2.length f e,.func (.func 116) [] []] M' (fun w M''=>w=.bool (!x.2.2.all smB) /\ M''=M'):=fun M' hg=>by
  have:=zfa (f:=f) (e:=e) (g:=116) (fi:=[]) (ca:=[]) (M:=M') (fun n=>!smB n) hin.2.2.1 (hs.grow hg) (fun n _=>z5d n M') (fun n _ M2 _=>z5d n M2)
  rw[zmc] at this;exact this
 repeat' first|with_reducible intro _|refine sv ?_|refine sc ?_ ?_<;>(intro h;try exact sz h)|((with_reducible first|apply z0r|apply z1b|apply d_same0);exact gd;exact rfl;exact rfl;(first|exact zac _ _ _ _|exact hc _ (xg)))|refine sg ?_ ?_<;>(intro h;first|exact sz h|refine sy h ?_)|exact sq|fail
 all_goals ((refine kf ?_);refine⟨?_,xg⟩;simp_all [packed,errF,frB,smsB])
theorem zor{M:Mem}{a:Option (Nat × Nat)}{l:List Int}{f:Bool}{e k:Nat}(hs:SlI M a l):za Tryz.prog 135 [.slice a l.length f e,I k] M (fun w M'=>w=I (getG l k) /\ M'=M):=by
 refine zd k135 rfl ?_
 dsimp only[x135,zM,zO,zI,zF,zS,zB,zL,zE,zN,zW,zC,zipE,Nat.reduceAdd]
 by_cases hk:k < l.length
 ·obtain⟨i,o,rfl,hr⟩:=hs.rd hk
  rw[z4x hk]
  (have hrd0:=hr;repeat' (first|(with_reducible intro _)|refine sv ?_|(refine sc ?_ ?_<;>(intro h;try exact sz h))|refine sg ?_ ?_<;>(intro h;first|exact sz h|refine sy h ?_)|exact sq|fail))
  refine kf ?_
  exact⟨rfl,rfl⟩
 ·rw[z7u (by omega)]
  repeat' first|with_reducible intro _|refine sv ?_|refine sc ?_ ?_<;>(intro h;try exact sz h)|refine sg ?_ ?_<;>(intro h;first|exact sz h|refine sy h ?_)|exact sq|fail
  refine kf ?_
  exact⟨rfl,rfl⟩
theorem zjg{M:Mem}(a b:Int):za Tryz.prog 136 [I a,I b,I 40000,I 40001] M (fun w M'=>w=I (joinI a b) /\ M'=M):=by
 refine zd k136 rfl ?_
 dsimp only[x136,zM,zO,zI,zF,zS,zB,zL,zE,zN,zW,zC,zipE,Nat.reduceAdd]
 repeat' first|with_reducible intro _|refine sv ?_|refine sc ?_ ?_<;>(intro h;try exact sz h)|refine sg ?_ ?_<;>(intro h;first|exact sz h|refine sy h ?_)|exact sq|fail
 all_goals ((refine kf ?_);refine⟨?_,rfl⟩;simp_all [packed,joinI])
set_option maxHeartbeats 2000000 in
theorem zli{M:Mem}{a b:Option (Nat × Nat)}{la lb:List Int}{fa fb:Bool}{ea eb:Nat}(ha:SlI M a la)(hb:SlI M b lb)(hla:la.length<=1000000)(hlb:lb.length<=1000000) :
  za Tryz.prog 102 [.slice a la.length fa ea,.slice b lb.length fb eb] M (fun w M'=>Vec M.next 1 3 intc M' w (z0o la lb) /\ Grow M M'):=by
 refine zd k102 rfl ?_
 dsimp only[x102,zM,zO,zI,zF,zS,zB,zL,zA,zE,zN,zW,zC,zipE,Nat.reduceAdd]
 repeat' first|with_reducible intro _|refine sv ?_|refine sc ?_ ?_<;>(intro h;try exact sz h)|refine sg ?_ ?_<;>(intro h;first|exact sz h|refine sy h ?_)|exact sq|fail
 have hN:iMax (la.length:Int) (lb.length:Int)=((max la.length lb.length:Nat):Int):=zjz _ _
 generalize hNN:max la.length lb.length=N at hN
 have hlen:(z0o la lb).length=N:=by rw[z1e,hNN]
 refine z9 (fun m E ms M'=>∃(k:Nat) (v:LV),m=N - k /\ k<=N /\ ms=[] /\ Has E [(0,.slice a la.length fa ea),(1,.slice b lb.length fb eb),(5,.func (.func 135) [] []),(6,v),(12,I N),(13,I k)] /\ Vec M.next 1 3 intc M' v ((z0o la lb).take k) /\ Grow M M' /\ M.next<=M'.next)
  ?_ N _ _ _ ⟨0,_,by omega,by omega,rfl,.cons rfl (.cons rfl (.cons rfl (.cons rfl (.cons (by rw[<-hN];rfl) (.cons rfl .nil))))),by rw[List.take_zero];exact Vec.nil,xg,Nat.le_refl _⟩
 rintro n E ms M' ⟨k,v,rfl,hk,rfl,hE,hv,hg,hle⟩
 refine z0d hE ?_
 by_cases hlast:k=N
 ·subst hlast
  repeat' first|with_reducible intro _|refine sv ?_|refine sc ?_ ?_<;>(intro h;try exact sz h)|refine sg ?_ ?_<;>(intro h;first|exact sz h|refine sy h ?_)|exact sq|fail
  refine kf ?_
  rw[List.take_of_length_le (by omega)] at hv
  exact⟨hv,hg⟩
 ·have hlt:k < N:=by omega
  have ha':=ha.grow hg
  have hb':=hb.grow hg
  repeat' first|with_reducible intro _|refine sv ?_|refine sc ?_ ?_<;>(intro h;try exact sz h)|((with_reducible first|apply z0r|apply z1b|apply d_same0);exact gd;exact rfl;exact rfl;(first|exact zor ha' | exact zor hb' | exact zjg _ _))|refine sg ?_ ?_<;>(intro h;first|exact sz h|refine sy h ?_)|exact sq|fail
  rename_i m M2 hn e1 e2
  have hv2:=hv.grow hn.grow
  have htl:((z0o la lb).take k).length=k:=by rw[List.length_take];omega
  refine z39 (by exact gd) (l':=[joinI (getG la k) (getG lb k)]) hv2 rfl rfl rfl (by simp) (by rw[htl,List.length_singleton];omega) rfl (z45 hn) (fun _=>rfl) (fun _=>rfl) (by omega) ?_
  intro v' M3 hv3 e3 hk3
  have hg3:Grow M M3:=Keep.to_grow' (hg.trans hn.grow) hk3 (fun i hi=>hi.1)
  repeat' first|with_reducible intro _|refine sv ?_|refine sc ?_ ?_<;>(intro h;try exact sz h)|refine sg ?_ ?_<;>(intro h;first|exact sz h|refine sy h ?_)|exact sq|fail
  refine zj (N - (k+1)) (by omega) ⟨k+1,v',rfl,by omega,rfl,.cons rfl (.cons rfl (.cons rfl (.cons rfl (.cons rfl (.cons rfl .nil))))),?_,hg3,by omega⟩
  rw[zf6 (by omega)];exact hv3
theorem zd4{M:Mem}{v:LV}{x:Fr}(hv:FrV M v x):za Tryz.prog 69 [v] M (fun w M'=>w=.agg [I x.1,I x.2.1] /\ Grow M M'):=by
 obtain⟨a,f,e,rfl,hs⟩:=hv
 refine zd k69 rfl ?_
 dsimp only[x69,zM,zO,zI,zF,zS,zB,zL,zA,zE,zN,zW,zC,zipE,Nat.reduceAdd]
 repeat' first|with_reducible intro _|refine sv ?_|refine sc ?_ ?_<;>(intro h;try exact sz h)|refine sg ?_ ?_<;>(intro h;first|exact sz h|refine sy h ?_)|exact sq|fail
 refine kf ?_
 exact⟨rfl,xg⟩
theorem zb5{E:Env}{M:Mem}{x:XO}{i:Nat}{own:Bool}{p q:LV}{ty:TypeId}(hx:xval E x=some (.ptr (some (i,0))))(hm:At M i (.cells own [p,q] ty)):ze Tryz.prog (.slA 2 1 x none none none) E M=some (.val (.slice (some (i,0)) 2 true 1) M):=by
 show ob (xval E x) _=_
 rw[hx,z0]
 show guard' true (atCells M i _)=_
 rw[z6]
 unfold atCells
 rw[hm.1]
 rfl
theorem zoq(a b:Int)(M:Mem):za Tryz.prog 146 [I a,I b] M (fun w M'=>w=I (cmpI8 a b) /\ M'=M):=by
 have cn:∀ n M,za Tryz.prog 171 [I n] M (fun w M'=>w=.bool false /\ M'=M):=fun n M=>by
  refine zd k171 rfl ?_
  dsimp only[x171,zM,zO,zI,zF,zS,zB,zL,zE,zN,zW,zC,zipE,Nat.reduceAdd]
  repeat' first|with_reducible intro _|refine sv ?_|refine sc ?_ ?_<;>(intro h;try exact sz h)|refine sg ?_ ?_<;>(intro h;first|exact sz h|refine sy h ?_)|exact sq|fail
  refine kf ?_
  refine⟨?_,rfl⟩
  show LV.bool _=LV.bool _
  simp
 refine zd k146 rfl ?_
 dsimp only[x146,zM,zO,zI,zF,zS,zB,zL,zE,zN,zW,zC,zipE,Nat.reduceAdd]
 unfold cmpI8
 repeat' first|with_reducible intro _|refine sv ?_|refine sc ?_ ?_<;>(intro h;try exact sz h)|((with_reducible first|apply z0r|apply z1b|apply d_same0);exact gd;exact rfl;exact rfl;(first|exact cn _ _))|refine sg ?_ ?_<;>(intro h;first|exact sz h|refine sy h ?_)|exact sq|fail
 ·refine kf ?_
  rw[if_pos (by omega)]
  exact⟨rfl,rfl⟩
 ·refine kf ?_
  rw[if_neg (by omega),if_pos (by omega)]
  exact⟨rfl,rfl⟩
 ·refine kf ?_
  rw[if_neg (by omega),if_neg (by omega)]
  exact⟨rfl,rfl⟩
set_option maxHeartbeats 4000000 in
theorem zgn{M:Mem}{i j:Nat}{a1 a2 b1 b2:Int}{t u:TypeId}{f g:Bool}(ha:At M i (.cells true [I a1,I a2] t))(hb:At M j (.cells true [I b1,I b2] u)) :
  za Tryz.prog 118 [.slice (some (i,0)) 2 f 1,.slice (some (j,0)) 2 g 1] M (fun w M'=>w=I (cmpK (a1,a2) (b1,b2)) /\ M'=M):=by
 refine zd k118 rfl ?_
 dsimp only[x118,zM,zO,zI,zF,zS,zB,zL,zA,zE,zN,zW,zC,zipE,Nat.reduceAdd]
 have r0:Rd1 M i (0+0*1) (I a1):=Rd1.of_at ha rfl
 have r1:Rd1 M i (0+1*1) (I a2):=Rd1.of_at ha rfl
 have s0:Rd1 M j (0+0*1) (I b1):=Rd1.of_at hb rfl
 have s1:Rd1 M j (0+1*1) (I b2):=Rd1.of_at hb rfl
 have hA:cmpI8 a1 b1 ≠ 0->cmpK (a1,a2) (b1,b2)=cmpI8 a1 b1:=fun h=>by unfold cmpK;rw[if_pos h]
 have hB:cmpI8 a1 b1=0->cmpK (a1,a2) (b1,b2)=cmpI8 a2 b2:=fun h=>by unfold cmpK;rw[if_neg (by dsimp only;omega)]
 have cA:=zoq a1 b1
 have cB:=zoq a2 b2
 generalize cmpI8 a1 b1=A at *
 generalize cmpI8 a2 b2=B at *
 generalize cmpK (a1,a2) (b1,b2)=C at *
 repeat' first|with_reducible intro _|refine sv ?_|refine sc ?_ ?_<;>(intro h;try exact sz h)|refine sg ?_ ?_<;>(intro h;first|exact sz h|refine sy h ?_)|exact sq|fail
 refine z9 (fun z E ms M'=>∃ k:Nat,z=2 - k /\ k<=2 /\ ms=[] /\ Has E [(0,.slice (some (i,0)) 2 f 1),(1,.slice (some (j,0)) 2 g 1),(9,.slice (some (i,0)) 2 f 1),(10,I 2),(11,I k)] /\ M'=M /\ (1<=k->A=0) /\ (2<=k->B=0))
  ?_ 2 _ _ _ ⟨0,rfl,by omega,rfl,.cons rfl (.cons rfl (.cons rfl (.cons rfl (.cons rfl .nil)))),rfl,fun h=>by omega,fun h=>by omega⟩
 rintro z E ms M1 ⟨k,rfl,hk,rfl,hE,rfl,h1,h2⟩
 refine z0d hE ?_
 match k,hk with
 | 0,_ =>
  (have hrd0:=r0;have hrd1:=s0;repeat' (first|(with_reducible intro _)|refine sv ?_|(refine sc ?_ ?_<;>(intro h;try exact sz h))|((with_reducible first|apply z0r|apply z1b|apply d_same0);exact gd;exact rfl;exact rfl;(first|exact cA _))|refine sg ?_ ?_<;>(intro h;first|exact sz h|refine sy h ?_)|exact sq|fail))
  ·refine kf ?_
   rw[hA (by omega)]
   exact⟨rfl,rfl⟩
  ·exact zj 1 (by omega) ⟨1,rfl,by omega,rfl,.cons rfl (.cons rfl (.cons rfl (.cons rfl (.cons rfl .nil)))),rfl,fun _=>by omega,fun h=>by omega⟩
 | 1,_ =>
  have h1:=h1 (Nat.le_refl _)
  (have hrd0:=r1;have hrd1:=s1;repeat' (first|(with_reducible intro _)|refine sv ?_|(refine sc ?_ ?_<;>(intro h;try exact sz h))|((with_reducible first|apply z0r|apply z1b|apply d_same0);exact gd;exact rfl;exact rfl;(first|exact cB _))|refine sg ?_ ?_<;>(intro h;first|exact sz h|refine sy h ?_)|exact sq|fail))
  ·refine kf ?_
   rw[hB h1]
   exact⟨rfl,rfl⟩
  ·exact zj 0 (by omega) ⟨2,rfl,by omega,rfl,.cons rfl (.cons rfl (.cons rfl (.cons rfl (.cons rfl .nil)))),rfl,fun _=>h1,fun _=>by omega⟩
 | 2,_ =>
  have h1:=h1 (by omega)
  have h2:=h2 (by omega)
  repeat' first|with_reducible intro _|refine sv ?_|refine sc ?_ ?_<;>(intro h;try exact sz h)|refine sg ?_ ?_<;>(intro h;first|exact sz h|refine sy h ?_)|exact sq|fail
  refine kf ?_
  rw[hB h1,h2]
  exact⟨rfl,rfl⟩
theorem z1o(a1 a2 b1 b2:Int)(M:Mem):za Tryz.prog 68 [.agg [I a1,I a2],.agg [I b1,I b2]] M (fun w M'=>w=I (cmpK (a1,a2) (b1,b2)) /\ Grow M M'):=by
 refine zd k68 rfl ?_
 dsimp only[x68,zM,zO,zI,zF,zS,zB,zL,zA,zE,zN,zW,zC,zipE,Nat.reduceAdd]
 repeat' first|with_reducible intro _|refine sv ?_|refine sc ?_ ?_<;>(intro h;try exact sz h)|refine sg ?_ ?_<;>(intro h;first|exact sz h|refine sy h ?_)|exact sq|fail
 rename_i m1 M1 hN1 q1 q2 m2 M2 hN2 q3 q4
 have h1:At M2 m1 (.cells true [I a1,I a2] 114):=xm
 have h2:At M2 m2 (.cells true [I b1,I b2] 114):=xm
 refine z54 (by exact gd) (zb5 rfl h1) (fun m=>At m m1 (.cells true [I a1,I a2] 114)) (fun m hm=>zb5 rfl hm) ?_
 refine z54 (by exact gd) (zb5 rfl h2) (fun m=>At m m2 (.cells true [I b1,I b2] 114)) (fun m hm=>zb5 rfl hm) ?_
 repeat' first|with_reducible intro _|refine sv ?_|refine sc ?_ ?_<;>(intro h;try exact sz h)|((with_reducible first|apply z0r|apply z1b|apply d_same0);exact gd;exact rfl;exact rfl;(first|exact zgn h1 h2))|refine sg ?_ ?_<;>(intro h;first|exact sz h|refine sy h ?_)|exact sq|fail
 refine kf ?_
 exact⟨rfl,xg⟩
theorem wrap8m{a:Int}:IntKind.wrap .u8 a=a % 256:=by
 unfold IntKind.wrap
 simp[IntKind.signed,IntKind.bits]
theorem z7a{n:Nat}(h:n < 256):byteL (u8 n)=LV.int .u8 (n:Int):=by
 show LV.int .u8 (((u8 n).toNat:Nat):Int)=_
 rw[u8_n h]
theorem zdz{n:Nat}(h:n < 256):[LV.int .u8 (n:Int)]=zp [u8 n]:=by
 show _=[byteL (u8 n)]
 rw[z7a h]
theorem zp0(n:Nat)(hn:n<=65535)(M:Mem):za Tryz.prog 79 [I n] M (MkAt (fun p=>.slice (some (p,0)) 2 true 1) (.cells true (zp (twoL n)) 5) M):=by
 refine zd k79 rfl ?_
 dsimp only[x79,zM,zO,zI,zF,zS,zB,zL,zA,zE,zN,zW,zC,zipE,Nat.reduceAdd]
 have hs:shrZ (n:Int) 8=((n / 256:Nat):Int):=by unfold shrZ;show(n:Int) / ((2 ^ 8:Nat):Int)=_;omega
 have h2:(n:Int) % 256=((n % 256:Nat):Int):=by omega
 have hb:zp (twoL n)=[.int .u8 ((n / 256:Nat):Int),.int .u8 ((n % 256:Nat):Int)]:=by
  show [byteL (u8 (n / 256)),byteL (u8 (n % 256))]=_
  rw[z7a (by omega),z7a (by omega)]
 repeat' first|with_reducible intro _|refine sv ?_|refine sc ?_ ?_<;>(intro h;try exact sz h)|refine sg ?_ ?_<;>(intro h;first|exact sz h|refine sy h ?_)|exact sq|fail
 rename_i m M1 hN q1 q2
 rw[hs,wrap8m,h2,<- hb] at hN
 refine kf ?_
 exact⟨m,rfl,At.new_same hN,by omega,by omega,hN.grow⟩
def PlainR{α:Type}(f:α->LV)(x:α)(v:List LV)(U:Nat->Prop)(_:Mem):Prop:=v=[f x] /\ ∀ i,¬ U i
def cdItems(l:List Int)(k:Nat):List Int:=(List.range k).map (cdA l)
theorem z5e(l:List Int)(k:Nat):cdItems l (k+1)=cdItems l k ++ [cdA l k]:=by unfold cdItems;rw[List.range_succ,List.map_append];rfl
theorem zae{l:List Int}{n k:Nat}(hk:k < n):cdItems l n=cdItems l k ++ cdA l k ::(cdItems l n).drop (k+1):=by
 have h:=List.take_append_drop k (cdItems l n)
 have h1:(cdItems l n).take k=cdItems l k:=by unfold cdItems;rw[<-List.map_take,List.take_range,Nat.min_eq_left (by omega)]
 have h2:(cdItems l n).drop k=cdA l k ::(cdItems l n).drop (k+1):=by
  rw[List.drop_eq_getElem_cons (by unfold cdItems;simpa using hk)]
  congr 1
  unfold cdItems
  simp
 rw[h1,h2] at h
 exact h.symm
theorem zmo{a:Option (Nat × Nat)}{n:Nat}{f:Bool}{e:Nat}(M:Mem):za Tryz.prog 128 [.slice a n f e] M (MkAt (fun p=>.func (.func 153) [] [.ptr (some (p,0))]) (.cells true [.slice a n f e] 27) M):=by
 refine zd k128 rfl ?_
 dsimp only[x128,zM,zO,zI,zF,zS,zB,zL,zE,zN,zW,zC,zipE,Nat.reduceAdd]
 repeat' first|with_reducible intro _|refine sv ?_|refine sc ?_ ?_<;>(intro h;try exact sz h)|refine sg ?_ ?_<;>(intro h;first|exact sz h|refine sy h ?_)|exact sq|fail
 rename_i m M1 hN q1 q2
 refine kf ?_
 exact⟨m,rfl,At.new_same hN,by omega,by omega,hN.grow⟩
set_option maxHeartbeats 8000000 in
theorem zod{M0:Mem}{p:Nat}{a:Option (Nat × Nat)}{l:List Int}{f:Bool}{e:Nat}(hp:At M0 p (.cells true [.slice a l.length f e] 27))(hs:SlI M0 a l)(hl:l.length<=64)(hsm:l.all smB=true) :
  YieldsS Tryz.prog 153 [] [.ptr (some (p,0))] (fun i=>i=p ∨ ∃ o,a=some (i,o)) (fun _=>False) (fun _=>True) (cdItems l l.length) (PlainR fun n=>I n) M0:=by
 intro ly AA II DD tk hS hI0
 have hAp:¬ AA p:=hS _ (.inl rfl)
 refine zd k153 rfl ?_
 dsimp only[x153,zM,zO,zI,zF,zS,zB,zL,zE,zN,zW,zC,zipE,Nat.reduceAdd,List.nil_append,List.cons_append]
 repeat' first|with_reducible intro _|refine sv ?_|refine sc ?_ ?_<;>(intro h;try exact sz h)|refine sg ?_ ?_<;>(intro h;first|exact sz h|refine sy h ?_)|exact sq|fail
 refine z9 (fun z E ms M'=>∃(k:Nat) (T:Nat->Prop),z=l.length - k /\ k<=l.length /\ ms=[] /\ Has E [(0,.func (.yield ly) [] []),(3,I (lsA l k)),(8,.slice a l.length f e),(9,I l.length),(10,I k)] /\ Keep AA M0 M' /\ (∀ j,T j->M0.next<=j /\ j < M'.next) /\ II (cdItems l k) T M') ?_ l.length _ _ _
  ⟨0,fun _=>False,by omega,by omega,rfl,.cons rfl (.cons rfl (.cons rfl (.cons rfl (.cons rfl .nil)))),Keep.refl _ _,fun j hj=>hj.elim,hI0⟩
 rintro z E ms M1 ⟨k,T1,rfl,hk,rfl,hE,hk1,hT1,hI1⟩
 refine z0d hE ?_
 by_cases hlast:k=l.length
 ·subst hlast
  repeat' first|with_reducible intro _|refine sv ?_|refine sc ?_ ?_<;>(intro h;try exact sz h)|refine sg ?_ ?_<;>(intro h;first|exact sz h|refine sy h ?_)|exact sq|fail
  refine kf ?_
  exact⟨hk1.weaken (fun j hj=>.inl hj),trivial,T1,hT1,.inl hI1⟩
 have hlt:k < l.length:=by omega
 obtain⟨i,o,rfl,hr⟩:=hs.rd hlt
 rw[<-z4x hlt] at hr
 have hAi:¬ AA i:=hS _ (.inr ⟨o,rfl⟩)
 have hr1:=hr.keep hk1 hAi
 have hle:=hk1.le
 have hb:=zhv l k
 have hcd:=ze1 l k
 have hstep:RoundOk Tryz.prog ly [I (cdA l k)] M1 fun w M'=>Keep (fun i=>AA i ∨ T1 i ∨ False) M1 M' /\ ∃ T':Nat->Prop,(∀ i,T' i->(T1 i ∨ False ∨ M1.next<=i) /\ i < M'.next) /\ ((w=.bool true /\ II (cdItems l k ++ [cdA l k]) T' M') ∨(w=.bool false /\ DD T' M')) :=
  tk.step (cdItems l k) (cdA l k) ((cdItems l l.length).drop (k+1)) [I (cdA l k)] (fun _=>False) T1 M1 (zae hlt) ⟨rfl,fun _=>id⟩ hle hT1 (fun _ h=>h.elim) hI1
 have hsi:smB (getG l k)=true:=by
  rw[List.all_eq_true] at hsm
  rw[z4x hlt]
  exact hsm _ (List.getElem_mem hlt)
 have hcA:cdA l k=(cdS (getG l k) (lsA l k)).1:=rfl
 have hlA:lsA l (k+1)=(cdS (getG l k) (lsA l k)).2:=rfl
 generalize hv:getG l k=v at *
 generalize hla:lsA l k=la at *
 generalize hcc:cdA l k=cc at *
 unfold cdS at hcA hlA
 by_cases h1:v=40001
 ·rw[if_pos h1] at hcA hlA
  dsimp only at hcA hlA
  subst hcA
  (have hrd0:=hr1;repeat' (first|(with_reducible intro _)|refine sv ?_|(refine sc ?_ ?_<;>(intro h;try exact sz h))|refine sg ?_ ?_<;>(intro h;first|exact sz h|refine sy h ?_)|exact sq|fail))
  refine zq (by exact gd) rfl rfl (show AppOk Tryz.prog _ _ M1 _ from hstep) ?_
  rintro w M2 ⟨hk2,T2,hT2,hw⟩
  have hk02:Keep AA M0 M2:=hk1.trans hk2 (fun i hi=>hi.elim .inl (fun h=>h.elim (fun h=>.inr (hT1 i h).1) False.elim))
  have hT02:∀ j,T2 j->M0.next<=j /\ j < M2.next:=fun j hj=>⟨(hT2 j hj).1.elim (fun h=>(hT1 j h).1) (fun h=>h.elim False.elim (fun h=>by omega)),(hT2 j hj).2⟩
  rcases hw with⟨rfl,hI2⟩|⟨rfl,hD2⟩
  ·repeat' first|with_reducible intro _|refine sv ?_|refine sc ?_ ?_<;>(intro h;try exact sz h)|refine sg ?_ ?_<;>(intro h;first|exact sz h|refine sy h ?_)|exact sq|fail
   exact zj (l.length - (k+1)) (by omega) ⟨k+1,T2,rfl,by omega,rfl,.cons rfl (.cons (by rw[hlA];rfl) (.cons rfl (.cons rfl (.cons rfl .nil)))),hk02,hT02,by rw[z5e,hcc];exact hI2⟩
  ·repeat' first|with_reducible intro _|refine sv ?_|refine sc ?_ ?_<;>(intro h;try exact sz h)|refine sg ?_ ?_<;>(intro h;first|exact sz h|refine sy h ?_)|exact sq|fail
   refine kf ?_
   exact⟨hk02.weaken (fun j hj=>.inl hj),trivial,T2,hT02,.inr hD2⟩
 ·rw[if_neg h1] at hcA hlA
  cases hkn:knB v with
  | false =>
   rw[hkn,if_neg (by decide)] at hcA hlA
   dsimp only at hcA hlA
   subst hcA
   have hc:∀ M,za Tryz.prog 47 [I v] M (fun w M'=>w=.bool false /\ M'=M):=fun M=>by rw[<-hkn];exact z7d _ M
   (have hrd0:=hr1;repeat' (first|(with_reducible intro _)|refine sv ?_|(refine sc ?_ ?_<;>(intro h;try exact sz h))|((with_reducible first|apply z0r|apply z1b|apply d_same0);exact gd;exact rfl;exact rfl;(first|exact hc _))|refine sg ?_ ?_<;>(intro h;first|exact sz h|refine sy h ?_)|exact sq|fail))
   refine zq (by exact gd) rfl rfl (show AppOk Tryz.prog _ _ M1 _ from hstep) ?_
   rintro w M2 ⟨hk2,T2,hT2,hw⟩
   have hk02:Keep AA M0 M2:=hk1.trans hk2 (fun i hi=>hi.elim .inl (fun h=>h.elim (fun h=>.inr (hT1 i h).1) False.elim))
   have hT02:∀ j,T2 j->M0.next<=j /\ j < M2.next:=fun j hj=>⟨(hT2 j hj).1.elim (fun h=>(hT1 j h).1) (fun h=>h.elim False.elim (fun h=>by omega)),(hT2 j hj).2⟩
   rcases hw with⟨rfl,hI2⟩|⟨rfl,hD2⟩
   ·repeat' first|with_reducible intro _|refine sv ?_|refine sc ?_ ?_<;>(intro h;try exact sz h)|refine sg ?_ ?_<;>(intro h;first|exact sz h|refine sy h ?_)|exact sq|fail
    exact zj (l.length - (k+1)) (by omega) ⟨k+1,T2,rfl,by omega,rfl,.cons rfl (.cons (by rw[hlA];rfl) (.cons rfl (.cons rfl (.cons rfl .nil)))),hk02,hT02,by rw[z5e,hcc];exact hI2⟩
   ·repeat' first|with_reducible intro _|refine sv ?_|refine sc ?_ ?_<;>(intro h;try exact sz h)|refine sg ?_ ?_<;>(intro h;first|exact sz h|refine sy h ?_)|exact sq|fail
    refine kf ?_
    exact⟨hk02.weaken (fun j hj=>.inl hj),trivial,T2,hT02,.inr hD2⟩
  | true =>
   rw[hkn,if_pos rfl] at hcA hlA
   dsimp only at hcA hlA
   have hvb:-32767<=v /\ v<=32767:=of_decide_eq_true hkn
   have hc:∀ M,za Tryz.prog 47 [I v] M (fun w M'=>w=.bool true /\ M'=M):=fun M=>by rw[<-hkn];exact z7d _ M
   by_cases h2:v - la < 0
   ·rw[if_pos h2] at hcA
    subst hcA
    (have hrd0:=hr1;repeat' (first|(with_reducible intro _)|refine sv ?_|(refine sc ?_ ?_<;>(intro h;try exact sz h))|((with_reducible first|apply z0r|apply z1b|apply d_same0);exact gd;exact rfl;exact rfl;(first|exact hc _))|refine sg ?_ ?_<;>(intro h;first|exact sz h|refine sy h ?_)|exact sq|fail))
    all_goals try(exfalso;omega)
    refine zq (by exact gd) rfl rfl (show AppOk Tryz.prog _ _ M1 _ from hstep) ?_
    rintro w M2 ⟨hk2,T2,hT2,hw⟩
    have hk02:Keep AA M0 M2:=hk1.trans hk2 (fun i hi=>hi.elim .inl (fun h=>h.elim (fun h=>.inr (hT1 i h).1) False.elim))
    have hT02:∀ j,T2 j->M0.next<=j /\ j < M2.next:=fun j hj=>⟨(hT2 j hj).1.elim (fun h=>(hT1 j h).1) (fun h=>h.elim False.elim (fun h=>by omega)),(hT2 j hj).2⟩
    rcases hw with⟨rfl,hI2⟩|⟨rfl,hD2⟩
    ·repeat' first|with_reducible intro _|refine sv ?_|refine sc ?_ ?_<;>(intro h;try exact sz h)|refine sg ?_ ?_<;>(intro h;first|exact sz h|refine sy h ?_)|exact sq|fail
     exact zj (l.length - (k+1)) (by omega) ⟨k+1,T2,rfl,by omega,rfl,.cons rfl (.cons (by rw[hlA];rfl) (.cons rfl (.cons rfl (.cons rfl .nil)))),hk02,hT02,by rw[z5e,hcc];exact hI2⟩
    ·repeat' first|with_reducible intro _|refine sv ?_|refine sc ?_ ?_<;>(intro h;try exact sz h)|refine sg ?_ ?_<;>(intro h;first|exact sz h|refine sy h ?_)|exact sq|fail
     refine kf ?_
     exact⟨hk02.weaken (fun j hj=>.inl hj),trivial,T2,hT02,.inr hD2⟩
   ·rw[if_neg h2] at hcA
    subst hcA
    (have hrd0:=hr1;repeat' (first|(with_reducible intro _)|refine sv ?_|(refine sc ?_ ?_<;>(intro h;try exact sz h))|((with_reducible first|apply z0r|apply z1b|apply d_same0);exact gd;exact rfl;exact rfl;(first|exact hc _))|refine sg ?_ ?_<;>(intro h;first|exact sz h|refine sy h ?_)|exact sq|fail))
    all_goals try(exfalso;omega)
    refine zq (by exact gd) rfl rfl (show AppOk Tryz.prog _ _ M1 _ from hstep) ?_
    rintro w M2 ⟨hk2,T2,hT2,hw⟩
    have hk02:Keep AA M0 M2:=hk1.trans hk2 (fun i hi=>hi.elim .inl (fun h=>h.elim (fun h=>.inr (hT1 i h).1) False.elim))
    have hT02:∀ j,T2 j->M0.next<=j /\ j < M2.next:=fun j hj=>⟨(hT2 j hj).1.elim (fun h=>(hT1 j h).1) (fun h=>h.elim False.elim (fun h=>by omega)),(hT2 j hj).2⟩
    rcases hw with⟨rfl,hI2⟩|⟨rfl,hD2⟩
    ·repeat' first|with_reducible intro _|refine sv ?_|refine sc ?_ ?_<;>(intro h;try exact sz h)|refine sg ?_ ?_<;>(intro h;first|exact sz h|refine sy h ?_)|exact sq|fail
     exact zj (l.length - (k+1)) (by omega) ⟨k+1,T2,rfl,by omega,rfl,.cons rfl (.cons (by rw[hlA];rfl) (.cons rfl (.cons rfl (.cons rfl .nil)))),hk02,hT02,by rw[z5e,hcc];exact hI2⟩
    ·repeat' first|with_reducible intro _|refine sv ?_|refine sc ?_ ?_<;>(intro h;try exact sz h)|refine sg ?_ ?_<;>(intro h;first|exact sz h|refine sy h ?_)|exact sq|fail
     refine kf ?_
     exact⟨hk02.weaken (fun j hj=>.inl hj),trivial,T2,hT02,.inr hD2⟩
end Go.Proofs.YtbfnnllgdioccaaGreatDoor.C
end
section
open Go PvL Go.Proofs
set_option linter.unusedSimpArgs false
set_option linter.unusedVariables false
variable {μ:Md}
namespace Go.Proofs.YtbfnnllgdioccaaGreatDoor.C
abbrev u8c(b:UInt8):List LV:=[byteL b]
theorem z1h:∀ l:List UInt8,zp l=l.flatMap u8c
 | []=>rfl
 | b :: l=>by show byteL b :: zp l=[byteL b] ++ l.flatMap u8c;rw[z1h l];rfl
theorem z56(l:List UInt8):zc (zp l)=true:=by rw[z1h];exact z2c (fun _ _=>rfl)
theorem z1r{M:Mem}{p:Nat}{own:Bool}{l:List UInt8}{ty:TypeId}{f:Bool}(h:At M p (.cells own (zp l) ty)):z0e 1 l.length (.slice (some (p,0)) l.length f 1) M=some (zp l):=by
 rw[z1h] at h ⊢
 exact z3v (enc:=u8c) (fun _ _=>rfl) (fun k hk=>z2x (enc:=u8c) h (fun _ _=>rfl) hk)
theorem zkh{M:Mem}{p:Nat}{own:Bool}{l:List UInt8}{ty:TypeId}(h:At M p (.cells own (zp l) ty)):Rd M p 0 l.length (zp l):=by
 refine Rd.of_at h ?_
 show take' l.length (zp l)=_
 have:∀ l:List UInt8,take' l.length (zp l)=some (zp l):=fun l=>by
  induction l with
  | nil=>rfl
  | cons b l ih =>
   show ob (take' l.length (zp l)) _=_
   rw[ih];rfl
 exact this l
def ApB(b:Nat)(M:Mem)(v:LV)(l:List UInt8):Prop:=∃ f ty,v=.slice (some (b,0)) l.length f 1 /\ At M b (.cells true (zp l) ty) /\ (f=true ∨ ty=apE 5)
theorem ApB.lt{b:Nat}{M:Mem}{v:LV}{l:List UInt8}(h:ApB b M v l):b < M.next:=by
 obtain⟨f,ty,_,h2,_⟩:=h
 exact h2.2
theorem ApB.grow{b:Nat}{M M':Mem}{v:LV}{l:List UInt8}(h:ApB b M v l)(hg:Grow M M'):ApB b M' v l:=by
 obtain⟨f,ty,h1,h2,h3⟩:=h
 exact⟨f,ty,h1,h2.grow hg,h3⟩
theorem ApB.same{b:Nat}{M M':Mem}{v:LV}{l:List UInt8}(h:ApB b M v l)(hle:M.next<=M'.next)(hg:M'.get b=M.get b):ApB b M' v l:=by
 obtain⟨f,ty,h1,h2,h3⟩:=h
 exact⟨f,ty,h1,h2.same hle hg,h3⟩
theorem ApB.bstr{b:Nat}{M:Mem}{v:LV}{l:List UInt8}(h:ApB b M v l){E:Env}{x:XO}(hx:xval E x=some v):ze Tryz.prog (.bstr x) E M=some (.val (.str (strL l)) M):=by
 obtain⟨f,ty,rfl,h2,h3⟩:=h
 exact zo1 hx (zkh h2)
section
variable {P:Program} [Orc P] {sz:Nat} {E:Env} {M:Mem} {K:Env->Mem->Prop} {ll:List XG} {d:Nat} {g:Option (Nat × Bool)} {sx0 x:XO} {b:Nat} {v:LV} {l l':List UInt8} {z:List LV} {xv:LV} {st:List Mem} {k:Nat} {xs:List (Nat × Nat × (Mem->Prop))} {ld:List (XG × XK)}
theorem ApB.app(hv:ApB b M v l)(hs:xval E sx0=some v)(hx:xval E x=some xv)(hn:z15 xv=some l'.length)(h0:0 < l'.length)(hl:l.length+l'.length<=1000000000000)(hz:z.length=1)(hw:z0e 1 l'.length xv M=some (zp l')) :
  ∃ v' M',ze P (.app 5 1 1 z sx0 x) E M=some (.val v' M') /\ ApB M.next M' v' (l ++ l') /\ M'.next=M.next+1 /\ Keep (fun j=>j=b) M M':=by
 obtain⟨f,ty,rfl,h2,h3⟩:=hv
 have hz2:(Nat.ble 1 1 && (Nat.ble 1 1 && Nat.beq z.length 1))=true:=by rw[hz];rfl
 have hfm:zp (l ++ l')=zp l ++ zp l':=by rw[z1h,z1h,z1h,List.flatMap_append]
 have ho:=z1r (f:=f) h2
 have hroom:(2*(l.length+l'.length)+2048)*1<=140737488355328:=by omega
 cases f with
 | true =>
  have hN:New M M.next (.cells true (zp l ++ zp l') (apE 5)) (M.push (.cells true (zp l ++ zp l') (apE 5))):=⟨rfl,rfl⟩
  exact⟨_,_,z6k hs hx hn h0 hroom hz2 ho hw (z56 _) (.inr rfl),⟨_,_,by rw[List.length_append],by rw[hfm];exact At.new_same hN,.inr rfl⟩,rfl,hN.grow.to_keep _⟩
 | false =>
  obtain rfl:ty=apE 5:=h3.resolve_left (by decide)
  have hK:Kill M b M.next (.cells true (zp l ++ zp l') (apE 5)) ((M.upd b none).push (.cells true (zp l ++ zp l') (apE 5))):=⟨rfl,rfl⟩
  exact⟨_,_,z55 hs hx hn h0 hroom hz2 ho hw (z56 _) h2 (by rw[show Nat.beq (apE 5) (apE 5)=true by simp,Bool.or_true]),⟨_,_,by rw[List.length_append],by rw[hfm];exact hK.same,.inr rfl⟩,hK.next,hK.keep⟩
theorem zl0(hg:GOn E g)(hv:ApB b M v l)(hs:xval E sx0=some v)(hx:xval E x=some xv)(hn:z15 xv=some l'.length)(h0:0 < l'.length)(hl:l.length+l'.length<=1000000000000)(hz:z.length=1)(hw:z0e 1 l'.length xv M=some (zp l'))
  (hk:∀ v' M',ApB M.next M' v' (l ++ l')->M'.next=M.next+1->Keep (fun j=>j=b) M M'->XW μ P sz ll ((d,v') :: E) M' K):XW μ P sz (⟨some d,.app 5 1 1 z sx0 x,g⟩ :: ll) E M K:=by
 obtain⟨v',M',h1,h2,h3,h4⟩:=hv.app (P:=P) hs hx hn h0 hl hz hw
 exact zl1 hg h1 (hk v' M' h2 h3 h4)
theorem zqv(hg:GOn E g)(hv:ApB b M v l)(hs:xval E sx0=some v)(hx:xval E x=some xv)(hn:z15 xv=some l'.length)(h0:0 < l'.length)(hl:l.length+l'.length<=1000000000000)(hz:z.length=1)(hw:z0e 1 l'.length xv M=some (zp l'))
  (hk:∀ v' M',ApB M.next M' v' (l ++ l')->M'.next=M.next+1->Keep (fun j=>j=b) M M'->XD P sz ld ((d,v') :: E) M' (M' :: st) (k+1) xs K):XD P sz ((⟨some d,.app 5 1 1 z sx0 x,g⟩,.anchor) :: ld) E M st k xs K:=by
 obtain⟨v',M',h1,h2,h3,h4⟩:=hv.app (P:=P) hs hx hn h0 hl hz hw
 exact zll hg h1 (hk v' M' h2 h3 h4)
end
theorem zgu(l:List Int)(n:Nat):(cdItems l n).flatMap (fun c=>cdN c.toNat)=cdsL l n:=by
 unfold cdItems cdsL
 rw[List.flatMap_map]
