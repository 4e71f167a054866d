/-
 Part of the proof of TapeRepairs. No condition beyond those in each theorem.
-/
import Derived.Test.YtbfnnllgdioccaaGreatDoorPvH
import Derived.Test.YtbfnnllgdioccaaGreatDoorPvG
import Derived.Test.YtbfnnllgdioccaaGreatDoorTW
import Derived.Test.YtbfnnllgdioccaaGreatDoorTX
section
open PvL Go
set_option linter.unusedSimpArgs false
set_option linter.unusedVariables false
namespace Go.Proofs.YtbfnnllgdioccaaGreatDoor.C
def SlI(M:Mem)(a:Option (Nat × Nat))(l:List Int):Prop:=l=[] ∨ ∃ i o,a=some (i,o) /\ ∀ k (hk:k < l.length),Rd1 M i (o+k*1) (I l[k])
theorem SlI.grow{M M':Mem}{a:Option (Nat × Nat)}{l:List Int}(h:SlI M a l)(hg:Grow M M'):SlI M' a l :=
 h.imp id fun⟨i,o,h1,h2⟩=>⟨i,o,h1,fun k hk=>(h2 k hk).grow hg⟩
theorem SlI.rd{M:Mem}{a:Option (Nat × Nat)}{l:List Int}(h:SlI M a l){k:Nat}(hk:k < l.length):∃ i o,a=some (i,o) /\ Rd1 M i (o+k*1) (I l[k]):=by
 rcases h with rfl|⟨i,o,h1,h2⟩
 ·exact absurd hk (Nat.not_lt_zero _)
 ·exact⟨i,o,h1,h2 k hk⟩
abbrev intc(n:Int):List LV:=[I n]
theorem z9w{M:Mem}{i o:Nat}{v:LV}(h:Rd M i o 1 [v]):Rd1 M i o v:=by
 have:=Rd.nth (j:=0) h (v:=v) rfl
 simpa using this
theorem SlI.vec{M:Mem}{b:Nat}{ty:TypeId}{v:LV}{l:List Int}(h:Vec b 1 ty intc M v l):∃ a f e,v=.slice a l.length f e /\ SlI M a l:=by
 obtain⟨a,f,e,h1,h2⟩:=h.rd (fun _ _=>rfl)
 refine⟨a,f,e,h1,h2.imp id fun⟨i,o,h3,h4⟩=>⟨i,o,h3,fun k hk=>z9w (h4 k hk)⟩⟩
abbrev frSh:Sh:=.pair (.int .i64) (.pair (.int .i64) (.sl (.int .i64) 8))
abbrev Fr:=Int × Int × List Int
def FrV(M:Mem)(v:LV)(x:Fr):Prop:=∃ a f e,v=.agg [I x.1,I x.2.1,.slice a x.2.2.length f e] /\ SlI M a x.2.2
def I64(n:Int):Prop:=-9223372036854775808<=n /\ n<=9223372036854775807
def FrIn(x:Fr):Prop:=I64 x.1 /\ I64 x.2.1 /\ x.2.2.length<=1000000000000000 /\ ∀ n ∈ x.2.2,I64 n
theorem FrV.grow{M M':Mem}{v:LV}{x:Fr}(h:FrV M v x)(hg:Grow M M'):FrV M' v x:=by
 obtain⟨a,f,e,h1,h2⟩:=h
 exact⟨a,f,e,h1,h2.grow hg⟩
def knB(n:Int):Bool:=decide (-32767<=n /\ n<=32767)
def smB(n:Int):Bool:=knB n ||(decide (n=40000) || decide (n=40001))
def btB(n a b:Int):Bool:=decide (a<=n /\ n<=b)
def smsB(l:List Int):Bool:=btB l.length 1 64 && l.all smB
def frB(x:Fr):Bool:=btB x.1 0 60000 && (btB x.2.1 0 23 && smsB x.2.2)
def errF(x:Fr):Int:=if frB x then 0 else 80
end Go.Proofs.YtbfnnllgdioccaaGreatDoor.C
end
section
open PvL Go
set_option linter.unusedVariables false
variable {μ:PvL.Md}
namespace Go.Proofs.YtbfnnllgdioccaaGreatDoor.C
section
variable {α:Type} {b q:Nat} {ty:TypeId} {enc:α->List LV} {M:Mem} {v:LV} {l l':List α} {P:Program} [Orc P] {sz:Nat} {E:Env} {K:Env->Mem->Prop} {ll:List XG} {d:Nat} {g:Option (Nat × Bool)} {s x:XO} {st:List Mem} {k:Nat} {xs:List (Nat × Nat × (Mem->Prop))} {ld:List (XG × XK)} {by':Nat} {z:List LV} {xv:LV}
theorem z1l(hg:GOn E g)(hv:Vec b q ty enc M v l)(hs:xval E s=some v)(hx:xval E x=some xv)(hn:z0v xv=some l'.length)(h0:0 < l'.length)(hb:(2*(l.length+l'.length)+2048)*by'<=140737488355328)(hz:(Nat.ble 1 q && (Nat.ble 1 by' && Nat.beq z.length q))=true)(hw:z0d q l'.length xv M=some (l'.flatMap enc))
  (henc:∀ x,(enc x).length=q) (hfl:∀ x,ze (enc x)=true) (hbM:b<=M.next) (hk:∀ v' M',Vec b q ty enc M' v' (l ++ l')->M'.next=M.next+1->Keep (fun i=>b<=i /\ ∃ o n f e,v=.slice (some (i,o)) n f e) M M'->XW μ P sz ll ((d,v') :: E) M' K):XW μ P sz (⟨some d,.app ty q by' z s x,g⟩ :: ll) E M K:=by
 obtain⟨v',M',h1,h2,h3,h4⟩:=hv.app (P:=P) hs hx hn h0 hb hz hw henc hfl hbM
 exact zkv hg h1 (hk v' M' h2 h3 h4)
theorem zbt(hg:GOn E g)(hv:Vec b q ty enc M v l)(hs:xval E s=some v)(hx:xval E x=some xv)(hn:z0v xv=some l'.length)(h0:0 < l'.length)(hb:(2*(l.length+l'.length)+2048)*by'<=140737488355328)(hz:(Nat.ble 1 q && (Nat.ble 1 by' && Nat.beq z.length q))=true)(hw:z0d q l'.length xv M=some (l'.flatMap enc))
  (henc:∀ x,(enc x).length=q) (hfl:∀ x,ze (enc x)=true) (hbM:b<=M.next) (hk:∀ v' M',Vec b q ty enc M' v' (l ++ l')->M'.next=M.next+1->Keep (fun i=>b<=i /\ ∃ o n f e,v=.slice (some (i,o)) n f e) M M'->XD P sz ld ((d,v') :: E) M' (M' :: st) (k+1) xs K):XD P sz ((⟨some d,.app ty q by' z s x,g⟩,.anchor) :: ld) E M st k xs K:=by
 obtain⟨v',M',h1,h2,h3,h4⟩:=hv.app (P:=P) hs hx hn h0 hb hz hw henc hfl hbM
 exact zle hg h1 (hk v' M' h2 h3 h4)
end
theorem z1k{m:Nat}{x:Int}{M M':Mem}{ty:TypeId}(hn:New M m (.cells true [I x] ty) M'):z0d 1 1 (.slice (some (m,0)) 1 true 1) M'=some ([x].flatMap intc) :=
 z33 (enc:=intc) (l:=[x]) (fun _ _=>rfl) (fun k' hk'=>z1v (enc:=intc) (l:=[x]) (At.new_same hn) (fun _ _=>rfl) hk')
def SlB(b:Nat)(M:Mem)(a:Option (Nat × Nat))(l:List Int):Prop:=l=[] ∨ ∃ i o,a=some (i,o) /\ b<=i /\ ∀ k (hk:k < l.length),Rd1 M i (o+k*1) (I l[k])
theorem SlB.sl{b:Nat}{M:Mem}{a:Option (Nat × Nat)}{l:List Int}(h:SlB b M a l):SlI M a l:=h.imp id fun⟨i,o,h1,_,h2⟩=>⟨i,o,h1,h2⟩
theorem SlB.weaken{b b':Nat}{M:Mem}{a:Option (Nat × Nat)}{l:List Int}(h:SlB b M a l)(hb:b'<=b):SlB b' M a l:=h.imp id fun⟨i,o,h1,h2,h3⟩=>⟨i,o,h1,by omega,h3⟩
theorem SlB.grow{b:Nat}{M M':Mem}{a:Option (Nat × Nat)}{l:List Int}(h:SlB b M a l)(hg:Grow M M'):SlB b M' a l :=
 h.imp id fun⟨i,o,h1,h2,h3⟩=>⟨i,o,h1,h2,fun k hk=>(h3 k hk).grow hg⟩
theorem SlB.vec{M:Mem}{b:Nat}{ty:TypeId}{v:LV}{l:List Int}(h:Vec b 1 ty intc M v l):∃ a f e,v=.slice a l.length f e /\ SlB b M a l:=by
 rcases h with⟨rfl,rfl⟩|⟨i,rfl,h2,h3⟩
 ·exact⟨_,_,_,rfl,.inl rfl⟩
 ·exact⟨_,_,_,rfl,.inr ⟨i,0,rfl,h3,fun k hk=>z9w (z1v (enc:=intc) h2 (fun _ _=>rfl) hk)⟩⟩
def FrB(b:Nat)(M:Mem)(v:LV)(x:Fr):Prop:=∃ a f e,v=.agg [I x.1,I x.2.1,.slice a x.2.2.length f e] /\ SlB b M a x.2.2
def joinI(a b:Int):Int:=if a=b ∨ b=40000 then a else if a=40000 then b else 40001
def getG(l:List Int)(k:Nat):Int:=l.getD k 40000
def z19(a b:List Int):List Int:=(List.range (max a.length b.length)).map fun k=>joinI (getG a k) (getG b k)
theorem z91{a b:List Int}{k:Nat}(h:k < max a.length b.length):(z19 a b).take (k+1)=(z19 a b).take k ++ [joinI (getG a k) (getG b k)]:=by
 unfold z19
 rw[List.take_succ_eq_append_getElem (by simpa using h)]
 simp
theorem z20{a b:List Int}:(z19 a b).length=max a.length b.length:=by unfold z19;simp
theorem z3z{l:List Int}{k:Nat}(h:k < l.length):getG l k=l[k]:=by unfold getG;rw[List.getD_eq_getElem?_getD,List.getElem?_eq_getElem h];rfl
theorem z69{l:List Int}{k:Nat}(h:l.length<=k):getG l k=40000:=by unfold getG;rw[List.getD_eq_getElem?_getD,List.getElem?_eq_none h];rfl
theorem zeb(a b:Nat):iMax (a:Int) (b:Int)=((max a b:Nat):Int):=by unfold iMax;omega
end Go.Proofs.YtbfnnllgdioccaaGreatDoor.C
end
section
open PvL Go
set_option linter.unusedSimpArgs false
set_option linter.unusedVariables false
namespace Go.Proofs.YtbfnnllgdioccaaGreatDoor.C
def ltB(c:Nat):Bool:=decide (97<=c /\ c<=122)
def dgB(c:Nat):Bool:=decide (c=95) || decide (48<=c /\ c<=57)
def nmK(s:ByteArray):Nat->Bool
 | 0=>true
 | k+1=>nmK s k && (ltB (byteAt s k) ||(decide (k ≠ 0) && dgB (byteAt s k)))
def nmB(s:ByteArray):Bool:=nmK s s.size && btB s.size 1 16
theorem zk2(s:ByteArray)(k:Nat):nmK s (k+1)=(nmK s k && (ltB (byteAt s k) ||(decide (k ≠ 0) && dgB (byteAt s k)))):=rfl
theorem zlp{s:ByteArray}:∀ {n k:Nat},k<=n->nmK s k=false->nmK s n=false
 | 0,k,h,hk=>by obtain rfl:k=0:=by omega
                exact hk
 | n+1,k,h,hk=>by
  by_cases he:k=n+1
  ·subst he;exact hk
  ·rw[zk2,zlp (n:=n) (by omega) hk];rfl
theorem zht{s:ByteArray}{k:Nat}(h:k<=s.size)(hk:nmK s k=false):nmB s=false:=by unfold nmB;rw[zlp h hk];rfl
abbrev Rl:=ByteArray × List Fr
def FsV(M:Mem)(a:Option (Nat × Nat))(L:List Fr):Prop:=L=[] ∨ ∃ i o,a=some (i,o) /\ ∀ k (hk:k < L.length),∃ b g u,Rd M i (o+k*3) 3 [I L[k].1,I L[k].2.1,.slice b L[k].2.2.length g u] /\ SlI M b L[k].2.2
theorem FsV.grow{M M':Mem}{a:Option (Nat × Nat)}{L:List Fr}(h:FsV M a L)(hg:Grow M M'):FsV M' a L :=
 h.imp id fun⟨i,o,h1,h2⟩=>⟨i,o,h1,fun k hk=>by
  obtain⟨b,g,u,h3,h4⟩:=h2 k hk
  exact⟨b,g,u,h3.grow hg,h4.grow hg⟩⟩
def zFr0:Fr:=(0,0,[])
def fe(L:List Fr)(k:Nat):Fr:=L.getD k zFr0
theorem zbz{L:List Fr}{k:Nat}(h:k < L.length):fe L k=L[k]:=by unfold fe;rw[List.getD_eq_getElem?_getD,List.getElem?_eq_getElem h];rfl
theorem FsV.rd{M:Mem}{a:Option (Nat × Nat)}{L:List Fr}(h:FsV M a L){k:Nat}(hk:k < L.length):∃ i o b g u,a=some (i,o) /\ Rd M i (o+k*3) 3 [I (fe L k).1,I (fe L k).2.1,.slice b (fe L k).2.2.length g u] /\ FrV M (.agg [I (fe L k).1,I (fe L k).2.1,.slice b (fe L k).2.2.length g u]) (fe L k):=by
 rcases h with rfl|⟨i,o,h1,h2⟩
 ·exact absurd hk (Nat.not_lt_zero _)
 ·obtain⟨b,g,u,h3,h4⟩:=h2 k hk
  rw[<-zbz hk] at h3 h4
  exact⟨i,o,b,g,u,h1,h3,b,g,u,rfl,h4⟩
def RlV(M:Mem)(v:LV)(r:Rl):Prop:=∃ a f e,v=.agg [.str r.1,.slice a r.2.length f e] /\ FsV M a r.2
theorem RlV.grow{M M':Mem}{v:LV}{r:Rl}(h:RlV M v r)(hg:Grow M M'):RlV M' v r:=by
 obtain⟨a,f,e,h1,h2⟩:=h
 exact⟨a,f,e,h1,h2.grow hg⟩
def RlIn(r:Rl):Prop:=r.1.size<=1000000000000000 /\ r.2.length<=1000000000000000 /\ ∀ x ∈ r.2,FrIn x
abbrev rlSh:Sh:=.pair .str (.sl frSh 40)
def keyI(x:Fr):Int:=24*x.1+x.2.1
def rlK(L:List Fr):Nat->Bool
 | 0=>true
 | k+1=>rlK L k && (frB (fe L k) && (decide (k=0) || decide (keyI (fe L (k - 1)) < keyI (fe L k))))
def rlB(r:Rl):Bool:=(nmB r.1 && decide (r.2.length<=128)) && rlK r.2 r.2.length
def zd7(r:Rl):Int:=if rlB r then 0 else 81
theorem z7v{x:Fr}(h:frB x=true):0<=x.1 /\ x.1<=60000 /\ 0<=x.2.1 /\ x.2.1<=23 /\ smsB x.2.2=true:=by
 unfold frB btB at h
 simp only[Bool.and_eq_true,decide_eq_true_eq] at h
 exact⟨h.1.1,h.1.2,h.2.1.1,h.2.1.2,h.2.2⟩
def cmpI8(a b:Int):Int:=if a < b then -1 else if b < a then 1 else 0
def cmpK(a b:Int × Int):Int:=if cmpI8 a.1 b.1 ≠ 0 then cmpI8 a.1 b.1 else cmpI8 a.2 b.2
end Go.Proofs.YtbfnnllgdioccaaGreatDoor.C
end
section
open PvL
set_option linter.unusedSimpArgs false
set_option linter.unusedVariables false
namespace Go.Proofs.YtbfnnllgdioccaaGreatDoor.C
def stepB(c:Int):Int:=if 65535 < shlZ c 1 then xorZ (andZ (shlZ c 1) 65535) 4129 else shlZ c 1
def stepN:Nat->Int->Int
 | 0,c=>c
 | n+1,c=>stepB (stepN n c)
def byteC(c:Int)(b:Nat):Int:=stepN 8 (xorZ c (shlZ (b:Int) 8))
def crcK(s:ByteArray):Nat->Int
 | 0=>65535
 | k+1=>byteC (crcK s k) (byteAt s k)
theorem shl1(c:Int):shlZ c 1=2*c:=by unfold shlZ;show c*((2 ^ 1:Nat):Int)=_;omega
theorem shl8(c:Int):shlZ c 8=256*c:=by unfold shlZ;show c*((2 ^ 8:Nat):Int)=_;omega
theorem zb2{a b:Int}(ha:0<=a /\ a<=65535)(hb:0<=b /\ b<=65535):0<=xorZ a b /\ xorZ a b<=65535:=by
 have:a.toNat ^^^ b.toNat < 65536:=Nat.xor_lt_two_pow (n:=16) (by omega) (by omega)
 unfold xorZ;omega
theorem zg6{a b:Int}(hb:0<=b):0<=andZ a b /\ andZ a b<=b:=by
 have:a.toNat &&& b.toNat<=b.toNat:=Nat.and_le_right
 unfold andZ;omega
theorem zkk{c:Int}(h:0<=c /\ c<=65535):0<=stepB c /\ stepB c<=65535:=by
 unfold stepB
 have e:=shl1 c
 split
 ·exact zb2 (zg6 (by omega)) (by omega)
 ·omega
theorem z79{c:Int}(h:0<=c /\ c<=65535):∀ n,0<=stepN n c /\ stepN n c<=65535
 | 0=>h
 | n+1=>zkk (z79 h n)
theorem zj7{c:Int}(h:0<=c /\ c<=65535){b:Nat}(hb:b < 256):0<=byteC c b /\ byteC c b<=65535:=by
 have:=shl8 (b:Int)
 exact z79 (zb2 h (by omega)) 8
theorem z65(s:ByteArray):∀ k,0<=crcK s k /\ crcK s k<=65535
 | 0=>by unfold crcK;omega
 | k+1=>zj7 (z65 s k) (z0p s k)
end Go.Proofs.YtbfnnllgdioccaaGreatDoor.C
end
section
open PvL Go
set_option linter.unusedSimpArgs false
set_option linter.unusedVariables false
namespace Go.Proofs.YtbfnnllgdioccaaGreatDoor.C
def u8(n:Nat):UInt8:=UInt8.ofNat n
theorem u8_n{n:Nat}(h:n < 256):(u8 n).toNat=n:=by unfold u8;simp;omega
def strL(l:List UInt8):ByteArray:=⟨⟨l⟩⟩
theorem z1t(a b:List UInt8):strL a ++ strL b=strL (a ++ b):=by
 unfold strL
 apply ByteArray.ext
 simp
theorem zn(l:List UInt8):(strL l).size=l.length:=rfl
def twoL(n:Nat):List UInt8:=[u8 (n / 256),u8 (n % 256)]
def cdF:Nat->Nat->List UInt8
 | 0,_=>[]
 | f+1,n=>if 128<=n then u8 (n % 128+128) :: cdF f (n / 128) else [u8 n]
theorem ze3:∀(f g n:Nat),n < f->n < g->cdF f n=cdF g n
 | 0,_,n,h,_=>absurd h (Nat.not_lt_zero _)
 | _,0,n,_,h=>absurd h (Nat.not_lt_zero _)
 | f+1,g+1,n,h1,h2=>by
  unfold cdF
  split
  ·rename_i hc
   rw[ze3 f g (n / 128) (by omega) (by omega)]
  ·rfl
def cdN(n:Nat):List UInt8:=cdF (n+1) n
theorem zbo{n:Nat}(h:128<=n):cdN n=u8 (n % 128+128) :: cdN (n / 128):=by
 unfold cdN
 show(if 128<=n then _ else _)=_
 rw[if_pos h,ze3 n (n / 128+1) (n / 128) (by omega) (by omega)]
theorem z95{n:Nat}(h:n < 128):cdN n=[u8 n]:=by
 unfold cdN
 show(if 128<=n then _ else _)=_
 rw[if_neg (by omega)]
def cdS(n last:Int):Int × Int:=if n=40001 then(1,last) else if knB n then(if n - last < 0 then 1 - 2*(n - last) else 2*(n - last)+2,n) else(0,last)
def lsA(l:List Int):Nat->Int
 | 0=>0
 | k+1=>(cdS (getG l k) (lsA l k)).2
def cdA(l:List Int)(k:Nat):Int:=(cdS (getG l k) (lsA l k)).1
theorem zho(l:List Int):∀ k,-32767<=lsA l k /\ lsA l k<=32767
 | 0=>by unfold lsA;omega
 | k+1=>by
  have h:=zho l k
  unfold lsA cdS
  split
  ·exact h
  ·split
   ·rename_i hk
    exact of_decide_eq_true hk
   ·exact h
theorem zld(l:List Int)(k:Nat):0<=cdA l k /\ cdA l k<=131070:=by
 have h:=zho l k
 unfold cdA cdS
 split
 ·dsimp only;omega
 ·split
  ·rename_i hk
   have hk:-32767<=getG l k /\ getG l k<=32767:=of_decide_eq_true hk
   dsimp only
   split<;>omega
  ·dsimp only;omega
def cdsL(l:List Int)(k:Nat):List UInt8:=(List.range k).flatMap fun i=>cdN (cdA l i).toNat
theorem z96(l:List Int)(k:Nat):cdsL l (k+1)=cdsL l k ++ cdN (cdA l k).toNat:=by unfold cdsL;rw[List.range_succ,List.flatMap_append];simp
theorem z4u:∀(n:Nat),(cdN n).length<=n / 128+1
 | n=>by
  by_cases h:128<=n
  ·rw[zbo h,List.length_cons]
   have:=z4u (n / 128)
   omega
  ·rw[z95 (by omega)];simp
theorem zah(l:List Int):∀ k,(cdsL l k).length<=1100*k
 | 0=>by unfold cdsL;simp
 | k+1=>by
  rw[z96,List.length_append]
  have h1:=zah l k
  have h2:=z4u (cdA l k).toNat
  have h3:=zld l k
  omega
def hdL(x:Fr):List UInt8:=[165,90] ++ twoL x.1.toNat ++ [u8 x.2.1.toNat,u8 x.2.2.length]
def bodyL(x:Fr):List UInt8:=hdL x ++ cdsL x.2.2 x.2.2.length
def chkL(l:List UInt8):List UInt8:=l ++ twoL (crcK (strL l) l.length).toNat
def pkL(x:Fr):List UInt8:=chkL (bodyL x)
theorem znc{x:Fr}(h:x.2.2.length<=64):(pkL x).length<=100000:=by
 have:=zah x.2.2 x.2.2.length
 unfold pkL chkL bodyL hdL twoL
 simp only[List.length_append,List.length_cons,List.length_nil]
 omega
def rhL(r:Rl):List UInt8:=[80,65,82,65,86,65,78,69] ++ [u8 r.1.size] ++ r.1.data.toList ++ [u8 r.2.length]
def rpL(r:Rl):List UInt8:=chkL (rhL r) ++ r.2.flatMap pkL
end Go.Proofs.YtbfnnllgdioccaaGreatDoor.C
end
section
open Go PvL Go.Proofs
set_option linter.unusedSimpArgs false
set_option linter.unusedVariables false
namespace Go.Proofs.YtbfnnllgdioccaaGreatDoor.C
theorem zga(n a b:Int)(M:Mem):z9 Tryz.prog 49 [I n,I a,I b] M (fun w M'=>w=.bool (decide (a<=n /\ n<=b)) /\ M'=M):=by
 refine zb k49 rfl ?_
 dsimp only[x49,zM,zO,zI,zF,zS,zB,zL,zA,zE,zN,zW,zC,zipE,Nat.reduceAdd]
 repeat' first|with_reducible intro _|refine sv ?_|refine sc ?_ ?_<;>(intro h;try exact sz h)|refine sg ?_ ?_<;>(intro h;first|exact sz h|refine sy h ?_)|exact sq|fail
 ·refine kf ?_
  refine⟨?_,rfl⟩
  simp[packed];omega
 ·refine kf ?_
  refine⟨?_,rfl⟩
  simp[packed];omega
set_option maxHeartbeats 1000000 in
theorem zob(s:ByteArray)(hs:s.size<=140737488355328)(M:Mem):z9 Tryz.prog 55 [.str s] M (fun w M'=>w=I (crcK s s.size) /\ M'=M):=by
 refine zb k55 rfl ?_
 dsimp only[x55,zM,zO,zI,zF,zS,zB,zL,zA,zE,zN,zW,zC,zipE,Nat.reduceAdd]
 repeat' first|with_reducible intro _|refine sv ?_|refine sc ?_ ?_<;>(intro h;try exact sz h)|refine sg ?_ ?_<;>(intro h;first|exact sz h|refine sy h ?_)|exact sq|fail
 refine z8 (fun n E ms M'=>∃ k:Nat,n=s.size - k /\ k<=s.size /\ ms=[] /\ M'=M /\ Has E [(0,.str s),(3,I (crcK s k)),(6,I s.size),(7,I k)])
  ?_ s.size _ _ _ ⟨0,by omega,by omega,rfl,rfl,.cons rfl (.cons rfl (.cons rfl (.cons rfl .nil)))⟩
 rintro n E ms M' ⟨k,rfl,hk,rfl,rfl,hE⟩
 refine zy hE ?_
 have hb:=z65 s k
 have hb2:=z0p s k
 have h8:=shl8 ((byteAt s k:Nat):Int)
 by_cases hlast:k=s.size
 ·subst hlast
  repeat' first|with_reducible intro _|refine sv ?_|refine sc ?_ ?_<;>(intro h;try exact sz h)|refine sg ?_ ?_<;>(intro h;first|exact sz h|refine sy h ?_)|exact sq|fail
  refine kf ?_
  exact⟨rfl,rfl⟩
 ·have hlt:k < s.size:=by omega
  repeat' first|with_reducible intro _|refine sv ?_|refine sc ?_ ?_<;>(intro h;try exact sz h)|refine sg ?_ ?_<;>(intro h;first|exact sz h|refine sy h ?_)|exact sq|fail
  have hc0:=zb2 (a:=crcK s k) (b:=shlZ ((byteAt s k:Nat):Int) 8) hb (by omega)
  generalize hg:xorZ (crcK s k) (shlZ ((byteAt s k:Nat):Int) 8)=c0 at hc0 ⊢
  refine z8 (fun n E ms M2=>∃ j:Nat,n=8 - j /\ j<=8 /\ ms=[] /\ M2=M' /\ Has E [(0,.str s),(3,I (stepN j c0)),(6,I s.size),(7,I k),(17,I j)])
   ?_ 8 _ _ _ ⟨0,by omega,by omega,rfl,rfl,.cons rfl (.cons rfl (.cons rfl (.cons rfl (.cons rfl .nil))))⟩
  rintro n E ms M' ⟨j,rfl,hj,rfl,rfl,hE⟩
  refine zy hE ?_
  have hb3:=z79 hc0 j
  have h1:=shl1 (stepN j c0)
  have ha:=zg6 (a:=shlZ (stepN j c0) 1) (b:=65535) (by omega)
  by_cases hj8:j=8
  ·subst hj8
   repeat' first|with_reducible intro _|refine sv ?_|refine sc ?_ ?_<;>(intro h;try exact sz h)|refine sg ?_ ?_<;>(intro h;first|exact sz h|refine sy h ?_)|exact sq|fail
   refine zd (s.size - (k+1)) (by omega) ⟨k+1,rfl,by omega,rfl,rfl,.cons rfl (.cons ?_ (.cons rfl (.cons rfl .nil)))⟩
   show some (I (stepN 8 c0))=some (I (byteC (crcK s k) (byteAt s k)))
   unfold byteC
   rw[hg]
  ·have hlt8:j < 8:=by omega
   repeat' first|with_reducible intro _|refine sv ?_|refine sc ?_ ?_<;>(intro h;try exact sz h)|refine sg ?_ ?_<;>(intro h;first|exact sz h|refine sy h ?_)|exact sq|fail
   ·refine zd (8 - (j+1)) (by omega) ⟨j+1,rfl,by omega,rfl,rfl,.cons rfl (.cons ?_ (.cons rfl (.cons rfl (.cons rfl .nil))))⟩
    show some (I _)=some (I (stepB (stepN j c0)))
    unfold stepB
    rw[if_pos (by assumption)]
   ·refine zd (8 - (j+1)) (by omega) ⟨j+1,rfl,by omega,rfl,rfl,.cons rfl (.cons ?_ (.cons rfl (.cons rfl (.cons rfl .nil))))⟩
    show some (I _)=some (I (stepB (stepN j c0)))
    unfold stepB
    rw[if_neg (by omega)]
theorem zaf(n a b:Int)(M:Mem):z9 Tryz.prog 44 [I n,I a,I b] M (fun w M'=>w=.bool (btB n a b) /\ M'=M):=by
 refine zb k44 rfl ?_
 dsimp only[x44,zM,zO,zI,zF,zS,zB,zL,zA,zE,zN,zW,zC,zipE,Nat.reduceAdd]
 repeat' first|with_reducible intro _|refine sv ?_|refine sc ?_ ?_<;>(intro h;try exact sz h)|refine sg ?_ ?_<;>(intro h;first|exact sz h|refine sy h ?_)|exact sq|fail
 ·refine kf ?_
  refine⟨?_,rfl⟩
  simp[packed,btB];omega
 ·refine kf ?_
  refine⟨?_,rfl⟩
  simp[packed,btB];omega
theorem zmh(n a b:Int)(M:Mem):z9 Tryz.prog 49 [I n,I a,I b] M (fun w M'=>w=.bool (btB n a b) /\ M'=M):=zga n a b M
theorem zd2(n:Int)(M:Mem):z9 Tryz.prog 47 [I n] M (fun w M'=>w=.bool (knB n) /\ M'=M):=by
 refine zb k47 rfl ?_
 dsimp only[x47,zM,zO,zI,zF,zS,zB,zL,zA,zE,zN,zW,zC,zipE,Nat.reduceAdd]
 repeat' first|with_reducible intro _|refine sv ?_|refine sc ?_ ?_<;>(intro h;try exact sz h)|((with_reducible first|apply z02|apply z0f|apply d_same0);exact gd;exact rfl;exact rfl;(first|exact zaf _ _ _ _))|refine sg ?_ ?_<;>(intro h;first|exact sz h|refine sy h ?_)|exact sq|fail
 refine kf ?_
 exact⟨rfl,rfl⟩
theorem ze1(n:Int)(M:Mem):z9 Tryz.prog 50 [I n] M (fun w M'=>w=.bool (knB n) /\ M'=M):=by
 refine zb k50 rfl ?_
 dsimp only[x50,zM,zO,zI,zF,zS,zB,zL,zA,zE,zN,zW,zC,zipE,Nat.reduceAdd]
 repeat' first|with_reducible intro _|refine sv ?_|refine sc ?_ ?_<;>(intro h;try exact sz h)|((with_reducible first|apply z02|apply z0f|apply d_same0);exact gd;exact rfl;exact rfl;(first|exact zmh _ _ _ _))|refine sg ?_ ?_<;>(intro h;first|exact sz h|refine sy h ?_)|exact sq|fail
 refine kf ?_
 exact⟨rfl,rfl⟩
theorem zjh(n:Int)(M:Mem):z9 Tryz.prog 117 [I n] M (fun w M'=>w=.bool (smB n) /\ M'=M):=by
 refine zb k117 rfl ?_
 dsimp only[x117,zM,zO,zI,zF,zS,zB,zL,zA,zE,zN,zW,zC,zipE,Nat.reduceAdd]
 unfold smB
 cases hk:knB n with
 | true =>
  have hc:∀ M,z9 Tryz.prog 47 [I n] M (fun w M'=>w=.bool true /\ M'=M):=fun M=>by rw[<-hk];exact zd2 n M
  repeat' first|with_reducible intro _|refine sv ?_|refine sc ?_ ?_<;>(intro h;try exact sz h)|((with_reducible first|apply z02|apply z0f|apply d_same0);exact gd;exact rfl;exact rfl;(first|exact hc _))|refine sg ?_ ?_<;>(intro h;first|exact sz h|refine sy h ?_)|exact sq|fail
  refine kf ?_
  exact⟨rfl,rfl⟩
 | false =>
  have hc:∀ M,z9 Tryz.prog 47 [I n] M (fun w M'=>w=.bool false /\ M'=M):=fun M=>by rw[<-hk];exact zd2 n M
  repeat' first|with_reducible intro _|refine sv ?_|refine sc ?_ ?_<;>(intro h;try exact sz h)|((with_reducible first|apply z02|apply z0f|apply d_same0);exact gd;exact rfl;exact rfl;(first|exact hc _))|refine sg ?_ ?_<;>(intro h;first|exact sz h|refine sy h ?_)|exact sq|fail
  all_goals ((refine kf ?_);refine⟨?_,rfl⟩;simp[packed];try omega)
theorem z5b(n:Int)(M:Mem):z9 Tryz.prog 116 [I n] M (fun w M'=>w=.bool (!smB n) /\ M'=M):=by
 refine zb k116 rfl ?_
 dsimp only[x116,zM,zO,zI,zF,zS,zB,zL,zA,zE,zN,zW,zC,zipE,Nat.reduceAdd]
 repeat' first|with_reducible intro _|refine sv ?_|refine sc ?_ ?_<;>(intro h;try exact sz h)|((with_reducible first|apply z02|apply z0f|apply d_same0);exact gd;exact rfl;exact rfl;(first|exact zjh _ _))|refine sg ?_ ?_<;>(intro h;first|exact sz h|refine sy h ?_)|exact sq|fail
 refine kf ?_
 exact⟨rfl,rfl⟩
theorem z4a{n:Nat}{p:Nat->Bool}:(List.range n).any p=true ↔ ∃ j,j < n /\ p j=true:=by
 rw[List.any_eq_true]
 exact⟨fun⟨j,h1,h2⟩=>⟨j,List.mem_range.1 h1,h2⟩,fun⟨j,h1,h2⟩=>⟨j,List.mem_range.2 h1,h2⟩⟩
set_option maxHeartbeats 1000000 in
theorem zcz{a:Option (Nat × Nat)}{n:Nat}{f:Bool}{e:Nat}{g:FuncId}{fi ca:List LV}{M:Mem}(elem:Nat->LV)(p:Nat->Bool)(hn:n<=1000000000000000)
  (hread:∀ k,k < n->∃ i o,a=some (i,o) /\ Rd1 M i (o+k*1) (elem k)) (hp:∀ k,k < n->∀ M',Grow M M'->z9 Tryz.prog g (fi ++ [elem k] ++ ca) M' (fun w M''=>w=.bool (p k) /\ M''=M')) :
  z9 Tryz.prog 98 [.slice a n f e,.func (.func g) fi ca] M (fun w M'=>∃ r:Int,w=I r /\ (0<=r ↔(List.range n).any p=true) /\ M'=M):=by
 refine zb k98 rfl ?_
 dsimp only[x98,zM,zO,zI,zF,zS,zB,zL,zA,zE,zN,zW,zC,zipE,Nat.reduceAdd]
 repeat' first|with_reducible intro _|refine sv ?_|refine sc ?_ ?_<;>(intro h;try exact sz h)|refine sg ?_ ?_<;>(intro h;first|exact sz h|refine sy h ?_)|exact sq|fail
 refine z8 (fun m E ms M'=>∃ k:Nat,m=n - k /\ k<=n /\ ms=[] /\ Has E [(0,.slice a n f e),(1,.func (.func g) fi ca),(7,I n),(8,I k)] /\ M'=M /\ ∀ j,j < k->p j=false)
  ?_ n _ _ _ ⟨0,by omega,by omega,rfl,.cons rfl (.cons rfl (.cons rfl (.cons rfl .nil))),rfl,fun j hj=>absurd hj (Nat.not_lt_zero _)⟩
 rintro m E ms M1 ⟨k,rfl,hk,rfl,hE,rfl,hall⟩
 refine zy hE ?_
 by_cases hlast:k=n
 ·subst hlast
  repeat' first|with_reducible intro _|refine sv ?_|refine sc ?_ ?_<;>(intro h;try exact sz h)|refine sg ?_ ?_<;>(intro h;first|exact sz h|refine sy h ?_)|exact sq|fail
  refine kf ?_
  refine⟨-1,rfl,?_,rfl⟩
  rw[z4a]
  exact⟨fun h=>by omega,fun⟨j,h1,h2⟩=>by rw[hall j h1] at h2;cases h2⟩
 have hlt:k < n:=by omega
 obtain⟨i,o,rfl,hr⟩:=hread k hlt
 have hc:=hp k hlt M1 (Grow.refl _)
 cases hpk:p k with
 | true =>
  rw[hpk] at hc
  (have hrd0:=hr;repeat' (first|(with_reducible intro _)|refine sv ?_|(refine sc ?_ ?_<;>(intro h;try exact sz h))|((with_reducible first|apply z02|apply z0f|apply d_same0);exact gd;exact rfl;exact rfl;(first|exact hc))|refine sg ?_ ?_<;>(intro h;first|exact sz h|refine sy h ?_)|exact sq|fail))
  refine kf ?_
  refine⟨k,rfl,?_,rfl⟩
  rw[z4a]
  exact⟨fun _=>⟨k,hlt,hpk⟩,fun _=>by omega⟩
 | false =>
  rw[hpk] at hc
  (have hrd0:=hr;repeat' (first|(with_reducible intro _)|refine sv ?_|(refine sc ?_ ?_<;>(intro h;try exact sz h))|((with_reducible first|apply z02|apply z0f|apply d_same0);exact gd;exact rfl;exact rfl;(first|exact hc))|refine sg ?_ ?_<;>(intro h;first|exact sz h|refine sy h ?_)|exact sq|fail))
  refine zd (n - (k+1)) (by omega) ⟨k+1,rfl,by omega,rfl,.cons rfl (.cons rfl (.cons rfl (.cons rfl .nil))),rfl,fun j hj=>?_⟩
  by_cases hjk:j=k
  ·subst hjk;exact hpk
  ·exact hall j (by omega)
theorem z8r{a:Option (Nat × Nat)}{n:Nat}{f:Bool}{e:Nat}{g:FuncId}{fi ca:List LV}{M:Mem}(elem:Nat->LV)(p:Nat->Bool)(hn:n<=1000000000000000)
  (hread:∀ k,k < n->∃ i o,a=some (i,o) /\ Rd1 M i (o+k*1) (elem k)) (hp:∀ k,k < n->∀ M',Grow M M'->z9 Tryz.prog g (fi ++ [elem k] ++ ca) M' (fun w M''=>w=.bool (p k) /\ M''=M')) :
  z9 Tryz.prog 45 [.slice a n f e,.func (.func g) fi ca] M (fun w M'=>w=.bool ((List.range n).any p) /\ M'=M):=by
 refine zb k45 rfl ?_
 dsimp only[x45,zM,zO,zI,zF,zS,zB,zL,zA,zE,zN,zW,zC,zipE,Nat.reduceAdd]
 have hc:=zcz (f:=f) (e:=e) elem p hn hread hp
 repeat' first|with_reducible intro _|refine sv ?_|refine sc ?_ ?_<;>(intro h;try exact sz h)|((with_reducible first|apply zx|apply z0e|apply x_call0);exact gd;exact rfl;exact rfl;(first|exact hc))|refine sg ?_ ?_<;>(intro h;first|exact sz h|refine sy h ?_)|exact sq|fail
 rename_i hq
 obtain⟨r,rfl,hr,rfl⟩:=hq
 repeat' first|with_reducible intro _|refine sv ?_|refine sc ?_ ?_<;>(intro h;try exact sz h)|refine sg ?_ ?_<;>(intro h;first|exact sz h|refine sy h ?_)|exact sq|fail
 refine kf ?_
 refine⟨?_,rfl⟩
 exact congrArg LV.bool (by rw[Bool.eq_iff_iff,decide_eq_true_iff];exact hr)
theorem zf2{a:Option (Nat × Nat)}{l:List Int}{f:Bool}{e:Nat}{g:FuncId}{fi ca:List LV}{M:Mem}(p:Int->Bool)(hn:l.length<=1000000000000000)(hs:SlI M a l)
  (hp:∀ n ∈ l,z9 Tryz.prog g (fi ++ [I n] ++ ca) M (fun w M''=>w=.bool (p n) /\ M''=M)) (hp':∀ n ∈ l,∀ M',Grow M M'->z9 Tryz.prog g (fi ++ [I n] ++ ca) M' (fun w M''=>w=.bool (p n) /\ M''=M')) :
  z9 Tryz.prog 45 [.slice a l.length f e,.func (.func g) fi ca] M (fun w M'=>w=.bool (l.any p) /\ M'=M):=by
 have:=z8r (f:=f) (e:=e) (g:=g) (fi:=fi) (ca:=ca) (M:=M) (a:=a) (n:=l.length) (fun k=>I (l.getD k 0)) (fun k=>p (l.getD k 0)) hn (fun k hk=>by
  obtain⟨i,o,h1,h2⟩:=hs.rd hk
  exact⟨i,o,h1,by rw[List.getD_eq_getElem?_getD,List.getElem?_eq_getElem hk];exact h2⟩) (fun k hk M' hg=>hp' _ (by rw[List.getD_eq_getElem?_getD,List.getElem?_eq_getElem hk];exact List.getElem_mem hk) M' hg)
 have e1:(List.range l.length).any (fun k=>p (l.getD k 0))=l.any p:=by
  rw[Bool.eq_iff_iff,z4a,List.any_eq_true]
  constructor
  ·rintro⟨j,h1,h2⟩
   refine⟨l[j],List.getElem_mem h1,?_⟩
   rw[List.getD_eq_getElem?_getD,List.getElem?_eq_getElem h1] at h2;exact h2
  ·rintro⟨x,h1,h2⟩
   obtain⟨j,h3,rfl⟩:=List.getElem_of_mem h1
   exact⟨j,h3,by rw[List.getD_eq_getElem?_getD,List.getElem?_eq_getElem h3];exact h2⟩
 rw[e1] at this;exact this
theorem zm4{l:List Int}{p:Int->Bool}:l.any (fun n=>!p n)=!l.all p:=by
 induction l with
 | nil=>rfl
 | cons x xs ih=>simp only[List.any_cons,List.all_cons,ih];cases p x<;>simp
set_option maxHeartbeats 1000000 in
theorem zbi{M:Mem}{v:LV}{x:Fr}(hv:FrV M v x)(hin:FrIn x):z9 Tryz.prog 67 [v] M (fun w M'=>w=I (errF x) /\ Grow M M'):=by
 obtain⟨a,f,e,rfl,hs⟩:=hv
 refine zb k67 rfl ?_
 dsimp only[x67,zM,zO,zI,zF,zS,zB,zL,zA,zE,zN,zW,zC,zipE,Nat.reduceAdd]
 have hc:∀ M',Grow M M'->z9 Tryz.prog 45 [.slice a x.2.2.length f e,.func (.func 116) [] []] M' (fun w M''=>w=.bool (!x.2.2.all smB) /\ M''=M'):=fun M' hg=>by
  have:=zf2 (f:=f) (e:=e) (g:=116) (fi:=[]) (ca:=[]) (M:=M') (fun n=>!smB n) hin.2.2.1 (hs.grow hg) (fun n _=>z5b n M') (fun n _ M2 _=>z5b n M2)
  rw[zm4] at this;exact this
 repeat' first|with_reducible intro _|refine sv ?_|refine sc ?_ ?_<;>(intro h;try exact sz h)|((with_reducible first|apply z02|apply z0f|apply d_same0);exact gd;exact rfl;exact rfl;(first|exact zaf _ _ _ _|exact hc _ (xg)))|refine sg ?_ ?_<;>(intro h;first|exact sz h|refine sy h ?_)|exact sq|fail
 all_goals ((refine kf ?_);refine⟨?_,xg⟩;simp_all [packed,errF,frB,smsB])
set_option maxHeartbeats 1000000 in
theorem zf6{M:Mem}{a:Option (Nat × Nat)}{f:Bool}{e:Nat}{l:List Int}(hs:SlI M a l)(hn:l.length<=1000000000000000) :
  z9 Tryz.prog 134 [.slice a l.length f e] M (fun w M'=>w=.bool (smsB l) /\ M'=M):=by
 refine zb k134 rfl ?_
 dsimp only[x134,zM,zO,zI,zF,zS,zB,zL,zA,zE,zN,zW,zC,zipE,Nat.reduceAdd]
 repeat' first|with_reducible intro _|refine sv ?_|refine sc ?_ ?_<;>(intro h;try exact sz h)|((with_reducible first|apply z02|apply z0f|apply d_same0);exact gd;exact rfl;exact rfl;(first|exact zmh _ _ _ _))|refine sg ?_ ?_<;>(intro h;first|exact sz h|refine sy h ?_)|exact sq|fail
 refine z8 (fun m E ms M'=>∃ k:Nat,m=l.length - k /\ k<=l.length /\ ms=[] /\ M'=M /\ Has E [(0,.slice a l.length f e),(3,.bool (btB l.length 1 64 && (l.take k).all smB)),(4,I k)])
  ?_ l.length _ _ _ ⟨0,by omega,by omega,rfl,rfl,.cons rfl (.cons (by show some (LV.bool _)=some (LV.bool _);simp) (.cons rfl .nil))⟩
 rintro n E ms M' ⟨k,rfl,hk,rfl,rfl,hE⟩
 refine zy hE ?_
 by_cases hlast:k=l.length
 ·subst hlast
  repeat' first|with_reducible intro _|refine sv ?_|refine sc ?_ ?_<;>(intro h;try exact sz h)|refine sg ?_ ?_<;>(intro h;first|exact sz h|refine sy h ?_)|exact sq|fail
  refine kf ?_
  rw[List.take_length];exact⟨rfl,rfl⟩
 ·have hlt:k < l.length:=by omega
  obtain⟨i,o,rfl,hr⟩:=hs.rd hlt
  have htake:(l.take (k+1)).all smB=((l.take k).all smB && smB l[k]):=by rw[List.take_succ_eq_append_getElem hlt,List.all_append];simp
  generalize hq:(btB l.length 1 64 && (l.take k).all smB)=q
  have hq':(btB l.length 1 64 && (l.take (k+1)).all smB)=(q && smB l[k]):=by rw[htake,<- Bool.and_assoc,hq]
  have hsm:smB l[k]=(knB l[k] ||(decide (l[k]=40000) || decide (l[k]=40001))):=rfl
  cases q with
  | false =>
   (have hrd0:=hr;repeat' (first|(with_reducible intro _)|refine sv ?_|(refine sc ?_ ?_<;>(intro h;try exact sz h))|refine sg ?_ ?_<;>(intro h;first|exact sz h|refine sy h ?_)|exact sq|fail))
   refine zd (l.length - (k+1)) (by omega) ⟨k+1,rfl,by omega,rfl,rfl,.cons rfl (.cons ?_ (.cons rfl .nil))⟩
   rw[hq'];rfl
  | true =>
   cases hk1:knB l[k] with
   | true =>
    have hc:∀ M,z9 Tryz.prog 50 [I l[k]] M (fun w M'=>w=.bool true /\ M'=M):=fun M=>by rw[<-hk1];exact ze1 _ M
    (have hrd0:=hr;repeat' (first|(with_reducible intro _)|refine sv ?_|(refine sc ?_ ?_<;>(intro h;try exact sz h))|((with_reducible first|apply z02|apply z0f|apply d_same0);exact gd;exact rfl;exact rfl;(first|exact hc _))|refine sg ?_ ?_<;>(intro h;first|exact sz h|refine sy h ?_)|exact sq|fail))
    refine zd (l.length - (k+1)) (by omega) ⟨k+1,rfl,by omega,rfl,rfl,.cons rfl (.cons ?_ (.cons rfl .nil))⟩
    rw[hq',hsm,hk1];rfl
   | false =>
    have hc:∀ M,z9 Tryz.prog 50 [I l[k]] M (fun w M'=>w=.bool false /\ M'=M):=fun M=>by rw[<-hk1];exact ze1 _ M
    (have hrd0:=hr;repeat' (first|(with_reducible intro _)|refine sv ?_|(refine sc ?_ ?_<;>(intro h;try exact sz h))|((with_reducible first|apply z02|apply z0f|apply d_same0);exact gd;exact rfl;exact rfl;(first|exact hc _))|refine sg ?_ ?_<;>(intro h;first|exact sz h|refine sy h ?_)|exact sq|fail))
    all_goals (refine zd (l.length - (k+1)) (by omega) ⟨k+1,rfl,by omega,rfl,rfl,.cons rfl (.cons ?_ (.cons rfl .nil))⟩;rw[hq',hsm,hk1];simp_all;first|done|rfl)
set_option maxHeartbeats 1000000 in
theorem zaa{M:Mem}{v:LV}{x:Fr}(hv:FrV M v x)(hin:FrIn x):z9 Tryz.prog 99 [v] M (fun w M'=>w=I (errF x) /\ Grow M M'):=by
 obtain⟨a,f,e,rfl,hs⟩:=hv
 refine zb k99 rfl ?_
 dsimp only[x99,zM,zO,zI,zF,zS,zB,zL,zA,zE,zN,zW,zC,zipE,Nat.reduceAdd]
 have hc:∀ M',Grow M M'->z9 Tryz.prog 134 [.slice a x.2.2.length f e] M' (fun w M''=>w=.bool (smsB x.2.2) /\ M''=M'):=fun M' hg=>zf6 (hs.grow hg) hin.2.2.1
 repeat' first|with_reducible intro _|refine sv ?_|refine sc ?_ ?_<;>(intro h;try exact sz h)|((with_reducible first|apply z02|apply z0f|apply d_same0);exact gd;exact rfl;exact rfl;(first|exact zmh _ _ _ _|exact hc _ (xg)))|refine sg ?_ ?_<;>(intro h;first|exact sz h|refine sy h ?_)|exact sq|fail
 all_goals ((refine kf ?_);refine⟨?_,xg⟩;simp_all [packed,errF,frB])
theorem zon{M:Mem}{a:Option (Nat × Nat)}{l:List Int}{f:Bool}{e k:Nat}(hs:SlI M a l):z9 Tryz.prog 135 [.slice a l.length f e,I k] M (fun w M'=>w=I (getG l k) /\ M'=M):=by
 refine zb k135 rfl ?_
 dsimp only[x135,zM,zO,zI,zF,zS,zB,zL,zA,zE,zN,zW,zC,zipE,Nat.reduceAdd]
 by_cases hk:k < l.length
 ·obtain⟨i,o,rfl,hr⟩:=hs.rd hk
  rw[z3z hk]
  (have hrd0:=hr;repeat' (first|(with_reducible intro _)|refine sv ?_|(refine sc ?_ ?_<;>(intro h;try exact sz h))|refine sg ?_ ?_<;>(intro h;first|exact sz h|refine sy h ?_)|exact sq|fail))
  refine kf ?_
  exact⟨rfl,rfl⟩
 ·rw[z69 (by omega)]
  repeat' first|with_reducible intro _|refine sv ?_|refine sc ?_ ?_<;>(intro h;try exact sz h)|refine sg ?_ ?_<;>(intro h;first|exact sz h|refine sy h ?_)|exact sq|fail
  refine kf ?_
  exact⟨rfl,rfl⟩
theorem zjg{M:Mem}(a b:Int):z9 Tryz.prog 136 [I a,I b,I 40000,I 40001] M (fun w M'=>w=I (joinI a b) /\ M'=M):=by
 refine zb k136 rfl ?_
 dsimp only[x136,zM,zO,zI,zF,zS,zB,zL,zA,zE,zN,zW,zC,zipE,Nat.reduceAdd]
 repeat' first|with_reducible intro _|refine sv ?_|refine sc ?_ ?_<;>(intro h;try exact sz h)|refine sg ?_ ?_<;>(intro h;first|exact sz h|refine sy h ?_)|exact sq|fail
 all_goals ((refine kf ?_);refine⟨?_,rfl⟩;simp_all [packed,joinI])
theorem zml{M:Mem}(a b:Int):z9 Tryz.prog 170 [I a,I b] M (fun w M'=>w=I (joinI a b) /\ M'=M):=by
 refine zb k170 rfl ?_
 dsimp only[x170,zM,zO,zI,zF,zS,zB,zL,zE,zN,zW,zC,zipE,Nat.reduceAdd]
 repeat' first|with_reducible intro _|refine sv ?_|refine sc ?_ ?_<;>(intro h;try exact sz h)|refine sg ?_ ?_<;>(intro h;first|exact sz h|refine sy h ?_)|exact sq|fail
 all_goals ((refine kf ?_);refine⟨?_,rfl⟩;simp_all [packed,joinI])
set_option maxHeartbeats 2000000 in
theorem zoj{M:Mem}{a b:Option (Nat × Nat)}{la lb:List Int}{fa fb:Bool}{ea eb:Nat}(ha:SlI M a la)(hb:SlI M b lb)(hla:la.length<=1000000)(hlb:lb.length<=1000000) :
  z9 Tryz.prog 102 [.slice a la.length fa ea,.slice b lb.length fb eb] M (fun w M'=>Vec M.next 1 3 intc M' w (z19 la lb) /\ Grow M M'):=by
 refine zb k102 rfl ?_
 dsimp only[x102,zM,zO,zI,zF,zS,zB,zL,zA,zE,zN,zW,zC,zipE,Nat.reduceAdd]
 repeat' first|with_reducible intro _|refine sv ?_|refine sc ?_ ?_<;>(intro h;try exact sz h)|refine sg ?_ ?_<;>(intro h;first|exact sz h|refine sy h ?_)|exact sq|fail
 have hN:iMax (la.length:Int) (lb.length:Int)=((max la.length lb.length:Nat):Int):=zeb _ _
 generalize hNN:max la.length lb.length=N at hN
 have hlen:(z19 la lb).length=N:=by rw[z20,hNN]
 refine z8 (fun m E ms M'=>∃(k:Nat) (v:LV),m=N - k /\ k<=N /\ ms=[] /\ Has E [(0,.slice a la.length fa ea),(1,.slice b lb.length fb eb),(5,.func (.func 135) [] []),(6,v),(12,I N),(13,I k)] /\ Vec M.next 1 3 intc M' v ((z19 la lb).take k) /\ Grow M M' /\ M.next<=M'.next)
  ?_ N _ _ _ ⟨0,_,by omega,by omega,rfl,.cons rfl (.cons rfl (.cons rfl (.cons rfl (.cons (by rw[<-hN];rfl) (.cons rfl .nil))))),by rw[List.take_zero];exact Vec.nil,xg,Nat.le_refl _⟩
 rintro n E ms M' ⟨k,v,rfl,hk,rfl,hE,hv,hg,hle⟩
 refine zy hE ?_
 by_cases hlast:k=N
 ·subst hlast
  repeat' first|with_reducible intro _|refine sv ?_|refine sc ?_ ?_<;>(intro h;try exact sz h)|refine sg ?_ ?_<;>(intro h;first|exact sz h|refine sy h ?_)|exact sq|fail
  refine kf ?_
  rw[List.take_of_length_le (by omega)] at hv
  exact⟨hv,hg⟩
 ·have hlt:k < N:=by omega
  have ha':=ha.grow hg
  have hb':=hb.grow hg
  repeat' first|with_reducible intro _|refine sv ?_|refine sc ?_ ?_<;>(intro h;try exact sz h)|((with_reducible first|apply z02|apply z0f|apply d_same0);exact gd;exact rfl;exact rfl;(first|exact zon ha' | exact zon hb' | exact zjg _ _))|refine sg ?_ ?_<;>(intro h;first|exact sz h|refine sy h ?_)|exact sq|fail
  rename_i m M2 hn e1 e2
  have hv2:=hv.grow hn.grow
  have htl:((z19 la lb).take k).length=k:=by rw[List.length_take];omega
  refine z1l (by exact gd) (l':=[joinI (getG la k) (getG lb k)]) hv2 rfl rfl rfl (by simp) (by rw[htl,List.length_singleton];omega) rfl (z1k hn) (fun _=>rfl) (fun _=>rfl) (by omega) ?_
  intro v' M3 hv3 e3 hk3
  have hg3:Grow M M3:=Keep.to_grow' (hg.trans hn.grow) hk3 (fun i hi=>hi.1)
  repeat' first|with_reducible intro _|refine sv ?_|refine sc ?_ ?_<;>(intro h;try exact sz h)|refine sg ?_ ?_<;>(intro h;first|exact sz h|refine sy h ?_)|exact sq|fail
  refine zd (N - (k+1)) (by omega) ⟨k+1,v',rfl,by omega,rfl,.cons rfl (.cons rfl (.cons rfl (.cons rfl (.cons rfl (.cons rfl .nil))))),?_,hg3,by omega⟩
  rw[z91 (by omega)];exact hv3
theorem zbm{M:Mem}{v:LV}{x:Fr}{k:Nat}(hv:FrV M v x):z9 Tryz.prog 101 [v,I k] M (fun w M'=>w=I (getG x.2.2 k) /\ Grow M M'):=by
 obtain⟨a,f,e,rfl,hs⟩:=hv
 refine zb k101 rfl ?_
 dsimp only[x101,zM,zO,zI,zF,zS,zB,zL,zA,zE,zN,zW,zC,zipE,Nat.reduceAdd]
 by_cases hk:k < x.2.2.length
 ·obtain⟨i,o,rfl,hr⟩:=hs.rd hk
  rw[z3z hk]
  (have hrd0:=hr;repeat' (first|(with_reducible intro _)|refine sv ?_|(refine sc ?_ ?_<;>(intro h;try exact sz h))|refine sg ?_ ?_<;>(intro h;first|exact sz h|refine sy h ?_)|exact sq|fail))
  refine kf ?_
  exact⟨rfl,xg⟩
 ·rw[z69 (by omega)]
  repeat' first|with_reducible intro _|refine sv ?_|refine sc ?_ ?_<;>(intro h;try exact sz h)|refine sg ?_ ?_<;>(intro h;first|exact sz h|refine sy h ?_)|exact sq|fail
  refine kf ?_
  exact⟨rfl,xg⟩
theorem zmm{M:Mem}{v:LV}{x:Fr}(hv:FrV M v x):z9 Tryz.prog 69 [v] M (fun w M'=>w=.agg [I x.1,I x.2.1] /\ Grow M M'):=by
 obtain⟨a,f,e,rfl,hs⟩:=hv
 refine zb k69 rfl ?_
 dsimp only[x69,zM,zO,zI,zF,zS,zB,zL,zA,zE,zN,zW,zC,zipE,Nat.reduceAdd]
 repeat' first|with_reducible intro _|refine sv ?_|refine sc ?_ ?_<;>(intro h;try exact sz h)|refine sg ?_ ?_<;>(intro h;first|exact sz h|refine sy h ?_)|exact sq|fail
 refine kf ?_
 exact⟨rfl,xg⟩
theorem ze2{M:Mem}{v:LV}{x:Fr}(hv:FrV M v x)(hx:0<=x.1 /\ x.1<=60000 /\ 0<=x.2.1 /\ x.2.1<=23):z9 Tryz.prog 100 [v] M (fun w M'=>w=I (24*x.1+x.2.1) /\ Grow M M'):=by
 obtain⟨a,f,e,rfl,hs⟩:=hv
 refine zb k100 rfl ?_
 dsimp only[x100,zM,zO,zI,zF,zS,zB,zL,zA,zE,zN,zW,zC,zipE,Nat.reduceAdd]
 repeat' first|with_reducible intro _|refine sv ?_|refine sc ?_ ?_<;>(intro h;try exact sz h)|refine sg ?_ ?_<;>(intro h;first|exact sz h|refine sy h ?_)|exact sq|fail
 refine kf ?_
 exact⟨rfl,xg⟩
set_option maxHeartbeats 4000000 in
theorem zmf{M:Mem}{v w:LV}{x y:Fr}(hv:FrV M v x)(hw:FrV M w y)(hlx:x.2.2.length<=1000000)(hly:y.2.2.length<=1000000) :
  z9 Tryz.prog 145 [v,w] M (fun r M'=>FrB M.next M' r (x.1,x.2.1,z19 x.2.2 y.2.2) /\ Grow M M'):=by
 have hv0:=hv
 have hw0:=hw
 obtain⟨a,f,e,rfl,hs⟩:=hv
 obtain⟨b,f',e',rfl,hs'⟩:=hw
 refine zb k145 rfl ?_
 dsimp only[x145,zM,zO,zI,zF,zS,zB,zL,zA,zE,zN,zW,zC,zipE,Nat.reduceAdd]
 repeat' first|with_reducible intro _|refine sv ?_|refine sc ?_ ?_<;>(intro h;try exact sz h)|refine sg ?_ ?_<;>(intro h;first|exact sz h|refine sy h ?_)|exact sq|fail
 rename_i n2 M2 h2 e21 e22 n3 M3 h3 e31 e32 n4 M4 h4 e41 e42 n5 M5 h5 e51 e52 M6 hu6 e6 hA6
 have hN:iMax (x.2.2.length:Int) (y.2.2.length:Int)=((max x.2.2.length y.2.2.length:Nat):Int):=zeb _ _
 generalize hNN:max x.2.2.length y.2.2.length=N at hN
 have hlen:(z19 x.2.2 y.2.2).length=N:=by rw[z20,hNN]
 refine z8 (fun m E ms M'=>∃(k:Nat) (v:LV),m=N - k /\ k<=N /\ ms=[] /\ Has E [(2,.ptr (some (n2,0))),(3,.ptr (some (n3,0))),(4,.ptr (some (n4,0))),(5,.ptr (some (n5,0))),(6,I k)] /\
   At M' n2 (.cells true [I x.1,I x.2.1,.slice a x.2.2.length f e] 48) /\ At M' n3 (.cells true [I y.1,I y.2.1,.slice b y.2.2.length f' e'] 48) /\ At M' n4 (.cells true [I 0,I 0,.slice none 0 true 0] 48) /\ At M' n5 (.cells true [I x.1,I x.2.1,v] 48) /\
   Vec M6.next 1 3 intc M' v ((z19 x.2.2 y.2.2).take k) /\ Grow M M' /\ M6.next<=M'.next)
  ?_ N _ _ _ ⟨0,_,by omega,by omega,rfl,.cons rfl (.cons rfl (.cons rfl (.cons rfl (.cons rfl .nil)))),xm,xm,xm,hA6,by rw[List.take_zero];exact Vec.nil,xg,Nat.le_refl _⟩
 rintro n E ms M' ⟨k,v,rfl,hk,rfl,hE,hA2,hA3,hA4,hA5,hv,hg,hle⟩
 refine zy hE ?_
 by_cases hlast:k=N
 ·subst hlast
  rw[List.take_of_length_le (by omega)] at hv
  obtain⟨av,fv,ev,hve⟩:=hv.shape
  subst hve
  repeat' first|with_reducible intro _|refine sv ?_|refine sc ?_ ?_<;>(intro h;try exact sz h)|refine sg ?_ ?_<;>(intro h;first|exact sz h|refine sy h ?_)|exact sq|fail
  refine kf ?_
  rename_i M7 hu7 _ _
  obtain⟨av2,fv2,ev2,hve2,hvs⟩:=SlB.vec (hv.keep (F:=fun i=>i=n4) (M':=M7) (xk) (fun i hi=>by omega))
  cases hve2
  exact⟨⟨av,fv,ev,rfl,hvs.weaken (by omega)⟩,xg⟩
 ·have hlt:k < N:=by omega
  obtain⟨av,fv,ev,hve⟩:=hv.shape
  subst hve
  repeat' first|with_reducible intro _|refine sv ?_|refine sc ?_ ?_<;>(intro h;try exact sz h)|((with_reducible first|apply z0g|apply z0h|apply d_pure0);exact gd;exact rfl;exact rfl;(first|exact zbm (hv0.grow (xg))|exact zbm (hw0.grow (xg))))|refine sg ?_ ?_<;>(intro h;first|exact sz h|refine sy h ?_)|exact sq|fail
  rename_i M7 hg7 e7 M8 hg8 e8
  refine zkx (by exact gd) rfl rfl (show AppOk Tryz.prog (.func (.func 170) [] []) [I _,I _] _ _ from zml _ _) ?_
  rintro w M9 ⟨rfl,rfl⟩
  repeat' first|with_reducible intro _|refine sv ?_|refine sc ?_ ?_<;>(intro h;try exact sz h)|refine sg ?_ ?_<;>(intro h;first|exact sz h|refine sy h ?_)|exact sq|fail
  rename_i n9 M99 hn9 e9 e10
  have hv2:=((hv.grow hg7).grow hg8).grow hn9.grow
  have htl:((z19 x.2.2 y.2.2).take k).length=k:=by rw[List.length_take];omega
  refine zbt (by exact gd) (l':=[joinI (getG x.2.2 k) (getG y.2.2 k)]) hv2 rfl rfl rfl (by simp) (by rw[htl,List.length_singleton];omega) rfl (z1k hn9) (fun _=>rfl) (fun _=>rfl) (by omega) ?_
  intro v' M10 hv3 e11 hk3
  obtain⟨av',fv',ev',hve'⟩:=hv3.shape
  subst hve'
  have hg3:Grow M M10:=Keep.to_grow' (((hg.trans hg7).trans hg8).trans hn9.grow) hk3 (fun i hi=>by have:=hi.1;omega)
  have k5:∀ {i:Nat} {lb:LB},At M' i lb->i < M6.next->At M10 i lb:=fun h hi=>(((h.grow hg7).grow hg8).grow hn9.grow).keep hk3 (fun hh=>by have:=hh.1;omega)
  have a5:=k5 hA5 (by omega)
  have a2:=k5 hA2 (by omega)
  have a3:=k5 hA3 (by omega)
  have a4:=k5 hA4 (by omega)
  repeat' first|with_reducible intro _|refine sv ?_|refine sc ?_ ?_<;>(intro h;try exact sz h)|refine sg ?_ ?_<;>(intro h;first|exact sz h|refine sy h ?_)|exact sq|fail
  rename_i M11 hu11 _ hA11
  refine zd (N - (k+1)) (by omega) ⟨k+1,_,rfl,by omega,rfl,.cons rfl (.cons rfl (.cons rfl (.cons rfl (.cons rfl .nil)))),xm,xm,xm,hA11,?_,xg,by omega⟩
  rw[z91 (by omega)]
  exact hv3.keep (F:=fun i=>i=n5) (xk) (fun i hi=>by omega)
theorem zgn(n a b:Int)(M:Mem):z9 Tryz.prog 115 [I n,I a,I b] M (fun w M'=>w=.bool (btB n a b) /\ M'=M):=by
 refine zb k115 rfl ?_
 dsimp only[x115,zM,zO,zI,zF,zS,zB,zL,zA,zE,zN,zW,zC,zipE,Nat.reduceAdd]
 unfold btB
 repeat' first|with_reducible intro _|refine sv ?_|refine sc ?_ ?_<;>(intro h;try exact sz h)|refine sg ?_ ?_<;>(intro h;first|exact sz h|refine sy h ?_)|exact sq|fail
 all_goals ((refine kf ?_);refine⟨?_,rfl⟩;show LV.bool _=LV.bool _;congr 1;simp;omega)
set_option maxHeartbeats 4000000 in
theorem zjb(s:ByteArray)(hs:s.size<=1000000000000000)(M:Mem):z9 Tryz.prog 66 [.str s] M (fun w M'=>w=.bool (nmB s) /\ M'=M):=by
 refine zb k66 rfl ?_
 dsimp only[x66,zM,zO,zI,zF,zS,zB,zL,zA,zE,zN,zW,zC,zipE,Nat.reduceAdd]
 repeat' first|with_reducible intro _|refine sv ?_|refine sc ?_ ?_<;>(intro h;try exact sz h)|refine sg ?_ ?_<;>(intro h;first|exact sz h|refine sy h ?_)|exact sq|fail
 refine z8 (fun z E ms M'=>∃ k:Nat,z=s.size - k /\ k<=s.size /\ ms=[] /\ Has E [(0,.str s),(7,I s.size),(8,I k)] /\ M'=M /\ nmK s k=true)
  ?_ s.size _ _ _ ⟨0,by omega,by omega,rfl,.cons rfl (.cons rfl (.cons rfl .nil)),rfl,rfl⟩
 rintro z E ms M1 ⟨k,rfl,hk,rfl,hE,rfl,hok⟩
 refine zy hE ?_
 by_cases hlast:k=s.size
 ·subst hlast
  have hn:nmB s=btB s.size 1 16:=by unfold nmB;rw[hok];rfl
  rw[hn]
  repeat' first|with_reducible intro _|refine sv ?_|refine sc ?_ ?_<;>(intro h;try exact sz h)|((with_reducible first|apply z02|apply z0f|apply d_same0);exact gd;exact rfl;exact rfl;(first|exact zgn _ _ _ _))|refine sg ?_ ?_<;>(intro h;first|exact sz h|refine sy h ?_)|exact sq|fail
  refine kf ?_
  exact⟨rfl,rfl⟩
 have hlt:k < s.size:=by omega
 have hst:=zk2 s k
 rw[hok,Bool.true_and] at hst
 have hno:=zht (s:=s) (k:=k+1) (by omega)
 have hF:¬(97<=byteAt s k /\ byteAt s k<=122 ∨ k ≠ 0 /\ (byteAt s k=95 ∨ 48<=byteAt s k /\ byteAt s k<=57))->nmB s=false:=fun hh=>hno (by
  rw[hst,Bool.eq_false_iff]
  unfold ltB dgB
  simp only[ne_eq,Bool.or_eq_true,Bool.and_eq_true,decide_eq_true_eq]
  exact hh)
 have hT:(97<=byteAt s k /\ byteAt s k<=122 ∨ k ≠ 0 /\ (byteAt s k=95 ∨ 48<=byteAt s k /\ byteAt s k<=57))->nmK s (k+1)=true:=fun hh=>by
  rw[hst]
  unfold ltB dgB
  simp only[ne_eq,Bool.or_eq_true,Bool.and_eq_true,decide_eq_true_eq]
  exact hh
 clear hst hno
 repeat' first|with_reducible intro _|refine sv ?_|refine sc ?_ ?_<;>(intro h;try exact sz h)|refine sg ?_ ?_<;>(intro h;first|exact sz h|refine sy h ?_)|exact sq|fail
 all_goals first
  | exact zd (s.size - (k+1)) (by omega) ⟨k+1,rfl,by omega,rfl,.cons rfl (.cons rfl (.cons rfl .nil)),rfl,hT (by omega)⟩
  |(rw[hF (by omega)];(refine kf ?_);exact⟨rfl,rfl⟩)
  |(exfalso;omega)
set_option maxHeartbeats 4000000 in
theorem zgd(s:ByteArray)(hs:s.size<=1000000000000000)(M:Mem):z9 Tryz.prog 83 [.str s] M (fun w M'=>w=.bool (nmB s) /\ M'=M):=by
 refine zb k83 rfl ?_
 dsimp only[x83,zM,zO,zI,zF,zS,zB,zL,zA,zE,zN,zW,zC,zipE,Nat.reduceAdd]
 by_cases hz:¬(1<=s.size /\ s.size<=16)
 ·have hn:nmB s=false:=by unfold nmB btB;rw[decide_eq_false (by omega),Bool.and_false]
  rw[hn]
  repeat' first|with_reducible intro _|refine sv ?_|refine sc ?_ ?_<;>(intro h;try exact sz h)|refine sg ?_ ?_<;>(intro h;first|exact sz h|refine sy h ?_)|exact sq|fail
  all_goals try(exfalso;omega)
  all_goals ((refine kf ?_);exact⟨rfl,rfl⟩)
 have hz:1<=s.size /\ s.size<=16:=by omega
 by_cases hfst:¬(97<=byteAt s 0 /\ byteAt s 0<=122)
 ·have hn:nmB s=false:=zht (k:=1) hz.1 (by
   rw[zk2]
   unfold ltB
   rw[decide_eq_false hfst];rfl)
  rw[hn]
  repeat' first|with_reducible intro _|refine sv ?_|refine sc ?_ ?_<;>(intro h;try exact sz h)|refine sg ?_ ?_<;>(intro h;first|exact sz h|refine sy h ?_)|exact sq|fail
  refine z1w (by exact gd) (z6n (k:=0) rfl rfl hz.1) ?_
  repeat' first|with_reducible intro _|refine sv ?_|refine sc ?_ ?_<;>(intro h;try exact sz h)|refine sg ?_ ?_<;>(intro h;first|exact sz h|refine sy h ?_)|exact sq|fail
  ·refine kf ?_
   exact⟨rfl,rfl⟩
  ·refine z1w (by exact gd) (z6n (k:=0) rfl rfl hz.1) ?_
   repeat' first|with_reducible intro _|refine sv ?_|refine sc ?_ ?_<;>(intro h;try exact sz h)|refine sg ?_ ?_<;>(intro h;first|exact sz h|refine sy h ?_)|exact sq|fail
   all_goals try(exfalso;omega)
   refine kf ?_
   exact⟨rfl,rfl⟩
 have hfst:97<=byteAt s 0 /\ byteAt s 0<=122:=by omega
 repeat' first|with_reducible intro _|refine sv ?_|refine sc ?_ ?_<;>(intro h;try exact sz h)|refine sg ?_ ?_<;>(intro h;first|exact sz h|refine sy h ?_)|exact sq|fail
 refine z1w (by exact gd) (z6n (k:=0) rfl rfl hz.1) ?_
 repeat' first|with_reducible intro _|refine sv ?_|refine sc ?_ ?_<;>(intro h;try exact sz h)|refine sg ?_ ?_<;>(intro h;first|exact sz h|refine sy h ?_)|exact sq|fail
 all_goals try(exfalso;omega)
 refine z1w (by exact gd) (z6n (k:=0) rfl rfl hz.1) ?_
 repeat' first|with_reducible intro _|refine sv ?_|refine sc ?_ ?_<;>(intro h;try exact sz h)|refine sg ?_ ?_<;>(intro h;first|exact sz h|refine sy h ?_)|exact sq|fail
 all_goals try(exfalso;omega)
 refine z8 (fun z E ms M'=>∃ k:Nat,z=s.size - k /\ k<=s.size /\ ms=[] /\ Has E [(0,.str s),(3,I k)] /\ M'=M /\ nmK s k=true)
  ?_ s.size _ _ _ ⟨0,by omega,by omega,rfl,.cons rfl (.cons rfl .nil),rfl,rfl⟩
 rintro z E ms M1 ⟨k,rfl,hk,rfl,hE,rfl,hok⟩
 refine zy hE ?_
 by_cases hlast:k=s.size
 ·subst hlast
  have hn:nmB s=true:=by unfold nmB;rw[hok];exact decide_eq_true (by omega)
  rw[hn]
  repeat' first|with_reducible intro _|refine sv ?_|refine sc ?_ ?_<;>(intro h;try exact sz h)|refine sg ?_ ?_<;>(intro h;first|exact sz h|refine sy h ?_)|exact sq|fail
  refine kf ?_
  exact⟨rfl,rfl⟩
 have hlt:k < s.size:=by omega
 have hst:=zk2 s k
 rw[hok,Bool.true_and] at hst
 have hno:=zht (s:=s) (k:=k+1) (by omega)
 have hF:¬(97<=byteAt s k /\ byteAt s k<=122 ∨ k ≠ 0 /\ (byteAt s k=95 ∨ 48<=byteAt s k /\ byteAt s k<=57))->nmB s=false:=fun hh=>hno (by
  rw[hst,Bool.eq_false_iff]
  unfold ltB dgB
  simp only[ne_eq,Bool.or_eq_true,Bool.and_eq_true,decide_eq_true_eq]
  exact hh)
 have hT:(97<=byteAt s k /\ byteAt s k<=122 ∨ k ≠ 0 /\ (byteAt s k=95 ∨ 48<=byteAt s k /\ byteAt s k<=57))->nmK s (k+1)=true:=fun hh=>by
  rw[hst]
  unfold ltB dgB
  simp only[ne_eq,Bool.or_eq_true,Bool.and_eq_true,decide_eq_true_eq]
  exact hh
 clear hst hno
 have h0k:k=0->byteAt s k=byteAt s 0:=fun h=>by rw[h]
 repeat' first|with_reducible intro _|refine sv ?_|refine sc ?_ ?_<;>(intro h;try exact sz h)|refine sg ?_ ?_<;>(intro h;first|exact sz h|refine sy h ?_)|exact sq|fail
 all_goals first
  | exact zd (s.size - (k+1)) (by omega) ⟨k+1,rfl,by omega,rfl,.cons rfl (.cons rfl .nil),rfl,hT (by omega)⟩
  |(rw[hF (by omega)];(refine kf ?_);exact⟨rfl,rfl⟩)
  |(exfalso;omega)
theorem zb3{E:Env}{M:Mem}{x:XO}{i:Nat}{own:Bool}{p q:LV}{ty:TypeId}(hx:xval E x=some (.ptr (some (i,0))))(hm:At M i (.cells own [p,q] ty)):zf Tryz.prog (.slA 2 1 x none none none) E M=some (.val (.slice (some (i,0)) 2 true 1) M):=by
 show ob (xval E x) _=_
 rw[hx,z0]
 show guard' true (atCells M i _)=_
 rw[z6]
 unfold atCells
 rw[hm.1]
 rfl
theorem zol(a b:Int)(M:Mem):z9 Tryz.prog 146 [I a,I b] M (fun w M'=>w=I (cmpI8 a b) /\ M'=M):=by
 have cn:∀ n M,z9 Tryz.prog 171 [I n] M (fun w M'=>w=.bool false /\ M'=M):=fun n M=>by
  refine zb k171 rfl ?_
  dsimp only[x171,zM,zO,zI,zF,zS,zB,zL,zE,zN,zW,zC,zipE,Nat.reduceAdd]
  repeat' first|with_reducible intro _|refine sv ?_|refine sc ?_ ?_<;>(intro h;try exact sz h)|refine sg ?_ ?_<;>(intro h;first|exact sz h|refine sy h ?_)|exact sq|fail
  refine kf ?_
  refine⟨?_,rfl⟩
  show LV.bool _=LV.bool _
  simp
 refine zb k146 rfl ?_
 dsimp only[x146,zM,zO,zI,zF,zS,zB,zL,zE,zN,zW,zC,zipE,Nat.reduceAdd]
 unfold cmpI8
 repeat' first|with_reducible intro _|refine sv ?_|refine sc ?_ ?_<;>(intro h;try exact sz h)|((with_reducible first|apply z02|apply z0f|apply d_same0);exact gd;exact rfl;exact rfl;(first|exact cn _ _))|refine sg ?_ ?_<;>(intro h;first|exact sz h|refine sy h ?_)|exact sq|fail
 ·refine kf ?_
  rw[if_pos (by omega)]
  exact⟨rfl,rfl⟩
 ·refine kf ?_
  rw[if_neg (by omega),if_pos (by omega)]
  exact⟨rfl,rfl⟩
 ·refine kf ?_
  rw[if_neg (by omega),if_neg (by omega)]
  exact⟨rfl,rfl⟩
set_option maxHeartbeats 4000000 in
theorem zgc{M:Mem}{i j:Nat}{a1 a2 b1 b2:Int}{t u:TypeId}{f g:Bool}(ha:At M i (.cells true [I a1,I a2] t))(hb:At M j (.cells true [I b1,I b2] u)) :
  z9 Tryz.prog 118 [.slice (some (i,0)) 2 f 1,.slice (some (j,0)) 2 g 1] M (fun w M'=>w=I (cmpK (a1,a2) (b1,b2)) /\ M'=M):=by
 refine zb k118 rfl ?_
 dsimp only[x118,zM,zO,zI,zF,zS,zB,zL,zA,zE,zN,zW,zC,zipE,Nat.reduceAdd]
 have r0:Rd1 M i (0+0*1) (I a1):=Rd1.of_at ha rfl
 have r1:Rd1 M i (0+1*1) (I a2):=Rd1.of_at ha rfl
 have s0:Rd1 M j (0+0*1) (I b1):=Rd1.of_at hb rfl
 have s1:Rd1 M j (0+1*1) (I b2):=Rd1.of_at hb rfl
 have hA:cmpI8 a1 b1 ≠ 0->cmpK (a1,a2) (b1,b2)=cmpI8 a1 b1:=fun h=>by unfold cmpK;rw[if_pos h]
 have hB:cmpI8 a1 b1=0->cmpK (a1,a2) (b1,b2)=cmpI8 a2 b2:=fun h=>by unfold cmpK;rw[if_neg (by dsimp only;omega)]
 have cA:=zol a1 b1
 have cB:=zol a2 b2
 generalize cmpI8 a1 b1=A at *
 generalize cmpI8 a2 b2=B at *
 generalize cmpK (a1,a2) (b1,b2)=C at *
 repeat' first|with_reducible intro _|refine sv ?_|refine sc ?_ ?_<;>(intro h;try exact sz h)|refine sg ?_ ?_<;>(intro h;first|exact sz h|refine sy h ?_)|exact sq|fail
 refine z8 (fun z E ms M'=>∃ k:Nat,z=2 - k /\ k<=2 /\ ms=[] /\ Has E [(0,.slice (some (i,0)) 2 f 1),(1,.slice (some (j,0)) 2 g 1),(9,.slice (some (i,0)) 2 f 1),(10,I 2),(11,I k)] /\ M'=M /\ (1<=k->A=0) /\ (2<=k->B=0))
  ?_ 2 _ _ _ ⟨0,rfl,by omega,rfl,.cons rfl (.cons rfl (.cons rfl (.cons rfl (.cons rfl .nil)))),rfl,fun h=>by omega,fun h=>by omega⟩
 rintro z E ms M1 ⟨k,rfl,hk,rfl,hE,rfl,h1,h2⟩
 refine zy hE ?_
 match k,hk with
 | 0,_ =>
  (have hrd0:=r0;have hrd1:=s0;repeat' (first|(with_reducible intro _)|refine sv ?_|(refine sc ?_ ?_<;>(intro h;try exact sz h))|((with_reducible first|apply z02|apply z0f|apply d_same0);exact gd;exact rfl;exact rfl;(first|exact cA _))|refine sg ?_ ?_<;>(intro h;first|exact sz h|refine sy h ?_)|exact sq|fail))
  ·refine kf ?_
   rw[hA (by omega)]
   exact⟨rfl,rfl⟩
  ·exact zd 1 (by omega) ⟨1,rfl,by omega,rfl,.cons rfl (.cons rfl (.cons rfl (.cons rfl (.cons rfl .nil)))),rfl,fun _=>by omega,fun h=>by omega⟩
 | 1,_ =>
  have h1:=h1 (Nat.le_refl _)
  (have hrd0:=r1;have hrd1:=s1;repeat' (first|(with_reducible intro _)|refine sv ?_|(refine sc ?_ ?_<;>(intro h;try exact sz h))|((with_reducible first|apply z02|apply z0f|apply d_same0);exact gd;exact rfl;exact rfl;(first|exact cB _))|refine sg ?_ ?_<;>(intro h;first|exact sz h|refine sy h ?_)|exact sq|fail))
  ·refine kf ?_
   rw[hB h1]
   exact⟨rfl,rfl⟩
  ·exact zd 0 (by omega) ⟨2,rfl,by omega,rfl,.cons rfl (.cons rfl (.cons rfl (.cons rfl (.cons rfl .nil)))),rfl,fun _=>h1,fun _=>by omega⟩
 | 2,_ =>
  have h1:=h1 (by omega)
  have h2:=h2 (by omega)
  repeat' first|with_reducible intro _|refine sv ?_|refine sc ?_ ?_<;>(intro h;try exact sz h)|refine sg ?_ ?_<;>(intro h;first|exact sz h|refine sy h ?_)|exact sq|fail
  refine kf ?_
  rw[hB h1,h2]
  exact⟨rfl,rfl⟩
theorem z1q(a1 a2 b1 b2:Int)(M:Mem):z9 Tryz.prog 68 [.agg [I a1,I a2],.agg [I b1,I b2]] M (fun w M'=>w=I (cmpK (a1,a2) (b1,b2)) /\ Grow M M'):=by
 refine zb k68 rfl ?_
 dsimp only[x68,zM,zO,zI,zF,zS,zB,zL,zA,zE,zN,zW,zC,zipE,Nat.reduceAdd]
 repeat' first|with_reducible intro _|refine sv ?_|refine sc ?_ ?_<;>(intro h;try exact sz h)|refine sg ?_ ?_<;>(intro h;first|exact sz h|refine sy h ?_)|exact sq|fail
 rename_i m1 M1 hN1 q1 q2 m2 M2 hN2 q3 q4
 have h1:At M2 m1 (.cells true [I a1,I a2] 114):=xm
 have h2:At M2 m2 (.cells true [I b1,I b2] 114):=xm
 refine z6l (by exact gd) (zb3 rfl h1) (fun m=>At m m1 (.cells true [I a1,I a2] 114)) (fun m hm=>zb3 rfl hm) ?_
 refine z6l (by exact gd) (zb3 rfl h2) (fun m=>At m m2 (.cells true [I b1,I b2] 114)) (fun m hm=>zb3 rfl hm) ?_
 repeat' first|with_reducible intro _|refine sv ?_|refine sc ?_ ?_<;>(intro h;try exact sz h)|((with_reducible first|apply z02|apply z0f|apply d_same0);exact gd;exact rfl;exact rfl;(first|exact zgc h1 h2))|refine sg ?_ ?_<;>(intro h;first|exact sz h|refine sy h ?_)|exact sq|fail
 refine kf ?_
 exact⟨rfl,xg⟩
theorem zma{n:Nat}(h:n < 256):byteL (u8 n)=LV.int .u8 (n:Int):=by
 show LV.int .u8 (((u8 n).toNat:Nat):Int)=_
 rw[u8_n h]
theorem zj9{n:Nat}(h:n < 256):[LV.int .u8 (n:Int)]=z7e [u8 n]:=by
 show _=[byteL (u8 n)]
 rw[zma h]
set_option maxHeartbeats 4000000 in
theorem z62(n:Nat)(hn:n<=1000000000000)(M:Mem):z9 Tryz.prog 126 [I n] M (fun w M'=>w=.str (strL [u8 (n % 256)]) /\ Grow M M'):=by
 refine zb k126 rfl ?_
 dsimp only[x126,zM,zO,zI,zF,zS,zB,zL,zA,zE,zN,zW,zC,zipE,Nat.reduceAdd]
 repeat' first|with_reducible intro _|refine sv ?_|refine sc ?_ ?_<;>(intro h;try exact sz h)|refine sg ?_ ?_<;>(intro h;first|exact sz h|refine sy h ?_)|exact sq|fail
 rename_i m M1 hN q1 q2
 have h2:(n:Int) % 256=((n % 256:Nat):Int):=by omega
 rw[h2,zj9 (by omega)] at hN
 have hr:Rd M1 m 0 1 (z7e [u8 (n % 256)]):=Rd.of_at (At.new_same hN) rfl
 refine z1w (by exact gd) (znw rfl hr) ?_
 repeat' first|with_reducible intro _|refine sv ?_|refine sc ?_ ?_<;>(intro h;try exact sz h)|refine sg ?_ ?_<;>(intro h;first|exact sz h|refine sy h ?_)|exact sq|fail
 refine kf ?_
 exact⟨rfl,hN.grow⟩
theorem zlc(n:Nat)(hn:n<=65535)(M:Mem):z9 Tryz.prog 150 [I n] M (fun w M'=>w=.str (strL (twoL n)) /\ Grow M M'):=by
 refine zb k150 rfl ?_
 dsimp only[x150,zM,zO,zI,zF,zS,zB,zL,zE,zN,zW,zC,zipE,Nat.reduceAdd]
 have h1:(n:Int) / 256=((n / 256:Nat):Int):=by omega
 have c1:=z62 (n / 256) (by omega)
 have c2:=z62 n (by omega)
 rw[show n / 256 % 256=n / 256 from by omega] at c1
 rw[<-h1] at c1
 repeat' first|with_reducible intro _|refine sv ?_|refine sc ?_ ?_<;>(intro h;try exact sz h)|((with_reducible first|apply z0g|apply z0h|apply d_pure0);exact gd;exact rfl;exact rfl;(first|exact c1 _|exact c2 _))|refine sg ?_ ?_<;>(intro h;first|exact sz h|refine sy h ?_)|exact sq|fail
 rename_i M1 hg1 l1 M2 hg2 l2
 refine z1w (by exact gd) (z26 rfl rfl (by rw[zn,zn];simp)) ?_
 rw[z1t]
 repeat' first|with_reducible intro _|refine sv ?_|refine sc ?_ ?_<;>(intro h;try exact sz h)|refine sg ?_ ?_<;>(intro h;first|exact sz h|refine sy h ?_)|exact sq|fail
 refine kf ?_
 exact⟨rfl,xg⟩
set_option maxHeartbeats 4000000 in
theorem zom(n:Nat)(hn:n<=1000000000000)(M:Mem):z9 Tryz.prog 151 [I n] M (fun w M'=>w=.str (strL (cdN n)) /\ Grow M M'):=by
 refine zb k151 rfl ?_
 dsimp only[x151,zM,zO,zI,zF,zS,zB,zL,zE,zN,zW,zC,zipE,Nat.reduceAdd]
 have hlen:=z4u n
 repeat' first|with_reducible intro _|refine sv ?_|refine sc ?_ ?_<;>(intro h;try exact sz h)|refine sg ?_ ?_<;>(intro h;first|exact sz h|refine sy h ?_)|exact sq|fail
 refine z8 (fun z E ms M'=>∃(m:Nat) (pre:List UInt8),z=m /\ m<=n /\ ms=[] /\ Has E [(0,I m),(3,.str (strL pre))] /\ Grow M M' /\ pre ++ cdN m=cdN n)
  ?_ n _ _ _ ⟨n,[],rfl,Nat.le_refl _,rfl,.cons rfl (.cons rfl .nil),Grow.refl _,rfl⟩
 rintro z E ms M1 ⟨m,pre,hz,hm,rfl,hE,hg1,hpre⟩
 refine zy hE ?_
 have hpl:pre.length+(cdN m).length=(cdN n).length:=by rw[<-hpre,List.length_append]
 by_cases h128:128<=m
 ·have h1:(m:Int) / 128=((m / 128:Nat):Int):=by omega
  have h2:128+(m:Int) % 128=((m % 128+128:Nat):Int):=by omega
  have c1:=z62 (m % 128+128) (by omega)
  rw[show(m % 128+128) % 256=m % 128+128 from by omega] at c1
  rw[<-h2] at c1
  have hge:=zbo h128
  repeat' first|with_reducible intro _|refine sv ?_|refine sc ?_ ?_<;>(intro h;try exact sz h)|((with_reducible first|apply z0g|apply z0h|apply d_pure0);exact gd;exact rfl;exact rfl;(first|exact c1 _))|refine sg ?_ ?_<;>(intro h;first|exact sz h|refine sy h ?_)|exact sq|fail
  refine z1w (by exact gd) (z26 rfl rfl (by rw[zn,zn];simp;omega)) ?_
  rw[z1t]
  repeat' first|with_reducible intro _|refine sv ?_|refine sc ?_ ?_<;>(intro h;try exact sz h)|refine sg ?_ ?_<;>(intro h;first|exact sz h|refine sy h ?_)|exact sq|fail
  exact zd (m / 128) (by omega) ⟨m / 128,pre ++ [u8 (m % 128+128)],rfl,by omega,rfl,.cons (by rw[<-h1];rfl) (.cons rfl .nil),xg,by rw[List.append_assoc,<- hpre,hge];rfl⟩
 ·have c1:=z62 m (by omega)
  rw[show m % 256=m from by omega] at c1
  rw[z95 (by omega)] at hpre
  rw[<-hpre]
  repeat' first|with_reducible intro _|refine sv ?_|refine sc ?_ ?_<;>(intro h;try exact sz h)|((with_reducible first|apply z0g|apply z0h|apply d_pure0);exact gd;exact rfl;exact rfl;(first|exact c1 _))|refine sg ?_ ?_<;>(intro h;first|exact sz h|refine sy h ?_)|exact sq|fail
  refine z1w (by exact gd) (z26 rfl rfl (by rw[zn,zn];simp;omega)) ?_
  rw[z1t]
  repeat' first|with_reducible intro _|refine sv ?_|refine sc ?_ ?_<;>(intro h;try exact sz h)|refine sg ?_ ?_<;>(intro h;first|exact sz h|refine sy h ?_)|exact sq|fail
  refine kf ?_
  exact⟨rfl,xg⟩
theorem znj{c:Int}(h:0<=c /\ c<=65535):stepB c=if 2*c < 65536 then 2*c else xorZ (2*c - 65536) 4129:=by
 unfold stepB
 rw[shl1]
 by_cases h1:2*c < 65536
 ·rw[if_neg (by omega),if_pos h1]
 ·rw[if_pos (by omega),if_neg h1]
  congr 1
  unfold andZ
  rw[show(65535:Int).toNat=2 ^ 16 - 1 from rfl,Nat.and_two_pow_sub_one_eq_mod]
  have h4:(2*c).toNat=2*c.toNat:=by omega
  rw[h4,show(2:Nat) ^ 16=65536 from rfl]
  omega
set_option maxHeartbeats 4000000 in
theorem zoc(s:ByteArray)(hs:s.size<=140737488355328)(M:Mem):z9 Tryz.prog 152 [.str s] M (fun w M'=>w=I (crcK s s.size) /\ M'=M):=by
 refine zb k152 rfl ?_
 dsimp only[x152,zM,zO,zI,zF,zS,zB,zL,zE,zN,zW,zC,zipE,Nat.reduceAdd]
 repeat' first|with_reducible intro _|refine sv ?_|refine sc ?_ ?_<;>(intro h;try exact sz h)|refine sg ?_ ?_<;>(intro h;first|exact sz h|refine sy h ?_)|exact sq|fail
 refine z8 (fun n E ms M'=>∃ k:Nat,n=s.size - k /\ k<=s.size /\ ms=[] /\ M'=M /\ Has E [(0,.str s),(3,I (crcK s k)),(4,I k)])
  ?_ s.size _ _ _ ⟨0,by omega,by omega,rfl,rfl,.cons rfl (.cons rfl (.cons rfl .nil))⟩
 rintro n E ms M' ⟨k,rfl,hk,rfl,rfl,hE⟩
 refine zy hE ?_
 have hb:=z65 s k
 have hb2:=z0p s k
 have h8:=shl8 ((byteAt s k:Nat):Int)
 by_cases hlast:k=s.size
 ·subst hlast
  repeat' first|with_reducible intro _|refine sv ?_|refine sc ?_ ?_<;>(intro h;try exact sz h)|refine sg ?_ ?_<;>(intro h;first|exact sz h|refine sy h ?_)|exact sq|fail
  refine kf ?_
  exact⟨rfl,rfl⟩
 ·have hlt:k < s.size:=by omega
  have h8':((byteAt s k:Nat):Int)*256=shlZ ((byteAt s k:Nat):Int) 8:=by rw[h8];omega
  repeat' first|with_reducible intro _|refine sv ?_|refine sc ?_ ?_<;>(intro h;try exact sz h)|refine sg ?_ ?_<;>(intro h;first|exact sz h|refine sy h ?_)|exact sq|fail
  have hc0:=zb2 (a:=crcK s k) (b:=shlZ ((byteAt s k:Nat):Int) 8) hb (by omega)
  have hst:crcK s (k+1)=stepN 8 (xorZ (crcK s k) (shlZ ((byteAt s k:Nat):Int) 8)):=rfl
  rw[h8']
  generalize hg:xorZ (crcK s k) (shlZ ((byteAt s k:Nat):Int) 8)=c0 at hc0 hst ⊢
  refine z8 (fun n E ms M2=>∃ j:Nat,n=8 - j /\ j<=8 /\ ms=[] /\ M2=M' /\ Has E [(0,.str s),(3,I (stepN j c0)),(4,I k),(5,I j)])
   ?_ 8 _ _ _ ⟨0,by omega,by omega,rfl,rfl,.cons rfl (.cons rfl (.cons rfl (.cons rfl .nil)))⟩
  rintro n E ms M2 ⟨j,rfl,hj,rfl,rfl,hE⟩
  refine zy hE ?_
  have hb3:=z79 hc0 j
  by_cases hj8:j=8
  ·subst hj8
   repeat' first|with_reducible intro _|refine sv ?_|refine sc ?_ ?_<;>(intro h;try exact sz h)|refine sg ?_ ?_<;>(intro h;first|exact sz h|refine sy h ?_)|exact sq|fail
   refine zd (s.size - (k+1)) (by omega) ⟨k+1,rfl,by omega,rfl,rfl,.cons rfl (.cons (by rw[hst];rfl) (.cons rfl .nil))⟩
  ·have h2:stepN (j+1) c0=_:=znj hb3
   generalize hC:stepN j c0=c at *
   by_cases h9:2*c < 65536
   ·rw[if_pos h9] at h2
    repeat' first|with_reducible intro _|refine sv ?_|refine sc ?_ ?_<;>(intro h;try exact sz h)|refine sg ?_ ?_<;>(intro h;first|exact sz h|refine sy h ?_)|exact sq|fail
    all_goals try(exfalso;omega)
    exact zd (8 - (j+1)) (by omega) ⟨j+1,rfl,by omega,rfl,rfl,.cons rfl (.cons (by rw[h2];rfl) (.cons rfl (.cons rfl .nil)))⟩
   ·rw[if_neg h9] at h2
    repeat' first|with_reducible intro _|refine sv ?_|refine sc ?_ ?_<;>(intro h;try exact sz h)|refine sg ?_ ?_<;>(intro h;first|exact sz h|refine sy h ?_)|exact sq|fail
    all_goals try(exfalso;omega)
    exact zd (8 - (j+1)) (by omega) ⟨j+1,rfl,by omega,rfl,rfl,.cons rfl (.cons (by rw[h2];rfl) (.cons rfl (.cons rfl .nil)))⟩
theorem zgg(l:List UInt8)(hl:l.length<=1000000000)(M:Mem):z9 Tryz.prog 125 [.str (strL l)] M (fun w M'=>w=.str (strL (chkL l)) /\ Grow M M'):=by
 refine zb k125 rfl ?_
 dsimp only[x125,zM,zO,zI,zF,zS,zB,zL,zA,zE,zN,zW,zC,zipE,Nat.reduceAdd]
 have hb:=z65 (strL l) l.length
 obtain⟨n,hn⟩:∃ n:Nat,crcK (strL l) l.length=(n:Int):=⟨(crcK (strL l) l.length).toNat,by omega⟩
 have c1:=zoc (strL l) (by rw[zn];omega)
 rw[zn] at c1
 have hc:chkL l=l ++ twoL n:=by unfold chkL;rw[hn];rfl
 rw[hc]
 rw[hn] at c1
 have c2:=zlc n (by omega)
 repeat' first|with_reducible intro _|refine sv ?_|refine sc ?_ ?_<;>(intro h;try exact sz h)|((with_reducible first|apply z02|apply z0f|apply d_same0);exact gd;exact rfl;exact rfl;(first|exact c1 _))|((with_reducible first|apply z0g|apply z0h|apply d_pure0);exact gd;exact rfl;exact rfl;(first|exact c2 _))|refine sg ?_ ?_<;>(intro h;first|exact sz h|refine sy h ?_)|exact sq|fail
 refine z1w (by exact gd) (z26 rfl rfl (by rw[zn,zn];unfold twoL;simp;omega)) ?_
 rw[z1t]
 repeat' first|with_reducible intro _|refine sv ?_|refine sc ?_ ?_<;>(intro h;try exact sz h)|refine sg ?_ ?_<;>(intro h;first|exact sz h|refine sy h ?_)|exact sq|fail
 refine kf ?_
 exact⟨rfl,xg⟩
theorem zmj(c:Int)(h:0<=c /\ c<=131070)(M:Mem):z9 Tryz.prog 151 [I c] M (fun w M'=>w=.str (strL (cdN c.toNat)) /\ Grow M M'):=by
 obtain⟨n,rfl⟩:∃ n:Nat,c=(n:Int):=⟨c.toNat,by omega⟩
 exact zom n (by omega) M
set_option maxHeartbeats 8000000 in
theorem zgk{M:Mem}{v:LV}{x:Fr}(hv:FrV M v x)(hx:frB x=true):z9 Tryz.prog 124 [v] M (fun w M'=>w=.str (strL (pkL x)) /\ Grow M M'):=by
 obtain⟨a,f,e,rfl,hs⟩:=hv
 obtain⟨s,c,l⟩:=x
 have hbd:=z7v hx
 dsimp only at hbd hs ⊢
 obtain⟨hs1,hs2,hc1,hc2,hsm⟩:=hbd
 have hln:1<=l.length /\ l.length<=64 /\ l.all smB=true:=by
  unfold smsB btB at hsm
  simp only[Bool.and_eq_true,decide_eq_true_eq] at hsm
  exact⟨by omega,by omega,hsm.2⟩
 obtain⟨s,rfl⟩:∃ n:Nat,s=(n:Int):=⟨s.toNat,by omega⟩
 obtain⟨c,rfl⟩:∃ n:Nat,c=(n:Int):=⟨c.toNat,by omega⟩
 have hpk:pkL ((s:Int),(c:Int),l)=chkL ((([165,90] ++ twoL s) ++ [u8 c,u8 l.length]) ++ cdsL l l.length):=rfl
 rw[hpk]
 refine zb k124 rfl ?_
 dsimp only[x124,zM,zO,zI,zF,zS,zB,zL,zA,zE,zN,zW,zC,zipE,Nat.reduceAdd]
 have co1:=z62 c (by omega)
 have co2:=z62 l.length (by omega)
 rw[show c % 256=c from by omega] at co1
 rw[show l.length % 256=l.length from by omega] at co2
 repeat' first|with_reducible intro _|refine sv ?_|refine sc ?_ ?_<;>(intro h;try exact sz h)|((with_reducible first|apply z0g|apply z0h|apply d_pure0);exact gd;exact rfl;exact rfl;(first|exact zlc s (by omega) _))|refine sg ?_ ?_<;>(intro h;first|exact sz h|refine sy h ?_)|exact sq|fail
 refine z8t (by exact gd) (z26 (s:=strL [165,90]) rfl rfl (by rw[zn,zn];simp[twoL])) ?_
 rw[z1t]
 repeat' first|with_reducible intro _|refine sv ?_|refine sc ?_ ?_<;>(intro h;try exact sz h)|((with_reducible first|apply z0g|apply z0h|apply d_pure0);exact gd;exact rfl;exact rfl;(first|exact co1 _))|refine sg ?_ ?_<;>(intro h;first|exact sz h|refine sy h ?_)|exact sq|fail
 refine z8t (by exact gd) (z26 rfl rfl (by rw[zn,zn];simp[twoL])) ?_
 rw[z1t]
 repeat' first|with_reducible intro _|refine sv ?_|refine sc ?_ ?_<;>(intro h;try exact sz h)|((with_reducible first|apply z0g|apply z0h|apply d_pure0);exact gd;exact rfl;exact rfl;(first|exact co2 _))|refine sg ?_ ?_<;>(intro h;first|exact sz h|refine sy h ?_)|exact sq|fail
 refine z8t (by exact gd) (z26 rfl rfl (by rw[zn,zn];simp[twoL])) ?_
 rw[z1t,show(([165,90] ++ twoL s) ++ [u8 c]) ++ [u8 l.length]=([165,90] ++ twoL s) ++ [u8 c,u8 l.length] from by simp]
 generalize hHd:([165,90] ++ twoL s) ++ [u8 c,u8 l.length]=hd at *
 have hhl:hd.length=6:=by rw[<-hHd];simp[twoL]
 repeat' first|with_reducible intro _|refine sv ?_|refine sc ?_ ?_<;>(intro h;try exact sz h)|refine sg ?_ ?_<;>(intro h;first|exact sz h|refine sy h ?_)|exact sq|fail
 rename_i m1 N1 hN1 q1 q2 N2 hg2 l2 N3 hg3 l3 N4 hg4 l4
 have hA1:At N4 m1 (.cells true [I s,I c,.slice a l.length f e] 48):=xm
 have hgN:Grow M N4:=xg
 clear hN1 hg2 hg3 hg4
 refine z8 (fun z E ms M'=>∃ k:Nat,z=l.length - k /\ k<=l.length /\ ms=[] /\ Has E [(1,.ptr (some (m1,0))),(3,.str (strL (hd ++ cdsL l k))),(4,I (lsA l k)),(5,I k)] /\ Grow M M' /\ At M' m1 (.cells true [I s,I c,.slice a l.length f e] 48))
  ?_ l.length _ _ _ ⟨0,by omega,by omega,rfl,.cons rfl (.cons (by rw[show cdsL l 0=[] from rfl,List.append_nil];rfl) (.cons rfl (.cons rfl .nil))),hgN,hA1⟩
 rintro z E ms M1 ⟨k,rfl,hk,rfl,hE,hg1,hA⟩
 refine zy hE ?_
 have hcl:=zah l k
 by_cases hlast:k=l.length
 ·subst hlast
  have cch:=zgg (hd ++ cdsL l l.length) (by rw[List.length_append];omega)
  repeat' first|with_reducible intro _|refine sv ?_|refine sc ?_ ?_<;>(intro h;try exact sz h)|((with_reducible first|apply z0g|apply z0h|apply d_pure0);exact gd;exact rfl;exact rfl;(first|exact cch _))|refine sg ?_ ?_<;>(intro h;first|exact sz h|refine sy h ?_)|exact sq|fail
  refine kf ?_
  exact⟨rfl,xg⟩
 have hlt:k < l.length:=by omega
 obtain⟨i,o,rfl,hr⟩:=(hs.grow hg1).rd hlt
 rw[<-z3z hlt] at hr
 have hb:=zho l k
 have hcd:=zld l k
 have hsi:smB (getG l k)=true:=by
  have:=hln.2.2
  rw[List.all_eq_true] at this
  rw[z3z hlt]
  exact this _ (List.getElem_mem hlt)
 have hcA:cdA l k=(cdS (getG l k) (lsA l k)).1:=rfl
 have hlA:lsA l (k+1)=(cdS (getG l k) (lsA l k)).2:=rfl
 have hbl:(hd ++ cdsL l k).length<=100000:=by rw[List.length_append];omega
 generalize hv:getG l k=v at *
 generalize hla:lsA l k=la at *
 generalize hcc:cdA l k=cc at *
 have ccd:=zmj cc hcd
 have hgt:Grow M M1 /\ True:=⟨hg1,trivial⟩
 unfold cdS at hcA hlA
 unfold smB at hsi
 by_cases h0:v=40000
 ·have hk0:knB v=false:=by subst h0;rfl
  rw[if_neg (by omega),hk0,if_neg (by decide)] at hcA hlA
  dsimp only at hcA hlA
  subst hcA
  (have hrd0:=hr;repeat' (first|(with_reducible intro _)|refine sv ?_|(refine sc ?_ ?_<;>(intro h;try exact sz h))|((with_reducible first|apply z0g|apply z0h|apply d_pure0);exact gd;exact rfl;exact rfl;(first|exact ccd _))|refine sg ?_ ?_<;>(intro h;first|exact sz h|refine sy h ?_)|exact sq|fail))
  refine z1w (by exact gd) (z26 rfl rfl (by rw[zn,zn];have:=z4u (0:Int).toNat;omega)) ?_
  rw[z1t]
  repeat' first|with_reducible intro _|refine sv ?_|refine sc ?_ ?_<;>(intro h;try exact sz h)|refine sg ?_ ?_<;>(intro h;first|exact sz h|refine sy h ?_)|exact sq|fail
  exact zd (l.length - (k+1)) (by omega) ⟨k+1,rfl,by omega,rfl,.cons rfl (.cons (by rw[z96,hcc,<- List.append_assoc];rfl) (.cons (by rw[hlA];rfl) (.cons rfl .nil))),xg,xm⟩
 ·by_cases h1:v=40001
  ·rw[if_pos h1] at hcA hlA
   dsimp only at hcA hlA
   subst hcA
   (have hrd0:=hr;repeat' (first|(with_reducible intro _)|refine sv ?_|(refine sc ?_ ?_<;>(intro h;try exact sz h))|((with_reducible first|apply z0g|apply z0h|apply d_pure0);exact gd;exact rfl;exact rfl;(first|exact ccd _))|refine sg ?_ ?_<;>(intro h;first|exact sz h|refine sy h ?_)|exact sq|fail))
   refine z1w (by exact gd) (z26 rfl rfl (by rw[zn,zn];have:=z4u (1:Int).toNat;omega)) ?_
   rw[z1t]
   repeat' first|with_reducible intro _|refine sv ?_|refine sc ?_ ?_<;>(intro h;try exact sz h)|refine sg ?_ ?_<;>(intro h;first|exact sz h|refine sy h ?_)|exact sq|fail
   exact zd (l.length - (k+1)) (by omega) ⟨k+1,rfl,by omega,rfl,.cons rfl (.cons (by rw[z96,hcc,<- List.append_assoc];rfl) (.cons (by rw[hlA];rfl) (.cons rfl .nil))),xg,xm⟩
  ·have hkn:knB v=true:=by
    rw[decide_eq_false h0,decide_eq_false h1] at hsi
    simpa using hsi
   have hvb:-32767<=v /\ v<=32767:=of_decide_eq_true hkn
   rw[if_neg h1,hkn,if_pos rfl] at hcA hlA
   dsimp only at hcA hlA
   by_cases h2:v - la < 0
   ·rw[if_pos h2] at hcA
    subst hcA
    (have hrd0:=hr;repeat' (first|(with_reducible intro _)|refine sv ?_|(refine sc ?_ ?_<;>(intro h;try exact sz h))|((with_reducible first|apply z0g|apply z0h|apply d_pure0);exact gd;exact rfl;exact rfl;(first|exact ccd _))|refine sg ?_ ?_<;>(intro h;first|exact sz h|refine sy h ?_)|exact sq|fail))
    all_goals try(exfalso;omega)
    refine z1w (by exact gd) (z26 rfl rfl (by rw[zn,zn];have:=z4u (1 - 2*(v - la)).toNat;omega)) ?_
    rw[z1t]
    repeat' first|with_reducible intro _|refine sv ?_|refine sc ?_ ?_<;>(intro h;try exact sz h)|refine sg ?_ ?_<;>(intro h;first|exact sz h|refine sy h ?_)|exact sq|fail
    exact zd (l.length - (k+1)) (by omega) ⟨k+1,rfl,by omega,rfl,.cons rfl (.cons (by rw[z96,hcc,<- List.append_assoc];rfl) (.cons (by rw[hlA];rfl) (.cons rfl .nil))),xg,xm⟩
   ·rw[if_neg h2] at hcA
    subst hcA
    (have hrd0:=hr;repeat' (first|(with_reducible intro _)|refine sv ?_|(refine sc ?_ ?_<;>(intro h;try exact sz h))|((with_reducible first|apply z0g|apply z0h|apply d_pure0);exact gd;exact rfl;exact rfl;(first|exact ccd _))|refine sg ?_ ?_<;>(intro h;first|exact sz h|refine sy h ?_)|exact sq|fail))
    all_goals try(exfalso;omega)
    refine z1w (by exact gd) (z26 rfl rfl (by rw[zn,zn];have:=z4u (2*(v - la)+2).toNat;omega)) ?_
    rw[z1t]
    repeat' first|with_reducible intro _|refine sv ?_|refine sc ?_ ?_<;>(intro h;try exact sz h)|refine sg ?_ ?_<;>(intro h;first|exact sz h|refine sy h ?_)|exact sq|fail
    exact zd (l.length - (k+1)) (by omega) ⟨k+1,rfl,by omega,rfl,.cons rfl (.cons (by rw[z96,hcc,<- List.append_assoc];rfl) (.cons (by rw[hlA];rfl) (.cons rfl .nil))),xg,xm⟩
