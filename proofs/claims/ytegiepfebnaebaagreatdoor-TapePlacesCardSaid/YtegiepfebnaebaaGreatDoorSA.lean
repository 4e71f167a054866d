/-
 Part of the proof of TapePlaces. No condition beyond those in each theorem.
-/
import Derived.Test.YtegiepfebnaebaaGreatDoorPvH
import Derived.Test.YtegiepfebnaebaaGreatDoorPvG
import Derived.Test.YtegiepfebnaebaaGreatDoorTX
import Derived.Test.YtegiepfebnaebaaGreatDoorTW
section
open PvL Go
set_option linter.unusedSimpArgs false
set_option linter.unusedVariables false
namespace Go.Proofs.YtegiepfebnaebaaGreatDoor.C
def SlI (M:Mem) (a:Option (Nat × Nat)) (l:List Int):Prop:=l=[] ∨ ∃ i o,a=some (i,o) /\ ∀ k (hk:k < l.length),Rd1 M i (o+k*1) (I l[k])
theorem SlI.grow {M M':Mem} {a:Option (Nat × Nat)} {l:List Int} (h:SlI M a l) (hg:Grow M M'):SlI M' a l :=
 h.imp id fun ⟨i,o,h1,h2⟩=>⟨i,o,h1,fun k hk=>(h2 k hk).grow hg⟩
theorem SlI.rd {M:Mem} {a:Option (Nat × Nat)} {l:List Int} (h:SlI M a l) {k:Nat} (hk:k < l.length):∃ i o,a=some (i,o) /\ Rd1 M i (o+k*1) (I l[k]):=by
 rcases h with rfl|⟨i,o,h1,h2⟩
 ·exact absurd hk (Nat.not_lt_zero _)
 ·exact ⟨i,o,h1,h2 k hk⟩
abbrev intc (n:Int):List LV:=[I n]
abbrev frSh:Sh:=.pair (.int .i64) (.pair (.int .i64) (.sl (.int .i64) 8))
abbrev Fr:=Int × Int × List Int
def FrV (M:Mem) (v:LV) (x:Fr):Prop:=∃ a f e,v=.agg [I x.1,I x.2.1,.slice a x.2.2.length f e] /\ SlI M a x.2.2
def I64 (n:Int):Prop:=-9223372036854775808<=n /\ n<=9223372036854775807
def FrIn (x:Fr):Prop:=I64 x.1 /\ I64 x.2.1 /\ x.2.2.length<=1000000000000000 /\ ∀ n ∈ x.2.2,I64 n
theorem FrV.grow {M M':Mem} {v:LV} {x:Fr} (h:FrV M v x) (hg:Grow M M'):FrV M' v x:=by
 obtain ⟨a,f,e,h1,h2⟩:=h
 exact ⟨a,f,e,h1,h2.grow hg⟩
def knB (n:Int):Bool:=decide (-32767<=n /\ n<=32767)
def smB (n:Int):Bool:=knB n || (decide (n=40000) || decide (n=40001))
def btB (n a b:Int):Bool:=decide (a<=n /\ n<=b)
def smsB (l:List Int):Bool:=btB l.length 1 64 && l.all smB
def frB (x:Fr):Bool:=btB x.1 0 60000 && (btB x.2.1 0 23 && smsB x.2.2)
def errF (x:Fr):Int:=if frB x then 0 else 80
end Go.Proofs.YtegiepfebnaebaaGreatDoor.C
end
section
open PvL Go
set_option linter.unusedVariables false
variable {μ:PvL.Md}
namespace Go.Proofs.YtegiepfebnaebaaGreatDoor.C
section
variable {α:Type} {b q:Nat} {ty:TypeId} {enc:α->List LV} {M:Mem} {v:LV} {l l':List α} {P:Program} [Orc P] {sz:Nat} {E:Env} {K:Env->Mem->Prop} {ll:List XG} {d:Nat} {g:Option (Nat × Bool)} {s x:XO} {st:List Mem} {k:Nat} {xs:List (Nat × Nat × (Mem->Prop))} {ld:List (XG × XK)} {by':Nat} {z:List LV} {xv:LV}
theorem zfl (hg:GOn E g) (hv:Vec b q ty enc M v l) (hs:xval E s=some v) (hx:xval E x=some xv) (hn:lenOfL xv=some l'.length) (h0:0 < l'.length) (hb:(2*(l.length+l'.length)+2048)*by'<=140737488355328) (hz:(Nat.ble 1 q && (Nat.ble 1 by' && Nat.beq z.length q))=true) (hw:firstL q l'.length xv M=some (l'.flatMap enc))
  (henc:∀ x,(enc x).length=q) (hfl:∀ x,allFlat (enc x)=true) (hbM:b<=M.next) (hk:∀ v' M',Vec b q ty enc M' v' (l ++ l')->M'.next=M.next+1->Keep (fun i=>b<=i /\ ∃ o n f e,v=.slice (some (i,o)) n f e) M M'->XW μ P sz ll ((d,v') :: E) M' K):XW μ P sz (⟨some d,.app ty q by' z s x,g⟩ :: ll) E M K:=by
 obtain ⟨v',M',h1,h2,h3,h4⟩:=hv.app (P:=P) hs hx hn h0 hb hz hw henc hfl hbM
 exact zdg hg h1 (hk v' M' h2 h3 h4)
end
def SlB (b:Nat) (M:Mem) (a:Option (Nat × Nat)) (l:List Int):Prop:=l=[] ∨ ∃ i o,a=some (i,o) /\ b<=i /\ ∀ k (hk:k < l.length),Rd1 M i (o+k*1) (I l[k])
theorem SlB.sl {b:Nat} {M:Mem} {a:Option (Nat × Nat)} {l:List Int} (h:SlB b M a l):SlI M a l:=h.imp id fun ⟨i,o,h1,_,h2⟩=>⟨i,o,h1,h2⟩
theorem SlB.keep {b:Nat} {M M':Mem} {F:Nat->Prop} {a:Option (Nat × Nat)} {l:List Int} (h:SlB b M a l) (hk:Keep F M M') (hF:∀ i,F i->i < b):SlB b M' a l :=
 h.imp id fun ⟨i,o,h1,h2,h3⟩=>⟨i,o,h1,h2,fun k hk'=>(h3 k hk').keep hk (fun hf=>by have:=hF i hf;omega)⟩
theorem SlB.weaken {b b':Nat} {M:Mem} {a:Option (Nat × Nat)} {l:List Int} (h:SlB b M a l) (hb:b'<=b):SlB b' M a l:=h.imp id fun ⟨i,o,h1,h2,h3⟩=>⟨i,o,h1,by omega,h3⟩
theorem SlB.grow {b:Nat} {M M':Mem} {a:Option (Nat × Nat)} {l:List Int} (h:SlB b M a l) (hg:Grow M M'):SlB b M' a l :=
 h.imp id fun ⟨i,o,h1,h2,h3⟩=>⟨i,o,h1,h2,fun k hk=>(h3 k hk).grow hg⟩
def FrB (b:Nat) (M:Mem) (v:LV) (x:Fr):Prop:=∃ a f e,v=.agg [I x.1,I x.2.1,.slice a x.2.2.length f e] /\ SlB b M a x.2.2
theorem FrB.fr {b:Nat} {M:Mem} {v:LV} {x:Fr} (h:FrB b M v x):FrV M v x:=by
 obtain ⟨a,f,e,h1,h2⟩:=h
 exact ⟨a,f,e,h1,h2.sl⟩
def joinI (a b:Int):Int:=if a=b ∨ b=40000 then a else if a=40000 then b else 40001
def getG (l:List Int) (k:Nat):Int:=l.getD k 40000
def bothL (a b:List Int):List Int:=(List.range (max a.length b.length)).map fun k=>joinI (getG a k) (getG b k)
end Go.Proofs.YtegiepfebnaebaaGreatDoor.C
end
section
open PvL Go
set_option linter.unusedSimpArgs false
set_option linter.unusedVariables false
namespace Go.Proofs.YtegiepfebnaebaaGreatDoor.C
def ltB (c:Nat):Bool:=decide (97<=c /\ c<=122)
def dgB (c:Nat):Bool:=decide (c=95) || decide (48<=c /\ c<=57)
def nmK (s:ByteArray):Nat->Bool
 | 0=>true
 | k+1=>nmK s k && (ltB (byteAt s k) || (decide (k ≠ 0) && dgB (byteAt s k)))
def nmB (s:ByteArray):Bool:=nmK s s.size && btB s.size 1 16
abbrev Rl:=ByteArray × List Fr
def FsV (M:Mem) (a:Option (Nat × Nat)) (L:List Fr):Prop:=L=[] ∨ ∃ i o,a=some (i,o) /\ ∀ k (hk:k < L.length),∃ b g u,Rd M i (o+k*3) 3 [I L[k].1,I L[k].2.1,.slice b L[k].2.2.length g u] /\ SlI M b L[k].2.2
theorem FsV.grow {M M':Mem} {a:Option (Nat × Nat)} {L:List Fr} (h:FsV M a L) (hg:Grow M M'):FsV M' a L :=
 h.imp id fun ⟨i,o,h1,h2⟩=>⟨i,o,h1,fun k hk=>by
  obtain ⟨b,g,u,h3,h4⟩:=h2 k hk
  exact ⟨b,g,u,h3.grow hg,h4.grow hg⟩⟩
def zFr0:Fr:=(0,0,[])
def fe (L:List Fr) (k:Nat):Fr:=L.getD k zFr0
theorem zl6 {L:List Fr} {k:Nat} (h:k < L.length):fe L k=L[k]:=by unfold fe;rw [List.getD_eq_getElem?_getD,List.getElem?_eq_getElem h];rfl
theorem FsV.rd {M:Mem} {a:Option (Nat × Nat)} {L:List Fr} (h:FsV M a L) {k:Nat} (hk:k < L.length):∃ i o b g u,a=some (i,o) /\ Rd M i (o+k*3) 3 [I (fe L k).1,I (fe L k).2.1,.slice b (fe L k).2.2.length g u] /\ FrV M (.agg [I (fe L k).1,I (fe L k).2.1,.slice b (fe L k).2.2.length g u]) (fe L k):=by
 rcases h with rfl|⟨i,o,h1,h2⟩
 ·exact absurd hk (Nat.not_lt_zero _)
 ·obtain ⟨b,g,u,h3,h4⟩:=h2 k hk
  rw [<-zl6 hk] at h3 h4
  exact ⟨i,o,b,g,u,h1,h3,b,g,u,rfl,h4⟩
def RlV (M:Mem) (v:LV) (r:Rl):Prop:=∃ a f e,v=.agg [.str r.1,.slice a r.2.length f e] /\ FsV M a r.2
theorem RlV.grow {M M':Mem} {v:LV} {r:Rl} (h:RlV M v r) (hg:Grow M M'):RlV M' v r:=by
 obtain ⟨a,f,e,h1,h2⟩:=h
 exact ⟨a,f,e,h1,h2.grow hg⟩
def RlIn (r:Rl):Prop:=r.1.size<=1000000000000000 /\ r.2.length<=1000000000000000 /\ ∀ x ∈ r.2,FrIn x
theorem RlIn.fr {r:Rl} (h:RlIn r) {k:Nat} (hk:k < r.2.length):FrIn (fe r.2 k):=by rw [zl6 hk];exact h.2.2 _ (List.getElem_mem hk)
abbrev rlSh:Sh:=.pair .str (.sl frSh 40)
def keyI (x:Fr):Int:=24*x.1+x.2.1
def rlK (L:List Fr):Nat->Bool
 | 0=>true
 | k+1=>rlK L k && (frB (fe L k) && (decide (k=0) || decide (keyI (fe L (k - 1)) < keyI (fe L k))))
def rlB (r:Rl):Bool:=(nmB r.1 && decide (r.2.length<=128)) && rlK r.2 r.2.length
def errRl (r:Rl):Int:=if rlB r then 0 else 81
def cmpI8 (a b:Int):Int:=if a < b then -1 else if b < a then 1 else 0
def cmpK (a b:Int × Int):Int:=if cmpI8 a.1 b.1 ≠ 0 then cmpI8 a.1 b.1 else cmpI8 a.2 b.2
end Go.Proofs.YtegiepfebnaebaaGreatDoor.C
end
section
open PvL
set_option linter.unusedSimpArgs false
set_option linter.unusedVariables false
namespace Go.Proofs.YtegiepfebnaebaaGreatDoor.C
def stepB (c:Int):Int:=if 65535 < shlZ c 1 then xorZ (andZ (shlZ c 1) 65535) 4129 else shlZ c 1
def stepN:Nat->Int->Int
 | 0,c=>c
 | n+1,c=>stepB (stepN n c)
def byteC (c:Int) (b:Nat):Int:=stepN 8 (xorZ c (shlZ (b:Int) 8))
def crcK (s:ByteArray):Nat->Int
 | 0=>65535
 | k+1=>byteC (crcK s k) (byteAt s k)
end Go.Proofs.YtegiepfebnaebaaGreatDoor.C
end
section
open PvL Go
set_option linter.unusedSimpArgs false
set_option linter.unusedVariables false
namespace Go.Proofs.YtegiepfebnaebaaGreatDoor.C
def u8 (n:Nat):UInt8:=UInt8.ofNat n
theorem u8_n {n:Nat} (h:n < 256):(u8 n).toNat=n:=by unfold u8;simp;omega
def strL (l:List UInt8):ByteArray:=⟨⟨l⟩⟩
theorem z26 (a b:List UInt8):strL a ++ strL b=strL (a ++ b):=by
 unfold strL
 apply ByteArray.ext
 simp
theorem zq (l:List UInt8):(strL l).size=l.length:=rfl
def twoL (n:Nat):List UInt8:=[u8 (n / 256),u8 (n % 256)]
def cdF:Nat->Nat->List UInt8
 | 0,_=>[]
 | f+1,n=>if 128<=n then u8 (n % 128+128) :: cdF f (n / 128) else [u8 n]
def cdN (n:Nat):List UInt8:=cdF (n+1) n
def cdS (n last:Int):Int × Int:=if n=40001 then (1,last) else if knB n then (if n - last < 0 then 1 - 2*(n - last) else 2*(n - last)+2,n) else (0,last)
def lsA (l:List Int):Nat->Int
 | 0=>0
 | k+1=>(cdS (getG l k) (lsA l k)).2
def cdA (l:List Int) (k:Nat):Int:=(cdS (getG l k) (lsA l k)).1
def cdsL (l:List Int) (k:Nat):List UInt8:=(List.range k).flatMap fun i=>cdN (cdA l i).toNat
def hdL (x:Fr):List UInt8:=[165,90] ++ twoL x.1.toNat ++ [u8 x.2.1.toNat,u8 x.2.2.length]
def bodyL (x:Fr):List UInt8:=hdL x ++ cdsL x.2.2 x.2.2.length
def chkL (l:List UInt8):List UInt8:=l ++ twoL (crcK (strL l) l.length).toNat
def pkL (x:Fr):List UInt8:=chkL (bodyL x)
def rhL (r:Rl):List UInt8:=[80,65,82,65,86,65,78,69] ++ [u8 r.1.size] ++ r.1.data.toList ++ [u8 r.2.length]
def rpL (r:Rl):List UInt8:=chkL (rhL r) ++ r.2.flatMap pkL
end Go.Proofs.YtegiepfebnaebaaGreatDoor.C
end
section
open Go PvL
set_option linter.unusedSimpArgs false
set_option linter.unusedVariables false
namespace Go.Proofs.YtegiepfebnaebaaGreatDoor.C
abbrev Mk:=Int × Int × Int × Int
def m0:Mk:=(0,0,0,0)
def me (l:List Mk) (i:Nat):Mk:=l.getD i m0
theorem z8a {l:List Mk} {i:Nat} (h:i < l.length):me l i=l[i]:=by unfold me;rw [List.getD_eq_getElem?_getD,List.getElem?_eq_getElem h];rfl
def ptB (x y:Int):Bool:=btB x (-32768) 32768 && btB y (-32768) 32768
def mkB (m:Mk):Bool:=btB m.1 0 60000 && (ptB m.2.1 m.2.2.1 && btB m.2.2.2 0 99999)
def mkA (l:List Mk) (i:Nat):Bool:=mkB (me l i) && (decide (i=0) || (decide ((me l (i - 1)).1 < (me l i).1) && decide ((me l (i - 1)).2.2.2<=(me l i).2.2.2)))
def mkK (l:List Mk) (n:Nat):Bool:=(List.range n).all (mkA l)
theorem znf (l:List Mk) (n:Nat):mkK l (n+1)=(mkK l n && mkA l n):=by unfold mkK;rw [List.range_succ,List.all_append];simp
theorem zhx {l:List Mk} {n k:Nat} (h:mkK l n=true) (hk:k < n):mkA l k=true:=by unfold mkK at h;rw [List.all_eq_true] at h;exact h k (List.mem_range.2 hk)
def mksB (l:List Mk):Bool:=decide (l.length<=512) && mkK l l.length
def errMk (l:List Mk):Int:=if mksB l then 0 else 82
def fvL (n:Nat):List UInt8:=[u8 (48+n / 10000 % 10),u8 (48+n / 1000 % 10),u8 (48+n / 100 % 10),u8 (48+n / 10 % 10),u8 (48+n % 10)]
def sgL (n:Int):List UInt8:=(if n < 0 then 45 else 43) :: fvL n.natAbs
def hxN (n:Nat):Nat:=if n < 10 then 48+n else 87+n
def hxB (n:Nat):UInt8:=u8 (hxN n)
def sumN (l:List UInt8):Nat:=(l.map UInt8.toNat).sum
theorem zh7 (a b:List UInt8):sumN (a ++ b)=sumN a+sumN b:=by unfold sumN;rw [List.map_append,List.sum_append]
theorem zfe:∀ l:List UInt8,sumN l<=255*l.length
 | []=>Nat.le_refl _
 | a :: l=>by
  have h1:=zfe l
  have h2:a.toNat < 256:=a.toNat_lt
  have h3:sumN (a :: l)=a.toNat+sumN l:=rfl
  rw [h3,List.length_cons];omega
def lbL (m:Mk):List UInt8:=(((fvL m.1.toNat ++ [32]) ++ (sgL m.2.1 ++ [32])) ++ (sgL m.2.2.1 ++ [32])) ++ (fvL m.2.2.2.toNat ++ [32])
def lnL (m:Mk):List UInt8:=lbL m ++ [hxB (sumN (lbL m) % 256 / 16),hxB (sumN (lbL m) % 256 % 16),10]
theorem z67 (m:Mk):(lnL m).length=29:=rfl
def mxL (l:List Mk):List UInt8:=l.flatMap lnL
theorem z6d:∀ l:List Mk,(mxL l).length=29*l.length
 | []=>rfl
 | m :: l=>by
  show (lnL m ++ mxL l).length=_
  rw [List.length_append,z6d l,z67,List.length_cons];omega
def mxK (l:List Mk) (k:Nat):List UInt8:=mxL (l.take k)
theorem zng {l:List Mk} {k:Nat} (h:k < l.length):mxK l (k+1)=mxK l k ++ lnL (me l k):=by
 unfold mxK mxL
 rw [List.take_succ_eq_append_getElem h,List.flatMap_append,z8a h];simp
theorem zj6 (l:List Mk):mxK l l.length=mxL l:=by unfold mxK;rw [List.take_length]
theorem zj7 {l:List Mk} {k:Nat} (h:k<=l.length):(mxK l k).length=29*k:=by unfold mxK;rw [z6d,List.length_take];omega
def ck (s:List UInt8) (i:Nat):List UInt8:=(s.drop (29*i)).take 29
theorem zl0:∀ {l:List Mk} {i:Nat},i < l.length->ck (mxL l) i=lnL (me l i)
 | [],i,h=>absurd h (Nat.not_lt_zero _)
 | m :: l,0,_=>by
  show (lnL m ++ mxL l).take 29=_
  rw [List.take_append_of_le_length (Nat.le_of_eq (z67 m).symm)]
  rfl
 | m :: l,i+1,h=>by
  have ih:=zl0 (l:=l) (i:=i) (Nat.lt_of_succ_lt_succ h)
  show ((lnL m ++ mxL l).drop (29*(i+1))).take 29=_
  rw [show 29*(i+1)=(lnL m).length+29*i by rw [z67];omega,List.drop_append,List.drop_eq_nil_of_le (by omega),Nat.add_sub_cancel_left,List.nil_append]
  exact ih
def prs (f:List UInt8->Mk) (s:List UInt8) (k:Nat):List Mk:=(List.range k).map fun i=>f (ck s i)
theorem znj (f:List UInt8->Mk) (s:List UInt8) (k:Nat):prs f s (k+1)=prs f s k ++ [f (ck s k)]:=by unfold prs;rw [List.range_succ,List.map_append];rfl
theorem zb2 (f:List UInt8->Mk) (s:List UInt8) (k:Nat):(prs f s k).length=k:=by unfold prs;simp
theorem zlm {f:List UInt8->Mk} {l:List Mk} (hf:∀ m ∈ l,f (lnL m)=m):prs f (mxL l) l.length=l:=by
 apply List.ext_getElem (zb2 _ _ _)
 intro i h1 h2
 have e:(prs f (mxL l) l.length)[i]=f (ck (mxL l) i):=by simp [prs]
 rw [e,zl0 h2,z8a h2]
 exact hf _ (List.getElem_mem h2)
theorem z8d {l:List Mk} (h:mksB l=true):∀ m ∈ l,mkB m=true:=by
 intro m hm
 obtain ⟨i,hi,rfl⟩:=List.mem_iff_getElem.1 hm
 unfold mksB at h
 rw [Bool.and_eq_true] at h
 have:=zhx h.2 hi
 unfold mkA at this
 rw [Bool.and_eq_true,z8a hi] at this
 exact this.1
def mpF (l:List Mk):List UInt8 × Int:=if mksB l then (mxL l,0) else ([],82)
def pmF (f:List UInt8->Mk) (s:List UInt8):List Mk × Int:=if s.length > 65536 then ([],3) else if mksB (prs f s (s.length / 29))=true /\ mxL (prs f s (s.length / 29))=s then (prs f s (s.length / 29),0) else ([],5)
def Rds (f:List UInt8->Mk):Prop:=∀ m,mkB m=true->f (lnL m)=m
theorem zni {f:List UInt8->Mk} (hf:Rds f) {l:List Mk} (h:mksB l=true) (hl:l.length<=512):pmF f (mxL l)=(l,0):=by
 have hlen:=z6d l
 have hk:(mxL l).length / 29=l.length:=by omega
 unfold pmF
 rw [if_neg (by omega),hk,zlm (fun m hm=>hf m (z8d h m hm)),if_pos ⟨h,rfl⟩]
theorem zen {l:List Mk} (h:mksB l=true):l.length<=512:=by unfold mksB at h;rw [Bool.and_eq_true] at h;exact of_decide_eq_true h.1
def dg8 (b:UInt8):Bool:=decide (48<=b.toNat) && decide (b.toNat<=57)
def vlN (l:List UInt8):Nat:=l.foldl (fun n b=>n*10+(b.toNat - 48)) 0
def vlK (l:List UInt8) (k:Nat):Nat:=vlN (l.take k)
theorem zly {l:List UInt8} {k:Nat} (h:k < l.length):vlK l (k+1)=vlK l k*10+(l[k].toNat - 48):=by
 unfold vlK vlN
 rw [List.take_succ_eq_append_getElem h,List.foldl_append];rfl
theorem zjl (l:List UInt8):vlK l l.length=vlN l:=by unfold vlK;rw [List.take_length]
def dg8K (l:List UInt8) (k:Nat):Bool:=(l.take k).all dg8
theorem zhr {l:List UInt8} {k:Nat} (h:k < l.length):dg8K l (k+1)=(dg8K l k && dg8 l[k]):=by
 unfold dg8K
 rw [List.take_succ_eq_append_getElem h,List.all_append];simp
theorem zg8 (l:List UInt8):dg8K l l.length=l.all dg8:=by unfold dg8K;rw [List.take_length]
theorem zfi {l:List UInt8}:∀ {k:Nat},k<=l.length->dg8K l k=true->vlK l k < 10 ^ k
 | 0,_,_=>by unfold vlK vlN;simp
 | k+1,hk,h=>by
  rw [zhr (by omega),Bool.and_eq_true] at h
  have ih:=zfi (l:=l) (k:=k) (by omega) h.1
  have hd:=h.2
  unfold dg8 at hd
  rw [Bool.and_eq_true,decide_eq_true_eq,decide_eq_true_eq] at hd
  rw [zly (by omega),Nat.pow_succ]
  omega
def sgB (b:UInt8):Bool:=decide (b.toNat=45) || decide (b.toNat=43)
def atR (l:List UInt8):List UInt8:=if sgB (l.headD 0) then l.tail else l
def atI (l:List UInt8):Int:=if (atR l).all dg8 then (if (l.headD 0).toNat=45 then -(vlN (atR l):Int) else (vlN (atR l):Int)) else 0
def nuF (l:List UInt8):Int:=if l.all dg8 then (vlN l:Int) else 0
def plF (l:List UInt8):Int:=if (l.headD 0).toNat=45 then -nuF l.tail else nuF l.tail
def sub8 (x:List UInt8) (a b:Nat):List UInt8:=(x.drop a).take (b - a)
def mkP (x:List UInt8):Mk:=(atI (sub8 x 0 5),atI (sub8 x 6 12),atI (sub8 x 13 19),atI (sub8 x 20 25))
def mkR (x:List UInt8):Mk:=(nuF (sub8 x 0 5),plF (sub8 x 6 12),plF (sub8 x 13 19),nuF (sub8 x 20 25))
theorem u8_d {k:Nat} (h:k < 10):(u8 (48+k)).toNat=48+k:=u8_n (by omega)
theorem zl7 (n:Nat):(fvL n).all dg8=true:=by
 unfold fvL dg8
 simp only [List.all_cons,List.all_nil,u8_d (Nat.mod_lt _ (show 0 < 10 by omega)),Bool.and_true,Bool.and_eq_true,decide_eq_true_eq]
 omega
theorem zl8 {n:Nat} (h:n<=99999):vlN (fvL n)=n:=by
 unfold vlN fvL
 simp only [List.foldl_cons,List.foldl_nil,u8_d (Nat.mod_lt _ (show 0 < 10 by omega))]
 omega
theorem zn9 (n:Nat):((fvL n).headD 0).toNat=48+n / 10000 % 10:=u8_d (Nat.mod_lt _ (by omega))
theorem zka {n:Nat} (h:n<=99999):atI (fvL n)=n:=by
 have h1:=zn9 n
 have h2:sgB ((fvL n).headD 0)=false:=by
  unfold sgB
  rw [h1,Bool.or_eq_false_iff,decide_eq_false_iff_not,decide_eq_false_iff_not]
  omega
 unfold atI atR
 rw [h2,h1]
 simp only [Bool.false_eq_true,if_false]
 rw [zl7,if_pos rfl,if_neg (by omega),zl8 h]
theorem zlt (x:Int):((sgL x).headD 0).toNat=if x < 0 then 45 else 43:=by
 unfold sgL
 split<;>rfl
theorem znl (x:Int):(sgL x).tail=fvL x.natAbs:=rfl
theorem zkb {x:Int} (h:-99999<=x /\ x<=99999):atI (sgL x)=x:=by
 have h2:sgB ((sgL x).headD 0)=true:=by
  unfold sgB
  rw [zlt]
  by_cases h0:x < 0
  ·rw [if_pos h0];rfl
  ·rw [if_neg h0];rfl
 unfold atI atR
 rw [h2,zlt,if_pos rfl,znl,zl7,if_pos rfl,zl8 (by omega)]
 by_cases h0:x < 0
 ·rw [if_pos h0,if_pos rfl];omega
 ·rw [if_neg h0,if_neg (by omega)];omega
theorem zj4 {m:Mk} (h:mkB m=true):(0<=m.1 /\ m.1<=60000) /\ (-32768<=m.2.1 /\ m.2.1<=32768) /\ (-32768<=m.2.2.1 /\ m.2.2.1<=32768) /\ 0<=m.2.2.2 /\ m.2.2.2<=99999:=by
 unfold mkB ptB btB at h
 simp only [Bool.and_eq_true,decide_eq_true_eq] at h
 omega
theorem znk:Rds mkP:=fun m h=>by
 obtain ⟨h1,h2,h3,h4⟩:=zj4 h
 obtain ⟨s,x,y,t⟩:=m
 dsimp only at h1 h2 h3 h4
 show (atI (fvL s.toNat),atI (sgL x),atI (sgL y),atI (fvL t.toNat))=_
 rw [zka (by omega),zkb (by omega),zkb (by omega),zka (by omega),Int.toNat_of_nonneg h1.1,Int.toNat_of_nonneg h4.1]
end Go.Proofs.YtegiepfebnaebaaGreatDoor.C
end
section
open Go PvL Go.Proofs
set_option linter.unusedSimpArgs false
set_option linter.unusedVariables false
namespace Go.Proofs.YtegiepfebnaebaaGreatDoor.C
theorem zbi (n a b:Int) (M:Mem):CallOk Tryz.prog 17 [I n,I a,I b] M (fun w M'=>w=.bool (btB n a b) /\ M'=M):=by
 refine zg k17 rfl ?_
 dsimp only [x17,zipE,Nat.reduceAdd]
 (repeat' (first|(with_reducible intro _)|refine sv ?_|(refine sc ?_ ?_<;>(intro h;try first|exact h.elim|exact absurd rfl h|(exfalso;omega)))|(refine sg ?_ ?_<;>(intro h;(fail_if_success (have:True:=h));try first|exact h.elim|exact absurd rfl h|(exfalso;omega)))|assumption|exact xm|exact rfl))
 ·((with_reducible first|apply zh|apply zc);exact rx)
  refine ⟨?_,rfl⟩
  simp [packed,btB];omega
 ·((with_reducible first|apply zh|apply zc);exact rx)
  refine ⟨?_,rfl⟩
  simp [packed,btB];omega
theorem zif {n:Nat} (h:n < 256):byteL (u8 n)=LV.int .u8 (n:Int):=by
 show LV.int .u8 (((u8 n).toNat:Nat):Int)=_
 rw [u8_n h]
end Go.Proofs.YtegiepfebnaebaaGreatDoor.C
end
section
open Go PvL Go.Proofs
set_option linter.unusedSimpArgs false
set_option linter.unusedVariables false
variable {μ:Md}
namespace Go.Proofs.YtegiepfebnaebaaGreatDoor.C
abbrev u8c (b:UInt8):List LV:=[byteL b]
theorem z07:∀ l:List UInt8,bytesC l=l.flatMap u8c
 | []=>rfl
 | b :: l=>by show byteL b :: bytesC l=[byteL b] ++ l.flatMap u8c;rw [z07 l];rfl
theorem z1v (l:List UInt8):allFlat (bytesC l)=true:=by rw [z07];exact z17 (fun _ _=>rfl)
theorem zak {M:Mem} {p:Nat} {own:Bool} {l:List UInt8} {ty:TypeId} {f:Bool} (h:At M p (.cells own (bytesC l) ty)):firstL 1 l.length (.slice (some (p,0)) l.length f 1) M=some (bytesC l):=by
 rw [z07] at h ⊢
 exact ze3 (enc:=u8c) (fun _ _=>rfl) (fun k hk=>zf0 (enc:=u8c) h (fun _ _=>rfl) hk)
theorem z8j {M:Mem} {p:Nat} {own:Bool} {l:List UInt8} {ty:TypeId} (h:At M p (.cells own (bytesC l) ty)):Rd M p 0 l.length (bytesC l):=by
 refine Rd.of_at h ?_
 show take' l.length (bytesC l)=_
 have:∀ l:List UInt8,take' l.length (bytesC l)=some (bytesC l):=fun l=>by
  induction l with
  | nil=>rfl
  | cons b l ih =>
   show ob (take' l.length (bytesC l)) _=_
   rw [ih];rfl
 exact this l
def ApB (b:Nat) (M:Mem) (v:LV) (l:List UInt8):Prop:=∃ f ty,v=.slice (some (b,0)) l.length f 1 /\ At M b (.cells true (bytesC l) ty) /\ (f=true ∨ ty=apE 5)
theorem ApB.lt {b:Nat} {M:Mem} {v:LV} {l:List UInt8} (h:ApB b M v l):b < M.next:=by
 obtain ⟨f,ty,_,h2,_⟩:=h
 exact h2.2
theorem ApB.keep {b:Nat} {M M':Mem} {v:LV} {l:List UInt8} {F:Nat->Prop} (h:ApB b M v l) (hk:Keep F M M') (hF:¬ F b):ApB b M' v l:=by
 obtain ⟨f,ty,h1,h2,h3⟩:=h
 exact ⟨f,ty,h1,h2.keep hk hF,h3⟩
theorem ApB.grow {b:Nat} {M M':Mem} {v:LV} {l:List UInt8} (h:ApB b M v l) (hg:Grow M M'):ApB b M' v l:=by
 obtain ⟨f,ty,h1,h2,h3⟩:=h
 exact ⟨f,ty,h1,h2.grow hg,h3⟩
theorem ApB.same {b:Nat} {M M':Mem} {v:LV} {l:List UInt8} (h:ApB b M v l) (hle:M.next<=M'.next) (hg:M'.get b=M.get b):ApB b M' v l:=by
 obtain ⟨f,ty,h1,h2,h3⟩:=h
 exact ⟨f,ty,h1,h2.same hle hg,h3⟩
theorem ApB.bstr {b:Nat} {M:Mem} {v:LV} {l:List UInt8} (h:ApB b M v l) {E:Env} {x:XO} (hx:xval E x=some v):xstep Tryz.prog (.bstr x) E M=some (.val (.str (strL l)) M):=by
 obtain ⟨f,ty,rfl,h2,h3⟩:=h
 exact z8r hx (z8j h2)
section
variable {P:Program} [Orc P] {sz:Nat} {E:Env} {M:Mem} {K:Env->Mem->Prop} {ll:List XG} {d:Nat} {g:Option (Nat × Bool)} {sx0 x:XO} {b:Nat} {v:LV} {l l':List UInt8} {z:List LV} {xv:LV} {st:List Mem} {k:Nat} {xs:List (Nat × Nat × (Mem->Prop))} {ld:List (XG × XK)}
theorem ApB.app (hv:ApB b M v l) (hs:xval E sx0=some v) (hx:xval E x=some xv) (hn:lenOfL xv=some l'.length) (h0:0 < l'.length) (hl:l.length+l'.length<=1000000000000) (hz:z.length=1) (hw:firstL 1 l'.length xv M=some (bytesC l')) :
  ∃ v' M',xstep P (.app 5 1 1 z sx0 x) E M=some (.val v' M') /\ ApB M.next M' v' (l ++ l') /\ M'.next=M.next+1 /\ Keep (fun j=>j=b) M M':=by
 obtain ⟨f,ty,rfl,h2,h3⟩:=hv
 have hz2:(Nat.ble 1 1 && (Nat.ble 1 1 && Nat.beq z.length 1))=true:=by rw [hz];rfl
 have hfm:bytesC (l ++ l')=bytesC l ++ bytesC l':=by rw [z07,z07,z07,List.flatMap_append]
 have ho:=zak (f:=f) h2
 have hroom:(2*(l.length+l'.length)+2048)*1<=140737488355328:=by omega
 cases f with
 | true =>
  have hN:New M M.next (.cells true (bytesC l ++ bytesC l') (apE 5)) (M.push (.cells true (bytesC l ++ bytesC l') (apE 5))):=⟨rfl,rfl⟩
  exact ⟨_,_,z4y hs hx hn h0 hroom hz2 ho hw (z1v _) (.inr rfl),⟨_,_,by rw [List.length_append],by rw [hfm];exact At.new_same hN,.inr rfl⟩,rfl,hN.grow.to_keep _⟩
 | false =>
  obtain rfl:ty=apE 5:=h3.resolve_left (by decide)
  have hK:Kill M b M.next (.cells true (bytesC l ++ bytesC l') (apE 5)) ((M.upd b none).push (.cells true (bytesC l ++ bytesC l') (apE 5))):=⟨rfl,rfl⟩
  exact ⟨_,_,z3m hs hx hn h0 hroom hz2 ho hw (z1v _) h2 (by rw [show Nat.beq (apE 5) (apE 5)=true by simp,Bool.or_true]),⟨_,_,by rw [List.length_append],by rw [hfm];exact hK.same,.inr rfl⟩,hK.next,hK.keep⟩
end
end Go.Proofs.YtegiepfebnaebaaGreatDoor.C
end
section
open Go PvL Go.Proofs
set_option linter.unusedSimpArgs false
set_option linter.unusedVariables false
namespace Go.Proofs.YtegiepfebnaebaaGreatDoor.C
def pfF (x:Fr):List UInt8 × Int:=if frB x then (pkL x,0) else ([],80)
def rpF (r:Rl):List UInt8 × Int:=if rlB r then (rpL r,0) else ([],81)
theorem ze4 (s:ByteArray) (M:Mem):firstL 1 s.data.toList.length (.str s) M=some (bytesC s.data.toList):=by
 show guard' (Nat.beq 1 1 && Nat.ble s.data.toList.length s.size) (some ((s.extract 0 s.data.toList.length).data.toList.map byteL))=_
 have hl:s.data.toList.length=s.size:=by simp
 rw [hl,Nat.ble_eq_true_of_le (Nat.le_refl _)]
 have he:(s.extract 0 s.size)=s:=by
  simp
 rw [he];rfl
theorem zhn (n:Int) (M:Mem):CallOk Tryz.prog 44 [I 32768,I n] M (fun w M'=>w=I (max (-32768) (min n 32768)) /\ M'=M):=by
 refine zg k44 rfl ?_
 dsimp only [x44,zipE,Nat.reduceAdd]
 (repeat' (first|(with_reducible intro _)|refine sv ?_|(refine sc ?_ ?_<;>(intro h;try first|exact h.elim|exact absurd rfl h|(exfalso;omega)))|(refine sg ?_ ?_<;>(intro h;(fail_if_success (have:True:=h));try first|exact h.elim|exact absurd rfl h|(exfalso;omega)))|assumption|exact xm|exact rfl))
 ((with_reducible first|apply zh|apply zc);exact rx)
 refine ⟨?_,rfl⟩
 unfold iMax iMin;rfl
theorem zlo {x y:Int} (h1:max (-32768) (min x 32768)=x) (h2:max (-32768) (min y 32768)=y):(if ptB x y then (0:Int) else 10)=0:=by
 rw [if_pos];unfold ptB btB;simp only [Bool.and_eq_true,decide_eq_true_eq];omega
theorem zln {x y:Int} (h:¬ max (-32768) (min x 32768)=x ∨ ¬ max (-32768) (min y 32768)=y):(if ptB x y then (0:Int) else 10)=10:=by
 rw [if_neg];unfold ptB btB;simp only [Bool.and_eq_true,decide_eq_true_eq];omega
theorem z51 (x y:Int) (M:Mem):CallOk Tryz.prog 18 [.agg [I x,I y]] M (fun w M'=>w=I (if ptB x y then 0 else 10) /\ Grow M M'):=by
 refine zg k18 rfl ?_
 dsimp only [x18,zipE,Nat.reduceAdd]
 have h1:=zhn x
 have h2:=zhn y
 (repeat' (first|(with_reducible intro _)|refine sv ?_|refine su ?_|(refine sc ?_ ?_<;>(intro h;try first|exact h.elim|exact absurd rfl h|(exfalso;omega)))|((with_reducible first|apply z05|apply z04|apply zt);exact gd;exact rfl;exact rfl;(first|exact h1 _|exact h2 _))|(refine sg ?_ ?_<;>(intro h;(fail_if_success (have:True:=h));try first|exact h.elim|exact absurd rfl h|(exfalso;omega)))|assumption|exact xm|exact rfl))
 ·rename_i h
  ((with_reducible first|apply zh|apply zc);exact rx)
  exact ⟨by rw [zln (.inl h)];rfl,xg⟩
 ·rename_i _ h
  ((with_reducible first|apply zh|apply zc);exact rx)
  exact ⟨by rw [zln (.inr h)];rfl,xg⟩
 ·rename_i _ hx0 _ hy0
  ((with_reducible first|apply zh|apply zc);exact rx)
  exact ⟨by rw [zlo hx0 hy0];rfl,xg⟩
abbrev mkc (m:Mk):List LV:=[I m.1,I m.2.1,I m.2.2.1,I m.2.2.2]
def SlM (M:Mem) (a:Option (Nat × Nat)) (l:List Mk):Prop:=l=[] ∨ ∃ i o,a=some (i,o) /\ ∀ k (hk:k < l.length),Rd M i (o+k*4) 4 (mkc l[k])
theorem SlM.grow {M M':Mem} {a:Option (Nat × Nat)} {l:List Mk} (h:SlM M a l) (hg:Grow M M'):SlM M' a l :=
 h.imp id fun ⟨i,o,h1,h2⟩=>⟨i,o,h1,fun k hk=>(h2 k hk).grow hg⟩
theorem SlM.rd {M:Mem} {a:Option (Nat × Nat)} {l:List Mk} (h:SlM M a l) {k:Nat} (hk:k < l.length):∃ i o,a=some (i,o) /\ ∀ j,j < l.length->Rd M i (o+j*4) 4 (mkc (me l j)):=by
 rcases h with rfl|⟨i,o,h1,h2⟩
 ·exact absurd hk (Nat.not_lt_zero _)
 ·exact ⟨i,o,h1,fun j hj=>by rw [z8a hj];exact h2 j hj⟩
set_option maxHeartbeats 4000000 in
theorem z50 {M:Mem} {a:Option (Nat × Nat)} {l:List Mk} {f:Bool} {e:Nat} (hs:SlM M a l) (hl:l.length<=1000000000000000) :
  CallOk Tryz.prog 6 [.slice a l.length f e] M (fun w M'=>w=I (errMk l) /\ Grow M M'):=by
 refine zg k6 rfl ?_
 dsimp only [x6,zipE,Nat.reduceAdd]
 by_cases hlen:l.length<=512
 case neg =>
  have he:errMk l=82:=by unfold errMk mksB;rw [decide_eq_false hlen];rfl
  rw [he]
  (repeat' (first|(with_reducible intro _)|refine sv ?_|(refine sc ?_ ?_<;>(intro h;try first|exact h.elim|exact absurd rfl h|(exfalso;omega)))|(refine sg ?_ ?_<;>(intro h;(fail_if_success (have:True:=h));try first|exact h.elim|exact absurd rfl h|(exfalso;omega)))|assumption|exact xm|exact rfl))
  all_goals try (exfalso;omega)
  ((with_reducible first|apply zh|apply zc);exact rx)
  exact ⟨rfl,Grow.refl _⟩
 have he:errMk l=if mkK l l.length then 0 else 82:=by unfold errMk mksB;rw [decide_eq_true hlen];rfl
 rw [he]
 (repeat' (first|(with_reducible intro _)|refine sv ?_|(refine sc ?_ ?_<;>(intro h;try first|exact h.elim|exact absurd rfl h|(exfalso;omega)))|(refine sg ?_ ?_<;>(intro h;(fail_if_success (have:True:=h));try first|exact h.elim|exact absurd rfl h|(exfalso;omega)))|assumption|exact xm|exact rfl))
 all_goals try (exfalso;omega)
 refine zx (fun m E ms M'=>∃ k:Nat,m=l.length - k /\ k<=l.length /\ ms=[] /\ Has E [(0,.slice a l.length f e),(8,.slice a l.length f e),(9,I l.length),(10,I k)] /\ Grow M M' /\ mkK l k=true)
  ?_ l.length _ _ _ ⟨0,by omega,by omega,rfl,.cons rfl (.cons rfl (.cons rfl (.cons rfl .nil))),Grow.refl _,rfl⟩
 rintro m E ms M1 ⟨k,rfl,hk,rfl,hE,hg1,hall⟩
 refine z3l hE ?_
 by_cases hlast:k=l.length
 ·rw [hlast] at hall ⊢
  (repeat' (first|(with_reducible intro _)|refine sv ?_|(refine sc ?_ ?_<;>(intro h;try first|exact h.elim|exact absurd rfl h|(exfalso;omega)))|(refine sg ?_ ?_<;>(intro h;(fail_if_success (have:True:=h));try first|exact h.elim|exact absurd rfl h|(exfalso;omega)))|assumption|exact xm|exact rfl))
  all_goals try (exfalso;omega)
  ((with_reducible first|apply zh|apply zc);exact rx)
  rw [hall]
  exact ⟨rfl,hg1⟩
 have hlt:k < l.length:=by omega
 obtain ⟨i,o,rfl,hr⟩:=(hs.grow hg1).rd hlt
 have hrk:=hr k hlt
 have hks:=znf l k
 have hno:mkA l k=false->(if mkK l l.length then (0:Int) else 82)=82:=fun h=>by
  rw [if_neg]
  intro h2
  have:=zhx h2 hlt
  rw [h] at this;cases this
 have hA:mkA l k=(mkB (me l k) && (decide (k=0) || (decide ((me l (k - 1)).1 < (me l k).1) && decide ((me l (k - 1)).2.2.2<=(me l k).2.2.2)))):=rfl
 have hkt:0 < k->Int.toNat ((k:Int) - 1)=k - 1:=fun h0=>by omega
 have hrp:0 < k->Rd1 M1 i (o+Int.toNat ((k:Int) - 1)*4+0) (I (me l (k - 1)).1) /\ Rd1 M1 i (o+Int.toNat ((k:Int) - 1)*4+3) (I (me l (k - 1)).2.2.2):=fun h0=>by
  rw [hkt h0]
  exact ⟨Rd.nth (j:=0) (hr (k - 1) (by omega)) rfl,Rd.nth (j:=3) (hr (k - 1) (by omega)) rfl⟩
 generalize me l (k - 1)=p at *
 generalize hm:me l k=m at *
 obtain ⟨s,x,y,t⟩:=m
 unfold mkB at hA
 dsimp only at hA hrp
 have hrk:Rd M1 i (o+k*4) 4 [I s,I x,I y,I t]:=hrk
 have hl1:=hg1.le
 have w1:=fun M=>zbi s 0 60000 M
 have w2:=fun M=>zbi t 0 99999 M
 have w3:=fun M=>z51 x y M
 cases hb1:btB s 0 60000 with
 | false =>
  rw [hb1] at hA w1
  have hno:=hno hA
  (have hrd0:=hrk;repeat' (first|(with_reducible intro _)|refine sv ?_|(refine sc ?_ ?_<;>(intro h;try first|exact h.elim|exact absurd rfl h|(exfalso;omega)))|((with_reducible first|apply z05|apply z04|apply zt);exact gd;exact rfl;exact rfl;(first|exact w1 _))|(refine sg ?_ ?_<;>(intro h;(fail_if_success (have:True:=h));try first|exact h.elim|exact absurd rfl h|(exfalso;omega)))|assumption|exact xm|exact rfl))
  all_goals try (exfalso;omega)
  ((with_reducible first|apply zh|apply zc);exact rx)
  rw [hno]
  exact ⟨rfl,xg⟩
 | true =>
 rw [hb1] at hA w1
 cases hb2:ptB x y with
 | false =>
  rw [hb2] at hA w3
  have hno:=hno hA
  (have hrd0:=hrk;repeat' (first|(with_reducible intro _)|refine sv ?_|(refine sc ?_ ?_<;>(intro h;try first|exact h.elim|exact absurd rfl h|(exfalso;omega)))|((with_reducible first|apply z05|apply z04|apply zt);exact gd;exact rfl;exact rfl;(first|exact w1 _))|((with_reducible first|apply zn|apply zm|apply zi);exact gd;exact rfl;exact rfl;(first|exact w3 _))|(refine sg ?_ ?_<;>(intro h;(fail_if_success (have:True:=h));try first|exact h.elim|exact absurd rfl h|(exfalso;omega)))|assumption|exact xm|exact rfl))
  all_goals try (exfalso;omega)
  ((with_reducible first|apply zh|apply zc);exact rx)
  rw [hno]
  exact ⟨rfl,xg⟩
 | true =>
 rw [hb2] at hA w3
 cases hb3:btB t 0 99999 with
 | false =>
  rw [hb3] at hA w2
  have hno:=hno hA
  (have hrd0:=hrk;repeat' (first|(with_reducible intro _)|refine sv ?_|(refine sc ?_ ?_<;>(intro h;try first|exact h.elim|exact absurd rfl h|(exfalso;omega)))|((with_reducible first|apply z05|apply z04|apply zt);exact gd;exact rfl;exact rfl;(first|exact w1 _|exact w2 _))|((with_reducible first|apply zn|apply zm|apply zi);exact gd;exact rfl;exact rfl;(first|exact w3 _))|(refine sg ?_ ?_<;>(intro h;(fail_if_success (have:True:=h));try first|exact h.elim|exact absurd rfl h|(exfalso;omega)))|assumption|exact xm|exact rfl))
  all_goals try (exfalso;omega)
  ((with_reducible first|apply zh|apply zc);exact rx)
  rw [hno]
  exact ⟨rfl,xg⟩
 | true =>
 rw [hb3] at hA w2
 by_cases hk0:k=0
 ·subst hk0
  have hA:mkA l 0=true:=hA
  rw [hall,hA] at hks
  (have hrd0:=hrk;repeat' (first|(with_reducible intro _)|refine sv ?_|(refine sc ?_ ?_<;>(intro h;try first|exact h.elim|exact absurd rfl h|(exfalso;omega)))|((with_reducible first|apply z05|apply z04|apply zt);exact gd;exact rfl;exact rfl;(first|exact w1 _|exact w2 _))|((with_reducible first|apply zn|apply zm|apply zi);exact gd;exact rfl;exact rfl;(first|exact w3 _))|(refine sg ?_ ?_<;>(intro h;(fail_if_success (have:True:=h));try first|exact h.elim|exact absurd rfl h|(exfalso;omega)))|assumption|exact xm|exact rfl))
  all_goals try (exfalso;omega)
  exact z1h (l.length - (0+1)) (by omega) ⟨1,rfl,by omega,rfl,.cons rfl (.cons rfl (.cons rfl (.cons rfl .nil))),hg1.trans (xg),hks⟩
 obtain ⟨hr0,hr3⟩:=hrp (by omega)
 obtain ⟨p1,p2,p3,p4⟩:=p
 dsimp only at hA hr0 hr3
 rw [decide_eq_false hk0,Bool.false_or] at hA
 (have hrd0:=hrk;repeat' (first|(with_reducible intro _)|refine sv ?_|(refine sc ?_ ?_<;>(intro h;try first|exact h.elim|exact absurd rfl h|(exfalso;omega)))|((with_reducible first|apply z05|apply z04|apply zt);exact gd;exact rfl;exact rfl;(first|exact w1 _|exact w2 _))|((with_reducible first|apply zn|apply zm|apply zi);exact gd;exact rfl;exact rfl;(first|exact w3 _))|(refine sg ?_ ?_<;>(intro h;(fail_if_success (have:True:=h));try first|exact h.elim|exact absurd rfl h|(exfalso;omega)))|assumption|exact xm|exact rfl))
 all_goals try (exfalso;omega)
 rename_i n5 M5 z1 z2 z3 M6 z4 z5 z6 M9 z7 z8 z9
 have g9:Grow M1 M9:=xg
 have hr0:=hr0.grow g9
 have hr3:=hr3.grow g9
 have a9:=At.grow z7 z6
 have hg9:=hg1.trans g9
 clear z1 z4 z7 z6 g9 hg1
 (have hrd0:=hr0;have hrd1:=hr3;repeat' (first|(with_reducible intro _)|refine sv ?_|(refine sc ?_ ?_<;>(intro h;try first|exact h.elim|exact absurd rfl h|(exfalso;omega)))|(refine sg ?_ ?_<;>(intro h;(fail_if_success (have:True:=h));try first|exact h.elim|exact absurd rfl h|(exfalso;omega)))|assumption|exact xm|exact rfl))
 all_goals try (exfalso;omega)
 ·rename_i h1 _
  rw [decide_eq_false (by omega:¬ p1 < s)] at hA
  ((with_reducible first|apply zh|apply zc);exact rx)
  rw [hno hA]
  exact ⟨rfl,hg9⟩
 ·rename_i h1 h2
  rw [decide_eq_false (by omega:¬ p4<=t),Bool.and_false] at hA
  ((with_reducible first|apply zh|apply zc);exact rx)
  rw [hno hA]
  exact ⟨rfl,hg9⟩
 ·rename_i h1 h2
  rw [decide_eq_true (by omega:p1 < s),decide_eq_true (by omega:p4<=t)] at hA
  rw [hall,hA] at hks
  exact z1h (l.length - (k+1)) (by omega) ⟨k+1,rfl,by omega,rfl,.cons rfl (.cons rfl (.cons rfl (.cons rfl .nil))),hg9,hks⟩
theorem z8s {E:Env} {M:Mem} {x lo hi:XO} {s:ByteArray} {f p:Nat} (hx:xval E x=some (.str s)) (hlo:xval E lo=some (I f)) (hhi:xval E hi=some (I p)) (h1:f<=p) (h2:p<=s.size):xstep Tryz.prog (.slS x (some lo) (some hi) none) E M=some (.val (.str (s.extract f p)) M):=by
 show ob (xval E x) _=_
 rw [hx,z0]
 have e1:xvalo E (some lo)=some (some (I f)):=by show ob (xval E lo) _=_;rw [hlo];rfl
 have e2:xvalo E (some hi)=some (some (I p)):=by show ob (xval E hi) _=_;rw [hhi];rfl
 rw [e1,z0,e2,z0]
 show guard' true (guard' (Nat.ble p s.size) (guard' (Nat.ble f p) (some (R1.val (LV.str (s.extract f p)) M))))=_
 rw [Nat.ble_eq_true_of_le h2,Nat.ble_eq_true_of_le h1];rfl
def lo1 (n:Nat):List UInt8:=if n < 10 then [u8 (48+n)] else [u8 (48+n / 10),u8 (48+n % 10)]
abbrev digs:ByteArray:=⟨#[48,49,50,51,52,53,54,55,56,57,97,98,99,100,101,102,103,104,105,106,107,108,109,110,111,112,113,114,115,116,117,118,119,120,121,122]⟩
abbrev smls:ByteArray:=⟨#[48,48,48,49,48,50,48,51,48,52,48,53,48,54,48,55,48,56,48,57,49,48,49,49,49,50,49,51,49,52,49,53,49,54,49,55,49,56,49,57,50,48,50,49,50,50,50,51,50,52,50,53,50,54,50,55,50,56,50,57,51,48,51,49,51,50,51,51,51,52,51,53,51,54,51,55,51,56,51,57,52,48,52,49,52,50,52,51,52,52,52,53,52,54,52,55,52,56,52,57,53,48,53,49,53,50,53,51,53,52,53,53,53,54,53,55,53,56,53,57,54,48,54,49,54,50,54,51,54,52,54,53,54,54,54,55,54,56,54,57,55,48,55,49,55,50,55,51,55,52,55,53,55,54,55,55,55,56,55,57,56,48,56,49,56,50,56,51,56,52,56,53,56,54,56,55,56,56,56,57,57,48,57,49,57,50,57,51,57,52,57,53,57,54,57,55,57,56,57,57]⟩
theorem z70 {p:Nat->Bool} {k:Nat} (h:(List.range k).all p=true) {n:Nat} (hn:n < k):p n=true:=List.all_eq_true.1 h n (List.mem_range.2 hn)
theorem zg9 {n:Nat} (h:n < 10):digs.extract n (n+1)=strL (lo1 n):=by
 have:=z70 (k:=10) (p:=fun n=>decide (digs.extract n (n+1)=strL (lo1 n))) (by decide +kernel) h
 exact of_decide_eq_true this
theorem zh3 {n:Nat} (h:10<=n /\ n < 100):smls.extract (n*2) (n*2+2)=strL (lo1 n):=by
 have:=z70 (k:=100) (p:=fun n=>decide (n < 10 ∨ smls.extract (n*2) (n*2+2)=strL (lo1 n))) (by decide +kernel) h.2
 rcases of_decide_eq_true this with h1|h1
 ·omega
 ·exact h1
theorem zin (n:Nat) (hn:n < 100) (M:Mem):CallOk Tryz.prog 126 [I n] M (fun w M'=>w=.str (strL (lo1 n)) /\ M'=M):=by
 refine zg k126 rfl ?_
 dsimp only [x126,zipE,Nat.reduceAdd]
 (repeat' (first|(with_reducible intro _)|refine sv ?_|(refine sc ?_ ?_<;>(intro h;try first|exact h.elim|exact absurd rfl h|(exfalso;omega)))|(refine sg ?_ ?_<;>(intro h;(fail_if_success (have:True:=h));try first|exact h.elim|exact absurd rfl h|(exfalso;omega)))|assumption|exact xm|exact rfl))
 ·refine zl (by exact gd) (z8s (f:=n) (p:=n+1) rfl rfl rfl (by omega) (by show n+1<=36;omega)) ?_
  rw [zg9 (by omega)]
  (repeat' (first|(with_reducible intro _)|refine sv ?_|(refine sc ?_ ?_<;>(intro h;try first|exact h.elim|exact absurd rfl h|(exfalso;omega)))|(refine sg ?_ ?_<;>(intro h;(fail_if_success (have:True:=h));try first|exact h.elim|exact absurd rfl h|(exfalso;omega)))|assumption|exact xm|exact rfl))
  ((with_reducible first|apply zh|apply zc);exact rx)
  exact ⟨rfl,rfl⟩
 ·refine zl (by exact gd) (z8s (f:=n*2) (p:=n*2+2) rfl rfl rfl (by omega) (by show n*2+2<=200;omega)) ?_
  rw [zh3 (by omega)]
  (repeat' (first|(with_reducible intro _)|refine sv ?_|(refine sc ?_ ?_<;>(intro h;try first|exact h.elim|exact absurd rfl h|(exfalso;omega)))|(refine sg ?_ ?_<;>(intro h;(fail_if_success (have:True:=h));try first|exact h.elim|exact absurd rfl h|(exfalso;omega)))|assumption|exact xm|exact rfl))
  ((with_reducible first|apply zh|apply zc);exact rx)
  exact ⟨rfl,rfl⟩
theorem zb7 {E:Env} {M:Mem} {x y:XO} {a b:Nat} (hx:xval E x=some (.int .u64 (a:Int))) (hy:xval E y=some (.int .u64 (b:Int))) (hb:b<=20):xstep Tryz.prog (.bin .shr x y) E M=some (.val (.int .u64 ((a / 2 ^ b:Nat):Int)) M):=by
 show ob (xval E x) _=_
 rw [hx,z0,hy,z0]
 show guard' true (ob (mkI .u64 ((a:Int).fdiv ((2 ^ (Nat.min b 64):Nat):Int))) _)=_
 have hm:Nat.min b 64=b:=Nat.min_eq_left (by omega)
 rw [hm,zd,z0c,z0,Int.fdiv_eq_ediv_of_nonneg _ (Int.natCast_nonneg _)];rfl
theorem z0h {E:Env} {M:Mem} {x y:XO} {kk:IntKind} {s:ByteArray} {k:Nat} (hx:xval E x=some (.str s)) (hy:xval E y=some (.int kk (k:Int))) (h:k < s.size):xstep Tryz.prog (.idxS x y) E M=some (.val (.int .u8 (byteAt s k:Int)) M):=by
 show ob (xval E x) _=_
 rw [hx,z0,hy,z0]
 show ob s[k]? _=_
 have e:s[k]?=some s[k]:=by simp [h]
 rw [e,z0]
 have:byteAt s k=s[k].toNat:=by
  unfold byteAt
  have hl:k < s.data.toList.length:=by simpa using h
  rw [List.getD_eq_getElem?_getD,List.getElem?_eq_getElem hl,Option.getD_some]
  rfl
 rw [this]
abbrev len8:ByteArray:=⟨#[0,1,2,2,3,3,3,3,4,4,4,4,4,4,4,4,5,5,5,5,5,5,5,5,5,5,5,5,5,5,5,5,6,6,6,6,6,6,6,6,6,6,6,6,6,6,6,6,6,6,6,6,6,6,6,6,6,6,6,6,6,6,6,6,7,7,7,7,7,7,7,7,7,7,7,7,7,7,7,7,7,7,7,7,7,7,7,7,7,7,7,7,7,7,7,7,7,7,7,7,7,7,7,7,7,7,7,7,7,7,7,7,7,7,7,7,7,7,7,7,7,7,7,7,7,7,7,7,8,8,8,8,8,8,8,8,8,8,8,8,8,8,8,8,8,8,8,8,8,8,8,8,8,8,8,8,8,8,8,8,8,8,8,8,8,8,8,8,8,8,8,8,8,8,8,8,8,8,8,8,8,8,8,8,8,8,8,8,8,8,8,8,8,8,8,8,8,8,8,8,8,8,8,8,8,8,8,8,8,8,8,8,8,8,8,8,8,8,8,8,8,8,8,8,8,8,8,8,8,8,8,8,8,8,8,8,8,8,8,8,8,8,8,8,8,8,8,8,8,8,8,8,8,8,8,8]⟩
theorem zeh {k:Nat} (h:1<=k /\ k < 256):1<=byteAt len8 k /\ byteAt len8 k<=8 /\ 2 ^ (byteAt len8 k - 1)<=k /\ k < 2 ^ byteAt len8 k:=by
 have:=z70 (k:=256) (p:=fun k=>decide (k=0 ∨ (1<=byteAt len8 k /\ byteAt len8 k<=8 /\ 2 ^ (byteAt len8 k - 1)<=k /\ k < 2 ^ byteAt len8 k))) (by decide +kernel) h.2
 rcases of_decide_eq_true this with h1|h1
 ·omega
 ·exact h1
set_option maxRecDepth 10000 in
theorem zii (n:Nat) (h1:100<=n) (h2:n<=99999) (M:Mem):CallOk Tryz.prog 145 [.int .u64 n] M (fun w M'=>(∃ L:Nat,w=I L /\ 7<=L /\ L<=17 /\ 2 ^ (L - 1)<=n /\ n < 2 ^ L) /\ M'=M):=by
 refine zg k145 rfl ?_
 dsimp only [x145,zipE,Nat.reduceAdd]
 (repeat' (first|(with_reducible intro _)|refine sv ?_|(refine sc ?_ ?_<;>(intro h;try first|exact h.elim|exact absurd rfl h|(exfalso;omega)))|(refine sg ?_ ?_<;>(intro h;(fail_if_success (have:True:=h));try first|exact h.elim|exact absurd rfl h|(exfalso;omega)))|assumption|exact xm|exact rfl))
 ·refine zl (by exact gd) (zb7 (a:=n) (b:=16) rfl rfl (by omega)) ?_
  have e:n / 2 ^ 16=1:=by omega
  rw [e]
  (repeat' (first|(with_reducible intro _)|refine sv ?_|(refine sc ?_ ?_<;>(intro h;try first|exact h.elim|exact absurd rfl h|(exfalso;omega)))|(refine sg ?_ ?_<;>(intro h;(fail_if_success (have:True:=h));try first|exact h.elim|exact absurd rfl h|(exfalso;omega)))|assumption|exact xm|exact rfl))
  all_goals try (exfalso;omega)
  refine zl (by exact gd) (z0h (k:=1) rfl rfl (by decide)) ?_
  have e:byteAt len8 1=1:=by decide +kernel
  rw [e]
  (repeat' (first|(with_reducible intro _)|refine sv ?_|(refine sc ?_ ?_<;>(intro h;try first|exact h.elim|exact absurd rfl h|(exfalso;omega)))|(refine sg ?_ ?_<;>(intro h;(fail_if_success (have:True:=h));try first|exact h.elim|exact absurd rfl h|(exfalso;omega)))|assumption|exact xm|exact rfl))
  ((with_reducible first|apply zh|apply zc);exact rx)
  exact ⟨⟨17,rfl,by omega,by omega,by omega,by omega⟩,rfl⟩
 ·refine zl (by exact gd) (zb7 (a:=n) (b:=8) rfl rfl (by omega)) ?_
  obtain ⟨b1,b2,b3,b4⟩:=zeh (k:=n / 2 ^ 8) (by omega)
  have hp:n=n / 2 ^ 8*256+n % 256:=by omega
  have hr:n % 256 < 256:=by omega
  generalize n / 2 ^ 8=q at *
  (repeat' (first|(with_reducible intro _)|refine sv ?_|(refine sc ?_ ?_<;>(intro h;try first|exact h.elim|exact absurd rfl h|(exfalso;omega)))|(refine sg ?_ ?_<;>(intro h;(fail_if_success (have:True:=h));try first|exact h.elim|exact absurd rfl h|(exfalso;omega)))|assumption|exact xm|exact rfl))
  all_goals try (exfalso;omega)
  refine zl (by exact gd) (z0h (k:=q) rfl rfl (by show q < 256;omega)) ?_
  generalize byteAt len8 q=L at *
  (repeat' (first|(with_reducible intro _)|refine sv ?_|(refine sc ?_ ?_<;>(intro h;try first|exact h.elim|exact absurd rfl h|(exfalso;omega)))|(refine sg ?_ ?_<;>(intro h;(fail_if_success (have:True:=h));try first|exact h.elim|exact absurd rfl h|(exfalso;omega)))|assumption|exact xm|exact rfl))
  ((with_reducible first|apply zh|apply zc);exact rx)
  have e1:2 ^ (8+L - 1)=2 ^ (L - 1)*256:=by rw [show 8+L - 1=(L - 1)+8 by omega,Nat.pow_add]
  have e2:2 ^ (8+L)=2 ^ L*256:=by rw [Nat.add_comm,Nat.pow_add]
  exact ⟨⟨8+L,rfl,by omega,by omega,by omega,by omega⟩,rfl⟩
 ·obtain ⟨b1,b2,b3,b4⟩:=zeh (k:=n) (by omega)
  refine zl (by exact gd) (z0h (k:=n) rfl rfl (by show n < 256;omega)) ?_
  have h7:7<=byteAt len8 n:=Nat.le_of_not_lt fun h=>by
   have:=Nat.pow_le_pow_right (n:=2) (by omega) (Nat.le_of_lt_succ (show byteAt len8 n < 6+1 by omega))
   omega
  generalize byteAt len8 n=L at *
  (repeat' (first|(with_reducible intro _)|refine sv ?_|(refine sc ?_ ?_<;>(intro h;try first|exact h.elim|exact absurd rfl h|(exfalso;omega)))|(refine sg ?_ ?_<;>(intro h;(fail_if_success (have:True:=h));try first|exact h.elim|exact absurd rfl h|(exfalso;omega)))|assumption|exact xm|exact rfl))
  ((with_reducible first|apply zh|apply zc);exact rx)
  exact ⟨⟨L,by show I (0+(L:Int))=I L;rw [Int.zero_add],by omega,by omega,b3,b4⟩,rfl⟩
theorem zil (L:Nat) (h:L<=17) (M:Mem):CallOk Tryz.prog 144 [I L] M (fun w M'=>w=I ((L*78913 / 262144:Nat):Int) /\ M'=M):=by
 refine zg k144 rfl ?_
 dsimp only [x144,zipE,Nat.reduceAdd]
 (repeat' (first|(with_reducible intro _)|refine sv ?_|(refine sc ?_ ?_<;>(intro h;try first|exact h.elim|exact absurd rfl h|(exfalso;omega)))|(refine sg ?_ ?_<;>(intro h;(fail_if_success (have:True:=h));try first|exact h.elim|exact absurd rfl h|(exfalso;omega)))|assumption|exact xm|exact rfl))
 ((with_reducible first|apply zh|apply zc);exact rx)
 have e:shrZ ((L:Int)*78913) 18=((L*78913 / 262144:Nat):Int):=by
  show (L:Int)*78913 / 262144=_
  omega
 exact ⟨congrArg (LV.int .i64) e,rfl⟩
theorem zdp (b:Bool) (M:Mem):CallOk Tryz.prog 146 [.bool b] M (fun w M'=>w=I (if b then 1 else 0) /\ M'=M):=by
 refine zg k146 rfl ?_
 dsimp only [x146,zipE,Nat.reduceAdd]
 cases b with
 | true=>(repeat' (first|(with_reducible intro _)|refine sv ?_|(refine sc ?_ ?_<;>(intro h;try first|exact h.elim|exact absurd rfl h|(exfalso;omega)))|(refine sg ?_ ?_<;>(intro h;(fail_if_success (have:True:=h));try first|exact h.elim|exact absurd rfl h|(exfalso;omega)))|assumption|exact xm|exact rfl));((with_reducible first|apply zh|apply zc);exact rx);exact ⟨rfl,rfl⟩
 | false=>(repeat' (first|(with_reducible intro _)|refine sv ?_|(refine sc ?_ ?_<;>(intro h;try first|exact h.elim|exact absurd rfl h|(exfalso;omega)))|(refine sg ?_ ?_<;>(intro h;(fail_if_success (have:True:=h));try first|exact h.elim|exact absurd rfl h|(exfalso;omega)))|assumption|exact xm|exact rfl));((with_reducible first|apply zh|apply zc);exact rx);exact ⟨rfl,rfl⟩
theorem c_b1 {p:Prop} [Decidable p] (h:p) (M:Mem):CallOk Tryz.prog 146 [.bool (decide p)] M (fun w M'=>w=I 1 /\ M'=M):=by
 have:=zdp (decide p) M
 rwa [if_pos (decide_eq_true h)] at this
theorem c_b0 {p:Prop} [Decidable p] (h:¬ p) (M:Mem):CallOk Tryz.prog 146 [.bool (decide p)] M (fun w M'=>w=I 0 /\ M'=M):=by
 have:=zdp (decide p) M
 rwa [if_neg (by rw [decide_eq_false h];exact Bool.false_ne_true)] at this
theorem zne {n L:Nat} (h1:100<=n) (h2:n<=99999) (h3:7<=L) (h4:L<=17) (h5:2 ^ (L - 1)<=n) (h6:n < 2 ^ L) :
  (L*78913 / 262144=2 /\ n < 512) ∨ (L*78913 / 262144=3 /\ 512<=n /\ n < 8192) ∨ (L*78913 / 262144=4 /\ 8192<=n /\ n < 65536) ∨ (L*78913 / 262144=5 /\ 65536<=n):=by
 obtain rfl|rfl|rfl|rfl|rfl|rfl|rfl|rfl|rfl|rfl|rfl:L=7 ∨ L=8 ∨ L=9 ∨ L=10 ∨ L=11 ∨ L=12 ∨ L=13 ∨ L=14 ∨ L=15 ∨ L=16 ∨ L=17:=by omega
 all_goals omega
def ndN (n:Nat):Nat:=if n < 1000 then 3 else if n < 10000 then 4 else 5
theorem zlj {M:Mem} (hB:Base M) (hp:preOk M tabs=true):∃ own,At M 2 (.cells own (intsL .u64 zs2) 0):=by
 obtain ⟨own,h⟩:=z1t tabs hp (2,intsL .u64 zs2,0) (by unfold tabs;simp only [List.mem_cons,true_or,or_true])
 exact ⟨own,h,hB _ _ h⟩
def P10 (M:Mem):Prop:=∃ own,At M 2 (.cells own (intsL .u64 zs2) 0)
theorem P10.grow {M M':Mem} (h:P10 M) (hg:Grow M M'):P10 M':=by
 obtain ⟨own,h⟩:=h
 exact ⟨own,At.grow hg h⟩
theorem zab (n:Nat) (h1:100<=n) (h2:n<=99999) {M:Mem} (hP:P10 M):CallOk Tryz.prog 127 [.int .u64 n] M (fun w M'=>w=I (ndN n) /\ M'=M):=by
 refine zg k127 rfl ?_
 dsimp only [x127,zipE,Nat.reduceAdd]
 have cl:=zii n h1 h2
 (repeat' (first|(with_reducible intro _)|refine sv ?_|(refine sc ?_ ?_<;>(intro h;try first|exact h.elim|exact absurd rfl h|(exfalso;omega)))|((with_reducible first|apply z0t|apply z1q|apply z1e);exact gd;exact rfl;exact rfl;(first|exact cl _))|(refine sg ?_ ?_<;>(intro h;(fail_if_success (have:True:=h));try first|exact h.elim|exact absurd rfl h|(exfalso;omega)))|assumption|exact xm|exact rfl))
 rename_i w M1 hq
 obtain ⟨⟨L,rfl,h3,h4,h5,h6⟩,rfl⟩:=hq
 have hl:=zne h1 h2 h3 h4 h5 h6
 have c1:=zil L h4
 generalize L*78913 / 262144=g at *
 obtain ⟨own,ha⟩:=hP
 rcases hl with ⟨rfl,h7⟩|⟨rfl,h7,h8⟩|⟨rfl,h7,h8⟩|⟨rfl,h7⟩
 ·have r2:Rd1 M1 2 (0+2*1) (.int .u64 100):=Rd1.of_at ha rfl
  have c2:=c_b1 (show (100:Int)<=n by omega)
  (have hrd0:=r2;repeat' (first|(with_reducible intro _)|refine sv ?_|(refine sc ?_ ?_<;>(intro h;try first|exact h.elim|exact absurd rfl h|(exfalso;omega)))|((with_reducible first|apply z05|apply z04|apply zt);exact gd;exact rfl;exact rfl;(first|exact c1 _|exact c2 _))|(refine sg ?_ ?_<;>(intro h;(fail_if_success (have:True:=h));try first|exact h.elim|exact absurd rfl h|(exfalso;omega)))|assumption|exact xm|exact rfl))
  ((with_reducible first|apply zh|apply zc);exact rx)
  exact ⟨by unfold ndN;rw [if_pos (by omega)];rfl,rfl⟩
 ·have r2:Rd1 M1 2 (0+3*1) (.int .u64 1000):=Rd1.of_at ha rfl
  by_cases hn:n < 1000
  ·have c2:=c_b0 (show ¬ (1000:Int)<=n by omega)
   (have hrd0:=r2;repeat' (first|(with_reducible intro _)|refine sv ?_|(refine sc ?_ ?_<;>(intro h;try first|exact h.elim|exact absurd rfl h|(exfalso;omega)))|((with_reducible first|apply z05|apply z04|apply zt);exact gd;exact rfl;exact rfl;(first|exact c1 _|exact c2 _))|(refine sg ?_ ?_<;>(intro h;(fail_if_success (have:True:=h));try first|exact h.elim|exact absurd rfl h|(exfalso;omega)))|assumption|exact xm|exact rfl))
   ((with_reducible first|apply zh|apply zc);exact rx)
   exact ⟨by unfold ndN;rw [if_pos hn];rfl,rfl⟩
  ·have c2:=c_b1 (show (1000:Int)<=n by omega)
   (have hrd0:=r2;repeat' (first|(with_reducible intro _)|refine sv ?_|(refine sc ?_ ?_<;>(intro h;try first|exact h.elim|exact absurd rfl h|(exfalso;omega)))|((with_reducible first|apply z05|apply z04|apply zt);exact gd;exact rfl;exact rfl;(first|exact c1 _|exact c2 _))|(refine sg ?_ ?_<;>(intro h;(fail_if_success (have:True:=h));try first|exact h.elim|exact absurd rfl h|(exfalso;omega)))|assumption|exact xm|exact rfl))
   ((with_reducible first|apply zh|apply zc);exact rx)
   exact ⟨by unfold ndN;rw [if_neg hn,if_pos (by omega)];rfl,rfl⟩
 ·have r2:Rd1 M1 2 (0+4*1) (.int .u64 10000):=Rd1.of_at ha rfl
  by_cases hn:n < 10000
  ·have c2:=c_b0 (show ¬ (10000:Int)<=n by omega)
   (have hrd0:=r2;repeat' (first|(with_reducible intro _)|refine sv ?_|(refine sc ?_ ?_<;>(intro h;try first|exact h.elim|exact absurd rfl h|(exfalso;omega)))|((with_reducible first|apply z05|apply z04|apply zt);exact gd;exact rfl;exact rfl;(first|exact c1 _|exact c2 _))|(refine sg ?_ ?_<;>(intro h;(fail_if_success (have:True:=h));try first|exact h.elim|exact absurd rfl h|(exfalso;omega)))|assumption|exact xm|exact rfl))
   ((with_reducible first|apply zh|apply zc);exact rx)
   exact ⟨by unfold ndN;rw [if_neg (by omega),if_pos hn];rfl,rfl⟩
  ·have c2:=c_b1 (show (10000:Int)<=n by omega)
   (have hrd0:=r2;repeat' (first|(with_reducible intro _)|refine sv ?_|(refine sc ?_ ?_<;>(intro h;try first|exact h.elim|exact absurd rfl h|(exfalso;omega)))|((with_reducible first|apply z05|apply z04|apply zt);exact gd;exact rfl;exact rfl;(first|exact c1 _|exact c2 _))|(refine sg ?_ ?_<;>(intro h;(fail_if_success (have:True:=h));try first|exact h.elim|exact absurd rfl h|(exfalso;omega)))|assumption|exact xm|exact rfl))
   ((with_reducible first|apply zh|apply zc);exact rx)
   exact ⟨by unfold ndN;rw [if_neg (by omega),if_neg hn];rfl,rfl⟩
 ·have r2:Rd1 M1 2 (0+5*1) (.int .u64 100000):=Rd1.of_at ha rfl
  have c2:=c_b0 (show ¬ (100000:Int)<=n by omega)
  (have hrd0:=r2;repeat' (first|(with_reducible intro _)|refine sv ?_|(refine sc ?_ ?_<;>(intro h;try first|exact h.elim|exact absurd rfl h|(exfalso;omega)))|((with_reducible first|apply z05|apply z04|apply zt);exact gd;exact rfl;exact rfl;(first|exact c1 _|exact c2 _))|(refine sg ?_ ?_<;>(intro h;(fail_if_success (have:True:=h));try first|exact h.elim|exact absurd rfl h|(exfalso;omega)))|assumption|exact xm|exact rfl))
  ((with_reducible first|apply zh|apply zc);exact rx)
  exact ⟨by unfold ndN;rw [if_neg (by omega),if_neg (by omega)];rfl,rfl⟩
theorem wrap32 {n:Nat} (h:n < 4294967296):IntKind.wrap .u32 (n:Int)=n:=by
 unfold IntKind.wrap
 simp only [IntKind.signed,IntKind.bits,Bool.false_and,Bool.false_eq_true,if_false]
 omega
section
variable {E:Env} {M:Mem} {x y:XO} {a b:Nat}
theorem z4d (hx:xval E x=some (.int .u32 (a:Int))) (hy:xval E y=some (.int .u32 (b:Int))) (hb:0 < b):xstep Tryz.prog (.bin .rem x y) E M=some (.val (.int .u32 ((a % b:Nat):Int)) M):=by
 obtain ⟨c,rfl⟩:∃ c,b=c+1:=⟨b - 1,by omega⟩
 show ob (xval E x) _=_
 rw [hx,z0,hy,z0]
 show guard' true (ob (mkI .u32 ((a:Int).tmod ((c+1:Nat):Int))) _)=_
 rw [zd,z0c,z0];rfl
theorem z4c (hx:xval E x=some (.int .u32 (a:Int))) (hy:xval E y=some (.int .u32 (b:Int))) (hb:0 < b) (ha:a < 4294967296):xstep Tryz.prog (.bin .quo x y) E M=some (.val (.int .u32 ((a / b:Nat):Int)) M):=by
 obtain ⟨c,rfl⟩:∃ c,b=c+1:=⟨b - 1,by omega⟩
 show ob (xval E x) _=_
 rw [hx,z0,hy,z0]
 show guard' true (ob (mkI .u32 (wr .u32 ((a:Int).tdiv ((c+1:Nat):Int)))) _)=_
 have e:(a:Int).tdiv ((c+1:Nat):Int)=((a / (c+1):Nat):Int):=rfl
 rw [zd,e,z1g,wrap32 (Nat.lt_of_le_of_lt (Nat.div_le_self _ _) ha),z0c,z0];rfl
theorem z4b (hx:xval E x=some (.int .u32 (a:Int))) (hy:xval E y=some (.int .u32 (b:Int))) (h:a*b < 4294967296):xstep Tryz.prog (.bin .mul x y) E M=some (.val (.int .u32 ((a*b:Nat):Int)) M):=by
 refine z08 ?_ M
 show ob (xval E x) _=_
 rw [hx,z0,hy]
 show some (LV.int .u32 (IntKind.wrap .u32 ((a*b:Nat):Int)))=_
 rw [wrap32 h]
end
set_option maxRecDepth 10000 in
theorem z1n {k:Nat} (h:k < 200):k < smls.size:=h
theorem wr8 {k:Nat} (h:k<=255):IntKind.wrap .u8 (IntKind.wrap .u32 (48+(k:Int)))=IntKind.wrap .u8 (48+(k:Int)):=by
 rw [show (48+(k:Int))=((48+k:Nat):Int) from rfl,wrap32 (by omega)]
theorem zlx {k:Nat} (h:k<=9):IntKind.wrap .u8 (IntKind.wrap .u32 (48+(k:Int)))=((48+k:Nat):Int):=by
 rw [wr8 (by omega),wrap8 (by omega)];rfl
theorem z6p {k:Nat} (h:k < 100):(byteAt smls (k*2):Int)=((48+k / 10:Nat):Int):=by
 have:=z70 (k:=100) (p:=fun k=>decide (byteAt smls (k*2)=48+k / 10)) (by decide +kernel) h
 rw [of_decide_eq_true this]
theorem z6q {k:Nat} (h:k < 100):(byteAt smls (k*2+1):Int)=((48+k % 10:Nat):Int):=by
 have:=z70 (k:=100) (p:=fun k=>decide (byteAt smls (k*2+1)=48+k % 10)) (by decide +kernel) h
 rw [of_decide_eq_true this]
abbrev ub (n:Nat):LV:=.int .u8 (n:Int)
set_option maxHeartbeats 4000000 in
theorem zkp (n:Nat) (h1:100<=n) (h2:n < 1000) {M:Mem} {p:Nat} {ty:TypeId} {f:Bool} (ha:At M p (.cells true (rep 24 [.int .u8 0]) ty)) :
  CallOk Tryz.prog 128 [.slice (some (p,1)) 3 f 1,.int .u64 n] M (fun w M'=>At M' p (.cells true ([ub 0,ub (48+n / 100),ub (48+n / 10 % 10),ub (48+n % 10)] ++ rep 20 [.int .u8 0]) ty) /\ Keep (fun i=>i=p) M M'):=by
 refine zg k128 rfl ?_
 dsimp only [x128,zipE,Nat.reduceAdd]
 (repeat' (first|(with_reducible intro _)|refine sv ?_|(refine sc ?_ ?_<;>(intro h;try first|exact h.elim|exact absurd rfl h|(exfalso;omega)))|(refine sg ?_ ?_<;>(intro h;(fail_if_success (have:True:=h));try first|exact h.elim|exact absurd rfl h|(exfalso;omega)))|assumption|exact xm|exact rfl))
 refine zx (fun m E ms M'=>m=0 /\ ms=[] /\ Has E [(0,.slice (some (p,1)) 3 f 1),(1,.int .u64 n),(4,I 3)] /\ M'=M)
  ?_ 0 _ _ _ ⟨rfl,rfl,.cons rfl (.cons rfl (.cons rfl .nil)),rfl⟩
 rintro m E ms M1 ⟨rfl,rfl,hE,rfl⟩
 refine z3l hE ?_
 (repeat' (first|(with_reducible intro _)|refine sv ?_|(refine sc ?_ ?_<;>(intro h;try first|exact h.elim|exact absurd rfl h|(exfalso;omega)))|(refine sg ?_ ?_<;>(intro h;(fail_if_success (have:True:=h));try first|exact h.elim|exact absurd rfl h|(exfalso;omega)))|assumption|exact xm|exact rfl))
 rw [wrap32 (by omega:n < 4294967296)]
 refine zl (by exact gd) (z4d (a:=n) (b:=100) rfl rfl (by omega)) ?_
 refine zl (by exact gd) (z4b (a:=n % 100) (b:=2) rfl rfl (by omega)) ?_
 (repeat' (first|(with_reducible intro _)|refine sv ?_|(refine sc ?_ ?_<;>(intro h;try first|exact h.elim|exact absurd rfl h|(exfalso;omega)))|(refine sg ?_ ?_<;>(intro h;(fail_if_success (have:True:=h));try first|exact h.elim|exact absurd rfl h|(exfalso;omega)))|assumption|exact xm|exact rfl))
 refine zl (by exact gd) (z4c (a:=n) (b:=100) rfl rfl (by omega) (by omega)) ?_
 (repeat' (first|(with_reducible intro _)|refine sv ?_|(refine sc ?_ ?_<;>(intro h;try first|exact h.elim|exact absurd rfl h|(exfalso;omega)))|(refine sg ?_ ?_<;>(intro h;(fail_if_success (have:True:=h));try first|exact h.elim|exact absurd rfl h|(exfalso;omega)))|assumption|exact xm|exact rfl))
 have ew:IntKind.wrap .u32 (((n % 100*2:Nat):Int)+1)=((n % 100*2+1:Nat):Int):=wrap32 (n:=n % 100*2+1) (by omega)
 rw [ew]
 refine z5u (by exact gd) (z0h (k:=n % 100*2+1) rfl rfl (z1n (by omega))) ?_
 rw [z6q (by omega)]
 (repeat' (first|(with_reducible intro _)|refine sv ?_|(refine sc ?_ ?_<;>(intro h;try first|exact h.elim|exact absurd rfl h|(exfalso;omega)))|(refine sg ?_ ?_<;>(intro h;(fail_if_success (have:True:=h));try first|exact h.elim|exact absurd rfl h|(exfalso;omega)))|assumption|exact xm|exact rfl))
 refine z5u (by exact gd) (z0h (k:=n % 100*2) rfl rfl (z1n (by omega))) ?_
 rw [z6p (by omega)]
 (repeat' (first|(with_reducible intro _)|refine sv ?_|(refine sc ?_ ?_<;>(intro h;try first|exact h.elim|exact absurd rfl h|(exfalso;omega)))|(refine sg ?_ ?_<;>(intro h;(fail_if_success (have:True:=h));try first|exact h.elim|exact absurd rfl h|(exfalso;omega)))|assumption|exact xm|exact rfl))
 rename_i z1
 ((with_reducible first|apply zh|apply zc);exact rx)
 rw [zlx (by omega),show n % 100 / 10=n / 10 % 10 by omega,show n % 100 % 10=n % 10 by omega] at z1
 exact ⟨z1,xk⟩
end Go.Proofs.YtegiepfebnaebaaGreatDoor.C
end
