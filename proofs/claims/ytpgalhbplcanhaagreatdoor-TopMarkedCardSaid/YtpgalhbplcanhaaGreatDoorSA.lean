/-
 Part of the proof of TopMarked. No condition beyond those in each theorem.
-/
import Derived.Test.YtpgalhbplcanhaaGreatDoorTA
import Derived.Test.YtpgalhbplcanhaaGreatDoorPvE
import Derived.Test.YtpgalhbplcanhaaGreatDoorTW
import Derived.Test.YtpgalhbplcanhaaGreatDoorPvH
import Derived.Test.YtpgalhbplcanhaaGreatDoorPvG
import Derived.Test.YtpgalhbplcanhaaGreatDoorTX
section
open Go PvL Go.Proofs
set_option linter.unusedSimpArgs false
set_option linter.unusedVariables false
namespace Go.Proofs.YtpgalhbplcanhaaGreatDoor.C
def e26:Entry:=⟨26,[(.agg [(.int .i64 (.ofNat 5)),(.int .i64 (.ofNat 2)),(.int .i64 (.ofNat 3)),(.int .i64 (.ofNat 1)),(.int .i64 (.ofNat 0)),(.int .i64 (.ofNat 1)),(.int .i64 (.ofNat 0))]),(.agg [(.slice (some (104,0)) 3 true 8),(.slice (some (105,0)) 3 true 8),(.slice (some (106,0)) 3 true 1),(.slice (some (107,0)) 3 true 1),(.slice none 0 true 0)])],109,(tabsT ++ [(104,[(.int .i64 (.ofNat 0)),(.int .i64 (.ofNat 0)),(.int .i64 (.ofNat 0)),(.int .i64 (.ofNat 0)),(.int .i64 (.ofNat 0)),(.int .i64 (.ofNat 0)),(.int .i64 (.ofNat 0)),(.int .i64 (.ofNat 0)),(.int .i64 (.ofNat 0)),(.int .i64 (.ofNat 0)),(.int .i64 (.ofNat 0)),(.int .i64 (.ofNat 0)),(.int .i64 (.ofNat 0)),(.int .i64 (.ofNat 0)),(.int .i64 (.ofNat 0)),(.int .i64 (.ofNat 0)),(.int .i64 (.ofNat 0)),(.int .i64 (.ofNat 0)),(.int .i64 (.ofNat 0)),(.int .i64 (.ofNat 0)),(.int .i64 (.ofNat 0)),(.int .i64 (.ofNat 0)),(.int .i64 (.ofNat 0)),(.int .i64 (.ofNat 0))],28),(105,[(.int .i64 (.ofNat 0)),(.int .i64 (.ofNat 0)),(.int .i64 (.ofNat 0)),(.int .i64 (.ofNat 0)),(.int .i64 (.ofNat 0)),(.int .i64 (.ofNat 0)),(.int .i64 (.ofNat 0)),(.int .i64 (.ofNat 0)),(.int .i64 (.ofNat 0)),(.int .i64 (.ofNat 0)),(.int .i64 (.ofNat 0)),(.int .i64 (.ofNat 0)),(.int .i64 (.ofNat 0)),(.int .i64 (.ofNat 0)),(.int .i64 (.ofNat 0)),(.int .i64 (.ofNat 0)),(.int .i64 (.ofNat 0)),(.int .i64 (.ofNat 0)),(.int .i64 (.ofNat 0)),(.int .i64 (.ofNat 0)),(.int .i64 (.ofNat 0)),(.int .i64 (.ofNat 0)),(.int .i64 (.ofNat 0)),(.int .i64 (.ofNat 0))],28),(106,[(.bool true),(.bool true),(.bool true)],4),(107,[(.bool false),(.bool false),(.bool false)],4)]),(.tup [(.slice (some (735,0)) 3 false 1),(.int .i64 (.ofNat 1)),(.int .i64 (.ofNat 0))]),741,[(735,[(.int .i64 (.ofNat 0)),(.int .i64 (.ofNat 1)),(.int .i64 (.ofNat 2))],1000003)]⟩
set_option maxRecDepth 100000 in
theorem c26:chk Tryz.prog [] 100000 e26=true:=by kernel_rfl
theorem k26e:e26.Ok Tryz.prog:=z5k mix (fun e h=>by cases h) c26
def e8:Entry:=⟨8,[(.agg [(.slice (some (753,0)) 1 true 4),(.slice none 0 true 0),(.slice none 0 true 0),(.int .i64 (.ofNat 0)),(.int .i64 (.ofNat 0)),(.int .i64 (.ofNat 0)),(.int .i64 (.ofNat 0)),(.int .i64 (.ofNat 0)),(.int .i64 (.ofNat 0)),(.int .i64 (.ofNat 0)),(.int .i64 (.ofNat 0)),(.int .i64 (.ofNat 0)),(.int .i64 (.ofNat 0)),(.int .i64 (.ofNat 0)),(.int .i64 (.ofNat 2)),(.int .i64 (.ofNat 3)),(.slice (some (755,0)) 1 true 1)])],757,(tabsT ++ [(753,[(.int .i64 (.ofNat 0)),(.int .i64 (.ofNat 0)),(.int .i64 (.ofNat 10)),(.int .i64 (.ofNat 0))],49),(755,[(.slice (some (754,0)) 1 true 2)],41),(754,[(.int .i64 (.ofNat 7)),(.int .i64 (.ofNat 100))],26)]),(.tup [(.slice (some (1592,0)) 1 false 2),(.int .i64 (.ofNat 12)),(.int .i64 (.ofNat 0))]),1610,[(1592,[(.int .i64 (.ofNat 0)),(.int .i64 (.ofNat 0))],1000047)]⟩
set_option maxRecDepth 100000 in
theorem c8:chk Tryz.prog [] 100000 e8=true:=by kernel_rfl
theorem k8e:e8.Ok Tryz.prog:=z5k mix (fun e h=>by cases h) c8
def e175:Entry:=⟨175,[(.agg [(.slice (some (1610,0)) 2 true 8),(.slice (some (1611,0)) 1 true 14)])],1612,(tabsT ++ [(1610,[(.int .i64 (.ofNat 0)),(.int .i64 (.ofNat 0)),(.int .i64 (.ofNat 0)),(.int .i64 (.ofNat 0)),(.int .i64 (.ofNat 0)),(.int .i64 (.ofNat 0)),(.int .i64 (.ofNat 0)),(.int .i64 (.ofNat 0)),(.int .i64 (.ofNat 0)),(.int .i64 (.ofNat 9)),(.int .i64 (.ofNat 0)),(.int .i64 (.ofNat 9)),(.int .i64 (.ofNat 0)),(.int .i64 (.ofNat 18)),(.int .i64 (.negSucc 8)),(.int .i64 (.ofNat 9))],28),(1611,[(.int .i64 (.ofNat 1)),(.int .i64 (.ofNat 0)),(.int .i64 (.ofNat 1)),(.int .i64 (.ofNat 0)),(.int .i64 (.ofNat 2)),(.int .i64 (.ofNat 0)),(.int .i64 (.ofNat 0)),(.int .i64 (.ofNat 0)),(.int .i64 (.ofNat 0)),(.int .i64 (.ofNat 0)),(.int .i64 (.ofNat 0)),(.int .i64 (.ofNat 0)),(.int .i64 (.ofNat 0)),(.int .i64 (.ofNat 0))],329)]),(.tup [(.slice (some (2154,0)) 2 false 8),(.int .i64 (.ofNat 0))]),3254,[(2154,[(.int .i64 (.ofNat 0)),(.int .i64 (.ofNat 0)),(.int .i64 (.ofNat 0)),(.int .i64 (.ofNat 0)),(.int .i64 (.ofNat 0)),(.int .i64 (.ofNat 0)),(.int .i64 (.ofNat 0)),(.int .i64 (.ofNat 0)),(.int .i64 (.ofNat 0)),(.int .i64 (.ofNat 1)),(.int .i64 (.ofNat 0)),(.int .i64 (.ofNat 1)),(.int .i64 (.ofNat 0)),(.int .i64 (.ofNat 2)),(.int .i64 (.negSucc 0)),(.int .i64 (.ofNat 1))],1000028)]⟩
set_option maxRecDepth 100000 in
theorem c175:chk Tryz.prog [] 100000 e175=true:=by kernel_rfl
theorem k175e:e175.Ok Tryz.prog:=z5k mix (fun e h=>by cases h) c175
theorem zq5:∀ e ∈ [e26,e8,e175],e.Ok Tryz.prog:=fun e h=>by
 rcases List.mem_cons.1 h with rfl|h
 ·exact k26e
 rcases List.mem_cons.1 h with rfl|h
 ·exact k8e
 rcases List.mem_cons.1 h with rfl|h
 ·exact k175e
 cases h
def e0:Entry:=⟨9,[],64,tabsT,.bool true,3271,[]⟩
set_option maxRecDepth 100000 in
theorem c0:chk Tryz.prog [e26,e8,e175] 100000 e0=true:=by kernel_rfl
theorem k0:e0.Ok Tryz.prog:=z5k mix zq5 c0
def ewk:Entry:=⟨22,[],64,tabs,.bool true,283,[]⟩
set_option maxRecDepth 100000 in
theorem cwk:chk Tryz.prog [] 100000 ewk=true:=by kernel_rfl
theorem kwk:ewk.Ok Tryz.prog:=z5k mix (fun e h=>by cases h) cwk
theorem orcOk:OrcOk Tryz.prog where
 fn f l m v h:=by
  obtain⟨rfl,rfl,⟨rfl,_⟩|⟨rfl,_⟩⟩:=z7m h
  ·exact kwk.fn
  ·exact k0.fn
 imp f l m v h:=by
  obtain⟨rfl,rfl,⟨rfl,_⟩|⟨rfl,_⟩⟩:=z7m h
  ·exact kwk.imp
  ·exact k0.imp
 sim f l m v h:=by
  obtain⟨rfl,rfl,⟨rfl,hp⟩|⟨rfl,hp⟩⟩:=z7m h
  ·exact ziy kwk zpg zgt rfl rfl rfl rfl m hp
  ·exact ziy k0 zm9 ze5 rfl rfl rfl rfl m hp
end Go.Proofs.YtpgalhbplcanhaaGreatDoor.C
end
section
open PvL Go
set_option linter.unusedSimpArgs false
set_option linter.unusedVariables false
namespace Go.Proofs.YtpgalhbplcanhaaGreatDoor.C
def SlI(M:Mem)(a:Option (Nat × Nat))(l:List Int):Prop:=l=[] ∨ ∃ i o,a=some (i,o) /\ ∀ k (hk:k < l.length),Rd1 M i (o+k*1) (I l[k])
theorem SlI.grow{M M':Mem}{a:Option (Nat × Nat)}{l:List Int}(h:SlI M a l)(hg:Grow M M'):SlI M' a l :=
 h.imp id fun⟨i,o,h1,h2⟩=>⟨i,o,h1,fun k hk=>(h2 k hk).grow hg⟩
theorem SlI.rd{M:Mem}{a:Option (Nat × Nat)}{l:List Int}(h:SlI M a l){k:Nat}(hk:k < l.length):∃ i o,a=some (i,o) /\ Rd1 M i (o+k*1) (I l[k]):=by
 rcases h with rfl|⟨i,o,h1,h2⟩
 ·exact absurd hk (Nat.not_lt_zero _)
 ·exact⟨i,o,h1,h2 k hk⟩
theorem znf{M:Mem}{i o:Nat}{v:LV}(h:Rd M i o 1 [v]):Rd1 M i o v:=by
 have:=Rd.nth (j:=0) h (v:=v) rfl
 simpa using this
theorem zkw{m:Mem}{b:Nat}{l:List Int}{cs:List LV}(h:Enc m (.sl (.int .i64) b) l cs):∃ a f,cs=[.slice a l.length f 1] /\ SlI m a l /\ l.length<=reachBytes /\ ∀ x ∈ l,IntKind.min .i64<=x /\ x<=IntKind.max .i64:=by
 obtain⟨a,f,h1,h2,h3⟩:=h
 by_cases hl:l=[]
 ·subst hl
  exact⟨a,f,h1,.inl rfl,h2.1,fun x hx=>nomatch hx⟩
 ·obtain⟨i,o,g1,g2,_,g3⟩:=h3 hl
  have key:∀ k (hk:k < l.length),Rd1 m i (o+k*1) (I l[k]) /\ IntKind.min .i64<=l[k] /\ l[k]<=IntKind.max .i64:=fun k hk=>by
   obtain⟨c,g4,g5,g6⟩:=g3 k hk
   rw[g5] at g4
   exact⟨znf ⟨g4,g2⟩,g6⟩
  refine⟨a,f,h1,.inr ⟨i,o,g1,fun k hk=>(key k hk).1⟩,h2.1,fun x hx=>?_⟩
  obtain⟨k,hk,rfl⟩:=List.getElem_of_mem hx
  exact(key k hk).2
def I64(n:Int):Prop:=-9223372036854775808<=n /\ n<=9223372036854775807
def btB(n a b:Int):Bool:=decide (a<=n /\ n<=b)
end Go.Proofs.YtpgalhbplcanhaaGreatDoor.C
end
section
open PvL Go
set_option linter.unusedVariables false
variable {μ:PvL.Md}
namespace Go.Proofs.YtpgalhbplcanhaaGreatDoor.C
section
variable {α:Type} {b q:Nat} {ty:TypeId} {enc:α->List LV} {M:Mem} {v:LV} {l l':List α} {P:Program} [Orc P] {sz:Nat} {E:Env} {K:Env->Mem->Prop} {ll:List XG} {d:Nat} {g:Option (Nat × Bool)} {s x:XO} {st:List Mem} {k:Nat} {xs:List (Nat × Nat × (Mem->Prop))} {ld:List (XG × XK)} {by':Nat} {z:List LV} {xv:LV}
theorem z4b(hg:GOn E g)(hv:Vec b q ty enc M v l)(hs:xval E s=some v)(hx:xval E x=some xv)(hn:z1k xv=some l'.length)(h0:0 < l'.length)(hb:(2*(l.length+l'.length)+2048)*by'<=140737488355328)(hz:(Nat.ble 1 q && (Nat.ble 1 by' && Nat.beq z.length q))=true)(hw:z0l q l'.length xv M=some (l'.flatMap enc))
  (henc:∀ x,(enc x).length=q) (hfl:∀ x,zl (enc x)=true) (hbM:b<=M.next) (hk:∀ v' M',Vec b q ty enc M' v' (l ++ l')->M'.next=M.next+1->Keep (fun i=>b<=i /\ ∃ o n f e,v=.slice (some (i,o)) n f e) M M'->XW μ P sz ll ((d,v') :: E) M' K):XW μ P sz (⟨some d,.app ty q by' z s x,g⟩ :: ll) E M K:=by
 obtain⟨v',M',h1,h2,h3,h4⟩:=hv.app (P:=P) hs hx hn h0 hb hz hw henc hfl hbM
 exact z7c hg h1 (hk v' M' h2 h3 h4)
end
end Go.Proofs.YtpgalhbplcanhaaGreatDoor.C
end
section
open PvL Go
set_option linter.unusedSimpArgs false
set_option linter.unusedVariables false
namespace Go.Proofs.YtpgalhbplcanhaaGreatDoor.C
def u8(n:Nat):UInt8:=UInt8.ofNat n
theorem u8_n{n:Nat}(h:n < 256):(u8 n).toNat=n:=by unfold u8;simp;omega
def strL(l:List UInt8):ByteArray:=⟨⟨l⟩⟩
theorem z2c(a b:List UInt8):strL a ++ strL b=strL (a ++ b):=by
 unfold strL
 apply ByteArray.ext
 simp
theorem z01(l:List UInt8):(strL l).size=l.length:=rfl
end Go.Proofs.YtpgalhbplcanhaaGreatDoor.C
end
section
open Go PvL
set_option linter.unusedSimpArgs false
set_option linter.unusedVariables false
namespace Go.Proofs.YtpgalhbplcanhaaGreatDoor.C
abbrev Mk:=Int × Int × Int × Int
def m0:Mk:=(0,0,0,0)
def me(l:List Mk)(i:Nat):Mk:=l.getD i m0
theorem zif{l:List Mk}{i:Nat}(h:i < l.length):me l i=l[i]:=by unfold me;rw[List.getD_eq_getElem?_getD,List.getElem?_eq_getElem h];rfl
def ptB(x y:Int):Bool:=btB x (-32768) 32768 && btB y (-32768) 32768
def mkB(m:Mk):Bool:=btB m.1 0 60000 && (ptB m.2.1 m.2.2.1 && btB m.2.2.2 0 99999)
def mkA(l:List Mk)(i:Nat):Bool:=mkB (me l i) && (decide (i=0) ||(decide ((me l (i - 1)).1 <(me l i).1) && decide ((me l (i - 1)).2.2.2<=(me l i).2.2.2)))
def mkK(l:List Mk)(n:Nat):Bool:=(List.range n).all (mkA l)
theorem ztr(l:List Mk)(n:Nat):mkK l (n+1)=(mkK l n && mkA l n):=by unfold mkK;rw[List.range_succ,List.all_append];simp
theorem znb{l:List Mk}{n k:Nat}(h:mkK l n=true)(hk:k < n):mkA l k=true:=by unfold mkK at h;rw[List.all_eq_true] at h;exact h k (List.mem_range.2 hk)
def mksB(l:List Mk):Bool:=decide (l.length<=512) && mkK l l.length
def errMk(l:List Mk):Int:=if mksB l then 0 else 82
def fvL(n:Nat):List UInt8:=[u8 (48+n / 10000 % 10),u8 (48+n / 1000 % 10),u8 (48+n / 100 % 10),u8 (48+n / 10 % 10),u8 (48+n % 10)]
def sgL(n:Int):List UInt8:=(if n < 0 then 45 else 43) :: fvL n.natAbs
def hxN(n:Nat):Nat:=if n < 10 then 48+n else 87+n
def hxB(n:Nat):UInt8:=u8 (hxN n)
def sumN(l:List UInt8):Nat:=(l.map UInt8.toNat).sum
theorem zm4(a b:List UInt8):sumN (a ++ b)=sumN a+sumN b:=by unfold sumN;rw[List.map_append,List.sum_append]
theorem zjl:∀ l:List UInt8,sumN l<=255*l.length
 | []=>Nat.le_refl _
 | a :: l=>by
  have h1:=zjl l
  have h2:a.toNat < 256:=a.toNat_lt
  have h3:sumN (a :: l)=a.toNat+sumN l:=rfl
  rw[h3,List.length_cons];omega
def lbL(m:Mk):List UInt8:=(((fvL m.1.toNat ++ [32]) ++(sgL m.2.1 ++ [32])) ++(sgL m.2.2.1 ++ [32])) ++(fvL m.2.2.2.toNat ++ [32])
def lnL(m:Mk):List UInt8:=lbL m ++ [hxB (sumN (lbL m) % 256 / 16),hxB (sumN (lbL m) % 256 % 16),10]
theorem z8d(m:Mk):(lnL m).length=29:=rfl
def mxL(l:List Mk):List UInt8:=l.flatMap lnL
theorem z48:∀ l:List Mk,(mxL l).length=29*l.length
 | []=>rfl
 | m :: l=>by
  show(lnL m ++ mxL l).length=_
  rw[List.length_append,z48 l,z8d,List.length_cons];omega
def mxK(l:List Mk)(k:Nat):List UInt8:=mxL (l.take k)
theorem zts{l:List Mk}{k:Nat}(h:k < l.length):mxK l (k+1)=mxK l k ++ lnL (me l k):=by
 unfold mxK mxL
 rw[List.take_succ_eq_append_getElem h,List.flatMap_append,zif h];simp
theorem zoy(l:List Mk):mxK l l.length=mxL l:=by unfold mxK;rw[List.take_length]
theorem zoz{l:List Mk}{k:Nat}(h:k<=l.length):(mxK l k).length=29*k:=by unfold mxK;rw[z48,List.length_take];omega
def ck(s:List UInt8)(i:Nat):List UInt8:=(s.drop (29*i)).take 29
theorem zr4:∀ {l:List Mk} {i:Nat},i < l.length->ck (mxL l) i=lnL (me l i)
 | [],i,h=>absurd h (Nat.not_lt_zero _)
 | m :: l,0,_=>by
  show(lnL m ++ mxL l).take 29=_
  rw[List.take_append_of_le_length (Nat.le_of_eq (z8d m).symm)]
  rfl
 | m :: l,i+1,h=>by
  have ih:=zr4 (l:=l) (i:=i) (Nat.lt_of_succ_lt_succ h)
  show((lnL m ++ mxL l).drop (29*(i+1))).take 29=_
  rw[show 29*(i+1)=(lnL m).length+29*i by rw[z8d];omega,List.drop_append,List.drop_eq_nil_of_le (by omega),Nat.add_sub_cancel_left,List.nil_append]
  exact ih
def prs(f:List UInt8->Mk)(s:List UInt8)(k:Nat):List Mk:=(List.range k).map fun i=>f (ck s i)
theorem ztx(f:List UInt8->Mk)(s:List UInt8)(k:Nat):prs f s (k+1)=prs f s k ++ [f (ck s k)]:=by unfold prs;rw[List.range_succ,List.map_append];rfl
theorem zdx(f:List UInt8->Mk)(s:List UInt8)(k:Nat):(prs f s k).length=k:=by unfold prs;simp
theorem zrp{f:List UInt8->Mk}{l:List Mk}(hf:∀ m ∈ l,f (lnL m)=m):prs f (mxL l) l.length=l:=by
 apply List.ext_getElem (zdx _ _ _)
 intro i h1 h2
 have e:(prs f (mxL l) l.length)[i]=f (ck (mxL l) i):=by simp[prs]
 rw[e,zr4 h2,zif h2]
 exact hf _ (List.getElem_mem h2)
theorem z7f{l:List Mk}(h:mksB l=true):∀ m ∈ l,mkB m=true:=by
 intro m hm
 obtain⟨i,hi,rfl⟩:=List.mem_iff_getElem.1 hm
 unfold mksB at h
 rw[Bool.and_eq_true] at h
 have:=znb h.2 hi
 unfold mkA at this
 rw[Bool.and_eq_true,zif hi] at this
 exact this.1
def mpF(l:List Mk):List UInt8 × Int:=if mksB l then(mxL l,0) else([],82)
def pmF(f:List UInt8->Mk)(s:List UInt8):List Mk × Int:=if s.length > 65536 then([],3) else if mksB (prs f s (s.length / 29))=true /\ mxL (prs f s (s.length / 29))=s then(prs f s (s.length / 29),0) else([],5)
def Rds(f:List UInt8->Mk):Prop:=∀ m,mkB m=true->f (lnL m)=m
theorem ztw{f:List UInt8->Mk}(hf:Rds f){l:List Mk}(h:mksB l=true)(hl:l.length<=512):pmF f (mxL l)=(l,0):=by
 have hlen:=z48 l
 have hk:(mxL l).length / 29=l.length:=by omega
 unfold pmF
 rw[if_neg (by omega),hk,zrp (fun m hm=>hf m (z7f h m hm)),if_pos ⟨h,rfl⟩]
theorem zih{l:List Mk}(h:mksB l=true):l.length<=512:=by unfold mksB at h;rw[Bool.and_eq_true] at h;exact of_decide_eq_true h.1
def dg8(b:UInt8):Bool:=decide (48<=b.toNat) && decide (b.toNat<=57)
def vlN(l:List UInt8):Nat:=l.foldl (fun n b=>n*10+(b.toNat - 48)) 0
def vlK(l:List UInt8)(k:Nat):Nat:=vlN (l.take k)
theorem zs7{l:List UInt8}{k:Nat}(h:k < l.length):vlK l (k+1)=vlK l k*10+(l[k].toNat - 48):=by
 unfold vlK vlN
 rw[List.take_succ_eq_append_getElem h,List.foldl_append];rfl
theorem zpi(l:List UInt8):vlK l l.length=vlN l:=by unfold vlK;rw[List.take_length]
def dg8K(l:List UInt8)(k:Nat):Bool:=(l.take k).all dg8
theorem zn4{l:List UInt8}{k:Nat}(h:k < l.length):dg8K l (k+1)=(dg8K l k && dg8 l[k]):=by
 unfold dg8K
 rw[List.take_succ_eq_append_getElem h,List.all_append];simp
theorem zku(l:List UInt8):dg8K l l.length=l.all dg8:=by unfold dg8K;rw[List.take_length]
theorem zjn{l:List UInt8}:∀ {k:Nat},k<=l.length->dg8K l k=true->vlK l k < 10 ^ k
 | 0,_,_=>by unfold vlK vlN;simp
 | k+1,hk,h=>by
  rw[zn4 (by omega),Bool.and_eq_true] at h
  have ih:=zjn (l:=l) (k:=k) (by omega) h.1
  have hd:=h.2
  unfold dg8 at hd
  rw[Bool.and_eq_true,decide_eq_true_eq,decide_eq_true_eq] at hd
  rw[zs7 (by omega),Nat.pow_succ]
  omega
def sgB(b:UInt8):Bool:=decide (b.toNat=45) || decide (b.toNat=43)
def atR(l:List UInt8):List UInt8:=if sgB (l.headD 0) then l.tail else l
def atI(l:List UInt8):Int:=if (atR l).all dg8 then(if (l.headD 0).toNat=45 then -(vlN (atR l):Int) else(vlN (atR l):Int)) else 0
def sub8(x:List UInt8)(a b:Nat):List UInt8:=(x.drop a).take (b - a)
def mkP(x:List UInt8):Mk:=(atI (sub8 x 0 5),atI (sub8 x 6 12),atI (sub8 x 13 19),atI (sub8 x 20 25))
theorem u8_d{k:Nat}(h:k < 10):(u8 (48+k)).toNat=48+k:=u8_n (by omega)
theorem zrb(n:Nat):(fvL n).all dg8=true:=by
 unfold fvL dg8
 simp only[List.all_cons,List.all_nil,u8_d (Nat.mod_lt _ (show 0 < 10 by omega)),Bool.and_true,Bool.and_eq_true,decide_eq_true_eq]
 omega
theorem zrc{n:Nat}(h:n<=99999):vlN (fvL n)=n:=by
 unfold vlN fvL
 simp only[List.foldl_cons,List.foldl_nil,u8_d (Nat.mod_lt _ (show 0 < 10 by omega))]
 omega
theorem ztl(n:Nat):((fvL n).headD 0).toNat=48+n / 10000 % 10:=u8_d (Nat.mod_lt _ (by omega))
theorem zq7{n:Nat}(h:n<=99999):atI (fvL n)=n:=by
 have h1:=ztl n
 have h2:sgB ((fvL n).headD 0)=false:=by
  unfold sgB
  rw[h1,Bool.or_eq_false_iff,decide_eq_false_iff_not,decide_eq_false_iff_not]
  omega
 unfold atI atR
 rw[h2,h1]
 simp only[Bool.false_eq_true,if_false]
 rw[zrb,if_pos rfl,if_neg (by omega),zrc h]
theorem zrw(x:Int):((sgL x).headD 0).toNat=if x < 0 then 45 else 43:=by
 unfold sgL
 split<;>rfl
theorem ztz(x:Int):(sgL x).tail=fvL x.natAbs:=rfl
theorem zq8{x:Int}(h:-99999<=x /\ x<=99999):atI (sgL x)=x:=by
 have h2:sgB ((sgL x).headD 0)=true:=by
  unfold sgB
  rw[zrw]
  by_cases h0:x < 0
  ·rw[if_pos h0];rfl
  ·rw[if_neg h0];rfl
 unfold atI atR
 rw[h2,zrw,if_pos rfl,ztz,zrb,if_pos rfl,zrc (by omega)]
 by_cases h0:x < 0
 ·rw[if_pos h0,if_pos rfl];omega
 ·rw[if_neg h0,if_neg (by omega)];omega
theorem zov{m:Mk}(h:mkB m=true):(0<=m.1 /\ m.1<=60000) /\ (-32768<=m.2.1 /\ m.2.1<=32768) /\ (-32768<=m.2.2.1 /\ m.2.2.1<=32768) /\ 0<=m.2.2.2 /\ m.2.2.2<=99999:=by
 unfold mkB ptB btB at h
 simp only[Bool.and_eq_true,decide_eq_true_eq] at h
 omega
theorem zty:Rds mkP:=fun m h=>by
 obtain⟨h1,h2,h3,h4⟩:=zov h
 obtain⟨s,x,y,t⟩:=m
 dsimp only at h1 h2 h3 h4
 show(atI (fvL s.toNat),atI (sgL x),atI (sgL y),atI (fvL t.toNat))=_
 rw[zq7 (by omega),zq8 (by omega),zq8 (by omega),zq7 (by omega),Int.toNat_of_nonneg h1.1,Int.toNat_of_nonneg h4.1]
end Go.Proofs.YtpgalhbplcanhaaGreatDoor.C
end
section
open Go PvL Go.Proofs
set_option linter.unusedSimpArgs false
set_option linter.unusedVariables false
namespace Go.Proofs.YtpgalhbplcanhaaGreatDoor.C
theorem zei(n a b:Int)(M:Mem):ze Tryz.prog 66 [I n,I a,I b] M (fun w M'=>w=.bool (btB n a b) /\ M'=M):=by
 refine zf k66 rfl ?_
 delta x66;refine un ?_
 repeat' first|with_reducible intro _|refine sv ?_|refine ss ?_ ?_<;>(intro h;first|exact sz h|refine sy h ?_)|exact sq|fail
 ·refine kf ?_
  refine⟨?_,rfl⟩
  simp[packed,btB];omega
 ·refine kf ?_
  refine⟨?_,rfl⟩
  simp[packed,btB];omega
theorem znv{n:Nat}(h:n < 256):byteL (u8 n)=LV.int .u8 (n:Int):=by
 show LV.int .u8 (((u8 n).toNat:Nat):Int)=_
 rw[u8_n h]
end Go.Proofs.YtpgalhbplcanhaaGreatDoor.C
end
section
open Go PvL Go.Proofs
set_option linter.unusedSimpArgs false
set_option linter.unusedVariables false
variable {μ:Md}
namespace Go.Proofs.YtpgalhbplcanhaaGreatDoor.C
abbrev u8c(b:UInt8):List LV:=[byteL b]
theorem z2k:∀ l:List UInt8,z0f l=l.flatMap u8c
 | []=>rfl
 | b :: l=>by show byteL b :: z0f l=[byteL b] ++ l.flatMap u8c;rw[z2k l];rfl
theorem za7(l:List UInt8):zl (z0f l)=true:=by rw[z2k];exact z2j (fun _ _=>rfl)
theorem zf4{M:Mem}{p:Nat}{own:Bool}{l:List UInt8}{ty:TypeId}(h:At M p (.cells own (z0f l) ty)):Rd M p 0 l.length (z0f l):=by
 refine Rd.of_at h ?_
 show take' l.length (z0f l)=_
 have:∀ l:List UInt8,take' l.length (z0f l)=some (z0f l):=fun l=>by
  induction l with
  | nil=>rfl
  | cons b l ih =>
   show ob (take' l.length (z0f l)) _=_
   rw[ih];rfl
 exact this l
section
variable {P:Program} [Orc P] {sz:Nat} {E:Env} {M:Mem} {K:Env->Mem->Prop} {ll:List XG} {d:Nat} {g:Option (Nat × Bool)} {sx0 x:XO} {b:Nat} {v:LV} {l l':List UInt8} {z:List LV} {xv:LV} {st:List Mem} {k:Nat} {xs:List (Nat × Nat × (Mem->Prop))} {ld:List (XG × XK)}
end
end Go.Proofs.YtpgalhbplcanhaaGreatDoor.C
end
section
open Go PvL Go.Proofs
set_option linter.unusedSimpArgs false
set_option linter.unusedVariables false
namespace Go.Proofs.YtpgalhbplcanhaaGreatDoor.C
theorem zhw(s:ByteArray)(M:Mem):z0l 1 s.data.toList.length (.str s) M=some (z0f s.data.toList):=by
 show guard' (Nat.beq 1 1 && Nat.ble s.data.toList.length s.size) (some ((s.extract 0 s.data.toList.length).data.toList.map byteL))=_
 have hl:s.data.toList.length=s.size:=by simp
 rw[hl,Nat.ble_eq_true_of_le (Nat.le_refl _)]
 have he:(s.extract 0 s.size)=s:=by
  simp
 rw[he];rfl
theorem zmy(n:Int)(M:Mem):ze Tryz.prog 95 [I 32768,I n] M (fun w M'=>w=I (max (-32768) (min n 32768)) /\ M'=M):=by
 refine zf k95 rfl ?_
 delta x95;refine un ?_
 repeat' first|with_reducible intro _|refine sv ?_|refine ss ?_ ?_<;>(intro h;first|exact sz h|refine sy h ?_)|exact sq|fail
 refine kf ?_
 refine⟨?_,rfl⟩
 unfold iMax iMin;rfl
theorem zrr{x y:Int}(h1:max (-32768) (min x 32768)=x)(h2:max (-32768) (min y 32768)=y):(if ptB x y then(0:Int) else 10)=0:=by
 rw[if_pos];unfold ptB btB;simp only[Bool.and_eq_true,decide_eq_true_eq];omega
theorem zrq{x y:Int}(h:¬ max (-32768) (min x 32768)=x ∨ ¬ max (-32768) (min y 32768)=y):(if ptB x y then(0:Int) else 10)=10:=by
 rw[if_neg];unfold ptB btB;simp only[Bool.and_eq_true,decide_eq_true_eq];omega
theorem z6q(x y:Int)(M:Mem):ze Tryz.prog 35 [.agg [I x,I y]] M (fun w M'=>w=I (if ptB x y then 0 else 10) /\ Grow M M'):=by
 refine zf k35 rfl ?_
 delta x35;refine un ?_
 have h1:=zmy x
 have h2:=zmy y
 repeat' first|with_reducible intro _|refine sv ?_|refine su ?_|((with_reducible first|apply z0c|apply z0a|apply zx);exact gd;exact rfl;exact rfl;(first|exact h1 _|exact h2 _))|refine ss ?_ ?_<;>(intro h;first|exact sz h|refine sy h ?_)|exact sq|fail
 ·rename_i h
  refine kf ?_
  exact⟨by rw[zrq (.inl h)];rfl,xg⟩
 ·rename_i _ h
  refine kf ?_
  exact⟨by rw[zrq (.inr h)];rfl,xg⟩
 ·rename_i _ hx0 _ hy0
  refine kf ?_
  exact⟨by rw[zrr hx0 hy0];rfl,xg⟩
abbrev mkc(m:Mk):List LV:=[I m.1,I m.2.1,I m.2.2.1,I m.2.2.2]
def SlM(M:Mem)(a:Option (Nat × Nat))(l:List Mk):Prop:=l=[] ∨ ∃ i o,a=some (i,o) /\ ∀ k (hk:k < l.length),Rd M i (o+k*4) 4 (mkc l[k])
theorem SlM.grow{M M':Mem}{a:Option (Nat × Nat)}{l:List Mk}(h:SlM M a l)(hg:Grow M M'):SlM M' a l :=
 h.imp id fun⟨i,o,h1,h2⟩=>⟨i,o,h1,fun k hk=>(h2 k hk).grow hg⟩
theorem SlM.rd{M:Mem}{a:Option (Nat × Nat)}{l:List Mk}(h:SlM M a l){k:Nat}(hk:k < l.length):∃ i o,a=some (i,o) /\ ∀ j,j < l.length->Rd M i (o+j*4) 4 (mkc (me l j)):=by
 rcases h with rfl|⟨i,o,h1,h2⟩
 ·exact absurd hk (Nat.not_lt_zero _)
 ·exact⟨i,o,h1,fun j hj=>by rw[zif hj];exact h2 j hj⟩
set_option maxHeartbeats 4000000 in
theorem z3v{M:Mem}{a:Option (Nat × Nat)}{l:List Mk}{f:Bool}{e:Nat}(hs:SlM M a l)(hl:l.length<=1000000000000000) :
  ze Tryz.prog 50 [.slice a l.length f e] M (fun w M'=>w=I (errMk l) /\ Grow M M'):=by
 refine zf k50 rfl ?_
 delta x50;refine un ?_
 by_cases hlen:l.length<=512
 case neg =>
  have he:errMk l=82:=by unfold errMk mksB;rw[decide_eq_false hlen];rfl
  rw[he]
  repeat' first|with_reducible intro _|refine sv ?_|refine ss ?_ ?_<;>(intro h;first|exact sz h|refine sy h ?_)|exact sq|fail
  all_goals try(exfalso;omega)
  refine kf ?_
  exact⟨rfl,Grow.refl _⟩
 have he:errMk l=if mkK l l.length then 0 else 82:=by unfold errMk mksB;rw[decide_eq_true hlen];rfl
 rw[he]
 repeat' first|with_reducible intro _|refine sv ?_|refine ss ?_ ?_<;>(intro h;first|exact sz h|refine sy h ?_)|exact sq|fail
 all_goals try(exfalso;omega)
 refine zi (fun m E ms M'=>∃ k:Nat,m=l.length - k /\ k<=l.length /\ ms=[] /\ Has E [(0,.slice a l.length f e),(8,.slice a l.length f e),(9,I l.length),(10,I k)] /\ Grow M M' /\ mkK l k=true)
  ?_ l.length _ _ _ ⟨0,by omega,by omega,rfl,.cons rfl (.cons rfl (.cons rfl (.cons rfl .nil))),Grow.refl _,rfl⟩
 rintro m E ms M1 ⟨k,rfl,hk,rfl,hE,hg1,hall⟩
 refine z02 hE ?_
 by_cases hlast:k=l.length
 ·rw[hlast] at hall ⊢
  repeat' first|with_reducible intro _|refine sv ?_|refine ss ?_ ?_<;>(intro h;first|exact sz h|refine sy h ?_)|exact sq|fail
  all_goals try(exfalso;omega)
  refine kf ?_
  rw[hall]
  exact⟨rfl,hg1⟩
 have hlt:k < l.length:=by omega
 obtain⟨i,o,rfl,hr⟩:=(hs.grow hg1).rd hlt
 have hrk:=hr k hlt
 have hks:=ztr l k
 have hno:mkA l k=false->(if mkK l l.length then(0:Int) else 82)=82:=fun h=>by
  rw[if_neg]
  intro h2
  have:=znb h2 hlt
  rw[h] at this;cases this
 have hA:mkA l k=(mkB (me l k) && (decide (k=0) ||(decide ((me l (k - 1)).1 <(me l k).1) && decide ((me l (k - 1)).2.2.2<=(me l k).2.2.2)))):=rfl
 have hkt:0 < k->Int.toNat ((k:Int) - 1)=k - 1:=fun h0=>by omega
 have hrp:0 < k->Rd1 M1 i (o+Int.toNat ((k:Int) - 1)*4+0) (I (me l (k - 1)).1) /\ Rd1 M1 i (o+Int.toNat ((k:Int) - 1)*4+3) (I (me l (k - 1)).2.2.2):=fun h0=>by
  rw[hkt h0]
  exact⟨Rd.nth (j:=0) (hr (k - 1) (by omega)) rfl,Rd.nth (j:=3) (hr (k - 1) (by omega)) rfl⟩
 generalize me l (k - 1)=p at *
 generalize hm:me l k=m at *
 obtain⟨s,x,y,t⟩:=m
 unfold mkB at hA
 dsimp only at hA hrp
 have hrk:Rd M1 i (o+k*4) 4 [I s,I x,I y,I t]:=hrk
 have hl1:=hg1.le
 have w1:=fun M=>zei s 0 60000 M
 have w2:=fun M=>zei t 0 99999 M
 have w3:=fun M=>z6q x y M
 cases hb1:btB s 0 60000 with
 | false =>
  rw[hb1] at hA w1
  have hno:=hno hA
  (have hrd0:=hrk;repeat' (first|(with_reducible intro _)|refine sv ?_|((with_reducible first|apply z0c|apply z0a|apply zx);exact gd;exact rfl;exact rfl;(first|exact w1 _))|refine ss ?_ ?_<;>(intro h;first|exact sz h|refine sy h ?_)|exact sq|fail))
  all_goals try(exfalso;omega)
  refine kf ?_
  rw[hno]
  exact⟨rfl,xg⟩
 | true =>
 rw[hb1] at hA w1
 cases hb2:ptB x y with
 | false =>
  rw[hb2] at hA w3
  have hno:=hno hA
  (have hrd0:=hrk;repeat' (first|(with_reducible intro _)|refine sv ?_|((with_reducible first|apply z0c|apply z0a|apply zx);exact gd;exact rfl;exact rfl;(first|exact w1 _))|((with_reducible first|apply zp|apply zo|apply zj);exact gd;exact rfl;exact rfl;(first|exact w3 _))|refine ss ?_ ?_<;>(intro h;first|exact sz h|refine sy h ?_)|exact sq|fail))
  all_goals try(exfalso;omega)
  refine kf ?_
  rw[hno]
  exact⟨rfl,xg⟩
 | true =>
 rw[hb2] at hA w3
 cases hb3:btB t 0 99999 with
 | false =>
  rw[hb3] at hA w2
  have hno:=hno hA
  (have hrd0:=hrk;repeat' (first|(with_reducible intro _)|refine sv ?_|((with_reducible first|apply z0c|apply z0a|apply zx);exact gd;exact rfl;exact rfl;(first|exact w1 _|exact w2 _))|((with_reducible first|apply zp|apply zo|apply zj);exact gd;exact rfl;exact rfl;(first|exact w3 _))|refine ss ?_ ?_<;>(intro h;first|exact sz h|refine sy h ?_)|exact sq|fail))
  all_goals try(exfalso;omega)
  refine kf ?_
  rw[hno]
  exact⟨rfl,xg⟩
 | true =>
 rw[hb3] at hA w2
 by_cases hk0:k=0
 ·subst hk0
  have hA:mkA l 0=true:=hA
  rw[hall,hA] at hks
  (have hrd0:=hrk;repeat' (first|(with_reducible intro _)|refine sv ?_|((with_reducible first|apply z0c|apply z0a|apply zx);exact gd;exact rfl;exact rfl;(first|exact w1 _|exact w2 _))|((with_reducible first|apply zp|apply zo|apply zj);exact gd;exact rfl;exact rfl;(first|exact w3 _))|refine ss ?_ ?_<;>(intro h;first|exact sz h|refine sy h ?_)|exact sq|fail))
  all_goals try(exfalso;omega)
  exact zq (l.length - (0+1)) (by omega) ⟨1,rfl,by omega,rfl,.cons rfl (.cons rfl (.cons rfl (.cons rfl .nil))),hg1.trans (xg),hks⟩
 obtain⟨hr0,hr3⟩:=hrp (by omega)
 obtain⟨p1,p2,p3,p4⟩:=p
 dsimp only at hA hr0 hr3
 rw[decide_eq_false hk0,Bool.false_or] at hA
 (have hrd0:=hrk;repeat' (first|(with_reducible intro _)|refine sv ?_|((with_reducible first|apply z0c|apply z0a|apply zx);exact gd;exact rfl;exact rfl;(first|exact w1 _|exact w2 _))|((with_reducible first|apply zp|apply zo|apply zj);exact gd;exact rfl;exact rfl;(first|exact w3 _))|refine ss ?_ ?_<;>(intro h;first|exact sz h|refine sy h ?_)|exact sq|fail))
 all_goals try(exfalso;omega)
 rename_i n5 M5 z1 z2 z3 M6 z4 z5 z6 M9 z7 z8 z9
 have g9:Grow M1 M9:=xg
 have hr0:=hr0.grow g9
 have hr3:=hr3.grow g9
 have a9:=At.grow z7 z6
 have hg9:=hg1.trans g9
 clear z1 z4 z7 z6 g9 hg1
 (have hrd0:=hr0;have hrd1:=hr3;repeat' (first|(with_reducible intro _)|refine sv ?_|refine ss ?_ ?_<;>(intro h;first|exact sz h|refine sy h ?_)|exact sq|fail))
 all_goals try(exfalso;omega)
 ·rename_i h1 _
  rw[decide_eq_false (by omega:¬ p1 < s)] at hA
  refine kf ?_
  rw[hno hA]
  exact⟨rfl,hg9⟩
 ·rename_i h1 h2
  rw[decide_eq_false (by omega:¬ p4<=t),Bool.and_false] at hA
  refine kf ?_
  rw[hno hA]
  exact⟨rfl,hg9⟩
 ·rename_i h1 h2
  rw[decide_eq_true (by omega:p1 < s),decide_eq_true (by omega:p4<=t)] at hA
  rw[hall,hA] at hks
  exact zq (l.length - (k+1)) (by omega) ⟨k+1,rfl,by omega,rfl,.cons rfl (.cons rfl (.cons rfl (.cons rfl .nil))),hg9,hks⟩
theorem zbd{E:Env}{M:Mem}{x lo hi:XO}{s:ByteArray}{f p:Nat}(hx:xval E x=some (.str s))(hlo:xval E lo=some (I f))(hhi:xval E hi=some (I p))(h1:f<=p)(h2:p<=s.size):zm Tryz.prog (.slS x (some lo) (some hi) none) E M=some (.val (.str (s.extract f p)) M):=by
 show ob (xval E x) _=_
 rw[hx,za]
 have e1:xvalo E (some lo)=some (some (I f)):=by show ob (xval E lo) _=_;rw[hlo];rfl
 have e2:xvalo E (some hi)=some (some (I p)):=by show ob (xval E hi) _=_;rw[hhi];rfl
 rw[e1,za,e2,za]
 show guard' true (guard' (Nat.ble p s.size) (guard' (Nat.ble f p) (some (R1.val (LV.str (s.extract f p)) M))))=_
 rw[Nat.ble_eq_true_of_le h2,Nat.ble_eq_true_of_le h1];rfl
def lo1(n:Nat):List UInt8:=if n < 10 then [u8 (48+n)] else [u8 (48+n / 10),u8 (48+n % 10)]
abbrev digs:ByteArray:=⟨#[48,49,50,51,52,53,54,55,56,57,97,98,99,100,101,102,103,104,105,106,107,108,109,110,111,112,113,114,115,116,117,118,119,120,121,122]⟩
abbrev smls:ByteArray:=⟨#[48,48,48,49,48,50,48,51,48,52,48,53,48,54,48,55,48,56,48,57,49,48,49,49,49,50,49,51,49,52,49,53,49,54,49,55,49,56,49,57,50,48,50,49,50,50,50,51,50,52,50,53,50,54,50,55,50,56,50,57,51,48,51,49,51,50,51,51,51,52,51,53,51,54,51,55,51,56,51,57,52,48,52,49,52,50,52,51,52,52,52,53,52,54,52,55,52,56,52,57,53,48,53,49,53,50,53,51,53,52,53,53,53,54,53,55,53,56,53,57,54,48,54,49,54,50,54,51,54,52,54,53,54,54,54,55,54,56,54,57,55,48,55,49,55,50,55,51,55,52,55,53,55,54,55,55,55,56,55,57,56,48,56,49,56,50,56,51,56,52,56,53,56,54,56,55,56,56,56,57,57,48,57,49,57,50,57,51,57,52,57,53,57,54,57,55,57,56,57,57]⟩
theorem z9g{p:Nat->Bool}{k:Nat}(h:(List.range k).all p=true){n:Nat}(hn:n < k):p n=true:=List.all_eq_true.1 h n (List.mem_range.2 hn)
theorem zkv{n:Nat}(h:n < 10):digs.extract n (n+1)=strL (lo1 n):=by
 have:=z9g (k:=10) (p:=fun n=>decide (digs.extract n (n+1)=strL (lo1 n))) (by decide +kernel) h
 exact of_decide_eq_true this
theorem zlz{n:Nat}(h:10<=n /\ n < 100):smls.extract (n*2) (n*2+2)=strL (lo1 n):=by
 have:=z9g (k:=100) (p:=fun n=>decide (n < 10 ∨ smls.extract (n*2) (n*2+2)=strL (lo1 n))) (by decide +kernel) h.2
 rcases of_decide_eq_true this with h1|h1
 ·omega
 ·exact h1
theorem zoc(n:Nat)(hn:n < 100)(M:Mem):ze Tryz.prog 288 [I n] M (fun w M'=>w=.str (strL (lo1 n)) /\ M'=M):=by
 refine zf k288 rfl ?_
 delta x288;refine un ?_
 repeat' first|with_reducible intro _|refine sv ?_|refine ss ?_ ?_<;>(intro h;first|exact sz h|refine sy h ?_)|exact sq|fail
 ·refine z00 (by exact gd) (zbd (f:=n) (p:=n+1) rfl rfl rfl (by omega) (by show n+1<=36;omega)) ?_
  rw[zkv (by omega)]
  repeat' first|with_reducible intro _|refine sv ?_|refine ss ?_ ?_<;>(intro h;first|exact sz h|refine sy h ?_)|exact sq|fail
  refine kf ?_
  exact⟨rfl,rfl⟩
 ·refine z00 (by exact gd) (zbd (f:=n*2) (p:=n*2+2) rfl rfl rfl (by omega) (by show n*2+2<=200;omega)) ?_
  rw[zlz (by omega)]
  repeat' first|with_reducible intro _|refine sv ?_|refine ss ?_ ?_<;>(intro h;first|exact sz h|refine sy h ?_)|exact sq|fail
  refine kf ?_
  exact⟨rfl,rfl⟩
theorem zbc{E:Env}{M:Mem}{x y:XO}{a b:Nat}(hx:xval E x=some (.int .u64 (a:Int)))(hy:xval E y=some (.int .u64 (b:Int)))(hb:b<=20):zm Tryz.prog (.bin .shr x y) E M=some (.val (.int .u64 ((a / 2 ^ b:Nat):Int)) M):=by
 show ob (xval E x) _=_
 rw[hx,za,hy,za]
 show guard' true (ob (mkI .u64 ((a:Int).fdiv ((2 ^ (Nat.min b 64):Nat):Int))) _)=_
 have hm:Nat.min b 64=b:=Nat.min_eq_left (by omega)
 rw[hm,zd,z1a,za,Int.fdiv_eq_ediv_of_nonneg _ (Int.natCast_nonneg _)];rfl
theorem z1f{E:Env}{M:Mem}{x y:XO}{kk:IntKind}{s:ByteArray}{k:Nat}(hx:xval E x=some (.str s))(hy:xval E y=some (.int kk (k:Int)))(h:k < s.size):zm Tryz.prog (.idxS x y) E M=some (.val (.int .u8 (byteAt s k:Int)) M):=by
 show ob (xval E x) _=_
 rw[hx,za,hy,za]
 show ob s[k]? _=_
 have e:s[k]?=some s[k]:=by simp[h]
 rw[e,za]
 have:byteAt s k=s[k].toNat:=by
  unfold byteAt
  have hl:k < s.data.toList.length:=by simpa using h
  rw[List.getD_eq_getElem?_getD,List.getElem?_eq_getElem hl,Option.getD_some]
  rfl
 rw[this]
abbrev len8:ByteArray:=⟨#[0,1,2,2,3,3,3,3,4,4,4,4,4,4,4,4,5,5,5,5,5,5,5,5,5,5,5,5,5,5,5,5,6,6,6,6,6,6,6,6,6,6,6,6,6,6,6,6,6,6,6,6,6,6,6,6,6,6,6,6,6,6,6,6,7,7,7,7,7,7,7,7,7,7,7,7,7,7,7,7,7,7,7,7,7,7,7,7,7,7,7,7,7,7,7,7,7,7,7,7,7,7,7,7,7,7,7,7,7,7,7,7,7,7,7,7,7,7,7,7,7,7,7,7,7,7,7,7,8,8,8,8,8,8,8,8,8,8,8,8,8,8,8,8,8,8,8,8,8,8,8,8,8,8,8,8,8,8,8,8,8,8,8,8,8,8,8,8,8,8,8,8,8,8,8,8,8,8,8,8,8,8,8,8,8,8,8,8,8,8,8,8,8,8,8,8,8,8,8,8,8,8,8,8,8,8,8,8,8,8,8,8,8,8,8,8,8,8,8,8,8,8,8,8,8,8,8,8,8,8,8,8,8,8,8,8,8,8,8,8,8,8,8,8,8,8,8,8,8,8,8,8,8,8,8,8]⟩
theorem zib{k:Nat}(h:1<=k /\ k < 256):1<=byteAt len8 k /\ byteAt len8 k<=8 /\ 2 ^ (byteAt len8 k - 1)<=k /\ k < 2 ^ byteAt len8 k:=by
 have:=z9g (k:=256) (p:=fun k=>decide (k=0 ∨(1<=byteAt len8 k /\ byteAt len8 k<=8 /\ 2 ^ (byteAt len8 k - 1)<=k /\ k < 2 ^ byteAt len8 k))) (by decide +kernel) h.2
 rcases of_decide_eq_true this with h1|h1
 ·omega
 ·exact h1
set_option maxRecDepth 10000 in
theorem zo1(n:Nat)(h1:100<=n)(h2:n<=99999)(M:Mem):ze Tryz.prog 259 [.int .u64 n] M (fun w M'=>(∃ L:Nat,w=I L /\ 7<=L /\ L<=17 /\ 2 ^ (L - 1)<=n /\ n < 2 ^ L) /\ M'=M):=by
 refine zf k259 rfl ?_
 delta x259;refine un ?_
 repeat' first|with_reducible intro _|refine sv ?_|refine ss ?_ ?_<;>(intro h;first|exact sz h|refine sy h ?_)|exact sq|fail
 ·refine z00 (by exact gd) (zbc (a:=n) (b:=16) rfl rfl (by omega)) ?_
  have e:n / 2 ^ 16=1:=by omega
  rw[e]
  repeat' first|with_reducible intro _|refine sv ?_|refine ss ?_ ?_<;>(intro h;first|exact sz h|refine sy h ?_)|exact sq|fail
  all_goals try(exfalso;omega)
  refine z00 (by exact gd) (z1f (k:=1) rfl rfl (by decide)) ?_
  have e:byteAt len8 1=1:=by decide +kernel
  rw[e]
  repeat' first|with_reducible intro _|refine sv ?_|refine ss ?_ ?_<;>(intro h;first|exact sz h|refine sy h ?_)|exact sq|fail
  refine kf ?_
  exact⟨⟨17,rfl,by omega,by omega,by omega,by omega⟩,rfl⟩
 ·refine z00 (by exact gd) (zbc (a:=n) (b:=8) rfl rfl (by omega)) ?_
  obtain⟨b1,b2,b3,b4⟩:=zib (k:=n / 2 ^ 8) (by omega)
  have hp:n=n / 2 ^ 8*256+n % 256:=by omega
  have hr:n % 256 < 256:=by omega
  generalize n / 2 ^ 8=q at *
  repeat' first|with_reducible intro _|refine sv ?_|refine ss ?_ ?_<;>(intro h;first|exact sz h|refine sy h ?_)|exact sq|fail
  all_goals try(exfalso;omega)
  refine z00 (by exact gd) (z1f (k:=q) rfl rfl (by show q < 256;omega)) ?_
  generalize byteAt len8 q=L at *
  repeat' first|with_reducible intro _|refine sv ?_|refine ss ?_ ?_<;>(intro h;first|exact sz h|refine sy h ?_)|exact sq|fail
  refine kf ?_
  have e1:2 ^ (8+L - 1)=2 ^ (L - 1)*256:=by rw[show 8+L - 1=(L - 1)+8 by omega,Nat.pow_add]
  have e2:2 ^ (8+L)=2 ^ L*256:=by rw[Nat.add_comm,Nat.pow_add]
  exact⟨⟨8+L,rfl,by omega,by omega,by omega,by omega⟩,rfl⟩
 ·obtain⟨b1,b2,b3,b4⟩:=zib (k:=n) (by omega)
  refine z00 (by exact gd) (z1f (k:=n) rfl rfl (by show n < 256;omega)) ?_
  have h7:7<=byteAt len8 n:=Nat.le_of_not_lt fun h=>by
   have:=Nat.pow_le_pow_right (n:=2) (by omega) (Nat.le_of_lt_succ (show byteAt len8 n < 6+1 by omega))
   omega
  generalize byteAt len8 n=L at *
  repeat' first|with_reducible intro _|refine sv ?_|refine ss ?_ ?_<;>(intro h;first|exact sz h|refine sy h ?_)|exact sq|fail
  refine kf ?_
  exact⟨⟨L,by show I (0+(L:Int))=I L;rw[Int.zero_add],by omega,by omega,b3,b4⟩,rfl⟩
theorem zo9(L:Nat)(h:L<=17)(M:Mem):ze Tryz.prog 330 [I L] M (fun w M'=>w=I ((L*78913 / 262144:Nat):Int) /\ M'=M):=by
 refine zf k330 rfl ?_
 delta x330;refine un ?_
 repeat' first|with_reducible intro _|refine sv ?_|refine ss ?_ ?_<;>(intro h;first|exact sz h|refine sy h ?_)|exact sq|fail
 refine kf ?_
 have e:shrZ ((L:Int)*78913) 18=((L*78913 / 262144:Nat):Int):=by
  show(L:Int)*78913 / 262144=_
  omega
 exact⟨congrArg (LV.int .i64) e,rfl⟩
theorem zh5(b:Bool)(M:Mem):ze Tryz.prog 331 [.bool b] M (fun w M'=>w=I (if b then 1 else 0) /\ M'=M):=by
 refine zf k331 rfl ?_
 delta x331;refine un ?_
 cases b with
 | true=>(repeat' (first|with_reducible intro _|refine sv ?_|refine ss ?_ ?_<;>(intro h;first|exact sz h|refine sy h ?_)|exact sq|fail));(refine kf ?_);exact⟨rfl,rfl⟩
 | false=>(repeat' (first|with_reducible intro _|refine sv ?_|refine ss ?_ ?_<;>(intro h;first|exact sz h|refine sy h ?_)|exact sq|fail));(refine kf ?_);exact⟨rfl,rfl⟩
theorem c_b1{p:Prop}[Decidable p](h:p)(M:Mem):ze Tryz.prog 331 [.bool (decide p)] M (fun w M'=>w=I 1 /\ M'=M):=by
 have:=zh5 (decide p) M
 rwa [if_pos (decide_eq_true h)] at this
theorem c_b0{p:Prop}[Decidable p](h:¬ p)(M:Mem):ze Tryz.prog 331 [.bool (decide p)] M (fun w M'=>w=I 0 /\ M'=M):=by
 have:=zh5 (decide p) M
 rwa [if_neg (by rw[decide_eq_false h];exact Bool.false_ne_true)] at this
theorem ztq{n L:Nat}(h1:100<=n)(h2:n<=99999)(h3:7<=L)(h4:L<=17)(h5:2 ^ (L - 1)<=n)(h6:n < 2 ^ L) :
  (L*78913 / 262144=2 /\ n < 512) ∨(L*78913 / 262144=3 /\ 512<=n /\ n < 8192) ∨(L*78913 / 262144=4 /\ 8192<=n /\ n < 65536) ∨(L*78913 / 262144=5 /\ 65536<=n):=by
 obtain rfl|rfl|rfl|rfl|rfl|rfl|rfl|rfl|rfl|rfl|rfl:L=7 ∨ L=8 ∨ L=9 ∨ L=10 ∨ L=11 ∨ L=12 ∨ L=13 ∨ L=14 ∨ L=15 ∨ L=16 ∨ L=17:=by omega
 all_goals omega
def ndN(n:Nat):Nat:=if n < 1000 then 3 else if n < 10000 then 4 else 5
def P10(M:Mem):Prop:=∃ own,At M 4 (.cells own (intsL .u64 zs2) 0)
theorem P10.grow{M M':Mem}(h:P10 M)(hg:Grow M M'):P10 M':=by
 obtain⟨own,h⟩:=h
 exact⟨own,At.grow hg h⟩
theorem zd4(n:Nat)(h1:100<=n)(h2:n<=99999){M:Mem}(hP:P10 M):ze Tryz.prog 289 [.int .u64 n] M (fun w M'=>w=I (ndN n) /\ M'=M):=by
 refine zf k289 rfl ?_
 delta x289;refine un ?_
 have cl:=zo1 n h1 h2
 repeat' first|with_reducible intro _|refine sv ?_|((with_reducible first|apply zt|apply zz|apply zn);exact gd;exact rfl;exact rfl;(first|exact cl _))|refine ss ?_ ?_<;>(intro h;first|exact sz h|refine sy h ?_)|exact sq|fail
 rename_i w M1 hq
 obtain⟨⟨L,rfl,h3,h4,h5,h6⟩,rfl⟩:=hq
 have hl:=ztq h1 h2 h3 h4 h5 h6
 have c1:=zo9 L h4
 generalize L*78913 / 262144=g at *
 obtain⟨own,ha⟩:=hP
 rcases hl with⟨rfl,h7⟩|⟨rfl,h7,h8⟩|⟨rfl,h7,h8⟩|⟨rfl,h7⟩
 ·have r2:Rd1 M1 4 (0+2*1) (.int .u64 100):=Rd1.of_at ha rfl
  have c2:=c_b1 (show(100:Int)<=n by omega)
  (have hrd0:=r2;repeat' (first|(with_reducible intro _)|refine sv ?_|((with_reducible first|apply z0c|apply z0a|apply zx);exact gd;exact rfl;exact rfl;(first|exact c1 _|exact c2 _))|refine ss ?_ ?_<;>(intro h;first|exact sz h|refine sy h ?_)|exact sq|fail))
  refine kf ?_
  exact⟨by unfold ndN;rw[if_pos (by omega)];rfl,rfl⟩
 ·have r2:Rd1 M1 4 (0+3*1) (.int .u64 1000):=Rd1.of_at ha rfl
  by_cases hn:n < 1000
  ·have c2:=c_b0 (show ¬(1000:Int)<=n by omega)
   (have hrd0:=r2;repeat' (first|(with_reducible intro _)|refine sv ?_|((with_reducible first|apply z0c|apply z0a|apply zx);exact gd;exact rfl;exact rfl;(first|exact c1 _|exact c2 _))|refine ss ?_ ?_<;>(intro h;first|exact sz h|refine sy h ?_)|exact sq|fail))
   refine kf ?_
   exact⟨by unfold ndN;rw[if_pos hn];rfl,rfl⟩
  ·have c2:=c_b1 (show(1000:Int)<=n by omega)
   (have hrd0:=r2;repeat' (first|(with_reducible intro _)|refine sv ?_|((with_reducible first|apply z0c|apply z0a|apply zx);exact gd;exact rfl;exact rfl;(first|exact c1 _|exact c2 _))|refine ss ?_ ?_<;>(intro h;first|exact sz h|refine sy h ?_)|exact sq|fail))
   refine kf ?_
   exact⟨by unfold ndN;rw[if_neg hn,if_pos (by omega)];rfl,rfl⟩
 ·have r2:Rd1 M1 4 (0+4*1) (.int .u64 10000):=Rd1.of_at ha rfl
  by_cases hn:n < 10000
  ·have c2:=c_b0 (show ¬(10000:Int)<=n by omega)
   (have hrd0:=r2;repeat' (first|(with_reducible intro _)|refine sv ?_|((with_reducible first|apply z0c|apply z0a|apply zx);exact gd;exact rfl;exact rfl;(first|exact c1 _|exact c2 _))|refine ss ?_ ?_<;>(intro h;first|exact sz h|refine sy h ?_)|exact sq|fail))
   refine kf ?_
   exact⟨by unfold ndN;rw[if_neg (by omega),if_pos hn];rfl,rfl⟩
  ·have c2:=c_b1 (show(10000:Int)<=n by omega)
   (have hrd0:=r2;repeat' (first|(with_reducible intro _)|refine sv ?_|((with_reducible first|apply z0c|apply z0a|apply zx);exact gd;exact rfl;exact rfl;(first|exact c1 _|exact c2 _))|refine ss ?_ ?_<;>(intro h;first|exact sz h|refine sy h ?_)|exact sq|fail))
   refine kf ?_
   exact⟨by unfold ndN;rw[if_neg (by omega),if_neg hn];rfl,rfl⟩
 ·have r2:Rd1 M1 4 (0+5*1) (.int .u64 100000):=Rd1.of_at ha rfl
  have c2:=c_b0 (show ¬(100000:Int)<=n by omega)
  (have hrd0:=r2;repeat' (first|(with_reducible intro _)|refine sv ?_|((with_reducible first|apply z0c|apply z0a|apply zx);exact gd;exact rfl;exact rfl;(first|exact c1 _|exact c2 _))|refine ss ?_ ?_<;>(intro h;first|exact sz h|refine sy h ?_)|exact sq|fail))
  refine kf ?_
  exact⟨by unfold ndN;rw[if_neg (by omega),if_neg (by omega)];rfl,rfl⟩
theorem wrap32{n:Nat}(h:n < 4294967296):IntKind.wrap .u32 (n:Int)=n:=by
 unfold IntKind.wrap
 simp only[IntKind.signed,IntKind.bits,Bool.false_and,Bool.false_eq_true,if_false]
 omega
section
variable {E:Env} {M:Mem} {x y:XO} {a b:Nat}
theorem z63(hx:xval E x=some (.int .u32 (a:Int)))(hy:xval E y=some (.int .u32 (b:Int)))(hb:0 < b):zm Tryz.prog (.bin .rem x y) E M=some (.val (.int .u32 ((a % b:Nat):Int)) M):=by
 obtain⟨c,rfl⟩:∃ c,b=c+1:=⟨b - 1,by omega⟩
 show ob (xval E x) _=_
 rw[hx,za,hy,za]
 show guard' true (ob (mkI .u32 ((a:Int).tmod ((c+1:Nat):Int))) _)=_
 rw[zd,z1a,za];rfl
theorem z62(hx:xval E x=some (.int .u32 (a:Int)))(hy:xval E y=some (.int .u32 (b:Int)))(hb:0 < b)(ha:a < 4294967296):zm Tryz.prog (.bin .quo x y) E M=some (.val (.int .u32 ((a / b:Nat):Int)) M):=by
 obtain⟨c,rfl⟩:∃ c,b=c+1:=⟨b - 1,by omega⟩
 show ob (xval E x) _=_
 rw[hx,za,hy,za]
 show guard' true (ob (mkI .u32 (wr .u32 ((a:Int).tdiv ((c+1:Nat):Int)))) _)=_
 have e:(a:Int).tdiv ((c+1:Nat):Int)=((a / (c+1):Nat):Int):=rfl
 rw[zd,e,z2v,wrap32 (Nat.lt_of_le_of_lt (Nat.div_le_self _ _) ha),z1a,za];rfl
theorem z61(hx:xval E x=some (.int .u32 (a:Int)))(hy:xval E y=some (.int .u32 (b:Int)))(h:a*b < 4294967296):zm Tryz.prog (.bin .mul x y) E M=some (.val (.int .u32 ((a*b:Nat):Int)) M):=by
 refine z1e ?_ M
 show ob (xval E x) _=_
 rw[hx,za,hy]
 show some (LV.int .u32 (IntKind.wrap .u32 ((a*b:Nat):Int)))=_
 rw[wrap32 h]
end
set_option maxRecDepth 10000 in
theorem z33{k:Nat}(h:k < 200):k < smls.size:=h
theorem wr8{k:Nat}(h:k<=255):IntKind.wrap .u8 (IntKind.wrap .u32 (48+(k:Int)))=IntKind.wrap .u8 (48+(k:Int)):=by
 rw[show(48+(k:Int))=((48+k:Nat):Int) from rfl,wrap32 (by omega)]
theorem zs6{k:Nat}(h:k<=9):IntKind.wrap .u8 (IntKind.wrap .u32 (48+(k:Int)))=((48+k:Nat):Int):=by
 rw[wr8 (by omega),wrap8 (by omega)];rfl
theorem z8z{k:Nat}(h:k < 100):(byteAt smls (k*2):Int)=((48+k / 10:Nat):Int):=by
 have:=z9g (k:=100) (p:=fun k=>decide (byteAt smls (k*2)=48+k / 10)) (by decide +kernel) h
 rw[of_decide_eq_true this]
theorem z90{k:Nat}(h:k < 100):(byteAt smls (k*2+1):Int)=((48+k % 10:Nat):Int):=by
 have:=z9g (k:=100) (p:=fun k=>decide (byteAt smls (k*2+1)=48+k % 10)) (by decide +kernel) h
 rw[of_decide_eq_true this]
abbrev ub(n:Nat):LV:=.int .u8 (n:Int)
set_option maxHeartbeats 4000000 in
theorem zqp(n:Nat)(h1:100<=n)(h2:n < 1000){M:Mem}{p:Nat}{ty:TypeId}{f:Bool}(ha:At M p (.cells true (rep 24 [.int .u8 0]) ty)) :
  ze Tryz.prog 290 [.slice (some (p,1)) 3 f 1,.int .u64 n] M (fun w M'=>At M' p (.cells true ([ub 0,ub (48+n / 100),ub (48+n / 10 % 10),ub (48+n % 10)] ++ rep 20 [.int .u8 0]) ty) /\ Keep (fun i=>i=p) M M'):=by
 refine zf k290 rfl ?_
 delta x290;refine un ?_
 repeat' first|with_reducible intro _|refine sv ?_|refine ss ?_ ?_<;>(intro h;first|exact sz h|refine sy h ?_)|exact sq|fail
 refine zi (fun m E ms M'=>m=0 /\ ms=[] /\ Has E [(0,.slice (some (p,1)) 3 f 1),(1,.int .u64 n),(4,I 3)] /\ M'=M)
  ?_ 0 _ _ _ ⟨rfl,rfl,.cons rfl (.cons rfl (.cons rfl .nil)),rfl⟩
 rintro m E ms M1 ⟨rfl,rfl,hE,rfl⟩
 refine z02 hE ?_
 repeat' first|with_reducible intro _|refine sv ?_|refine ss ?_ ?_<;>(intro h;first|exact sz h|refine sy h ?_)|exact sq|fail
 rw[wrap32 (by omega:n < 4294967296)]
 refine z00 (by exact gd) (z63 (a:=n) (b:=100) rfl rfl (by omega)) ?_
 refine z00 (by exact gd) (z61 (a:=n % 100) (b:=2) rfl rfl (by omega)) ?_
 repeat' first|with_reducible intro _|refine sv ?_|refine ss ?_ ?_<;>(intro h;first|exact sz h|refine sy h ?_)|exact sq|fail
 refine z00 (by exact gd) (z62 (a:=n) (b:=100) rfl rfl (by omega) (by omega)) ?_
 repeat' first|with_reducible intro _|refine sv ?_|refine ss ?_ ?_<;>(intro h;first|exact sz h|refine sy h ?_)|exact sq|fail
 have ew:IntKind.wrap .u32 (((n % 100*2:Nat):Int)+1)=((n % 100*2+1:Nat):Int):=wrap32 (n:=n % 100*2+1) (by omega)
 rw[ew]
 refine z3x (by exact gd) (z1f (k:=n % 100*2+1) rfl rfl (z33 (by omega))) ?_
 rw[z90 (by omega)]
 repeat' first|with_reducible intro _|refine sv ?_|refine ss ?_ ?_<;>(intro h;first|exact sz h|refine sy h ?_)|exact sq|fail
 refine z3x (by exact gd) (z1f (k:=n % 100*2) rfl rfl (z33 (by omega))) ?_
 rw[z8z (by omega)]
 repeat' first|with_reducible intro _|refine sv ?_|refine ss ?_ ?_<;>(intro h;first|exact sz h|refine sy h ?_)|exact sq|fail
 rename_i z1
 refine kf ?_
 rw[zs6 (by omega),show n % 100 / 10=n / 10 % 10 by omega,show n % 100 % 10=n % 10 by omega] at z1
 exact⟨z1,xk⟩
set_option maxHeartbeats 4000000 in
theorem zqq(n:Nat)(h1:1000<=n)(h2:n < 10000){M:Mem}{p:Nat}{ty:TypeId}{f:Bool}(ha:At M p (.cells true (rep 24 [.int .u8 0]) ty)) :
  ze Tryz.prog 290 [.slice (some (p,1)) 4 f 1,.int .u64 n] M (fun w M'=>At M' p (.cells true ([ub 0,ub (48+n / 1000),ub (48+n / 100 % 10),ub (48+n / 10 % 10),ub (48+n % 10)] ++ rep 19 [.int .u8 0]) ty) /\ Keep (fun i=>i=p) M M'):=by
 refine zf k290 rfl ?_
 delta x290;refine un ?_
 repeat' first|with_reducible intro _|refine sv ?_|refine ss ?_ ?_<;>(intro h;first|exact sz h|refine sy h ?_)|exact sq|fail
 refine zi (fun m E ms M'=>m=0 /\ ms=[] /\ Has E [(0,.slice (some (p,1)) 4 f 1),(1,.int .u64 n),(4,I 4)] /\ M'=M)
  ?_ 0 _ _ _ ⟨rfl,rfl,.cons rfl (.cons rfl (.cons rfl .nil)),rfl⟩
 rintro m E ms M1 ⟨rfl,rfl,hE,rfl⟩
 refine z02 hE ?_
 repeat' first|with_reducible intro _|refine sv ?_|refine ss ?_ ?_<;>(intro h;first|exact sz h|refine sy h ?_)|exact sq|fail
 rw[wrap32 (by omega:n < 4294967296)]
 refine z00 (by exact gd) (z63 (a:=n) (b:=10000) rfl rfl (by omega)) ?_
 rw[show n % 10000=n by omega]
 repeat' first|with_reducible intro _|refine sv ?_|refine ss ?_ ?_<;>(intro h;first|exact sz h|refine sy h ?_)|exact sq|fail
 refine z00 (by exact gd) (z62 (a:=n) (b:=10000) rfl rfl (by omega) (by omega)) ?_
 repeat' first|with_reducible intro _|refine sv ?_|refine ss ?_ ?_<;>(intro h;first|exact sz h|refine sy h ?_)|exact sq|fail
 refine z00 (by exact gd) (z62 (a:=n) (b:=100) rfl rfl (by omega) (by omega)) ?_
 refine z00 (by exact gd) (z61 (a:=n / 100) (b:=2) rfl rfl (by omega)) ?_
 repeat' first|with_reducible intro _|refine sv ?_|refine ss ?_ ?_<;>(intro h;first|exact sz h|refine sy h ?_)|exact sq|fail
 refine z00 (by exact gd) (z63 (a:=n) (b:=100) rfl rfl (by omega)) ?_
 refine z00 (by exact gd) (z61 (a:=n % 100) (b:=2) rfl rfl (by omega)) ?_
 repeat' first|with_reducible intro _|refine sv ?_|refine ss ?_ ?_<;>(intro h;first|exact sz h|refine sy h ?_)|exact sq|fail
 have ew:∀ q:Nat,q < 100->IntKind.wrap .u32 (((q*2:Nat):Int)+1)=((q*2+1:Nat):Int):=fun q h=>wrap32 (n:=q*2+1) (by omega)
 rw[ew _ (by omega)]
 refine z3x (by exact gd) (z1f (k:=n % 100*2+1) rfl rfl (z33 (by omega))) ?_
 rw[z90 (by omega)]
 repeat' first|with_reducible intro _|refine sv ?_|refine ss ?_ ?_<;>(intro h;first|exact sz h|refine sy h ?_)|exact sq|fail
 refine z3x (by exact gd) (z1f (k:=n % 100*2) rfl rfl (z33 (by omega))) ?_
 rw[z8z (by omega)]
 repeat' first|with_reducible intro _|refine sv ?_|refine ss ?_ ?_<;>(intro h;first|exact sz h|refine sy h ?_)|exact sq|fail
 rw[ew _ (by omega)]
 refine z3x (by exact gd) (z1f (k:=n / 100*2+1) rfl rfl (z33 (by omega))) ?_
 rw[z90 (by omega)]
 repeat' first|with_reducible intro _|refine sv ?_|refine ss ?_ ?_<;>(intro h;first|exact sz h|refine sy h ?_)|exact sq|fail
 refine z3x (by exact gd) (z1f (k:=n / 100*2) rfl rfl (z33 (by omega))) ?_
 rw[z8z (by omega)]
 repeat' first|with_reducible intro _|refine sv ?_|refine ss ?_ ?_<;>(intro h;first|exact sz h|refine sy h ?_)|exact sq|fail
 rename_i z1 _
 refine kf ?_
 rw[show n / 100 / 10=n / 1000 by omega,show n % 100 / 10=n / 10 % 10 by omega,show n % 100 % 10=n % 10 by omega] at z1
 exact⟨z1,xk⟩
set_option maxHeartbeats 4000000 in
theorem zqr(n:Nat)(h1:10000<=n)(h2:n < 100000){M:Mem}{p:Nat}{ty:TypeId}{f:Bool}(ha:At M p (.cells true (rep 24 [.int .u8 0]) ty)) :
  ze Tryz.prog 290 [.slice (some (p,1)) 5 f 1,.int .u64 n] M (fun w M'=>At M' p (.cells true ([ub 0,ub (48+n / 10000),ub (48+n / 1000 % 10),ub (48+n / 100 % 10),ub (48+n / 10 % 10),ub (48+n % 10)] ++ rep 18 [.int .u8 0]) ty) /\ Keep (fun i=>i=p) M M'):=by
 refine zf k290 rfl ?_
 delta x290;refine un ?_
 repeat' first|with_reducible intro _|refine sv ?_|refine ss ?_ ?_<;>(intro h;first|exact sz h|refine sy h ?_)|exact sq|fail
 refine zi (fun m E ms M'=>m=0 /\ ms=[] /\ Has E [(0,.slice (some (p,1)) 5 f 1),(1,.int .u64 n),(4,I 5)] /\ M'=M)
  ?_ 0 _ _ _ ⟨rfl,rfl,.cons rfl (.cons rfl (.cons rfl .nil)),rfl⟩
 rintro m E ms M1 ⟨rfl,rfl,hE,rfl⟩
 refine z02 hE ?_
 repeat' first|with_reducible intro _|refine sv ?_|refine ss ?_ ?_<;>(intro h;first|exact sz h|refine sy h ?_)|exact sq|fail
 rw[wrap32 (by omega:n < 4294967296)]
 refine z00 (by exact gd) (z63 (a:=n) (b:=10000) rfl rfl (by omega)) ?_
 have hq:n % 10000 < 10000:=by omega
 have hq1:n / 1000 % 10=n % 10000 / 100 / 10:=by omega
 have hq2:n / 100 % 10=n % 10000 / 100 % 10:=by omega
 have hq3:n / 10 % 10=n % 10000 % 100 / 10:=by omega
 have hq4:n % 10=n % 10000 % 100 % 10:=by omega
 rw[hq1,hq2,hq3,hq4]
 generalize n % 10000=q at *
 repeat' first|with_reducible intro _|refine sv ?_|refine ss ?_ ?_<;>(intro h;first|exact sz h|refine sy h ?_)|exact sq|fail
 refine z00 (by exact gd) (z62 (a:=n) (b:=10000) rfl rfl (by omega) (by omega)) ?_
 repeat' first|with_reducible intro _|refine sv ?_|refine ss ?_ ?_<;>(intro h;first|exact sz h|refine sy h ?_)|exact sq|fail
 refine z00 (by exact gd) (z62 (a:=q) (b:=100) rfl rfl (by omega) (by omega)) ?_
 refine z00 (by exact gd) (z61 (a:=q / 100) (b:=2) rfl rfl (by omega)) ?_
 repeat' first|with_reducible intro _|refine sv ?_|refine ss ?_ ?_<;>(intro h;first|exact sz h|refine sy h ?_)|exact sq|fail
 refine z00 (by exact gd) (z63 (a:=q) (b:=100) rfl rfl (by omega)) ?_
 refine z00 (by exact gd) (z61 (a:=q % 100) (b:=2) rfl rfl (by omega)) ?_
 repeat' first|with_reducible intro _|refine sv ?_|refine ss ?_ ?_<;>(intro h;first|exact sz h|refine sy h ?_)|exact sq|fail
 have ew:∀ q:Nat,q < 100->IntKind.wrap .u32 (((q*2:Nat):Int)+1)=((q*2+1:Nat):Int):=fun q h=>wrap32 (n:=q*2+1) (by omega)
 rw[ew _ (by omega)]
 refine z3x (by exact gd) (z1f (k:=q % 100*2+1) rfl rfl (z33 (by omega))) ?_
 rw[z90 (by omega)]
 repeat' first|with_reducible intro _|refine sv ?_|refine ss ?_ ?_<;>(intro h;first|exact sz h|refine sy h ?_)|exact sq|fail
 refine z3x (by exact gd) (z1f (k:=q % 100*2) rfl rfl (z33 (by omega))) ?_
 rw[z8z (by omega)]
 repeat' first|with_reducible intro _|refine sv ?_|refine ss ?_ ?_<;>(intro h;first|exact sz h|refine sy h ?_)|exact sq|fail
 rw[ew _ (by omega)]
 refine z3x (by exact gd) (z1f (k:=q / 100*2+1) rfl rfl (z33 (by omega))) ?_
 rw[z90 (by omega)]
 repeat' first|with_reducible intro _|refine sv ?_|refine ss ?_ ?_<;>(intro h;first|exact sz h|refine sy h ?_)|exact sq|fail
 refine z3x (by exact gd) (z1f (k:=q / 100*2) rfl rfl (z33 (by omega))) ?_
 rw[z8z (by omega)]
 repeat' first|with_reducible intro _|refine sv ?_|refine ss ?_ ?_<;>(intro h;first|exact sz h|refine sy h ?_)|exact sq|fail
 rename_i z1
 refine kf ?_
 rw[zs6 (by omega)] at z1
 exact⟨z1,xk⟩
