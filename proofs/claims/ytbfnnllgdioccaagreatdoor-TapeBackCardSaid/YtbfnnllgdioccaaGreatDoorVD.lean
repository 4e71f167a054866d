/-
 Part of the proof of TapeBack. No condition beyond those in each theorem.
-/
import Derived.Test.YtbfnnllgdioccaaGreatDoorVC
import Derived.Test.YtbfnnllgdioccaaGreatDoorVA
section
open Go PvL Go.Proofs
set_option linter.unusedSimpArgs false
set_option linter.unusedVariables false
namespace Go.Proofs.YtbfnnllgdioccaaGreatDoor.C
abbrev PE (p n:Nat) (f:Bool) (e:Nat) (a b:Nat) (lim:Int) (wb wp:Bool) (l:Env):Env:=(0,.slice (some (p,0)) n f e) :: (1,I a) :: (2,I b) :: (3,I lim) :: (4,cf) :: (10,.bool wb) :: (11,.bool wp) :: l
end Go.Proofs.YtbfnnllgdioccaaGreatDoor.C
end
section
open Go PvL Go.Proofs
set_option linter.unusedSimpArgs false
set_option linter.unusedVariables false
variable {μ:Md}
namespace Go.Proofs.YtbfnnllgdioccaaGreatDoor.C
def kAt (L:Mk) (i:Nat):Ky:=((L[i]?).map (·.1)).getD (0,0)
abbrev kseq (pb:Nat):LV:=.func (.func 144) [] [.ptr (some (pb,0))]
theorem Sw.mem {n:Nat} {G G':Nat->Ky} (h:Sw 0 n G G') (k:Ky):(∃ t,t < n /\ G' t=k) ↔ ∃ t,t < n /\ G t=k:=by
 constructor
 ·rintro ⟨t,ht,hk⟩
  have:=h.all (p:=fun k=>∃ t,t < n /\ G t=k) (fun t _ ht=>⟨t,ht,rfl⟩) t (Nat.zero_le _) ht
  rw [hk] at this;exact this
 ·induction h with
  | refl=>exact id
  | @step G' i j _ h1 h2 h3 h4 ih =>
   intro hk
   obtain ⟨t,ht,hk⟩:=ih hk
   by_cases hi:t=i
   ·subst hi;exact ⟨j,h4,by rw [sw_j];exact hk⟩
   ·by_cases hj:t=j
    ·subst hj;exact ⟨i,h2,by rw [sw_i];exact hk⟩
    ·exact ⟨t,ht,by rw [z72 hi hj];exact hk⟩
end Go.Proofs.YtbfnnllgdioccaaGreatDoor.C
end
section
open Go PvL
set_option linter.unusedSimpArgs false
set_option linter.unusedVariables false
namespace Go.Proofs.YtbfnnllgdioccaaGreatDoor.C
def ldn (lv n:Int):Bool:=knB n && !btB n (-lv) lv
def loudF (lv:Int) (x:Fr):Bool:=x.2.2.any (ldn lv)
def qd:Option Bool->Bool
 | none=>true
 | some q=>q
def dq (L:List Fr) (lv:Int):Nat->Int->Option Bool
 | 0,_=>none
 | k+1,c=>if c=(fe L k).2.1 then some (!loudF lv (fe L k) && qd (dq L lv k c)) else dq L lv k c
def dqT (L:List Fr) (lv:Int) (c:Int):Bool:=(dq L lv L.length c).getD false
def deadL (L:List Fr) (lv:Int):Nat->List Int
 | 0=>[]
 | c+1=>deadL L lv c ++ (if dqT L lv c then [(c:Int)] else [])
def deadF (r:Rl) (lv:Int):List Int × Int :=
 if errRl r=0 then (if btB lv 0 32767 then (deadL r.2 lv 24,0) else ([],7)) else ([],errRl r)
abbrev Wn:=Int × Int × Int × Int × Int
def gdF (ch:Int) (sm:Nat) (x:Fr):Bool:=decide (x.2.1 < ch) && (decide (sm<=x.2.2.length) && (x.2.2.take sm).all knB)
def gq (L:List Fr) (ch:Int) (sm:Nat):Nat->Int->Option Int
 | 0,_=>none
 | k+1,s=>if gdF ch sm (fe L k)=true /\ s=(fe L k).1 then some ((gq L ch sm k s).getD 0+1) else gq L ch sm k s
def gqN (L:List Fr) (ch:Int) (sm:Nat) (k:Nat) (s:Int):Int:=(gq L ch sm k s).getD 0
def wnB (w:Wn):Bool:=(btB w.1 0 w.2.1 && (btB w.2.1 0 60000 && (decide (w.2.1 - w.1 < 1000) && (btB w.2.2.1 1 24 && (btB w.2.2.2.1 1 64 && btB w.2.2.2.2 0 24)))))
def pq (L:List Fr) (w:Wn) (s:Int):Bool:=decide (w.2.2.1 - gqN L w.2.2.1 w.2.2.2.1.toNat L.length s > w.2.2.2.2)
def poorL (L:List Fr) (w:Wn):Nat->List Int
 | 0=>[]
 | n+1=>poorL L w n ++ (if pq L w (w.1+n) then [w.1+n] else [])
def poorF (r:Rl) (w:Wn):List Int × Int :=
 if errRl r=0 then (if wnB w then (poorL r.2 w (w.2.1 - w.1+1).toNat,0) else ([],84)) else ([],errRl r)
theorem zmg {L:List Fr} {n:Nat} (h:rlK L n=true):∀ {i j:Nat},i < j->j < n->keyI (fe L i) < keyI (fe L j):=by
 have hstep:∀ {k:Nat},k+1 < n->keyI (fe L k) < keyI (fe L (k+1)):=fun {k} hk=>by
  have h2:rlK L (k+2)=true:=by
   cases h3:rlK L (k+2) with
   | true=>rfl
   | false=>rw [zcr (by omega:k+2<=n) h3] at h;cases h
  rw [ze7,ze7] at h2
  simp only [Bool.and_eq_true,Bool.or_eq_true,decide_eq_true_eq] at h2
  rcases h2.2.2 with h3|h3
  ·omega
  ·exact h3
 intro i j hij
 induction j with
 | zero=>omega
 | succ j ih =>
  intro hj
  rcases Nat.lt_or_ge i j with h1|h1
  ·exact Int.lt_trans (ih h1 (by omega)) (hstep hj)
  ·obtain rfl:i=j:=by omega
   exact hstep hj
def allK (l:List Int):Nat->Bool
 | 0=>true
 | k+1=>allK l k && knB (getG l k)
def gdS (sm:Nat) (x:Fr):Bool:=allK x.2.2 sm
def mtB (s c:Int) (x:Fr):Bool:=decide (x.1=s) && decide (x.2.1=c)
def goodB (L:List Fr) (sm:Nat) (s:Int):Nat->Int->Bool
 | 0,_=>false
 | k+1,c=>goodB L sm s k c || (gdS sm (fe L k) && mtB s c (fe L k))
def badN (L:List Fr) (sm:Nat) (s:Int) (k:Nat):Nat->Int
 | 0=>0
 | c+1=>badN L sm s k c+(if goodB L sm s k c then 0 else 1)
def FsV1 (M:Mem) (a:Option (Nat × Nat)) (L:List Fr):Prop:=L=[] ∨ ∃ i o,a=some (i,o) /\ ∀ k (hk:k < L.length),∃ b g,Rd M i (o+k*3) 3 [I L[k].1,I L[k].2.1,.slice b L[k].2.2.length g 1] /\ SlI M b L[k].2.2
theorem FsV1.grow {M M':Mem} {a:Option (Nat × Nat)} {L:List Fr} (h:FsV1 M a L) (hg:Grow M M'):FsV1 M' a L :=
 h.imp id fun ⟨i,o,h1,h2⟩=>⟨i,o,h1,fun k hk=>by
  obtain ⟨b,g,h3,h4⟩:=h2 k hk
  exact ⟨b,g,h3.grow hg,h4.grow hg⟩⟩
theorem FsV1.rd {M:Mem} {a:Option (Nat × Nat)} {L:List Fr} (h:FsV1 M a L) {k:Nat} (hk:k < L.length):∃ i o b g,a=some (i,o) /\ Rd M i (o+k*3) 3 [I (fe L k).1,I (fe L k).2.1,.slice b (fe L k).2.2.length g 1] /\ SlI M b (fe L k).2.2:=by
 rcases h with rfl|⟨i,o,h1,h2⟩
 ·exact absurd hk (Nat.not_lt_zero _)
 ·obtain ⟨b,g,h3,h4⟩:=h2 k hk
  rw [<-z67 hk] at h3 h4
  exact ⟨i,o,b,g,h1,h3,h4⟩
def RlV1 (M:Mem) (v:LV) (r:Rl):Prop:=∃ a f e,v=.agg [.str r.1,.slice a r.2.length f e] /\ FsV1 M a r.2
theorem RlV1.grow {M M':Mem} {v:LV} {r:Rl} (h:RlV1 M v r) (hg:Grow M M'):RlV1 M' v r:=by
 obtain ⟨a,f,e,h1,h2⟩:=h
 exact ⟨a,f,e,h1,h2.grow hg⟩
theorem FsV1.to {M:Mem} {a:Option (Nat × Nat)} {L:List Fr} (h:FsV1 M a L):FsV M a L :=
 h.imp id fun ⟨i,o,h1,h2⟩=>⟨i,o,h1,fun k hk=>by
  obtain ⟨b,g,h3,h4⟩:=h2 k hk
  exact ⟨b,g,1,h3,h4⟩⟩
theorem RlV1.to {M:Mem} {v:LV} {r:Rl} (h:RlV1 M v r):RlV M v r:=by
 obtain ⟨a,f,e,h1,h2⟩:=h
 exact ⟨a,f,e,h1,h2.to⟩
end Go.Proofs.YtbfnnllgdioccaaGreatDoor.C
end
