/-
 Part of the proof of TapeKept. No condition beyond those in each theorem.
-/
import Derived.Test.YtpgalhbplcanhaaGreatDoorSB
import Derived.Test.YtpgalhbplcanhaaGreatDoorPvH
import Derived.Test.YtpgalhbplcanhaaGreatDoorPvI
import Derived.Test.YtpgalhbplcanhaaGreatDoorTX
import Derived.Test.YtpgalhbplcanhaaGreatDoorSA
import Derived.Test.YtpgalhbplcanhaaGreatDoorPvG
set_option linter.unusedVariables false
set_option linter.unusedSimpArgs false
section
open Go PvL Go.Proofs
variable {μ:Md}
namespace Go.Proofs.YtpgalhbplcanhaaGreatDoor.C
variable {kt:TypeId} {v:LV} {l:List Int} {bs bs' seen:List Nat} {c c' clk n:Nat}
abbrev kyv (k:Ky):LV:=.agg [I k.1,I k.2]
abbrev zsl:LV:=.slice none 0 true 0
abbrev Mk:=List (Ky×LV)
def encK (L:Mk):List (LV×LV):=L.map fun p=>(kyv p.1,p.2)
def lkM:Mk->Ky->Option LV
 | [],_=>none
 |(a,b)::L,k=>if k=a then some b else lkM L k
def stV:Mk->Ky->LV->Mk
 | [],k,v=>[(k,v)]
 |(a,b)::L,k,v=>if k=a then(k,v)::L else(a,b)::stV L k v
theorem zo9 (a:Ky)(b:LV)(L:Mk)(k:Ky):lkM ((a,b)::L) k=if k=a then some b else lkM L k:=rfl
theorem zj9 (a:Ky)(b:LV)(L:Mk)(k:Ky)(v:LV):stV ((a,b)::L) k v=if k=a then(k,v)::L else(a,b)::stV L k v:=rfl
theorem znw {P:Program}{t e:TypeId}(u:P.underlying t=some (.array 2 e))(hi:P.underlying e=some (.int .i64))(s:szOf P e=some 1)(p:aggSz P e=some none)(a b c d:Int) :
  eqL P Op.maxDepth t (.agg [I a,I b]) (.agg [I c,I d])=some (decide (a=c)&&decide (b=d)):=by
 have q:∀ x y:Int,eqL P (Op.maxDepth-1) e (I x) (I y)=some (decide (x=y)):=fun x y=>by
  show eqL P (Op.maxDepth-2+1) e (I x) (I y)=_
  unfold eqL
  rw[hi]
  show guard' (kEq .i64 .i64) (some (ieq x y))=_
  rw[z2b.2 rfl,zb,z4r]
  rfl
 have o:∀(i:Nat) (j m:List LV) (x y:Int),nth j i=some (I x)->nth m i=some (I y)->eqPart P (eqL P (Op.maxDepth-1)) e i j m=some (decide (x=y)):=fun i j m x y f h=>by
  unfold eqPart
  rw[p,z8,z47,f,z8,h,z8];exact q x y
 show eqL P (Op.maxDepth-1+1) t _ _=_
 unfold eqL
 rw[u]
 show ob (szOf P e) _=_
 rw[s,z8]
 show andO (eqPart P (eqL P (Op.maxDepth-1)) e 0 [I a,I b] [I c,I d]) (andO (eqPart P (eqL P (Op.maxDepth-1)) e 1 [I a,I b] [I c,I d]) (some true))=_
 rw[o 0 _ _ a c rfl rfl,o 1 _ _ b d rfl rfl]
 unfold andO
 rw[z8,z8]
 by_cases f:a=c<;>by_cases h:b=d<;>simp[f,h,ifb]
theorem zrw (a b c d:Int):eqL Tryz.prog Op.maxDepth 281 (.agg [I a,I b]) (.agg [I c,I d])=some (decide (a=c)&&decide (b=d)) :=
 znw (e:=3) (by kernel_rfl) (by kernel_rfl) (by kernel_rfl) (by kernel_rfl) a b c d
theorem zq3 (a b:Ky):eqL Tryz.prog Op.maxDepth 281 (kyv a) (kyv b)=some (decide (a=b)):=by
 refine(zrw a.1 a.2 b.1 b.2).trans ?_
 by_cases h:a=b
 ·subst h;simp
 ·rw[decide_eq_false h]
  have:¬(a.1=b.1/\a.2=b.2):=fun⟨f,e⟩=>h (Prod.ext f e)
  by_cases f:a.1=b.1
  ·have e:¬ a.2=b.2:=fun e=>this ⟨f,e⟩
   simp[e]
  ·simp[f]
theorem zus (a:Ky)(b:LV)(L:Mk):encK ((a,b)::L)=(kyv a,b)::encK L:=rfl
theorem z76 {P:Program}(f:∀ a b:Ky,eqL P Op.maxDepth kt (kyv a) (kyv b)=some (decide (a=b)))(k a:Ky)(b:LV)(L:Mk)(i:Nat):findL P kt (kyv k) (encK ((a,b)::L)) i=if k=a then some (some (i,kyv a,b)) else findL P kt (kyv k) (encK L) (i+1):=by
 rw[zus]
 generalize encK L=es
 have o:=f k a
 generalize kyv k=j at *
 generalize kyv a=h at *
 show ob (eqL P Op.maxDepth kt j h) (fun m=>ifb m (some (some (i,h,b))) (findL P kt j es (i+1)))=_
 rw[o,z8]
 by_cases e:k=a
 ·rw[decide_eq_true e,zq,if_pos e]
 ·rw[decide_eq_false e,ze,if_neg e]
theorem z93 {P:Program}(f:∀ a b:Ky,eqL P Op.maxDepth kt (kyv a) (kyv b)=some (decide (a=b)))(k:Ky):∀(L:Mk) (i:Nat),lkM L k=none->findL P kt (kyv k) (encK L) i=some none /\ ∀ v,encK L++[(kyv k,v)]=encK (stV L k v)
 | [],i,_=>⟨rfl,fun v=>rfl⟩
 |(a,b)::L,i,h=>by
  rw[zo9] at h
  by_cases e:k=a
  ·rw[if_pos e] at h;cases h
  ·rw[if_neg e] at h
   obtain⟨h1,j⟩:=z93 f k L (i+1) h
   constructor
   ·rw[z76 f,if_neg e,h1]
   ·intro v
    rw[zj9,if_neg e]
    show(kyv a,b) ::(encK L++[(kyv k,v)])=(kyv a,b)::encK (stV L k v)
    rw[j v]
theorem z94 {P:Program}(f:∀ a b:Ky,eqL P Op.maxDepth kt (kyv a) (kyv b)=some (decide (a=b)))(k:Ky):∀(L:Mk) (i:Nat) (b:LV),lkM L k=some b->∃ j,findL P kt (kyv k) (encK L) i=some (some (i+j,kyv k,b)) /\ ∀ v,setVal (encK L) j (kyv k) v=encK (stV L k v)
 | [],i,b,h=>by cases h
 |(a,c)::L,i,b,h=>by
  rw[zo9] at h
  by_cases e:k=a
  ·rw[if_pos e] at h
   obtain rfl:=Option.some.inj h
   subst e
   refine⟨0,?_,fun v=>?_⟩
   ·rw[z76 f,if_pos rfl,Nat.add_zero]
   ·rw[zj9,if_pos rfl];rfl
  ·rw[if_neg e] at h
   obtain⟨j,m,o⟩:=z94 f k L (i+1) b h
   refine⟨j+1,?_,fun v=>?_⟩
   ·rw[z76 f,if_neg e,m,Nat.add_assoc,Nat.add_comm 1 j]
   ·rw[zj9,if_neg e]
    show(kyv a,c)::setVal (encK L) j (kyv k) v=(kyv a,c)::encK (stV L k v)
    rw[o v]
theorem zat (k:Ky)(L:Mk)(i:Nat)(h:lkM L k=none):findL Tryz.prog 281 (kyv k) (encK L) i=some none /\ ∀ v,encK L++[(kyv k,v)]=encK (stV L k v):=z93 zq3 k L i h
theorem zau (k:Ky)(L:Mk)(i:Nat)(b:LV)(h:lkM L k=some b):∃ j,findL Tryz.prog 281 (kyv k) (encK L) i=some (some (i+j,kyv k,b)) /\ ∀ v,setVal (encK L) j (kyv k) v=encK (stV L k v):=z94 zq3 k L i b h
theorem zl3 (k:Ky):keyOk Tryz.prog 10000 281 (kyv k)=true:=by kernel_rfl
structure StOk (bs:List Nat) (clk n:Nat):Prop where
 len:bs.length=n
 nodup:bs.Nodup
 lt:∀ b ∈ bs,b < clk
def SlV (M:Mem)(v:LV)(l:List Int):Prop:=∃ a f e,v=.slice a l.length f e/\(l≠[]->e=1)/\SlI M a l
inductive RkL (M:Mem):Mk->Rk->Prop
 | nil:RkL M [] []
 | cons {k:Ky} {v:LV} {l:List Int} {L:Mk} {R:Rk} (h:SlV M v l) (h':RkL M L R):RkL M ((k,v) :: L) ((k,l) :: R)
def RkM (M:Mem)(r:Nat)(R:Rk):Prop:=∃ L bs clk,At M r (.map (encK L) bs clk)/\StOk bs clk L.length/\RkL M L R
variable {M M':Mem} {L:Mk} {R:Rk} {r:Nat} {k:Ky}
theorem SlV.grow (h:SlV M v l)(o:Grow M M'):SlV M' v l:=by
 obtain⟨a,f,e,j,i,m⟩:=h
 exact⟨a,f,e,j,i,m.grow o⟩
theorem SlV.nil:SlV M zsl []:=⟨none,true,0,rfl,fun h=>absurd rfl h,.inl rfl⟩
theorem SlV.vec {b:Nat}{ty:TypeId}(h:Vec b 1 ty intc M v l):SlV M v l:=by
 rcases h with⟨rfl,rfl⟩|⟨i,rfl,e,j⟩
 ·exact SlV.nil
 ·exact⟨_,_,_,rfl,fun _=>rfl,.inr ⟨i,0,rfl,fun k f=>z9y (z18 (enc:=intc) e (fun _ _=>rfl) f)⟩⟩
theorem RkL.grow (h:RkL M L R)(e:Grow M M'):RkL M' L R:=by
 induction h with
 | nil=>exact .nil
 | cons h _ f=>exact .cons (h.grow e) f
theorem RkL.len (h:RkL M L R):L.length=R.length:=by
 induction h with
 | nil=>rfl
 | cons h _ e=>simp[e]
theorem RkL.keys (h:RkL M L R):L.map (·.1)=R.map (·.1):=by
 induction h with
 | nil=>rfl
 | cons h _ e=>simp[e]
theorem RkL.look (h:RkL M L R)(k:Ky):SlV M ((lkM L k).getD zsl) ((lkK R k).getD []):=by
 induction h with
 | nil=>exact SlV.nil
 | @cons k' v l L R h _ f=>
  rw[zo9]
  show SlV M _ ((if k=k' then some l else lkK R k).getD [])
  by_cases e:k=k'
  ·rw[if_pos e,if_pos e];exact h
  ·rw[if_neg e,if_neg e];exact f
theorem RkL.put (h:RkL M L R)(k:Ky)(f:SlV M v l):RkL M (stV L k v) (stK R k l):=by
 induction h with
 | nil=>exact .cons f .nil
 | @cons k' v' l' L R h hL i=>
  rw[zj9]
  show RkL M _ (if k=k' then(k,l)::R else(k',l')::stK R k l)
  by_cases e:k=k'
  ·rw[if_pos e,if_pos e];exact .cons f hL
  ·rw[if_neg e,if_neg e];exact .cons h i
theorem RkM.lt (h:RkM M r R):r<M.next:=by
 obtain⟨L,bs,clk,e,f,i⟩:=h
 exact e.2
theorem Rd1.updm {i o:Nat}{es f:List (LV×LV)}(h:Rd1 M i o v)(m:At M r (.map es bs c))(p:Upd M r (.map f bs' c') M'):Rd1 M' i o v:=by
 refine Rd1.upd_ne p (fun e=>?_) h
 subst e
 have j:=h.1
 unfold load1 atCells at j
 rw[m.1] at j
 cases j
theorem SlV.updm {es j:List (LV×LV)}(h:SlV M v l)(w:At M r (.map es bs c))(A:Upd M r (.map j bs' c') M'):SlV M' v l:=by
 obtain⟨a,f,e,p,m,q⟩:=h
 exact⟨a,f,e,p,m,q.imp id fun⟨i,o,s,t⟩=>⟨i,o,s,fun k u=>Rd1.updm (t k u) w A⟩⟩
theorem RkL.updm {es e:List (LV×LV)}(h:RkL M L R)(f:At M r (.map es bs c))(i:Upd M r (.map e bs' c') M'):RkL M' L R:=by
 induction h with
 | nil=>exact .nil
 | cons h _ j=>exact .cons (h.updm f i) j
variable {E:Env} {x y z':XO}
theorem zle (h:At M r (.map (encK L) bs clk))(i:xval E x=some (.map (some r)))(m:xval E y=some (kyv k)):zl Tryz.prog (.lkp 281 zsl false x y) E M=some (.val ((lkM L k).getD zsl) M):=by
 show ob (xval E x) _=_
 rw[i,z8,m,z8,zl3,zb]
 show atMap M r _=_
 unfold atMap
 rw[h.1,z8]
 show ob (findL Tryz.prog 281 (kyv k) (encK L) 0) _=_
 cases e:lkM L k with
 | none=>rw[(zat k L 0 e).1];rfl
 | some b=>
  obtain⟨j,f,_⟩:=zau k L 0 b e
  rw[f];rfl
theorem zme (L:Mk)(k:Ky)(v:LV):(stV L k v).length=if (lkM L k).isSome then L.length else L.length+1:=by
 induction L with
 | nil=>rfl
 | cons p L e=>
  obtain⟨a,b⟩:=p
  rw[zj9,zo9]
  by_cases h:k=a
  ·rw[if_pos h,if_pos h];rfl
  ·rw[if_neg h,if_neg h,List.length_cons,e]
   split<;>simp
theorem zmt {P:Program}{es:List (LV×LV)}(f:xval E x=some (.map (some r)))(e:At M r (.map es bs clk)):zl P (.len .map x) E M=some (.val (I es.length) M):=by
 show ob (xval E x) _=_
 rw[f,z8]
 show ob (atMap M r fun es _ _=>mkN es.length) _=_
 unfold atMap
 rw[e.1]
 show ob (mkN es.length) (rv M)=_
 unfold mkN
 rw[z19];rfl
theorem z6m:∀ {bs:List Nat} {es:List (LV×LV)} {b:Nat} {j v:LV},(b,j,v)∈leftL seen bs es->∃ i:Nat,bs[i]?=some b/\es[i]?=some (j,v)/\b∉seen
 | [],_,_,_,_,h=>nomatch h
 | c::bs,[],_,_,_,h=>nomatch h
 | c::bs,e::es,b,j,v,h=>by
  have h:(b,j,v)∈ifb (memN c seen) (leftL seen bs es) ((c,e)::leftL seen bs es):=h
  cases f:memN c seen with
  | true=>
   rw[f,zq] at h
   obtain⟨i,m,o,p⟩:=z6m h
   exact⟨i+1,m,o,p⟩
  | false=>
   rw[f,ze] at h
   rcases List.mem_cons.1 h with h|h
   ·cases h
    exact⟨0,rfl,rfl,fun q=>by rw[z4x.2 q] at f;cases f⟩
   ·obtain⟨i,m,o,p⟩:=z6m h
    exact⟨i+1,m,o,p⟩
theorem zh4:∀ {bs:List Nat} {es:List (LV×LV)},leftL seen bs es=[]->bs.length=es.length->∀ b∈bs,b∈seen
 | [],_,_,_,b,f=>nomatch f
 | c::bs,[],_,i,_,_=>by simp at i
 | c::bs,e::es,h,i,b,f=>by
  have h:ifb (memN c seen) (leftL seen bs es) ((c,e)::leftL seen bs es)=[]:=h
  cases j:memN c seen with
  | false=>rw[j,ze] at h;cases h
  | true=>
   rw[j,zq] at h
   rcases List.mem_cons.1 f with rfl|f
   ·exact z4x.1 j
   ·exact zh4 h (by simpa using i) b f
theorem zeh:∀ {bs:List Nat} {es:List (LV×LV)} {i:Nat} {e:LV×LV},bs.Nodup->bs[i]?=some n->es[i]?=some e->stampL n bs es=some e
 | [],_,i,_,_,h,_=>by simp at h
 | c::bs,[],i,_,_,_,h=>by simp at h
 | c::bs,f::es,0,e,p,h1,m=>by
  obtain rfl:c=n:=by simpa using h1
  obtain rfl:f=e:=by simpa using m
  show ifb (Nat.beq c c) (some f) _=_
  rw[show Nat.beq c c=true by simp];rfl
 | c::bs,f::es,i+1,e,p,h1,m=>by
  have j:=List.nodup_cons.1 p
  have o:¬ c=n:=by
   rintro rfl
   exact j.1 (List.mem_of_getElem? (i:=i) (by simpa using h1))
  show ifb (Nat.beq c n) (some f) (stampL n bs es)=_
  rw[show Nat.beq c n=false by cases q:Nat.beq c n;rfl;exact absurd (Nat.eq_of_beq_eq_true q) o,ze]
  exact zeh j.2 (by simpa using h1) (by simpa using m)
theorem z81:∀ {l:List Nat},(∀ x∈l,x<n)->allLt n l=true
 | [],_=>rfl
 | x::l,h=>by
  show ifb (Nat.ble (Nat.succ x) n) (allLt n l) false=true
  rw[Nat.ble_eq_true_of_le (h x (by simp)),zq]
  exact z81 fun y e=>h y (by simp[e])
theorem z66 {x:Nat}:∀ {l:List Nat},x∈l->x<n->anyLt n l=true
 | [],h,_=>nomatch h
 | y::l,h,f=>by
  show ifb (Nat.ble (Nat.succ y) n) true (anyLt n l)=true
  cases e:Nat.ble (Nat.succ y) n with
  | true=>rfl
  | false=>
   rw[ze]
   rcases List.mem_cons.1 h with rfl|h
   ·rw[Nat.ble_eq_true_of_le f] at e;cases e
   ·exact z66 h f
end Go.Proofs.YtpgalhbplcanhaaGreatDoor.C
end
section
open Go PvL Go.Proofs
variable {μ:Md}
namespace Go.Proofs.YtpgalhbplcanhaaGreatDoor.C
variable {k v:LV} {c:Nat} {seen:List Nat}
theorem zwr {a b:ByteArray}(h:(a==b)=true):a=b:=by
 obtain⟨x⟩:=a
 obtain⟨y⟩:=b
 have h:(x==y)=true:=h
 rw[eq_of_beq h]
theorem zjl (s:ByteArray):(s==s)=true:=by
 obtain⟨d⟩:=s
 show(d==d)=true
 simp
theorem zkn {P:Program}{kt:TypeId}(e:P.underlying kt=some .string)(a b:ByteArray):eqL P Op.maxDepth kt (.str a) (.str b)=some (a==b):=by
 show eqL P (Op.maxDepth-1+1) kt _ _=_
 unfold eqL
 rw[e];rfl
theorem z85 {P:Program}{kt:TypeId}(o:P.underlying kt=some .string)(k:ByteArray):∀(es:List (LV×LV)) (i:Nat),(∀ e∈es,∃ s,e.1=.str s) ->
  findL P kt (.str k) es i=some none ∨ ∃ j v,findL P kt (.str k) es i=some (some (i+j,.str k,v))/\es[j]?=some (.str k,v)
 | [],i,_=>.inl rfl
 |(a,v)::es,i,h=>by
  obtain⟨s,m⟩:=h _ List.mem_cons_self
  have m:a=.str s:=m
  subst m
  show(ob (eqL P Op.maxDepth kt (.str k) (.str s)) fun b=>ifb b (some (some (i,.str s,v))) (findL P kt (.str k) es (i+1)))=_ ∨ ∃ j p,(ob (eqL P Op.maxDepth kt (.str k) (.str s)) fun b=>ifb b (some (some (i,.str s,v))) (findL P kt (.str k) es (i+1)))=_/\_
  rw[zkn o,z8]
  cases t:(k==s) with
  | true=>
   obtain rfl:=zwr t
   exact .inr ⟨0,v,rfl,rfl⟩
  | false=>
   rw[ze]
   rcases z85 o k es (i+1) (fun e u=>h e (List.mem_cons_of_mem _ u)) with f|⟨j,p,f,q⟩
   ·exact .inl f
   ·exact .inr ⟨j+1,p,by rw[f,Nat.add_assoc,Nat.add_comm 1 j],q⟩
theorem zj6 (es:List (LV×LV))(j:Nat)(k v:LV):(setVal es j k v).length=es.length:=by
 induction es generalizing j with
 | nil=>rfl
 | cons e es f=>
  cases j with
  | zero=>rfl
  | succ j=>show(e::setVal es j k v).length=_;rw[List.length_cons,f,List.length_cons]
theorem zj7 {es:List (LV×LV)}{j:Nat}{e:LV×LV}(h:e∈setVal es j k v):e∈es∨e=(k,v):=by
 induction es generalizing j with
 | nil=>cases h
 | cons x es f=>
  cases j with
  | zero=>
   rcases List.mem_cons.1 (show e∈(k,v)::es from h) with h|h
   ·exact .inr h
   ·exact .inl (List.mem_cons_of_mem _ h)
  | succ j=>
   rcases List.mem_cons.1 (show e∈x::setVal es j k v from h) with h|h
   ·exact .inl (h▸List.mem_cons_self)
   ·rcases f h with h|h
    ·exact .inl (List.mem_cons_of_mem _ h)
    ·exact .inr h
theorem zee:∀ {es:List (LV×LV)} {j:Nat},j<es.length->(k,v)∈setVal es j k v
 | [],j,h=>absurd h (Nat.not_lt_zero _)
 | a::es,0,h=>List.mem_cons_self
 | a::es,j+1,h=>List.mem_cons_of_mem _ (zee (by simpa using h))
theorem zgr {α:Type}{x:α}{l:List α}{i:Nat}(h:x∈dropAt l i):x∈l:=by
 rw[z2w] at h;exact List.mem_of_mem_eraseIdx h
theorem zns {α e:Type}{l:List α}{l':List e}(h:l.length=l'.length)(i:Nat):(dropAt l i).length=(dropAt l' i).length:=by
 rw[z2w,z2w,List.length_eraseIdx,List.length_eraseIdx,h]
noncomputable def unS (seen bs:List Nat):Nat:=(bs.filter fun b=>!(memN b seen)).length
theorem zc7 {b:Nat}:memN b (seen++[c])=(memN b seen||decide (b=c)):=by
 rw[Bool.eq_iff_iff,z4x,Bool.or_eq_true,z4x,List.mem_append,decide_eq_true_iff,List.mem_singleton]
theorem zqk {seen:List Nat}{c:Nat}:∀(bs:List Nat),unS (seen++[c]) bs<=unS seen bs
 | []=>Nat.le_refl _
 | b::bs=>by
  have e:=zqk (seen:=seen) (c:=c) bs
  unfold unS at e ⊢
  rw[List.filter_cons,List.filter_cons,zc7]
  cases memN b seen with
  | true=>simpa using e
  | false=>
   by_cases h:b=c
   ·simp[h];omega
   ·simp[h];exact e
theorem zcm {seen:List Nat}{c:Nat}(j:c∉seen):∀ {bs:List Nat},c∈bs->unS (seen++[c]) bs<unS seen bs
 | [],h=>nomatch h
 | b::bs,h=>by
  have f:=zqk (seen:=seen) (c:=c) bs
  by_cases e:b=c
  ·subst e
   have m:memN b seen=false:=by cases o:memN b seen;rfl;exact absurd (z4x.1 o) j
   unfold unS at f ⊢
   rw[List.filter_cons,List.filter_cons,zc7,m]
   simp
   omega
  ·have i:=zcm j (bs:=bs) (by rcases List.mem_cons.1 h with h|h;exact absurd h.symm e;exact h)
   unfold unS at i ⊢
   rw[List.filter_cons,List.filter_cons,zc7]
   cases memN b seen with
   | true=>simpa using i
   | false=>simp[e];exact i
theorem zp5 (bs:List Nat)(i:Nat):unS seen (dropAt bs i)<=unS seen bs:=by
 rw[z2w]
 exact(List.Sublist.filter _ (List.eraseIdx_sublist bs i)).length_le
def KmL (V:LV->Prop)(es:List (LV×LV)):Prop:=∀ e∈es,(∃ s,e.1=.str s)/\V e.2
structure KmE (V:LV->Prop) (M:Mem) (r:Nat) (es:List (LV × LV)) (bs:List Nat) (clk:Nat):Prop where
 at_:At M r (.map es bs clk)
 len:bs.length=es.length
 lt:∀ b ∈ bs,b < clk
 el:KmL V es
def KmM (V:LV->Prop)(M:Mem)(r:Nat):Prop:=∃ es bs clk,KmE V M r es bs clk
section
variable {P:Program} {kt:TypeId} {V:LV->Prop} {M M':Mem} {r:Nat} {es:List (LV × LV)} {bs:List Nat} {clk:Nat} {E:Env} {x y z':XO} {k:ByteArray}
theorem KmE.keep {F:Nat->Prop}(h:KmE V M r es bs clk)(e:Keep F M M')(f:¬ F r):KmE V M' r es bs clk:=⟨h.at_.keep e f,h.len,h.lt,h.el⟩
theorem KmM.keep {F:Nat->Prop}(h:KmM V M r)(e:Keep F M M')(f:¬ F r):KmM V M' r:=by
 obtain⟨es,bs,clk,h⟩:=h
 exact⟨es,bs,clk,h.keep e f⟩
theorem KmM.grow (h:KmM V M r)(e:Grow M M'):KmM V M' r:=h.keep (e.to_keep (fun _=>False)) (fun h=>h)
theorem KmM.lt (h:KmM V M r):r<M.next:=by
 obtain⟨es,bs,clk,h⟩:=h
 exact h.at_.2
theorem zsc (u:P.underlying kt=some .string)(m:keyOk P 10000 kt (.str k)=true)(h:KmE V M r es bs clk)(w:xval E x=some (.map (some r)))(A:xval E y=some (.str k))(z:LV)(hz:V z)(ok:Bool) :
  ∃ v b,zl P (.lkp kt z ok x y) E M=some (.val (ifb ok (.tup [v,.bool b]) v) M)/\V v:=by
 have f:∀ R,(ob (findL P kt (.str k) es 0) fun q=>oe q
   (some (R1.val (ifb ok (.tup [z,.bool false]) z) M)) (fun p=>pr p fun _ q=>pr q fun _ v=>some (.val (ifb ok (.tup [v,.bool true]) v) M)))=some R->zl P (.lkp kt z ok x y) E M=some R:=fun R s=>by
  show ob (xval E x) _=_
  rw[w,z8,A,z8,m,zb]
  show atMap M r _=_
  unfold atMap
  rw[h.at_.1,z8]
  exact s
 rcases z85 u k es 0 (fun e t=>(h.el e t).1) with i|⟨j,v,i,o⟩
 ·exact⟨z,false,f _ (by rw[i];rfl),hz⟩
 ·exact⟨v,true,f _ (by rw[i];rfl),(h.el _ (List.mem_of_getElem? o)).2⟩
theorem zv3 (H:P.underlying kt=some .string)(F:keyOk P 10000 kt (.str k)=true)(h:KmE V M r es bs clk)(U:xval E x=some (.map (some r)))(X:xval E y=some (.str k))(hz:xval E z'=some v)(J:V v) :
  ∃ t bs' m M',zl P (.mset kt x y z') E M=some (.skip M')/\Upd M r (.map t bs' m) M'/\KmE V M' r t bs' m/\((∃ e∈es,e.1=.str k)->bs'=bs/\m=clk /\ ∃ e∈t,e.1=.str k):=by
 have C:∀ R,(ob (findL P kt (.str k) es 0) fun p=>oe p
   (some (R1.skip (M.upd r (some (.map (es++[(.str k,v)]) (bs++[clk]) (clk+1))))))
   (fun p=>pr p fun i q=>pr q fun Z _=>guard' (lvEq (.str k) Z) (some (.skip (M.upd r (some (.map (setVal es i (.str k) v) bs clk)))))))=some R->zl P (.mset kt x y z') E M=some R:=fun R S=>by
  show ob (xval E x) _=_
  rw[U,z8,X,z8,hz,z8,F,zb]
  show atMap M r _=_
  unfold atMap
  rw[h.at_.1,z8]
  exact S
 rcases z85 H k es 0 (fun e f=>(h.el e f).1) with D|⟨j,w,D,Q⟩
 ·refine⟨_,_,_,_,C _ (by rw[D,z8];rfl),⟨rfl⟩,⟨At.upd_same ⟨rfl⟩ h.at_,by simp[h.len],fun b o=>?_,fun e f=>?_⟩,?_⟩
  ·rcases List.mem_append.1 o with o|o
   ·have:=h.lt b o;omega
   ·obtain rfl:b=clk:=by simpa using o
    omega
  ·rcases List.mem_append.1 f with f|f
   ·exact h.el e f
   ·obtain rfl:e=(.str k,v):=by simpa using f
    exact⟨⟨k,rfl⟩,J⟩
  ·rintro⟨e,f,u⟩
   exfalso
   have:∀(es:List (LV×LV)) (i:Nat),(∀ e∈es,∃ s,e.1=.str s)->e∈es->findL P kt (.str k) es i≠some none:=by
    intro es
    induction es with
    | nil=>intro i _ h;cases h
    | cons a es Y=>
     intro i G f A
     obtain⟨N,O⟩:=a
     obtain⟨s,B⟩:=G _ List.mem_cons_self
     have B:N=.str s:=B
     subst B
     have A:(ob (eqL P Op.maxDepth kt (.str k) (.str s)) fun b=>ifb b (some (some (i,.str s,O))) (findL P kt (.str k) es (i+1)))=some none:=A
     rw[zkn H,z8] at A
     cases o:(k==s) with
     | true=>rw[o] at A;cases A
     | false=>
      rw[o,ze] at A
      rcases List.mem_cons.1 f with rfl|f
      ·have u:LV.str s=.str k:=u
       cases u
       rw[zjl] at o;cases o
      ·exact Y (i+1) (fun e h=>G e (List.mem_cons_of_mem _ h)) f A
   exact this es 0 (fun e f=>(h.el e f).1) f D
 ·refine⟨_,_,_,_,C (.skip (M.upd r (some (.map (setVal es j (.str k) v) bs clk)))) (by
   rw[D,z8,Nat.zero_add]
   show guard' (k==k) _=_
   rw[zjl,zb]),⟨rfl⟩,⟨At.upd_same ⟨rfl⟩ h.at_,by rw[zj6];exact h.len,h.lt,fun e f=>?_⟩,fun _=>⟨rfl,rfl,(.str k,v),?_,rfl⟩⟩
  ·rcases zj7 f with f|rfl
   ·exact h.el e f
   ·exact⟨⟨k,rfl⟩,J⟩
  ·exact zee (List.getElem?_eq_some_iff.1 Q).1
theorem zv2 (A:P.underlying kt=some .string)(s:keyOk P 10000 kt (.str k)=true)(h:KmE V M r es bs clk)(B:xval E x=some (.map (some r)))(C:xval E y=some (.str k)) :
  ∃ f bs' M',zl P (.del kt x y) E M=some (.val (.tup []) M')/\Upd M r (.map f bs' clk) M'/\KmE V M' r f bs' clk /\ ∀ seen,unS seen bs'<=unS seen bs:=by
 have m:∀ R,(ob (findL P kt (.str k) es 0) fun p=>oe p
    (some (R1.val (.tup []) (M.upd r (some (.map es bs clk)))))
    (fun p=>pr p fun i _=>some (.val (.tup []) (M.upd r (some (.map (dropAt es i) (dropAt bs i) clk))))))=some R->zl P (.del kt x y) E M=some R:=fun R t=>by
  show ob (xval E x) _=_
  rw[B,z8,C,z8,s,zb]
  show atMap M r _=_
  unfold atMap
  rw[h.at_.1,z8]
  show guard' (Nat.beq bs.length es.length) _=_
  rw[h.len,Nat.beq_refl,zb]
  exact t
 rcases z85 A k es 0 (fun e q=>(h.el e q).1) with o|⟨j,w,o,D⟩
 ·exact⟨es,bs,_,m _ (by rw[o,z8];rfl),⟨rfl⟩,⟨At.upd_same ⟨rfl⟩ h.at_,h.len,h.lt,h.el⟩,fun _=>Nat.le_refl _⟩
 ·exact⟨dropAt es j,dropAt bs j,_,m _ (by rw[o,z8,Nat.zero_add];rfl),⟨rfl⟩,⟨At.upd_same ⟨rfl⟩ h.at_,zns h.len j,fun b u=>h.lt b (zgr u),fun e q=>h.el e (zgr q)⟩,fun seen=>zp5 bs j⟩
end
end Go.Proofs.YtpgalhbplcanhaaGreatDoor.C
end
section
open Go PvL Go.Proofs
namespace Go.Proofs.YtpgalhbplcanhaaGreatDoor.C
theorem zk7(n a b:Int)(M:Mem):zc Tryz.prog 91 [I n,I a,I b] M (fun w M'=>w=.bool (btB n a b)/\M'=M):=by
 refine zd Y91.2 rfl ?_
 delta Y91;refine un ?_
 unfold btB
 repeat' first|with_reducible intro _|refine sv ?_|refine ss ?_ ?_<;>(intro h;first|exact sz h|refine sy h ?_)|exact sq|fail
 all_goals ((refine kf ?_);refine⟨?_,rfl⟩;show LV.bool _=LV.bool _;congr 1;simp;omega)
set_option maxHeartbeats 4000000 in
theorem zgi(s:ByteArray)(D:s.size<=1000000000000000)(M:Mem):zc Tryz.prog 78 [.str s] M (fun w M'=>w=.bool (nmB s)/\M'=M):=by
 refine zd Y78.2 rfl ?_
 delta Y78;refine un ?_
 refine Wh ?_
 refine zg (fun z E o M'=>∃ k:Nat,z=s.size-k/\k<=s.size/\o=[]/\Has E [(0,.str s),(7,I s.size),(8,I k)]/\M'=M/\nmK s k=true)
  ?_ s.size _ _ _ ⟨0,by omega,by omega,rfl,hz,rfl,rfl⟩
 rintro z E o B ⟨k,rfl,C,rfl,p,rfl,j⟩
 refine z06 p ?_
 by_cases f:k=s.size
 ·subst f
  have A:nmB s=btB s.size 1 16:=by unfold nmB;rw[j];rfl
  rw[A]
  repeat' first|with_reducible intro _|refine sv ?_|((with_reducible first|apply z01|apply z05|apply zr);exact gd;exact rfl;exact rfl;(first|exact zk7 _ _ _ _))|refine ss ?_ ?_<;>(intro h;first|exact sz h|refine sy h ?_)|exact sq|fail
  refine kf ?_
  exact⟨rfl,rfl⟩
 have u:k<s.size:=by omega
 have e:=zvb s k
 rw[j,Bool.true_and] at e
 have i:=zva (s:=s) (k:=k+1) (by omega)
 have q:¬(97<=byteAt s k/\byteAt s k<=122∨k≠0/\(byteAt s k=95∨48<=byteAt s k/\byteAt s k<=57))->nmB s=false:=fun m=>i (by
  rw[e,Bool.eq_false_iff]
  unfold ltB dgB
  simp only[ne_eq,Bool.or_eq_true,Bool.and_eq_true,decide_eq_true_eq]
  exact m)
 have t:(97<=byteAt s k/\byteAt s k<=122∨k≠0/\(byteAt s k=95∨48<=byteAt s k/\byteAt s k<=57))->nmK s (k+1)=true:=fun m=>by
  rw[e]
  unfold ltB dgB
  simp only[ne_eq,Bool.or_eq_true,Bool.and_eq_true,decide_eq_true_eq]
  exact m
 clear e i
 repeat' first|with_reducible intro _|refine sv ?_|refine ss ?_ ?_<;>(intro h;first|exact sz h|refine sy h ?_)|exact sq|fail
 all_goals first
  | exact zi (s.size-(k+1)) (by omega) ⟨k+1,rfl,by omega,rfl,hz,rfl,t (by omega)⟩
  |(rw[q (by omega)];(refine kf ?_);exact⟨rfl,rfl⟩)
  |(exfalso;omega)
end Go.Proofs.YtpgalhbplcanhaaGreatDoor.C
end
section
open PvL
namespace Go.Proofs.YtpgalhbplcanhaaGreatDoor.C
variable {a:Option (Nat × Nat)}
def SlA {α:Type}(sz:Nat)(enc:α->List LV)(M:Mem)(a:Option (Nat×Nat))(l:List α):Prop:=l=[] ∨ ∃ i o,a=some (i,o) /\ ∀ k (e:k<l.length),Rd M i (o+k*sz) sz (enc l[k])
def SlA1 {α:Type}(enc:α->LV)(M:Mem)(a:Option (Nat×Nat))(l:List α):Prop:=l=[] ∨ ∃ i o,a=some (i,o) /\ ∀ k (e:k<l.length),Rd1 M i (o+k*1) (enc l[k])
theorem SlA.grow {α:Type}{sz:Nat}{enc:α->List LV}{M M':Mem}{l:List α}(h:SlA sz enc M a l)(j:Grow M M'):SlA sz enc M' a l :=
 h.imp id fun⟨i,o,e,f⟩=>⟨i,o,e,fun k m=>(f k m).grow j⟩
theorem SlA1.grow {α:Type}{enc:α->LV}{M M':Mem}{l:List α}(h:SlA1 enc M a l)(j:Grow M M'):SlA1 enc M' a l :=
 h.imp id fun⟨i,o,e,f⟩=>⟨i,o,e,fun k m=>(f k m).grow j⟩
end Go.Proofs.YtpgalhbplcanhaaGreatDoor.C
end
section
open Go PvL Go.Proofs
namespace Go.Proofs.YtpgalhbplcanhaaGreatDoor.C
variable {M:Mem}
abbrev Sg:=Int×ByteArray×Int×Int×Int
abbrev sgc (x:Sg):List LV:=[I x.1,.str x.2.1,I x.2.2.1,I x.2.2.2.1,I x.2.2.2.2]
abbrev blv (b:Bool):LV:=.bool b
structure Sc where
 sh:List Rg
 sr:List Rg
 ey:List Bool
 er:List Bool
 sg:List Sg
structure ScA where
 as':Option (Nat × Nat)
 fs':Bool
 es':Nat
 ar:Option (Nat × Nat)
 fr:Bool
 er:Nat
 ae:Option (Nat × Nat)
 fe:Bool
 ee:Nat
 ah:Option (Nat × Nat)
 fh:Bool
 eh:Nat
 ag:Option (Nat × Nat)
 fg:Bool
 eg:Nat
abbrev scc (A:ScA)(s:Sc):List LV:=[.slice A.as' s.sh.length A.fs' A.es',.slice A.ar s.sr.length A.fr A.er,.slice A.ae s.ey.length A.fe A.ee,.slice A.ah s.er.length A.fh A.eh,.slice A.ag s.sg.length A.fg A.eg]
abbrev scv (A:ScA)(s:Sc):LV:=.agg (scc A s)
structure ScM (M:Mem) (A:ScA) (s:Sc):Prop where
 sh:SlA 8 rgc M A.as' s.sh
 sr:SlA 8 rgc M A.ar s.sr
 ey:SlA1 blv M A.ae s.ey
 er:SlA1 blv M A.ah s.er
 sg:SlA 5 sgc M A.ag s.sg
 l1:s.sh.length<=1000000000000000
 l2:s.sr.length<=1000000000000000
 l3:s.ey.length<=1000000000000000
 l4:s.er.length<=1000000000000000
 l5:s.sg.length<=1000000000000000
 nm:∀ x ∈ s.sg,x.2.1.size<=1000000000000000
 e1:s.ey ≠ []->A.ee=1
 e2:s.er ≠ []->A.eh=1
theorem ScM.grow {M':Mem}{A:ScA}{s:Sc}(h:ScM M A s)(e:Grow M M'):ScM M' A s :=
 ⟨h.sh.grow e,h.sr.grow e,h.ey.grow e,h.er.grow e,h.sg.grow e,h.l1,h.l2,h.l3,h.l4,h.l5,h.nm,h.e1,h.e2⟩
def SgOk (n:Nat)(x:Sg):Prop:=(0<=x.1/\x.1<n)/\(0<=x.2.2.2.1/\x.2.2.2.1<=x.2.2.2.2/\x.2.2.2.2<=256)/\(x.2.2.1=-1 ∨(0<=x.2.2.1/\x.2.2.1<=7))
structure ScOk (s:Sc):Prop where
 n1:1<=s.sh.length
 n2:s.sh.length<=64
 sr:s.sr.length=s.sh.length
 ey:s.ey.length=s.sh.length
 er:s.er.length=s.sh.length
 sg:s.sg.length<=32
 ok:∀ x ∈ s.sg,SgOk s.sh.length x
theorem z8p (A:ScA)(s:Sc)(M:Mem):zc Tryz.prog 54 [scv A s] M (fun w M'=>w=I s.sh.length/\Grow M M'):=by
 refine zd Y54.2 rfl ?_
 delta Y54;refine un ?_
 refine Wh ?_;intros
 refine kf ?_
 exact⟨rfl,xg⟩
theorem zda (n lo hi:Int)(M:Mem):zc Tryz.prog 124 [I n,I lo,I hi] M (fun w M'=>w=.bool (decide (lo<=n/\n<=hi))/\M'=M):=by
 refine zd Y124.2 rfl ?_
 delta Y124;refine un ?_
 repeat' first|with_reducible intro _|refine sv ?_|refine ss ?_ ?_<;>(intro h;first|exact sz h|refine sy h ?_)|exact sq|fail
 all_goals (apply zl0;exact .tmp rfl .nil;refine⟨?_,rfl⟩)
 all_goals first
  | exact zl9 (by omega)
  | exact lb_f (by omega)
  | exact lb_t (by omega)
theorem zgk (r:Rg)(M:Mem):zc Tryz.prog 338 [rgv r] M (fun w M'=>(∃ b,w=.bool b)/\Grow M M'):=by
 have i:=fun M'=>zf0 r M'
 by_cases j:RgOk r
 ·have B:=j.sm
  obtain⟨⟨m,o⟩,⟨p,rd⟩,⟨s,t⟩,u,A⟩:=r
  unfold Sm at B
  dsimp only at B
  generalize tightF ((m,o),(p,rd),(s,t),u,A)=q at *
  obtain⟨C,D⟩:=q
  have i:∀ M',zc Tryz.prog 264 [.agg [I m,I o,I p,I rd,I s,I t,I u,I A]] M' (fun w f=>w=.tup [rgv C,I D]/\Grow M' f):=i
  show zc Tryz.prog 338 [.agg [I m,I o,I p,I rd,I s,I t,I u,I A]] M _
  refine zd Y338.2 rfl ?_
  delta Y338;refine un ?_
  repeat' first|with_reducible intro _|refine sv ?_|((with_reducible first|apply zw|apply zx|apply zm);exact gd;exact rfl;exact rfl;(first|exact i _))|refine ss ?_ ?_<;>(intro h;first|exact sz h|refine sy h ?_)|exact sq|fail
  all_goals (refine kf ?_)
  all_goals exact⟨⟨_,rfl⟩,xg⟩
 ·have e:tightF r=(zRg,11):=by unfold tightF;rw[if_neg j]
  rw[e] at i
  have i:∀ M',zc Tryz.prog 264 [rgv r] M' (fun w f=>w=.tup [rgv zRg,I 11]/\Grow M' f):=i
  refine zd Y338.2 rfl ?_
  delta Y338;refine un ?_
  refine Wpg @i ?_;intros
  refine kf ?_
  exact⟨⟨_,rfl⟩,xg⟩
structure Wt where
 zo:Int
 sp:Int
 ho:Int
 pr:Int
 de:Int
 so:Int
 pa:Int
abbrev wtc (w:Wt):List LV:=[I w.zo,I w.sp,I w.ho,I w.pr,I w.de,I w.so,I w.pa]
abbrev wtv (w:Wt):LV:=.agg (wtc w)
structure WtOk (w:Wt):Prop where
 zo:0<=w.zo /\ w.zo<=256
 sp:0<=w.sp /\ w.sp<=32
 ho:0<=w.ho /\ w.ho<=16
 pr:0<=w.pr /\ w.pr<=16
 de:0<=w.de /\ w.de<=16
 so:1<=w.so /\ w.so<=8
 pa:0<=w.pa /\ w.pa<=16
theorem z7j (w:Wt)(M:Mem):zc Tryz.prog 53 [wtv w] M (fun r M'=>(∃ e,r=I e/\(e=0->WtOk w)/\(WtOk w->e=0))/\Grow M M'):=by
 obtain⟨C,B,t,pr,i,A,u⟩:=w
 refine zd Y53.2 rfl ?_
 delta Y53;refine un ?_
 repeat' first|with_reducible intro _|refine sv ?_|refine su ?_|((with_reducible first|apply z01|apply z05|apply zr);exact gd;exact rfl;exact rfl;(first|exact zda _ _ _ _))|refine ss ?_ ?_<;>(intro h;first|exact sz h|refine sy h ?_)|exact sq|fail
 all_goals (refine kf ?_)
 all_goals refine⟨⟨_,rfl,?_,?_⟩,xg⟩
 all_goals first
  |(intro h;exfalso;revert h;decide)
  |(intro;refine⟨?_,?_,?_,?_,?_,?_,?_⟩<;>dsimp only<;>omega)
  |(intro _;rfl)
  |(intro f;obtain⟨j,m,o,p,h5,q,s⟩:=f;dsimp only at *;first|rfl|(exfalso;omega))
set_option maxHeartbeats 1000000 in
theorem zrl {A:ScA}{s:Sc}(o:ScM M A s)(he:s.ey.length=s.sh.length)(hr:s.er.length=s.sh.length)(x:Sg)(hx:x.2.1.size<=1000000000000000) :
  zc Tryz.prog 339 [scv A s,.agg (sgc x)] M (fun w M'=>(∃ b,w=.bool b/\(b=true->SgOk s.sh.length x))/\Grow M M'):=by
 have m:=fun M'=>z8p A s M'
 have N:=fun M'=>zgi x.2.1 hx M'
 have hl:=o.l1
 have u:=o.ey
 have B:=o.er
 clear o
 obtain⟨e,i,f,J,fr,U,F,fe,O,H,Y,S,G,X,Q⟩:=A
 obtain⟨j,sr,q,C,Z⟩:=s
 obtain⟨D,xn,xo,x1,x2⟩:=x
 dsimp only at *
 generalize nmB xn=bn at *
 have m:∀ M',zc Tryz.prog 54 [.agg [.slice e j.length i f,.slice J sr.length fr U,.slice F q.length fe O,.slice H C.length Y S,.slice G Z.length X Q]] M' (fun w p=>w=I j.length/\Grow M' p):=m
 unfold SgOk
 dsimp only
 show zc Tryz.prog 339 [.agg [.slice e j.length i f,.slice J sr.length fr U,.slice F q.length fe O,.slice H C.length Y S,.slice G Z.length X Q],.agg [I D,.str xn,I xo,I x1,I x2]] M _
 refine zd Y339.2 rfl ?_
 delta Y339;refine un ?_
 by_cases t:0<=D/\D<=(j.length:Int)-1
 ·obtain⟨k,rfl⟩:=Int.eq_ofNat_of_zero_le t.1
  have hk:k<j.length:=by omega
  rcases u with rfl|⟨i1,o1,rfl,u⟩
  ·dsimp only[List.length_nil] at he;omega
  rcases B with rfl|⟨i2,o2,rfl,B⟩
  ·dsimp only[List.length_nil] at hr;omega
  have q1:=u k (by omega)
  have q2:=B k (by omega)
  generalize q[k]=b1 at *
  generalize C[k]=b2 at *
  (have a0:=q1;have a1:=q2;repeat' (first|(with_reducible intro _)|refine sv ?_|((with_reducible first|apply z01|apply z05|apply zr);exact gd;exact rfl;exact rfl;(first|exact zda _ _ _ _|exact N _))|((with_reducible first|apply zw|apply zx|apply zm);exact gd;exact rfl;exact rfl;(first|exact m _))|refine ss ?_ ?_<;>(intro h;first|exact sz h|refine sy h ?_)|exact sq|fail))
  all_goals (refine kf ?_)
  all_goals refine⟨⟨_,rfl,fun hb=>?_⟩,xg⟩
  all_goals first
   |(exfalso;cases hb;done)
   |(refine⟨⟨?_,?_⟩,⟨?_,?_,?_⟩,?_⟩<;>omega)
 ·repeat' first|with_reducible intro _|refine sv ?_|((with_reducible first|apply z01|apply z05|apply zr);exact gd;exact rfl;exact rfl;(first|exact zda _ _ _ _|exact N _))|((with_reducible first|apply zw|apply zx|apply zm);exact gd;exact rfl;exact rfl;(first|exact m _))|refine ss ?_ ?_<;>(intro h;first|exact sz h|refine sy h ?_)|exact sq|fail
  all_goals try(exfalso;omega)
  refine kf ?_
  exact⟨⟨false,rfl,fun h=>by cases h⟩,xg⟩
set_option maxHeartbeats 2000000 in
theorem zrm {A:ScA}{s:Sc}(C:ScM M A s):zc Tryz.prog 300 [scv A s] M (fun w M'=>(∃ b,w=.bool b/\(b=true->ScOk s))/\Grow M M'):=by
 have cs:=fun M'=>z8p A s M'
 have a1:=fun(he:s.ey.length=s.sh.length) (hr:s.er.length=s.sh.length) x hx M' (hg:Grow M M')=>zrl (C.grow hg) he hr x hx
 have b2:=C.l1
 have b3:=C.l2
 have b4:=C.l3
 have b5:=C.l4
 have b6:=C.l5
 have r1:=C.sh
 have r2:=C.sr
 have r3:=C.sg
 have rn:=C.nm
 have fin:∀ Q n2 a b c d e,ScOk s:=fun(Q:1<=s.sh.length) (n2:s.sh.length<=64) (a:s.sr.length=s.sh.length) (b:s.ey.length=s.sh.length) (c:s.er.length=s.sh.length) (d:s.sg.length<=32) (e:∀ x∈s.sg,SgOk s.sh.length x)=>⟨Q,n2,a,b,c,d,e⟩
 clear C
 generalize ScOk s=b0 at *
 obtain⟨o,q,p,Z,fr,er,U,fe,ee,Y,fh,eh,X,J,G⟩:=A
 obtain⟨i,F,H,S,f⟩:=s
 dsimp only at *
 have cs:∀ M',zc Tryz.prog 54 [.agg [.slice o i.length q p,.slice Z F.length fr er,.slice U H.length fe ee,.slice Y S.length fh eh,.slice X f.length J G]] M' (fun w B=>w=I i.length/\Grow M' B):=cs
 show zc Tryz.prog 300 [.agg [.slice o i.length q p,.slice Z F.length fr er,.slice U H.length fe ee,.slice Y S.length fh eh,.slice X f.length J G]] M _
 refine zd Y300.2 rfl ?_
 delta Y300;refine un ?_
 by_cases hc:(1<=i.length/\i.length<=64)/\F.length=i.length/\H.length=i.length/\S.length=i.length/\f.length<=32
 rotate_left
 ·repeat' first|with_reducible intro _|refine sv ?_|((with_reducible first|apply z01|apply z05|apply zr);exact gd;exact rfl;exact rfl;(first|exact zda _ _ _ _))|((with_reducible first|apply zw|apply zx|apply zm);exact gd;exact rfl;exact rfl;(first|exact cs _))|refine ss ?_ ?_<;>(intro h;first|exact sz h|refine sy h ?_)|exact sq|fail
  all_goals try(exfalso;omega)
  all_goals (refine kf ?_)
  all_goals exact⟨⟨false,rfl,fun h=>by cases h⟩,xg⟩
 obtain⟨⟨a7,a8⟩,a3,a4,a5,a9⟩:=hc
 repeat' first|with_reducible intro _|refine sv ?_|((with_reducible first|apply z01|apply z05|apply zr);exact gd;exact rfl;exact rfl;(first|exact zda _ _ _ _))|((with_reducible first|apply zw|apply zx|apply zm);exact gd;exact rfl;exact rfl;(first|exact cs _))|refine ss ?_ ?_<;>(intro h;first|exact sz h|refine sy h ?_)|exact sq|fail
 all_goals try(exfalso;omega)
 rename_i Q M1 u1 u2 u3 M2 u4 u5 w1 w2 w3 w4
 have A1:At M2 Q (.cells true [.slice o i.length q p,.slice Z F.length fr er,.slice U H.length fe ee,.slice Y S.length fh eh,.slice X f.length J G] 154):=xm
 have g2:Grow M M2:=xg
 clear u1 u4 w1 w2 w3 w4
 have a0:∀(x:Sg),x∈f->∀ M',Grow M M'->zc Tryz.prog 339 [.agg [.slice o i.length q p,.slice Z F.length fr er,.slice U H.length fe ee,.slice Y S.length fh eh,.slice X f.length J G],.agg [I x.1,.str x.2.1,I x.2.2.1,I x.2.2.2.1,I x.2.2.2.2]] M' (fun w B=>(∃ b,w=.bool b/\(b=true->SgOk i.length x))/\Grow M' B):=fun x hx M' hg=>a1 a4 a5 x (rn x hx) M' hg
 clear a1
 have b7:=A1.2
 refine zg (fun z E ms M'=>∃ k:Nat,z=i.length-k/\k<=i.length/\ms=[]/\Has E [(1,.ptr (some (Q,0))),(43,I i.length),(44,I k)]/\Grow M M'/\M2.next<=M'.next/\At M' Q (.cells true [.slice o i.length q p,.slice Z F.length fr er,.slice U H.length fe ee,.slice Y S.length fh eh,.slice X f.length J G] 154))
  ?_ i.length _ _ _ ⟨0,by omega,by omega,rfl,hz,g2,Nat.le_refl _,A1⟩
 clear A1 g2
 rintro z E ms M3 ⟨k,rfl,hk,rfl,hE,g3,l3,A3⟩
 refine z06 hE ?_
 by_cases t:k=i.length
 rotate_left
 ·have u:k<i.length:=by omega
  rcases r1 with rfl|⟨i1,o1,rfl,r1⟩
  ·exact absurd u (Nat.not_lt_zero _)
  rcases r2 with rfl|⟨i2,o2,rfl,r2⟩
  ·dsimp only[List.length_nil] at a3;omega
  have q1:=(r1 k u).grow g3
  have q2:=(r2 k (by omega)).grow g3
  generalize i[k]=x1 at *
  generalize F[k]=x2 at *
  (have D:=q1;repeat' (first|(with_reducible intro _)|refine sv ?_|((with_reducible first|apply zk|apply zp|apply zh);exact gd;exact rfl;exact rfl;(first|exact zgk x1 _))|refine ss ?_ ?_<;>(intro h;first|exact sz h|refine sy h ?_)|exact sq|fail))
  all_goals try(exfalso;omega)
  rename_i w M4 hq
  obtain⟨⟨b,rfl⟩,g4⟩:=hq
  have l4:=g4.le
  have q2:=q2.grow g4
  cases b with
  | false=>
   refine Wh ?_;intro h
   refine kf ?_
   exact⟨⟨false,rfl,fun h=>by cases h⟩,xg⟩
  | true=>
   (have D:=q2;repeat' (first|(with_reducible intro _)|refine sv ?_|((with_reducible first|apply zk|apply zp|apply zh);exact gd;exact rfl;exact rfl;(first|exact zgk x2 _))|refine ss ?_ ?_<;>(intro h;first|exact sz h|refine sy h ?_)|exact sq|fail))
   all_goals try(exfalso;omega)
   rename_i w M5 hq
   obtain⟨⟨b,rfl⟩,g5⟩:=hq
   have l5:=g5.le
   cases b with
   | false=>
    refine Wh ?_;intro h
    refine kf ?_
    exact⟨⟨false,rfl,fun h=>by cases h⟩,xg⟩
   | true=>
    refine Wh ?_;intro h
    refine zi (i.length-(k+1)) (by omega) ⟨k+1,rfl,by omega,rfl,hz,xg,by omega,xm⟩
 subst t
 clear r1 r2
 refine Wg ?_;intro h
 refine zg (fun z E ms M'=>∃ k:Nat,z=f.length-k/\k<=f.length/\ms=[]/\Has E [(1,.ptr (some (Q,0))),(68,.slice X f.length J G),(69,I f.length),(70,I k)]/\Grow M M'/\M2.next<=M'.next/\At M' Q (.cells true [.slice o i.length q p,.slice Z F.length fr er,.slice U H.length fe ee,.slice Y S.length fh eh,.slice X f.length J G] 154) /\ ∀ j,j<k->∀ O:j<f.length,SgOk i.length f[j])
  ?_ f.length _ _ _ ⟨0,by omega,by omega,rfl,hz,g3,l3,A3,fun j O=>absurd O (Nat.not_lt_zero _)⟩
 clear A3 g3 l3 hE
 rintro z E ms M4 ⟨k,rfl,hk,rfl,hE,g4,l4,A4,N⟩
 refine z06 hE ?_
 by_cases t:k=f.length
 ·subst t
  refine Wg ?_;intro h
  refine kf ?_
  refine⟨⟨true,rfl,fun _=>fin a7 a8 a3 a4 a5 a9 fun x hx=>?_⟩,xg⟩
  obtain⟨j,O,rfl⟩:=List.mem_iff_getElem.1 hx
  exact N j O O
 have u:k<f.length:=by omega
 rcases r3 with rfl|⟨i3,o3,rfl,r3⟩
 ·exact absurd u (Nat.not_lt_zero _)
 have q3:=(r3 k u).grow g4
 have m:SgOk i.length f[k]->∀ j,j<k+1->∀ O:j<f.length,SgOk i.length f[j]:=fun h j O a6=>by
  by_cases e:j=k
  ·subst e;exact h
  ·exact N j (by omega) a6
 have q4:∀ j,k=j+1->∃ y:Sg,Rd M4 i3 (o3+((k:Int)-1).toNat*5) 5 [I y.1,.str y.2.1,I y.2.2.1,I y.2.2.2.1,I y.2.2.2.2]:=fun j O=>by
  refine⟨f[j]'(by omega),?_⟩
  rw[show((k:Int)-1).toNat=j by omega]
  exact(r3 j (by omega)).grow g4
 have cg:=fun M' hg=>a0 f[k] (List.getElem_mem u) M' hg
 generalize f[k]=x at *
 obtain⟨xs,xn,xo,x1,x2⟩:=x
 have q3:Rd M4 i3 (o3+k*5) 5 [I xs,.str xn,I xo,I x1,I x2]:=q3
 have cg:∀ M',Grow M M'->zc Tryz.prog 339 [.agg [.slice o i.length q p,.slice Z F.length fr er,.slice U H.length fe ee,.slice Y S.length fh eh,.slice (some (i3,o3)) f.length J G],.agg [I xs,.str xn,I xo,I x1,I x2]] M' (fun w B=>(∃ b,w=.bool b/\(b=true->SgOk i.length (xs,xn,xo,x1,x2)))/\Grow M' B):=cg
 clear a0
 have D:=q3;refine Wlg @cg ?_;intro h _ _ _ _ _ _ _ _ _ w M6 hq
 obtain⟨⟨b,rfl,hb⟩,g6⟩:=hq
 have l6:=g6.le
 cases b with
 | false=>
  refine Wh ?_;intro h
  refine kf ?_
  exact⟨⟨false,rfl,fun h=>by cases h⟩,xg⟩
 | true=>
  have m:=m (hb rfl)
  have b1:=q3.2
  rcases Nat.eq_zero_or_pos k with a2|a2
  ·subst a2
   refine Wg ?_;intro h
   refine zi (f.length-(0+1)) (by omega) ⟨0+1,rfl,by omega,rfl,hz,xg,by omega,xm,m⟩
  ·obtain⟨y,q4⟩:=q4 (k-1) (by omega)
   have q5:=Rd.nth (j:=0) q4 rfl
   clear q4
   obtain⟨y1,y2⟩:=y
   dsimp only at q5
   clear y2
   (have D:=q5;repeat' (first|(with_reducible intro _)|refine sv ?_|refine ss ?_ ?_<;>(intro h;first|exact sz h|refine sy h ?_)|exact sq|fail))
   all_goals try(exfalso;omega)
   ·refine kf ?_
    exact⟨⟨false,rfl,fun h=>by cases h⟩,xg⟩
   ·refine zi (f.length-(k+1)) (by omega) ⟨k+1,rfl,by omega,rfl,hz,xg,by omega,xm,m⟩
theorem zd3 {A:ScA}{s:Sc}(i:ScM M A s):zc Tryz.prog 240 [scv A s] M (fun w M'=>(∃ e,w=I e/\(e=0->ScOk s))/\Grow M M'):=by
 have f:=fun M' (m:Grow M M')=>zrm (i.grow m)
 refine zd Y240.2 rfl ?_
 delta Y240;refine un ?_
 refine Wlh @f ?_;intro _ _ _ _ _ w p o
 obtain⟨⟨b,rfl,j⟩,g4⟩:=o
 have q:=g4.le
 cases b with
 | false=>
  refine Wh ?_;intro h
  refine kf ?_
  exact⟨⟨_,rfl,fun h=>absurd h (by decide)⟩,xg⟩
 | true=>
  refine Wh ?_;intros
  refine kf ?_
  exact⟨⟨_,rfl,fun _=>j rfl⟩,xg⟩
theorem zrc (w:Wt){A:ScA}{s:Sc}(p:ScM M A s):zc Tryz.prog 182 [wtv w,scv A s] M (fun r M'=>(∃ e,r=I e/\(e=0->WtOk w/\ScOk s))/\Grow M M'):=by
 have m:=fun M' (t:Grow M M')=>zd3 (p.grow t)
 refine zd Y182.2 rfl ?_
 delta Y182;refine un ?_
 repeat' first|with_reducible intro _|refine sv ?_|((with_reducible first|apply zk|apply zp|apply zh);exact gd;exact rfl;exact rfl;(first|exact z7j w _))|refine ss ?_ ?_<;>(intro h;first|exact sz h|refine sy h ?_)|exact sq|fail
 rename_i r u j
 obtain⟨⟨e,rfl,q,-⟩,g4⟩:=j
 have C:=g4.le
 by_cases f:e=0
 ·subst f
  refine Wlg @m ?_;intro h r B j
  obtain⟨⟨e,rfl,i⟩,o⟩:=j
  have D:=o.le
  refine Wh ?_
  refine kf ?_
  exact⟨⟨_,rfl,fun h=>⟨q rfl,i h⟩⟩,xg⟩
 ·refine Wg ?_;intro h
  refine kf ?_
  exact⟨⟨_,rfl,fun h=>absurd h f⟩,xg⟩
theorem zmg (r:Rg):Sm 500000 (tightF r).1:=by
 unfold tightF
 split
 ·rename_i e
  have h:=(z8a e.sm).mono (by omega:(4*65536:Int)<=500000)
  cases f:tightO r with
  | none=>rw[f] at h;exact h
  | some t=>rw[f] at h;exact h
 ·unfold Sm zRg;dsimp only;omega
set_option maxHeartbeats 2000000 in
theorem zk5 {A:ScA}{s:Sc}(Y:ScM M A s)(hO:OcM M)(x:Sg)(hx:SgOk s.sh.length x) :
  zc Tryz.prog 342 [scv A s,.agg (sgc x)] M (fun w M'=>(∃(r:Rg) (b:Bool),w=.tup [rgv r,.bool b])/\Grow M M'):=by
 have r1:=Y.sh
 have a9:=Y.l1
 clear Y
 obtain⟨a6,G,F,ar,fr,er,ae,fe,ee,ah,fh,eh,ag,fg,eg⟩:=A
 obtain⟨u,sr,ey,rr,gl⟩:=s
 obtain⟨xs,xn,S,m,Q⟩:=x
 obtain⟨hs,hn,ho⟩:=hx
 dsimp only at *
 obtain⟨k,rfl⟩:=Int.eq_ofNat_of_zero_le hs.1
 have hk:k<u.length:=by omega
 rcases r1 with rfl|⟨i1,o1,rfl,r1⟩
 ·exact absurd hk (Nat.not_lt_zero _)
 have q1:=r1 k hk
 have a7:=q1.2
 have U:=fun M'=>zf0 u[k] M'
 have a0:=zmg u[k]
 generalize tightF u[k]=t at *
 generalize u[k]=rk at *
 obtain⟨f,te⟩:=t
 have U:∀ M',zc Tryz.prog 264 [rgv rk] M' (fun w o=>w=.tup [rgv f,I te]/\Grow M' o):=U
 show zc Tryz.prog 342 [.agg [.slice (some (i1,o1)) u.length G F,.slice ar sr.length fr er,.slice ae ey.length fe ee,.slice ah rr.length fh eh,.slice ag gl.length fg eg],.agg [I k,.str xn,I S,I m,I Q]] M _
 refine zd Y342.2 rfl ?_
 delta Y342;refine un ?_
 (have H:=q1;repeat' (first|(with_reducible intro _)|refine sv ?_|((with_reducible first|apply zw|apply zx|apply zm);exact gd;exact rfl;exact rfl;(first|exact U _))|((with_reducible first|apply zk|apply zp|apply zh);exact gd;exact rfl;exact rfl;(first|exact zbt f (n:=Q) (by omega) _))|refine ss ?_ ?_<;>(intro h;first|exact sz h|refine sy h ?_)|exact sq|fail))
 all_goals try(exfalso;omega)
 rename_i n2 M1 u1 u2 u3 n3 M2 u4 u5 u6 N M3 u7 u8 u9 M4 a1 b4 n6 M5 a2 b5 b6 M6 a3 b7 a4 w C hq
 obtain⟨⟨r,e,rfl⟩,g7⟩:=hq
 have l7:=g7.le
 have A2:At C n2 (.cells true [.slice (some (i1,o1)) u.length G F,.slice ar sr.length fr er,.slice ae ey.length fe ee,.slice ah rr.length fh eh,.slice ag gl.length fg eg] 154):=xm
 have A3:At C n3 (.cells true [I k,.str xn,I S,I m,I Q] 268):=xm
 have A4:At C N (.cells true (rgc zRg) 28):=xm
 have A6:At C n6 (.cells true (rgc f) 28):=xm
 have X:Grow M C:=xg
 clear u1 u4 u7 a1 a2 a3 a4 g7
 have D:∀(q:Rg) (M':Mem),zc Tryz.prog 264 [rgv q] M' (fun w o=>w=.tup [rgv (tightF q).1,I (tightF q).2]/\Grow M' o):=fun q M'=>zf0 q M'
 repeat' first|with_reducible intro _|refine sv ?_|refine ss ?_ ?_<;>(intro h;first|exact sz h|refine sy h ?_)|exact sq|fail
 all_goals try(exfalso;omega)
 all_goals rename_i O M8 v1 v2 v3 B v4 v5 v6
 all_goals have B8:At B O (.cells true (rgc r) 28):=v6
 all_goals have B4:At B N (.cells true (rgc zRg) 28):=xm
 all_goals have B3:At B n3 (.cells true [I k,.str xn,I S,I m,I Q] 268):=xm
 all_goals have B6:At B n6 (.cells true (rgc f) 28):=xm
 all_goals have g9:Grow M B:=xg
 all_goals clear v1 v4 v6 A2 A3 A4 A6 X
 ·obtain⟨ko,rfl⟩:=Int.eq_ofNat_of_zero_le (show 0<=S by omega)
  have Z:ko<8:=by omega
  have b1:=mulW (a:=m) (b:=m) (A:=256) (by omega) (by omega) (by omega) (by omega)
  have e8:=B8.2
  have e4:=B4.2
  have e3:=B3.2
  have e6:=B6.2
  refine zg (fun z E ms M'=>∃ j:Nat,z=182-j/\j<=182/\ms=[]/\Has E [(2,.ptr (some (n2,0))),(3,.ptr (some (n3,0))),(4,.ptr (some (N,0))),(6,.ptr (some (n6,0))),(8,.ptr (some (O,0))),(10,I j)]/\M'=B)
   ?_ 182 _ _ _ ⟨0,rfl,by omega,rfl,hz,rfl⟩
  rintro z E ms M' ⟨j,rfl,hj,rfl,hE,rfl⟩
  refine z06 hE ?_
  have b2:=mulW (a:=2*(j:Int)) (b:=(j:Int)) (A:=400) (by omega) (by omega) (by omega) (by omega)
  have b3:182<=j->66248<=2*(j:Int)*(j:Int):=fun h=>by
   have:=Int.mul_le_mul (a:=364) (b:=182) (c:=2*(j:Int)) (d:=(j:Int)) (by omega) (by omega) (by omega) (by omega)
   omega
  by_cases hc:2*(j:Int)*(j:Int)<m*m
  ·have a8:j<182:=by
    by_cases h:j<182
    ·exact h
    ·have:=b3 (by omega);omega
   refine Wg ?_;intros
   exact zi (182-(j+1)) (by omega) ⟨j+1,rfl,by omega,rfl,hz,rfl⟩
  ·obtain⟨gf,p,i⟩:=(hO.grow g9).rd Z
   have p:Rd1 M' 6 (0+(ko:Int).toNat*1) (.func (.func gf) [] []):=by rw[Int.toNat_natCast];exact p
   have i:zc Tryz.prog gf [.agg [I f.1.1,I f.1.2,I f.2.1.1,I f.2.1.2,I f.2.2.1.1,I f.2.2.1.2,I f.2.2.2.1,I f.2.2.2.2,I m,I j],.ptr (some (O,0))] M' _:=i f r m j O M' (a0.mono (by omega)) (by omega) (by omega) B8
   have H:=p;refine Wlg @i ?_;intro _ w Ma hq
   obtain⟨⟨r',a5⟩,J⟩:=hq
   have b0:=J.le
   have C4:At Ma N (.cells true (rgc zRg) 28):=xm
   have ga:Grow M Ma:=xg
   clear J i
   repeat' first|with_reducible intro _|refine sv ?_|((with_reducible first|apply zw|apply zx|apply zm);exact gd;exact rfl;exact rfl;(first|exact D r' _))|refine ss ?_ ?_<;>(intro h;first|exact sz h|refine sy h ?_)|exact sq|fail
   refine kf ?_
   exact⟨⟨(tightF r').1,_,rfl⟩,xg⟩
 ·repeat' first|with_reducible intro _|refine sv ?_|((with_reducible first|apply zw|apply zx|apply zm);exact gd;exact rfl;exact rfl;(first|exact D r _))|refine ss ?_ ?_<;>(intro h;first|exact sz h|refine sy h ?_)|exact sq|fail
  refine kf ?_
  exact⟨⟨(tightF r).1,_,rfl⟩,xg⟩
theorem zrk (x:Sg)(i:ByteArray)(t:Int){p q:Nat}{own e:Bool}{ty f:TypeId}(A:At M p (.cells own [.str i] ty))(B:At M q (.cells e [I t] f)) :
  zc Tryz.prog 341 [.agg (sgc x),.ptr (some (p,0)),.ptr (some (q,0))] M (fun w M'=>(∃ b,w=.bool b)/\Grow M M'):=by
 obtain⟨u,o,s,j,m⟩:=x
 show zc Tryz.prog 341 [.agg [I u,.str o,I s,I j,I m],.ptr (some (p,0)),.ptr (some (q,0))] M _
 refine zd Y341.2 rfl ?_
 delta Y341;refine un ?_
 repeat' first|with_reducible intro _|refine sv ?_|refine ss ?_ ?_<;>(intro h;first|exact sz h|refine sy h ?_)|exact sq|fail
 all_goals (refine kf ?_)
 all_goals exact⟨⟨_,rfl⟩,xg⟩
theorem zul {A:ScA}{s:Sc}(O:ScM M A s)(X:ByteArray)(t:Int):zc Tryz.prog 302 [scv A s,.str X,I t] M (fun w M'=>(∃ b,w=.bool b)/\Grow M M'):=by
 have Y:=O.sg
 have hl:=O.l5
 clear O
 obtain⟨a0,a2,a1,ar,fr,er,ae,fe,ee,ah,fh,eh,H,N,J⟩:=A
 obtain⟨sh,sr,ey,rr,f⟩:=s
 dsimp only at *
 have U:∀(p q:Nat) (own j:Bool) (ty F:TypeId) (M':Mem),Grow M M'->At M' p (.cells own [.str X] ty)->At M' q (.cells j [I t] F)->zc Tryz.prog 340 [.slice H f.length N J,.func (.func 341) [] [.ptr (some (p,0)),.ptr (some (q,0))]] M' (fun w i=>(∃ b,w=.bool b)/\Grow M' i):=by
  intro p q own j ty F M' hg hp S
  have Q:zc Tryz.prog 358 [.slice H f.length N J,.func (.func 341) [] [.ptr (some (p,0)),.ptr (some (q,0))]] M' (fun w i=>(∃ r:Int,w=I r /\ -1<=r/\r<=1000000000000000)/\Grow M' i):=by
   refine zd Y358.2 rfl ?_
   delta Y358;refine un ?_
   refine Wh ?_
   refine zg (fun m E ms G=>∃ k:Nat,m=f.length-k/\k<=f.length/\ms=[]/\Has E [(0,.slice H f.length N J),(1,.func (.func 341) [] [.ptr (some (p,0)),.ptr (some (q,0))]),(7,I f.length),(8,I k)]/\Grow M' G)
    ?_ f.length _ _ _ ⟨0,by omega,by omega,rfl,hz,Grow.refl _⟩
   rintro m E ms G ⟨k,rfl,hk,rfl,hE,e⟩
   refine z06 hE ?_
   by_cases o:k=f.length
   ·rw[o]
    refine Wg ?_;intros
    refine kf ?_
    exact⟨⟨-1,rfl,by decide,by decide⟩,e⟩
   have D:k<f.length:=by omega
   rcases Y with rfl|⟨i3,o3,rfl,Y⟩
   ·exact absurd D (Nat.not_lt_zero _)
   have q3:=((Y k D).grow hg).grow e
   have c1:=fun i (C:Grow G i)=>zrk f[k] X t ((hp.grow e).grow C) ((S.grow e).grow C)
   generalize f[k]=x at *
   have Z:=q3;refine Wlg @c1 ?_;intro _ w M3 u
   obtain⟨⟨b,rfl⟩,B⟩:=u
   have l3:=B.le
   cases b with
   | true=>
    refine Wh ?_;intros
    refine kf ?_
    exact⟨⟨k,rfl,by omega,by omega⟩,e.trans B⟩
   | false=>
    refine Wh ?_;intros
    exact zi (f.length-(k+1)) (by omega) ⟨k+1,rfl,by omega,rfl,hz,e.trans B⟩
  refine zd Y340.2 rfl ?_
  delta Y340;refine un ?_
  refine Wlh @Q ?_;intro w M3 u
  obtain⟨⟨r,rfl,h1,h2⟩,B⟩:=u
  refine Wh ?_
  refine kf ?_
  exact⟨⟨_,rfl⟩,B⟩
 refine zd Y302.2 rfl ?_
 delta Y302;refine un ?_
 repeat' first|with_reducible intro _|refine sv ?_|((with_reducible first|apply zk|apply zp|apply zh);exact gd;exact rfl;exact rfl;(first|exact U _ _ _ _ _ _ _ (xg) (xm) (xm)))|refine ss ?_ ?_<;>(intro h;first|exact sz h|refine sy h ?_)|exact sq|fail
 rename_i w M5 S
 obtain⟨⟨b,rfl⟩,g5⟩:=S
 have l5:=g5.le
 refine Wh ?_
 refine kf ?_
 exact⟨⟨_,rfl⟩,xg⟩
def AnV (v:LV):Prop:=∃(r:Rg) (n:Int),v=.agg [I r.1.1,I r.1.2,I r.2.1.1,I r.2.1.2,I r.2.2.1.1,I r.2.2.1.2,I r.2.2.2.1,I r.2.2.2.2,I n]/\0<=n/\n<=1000
theorem AnV.zero:AnV (.agg [I 0,I 0,I 0,I 0,I 0,I 0,I 0,I 0,I 0]):=⟨zRg,0,rfl,by decide,by decide⟩
theorem zfi (k:ByteArray):keyOk Tryz.prog 10000 9 (.str k)=true:=by kernel_rfl
theorem zg0:Tryz.prog.underlying 9=some .string:=by kernel_rfl
theorem zwu {A:ScA}{s:Sc}(j:ScM M A s)(x:Sg)(hx:SgOk s.sh.length x){v:LV}(hv:AnV v) :
  zc Tryz.prog 304 [scv A s,v,.agg (sgc x)] M (fun w M'=>(∃ b,w=.bool b)/\Grow M M'):=by
 have m:=j.sh
 have a0:=j.l1
 clear j
 obtain⟨G,i,f,F,fr,O,B,fe,H,D,U,N,C,S,J⟩:=A
 obtain⟨o,sr,Q,rr,Y⟩:=s
 obtain⟨xs,xn,xo,p,x2⟩:=x
 obtain⟨r,n,rfl,a1,a2⟩:=hv
 obtain⟨hs,hn,ho⟩:=hx
 dsimp only at *
 obtain⟨k,rfl⟩:=Int.eq_ofNat_of_zero_le hs.1
 have q:k<o.length:=by omega
 rcases m with rfl|⟨i1,o1,rfl,m⟩
 ·exact absurd q (Nat.not_lt_zero _)
 have u:=m k q
 have Z:=u.2
 generalize o[k]=rk at *
 have b1:=mulW (a:=p) (b:=p) (A:=256) (by omega) (by omega) (by omega) (by omega)
 show zc Tryz.prog 304 [.agg [.slice (some (i1,o1)) o.length i f,.slice F sr.length fr O,.slice B Q.length fe H,.slice D rr.length U N,.slice C Y.length S J],.agg [I r.1.1,I r.1.2,I r.2.1.1,I r.2.1.2,I r.2.2.1.1,I r.2.2.1.2,I r.2.2.2.1,I r.2.2.2.2,I n],.agg [I k,.str xn,I xo,I p,I x2]] M _
 refine zd Y304.2 rfl ?_
 delta Y304;refine un ?_
 (have t:=u;repeat' (first|(with_reducible intro _)|refine sv ?_|((with_reducible first|apply zk|apply zp|apply zh);exact gd;exact rfl;exact rfl;(first|exact zpw rk r _))|refine ss ?_ ?_<;>(intro h;first|exact sz h|refine sy h ?_)|exact sq|fail))
 all_goals try(exfalso;omega)
 rename_i w M5 hq
 obtain⟨⟨y1,y2,e,rfl⟩,X⟩:=hq
 have l5:=X.le
 refine Wh ?_;intros
 refine kf ?_
 exact⟨⟨_,rfl⟩,xg⟩
end Go.Proofs.YtpgalhbplcanhaaGreatDoor.C
end
section
open Go PvL Go.Proofs
variable {μ:Md}
namespace Go.Proofs.YtpgalhbplcanhaaGreatDoor.C
section
variable {sz:Nat} {E:Env} {M:Mem} {K:Env->Mem->Prop} {l:List XG} {d:Nat} {g:Option (Nat × Bool)} {x y z':XO} {r:Nat} {k:ByteArray} {V:LV->Prop} {v z:LV} {es:List (LV × LV)} {bs:List Nat} {clk:Nat}
theorem zvx{ok:Bool}(i:GOn E g)(h:KmM V M r)(m:xval E x=some (.map (some r)))(o:xval E y=some (.str k))(hz:V z)(j:∀ v b,V v->XW μ Tryz.prog sz l ((d,ifb ok (.tup [v,.bool b]) v)::E) M K):XW μ Tryz.prog sz (⟨some d,.lkp 9 z ok x y,g⟩::l) E M K:=by
 obtain⟨es,bs,clk,h⟩:=h
 obtain⟨v,b,e,f⟩:=zsc zg0 (zfi k) h m o z hz ok
 exact z35 i e (j v b f)
theorem zpd(s:GOn E g)(h:KmE V M r es bs clk)(w:xval E x=some (.map (some r)))(A:xval E y=some (.str k))(hz:xval E z'=some v)(u:V v)
  (t:∀ j bs' f M',Keep (fun i=>i=r) M M'->M'.next=M.next->KmE V M' r j bs' f->((∃ e∈es,e.1=.str k)->bs'=bs/\f=clk /\ ∃ e∈j,e.1=.str k)->XW μ Tryz.prog sz l E M' K):XW μ Tryz.prog sz (⟨none,.mset 9 x y z',g⟩::l) E M K:=by
 obtain⟨j,bs',f,M',o,m,p,q⟩:=zv3 zg0 (zfi k) h w A hz u
 exact zw0 s o (t _ _ _ _ ((Keep.refl _ _).upd m (.inl rfl)) m.next p q)
theorem zxv(p:GOn E g)(h:KmE V M r es bs clk)(s:xval E x=some (.map (some r)))(t:xval E y=some (.str k))
  (q:∀ e bs' M',Keep (fun i=>i=r) M M'->M'.next=M.next->KmE V M' r e bs' clk->(∀ seen,unS seen bs'<=unS seen bs)->XW μ Tryz.prog sz l E M' K):XW μ Tryz.prog sz (⟨none,.del 9 x y,g⟩::l) E M K:=by
 obtain⟨e,bs',M',j,f,m,o⟩:=zv2 zg0 (zfi k) h s t
 exact z2m p j (q _ _ _ ((Keep.refl _ _).upd f (.inl rfl)) f.next m o)
end
set_option maxHeartbeats 2000000 in
theorem zx6{A:ScA}{s:Sc}{M:Mem}(hM:ScM M A s)(hO:OcM M)(hn:s.sh.length<=64)(x:Sg)(hx:SgOk s.sh.length x){J:Nat}(t:KmM AnV M J) :
  zc Tryz.prog 303 [scv A s,.map (some J),.agg (sgc x)] M (fun w M'=>(∃ b,w=.bool b)/\KmM AnV M' J/\Keep (fun i=>i=J) M M'):=by
 have cs:=fun M' (hg:Grow M M')=>zk5 (hM.grow hg) (hO.grow hg) x hx
 obtain⟨u,X,Y,S,U⟩:=x
 have hs:=hx.1
 dsimp only at hs
 have a7:=t.lt
 have cs:∀ M',Grow M M'->zc Tryz.prog 342 [scv A s,.agg [I u,.str X,I Y,I S,I U]] M' (fun w Z=>(∃(r:Rg) (b:Bool),w=.tup [rgv r,.bool b])/\Grow M' Z):=cs
 show zc Tryz.prog 303 [scv A s,.map (some J),.agg [I u,.str X,I Y,I S,I U]] M _
 refine zd Y303.2 rfl ?_
 delta Y303;refine un ?_
 refine Wlh @cs ?_;intro n3 M1 u1 u2 u3 n5 M2 u4 u5 u6 w M3 hq
 obtain⟨⟨r,b,rfl⟩,g3⟩:=hq
 have l3:=g3.le
 have A3:At M3 n3 (.cells true (scc A s) 154):=xm
 have A5:At M3 n5 (.cells true [I u,.str X,I Y,I S,I U] 268):=xm
 have a6:Grow M M3:=xg
 clear u1 u4 g3
 cases b with
 | false=>
  repeat' first|with_reducible intro _|refine sv ?_|refine ss ?_ ?_<;>(intro h;first|exact sz h|refine sy h ?_)|exact sq|fail
  refine kf ?_
  rename_i n7 M4 O v2 v3 C Q v5 N
  have j:Grow M C:=xg
  exact⟨⟨_,rfl⟩,t.grow j,j.to_keep _⟩
 | true=>
  refine Wh ?_;intro n7 M4 O v2 v3 C Q v5 N _
  have j:Grow M C:=xg
  have B5:At C n5 (.cells true [I u,.str X,I Y,I S,I U] 268):=xm
  have B7:At C n7 (.cells true (rgc r) 28):=N
  have e5:=B5.2
  have e7:=B7.2
  clear O Q N A3 A5
  refine zvx (by exact gd) (t.grow j) rfl rfl AnV.zero ?_
  rintro _ b ⟨q,n,rfl,a8,a9⟩
  show XW _ _ _ _ ((25,.tup [.agg [I q.1.1,I q.1.2,I q.2.1.1,I q.2.1.2,I q.2.2.1.1,I q.2.2.1.2,I q.2.2.2.1,I q.2.2.2.2,I n],.bool b])::_) _ _
  cases b with
  | false=>
   refine Wh ?_;intro n9 M6 u1 u2 u3 M7 u4 u5 u6 _
   have D:Grow M M7:=xg
   obtain⟨es,bs,clk,p⟩:=t.grow D
   refine zpd (by exact gd) p rfl rfl rfl ⟨r,u,rfl,by omega,by omega⟩ ?_
   intro o bs' f M8 k8 e8 a1 _
   refine Wh ?_
   refine kf ?_
   exact⟨⟨_,rfl⟩,⟨o,bs',f,a1⟩,(D.to_keep _).trans k8 (fun i hi=>.inl hi)⟩
  | true=>
   repeat' first|with_reducible intro _|refine sv ?_|((with_reducible first|apply zk|apply zp|apply zh);exact gd;exact rfl;exact rfl;(first|exact zr9 q r _))|refine ss ?_ ?_<;>(intro h;first|exact sz h|refine sy h ?_)|exact sq|fail
   rename_i n9 M6 u1 u2 u3 M7 u4 u5 u6 w M8 hq
   obtain⟨⟨m,e,rfl⟩,g8⟩:=hq
   have l8:=g8.le
   by_cases he:e=0
   ·subst he
    refine Wg ?_;intro a3 M9 O v2 v3 B Q v5 N _ a0 v7 v8 v9
    have G:Grow M a0:=xg
    obtain⟨es,bs,clk,p⟩:=t.grow G
    refine zpd (by exact gd) p rfl rfl rfl ⟨m,u,rfl,by omega,by omega⟩ ?_
    intro o bs' f a4 a2 a5 H _
    refine Wh ?_
    refine kf ?_
    exact⟨⟨_,rfl⟩,⟨o,bs',f,H⟩,(G.to_keep _).trans a2 (fun i hi=>.inl hi)⟩
   ·refine Wg ?_;intro a3 M9 O v2 v3 B Q v5 N _
    have F:Grow M B:=xg
    refine kf ?_
    exact⟨⟨_,rfl⟩,t.grow F,F.to_keep _⟩
