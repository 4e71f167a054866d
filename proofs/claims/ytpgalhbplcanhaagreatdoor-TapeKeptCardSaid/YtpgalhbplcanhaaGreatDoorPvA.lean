/-
 An interpreter of the model's code over a memory of names,written for the kernel: definitions only.
-/
import GoSem.Step
namespace PvL
open Go
noncomputable section
def ob{α a:Type}(x:Option α)(f:α->Option a):Option a:=@Option.rec α (fun _=>Option a) none f x
def oe{α a:Type}(x:Option α)(n:a)(f:α->a):a:=@Option.rec α (fun _=>a) n f x
def ifb{α:Type}(b:Bool)(x y:α):α:=@Bool.rec (fun _=>α) y x b
def guard'{α:Type}(b:Bool)(x:Option α):Option α:=@Bool.rec (fun _=>Option α) none x b
def nE{α:Type}(n:Nat)(z:α)(k:Nat->α):α:=@Nat.rec (fun _=>α) z (fun m _=>k m) n
def iE{α:Type}(z:Int)(p:Nat->α)(n:Nat->α):α:=@Int.rec (fun _=>α) p n z
def pr{α a c:Type}(x:α×a)(k:α->a->c):c:=@Prod.rec α a (fun _=>c) k x
def lE{α d:Type}(x:List α)(n:d)(c:α->List α->d):d:=@List.rec α (fun _=>d) n (fun a l _=>c a l) x
def fN{α:Type}(n:Nat)(k:Nat->α):α:=nE n (k 0) (fun m=>k (Nat.succ m))
def fI{α:Type}(z:Int)(k:Int->α):α:=iE z (fun n=>fN n fun n=>k (.ofNat n)) (fun n=>fN n fun n=>k (.negSucc n))
inductive Bits where
 | e|l (b:Bits)|r (b:Bits)
 deriving DecidableEq
def bitsF(f:Nat):Nat->Bits:=@Nat.rec (fun _=>Nat->Bits) (fun _=>.e) (fun _ a n=>nE n .e fun m=>ifb (Nat.beq (Nat.mod m 2) 0) (.l (a (Nat.div m 2))) (.r (a (Nat.div m 2)))) f
def bits(n:Nat):Bits:=bitsF n n
inductive PT (α:Type) where
 | nil
 | node (v:Option α) (l r:PT α)
namespace PT
variable {α:Type}
def pE{a:Type}(t:PT α)(n:a)(k:Option α->PT α->PT α->a):a:=@PT.rec α (fun _=>a) n (fun v l r _ _=>k v l r) t
def getB(b:Bits):PT α->Option α :=
 @Bits.rec (fun _=>PT α->Option α) (fun t=>@PT.rec α (fun _=>Option α) none (fun v _ _ _ _=>v) t)
  (fun _ a t=>@PT.rec α (fun _=>Option α) none (fun _ l _ _ _=>a l) t) (fun _ a t=>@PT.rec α (fun _=>Option α) none (fun _ _ r _ _=>a r) t) b
def get(t:PT α)(n:Nat):Option α:=getB (bits n) t
def setB(x:Option α)(b:Bits):PT α->PT α :=
 @Bits.rec (fun _=>PT α->PT α) (fun t=>@PT.rec α (fun _=>PT α) (.node x .nil .nil) (fun _ l r _ _=>.node x l r) t)
  (fun _ a t=>@PT.rec α (fun _=>PT α) (.node none (a .nil) .nil) (fun v l r _ _=>.node v (a l) r) t)
  (fun _ a t=>@PT.rec α (fun _=>PT α) (.node none .nil (a .nil)) (fun v l r _ _=>.node v l (a r)) t) b
def set(t:PT α)(n:Nat)(x:Option α):PT α:=setB x (bits n) t
end PT
end
inductive LV where
 | int (k:IntKind) (n:Int)
 | bool (b:Bool)
 | str (s:ByteArray)
 | ptr (a:Option (Nat × Nat))
 | slice (a:Option (Nat × Nat)) (len:Nat) (full:Bool) (es:Nat)
 | map (r:Option Nat)
 | func (fn:Fn) (first captured:List LV)
 | nilFunc
 | nilIface
 | agg (cs:List LV)
 | tup (vs:List LV)
 | unk
 | iface (t:TypeId) (v:LV)
 deriving Inhabited
def z00:LV:=.tup []
noncomputable section
def asInt{α:Type}(v:LV)(k:IntKind->Int->Option α):Option α:=@LV.rec (fun _=>Option α) (fun _=>PUnit) (fun q n=>k q n) (fun _=>none) (fun _=>none) (fun _=>none) (fun _ _ _ _=>none) (fun _=>none) (fun _ _ _ _ _=>none) none none (fun _ _=>none) (fun _ _=>none) none (fun _ _ _=>none) PUnit.unit (fun _ _ _ _=>PUnit.unit) v
def asBool{α:Type}(v:LV)(k:Bool->Option α):Option α:=@LV.rec (fun _=>Option α) (fun _=>PUnit) (fun _ _=>none) (fun b=>k b) (fun _=>none) (fun _=>none) (fun _ _ _ _=>none) (fun _=>none) (fun _ _ _ _ _=>none) none none (fun _ _=>none) (fun _ _=>none) none (fun _ _ _=>none) PUnit.unit (fun _ _ _ _=>PUnit.unit) v
def asPtr{α:Type}(v:LV)(k:Nat->Nat->Option α):Option α:=@LV.rec (fun _=>Option α) (fun _=>PUnit) (fun _ _=>none) (fun _=>none) (fun _=>none) (fun a=>ob a fun p=>pr p k) (fun _ _ _ _=>none) (fun _=>none) (fun _ _ _ _ _=>none) none none (fun _ _=>none) (fun _ _=>none) none (fun _ _ _=>none) PUnit.unit (fun _ _ _ _=>PUnit.unit) v
def asAgg{α:Type}(v:LV)(k:List LV->Option α):Option α:=@LV.rec (fun _=>Option α) (fun _=>PUnit) (fun _ _=>none) (fun _=>none) (fun _=>none) (fun _=>none) (fun _ _ _ _=>none) (fun _=>none) (fun _ _ _ _ _=>none) none none (fun a _=>k a) (fun _ _=>none) none (fun _ _ _=>none) PUnit.unit (fun _ _ _ _=>PUnit.unit) v
def asStr{α:Type}(v:LV)(k:ByteArray->Option α):Option α:=@LV.rec (fun _=>Option α) (fun _=>PUnit) (fun _ _=>none) (fun _=>none) (fun s=>k s) (fun _=>none) (fun _ _ _ _=>none) (fun _=>none) (fun _ _ _ _ _=>none) none none (fun _ _=>none) (fun _ _=>none) none (fun _ _ _=>none) PUnit.unit (fun _ _ _ _=>PUnit.unit) v
def asTup{α:Type}(v:LV)(k:List LV->Option α):Option α:=@LV.rec (fun _=>Option α) (fun _=>PUnit) (fun _ _=>none) (fun _=>none) (fun _=>none) (fun _=>none) (fun _ _ _ _=>none) (fun _=>none) (fun _ _ _ _ _=>none) none none (fun _ _=>none) (fun a _=>k a) none (fun _ _ _=>none) PUnit.unit (fun _ _ _ _=>PUnit.unit) v
def asSlice{α:Type}(v:LV)(k:Option (Nat×Nat)->Nat->Bool->Nat->Option α):Option α:=@LV.rec (fun _=>Option α) (fun _=>PUnit) (fun _ _=>none) (fun _=>none) (fun _=>none) (fun _=>none) (fun a n f e=>k a n f e) (fun _=>none) (fun _ _ _ _ _=>none) none none (fun _ _=>none) (fun _ _=>none) none (fun _ _ _=>none) PUnit.unit (fun _ _ _ _=>PUnit.unit) v
def asMap{α:Type}(v:LV)(k:Option Nat->Option α):Option α:=@LV.rec (fun _=>Option α) (fun _=>PUnit) (fun _ _=>none) (fun _=>none) (fun _=>none) (fun _=>none) (fun _ _ _ _=>none) (fun r=>k r) (fun _ _ _ _ _=>none) none none (fun _ _=>none) (fun _ _=>none) none (fun _ _ _=>none) PUnit.unit (fun _ _ _ _=>PUnit.unit) v
def asIface{α:Type}(v:LV)(k:TypeId->LV->Option α):Option α:=@LV.rec (fun _=>Option α) (fun _=>PUnit) (fun _ _=>none) (fun _=>none) (fun _=>none) (fun _=>none) (fun _ _ _ _=>none) (fun _=>none) (fun _ _ _ _ _=>none) none none (fun _ _=>none) (fun _ _=>none) none (fun t x _=>k t x) PUnit.unit (fun _ _ _ _=>PUnit.unit) v
def LV.cells(v:LV):List LV:=@LV.rec (fun _=>List LV) (fun _=>PUnit) (fun a c=>[.int a c]) (fun a=>[.bool a]) (fun a=>[.str a]) (fun a=>[.ptr a]) (fun a c d e=>[.slice a c d e]) (fun a=>[.map a]) (fun a c d _ _=>[.func a c d]) ([.nilFunc]) ([.nilIface]) (fun f _=>f) (fun a _=>[.tup a]) [.unk] (fun a c _=>[.iface a c]) PUnit.unit (fun _ _ _ _=>PUnit.unit) v
def LV.flat(v:LV):Bool:=@LV.rec (fun _=>Bool) (fun _=>PUnit) (fun _ _=>true) (fun _=>true) (fun _=>true) (fun _=>true) (fun _ _ _ _=>true) (fun _=>true) (fun _ _ _ _ _=>true) true true (fun _ _=>false) (fun _ _=>false) false (fun _ _ _=>true) PUnit.unit (fun _ _ _ _=>PUnit.unit) v
def isAggL(v:LV):Bool:=@LV.rec (fun _=>Bool) (fun _=>PUnit) (fun _ _=>false) (fun _=>false) (fun _=>false) (fun _=>false) (fun _ _ _ _=>false) (fun _=>false) (fun _ _ _ _ _=>false) false false (fun _ _=>true) (fun _ _=>false) false (fun _ _ _=>false) PUnit.unit (fun _ _ _ _=>PUnit.unit) v
def isIntL(v:LV):Bool:=@LV.rec (fun _=>Bool) (fun _=>PUnit) (fun _ _=>true) (fun _=>false) (fun _=>false) (fun _=>false) (fun _ _ _ _=>false) (fun _=>false) (fun _ _ _ _ _=>false) false false (fun _ _=>false) (fun _ _=>false) false (fun _ _ _=>false) PUnit.unit (fun _ _ _ _=>PUnit.unit) v
def isStrL(v:LV):Bool:=@LV.rec (fun _=>Bool) (fun _=>PUnit) (fun _ _=>false) (fun _=>false) (fun _=>true) (fun _=>false) (fun _ _ _ _=>false) (fun _=>false) (fun _ _ _ _ _=>false) false false (fun _ _=>false) (fun _ _=>false) false (fun _ _ _=>false) PUnit.unit (fun _ _ _ _=>PUnit.unit) v
def zn:List LV->Bool
 | []=>true
 | v::vs=>ifb v.flat (zn vs) false
structure Tm where
 size:Nat
 tr:PT LV
def tmE{a:Type}(t:Tm)(k:Nat->PT LV->a):a:=@Tm.rec (fun _=>a) k t
def Tm.get(t:Tm)(i:Nat):LV:=(t.tr.get i).getD .unk
def Tm.set(t:Tm)(i:Nat)(v:LV):Option Tm :=
 tmE t fun sz a=>guard' (Nat.ble (Nat.succ i) sz) (some ⟨sz,a.set i (some v)⟩)
def Tm.put(t:Tm)(d:Option Nat)(v:LV):Option Tm:=oe d (some t) (fun d=>t.set d v)
def Tm.setAll:List LV->Nat->Tm->Option Tm
 | [],_,t=>some t
 | v::vs,i,t=>ob (t.set i v) fun t=>Tm.setAll vs (i+1) t
def Tm.ofList(n:Nat)(vs:List LV):Option Tm:=fN (Nat.max n vs.length) fun n=>Tm.setAll vs 0 ⟨n,.nil⟩
inductive LB where
 | cells (own:Bool) (c:List LV) (elem:TypeId)
 | map (es:List (LV × LV)) (bs:List Nat) (clk:Nat)
 | loop (st:LoopState) (pend:Option Code) (fn:FuncId) (tm:Tm) (params:List Tmp) (assign body:Code) (defers:Nat)
 | defr
 | iter (src:Option Nat) (since:Nat) (seen:List Nat) (last:Nat)
 | siter (s:ByteArray) (pos:Nat)
structure Mem where
 next:Nat
 tr:PT LB
def memE{a:Type}(t:Mem)(k:Nat->PT LB->a):a:=@Mem.rec (fun _=>a) k t
def lbE{a:Type}(b:LB)(c:Bool->List LV->TypeId->a)(d:List (LV×LV)->List Nat->Nat->a)(e:LoopState->Option Code->FuncId->Tm->List Tmp->Code->Code->Nat->a)(f:a)(g:Option Nat->Nat->List Nat->Nat->a)(c6:ByteArray->Nat->a):a:=@LB.rec (fun _=>a) c d e f g c6 b
def Mem.get(m:Mem)(i:Nat):Option LB:=memE m fun _ a=>a.get i
def Mem.upd(m:Mem)(i:Nat)(b:Option LB):Mem:=memE m fun n a=>⟨n,a.set i b⟩
def Mem.new{α:Type}(m:Mem)(b:LB)(k:Nat->Mem->α):α :=
 memE m fun n a=>fN n fun n=>k n ⟨n+1,a.set n (some b)⟩
def atCells{α:Type}(m:Mem)(i:Nat)(k:Bool->List LV->TypeId->Option α):Option α :=
 ob (m.get i) fun b=>lbE b k (fun _ _ _=>none) (fun _ _ _ _ _ _ _ _=>none) none (fun _ _ _ _=>none) (fun _ _=>none)
def atMap{α:Type}(m:Mem)(i:Nat)(k:List (LV×LV)->List Nat->Nat->Option α):Option α :=
 ob (m.get i) fun b=>lbE b (fun _ _ _=>none) k (fun _ _ _ _ _ _ _ _=>none) none (fun _ _ _ _=>none) (fun _ _=>none)
def atLoop{α:Type}(m:Mem)(i:Nat)(k:LoopState->Option Code->FuncId->Tm->List Tmp->Code->Code->Nat->Option α):Option α :=
 ob (m.get i) fun b=>lbE b (fun _ _ _=>none) (fun _ _ _=>none) k none (fun _ _ _ _=>none) (fun _ _=>none)
def atDefr{α:Type}(m:Mem)(i:Nat)(k:Option α):Option α :=
 ob (m.get i) fun b=>lbE b (fun _ _ _=>none) (fun _ _ _=>none) (fun _ _ _ _ _ _ _ _=>none) k (fun _ _ _ _=>none) (fun _ _=>none)
def atIter{α:Type}(m:Mem)(i:Nat)(k:Option Nat->Nat->List Nat->Nat->Option α):Option α :=
 ob (m.get i) fun b=>lbE b (fun _ _ _=>none) (fun _ _ _=>none) (fun _ _ _ _ _ _ _ _=>none) none k (fun _ _=>none)
def atSIter{α:Type}(m:Mem)(i:Nat)(k:ByteArray->Nat->Option α):Option α :=
 ob (m.get i) fun b=>lbE b (fun _ _ _=>none) (fun _ _ _=>none) (fun _ _ _ _ _ _ _ _=>none) none (fun _ _ _ _=>none) k
def ofV0:Value->Option LV
 | .int k n=>some (.int k n)
 | .bool b=>some (.bool b)
 | .string s=>some (.str s)
 | .pointer none=>some (.ptr none)
 | .slice none 0 0=>some (.slice none 0 true 0)
 | .map none=>some (.map none)
 | .nilFunc=>some .nilFunc
 | .nilIface=>some .nilIface
 | .func (.func f) ⟨[]⟩ ⟨[]⟩=>some (.func (.func f) [] [])
 | _=>none
def ofVs:List Value->Option (List LV)
 | []=>some []
 | v::vs=>ob (ofV0 v) fun a=>ob (ofVs vs) fun b=>some (a::b)
def ofV(v:Value):Option LV :=
 match v with
 | .agg ⟨a⟩=>ob (ofVs a) fun l=>some (.agg l)
 | .tuple ⟨[]⟩=>some z00
 | v=>ofV0 v
section
variable (P:Program)
def szOf(t:TypeId):Option Nat:=(P.info? t).map (·.size)
def bytesOfT(t:TypeId):Option Nat:=(P.info? t).map (·.bytes)
def isAggD:TypeDesc->Bool | .struct _ | .array _ _=>true|_=>false
def isAggT(t:TypeId):Option Bool:=(P.underlying t).map isAggD
def aggSz(t:TypeId):Option (Option Nat):=ob (isAggT P t) fun b=>ifb b (ob (szOf P t) fun n=>some (some n)) (some none)
def zeroL(t:TypeId):Option LV:=ob (P.info? t) fun i=>ob i.zero fun v=>ob (ofV v) fun z=>guard' (zn z.cells) (some z)
def z16(t:TypeId):Option TypeId:=match P.underlying t with|some (.slice e)=>some e|_=>none
def mapTypes(t:TypeId):Option (TypeId×TypeId):=match P.underlying t with|some (.map k e)=>some (k,e)|_=>none
def fieldOf(t:TypeId)(i:Nat):Option Field:=match P.underlying t with|some (.struct a)=>a[i]? | _=>none
def fieldPl(t:TypeId)(i:Nat):Option (Nat×Nat×Bool) :=
 ob (fieldOf P t i) fun f=>ob (szOf P f.type) fun n=>ob (isAggT P f.type) fun b=>some (f.offset,n,b)
def take'(n:Nat):List LV->Option (List LV) :=
 @Nat.rec (fun _=>List LV->Option (List LV)) (fun _=>some []) (fun _ a l=>lE l none fun x c=>ob (a c) fun l=>some (x::l)) n
def nth:List LV->Nat->Option LV
 | [],_=>none
 | x::xs,n=>nE n (some x) (fun m=>nth xs m)
def drop'(n:Nat):List LV->List LV :=
 @Nat.rec (fun _=>List LV->List LV) (fun l=>l) (fun _ a l=>lE l [] fun _ c=>a c) n
def z0t:List LV->Nat->List LV->Option (List LV)
 | [],_,vs=>lE vs (some []) (fun _ _=>none)
 | x::xs,n,vs=>
  lE vs (some (x::xs)) fun v vs'=>
   nE n (ob (z0t xs 0 vs') fun l=>some (v::l)) fun m=>ob (z0t xs m vs) fun l=>some (x::l)
def loadN(m:Mem)(id off n:Nat):Option (List LV):=atCells m id fun _ c _=>take' n (drop' off c)
def load1(m:Mem)(id off:Nat):Option LV:=atCells m id fun _ c _=>nth c off
def loadT(t:TypeId)(m:Mem)(a:LV):Option LV :=
 asPtr a fun id off=>ob (aggSz P t) fun s=>
  oe s (load1 m id off) (fun n=>ob (loadN m id off n) fun l=>some (.agg l))
def storeCs(m:Mem)(id off:Nat)(vs:List LV):Option Mem :=
 atCells m id fun own c e=>guard' own (ob (z0t c off vs) fun a=>some (m.upd id (some (.cells true a e))))
def storeT(t:TypeId)(m:Mem)(a v:LV):Option Mem :=
 asPtr a fun id off=>ob (szOf P t) fun n=>
  guard' (Nat.beq v.cells.length n) (guard' (zn v.cells) (storeCs m id off v.cells))
def inI64(z:Int):Bool:=iE z (fun m=>Nat.ble m 9223372036854775807) (fun m=>Nat.ble m 9223372036854775807)
def isI64(k:IntKind):Bool:=@IntKind.rec (fun _=>Bool) false false false true false false false false k
def wr(k:IntKind)(n:Int):Int:=ifb (isI64 k) (ifb (inI64 n) n (k.wrap n)) (k.wrap n)
def ilt(x y:Int):Bool:=iE x (fun a=>iE y (fun b=>Nat.ble (Nat.succ a) b) (fun _=>false)) (fun a=>iE y (fun _=>true) (fun b=>Nat.ble (Nat.succ b) a))
def ieq(x y:Int):Bool:=iE x (fun a=>iE y (fun b=>Nat.beq a b) (fun _=>false)) (fun a=>iE y (fun _=>false) (fun b=>Nat.beq a b))
def izero(z:Int):Bool:=ieq z 0
def nat?{α:Type}(z:Int)(k:Nat->Option α):Option α:=iE z k (fun _=>none)
def mkI(k:IntKind)(z:Int):Option LV:=fI z fun z=>some (.int k z)
def mkB(b:Bool):Option LV:=ifb b (some (.bool true)) (some (.bool false))
def kEq(a b:IntKind):Bool:=@IntKind.rec (fun _=>Bool) (@IntKind.rec (fun _=>Bool) true false false false false false false false b) (@IntKind.rec (fun _=>Bool) false true false false false false false false b) (@IntKind.rec (fun _=>Bool) false false true false false false false false b) (@IntKind.rec (fun _=>Bool) false false false true false false false false b) (@IntKind.rec (fun _=>Bool) false false false false true false false false b) (@IntKind.rec (fun _=>Bool) false false false false false true false false b) (@IntKind.rec (fun _=>Bool) false false false false false false true false b) (@IntKind.rec (fun _=>Bool) false false false false false false false true b) a
def bAnd(k:IntKind)(x y:Int):Option LV:=mkI k (wr k (BitVec.ofInt k.bits x &&& BitVec.ofInt k.bits y).toNat)
def bOr(k:IntKind)(x y:Int):Option LV:=mkI k (wr k (BitVec.ofInt k.bits x ||| BitVec.ofInt k.bits y).toNat)
def bXor(k:IntKind)(x y:Int):Option LV:=mkI k (wr k (BitVec.ofInt k.bits x ^^^ BitVec.ofInt k.bits y).toNat)
def bAndNot(k:IntKind)(x y:Int):Option LV:=mkI k (wr k (BitVec.ofInt k.bits x &&& ~~~(BitVec.ofInt k.bits y)).toNat)
def eqPart(rec:TypeId->LV->LV->Option Bool)(t:TypeId)(off:Nat)(xs c:List LV):Option Bool :=
 ob (aggSz P t) fun s=>oe s
  (ob (nth xs off) fun a=>ob (nth c off) fun b=>rec t a b)
  (fun n=>ob (take' n (drop' off xs)) fun a=>ob (take' n (drop' off c)) fun b=>rec t (.agg a) (.agg b))
def andO(x:Option Bool)(y:Option Bool):Option Bool:=ob x fun b=>ifb b y (some false)
def fieldsEq(rec:TypeId->LV->LV->Option Bool)(xs a:List LV):List Field->Option Bool
 | []=>some true
 | f::fs=>ifb (f.name == "_") (fieldsEq rec xs a fs) (andO (eqPart P rec f.type f.offset xs a) (fieldsEq rec xs a fs))
def arrEq(rec:TypeId->LV->LV->Option Bool)(e:TypeId)(n:Nat)(xs a:List LV):List Nat->Option Bool
 | []=>some true
 | i::is=>andO (eqPart P rec e (i*n) xs a) (arrEq rec e n xs a is)
def bEq(a b:Bool):Bool:=ifb a b (ifb b false true)
def cmpT(t:TypeId):Bool:=match P.info? t with|some i=>i.comparable|none=>false
def eqL:Nat->TypeId->LV->LV->Option Bool
 | 0,_,_,_=>none
 | d+1,t,x,y=>
  match P.underlying t with
  | some .bool=>asBool x fun a=>asBool y fun b=>some (bEq a b)
  | some (.int _)=>asInt x fun k a=>asInt y fun f b=>guard' (kEq k f) (some (ieq a b))
  | some .string=>asStr x fun a=>asStr y fun b=>some (a==b)
  | some (.pointer e)=>(match x,y with | .ptr none,.ptr b=>some b.isNone | .ptr (some _),.ptr none=>some false | .ptr (some (i,a)),.ptr (some (j,b))=>ob (szOf P e) fun n=>guard' (Nat.ble 1 n&&Nat.beq i j) (some (Nat.beq a b))|_,_=>none)
  | some (.slice _)=>(match x,y with | .slice none _ _ _,.slice b _ _ _=>some b.isNone | .slice (some _) _ _ _,.slice none _ _ _=>some false|_,_=>none)
  | some (.map _ _)=>(match x,y with | .map none,.map b=>some b.isNone | .map (some _),.map none=>some false|_,_=>none)
  | some (.func _ _ _)=>(match x,y with | .nilFunc,.nilFunc=>some true | .nilFunc,.func _ _ _=>some false | .func _ _ _,.nilFunc=>some false|_,_=>none)
  | some (.interface _)=>(match x,y with | .iface _ _,.nilIface=>some false | .iface t x,.iface u y=>guard' (Nat.beq t u&&cmpT P t) (eqL d t x y)|_,_=>none)
  | some (.struct fs)=>asAgg x fun xs=>asAgg y fun c=>ifb (P.stoodInHeld t) none (fieldsEq P (eqL d) xs c fs.toList)
  | some (.array len e)=>asAgg x fun xs=>asAgg y fun c=>ob (szOf P e) fun n=>arrEq P (eqL d) e n xs c (List.range len)
  | _=>none
def eqV(t:TypeId)(x y:LV):Option Bool :=
 ifb (ifb (isAggL x) (P.eqGuardType P.depth t) false) none (eqL P Op.maxDepth t x y)
def cmpI(f:Int->Int->Bool)(x y:LV):Option LV:=asInt x fun k a=>asInt y fun c b=>guard' (kEq k c) (mkB (f a b))
def arI(f:IntKind->Int->Int->Option LV)(x y:LV):Option LV:=asInt x fun k a=>asInt y fun c b=>guard' (kEq k c) (f k a b)
def shlI(x y:LV):Option LV:=asInt x fun k a=>asInt y fun _ b=>nat? b fun b=>mkI k (wr k (a*((2^(Nat.min b k.bits):Nat):Int)))
def shrI(x y:LV):Option LV:=asInt x fun k a=>asInt y fun _ b=>nat? b fun b=>mkI k (a.fdiv ((2^(Nat.min b k.bits):Nat):Int))
def addV(x y:LV):Option LV:=ifb (isIntL x) (arI (fun k a b=>mkI k (wr k (a+b))) x y) (asStr x fun a=>asStr y fun b=>guard' (Nat.ble (a.size+b.size) 140737488355328) (some (.str (a++b))))
def eqOp(t:TypeId)(x y:LV):Option LV:=ifb (isIntL x) (cmpI ieq x y)
 (ifb (isStrL x) (asStr x fun a=>asStr y fun b=>mkB (a==b)) (ob (eqV P t x y) mkB))
def neOp(t:TypeId)(x y:LV):Option LV:=ifb (isIntL x) (cmpI (fun a b=>!(ieq a b)) x y)
 (ifb (isStrL x) (asStr x fun a=>asStr y fun b=>mkB (!(a==b))) (ob (eqV P t x y) fun b=>mkB (!b)))
def binL(op:BinOp):TypeId->LV->LV->Option LV:=@BinOp.rec (fun _=>TypeId->LV->LV->Option LV) (fun _=>addV) (fun _=>arI fun k a b=>mkI k (wr k (a-b))) (fun _=>arI fun k a b=>mkI k (wr k (a*b))) (fun _=>arI fun k a b=>ifb (izero b) none (mkI k (wr k (a.tdiv b)))) (fun _=>arI fun k a b=>ifb (izero b) none (mkI k (a.tmod b))) (fun _=>arI bAnd) (fun _=>arI bOr) (fun _=>arI bXor) (fun _=>shlI) (fun _=>shrI) (fun _=>arI bAndNot) (eqOp P) (neOp P) (fun _=>cmpI ilt) (fun _=>cmpI fun a b=>!(ilt b a)) (fun _=>cmpI fun a b=>ilt b a) (fun _=>cmpI fun a b=>!(ilt a b)) op
def unL(op:UnOp):LV->Option LV:=match op with
 | .neg=>fun x=>asInt x fun k n=>mkI k (wr k (0-n))
 | .xor=>fun x=>asInt x fun k n=>bXor k (if k.signed then -1 else k.max) n
 | .not=>fun x=>asBool x fun b=>mkB (!b)
 | _=>fun _=>none
def convL(a dst:TypeId)(x:LV):Option LV :=
 match P.underlying a,P.underlying dst with
 | some _,some (.int k)=>asInt x fun _ n=>mkI k (wr k n)
 | some (.slice _),some .string=>none
 | some _,some .string=>asStr x fun s=>some (.str s)
 | _,_=>none
def apE(e:TypeId):TypeId:=e+1000000
def plainT(t:TypeId):Bool:=Nat.ble (Nat.succ t) 1000000
def fillL(a:Nat->Option (Nat×Nat)):List (Nat×LV)->List LV->Option (List LV)
 | [],cells=>some cells
 | x::rest,cells=>pr x fun i v=>ob (a i) fun p=>pr p fun off size=>
   guard' (Nat.beq v.cells.length size&&Nat.ble 1 size) (guard' (zn v.cells) (ob (z0t cells off v.cells) fun c=>fillL a rest c))
def placesL:List Field->Option (List (Nat×Nat))
 | []=>some []
 | f::fs=>ob (szOf P f.type) fun n=>ob (placesL fs) fun l=>some ((f.offset,n)::l)
def nthP:List (Nat×Nat)->Nat->Option (Nat×Nat)
 | [],_=>none
 | x::xs,n=>nE n (some x) (fun m=>nthP xs m)
def rep(n:Nat)(z:List LV):List LV:=@Nat.rec (fun _=>List LV) [] (fun _ a=>z++a) n
def partPl(t:TypeId):Option (Nat->Option (Nat×Nat)) :=
 match P.underlying t with
 | some (.struct a)=>ob (placesL P a.toList) fun l=>some (nthP l)
 | some (.array _ e)=>ob (szOf P e) fun n=>some fun i=>some (i*n,n)
 | _=>none
def buildL(t:TypeId)(a:List (Nat×LV)):Option LV :=
 ob (zeroL P t) fun z=>ob (partPl P t) fun d=>ob (fillL d a z.cells) fun c=>some (.agg c)
def buildSliceL{α:Type}(t:TypeId)(len:Nat)(a:List (Nat×LV))(m:Mem)(k:LV->Mem->Option α):Option α :=
 ob (z16 P t) fun e=>ob (szOf P e) fun n=>ob (zeroL P e) fun z=>
  guard' (plainT e&&(Nat.ble (len*n) 16777216&&(Nat.ble 1 n&&Nat.beq z.cells.length n))) (ob (fillL (fun i=>some (i*n,n)) a (rep len z.cells)) fun c=>
   m.new (.cells true c e) fun id m=>k (.slice (some (id,0)) len true n) m)
def makeSliceL{α:Type}(t:TypeId)(l c:LV)(m:Mem)(k:LV->Mem->Option α):Option α :=
 ob (z16 P t) fun e=>asInt l fun _ l=>asInt c fun _ c=>nat? l fun l=>nat? c fun c=>
  ob (szOf P e) fun n=>ob (zeroL P e) fun z=>ob (bytesOfT P e) fun a=>
   guard' (plainT e&&Nat.ble l c&&(Nat.ble (a*c) 140737488355328&&(Nat.ble c 4294967296&&(Nat.ble 1 n&&Nat.beq z.cells.length n))))
    (m.new (.cells true (rep l z.cells) e) fun id m=>k (.slice (some (id,0)) l (Nat.beq l c) n) m)
def boundL{α:Type}(x:LV)(a:Nat)(k:Nat->Option α):Option α:=asInt x fun _ i=>nat? i fun n=>guard' (Nat.ble n a) (k n)
def z0d{α:Type}(x:Option LV)(c a:Nat)(k:Nat->Option α):Option α :=
 oe x (k a) (fun v=>boundL v c k)
def sliceSl(n:Nat)(a:Option (Nat×Nat))(len:Nat)(c:Bool)(es:Nat)(lo hi e:Option LV):Option LV :=
 guard' (e.isNone||hi.isSome) (z0d e len len fun m=>z0d hi m len fun h=>z0d lo h 0 fun l=>
  oe a (some (.slice none 0 true 0)) fun p=>pr p fun id off=>
   guard' (Nat.beq es n) (ifb (e.isSome ||(c ||(Nat.ble (l+1) len||Nat.beq l 0)))
    (fN (ifb (Nat.beq m l&&(c||e.isSome)) off (off+l*n)) fun f=>fN (h-l) fun d=>
     some (.slice (some (id,f)) d (ifb e.isSome (Nat.beq h m) (c&&Nat.beq h len)) es))
    (some (.slice (some (id,off)) 0 false 0))))
def sliceL(t:TypeId)(x:LV)(lo hi g:Option LV)(m:Mem):Option LV :=
 match P.underlying t with
 | some (.slice e)=>asSlice x fun a len c o=>ob (szOf P e) fun n=>sliceSl n a len c o lo hi g
 | some (.array len e)=>guard' (g.isNone||hi.isSome) (ob (szOf P e) fun n=>asPtr x fun id off=>atCells m id fun _ j _=>guard' (Nat.ble 1 j.length&&Nat.ble (off+len*n) j.length)
   (z0d g len len fun i=>z0d hi i len fun h=>z0d lo h 0 fun l=>
    fN (ifb (Nat.beq i l) off (off+l*n)) fun f=>fN (h-l) fun d=>some (.slice (some (id,f)) d (Nat.beq h i) n)))
 | some .string=>asStr x fun s=>guard' g.isNone (z0d hi s.size s.size fun h=>z0d lo h 0 fun l=>some (.str (s.extract l h)))
 | _=>none
def idxAt(id off i n len:Nat):Option LV:=guard' (Nat.ble (Nat.succ i) len) (fN (off+i*n) fun o=>some (.ptr (some (id,o))))
def ixK(t:TypeId):Option (Option Nat×Nat) :=
 match P.underlying t with
 | some (.slice e)=>ob (szOf P e) fun n=>some (none,n)
 | some (.array len e)=>ob (szOf P e) fun n=>some (some len,n)
 | _=>none
def indexAddrL(t:TypeId)(x i:LV):Option LV :=
 ob (ixK P t) fun q=>pr q fun len n=>asInt i fun _ i=>nat? i fun i=>
  oe len (asSlice x fun a len _ _=>ob a fun p=>pr p fun id off=>idxAt id off i n len) fun len=>asPtr x fun id off=>idxAt id off i n len
def partL(ag:Bool)(n off:Nat)(cs:List LV):Option LV:=ifb ag (ob (take' n (drop' off cs)) fun l=>some (.agg l)) (nth cs off)
def indexL(t:TypeId)(x i:LV):Option LV :=
 match P.underlying t with
 | some (.array len e)=>asAgg x fun c=>asInt i fun _ i=>nat? i fun i=>ob (szOf P e) fun n=>ob (isAggT P e) fun a=>guard' (Nat.ble (i+1) len) (partL a n (i*n) c)
 | some .string=>asStr x fun s=>asInt i fun _ i=>nat? i fun i=>ob s[i]? fun b=>some (.int .u8 b.toNat)
 | _=>none
def fieldL(t:TypeId)(x:LV)(f:Nat):Option LV :=
 ob (fieldPl P t f) fun p=>pr p fun off q=>pr q fun n a=>asAgg x fun c=>partL a n off c
def fieldAddrL(t:TypeId)(x:LV)(f:Nat):Option LV :=
 ob (fieldPl P t f) fun p=>pr p fun off q=>pr q fun n _=>asPtr x fun id o=>guard' (Nat.ble 1 n) (fN (o+off) fun o=>some (.ptr (some (id,o))))
mutual
def lvEq:LV->LV->Bool
 | .int k a,.int k' b=>kEq k k'&&ieq a b
 | .bool a,.bool b=>bEq a b
 | .str a,.str b=>a==b
 | .ptr none,.ptr none=>true
 | .ptr (some (a,b)),.ptr (some (c,d))=>Nat.beq a c&&Nat.beq b d
 | .slice none n f e,.slice none n' f' e'=>Nat.beq n n'&&(Nat.beq e e'&&bEq f f')
 | .slice (some (a,b)) n f e,.slice (some (c,d)) n' f' e'=>Nat.beq a c&&(Nat.beq b d&&(Nat.beq n n'&&(Nat.beq e e'&&bEq f f')))
 | .map none,.map none=>true
 | .map (some a),.map (some b)=>Nat.beq a b
 | .func f a b,.func f' a' b'=>decide (f=f')&&(lvEqs a a'&&lvEqs b b')
 | .nilFunc,.nilFunc=>true
 | .nilIface,.nilIface=>true
 | .iface t a,.iface u b=>Nat.beq t u&&lvEq a b
 | .agg a,.agg b=>lvEqs a b
 | .tup a,.tup b=>lvEqs a b
 | .unk,.unk=>true
 | _,_=>false
def lvEqs:List LV->List LV->Bool
 | [],[]=>true
 | a::c,b::bs=>lvEq a b&&lvEqs c bs
 | _,_=>false
end
def keyPart(rec:TypeId->LV->Bool)(t:TypeId)(off:Nat)(xs:List LV):Bool :=
 oe (aggSz P t) false fun s=>oe s (oe (nth xs off) false (rec t)) fun n=>oe (take' n (drop' off xs)) false fun a=>rec t (.agg a)
def keyFields(rec:TypeId->LV->Bool)(xs:List LV):List Field->Bool
 | []=>true
 | f::fs=>ifb (f.name == "_") (keyFields rec xs fs) (keyPart P rec f.type f.offset xs&&keyFields rec xs fs)
def keyItems(rec:TypeId->LV->Bool)(e:TypeId)(n:Nat)(xs:List LV):List Nat->Bool
 | []=>true
 | i::is=>keyPart P rec e (i*n) xs&&keyItems rec e n xs is
def someB(x:Option Bool):Bool:=oe x false fun b=>b
def keyOk:Nat->TypeId->LV->Bool
 | 0,_,_=>false
 | d+1,t,v=>match P.underlying t with
  | some .bool|some (.int _)|some .string=>true
  | some (.struct fs)=>someB (asAgg v fun xs=>some (keyFields P (keyOk d) xs fs.toList))
  | some (.array len e)=>someB (asAgg v fun xs=>ob (szOf P e) fun n=>some (keyItems P (keyOk d) e n xs (List.range len)))
  | _=>false
def findL(c:TypeId)(k:LV):List (LV×LV)->Nat->Option (Option (Nat×LV×LV))
 | [],_=>some none
 | x::es,i=>pr x fun a v=>ob (eqL P Op.maxDepth c k a) fun b=>ifb b (some (some (i,a,v))) (findL c k es (i+1))
def setVal:List (LV×LV)->Nat->LV->LV->List (LV×LV)
 | [],_,_,_=>[]
 | x::es,n,k,v=>nE n ((k,v)::es) fun m=>x::setVal es m k v
def entriesOf{α:Type}(m:Mem)(x:LV)(k:List (LV×LV)->Option α):Option α :=
 asMap x fun r=>oe r (k []) fun r=>atMap m r fun a _ _=>k a
def lookupL(t:TypeId)(x k:LV)(ok:Bool)(m:Mem):Option LV :=
 ob (mapTypes P t) fun q=>pr q fun a d=>guard' (keyOk P 10000 a k) (entriesOf m x fun c=>
  ob (findL P a k c 0) fun r=>oe r
   (ob (zeroL P d) fun z=>some (ifb ok (.tup [z,.bool false]) z))
   (fun p=>pr p fun _ q=>pr q fun _ v=>some (ifb ok (.tup [v,.bool true]) v)))
def mapUpdateL(t:TypeId)(x k v:LV)(m:Mem):Option Mem :=
 ob (mapTypes P t) fun q=>pr q fun f _=>guard' (keyOk P 10000 f k) (asMap x fun r=>ob r fun r=>atMap m r fun d e a=>
  ob (findL P f k d 0) fun p=>oe p
   (fN (a+1) fun c=>some (m.upd r (some (.map (d++[(k,v)]) (e++[a]) c))))
   (fun p=>pr p fun i q=>pr q fun g _=>guard' (lvEq k g) (some (m.upd r (some (.map (setVal d i k v) e a))))))
def mkN(n:Nat):Option LV:=fN n fun n=>some (.int .i64 (.ofNat n))
inductive LenK|str|sl|arr (n:Nat)|map
def lenK(t:TypeId):Option LenK :=
 match P.underlying t with
 | some .string=>some .str
 | some (.slice _)=>some .sl
 | some (.array n _)=>some (.arr n)
 | some (.map _ _)=>some .map
 | _=>none
def lenKE{e:Type}(x:LenK)(a b:e)(c:Nat->e)(d:e):e:=@LenK.rec (fun _=>e) a b c d x
def lenL(t:TypeId)(x:LV)(m:Mem):Option LV :=
 ob (lenK P t) fun k=>lenKE k (asStr x fun s=>mkN s.size) (asSlice x fun _ n _ _=>mkN n) mkN (entriesOf m x fun a=>mkN a.length)
def max2L(a b:LV):Option LV:=asInt a fun k x=>asInt b fun _ y=>some (.int k (ifb (ilt x y) y x))
def min2L(a b:LV):Option LV:=asInt a fun k x=>asInt b fun _ y=>some (.int k (ifb (ilt y x) y x))
def foldL(f:LV->LV->Option LV):List LV->LV->Option LV
 | [],x=>some x
 | y::a,x=>ob (f x y) fun z=>foldL f a z
def byteL(b:UInt8):LV:=.int .u8 b.toNat
def zz(size n:Nat)(x:LV)(m:Mem):Option (List LV) :=
 match x with
 | .slice none _ _ _=>guard' (Nat.beq n 0) (some [])
 | .slice (some (id,off)) _ _ _=>ifb (Nat.beq n 0) (some []) (loadN m id off (n*size))
 | .str s=>guard' (Nat.beq size 1&&Nat.ble n s.size) (some ((s.extract 0 n).data.toList.map byteL))
 | _=>none
def z0x:LV->Option Nat | .slice _ n _ _=>some n | .str s=>some s.size|_=>none
def isIntD:TypeDesc->Bool | .int _=>true|_=>false
def killed{α:Type}(e:TypeId)(a:Option (Nat×Nat))(c:Bool)(d:Bool)(m:Mem)(k:Mem->Option α):Option α :=
 oe a (k m) fun p=>pr p fun id _=>
  ifb c (k m) (guard' d (atCells m id fun own _ f=>guard' (own&&(Nat.beq f e||Nat.beq f (apE e))) (k (m.upd id none))))
def appendL{α:Type}(st h:TypeId)(s x:LV)(m:Mem)(k:LV->Mem->Option α):Option α :=
 ob (z16 P st) fun e=>ob (P.underlying h) fun g=>ifb (isIntD g) none (ob (szOf P e) fun sz=>ob (bytesOfT P e) fun c=>
  asSlice s fun a len d f=>ob (z0x x) fun n=>
   ifb (Nat.beq n 0) (k s m)
    (ob (zeroL P e) fun z=>guard' (plainT e&&(Nat.ble ((5*(len+n)/4+2048)*c) 281474976710656&&(Nat.ble 1 sz&&(Nat.ble 1 c&&Nat.beq z.cells.length sz))))
     (ob (zz sz len s m) fun old=>ob (zz sz n x m) fun new=>guard' (zn new) (
      killed e a d (Nat.beq f sz) m fun m=>m.new (.cells true (old++new) (apE e)) fun id m=>fN (len+n) fun l=>k (.slice (some (id,0)) l false sz) m))))
def copyL{α:Type}(f:TypeId)(d x:LV)(m:Mem)(k:LV->Mem->Option α):Option α :=
 ob (z16 P f) fun e=>ob (szOf P e) fun sz=>asSlice d fun a c _ _=>ob (z0x x) fun sl=>
  fN (Nat.min sl c) fun n=>ifb (Nat.beq n 0) (k (.int .i64 (.ofNat n)) m) (ob (zz sz n x m) fun l=>guard' (zn l) (
   oe a (k (.int .i64 (.ofNat n)) m) fun p=>pr p fun id off=>
    ob (storeCs m id off l) fun m=>k (.int .i64 (.ofNat n)) m))
inductive R1 where
 | val (v:LV) (m:Mem)
 | skip (m:Mem)
 | enter (f:FuncId) (args:List LV) (m:Mem)
 | round (l:Nat) (args:List LV) (m:Mem)
 | boom (v:LV) (m:Mem)
def evT(T:Tm)(t:Tmp):Option LV:=tmE T fun _ a=>oe (a.get t) (some .unk) some
def opdE{e:Type}(x:Operand)(a:Tmp->e)(b:Value->e)(c d:Nat->e):e:=@Operand.rec (fun _=>e) a b c d x
def ev(T:Tm)(x:Operand):Option LV:=opdE x (evT T) ofV (fun g=>ifb (Nat.ble (Nat.succ g) 64) (some (.ptr (some (g,0)))) none) (fun f=>some (.func (.func f) [] []))
def evs(T:Tm):List Operand->Option (List LV)
 | []=>some []
 | x::xs=>ob (ev T x) fun v=>ob (evs T xs) fun vs=>some (v::vs)
def evOpt(T:Tm)(x:Option Operand):Option (Option LV):=oe x (some none) fun x=>ob (ev T x) fun v=>some (some v)
def evParts(T:Tm):List (Nat×Operand)->Option (List (Nat×LV))
 | []=>some []
 | x::xs=>pr x fun i x=>ob (ev T x) fun v=>ob (evParts T xs) fun vs=>some ((i,v)::vs)
def rv(m:Mem)(v:LV):Option R1:=some (.val v m)
def rvm(v:LV)(m:Mem):Option R1:=some (.val v m)
def oMove(x:Operand)(T:Tm)(m:Mem):Option R1:=ob (ev T x) (rv m)
def oPick(c a b:Operand)(T:Tm)(m:Mem):Option R1:=ob (ev T c) fun c=>asBool c fun c=>ifb c (ob (ev T a) (rv m)) (ob (ev T b) (rv m))
def newPtr(t:TypeId)(v:LV)(m:Mem):Option R1:=guard' (plainT t) (m.new (.cells true v.cells t) fun id m=>some (.val (.ptr (some (id,0))) m))
def oAlloc(t:TypeId)(_:Tm)(m:Mem):Option R1:=ob (zeroL P t) fun z=>guard' (zn z.cells) (newPtr t z m)
def oBox(t:TypeId)(x:Operand)(T:Tm)(m:Mem):Option R1:=ob (ev T x) fun v=>guard' (zn v.cells) (newPtr t v m)
def oBuild(t:TypeId)(a:Array (Nat×Operand))(T:Tm)(m:Mem):Option R1:=ob (evParts T a.toList) fun a=>ob (buildL P t a) (rv m)
def oBuildSlice(t:TypeId)(n:Nat)(a:Array (Nat×Operand))(T:Tm)(m:Mem):Option R1:=ob (evParts T a.toList) fun a=>buildSliceL P t n a m rvm
def oLoad(t:TypeId)(a:Operand)(T:Tm)(m:Mem):Option R1:=ob (ev T a) fun a=>ob (loadT P t m a) (rv m)
def oStore(t:TypeId)(a x:Operand)(T:Tm)(m:Mem):Option R1:=ob (ev T a) fun a=>ob (ev T x) fun v=>ob (storeT P t m a v) fun m=>some (.skip m)
def nilCheckL(x:LV):Option LV:=match x with
 | .ptr (some a)=>some (.ptr (some a))
 | _=>none
def oNilCheck(x:Operand)(T:Tm)(m:Mem):Option R1:=ob (ev T x) fun v=>ob (nilCheckL v) (rv m)
def isNilC(x:Operand):Bool:=match x with | .const .nilIface=>true|_=>false
def isNilI(v:LV):Bool:=@LV.rec (fun _=>Bool) (fun _=>PUnit) (fun _ _=>false) (fun _=>false) (fun _=>false) (fun _=>false) (fun _ _ _ _=>false) (fun _=>false) (fun _ _ _ _ _=>false) false true (fun _ _=>false) (fun _ _=>false) false (fun _ _ _=>false) PUnit.unit (fun _ _ _ _=>PUnit.unit) v
def nilNil(op:BinOp)(t:TypeId):Option LV:=match P.underlying t,op with
 | some (.interface _),.eql=>some (.bool true)
 | some (.interface _),.neq=>some (.bool false)
 | _,_=>none
def oBin(op:BinOp)(t:TypeId)(x y:Operand)(_:TypeId)(T:Tm)(m:Mem):Option R1:=ob (ev T x) fun a=>ob (ev T y) fun b=>
 ob (ifb (ifb (isNilI a) (ifb (isNilI b) (isNilC y) false) false) (nilNil P op t) (binL P op t a b)) (rv m)
def oUn(op:UnOp)(_:TypeId)(x:Operand)(T:Tm)(m:Mem):Option R1:=ob (ev T x) fun a=>ob (unL op a) (rv m)
def isU8(t:TypeId):Bool:=match P.underlying t with|some (.int .u8)=>true|_=>false
def convK(s d:TypeId):Nat:=match P.underlying s,P.underlying d with
 | some (.slice e),some .string=>if isU8 P e then 1 else 0
 | some (.slice _),some (.slice e)=>if Nat.beq s d&&isU8 P e then 2 else 0
 | _,_=>0
def u8L(v:LV):Option UInt8:=asInt v fun k n=>guard' (kEq k .u8) (nat? n fun n=>some (UInt8.ofNat n))
def bytesL:List LV->Option (List UInt8)
 | []=>some []
 | v::vs=>ob (u8L v) fun b=>ob (bytesL vs) fun bs=>some (b::bs)
def strOf(m:Mem)(a:Option (Nat×Nat))(n:Nat):Option LV :=
 ifb (Nat.beq n 0) (some (.str .empty)) (ob a fun p=>pr p fun id off=>ob (loadN m id off n) fun l=>ob (bytesL l) fun c=>some (.str ⟨⟨c⟩⟩))
def ownAt(m:Mem)(a:Option (Nat×Nat)):Bool:=oe a false fun p=>oe (m.get p.1) false fun b=>lbE b (fun own _ _=>own) (fun _ _ _=>false) (fun _ _ _ _ _ _ _ _=>false) false (fun _ _ _ _=>false) (fun _ _=>false)
def convM(s d:TypeId)(a:LV)(m:Mem):Option LV :=
 nE (convK P s d) (convL P s d a) fun k=>nE k (asSlice a fun p n _ _=>strOf m p n) fun _=>asSlice a fun p n f e=>guard' (ownAt m p&&Nat.ble 1 n) (some (.slice p n f e))
def oConv(s d:TypeId)(x:Operand)(T:Tm)(m:Mem):Option R1:=ob (ev T x) fun a=>ob (convM P s d a m) (rv m)
def z0e(t:TypeId):Bool:=match P.underlying t with|some (.interface _)=>false|some _=>true|none=>false
def oMkIface(t:TypeId)(x:Operand)(T:Tm)(m:Mem):Option R1:=guard' (z0e P t) (ob (ev T x) fun v=>rv m (.iface t v))
def assertL(t:TypeId)(ok:Bool)(v:LV):Option LV :=
 match v with
 | .iface u w=>ifb (Nat.beq u t) (some (ifb ok (.tup [w,.bool true]) w)) (guard' ok (ob (zeroL P t) fun z=>some (.tup [z,.bool false])))
 | .nilIface=>guard' ok (ob (zeroL P t) fun z=>some (.tup [z,.bool false]))
 | _=>none
def oAssert(x:Operand)(_ t:TypeId)(ok:Bool)(T:Tm)(m:Mem):Option R1:=guard' (z0e P t) (ob (ev T x) fun v=>ob (assertL P t ok v) (rv m))
def fnFunc{α:Type}(f:Fn)(k:FuncId->Option α):Option α:=match f with | .func g=>k g|_=>none
def oMakeFunc(fn:Fn)(a b:Array Operand)(T:Tm)(m:Mem):Option R1:=fnFunc fn fun g=>ob (evs T a.toList) fun a=>ob (evs T b.toList) fun b=>some (.val (.func (.func g) a b) m)
def oMakeMap(_:TypeId)(r:Option Operand)(_:Tm)(m:Mem):Option R1:=guard' r.isNone (m.new (.map [] [] 0) fun id m=>some (.val (.map (some id)) m))
def oMakeSlice(t:TypeId)(l c:Operand)(T:Tm)(m:Mem):Option R1:=ob (ev T l) fun l=>ob (ev T c) fun c=>makeSliceL P t l c m rvm
def oSlice(t:TypeId)(x:Operand)(lo hi a:Option Operand)(T:Tm)(m:Mem):Option R1 :=
 ob (ev T x) fun x=>ob (evOpt T lo) fun lo=>ob (evOpt T hi) fun hi=>ob (evOpt T a) fun a=>ob (sliceL P t x lo hi a m) (rv m)
def oFieldAddr(t:TypeId)(x:Operand)(f:Nat)(T:Tm)(m:Mem):Option R1:=ob (ev T x) fun v=>ob (fieldAddrL P t v f) (rv m)
def oField(t:TypeId)(x:Operand)(f:Nat)(T:Tm)(m:Mem):Option R1:=ob (ev T x) fun v=>ob (fieldL P t v f) (rv m)
def oIndexAddr(t:TypeId)(x i:Operand)(T:Tm)(m:Mem):Option R1:=ob (ev T x) fun v=>ob (ev T i) fun i=>ob (indexAddrL P t v i) (rv m)
def oIndex(t:TypeId)(x i:Operand)(T:Tm)(m:Mem):Option R1:=ob (ev T x) fun v=>ob (ev T i) fun i=>ob (indexL P t v i) (rv m)
def oLookup(t:TypeId)(x i:Operand)(ok:Bool)(T:Tm)(m:Mem):Option R1:=ob (ev T x) fun v=>ob (ev T i) fun i=>ob (lookupL P t v i ok m) (rv m)
def oMapUpdate(t:TypeId)(x k v:Operand)(T:Tm)(m:Mem):Option R1:=ob (ev T x) fun x=>ob (ev T k) fun k=>ob (ev T v) fun v=>ob (mapUpdateL P t x k v m) fun m=>some (.skip m)
def oExtract(x:Operand)(i:Nat)(T:Tm)(m:Mem):Option R1:=ob (ev T x) fun v=>asTup v fun vs=>ob (nth vs i) (rv m)
def arg0{α:Type}(l:List α)(k:α->List α->Option R1):Option R1:=lE l none k
def ptrElem(t:TypeId):Option TypeId:=match P.underlying t with|some (.pointer e)=>some e|_=>none
def unsafeStr(e:TypeId)(x:LV)(n:Nat)(m:Mem):Option R1 :=
 ifb (Nat.beq n 0) (match x with | .ptr _=>rv m (.str .empty)|_=>none)
  (ob (ptrElem P e) fun u=>asPtr x fun id off=>atCells m id fun own d a=>
   guard' (own&&((Nat.beq a u&&plainT u||Nat.beq a (apE u))&&(Nat.ble 1 P.depth&&(Nat.beq (P.cellsOf u) 1&&Nat.ble n 9223372036854775807))))
    (ob (take' n (drop' off d)) fun l=>ob (bytesL l) fun c=>some (.val (.str ⟨⟨c⟩⟩) (m.upd id none))))
def cntL(c:Nat):List UInt8->Nat->Nat
 | [],n=>n
 | b::bs,n=>ifb (Nat.beq b.toNat c) (cntL c bs (Nat.succ n)) (cntL c bs n)
def idxL(c:Nat):List UInt8->Nat->Option Nat
 | [],_=>none
 | b::bs,i=>ifb (Nat.beq b.toNat c) (some i) (idxL c bs (Nat.succ i))
def capL(x:LV)(m:Mem):Option R1:=asSlice x fun a _ _ _=>guard' a.isNone (rv m (.int .i64 (.ofNat 0)))
def extL(k:Nat)(e:TypeId)(a:List LV)(m:Mem):Option R1 :=
 arg0 a fun x q=>
  nE k none fun k=>nE k (guard' q.isEmpty (rv m x)) fun k=>
  nE k (arg0 q fun c q=>guard' q.isEmpty (asStr x fun s=>asInt c fun kc c=>guard' (kEq kc .u8) (nat? c fun c=>guard' (Nat.ble c 255) (fN (cntL c s.data.toList 0) fun n=>rv m (.int .i64 (.ofNat n)))))) fun k=>
  nE k (arg0 q fun c q=>guard' q.isEmpty (asStr x fun s=>asInt c fun kc c=>guard' (kEq kc .u8) (nat? c fun c=>guard' (Nat.ble c 255) (oe (idxL c s.data.toList 0) (rv m (.int .i64 (-1))) fun n=>fN n fun n=>rv m (.int .i64 (.ofNat n)))))) fun k=>
  nE k (guard' q.isEmpty (asInt x fun d n=>guard' (kEq d .i64) (nat? n fun n=>guard' (Nat.ble n 140737488355328) (m.new (.cells true [] (apE e)) fun id m=>some (.val (.slice (some (id,0)) n false 1) m))))) fun _=>
  guard' q.isEmpty (capL x m)
def extName(s:String):Nat :=
 if s == "internal/abi.NoEscape" then 1 else if s == "internal/bytealg.CountString" then 2 else if s == "internal/bytealg.IndexByteString" then 3 else if s == "internal/bytealg.MakeNoZero" then 4 else 0
def extRow(fn:Func):Option TypeId:=ob fn.resultTypes[0]? fun t=>z16 P t
def extE(f:FuncId):TypeId:=oe P.funcs[f]? 0 fun fn=>oe (extRow P fn) 0 fun e=>e
def extK(f:FuncId):Nat:=oe P.funcs[f]? 0 fun fn=>ifb fn.body.isNone (ifb (Extern.findNext fn).isNone (nE (extName fn.name) 0 fun k=>ifb (Nat.beq k 3) (ifb (oe (extRow P fn) false fun e=>isU8 P e&&plainT e) 4 0) (Nat.succ k)) 0) 0
def extKO(f:Operand):Nat:=match f with | .func g=>extK P g|_=>0
def extEO(f:Operand):TypeId:=match f with | .func g=>extE P g|_=>0
def isSlT(t:TypeId):Bool:=match P.underlying t with|some (.slice _)=>true|_=>false
def callB(b:Builtin)(c:List TypeId)(args:List LV)(m:Mem):Option R1 :=
 match b with
 | .append=>arg0 c fun st c=>arg0 c fun i _=>arg0 args fun s e=>arg0 e fun x q=>guard' q.isEmpty (appendL P st i s x m rvm)
 | .copy=>arg0 c fun g _=>arg0 args fun d e=>arg0 e fun x q=>guard' q.isEmpty (copyL P g d x m rvm)
 | .len=>arg0 c fun t _=>arg0 args fun x _=>ob (lenL P t x m) (rv m)
 | .cap=>arg0 c fun t _=>guard' (isSlT P t) (extL 5 0 args m)
 | .max=>arg0 args fun x f=>ob (foldL max2L f x) (rv m)
 | .min=>arg0 args fun x f=>ob (foldL min2L f x) (rv m)
 | .unsafeSliceData=>arg0 args fun x q=>guard' q.isEmpty (asSlice x fun a n _ _=>oe a (rv m (.ptr none)) fun p=>guard' (Nat.ble 1 n) (rv m (.ptr (some p))))
 | .unsafeString=>arg0 c fun h _=>arg0 args fun x e=>arg0 e fun n q=>guard' q.isEmpty (asInt n fun _ n=>nat? n fun n=>unsafeStr P h x n m)
 | _=>none
def callV(f:LV)(args:List LV)(m:Mem):Option R1 :=
 match f with
 | .func (.func g) fi a=>some (.enter g (fi++args++a) m)
 | .func (.yield l) [] []=>some (.round l args m)
 | _=>none
def callE{a:Type}(x:Call)(k:Callee->Array Operand->Array TypeId->a):a:=@Call.rec (fun _=>a) k x
def calleeE{d:Type}(x:Callee)(a:Operand->d)(b:Operand->String->d)(c:Builtin->d):d:=@Callee.rec (fun _=>d) a b c x
def pathL:List FieldStep->TypeId->LV->Option (TypeId×LV)
 | [],t,v=>some (t,v)
 | s::r,_,v=>guard' (!s.deref) (ob (fieldOf P s.struct s.index) fun f=>ob (fieldL P s.struct v s.index) fun v=>pathL r f.type v)
def notPtr(t:TypeId):Bool:=match P.underlying t with|some (.pointer _)=>false|some _=>true|none=>false
def methOf(t:TypeId)(name:String):Option (FuncId×List FieldStep) :=
 ob (P.info? t) fun i=>ob (i.methods.find? (fun a=>a.name==name)) fun a=>(match a.func with|some (g,false)=>some (g,a.path.toList)|_=>none)
def oInvoke(r:Operand)(name:String)(args:List LV)(T:Tm)(m:Mem):Option R1 :=
 ob (ev T r) fun r=>asIface r fun t v=>ob (methOf P t name) fun p=>pr p fun g a=>ob (pathL P a t v) fun q=>pr q fun c x=>guard' (notPtr P c) (some (.enter g (x::args) m))
def oCall(c:Call)(T:Tm)(m:Mem):Option R1 :=
 callE c fun d a e=>ob (evs T a.toList) fun a=>
  calleeE d (fun f=>nE (extKO P f) (ob (ev T f) fun f=>callV f a m) fun k=>extL (Nat.succ k) (extEO P f) a m) (fun r n=>oInvoke P r n a T m) (fun b=>callB P b e.toList a m)
def op1(o:Op):Tm->Mem->Option R1:=@Op.rec (fun _=>Tm->Mem->Option R1) (oMove) (oMove) (oPick) (oAlloc P) (oBox) (oBuild P) (oBuildSlice P) (oMapUpdate P) (oLoad P) (oStore P) (fun _ _ _=>none) (fun _ _ _=>none) (oNilCheck) (oBin P) (oUn) (oConv P) (fun _ _ _ _=>none) (oMkIface P) (oMakeFunc) (oMakeMap) (fun _ _ _ _=>none) (oMakeSlice P) (oSlice P) (oFieldAddr P) (oField P) (oIndexAddr P) (oIndex P) (oLookup P) (oMapUpdate P) (fun _ _ _ _ _=>none) (fun _ _ _ _ _ _=>none) (fun _ _ _ _=>none) (fun _ _ _ _=>none) (fun _ _ _=>none) (oAssert P) (oExtract) (oCall P) (fun _ _ _=>none) (fun _ _ _=>none) (fun _ _ _=>none) (fun _ _ _ _=>none) (fun _ _ _ _ _=>none) (fun _ _ _ _=>none) o
inductive Ex where
 | norm|ret|exit (id:Nat)
inductive Dfr where
 | mark (d:Nat)
 | call (f:FuncId) (args:List LV)
inductive Task where
 | code (fn:FuncId) (round:Option Nat) (c:Code) (tm:Tm) (marks:List Dfr) (mem:Mem)
 | call (f:FuncId) (args:List LV) (m:Mem)
 | round (l:Nat) (args:List LV) (m:Mem)
inductive Out where
 | code (e:Ex) (tm:Tm) (marks:List Dfr) (mem:Mem)
 | call (v:LV) (m:Mem)
 | boom (v:LV) (tm:Tm) (marks:List Dfr) (mem:Mem)
 | die (v:LV) (m:Mem)
def outE{a:Type}(r:Out)(k:Ex->Tm->List Dfr->Mem->a)(c:LV->Mem->a)(b:LV->Tm->List Dfr->Mem->a)(d:LV->Mem->a):a:=@Out.rec (fun _=>a) k c b d r
def exE{d:Type}(e:Ex)(a b:d)(c:Nat->d):d:=@Ex.rec (fun _=>d) a b c e
def z11(r:Option Out)(k:Ex->Tm->List Dfr->Mem->Option Out):Option Out:=ob r fun r=>outE r k (fun _ _=>none) (fun v T a m=>some (.boom v T a m)) (fun _ _=>none)
def z1k{α:Type}(r:Option Out)(k:Ex->Tm->List Dfr->Mem->Option α)(b:LV->Tm->List Dfr->Mem->Option α):Option α:=ob r fun r=>outE r k (fun _ _=>none) b (fun _ _=>none)
def z1v{α:Type}(r:Option Out)(k:LV->Mem->Option α):Option α:=ob r fun r=>outE r (fun _ _ _ _=>none) k (fun _ _ _ _=>none) (fun _ _=>none)
def z15{α:Type}(r:Option Out)(k:LV->Mem->Option α)(d:LV->Mem->Option α):Option α:=ob r fun r=>outE r (fun _ _ _ _=>none) k (fun _ _ _ _=>none) d
def isBoolAs(a:Bool)(v:LV):Option Bool:=match v with | .bool b=>some (bEq b a) | .tup []=>some false|_=>none
def wanted(ops:List Oper)(T:Tm)(g:Option (Nat×Bool)):Option Bool :=
 oe g (some true) fun p=>pr p fun j a=>oe ((ops[j]?).bind (·.dst)) (some false) fun d=>ob (evT T d) (isBoolAs a)
abbrev Kt:=Tm->Mem->Option Out
def r1E{f:Type}(r:R1)(a:LV->Mem->f)(b:Mem->f)(c:FuncId->List LV->Mem->f)(d:Nat->List LV->Mem->f)(e:LV->Mem->f):f:=@R1.rec (fun _=>f) a b c d e r
def operE{c:Type}(o:Oper)(k:Option Tmp->Op->Option (Nat×Bool)->c):c:=@Oper.rec (fun _=>c) (fun a b _ _ _ g=>k a b g) o
def opFin(rec:Task->Option Out)(T:Tm)(dst:Option Tmp)(r:R1){α:Type}(k:Tm->Mem->Option α):Option α :=
 r1E r
  (fun v m=>ob (T.put dst v) fun T=>k T m)
  (fun m=>ob (T.put dst z00) fun T=>k T m)
  (fun f a m=>z1v (rec (.call f a m)) fun v m=>ob (T.put dst v) fun T=>k T m)
  (fun l a m=>z1v (rec (.round l a m)) fun v m=>ob (T.put dst v) fun T=>k T m)
  (fun _ _=>none)
def opFull(rec:Task->Option Out)(T:Tm)(m:Mem)(op:Op)(dst:Option Tmp){α:Type}(k:Tm->Mem->Option α):Option α :=
 ob (op1 P op T m) fun r=>opFin rec T dst r k
def oConvU(s d:TypeId)(x:Operand)(T:Tm)(m:Mem):Option R1 :=
 match P.underlying s,P.underlying d with
 | some (.pointer t),some .unsafePointer=>ob (ev T x) fun v=>asPtr v fun id off=>atCells m id fun _ a _=>ob (szOf P t) fun n=>guard' (Nat.ble 1 n&&Nat.ble (Nat.succ off) a.length) (rv m v)
 | some .unsafePointer,some (.pointer u)=>ob (ev T x) fun v=>asPtr v fun id off=>atCells m id fun own a c=>ob (szOf P u) fun n=>
   guard' (own&&(Nat.beq c u&&(plainT u&&(Nat.beq off 0&&(Nat.beq (P.cellsOf u) n&&(Nat.ble 1 n&&Nat.ble n a.length)))))) (rv m v)
 | some (.string),some (.slice e)=>guard' (isU8 P e&&plainT e) (ob (ev T x) fun v=>asStr v fun s=>m.new (.cells true (s.data.toList.map byteL) (apE e)) fun id m=>fN s.size fun n=>some (.val (.slice (some (id,0)) n false 1) m))
 | _,_=>none
def oPanic(x:Operand)(T:Tm)(m:Mem):Option R1:=ob (ev T x) fun v=>asIface v fun _ _=>some (.boom v m)
def oRange(t:TypeId)(x:Operand)(T:Tm)(m:Mem):Option R1 :=
 match P.underlying t with
 | some (.map _ _)=>ob (ev T x) fun v=>asMap v fun r=>oe r
   (m.new (.iter none 0 [] 0) fun id m=>some (.val (.ptr (some (id,0))) m))
   (fun r=>atMap m r fun _ _ a=>m.new (.iter (some r) a [] a) fun id m=>some (.val (.ptr (some (id,0))) m))
 | some .string=>ob (ev T x) fun v=>asStr v fun s=>m.new (.siter s 0) fun id m=>some (.val (.ptr (some (id,0))) m)
 | _=>none
def memN(n:Nat):List Nat->Bool
 | []=>false
 | x::xs=>ifb (Nat.beq n x) true (memN n xs)
def leftL(seen:List Nat):List Nat->List (LV×LV)->List (Nat×LV×LV)
 | b::bs,e::es=>ifb (memN b seen) (leftL seen bs es) ((b,e)::leftL seen bs es)
 | _,_=>[]
def stampL(n:Nat):List Nat->List (LV×LV)->Option (LV×LV)
 | b::bs,e::es=>ifb (Nat.beq b n) (some e) (stampL n bs es)
 | _,_=>none
def anyLt(n:Nat):List Nat->Bool
 | []=>false
 | x::xs=>ifb (Nat.ble (Nat.succ x) n) true (anyLt n xs)
def allLt(n:Nat):List Nat->Bool
 | []=>true
 | x::xs=>ifb (Nat.ble (Nat.succ x) n) (allLt n xs) false
def overL:LV:=.tup [.bool false]
def oNextS(x:Operand)(T:Tm)(m:Mem):Option R1 :=
 ob (ev T x) fun v=>asPtr v fun id off=>guard' (Nat.beq off 0) (atSIter m id fun s a=>ifb (Nat.ble (Nat.succ a) s.size)
  (pr (Utf8.decode s a) fun c e=>fN c fun c=>fN (a+e) fun d=>some (.val (.tup [.bool true,.int .i64 (.ofNat a),.int .i32 (.ofNat c)]) (m.upd id (some (.siter s d)))))
  (rv m overL))
def oNext(x:Operand)(d:Bool)(T:Tm)(m:Mem):Option R1 :=
 ifb d (oNextS x T m) (ob (ev T x) fun v=>asPtr v fun id off=>guard' (Nat.beq off 0) (atIter m id fun i c a e=>oe i (rv m overL) fun r=>
  atMap m r fun h f g=>guard' (Nat.beq f.length h.length&&(allLt c f&&(a.isEmpty ||(h.isEmpty||anyLt e f)))) (
   match leftL a f h with
   | []=>rv m overL
   | [(b,k,v)]=>some (.val (.tup [.bool true,k,v]) (m.upd id (some (.iter (some r) c (a++[b]) g))))
   | _=>none)))
def oEntry(x:Operand)(T:Tm)(m:Mem):Option R1 :=
 ob (ev T x) fun v=>asPtr v fun id off=>guard' (Nat.beq off 0) (atIter m id fun f _ c a=>ob f fun r=>ob c.getLast? fun b=>
  atMap m r fun h g d=>guard' (Nat.beq g.length h.length&&Nat.beq d a) (ob (stampL b g h) fun e=>rv m (.tup [e.1,e.2])))
def oMapEntry(t:TypeId)(x k:Operand)(T:Tm)(m:Mem):Option R1 :=
 ob (mapTypes P t) fun q=>pr q fun f g=>ob (ev T x) fun x=>ob (ev T k) fun k=>guard' (keyOk P 10000 f k) (asMap x fun r=>ob r fun r=>atMap m r fun e d a=>guard' (Nat.beq d.length e.length) (
  ob (findL P f k e 0) fun p=>oe p
   (ob (zeroL P g) fun z=>fN (a+1) fun c=>some (.val (.tup [z,.int .i64 a]) (m.upd r (some (.map (e++[(k,z)]) (d++[a]) c)))))
   (fun p=>pr p fun i q=>pr q fun h v=>guard' (lvEq k h) (ob d[i]? fun b=>some (.val (.tup [v,.int .i64 b]) (m.upd r (some (.map e d a))))))))
def setStamp(n:Nat)(v:LV):List Nat->List (LV×LV)->Option (List (LV×LV))
 | b::bs,e::es=>ifb (Nat.beq b n) (some ((e.1,v)::es)) (ob (setStamp n v bs es) fun l=>some (e::l))
 | _,_=>none
def oEntryStore(x st v:Operand)(T:Tm)(m:Mem):Option R1 :=
 ob (ev T x) fun x=>ob (ev T st) fun st=>ob (ev T v) fun v=>asMap x fun r=>ob r fun r=>asInt st fun _ n=>nat? n fun n=>atMap m r fun a c d=>guard' (Nat.beq c.length a.length) (
  ob (setStamp n v c a) fun a=>some (.skip (m.upd r (some (.map a c d)))))
def dropAt{α:Type}:List α->Nat->List α
 | [],_=>[]
 | x::xs,n=>nE n xs fun m=>x::dropAt xs m
def oDelete(t:TypeId)(x k:Operand)(T:Tm)(m:Mem):Option R1 :=
 ob (mapTypes P t) fun q=>pr q fun e _=>ob (ev T x) fun x=>ob (ev T k) fun k=>guard' (keyOk P 10000 e k) (asMap x fun r=>ob r fun r=>atMap m r fun c d a=>guard' (Nat.beq d.length c.length) (
  ob (findL P e k c 0) fun p=>oe p
   (some (.val (.tup []) (m.upd r (some (.map c d a)))))
   (fun p=>pr p fun i _=>some (.val (.tup []) (m.upd r (some (.map (dropAt c i) (dropAt d i) a)))))))
def oDel(c:Call)(T:Tm)(m:Mem):Option R1 :=
 match c with
 |⟨.builtin .delete,a,d⟩=>(match a.toList,d.toList with | [x,k],t::_=>oDelete P t x k T m|_,_=>none)
 | _=>none
def opX(o:Op)(T:Tm)(m:Mem):Option R1 :=
 match o with
 | .call c=>oDel P c T m
 | .convert s d x=>oConvU P s d x T m
 | .panic x=>oPanic x T m
 | .range t x=>oRange P t x T m
 | .next x b=>oNext x b T m
 | .entry x=>oEntry x T m
 | .mapEntry t x k=>oMapEntry P t x k T m
 | .entryStore _ x st v=>oEntryStore x st v T m
 | _=>none
def opA(o:Op)(T:Tm)(m:Mem):Option R1:=oe (op1 P o T m) (opX P o T m) some
def dfrOf(c:Call)(T:Tm):Option Dfr :=
 match c.callee with
 | .value f=>ob (ev T f) fun f=>ob (evs T c.args.toList) fun a=>(match f with | .func (.func g) fi d=>some (.call g (fi++a++d))|_=>none)
 | _=>none
def isDefer(o:Op):Option Call:=match o with | .defer c=>some c|_=>none
variable (ro:Option Nat) in
def z0c(rec:Task->Option Out)(all:List Oper):List Oper->Tm->List Dfr->Mem->Option Out
 | [],T,ms,m=>some (.code .norm T ms m)
 | o::a,T,ms,m=>
  operE o fun dst op g=>
   ob (wanted all T g) fun e=>ifb e
    (oe (isDefer op)
     (ob (opA P op T m) fun r=>r1E r
      (fun v m=>ob (T.put dst v) fun T=>z0c rec all a T ms m)
      (fun m=>ob (T.put dst z00) fun T=>z0c rec all a T ms m)
      (fun f args m=>z15 (rec (.call f args m)) (fun v m=>ob (T.put dst v) fun T=>z0c rec all a T ms m) fun v m=>some (.boom v T ms m))
      (fun l args m=>z15 (rec (.round l args m)) (fun v m=>ob (T.put dst v) fun T=>z0c rec all a T ms m) fun v m=>some (.boom v T ms m))
      (fun v m=>some (.boom v T ms m)))
     fun c=>guard' ro.isNone (ob (dfrOf c T) fun d=>ob (T.put dst z00) fun T=>z0c rec all a T (d::ms) m))
    (ob (T.put dst z00) fun T=>z0c rec all a T ms m)
inductive Cls where|mover|new|anchor|calm
def calleeFn(c:Call):Option FuncId:=match c.callee with | .value (.func f)=>some f|_=>none
def z0o:Op->Bool
 | .load _ _ | .lookup _ _ _ _ | .convert _ _ _ | .slice _ _ _ _ _=>true
 | .call _=>true
 | _=>false
def cls0:Op->Cls
 | .alloc _ | .box _ _ | .buildSlice _ _ _ | .makeMap _ _ | .makeSlice _ _ _=>.new
 | .store _ _ _ | .mapUpdate _ _ _ _ | .insert _ _ _ _=>.anchor
 | .call c=>(match c.callee with | .builtin .len | .builtin .max | .builtin .min=>.mover|_=>.anchor)
 | _=>.mover
def onlyX:Op->Bool
 | .panic _ | .range _ _ | .next _ _ | .entry _ | .mapEntry _ _ _ | .entryStore _ _ _ _ | .defer _=>true
 | _=>false
def pureOp(call:FuncId->Bool)(o:Op):Bool:=match o with
 | .call c=>(match c.callee with | .builtin .max | .builtin .min=>true|_=>oe (calleeFn c) false call)
 | o=>(match cls0 o with | .mover=>!(z0o o) && !(onlyX o)|_=>false)
def pureOps(call:FuncId->Bool):List Oper->Bool
 | []=>true
 | o::a=>ifb (pureOp call o.op) (pureOps call a) false
def z0r(call:FuncId->Bool):Code->Bool
 | .skip | .label _ | .ret | .exit _=>true
 | .seq a b=>ifb (z0r call a) (z0r call b) false
 | .cond _ a b=>ifb (z0r call a) (z0r call b) false
 | .block _ b=>z0r call b
 | .loop b=>z0r call b
 | .scope b=>z0r call b
 | .region _ ops c=>ifb c false (pureOps call ops.toList)
 | _=>false
def pureRes:List ResultVar->Bool
 | []=>true
 | r::a=>(match r with | .tmp _=>pureRes a|_=>false)
def fnOf(f:FuncId):Option Func :=
 ob P.funcs[f]? fun fn=>guard' fn.body.isSome (guard' (!(fn.name == "runtime.NumGoroutine")) (some fn))
def z1i:Nat->FuncId->Bool
 | 0,_=>false
 | d+1,f=>oe (fnOf P f) false fun fn=>oe fn.body false fun c=>ifb (z0r (z1i d) c) (pureRes fn.results.toList) false
def cls:Op->Cls
 | .alloc _ | .box _ _ | .buildSlice _ _ _ | .makeMap _ _ | .makeSlice _ _ _=>.new
 | .store _ _ _ | .mapUpdate _ _ _ _ | .insert _ _ _ _=>.anchor
 | .call c=>(match c.callee with | .builtin .len | .builtin .max | .builtin .min=>.mover|_=>oe (calleeFn c) .anchor fun f=>ifb (z1i P 3 f) .calm .anchor)
 | _=>.mover
def zf(o:Op):Bool:=match cls P o with | .anchor=>true|_=>false
def isNew(o:Op):Bool:=match cls P o with | .new=>true|_=>false
def opTmps(o:Op):List Tmp:=o.operands.toList.filterMap fun | .tmp t=>some t|_=>none
def deps(ops:Array Oper):List Nat:=(Region.before ops).toList
def z0s(a:Nat):List Oper->Nat->Nat
 | [],_=>0
 | o::c,i=>(ifb (zf P o.op&&Nat.testBit a i) 1 0)+z0s a c (i+1)
def z07(m:Nat):List Oper->List Nat->Nat
 | o::a,d::ds=>(ifb (zf P o.op && !(Nat.testBit d m)) 1 0)+z07 m a ds
 | _,_=>0
structure Pend where
 op:Op
 T:Tm
 v:LV
 lo:Nat
 hi:Nat
def z1t(p:Pend)(m:Mem):Bool :=
 match op1 P p.op p.T m with|some (.val v _)=>lvEq v p.v|_=>false
def pendAt(p:Pend):List Mem->Nat->Bool
 | [],_=>true
 | m::ms,k=>ifb (Nat.ble p.lo k&&Nat.ble k p.hi) (z1t P p m) true&&pendAt p ms (k-1)
def z0q(st:List Mem)(k:Nat):List Pend->Bool
 | []=>true
 | p::a=>pendAt P p st k&&z0q st k a
structure DS where
 T:Tm
 m:Mem
 st:List Mem
 k:Nat
 ps:List Pend
def dsE{a:Type}(d:DS)(k:Tm->Mem->List Mem->Nat->List Pend->a):a:=@DS.rec (fun _=>a) k d
def dstV(T:Tm)(d:Option Tmp):LV:=match d with|some d=>T.get d|none=>z00
def z04(rec:Task->Option Out)(all:List Oper)(ds:List Nat):List Oper->Nat->DS->Option DS
 | [],_,s=>some s
 | o::c,i,⟨T,m,st,k,a⟩=>
  ob (wanted all T o.guard) fun e=>ifb e
   (opFull P rec T m o.op o.dst fun T' d=>
     match cls P o.op with
     | .mover=>z04 rec all ds c (i+1) ⟨T',d,st,k,ifb (z0o o.op) ({ op:=o.op,T:=T,v:=dstV T' o.dst,lo:=z0s P (ds.getD i 0) all 0,hi:=z07 P i all ds }::a) a⟩
     | .new=>z04 rec all ds c (i+1) ⟨T',d,st,k,a⟩
     | .calm=>z04 rec all ds c (i+1) ⟨T',d,st,k,a⟩
     | .anchor=>z04 rec all ds c (i+1) ⟨T',d,d::st,k+1,a⟩)
   (ob (T.put o.dst z00) fun T'=>match cls P o.op with
    | .anchor=>z04 rec all ds c (i+1) ⟨T',m,m::st,k+1,a⟩
    | _=>z04 rec all ds c (i+1) ⟨T',m,st,k,a⟩)
def z0k(rec:Task->Option Out)(all:List Oper)(ds:List Nat)(a:Nat):List Oper->Nat->DS->Option DS
 | [],_,s=>some s
 | o::d,i,⟨T,m,st,k,c⟩=>
  ifb (Nat.testBit (ds.getD i 0) a)
   (ob (T.put o.dst .unk) fun T'=>match cls P o.op with
    | .anchor=>z0k rec all ds a d (i+1) ⟨T',m,m::st,k+1,c⟩
    | _=>z0k rec all ds a d (i+1) ⟨T',m,st,k,c⟩)
   (ob (wanted all T o.guard) fun f=>ifb f
    (opFull P rec T m o.op o.dst fun T' e=>
      match cls P o.op with
      | .mover=>z0k rec all ds a d (i+1) ⟨T',e,st,k,ifb (z0o o.op) ({ op:=o.op,T:=T,v:=dstV T' o.dst,lo:=z0s P (ds.getD i 0) all 0,hi:=z07 P i all ds }::c) c⟩
      | .new=>z0k rec all ds a d (i+1) ⟨T',e,st,k,c⟩
      | .calm=>z0k rec all ds a d (i+1) ⟨T',e,st,k,c⟩
      | .anchor=>none)
    (ob (T.put o.dst z00) fun T'=>match cls P o.op with
     | .anchor=>none
     | _=>z0k rec all ds a d (i+1) ⟨T',m,st,k,c⟩))
def z0a(rec:Task->Option Out)(all:List Oper)(ds:List Nat):List Oper->Nat->DS->Option (LV×Mem×DS)
 | [],_,_=>none
 | o::c,i,⟨T,m,st,k,a⟩=>
  ob (wanted all T o.guard) fun j=>ifb j
   (ob (op1 P o.op T m) fun r=>
    let go:=fun(T':Tm) (e:Mem)=>match cls P o.op with
     | .mover=>z0a rec all ds c (i+1) ⟨T',e,st,k,ifb (z0o o.op) ({ op:=o.op,T:=T,v:=dstV T' o.dst,lo:=z0s P (ds.getD i 0) all 0,hi:=z07 P i all ds }::a) a⟩
     | .new=>z0a rec all ds c (i+1) ⟨T',e,st,k,a⟩
     | .calm=>z0a rec all ds c (i+1) ⟨T',e,st,k,a⟩
     | .anchor=>z0a rec all ds c (i+1) ⟨T',e,e::st,k+1,a⟩
    r1E r (fun v m=>ob (T.put o.dst v) fun T=>go T m) (fun m=>ob (T.put o.dst z00) fun T=>go T m)
     (fun f args g=>z15 (rec (.call f args g)) (fun v m=>ob (T.put o.dst v) fun T=>go T m) fun v h=>
      guard' (zf P o.op) (ob (T.put o.dst .unk) fun T'=>ob (z0k P rec all ds i c (i+1) ⟨T',⟨h.next,m.tr⟩,⟨h.next,m.tr⟩::st,k+1,a⟩) fun d=>some (v,h,d)))
     (fun l args g=>z1v (rec (.round l args g)) fun v m=>ob (T.put o.dst v) fun T=>go T m)
     (fun _ _=>none))
   (ob (T.put o.dst z00) fun T'=>match cls P o.op with
    | .anchor=>z0a rec all ds c (i+1) ⟨T',m,m::st,k+1,a⟩
    | _=>z0a rec all ds c (i+1) ⟨T',m,st,k,a⟩)
def dstsOk:List Oper->List Nat->Bool
 | [],_=>true
 | o::a,seen=>match o.dst with
  | some d=>!(seen.contains d)&&dstsOk a (d::seen)
  | none=>dstsOk a seen
def looks(ops:List Oper)(o:Oper):List Tmp :=
 opTmps o.op ++(match o.guard with|some (j,_)=>(match (ops[j]?).bind (·.dst) with|some d=>[d]|none=>[])|none=>[])
def pairOk(ds:List Nat)(a:List Tmp)(i j:Nat)(c:Oper):Bool :=
 match c.dst with
 | none=>true
 | some d=>!(a.contains d) ||(ifb (Nat.beq i j) false (ifb (Nat.blt j i) (Nat.testBit (ds.getD i 0) j) (Nat.testBit (ds.getD j 0) i)))
def rowOk(ds:List Nat)(i:Nat)(a:List Tmp):List Oper->Nat->Bool
 | [],_=>true
 | o::c,j=>pairOk ds a i j o&&rowOk ds i a c (j+1)
def pairsOk(ops:List Oper)(ds:List Nat):List Oper->Nat->Bool
 | [],_=>true
 | o::a,i=>rowOk ds i (looks ops o) ops 0&&pairsOk ops ds a (i+1)
def anchorOk(a:Nat):List Oper->Nat->Nat->Bool
 | o::c,i,n+1=>ifb (zf P o.op||isNew P o.op) (Nat.testBit a i) true&&anchorOk a c (i+1) n
 | _,_,_=>true
def anchorsOk(ops:List Oper)(ds:List Nat):List Oper->Nat->Bool
 | [],_=>true
 | o::a,i=>ifb (zf P o.op) (anchorOk P (ds.getD i 0) ops 0 i) true&&anchorsOk ops ds a (i+1)
def edgesOk:List Oper->Nat->Bool
 | [],_=>true
 | o::a,i=>o.after.toList.all (fun e=>!Region.binds .any e||Nat.blt e.on i)&&edgesOk a (i+1)
def regionOk(ops:Array Oper):Bool :=
 let l:=ops.toList
 let a:=deps ops
 dstsOk l []&&(pairsOk l a l 0&&(anchorsOk P l a l 0&&edgesOk l 0))
def posIn:List Nat->Nat->Nat
 | [],_=>0
 | x::xs,n=>ifb (Nat.beq x n) 0 (Nat.succ (posIn xs n))
def hasN(n:Nat):List Nat->Bool
 | []=>false
 | x::xs=>ifb (Nat.beq n x) true (hasN n xs)
def maskL(a:Nat)(c:List Nat):Nat->Nat->List Nat
 | 0,_=>[]
 | n+1,i=>ifb (Nat.testBit a i && !(hasN i c)) (i::maskL a c n (i+1)) (maskL a c n (i+1))
def ordGo(n:Nat):List Oper->List Nat->Nat->List Nat->List Nat
 | o::c,d::ds,i,a=>ordGo n c ds (i+1) (ifb (zf P o.op) (ifb (hasN i a) a (a++maskL d a i 0++[i])) a)
 | _,_,_,a=>a
def orderOf(ops:Array Oper):List Nat :=
 let l:=ordGo P ops.size ops.toList (deps ops) 0 []
 l++maskL (2^ops.size-1) l ops.size 0
def renE(a:List Nat)(e:Edge):Edge:=⟨posIn a e.on,e.ground⟩
def renG(a:List Nat)(g:Option (Nat×Bool)):Option (Nat×Bool):=match g with|some (j,w)=>some (posIn a j,w)|none=>none
def renO(a:List Nat)(o:Oper):Oper:=⟨o.dst,o.op,o.type,o.pos,⟨o.after.toList.map (renE a)⟩,renG a o.guard⟩
def permL(a:List Nat)(l:List Oper):List Nat->List Oper
 | []=>[]
 | i::is=>oe l[i]? (permL a l is) fun o=>renO a o::permL a l is
def permR(ops:Array Oper)(a:List Nat):Array Oper:=⟨permL a ops.toList a⟩
def sigOk(n:Nat)(a:List Nat):Bool :=
 Nat.beq a.length n&&((List.range n).all (fun k=>oe a[k]? false fun i=>Nat.ble (Nat.succ i) n&&Nat.beq (posIn a i) k)&&(List.range n).all (fun i=>oe a[posIn a i]? false fun j=>Nat.beq j i))
def rvE{c:Type}(r:ResultVar)(a:Tmp->c)(b:Tmp->TypeId->c):c:=@ResultVar.rec (fun _=>c) a b r
def resultOf(T:Tm)(m:Mem)(r:ResultVar):Option LV:=rvE r (evT T) (fun a t=>ob (evT T a) fun a=>loadT P t m a)
def z0p(T:Tm)(m:Mem):List ResultVar->Option (List LV)
 | []=>some []
 | r::a=>ob (resultOf P T m r) fun v=>ob (z0p T m a) fun vs=>some (v::vs)
def packed:List LV->LV | [v]=>v|vs=>.tup vs
def exToCode:Ex->Option Code | .norm=>none | .ret=>some .ret | .exit id=>some (.exit id)
section code
variable (rec:Task->Option Out) (fn:FuncId) (ro:Option Nat)
abbrev Kc:=Tm->List Dfr->Mem->Option Out
def cSkip(T:Tm)(ms:List Dfr)(m:Mem):Option Out:=some (.code .norm T ms m)
def cRet(T:Tm)(ms:List Dfr)(m:Mem):Option Out:=some (.code .ret T ms m)
def cExit(id:Nat)(T:Tm)(ms:List Dfr)(m:Mem):Option Out:=some (.code (.exit id) T ms m)
def cSeq(a b:Code)(T:Tm)(ms:List Dfr)(m:Mem):Option Out :=
 z11 (rec (.code fn ro a T ms m)) fun e T ms m=>exE e (rec (.code fn ro b T ms m)) (some (.code .ret T ms m)) (fun id=>some (.code (.exit id) T ms m))
def cCond(x:Operand)(a b:Code)(T:Tm)(ms:List Dfr)(m:Mem):Option Out :=
 ob (ev T x) fun c=>asBool c fun c=>ifb c (rec (.code fn ro a T ms m)) (rec (.code fn ro b T ms m))
def cBlock(id:Nat)(b:Code)(T:Tm)(ms:List Dfr)(m:Mem):Option Out :=
 z11 (rec (.code fn ro b T ms m)) fun e T ms m=>exE e (some (.code .norm T ms m)) (some (.code .ret T ms m))
  (fun a=>ifb (Nat.beq a id) (some (.code .norm T ms m)) (some (.code (.exit a) T ms m)))
def cScope(b:Code)(T:Tm)(ms:List Dfr)(m:Mem):Option Out:=rec (.code fn ro b T ms m)
def cLoop(b:Code)(T:Tm)(ms:List Dfr)(m:Mem):Option Out :=
 z11 (rec (.code fn ro b T ms m)) fun e T ms m=>exE e (rec (.code fn ro (.loop b) T ms m)) (some (.code .ret T ms m)) (fun id=>some (.code (.exit id) T ms m))
def cRegion(ops:Array Oper)(T:Tm)(ms:List Dfr)(m:Mem):Option Out :=
 z0c P ro rec ops.toList ops.toList T ms m
def cDrawG(ops:Array Oper)(T:Tm)(ms:List Dfr)(m:Mem):Option Out :=
 oe (z04 P rec ops.toList (deps ops) ops.toList 0 ⟨T,m,[m],0,[]⟩)
  (ob (z0a P rec ops.toList (deps ops) ops.toList 0 ⟨T,m,[m],0,[]⟩) fun q=>pr q fun v q=>pr q fun e d=>
   dsE d fun _ c st k a=>guard' (z0q P st k a) (some (.boom v ⟨T.size,.nil⟩ ms ⟨c.next,e.tr⟩)))
  fun d=>dsE d fun T m st k a=>guard' (z0q P st k a) (some (.code .norm T ms m))
def cDraw(ops:Array Oper)(T:Tm)(ms:List Dfr)(m:Mem):Option Out :=
 ifb (regionOk P ops) (cDrawG P rec ops T ms m)
  (guard' (sigOk ops.size (orderOf P ops)&&regionOk P (permR ops (orderOf P ops))) (cDrawG P rec (permR ops (orderOf P ops)) T ms m))
def rfFin(l:Nat)(T:Tm)(ms:List Dfr)(m:Mem)(a:Option Code)(d:FuncId)(f:Tm)(e:List Tmp)(a' b':Code)(g:Nat):Option Out :=
 oe a (some (.code .norm T ms (m.upd l (some (.loop .exhausted a d f e a' b' g))))) (fun c=>rec (.code fn ro c T ms (m.upd l (some (.loop .exhausted a d f e a' b' g)))))
def notBusy{α:Type}(s:LoopState)(k:Option α):Option α:=match s with | .busy=>none|_=>k
def rfEnd(l:Nat)(T:Tm)(ms:List Dfr)(m:Mem):Option Out :=
 atLoop m l fun st a c e d f g h=>notBusy st (rfFin rec fn ro l T ms m a c e d f g h)
def asFn{α:Type}(v:LV)(k:FuncId->List LV->List LV->Option α):Option α:=match v with | .func (.func g) a b=>k g a b|_=>none
def rfCall(f:Operand)(params:Array Tmp)(assign body:Code)(d:Nat)(T:Tm)(ms:List Dfr)(m:Mem):Option Out :=
 m.new (.loop .ready none fn T params.toList assign body d) fun l m=>ob (ev T f) fun f=>asFn f fun g c a=>
  z15 (rec (.call g (c++[.func (.yield l) [] []]++a) m)) (fun _ m=>rfEnd rec fn ro l T ms m) fun v m=>some (.boom v T ms m)
def cRangeFunc(f:Operand)(params:Array Tmp)(assign body:Code)(T:Tm)(ms:List Dfr)(m:Mem):Option Out :=
 oe ro
  (m.new .defr fun d m=>rfCall rec fn ro f params assign body d T (.mark d::ms) m)
  fun l=>atLoop m l fun _ _ _ _ _ _ _ d=>rfCall rec fn ro f params assign body d T ms m
def stCode(c:Code):Tm->List Dfr->Mem->Option Out :=
 @Code.rec (fun _=>Tm->List Dfr->Mem->Option Out) cSkip (fun _ ops d=>ifb d (cDraw P rec ops) (cRegion P rec ro ops)) (fun a b _ _=>cSeq rec fn ro a b) (fun x a b _ _=>cCond rec fn ro x a b)
  (fun id b _=>cBlock rec fn ro id b) (fun b _=>cLoop rec fn ro b) (fun f e a b _ _=>cRangeFunc rec fn ro f e a b) cExit (fun b _=>cScope rec fn ro b) (fun _=>cSkip) (fun _ _ _ _=>none) cRet (fun _ _ _ _=>none) c
end code
def recHead(c:Code):Option (Option Tmp×Option Tmp×Code) :=
 match c with
 | .seq (.region _ ⟨[⟨d,.call ⟨.builtin .recover,⟨[]⟩,_⟩,_,_,_,none⟩,⟨e,.assign (.tmp t),_,_,_,none⟩]⟩ false) c=>match d with|some d=>if Nat.beq d t then some (some d,e,c) else none|none=>none
 | _=>none
def dfrRun(rec:Task->Option Out)(f:FuncId)(args:List LV)(pv:LV)(m:Mem):Option Mem :=
 ob (fnOf P f) fun fn=>ob (Tm.ofList fn.ntmps args) fun T=>ob fn.body fun c=>ob (recHead c) fun q=>pr q fun d q=>pr q fun e c=>
  ob (T.put d pv) fun T=>ob (T.put e pv) fun T=>guard' fn.results.isEmpty (
   z1k (rec (.code f none c T [] m)) (fun e _ a m=>guard' a.isEmpty (exE e (some m) (some m) (fun _=>none))) (fun _ _ _ _=>none))
def finRet(rec:Task->Option Out)(fn:Func)(T:Tm):List Dfr->Mem->Option Out
 | [],m=>ob (z0p P T m fn.results.toList) fun vs=>some (.call (packed vs) m)
 | .mark d::ds,m=>atDefr m d (finRet rec fn T ds (m.upd d none))
 | .call f a::ds,m=>ob (dfrRun P rec f a .nilIface m) fun m=>finRet rec fn T ds m
def finDie(rec:Task->Option Out)(fn:Func)(T:Tm)(v:LV):List Dfr->Mem->Option Out
 | [],m=>some (.die v m)
 | .mark d::ds,m=>atDefr m d (finDie rec fn T v ds (m.upd d none))
 | .call f a::ds,m=>ob (dfrRun P rec f a v m) fun m=>finRet P rec fn T ds m
def stCall(rec:Task->Option Out)(f:FuncId)(args:List LV)(m:Mem):Option Out :=
 ob (fnOf P f) fun fn=>ob (Tm.ofList fn.ntmps args) fun T=>ob fn.body fun c=>
  z1k (rec (.code f none c T [] m)) (fun e T a m=>exE e (finRet P rec fn T a m) (finRet P rec fn T a m) (fun _=>none)) (fun v T a m=>finDie P rec fn T v a m)
def setParams:List Tmp->List LV->Tm->Option Tm
 | [],[],T=>some T
 | t::a,v::vs,T=>ob (T.set t v) fun T=>setParams a vs T
 | _,_,_=>none
def ready?{α:Type}(s:LoopState)(k:Option α):Option α:=match s with | .ready=>k|_=>none
def roundEnd(l:Nat)(e:Ex)(m:Mem):Option Out :=
 atLoop m l fun _ _ a d c f g h=>exE e
  (some (.call (.bool true) (m.upd l (some (.loop .ready none a d c f g h)))))
  (some (.call (.bool false) (m.upd l (some (.loop .done (some .ret) a d c f g h)))))
  (fun id=>some (.call (.bool false) (m.upd l (some (.loop .done (some (.exit id)) a d c f g h)))))
def isNorm{α:Type}(e:Ex)(k:Option α):Option α:=match e with | .norm=>k|_=>none
def stRound(rec:Task->Option Out)(l:Nat)(args:List LV)(m:Mem):Option Out :=
 atLoop m l fun st _ fn p o assign a _=>ready? st (ob (setParams o args p) fun T=>
  z1k (rec (.code fn (some l) assign T [] m)) (fun e T f m=>isNorm e
   (atLoop m l fun st c d h g i j n=>ready? st
    (z1k (rec (.code fn (some l) a T f (m.upd l (some (.loop .busy c d h g i j n))))) (fun e _ _ m=>roundEnd l e m) fun v _ f m=>guard' (f.isEmpty&&(fnOf P fn).isSome) (some (.die v m)))))
   (fun _ _ _ _=>none))
def taskE{d:Type}(t:Task)(a:FuncId->Option Nat->Code->Tm->List Dfr->Mem->d)(b:FuncId->List LV->Mem->d)(c:Nat->List LV->Mem->d):d:=@Task.rec (fun _=>d) a b c t
def stepT(rec:Task->Option Out)(t:Task):Option Out :=
 taskE t (fun fn ro c T a m=>stCode P rec fn ro c T a m) (stCall P rec) (stRound P rec)
def run(n:Nat):Task->Option Out :=
 @Nat.rec (fun _=>Task->Option Out) (fun _=>none) (fun _ a t=>stepT P a t) n
