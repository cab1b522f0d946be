/- An abstract interpreter of the model's code: abstract values, abstract memory, the compiled form of a function, the interpreter. Definitions alone. -/
import Derived.OrdersIn
import Derived.LoopNIn
import Derived.RangeFuncLeaves
import Derived.RangeFuncCalls
import Derived.Below
namespace Go.Proofs.Yteenffomgdfocaa.Ai
open Go
open List renaming replicate → Q0
open Nat renaming ble → Q1
set_option linter.unusedVariables false
inductive AV where
 | undef
 | junk
 | bool (b:Bool)
 | int (k:IntKind) (n:Int)
 | str (s:List UInt8)
 | nilP | nilS | nilM | nilF | nilI
 | ptr (i v e o:Nat)
 | vptr (cells:List AV) (o:Nat)
 | vsl (ex:Bool) (l:List (List AV))
 | hsl (i v o n:Nat) (c:Option Nat)
 | map (i:Nat)
 | fn (f:Fn) (first caps:List AV)
 | iface (t:TypeId) (x:AV)
 | agg (l:List AV)
 | tup (l:List AV)
 deriving Inhabited
inductive AX where
 | t (i:Nat)
 | c (v:AV)
 deriving Inhabited
inductive Sc where
 | int | str | bool
 deriving DecidableEq,Inhabited
inductive EqK where
 | num | bool | ptr | slice | fn
 | struct (l:List Sc)
 deriving Inhabited
inductive LenK where
 | str | slice | map
 deriving DecidableEq,Inhabited
inductive AOp where
 | mv (x:AX)
 | pick (c a b:AX)
 | alloc (zero:List AV)
 | box (sz:Nat) (x:AX)
 | load (n:Nat) (agg:Bool) (a:AX)
 | store (n:Nat) (a x:AX)
 | nilCheck (x:AX)
 | bin (op:BinOp) (q:EqK) (x y:AX)
 | un (op:UnOp) (x:AX)
 | convInt (k:IntKind) (x:AX)
 | strBytes (x:AX)
 | bytesStr (x:AX)
 | markB (x:AX)
 | convStr (x:AX)
 | mkFunc (f:Fn) (first caps:List AX)
 | mkMap
 | mkSlice (sz bytes:Nat) (zero:List AV) (len cap:AX)
 | slice (sz:Nat) (x:AX) (lo hi mx:Option AX)
 | sliceStr (x:AX) (lo hi:Option AX)
 | fieldAddr (off:Nat) (x:AX)
 | field (off n:Nat) (agg:Bool) (x:AX)
 | indexAddr (sz:Nat) (x i:AX)
 | indexArr (len sz:Nat) (x i:AX)
 | indexStr (x i:AX)
 | indexAgg (len sz:Nat) (agg:Bool) (x i:AX)
 | lookup (q:Sc) (zero:AV) (ok:Bool) (m k:AX)
 | mapUpdate (q:Sc) (m k x:AX)
 | extract (x:AX) (i:Nat)
 | len (q:LenK) (x:AX)
 | cap (x:AX)
 | append (sz bytes:Nat) (s x:AX)
 | appendZ (sz bytes:Nat) (zero:List AV) (s x:AX)
 | copy (sz:Nat) (d s:AX)
 | delete (q:Sc) (m k:AX)
 | minmax (mx:Bool) (xs:List AX)
 | build (zero:List AV) (parts:List (Nat × Nat × AX))
 | buildSlice (heap:Bool) (sz len:Nat) (zero:List AV) (parts:List (Nat × AX))
 | mkIface (t:TypeId) (x:AX)
 | call (f:AX) (args:List AX)
 | invoke (tb:List (Nat × Nat)) (x:AX) (args:List AX)
 | fail
 deriving Inhabited
structure AOper where
 dst:Option Nat
 op:AOp
 guard:Option (Nat × Bool)
 deriving Inhabited
inductive ACode where
 | skip
 | ops (l:List AOper)
 | draw (l:List AOper) (ws:List (List Nat)) (sw:List (List Bool))
 | seq (a b:ACode)
 | cond (c:AX) (thn els:ACode)
 | block (id:Nat) (body:ACode)
 | loop (body:ACode)
 | range (f:AX) (ps:List Nat) (asg body:ACode)
 | kill (l:List Bool)
 | exit (id:Nat)
 | ret
 deriving Inhabited
inductive ARes where
 | tmp (t:Nat)
 | cell (a n:Nat) (agg:Bool)
 deriving Inhabited
structure AFn where
 ntmps:Nat
 results:List ARes
 body:ACode
 deriving Inhabited
inductive Out where
 | normal
 | exit (id:Nat)
 | ret
 deriving DecidableEq,Inhabited
def gB:Nat:=1048576
inductive LS where
 | ready | busy | done | exhausted
 deriving DecidableEq,Inhabited
inductive AObj where
 | arr (v sz:Nat) (x:Bool) (l:List (List AV))
 | map (l:List (AV × AV))
 | loop (st:LS) (pend:Option Out) (t:List AV) (ps:List Nat) (asg body:ACode)
 deriving Inhabited
abbrev aA0:=List AObj
structure St where
 t:List AV
 h:aA0
 deriving Inhabited
mutual
def eqV:AV→AV→Bool
 | .undef,.undef=>true
 | .junk,.junk=>true
 | .bool a,.bool b=>a==b
 | .int k a,.int l b=>decide (k=l) && decide (a=b)
 | .str a,.str b=>decide (a=b)
 | .nilP,.nilP | .nilS,.nilS | .nilM,.nilM | .nilF,.nilF | .nilI,.nilI=>true
 | .ptr i v e o,.ptr i' v' e' o'=>decide (i=i') && decide (v=v') && decide (e=e') && decide (o=o')
 | .vptr a o,.vptr b p=>aEj a b && decide (o=p)
 | .vsl e a,.vsl f b=>decide (e=f) && aGe a b
 | .hsl i v o n c,.hsl i' v' o' n' c'=>decide (i=i') && decide (v=v') && decide (o=o') && decide (n=n') && decide (c=c')
 | .map i,.map j=>decide (i=j)
 | .fn f a b,.fn g c d=>decide (f=g) && aEj a c && aEj b d
 | .iface t a,.iface u b=>decide (t=u) && eqV a b
 | .agg a,.agg b=>aEj a b
 | .tup a,.tup b=>aEj a b
 | _,_=>false
def aEj:List AV→List AV→Bool
 | [],[]=>true
 | a::x,b::y=>eqV a b && aEj x y
 | _,_=>false
def aGe:List (List AV)→List (List AV)→Bool
 | [],[]=>true
 | a::x,b::y=>aEj a b && aGe x y
 | _,_=>false
end
mutual
theorem aHG:∀ a b:AV,eqV a b=true→a=b
 | .vptr a o,b,h=>by
  cases b <;> simp [eqV] at h
  rw [aDQ a _ h.1,h.2]
 | .vsl e a,b,h=>by
  cases b <;> simp [eqV] at h
  rw [aIN a _ h.2,h.1]
 | .fn f a c,b,h=>by
  cases b <;> simp [eqV] at h
  rw [h.1.1,aDQ a _ h.1.2,aDQ c _ h.2]
 | .iface t a,b,h=>by
  cases b <;> simp [eqV] at h
  rw [h.1,aHG a _ h.2]
 | .agg a,b,h=>by
  cases b <;> simp [eqV] at h
  rw [aDQ a _ h]
 | .tup a,b,h=>by
  cases b <;> simp [eqV] at h
  rw [aDQ a _ h]
 | .undef,b,h | .junk,b,h | .nilP,b,h | .nilS,b,h | .nilM,b,h | .nilF,b,h | .nilI,b,h=>by cases b <;> simp [eqV] at h <;> rfl
 | .bool a,b,h | .str a,b,h | .map a,b,h=>by cases b <;> simp [eqV] at h;rw [h]
 | .int k a,b,h=>by cases b <;> simp [eqV] at h;rw [h.1,h.2]
 | .ptr i v e o,b,h=>by cases b <;> simp [eqV] at h;obtain ⟨⟨⟨rfl,rfl⟩,rfl⟩,rfl⟩:=h;rfl
 | .hsl i v o n c,b,h=>by cases b <;> simp [eqV] at h;obtain ⟨⟨⟨⟨rfl,rfl⟩,rfl⟩,rfl⟩,rfl⟩:=h;rfl
theorem aDQ:∀ a b:List AV,aEj a b=true→a=b
 | [],b,h=>by cases b <;> simp [aEj] at h;rfl
 | a::x,b,h=>by
  cases b <;> simp [aEj] at h
  rw [aHG a _ h.1,aDQ x _ h.2]
theorem aIN:∀ a b:List (List AV),aGe a b=true→a=b
 | [],b,h=>by cases b <;> simp [aGe] at h;rfl
 | a::x,b,h=>by
  cases b <;> simp [aGe] at h
  rw [aDQ a _ h.1,aIN x _ h.2]
end
mutual
theorem aH5:∀ a:AV,eqV a a=true
 | .vptr a o=>by simp [eqV,aD9 a]
 | .vsl e a=>by simp [eqV,aH4 a]
 | .fn f a c=>by simp [eqV,aD9 a,aD9 c]
 | .iface t a=>by simp [eqV,aH5 a]
 | .agg a=>by simp [eqV,aD9 a]
 | .tup a=>by simp [eqV,aD9 a]
 | .undef | .junk | .nilP | .nilS | .nilM | .nilF | .nilI | .bool _ | .str _ | .map _ | .int _ _ | .ptr _ _ _ _ | .hsl _ _ _ _ _=>by simp [eqV]
theorem aD9:∀ a:List AV,aEj a a=true
 | []=>rfl
 | a::x=>by simp [aEj,aH5 a,aD9 x]
theorem aH4:∀ a:List (List AV),aGe a a=true
 | []=>rfl
 | a::x=>by simp [aGe,aD9 a,aH4 x]
end
instance:DecidableEq AV:=fun a b=>if h:eqV a b=true then .isTrue (aHG a b h) else .isFalse fun e=>h (e ▸ aH5 a)
deriving instance DecidableEq for AX
deriving instance DecidableEq for EqK
deriving instance DecidableEq for AOp
deriving instance DecidableEq for AOper
deriving instance DecidableEq for ACode
deriving instance DecidableEq for AObj
deriving instance DecidableEq for St
def aIO:List (AV × AV)→List (AV × AV)→Bool
 | [],[]=>true
 | a::x,b::y=>eqV a.1 b.1 && (eqV a.2 b.2 && aIO x y)
 | _,_=>false
def aJl:AObj→AObj→Bool
 | .arr v sz x l,.arr v' sz' x' l'=>Nat.beq v v' && (Nat.beq sz sz' && ((x==x') && aGe l l'))
 | .map l,.map l'=>aIO l l'
 | .loop a b c d e f,.loop a' b' c' d' e' f'=>decide (AObj.loop a b c d e f=AObj.loop a' b' c' d' e' f')
 | _,_=>false
def aFV:List AObj→List AObj→Bool
 | [],[]=>true
 | a::x,b::y=>aJl a b && aFV x y
 | _,_=>false
def aJ6:Option St→Option St→Bool
 | some a,some b=>aEj a.t b.t && aFV a.h b.h
 | _,_=>false
theorem aNR:∀ a b,aIO a b=true→a=b
 | [],b,h=>by cases b <;> simp [aIO] at h;rfl
 | (a,c)::x,b,h=>by
  cases b <;> simp [aIO] at h
  rename_i p y
  obtain ⟨p1,p2⟩:=p
  rw [aHG a _ h.1,aHG c _ h.2.1,aNR x _ h.2.2]
theorem aKP:∀ a,aIO a a=true
 | []=>rfl
 | (a,c)::x=>by simp [aIO,aH5,aKP x]
theorem aQr (a b:AObj) (h:aJl a b=true):a=b:=by
 cases a <;> cases b <;> simp [aJl] at h
 ·obtain ⟨h1,h2,h3,h4⟩:=h
  rw [h1,h2,h3,aIN _ _ h4]
 ·rw [aNR _ _ h]
 ·obtain ⟨h1,h2,h3,h4,h5,h6⟩:=h
  rw [h1,h2,h3,h4,h5,h6]
theorem aOm (a:AObj):aJl a a=true:=by
 cases a <;> simp [aJl,aH4,aKP]
theorem aKQ:∀ a b,aFV a b=true→a=b
 | [],b,h=>by cases b <;> simp [aFV] at h;rfl
 | a::x,b,h=>by
  cases b <;> simp [aFV] at h
  rw [aQr a _ h.1,aKQ x _ h.2]
theorem aIo:∀ a,aFV a a=true
 | []=>rfl
 | a::x=>by simp [aFV,aOm,aIo x]
theorem aKF (a:Option St) (s:St):aJ6 a (some s)=decide (a=some s):=by
 rw [Bool.eq_iff_iff,decide_eq_true_eq]
 cases a with
 | none=>simp [aJ6]
 | some a =>
  obtain ⟨t,h⟩:=a
  obtain ⟨t',h'⟩:=s
  simp only [aJ6,Bool.and_eq_true,Option.some.injEq,St.mk.injEq]
  exact ⟨fun q=>⟨aDQ _ _ q.1,aKQ _ _ q.2⟩,fun q=>by rw [q.1,q.2];exact ⟨aD9 _,aIo _⟩⟩
def tr2 (i j k:Nat):Nat:=if k=i then j else if k=j then i else k
def aRQ (i j:Nat):Fn→Fn
 | .yield l=>.yield (tr2 i j l)
 | f=>f
mutual
def aFn (i j:Nat):AV→AV
 | .ptr k v e o=>.ptr (tr2 i j k) v e o
 | .hsl k v o n c=>.hsl (tr2 i j k) v o n c
 | .map k=>.map (tr2 i j k)
 | .fn f a b=>.fn (aRQ i j f) (aCT i j a) (aCT i j b)
 | .iface t x=>.iface t (aFn i j x)
 | .agg l=>.agg (aCT i j l)
 | .tup l=>.tup (aCT i j l)
 | x=>x
def aCT (i j:Nat):List AV→List AV
 | []=>[]
 | x::l=>aFn i j x::aCT i j l
end
def aO7 (i j:Nat):AObj→AObj
 | .arr v sz x l=>.arr v sz x (l.map (aCT i j))
 | .map l=>.map (l.map fun p=>(aFn i j p.1,aFn i j p.2))
 | .loop st p t ps a b=>.loop st p (aCT i j t) ps a b
def aDx {α:Type} (i j:Nat) (l:List α):List α :=
 match l[i]?,l[j]? with
 | some a,some b=>(l.set i b).set j a
 | _,_=>l
def aNZ (i j:Nat) (s:St):St:=⟨aCT i j s.t,aDx i j (s.h.map (aO7 i j))⟩
def plc:AV→Option Nat
 | .ptr k _ _ _ | .hsl k _ _ _ _ | .map k=>some k
 | _=>none
def aMl:List (Nat × Nat)→Nat→Nat
 | [],k=>k
 | p::r,k=>aMl r (tr2 p.1 p.2 k)
def aOk (m n:Nat):List AV→List AV→List (Nat × Nat)→List (Nat × Nat)
 | x::xs,y::ys,ps =>
  match plc x,plc y with
  | some i,some j =>
   if Nat.beq (aMl ps i) j || !(Q1 m (aMl ps i) && Q1 m j && Q1 (aMl ps i+1) n && Q1 (j+1) n) then aOk m n xs ys ps
   else aOk m n xs ys (ps++[(aMl ps i,j)])
  | _,_=>aOk m n xs ys ps
 | _,_,ps=>ps
def aLu (m:Nat):List (Nat × Nat)→St→Option St
 | [],s=>some s
 | (i,j)::r,s=>if Q1 m i && Q1 m j && !Nat.beq i j && Q1 (i+1) s.h.length && Q1 (j+1) s.h.length then aLu m r (aNZ i j s) else none
def aFB (m:Nat):Option St→Option St→Bool
 | some a,some b=>aJ6 (some a) (some b) || aJ6 (aLu m (aOk m a.h.length a.t b.t []) a) (some b)
 | _,_=>false
def AV.un:AV:=.tup []
def AX.ev (t:List AV):AX→AV
 | .t i=>t.getD i AV.un
 | .c v=>v
def put (t:List AV) (d:Option Nat) (v:AV):List AV :=
 match d with
 | none=>t
 | some d=>t.set d v
def cellsOf:AV→List AV
 | .agg cs=>cs
 | .junk=>[]
 | v=>[v]
def aAn:AV→Bool
 | .undef | .junk | .agg _ | .tup _=>false
 | _=>true
def aA3 (h:aA0) (i v:Nat):Option (Nat × Bool × List (List AV)) :=
 match h[i]? with
 | some (.arr v' sz x l)=>if v=v' then some (sz,x,l) else none
 | _=>none
def part (cells:List AV) (o n:Nat):Option (List AV) :=
 if o+n≤cells.length then some ((cells.drop o).take n) else none
def aCU (agg:Bool) (cs:List AV):Option AV :=
 if agg then some (.agg cs) else
 match cs with
 | [x]=>some x
 | _=>none
def aA4 (h:aA0) (n:Nat):AV→Option (List AV)
 | .ptr i v e o =>
  match aA3 h i v with
  | some (_,_,l) =>
   match l[e]? with
   | some cells=>part cells o n
   | none=>none
  | none=>none
 | .vptr cells o=>part cells o n
 | _=>none
def aA2 (h:aA0) (n:Nat) (agg:Bool) (p:AV):Option AV:=(aA4 h n p).bind (aCU agg)
def aAm (cells:List AV) (o:Nat) (xs:List AV):List AV:=cells.take o++xs++cells.drop (o+xs.length)
def aAq (h:aA0) (n:Nat) (a x:AV):Option aA0 :=
 match a with
 | .ptr i v e o =>
  match aA3 h i v with
  | some (sz,k,l) =>
   match l[e]? with
   | some cells =>
    if (cellsOf x).length=n∧o+n≤cells.length∧(cellsOf x).all aAn then
     some (h.set i (.arr v sz k (l.set e (aAm cells o (cellsOf x)))))
    else none
   | none=>none
  | none=>none
 | _=>none
def aFY (op:BinOp) (k:IntKind) (a b:Int):Option AV :=
 match op with
 | .add=>some (.int k (k.wrap (a+b)))
 | .sub=>some (.int k (k.wrap (a - b)))
 | .mul=>some (.int k (k.wrap (a*b)))
 | .quo=>if b=0 then none else some (.int k (k.wrap (a.tdiv b)))
 | .rem=>if b=0 then none else some (.int k (a.tmod b))
 | .and=>some (.int k (k.wrap (BitVec.ofInt k.bits a &&& BitVec.ofInt k.bits b).toNat))
 | .or=>some (.int k (k.wrap (BitVec.ofInt k.bits a ||| BitVec.ofInt k.bits b).toNat))
 | .xor=>some (.int k (k.wrap (BitVec.ofInt k.bits a ^^^ BitVec.ofInt k.bits b).toNat))
 | .andNot=>some (.int k (k.wrap (BitVec.ofInt k.bits a &&& ~~~ BitVec.ofInt k.bits b).toNat))
 | .eql=>some (.bool (a==b))
 | .neq=>some (.bool (a != b))
 | .lss=>some (.bool (a < b))
 | .leq=>some (.bool (a≤b))
 | .gtr=>some (.bool (a > b))
 | .geq=>some (.bool (a ≥ b))
 | _=>none
def aMk (op:BinOp) (k:IntKind) (a b:Int):Option AV :=
 if b < 0 then none else
 match op with
 | .shl=>some (.int k (k.wrap (a*2 ^ (min b.toNat k.bits))))
 | .shr=>some (.int k (a.fdiv (2 ^ (min b.toNat k.bits))))
 | _=>none
def aEY:List UInt8→List UInt8→Bool
 | _,[]=>false
 | [],_::_=>true
 | a::x,b::y=>a < b || (a==b && aEY x y)
def aOw (op:BinOp) (a b:List UInt8):Option AV :=
 match op with
 | .add=>if a.length+b.length≤1152921504606846976 then some (.str (a++b)) else none
 | .eql=>some (.bool (a==b))
 | .neq=>some (.bool !(a==b))
 | .lss=>some (.bool (aEY a b))
 | .leq=>some (.bool (aEY a b || a==b))
 | .gtr=>some (.bool !(aEY a b || a==b))
 | .geq=>some (.bool !(aEY a b))
 | _=>none
def aEZ:Sc→AV→AV→Option Bool
 | .int,.int k a,.int k' b=>if k=k' then some (a==b) else none
 | .str,.str a,.str b=>some (a==b)
 | .bool,.bool a,.bool b=>some (a==b)
 | _,_,_=>none
def aIT:List Sc→List AV→List AV→Option Bool
 | [],[],[]=>some true
 | q::qs,x::xs,y::ys =>
  match aEZ q x y,aIT qs xs ys with
  | some b,some c=>some (b && c)
  | _,_=>none
 | _,_,_=>none
def aeq:EqK→AV→AV→Option Bool
 | .bool,.bool a,.bool b=>some (a==b)
 | .struct qs,.agg xs,.agg ys=>aIT qs xs ys
 | .ptr,.nilP,.nilP=>some true
 | .ptr,.nilP,.ptr _ _ _ _=>some false
 | .ptr,.ptr _ _ _ _,.nilP=>some false
 | .ptr,.nilP,.vptr _ _=>some false
 | .ptr,.vptr _ _,.nilP=>some false
 | .slice,.nilS,.nilS=>some true
 | .slice,.hsl _ _ _ _ _,.nilS=>some false
 | .slice,.nilS,.hsl _ _ _ _ _=>some false
 | .slice,.vsl _ (_::_),.nilS=>some false
 | .slice,.nilS,.vsl _ (_::_)=>some false
 | .fn,.nilF,.nilF=>some true
 | .fn,.nilF,.fn _ _ _=>some false
 | .fn,.fn _ _ _,.nilF=>some false
 | _,_,_=>none
def aBE (op:BinOp) (q:EqK) (x y:AV):Option AV :=
 match x,y with
 | .int k a,.int k' b =>
  if op=.shl∨op=.shr then aMk op k a b
  else if k=k' then aFY op k a b else none
 | .str a,.str b=>aOw op a b
 | x,y =>
  match op with
  | .eql=>(aeq q x y).map .bool
  | .neq=>(aeq q x y).map fun b=>.bool !b
  | _=>none
def aun (op:UnOp) (x:AV):Option AV :=
 match op,x with
 | .neg,.int k n=>some (.int k (k.wrap (0 - n)))
 | .not,.bool b=>some (.bool !b)
 | .xor,.int k n=>some (.int k (k.wrap (BitVec.ofInt k.bits (if k.signed then -1 else k.max) ^^^ BitVec.ofInt k.bits n).toNat))
 | _,_=>none
def aAI (h:aA0) (sz:Nat):AV→Option (List (List AV))
 | .nilS=>some []
 | .vsl _ l =>
  match l with
  | []=>some []
  | c::r=>if c.length==sz then some (c::r) else none
 | .hsl i v o n _ =>
  match aA3 h i v with
  | some (sz',_,l)=>if sz'=sz∧o+n≤l.length then some ((l.drop o).take n) else none
  | none=>none
 | .str s=>if sz=1 then some (s.map fun b=>[.int .u8 b.toNat]) else none
 | _=>none
def aDZ:Option AV→Option (Option Int)
 | none=>some none
 | some (.int _ n)=>some (some n)
 | _=>none
def aCZ (len lim:Nat) (lo hi mx:Option AV):Option (Nat × Nat × Option Nat) :=
 match aDZ lo,aDZ hi,aDZ mx with
 | some lo,some hi,some mx =>
  let l:=lo.getD 0
  let h:=hi.getD len
  if 0≤l∧l≤h∧h≤(lim:Int) then
   match mx with
   | none=>some (l.toNat,h.toNat,none)
   | some m=>if h≤m∧m≤(lim:Int)∧hi.isSome then some (l.toNat,h.toNat,some m.toNat) else none
  else none
 | _,_,_=>none
def aFT (sz:Nat):List (List AV)→Bool
 | []=>true
 | c::_=>c.length==sz
def aIa (n:Nat):Option Nat→Nat
 | none=>n
 | some c=>c
def aGI (ex:Bool) (len b:Nat):Option Nat→Bool
 | none=>ex && b==len
 | some m=>m==b
def aBs (h:aA0) (sz:Nat) (x:AV) (lo hi mx:Option AV):Option AV :=
 match x with
 | .nilS=>(aCZ 0 0 lo hi mx).map fun _=>.nilS
 | .vsl ex l =>
  match aCZ l.length l.length lo hi mx with
  | some (a,b,m)=>if aFT sz ((l.take b).drop a) then some (.vsl (aGI ex l.length b m) ((l.take b).drop a)) else none
  | none=>none
 | .hsl i v o n c =>
  match aA3 h i v with
  | some (sz',_,l) =>
   if sz'=sz∧o+n≤l.length then
    match aCZ n (aIa (l.length - o) c) lo hi mx with
    | some (a,b,none)=>some (.hsl i v (o+a) (b - a) (c.map (· - a)))
    | some (a,b,some m)=>some (.hsl i v (o+a) (b - a) (some (m - a)))
    | none=>none
   else none
  | none=>none
 | _=>none
def aHM (x:AV) (lo hi:Option AV):Option AV :=
 match x with
 | .str s =>
  match aCZ s.length s.length lo hi none with
  | some (a,b,_)=>some (.str ((s.take b).drop a))
  | none=>none
 | _=>none
def aAs (h:aA0) (sz:Nat) (x i:AV):Option AV :=
 match x,i with
 | .vsl _ l,.int _ j =>
  if 0≤j then
   match l[j.toNat]? with
   | some cells=>if cells.length=sz then some (.vptr cells 0) else none
   | none=>none
  else none
 | .hsl i v o n _,.int _ j =>
  match aA3 h i v with
  | some (sz',_,_)=>if sz'=sz∧0≤j∧j < (n:Int) then some (.ptr i v (o+j.toNat) 0) else none
  | none=>none
 | _,_=>none
def aCC (h:aA0) (x:AV) (off:Nat):Option AV :=
 match x with
 | .ptr i v e o=>some (.ptr i v e (o+off))
 | .vptr cells o=>some (.vptr cells (o+off))
 | _=>none
def aBM (q:Sc) (k:AV):List (AV × AV)→Nat→Option (Option (Nat × AV))
 | [],_=>some none
 | (k',x)::r,i =>
  match aEZ q k k' with
  | some true=>some (some (i,x))
  | some false=>aBM q k r (i+1)
  | none=>none
def aDO:Sc→AV→Bool
 | .int,.int _ _ | .str,.str _ | .bool,.bool _=>true
 | _,_=>false
def aBb (h:aA0):AV→Option (List (AV × AV))
 | .nilM=>some []
 | .map i =>
  match h[i]? with
  | some (.map l)=>some l
  | _=>none
 | _=>none
def aEr (ok:Bool) (z:AV):Option (Nat × AV)→AV
 | some (_,x)=>if ok then .tup [x,.bool true] else x
 | none=>if ok then .tup [z,.bool false] else z
def aFL (l:List (AV × AV)) (k x:AV):Option (Nat × AV)→List (AV × AV)
 | some (j,_)=>l.set j (k,x)
 | none=>l++[(k,x)]
def aPw (l:List (AV × AV)):Option (Nat × AV)→List (AV × AV)
 | some (j,_)=>l.eraseIdx j
 | none=>l
def aAG (cells:List AV):List (Nat × Nat × AV)→Option (List AV)
 | []=>some cells
 | (o,n,x)::r =>
  if 0 < n∧(cellsOf x).length=n∧o+n≤cells.length then aAG (aAm cells o (cellsOf x)) r else none
def pure1:AV→Bool
 | .bool _ | .int _ _ | .str _ | .nilP | .nilS | .nilM | .nilF | .nilI | .vptr _ _ | .vsl _ _ | .fn (.func _) [] []=>true
 | _=>false
def aBD (sz:Nat) (l:List (Nat × AV)):List (Nat × Nat × AV):=l.map fun (i,x)=>(i*sz,sz,x)
def aDf (sz:Nat):Nat→List AV→List (List AV)
 | 0,_=>[]
 | n+1,l=>l.take sz::aDf sz n (l.drop sz)
def amm (mx:Bool):AV→List AV→Option AV
 | x,[]=>some x
 | .int k x,.int _ y::r=>amm mx (.int k (if (if mx then y > x else y < x) then y else x)) r
 | _,_=>none
def aBq (h:aA0) (sz bytes:Nat) (l:List (List AV)):Option (AV × aA0) :=
 if l.length*(bytes+1)≤68719476736∧l.all (fun c=>c.length==sz && c.all aAn)=true then
  some (.hsl h.length 0 0 l.length none,h++[.arr 0 sz false l])
 else none
def aHD (n:Nat):Option Nat→Bool
 | none=>true
 | some c=>decide (n≤c)
def aEl (h:aA0) (sz bytes:Nat) (s:AV) (xs:List (List AV)):Option (AV × aA0) :=
 match s with
 | .nilS=>aBq h sz bytes xs
 | .vsl true l=>aBq h sz bytes (l++xs)
 | .hsl i v o n c =>
  match aA3 h i v with
  | some (sz',x,l) =>
   if sz'=sz∧o+n≤l.length then
    if o+n+xs.length≤l.length∧aHD (n+xs.length) c=true then
     if xs.all (fun c=>c.length==sz && c.all aAn) then
      some (.hsl i v o (n+xs.length) c,h.set i (.arr v sz x (l.take (o+n)++xs++l.drop (o+n+xs.length))))
     else none
    else
     match c with
     | some c=>if n+xs.length≤c then none else aBq h sz bytes ((l.drop o).take n++xs)
     | none =>
      if ((l.drop o).take n++xs).length*(bytes+1)≤68719476736∧((l.drop o).take n++xs).all (fun c=>c.length==sz && c.all aAn)=true then
       some (.hsl i (v+1) 0 ((l.drop o).take n++xs).length none,h.set i (.arr (v+1) sz false ((l.drop o).take n++xs)))
      else none
   else none
  | none=>none
 | _=>none
def aIV (h:aA0) (s:AV):Option (AV × aA0) :=
 match s with
 | .nilS=>some (s,h)
 | .vsl _ _=>some (s,h)
 | .hsl i v _ _ _=>(aA3 h i v).map fun _=>(s,h)
 | _=>none
def aD0 (h:aA0) (sz bytes:Nat) (s:AV) (xs:List (List AV)):Option (AV × aA0) :=
 if xs.length=0 then aIV h s else aEl h sz bytes s xs
def aLD (h:aA0) (sz:Nat) (d:AV) (xs:List (List AV)):Option (AV × aA0) :=
 match d with
 | .hsl i v o n _ =>
  match aA3 h i v with
  | some (sz',x,l) =>
   let m:=min xs.length n
   if sz'=sz∧o+n≤l.length∧(xs.take m).all (fun c=>c.length==sz && c.all aAn) then
    some (.int .i64 m,h.set i (.arr v sz x (l.take o++xs.take m++l.drop (o+m))))
   else none
  | none=>none
 | _=>none
def aBt (h:aA0):LenK→AV→Option AV
 | .str,.str s=>some (.int .i64 s.length)
 | .slice,.nilS=>some (.int .i64 0)
 | .slice,.vsl _ l=>some (.int .i64 l.length)
 | .slice,.hsl _ _ _ n _=>some (.int .i64 n)
 | .map,m=>(aBb h m).map fun l=>.int .i64 l.length
 | _,_=>none
def aH9 (h:aA0):AV→Option AV
 | .nilS=>some (.int .i64 0)
 | .vsl true l=>some (.int .i64 l.length)
 | .hsl i v o _ c =>
  match aA3 h i v,c with
  | some _,some c=>some (.int .i64 c)
  | some (_,true,l),none=>some (.int .i64 ((l.length - o:Nat):Int))
  | _,_=>none
 | _=>none
inductive AR where
 | v (x:AV) (h:aA0)
 | call (f:Fn) (args:List AV)
def avs (t:List AV) (l:List AX):List AV:=l.map (AX.ev t)
def aFX:List (List AV)→Option (List UInt8)
 | []=>some []
 | [.int .u8 n]::r=>(aFX r).map fun l=>UInt8.ofNat n.toNat::l
 | _=>none
def aDE (h:aA0) (v:AV):Option AV :=
 match v with
 | .str _=>none
 | v=>((aAI h 1 v).bind aFX).map .str
def aOA (h:aA0) (v:AV):Option AV :=
 match v with
 | .hsl i ver o n c=>if 0 < n then (aA3 h i ver).map fun _=>.hsl i ver o n c else none
 | _=>none
def aop (h:aA0) (t:List AV) (o:AOp):Option AR :=
 let pure (x:Option AV):Option AR:=x.map fun v=>.v v h
 match o with
 | .mv x=>some (.v (x.ev t) h)
 | .pick c a b =>
  match c.ev t with
  | .bool true=>some (.v (a.ev t) h)
  | .bool false=>some (.v (b.ev t) h)
  | _=>none
 | .alloc zero=>some (.v (.ptr h.length 0 0 0) (h++[.arr 0 zero.length true [zero]]))
 | .box sz x =>
  if (cellsOf (x.ev t)).length=sz then some (.v (.ptr h.length 0 0 0) (h++[.arr 0 sz true [cellsOf (x.ev t)]])) else none
 | .load n agg a=>pure (aA2 h n agg (a.ev t))
 | .store n a x=>(aAq h n (a.ev t) (x.ev t)).map fun h=>.v AV.un h
 | .nilCheck x =>
  match x.ev t with
  | .fn (.func f) a b=>some (.v (.fn (.func f) a b) h)
  | x=>pure (aCC h x 0)
 | .bin op q x y=>pure (aBE op q (x.ev t) (y.ev t))
 | .un op x=>pure (aun op (x.ev t))
 | .convInt k x =>
  match x.ev t with
  | .int _ n=>some (.v (.int k (k.wrap n)) h)
  | _=>none
 | .strBytes x =>
  match x.ev t with
  | .str s=>some (.v (.hsl h.length 0 0 s.length none) (h++[.arr 0 1 false (s.map fun b=>[.int .u8 b.toNat])]))
  | _=>none
 | .bytesStr x=>pure (aDE h (x.ev t))
 | .markB x=>pure (aOA h (x.ev t))
 | .fail=>none
 | .convStr x =>
  match x.ev t with
  | .str s=>some (.v (.str s) h)
  | _=>none
 | .mkFunc f first caps=>some (.v (.fn f (avs t first) (avs t caps)) h)
 | .mkMap=>some (.v (.map h.length) (h++[.map []]))
 | .mkSlice sz bytes zero len cap =>
  match len.ev t,cap.ev t with
  | .int _ l,.int _ c =>
   if 0≤l∧l≤c∧c*(bytes+1)≤70368744177664 then
    some (.v (.hsl h.length 0 0 l.toNat none) (h++[.arr 0 sz true (Q0 c.toNat zero)]))
   else none
  | _,_=>none
 | .slice sz x lo hi mx=>pure (aBs h sz (x.ev t) (lo.map (AX.ev t)) (hi.map (AX.ev t)) (mx.map (AX.ev t)))
 | .sliceStr x lo hi=>pure (aHM (x.ev t) (lo.map (AX.ev t)) (hi.map (AX.ev t)))
 | .fieldAddr off x=>pure (aCC h (x.ev t) off)
 | .field off n agg x =>
  match x.ev t with
  | .agg cs=>pure ((part cs off n).bind (aCU agg))
  | _=>none
 | .indexAddr sz x i=>pure (aAs h sz (x.ev t) (i.ev t))
 | .indexArr len sz x i =>
  match i.ev t with
  | .int _ j=>if 0≤j∧j < (len:Int) then pure (aCC h (x.ev t) (j.toNat*sz)) else none
  | _=>none
 | .indexStr x i =>
  match x.ev t,i.ev t with
  | .str s,.int _ j=>if 0≤j then pure (s[j.toNat]?.map fun b=>.int .u8 b.toNat) else none
  | _,_=>none
 | .indexAgg len sz agg x i =>
  match x.ev t,i.ev t with
  | .agg cs,.int _ j=>if 0≤j∧j < (len:Int) then pure ((part cs (j.toNat*sz) sz).bind (aCU agg)) else none
  | _,_=>none
 | .lookup q zero ok m k =>
  match aBb h (m.ev t) with
  | some l=>if aDO q (k.ev t) then (aBM q (k.ev t) l 0).map fun r=>.v (aEr ok zero r) h else none
  | none=>none
 | .mapUpdate q m k x =>
  match m.ev t with
  | .map i =>
   match h[i]? with
   | some (.map l)=>if aDO q (k.ev t) then (aBM q (k.ev t) l 0).map fun r=>.v AV.un (h.set i (.map (aFL l (k.ev t) (x.ev t) r))) else none
   | _=>none
  | _=>none
 | .extract x i =>
  match x.ev t with
  | .tup l=>pure l[i]?
  | _=>none
 | .len q x=>pure (aBt h q (x.ev t))
 | .cap x=>pure (aH9 h (x.ev t))
 | .append sz bytes s x =>
  match aAI h sz (x.ev t) with
  | some xs=>(aD0 h sz bytes (s.ev t) xs).map fun (v,h)=>.v v h
  | none=>none
 | .appendZ sz bytes zero s x =>
  match s.ev t,x.ev t with
  | .nilS,.int _ n=>if n=0 then some (.v .nilS h) else if 0 < n then (aBq h sz bytes (Q0 n.toNat zero)).map fun (v,h)=>.v v h else none
  | _,_=>none
 | .copy sz d s =>
  match aAI h sz (s.ev t) with
  | some xs=>(aLD h sz (d.ev t) xs).map fun (v,h)=>.v v h
  | none=>none
 | .delete q m k =>
  match m.ev t with
  | .map i =>
   match h[i]? with
   | some (.map l)=>if aDO q (k.ev t) then (aBM q (k.ev t) l 0).map fun r=>.v AV.un (h.set i (.map (aPw l r))) else none
   | _=>none
  | _=>none
 | .minmax mx xs =>
  match avs t xs with
  | .int k n::r=>pure (amm mx (.int k n) r)
  | _=>none
 | .build zero parts=>(aAG zero (parts.map fun (o,n,x)=>(o,n,x.ev t))).map fun cs=>.v (.agg cs) h
 | .buildSlice heap sz len zero parts =>
  if zero.length=sz∧len*sz≤16777216 then
   (aAG ((Q0 len zero).flatten) (aBD sz (parts.map fun (i,x)=>(i,x.ev t)))).map fun l =>
    if !heap && l.all pure1 then .v (.vsl true (aDf sz len l)) h
    else .v (.hsl h.length 0 0 len none) (h++[.arr 0 sz true (aDf sz len l)])
  else none
 | .mkIface ty x=>some (.v (.iface ty (x.ev t)) h)
 | .call f args =>
  match f.ev t with
  | .fn (.func g) first caps=>some (.call (.func g) (first++avs t args++caps))
  | .fn (.yield l) _ _=>some (.call (.yield l) (avs t args))
  | _=>none
 | .invoke tb x args =>
  match x.ev t with
  | .iface ty v =>
   match tb.find? fun p=>p.1==ty with
   | some p=>some (.call (.func p.2) (v::avs t args))
   | none=>none
  | _=>none
def wanted (t:List AV):Option (Nat × Bool)→Option Bool
 | none=>some true
 | some (j,b) =>
  match t[j]? with
  | some (.bool c)=>some (c==b)
  | some .undef=>none
  | some .junk=>none
  | _=>some false
abbrev aAc:=Fn→List AV→aA0→Option (AV × aA0)
def aAw (call:aAc) (o:AOper) (s:St):Option St :=
 match wanted s.t o.guard with
 | none=>none
 | some false=>some { s with t:=put s.t o.dst AV.un }
 | some true =>
  match aop s.h s.t o.op with
  | none=>none
  | some (.v x h)=>some ⟨put s.t o.dst x,h⟩
  | some (.call f args) =>
   match call f args s.h with
   | some (x,h)=>some ⟨put s.t o.dst x,h⟩
   | none=>none
def aAJ (call:aAc):List AOper→St→Option St
 | [],s=>some s
 | o::r,s =>
  match aAw call o s with
  | some s=>aAJ call r s
  | none=>none
def aAj (body:St→Option (Out × St)):Nat→St→Option (Out × St)
 | 0,_=>none
 | n+1,s =>
  match body s with
  | some (.normal,s)=>aAj body n s
  | r=>r
def rdy (ws:List (List Nat)) (listed:List Bool):List Nat:=(List.range ws.length).filter fun i => !listed.getD i true && (ws.getD i []).all fun k=>listed.getD k false
def aIb (ws:List (List Nat)) (sw:Nat→Nat→Bool) (listed:List Bool) (i:Nat):Bool :=
 (List.range ws.length).all fun j=>j==i || listed.getD j true || (ws.getD j []).contains i || sw i j
def aAK (run:Nat→St→Option St) (ws:List (List Nat)) (sw:Nat→Nat→Bool) (m:Nat):Nat→List Bool→St→Option St
 | 0,listed,s=>if rdy ws listed=[] then some s else none
 | n+1,listed,s =>
  match (rdy ws listed).find? (aIb ws sw listed) with
  | some i=>(run i s).bind (aAK run ws sw m n (listed.set i true))
  | none =>
   match rdy ws listed with
   | []=>some s
   | i::rest =>
    match (run i s).bind (aAK run ws sw m n (listed.set i true)) with
    | none=>none
    | some s'=>if rest.all (fun j=>aFB m ((run j s).bind (aAK run ws sw m n (listed.set j true))) (some s')) then some s' else none
def aEK (sw:List (List Bool)) (i j:Nat):Bool:=(sw.getD i []).getD j false
def aAz:List Bool→List AV→List AV
 | true::l,v::t=>v::aAz l t
 | false::l,_::t=>.junk::aAz l t
 | _,t=>t
def aA1 (call:aAc) (n:Nat):ACode→St→Option (Out × St)
 | .skip,s=>some (.normal,s)
 | .ops l,s=>(aAJ call l s).map fun s=>(.normal,s)
 | .draw l ws sw,s=>(aAK (fun i=>aAw call (l.getD i default)) ws (aEK sw) s.h.length ws.length (Q0 ws.length false) s).map fun s=>(.normal,s)
 | .seq a b,s =>
  match aA1 call n a s with
  | some (.normal,s)=>aA1 call n b s
  | r=>r
 | .cond c a b,s =>
  match c.ev s.t with
  | .bool true=>aA1 call n a s
  | .bool false=>aA1 call n b s
  | _=>none
 | .block id c,s =>
  match aA1 call n c s with
  | some (.exit j,s)=>if j=id then some (.normal,s) else some (.exit j,s)
  | r=>r
 | .loop c,s =>
  aAj (aA1 call n c) n s
 | .range f ps asg body,s =>
  match f.ev s.t with
  | .fn (.func g) first caps =>
   match call (.func g) (first++[.fn (.yield s.h.length) [] []]++caps) (s.h++[.loop .ready none s.t ps asg body]) with
   | some (_,h) =>
    match h[s.h.length]? with
    | some (.loop st pend t ps asg body) =>
     if st=.busy then none else
     some (pend.getD .normal,⟨s.t,h.set s.h.length (.loop .exhausted pend t ps asg body)⟩)
    | _=>none
   | none=>none
  | _=>none
 | .kill l,s=>some (.normal,⟨aAz l s.t,s.h⟩)
 | .exit id,s=>some (.exit id,s)
 | .ret,s=>some (.ret,s)
def aA7 (s:St):ARes→Option AV
 | .tmp t=>some (s.t.getD t AV.un)
 | .cell a n agg=>aA2 s.h n agg (s.t.getD a AV.un)
def aA5 (s:St):List ARes→Option (List AV)
 | []=>some []
 | r::rs =>
  match aA7 s r,aA5 s rs with
  | some v,some vs=>some (v::vs)
  | _,_=>none
def aA6 (s:St) (rs:List ARes):Option AV :=
 match aA5 s rs with
 | some [v]=>some v
 | some vs=>some (.tup vs)
 | none=>none
def aAS (call:aAc) (n:Nat) (fn:AFn) (args:List AV) (h:aA0):Option (AV × aA0) :=
 match aA1 call n fn.body ⟨args++Q0 (fn.ntmps - args.length) AV.un,h⟩ with
 | some (.normal,s) | some (.ret,s)=>(aA6 s fn.results).map fun v=>(v,s.h)
 | _=>none
def aAk {α β:Type} (f:α→Option β):List α→Option (List β)
 | []=>some []
 | x::r =>
  match f x,aAk f r with
  | some y,some ys=>some (y::ys)
  | _,_=>none
def freeze (h:aA0):Nat→AV→Option (AV × Bool)
 | 0,_=>none
 | d+1,x =>
  match x with
  | .undef=>none
  | .junk=>none
  | .ptr i v e o =>
   match aA3 h i v with
   | some (_,_,l) =>
    match l[e]? with
    | some cells=>(aAk (freeze h d) cells).map fun c=>(.vptr (c.map (·.1)) o,false)
    | none=>none
   | none=>none
  | .hsl i v o n _ =>
   match aA3 h i v with
   | some (_,_,l) =>
    if o+n≤l.length then
     (aAk (aAk (freeze h d)) ((l.drop o).take n)).map fun c=>(.vsl false (c.map (·.map (·.1))),false)
    else none
   | none=>none
  | .map _=>none
  | .fn f a b =>
   match f,aAk (freeze h d) a,aAk (freeze h d) b with
   | .func _,some a,some b=>some (.fn f (a.map (·.1)) (b.map (·.1)),a.all (·.2) && b.all (·.2))
   | _,_,_=>none
  | .iface t x=>(freeze h d x).map fun (x,b)=>(.iface t x,b)
  | .agg l=>(aAk (freeze h d) l).map fun l=>(.agg (l.map (·.1)),l.all (·.2))
  | .tup l=>(aAk (freeze h d) l).map fun l=>(.tup (l.map (·.1)),l.all (·.2))
  | x=>some (x,true)
def aFE:AV→Bool
 | .bool _ | .int _ _ | .str _ | .nilP | .nilS | .nilM | .nilF | .nilI=>true
 | _=>false
def aJk:AV→Bool
 | .agg l=>l.all aFE
 | x=>aFE x
def aDC:AV→Bool
 | .tup l=>l.all aJk
 | x=>aJk x
structure Cfg where
 P:Nat→Option AFn
 pu:Nat→Bool
 ix:Nat→Option (List AV→Option AV)
def aF9:List AV→List Nat→List AV→List AV
 | t,p::ps,a::as'=>aF9 (t.set p a) ps as'
 | t,_,_=>t
def aBr (h:aA0):Nat→AV→Bool
 | 0,_=>false
 | d+1,x =>
  match x with
  | .ptr i v e _ =>
   match aA3 h i v with
   | some (_,_,l) =>
    match l[e]? with
    | some cells=>cells.all (aBr h d)
    | none=>false
   | none=>false
  | .hsl i v o n _ =>
   match aA3 h i v with
   | some (_,_,l)=>((l.drop o).take n).all fun cells=>cells.all (aBr h d)
   | none=>false
  | .iface _ x=>aBr h d x
  | .agg l=>l.all (aBr h d)
  | .tup l=>l.all (aBr h d)
  | x=>aFE x
def aAa (C:Cfg) (call:aAc) (k:Nat) (g:Nat) (l:List AV):Option AV :=
 match C.ix g with
 | some fx=>fx l
 | none =>
  match C.P g with
  | some fn =>
   match aAS call k fn l [] with
   | some (v,h')=>(freeze h' 1000 v).map (·.1)
   | none=>none
  | none=>none
def aDA (C:Cfg) (call:aAc) (k:Nat) (g:Nat) (l:List AV):Bool :=
 match C.ix g with
 | some _=>false
 | none =>
  match C.P g with
  | some fn =>
   match aAS call k fn l [] with
   | some (v,h')=>aBr h' 1000 v
   | none=>false
  | none=>false
def aB5 (C:Cfg) (call:aAc) (k:Nat) (g:Nat) (args:List AV) (h:aA0):Option (AV × aA0) :=
 match aAk (freeze h 1000) args with
 | some l =>
  match aAa C call k g (l.map (·.1)) with
  | some v=>bif l.all (·.2) || aDC v || aDA C call k g (l.map (·.1)) then some (v,h) else none
  | none=>none
 | none=>none
def aCz (call:aAc) (k:Nat) (l:Nat) (args:List AV) (h:aA0):Option (AV × aA0) :=
 match h[l]? with
 | some (.loop _ _ t ps asg body) =>
  if args.length=ps.length then
   match aA1 call k asg ⟨aF9 t ps args,h⟩ with
   | some (.normal,s) =>
    match s.h[l]? with
    | some (.loop .ready pend t ps asg' body') =>
     match aA1 call k body ⟨s.t,s.h.set l (.loop .busy pend t ps asg' body')⟩ with
     | some (out,s) =>
      match s.h[l]? with
      | some (.loop _ _ t ps asg body) =>
       some (.bool (out=.normal),s.h.set l (.loop (if out=.normal then .ready else .done) (if out=.normal then none else some out) t ps asg body))
      | _=>none
     | none=>none
    | _=>none
   | _=>none
  else none
 | _=>none
def aBe (C:Cfg):Nat→aAc
 | 0=>fun _ _ _=>none
 | k+1=>fun f args h =>
  match f with
  | .func g =>
   if C.pu g then aB5 C (aBe C k) k g args h
   else
    match C.P g with
    | some fn=>aAS (aBe C k) k fn args h
    | none=>none
  | .yield l=>aCz (aBe C k) k l args h
  | _=>none
end Go.Proofs.Yteenffomgdfocaa.Ai
