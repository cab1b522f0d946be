/- An abstract interpreter of the model's code: abstract values, abstract memory, the compiled form of a function, the interpreter. Definitions alone. -/
import Derived.OrdersIn
import Derived.LoopNIn
import Derived.RangeFuncLeaves
import Derived.RangeFuncCalls
import Derived.Below
namespace Go.Proofs.Ytgeedikghjcebaa.Ai
open Go
open List renaming replicate → Q0
open Nat renaming ble → Q1
set_option linter.unusedVariables false
inductive AV where
 | undef
 | junk
 | bool (b:Bool)
 | int (k:IntKind) (n:Int)
 | str (s:List UInt8)
 | nilP | nilS | nilM | nilF | nilI
 | ptr (i v e o:Nat)
 | vptr (cells:List AV) (o:Nat)
 | vsl (ex:Bool) (l:List (List AV))
 | hsl (i v o n:Nat) (c:Option Nat)
 | map (i:Nat)
 | fn (f:Fn) (first caps:List AV)
 | iface (t:TypeId) (x:AV)
 | agg (l:List AV)
 | tup (l:List AV)
 deriving Inhabited
inductive AX where
 | t (i:Nat)
 | c (v:AV)
 deriving Inhabited
inductive Sc where
 | int | str | bool
 deriving DecidableEq,Inhabited
inductive EqK where
 | num | bool | ptr | slice | fn
 | struct (l:List Sc)
 deriving Inhabited
inductive LenK where
 | str | slice | map
 deriving DecidableEq,Inhabited
inductive AOp where
 | mv (x:AX)
 | pick (c a b:AX)
 | alloc (zero:List AV)
 | box (sz:Nat) (x:AX)
 | load (n:Nat) (agg:Bool) (a:AX)
 | store (n:Nat) (a x:AX)
 | nilCheck (x:AX)
 | bin (op:BinOp) (q:EqK) (x y:AX)
 | un (op:UnOp) (x:AX)
 | convInt (k:IntKind) (x:AX)
 | strBytes (x:AX)
 | bytesStr (x:AX)
 | markB (x:AX)
 | convStr (x:AX)
 | mkFunc (f:Fn) (first caps:List AX)
 | mkMap
 | mkSlice (sz bytes:Nat) (zero:List AV) (len cap:AX)
 | slice (sz:Nat) (x:AX) (lo hi mx:Option AX)
 | sliceStr (x:AX) (lo hi:Option AX)
 | fieldAddr (off:Nat) (x:AX)
 | field (off n:Nat) (agg:Bool) (x:AX)
 | indexAddr (sz:Nat) (x i:AX)
 | indexArr (len sz:Nat) (x i:AX)
 | indexStr (x i:AX)
 | indexAgg (len sz:Nat) (agg:Bool) (x i:AX)
 | lookup (q:Sc) (zero:AV) (ok:Bool) (m k:AX)
 | mapUpdate (q:Sc) (m k x:AX)
 | extract (x:AX) (i:Nat)
 | len (q:LenK) (x:AX)
 | cap (x:AX)
 | append (sz bytes:Nat) (s x:AX)
 | appendZ (sz bytes:Nat) (zero:List AV) (s x:AX)
 | copy (sz:Nat) (d s:AX)
 | delete (q:Sc) (m k:AX)
 | minmax (mx:Bool) (xs:List AX)
 | build (zero:List AV) (parts:List (Nat × Nat × AX))
 | buildSlice (heap:Bool) (sz len:Nat) (zero:List AV) (parts:List (Nat × AX))
 | mkIface (t:TypeId) (x:AX)
 | call (f:AX) (args:List AX)
 | fail
 deriving Inhabited
structure AOper where
 dst:Option Nat
 op:AOp
 guard:Option (Nat × Bool)
 deriving Inhabited
inductive ACode where
 | skip
 | ops (l:List AOper)
 | draw (l:List AOper) (ws:List (List Nat)) (sw:List (List Bool))
 | seq (a b:ACode)
 | cond (c:AX) (thn els:ACode)
 | block (id:Nat) (body:ACode)
 | loop (body:ACode)
 | range (f:AX) (ps:List Nat) (asg body:ACode)
 | kill (l:List Bool)
 | exit (id:Nat)
 | ret
 deriving Inhabited
inductive ARes where
 | tmp (t:Nat)
 | cell (a n:Nat) (agg:Bool)
 deriving Inhabited
structure AFn where
 ntmps:Nat
 results:List ARes
 body:ACode
 deriving Inhabited
inductive Out where
 | normal
 | exit (id:Nat)
 | ret
 deriving DecidableEq,Inhabited
inductive LS where
 | ready | busy | done | exhausted
 deriving DecidableEq,Inhabited
inductive AObj where
 | arr (v sz:Nat) (x:Bool) (l:List (List AV))
 | map (l:List (AV × AV))
 | loop (st:LS) (pend:Option Out) (t:List AV) (ps:List Nat) (asg body:ACode)
 deriving Inhabited
abbrev aA0:=List AObj
structure St where
 t:List AV
 h:aA0
 deriving Inhabited
mutual
def eqV:AV→AV→Bool
 | .undef,.undef=>true
 | .junk,.junk=>true
 | .bool a,.bool b=>a==b
 | .int k a,.int l b=>decide (k=l) && decide (a=b)
 | .str a,.str b=>decide (a=b)
 | .nilP,.nilP | .nilS,.nilS | .nilM,.nilM | .nilF,.nilF | .nilI,.nilI=>true
 | .ptr i v e o,.ptr i' v' e' o'=>decide (i=i') && decide (v=v') && decide (e=e') && decide (o=o')
 | .vptr a o,.vptr b p=>aGA a b && decide (o=p)
 | .vsl e a,.vsl f b=>decide (e=f) && aIT a b
 | .hsl i v o n c,.hsl i' v' o' n' c'=>decide (i=i') && decide (v=v') && decide (o=o') && decide (n=n') && decide (c=c')
 | .map i,.map j=>decide (i=j)
 | .fn f a b,.fn g c d=>decide (f=g) && aGA a c && aGA b d
 | .iface t a,.iface u b=>decide (t=u) && eqV a b
 | .agg a,.agg b=>aGA a b
 | .tup a,.tup b=>aGA a b
 | _,_=>false
def aGA:List AV→List AV→Bool
 | [],[]=>true
 | a::x,b::y=>eqV a b && aGA x y
 | _,_=>false
def aIT:List (List AV)→List (List AV)→Bool
 | [],[]=>true
 | a::x,b::y=>aGA a b && aIT x y
 | _,_=>false
end
mutual
theorem aKD:∀ a b:AV,eqV a b=true→a=b
 | .vptr a o,b,h=>by
  cases b <;> simp [eqV] at h
  rw [aFB a _ h.1,h.2]
 | .vsl e a,b,h=>by
  cases b <;> simp [eqV] at h
  rw [aM1 a _ h.2,h.1]
 | .fn f a c,b,h=>by
  cases b <;> simp [eqV] at h
  rw [h.1.1,aFB a _ h.1.2,aFB c _ h.2]
 | .iface t a,b,h=>by
  cases b <;> simp [eqV] at h
  rw [h.1,aKD a _ h.2]
 | .agg a,b,h=>by
  cases b <;> simp [eqV] at h
  rw [aFB a _ h]
 | .tup a,b,h=>by
  cases b <;> simp [eqV] at h
  rw [aFB a _ h]
 | .undef,b,h | .junk,b,h | .nilP,b,h | .nilS,b,h | .nilM,b,h | .nilF,b,h | .nilI,b,h=>by cases b <;> simp [eqV] at h <;> rfl
 | .bool a,b,h | .str a,b,h | .map a,b,h=>by cases b <;> simp [eqV] at h;rw [h]
 | .int k a,b,h=>by cases b <;> simp [eqV] at h;rw [h.1,h.2]
 | .ptr i v e o,b,h=>by cases b <;> simp [eqV] at h;obtain ⟨⟨⟨rfl,rfl⟩,rfl⟩,rfl⟩:=h;rfl
 | .hsl i v o n c,b,h=>by cases b <;> simp [eqV] at h;obtain ⟨⟨⟨⟨rfl,rfl⟩,rfl⟩,rfl⟩,rfl⟩:=h;rfl
theorem aFB:∀ a b:List AV,aGA a b=true→a=b
 | [],b,h=>by cases b <;> simp [aGA] at h;rfl
 | a::x,b,h=>by
  cases b <;> simp [aGA] at h
  rw [aKD a _ h.1,aFB x _ h.2]
theorem aM1:∀ a b:List (List AV),aIT a b=true→a=b
 | [],b,h=>by cases b <;> simp [aIT] at h;rfl
 | a::x,b,h=>by
  cases b <;> simp [aIT] at h
  rw [aFB a _ h.1,aM1 x _ h.2]
end
mutual
theorem aJP:∀ a:AV,eqV a a=true
 | .vptr a o=>by simp [eqV,aE1 a]
 | .vsl e a=>by simp [eqV,aJO a]
 | .fn f a c=>by simp [eqV,aE1 a,aE1 c]
 | .iface t a=>by simp [eqV,aJP a]
 | .agg a=>by simp [eqV,aE1 a]
 | .tup a=>by simp [eqV,aE1 a]
 | .undef | .junk | .nilP | .nilS | .nilM | .nilF | .nilI | .bool _ | .str _ | .map _ | .int _ _ | .ptr _ _ _ _ | .hsl _ _ _ _ _=>by simp [eqV]
theorem aE1:∀ a:List AV,aGA a a=true
 | []=>rfl
 | a::x=>by simp [aGA,aJP a,aE1 x]
theorem aJO:∀ a:List (List AV),aIT a a=true
 | []=>rfl
 | a::x=>by simp [aIT,aE1 a,aJO x]
end
instance:DecidableEq AV:=fun a b=>if h:eqV a b=true then .isTrue (aKD a b h) else .isFalse fun e=>h (e ▸ aJP a)
deriving instance DecidableEq for AX
deriving instance DecidableEq for EqK
deriving instance DecidableEq for AOp
deriving instance DecidableEq for AOper
deriving instance DecidableEq for ACode
deriving instance DecidableEq for AObj
deriving instance DecidableEq for St
def aM2:List (AV × AV)→List (AV × AV)→Bool
 | [],[]=>true
 | a::x,b::y=>eqV a.1 b.1 && (eqV a.2 b.2 && aM2 x y)
 | _,_=>false
def aMV:AObj→AObj→Bool
 | .arr v sz x l,.arr v' sz' x' l'=>Nat.beq v v' && (Nat.beq sz sz' && ((x==x') && aIT l l'))
 | .map l,.map l'=>aM2 l l'
 | .loop a b c d e f,.loop a' b' c' d' e' f'=>decide (AObj.loop a b c d e f=AObj.loop a' b' c' d' e' f')
 | _,_=>false
def aIm:List AObj→List AObj→Bool
 | [],[]=>true
 | a::x,b::y=>aMV a b && aIm x y
 | _,_=>false
def aL0:Option St→Option St→Bool
 | some a,some b=>aGA a.t b.t && aIm a.h b.h
 | _,_=>false
theorem aQE:∀ a b,aM2 a b=true→a=b
 | [],b,h=>by cases b <;> simp [aM2] at h;rfl
 | (a,c)::x,b,h=>by
  cases b <;> simp [aM2] at h
  rename_i p y
  obtain ⟨p1,p2⟩:=p
  rw [aKD a _ h.1,aKD c _ h.2.1,aQE x _ h.2.2]
theorem aOl:∀ a,aM2 a a=true
 | []=>rfl
 | (a,c)::x=>by simp [aM2,aJP,aOl x]
theorem aTx (a b:AObj) (h:aMV a b=true):a=b:=by
 cases a <;> cases b <;> simp [aMV] at h
 ·obtain ⟨h1,h2,h3,h4⟩:=h
  rw [h1,h2,h3,aM1 _ _ h4]
 ·rw [aQE _ _ h]
 ·obtain ⟨h1,h2,h3,h4,h5,h6⟩:=h
  rw [h1,h2,h3,h4,h5,h6]
theorem aRi (a:AObj):aMV a a=true:=by
 cases a <;> simp [aMV,aJO,aOl]
theorem aOm:∀ a b,aIm a b=true→a=b
 | [],b,h=>by cases b <;> simp [aIm] at h;rfl
 | a::x,b,h=>by
  cases b <;> simp [aIm] at h
  rw [aTx a _ h.1,aOm x _ h.2]
theorem aLC:∀ a,aIm a a=true
 | []=>rfl
 | a::x=>by simp [aIm,aRi,aLC x]
theorem aKm (a:Option St) (s:St):aL0 a (some s)=decide (a=some s):=by
 rw [Bool.eq_iff_iff,decide_eq_true_eq]
 cases a with
 | none=>simp [aL0]
 | some a =>
  obtain ⟨t,h⟩:=a
  obtain ⟨t',h'⟩:=s
  simp only [aL0,Bool.and_eq_true,Option.some.injEq,St.mk.injEq]
  exact ⟨fun q=>⟨aFB _ _ q.1,aOm _ _ q.2⟩,fun q=>by rw [q.1,q.2];exact ⟨aE1 _,aLC _⟩⟩
def tr2 (i j k:Nat):Nat:=if k=i then j else if k=j then i else k
def aVh (i j:Nat):Fn→Fn
 | .yield l=>.yield (tr2 i j l)
 | f=>f
mutual
def aB1 (i j:Nat):AV→AV
 | .ptr k v e o=>.ptr (tr2 i j k) v e o
 | .hsl k v o n c=>.hsl (tr2 i j k) v o n c
 | .map k=>.map (tr2 i j k)
 | .fn f a b=>.fn (aVh i j f) (aBV i j a) (aBV i j b)
 | .iface t x=>.iface t (aB1 i j x)
 | .agg l=>.agg (aBV i j l)
 | .tup l=>.tup (aBV i j l)
 | x=>x
def aBV (i j:Nat):List AV→List AV
 | []=>[]
 | x::l=>aB1 i j x::aBV i j l
end
def aEv (i j:Nat):AObj→AObj
 | .arr v sz x l=>.arr v sz x (l.map (aBV i j))
 | .map l=>.map (l.map fun p=>(aB1 i j p.1,aB1 i j p.2))
 | .loop st p t ps a b=>.loop st p (aBV i j t) ps a b
def aDo {α:Type} (i j:Nat) (l:List α):List α :=
 match l[i]?,l[j]? with
 | some a,some b=>(l.set i b).set j a
 | _,_=>l
def aHU (i j:Nat) (s:St):St:=⟨aBV i j s.t,aDo i j (s.h.map (aEv i j))⟩
def plc:AV→Option Nat
 | .ptr k _ _ _ | .hsl k _ _ _ _ | .map k=>some k
 | _=>none
def aDu:List (Nat × Nat)→Nat→Nat
 | [],k=>k
 | p::r,k=>aDu r (tr2 p.1 p.2 k)
def aEw (m n:Nat):List AV→List AV→List (Nat × Nat)→List (Nat × Nat)
 | x::xs,y::ys,ps =>
  match plc x,plc y with
  | some i,some j =>
   if Nat.beq (aDu ps i) j || !(Q1 m (aDu ps i) && Q1 m j && Q1 (aDu ps i+1) n && Q1 (j+1) n) then aEw m n xs ys ps
   else aEw m n xs ys (ps++[(aDu ps i,j)])
  | _,_=>aEw m n xs ys ps
 | _,_,ps=>ps
def aIM (m:Nat):List (Nat × Nat)→St→Option St
 | [],s=>some s
 | (i,j)::r,s=>if Q1 m i && Q1 m j && !Nat.beq i j && Q1 (i+1) s.h.length && Q1 (j+1) s.h.length then aIM m r (aHU i j s) else none
def aE6 (m:Nat):Option St→Option St→Bool
 | some a,some b=>aL0 (some a) (some b) || aL0 (aIM m (aEw m a.h.length a.t b.t []) a) (some b)
 | _,_=>false
def AV.un:AV:=.tup []
def AX.ev (t:List AV):AX→AV
 | .t i=>t.getD i AV.un
 | .c v=>v
def put (t:List AV) (d:Option Nat) (v:AV):List AV :=
 match d with
 | none=>t
 | some d=>t.set d v
def cellsOf:AV→List AV
 | .agg cs=>cs
 | .junk=>[]
 | v=>[v]
def aAr:AV→Bool
 | .undef | .junk | .agg _ | .tup _=>false
 | _=>true
def aAe (h:aA0) (i v:Nat):Option (Nat × Bool × List (List AV)) :=
 match h[i]? with
 | some (.arr v' sz x l)=>if v=v' then some (sz,x,l) else none
 | _=>none
def part (cells:List AV) (o n:Nat):Option (List AV) :=
 if o+n≤cells.length then some ((cells.drop o).take n) else none
def aF2 (agg:Bool) (cs:List AV):Option AV :=
 if agg then some (.agg cs) else
 match cs with
 | [x]=>some x
 | _=>none
def aAy (h:aA0) (n:Nat):AV→Option (List AV)
 | .ptr i v e o =>
  match aAe h i v with
  | some (_,_,l) =>
   match l[e]? with
   | some cells=>part cells o n
   | none=>none
  | none=>none
 | .vptr cells o=>part cells o n
 | _=>none
def aAd (h:aA0) (n:Nat) (agg:Bool) (p:AV):Option AV:=(aAy h n p).bind (aF2 agg)
def aAx (cells:List AV) (o:Nat) (xs:List AV):List AV:=cells.take o++xs++cells.drop (o+xs.length)
def aAw (h:aA0) (n:Nat) (a x:AV):Option aA0 :=
 match a with
 | .ptr i v e o =>
  match aAe h i v with
  | some (sz,k,l) =>
   match l[e]? with
   | some cells =>
    if (cellsOf x).length=n∧o+n≤cells.length∧(cellsOf x).all aAr then
     some (h.set i (.arr v sz k (l.set e (aAx cells o (cellsOf x)))))
    else none
   | none=>none
  | none=>none
 | _=>none
def aEx (op:BinOp) (k:IntKind) (a b:Int):Option AV :=
 match op with
 | .add=>some (.int k (k.wrap (a+b)))
 | .sub=>some (.int k (k.wrap (a - b)))
 | .mul=>some (.int k (k.wrap (a*b)))
 | .quo=>if b=0 then none else some (.int k (k.wrap (a.tdiv b)))
 | .rem=>if b=0 then none else some (.int k (a.tmod b))
 | .and=>some (.int k (k.wrap (BitVec.ofInt k.bits a &&& BitVec.ofInt k.bits b).toNat))
 | .or=>some (.int k (k.wrap (BitVec.ofInt k.bits a ||| BitVec.ofInt k.bits b).toNat))
 | .xor=>some (.int k (k.wrap (BitVec.ofInt k.bits a ^^^ BitVec.ofInt k.bits b).toNat))
 | .andNot=>some (.int k (k.wrap (BitVec.ofInt k.bits a &&& ~~~ BitVec.ofInt k.bits b).toNat))
 | .eql=>some (.bool (a==b))
 | .neq=>some (.bool (a != b))
 | .lss=>some (.bool (a < b))
 | .leq=>some (.bool (a≤b))
 | .gtr=>some (.bool (a > b))
 | .geq=>some (.bool (a ≥ b))
 | _=>none
def aIp (op:BinOp) (k:IntKind) (a b:Int):Option AV :=
 if b < 0 then none else
 match op with
 | .shl=>some (.int k (k.wrap (a*2 ^ (min b.toNat k.bits))))
 | .shr=>some (.int k (a.fdiv (2 ^ (min b.toNat k.bits))))
 | _=>none
def aGL:List UInt8→List UInt8→Bool
 | _,[]=>false
 | [],_::_=>true
 | a::x,b::y=>a < b || (a==b && aGL x y)
def aRn (op:BinOp) (a b:List UInt8):Option AV :=
 match op with
 | .add=>if a.length+b.length≤1152921504606846976 then some (.str (a++b)) else none
 | .eql=>some (.bool (a==b))
 | .neq=>some (.bool !(a==b))
 | .lss=>some (.bool (aGL a b))
 | .leq=>some (.bool (aGL a b || a==b))
 | .gtr=>some (.bool !(aGL a b || a==b))
 | .geq=>some (.bool !(aGL a b))
 | _=>none
def aJ9:Sc→AV→AV→Option Bool
 | .int,.int k a,.int k' b=>if k=k' then some (a==b) else none
 | .str,.str a,.str b=>some (a==b)
 | .bool,.bool a,.bool b=>some (a==b)
 | _,_,_=>none
def aM8:List Sc→List AV→List AV→Option Bool
 | [],[],[]=>some true
 | q::qs,x::xs,y::ys =>
  match aJ9 q x y,aM8 qs xs ys with
  | some b,some c=>some (b && c)
  | _,_=>none
 | _,_,_=>none
def aeq:EqK→AV→AV→Option Bool
 | .bool,.bool a,.bool b=>some (a==b)
 | .struct qs,.agg xs,.agg ys=>aM8 qs xs ys
 | .ptr,.nilP,.nilP=>some true
 | .ptr,.nilP,.ptr _ _ _ _=>some false
 | .ptr,.ptr _ _ _ _,.nilP=>some false
 | .ptr,.nilP,.vptr _ _=>some false
 | .ptr,.vptr _ _,.nilP=>some false
 | .slice,.nilS,.nilS=>some true
 | .slice,.hsl _ _ _ _ _,.nilS=>some false
 | .slice,.nilS,.hsl _ _ _ _ _=>some false
 | .slice,.vsl _ (_::_),.nilS=>some false
 | .slice,.nilS,.vsl _ (_::_)=>some false
 | .fn,.nilF,.nilF=>some true
 | .fn,.nilF,.fn _ _ _=>some false
 | .fn,.fn _ _ _,.nilF=>some false
 | _,_,_=>none
def aB2 (op:BinOp) (q:EqK) (x y:AV):Option AV :=
 match x,y with
 | .int k a,.int k' b =>
  if op=.shl∨op=.shr then aIp op k a b
  else if k=k' then aEx op k a b else none
 | .str a,.str b=>aRn op a b
 | x,y =>
  match op with
  | .eql=>(aeq q x y).map .bool
  | .neq=>(aeq q x y).map fun b=>.bool !b
  | _=>none
def aun (op:UnOp) (x:AV):Option AV :=
 match op,x with
 | .neg,.int k n=>some (.int k (k.wrap (0 - n)))
 | .not,.bool b=>some (.bool !b)
 | .xor,.int k n=>some (.int k (k.wrap (BitVec.ofInt k.bits (if k.signed then -1 else k.max) ^^^ BitVec.ofInt k.bits n).toNat))
 | _,_=>none
def aAF (h:aA0) (sz:Nat):AV→Option (List (List AV))
 | .nilS=>some []
 | .vsl _ l =>
  match l with
  | []=>some []
  | c::r=>if c.length==sz then some (c::r) else none
 | .hsl i v o n _ =>
  match aAe h i v with
  | some (sz',_,l)=>if sz'=sz∧o+n≤l.length then some ((l.drop o).take n) else none
  | none=>none
 | .str s=>if sz=1 then some (s.map fun b=>[.int .u8 b.toNat]) else none
 | _=>none
def aDQ:Option AV→Option (Option Int)
 | none=>some none
 | some (.int _ n)=>some (some n)
 | _=>none
def aCc (len lim:Nat) (lo hi mx:Option AV):Option (Nat × Nat × Option Nat) :=
 match aDQ lo,aDQ hi,aDQ mx with
 | some lo,some hi,some mx =>
  let l:=lo.getD 0
  let h:=hi.getD len
  if 0≤l∧l≤h∧h≤(lim:Int) then
   match mx with
   | none=>some (l.toNat,h.toNat,none)
   | some m=>if h≤m∧m≤(lim:Int)∧hi.isSome then some (l.toNat,h.toNat,some m.toNat) else none
  else none
 | _,_,_=>none
def aKw (sz:Nat):List (List AV)→Bool
 | []=>true
 | c::_=>c.length==sz
def aFG (n:Nat):Option Nat→Nat
 | none=>n
 | some c=>c
def aFN (ex:Bool) (len b:Nat):Option Nat→Bool
 | none=>ex && b==len
 | some m=>m==b
def aBB (h:aA0) (sz:Nat) (x:AV) (lo hi mx:Option AV):Option AV :=
 match x with
 | .nilS=>(aCc 0 0 lo hi mx).map fun _=>.nilS
 | .vsl ex l =>
  match aCc l.length l.length lo hi mx with
  | some (a,b,m)=>if aKw sz ((l.take b).drop a) then some (.vsl (aFN ex l.length b m) ((l.take b).drop a)) else none
  | none=>none
 | .hsl i v o n c =>
  match aAe h i v with
  | some (sz',_,l) =>
   if sz'=sz∧o+n≤l.length then
    match aCc n (aFG (l.length - o) c) lo hi mx with
    | some (a,b,none)=>some (.hsl i v (o+a) (b - a) (c.map (· - a)))
    | some (a,b,some m)=>some (.hsl i v (o+a) (b - a) (some (m - a)))
    | none=>none
   else none
  | none=>none
 | _=>none
def aKI (x:AV) (lo hi:Option AV):Option AV :=
 match x with
 | .str s =>
  match aCc s.length s.length lo hi none with
  | some (a,b,_)=>some (.str ((s.take b).drop a))
  | none=>none
 | _=>none
def aAP (h:aA0) (sz:Nat) (x i:AV):Option AV :=
 match x,i with
 | .vsl _ l,.int _ j =>
  if 0≤j then
   match l[j.toNat]? with
   | some cells=>if cells.length=sz then some (.vptr cells 0) else none
   | none=>none
  else none
 | .hsl i v o n _,.int _ j =>
  match aAe h i v with
  | some (sz',_,_)=>if sz'=sz∧0≤j∧j < (n:Int) then some (.ptr i v (o+j.toNat) 0) else none
  | none=>none
 | _,_=>none
def aEA (h:aA0) (x:AV) (off:Nat):Option AV :=
 match x with
 | .ptr i v e o=>some (.ptr i v e (o+off))
 | .vptr cells o=>some (.vptr cells (o+off))
 | _=>none
def aEz (q:Sc) (k:AV):List (AV × AV)→Nat→Option (Option (Nat × AV))
 | [],_=>some none
 | (k',x)::r,i =>
  match aJ9 q k k' with
  | some true=>some (some (i,x))
  | some false=>aEz q k r (i+1)
  | none=>none
def aIQ:Sc→AV→Bool
 | .int,.int _ _ | .str,.str _ | .bool,.bool _=>true
 | _,_=>false
def aCz (h:aA0):AV→Option (List (AV × AV))
 | .nilM=>some []
 | .map i =>
  match h[i]? with
  | some (.map l)=>some l
  | _=>none
 | _=>none
def aGx (ok:Bool) (z:AV):Option (Nat × AV)→AV
 | some (_,x)=>if ok then .tup [x,.bool true] else x
 | none=>if ok then .tup [z,.bool false] else z
def aRI (l:List (AV × AV)) (k x:AV):Option (Nat × AV)→List (AV × AV)
 | some (j,_)=>l.set j (k,x)
 | none=>l++[(k,x)]
def aSp (l:List (AV × AV)):Option (Nat × AV)→List (AV × AV)
 | some (j,_)=>l.eraseIdx j
 | none=>l
def aAG (cells:List AV):List (Nat × Nat × AV)→Option (List AV)
 | []=>some cells
 | (o,n,x)::r =>
  if 0 < n∧(cellsOf x).length=n∧o+n≤cells.length then aAG (aAx cells o (cellsOf x)) r else none
def pure1:AV→Bool
 | .bool _ | .int _ _ | .str _ | .nilP | .nilS | .nilM | .nilF | .nilI | .vptr _ _ | .vsl _ _ | .fn (.func _) [] []=>true
 | _=>false
def aBe (sz:Nat) (l:List (Nat × AV)):List (Nat × Nat × AV):=l.map fun (i,x)=>(i*sz,sz,x)
def aCi (sz:Nat):Nat→List AV→List (List AV)
 | 0,_=>[]
 | n+1,l=>l.take sz::aCi sz n (l.drop sz)
def amm (mx:Bool):AV→List AV→Option AV
 | x,[]=>some x
 | .int k x,.int _ y::r=>amm mx (.int k (if (if mx then y > x else y < x) then y else x)) r
 | _,_=>none
def aC2 (h:aA0) (sz bytes:Nat) (l:List (List AV)):Option (AV × aA0) :=
 if l.length*(bytes+1)≤68719476736∧l.all (fun c=>c.length==sz && c.all aAr)=true then
  some (.hsl h.length 0 0 l.length none,h++[.arr 0 sz false l])
 else none
def aJh (n:Nat):Option Nat→Bool
 | none=>true
 | some c=>decide (n≤c)
def aDG (h:aA0) (sz bytes:Nat) (s:AV) (xs:List (List AV)):Option (AV × aA0) :=
 match s with
 | .nilS=>aC2 h sz bytes xs
 | .vsl true l=>aC2 h sz bytes (l++xs)
 | .hsl i v o n c =>
  match aAe h i v with
  | some (sz',x,l) =>
   if sz'=sz∧o+n≤l.length then
    if o+n+xs.length≤l.length∧aJh (n+xs.length) c=true then
     if xs.all (fun c=>c.length==sz && c.all aAr) then
      some (.hsl i v o (n+xs.length) c,h.set i (.arr v sz x (l.take (o+n)++xs++l.drop (o+n+xs.length))))
     else none
    else
     match c with
     | some c=>if n+xs.length≤c then none else aC2 h sz bytes ((l.drop o).take n++xs)
     | none =>
      if ((l.drop o).take n++xs).length*(bytes+1)≤68719476736∧((l.drop o).take n++xs).all (fun c=>c.length==sz && c.all aAr)=true then
       some (.hsl i (v+1) 0 ((l.drop o).take n++xs).length none,h.set i (.arr (v+1) sz false ((l.drop o).take n++xs)))
      else none
   else none
  | none=>none
 | _=>none
def aJV (h:aA0) (s:AV):Option (AV × aA0) :=
 match s with
 | .nilS=>some (s,h)
 | .vsl _ _=>some (s,h)
 | .hsl i v _ _ _=>(aAe h i v).map fun _=>(s,h)
 | _=>none
def aDv (h:aA0) (sz bytes:Nat) (s:AV) (xs:List (List AV)):Option (AV × aA0) :=
 if xs.length=0 then aJV h s else aDG h sz bytes s xs
def aOF (h:aA0) (sz:Nat) (d:AV) (xs:List (List AV)):Option (AV × aA0) :=
 match d with
 | .hsl i v o n _ =>
  match aAe h i v with
  | some (sz',x,l) =>
   let m:=min xs.length n
   if sz'=sz∧o+n≤l.length∧(xs.take m).all (fun c=>c.length==sz && c.all aAr) then
    some (.int .i64 m,h.set i (.arr v sz x (l.take o++xs.take m++l.drop (o+m))))
   else none
  | none=>none
 | _=>none
def aBZ (h:aA0):LenK→AV→Option AV
 | .str,.str s=>some (.int .i64 s.length)
 | .slice,.nilS=>some (.int .i64 0)
 | .slice,.vsl _ l=>some (.int .i64 l.length)
 | .slice,.hsl _ _ _ n _=>some (.int .i64 n)
 | .map,m=>(aCz h m).map fun l=>.int .i64 l.length
 | _,_=>none
def aFb (h:aA0):AV→Option AV
 | .nilS=>some (.int .i64 0)
 | .vsl true l=>some (.int .i64 l.length)
 | .hsl i v o _ c =>
  match aAe h i v,c with
  | some _,some c=>some (.int .i64 c)
  | some (_,true,l),none=>some (.int .i64 ((l.length - o:Nat):Int))
  | _,_=>none
 | _=>none
inductive AR where
 | v (x:AV) (h:aA0)
 | call (f:Fn) (args:List AV)
def avs (t:List AV) (l:List AX):List AV:=l.map (AX.ev t)
def aFT:List (List AV)→Option (List UInt8)
 | []=>some []
 | [.int .u8 n]::r=>(aFT r).map fun l=>UInt8.ofNat n.toNat::l
 | _=>none
def aC3 (h:aA0) (v:AV):Option AV :=
 match v with
 | .str _=>none
 | v=>((aAF h 1 v).bind aFT).map .str
def aGY (h:aA0) (v:AV):Option AV :=
 match v with
 | .hsl i ver o n c=>if 0 < n then (aAe h i ver).map fun _=>.hsl i ver o n c else none
 | _=>none
def aop (h:aA0) (t:List AV) (o:AOp):Option AR :=
 let pure (x:Option AV):Option AR:=x.map fun v=>.v v h
 match o with
 | .mv x=>some (.v (x.ev t) h)
 | .pick c a b =>
  match c.ev t with
  | .bool true=>some (.v (a.ev t) h)
  | .bool false=>some (.v (b.ev t) h)
  | _=>none
 | .alloc zero=>some (.v (.ptr h.length 0 0 0) (h++[.arr 0 zero.length true [zero]]))
 | .box sz x =>
  if (cellsOf (x.ev t)).length=sz then some (.v (.ptr h.length 0 0 0) (h++[.arr 0 sz true [cellsOf (x.ev t)]])) else none
 | .load n agg a=>pure (aAd h n agg (a.ev t))
 | .store n a x=>(aAw h n (a.ev t) (x.ev t)).map fun h=>.v AV.un h
 | .nilCheck x =>
  match x.ev t with
  | .fn (.func f) a b=>some (.v (.fn (.func f) a b) h)
  | x=>pure (aEA h x 0)
 | .bin op q x y=>pure (aB2 op q (x.ev t) (y.ev t))
 | .un op x=>pure (aun op (x.ev t))
 | .convInt k x =>
  match x.ev t with
  | .int _ n=>some (.v (.int k (k.wrap n)) h)
  | _=>none
 | .strBytes x =>
  match x.ev t with
  | .str s=>some (.v (.hsl h.length 0 0 s.length none) (h++[.arr 0 1 false (s.map fun b=>[.int .u8 b.toNat])]))
  | _=>none
 | .bytesStr x=>pure (aC3 h (x.ev t))
 | .markB x=>pure (aGY h (x.ev t))
 | .fail=>none
 | .convStr x =>
  match x.ev t with
  | .str s=>some (.v (.str s) h)
  | _=>none
 | .mkFunc f first caps=>some (.v (.fn f (avs t first) (avs t caps)) h)
 | .mkMap=>some (.v (.map h.length) (h++[.map []]))
 | .mkSlice sz bytes zero len cap =>
  match len.ev t,cap.ev t with
  | .int _ l,.int _ c =>
   if 0≤l∧l≤c∧c*(bytes+1)≤70368744177664 then
    some (.v (.hsl h.length 0 0 l.toNat none) (h++[.arr 0 sz true (Q0 c.toNat zero)]))
   else none
  | _,_=>none
 | .slice sz x lo hi mx=>pure (aBB h sz (x.ev t) (lo.map (AX.ev t)) (hi.map (AX.ev t)) (mx.map (AX.ev t)))
 | .sliceStr x lo hi=>pure (aKI (x.ev t) (lo.map (AX.ev t)) (hi.map (AX.ev t)))
 | .fieldAddr off x=>pure (aEA h (x.ev t) off)
 | .field off n agg x =>
  match x.ev t with
  | .agg cs=>pure ((part cs off n).bind (aF2 agg))
  | _=>none
 | .indexAddr sz x i=>pure (aAP h sz (x.ev t) (i.ev t))
 | .indexArr len sz x i =>
  match i.ev t with
  | .int _ j=>if 0≤j∧j < (len:Int) then pure (aEA h (x.ev t) (j.toNat*sz)) else none
  | _=>none
 | .indexStr x i =>
  match x.ev t,i.ev t with
  | .str s,.int _ j=>if 0≤j then pure (s[j.toNat]?.map fun b=>.int .u8 b.toNat) else none
  | _,_=>none
 | .indexAgg len sz agg x i =>
  match x.ev t,i.ev t with
  | .agg cs,.int _ j=>if 0≤j∧j < (len:Int) then pure ((part cs (j.toNat*sz) sz).bind (aF2 agg)) else none
  | _,_=>none
 | .lookup q zero ok m k =>
  match aCz h (m.ev t) with
  | some l=>if aIQ q (k.ev t) then (aEz q (k.ev t) l 0).map fun r=>.v (aGx ok zero r) h else none
  | none=>none
 | .mapUpdate q m k x =>
  match m.ev t with
  | .map i =>
   match h[i]? with
   | some (.map l)=>if aIQ q (k.ev t) then (aEz q (k.ev t) l 0).map fun r=>.v AV.un (h.set i (.map (aRI l (k.ev t) (x.ev t) r))) else none
   | _=>none
  | _=>none
 | .extract x i =>
  match x.ev t with
  | .tup l=>pure l[i]?
  | _=>none
 | .len q x=>pure (aBZ h q (x.ev t))
 | .cap x=>pure (aFb h (x.ev t))
 | .append sz bytes s x =>
  match aAF h sz (x.ev t) with
  | some xs=>(aDv h sz bytes (s.ev t) xs).map fun (v,h)=>.v v h
  | none=>none
 | .appendZ sz bytes zero s x =>
  match s.ev t,x.ev t with
  | .nilS,.int _ n=>if n=0 then some (.v .nilS h) else if 0 < n then (aC2 h sz bytes (Q0 n.toNat zero)).map fun (v,h)=>.v v h else none
  | _,_=>none
 | .copy sz d s =>
  match aAF h sz (s.ev t) with
  | some xs=>(aOF h sz (d.ev t) xs).map fun (v,h)=>.v v h
  | none=>none
 | .delete q m k =>
  match m.ev t with
  | .map i =>
   match h[i]? with
   | some (.map l)=>if aIQ q (k.ev t) then (aEz q (k.ev t) l 0).map fun r=>.v AV.un (h.set i (.map (aSp l r))) else none
   | _=>none
  | _=>none
 | .minmax mx xs =>
  match avs t xs with
  | .int k n::r=>pure (amm mx (.int k n) r)
  | _=>none
 | .build zero parts=>(aAG zero (parts.map fun (o,n,x)=>(o,n,x.ev t))).map fun cs=>.v (.agg cs) h
 | .buildSlice heap sz len zero parts =>
  if zero.length=sz∧len*sz≤16777216 then
   (aAG ((Q0 len zero).flatten) (aBe sz (parts.map fun (i,x)=>(i,x.ev t)))).map fun l =>
    if !heap && l.all pure1 then .v (.vsl true (aCi sz len l)) h
    else .v (.hsl h.length 0 0 len none) (h++[.arr 0 sz true (aCi sz len l)])
  else none
 | .mkIface ty x=>some (.v (.iface ty (x.ev t)) h)
 | .call f args =>
  match f.ev t with
  | .fn (.func g) first caps=>some (.call (.func g) (first++avs t args++caps))
  | .fn (.yield l) _ _=>some (.call (.yield l) (avs t args))
  | _=>none
def wanted (t:List AV):Option (Nat × Bool)→Option Bool
 | none=>some true
 | some (j,b) =>
  match t[j]? with
  | some (.bool c)=>some (c==b)
  | some .undef=>none
  | some .junk=>none
  | _=>some false
abbrev aA6:=Fn→List AV→aA0→Option (AV × aA0)
def aAO (call:aA6) (o:AOper) (s:St):Option St :=
 match wanted s.t o.guard with
 | none=>none
 | some false=>some { s with t:=put s.t o.dst AV.un }
 | some true =>
  match aop s.h s.t o.op with
  | none=>none
  | some (.v x h)=>some ⟨put s.t o.dst x,h⟩
  | some (.call f args) =>
   match call f args s.h with
   | some (x,h)=>some ⟨put s.t o.dst x,h⟩
   | none=>none
def aBi (call:aA6):List AOper→St→Option St
 | [],s=>some s
 | o::r,s =>
  match aAO call o s with
  | some s=>aBi call r s
  | none=>none
def aAn (body:St→Option (Out × St)):Nat→St→Option (Out × St)
 | 0,_=>none
 | n+1,s =>
  match body s with
  | some (.normal,s)=>aAn body n s
  | r=>r
def rdy (ws:List (List Nat)) (listed:List Bool):List Nat:=(List.range ws.length).filter fun i => !listed.getD i true && (ws.getD i []).all fun k=>listed.getD k false
def aL7 (ws:List (List Nat)) (sw:Nat→Nat→Bool) (listed:List Bool) (i:Nat):Bool :=
 (List.range ws.length).all fun j=>j==i || listed.getD j true || (ws.getD j []).contains i || sw i j
def aB7 (run:Nat→St→Option St) (ws:List (List Nat)) (sw:Nat→Nat→Bool) (m:Nat):Nat→List Bool→St→Option St
 | 0,listed,s=>if rdy ws listed=[] then some s else none
 | n+1,listed,s =>
  match (rdy ws listed).find? (aL7 ws sw listed) with
  | some i=>(run i s).bind (aB7 run ws sw m n (listed.set i true))
  | none =>
   match rdy ws listed with
   | []=>some s
   | i::rest =>
    match (run i s).bind (aB7 run ws sw m n (listed.set i true)) with
    | none=>none
    | some s'=>if rest.all (fun j=>aE6 m ((run j s).bind (aB7 run ws sw m n (listed.set j true))) (some s')) then some s' else none
def aGq (sw:List (List Bool)) (i j:Nat):Bool:=(sw.getD i []).getD j false
def aCe:List Bool→List AV→List AV
 | true::l,v::t=>v::aCe l t
 | false::l,_::t=>.junk::aCe l t
 | _,t=>t
def aA7 (call:aA6) (n:Nat):ACode→St→Option (Out × St)
 | .skip,s=>some (.normal,s)
 | .ops l,s=>(aBi call l s).map fun s=>(.normal,s)
 | .draw l ws sw,s=>(aB7 (fun i=>aAO call (l.getD i default)) ws (aGq sw) s.h.length ws.length (Q0 ws.length false) s).map fun s=>(.normal,s)
 | .seq a b,s =>
  match aA7 call n a s with
  | some (.normal,s)=>aA7 call n b s
  | r=>r
 | .cond c a b,s =>
  match c.ev s.t with
  | .bool true=>aA7 call n a s
  | .bool false=>aA7 call n b s
  | _=>none
 | .block id c,s =>
  match aA7 call n c s with
  | some (.exit j,s)=>if j=id then some (.normal,s) else some (.exit j,s)
  | r=>r
 | .loop c,s =>
  aAn (aA7 call n c) n s
 | .range f ps asg body,s =>
  match f.ev s.t with
  | .fn (.func g) first caps =>
   match call (.func g) (first++[.fn (.yield s.h.length) [] []]++caps) (s.h++[.loop .ready none s.t ps asg body]) with
   | some (_,h) =>
    match h[s.h.length]? with
    | some (.loop st pend t ps asg body) =>
     if st=.busy then none else
     some (pend.getD .normal,⟨s.t,h.set s.h.length (.loop .exhausted pend t ps asg body)⟩)
    | _=>none
   | none=>none
  | _=>none
 | .kill l,s=>some (.normal,⟨aCe l s.t,s.h⟩)
 | .exit id,s=>some (.exit id,s)
 | .ret,s=>some (.ret,s)
def aA8 (s:St):ARes→Option AV
 | .tmp t=>some (s.t.getD t AV.un)
 | .cell a n agg=>aAd s.h n agg (s.t.getD a AV.un)
def aA4 (s:St):List ARes→Option (List AV)
 | []=>some []
 | r::rs =>
  match aA8 s r,aA4 s rs with
  | some v,some vs=>some (v::vs)
  | _,_=>none
def aA5 (s:St) (rs:List ARes):Option AV :=
 match aA4 s rs with
 | some [v]=>some v
 | some vs=>some (.tup vs)
 | none=>none
def aAW (call:aA6) (n:Nat) (fn:AFn) (args:List AV) (h:aA0):Option (AV × aA0) :=
 match aA7 call n fn.body ⟨args++Q0 (fn.ntmps - args.length) AV.un,h⟩ with
 | some (.normal,s) | some (.ret,s)=>(aA5 s fn.results).map fun v=>(v,s.h)
 | _=>none
def aAp {α β:Type} (f:α→Option β):List α→Option (List β)
 | []=>some []
 | x::r =>
  match f x,aAp f r with
  | some y,some ys=>some (y::ys)
  | _,_=>none
def freeze (h:aA0):Nat→AV→Option (AV × Bool)
 | 0,_=>none
 | d+1,x =>
  match x with
  | .undef=>none
  | .junk=>none
  | .ptr i v e o =>
   match aAe h i v with
   | some (_,_,l) =>
    match l[e]? with
    | some cells=>(aAp (freeze h d) cells).map fun c=>(.vptr (c.map (·.1)) o,false)
    | none=>none
   | none=>none
  | .hsl i v o n _ =>
   match aAe h i v with
   | some (_,_,l) =>
    if o+n≤l.length then
     (aAp (aAp (freeze h d)) ((l.drop o).take n)).map fun c=>(.vsl false (c.map (·.map (·.1))),false)
    else none
   | none=>none
  | .map _=>none
  | .fn f a b =>
   match f,aAp (freeze h d) a,aAp (freeze h d) b with
   | .func _,some a,some b=>some (.fn f (a.map (·.1)) (b.map (·.1)),a.all (·.2) && b.all (·.2))
   | _,_,_=>none
  | .iface t x=>(freeze h d x).map fun (x,b)=>(.iface t x,b)
  | .agg l=>(aAp (freeze h d) l).map fun l=>(.agg (l.map (·.1)),l.all (·.2))
  | .tup l=>(aAp (freeze h d) l).map fun l=>(.tup (l.map (·.1)),l.all (·.2))
  | x=>some (x,true)
def aGW:AV→Bool
 | .bool _ | .int _ _ | .str _ | .nilP | .nilS | .nilM | .nilF | .nilI=>true
 | _=>false
def aMT:AV→Bool
 | .agg l=>l.all aGW
 | x=>aGW x
def aFI:AV→Bool
 | .tup l=>l.all aMT
 | x=>aMT x
structure Cfg where
 P:Nat→Option AFn
 pu:Nat→Bool
 ix:Nat→Option (List AV→Option AV)
def aH5:List AV→List Nat→List AV→List AV
 | t,p::ps,a::as'=>aH5 (t.set p a) ps as'
 | t,_,_=>t
def aB6 (h:aA0):Nat→AV→Bool
 | 0,_=>false
 | d+1,x =>
  match x with
  | .ptr i v e _ =>
   match aAe h i v with
   | some (_,_,l) =>
    match l[e]? with
    | some cells=>cells.all (aB6 h d)
    | none=>false
   | none=>false
  | .hsl i v o n _ =>
   match aAe h i v with
   | some (_,_,l)=>((l.drop o).take n).all fun cells=>cells.all (aB6 h d)
   | none=>false
  | .iface _ x=>aB6 h d x
  | .agg l=>l.all (aB6 h d)
  | .tup l=>l.all (aB6 h d)
  | x=>aGW x
def aDN (C:Cfg) (call:aA6) (k:Nat) (g:Nat) (l:List AV):Option AV :=
 match C.ix g with
 | some fx=>fx l
 | none =>
  match C.P g with
  | some fn =>
   match aAW call k fn l [] with
   | some (v,h')=>(freeze h' 1000 v).map (·.1)
   | none=>none
  | none=>none
def aE0 (C:Cfg) (call:aA6) (k:Nat) (g:Nat) (l:List AV):Bool :=
 match C.ix g with
 | some _=>false
 | none =>
  match C.P g with
  | some fn =>
   match aAW call k fn l [] with
   | some (v,h')=>aB6 h' 1000 v
   | none=>false
  | none=>false
def aC7 (C:Cfg) (call:aA6) (k:Nat) (g:Nat) (args:List AV) (h:aA0):Option (AV × aA0) :=
 match aAp (freeze h 1000) args with
 | some l =>
  match aDN C call k g (l.map (·.1)) with
  | some v=>bif l.all (·.2) || aFI v || aE0 C call k g (l.map (·.1)) then some (v,h) else none
  | none=>none
 | none=>none
def aEH (call:aA6) (k:Nat) (l:Nat) (args:List AV) (h:aA0):Option (AV × aA0) :=
 match h[l]? with
 | some (.loop _ _ t ps asg body) =>
  if args.length=ps.length then
   match aA7 call k asg ⟨aH5 t ps args,h⟩ with
   | some (.normal,s) =>
    match s.h[l]? with
    | some (.loop .ready pend t ps asg' body') =>
     match aA7 call k body ⟨s.t,s.h.set l (.loop .busy pend t ps asg' body')⟩ with
     | some (out,s) =>
      match s.h[l]? with
      | some (.loop _ _ t ps asg body) =>
       some (.bool (out=.normal),s.h.set l (.loop (if out=.normal then .ready else .done) (if out=.normal then none else some out) t ps asg body))
      | _=>none
     | none=>none
    | _=>none
   | _=>none
  else none
 | _=>none
def aBY (C:Cfg):Nat→aA6
 | 0=>fun _ _ _=>none
 | k+1=>fun f args h =>
  match f with
  | .func g =>
   if C.pu g then aC7 C (aBY C k) k g args h
   else
    match C.P g with
    | some fn=>aAW (aBY C k) k fn args h
    | none=>none
  | .yield l=>aEH (aBY C k) k l args h
  | _=>none
end Go.Proofs.Ytgeedikghjcebaa.Ai
