/- The compiled form of a function of the model: sizes, offsets and zero values resolved; what the abstract interpreter does not know is left out (none). -/
import Derived.Test.YteenffomgdfocaamCAi1
namespace Go.Proofs.Yteenffomgdfocaa.Ai
open Go
def cV1:Value→Option AV
 | .bool b=>some (.bool b)
 | .int k n=>some (.int k n)
 | .string s=>some (.str s.data.toList)
 | .pointer none=>some .nilP
 | .slice none 0 0=>some .nilS
 | .map none=>some .nilM
 | .nilFunc=>some .nilF
 | .nilIface=>some .nilI
 | _=>none
def cV:Value→Option AV
 | .agg cs=>(aAk cV1 cs.toList).map .agg
 | v=>cV1 v
def cX:Operand→Option AX
 | .tmp t=>some (.t t)
 | .const v=>(cV v).map .c
 | .func f=>some (.c (.fn (.func f) [] []))
 | .global _=>none
def cXs (l:Array Operand):Option (List AX):=aAk cX l.toList
def cXo:Option Operand→Option (Option AX)
 | none=>some none
 | some x=>(cX x).map some
def aAM (P:Program) (t:TypeId):Option Nat :=
 match P.info? t with
 | some i=>if i.size=0 then none else some i.size
 | none=>none
def aDY (P:Program) (t:TypeId):Option Nat:=(P.info? t).map (·.bytes)
def aFO (P:Program) (t:TypeId):Option Bool :=
 match P.underlying t with
 | some (.struct _) | some (.array _ _)=>some true
 | some _=>some false
 | none=>none
def aBY (P:Program) (t:TypeId):Option (List AV) :=
 match P.info? t with
 | some i =>
  match i.zero with
  | some v=>if i.size=0∨v.cells.size≠i.size then none else aAk cV1 v.cells.toList
  | none=>none
 | none=>none
def aJ5 (P:Program) (t:TypeId):Option AV :=
 match P.info? t with
 | some i =>
  match i.zero with
  | some v=>cV v
  | none=>none
 | none=>none
def aFN (P:Program) (s:TypeId) (f:Nat):Option (Nat × Nat × Bool) :=
 match P.underlying s with
 | some (.struct fs) =>
  match fs[f]? with
  | some f =>
   match aAM P f.type,aFO P f.type with
   | some n,some a=>some (f.offset,n,a)
   | _,_=>none
  | none=>none
 | _=>none
def aBS (P:Program) (t:TypeId):Option Sc :=
 match P.underlying t with
 | some (.int _)=>some .int
 | some .string=>some .str
 | some .bool=>some .bool
 | _=>none
def aEM (P:Program):Nat→List Field→Option (List Sc)
 | _,[]=>some []
 | i,f::r =>
  match aBS P f.type,aEM P (i+1) r with
  | some q, some qs => if f.name == "_" || f.offset != i then none else some (q :: qs)
  | _,_=>none
def aFW (P:Program) (t:TypeId):Option EqK :=
 match P.underlying t with
 | some (.int _)=>some .num
 | some .string=>some .num
 | some .bool=>some .bool
 | some (.pointer _)=>some .ptr
 | some (.slice _)=>some .slice
 | some (.func _ _ _)=>some .fn
 | some (.struct fs)=>if P.eqGuardType P.depth t || P.stoodInHeld t then none else (aEM P 0 fs.toList).map .struct
 | _=>none
def aMg (P:Program) (t:TypeId) (p:Nat × Operand):Option (Nat × Nat × AX) :=
 match aFN P t p.1,cX p.2 with
 | some (o,n,_),some x=>some (o,n,x)
 | _,_=>none
def aJn (n:Nat) (p:Nat × Operand):Option (Nat × Nat × AX):=(cX p.2).map fun x=>(p.1*n,n,x)
def aMh (p:Nat × Operand):Option (Nat × AX):=(cX p.2).map fun x=>(p.1,x)
def aEk (P:Program) (b:Builtin) (tys:List TypeId) (args:List AX):Option AOp :=
 match b,tys,args with
 | .len,[t],[x] =>
  match P.underlying t with
  | some .string=>some (.len .str x)
  | some (.slice _)=>some (.len .slice x)
  | some (.map _ _)=>some (.len .map x)
  | _=>none
 | .cap,[t],[x] =>
  match P.underlying t with
  | some (.slice _)=>some (.cap x)
  | _=>none
 | .append,[t,u],[s,x] =>
  match P.underlying t,P.underlying u with
  | some (.slice e),some (.slice _) | some (.slice e),some .string =>
   match aAM P e,aDY P e,aBY P e with
   | some n,some b,some _=>some (.append n b s x)
   | _,_,_=>none
  | some (.slice e),some (.int _) =>
   match aAM P e,aDY P e,aBY P e with
   | some n,some b,some z=>some (.appendZ n b z s x)
   | _,_,_=>none
  | _,_=>none
 | .copy,[t,_],[d,s] =>
  match P.underlying t with
  | some (.slice e)=>(aAM P e).map fun n=>.copy n d s
  | _=>none
 | .delete,[t,_],[m,k] =>
  match P.underlying t with
  | some (.map key _)=>(aBS P key).map fun q=>.delete q m k
  | _=>none
 | .min,_,x::r=>some (.minmax false (x::r))
 | .max,_,x::r=>some (.minmax true (x::r))
 | _,_,_=>none
def aLw (P:Program) (m:String) (t:Nat):Option Nat :=
 match P.info? t with
 | some i =>
  match i.methods.find? (·.name==m) with
  | some r =>
   if r.path.isEmpty then
    match r.func,P.underlying t with
    | some (f,true),some (.pointer _)=>some f
    | some (_,true),_=>none
    | some (_,false),some (.pointer _)=>none
    | some (f,false),some _=>some f
    | _,_=>none
   else none
  | none=>none
 | none=>none
def aJe (P:Program) (m:String):List (Nat × Nat):=(List.range P.types.size).filterMap fun t=>(aLw P m t).map fun f=>(t,f)
def cOp (P:Program) (hp:Bool) (o:Oper):Option AOp :=
 match o.op with
 | .move x | .assign x=>(cX x).map .mv
 | .pick c a b =>
  match cX c,cX a,cX b with
  | some c,some a,some b=>some (.pick c a b)
  | _,_,_=>none
 | .alloc t=>(aBY P t).map .alloc
 | .box t x =>
  match aAM P t,cX x with
  | some n,some x=>some (.box n x)
  | _,_=>none
 | .load t a =>
  match aAM P t,aFO P t,cX a with
  | some n,some g,some a=>some (.load n g a)
  | _,_,_=>none
 | .store t a x =>
  match aAM P t,cX a,cX x with
  | some n,some a,some x=>some (.store n a x)
  | _,_,_=>none
 | .nilCheck x=>(cX x).map .nilCheck
 | .binOp op xt x y _ =>
  match cX x,cX y with
  | some x,some y=>(aFW P xt).map fun q=>.bin op q x y
  | _,_=>none
 | .unOp op _ x=>(cX x).map (.un op)
 | .convert src dst x =>
  match P.underlying src,P.underlying dst,cX x with
  | some (.int _),some (.int k),some x=>some (.convInt k x)
  | some .string,some .string,some x=>some (.convStr x)
  | some .string,some (.slice e),some x =>
   match P.underlying e with
   | some (.int .u8)=>some (.strBytes x)
   | _=>none
  | some (.slice e),some .string,some x =>
   match P.underlying e with
   | some (.int .u8)=>some (.bytesStr x)
   | _=>none
  | some (.slice _),some (.slice e),some x =>
   match P.underlying e with
   | some (.int .u8)=>if src=dst then some (.markB x) else none
   | _=>none
  | _,_,_=>none
 | .makeFunc f first caps =>
  match cXs first,cXs caps with
  | some a,some b =>
   match f with
   | .func _=>some (.mkFunc f a b)
   | _=>none
  | _,_=>none
 | .makeMap _ none=>some .mkMap
 | .makeSlice t l c =>
  match P.underlying t with
  | some (.slice e) =>
   match aAM P e,aDY P e,aBY P e,cX l,cX c with
   | some n,some b,some z,some l,some c=>some (.mkSlice n b z l c)
   | _,_,_,_,_=>none
  | _=>none
 | .slice t x lo hi mx =>
  match P.underlying t,cX x,cXo lo,cXo hi,cXo mx with
  | some (.slice e),some x,some lo,some hi,some mx=>(aAM P e).map fun n=>.slice n x lo hi mx
  | some .string,some x,some lo,some hi,some none=>some (.sliceStr x lo hi)
  | _,_,_,_,_=>none
 | .fieldAddr s x f =>
  match aFN P s f,cX x with
  | some (o,_,_),some x=>some (.fieldAddr o x)
  | _,_=>none
 | .field s x f =>
  match aFN P s f,cX x with
  | some (o,n,g),some x=>some (.field o n g x)
  | _,_=>none
 | .indexAddr t x i =>
  match P.underlying t,cX x,cX i with
  | some (.slice e),some x,some i=>(aAM P e).map fun n=>.indexAddr n x i
  | some (.array len e),some x,some i=>(aAM P e).map fun n=>.indexArr len n x i
  | _,_,_=>none
 | .index t x i =>
  match P.underlying t,cX x,cX i with
  | some .string,some x,some i=>some (.indexStr x i)
  | some (.array len e),some x,some i =>
   match aAM P e,aFO P e with
   | some n,some g=>some (.indexAgg len n g x i)
   | _,_=>none
  | _,_,_=>none
 | .lookup t m k ok =>
  match P.underlying t,cX m,cX k with
  | some (.map key e),some m,some k =>
   match aBS P key,aJ5 P e with
   | some q,some z=>some (.lookup q z ok m k)
   | _,_=>none
  | _,_,_=>none
 | .mapUpdate t m k x =>
  match P.underlying t,cX m,cX k,cX x with
  | some (.map key _),some m,some k,some x=>(aBS P key).map fun q=>.mapUpdate q m k x
  | _,_,_,_=>none
 | .extract x i=>(cX x).map (.extract · i)
 | .call c =>
  match c.callee,cXs c.args with
  | .value f,some args=>(cX f).map (.call · args)
  | .builtin b,some args=>aEk P b c.argTypes.toList args
  | .invoke recv m,some args=>(cX recv).map fun x=>.invoke (aJe P m) x args
  | _,_=>none
 | .build t parts =>
  match P.underlying t with
  | some (.struct fs) =>
   match aBY P t,aAk (aMg P t) parts.toList with
   | some z,some ps=>if fs.all (fun f=>(P.info? f.type).isSome) then some (.build z ps) else none
   | _,_=>none
  | some (.array _ e) =>
   match aAM P e,aBY P t with
   | some n,some z=>(aAk (aJn n) parts.toList).map (.build z)
   | _,_=>none
  | _=>none
 | .buildSlice t len parts =>
  match P.underlying t with
  | some (.slice e) =>
   match aAM P e,aBY P e,aAk aMh parts.toList with
   | some n,some z,some ps=>some (.buildSlice hp n len z ps)
   | _,_,_=>none
  | _=>none
 | .makeInterface t x =>
  match P.underlying t with
  | some (.interface _)=>none
  | some _=>(cX x).map (.mkIface t)
  | none=>none
 | _=>none
def aGM (ops:Array Oper):Option (Nat × Bool)→Option (Option (Nat × Bool))
 | none=>some none
 | some (j,b)=>((ops[j]?).bind (·.dst)).map fun d=>some (d,b)
def aDj (P:Program) (hp:Bool) (ops:Array Oper):List Oper→Option (List AOper)
 | []=>some []
 | o::r =>
  match aGM ops o.guard,aDj P hp ops r with
  | some g,some r=>some (⟨o.dst,(cOp P hp o).getD .fail,g⟩::r)
  | _,_=>none
inductive Cls where
 | quiet | reads | makes | acts
 deriving DecidableEq
def cls (pu:Nat→Bool):AOp→Cls
 | .mv _ | .nilCheck _ | .fieldAddr .. | .indexArr .. | .pick .. | .bin .. | .un .. | .convInt .. | .convStr _ | .mkFunc .. | .sliceStr .. | .field .. | .indexStr .. | .indexAgg .. | .extract .. | .minmax .. | .build .. | .mkIface .. => .quiet
 | .load .. | .slice .. | .indexAddr .. | .lookup .. | .len .. | .cap _ | .bytesStr _=>.reads
 | .alloc _ | .box .. | .mkMap | .mkSlice .. | .buildSlice .. => .makes
 | .call (.c (.fn (.func g) [] [])) _=>if pu g then .reads else .acts
 | _=>.acts
def aQN:Cls→Cls→Bool
 | .quiet,_=>true
 | _,.quiet=>true
 | .reads,.reads=>true
 | .reads,.makes=>true
 | _,_=>false
def AX.rd:AX→List Nat
 | .t i=>[i]
 | .c _=>[]
def rds (l:List AX):List Nat:=(l.map AX.rd).flatten
def rdo:Option AX→List Nat
 | none=>[]
 | some x=>x.rd
def AOp.rd:AOp→List Nat
 | .mv x | .box _ x | .load _ _ x | .nilCheck x | .un _ x | .convInt _ x | .strBytes x | .bytesStr x | .markB x | .convStr x | .fieldAddr _ x | .field _ _ _ x | .extract x _ | .len _ x | .cap x | .mkIface _ x=>x.rd
 | .pick c a b=>c.rd++a.rd++b.rd
 | .alloc _ | .mkMap | .fail=>[]
 | .store _ a x=>a.rd++x.rd
 | .bin _ _ x y=>x.rd++y.rd
 | .mkFunc _ a b=>rds a++rds b
 | .mkSlice _ _ _ l c=>l.rd++c.rd
 | .slice _ x lo hi mx=>x.rd++rdo lo++rdo hi++rdo mx
 | .sliceStr x lo hi=>x.rd++rdo lo++rdo hi
 | .indexAddr _ x i | .indexArr _ _ x i | .indexStr x i | .indexAgg _ _ _ x i=>x.rd++i.rd
 | .lookup _ _ _ m k=>m.rd++k.rd
 | .mapUpdate _ m k x=>m.rd++k.rd++x.rd
 | .append _ _ s x=>s.rd++x.rd
 | .appendZ _ _ _ s x=>s.rd++x.rd
 | .copy _ d s=>d.rd++s.rd
 | .delete _ m k=>m.rd++k.rd
 | .minmax _ xs=>rds xs
 | .build _ parts=>(parts.map fun p=>p.2.2.rd).flatten
 | .buildSlice _ _ _ _ parts=>(parts.map fun p=>p.2.rd).flatten
 | .call f args=>f.rd++rds args
 | .invoke _ x args=>x.rd++rds args
def AOper.rd (o:AOper):List Nat :=
 o.op.rd++(match o.guard with | some (j,_)=>[j] | none=>[])
def aJq (x y:AOper):Bool :=
  (match x.dst with
   | some d => !(y.rd).contains d && y.dst != some d
   | none=>true) &&
  (match y.dst with
   | some d => !(x.rd).contains d
   | none=>true)
def aFA (pu:Nat→Bool) (x y:AOper):Bool:=aQN (cls pu x.op) (cls pu y.op) && aJq x y
def aAY (o:Oper):List Nat:=o.after.toList.filterMap fun e=>if Region.binds .any e then some e.on else none
def aDh:List Nat→List (List Nat)→List Nat
 | acc,[]=>acc
 | acc,w::r=>aDh (acc++[w.foldr (fun k s=>2 ^ k ||| acc.getD k 0 ||| s) 0]) r
def aLv (pu:Nat→Bool) (bi:Nat) (oi:AOper):Nat→List AOper→Bool
 | _,[]=>true
 | j,oj::r=>(bi.testBit j || aFA pu oj oi) && aLv pu bi oi (j+1) r
def aGD (pu:Nat→Bool):List AOper→List Nat→List AOper→Bool
 | _,_,[]=>true
 | done,bi::b,oi::r=>aLv pu bi oi 0 done && aGD pu (done++[oi]) b r
 | _,[],_::_=>false
def aGK:Nat→List (List Nat)→Bool
 | _,[]=>true
 | i,w::r=>w.all (· < i) && aGK (i+1) r
def aI8 (pu:Nat→Bool) (ops:Array Oper) (l:List AOper):Bool :=
 aGK 0 (ops.toList.map aAY) && aGD pu [] (aDh [] (ops.toList.map aAY)) l
def aI6 (pu:Nat→Bool) (l:List AOper):List (List Bool):=l.map fun x=>l.map fun y=>aFA pu x y
def aDP:Code→Option Nat
 | .seq a _=>aDP a
 | .label l=>some l
 | _=>none
def aFe:Code→List Nat
 | .seq a b=>aFe a++aFe b
 | .label l=>[l]
 | _=>[]
def aBw:Code→Bool
 | .rangeFunc _ _ _ _=>false
 | .seq a b=>aBw a && aBw b
 | .cond _ a b=>aBw a && aBw b
 | .block _ c=>aBw c
 | .loop c=>aBw c
 | .scope c=>aBw c
 | _=>true
def aAA (P:Program) (hp:Bool) (pu:Nat→Bool):Code→Option ACode
 | .skip=>some .skip
 | .region _ ops draw =>
  match aDj P hp ops ops.toList with
  | some l =>
   if draw && !aI8 pu ops l then
    if aGK 0 (ops.toList.map aAY) then some (.draw l (ops.toList.map aAY) (aI6 pu l)) else none
   else some (.ops l)
  | none=>none
 | .seq a b =>
  match aAA P hp pu a,aAA P hp pu b with
  | some a,some b=>some (.seq a b)
  | _,_=>none
 | .cond c a b =>
  match cX c,aAA P hp pu a,aAA P hp pu b with
  | some c,some a,some b=>some (.cond c a b)
  | _,_,_=>none
 | .block id c=>if id < gB then (aAA P hp pu c).map (.block id) else none
 | .loop c=>(aAA P hp pu c).map .loop
 | .label _=>some .skip
 | .goto l=>if l < gB then some (.exit (gB+l)) else none
 | .scope c =>
  match aDP c with
  | some l=>if aBw c=true∧l < gB∧(aFe c).all (· == l)=true then (aAA P hp pu c).map fun ac=>.block (2*gB+l) (.loop (.block (gB+l) (.seq ac (.exit (2*gB+l))))) else none
  | none=>none
 | .rangeFunc f ps asg body =>
  match cX f,aAA P hp pu asg,aAA P hp pu body with
  | some f,some asg,some body=>some (.range f ps.toList asg body)
  | _,_,_=>none
 | .exit id=>if id < gB then some (.exit id) else none
 | .ret=>some .ret
 | _=>none
structure Lv where
 exits:List (Nat × Nat)
 ret:Nat
 inl:Bool
def aEA (l:List Nat):Nat:=l.foldr (fun i s=>2 ^ i ||| s) 0
def aMb (l d:Nat):Nat:=l ^^^ (l &&& 2 ^ d)
def aI9:List AOper→Nat→Nat
 | [],out=>out
 | o::r,out =>
  match o.dst with
  | some d=>aEA o.rd ||| aMb (aI9 r out) d
  | none=>aEA o.rd ||| aI9 r out
def Lv.at (lv:Lv) (id:Nat):Nat :=
 match lv.exits.find? fun p=>p.1==id with
 | some p=>p.2
 | none=>0
def aBO:ACode→Lv→Nat→Nat
 | .ops l,_,out=>aI9 l out
 | .draw l _ _,_,out=>aI9 l out
 | .seq a b,lv,out=>aBO a lv (aBO b lv out)
 | .cond c a b,lv,out=>aEA c.rd ||| aBO a lv out ||| aBO b lv out
 | .block id c,lv,out=>aBO c { lv with exits:=(id,out)::lv.exits } out
 | .loop c,lv,_=>aBO c lv 0
 | .range f _ asg body,lv,out=>aEA f.rd ||| out ||| aBO asg lv (aBO body lv 0)
 | .exit id,lv,_=>lv.at id
 | .ret,lv,_=>lv.ret
 | .skip,_,out | .kill _,_,out=>out
def aDi (n H:Nat):List Bool:=(List.range n).map H.testBit
def kc (n:Nat):ACode→Lv→Nat→ACode
 | .seq a b,lv,out=>.seq (kc n a lv (aBO b lv out)) (kc n b lv out)
 | .cond c a b,lv,out=>.cond c (kc n a lv out) (kc n b lv out)
 | .block id c,lv,out=>.block id (kc n c { lv with exits:=(id,out)::lv.exits } out)
 | .loop c,lv,_=>.seq (.kill (aDi n (aBO c lv 0))) (.loop (.seq (kc n c { lv with inl:=true } (aBO c lv 0)) (.kill (aDi n (aBO c lv 0)))))
 | .range f ps asg body,lv,out =>
  .seq (.kill (aDi n (aEA f.rd ||| out ||| aBO asg lv (aBO body lv 0))))
   (.range f ps (.seq (.kill (aDi n (aBO asg lv (aBO body lv 0)))) (kc n asg lv (aBO body lv 0)))
    (.seq (kc n body { lv with inl:=true } (aBO asg lv (aBO body lv 0))) (.kill (aDi n (ps.foldr (fun p s=>aMb s p) (aBO asg lv (aBO body lv 0)))))))
 | .exit id,lv,_=>if lv.inl then .seq (.kill (aDi n (lv.at id))) (.exit id) else .exit id
 | .ret,lv,_=>if lv.inl then .seq (.kill (aDi n lv.ret)) .ret else .ret
 | c,_,_=>c
def aP8:ARes→Nat
 | .tmp t=>t
 | .cell a _ _=>a
def aKi (P:Program):ResultVar→Option ARes
 | .tmp t=>some (.tmp t)
 | .cell a t =>
  match aAM P t,aFO P t with
  | some n,some g=>some (.cell a n g)
  | _,_=>none
def cFn (P:Program) (hp:Bool) (pu:Nat→Bool) (fn:Func):Option AFn :=
 if fn.name == "runtime.NumGoroutine" then none else
 match fn.body with
 | some c =>
  match aAA P hp pu c,aAk (aKi P) fn.results.toList with
  | some c,some rs=>some ⟨fn.ntmps,rs,kc fn.ntmps c ⟨[],aEA (rs.map aP8),false⟩ (aEA (rs.map aP8))⟩
  | _,_=>none
 | none=>none
def aJm (P:Program) (hp pu:Nat→Bool) (f:Nat):Option AFn :=
 match P.funcs[f]? with
 | some fn=>cFn P (hp f) pu fn
 | none=>none
end Go.Proofs.Yteenffomgdfocaa.Ai
