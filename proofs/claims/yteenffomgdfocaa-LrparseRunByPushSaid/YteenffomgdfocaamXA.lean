/- Grammars as data; what the checks of a grammar compute. No program in sight. -/
import Derived.Test.YteenffomgdfocaamAi27
import Derived.Test.YteenffomgdfocaamFn
namespace Go.Proofs.Yteenffomgdfocaa.Ai
open Go
set_option linter.unusedVariables false
set_option linter.unusedSimpArgs false
abbrev Str:=List UInt8
structure RuleD where
 left:Int
 right:List Int
 fields:List Str
 label:Str
 level:Int
structure LevelD where
 assoc:Int
 terms:List Int
structure GramD where
 terms:List Str
 nonterms:List Str
 origins:List Int
 rules:List RuleD
 levels:List LevelD
abbrev aAt (r:RuleD):List AV:=[.int .i64 r.left,.vsl false (eIs r.right),.vsl false (eSs r.fields),.str r.label,.int .i64 r.level]
abbrev aBm (l:LevelD):List AV:=[.int .i64 l.assoc,.vsl false (eIs l.terms)]
abbrev aA8 (g:GramD):List AV:=[.vsl false (eSs g.terms),.vsl false (eSs g.nonterms),.vsl false (eIs g.origins),.vsl false (g.rules.map aAt),.vsl false (g.levels.map aBm)]
structure RuleD.Ok (r:RuleD):Prop where
 right:r.right.length≤maxLen
 fields:r.fields.length≤maxLen
 left0 : -9223372036854775808≤r.left∧r.left≤9223372036854775807
structure GramD.Ok (g:GramD):Prop where
 terms:g.terms.length≤maxLen
 nonterms:g.nonterms.length≤maxLen
 origins:g.origins.length≤maxLen
 rules:g.rules.length≤maxLen
 levels:g.levels.length≤maxLen
 rule:∀ r ∈ g.rules,r.Ok
 level:∀ l ∈ g.levels,l.terms.length≤maxLen
def aF7 (g:GramD) (s:Int):Bool:=decide (s < g.terms.length) && decide (-(g.nonterms.length:Int)≤s)
def aFm:List RuleD→Int→Int
 | [],n=>n
 | r::l,n=>aFm l (IntKind.i64.wrap (n+r.right.length))
def aBR (g:GramD):Bool :=
 decide ((2:Int)≤g.terms.length) && decide ((g.terms.length:Int)≤256) && (decide ((1:Int)≤g.nonterms.length) && decide ((g.nonterms.length:Int)≤512)) && decide ((g.origins.length:Int)=g.nonterms.length) &&
  g.origins.all (fun o=>decide (0≤o) && decide (o≤5)) && (decide ((1:Int)≤g.rules.length) && decide ((g.rules.length:Int)≤1024)) && decide ((g.levels.length:Int)≤32) && decide (aFm g.rules 0≤8192)
def aDz (l:List Str):Bool := !decide l.Nodup
def aEL (g:GramD):Bool :=
 match g.rules with
 | []=>false
 | r::rest=>decide (r.left=0) && decide ((r.right.length:Int)=1) && decide (r.right.getD 0 0 < -1) && aF7 g (r.right.getD 0 0) && rest.all fun x=>decide (x.left≠0)
def aBh (g:GramD) (s:Int):Bool := !aF7 g s || (decide (-1≤s) && decide (s≤1))
def aB1 (g:GramD) (x:RuleD) (ahead:Int):Int :=
 if x.left < 0∨(g.nonterms.length:Int)≤x.left∨x.left < ahead∨(32:Int) < x.right.length then 22
 else if x.right.any (aBh g)=true then 21
 else if (x.fields.length:Int)≠0∧(x.fields.length:Int)≠x.right.length then 25
 else if x.level < 0∨(g.levels.length:Int) < x.level then 24
 else 0
def aAP (g:GramD):List RuleD→Int→Int
 | [],_=>0
 | x::l,ahead=>if aB1 g x ahead≠0 then aB1 g x ahead else aAP g l x.left
def aEp (T:Nat):List Int→List Int→Option (List Int)
 | [],seen=>some seen
 | t::l,seen=>if t < 2∨(T:Int)≤t∨t ∈ seen then none else aEp T l (t::seen)
def aBP (T:Nat):List LevelD→List Int→Bool
 | [],_=>true
 | x::l,seen =>
  if x.assoc < 1∨4 < x.assoc then false else
  match aEp T x.terms seen with
  | some s=>aBP T l s
  | none=>false
def aBl (g:GramD):Int :=
 if aBR g=false then 9
 else if aDz g.terms=true∨aDz g.nonterms=true then 8
 else if aEL g=false then 23
 else if aAP g g.rules 0≠0 then aAP g g.rules 0
 else if aBP g.terms.length g.levels []=true then 0 else 24
theorem aAy {C:Cfg} (hx:C.ix=fun _=>none) {g:Nat} (hp:C.pu g=true) {fn:AFn} (hP:C.P g=some fn) (n:Nat) {a:List AV} (ha:∀ h,aAk (freeze h 1000) a=some (a.map fun x=>(x,true))) {x:AV}
  (hr:∃ h',aAS (lim C) n fn a []=some (x,h')) (hf:∀ h,freeze h 1000 x=some (x,true)) (H:aA0):lim C (.func g) a H=some (x,H):=by
 obtain ⟨h',hr⟩:=hr
 exact aLV hx hp hP n ha hr (hf h') H
theorem aHz {C:Cfg} (hx:C.ix=fun _=>none) {g:Nat} (hp:C.pu g=true) {fn:AFn} (hP:C.P g=some fn) (n:Nat) {a:List AV} {l:List (AV × Bool)} {H:aA0} (ha:aAk (freeze H 1000) a=some l) {x y:AV} {c:Bool} {h':aA0}
  (hr:aAS (lim C) n fn (l.map (·.1)) []=some (x,h')) (hf:freeze h' 1000 x=some (y,c)) (hc:(l.all (·.2) || aDC y)=true):lim C (.func g) a H=some (y,H):=by
 refine aFR hp n ?_
 unfold aB5
 rw [ha]
 simp only [aAa,hx,hP,hr,hf,Option.map_some,hc,Bool.true_or,cond_true]
theorem aAX {α:Type} {h:List α} {i:Nat} {x:α} (hb:h[i]?=some x) (l:List α):(h++l)[i]?=some x:=by
 rw [List.getElem?_append_left (List.getElem?_eq_some_iff.1 hb).1];exact hb
theorem aB9 {α:Type} (h:List α) (x:α):(h++[x])[h.length]?=some x:=by simp
theorem aCv {α:Type} (h:List α) (x y:α):(h++[x]).set h.length y=h++[y]:=by simp
theorem z0:((0:Nat):Int)=0:=rfl
theorem aLA {h:aA0} {caps:List AV} {g:Nat} (d:Nat) (hcp:aAk (freeze h d) caps=some (caps.map fun x=>(x,true))):freeze h (d+1) (.fn (.func g) [] caps)=some (.fn (.func g) [] caps,true):=by
 simp [freeze,aAk,hcp,Function.comp_def]
theorem aS0 {h:aA0} {caps:List AV} {bs:List (AV × Bool)} {g:Nat} (d:Nat) (hcp:aAk (freeze h d) caps=some bs):freeze h (d+1) (.fn (.func g) [] caps)=some (.fn (.func g) [] (bs.map (·.1)),bs.all (·.2)):=by
 simp [freeze,aAk,hcp]
theorem aHE (h:aA0) (e:Bool) (l:List (List AV)):freeze h 1000 (.vsl e l)=some (.vsl e l,true):=rfl
theorem aGY {h:aA0} {caps:List AV} {bs:List (AV × Bool)} {g:Nat} (hcp:aAk (freeze h 999) caps=some bs):freeze h 1000 (.fn (.func g) [] caps)=some (.fn (.func g) [] (bs.map (·.1)),bs.all (·.2)):=aS0 999 hcp
theorem aFd {α β:Type} {f:α→Option β} {a b:α} {x y:β} (h1:f a=some x) (h2:f b=some y):aAk f [a,b]=some [x,y]:=by simp only [aAk,h1,h2]
theorem aPg {α β:Type} {f:α→Option β} {a:α} {x:β} (h1:f a=some x):aAk f [a]=some [x]:=by simp only [aAk,h1]
theorem aPf {α β:Type} {f:α→Option β} {a b c:α} {x y z:β} (h1:f a=some x) (h2:f b=some y) (h3:f c=some z):aAk f [a,b,c]=some [x,y,z]:=by simp only [aAk,h1,h2,h3]
theorem aFq {h:aA0} {a:AV} (h1:freeze h 1000 a=some (a,true)):aAk (freeze h 1000) [a]=some ([a].map fun x=>(x,true)):=by
 simp only [aAk,h1,List.map_cons,List.map_nil]
theorem aDX {h:aA0} {a b:AV} (h1:freeze h 1000 a=some (a,true)) (h2:freeze h 1000 b=some (b,true)):aAk (freeze h 1000) [a,b]=some ([a,b].map fun x=>(x,true)):=by
 simp only [aAk,h1,h2,List.map_cons,List.map_nil]
theorem aQk {h:aA0} {a b c:AV} (h1:freeze h 1000 a=some (a,true)) (h2:freeze h 1000 b=some (b,true)) (h3:freeze h 1000 c=some (c,true)):aAk (freeze h 1000) [a,b,c]=some ([a,b,c].map fun x=>(x,true)):=by
 simp only [aAk,h1,h2,h3,List.map_cons,List.map_nil]
theorem aAU (g:GramD) (h:aA0):freeze h 1000 (.agg (aA8 g))=some (.agg (aA8 g),true):=by simp [freeze,aAk]
theorem aNN (r:RuleD) (h:aA0):freeze h 1000 (.agg (aAt r))=some (.agg (aAt r),true):=by simp [freeze,aAk]
end Go.Proofs.Yteenffomgdfocaa.Ai
namespace Go.Proofs.Yteenffomgdfocaa.Ai
open Go Go.Proofs
open AV renaming junk → J
open List renaming getD_cons_zero → Q0, getD_cons_succ → Q1, set_cons_zero → Q2, set_cons_succ → Q3, length_cons → Q4, length_nil → Q5, cons_append → Q6, nil_append → Q7, replicate_succ → Q8, replicate_zero → Q9, length_map → Z2, drop_eq_getElem_cons → Z3, drop_eq_nil_iff → Z4, drop_zero → Z5
open Option.some renaming injEq → Z0
open Option renaming map_some → Z1
set_option linter.unusedVariables false
set_option linter.unusedSimpArgs false
set_option maxRecDepth 10000
def aBQ {α:Type} (p:α→Bool):List α→Nat→Option Nat
 | [],_=>none
 | x::l,j=>if p x then some j else aBQ p l (j+1)
def aEw:Option Nat→Int
 | some j=>j
 | none => -1
theorem aFS {α:Type} (p:α→Bool):∀ (l:List α) (j:Nat),decide ((0:Int)≤aEw (aBQ p l j))=l.any p
 | [],j=>by simp [aBQ,aEw]
 | x::l,j=>by
  by_cases h:p x=true
  ·simp [aBQ,h,aEw]
  ·simpa [aBQ,h] using aFS p l (j+1)
theorem aFF {l:List Int} {g:Nat} {caps:List AV} {p:Int→Bool} (hp:∀ x ∈ l,∀ H,lim G0.cfg (.func g) ([.int .i64 x]++caps) H=some (.bool (p x),H)) (hm:l.length≤maxLen) (h:aA0) (n:Nat):∀ (d i m:Nat),l.length=i+d→d < m →
  aAj (aA1 (lim G0.cfg) n aAO) m ⟨[.vsl false (l.map eI),.fn (.func g) [] caps,J,J,J,J,J,.int .i64 l.length,.int .i64 i,J,J,J,J,J,J,J,J,J,J],h⟩ =
   match aBQ p (l.drop i) i with
   | none=>some (.exit 0,⟨[J,J,J,J,J,J,J,J,J,J,J,J,J,J,J,J,J,J,J],h⟩)
   | some j=>some (.ret,⟨[J,J,J,J,.int .i64 j,J,J,J,J,J,J,J,J,J,J,J,J,J,J],h⟩):=by
 rw [aAp] at hm
 intro d
 induction d with
 | zero =>
  intro i m h1 h2
  obtain ⟨m,rfl⟩:∃ q,m=q+1:=⟨m - 1,by omega⟩
  have e1:l.drop i=[]:=Z4.2 (by omega)
  have h3:¬ ((i:Int) < l.length):=by omega
  simp only [aAb,aB3,Zaf,Zag,Zah,Zak,Zal,Zan,Zao,Zap,Zaw,Zaz,Zbc,Zbm,Zbu,Zcz,Zdb,Zdg,Zdh,Q2,Q3,Q0,Q1,Zdl,decide_false,eq_self,h3,e1,aBQ]
 | succ d ih =>
  intro i m h1 h2
  obtain ⟨m,rfl⟩:∃ q,m=q+1:=⟨m - 1,by omega⟩
  have h3:i < l.length:=by omega
  have h3':(i:Int) < l.length:=by omega
  have e1:l.drop i=l[i]::l.drop (i+1):=Z3 h3
  have hw:=aAV (n:=i) (by omega)
  have hc:=hp l[i] (List.getElem_mem h3)
  simp only [Q6,Q7] at hc
  simp only [aAb,aB3,Zae,Zaf,Zag,Zah,Zai,Zao,Zav,Zbc,Zbd,Zbm,Zbo,Zbs,Zbu,Zcf,Zct,Zcu,Zcz,Zdb,Zdd,Zde,Q2,Q3,Q0,Q1,Zdl,Zer,decide_true,Zer,h3',e1,aBg eI _ 1 _ l _ i h3 rfl,hc,Q6,Q7,aBQ]
  cases hpx:p l[i]
  ·simp only [hw,Zae,Zaf,Zak,Zan,Zao,Zar,Zaw,Zay,Zbc,Zbm,Zbo,Zbu,Zcz,Zda,Zdb,Zdf,Zdg,Zdh,Q2,Q3,Q0,Q1,Zdi,if_false,Bool.false_eq_true]
   exact ih (i+1) m (by omega) (by omega)
  ·simp only [Zaf,Zag,Zak,Zam,Zan,Zao,Zaq,Zas,Zav,Zba,Zbm,Zbo,Zcz,Zdb,Zdf,Zdg,Zdh,Q2,Q3,Q0,Q1,if_true,eq_self]
theorem aH3 {l:List Int} {g:Nat} {caps:List AV} {p:Int→Bool} (hp:∀ x ∈ l,∀ H,lim G0.cfg (.func g) ([.int .i64 x]++caps) H=some (.bool (p x),H)) (hm:l.length≤maxLen) (hcp:∀ h,aAk (freeze h 999) caps=some (caps.map fun x=>(x,true))) (H:aA0) :
  lim G0.cfg (.func 35) [.vsl false (l.map eI),.fn (.func g) [] caps] H=some (.int .i64 (aEw (aBQ p l 0)),H):=by
 refine aAy rfl rfl aBF (l.length+1) (fun h=>aDX rfl (aLA 999 (hcp h))) ?_ (fun _=>rfl) H
 have hl:=aFF hp hm [] (l.length+1) l.length 0 (l.length+1) (by omega) (by omega)
 rw [Z5,z0] at hl
 rw [aDa]
 cases he:aBQ p l 0 <;> simp only [he] at hl <;> simp only [Zaf,Zag,Zai,Zaj,Zak,Zam,Zan,Zao,Zaq,Zas,Zat,Zax,Zbc,Zbm,Zbo,Zck,Zcy,Zcz,Zda,Zdb,Zdf,Zdg,Zdh,Q2,Q3,Q0,Q1,Z1,Zdx,Q4,Q5,Nat.reduceAdd,Nat.reduceSub,Int.reduceNeg,eq_self,true_and,Z2,Q4,Q5,Q8,Q9,Q6,Q7,Z2,hl,aA6,aA5,aA7,Z0,Prod.mk.injEq,true_and,exists_eq',aEw]
theorem aFg {l:List Int} {g:Nat} {caps:List AV} {p:Int→Bool} (hp:∀ x ∈ l,∀ H,lim G0.cfg (.func g) ([.int .i64 x]++caps) H=some (.bool (p x),H)) (hm:l.length≤maxLen) (hcp:∀ h,aAk (freeze h 999) caps=some (caps.map fun x=>(x,true))) :
  ∃ h',aAS (lim G0.cfg) 1 aAF [.vsl false (l.map eI),.fn (.func g) [] caps] []=some (.bool (l.any p),h'):=by
 rw [aCD]
 simp only [Zaf,Zag,Zam,Zan,Zao,Zbc,Zbd,Zbm,Zbo,Zbu,Zct,Zcu,Zcy,Zcz,Zda,Zdb,Zdd,Zde,Q2,Q3,Q0,Q1,Z1,Zdo,Q4,Q5,Nat.reduceAdd,Nat.reduceSub,eq_self,true_and,Q4,Q5,Q8,Q9,Q6,Q7,aH3 hp hm hcp,aFS,aA6,aA5,aA7,Z0,Prod.mk.injEq,true_and,exists_eq']
theorem aG7 {l:List Int} {g:Nat} {caps caps':List AV} {bs:List (AV × Bool)} {p:Int→Bool} {H:aA0} (hf:aAk (freeze H 999) caps=some bs) (hbs:bs.map (·.1)=caps') (hp:∀ x ∈ l,∀ H,lim G0.cfg (.func g) ([.int .i64 x]++caps') H=some (.bool (p x),H)) (hm:l.length≤maxLen)
  (hcp:∀ h,aAk (freeze h 999) caps'=some (caps'.map fun x=>(x,true))):lim G0.cfg (.func 22) [.vsl false (l.map eI),.fn (.func g) [] caps] H=some (.bool (l.any p),H):=by
 obtain ⟨h',hr⟩:=aFg hp hm hcp
 subst hbs
 have h1:aAk (freeze H 1000) [.vsl false (l.map eI),.fn (.func g) [] caps]=some [(.vsl false (l.map eI),true),(.fn (.func g) [] (bs.map (·.1)),bs.all (·.2))]:=aFd (aHE _ _ _) (aGY hf)
 exact aHz rfl rfl aBv 1 h1 hr (rfl:freeze h' 1000 (.bool (l.any p))=some (.bool (l.any p),true)) (Bool.or_true _)
theorem aEt {l:List Int} {g:Nat} {caps:List AV} {p:Int→Bool} (hp:∀ x ∈ l,∀ H,lim G0.cfg (.func g) ([.int .i64 x]++caps) H=some (.bool (p x),H)) (hm:l.length≤maxLen) (h:aA0) (n:Nat):∀ (d i m:Nat),l.length=i+d→d < m →
  aAj (aA1 (lim G0.cfg) n aAN) m ⟨[.vsl false (l.map eI),.fn (.func g) [] caps,J,J,J,J,J,.int .i64 l.length,.int .i64 i,J,J,J,J,J,J,J,J,J,J],h⟩ =
   match aBQ p (l.drop i) i with
   | none=>some (.exit 0,⟨[J,J,J,J,J,J,J,J,J,J,J,J,J,J,J,J,J,J,J],h⟩)
   | some j=>some (.ret,⟨[J,J,J,J,.int .i64 j,J,J,J,J,J,J,J,J,J,J,J,J,J,J],h⟩):=by
 rw [aAp] at hm
 intro d
 induction d with
 | zero =>
  intro i m h1 h2
  obtain ⟨m,rfl⟩:∃ q,m=q+1:=⟨m - 1,by omega⟩
  have e1:l.drop i=[]:=Z4.2 (by omega)
  have h3:¬ ((i:Int) < l.length):=by omega
  simp only [aAb,aBH,Zaf,Zag,Zah,Zak,Zal,Zan,Zao,Zap,Zaw,Zaz,Zbc,Zbm,Zbu,Zcz,Zdb,Zdg,Zdh,Q2,Q3,Q0,Q1,Zdl,decide_false,eq_self,h3,e1,aBQ]
 | succ d ih =>
  intro i m h1 h2
  obtain ⟨m,rfl⟩:∃ q,m=q+1:=⟨m - 1,by omega⟩
  have h3:i < l.length:=by omega
  have h3':(i:Int) < l.length:=by omega
  have e1:l.drop i=l[i]::l.drop (i+1):=Z3 h3
  have hw:=aAV (n:=i) (by omega)
  have hc:=hp l[i] (List.getElem_mem h3)
  simp only [Q6,Q7] at hc
  simp only [aAb,aBH,Zae,Zaf,Zag,Zah,Zai,Zao,Zav,Zbc,Zbd,Zbm,Zbo,Zbs,Zbu,Zcf,Zct,Zcu,Zcz,Zdb,Zdd,Zde,Q2,Q3,Q0,Q1,Zdl,Zer,decide_true,Zer,h3',e1,aBg eI _ 1 _ l _ i h3 rfl,hc,Q6,Q7,aBQ]
  cases hpx:p l[i]
  ·simp only [hw,Zae,Zaf,Zak,Zan,Zao,Zar,Zaw,Zay,Zbc,Zbm,Zbo,Zbu,Zcz,Zda,Zdb,Zdf,Zdg,Zdh,Q2,Q3,Q0,Q1,Zdi,if_false,Bool.false_eq_true]
   exact ih (i+1) m (by omega) (by omega)
  ·simp only [Zaf,Zag,Zak,Zam,Zan,Zao,Zaq,Zas,Zav,Zba,Zbm,Zbo,Zcz,Zdb,Zdf,Zdg,Zdh,Q2,Q3,Q0,Q1,if_true,eq_self]
theorem aFr {l:List Int} {g:Nat} {caps:List AV} {p:Int→Bool} (hp:∀ x ∈ l,∀ H,lim G0.cfg (.func g) ([.int .i64 x]++caps) H=some (.bool (p x),H)) (hm:l.length≤maxLen) (hcp:∀ h,aAk (freeze h 999) caps=some (caps.map fun x=>(x,true))) (H:aA0) :
  lim G0.cfg (.func 72) [.vsl false (l.map eI),.fn (.func g) [] caps] H=some (.int .i64 (aEw (aBQ p l 0)),H):=by
 refine aAy rfl rfl aC6 (l.length+1) (fun h=>aDX rfl (aLA 999 (hcp h))) ?_ (fun _=>rfl) H
 have hl:=aEt hp hm [] (l.length+1) l.length 0 (l.length+1) (by omega) (by omega)
 rw [Z5,z0] at hl
 rw [aE1]
 cases he:aBQ p l 0 <;> simp only [he] at hl <;> simp only [Zaf,Zag,Zai,Zaj,Zak,Zam,Zan,Zao,Zaq,Zas,Zat,Zax,Zbc,Zbm,Zbo,Zck,Zcy,Zcz,Zda,Zdb,Zdf,Zdg,Zdh,Q2,Q3,Q0,Q1,Z1,Zdx,Q4,Q5,Nat.reduceAdd,Nat.reduceSub,Int.reduceNeg,eq_self,true_and,Z2,Q4,Q5,Q8,Q9,Q6,Q7,Z2,hl,aA6,aA5,aA7,Z0,Prod.mk.injEq,true_and,exists_eq',aEw]
theorem aE0 {l:List Int} {g:Nat} {caps:List AV} {p:Int→Bool} (hp:∀ x ∈ l,∀ H,lim G0.cfg (.func g) ([.int .i64 x]++caps) H=some (.bool (p x),H)) (hm:l.length≤maxLen) (hcp:∀ h,aAk (freeze h 999) caps=some (caps.map fun x=>(x,true))) :
  ∃ h',aAS (lim G0.cfg) 1 aAB [.vsl false (l.map eI),.fn (.func g) [] caps] []=some (.bool (l.any p),h'):=by
 rw [aDF]
 simp only [Zaf,Zag,Zam,Zan,Zao,Zbc,Zbd,Zbm,Zbo,Zbu,Zct,Zcu,Zcy,Zcz,Zda,Zdb,Zdd,Zde,Q2,Q3,Q0,Q1,Z1,Zdo,Q4,Q5,Nat.reduceAdd,Nat.reduceSub,eq_self,true_and,Q4,Q5,Q8,Q9,Q6,Q7,aFr hp hm hcp,aFS,aA6,aA5,aA7,Z0,Prod.mk.injEq,true_and,exists_eq']
theorem aEG {l:List Int} {g:Nat} {caps caps':List AV} {bs:List (AV × Bool)} {p:Int→Bool} {H:aA0} (hf:aAk (freeze H 999) caps=some bs) (hbs:bs.map (·.1)=caps') (hp:∀ x ∈ l,∀ H,lim G0.cfg (.func g) ([.int .i64 x]++caps') H=some (.bool (p x),H)) (hm:l.length≤maxLen)
  (hcp:∀ h,aAk (freeze h 999) caps'=some (caps'.map fun x=>(x,true))):lim G0.cfg (.func 53) [.vsl false (l.map eI),.fn (.func g) [] caps] H=some (.bool (l.any p),H):=by
 obtain ⟨h',hr⟩:=aE0 hp hm hcp
 subst hbs
 have h1:aAk (freeze H 1000) [.vsl false (l.map eI),.fn (.func g) [] caps]=some [(.vsl false (l.map eI),true),(.fn (.func g) [] (bs.map (·.1)),bs.all (·.2))]:=aFd (aHE _ _ _) (aGY hf)
 exact aHz rfl rfl aBG 1 h1 hr (rfl:freeze h' 1000 (.bool (l.any p))=some (.bool (l.any p),true)) (Bool.or_true _)
theorem aFf {l:List RuleD} {g:Nat} {caps:List AV} {p:RuleD→Bool} (hp:∀ x ∈ l,∀ H,lim G0.cfg (.func g) ([.agg (aAt x)]++caps) H=some (.bool (p x),H)) (hm:l.length≤maxLen) (h:aA0) (n:Nat):∀ (d i m:Nat),l.length=i+d→d < m →
  aAj (aA1 (lim G0.cfg) n aAR) m ⟨[.vsl false (l.map aAt),.fn (.func g) [] caps,J,J,J,J,J,.int .i64 l.length,.int .i64 i,J,J,J,J,J,J,J,J,J,J],h⟩ =
   match aBQ p (l.drop i) i with
   | none=>some (.exit 0,⟨[J,J,J,J,J,J,J,J,J,J,J,J,J,J,J,J,J,J,J],h⟩)
   | some j=>some (.ret,⟨[J,J,J,J,.int .i64 j,J,J,J,J,J,J,J,J,J,J,J,J,J,J],h⟩):=by
 rw [aAp] at hm
 intro d
 induction d with
 | zero =>
  intro i m h1 h2
  obtain ⟨m,rfl⟩:∃ q,m=q+1:=⟨m - 1,by omega⟩
  have e1:l.drop i=[]:=Z4.2 (by omega)
  have h3:¬ ((i:Int) < l.length):=by omega
  simp only [aAb,aCe,Zaf,Zag,Zah,Zak,Zal,Zan,Zao,Zap,Zaw,Zaz,Zbc,Zbm,Zbu,Zcz,Zdb,Zdg,Zdh,Q2,Q3,Q0,Q1,Zdl,decide_false,eq_self,h3,e1,aBQ]
 | succ d ih =>
  intro i m h1 h2
  obtain ⟨m,rfl⟩:∃ q,m=q+1:=⟨m - 1,by omega⟩
  have h3:i < l.length:=by omega
  have h3':(i:Int) < l.length:=by omega
  have e1:l.drop i=l[i]::l.drop (i+1):=Z3 h3
  have hw:=aAV (n:=i) (by omega)
  have hc:=hp l[i] (List.getElem_mem h3)
  simp only [Q6,Q7] at hc
  simp only [aAb,aCe,Zae,Zaf,Zag,Zah,Zai,Zao,Zav,Zbc,Zbd,Zbm,Zbo,Zbs,Zbu,Zcf,Zct,Zcu,Zcz,Zdb,Zdd,Zde,Q2,Q3,Q0,Q1,Option.bind_some,Zdl,Zee,decide_true,Q4,Q5,if_true,Nat.reduceAdd,Nat.reduceLeDiff,aSS,part,Z5,List.take_succ_cons,List.take_zero,h3',e1,aBg aAt _ 5 _ l _ i h3 rfl,hc,Q6,Q7,aBQ]
  cases hpx:p l[i]
  ·simp only [hw,Zae,Zaf,Zak,Zan,Zao,Zar,Zaw,Zay,Zbc,Zbm,Zbo,Zbu,Zcz,Zda,Zdb,Zdf,Zdg,Zdh,Q2,Q3,Q0,Q1,Zdi,if_false,Bool.false_eq_true]
   exact ih (i+1) m (by omega) (by omega)
  ·simp only [Zaf,Zag,Zak,Zam,Zan,Zao,Zaq,Zas,Zav,Zba,Zbm,Zbo,Zcz,Zdb,Zdf,Zdg,Zdh,Q2,Q3,Q0,Q1,if_true,eq_self]
theorem aGu {l:List RuleD} {g:Nat} {caps:List AV} {p:RuleD→Bool} (hp:∀ x ∈ l,∀ H,lim G0.cfg (.func g) ([.agg (aAt x)]++caps) H=some (.bool (p x),H)) (hm:l.length≤maxLen) (hcp:∀ h,aAk (freeze h 999) caps=some (caps.map fun x=>(x,true))) (H:aA0) :
  lim G0.cfg (.func 73) [.vsl false (l.map aAt),.fn (.func g) [] caps] H=some (.int .i64 (aEw (aBQ p l 0)),H):=by
 refine aAy rfl rfl aCS (l.length+1) (fun h=>aDX rfl (aLA 999 (hcp h))) ?_ (fun _=>rfl) H
 have hl:=aFf hp hm [] (l.length+1) l.length 0 (l.length+1) (by omega) (by omega)
 rw [Z5,z0] at hl
 rw [aEH]
 cases he:aBQ p l 0 <;> simp only [he] at hl <;> simp only [Zaf,Zag,Zai,Zaj,Zak,Zam,Zan,Zao,Zaq,Zas,Zat,Zax,Zbc,Zbm,Zbo,Zck,Zcy,Zcz,Zda,Zdb,Zdf,Zdg,Zdh,Q2,Q3,Q0,Q1,Z1,Zdx,Q4,Q5,Nat.reduceAdd,Nat.reduceSub,Int.reduceNeg,eq_self,true_and,Z2,Q4,Q5,Q8,Q9,Q6,Q7,Z2,hl,aA6,aA5,aA7,Z0,Prod.mk.injEq,true_and,exists_eq',aEw]
theorem aEF {l:List RuleD} {g:Nat} {caps:List AV} {p:RuleD→Bool} (hp:∀ x ∈ l,∀ H,lim G0.cfg (.func g) ([.agg (aAt x)]++caps) H=some (.bool (p x),H)) (hm:l.length≤maxLen) (hcp:∀ h,aAk (freeze h 999) caps=some (caps.map fun x=>(x,true))) :
  ∃ h',aAS (lim G0.cfg) 1 aAH [.vsl false (l.map aAt),.fn (.func g) [] caps] []=some (.bool (l.any p),h'):=by
 rw [aEm]
 simp only [Zaf,Zag,Zam,Zan,Zao,Zbc,Zbd,Zbm,Zbo,Zbu,Zct,Zcu,Zcy,Zcz,Zda,Zdb,Zdd,Zde,Q2,Q3,Q0,Q1,Z1,Zdo,Q4,Q5,Nat.reduceAdd,Nat.reduceSub,eq_self,true_and,Q4,Q5,Q8,Q9,Q6,Q7,aGu hp hm hcp,aFS,aA6,aA5,aA7,Z0,Prod.mk.injEq,true_and,exists_eq']
theorem aFG {l:List RuleD} {g:Nat} {caps caps':List AV} {bs:List (AV × Bool)} {p:RuleD→Bool} {H:aA0} (hf:aAk (freeze H 999) caps=some bs) (hbs:bs.map (·.1)=caps') (hp:∀ x ∈ l,∀ H,lim G0.cfg (.func g) ([.agg (aAt x)]++caps') H=some (.bool (p x),H)) (hm:l.length≤maxLen)
  (hcp:∀ h,aAk (freeze h 999) caps'=some (caps'.map fun x=>(x,true))):lim G0.cfg (.func 56) [.vsl false (l.map aAt),.fn (.func g) [] caps] H=some (.bool (l.any p),H):=by
 obtain ⟨h',hr⟩:=aEF hp hm hcp
 subst hbs
 have h1:aAk (freeze H 1000) [.vsl false (l.map aAt),.fn (.func g) [] caps]=some [(.vsl false (l.map aAt),true),(.fn (.func g) [] (bs.map (·.1)),bs.all (·.2))]:=aFd (aHE _ _ _) (aGY hf)
 exact aHz rfl rfl aCc 1 h1 hr (rfl:freeze h' 1000 (.bool (l.any p))=some (.bool (l.any p),true)) (Bool.or_true _)
end Go.Proofs.Yteenffomgdfocaa.Ai
namespace Go.Proofs.Yteenffomgdfocaa.Ai
open Go
set_option linter.unusedVariables false
set_option linter.unusedSimpArgs false
section
variable {K V : Type} [DecidableEq K] (q : Sc) (kf : K → AV) (vf : V → AV)
def aHS:Prop:=(∀ a b,aEZ q (kf a) (kf b)=some (decide (a=b)))∧∀ a,aDO q (kf a)=true
theorem aJh:aHS .int (AV.int .i64):=⟨fun a b=>by simp only [aEZ,if_true,aKj],fun a=>rfl⟩
theorem aJg:aHS .str AV.str:=⟨fun a b=>by simp only [aEZ,aKj],fun a=>rfl⟩
def mE (L:List (K × V)):List (AV × AV):=L.map fun p=>(kf p.1,vf p.2)
def aC0 (k:K):List (K × V)→Nat→Option (Nat × V)
 | [],_=>none
 | p::L,j=>if k=p.1 then some (j,p.2) else aC0 k L (j+1)
def aGU (L:List (K × V)) (k:K):Option V:=(aC0 k L 0).map (·.2)
def aDw:List (K × V)→K→V→List (K × V)
 | [],k,v=>[(k,v)]
 | p::L,k,v=>if k=p.1 then (k,v)::L else p::aDw L k v
theorem aIS (hk:aHS q kf) (k:K):∀ (L:List (K × V)) (j:Nat),aBM q (kf k) (mE kf vf L) j=some ((aC0 k L j).map fun p=>(p.1,vf p.2))
 | [],j=>rfl
 | p::L,j=>by
  simp only [mE,List.map_cons,aBM,hk.1,aC0]
  by_cases h:k=p.1
  ·simp [h]
  ·simp only [h,decide_false,if_false]
   exact aIS hk k L (j+1)
theorem aIm (k:K):∀ (L:List (K × V)) (j:Nat),aC0 k L (j+1)=(aC0 k L j).map fun p=>(p.1+1,p.2)
 | [],j=>rfl
 | p::L,j=>by
  simp only [aC0]
  by_cases h:k=p.1
  ·simp [h]
  ·simp only [h,if_false];exact aIm k L (j+1)
theorem aKA (k:K) (v:V):∀ (L:List (K × V)),aFL (mE kf vf L) (kf k) (vf v) ((aC0 k L 0).map fun p=>(p.1,vf p.2))=mE kf vf (aDw L k v)
 | []=>rfl
 | p::L=>by
  simp only [aC0,aDw]
  by_cases h:k=p.1
  ·simp [h,aFL,mE]
  ·simp only [h,if_false,aIm k L 0]
   have:=aKA k v L
   cases hf:aC0 k L 0 with
   | none=>rw [hf] at this;simp only [Option.map_none,aFL] at this ⊢;simp only [mE,List.map_cons,List.cons_append] at this ⊢;rw [this]
   | some x=>rw [hf] at this;simp only [Option.map_some,aFL] at this ⊢;simp only [mE,List.map_cons,List.set_cons_succ] at this ⊢;rw [this]
theorem aKL (k k':K) (v:V):∀ (L:List (K × V)) (j j':Nat),(aC0 k' (aDw L k v) j).map (·.2)=if k'=k then some v else (aC0 k' L j').map (·.2)
 | [],j,j'=>by
  simp only [aDw,aC0]
  by_cases h:k'=k <;> simp [h]
 | p::L,j,j'=>by
  simp only [aDw]
  by_cases h:k=p.1
  ·simp only [h,if_true,aC0]
   by_cases h2:k'=p.1
   ·simp [h2]
   ·simp only [h2,if_false]
    have:∀ (L:List (K × V)) (j j':Nat),(aC0 k' L j).map (·.2)=(aC0 k' L j').map (·.2):=by
     intro L
     induction L with
     | nil=>intro j j';rfl
     | cons q L ih =>
      intro j j'
      simp only [aC0]
      by_cases h3:k'=q.1
      ·simp [h3]
      ·simp only [h3,if_false];exact ih _ _
    exact this L _ _
  ·simp only [h,if_false,aC0]
   by_cases h2:k'=p.1
   ·have h3:¬ k'=k:=fun e=>h (e ▸ h2)
    simp [h2]
    intro e;exact absurd e.symm (h2 ▸ fun e=>h (h2 ▸ e))
   ·simp only [h2,if_false]
    exact aKL k k' v L (j+1) (j'+1)
theorem aQh (L:List (K × V)) (k k':K) (v:V):aGU (aDw L k v) k'=if k'=k then some v else aGU L k':=aKL k k' v L 0 0
theorem aKK (k:K) (v:V):∀ (L:List (K × V)),(aDw L k v).map (·.1)=if k ∈ L.map (·.1) then L.map (·.1) else L.map (·.1)++[k]
 | []=>by simp [aDw]
 | p::L=>by
  simp only [aDw]
  by_cases h:k=p.1
  ·simp [h]
  ·simp only [h,if_false,List.map_cons,aKK k v L,List.mem_cons,false_or]
   by_cases h2:k ∈ L.map (·.1)
   ·simp [h2]
   ·simp only [h2,if_false,List.cons_append]
theorem aMn (hk:aHS q kf) {h:aA0} {i:Nat} {L:List (K × V)} (hi:h[i]?=some (.map (mE kf vf L))) (z:AV) (k:K):aGg h q z false (.map i) (kf k)=some (((aGU L k).map vf).getD z):=by
 simp only [aGg,aBb,hi,hk.2,if_true,aIS q kf vf hk,Option.map_some,aGU]
 cases aC0 k L 0 <;> rfl
theorem aJs (hk:aHS q kf) {h:aA0} {i:Nat} {L:List (K × V)} (hi:h[i]?=some (.map (mE kf vf L))) (k:K) (v:V):aGN h q (.map i) (kf k) (vf v)=some (h.set i (.map (mE kf vf (aDw L k v)))):=by
 simp only [aGN,hi,hk.2,if_true,aIS q kf vf hk,Option.map_some,aKA]
end
theorem aRE {K V:Type} (kf:K→AV) (vf:V→AV) {h:aA0} {i:Nat} {L:List (K × V)} (hi:h[i]?=some (.map (mE kf vf L))):aBt h .map (.map i)=some (.int .i64 L.length):=by
 simp [aBt,aBb,hi,mE]
def dk {K:Type} [DecidableEq K]:List K→List K→List K
 | acc,[]=>acc
 | acc,x::l=>dk (if x ∈ acc then acc else acc++[x]) l
theorem aMa {K:Type} [DecidableEq K]:∀ (l acc:List K),(dk acc l).length≤acc.length+l.length∧((dk acc l).length=acc.length+l.length↔l.Nodup∧∀ x ∈ l,x ∉ acc)
 | [],acc=>by simp [dk]
 | x::l,acc=>by
  simp only [dk]
  by_cases h:x ∈ acc
  ·rw [if_pos h]
   obtain ⟨h1,h2⟩:=aMa l acc
   refine ⟨by simp;omega,?_⟩
   constructor
   ·intro e;simp at e;omega
   ·rintro ⟨_,e⟩;exact absurd h (e x (List.mem_cons_self ..))
  ·rw [if_neg h]
   obtain ⟨h1,h2⟩:=aMa l (acc++[x])
   rw [List.length_append,List.length_singleton] at h1 h2
   refine ⟨by simp;omega,?_⟩
   have e:(dk (acc++[x]) l).length=acc.length+(x::l).length↔(dk (acc++[x]) l).length=acc.length+1+l.length:=by simp;omega
   rw [e,h2,List.nodup_cons]
   constructor
   ·rintro ⟨a,b⟩
    refine ⟨⟨fun hx=>(b x hx) (by simp),a⟩,fun y hy => ?_⟩
    rcases List.mem_cons.1 hy with rfl | hy
    ·exact h
    ·exact fun hm=>b y hy (by simp [hm])
   ·rintro ⟨⟨a,b⟩,c⟩
    refine ⟨b,fun y hy hm => ?_⟩
    rcases List.mem_append.1 hm with hm | hm
    ·exact c y (List.mem_cons_of_mem _ hy) hm
    ·simp at hm;subst hm;exact a hy
theorem aSD {K:Type} [DecidableEq K] (l:List K):decide ((dk [] l).length < l.length) = !decide l.Nodup:=by
 obtain ⟨h1,h2⟩:=aMa l []
 simp at h1 h2
 by_cases h:l.Nodup
 ·have:=h2.2 h
  simp [h];omega
 ·have:(dk [] l).length≠l.length:=fun e=>h (h2.1 e)
  simp [h];omega
end Go.Proofs.Yteenffomgdfocaa.Ai
