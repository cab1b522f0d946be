/- Runs with a table of results that are known: long computations in parts. -/
import Derived.Test.YteenffomgdfocaamFn
namespace Go.Proofs.Yteenffomgdfocaa.Ai
open Go Go.Proofs
set_option linter.unusedVariables false
set_option linter.unusedSimpArgs false
abbrev Tbl:=List (Nat × List AV × AV)
def aLG:Tbl→Nat→List AV→Option AV
 | [],_,_=>none
 | e::r,g,l=>bif Nat.beq e.1 g && aEj e.2.1 l then some e.2.2 else aLG r g l
def aLF:Tbl→Nat→Bool
 | [],_=>false
 | e::r,g=>Nat.beq e.1 g || aLF r g
def aI4 (T:Tbl) (g:Nat) (args:List AV) (h:aA0):Option (AV × aA0) :=
 bif aLF T g then
  match aAk (freeze h 1000) args with
  | some l =>
   match aLG T g (l.map (·.1)) with
   | some v=>bif l.all (·.2) || aDC v then some (v,h) else none
   | none=>none
  | none=>none
 else none
def Kn (C:Cfg) (T:Tbl):Prop:=∀ (g:Nat) (l:List AV) (v:AV),aLG T g l=some v→∃ n,aAa C (lim C) n g l=some v
theorem aAd {C:Cfg}:Kn C []:=fun g l v h=>by cases h
theorem aA9 {C:Cfg} {T:Tbl} {g:Nat} {l:List AV} {v:AV} (h:∃ n,aAa C (lim C) n g l=some v) (hT:Kn C T):Kn C ((g,l,v)::T):=fun g' l' v' h'=>by
 simp only [aLG] at h'
 cases e:Nat.beq g g' && aEj l l' with
 | false=>rw [e] at h';exact hT g' l' v' h'
 | true =>
  rw [e] at h'
  cases h'
  simp only [Bool.and_eq_true] at e
  have e1:=Nat.eq_of_beq_eq_true e.1
  have e2:=aDQ _ _ e.2
  subst e1 e2
  exact h
theorem aNY {C:Cfg} {T:Tbl} (hT:Kn C T) {g:Nat} (hp:C.pu g=true) {args:List AV} {h:aA0} {r:AV × aA0} (hr:aI4 T g args h=some r):lim C (.func g) args h=some r:=by
 unfold aI4 at hr
 cases e0:aLF T g with
 | false=>rw [e0] at hr;cases hr
 | true =>
  rw [e0,cond_true] at hr
  cases e1:aAk (freeze h 1000) args with
  | none=>rw [e1] at hr;cases hr
  | some l =>
   simp only [e1] at hr
   cases e2:aLG T g (l.map (·.1)) with
   | none=>simp only [e2] at hr;cases hr
   | some v =>
    simp only [e2] at hr
    obtain ⟨n,hn⟩:=hT _ _ _ e2
    cases e3:l.all (·.2) || aDC v with
    | false=>rw [e3] at hr;cases hr
    | true =>
     rw [e3,cond_true] at hr
     refine aFR hp n ?_
     unfold aB5
     simp only [e1,hn,e3,Bool.true_or,cond_true]
     exact hr
theorem aRa {C:Cfg} {g:Nat} {v:AV} (hp:C.pu g=true) (h:∃ n,aAa C (lim C) n g []=some v) (H:aA0):lim C (.func g) [] H=some (v,H):=by
 obtain ⟨n,h⟩:=h
 refine aFR hp n ?_
 have hm:aAk (freeze H 1000) []=some []:=rfl
 simp only [aB5,hm,List.map_nil,h,List.all_nil,Bool.true_or,cond_true]
end Go.Proofs.Yteenffomgdfocaa.Ai
namespace Go.Proofs.Yteenffomgdfocaa.Ai
open Go Go.Proofs
open Nat renaming le_refl → Q0
open Option renaming map_some → Q1
open List renaming replicate → Q2, length_eq_zero_iff → Q3, take_of_length_le → Q4, drop_of_length_le → Q5
set_option linter.unusedVariables false
set_option linter.unusedSimpArgs false
noncomputable def aLS {α:Type} (l:List α):Nat→Option α:=List.rec (motive:=fun _=>Nat→Option α) (fun _=>none) (fun a _ ih n=>Nat.rec (motive:=fun _=>Option α) (some a) (fun m _=>ih m) n) l
noncomputable def aK7 {α:Type} (l:List α):Nat→(α→α)→List α:=List.rec (motive:=fun _=>Nat→(α→α)→List α) (fun _ _=>[]) (fun a r ih n f=>Nat.rec (motive:=fun _=>List α) (f a::r) (fun m _=>a::ih m f) n) l
theorem aNK {α:Type}:∀ (l:List α) (i:Nat),aLS l i=l[i]?
 | [],i=>rfl
 | a::l,0=>rfl
 | a::l,i+1=>by
  show aLS l i=_
  rw [aNK l i,List.getElem?_cons_succ]
theorem aP2 {α:Type} (a:α) (l:List α) (f:α→α):aK7 (a::l) 0 f=f a::l:=rfl
theorem aKz {α:Type} (a:α) (l:List α) (i:Nat) (f:α→α):aK7 (a::l) (i+1) f=a::aK7 l i f:=rfl
theorem aNG {α:Type} (v:α):∀ (l:List α) (i:Nat),aK7 l i (fun _=>v)=l.set i v
 | [],i=>rfl
 | a::l,0=>rfl
 | a::l,i+1=>by rw [aKz,aNG v l i];rfl
def chF:Nat→List AV→List (List AV)
 | 0,_=>[]
 | k+1,t=>match t with
  | []=>[]
  | a::r=>(a::r).take 14::chF k ((a::r).drop 14)
def aC2 (t:List AV):List (List AV):=chF t.length t
noncomputable def aKg (c:List (List AV)) (i:Nat):Option AV:=(aLS c (i / 14)).elim none fun l=>aLS l (i % 14)
noncomputable def aLI (c:List (List AV)) (i:Nat) (v:AV):List (List AV):=aK7 c (i / 14) fun l=>aK7 l (i % 14) fun _=>v
noncomputable def aO8 (c:List (List AV)) (d:Option Nat) (v:AV):List (List AV) :=
 match d with
 | none=>c
 | some d=>aLI c d v
theorem aMd:∀ (k:Nat) (t:List AV),t.length≤k→(chF k t).flatten=t
 | 0,t,h=>by
  have:t=[]:=Q3.1 (by omega)
  subst this;rfl
 | k+1,[],h=>rfl
 | k+1,a::r,h=>by
  simp only [chF,List.flatten_cons]
  rw [aMd k _ (by simp at h ⊢;omega),List.take_append_drop]
theorem aOs (t:List AV):(aC2 t).flatten=t:=aMd _ t (Q0 _)
theorem aNU:∀ (k:Nat) (t:List AV) (i:Nat),t.length≤k→aKg (chF k t) i=t[i]?
 | 0,t,i,h=>by
  have:t=[]:=Q3.1 (by omega)
  subst this;rfl
 | k+1,[],i,h=>rfl
 | k+1,a::r,i,h=>by
  by_cases hi:i < 14
  ·have e1:i / 14=0:=by omega
   have e2:i % 14=i:=by omega
   simp only [aKg,chF,e1,e2]
   show aLS ((a::r).take 14) i=_
   rw [aNK,List.getElem?_take,if_pos hi]
  ·have e1:i / 14=(i - 14) / 14+1:=by omega
   have e2:i % 14=(i - 14) % 14:=by omega
   have ih:=aNU k ((a::r).drop 14) (i - 14) (by simp at h ⊢;omega)
   rw [List.getElem?_drop,show 14+(i - 14)=i by omega] at ih
   rw [← ih]
   simp only [aKg,chF,e1,e2]
   rfl
def aLy:List Bool→List (List AV)→List (List AV)
 | _,[]=>[]
 | l,c::r=>aAz l c::aLy (l.drop 14) r
theorem aHB:∀ (a:List AV) (l:List Bool) (b:List AV),aAz l (a++b)=aAz l a++aAz (l.drop a.length) b
 | [],l,b=>by
  have:aAz l ([]:List AV)=[]:=by cases l with
   | nil=>rfl
   | cons x l=>cases x <;> rfl
  rw [this];rfl
 | v::a,[],b=>by
  have e:∀ t:List AV,aAz [] t=t:=fun t=>by cases t <;> rfl
  rw [e,e,List.drop_nil,e]
 | v::a,true::l,b=>by
  show v::aAz l (a++b)=v::aAz l a++aAz (l.drop a.length) b
  rw [aHB a l b];rfl
 | v::a,false::l,b=>by
  show .junk::aAz l (a++b)=.junk::aAz l a++aAz (l.drop a.length) b
  rw [aHB a l b];rfl
theorem aEv:∀ (l:List Bool) (t:List AV),(aAz l t).length=t.length:=aGc
theorem aMc:∀ (k:Nat) (t:List AV) (l:List Bool),t.length≤k→aLy l (chF k t)=chF k (aAz l t)
 | 0,t,l,h=>by
  have:t=[]:=Q3.1 (by omega)
  subst this;rfl
 | k+1,[],l,h=>by
  have:aAz l ([]:List AV)=[]:=by cases l with
   | nil=>rfl
   | cons x l=>cases x <;> rfl
  rw [this];rfl
 | k+1,a::r,l,h=>by
  have hne:∃ b s,aAz l (a::r)=b::s:=by
   have:=aEv l (a::r)
   cases e:aAz l (a::r) with
   | nil=>rw [e] at this;simp at this
   | cons b s=>exact ⟨b,s,rfl⟩
  obtain ⟨b,s,hbs⟩:=hne
  have hch:chF (k+1) (aAz l (a::r))=(aAz l (a::r)).take 14::chF k ((aAz l (a::r)).drop 14):=by rw [hbs];rfl
  have hsp:=aHB ((a::r).take 14) l ((a::r).drop 14)
  rw [List.take_append_drop] at hsp
  have hkey:(aAz l (a::r)).take 14=aAz l ((a::r).take 14)∧(aAz l (a::r)).drop 14=aAz (l.drop 14) ((a::r).drop 14):=by
   rcases Nat.lt_or_ge (a::r).length 14 with c | c
   ·have e1:(a::r).take 14=a::r:=Q4 (by omega)
    have e2:(a::r).drop 14=[]:=Q5 (by omega)
    rw [e1,e2]
    have e3:∀ l:List Bool,aAz l ([]:List AV)=[]:=fun l=>by cases l with
     | nil=>rfl
     | cons x l=>cases x <;> rfl
    exact ⟨Q4 (by rw [aEv];omega),by rw [e3];exact Q5 (by rw [aEv];omega)⟩
   ·have e1:((a::r).take 14).length=14:=by rw [List.length_take];omega
    rw [e1] at hsp
    rw [hsp]
    have e2:(aAz l ((a::r).take 14)).length=14:=by rw [aEv,e1]
    exact ⟨by rw [List.take_append_of_le_length (by omega)];exact Q4 (by omega),by rw [List.drop_append,e2,Nat.sub_self,List.drop_zero,Q5 (by omega)];rfl⟩
  rw [hch,hkey.1,hkey.2,← aMc k _ _ (by simp at h ⊢;omega)]
  rfl
theorem aOr (l:List Bool) (t:List AV):aLy l (aC2 t)=aC2 (aAz l t):=by
 unfold aC2
 rw [aEv]
 exact aMc _ t l (Q0 _)
theorem aKR (t:List AV) (i:Nat):aKg (aC2 t) i=t[i]?:=aNU _ t i (Q0 _)
theorem aNT (v:AV):∀ (k:Nat) (t:List AV) (i:Nat),t.length≤k→aLI (chF k t) i v=chF k (t.set i v)
 | 0,t,i,h=>rfl
 | k+1,[],i,h=>rfl
 | k+1,a::r,i,h=>by
  have hne:∃ b s,(a::r).set i v=b::s:=by cases i <;> exact ⟨_,_,rfl⟩
  obtain ⟨b,s,hbs⟩:=hne
  have hch:chF (k+1) ((a::r).set i v)=((a::r).set i v).take 14::chF k (((a::r).set i v).drop 14):=by rw [hbs];rfl
  rw [hch,List.take_set,List.drop_set]
  by_cases hi:i < 14
  ·have e1:i / 14=0:=by omega
   have e2:i % 14=i:=by omega
   rw [if_pos hi]
   simp only [aLI,chF,e1,e2,aP2,aNG]
  ·have e1:i / 14=(i - 14) / 14+1:=by omega
   have e2:i % 14=(i - 14) % 14:=by omega
   rw [if_neg hi,← aNT v k ((a::r).drop 14) (i - 14) (by simp at h ⊢;omega),List.set_eq_of_length_le (by simp;omega)]
   simp only [aLI,chF,e1,e2,aKz]
theorem aHI (t:List AV) (d:Option Nat) (v:AV):aO8 (aC2 t) d v=aC2 (put t d v):=by
 cases d with
 | none=>rfl
 | some d =>
  show aLI (chF t.length t) d v=chF (t.set d v).length (t.set d v)
  rw [List.length_set]
  exact aNT v _ t d (Q0 _)
noncomputable def evC (c:List (List AV)):AX→AV
 | .t i=>(aKg c i).getD AV.un
 | .c v=>v
theorem aFh (t:List AV) (x:AX):evC (aC2 t) x=x.ev t:=by
 cases x with
 | t i=>simp only [evC,AX.ev,aKR,List.getD_eq_getElem?_getD]
 | c v=>rfl
def AOp.sb (f:AX→AX):AOp→AOp
 | .mv x=>.mv (f x)
 | .pick c a b=>.pick (f c) (f a) (f b)
 | .box sz x=>.box sz (f x)
 | .load n g a=>.load n g (f a)
 | .store n a x=>.store n (f a) (f x)
 | .nilCheck x=>.nilCheck (f x)
 | .bin op q x y=>.bin op q (f x) (f y)
 | .un op x=>.un op (f x)
 | .convInt k x=>.convInt k (f x)
 | .strBytes x=>.strBytes (f x)
 | .bytesStr x=>.bytesStr (f x)
 | .markB x=>.markB (f x)
 | .convStr x=>.convStr (f x)
 | .mkFunc g a b=>.mkFunc g (a.map f) (b.map f)
 | .mkSlice sz b z l c=>.mkSlice sz b z (f l) (f c)
 | .slice sz x lo hi mx=>.slice sz (f x) (lo.map f) (hi.map f) (mx.map f)
 | .sliceStr x lo hi=>.sliceStr (f x) (lo.map f) (hi.map f)
 | .fieldAddr o x=>.fieldAddr o (f x)
 | .field o n g x=>.field o n g (f x)
 | .indexAddr sz x i=>.indexAddr sz (f x) (f i)
 | .indexArr l sz x i=>.indexArr l sz (f x) (f i)
 | .indexStr x i=>.indexStr (f x) (f i)
 | .indexAgg l sz g x i=>.indexAgg l sz g (f x) (f i)
 | .lookup q z ok m k=>.lookup q z ok (f m) (f k)
 | .mapUpdate q m k x=>.mapUpdate q (f m) (f k) (f x)
 | .extract x i=>.extract (f x) i
 | .len q x=>.len q (f x)
 | .cap x=>.cap (f x)
 | .append sz b s x=>.append sz b (f s) (f x)
 | .appendZ sz b z s x=>.appendZ sz b z (f s) (f x)
 | .copy sz d s=>.copy sz (f d) (f s)
 | .delete q m k=>.delete q (f m) (f k)
 | .minmax mx xs=>.minmax mx (xs.map f)
 | .build z parts=>.build z (parts.map fun p=>(p.1,p.2.1,f p.2.2))
 | .buildSlice hp sz m z parts=>.buildSlice hp sz m z (parts.map fun p=>(p.1,f p.2))
 | .mkIface t x=>.mkIface t (f x)
 | .call g args=>.call (f g) (args.map f)
 | .invoke tb x args=>.invoke tb (f x) (args.map f)
 | .alloc z=>.alloc z
 | .mkMap=>.mkMap
 | .fail=>.fail
theorem aSk {f:AX→AX} {t:List AV} (hf:∀ x,(f x).ev []=x.ev t) (h:aA0) (o:AOp):aop h [] (o.sb f)=aop h t o:=by
 have ha:∀ l:List AX,avs [] (l.map f)=avs t l:=fun l=>by simp only [avs,List.map_map];exact List.map_congr_left fun x _=>hf x
 have ho:∀ x:Option AX,(x.map f).map (AX.ev [])=x.map (AX.ev t):=fun x=>by cases x <;> simp [hf]
 cases o <;> simp only [AOp.sb,aop,hf,ha,ho,List.map_map,Function.comp_def]
noncomputable def xV (h:aA0) (x:Option AV):Option AR:=Option.rec none (fun v=>some (.v v h)) x
theorem aSq (h:aA0) (x:Option AV):xV h x=x.map fun v=>.v v h:=by cases x <;> rfl
noncomputable def xH (x:Option aA0):Option AR:=Option.rec none (fun h=>some (.v AV.un h)) x
theorem aSs (x:Option aA0):xH x=x.map fun h=>.v AV.un h:=by cases x <;> rfl
def aSr (h:aA0) (c a b:AV):Option AR :=
 match c with
 | .bool true=>some (.v a h)
 | .bool false=>some (.v b h)
 | _=>none
def aSO (h:aA0) (sz:Nat) (x:AV):Option AR:=if (cellsOf x).length=sz then some (.v (.ptr h.length 0 0 0) (h++[.arr 0 sz true [cellsOf x]])) else none
def aSJ (h:aA0) (x:AV):Option AR :=
 match x with
 | .fn (.func f) a b=>some (.v (.fn (.func f) a b) h)
 | x=>(aCC h x 0).map fun v=>.v v h
def aSu (h:aA0) (k:IntKind) (x:AV):Option AR :=
 match x with
 | .int _ n=>some (.v (.int k (k.wrap n)) h)
 | _=>none
def xMk (h:aA0) (sz bytes:Nat) (zero:List AV) (len cap:AV):Option AR :=
 match len,cap with
 | .int _ l,.int _ c =>
  if 0≤l∧l≤c∧c*(bytes+1)≤70368744177664 then
   some (.v (.hsl h.length 0 0 l.toNat none) (h++[.arr 0 sz true (Q2 c.toNat zero)]))
  else none
 | _,_=>none
def aRH (h:aA0) (off n:Nat) (agg:Bool) (x:AV):Option AR :=
 match x with
 | .agg cs=>((part cs off n).bind (aCU agg)).map fun v=>.v v h
 | _=>none
def aSM (h:aA0) (len sz:Nat) (x i:AV):Option AR :=
 match i with
 | .int _ j=>if 0≤j∧j < (len:Int) then (aCC h x (j.toNat*sz)).map fun v=>.v v h else none
 | _=>none
def aSK (h:aA0) (x i:AV):Option AR :=
 match x,i with
 | .str s,.int _ j=>if 0≤j then (s[j.toNat]?.map fun b=>.int .u8 b.toNat).map fun v=>.v v h else none
 | _,_=>none
def aSL (h:aA0) (len sz:Nat) (agg:Bool) (x i:AV):Option AR :=
 match x,i with
 | .agg cs,.int _ j=>if 0≤j∧j < (len:Int) then ((part cs (j.toNat*sz) sz).bind (aCU agg)).map fun v=>.v v h else none
 | _,_=>none
def aSN (h:aA0) (i:Nat) (x:AV):Option AR :=
 match x with
 | .tup l=>l[i]?.map fun v=>.v v h
 | _=>none
def aSP (h:aA0) (sz bytes:Nat) (s x:AV):Option AR :=
 match aAI h sz x with
 | some xs=>(aD0 h sz bytes s xs).map fun (v,h)=>.v v h
 | none=>none
def aSt (h:aA0) (x:Option (List AV)):Option AR:=x.map fun cs=>.v (.agg cs) h
def xSl (h:aA0) (heap:Bool) (sz len:Nat) (zero:List AV) (parts:List (Nat × AV)):Option AR :=
 if zero.length=sz∧len*sz≤16777216 then
  (aAG ((Q2 len zero).flatten) (aBD sz parts)).map fun l =>
   if !heap && l.all pure1 then .v (.vsl true (aDf sz len l)) h
   else .v (.hsl h.length 0 0 len none) (h++[.arr 0 sz true (aDf sz len l)])
 else none
def aSv (f:AV) (args:List AV):Option AR :=
 match f with
 | .fn (.func g) first caps=>some (.call (.func g) (first++args++caps))
 | .fn (.yield l) _ _=>some (.call (.yield l) args)
 | _=>none
noncomputable def evO (c:List (List AV)) (x:Option AX):Option AV:=x.map (evC c)
noncomputable def evL (c:List (List AV)) (l:List AX):List AV:=l.map (evC c)
noncomputable def evP (c:List (List AV)) (l:List (Nat × Nat × AX)):List (Nat × Nat × AV):=l.map fun p=>(p.1,p.2.1,evC c p.2.2)
noncomputable def evQ (c:List (List AV)) (l:List (Nat × AX)):List (Nat × AV):=l.map fun p=>(p.1,evC c p.2)
noncomputable def aOz (h:aA0) (c:List (List AV)) (o:AOp):Option AR :=
 match o with
 | .mv x=>some (.v (evC c x) h)
 | .pick k a b=>aSr h (evC c k) (evC c a) (evC c b)
 | .box sz x=>aSO h sz (evC c x)
 | .load n g a=>xV h (aA2 h n g (evC c a))
 | .store n a x=>xH (aAq h n (evC c a) (evC c x))
 | .nilCheck x=>aSJ h (evC c x)
 | .bin op q x y=>xV h (aBE op q (evC c x) (evC c y))
 | .un op x=>xV h (aun op (evC c x))
 | .convInt k x=>aSu h k (evC c x)
 | .mkFunc f a b=>some (.v (.fn f (evL c a) (evL c b)) h)
 | .mkSlice sz b z l m=>xMk h sz b z (evC c l) (evC c m)
 | .slice sz x lo hi mx=>xV h (aBs h sz (evC c x) (evO c lo) (evO c hi) (evO c mx))
 | .fieldAddr off x=>xV h (aCC h (evC c x) off)
 | .field off n g x=>aRH h off n g (evC c x)
 | .indexAddr sz x i=>xV h (aAs h sz (evC c x) (evC c i))
 | .indexArr l sz x i=>aSM h l sz (evC c x) (evC c i)
 | .indexStr x i=>aSK h (evC c x) (evC c i)
 | .indexAgg l sz g x i=>aSL h l sz g (evC c x) (evC c i)
 | .extract x i=>aSN h i (evC c x)
 | .len q x=>xV h (aBt h q (evC c x))
 | .cap x=>xV h (aH9 h (evC c x))
 | .append sz b s x=>aSP h sz b (evC c s) (evC c x)
 | .build z parts=>aSt h (aAG z (evP c parts))
 | .buildSlice hp sz m z parts=>xSl h hp sz m z (evQ c parts)
 | .mkIface t x=>some (.v (.iface t (evC c x)) h)
 | .call f args=>aSv (evC c f) (evL c args)
 | o=>aop h [] (o.sb fun x=>.c (evC c x))
theorem aRD (h:aA0) (t:List AV) (o:AOp):aOz h (aC2 t) o=aop h t o:=by
 have hl:∀ l:List AX,evL (aC2 t) l=avs t l:=fun l=>by simp only [evL,avs];exact List.map_congr_left fun x _=>aFh t x
 have ho:∀ x:Option AX,evO (aC2 t) x=x.map (AX.ev t):=fun x=>by cases x <;> simp [evO,aFh]
 have hs:∀ o:AOp,aop h [] (o.sb fun x=>.c (evC (aC2 t) x))=aop h t o:=fun o=>aSk (fun x=>by simp only [AX.ev];exact aFh t x) h o
 have hp:∀ l:List (Nat × Nat × AX),evP (aC2 t) l=l.map fun (o,n,x)=>(o,n,x.ev t):=fun l=>by simp only [evP,aFh]
 have hq:∀ l:List (Nat × AX),evQ (aC2 t) l=l.map fun (i,x)=>(i,x.ev t):=fun l=>by simp only [evQ,aFh]
 cases o
 case sliceStr x lo hi=>exact hs (.sliceStr x lo hi)
 case minmax mx xs=>exact hs (.minmax mx xs)
 case invoke tb x args=>exact hs (.invoke tb x args)
 all_goals first
  | (simp only [aOz,aFh,aSq,aSs,hl,ho,hp,hq,aop];done)
  | (simp only [aOz,aFh,hl,hp,hq,aop];rfl)
structure ST where
 c:List (List AV)
 h:aA0
def St.ch (s:St):ST:=⟨aC2 s.t,s.h⟩
def ST.un (s:ST):St:=⟨s.c.flatten,s.h⟩
theorem St.ch_un (s:St):s.ch.un=s:=by
 obtain ⟨t,h⟩:=s
 simp only [St.ch,ST.un,aOs]
noncomputable def aK6 (c:List (List AV)):Option (Nat × Bool)→Option Bool
 | none=>some true
 | some (j,b) =>
  match aKg c j with
  | some (.bool x)=>some (x==b)
  | some .undef=>none
  | some .junk=>none
  | _=>some false
theorem aNW (t:List AV) (g:Option (Nat × Bool)):aK6 (aC2 t) g=wanted t g:=by
 cases g with
 | none=>rfl
 | some p=>obtain ⟨j,b⟩:=p;simp only [aK6,wanted,aKR];cases t[j]? with
  | none=>rfl
  | some v=>cases v <;> rfl
noncomputable def aLL (call:aAc) (o:AOper) (s:ST):Option ST :=
 match aK6 s.c o.guard with
 | none=>none
 | some false=>some ⟨aO8 s.c o.dst AV.un,s.h⟩
 | some true =>
  match aOz s.h s.c o.op with
  | none=>none
  | some (.v x h)=>some ⟨aO8 s.c o.dst x,h⟩
  | some (.call f args) =>
   match call f args s.h with
   | some (x,h)=>some ⟨aO8 s.c o.dst x,h⟩
   | none=>none
theorem aP5 (call:aAc) (o:AOper) (s:St):aLL call o s.ch=(aAw call o s).map St.ch:=by
 obtain ⟨t,h⟩:=s
 unfold aLL aAw
 simp only [St.ch,aNW,aRD]
 cases wanted t o.guard with
 | none=>rfl
 | some b =>
  cases b with
  | false=>simp only [aHI,Q1,St.ch]
  | true =>
   simp only
   cases aop h t o.op with
   | none=>rfl
   | some r =>
    cases r with
    | v x h=>simp only [aHI,Q1,St.ch]
    | call f args =>
     simp only
     cases call f args h with
     | none=>rfl
     | some p=>obtain ⟨x,h⟩:=p;simp only [aHI,Q1,St.ch]
noncomputable def aI7 (call:aAc):List AOper→ST→Option ST
 | [],s=>some s
 | o::r,s =>
  match aLL call o s with
  | some s=>aI7 call r s
  | none=>none
theorem aJ8 (call:aAc):∀ (l:List AOper) (s:St),aI7 call l s.ch=(aAJ call l s).map St.ch
 | [],s=>rfl
 | o::r,s=>by
  simp only [aI7,aAJ,aP5]
  cases aAw call o s with
  | none=>rfl
  | some s=>exact aJ8 call r s
def aLx (body:ST→Option (Out × ST)):Nat→ST→Option (Out × ST)
 | 0,_=>none
 | n+1,s =>
  match body s with
  | some (.normal,s)=>aLx body n s
  | r=>r
def chO (p:Out × St):Out × ST:=(p.1,p.2.ch)
theorem aLU {f:ST→Option (Out × ST)} {g:St→Option (Out × St)} (hf:∀ s,f s.ch=(g s).map chO):∀ (n:Nat) (s:St),aLx f n s.ch=(aAj g n s).map chO
 | 0,s=>rfl
 | n+1,s=>by
  simp only [aLx,aAj,hf]
  cases g s with
  | none=>rfl
  | some p =>
   obtain ⟨o,s1⟩:=p
   cases o with
   | normal=>exact aLU hf n s1
   | exit j=>rfl
   | ret=>rfl
noncomputable def aCV (call:aAc) (n:Nat):ACode→ST→Option (Out × ST)
 | .skip,s=>some (.normal,s)
 | .ops l,s=>(aI7 call l s).map fun s=>(.normal,s)
 | .seq a b,s =>
  match aCV call n a s with
  | some (.normal,s)=>aCV call n b s
  | r=>r
 | .cond c a b,s =>
  match evC s.c c with
  | .bool true=>aCV call n a s
  | .bool false=>aCV call n b s
  | _=>none
 | .block id c,s =>
  match aCV call n c s with
  | some (.exit j,s)=>if j=id then some (.normal,s) else some (.exit j,s)
  | r=>r
 | .loop c,s=>aLx (aCV call n c) n s
 | .kill l,s=>some (.normal,⟨aLy l s.c,s.h⟩)
 | .exit id,s=>some (.exit id,s)
 | .ret,s=>some (.ret,s)
 | c,s=>(aA1 call n c s.un).map chO
theorem aQq (call:aAc) (n:Nat) (c:ACode):∀ s:St,aCV call n c s.ch=(aA1 call n c s).map chO:=by
 induction c with
 | skip=>intro s;rfl
 | ops l=>intro s;simp only [aCV,aA1,aJ8];cases aAJ call l s <;> rfl
 | seq a b iha ihb =>
  intro s
  simp only [aCV,aA1,iha]
  cases aA1 call n a s with
  | none=>rfl
  | some p =>
   obtain ⟨o,s1⟩:=p
   cases o with
   | normal=>exact ihb s1
   | exit j=>rfl
   | ret=>rfl
 | cond c a b iha ihb =>
  intro s
  have e:evC s.ch.c c=c.ev s.t:=aFh s.t c
  simp only [aCV,aA1,e]
  generalize c.ev s.t=v
  cases v <;> try rfl
  rename_i b
  cases b
  ·exact ihb s
  ·exact iha s
 | block id c ih =>
  intro s
  simp only [aCV,aA1,ih]
  cases aA1 call n c s with
  | none=>rfl
  | some p =>
   obtain ⟨o,s1⟩:=p
   cases o with
   | normal=>rfl
   | ret=>rfl
   | exit j =>
    simp only [Q1,chO]
    by_cases hj:j=id
    ·simp only [hj,if_true];rfl
    ·simp only [hj,if_false];rfl
 | loop c ih=>intro s;simp only [aCV,aA1];exact aLU ih n s
 | kill l=>intro s;simp only [aCV,aA1,St.ch,aOr];rfl
 | exit id=>intro s;rfl
 | ret=>intro s;rfl
 | draw l ws sw=>intro s;simp only [aCV,St.ch_un]
 | range f ps a b=>intro s;simp only [aCV,St.ch_un]
noncomputable def aHt (call:aAc) (n:Nat) (fn:AFn) (args:List AV) (h:aA0):Option (AV × aA0) :=
 match aCV call n fn.body ⟨aC2 (args++Q2 (fn.ntmps - args.length) AV.un),h⟩ with
 | some (.normal,s) | some (.ret,s)=>(aA6 s.un fn.results).map fun v=>(v,s.h)
 | _=>none
theorem aHs (call:aAc) (n:Nat) (fn:AFn) (args:List AV) (h:aA0):aHt call n fn args h=aAS call n fn args h:=by
 have e:=aQq call n fn.body ⟨args++Q2 (fn.ntmps - args.length) AV.un,h⟩
 simp only [St.ch] at e
 unfold aHt aAS
 rw [e]
 cases aA1 call n fn.body ⟨args++Q2 (fn.ntmps - args.length) AV.un,h⟩ with
 | none=>rfl
 | some p =>
  obtain ⟨o,s1⟩:=p
  cases o <;> simp only [Q1,chO,St.ch_un] <;> rfl
def aH0:List (Nat × AFn)→Nat→Option AFn
 | [],_=>none
 | e::r,g=>bif Nat.beq e.1 g then some e.2 else aH0 r g
def aJ2 (C:Cfg) (Q:List (Nat × AFn)):Prop:=∀ g fn,aH0 Q g=some fn→C.P g=some fn
theorem aS1 {C:Cfg}:aJ2 C []:=fun g fn h=>by cases h
theorem aAf {C:Cfg} {Q:List (Nat × AFn)} {g:Nat} {fn:AFn} (h:C.P g=some fn) (hQ:aJ2 C Q):aJ2 C ((g,fn)::Q):=fun g' fn' h'=>by
 simp only [aH0] at h'
 cases e:Nat.beq g g' with
 | false=>rw [e] at h';exact hQ g' fn' h'
 | true =>
  rw [e] at h'
  cases h'
  have:=Nat.eq_of_beq_eq_true e
  subst this
  exact h
noncomputable def aO9 (Q:List (Nat × AFn)) (call:aAc) (k:Nat) (g:Nat) (args:List AV) (h:aA0):Option (AV × aA0) :=
 match aAk (freeze h 1000) args with
 | some l =>
  match aH0 Q g with
  | some fn =>
   match aHt call k fn (l.map (·.1)) [] with
   | some (v,h') =>
    match freeze h' 1000 v with
    | some (y,_)=>bif l.all (·.2) || aDC y then some (y,h) else none
    | none=>none
   | none=>none
  | none=>none
 | none=>none
theorem aQc {C:Cfg} (hx:C.ix=fun _=>none) {Q:List (Nat × AFn)} (hQ:aJ2 C Q) {call:aAc} {k g:Nat} {args:List AV} {h:aA0} {r:AV × aA0} (hr:aO9 Q call k g args h=some r):aB5 C call k g args h=some r:=by
 unfold aO9 at hr
 cases e1:aAk (freeze h 1000) args with
 | none=>rw [e1] at hr;cases hr
 | some l =>
  simp only [e1] at hr
  cases e2:aH0 Q g with
  | none=>simp only [e2] at hr;cases hr
  | some fn =>
   simp only [e2,aHs] at hr
   have hP:=hQ _ _ e2
   cases e3:aAS call k fn (l.map (·.1)) [] with
   | none=>simp only [e3] at hr;cases hr
   | some p =>
    obtain ⟨v,h'⟩:=p
    simp only [e3] at hr
    cases e4:freeze h' 1000 v with
    | none=>simp only [e4] at hr;cases hr
    | some q =>
     obtain ⟨y,b⟩:=q
     simp only [e4] at hr
     cases e5:l.all (·.2) || aDC y with
     | false=>rw [e5] at hr;cases hr
     | true =>
      rw [e5,cond_true] at hr
      unfold aB5 aAa
      simp only [e1,hx,hP,e3,e4,Q1,e5,Bool.true_or,cond_true]
      exact hr
noncomputable def aEc (C:Cfg) (Q:List (Nat × AFn)) (T:Tbl):Nat→aAc
 | 0=>fun _ _ _=>none
 | k+1=>fun f args h =>
  match f with
  | .func g =>
   match C.pu g with
   | true =>
    match aI4 T g args h with
    | some r=>some r
    | none=>aO9 Q (aEc C Q T k) k g args h
   | false =>
    match aH0 Q g with
    | some fn=>aHt (aEc C Q T k) k fn args h
    | none=>none
  | .yield l=>aCz (aEc C Q T k) k l args h
  | _=>none
theorem aQv {C:Cfg} (hx:C.ix=fun _=>none) {Q:List (Nat × AFn)} (hQ:aJ2 C Q) {T:Tbl} (hT:Kn C T):∀ (k:Nat) (f:Fn) (a:List AV) (h:aA0) (r:AV × aA0),aEc C Q T k f a h=some r→lim C f a h=some r:=by
 intro k
 induction k with
 | zero=>intro f a h r hr;simp only [aEc] at hr;cases hr
 | succ k ih =>
  have hA:aFy (aEc C Q T k) (fun _=>lim C):=fun f a h r hr=>⟨0,fun _ _=>ih f a h r hr⟩
  intro f a h r hr
  cases f with
  | func g =>
   simp only [aEc] at hr
   cases hp:C.pu g with
   | true =>
    simp only [hp] at hr
    cases e:aI4 T g a h with
    | some r'=>simp only [e] at hr;cases hr;exact aNY hT hp e
    | none =>
     simp only [e] at hr
     obtain ⟨k',hk⟩:=aFo hA (aQc hx hQ hr)
     exact aFR hp k (hk k' k (Q0 _) (Q0 _))
   | false =>
    simp only [hp] at hr
    cases hP:aH0 Q g with
    | none=>simp only [hP] at hr;cases hr
    | some fn =>
     simp only [hP,aHs] at hr
     obtain ⟨k',hk⟩:=aFC hA hr
     exact aEi hp (hQ _ _ hP) k (hk k' k (Q0 _) (Q0 _))
  | yield l =>
   simp only [aEc] at hr
   obtain ⟨k',hk⟩:=aEJ hA hr
   exact aPj k (hk k' k (Q0 _) (Q0 _))
  | _=>simp only [aEc] at hr;cases hr
noncomputable def aRP (Q:List (Nat × AFn)) (call:aAc) (k g:Nat) (l:List AV):Option AV :=
 match aH0 Q g with
 | some fn =>
  match aHt call k fn l [] with
  | some (v,h')=>(freeze h' 1000 v).map (·.1)
  | none=>none
 | none=>none
theorem aAl {C:Cfg} (hx:C.ix=fun _=>none) {Q:List (Nat × AFn)} (hQ:aJ2 C Q) {T:Tbl} (hT:Kn C T) {g:Nat} {l:List AV} {v:AV} (k:Nat) (h:aRP Q (aEc C Q T k) k g l=some v):∃ n,aAa C (lim C) n g l=some v:=by
 have hA:aFy (aEc C Q T k) (fun _=>lim C):=fun f a h r hr=>⟨0,fun _ _=>aQv hx hQ hT k f a h r hr⟩
 have h2:aAa C (aEc C Q T k) k g l=some v:=by
  unfold aRP at h
  cases e:aH0 Q g with
  | none=>simp only [e] at h;cases h
  | some fn =>
   simp only [e,aHs] at h
   unfold aAa
   simp only [hx,hQ _ _ e]
   exact h
 obtain ⟨k',hk⟩:=aHw hA h2
 exact ⟨k,(hk k' k (Q0 _) (Q0 _)).1⟩
end Go.Proofs.Yteenffomgdfocaa.Ai
