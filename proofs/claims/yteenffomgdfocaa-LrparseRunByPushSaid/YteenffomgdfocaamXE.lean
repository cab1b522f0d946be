/- A run of the parser, plain: single pushes composed are the run. No program in sight. -/
import Derived.Test.YteenffomgdfocaamXC
import Derived.Test.YteenffomgdfocaamXD
namespace Go.Proofs.Yteenffomgdfocaa.Ai
open Go Go.Proofs
open List renaming getElem?_eq_none → Q0, getElem_mem → Q1
set_option linter.unusedVariables false
set_option linter.unusedSimpArgs false
def aIU (t:TabD) (s term:Int):Option (Int × Int):=((t.acts.getD s.toNat []).getD term.toNat []).head?
def aBd (g:GramD) (r:Int):RuleD:=g.rules.getD r.toNat ⟨0,[],[],[],0⟩
def aEb (t:TabD) (s l:Int):Int:=(t.gotos.getD s.toNat []).getD l.toNat (-1)
def aAL (g:GramD) (t:TabD) (term:Int):Nat→List Int→List Int→Int × List Int × List Int
 | 0,st,mv=>(29,st,mv)
 | f+1,st,mv =>
  match aIU t (st.getLastD 0) term with
  | none=>(31,st,mv)
  | some (k,n) =>
   if k=1 then (0,st++[n],mv) else if k=2 then
    (if (st.length:Int) - (aBd g n).right.length < 1∨aEb t (st.getD (st.length - (aBd g n).right.length - 1) 0) (aBd g n).left < 0 then (34,st,mv)
    else if mv.length=100000 then (29,st,mv)
    else aAL g t term f (st.take (st.length - (aBd g n).right.length)++[aEb t (st.getD (st.length - (aBd g n).right.length - 1) 0) (aBd g n).left]) (mv++[n]))
   else (0,st,mv)
def aCk (g:GramD) (t:TabD):List Int→Int→List Int→List Int→List Int × Int × Int
 | [],i,st,mv=>(mv,i - 1,0)
 | x::ts,i,st,mv =>
  match aAL g t x (100001 - mv.length) st mv with
  | (e,st',mv')=>if e=0 then aCk g t ts (i+1) st' mv' else if e=31 then ([],i,31) else ([],0,e)
def aGW (g:GramD) (t:TabD) (R:List Int × Int × Int):List Int→Int→List Int→List Int→Bool
 | [],i,st,all=>decide (R.2.2=0) && decide (R.2.1=i - 1) && decide (R.1=all)
 | x::ts,i,st,all =>
  match aAL g t x 100001 st [] with
  | (e,st',m)=>if e=0 then (if st'=[] then false else aGW g t R ts (i+1) st' (all++m)) else decide (e=R.2.2) && (decide (R.2.2≠31) || decide (R.2.1=i)) && decide (R.1=[])
theorem aN3 (g:GramD) (t:TabD) (x:Int):∀ (f:Nat) (st p mv:List Int) (f':Nat),f+(p++mv).length≤100001→f≤f'→(aAL g t x f st (p++mv)).1≠29 →
  ∃ m,(aAL g t x f st (p++mv)).2.2=p++m∧aAL g t x f' st mv=((aAL g t x f st (p++mv)).1,(aAL g t x f st (p++mv)).2.1,m)∧(mv++[]).length≤m.length∧(p++m).length≤100000:=by
 intro f
 induction f with
 | zero=>intro st p mv f' h1 h2 h3;exact absurd rfl h3
 | succ f ih =>
  intro st p mv f' h1 h2 h3
  obtain ⟨f',rfl⟩:∃ q,f'=q+1:=⟨f' - 1,by omega⟩
  have hl:(p++mv).length≤100000:=by omega
  simp only [aAL] at h3 ⊢
  cases ha:aIU t (st.getLastD 0) x with
  | none=>exact ⟨mv,rfl,rfl,by simp,hl⟩
  | some a =>
   obtain ⟨k,n⟩:=a
   simp only [ha] at h3 ⊢
   by_cases k1:k=1
   ·simp only [k1,if_true] at h3 ⊢;exact ⟨mv,rfl,rfl,by simp,hl⟩
   ·simp only [k1,if_false] at h3 ⊢
    by_cases k2:k=2
    ·simp only [k2,if_true] at h3 ⊢
     split
     ·exact ⟨mv,rfl,rfl,by simp,hl⟩
     ·rename_i c1
      rw [if_neg c1] at h3
      split at h3
      ·exact absurd rfl h3
      ·rename_i c2
       have c3:¬ mv.length=100000:=by rw [List.length_append] at c2 hl;omega
       rw [if_neg c2,if_neg c3]
       rw [List.append_assoc] at h3 ⊢
       obtain ⟨m,e1,e2,e3,e4⟩:=ih _ p (mv++[n]) f' (by rw [← List.append_assoc,List.length_append];simp only [List.length_cons,List.length_nil];omega) (by omega) h3
       exact ⟨m,e1,e2,by simp at e3 ⊢;omega,e4⟩
    ·simp only [k2,if_false] at h3 ⊢;exact ⟨mv,rfl,rfl,by simp,hl⟩
structure TabOk (g:GramD) (t:TabD):Prop where
 n1:1≤t.acts.length
 n2:t.acts.length≤4096
 n3:t.gotos.length=t.acts.length
 ra:∀ r ∈ t.acts,r.length=g.terms.length
 rg:∀ r ∈ t.gotos,r.length=g.nonterms.length
 ac:∀ r ∈ t.acts,∀ l ∈ r,∀ a ∈ l,(a.1=1∧0≤a.2∧a.2 < t.acts.length)∨(a.1=2∧1≤a.2∧a.2 < g.rules.length)∨(a.1≠1∧a.1≠2)
 go:∀ r ∈ t.gotos,∀ x ∈ r, -1≤x∧x < t.acts.length
def aFv (t:TabD) (st:List Int):Prop:=st≠[]∧∀ s ∈ st,0≤s∧s < t.acts.length
theorem aLZ {g:GramD} {t:TabD} (ht:TabOk g t) (s l:Int):aEb t s l < t.acts.length:=by
 have h1:=ht.n1
 unfold aEb
 rcases Nat.lt_or_ge s.toNat t.gotos.length with c | c
 ·have e:t.gotos.getD s.toNat []=t.gotos[s.toNat]:=by simp [c]
  rw [e]
  rcases Nat.lt_or_ge l.toNat t.gotos[s.toNat].length with d | d
  ·have e2:t.gotos[s.toNat].getD l.toNat (-1)=t.gotos[s.toNat][l.toNat]:=by simp [d]
   rw [e2];exact (ht.go _ (Q1 c) _ (Q1 d)).2
  ·have e2:t.gotos[s.toNat].getD l.toNat (-1) = -1:=by simp [Q0 d]
   rw [e2];omega
 ·have e:t.gotos.getD s.toNat []=[]:=by simp [Q0 c]
  rw [e];simp;omega
theorem aQD {t:TabD} {s x:Int} {a:Int × Int} (h:aIU t s x=some a):∃ r ∈ t.acts,∃ l ∈ r,a ∈ l:=by
 unfold aIU at h
 rcases Nat.lt_or_ge s.toNat t.acts.length with c | c
 ·have e:t.acts.getD s.toNat []=t.acts[s.toNat]:=by simp [c]
  rw [e] at h
  rcases Nat.lt_or_ge x.toNat t.acts[s.toNat].length with d | d
  ·have e2:t.acts[s.toNat].getD x.toNat []=t.acts[s.toNat][x.toNat]:=by simp [d]
   rw [e2] at h
   exact ⟨_,Q1 c,_,Q1 d,List.mem_of_mem_head? h⟩
  ·have e2:t.acts[s.toNat].getD x.toNat []=[]:=by simp [Q0 d]
   rw [e2] at h;cases h
 ·have e:t.acts.getD s.toNat []=[]:=by simp [Q0 c]
  rw [e] at h;simp at h
theorem aIK {g:GramD} {t:TabD} (ht:TabOk g t) (x:Int):∀ (f:Nat) (st mv:List Int),aFv t st→aFv t (aAL g t x f st mv).2.1:=by
 intro f
 induction f with
 | zero=>intro st mv h;exact h
 | succ f ih =>
  intro st mv h
  simp only [aAL]
  cases ha:aIU t (st.getLastD 0) x with
  | none=>exact h
  | some a =>
   obtain ⟨k,n⟩:=a
   simp only
   obtain ⟨r,hr,l,hl,hal⟩:=aQD ha
   have hac:=ht.ac r hr l hl _ hal
   split
   ·rename_i k1
    rcases hac with c | c | c
    ·exact ⟨by simp,fun s hs=>by rcases List.mem_append.1 hs with q | q;exact h.2 s q;simp at q;subst q;exact c.2⟩
    ·simp at c;omega
    ·simp at c;omega
   ·split
    ·split
     ·exact h
     ·rename_i c1
      split
      ·exact h
      ·refine ih _ _ ⟨by simp,fun s hs => ?_⟩
       rcases List.mem_append.1 hs with q | q
       ·exact h.2 s (List.mem_of_mem_take q)
       ·simp only [List.mem_singleton] at q
        subst q
        exact ⟨by omega,aLZ ht _ _⟩
    ·exact h
theorem aRf (g:GramD) (t:TabD) (ht:TabOk g t):∀ (ts:List Int) (i:Int) (st mv:List Int),aFv t st→mv.length≤100000→(aCk g t ts i st mv).2.2≠29→aGW g t (aCk g t ts i st mv) ts i st mv=true:=by
 intro ts
 induction ts with
 | nil=>intro i st mv hs hl hn;simp [aGW,aCk]
 | cons x ts ih =>
  intro i st mv hs hl hn
  have sp:=aN3 g t x (100001 - mv.length) st mv [] 100001 (by simp;omega) (by omega)
  rw [List.append_nil] at sp
  have ok:=aIK ht x 100001 st [] hs
  obtain ⟨e,st',mv',hP⟩:∃ e st' mv',aAL g t x (100001 - mv.length) st mv=(e,st',mv'):=⟨_,_,_,rfl⟩
  rw [hP] at sp;simp only at sp
  have hR:aCk g t (x::ts) i st mv=if e=0 then aCk g t ts (i+1) st' mv' else if e=31 then ([],i,31) else ([],0,e):=by rw [aCk,hP]
  rw [hR] at hn ⊢
  simp only [aGW]
  by_cases e0:e=0
  ·subst e0
   obtain ⟨m,e1,e2,e3,e4⟩:=sp (by decide)
   simp only [if_true] at hn ⊢
   rw [e2] at ok ⊢
   simp only [if_true]
   rw [if_neg ok.1,← e1]
   exact ih _ _ _ ok (by rw [e1];exact e4) hn
  ·rw [if_neg e0] at hn ⊢
   by_cases e31:e=31
   ·subst e31
    obtain ⟨m,e1,e2,e3,e4⟩:=sp (by decide)
    rw [e2];simp
   ·rw [if_neg e31] at hn ⊢
    obtain ⟨m,e1,e2,e3,e4⟩:=sp hn
    rw [e2];simp [e0,e31]
end Go.Proofs.Yteenffomgdfocaa.Ai
namespace Go.Proofs.Yteenffomgdfocaa.Ai
open Go
set_option linter.unusedVariables false
set_option linter.unusedSimpArgs false
def aG4 (sz:Nat) (rows:List (List AV)) (v:AV) (h:aA0) (q:Option Nat):Prop :=
 (rows=[]∧v=.nilS∧q=none)∨(rows≠[]∧∃ i ver,q=some i∧v=.hsl i ver 0 rows.length none∧h[i]?=some (.arr ver sz false rows))
theorem aG4.nil (sz:Nat) (h:aA0):aG4 sz [] .nilS h none:=.inl ⟨rfl,rfl,rfl⟩
theorem aG4.frame {sz:Nat} {rows:List (List AV)} {v:AV} {h h':aA0} {q:Option Nat} (ho:aG4 sz rows v h q) (hf:∀ i o,q=some i→h[i]?=some o→h'[i]?=some o):aG4 sz rows v h' q:=by
 rcases ho with ho | ⟨h1,i,ver,h2,h3,h4⟩
 ·exact .inl ho
 ·exact .inr ⟨h1,i,ver,h2,h3,hf i _ h2 h4⟩
theorem aG4.len {sz:Nat} {rows:List (List AV)} {v:AV} {h:aA0} {q:Option Nat} (ho:aG4 sz rows v h q) (h':aA0):aBt h' .slice v=some (.int .i64 rows.length):=by
 rcases ho with ⟨h1,h2,_⟩ | ⟨h1,i,ver,h2,h3,h4⟩
 ·subst h1 h2;rfl
 ·subst h3;rfl
theorem aG4.cell {sz:Nat} {rows:List (List AV)} {v:AV} {h:aA0} {q:Option Nat} (ho:aG4 sz rows v h q):cellsOf v=[v]∧aAn v=true:=by
 rcases ho with ⟨_,h2,_⟩ | ⟨_,i,ver,_,h3,_⟩
 ·subst h2;exact ⟨rfl,rfl⟩
 ·subst h3;exact ⟨rfl,rfl⟩
theorem aG4.lt {sz:Nat} {rows:List (List AV)} {v:AV} {h:aA0} {i:Nat} (ho:aG4 sz rows v h (some i)):i < h.length:=by
 rcases ho with ⟨_,_,h⟩ | ⟨_,j,ver,h2,_,h4⟩
 ·cases h
 ·cases h2;exact aGG h4
def aCW (l:List Int) (v:AV) (h:aA0) (q:Option Nat):Prop :=
 (l=[]∧v=.nilS∧q=none)∨∃ i c,q=some i∧v=.hsl i 0 0 l.length (some c)∧l.length≤c∧h[i]?=some (.arr 0 1 true (eIs l++List.replicate (c - l.length) [.int .i64 0]))
theorem aCW.nil (h:aA0):aCW [] .nilS h none:=.inl ⟨rfl,rfl,rfl⟩
theorem aCW.frame {l:List Int} {v:AV} {h h':aA0} {q:Option Nat} (ho:aCW l v h q) (hf:∀ i o,q=some i→h[i]?=some o→h'[i]?=some o):aCW l v h' q:=by
 rcases ho with ho | ⟨i,c,h1,h2,h3,h4⟩
 ·exact .inl ho
 ·exact .inr ⟨i,c,h1,h2,h3,hf i _ h1 h4⟩
theorem aCW.len {l:List Int} {v:AV} {h:aA0} {q:Option Nat} (ho:aCW l v h q) (h':aA0):aBt h' .slice v=some (.int .i64 l.length):=by
 rcases ho with ⟨h1,h2,_⟩ | ⟨i,c,_,h2,_,_⟩
 ·subst h1 h2;rfl
 ·subst h2;rfl
theorem aCW.cell {l:List Int} {v:AV} {h:aA0} {q:Option Nat} (ho:aCW l v h q):cellsOf v=[v]∧aAn v=true:=by
 rcases ho with ⟨_,h2,_⟩ | ⟨i,c,_,h2,_,_⟩ <;> subst h2 <;> exact ⟨rfl,rfl⟩
theorem aCW.lt {l:List Int} {v:AV} {h:aA0} {i:Nat} (ho:aCW l v h (some i)):i < h.length:=by
 rcases ho with ⟨_,_,h⟩ | ⟨j,c,h1,_,_,h4⟩
 ·cases h
 ·cases h1;exact aGG h4
theorem aCW.ix {l:List Int} {v:AV} {h:aA0} {q:Option Nat} (ho:aCW l v h q) {j:Nat} (hj:j < l.length):∃ i,q=some i∧(∀ k:IntKind,aAs h 1 v (.int k j)=some (.ptr i 0 j 0))∧aA2 h 1 false (.ptr i 0 j 0)=some (.int .i64 l[j]):=by
 rcases ho with ⟨h1,_⟩ | ⟨i,c,h1,h2,h3,h4⟩
 ·subst h1;simp at hj
 ·subst h2
  exact ⟨i,h1,fun k=>aQK h4 hj,ldI h4 hj⟩
theorem aCW.put {l:List Int} {v:AV} {h:aA0} {i:Nat} (ho:aCW l v h (some i)) {j:Nat} (hj:j < l.length) (n:Int):∃ h',aAq h 1 (.ptr i 0 j 0) (.int .i64 n)=some h'∧aCW (l.set j n) v h' (some i)∧(∀ p o,h[p]?=some o→p≠i→h'[p]?=some o)∧h'.length=h.length:=by
 rcases ho with ⟨h1,_⟩ | ⟨i',c,h1,h2,h3,h4⟩
 ·subst h1;simp at hj
 ·cases h1
  subst h2
  refine ⟨_,stI h4 hj n,.inr ⟨i,c,rfl,by rw [List.length_set],by rw [List.length_set];exact h3,by rw [List.length_set];exact aEx h4⟩,fun p o e hne=>aFD e (Ne.symm hne),by simp⟩
end Go.Proofs.Yteenffomgdfocaa.Ai
namespace Go.Proofs.Yteenffomgdfocaa.Ai
open Go Go.Proofs
open List renaming length_append → Q0, take_append_of_le_length → Q1, take_of_length_le → Q3
open Nat renaming le_refl → Q2
set_option linter.unusedVariables false
set_option linter.unusedSimpArgs false
set_option maxRecDepth 10000
set_option maxHeartbeats 4000000
def SL (H:aA0) (l:List Int) (v:AV):Prop :=
 (l=[]∧v=.nilS)∨(∃ n,l=[n]∧v=.vsl true (eIs l))∨∃ k ver x junk,v=.hsl k ver 0 l.length none∧H[k]?=some (.arr ver 1 x (eIs l++eIs junk))
theorem SL.len {H:aA0} {l:List Int} {v:AV} (h:SL H l v) (H':aA0):aBt H' .slice v=some (.int .i64 l.length):=by
 rcases h with ⟨rfl,rfl⟩ | ⟨n,rfl,rfl⟩ | ⟨k,ver,x,junk,rfl,_⟩
 ·rfl
 ·rfl
 ·rfl
theorem SL.cell {H:aA0} {l:List Int} {v:AV} (h:SL H l v):cellsOf v=[v]∧aAn v=true:=by
 rcases h with ⟨rfl,rfl⟩ | ⟨n,rfl,rfl⟩ | ⟨k,ver,x,junk,rfl,_⟩ <;> exact ⟨rfl,rfl⟩
theorem SL.plc {H:aA0} {l:List Int} {v:AV} (h:SL H l v) {k:Nat} (hk:Ai.plc v=some k):k < H.length:=by
 rcases h with ⟨rfl,rfl⟩ | ⟨n,rfl,rfl⟩ | ⟨k',ver,x,junk,rfl,h1⟩
 ·cases hk
 ·cases hk
 ·cases hk;exact aGG h1
theorem SL.keep {H H':aA0} {l:List Int} {v:AV} (h:SL H l v) (hk:∀ (k:Nat) (o:AObj),Ai.plc v=some k→H[k]?=some o→H'[k]?=some o):SL H' l v:=by
 rcases h with h | h | ⟨k,ver,x,junk,rfl,h1⟩
 ·exact .inl h
 ·exact .inr (.inl h)
 ·exact .inr (.inr ⟨k,ver,x,junk,rfl,hk k _ rfl h1⟩)
theorem SL.app {H:aA0} {l:List Int} {v:AV} (h:SL H l v) (z:aA0):SL (H++z) l v:=h.keep fun k o _ ho=>aAX ho z
theorem SL.set {H:aA0} {l:List Int} {v:AV} (h:SL H l v) {i:Nat} (hi:Ai.plc v≠some i) (o:AObj):SL (H.set i o) l v:=h.keep fun k o' hk ho=>aFD ho (fun e=>hi (by rw [hk,e]))
theorem SL.get {H:aA0} {l:List Int} {v:AV} (h:SL H l v) (j:Nat) (hj:j < l.length):∃ p,aAs H 1 v (.int .i64 j)=some p∧aA2 H 1 false p=some (.int .i64 l[j]):=by
 rcases h with ⟨rfl,rfl⟩ | ⟨n,rfl,rfl⟩ | ⟨k,ver,x,junk,rfl,h1⟩
 ·simp at hj
 ·refine ⟨_,aCa H true [n] .i64 j hj,?_⟩
  rfl
 ·exact ⟨_,aQK h1 hj,ldI h1 hj⟩
theorem SL.slice {H:aA0} {l:List Int} {v:AV} (h:SL H l v) (p:Nat) (hp:p+1≤l.length):∃ v',aBs H 1 v none (some (.int .i64 ((p+1:Nat):Int))) none=some v'∧SL H (l.take (p+1)) v'∧Ai.plc v'=Ai.plc v:=by
 rcases h with ⟨rfl,rfl⟩ | ⟨n,rfl,rfl⟩ | ⟨k,ver,x,junk,rfl,h1⟩
 ·simp at hp
 ·have:p=0:=by simp at hp;omega
  subst this
  exact ⟨.vsl true (eIs [n]),rfl,.inr (.inl ⟨n,rfl,rfl⟩),rfl⟩
 ·refine ⟨.hsl k ver 0 (p+1) none,?_,.inr (.inr ⟨k,ver,x,l.drop (p+1)++junk,?_,?_⟩),rfl⟩
  ·have hc:0+l.length≤(eIs l++eIs junk).length:=by rw [Q0,Zet];omega
   have hb:aCZ l.length (aIa ((eIs l++eIs junk).length - 0) none) none (some (.int .i64 ((p+1:Nat):Int))) none=some (0,p+1,none):=by
    simp only [aCZ,aDZ,aIa,Option.getD_none,Option.getD_some]
    have hc3:(0:Int)≤0∧(0:Int)≤((p+1:Nat):Int)∧((p+1:Nat):Int)≤(((eIs l++eIs junk).length - 0:Nat):Int):=⟨by omega,by omega,by rw [Q0,Zet];omega⟩
    exact if_pos hc3
   simp only [aBs,aA3,h1,if_true]
   rw [if_pos ⟨trivial,hc⟩,hb]
   rfl
  ·rw [List.length_take];congr 1;omega
  ·have e:eIs (l.take (p+1))++eIs (l.drop (p+1)++junk)=eIs l++eIs junk:=by rw [aC1 (l.drop (p+1)) junk,← List.append_assoc,← aC1,List.take_append_drop]
   rw [h1,e]
theorem aKS (H:aA0) (l:List Int) (n:Int) (hl:l.length≤1000000000):aBq H 1 8 (eIs l++eIs [n])=some (.hsl H.length 0 0 (l.length+1) none,H++[.arr 0 1 false (eIs (l++[n]))]):=by
 unfold aBq
 rw [if_pos ⟨by rw [Q0,Zet,Zet];simp;omega,by rw [← aC1];exact aGL _⟩,← aC1,Zet]
 simp
theorem SL.append {H:aA0} {l:List Int} {v:AV} (h:SL H l v) (n:Int) (hl:l.length≤1000000000):∃ v' H',aGw H 1 8 v (.vsl true [[.int .i64 n]])=some (v',H')∧SL H' (l++[n]) v'∧H.length≤H'.length ∧
  (∀ (j:Nat) (o:AObj),H[j]?=some o→Ai.plc v≠some j→H'[j]?=some o)∧∀ j,j < H.length→Ai.plc v≠some j→Ai.plc v'≠some j:=by
 have one:aAI H 1 (.vsl true [[.int .i64 n]])=some (eIs [n]):=rfl
 unfold aGw
 rw [one]
 simp only [Option.elim_some,aD0,Zet,List.length_cons,List.length_nil]
 rw [if_neg (by omega)]
 rcases h with ⟨rfl,rfl⟩ | ⟨a,rfl,rfl⟩ | ⟨k,ver,x,junk,rfl,h1⟩
 ·refine ⟨_,_,aKS H [] n hl,.inr (.inr ⟨H.length,0,false,[],rfl,by simp [eIs]⟩),by simp,fun j o ho _=>aAX ho _,fun j hj _ e => ?_⟩
  simp [Ai.plc] at e;omega
 ·refine ⟨_,_,aKS H [a] n hl,.inr (.inr ⟨H.length,0,false,[],rfl,by simp [eIs]⟩),by simp,fun j o ho _=>aAX ho _,fun j hj _ e => ?_⟩
  simp [Ai.plc] at e;omega
 ·have hc:True∧0+l.length≤(eIs l++eIs junk).length:=⟨trivial,by rw [Q0,Zet];omega⟩
  have hn1:(eIs [n]).length=1:=rfl
  cases junk with
  | nil =>
   have hno:¬ (0+l.length+(eIs [n]).length≤(eIs l++eIs ([]:List Int)).length∧aHD (l.length+(eIs [n]).length) none=true):=by
    intro h
    have h1:=h.1
    rw [hn1,Q0,Zet,Zet,List.length_nil] at h1
    omega
   have htk:((eIs l++eIs ([]:List Int)).drop 0).take l.length=eIs l:=by
    rw [List.drop_zero,Q1 (by rw [Zet];exact Q2 _)];exact Q3 (by rw [Zet];exact Q2 _)
   have hall:(eIs l++eIs [n]).length*(8+1)≤68719476736∧(eIs l++eIs [n]).all (fun c=>c.length==1 && c.all aAn)=true:=⟨by rw [Q0,Zet,Zet];simp;omega,by rw [← aC1];exact aGL _⟩
   refine ⟨.hsl k (ver+1) 0 (eIs l++eIs [n]).length none,H.set k (.arr (ver+1) 1 false (eIs l++eIs [n])),?_,.inr (.inr ⟨k,ver+1,false,[],?_,?_⟩),by simp,fun j o ho hj => ?_,fun j hj hne=>hne⟩
   ·simp only [aEl,aA3,h1,if_true]
    rw [if_pos hc,if_neg hno]
    simp only [htk]
    rw [if_pos hall]
   ·rw [Q0,Zet,Zet,Q0]
   ·rw [aEx h1,aC1];simp [eIs]
   ·exact aFD ho (fun e=>hj (by rw [← e];rfl))
  | cons b junk =>
   have hyes:0+l.length+(eIs [n]).length≤(eIs l++eIs (b::junk)).length∧aHD (l.length+(eIs [n]).length) none=true:=⟨by rw [hn1,Q0,Zet,Zet,List.length_cons];omega,rfl⟩
   have hall:(eIs [n]).all (fun c=>c.length==1 && c.all aAn)=true:=rfl
   refine ⟨.hsl k ver 0 (l.length+(eIs [n]).length) none,H.set k (.arr ver 1 x ((eIs l++eIs (b::junk)).take (0+l.length)++eIs [n]++(eIs l++eIs (b::junk)).drop (0+l.length+(eIs [n]).length))),?_,.inr (.inr ⟨k,ver,x,junk,?_,?_⟩),by simp,fun j o ho hj => ?_,fun j hj hne=>hne⟩
   ·simp only [aEl,aA3,h1,if_true]
    rw [if_pos hc,if_pos hyes,if_pos hall]
   ·rw [hn1,Q0];rfl
   ·rw [aEx h1,Nat.zero_add,hn1]
    have e1:(eIs l++eIs (b::junk)).take l.length=eIs l:=by
     rw [Q1 (by rw [Zet];exact Q2 _)];exact Q3 (by rw [Zet];exact Q2 _)
    have e2:(eIs l++eIs (b::junk)).drop (l.length+1)=eIs junk:=by
     rw [List.drop_append,List.drop_of_length_le (by rw [Zet];omega),Zet]
     simp [eIs]
    rw [e1,e2,aC1]
   ·exact aFD ho (fun e=>hj (by rw [← e];rfl))
theorem SL.freeze {H:aA0} {l:List Int} {v:AV} (h:SL H l v):∃ v' c,Ai.freeze H 1000 v=some (v',c)∧Li l v':=by
 rcases h with ⟨rfl,rfl⟩ | ⟨n,rfl,rfl⟩ | ⟨k,ver,x,junk,rfl,h1⟩
 ·exact ⟨_,_,rfl,.inl ⟨rfl,rfl⟩⟩
 ·exact ⟨_,_,rfl,.inr ⟨true,rfl⟩⟩
 ·have hg:aA3 H k ver=some (1,x,eIs l++eIs junk):=by simp only [aA3,h1,if_true]
  have htk:((eIs l++eIs junk).drop 0).take l.length=eIs l:=by
   rw [List.drop_zero,Q1 (by rw [Zet];exact Q2 _)];exact Q3 (by rw [Zet];exact Q2 _)
  have hm:aAk (aAk (Ai.freeze H 999)) (((eIs l++eIs junk).drop 0).take l.length)=some (l.map fun y=>[(.int .i64 y,true)]):=by rw [htk];exact aF8 H 998 l
  have:=aGZ (d:=999) (c:=none) hg (by rw [Q0,Zet];omega) hm
  refine ⟨_,_,this,.inr ⟨false,?_⟩⟩
  simp [eIs,eI,Function.comp_def]
theorem aBz {H:aA0} {i ver sz j:Nat} {x:Bool} {cells:List AV} {rest:List (List AV)} {v:AV} (g0:H[i]?=some (.arr ver sz x (cells::rest))) (hj:cells[j]?=some v):aA2 H 1 false (.ptr i ver 0 j)=some v:=by
 have hlt:=(List.getElem?_eq_some_iff.1 hj).1
 simp only [aA2,aA4,aA3,g0,if_true,List.getElem?_cons_zero,part]
 rw [if_pos (by omega)]
 have:(cells.drop j).take 1=[v]:=by
  rw [List.drop_eq_getElem_cons hlt,List.take_succ_cons,List.take_zero,(List.getElem?_eq_some_iff.1 hj).2]
 rw [this];rfl
theorem aNF {H:aA0} {i ver sz j:Nat} {x:Bool} {cells:List AV} {rest:List (List AV)} {v:AV} (g0:H[i]?=some (.arr ver sz x (cells::rest))) (hj:j < cells.length) (hv:cellsOf v=[v]∧aAn v=true) :
  aAq H 1 (.ptr i ver 0 j) v=some (H.set i (.arr ver sz x (cells.set j v::rest))):=by
 simp only [aAq,aA3,g0,if_true,List.getElem?_cons_zero,hv.1]
 rw [if_pos ⟨rfl,by omega,by simp [hv.2]⟩]
 have:aAm cells j [v]=cells.set j v:=by
  unfold aAm
  rw [List.set_eq_take_append_cons_drop,if_pos hj]
  simp
 rw [this];rfl
abbrev mC (g:GramD) (av gv sv mv:AV):List AV:=[.vsl false (eSs g.terms),.vsl false (eSs g.nonterms),.vsl false (eIs g.origins),.vsl false (g.rules.map aAt),.vsl false (g.levels.map aBm),av,gv,sv,mv]
def MS (g:GramD) (av gv:AV) (i:Nat) (st mv:List Int) (H:aA0):Prop :=
 ∃ sv mvv,H[i]?=some (.arr 0 9 true [mC g av gv sv mvv])∧SL H st sv∧SL H mv mvv∧plc sv≠some i∧plc mvv≠some i∧∀ k,plc sv=some k→plc mvv≠some k
theorem MS.app {g:GramD} {av gv:AV} {i:Nat} {st mv:List Int} {H:aA0} (h:MS g av gv i st mv H) (z:aA0):MS g av gv i st mv (H++z):=by
 obtain ⟨sv,mvv,h1,h2,h3,h4,h5,h6⟩:=h
 exact ⟨sv,mvv,aAX h1 z,h2.app z,h3.app z,h4,h5,h6⟩
end Go.Proofs.Yteenffomgdfocaa.Ai
