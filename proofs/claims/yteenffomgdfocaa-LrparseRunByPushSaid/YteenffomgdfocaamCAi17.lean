/- One operation, its guard and its calls taken in, within the calculus of walks. -/
import Derived.Test.YteenffomgdfocaamCAi16
namespace Go.Proofs.Yteenffomgdfocaa.Ai
open Go Go.RowKit
open Option renaming map_eq_some_iff → Q0
set_option linter.unusedVariables false
set_option linter.unusedSimpArgs false
abbrev Fw (ro:Option Nat):Fence:={ fn:=fun _=>True,depth:=none,alive:=false,round:=ro }
def Ret (G:Pg) (B:Nat→Prop) (S:List Ent) (w:World) (x:AV) (h':aA0):Ending→World→Prop :=
 fun e w'=>∃ v S',e=.returned v∧Evo S w S' w'∧HeapRel G B S' w' h'∧Rep B S' w' v x
structure CallOk (G:Pg) (call:aAc):Prop where
 fn:∀ (B:Nat→Prop) (S:List Ent) (w:World) (h:aA0) (vs:Array Value) (args:List AV) (g:Nat) (x:AV) (h':aA0),call (.func g) args h=some (x,h')→HeapRel G B S w h→aAx B S w vs args →
  (∀ args w,(callFunc g args).run G.P w=.ok (.enter g args) w)∧CallsIn (Fw none) 0 G.P g vs w (Ret G B S w x h')
 yld:∀ (B:Nat→Prop) (S:List Ent) (w:World) (h:aA0) (vs:Array Value) (args:List AV) (i:Nat) (t:Ent) (x:AV) (h':aA0),call (.yield i) args h=some (x,h')→S[i]?=some t→HeapRel G B S w h→aAx B S w vs args →
  ∃ fn tmps asg body,(Instr.yield t.b vs).run G.P w=.ok (.round t.b fn tmps asg body) w∧RoundIn (Fw none) 0 G.P t.b fn tmps asg body w (Ret G B S w x h')
 pure:aGh G.pu call
def aHc (S:List Ent) (w:World) (base:Nat) (ds:List Deferred):Prop :=
 (ds.Pairwise fun d d'=>d.target≠d'.target)∧∀ d ∈ ds,∃ r,d.target=.collected r∧base≤r∧r ∉ aBx S∧w.heap[r]?=some (.deferred (some []))
theorem aHc.evo {S S':List Ent} {w w':World} {base:Nat} {ds:List Deferred} (h:aHc S w base ds) (ev:Evo S w S' w'):aHc S' w' base ds :=
 ⟨h.1,fun d hd=>by
  obtain ⟨r,h1,h2,h3,h4⟩:=h.2 d hd
  obtain ⟨k1,k2⟩:=ev.keep r (Array.getElem?_eq_some_iff.1 h4).1 h3
  exact ⟨r,h1,h2,k2,k1.trans h4⟩⟩
def At (G:Pg) (B:Nat→Prop) (S0:List Ent) (w0:World) (s:St) (a:Act) (w:World):Prop :=
 ∃ S,Evo S0 w0 S w∧HeapRel G B S w s.h∧aAx B S w a.tmps s.t∧aHc S w w0.heap.size a.defers
section
variable {G : Pg} {B : Nat → Prop} {S : List Ent} {w : World} {h : aA0}
theorem Rep.bool_eq {b:Bool} {x:AV} (hr:Rep B S w (.bool b) x):x=.bool b∨x=.junk:=by
 cases hr with
 | pure _ _ h=>cases h <;> simp
theorem aEz {P:Program} {hp:Bool} {ops:Array Oper}:∀ {l:List Oper} {al:List AOper},aDj P hp ops l=some al →
  al.length=l.length∧∀ (i:Nat) (o:Oper),l[i]?=some o→∃ op g,(cOp P hp o=some op∨op=.fail)∧aGM ops o.guard=some g∧al[i]?=some ⟨o.dst,op,g⟩
 | [],al,h=>by
  simp [aDj] at h;subst h
  exact ⟨rfl,fun i o h=>by simp at h⟩
 | o::r,al,h=>by
  unfold aDj at h
  split at h
  ·rename_i g r' e2 e3
   cases h
   obtain ⟨k1,k2⟩:=aEz e3
   refine ⟨by simp [k1],fun i o' hi => ?_⟩
   cases i with
   | zero =>
    simp at hi;subst hi
    cases e1:cOp P hp o with
    | none=>exact ⟨_,g,.inr rfl,e2,rfl⟩
    | some op=>exact ⟨op,g,.inl rfl,e2,rfl⟩
   | succ i=>simpa using k2 i o' (by simpa using hi)
  ·cases h
theorem aKy {ops:Array Oper} {o:Oper} {g:Option (Nat × Bool)} (hg:aGM ops o.guard=some g) {a:Act} {t:List AV} (hf:aAx B S w a.tmps t) {b:Bool} (hw:wanted t g=some b) :
  Region.wanted o (yielded ops a.tmps)=b:=by
 cases ho:o.guard with
 | none =>
  simp [ho,aGM] at hg;subst hg
  simp [wanted] at hw;subst hw
  simp [Region.wanted,ho]
 | some p =>
  obtain ⟨j,want⟩:=p
  simp only [ho,aGM] at hg
  cases hd:(ops[j]?).bind (·.dst) with
  | none=>simp [hd] at hg
  | some d =>
   simp [hd] at hg;subst hg
   have hy:yielded ops a.tmps j=match a.tmps[d]? with | some (.bool b)=>some b | _=>none:=by
    unfold yielded
    rw [hd]
    rfl
   simp only [Region.wanted,ho,hy]
   simp only [wanted] at hw
   cases ht:t[d]? with
   | none =>
    simp [ht] at hw;subst hw
    have:a.tmps[d]?=none:=by
     rw [List.getElem?_eq_none_iff] at ht
     exact Array.getElem?_eq_none (by rw [hf.1];exact ht)
    simp [this]
   | some x =>
    have hlt:d < a.tmps.size:=by rw [hf.1];exact (List.getElem?_eq_some_iff.1 ht).1
    have hx:=hf.2 d x ht
    have hv:a.tmps[d]?=some (a.tmps.getD d Go.undef):=by simp [Array.getD,hlt]
    rw [hv]
    generalize a.tmps.getD d Go.undef=v at hx
    by_cases hb:∃ c,x=.bool c
    ·obtain ⟨c,rfl⟩:=hb
     have:=hx.bool_inv
     subst this
     simp [ht] at hw
     subst hw
     cases c <;> cases want <;> rfl
    ·have hnj:x≠.junk:=fun e=>by subst e;simp [ht] at hw
     have hne:∀ c,v≠.bool c:=fun c e=>hb ⟨c,by subst e;exact hx.bool_eq.resolve_right hnj⟩
     have h1:(match some v with | some (.bool b)=>some b | _=>none:Option Bool)=none:=by
      cases v <;> first | rfl | exact absurd rfl (hne _)
     rw [h1]
     cases x with
     | bool c=>exact absurd ⟨c,rfl⟩ hb
     | undef=>simp [ht] at hw
     | junk=>exact absurd rfl hnj
     | _=>simp [ht] at hw;subst hw;simp
theorem aPA {P:Program} {hp:Bool} {o:Oper} {ao:AOp} (hc:cOp P hp o=some ao):(∀ c,o.op≠.defer c)∧∀ cs b,o.op≠.select cs b :=
 ⟨fun c e=>by unfold cOp at hc;rw [e] at hc;simp at hc,fun cs b e=>by unfold cOp at hc;rw [e] at hc;simp at hc⟩
theorem aL9 {P:Program} {b:Builtin} {tys:List TypeId} {args:List AX} {f:AX} {as:List AX} (h:aEk P b tys args=some (.call f as)):False:=by
 unfold aEk at h
 repeat' split at h
 all_goals first
  | (cases h;done)
  | (obtain ⟨_,_,h⟩:=Q0.1 h;cases h;done)
  | skip
theorem aQx {P:Program} {hp:Bool} {o:Oper} {f:AX} {as:List AX} (hc:cOp P hp o=some (.call f as)):∃ c fo,o.op=.call c∧c.callee=.value fo∧cXs c.args=some as∧cX fo=some f:=by
 cases hop:o.op
 case call c =>
  unfold cOp at hc
  simp only [hop] at hc
  split at hc
  ·rename_i fo args e1 e2
   obtain ⟨y,hx,hy⟩:=Q0.1 hc
   cases hy
   exact ⟨c,fo,rfl,e1,e2,hx⟩
  ·exact (aL9 hc).elim
  ·obtain ⟨_,_,h⟩:=Q0.1 hc;cases h
  ·cases hc
 all_goals exfalso
 all_goals unfold cOp at hc
 all_goals simp only [hop] at hc
 all_goals repeat' split at hc
 all_goals first
  | (cases hc;done)
  | contradiction
  | (obtain ⟨_,_,h⟩:=Q0.1 hc;cases h;done)
theorem aJo {P:Program} {b:Builtin} {tys:List TypeId} {args:List AX} {tb:List (Nat × Nat)} {f:AX} {as:List AX} (h:aEk P b tys args=some (.invoke tb f as)):False:=by
 unfold aEk at h
 repeat' split at h
 all_goals first
  | (cases h;done)
  | (obtain ⟨_,_,h⟩:=Q0.1 h;cases h;done)
  | skip
theorem aOt {P:Program} {hp:Bool} {o:Oper} {tb:List (Nat × Nat)} {f:AX} {as:List AX} (hc:cOp P hp o=some (.invoke tb f as)):∃ c recv m,o.op=.call c∧c.callee=.invoke recv m∧cXs c.args=some as∧cX recv=some f∧tb=aJe P m:=by
 cases hop:o.op
 case call c =>
  unfold cOp at hc
  simp only [hop] at hc
  split at hc
  ·obtain ⟨_,_,h⟩:=Q0.1 hc;cases h
  ·exact (aJo hc).elim
  ·rename_i recv m args e1 e2
   obtain ⟨y,hx,hy⟩:=Q0.1 hc
   cases hy
   exact ⟨c,recv,m,rfl,e1,e2,hx,rfl⟩
  ·cases hc
 all_goals exfalso
 all_goals unfold cOp at hc
 all_goals simp only [hop] at hc
 all_goals repeat' split at hc
 all_goals first
  | (cases hc;done)
  | contradiction
  | (obtain ⟨_,_,h⟩:=Q0.1 hc;cases h;done)
theorem aLK {P:Program} {w:World}:(program:Sem Program).run P w=.ok P w:=rfl
theorem aO3 {P:Program} {m:String} {t f:Nat} (h:aLw P m t=some f) (v:Value) (w:World):(method (P.types.size+Made.depth) t v m).run P w=.ok (f,v) w:=by
 unfold aLw at h
 split at h
 ·rename_i i hi
  split at h
  ·rename_i r hr
   split at h
   ·rename_i hp
    have hp':r.path.toList=[]:=by
     have : r.path = #[] := by simpa using hp
     rw [this]
    obtain ⟨k,hk⟩:∃ k,P.types.size+Made.depth=k+1:=⟨P.types.size+Made.depth - 1,by have hd:0 < Made.depth:=(by decide);omega⟩
    rw [hk]
    unfold method
    split at h
    ·rename_i f' e hf hu
     cases h
     simp [run_typeInfo w hi,hr,hp',follow,hf,receiverAt,run_underlying hu,Place.get]
    ·cases h
    ·cases h
    ·rename_i f' d hne hf hu
     cases h
     have hd:∀ e,d≠.pointer e:=fun e he=>by subst he;exact hne e rfl
     cases d <;> simp [run_typeInfo w hi,hr,hp',follow,hf,receiverAt,run_underlying hu,Place.get] at hd ⊢
    ·cases h
   ·cases h
  ·cases h
 ·cases h
theorem aPh {P:Program} {m:String} {t:Nat} {p:Nat × Nat} (h:(aJe P m).find? (fun q=>q.1==t)=some p):aLw P m t=some p.2:=by
 have h1:=List.find?_some h
 have h2:=List.mem_of_find?_eq_some h
 simp only [beq_iff_eq] at h1
 unfold aJe at h2
 obtain ⟨a,_,e⟩:=List.mem_filterMap.1 h2
 obtain ⟨f,e1,e2⟩:=Q0.1 e
 subst e2
 simp only at h1 ⊢
 rw [← h1];exact e1
theorem aRT {o:Option AV} {hh:aA0} {f:Fn} {args:List AV} (hr:(o.map fun v=>AR.v v hh)=some (.call f args)):False:=by
 cases o <;> simp at hr
theorem At.put {S0:List Ent} {w0:World} {s:St} {a:Act} {d:Option Nat} {v:Value} {x:AV} {w':World} {h':aA0} {S':List Ent}
  (e0:Evo S0 w0 S w) (hf:aAx B S w a.tmps s.t) (hm:aHc S w w0.heap.size a.defers) (ev:Evo S w S' w') (hH:HeapRel G B S' w' h') (hx:Rep B S' w' v x) :
  At G B S0 w0 ⟨Ai.put s.t d x,h'⟩ (a.put d v) w':=by
 refine ⟨S',e0.trans ev,hH,?_,?_⟩
 ·cases d with
  | none=>exact hf.evo ev
  | some d=>exact (hf.evo ev).set d hx
 ·have:(a.put d v).defers=a.defers:=by cases d <;> rfl
  rw [this]
  exact hm.evo ev
theorem aSA {call:aAc} (hC:CallOk G call) {hp:Bool} {ops:Array Oper} {o:Oper} {op:AOp} {g:Option (Nat × Bool)} (hc0:cOp G.P hp o=some op∨op=.fail) (hg:aGM ops o.guard=some g) {i:Nat} (hi:ops[i]?=some o)
  {S0:List Ent} {w0:World} {s s':St} {a:Act} (hA:At G B S0 w0 s a w) (hr:aAw call ⟨o.dst,op,g⟩ s=some s') {ro:Option Nat} {Q:Exit→Act→World→Prop} :
  wpOpIn (Fw ro) 0 G.P ops Q i (fun a' w'=>At G B S0 w0 s' a' w') a w:=by
 obtain ⟨S,e0,hH,hf,hm⟩:=hA
 unfold wpOpIn
 simp only [hi]
 unfold aAw at hr
 split at hr
 ·cases hr
 ·rename_i hw
  simp only [aKy hg hf hw,Bool.false_eq_true,if_false]
  cases hr
  exact ⟨fun _ _=>trivial,At.put e0 hf hm (Evo.refl S w) hH .un⟩
 ·rename_i hw
  simp only [aKy hg hf hw,if_true]
  have hc:cOp G.P hp o=some op:=by
   rcases hc0 with hc | rfl
   ·exact hc
   ·simp [aop] at hr
  unfold Oper.wpIn
  refine ⟨fun _ _=>trivial,?_⟩
  rw [Oper.semAt_eq _ _ _ (aPA hc).1]
  split at hr
  ·cases hr
  ·rename_i x h' ha
   cases hr
   obtain ⟨v,w',S',hy,k1,k2,k3⟩:=aSl hc hf hH ha
   rcases hy with hy | ⟨hy,rfl⟩
   ·rw [hy];exact At.put e0 hf hm k1 k2 k3
   ·rw [hy];exact At.put e0 hf hm k1 k2 k3
  ·rename_i f args ha
   split at hr
   ·rename_i x h' hcall
    cases hr
    -- a call
    have hop:(∃ fx as,op=.call fx as)∨∃ tb fx as,op=.invoke tb fx as:=by
     cases op
     case call fx as=>exact .inl ⟨fx,as,rfl⟩
     case invoke tb fx as=>exact .inr ⟨tb,fx,as,rfl⟩
     all_goals exfalso
     all_goals simp only [aop] at ha
     all_goals repeat' split at ha
     all_goals first
      | (cases ha;done)
      | exact aRT ha
      | (obtain ⟨_,_,h⟩:=Q0.1 ha;cases h;done)
      | (obtain ⟨_,_,h⟩:=Q0.1 ha;split at h <;> (cases h;done))
    rcases hop with ⟨fx,as,rfl⟩ | ⟨tb,fx,as,rfl⟩
    rotate_left
    ·-- a method behind an interface
     obtain ⟨c,recv,m,h1,h2,h3,h4,rfl⟩:=aOt hc
     have hfo:=aAC h4 hf
     have has:=aHK h3 hf
     simp only [aop] at ha
     have hexec:execOp a.eval o=(do let d ← resolve a.eval c o.type;invoke d.target d.args):=by
      unfold execOp;rw [h1]
     rw [hexec]
     split at ha
     ·rename_i ty v e
      split at ha
      ·rename_i p hp
       cases ha
       rw [e] at hfo
       obtain ⟨v1,e2,r1⟩:=hfo.iface_inv
       have hm':=aO3 (aPh hp) v1 w
       have hrun : (do let d ← resolve a.eval c o.type; invoke d.target d.args : Sem Next).run G.P w = (callFunc p.2 (#[v1] ++ c.args.map a.eval)).run G.P w := by
        have g0 : (#[Value.iface ty v1] ++ c.args.map a.eval)[0]? = some (Value.iface ty v1) := by simp [Array.getElem?_append]
        have g1 : (#[Value.iface ty v1] ++ c.args.map a.eval).extract 1 (#[Value.iface ty v1] ++ c.args.map a.eval).size = c.args.map a.eval := by
         apply Array.ext'
         simp only [Array.size_append,Array.size_map,Array.toList_extract,Array.toList_append,Array.toList_map]
         simp
         exact List.take_of_length_le (by simp)
        simp only [Sem.run_bind,resolve,h2,e2,Sem.run_pure,Result.andThen_ok,invoke,g0,g1,callMethod,aLK,hm']
       obtain ⟨k1,k2⟩:=hC.fn B S w s.h _ _ p.2 x h' hcall hH ((aAx.single r1).append has)
       rw [hrun,k1]
       refine ⟨fun h=>by simp at h,?_⟩
       refine CallsIn.mono k2 fun e w'' he => ?_
       obtain ⟨v,S',rfl,j1,j2,j3⟩:=he
       exact At.put e0 hf hm j1 j2 j3
      ·cases ha
     ·cases ha
    obtain ⟨c,fo,h1,h2,h3,h4⟩:=aQx hc
    have hfo:=aAC h4 hf
    have has:=aHK h3 hf
    simp only [aop] at ha
    have hexec:execOp a.eval o=(do let d ← resolve a.eval c o.type;invoke d.target d.args):=by
     unfold execOp;rw [h1]
    rw [hexec]
    split at ha
    ·rename_i g first caps e
     cases ha
     rw [e] at hfo
     obtain ⟨v1,v2,e2,r1,r2⟩:=hfo.fn_inv
     have hrun:(do let d ← resolve a.eval c o.type;invoke d.target d.args:Sem Next).run G.P w=(callFunc g (v1++c.args.map a.eval++v2)).run G.P w:=by
      simp only [Sem.run_bind,resolve,h2,e2,Deferred.ofValue,Sem.run_pure,Result.andThen_ok,invoke]
     obtain ⟨k1,k2⟩:=hC.fn B S w s.h _ _ g x h' hcall hH ((r1.append has).append r2)
     rw [hrun,k1]
     refine ⟨fun h=>by simp at h,?_⟩
     refine CallsIn.mono k2 fun e w'' he => ?_
     obtain ⟨v,S',rfl,j1,j2,j3⟩:=he
     exact At.put e0 hf hm j1 j2 j3
    ·rename_i l f1 f2 e
     cases ha
     rw [e] at hfo
     obtain ⟨t,ht,hz⟩:=hfo.yield_ent
     have e2:=hfo.yield_inv ht
     have hrun:(do let d ← resolve a.eval c o.type;invoke d.target d.args:Sem Next).run G.P w=(Instr.yield t.b (c.args.map a.eval)).run G.P w:=by
      simp only [Sem.run_bind,resolve,h2,e2,Deferred.ofValue,Sem.run_pure,Result.andThen_ok,invoke,Array.empty_append]
     obtain ⟨fn,tmps,asg,body,k1,k2⟩:=hC.yld B S w s.h _ _ l t x h' hcall ht hH has
     rw [hrun,k1]
     refine ⟨fun h=>by simp at h,?_⟩
     refine RoundIn.mono k2 fun e w'' he => ?_
     obtain ⟨v,S',rfl,j1,j2,j3⟩:=he
     exact At.put e0 hf hm j1 j2 j3
    ·cases ha
   ·cases hr
end
end Go.Proofs.Yteenffomgdfocaa.Ai
