/- Regions of operations: in the order of the text, and in whatever order is drawn. -/
import Derived.Test.YteenffomgdfocaamCDr1
namespace Go.Proofs.Yteenffomgdfocaa.Ai
open Go Go.RowKit
open List renaming getD_eq_getElem?_getD → Q0, mem_cons_self → Q1, eq_nil_iff_forall_not_mem → Q2, length_map → Q3, getElem?_eq_getElem → Q4, getElem?_map → Q5, pairwise_append → Q7, filter_eq_self → Q8
open Bool renaming and_eq_true → Q6
set_option linter.unusedVariables false
set_option linter.unusedSimpArgs false
theorem aHH:∀ {ws:List (List Nat)} {i0:Nat},aGK i0 ws=true→∀ (i:Nat) (w:List Nat),ws[i]?=some w→∀ k ∈ w,k < i0+i
 | [],i0,h,i,w,hi,k,hk=>by simp at hi
 | w0::r,i0,h,i,w,hi,k,hk=>by
  simp only [aGK,Q6,List.all_eq_true,decide_eq_true_eq] at h
  cases i with
  | zero=>simp at hi;subst hi;exact h.1 k hk
  | succ i=>have:=aHH h.2 i w (by simpa using hi) k hk;omega
theorem aM4 {acc:List Nat} {j:Nat}:∀ {w:List Nat},(w.foldr (fun k s=>2 ^ k ||| acc.getD k 0 ||| s) 0).testBit j=true→∃ k ∈ w,k=j∨(acc.getD k 0).testBit j=true
 | [],h=>by simp at h
 | k::w,h=>by
  simp only [List.foldr_cons,Nat.testBit_or,Bool.or_eq_true] at h
  rcases h with (h | h) | h
  ·rw [Nat.testBit_two_pow] at h
   exact ⟨k,Q1 ..,.inl (by simpa using h)⟩
  ·exact ⟨k,Q1 ..,.inr h⟩
  ·obtain ⟨k',h1,h2⟩:=aM4 h
   exact ⟨k',List.mem_cons_of_mem _ h1,h2⟩
theorem aIi:∀ (ws:List (List Nat)) (acc:List Nat),(aDh acc ws).length=acc.length+ws.length∧(∀ i,i < acc.length→(aDh acc ws).getD i 0=acc.getD i 0) ∧
  ∀ (i:Nat) (w:List Nat),ws[i]?=some w→∀ j,((aDh acc ws).getD (acc.length+i) 0).testBit j=true→∃ k ∈ w,k=j∨((aDh acc ws).getD k 0).testBit j=true
 | [],acc=>⟨by simp [aDh],fun i hi=>rfl,fun i w hi=>by simp at hi⟩
 | w::r,acc=>by
  obtain ⟨x,hx⟩:∃ x,x=w.foldr (fun k s=>2 ^ k ||| acc.getD k 0 ||| s) 0:=⟨_,rfl⟩
  have e:aDh acc (w::r)=aDh (acc++[x]) r:=by rw [hx];rfl
  rw [e]
  obtain ⟨h1,h2,h3⟩:=aIi r (acc++[x])
  have hk:∀ i,i < acc.length→(aDh (acc++[x]) r).getD i 0=acc.getD i 0:=fun i hi=>by
   rw [h2 i (by simp;omega)]
   simp [Q0,List.getElem?_append_left hi]
  refine ⟨by rw [h1];simp;omega,hk,fun i w' hi j hj => ?_⟩
  cases i with
  | zero =>
   simp at hi;subst hi
   have h5:(aDh (acc++[x]) r).getD acc.length 0=x:=by
    rw [h2 acc.length (by simp)]
    simp [Q0]
   rw [Nat.add_zero,h5,hx] at hj
   obtain ⟨k,k1,k2⟩:=aM4 hj
   refine ⟨k,k1,?_⟩
   rcases k2 with k2 | k2
   ·exact .inl k2
   ·right
    by_cases hl:k < acc.length
    ·rw [hk k hl];exact k2
    ·have:acc.getD k 0=0:=by simp [Q0,List.getElem?_eq_none (Nat.le_of_not_lt hl)]
     rw [this] at k2;simp at k2
  | succ i =>
   have:=h3 i w' (by simpa using hi) j (by
    have:(acc++[x]).length+i=acc.length+(i+1):=by simp;omega
    rw [this];exact hj)
   exact this
theorem aJa {pu:Nat→Bool} {bi:Nat} {oi:AOper}:∀ {l:List AOper} {j0:Nat},aLv pu bi oi j0 l=true→∀ (j:Nat) (oj:AOper),l[j]?=some oj→bi.testBit (j0+j)=true∨aFA pu oj oi=true
 | [],j0,h,j,oj,hj=>by simp at hj
 | o::r,j0,h,j,oj,hj=>by
  simp only [aLv,Q6,Bool.or_eq_true] at h
  cases j with
  | zero=>simp at hj;subst hj;exact h.1
  | succ j =>
   have:=aJa h.2 j oj (by simpa using hj)
   rwa [show j0+1+j=j0+(j+1) by omega] at this
theorem aHx {pu:Nat→Bool}:∀ {l:List AOper} {done:List AOper} {b:List Nat},aGD pu done b l=true→∀ (i j:Nat) (oi oj:AOper),l[i]?=some oi→(done++l)[j]?=some oj→j < done.length+i →
  (b.getD i 0).testBit j=true∨aFA pu oj oi=true
 | [],done,b,h,i,j,oi,oj,hi,hj,hlt=>by simp at hi
 | o::r,done,[],h,i,j,oi,oj,hi,hj,hlt=>by simp [aGD] at h
 | o::r,done,b0::b,h,i,j,oi,oj,hi,hj,hlt=>by
  simp only [aGD,Q6] at h
  cases i with
  | zero =>
   simp at hi;subst hi
   have hj':done[j]?=some oj:=by rw [← hj,List.getElem?_append_left (by omega)]
   simpa using aJa h.1 j oj hj'
  | succ i =>
   have:=aHx h.2 i j oi oj (by simpa using hi) (by simpa using hj) (by simp;omega)
   simpa using this
section
variable {G : Pg} {B : Nat → Prop} {S0 : List Ent} {w0 : World} {call : aAc} {hp : Bool} {ops : Array Oper} {al : List AOper} {ro : Option Nat} {Q : Exit → Act → World → Prop}
theorem aKf (hC:CallOk G call) (hc:aDj G.P hp ops ops.toList=some al) {i:Nat} (hi:i < ops.size) {s s':St} {a:Act} {w:World} (hA:At G B S0 w0 s a w) (hr:aAw call (al.getD i default) s=some s')
  {K:Act→World→Prop} (hK:∀ a' w',At G B S0 w0 s' a' w'→K a' w'):wpOpIn (Fw ro) 0 G.P ops Q i K a w:=by
 have hi':ops.toList[i]?=some ops[i]:=by simp [hi]
 obtain ⟨op,g,h1,h2,h3⟩:=(aEz hc).2 i ops[i] hi'
 rw [Q0,h3,Option.getD_some] at hr
 exact wpOpIn_mono hK (aSA hC h1 h2 (by simp [hi]) hA hr)
theorem aLR (hC:CallOk G call) (hc:aDj G.P hp ops ops.toList=some al) {s':St} (hQ:∀ a' w',At G B S0 w0 s' a' w'→Q .normal a' w') :
  ∀ (L:List Nat) (s:St) (a:Act) (w:World),(∀ i ∈ L,i < ops.size)→aAJ call (L.map fun i=>al.getD i default) s=some s'→At G B S0 w0 s a w→wpOpsIn (Fw ro) 0 G.P ops Q L a w
 | [],s,a,w,hL,hr,hA=>by
  simp [aAJ] at hr;subst hr
  exact hQ a w hA
 | i::L,s,a,w,hL,hr,hA=>by
  rw [wpOpsIn_cons]
  rw [List.map_cons,aDs] at hr
  cases e:aAw call (al.getD i default) s with
  | none=>simp only [e,Option.bind_none] at hr;cases hr
  | some u =>
   simp only [e,Option.bind_some] at hr
   exact aKf hC hc (hL i (Q1 ..)) hA e fun a' w' hA'=>aLR hC hc hQ L u a' w' (fun k hk=>hL k (List.mem_cons_of_mem _ hk)) hr hA'
theorem aKJ {al:List AOper} {n:Nat} (h:al.length=n):(List.range n).map (fun i=>al.getD i default)=al:=by
 apply List.ext_getElem?
 intro i
 by_cases hi:i < n
 ·simp [hi,Q0,h ▸ hi]
 ·simp [hi,List.getElem?_eq_none (show al.length≤i by omega)]
theorem aP9 (hC:CallOk G call) (hc:aDj G.P hp ops ops.toList=some al) {s s':St} (hQ:∀ a' w',At G B S0 w0 s' a' w'→Q .normal a' w') {a:Act} {w:World} (hr:aAJ call al s=some s') (hA:At G B S0 w0 s a w) (id:Nat) :
  (Code.region id ops false).wpIn (Fw ro) 0 G.P Q a w:=by
 refine wpIn_region (aLR hC hc hQ _ s a w (fun i hi=>by simpa using hi) ?_ hA)
 rw [aKJ (by simpa using (aEz hc).1)]
 exact hr
def aCY (n:Nat) (listed:Array Bool):List Nat:=(List.range n).filter fun i => !listed.getD i true
theorem aFP {n:Nat} {listed:Array Bool} {i:Nat}:i ∈ aCY n listed↔i < n∧listed.getD i true=false:=by simp [aCY]
theorem aGs (n:Nat) (listed:Array Bool):(aCY n listed).Pairwise (· < ·):=List.Pairwise.filter _ List.pairwise_lt_range
theorem aQ7 {n:Nat} {listed:Array Bool} {i:Nat} {pre post:List Nat} (hs:listed.size=n) (h:aCY n listed=pre++i::post):aCY n (listed.setIfInBounds i true)=pre++post:=by
 have hsrt:=aGs n listed
 rw [h] at hsrt
 have hi:i ∈ aCY n listed:=by rw [h];simp
 have e:aCY n (listed.setIfInBounds i true)=(aCY n listed).filter fun j=>j != i:=by
  unfold aCY
  rw [List.filter_filter]
  refine List.filter_congr fun j hj => ?_
  by_cases hji:j=i
  ·subst hji
   have:j < listed.size:=by rw [hs];simpa using hj
   simp [Array.getD,this]
  ·rw [getD_set_ne true (Ne.symm hji)]
   simp [hji]
 rw [e,h,List.filter_append,List.filter_cons]
 simp only [bne_self_eq_false,Bool.false_eq_true,if_false]
 have h1:pre.filter (fun j=>j != i)=pre:=Q8.2 fun j hj=>by
  have:=(Q7.1 hsrt).2.2 j hj i (Q1 ..)
  simp;omega
 have h2:post.filter (fun j=>j != i)=post:=Q8.2 fun j hj=>by
  have:=(List.pairwise_cons.1 (Q7.1 hsrt).2.1).1 j hj
  simp;omega
 rw [h1,h2]
theorem aGb {o:Oper} {k:Nat}:k ∈ aAY o↔∃ e ∈ o.after,Region.binds .any e=true∧e.on=k:=by
 simp only [aAY,List.mem_filterMap,Array.mem_toList_iff]
 constructor
 ·rintro ⟨e,h1,h2⟩
  split at h2
  ·rename_i hb;simp at h2;exact ⟨e,h1,hb,h2⟩
  ·cases h2
 ·rintro ⟨e,h1,h2,h3⟩
  exact ⟨e,h1,by simp [h2,h3]⟩
theorem aSm (hC:CallOk G call) (hc:aDj G.P hp ops ops.toList=some al) (ho:aI8 G.pu ops al=true) {s':St} (hQ:∀ a' w',At G B S0 w0 s' a' w'→Q .normal a' w') :
  ∀ (fuel:Nat) (listed:Array Bool) (s:St) (a:Act) (w:World),listed.size=ops.size→(aCY ops.size listed).length≤fuel →
   (∀ (i:Nat) (o:Oper),ops[i]?=some o→listed.getD i true=true→∀ k ∈ aAY o,listed.getD k true=true) →
   aAJ call ((aCY ops.size listed).map fun i=>al.getD i default) s=some s'→At G B S0 w0 s a w→wpAnyIn (Fw ro) 0 G.P .any ops Q fuel listed a w:=by
 simp only [aI8,Q6] at ho
 obtain ⟨hE,hP⟩:=ho
 have hearl:∀ (i:Nat) (o:Oper),ops[i]?=some o→∀ k ∈ aAY o,k < i:=fun i o hi k hk=>by
  have:=aHH hE i (aAY o) (by simp [hi]) k hk
  omega
 have hlen:=(aEz hc).1
 -- what is ready is left
 have hsub:∀ (listed:Array Bool) (i:Nat),i ∈ Region.ready .any ops listed→i ∈ aCY ops.size listed:=fun listed i hi=>by
  obtain ⟨h1,o,h2,_⟩:=mem_ready.1 hi
  exact aFP.2 ⟨(Array.getElem?_eq_some_iff.1 h2).1,h1⟩
 have hdone:∀ (listed:Array Bool) (s:St) (a:Act) (w:World),aCY ops.size listed=[]→aAJ call ((aCY ops.size listed).map fun i=>al.getD i default) s=some s'→At G B S0 w0 s a w→Q .normal a w:=fun listed s a w h hr hA=>by
  rw [h] at hr
  simp [aAJ] at hr;subst hr
  exact hQ a w hA
 intro fuel
 induction fuel with
 | zero =>
  intro listed s a w hs hf hd hr hA
  have h0:aCY ops.size listed=[]:=List.length_eq_zero_iff.1 (Nat.le_zero.1 hf)
  refine ⟨Q2.2 fun i hi => ?_,hdone listed s a w h0 hr hA⟩
  have:=hsub listed i hi
  rw [h0] at this;cases this
 | succ fuel ih =>
  intro listed s a w hs hf hd hr hA
  refine ⟨fun h => ?_,fun i hi => ?_⟩
  ·refine hdone listed s a w ?_ hr hA
   cases hrem:aCY ops.size listed with
   | nil=>rfl
   | cons i r =>
    exfalso
    have hi:i ∈ aCY ops.size listed:=by rw [hrem];simp
    obtain ⟨hin,hil⟩:=aFP.1 hi
    have hsrt:=aGs ops.size listed
    rw [hrem] at hsrt
    have hle:∀ k,k < i→listed.getD k true=true:=fun k hk=>by
     cases hb:listed.getD k true with
     | true=>rfl
     | false =>
      have hm:k ∈ aCY ops.size listed:=aFP.2 ⟨by omega,hb⟩
      rw [hrem] at hm
      rcases List.mem_cons.1 hm with rfl | hm
      ·omega
      ·have:=(List.pairwise_cons.1 hsrt).1 k hm;omega
    have:i ∈ Region.ready .any ops listed:=mem_ready.2 ⟨hil,ops[i],by simp [hin],fun e he hb=>by
     have hk:e.on < i:=hearl i ops[i] (by simp [hin]) e.on (aGb.2 ⟨e,he,hb,rfl⟩)
     have h1:=hle e.on hk
     have h2:e.on < listed.size:=by omega
     simpa [Array.getD,h2] using h1⟩
    rw [h] at this;cases this
  ·have him:=hsub listed i hi
   obtain ⟨hin,hil⟩:=aFP.1 him
   obtain ⟨pre,post,hrem⟩:=List.append_of_mem him
   have hsrt:=aGs ops.size listed
   rw [hrem] at hsrt
   obtain ⟨_,o,hoi,hall⟩:=mem_ready.1 hi
   have hw:∀ k ∈ aAY o,listed.getD k true=true:=fun k hk=>by
    obtain ⟨e,h1,h2,rfl⟩:=aGb.1 hk
    have h3:=hall e h1 h2
    have hlt:e.on < listed.size:=by
     have:=hearl i o hoi e.on hk
     omega
    simpa [Array.getD,hlt] using h3
   -- all that it aAY for is listed
   have hbits:∀ (i:Nat) (o:Oper),ops[i]?=some o→(∀ k ∈ aAY o,listed.getD k true=true)→∀ j,((aDh [] (ops.toList.map aAY)).getD i 0).testBit j=true→listed.getD j true=true:=by
    intro i
    induction i using Nat.strongRecOn with
    | _ i ihi =>
     intro o hoi hw j hj
     obtain ⟨k,k1,k2⟩:=(aIi (ops.toList.map aAY) []).2.2 i (aAY o) (by simp [hoi]) j (by simpa using hj)
     rcases k2 with rfl | k2
     ·exact hw k k1
     ·have hki:=hearl i o hoi k k1
      have hkn:k < ops.size:=Nat.lt_trans hki (Array.getElem?_eq_some_iff.1 hoi).1
      exact ihi k hki ops[k] (by simp [hkn]) (hd k ops[k] (by simp [hkn]) (hw k k1)) j k2
   have hswap:∀ oj ∈ pre.map (fun i=>al.getD i default),aFA G.pu oj (al.getD i default)=true:=fun oj hoj=>by
    obtain ⟨j,hj,rfl⟩:=List.mem_map.1 hoj
    have hjm:j ∈ aCY ops.size listed:=by rw [hrem];simp [hj]
    obtain ⟨hjn,hjl⟩:=aFP.1 hjm
    have hji:j < i:=(Q7.1 hsrt).2.2 j hj i (Q1 ..)
    have hlen':al.length=ops.size:=by simpa using hlen
    have g1:al[i]?=some (al.getD i default):=by simp [Q0,hlen' ▸ hin]
    have g2:al[j]?=some (al.getD j default):=by simp [Q0,hlen' ▸ hjn]
    rcases aHx hP i j _ _ g1 (by simpa using g2) (by simpa using hji) with hb | hb
    ·have:=hbits i o hoi hw j hb
     rw [hjl] at this;cases this
    ·exact hb
   rw [hrem,List.map_append,List.map_cons] at hr
   obtain ⟨u,h1,h2⟩:=aM2 hC.pure _ s hswap hr
   refine aKf hC hc hin hA h1 fun a' w' hA' => ?_
   have hset:=aQ7 hs hrem
   refine ih _ u a' w' (by simp [hs]) (by rw [hset];rw [hrem] at hf;simp at hf ⊢;omega) ?_ (by rw [hset,List.map_append];exact h2) hA'
   intro k ok hok hlk m hm
   have step:∀ m,listed.getD m true=true→(listed.setIfInBounds i true).getD m true=true:=fun m hm=>by
    by_cases e:i=m
    ·subst e;rw [hil] at hm;cases hm
    ·rw [getD_set_ne true e];exact hm
   by_cases e:i=k
   ·subst e
    rw [hoi] at hok;cases hok
    exact step m (hw m hm)
   ·rw [getD_set_ne true e] at hlk
    exact step m (hd k ok hok hlk m hm)
theorem At.drew {s:St} {a:Act} {w:World} (hA:At G B S0 w0 s a w):At G B S0 w0 s a w.drew:=by
 obtain ⟨S,e0,hH,hf,hm⟩:=hA
 exact ⟨S,e0.trans (Evo.drew S w),hH.drew,hf.evo (Evo.drew S w),hm.evo (Evo.drew S w)⟩
theorem aRw (hC:CallOk G call) (hmx:G.P.follows .mixedOrders=true) (hc:aDj G.P hp ops ops.toList=some al) (ho:aI8 G.pu ops al=true) {s s':St} (hQ:∀ a' w',At G B S0 w0 s' a' w'→Q .normal a' w') {a:Act} {w:World}
  (hr:aAJ call al s=some s') (hA:At G B S0 w0 s a w) (id:Nat):(Code.region id ops true).wpIn (Fw ro) 0 G.P Q a w:=by
 refine wpIn_region_any hmx ?_
 have hrem:aCY ops.size (Array.replicate ops.size false)=List.range ops.size:=Q8.2 fun i hi=>by
  have:i < ops.size:=by simpa using hi
  simp [Array.getD,this]
 refine aSm hC hc ho hQ ops.size _ s a _ (by simp) (by rw [hrem];simp) ?_ (by rw [hrem,aKJ (by simpa using (aEz hc).1)];exact hr) hA.drew
 intro i o hi hl
 have:i < ops.size:=(Array.getElem?_eq_some_iff.1 hi).1
 simp [Array.getD,this] at hl
theorem aPW {pu:Nat→Bool} {al:List AOper} {i j:Nat} (h:aEK (aI6 pu al) i j=true):aFA pu (al.getD i default) (al.getD j default)=true:=by
 unfold aEK aI6 at h
 simp only [Q0,Q5] at h ⊢
 cases hi:al[i]? with
 | none=>simp [hi] at h
 | some x =>
  cases hj:al[j]? with
  | none=>simp [hi,hj] at h
  | some y=>simpa [hi,hj] using h
theorem aI3 (i j k:Nat):tr2 i j (tr2 i j k)=k:=by
 unfold tr2
 by_cases h1:k=i
 ·subst h1
  by_cases h2:j=k
  ·simp [h2]
  ·simp [h2]
 ·by_cases h2:k=j
  ·subst h2;simp [h1]
  ·simp [h1,h2]
theorem aD6 {α:Type} {i j:Nat} {l:List α} (hi:i < l.length) (hj:j < l.length) (k:Nat):(aDx i j l)[k]?=l[tr2 i j k]?:=by
 unfold aDx
 rw [Q4 hi,Q4 hj]
 simp only [List.getElem?_set,tr2]
 by_cases h1:k=i
 ·subst h1
  by_cases h2:j=k
  ·subst h2;simp [hi]
  ·simp [h2,hi,hj]
 ·by_cases h2:k=j
  ·subst h2;simp [h1,hi,hj]
  ·simp [h1,h2,Ne.symm h1,Ne.symm h2,fun e:j=k=>h2 e.symm,fun e:i=k=>h1 e.symm]
theorem aKB {α:Type} (i j:Nat) (l:List α):(aDx i j l).length=l.length:=by
 unfold aDx
 split <;> simp
theorem aP4 {α:Type} {i j:Nat} {l:List α} (hi:i < l.length) (hj:j < l.length) (x:α):x ∈ aDx i j l↔x ∈ l:=by
 constructor
 ·intro h
  obtain ⟨k,hk⟩:=List.getElem?_of_mem h
  rw [aD6 hi hj] at hk
  exact List.mem_of_getElem? hk
 ·intro h
  obtain ⟨k,hk⟩:=List.getElem?_of_mem h
  refine List.mem_of_getElem? (i:=tr2 i j k) ?_
  rw [aD6 hi hj,aI3];exact hk
theorem aD7 (i j:Nat):∀ (l:List AV) (k:Nat),(aCT i j l)[k]?=(l[k]?).map (aFn i j)
 | [],k=>by simp [aCT]
 | x::l,0=>by simp [aCT]
 | x::l,k+1=>by simpa [aCT] using aD7 i j l k
theorem aEq (i j:Nat) (l:List AV):(aCT i j l).length=l.length:=by
 induction l with
 | nil=>rfl
 | cons x l ih=>simp [aCT,ih]
theorem aGT {i j:Nat} {l:List AV} (h:∀ (k:Nat) (x:AV),l[k]?=some x→aFn i j x=x):aCT i j l=l:=by
 refine List.ext_getElem? fun k => ?_
 rw [aD7]
 cases e:l[k]? with
 | none=>rfl
 | some x=>simp [h k x e]
theorem PRep.ren {I:Nat→Prop} {w:World} {v:Value} {x:AV} (h:PRep I w v x) (i j:Nat):aFn i j x=x:=by
 induction h with
 | fn g v1 v2 l1 l2 h1 h2 r1 r2 i1 i2=>simp only [aFn,aRQ,aGT i1,aGT i2]
 | iface t v x h ih=>simp only [aFn,ih]
 | agg vs l hs hr ih=>simp only [aFn,aGT ih]
 | tup vs l hs hr ih=>simp only [aFn,aGT ih]
 | _=>rfl
section
variable {B : Nat → Prop} {S : List Ent} {w : World} {i j : Nat}
theorem aHL (hi:i < S.length) (hj:j < S.length) (b:Nat):b ∈ aBx (aDx i j S)↔b ∈ aBx S:=by
 unfold aBx
 simp only [List.mem_map,aP4 hi hj]
theorem Rep.ren (hi:i < S.length) (hj:j < S.length) {v:Value} {x:AV} (h:Rep B S w v x):Rep B (aDx i j S) w v (aFn i j x):=by
 have g:∀ {k:Nat} {t:Ent},S[k]?=some t→(aDx i j S)[tr2 i j k]?=some t:=fun {k t} ht=>by rw [aD6 hi hj,aI3];exact ht
 induction h with
 | pure v a h =>
  rw [h.ren]
  exact .pure v a (h.mono fun ad y hI hy=>⟨⟨fun hb=>hI.1 ((aHL hi hj _).1 hb),hI.2⟩,hy⟩)
 | ptr k e o t ht=>exact .ptr _ e o t (g ht)
 | ptrOld b p k v e o t ht hv=>exact .ptrOld b p _ v e o t (g ht) hv
 | hsl k o len cap c a t ht hl hK hc hn ha hsp=>exact .hsl _ o len cap c a t (g ht) hl hK hc hn ha hsp
 | hslOld a k v o n cap c t ht hv=>exact .hslOld a _ v o n cap c t (g ht) hv
 | map k t ht hz=>exact .map _ t (g ht) hz
 | yield k t ht hz=>exact .yield _ t (g ht) hz
 | fn f v1 v2 l1 l2 h1 h2 r1 r2 i1 i2 =>
  refine .fn f v1 v2 _ _ (by rw [aEq];exact h1) (by rw [aEq];exact h2) (fun q y hq => ?_) (fun q y hq => ?_)
  ·rw [aD7] at hq
   cases e:l1[q]? with
   | none=>simp [e] at hq
   | some z=>simp [e] at hq;subst hq;exact i1 q z e
  ·rw [aD7] at hq
   cases e:l2[q]? with
   | none=>simp [e] at hq
   | some z=>simp [e] at hq;subst hq;exact i2 q z e
 | iface t v x h ih=>exact .iface t v _ ih
 | agg vs l hs hr ih =>
  refine .agg vs _ (by rw [aEq];exact hs) (fun q y hq => ?_)
  rw [aD7] at hq
  cases e:l[q]? with
  | none=>simp [e] at hq
  | some z=>simp [e] at hq;subst hq;exact ih q z e
 | tup vs l hs hr ih =>
  refine .tup vs _ (by rw [aEq];exact hs) (fun q y hq => ?_)
  rw [aD7] at hq
  cases e:l[q]? with
  | none=>simp [e] at hq
  | some z=>simp [e] at hq;subst hq;exact ih q z e
theorem aAx.ren (hi:i < S.length) (hj:j < S.length) {vs:Array Value} {l:List AV} (h:aAx B S w vs l):aAx B (aDx i j S) w vs (aCT i j l) :=
 ⟨by rw [aEq];exact h.1,fun q y hq=>by
  rw [aD7] at hq
  cases e:l[q]? with
  | none=>simp [e] at hq
  | some z=>simp [e] at hq;subst hq;exact (h.2 q z e).ren hi hj⟩
theorem aDG.ren {G:Pg} (hi:i < S.length) (hj:j < S.length) {t:Ent} {o:AObj} (h:aDG G B S w t o):aDG G B (aDx i j S) w t (aO7 i j o):=by
 cases o with
 | arr v sz x l =>
  obtain ⟨h1,h2,h3,h4,h5,cs,ty,h6,h7,h8⟩:=h
  refine ⟨h1,h2,h3,by rw [Q3];exact h4,fun e=>by rw [Q3];exact h5 e,cs,ty,h6,h7,fun e c hc => ?_⟩
  rw [Q5] at hc
  cases hl:l[e]? with
  | none=>simp [hl] at hc
  | some c0 =>
   simp [hl] at hc;subst hc
   obtain ⟨k1,k2⟩:=h8 e c0 hl
   refine ⟨by rw [aEq];exact k1,fun q y hq => ?_⟩
   rw [aD7] at hq
   cases hz:c0[q]? with
   | none=>simp [hz] at hq
   | some z=>simp [hz] at hq;subst hq;exact (k2 q z hz).ren hi hj
 | map l =>
  obtain ⟨h1,h2,es,clock,h3,h4,h5⟩:=h
  refine ⟨h1,h2,es,clock,h3,by rw [Q3];exact h4,fun q k x hq => ?_⟩
  rw [Q5] at hq
  cases hl:l[q]? with
  | none=>simp [hl] at hq
  | some p =>
   obtain ⟨p1,p2⟩:=p
   simp [hl] at hq
   obtain ⟨rfl,rfl⟩:=hq
   obtain ⟨en,k1,k2,k3⟩:=h5 q p1 p2 hl
   exact ⟨en,k1,k2.ren hi hj,k3.ren hi hj⟩
 | loop st pend tl ps asg body =>
  obtain ⟨h1,h2,L,hp,h3,h4,h5,h6,h7,h8⟩:=h
  exact ⟨h1,h2,L,hp,h3,h4,h5,h6,h7.ren hi hj,h8⟩
end
theorem At.swap {s:St} {a:Act} {w:World} (hA:At G B S0 w0 s a w) {i j:Nat} (li:i < s.h.length) (lj:j < s.h.length) (hi:S0.length≤i) (hj:S0.length≤j):At G B S0 w0 (aNZ i j s) a w:=by
 obtain ⟨S,e0,hH,hf,hm⟩:=hA
 have li':i < S.length:=by rw [hH.len];exact li
 have lj':j < S.length:=by rw [hH.len];exact lj
 have tr:∀ k,k < S0.length→tr2 i j k=k:=fun k hk=>by
  unfold tr2
  rw [if_neg (by omega),if_neg (by omega)]
 refine ⟨aDx i j S,⟨e0.os,e0.tape,e0.output,e0.size,fun b hb hn => ?_,fun k t hk => ?_⟩,⟨?_,?_,?_,?_,hH.bl⟩,hf.ren li' lj',hm.1,fun d hd => ?_⟩
 ·obtain ⟨k1,k2⟩:=e0.keep b hb hn
  exact ⟨k1,fun h=>k2 ((aHL li' lj' b).1 h)⟩
 ·obtain ⟨t',k1,k2⟩:=e0.ids k t hk
  refine ⟨t',?_,k2⟩
  rw [aD6 li' lj',tr k (List.getElem?_eq_some_iff.1 hk).1]
  exact k1
 ·rw [aKB]
  show S.length=(aDx i j (s.h.map (aO7 i j))).length
  rw [aKB,Q3];exact hH.len
 ·intro p q tp tq hp hq e
  rw [aD6 li' lj'] at hp hq
  have:=hH.inj _ _ tp tq hp hq e
  have h2:=congrArg (tr2 i j) this
  rwa [aI3,aI3] at h2
 ·intro p t hp
  rw [aD6 li' lj'] at hp
  exact hH.lt _ t hp
 ·intro p t o hp ho
  rw [aD6 li' lj'] at hp
  have ho':(aDx i j (s.h.map (aO7 i j)))[p]?=some o:=ho
  rw [aD6 (by rw [Q3];exact li) (by rw [Q3];exact lj),Q5] at ho'
  cases e:s.h[tr2 i j p]? with
  | none=>simp [e] at ho'
  | some o0=>simp [e] at ho';subst ho';exact (hH.obj _ t o0 hp e).ren li' lj'
 ·obtain ⟨r,h1,h2,h3,h4⟩:=hm.2 d hd
  exact ⟨r,h1,h2,fun h=>h3 ((aHL li' lj' r).1 h),h4⟩
theorem At.iso {m:Nat} (hm:S0.length≤m) {s s':St} (h:IsoS m s s') {a:Act} {w:World} (hA:At G B S0 w0 s a w):At G B S0 w0 s' a w:=by
 induction h with
 | refl s=>exact hA
 | swap i j s u hi hj hij li lj h ih=>exact ih (hA.swap li lj (by omega) (by omega))
theorem aQA (hC:CallOk G call) (hc:aDj G.P hp ops ops.toList=some al) {s':St} {m:Nat} (hm:S0.length≤m) (hQ:∀ a' w',At G B S0 w0 s' a' w'→Q .normal a' w') :
  ∀ (fuel:Nat) (listed:Array Bool) (s:St) (a:Act) (w:World),listed.size=ops.size→aEB (fun i=>aAw call (al.getD i default)) (ops.toList.map aAY) fuel listed.toList s (fun u=>IsoS m u s')→At G B S0 w0 s a w →
   wpAnyIn (Fw ro) 0 G.P .any ops Q fuel listed a w:=by
 have hrd:∀ (listed:Array Bool) (i:Nat),listed.size=ops.size→i ∈ Region.ready .any ops listed→i ∈ rdy (ops.toList.map aAY) listed.toList:=fun listed i hsz hi=>by
  obtain ⟨h1,o,h2,h3⟩:=mem_ready.1 hi
  have hi':i < ops.size:=(Array.getElem?_eq_some_iff.1 h2).1
  refine aFK.2 ⟨by simpa using hi',?_,?_⟩
  ·simpa [Array.getD_eq_getD_getElem?,Q0] using h1
  ·intro k hk
   have hw:((ops.toList.map aAY).getD i [])=aAY o:=by simp [Q0,h2]
   rw [hw] at hk
   obtain ⟨e,e1,e2,rfl⟩:=aGb.1 hk
   simpa [Array.getD_eq_getD_getElem?,Q0] using h3 e e1 e2
 have hrd':∀ (listed:Array Bool),listed.size=ops.size→Region.ready .any ops listed=[]→rdy (ops.toList.map aAY) listed.toList=[]:=fun listed hsz h=>by
  refine Q2.2 fun i hi => ?_
  obtain ⟨h1,h2,h3⟩:=aFK.1 hi
  have hi':i < ops.size:=by simpa using h1
  have:i ∈ Region.ready .any ops listed:=mem_ready.2 ⟨by simpa [Array.getD_eq_getD_getElem?,Q0] using h2,ops[i],by simp [hi'],fun e he hb=>by
   have hw:((ops.toList.map aAY).getD i [])=aAY ops[i]:=by simp [Q0,hi']
   have:=h3 e.on (by rw [hw];exact aGb.2 ⟨e,he,hb,rfl⟩)
   simpa [Array.getD_eq_getD_getElem?,Q0] using this⟩
  rw [h] at this;cases this
 intro fuel
 induction fuel with
 | zero =>
  intro listed s a w hs hT hA
  obtain ⟨h1,h2⟩:=hT
  refine ⟨Q2.2 fun i hi => ?_,hQ a w (At.iso hm h2 hA)⟩
  have:=hrd listed i hs hi
  rw [h1] at this;cases this
 | succ fuel ih =>
  intro listed s a w hs hT hA
  obtain ⟨h1,h2⟩:=hT
  refine ⟨fun h => ?_,fun i hi => ?_⟩
  ·exact hQ a w (At.iso hm (h1 (hrd' listed hs h)) hA)
  ·obtain ⟨u,k1,k2⟩:=h2 i (hrd listed i hs hi)
   obtain ⟨_,o,hoi,_⟩:=mem_ready.1 hi
   refine aKf hC hc (Array.getElem?_eq_some_iff.1 hoi).1 hA k1 fun a' w' hA'=>ih _ u a' w' (by simp [hs]) ?_ hA'
   simpa using k2
theorem aQt (hC:CallOk G call) (hmx:G.P.follows .mixedOrders=true) (hc:aDj G.P hp ops ops.toList=some al) {s s':St} (hQ:∀ a' w',At G B S0 w0 s' a' w'→Q .normal a' w') {a:Act} {w:World}
  (hr:aAK (fun i=>aAw call (al.getD i default)) (ops.toList.map aAY) (aEK (aI6 G.pu al)) s.h.length (ops.toList.map aAY).length (List.replicate (ops.toList.map aAY).length false) s=some s') (hA:At G B S0 w0 s a w) (id:Nat) :
  (Code.region id ops true).wpIn (Fw ro) 0 G.P Q a w:=by
 refine wpIn_region_any hmx ?_
 have hT:=aGv (run:=fun i=>aAw call (al.getD i default)) (sw:=aEK (aI6 G.pu al)) (fun i j s u v hsw h1 h2=>aNE hC.pure (aPW hsw) h1 h2) _ _ _ _ hr
 have hm:S0.length≤s.h.length:=by
  obtain ⟨S,e0,hH,_⟩:=hA
  rw [← hH.len]
  rcases Nat.lt_or_ge S.length S0.length with h | h
  ·obtain ⟨t',k1,_⟩:=e0.ids S.length S0[S.length] (Q4 h)
   exact absurd (List.getElem?_eq_some_iff.1 k1).1 (Nat.lt_irrefl _)
  ·exact h
 refine aQA hC hc hm hQ ops.size _ s a _ (by simp) ?_ hA.drew
 simpa using hT
theorem aGc:∀ (l:List Bool) (t:List AV),(aAz l t).length=t.length
 | true::l,v::t=>by simp [aAz,aGc l t]
 | false::l,v::t=>by simp [aAz,aGc l t]
 | [],[] | [],_::_ | true::_,[] | false::_,[]=>by simp [aAz]
theorem aHA:∀ (l:List Bool) (t:List AV) (j:Nat) (x:AV),(aAz l t)[j]?=some x→x=.junk∨t[j]?=some x
 | true::l,v::t,0,x,h=>.inr (by simpa [aAz] using h)
 | true::l,v::t,j+1,x,h=>by simpa using aHA l t j x (by simpa [aAz] using h)
 | false::l,v::t,0,x,h=>.inl (by simpa [aAz] using h.symm)
 | false::l,v::t,j+1,x,h=>by simpa using aHA l t j x (by simpa [aAz] using h)
 | [],t,j,x,h=>.inr (by simpa [aAz] using h)
 | true::_,[],j,x,h=>by simp [aAz] at h
 | false::_,[],j,x,h=>by simp [aAz] at h
theorem At.kill {s:St} {a:Act} {w:World} (hA:At G B S0 w0 s a w) (m:List Bool):At G B S0 w0 ⟨aAz m s.t,s.h⟩ a w:=by
 obtain ⟨S,e0,hH,hf,hm⟩:=hA
 refine ⟨S,e0,hH,⟨by rw [aGc];exact hf.1,fun j x hj => ?_⟩,hm⟩
 rcases aHA m s.t j x hj with rfl | h
 ·exact .pure _ _ (.junk _)
 ·exact hf.2 j x h
end
end Go.Proofs.Yteenffomgdfocaa.Ai
