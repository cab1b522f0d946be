/- What an operation of the abstract interpreter looks at; two operations that may change places. -/
import Derived.Test.YteenffomgdfocaamCAi15
namespace Go.Proofs.Yteenffomgdfocaa.Ai
open Go
open List renaming map_congr_left → Q0
set_option linter.unusedVariables false
set_option linter.unusedSimpArgs false
theorem aM8 {d:Option Nat} {x:AX} (hd:∀ i,d=some i→i ∉ x.rd) (t:List AV) (v:AV):x.ev (put t d v)=x.ev t:=by
 cases d with
 | none=>rfl
 | some i =>
  cases x with
  | c v=>rfl
  | t j =>
   have hne:i≠j:=fun e=>hd i rfl (by simp [AX.rd,e])
   simp [AX.ev,put,List.getD_eq_getElem?_getD,List.getElem?_set_ne hne]
theorem aRA {d:Option Nat} {l:List AX} (hd:∀ i,d=some i→i ∉ rds l) (t:List AV) (v:AV):avs (put t d v) l=avs t l:=by
 unfold avs
 refine Q0 fun x hx=>aM8 (fun i hi hm=>hd i hi ?_) t v
 unfold rds
 exact List.mem_flatten.2 ⟨x.rd,List.mem_map.2 ⟨x,hx,rfl⟩,hm⟩
theorem aRs {d:Option Nat} {x:Option AX} (hd:∀ i,d=some i→i ∉ rdo x) (t:List AV) (v:AV):x.map (AX.ev (put t d v))=x.map (AX.ev t):=by
 cases x with
 | none=>rfl
 | some x=>exact congrArg some (aM8 hd t v)
theorem aRC {d:Option Nat} {o:AOp} (hd:∀ i,d=some i→i ∉ o.rd) (h:aA0) (t:List AV) (v:AV):aop h (put t d v) o=aop h t o:=by
 have sub:∀ {x:AX},(∀ i,i ∈ x.rd→i ∈ o.rd)→x.ev (put t d v)=x.ev t:=fun hx=>aM8 (fun i hi hm=>hd i hi (hx i hm)) t v
 have subs:∀ {l:List AX},(∀ i,i ∈ rds l→i ∈ o.rd)→avs (put t d v) l=avs t l:=fun hx=>aRA (fun i hi hm=>hd i hi (hx i hm)) t v
 have subo:∀ {x:Option AX},(∀ i,i ∈ rdo x→i ∈ o.rd)→x.map (AX.ev (put t d v))=x.map (AX.ev t):=fun hx=>aRs (fun i hi hm=>hd i hi (hx i hm)) t v
 cases o with
 | build zero parts =>
  simp only [aop]
  have:(parts.map fun (o,n,x)=>(o,n,x.ev (put t d v)))=(parts.map fun (o,n,x)=>(o,n,x.ev t)):=by
   refine Q0 fun p hp => ?_
   obtain ⟨o,n,x⟩:=p
   simp only
   rw [sub fun i hi=>by simp only [AOp.rd];exact List.mem_flatten.2 ⟨x.rd,List.mem_map.2 ⟨_,hp,rfl⟩,hi⟩]
  rw [this]
 | buildSlice heap sz len zero parts =>
  simp only [aop]
  have:(parts.map fun (i,x)=>(i,x.ev (put t d v)))=(parts.map fun (i,x)=>(i,x.ev t)):=by
   refine Q0 fun p hp => ?_
   obtain ⟨n,x⟩:=p
   simp only
   rw [sub fun i hi=>by simp only [AOp.rd];exact List.mem_flatten.2 ⟨x.rd,List.mem_map.2 ⟨_,hp,rfl⟩,hi⟩]
  rw [this]
 | mkFunc f a b =>
  simp only [aop]
  rw [subs (l:=a) (fun i hi=>by simp [AOp.rd,hi]),subs (l:=b) (fun i hi=>by simp [AOp.rd,hi])]
 | minmax mx xs=>simp only [aop];rw [subs (l:=xs) (fun i hi=>by simp [AOp.rd,hi])]
 | call f args=>simp only [aop];rw [sub (x:=f) (fun i hi=>by simp [AOp.rd,hi]),subs (l:=args) (fun i hi=>by simp [AOp.rd,hi])]
 | invoke tb f args=>simp only [aop];rw [sub (x:=f) (fun i hi=>by simp [AOp.rd,hi]),subs (l:=args) (fun i hi=>by simp [AOp.rd,hi])]
 | slice sz x lo hi mx=>simp only [aop];rw [sub (x:=x) (fun i hi=>by simp [AOp.rd,hi]),subo (x:=lo) (fun i hi=>by simp [AOp.rd,hi]),subo (x:=hi) (fun i hi=>by simp [AOp.rd,hi]),subo (x:=mx) (fun i hi=>by simp [AOp.rd,hi])]
 | sliceStr x lo hi=>simp only [aop];rw [sub (x:=x) (fun i hi=>by simp [AOp.rd,hi]),subo (x:=lo) (fun i hi=>by simp [AOp.rd,hi]),subo (x:=hi) (fun i hi=>by simp [AOp.rd,hi])]
 | alloc _ | mkMap | fail=>rfl
 | strBytes x | bytesStr x | markB x | mv x | box _ x | load _ _ x | nilCheck x | un _ x | convInt _ x | convStr x | fieldAddr _ x | field _ _ _ x | extract x _ | len _ x | cap x | mkIface _ x =>
  simp only [aop];rw [sub (x:=x) (fun i hi=>by simp [AOp.rd,hi])]
 | pick c a b=>simp only [aop];rw [sub (x:=c) (fun i hi=>by simp [AOp.rd,hi]),sub (x:=a) (fun i hi=>by simp [AOp.rd,hi]),sub (x:=b) (fun i hi=>by simp [AOp.rd,hi])]
 | store _ x y | bin _ _ x y | mkSlice _ _ _ x y | indexAddr _ x y | indexArr _ _ x y | indexStr x y | indexAgg _ _ _ x y | lookup _ _ _ x y | append _ _ x y | appendZ _ _ _ x y | copy _ x y | delete _ x y =>
  simp only [aop];rw [sub (x:=x) (fun i hi=>by simp [AOp.rd,hi]),sub (x:=y) (fun i hi=>by simp [AOp.rd,hi])]
 | mapUpdate _ x y z=>simp only [aop];rw [sub (x:=x) (fun i hi=>by simp [AOp.rd,hi]),sub (x:=y) (fun i hi=>by simp [AOp.rd,hi]),sub (x:=z) (fun i hi=>by simp [AOp.rd,hi])]
def aBB (call:aAc) (o:AOper) (t:List AV) (h:aA0):Option (AV × aA0) :=
 match wanted t o.guard with
 | none=>none
 | some false=>some (AV.un,h)
 | some true =>
  match aop h t o.op with
  | none=>none
  | some (.v x h)=>some (x,h)
  | some (.call f args)=>call f args h
theorem aIJ (call:aAc) (o:AOper) (s:St):aAw call o s=(aBB call o s.t s.h).map fun p=>⟨put s.t o.dst p.1,p.2⟩:=by
 unfold aAw aBB
 split
 ·rename_i h;simp [h]
 ·rename_i h;simp [h]
 ·rename_i h
  simp only [h]
  cases aop s.h s.t o.op with
  | none=>rfl
  | some r =>
   cases r with
   | v x h=>rfl
   | call f args =>
    simp only
    cases call f args s.h with
    | none=>rfl
    | some p=>obtain ⟨x,h⟩:=p;rfl
theorem aMV {d:Option Nat} {g:Option (Nat × Bool)} (hd:∀ i,d=some i→∀ b,g≠some (i,b)) (t:List AV) (v:AV):wanted (put t d v) g=wanted t g:=by
 cases g with
 | none=>rfl
 | some p =>
  obtain ⟨j,b⟩:=p
  cases d with
  | none=>rfl
  | some i =>
   have hne:i≠j:=fun e=>hd i rfl b (by rw [e])
   simp [wanted,put,List.getElem?_set_ne hne]
theorem aKH {call:aAc} {d:Option Nat} {o:AOper} (hd:∀ i,d=some i→i ∉ o.rd) (h:aA0) (t:List AV) (v:AV):aBB call o (put t d v) h=aBB call o t h:=by
 unfold aBB
 rw [aMV (fun i hi b hg=>hd i hi (by simp [AOper.rd,hg])),aRC (fun i hi hm=>hd i hi (by simp [AOper.rd,hm]))]
theorem aDe {h:aA0} {i v:Nat} {r} (hg:aA3 h i v=some r) (o:AObj):aA3 (h++[o]) i v=some r:=by
 unfold aA3 at *
 cases hi:h[i]? with
 | none=>simp [hi] at hg
 | some x =>
  rw [List.getElem?_append_left (List.getElem?_eq_some_iff.1 hi).1,hi]
  simpa [hi] using hg
theorem aJi {h:aA0} {m:AV} {r} (hg:aBb h m=some r) (o:AObj):aBb (h++[o]) m=some r:=by
 cases m with
 | nilM=>simpa [aBb] using hg
 | map i =>
  simp only [aBb] at *
  cases hi:h[i]? with
  | none=>simp [hi] at hg
  | some x =>
   rw [List.getElem?_append_left (List.getElem?_eq_some_iff.1 hi).1,hi]
   simpa [hi] using hg
 | _=>simp [aBb] at hg
theorem aOD {h:aA0} {n:Nat} {p:AV} {r} (hg:aA4 h n p=some r) (o:AObj):aA4 (h++[o]) n p=some r:=by
 cases p with
 | ptr i v e ofs =>
  simp only [aA4] at *
  cases hi:aA3 h i v with
  | none=>simp [hi] at hg
  | some x=>rw [aDe hi];simpa [hi] using hg
 | vptr c ofs=>simpa [aA4] using hg
 | _=>simp [aA4] at hg
theorem aPI {h:aA0} {n:Nat} {g:Bool} {p:AV} {r} (hg:aA2 h n g p=some r) (o:AObj):aA2 (h++[o]) n g p=some r:=by
 unfold aA2 at *
 cases hc:aA4 h n p with
 | none=>simp [hc] at hg
 | some c=>rw [aOD hc];simpa [hc] using hg
theorem aOx {h:aA0} {sz:Nat} {x:AV} {a b c:Option AV} {r} (hg:aBs h sz x a b c=some r) (o:AObj):aBs (h++[o]) sz x a b c=some r:=by
 cases x with
 | hsl i v ofs n cc =>
  simp only [aBs] at *
  cases hi:aA3 h i v with
  | none=>simp [hi] at hg
  | some x=>rw [aDe hi];simpa [hi] using hg
 | nilS=>simpa [aBs] using hg
 | vsl ex l=>simpa only [aBs] using hg
 | _=>simp [aBs] at hg
theorem aKk {h:aA0} {sz:Nat} {x i:AV} {r} (hg:aAs h sz x i=some r) (o:AObj):aAs (h++[o]) sz x i=some r:=by
 unfold aAs at *
 split at hg
 ·rename_i ex l k j
  simpa only [] using hg
 ·rename_i i' v ofs n c k j
  cases hi:aA3 h i' v with
  | none=>simp [hi] at hg
  | some x=>rw [aDe hi];simpa [hi] using hg
 ·cases hg
theorem aQC {h:aA0} {q:LenK} {x:AV} {r} (hg:aBt h q x=some r) (o:AObj):aBt (h++[o]) q x=some r:=by
 cases q with
 | map =>
  have e:∀ h,aBt h .map x=(aBb h x).map fun l=>.int .i64 l.length:=fun h=>by cases x <;> rfl
  rw [e] at hg ⊢
  cases hi:aBb h x with
  | none=>simp [hi] at hg
  | some l=>rw [aJi hi];simpa [hi] using hg
 | str=>cases x <;> first | exact hg | cases hg
 | slice=>cases x <;> first | exact hg | cases hg
theorem aQE {h:aA0} {x:AV} {r} (hg:aH9 h x=some r) (o:AObj):aH9 (h++[o]) x=some r:=by
 unfold aH9 at *
 split at hg
 ·simpa only [] using hg
 ·simpa only [] using hg
 ·rename_i i v ofs n c
  cases hi:aA3 h i v with
  | none=>simp [hi] at hg
  | some x=>rw [aDe hi];simpa only [hi] using hg
 ·cases hg
def aGh (pu:Nat→Bool) (call:aAc):Prop :=
 ∀ g args h x h',pu g=true→call (.func g) args h=some (x,h')→h'=h∧∀ o,call (.func g) args (h++[o])=some (x,h++[o])
def vOf:AR→Option AV
 | .v x _=>some x
 | _=>none
theorem aJr {pu:Nat→Bool} {o:AOp} (hq:cls pu o=.quiet) (h:aA0) (t:List AV):aop h t o=((aop [] t o).bind vOf).map fun v=>.v v h:=by
 have key:∀ q:Option AV,(q.map fun v=>AR.v v h)=((q.map fun v=>AR.v v []).bind vOf).map fun v=>.v v h:=fun q=>by cases q <;> rfl
 cases o <;> simp only [cls] at hq <;> first | (cases hq;done) | skip
 case call f args =>
  exfalso
  split at hq
  all_goals first
   | (split at hq <;> (cases hq;done))
   | (cases hq;done)
   | (rename_i e;cases e;done)
 all_goals simp only [aop]
 all_goals first
  | exact key _
  | rfl
  | (split <;> first | exact key _ | rfl)
  | (split <;> first | rfl | (split <;> first | exact key _ | rfl))
  | (cases hz:aAG _ _ <;> rfl)
theorem aPF {pu:Nat→Bool} {o:AOp} (hq:cls pu o=.quiet) {h:aA0} {t:List AV} {r:AR} (hr:aop h t o=some r):∃ x,r=.v x h∧∀ h2,aop h2 t o=some (.v x h2):=by
 rw [aJr hq] at hr
 cases hx:(aop [] t o).bind vOf with
 | none=>simp [hx] at hr
 | some x =>
  simp [hx] at hr
  exact ⟨x,hr.symm,fun h2=>by rw [aJr hq,hx];rfl⟩
theorem aNc {h:aA0} {sz:Nat} {v:AV} {xs:List (List AV)} {o:AObj} (hx:aAI h sz v=some xs):aAI (h++[o]) sz v=some xs:=by
 unfold aAI at hx ⊢
 split at hx
 ·exact hx
 ·exact hx
 ·rename_i i v ofs n c
  cases hi:aA3 h i v with
  | none=>simp [hi] at hx
  | some x=>simp only [aDe hi];simpa only [hi] using hx
 ·exact hx
 ·cases hx
theorem aLb {h:aA0} {v x:AV} {o:AObj} (hx:aDE h v=some x):aDE (h++[o]) v=some x:=by
 unfold aDE at hx ⊢
 split at hx
 ·cases hx
 ·rename_i hn
  cases he:aAI h 1 v with
  | none=>simp [he] at hx
  | some xs =>
   rw [he] at hx
   rw [aNc he];exact hx
theorem aPE {pu:Nat→Bool} {o:AOp} (hq:cls pu o=.reads) {h:aA0} {t:List AV} {r:AR} (hr:aop h t o=some r) :
  (∃ x,r=.v x h∧∀ ob,aop (h++[ob]) t o=some (.v x (h++[ob])))∨(∃ g args,pu g=true∧r=.call (.func g) args∧∀ h2,aop h2 t o=some r):=by
 cases o <;> simp only [cls] at hq <;> first | (cases hq;done) | skip
 case call f args =>
  right
  split at hq
  all_goals first
   | (cases hq;done)
   | (rename_i e;cases e;done)
   | skip
  rename_i g args' e
  cases e
  cases hp:pu g with
  | false=>simp [hp] at hq
  | true =>
   simp only [aop,AX.ev,List.nil_append,List.append_nil,Option.some.injEq] at hr
   exact ⟨g,avs t args,hp,hr.symm,fun h2=>by simp [aop,AX.ev,← hr]⟩
 all_goals left
 all_goals simp only [aop] at hr ⊢
 case load n g a =>
  cases hx:aA2 h n g (a.ev t) with
  | none=>simp [hx] at hr
  | some x=>simp [hx] at hr;exact ⟨x,hr.symm,fun ob=>by simp [aPI hx]⟩
 case slice sz x lo hi mx =>
  cases hx:aBs h sz (x.ev t) (lo.map (AX.ev t)) (hi.map (AX.ev t)) (mx.map (AX.ev t)) with
  | none=>simp [hx] at hr
  | some y=>simp [hx] at hr;exact ⟨y,hr.symm,fun ob=>by simp [aOx hx]⟩
 case indexAddr sz a b =>
  cases hx:aAs h sz (a.ev t) (b.ev t) with
  | none=>simp [hx] at hr
  | some x=>simp [hx] at hr;exact ⟨x,hr.symm,fun ob=>by simp [aKk hx]⟩
 case lookup q zero ok m k =>
  cases hx:aBb h (m.ev t) with
  | none=>simp [hx] at hr
  | some l =>
   simp only [hx] at hr
   split at hr
   ·rename_i hk
    cases hf:aBM q (k.ev t) l 0 with
    | none=>simp [hf] at hr
    | some y=>simp [hf] at hr;exact ⟨_,hr.symm,fun ob=>by simp [aJi hx,hk,hf]⟩
   ·cases hr
 case len q a =>
  cases hx:aBt h q (a.ev t) with
  | none=>simp [hx] at hr
  | some x=>simp [hx] at hr;exact ⟨x,hr.symm,fun ob=>by simp [aQC hx]⟩
 case bytesStr a =>
  cases hx:aDE h (a.ev t) with
  | none=>simp [hx] at hr
  | some x=>simp [hx] at hr;exact ⟨x,hr.symm,fun ob=>by simp [aLb hx]⟩
 case cap a =>
  cases hx:aH9 h (a.ev t) with
  | none=>simp [hx] at hr
  | some x=>simp [hx] at hr;exact ⟨x,hr.symm,fun ob=>by simp [aQE hx]⟩
theorem aPG {pu:Nat→Bool} {o:AOp} (hq:cls pu o=.makes) {h:aA0} {t:List AV} {r:AR} (hr:aop h t o=some r):∃ x h',r=.v x h'∧(h'=h∨∃ ob,h'=h++[ob]):=by
 cases o <;> simp only [cls] at hq <;> first | (cases hq;done) | skip
 case call f args =>
  exfalso
  split at hq
  all_goals first
   | (split at hq <;> (cases hq;done))
   | (cases hq;done)
   | (rename_i e;cases e;done)
 all_goals simp only [aop] at hr
 case alloc z=>simp at hr;exact ⟨_,_,hr.symm,.inr ⟨_,rfl⟩⟩
 case mkMap=>simp at hr;exact ⟨_,_,hr.symm,.inr ⟨_,rfl⟩⟩
 case box sz x =>
  split at hr
  ·simp at hr;exact ⟨_,_,hr.symm,.inr ⟨_,rfl⟩⟩
  ·cases hr
 case mkSlice sz b z l c =>
  split at hr
  ·split at hr
   ·simp at hr;exact ⟨_,_,hr.symm,.inr ⟨_,rfl⟩⟩
   ·cases hr
  ·cases hr
 case buildSlice hp sz len z parts =>
  split at hr
  ·cases hf:aAG ((List.replicate len z).flatten) (aBD sz (parts.map fun (i,x)=>(i,x.ev t))) with
   | none=>simp [hf] at hr
   | some l =>
    simp only [hf,Option.map_some,Option.some.injEq] at hr
    split at hr
    ·exact ⟨_,_,hr.symm,.inl rfl⟩
    ·exact ⟨_,_,hr.symm,.inr ⟨_,rfl⟩⟩
  ·cases hr
theorem aIl {pu:Nat→Bool} {call:aAc} {o:AOper} (hq:cls pu o.op=.quiet) {h h':aA0} {t:List AV} {x:AV} (hr:aBB call o t h=some (x,h')):h'=h∧∀ h2,aBB call o t h2=some (x,h2):=by
 unfold aBB at *
 split at hr
 ·cases hr
 ·simp at hr;obtain ⟨rfl,rfl⟩:=hr;exact ⟨rfl,fun _=>rfl⟩
 ·cases ha:aop h t o.op with
  | none=>simp [ha] at hr
  | some r =>
   obtain ⟨y,rfl,h2⟩:=aPF hq ha
   simp [ha] at hr
   obtain ⟨rfl,rfl⟩:=hr
   exact ⟨rfl,fun h3=>by simp [h2 h3]⟩
theorem aGt {pu:Nat→Bool} {call:aAc} (hp:aGh pu call) {o:AOper} (hq:cls pu o.op=.reads) {h h':aA0} {t:List AV} {x:AV} (hr:aBB call o t h=some (x,h')) :
  h'=h∧∀ ob,aBB call o t (h++[ob])=some (x,h++[ob]):=by
 unfold aBB at *
 split at hr
 ·cases hr
 ·simp at hr;obtain ⟨rfl,rfl⟩:=hr;exact ⟨rfl,fun _=>rfl⟩
 ·cases ha:aop h t o.op with
  | none=>simp [ha] at hr
  | some r =>
   rcases aPE hq ha with ⟨y,rfl,h2⟩ | ⟨g,args,h1,rfl,h2⟩
   ·simp [ha] at hr
    obtain ⟨rfl,rfl⟩:=hr
    exact ⟨rfl,fun h3=>by simp [h2 h3]⟩
   ·simp only [ha] at hr
    obtain ⟨k1,k2⟩:=hp g args h x h' h1 hr
    exact ⟨k1,fun ob=>by simp only [h2 (h++[ob])];exact k2 ob⟩
theorem aN4 {pu:Nat→Bool} {call:aAc} {o:AOper} (hq:cls pu o.op=.makes) {h h':aA0} {t:List AV} {x:AV} (hr:aBB call o t h=some (x,h')):h'=h∨∃ ob,h'=h++[ob]:=by
 unfold aBB at *
 split at hr
 ·cases hr
 ·simp at hr;exact .inl hr.2.symm
 ·cases ha:aop h t o.op with
  | none=>simp [ha] at hr
  | some r =>
   obtain ⟨y,h2,rfl,k⟩:=aPG hq ha
   simp [ha] at hr
   obtain ⟨rfl,rfl⟩:=hr
   exact k
theorem aQb (t:List AV) {x y:Option Nat} (v u:AV) (h:∀ d,x=some d→y≠some d):put (put t x v) y u=put (put t y u) x v:=by
 cases x with
 | none=>rfl
 | some d =>
  cases y with
  | none=>rfl
  | some e =>
   have hne:d≠e:=fun he=>h d rfl (he ▸ rfl)
   simp [put,List.set_comm _ _ hne]
theorem aNE {pu:Nat→Bool} {call:aAc} (hp:aGh pu call) {oj oi:AOper} (hs:aFA pu oj oi=true) {s s1 s2:St} (h1:aAw call oj s=some s1) (h2:aAw call oi s1=some s2) :
    ∃ u,aAw call oi s=some u∧aAw call oj u=some s2:=by
  simp only [aFA,Bool.and_eq_true] at hs
  obtain ⟨hc,ha⟩:=hs
  have a1:∀ d,oj.dst=some d→d ∉ oi.rd:=fun d hd=>by
    simp [aJq,hd] at ha;exact ha.1.1
  have a2:∀ d,oj.dst=some d→oi.dst≠some d:=fun d hd=>by
    simp [aJq,hd] at ha;exact ha.1.2
  have a3:∀ d,oi.dst=some d→d ∉ oj.rd:=fun d hd=>by
    simp [aJq,hd] at ha;exact ha.2
  rw [aIJ] at h1 h2
  cases e1:aBB call oj s.t s.h with
  | none=>simp [e1] at h1
  | some p =>
    obtain ⟨x,h'⟩:=p
    simp [e1] at h1;subst h1
    simp only at h2
    rw [aKH a1] at h2
    cases e2:aBB call oi s.t h' with
    | none=>simp [e2] at h2
    | some p2 =>
      obtain ⟨y,h''⟩:=p2
      simp [e2] at h2;subst h2
      have fin:aBB call oi s.t s.h=some (y,h'')∧aBB call oj s.t h''=some (x,h'') ∨
          (∃ h3,aBB call oi s.t s.h=some (y,h3)∧aBB call oj s.t h3=some (x,h'')) →
          ∃ u,aAw call oi s=some u∧aAw call oj u=some ⟨put (put s.t oj.dst x) oi.dst y,h''⟩:=by
        intro hh
        have:∃ h3,aBB call oi s.t s.h=some (y,h3)∧aBB call oj s.t h3=some (x,h''):=by
          rcases hh with ⟨k1,k2⟩ | k
          · exact ⟨h'',k1,k2⟩
          · exact k
        obtain ⟨h3,k1,k2⟩:=this
        refine ⟨⟨put s.t oi.dst y,h3⟩,by rw [aIJ,k1];rfl,?_⟩
        rw [aIJ]
        simp only
        rw [aKH a3,k2]
        simp only [Option.map_some,Option.some.injEq,St.mk.injEq,and_true]
        exact (aQb s.t x y a2).symm
      apply fin
      cases cj:cls pu oj.op <;> cases ci:cls pu oi.op <;> simp [cj,ci,aQN] at hc
      all_goals first
        | (obtain ⟨k1,k2⟩:=aIl cj e1
           subst k1
           exact .inl ⟨e2,k2 h''⟩)
        | (obtain ⟨k1,k2⟩:=aIl ci e2
           subst k1
           exact .inr ⟨s.h,k2 s.h,e1⟩)
        | skip
      · obtain ⟨k1,k2⟩:=aGt hp cj e1
        subst k1
        obtain ⟨k3,k4⟩:=aGt hp ci e2
        subst k3
        exact .inl ⟨e2,e1⟩
      · obtain ⟨k1,k2⟩:=aGt hp cj e1
        subst k1
        rcases aN4 ci e2 with k3 | ⟨ob,k3⟩
        · subst k3;exact .inl ⟨e2,e1⟩
        · subst k3;exact .inl ⟨e2,k2 ob⟩
theorem aDs (call:aAc) (o:AOper) (r:List AOper) (s:St):aAJ call (o::r) s=(aAw call o s).bind (aAJ call r):=by
 simp only [aAJ]
 cases aAw call o s <;> rfl
theorem aM2 {pu:Nat→Bool} {call:aAc} (hp:aGh pu call) {oi:AOper} {post:List AOper} {s':St}:∀ (pre:List AOper) (s:St),(∀ oj ∈ pre,aFA pu oj oi=true) →
  aAJ call (pre++oi::post) s=some s'→∃ u,aAw call oi s=some u∧aAJ call (pre++post) u=some s'
 | [],s,_,h=>by
  rw [List.nil_append,aDs] at h
  cases e:aAw call oi s with
  | none=>simp [e] at h
  | some u=>exact ⟨u,rfl,by simpa [e] using h⟩
 | oj::pre,s,hs,h=>by
  rw [List.cons_append,aDs] at h
  cases e:aAw call oj s with
  | none=>simp [e] at h
  | some u =>
   simp only [e,Option.bind_some] at h
   obtain ⟨v,h1,h2⟩:=aM2 hp pre u (fun o ho=>hs o (List.mem_cons_of_mem _ ho)) h
   obtain ⟨z,k1,k2⟩:=aNE hp (hs oj (List.mem_cons_self ..)) e h1
   refine ⟨z,k1,?_⟩
   rw [List.cons_append,aDs,k2]
   exact h2
end Go.Proofs.Yteenffomgdfocaa.Ai
