/- What an operation of the abstract interpreter looks at; two operations that may change places. -/
import Derived.Test.YtgeedikghjcebaamCAi15
namespace Go.Proofs.Ytgeedikghjcebaa.Ai
open Go
open List renaming map_congr_left → Q0
set_option linter.unusedVariables false
set_option linter.unusedSimpArgs false
theorem aNz {d:Option Nat} {x:AX} (hd:∀ i,d=some i→i ∉ x.rd) (t:List AV) (v:AV):x.ev (put t d v)=x.ev t:=by
 cases d with
 | none=>rfl
 | some i =>
  cases x with
  | c v=>rfl
  | t j =>
   have hne:i≠j:=fun e=>hd i rfl (by simp [AX.rd,e])
   simp [AX.ev,put,List.getD_eq_getElem?_getD,List.getElem?_set_ne hne]
theorem aSt {d:Option Nat} {l:List AX} (hd:∀ i,d=some i→i ∉ rds l) (t:List AV) (v:AV):avs (put t d v) l=avs t l:=by
 unfold avs
 refine Q0 fun x hx=>aNz (fun i hi hm=>hd i hi ?_) t v
 unfold rds
 exact List.mem_flatten.2 ⟨x.rd,List.mem_map.2 ⟨x,hx,rfl⟩,hm⟩
theorem aSh {d:Option Nat} {x:Option AX} (hd:∀ i,d=some i→i ∉ rdo x) (t:List AV) (v:AV):x.map (AX.ev (put t d v))=x.map (AX.ev t):=by
 cases x with
 | none=>rfl
 | some x=>exact congrArg some (aNz hd t v)
theorem aSx {d:Option Nat} {o:AOp} (hd:∀ i,d=some i→i ∉ o.rd) (h:aA0) (t:List AV) (v:AV):aop h (put t d v) o=aop h t o:=by
 have sub:∀ {x:AX},(∀ i,i ∈ x.rd→i ∈ o.rd)→x.ev (put t d v)=x.ev t:=fun hx=>aNz (fun i hi hm=>hd i hi (hx i hm)) t v
 have subs:∀ {l:List AX},(∀ i,i ∈ rds l→i ∈ o.rd)→avs (put t d v) l=avs t l:=fun hx=>aSt (fun i hi hm=>hd i hi (hx i hm)) t v
 have subo:∀ {x:Option AX},(∀ i,i ∈ rdo x→i ∈ o.rd)→x.map (AX.ev (put t d v))=x.map (AX.ev t):=fun hx=>aSh (fun i hi hm=>hd i hi (hx i hm)) t v
 cases o with
 | build zero parts =>
  simp only [aop]
  have:(parts.map fun (o,n,x)=>(o,n,x.ev (put t d v)))=(parts.map fun (o,n,x)=>(o,n,x.ev t)):=by
   refine Q0 fun p hp => ?_
   obtain ⟨o,n,x⟩:=p
   simp only
   rw [sub fun i hi=>by simp only [AOp.rd];exact List.mem_flatten.2 ⟨x.rd,List.mem_map.2 ⟨_,hp,rfl⟩,hi⟩]
  rw [this]
 | buildSlice heap sz len zero parts =>
  simp only [aop]
  have:(parts.map fun (i,x)=>(i,x.ev (put t d v)))=(parts.map fun (i,x)=>(i,x.ev t)):=by
   refine Q0 fun p hp => ?_
   obtain ⟨n,x⟩:=p
   simp only
   rw [sub fun i hi=>by simp only [AOp.rd];exact List.mem_flatten.2 ⟨x.rd,List.mem_map.2 ⟨_,hp,rfl⟩,hi⟩]
  rw [this]
 | mkFunc f a b =>
  simp only [aop]
  rw [subs (l:=a) (fun i hi=>by simp [AOp.rd,hi]),subs (l:=b) (fun i hi=>by simp [AOp.rd,hi])]
 | minmax mx xs=>simp only [aop];rw [subs (l:=xs) (fun i hi=>by simp [AOp.rd,hi])]
 | call f args=>simp only [aop];rw [sub (x:=f) (fun i hi=>by simp [AOp.rd,hi]),subs (l:=args) (fun i hi=>by simp [AOp.rd,hi])]
 | slice sz x lo hi mx=>simp only [aop];rw [sub (x:=x) (fun i hi=>by simp [AOp.rd,hi]),subo (x:=lo) (fun i hi=>by simp [AOp.rd,hi]),subo (x:=hi) (fun i hi=>by simp [AOp.rd,hi]),subo (x:=mx) (fun i hi=>by simp [AOp.rd,hi])]
 | sliceStr x lo hi=>simp only [aop];rw [sub (x:=x) (fun i hi=>by simp [AOp.rd,hi]),subo (x:=lo) (fun i hi=>by simp [AOp.rd,hi]),subo (x:=hi) (fun i hi=>by simp [AOp.rd,hi])]
 | alloc _ | mkMap | fail=>rfl
 | strBytes x | bytesStr x | markB x | mv x | box _ x | load _ _ x | nilCheck x | un _ x | convInt _ x | convStr x | fieldAddr _ x | field _ _ _ x | extract x _ | len _ x | cap x | mkIface _ x =>
  simp only [aop];rw [sub (x:=x) (fun i hi=>by simp [AOp.rd,hi])]
 | pick c a b=>simp only [aop];rw [sub (x:=c) (fun i hi=>by simp [AOp.rd,hi]),sub (x:=a) (fun i hi=>by simp [AOp.rd,hi]),sub (x:=b) (fun i hi=>by simp [AOp.rd,hi])]
 | store _ x y | bin _ _ x y | mkSlice _ _ _ x y | indexAddr _ x y | indexArr _ _ x y | indexStr x y | indexAgg _ _ _ x y | lookup _ _ _ x y | append _ _ x y | appendZ _ _ _ x y | copy _ x y | delete _ x y =>
  simp only [aop];rw [sub (x:=x) (fun i hi=>by simp [AOp.rd,hi]),sub (x:=y) (fun i hi=>by simp [AOp.rd,hi])]
 | mapUpdate _ x y z=>simp only [aop];rw [sub (x:=x) (fun i hi=>by simp [AOp.rd,hi]),sub (x:=y) (fun i hi=>by simp [AOp.rd,hi]),sub (x:=z) (fun i hi=>by simp [AOp.rd,hi])]
def aCs (call:aA4) (o:AOper) (t:List AV) (h:aA0):Option (AV × aA0) :=
 match wanted t o.guard with
 | none=>none
 | some false=>some (AV.un,h)
 | some true =>
  match aop h t o.op with
  | none=>none
  | some (.v x h)=>some (x,h)
  | some (.call f args)=>call f args h
theorem aKj (call:aA4) (o:AOper) (s:St):aAL call o s=(aCs call o s.t s.h).map fun p=>⟨put s.t o.dst p.1,p.2⟩:=by
 unfold aAL aCs
 split
 ·rename_i h;simp [h]
 ·rename_i h;simp [h]
 ·rename_i h
  simp only [h]
  cases aop s.h s.t o.op with
  | none=>rfl
  | some r =>
   cases r with
   | v x h=>rfl
   | call f args =>
    simp only
    cases call f args s.h with
    | none=>rfl
    | some p=>obtain ⟨x,h⟩:=p;rfl
theorem aNZ {d:Option Nat} {g:Option (Nat × Bool)} (hd:∀ i,d=some i→∀ b,g≠some (i,b)) (t:List AV) (v:AV):wanted (put t d v) g=wanted t g:=by
 cases g with
 | none=>rfl
 | some p =>
  obtain ⟨j,b⟩:=p
  cases d with
  | none=>rfl
  | some i =>
   have hne:i≠j:=fun e=>hd i rfl b (by rw [e])
   simp [wanted,put,List.getElem?_set_ne hne]
theorem aMt {call:aA4} {d:Option Nat} {o:AOper} (hd:∀ i,d=some i→i ∉ o.rd) (h:aA0) (t:List AV) (v:AV):aCs call o (put t d v) h=aCs call o t h:=by
 unfold aCs
 rw [aNZ (fun i hi b hg=>hd i hi (by simp [AOper.rd,hg])),aSx (fun i hi hm=>hd i hi (by simp [AOper.rd,hm]))]
theorem aDA {h:aA0} {i v:Nat} {r} (hg:aAk h i v=some r) (o:AObj):aAk (h++[o]) i v=some r:=by
 unfold aAk at *
 cases hi:h[i]? with
 | none=>simp [hi] at hg
 | some x =>
  rw [List.getElem?_append_left (List.getElem?_eq_some_iff.1 hi).1,hi]
  simpa [hi] using hg
theorem aLf {h:aA0} {m:AV} {r} (hg:aCm h m=some r) (o:AObj):aCm (h++[o]) m=some r:=by
 cases m with
 | nilM=>simpa [aCm] using hg
 | map i =>
  simp only [aCm] at *
  cases hi:h[i]? with
  | none=>simp [hi] at hg
  | some x =>
   rw [List.getElem?_append_left (List.getElem?_eq_some_iff.1 hi).1,hi]
   simpa [hi] using hg
 | _=>simp [aCm] at hg
theorem aPx {h:aA0} {n:Nat} {p:AV} {r} (hg:aAM h n p=some r) (o:AObj):aAM (h++[o]) n p=some r:=by
 cases p with
 | ptr i v e ofs =>
  simp only [aAM] at *
  cases hi:aAk h i v with
  | none=>simp [hi] at hg
  | some x=>rw [aDA hi];simpa [hi] using hg
 | vptr c ofs=>simpa [aAM] using hg
 | _=>simp [aAM] at hg
theorem aQB {h:aA0} {n:Nat} {g:Bool} {p:AV} {r} (hg:aAb h n g p=some r) (o:AObj):aAb (h++[o]) n g p=some r:=by
 unfold aAb at *
 cases hc:aAM h n p with
 | none=>simp [hc] at hg
 | some c=>rw [aPx hc];simpa [hc] using hg
theorem aPs {h:aA0} {sz:Nat} {x:AV} {a b c:Option AV} {r} (hg:aBs h sz x a b c=some r) (o:AObj):aBs (h++[o]) sz x a b c=some r:=by
 cases x with
 | hsl i v ofs n cc =>
  simp only [aBs] at *
  cases hi:aAk h i v with
  | none=>simp [hi] at hg
  | some x=>rw [aDA hi];simpa [hi] using hg
 | nilS=>simpa [aBs] using hg
 | vsl ex l=>simpa only [aBs] using hg
 | _=>simp [aBs] at hg
theorem aMg {h:aA0} {sz:Nat} {x i:AV} {r} (hg:aAN h sz x i=some r) (o:AObj):aAN (h++[o]) sz x i=some r:=by
 unfold aAN at *
 split at hg
 ·rename_i ex l k j
  simpa only [] using hg
 ·rename_i i' v ofs n c k j
  cases hi:aAk h i' v with
  | none=>simp [hi] at hg
  | some x=>rw [aDA hi];simpa [hi] using hg
 ·cases hg
theorem aRv {h:aA0} {q:LenK} {x:AV} {r} (hg:aBX h q x=some r) (o:AObj):aBX (h++[o]) q x=some r:=by
 cases q with
 | map =>
  have e:∀ h,aBX h .map x=(aCm h x).map fun l=>.int .i64 l.length:=fun h=>by cases x <;> rfl
  rw [e] at hg ⊢
  cases hi:aCm h x with
  | none=>simp [hi] at hg
  | some l=>rw [aLf hi];simpa [hi] using hg
 | str=>cases x <;> first | exact hg | cases hg
 | slice=>cases x <;> first | exact hg | cases hg
theorem aRx {h:aA0} {x:AV} {r} (hg:aEs h x=some r) (o:AObj):aEs (h++[o]) x=some r:=by
 unfold aEs at *
 split at hg
 ·simpa only [] using hg
 ·simpa only [] using hg
 ·rename_i i v ofs n c
  cases hi:aAk h i v with
  | none=>simp [hi] at hg
  | some x=>rw [aDA hi];simpa only [hi] using hg
 ·cases hg
def aHw (pu:Nat→Bool) (call:aA4):Prop :=
 ∀ g args h x h',pu g=true→call (.func g) args h=some (x,h')→h'=h∧∀ o,call (.func g) args (h++[o])=some (x,h++[o])
def vOf:AR→Option AV
 | .v x _=>some x
 | _=>none
theorem aLu {pu:Nat→Bool} {o:AOp} (hq:cls pu o=.quiet) (h:aA0) (t:List AV):aop h t o=((aop [] t o).bind vOf).map fun v=>.v v h:=by
 have key:∀ q:Option AV,(q.map fun v=>AR.v v h)=((q.map fun v=>AR.v v []).bind vOf).map fun v=>.v v h:=fun q=>by cases q <;> rfl
 cases o <;> simp only [cls] at hq <;> first | (cases hq;done) | skip
 case call f args =>
  exfalso
  split at hq
  all_goals first
   | (split at hq <;> (cases hq;done))
   | (cases hq;done)
   | (rename_i e;cases e;done)
 all_goals simp only [aop]
 all_goals first
  | exact key _
  | rfl
  | (split <;> first | exact key _ | rfl)
  | (split <;> first | rfl | (split <;> first | exact key _ | rfl))
  | (cases hz:aAF _ _ <;> rfl)
theorem aQx {pu:Nat→Bool} {o:AOp} (hq:cls pu o=.quiet) {h:aA0} {t:List AV} {r:AR} (hr:aop h t o=some r):∃ x,r=.v x h∧∀ h2,aop h2 t o=some (.v x h2):=by
 rw [aLu hq] at hr
 cases hx:(aop [] t o).bind vOf with
 | none=>simp [hx] at hr
 | some x =>
  simp [hx] at hr
  exact ⟨x,hr.symm,fun h2=>by rw [aLu hq,hx];rfl⟩
theorem aOk {h:aA0} {sz:Nat} {v:AV} {xs:List (List AV)} {o:AObj} (hx:aAC h sz v=some xs):aAC (h++[o]) sz v=some xs:=by
 unfold aAC at hx ⊢
 split at hx
 ·exact hx
 ·exact hx
 ·rename_i i v ofs n c
  cases hi:aAk h i v with
  | none=>simp [hi] at hx
  | some x=>simp only [aDA hi];simpa only [hi] using hx
 ·exact hx
 ·cases hx
theorem aMR {h:aA0} {v x:AV} {o:AObj} (hx:aBQ h v=some x):aBQ (h++[o]) v=some x:=by
 unfold aBQ at hx ⊢
 split at hx
 ·cases hx
 ·rename_i hn
  cases he:aAC h 1 v with
  | none=>simp [he] at hx
  | some xs =>
   rw [he] at hx
   rw [aOk he];exact hx
theorem aQw {pu:Nat→Bool} {o:AOp} (hq:cls pu o=.reads) {h:aA0} {t:List AV} {r:AR} (hr:aop h t o=some r) :
  (∃ x,r=.v x h∧∀ ob,aop (h++[ob]) t o=some (.v x (h++[ob])))∨(∃ g args,pu g=true∧r=.call (.func g) args∧∀ h2,aop h2 t o=some r):=by
 cases o <;> simp only [cls] at hq <;> first | (cases hq;done) | skip
 case call f args =>
  right
  split at hq
  all_goals first
   | (cases hq;done)
   | (rename_i e;cases e;done)
   | skip
  rename_i g args' e
  cases e
  cases hp:pu g with
  | false=>simp [hp] at hq
  | true =>
   simp only [aop,AX.ev,List.nil_append,List.append_nil,Option.some.injEq] at hr
   exact ⟨g,avs t args,hp,hr.symm,fun h2=>by simp [aop,AX.ev,← hr]⟩
 all_goals left
 all_goals simp only [aop] at hr ⊢
 case load n g a =>
  cases hx:aAb h n g (a.ev t) with
  | none=>simp [hx] at hr
  | some x=>simp [hx] at hr;exact ⟨x,hr.symm,fun ob=>by simp [aQB hx]⟩
 case slice sz x lo hi mx =>
  cases hx:aBs h sz (x.ev t) (lo.map (AX.ev t)) (hi.map (AX.ev t)) (mx.map (AX.ev t)) with
  | none=>simp [hx] at hr
  | some y=>simp [hx] at hr;exact ⟨y,hr.symm,fun ob=>by simp [aPs hx]⟩
 case indexAddr sz a b =>
  cases hx:aAN h sz (a.ev t) (b.ev t) with
  | none=>simp [hx] at hr
  | some x=>simp [hx] at hr;exact ⟨x,hr.symm,fun ob=>by simp [aMg hx]⟩
 case lookup q zero ok m k =>
  cases hx:aCm h (m.ev t) with
  | none=>simp [hx] at hr
  | some l =>
   simp only [hx] at hr
   split at hr
   ·rename_i hk
    cases hf:aDS q (k.ev t) l 0 with
    | none=>simp [hf] at hr
    | some y=>simp [hf] at hr;exact ⟨_,hr.symm,fun ob=>by simp [aLf hx,hk,hf]⟩
   ·cases hr
 case len q a =>
  cases hx:aBX h q (a.ev t) with
  | none=>simp [hx] at hr
  | some x=>simp [hx] at hr;exact ⟨x,hr.symm,fun ob=>by simp [aRv hx]⟩
 case bytesStr a =>
  cases hx:aBQ h (a.ev t) with
  | none=>simp [hx] at hr
  | some x=>simp [hx] at hr;exact ⟨x,hr.symm,fun ob=>by simp [aMR hx]⟩
 case cap a =>
  cases hx:aEs h (a.ev t) with
  | none=>simp [hx] at hr
  | some x=>simp [hx] at hr;exact ⟨x,hr.symm,fun ob=>by simp [aRx hx]⟩
theorem aQy {pu:Nat→Bool} {o:AOp} (hq:cls pu o=.makes) {h:aA0} {t:List AV} {r:AR} (hr:aop h t o=some r):∃ x h',r=.v x h'∧(h'=h∨∃ ob,h'=h++[ob]):=by
 cases o <;> simp only [cls] at hq <;> first | (cases hq;done) | skip
 case call f args =>
  exfalso
  split at hq
  all_goals first
   | (split at hq <;> (cases hq;done))
   | (cases hq;done)
   | (rename_i e;cases e;done)
 all_goals simp only [aop] at hr
 case alloc z=>simp at hr;exact ⟨_,_,hr.symm,.inr ⟨_,rfl⟩⟩
 case mkMap=>simp at hr;exact ⟨_,_,hr.symm,.inr ⟨_,rfl⟩⟩
 case box sz x =>
  split at hr
  ·simp at hr;exact ⟨_,_,hr.symm,.inr ⟨_,rfl⟩⟩
  ·cases hr
 case mkSlice sz b z l c =>
  split at hr
  ·split at hr
   ·simp at hr;exact ⟨_,_,hr.symm,.inr ⟨_,rfl⟩⟩
   ·cases hr
  ·cases hr
 case buildSlice hp sz len z parts =>
  split at hr
  ·cases hf:aAF ((List.replicate len z).flatten) (aB4 sz (parts.map fun (i,x)=>(i,x.ev t))) with
   | none=>simp [hf] at hr
   | some l =>
    simp only [hf,Option.map_some,Option.some.injEq] at hr
    split at hr
    ·exact ⟨_,_,hr.symm,.inl rfl⟩
    ·exact ⟨_,_,hr.symm,.inr ⟨_,rfl⟩⟩
  ·cases hr
theorem aK7 {pu:Nat→Bool} {call:aA4} {o:AOper} (hq:cls pu o.op=.quiet) {h h':aA0} {t:List AV} {x:AV} (hr:aCs call o t h=some (x,h')):h'=h∧∀ h2,aCs call o t h2=some (x,h2):=by
 unfold aCs at *
 split at hr
 ·cases hr
 ·simp at hr;obtain ⟨rfl,rfl⟩:=hr;exact ⟨rfl,fun _=>rfl⟩
 ·cases ha:aop h t o.op with
  | none=>simp [ha] at hr
  | some r =>
   obtain ⟨y,rfl,h2⟩:=aQx hq ha
   simp [ha] at hr
   obtain ⟨rfl,rfl⟩:=hr
   exact ⟨rfl,fun h3=>by simp [h2 h3]⟩
theorem aHE {pu:Nat→Bool} {call:aA4} (hp:aHw pu call) {o:AOper} (hq:cls pu o.op=.reads) {h h':aA0} {t:List AV} {x:AV} (hr:aCs call o t h=some (x,h')) :
  h'=h∧∀ ob,aCs call o t (h++[ob])=some (x,h++[ob]):=by
 unfold aCs at *
 split at hr
 ·cases hr
 ·simp at hr;obtain ⟨rfl,rfl⟩:=hr;exact ⟨rfl,fun _=>rfl⟩
 ·cases ha:aop h t o.op with
  | none=>simp [ha] at hr
  | some r =>
   rcases aQw hq ha with ⟨y,rfl,h2⟩ | ⟨g,args,h1,rfl,h2⟩
   ·simp [ha] at hr
    obtain ⟨rfl,rfl⟩:=hr
    exact ⟨rfl,fun h3=>by simp [h2 h3]⟩
   ·simp only [ha] at hr
    obtain ⟨k1,k2⟩:=hp g args h x h' h1 hr
    exact ⟨k1,fun ob=>by simp only [h2 (h++[ob])];exact k2 ob⟩
theorem aO8 {pu:Nat→Bool} {call:aA4} {o:AOper} (hq:cls pu o.op=.makes) {h h':aA0} {t:List AV} {x:AV} (hr:aCs call o t h=some (x,h')):h'=h∨∃ ob,h'=h++[ob]:=by
 unfold aCs at *
 split at hr
 ·cases hr
 ·simp at hr;exact .inl hr.2.symm
 ·cases ha:aop h t o.op with
  | none=>simp [ha] at hr
  | some r =>
   obtain ⟨y,h2,rfl,k⟩:=aQy hq ha
   simp [ha] at hr
   obtain ⟨rfl,rfl⟩:=hr
   exact k
theorem aR1 (t:List AV) {x y:Option Nat} (v u:AV) (h:∀ d,x=some d→y≠some d):put (put t x v) y u=put (put t y u) x v:=by
 cases x with
 | none=>rfl
 | some d =>
  cases y with
  | none=>rfl
  | some e =>
   have hne:d≠e:=fun he=>h d rfl (he ▸ rfl)
   simp [put,List.set_comm _ _ hne]
theorem aOx {pu:Nat→Bool} {call:aA4} (hp:aHw pu call) {oj oi:AOper} (hs:aGy pu oj oi=true) {s s1 s2:St} (h1:aAL call oj s=some s1) (h2:aAL call oi s1=some s2) :
    ∃ u,aAL call oi s=some u∧aAL call oj u=some s2:=by
  simp only [aGy,Bool.and_eq_true] at hs
  obtain ⟨hc,ha⟩:=hs
  have a1:∀ d,oj.dst=some d→d ∉ oi.rd:=fun d hd=>by
    simp [aLt,hd] at ha;exact ha.1.1
  have a2:∀ d,oj.dst=some d→oi.dst≠some d:=fun d hd=>by
    simp [aLt,hd] at ha;exact ha.1.2
  have a3:∀ d,oi.dst=some d→d ∉ oj.rd:=fun d hd=>by
    simp [aLt,hd] at ha;exact ha.2
  rw [aKj] at h1 h2
  cases e1:aCs call oj s.t s.h with
  | none=>simp [e1] at h1
  | some p =>
    obtain ⟨x,h'⟩:=p
    simp [e1] at h1;subst h1
    simp only at h2
    rw [aMt a1] at h2
    cases e2:aCs call oi s.t h' with
    | none=>simp [e2] at h2
    | some p2 =>
      obtain ⟨y,h''⟩:=p2
      simp [e2] at h2;subst h2
      have fin:aCs call oi s.t s.h=some (y,h'')∧aCs call oj s.t h''=some (x,h'') ∨
          (∃ h3,aCs call oi s.t s.h=some (y,h3)∧aCs call oj s.t h3=some (x,h'')) →
          ∃ u,aAL call oi s=some u∧aAL call oj u=some ⟨put (put s.t oj.dst x) oi.dst y,h''⟩:=by
        intro hh
        have:∃ h3,aCs call oi s.t s.h=some (y,h3)∧aCs call oj s.t h3=some (x,h''):=by
          rcases hh with ⟨k1,k2⟩ | k
          · exact ⟨h'',k1,k2⟩
          · exact k
        obtain ⟨h3,k1,k2⟩:=this
        refine ⟨⟨put s.t oi.dst y,h3⟩,by rw [aKj,k1];rfl,?_⟩
        rw [aKj]
        simp only
        rw [aMt a3,k2]
        simp only [Option.map_some,Option.some.injEq,St.mk.injEq,and_true]
        exact (aR1 s.t x y a2).symm
      apply fin
      cases cj:cls pu oj.op <;> cases ci:cls pu oi.op <;> simp [cj,ci,aRJ] at hc
      all_goals first
        | (obtain ⟨k1,k2⟩:=aK7 cj e1
           subst k1
           exact .inl ⟨e2,k2 h''⟩)
        | (obtain ⟨k1,k2⟩:=aK7 ci e2
           subst k1
           exact .inr ⟨s.h,k2 s.h,e1⟩)
        | skip
      · obtain ⟨k1,k2⟩:=aHE hp cj e1
        subst k1
        obtain ⟨k3,k4⟩:=aHE hp ci e2
        subst k3
        exact .inl ⟨e2,e1⟩
      · obtain ⟨k1,k2⟩:=aHE hp cj e1
        subst k1
        rcases aO8 ci e2 with k3 | ⟨ob,k3⟩
        · subst k3;exact .inl ⟨e2,e1⟩
        · subst k3;exact .inl ⟨e2,k2 ob⟩
theorem aDL (call:aA4) (o:AOper) (r:List AOper) (s:St):aB9 call (o::r) s=(aAL call o s).bind (aB9 call r):=by
 simp only [aB9]
 cases aAL call o s <;> rfl
theorem aNn {pu:Nat→Bool} {call:aA4} (hp:aHw pu call) {oi:AOper} {post:List AOper} {s':St}:∀ (pre:List AOper) (s:St),(∀ oj ∈ pre,aGy pu oj oi=true) →
  aB9 call (pre++oi::post) s=some s'→∃ u,aAL call oi s=some u∧aB9 call (pre++post) u=some s'
 | [],s,_,h=>by
  rw [List.nil_append,aDL] at h
  cases e:aAL call oi s with
  | none=>simp [e] at h
  | some u=>exact ⟨u,rfl,by simpa [e] using h⟩
 | oj::pre,s,hs,h=>by
  rw [List.cons_append,aDL] at h
  cases e:aAL call oj s with
  | none=>simp [e] at h
  | some u =>
   simp only [e,Option.bind_some] at h
   obtain ⟨v,h1,h2⟩:=aNn hp pre u (fun o ho=>hs o (List.mem_cons_of_mem _ ho)) h
   obtain ⟨z,k1,k2⟩:=aOx hp (hs oj (List.mem_cons_self ..)) e h1
   refine ⟨z,k1,?_⟩
   rw [List.cons_append,aDL,k2]
   exact h2
end Go.Proofs.Ytgeedikghjcebaa.Ai
