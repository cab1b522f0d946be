/- What an abstract value stands for in a world of the model; what an abstract memory stands for; how both abide the steps of a run. -/
import Derived.Test.YteenffomgdfocaamCAi2
namespace Go.Proofs.Yteenffomgdfocaa.Ai
open Go Go.RowKit
structure Ent where
 b:Nat
 base:Nat
 v:Nat
 sz:Nat
 K:Nat
def aBx (S:List Ent):List Nat:=S.map (·.b)
def imm (B:Nat→Prop) (S:List Ent) (b:Nat):Prop:=b ∉ aBx S∧¬ B b
inductive PRep (I:Nat→Prop) (w:World):Value→AV→Prop where
 | bool (b):PRep I w (.bool b) (.bool b)
 | int (k n):PRep I w (.int k n) (.int k n)
 | str (s:ByteArray):PRep I w (.string s) (.str s.data.toList)
 | nilP:PRep I w (.pointer none) .nilP
 | nilS:PRep I w (.slice none 0 0) .nilS
 | nilM:PRep I w (.map none) .nilM
 | nilF:PRep I w .nilFunc .nilF
 | nilI:PRep I w .nilIface .nilI
 | junk (v):PRep I w v .junk
 | vptr (b base o:Nat) (cells:List AV) (f:Nat→Value)
   (hc:∀ (j:Nat) (c:AV),cells[j]?=some c→I b∧w.cell? ⟨b,base+j,none⟩=some (f j))
   (hr:∀ (j:Nat) (c:AV),cells[j]?=some c→PRep I w (f j) c):PRep I w (.pointer (some ⟨b,base+o,none⟩)) (.vptr cells o)
 | vsl0 (ex:Bool):PRep I w (.slice none 0 0) (.vsl ex [])
 | vslE (a:Addr) (ex:Bool):PRep I w (.slice (some a) 0 0) (.vsl ex [])
 | vsl (b base sz cap:Nat) (ex:Bool) (l:List (List AV)) (f:Nat→Nat→Value) (hcap:l.length≤cap) (hex:ex=true→cap=l.length)
   (hsz:∀ (e:Nat) (c:List AV),l[e]?=some c→c.length=sz)
   (hc:∀ (e:Nat) (c:List AV) (j:Nat) (x:AV),l[e]?=some c→c[j]?=some x→I b∧w.cell? ⟨b,base+e*sz+j,none⟩=some (f e j))
   (hr:∀ (e:Nat) (c:List AV) (j:Nat) (x:AV),l[e]?=some c→c[j]?=some x→PRep I w (f e j) x):PRep I w (.slice (some ⟨b,base,none⟩) l.length cap) (.vsl ex l)
 | fn (g:FuncId) (v1 v2:Array Value) (l1 l2:List AV) (h1:v1.size=l1.length) (h2:v2.size=l2.length)
   (r1:∀ (j:Nat) (x:AV),l1[j]?=some x→PRep I w (v1.getD j Go.undef) x) (r2:∀ (j:Nat) (x:AV),l2[j]?=some x→PRep I w (v2.getD j Go.undef) x) :
   PRep I w (.func (.func g) v1 v2) (.fn (.func g) l1 l2)
 | iface (t:TypeId) (v:Value) (x:AV) (h:PRep I w v x):PRep I w (.iface t v) (.iface t x)
 | agg (vs:Array Value) (l:List AV) (hs:vs.size=l.length) (hr:∀ (j:Nat) (x:AV),l[j]?=some x→PRep I w (vs.getD j Go.undef) x):PRep I w (.agg vs) (.agg l)
 | tup (vs:Array Value) (l:List AV) (hs:vs.size=l.length) (hr:∀ (j:Nat) (x:AV),l[j]?=some x→PRep I w (vs.getD j Go.undef) x):PRep I w (.tuple vs) (.tup l)
inductive Rep (B:Nat→Prop) (S:List Ent) (w:World):Value→AV→Prop where
 | pure (v a) (h:PRep (imm B S) w v a):Rep B S w v a
 | ptr (i e o:Nat) (t:Ent) (ht:S[i]?=some t):Rep B S w (.pointer (some ⟨t.b,t.base+e*t.sz+o,none⟩)) (.ptr i t.v e o)
 | ptrOld (b p i v e o:Nat) (t:Ent) (ht:S[i]?=some t) (hv:v < t.v):Rep B S w (.pointer (some ⟨b,p,none⟩)) (.ptr i v e o)
 | hsl (i o len cap:Nat) (c:Option Nat) (a:Addr) (t:Ent) (ht:S[i]?=some t) (hl:len≤cap) (hK:o+cap≤t.K)
   (hc:∀ c',c=some c'→cap=c') (hn:c=none→o+cap=t.K) (ha:cap≠0→a=⟨t.b,t.base+o*t.sz,none⟩) (hsp:a.spot=none):Rep B S w (.slice (some a) len cap) (.hsl i t.v o len c)
 | hslOld (a:Addr) (i v o n cap:Nat) (c:Option Nat) (t:Ent) (ht:S[i]?=some t) (hv:v < t.v):Rep B S w (.slice (some a) n cap) (.hsl i v o n c)
 | map (i:Nat) (t:Ent) (ht:S[i]?=some t) (hz:t.sz=0):Rep B S w (.map (some t.b)) (.map i)
 | yield (i : Nat) (t : Ent) (ht : S[i]? = some t) (hz : t.sz = 0) : Rep B S w (.func (.yield t.b) #[] #[]) (.fn (.yield i) [] [])
 | fn (g:FuncId) (v1 v2:Array Value) (l1 l2:List AV) (h1:v1.size=l1.length) (h2:v2.size=l2.length)
   (r1:∀ (j:Nat) (x:AV),l1[j]?=some x→Rep B S w (v1.getD j Go.undef) x) (r2:∀ (j:Nat) (x:AV),l2[j]?=some x→Rep B S w (v2.getD j Go.undef) x) :
   Rep B S w (.func (.func g) v1 v2) (.fn (.func g) l1 l2)
 | iface (t:TypeId) (v:Value) (x:AV) (h:Rep B S w v x):Rep B S w (.iface t v) (.iface t x)
 | agg (vs:Array Value) (l:List AV) (hs:vs.size=l.length) (hr:∀ (j:Nat) (x:AV),l[j]?=some x→Rep B S w (vs.getD j Go.undef) x):Rep B S w (.agg vs) (.agg l)
 | tup (vs:Array Value) (l:List AV) (hs:vs.size=l.length) (hr:∀ (j:Nat) (x:AV),l[j]?=some x→Rep B S w (vs.getD j Go.undef) x):Rep B S w (.tuple vs) (.tup l)
def aAx (B:Nat→Prop) (S:List Ent) (w:World) (vs:Array Value) (l:List AV):Prop :=
 vs.size=l.length∧∀ (j:Nat) (x:AV),l[j]?=some x→Rep B S w (vs.getD j Go.undef) x
def aGp (I:Nat→Prop) (w:World) (vs:Array Value) (l:List AV):Prop :=
 vs.size=l.length∧∀ (j:Nat) (x:AV),l[j]?=some x→PRep I w (vs.getD j Go.undef) x
def aBk:Out→Option Code
 | .normal=>none
 | .exit id=>some (if id < gB then .exit id else .goto (id - gB))
 | .ret=>some .ret
def aFp:LS→LoopState
 | .ready=>.ready
 | .busy=>.busy
 | .done=>.done
 | .exhausted=>.exhausted
structure Pg where
 P:Program
 hp:Nat→Bool
 pu:Nat→Bool
def aHe (G:Pg) (hp:Bool) (c:Code) (ac:ACode):Prop :=
 ∃ m m' a0 n lv o,aAA G.P hp G.pu c=some a0∧(ac=.seq (.kill m) (kc n a0 lv o)∨ac=.seq (kc n a0 lv o) (.kill m'))
def Fz (fz:Nat × Nat) (n:Nat):Prop:=fz=(0,0)∨fz=(n,n+1)
theorem Fz.zero (n:Nat):Fz (0,0) n:=.inl rfl
theorem Fz.behind (n:Nat):Fz (n,n+1) n:=.inr rfl
theorem Fz.no {fz:Nat × Nat} {n:Nat} (h:Fz fz n):∀ p,p < n→(decide (fz.1≤p) && decide (p < fz.2))=false:=fun p hp=>by
 rcases h with h | h
 ·subst h;simp
 ·subst h
  have:¬ n≤p:=by omega
  simp [this]
def aDG (G:Pg) (B:Nat→Prop) (S:List Ent) (w:World) (t:Ent):AObj→Prop
 | .arr v sz x l=>t.v=v∧t.sz=sz∧0 < sz∧l.length≤t.K∧(x=true→l.length=t.K) ∧
   ∃ cs ty,(∃ fz,Fz fz cs.size∧w.heap[t.b]?=some (.cells cs ty fz))∧cs.size=t.base+t.K*sz ∧
    ∀ (e:Nat) (c:List AV),l[e]?=some c→c.length=sz∧∀ (j:Nat) (x:AV),c[j]?=some x→Rep B S w (cs.getD (t.base+e*sz+j) Go.undef) x
 | .map l=>t.sz=0∧t.K=0∧∃ es clock,w.heap[t.b]?=some (.map es clock)∧es.size=l.length ∧
   ∀ (j:Nat) (k x:AV),l[j]?=some (k,x)→∃ en:MapEntry,es[j]?=some en∧Rep B S w en.key k∧Rep B S w en.val x
 | .loop st pend tl ps asg body=>t.sz=0∧t.K=1∧∃ (L:Loop) (hp:Bool),w.heap[t.b]?=some (.loop L)∧L.state=aFp st∧L.pending=(pend.bind aBk)∧(∀ o,pend=some o→o≠.normal) ∧
   aAx B S w L.tmps tl∧L.params.toList=ps∧aHe G hp L.assign asg∧aHe G hp L.body body
structure HeapRel (G:Pg) (B:Nat→Prop) (S:List Ent) (w:World) (h:aA0):Prop where
 len:S.length=h.length
 inj:∀ (i j:Nat) (ti tj:Ent),S[i]?=some ti→S[j]?=some tj→ti.b=tj.b→i=j
 lt:∀ (i:Nat) (t:Ent),S[i]?=some t→t.b < w.heap.size∧¬ B t.b
 obj:∀ (i:Nat) (t:Ent) (o:AObj),S[i]?=some t→h[i]?=some o→aDG G B S w t o
 bl:∀ b,B b→b < w.heap.size
structure Evo (S:List Ent) (w:World) (S':List Ent) (w':World):Prop where
 os:w'.os=w.os
 tape:w'.tape=w.tape
 output:w'.output=w.output
 size:w.heap.size≤w'.heap.size
 keep:∀ b,b < w.heap.size→b ∉ aBx S→w'.heap[b]?=w.heap[b]?∧b ∉ aBx S'
 ids:∀ (i:Nat) (t:Ent),S[i]?=some t→∃ t',S'[i]?=some t'∧t.v≤t'.v∧(t'.v=t.v→t'=t)∧(t.sz=0→t'=t)
theorem Evo.refl (S:List Ent) (w:World):Evo S w S w :=
 ⟨rfl,rfl,rfl,Nat.le_refl _,fun _ _ h=>⟨rfl,h⟩,fun _ t h=>⟨t,h,Nat.le_refl _,fun _=>rfl,fun _=>rfl⟩⟩
theorem Evo.trans {S S' S'':List Ent} {w w' w'':World} (h:Evo S w S' w') (k:Evo S' w' S'' w''):Evo S w S'' w'':=by
 refine ⟨k.os.trans h.os,k.tape.trans h.tape,k.output.trans h.output,Nat.le_trans h.size k.size,?_,?_⟩
 ·intro b hb hn
  obtain ⟨h1,h2⟩:=h.keep b hb hn
  obtain ⟨k1,k2⟩:=k.keep b (Nat.lt_of_lt_of_le hb h.size) h2
  exact ⟨k1.trans h1,k2⟩
 ·intro i t ht
  obtain ⟨t',h1,h2,h3,h4⟩:=h.ids i t ht
  obtain ⟨t'',k1,k2,k3,k4⟩:=k.ids i t' h1
  refine ⟨t'',k1,Nat.le_trans h2 k2,fun e => ?_,fun e => ?_⟩
  case refine_2 =>
   have:=h4 e
   subst this
   exact k4 e
  have e1:t'.v=t.v:=Nat.le_antisymm (by rw [← e];exact k2) h2
  have e2:=h3 e1
  subst e2
  exact k3 e
theorem aQz {w:World} {a:Addr} {v:Value} (h:w.cell? a=some v):a.block < w.heap.size:=by
 unfold World.cell? at h
 split at h
 ·rename_i hh
  exact (Array.getElem?_eq_some_iff.1 hh).1
 ·exact absurd h (by simp)
theorem aHJ {w w':World} {a:Addr} (h:w'.heap[a.block]?=w.heap[a.block]?):w'.cell? a=w.cell? a:=by
 unfold World.cell?
 rw [h]
theorem PRep.mono {I I':Nat→Prop} {w w':World} {v:Value} {a:AV} (h:PRep I w v a)
  (hc:∀ (ad:Addr) (x:Value),I ad.block→w.cell? ad=some x→I' ad.block∧w'.cell? ad=some x):PRep I' w' v a:=by
 induction h with
 | bool b=>exact .bool b
 | int k n=>exact .int k n
 | str s=>exact .str s
 | nilP=>exact .nilP
 | nilS=>exact .nilS
 | nilM=>exact .nilM
 | nilF=>exact .nilF
 | nilI=>exact .nilI
 | junk v=>exact .junk v
 | vptr b base o cells f h1 h2 ih=>exact .vptr b base o cells f (fun j c hj=>hc _ _ (h1 j c hj).1 (h1 j c hj).2) ih
 | vsl0 ex=>exact .vsl0 ex
 | vslE a ex=>exact .vslE a ex
 | vsl b base sz cap ex l f h1 h2 h3 h4 h5 ih=>exact .vsl b base sz cap ex l f h1 h2 h3 (fun e c j x he hj=>hc _ _ (h4 e c j x he hj).1 (h4 e c j x he hj).2) ih
 | fn g v1 v2 l1 l2 h1 h2 r1 r2 i1 i2=>exact .fn g v1 v2 l1 l2 h1 h2 i1 i2
 | iface t v x h ih=>exact .iface t v x ih
 | agg vs l hs hr ih=>exact .agg vs l hs ih
 | tup vs l hs hr ih=>exact .tup vs l hs ih
theorem Rep.evo {B:Nat→Prop} {S S':List Ent} {w w':World} {v:Value} {a:AV} (h:Rep B S w v a) (ev:Evo S w S' w'):Rep B S' w' v a:=by
 induction h with
 | pure v a h =>
  refine .pure v a (h.mono fun ad x hI hx => ?_)
  obtain ⟨h1,h2⟩:=ev.keep ad.block (aQz hx) hI.1
  exact ⟨⟨h2,hI.2⟩,(aHJ h1).trans hx⟩
 | ptr i e o t ht =>
  obtain ⟨t',h1,h2,h3,h4⟩:=ev.ids i t ht
  by_cases e1:t'.v=t.v
  ·have:=h3 e1;subst this;exact .ptr i e o t' h1
  ·exact .ptrOld _ _ i _ e o t' h1 (by omega)
 | ptrOld b p i v e o t ht hv =>
  obtain ⟨t',h1,h2,h3,h4⟩:=ev.ids i t ht
  exact .ptrOld _ _ i _ e o t' h1 (by omega)
 | hsl i o len cap c a t ht hl hK hc hn ha hsp =>
  obtain ⟨t',h1,h2,h3,h4⟩:=ev.ids i t ht
  by_cases e1:t'.v=t.v
  ·have:=h3 e1;subst this;exact .hsl i o len cap c a t' h1 hl hK hc hn ha hsp
  ·exact .hslOld _ i _ o len cap c t' h1 (by omega)
 | hslOld val i v o n cap c t ht hv =>
  obtain ⟨t',h1,h2,h3,h4⟩:=ev.ids i t ht
  exact .hslOld _ i _ o n cap c t' h1 (by omega)
 | map i t ht hz =>
  obtain ⟨t',h1,h2,h3,h4⟩:=ev.ids i t ht
  have:=h4 hz;subst this;exact .map i t' h1 hz
 | yield i t ht hz =>
  obtain ⟨t',h1,h2,h3,h4⟩:=ev.ids i t ht
  have:=h4 hz;subst this;exact .yield i t' h1 hz
 | fn g v1 v2 l1 l2 h1 h2 r1 r2 i1 i2=>exact .fn g v1 v2 l1 l2 h1 h2 i1 i2
 | iface t v x h ih=>exact .iface t v x ih
 | agg vs l hs hr ih=>exact .agg vs l hs ih
 | tup vs l hs hr ih=>exact .tup vs l hs ih
end Go.Proofs.Yteenffomgdfocaa.Ai
