/- Rows of bytes; the checksum. -/
import Derived.Test.YtgeedikghjcebaamXB
import Derived.Test.YtgeedikghjcebaamXA
import Derived.Laws.BitsLemmas
namespace Go.Proofs.Ytgeedikghjcebaa.Ai
open Go Go.Proofs
open AV renaming junk → J
open List renaming length_nil → Q0, getD_cons_zero → Q1, getD_cons_succ → Q2, drop_zero → Q3, set_cons_zero → Q4, set_cons_succ → Q5, take_of_length_le → Q6, length_cons → Q9
open Option renaming map_some → Q7, getD_some → Q8
set_option linter.unusedVariables false
set_option linter.unusedSimpArgs false
set_option maxRecDepth 10000
set_option maxHeartbeats 4000000
def eB (b:UInt8):List AV:=[.int .u8 b.toNat]
def eBs (l:List UInt8):List (List AV):=l.map eB
theorem aBs (l:List UInt8):(eBs l).length=l.length:=by simp [eBs]
theorem aML (a b:List UInt8):eBs (a++b)=eBs a++eBs b:=by simp [eBs]
theorem aQh (l:List UInt8):(eBs l).all (fun c=>c.length==1 && c.all aAo)=true:=by
 induction l with
 | nil=>rfl
 | cons a z ih=>simp [eBs,eB,aAo]
theorem aE6 (h:aA0) (b:UInt8):aAd h 1 false (.vptr (eB b) 0)=some (.int .u8 b.toNat):=rfl
theorem aJY:∀ l:List UInt8,aGc (eBs l)=some l
 | []=>rfl
 | b::l=>by
  have:eBs (b::l)=[.int .u8 b.toNat]::eBs l:=rfl
  rw [this]
  simp only [aGc,aJY l,Q7]
  simp
def LiB (l:List UInt8) (v:AV):Prop:=(l=[]∧v=.nilS)∨∃ e,v=.vsl e (eBs l)
theorem LiB.len {l:List UInt8} {v:AV} (hl:LiB l v) (h:aA0):aC3 h .slice v=some (.int .i64 l.length):=by
 rcases hl with ⟨rfl,rfl⟩ | ⟨e,rfl⟩
 ·rfl
 ·simp [aC3,aBs]
theorem LiB.ix {l:List UInt8} {v:AV} (hl:LiB l v) (h:aA0) (k:IntKind) (j:Nat) (hj:j < l.length):aAG h 1 v (.int k j)=some (.vptr (eB l[j]) 0):=by
 rcases hl with ⟨rfl,rfl⟩ | ⟨e,rfl⟩
 ·simp at hj
 ·exact aRK eB h 1 e l k j hj rfl
theorem LiB.fz {l:List UInt8} {v:AV} (hl:LiB l v) (h:aA0) (d:Nat):freeze h (d+1) v=some (v,true):=by
 rcases hl with ⟨rfl,rfl⟩ | ⟨e,rfl⟩ <;> rfl
theorem LiB.cell {l:List UInt8} {v:AV} (hl:LiB l v):cellsOf v=[v]∧aAo v=true:=by
 rcases hl with ⟨rfl,rfl⟩ | ⟨e,rfl⟩ <;> exact ⟨rfl,rfl⟩
theorem LiB.elems {l:List UInt8} {v:AV} (hl:LiB l v) (h:aA0):aAE h 1 v=some (eBs l):=by
 rcases hl with ⟨rfl,rfl⟩ | ⟨e,rfl⟩
 ·rfl
 ·cases l with
  | nil=>rfl
  | cons a r=>simp [aAE,eBs,eB]
theorem LiB.str {l:List UInt8} {v:AV} (hl:LiB l v) (h:aA0):aC2 h v=some (.str l):=by
 have:=hl.elems h
 rcases hl with ⟨rfl,rfl⟩ | ⟨e,rfl⟩
 ·rfl
 ·simp only [aC2,this,Option.bind_some,aJY,Q7]
theorem aQ6:LiB [] .nilS:=.inl ⟨rfl,rfl⟩
theorem aDj (e:Bool) (l:List UInt8):LiB l (.vsl e (eBs l)):=.inr ⟨e,rfl⟩
theorem aI6 (l:List UInt8):aKy 1 (eBs l)=true:=by cases l <;> rfl
theorem aOR (l:List UInt8) (n:Nat):(eBs l).drop n=eBs (l.drop n):=by simp [eBs,List.map_drop]
theorem aLV (l:List UInt8) (n:Nat):(eBs l).take n=eBs (l.take n):=by simp [eBs,List.map_take]
theorem LiB.from {l:List UInt8} {v:AV} (hl:LiB l v) (h:aA0) (k:IntKind) (n:Nat) (hn:n≤l.length):∃ w,aBt h 1 v (some (.int k n)) none none=some w∧LiB (l.drop n) w:=by
 rcases hl with ⟨rfl,rfl⟩ | ⟨e,rfl⟩
 ·simp only [Q0,Nat.le_zero] at hn
  subst hn
  exact ⟨.nilS,rfl,.inl ⟨rfl,rfl⟩⟩
 ·refine ⟨.vsl (aG8 e (eBs l).length (eBs l).length none) (eBs (l.drop n)),?_,aDj _ _⟩
  have hb:aCu (eBs l).length (eBs l).length (some (.int k n)) none none=some (n,(eBs l).length,none):=by
   simp only [aCu,aEf,Q8,Option.getD_none]
   rw [if_pos (by rw [aBs];omega)]
   simp
  simp only [aBt,hb,List.take_length,aOR,aI6,if_true]
theorem LiB.upto {l:List UInt8} {v:AV} (hl:LiB l v) (h:aA0) (k:IntKind) (n:Nat) (hn:n≤l.length):∃ w,aBt h 1 v none (some (.int k n)) none=some w∧LiB (l.take n) w:=by
 rcases hl with ⟨rfl,rfl⟩ | ⟨e,rfl⟩
 ·simp only [Q0,Nat.le_zero] at hn
  subst hn
  exact ⟨.nilS,rfl,.inl ⟨rfl,rfl⟩⟩
 ·refine ⟨.vsl (aG8 e (eBs l).length n none) (eBs (l.take n)),?_,aDj _ _⟩
  have hb:aCu (eBs l).length (eBs l).length none (some (.int k n)) none=some (0,n,none):=by
   simp only [aCu,aEf,Q8,Option.getD_none]
   rw [if_pos (by rw [aBs];omega)]
   simp
  simp only [aBt,hb,Q3,aLV,aI6,if_true]
theorem LiB.upto3 {l:List UInt8} {v:AV} (hl:LiB l v) (h:aA0) (k k':IntKind) (n:Nat) (hn:n≤l.length):∃ w,aBt h 1 v none (some (.int k n)) (some (.int k' n))=some w∧LiB (l.take n) w:=by
 rcases hl with ⟨rfl,rfl⟩ | ⟨e,rfl⟩
 ·simp only [Q0,Nat.le_zero] at hn
  subst hn
  exact ⟨.nilS,rfl,.inl ⟨rfl,rfl⟩⟩
 ·refine ⟨.vsl (aG8 e (eBs l).length n (some n)) (eBs (l.take n)),?_,aDj _ _⟩
  have hb:aCu (eBs l).length (eBs l).length none (some (.int k n)) (some (.int k' n))=some (0,n,some n):=by
   simp only [aCu,aEf,Q8,Option.getD_none]
   rw [if_pos (by rw [aBs];omega)]
   simp [aBs,hn]
  simp only [aBt,hb,Q3,aLV,aI6,if_true]
theorem LiB.mid {l:List UInt8} {v:AV} (hl:LiB l v) (h:aA0) (k k':IntKind) (m n:Nat) (hm:m≤n) (hn:n≤l.length):∃ w,aBt h 1 v (some (.int k m)) (some (.int k' n)) none=some w∧LiB ((l.take n).drop m) w:=by
 rcases hl with ⟨rfl,rfl⟩ | ⟨e,rfl⟩
 ·simp only [Q0,Nat.le_zero] at hn
  subst hn
  have:m=0:=by omega
  subst this
  exact ⟨.nilS,rfl,.inl ⟨rfl,rfl⟩⟩
 ·refine ⟨.vsl (aG8 e (eBs l).length n none) (eBs ((l.take n).drop m)),?_,aDj _ _⟩
  have hb:aCu (eBs l).length (eBs l).length (some (.int k m)) (some (.int k' n)) none=some (m,n,none):=by
   simp only [aCu,aEf,Q8]
   rw [if_pos (by rw [aBs];omega)]
   simp
  simp only [aBt,hb,aLV,aOR,aI6,if_true]
def aCy (l:List UInt8) (v:AV) (h:aA0) (i:Nat):Prop:=l≠[]∧∃ ver x,v=.hsl i ver 0 l.length none∧h[i]?=some (.arr ver 1 x (eBs l))
theorem aCy.frame {l:List UInt8} {v:AV} {h h':aA0} {i:Nat} (ho:aCy l v h i) (hf:∀ o,h[i]?=some o→h'[i]?=some o):aCy l v h' i:=by
 obtain ⟨h1,ver,x,h2,h3⟩:=ho
 exact ⟨h1,ver,x,h2,hf _ h3⟩
theorem aCy.len {l:List UInt8} {v:AV} {h:aA0} {i:Nat} (ho:aCy l v h i) (h':aA0):aC3 h' .slice v=some (.int .i64 l.length):=by
 obtain ⟨h1,ver,x,rfl,h3⟩:=ho
 rfl
theorem aCy.cell {l:List UInt8} {v:AV} {h:aA0} {i:Nat} (ho:aCy l v h i):cellsOf v=[v]∧aAo v=true:=by
 obtain ⟨h1,ver,x,rfl,h3⟩:=ho
 exact ⟨rfl,rfl⟩
theorem aCy.lt {l:List UInt8} {v:AV} {h:aA0} {i:Nat} (ho:aCy l v h i):i < h.length:=by
 obtain ⟨h1,ver,x,rfl,h3⟩:=ho
 exact aBz h3
theorem aCy.add {l m:List UInt8} {v w:AV} {h:aA0} {i:Nat} (ho:aCy l v h i) (hel:aAE h 1 w=some (eBs m)) (hm:m≠[]) (bytes:Nat) (hb:bytes≤10) (hl:l.length+m.length≤100000000) :
  ∃ v' h',aEk h 1 bytes v w=some (v',h')∧aCy (l++m) v' h' i∧(∀ j o,j≠i→h[j]?=some o→h'[j]?=some o)∧h'.length=h.length:=by
 obtain ⟨h1,ver,x,rfl,h3⟩:=ho
 unfold aEk
 rw [hel]
 have hmz:¬ (eBs m).length=0:=by rw [aBs];intro e;exact hm (List.length_eq_zero_iff.1 e)
 have hmp:0 < m.length:=List.length_pos_iff.2 hm
 simp only [Option.elim_some,aDH]
 rw [if_neg hmz]
 have hne:¬ (0+l.length+(eBs m).length≤(eBs l).length∧aJt (l.length+(eBs m).length) none=true):=by
  rw [aBs,aBs];omega
 have hc2:True∧0+l.length≤(eBs l).length:=⟨trivial,by rw [aBs];omega⟩
 have htk:(List.drop 0 (eBs l)).take l.length=eBs l:=by rw [Q3];exact Q6 (by rw [aBs];omega)
 have hcd:(eBs l++eBs m).length*(bytes+1)≤68719476736∧(eBs l++eBs m).all (fun c=>c.length==1 && c.all aAo)=true:=by
  refine ⟨?_,by rw [← aML];exact aQh _⟩
  rw [List.length_append,aBs,aBs]
  have:(l.length+m.length)*(bytes+1)≤100000000*11:=Nat.mul_le_mul hl (by omega)
  omega
 refine ⟨.hsl i (ver+1) 0 (eBs l++eBs m).length none,h.set i (.arr (ver+1) 1 false (eBs l++eBs m)),?_,⟨by simp [h1],ver+1,false,by simp [aBs],by rw [aML];exact aAh h3⟩,fun j o hj e=>aAk e (Ne.symm hj),by simp⟩
 simp only [aDM,aAj,h3,if_true]
 rw [if_pos hc2,if_neg hne]
 simp only [htk]
 rw [if_pos hcd]
theorem aKA (h:aA0) (d:Nat):∀ l:List UInt8,aAq (aAq (freeze h (d+1))) (eBs l)=some (l.map fun y=>[(.int .u8 y.toNat,true)])
 | []=>rfl
 | y::ys=>by
  have:=aKA h d ys
  simp only [eBs,List.map_cons,aAq,eB,freeze] at this ⊢
  rw [this]
theorem aCy.fz {l:List UInt8} {v:AV} {h:aA0} {i:Nat} (ho:aCy l v h i) (d:Nat):freeze h (d+2) v=some (.vsl false (eBs l),false):=by
 obtain ⟨h1,ver,x,rfl,h3⟩:=ho
 have htk:(List.drop 0 (eBs l)).take l.length=eBs l:=by rw [Q3];exact Q6 (by rw [aBs];omega)
 have hl:0+l.length≤(eBs l).length:=by rw [aBs];omega
 have hg:aAj h i ver=some (1,x,eBs l):=by simp only [aAj,h3,if_true]
 have hm:aAq (aAq (freeze h (d+1))) (((eBs l).drop 0).take l.length)=some (l.map fun y=>[(.int .u8 y.toNat,true)]):=by rw [htk];exact aKA h d l
 have:=aMF (d:=d+1) (c:=none) hg hl hm
 rw [this]
 congr 2
 simp [eBs,eB,Function.comp_def]
theorem aCy.elems {l:List UInt8} {v:AV} {h:aA0} {i:Nat} (ho:aCy l v h i):aAE h 1 v=some (eBs l):=by
 obtain ⟨h1,ver,x,rfl,h3⟩:=ho
 have htk:(List.drop 0 (eBs l)).take l.length=eBs l:=by rw [Q3];exact Q6 (by rw [aBs];omega)
 have hc:1=1∧0+l.length≤(eBs l).length:=⟨rfl,by rw [aBs];omega⟩
 simp only [aAE,aAj,h3,if_true]
 rw [if_pos (by rw [aBs];simp),htk]
theorem aCy.str {l:List UInt8} {v:AV} {h:aA0} {i:Nat} (ho:aCy l v h i):aC2 h v=some (.str l):=by
 have:=ho.elems
 obtain ⟨h1,ver,x,rfl,h3⟩:=ho
 simp only [aC2,this,Option.bind_some,aJY,Q7]
theorem aCy.clean {l:List UInt8} {v:AV} {h:aA0} {i:Nat} (ho:aCy l v h i) (d:Nat):aB5 h (d+2) v=true:=by
 obtain ⟨h1,ver,x,rfl,h3⟩:=ho
 have hc:∀ l:List UInt8,(eBs l).all (fun c=>c.all (aB5 h (d+1)))=true:=fun l=>by
  rw [List.all_eq_true]
  intro c hc
  obtain ⟨b,_,rfl⟩:=List.mem_map.1 hc
  rfl
 have hg:aAj h i ver=some (1,x,eBs l):=by simp only [aAj,h3,if_true]
 have e:=hc l
 have e2:∀ n,aB5 h (d+2) (.hsl i ver 0 n none)=(((eBs l).drop 0).take n).all fun c=>c.all (aB5 h (d+1)):=fun n=>by
  conv=>lhs;unfold aB5
  simp only [hg]
 rw [e2,Q3,Q6 (by rw [aBs];omega)]
 exact e
theorem aV5 {h:aA0} {a b x y:AV} {c d:Bool} {k:Nat} (h1:freeze h k a=some (x,c)) (h2:freeze h k b=some (y,d)):freeze h (k+1) (.tup [a,b])=some (.tup [x,y],c && (d && true)):=by
 have:freeze h (k+1) (.tup [a,b])=(aAq (freeze h k) [a,b]).map fun l=>(.tup (l.map (·.1)),l.all (·.2)):=rfl
 rw [this]
 simp only [aAq,h1,h2];rfl
theorem cvI (k k':IntKind) (n:Int):aFI k (.int k' n)=some (.int k (k.wrap n)):=rfl
def aIv (s:Int) (b:UInt8):Int:=IntKind.u32.wrap (IntKind.u32.wrap (IntKind.u32.wrap (31*s)+IntKind.u32.wrap b.toNat)+1)
def aOl (l:List UInt8):Int:=l.foldl aIv 1
theorem aTJ (s:Int) (b:UInt8):aIv s b=(31*s+b.toNat+1) % 4294967296:=by
 unfold aIv
 simp only [IntKind.wrap_u32]
 omega
theorem aSu (s:Int) (b:UInt8):0≤aIv s b∧aIv s b < 4294967296:=by rw [aTJ];omega
theorem aOF:∀ (l:List UInt8) (s:Int),0≤s∧s < 4294967296→0≤l.foldl aIv s∧l.foldl aIv s < 4294967296
 | [],_,h=>h
 | b::l,s,_=>by rw [List.foldl_cons];exact aOF l _ (aSu s b)
def aFM (l:List UInt8):Nat:=(aOl l).toNat
theorem aPY (l:List UInt8):aOl l=(aFM l:Int):=by
 have:=aOF l 1 (by omega)
 unfold aFM aOl
 omega
theorem aNN {l:List UInt8} {v:AV} (hl:LiB l v) (hn:l.length≤10000000):∃ h',aAV (lim G0.cfg) (l.length+1) aE1 [v] []=some (.int .u32 (aFM l:Int),h'):=by
 have nl:=hl.len
 have lp:∀ (d i m:Nat) (s:Int) (h:aA0),l.length=i+d→d < m→aAp (aA7 (lim G0.cfg) (l.length+1) aDv) m ⟨[J,J,J,.int .u32 s,J,J,v,.int .i64 l.length,.int .i64 i,J,J,J,J,J,J,J,J,J,J,J],h⟩=some (.exit 0,⟨[J,J,J,.int .u32 ((l.drop i).foldl aIv s),J,J,J,J,J,J,J,J,J,J,J,J,J,J,J,J],h⟩):=by
  intro d
  induction d with
  | zero =>
   intro i m s h h1 h2
   obtain ⟨m,rfl⟩:∃ q,m=q+1:=⟨m - 1,by omega⟩
   have h3:¬ ((i:Int) < l.length):=by omega
   rw [List.drop_of_length_le (by omega:l.length≤i)]
   simp only [aAc,aHi,Zaf,Zag,Zah,Zak,Zal,Zan,Zao,Zap,Zaw,Zaz,Zbc,Zbm,Zbu,Zcz,Zdb,Zdf,Zdg,Zdh,Q4,Q5,Q1,Q2,Zdl,decide_false,eq_self,h3,List.foldl_nil]
  | succ d ih =>
   intro i m s h h1 h2
   obtain ⟨m,rfl⟩:∃ q,m=q+1:=⟨m - 1,by omega⟩
   have h3:i < l.length:=by omega
   have h3':(i:Int) < l.length:=by omega
   have hw:=aB6 (n:=i) (by omega)
   have ix:=hl.ix h .i64 i h3
   rw [List.drop_eq_getElem_cons h3,List.foldl_cons,← ih (i+1) m _ h (by omega) (by omega)]
   simp only [aAc,aHi,Zae,Zaf,Zag,Zah,Zai,Zak,Zan,Zao,Zar,Zav,Zay,Zbc,Zbm,Zbo,Zbs,Zbu,Zbw,Zcf,Zcz,Zda,Zdb,Zdf,Zdg,Zdh,Q4,Q5,Q1,Q2,Zdi,Zdk,Zdl,decide_true,eq_self,h3',ix,aE6,cvI,hw,aIv]
 have e:=lp l.length 0 (l.length+1) 1 [] (by omega) (by omega)
 rw [z0,Q3] at e
 rw [aMT]
 rw [← aPY]
 simp only [Zaf,Zag,Zai,Zaj,Zak,Zam,Zan,Zao,Zat,Zax,Zbc,Zbm,Zbo,Zck,Zcy,Zcz,Zda,Zdb,Zdf,Zdg,Zdh,Q4,Q5,Q1,Q2,Q7,Q9,Q0,Nat.reduceAdd,Nat.reduceSub,eq_self,true_and,Q9,Q0,List.replicate_succ,List.replicate_zero,List.cons_append,List.nil_append,nl,e,aA5,aA4,aA8,Option.some.injEq,Prod.mk.injEq,true_and,exists_eq',aOl]
theorem aTu {l:List UInt8} {v:AV} (hl:LiB l v) (hn:l.length≤10000000) (H:aA0):lim G0.cfg (.func 14) [v] H=some (.int .u32 (aFM l:Int),H) :=
 aAF rfl rfl aJb (l.length+1) (fun h=>aDa (hl.fz h 999)) (aNN hl hn) (fun _=>rfl) H
theorem aVb {l:List UInt8} {v:AV} {H:aA0} {i:Nat} (ho:aCy l v H i) (hn:l.length≤10000000):lim G0.cfg (.func 14) [v] H=some (.int .u32 (aFM l:Int),H):=by
 obtain ⟨h',r⟩:=aNN (aDj false l) hn
 exact aFY rfl rfl aJb (l.length+1) (aDJ (ho.fz 998)) r rfl rfl
theorem aRu {l:List UInt8} {v:AV} (hl:LiB l v) (hn:l.length≤10000000):∃ h',aAV (lim G0.cfg) (l.length+1) aHj [v] []=some (.int .u32 (aFM l:Int),h'):=by
 have nl:=hl.len
 have lp:∀ (d i m:Nat) (s:Int) (h:aA0),l.length=i+d→d < m→aAp (aA7 (lim G0.cfg) (l.length+1) aFA) m ⟨[v,J,J,.int .u32 s,.int .i64 i,J,J,J,J,J,J,J,J,J,J,J,J,J,J,J,J],h⟩=some (.exit 0,⟨[J,J,J,.int .u32 ((l.drop i).foldl aIv s),J,J,J,J,J,J,J,J,J,J,J,J,J,J,J,J,J],h⟩):=by
  intro d
  induction d with
  | zero =>
   intro i m s h h1 h2
   obtain ⟨m,rfl⟩:∃ q,m=q+1:=⟨m - 1,by omega⟩
   have h3:¬ ((i:Int) < l.length):=by omega
   rw [List.drop_of_length_le (by omega:l.length≤i)]
   simp only [aAc,aKS,Zaf,Zag,Zah,Zak,Zal,Zan,Zao,Zap,Zaw,Zaz,Zbc,Zbm,Zbo,Zbu,Zck,Zcz,Zdb,Zdf,Zdg,Zdh,Q4,Q5,Q1,Q2,Zdl,decide_false,eq_self,nl,h3,List.foldl_nil]
  | succ d ih =>
   intro i m s h h1 h2
   obtain ⟨m,rfl⟩:∃ q,m=q+1:=⟨m - 1,by omega⟩
   have h3:i < l.length:=by omega
   have h3':(i:Int) < l.length:=by omega
   have hw:=aB6 (n:=i) (by omega)
   have ix:=hl.ix h .i64 i h3
   rw [List.drop_eq_getElem_cons h3,List.foldl_cons,← ih (i+1) m _ h (by omega) (by omega)]
   simp only [aAc,aKS,Zae,Zaf,Zag,Zah,Zai,Zak,Zan,Zao,Zar,Zav,Zay,Zbc,Zbm,Zbo,Zbs,Zbu,Zbw,Zcf,Zck,Zcz,Zda,Zdb,Zdf,Zdg,Zdh,Q4,Q5,Q1,Q2,Zdi,Zdk,Zdl,decide_true,eq_self,nl,h3',ix,aE6,cvI,hw,aIv]
 have e:=lp l.length 0 (l.length+1) 1 [] (by omega) (by omega)
 rw [z0,Q3] at e
 rw [aSh]
 rw [← aPY]
 simp only [Zaf,Zag,Zai,Zaj,Zak,Zam,Zan,Zao,Zat,Zax,Zbm,Zbo,Zcy,Zcz,Zda,Zdb,Zdf,Zdg,Zdh,Q4,Q5,Q1,Q2,Q7,Q9,Q0,Nat.reduceAdd,Nat.reduceSub,eq_self,true_and,Q9,Q0,List.replicate_succ,List.replicate_zero,List.cons_append,List.nil_append,e,aA5,aA4,aA8,Option.some.injEq,Prod.mk.injEq,true_and,exists_eq',aOl]
theorem aUT {l:List UInt8} {v:AV} {H:aA0} {i:Nat} (ho:aCy l v H i) (hn:l.length≤10000000):lim G0.cfg (.func 15) [v] H=some (.int .u32 (aFM l:Int),H):=by
 obtain ⟨h',r⟩:=aRu (aDj false l) hn
 exact aFY rfl rfl aSl (l.length+1) (aDJ (ho.fz 998)) r rfl rfl
end Go.Proofs.Ytgeedikghjcebaa.Ai
namespace Go.Proofs.Ytgeedikghjcebaa.Ai
open Go Go.Proofs
set_option linter.unusedVariables false
set_option linter.unusedSimpArgs false
set_option maxRecDepth 10000
set_option maxHeartbeats 4000000
def enc:Nat→Nat→List UInt8
 | 0,n=>[UInt8.ofNat n]
 | k+1,n=>if 127 < n then UInt8.ofNat (n % 128+128)::enc k (n / 128) else [UInt8.ofNat n]
theorem aLa (k:IntKind) (n:Nat):aFI .u8 (.int k n)=some (.int .u8 ((UInt8.ofNat n).toNat)):=by
 simp only [aFI,IntKind.wrap_u8,UInt8.toNat_ofNat']
 congr 2
theorem aVU (q:EqK) (n:Nat):aBc .rem q (.int .i64 n) (.int .i64 128)=some (.int .i64 ((n % 128:Nat):Int)):=by
 have e:(n:Int).tmod 128=((n % 128:Nat):Int):=by rw [Int.tmod_eq_emod_of_nonneg (by omega)];omega
 simp [aBc,aF6,e]
theorem aQX (q:EqK) (k k':IntKind) (n j:Nat) (hj:j≤k.bits):aBc .shr q (.int k n) (.int k' j)=some (.int k ((n / 2 ^ j:Nat):Int)):=by
 have h0:¬ ((j:Int) < 0):=by omega
 have e:(n:Int).fdiv (2 ^ min j k.bits)=((n / 2 ^ j:Nat):Int):=by
  rw [Nat.min_eq_left hj,Int.fdiv_eq_ediv_of_nonneg _ (by exact Int.pow_nonneg (by decide))]
  norm_cast
 simp only [aBc,aIE,or_true,if_true,h0,if_false,Int.toNat_natCast,e]
section
variable {N : Nat} {i : Nat}
end
end Go.Proofs.Ytgeedikghjcebaa.Ai
namespace Go.Proofs.Ytgeedikghjcebaa.Ai
open Go Go.Proofs
open AV renaming junk → J
open List renaming getD_cons_zero → Q0, getD_cons_succ → Q1, set_cons_zero → Q2, set_cons_succ → Q3, length_cons → Q6, length_nil → Q7
open Option renaming map_some → Q4, map_none → Q5
set_option linter.unusedVariables false
set_option linter.unusedSimpArgs false
set_option maxRecDepth 10000
set_option maxHeartbeats 4000000
theorem aJs {C:Cfg} {g:Nat} (hp:C.pu g=true) {a:List AV} {l:List (AV × Bool)} {H:aA0} (ha:aAq (freeze H 1000) a=some l) (hl:aAq (freeze [] 1000) (l.map (·.1))=some ((l.map (·.1)).map fun x=>(x,true))) {y:AV} (hy:lim C (.func g) (l.map (·.1)) []=some (y,[])) (hf:aG0 y=true):lim C (.func g) a H=some (y,H):=by
 obtain ⟨k,hk⟩:=aIq.1 hy
 cases k with
 | zero=>cases hk
 | succ k =>
  refine aIq.2 ⟨k+1,?_⟩
  simp only [aBZ,hp,if_true] at hk ⊢
  unfold aC9 at hk ⊢
  have e:(List.map (fun x=>x.1) ((l.map (·.1)).map fun x:AV=>(x,true)))=l.map (·.1):=by simp [Function.comp_def]
  rw [hl] at hk
  rw [ha]
  simp only [e] at hk ⊢
  cases c:aEc C (aBZ C k) k g (l.map (·.1)) with
  | none=>rw [c] at hk;cases hk
  | some v =>
   rw [c] at hk
   simp only at hk ⊢
   generalize (_ || aG0 v || _)=b at hk
   cases b with
   | false=>cases hk
   | true =>
    simp only [cond_true,Option.some.injEq,Prod.mk.injEq,and_true] at hk
    subst hk
    simp [hf]
def rdG:Nat→Nat→List UInt8→Option (Nat × Bool × List UInt8)
 | _,_,[]=>none
 | i,n,c::l =>
  if 4 < i∨(i=4∧7 < c.toNat) then none else
  if c.toNat < 128 then some (n+c.toNat % 128*128 ^ i,decide (c.toNat=0) && decide (0 < i),l) else rdG (i+1) (n+c.toNat % 128*128 ^ i) l
def aAH (s:List UInt8 × Bool):Nat × (List UInt8 × Bool) :=
 match rdG 0 0 s.1 with
 | some (x,z,r)=>(x,(r,s.2 || z))
 | none=>(0,([],true))
def aDf:Nat→List UInt8 × Bool→List Int × (List UInt8 × Bool)
 | 0,s=>([],s)
 | k+1,s=>(((aAH s).1:Int)::(aDf k (aAH s).2).1,(aDf k (aAH s).2).2)
def aE5 (s:List UInt8 × Bool):List Int × (List UInt8 × Bool):=aDf (min (aAH s).1 ((aAH s).2.1.length+1)) (aAH s).2
theorem aOq:∀ (l:List UInt8) (i n:Nat) {x:Nat} {z:Bool} {r:List UInt8},n < 128 ^ i→i≤4→rdG i n l=some (x,z,r)→x < 2147483648∧r.length < l.length
 | [],_,_,_,_,_,_,_,h=>by cases h
 | c::l,i,n,x,z,r,hn,hi,h=>by
  unfold rdG at h
  have hc:c.toNat < 256:=UInt8.toNat_lt c
  by_cases c1:4 < i∨(i=4∧7 < c.toNat)
  ·rw [if_pos c1] at h;cases h
  ·rw [if_neg c1] at h
   have hm:n+c.toNat % 128*128 ^ i < 128 ^ (i+1):=by
    have:c.toNat % 128*128 ^ i≤127*128 ^ i:=Nat.mul_le_mul_right _ (by omega)
    rw [Nat.pow_succ];omega
   by_cases c2:c.toNat < 128
   ·rw [if_pos c2] at h
    cases h
    refine ⟨?_,by simp⟩
    rcases i with _ | _ | _ | _ | _ | i
    ·simp at hm ⊢;omega
    ·simp at hm ⊢;omega
    ·simp at hm ⊢;omega
    ·simp at hm ⊢;omega
    ·simp at hn c1 ⊢;omega
    ·omega
   ·rw [if_neg c2] at h
    by_cases c3:i=4
    ·omega
    ·have:=aOq l (i+1) _ hm (by omega) h
     simp only [Q6]
     omega
theorem aFm (s:List UInt8 × Bool):(aAH s).1 < 2147483648∧(aAH s).2.1.length≤s.1.length:=by
 unfold aAH
 cases h:rdG 0 0 s.1 with
 | none=>simp
 | some q =>
  obtain ⟨x,z,r⟩:=q
  have:=aOq s.1 0 0 (by decide) (by omega) h
  simp only
  omega
theorem aVs (q:EqK) (c:UInt8):aBc .and q (.int .u8 c.toNat) (.int .u8 127)=some (.int .u8 ((c.toNat % 128:Nat):Int)):=by
 have h:=UInt8.toNat_lt c
 have e:aBc .and q (.int .u8 c.toNat) (.int .u8 127)=some (.int .u8 (IntKind.u8.wrap (BitVec.ofInt 8 (c.toNat:Int) &&& BitVec.ofInt 8 127).toNat)):=rfl
 rw [e]
 have e1:(BitVec.ofInt 8 (c.toNat:Int) &&& BitVec.ofInt 8 127).toNat=c.toNat % 128:=by
  have a:BitVec.ofInt 8 (c.toNat:Int)=BitVec.ofNat 8 c.toNat:=BitVec.ofInt_natCast ..
  have b:BitVec.ofInt 8 127=BitVec.ofNat 8 127:=rfl
  rw [a,b,BitVec.toNat_and,BitVec.toNat_ofNat,BitVec.toNat_ofNat]
  have e3:c.toNat % 2 ^ 8=c.toNat:=Nat.mod_eq_of_lt h
  rw [e3]
  exact Nat.and_two_pow_sub_one_eq_mod c.toNat 7
 rw [e1,IntKind.wrap_u8]
 congr 2
 omega
theorem aVV (q:EqK) (a i:Nat) (ha:a < 128) (hi:i≤4):aBc .shl q (.int .i64 a) (.int .i64 ((7*i:Nat):Int))=some (.int .i64 ((a*128 ^ i:Nat):Int)):=by
 have h0:¬ (((7*i:Nat):Int) < 0):=by omega
 have hm:min (7*i) IntKind.i64.bits=7*i:=Nat.min_eq_left (by simp [IntKind.bits];omega)
 have e:(2:Int) ^ (7*i)=((128 ^ i:Nat):Int):=by rw [Int.pow_mul];norm_cast
 have hp:128 ^ i≤268435456:=by
  have:128 ^ i≤128 ^ 4:=Nat.pow_le_pow_right (by decide) hi
  exact this
 have hb:a*128 ^ i≤127*268435456:=Nat.mul_le_mul (by omega) hp
 have w:IntKind.i64.wrap ((a:Int)*((128 ^ i:Nat):Int))=((a*128 ^ i:Nat):Int):=by
  have:(a:Int)*((128 ^ i:Nat):Int)=((a*128 ^ i:Nat):Int):=by norm_cast
  rw [this,w64 (by omega) (by omega)]
 have d:aBc .shl q (.int .i64 a) (.int .i64 ((7*i:Nat):Int))=aIE .shl .i64 a ((7*i:Nat):Int):=rfl
 rw [d]
 simp only [aIE,h0,if_false,Int.toNat_natCast,hm,e,w]
theorem orN (q:EqK) (n a i:Nat) (hn:n < 128 ^ i) (ha:a < 128) (hi:i≤4):aBc .or q (.int .i64 n) (.int .i64 ((a*128 ^ i:Nat):Int))=some (.int .i64 ((n+a*128 ^ i:Nat):Int)):=by
 have hp:128 ^ i≤268435456:=by
  have:128 ^ i≤128 ^ 4:=Nat.pow_le_pow_right (by decide) hi
  exact this
 have hb:a*128 ^ i≤127*268435456:=Nat.mul_le_mul (by omega) hp
 have e:aBc .or q (.int .i64 n) (.int .i64 ((a*128 ^ i:Nat):Int))=some (.int .i64 (IntKind.i64.wrap (BitVec.ofInt 64 (n:Int) ||| BitVec.ofInt 64 ((a*128 ^ i:Nat):Int)).toNat)):=rfl
 rw [e]
 have e1:(BitVec.ofInt 64 (n:Int) ||| BitVec.ofInt 64 ((a*128 ^ i:Nat):Int)).toNat=n+a*128 ^ i:=by
  rw [BitVec.ofInt_natCast,BitVec.ofInt_natCast,BitVec.toNat_or,BitVec.toNat_ofNat,BitVec.toNat_ofNat,Nat.mod_eq_of_lt (by omega),Nat.mod_eq_of_lt (by omega)]
  have e2:128 ^ i=2 ^ (7*i):=by rw [Nat.pow_mul]
  rw [e2] at hn ⊢
  have:=Nat.shiftLeft_add_eq_or_of_lt hn a
  rw [Nat.shiftLeft_eq] at this
  rw [Nat.or_comm,← this,Nat.add_comm]
 rw [e1,w64 (by omega) (by omega)]
def rdO (w:AV) (b:Bool):AObj:=.arr 0 2 true [[w,.bool b]]
section
variable {h : aA0} {r : Nat} {w : AV} {b : Bool}
theorem aOg (e:h[r]?=some (rdO w b)):aAd h 1 false (.ptr r 0 0 0)=some w:=by rw [aAS h 1 r 0 0 0 false 2 true _ _ e rfl];rfl
theorem aTr (e:h[r]?=some (rdO w b)):aAd h 1 false (.ptr r 0 0 1)=some (.bool b):=by rw [aAS h 1 r 0 0 1 false 2 true _ _ e rfl];rfl
theorem aTq (e:h[r]?=some (rdO w b)) {v:AV} (hc:cellsOf v=[v]∧aAo v=true):aAw h 1 (.ptr r 0 0 0) v=some (h.set r (rdO v b)):=by
 rw [aHm h 1 r 0 0 0 _ 2 true _ _ e rfl (by rw [hc.1];rfl) (by simp) (by rw [hc.1];simp [hc.2])]
 rw [hc.1];rfl
theorem aTp (e:h[r]?=some (rdO w b)) (b':Bool):aAw h 1 (.ptr r 0 0 1) (.bool b')=some (h.set r (rdO w b')):=by
 rw [aHm h 1 r 0 0 1 _ 2 true _ _ e rfl rfl (by simp) rfl];rfl
end
section
variable {r : Nat} {N : Nat}
theorem aTU {l:List UInt8} {w:AV} (hl:LiB l w) (hn:l.length≤1000000000) {bad:Bool} {h:aA0} (er:h[r]?=some (rdO w bad)) :
  ∀ (d i m n:Nat),l.length=i+d→d < m→i≤5→n < 128 ^ i →
  (∀ x z rest,rdG i n (l.drop i)=some (x,z,rest)→∃ w',LiB rest w'∧aAp (aA7 (lim G0.cfg) N aB0) m ⟨(.ptr r 0 0 0::J::J::.int .i64 n::J::J::J::J::J::w::.int .i64 l.length::.int .i64 i::J::J::J::J::J::J::J::J::J::J::J::J::J::J::J::J::J::J::J::J::J::J::J::J::J::J::J::J::J::J::J::J::J::J::J::J::J::J::J::J::J::J::J::J::J::J::J::J::J::J::J::J::J::J::J::J::J::[]),h⟩=some (.ret,⟨(J::J::.int .i64 x::J::J::J::J::J::J::J::J::J::J::J::J::J::J::J::J::J::J::J::J::J::J::J::J::J::J::J::J::J::J::J::J::J::J::J::J::J::J::J::J::J::J::J::J::J::J::J::J::J::J::J::J::J::J::J::J::J::J::J::J::J::J::J::J::J::J::[]),h.set r (rdO w' (bad || z))⟩)) ∧
  (rdG i n (l.drop i)=none→aAp (aA7 (lim G0.cfg) N aB0) m ⟨(.ptr r 0 0 0::J::J::.int .i64 n::J::J::J::J::J::w::.int .i64 l.length::.int .i64 i::J::J::J::J::J::J::J::J::J::J::J::J::J::J::J::J::J::J::J::J::J::J::J::J::J::J::J::J::J::J::J::J::J::J::J::J::J::J::J::J::J::J::J::J::J::J::J::J::J::J::J::J::J::J::J::J::J::[]),h⟩=some (.exit 0,⟨(.ptr r 0 0 0::J::J::J::J::J::J::J::J::J::J::J::J::J::J::J::J::J::J::J::J::J::J::J::J::J::J::J::J::J::J::J::J::J::J::J::J::J::J::J::J::J::J::J::J::J::J::J::J::J::J::J::J::J::J::J::J::J::J::J::J::J::J::J::J::J::J::J::J::[]),h⟩)):=by
 intro d
 induction d with
 | zero =>
  intro i m n h1 h2 hi hn
  obtain ⟨m,rfl⟩:∃ q,m=q+1:=⟨m - 1,by omega⟩
  have h3:¬ ((i:Int) < l.length):=by omega
  rw [List.drop_of_length_le (by omega:l.length≤i)]
  refine ⟨fun x z rest e=>(by cases e),fun _ => ?_⟩
  simp only [aAc,aAM,Zaf,Zag,Zah,Zak,Zal,Zan,Zao,Zap,Zaw,Zaz,Zbc,Zbm,Zbu,Zcz,Zdb,Zdf,Zdg,Zdh,Q2,Q3,Q0,Q1,Zdl,decide_false,eq_self,h3]
 | succ d ih =>
  intro i m n h1 h2 hi hn
  obtain ⟨m,rfl⟩:∃ q,m=q+1:=⟨m - 1,by omega⟩
  have h3:i < l.length:=by omega
  have h3':(i:Int) < l.length:=by omega
  have hw:=aB6 (n:=i) (by omega)
  have ix:=hl.ix h .i64 i h3
  have hc:l[i].toNat < 256:=UInt8.toNat_lt _
  obtain ⟨c,hcc⟩:∃ c,c=l[i]:=⟨_,rfl⟩
  rw [List.drop_eq_getElem_cons h3]
  rw [← hcc] at ix hc ⊢
  unfold rdG
  by_cases c1:4 < i
  case pos =>
   rw [if_pos (.inl c1)]
   have d1:(4:Int) < i:=by omega
   refine ⟨fun x z rest e=>(by cases e),fun _ => ?_⟩
   simp only [aAc,aAM,Zae,Zaf,Zag,Zah,Zai,Zak,Zal,Zan,Zao,Zap,Zau,Zav,Zaz,Zbc,Zbh,Zbj,Zbk,Zbm,Zbn,Zbo,Zbp,Zbs,Zbu,Zcf,Zcz,Zda,Zdb,Zdf,Zdg,Zdh,Q2,Q3,Q0,Q1,Nat.reduceBEq,Zdl,Zdn,decide_true,eq_self,h3',ix,aE6,d1]
  case neg =>
  have d1:¬ (4:Int) < i:=by omega
  by_cases c2:i=4∧7 < c.toNat
  case pos =>
   rw [if_pos (.inr c2)]
   have d2:decide ((i:Int)=4)=true:=decide_eq_true (by omega)
   have d3:(7:Int) < c.toNat:=by omega
   refine ⟨fun x z rest e=>(by cases e),fun _ => ?_⟩
   simp only [aAc,aAM,Zae,Zaf,Zag,Zah,Zai,Zak,Zal,Zan,Zao,Zap,Zau,Zav,Zaz,Zbc,Zbf,Zbg,Zbk,Zbl,Zbm,Zbn,Zbo,Zbp,Zbs,Zbu,Zcf,Zcz,Zda,Zdb,Zdf,Zdg,Zdh,Q2,Q3,Q0,Q1,Nat.reduceBEq,Zdl,Zdn,Zdp,decide_true,decide_false,eq_self,h3',ix,aE6,d1,d2,d3]
  case neg =>
  have cc:¬ (4 < i∨(i=4∧7 < c.toNat)):=fun h=>by rcases h with h | h;exact c1 h;exact c2 h
  rw [if_neg cc]
  have hi4:i≤4:=by omega
  have q1:=fun q=>aVs q c
  have q2:∀ a:Nat,aFI .i64 (.int .u8 ((c.toNat % 128:Nat):Int))=some (.int .i64 ((c.toNat % 128:Nat):Int)):=fun _=>by
   rw [cvI,w64 (by omega) (by omega)]
  have q3:IntKind.i64.wrap (7*(i:Int))=((7*i:Nat):Int):=by rw [w64 (by omega) (by omega)];omega
  have q4:=fun q=>aVV q (c.toNat % 128) i (by omega) hi4
  have q5:=fun q=>orN q n (c.toNat % 128) i hn (by omega) hi4
  obtain ⟨n',hn'⟩:∃ n',n'=n+c.toNat % 128*128 ^ i:=⟨_,rfl⟩
  have hb:n' < 128 ^ (i+1):=by
   have:c.toNat % 128*128 ^ i≤127*128 ^ i:=Nat.mul_le_mul_right _ (by omega)
   rw [hn',Nat.pow_succ];omega
  rw [← hn'] at q5 ⊢
  have q2:=q2 0
  by_cases c3:c.toNat < 128
  case pos =>
   rw [if_pos c3]
   have d3:(c.toNat:Int) < 128:=by omega
   refine ⟨fun x z rest e => ?_,fun e=>(by cases e)⟩
   simp only [Option.some.injEq,Prod.mk.injEq] at e
   obtain ⟨rfl,rfl,rfl⟩:=e
   have lb:=aTr er
   obtain ⟨z,hz⟩:∃ z,z=(decide (c.toNat=0) && decide (0 < i)):=⟨_,rfl⟩
   have s1:=aTp er (bad || z)
   have er2:(h.set r (rdO w (bad || z)))[r]?=some (rdO w (bad || z)):=aAh er
   have l0:=aOg er2
   obtain ⟨w',e1,lw⟩:=hl.from (h.set r (rdO w (bad || z))) .i64 (i+1) (by omega)
   have s2:=aTq er2 lw.cell
   rw [set_set] at s2
   refine ⟨w',lw,?_⟩
   rw [← hz]
   have e1':aBt (h.set r (rdO w (bad || z))) 1 w (some (.int .i64 ((i+1:Nat):Int))) none none=some w':=e1
   by_cases c4:i=4
   case pos =>
    have d2:decide ((i:Int)=4)=true:=decide_eq_true (by omega)
    have d5:¬ (7:Int) < c.toNat:=by omega
    cases bad with
    | true =>
     rw [Bool.true_or] at s1 s2 l0 e1' ⊢
     simp only [aAc,aAM,Zae,Zaf,Zag,Zah,Zai,Zak,Zam,Zan,Zao,Zaq,Zas,Zav,Zaw,Zba,Zbc,Zbe,Zbf,Zbg,Zbh,Zbj,Zbk,Zbl,Zbm,Zbn,Zbo,Zbp,Zbs,Zbt,Zbu,Zbw,Zca,Zcc,Zcd,Zcf,Zcz,Zda,Zdb,Zdc,Zdf,Zdg,Zdh,Q2,Q3,Q0,Q1,Q4,Zdi,Zdk,Zdl,Zdn,Zdp,Zeb,decide_true,decide_false,Nat.reduceAdd,eq_self,h3',ix,aE6,d1,d2,d5,q1,q2,q3,q4,q5,d3,aBD,lb,s1,l0,hw,Q5,e1',s2]
    | false =>
     rw [Bool.false_or] at s1 s2 l0 e1' ⊢
     have dz:decide ((c.toNat:Int)=0)=decide (c.toNat=0):=decide_eq_decide.2 (by omega)
     have dp:decide ((0:Int) < i)=true:=decide_eq_true (by omega)
     by_cases c5:c.toNat=0
     ·have d6:decide ((c.toNat:Int)=0)=true:=decide_eq_true (by omega)
      have ez:z=true:=by rw [hz];simp [c5];omega
      subst ez
      simp only [aAc,aAM,Zae,Zaf,Zag,Zah,Zai,Zak,Zam,Zan,Zao,Zaq,Zas,Zav,Zaw,Zba,Zbc,Zbe,Zbf,Zbg,Zbk,Zbl,Zbm,Zbn,Zbo,Zbp,Zbs,Zbt,Zbu,Zbw,Zca,Zcc,Zcd,Zcf,Zcz,Zda,Zdb,Zdc,Zdf,Zdg,Zdh,Q2,Q3,Q0,Q1,Q4,Zdi,Zdk,Zdl,Zdn,Zdp,Zeb,decide_true,decide_false,Nat.reduceAdd,eq_self,h3',ix,aE6,d1,d2,d5,q1,q2,q3,q4,q5,d3,aBD,lb,d6,dp,s1,l0,hw,Q5,e1',s2]
     ·have d6:decide ((c.toNat:Int)=0)=false:=decide_eq_false (by omega)
      have ez:z=false:=by rw [hz];simp [c5]
      subst ez
      simp only [aAc,aAM,Zae,Zaf,Zag,Zah,Zai,Zak,Zam,Zan,Zao,Zaq,Zas,Zav,Zaw,Zba,Zbc,Zbe,Zbf,Zbg,Zbi,Zbk,Zbl,Zbm,Zbn,Zbo,Zbp,Zbs,Zbt,Zbu,Zbw,Zca,Zcc,Zcd,Zcf,Zcz,Zda,Zdb,Zdc,Zdf,Zdg,Zdh,Q2,Q3,Q0,Q1,Q4,Zdi,Zdk,Zdl,Zdn,Zdp,Zeb,decide_true,decide_false,Nat.reduceAdd,eq_self,h3',ix,aE6,d1,d2,d5,q1,q2,q3,q4,q5,d3,aBD,lb,d6,s1,l0,hw,Q5,e1',s2]
   case neg =>
    have d2:decide ((i:Int)=4)=false:=decide_eq_false (by omega)
    cases bad with
    | true =>
     rw [Bool.true_or] at s1 s2 l0 e1' ⊢
     simp only [aAc,aAM,Zae,Zaf,Zag,Zah,Zai,Zak,Zam,Zan,Zao,Zaq,Zas,Zav,Zaw,Zba,Zbc,Zbe,Zbg,Zbh,Zbi,Zbj,Zbk,Zbl,Zbm,Zbn,Zbo,Zbp,Zbs,Zbt,Zbu,Zbw,Zca,Zcc,Zcd,Zcf,Zcz,Zda,Zdb,Zdc,Zdf,Zdg,Zdh,Q2,Q3,Q0,Q1,Q4,Zdi,Zdk,Zdl,Zdn,Zdp,Zeb,decide_true,decide_false,Nat.reduceAdd,eq_self,h3',ix,aE6,d1,d2,q1,q2,q3,q4,q5,d3,aBD,lb,s1,l0,hw,Q5,e1',s2]
    | false =>
     rw [Bool.false_or] at s1 s2 l0 e1' ⊢
     by_cases c5:c.toNat=0
     ·have d6:decide ((c.toNat:Int)=0)=true:=decide_eq_true (by omega)
      obtain ⟨y,hy⟩:∃ y,y=decide ((0:Int) < i):=⟨_,rfl⟩
      have ez:z=y:=by
       rw [hz,hy]
       have:decide (c.toNat=0)=true:=decide_eq_true c5
       rw [this,Bool.true_and]
       exact decide_eq_decide.2 (by omega)
      subst ez
      simp only [aAc,aAM,Zae,Zaf,Zag,Zah,Zai,Zak,Zam,Zan,Zao,Zaq,Zas,Zav,Zaw,Zba,Zbc,Zbe,Zbf,Zbg,Zbi,Zbk,Zbl,Zbm,Zbn,Zbo,Zbp,Zbs,Zbt,Zbu,Zbw,Zca,Zcc,Zcd,Zcf,Zcz,Zda,Zdb,Zdc,Zdf,Zdg,Zdh,Q2,Q3,Q0,Q1,Q4,Zdi,Zdk,Zdl,Zdn,Zdp,Zeb,decide_true,decide_false,Nat.reduceAdd,eq_self,h3',ix,aE6,d1,d2,q1,q2,q3,q4,q5,d3,aBD,lb,d6,← hy,s1,l0,hw,Q5,e1',s2]
     ·have d6:decide ((c.toNat:Int)=0)=false:=decide_eq_false (by omega)
      have ez:z=false:=by rw [hz];simp [c5]
      subst ez
      simp only [aAc,aAM,Zae,Zaf,Zag,Zah,Zai,Zak,Zam,Zan,Zao,Zaq,Zas,Zav,Zaw,Zba,Zbc,Zbe,Zbg,Zbi,Zbl,Zbm,Zbn,Zbo,Zbp,Zbs,Zbt,Zbu,Zbw,Zca,Zcc,Zcd,Zcf,Zcz,Zda,Zdb,Zdc,Zdf,Zdg,Zdh,Q2,Q3,Q0,Q1,Q4,Zdi,Zdk,Zdl,Zdn,Zdp,Zeb,decide_true,decide_false,Nat.reduceAdd,eq_self,h3',ix,aE6,d1,d2,q1,q2,q3,q4,q5,d3,aBD,lb,d6,s1,l0,hw,Q5,e1',s2]
  case neg =>
  rw [if_neg c3]
  have d3:¬ (c.toNat:Int) < 128:=by omega
  have run:aAp (aA7 (lim G0.cfg) N aB0) (m+1) ⟨(.ptr r 0 0 0::J::J::.int .i64 n::J::J::J::J::J::w::.int .i64 l.length::.int .i64 i::J::J::J::J::J::J::J::J::J::J::J::J::J::J::J::J::J::J::J::J::J::J::J::J::J::J::J::J::J::J::J::J::J::J::J::J::J::J::J::J::J::J::J::J::J::J::J::J::J::J::J::J::J::J::J::J::J::[]),h⟩=aAp (aA7 (lim G0.cfg) N aB0) m ⟨(.ptr r 0 0 0::J::J::.int .i64 n'::J::J::J::J::J::w::.int .i64 l.length::.int .i64 (i+1:Nat)::J::J::J::J::J::J::J::J::J::J::J::J::J::J::J::J::J::J::J::J::J::J::J::J::J::J::J::J::J::J::J::J::J::J::J::J::J::J::J::J::J::J::J::J::J::J::J::J::J::J::J::J::J::J::J::J::J::[]),h⟩:=by
   by_cases c4:i=4
   case pos=>omega
   case neg =>
    have d2:decide ((i:Int)=4)=false:=decide_eq_false (by omega)
    simp only [aAc,aAM,Zae,Zaf,Zag,Zah,Zai,Zak,Zan,Zao,Zar,Zav,Zaw,Zay,Zbc,Zbg,Zbi,Zbl,Zbm,Zbn,Zbo,Zbp,Zbs,Zbu,Zbw,Zcf,Zcz,Zda,Zdb,Zdf,Zdg,Zdh,Q2,Q3,Q0,Q1,Zdi,Zdk,Zdl,Zdn,Zdp,decide_true,decide_false,eq_self,h3',ix,aE6,d1,d2,q1,q2,q3,q4,q5,d3,hw]
  rw [run]
  exact ih (i+1) m n' (by omega) (by omega) (by omega) hb
theorem aI7 {l:List UInt8} {w:AV} (hl:LiB l w) (hn:l.length≤1000000000) {bad:Bool} {h:aA0} (er:h[r]?=some (rdO w bad)) :
  ∃ w',LiB (aAH (l,bad)).2.1 w'∧lim G0.cfg (.func 19) [.ptr r 0 0 0] h=some (.int .i64 (aAH (l,bad)).1,h.set r (rdO w' (aAH (l,bad)).2.2)):=by
 have nl:=hl.len
 have l0:=aOg er
 obtain ⟨k1,k2⟩:=aTU (N:=l.length+1) hl hn er l.length 0 (l.length+1) 0 (by omega) (by omega) (by omega) (by decide)
 rw [z0,List.drop_zero] at k1 k2
 unfold aAH
 simp only
 cases c:rdG 0 0 l with
 | none =>
  have e:=k2 c
  have s1:=aTp er true
  have er2:(h.set r (rdO w true))[r]?=some (rdO w true):=aAh er
  have s2:=aTq er2 (v:=.nilS) ⟨rfl,rfl⟩
  rw [set_set] at s2
  refine ⟨.nilS,aQ6,aAW rfl aF0 (l.length+1) ?_⟩
  rw [aEZ]
  simp only [Zaf,Zag,Zai,Zaj,Zak,Zam,Zan,Zao,Zat,Zax,Zbc,Zbe,Zbm,Zbo,Zbs,Zbt,Zcc,Zcd,Zck,Zcy,Zcz,Zda,Zdb,Zdc,Zdf,Zdg,Zdh,Q2,Q3,Q0,Q1,Q4,Zeb,Q6,Q7,Nat.reduceAdd,Nat.reduceSub,eq_self,Q6,Q7,List.replicate_succ,List.replicate_zero,List.cons_append,List.nil_append,aBD,l0,nl,e,s1,s2,aA5,aA4,aA8,z0]
 | some q =>
  obtain ⟨x,z,rest⟩:=q
  obtain ⟨w',lw,e⟩:=k1 x z rest c
  refine ⟨w',lw,aAW rfl aF0 (l.length+1) ?_⟩
  rw [aEZ]
  simp only [Zaf,Zag,Zai,Zaj,Zak,Zan,Zao,Zaq,Zas,Zax,Zbc,Zbm,Zbo,Zbs,Zcc,Zcd,Zck,Zcy,Zcz,Zda,Zdb,Zdf,Zdg,Zdh,Q2,Q3,Q0,Q1,Q4,Zeb,Q6,Q7,Nat.reduceAdd,Nat.reduceSub,eq_self,Q6,Q7,List.replicate_succ,List.replicate_zero,List.cons_append,List.nil_append,aBD,l0,nl,e,aA5,aA4,aA8]
end
end Go.Proofs.Ytgeedikghjcebaa.Ai
