/- Rows of bytes; the checksum. -/
import Derived.Test.YtgeedikghjcebaamXB
import Derived.Test.YtgeedikghjcebaamXA
import Derived.Laws.BitsLemmas
namespace Go.Proofs.Ytgeedikghjcebaa.Ai
open Go Go.Proofs
open AV renaming junk → J
open List renaming length_nil → Q0, getD_cons_zero → Q1, getD_cons_succ → Q2, drop_zero → Q3, set_cons_zero → Q4, set_cons_succ → Q5, take_of_length_le → Q6, length_cons → Q9
open Option renaming map_some → Q7, getD_some → Q8
set_option linter.unusedVariables false
set_option linter.unusedSimpArgs false
set_option maxRecDepth 10000
set_option maxHeartbeats 4000000
def eB (b:UInt8):List AV:=[.int .u8 b.toNat]
def eBs (l:List UInt8):List (List AV):=l.map eB
theorem aBI (l:List UInt8):(eBs l).length=l.length:=by simp [eBs]
theorem aMX (a b:List UInt8):eBs (a++b)=eBs a++eBs b:=by simp [eBs]
theorem aUR (l:List UInt8):(eBs l).all (fun c=>c.length==1 && c.all aAr)=true:=by
 induction l with
 | nil=>rfl
 | cons a z ih=>simp [eBs,eB,aAr]
theorem aFH (h:aA0) (b:UInt8):aAd h 1 false (.vptr (eB b) 0)=some (.int .u8 b.toNat):=rfl
theorem aJS:∀ l:List UInt8,aFT (eBs l)=some l
 | []=>rfl
 | b::l=>by
  have:eBs (b::l)=[.int .u8 b.toNat]::eBs l:=rfl
  rw [this]
  simp only [aFT,aJS l,Q7]
  simp
def LiB (l:List UInt8) (v:AV):Prop:=(l=[]∧v=.nilS)∨∃ e,v=.vsl e (eBs l)
theorem LiB.len {l:List UInt8} {v:AV} (hl:LiB l v) (h:aA0):aBZ h .slice v=some (.int .i64 l.length):=by
 rcases hl with ⟨rfl,rfl⟩ | ⟨e,rfl⟩
 ·rfl
 ·simp [aBZ,aBI]
theorem LiB.ix {l:List UInt8} {v:AV} (hl:LiB l v) (h:aA0) (k:IntKind) (j:Nat) (hj:j < l.length):aAP h 1 v (.int k j)=some (.vptr (eB l[j]) 0):=by
 rcases hl with ⟨rfl,rfl⟩ | ⟨e,rfl⟩
 ·simp at hj
 ·exact aS9 eB h 1 e l k j hj rfl
theorem LiB.fz {l:List UInt8} {v:AV} (hl:LiB l v) (h:aA0) (d:Nat):freeze h (d+1) v=some (v,true):=by
 rcases hl with ⟨rfl,rfl⟩ | ⟨e,rfl⟩ <;> rfl
theorem LiB.cell {l:List UInt8} {v:AV} (hl:LiB l v):cellsOf v=[v]∧aAr v=true:=by
 rcases hl with ⟨rfl,rfl⟩ | ⟨e,rfl⟩ <;> exact ⟨rfl,rfl⟩
theorem LiB.elems {l:List UInt8} {v:AV} (hl:LiB l v) (h:aA0):aAF h 1 v=some (eBs l):=by
 rcases hl with ⟨rfl,rfl⟩ | ⟨e,rfl⟩
 ·rfl
 ·cases l with
  | nil=>rfl
  | cons a r=>simp [aAF,eBs,eB]
theorem LiB.str {l:List UInt8} {v:AV} (hl:LiB l v) (h:aA0):aC3 h v=some (.str l):=by
 have:=hl.elems h
 rcases hl with ⟨rfl,rfl⟩ | ⟨e,rfl⟩
 ·rfl
 ·simp only [aC3,this,Option.bind_some,aJS,Q7]
theorem aL4:LiB [] .nilS:=.inl ⟨rfl,rfl⟩
theorem aCC (e:Bool) (l:List UInt8):LiB l (.vsl e (eBs l)):=.inr ⟨e,rfl⟩
theorem aHW (l:List UInt8):aKw 1 (eBs l)=true:=by cases l <;> rfl
theorem aPh (l:List UInt8) (n:Nat):(eBs l).drop n=eBs (l.drop n):=by simp [eBs,List.map_drop]
theorem aM3 (l:List UInt8) (n:Nat):(eBs l).take n=eBs (l.take n):=by simp [eBs,List.map_take]
theorem LiB.from {l:List UInt8} {v:AV} (hl:LiB l v) (h:aA0) (k:IntKind) (n:Nat) (hn:n≤l.length):∃ w,aBB h 1 v (some (.int k n)) none none=some w∧LiB (l.drop n) w:=by
 rcases hl with ⟨rfl,rfl⟩ | ⟨e,rfl⟩
 ·simp only [Q0,Nat.le_zero] at hn
  subst hn
  exact ⟨.nilS,rfl,.inl ⟨rfl,rfl⟩⟩
 ·refine ⟨.vsl (aFN e (eBs l).length (eBs l).length none) (eBs (l.drop n)),?_,aCC _ _⟩
  have hb:aCc (eBs l).length (eBs l).length (some (.int k n)) none none=some (n,(eBs l).length,none):=by
   simp only [aCc,aDQ,Q8,Option.getD_none]
   rw [if_pos (by rw [aBI];omega)]
   simp
  simp only [aBB,hb,List.take_length,aPh,aHW,if_true]
theorem LiB.upto {l:List UInt8} {v:AV} (hl:LiB l v) (h:aA0) (k:IntKind) (n:Nat) (hn:n≤l.length):∃ w,aBB h 1 v none (some (.int k n)) none=some w∧LiB (l.take n) w:=by
 rcases hl with ⟨rfl,rfl⟩ | ⟨e,rfl⟩
 ·simp only [Q0,Nat.le_zero] at hn
  subst hn
  exact ⟨.nilS,rfl,.inl ⟨rfl,rfl⟩⟩
 ·refine ⟨.vsl (aFN e (eBs l).length n none) (eBs (l.take n)),?_,aCC _ _⟩
  have hb:aCc (eBs l).length (eBs l).length none (some (.int k n)) none=some (0,n,none):=by
   simp only [aCc,aDQ,Q8,Option.getD_none]
   rw [if_pos (by rw [aBI];omega)]
   simp
  simp only [aBB,hb,Q3,aM3,aHW,if_true]
theorem LiB.upto3 {l:List UInt8} {v:AV} (hl:LiB l v) (h:aA0) (k k':IntKind) (n:Nat) (hn:n≤l.length):∃ w,aBB h 1 v none (some (.int k n)) (some (.int k' n))=some w∧LiB (l.take n) w:=by
 rcases hl with ⟨rfl,rfl⟩ | ⟨e,rfl⟩
 ·simp only [Q0,Nat.le_zero] at hn
  subst hn
  exact ⟨.nilS,rfl,.inl ⟨rfl,rfl⟩⟩
 ·refine ⟨.vsl (aFN e (eBs l).length n (some n)) (eBs (l.take n)),?_,aCC _ _⟩
  have hb:aCc (eBs l).length (eBs l).length none (some (.int k n)) (some (.int k' n))=some (0,n,some n):=by
   simp only [aCc,aDQ,Q8,Option.getD_none]
   rw [if_pos (by rw [aBI];omega)]
   simp [aBI,hn]
  simp only [aBB,hb,Q3,aM3,aHW,if_true]
theorem LiB.mid {l:List UInt8} {v:AV} (hl:LiB l v) (h:aA0) (k k':IntKind) (m n:Nat) (hm:m≤n) (hn:n≤l.length):∃ w,aBB h 1 v (some (.int k m)) (some (.int k' n)) none=some w∧LiB ((l.take n).drop m) w:=by
 rcases hl with ⟨rfl,rfl⟩ | ⟨e,rfl⟩
 ·simp only [Q0,Nat.le_zero] at hn
  subst hn
  have:m=0:=by omega
  subst this
  exact ⟨.nilS,rfl,.inl ⟨rfl,rfl⟩⟩
 ·refine ⟨.vsl (aFN e (eBs l).length n none) (eBs ((l.take n).drop m)),?_,aCC _ _⟩
  have hb:aCc (eBs l).length (eBs l).length (some (.int k m)) (some (.int k' n)) none=some (m,n,none):=by
   simp only [aCc,aDQ,Q8]
   rw [if_pos (by rw [aBI];omega)]
   simp
  simp only [aBB,hb,aM3,aPh,aHW,if_true]
def aBf (l:List UInt8) (v:AV) (h:aA0) (i:Nat):Prop:=l≠[]∧∃ ver x,v=.hsl i ver 0 l.length none∧h[i]?=some (.arr ver 1 x (eBs l))
theorem aBf.frame {l:List UInt8} {v:AV} {h h':aA0} {i:Nat} (ho:aBf l v h i) (hf:∀ o,h[i]?=some o→h'[i]?=some o):aBf l v h' i:=by
 obtain ⟨h1,ver,x,h2,h3⟩:=ho
 exact ⟨h1,ver,x,h2,hf _ h3⟩
theorem aBf.len {l:List UInt8} {v:AV} {h:aA0} {i:Nat} (ho:aBf l v h i) (h':aA0):aBZ h' .slice v=some (.int .i64 l.length):=by
 obtain ⟨h1,ver,x,rfl,h3⟩:=ho
 rfl
theorem aBf.cell {l:List UInt8} {v:AV} {h:aA0} {i:Nat} (ho:aBf l v h i):cellsOf v=[v]∧aAr v=true:=by
 obtain ⟨h1,ver,x,rfl,h3⟩:=ho
 exact ⟨rfl,rfl⟩
theorem aBf.lt {l:List UInt8} {v:AV} {h:aA0} {i:Nat} (ho:aBf l v h i):i < h.length:=by
 obtain ⟨h1,ver,x,rfl,h3⟩:=ho
 exact aBH h3
theorem aBf.add {l m:List UInt8} {v w:AV} {h:aA0} {i:Nat} (ho:aBf l v h i) (hel:aAF h 1 w=some (eBs m)) (hm:m≠[]) (bytes:Nat) (hb:bytes≤10) (hl:l.length+m.length≤100000000) :
  ∃ v' h',aEy h 1 bytes v w=some (v',h')∧aBf (l++m) v' h' i∧(∀ j o,j≠i→h[j]?=some o→h'[j]?=some o)∧h'.length=h.length:=by
 obtain ⟨h1,ver,x,rfl,h3⟩:=ho
 unfold aEy
 rw [hel]
 have hmz:¬ (eBs m).length=0:=by rw [aBI];intro e;exact hm (List.length_eq_zero_iff.1 e)
 have hmp:0 < m.length:=List.length_pos_iff.2 hm
 simp only [Option.elim_some,aDv]
 rw [if_neg hmz]
 have hne:¬ (0+l.length+(eBs m).length≤(eBs l).length∧aJh (l.length+(eBs m).length) none=true):=by
  rw [aBI,aBI];omega
 have hc2:True∧0+l.length≤(eBs l).length:=⟨trivial,by rw [aBI];omega⟩
 have htk:(List.drop 0 (eBs l)).take l.length=eBs l:=by rw [Q3];exact Q6 (by rw [aBI];omega)
 have hcd:(eBs l++eBs m).length*(bytes+1)≤68719476736∧(eBs l++eBs m).all (fun c=>c.length==1 && c.all aAr)=true:=by
  refine ⟨?_,by rw [← aMX];exact aUR _⟩
  rw [List.length_append,aBI,aBI]
  have:(l.length+m.length)*(bytes+1)≤100000000*11:=Nat.mul_le_mul hl (by omega)
  omega
 refine ⟨.hsl i (ver+1) 0 (eBs l++eBs m).length none,h.set i (.arr (ver+1) 1 false (eBs l++eBs m)),?_,⟨by simp [h1],ver+1,false,by simp [aBI],by rw [aMX];exact aAo h3⟩,fun j o hj e=>aAv e (Ne.symm hj),by simp⟩
 simp only [aDG,aAe,h3,if_true]
 rw [if_pos hc2,if_neg hne]
 simp only [htk]
 rw [if_pos hcd]
theorem aKy (h:aA0) (d:Nat):∀ l:List UInt8,aAp (aAp (freeze h (d+1))) (eBs l)=some (l.map fun y=>[(.int .u8 y.toNat,true)])
 | []=>rfl
 | y::ys=>by
  have:=aKy h d ys
  simp only [eBs,List.map_cons,aAp,eB,freeze] at this ⊢
  rw [this]
theorem aBf.fz {l:List UInt8} {v:AV} {h:aA0} {i:Nat} (ho:aBf l v h i) (d:Nat):freeze h (d+2) v=some (.vsl false (eBs l),false):=by
 obtain ⟨h1,ver,x,rfl,h3⟩:=ho
 have htk:(List.drop 0 (eBs l)).take l.length=eBs l:=by rw [Q3];exact Q6 (by rw [aBI];omega)
 have hl:0+l.length≤(eBs l).length:=by rw [aBI];omega
 have hg:aAe h i ver=some (1,x,eBs l):=by simp only [aAe,h3,if_true]
 have hm:aAp (aAp (freeze h (d+1))) (((eBs l).drop 0).take l.length)=some (l.map fun y=>[(.int .u8 y.toNat,true)]):=by rw [htk];exact aKy h d l
 have:=aMQ (d:=d+1) (c:=none) hg hl hm
 rw [this]
 congr 2
 simp [eBs,eB,Function.comp_def]
theorem aBf.elems {l:List UInt8} {v:AV} {h:aA0} {i:Nat} (ho:aBf l v h i):aAF h 1 v=some (eBs l):=by
 obtain ⟨h1,ver,x,rfl,h3⟩:=ho
 have htk:(List.drop 0 (eBs l)).take l.length=eBs l:=by rw [Q3];exact Q6 (by rw [aBI];omega)
 have hc:1=1∧0+l.length≤(eBs l).length:=⟨rfl,by rw [aBI];omega⟩
 simp only [aAF,aAe,h3,if_true]
 rw [if_pos (by rw [aBI];simp),htk]
theorem aBf.str {l:List UInt8} {v:AV} {h:aA0} {i:Nat} (ho:aBf l v h i):aC3 h v=some (.str l):=by
 have:=ho.elems
 obtain ⟨h1,ver,x,rfl,h3⟩:=ho
 simp only [aC3,this,Option.bind_some,aJS,Q7]
theorem aBf.clean {l:List UInt8} {v:AV} {h:aA0} {i:Nat} (ho:aBf l v h i) (d:Nat):aB6 h (d+2) v=true:=by
 obtain ⟨h1,ver,x,rfl,h3⟩:=ho
 have hc:∀ l:List UInt8,(eBs l).all (fun c=>c.all (aB6 h (d+1)))=true:=fun l=>by
  rw [List.all_eq_true]
  intro c hc
  obtain ⟨b,_,rfl⟩:=List.mem_map.1 hc
  rfl
 have hg:aAe h i ver=some (1,x,eBs l):=by simp only [aAe,h3,if_true]
 have e:=hc l
 have e2:∀ n,aB6 h (d+2) (.hsl i ver 0 n none)=(((eBs l).drop 0).take n).all fun c=>c.all (aB6 h (d+1)):=fun n=>by
  conv=>lhs;unfold aB6
  simp only [hg]
 rw [e2,Q3,Q6 (by rw [aBI];omega)]
 exact e
theorem aTp {h:aA0} {a b x y:AV} {c d:Bool} {k:Nat} (h1:freeze h k a=some (x,c)) (h2:freeze h k b=some (y,d)):freeze h (k+1) (.tup [a,b])=some (.tup [x,y],c && (d && true)):=by
 have:freeze h (k+1) (.tup [a,b])=(aAp (freeze h k) [a,b]).map fun l=>(.tup (l.map (·.1)),l.all (·.2)):=rfl
 rw [this]
 simp only [aAp,h1,h2];rfl
theorem cvI (k k':IntKind) (n:Int):aFn k (.int k' n)=some (.int k (k.wrap n)):=rfl
def aIh (s:Int) (b:UInt8):Int:=IntKind.u32.wrap (IntKind.u32.wrap (IntKind.u32.wrap (31*s)+IntKind.u32.wrap b.toNat)+1)
def aOK (l:List UInt8):Int:=l.foldl aIh 1
theorem aUb (s:Int) (b:UInt8):aIh s b=(31*s+b.toNat+1) % 4294967296:=by
 unfold aIh
 simp only [IntKind.wrap_u32]
 omega
theorem aSU (s:Int) (b:UInt8):0≤aIh s b∧aIh s b < 4294967296:=by rw [aUb];omega
theorem aP4:∀ (l:List UInt8) (s:Int),0≤s∧s < 4294967296→0≤l.foldl aIh s∧l.foldl aIh s < 4294967296
 | [],_,h=>h
 | b::l,s,_=>by rw [List.foldl_cons];exact aP4 l _ (aSU s b)
def aE4 (l:List UInt8):Nat:=(aOK l).toNat
theorem aQp (l:List UInt8):aOK l=(aE4 l:Int):=by
 have:=aP4 l 1 (by omega)
 unfold aE4 aOK
 omega
theorem aO8 {l:List UInt8} {v:AV} (hl:LiB l v) (hn:l.length≤10000000):∃ h',aAW (lim G0.cfg) (l.length+1) aDC [v] []=some (.int .u32 (aE4 l:Int),h'):=by
 have nl:=hl.len
 have lp:∀ (d i m:Nat) (s:Int) (h:aA0),l.length=i+d→d < m→aAn (aA7 (lim G0.cfg) (l.length+1) aD3) m ⟨[J,J,J,.int .u32 s,J,J,v,.int .i64 l.length,.int .i64 i,J,J,J,J,J,J,J,J,J,J,J],h⟩=some (.exit 0,⟨[J,J,J,.int .u32 ((l.drop i).foldl aIh s),J,J,J,J,J,J,J,J,J,J,J,J,J,J,J,J],h⟩):=by
  intro d
  induction d with
  | zero =>
   intro i m s h h1 h2
   obtain ⟨m,rfl⟩:∃ q,m=q+1:=⟨m - 1,by omega⟩
   have h3:¬ ((i:Int) < l.length):=by omega
   rw [List.drop_of_length_le (by omega:l.length≤i)]
   simp only [aAc,aHc,Zaf,Zag,Zah,Zak,Zal,Zan,Zao,Zap,Zaw,Zaz,Zbc,Zbm,Zbu,Zcz,Zdb,Zdf,Zdg,Zdh,Q4,Q5,Q1,Q2,Zdl,decide_false,eq_self,h3,List.foldl_nil]
  | succ d ih =>
   intro i m s h h1 h2
   obtain ⟨m,rfl⟩:∃ q,m=q+1:=⟨m - 1,by omega⟩
   have h3:i < l.length:=by omega
   have h3':(i:Int) < l.length:=by omega
   have hw:=aBd (n:=i) (by omega)
   have ix:=hl.ix h .i64 i h3
   rw [List.drop_eq_getElem_cons h3,List.foldl_cons,← ih (i+1) m _ h (by omega) (by omega)]
   simp only [aAc,aHc,Zae,Zaf,Zag,Zah,Zai,Zak,Zan,Zao,Zar,Zav,Zay,Zbc,Zbm,Zbo,Zbs,Zbu,Zbw,Zcf,Zcz,Zda,Zdb,Zdf,Zdg,Zdh,Q4,Q5,Q1,Q2,Zdi,Zdk,Zdl,decide_true,eq_self,h3',ix,aFH,cvI,hw,aIh]
 have e:=lp l.length 0 (l.length+1) 1 [] (by omega) (by omega)
 rw [z0,Q3] at e
 rw [aN7]
 rw [← aQp]
 simp only [Zaf,Zag,Zai,Zaj,Zak,Zam,Zan,Zao,Zat,Zax,Zbc,Zbm,Zbo,Zck,Zcy,Zcz,Zda,Zdb,Zdf,Zdg,Zdh,Q4,Q5,Q1,Q2,Q7,Q9,Q0,Nat.reduceAdd,Nat.reduceSub,eq_self,true_and,Q9,Q0,List.replicate_succ,List.replicate_zero,List.cons_append,List.nil_append,nl,e,aA5,aA4,aA8,Option.some.injEq,Prod.mk.injEq,true_and,exists_eq',aOK]
theorem aRe {l:List UInt8} {v:AV} (hl:LiB l v) (hn:l.length≤10000000) (H:aA0):lim G0.cfg (.func 14) [v] H=some (.int .u32 (aE4 l:Int),H) :=
 aAD rfl rfl aIW (l.length+1) (fun h=>aCg (hl.fz h 999)) (aO8 hl hn) (fun _=>rfl) H
theorem aSh {l:List UInt8} {v:AV} {H:aA0} {i:Nat} (ho:aBf l v H i) (hn:l.length≤10000000):lim G0.cfg (.func 14) [v] H=some (.int .u32 (aE4 l:Int),H):=by
 obtain ⟨h',r⟩:=aO8 (aCC false l) hn
 exact aFF rfl rfl aIW (l.length+1) (aDR (ho.fz 998)) r rfl rfl
theorem aO7 {l:List UInt8} {v:AV} (hl:LiB l v) (hn:l.length≤10000000):∃ h',aAW (lim G0.cfg) (l.length+1) aHd [v] []=some (.int .u32 (aE4 l:Int),h'):=by
 have nl:=hl.len
 have lp:∀ (d i m:Nat) (s:Int) (h:aA0),l.length=i+d→d < m→aAn (aA7 (lim G0.cfg) (l.length+1) aFg) m ⟨[v,J,J,.int .u32 s,.int .i64 i,J,J,J,J,J,J,J,J,J,J,J,J,J,J,J,J],h⟩=some (.exit 0,⟨[J,J,J,.int .u32 ((l.drop i).foldl aIh s),J,J,J,J,J,J,J,J,J,J,J,J,J,J,J,J,J],h⟩):=by
  intro d
  induction d with
  | zero =>
   intro i m s h h1 h2
   obtain ⟨m,rfl⟩:∃ q,m=q+1:=⟨m - 1,by omega⟩
   have h3:¬ ((i:Int) < l.length):=by omega
   rw [List.drop_of_length_le (by omega:l.length≤i)]
   simp only [aAc,aKT,Zaf,Zag,Zah,Zak,Zal,Zan,Zao,Zap,Zaw,Zaz,Zbc,Zbm,Zbo,Zbu,Zck,Zcz,Zdb,Zdf,Zdg,Zdh,Q4,Q5,Q1,Q2,Zdl,decide_false,eq_self,nl,h3,List.foldl_nil]
  | succ d ih =>
   intro i m s h h1 h2
   obtain ⟨m,rfl⟩:∃ q,m=q+1:=⟨m - 1,by omega⟩
   have h3:i < l.length:=by omega
   have h3':(i:Int) < l.length:=by omega
   have hw:=aBd (n:=i) (by omega)
   have ix:=hl.ix h .i64 i h3
   rw [List.drop_eq_getElem_cons h3,List.foldl_cons,← ih (i+1) m _ h (by omega) (by omega)]
   simp only [aAc,aKT,Zae,Zaf,Zag,Zah,Zai,Zak,Zan,Zao,Zar,Zav,Zay,Zbc,Zbm,Zbo,Zbs,Zbu,Zbw,Zcf,Zck,Zcz,Zda,Zdb,Zdf,Zdg,Zdh,Q4,Q5,Q1,Q2,Zdi,Zdk,Zdl,decide_true,eq_self,nl,h3',ix,aFH,cvI,hw,aIh]
 have e:=lp l.length 0 (l.length+1) 1 [] (by omega) (by omega)
 rw [z0,Q3] at e
 rw [aSG]
 rw [← aQp]
 simp only [Zaf,Zag,Zai,Zaj,Zak,Zam,Zan,Zao,Zat,Zax,Zbm,Zbo,Zcy,Zcz,Zda,Zdb,Zdf,Zdg,Zdh,Q4,Q5,Q1,Q2,Q7,Q9,Q0,Nat.reduceAdd,Nat.reduceSub,eq_self,true_and,Q9,Q0,List.replicate_succ,List.replicate_zero,List.cons_append,List.nil_append,e,aA5,aA4,aA8,Option.some.injEq,Prod.mk.injEq,true_and,exists_eq',aOK]
theorem aWa {l:List UInt8} {v:AV} (hl:LiB l v) (hn:l.length≤10000000) (H:aA0):lim G0.cfg (.func 15) [v] H=some (.int .u32 (aE4 l:Int),H) :=
 aAD rfl rfl aOp (l.length+1) (fun h=>aCg (hl.fz h 999)) (aO7 hl hn) (fun _=>rfl) H
theorem aVl {l:List UInt8} {v:AV} {H:aA0} {i:Nat} (ho:aBf l v H i) (hn:l.length≤10000000):lim G0.cfg (.func 15) [v] H=some (.int .u32 (aE4 l:Int),H):=by
 obtain ⟨h',r⟩:=aO7 (aCC false l) hn
 exact aFF rfl rfl aOp (l.length+1) (aDR (ho.fz 998)) r rfl rfl
end Go.Proofs.Ytgeedikghjcebaa.Ai
namespace Go.Proofs.Ytgeedikghjcebaa.Ai
open Go Go.Proofs
open AV renaming junk → Q0
open List renaming length_cons → Q1, getD_cons_zero → Q2, getD_cons_succ → Q3, set_cons_zero → Q4, set_cons_succ → Q5, length_nil → Q6, length_append → Q7, cons_append → Q8, nil_append → Q9, getElem?_cons_zero → Z0, getElem?_cons_succ → Z1, replicate_succ → Z2, replicate_zero → Z3, append_nil → Z4, append_assoc → Z6
open Option renaming map_some → Z5
open Int renaming toNat_natCast → Z7
set_option linter.unusedVariables false
set_option linter.unusedSimpArgs false
set_option maxRecDepth 10000
set_option maxHeartbeats 4000000
def enc:Nat→Nat→List UInt8
 | 0,n=>[UInt8.ofNat n]
 | k+1,n=>if 127 < n then UInt8.ofNat (n % 128+128)::enc k (n / 128) else [UInt8.ofNat n]
def aFO (n:Nat):List UInt8:=enc 4 n
def aC0 (xs:List Int):List UInt8:=xs.flatMap fun x=>aFO x.toNat
theorem aQG:∀ (k n:Nat),(enc k n).length≤k+1
 | 0,n=>by simp [enc]
 | k+1,n=>by
  unfold enc
  split
  ·have:=aQG k (n / 128);simp only [Q1];omega
  ·simp
theorem aEK (n:Nat):(aFO n).length≤5:=aQG 4 n
theorem aFQ:∀ xs:List Int,(aC0 xs).length≤5*xs.length
 | []=>by simp [aC0]
 | x::xs=>by
  have h1:=aFQ xs
  have h2:=aEK x.toNat
  have e:aC0 (x::xs)=aFO x.toNat++aC0 xs:=rfl
  rw [e,Q7,Q1]
  omega
theorem aFW (k:IntKind) (n:Nat):aFn .u8 (.int k n)=some (.int .u8 ((UInt8.ofNat n).toNat)):=by
 simp only [aFn,IntKind.wrap_u8,UInt8.toNat_ofNat']
 congr 2
theorem aWt (q:EqK) (n:Nat):aB2 .rem q (.int .i64 n) (.int .i64 128)=some (.int .i64 ((n % 128:Nat):Int)):=by
 have e:(n:Int).tmod 128=((n % 128:Nat):Int):=by rw [Int.tmod_eq_emod_of_nonneg (by omega)];omega
 simp [aB2,aEx,e]
theorem aWu (q:EqK) (n:Nat) (hn:n < 4611686018427387904):aB2 .quo q (.int .i64 n) (.int .i64 128)=some (.int .i64 ((n / 128:Nat):Int)):=by
 have e:(n:Int).tdiv 128=((n / 128:Nat):Int):=by rw [Int.tdiv_eq_ediv_of_nonneg (by omega)];omega
 have w:IntKind.i64.wrap ((n / 128:Nat):Int)=((n / 128:Nat):Int):=w64 (by omega) (by omega)
 have e0:aB2 .quo q (.int .i64 n) (.int .i64 128)=some (.int .i64 (IntKind.i64.wrap ((n:Int).tdiv 128))):=aW2 q .i64 n 128 (by decide)
 rw [e0,e,w]
theorem aOG (q:EqK) (k k':IntKind) (n j:Nat) (hj:j≤k.bits):aB2 .shr q (.int k n) (.int k' j)=some (.int k ((n / 2 ^ j:Nat):Int)):=by
 have h0:¬ ((j:Int) < 0):=by omega
 have e:(n:Int).fdiv (2 ^ min j k.bits)=((n / 2 ^ j:Nat):Int):=by
  rw [Nat.min_eq_left hj,Int.fdiv_eq_ediv_of_nonneg _ (by exact Int.pow_nonneg (by decide))]
  norm_cast
 simp only [aB2,aIp,or_true,if_true,h0,if_false,Z7,e]
theorem aW3 (q:EqK) (n:Nat):aB2 .shr q (.int .i64 n) (.int .u64 7)=some (.int .i64 ((n / 128:Nat):Int)):=aOG q .i64 .u64 n 7 (by decide)
theorem aWe:∀ m:Fin 256,(IntKind.u8.wrap (BitVec.ofInt 8 (m.val:Int) ||| BitVec.ofInt 8 128).toNat)=((m.val % 128+128:Nat):Int):=by decide +kernel
theorem aV7 (q:EqK) (n:Nat):aB2 .or q (.int .u8 ((UInt8.ofNat n).toNat)) (.int .u8 128)=some (.int .u8 ((UInt8.ofNat (n % 128+128)).toNat)):=by
 have h:=aWe ⟨(UInt8.ofNat n).toNat,UInt8.toNat_lt _⟩
 simp only at h
 have e:aB2 .or q (.int .u8 ((UInt8.ofNat n).toNat)) (.int .u8 128)=some (.int .u8 (IntKind.u8.wrap (BitVec.ofInt 8 ((UInt8.ofNat n).toNat:Int) ||| BitVec.ofInt 8 128).toNat)):=rfl
 rw [e,h]
 simp only [UInt8.toNat_ofNat']
 congr 3
 omega
theorem aRj (h:aA0) (e:Bool) (b:UInt8):aAF h 1 (.vsl e [[.int .u8 b.toNat]])=some (eBs [b]):=rfl
theorem aR4 (h:aA0) (b:UInt8):aBO h false 1 1 [.int .u8 0] [(0,.int .u8 b.toNat)]=some (.vsl true [[.int .u8 b.toNat]],h):=aD9 h (.int .u8 0) (.int .u8 b.toNat) rfl rfl
def RdI (xs:List Int) (w:AV) (h:aA0) (q:Option Nat):Prop :=
 (∀ h',aBZ h' .slice w=some (.int .i64 xs.length))∧∀ h':aA0,(∀ i o,q=some i→h[i]?=some o→h'[i]?=some o)→∀ (j:Nat) (hj:j < xs.length),∃ a,aAP h' 1 w (.int .i64 j)=some a∧aAd h' 1 false a=some (.int .i64 xs[j])
theorem Li.rd {xs:List Int} {w:AV} (hl:Li xs w) (h:aA0):RdI xs w h none:=⟨hl.len,fun h' _ j hj=>⟨_,hl.ix h' .i64 j hj,Zer h' _⟩⟩
theorem aS1 {xs:List Int} {h:aA0} {i ver:Nat} {x:Bool} (hi:h[i]?=some (.arr ver 1 x (eIs xs))):RdI xs (.hsl i ver 0 xs.length none) h (some i):=by
 refine ⟨fun _=>rfl,fun h' hf j hj => ?_⟩
 have e:=hf i _ rfl hi
 refine ⟨_,aBW e hj,?_⟩
 have:h'[i]?=some (.arr ver 1 x (eIs xs++[])):=by rw [Z4];exact e
 exact ldI this hj
section
variable {N : Nat} {i : Nat}
theorem aWc (w L J:AV):∀ (k n m:Nat) (l:List UInt8) (v:AV) (h:aA0),n < 128 ^ (k+1)→n < 4611686018427387904→k < m→aBf l v h i→l.length+k≤50000000 →
  ∃ (v':AV) (h':aA0) (n':Nat) (l':List UInt8),aAn (aA7 (lim G0.cfg) N aD1) m ⟨[v,Q0,Q0,Q0,Q0,Q0,.int .i64 n,w,L,J,Q0,Q0,Q0,Q0,Q0,Q0,Q0,Q0,Q0,Q0,Q0,Q0,Q0,Q0,Q0,Q0,Q0,Q0,Q0,Q0],h⟩=some (.exit 2,⟨[v',Q0,Q0,Q0,Q0,Q0,.int .i64 n',w,L,J,Q0,Q0,Q0,Q0,Q0,Q0,Q0,Q0,Q0,Q0,Q0,Q0,Q0,Q0,Q0,Q0,Q0,Q0,Q0,Q0],h'⟩)∧enc k n=l'++[UInt8.ofNat n']∧aBf (l++l') v' h' i∧l'.length≤k∧(∀ j o,j≠i→h[j]?=some o→h'[j]?=some o)∧h'.length=h.length:=by
 intro k
 induction k with
 | zero =>
  intro n m l v h h1 h1' h2 ho hl
  obtain ⟨m,rfl⟩:∃ q,m=q+1:=⟨m - 1,by omega⟩
  have h3:¬ ((127:Int) < n):=by omega
  refine ⟨v,h,n,[],?_,rfl,by rw [Z4];exact ho,by simp,fun _ _ _ e=>e,rfl⟩
  simp only [aAc,aEN,Zaf,Zag,Zah,Zak,Zal,Zan,Zao,Zap,Zaw,Zaz,Zbc,Zbm,Zbo,Zbu,Zcz,Zda,Zdb,Zdf,Zdg,Zdh,Q4,Q5,Q2,Q3,Zdn,decide_false,eq_self,h3]
 | succ k ih =>
  intro n m l v h h1 h1' h2 ho hl
  obtain ⟨m,rfl⟩:∃ q,m=q+1:=⟨m - 1,by omega⟩
  by_cases c:127 < n
  case neg =>
   have h3:¬ ((127:Int) < n):=by omega
   refine ⟨v,h,n,[],?_,by unfold enc;rw [if_neg c];rfl,by rw [Z4];exact ho,by simp,fun _ _ _ e=>e,rfl⟩
   simp only [aAc,aEN,Zaf,Zag,Zah,Zak,Zal,Zan,Zao,Zap,Zaw,Zaz,Zbc,Zbm,Zbo,Zbu,Zcz,Zda,Zdb,Zdf,Zdg,Zdh,Q4,Q5,Q2,Q3,Zdn,decide_false,eq_self,h3]
  case pos =>
  have h3:(127:Int) < n:=by omega
  have hd:n / 128 < 128 ^ (k+1):=Nat.div_lt_of_lt_mul (by rw [Nat.mul_comm,← Nat.pow_succ];exact h1)
  obtain ⟨v1,H1,e1,o1,f1,g1⟩:=ho.add (w:=.vsl true [[.int .u8 ((UInt8.ofNat (n % 128+128)).toNat)]]) (m:=[UInt8.ofNat (n % 128+128)]) (aRj h true _) (by simp) 1 (by omega) (by simp only [Q1,Q6];omega)
  obtain ⟨v',h',n',l',e2,q1,q2,q3,q4,q5⟩:=ih (n / 128) m _ v1 H1 hd (by omega) (by omega) o1 (by rw [Q7];simp only [Q1,Q6];omega)
  refine ⟨v',h',n',UInt8.ofNat (n % 128+128)::l',?_,by unfold enc;rw [if_pos c,q1];rfl,by rw [List.append_cons];exact q2,by simp only [Q1];omega,fun j o hj e=>q4 j o hj (f1 j o hj e),by omega⟩
  rw [← e2]
  have t1:=aR4 h (UInt8.ofNat (n % 128+128))
  simp only [aAc,aEN,Zae,Zaf,Zag,Zah,Zai,Zak,Zan,Zao,Zar,Zav,Zay,Zbc,Zbd,Zbm,Zbo,Zbu,Zbw,Zcm,Zcr,Zcz,Zda,Zdb,Zdf,Zdg,Zdh,Q4,Q5,Q2,Q3,Zdn,decide_true,eq_self,h3,aFW,aV7,ev2,t1,e1,aW3]
theorem aWd {xs:List Int} {w:AV} {q:Option Nat} {h0:aA0} (hr:RdI xs w h0 q) (hq:q≠some i) (hx:∀ x ∈ xs,0≤x∧x≤2147483647) (hn:xs.length≤1000000) (hN:5≤N) :
  ∀ (d j m:Nat) (l:List UInt8) (v:AV) (h:aA0),xs.length=j+d→d < m→aBf l v h i→l.length+5*d≤40000000→(∀ j o,j≠i→h0[j]?=some o→h[j]?=some o) →
  ∃ (v':AV) (h':aA0),aAn (aA7 (lim G0.cfg) N aD2) m ⟨[v,Q0,Q0,Q0,Q0,Q0,Q0,w,.int .i64 xs.length,.int .i64 j,Q0,Q0,Q0,Q0,Q0,Q0,Q0,Q0,Q0,Q0,Q0,Q0,Q0,Q0,Q0,Q0,Q0,Q0,Q0,Q0],h⟩=some (.exit 0,⟨[v',Q0,Q0,Q0,Q0,Q0,Q0,Q0,Q0,Q0,Q0,Q0,Q0,Q0,Q0,Q0,Q0,Q0,Q0,Q0,Q0,Q0,Q0,Q0,Q0,Q0,Q0,Q0,Q0,Q0],h'⟩)∧aBf (l++aC0 (xs.drop j)) v' h' i∧(∀ j o,j≠i→h[j]?=some o→h'[j]?=some o)∧h'.length=h.length:=by
 intro d
 induction d with
 | zero =>
  intro j m l v h h1 h2 ho hl hf
  obtain ⟨m,rfl⟩:∃ q,m=q+1:=⟨m - 1,by omega⟩
  have h3:¬ ((j:Int) < xs.length):=by omega
  have e0:aC0 (xs.drop j)=[]:=by rw [List.drop_of_length_le (by omega:xs.length≤j)];rfl
  refine ⟨v,h,?_,by rw [e0,Z4];exact ho,fun _ _ _ e=>e,rfl⟩
  simp only [aAc,aHb,Zaf,Zag,Zah,Zak,Zal,Zan,Zao,Zap,Zaw,Zaz,Zbc,Zbm,Zbu,Zcz,Zdb,Zdf,Zdg,Zdh,Q4,Q5,Q2,Q3,Zdl,decide_false,eq_self,h3]
 | succ d ih =>
  intro j m l v h h1 h2 ho hl hf
  obtain ⟨m,rfl⟩:∃ q,m=q+1:=⟨m - 1,by omega⟩
  have h3:j < xs.length:=by omega
  have h3':(j:Int) < xs.length:=by omega
  have hw:=aBd (n:=j) (by omega)
  obtain ⟨a,x1,x2⟩:=hr.2 h (fun p o e g=>hf p o (fun f=>hq (by rw [e,f])) g) j h3
  have hb:=hx _ (List.getElem_mem h3)
  obtain ⟨n,en⟩:∃ n:Nat,xs[j]=(n:Int):=⟨xs[j].toNat,by omega⟩
  rw [en] at x2 hb
  obtain ⟨v1,H1,n',l',e1,q1,q2,q3,q4,q5⟩:=aWc (N:=N) w (.int .i64 xs.length) (.int .i64 j) 4 n N l v h (by omega) (by omega) (by omega) ho (by omega)
  have b0:l'.length≤4:=q3
  obtain ⟨v2,H2,e2,o2,f2,g2⟩:=q2.add (w:=.vsl true [[.int .u8 ((UInt8.ofNat n').toNat)]]) (m:=[UInt8.ofNat n']) (aRj H1 true _) (by simp) 1 (by omega) (by rw [Q7];simp only [Q1,Q6];omega)
  obtain ⟨v',h',e3,o3,f3,g3⟩:=ih (j+1) m _ v2 H2 (by omega) (by omega) o2 (by simp only [Q7,Q1,Q6];omega) (fun p o hp e=>f2 p o hp (q4 p o hp (hf p o hp e)))
  have eE:aC0 (xs.drop j)=(l'++[UInt8.ofNat n'])++aC0 (xs.drop (j+1)):=by
   rw [List.drop_eq_getElem_cons h3]
   have:aC0 (xs[j]::xs.drop (j+1))=aFO xs[j].toNat++aC0 (xs.drop (j+1)):=rfl
   rw [this,en,Z7,aFO,q1]
  refine ⟨v',h',?_,by rw [eE,← Z6,← Z6];exact o3,fun p o hp e=>f3 p o hp (f2 p o hp (q4 p o hp e)),by omega⟩
  rw [← e3]
  have t1:=aR4 H1 (UInt8.ofNat n')
  simp only [aAc,aHb,Zae,Zaf,Zag,Zah,Zai,Zaj,Zak,Zan,Zao,Zar,Zat,Zav,Zax,Zay,Zbc,Zbd,Zbm,Zbo,Zbs,Zbu,Zbw,Zcf,Zcm,Zcr,Zcz,Zda,Zdb,Zdf,Zdg,Zdh,Q4,Q5,Q2,Q3,Zdi,Zdl,decide_true,eq_self,h3',x1,x2,e1,aFW,ev2,t1,e2,hw]
theorem aRc {xs:List Int} {w:AV} {q:Option Nat} {h:aA0} (hr:RdI xs w h q) (hq:q≠some i) (hx:∀ x ∈ xs,0≤x∧x≤2147483647) (hn:xs.length≤1000000) {l:List UInt8} {v:AV} (ho:aBf l v h i) (hl:l.length≤20000000) :
  ∃ (v':AV) (h':aA0),lim G0.cfg (.func 28) [v,w] h=some (v',h')∧aBf (l++aC0 xs) v' h' i∧(∀ j o,j≠i→h[j]?=some o→h'[j]?=some o)∧h'.length=h.length:=by
 have nl:=hr.1
 obtain ⟨v',h',e,o1,f1,g1⟩:=aWd (N:=xs.length+5) hr hq hx hn (by omega) xs.length 0 (xs.length+5) l v h (by omega) (by omega) ho (by omega) (fun _ _ _ e=>e)
 rw [z0] at e
 rw [List.drop_zero] at o1
 refine ⟨v',h',aAX rfl aNc (xs.length+5) ?_,o1,f1,g1⟩
 rw [aN6]
 simp only [Zaf,Zag,Zai,Zaj,Zak,Zam,Zan,Zao,Zat,Zax,Zbc,Zbm,Zbo,Zck,Zcy,Zcz,Zda,Zdb,Zdf,Zdg,Zdh,Q4,Q5,Q2,Q3,Z5,Q1,Q6,Nat.reduceAdd,Nat.reduceSub,eq_self,Q1,Q6,Z2,Z3,Q8,Q9,nl,e,aA5,aA4,aA8]
theorem aVc:∀ (k n m:Nat) (l:List UInt8) (v:AV) (h:aA0),n < 128 ^ (k+1)→n < 4611686018427387904→k < m→aBf l v h i→l.length+k≤50000000 →
  ∃ (v':AV) (h':aA0) (n':Nat) (l':List UInt8),aAn (aA7 (lim G0.cfg) N aDV) m ⟨[v,.int .i64 n,Q0,Q0,Q0,Q0,Q0,Q0,Q0,Q0,Q0,Q0,Q0,Q0,Q0,Q0,Q0,Q0,Q0,Q0,Q0,Q0,Q0,Q0,Q0,Q0,Q0,Q0,Q0],h⟩=some (.exit 0,⟨[v',.int .i64 n',Q0,Q0,Q0,Q0,Q0,Q0,Q0,Q0,Q0,Q0,Q0,Q0,Q0,Q0,Q0,Q0,Q0,Q0,Q0,Q0,Q0,Q0,Q0,Q0,Q0,Q0,Q0],h'⟩)∧enc k n=l'++[UInt8.ofNat n']∧aBf (l++l') v' h' i∧l'.length≤k∧(∀ j o,j≠i→h[j]?=some o→h'[j]?=some o)∧h'.length=h.length:=by
 intro k
 induction k with
 | zero =>
  intro n m l v h h1 h1' h2 ho hl
  obtain ⟨m,rfl⟩:∃ q,m=q+1:=⟨m - 1,by omega⟩
  have h3:¬ ((127:Int) < n):=by omega
  refine ⟨v,h,n,[],?_,rfl,by rw [Z4];exact ho,by simp,fun _ _ _ e=>e,rfl⟩
  simp only [aAc,aG0,Zaf,Zag,Zah,Zak,Zal,Zan,Zao,Zap,Zaw,Zaz,Zbc,Zbm,Zbo,Zbu,Zcz,Zda,Zdb,Zdf,Zdg,Zdh,Q4,Q5,Q2,Q3,Zdn,decide_false,eq_self,h3]
 | succ k ih =>
  intro n m l v h h1 h1' h2 ho hl
  obtain ⟨m,rfl⟩:∃ q,m=q+1:=⟨m - 1,by omega⟩
  by_cases c:127 < n
  case neg =>
   have h3:¬ ((127:Int) < n):=by omega
   refine ⟨v,h,n,[],?_,by unfold enc;rw [if_neg c];rfl,by rw [Z4];exact ho,by simp,fun _ _ _ e=>e,rfl⟩
   simp only [aAc,aG0,Zaf,Zag,Zah,Zak,Zal,Zan,Zao,Zap,Zaw,Zaz,Zbc,Zbm,Zbo,Zbu,Zcz,Zda,Zdb,Zdf,Zdg,Zdh,Q4,Q5,Q2,Q3,Zdn,decide_false,eq_self,h3]
  case pos =>
  have h3:(127:Int) < n:=by omega
  have hd:n / 128 < 128 ^ (k+1):=Nat.div_lt_of_lt_mul (by rw [Nat.mul_comm,← Nat.pow_succ];exact h1)
  obtain ⟨v1,H1,e1,o1,f1,g1⟩:=ho.add (w:=.vsl true [[.int .u8 ((UInt8.ofNat (n % 128+128)).toNat)]]) (m:=[UInt8.ofNat (n % 128+128)]) (aRj h true _) (by simp) 1 (by omega) (by simp only [Q1,Q6];omega)
  obtain ⟨v',h',n',l',e2,q1,q2,q3,q4,q5⟩:=ih (n / 128) m _ v1 H1 hd (by omega) (by omega) o1 (by rw [Q7];simp only [Q1,Q6];omega)
  refine ⟨v',h',n',UInt8.ofNat (n % 128+128)::l',?_,by unfold enc;rw [if_pos c,q1];rfl,by rw [List.append_cons];exact q2,by simp only [Q1];omega,fun j o hj e=>q4 j o hj (f1 j o hj e),by omega⟩
  rw [← e2]
  have t1:=aR4 h (UInt8.ofNat (n % 128+128))
  have t2:=fun q=>aWt q n
  have t3:=fun q=>aWu q n h1'
  have t4:IntKind.i64.wrap (((n % 128:Nat):Int)+128)=((n % 128+128:Nat):Int):=by rw [w64 (by omega) (by omega)];omega
  simp only [aAc,aG0,Zae,Zaf,Zag,Zah,Zai,Zak,Zan,Zao,Zar,Zav,Zay,Zbc,Zbd,Zbm,Zbo,Zbu,Zbw,Zcm,Zcr,Zcz,Zda,Zdb,Zdf,Zdg,Zdh,Q4,Q5,Q2,Q3,Zdi,Zdn,decide_true,eq_self,h3,t2,t4,aFW,ev2,t1,e1,t3]
def inR (x:Int):Bool:=decide (0≤x) && decide (x≤2147483647)
theorem aFz (x:Int):inR x=true↔0≤x∧x≤2147483647:=by simp [inR]
theorem aOE {l:List UInt8} {v:AV} {h:aA0} (ho:aBf l v h i) (hl:l.length≤20000000) (x:Int) :
  (inR x=true→∃ (v':AV) (h':aA0),lim G0.cfg (.func 35) [v,.int .i64 x] h=some (.tup [v',.bool true],h')∧aBf (l++aFO x.toNat) v' h' i∧(∀ j o,j≠i→h[j]?=some o→h'[j]?=some o)∧h'.length=h.length) ∧
  (inR x=false→lim G0.cfg (.func 35) [v,.int .i64 x] h=some (.tup [v,.bool false],h)):=by
 by_cases c1:x < 0
 case pos =>
  refine ⟨fun e=>by have:=(aFz x).1 e;omega,fun _=>aAX rfl aIu 1 ?_⟩
  rw [aIq]
  simp only [Zaf,Zag,Zah,Zam,Zan,Zao,Zaq,Zav,Zbc,Zbh,Zbk,Zbm,Zbn,Zbo,Zbp,Zbu,Zcy,Zcz,Zda,Zdb,Q4,Q5,Q2,Q3,Z5,Zdl,decide_true,Q1,Q6,Nat.reduceAdd,Nat.reduceSub,eq_self,Q1,Q6,Z2,Z3,Q8,Q9,c1,aA5,aA4,aA8]
 case neg =>
 by_cases c2:2147483647 < x
 case pos =>
  refine ⟨fun e=>by have:=(aFz x).1 e;omega,fun _=>aAX rfl aIu 1 ?_⟩
  rw [aIq]
  simp only [Zaf,Zag,Zah,Zam,Zan,Zao,Zaq,Zav,Zbc,Zbg,Zbl,Zbm,Zbn,Zbo,Zbp,Zbu,Zcy,Zcz,Zda,Zdb,Q4,Q5,Q2,Q3,Z5,Zdl,Zdn,decide_true,decide_false,Q1,Q6,Nat.reduceAdd,Nat.reduceSub,eq_self,Q1,Q6,Z2,Z3,Q8,Q9,c1,c2,aA5,aA4,aA8]
 case neg =>
 have hi:inR x=true:=(aFz x).2 ⟨by omega,by omega⟩
 refine ⟨fun _ => ?_,fun e=>by rw [hi] at e;cases e⟩
 obtain ⟨n,rfl⟩:∃ n:Nat,x=(n:Int):=⟨x.toNat,by omega⟩
 obtain ⟨v1,H1,n',l',e1,q1,q2,q3,q4,q5⟩:=aVc (N:=5) 4 n 5 l v h (by omega) (by omega) (by omega) ho (by omega)
 obtain ⟨v2,H2,e2,o2,f2,g2⟩:=q2.add (w:=.vsl true [[.int .u8 ((UInt8.ofNat n').toNat)]]) (m:=[UInt8.ofNat n']) (aRj H1 true _) (by simp) 1 (by omega) (by rw [Q7];simp only [Q1,Q6];omega)
 refine ⟨v2,H2,aAX rfl aIu 5 ?_,by rw [Z7,aFO,q1,← Z6];exact o2,fun p o hp e=>f2 p o hp (q4 p o hp e),by omega⟩
 have t1:=aR4 H1 (UInt8.ofNat n')
 rw [aIq]
 simp only [Zae,Zaf,Zag,Zah,Zai,Zaj,Zak,Zam,Zan,Zao,Zat,Zaw,Zax,Zbc,Zbd,Zbg,Zbl,Zbm,Zbn,Zbo,Zbp,Zbu,Zbw,Zcm,Zcr,Zcy,Zcz,Zda,Zdb,Zdf,Zdg,Zdh,Q4,Q5,Q2,Q3,Z5,Zdl,Zdn,decide_false,Q1,Q6,Nat.reduceAdd,Nat.reduceSub,eq_self,Q1,Q6,Z2,Z3,Q8,Q9,c1,c2,e1,aFW,ev2,t1,e2,aA5,aA4,aA8]
theorem aUi {xs:List Int} {w:AV} (hr:Li xs w) (hn:xs.length≤1000000) :
  ∀ (d j m:Nat) (l:List UInt8) (v:AV) (h:aA0),xs.length=j+d→d < m→aBf l v h i→l.length+5*d≤15000000 →
  ((xs.drop j).all inR=true→∃ (v':AV) (h':aA0),aAn (aA7 (lim G0.cfg) N aCK) m ⟨[v,w,Q0,Q0,Q0,Q0,.bool true,.int .i64 j,Q0,Q0,Q0,Q0,Q0,Q0,Q0,Q0,Q0,Q0,Q0,Q0,Q0,Q0,Q0,Q0,Q0,Q0,Q0,Q0,Q0,Q0,Q0,Q0,Q0,Q0,Q0],h⟩=some (.exit 0,⟨[v',Q0,Q0,Q0,Q0,Q0,.bool true,Q0,Q0,Q0,Q0,Q0,Q0,Q0,Q0,Q0,Q0,Q0,Q0,Q0,Q0,Q0,Q0,Q0,Q0,Q0,Q0,Q0,Q0,Q0,Q0,Q0,Q0,Q0,Q0],h'⟩)∧aBf (l++aC0 (xs.drop j)) v' h' i∧(∀ j o,j≠i→h[j]?=some o→h'[j]?=some o)∧h'.length=h.length) ∧
  ((xs.drop j).all inR=false→∃ (v':AV) (h':aA0),aAn (aA7 (lim G0.cfg) N aCK) m ⟨[v,w,Q0,Q0,Q0,Q0,.bool true,.int .i64 j,Q0,Q0,Q0,Q0,Q0,Q0,Q0,Q0,Q0,Q0,Q0,Q0,Q0,Q0,Q0,Q0,Q0,Q0,Q0,Q0,Q0,Q0,Q0,Q0,Q0,Q0,Q0],h⟩=some (.exit 0,⟨[v',Q0,Q0,Q0,Q0,Q0,.bool false,Q0,Q0,Q0,Q0,Q0,Q0,Q0,Q0,Q0,Q0,Q0,Q0,Q0,Q0,Q0,Q0,Q0,Q0,Q0,Q0,Q0,Q0,Q0,Q0,Q0,Q0,Q0,Q0],h'⟩)∧(∀ j o,j≠i→h[j]?=some o→h'[j]?=some o)∧h'.length=h.length):=by
 have nl:=hr.len
 intro d
 induction d with
 | zero =>
  intro j m l v h h1 h2 ho hl
  obtain ⟨m,rfl⟩:∃ q,m=q+1:=⟨m - 1,by omega⟩
  have h3:¬ ((j:Int) < xs.length):=by omega
  rw [List.drop_of_length_le (by omega:xs.length≤j)]
  have e0:aC0 ([]:List Int)=[]:=rfl
  refine ⟨fun _=>⟨v,h,?_,by rw [e0,Z4];exact ho,fun _ _ _ e=>e,rfl⟩,fun e=>(by cases e)⟩
  simp only [aAc,aFo,Zaf,Zag,Zah,Zak,Zal,Zan,Zao,Zap,Zaw,Zaz,Zbc,Zbi,Zbl,Zbm,Zbn,Zbo,Zbp,Zbu,Zck,Zcz,Zda,Zdb,Zdf,Zdg,Zdh,Q4,Q5,Q2,Q3,Zdl,decide_false,eq_self,nl,h3]
 | succ d ih =>
  intro j m l v h h1 h2 ho hl
  obtain ⟨m,rfl⟩:∃ q,m=q+1:=⟨m - 1,by omega⟩
  have h3:j < xs.length:=by omega
  have h3':(j:Int) < xs.length:=by omega
  have hw:=aBd (n:=j) (by omega)
  have ix:=fun h=>hr.ix h .i64 j h3
  obtain ⟨k1,k2⟩:=aOE ho (by omega) xs[j]
  rw [List.drop_eq_getElem_cons h3,List.all_cons]
  by_cases c:inR xs[j]=true
  case neg =>
   have c':inR xs[j]=false:=by simpa using c
   have e:=k2 c'
   rw [c',Bool.false_and]
   obtain ⟨m,rfl⟩:∃ q,m=q+1:=⟨m - 1,by omega⟩
   by_cases h4:((j+1:Nat):Int) < xs.length
   case pos =>
    refine ⟨fun e=>(by cases e),fun _=>⟨v,h,?_,fun _ _ _ e=>e,rfl⟩⟩
    simp only [aAc,aFo,Zae,Zaf,Zag,Zah,Zai,Zak,Zal,Zan,Zao,Zap,Zar,Zav,Zaw,Zay,Zaz,Zbc,Zbd,Zbf,Zbk,Zbm,Zbn,Zbo,Zbp,Zbs,Zbu,Zcf,Zcj,Zck,Zct,Zcu,Zcz,Zda,Zdb,Zdd,Zde,Zdf,Zdg,Zdh,Q4,Q5,Q2,Q3,Zdi,Zdl,Zeq,Zer,decide_true,Z0,Z1,eq_self,Q8,Q9,nl,h3',ix,Zer,e,hw,h4]
   case neg =>
    refine ⟨fun e=>(by cases e),fun _=>⟨v,h,?_,fun _ _ _ e=>e,rfl⟩⟩
    simp only [aAc,aFo,Zae,Zaf,Zag,Zah,Zai,Zak,Zal,Zan,Zao,Zap,Zar,Zav,Zaw,Zay,Zaz,Zbc,Zbd,Zbf,Zbi,Zbk,Zbl,Zbm,Zbn,Zbo,Zbp,Zbs,Zbu,Zcf,Zcj,Zck,Zct,Zcu,Zcz,Zda,Zdb,Zdd,Zde,Zdf,Zdg,Zdh,Q4,Q5,Q2,Q3,Zdi,Zdl,Zeq,Zer,decide_true,decide_false,Z0,Z1,eq_self,Q8,Q9,nl,h3',ix,Zer,e,hw,h4]
  case pos =>
  obtain ⟨v1,H1,e1,o1,f1,g1⟩:=k1 c
  have bl:=aEK xs[j].toNat
  obtain ⟨j1,j2⟩:=ih (j+1) m _ v1 H1 (by omega) (by omega) o1 (by rw [Q7];omega)
  have run:aAn (aA7 (lim G0.cfg) N aCK) (m+1) ⟨[v,w,Q0,Q0,Q0,Q0,.bool true,.int .i64 j,Q0,Q0,Q0,Q0,Q0,Q0,Q0,Q0,Q0,Q0,Q0,Q0,Q0,Q0,Q0,Q0,Q0,Q0,Q0,Q0,Q0,Q0,Q0,Q0,Q0,Q0,Q0],h⟩=aAn (aA7 (lim G0.cfg) N aCK) m ⟨[v1,w,Q0,Q0,Q0,Q0,.bool true,.int .i64 (j+1:Nat),Q0,Q0,Q0,Q0,Q0,Q0,Q0,Q0,Q0,Q0,Q0,Q0,Q0,Q0,Q0,Q0,Q0,Q0,Q0,Q0,Q0,Q0,Q0,Q0,Q0,Q0,Q0],H1⟩:=by
   simp only [aAc,aFo,Zae,Zaf,Zag,Zah,Zai,Zak,Zan,Zao,Zar,Zav,Zay,Zbc,Zbd,Zbf,Zbk,Zbm,Zbn,Zbo,Zbp,Zbs,Zbu,Zcf,Zcj,Zck,Zct,Zcu,Zcz,Zda,Zdb,Zdd,Zde,Zdf,Zdg,Zdh,Q4,Q5,Q2,Q3,Zdi,Zdl,Zeq,Zer,decide_true,Z0,Z1,eq_self,Q8,Q9,nl,h3',ix,Zer,e1,hw]
  rw [run,c,Bool.true_and]
  have eE:aC0 (xs[j]::xs.drop (j+1))=aFO xs[j].toNat++aC0 (xs.drop (j+1)):=rfl
  rw [eE,← Z6]
  refine ⟨fun e => ?_,fun e => ?_⟩
  ·obtain ⟨v',h',e2,o2,f2,g2⟩:=j1 e
   exact ⟨v',h',e2,o2,fun p o hp e=>f2 p o hp (f1 p o hp e),by omega⟩
  ·obtain ⟨v',h',e2,f2,g2⟩:=j2 e
   exact ⟨v',h',e2,fun p o hp e=>f2 p o hp (f1 p o hp e),by omega⟩
def aFP (xs:List Int):List UInt8:=aFO xs.length++aC0 xs
theorem aDb (xs:List Int):(aFP xs).length≤5+5*xs.length:=by
 have h1:=aEK xs.length
 have h2:=aFQ xs
 unfold aFP
 rw [Q7]
 omega
theorem aVi {xs:List Int} {w:AV} (hr:Li xs w) (hn:xs.length≤100000) {l:List UInt8} {v:AV} {h:aA0} (ho:aBf l v h i) (hl:l.length≤10000000) :
  (xs.all inR=true→∃ (v':AV) (h':aA0),lim G0.cfg (.func 36) [v,w] h=some (.tup [v',.bool true],h')∧aBf (l++aFP xs) v' h' i∧(∀ j o,j≠i→h[j]?=some o→h'[j]?=some o)∧h'.length=h.length) ∧
  (xs.all inR=false→∃ (v':AV) (h':aA0),lim G0.cfg (.func 36) [v,w] h=some (.tup [v',.bool false],h')∧(∀ j o,j≠i→h[j]?=some o→h'[j]?=some o)∧h'.length=h.length):=by
 have nl:=hr.len
 obtain ⟨k1,_⟩:=aOE ho (by omega) (xs.length:Int)
 obtain ⟨v1,H1,e1,o1,f1,g1⟩:=k1 ((aFz _).2 ⟨by omega,by omega⟩)
 rw [Z7] at o1
 have bl:=aEK xs.length
 obtain ⟨j1,j2⟩:=aUi (N:=xs.length+1) hr (by omega) xs.length 0 (xs.length+1) _ v1 H1 (by omega) (by omega) o1 (by rw [Q7];omega)
 rw [z0,List.drop_zero] at j1 j2
 refine ⟨fun e => ?_,fun e => ?_⟩
 ·obtain ⟨v',h',e2,o2,f2,g2⟩:=j1 e
  refine ⟨v',h',aAX rfl aNd (xs.length+1) ?_,by unfold aFP;rw [← Z6];exact o2,fun p o hp e=>f2 p o hp (f1 p o hp e),by omega⟩
  rw [aN8]
  simp only [Zaf,Zag,Zai,Zaj,Zak,Zam,Zan,Zao,Zat,Zax,Zbc,Zbd,Zbm,Zbo,Zcj,Zck,Zct,Zcu,Zcy,Zcz,Zda,Zdb,Zdd,Zde,Zdf,Zdg,Zdh,Q4,Q5,Q2,Q3,Z5,Zeq,Z0,Z1,Q1,Q6,Nat.reduceAdd,Nat.reduceSub,eq_self,Q1,Q6,Z2,Z3,Q8,Q9,nl,e1,e2,aA5,aA4,aA8]
 ·obtain ⟨v',h',e2,f2,g2⟩:=j2 e
  refine ⟨v',h',aAX rfl aNd (xs.length+1) ?_,fun p o hp e=>f2 p o hp (f1 p o hp e),by omega⟩
  rw [aN8]
  simp only [Zaf,Zag,Zai,Zaj,Zak,Zam,Zan,Zao,Zat,Zax,Zbc,Zbd,Zbm,Zbo,Zcj,Zck,Zct,Zcu,Zcy,Zcz,Zda,Zdb,Zdd,Zde,Zdf,Zdg,Zdh,Q4,Q5,Q2,Q3,Z5,Zeq,Z0,Z1,Q1,Q6,Nat.reduceAdd,Nat.reduceSub,eq_self,Q1,Q6,Z2,Z3,Q8,Q9,nl,e1,e2,aA5,aA4,aA8]
end
end Go.Proofs.Ytgeedikghjcebaa.Ai
namespace Go.Proofs.Ytgeedikghjcebaa.Ai
open Go Go.Proofs
open AV renaming junk → J
open List renaming getD_cons_zero → Q0, getD_cons_succ → Q1, set_cons_zero → Q2, set_cons_succ → Q3, length_cons → Q6, length_nil → Q7
open Option renaming map_some → Q4, map_none → Q5
set_option linter.unusedVariables false
set_option linter.unusedSimpArgs false
set_option maxRecDepth 10000
set_option maxHeartbeats 4000000
theorem aL3 {C:Cfg} {g:Nat} (hp:C.pu g=true) {a:List AV} {l:List (AV × Bool)} {H:aA0} (ha:aAp (freeze H 1000) a=some l) (hl:aAp (freeze [] 1000) (l.map (·.1))=some ((l.map (·.1)).map fun x=>(x,true))) {y:AV} (hy:lim C (.func g) (l.map (·.1)) []=some (y,[])) (hf:aFI y=true):lim C (.func g) a H=some (y,H):=by
 obtain ⟨k,hk⟩:=aIc.1 hy
 cases k with
 | zero=>cases hk
 | succ k =>
  refine aIc.2 ⟨k+1,?_⟩
  simp only [aBY,hp,if_true] at hk ⊢
  unfold aC7 at hk ⊢
  have e:(List.map (fun x=>x.1) ((l.map (·.1)).map fun x:AV=>(x,true)))=l.map (·.1):=by simp [Function.comp_def]
  rw [hl] at hk
  rw [ha]
  simp only [e] at hk ⊢
  cases c:aDN C (aBY C k) k g (l.map (·.1)) with
  | none=>rw [c] at hk;cases hk
  | some v =>
   rw [c] at hk
   simp only at hk ⊢
   generalize (_ || aFI v || _)=b at hk
   cases b with
   | false=>cases hk
   | true =>
    simp only [cond_true,Option.some.injEq,Prod.mk.injEq,and_true] at hk
    subst hk
    simp [hf]
def rdG:Nat→Nat→List UInt8→Option (Nat × Bool × List UInt8)
 | _,_,[]=>none
 | i,n,c::l =>
  if 4 < i∨(i=4∧7 < c.toNat) then none else
  if c.toNat < 128 then some (n+c.toNat % 128*128 ^ i,decide (c.toNat=0) && decide (0 < i),l) else rdG (i+1) (n+c.toNat % 128*128 ^ i) l
def aAH (s:List UInt8 × Bool):Nat × (List UInt8 × Bool) :=
 match rdG 0 0 s.1 with
 | some (x,z,r)=>(x,(r,s.2 || z))
 | none=>(0,([],true))
def aEZ:Nat→List UInt8 × Bool→List Int × (List UInt8 × Bool)
 | 0,s=>([],s)
 | k+1,s=>(((aAH s).1:Int)::(aEZ k (aAH s).2).1,(aEZ k (aAH s).2).2)
def aFm (s:List UInt8 × Bool):List Int × (List UInt8 × Bool):=aEZ (min (aAH s).1 ((aAH s).2.1.length+1)) (aAH s).2
theorem aS2:∀ (l:List UInt8) (i n:Nat) {x:Nat} {z:Bool} {r:List UInt8},n < 128 ^ i→i≤4→rdG i n l=some (x,z,r)→x < 2147483648∧r.length < l.length
 | [],_,_,_,_,_,_,_,h=>by cases h
 | c::l,i,n,x,z,r,hn,hi,h=>by
  unfold rdG at h
  have hc:c.toNat < 256:=UInt8.toNat_lt c
  by_cases c1:4 < i∨(i=4∧7 < c.toNat)
  ·rw [if_pos c1] at h;cases h
  ·rw [if_neg c1] at h
   have hm:n+c.toNat % 128*128 ^ i < 128 ^ (i+1):=by
    have:c.toNat % 128*128 ^ i≤127*128 ^ i:=Nat.mul_le_mul_right _ (by omega)
    rw [Nat.pow_succ];omega
   by_cases c2:c.toNat < 128
   ·rw [if_pos c2] at h
    cases h
    refine ⟨?_,by simp⟩
    rcases i with _ | _ | _ | _ | _ | i
    ·simp at hm ⊢;omega
    ·simp at hm ⊢;omega
    ·simp at hm ⊢;omega
    ·simp at hm ⊢;omega
    ·simp at hn c1 ⊢;omega
    ·omega
   ·rw [if_neg c2] at h
    by_cases c3:i=4
    ·omega
    ·have:=aS2 l (i+1) _ hm (by omega) h
     simp only [Q6]
     omega
theorem aGv (s:List UInt8 × Bool):(aAH s).1 < 2147483648∧(aAH s).2.1.length≤s.1.length:=by
 unfold aAH
 cases h:rdG 0 0 s.1 with
 | none=>simp
 | some q =>
  obtain ⟨x,z,r⟩:=q
  have:=aS2 s.1 0 0 (by decide) (by omega) h
  simp only
  omega
theorem aVW (q:EqK) (c:UInt8):aB2 .and q (.int .u8 c.toNat) (.int .u8 127)=some (.int .u8 ((c.toNat % 128:Nat):Int)):=by
 have h:=UInt8.toNat_lt c
 have e:aB2 .and q (.int .u8 c.toNat) (.int .u8 127)=some (.int .u8 (IntKind.u8.wrap (BitVec.ofInt 8 (c.toNat:Int) &&& BitVec.ofInt 8 127).toNat)):=rfl
 rw [e]
 have e1:(BitVec.ofInt 8 (c.toNat:Int) &&& BitVec.ofInt 8 127).toNat=c.toNat % 128:=by
  have a:BitVec.ofInt 8 (c.toNat:Int)=BitVec.ofNat 8 c.toNat:=BitVec.ofInt_natCast ..
  have b:BitVec.ofInt 8 127=BitVec.ofNat 8 127:=rfl
  rw [a,b,BitVec.toNat_and,BitVec.toNat_ofNat,BitVec.toNat_ofNat]
  have e3:c.toNat % 2 ^ 8=c.toNat:=Nat.mod_eq_of_lt h
  rw [e3]
  exact Nat.and_two_pow_sub_one_eq_mod c.toNat 7
 rw [e1,IntKind.wrap_u8]
 congr 2
 omega
theorem aWw (q:EqK) (a i:Nat) (ha:a < 128) (hi:i≤4):aB2 .shl q (.int .i64 a) (.int .i64 ((7*i:Nat):Int))=some (.int .i64 ((a*128 ^ i:Nat):Int)):=by
 have h0:¬ (((7*i:Nat):Int) < 0):=by omega
 have hm:min (7*i) IntKind.i64.bits=7*i:=Nat.min_eq_left (by simp [IntKind.bits];omega)
 have e:(2:Int) ^ (7*i)=((128 ^ i:Nat):Int):=by rw [Int.pow_mul];norm_cast
 have hp:128 ^ i≤268435456:=by
  have:128 ^ i≤128 ^ 4:=Nat.pow_le_pow_right (by decide) hi
  exact this
 have hb:a*128 ^ i≤127*268435456:=Nat.mul_le_mul (by omega) hp
 have w:IntKind.i64.wrap ((a:Int)*((128 ^ i:Nat):Int))=((a*128 ^ i:Nat):Int):=by
  have:(a:Int)*((128 ^ i:Nat):Int)=((a*128 ^ i:Nat):Int):=by norm_cast
  rw [this,w64 (by omega) (by omega)]
 have d:aB2 .shl q (.int .i64 a) (.int .i64 ((7*i:Nat):Int))=aIp .shl .i64 a ((7*i:Nat):Int):=rfl
 rw [d]
 simp only [aIp,h0,if_false,Int.toNat_natCast,hm,e,w]
theorem orN (q:EqK) (n a i:Nat) (hn:n < 128 ^ i) (ha:a < 128) (hi:i≤4):aB2 .or q (.int .i64 n) (.int .i64 ((a*128 ^ i:Nat):Int))=some (.int .i64 ((n+a*128 ^ i:Nat):Int)):=by
 have hp:128 ^ i≤268435456:=by
  have:128 ^ i≤128 ^ 4:=Nat.pow_le_pow_right (by decide) hi
  exact this
 have hb:a*128 ^ i≤127*268435456:=Nat.mul_le_mul (by omega) hp
 have e:aB2 .or q (.int .i64 n) (.int .i64 ((a*128 ^ i:Nat):Int))=some (.int .i64 (IntKind.i64.wrap (BitVec.ofInt 64 (n:Int) ||| BitVec.ofInt 64 ((a*128 ^ i:Nat):Int)).toNat)):=rfl
 rw [e]
 have e1:(BitVec.ofInt 64 (n:Int) ||| BitVec.ofInt 64 ((a*128 ^ i:Nat):Int)).toNat=n+a*128 ^ i:=by
  rw [BitVec.ofInt_natCast,BitVec.ofInt_natCast,BitVec.toNat_or,BitVec.toNat_ofNat,BitVec.toNat_ofNat,Nat.mod_eq_of_lt (by omega),Nat.mod_eq_of_lt (by omega)]
  have e2:128 ^ i=2 ^ (7*i):=by rw [Nat.pow_mul]
  rw [e2] at hn ⊢
  have:=Nat.shiftLeft_add_eq_or_of_lt hn a
  rw [Nat.shiftLeft_eq] at this
  rw [Nat.or_comm,← this,Nat.add_comm]
 rw [e1,w64 (by omega) (by omega)]
def rdO (w:AV) (b:Bool):AObj:=.arr 0 2 true [[w,.bool b]]
section
variable {h : aA0} {r : Nat} {w : AV} {b : Bool}
theorem aOD (e:h[r]?=some (rdO w b)):aAd h 1 false (.ptr r 0 0 0)=some w:=by rw [aAV h 1 r 0 0 0 false 2 true _ _ e rfl];rfl
theorem aTR (e:h[r]?=some (rdO w b)):aAd h 1 false (.ptr r 0 0 1)=some (.bool b):=by rw [aAV h 1 r 0 0 1 false 2 true _ _ e rfl];rfl
theorem aTQ (e:h[r]?=some (rdO w b)) {v:AV} (hc:cellsOf v=[v]∧aAr v=true):aAw h 1 (.ptr r 0 0 0) v=some (h.set r (rdO v b)):=by
 rw [aNF h 1 r 0 0 0 _ 2 true _ _ e rfl (by rw [hc.1];rfl) (by simp) (by rw [hc.1];simp [hc.2])]
 rw [hc.1];rfl
theorem aTP (e:h[r]?=some (rdO w b)) (b':Bool):aAw h 1 (.ptr r 0 0 1) (.bool b')=some (h.set r (rdO w b')):=by
 rw [aNF h 1 r 0 0 1 _ 2 true _ _ e rfl rfl (by simp) rfl];rfl
end
section
variable {r : Nat} {N : Nat}
theorem aUm {l:List UInt8} {w:AV} (hl:LiB l w) (hn:l.length≤1000000000) {bad:Bool} {h:aA0} (er:h[r]?=some (rdO w bad)) :
  ∀ (d i m n:Nat),l.length=i+d→d < m→i≤5→n < 128 ^ i →
  (∀ x z rest,rdG i n (l.drop i)=some (x,z,rest)→∃ w',LiB rest w'∧aAn (aA7 (lim G0.cfg) N aB0) m ⟨(.ptr r 0 0 0::J::J::.int .i64 n::J::J::J::J::J::w::.int .i64 l.length::.int .i64 i::J::J::J::J::J::J::J::J::J::J::J::J::J::J::J::J::J::J::J::J::J::J::J::J::J::J::J::J::J::J::J::J::J::J::J::J::J::J::J::J::J::J::J::J::J::J::J::J::J::J::J::J::J::J::J::J::J::[]),h⟩=some (.ret,⟨(J::J::.int .i64 x::J::J::J::J::J::J::J::J::J::J::J::J::J::J::J::J::J::J::J::J::J::J::J::J::J::J::J::J::J::J::J::J::J::J::J::J::J::J::J::J::J::J::J::J::J::J::J::J::J::J::J::J::J::J::J::J::J::J::J::J::J::J::J::J::J::J::[]),h.set r (rdO w' (bad || z))⟩)) ∧
  (rdG i n (l.drop i)=none→aAn (aA7 (lim G0.cfg) N aB0) m ⟨(.ptr r 0 0 0::J::J::.int .i64 n::J::J::J::J::J::w::.int .i64 l.length::.int .i64 i::J::J::J::J::J::J::J::J::J::J::J::J::J::J::J::J::J::J::J::J::J::J::J::J::J::J::J::J::J::J::J::J::J::J::J::J::J::J::J::J::J::J::J::J::J::J::J::J::J::J::J::J::J::J::J::J::J::[]),h⟩=some (.exit 0,⟨(.ptr r 0 0 0::J::J::J::J::J::J::J::J::J::J::J::J::J::J::J::J::J::J::J::J::J::J::J::J::J::J::J::J::J::J::J::J::J::J::J::J::J::J::J::J::J::J::J::J::J::J::J::J::J::J::J::J::J::J::J::J::J::J::J::J::J::J::J::J::J::J::J::J::[]),h⟩)):=by
 intro d
 induction d with
 | zero =>
  intro i m n h1 h2 hi hn
  obtain ⟨m,rfl⟩:∃ q,m=q+1:=⟨m - 1,by omega⟩
  have h3:¬ ((i:Int) < l.length):=by omega
  rw [List.drop_of_length_le (by omega:l.length≤i)]
  refine ⟨fun x z rest e=>(by cases e),fun _ => ?_⟩
  simp only [aAc,aAL,Zaf,Zag,Zah,Zak,Zal,Zan,Zao,Zap,Zaw,Zaz,Zbc,Zbm,Zbu,Zcz,Zdb,Zdf,Zdg,Zdh,Q2,Q3,Q0,Q1,Zdl,decide_false,eq_self,h3]
 | succ d ih =>
  intro i m n h1 h2 hi hn
  obtain ⟨m,rfl⟩:∃ q,m=q+1:=⟨m - 1,by omega⟩
  have h3:i < l.length:=by omega
  have h3':(i:Int) < l.length:=by omega
  have hw:=aBd (n:=i) (by omega)
  have ix:=hl.ix h .i64 i h3
  have hc:l[i].toNat < 256:=UInt8.toNat_lt _
  obtain ⟨c,hcc⟩:∃ c,c=l[i]:=⟨_,rfl⟩
  rw [List.drop_eq_getElem_cons h3]
  rw [← hcc] at ix hc ⊢
  unfold rdG
  by_cases c1:4 < i
  case pos =>
   rw [if_pos (.inl c1)]
   have d1:(4:Int) < i:=by omega
   refine ⟨fun x z rest e=>(by cases e),fun _ => ?_⟩
   simp only [aAc,aAL,Zae,Zaf,Zag,Zah,Zai,Zak,Zal,Zan,Zao,Zap,Zau,Zav,Zaz,Zbc,Zbh,Zbj,Zbk,Zbm,Zbn,Zbo,Zbp,Zbs,Zbu,Zcf,Zcz,Zda,Zdb,Zdf,Zdg,Zdh,Q2,Q3,Q0,Q1,Nat.reduceBEq,Zdl,Zdn,decide_true,eq_self,h3',ix,aFH,d1]
  case neg =>
  have d1:¬ (4:Int) < i:=by omega
  by_cases c2:i=4∧7 < c.toNat
  case pos =>
   rw [if_pos (.inr c2)]
   have d2:decide ((i:Int)=4)=true:=decide_eq_true (by omega)
   have d3:(7:Int) < c.toNat:=by omega
   refine ⟨fun x z rest e=>(by cases e),fun _ => ?_⟩
   simp only [aAc,aAL,Zae,Zaf,Zag,Zah,Zai,Zak,Zal,Zan,Zao,Zap,Zau,Zav,Zaz,Zbc,Zbf,Zbg,Zbk,Zbl,Zbm,Zbn,Zbo,Zbp,Zbs,Zbu,Zcf,Zcz,Zda,Zdb,Zdf,Zdg,Zdh,Q2,Q3,Q0,Q1,Nat.reduceBEq,Zdl,Zdn,Zdp,decide_true,decide_false,eq_self,h3',ix,aFH,d1,d2,d3]
  case neg =>
  have cc:¬ (4 < i∨(i=4∧7 < c.toNat)):=fun h=>by rcases h with h | h;exact c1 h;exact c2 h
  rw [if_neg cc]
  have hi4:i≤4:=by omega
  have q1:=fun q=>aVW q c
  have q2:∀ a:Nat,aFn .i64 (.int .u8 ((c.toNat % 128:Nat):Int))=some (.int .i64 ((c.toNat % 128:Nat):Int)):=fun _=>by
   rw [cvI,w64 (by omega) (by omega)]
  have q3:IntKind.i64.wrap (7*(i:Int))=((7*i:Nat):Int):=by rw [w64 (by omega) (by omega)];omega
  have q4:=fun q=>aWw q (c.toNat % 128) i (by omega) hi4
  have q5:=fun q=>orN q n (c.toNat % 128) i hn (by omega) hi4
  obtain ⟨n',hn'⟩:∃ n',n'=n+c.toNat % 128*128 ^ i:=⟨_,rfl⟩
  have hb:n' < 128 ^ (i+1):=by
   have:c.toNat % 128*128 ^ i≤127*128 ^ i:=Nat.mul_le_mul_right _ (by omega)
   rw [hn',Nat.pow_succ];omega
  rw [← hn'] at q5 ⊢
  have q2:=q2 0
  by_cases c3:c.toNat < 128
  case pos =>
   rw [if_pos c3]
   have d3:(c.toNat:Int) < 128:=by omega
   refine ⟨fun x z rest e => ?_,fun e=>(by cases e)⟩
   simp only [Option.some.injEq,Prod.mk.injEq] at e
   obtain ⟨rfl,rfl,rfl⟩:=e
   have lb:=aTR er
   obtain ⟨z,hz⟩:∃ z,z=(decide (c.toNat=0) && decide (0 < i)):=⟨_,rfl⟩
   have s1:=aTP er (bad || z)
   have er2:(h.set r (rdO w (bad || z)))[r]?=some (rdO w (bad || z)):=aAo er
   have l0:=aOD er2
   obtain ⟨w',e1,lw⟩:=hl.from (h.set r (rdO w (bad || z))) .i64 (i+1) (by omega)
   have s2:=aTQ er2 lw.cell
   rw [set_set] at s2
   refine ⟨w',lw,?_⟩
   rw [← hz]
   have e1':aBB (h.set r (rdO w (bad || z))) 1 w (some (.int .i64 ((i+1:Nat):Int))) none none=some w':=e1
   by_cases c4:i=4
   case pos =>
    have d2:decide ((i:Int)=4)=true:=decide_eq_true (by omega)
    have d5:¬ (7:Int) < c.toNat:=by omega
    cases bad with
    | true =>
     rw [Bool.true_or] at s1 s2 l0 e1' ⊢
     simp only [aAc,aAL,Zae,Zaf,Zag,Zah,Zai,Zak,Zam,Zan,Zao,Zaq,Zas,Zav,Zaw,Zba,Zbc,Zbe,Zbf,Zbg,Zbh,Zbj,Zbk,Zbl,Zbm,Zbn,Zbo,Zbp,Zbs,Zbt,Zbu,Zbw,Zca,Zcc,Zcd,Zcf,Zcz,Zda,Zdb,Zdc,Zdf,Zdg,Zdh,Q2,Q3,Q0,Q1,Q4,Zdi,Zdk,Zdl,Zdn,Zdp,Zeb,decide_true,decide_false,Nat.reduceAdd,eq_self,h3',ix,aFH,d1,d2,d5,q1,q2,q3,q4,q5,d3,aEL,lb,s1,l0,hw,Q5,e1',s2]
    | false =>
     rw [Bool.false_or] at s1 s2 l0 e1' ⊢
     have dz:decide ((c.toNat:Int)=0)=decide (c.toNat=0):=decide_eq_decide.2 (by omega)
     have dp:decide ((0:Int) < i)=true:=decide_eq_true (by omega)
     by_cases c5:c.toNat=0
     ·have d6:decide ((c.toNat:Int)=0)=true:=decide_eq_true (by omega)
      have ez:z=true:=by rw [hz];simp [c5];omega
      subst ez
      simp only [aAc,aAL,Zae,Zaf,Zag,Zah,Zai,Zak,Zam,Zan,Zao,Zaq,Zas,Zav,Zaw,Zba,Zbc,Zbe,Zbf,Zbg,Zbk,Zbl,Zbm,Zbn,Zbo,Zbp,Zbs,Zbt,Zbu,Zbw,Zca,Zcc,Zcd,Zcf,Zcz,Zda,Zdb,Zdc,Zdf,Zdg,Zdh,Q2,Q3,Q0,Q1,Q4,Zdi,Zdk,Zdl,Zdn,Zdp,Zeb,decide_true,decide_false,Nat.reduceAdd,eq_self,h3',ix,aFH,d1,d2,d5,q1,q2,q3,q4,q5,d3,aEL,lb,d6,dp,s1,l0,hw,Q5,e1',s2]
     ·have d6:decide ((c.toNat:Int)=0)=false:=decide_eq_false (by omega)
      have ez:z=false:=by rw [hz];simp [c5]
      subst ez
      simp only [aAc,aAL,Zae,Zaf,Zag,Zah,Zai,Zak,Zam,Zan,Zao,Zaq,Zas,Zav,Zaw,Zba,Zbc,Zbe,Zbf,Zbg,Zbi,Zbk,Zbl,Zbm,Zbn,Zbo,Zbp,Zbs,Zbt,Zbu,Zbw,Zca,Zcc,Zcd,Zcf,Zcz,Zda,Zdb,Zdc,Zdf,Zdg,Zdh,Q2,Q3,Q0,Q1,Q4,Zdi,Zdk,Zdl,Zdn,Zdp,Zeb,decide_true,decide_false,Nat.reduceAdd,eq_self,h3',ix,aFH,d1,d2,d5,q1,q2,q3,q4,q5,d3,aEL,lb,d6,s1,l0,hw,Q5,e1',s2]
   case neg =>
    have d2:decide ((i:Int)=4)=false:=decide_eq_false (by omega)
    cases bad with
    | true =>
     rw [Bool.true_or] at s1 s2 l0 e1' ⊢
     simp only [aAc,aAL,Zae,Zaf,Zag,Zah,Zai,Zak,Zam,Zan,Zao,Zaq,Zas,Zav,Zaw,Zba,Zbc,Zbe,Zbg,Zbh,Zbi,Zbj,Zbk,Zbl,Zbm,Zbn,Zbo,Zbp,Zbs,Zbt,Zbu,Zbw,Zca,Zcc,Zcd,Zcf,Zcz,Zda,Zdb,Zdc,Zdf,Zdg,Zdh,Q2,Q3,Q0,Q1,Q4,Zdi,Zdk,Zdl,Zdn,Zdp,Zeb,decide_true,decide_false,Nat.reduceAdd,eq_self,h3',ix,aFH,d1,d2,q1,q2,q3,q4,q5,d3,aEL,lb,s1,l0,hw,Q5,e1',s2]
    | false =>
     rw [Bool.false_or] at s1 s2 l0 e1' ⊢
     by_cases c5:c.toNat=0
     ·have d6:decide ((c.toNat:Int)=0)=true:=decide_eq_true (by omega)
      obtain ⟨y,hy⟩:∃ y,y=decide ((0:Int) < i):=⟨_,rfl⟩
      have ez:z=y:=by
       rw [hz,hy]
       have:decide (c.toNat=0)=true:=decide_eq_true c5
       rw [this,Bool.true_and]
       exact decide_eq_decide.2 (by omega)
      subst ez
      simp only [aAc,aAL,Zae,Zaf,Zag,Zah,Zai,Zak,Zam,Zan,Zao,Zaq,Zas,Zav,Zaw,Zba,Zbc,Zbe,Zbf,Zbg,Zbi,Zbk,Zbl,Zbm,Zbn,Zbo,Zbp,Zbs,Zbt,Zbu,Zbw,Zca,Zcc,Zcd,Zcf,Zcz,Zda,Zdb,Zdc,Zdf,Zdg,Zdh,Q2,Q3,Q0,Q1,Q4,Zdi,Zdk,Zdl,Zdn,Zdp,Zeb,decide_true,decide_false,Nat.reduceAdd,eq_self,h3',ix,aFH,d1,d2,q1,q2,q3,q4,q5,d3,aEL,lb,d6,← hy,s1,l0,hw,Q5,e1',s2]
     ·have d6:decide ((c.toNat:Int)=0)=false:=decide_eq_false (by omega)
      have ez:z=false:=by rw [hz];simp [c5]
      subst ez
      simp only [aAc,aAL,Zae,Zaf,Zag,Zah,Zai,Zak,Zam,Zan,Zao,Zaq,Zas,Zav,Zaw,Zba,Zbc,Zbe,Zbg,Zbi,Zbl,Zbm,Zbn,Zbo,Zbp,Zbs,Zbt,Zbu,Zbw,Zca,Zcc,Zcd,Zcf,Zcz,Zda,Zdb,Zdc,Zdf,Zdg,Zdh,Q2,Q3,Q0,Q1,Q4,Zdi,Zdk,Zdl,Zdn,Zdp,Zeb,decide_true,decide_false,Nat.reduceAdd,eq_self,h3',ix,aFH,d1,d2,q1,q2,q3,q4,q5,d3,aEL,lb,d6,s1,l0,hw,Q5,e1',s2]
  case neg =>
  rw [if_neg c3]
  have d3:¬ (c.toNat:Int) < 128:=by omega
  have run:aAn (aA7 (lim G0.cfg) N aB0) (m+1) ⟨(.ptr r 0 0 0::J::J::.int .i64 n::J::J::J::J::J::w::.int .i64 l.length::.int .i64 i::J::J::J::J::J::J::J::J::J::J::J::J::J::J::J::J::J::J::J::J::J::J::J::J::J::J::J::J::J::J::J::J::J::J::J::J::J::J::J::J::J::J::J::J::J::J::J::J::J::J::J::J::J::J::J::J::J::[]),h⟩=aAn (aA7 (lim G0.cfg) N aB0) m ⟨(.ptr r 0 0 0::J::J::.int .i64 n'::J::J::J::J::J::w::.int .i64 l.length::.int .i64 (i+1:Nat)::J::J::J::J::J::J::J::J::J::J::J::J::J::J::J::J::J::J::J::J::J::J::J::J::J::J::J::J::J::J::J::J::J::J::J::J::J::J::J::J::J::J::J::J::J::J::J::J::J::J::J::J::J::J::J::J::J::[]),h⟩:=by
   by_cases c4:i=4
   case pos=>omega
   case neg =>
    have d2:decide ((i:Int)=4)=false:=decide_eq_false (by omega)
    simp only [aAc,aAL,Zae,Zaf,Zag,Zah,Zai,Zak,Zan,Zao,Zar,Zav,Zaw,Zay,Zbc,Zbg,Zbi,Zbl,Zbm,Zbn,Zbo,Zbp,Zbs,Zbu,Zbw,Zcf,Zcz,Zda,Zdb,Zdf,Zdg,Zdh,Q2,Q3,Q0,Q1,Zdi,Zdk,Zdl,Zdn,Zdp,decide_true,decide_false,eq_self,h3',ix,aFH,d1,d2,q1,q2,q3,q4,q5,d3,hw]
  rw [run]
  exact ih (i+1) m n' (by omega) (by omega) (by omega) hb
theorem aHX {l:List UInt8} {w:AV} (hl:LiB l w) (hn:l.length≤1000000000) {bad:Bool} {h:aA0} (er:h[r]?=some (rdO w bad)) :
  ∃ w',LiB (aAH (l,bad)).2.1 w'∧lim G0.cfg (.func 19) [.ptr r 0 0 0] h=some (.int .i64 (aAH (l,bad)).1,h.set r (rdO w' (aAH (l,bad)).2.2)):=by
 have nl:=hl.len
 have l0:=aOD er
 obtain ⟨k1,k2⟩:=aUm (N:=l.length+1) hl hn er l.length 0 (l.length+1) 0 (by omega) (by omega) (by omega) (by decide)
 rw [z0,List.drop_zero] at k1 k2
 unfold aAH
 simp only
 cases c:rdG 0 0 l with
 | none =>
  have e:=k2 c
  have s1:=aTP er true
  have er2:(h.set r (rdO w true))[r]?=some (rdO w true):=aAo er
  have s2:=aTQ er2 (v:=.nilS) ⟨rfl,rfl⟩
  rw [set_set] at s2
  refine ⟨.nilS,aL4,aAX rfl aEC (l.length+1) ?_⟩
  rw [aEB]
  simp only [Zaf,Zag,Zai,Zaj,Zak,Zam,Zan,Zao,Zat,Zax,Zbc,Zbe,Zbm,Zbo,Zbs,Zbt,Zcc,Zcd,Zck,Zcy,Zcz,Zda,Zdb,Zdc,Zdf,Zdg,Zdh,Q2,Q3,Q0,Q1,Q4,Zeb,Q6,Q7,Nat.reduceAdd,Nat.reduceSub,eq_self,Q6,Q7,List.replicate_succ,List.replicate_zero,List.cons_append,List.nil_append,aEL,l0,nl,e,s1,s2,aA5,aA4,aA8,z0]
 | some q =>
  obtain ⟨x,z,rest⟩:=q
  obtain ⟨w',lw,e⟩:=k1 x z rest c
  refine ⟨w',lw,aAX rfl aEC (l.length+1) ?_⟩
  rw [aEB]
  simp only [Zaf,Zag,Zai,Zaj,Zak,Zan,Zao,Zaq,Zas,Zax,Zbc,Zbm,Zbo,Zbs,Zcc,Zcd,Zck,Zcy,Zcz,Zda,Zdb,Zdf,Zdg,Zdh,Q2,Q3,Q0,Q1,Q4,Zeb,Q6,Q7,Nat.reduceAdd,Nat.reduceSub,eq_self,Q6,Q7,List.replicate_succ,List.replicate_zero,List.cons_append,List.nil_append,aEL,l0,nl,e,aA5,aA4,aA8]
end
end Go.Proofs.Ytgeedikghjcebaa.Ai
