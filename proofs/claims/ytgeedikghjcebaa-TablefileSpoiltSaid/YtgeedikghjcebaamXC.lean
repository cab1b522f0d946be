/- Rows of bytes; the checksum. -/
import Derived.Test.YtgeedikghjcebaamXB
import Derived.Test.YtgeedikghjcebaamXA
import Derived.Laws.BitsLemmas
namespace Go.Proofs.Ytgeedikghjcebaa.Ai
open Go Go.Proofs
open AV renaming junk → J
open List renaming drop_zero → Q0, length_nil → Q1, take_of_length_le → Q2, getD_cons_zero → Q5, getD_cons_succ → Q6
open Option renaming getD_some → Q3, map_some → Q4
set_option linter.unusedVariables false
set_option linter.unusedSimpArgs false
set_option maxRecDepth 10000
set_option maxHeartbeats 4000000
def eB (b:UInt8):List AV:=[.int .u8 b.toNat]
def eBs (l:List UInt8):List (List AV):=l.map eB
theorem aBj (l:List UInt8):(eBs l).length=l.length:=by simp [eBs]
theorem aLn (a b:List UInt8):eBs (a++b)=eBs a++eBs b:=by simp [eBs]
theorem aOS (l:List UInt8):(eBs l).all (fun c=>c.length==1 && c.all aAp)=true:=by
 induction l with
 | nil=>rfl
 | cons a z ih=>simp [eBs,eB,aAp]
theorem aFJ (h:aA0) (b:UInt8):aAb h 1 false (.vptr (eB b) 0)=some (.int .u8 b.toNat):=rfl
theorem aIy:∀ l:List UInt8,aEY (eBs l)=some l
 | []=>rfl
 | b::l=>by
  have:eBs (b::l)=[.int .u8 b.toNat]::eBs l:=rfl
  rw [this]
  simp only [aEY,aIy l,Q4]
  simp
def LiB (l:List UInt8) (v:AV):Prop:=(l=[]∧v=.nilS)∨∃ e,v=.vsl e (eBs l)
theorem LiB.len {l:List UInt8} {v:AV} (hl:LiB l v) (h:aA0):aBX h .slice v=some (.int .i64 l.length):=by
 rcases hl with ⟨rfl,rfl⟩ | ⟨e,rfl⟩
 ·rfl
 ·simp [aBX,aBj]
theorem LiB.ix {l:List UInt8} {v:AV} (hl:LiB l v) (h:aA0) (k:IntKind) (j:Nat) (hj:j < l.length):aAN h 1 v (.int k j)=some (.vptr (eB l[j]) 0):=by
 rcases hl with ⟨rfl,rfl⟩ | ⟨e,rfl⟩
 ·simp at hj
 ·exact aQ7 eB h 1 e l k j hj rfl
theorem LiB.fz {l:List UInt8} {v:AV} (hl:LiB l v) (h:aA0) (d:Nat):freeze h (d+1) v=some (v,true):=by
 rcases hl with ⟨rfl,rfl⟩ | ⟨e,rfl⟩ <;> rfl
theorem LiB.cell {l:List UInt8} {v:AV} (hl:LiB l v):cellsOf v=[v]∧aAp v=true:=by
 rcases hl with ⟨rfl,rfl⟩ | ⟨e,rfl⟩ <;> exact ⟨rfl,rfl⟩
theorem LiB.elems {l:List UInt8} {v:AV} (hl:LiB l v) (h:aA0):aAC h 1 v=some (eBs l):=by
 rcases hl with ⟨rfl,rfl⟩ | ⟨e,rfl⟩
 ·rfl
 ·cases l with
  | nil=>rfl
  | cons a r=>simp [aAC,eBs,eB]
theorem LiB.str {l:List UInt8} {v:AV} (hl:LiB l v) (h:aA0):aBQ h v=some (.str l):=by
 have:=hl.elems h
 rcases hl with ⟨rfl,rfl⟩ | ⟨e,rfl⟩
 ·rfl
 ·simp only [aBQ,this,Option.bind_some,aIy,Q4]
theorem aJF:LiB [] .nilS:=.inl ⟨rfl,rfl⟩
theorem aD1 (e:Bool) (l:List UInt8):LiB l (.vsl e (eBs l)):=.inr ⟨e,rfl⟩
theorem aGE (l:List UInt8):aJd 1 (eBs l)=true:=by cases l <;> rfl
theorem aNC (l:List UInt8) (n:Nat):(eBs l).drop n=eBs (l.drop n):=by simp [eBs,List.map_drop]
theorem aKs (l:List UInt8) (n:Nat):(eBs l).take n=eBs (l.take n):=by simp [eBs,List.map_take]
theorem LiB.from {l:List UInt8} {v:AV} (hl:LiB l v) (h:aA0) (k:IntKind) (n:Nat) (hn:n≤l.length):∃ w,aBs h 1 v (some (.int k n)) none none=some w∧LiB (l.drop n) w:=by
 rcases hl with ⟨rfl,rfl⟩ | ⟨e,rfl⟩
 ·simp only [Q1,Nat.le_zero] at hn
  subst hn
  exact ⟨.nilS,rfl,.inl ⟨rfl,rfl⟩⟩
 ·refine ⟨.vsl (aEU e (eBs l).length (eBs l).length none) (eBs (l.drop n)),?_,aD1 _ _⟩
  have hb:aC1 (eBs l).length (eBs l).length (some (.int k n)) none none=some (n,(eBs l).length,none):=by
   simp only [aC1,aDj,Q3,Option.getD_none]
   rw [if_pos (by rw [aBj];omega)]
   simp
  simp only [aBs,hb,List.take_length,aNC,aGE,if_true]
theorem LiB.upto {l:List UInt8} {v:AV} (hl:LiB l v) (h:aA0) (k:IntKind) (n:Nat) (hn:n≤l.length):∃ w,aBs h 1 v none (some (.int k n)) none=some w∧LiB (l.take n) w:=by
 rcases hl with ⟨rfl,rfl⟩ | ⟨e,rfl⟩
 ·simp only [Q1,Nat.le_zero] at hn
  subst hn
  exact ⟨.nilS,rfl,.inl ⟨rfl,rfl⟩⟩
 ·refine ⟨.vsl (aEU e (eBs l).length n none) (eBs (l.take n)),?_,aD1 _ _⟩
  have hb:aC1 (eBs l).length (eBs l).length none (some (.int k n)) none=some (0,n,none):=by
   simp only [aC1,aDj,Q3,Option.getD_none]
   rw [if_pos (by rw [aBj];omega)]
   simp
  simp only [aBs,hb,Q0,aKs,aGE,if_true]
theorem LiB.upto3 {l:List UInt8} {v:AV} (hl:LiB l v) (h:aA0) (k k':IntKind) (n:Nat) (hn:n≤l.length):∃ w,aBs h 1 v none (some (.int k n)) (some (.int k' n))=some w∧LiB (l.take n) w:=by
 rcases hl with ⟨rfl,rfl⟩ | ⟨e,rfl⟩
 ·simp only [Q1,Nat.le_zero] at hn
  subst hn
  exact ⟨.nilS,rfl,.inl ⟨rfl,rfl⟩⟩
 ·refine ⟨.vsl (aEU e (eBs l).length n (some n)) (eBs (l.take n)),?_,aD1 _ _⟩
  have hb:aC1 (eBs l).length (eBs l).length none (some (.int k n)) (some (.int k' n))=some (0,n,some n):=by
   simp only [aC1,aDj,Q3,Option.getD_none]
   rw [if_pos (by rw [aBj];omega)]
   simp [aBj,hn]
  simp only [aBs,hb,Q0,aKs,aGE,if_true]
theorem LiB.mid {l:List UInt8} {v:AV} (hl:LiB l v) (h:aA0) (k k':IntKind) (m n:Nat) (hm:m≤n) (hn:n≤l.length):∃ w,aBs h 1 v (some (.int k m)) (some (.int k' n)) none=some w∧LiB ((l.take n).drop m) w:=by
 rcases hl with ⟨rfl,rfl⟩ | ⟨e,rfl⟩
 ·simp only [Q1,Nat.le_zero] at hn
  subst hn
  have:m=0:=by omega
  subst this
  exact ⟨.nilS,rfl,.inl ⟨rfl,rfl⟩⟩
 ·refine ⟨.vsl (aEU e (eBs l).length n none) (eBs ((l.take n).drop m)),?_,aD1 _ _⟩
  have hb:aC1 (eBs l).length (eBs l).length (some (.int k m)) (some (.int k' n)) none=some (m,n,none):=by
   simp only [aC1,aDj,Q3]
   rw [if_pos (by rw [aBj];omega)]
   simp
  simp only [aBs,hb,aKs,aNC,aGE,if_true]
def aBt (l:List UInt8) (v:AV) (h:aA0) (i:Nat):Prop:=l≠[]∧∃ ver x,v=.hsl i ver 0 l.length none∧h[i]?=some (.arr ver 1 x (eBs l))
theorem aBt.frame {l:List UInt8} {v:AV} {h h':aA0} {i:Nat} (ho:aBt l v h i) (hf:∀ o,h[i]?=some o→h'[i]?=some o):aBt l v h' i:=by
 obtain ⟨h1,ver,x,h2,h3⟩:=ho
 exact ⟨h1,ver,x,h2,hf _ h3⟩
theorem aBt.len {l:List UInt8} {v:AV} {h:aA0} {i:Nat} (ho:aBt l v h i) (h':aA0):aBX h' .slice v=some (.int .i64 l.length):=by
 obtain ⟨h1,ver,x,rfl,h3⟩:=ho
 rfl
theorem aBt.cell {l:List UInt8} {v:AV} {h:aA0} {i:Nat} (ho:aBt l v h i):cellsOf v=[v]∧aAp v=true:=by
 obtain ⟨h1,ver,x,rfl,h3⟩:=ho
 exact ⟨rfl,rfl⟩
theorem aBt.lt {l:List UInt8} {v:AV} {h:aA0} {i:Nat} (ho:aBt l v h i):i < h.length:=by
 obtain ⟨h1,ver,x,rfl,h3⟩:=ho
 exact aBS h3
theorem aBt.add {l m:List UInt8} {v w:AV} {h:aA0} {i:Nat} (ho:aBt l v h i) (hel:aAC h 1 w=some (eBs m)) (hm:m≠[]) (bytes:Nat) (hb:bytes≤10) (hl:l.length+m.length≤100000000) :
  ∃ v' h',aD9 h 1 bytes v w=some (v',h')∧aBt (l++m) v' h' i∧(∀ j o,j≠i→h[j]?=some o→h'[j]?=some o)∧h'.length=h.length:=by
 obtain ⟨h1,ver,x,rfl,h3⟩:=ho
 unfold aD9
 rw [hel]
 have hmz:¬ (eBs m).length=0:=by rw [aBj];intro e;exact hm (List.length_eq_zero_iff.1 e)
 have hmp:0 < m.length:=List.length_pos_iff.2 hm
 simp only [Option.elim_some,aCP]
 rw [if_neg hmz]
 have hne:¬ (0+l.length+(eBs m).length≤(eBs l).length∧aHS (l.length+(eBs m).length) none=true):=by
  rw [aBj,aBj];omega
 have hc2:True∧0+l.length≤(eBs l).length:=⟨trivial,by rw [aBj];omega⟩
 have htk:(List.drop 0 (eBs l)).take l.length=eBs l:=by rw [Q0];exact Q2 (by rw [aBj];omega)
 have hcd:(eBs l++eBs m).length*(bytes+1)≤68719476736∧(eBs l++eBs m).all (fun c=>c.length==1 && c.all aAp)=true:=by
  refine ⟨?_,by rw [← aLn];exact aOS _⟩
  rw [List.length_append,aBj,aBj]
  have:(l.length+m.length)*(bytes+1)≤100000000*11:=Nat.mul_le_mul hl (by omega)
  omega
 refine ⟨.hsl i (ver+1) 0 (eBs l++eBs m).length none,h.set i (.arr (ver+1) 1 false (eBs l++eBs m)),?_,⟨by simp [h1],ver+1,false,by simp [aBj],by rw [aLn];exact aAr h3⟩,fun j o hj e=>aAs e (Ne.symm hj),by simp⟩
 simp only [aCS,aAk,h3,if_true]
 rw [if_pos hc2,if_neg hne]
 simp only [htk]
 rw [if_pos hcd]
theorem aJf (h:aA0) (d:Nat):∀ l:List UInt8,aAq (aAq (freeze h (d+1))) (eBs l)=some (l.map fun y=>[(.int .u8 y.toNat,true)])
 | []=>rfl
 | y::ys=>by
  have:=aJf h d ys
  simp only [eBs,List.map_cons,aAq,eB,freeze] at this ⊢
  rw [this]
theorem aBt.fz {l:List UInt8} {v:AV} {h:aA0} {i:Nat} (ho:aBt l v h i) (d:Nat):freeze h (d+2) v=some (.vsl false (eBs l),false):=by
 obtain ⟨h1,ver,x,rfl,h3⟩:=ho
 have htk:(List.drop 0 (eBs l)).take l.length=eBs l:=by rw [Q0];exact Q2 (by rw [aBj];omega)
 have hl:0+l.length≤(eBs l).length:=by rw [aBj];omega
 have hg:aAk h i ver=some (1,x,eBs l):=by simp only [aAk,h3,if_true]
 have hm:aAq (aAq (freeze h (d+1))) (((eBs l).drop 0).take l.length)=some (l.map fun y=>[(.int .u8 y.toNat,true)]):=by rw [htk];exact aJf h d l
 have:=aLg (d:=d+1) (c:=none) hg hl hm
 rw [this]
 congr 2
 simp [eBs,eB,Function.comp_def]
theorem aBt.elems {l:List UInt8} {v:AV} {h:aA0} {i:Nat} (ho:aBt l v h i):aAC h 1 v=some (eBs l):=by
 obtain ⟨h1,ver,x,rfl,h3⟩:=ho
 have htk:(List.drop 0 (eBs l)).take l.length=eBs l:=by rw [Q0];exact Q2 (by rw [aBj];omega)
 have hc:1=1∧0+l.length≤(eBs l).length:=⟨rfl,by rw [aBj];omega⟩
 simp only [aAC,aAk,h3,if_true]
 rw [if_pos (by rw [aBj];simp),htk]
theorem aBt.str {l:List UInt8} {v:AV} {h:aA0} {i:Nat} (ho:aBt l v h i):aBQ h v=some (.str l):=by
 have:=ho.elems
 obtain ⟨h1,ver,x,rfl,h3⟩:=ho
 simp only [aBQ,this,Option.bind_some,aIy,Q4]
theorem aBt.clean {l:List UInt8} {v:AV} {h:aA0} {i:Nat} (ho:aBt l v h i) (d:Nat):aAX h (d+2) v=true:=by
 obtain ⟨h1,ver,x,rfl,h3⟩:=ho
 have hc:∀ l:List UInt8,(eBs l).all (fun c=>c.all (aAX h (d+1)))=true:=fun l=>by
  rw [List.all_eq_true]
  intro c hc
  obtain ⟨b,_,rfl⟩:=List.mem_map.1 hc
  rfl
 have hg:aAk h i ver=some (1,x,eBs l):=by simp only [aAk,h3,if_true]
 have e:=hc l
 have e2:∀ n,aAX h (d+2) (.hsl i ver 0 n none)=(((eBs l).drop 0).take n).all fun c=>c.all (aAX h (d+1)):=fun n=>by
  conv=>lhs;unfold aAX
  simp only [hg]
 rw [e2,Q0,Q2 (by rw [aBj];omega)]
 exact e
theorem aT2 {h:aA0} {a b x y:AV} {c d:Bool} {k:Nat} (h1:freeze h k a=some (x,c)) (h2:freeze h k b=some (y,d)):freeze h (k+1) (.tup [a,b])=some (.tup [x,y],c && (d && true)):=by
 have:freeze h (k+1) (.tup [a,b])=(aAq (freeze h k) [a,b]).map fun l=>(.tup (l.map (·.1)),l.all (·.2)):=rfl
 rw [this]
 simp only [aAq,h1,h2];rfl
theorem cvI (k k':IntKind) (n:Int):aEv k (.int k' n)=some (.int k (k.wrap n)):=rfl
def aDt (s:Int) (b:UInt8):Int:=IntKind.u32.wrap (IntKind.u32.wrap (IntKind.u32.wrap (31*s)+IntKind.u32.wrap b.toNat)+1)
def aLZ (l:List UInt8):Int:=l.foldl aDt 1
theorem aHP (s:Int) (b:UInt8):aDt s b=(31*s+b.toNat+1) % 4294967296:=by
 unfold aDt
 simp only [IntKind.wrap_u32]
 omega
theorem aFk (s:Int) (b:UInt8):0≤aDt s b∧aDt s b < 4294967296:=by rw [aHP];omega
theorem aKn:∀ (l:List UInt8) (s:Int),0≤s∧s < 4294967296→0≤l.foldl aDt s∧l.foldl aDt s < 4294967296
 | [],_,h=>h
 | b::l,s,_=>by rw [List.foldl_cons];exact aKn l _ (aFk s b)
def aE2 (l:List UInt8):Nat:=(aLZ l).toNat
theorem aLY (l:List UInt8):aLZ l=(aE2 l:Int):=by
 have:=aKn l 1 (by omega)
 unfold aE2 aLZ
 omega
theorem aOA (l:List UInt8):aE2 l < 4294967296:=by
 have:=aKn l 1 (by omega)
 unfold aE2 aLZ
 omega
theorem aMp {l:List UInt8} {v:AV} (hl:LiB l v) (hn:l.length≤10000000):∃ h',aB8 (lim G0.cfg) (l.length+1) aD7 [v] []=some (.int .u32 (aE2 l:Int),h'):=by
 have nl:=hl.len
 have lp:∀ (d i m:Nat) (s:Int) (h:aA0),l.length=i+d→d < m→aAw (aA9 (lim G0.cfg) (l.length+1) aCH) m ⟨[J,J,J,.int .u32 s,J,J,v,.int .i64 l.length,.int .i64 i,J,J,J,J,J,J,J,J,J,J,J],h⟩=some (.exit 0,⟨[J,J,J,.int .u32 ((l.drop i).foldl aDt s),J,J,J,J,J,J,J,J,J,J,J,J,J,J,J,J],h⟩):=by
  intro d
  induction d with
  | zero =>
   intro i m s h h1 h2
   obtain ⟨m,rfl⟩:∃ q,m=q+1:=⟨m - 1,by omega⟩
   have h3:¬ ((i:Int) < l.length):=by omega
   rw [List.drop_of_length_le (by omega:l.length≤i)]
   simp only [aAj,aFX,Zaf,Zag,Zah,Zak,Zal,Zan,Zao,Zap,Zaw,Zaz,Zbc,Zbm,Zbu,Zcz,Zdb,Zdf,Zdg,Zdh,List.set_cons_zero,List.set_cons_succ,Q5,Q6,Zdl,decide_false,eq_self,h3,List.foldl_nil]
  | succ d ih =>
   intro i m s h h1 h2
   obtain ⟨m,rfl⟩:∃ q,m=q+1:=⟨m - 1,by omega⟩
   have h3:i < l.length:=by omega
   have h3':(i:Int) < l.length:=by omega
   have hw:=aC7 (n:=i) (by omega)
   have ix:=hl.ix h .i64 i h3
   rw [List.drop_eq_getElem_cons h3,List.foldl_cons,← ih (i+1) m _ h (by omega) (by omega)]
   simp only [aAj,aFX,Zae,Zaf,Zag,Zah,Zai,Zak,Zan,Zao,Zar,Zav,Zay,Zbc,Zbm,Zbo,Zbs,Zbu,Zbw,Zcf,Zcz,Zda,Zdb,Zdf,Zdg,Zdh,List.set_cons_zero,List.set_cons_succ,Q5,Q6,Zdi,Zdk,Zdl,decide_true,eq_self,h3',ix,aFJ,cvI,hw,aDt]
 have e:=lp l.length 0 (l.length+1) 1 [] (by omega) (by omega)
 rw [z0,Q0] at e
 rw [aLw]
 rw [← aLY]
 simp only [Zaf,Zag,Zai,Zaj,Zak,Zam,Zan,Zao,Zat,Zax,Zbc,Zbm,Zbo,Zck,Zcy,Zcz,Zda,Zdb,Zdf,Zdg,Zdh,List.set_cons_zero,List.set_cons_succ,Q5,Q6,Q4,List.length_cons,Q1,Nat.reduceAdd,Nat.reduceSub,eq_self,true_and,List.length_cons,Q1,List.replicate_succ,List.replicate_zero,List.cons_append,List.nil_append,nl,e,aAa,aA8,aAc,Option.some.injEq,Prod.mk.injEq,true_and,exists_eq',aLZ]
theorem aRG {l:List UInt8} {v:AV} (hl:LiB l v) (hn:l.length≤10000000) (H:aA0):lim G0.cfg (.func 14) [v] H=some (.int .u32 (aE2 l:Int),H) :=
 aAP rfl rfl aHx (l.length+1) (fun h=>aES (hl.fz h 999)) (aMp hl hn) (fun _=>rfl) H
theorem aQf {l:List UInt8} {v:AV} {H:aA0} {i:Nat} (ho:aBt l v H i) (hn:l.length≤10000000):lim G0.cfg (.func 14) [v] H=some (.int .u32 (aE2 l:Int),H):=by
 obtain ⟨h',r⟩:=aMp (aD1 false l) hn
 exact aLb rfl rfl aHx (l.length+1) (aDH (ho.fz 998)) r rfl rfl
end Go.Proofs.Ytgeedikghjcebaa.Ai
namespace Go.Proofs.Ytgeedikghjcebaa.Ai
open Go Go.Proofs
open AV renaming junk → Q0
open List renaming length_cons → Q1, getD_cons_zero → Q2, getD_cons_succ → Q3, set_cons_zero → Q4, set_cons_succ → Q5, length_append → Q6, length_nil → Q7, append_nil → Q8
set_option linter.unusedVariables false
set_option linter.unusedSimpArgs false
set_option maxRecDepth 10000
set_option maxHeartbeats 4000000
def enc:Nat→Nat→List UInt8
 | 0,n=>[UInt8.ofNat n]
 | k+1,n=>if 127 < n then UInt8.ofNat (n % 128+128)::enc k (n / 128) else [UInt8.ofNat n]
def aEV (n:Nat):List UInt8:=enc 4 n
def aCn (xs:List Int):List UInt8:=xs.flatMap fun x=>aEV x.toNat
theorem aOP:∀ (k n:Nat),(enc k n).length≤k+1
 | 0,n=>by simp [enc]
 | k+1,n=>by
  unfold enc
  split
  ·have:=aOP k (n / 128);simp only [Q1];omega
  ·simp
theorem aFz (n:Nat):(aEV n).length≤5:=aOP 4 n
theorem aEW:∀ xs:List Int,(aCn xs).length≤5*xs.length
 | []=>by simp [aCn]
 | x::xs=>by
  have h1:=aEW xs
  have h2:=aFz x.toNat
  have e:aCn (x::xs)=aEV x.toNat++aCn xs:=rfl
  rw [e,Q6,Q1]
  omega
theorem aHv (k:IntKind) (n:Nat):aEv .u8 (.int k n)=some (.int .u8 ((UInt8.ofNat n).toNat)):=by
 simp only [aEv,IntKind.wrap_u8,UInt8.toNat_ofNat']
 congr 2
theorem aN0 (q:EqK) (k k':IntKind) (n j:Nat) (hj:j≤k.bits):aB6 .shr q (.int k n) (.int k' j)=some (.int k ((n / 2 ^ j:Nat):Int)):=by
 have h0:¬ ((j:Int) < 0):=by omega
 have e:(n:Int).fdiv (2 ^ min j k.bits)=((n / 2 ^ j:Nat):Int):=by
  rw [Nat.min_eq_left hj,Int.fdiv_eq_ediv_of_nonneg _ (by exact Int.pow_nonneg (by decide))]
  norm_cast
 simp only [aB6,aH2,or_true,if_true,h0,if_false,Int.toNat_natCast,e]
theorem aTA (q:EqK) (n:Nat):aB6 .shr q (.int .i64 n) (.int .u64 7)=some (.int .i64 ((n / 128:Nat):Int)):=aN0 q .i64 .u64 n 7 (by decide)
theorem aTJ:∀ m:Fin 256,(IntKind.u8.wrap (BitVec.ofInt 8 (m.val:Int) ||| BitVec.ofInt 8 128).toNat)=((m.val % 128+128:Nat):Int):=by decide +kernel
theorem aSB (q:EqK) (n:Nat):aB6 .or q (.int .u8 ((UInt8.ofNat n).toNat)) (.int .u8 128)=some (.int .u8 ((UInt8.ofNat (n % 128+128)).toNat)):=by
 have h:=aTJ ⟨(UInt8.ofNat n).toNat,UInt8.toNat_lt _⟩
 simp only at h
 have e:aB6 .or q (.int .u8 ((UInt8.ofNat n).toNat)) (.int .u8 128)=some (.int .u8 (IntKind.u8.wrap (BitVec.ofInt 8 ((UInt8.ofNat n).toNat:Int) ||| BitVec.ofInt 8 128).toNat)):=rfl
 rw [e,h]
 simp only [UInt8.toNat_ofNat']
 congr 3
 omega
theorem aTf (h:aA0) (e:Bool) (b:UInt8):aAC h 1 (.vsl e [[.int .u8 b.toNat]])=some (eBs [b]):=rfl
theorem aSU (h:aA0) (b:UInt8):aBH h false 1 1 [.int .u8 0] [(0,.int .u8 b.toNat)]=some (.vsl true [[.int .u8 b.toNat]],h):=aGC h (.int .u8 0) (.int .u8 b.toNat) rfl rfl
def RdI (xs:List Int) (w:AV) (h:aA0) (q:Option Nat):Prop :=
 (∀ h',aBX h' .slice w=some (.int .i64 xs.length))∧∀ h':aA0,(∀ i o,q=some i→h[i]?=some o→h'[i]?=some o)→∀ (j:Nat) (hj:j < xs.length),∃ a,aAN h' 1 w (.int .i64 j)=some a∧aAb h' 1 false a=some (.int .i64 xs[j])
theorem Li.rd {xs:List Int} {w:AV} (hl:Li xs w) (h:aA0):RdI xs w h none:=⟨hl.len,fun h' _ j hj=>⟨_,hl.ix h' .i64 j hj,Zer h' _⟩⟩
theorem aPZ {xs:List Int} {h:aA0} {i ver:Nat} {x:Bool} (hi:h[i]?=some (.arr ver 1 x (eIs xs))):RdI xs (.hsl i ver 0 xs.length none) h (some i):=by
 refine ⟨fun _=>rfl,fun h' hf j hj => ?_⟩
 have e:=hf i _ rfl hi
 refine ⟨_,aBM e hj,?_⟩
 have:h'[i]?=some (.arr ver 1 x (eIs xs++[])):=by rw [Q8];exact e
 exact ldI this hj
section
variable {N : Nat} {i : Nat}
theorem aTH (w L J:AV):∀ (k n m:Nat) (l:List UInt8) (v:AV) (h:aA0),n < 128 ^ (k+1)→n < 4611686018427387904→k < m→aBt l v h i→l.length+k≤50000000 →
  ∃ (v':AV) (h':aA0) (n':Nat) (l':List UInt8),aAw (aA9 (lim G0.cfg) N aCF) m ⟨[v,Q0,Q0,Q0,Q0,Q0,.int .i64 n,w,L,J,Q0,Q0,Q0,Q0,Q0,Q0,Q0,Q0,Q0,Q0,Q0,Q0,Q0,Q0,Q0,Q0,Q0,Q0,Q0,Q0],h⟩=some (.exit 2,⟨[v',Q0,Q0,Q0,Q0,Q0,.int .i64 n',w,L,J,Q0,Q0,Q0,Q0,Q0,Q0,Q0,Q0,Q0,Q0,Q0,Q0,Q0,Q0,Q0,Q0,Q0,Q0,Q0,Q0],h'⟩)∧enc k n=l'++[UInt8.ofNat n']∧aBt (l++l') v' h' i∧l'.length≤k∧(∀ j o,j≠i→h[j]?=some o→h'[j]?=some o)∧h'.length=h.length:=by
 intro k
 induction k with
 | zero =>
  intro n m l v h h1 h1' h2 ho hl
  obtain ⟨m,rfl⟩:∃ q,m=q+1:=⟨m - 1,by omega⟩
  have h3:¬ ((127:Int) < n):=by omega
  refine ⟨v,h,n,[],?_,rfl,by rw [Q8];exact ho,by simp,fun _ _ _ e=>e,rfl⟩
  simp only [aAj,aEa,Zaf,Zag,Zah,Zak,Zal,Zan,Zao,Zap,Zaw,Zaz,Zbc,Zbm,Zbo,Zbu,Zcz,Zda,Zdb,Zdf,Zdg,Zdh,Q4,Q5,Q2,Q3,Zdn,decide_false,eq_self,h3]
 | succ k ih =>
  intro n m l v h h1 h1' h2 ho hl
  obtain ⟨m,rfl⟩:∃ q,m=q+1:=⟨m - 1,by omega⟩
  by_cases c:127 < n
  case neg =>
   have h3:¬ ((127:Int) < n):=by omega
   refine ⟨v,h,n,[],?_,by unfold enc;rw [if_neg c];rfl,by rw [Q8];exact ho,by simp,fun _ _ _ e=>e,rfl⟩
   simp only [aAj,aEa,Zaf,Zag,Zah,Zak,Zal,Zan,Zao,Zap,Zaw,Zaz,Zbc,Zbm,Zbo,Zbu,Zcz,Zda,Zdb,Zdf,Zdg,Zdh,Q4,Q5,Q2,Q3,Zdn,decide_false,eq_self,h3]
  case pos =>
  have h3:(127:Int) < n:=by omega
  have hd:n / 128 < 128 ^ (k+1):=Nat.div_lt_of_lt_mul (by rw [Nat.mul_comm,← Nat.pow_succ];exact h1)
  obtain ⟨v1,H1,e1,o1,f1,g1⟩:=ho.add (w:=.vsl true [[.int .u8 ((UInt8.ofNat (n % 128+128)).toNat)]]) (m:=[UInt8.ofNat (n % 128+128)]) (aTf h true _) (by simp) 1 (by omega) (by simp only [Q1,Q7];omega)
  obtain ⟨v',h',n',l',e2,q1,q2,q3,q4,q5⟩:=ih (n / 128) m _ v1 H1 hd (by omega) (by omega) o1 (by rw [Q6];simp only [Q1,Q7];omega)
  refine ⟨v',h',n',UInt8.ofNat (n % 128+128)::l',?_,by unfold enc;rw [if_pos c,q1];rfl,by rw [List.append_cons];exact q2,by simp only [Q1];omega,fun j o hj e=>q4 j o hj (f1 j o hj e),by omega⟩
  rw [← e2]
  have t1:=aSU h (UInt8.ofNat (n % 128+128))
  simp only [aAj,aEa,Zae,Zaf,Zag,Zah,Zai,Zak,Zan,Zao,Zar,Zav,Zay,Zbc,Zbd,Zbm,Zbo,Zbu,Zbw,Zcm,Zcr,Zcz,Zda,Zdb,Zdf,Zdg,Zdh,Q4,Q5,Q2,Q3,Zdn,decide_true,eq_self,h3,aHv,aSB,ev2,t1,e1,aTA]
theorem aTI {xs:List Int} {w:AV} {q:Option Nat} {h0:aA0} (hr:RdI xs w h0 q) (hq:q≠some i) (hx:∀ x ∈ xs,0≤x∧x≤2147483647) (hn:xs.length≤1000000) (hN:5≤N) :
  ∀ (d j m:Nat) (l:List UInt8) (v:AV) (h:aA0),xs.length=j+d→d < m→aBt l v h i→l.length+5*d≤40000000→(∀ j o,j≠i→h0[j]?=some o→h[j]?=some o) →
  ∃ (v':AV) (h':aA0),aAw (aA9 (lim G0.cfg) N aCG) m ⟨[v,Q0,Q0,Q0,Q0,Q0,Q0,w,.int .i64 xs.length,.int .i64 j,Q0,Q0,Q0,Q0,Q0,Q0,Q0,Q0,Q0,Q0,Q0,Q0,Q0,Q0,Q0,Q0,Q0,Q0,Q0,Q0],h⟩=some (.exit 0,⟨[v',Q0,Q0,Q0,Q0,Q0,Q0,Q0,Q0,Q0,Q0,Q0,Q0,Q0,Q0,Q0,Q0,Q0,Q0,Q0,Q0,Q0,Q0,Q0,Q0,Q0,Q0,Q0,Q0,Q0],h'⟩)∧aBt (l++aCn (xs.drop j)) v' h' i∧(∀ j o,j≠i→h[j]?=some o→h'[j]?=some o)∧h'.length=h.length:=by
 intro d
 induction d with
 | zero =>
  intro j m l v h h1 h2 ho hl hf
  obtain ⟨m,rfl⟩:∃ q,m=q+1:=⟨m - 1,by omega⟩
  have h3:¬ ((j:Int) < xs.length):=by omega
  have e0:aCn (xs.drop j)=[]:=by rw [List.drop_of_length_le (by omega:xs.length≤j)];rfl
  refine ⟨v,h,?_,by rw [e0,Q8];exact ho,fun _ _ _ e=>e,rfl⟩
  simp only [aAj,aFW,Zaf,Zag,Zah,Zak,Zal,Zan,Zao,Zap,Zaw,Zaz,Zbc,Zbm,Zbu,Zcz,Zdb,Zdf,Zdg,Zdh,Q4,Q5,Q2,Q3,Zdl,decide_false,eq_self,h3]
 | succ d ih =>
  intro j m l v h h1 h2 ho hl hf
  obtain ⟨m,rfl⟩:∃ q,m=q+1:=⟨m - 1,by omega⟩
  have h3:j < xs.length:=by omega
  have h3':(j:Int) < xs.length:=by omega
  have hw:=aC7 (n:=j) (by omega)
  obtain ⟨a,x1,x2⟩:=hr.2 h (fun p o e g=>hf p o (fun f=>hq (by rw [e,f])) g) j h3
  have hb:=hx _ (List.getElem_mem h3)
  obtain ⟨n,en⟩:∃ n:Nat,xs[j]=(n:Int):=⟨xs[j].toNat,by omega⟩
  rw [en] at x2 hb
  obtain ⟨v1,H1,n',l',e1,q1,q2,q3,q4,q5⟩:=aTH (N:=N) w (.int .i64 xs.length) (.int .i64 j) 4 n N l v h (by omega) (by omega) (by omega) ho (by omega)
  have b0:l'.length≤4:=q3
  obtain ⟨v2,H2,e2,o2,f2,g2⟩:=q2.add (w:=.vsl true [[.int .u8 ((UInt8.ofNat n').toNat)]]) (m:=[UInt8.ofNat n']) (aTf H1 true _) (by simp) 1 (by omega) (by rw [Q6];simp only [Q1,Q7];omega)
  obtain ⟨v',h',e3,o3,f3,g3⟩:=ih (j+1) m _ v2 H2 (by omega) (by omega) o2 (by simp only [Q6,Q1,Q7];omega) (fun p o hp e=>f2 p o hp (q4 p o hp (hf p o hp e)))
  have eE:aCn (xs.drop j)=(l'++[UInt8.ofNat n'])++aCn (xs.drop (j+1)):=by
   rw [List.drop_eq_getElem_cons h3]
   have:aCn (xs[j]::xs.drop (j+1))=aEV xs[j].toNat++aCn (xs.drop (j+1)):=rfl
   rw [this,en,Int.toNat_natCast,aEV,q1]
  refine ⟨v',h',?_,by rw [eE,← List.append_assoc,← List.append_assoc];exact o3,fun p o hp e=>f3 p o hp (f2 p o hp (q4 p o hp e)),by omega⟩
  rw [← e3]
  have t1:=aSU H1 (UInt8.ofNat n')
  simp only [aAj,aFW,Zae,Zaf,Zag,Zah,Zai,Zaj,Zak,Zan,Zao,Zar,Zat,Zav,Zax,Zay,Zbc,Zbd,Zbm,Zbo,Zbs,Zbu,Zbw,Zcf,Zcm,Zcr,Zcz,Zda,Zdb,Zdf,Zdg,Zdh,Q4,Q5,Q2,Q3,Zdi,Zdl,decide_true,eq_self,h3',x1,x2,e1,aHv,ev2,t1,e2,hw]
theorem aPg {xs:List Int} {w:AV} {q:Option Nat} {h:aA0} (hr:RdI xs w h q) (hq:q≠some i) (hx:∀ x ∈ xs,0≤x∧x≤2147483647) (hn:xs.length≤1000000) {l:List UInt8} {v:AV} (ho:aBt l v h i) (hl:l.length≤20000000) :
  ∃ (v':AV) (h':aA0),lim G0.cfg (.func 28) [v,w] h=some (v',h')∧aBt (l++aCn xs) v' h' i∧(∀ j o,j≠i→h[j]?=some o→h'[j]?=some o)∧h'.length=h.length:=by
 have nl:=hr.1
 obtain ⟨v',h',e,o1,f1,g1⟩:=aTI (N:=xs.length+5) hr hq hx hn (by omega) xs.length 0 (xs.length+5) l v h (by omega) (by omega) ho (by omega) (fun _ _ _ e=>e)
 rw [z0] at e
 rw [List.drop_zero] at o1
 refine ⟨v',h',aB3 rfl aLz (xs.length+5) ?_,o1,f1,g1⟩
 rw [aLv]
 simp only [Zaf,Zag,Zai,Zaj,Zak,Zam,Zan,Zao,Zat,Zax,Zbc,Zbm,Zbo,Zck,Zcy,Zcz,Zda,Zdb,Zdf,Zdg,Zdh,Q4,Q5,Q2,Q3,Option.map_some,Q1,Q7,Nat.reduceAdd,Nat.reduceSub,eq_self,Q1,Q7,List.replicate_succ,List.replicate_zero,List.cons_append,List.nil_append,nl,e,aAa,aA8,aAc]
def inR (x:Int):Bool:=decide (0≤x) && decide (x≤2147483647)
theorem aJG (x:Int):inR x=true↔0≤x∧x≤2147483647:=by simp [inR]
def aHr (xs:List Int):List UInt8:=aEV xs.length++aCn xs
theorem aBA (xs:List Int):(aHr xs).length≤5+5*xs.length:=by
 have h1:=aFz xs.length
 have h2:=aEW xs
 unfold aHr
 rw [Q6]
 omega
end
end Go.Proofs.Ytgeedikghjcebaa.Ai
namespace Go.Proofs.Ytgeedikghjcebaa.Ai
open Go Go.Proofs
open AV renaming junk → J
open List renaming getD_cons_zero → Q0, getD_cons_succ → Q1, set_cons_zero → Q2, set_cons_succ → Q3, length_cons → Q6, length_nil → Q7
open Option renaming map_some → Q4, map_none → Q5
set_option linter.unusedVariables false
set_option linter.unusedSimpArgs false
set_option maxRecDepth 10000
set_option maxHeartbeats 4000000
theorem aJE {C:Cfg} {g:Nat} (hp:C.pu g=true) {a:List AV} {l:List (AV × Bool)} {H:aA0} (ha:aAq (freeze H 1000) a=some l) (hl:aAq (freeze [] 1000) (l.map (·.1))=some ((l.map (·.1)).map fun x=>(x,true))) {y:AV} (hy:lim C (.func g) (l.map (·.1)) []=some (y,[])) (hf:aEO y=true):lim C (.func g) a H=some (y,H):=by
 obtain ⟨k,hk⟩:=aGP.1 hy
 cases k with
 | zero=>cases hk
 | succ k =>
  refine aGP.2 ⟨k+1,?_⟩
  simp only [aBN,hp,if_true] at hk ⊢
  unfold aBW at hk ⊢
  have e:(List.map (fun x=>x.1) ((l.map (·.1)).map fun x:AV=>(x,true)))=l.map (·.1):=by simp [Function.comp_def]
  rw [hl] at hk
  rw [ha]
  simp only [e] at hk ⊢
  cases c:aDh C (aBN C k) k g (l.map (·.1)) with
  | none=>rw [c] at hk;cases hk
  | some v =>
   rw [c] at hk
   simp only at hk ⊢
   generalize (_ || aEO v || _)=b at hk
   cases b with
   | false=>cases hk
   | true =>
    simp only [cond_true,Option.some.injEq,Prod.mk.injEq,and_true] at hk
    subst hk
    simp [hf]
def rdG:Nat→Nat→List UInt8→Option (Nat × Bool × List UInt8)
 | _,_,[]=>none
 | i,n,c::l =>
  if 4 < i∨(i=4∧7 < c.toNat) then none else
  if c.toNat < 128 then some (n+c.toNat % 128*128 ^ i,decide (c.toNat=0) && decide (0 < i),l) else rdG (i+1) (n+c.toNat % 128*128 ^ i) l
def aAD (s:List UInt8 × Bool):Nat × (List UInt8 × Bool) :=
 match rdG 0 0 s.1 with
 | some (x,z,r)=>(x,(r,s.2 || z))
 | none=>(0,([],true))
def aCx:Nat→List UInt8 × Bool→List Int × (List UInt8 × Bool)
 | 0,s=>([],s)
 | k+1,s=>(((aAD s).1:Int)::(aCx k (aAD s).2).1,(aCx k (aAD s).2).2)
def aDa (s:List UInt8 × Bool):List Int × (List UInt8 × Bool):=aCx (min (aAD s).1 ((aAD s).2.1.length+1)) (aAD s).2
theorem aN8:∀ (l:List UInt8) (i n:Nat) {x:Nat} {z:Bool} {r:List UInt8},n < 128 ^ i→i≤4→rdG i n l=some (x,z,r)→x < 2147483648∧r.length < l.length
 | [],_,_,_,_,_,_,_,h=>by cases h
 | c::l,i,n,x,z,r,hn,hi,h=>by
  unfold rdG at h
  have hc:c.toNat < 256:=UInt8.toNat_lt c
  by_cases c1:4 < i∨(i=4∧7 < c.toNat)
  ·rw [if_pos c1] at h;cases h
  ·rw [if_neg c1] at h
   have hm:n+c.toNat % 128*128 ^ i < 128 ^ (i+1):=by
    have:c.toNat % 128*128 ^ i≤127*128 ^ i:=Nat.mul_le_mul_right _ (by omega)
    rw [Nat.pow_succ];omega
   by_cases c2:c.toNat < 128
   ·rw [if_pos c2] at h
    cases h
    refine ⟨?_,by simp⟩
    rcases i with _ | _ | _ | _ | _ | i
    ·simp at hm ⊢;omega
    ·simp at hm ⊢;omega
    ·simp at hm ⊢;omega
    ·simp at hm ⊢;omega
    ·simp at hn c1 ⊢;omega
    ·omega
   ·rw [if_neg c2] at h
    by_cases c3:i=4
    ·omega
    ·have:=aN8 l (i+1) _ hm (by omega) h
     simp only [Q6]
     omega
theorem aFn (s:List UInt8 × Bool):(aAD s).1 < 2147483648∧(aAD s).2.1.length≤s.1.length:=by
 unfold aAD
 cases h:rdG 0 0 s.1 with
 | none=>simp
 | some q =>
  obtain ⟨x,z,r⟩:=q
  have:=aN8 s.1 0 0 (by decide) (by omega) h
  simp only
  omega
theorem aTw (q:EqK) (c:UInt8):aB6 .and q (.int .u8 c.toNat) (.int .u8 127)=some (.int .u8 ((c.toNat % 128:Nat):Int)):=by
 have h:=UInt8.toNat_lt c
 have e:aB6 .and q (.int .u8 c.toNat) (.int .u8 127)=some (.int .u8 (IntKind.u8.wrap (BitVec.ofInt 8 (c.toNat:Int) &&& BitVec.ofInt 8 127).toNat)):=rfl
 rw [e]
 have e1:(BitVec.ofInt 8 (c.toNat:Int) &&& BitVec.ofInt 8 127).toNat=c.toNat % 128:=by
  have a:BitVec.ofInt 8 (c.toNat:Int)=BitVec.ofNat 8 c.toNat:=BitVec.ofInt_natCast ..
  have b:BitVec.ofInt 8 127=BitVec.ofNat 8 127:=rfl
  rw [a,b,BitVec.toNat_and,BitVec.toNat_ofNat,BitVec.toNat_ofNat]
  have e3:c.toNat % 2 ^ 8=c.toNat:=Nat.mod_eq_of_lt h
  rw [e3]
  exact Nat.and_two_pow_sub_one_eq_mod c.toNat 7
 rw [e1,IntKind.wrap_u8]
 congr 2
 omega
theorem aU3 (q:EqK) (a i:Nat) (ha:a < 128) (hi:i≤4):aB6 .shl q (.int .i64 a) (.int .i64 ((7*i:Nat):Int))=some (.int .i64 ((a*128 ^ i:Nat):Int)):=by
 have h0:¬ (((7*i:Nat):Int) < 0):=by omega
 have hm:min (7*i) IntKind.i64.bits=7*i:=Nat.min_eq_left (by simp [IntKind.bits];omega)
 have e:(2:Int) ^ (7*i)=((128 ^ i:Nat):Int):=by rw [Int.pow_mul];norm_cast
 have hp:128 ^ i≤268435456:=by
  have:128 ^ i≤128 ^ 4:=Nat.pow_le_pow_right (by decide) hi
  exact this
 have hb:a*128 ^ i≤127*268435456:=Nat.mul_le_mul (by omega) hp
 have w:IntKind.i64.wrap ((a:Int)*((128 ^ i:Nat):Int))=((a*128 ^ i:Nat):Int):=by
  have:(a:Int)*((128 ^ i:Nat):Int)=((a*128 ^ i:Nat):Int):=by norm_cast
  rw [this,w64 (by omega) (by omega)]
 have d:aB6 .shl q (.int .i64 a) (.int .i64 ((7*i:Nat):Int))=aH2 .shl .i64 a ((7*i:Nat):Int):=rfl
 rw [d]
 simp only [aH2,h0,if_false,Int.toNat_natCast,hm,e,w]
theorem orN (q:EqK) (n a i:Nat) (hn:n < 128 ^ i) (ha:a < 128) (hi:i≤4):aB6 .or q (.int .i64 n) (.int .i64 ((a*128 ^ i:Nat):Int))=some (.int .i64 ((n+a*128 ^ i:Nat):Int)):=by
 have hp:128 ^ i≤268435456:=by
  have:128 ^ i≤128 ^ 4:=Nat.pow_le_pow_right (by decide) hi
  exact this
 have hb:a*128 ^ i≤127*268435456:=Nat.mul_le_mul (by omega) hp
 have e:aB6 .or q (.int .i64 n) (.int .i64 ((a*128 ^ i:Nat):Int))=some (.int .i64 (IntKind.i64.wrap (BitVec.ofInt 64 (n:Int) ||| BitVec.ofInt 64 ((a*128 ^ i:Nat):Int)).toNat)):=rfl
 rw [e]
 have e1:(BitVec.ofInt 64 (n:Int) ||| BitVec.ofInt 64 ((a*128 ^ i:Nat):Int)).toNat=n+a*128 ^ i:=by
  rw [BitVec.ofInt_natCast,BitVec.ofInt_natCast,BitVec.toNat_or,BitVec.toNat_ofNat,BitVec.toNat_ofNat,Nat.mod_eq_of_lt (by omega),Nat.mod_eq_of_lt (by omega)]
  have e2:128 ^ i=2 ^ (7*i):=by rw [Nat.pow_mul]
  rw [e2] at hn ⊢
  have:=Nat.shiftLeft_add_eq_or_of_lt hn a
  rw [Nat.shiftLeft_eq] at this
  rw [Nat.or_comm,← this,Nat.add_comm]
 rw [e1,w64 (by omega) (by omega)]
def rdO (w:AV) (b:Bool):AObj:=.arr 0 2 true [[w,.bool b]]
section
variable {h : aA0} {r : Nat} {w : AV} {b : Bool}
theorem aMY (e:h[r]?=some (rdO w b)):aAb h 1 false (.ptr r 0 0 0)=some w:=by rw [aB5 h 1 r 0 0 0 false 2 true _ _ e rfl];rfl
theorem aRB (e:h[r]?=some (rdO w b)):aAb h 1 false (.ptr r 0 0 1)=some (.bool b):=by rw [aB5 h 1 r 0 0 1 false 2 true _ _ e rfl];rfl
theorem aRA (e:h[r]?=some (rdO w b)) {v:AV} (hc:cellsOf v=[v]∧aAp v=true):aAB h 1 (.ptr r 0 0 0) v=some (h.set r (rdO v b)):=by
 rw [aKh h 1 r 0 0 0 _ 2 true _ _ e rfl (by rw [hc.1];rfl) (by simp) (by rw [hc.1];simp [hc.2])]
 rw [hc.1];rfl
theorem aRz (e:h[r]?=some (rdO w b)) (b':Bool):aAB h 1 (.ptr r 0 0 1) (.bool b')=some (h.set r (rdO w b')):=by
 rw [aKh h 1 r 0 0 1 _ 2 true _ _ e rfl rfl (by simp) rfl];rfl
end
section
variable {r : Nat} {N : Nat}
theorem aS1 {l:List UInt8} {w:AV} (hl:LiB l w) (hn:l.length≤1000000000) {bad:Bool} {h:aA0} (er:h[r]?=some (rdO w bad)) :
  ∀ (d i m n:Nat),l.length=i+d→d < m→i≤5→n < 128 ^ i →
  (∀ x z rest,rdG i n (l.drop i)=some (x,z,rest)→∃ w',LiB rest w'∧aAw (aA9 (lim G0.cfg) N aAT) m ⟨(.ptr r 0 0 0::J::J::.int .i64 n::J::J::J::J::J::w::.int .i64 l.length::.int .i64 i::J::J::J::J::J::J::J::J::J::J::J::J::J::J::J::J::J::J::J::J::J::J::J::J::J::J::J::J::J::J::J::J::J::J::J::J::J::J::J::J::J::J::J::J::J::J::J::J::J::J::J::J::J::J::J::J::J::[]),h⟩=some (.ret,⟨(J::J::.int .i64 x::J::J::J::J::J::J::J::J::J::J::J::J::J::J::J::J::J::J::J::J::J::J::J::J::J::J::J::J::J::J::J::J::J::J::J::J::J::J::J::J::J::J::J::J::J::J::J::J::J::J::J::J::J::J::J::J::J::J::J::J::J::J::J::J::J::J::[]),h.set r (rdO w' (bad || z))⟩)) ∧
  (rdG i n (l.drop i)=none→aAw (aA9 (lim G0.cfg) N aAT) m ⟨(.ptr r 0 0 0::J::J::.int .i64 n::J::J::J::J::J::w::.int .i64 l.length::.int .i64 i::J::J::J::J::J::J::J::J::J::J::J::J::J::J::J::J::J::J::J::J::J::J::J::J::J::J::J::J::J::J::J::J::J::J::J::J::J::J::J::J::J::J::J::J::J::J::J::J::J::J::J::J::J::J::J::J::J::[]),h⟩=some (.exit 0,⟨(.ptr r 0 0 0::J::J::J::J::J::J::J::J::J::J::J::J::J::J::J::J::J::J::J::J::J::J::J::J::J::J::J::J::J::J::J::J::J::J::J::J::J::J::J::J::J::J::J::J::J::J::J::J::J::J::J::J::J::J::J::J::J::J::J::J::J::J::J::J::J::J::J::J::[]),h⟩)):=by
 intro d
 induction d with
 | zero =>
  intro i m n h1 h2 hi hn
  obtain ⟨m,rfl⟩:∃ q,m=q+1:=⟨m - 1,by omega⟩
  have h3:¬ ((i:Int) < l.length):=by omega
  rw [List.drop_of_length_le (by omega:l.length≤i)]
  refine ⟨fun x z rest e=>(by cases e),fun _ => ?_⟩
  simp only [aAj,aAH,Zaf,Zag,Zah,Zak,Zal,Zan,Zao,Zap,Zaw,Zaz,Zbc,Zbm,Zbu,Zcz,Zdb,Zdf,Zdg,Zdh,Q2,Q3,Q0,Q1,Zdl,decide_false,eq_self,h3]
 | succ d ih =>
  intro i m n h1 h2 hi hn
  obtain ⟨m,rfl⟩:∃ q,m=q+1:=⟨m - 1,by omega⟩
  have h3:i < l.length:=by omega
  have h3':(i:Int) < l.length:=by omega
  have hw:=aC7 (n:=i) (by omega)
  have ix:=hl.ix h .i64 i h3
  have hc:l[i].toNat < 256:=UInt8.toNat_lt _
  obtain ⟨c,hcc⟩:∃ c,c=l[i]:=⟨_,rfl⟩
  rw [List.drop_eq_getElem_cons h3]
  rw [← hcc] at ix hc ⊢
  unfold rdG
  by_cases c1:4 < i
  case pos =>
   rw [if_pos (.inl c1)]
   have d1:(4:Int) < i:=by omega
   refine ⟨fun x z rest e=>(by cases e),fun _ => ?_⟩
   simp only [aAj,aAH,Zae,Zaf,Zag,Zah,Zai,Zak,Zal,Zan,Zao,Zap,Zau,Zav,Zaz,Zbc,Zbh,Zbj,Zbk,Zbm,Zbn,Zbo,Zbp,Zbs,Zbu,Zcf,Zcz,Zda,Zdb,Zdf,Zdg,Zdh,Q2,Q3,Q0,Q1,Nat.reduceBEq,Zdl,Zdn,decide_true,eq_self,h3',ix,aFJ,d1]
  case neg =>
  have d1:¬ (4:Int) < i:=by omega
  by_cases c2:i=4∧7 < c.toNat
  case pos =>
   rw [if_pos (.inr c2)]
   have d2:decide ((i:Int)=4)=true:=decide_eq_true (by omega)
   have d3:(7:Int) < c.toNat:=by omega
   refine ⟨fun x z rest e=>(by cases e),fun _ => ?_⟩
   simp only [aAj,aAH,Zae,Zaf,Zag,Zah,Zai,Zak,Zal,Zan,Zao,Zap,Zau,Zav,Zaz,Zbc,Zbf,Zbg,Zbk,Zbl,Zbm,Zbn,Zbo,Zbp,Zbs,Zbu,Zcf,Zcz,Zda,Zdb,Zdf,Zdg,Zdh,Q2,Q3,Q0,Q1,Nat.reduceBEq,Zdl,Zdn,Zdp,decide_true,decide_false,eq_self,h3',ix,aFJ,d1,d2,d3]
  case neg =>
  have cc:¬ (4 < i∨(i=4∧7 < c.toNat)):=fun h=>by rcases h with h | h;exact c1 h;exact c2 h
  rw [if_neg cc]
  have hi4:i≤4:=by omega
  have q1:=fun q=>aTw q c
  have q2:∀ a:Nat,aEv .i64 (.int .u8 ((c.toNat % 128:Nat):Int))=some (.int .i64 ((c.toNat % 128:Nat):Int)):=fun _=>by
   rw [cvI,w64 (by omega) (by omega)]
  have q3:IntKind.i64.wrap (7*(i:Int))=((7*i:Nat):Int):=by rw [w64 (by omega) (by omega)];omega
  have q4:=fun q=>aU3 q (c.toNat % 128) i (by omega) hi4
  have q5:=fun q=>orN q n (c.toNat % 128) i hn (by omega) hi4
  obtain ⟨n',hn'⟩:∃ n',n'=n+c.toNat % 128*128 ^ i:=⟨_,rfl⟩
  have hb:n' < 128 ^ (i+1):=by
   have:c.toNat % 128*128 ^ i≤127*128 ^ i:=Nat.mul_le_mul_right _ (by omega)
   rw [hn',Nat.pow_succ];omega
  rw [← hn'] at q5 ⊢
  have q2:=q2 0
  by_cases c3:c.toNat < 128
  case pos =>
   rw [if_pos c3]
   have d3:(c.toNat:Int) < 128:=by omega
   refine ⟨fun x z rest e => ?_,fun e=>(by cases e)⟩
   simp only [Option.some.injEq,Prod.mk.injEq] at e
   obtain ⟨rfl,rfl,rfl⟩:=e
   have lb:=aRB er
   obtain ⟨z,hz⟩:∃ z,z=(decide (c.toNat=0) && decide (0 < i)):=⟨_,rfl⟩
   have s1:=aRz er (bad || z)
   have er2:(h.set r (rdO w (bad || z)))[r]?=some (rdO w (bad || z)):=aAr er
   have l0:=aMY er2
   obtain ⟨w',e1,lw⟩:=hl.from (h.set r (rdO w (bad || z))) .i64 (i+1) (by omega)
   have s2:=aRA er2 lw.cell
   rw [set_set] at s2
   refine ⟨w',lw,?_⟩
   rw [← hz]
   have e1':aBs (h.set r (rdO w (bad || z))) 1 w (some (.int .i64 ((i+1:Nat):Int))) none none=some w':=e1
   by_cases c4:i=4
   case pos =>
    have d2:decide ((i:Int)=4)=true:=decide_eq_true (by omega)
    have d5:¬ (7:Int) < c.toNat:=by omega
    cases bad with
    | true =>
     rw [Bool.true_or] at s1 s2 l0 e1' ⊢
     simp only [aAj,aAH,Zae,Zaf,Zag,Zah,Zai,Zak,Zam,Zan,Zao,Zaq,Zas,Zav,Zaw,Zba,Zbc,Zbe,Zbf,Zbg,Zbh,Zbj,Zbk,Zbl,Zbm,Zbn,Zbo,Zbp,Zbs,Zbt,Zbu,Zbw,Zca,Zcc,Zcd,Zcf,Zcz,Zda,Zdb,Zdc,Zdf,Zdg,Zdh,Q2,Q3,Q0,Q1,Q4,Zdi,Zdk,Zdl,Zdn,Zdp,Zeb,decide_true,decide_false,Nat.reduceAdd,eq_self,h3',ix,aFJ,d1,d2,d5,q1,q2,q3,q4,q5,d3,aE8,lb,s1,l0,hw,Q5,e1',s2]
    | false =>
     rw [Bool.false_or] at s1 s2 l0 e1' ⊢
     have dz:decide ((c.toNat:Int)=0)=decide (c.toNat=0):=decide_eq_decide.2 (by omega)
     have dp:decide ((0:Int) < i)=true:=decide_eq_true (by omega)
     by_cases c5:c.toNat=0
     ·have d6:decide ((c.toNat:Int)=0)=true:=decide_eq_true (by omega)
      have ez:z=true:=by rw [hz];simp [c5];omega
      subst ez
      simp only [aAj,aAH,Zae,Zaf,Zag,Zah,Zai,Zak,Zam,Zan,Zao,Zaq,Zas,Zav,Zaw,Zba,Zbc,Zbe,Zbf,Zbg,Zbk,Zbl,Zbm,Zbn,Zbo,Zbp,Zbs,Zbt,Zbu,Zbw,Zca,Zcc,Zcd,Zcf,Zcz,Zda,Zdb,Zdc,Zdf,Zdg,Zdh,Q2,Q3,Q0,Q1,Q4,Zdi,Zdk,Zdl,Zdn,Zdp,Zeb,decide_true,decide_false,Nat.reduceAdd,eq_self,h3',ix,aFJ,d1,d2,d5,q1,q2,q3,q4,q5,d3,aE8,lb,d6,dp,s1,l0,hw,Q5,e1',s2]
     ·have d6:decide ((c.toNat:Int)=0)=false:=decide_eq_false (by omega)
      have ez:z=false:=by rw [hz];simp [c5]
      subst ez
      simp only [aAj,aAH,Zae,Zaf,Zag,Zah,Zai,Zak,Zam,Zan,Zao,Zaq,Zas,Zav,Zaw,Zba,Zbc,Zbe,Zbf,Zbg,Zbi,Zbk,Zbl,Zbm,Zbn,Zbo,Zbp,Zbs,Zbt,Zbu,Zbw,Zca,Zcc,Zcd,Zcf,Zcz,Zda,Zdb,Zdc,Zdf,Zdg,Zdh,Q2,Q3,Q0,Q1,Q4,Zdi,Zdk,Zdl,Zdn,Zdp,Zeb,decide_true,decide_false,Nat.reduceAdd,eq_self,h3',ix,aFJ,d1,d2,d5,q1,q2,q3,q4,q5,d3,aE8,lb,d6,s1,l0,hw,Q5,e1',s2]
   case neg =>
    have d2:decide ((i:Int)=4)=false:=decide_eq_false (by omega)
    cases bad with
    | true =>
     rw [Bool.true_or] at s1 s2 l0 e1' ⊢
     simp only [aAj,aAH,Zae,Zaf,Zag,Zah,Zai,Zak,Zam,Zan,Zao,Zaq,Zas,Zav,Zaw,Zba,Zbc,Zbe,Zbg,Zbh,Zbi,Zbj,Zbk,Zbl,Zbm,Zbn,Zbo,Zbp,Zbs,Zbt,Zbu,Zbw,Zca,Zcc,Zcd,Zcf,Zcz,Zda,Zdb,Zdc,Zdf,Zdg,Zdh,Q2,Q3,Q0,Q1,Q4,Zdi,Zdk,Zdl,Zdn,Zdp,Zeb,decide_true,decide_false,Nat.reduceAdd,eq_self,h3',ix,aFJ,d1,d2,q1,q2,q3,q4,q5,d3,aE8,lb,s1,l0,hw,Q5,e1',s2]
    | false =>
     rw [Bool.false_or] at s1 s2 l0 e1' ⊢
     by_cases c5:c.toNat=0
     ·have d6:decide ((c.toNat:Int)=0)=true:=decide_eq_true (by omega)
      obtain ⟨y,hy⟩:∃ y,y=decide ((0:Int) < i):=⟨_,rfl⟩
      have ez:z=y:=by
       rw [hz,hy]
       have:decide (c.toNat=0)=true:=decide_eq_true c5
       rw [this,Bool.true_and]
       exact decide_eq_decide.2 (by omega)
      subst ez
      simp only [aAj,aAH,Zae,Zaf,Zag,Zah,Zai,Zak,Zam,Zan,Zao,Zaq,Zas,Zav,Zaw,Zba,Zbc,Zbe,Zbf,Zbg,Zbi,Zbk,Zbl,Zbm,Zbn,Zbo,Zbp,Zbs,Zbt,Zbu,Zbw,Zca,Zcc,Zcd,Zcf,Zcz,Zda,Zdb,Zdc,Zdf,Zdg,Zdh,Q2,Q3,Q0,Q1,Q4,Zdi,Zdk,Zdl,Zdn,Zdp,Zeb,decide_true,decide_false,Nat.reduceAdd,eq_self,h3',ix,aFJ,d1,d2,q1,q2,q3,q4,q5,d3,aE8,lb,d6,← hy,s1,l0,hw,Q5,e1',s2]
     ·have d6:decide ((c.toNat:Int)=0)=false:=decide_eq_false (by omega)
      have ez:z=false:=by rw [hz];simp [c5]
      subst ez
      simp only [aAj,aAH,Zae,Zaf,Zag,Zah,Zai,Zak,Zam,Zan,Zao,Zaq,Zas,Zav,Zaw,Zba,Zbc,Zbe,Zbg,Zbi,Zbl,Zbm,Zbn,Zbo,Zbp,Zbs,Zbt,Zbu,Zbw,Zca,Zcc,Zcd,Zcf,Zcz,Zda,Zdb,Zdc,Zdf,Zdg,Zdh,Q2,Q3,Q0,Q1,Q4,Zdi,Zdk,Zdl,Zdn,Zdp,Zeb,decide_true,decide_false,Nat.reduceAdd,eq_self,h3',ix,aFJ,d1,d2,q1,q2,q3,q4,q5,d3,aE8,lb,d6,s1,l0,hw,Q5,e1',s2]
  case neg =>
  rw [if_neg c3]
  have d3:¬ (c.toNat:Int) < 128:=by omega
  have run:aAw (aA9 (lim G0.cfg) N aAT) (m+1) ⟨(.ptr r 0 0 0::J::J::.int .i64 n::J::J::J::J::J::w::.int .i64 l.length::.int .i64 i::J::J::J::J::J::J::J::J::J::J::J::J::J::J::J::J::J::J::J::J::J::J::J::J::J::J::J::J::J::J::J::J::J::J::J::J::J::J::J::J::J::J::J::J::J::J::J::J::J::J::J::J::J::J::J::J::J::[]),h⟩=aAw (aA9 (lim G0.cfg) N aAT) m ⟨(.ptr r 0 0 0::J::J::.int .i64 n'::J::J::J::J::J::w::.int .i64 l.length::.int .i64 (i+1:Nat)::J::J::J::J::J::J::J::J::J::J::J::J::J::J::J::J::J::J::J::J::J::J::J::J::J::J::J::J::J::J::J::J::J::J::J::J::J::J::J::J::J::J::J::J::J::J::J::J::J::J::J::J::J::J::J::J::J::[]),h⟩:=by
   by_cases c4:i=4
   case pos=>omega
   case neg =>
    have d2:decide ((i:Int)=4)=false:=decide_eq_false (by omega)
    simp only [aAj,aAH,Zae,Zaf,Zag,Zah,Zai,Zak,Zan,Zao,Zar,Zav,Zaw,Zay,Zbc,Zbg,Zbi,Zbl,Zbm,Zbn,Zbo,Zbp,Zbs,Zbu,Zbw,Zcf,Zcz,Zda,Zdb,Zdf,Zdg,Zdh,Q2,Q3,Q0,Q1,Zdi,Zdk,Zdl,Zdn,Zdp,decide_true,decide_false,eq_self,h3',ix,aFJ,d1,d2,q1,q2,q3,q4,q5,d3,hw]
  rw [run]
  exact ih (i+1) m n' (by omega) (by omega) (by omega) hb
theorem aGF {l:List UInt8} {w:AV} (hl:LiB l w) (hn:l.length≤1000000000) {bad:Bool} {h:aA0} (er:h[r]?=some (rdO w bad)) :
  ∃ w',LiB (aAD (l,bad)).2.1 w'∧lim G0.cfg (.func 19) [.ptr r 0 0 0] h=some (.int .i64 (aAD (l,bad)).1,h.set r (rdO w' (aAD (l,bad)).2.2)):=by
 have nl:=hl.len
 have l0:=aMY er
 obtain ⟨k1,k2⟩:=aS1 (N:=l.length+1) hl hn er l.length 0 (l.length+1) 0 (by omega) (by omega) (by omega) (by decide)
 rw [z0,List.drop_zero] at k1 k2
 unfold aAD
 simp only
 cases c:rdG 0 0 l with
 | none =>
  have e:=k2 c
  have s1:=aRz er true
  have er2:(h.set r (rdO w true))[r]?=some (rdO w true):=aAr er
  have s2:=aRA er2 (v:=.nilS) ⟨rfl,rfl⟩
  rw [set_set] at s2
  refine ⟨.nilS,aJF,aB3 rfl aDW (l.length+1) ?_⟩
  rw [aDV]
  simp only [Zaf,Zag,Zai,Zaj,Zak,Zam,Zan,Zao,Zat,Zax,Zbc,Zbe,Zbm,Zbo,Zbs,Zbt,Zcc,Zcd,Zck,Zcy,Zcz,Zda,Zdb,Zdc,Zdf,Zdg,Zdh,Q2,Q3,Q0,Q1,Q4,Zeb,Q6,Q7,Nat.reduceAdd,Nat.reduceSub,eq_self,Q6,Q7,List.replicate_succ,List.replicate_zero,List.cons_append,List.nil_append,aE8,l0,nl,e,s1,s2,aAa,aA8,aAc,z0]
 | some q =>
  obtain ⟨x,z,rest⟩:=q
  obtain ⟨w',lw,e⟩:=k1 x z rest c
  refine ⟨w',lw,aB3 rfl aDW (l.length+1) ?_⟩
  rw [aDV]
  simp only [Zaf,Zag,Zai,Zaj,Zak,Zan,Zao,Zaq,Zas,Zax,Zbc,Zbm,Zbo,Zbs,Zcc,Zcd,Zck,Zcy,Zcz,Zda,Zdb,Zdf,Zdg,Zdh,Q2,Q3,Q0,Q1,Q4,Zeb,Q6,Q7,Nat.reduceAdd,Nat.reduceSub,eq_self,Q6,Q7,List.replicate_succ,List.replicate_zero,List.cons_append,List.nil_append,aE8,l0,nl,e,aAa,aA8,aAc]
end
end Go.Proofs.Ytgeedikghjcebaa.Ai
