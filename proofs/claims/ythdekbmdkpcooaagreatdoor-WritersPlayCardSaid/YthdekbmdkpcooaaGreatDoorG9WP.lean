/- Plain laws. -/
import Derived.Sort.KeysCollected
import Derived.Lib.Hide
set_option linter.unusedVariables false
set_option linter.unusedSimpArgs false
set_option maxRecDepth 100000
set_option maxHeartbeats 200000
namespace Go.Proofs.YthdekbmdkpcooaaGreatDoor
section
open Go.RowKit
theorem q4m : ∀a b:List UInt8,bytesBefore a b=decide (a<b)
 |[],[]=>by simp[bytesBefore]
 |[],b::s=>by simp[bytesBefore]
 |a::r,[]=>by simp[bytesBefore]
 | a::r,b::s=>by
  unfold bytesBefore;rw[q4m r s,Bool.eq_iff_iff];simp[List.cons_lt_cons_iff]
section gen
variable {α β:Type} (k:α→List UInt8)
def q3p (x:α):List α→List α
 |[]=>[x]
 |y::r=>if bytesBefore (k x) (k y) then x::y::r else y::q3p x r
def q2o (nm:List UInt8) (l:List α):List α:=l.filter fun y=>!(k y==nm)
def q1O (nm:List UInt8) (f:α→α) (l:List α):List α:=l.map fun y=>if k y==nm then f y else y
def q0I (nm:List UInt8) (l:List α):Option α:=l.find? fun y=>k y==nm
def q3I (l:List α):Prop:=l.Pairwise fun x y=>bytesBefore (k x) (k y)=true
variable {k}
theorem q4T (x:α): ∀l:List α,(q3p k x l).Perm (x::l)
 |[]=>List.Perm.refl _
 | y::r=>by
  unfold q3p
  split
  ·exact List.Perm.refl _
  ·exact (List.Perm.cons y (q4T x r)).trans (List.Perm.swap x y r)
theorem mem_insN {x y:α} {l:List α}:y∈q3p k x l↔y=x∨y∈l:=by rw[(q4T x l).mem_iff];simp
theorem z1u (x:α) (l:List α):(q3p k x l).length=l.length+1:=by rw[(q4T x l).length_eq];rfl
theorem q9E {x:α}: ∀{l:List α},q3I k l→(∀y∈l,k y≠k x)→q3I k (q3p k x l)
 |[],_,_=>by simp[q3I,q3p]
 | y :: r,h,hne=>by
  obtain ⟨h1,h2⟩:=List.pairwise_cons.1 h;unfold q3p
  split
  ·rename_i hb
   refine List.pairwise_cons.2 ⟨fun z hz=>?_,h⟩;rcases List.mem_cons.1 hz with rfl|hz
   ·exact hb
   ·exact WideShapes.bytes_trans _ _ _ hb (h1 z hz)
  ·rename_i hb
   have hyx:bytesBefore (k y) (k x)=true:=by
    rcases WideAt.bytes_total _ _ (hne y (List.mem_cons_self)) with h|h
    ·exact h
    ·exact absurd h hb
   refine List.pairwise_cons.2 ⟨fun z hz=>?_,q9E h2 fun z hz=>hne z (List.mem_cons_of_mem _ hz)⟩;rcases mem_insN.1 hz with rfl|hz
   ·exact hyx
   ·exact h1 z hz
theorem q9C {nm:List UInt8} {l:List α} (h:q3I k l):q3I k (q2o k nm l):=h.filter _
theorem mem_delN {nm:List UInt8} {x:α} {l:List α}:x∈q2o k nm l↔x∈l∧k x≠nm:=by simp[q2o,List.mem_filter]
theorem q8s {nm:List UInt8} {f:α→α} {l:List α} (h:q3I k l) (hf: ∀y,k y=nm→k (f y)=nm):q3I k (q1O k nm f l):=by
 refine List.pairwise_map.2 (h.imp fun {x y} hxy=>?_);have e: ∀z,k (if k z==nm then f z else z)=k z:=fun z=>by
  split
  ·rename_i hz
   have hz':k z=nm:=by simpa using hz
   rw[hf z hz',hz']
  ·rfl
 rw[e,e];exact hxy
theorem q6k {nm:List UInt8} {f:α→α} (l:List α):(q1O k nm f l).length=l.length:=by simp[q1O]
theorem q0P {nm:List UInt8} {l:List α} {e:α} (h:q0I k nm l=some e):e∈l∧k e=nm:=⟨List.mem_of_find?_eq_some h,by simpa using List.find?_some h⟩
theorem q1y {nm:List UInt8} {l:List α} (h:q0I k nm l=none): ∀y∈l,k y≠nm:=fun y hy=>by simpa using List.find?_eq_none.1 h y hy
theorem q0Y {nm:List UInt8} {l:List α} (h: ∀y∈l,k y≠nm):q0I k nm l=none:=List.find?_eq_none.2 fun y hy=>by simpa using h y hy
theorem z0N {l:List α} (h:q3I k l):l.Pairwise fun x y=>k x≠k y:=h.imp fun {x y} hxy e=>by rw[e,WideAt.bytes_irrefl] at hxy;cases hxy
theorem q6A {l:List α} (h:q3I k l) {x y:α} (hx:x∈l) (hy:y∈l) (e:k x=k y):x=y:=by
 have hp:=z0N h;clear h
 induction l with
 |nil=>cases hx
 | cons a r ih=>
  obtain ⟨h1,h2⟩:=List.pairwise_cons.1 hp;rcases List.mem_cons.1 hx with ex|hx'<;>rcases List.mem_cons.1 hy with ey|hy'
  ·rw[ex,ey]
  ·subst ex;exact absurd e (h1 y hy')
  ·subst ey;exact absurd e.symm (h1 x hx')
  ·exact ih hx' hy' h2
theorem q5G {nm:List UInt8} {l:List α} (h:q3I k l) {e:α} (he:e∈l) (hn:k e=nm):q0I k nm l=some e:=by
 cases hf:q0I k nm l with
 |none=>exact absurd hn (q1y hf e he)
 |some e'=>obtain ⟨h1,h2⟩:=q0P hf;rw[q6A h h1 he (h2.trans hn.symm)]
theorem q5c {nm:List UInt8} {l:List α} (h:q0I k nm l=none):q2o k nm l=l:=List.filter_eq_self.2 fun y hy=>by simpa using q1y h y hy
theorem q5F {nm:List UInt8} {f:α→α} {l:List α} (h:q0I k nm l=none):q1O k nm f l=l:=by
 unfold q1O
 conv=>rhs;rw[←List.map_id l]
 exact List.map_congr_left fun y hy=>by rw[if_neg (by simpa using q1y h y hy)];rfl
theorem q4d {nm:List UInt8} {f:α→α} {l:List α} (h:q3I k l) {e:α} (hf:q0I k nm l=some e) {y:α}:y∈q1O k nm f l↔y=f e∨(y∈l∧k y≠nm):=by
 obtain ⟨h1,h2⟩:=q0P hf;unfold q1O;rw[List.mem_map]
 constructor
 ·rintro ⟨z,hz,rfl⟩
  by_cases hn:k z=nm
  ·obtain rfl:=q6A h hz h1 (hn.trans h2.symm)
   left;rw[if_pos (by simpa using hn)]
  ·right;rw[if_neg (by simpa using hn)];exact ⟨hz,hn⟩
 ·rintro (rfl|⟨hy,hn⟩)
  ·exact ⟨e,h1,by rw[if_pos (by simpa using h2)]⟩
  ·exact ⟨y,hy,by rw[if_neg (by simpa using hn)]⟩
theorem q9f {S:α→α→Prop} {nm:List UInt8} {f:α→α} {l:List α} (h:q3I k l) (hS:l.Pairwise S) {e:α} (hf:q0I k nm l=some e) (h1: ∀y∈l,k y≠nm→S (f e) y∧S y (f e)):(q1O k nm f l).Pairwise S:=by
 obtain ⟨he,hen⟩:=q0P hf;refine List.pairwise_map.2 ((hS.and (z0N h)).imp_of_mem fun {x y} hx hy ⟨hs,hne⟩=>?_);by_cases hxn:k x=nm
 ·have hyn:k y≠nm:=fun e=>hne (hxn.trans e.symm)
  obtain rfl:=q6A h hx he (hxn.trans hen.symm);rw[if_pos (by simpa using hxn),if_neg (by simpa using hyn)];exact (h1 y hy hyn).1
 ·rw [if_neg (by simpa using hxn)]
  by_cases hyn:k y=nm
  ·obtain rfl:=q6A h hy he (hyn.trans hen.symm)
   rw[if_pos (by simpa using hyn)];exact (h1 x hx hxn).2
  ·rw[if_neg (by simpa using hyn)];exact hs
section map
variable {k' :β→List UInt8} {h:α→β} (hk: ∀x,k' (h x)=k x)
include hk
theorem q8r (x:α): ∀l:List α,(q3p k x l).map h=q3p k' (h x) (l.map h)
 |[]=>rfl
 | y::r=>by
  unfold q3p;simp only[List.map_cons,hk]
  split
  ·rfl
  ·rw[List.map_cons,q8r x r]
theorem z3X (nm:List UInt8) (l:List α):(q2o k nm l).map h=q2o k' nm (l.map h):=by
 unfold q2o;rw[List.filter_map];congr 1;exact List.filter_congr fun y _=>by simp[hk]
theorem z3A (nm:List UInt8) (f:α→α) (g:β→β) (hf: ∀y,h (f y)=g (h y)) (l:List α):(q1O k nm f l).map h=q1O k' nm g (l.map h):=by
 unfold q1O;rw[List.map_map,List.map_map];refine List.map_congr_left fun y _=>?_
 simp only[Function.comp,hk];split<;>simp[hf]
theorem z6O {nm:List UInt8} {f:α→α} {g:β→β} {l:List α} (ho:q3I k l) {e:α} (hf:q0I k nm l=some e) (hfe:h (f e)=g (h e)):(q1O k nm f l).map h=q1O k' nm g (l.map h):=by
 obtain ⟨he,hen⟩:=q0P hf;unfold q1O;rw[List.map_map,List.map_map];refine List.map_congr_left fun y hy=>?_
 simp only[Function.comp,hk]
 split
 ·rename_i hz
  have hz':k y=nm:=by simpa using hz
  rw[q6A ho hy he (hz'.trans hen.symm)];exact hfe
 ·rfl
theorem q1q (nm:List UInt8) (l:List α):q0I k' nm (l.map h)=(q0I k nm l).map h:=by
 unfold q0I;rw[List.find?_map];congr 2;funext y;simp[hk]
theorem z1d {l:List α}:q3I k' (l.map h)↔q3I k l:=by
 unfold q3I;rw[List.pairwise_map];simp only[hk]
end map
def q5n (s:α→Nat) (l:List α):Nat:=(l.map s).sum
theorem z6s (s:α→Nat) (x:α) (l:List α):q5n s (q3p k x l)=s x+q5n s l:=by
 unfold q5n;rw[((q4T x l).map s).sum_nat];simp
theorem z3T (s:α→Nat) {nm:List UInt8}: ∀{l:List α},q3I k l→ ∀{e:α},q0I k nm l=some e→q5n s (q2o k nm l)+s e=q5n s l
 |[],_,_,hf=>by simp[q0I] at hf
 | a :: r,h,e,hf=>by
  obtain ⟨h1,h2⟩:=List.pairwise_cons.1 h;by_cases ha:k a=nm
  ·have e1:a=e:=by unfold q0I at hf;rw[List.find?_cons_of_pos (by simpa using ha)] at hf;exact Option.some.inj hf
   subst e1;have e2:q2o k nm (a::r)=r:=by
    unfold q2o;rw[List.filter_cons_of_neg (by simp[ha])];refine List.filter_eq_self.2 fun y hy=>?_
    have:=h1 y hy;simp only[Bool.not_eq_true',beq_eq_false_iff_ne];intro e3;rw[e3,←ha,WideAt.bytes_irrefl] at this
    cases this
   rw[e2];simp[q5n];omega
  ·have hf2:q0I k nm r=some e:=by unfold q0I at hf⊢;rwa [List.find?_cons_of_neg (by simpa using ha)] at hf
   have ih:=z3T s h2 hf2;have e2:q2o k nm (a::r)=a::q2o k nm r:=by unfold q2o;rw[List.filter_cons_of_pos (by simpa using ha)]
   rw[e2];simp only[q5n,List.map_cons,List.sum_cons] at ih⊢;omega
theorem q6h (s:α→Nat) {nm:List UInt8} {f:α→α}: ∀{l:List α},q3I k l→ ∀{e:α},q0I k nm l=some e→q5n s (q1O k nm f l)+s e=q5n s l+s (f e)
 |[],_,_,hf=>by simp[q0I] at hf
 | a ::r,h,e,hf=>by
  obtain ⟨h1,h2⟩:=List.pairwise_cons.1 h;by_cases ha:k a=nm
  ·have e1:a=e:=by unfold q0I at hf;rw[List.find?_cons_of_pos (by simpa using ha)] at hf;exact Option.some.inj hf
   subst e1;have e2:q1O k nm f r=r:=q5F (q0Y fun y hy e3=>by have:=h1 y hy;rw[e3,←ha,WideAt.bytes_irrefl] at this;cases this);have e3:q1O k nm f (a::r)=f a::q1O k nm f r:=by unfold q1O;rw[List.map_cons,if_pos (by simpa using ha)]
   rw[e3,e2];simp[q5n];omega
  ·have hf2:q0I k nm r=some e:=by unfold q0I at hf⊢;rwa [List.find?_cons_of_neg (by simpa using ha)] at hf
   have ih:=q6h s (f:=f) h2 hf2;have e2:q1O k nm f (a::r)=a::q1O k nm f r:=by unfold q1O;rw[List.map_cons,if_neg (by simpa using ha)]
   rw[e2];simp only[q5n,List.map_cons,List.sum_cons] at ih⊢;omega
theorem q6g (s:α→Nat): ∀{l:List α} {e:α},e∈l→s e≤q5n s l
 | a::r,e,h=>by
  rcases List.mem_cons.1 h with rfl|h
  ·simp[q5n]
  ·have:=q6g s h;simp only[q5n,List.map_cons,List.sum_cons] at this⊢;omega
end gen
structure FM where
 nm:List UInt8
 da:List UInt8
 sy:Nat
structure DM where
 cap:Int
 L:List FM
 reads:Int
 starts:Int
 down:Bool
 fail:Bool
 left:Int
 keep:List Int
def q0Q (L:List FM):Nat:=q5n (fun f=>f.da.length) L
def q3w (nm:List UInt8):Bool:=!nm.isEmpty&&decide (nm.length≤12)
structure okD (σ:DM):Prop where
 cap0:0≤σ.cap
 cap1:σ.cap≤1048576
 used:(q0Q σ.L:Int)≤σ.cap
 ord:q3I FM.nm σ.L
 sy: ∀f∈σ.L,f.sy≤f.da.length
 many:σ.L.length≤400
 left:0≤σ.left
 idle:σ.fail=false→σ.left=0
 keep:σ.keep.length≤1000000
 left1:σ.left≤9223372036854775807
def q2G (σ:DM):Bool:=σ.fail&&decide (σ.left=0)
def q2c (σ:DM):DM:={σ with left:=max (σ.left-1) 0}
def q3x (f:FM) (more:Int):FM:={f with da:=f.da.take (f.sy+min (max more 0).toNat (f.da.length-f.sy)),sy:=f.sy+min (max more 0).toNat (f.da.length-f.sy)}
def q1a :List FM→List Int→List FM
 |[],_=>[]
 |f::r,ks=>q3x f (ks.headD 0)::q1a r ks.tail
def z3W (σ:DM) (ks:List Int):DM:={σ with L:=q1a σ.L ks,down:=true,fail:=false,left:=0,keep:=[]}
def q5M (σ:DM):DM:=z3W σ σ.keep
def q2D (σ:DM) (nm:List UInt8):Int×DM:=
 if σ.down then (61,σ) else if !q3w nm then (2,σ) else if (q0I FM.nm nm σ.L).isSome then (62,σ) else if 400≤σ.L.length then (60,σ)
 else if q2G σ then (61,q5M σ) else (0,{q2c σ with L:=q3p FM.nm ⟨nm,[],0⟩ σ.L})
def q8a (σ:DM) (nm s:List UInt8):DM:={σ with L:=q1O FM.nm nm (fun f=>{f with da:=f.da++s}) σ.L}
def q2E (σ:DM) (nm s:List UInt8):Int×DM:=
 if σ.down then (61,σ) else if (q0I FM.nm nm σ.L).isNone then (4,σ) else if σ.cap-(q0Q σ.L:Int)<(s.length:Int) then (60,σ)
 else if q2G σ then (61,q5M (q8a σ nm s)) else (0,q2c (q8a σ nm s))
def q2U (σ:DM):DM:={σ with reads:=wrap64 (σ.reads+1)}
def q1d (σ:DM) (nm:List UInt8) (at_ n:Int):List UInt8×Int×DM:=
 if σ.down then ([],61,σ) else match q0I FM.nm nm σ.L with
 |none=>([],4,q2U σ)
 |some f=>if 0≤at_∧0≤n∧at_≤(f.da.length:Int)∧n≤(f.da.length:Int)-at_ then ((f.da.drop at_.toNat).take n.toNat,0,q2U σ) else ([],2,q2U σ)
def q6V (σ:DM) (nm:List UInt8):Int×DM:=
 if σ.down then (61,σ) else if (q0I FM.nm nm σ.L).isNone then (4,σ) else if q2G σ then (61,q5M σ)
 else (0,{q2c σ with L:=q1O FM.nm nm (fun f=>{f with sy:=f.da.length}) σ.L})
def q1U (σ:DM) (nm:List UInt8):Int×DM:=
 if σ.down then (61,σ) else if (q0I FM.nm nm σ.L).isNone then (4,σ) else if q2G σ then (61,q5M σ) else (0,{q2c σ with L:=q2o FM.nm nm σ.L})
def q1Z (σ:DM) (nm:List UInt8):Int×Int:=
 if σ.down then (0,61) else match q0I FM.nm nm σ.L with|none=>(0,4)|some f=>((f.da.length:Int),0)
def q1b (σ:DM):List (List UInt8):=σ.L.map FM.nm
def z1b (σ:DM):Int:=σ.cap-(q0Q σ.L:Int)
def q5d (n:Nat) (f:FM):FM:={f with da:=f.da.take n,sy:=min f.sy (min n f.da.length)}
end
section
open Go.RowKit
def q4J (L:List FM) (xs:List Int) (i:Nat):List FM:=q1a (L.take i) xs++L.drop i
theorem q5U : ∀(L:List FM) (xs:List Int),(q1a L xs).length=L.length
 |[],_=>rfl
 |f::r,xs=>by simp[q1a,q5U r]
theorem z6B (f:FM) (x:Int):(q3x f x).nm=f.nm:=rfl
theorem q7Q : ∀(L:List FM) (xs:List Int),(q1a L xs).map FM.nm=L.map FM.nm
 |[],_=>rfl
 |f::r,xs=>by simp[q1a,q7Q r,z6B]
theorem z6N (L:List FM) (xs:List Int):q4J L xs 0=L:=by simp[q4J,q1a]
theorem z8P (L:List FM) (xs:List Int):q4J L xs L.length=q1a L xs:=by simp[q4J]
theorem z1P (L:List FM) (xs:List Int) (i:Nat):(q4J L xs i).map FM.nm=L.map FM.nm:=by
 unfold q4J;rw[List.map_append,q7Q,←List.map_append,List.take_append_drop]
theorem z2n {L L':List FM} (h:q3I FM.nm L) (e:L'.map FM.nm=L.map FM.nm):q3I FM.nm L':=by
 have h1:q3I (fun x:List UInt8=>x) (L.map FM.nm):=(z1d (k:=FM.nm) (h:=FM.nm) fun x=>rfl).2 h;rw[←e] at h1;exact (z1d (k:=FM.nm) (h:=FM.nm) fun x=>rfl).1 h1
theorem z6P (xs:List Int) (i:Nat):xs.tail.getD i 0=xs.getD (i+1) 0:=by
 cases xs<;>simp[List.getD_eq_getElem?_getD]
theorem z4S (xs:List Int):xs.headD 0=xs.getD 0 0:=by cases xs<;>simp
theorem q7M : ∀(l:List FM) (f:FM) (xs:List Int),q1a (l++[f]) xs=q1a l xs++[q3x f (xs.getD l.length 0)]
 |[],f,xs=>by simp only[List.nil_append,q1a,List.length_nil,z4S]
 | a::r,f,xs=>by
  rw[List.cons_append,q1a,q1a,q7M r f xs.tail,z6P]
  rfl
theorem z1n {nm:List UInt8} {h:FM→FM} {a c:List FM} {f:FM} (hf:f.nm=nm) (ho:q3I FM.nm (a++f::c)):q1O FM.nm nm h (a++f::c)=a++h f::c:=by
 have hne:=z0N ho;rw[List.pairwise_append] at hne;obtain ⟨_,h2,h3⟩:=hne;have ha:q1O FM.nm nm h a=a:=q5F (q0Y fun y hy e=>h3 y hy f (by simp) (e.trans hf.symm));have hc:q1O FM.nm nm h c=c:=q5F (q0Y fun y hy e=>(List.pairwise_cons.1 h2).1 y hy (hf.trans e.symm));unfold q1O at ha hc⊢;rw[List.map_append,List.map_cons,ha,hc,if_pos (by simpa using hf)]
theorem z0o {L:List FM} (xs:List Int) {i:Nat} (hi:i<L.length) (ho:q3I FM.nm L):
  q0I FM.nm L[i].nm (q4J L xs i)=some L[i]∧ ∀h:FM→FM,h L[i]=q3x L[i] (xs.getD i 0)→q1O FM.nm L[i].nm h (q4J L xs i)=q4J L xs (i+1):=by
 have e1:q4J L xs i=q1a (L.take i) xs++L[i]::L.drop (i+1):=by unfold q4J;rw[List.drop_eq_getElem_cons hi]
 have o1:q3I FM.nm (q4J L xs i):=z2n ho (z1P L xs i);have hm:L[i]∈q4J L xs i:=by rw[e1];exact List.mem_append_right _ List.mem_cons_self
 refine ⟨q5G o1 hm rfl,fun h hh=>?_⟩;rw[e1] at o1⊢;rw[z1n rfl o1,hh];unfold q4J;rw[List.take_succ_eq_append_getElem hi,q7M,List.length_take,Nat.min_eq_left (Nat.le_of_lt hi)];simp
theorem z4e {nm:List UInt8} {h h':FM→FM} {L:List FM} (hk: ∀y,(h y).nm=y.nm):q1O FM.nm nm h' (q1O FM.nm nm h L)=q1O FM.nm nm (fun y=>h' (h y)) L:=by
 unfold q1O;rw[List.map_map];refine List.map_congr_left fun y _=>?_
 simp only[Function.comp];by_cases e:(y.nm==nm)=true
 ·rw[if_pos e,if_pos (by rw[hk];exact e),if_pos e]
 ·rw[if_neg e,if_neg e,if_neg e]
theorem z5b (f:FM) (x:Int):(q3x f x).da.length≤f.da.length:=by simp[q3x];omega
theorem z5k (f:FM) (x:Int) (h:f.sy≤f.da.length):(q3x f x).sy=(q3x f x).da.length:=by simp[q3x];omega
theorem q7N : ∀(L:List FM) (xs:List Int),q0Q (q1a L xs)≤q0Q L
 |[],_=>Nat.le_refl _
 | f::r,xs=>by
  have:=q7N r xs.tail;have:=z5b f (xs.headD 0);unfold q0Q q5n at*;simp only[q1a,List.map_cons,List.sum_cons];omega
theorem q6N (a b:List FM):q0Q (a++b)=q0Q a+q0Q b:=by simp[q0Q,q5n]
theorem z4J (L:List FM) (xs:List Int) (i:Nat):q0Q (q4J L xs i)≤q0Q L:=by
 unfold q4J;have e:q0Q L=q0Q (L.take i)+q0Q (L.drop i):=by rw[←q6N,List.take_append_drop]
 rw[q6N,e];have:=q7N (L.take i) xs;omega
theorem z0z : ∀(L:List FM) (xs:List Int),(∀f∈L,f.sy≤f.da.length)→ ∀f∈q1a L xs,f.sy=f.da.length
 |[],_,_=>by simp[q1a]
 | a::r,xs,h=>by
  intro f hf;rw[q1a] at hf;rcases List.mem_cons.1 hf with rfl|hf
  ·exact z5k _ _ (h a (by simp))
  ·exact z0z r xs.tail (fun g hg=>h g (by simp[hg])) f hf
theorem z7z {σ:DM} (h:okD σ) (xs:List Int):okD (z3W σ xs):=by
 refine ⟨h.cap0,h.cap1,?_,z2n h.ord (q7Q _ _),fun f hf=>Nat.le_of_eq (z0z _ _ h.sy f hf),?_,Int.le_refl _,fun _=>rfl,Nat.zero_le _,by show (0:Int)≤_;decide⟩
 ·have:=h.used
  have:=q7N σ.L xs;show (q0Q (q1a σ.L xs):Int)≤σ.cap;omega
 ·show (q1a σ.L xs).length≤400
  rw[q5U];exact h.many
end
section
open Go.RowKit
theorem z0W {L:List FM} {nm:List UInt8} {f:FM→FM} (ho:q3I FM.nm L) {e:FM} (hf:q0I FM.nm nm L=some e):q0Q (q1O FM.nm nm f L)+e.da.length=q0Q L+(f e).da.length:=q6h _ ho hf
theorem z0H {L:List FM} {nm:List UInt8} (ho:q3I FM.nm L) {e:FM} (hf:q0I FM.nm nm L=some e):q0Q (q2o FM.nm nm L)+e.da.length=q0Q L:=z3T _ ho hf
theorem z0w (x:FM) (L:List FM):q0Q (q3p FM.nm x L)=x.da.length+q0Q L:=z6s _ x L
theorem q7D {L:List FM} {e:FM} (h:e∈L):e.da.length≤q0Q L:=q6g (fun f:FM=>f.da.length) h
theorem okD.tick {σ:DM} (h:okD σ):okD (q2c σ):=
 ⟨h.cap0,h.cap1,h.used,h.ord,h.sy,h.many,(by show 0≤max (σ.left-1) 0;omega),(fun hf=>by have:=h.idle hf;show max (σ.left-1) 0=0;omega),h.keep,by have:=h.left1;show max (σ.left-1) 0≤_;omega⟩
theorem okD.sink {σ:DM} (h:okD σ):okD (q5M σ):=z7z h _
theorem okD.files {σ:DM} (h:okD σ) {L:List FM} (hu:(q0Q L:Int)≤σ.cap) (ho:q3I FM.nm L) (hs: ∀f∈L,f.sy≤f.da.length) (hm:L.length≤400):okD {σ with L:=L}:=
 ⟨h.cap0,h.cap1,hu,ho,hs,hm,h.left,h.idle,h.keep,h.left1⟩
theorem okD.upd {σ:DM} (h:okD σ) {nm:List UInt8} {f:FM→FM} {e:FM} (hf:q0I FM.nm nm σ.L=some e) (hu:(q0Q (q1O FM.nm nm f σ.L):Int)≤σ.cap) (hn: ∀y,(f y).nm=y.nm) (hs:(f e).sy≤(f e).da.length):okD {σ with L:=q1O FM.nm nm f σ.L}:=by
 refine h.files hu (q8s h.ord fun y hy=>by rw[hn,hy]) (fun y hy=>?_) (by rw[q6k];exact h.many);rcases (q4d h.ord hf).1 hy with rfl|⟨hy,_⟩
 ·exact hs
 ·exact h.sy y hy
theorem okD.app {σ:DM} (h:okD σ) {nm s:List UInt8} {e:FM} (hf:q0I FM.nm nm σ.L=some e) (hu:(q0Q σ.L:Int)+s.length≤σ.cap):okD (q8a σ nm s)∧q0Q (q8a σ nm s).L=q0Q σ.L+s.length:=by
 have h1:=z0W (f:=fun f:FM=>{f with da:=f.da++s}) h.ord hf;have h2:=h.sy e (q0P hf).1;have h3:({e with da:=e.da++s}:FM).da.length=e.da.length+s.length:=List.length_append;have h4:q0Q (q1O FM.nm nm (fun f:FM=>{f with da:=f.da++s}) σ.L)=q0Q σ.L+s.length:=by omega
 exact ⟨h.upd hf (by rw[h4];omega) (fun y=>rfl) (by show e.sy≤(e.da++s).length;rw[List.length_append];omega),h4⟩
theorem okD.create {σ:DM} (h:okD σ) {nm:List UInt8} (hno:q0I FM.nm nm σ.L=none) (hm:σ.L.length<400):okD {σ with L:=q3p FM.nm ⟨nm,[],0⟩ σ.L}:=by
 refine h.files (by rw[z0w];have:=h.used;simpa using this) (q9E h.ord (q1y hno)) (fun f hf=>?_) (by rw[z1u];omega);rcases mem_insN.1 hf with rfl|hf
 ·exact Nat.le_refl _
 ·exact h.sy f hf
theorem okD.tell {σ:DM} (h:okD σ):okD (q2U σ):=⟨h.cap0,h.cap1,h.used,h.ord,h.sy,h.many,h.left,h.idle,h.keep,h.left1⟩
theorem okD.sync {σ:DM} (h:okD σ) {nm:List UInt8} {e:FM} (hf:q0I FM.nm nm σ.L=some e):okD {σ with L:=q1O FM.nm nm (fun f=>{f with sy:=f.da.length}) σ.L}∧q0Q (q1O FM.nm nm (fun f=>{f with sy:=f.da.length}) σ.L)=q0Q σ.L:=by
 have h1:=z0W (f:=fun f:FM=>{f with sy:=f.da.length}) h.ord hf;have h4:q0Q (q1O FM.nm nm (fun f:FM=>{f with sy:=f.da.length}) σ.L)=q0Q σ.L:=by
  have:({e with sy:=e.da.length}:FM).da.length=e.da.length:=rfl;omega
 exact ⟨h.upd hf (by rw[h4];exact h.used) (fun y=>rfl) (Nat.le_refl _),h4⟩
theorem z9v (nm:List UInt8) (L:List FM):(q2o FM.nm nm L).length≤L.length:=List.length_filter_le _ _
theorem z0M {L:List FM} (nm:List UInt8) (ho:q3I FM.nm L):q0Q (q2o FM.nm nm L)≤q0Q L:=by
 cases hf:q0I FM.nm nm L with
 |none=>rw[q5c hf];exact Nat.le_refl _
 |some e=>have:=z0H ho hf;omega
theorem okD.delete {σ:DM} (h:okD σ) (nm:List UInt8):okD {σ with L:=q2o FM.nm nm σ.L}:=
 h.files (by have:=z0M nm h.ord;have:=h.used;omega) (q9C h.ord) (fun f hf=>h.sy f (mem_delN.1 hf).1) (by have:=z9v nm σ.L;have:=h.many;omega)
end
section
open Go.RowKit
def fbF (f:FM):List UInt8×List UInt8:=(f.nm,f.da)
structure Pl (σ:DM) (c s:Int) (l:List (List UInt8×List UInt8)):Prop where
 up:σ.down=false
 fine:σ.fail=false
 files:σ.L.map fbF=l
 cap:σ.cap=c
 st:σ.starts=s
def q2N (l:List (List UInt8×List UInt8)):Nat:=q5n (fun x:List UInt8×List UInt8=>x.2.length) l
section
variable {σ :DM} {c s:Int} {l:List (List UInt8×List UInt8)} {nm t:List UInt8} {x:List UInt8×List UInt8}
theorem q8F : ∀f:FM,Prod.fst (fbF f)=FM.nm f:=fun _=>rfl
theorem Pl.used (h:Pl σ c s l):q0Q σ.L=q2N l:=by
 unfold q0Q q2N q5n;rw[←h.files,List.map_map]
 rfl
theorem Pl.free (h:Pl σ c s l):z1b σ=c-(q2N l:Int):=by unfold z1b;rw[h.cap,h.used]
theorem Pl.find (h:Pl σ c s l) (nm:List UInt8):q0I Prod.fst nm l=(q0I FM.nm nm σ.L).map fbF:=by rw[←h.files];exact q1q q8F nm σ.L
theorem Pl.find_some (h:Pl σ c s l) (hf:q0I Prod.fst nm l=some x): ∃f,q0I FM.nm nm σ.L=some f∧fbF f=x:=by
 rw[h.find] at hf
 cases hq:q0I FM.nm nm σ.L with
 |none=>rw[hq] at hf;cases hf
 |some f=>rw[hq] at hf;exact ⟨f,rfl,Option.some.inj hf⟩
theorem Pl.find_none (h:Pl σ c s l) (hf:q0I Prod.fst nm l=none):q0I FM.nm nm σ.L=none:=by
 rw[h.find] at hf
 cases hq:q0I FM.nm nm σ.L with
 |none=>rfl
 |some f=>rw[hq] at hf;cases hf
theorem Pl.ord (h:Pl σ c s l) (ho:okD σ):q3I Prod.fst l:=by rw[←h.files];exact (z1d q8F).2 ho.ord
theorem Pl.names (h:Pl σ c s l):q1b σ=l.map Prod.fst:=by rw[←h.files,List.map_map];rfl
theorem Pl.no (h:Pl σ c s l):q2G σ=false:=by unfold q2G;rw[h.fine];rfl
theorem Pl.tell (h:Pl σ c s l):Pl (q2U σ) c s l:=⟨h.up,h.fine,h.files,h.cap,h.st⟩
theorem Pl.size (h:Pl σ c s l) (hf:q0I Prod.fst nm l=some x):q1Z σ nm=((x.2.length:Int),0):=by
 obtain ⟨f,h1,rfl⟩:=h.find_some hf;unfold q1Z;rw[if_neg (by rw[h.up];decide),h1]
 rfl
theorem Pl.sizeN (h:Pl σ c s l) (hf:q0I Prod.fst nm l=none):q1Z σ nm=(0,4):=by
 unfold q1Z;rw[if_neg (by rw[h.up];decide),h.find_none hf]
theorem Pl.read (h:Pl σ c s l) (hf:q0I Prod.fst nm l=some x) (a n:Int) (ha:0≤a) (hn:0≤n) (hl:a+n≤(x.2.length:Int)):q1d σ nm a n=((x.2.drop a.toNat).take n.toNat,0,q2U σ):=by
 obtain ⟨f,h1,rfl⟩:=h.find_some hf;unfold q1d;rw[if_neg (by rw[h.up];decide),h1];show (if 0≤a∧0≤n∧a≤(f.da.length:Int)∧n≤(f.da.length:Int)-a then _ else _)=_;have e:(fbF f).2=f.da:=rfl;rw[e] at hl;rw[if_pos (by omega)]
 rfl
theorem Pl.append (h:Pl σ c s l) (hf:q0I Prod.fst nm l=some x) (hr:(t.length:Int)≤c-(q2N l:Int)): ∃σ',q2E σ nm t=(0,σ')∧Pl σ' c s (q1O Prod.fst nm (fun x=>(x.1,x.2++t)) l):=by
 obtain ⟨f,h1,rfl⟩:=h.find_some hf;refine ⟨q2c (q8a σ nm t),?_,?_⟩
 ·unfold q2E
  rw[if_neg (by rw[h.up];decide),h1,if_neg (by simp),if_neg (by rw[h.cap,h.used];omega),if_neg (by rw[h.no];decide)]
 ·exact ⟨h.up,h.fine,by rw[←h.files];exact z3A (k:=FM.nm) (k':=Prod.fst) q8F nm (fun f=>{f with da:=f.da++t}) (fun x=>(x.1,x.2++t)) (fun _=>rfl) σ.L,h.cap,h.st⟩
theorem Pl.sync (h:Pl σ c s l) (hf:q0I Prod.fst nm l=some x): ∃σ',q6V σ nm=(0,σ')∧Pl σ' c s l:=by
 obtain ⟨f,h1,rfl⟩:=h.find_some hf;refine ⟨{q2c σ with L:=q1O FM.nm nm (fun f=>{f with sy:=f.da.length}) σ.L},?_,?_⟩
 ·unfold q6V
  rw[if_neg (by rw[h.up];decide),h1,if_neg (by simp),if_neg (by rw[h.no];decide)]
 ·refine ⟨h.up,h.fine,?_,h.cap,h.st⟩
  rw[←h.files];show (q1O FM.nm nm _ σ.L).map fbF=_;rw[z3A (k:=FM.nm) (k':=Prod.fst) q8F nm (fun f=>{f with sy:=f.da.length}) id (fun _=>rfl) σ.L];unfold q1O
  conv=>rhs;rw[←List.map_id (σ.L.map fbF)]
  exact List.map_congr_left fun y _=>by split<;>rfl
theorem Pl.create (h:Pl σ c s l) (hf:q0I Prod.fst nm l=none) (hk:q3w nm=true) (hm:l.length<400): ∃σ',q2D σ nm=(0,σ')∧Pl σ' c s (q3p Prod.fst (nm,[]) l):=by
 refine ⟨{q2c σ with L:=q3p FM.nm ⟨nm,[],0⟩ σ.L},?_,?_⟩
 ·unfold q2D
  have e:σ.L.length=l.length:=by rw[←h.files,List.length_map]
  rw[if_neg (by rw[h.up];decide),if_neg (by rw[hk];decide),h.find_none hf,if_neg (by simp),if_neg (by omega),if_neg (by rw[h.no];decide)]
 ·refine ⟨h.up,h.fine,?_,h.cap,h.st⟩
  rw[←h.files];exact q8r (k:=FM.nm) (k':=Prod.fst) q8F ⟨nm,[],0⟩ σ.L
end
section
variable {α :Type} {k:α→List UInt8}
theorem q4b (nm:List UInt8) (f:α→α) (a b:List α):q1O k nm f (a++b)=q1O k nm f a++q1O k nm f b:=by unfold q1O;simp
theorem q2u {nm:List UInt8} {f:α→α} {l:List α} (h: ∀y∈l,k y≠nm):q1O k nm f l=l:=q5F (q0Y h)
theorem q0c {nm:List UInt8} {a b:List α} (h: ∀y∈a,k y≠nm):q0I k nm (a++b)=q0I k nm b:=by
 unfold q0I;rw[List.find?_append];have:List.find? (fun y=>k y==nm) a=none:=q0Y h;rw[this];rfl
end
end
end Go.Proofs.YthdekbmdkpcooaaGreatDoor
