/- Plain laws. -/
import Derived.Sort.KeysCollected
import Derived.Lib.Hide
set_option linter.unusedVariables false
set_option linter.unusedSimpArgs false
set_option maxRecDepth 100000
set_option maxHeartbeats 200000
namespace Go.Proofs.YthdekbmdkpcooaaGreatDoor
section
open Go.RowKit
theorem q4o : ∀a b:List UInt8,bytesBefore a b=decide (a<b)
 |[],[]=>by simp[bytesBefore]
 |[],b::s=>by simp[bytesBefore]
 |a::r,[]=>by simp[bytesBefore]
 | a::r,b::s=>by
  unfold bytesBefore;rw[q4o r s,Bool.eq_iff_iff];simp[List.cons_lt_cons_iff]
section gen
variable {α β:Type} (k:α→List UInt8)
def q3g (x:α):List α→List α
 |[]=>[x]
 |y::r=>if bytesBefore (k x) (k y) then x::y::r else y::q3g x r
def q2k (nm:List UInt8) (l:List α):List α:=l.filter fun y=>!(k y==nm)
def q1N (nm:List UInt8) (f:α→α) (l:List α):List α:=l.map fun y=>if k y==nm then f y else y
def q0H (nm:List UInt8) (l:List α):Option α:=l.find? fun y=>k y==nm
def q3E (l:List α):Prop:=l.Pairwise fun x y=>bytesBefore (k x) (k y)=true
variable {k}
theorem q4E (x:α): ∀l:List α,(q3g k x l).Perm (x::l)
 |[]=>List.Perm.refl _
 | y::r=>by
  unfold q3g
  split
  ·exact List.Perm.refl _
  ·exact (List.Perm.cons y (q4E x r)).trans (List.Perm.swap x y r)
theorem mem_insN {x y:α} {l:List α}:y∈q3g k x l↔y=x∨y∈l:=by rw[(q4E x l).mem_iff];simp
theorem z1B (x:α) (l:List α):(q3g k x l).length=l.length+1:=by rw[(q4E x l).length_eq];rfl
theorem q8b {x:α}: ∀{l:List α},q3E k l→(∀y∈l,k y≠k x)→q3E k (q3g k x l)
 |[],_,_=>by simp[q3E,q3g]
 | y :: r,h,hne=>by
  obtain ⟨h1,h2⟩:=List.pairwise_cons.1 h;unfold q3g
  split
  ·rename_i hb
   refine List.pairwise_cons.2 ⟨fun z hz=>?_,h⟩;rcases List.mem_cons.1 hz with rfl|hz
   ·exact hb
   ·exact WideShapes.bytes_trans _ _ _ hb (h1 z hz)
  ·rename_i hb
   have hyx:bytesBefore (k y) (k x)=true:=by
    rcases WideAt.bytes_total _ _ (hne y (List.mem_cons_self)) with h|h
    ·exact h
    ·exact absurd h hb
   refine List.pairwise_cons.2 ⟨fun z hz=>?_,q8b h2 fun z hz=>hne z (List.mem_cons_of_mem _ hz)⟩;rcases mem_insN.1 hz with rfl|hz
   ·exact hyx
   ·exact h1 z hz
theorem q8Q {nm:List UInt8} {l:List α} (h:q3E k l):q3E k (q2k k nm l):=h.filter _
theorem mem_delN {nm:List UInt8} {x:α} {l:List α}:x∈q2k k nm l↔x∈l∧k x≠nm:=by simp[q2k,List.mem_filter]
theorem q9J {nm:List UInt8} {f:α→α} {l:List α} (h:q3E k l) (hf: ∀y,k y=nm→k (f y)=nm):q3E k (q1N k nm f l):=by
 refine List.pairwise_map.2 (h.imp fun {x y} hxy=>?_);have e: ∀z,k (if k z==nm then f z else z)=k z:=fun z=>by
  split
  ·rename_i hz
   have hz':k z=nm:=by simpa using hz
   rw[hf z hz',hz']
  ·rfl
 rw[e,e];exact hxy
theorem q6c {nm:List UInt8} {f:α→α} (l:List α):(q1N k nm f l).length=l.length:=by simp[q1N]
theorem q0O {nm:List UInt8} {l:List α} {e:α} (h:q0H k nm l=some e):e∈l∧k e=nm:=⟨List.mem_of_find?_eq_some h,by simpa using List.find?_some h⟩
theorem q1v {nm:List UInt8} {l:List α} (h:q0H k nm l=none): ∀y∈l,k y≠nm:=fun y hy=>by simpa using List.find?_eq_none.1 h y hy
theorem q0W {nm:List UInt8} {l:List α} (h: ∀y∈l,k y≠nm):q0H k nm l=none:=List.find?_eq_none.2 fun y hy=>by simpa using h y hy
theorem z0U {l:List α} (h:q3E k l):l.Pairwise fun x y=>k x≠k y:=h.imp fun {x y} hxy e=>by rw[e,WideAt.bytes_irrefl] at hxy;cases hxy
theorem q5n {l:List α} (h:q3E k l) {x y:α} (hx:x∈l) (hy:y∈l) (e:k x=k y):x=y:=by
 have hp:=z0U h;clear h
 induction l with
 |nil=>cases hx
 | cons a r ih=>
  obtain ⟨h1,h2⟩:=List.pairwise_cons.1 hp;rcases List.mem_cons.1 hx with ex|hx'<;>rcases List.mem_cons.1 hy with ey|hy'
  ·rw[ex,ey]
  ·subst ex;exact absurd e (h1 y hy')
  ·subst ey;exact absurd e.symm (h1 x hx')
  ·exact ih hx' hy' h2
theorem q5K {nm:List UInt8} {l:List α} (h:q3E k l) {e:α} (he:e∈l) (hn:k e=nm):q0H k nm l=some e:=by
 cases hf:q0H k nm l with
 |none=>exact absurd hn (q1v hf e he)
 |some e'=>obtain ⟨h1,h2⟩:=q0O hf;rw[q5n h h1 he (h2.trans hn.symm)]
theorem q5Y {nm:List UInt8} {l:List α} (h:q0H k nm l=none):q2k k nm l=l:=List.filter_eq_self.2 fun y hy=>by simpa using q1v h y hy
theorem q5J {nm:List UInt8} {f:α→α} {l:List α} (h:q0H k nm l=none):q1N k nm f l=l:=by
 unfold q1N
 conv=>rhs;rw[←List.map_id l]
 exact List.map_congr_left fun y hy=>by rw[if_neg (by simpa using q1v h y hy)];rfl
theorem q4f {nm:List UInt8} {f:α→α} {l:List α} (h:q3E k l) {e:α} (hf:q0H k nm l=some e) {y:α}:y∈q1N k nm f l↔y=f e∨(y∈l∧k y≠nm):=by
 obtain ⟨h1,h2⟩:=q0O hf;unfold q1N;rw[List.mem_map]
 constructor
 ·rintro ⟨z,hz,rfl⟩
  by_cases hn:k z=nm
  ·obtain rfl:=q5n h hz h1 (hn.trans h2.symm)
   left;rw[if_pos (by simpa using hn)]
  ·right;rw[if_neg (by simpa using hn)];exact ⟨hz,hn⟩
 ·rintro (rfl|⟨hy,hn⟩)
  ·exact ⟨e,h1,by rw[if_pos (by simpa using h2)]⟩
  ·exact ⟨y,hy,by rw[if_neg (by simpa using hn)]⟩
theorem q8y {S:α→α→Prop} {nm:List UInt8} {f:α→α} {l:List α} (h:q3E k l) (hS:l.Pairwise S) {e:α} (hf:q0H k nm l=some e) (h1: ∀y∈l,k y≠nm→S (f e) y∧S y (f e)):(q1N k nm f l).Pairwise S:=by
 obtain ⟨he,hen⟩:=q0O hf;refine List.pairwise_map.2 ((hS.and (z0U h)).imp_of_mem fun {x y} hx hy ⟨hs,hne⟩=>?_);by_cases hxn:k x=nm
 ·have hyn:k y≠nm:=fun e=>hne (hxn.trans e.symm)
  obtain rfl:=q5n h hx he (hxn.trans hen.symm);rw[if_pos (by simpa using hxn),if_neg (by simpa using hyn)];exact (h1 y hy hyn).1
 ·rw [if_neg (by simpa using hxn)]
  by_cases hyn:k y=nm
  ·obtain rfl:=q5n h hy he (hyn.trans hen.symm)
   rw[if_pos (by simpa using hyn)];exact (h1 x hx hxn).2
  ·rw[if_neg (by simpa using hyn)];exact hs
section map
variable {k' :β→List UInt8} {h:α→β} (hk: ∀x,k' (h x)=k x)
include hk
theorem q8a (x:α): ∀l:List α,(q3g k x l).map h=q3g k' (h x) (l.map h)
 |[]=>rfl
 | y::r=>by
  unfold q3g;simp only[List.map_cons,hk]
  split
  ·rfl
  ·rw[List.map_cons,q8a x r]
theorem z3B (nm:List UInt8) (l:List α):(q2k k nm l).map h=q2k k' nm (l.map h):=by
 unfold q2k;rw[List.filter_map];congr 1;exact List.filter_congr fun y _=>by simp[hk]
theorem z2D (nm:List UInt8) (f:α→α) (g:β→β) (hf: ∀y,h (f y)=g (h y)) (l:List α):(q1N k nm f l).map h=q1N k' nm g (l.map h):=by
 unfold q1N;rw[List.map_map,List.map_map];refine List.map_congr_left fun y _=>?_
 simp only[Function.comp,hk];split<;>simp[hf]
theorem z4Q {nm:List UInt8} {f:α→α} {g:β→β} {l:List α} (ho:q3E k l) {e:α} (hf:q0H k nm l=some e) (hfe:h (f e)=g (h e)):(q1N k nm f l).map h=q1N k' nm g (l.map h):=by
 obtain ⟨he,hen⟩:=q0O hf;unfold q1N;rw[List.map_map,List.map_map];refine List.map_congr_left fun y hy=>?_
 simp only[Function.comp,hk]
 split
 ·rename_i hz
  have hz':k y=nm:=by simpa using hz
  rw[q5n ho hy he (hz'.trans hen.symm)];exact hfe
 ·rfl
theorem q1m (nm:List UInt8) (l:List α):q0H k' nm (l.map h)=(q0H k nm l).map h:=by
 unfold q0H;rw[List.find?_map];congr 2;funext y;simp[hk]
theorem z1G {l:List α}:q3E k' (l.map h)↔q3E k l:=by
 unfold q3E;rw[List.pairwise_map];simp only[hk]
end map
def q5d (s:α→Nat) (l:List α):Nat:=(l.map s).sum
theorem z7r (s:α→Nat) (x:α) (l:List α):q5d s (q3g k x l)=s x+q5d s l:=by
 unfold q5d;rw[((q4E x l).map s).sum_nat];simp
theorem z3F (s:α→Nat) {nm:List UInt8}: ∀{l:List α},q3E k l→ ∀{e:α},q0H k nm l=some e→q5d s (q2k k nm l)+s e=q5d s l
 |[],_,_,hf=>by simp[q0H] at hf
 | a :: r,h,e,hf=>by
  obtain ⟨h1,h2⟩:=List.pairwise_cons.1 h;by_cases ha:k a=nm
  ·have e1:a=e:=by unfold q0H at hf;rw[List.find?_cons_of_pos (by simpa using ha)] at hf;exact Option.some.inj hf
   subst e1;have e2:q2k k nm (a::r)=r:=by
    unfold q2k;rw[List.filter_cons_of_neg (by simp[ha])];refine List.filter_eq_self.2 fun y hy=>?_
    have:=h1 y hy;simp only[Bool.not_eq_true',beq_eq_false_iff_ne];intro e3;rw[e3,←ha,WideAt.bytes_irrefl] at this
    cases this
   rw[e2];simp[q5d];omega
  ·have hf2:q0H k nm r=some e:=by unfold q0H at hf⊢;rwa [List.find?_cons_of_neg (by simpa using ha)] at hf
   have ih:=z3F s h2 hf2;have e2:q2k k nm (a::r)=a::q2k k nm r:=by unfold q2k;rw[List.filter_cons_of_pos (by simpa using ha)]
   rw[e2];simp only[q5d,List.map_cons,List.sum_cons] at ih⊢;omega
theorem q6V (s:α→Nat) {nm:List UInt8} {f:α→α}: ∀{l:List α},q3E k l→ ∀{e:α},q0H k nm l=some e→q5d s (q1N k nm f l)+s e=q5d s l+s (f e)
 |[],_,_,hf=>by simp[q0H] at hf
 | a ::r,h,e,hf=>by
  obtain ⟨h1,h2⟩:=List.pairwise_cons.1 h;by_cases ha:k a=nm
  ·have e1:a=e:=by unfold q0H at hf;rw[List.find?_cons_of_pos (by simpa using ha)] at hf;exact Option.some.inj hf
   subst e1;have e2:q1N k nm f r=r:=q5J (q0W fun y hy e3=>by have:=h1 y hy;rw[e3,←ha,WideAt.bytes_irrefl] at this;cases this);have e3:q1N k nm f (a::r)=f a::q1N k nm f r:=by unfold q1N;rw[List.map_cons,if_pos (by simpa using ha)]
   rw[e3,e2];simp[q5d];omega
  ·have hf2:q0H k nm r=some e:=by unfold q0H at hf⊢;rwa [List.find?_cons_of_neg (by simpa using ha)] at hf
   have ih:=q6V s (f:=f) h2 hf2;have e2:q1N k nm f (a::r)=a::q1N k nm f r:=by unfold q1N;rw[List.map_cons,if_neg (by simpa using ha)]
   rw[e2];simp only[q5d,List.map_cons,List.sum_cons] at ih⊢;omega
theorem q6T (s:α→Nat): ∀{l:List α} {e:α},e∈l→s e≤q5d s l
 | a::r,e,h=>by
  rcases List.mem_cons.1 h with rfl|h
  ·simp[q5d]
  ·have:=q6T s h;simp only[q5d,List.map_cons,List.sum_cons] at this⊢;omega
end gen
structure FM where
 nm:List UInt8
 da:List UInt8
 sy:Nat
structure DM where
 cap:Int
 L:List FM
 reads:Int
 starts:Int
 down:Bool
 fail:Bool
 left:Int
 keep:List Int
def q0P (L:List FM):Nat:=q5d (fun f=>f.da.length) L
def q3t (nm:List UInt8):Bool:=!nm.isEmpty&&decide (nm.length≤12)
structure okD (σ:DM):Prop where
 cap0:0≤σ.cap
 cap1:σ.cap≤1048576
 used:(q0P σ.L:Int)≤σ.cap
 ord:q3E FM.nm σ.L
 sy: ∀f∈σ.L,f.sy≤f.da.length
 many:σ.L.length≤400
 left:0≤σ.left
 idle:σ.fail=false→σ.left=0
 keep:σ.keep.length≤1000000
 left1:σ.left≤9223372036854775807
def q2B (σ:DM):Bool:=σ.fail&&decide (σ.left=0)
def q2W (σ:DM):DM:={σ with left:=max (σ.left-1) 0}
def q3r (f:FM) (more:Int):FM:={f with da:=f.da.take (f.sy+min (max more 0).toNat (f.da.length-f.sy)),sy:=f.sy+min (max more 0).toNat (f.da.length-f.sy)}
def q1a :List FM→List Int→List FM
 |[],_=>[]
 |f::r,ks=>q3r f (ks.headD 0)::q1a r ks.tail
def z2p (σ:DM) (ks:List Int):DM:={σ with L:=q1a σ.L ks,down:=true,fail:=false,left:=0,keep:=[]}
def q5F (σ:DM):DM:=z2p σ σ.keep
def q1w (σ:DM) (nm:List UInt8):Int×DM:=
 if σ.down then (61,σ) else if !q3t nm then (2,σ) else if (q0H FM.nm nm σ.L).isSome then (62,σ) else if 400≤σ.L.length then (60,σ)
 else if q2B σ then (61,q5F σ) else (0,{q2W σ with L:=q3g FM.nm ⟨nm,[],0⟩ σ.L})
def q8L (σ:DM) (nm s:List UInt8):DM:={σ with L:=q1N FM.nm nm (fun f=>{f with da:=f.da++s}) σ.L}
def q2F (σ:DM) (nm s:List UInt8):Int×DM:=
 if σ.down then (61,σ) else if (q0H FM.nm nm σ.L).isNone then (4,σ) else if σ.cap-(q0P σ.L:Int)<(s.length:Int) then (60,σ)
 else if q2B σ then (61,q5F (q8L σ nm s)) else (0,q2W (q8L σ nm s))
def q2N (σ:DM):DM:={σ with reads:=wrap64 (σ.reads+1)}
def q1b (σ:DM) (nm:List UInt8) (at_ n:Int):List UInt8×Int×DM:=
 if σ.down then ([],61,σ) else match q0H FM.nm nm σ.L with
 |none=>([],4,q2N σ)
 |some f=>if 0≤at_∧0≤n∧at_≤(f.da.length:Int)∧n≤(f.da.length:Int)-at_ then ((f.da.drop at_.toNat).take n.toNat,0,q2N σ) else ([],2,q2N σ)
def q6D (σ:DM) (nm:List UInt8):Int×DM:=
 if σ.down then (61,σ) else if (q0H FM.nm nm σ.L).isNone then (4,σ) else if q2B σ then (61,q5F σ)
 else (0,{q2W σ with L:=q1N FM.nm nm (fun f=>{f with sy:=f.da.length}) σ.L})
def q1S (σ:DM) (nm:List UInt8):Int×DM:=
 if σ.down then (61,σ) else if (q0H FM.nm nm σ.L).isNone then (4,σ) else if q2B σ then (61,q5F σ) else (0,{q2W σ with L:=q2k FM.nm nm σ.L})
def q1W (σ:DM) (nm:List UInt8):Int×Int:=
 if σ.down then (0,61) else match q0H FM.nm nm σ.L with|none=>(0,4)|some f=>((f.da.length:Int),0)
def q1Z (σ:DM):List (List UInt8):=σ.L.map FM.nm
def z1A (σ:DM):Int:=σ.cap-(q0P σ.L:Int)
def q5b (n:Nat) (f:FM):FM:={f with da:=f.da.take n,sy:=min f.sy (min n f.da.length)}
end
section
open Go.RowKit
def q4D (L:List FM) (xs:List Int) (i:Nat):List FM:=q1a (L.take i) xs++L.drop i
theorem q5V : ∀(L:List FM) (xs:List Int),(q1a L xs).length=L.length
 |[],_=>rfl
 |f::r,xs=>by simp[q1a,q5V r]
theorem z4X (f:FM) (x:Int):(q3r f x).nm=f.nm:=rfl
theorem q6l : ∀(L:List FM) (xs:List Int),(q1a L xs).map FM.nm=L.map FM.nm
 |[],_=>rfl
 |f::r,xs=>by simp[q1a,q6l r,z4X]
theorem z6C (L:List FM) (xs:List Int):q4D L xs 0=L:=by simp[q4D,q1a]
theorem z7U (L:List FM) (xs:List Int):q4D L xs L.length=q1a L xs:=by simp[q4D]
theorem z1M (L:List FM) (xs:List Int) (i:Nat):(q4D L xs i).map FM.nm=L.map FM.nm:=by
 unfold q4D;rw[List.map_append,q6l,←List.map_append,List.take_append_drop]
theorem z2b {L L':List FM} (h:q3E FM.nm L) (e:L'.map FM.nm=L.map FM.nm):q3E FM.nm L':=by
 have h1:q3E (fun x:List UInt8=>x) (L.map FM.nm):=(z1G (k:=FM.nm) (h:=FM.nm) fun x=>rfl).2 h;rw[←e] at h1;exact (z1G (k:=FM.nm) (h:=FM.nm) fun x=>rfl).1 h1
theorem z6H (xs:List Int) (i:Nat):xs.tail.getD i 0=xs.getD (i+1) 0:=by
 cases xs<;>simp[List.getD_eq_getElem?_getD]
theorem z4D (xs:List Int):xs.headD 0=xs.getD 0 0:=by cases xs<;>simp
theorem q7X : ∀(l:List FM) (f:FM) (xs:List Int),q1a (l++[f]) xs=q1a l xs++[q3r f (xs.getD l.length 0)]
 |[],f,xs=>by simp only[List.nil_append,q1a,List.length_nil,z4D]
 | a::r,f,xs=>by
  rw[List.cons_append,q1a,q1a,q7X r f xs.tail,z6H]
  rfl
theorem z1e {nm:List UInt8} {h:FM→FM} {a c:List FM} {f:FM} (hf:f.nm=nm) (ho:q3E FM.nm (a++f::c)):q1N FM.nm nm h (a++f::c)=a++h f::c:=by
 have hne:=z0U ho;rw[List.pairwise_append] at hne;obtain ⟨_,h2,h3⟩:=hne;have ha:q1N FM.nm nm h a=a:=q5J (q0W fun y hy e=>h3 y hy f (by simp) (e.trans hf.symm));have hc:q1N FM.nm nm h c=c:=q5J (q0W fun y hy e=>(List.pairwise_cons.1 h2).1 y hy (hf.trans e.symm));unfold q1N at ha hc⊢;rw[List.map_append,List.map_cons,ha,hc,if_pos (by simpa using hf)]
theorem z0S {L:List FM} (xs:List Int) {i:Nat} (hi:i<L.length) (ho:q3E FM.nm L):
  q0H FM.nm L[i].nm (q4D L xs i)=some L[i]∧ ∀h:FM→FM,h L[i]=q3r L[i] (xs.getD i 0)→q1N FM.nm L[i].nm h (q4D L xs i)=q4D L xs (i+1):=by
 have e1:q4D L xs i=q1a (L.take i) xs++L[i]::L.drop (i+1):=by unfold q4D;rw[List.drop_eq_getElem_cons hi]
 have o1:q3E FM.nm (q4D L xs i):=z2b ho (z1M L xs i);have hm:L[i]∈q4D L xs i:=by rw[e1];exact List.mem_append_right _ List.mem_cons_self
 refine ⟨q5K o1 hm rfl,fun h hh=>?_⟩;rw[e1] at o1⊢;rw[z1e rfl o1,hh];unfold q4D;rw[List.take_succ_eq_append_getElem hi,q7X,List.length_take,Nat.min_eq_left (Nat.le_of_lt hi)];simp
theorem z3T {nm:List UInt8} {h h':FM→FM} {L:List FM} (hk: ∀y,(h y).nm=y.nm):q1N FM.nm nm h' (q1N FM.nm nm h L)=q1N FM.nm nm (fun y=>h' (h y)) L:=by
 unfold q1N;rw[List.map_map];refine List.map_congr_left fun y _=>?_
 simp only[Function.comp];by_cases e:(y.nm==nm)=true
 ·rw[if_pos e,if_pos (by rw[hk];exact e),if_pos e]
 ·rw[if_neg e,if_neg e,if_neg e]
theorem z4f (f:FM) (x:Int):(q3r f x).da.length≤f.da.length:=by simp[q3r];omega
theorem z4s (f:FM) (x:Int) (h:f.sy≤f.da.length):(q3r f x).sy=(q3r f x).da.length:=by simp[q3r];omega
theorem q6u : ∀(L:List FM) (xs:List Int),q0P (q1a L xs)≤q0P L
 |[],_=>Nat.le_refl _
 | f::r,xs=>by
  have:=q6u r xs.tail;have:=z4f f (xs.headD 0);unfold q0P q5d at*;simp only[q1a,List.map_cons,List.sum_cons];omega
theorem q6B (a b:List FM):q0P (a++b)=q0P a+q0P b:=by simp[q0P,q5d]
theorem z3u (L:List FM) (xs:List Int) (i:Nat):q0P (q4D L xs i)≤q0P L:=by
 unfold q4D;have e:q0P L=q0P (L.take i)+q0P (L.drop i):=by rw[←q6B,List.take_append_drop]
 rw[q6B,e];have:=q6u (L.take i) xs;omega
theorem q9z : ∀(L:List FM) (xs:List Int),(∀f∈L,f.sy≤f.da.length)→ ∀f∈q1a L xs,f.sy=f.da.length
 |[],_,_=>by simp[q1a]
 | a::r,xs,h=>by
  intro f hf;rw[q1a] at hf;rcases List.mem_cons.1 hf with rfl|hf
  ·exact z4s _ _ (h a (by simp))
  ·exact q9z r xs.tail (fun g hg=>h g (by simp[hg])) f hf
theorem z8J {σ:DM} (h:okD σ) (xs:List Int):okD (z2p σ xs):=by
 refine ⟨h.cap0,h.cap1,?_,z2b h.ord (q6l _ _),fun f hf=>Nat.le_of_eq (q9z _ _ h.sy f hf),?_,Int.le_refl _,fun _=>rfl,Nat.zero_le _,by show (0:Int)≤_;decide⟩
 ·have:=h.used
  have:=q6u σ.L xs;show (q0P (q1a σ.L xs):Int)≤σ.cap;omega
 ·show (q1a σ.L xs).length≤400
  rw[q5V];exact h.many
end
section
open Go.RowKit
theorem z0M {L:List FM} {nm:List UInt8} {f:FM→FM} (ho:q3E FM.nm L) {e:FM} (hf:q0H FM.nm nm L=some e):q0P (q1N FM.nm nm f L)+e.da.length=q0P L+(f e).da.length:=q6V _ ho hf
theorem q9u {L:List FM} {nm:List UInt8} (ho:q3E FM.nm L) {e:FM} (hf:q0H FM.nm nm L=some e):q0P (q2k FM.nm nm L)+e.da.length=q0P L:=z3F _ ho hf
theorem q9T (x:FM) (L:List FM):q0P (q3g FM.nm x L)=x.da.length+q0P L:=z7r _ x L
theorem q7C {L:List FM} {e:FM} (h:e∈L):e.da.length≤q0P L:=q6T (fun f:FM=>f.da.length) h
theorem okD.tick {σ:DM} (h:okD σ):okD (q2W σ):=
 ⟨h.cap0,h.cap1,h.used,h.ord,h.sy,h.many,(by show 0≤max (σ.left-1) 0;omega),(fun hf=>by have:=h.idle hf;show max (σ.left-1) 0=0;omega),h.keep,by have:=h.left1;show max (σ.left-1) 0≤_;omega⟩
theorem okD.sink {σ:DM} (h:okD σ):okD (q5F σ):=z8J h _
theorem okD.files {σ:DM} (h:okD σ) {L:List FM} (hu:(q0P L:Int)≤σ.cap) (ho:q3E FM.nm L) (hs: ∀f∈L,f.sy≤f.da.length) (hm:L.length≤400):okD {σ with L:=L}:=
 ⟨h.cap0,h.cap1,hu,ho,hs,hm,h.left,h.idle,h.keep,h.left1⟩
theorem okD.upd {σ:DM} (h:okD σ) {nm:List UInt8} {f:FM→FM} {e:FM} (hf:q0H FM.nm nm σ.L=some e) (hu:(q0P (q1N FM.nm nm f σ.L):Int)≤σ.cap) (hn: ∀y,(f y).nm=y.nm) (hs:(f e).sy≤(f e).da.length):okD {σ with L:=q1N FM.nm nm f σ.L}:=by
 refine h.files hu (q9J h.ord fun y hy=>by rw[hn,hy]) (fun y hy=>?_) (by rw[q6c];exact h.many);rcases (q4f h.ord hf).1 hy with rfl|⟨hy,_⟩
 ·exact hs
 ·exact h.sy y hy
theorem okD.app {σ:DM} (h:okD σ) {nm s:List UInt8} {e:FM} (hf:q0H FM.nm nm σ.L=some e) (hu:(q0P σ.L:Int)+s.length≤σ.cap):okD (q8L σ nm s)∧q0P (q8L σ nm s).L=q0P σ.L+s.length:=by
 have h1:=z0M (f:=fun f:FM=>{f with da:=f.da++s}) h.ord hf;have h2:=h.sy e (q0O hf).1;have h3:({e with da:=e.da++s}:FM).da.length=e.da.length+s.length:=List.length_append;have h4:q0P (q1N FM.nm nm (fun f:FM=>{f with da:=f.da++s}) σ.L)=q0P σ.L+s.length:=by omega
 exact ⟨h.upd hf (by rw[h4];omega) (fun y=>rfl) (by show e.sy≤(e.da++s).length;rw[List.length_append];omega),h4⟩
theorem okD.create {σ:DM} (h:okD σ) {nm:List UInt8} (hno:q0H FM.nm nm σ.L=none) (hm:σ.L.length<400):okD {σ with L:=q3g FM.nm ⟨nm,[],0⟩ σ.L}:=by
 refine h.files (by rw[q9T];have:=h.used;simpa using this) (q8b h.ord (q1v hno)) (fun f hf=>?_) (by rw[z1B];omega);rcases mem_insN.1 hf with rfl|hf
 ·exact Nat.le_refl _
 ·exact h.sy f hf
theorem okD.tell {σ:DM} (h:okD σ):okD (q2N σ):=⟨h.cap0,h.cap1,h.used,h.ord,h.sy,h.many,h.left,h.idle,h.keep,h.left1⟩
theorem okD.sync {σ:DM} (h:okD σ) {nm:List UInt8} {e:FM} (hf:q0H FM.nm nm σ.L=some e):okD {σ with L:=q1N FM.nm nm (fun f=>{f with sy:=f.da.length}) σ.L}∧q0P (q1N FM.nm nm (fun f=>{f with sy:=f.da.length}) σ.L)=q0P σ.L:=by
 have h1:=z0M (f:=fun f:FM=>{f with sy:=f.da.length}) h.ord hf;have h4:q0P (q1N FM.nm nm (fun f:FM=>{f with sy:=f.da.length}) σ.L)=q0P σ.L:=by
  have:({e with sy:=e.da.length}:FM).da.length=e.da.length:=rfl;omega
 exact ⟨h.upd hf (by rw[h4];exact h.used) (fun y=>rfl) (Nat.le_refl _),h4⟩
theorem z9T (nm:List UInt8) (L:List FM):(q2k FM.nm nm L).length≤L.length:=List.length_filter_le _ _
theorem z0P {L:List FM} (nm:List UInt8) (ho:q3E FM.nm L):q0P (q2k FM.nm nm L)≤q0P L:=by
 cases hf:q0H FM.nm nm L with
 |none=>rw[q5Y hf];exact Nat.le_refl _
 |some e=>have:=q9u ho hf;omega
theorem okD.delete {σ:DM} (h:okD σ) (nm:List UInt8):okD {σ with L:=q2k FM.nm nm σ.L}:=
 h.files (by have:=z0P nm h.ord;have:=h.used;omega) (q8Q h.ord) (fun f hf=>h.sy f (mem_delN.1 hf).1) (by have:=z9T nm σ.L;have:=h.many;omega)
end
section
open Go.RowKit
def fbF (f:FM):List UInt8×List UInt8:=(f.nm,f.da)
structure Pl (σ:DM) (c s:Int) (l:List (List UInt8×List UInt8)):Prop where
 up:σ.down=false
 fine:σ.fail=false
 files:σ.L.map fbF=l
 cap:σ.cap=c
 st:σ.starts=s
def q2M (l:List (List UInt8×List UInt8)):Nat:=q5d (fun x:List UInt8×List UInt8=>x.2.length) l
section
variable {σ :DM} {c s:Int} {l:List (List UInt8×List UInt8)} {nm t:List UInt8} {x:List UInt8×List UInt8}
theorem q7j : ∀f:FM,Prod.fst (fbF f)=FM.nm f:=fun _=>rfl
theorem Pl.used (h:Pl σ c s l):q0P σ.L=q2M l:=by
 unfold q0P q2M q5d;rw[←h.files,List.map_map]
 rfl
theorem Pl.free (h:Pl σ c s l):z1A σ=c-(q2M l:Int):=by unfold z1A;rw[h.cap,h.used]
theorem Pl.find (h:Pl σ c s l) (nm:List UInt8):q0H Prod.fst nm l=(q0H FM.nm nm σ.L).map fbF:=by rw[←h.files];exact q1m q7j nm σ.L
theorem Pl.find_some (h:Pl σ c s l) (hf:q0H Prod.fst nm l=some x): ∃f,q0H FM.nm nm σ.L=some f∧fbF f=x:=by
 rw[h.find] at hf
 cases hq:q0H FM.nm nm σ.L with
 |none=>rw[hq] at hf;cases hf
 |some f=>rw[hq] at hf;exact ⟨f,rfl,Option.some.inj hf⟩
theorem Pl.find_none (h:Pl σ c s l) (hf:q0H Prod.fst nm l=none):q0H FM.nm nm σ.L=none:=by
 rw[h.find] at hf
 cases hq:q0H FM.nm nm σ.L with
 |none=>rfl
 |some f=>rw[hq] at hf;cases hf
theorem Pl.ord (h:Pl σ c s l) (ho:okD σ):q3E Prod.fst l:=by rw[←h.files];exact (z1G q7j).2 ho.ord
theorem Pl.names (h:Pl σ c s l):q1Z σ=l.map Prod.fst:=by rw[←h.files,List.map_map];rfl
theorem Pl.no (h:Pl σ c s l):q2B σ=false:=by unfold q2B;rw[h.fine];rfl
theorem Pl.tell (h:Pl σ c s l):Pl (q2N σ) c s l:=⟨h.up,h.fine,h.files,h.cap,h.st⟩
theorem Pl.size (h:Pl σ c s l) (hf:q0H Prod.fst nm l=some x):q1W σ nm=((x.2.length:Int),0):=by
 obtain ⟨f,h1,rfl⟩:=h.find_some hf;unfold q1W;rw[if_neg (by rw[h.up];decide),h1]
 rfl
theorem Pl.sizeN (h:Pl σ c s l) (hf:q0H Prod.fst nm l=none):q1W σ nm=(0,4):=by
 unfold q1W;rw[if_neg (by rw[h.up];decide),h.find_none hf]
theorem Pl.read (h:Pl σ c s l) (hf:q0H Prod.fst nm l=some x) (a n:Int) (ha:0≤a) (hn:0≤n) (hl:a+n≤(x.2.length:Int)):q1b σ nm a n=((x.2.drop a.toNat).take n.toNat,0,q2N σ):=by
 obtain ⟨f,h1,rfl⟩:=h.find_some hf;unfold q1b;rw[if_neg (by rw[h.up];decide),h1];show (if 0≤a∧0≤n∧a≤(f.da.length:Int)∧n≤(f.da.length:Int)-a then _ else _)=_;have e:(fbF f).2=f.da:=rfl;rw[e] at hl;rw[if_pos (by omega)]
 rfl
theorem Pl.append (h:Pl σ c s l) (hf:q0H Prod.fst nm l=some x) (hr:(t.length:Int)≤c-(q2M l:Int)): ∃σ',q2F σ nm t=(0,σ')∧Pl σ' c s (q1N Prod.fst nm (fun x=>(x.1,x.2++t)) l):=by
 obtain ⟨f,h1,rfl⟩:=h.find_some hf;refine ⟨q2W (q8L σ nm t),?_,?_⟩
 ·unfold q2F
  rw[if_neg (by rw[h.up];decide),h1,if_neg (by simp),if_neg (by rw[h.cap,h.used];omega),if_neg (by rw[h.no];decide)]
 ·exact ⟨h.up,h.fine,by rw[←h.files];exact z2D (k:=FM.nm) (k':=Prod.fst) q7j nm (fun f=>{f with da:=f.da++t}) (fun x=>(x.1,x.2++t)) (fun _=>rfl) σ.L,h.cap,h.st⟩
theorem Pl.sync (h:Pl σ c s l) (hf:q0H Prod.fst nm l=some x): ∃σ',q6D σ nm=(0,σ')∧Pl σ' c s l:=by
 obtain ⟨f,h1,rfl⟩:=h.find_some hf;refine ⟨{q2W σ with L:=q1N FM.nm nm (fun f=>{f with sy:=f.da.length}) σ.L},?_,?_⟩
 ·unfold q6D
  rw[if_neg (by rw[h.up];decide),h1,if_neg (by simp),if_neg (by rw[h.no];decide)]
 ·refine ⟨h.up,h.fine,?_,h.cap,h.st⟩
  rw[←h.files];show (q1N FM.nm nm _ σ.L).map fbF=_;rw[z2D (k:=FM.nm) (k':=Prod.fst) q7j nm (fun f=>{f with sy:=f.da.length}) id (fun _=>rfl) σ.L];unfold q1N
  conv=>rhs;rw[←List.map_id (σ.L.map fbF)]
  exact List.map_congr_left fun y _=>by split<;>rfl
theorem Pl.create (h:Pl σ c s l) (hf:q0H Prod.fst nm l=none) (hk:q3t nm=true) (hm:l.length<400): ∃σ',q1w σ nm=(0,σ')∧Pl σ' c s (q3g Prod.fst (nm,[]) l):=by
 refine ⟨{q2W σ with L:=q3g FM.nm ⟨nm,[],0⟩ σ.L},?_,?_⟩
 ·unfold q1w
  have e:σ.L.length=l.length:=by rw[←h.files,List.length_map]
  rw[if_neg (by rw[h.up];decide),if_neg (by rw[hk];decide),h.find_none hf,if_neg (by simp),if_neg (by omega),if_neg (by rw[h.no];decide)]
 ·refine ⟨h.up,h.fine,?_,h.cap,h.st⟩
  rw[←h.files];exact q8a (k:=FM.nm) (k':=Prod.fst) q7j ⟨nm,[],0⟩ σ.L
end
section
variable {α :Type} {k:α→List UInt8}
theorem q4b (nm:List UInt8) (f:α→α) (a b:List α):q1N k nm f (a++b)=q1N k nm f a++q1N k nm f b:=by unfold q1N;simp
theorem q2r {nm:List UInt8} {f:α→α} {l:List α} (h: ∀y∈l,k y≠nm):q1N k nm f l=l:=q5J (q0W h)
theorem q0Y {nm:List UInt8} {a b:List α} (h: ∀y∈a,k y≠nm):q0H k nm (a++b)=q0H k nm b:=by
 unfold q0H;rw[List.find?_append];have:List.find? (fun y=>k y==nm) a=none:=q0W h;rw[this];rfl
end
end
end Go.Proofs.YthdekbmdkpcooaaGreatDoor
