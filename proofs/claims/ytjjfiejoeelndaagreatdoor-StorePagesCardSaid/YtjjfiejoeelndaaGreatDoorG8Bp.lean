/- Plain laws. -/
import Derived.Sort.KeysCollected
import Derived.Lib.Hide
set_option linter.unusedVariables false
set_option linter.unusedSimpArgs false
set_option maxRecDepth 100000
set_option maxHeartbeats 200000
namespace Go.Proofs.YtjjfiejoeelndaaGreatDoor
section
open Go.RowKit
theorem q5Z : ∀a b:List UInt8,bytesBefore a b=decide (a<b)
 |[],[]=>by simp[bytesBefore]
 |[],b::s=>by simp[bytesBefore]
 |a::r,[]=>by simp[bytesBefore]
 | a::r,b::s=>by
  unfold bytesBefore;rw[q5Z r s,Bool.eq_iff_iff];simp[List.cons_lt_cons_iff]
section gen
variable {α β:Type} (k:α→List UInt8)
def q2A (x:α):List α→List α
 |[]=>[x]
 |y::r=>if bytesBefore (k x) (k y) then x::y::r else y::q2A x r
def delN (nm:List UInt8) (l:List α):List α:=l.filter fun y=>!(k y==nm)
def q1S (nm:List UInt8) (f:α→α) (l:List α):List α:=l.map fun y=>if k y==nm then f y else y
def q0H (nm:List UInt8) (l:List α):Option α:=l.find? fun y=>k y==nm
def q3N (l:List α):Prop:=l.Pairwise fun x y=>bytesBefore (k x) (k y)=true
variable {k}
theorem q3j (x:α): ∀l:List α,(q2A k x l).Perm (x::l)
 |[]=>List.Perm.refl _
 | y::r=>by
  unfold q2A
  split
  ·exact List.Perm.refl _
  ·exact (List.Perm.cons y (q3j x r)).trans (List.Perm.swap x y r)
theorem mem_insN {x y:α} {l:List α}:y∈q2A k x l↔y=x∨y∈l:=by rw[(q3j x l).mem_iff];simp
theorem q2l (x:α) (l:List α):(q2A k x l).length=l.length+1:=by rw[(q3j x l).length_eq];rfl
theorem q3v {x:α}: ∀{l:List α},q3N k l→(∀y∈l,k y≠k x)→q3N k (q2A k x l)
 |[],_,_=>by simp[q3N,q2A]
 | y :: r,h,hne=>by
  obtain ⟨h1,h2⟩:=List.pairwise_cons.1 h;unfold q2A
  split
  ·rename_i hb
   refine List.pairwise_cons.2 ⟨fun z hz=>?_,h⟩;rcases List.mem_cons.1 hz with rfl|hz
   ·exact hb
   ·exact WideShapes.bytes_trans _ _ _ hb (h1 z hz)
  ·rename_i hb
   have hyx:bytesBefore (k y) (k x)=true:=by
    rcases WideAt.bytes_total _ _ (hne y (List.mem_cons_self)) with h|h
    ·exact h
    ·exact absurd h hb
   refine List.pairwise_cons.2 ⟨fun z hz=>?_,q3v h2 fun z hz=>hne z (List.mem_cons_of_mem _ hz)⟩;rcases mem_insN.1 hz with rfl|hz
   ·exact hyx
   ·exact h1 z hz
theorem q2X {nm:List UInt8} {l:List α} (h:q3N k l):q3N k (delN k nm l):=h.filter _
theorem mem_delN {nm:List UInt8} {x:α} {l:List α}:x∈delN k nm l↔x∈l∧k x≠nm:=by simp[delN,List.mem_filter]
theorem z0k {nm:List UInt8} {f:α→α} {l:List α} (h:q3N k l) (hf: ∀y,k y=nm→k (f y)=nm):q3N k (q1S k nm f l):=by
 refine List.pairwise_map.2 (h.imp fun {x y} hxy=>?_);have e: ∀z,k (if k z==nm then f z else z)=k z:=fun z=>by
  split
  ·rename_i hz
   have hz':k z=nm:=by simpa using hz
   rw[hf z hz',hz']
  ·rfl
 rw[e,e];exact hxy
theorem q7v {nm:List UInt8} {f:α→α} (l:List α):(q1S k nm f l).length=l.length:=by simp[q1S]
theorem q0L {nm:List UInt8} {l:List α} {e:α} (h:q0H k nm l=some e):e∈l∧k e=nm:=⟨List.mem_of_find?_eq_some h,by simpa using List.find?_some h⟩
theorem q0f {nm:List UInt8} {l:List α} (h:q0H k nm l=none): ∀y∈l,k y≠nm:=fun y hy=>by simpa using List.find?_eq_none.1 h y hy
theorem q0c {nm:List UInt8} {l:List α} (h: ∀y∈l,k y≠nm):q0H k nm l=none:=List.find?_eq_none.2 fun y hy=>by simpa using h y hy
theorem z1e {l:List α} (h:q3N k l):l.Pairwise fun x y=>k x≠k y:=h.imp fun {x y} hxy e=>by rw[e,WideAt.bytes_irrefl] at hxy;cases hxy
theorem q7C {l:List α} (h:q3N k l) {x y:α} (hx:x∈l) (hy:y∈l) (e:k x=k y):x=y:=by
 have hp:=z1e h;clear h
 induction l with
 |nil=>cases hx
 | cons a r ih=>
  obtain ⟨h1,h2⟩:=List.pairwise_cons.1 hp;rcases List.mem_cons.1 hx with ex|hx'<;>rcases List.mem_cons.1 hy with ey|hy'
  ·rw[ex,ey]
  ·subst ex;exact absurd e (h1 y hy')
  ·subst ey;exact absurd e.symm (h1 x hx')
  ·exact ih hx' hy' h2
theorem q4V {nm:List UInt8} {l:List α} (h:q3N k l) {e:α} (he:e∈l) (hn:k e=nm):q0H k nm l=some e:=by
 cases hf:q0H k nm l with
 |none=>exact absurd hn (q0f hf e he)
 |some e'=>obtain ⟨h1,h2⟩:=q0L hf;rw[q7C h h1 he (h2.trans hn.symm)]
theorem q6l {nm:List UInt8} {l:List α} (h:q0H k nm l=none):delN k nm l=l:=List.filter_eq_self.2 fun y hy=>by simpa using q0f h y hy
theorem q6k {nm:List UInt8} {f:α→α} {l:List α} (h:q0H k nm l=none):q1S k nm f l=l:=by
 unfold q1S
 conv=>rhs;rw[←List.map_id l]
 exact List.map_congr_left fun y hy=>by rw[if_neg (by simpa using q0f h y hy)];rfl
theorem q5Q {nm:List UInt8} {f:α→α} {l:List α} (h:q3N k l) {e:α} (hf:q0H k nm l=some e) {y:α}:y∈q1S k nm f l↔y=f e∨(y∈l∧k y≠nm):=by
 obtain ⟨h1,h2⟩:=q0L hf;unfold q1S;rw[List.mem_map]
 constructor
 ·rintro ⟨z,hz,rfl⟩
  by_cases hn:k z=nm
  ·obtain rfl:=q7C h hz h1 (hn.trans h2.symm)
   left;rw[if_pos (by simpa using hn)]
  ·right;rw[if_neg (by simpa using hn)];exact ⟨hz,hn⟩
 ·rintro (rfl|⟨hy,hn⟩)
  ·exact ⟨e,h1,by rw[if_pos (by simpa using h2)]⟩
  ·exact ⟨y,hy,by rw[if_neg (by simpa using hn)]⟩
theorem z1S {S:α→α→Prop} {nm:List UInt8} {f:α→α} {l:List α} (h:q3N k l) (hS:l.Pairwise S) {e:α} (hf:q0H k nm l=some e) (h1: ∀y∈l,k y≠nm→S (f e) y∧S y (f e)):(q1S k nm f l).Pairwise S:=by
 obtain ⟨he,hen⟩:=q0L hf;refine List.pairwise_map.2 ((hS.and (z1e h)).imp_of_mem fun {x y} hx hy ⟨hs,hne⟩=>?_);by_cases hxn:k x=nm
 ·have hyn:k y≠nm:=fun e=>hne (hxn.trans e.symm)
  obtain rfl:=q7C h hx he (hxn.trans hen.symm);rw[if_pos (by simpa using hxn),if_neg (by simpa using hyn)];exact (h1 y hy hyn).1
 ·rw [if_neg (by simpa using hxn)]
  by_cases hyn:k y=nm
  ·obtain rfl:=q7C h hy he (hyn.trans hen.symm)
   rw[if_pos (by simpa using hyn)];exact (h1 x hx hxn).2
  ·rw[if_neg (by simpa using hyn)];exact hs
section map
variable {k' :β→List UInt8} {h:α→β} (hk: ∀x,k' (h x)=k x)
include hk
theorem q6A (x:α): ∀l:List α,(q2A k x l).map h=q2A k' (h x) (l.map h)
 |[]=>rfl
 | y::r=>by
  unfold q2A;simp only[List.map_cons,hk]
  split
  ·rfl
  ·rw[List.map_cons,q6A x r]
theorem q6N (nm:List UInt8) (l:List α):(delN k nm l).map h=delN k' nm (l.map h):=by
 unfold delN;rw[List.filter_map];congr 1;exact List.filter_congr fun y _=>by simp[hk]
theorem z4g (nm:List UInt8) (f:α→α) (g:β→β) (hf: ∀y,h (f y)=g (h y)) (l:List α):(q1S k nm f l).map h=q1S k' nm g (l.map h):=by
 unfold q1S;rw[List.map_map,List.map_map];refine List.map_congr_left fun y _=>?_
 simp only[Function.comp,hk];split<;>simp[hf]
theorem z6r {nm:List UInt8} {f:α→α} {g:β→β} {l:List α} (ho:q3N k l) {e:α} (hf:q0H k nm l=some e) (hfe:h (f e)=g (h e)):(q1S k nm f l).map h=q1S k' nm g (l.map h):=by
 obtain ⟨he,hen⟩:=q0L hf;unfold q1S;rw[List.map_map,List.map_map];refine List.map_congr_left fun y hy=>?_
 simp only[Function.comp,hk]
 split
 ·rename_i hz
  have hz':k y=nm:=by simpa using hz
  rw[q7C ho hy he (hz'.trans hen.symm)];exact hfe
 ·rfl
theorem q2G (nm:List UInt8) (l:List α):q0H k' nm (l.map h)=(q0H k nm l).map h:=by
 unfold q0H;rw[List.find?_map];congr 2;funext y;simp[hk]
theorem z3Z {l:List α}:q3N k' (l.map h)↔q3N k l:=by
 unfold q3N;rw[List.pairwise_map];simp only[hk]
end map
def q5d (s:α→Nat) (l:List α):Nat:=(l.map s).sum
theorem y0M (s:α→Nat) (x:α) (l:List α):q5d s (q2A k x l)=s x+q5d s l:=by
 unfold q5d;rw[((q3j x l).map s).sum_nat];simp
theorem q7t (s:α→Nat) {nm:List UInt8}: ∀{l:List α},q3N k l→ ∀{e:α},q0H k nm l=some e→q5d s (delN k nm l)+s e=q5d s l
 |[],_,_,hf=>by simp[q0H] at hf
 | a :: r,h,e,hf=>by
  obtain ⟨h1,h2⟩:=List.pairwise_cons.1 h;by_cases ha:k a=nm
  ·have e1:a=e:=by unfold q0H at hf;rw[List.find?_cons_of_pos (by simpa using ha)] at hf;exact Option.some.inj hf
   subst e1;have e2:delN k nm (a::r)=r:=by
    unfold delN;rw[List.filter_cons_of_neg (by simp[ha])];refine List.filter_eq_self.2 fun y hy=>?_
    have:=h1 y hy;simp only[Bool.not_eq_true',beq_eq_false_iff_ne];intro e3;rw[e3,←ha,WideAt.bytes_irrefl] at this
    cases this
   rw[e2];simp[q5d];omega
  ·have hf2:q0H k nm r=some e:=by unfold q0H at hf⊢;rwa [List.find?_cons_of_neg (by simpa using ha)] at hf
   have ih:=q7t s h2 hf2;have e2:delN k nm (a::r)=a::delN k nm r:=by unfold delN;rw[List.filter_cons_of_pos (by simpa using ha)]
   rw[e2];simp only[q5d,List.map_cons,List.sum_cons] at ih⊢;omega
theorem q7o (s:α→Nat) {nm:List UInt8} {f:α→α}: ∀{l:List α},q3N k l→ ∀{e:α},q0H k nm l=some e→q5d s (q1S k nm f l)+s e=q5d s l+s (f e)
 |[],_,_,hf=>by simp[q0H] at hf
 | a ::r,h,e,hf=>by
  obtain ⟨h1,h2⟩:=List.pairwise_cons.1 h;by_cases ha:k a=nm
  ·have e1:a=e:=by unfold q0H at hf;rw[List.find?_cons_of_pos (by simpa using ha)] at hf;exact Option.some.inj hf
   subst e1;have e2:q1S k nm f r=r:=q6k (q0c fun y hy e3=>by have:=h1 y hy;rw[e3,←ha,WideAt.bytes_irrefl] at this;cases this);have e3:q1S k nm f (a::r)=f a::q1S k nm f r:=by unfold q1S;rw[List.map_cons,if_pos (by simpa using ha)]
   rw[e3,e2];simp[q5d];omega
  ·have hf2:q0H k nm r=some e:=by unfold q0H at hf⊢;rwa [List.find?_cons_of_neg (by simpa using ha)] at hf
   have ih:=q7o s (f:=f) h2 hf2;have e2:q1S k nm f (a::r)=a::q1S k nm f r:=by unfold q1S;rw[List.map_cons,if_neg (by simpa using ha)]
   rw[e2];simp only[q5d,List.map_cons,List.sum_cons] at ih⊢;omega
theorem q7h (s:α→Nat): ∀{l:List α} {e:α},e∈l→s e≤q5d s l
 | a::r,e,h=>by
  rcases List.mem_cons.1 h with rfl|h
  ·simp[q5d]
  ·have:=q7h s h;simp only[q5d,List.map_cons,List.sum_cons] at this⊢;omega
theorem q8S {nm:List UInt8} {l:List α} (h:q3N k l) {e:α} (hf:q0H k nm l=some e):(delN k nm l).length+1=l.length:=by
 have:=q7t (fun _=>1) h hf;have e1: ∀m:List α,q5d (fun _=>1) m=m.length:=fun m=>by unfold q5d;induction m with
  |nil=>rfl
  |cons a r ih=>simp only[List.map_cons,List.sum_cons,ih,List.length_cons];omega
 rw[e1,e1] at this;exact this
end gen
structure FM where
 nm:List UInt8
 da:List UInt8
 sy:Nat
structure DM where
 cap:Int
 L:List FM
 reads:Int
 starts:Int
 down:Bool
 fail:Bool
 left:Int
 keep:List Int
def q0Q (L:List FM):Nat:=q5d (fun f=>f.da.length) L
def q2a (nm:List UInt8):Bool:=!nm.isEmpty&&decide (nm.length≤12)
structure okD (σ:DM):Prop where
 cap0:0≤σ.cap
 cap1:σ.cap≤1048576
 used:(q0Q σ.L:Int)≤σ.cap
 ord:q3N FM.nm σ.L
 sy: ∀f∈σ.L,f.sy≤f.da.length
 many:σ.L.length≤400
 left:0≤σ.left
 idle:σ.fail=false→σ.left=0
 keep:σ.keep.length≤1000000
 left1:σ.left≤9223372036854775807
def q2C (σ:DM):Bool:=σ.fail&&decide (σ.left=0)
def q1d (σ:DM):DM:={σ with left:=max (σ.left-1) 0}
def q4e (f:FM) (more:Int):FM:={f with da:=f.da.take (f.sy+min (max more 0).toNat (f.da.length-f.sy)),sy:=f.sy+min (max more 0).toNat (f.da.length-f.sy)}
def q1o :List FM→List Int→List FM
 |[],_=>[]
 |f::r,ks=>q4e f (ks.headD 0)::q1o r ks.tail
def z4F (σ:DM) (ks:List Int):DM:={σ with L:=q1o σ.L ks,down:=true,fail:=false,left:=0,keep:=[]}
def q4t (σ:DM):DM:=z4F σ σ.keep
def upM (σ:DM):Int:=if σ.down then 61 else 0
def q0o (σ:DM) (nm:List UInt8):Int×DM:=
 if σ.down then (61,σ) else if !q2a nm then (2,σ) else if (q0H FM.nm nm σ.L).isSome then (62,σ) else if 400≤σ.L.length then (60,σ)
 else if q2C σ then (61,q4t σ) else (0,{q1d σ with L:=q2A FM.nm ⟨nm,[],0⟩ σ.L})
def q9y (σ:DM) (nm s:List UInt8):DM:={σ with L:=q1S FM.nm nm (fun f=>{f with da:=f.da++s}) σ.L}
def q1G (σ:DM) (nm s:List UInt8):Int×DM:=
 if σ.down then (61,σ) else if (q0H FM.nm nm σ.L).isNone then (4,σ) else if σ.cap-(q0Q σ.L:Int)<(s.length:Int) then (60,σ)
 else if q2C σ then (61,q4t (q9y σ nm s)) else (0,q1d (q9y σ nm s))
def q2c (σ:DM):DM:={σ with reads:=wrap64 (σ.reads+1)}
def q1p (σ:DM) (nm:List UInt8) (at_ n:Int):List UInt8×Int×DM:=
 if σ.down then ([],61,σ) else match q0H FM.nm nm σ.L with
 |none=>([],4,q2c σ)
 |some f=>if 0≤at_∧0≤n∧at_≤(f.da.length:Int)∧n≤(f.da.length:Int)-at_ then ((f.da.drop at_.toNat).take n.toNat,0,q2c σ) else ([],2,q2c σ)
def q4Y (σ:DM) (nm:List UInt8):Int×DM:=
 if σ.down then (61,σ) else if (q0H FM.nm nm σ.L).isNone then (4,σ) else if q2C σ then (61,q4t σ)
 else (0,{q1d σ with L:=q1S FM.nm nm (fun f=>{f with sy:=f.da.length}) σ.L})
def z6Y (a b:List UInt8) (f:FM) (L:List FM):List FM:=q2A FM.nm {f with nm:=b} (delN FM.nm a (delN FM.nm b L))
def q1g (σ:DM) (a b:List UInt8):Int×DM:=
 if σ.down then (61,σ) else match q0H FM.nm a σ.L with
 |none=>(4,σ)
 |some f=>if !q2a b then (2,σ) else if q2C σ then (61,q4t σ) else if a=b then (0,q1d σ) else (0,{q1d σ with L:=z6Y a b f σ.L})
def q0V (σ:DM) (nm:List UInt8):Int×DM:=
 if σ.down then (61,σ) else if (q0H FM.nm nm σ.L).isNone then (4,σ) else if q2C σ then (61,q4t σ) else (0,{q1d σ with L:=delN FM.nm nm σ.L})
def q1c (σ:DM) (nm:List UInt8):Int×Int:=
 if σ.down then (0,61) else match q0H FM.nm nm σ.L with|none=>(0,4)|some f=>((f.da.length:Int),0)
def q1n (σ:DM):List (List UInt8):=σ.L.map FM.nm
def q4Q (σ:DM):Int:=σ.cap-(q0Q σ.L:Int)
def q6e (n:Nat) (f:FM):FM:={f with da:=f.da.take n,sy:=min f.sy (min n f.da.length)}
end
section
open Go.RowKit
def q5F (L:List FM) (xs:List Int) (i:Nat):List FM:=q1o (L.take i) xs++L.drop i
theorem q6n : ∀(L:List FM) (xs:List Int),(q1o L xs).length=L.length
 |[],_=>rfl
 |f::r,xs=>by simp[q1o,q6n r]
theorem z8j (f:FM) (x:Int):(q4e f x).nm=f.nm:=rfl
theorem q8k : ∀(L:List FM) (xs:List Int),(q1o L xs).map FM.nm=L.map FM.nm
 |[],_=>rfl
 |f::r,xs=>by simp[q1o,q8k r,z8j]
theorem z6v (L:List FM) (xs:List Int):q5F L xs 0=L:=by simp[q5F,q1o]
theorem z9W (L:List FM) (xs:List Int):q5F L xs L.length=q1o L xs:=by simp[q5F]
theorem z3p (L:List FM) (xs:List Int) (i:Nat):(q5F L xs i).map FM.nm=L.map FM.nm:=by
 unfold q5F;rw[List.map_append,q8k,←List.map_append,List.take_append_drop]
theorem z4q {L L':List FM} (h:q3N FM.nm L) (e:L'.map FM.nm=L.map FM.nm):q3N FM.nm L':=by
 have h1:q3N (fun x:List UInt8=>x) (L.map FM.nm):=(z3Z (k:=FM.nm) (h:=FM.nm) fun x=>rfl).2 h;rw[←e] at h1;exact (z3Z (k:=FM.nm) (h:=FM.nm) fun x=>rfl).1 h1
theorem z6o (xs:List Int) (i:Nat):xs.tail.getD i 0=xs.getD (i+1) 0:=by
 cases xs<;>simp[List.getD_eq_getElem?_getD]
theorem z6U (xs:List Int):xs.headD 0=xs.getD 0 0:=by cases xs<;>simp
theorem q8j : ∀(l:List FM) (f:FM) (xs:List Int),q1o (l++[f]) xs=q1o l xs++[q4e f (xs.getD l.length 0)]
 |[],f,xs=>by simp only[List.nil_append,q1o,List.length_nil,z6U]
 | a::r,f,xs=>by
  rw[List.cons_append,q1o,q1o,q8j r f xs.tail,z6o]
  rfl
theorem z3N {nm:List UInt8} {h:FM→FM} {a c:List FM} {f:FM} (hf:f.nm=nm) (ho:q3N FM.nm (a++f::c)):q1S FM.nm nm h (a++f::c)=a++h f::c:=by
 have hne:=z1e ho;rw[List.pairwise_append] at hne;obtain ⟨_,h2,h3⟩:=hne;have ha:q1S FM.nm nm h a=a:=q6k (q0c fun y hy e=>h3 y hy f (by simp) (e.trans hf.symm));have hc:q1S FM.nm nm h c=c:=q6k (q0c fun y hy e=>(List.pairwise_cons.1 h2).1 y hy (hf.trans e.symm));unfold q1S at ha hc⊢;rw[List.map_append,List.map_cons,ha,hc,if_pos (by simpa using hf)]
theorem z1u {L:List FM} (xs:List Int) {i:Nat} (hi:i<L.length) (ho:q3N FM.nm L):
  q0H FM.nm L[i].nm (q5F L xs i)=some L[i]∧ ∀h:FM→FM,h L[i]=q4e L[i] (xs.getD i 0)→q1S FM.nm L[i].nm h (q5F L xs i)=q5F L xs (i+1):=by
 have e1:q5F L xs i=q1o (L.take i) xs++L[i]::L.drop (i+1):=by unfold q5F;rw[List.drop_eq_getElem_cons hi]
 have o1:q3N FM.nm (q5F L xs i):=z4q ho (z3p L xs i);have hm:L[i]∈q5F L xs i:=by rw[e1];exact List.mem_append_right _ List.mem_cons_self
 refine ⟨q4V o1 hm rfl,fun h hh=>?_⟩;rw[e1] at o1⊢;rw[z3N rfl o1,hh];unfold q5F;rw[List.take_succ_eq_append_getElem hi,q8j,List.length_take,Nat.min_eq_left (Nat.le_of_lt hi)];simp
theorem z6a {nm:List UInt8} {h h':FM→FM} {L:List FM} (hk: ∀y,(h y).nm=y.nm):q1S FM.nm nm h' (q1S FM.nm nm h L)=q1S FM.nm nm (fun y=>h' (h y)) L:=by
 unfold q1S;rw[List.map_map];refine List.map_congr_left fun y _=>?_
 simp only[Function.comp];by_cases e:(y.nm==nm)=true
 ·rw[if_pos e,if_pos (by rw[hk];exact e),if_pos e]
 ·rw[if_neg e,if_neg e,if_neg e]
theorem z7F (f:FM) (x:Int):(q4e f x).da.length≤f.da.length:=by simp[q4e];omega
theorem z7a (f:FM) (x:Int) (h:f.sy≤f.da.length):(q4e f x).sy=(q4e f x).da.length:=by simp[q4e];omega
theorem q9G : ∀(L:List FM) (xs:List Int),q0Q (q1o L xs)≤q0Q L
 |[],_=>Nat.le_refl _
 | f::r,xs=>by
  have:=q9G r xs.tail;have:=z7F f (xs.headD 0);unfold q0Q q5d at*;simp only[q1o,List.map_cons,List.sum_cons];omega
theorem q7I (a b:List FM):q0Q (a++b)=q0Q a+q0Q b:=by simp[q0Q,q5d]
theorem z5f (L:List FM) (xs:List Int) (i:Nat):q0Q (q5F L xs i)≤q0Q L:=by
 unfold q5F;have e:q0Q L=q0Q (L.take i)+q0Q (L.drop i):=by rw[←q7I,List.take_append_drop]
 rw[q7I,e];have:=q9G (L.take i) xs;omega
theorem z2O : ∀(L:List FM) (xs:List Int),(∀f∈L,f.sy≤f.da.length)→ ∀f∈q1o L xs,f.sy=f.da.length
 |[],_,_=>by simp[q1o]
 | a::r,xs,h=>by
  intro f hf;rw[q1o] at hf;rcases List.mem_cons.1 hf with rfl|hf
  ·exact z7a _ _ (h a (by simp))
  ·exact z2O r xs.tail (fun g hg=>h g (by simp[hg])) f hf
theorem y0N {σ:DM} (h:okD σ) (xs:List Int):okD (z4F σ xs):=by
 refine ⟨h.cap0,h.cap1,?_,z4q h.ord (q8k _ _),fun f hf=>Nat.le_of_eq (z2O _ _ h.sy f hf),?_,Int.le_refl _,fun _=>rfl,Nat.zero_le _,by show (0:Int)≤_;decide⟩
 ·have:=h.used
  have:=q9G σ.L xs;show (q0Q (q1o σ.L xs):Int)≤σ.cap;omega
 ·show (q1o σ.L xs).length≤400
  rw[q6n];exact h.many
end
section
open Go.RowKit
theorem z1v {L:List FM} {nm:List UInt8} {f:FM→FM} (ho:q3N FM.nm L) {e:FM} (hf:q0H FM.nm nm L=some e):q0Q (q1S FM.nm nm f L)+e.da.length=q0Q L+(f e).da.length:=q7o _ ho hf
theorem q8K {L:List FM} {nm:List UInt8} (ho:q3N FM.nm L) {e:FM} (hf:q0H FM.nm nm L=some e):q0Q (delN FM.nm nm L)+e.da.length=q0Q L:=q7t _ ho hf
theorem q9L (x:FM) (L:List FM):q0Q (q2A FM.nm x L)=x.da.length+q0Q L:=y0M _ x L
theorem q8u {L:List FM} {e:FM} (h:e∈L):e.da.length≤q0Q L:=q7h (fun f:FM=>f.da.length) h
theorem okD.tick {σ:DM} (h:okD σ):okD (q1d σ):=
 ⟨h.cap0,h.cap1,h.used,h.ord,h.sy,h.many,(by show 0≤max (σ.left-1) 0;omega),(fun hf=>by have:=h.idle hf;show max (σ.left-1) 0=0;omega),h.keep,by have:=h.left1;show max (σ.left-1) 0≤_;omega⟩
theorem okD.sink {σ:DM} (h:okD σ):okD (q4t σ):=y0N h _
theorem okD.files {σ:DM} (h:okD σ) {L:List FM} (hu:(q0Q L:Int)≤σ.cap) (ho:q3N FM.nm L) (hs: ∀f∈L,f.sy≤f.da.length) (hm:L.length≤400):okD {σ with L:=L}:=
 ⟨h.cap0,h.cap1,hu,ho,hs,hm,h.left,h.idle,h.keep,h.left1⟩
theorem okD.upd {σ:DM} (h:okD σ) {nm:List UInt8} {f:FM→FM} {e:FM} (hf:q0H FM.nm nm σ.L=some e) (hu:(q0Q (q1S FM.nm nm f σ.L):Int)≤σ.cap) (hn: ∀y,(f y).nm=y.nm) (hs:(f e).sy≤(f e).da.length):okD {σ with L:=q1S FM.nm nm f σ.L}:=by
 refine h.files hu (z0k h.ord fun y hy=>by rw[hn,hy]) (fun y hy=>?_) (by rw[q7v];exact h.many);rcases (q5Q h.ord hf).1 hy with rfl|⟨hy,_⟩
 ·exact hs
 ·exact h.sy y hy
theorem okD.app {σ:DM} (h:okD σ) {nm s:List UInt8} {e:FM} (hf:q0H FM.nm nm σ.L=some e) (hu:(q0Q σ.L:Int)+s.length≤σ.cap):okD (q9y σ nm s)∧q0Q (q9y σ nm s).L=q0Q σ.L+s.length:=by
 have h1:=z1v (f:=fun f:FM=>{f with da:=f.da++s}) h.ord hf;have h2:=h.sy e (q0L hf).1;have h3:({e with da:=e.da++s}:FM).da.length=e.da.length+s.length:=List.length_append;have h4:q0Q (q1S FM.nm nm (fun f:FM=>{f with da:=f.da++s}) σ.L)=q0Q σ.L+s.length:=by omega
 exact ⟨h.upd hf (by rw[h4];omega) (fun y=>rfl) (by show e.sy≤(e.da++s).length;rw[List.length_append];omega),h4⟩
theorem okD.create {σ:DM} (h:okD σ) {nm:List UInt8} (hno:q0H FM.nm nm σ.L=none) (hm:σ.L.length<400):okD {σ with L:=q2A FM.nm ⟨nm,[],0⟩ σ.L}:=by
 refine h.files (by rw[q9L];have:=h.used;simpa using this) (q3v h.ord (q0f hno)) (fun f hf=>?_) (by rw[q2l];omega);rcases mem_insN.1 hf with rfl|hf
 ·exact Nat.le_refl _
 ·exact h.sy f hf
theorem okD.tell {σ:DM} (h:okD σ):okD (q2c σ):=⟨h.cap0,h.cap1,h.used,h.ord,h.sy,h.many,h.left,h.idle,h.keep,h.left1⟩
theorem okD.sync {σ:DM} (h:okD σ) {nm:List UInt8} {e:FM} (hf:q0H FM.nm nm σ.L=some e):okD {σ with L:=q1S FM.nm nm (fun f=>{f with sy:=f.da.length}) σ.L}∧q0Q (q1S FM.nm nm (fun f=>{f with sy:=f.da.length}) σ.L)=q0Q σ.L:=by
 have h1:=z1v (f:=fun f:FM=>{f with sy:=f.da.length}) h.ord hf;have h4:q0Q (q1S FM.nm nm (fun f:FM=>{f with sy:=f.da.length}) σ.L)=q0Q σ.L:=by
  have:({e with sy:=e.da.length}:FM).da.length=e.da.length:=rfl;omega
 exact ⟨h.upd hf (by rw[h4];exact h.used) (fun y=>rfl) (Nat.le_refl _),h4⟩
theorem z7b (nm:List UInt8) (L:List FM):(delN FM.nm nm L).length≤L.length:=List.length_filter_le _ _
theorem q7P {L:List FM} (nm:List UInt8) (ho:q3N FM.nm L):q0Q (delN FM.nm nm L)≤q0Q L:=by
 cases hf:q0H FM.nm nm L with
 |none=>rw[q6l hf];exact Nat.le_refl _
 |some e=>have:=q8K ho hf;omega
theorem okD.delete {σ:DM} (h:okD σ) (nm:List UInt8):okD {σ with L:=delN FM.nm nm σ.L}:=
 h.files (by have:=q7P nm h.ord;have:=h.used;omega) (q2X h.ord) (fun f hf=>h.sy f (mem_delN.1 hf).1) (by have:=z7b nm σ.L;have:=h.many;omega)
theorem z1g {L:List FM} {a b:List UInt8} (ho:q3N FM.nm L) {f:FM} (hf:q0H FM.nm a L=some f) (hne:a≠b):q0H FM.nm a (delN FM.nm b L)=some f:=
 q4V (q2X ho) (mem_delN.2 ⟨(q0L hf).1,fun e=>hne ((q0L hf).2.symm.trans e)⟩) (q0L hf).2
theorem okD.rename {σ:DM} (h:okD σ) {a b:List UInt8} {f:FM} (hf:q0H FM.nm a σ.L=some f) (hne:a≠b):okD {σ with L:=z6Y a b f σ.L}∧q0Q (z6Y a b f σ.L)=q0Q (delN FM.nm b σ.L):=by
 have o1:q3N FM.nm (delN FM.nm b σ.L):=q2X h.ord;have f1:=z1g h.ord hf hne;have u1:=q8K o1 f1;have u2:=q7P b h.ord;have l1:=q8S o1 f1;have l2:=z7b b σ.L;have hu:q0Q (z6Y a b f σ.L)=q0Q (delN FM.nm b σ.L):=by
  unfold z6Y;rw[q9L];show f.da.length+_=_;omega
 refine ⟨h.files ?_ ?_ ?_ ?_,hu⟩
 ·rw[hu];have:=h.used;omega
 ·exact q3v (q2X o1) fun y hy=>(mem_delN.1 (mem_delN.1 hy).1).2
 ·intro y hy
  rcases mem_insN.1 hy with rfl|hy
  ·exact h.sy f (q0L hf).1
  ·exact h.sy y (mem_delN.1 (mem_delN.1 hy).1).1
 ·unfold z6Y;rw[q2l];have:=h.many;omega
end
section
open Go.RowKit
def fbF (f:FM):List UInt8×List UInt8:=(f.nm,f.da)
structure Pl (σ:DM) (c s:Int) (l:List (List UInt8×List UInt8)):Prop where
 up:σ.down=false
 fine:σ.fail=false
 files:σ.L.map fbF=l
 cap:σ.cap=c
 st:σ.starts=s
def q1i (l:List (List UInt8×List UInt8)):Nat:=q5d (fun x:List UInt8×List UInt8=>x.2.length) l
section
variable {σ :DM} {c s:Int} {l:List (List UInt8×List UInt8)} {nm t:List UInt8} {x:List UInt8×List UInt8}
theorem q6m : ∀f:FM,Prod.fst (fbF f)=FM.nm f:=fun _=>rfl
theorem Pl.used (h:Pl σ c s l):q0Q σ.L=q1i l:=by
 unfold q0Q q1i q5d;rw[←h.files,List.map_map]
 rfl
theorem Pl.free (h:Pl σ c s l):q4Q σ=c-(q1i l:Int):=by unfold q4Q;rw[h.cap,h.used]
theorem Pl.find (h:Pl σ c s l) (nm:List UInt8):q0H Prod.fst nm l=(q0H FM.nm nm σ.L).map fbF:=by rw[←h.files];exact q2G q6m nm σ.L
theorem Pl.find_some (h:Pl σ c s l) (hf:q0H Prod.fst nm l=some x): ∃f,q0H FM.nm nm σ.L=some f∧fbF f=x:=by
 rw[h.find] at hf
 cases hq:q0H FM.nm nm σ.L with
 |none=>rw[hq] at hf;cases hf
 |some f=>rw[hq] at hf;exact ⟨f,rfl,Option.some.inj hf⟩
theorem Pl.find_none (h:Pl σ c s l) (hf:q0H Prod.fst nm l=none):q0H FM.nm nm σ.L=none:=by
 rw[h.find] at hf
 cases hq:q0H FM.nm nm σ.L with
 |none=>rfl
 |some f=>rw[hq] at hf;cases hf
theorem Pl.ord (h:Pl σ c s l) (ho:okD σ):q3N Prod.fst l:=by rw[←h.files];exact (z3Z q6m).2 ho.ord
theorem Pl.names (h:Pl σ c s l):q1n σ=l.map Prod.fst:=by rw[←h.files,List.map_map];rfl
theorem Pl.no (h:Pl σ c s l):q2C σ=false:=by unfold q2C;rw[h.fine];rfl
theorem Pl.tell (h:Pl σ c s l):Pl (q2c σ) c s l:=⟨h.up,h.fine,h.files,h.cap,h.st⟩
theorem Pl.size (h:Pl σ c s l) (hf:q0H Prod.fst nm l=some x):q1c σ nm=((x.2.length:Int),0):=by
 obtain ⟨f,h1,rfl⟩:=h.find_some hf;unfold q1c;rw[if_neg (by rw[h.up];decide),h1]
 rfl
theorem Pl.sizeN (h:Pl σ c s l) (hf:q0H Prod.fst nm l=none):q1c σ nm=(0,4):=by
 unfold q1c;rw[if_neg (by rw[h.up];decide),h.find_none hf]
theorem Pl.read (h:Pl σ c s l) (hf:q0H Prod.fst nm l=some x) (a n:Int) (ha:0≤a) (hn:0≤n) (hl:a+n≤(x.2.length:Int)):q1p σ nm a n=((x.2.drop a.toNat).take n.toNat,0,q2c σ):=by
 obtain ⟨f,h1,rfl⟩:=h.find_some hf;unfold q1p;rw[if_neg (by rw[h.up];decide),h1];show (if 0≤a∧0≤n∧a≤(f.da.length:Int)∧n≤(f.da.length:Int)-a then _ else _)=_;have e:(fbF f).2=f.da:=rfl;rw[e] at hl;rw[if_pos (by omega)]
 rfl
theorem Pl.append (h:Pl σ c s l) (hf:q0H Prod.fst nm l=some x) (hr:(t.length:Int)≤c-(q1i l:Int)): ∃σ',q1G σ nm t=(0,σ')∧Pl σ' c s (q1S Prod.fst nm (fun x=>(x.1,x.2++t)) l):=by
 obtain ⟨f,h1,rfl⟩:=h.find_some hf;refine ⟨q1d (q9y σ nm t),?_,?_⟩
 ·unfold q1G
  rw[if_neg (by rw[h.up];decide),h1,if_neg (by simp),if_neg (by rw[h.cap,h.used];omega),if_neg (by rw[h.no];decide)]
 ·exact ⟨h.up,h.fine,by rw[←h.files];exact z4g (k:=FM.nm) (k':=Prod.fst) q6m nm (fun f=>{f with da:=f.da++t}) (fun x=>(x.1,x.2++t)) (fun _=>rfl) σ.L,h.cap,h.st⟩
theorem Pl.sync (h:Pl σ c s l) (hf:q0H Prod.fst nm l=some x): ∃σ',q4Y σ nm=(0,σ')∧Pl σ' c s l:=by
 obtain ⟨f,h1,rfl⟩:=h.find_some hf;refine ⟨{q1d σ with L:=q1S FM.nm nm (fun f=>{f with sy:=f.da.length}) σ.L},?_,?_⟩
 ·unfold q4Y
  rw[if_neg (by rw[h.up];decide),h1,if_neg (by simp),if_neg (by rw[h.no];decide)]
 ·refine ⟨h.up,h.fine,?_,h.cap,h.st⟩
  rw[←h.files];show (q1S FM.nm nm _ σ.L).map fbF=_;rw[z4g (k:=FM.nm) (k':=Prod.fst) q6m nm (fun f=>{f with sy:=f.da.length}) id (fun _=>rfl) σ.L];unfold q1S
  conv=>rhs;rw[←List.map_id (σ.L.map fbF)]
  exact List.map_congr_left fun y _=>by split<;>rfl
theorem Pl.create (h:Pl σ c s l) (hf:q0H Prod.fst nm l=none) (hk:q2a nm=true) (hm:l.length<400): ∃σ',q0o σ nm=(0,σ')∧Pl σ' c s (q2A Prod.fst (nm,[]) l):=by
 refine ⟨{q1d σ with L:=q2A FM.nm ⟨nm,[],0⟩ σ.L},?_,?_⟩
 ·unfold q0o
  have e:σ.L.length=l.length:=by rw[←h.files,List.length_map]
  rw[if_neg (by rw[h.up];decide),if_neg (by rw[hk];decide),h.find_none hf,if_neg (by simp),if_neg (by omega),if_neg (by rw[h.no];decide)]
 ·refine ⟨h.up,h.fine,?_,h.cap,h.st⟩
  rw[←h.files];exact q6A (k:=FM.nm) (k':=Prod.fst) q6m ⟨nm,[],0⟩ σ.L
end
section
variable {α :Type} {k:α→List UInt8}
theorem q5U (nm:List UInt8) (f:α→α) (a b:List α):q1S k nm f (a++b)=q1S k nm f a++q1S k nm f b:=by unfold q1S;simp
theorem q2q {nm:List UInt8} {f:α→α} {l:List α} (h: ∀y∈l,k y≠nm):q1S k nm f l=l:=q6k (q0c h)
theorem q0i {nm:List UInt8} {a b:List α} (h: ∀y∈a,k y≠nm):q0H k nm (a++b)=q0H k nm b:=by
 unfold q0H;rw[List.find?_append];have:List.find? (fun y=>k y==nm) a=none:=q0c h;rw[this];rfl
end
end
end Go.Proofs.YtjjfiejoeelndaaGreatDoor
