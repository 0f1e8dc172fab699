/- Plain laws: files of a disk, in the order of their names. Plain laws: a crash of a disk, file by file. Plain laws: each change leaves a disk that may be. Plain laws: a disk that is well, by its files' names and bytes. -/
import Derived.Sort.KeysCollected
import Derived.Lib.Hide
set_option linter.unusedVariables false
set_option linter.unusedSimpArgs false
namespace Go.Proofs.YtjjfiejoeelndaaGreatDoor
open Go.RowKit
theorem q4Y : ∀a b:List UInt8,bytesBefore a b=decide (a<b)
  |[],[]=>by simp[bytesBefore]
  |[],b::s=>by simp[bytesBefore]
  |a::r,[]=>by simp[bytesBefore]
  | a::r,b::s=>by
    unfold bytesBefore
    rw[q4Y r s,Bool.eq_iff_iff]
    simp[List.cons_lt_cons_iff]
section gen
variable {α β:Type} (k:α→List UInt8)
def q3b (x:α):List α→List α
  |[]=>[x]
  |y::r=>if bytesBefore (k x) (k y) then x::y::r else y::q3b x r
def q2d (nm:List UInt8) (l:List α):List α:=l.filter fun y=>!(k y==nm)
def q1I (nm:List UInt8) (f:α→α) (l:List α):List α:=l.map fun y=>if k y==nm then f y else y
def q0G (nm:List UInt8) (l:List α):Option α:=l.find? fun y=>k y==nm
def q2x (l:List α):Prop:=l.Pairwise fun x y=>bytesBefore (k x) (k y)=true
variable {k}
theorem q3t (x:α): ∀l:List α,(q3b k x l).Perm (x::l)
  |[]=>List.Perm.refl _
  | y::r=>by
    unfold q3b
    split
    · exact List.Perm.refl _
    · exact (List.Perm.cons y (q3t x r)).trans (List.Perm.swap x y r)
theorem mem_insN {x y:α} {l:List α}:y∈q3b k x l↔y=x∨y∈l:=by rw[(q3t x l).mem_iff];simp
theorem z0g (x:α) (l:List α):(q3b k x l).length=l.length+1:=by rw[(q3t x l).length_eq];rfl
theorem q8u {x:α}: ∀{l:List α},q2x k l→(∀y∈l,k y≠k x)→q2x k (q3b k x l)
  |[],_,_=>by simp[q2x,q3b]
  | y :: r,h,hne=>by
    obtain ⟨h1,h2⟩:=List.pairwise_cons.1 h
    unfold q3b
    split
    · rename_i hb
      refine List.pairwise_cons.2 ⟨fun z hz=>?_,h⟩
      rcases List.mem_cons.1 hz with rfl|hz
      · exact hb
      · exact WideShapes.bytes_trans _ _ _ hb (h1 z hz)
    · rename_i hb
      have hyx:bytesBefore (k y) (k x)=true:=by
        rcases WideAt.bytes_total _ _ (hne y (List.mem_cons_self)) with h|h
        · exact h
        · exact absurd h hb
      refine List.pairwise_cons.2 ⟨fun z hz=>?_,q8u h2 fun z hz=>hne z (List.mem_cons_of_mem _ hz)⟩
      rcases mem_insN.1 hz with rfl|hz
      · exact hyx
      · exact h1 z hz
theorem q8Z {nm:List UInt8} {l:List α} (h:q2x k l):q2x k (q2d k nm l):=h.filter _
theorem mem_delN {nm:List UInt8} {x:α} {l:List α}:x∈q2d k nm l↔x∈l∧k x≠nm:=by simp[q2d,List.mem_filter]
theorem q8a {nm:List UInt8} {f:α→α} {l:List α} (h:q2x k l) (hf: ∀y,k y=nm→k (f y)=nm):q2x k (q1I k nm f l):=by
  refine List.pairwise_map.2 (h.imp fun {x y} hxy=>?_)
  have e: ∀z,k (if k z==nm then f z else z)=k z:=fun z=>by
    split
    · rename_i hz
      have hz':k z=nm:=by simpa using hz
      rw[hf z hz',hz']
    · rfl
  rw[e,e];exact hxy
theorem q7S {nm:List UInt8} {f:α→α} (l:List α):(q1I k nm f l).length=l.length:=by simp[q1I]
theorem q0N {nm:List UInt8} {l:List α} {e:α} (h:q0G k nm l=some e):e∈l∧k e=nm:=⟨List.mem_of_find?_eq_some h,by simpa using List.find?_some h⟩
theorem q1p {nm:List UInt8} {l:List α} (h:q0G k nm l=none): ∀y∈l,k y≠nm:=fun y hy=>by simpa using List.find?_eq_none.1 h y hy
theorem q0T {nm:List UInt8} {l:List α} (h: ∀y∈l,k y≠nm):q0G k nm l=none:=List.find?_eq_none.2 fun y hy=>by simpa using h y hy
theorem q9I {l:List α} (h:q2x k l):l.Pairwise fun x y=>k x≠k y:=h.imp fun {x y} hxy e=>by rw[e,WideAt.bytes_irrefl] at hxy;cases hxy
theorem q5T {l:List α} (h:q2x k l) {x y:α} (hx:x∈l) (hy:y∈l) (e:k x=k y):x=y:=by
  have hp:=q9I h
  clear h
  induction l with
  |nil=>cases hx
  | cons a r ih=>
    obtain ⟨h1,h2⟩:=List.pairwise_cons.1 hp
    rcases List.mem_cons.1 hx with ex|hx'<;>rcases List.mem_cons.1 hy with ey|hy'
    · rw[ex,ey]
    · subst ex;exact absurd e (h1 y hy')
    · subst ey;exact absurd e.symm (h1 x hx')
    · exact ih hx' hy' h2
theorem q5J {nm:List UInt8} {l:List α} (h:q2x k l) {e:α} (he:e∈l) (hn:k e=nm):q0G k nm l=some e:=by
  cases hf:q0G k nm l with
  |none=>exact absurd hn (q1p hf e he)
  |some e'=>obtain ⟨h1,h2⟩:=q0N hf;rw[q5T h h1 he (h2.trans hn.symm)]
theorem q5B {nm:List UInt8} {l:List α} (h:q0G k nm l=none):q2d k nm l=l:=List.filter_eq_self.2 fun y hy=>by simpa using q1p h y hy
theorem q5F {nm:List UInt8} {f:α→α} {l:List α} (h:q0G k nm l=none):q1I k nm f l=l:=by
  unfold q1I
  conv=>rhs;rw[←List.map_id l]
  exact List.map_congr_left fun y hy=>by rw[if_neg (by simpa using q1p h y hy)];rfl
theorem q4I {nm:List UInt8} {f:α→α} {l:List α} (h:q2x k l) {e:α} (hf:q0G k nm l=some e) {y:α}:y∈q1I k nm f l↔y=f e∨(y∈l∧k y≠nm):=by
  obtain ⟨h1,h2⟩:=q0N hf
  unfold q1I
  rw[List.mem_map]
  constructor
  · rintro ⟨z,hz,rfl⟩
    by_cases hn:k z=nm
    · obtain rfl:=q5T h hz h1 (hn.trans h2.symm)
      left;rw[if_pos (by simpa using hn)]
    · right;rw[if_neg (by simpa using hn)];exact ⟨hz,hn⟩
  · rintro (rfl|⟨hy,hn⟩)
    · exact ⟨e,h1,by rw[if_pos (by simpa using h2)]⟩
    · exact ⟨y,hy,by rw[if_neg (by simpa using hn)]⟩
theorem q8v {S:α→α→Prop} {nm:List UInt8} {f:α→α} {l:List α} (h:q2x k l) (hS:l.Pairwise S) {e:α} (hf:q0G k nm l=some e) (h1: ∀y∈l,k y≠nm→S (f e) y∧S y (f e)):(q1I k nm f l).Pairwise S:=by
  obtain ⟨he,hen⟩:=q0N hf
  refine List.pairwise_map.2 ((hS.and (q9I h)).imp_of_mem fun {x y} hx hy ⟨hs,hne⟩=>?_)
  by_cases hxn:k x=nm
  · have hyn:k y≠nm:=fun e=>hne (hxn.trans e.symm)
    obtain rfl:=q5T h hx he (hxn.trans hen.symm)
    rw[if_pos (by simpa using hxn),if_neg (by simpa using hyn)]
    exact (h1 y hy hyn).1
  · rw [if_neg (by simpa using hxn)]
    by_cases hyn:k y=nm
    · obtain rfl:=q5T h hy he (hyn.trans hen.symm)
      rw[if_pos (by simpa using hyn)]
      exact (h1 x hx hxn).2
    · rw[if_neg (by simpa using hyn)];exact hs
section map
variable {k' :β→List UInt8} {h:α→β} (hk: ∀x,k' (h x)=k x)
include hk
theorem q8L (x:α): ∀l:List α,(q3b k x l).map h=q3b k' (h x) (l.map h)
  |[]=>rfl
  | y::r=>by
    unfold q3b
    simp only[List.map_cons,hk]
    split
    · rfl
    · rw[List.map_cons,q8L x r]
theorem z2R (nm:List UInt8) (l:List α):(q2d k nm l).map h=q2d k' nm (l.map h):=by
  unfold q2d;rw[List.filter_map];congr 1;exact List.filter_congr fun y _=>by simp[hk]
theorem z2k (nm:List UInt8) (f:α→α) (g:β→β) (hf: ∀y,h (f y)=g (h y)) (l:List α):(q1I k nm f l).map h=q1I k' nm g (l.map h):=by
  unfold q1I;rw[List.map_map,List.map_map];refine List.map_congr_left fun y _=>?_
  simp only[Function.comp,hk];split<;>simp[hf]
theorem z4e {nm:List UInt8} {f:α→α} {g:β→β} {l:List α} (ho:q2x k l) {e:α} (hf:q0G k nm l=some e) (hfe:h (f e)=g (h e)):(q1I k nm f l).map h=q1I k' nm g (l.map h):=by
  obtain ⟨he,hen⟩:=q0N hf
  unfold q1I;rw[List.map_map,List.map_map];refine List.map_congr_left fun y hy=>?_
  simp only[Function.comp,hk]
  split
  · rename_i hz
    have hz':k y=nm:=by simpa using hz
    rw[q5T ho hy he (hz'.trans hen.symm)];exact hfe
  · rfl
theorem q1h (nm:List UInt8) (l:List α):q0G k' nm (l.map h)=(q0G k nm l).map h:=by
  unfold q0G;rw[List.find?_map];congr 2;funext y;simp[hk]
theorem z0t {l:List α}:q2x k' (l.map h)↔q2x k l:=by
  unfold q2x;rw[List.pairwise_map];simp only[hk]
end map
def q5S (s:α→Nat) (l:List α):Nat:=(l.map s).sum
theorem z6P (s:α→Nat) (x:α) (l:List α):q5S s (q3b k x l)=s x+q5S s l:=by
  unfold q5S;rw[((q3t x l).map s).sum_nat];simp
theorem z1r (s:α→Nat) {nm:List UInt8}: ∀{l:List α},q2x k l→ ∀{e:α},q0G k nm l=some e→q5S s (q2d k nm l)+s e=q5S s l
  |[],_,_,hf=>by simp[q0G] at hf
  | a :: r,h,e,hf=>by
    obtain ⟨h1,h2⟩:=List.pairwise_cons.1 h
    by_cases ha:k a=nm
    · have e1:a=e:=by unfold q0G at hf;rw[List.find?_cons_of_pos (by simpa using ha)] at hf;exact Option.some.inj hf
      subst e1
      have e2:q2d k nm (a::r)=r:=by
        unfold q2d
        rw[List.filter_cons_of_neg (by simp[ha])]
        refine List.filter_eq_self.2 fun y hy=>?_
        have:=h1 y hy
        simp only[Bool.not_eq_true',beq_eq_false_iff_ne]
        intro e3
        rw[e3,←ha,WideAt.bytes_irrefl] at this
        cases this
      rw[e2];simp[q5S];omega
    · have hf2:q0G k nm r=some e:=by unfold q0G at hf⊢;rwa [List.find?_cons_of_neg (by simpa using ha)] at hf
      have ih:=z1r s h2 hf2
      have e2:q2d k nm (a::r)=a::q2d k nm r:=by unfold q2d;rw[List.filter_cons_of_pos (by simpa using ha)]
      rw[e2];simp only[q5S,List.map_cons,List.sum_cons] at ih⊢;omega
theorem q6F (s:α→Nat) {nm:List UInt8} {f:α→α}: ∀{l:List α},q2x k l→ ∀{e:α},q0G k nm l=some e→q5S s (q1I k nm f l)+s e=q5S s l+s (f e)
  |[],_,_,hf=>by simp[q0G] at hf
  | a ::r,h,e,hf=>by
    obtain ⟨h1,h2⟩:=List.pairwise_cons.1 h
    by_cases ha:k a=nm
    · have e1:a=e:=by unfold q0G at hf;rw[List.find?_cons_of_pos (by simpa using ha)] at hf;exact Option.some.inj hf
      subst e1
      have e2:q1I k nm f r=r:=q5F (q0T fun y hy e3=>by have:=h1 y hy;rw[e3,←ha,WideAt.bytes_irrefl] at this;cases this)
      have e3:q1I k nm f (a::r)=f a::q1I k nm f r:=by unfold q1I;rw[List.map_cons,if_pos (by simpa using ha)]
      rw[e3,e2];simp[q5S];omega
    · have hf2:q0G k nm r=some e:=by unfold q0G at hf⊢;rwa [List.find?_cons_of_neg (by simpa using ha)] at hf
      have ih:=q6F s (f:=f) h2 hf2
      have e2:q1I k nm f (a::r)=a::q1I k nm f r:=by unfold q1I;rw[List.map_cons,if_neg (by simpa using ha)]
      rw[e2];simp only[q5S,List.map_cons,List.sum_cons] at ih⊢;omega
theorem q6M (s:α→Nat): ∀{l:List α} {e:α},e∈l→s e≤q5S s l
  | a::r,e,h=>by
    rcases List.mem_cons.1 h with rfl|h
    · simp[q5S]
    · have:=q6M s h;simp only[q5S,List.map_cons,List.sum_cons] at this⊢;omega
end gen
structure FM where
  nm:List UInt8
  da:List UInt8
  sy:Nat
structure DM where
  cap:Int
  L:List FM
  reads:Int
  starts:Int
  down:Bool
  fail:Bool
  left:Int
  keep:List Int
def q0O (L:List FM):Nat:=q5S (fun f=>f.da.length) L
def q3i (nm:List UInt8):Bool:=!nm.isEmpty&&decide (nm.length≤12)
structure okD (σ:DM):Prop where
  cap0:0≤σ.cap
  cap1:σ.cap≤1048576
  used:(q0O σ.L:Int)≤σ.cap
  ord:q2x FM.nm σ.L
  sy: ∀f∈σ.L,f.sy≤f.da.length
  many:σ.L.length≤400
  left:0≤σ.left
  idle:σ.fail=false→σ.left=0
  keep:σ.keep.length≤1000000
  left1:σ.left≤9223372036854775807
def q1s (σ:DM):Bool:=σ.fail&&decide (σ.left=0)
def q2S (σ:DM):DM:={σ with left:=max (σ.left-1) 0}
def q3j (f:FM) (more:Int):FM:={f with da:=f.da.take (f.sy+min (max more 0).toNat (f.da.length-f.sy)),sy:=f.sy+min (max more 0).toNat (f.da.length-f.sy)}
def q1U :List FM→List Int→List FM
  |[],_=>[]
  |f::r,ks=>q3j f (ks.headD 0)::q1U r ks.tail
def q5m (σ:DM) (ks:List Int):DM:={σ with L:=q1U σ.L ks,down:=true,fail:=false,left:=0,keep:=[]}
def q4m (σ:DM):DM:=q5m σ σ.keep
def q1r (σ:DM) (nm:List UInt8):Int×DM:=
  if σ.down then (61,σ) else if !q3i nm then (2,σ) else if (q0G FM.nm nm σ.L).isSome then (62,σ) else if 400≤σ.L.length then (60,σ)
  else if q1s σ then (61,q4m σ) else (0,{q2S σ with L:=q3b FM.nm ⟨nm,[],0⟩ σ.L})
def q7m (σ:DM) (nm s:List UInt8):DM:={σ with L:=q1I FM.nm nm (fun f=>{f with da:=f.da++s}) σ.L}
def q1w (σ:DM) (nm s:List UInt8):Int×DM:=
  if σ.down then (61,σ) else if (q0G FM.nm nm σ.L).isNone then (4,σ) else if σ.cap-(q0O σ.L:Int)<(s.length:Int) then (60,σ)
  else if q1s σ then (61,q4m (q7m σ nm s)) else (0,q2S (q7m σ nm s))
def q2H (σ:DM):DM:={σ with reads:=wrap64 (σ.reads+1)}
def q1X (σ:DM) (nm:List UInt8) (at_ n:Int):List UInt8×Int×DM:=
  if σ.down then ([],61,σ) else match q0G FM.nm nm σ.L with
  |none=>([],4,q2H σ)
  |some f=>if 0≤at_∧0≤n∧at_≤(f.da.length:Int)∧n≤(f.da.length:Int)-at_ then ((f.da.drop at_.toNat).take n.toNat,0,q2H σ) else ([],2,q2H σ)
def q6A (σ:DM) (nm:List UInt8):Int×DM:=
  if σ.down then (61,σ) else if (q0G FM.nm nm σ.L).isNone then (4,σ) else if q1s σ then (61,q4m σ)
  else (0,{q2S σ with L:=q1I FM.nm nm (fun f=>{f with sy:=f.da.length}) σ.L})
def q1O (σ:DM) (nm:List UInt8):Int×DM:=
  if σ.down then (61,σ) else if (q0G FM.nm nm σ.L).isNone then (4,σ) else if q1s σ then (61,q4m σ) else (0,{q2S σ with L:=q2d FM.nm nm σ.L})
def q1P (σ:DM) (nm:List UInt8):Int×Int:=
  if σ.down then (0,61) else match q0G FM.nm nm σ.L with|none=>(0,4)|some f=>((f.da.length:Int),0)
def q1V (σ:DM):List (List UInt8):=σ.L.map FM.nm
def z0h (σ:DM):Int:=σ.cap-(q0O σ.L:Int)
def q6l (σ:DM) (ks:List Int):Int×DM:=if σ.down then (61,σ) else (0,q5m σ ks)
def q5H (n:Nat) (f:FM):FM:={f with da:=f.da.take n,sy:=min f.sy (min n f.da.length)}
end Go.Proofs.YtjjfiejoeelndaaGreatDoor
namespace Go.Proofs.YtjjfiejoeelndaaGreatDoor
open Go.RowKit
def q4A (L:List FM) (xs:List Int) (i:Nat):List FM:=q1U (L.take i) xs++L.drop i
theorem q5P : ∀(L:List FM) (xs:List Int),(q1U L xs).length=L.length
  |[],_=>rfl
  |f::r,xs=>by simp[q1U,q5P r]
theorem z4w (f:FM) (x:Int):(q3j f x).nm=f.nm:=rfl
theorem q6m : ∀(L:List FM) (xs:List Int),(q1U L xs).map FM.nm=L.map FM.nm
  |[],_=>rfl
  |f::r,xs=>by simp[q1U,q6m r,z4w]
theorem z3v (L:List FM) (xs:List Int):q4A L xs 0=L:=by simp[q4A,q1U]
theorem z7V (L:List FM) (xs:List Int):q4A L xs L.length=q1U L xs:=by simp[q4A]
theorem z0U (L:List FM) (xs:List Int) (i:Nat):(q4A L xs i).map FM.nm=L.map FM.nm:=by
  unfold q4A;rw[List.map_append,q6m,←List.map_append,List.take_append_drop]
theorem z2Y {L L':List FM} (h:q2x FM.nm L) (e:L'.map FM.nm=L.map FM.nm):q2x FM.nm L':=by
  have h1:q2x (fun x:List UInt8=>x) (L.map FM.nm):=(z0t (k:=FM.nm) (h:=FM.nm) fun x=>rfl).2 h
  rw[←e] at h1
  exact (z0t (k:=FM.nm) (h:=FM.nm) fun x=>rfl).1 h1
theorem z5t (xs:List Int) (i:Nat):xs.tail.getD i 0=xs.getD (i+1) 0:=by
  cases xs<;>simp[List.getD_eq_getElem?_getD]
theorem z3W (xs:List Int):xs.headD 0=xs.getD 0 0:=by cases xs<;>simp
theorem q6t : ∀(l:List FM) (f:FM) (xs:List Int),q1U (l++[f]) xs=q1U l xs++[q3j f (xs.getD l.length 0)]
  |[],f,xs=>by simp only[List.nil_append,q1U,List.length_nil,z3W]
  | a::r,f,xs=>by
    rw[List.cons_append,q1U,q1U,q6t r f xs.tail,z5t]
    rfl
theorem z0u {nm:List UInt8} {h:FM→FM} {a c:List FM} {f:FM} (hf:f.nm=nm) (ho:q2x FM.nm (a++f::c)):q1I FM.nm nm h (a++f::c)=a++h f::c:=by
  have hne:=q9I ho
  rw[List.pairwise_append] at hne
  obtain ⟨_,h2,h3⟩:=hne
  have ha:q1I FM.nm nm h a=a:=q5F (q0T fun y hy e=>h3 y hy f (by simp) (e.trans hf.symm))
  have hc:q1I FM.nm nm h c=c:=q5F (q0T fun y hy e=>(List.pairwise_cons.1 h2).1 y hy (hf.trans e.symm))
  unfold q1I at ha hc⊢
  rw[List.map_append,List.map_cons,ha,hc,if_pos (by simpa using hf)]
theorem q9j {L:List FM} (xs:List Int) {i:Nat} (hi:i<L.length) (ho:q2x FM.nm L):
    q0G FM.nm L[i].nm (q4A L xs i)=some L[i]∧ ∀h:FM→FM,h L[i]=q3j L[i] (xs.getD i 0)→q1I FM.nm L[i].nm h (q4A L xs i)=q4A L xs (i+1):=by
  have e1:q4A L xs i=q1U (L.take i) xs++L[i]::L.drop (i+1):=by unfold q4A;rw[List.drop_eq_getElem_cons hi]
  have o1:q2x FM.nm (q4A L xs i):=z2Y ho (z0U L xs i)
  have hm:L[i]∈q4A L xs i:=by rw[e1];exact List.mem_append_right _ List.mem_cons_self
  refine ⟨q5J o1 hm rfl,fun h hh=>?_⟩
  rw[e1] at o1⊢
  rw[z0u rfl o1,hh]
  unfold q4A
  rw[List.take_succ_eq_append_getElem hi,q6t,List.length_take,Nat.min_eq_left (Nat.le_of_lt hi)]
  simp
theorem z3Q {nm:List UInt8} {h h':FM→FM} {L:List FM} (hk: ∀y,(h y).nm=y.nm):q1I FM.nm nm h' (q1I FM.nm nm h L)=q1I FM.nm nm (fun y=>h' (h y)) L:=by
  unfold q1I
  rw[List.map_map]
  refine List.map_congr_left fun y _=>?_
  simp only[Function.comp]
  by_cases e:(y.nm==nm)=true
  · rw[if_pos e,if_pos (by rw[hk];exact e),if_pos e]
  · rw[if_neg e,if_neg e,if_neg e]
theorem z4x (f:FM) (x:Int):(q3j f x).da.length≤f.da.length:=by simp[q3j];omega
theorem z4G (f:FM) (x:Int) (h:f.sy≤f.da.length):(q3j f x).sy=(q3j f x).da.length:=by simp[q3j];omega
theorem q6f : ∀(L:List FM) (xs:List Int),q0O (q1U L xs)≤q0O L
  |[],_=>Nat.le_refl _
  | f::r,xs=>by
    have:=q6f r xs.tail
    have:=z4x f (xs.headD 0)
    unfold q0O q5S at*
    simp only[q1U,List.map_cons,List.sum_cons]
    omega
theorem q5g (a b:List FM):q0O (a++b)=q0O a+q0O b:=by simp[q0O,q5S]
theorem z2t (L:List FM) (xs:List Int) (i:Nat):q0O (q4A L xs i)≤q0O L:=by
  unfold q4A
  have e:q0O L=q0O (L.take i)+q0O (L.drop i):=by rw[←q5g,List.take_append_drop]
  rw[q5g,e]
  have:=q6f (L.take i) xs
  omega
theorem z0O : ∀(L:List FM) (xs:List Int),(∀f∈L,f.sy≤f.da.length)→ ∀f∈q1U L xs,f.sy=f.da.length
  |[],_,_=>by simp[q1U]
  | a::r,xs,h=>by
    intro f hf
    rw[q1U] at hf
    rcases List.mem_cons.1 hf with rfl|hf
    · exact z4G _ _ (h a (by simp))
    · exact z0O r xs.tail (fun g hg=>h g (by simp[hg])) f hf
theorem z1b {σ:DM} (h:okD σ) (xs:List Int):okD (q5m σ xs):=by
  refine ⟨h.cap0,h.cap1,?_,z2Y h.ord (q6m _ _),fun f hf=>Nat.le_of_eq (z0O _ _ h.sy f hf),?_,Int.le_refl _,fun _=>rfl,Nat.zero_le _,by show (0:Int)≤_;decide⟩
  · have:=h.used
    have:=q6f σ.L xs
    show (q0O (q1U σ.L xs):Int)≤σ.cap
    omega
  · show (q1U σ.L xs).length≤400
    rw[q5P];exact h.many
end Go.Proofs.YtjjfiejoeelndaaGreatDoor
namespace Go.Proofs.YtjjfiejoeelndaaGreatDoor
open Go.RowKit
theorem z0P {L:List FM} {nm:List UInt8} {f:FM→FM} (ho:q2x FM.nm L) {e:FM} (hf:q0G FM.nm nm L=some e):q0O (q1I FM.nm nm f L)+e.da.length=q0O L+(f e).da.length:=q6F _ ho hf
theorem q9H {L:List FM} {nm:List UInt8} (ho:q2x FM.nm L) {e:FM} (hf:q0G FM.nm nm L=some e):q0O (q2d FM.nm nm L)+e.da.length=q0O L:=z1r _ ho hf
theorem q9z (x:FM) (L:List FM):q0O (q3b FM.nm x L)=x.da.length+q0O L:=z6P _ x L
theorem q7O {L:List FM} {e:FM} (h:e∈L):e.da.length≤q0O L:=q6M (fun f:FM=>f.da.length) h
theorem okD.tick {σ:DM} (h:okD σ):okD (q2S σ):=
  ⟨h.cap0,h.cap1,h.used,h.ord,h.sy,h.many,(by show 0≤max (σ.left-1) 0;omega),(fun hf=>by have:=h.idle hf;show max (σ.left-1) 0=0;omega),h.keep,by have:=h.left1;show max (σ.left-1) 0≤_;omega⟩
theorem okD.sink {σ:DM} (h:okD σ):okD (q4m σ):=z1b h _
theorem okD.files {σ:DM} (h:okD σ) {L:List FM} (hu:(q0O L:Int)≤σ.cap) (ho:q2x FM.nm L) (hs: ∀f∈L,f.sy≤f.da.length) (hm:L.length≤400):okD {σ with L:=L}:=
  ⟨h.cap0,h.cap1,hu,ho,hs,hm,h.left,h.idle,h.keep,h.left1⟩
theorem okD.upd {σ:DM} (h:okD σ) {nm:List UInt8} {f:FM→FM} {e:FM} (hf:q0G FM.nm nm σ.L=some e) (hu:(q0O (q1I FM.nm nm f σ.L):Int)≤σ.cap) (hn: ∀y,(f y).nm=y.nm) (hs:(f e).sy≤(f e).da.length):okD {σ with L:=q1I FM.nm nm f σ.L}:=by
  refine h.files hu (q8a h.ord fun y hy=>by rw[hn,hy]) (fun y hy=>?_) (by rw[q7S];exact h.many)
  rcases (q4I h.ord hf).1 hy with rfl|⟨hy,_⟩
  · exact hs
  · exact h.sy y hy
theorem okD.app {σ:DM} (h:okD σ) {nm s:List UInt8} {e:FM} (hf:q0G FM.nm nm σ.L=some e) (hu:(q0O σ.L:Int)+s.length≤σ.cap):okD (q7m σ nm s)∧q0O (q7m σ nm s).L=q0O σ.L+s.length:=by
  have h1:=z0P (f:=fun f:FM=>{f with da:=f.da++s}) h.ord hf
  have h2:=h.sy e (q0N hf).1
  have h3:({e with da:=e.da++s}:FM).da.length=e.da.length+s.length:=List.length_append
  have h4:q0O (q1I FM.nm nm (fun f:FM=>{f with da:=f.da++s}) σ.L)=q0O σ.L+s.length:=by omega
  exact ⟨h.upd hf (by rw[h4];omega) (fun y=>rfl) (by show e.sy≤(e.da++s).length;rw[List.length_append];omega),h4⟩
theorem okD.create {σ:DM} (h:okD σ) {nm:List UInt8} (hno:q0G FM.nm nm σ.L=none) (hm:σ.L.length<400):okD {σ with L:=q3b FM.nm ⟨nm,[],0⟩ σ.L}:=by
  refine h.files (by rw[q9z];have:=h.used;simpa using this) (q8u h.ord (q1p hno)) (fun f hf=>?_) (by rw[z0g];omega)
  rcases mem_insN.1 hf with rfl|hf
  · exact Nat.le_refl _
  · exact h.sy f hf
theorem okD.tell {σ:DM} (h:okD σ):okD (q2H σ):=⟨h.cap0,h.cap1,h.used,h.ord,h.sy,h.many,h.left,h.idle,h.keep,h.left1⟩
theorem okD.sync {σ:DM} (h:okD σ) {nm:List UInt8} {e:FM} (hf:q0G FM.nm nm σ.L=some e):okD {σ with L:=q1I FM.nm nm (fun f=>{f with sy:=f.da.length}) σ.L}∧q0O (q1I FM.nm nm (fun f=>{f with sy:=f.da.length}) σ.L)=q0O σ.L:=by
  have h1:=z0P (f:=fun f:FM=>{f with sy:=f.da.length}) h.ord hf
  have h4:q0O (q1I FM.nm nm (fun f:FM=>{f with sy:=f.da.length}) σ.L)=q0O σ.L:=by
    have:({e with sy:=e.da.length}:FM).da.length=e.da.length:=rfl
    omega
  exact ⟨h.upd hf (by rw[h4];exact h.used) (fun y=>rfl) (Nat.le_refl _),h4⟩
theorem z8B (nm:List UInt8) (L:List FM):(q2d FM.nm nm L).length≤L.length:=List.length_filter_le _ _
theorem z0A {L:List FM} (nm:List UInt8) (ho:q2x FM.nm L):q0O (q2d FM.nm nm L)≤q0O L:=by
  cases hf:q0G FM.nm nm L with
  |none=>rw[q5B hf];exact Nat.le_refl _
  |some e=>have:=q9H ho hf;omega
theorem okD.delete {σ:DM} (h:okD σ) (nm:List UInt8):okD {σ with L:=q2d FM.nm nm σ.L}:=
  h.files (by have:=z0A nm h.ord;have:=h.used;omega) (q8Z h.ord) (fun f hf=>h.sy f (mem_delN.1 hf).1) (by have:=z8B nm σ.L;have:=h.many;omega)
end Go.Proofs.YtjjfiejoeelndaaGreatDoor
namespace Go.Proofs.YtjjfiejoeelndaaGreatDoor
open Go.RowKit
def fbF (f:FM):List UInt8×List UInt8:=(f.nm,f.da)
structure Pl (σ:DM) (c s:Int) (l:List (List UInt8×List UInt8)):Prop where
  up:σ.down=false
  fine:σ.fail=false
  files:σ.L.map fbF=l
  cap:σ.cap=c
  st:σ.starts=s
def q2F (l:List (List UInt8×List UInt8)):Nat:=q5S (fun x:List UInt8×List UInt8=>x.2.length) l
section
variable {σ :DM} {c s:Int} {l:List (List UInt8×List UInt8)} {nm t:List UInt8} {x:List UInt8×List UInt8}
theorem q7k : ∀f:FM,Prod.fst (fbF f)=FM.nm f:=fun _=>rfl
theorem Pl.used (h:Pl σ c s l):q0O σ.L=q2F l:=by
  unfold q0O q2F q5S
  rw[←h.files,List.map_map]
  rfl
theorem Pl.free (h:Pl σ c s l):z0h σ=c-(q2F l:Int):=by unfold z0h;rw[h.cap,h.used]
theorem Pl.find (h:Pl σ c s l) (nm:List UInt8):q0G Prod.fst nm l=(q0G FM.nm nm σ.L).map fbF:=by rw[←h.files];exact q1h q7k nm σ.L
theorem Pl.find_some (h:Pl σ c s l) (hf:q0G Prod.fst nm l=some x): ∃f,q0G FM.nm nm σ.L=some f∧fbF f=x:=by
  rw[h.find] at hf
  cases hq:q0G FM.nm nm σ.L with
  |none=>rw[hq] at hf;cases hf
  |some f=>rw[hq] at hf;exact ⟨f,rfl,Option.some.inj hf⟩
theorem Pl.find_none (h:Pl σ c s l) (hf:q0G Prod.fst nm l=none):q0G FM.nm nm σ.L=none:=by
  rw[h.find] at hf
  cases hq:q0G FM.nm nm σ.L with
  |none=>rfl
  |some f=>rw[hq] at hf;cases hf
theorem Pl.ord (h:Pl σ c s l) (ho:okD σ):q2x Prod.fst l:=by rw[←h.files];exact (z0t q7k).2 ho.ord
theorem Pl.names (h:Pl σ c s l):q1V σ=l.map Prod.fst:=by rw[←h.files,List.map_map];rfl
theorem Pl.no (h:Pl σ c s l):q1s σ=false:=by unfold q1s;rw[h.fine];rfl
theorem Pl.tell (h:Pl σ c s l):Pl (q2H σ) c s l:=⟨h.up,h.fine,h.files,h.cap,h.st⟩
theorem Pl.size (h:Pl σ c s l) (hf:q0G Prod.fst nm l=some x):q1P σ nm=((x.2.length:Int),0):=by
  obtain ⟨f,h1,rfl⟩:=h.find_some hf
  unfold q1P
  rw[if_neg (by rw[h.up];decide),h1]
  rfl
theorem Pl.sizeN (h:Pl σ c s l) (hf:q0G Prod.fst nm l=none):q1P σ nm=(0,4):=by
  unfold q1P
  rw[if_neg (by rw[h.up];decide),h.find_none hf]
theorem Pl.read (h:Pl σ c s l) (hf:q0G Prod.fst nm l=some x) (a n:Int) (ha:0≤a) (hn:0≤n) (hl:a+n≤(x.2.length:Int)):q1X σ nm a n=((x.2.drop a.toNat).take n.toNat,0,q2H σ):=by
  obtain ⟨f,h1,rfl⟩:=h.find_some hf
  unfold q1X
  rw[if_neg (by rw[h.up];decide),h1]
  show (if 0≤a∧0≤n∧a≤(f.da.length:Int)∧n≤(f.da.length:Int)-a then _ else _)=_
  have e:(fbF f).2=f.da:=rfl
  rw[e] at hl
  rw[if_pos (by omega)]
  rfl
theorem Pl.append (h:Pl σ c s l) (hf:q0G Prod.fst nm l=some x) (hr:(t.length:Int)≤c-(q2F l:Int)): ∃σ',q1w σ nm t=(0,σ')∧Pl σ' c s (q1I Prod.fst nm (fun x=>(x.1,x.2++t)) l):=by
  obtain ⟨f,h1,rfl⟩:=h.find_some hf
  refine ⟨q2S (q7m σ nm t),?_,?_⟩
  · unfold q1w
    rw[if_neg (by rw[h.up];decide),h1,if_neg (by simp),if_neg (by rw[h.cap,h.used];omega),if_neg (by rw[h.no];decide)]
  · exact ⟨h.up,h.fine,by rw[←h.files];exact z2k (k:=FM.nm) (k':=Prod.fst) q7k nm (fun f=>{f with da:=f.da++t}) (fun x=>(x.1,x.2++t)) (fun _=>rfl) σ.L,h.cap,h.st⟩
theorem Pl.sync (h:Pl σ c s l) (hf:q0G Prod.fst nm l=some x): ∃σ',q6A σ nm=(0,σ')∧Pl σ' c s l:=by
  obtain ⟨f,h1,rfl⟩:=h.find_some hf
  refine ⟨{q2S σ with L:=q1I FM.nm nm (fun f=>{f with sy:=f.da.length}) σ.L},?_,?_⟩
  · unfold q6A
    rw[if_neg (by rw[h.up];decide),h1,if_neg (by simp),if_neg (by rw[h.no];decide)]
  · refine ⟨h.up,h.fine,?_,h.cap,h.st⟩
    rw[←h.files]
    show (q1I FM.nm nm _ σ.L).map fbF=_
    rw[z2k (k:=FM.nm) (k':=Prod.fst) q7k nm (fun f=>{f with sy:=f.da.length}) id (fun _=>rfl) σ.L]
    unfold q1I
    conv=>rhs;rw[←List.map_id (σ.L.map fbF)]
    exact List.map_congr_left fun y _=>by split<;>rfl
theorem Pl.create (h:Pl σ c s l) (hf:q0G Prod.fst nm l=none) (hk:q3i nm=true) (hm:l.length<400): ∃σ',q1r σ nm=(0,σ')∧Pl σ' c s (q3b Prod.fst (nm,[]) l):=by
  refine ⟨{q2S σ with L:=q3b FM.nm ⟨nm,[],0⟩ σ.L},?_,?_⟩
  · unfold q1r
    have e:σ.L.length=l.length:=by rw[←h.files,List.length_map]
    rw[if_neg (by rw[h.up];decide),if_neg (by rw[hk];decide),h.find_none hf,if_neg (by simp),if_neg (by omega),if_neg (by rw[h.no];decide)]
  · refine ⟨h.up,h.fine,?_,h.cap,h.st⟩
    rw[←h.files]
    exact q8L (k:=FM.nm) (k':=Prod.fst) q7k ⟨nm,[],0⟩ σ.L
end
section
variable {α :Type} {k:α→List UInt8}
theorem q4L (nm:List UInt8) (f:α→α) (a b:List α):q1I k nm f (a++b)=q1I k nm f a++q1I k nm f b:=by unfold q1I;simp
theorem q2j {nm:List UInt8} {f:α→α} {l:List α} (h: ∀y∈l,k y≠nm):q1I k nm f l=l:=q5F (q0T h)
theorem q0W {nm:List UInt8} {a b:List α} (h: ∀y∈a,k y≠nm):q0G k nm (a++b)=q0G k nm b:=by
  unfold q0G
  rw[List.find?_append]
  have:List.find? (fun y=>k y==nm) a=none:=q0T h
  rw[this];rfl
end
end Go.Proofs.YtjjfiejoeelndaaGreatDoor
