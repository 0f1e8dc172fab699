/- Plain laws: files of a disk, in the order of their names. Plain laws: a crash of a disk, file by file. Plain laws: each change leaves a disk that may be. Plain laws: a disk that is well, by its files' names and bytes. -/
import Derived.Sort.KeysCollected
import Derived.Lib.Hide
set_option linter.unusedVariables false
set_option linter.unusedSimpArgs false
namespace Go.Proofs.YtjjfiejoeelndaaGreatDoor
open Go.RowKit
theorem q4d : ∀a b:List UInt8,bytesBefore a b=decide (a<b)
  |[],[]=>by simp[bytesBefore]
  |[],b::s=>by simp[bytesBefore]
  |a::r,[]=>by simp[bytesBefore]
  | a::r,b::s=>by
    unfold bytesBefore
    rw[q4d r s,Bool.eq_iff_iff]
    simp[List.cons_lt_cons_iff]
section gen
variable {α β:Type} (k:α→List UInt8)
def q3d (x:α):List α→List α
  |[]=>[x]
  |y::r=>if bytesBefore (k x) (k y) then x::y::r else y::q3d x r
def q2g (nm:List UInt8) (l:List α):List α:=l.filter fun y=>!(k y==nm)
def q1K (nm:List UInt8) (f:α→α) (l:List α):List α:=l.map fun y=>if k y==nm then f y else y
def q0G (nm:List UInt8) (l:List α):Option α:=l.find? fun y=>k y==nm
def q3D (l:List α):Prop:=l.Pairwise fun x y=>bytesBefore (k x) (k y)=true
variable {k}
theorem q4B (x:α): ∀l:List α,(q3d k x l).Perm (x::l)
  |[]=>List.Perm.refl _
  | y::r=>by
    unfold q3d
    split
    · exact List.Perm.refl _
    · exact (List.Perm.cons y (q4B x r)).trans (List.Perm.swap x y r)
theorem mem_insN {x y:α} {l:List α}:y∈q3d k x l↔y=x∨y∈l:=by rw[(q4B x l).mem_iff];simp
theorem z0r (x:α) (l:List α):(q3d k x l).length=l.length+1:=by rw[(q4B x l).length_eq];rfl
theorem q8V {x:α}: ∀{l:List α},q3D k l→(∀y∈l,k y≠k x)→q3D k (q3d k x l)
  |[],_,_=>by simp[q3D,q3d]
  | y :: r,h,hne=>by
    obtain ⟨h1,h2⟩:=List.pairwise_cons.1 h
    unfold q3d
    split
    · rename_i hb
      refine List.pairwise_cons.2 ⟨fun z hz=>?_,h⟩
      rcases List.mem_cons.1 hz with rfl|hz
      · exact hb
      · exact WideShapes.bytes_trans _ _ _ hb (h1 z hz)
    · rename_i hb
      have hyx:bytesBefore (k y) (k x)=true:=by
        rcases WideAt.bytes_total _ _ (hne y (List.mem_cons_self)) with h|h
        · exact h
        · exact absurd h hb
      refine List.pairwise_cons.2 ⟨fun z hz=>?_,q8V h2 fun z hz=>hne z (List.mem_cons_of_mem _ hz)⟩
      rcases mem_insN.1 hz with rfl|hz
      · exact hyx
      · exact h1 z hz
theorem q9I {nm:List UInt8} {l:List α} (h:q3D k l):q3D k (q2g k nm l):=h.filter _
theorem mem_delN {nm:List UInt8} {x:α} {l:List α}:x∈q2g k nm l↔x∈l∧k x≠nm:=by simp[q2g,List.mem_filter]
theorem q9E {nm:List UInt8} {f:α→α} {l:List α} (h:q3D k l) (hf: ∀y,k y=nm→k (f y)=nm):q3D k (q1K k nm f l):=by
  refine List.pairwise_map.2 (h.imp fun {x y} hxy=>?_)
  have e: ∀z,k (if k z==nm then f z else z)=k z:=fun z=>by
    split
    · rename_i hz
      have hz':k z=nm:=by simpa using hz
      rw[hf z hz',hz']
    · rfl
  rw[e,e];exact hxy
theorem q7W {nm:List UInt8} {f:α→α} (l:List α):(q1K k nm f l).length=l.length:=by simp[q1K]
theorem q0N {nm:List UInt8} {l:List α} {e:α} (h:q0G k nm l=some e):e∈l∧k e=nm:=⟨List.mem_of_find?_eq_some h,by simpa using List.find?_some h⟩
theorem q1q {nm:List UInt8} {l:List α} (h:q0G k nm l=none): ∀y∈l,k y≠nm:=fun y hy=>by simpa using List.find?_eq_none.1 h y hy
theorem q0U {nm:List UInt8} {l:List α} (h: ∀y∈l,k y≠nm):q0G k nm l=none:=List.find?_eq_none.2 fun y hy=>by simpa using h y hy
theorem q9h {l:List α} (h:q3D k l):l.Pairwise fun x y=>k x≠k y:=h.imp fun {x y} hxy e=>by rw[e,WideAt.bytes_irrefl] at hxy;cases hxy
theorem q5e {l:List α} (h:q3D k l) {x y:α} (hx:x∈l) (hy:y∈l) (e:k x=k y):x=y:=by
  have hp:=q9h h
  clear h
  induction l with
  |nil=>cases hx
  | cons a r ih=>
    obtain ⟨h1,h2⟩:=List.pairwise_cons.1 hp
    rcases List.mem_cons.1 hx with ex|hx'<;>rcases List.mem_cons.1 hy with ey|hy'
    · rw[ex,ey]
    · subst ex;exact absurd e (h1 y hy')
    · subst ey;exact absurd e.symm (h1 x hx')
    · exact ih hx' hy' h2
theorem q5U {nm:List UInt8} {l:List α} (h:q3D k l) {e:α} (he:e∈l) (hn:k e=nm):q0G k nm l=some e:=by
  cases hf:q0G k nm l with
  |none=>exact absurd hn (q1q hf e he)
  |some e'=>obtain ⟨h1,h2⟩:=q0N hf;rw[q5e h h1 he (h2.trans hn.symm)]
theorem q5a {nm:List UInt8} {l:List α} (h:q0G k nm l=none):q2g k nm l=l:=List.filter_eq_self.2 fun y hy=>by simpa using q1q h y hy
theorem q5P {nm:List UInt8} {f:α→α} {l:List α} (h:q0G k nm l=none):q1K k nm f l=l:=by
  unfold q1K
  conv=>rhs;rw[←List.map_id l]
  exact List.map_congr_left fun y hy=>by rw[if_neg (by simpa using q1q h y hy)];rfl
theorem q4V {nm:List UInt8} {f:α→α} {l:List α} (h:q3D k l) {e:α} (hf:q0G k nm l=some e) {y:α}:y∈q1K k nm f l↔y=f e∨(y∈l∧k y≠nm):=by
  obtain ⟨h1,h2⟩:=q0N hf
  unfold q1K
  rw[List.mem_map]
  constructor
  · rintro ⟨z,hz,rfl⟩
    by_cases hn:k z=nm
    · obtain rfl:=q5e h hz h1 (hn.trans h2.symm)
      left;rw[if_pos (by simpa using hn)]
    · right;rw[if_neg (by simpa using hn)];exact ⟨hz,hn⟩
  · rintro (rfl|⟨hy,hn⟩)
    · exact ⟨e,h1,by rw[if_pos (by simpa using h2)]⟩
    · exact ⟨y,hy,by rw[if_neg (by simpa using hn)]⟩
theorem q8q {S:α→α→Prop} {nm:List UInt8} {f:α→α} {l:List α} (h:q3D k l) (hS:l.Pairwise S) {e:α} (hf:q0G k nm l=some e) (h1: ∀y∈l,k y≠nm→S (f e) y∧S y (f e)):(q1K k nm f l).Pairwise S:=by
  obtain ⟨he,hen⟩:=q0N hf
  refine List.pairwise_map.2 ((hS.and (q9h h)).imp_of_mem fun {x y} hx hy ⟨hs,hne⟩=>?_)
  by_cases hxn:k x=nm
  · have hyn:k y≠nm:=fun e=>hne (hxn.trans e.symm)
    obtain rfl:=q5e h hx he (hxn.trans hen.symm)
    rw[if_pos (by simpa using hxn),if_neg (by simpa using hyn)]
    exact (h1 y hy hyn).1
  · rw [if_neg (by simpa using hxn)]
    by_cases hyn:k y=nm
    · obtain rfl:=q5e h hy he (hyn.trans hen.symm)
      rw[if_pos (by simpa using hyn)]
      exact (h1 x hx hxn).2
    · rw[if_neg (by simpa using hyn)];exact hs
section map
variable {k' :β→List UInt8} {h:α→β} (hk: ∀x,k' (h x)=k x)
include hk
theorem q8h (x:α): ∀l:List α,(q3d k x l).map h=q3d k' (h x) (l.map h)
  |[]=>rfl
  | y::r=>by
    unfold q3d
    simp only[List.map_cons,hk]
    split
    · rfl
    · rw[List.map_cons,q8h x r]
theorem z2A (nm:List UInt8) (l:List α):(q2g k nm l).map h=q2g k' nm (l.map h):=by
  unfold q2g;rw[List.filter_map];congr 1;exact List.filter_congr fun y _=>by simp[hk]
theorem z2d (nm:List UInt8) (f:α→α) (g:β→β) (hf: ∀y,h (f y)=g (h y)) (l:List α):(q1K k nm f l).map h=q1K k' nm g (l.map h):=by
  unfold q1K;rw[List.map_map,List.map_map];refine List.map_congr_left fun y _=>?_
  simp only[Function.comp,hk];split<;>simp[hf]
theorem z6F {nm:List UInt8} {f:α→α} {g:β→β} {l:List α} (ho:q3D k l) {e:α} (hf:q0G k nm l=some e) (hfe:h (f e)=g (h e)):(q1K k nm f l).map h=q1K k' nm g (l.map h):=by
  obtain ⟨he,hen⟩:=q0N hf
  unfold q1K;rw[List.map_map,List.map_map];refine List.map_congr_left fun y hy=>?_
  simp only[Function.comp,hk]
  split
  · rename_i hz
    have hz':k y=nm:=by simpa using hz
    rw[q5e ho hy he (hz'.trans hen.symm)];exact hfe
  · rfl
theorem q1g (nm:List UInt8) (l:List α):q0G k' nm (l.map h)=(q0G k nm l).map h:=by
  unfold q0G;rw[List.find?_map];congr 2;funext y;simp[hk]
theorem z1q {l:List α}:q3D k' (l.map h)↔q3D k l:=by
  unfold q3D;rw[List.pairwise_map];simp only[hk]
end map
def q5c (s:α→Nat) (l:List α):Nat:=(l.map s).sum
theorem z7p (s:α→Nat) (x:α) (l:List α):q5c s (q3d k x l)=s x+q5c s l:=by
  unfold q5c;rw[((q4B x l).map s).sum_nat];simp
theorem z2S (s:α→Nat) {nm:List UInt8}: ∀{l:List α},q3D k l→ ∀{e:α},q0G k nm l=some e→q5c s (q2g k nm l)+s e=q5c s l
  |[],_,_,hf=>by simp[q0G] at hf
  | a :: r,h,e,hf=>by
    obtain ⟨h1,h2⟩:=List.pairwise_cons.1 h
    by_cases ha:k a=nm
    · have e1:a=e:=by unfold q0G at hf;rw[List.find?_cons_of_pos (by simpa using ha)] at hf;exact Option.some.inj hf
      subst e1
      have e2:q2g k nm (a::r)=r:=by
        unfold q2g
        rw[List.filter_cons_of_neg (by simp[ha])]
        refine List.filter_eq_self.2 fun y hy=>?_
        have:=h1 y hy
        simp only[Bool.not_eq_true',beq_eq_false_iff_ne]
        intro e3
        rw[e3,←ha,WideAt.bytes_irrefl] at this
        cases this
      rw[e2];simp[q5c];omega
    · have hf2:q0G k nm r=some e:=by unfold q0G at hf⊢;rwa [List.find?_cons_of_neg (by simpa using ha)] at hf
      have ih:=z2S s h2 hf2
      have e2:q2g k nm (a::r)=a::q2g k nm r:=by unfold q2g;rw[List.filter_cons_of_pos (by simpa using ha)]
      rw[e2];simp only[q5c,List.map_cons,List.sum_cons] at ih⊢;omega
theorem q6Y (s:α→Nat) {nm:List UInt8} {f:α→α}: ∀{l:List α},q3D k l→ ∀{e:α},q0G k nm l=some e→q5c s (q1K k nm f l)+s e=q5c s l+s (f e)
  |[],_,_,hf=>by simp[q0G] at hf
  | a ::r,h,e,hf=>by
    obtain ⟨h1,h2⟩:=List.pairwise_cons.1 h
    by_cases ha:k a=nm
    · have e1:a=e:=by unfold q0G at hf;rw[List.find?_cons_of_pos (by simpa using ha)] at hf;exact Option.some.inj hf
      subst e1
      have e2:q1K k nm f r=r:=q5P (q0U fun y hy e3=>by have:=h1 y hy;rw[e3,←ha,WideAt.bytes_irrefl] at this;cases this)
      have e3:q1K k nm f (a::r)=f a::q1K k nm f r:=by unfold q1K;rw[List.map_cons,if_pos (by simpa using ha)]
      rw[e3,e2];simp[q5c];omega
    · have hf2:q0G k nm r=some e:=by unfold q0G at hf⊢;rwa [List.find?_cons_of_neg (by simpa using ha)] at hf
      have ih:=q6Y s (f:=f) h2 hf2
      have e2:q1K k nm f (a::r)=a::q1K k nm f r:=by unfold q1K;rw[List.map_cons,if_neg (by simpa using ha)]
      rw[e2];simp only[q5c,List.map_cons,List.sum_cons] at ih⊢;omega
theorem q6Z (s:α→Nat): ∀{l:List α} {e:α},e∈l→s e≤q5c s l
  | a::r,e,h=>by
    rcases List.mem_cons.1 h with rfl|h
    · simp[q5c]
    · have:=q6Z s h;simp only[q5c,List.map_cons,List.sum_cons] at this⊢;omega
end gen
structure FM where
  nm:List UInt8
  da:List UInt8
  sy:Nat
structure DM where
  cap:Int
  L:List FM
  reads:Int
  starts:Int
  down:Bool
  fail:Bool
  left:Int
  keep:List Int
def q0O (L:List FM):Nat:=q5c (fun f=>f.da.length) L
def q3n (nm:List UInt8):Bool:=!nm.isEmpty&&decide (nm.length≤12)
structure okD (σ:DM):Prop where
  cap0:0≤σ.cap
  cap1:σ.cap≤1048576
  used:(q0O σ.L:Int)≤σ.cap
  ord:q3D FM.nm σ.L
  sy: ∀f∈σ.L,f.sy≤f.da.length
  many:σ.L.length≤400
  left:0≤σ.left
  idle:σ.fail=false→σ.left=0
  keep:σ.keep.length≤1000000
  left1:σ.left≤9223372036854775807
def q2C (σ:DM):Bool:=σ.fail&&decide (σ.left=0)
def q2Q (σ:DM):DM:={σ with left:=max (σ.left-1) 0}
def q3o (f:FM) (more:Int):FM:={f with da:=f.da.take (f.sy+min (max more 0).toNat (f.da.length-f.sy)),sy:=f.sy+min (max more 0).toNat (f.da.length-f.sy)}
def q1X :List FM→List Int→List FM
  |[],_=>[]
  |f::r,ks=>q3o f (ks.headD 0)::q1X r ks.tail
def z2O (σ:DM) (ks:List Int):DM:={σ with L:=q1X σ.L ks,down:=true,fail:=false,left:=0,keep:=[]}
def q4v (σ:DM):DM:=z2O σ σ.keep
def q2A (σ:DM) (nm:List UInt8):Int×DM:=
  if σ.down then (61,σ) else if !q3n nm then (2,σ) else if (q0G FM.nm nm σ.L).isSome then (62,σ) else if 400≤σ.L.length then (60,σ)
  else if q2C σ then (61,q4v σ) else (0,{q2Q σ with L:=q3d FM.nm ⟨nm,[],0⟩ σ.L})
def q8B (σ:DM) (nm s:List UInt8):DM:={σ with L:=q1K FM.nm nm (fun f=>{f with da:=f.da++s}) σ.L}
def q1s (σ:DM) (nm s:List UInt8):Int×DM:=
  if σ.down then (61,σ) else if (q0G FM.nm nm σ.L).isNone then (4,σ) else if σ.cap-(q0O σ.L:Int)<(s.length:Int) then (60,σ)
  else if q2C σ then (61,q4v (q8B σ nm s)) else (0,q2Q (q8B σ nm s))
def q2M (σ:DM):DM:={σ with reads:=wrap64 (σ.reads+1)}
def q1Y (σ:DM) (nm:List UInt8) (at_ n:Int):List UInt8×Int×DM:=
  if σ.down then ([],61,σ) else match q0G FM.nm nm σ.L with
  |none=>([],4,q2M σ)
  |some f=>if 0≤at_∧0≤n∧at_≤(f.da.length:Int)∧n≤(f.da.length:Int)-at_ then ((f.da.drop at_.toNat).take n.toNat,0,q2M σ) else ([],2,q2M σ)
def q6M (σ:DM) (nm:List UInt8):Int×DM:=
  if σ.down then (61,σ) else if (q0G FM.nm nm σ.L).isNone then (4,σ) else if q2C σ then (61,q4v σ)
  else (0,{q2Q σ with L:=q1K FM.nm nm (fun f=>{f with sy:=f.da.length}) σ.L})
def q1Q (σ:DM) (nm:List UInt8):Int×DM:=
  if σ.down then (61,σ) else if (q0G FM.nm nm σ.L).isNone then (4,σ) else if q2C σ then (61,q4v σ) else (0,{q2Q σ with L:=q2g FM.nm nm σ.L})
def q1U (σ:DM) (nm:List UInt8):Int×Int:=
  if σ.down then (0,61) else match q0G FM.nm nm σ.L with|none=>(0,4)|some f=>((f.da.length:Int),0)
def q1V (σ:DM):List (List UInt8):=σ.L.map FM.nm
def z1r (σ:DM):Int:=σ.cap-(q0O σ.L:Int)
def q5H (n:Nat) (f:FM):FM:={f with da:=f.da.take n,sy:=min f.sy (min n f.da.length)}
end Go.Proofs.YtjjfiejoeelndaaGreatDoor
namespace Go.Proofs.YtjjfiejoeelndaaGreatDoor
open Go.RowKit
def q4I (L:List FM) (xs:List Int) (i:Nat):List FM:=q1X (L.take i) xs++L.drop i
theorem q5Y : ∀(L:List FM) (xs:List Int),(q1X L xs).length=L.length
  |[],_=>rfl
  |f::r,xs=>by simp[q1X,q5Y r]
theorem z5Q (f:FM) (x:Int):(q3o f x).nm=f.nm:=rfl
theorem q6s : ∀(L:List FM) (xs:List Int),(q1X L xs).map FM.nm=L.map FM.nm
  |[],_=>rfl
  |f::r,xs=>by simp[q1X,q6s r,z5Q]
theorem z5h (L:List FM) (xs:List Int):q4I L xs 0=L:=by simp[q4I,q1X]
theorem z7f (L:List FM) (xs:List Int):q4I L xs L.length=q1X L xs:=by simp[q4I]
theorem z1o (L:List FM) (xs:List Int) (i:Nat):(q4I L xs i).map FM.nm=L.map FM.nm:=by
  unfold q4I;rw[List.map_append,q6s,←List.map_append,List.take_append_drop]
theorem z2g {L L':List FM} (h:q3D FM.nm L) (e:L'.map FM.nm=L.map FM.nm):q3D FM.nm L':=by
  have h1:q3D (fun x:List UInt8=>x) (L.map FM.nm):=(z1q (k:=FM.nm) (h:=FM.nm) fun x=>rfl).2 h
  rw[←e] at h1
  exact (z1q (k:=FM.nm) (h:=FM.nm) fun x=>rfl).1 h1
theorem z4s (xs:List Int) (i:Nat):xs.tail.getD i 0=xs.getD (i+1) 0:=by
  cases xs<;>simp[List.getD_eq_getElem?_getD]
theorem z3u (xs:List Int):xs.headD 0=xs.getD 0 0:=by cases xs<;>simp
theorem q7T : ∀(l:List FM) (f:FM) (xs:List Int),q1X (l++[f]) xs=q1X l xs++[q3o f (xs.getD l.length 0)]
  |[],f,xs=>by simp only[List.nil_append,q1X,List.length_nil,z3u]
  | a::r,f,xs=>by
    rw[List.cons_append,q1X,q1X,q7T r f xs.tail,z4s]
    rfl
theorem z1I {nm:List UInt8} {h:FM→FM} {a c:List FM} {f:FM} (hf:f.nm=nm) (ho:q3D FM.nm (a++f::c)):q1K FM.nm nm h (a++f::c)=a++h f::c:=by
  have hne:=q9h ho
  rw[List.pairwise_append] at hne
  obtain ⟨_,h2,h3⟩:=hne
  have ha:q1K FM.nm nm h a=a:=q5P (q0U fun y hy e=>h3 y hy f (by simp) (e.trans hf.symm))
  have hc:q1K FM.nm nm h c=c:=q5P (q0U fun y hy e=>(List.pairwise_cons.1 h2).1 y hy (hf.trans e.symm))
  unfold q1K at ha hc⊢
  rw[List.map_append,List.map_cons,ha,hc,if_pos (by simpa using hf)]
theorem q9n {L:List FM} (xs:List Int) {i:Nat} (hi:i<L.length) (ho:q3D FM.nm L):
    q0G FM.nm L[i].nm (q4I L xs i)=some L[i]∧ ∀h:FM→FM,h L[i]=q3o L[i] (xs.getD i 0)→q1K FM.nm L[i].nm h (q4I L xs i)=q4I L xs (i+1):=by
  have e1:q4I L xs i=q1X (L.take i) xs++L[i]::L.drop (i+1):=by unfold q4I;rw[List.drop_eq_getElem_cons hi]
  have o1:q3D FM.nm (q4I L xs i):=z2g ho (z1o L xs i)
  have hm:L[i]∈q4I L xs i:=by rw[e1];exact List.mem_append_right _ List.mem_cons_self
  refine ⟨q5U o1 hm rfl,fun h hh=>?_⟩
  rw[e1] at o1⊢
  rw[z1I rfl o1,hh]
  unfold q4I
  rw[List.take_succ_eq_append_getElem hi,q7T,List.length_take,Nat.min_eq_left (Nat.le_of_lt hi)]
  simp
theorem z3c {nm:List UInt8} {h h':FM→FM} {L:List FM} (hk: ∀y,(h y).nm=y.nm):q1K FM.nm nm h' (q1K FM.nm nm h L)=q1K FM.nm nm (fun y=>h' (h y)) L:=by
  unfold q1K
  rw[List.map_map]
  refine List.map_congr_left fun y _=>?_
  simp only[Function.comp]
  by_cases e:(y.nm==nm)=true
  · rw[if_pos e,if_pos (by rw[hk];exact e),if_pos e]
  · rw[if_neg e,if_neg e,if_neg e]
theorem z5w (f:FM) (x:Int):(q3o f x).da.length≤f.da.length:=by simp[q3o];omega
theorem z4a (f:FM) (x:Int) (h:f.sy≤f.da.length):(q3o f x).sy=(q3o f x).da.length:=by simp[q3o];omega
theorem q7Q : ∀(L:List FM) (xs:List Int),q0O (q1X L xs)≤q0O L
  |[],_=>Nat.le_refl _
  | f::r,xs=>by
    have:=q7Q r xs.tail
    have:=z5w f (xs.headD 0)
    unfold q0O q5c at*
    simp only[q1X,List.map_cons,List.sum_cons]
    omega
theorem q5y (a b:List FM):q0O (a++b)=q0O a+q0O b:=by simp[q0O,q5c]
theorem z3X (L:List FM) (xs:List Int) (i:Nat):q0O (q4I L xs i)≤q0O L:=by
  unfold q4I
  have e:q0O L=q0O (L.take i)+q0O (L.drop i):=by rw[←q5y,List.take_append_drop]
  rw[q5y,e]
  have:=q7Q (L.take i) xs
  omega
theorem z0T : ∀(L:List FM) (xs:List Int),(∀f∈L,f.sy≤f.da.length)→ ∀f∈q1X L xs,f.sy=f.da.length
  |[],_,_=>by simp[q1X]
  | a::r,xs,h=>by
    intro f hf
    rw[q1X] at hf
    rcases List.mem_cons.1 hf with rfl|hf
    · exact z4a _ _ (h a (by simp))
    · exact z0T r xs.tail (fun g hg=>h g (by simp[hg])) f hf
theorem z7b {σ:DM} (h:okD σ) (xs:List Int):okD (z2O σ xs):=by
  refine ⟨h.cap0,h.cap1,?_,z2g h.ord (q6s _ _),fun f hf=>Nat.le_of_eq (z0T _ _ h.sy f hf),?_,Int.le_refl _,fun _=>rfl,Nat.zero_le _,by show (0:Int)≤_;decide⟩
  · have:=h.used
    have:=q7Q σ.L xs
    show (q0O (q1X σ.L xs):Int)≤σ.cap
    omega
  · show (q1X σ.L xs).length≤400
    rw[q5Y];exact h.many
end Go.Proofs.YtjjfiejoeelndaaGreatDoor
namespace Go.Proofs.YtjjfiejoeelndaaGreatDoor
open Go.RowKit
theorem z0G {L:List FM} {nm:List UInt8} {f:FM→FM} (ho:q3D FM.nm L) {e:FM} (hf:q0G FM.nm nm L=some e):q0O (q1K FM.nm nm f L)+e.da.length=q0O L+(f e).da.length:=q6Y _ ho hf
theorem q9b {L:List FM} {nm:List UInt8} (ho:q3D FM.nm L) {e:FM} (hf:q0G FM.nm nm L=some e):q0O (q2g FM.nm nm L)+e.da.length=q0O L:=z2S _ ho hf
theorem q9Y (x:FM) (L:List FM):q0O (q3d FM.nm x L)=x.da.length+q0O L:=z7p _ x L
theorem q6t {L:List FM} {e:FM} (h:e∈L):e.da.length≤q0O L:=q6Z (fun f:FM=>f.da.length) h
theorem okD.tick {σ:DM} (h:okD σ):okD (q2Q σ):=
  ⟨h.cap0,h.cap1,h.used,h.ord,h.sy,h.many,(by show 0≤max (σ.left-1) 0;omega),(fun hf=>by have:=h.idle hf;show max (σ.left-1) 0=0;omega),h.keep,by have:=h.left1;show max (σ.left-1) 0≤_;omega⟩
theorem okD.sink {σ:DM} (h:okD σ):okD (q4v σ):=z7b h _
theorem okD.files {σ:DM} (h:okD σ) {L:List FM} (hu:(q0O L:Int)≤σ.cap) (ho:q3D FM.nm L) (hs: ∀f∈L,f.sy≤f.da.length) (hm:L.length≤400):okD {σ with L:=L}:=
  ⟨h.cap0,h.cap1,hu,ho,hs,hm,h.left,h.idle,h.keep,h.left1⟩
theorem okD.upd {σ:DM} (h:okD σ) {nm:List UInt8} {f:FM→FM} {e:FM} (hf:q0G FM.nm nm σ.L=some e) (hu:(q0O (q1K FM.nm nm f σ.L):Int)≤σ.cap) (hn: ∀y,(f y).nm=y.nm) (hs:(f e).sy≤(f e).da.length):okD {σ with L:=q1K FM.nm nm f σ.L}:=by
  refine h.files hu (q9E h.ord fun y hy=>by rw[hn,hy]) (fun y hy=>?_) (by rw[q7W];exact h.many)
  rcases (q4V h.ord hf).1 hy with rfl|⟨hy,_⟩
  · exact hs
  · exact h.sy y hy
theorem okD.app {σ:DM} (h:okD σ) {nm s:List UInt8} {e:FM} (hf:q0G FM.nm nm σ.L=some e) (hu:(q0O σ.L:Int)+s.length≤σ.cap):okD (q8B σ nm s)∧q0O (q8B σ nm s).L=q0O σ.L+s.length:=by
  have h1:=z0G (f:=fun f:FM=>{f with da:=f.da++s}) h.ord hf
  have h2:=h.sy e (q0N hf).1
  have h3:({e with da:=e.da++s}:FM).da.length=e.da.length+s.length:=List.length_append
  have h4:q0O (q1K FM.nm nm (fun f:FM=>{f with da:=f.da++s}) σ.L)=q0O σ.L+s.length:=by omega
  exact ⟨h.upd hf (by rw[h4];omega) (fun y=>rfl) (by show e.sy≤(e.da++s).length;rw[List.length_append];omega),h4⟩
theorem okD.create {σ:DM} (h:okD σ) {nm:List UInt8} (hno:q0G FM.nm nm σ.L=none) (hm:σ.L.length<400):okD {σ with L:=q3d FM.nm ⟨nm,[],0⟩ σ.L}:=by
  refine h.files (by rw[q9Y];have:=h.used;simpa using this) (q8V h.ord (q1q hno)) (fun f hf=>?_) (by rw[z0r];omega)
  rcases mem_insN.1 hf with rfl|hf
  · exact Nat.le_refl _
  · exact h.sy f hf
theorem okD.tell {σ:DM} (h:okD σ):okD (q2M σ):=⟨h.cap0,h.cap1,h.used,h.ord,h.sy,h.many,h.left,h.idle,h.keep,h.left1⟩
theorem okD.sync {σ:DM} (h:okD σ) {nm:List UInt8} {e:FM} (hf:q0G FM.nm nm σ.L=some e):okD {σ with L:=q1K FM.nm nm (fun f=>{f with sy:=f.da.length}) σ.L}∧q0O (q1K FM.nm nm (fun f=>{f with sy:=f.da.length}) σ.L)=q0O σ.L:=by
  have h1:=z0G (f:=fun f:FM=>{f with sy:=f.da.length}) h.ord hf
  have h4:q0O (q1K FM.nm nm (fun f:FM=>{f with sy:=f.da.length}) σ.L)=q0O σ.L:=by
    have:({e with sy:=e.da.length}:FM).da.length=e.da.length:=rfl
    omega
  exact ⟨h.upd hf (by rw[h4];exact h.used) (fun y=>rfl) (Nat.le_refl _),h4⟩
theorem z9G (nm:List UInt8) (L:List FM):(q2g FM.nm nm L).length≤L.length:=List.length_filter_le _ _
theorem q9s {L:List FM} (nm:List UInt8) (ho:q3D FM.nm L):q0O (q2g FM.nm nm L)≤q0O L:=by
  cases hf:q0G FM.nm nm L with
  |none=>rw[q5a hf];exact Nat.le_refl _
  |some e=>have:=q9b ho hf;omega
theorem okD.delete {σ:DM} (h:okD σ) (nm:List UInt8):okD {σ with L:=q2g FM.nm nm σ.L}:=
  h.files (by have:=q9s nm h.ord;have:=h.used;omega) (q9I h.ord) (fun f hf=>h.sy f (mem_delN.1 hf).1) (by have:=z9G nm σ.L;have:=h.many;omega)
end Go.Proofs.YtjjfiejoeelndaaGreatDoor
namespace Go.Proofs.YtjjfiejoeelndaaGreatDoor
open Go.RowKit
def fbF (f:FM):List UInt8×List UInt8:=(f.nm,f.da)
structure Pl (σ:DM) (c s:Int) (l:List (List UInt8×List UInt8)):Prop where
  up:σ.down=false
  fine:σ.fail=false
  files:σ.L.map fbF=l
  cap:σ.cap=c
  st:σ.starts=s
def q2G (l:List (List UInt8×List UInt8)):Nat:=q5c (fun x:List UInt8×List UInt8=>x.2.length) l
section
variable {σ :DM} {c s:Int} {l:List (List UInt8×List UInt8)} {nm t:List UInt8} {x:List UInt8×List UInt8}
theorem q8T : ∀f:FM,Prod.fst (fbF f)=FM.nm f:=fun _=>rfl
theorem Pl.used (h:Pl σ c s l):q0O σ.L=q2G l:=by
  unfold q0O q2G q5c
  rw[←h.files,List.map_map]
  rfl
theorem Pl.free (h:Pl σ c s l):z1r σ=c-(q2G l:Int):=by unfold z1r;rw[h.cap,h.used]
theorem Pl.find (h:Pl σ c s l) (nm:List UInt8):q0G Prod.fst nm l=(q0G FM.nm nm σ.L).map fbF:=by rw[←h.files];exact q1g q8T nm σ.L
theorem Pl.find_some (h:Pl σ c s l) (hf:q0G Prod.fst nm l=some x): ∃f,q0G FM.nm nm σ.L=some f∧fbF f=x:=by
  rw[h.find] at hf
  cases hq:q0G FM.nm nm σ.L with
  |none=>rw[hq] at hf;cases hf
  |some f=>rw[hq] at hf;exact ⟨f,rfl,Option.some.inj hf⟩
theorem Pl.find_none (h:Pl σ c s l) (hf:q0G Prod.fst nm l=none):q0G FM.nm nm σ.L=none:=by
  rw[h.find] at hf
  cases hq:q0G FM.nm nm σ.L with
  |none=>rfl
  |some f=>rw[hq] at hf;cases hf
theorem Pl.ord (h:Pl σ c s l) (ho:okD σ):q3D Prod.fst l:=by rw[←h.files];exact (z1q q8T).2 ho.ord
theorem Pl.names (h:Pl σ c s l):q1V σ=l.map Prod.fst:=by rw[←h.files,List.map_map];rfl
theorem Pl.no (h:Pl σ c s l):q2C σ=false:=by unfold q2C;rw[h.fine];rfl
theorem Pl.tell (h:Pl σ c s l):Pl (q2M σ) c s l:=⟨h.up,h.fine,h.files,h.cap,h.st⟩
theorem Pl.size (h:Pl σ c s l) (hf:q0G Prod.fst nm l=some x):q1U σ nm=((x.2.length:Int),0):=by
  obtain ⟨f,h1,rfl⟩:=h.find_some hf
  unfold q1U
  rw[if_neg (by rw[h.up];decide),h1]
  rfl
theorem Pl.sizeN (h:Pl σ c s l) (hf:q0G Prod.fst nm l=none):q1U σ nm=(0,4):=by
  unfold q1U
  rw[if_neg (by rw[h.up];decide),h.find_none hf]
theorem Pl.read (h:Pl σ c s l) (hf:q0G Prod.fst nm l=some x) (a n:Int) (ha:0≤a) (hn:0≤n) (hl:a+n≤(x.2.length:Int)):q1Y σ nm a n=((x.2.drop a.toNat).take n.toNat,0,q2M σ):=by
  obtain ⟨f,h1,rfl⟩:=h.find_some hf
  unfold q1Y
  rw[if_neg (by rw[h.up];decide),h1]
  show (if 0≤a∧0≤n∧a≤(f.da.length:Int)∧n≤(f.da.length:Int)-a then _ else _)=_
  have e:(fbF f).2=f.da:=rfl
  rw[e] at hl
  rw[if_pos (by omega)]
  rfl
theorem Pl.append (h:Pl σ c s l) (hf:q0G Prod.fst nm l=some x) (hr:(t.length:Int)≤c-(q2G l:Int)): ∃σ',q1s σ nm t=(0,σ')∧Pl σ' c s (q1K Prod.fst nm (fun x=>(x.1,x.2++t)) l):=by
  obtain ⟨f,h1,rfl⟩:=h.find_some hf
  refine ⟨q2Q (q8B σ nm t),?_,?_⟩
  · unfold q1s
    rw[if_neg (by rw[h.up];decide),h1,if_neg (by simp),if_neg (by rw[h.cap,h.used];omega),if_neg (by rw[h.no];decide)]
  · exact ⟨h.up,h.fine,by rw[←h.files];exact z2d (k:=FM.nm) (k':=Prod.fst) q8T nm (fun f=>{f with da:=f.da++t}) (fun x=>(x.1,x.2++t)) (fun _=>rfl) σ.L,h.cap,h.st⟩
theorem Pl.sync (h:Pl σ c s l) (hf:q0G Prod.fst nm l=some x): ∃σ',q6M σ nm=(0,σ')∧Pl σ' c s l:=by
  obtain ⟨f,h1,rfl⟩:=h.find_some hf
  refine ⟨{q2Q σ with L:=q1K FM.nm nm (fun f=>{f with sy:=f.da.length}) σ.L},?_,?_⟩
  · unfold q6M
    rw[if_neg (by rw[h.up];decide),h1,if_neg (by simp),if_neg (by rw[h.no];decide)]
  · refine ⟨h.up,h.fine,?_,h.cap,h.st⟩
    rw[←h.files]
    show (q1K FM.nm nm _ σ.L).map fbF=_
    rw[z2d (k:=FM.nm) (k':=Prod.fst) q8T nm (fun f=>{f with sy:=f.da.length}) id (fun _=>rfl) σ.L]
    unfold q1K
    conv=>rhs;rw[←List.map_id (σ.L.map fbF)]
    exact List.map_congr_left fun y _=>by split<;>rfl
theorem Pl.create (h:Pl σ c s l) (hf:q0G Prod.fst nm l=none) (hk:q3n nm=true) (hm:l.length<400): ∃σ',q2A σ nm=(0,σ')∧Pl σ' c s (q3d Prod.fst (nm,[]) l):=by
  refine ⟨{q2Q σ with L:=q3d FM.nm ⟨nm,[],0⟩ σ.L},?_,?_⟩
  · unfold q2A
    have e:σ.L.length=l.length:=by rw[←h.files,List.length_map]
    rw[if_neg (by rw[h.up];decide),if_neg (by rw[hk];decide),h.find_none hf,if_neg (by simp),if_neg (by omega),if_neg (by rw[h.no];decide)]
  · refine ⟨h.up,h.fine,?_,h.cap,h.st⟩
    rw[←h.files]
    exact q8h (k:=FM.nm) (k':=Prod.fst) q8T ⟨nm,[],0⟩ σ.L
end
section
variable {α :Type} {k:α→List UInt8}
theorem q4N (nm:List UInt8) (f:α→α) (a b:List α):q1K k nm f (a++b)=q1K k nm f a++q1K k nm f b:=by unfold q1K;simp
theorem q2m {nm:List UInt8} {f:α→α} {l:List α} (h: ∀y∈l,k y≠nm):q1K k nm f l=l:=q5P (q0U h)
theorem q0Y {nm:List UInt8} {a b:List α} (h: ∀y∈a,k y≠nm):q0G k nm (a++b)=q0G k nm b:=by
  unfold q0G
  rw[List.find?_append]
  have:List.find? (fun y=>k y==nm) a=none:=q0U h
  rw[this];rfl
end
end Go.Proofs.YtjjfiejoeelndaaGreatDoor
