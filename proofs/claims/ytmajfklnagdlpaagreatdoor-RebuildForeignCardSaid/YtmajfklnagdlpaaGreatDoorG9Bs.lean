/- Plain laws: files of a disk, in the order of their names. Plain laws: a crash of a disk, file by file. Plain laws: each change leaves a disk that may be. Plain laws: a disk that is well, by its files' names and bytes. -/
import Derived.Sort.KeysCollected
import Derived.Lib.Hide
set_option linter.unusedVariables false
set_option linter.unusedSimpArgs false
namespace Go.Proofs.YtmajfklnagdlpaaGreatDoor
open Go.RowKit
theorem q4J : ∀a b:List UInt8,bytesBefore a b=decide (a<b)
  |[],[]=>by simp[bytesBefore]
  |[],b::s=>by simp[bytesBefore]
  |a::r,[]=>by simp[bytesBefore]
  | a::r,b::s=>by
    unfold bytesBefore
    rw[q4J r s,Bool.eq_iff_iff]
    simp[List.cons_lt_cons_iff]
section gen
variable {α β:Type} (k:α→List UInt8)
def q1T (x:α):List α→List α
  |[]=>[x]
  |y::r=>if bytesBefore (k x) (k y) then x::y::r else y::q1T x r
def delN (nm:List UInt8) (l:List α):List α:=l.filter fun y=>!(k y==nm)
def q0y (nm:List UInt8) (f:α→α) (l:List α):List α:=l.map fun y=>if k y==nm then f y else y
def q0E (nm:List UInt8) (l:List α):Option α:=l.find? fun y=>k y==nm
def q2W (l:List α):Prop:=l.Pairwise fun x y=>bytesBefore (k x) (k y)=true
variable {k}
theorem q2d (x:α): ∀l:List α,(q1T k x l).Perm (x::l)
  |[]=>List.Perm.refl _
  | y::r=>by
    unfold q1T
    split
    · exact List.Perm.refl _
    · exact (List.Perm.cons y (q2d x r)).trans (List.Perm.swap x y r)
theorem mem_insN {x y:α} {l:List α}:y∈q1T k x l↔y=x∨y∈l:=by rw[(q2d x l).mem_iff];simp
theorem q1w (x:α) (l:List α):(q1T k x l).length=l.length+1:=by rw[(q2d x l).length_eq];rfl
theorem q2v {x:α}: ∀{l:List α},q2W k l→(∀y∈l,k y≠k x)→q2W k (q1T k x l)
  |[],_,_=>by simp[q2W,q1T]
  | y :: r,h,hne=>by
    obtain ⟨h1,h2⟩:=List.pairwise_cons.1 h
    unfold q1T
    split
    · rename_i hb
      refine List.pairwise_cons.2 ⟨fun z hz=>?_,h⟩
      rcases List.mem_cons.1 hz with rfl|hz
      · exact hb
      · exact WideShapes.bytes_trans _ _ _ hb (h1 z hz)
    · rename_i hb
      have hyx:bytesBefore (k y) (k x)=true:=by
        rcases WideAt.bytes_total _ _ (hne y (List.mem_cons_self)) with h|h
        · exact h
        · exact absurd h hb
      refine List.pairwise_cons.2 ⟨fun z hz=>?_,q2v h2 fun z hz=>hne z (List.mem_cons_of_mem _ hz)⟩
      rcases mem_insN.1 hz with rfl|hz
      · exact hyx
      · exact h1 z hz
theorem q1o {nm:List UInt8} {l:List α} (h:q2W k l):q2W k (delN k nm l):=h.filter _
theorem mem_delN {nm:List UInt8} {x:α} {l:List α}:x∈delN k nm l↔x∈l∧k x≠nm:=by simp[delN,List.mem_filter]
theorem q7z {nm:List UInt8} {f:α→α} {l:List α} (h:q2W k l) (hf: ∀y,k y=nm→k (f y)=nm):q2W k (q0y k nm f l):=by
  refine List.pairwise_map.2 (h.imp fun {x y} hxy=>?_)
  have e: ∀z,k (if k z==nm then f z else z)=k z:=fun z=>by
    split
    · rename_i hz
      have hz':k z=nm:=by simpa using hz
      rw[hf z hz',hz']
    · rfl
  rw[e,e];exact hxy
theorem q6n {nm:List UInt8} {f:α→α} (l:List α):(q0y k nm f l).length=l.length:=by simp[q0y]
theorem q0H {nm:List UInt8} {l:List α} {e:α} (h:q0E k nm l=some e):e∈l∧k e=nm:=⟨List.mem_of_find?_eq_some h,by simpa using List.find?_some h⟩
theorem q0W {nm:List UInt8} {l:List α} (h:q0E k nm l=none): ∀y∈l,k y≠nm:=fun y hy=>by simpa using List.find?_eq_none.1 h y hy
theorem q0S {nm:List UInt8} {l:List α} (h: ∀y∈l,k y≠nm):q0E k nm l=none:=List.find?_eq_none.2 fun y hy=>by simpa using h y hy
theorem q9q {l:List α} (h:q2W k l):l.Pairwise fun x y=>k x≠k y:=h.imp fun {x y} hxy e=>by rw[e,WideAt.bytes_irrefl] at hxy;cases hxy
theorem q5H {l:List α} (h:q2W k l) {x y:α} (hx:x∈l) (hy:y∈l) (e:k x=k y):x=y:=by
  have hp:=q9q h
  clear h
  induction l with
  |nil=>cases hx
  | cons a r ih=>
    obtain ⟨h1,h2⟩:=List.pairwise_cons.1 hp
    rcases List.mem_cons.1 hx with ex|hx'<;>rcases List.mem_cons.1 hy with ey|hy'
    · rw[ex,ey]
    · subst ex;exact absurd e (h1 y hy')
    · subst ey;exact absurd e.symm (h1 x hx')
    · exact ih hx' hy' h2
theorem q3R {nm:List UInt8} {l:List α} (h:q2W k l) {e:α} (he:e∈l) (hn:k e=nm):q0E k nm l=some e:=by
  cases hf:q0E k nm l with
  |none=>exact absurd hn (q0W hf e he)
  |some e'=>obtain ⟨h1,h2⟩:=q0H hf;rw[q5H h h1 he (h2.trans hn.symm)]
theorem q4f {nm:List UInt8} {l:List α} (h:q0E k nm l=none):delN k nm l=l:=List.filter_eq_self.2 fun y hy=>by simpa using q0W h y hy
theorem q5B {nm:List UInt8} {f:α→α} {l:List α} (h:q0E k nm l=none):q0y k nm f l=l:=by
  unfold q0y
  conv=>rhs;rw[←List.map_id l]
  exact List.map_congr_left fun y hy=>by rw[if_neg (by simpa using q0W h y hy)];rfl
theorem q3y {nm:List UInt8} {f:α→α} {l:List α} (h:q2W k l) {e:α} (hf:q0E k nm l=some e) {y:α}:y∈q0y k nm f l↔y=f e∨(y∈l∧k y≠nm):=by
  obtain ⟨h1,h2⟩:=q0H hf
  unfold q0y
  rw[List.mem_map]
  constructor
  · rintro ⟨z,hz,rfl⟩
    by_cases hn:k z=nm
    · obtain rfl:=q5H h hz h1 (hn.trans h2.symm)
      left;rw[if_pos (by simpa using hn)]
    · right;rw[if_neg (by simpa using hn)];exact ⟨hz,hn⟩
  · rintro (rfl|⟨hy,hn⟩)
    · exact ⟨e,h1,by rw[if_pos (by simpa using h2)]⟩
    · exact ⟨y,hy,by rw[if_neg (by simpa using hn)]⟩
theorem q8d {S:α→α→Prop} {nm:List UInt8} {f:α→α} {l:List α} (h:q2W k l) (hS:l.Pairwise S) {e:α} (hf:q0E k nm l=some e) (h1: ∀y∈l,k y≠nm→S (f e) y∧S y (f e)):(q0y k nm f l).Pairwise S:=by
  obtain ⟨he,hen⟩:=q0H hf
  refine List.pairwise_map.2 ((hS.and (q9q h)).imp_of_mem fun {x y} hx hy ⟨hs,hne⟩=>?_)
  by_cases hxn:k x=nm
  · have hyn:k y≠nm:=fun e=>hne (hxn.trans e.symm)
    obtain rfl:=q5H h hx he (hxn.trans hen.symm)
    rw[if_pos (by simpa using hxn),if_neg (by simpa using hyn)]
    exact (h1 y hy hyn).1
  · rw [if_neg (by simpa using hxn)]
    by_cases hyn:k y=nm
    · obtain rfl:=q5H h hy he (hyn.trans hen.symm)
      rw[if_pos (by simpa using hyn)]
      exact (h1 x hx hxn).2
    · rw[if_neg (by simpa using hyn)];exact hs
section map
variable {k' :β→List UInt8} {h:α→β} (hk: ∀x,k' (h x)=k x)
include hk
theorem q4Z (x:α): ∀l:List α,(q1T k x l).map h=q1T k' (h x) (l.map h)
  |[]=>rfl
  | y::r=>by
    unfold q1T
    simp only[List.map_cons,hk]
    split
    · rfl
    · rw[List.map_cons,q4Z x r]
theorem q4h (nm:List UInt8) (l:List α):(delN k nm l).map h=delN k' nm (l.map h):=by
  unfold delN;rw[List.filter_map];congr 1;exact List.filter_congr fun y _=>by simp[hk]
theorem z1j (nm:List UInt8) (f:α→α) (g:β→β) (hf: ∀y,h (f y)=g (h y)) (l:List α):(q0y k nm f l).map h=q0y k' nm g (l.map h):=by
  unfold q0y;rw[List.map_map,List.map_map];refine List.map_congr_left fun y _=>?_
  simp only[Function.comp,hk];split<;>simp[hf]
theorem z4D {nm:List UInt8} {f:α→α} {g:β→β} {l:List α} (ho:q2W k l) {e:α} (hf:q0E k nm l=some e) (hfe:h (f e)=g (h e)):(q0y k nm f l).map h=q0y k' nm g (l.map h):=by
  obtain ⟨he,hen⟩:=q0H hf
  unfold q0y;rw[List.map_map,List.map_map];refine List.map_congr_left fun y hy=>?_
  simp only[Function.comp,hk]
  split
  · rename_i hz
    have hz':k y=nm:=by simpa using hz
    rw[q5H ho hy he (hz'.trans hen.symm)];exact hfe
  · rfl
theorem q1c (nm:List UInt8) (l:List α):q0E k' nm (l.map h)=(q0E k nm l).map h:=by
  unfold q0E;rw[List.find?_map];congr 2;funext y;simp[hk]
theorem z0j {l:List α}:q2W k' (l.map h)↔q2W k l:=by
  unfold q2W;rw[List.pairwise_map];simp only[hk]
end map
def q4I (s:α→Nat) (l:List α):Nat:=(l.map s).sum
theorem z5d (s:α→Nat) (x:α) (l:List α):q4I s (q1T k x l)=s x+q4I s l:=by
  unfold q4I;rw[((q2d x l).map s).sum_nat];simp
theorem q5q (s:α→Nat) {nm:List UInt8}: ∀{l:List α},q2W k l→ ∀{e:α},q0E k nm l=some e→q4I s (delN k nm l)+s e=q4I s l
  |[],_,_,hf=>by simp[q0E] at hf
  | a :: r,h,e,hf=>by
    obtain ⟨h1,h2⟩:=List.pairwise_cons.1 h
    by_cases ha:k a=nm
    · have e1:a=e:=by unfold q0E at hf;rw[List.find?_cons_of_pos (by simpa using ha)] at hf;exact Option.some.inj hf
      subst e1
      have e2:delN k nm (a::r)=r:=by
        unfold delN
        rw[List.filter_cons_of_neg (by simp[ha])]
        refine List.filter_eq_self.2 fun y hy=>?_
        have:=h1 y hy
        simp only[Bool.not_eq_true',beq_eq_false_iff_ne]
        intro e3
        rw[e3,←ha,WideAt.bytes_irrefl] at this
        cases this
      rw[e2];simp[q4I];omega
    · have hf2:q0E k nm r=some e:=by unfold q0E at hf⊢;rwa [List.find?_cons_of_neg (by simpa using ha)] at hf
      have ih:=q5q s h2 hf2
      have e2:delN k nm (a::r)=a::delN k nm r:=by unfold delN;rw[List.filter_cons_of_pos (by simpa using ha)]
      rw[e2];simp only[q4I,List.map_cons,List.sum_cons] at ih⊢;omega
theorem q5s (s:α→Nat) {nm:List UInt8} {f:α→α}: ∀{l:List α},q2W k l→ ∀{e:α},q0E k nm l=some e→q4I s (q0y k nm f l)+s e=q4I s l+s (f e)
  |[],_,_,hf=>by simp[q0E] at hf
  | a ::r,h,e,hf=>by
    obtain ⟨h1,h2⟩:=List.pairwise_cons.1 h
    by_cases ha:k a=nm
    · have e1:a=e:=by unfold q0E at hf;rw[List.find?_cons_of_pos (by simpa using ha)] at hf;exact Option.some.inj hf
      subst e1
      have e2:q0y k nm f r=r:=q5B (q0S fun y hy e3=>by have:=h1 y hy;rw[e3,←ha,WideAt.bytes_irrefl] at this;cases this)
      have e3:q0y k nm f (a::r)=f a::q0y k nm f r:=by unfold q0y;rw[List.map_cons,if_pos (by simpa using ha)]
      rw[e3,e2];simp[q4I];omega
    · have hf2:q0E k nm r=some e:=by unfold q0E at hf⊢;rwa [List.find?_cons_of_neg (by simpa using ha)] at hf
      have ih:=q5s s (f:=f) h2 hf2
      have e2:q0y k nm f (a::r)=a::q0y k nm f r:=by unfold q0y;rw[List.map_cons,if_neg (by simpa using ha)]
      rw[e2];simp only[q4I,List.map_cons,List.sum_cons] at ih⊢;omega
theorem q5p (s:α→Nat): ∀{l:List α} {e:α},e∈l→s e≤q4I s l
  | a::r,e,h=>by
    rcases List.mem_cons.1 h with rfl|h
    · simp[q4I]
    · have:=q5p s h;simp only[q4I,List.map_cons,List.sum_cons] at this⊢;omega
theorem q6l {nm:List UInt8} {l:List α} (h:q2W k l) {e:α} (hf:q0E k nm l=some e):(delN k nm l).length+1=l.length:=by
  have:=q5q (fun _=>1) h hf
  have e1: ∀m:List α,q4I (fun _=>1) m=m.length:=fun m=>by unfold q4I;induction m with
    |nil=>rfl
    |cons a r ih=>simp only[List.map_cons,List.sum_cons,ih,List.length_cons];omega
  rw[e1,e1] at this;exact this
end gen
structure FM where
  nm:List UInt8
  da:List UInt8
  sy:Nat
structure DM where
  cap:Int
  L:List FM
  reads:Int
  starts:Int
  down:Bool
  fail:Bool
  left:Int
  keep:List Int
def q0L (L:List FM):Nat:=q4I (fun f=>f.da.length) L
def q1l (nm:List UInt8):Bool:=!nm.isEmpty&&decide (nm.length≤12)
structure okD (σ:DM):Prop where
  cap0:0≤σ.cap
  cap1:σ.cap≤1048576
  used:(q0L σ.L:Int)≤σ.cap
  ord:q2W FM.nm σ.L
  sy: ∀f∈σ.L,f.sy≤f.da.length
  many:σ.L.length≤400
  left:0≤σ.left
  idle:σ.fail=false→σ.left=0
  keep:σ.keep.length≤1000000
  left1:σ.left≤9223372036854775807
def q1X (σ:DM):Bool:=σ.fail&&decide (σ.left=0)
def q1I (σ:DM):DM:={σ with left:=max (σ.left-1) 0}
def q3c (f:FM) (more:Int):FM:={f with da:=f.da.take (f.sy+min (max more 0).toNat (f.da.length-f.sy)),sy:=f.sy+min (max more 0).toNat (f.da.length-f.sy)}
def q1L :List FM→List Int→List FM
  |[],_=>[]
  |f::r,ks=>q3c f (ks.headD 0)::q1L r ks.tail
def q5b (σ:DM) (ks:List Int):DM:={σ with L:=q1L σ.L ks,down:=true,fail:=false,left:=0,keep:=[]}
def q3r (σ:DM):DM:=q5b σ σ.keep
def upM (σ:DM):Int:=if σ.down then 61 else 0
def q0f (σ:DM) (nm:List UInt8):Int×DM:=
  if σ.down then (61,σ) else if !q1l nm then (2,σ) else if (q0E FM.nm nm σ.L).isSome then (62,σ) else if 400≤σ.L.length then (60,σ)
  else if q1X σ then (61,q3r σ) else (0,{q1I σ with L:=q1T FM.nm ⟨nm,[],0⟩ σ.L})
def q7Z (σ:DM) (nm s:List UInt8):DM:={σ with L:=q0y FM.nm nm (fun f=>{f with da:=f.da++s}) σ.L}
def q0r (σ:DM) (nm s:List UInt8):Int×DM:=
  if σ.down then (61,σ) else if (q0E FM.nm nm σ.L).isNone then (4,σ) else if σ.cap-(q0L σ.L:Int)<(s.length:Int) then (60,σ)
  else if q1X σ then (61,q3r (q7Z σ nm s)) else (0,q1I (q7Z σ nm s))
def q3H (σ:DM):DM:={σ with reads:=wrap64 (σ.reads+1)}
def q3e (σ:DM) (nm:List UInt8) (at_ n:Int):List UInt8×Int×DM:=
  if σ.down then ([],61,σ) else match q0E FM.nm nm σ.L with
  |none=>([],4,q3H σ)
  |some f=>if 0≤at_∧0≤n∧at_≤(f.da.length:Int)∧n≤(f.da.length:Int)-at_ then ((f.da.drop at_.toNat).take n.toNat,0,q3H σ) else ([],2,q3H σ)
def q3W (σ:DM) (nm:List UInt8):Int×DM:=
  if σ.down then (61,σ) else if (q0E FM.nm nm σ.L).isNone then (4,σ) else if q1X σ then (61,q3r σ)
  else (0,{q1I σ with L:=q0y FM.nm nm (fun f=>{f with sy:=f.da.length}) σ.L})
def z2c (a b:List UInt8) (f:FM) (L:List FM):List FM:=q1T FM.nm {f with nm:=b} (delN FM.nm a (delN FM.nm b L))
def q1H (σ:DM) (a b:List UInt8):Int×DM:=
  if σ.down then (61,σ) else match q0E FM.nm a σ.L with
  |none=>(4,σ)
  |some f=>if !q1l b then (2,σ) else if q1X σ then (61,q3r σ) else if a=b then (0,q1I σ) else (0,{q1I σ with L:=z2c a b f σ.L})
def q0O (σ:DM) (nm:List UInt8):Int×DM:=
  if σ.down then (61,σ) else if (q0E FM.nm nm σ.L).isNone then (4,σ) else if q1X σ then (61,q3r σ) else (0,{q1I σ with L:=delN FM.nm nm σ.L})
def q1B (σ:DM) (nm:List UInt8):Int×Int:=
  if σ.down then (0,61) else match q0E FM.nm nm σ.L with|none=>(0,4)|some f=>((f.da.length:Int),0)
def q1M (σ:DM):List (List UInt8):=σ.L.map FM.nm
def q3M (σ:DM):Int:=σ.cap-(q0L σ.L:Int)
def q6q (σ:DM) (ks:List Int):Int×DM:=if σ.down then (61,σ) else (0,q5b σ ks)
def q4t (n:Nat) (f:FM):FM:={f with da:=f.da.take n,sy:=min f.sy (min n f.da.length)}
end Go.Proofs.YtmajfklnagdlpaaGreatDoor
namespace Go.Proofs.YtmajfklnagdlpaaGreatDoor
open Go.RowKit
def q3i (L:List FM) (xs:List Int) (i:Nat):List FM:=q1L (L.take i) xs++L.drop i
theorem q4y : ∀(L:List FM) (xs:List Int),(q1L L xs).length=L.length
  |[],_=>rfl
  |f::r,xs=>by simp[q1L,q4y r]
theorem z3Z (f:FM) (x:Int):(q3c f x).nm=f.nm:=rfl
theorem q6c : ∀(L:List FM) (xs:List Int),(q1L L xs).map FM.nm=L.map FM.nm
  |[],_=>rfl
  |f::r,xs=>by simp[q1L,q6c r,z3Z]
theorem z3p (L:List FM) (xs:List Int):q3i L xs 0=L:=by simp[q3i,q1L]
theorem z5R (L:List FM) (xs:List Int):q3i L xs L.length=q1L L xs:=by simp[q3i]
theorem z0a (L:List FM) (xs:List Int) (i:Nat):(q3i L xs i).map FM.nm=L.map FM.nm:=by
  unfold q3i;rw[List.map_append,q6c,←List.map_append,List.take_append_drop]
theorem z1h {L L':List FM} (h:q2W FM.nm L) (e:L'.map FM.nm=L.map FM.nm):q2W FM.nm L':=by
  have h1:q2W (fun x:List UInt8=>x) (L.map FM.nm):=(z0j (k:=FM.nm) (h:=FM.nm) fun x=>rfl).2 h
  rw[←e] at h1
  exact (z0j (k:=FM.nm) (h:=FM.nm) fun x=>rfl).1 h1
theorem z3X (xs:List Int) (i:Nat):xs.tail.getD i 0=xs.getD (i+1) 0:=by
  cases xs<;>simp[List.getD_eq_getElem?_getD]
theorem z2u (xs:List Int):xs.headD 0=xs.getD 0 0:=by cases xs<;>simp
theorem q6U : ∀(l:List FM) (f:FM) (xs:List Int),q1L (l++[f]) xs=q1L l xs++[q3c f (xs.getD l.length 0)]
  |[],f,xs=>by simp only[List.nil_append,q1L,List.length_nil,z2u]
  | a::r,f,xs=>by
    rw[List.cons_append,q1L,q1L,q6U r f xs.tail,z3X]
    rfl
theorem z0F {nm:List UInt8} {h:FM→FM} {a c:List FM} {f:FM} (hf:f.nm=nm) (ho:q2W FM.nm (a++f::c)):q0y FM.nm nm h (a++f::c)=a++h f::c:=by
  have hne:=q9q ho
  rw[List.pairwise_append] at hne
  obtain ⟨_,h2,h3⟩:=hne
  have ha:q0y FM.nm nm h a=a:=q5B (q0S fun y hy e=>h3 y hy f (by simp) (e.trans hf.symm))
  have hc:q0y FM.nm nm h c=c:=q5B (q0S fun y hy e=>(List.pairwise_cons.1 h2).1 y hy (hf.trans e.symm))
  unfold q0y at ha hc⊢
  rw[List.map_append,List.map_cons,ha,hc,if_pos (by simpa using hf)]
theorem q9T {L:List FM} (xs:List Int) {i:Nat} (hi:i<L.length) (ho:q2W FM.nm L):
    q0E FM.nm L[i].nm (q3i L xs i)=some L[i]∧ ∀h:FM→FM,h L[i]=q3c L[i] (xs.getD i 0)→q0y FM.nm L[i].nm h (q3i L xs i)=q3i L xs (i+1):=by
  have e1:q3i L xs i=q1L (L.take i) xs++L[i]::L.drop (i+1):=by unfold q3i;rw[List.drop_eq_getElem_cons hi]
  have o1:q2W FM.nm (q3i L xs i):=z1h ho (z0a L xs i)
  have hm:L[i]∈q3i L xs i:=by rw[e1];exact List.mem_append_right _ List.mem_cons_self
  refine ⟨q3R o1 hm rfl,fun h hh=>?_⟩
  rw[e1] at o1⊢
  rw[z0F rfl o1,hh]
  unfold q3i
  rw[List.take_succ_eq_append_getElem hi,q6U,List.length_take,Nat.min_eq_left (Nat.le_of_lt hi)]
  simp
theorem z2P {nm:List UInt8} {h h':FM→FM} {L:List FM} (hk: ∀y,(h y).nm=y.nm):q0y FM.nm nm h' (q0y FM.nm nm h L)=q0y FM.nm nm (fun y=>h' (h y)) L:=by
  unfold q0y
  rw[List.map_map]
  refine List.map_congr_left fun y _=>?_
  simp only[Function.comp]
  by_cases e:(y.nm==nm)=true
  · rw[if_pos e,if_pos (by rw[hk];exact e),if_pos e]
  · rw[if_neg e,if_neg e,if_neg e]
theorem z4a (f:FM) (x:Int):(q3c f x).da.length≤f.da.length:=by simp[q3c];omega
theorem z3Y (f:FM) (x:Int) (h:f.sy≤f.da.length):(q3c f x).sy=(q3c f x).da.length:=by simp[q3c];omega
theorem q6h : ∀(L:List FM) (xs:List Int),q0L (q1L L xs)≤q0L L
  |[],_=>Nat.le_refl _
  | f::r,xs=>by
    have:=q6h r xs.tail
    have:=z4a f (xs.headD 0)
    unfold q0L q4I at*
    simp only[q1L,List.map_cons,List.sum_cons]
    omega
theorem q5S (a b:List FM):q0L (a++b)=q0L a+q0L b:=by simp[q0L,q4I]
theorem z3D (L:List FM) (xs:List Int) (i:Nat):q0L (q3i L xs i)≤q0L L:=by
  unfold q3i
  have e:q0L L=q0L (L.take i)+q0L (L.drop i):=by rw[←q5S,List.take_append_drop]
  rw[q5S,e]
  have:=q6h (L.take i) xs
  omega
theorem q9t : ∀(L:List FM) (xs:List Int),(∀f∈L,f.sy≤f.da.length)→ ∀f∈q1L L xs,f.sy=f.da.length
  |[],_,_=>by simp[q1L]
  | a::r,xs,h=>by
    intro f hf
    rw[q1L] at hf
    rcases List.mem_cons.1 hf with rfl|hf
    · exact z3Y _ _ (h a (by simp))
    · exact q9t r xs.tail (fun g hg=>h g (by simp[hg])) f hf
theorem z2B {σ:DM} (h:okD σ) (xs:List Int):okD (q5b σ xs):=by
  refine ⟨h.cap0,h.cap1,?_,z1h h.ord (q6c _ _),fun f hf=>Nat.le_of_eq (q9t _ _ h.sy f hf),?_,Int.le_refl _,fun _=>rfl,Nat.zero_le _,by show (0:Int)≤_;decide⟩
  · have:=h.used
    have:=q6h σ.L xs
    show (q0L (q1L σ.L xs):Int)≤σ.cap
    omega
  · show (q1L σ.L xs).length≤400
    rw[q4y];exact h.many
end Go.Proofs.YtmajfklnagdlpaaGreatDoor
namespace Go.Proofs.YtmajfklnagdlpaaGreatDoor
open Go.RowKit
theorem q8q {L:List FM} {nm:List UInt8} {f:FM→FM} (ho:q2W FM.nm L) {e:FM} (hf:q0E FM.nm nm L=some e):q0L (q0y FM.nm nm f L)+e.da.length=q0L L+(f e).da.length:=q5s _ ho hf
theorem q6C {L:List FM} {nm:List UInt8} (ho:q2W FM.nm L) {e:FM} (hf:q0E FM.nm nm L=some e):q0L (delN FM.nm nm L)+e.da.length=q0L L:=q5q _ ho hf
theorem q6H (x:FM) (L:List FM):q0L (q1T FM.nm x L)=x.da.length+q0L L:=z5d _ x L
theorem q6w {L:List FM} {e:FM} (h:e∈L):e.da.length≤q0L L:=q5p (fun f:FM=>f.da.length) h
theorem okD.tick {σ:DM} (h:okD σ):okD (q1I σ):=
  ⟨h.cap0,h.cap1,h.used,h.ord,h.sy,h.many,(by show 0≤max (σ.left-1) 0;omega),(fun hf=>by have:=h.idle hf;show max (σ.left-1) 0=0;omega),h.keep,by have:=h.left1;show max (σ.left-1) 0≤_;omega⟩
theorem okD.sink {σ:DM} (h:okD σ):okD (q3r σ):=z2B h _
theorem okD.files {σ:DM} (h:okD σ) {L:List FM} (hu:(q0L L:Int)≤σ.cap) (ho:q2W FM.nm L) (hs: ∀f∈L,f.sy≤f.da.length) (hm:L.length≤400):okD {σ with L:=L}:=
  ⟨h.cap0,h.cap1,hu,ho,hs,hm,h.left,h.idle,h.keep,h.left1⟩
theorem okD.upd {σ:DM} (h:okD σ) {nm:List UInt8} {f:FM→FM} {e:FM} (hf:q0E FM.nm nm σ.L=some e) (hu:(q0L (q0y FM.nm nm f σ.L):Int)≤σ.cap) (hn: ∀y,(f y).nm=y.nm) (hs:(f e).sy≤(f e).da.length):okD {σ with L:=q0y FM.nm nm f σ.L}:=by
  refine h.files hu (q7z h.ord fun y hy=>by rw[hn,hy]) (fun y hy=>?_) (by rw[q6n];exact h.many)
  rcases (q3y h.ord hf).1 hy with rfl|⟨hy,_⟩
  · exact hs
  · exact h.sy y hy
theorem okD.app {σ:DM} (h:okD σ) {nm s:List UInt8} {e:FM} (hf:q0E FM.nm nm σ.L=some e) (hu:(q0L σ.L:Int)+s.length≤σ.cap):okD (q7Z σ nm s)∧q0L (q7Z σ nm s).L=q0L σ.L+s.length:=by
  have h1:=q8q (f:=fun f:FM=>{f with da:=f.da++s}) h.ord hf
  have h2:=h.sy e (q0H hf).1
  have h3:({e with da:=e.da++s}:FM).da.length=e.da.length+s.length:=List.length_append
  have h4:q0L (q0y FM.nm nm (fun f:FM=>{f with da:=f.da++s}) σ.L)=q0L σ.L+s.length:=by omega
  exact ⟨h.upd hf (by rw[h4];omega) (fun y=>rfl) (by show e.sy≤(e.da++s).length;rw[List.length_append];omega),h4⟩
theorem okD.create {σ:DM} (h:okD σ) {nm:List UInt8} (hno:q0E FM.nm nm σ.L=none) (hm:σ.L.length<400):okD {σ with L:=q1T FM.nm ⟨nm,[],0⟩ σ.L}:=by
  refine h.files (by rw[q6H];have:=h.used;simpa using this) (q2v h.ord (q0W hno)) (fun f hf=>?_) (by rw[q1w];omega)
  rcases mem_insN.1 hf with rfl|hf
  · exact Nat.le_refl _
  · exact h.sy f hf
theorem okD.tell {σ:DM} (h:okD σ):okD (q3H σ):=⟨h.cap0,h.cap1,h.used,h.ord,h.sy,h.many,h.left,h.idle,h.keep,h.left1⟩
theorem okD.sync {σ:DM} (h:okD σ) {nm:List UInt8} {e:FM} (hf:q0E FM.nm nm σ.L=some e):okD {σ with L:=q0y FM.nm nm (fun f=>{f with sy:=f.da.length}) σ.L}∧q0L (q0y FM.nm nm (fun f=>{f with sy:=f.da.length}) σ.L)=q0L σ.L:=by
  have h1:=q8q (f:=fun f:FM=>{f with sy:=f.da.length}) h.ord hf
  have h4:q0L (q0y FM.nm nm (fun f:FM=>{f with sy:=f.da.length}) σ.L)=q0L σ.L:=by
    have:({e with sy:=e.da.length}:FM).da.length=e.da.length:=rfl
    omega
  exact ⟨h.upd hf (by rw[h4];exact h.used) (fun y=>rfl) (Nat.le_refl _),h4⟩
theorem z4s (nm:List UInt8) (L:List FM):(delN FM.nm nm L).length≤L.length:=List.length_filter_le _ _
theorem q5c {L:List FM} (nm:List UInt8) (ho:q2W FM.nm L):q0L (delN FM.nm nm L)≤q0L L:=by
  cases hf:q0E FM.nm nm L with
  |none=>rw[q4f hf];exact Nat.le_refl _
  |some e=>have:=q6C ho hf;omega
theorem okD.delete {σ:DM} (h:okD σ) (nm:List UInt8):okD {σ with L:=delN FM.nm nm σ.L}:=
  h.files (by have:=q5c nm h.ord;have:=h.used;omega) (q1o h.ord) (fun f hf=>h.sy f (mem_delN.1 hf).1) (by have:=z4s nm σ.L;have:=h.many;omega)
theorem q8r {L:List FM} {a b:List UInt8} (ho:q2W FM.nm L) {f:FM} (hf:q0E FM.nm a L=some f) (hne:a≠b):q0E FM.nm a (delN FM.nm b L)=some f:=
  q3R (q1o ho) (mem_delN.2 ⟨(q0H hf).1,fun e=>hne ((q0H hf).2.symm.trans e)⟩) (q0H hf).2
theorem okD.rename {σ:DM} (h:okD σ) {a b:List UInt8} {f:FM} (hf:q0E FM.nm a σ.L=some f) (hne:a≠b):okD {σ with L:=z2c a b f σ.L}∧q0L (z2c a b f σ.L)=q0L (delN FM.nm b σ.L):=by
  have o1:q2W FM.nm (delN FM.nm b σ.L):=q1o h.ord
  have f1:=q8r h.ord hf hne
  have u1:=q6C o1 f1
  have u2:=q5c b h.ord
  have l1:=q6l o1 f1
  have l2:=z4s b σ.L
  have hu:q0L (z2c a b f σ.L)=q0L (delN FM.nm b σ.L):=by
    unfold z2c;rw[q6H]
    show f.da.length+_=_
    omega
  refine ⟨h.files ?_ ?_ ?_ ?_,hu⟩
  · rw[hu];have:=h.used;omega
  · exact q2v (q1o o1) fun y hy=>(mem_delN.1 (mem_delN.1 hy).1).2
  · intro y hy
    rcases mem_insN.1 hy with rfl|hy
    · exact h.sy f (q0H hf).1
    · exact h.sy y (mem_delN.1 (mem_delN.1 hy).1).1
  · unfold z2c;rw[q1w];have:=h.many;omega
end Go.Proofs.YtmajfklnagdlpaaGreatDoor
namespace Go.Proofs.YtmajfklnagdlpaaGreatDoor
open Go.RowKit
def fbF (f:FM):List UInt8×List UInt8:=(f.nm,f.da)
structure Pl (σ:DM) (c s:Int) (l:List (List UInt8×List UInt8)):Prop where
  up:σ.down=false
  fine:σ.fail=false
  files:σ.L.map fbF=l
  cap:σ.cap=c
  st:σ.starts=s
def q1K (l:List (List UInt8×List UInt8)):Nat:=q4I (fun x:List UInt8×List UInt8=>x.2.length) l
section
variable {σ :DM} {c s:Int} {l:List (List UInt8×List UInt8)} {nm t:List UInt8} {x:List UInt8×List UInt8}
theorem q4n : ∀f:FM,Prod.fst (fbF f)=FM.nm f:=fun _=>rfl
theorem Pl.used (h:Pl σ c s l):q0L σ.L=q1K l:=by
  unfold q0L q1K q4I
  rw[←h.files,List.map_map]
  rfl
theorem Pl.free (h:Pl σ c s l):q3M σ=c-(q1K l:Int):=by unfold q3M;rw[h.cap,h.used]
theorem Pl.find (h:Pl σ c s l) (nm:List UInt8):q0E Prod.fst nm l=(q0E FM.nm nm σ.L).map fbF:=by rw[←h.files];exact q1c q4n nm σ.L
theorem Pl.find_some (h:Pl σ c s l) (hf:q0E Prod.fst nm l=some x): ∃f,q0E FM.nm nm σ.L=some f∧fbF f=x:=by
  rw[h.find] at hf
  cases hq:q0E FM.nm nm σ.L with
  |none=>rw[hq] at hf;cases hf
  |some f=>rw[hq] at hf;exact ⟨f,rfl,Option.some.inj hf⟩
theorem Pl.find_none (h:Pl σ c s l) (hf:q0E Prod.fst nm l=none):q0E FM.nm nm σ.L=none:=by
  rw[h.find] at hf
  cases hq:q0E FM.nm nm σ.L with
  |none=>rfl
  |some f=>rw[hq] at hf;cases hf
theorem Pl.ord (h:Pl σ c s l) (ho:okD σ):q2W Prod.fst l:=by rw[←h.files];exact (z0j q4n).2 ho.ord
theorem Pl.names (h:Pl σ c s l):q1M σ=l.map Prod.fst:=by rw[←h.files,List.map_map];rfl
theorem Pl.no (h:Pl σ c s l):q1X σ=false:=by unfold q1X;rw[h.fine];rfl
theorem Pl.tell (h:Pl σ c s l):Pl (q3H σ) c s l:=⟨h.up,h.fine,h.files,h.cap,h.st⟩
theorem Pl.size (h:Pl σ c s l) (hf:q0E Prod.fst nm l=some x):q1B σ nm=((x.2.length:Int),0):=by
  obtain ⟨f,h1,rfl⟩:=h.find_some hf
  unfold q1B
  rw[if_neg (by rw[h.up];decide),h1]
  rfl
theorem Pl.sizeN (h:Pl σ c s l) (hf:q0E Prod.fst nm l=none):q1B σ nm=(0,4):=by
  unfold q1B
  rw[if_neg (by rw[h.up];decide),h.find_none hf]
theorem Pl.read (h:Pl σ c s l) (hf:q0E Prod.fst nm l=some x) (a n:Int) (ha:0≤a) (hn:0≤n) (hl:a+n≤(x.2.length:Int)):q3e σ nm a n=((x.2.drop a.toNat).take n.toNat,0,q3H σ):=by
  obtain ⟨f,h1,rfl⟩:=h.find_some hf
  unfold q3e
  rw[if_neg (by rw[h.up];decide),h1]
  show (if 0≤a∧0≤n∧a≤(f.da.length:Int)∧n≤(f.da.length:Int)-a then _ else _)=_
  have e:(fbF f).2=f.da:=rfl
  rw[e] at hl
  rw[if_pos (by omega)]
  rfl
theorem Pl.append (h:Pl σ c s l) (hf:q0E Prod.fst nm l=some x) (hr:(t.length:Int)≤c-(q1K l:Int)): ∃σ',q0r σ nm t=(0,σ')∧Pl σ' c s (q0y Prod.fst nm (fun x=>(x.1,x.2++t)) l):=by
  obtain ⟨f,h1,rfl⟩:=h.find_some hf
  refine ⟨q1I (q7Z σ nm t),?_,?_⟩
  · unfold q0r
    rw[if_neg (by rw[h.up];decide),h1,if_neg (by simp),if_neg (by rw[h.cap,h.used];omega),if_neg (by rw[h.no];decide)]
  · exact ⟨h.up,h.fine,by rw[←h.files];exact z1j (k:=FM.nm) (k':=Prod.fst) q4n nm (fun f=>{f with da:=f.da++t}) (fun x=>(x.1,x.2++t)) (fun _=>rfl) σ.L,h.cap,h.st⟩
theorem Pl.sync (h:Pl σ c s l) (hf:q0E Prod.fst nm l=some x): ∃σ',q3W σ nm=(0,σ')∧Pl σ' c s l:=by
  obtain ⟨f,h1,rfl⟩:=h.find_some hf
  refine ⟨{q1I σ with L:=q0y FM.nm nm (fun f=>{f with sy:=f.da.length}) σ.L},?_,?_⟩
  · unfold q3W
    rw[if_neg (by rw[h.up];decide),h1,if_neg (by simp),if_neg (by rw[h.no];decide)]
  · refine ⟨h.up,h.fine,?_,h.cap,h.st⟩
    rw[←h.files]
    show (q0y FM.nm nm _ σ.L).map fbF=_
    rw[z1j (k:=FM.nm) (k':=Prod.fst) q4n nm (fun f=>{f with sy:=f.da.length}) id (fun _=>rfl) σ.L]
    unfold q0y
    conv=>rhs;rw[←List.map_id (σ.L.map fbF)]
    exact List.map_congr_left fun y _=>by split<;>rfl
theorem Pl.create (h:Pl σ c s l) (hf:q0E Prod.fst nm l=none) (hk:q1l nm=true) (hm:l.length<400): ∃σ',q0f σ nm=(0,σ')∧Pl σ' c s (q1T Prod.fst (nm,[]) l):=by
  refine ⟨{q1I σ with L:=q1T FM.nm ⟨nm,[],0⟩ σ.L},?_,?_⟩
  · unfold q0f
    have e:σ.L.length=l.length:=by rw[←h.files,List.length_map]
    rw[if_neg (by rw[h.up];decide),if_neg (by rw[hk];decide),h.find_none hf,if_neg (by simp),if_neg (by omega),if_neg (by rw[h.no];decide)]
  · refine ⟨h.up,h.fine,?_,h.cap,h.st⟩
    rw[←h.files]
    exact q4Z (k:=FM.nm) (k':=Prod.fst) q4n ⟨nm,[],0⟩ σ.L
end
section
variable {α :Type} {k:α→List UInt8}
theorem q3x (nm:List UInt8) (f:α→α) (a b:List α):q0y k nm f (a++b)=q0y k nm f a++q0y k nm f b:=by unfold q0y;simp
theorem q1y {nm:List UInt8} {f:α→α} {l:List α} (h: ∀y∈l,k y≠nm):q0y k nm f l=l:=q5B (q0S h)
theorem q0Z {nm:List UInt8} {a b:List α} (h: ∀y∈a,k y≠nm):q0E k nm (a++b)=q0E k nm b:=by
  unfold q0E
  rw[List.find?_append]
  have:List.find? (fun y=>k y==nm) a=none:=q0S h
  rw[this];rfl
end
end Go.Proofs.YtmajfklnagdlpaaGreatDoor
