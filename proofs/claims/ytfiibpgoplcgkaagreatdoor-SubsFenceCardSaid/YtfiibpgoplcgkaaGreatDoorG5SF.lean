/- Plain laws. -/
import Derived.Test.YtfiibpgoplcgkaaGreatDoorG0SF
import Derived.Sort.KeysCollected
import Derived.Lib.Hide
set_option linter.unusedVariables false
set_option linter.unusedSimpArgs false
set_option maxRecDepth 100000
set_option maxHeartbeats 200000
namespace Go.Proofs.YtfiibpgoplcgkaaGreatDoor
section
open Go.RowKit
theorem q4i : ∀a b:List UInt8,bytesBefore a b=decide (a<b)
 |[],[]=>by simp[bytesBefore]
 |[],b::s=>by simp[bytesBefore]
 |a::r,[]=>by simp[bytesBefore]
 | a::r,b::s=>by
  unfold bytesBefore;rw[q4i r s,Bool.eq_iff_iff];simp[List.cons_lt_cons_iff]
section gen
variable {α β:Type}(k:α->List UInt8)
def q3c(x:α):List α->List α
 |[]=>[x]
 |y::r=>if bytesBefore (k x) (k y) then x::y::r else y::q3c x r
def q2i(nm:List UInt8)(l:List α):List α:=l.filter fun y=>!(k y==nm)
def q1O(nm:List UInt8)(f:α->α)(l:List α):List α:=l.map fun y=>if k y==nm then f y else y
def q0F(nm:List UInt8)(l:List α):Option α:=l.find? fun y=>k y==nm
def q3I(l:List α):Prop:=l.Pairwise fun x y=>bytesBefore (k x) (k y)=true
variable {k}
theorem q4H(x:α): ∀l:List α,(q3c k x l).Perm (x::l)
 |[]=>List.Perm.refl _
 | y::r=>by
  unfold q3c
  split
  ·exact List.Perm.refl _
  ·exact(List.Perm.cons y (q4H x r)).trans (List.Perm.swap x y r)
theorem mem_insN{x y:α}{l:List α}:y∈q3c k x l↔y=x\/y∈l:=by rw[(q4H x l).mem_iff];simp
theorem z1G(x:α)(l:List α):(q3c k x l).length=l.length+1:=by rw[(q4H x l).length_eq];rfl
theorem q8u{x:α}: ∀{l:List α},q3I k l->(∀y∈l,k y≠k x)->q3I k (q3c k x l)
 |[],_,_=>by simp[q3I,q3c]
 | y :: r,h,hne=>by
  obtain⟨j,m⟩:=List.pairwise_cons.1 h;unfold q3c
  split
  ·rename_i d
   refine List.pairwise_cons.2 ⟨fun z b=>?_,h⟩;rcases List.mem_cons.1 b with rfl|b
   ·exact d
   ·exact WideShapes.bytes_trans _ _ _ d (j z b)
  ·rename_i d
   have i:bytesBefore (k y) (k x)=true:=by
    rcases WideAt.bytes_total _ _ (hne y (List.mem_cons_self)) with h|h
    ·exact h
    ·exact absurd h d
   refine List.pairwise_cons.2 ⟨fun z b=>?_,q8u m fun z b=>hne z (List.mem_cons_of_mem _ b)⟩;rcases mem_insN.1 b with rfl|b
   ·exact i
   ·exact j z b
theorem q8d{nm:List UInt8}{l:List α}(h:q3I k l):q3I k (q2i k nm l):=h.filter _
theorem mem_delN{nm:List UInt8}{x:α}{l:List α}:x∈q2i k nm l↔x∈l/\k x≠nm:=by simp[q2i,List.mem_filter]
theorem q9R{nm:List UInt8}{f:α->α}{l:List α}(h:q3I k l)(i: ∀y,k y=nm->k (f y)=nm):q3I k (q1O k nm f l):=by
 refine List.pairwise_map.2 (h.imp fun {x y} d=>?_);have e: ∀z,k (if k z==nm then f z else z)=k z:=fun z=>by
  split
  ·rename_i j
   have b:k z=nm:=by simpa using j
   rw[i z b,b]
  ·rfl
 rw[e,e];exact d
theorem q7U{nm:List UInt8}{f:α->α}(l:List α):(q1O k nm f l).length=l.length:=by simp[q1O]
theorem q0M{nm:List UInt8}{l:List α}{e:α}(h:q0F k nm l=some e):e∈l/\k e=nm:=⟨List.mem_of_find?_eq_some h,by simpa using List.find?_some h⟩
theorem q1w{nm:List UInt8}{l:List α}(h:q0F k nm l=none): ∀y∈l,k y≠nm:=fun y hy=>by simpa using List.find?_eq_none.1 h y hy
theorem q0V{nm:List UInt8}{l:List α}(h: ∀y∈l,k y≠nm):q0F k nm l=none:=List.find?_eq_none.2 fun y b=>by simpa using h y b
theorem z0K{l:List α}(h:q3I k l):l.Pairwise fun x y=>k x≠k y:=h.imp fun {x y} b e=>by rw[e,WideAt.bytes_irrefl] at b;cases b
theorem q5j{l:List α}(h:q3I k l){x y:α}(m:x∈l)(u:y∈l)(e:k x=k y):x=y:=by
 have q:=z0K h;clear h
 induction l with
 |nil=>cases m
 | cons a r ih=>
  obtain⟨j,o⟩:=List.pairwise_cons.1 q;rcases List.mem_cons.1 m with ex|b<;>rcases List.mem_cons.1 u with i|d
  ·rw[ex,i]
  ·subst ex;exact absurd e (j y d)
  ·subst i;exact absurd e.symm (j x b)
  ·exact ih b d o
theorem q4R{nm:List UInt8}{l:List α}(h:q3I k l){e:α}(he:e∈l)(b:k e=nm):q0F k nm l=some e:=by
 cases hf:q0F k nm l with
 |none=>exact absurd b (q1w hf e he)
 |some e'=>obtain⟨d,i⟩:=q0M hf;rw[q5j h d he (i.trans b.symm)]
theorem q5D{nm:List UInt8}{l:List α}(h:q0F k nm l=none):q2i k nm l=l:=List.filter_eq_self.2 fun y b=>by simpa using q1w h y b
theorem q5Y{nm:List UInt8}{f:α->α}{l:List α}(h:q0F k nm l=none):q1O k nm f l=l:=by
 unfold q1O
 conv=>rhs;rw[<-List.map_id l]
 exact List.map_congr_left fun y b=>by rw[κ (by simpa using q1w h y b)];rfl
theorem q4S{nm:List UInt8}{f:α->α}{l:List α}(h:q3I k l){e:α}(m:q0F k nm l=some e){y:α}:y∈q1O k nm f l↔y=f e\/(y∈l/\k y≠nm):=by
 obtain⟨d,i⟩:=q0M m;unfold q1O;rw[List.mem_map]
 constructor
 ·rintro⟨z,j,rfl⟩
  by_cases b:k z=nm
  ·obtain rfl:=q5j h j d (b.trans i.symm)
   left;rw[ξ (by simpa using b)]
  ·right;rw[κ (by simpa using b)];exact⟨j,b⟩
 ·rintro(rfl|⟨o,b⟩)
  ·exact⟨e,d,by rw[ξ (by simpa using i)]⟩
  ·exact⟨y,o,by rw[κ (by simpa using b)]⟩
theorem q9C{S:α->α->Prop}{nm:List UInt8}{f:α->α}{l:List α}(h:q3I k l)(r:l.Pairwise S){e:α}(u:q0F k nm l=some e)(m: ∀y∈l,k y≠nm->S (f e) y/\S y (f e)):(q1O k nm f l).Pairwise S:=by
 obtain⟨he,i⟩:=q0M u;refine List.pairwise_map.2 ((r.and (z0K h)).imp_of_mem fun {x y} o q ⟨v,j⟩=>?_);by_cases d:k x=nm
 ·have b:k y≠nm:=fun e=>j (d.trans e.symm)
  obtain rfl:=q5j h o he (d.trans i.symm);rw[ξ (by simpa using d),κ (by simpa using b)];exact(m y q b).1
 ·rw [κ (by simpa using d)]
  by_cases b:k y=nm
  ·obtain rfl:=q5j h q he (b.trans i.symm)
   rw[ξ (by simpa using b)];exact(m x o d).2
  ·rw[κ (by simpa using b)];exact v
section map
variable {k' :β->List UInt8}{h:α->β}(hk: ∀x,k' (h x)=k x)
include hk
theorem q8t(x:α): ∀l:List α,(q3c k x l).map h=q3c k' (h x) (l.map h)
 |[]=>rfl
 | y::r=>by
  unfold q3c;simp only[List.map_cons,hk]
  split
  ·rfl
  ·rw[List.map_cons,q8t x r]
theorem z2L(nm:List UInt8)(l:List α):(q2i k nm l).map h=q2i k' nm (l.map h):=by
 unfold q2i;rw[List.filter_map];congr 1;exact List.filter_congr fun y _=>by simp[hk]
theorem z3P(nm:List UInt8)(f:α->α)(g:β->β)(b: ∀y,h (f y)=g (h y))(l:List α):(q1O k nm f l).map h=q1O k' nm g (l.map h):=by
 unfold q1O;rw[List.map_map,List.map_map];refine List.map_congr_left fun y _=>?_
 simp only[Function.comp,hk];split<;>simp[b]
theorem z6a{nm:List UInt8}{f:α->α}{g:β->β}{l:List α}(m:q3I k l){e:α}(j:q0F k nm l=some e)(d:h (f e)=g (h e)):(q1O k nm f l).map h=q1O k' nm g (l.map h):=by
 obtain⟨he,b⟩:=q0M j;unfold q1O;rw[List.map_map,List.map_map];refine List.map_congr_left fun y o=>?_
 simp only[Function.comp,hk]
 split
 ·rename_i q
  have i:k y=nm:=by simpa using q
  rw[q5j m o he (i.trans b.symm)];exact d
 ·rfl
theorem q1o(nm:List UInt8)(l:List α):q0F k' nm (l.map h)=(q0F k nm l).map h:=by
 unfold q0F;rw[List.find?_map];congr 2;funext y;simp[hk]
theorem z1U{l:List α}:q3I k' (l.map h)↔q3I k l:=by
 unfold q3I;rw[List.pairwise_map];simp only[hk]
end map
def q5a(s:α->Nat)(l:List α):Nat:=(l.map s).sum
theorem z8D(s:α->Nat)(x:α)(l:List α):q5a s (q3c k x l)=s x+q5a s l:=by
 unfold q5a;rw[((q4H x l).map s).sum_nat];simp
theorem z3J(s:α->Nat){nm:List UInt8}: ∀{l:List α},q3I k l-> ∀{e:α},q0F k nm l=some e->q5a s (q2i k nm l)+s e=q5a s l
 |[],_,_,hf=>by simp[q0F] at hf
 | a :: r,h,e,hf=>by
  obtain⟨o,q⟩:=List.pairwise_cons.1 h;by_cases b:k a=nm
  ·have j:a=e:=by unfold q0F at hf;rw[List.find?_cons_of_pos (by simpa using b)] at hf;exact Option.some.inj hf
   subst j;have d:q2i k nm (a::r)=r:=by
    unfold q2i;rw[List.filter_cons_of_neg (by simp[b])];refine List.filter_eq_self.2 fun y u=>?_
    have:=o y u;simp only[Bool.not_eq_true',beq_eq_false_iff_ne];intro m;rw[m,<-b,WideAt.bytes_irrefl] at this
    cases this
   rw[d];simp[q5a];omega
  ·have i:q0F k nm r=some e:=by unfold q0F at hf⊢;rwa [List.find?_cons_of_neg (by simpa using b)] at hf
   have v:=z3J s q i;have d:q2i k nm (a::r)=a::q2i k nm r:=by unfold q2i;rw[List.filter_cons_of_pos (by simpa using b)]
   rw[d];simp only[q5a,List.map_cons,List.sum_cons] at v⊢;omega
theorem q6W(s:α->Nat){nm:List UInt8}{f:α->α}: ∀{l:List α},q3I k l-> ∀{e:α},q0F k nm l=some e->q5a s (q1O k nm f l)+s e=q5a s l+s (f e)
 |[],_,_,hf=>by simp[q0F] at hf
 | a ::r,h,e,hf=>by
  obtain⟨o,q⟩:=List.pairwise_cons.1 h;by_cases b:k a=nm
  ·have m:a=e:=by unfold q0F at hf;rw[List.find?_cons_of_pos (by simpa using b)] at hf;exact Option.some.inj hf
   subst m;have d:q1O k nm f r=r:=q5Y (q0V fun y u i=>by have:=o y u;rw[i,<-b,WideAt.bytes_irrefl] at this;cases this);have i:q1O k nm f (a::r)=f a::q1O k nm f r:=by unfold q1O;rw[List.map_cons,ξ (by simpa using b)]
   rw[i,d];simp[q5a];omega
  ·have j:q0F k nm r=some e:=by unfold q0F at hf⊢;rwa [List.find?_cons_of_neg (by simpa using b)] at hf
   have v:=q6W s (f:=f) q j;have d:q1O k nm f (a::r)=a::q1O k nm f r:=by unfold q1O;rw[List.map_cons,κ (by simpa using b)]
   rw[d];simp only[q5a,List.map_cons,List.sum_cons] at v⊢;omega
theorem q6V(s:α->Nat): ∀{l:List α} {e:α},e∈l->s e<=q5a s l
 | a::r,e,h=>by
  rcases List.mem_cons.1 h with rfl|h
  ·simp[q5a]
  ·have:=q6V s h;simp only[q5a,List.map_cons,List.sum_cons] at this⊢;omega
end gen
structure FM where
 nm:List UInt8
 da:List UInt8
 sy:Nat
structure DM where
 cap:Int
 L:List FM
 reads:Int
 starts:Int
 down:Bool
 fail:Bool
 left:Int
 keep:List Int
def q0N(L:List FM):Nat:=q5a (fun f=>f.da.length) L
def q3t(nm:List UInt8):Bool:=!nm.isEmpty&&decide (nm.length<=12)
structure okD(σ:DM):Prop where
 cap0:0<=σ.cap
 cap1:σ.cap<=1048576
 used:(q0N σ.L:Int)<=σ.cap
 ord:q3I FM.nm σ.L
 sy: ∀f∈σ.L,f.sy<=f.da.length
 many:σ.L.length<=400
 left:0<=σ.left
 idle:σ.fail=false->σ.left=0
 keep:σ.keep.length<=1000000
 left1:σ.left<=9223372036854775807
def q1n(σ:DM):Bool:=σ.fail&&decide (σ.left=0)
def q2Y(σ:DM):DM:={σ with left:=max (σ.left-1) 0}
def q3s(f:FM)(more:Int):FM:={f with da:=f.da.take (f.sy+min (max more 0).toNat (f.da.length-f.sy)),sy:=f.sy+min (max more 0).toNat (f.da.length-f.sy)}
def q1b :List FM->List Int->List FM
 |[],_=>[]
 |f::r,ks=>q3s f (ks.headD 0)::q1b r ks.tail
def z2J(σ:DM)(ks:List Int):DM:={σ with L:=q1b σ.L ks,down:=true,fail:=false,left:=0,keep:=[]}
def q5T(σ:DM):DM:=z2J σ σ.keep
def q1m(σ:DM)(nm:List UInt8):Int×DM:=
 if σ.down then(61,σ) else if !q3t nm then(2,σ) else if (q0F FM.nm nm σ.L).isSome then(62,σ) else if 400<=σ.L.length then(60,σ)
 else if q1n σ then(61,q5T σ) else(0,{q2Y σ with L:=q3c FM.nm ⟨nm,[],0⟩ σ.L})
def q7l(σ:DM)(nm s:List UInt8):DM:={σ with L:=q1O FM.nm nm (fun f=>{f with da:=f.da++s}) σ.L}
def q1W(σ:DM)(nm s:List UInt8):Int×DM:=
 if σ.down then(61,σ) else if (q0F FM.nm nm σ.L).isNone then(4,σ) else if σ.cap-(q0N σ.L:Int)<(s.length:Int) then(60,σ)
 else if q1n σ then(61,q5T (q7l σ nm s)) else(0,q2Y (q7l σ nm s))
def q2H(σ:DM):DM:={σ with reads:=wrap64 (σ.reads+1)}
def q1e(σ:DM)(nm:List UInt8)(at_ n:Int):List UInt8×Int×DM:=
 if σ.down then([],61,σ) else match q0F FM.nm nm σ.L with
 |none=>([],4,q2H σ)
 |some f=>if 0<=at_/\0<=n/\at_<=(f.da.length:Int)/\n<=(f.da.length:Int)-at_ then((f.da.drop at_.toNat).take n.toNat,0,q2H σ) else([],2,q2H σ)
def q5W(σ:DM)(nm:List UInt8):Int×DM:=
 if σ.down then(61,σ) else if (q0F FM.nm nm σ.L).isNone then(4,σ) else if q1n σ then(61,q5T σ)
 else(0,{q2Y σ with L:=q1O FM.nm nm (fun f=>{f with sy:=f.da.length}) σ.L})
def q1K(σ:DM)(nm:List UInt8):Int×DM:=
 if σ.down then(61,σ) else if (q0F FM.nm nm σ.L).isNone then(4,σ) else if q1n σ then(61,q5T σ) else(0,{q2Y σ with L:=q2i FM.nm nm σ.L})
def q1Z(σ:DM)(nm:List UInt8):Int×Int:=
 if σ.down then(0,61) else match q0F FM.nm nm σ.L with|none=>(0,4)|some f=>((f.da.length:Int),0)
def q1d(σ:DM):List (List UInt8):=σ.L.map FM.nm
def z1C(σ:DM):Int:=σ.cap-(q0N σ.L:Int)
def q5B(n:Nat)(f:FM):FM:={f with da:=f.da.take n,sy:=min f.sy (min n f.da.length)}
end
section
open Go.RowKit
def fbF(f:FM):List UInt8×List UInt8:=(f.nm,f.da)
structure Pl(σ:DM)(c s:Int)(l:List (List UInt8×List UInt8)):Prop where
 up:σ.down=false
 fine:σ.fail=false
 files:σ.L.map fbF=l
 cap:σ.cap=c
 st:σ.starts=s
def q2R(l:List (List UInt8×List UInt8)):Nat:=q5a (fun x:List UInt8×List UInt8=>x.2.length) l
section
variable {σ :DM}{c s:Int}{l:List (List UInt8×List UInt8)}{nm t:List UInt8}{x:List UInt8×List UInt8}
theorem q7t : ∀f:FM,Prod.fst (fbF f)=FM.nm f:=fun _=>rfl
theorem Pl.used(h:Pl σ c s l):q0N σ.L=q2R l:=by
 unfold q0N q2R q5a;rw[<-h.files,List.map_map]
 rfl
theorem Pl.free(h:Pl σ c s l):z1C σ=c-(q2R l:Int):=by unfold z1C;rw[h.cap,h.used]
theorem Pl.find(h:Pl σ c s l)(nm:List UInt8):q0F Prod.fst nm l=(q0F FM.nm nm σ.L).map fbF:=by rw[<-h.files];exact q1o q7t nm σ.L
theorem Pl.find_some(h:Pl σ c s l)(b:q0F Prod.fst nm l=some x): ∃f,q0F FM.nm nm σ.L=some f/\fbF f=x:=by
 rw[h.find] at b
 cases hq:q0F FM.nm nm σ.L with
 |none=>rw[hq] at b;cases b
 |some f=>rw[hq] at b;exact⟨f,rfl,Option.some.inj b⟩
theorem Pl.find_none(h:Pl σ c s l)(b:q0F Prod.fst nm l=none):q0F FM.nm nm σ.L=none:=by
 rw[h.find] at b
 cases hq:q0F FM.nm nm σ.L with
 |none=>rfl
 |some f=>rw[hq] at b;cases b
theorem Pl.ord(h:Pl σ c s l)(b:okD σ):q3I Prod.fst l:=by rw[<-h.files];exact(z1U q7t).2 b.ord
theorem Pl.names(h:Pl σ c s l):q1d σ=l.map Prod.fst:=by rw[<-h.files,List.map_map];rfl
theorem Pl.no(h:Pl σ c s l):q1n σ=false:=by unfold q1n;rw[h.fine];rfl
theorem Pl.tell(h:Pl σ c s l):Pl (q2H σ) c s l:=⟨h.up,h.fine,h.files,h.cap,h.st⟩
theorem Pl.size(h:Pl σ c s l)(d:q0F Prod.fst nm l=some x):q1Z σ nm=((x.2.length:Int),0):=by
 obtain⟨f,b,rfl⟩:=h.find_some d;unfold q1Z;rw[κ (by rw[h.up];decide),b]
 rfl
theorem Pl.sizeN(h:Pl σ c s l)(b:q0F Prod.fst nm l=none):q1Z σ nm=(0,4):=by
 unfold q1Z;rw[κ (by rw[h.up];decide),h.find_none b]
theorem Pl.read(h:Pl σ c s l)(d:q0F Prod.fst nm l=some x)(a n:Int)(j:0<=a)(m:0<=n)(i:a+n<=(x.2.length:Int)):q1e σ nm a n=((x.2.drop a.toNat).take n.toNat,0,q2H σ):=by
 obtain⟨f,b,rfl⟩:=h.find_some d;unfold q1e;rw[κ (by rw[h.up];decide),b];show(if 0<=a/\0<=n/\a<=(f.da.length:Int)/\n<=(f.da.length:Int)-a then _ else _)=_;have e:(fbF f).2=f.da:=rfl;rw[e] at i;rw[ξ (by omega)]
 rfl
theorem Pl.append(h:Pl σ c s l)(d:q0F Prod.fst nm l=some x)(i:(t.length:Int)<=c-(q2R l:Int)): ∃σ',q1W σ nm t=(0,σ')/\Pl σ' c s (q1O Prod.fst nm (fun x=>(x.1,x.2++t)) l):=by
 obtain⟨f,b,rfl⟩:=h.find_some d;refine⟨q2Y (q7l σ nm t),?_,?_⟩
 ·unfold q1W
  rw[κ (by rw[h.up];decide),b,κ (by simp),κ (by rw[h.cap,h.used];omega),κ (by rw[h.no];decide)]
 ·exact⟨h.up,h.fine,by rw[<-h.files];exact z3P (k:=FM.nm) (k':=Prod.fst) q7t nm (fun f=>{f with da:=f.da++t}) (fun x=>(x.1,x.2++t)) (fun _=>rfl) σ.L,h.cap,h.st⟩
theorem Pl.sync(h:Pl σ c s l)(d:q0F Prod.fst nm l=some x): ∃σ',q5W σ nm=(0,σ')/\Pl σ' c s l:=by
 obtain⟨f,b,rfl⟩:=h.find_some d;refine⟨{q2Y σ with L:=q1O FM.nm nm (fun f=>{f with sy:=f.da.length}) σ.L},?_,?_⟩
 ·unfold q5W
  rw[κ (by rw[h.up];decide),b,κ (by simp),κ (by rw[h.no];decide)]
 ·refine⟨h.up,h.fine,?_,h.cap,h.st⟩
  rw[<-h.files];show(q1O FM.nm nm _ σ.L).map fbF=_;rw[z3P (k:=FM.nm) (k':=Prod.fst) q7t nm (fun f=>{f with sy:=f.da.length}) id (fun _=>rfl) σ.L];unfold q1O
  conv=>rhs;rw[<-List.map_id (σ.L.map fbF)]
  exact List.map_congr_left fun y _=>by split<;>rfl
theorem Pl.create(h:Pl σ c s l)(b:q0F Prod.fst nm l=none)(hk:q3t nm=true)(hm:l.length<400): ∃σ',q1m σ nm=(0,σ')/\Pl σ' c s (q3c Prod.fst (nm,[]) l):=by
 refine⟨{q2Y σ with L:=q3c FM.nm ⟨nm,[],0⟩ σ.L},?_,?_⟩
 ·unfold q1m
  have e:σ.L.length=l.length:=by rw[<-h.files,List.length_map]
  rw[κ (by rw[h.up];decide),κ (by rw[hk];decide),h.find_none b,κ (by simp),κ (by omega),κ (by rw[h.no];decide)]
 ·refine⟨h.up,h.fine,?_,h.cap,h.st⟩
  rw[<-h.files];exact q8t (k:=FM.nm) (k':=Prod.fst) q7t ⟨nm,[],0⟩ σ.L
end
section
variable {α :Type}{k:α->List UInt8}
theorem q4d(nm:List UInt8)(f:α->α)(a b:List α):q1O k nm f (a++b)=q1O k nm f a++q1O k nm f b:=by unfold q1O;simp
theorem q2v{nm:List UInt8}{f:α->α}{l:List α}(h: ∀y∈l,k y≠nm):q1O k nm f l=l:=q5Y (q0V h)
theorem q0Y{nm:List UInt8}{a b:List α}(h: ∀y∈a,k y≠nm):q0F k nm (a++b)=q0F k nm b:=by
 unfold q0F;rw[List.find?_append];have:List.find? (fun y=>k y==nm) a=none:=q0V h;rw[this];rfl
end
def q4D(L:List FM)(xs:List Int)(i:Nat):List FM:=q1b (L.take i) xs++L.drop i
theorem q5A : ∀(L:List FM) (xs:List Int),(q1b L xs).length=L.length
 |[],_=>rfl
 |f::r,xs=>by simp[q1b,q5A r]
theorem z4o(f:FM)(x:Int):(q3s f x).nm=f.nm:=rfl
theorem q6g : ∀(L:List FM) (xs:List Int),(q1b L xs).map FM.nm=L.map FM.nm
 |[],_=>rfl
 |f::r,xs=>by simp[q1b,q6g r,z4o]
theorem z4q(L:List FM)(b:List Int):q4D L b 0=L:=by simp[q4D,q1b]
theorem z6y(L:List FM)(b:List Int):q4D L b L.length=q1b L b:=by simp[q4D]
theorem z0w(L:List FM)(b:List Int)(i:Nat):(q4D L b i).map FM.nm=L.map FM.nm:=by
 unfold q4D;rw[List.map_append,q6g,<-List.map_append,List.take_append_drop]
theorem z2o{L b:List FM}(h:q3I FM.nm L)(e:b.map FM.nm=L.map FM.nm):q3I FM.nm b:=by
 have d:q3I (fun x:List UInt8=>x) (L.map FM.nm):=(z1U (k:=FM.nm) (h:=FM.nm) fun x=>rfl).2 h;rw[<-e] at d;exact(z1U (k:=FM.nm) (h:=FM.nm) fun x=>rfl).1 d
theorem z5P(b:List Int)(i:Nat):b.tail.getD i 0=b.getD (i+1) 0:=by
 cases b<;>simp[δ]
theorem z3u(b:List Int):b.headD 0=b.getD 0 0:=by cases b<;>simp
theorem q6h : ∀(l:List FM) (f:FM) (xs:List Int),q1b (l++[f]) xs=q1b l xs++[q3s f (xs.getD l.length 0)]
 |[],f,xs=>by simp only[List.nil_append,q1b,List.length_nil,z3u]
 | a::r,f,xs=>by
  rw[List.cons_append,q1b,q1b,q6h r f xs.tail,z5P]
  rfl
theorem z1v{nm:List UInt8}{h:FM->FM}{a c:List FM}{f:FM}(d:f.nm=nm)(q:q3I FM.nm (a++f::c)):q1O FM.nm nm h (a++f::c)=a++h f::c:=by
 have b:=z0K q;rw[List.pairwise_append] at b;obtain⟨_,m,o⟩:=b;have j:q1O FM.nm nm h a=a:=q5Y (q0V fun y i e=>o y i f (by simp) (e.trans d.symm));have hc:q1O FM.nm nm h c=c:=q5Y (q0V fun y i e=>(List.pairwise_cons.1 m).1 y i (d.trans e.symm));unfold q1O at j hc⊢;rw[List.map_append,List.map_cons,j,hc,ξ (by simpa using d)]
theorem q9i{L:List FM}(b:List Int){i:Nat}(d:i<L.length)(q:q3I FM.nm L):
  q0F FM.nm L[i].nm (q4D L b i)=some L[i]/\ ∀h:FM->FM,h L[i]=q3s L[i] (b.getD i 0)->q1O FM.nm L[i].nm h (q4D L b i)=q4D L b (i+1):=by
 have m:q4D L b i=q1b (L.take i) b++L[i]::L.drop (i+1):=by unfold q4D;rw[List.drop_eq_getElem_cons d]
 have j:q3I FM.nm (q4D L b i):=z2o q (z0w L b i);have hm:L[i]∈q4D L b i:=by rw[m];exact List.mem_append_right _ List.mem_cons_self
 refine⟨q4R j hm rfl,fun h o=>?_⟩;rw[m] at j⊢;rw[z1v rfl j,o];unfold q4D;rw[List.take_succ_eq_append_getElem d,q6h,Θ,Nat.min_eq_left (Nat.le_of_lt d)];simp
theorem z4Q{nm:List UInt8}{h b:FM->FM}{L:List FM}(hk: ∀y,(h y).nm=y.nm):q1O FM.nm nm b (q1O FM.nm nm h L)=q1O FM.nm nm (fun y=>b (h y)) L:=by
 unfold q1O;rw[List.map_map];refine List.map_congr_left fun y _=>?_
 simp only[Function.comp];by_cases e:(y.nm==nm)=true
 ·rw[ξ e,ξ (by rw[hk];exact e),ξ e]
 ·rw[κ e,κ e,κ e]
theorem z4n(f:FM)(x:Int):(q3s f x).da.length<=f.da.length:=by simp[q3s];omega
theorem z4p(f:FM)(x:Int)(h:f.sy<=f.da.length):(q3s f x).sy=(q3s f x).da.length:=by simp[q3s];omega
theorem q7V : ∀(L:List FM) (xs:List Int),q0N (q1b L xs)<=q0N L
 |[],_=>ι _
 | f::r,xs=>by
  have:=q7V r xs.tail;have:=z4n f (xs.headD 0);unfold q0N q5a at*;simp only[q1b,List.map_cons,List.sum_cons];omega
theorem q6C(a b:List FM):q0N (a++b)=q0N a+q0N b:=by simp[q0N,q5a]
theorem z4R(L:List FM)(b:List Int)(i:Nat):q0N (q4D L b i)<=q0N L:=by
 unfold q4D;have e:q0N L=q0N (L.take i)+q0N (L.drop i):=by rw[<-q6C,List.take_append_drop]
 rw[q6C,e];have:=q7V (L.take i) b;omega
theorem q9h : ∀(L:List FM) (xs:List Int),(∀f∈L,f.sy<=f.da.length)-> ∀f∈q1b L xs,f.sy=f.da.length
 |[],_,_=>by simp[q1b]
 | a::r,xs,h=>by
  intro f b;rw[q1b] at b;rcases List.mem_cons.1 b with rfl|b
  ·exact z4p _ _ (h a (by simp))
  ·exact q9h r xs.tail (fun g d=>h g (by simp[d])) f b
theorem z6w{σ:DM}(h:okD σ)(b:List Int):okD (z2J σ b):=by
 refine⟨h.cap0,h.cap1,?_,z2o h.ord (q6g _ _),fun f d=>Nat.le_of_eq (q9h _ _ h.sy f d),?_,Int.le_refl _,fun _=>rfl,υ _,by show(0:Int)<=_;decide⟩
 ·have:=h.used
  have:=q7V σ.L b;show(q0N (q1b σ.L b):Int)<=σ.cap;omega
 ·show(q1b σ.L b).length<=400
  rw[q5A];exact h.many
theorem z0c{L:List FM}{nm:List UInt8}{f:FM->FM}(d:q3I FM.nm L){e:FM}(b:q0F FM.nm nm L=some e):q0N (q1O FM.nm nm f L)+e.da.length=q0N L+(f e).da.length:=q6W _ d b
theorem z0Z{L:List FM}{nm:List UInt8}(d:q3I FM.nm L){e:FM}(b:q0F FM.nm nm L=some e):q0N (q2i FM.nm nm L)+e.da.length=q0N L:=z3J _ d b
theorem z0b(x:FM)(L:List FM):q0N (q3c FM.nm x L)=x.da.length+q0N L:=z8D _ x L
theorem q7W{L:List FM}{e:FM}(h:e∈L):e.da.length<=q0N L:=q6V (fun f:FM=>f.da.length) h
theorem okD.tick{σ:DM}(h:okD σ):okD (q2Y σ):=
 ⟨h.cap0,h.cap1,h.used,h.ord,h.sy,h.many,(by show 0<=max (σ.left-1) 0;omega),(fun b=>by have:=h.idle b;show max (σ.left-1) 0=0;omega),h.keep,by have:=h.left1;show max (σ.left-1) 0<=_;omega⟩
theorem okD.sink{σ:DM}(h:okD σ):okD (q5T σ):=z6w h _
theorem okD.files{σ:DM}(h:okD σ){L:List FM}(i:(q0N L:Int)<=σ.cap)(b:q3I FM.nm L)(d: ∀f∈L,f.sy<=f.da.length)(hm:L.length<=400):okD {σ with L:=L}:=
 ⟨h.cap0,h.cap1,i,b,d,hm,h.left,h.idle,h.keep,h.left1⟩
theorem okD.upd{σ:DM}(h:okD σ){nm:List UInt8}{f:FM->FM}{e:FM}(d:q0F FM.nm nm σ.L=some e)(m:(q0N (q1O FM.nm nm f σ.L):Int)<=σ.cap)(i: ∀y,(f y).nm=y.nm)(j:(f e).sy<=(f e).da.length):okD {σ with L:=q1O FM.nm nm f σ.L}:=by
 refine h.files m (q9R h.ord fun y b=>by rw[i,b]) (fun y b=>?_) (by rw[q7U];exact h.many);rcases(q4S h.ord d).1 b with rfl|⟨b,_⟩
 ·exact j
 ·exact h.sy y b
theorem okD.app{σ:DM}(h:okD σ){nm s:List UInt8}{e:FM}(b:q0F FM.nm nm σ.L=some e)(o:(q0N σ.L:Int)+s.length<=σ.cap):okD (q7l σ nm s)/\q0N (q7l σ nm s).L=q0N σ.L+s.length:=by
 have i:=z0c (f:=fun f:FM=>{f with da:=f.da++s}) h.ord b;have j:=h.sy e (q0M b).1;have m:({e with da:=e.da++s}:FM).da.length=e.da.length+s.length:=θ;have d:q0N (q1O FM.nm nm (fun f:FM=>{f with da:=f.da++s}) σ.L)=q0N σ.L+s.length:=by omega
 exact⟨h.upd b (by rw[d];omega) (fun y=>rfl) (by show e.sy<=(e.da++s).length;rw[θ];omega),d⟩
theorem okD.create{σ:DM}(h:okD σ){nm:List UInt8}(d:q0F FM.nm nm σ.L=none)(hm:σ.L.length<400):okD {σ with L:=q3c FM.nm ⟨nm,[],0⟩ σ.L}:=by
 refine h.files (by rw[z0b];have:=h.used;simpa using this) (q8u h.ord (q1w d)) (fun f b=>?_) (by rw[z1G];omega);rcases mem_insN.1 b with rfl|b
 ·exact ι _
 ·exact h.sy f b
theorem okD.tell{σ:DM}(h:okD σ):okD (q2H σ):=⟨h.cap0,h.cap1,h.used,h.ord,h.sy,h.many,h.left,h.idle,h.keep,h.left1⟩
theorem okD.sync{σ:DM}(h:okD σ){nm:List UInt8}{e:FM}(d:q0F FM.nm nm σ.L=some e):okD {σ with L:=q1O FM.nm nm (fun f=>{f with sy:=f.da.length}) σ.L}/\q0N (q1O FM.nm nm (fun f=>{f with sy:=f.da.length}) σ.L)=q0N σ.L:=by
 have i:=z0c (f:=fun f:FM=>{f with sy:=f.da.length}) h.ord d;have b:q0N (q1O FM.nm nm (fun f:FM=>{f with sy:=f.da.length}) σ.L)=q0N σ.L:=by
  have:({e with sy:=e.da.length}:FM).da.length=e.da.length:=rfl;omega
 exact⟨h.upd d (by rw[b];exact h.used) (fun y=>rfl) (ι _),b⟩
theorem z8p(nm:List UInt8)(L:List FM):(q2i FM.nm nm L).length<=L.length:=List.length_filter_le _ _
theorem z0a{L:List FM}(nm:List UInt8)(b:q3I FM.nm L):q0N (q2i FM.nm nm L)<=q0N L:=by
 cases hf:q0F FM.nm nm L with
 |none=>rw[q5D hf];exact ι _
 |some e=>have:=z0Z b hf;omega
theorem okD.delete{σ:DM}(h:okD σ)(nm:List UInt8):okD {σ with L:=q2i FM.nm nm σ.L}:=
 h.files (by have:=z0a nm h.ord;have:=h.used;omega) (q8d h.ord) (fun f b=>h.sy f (mem_delN.1 b).1) (by have:=z8p nm σ.L;have:=h.many;omega)
end
end Go.Proofs.YtfiibpgoplcgkaaGreatDoor
