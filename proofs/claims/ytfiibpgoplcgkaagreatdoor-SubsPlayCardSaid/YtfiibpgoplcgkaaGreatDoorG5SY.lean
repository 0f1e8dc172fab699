/- Plain laws. -/
import Derived.Test.YtfiibpgoplcgkaaGreatDoorG0SY
import Derived.Sort.KeysCollected
import Derived.Lib.Hide
set_option linter.unusedVariables false
set_option linter.unusedSimpArgs false
set_option maxRecDepth 100000
set_option maxHeartbeats 200000
namespace Go.Proofs.YtfiibpgoplcgkaaGreatDoor
section
open Go.RowKit
theorem q4x : ∀a b:List UInt8,bytesBefore a b=decide (a<b)
 |[],[]=>by simp[bytesBefore]
 |[],b::s=>by simp[bytesBefore]
 |a::r,[]=>by simp[bytesBefore]
 | a::r,b::s=>by
  unfold bytesBefore;rw[q4x r s,Bool.eq_iff_iff];simp[List.cons_lt_cons_iff]
section gen
variable {α β:Type}(k:α->List UInt8)
def q3m(x:α):List α->List α
 |[]=>[x]
 |y::r=>if bytesBefore (k x) (k y) then x::y::r else y::q3m x r
def q2s(nm:List UInt8)(l:List α):List α:=l.filter fun y=>!(k y==nm)
def q1U(nm:List UInt8)(f:α->α)(l:List α):List α:=l.map fun y=>if k y==nm then f y else y
def q0H(nm:List UInt8)(l:List α):Option α:=l.find? fun y=>k y==nm
def q3R(l:List α):Prop:=l.Pairwise fun x y=>bytesBefore (k x) (k y)=true
variable {k}
theorem q4X(x:α): ∀l:List α,(q3m k x l).Perm (x::l)
 |[]=>List.Perm.refl _
 | y::r=>by
  unfold q3m
  split
  ·exact List.Perm.refl _
  ·exact(List.Perm.cons y (q4X x r)).trans (List.Perm.swap x y r)
theorem mem_insN{x y:α}{l:List α}:y∈q3m k x l↔y=x\/y∈l:=by rw[(q4X x l).mem_iff];simp
theorem z1u(x:α)(l:List α):(q3m k x l).length=l.length+1:=by rw[(q4X x l).length_eq];rfl
theorem q9d{x:α}: ∀{l:List α},q3R k l->(∀y∈l,k y≠k x)->q3R k (q3m k x l)
 |[],_,_=>by simp[q3R,q3m]
 | y :: r,h,hne=>by
  obtain⟨j,m⟩:=List.pairwise_cons.1 h;unfold q3m
  split
  ·rename_i d
   refine List.pairwise_cons.2 ⟨fun z b=>?_,h⟩;rcases List.mem_cons.1 b with rfl|b
   ·exact d
   ·exact WideShapes.bytes_trans _ _ _ d (j z b)
  ·rename_i d
   have i:bytesBefore (k y) (k x)=true:=by
    rcases WideAt.bytes_total _ _ (hne y (List.mem_cons_self)) with h|h
    ·exact h
    ·exact absurd h d
   refine List.pairwise_cons.2 ⟨fun z b=>?_,q9d m fun z b=>hne z (List.mem_cons_of_mem _ b)⟩;rcases mem_insN.1 b with rfl|b
   ·exact i
   ·exact j z b
theorem q9N{nm:List UInt8}{l:List α}(h:q3R k l):q3R k (q2s k nm l):=h.filter _
theorem mem_delN{nm:List UInt8}{x:α}{l:List α}:x∈q2s k nm l↔x∈l/\k x≠nm:=by simp[q2s,List.mem_filter]
theorem z0F{nm:List UInt8}{f:α->α}{l:List α}(h:q3R k l)(i: ∀y,k y=nm->k (f y)=nm):q3R k (q1U k nm f l):=by
 refine List.pairwise_map.2 (h.imp fun {x y} d=>?_);have e: ∀z,k (if k z==nm then f z else z)=k z:=fun z=>by
  split
  ·rename_i j
   have b:k z=nm:=by simpa using j
   rw[i z b,b]
  ·rfl
 rw[e,e];exact d
theorem q7w{nm:List UInt8}{f:α->α}(l:List α):(q1U k nm f l).length=l.length:=by simp[q1U]
theorem q0P{nm:List UInt8}{l:List α}{e:α}(h:q0H k nm l=some e):e∈l/\k e=nm:=⟨List.mem_of_find?_eq_some h,by simpa using List.find?_some h⟩
theorem q2H{nm:List UInt8}{l:List α}(h:q0H k nm l=none): ∀y∈l,k y≠nm:=fun y hy=>by simpa using List.find?_eq_none.1 h y hy
theorem q0b{nm:List UInt8}{l:List α}(h: ∀y∈l,k y≠nm):q0H k nm l=none:=List.find?_eq_none.2 fun y b=>by simpa using h y b
theorem z0v{l:List α}(h:q3R k l):l.Pairwise fun x y=>k x≠k y:=h.imp fun {x y} b e=>by rw[e,WideAt.bytes_irrefl] at b;cases b
theorem q6F{l:List α}(h:q3R k l){x y:α}(m:x∈l)(u:y∈l)(e:k x=k y):x=y:=by
 have q:=z0v h;clear h
 induction l with
 |nil=>cases m
 | cons a r ih=>
  obtain⟨j,o⟩:=List.pairwise_cons.1 q;rcases List.mem_cons.1 m with ex|b<;>rcases List.mem_cons.1 u with i|d
  ·rw[ex,i]
  ·subst ex;exact absurd e (j y d)
  ·subst i;exact absurd e.symm (j x b)
  ·exact ih b d o
theorem q4g{nm:List UInt8}{l:List α}(h:q3R k l){e:α}(he:e∈l)(b:k e=nm):q0H k nm l=some e:=by
 cases hf:q0H k nm l with
 |none=>exact absurd b (q2H hf e he)
 |some e'=>obtain⟨d,i⟩:=q0P hf;rw[q6F h d he (i.trans b.symm)]
theorem q5V{nm:List UInt8}{l:List α}(h:q0H k nm l=none):q2s k nm l=l:=List.filter_eq_self.2 fun y b=>by simpa using q2H h y b
theorem q5s{nm:List UInt8}{f:α->α}{l:List α}(h:q0H k nm l=none):q1U k nm f l=l:=by
 unfold q1U
 conv=>rhs;rw[<-List.map_id l]
 exact List.map_congr_left fun y b=>by rw[κ (by simpa using q2H h y b)];rfl
theorem q4h{nm:List UInt8}{f:α->α}{l:List α}(h:q3R k l){e:α}(m:q0H k nm l=some e){y:α}:y∈q1U k nm f l↔y=f e\/(y∈l/\k y≠nm):=by
 obtain⟨d,i⟩:=q0P m;unfold q1U;rw[List.mem_map]
 constructor
 ·rintro⟨z,j,rfl⟩
  by_cases b:k z=nm
  ·obtain rfl:=q6F h j d (b.trans i.symm)
   left;rw[ξ (by simpa using b)]
  ·right;rw[κ (by simpa using b)];exact⟨j,b⟩
 ·rintro(rfl|⟨o,b⟩)
  ·exact⟨e,d,by rw[ξ (by simpa using i)]⟩
  ·exact⟨y,o,by rw[κ (by simpa using b)]⟩
theorem q9m{S:α->α->Prop}{nm:List UInt8}{f:α->α}{l:List α}(h:q3R k l)(r:l.Pairwise S){e:α}(u:q0H k nm l=some e)(m: ∀y∈l,k y≠nm->S (f e) y/\S y (f e)):(q1U k nm f l).Pairwise S:=by
 obtain⟨he,i⟩:=q0P u;refine List.pairwise_map.2 ((r.and (z0v h)).imp_of_mem fun {x y} o q ⟨v,j⟩=>?_);by_cases d:k x=nm
 ·have b:k y≠nm:=fun e=>j (d.trans e.symm)
  obtain rfl:=q6F h o he (d.trans i.symm);rw[ξ (by simpa using d),κ (by simpa using b)];exact(m y q b).1
 ·rw [κ (by simpa using d)]
  by_cases b:k y=nm
  ·obtain rfl:=q6F h q he (b.trans i.symm)
   rw[ξ (by simpa using b)];exact(m x o d).2
  ·rw[κ (by simpa using b)];exact v
section map
variable {k' :β->List UInt8}{h:α->β}(hk: ∀x,k' (h x)=k x)
include hk
theorem q9c(x:α): ∀l:List α,(q3m k x l).map h=q3m k' (h x) (l.map h)
 |[]=>rfl
 | y::r=>by
  unfold q3m;simp only[List.map_cons,hk]
  split
  ·rfl
  ·rw[List.map_cons,q9c x r]
theorem z2z(nm:List UInt8)(l:List α):(q2s k nm l).map h=q2s k' nm (l.map h):=by
 unfold q2s;rw[List.filter_map];congr 1;exact List.filter_congr fun y _=>by simp[hk]
theorem z4D(nm:List UInt8)(f:α->α)(g:β->β)(b: ∀y,h (f y)=g (h y))(l:List α):(q1U k nm f l).map h=q1U k' nm g (l.map h):=by
 unfold q1U;rw[List.map_map,List.map_map];refine List.map_congr_left fun y _=>?_
 simp only[Function.comp,hk];split<;>simp[b]
theorem z7X{nm:List UInt8}{f:α->α}{g:β->β}{l:List α}(m:q3R k l){e:α}(j:q0H k nm l=some e)(d:h (f e)=g (h e)):(q1U k nm f l).map h=q1U k' nm g (l.map h):=by
 obtain⟨he,b⟩:=q0P j;unfold q1U;rw[List.map_map,List.map_map];refine List.map_congr_left fun y o=>?_
 simp only[Function.comp,hk]
 split
 ·rename_i q
  have i:k y=nm:=by simpa using q
  rw[q6F m o he (i.trans b.symm)];exact d
 ·rfl
theorem q1y(nm:List UInt8)(l:List α):q0H k' nm (l.map h)=(q0H k nm l).map h:=by
 unfold q0H;rw[List.find?_map];congr 2;funext y;simp[hk]
theorem z2I{l:List α}:q3R k' (l.map h)↔q3R k l:=by
 unfold q3R;rw[List.pairwise_map];simp only[hk]
end map
def q5u(s:α->Nat)(l:List α):Nat:=(l.map s).sum
theorem z9J(s:α->Nat)(x:α)(l:List α):q5u s (q3m k x l)=s x+q5u s l:=by
 unfold q5u;rw[((q4X x l).map s).sum_nat];simp
theorem z3v(s:α->Nat){nm:List UInt8}: ∀{l:List α},q3R k l-> ∀{e:α},q0H k nm l=some e->q5u s (q2s k nm l)+s e=q5u s l
 |[],_,_,hf=>by simp[q0H] at hf
 | a :: r,h,e,hf=>by
  obtain⟨o,q⟩:=List.pairwise_cons.1 h;by_cases b:k a=nm
  ·have j:a=e:=by unfold q0H at hf;rw[List.find?_cons_of_pos (by simpa using b)] at hf;exact Option.some.inj hf
   subst j;have d:q2s k nm (a::r)=r:=by
    unfold q2s;rw[List.filter_cons_of_neg (by simp[b])];refine List.filter_eq_self.2 fun y u=>?_
    have:=o y u;simp only[Bool.not_eq_true',beq_eq_false_iff_ne];intro m;rw[m,<-b,WideAt.bytes_irrefl] at this
    cases this
   rw[d];simp[q5u];omega
  ·have i:q0H k nm r=some e:=by unfold q0H at hf⊢;rwa [List.find?_cons_of_neg (by simpa using b)] at hf
   have v:=z3v s q i;have d:q2s k nm (a::r)=a::q2s k nm r:=by unfold q2s;rw[List.filter_cons_of_pos (by simpa using b)]
   rw[d];simp only[q5u,List.map_cons,List.sum_cons] at v⊢;omega
theorem q6q(s:α->Nat){nm:List UInt8}{f:α->α}: ∀{l:List α},q3R k l-> ∀{e:α},q0H k nm l=some e->q5u s (q1U k nm f l)+s e=q5u s l+s (f e)
 |[],_,_,hf=>by simp[q0H] at hf
 | a ::r,h,e,hf=>by
  obtain⟨o,q⟩:=List.pairwise_cons.1 h;by_cases b:k a=nm
  ·have m:a=e:=by unfold q0H at hf;rw[List.find?_cons_of_pos (by simpa using b)] at hf;exact Option.some.inj hf
   subst m;have d:q1U k nm f r=r:=q5s (q0b fun y u i=>by have:=o y u;rw[i,<-b,WideAt.bytes_irrefl] at this;cases this);have i:q1U k nm f (a::r)=f a::q1U k nm f r:=by unfold q1U;rw[List.map_cons,ξ (by simpa using b)]
   rw[i,d];simp[q5u];omega
  ·have j:q0H k nm r=some e:=by unfold q0H at hf⊢;rwa [List.find?_cons_of_neg (by simpa using b)] at hf
   have v:=q6q s (f:=f) q j;have d:q1U k nm f (a::r)=a::q1U k nm f r:=by unfold q1U;rw[List.map_cons,κ (by simpa using b)]
   rw[d];simp only[q5u,List.map_cons,List.sum_cons] at v⊢;omega
theorem q6p(s:α->Nat): ∀{l:List α} {e:α},e∈l->s e<=q5u s l
 | a::r,e,h=>by
  rcases List.mem_cons.1 h with rfl|h
  ·simp[q5u]
  ·have:=q6p s h;simp only[q5u,List.map_cons,List.sum_cons] at this⊢;omega
end gen
structure FM where
 nm:List UInt8
 da:List UInt8
 sy:Nat
structure DM where
 cap:Int
 L:List FM
 reads:Int
 starts:Int
 down:Bool
 fail:Bool
 left:Int
 keep:List Int
def q0S(L:List FM):Nat:=q5u (fun f=>f.da.length) L
def q4F(nm:List UInt8):Bool:=!nm.isEmpty&&decide (nm.length<=12)
structure okD(σ:DM):Prop where
 cap0:0<=σ.cap
 cap1:σ.cap<=1048576
 used:(q0S σ.L:Int)<=σ.cap
 ord:q3R FM.nm σ.L
 sy: ∀f∈σ.L,f.sy<=f.da.length
 many:σ.L.length<=400
 left:0<=σ.left
 idle:σ.fail=false->σ.left=0
 keep:σ.keep.length<=1000000
 left1:σ.left<=9223372036854775807
def q1x(σ:DM):Bool:=σ.fail&&decide (σ.left=0)
def q2j(σ:DM):DM:={σ with left:=max (σ.left-1) 0}
def q4E(f:FM)(more:Int):FM:={f with da:=f.da.take (f.sy+min (max more 0).toNat (f.da.length-f.sy)),sy:=f.sy+min (max more 0).toNat (f.da.length-f.sy)}
def q1k :List FM->List Int->List FM
 |[],_=>[]
 |f::r,ks=>q4E f (ks.headD 0)::q1k r ks.tail
def z2x(σ:DM)(ks:List Int):DM:={σ with L:=q1k σ.L ks,down:=true,fail:=false,left:=0,keep:=[]}
def q5l(σ:DM):DM:=z2x σ σ.keep
def q1w(σ:DM)(nm:List UInt8):Int×DM:=
 if σ.down then(61,σ) else if !q4F nm then(2,σ) else if (q0H FM.nm nm σ.L).isSome then(62,σ) else if 400<=σ.L.length then(60,σ)
 else if q1x σ then(61,q5l σ) else(0,{q2j σ with L:=q3m FM.nm ⟨nm,[],0⟩ σ.L})
def q8Q(σ:DM)(nm s:List UInt8):DM:={σ with L:=q1U FM.nm nm (fun f=>{f with da:=f.da++s}) σ.L}
def q1g(σ:DM)(nm s:List UInt8):Int×DM:=
 if σ.down then(61,σ) else if (q0H FM.nm nm σ.L).isNone then(4,σ) else if σ.cap-(q0S σ.L:Int)<(s.length:Int) then(60,σ)
 else if q1x σ then(61,q5l (q8Q σ nm s)) else(0,q2j (q8Q σ nm s))
def q2S(σ:DM):DM:={σ with reads:=wrap64 (σ.reads+1)}
def q1n(σ:DM)(nm:List UInt8)(at_ n:Int):List UInt8×Int×DM:=
 if σ.down then([],61,σ) else match q0H FM.nm nm σ.L with
 |none=>([],4,q2S σ)
 |some f=>if 0<=at_/\0<=n/\at_<=(f.da.length:Int)/\n<=(f.da.length:Int)-at_ then((f.da.drop at_.toNat).take n.toNat,0,q2S σ) else([],2,q2S σ)
def q5p(σ:DM)(nm:List UInt8):Int×DM:=
 if σ.down then(61,σ) else if (q0H FM.nm nm σ.L).isNone then(4,σ) else if q1x σ then(61,q5l σ)
 else(0,{q2j σ with L:=q1U FM.nm nm (fun f=>{f with sy:=f.da.length}) σ.L})
def q1Q(σ:DM)(nm:List UInt8):Int×DM:=
 if σ.down then(61,σ) else if (q0H FM.nm nm σ.L).isNone then(4,σ) else if q1x σ then(61,q5l σ) else(0,{q2j σ with L:=q2s FM.nm nm σ.L})
def q1j(σ:DM)(nm:List UInt8):Int×Int:=
 if σ.down then(0,61) else match q0H FM.nm nm σ.L with|none=>(0,4)|some f=>((f.da.length:Int),0)
def q1m(σ:DM):List (List UInt8):=σ.L.map FM.nm
def z1p(σ:DM):Int:=σ.cap-(q0S σ.L:Int)
def q5T(n:Nat)(f:FM):FM:={f with da:=f.da.take n,sy:=min f.sy (min n f.da.length)}
end
section
open Go.RowKit
def fbF(f:FM):List UInt8×List UInt8:=(f.nm,f.da)
structure Pl(σ:DM)(c s:Int)(l:List (List UInt8×List UInt8)):Prop where
 up:σ.down=false
 fine:σ.fail=false
 files:σ.L.map fbF=l
 cap:σ.cap=c
 st:σ.starts=s
def q2b(l:List (List UInt8×List UInt8)):Nat:=q5u (fun x:List UInt8×List UInt8=>x.2.length) l
section
variable {σ :DM}{c s:Int}{l:List (List UInt8×List UInt8)}{nm t:List UInt8}{x:List UInt8×List UInt8}
theorem q8Z : ∀f:FM,Prod.fst (fbF f)=FM.nm f:=fun _=>rfl
theorem Pl.used(h:Pl σ c s l):q0S σ.L=q2b l:=by
 unfold q0S q2b q5u;rw[<-h.files,List.map_map]
 rfl
theorem Pl.free(h:Pl σ c s l):z1p σ=c-(q2b l:Int):=by unfold z1p;rw[h.cap,h.used]
theorem Pl.find(h:Pl σ c s l)(nm:List UInt8):q0H Prod.fst nm l=(q0H FM.nm nm σ.L).map fbF:=by rw[<-h.files];exact q1y q8Z nm σ.L
theorem Pl.find_some(h:Pl σ c s l)(b:q0H Prod.fst nm l=some x): ∃f,q0H FM.nm nm σ.L=some f/\fbF f=x:=by
 rw[h.find] at b
 cases hq:q0H FM.nm nm σ.L with
 |none=>rw[hq] at b;cases b
 |some f=>rw[hq] at b;exact⟨f,rfl,Option.some.inj b⟩
theorem Pl.find_none(h:Pl σ c s l)(b:q0H Prod.fst nm l=none):q0H FM.nm nm σ.L=none:=by
 rw[h.find] at b
 cases hq:q0H FM.nm nm σ.L with
 |none=>rfl
 |some f=>rw[hq] at b;cases b
theorem Pl.ord(h:Pl σ c s l)(b:okD σ):q3R Prod.fst l:=by rw[<-h.files];exact(z2I q8Z).2 b.ord
theorem Pl.names(h:Pl σ c s l):q1m σ=l.map Prod.fst:=by rw[<-h.files,List.map_map];rfl
theorem Pl.no(h:Pl σ c s l):q1x σ=false:=by unfold q1x;rw[h.fine];rfl
theorem Pl.tell(h:Pl σ c s l):Pl (q2S σ) c s l:=⟨h.up,h.fine,h.files,h.cap,h.st⟩
theorem Pl.size(h:Pl σ c s l)(d:q0H Prod.fst nm l=some x):q1j σ nm=((x.2.length:Int),0):=by
 obtain⟨f,b,rfl⟩:=h.find_some d;unfold q1j;rw[κ (by rw[h.up];decide),b]
 rfl
theorem Pl.sizeN(h:Pl σ c s l)(b:q0H Prod.fst nm l=none):q1j σ nm=(0,4):=by
 unfold q1j;rw[κ (by rw[h.up];decide),h.find_none b]
theorem Pl.read(h:Pl σ c s l)(d:q0H Prod.fst nm l=some x)(a n:Int)(j:0<=a)(m:0<=n)(i:a+n<=(x.2.length:Int)):q1n σ nm a n=((x.2.drop a.toNat).take n.toNat,0,q2S σ):=by
 obtain⟨f,b,rfl⟩:=h.find_some d;unfold q1n;rw[κ (by rw[h.up];decide),b];show(if 0<=a/\0<=n/\a<=(f.da.length:Int)/\n<=(f.da.length:Int)-a then _ else _)=_;have e:(fbF f).2=f.da:=rfl;rw[e] at i;rw[ξ (by omega)]
 rfl
theorem Pl.append(h:Pl σ c s l)(d:q0H Prod.fst nm l=some x)(i:(t.length:Int)<=c-(q2b l:Int)): ∃σ',q1g σ nm t=(0,σ')/\Pl σ' c s (q1U Prod.fst nm (fun x=>(x.1,x.2++t)) l):=by
 obtain⟨f,b,rfl⟩:=h.find_some d;refine⟨q2j (q8Q σ nm t),?_,?_⟩
 ·unfold q1g
  rw[κ (by rw[h.up];decide),b,κ (by simp),κ (by rw[h.cap,h.used];omega),κ (by rw[h.no];decide)]
 ·exact⟨h.up,h.fine,by rw[<-h.files];exact z4D (k:=FM.nm) (k':=Prod.fst) q8Z nm (fun f=>{f with da:=f.da++t}) (fun x=>(x.1,x.2++t)) (fun _=>rfl) σ.L,h.cap,h.st⟩
theorem Pl.sync(h:Pl σ c s l)(d:q0H Prod.fst nm l=some x): ∃σ',q5p σ nm=(0,σ')/\Pl σ' c s l:=by
 obtain⟨f,b,rfl⟩:=h.find_some d;refine⟨{q2j σ with L:=q1U FM.nm nm (fun f=>{f with sy:=f.da.length}) σ.L},?_,?_⟩
 ·unfold q5p
  rw[κ (by rw[h.up];decide),b,κ (by simp),κ (by rw[h.no];decide)]
 ·refine⟨h.up,h.fine,?_,h.cap,h.st⟩
  rw[<-h.files];show(q1U FM.nm nm _ σ.L).map fbF=_;rw[z4D (k:=FM.nm) (k':=Prod.fst) q8Z nm (fun f=>{f with sy:=f.da.length}) id (fun _=>rfl) σ.L];unfold q1U
  conv=>rhs;rw[<-List.map_id (σ.L.map fbF)]
  exact List.map_congr_left fun y _=>by split<;>rfl
theorem Pl.create(h:Pl σ c s l)(b:q0H Prod.fst nm l=none)(hk:q4F nm=true)(hm:l.length<400): ∃σ',q1w σ nm=(0,σ')/\Pl σ' c s (q3m Prod.fst (nm,[]) l):=by
 refine⟨{q2j σ with L:=q3m FM.nm ⟨nm,[],0⟩ σ.L},?_,?_⟩
 ·unfold q1w
  have e:σ.L.length=l.length:=by rw[<-h.files,List.length_map]
  rw[κ (by rw[h.up];decide),κ (by rw[hk];decide),h.find_none b,κ (by simp),κ (by omega),κ (by rw[h.no];decide)]
 ·refine⟨h.up,h.fine,?_,h.cap,h.st⟩
  rw[<-h.files];exact q9c (k:=FM.nm) (k':=Prod.fst) q8Z ⟨nm,[],0⟩ σ.L
end
section
variable {α :Type}{k:α->List UInt8}
theorem q4r(nm:List UInt8)(f:α->α)(a b:List α):q1U k nm f (a++b)=q1U k nm f a++q1U k nm f b:=by unfold q1U;simp
theorem q3F{nm:List UInt8}{f:α->α}{l:List α}(h: ∀y∈l,k y≠nm):q1U k nm f l=l:=q5s (q0b h)
theorem q0d{nm:List UInt8}{a b:List α}(h: ∀y∈a,k y≠nm):q0H k nm (a++b)=q0H k nm b:=by
 unfold q0H;rw[List.find?_append];have:List.find? (fun y=>k y==nm) a=none:=q0b h;rw[this];rfl
end
def q4R(L:List FM)(xs:List Int)(i:Nat):List FM:=q1k (L.take i) xs++L.drop i
theorem q5S : ∀(L:List FM) (xs:List Int),(q1k L xs).length=L.length
 |[],_=>rfl
 |f::r,xs=>by simp[q1k,q5S r]
theorem z5d(f:FM)(x:Int):(q4E f x).nm=f.nm:=rfl
theorem q7B : ∀(L:List FM) (xs:List Int),(q1k L xs).map FM.nm=L.map FM.nm
 |[],_=>rfl
 |f::r,xs=>by simp[q1k,q7B r,z5d]
theorem z5f(L:List FM)(b:List Int):q4R L b 0=L:=by simp[q4R,q1k]
theorem z7y(L:List FM)(b:List Int):q4R L b L.length=q1k L b:=by simp[q4R]
theorem z1j(L:List FM)(b:List Int)(i:Nat):(q4R L b i).map FM.nm=L.map FM.nm:=by
 unfold q4R;rw[List.map_append,q7B,<-List.map_append,List.take_append_drop]
theorem z3a{L b:List FM}(h:q3R FM.nm L)(e:b.map FM.nm=L.map FM.nm):q3R FM.nm b:=by
 have d:q3R (fun x:List UInt8=>x) (L.map FM.nm):=(z2I (k:=FM.nm) (h:=FM.nm) fun x=>rfl).2 h;rw[<-e] at d;exact(z2I (k:=FM.nm) (h:=FM.nm) fun x=>rfl).1 d
theorem z6G(b:List Int)(i:Nat):b.tail.getD i 0=b.getD (i+1) 0:=by
 cases b<;>simp[δ]
theorem z4g(b:List Int):b.headD 0=b.getD 0 0:=by cases b<;>simp
theorem q7C : ∀(l:List FM) (f:FM) (xs:List Int),q1k (l++[f]) xs=q1k l xs++[q4E f (xs.getD l.length 0)]
 |[],f,xs=>by simp only[List.nil_append,q1k,List.length_nil,z4g]
 | a::r,f,xs=>by
  rw[List.cons_append,q1k,q1k,q7C r f xs.tail,z6G]
  rfl
theorem z2j{nm:List UInt8}{h:FM->FM}{a c:List FM}{f:FM}(d:f.nm=nm)(q:q3R FM.nm (a++f::c)):q1U FM.nm nm h (a++f::c)=a++h f::c:=by
 have b:=z0v q;rw[List.pairwise_append] at b;obtain⟨_,m,o⟩:=b;have j:q1U FM.nm nm h a=a:=q5s (q0b fun y i e=>o y i f (by simp) (e.trans d.symm));have hc:q1U FM.nm nm h c=c:=q5s (q0b fun y i e=>(List.pairwise_cons.1 m).1 y i (d.trans e.symm));unfold q1U at j hc⊢;rw[List.map_append,List.map_cons,j,hc,ξ (by simpa using d)]
theorem z0W{L:List FM}(b:List Int){i:Nat}(d:i<L.length)(q:q3R FM.nm L):
  q0H FM.nm L[i].nm (q4R L b i)=some L[i]/\ ∀h:FM->FM,h L[i]=q4E L[i] (b.getD i 0)->q1U FM.nm L[i].nm h (q4R L b i)=q4R L b (i+1):=by
 have m:q4R L b i=q1k (L.take i) b++L[i]::L.drop (i+1):=by unfold q4R;rw[List.drop_eq_getElem_cons d]
 have j:q3R FM.nm (q4R L b i):=z3a q (z1j L b i);have hm:L[i]∈q4R L b i:=by rw[m];exact List.mem_append_right _ List.mem_cons_self
 refine⟨q4g j hm rfl,fun h o=>?_⟩;rw[m] at j⊢;rw[z2j rfl j,o];unfold q4R;rw[List.take_succ_eq_append_getElem d,q7C,Θ,Nat.min_eq_left (Nat.le_of_lt d)];simp
theorem z5H{nm:List UInt8}{h b:FM->FM}{L:List FM}(hk: ∀y,(h y).nm=y.nm):q1U FM.nm nm b (q1U FM.nm nm h L)=q1U FM.nm nm (fun y=>b (h y)) L:=by
 unfold q1U;rw[List.map_map];refine List.map_congr_left fun y _=>?_
 simp only[Function.comp];by_cases e:(y.nm==nm)=true
 ·rw[ξ e,ξ (by rw[hk];exact e),ξ e]
 ·rw[κ e,κ e,κ e]
theorem z5c(f:FM)(x:Int):(q4E f x).da.length<=f.da.length:=by simp[q4E];omega
theorem z5e(f:FM)(x:Int)(h:f.sy<=f.da.length):(q4E f x).sy=(q4E f x).da.length:=by simp[q4E];omega
theorem q7y : ∀(L:List FM) (xs:List Int),q0S (q1k L xs)<=q0S L
 |[],_=>ι _
 | f::r,xs=>by
  have:=q7y r xs.tail;have:=z5c f (xs.headD 0);unfold q0S q5u at*;simp only[q1k,List.map_cons,List.sum_cons];omega
theorem q6Z(a b:List FM):q0S (a++b)=q0S a+q0S b:=by simp[q0S,q5u]
theorem z5I(L:List FM)(b:List Int)(i:Nat):q0S (q4R L b i)<=q0S L:=by
 unfold q4R;have e:q0S L=q0S (L.take i)+q0S (L.drop i):=by rw[<-q6Z,List.take_append_drop]
 rw[q6Z,e];have:=q7y (L.take i) b;omega
theorem z0V : ∀(L:List FM) (xs:List Int),(∀f∈L,f.sy<=f.da.length)-> ∀f∈q1k L xs,f.sy=f.da.length
 |[],_,_=>by simp[q1k]
 | a::r,xs,h=>by
  intro f b;rw[q1k] at b;rcases List.mem_cons.1 b with rfl|b
  ·exact z5e _ _ (h a (by simp))
  ·exact z0V r xs.tail (fun g d=>h g (by simp[d])) f b
theorem z7w{σ:DM}(h:okD σ)(b:List Int):okD (z2x σ b):=by
 refine⟨h.cap0,h.cap1,?_,z3a h.ord (q7B _ _),fun f d=>Nat.le_of_eq (z0V _ _ h.sy f d),?_,Int.le_refl _,fun _=>rfl,υ _,by show(0:Int)<=_;decide⟩
 ·have:=h.used
  have:=q7y σ.L b;show(q0S (q1k σ.L b):Int)<=σ.cap;omega
 ·show(q1k σ.L b).length<=400
  rw[q5S];exact h.many
theorem z1Q{L:List FM}{nm:List UInt8}{f:FM->FM}(d:q3R FM.nm L){e:FM}(b:q0H FM.nm nm L=some e):q0S (q1U FM.nm nm f L)+e.da.length=q0S L+(f e).da.length:=q6q _ d b
theorem z1N{L:List FM}{nm:List UInt8}(d:q3R FM.nm L){e:FM}(b:q0H FM.nm nm L=some e):q0S (q2s FM.nm nm L)+e.da.length=q0S L:=z3v _ d b
theorem z1P(x:FM)(L:List FM):q0S (q3m FM.nm x L)=x.da.length+q0S L:=z9J _ x L
theorem q7z{L:List FM}{e:FM}(h:e∈L):e.da.length<=q0S L:=q6p (fun f:FM=>f.da.length) h
theorem okD.tick{σ:DM}(h:okD σ):okD (q2j σ):=
 ⟨h.cap0,h.cap1,h.used,h.ord,h.sy,h.many,(by show 0<=max (σ.left-1) 0;omega),(fun b=>by have:=h.idle b;show max (σ.left-1) 0=0;omega),h.keep,by have:=h.left1;show max (σ.left-1) 0<=_;omega⟩
theorem okD.sink{σ:DM}(h:okD σ):okD (q5l σ):=z7w h _
theorem okD.files{σ:DM}(h:okD σ){L:List FM}(i:(q0S L:Int)<=σ.cap)(b:q3R FM.nm L)(d: ∀f∈L,f.sy<=f.da.length)(hm:L.length<=400):okD {σ with L:=L}:=
 ⟨h.cap0,h.cap1,i,b,d,hm,h.left,h.idle,h.keep,h.left1⟩
theorem okD.upd{σ:DM}(h:okD σ){nm:List UInt8}{f:FM->FM}{e:FM}(d:q0H FM.nm nm σ.L=some e)(m:(q0S (q1U FM.nm nm f σ.L):Int)<=σ.cap)(i: ∀y,(f y).nm=y.nm)(j:(f e).sy<=(f e).da.length):okD {σ with L:=q1U FM.nm nm f σ.L}:=by
 refine h.files m (z0F h.ord fun y b=>by rw[i,b]) (fun y b=>?_) (by rw[q7w];exact h.many);rcases(q4h h.ord d).1 b with rfl|⟨b,_⟩
 ·exact j
 ·exact h.sy y b
theorem okD.app{σ:DM}(h:okD σ){nm s:List UInt8}{e:FM}(b:q0H FM.nm nm σ.L=some e)(o:(q0S σ.L:Int)+s.length<=σ.cap):okD (q8Q σ nm s)/\q0S (q8Q σ nm s).L=q0S σ.L+s.length:=by
 have i:=z1Q (f:=fun f:FM=>{f with da:=f.da++s}) h.ord b;have j:=h.sy e (q0P b).1;have m:({e with da:=e.da++s}:FM).da.length=e.da.length+s.length:=θ;have d:q0S (q1U FM.nm nm (fun f:FM=>{f with da:=f.da++s}) σ.L)=q0S σ.L+s.length:=by omega
 exact⟨h.upd b (by rw[d];omega) (fun y=>rfl) (by show e.sy<=(e.da++s).length;rw[θ];omega),d⟩
theorem okD.create{σ:DM}(h:okD σ){nm:List UInt8}(d:q0H FM.nm nm σ.L=none)(hm:σ.L.length<400):okD {σ with L:=q3m FM.nm ⟨nm,[],0⟩ σ.L}:=by
 refine h.files (by rw[z1P];have:=h.used;simpa using this) (q9d h.ord (q2H d)) (fun f b=>?_) (by rw[z1u];omega);rcases mem_insN.1 b with rfl|b
 ·exact ι _
 ·exact h.sy f b
theorem okD.tell{σ:DM}(h:okD σ):okD (q2S σ):=⟨h.cap0,h.cap1,h.used,h.ord,h.sy,h.many,h.left,h.idle,h.keep,h.left1⟩
theorem okD.sync{σ:DM}(h:okD σ){nm:List UInt8}{e:FM}(d:q0H FM.nm nm σ.L=some e):okD {σ with L:=q1U FM.nm nm (fun f=>{f with sy:=f.da.length}) σ.L}/\q0S (q1U FM.nm nm (fun f=>{f with sy:=f.da.length}) σ.L)=q0S σ.L:=by
 have i:=z1Q (f:=fun f:FM=>{f with sy:=f.da.length}) h.ord d;have b:q0S (q1U FM.nm nm (fun f:FM=>{f with sy:=f.da.length}) σ.L)=q0S σ.L:=by
  have:({e with sy:=e.da.length}:FM).da.length=e.da.length:=rfl;omega
 exact⟨h.upd d (by rw[b];exact h.used) (fun y=>rfl) (ι _),b⟩
theorem z9x(nm:List UInt8)(L:List FM):(q2s FM.nm nm L).length<=L.length:=List.length_filter_le _ _
theorem z1O{L:List FM}(nm:List UInt8)(b:q3R FM.nm L):q0S (q2s FM.nm nm L)<=q0S L:=by
 cases hf:q0H FM.nm nm L with
 |none=>rw[q5V hf];exact ι _
 |some e=>have:=z1N b hf;omega
theorem okD.delete{σ:DM}(h:okD σ)(nm:List UInt8):okD {σ with L:=q2s FM.nm nm σ.L}:=
 h.files (by have:=z1O nm h.ord;have:=h.used;omega) (q9N h.ord) (fun f b=>h.sy f (mem_delN.1 b).1) (by have:=z9x nm σ.L;have:=h.many;omega)
end
end Go.Proofs.YtfiibpgoplcgkaaGreatDoor
