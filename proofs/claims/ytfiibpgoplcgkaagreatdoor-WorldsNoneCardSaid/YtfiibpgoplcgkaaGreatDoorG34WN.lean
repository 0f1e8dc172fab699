/- Walks. -/
import Derived.Test.YtfiibpgoplcgkaaGreatDoorG29WN
import Derived.Test.YtfiibpgoplcgkaaGreatDoorG30WN
import Derived.WideKeyEntry
import Derived.Test.YtfiibpgoplcgkaaGreatDoorG33WN
set_option linter.unusedVariables false
set_option linter.unusedSimpArgs false
set_option maxRecDepth 100000
set_option maxHeartbeats 12800000
namespace Go.Proofs.YtfiibpgoplcgkaaGreatDoor
variable {τ:DM}{n:Int}{e:TE}{u' cnt' k:Nat}{α:Type}{ps:List (List UInt8)}{bs:List Bt}
section
open Go.RowKit Go.Maps
def Man.S(m:Man):List UInt8:=(q3S m.nx m.ck m.sd m.L).1
theorem z3o{c:Int}(h:c≠0):q2L c≠0:=by
 rcases z3p c with e|e<;>rw[e]
 ·exact h
 ·decide
theorem z8U{σ:DM}{e:Int}(h:q5e σ n=(none,e,τ)):e≠0:=by
 unfold q5e at h
 split at h
 ·next h1=>injection h with _ h2;injection h2 with h2 _;rw[<-h2];exact z3o h1
 ·split at h
  ·injection h with _ h2;injection h2 with h2 _;rw[<-h2];decide
  ·split at h
   ·injection h with _ h2;injection h2 with h2 _;rw[<-h2];decide
   ·injection h with h1 _;cases h1
theorem z4Y{σ:DM}{e:Int}{L:List En}(h:q5e σ n=(some L,e,τ)):e=0:=by
 unfold q5e at h
 split at h
 ·injection h with h1 _;cases h1
 ·split at h
  ·injection h with h1 _;cases h1
  ·split at h
   ·injection h with h1 _;cases h1
   ·injection h with _ h2;injection h2 with h2 _;exact h2.symm
end
section
open Go.RowKit
abbrev Fls :=List UInt8->Option (List UInt8)
def y1p(φ:Fls)(nm t:List UInt8):Fls:=fun x=>if x=nm then some t else φ x
def z5P(φ:Fls)(nm:List UInt8):Fls:=fun x=>if x=nm then none else φ x
def Fl(σ:DM)(c s:Int)(φ:Fls)(u cnt:Nat):Prop:= ∃l,Pl σ c s l/\q2K Prod.fst l/\(∀nm,(q0E Prod.fst nm l).map Prod.snd=φ nm)/\q1T l<=u/\l.length<=cnt
section
variable {σ :DM}{c s:Int}{l:List (List UInt8×List UInt8)}{nm t a b:List UInt8}{x:List UInt8×List UInt8}{φ:Fls}{u cnt:Nat}
theorem Pl.delete(h:Pl σ c s l)(d:q0E Prod.fst nm l=some x): ∃σ',q1H σ nm=(0,σ')/\Pl σ' c s (q1I Prod.fst nm l):=by
 obtain⟨f,h1,rfl⟩:=h.find_some d;refine⟨{q1Y σ with L:=q1I FM.nm nm σ.L},?_,h.up,h.fine,?_,h.cap,h.st⟩
 ·unfold q1H
  rw[κ (by rw[h.up];decide),h1,κ (by simp),κ (by rw[h.no];decide)]
 ·rw[<-h.files]
  exact q5T (k:=FM.nm) (k':=Prod.fst) q4z nm σ.L
theorem Pl.deleteN(h:Pl σ c s l)(d:q0E Prod.fst nm l=none):q1H σ nm=(4,σ):=by
 unfold q1H;rw[κ (by rw[h.up];decide),h.find_none d,ξ (by simp)]
theorem Pl.rename(h:Pl σ c s l)(j:q0E Prod.fst a l=some x)(i:q2B b=true)(d:a≠b): ∃σ',q1z σ a b=(0,σ')/\Pl σ' c s (q1b Prod.fst (b,x.2) (q1I Prod.fst a (q1I Prod.fst b l))):=by
 obtain⟨f,h1,rfl⟩:=h.find_some j;refine⟨{q1Y σ with L:=z4b a b f σ.L},?_,h.up,h.fine,?_,h.cap,h.st⟩
 ·unfold q1z
  rw[κ (by rw[h.up];decide),h1];simp only;rw[κ (by rw[i];decide),κ (by rw[h.no];decide),κ d]
 ·rw[<-h.files]
  show(z4b a b f σ.L).map fbF=_;unfold z4b;rw[q5b (k:=FM.nm) (k':=Prod.fst) q4z,q5T (k:=FM.nm) (k':=Prod.fst) q4z,q5T (k:=FM.nm) (k':=Prod.fst) q4z]
  rfl
theorem q9E(nm:List UInt8)(l:List (List UInt8×List UInt8)):q0E Prod.fst nm (q1I Prod.fst nm l)=none:=q0R fun y d=>(mem_delN.1 d).2
theorem z5j{nm d:List UInt8}(l:List (List UInt8×List UInt8))(i:nm≠d):q0E Prod.fst nm (q1I Prod.fst d l)=q0E Prod.fst nm l:=by
 unfold q0E q1I;rw[List.find?_filter]
 congr 1
 funext y
 by_cases j:y.1=nm
 ·have h1:(y.1==nm)=true:=by simpa using j
  have h2:(y.1==d)=false:=by rw[j];simpa using i
  rw[h1,h2];rfl
 ·have h1:(y.1==nm)=false:=by simpa using j
  rw[h1];simp
theorem z7B(nm:List UInt8)(l:List (List UInt8×List UInt8)):q1T (q1I Prod.fst nm l)<=q1T l:=by
 unfold q1T q4u q1I
 induction l with
 |nil=>exact ι _
 | cons y r ih=>
  rw[List.filter_cons]
  split
  ·simp only[List.map_cons,List.sum_cons];omega
  ·simp only[List.map_cons,List.sum_cons];omega
theorem z9P(nm:List UInt8)(l:List (List UInt8×List UInt8)):(q1I Prod.fst nm l).length<=l.length:=List.length_filter_le _ _
theorem Fl.find(d: ∀nm,(q0E Prod.fst nm l).map Prod.snd=φ nm)(h:φ nm=some t):q0E Prod.fst nm l=some (nm,t):=by
 have h1:=d nm;rw[h] at h1
 cases hf:q0E Prod.fst nm l with
 |none=>rw[hf] at h1;cases h1
 | some y=>
  rw[hf] at h1;have h2:=(q0J hf).2;injection h1 with h1;rw[<-h1,<-h2]
theorem Fl.noFind(d: ∀nm,(q0E Prod.fst nm l).map Prod.snd=φ nm)(h:φ nm=none):q0E Prod.fst nm l=none:=by
 have h1:=d nm;rw[h] at h1
 cases hf:q0E Prod.fst nm l with
 |none=>rfl
 |some y=>rw[hf] at h1;cases h1
theorem Fl.put(i: ∀nm,(q0E Prod.fst nm l).map Prod.snd=φ nm)(h:φ nm=none)(t:List UInt8): ∀x,(q0E Prod.fst x (q1b Prod.fst (nm,t) l)).map Prod.snd=y1p φ nm t x:=fun x=>by
 unfold y1p;by_cases d:x=nm
 ·subst d
  rw[ξ rfl,q4U (k:=Prod.fst) (x:=(x,t)) (q0o (Fl.noFind i h))]
  rfl
 ·rw[κ d,q4V (k:=Prod.fst) (x:=(nm,t)) (fun e=>d e.symm)]
  exact i x
theorem Fl.cut(i: ∀nm,(q0E Prod.fst nm l).map Prod.snd=φ nm)(nm:List UInt8): ∀x,(q0E Prod.fst x (q1I Prod.fst nm l)).map Prod.snd=z5P φ nm x:=fun x=>by
 unfold z5P;by_cases d:x=nm
 ·subst d;rw[ξ rfl,q9E];rfl
 ·rw[κ d,z5j l d];exact i x
theorem Fl.up(h:Fl σ c s φ u cnt):σ.down=false:=by obtain⟨l,h1,_⟩:=h;exact h1.up
theorem Fl.mono(h:Fl σ c s φ u cnt)(h1:u<=u')(h2:cnt<=cnt'):Fl σ c s φ u' cnt':=by
 obtain⟨l,a1,d,i,j,m⟩:=h;exact⟨l,a1,d,i,by omega,by omega⟩
theorem Fl.tell(h:Fl σ c s φ u cnt):Fl (q2T σ) c s φ u cnt:=by
 obtain⟨l,a1,d,i,j,m⟩:=h;exact⟨l,a1.tell,d,i,j,m⟩
theorem Fl.tells : ∀(k:Nat) {σ:DM},Fl σ c s φ u cnt->Fl (tellN k σ) c s φ u cnt
 |0,_,h=>h
 |k+1,σ,h=>by rw[q1f];exact Fl.tells k h.tell
theorem Fl.del(h:Fl σ c s φ u cnt)(o:φ nm=some t): ∃σ',q1H σ nm=(0,σ')/\Fl σ' c s (z5P φ nm) u cnt:=by
 obtain⟨l,a1,i,d,j,m⟩:=h;obtain⟨σ',e,p⟩:=a1.delete (Fl.find d o);exact⟨σ',e,_,p,q2w i,Fl.cut d nm,Ω (z7B nm l) j,Ω (z9P nm l) m⟩
theorem Fl.wl(h:Fl σ c s φ u cnt){L:List En}(i:φ (q0C 116 n)=some (q8f L)):Wl σ n L:=by
 obtain⟨l,a1,j,d,m,o⟩:=h;exact a1.wl (Fl.find d i)
end
end
section
open Go.RowKit Go.Maps
theorem q9p{P:Program}{id:Nat}{Q:Exit->Act->World->Prop}{a:Act}{w:World}{l:List Oper}(n:Nat)(hm:P.follows .mixedOrders=true)(i:Region.lexTailB .any l.toArray n=true)
  (h:wpStill P l.toArray w.drew (fun d=>wpList P l.toArray Q (l.drop n) d w.drew) (l.take n) a):(Code.region id l.toArray true).wp P Q a w:=
 wp_region_still_tail n hm i h
section
variable {wb w w1 w2:World}{g gx gm gt:Nat}{st st1:IxSt}{F Y Y1 K K' V:Nat->Prop}{σ σ1:DM}
end
section
variable {wb w w1 w2:World}{g gx gm gt:Nat}{st st1:IxSt}{F Y Y1 K K' V:Nat->Prop}{σ σ1:DM}
end
section
variable {wb w0 w W W1 w1 w2:World}{g gx gm gt B:Nat}{st st1:IxSt}{F Y Y1 K K' V T:Nat->Prop}{σ σ1:DM}{va v v1 v2 vm:Value}{vs:List Value}{ns:List Int}{acc:List (List En)}{M L:List En}
end
end
section
open Go.RowKit
theorem q9f : ∀{a b:List En},q0z a->q0z b->(∀x∈a,x∈b)->a.Sublist b
 |[],b,_,_,_=>List.nil_sublist b
 |x::a,[],_,_,h=>absurd (h x (.head _)) (by simp)
 | x :: a,y::b,ha,hb,h=>by
  obtain⟨h1,h2⟩:=List.pairwise_cons.1 ha;obtain⟨h3,h4⟩:=List.pairwise_cons.1 hb;rcases List.mem_cons.1 (h x (.head _)) with e|o
  ·subst e
   refine(q9f h2 h4 fun z i=>?_).cons_cons x;rcases List.mem_cons.1 (h z (.tail _ i)) with e|d
   ·have:=h1 z i
    rw[e,q0a] at this;cases this
   ·exact d
  ·refine(q9f ha h4 fun z i=>?_).cons y
   rcases List.mem_cons.1 (h z i) with e|d
   ·rcases List.mem_cons.1 i with q|j
    ·rw[q];exact o
    ·have m:=h1 z j
     have r:=h3 x o;rw[e] at m;have:=q1P m r;rw[q0a] at this;cases this
   ·exact d
theorem q4e{a b:List En}(d:q0z a)(i:q0z b)(h: ∀x∈a,x∈b):a.length<=b.length:=(q9f d i h).length_le
def TL(st:IxSt)(n:Int):List En:=match st.t n with|some e=>e.L|none=>[]
theorem q3E{st:IxSt}(h:st.t n=some e):TL st n=e.L:=by unfold TL;rw[h]
structure PInv(st:IxSt)(σ:DM)(c s:Int)(φ:Fls)(u cnt:Nat)(B:List En):Prop where
 fl:Fl σ c s φ u cnt
 man:st.m.ok
 full:st.full
 tb: ∀n e,st.t n=some e->n∈st.m.L.flatten/\φ (q0C 116 n)=some (q8f e.L)/\(∃y,φ (q0C 98 n)=some y)/\okM e.L/\ ∀x∈e.L,e.may x.1=true
 only: ∀nm,φ nm≠none->nm=mapN\/(∃n∈st.m.L.flatten,nm=q0C 116 n\/nm=q0C 98 n)\/ ∃k:Nat,k<=999999/\nm=q0C 99 (k:Int)
 okw:okM st.w
 okB:okM B
 mem: ∀x,x∈B↔x∈st.w\/ ∃n e,st.t n=some e/\x∈e.L
section
variable {st :IxSt}{σ σ':DM}{c s:Int}{φ:Fls}{u cnt:Nat}{B:List En}
theorem PInv.range(h:PInv st σ c s φ u cnt B)(i:n∈st.m.L.flatten):0<=n/\n<=999999/\n<st.m.nx:=by
 have d:=Man.bounds h.man;have:=d.2.2.2.1 n i;omega
theorem PInv.tell(h:PInv st σ c s φ u cnt B)(k:Nat):PInv st (tellN k σ) c s φ u cnt B:=⟨Fl.tells k h.fl,h.man,h.full,h.tb,h.only,h.okw,h.okB,h.mem⟩
theorem PInv.mono(h:PInv st σ c s φ u cnt B)(h1:u<=u')(h2:cnt<=cnt'):PInv st σ c s φ u' cnt' B:=⟨h.fl.mono h1 h2,h.man,h.full,h.tb,h.only,h.okw,h.okB,h.mem⟩
theorem PInv.wlen(h:PInv st σ c s φ u cnt B):st.w.length<=B.length:=q4e h.okw.sort h.okB.sort fun x d=>(h.mem x).2 (.inl d)
theorem PInv.tlen(h:PInv st σ c s φ u cnt B)(he:st.t n=some e):e.L.length<=B.length:=q4e (h.tb n e he).2.2.2.1.sort h.okB.sort fun x d=>(h.mem x).2 (.inr ⟨n,e,he,d⟩)
theorem PInv.wl(h:PInv st σ c s φ u cnt B)(he:st.t n=some e):Wl σ n e.L:=h.fl.wl (h.tb n e he).2.1
theorem PInv.add(h:PInv st σ c s φ u cnt B){x:En}(d:q3X x=true)(i:B.length<50000):PInv {st with w:=q3e x st.w} σ c s φ u cnt (q3e x B):=by
 have j:=h.wlen;refine⟨h.fl,h.man,h.full,h.tb,h.only,h.okw.add d (by omega),h.okB.add d i,fun y=>?_⟩;show y∈q3e x B↔y∈q3e x st.w\/_;rw[mem_addE,mem_addE,h.mem y]
 constructor
 ·rintro(h1|h1|h1)
  ·exact .inl (.inl h1)
  ·exact .inl (.inr h1)
  ·exact .inr h1
 ·rintro((h1|h1)|h1)
  ·exact .inl h1
  ·exact .inr (.inl h1)
  ·exact .inr (.inr h1)
theorem z0m(h:PInv st σ c s φ u cnt B)(x a b:Int): ∀(ns:List Int) (acc:List (List En)) (k0:Nat),(∀n∈ns,n∈st.m.L.flatten)->
  ∃k,q3d st x (max a 0) (min b 1073741824) (tellN k0 σ) ns acc=(acc++ns.map (fun n=>q0r (TL st n) x (max a 0) (min b 1073741824)),0,tellN k σ)
 |[],acc,k0,_=>⟨k0,by rw[q3d];simp⟩
 | n::ns,acc,k0,hn=>by
  obtain⟨e,he⟩:=h.full n (hn n (by simp));have d:=h.tb n e he;obtain⟨k,_,_,i⟩:=z6Y ((h.wl he).tellN k0) d.2.2.2.1.sort d.2.2.2.1.ok d.2.2.2.2 x (max a 0) (min b 1073741824);rw[show max (max a 0) 0=max a 0 by omega,show min (min b 1073741824) 1073741824=min b 1073741824 by omega,q3P] at i;obtain⟨o,h2⟩:=z0m h x a b ns (acc++[q0r e.L x (max a 0) (min b 1073741824)]) (k0+k) (fun y j=>hn y (by simp[j]));refine⟨o,?_⟩;rw[q3d,he];simp only;rw[i];simp only;rw[κ (fun h=>h rfl),h2,List.map_cons,q3E he,List.append_assoc]
  rfl
theorem mem_range{L:List En}{x a b:Int}{y:En}:y∈q0r L x a b↔y∈L/\y.1=x/\a<=y.2.1/\y.2.1<=b:=by
 unfold q0r;rw[List.mem_filter];simp only[Ξ,Φ]
 constructor
 ·rintro⟨h1,⟨h2,h3⟩,h4⟩;exact⟨h1,h2,h3,h4⟩
 ·rintro⟨h1,h2,h3,h4⟩;exact⟨h1,⟨h2,h3⟩,h4⟩
theorem q4m{L:List En}(h:q0z L)(x a b:Int):q0z (q0r L x a b):=h.filter _
theorem y0K(h:PInv st σ c s φ u cnt B)(n:Int):q0z (TL st n)/\(∀x∈TL st n,q3X x=true)/\(TL st n).length<=B.length:=by
 unfold TL
 cases he:st.t n with
 |none=>exact⟨List.Pairwise.nil,fun x d=>by simp at d,υ _⟩
 |some e=>exact⟨(h.tb n e he).2.2.2.1.sort,(h.tb n e he).2.2.2.1.ok,h.tlen he⟩
theorem z7u{L:List (List En)}(h: ∀l∈L,l.length<=k):L.flatten.length<=L.length*k:=by
 induction L with
 |nil=>simp
 | cons a r ih=>
  rw[List.flatten_cons,θ,χ,Nat.add_mul];have h1:=h a (by simp);have h2:=ih fun l d=>h l (by simp[d])
  omega
theorem PInv.rangeIs(h:PInv st σ c s φ u cnt B)(x a b:Int): ∃k R,q3d st x (max a 0) (min b 1073741824) σ st.m.L.flatten [q0r st.w x (max a 0) (min b 1073741824)]=(R,0,tellN k σ)/\(∀L∈R,q0z L)/\R.flatten.length<=41*B.length/\q2m R=q0r B x (max a 0) (min b 1073741824):=by
 obtain⟨k,e⟩:=z0m h x a b st.m.L.flatten [q0r st.w x (max a 0) (min b 1073741824)] 0 (fun n j=>j);have o: ∀L∈[q0r st.w x (max a 0) (min b 1073741824)]++st.m.L.flatten.map (fun n=>q0r (TL st n) x (max a 0) (min b 1073741824)),q0z L/\L.length<=B.length:=fun L d=>by
  rcases List.mem_append.1 d with d|d
  ·rw[List.mem_singleton.1 d]
   exact⟨q4m h.okw.sort _ _ _,Ω (List.length_filter_le _ _) h.wlen⟩
  ·obtain⟨n,j,rfl⟩:=List.mem_map.1 d
   have:=y0K h n;exact⟨q4m this.1 _ _ _,Ω (List.length_filter_le _ _) this.2.2⟩
 refine⟨k,_,e,fun L d=>(o L d).1,?_,?_⟩
 ·have h1:=z7u fun l q=>(o l q).2
  rw[θ,List.length_map] at h1;have h2:=(Man.bounds h.man).2.1;simp only[χ,List.length_nil] at h1;have:(0+1+st.m.L.flatten.length)*B.length<=41*B.length:=Nat.mul_le_mul_right _ (by omega);omega
 ·refine q6F (q4q _) (q4m h.okB.sort _ _ _) fun y=>?_
  rw[mem_union,mem_range,h.mem y]
  constructor
  ·rintro⟨L,d,i⟩
   rcases List.mem_append.1 d with d|d
   ·rw[List.mem_singleton.1 d,mem_range] at i
    exact⟨.inl i.1,i.2⟩
   ·obtain⟨n,j,rfl⟩:=List.mem_map.1 d
    rw[mem_range] at i;obtain⟨e,he⟩:=h.full n j;rw[q3E he] at i;exact⟨.inr ⟨n,e,he,i.1⟩,i.2⟩
  ·rintro⟨h1|⟨n,e,he,h1⟩,h2⟩
   ·exact⟨_,List.mem_append.2 (.inl (List.mem_singleton.2 rfl)),mem_range.2 ⟨h1,h2⟩⟩
   ·exact⟨_,List.mem_append.2 (.inr (List.mem_map.2 ⟨n,(h.tb n e he).1,rfl⟩)),mem_range.2 ⟨by rw[q3E he];exact h1,h2⟩⟩
end
theorem z3C{c d:UInt8}(hc:q1y c=true)(i:q1y d=true){m:Int}(j:0<=n/\n<=999999)(hm:0<=m/\m<=999999)(h:q0C c n=q0C d m):c=d/\n=m:=by
 have h1:=q1d hc j;rw[h,q1d i hm] at h1;injection h1 with h1 h2;injection h2 with h2 _;exact⟨h1.symm,by omega⟩
theorem z9l :q1y 116=true:=by decide
theorem y2W :q1y 98=true:=by decide
theorem y2D :q1y 99=true:=by decide
theorem q2a(d:k<=999999):q0C 99 (k:Int)≠mapN/\q0C 99 (k:Int)≠z1o:=by
 rw[q0T (by omega)];exact⟨fun e=>absurd (List.cons.inj e).1 (by decide),fun e=>absurd (List.cons.inj e).1 (by decide)⟩
theorem z3D{c:UInt8}(hc:c=116\/c=98)(d:0<=n/\n<=999999):q0C c n≠mapN/\q0C c n≠z1o:=by
 rw[q0T d];rcases hc with rfl|rfl
 ·exact⟨fun e=>absurd (List.cons.inj e).1 (by decide),fun e=>absurd (List.cons.inj e).1 (by decide)⟩
 ·exact⟨fun e=>absurd (List.cons.inj e).1 (by decide),fun e=>absurd (List.cons.inj e).1 (by decide)⟩
section
variable {st :IxSt}{σ σ':DM}{c s:Int}{φ:Fls}{u cnt:Nat}{B:List En}
theorem PInv.noNew(h:PInv st σ c s φ u cnt B):φ z1o=none:=by
 cases he:φ z1o with
 |none=>rfl
 | some y=>
  exfalso
  rcases h.only z1o (by rw[he];simp) with e|⟨m,hm,e|e⟩|⟨k,d,e⟩
  ·exact z4U e
  ·have i:=h.range hm
   exact(z3D (.inl rfl) (show 0<=m/\m<=999999 by omega)).2 e.symm
  ·have i:=h.range hm
   exact(z3D (.inr rfl) (show 0<=m/\m<=999999 by omega)).2 e.symm
  ·exact(q2a d).2 e.symm
end
section
variable {st :IxSt}{σ σ':DM}{c s:Int}{φ:Fls}{u cnt:Nat}{B:List En}
theorem PInv.unionLe(h:PInv st σ c s φ u cnt B)(ns:List Int):okM (q2m (ns.map (TL st)))/\(q2m (ns.map (TL st))).length<=B.length/\ ∀x∈q2m (ns.map (TL st)),x∈B:=by
 have hm: ∀x∈q2m (ns.map (TL st)),x∈B:=fun x i=>by
  obtain⟨L,j,d⟩:=mem_union.1 i;obtain⟨n,o,rfl⟩:=List.mem_map.1 j;unfold TL at d
  cases he:st.t n with
  |none=>rw[he] at d;simp at d
  |some e=>rw[he] at d;exact(h.mem x).2 (.inr ⟨n,e,he,d⟩)
 have m:=q4e (q4q (ns.map (TL st))) h.okB.sort hm;exact⟨⟨q4q _,fun x i=>h.okB.ok x (hm x i),by have:=h.okB.len;omega⟩,m,hm⟩
def z2V(B:List En)(x u r:Int):Prop:=(∀y∈B,y.1=x->y.2.1<=u->y.2.1<=r)/\((r= -1)\/ ∃y∈B,y.1=x/\y.2.1<=u/\y.2.1=r)
theorem q6j{L:List En}(r:q0z L)(x u:Int):z2V L x u (z4s L x u):=by
 unfold z4s q2y
 cases hl:(L.filter (inE x u)).getLast? with
 | none=>
  have:=List.getLast?_eq_none_iff.1 hl;refine⟨fun y q h1 h2=>?_,.inl rfl⟩;have:y∈L.filter (inE x u):=List.mem_filter.2 ⟨q,by unfold inE;simp[h1,h2]⟩;rw[List.getLast?_eq_none_iff.1 hl] at this
  cases this
 | some e=>
  have o:=List.mem_of_getLast? hl;obtain⟨G,j⟩:=List.mem_filter.1 o;unfold inE at j;simp only[Ξ,Φ] at j;refine⟨fun y q h1 h2=>?_,.inr ⟨e,G,j.1,j.2,rfl⟩⟩;have i:y∈L.filter (inE x u):=List.mem_filter.2 ⟨q,by unfold inE;simp[h1,h2]⟩;have d:q0z (L.filter (inE x u)):=r.filter _;obtain⟨l,m⟩:=List.getLast?_eq_some_iff.1 hl;rw[m] at i d;rcases List.mem_append.1 i with h3|h3
  ·have h4:=(List.pairwise_append.1 d).2.2 y h3 e (by simp)
   rw[lessE_iff] at h4;show y.2.1<=e.2.1;omega
  ·rw[List.mem_singleton.1 h3];exact Int.le_refl _
end
def z8z(φ:Fls)(C:Cks):Prop:= ∀k:Nat,k<=999999->φ (q0C 99 (k:Int))=(C[k]?).map (q0L k)
structure CksS(φ:Fls)(σ:DM)(C:Cks)(k:Int):Prop where
 i:z8z φ C
 sr:Sur σ.L C.length k
 le:k<=q2g C
def OldT(st:IxSt):Prop:= ∀n e,st.t n=some e-> ∀x∈e.L,x.2.2<st.m.ck
theorem OldT.tl{st:IxSt}(h:OldT st){x:En}(d:x∈TL st n):x.2.2<st.m.ck:=by
 unfold TL at d
 split at d
 ·rename_i e he;exact h n e he x d
 ·cases d
structure z8n(st:IxSt)(φ:Fls)(σ:DM)(C:Cks)(k:Int):Prop extends CksS φ σ C k where
 old:OldT st
def q5q(φ:Fls)(m:Man):Prop:=(φ mapN=some m.S/\0<m.nx)\/(φ mapN=none/\m.nx=0/\m.ck=0/\m.L=[])
def z8S(nm:List UInt8):Prop:= ∀k:Nat,k<=999999->nm≠q0C 99 (k:Int)
theorem z6P : ∀{a b:List (List UInt8×List UInt8)},q2K Prod.fst a->q2K Prod.fst b->(∀z,z∈a↔z∈b)->a=b
 |[],[],_,_,_=>rfl
 |[],y::b,_,_,h=>absurd ((h y).2 (.head _)) (by simp)
 |x::a,[],_,_,h=>absurd ((h x).1 (.head _)) (by simp)
 | x ::a,y::b,ha,hb,h=>by
  obtain⟨h1,h2⟩:=List.pairwise_cons.1 ha;obtain⟨h3,h4⟩:=List.pairwise_cons.1 hb;have j:x=y:=by
   rcases List.mem_cons.1 ((h x).1 (.head _)) with e|m
   ·exact e
   rcases List.mem_cons.1 ((h y).2 (.head _)) with e|o
   ·exact e.symm
   have:=WideShapes.bytes_trans _ _ _ (h1 y o) (h3 x m);rw[WideAt.bytes_irrefl] at this;cases this
  subst j;rw[z6P h2 h4 fun z=>?_]
  constructor
  ·intro i
   rcases List.mem_cons.1 ((h z).1 (.tail _ i)) with e|d
   ·have:=h1 z i;rw[e,WideAt.bytes_irrefl] at this;cases this
   ·exact d
  ·intro i
   rcases List.mem_cons.1 ((h z).2 (.tail _ i)) with e|d
   ·have:=h3 z i;rw[e,WideAt.bytes_irrefl] at this;cases this
   ·exact d
theorem z3B{l:List (List UInt8×List UInt8)}(h:q2K Prod.fst l)(z:List UInt8×List UInt8):z∈l↔(q0E Prod.fst z.1 l).map Prod.snd=some z.2:=by
 constructor
 ·intro d;rw[q2x h d rfl];rfl
 ·intro d
  cases hf:q0E Prod.fst z.1 l with
  |none=>rw[hf] at d;cases d
  | some y=>
   rw[hf] at d;injection d with d;obtain⟨h1,h2⟩:=q0J hf;have:y=z:=Prod.ext h2 d
   rwa [this] at h1
theorem q9X{a b:List (List UInt8×List UInt8)}(d:q2K Prod.fst a)(i:q2K Prod.fst b)(h: ∀nm,(q0E Prod.fst nm a).map Prod.snd=(q0E Prod.fst nm b).map Prod.snd):a=b:=
 z6P d i fun z=>by rw[z3B d,z3B i,h]
theorem q5f{r:α->α->Prop}{p:α->Bool}(j: ∀x y,r x y->p y=true->p x=true): ∀{l:List α},l.Pairwise r->l=l.filter p++l.filter (fun y=>!p y)
 |[],_=>rfl
 | x :: l,h=>by
  obtain⟨h1,h2⟩:=List.pairwise_cons.1 h
  cases hx:p x with
  | true=>
   rw[List.filter_cons_of_pos hx,List.filter_cons_of_neg (by simp[hx]),List.cons_append,<-q5f j h2]
  | false=>
   have i: ∀y∈l,p y=false:=fun y d=>by
    cases hy2:p y with
    |false=>rfl
    |true=>rw[j x y (h1 y d) hy2] at hx;cases hx
   rw [List.filter_cons_of_neg (by simp[hx]),List.filter_cons_of_pos (by simp[hx]),List.filter_eq_nil_iff.2 fun y d=>by simp[i y d],List.nil_append,
    List.filter_eq_self.2 fun y d=>by simp[i y d]]
theorem q4k{α:Type}[DecidableEq α]: ∀{l m:List α},l.Nodup->(∀x∈l,x∈m)->l.length<=m.length
 |[],_,_,_=>υ _
 | x::l,m,h,hm=>by
  obtain⟨h1,h2⟩:=List.nodup_cons.1 h;have d:=hm x (.head _);have h3:=q4k (m:=m.erase x) h2 fun y i=>(List.mem_erase_of_ne (fun e:y=x=>h1 (by rw[<-e];exact i))).2 (hm y (.tail _ i))
  rw[List.length_erase_of_mem d] at h3;have:=List.length_pos_of_mem d;rw[χ];omega
theorem q2c(i:k<=999999):bytesBefore [99] (q0C 99 (k:Int))=true/\bytesBefore (q0C 99 (k:Int)) [100]=true/\bytesBefore (q0C 99 (k:Int)) [99]=false:=by
 rw[q0T (by omega)];have d:=q0W 6 ((k:Int)).toNat
 cases hd:q4y 6 ((k:Int)).toNat with
 |nil=>rw[hd] at d;cases d
 |cons a r=>exact⟨by simp[bytesBefore],by simp[bytesBefore],by simp[bytesBefore]⟩
theorem q5P(d:0<=n/\n<=999999):bytesBefore (q0C 98 n) [99]=true/\bytesBefore (q0C 116 n) [100]=false/\bytesBefore (q0C 116 n) [99]=false:=by
 rw[q0T d,q0T d];exact⟨by simp[bytesBefore],by simp[bytesBefore],by simp[bytesBefore]⟩
theorem before_map :bytesBefore mapN [100]=false/\bytesBefore mapN [99]=false:=by decide
section
variable {st :IxSt}{σ σ':DM}{c s:Int}{φ:Fls}{u cnt:Nat}{B:List En}{C C':Cks}{E:Oth}
theorem q8s : ∀(C:Cks) (i:Nat),i+C.length<=999999->q2K Prod.fst (q3G i C)
 |[],_,_=>List.Pairwise.nil
 | ps::r,i,h=>by
  rw[χ] at h;refine List.pairwise_cons.2 ⟨fun y d=>?_,q8s r (i+1) (by omega)⟩;obtain⟨j,h1,h2,h3⟩:=q2d d;rw[h3];exact q4Q (by omega) (by omega) (by omega)
theorem q8r{C:Cks}(d:C.length<=200)(i:k<=999999):(q0E Prod.fst (q0C 99 (k:Int)) (q3G 0 C)).map Prod.snd=(C[k]?).map (q0L k):=by
 rcases Nat.lt_or_ge k C.length with h|h
 ·rw[q6w d (γ h),γ h];rfl
 ·rw[z0E d h i,List.getElem?_eq_none h];rfl
theorem q7e{k0:Int}(h:PInv st σ c s φ u cnt B)(b0:CksS φ σ C k0)(hC:okC C):
  ∃E,Lgd E σ (c-(q1R E:Int)) s C k0/\(∀nm,z8S nm->(q0E Prod.fst nm (E.X++E.Z)).map Prod.snd=φ nm)/\q1R E+q0f C<=u/\E.X.length+C.length+E.Z.length<=cnt:=by
 have hc:=b0.i;obtain⟨l,i0,o,N,o0,n0⟩:=h.fl;have Q: ∀y∈l,φ y.1≠none:=fun y d e=>by
  have:=N y.1;rw[q2x o d rfl,e] at this;cases this
 have U:=q5f (r:=fun x y:List UInt8×List UInt8=>bytesBefore x.1 y.1=true) (p:=fun y:List UInt8×List UInt8=>bytesBefore y.1 [99]) (fun x y h1 h2=>WideShapes.bytes_trans _ _ _ h1 h2) o;have hr:=o.filter (p:=fun y:List UInt8×List UInt8=>!bytesBefore y.1 [99]);have p2:=q5f (r:=fun x y:List UInt8×List UInt8=>bytesBefore x.1 y.1=true) (p:=fun y:List UInt8×List UInt8=>bytesBefore y.1 [100]) (fun x y h1 h2=>WideShapes.bytes_trans _ _ _ h1 h2) hr;obtain⟨X,hX⟩: ∃X,l.filter (fun y=>bytesBefore y.1 [99])=X:=⟨_,rfl⟩
 obtain⟨R,hR⟩: ∃R,l.filter (fun y=>!bytesBefore y.1 [99])=R:=⟨_,rfl⟩
 obtain⟨M,hM⟩: ∃M,R.filter (fun y=>bytesBefore y.1 [100])=M:=⟨_,rfl⟩
 obtain⟨Z,hZ⟩: ∃Z,R.filter (fun y=>!bytesBefore y.1 [100])=Z:=⟨_,rfl⟩
 rw[hX,hR] at U;rw[hR,hM,hZ] at p2;rw[p2] at U;have mX: ∀y,y∈X↔y∈l/\bytesBefore y.1 [99]=true:=fun y=>by rw[<-hX,List.mem_filter]
 have mR: ∀y,y∈R↔y∈l/\bytesBefore y.1 [99]=false:=fun y=>by rw[<-hR,List.mem_filter];simp
 have mM: ∀y,y∈M↔y∈l/\bytesBefore y.1 [99]=false/\bytesBefore y.1 [100]=true:=fun y=>by rw[<-hM,List.mem_filter,mR];simp[and_assoc]
 have mZ: ∀y,y∈Z↔y∈l/\bytesBefore y.1 [99]=false/\bytesBefore y.1 [100]=false:=fun y=>by rw[<-hZ,List.mem_filter,mR];simp[and_assoc]
 have G: ∀n∈st.m.L.flatten,0<=n/\n<=999999:=fun n I=>by have:=h.range I;omega
 have a0: ∀y,y∈X\/y∈Z->y.1=mapN\/ ∃n∈st.m.L.flatten,y.1=q0C 116 n\/y.1=q0C 98 n:=fun y d=>by
  have hl:y∈l:=d.elim (fun h=>((mX y).1 h).1) fun h=>((mZ y).1 h).1
  rcases h.only y.1 (Q y hl) with e|e|⟨k,J,e⟩
  ·exact .inl e
  ·exact .inr e
  ·exfalso
   obtain⟨_,b2,b3⟩:=q2c J;rcases d with d|d
   ·have:=((mX y).1 d).2;rw[e,b3] at this;cases this
   ·have:=((mZ y).1 d).2.2;rw[e,b2] at this;cases this
 have d0: ∀y∈M,∃k:Nat,k<=999999/\y.1=q0C 99 (k:Int):=fun y d=>by
  obtain⟨hl,q1,q2⟩:=(mM y).1 d;rcases h.only y.1 (Q y hl) with e|⟨n,I,e|e⟩|e
  ·rw[e,before_map.1] at q2;cases q2
  ·rw[e,(q5P (G n I)).2.1] at q2;cases q2
  ·rw[e,(q5P (G n I)).1] at q1;cases q1
  ·exact e
 have S:=o;rw[U] at S;obtain⟨oX,j0,_⟩:=List.pairwise_append.1 S;obtain⟨oM,oZ,_⟩:=List.pairwise_append.1 j0;have c0:M=q3G 0 C:=q9X oM (q8s C 0 (by have:=hC.few;omega)) fun nm=>by
  by_cases O: ∃k:Nat,k<=999999/\nm=q0C 99 (k:Int)
  ·obtain⟨k,J,rfl⟩:=O
   rw[q8r hC.few J,<-hc k J,<-N];obtain⟨_,b2,b3⟩:=q2c J;rw[U,q0P fun y d e=>?_,q0s fun y d e=>?_]
   ·have:=((mZ y).1 d).2.2;rw[show y.1=q0C 99 (k:Int) from e,b2] at this;cases this
   ·have:=((mX y).1 d).2;rw[show y.1=q0C 99 (k:Int) from e,b3] at this;cases this
  ·rw [q0R fun y d e=>O (by obtain⟨k,J,e2⟩:=d0 y d;exact⟨k,J,by rw[<-e2];exact e.symm⟩),q0R fun y d e=>O (by
    obtain⟨j,h1,h2,h3⟩:=q2d d
    exact⟨j,by have:=hC.few;omega,by rw[<-h3];exact e.symm⟩)]
 rw[c0] at U;have f0:=h.noNew;have m0:q1T l=q1R ⟨X,Z⟩+q0f C:=by
  rw[U,q0b,q0b,q3g];unfold q1R;simp only;omega
 have l0:l.length=X.length+C.length+Z.length:=by rw[U];simp[q3H];omega
 refine⟨⟨X,Z⟩,⟨?_,hC,⟨fun y d k J=>?_,fun y d k J=>?_,fun y d e=>?_,fun y d hp=>?_,fun y d=>?_,?_⟩,b0.sr,b0.le⟩,fun nm O=>?_,by omega,by simp only;omega⟩
 ·rw[show c-(q1R ⟨X,Z⟩:Int)+(q1R ⟨X,Z⟩:Int)=c by omega]
  show Pl σ c s (X++(q3G 0 C++Z));rw[<-U];exact i0
 ·exact WideShapes.bytes_trans _ _ _ ((mX y).1 d).2 (q2c J).1
 ·by_cases q:y.1=[100]
  ·rw[q];exact(q2c J).2.1
  ·rcases WideAt.bytes_total y.1 [100] q with q|q
   ·rw[((mZ y).1 d).2.2] at q;cases q
   ·exact WideShapes.bytes_trans _ _ _ (q2c J).2.1 q
 ·have hl:y∈l:=d.elim (fun h=>((mX y).1 h).1) fun h=>((mZ y).1 h).1
  exact Q y hl (by rw[e];exact f0)
 ·rcases a0 y d with e|⟨n,I,e|e⟩
  ·rw[e] at hp;exact absurd hp (by decide)
  ·rw[e,q1d z9l (G n I)];exact(by decide:(116:UInt8)≠99)
  ·rw[e,q1d y2W (G n I)];exact(by decide:(98:UInt8)≠99)
 ·rcases a0 y d with e|⟨n,I,e|e⟩
  ·rw[e];decide
  ·rw[e,q0T (G n I),χ,q0W];decide
  ·rw[e,q0T (G n I),χ,q0W];decide
 ·have e0:((X++Z).map Prod.fst).Nodup:=by
   have ho:q2K Prod.fst (X++Z):=by
    rw[U] at o;exact o.sublist (List.Sublist.append (List.Sublist.refl X) (List.sublist_append_right _ _))
   exact List.pairwise_map.2 (q8X ho)
  have hb:=Man.bounds h.man;have:=q4k (m:=mapN::(st.m.L.flatten.map (q0C 116)++st.m.L.flatten.map (q0C 98))) e0 fun x hx=>by
   obtain⟨y,d,rfl⟩:=List.mem_map.1 hx;rcases a0 y (List.mem_append.1 d) with e|⟨n,I,e|e⟩
   ·rw[e];exact .head _
   ·rw[e];exact .tail _ (List.mem_append.2 (.inl (List.mem_map.2 ⟨n,I,rfl⟩)))
   ·rw[e];exact .tail _ (List.mem_append.2 (.inr (List.mem_map.2 ⟨n,I,rfl⟩)))
  simp only[List.length_map,θ,χ] at this;simp only;omega
 ·rw [<-N,U]
  show(q0E Prod.fst nm (X++Z)).map Prod.snd=_;have g0: ∀y∈q3G 0 C,Prod.fst y≠nm:=fun y d e=>by
   obtain⟨j,h1,h2,h3⟩:=q2d d;exact O j (by have:=hC.few;omega) (by rw[<-h3];exact e.symm)
  unfold q0E;rw[List.find?_append,List.find?_append,List.find?_append];have h0:List.find? (fun y=>Prod.fst y==nm) (q3G 0 C)=none:=q0R g0;rw[h0];simp
theorem PInv.relog{k0:Int}(h:PInv st σ c s φ u cnt B)(hE: ∀nm,z8S nm->(q0E Prod.fst nm (E.X++E.Z)).map Prod.snd=φ nm)(q:Lgd E σ' (c-(q1R E:Int)) s C' k0)(ho:okD σ')(hu:q1R E+q0f C'<=u')(N:E.X.length+C'.length+E.Z.length<=cnt'):
  ∃G,PInv st σ' c s G u' cnt' B/\CksS G σ' C' k0/\ ∀nm,z8S nm->G nm=φ nm:=by
 have r:=q.pl;rw[show c-(q1R E:Int)+(q1R E:Int)=c by omega] at r;have d: ∀nm,z8S nm->(q0E Prod.fst nm (q2V E C')).map Prod.snd=φ nm:=fun nm i=>by
  rw[<-hE nm i];have R: ∀y∈q3G 0 C',Prod.fst y≠nm:=fun y hy e=>by
   obtain⟨j,h1,h2,h3⟩:=q2d hy;exact i j (by have:=q.ok.few;omega) (by rw[<-h3];exact e.symm)
  unfold q0E q2V;rw[List.find?_append,List.find?_append,List.find?_append];have U:List.find? (fun y=>Prod.fst y==nm) (q3G 0 C')=none:=q0R R;rw[U];simp
 have Q: ∀k:Nat,k<=999999->(q0E Prod.fst (q0C 99 (k:Int)) (q2V E C')).map Prod.snd=(C'[k]?).map (q0L k):=fun k I=>by
  rw[<-q8r q.ok.few I];unfold q2V;rw[q0P (q.oth.neX I),q0s (q.oth.neZ I)]
 have O: ∀J:UInt8,(J=116\/J=98)-> ∀n:Int,0<=n/\n<=999999->z8S (q0C J n):=fun J hc n N k I e=>by
  have hl:q1y J=true:=by rcases hc with rfl|rfl<;>decide
  have:=(z3C hl y2D N (by omega) e).1;rcases hc with rfl|rfl<;>exact absurd this (by decide)
 have o: ∀n∈st.m.L.flatten,0<=n/\n<=999999:=fun n N=>by have:=h.range N;omega
 refine⟨fun nm=>(q0E Prod.fst nm (q2V E C')).map Prod.snd,⟨⟨q2V E C',r,r.ord ho,fun _=>rfl,by rw[q6v];exact hu,by rw[q6u];exact N⟩,h.man,h.full,fun n e he=>?_,fun nm i=>?_,h.okw,h.okB,h.mem⟩,⟨Q,q.sr,q.le⟩,d⟩
 ·obtain⟨S,t1,⟨y,t2⟩,t3,t4⟩:=h.tb n e he
  exact⟨S,(d _ (O 116 (.inl rfl) n (o n S))).trans t1,⟨y,(d _ (O 98 (.inr rfl) n (o n S))).trans t2⟩,t3,t4⟩
 ·by_cases hc: ∃k:Nat,k<=999999/\nm=q0C 99 (k:Int)
  ·exact .inr (.inr hc)
  ·exact h.only nm (by rw[<-d nm fun k I e=>hc ⟨k,I,e⟩];exact i)
end
theorem q5x : ∀(L:List FM) (ks:List Int) (nm:List UInt8),∃x,q0E FM.nm nm (q0p L ks)=(q0E FM.nm nm L).map fun f=>q2M f x
 |[],ks,nm=>⟨0,rfl⟩
 | f ::r,ks,nm=>by
  by_cases h:f.nm=nm
  ·refine⟨ks.headD 0,?_⟩
   unfold q0E;rw[q0p,List.find?_cons_of_pos (by simpa [q6z] using h),List.find?_cons_of_pos (by simpa using h)]
   rfl
  ·obtain⟨x,d⟩:=q5x r ks.tail nm
   refine⟨x,?_⟩;unfold q0E at d⊢;rw[q0p,List.find?_cons_of_neg (by simpa [q6z] using h),List.find?_cons_of_neg (by simpa using h)];exact d
theorem z1T{f:FM}(h:f.sy=f.da.length)(x:Int):(q2M f x).da=f.da:=by
 unfold q2M;simp only;rw[Δ (by omega)]
theorem z1S(f:FM)(x:Int)(h:f.sy<=f.da.length): ∃j,f.sy<=j/\j<=f.da.length/\(q2M f x).da=f.da.take j:=
 ⟨f.sy+min (max x 0).toNat (f.da.length-f.sy),by omega,by omega,rfl⟩
theorem q8F : ∀(L:List FM) (ks:List Int),q0O (q0p L ks)<=q0O L
 |[],_=>ι _
 | f::r,ks=>by
  have h1:=q8F r ks.tail;have h2:=z0F f (ks.headD 0);unfold q0O q4u at h1⊢;rw[q0p,List.map_cons,List.map_cons,List.sum_cons,List.sum_cons];omega
def upC(σ:DM)(xs:List Int):DM:={q4x σ xs with down:=false,starts:=wrap64 (σ.starts+1)}
theorem z6z(σ:DM)(xs:List Int):q6V (q4x σ xs)=(0,upC σ xs):=by unfold q6V;exact ξ rfl
theorem y1j(σ:DM)(xs:List Int):(upC σ xs).L=q0p σ.L xs:=rfl
def z8p(φ:Fls)(C:Cks):Prop:=
 z8z φ C\/ ∃(D:Cks) (t:List UInt8),D.length<=199/\(∀k:Nat,k<=999999->φ (q0C 99 (k:Int))=if k=D.length then some t else(D[k]?).map (q0L k))/\
  ((t.length<12/\q9r (q1U D.length) t=true/\C=D)\/ ∃ps r,C=D++[ps]/\t=q0L D.length ps++r/\z1x r/\0<r.length/\t.length<=4096)
theorem z0n : ∀(x y:List (List UInt8)) (a:Nat),q1p a (x++y)=q1p a x++q1p (a+(x.map fun p=>p.length+12).sum) y
 |[],y,a=>by simp[q1p]
 | p::t,y,a=>by
  rw[List.cons_append,q1p,z0n t y,q1p,List.cons_append,List.map_cons,List.sum_cons]
  congr 3;omega
theorem z0H : ∀(ps qs:List (List UInt8)) (b:Nat) (p:List UInt8),ps=z1V b ps++p::qs->b<((z1V b ps).map fun p=>p.length+12).sum+(p.length+12)
 |[],qs,b,p,h=>by simp[z1V] at h
 | q ::t,qs,b,p,h=>by
  rw[z1V] at h⊢
  split
  ·rename_i d
   rw[ξ d,List.cons_append] at h;injection h with _ h;have:=z0H t qs (b-(q.length+12)) p h;rw[List.map_cons,List.sum_cons];omega
  ·rename_i d
   rw[κ d,List.nil_append] at h;injection h with h1 h2;rw[<-h1];simp;omega
structure Left(C C':Cks)(k:Int):Prop where
 pre: ∃R,q0c 0 C=q0c 0 C'++R
 sure: ∀r∈q0c 0 C,((r.1+r.2.length+12:Nat):Int)<=k->r∈q0c 0 C'
 low: ∀r∈q0c 0 C,(r.1:Int)<q2g C'->r∈q0c 0 C'
theorem Left.refl(C:Cks)(k:Int):Left C C k:=⟨⟨[],by simp⟩,fun r h _=>h,fun r h _=>h⟩
theorem Left.gone{D:Cks}{k:Int}{j:Nat}(i:okC (D++[ps]))(q:j<12)(y:k<=(D.length:Int)*4096+(j:Int)):Left (D++[ps]) D k:=by
 have o:q2g D<=(D.length:Int)*4096:=by
  rcases List.eq_nil_or_concat D with rfl|⟨E,m,rfl⟩
  ·exact Int.le_refl _
  ·rw[List.concat_eq_append] at*
   have:=i.size m (by simp);rw[q0y,θ,List.length_singleton];omega
 refine⟨⟨_,q1e D ps⟩,fun r d h=>?_,fun r d h=>?_⟩
 all_goals
  rw[q1e] at d;rcases List.mem_append.1 d with h1|h1
  ·exact h1
  ·have:=q4E _ _ _ h1;omega
theorem Left.cut{D:Cks}{k:Int}{b:Nat}(y:k<=(D.length:Int)*4096+12+(b:Int)):Left (D++[ps]) (D++[z1V b ps]) k:=by
 obtain⟨q,d⟩:=q8y ps b;obtain⟨xs,m⟩: ∃xs,z1V b ps=xs:=⟨_,rfl⟩
 have o:=fun p i=>z0H ps i b p
 rw[m] at d o⊢;have e:q0c 0 (D++[ps])=q0c 0 (D++[xs])++q1p (4096*D.length+12+(xs.map fun p=>p.length+12).sum) q:=by
  rw[q1e,q1e,d,z0n,List.append_assoc]
 refine⟨⟨_,e⟩,fun r j h=>?_,fun r j h=>?_⟩
 ·rw [e] at j
  rcases List.mem_append.1 j with h1|h1
  ·exact h1
  ·exfalso
   cases q with
   |nil=>cases h1
   | cons p i=>
    have h2:=o p i d;rw[q1p] at h1;rcases List.mem_cons.1 h1 with rfl|h1
    ·simp only at h;omega
    ·have:=q4E _ _ _ h1;omega
 ·rw [e] at j
  rcases List.mem_append.1 j with h1|h1
  ·exact h1
  ·exfalso
   have:=q4E _ _ _ h1;rw[q0y] at h;unfold q0H at h;omega
theorem okC.cut{D:Cks}(h:okC (D++[ps]))(b:Nat):okC (D++[z1V b ps]):=by
 obtain⟨m,d⟩:=q8y ps b;have j:q0H (z1V b ps)<=q0H ps:=by
  unfold q0H
  conv=>rhs;rw[d,List.map_append,List.sum_append]
  omega
 refine⟨by simpa using h.few,fun q hq=>?_,fun q hq=>?_,fun q hq=>h.full q (by simpa using hq)⟩
 ·rcases List.mem_append.1 hq with h1|h1
  ·exact h.size q (List.mem_append_left _ h1)
  ·rw[List.mem_singleton.1 h1];exact Ω j (h.size ps (by simp))
 ·rcases List.mem_append.1 hq with h1|h1
  ·exact h.pay q (List.mem_append_left _ h1)
  ·rw[List.mem_singleton.1 h1]
   exact fun p i=>h.pay ps (by simp) p (by rw[d];exact List.mem_append_left _ i)
theorem okC.init{D:Cks}(h:okC (D++[ps])):okC D:=
 ⟨by have:=h.few;rw[θ] at this;omega,fun q hq=>h.size q (List.mem_append_left _ hq),fun q hq=>h.pay q (List.mem_append_left _ hq),fun q hq=>h.full q (by rw[List.dropLast_concat];exact List.dropLast_subset _ hq)⟩
theorem z4h(n:Nat)(ps:List (List UInt8))(m: ∀p∈ps,p.length<=2000)(j:Nat):
  (j<12->((q0L n ps).take j).length<12/\q9r (q1U n) ((q0L n ps).take j)=true)/\(12<=j-> ∃r,(q0L n ps).take j=q0L n (z1V (j-12) ps)++r/\z1x r):=by
 have d:=q1W n;refine⟨fun h=>?_,fun h=>?_⟩
 ·have e:(q0L n ps).take j=(q1U n).take j:=by unfold q0L;rw[List.take_append_of_le_length (by omega)]
  have i:((q1U n).take j).length=j:=by rw[Θ];omega
  rw[e];refine⟨by omega,?_⟩;unfold q9r;rw[ζ (by omega),Bool.true_and,i];simp
 ·obtain⟨r,h1,h2⟩:=z0w ps (j-12) m
  refine⟨r,?_,h2⟩;unfold q0L;rw[List.take_append,Δ (by omega),d,h1,List.append_assoc]
section
variable {st :IxSt}{σ:DM}{c s:Int}{φ:Fls}{u cnt:Nat}{B:List En}{C:Cks}{k0:Int}
theorem Fl.crash(h:Fl σ c s φ u cnt)(j:okD σ)(I:0<=s/\s<1000000)(xs:List Int):Fl (upC σ xs) c (s+1) (fun nm=>(q0E FM.nm nm (q0p σ.L xs)).map FM.da) u cnt:=by
 obtain⟨l,a1,o,q,r,G⟩:=h;have i:=y1j σ xs;have m:wrap64 (σ.starts+1)=s+1:=by rw[a1.st];unfold wrap64;omega
 have d:(q0p σ.L xs).map FM.nm=σ.L.map FM.nm:=q5Q σ.L xs;refine⟨(q0p σ.L xs).map fbF,⟨?_,?_,by rw[i],?_,?_⟩,?_,fun nm=>?_,?_,?_⟩
 ·rfl
 ·rfl
 ·exact a1.cap
 ·exact m
 ·have h2:=j.ord
  unfold q2K at h2⊢;rw[List.pairwise_map];have e: ∀L:List FM,L.Pairwise (fun a b=>bytesBefore a.nm b.nm=true)↔(L.map FM.nm).Pairwise fun x y=>bytesBefore x y=true:=fun L=>by rw[List.pairwise_map]
  show(q0p σ.L xs).Pairwise fun a b=>bytesBefore a.nm b.nm=true
  rw[e,d,<-e];exact h2
 ·rw[q1o (k:=FM.nm) (k':=Prod.fst) q4z nm (q0p σ.L xs),Option.map_map];rfl
 ·have h1:=q8F σ.L xs
  have h2:q1T ((q0p σ.L xs).map fbF)=q0O (q0p σ.L xs):=by unfold q1T q0O q4u;rw[List.map_map];rfl
  have h3:=a1.used;omega
 ·rw[List.length_map,q3q]
  have:σ.L.length=l.length:=by rw[<-a1.files,List.length_map]
  omega
theorem CksS.crash(h:PInv st σ c s φ u cnt B)(hc:CksS φ σ C k0)(O:okC C)(ho:okD σ)(hs:0<=s/\s<1000000)(xs:List Int):
  ∃d C',PInv st (upC σ xs) c (s+1) d u cnt B/\(∀nm,z8S nm->d nm=φ nm)/\AllS (upC σ xs).L/\okC C'/\z8p d C'/\Left C C' k0:=by
 have g0:=h.fl.crash ho hs xs;obtain⟨d,d0⟩: ∃d:Fls,(fun nm=>(q0E FM.nm nm (q0p σ.L xs)).map FM.da)=d:=⟨_,rfl⟩
 have o:AllS (upC σ xs).L:=fun f N=>by
  rw[y1j] at N;exact q7B σ.L xs ho.sy f N
 have q: ∀nm,φ nm=(q0E FM.nm nm σ.L).map FM.da:=fun nm=>by
  obtain⟨l,a1,_,a3,_⟩:=h.fl;rw[<-a3,a1.find,Option.map_map];rfl
 have I: ∀nm,d nm=φ nm\/ ∃D ps j,C=D++[ps]/\nm=q0C 99 (D.length:Int)/\d nm=some ((q0L D.length ps).take j)/\j<=(q0L D.length ps).length/\k0<=(D.length:Int)*4096+(j:Int):=fun nm=>by
  obtain⟨x,hx⟩:=q5x σ.L xs nm;have h1:d nm=((q0E FM.nm nm σ.L).map fun f=>q2M f x).map FM.da:=by rw[<-d0];simp only;rw[hx]
  cases N:q0E FM.nm nm σ.L with
  |none=>left;rw[h1,q,N];rfl
  | some f=>
   rw[N] at h1;obtain⟨m1,m2⟩:=q0J N;rcases hc.sr f m1 with h2|⟨j,hj,e,hk⟩
   ·left
    rw[h1,q,N];show some (q2M f x).da=some f.da;rw[z1T h2]
   ·right
    rcases List.eq_nil_or_concat C with e0|⟨D,ps,e0⟩
    ·rw[e0] at hj;simp at hj
    ·rw[List.concat_eq_append] at e0
     subst e0;have m0:j=D.length:=by rw[θ,List.length_singleton] at hj;omega
     subst m0;have h3:=hc.i D.length (by have:=O.few;rw[θ] at this;omega);rw[q,<-e,m2,N] at h3;simp only[Option.map_some,List.getElem?_append_right (ι _),Nat.sub_self,List.getElem?_cons_zero,Option.some.injEq] at h3;obtain⟨i,i1,i2,i3⟩:=z1S f x (ho.sy f m1);refine⟨D,ps,i,rfl,by rw[<-m2,e],?_,by rw[<-h3];exact i2,by omega⟩;rw[h1];show some (q2M f x).da=_;rw[i3,h3]
 have G: ∀nm,z8S nm->d nm=φ nm:=fun nm hn=>by
  rcases I nm with h1|⟨D,ps,j,e,a0,_⟩
  ·exact h1
  ·exact absurd a0 (hn D.length (by have:=O.few;rw[e,θ] at this;omega))
 have b0: ∀nm,d nm≠none->φ nm≠none:=fun nm hn e=>hn (by
  obtain⟨x,hx⟩:=q5x σ.L xs nm;rw[<-d0];simp only;rw[hx];rw[q] at e
  cases N:q0E FM.nm nm σ.L with
  |none=>rfl
  |some f=>rw[N] at e;cases e)
 have l0: ∀c':UInt8,(c'=116\/c'=98)-> ∀n:Int,0<=n/\n<=999999->z8S (q0C c' n):=fun c' hc n hn k hk e=>by
  have hl:q1y c'=true:=by rcases hc with rfl|rfl<;>decide
  have:=(z3C hl y2D hn (by omega) e).1;rcases hc with rfl|rfl<;>exact absurd this (by decide)
 rw[d0] at g0
 have hP:PInv st (upC σ xs) c (s+1) d u cnt B:=⟨g0,h.man,h.full,fun n e he=>by
   obtain⟨t0,t1,⟨y,t2⟩,t3,t4⟩:=h.tb n e he;have hr:=h.range t0
   exact⟨t0,(G _ (l0 116 (.inl rfl) n (by omega))).trans t1,⟨y,(G _ (l0 98 (.inr rfl) n (by omega))).trans t2⟩,t3,t4⟩,fun nm hn=>h.only nm (b0 nm hn),h.okw,h.okB,h.mem⟩
 by_cases J: ∀nm,d nm=φ nm
 ·exact⟨d,C,hP,G,o,O,.inl fun k hk=>(J _).trans (hc.i k hk),Left.refl C k0⟩
 ·have c0 : ∃nm,d nm≠φ nm:=by
   rcases Classical.em (∃nm,d nm≠φ nm) with h1|h1
   ·exact h1
   ·exact absurd (fun nm=>Classical.byContradiction fun h2=>h1 ⟨nm,h2⟩) J
  obtain⟨nm,o0⟩:=c0;rcases I nm with h1|⟨D,ps,j,e,a0,hv,n0,hk⟩
  ·exact absurd h1 o0
  ·subst e
   have U:D.length<=199:=by have:=O.few;rw[θ,List.length_singleton] at this;omega
   have Q : ∀k:Nat,k<=999999->d (q0C 99 (k:Int))=if k=D.length then some ((q0L D.length ps).take j) else(D[k]?).map (q0L k):=fun k R=>by
    by_cases m:k=D.length
    ·rw[ξ m,m,<-a0];exact hv
    ·rw [κ m]
     rcases I (q0C 99 (k:Int)) with h1|⟨D2,q0,j2,e2,X,_⟩
     ·rw[h1,hc.i k R]
      rcases Nat.lt_or_ge k D.length with h2|h2
      ·rw[List.getElem?_append_left h2]
      ·rw[List.getElem?_eq_none (by rw[θ,List.length_singleton];omega),List.getElem?_eq_none h2]
     ·exfalso
      have hl:D2.length=D.length:=by
       have:=congrArg List.length e2;rw[θ,θ,List.length_singleton,List.length_singleton] at this;omega
      rw[hl] at X;exact q8x R (by omega) m X
   obtain⟨S,Z⟩:=z4h D.length ps (O.pay ps (by simp)) j;by_cases f0:j<12
   ·obtain⟨s1,s2⟩:=S f0
    exact⟨d,D,hP,G,o,O.init,.inr ⟨D,_,U,Q,.inl ⟨s1,s2,rfl⟩⟩,Left.gone O f0 hk⟩
   ·obtain⟨r,r1,r2⟩:=Z (by omega)
    have hL:=Left.cut (D:=D) (ps:=ps) (k:=k0) (b:=j-12) (by omega);have j0:=O.cut (j-12);have i0:((q0L D.length ps).take j).length<=4096:=by
     rw[Θ];have:=O.size ps (by simp);rw[q0U] at n0⊢;omega
    rw[r1] at Q i0;rcases Nat.eq_zero_or_pos r.length with h0|h0
    ·have p0:r=[]:=List.length_eq_zero_iff.1 h0
     subst p0;refine⟨d,_,hP,G,o,j0,.inl fun k R=>?_,hL⟩;rw[Q k R,List.append_nil];by_cases m:k=D.length
     ·rw[ξ m,m,List.getElem?_append_right (ι _),Nat.sub_self];rfl
     ·rw[κ m]
      rcases Nat.lt_or_ge k D.length with h2|h2
      ·rw[List.getElem?_append_left h2]
      ·rw[List.getElem?_eq_none h2,List.getElem?_eq_none (by rw[θ,List.length_singleton];omega)]
    ·exact⟨d,_,hP,G,o,j0,.inr ⟨D,_,U,Q,.inr ⟨_,r,rfl,rfl,r2,h0,i0⟩⟩,hL⟩
end
section
variable {st :IxSt}{σ σ':DM}{c s:Int}{φ:Fls}{u cnt:Nat}{B:List En}{C D:Cks}{E:Oth}
theorem z6j(h:PInv st σ c s φ u cnt B){N:List (List UInt8×List UInt8)}(hN:q2K Prod.fst N)(a0: ∀y∈N,∃k:Nat,k<=999999/\y.1=q0C 99 (k:Int))(hc: ∀k:Nat,k<=999999->(q0E Prod.fst (q0C 99 (k:Int)) N).map Prod.snd=φ (q0C 99 (k:Int))):
  ∃E,Pl σ c s (E.X++(N++E.Z))/\okOth E/\(∀nm,z8S nm->(q0E Prod.fst nm (E.X++E.Z)).map Prod.snd=φ nm)/\q1R E+q1T N<=u/\E.X.length+N.length+E.Z.length<=cnt/\q2K Prod.fst (E.X++(N++E.Z)):=by
 obtain⟨l,g0,i,I,n0,m0⟩:=h.fl;have O: ∀y∈l,φ y.1≠none:=fun y d e=>by
  have:=I y.1;rw[q2x i d rfl,e] at this;cases this
 have S:=q5f (r:=fun x y:List UInt8×List UInt8=>bytesBefore x.1 y.1=true) (p:=fun y:List UInt8×List UInt8=>bytesBefore y.1 [99]) (fun x y h1 h2=>WideShapes.bytes_trans _ _ _ h1 h2) i;have hr:=i.filter (p:=fun y:List UInt8×List UInt8=>!bytesBefore y.1 [99]);have p2:=q5f (r:=fun x y:List UInt8×List UInt8=>bytesBefore x.1 y.1=true) (p:=fun y:List UInt8×List UInt8=>bytesBefore y.1 [100]) (fun x y h1 h2=>WideShapes.bytes_trans _ _ _ h1 h2) hr;obtain⟨X,hX⟩: ∃X,l.filter (fun y=>bytesBefore y.1 [99])=X:=⟨_,rfl⟩
 obtain⟨R,hR⟩: ∃R,l.filter (fun y=>!bytesBefore y.1 [99])=R:=⟨_,rfl⟩
 obtain⟨M,hM⟩: ∃M,R.filter (fun y=>bytesBefore y.1 [100])=M:=⟨_,rfl⟩
 obtain⟨Z,hZ⟩: ∃Z,R.filter (fun y=>!bytesBefore y.1 [100])=Z:=⟨_,rfl⟩
 rw[hX,hR] at S;rw[hR,hM,hZ] at p2;rw[p2] at S;have mX: ∀y,y∈X↔y∈l/\bytesBefore y.1 [99]=true:=fun y=>by rw[<-hX,List.mem_filter]
 have mR: ∀y,y∈R↔y∈l/\bytesBefore y.1 [99]=false:=fun y=>by rw[<-hR,List.mem_filter];simp
 have mM: ∀y,y∈M↔y∈l/\bytesBefore y.1 [99]=false/\bytesBefore y.1 [100]=true:=fun y=>by rw[<-hM,List.mem_filter,mR];simp[and_assoc]
 have mZ: ∀y,y∈Z↔y∈l/\bytesBefore y.1 [99]=false/\bytesBefore y.1 [100]=false:=fun y=>by rw[<-hZ,List.mem_filter,mR];simp[and_assoc]
 have j: ∀n∈st.m.L.flatten,0<=n/\n<=999999:=fun n G=>by have:=h.range G;omega
 have U: ∀y,y∈X\/y∈Z->y.1=mapN\/ ∃n∈st.m.L.flatten,y.1=q0C 116 n\/y.1=q0C 98 n:=fun y d=>by
  have hl:y∈l:=d.elim (fun h=>((mX y).1 h).1) fun h=>((mZ y).1 h).1
  rcases h.only y.1 (O y hl) with e|e|⟨k,o,e⟩
  ·exact .inl e
  ·exact .inr e
  ·exfalso
   obtain⟨_,b2,b3⟩:=q2c o;rcases d with d|d
   ·have:=((mX y).1 d).2;rw[e,b3] at this;cases this
   ·have:=((mZ y).1 d).2.2;rw[e,b2] at this;cases this
 have c0: ∀y∈M,∃k:Nat,k<=999999/\y.1=q0C 99 (k:Int):=fun y d=>by
  obtain⟨hl,q1,q2⟩:=(mM y).1 d;rcases h.only y.1 (O y hl) with e|⟨n,G,e|e⟩|e
  ·rw[e,before_map.1] at q2;cases q2
  ·rw[e,(q5P (j n G)).2.1] at q2;cases q2
  ·rw[e,(q5P (j n G)).1] at q1;cases q1
  ·exact e
 have Q:=i;rw[S] at Q;obtain⟨oX,i0,_⟩:=List.pairwise_append.1 Q;obtain⟨oM,oZ,_⟩:=List.pairwise_append.1 i0;have b0:M=N:=q9X oM hN fun nm=>by
  by_cases J: ∃k:Nat,k<=999999/\nm=q0C 99 (k:Int)
  ·obtain⟨k,o,rfl⟩:=J
   rw[hc k o,<-I];obtain⟨_,b2,b3⟩:=q2c o;rw[S,q0P fun y d e=>?_,q0s fun y d e=>?_]
   ·have:=((mZ y).1 d).2.2;rw[show y.1=q0C 99 (k:Int) from e,b2] at this;cases this
   ·have:=((mX y).1 d).2;rw[show y.1=q0C 99 (k:Int) from e,b3] at this;cases this
  ·rw[q0R fun y d e=>J (by obtain⟨k,o,e2⟩:=c0 y d;exact⟨k,o,by rw[<-e2];exact e.symm⟩),q0R fun y d e=>J (by obtain⟨k,o,e2⟩:=a0 y d;exact⟨k,o,by rw[<-e2];exact e.symm⟩)]
 rw[b0] at S;have e0:=h.noNew;have l0:q1T l=q1R ⟨X,Z⟩+q1T N:=by
  rw[S,q0b,q0b];unfold q1R;simp only;omega
 have j0:l.length=X.length+N.length+Z.length:=by rw[S];simp;omega
 refine⟨⟨X,Z⟩,?_,⟨fun y d k o=>?_,fun y d k o=>?_,fun y d e=>?_,fun y d hp=>?_,fun y d=>?_,?_⟩,fun nm J=>?_,by omega,by simp only;omega,?_⟩
 ·show Pl σ c s (X++(N++Z))
  rw[<-S];exact g0
 ·exact WideShapes.bytes_trans _ _ _ ((mX y).1 d).2 (q2c o).1
 ·by_cases q:y.1=[100]
  ·rw[q];exact(q2c o).2.1
  ·rcases WideAt.bytes_total y.1 [100] q with q|q
   ·rw[((mZ y).1 d).2.2] at q;cases q
   ·exact WideShapes.bytes_trans _ _ _ (q2c o).2.1 q
 ·have hl:y∈l:=d.elim (fun h=>((mX y).1 h).1) fun h=>((mZ y).1 h).1
  exact O y hl (by rw[e];exact e0)
 ·rcases U y d with e|⟨n,G,e|e⟩
  ·rw[e] at hp;exact absurd hp (by decide)
  ·rw[e,q1d z9l (j n G)];exact(by decide:(116:UInt8)≠99)
  ·rw[e,q1d y2W (j n G)];exact(by decide:(98:UInt8)≠99)
 ·rcases U y d with e|⟨n,G,e|e⟩
  ·rw[e];decide
  ·rw[e,q0T (j n G),χ,q0W];decide
  ·rw[e,q0T (j n G),χ,q0W];decide
 ·have d0:((X++Z).map Prod.fst).Nodup:=by
   have ho:q2K Prod.fst (X++Z):=by
    rw[S] at i;exact i.sublist (List.Sublist.append (List.Sublist.refl X) (List.sublist_append_right _ _))
   exact List.pairwise_map.2 (q8X ho)
  have hb:=Man.bounds h.man;have:=q4k (m:=mapN::(st.m.L.flatten.map (q0C 116)++st.m.L.flatten.map (q0C 98))) d0 fun x hx=>by
   obtain⟨y,d,rfl⟩:=List.mem_map.1 hx;rcases U y (List.mem_append.1 d) with e|⟨n,G,e|e⟩
   ·rw[e];exact .head _
   ·rw[e];exact .tail _ (List.mem_append.2 (.inl (List.mem_map.2 ⟨n,G,rfl⟩)))
   ·rw[e];exact .tail _ (List.mem_append.2 (.inr (List.mem_map.2 ⟨n,G,rfl⟩)))
  simp only[List.length_map,θ,χ] at this;simp only;omega
 ·rw [<-I,S]
  show(q0E Prod.fst nm (X++Z)).map Prod.snd=_;have f0: ∀y∈N,Prod.fst y≠nm:=fun y d e=>by
   obtain⟨k,o,e2⟩:=a0 y d;exact J k o (by rw[<-e2];exact e.symm)
  unfold q0E;rw[List.find?_append,List.find?_append,List.find?_append];have h0:List.find? (fun y=>Prod.fst y==nm) N=none:=q0R f0;rw[h0];simp
 ·show q2K Prod.fst (X++(N++Z))
  rw[<-S];exact i
theorem z8k{D:Cks}{t:List UInt8}(m:D.length<=199):q2K Prod.fst (q3G 0 D++[(q0C 99 (D.length:Int),t)]):=by
 refine List.pairwise_append.2 ⟨q8s D 0 (by omega),List.pairwise_singleton _ _,fun x d y i=>?_⟩;obtain⟨j,h1,h2,h3⟩:=q2d d;rw[List.mem_singleton.1 i,h3];exact q4Q (by omega) (by omega) (by omega)
theorem z6v{D:Cks}{t:List UInt8}(q:D.length<=199)(i:k<=999999):(q0E Prod.fst (q0C 99 (k:Int)) (q3G 0 D++[(q0C 99 (D.length:Int),t)])).map Prod.snd=if k=D.length then some t else(D[k]?).map (q0L k):=by
 by_cases d:k=D.length
 ·rw[ξ d,d,q0P (q3W (by omega) (by omega) fun j _ h2=>by omega)]
  unfold q0E;rw[List.find?_cons_of_pos (by simp)]
  rfl
 ·rw [κ d,q0s fun y o e=>?_]
  ·exact q8r (by omega) i
  ·rw[List.mem_singleton.1 o] at e
   exact q8x (by omega) i (fun m=>d m.symm) e
end
structure To where
 s:List UInt8
 v:Int
 e:Ev
def to0 :To:=⟨[],0,ev0⟩
def z3E(s:List UInt8):Nat->List Ev->List To
 |_,[]=>[]
 |i,e::r=>⟨s,(i:Int),e⟩::z3E s (i+1) r
def y2O(b:Bt):List To:=z3E b.st b.fi b.ev
def tos(bs:List Bt):List To:=(bs.map y2O).flatten
def q1M(bs:List Bt)(s:List UInt8):List Ev:=((bs.filter fun b=>decide (b.st=s)).map Bt.ev).flatten
def z7I(bs:List Bt)(s:List UInt8):List To:=z3E s 0 (q1M bs s)
def okBs(bs:List Bt):Prop:= ∀l b r,bs=l++b::r->z4r b/\b.fi=(q1M l b.st).length
theorem q9e{P:List α->Prop}(h0:P [])(h1: ∀l a,P l->P (l++[a]))(l:List α):P l:=by
 have h : ∀n,∀l:List α,l.length=n->P l:=fun n=>by
  induction n with
  |zero=>intro l hl;rw[List.length_eq_zero_iff.1 hl];exact h0
  | succ n ih=>
   intro l hl;rcases List.eq_nil_or_concat l with e|⟨m,a,e⟩
   ·rw[e] at hl;simp at hl
   ·rw[List.concat_eq_append] at e
    subst e;exact h1 m a (ih m (by simpa using hl))
 exact h _ l rfl
theorem q7Z(s:List UInt8): ∀(L:List Ev) (i:Nat),(z3E s i L).length=L.length
 |[],_=>rfl
 |e::r,i=>by rw[z3E,χ,q7Z s r,χ]
theorem q7Y(s:List UInt8): ∀(a b:List Ev) (i:Nat),z3E s i (a++b)=z3E s i a++z3E s (i+a.length) b
 |[],b,i=>rfl
 | e::r,b,i=>by
  rw[List.cons_append,z3E,q7Y s r b,z3E,List.cons_append,χ]
  congr 3;omega
theorem numT_mem{s:List UInt8}{t:To}: ∀{L:List Ev} {i:Nat},t∈z3E s i L↔ ∃k,k<L.length/\t=⟨s,((i+k:Nat):Int),L.getD k ev0⟩
 |[],i=>by simp[z3E]
 | e ::r,i=>by
  rw[z3E,List.mem_cons,numT_mem]
  constructor
  ·rintro(h|⟨k,h1,h2⟩)
   ·exact⟨0,by simp,by rw[h];rfl⟩
   ·exact⟨k+1,by simpa using h1,by rw[h2,List.getD_cons_succ];congr 2;omega⟩
  ·rintro⟨k,h1,h2⟩
   cases k with
   |zero=>exact .inl h2
   |succ k=>exact .inr ⟨k,by simpa using h1,by rw[h2,List.getD_cons_succ];congr 2;omega⟩
theorem z6M(s:List UInt8): ∀(L:List Ev) (i:Nat),(z3E s i L).Pairwise fun x y=>x.v<y.v
 |[],_=>List.Pairwise.nil
 | e ::r,i=>List.pairwise_cons.2 ⟨fun t d=>by
   obtain⟨k,_,rfl⟩:=numT_mem.1 d
   simp only;omega,z6M s r _⟩
theorem q4p(a b:List Bt):tos (a++b)=tos a++tos b:=by unfold tos;rw[List.map_append,List.flatten_append]
theorem q9k(b:Bt):tos [b]=y2O b:=by unfold tos;simp
theorem q4H(b:Bt):(y2O b).length=b.ev.length:=q7Z _ _ _
theorem q8L(bs:List Bt)(b:Bt)(s:List UInt8):q1M (bs++[b]) s=if b.st=s then q1M bs s++b.ev else q1M bs s:=by
 unfold q1M;rw[List.filter_append,List.map_append,List.flatten_append]
 split
 ·rename_i h;rw[List.filter_cons_of_pos (by simpa using h)];simp
 ·rename_i h;rw[List.filter_cons_of_neg (by simpa using h)];simp
theorem okBs.nil :okBs []:=fun l b r h=>by simp at h
theorem okBs_snoc{b:Bt}:okBs (bs++[b])↔okBs bs/\z4r b/\b.fi=(q1M bs b.st).length:=by
 constructor
 ·intro h
  exact⟨fun l c r e=>h l c (r++[b]) (by rw[e];simp),h bs b [] rfl⟩
 ·rintro⟨h1,h2⟩ l c r e
  rcases List.eq_nil_or_concat r with i|⟨o,d,i⟩
  ·subst i
   obtain⟨j,m⟩:=List.append_inj' e rfl;rw[<-j];injection m with m;subst m;exact h2
  ·rw[List.concat_eq_append] at i
   subst i;have e':bs++[b]=(l++c::o)++[d]:=by rw[e];simp
   obtain⟨j,_⟩:=List.append_inj' e' rfl;exact h1 l c o j
theorem z2J(h:okBs bs)(s:List UInt8):(tos bs).filter (fun t=>decide (t.s=s))=z7I bs s:=by
 revert h
 induction bs using q9e with
 |h0=>intro _;rfl
 | h1 l b ih=>
  intro h;obtain⟨h1,h2,h3⟩:=okBs_snoc.1 h;unfold z7I;rw[q4p,List.filter_append,ih h1,q9k,q8L];by_cases d:b.st=s
  ·rw [ξ d,q7Y,Nat.zero_add,<-d,<-h3,List.filter_eq_self.2]
   ·rfl
   ·intro t i
    obtain⟨k,_,rfl⟩:=numT_mem.1 i;simp
  ·rw [κ d,List.filter_eq_nil_iff.2,List.append_nil]
   ·rfl
   ·intro t i
    obtain⟨k,_,rfl⟩:=numT_mem.1 i
    simpa using d
theorem z9n{t:To}:t∈tos bs↔ ∃b∈bs,∃k,k<b.ev.length/\t=⟨b.st,((b.fi+k:Nat):Int),b.ev.getD k ev0⟩:=by
 unfold tos;rw[List.mem_flatten]
 constructor
 ·rintro⟨l,j,m⟩
  obtain⟨b,d,rfl⟩:=List.mem_map.1 j;exact⟨b,d,numT_mem.1 m⟩
 ·rintro⟨b,d,i⟩
  exact⟨_,List.mem_map.2 ⟨b,d,rfl⟩,numT_mem.2 i⟩
theorem okBs.each(h:okBs bs){b:Bt}(d:b∈bs):z4r b:=by
 obtain⟨l,r,rfl⟩:=List.append_of_mem d;exact(h l b r rfl).1
theorem q6M(a b:List Bt)(s:List UInt8):q1M (a++b) s=q1M a s++q1M b s:=by
 unfold q1M;rw[List.filter_append,List.map_append,List.flatten_append]
theorem okBs.apart{l m r:List Bt}{b c:Bt}(h:okBs (l++b::m++c::r))(d:b.st=c.st):b.fi+b.ev.length<=c.fi:=by
 have h1:=h l b (m++c::r) (by simp);have h2:=h (l++b::m) c r (by simp);rw[h2.2,h1.2,q6M,θ,show b::m=[b]++m from rfl,q6M,θ,<-d];have:(q1M [b] b.st).length=b.ev.length:=by unfold q1M;simp
 omega
theorem y1X{l m:List To}(o:l.Pairwise fun x y=>x.v<y.v)(hm:m.Pairwise fun x y=>x.v<y.v)(h: ∀t,t∈l↔t∈m):l=m:=by
 induction l generalizing m with
 | nil=>
  cases m with
  |nil=>rfl
  |cons y m=>exact absurd ((h y).2 (.head _)) (by simp)
 | cons x l ih=>
  cases m with
  |nil=>exact absurd ((h x).1 (.head _)) (by simp)
  | cons y m=>
   obtain⟨h1,h2⟩:=List.pairwise_cons.1 o;obtain⟨h3,h4⟩:=List.pairwise_cons.1 hm;have j:x=y:=by
    rcases List.mem_cons.1 ((h x).1 (.head _)) with e|q
    ·exact e
    rcases List.mem_cons.1 ((h y).2 (.head _)) with e|r
    ·exact e.symm
    have a:=h1 y r;have b:=h3 x q;omega
   subst j;rw[ih h2 h4 fun t=>?_]
   constructor
   ·intro i
    rcases List.mem_cons.1 ((h t).1 (.tail _ i)) with e|d
    ·have:=h1 t i;rw[e] at this;omega
    ·exact d
   ·intro i
    rcases List.mem_cons.1 ((h t).2 (.tail _ i)) with e|d
    ·have:=h3 t i;rw[e] at this;omega
    ·exact d
abbrev Pbs :=List (Nat×Bt)
def z2E(P:Pbs):List (Nat×List UInt8):=P.map fun x=>(x.1,btB x.2)
def q3R(sd:Int)(P:Pbs):List En:=(P.map fun x=>q0e sd x.1 x.2 x.2.ev.length).flatten
def q2E(P:Pbs):List Bt:=P.map Prod.snd
def q2P(P:Pbs)(s:List UInt8)(x:En):Option To:=
 match P.find? (fun y=>decide ((y.1:Int)=x.2.2)) with
 |none=>none
 |some y=>if y.2.st=s/\(y.2.fi:Int)<=x.2.1/\x.2.1<(y.2.fi:Int)+(y.2.ev.length:Int) then some ⟨s,x.2.1,y.2.ev.getD (x.2.1-(y.2.fi:Int)).toNat ev0⟩ else none
structure StI(sd:Int)(B:List En)(P:Pbs):Prop where
 ok:okBs (q2E P)
 pos:P.Pairwise fun a b=>a.1<b.1
 ents: ∀x,x∈B↔x∈q3R sd P
theorem z0r(sd:Int): ∀{P:Pbs},(∀y∈P,z4r y.2)->z1G sd (z2E P)=some (q3R sd P)
 |[],_=>rfl
 | y::P,h=>by
  have d:=z0r sd (P:=P) fun z i=>h z (.tail _ i)
  have h1:=z5s y.2 (h y (.head _));unfold z2E at d⊢;rw[List.map_cons,z1G,h1,Option.bind_some,d]
  rfl
theorem mem_entsP{sd:Int}{P:Pbs}{x:En}:x∈q3R sd P↔ ∃y∈P,∃k,k<y.2.ev.length/\x=q2h sd y.1 y.2 k:=by
 unfold q3R;rw[List.mem_flatten]
 constructor
 ·rintro⟨l,m,j⟩
  obtain⟨y,i,rfl⟩:=List.mem_map.1 m;unfold q0e at j;obtain⟨k,d,rfl⟩:=List.mem_map.1 j;exact⟨y,i,k,List.mem_range.1 d,rfl⟩
 ·rintro⟨y,i,k,d,rfl⟩
  exact⟨_,List.mem_map.2 ⟨y,i,rfl⟩,by unfold q0e;exact List.mem_map.2 ⟨k,List.mem_range.2 d,rfl⟩⟩
theorem q6i : ∀{P:Pbs},P.Pairwise (fun a b=>a.1<b.1)-> ∀{y:Nat×Bt},y∈P->P.find? (fun z=>decide ((z.1:Int)=(y.1:Int)))=some y
 |[],_,y,h=>by cases h
 | z ::P,hp,y,h=>by
  obtain⟨h1,h2⟩:=List.pairwise_cons.1 hp;rcases List.mem_cons.1 h with rfl|h
  ·rw[List.find?_cons_of_pos (by simp)]
  ·rw[List.find?_cons_of_neg (by have:=h1 y h;simp;omega)]
   exact q6i h2 h
section
variable {sd :Int}{B:List En}{P:Pbs}
theorem q5Y(h:P.Pairwise fun a b=>a.1<b.1){y:Nat×Bt}(i:y∈P)(j:k<y.2.ev.length)(s:List UInt8):q2P P s (q2h sd y.1 y.2 k)=if y.2.st=s then some ⟨s,((y.2.fi+k:Nat):Int),y.2.ev.getD k ev0⟩ else none:=by
 unfold q2P q2h;simp only;rw[q6i h i];simp only;by_cases d:y.2.st=s
 ·rw[ξ d,ξ ⟨d,by omega,by omega⟩,show((y.2.fi:Int)+(k:Int)-(y.2.fi:Int)).toNat=k by omega]
  congr 1
 ·rw[κ d,κ fun h=>d h.1]
theorem StI.found(h:StI sd B P){s:List UInt8}{x:En}(r:x∈B){t:To}:q2P P s x=some t↔ ∃y∈P,∃k,k<y.2.ev.length/\x=q2h sd y.1 y.2 k/\y.2.st=s/\t=⟨s,((y.2.fi+k:Nat):Int),y.2.ev.getD k ev0⟩:=by
 obtain⟨y,o,k,i,rfl⟩:=mem_entsP.1 ((h.ents x).1 r);rw[q5Y h.pos o i]
 constructor
 ·intro d
  split at d
  ·rename_i m
   injection d with d;exact⟨y,o,k,i,rfl,m,d.symm⟩
  ·cases d
 ·rintro⟨z,G,j,q,he,m,rfl⟩
  have h1:=q5Y (sd:=sd) h.pos o i s;have h2:=q5Y (sd:=sd) h.pos G q s;rw[<-he,h1,ξ m] at h2;exact h2
theorem StI.mem_str(h:StI sd B P){s:List UInt8}{t:To}:t∈z7I (q2E P) s↔ ∃y∈P,∃k,k<y.2.ev.length/\y.2.st=s/\t=⟨s,((y.2.fi+k:Nat):Int),y.2.ev.getD k ev0⟩:=by
 rw[<-z2J h.ok,List.mem_filter,z9n]
 constructor
 ·rintro⟨⟨b,m,k,i,rfl⟩,d⟩
  obtain⟨y,j,rfl⟩:=List.mem_map.1 m;simp only[Φ] at d;exact⟨y,j,k,i,d,by rw[d]⟩
 ·rintro⟨y,j,k,i,d,rfl⟩
  exact⟨⟨y.2,List.mem_map.2 ⟨y,j,rfl⟩,k,i,by rw[d]⟩,by simp⟩
theorem StI.between(h:StI sd B P)(hB:q0z B)(s:List UInt8)(a b:Int):(q0r B (q2Z sd s) a b).filterMap (q2P P s)=(z7I (q2E P) s).filter fun t=>decide (a<=t.v/\t.v<=b):=by
 refine y1X ?_ ((z6M _ _ _).filter _) fun t=>?_
 ·rw [List.pairwise_filterMap]
  refine List.Pairwise.imp_of_mem ?_ (q4m hB (q2Z sd s) a b);intro x y O Q d t ht u hu;obtain⟨I,a0,J,N⟩:=mem_range.1 O;obtain⟨b0,c0,d0,e0⟩:=mem_range.1 Q;obtain⟨p,hp,i,hi,rfl,R,rfl⟩:=(h.found I).1 ht;obtain⟨q,hq,j,hj,rfl,S,rfl⟩:=(h.found b0).1 hu;rw[lessE_iff] at d;unfold q2h at d;simp only at d⊢;rw[R,S] at d;rcases d with d|⟨_,d|⟨he,Z⟩⟩
  ·omega
  ·omega
  ·exfalso
   obtain⟨l,r,hl⟩:=List.append_of_mem hp;have o:=h.ok;have G:=h.pos;rw[hl] at o G hq;rcases List.mem_append.1 hq with hq|hq
   ·have:=(List.pairwise_append.1 G).2.2 q hq p (.head _)
    omega
   ·rcases List.mem_cons.1 hq with hq|hq
    ·rw[hq] at Z;omega
    ·obtain⟨m,r2,hm⟩:=List.append_of_mem hq
     rw[hm] at o;unfold q2E at o;rw[List.map_append,List.map_cons,List.map_append,List.map_cons] at o;have:=okBs.apart (l:=l.map Prod.snd) (b:=p.2) (m:=m.map Prod.snd) (c:=q.2) (r:=r2.map Prod.snd) (by rw[List.append_assoc,List.cons_append];exact o) (by rw[R,S]);omega
 ·rw [List.mem_filterMap,List.mem_filter,h.mem_str,Φ]
  constructor
  ·rintro⟨x,O,ht⟩
   obtain⟨I,a0,J,N⟩:=mem_range.1 O;obtain⟨y,Q,k,U,rfl,X,rfl⟩:=(h.found I).1 ht;unfold q2h at J N;simp only at J N⊢;exact⟨⟨y,Q,k,U,X,rfl⟩,by omega,by omega⟩
  ·rintro⟨⟨y,Q,k,U,X,rfl⟩,h1,h2⟩
   simp only at h1 h2;have O:q2h sd y.1 y.2 k∈B:=(h.ents _).2 (mem_entsP.2 ⟨y,Q,k,U,rfl⟩);refine⟨q2h sd y.1 y.2 k,mem_range.2 ⟨O,?_,?_,?_⟩,(h.found O).2 ⟨y,Q,k,U,rfl,X,rfl⟩⟩
   ·unfold q2h;simp only;rw[X]
   ·unfold q2h;simp only;omega
   ·unfold q2h;simp only;omega
theorem StI.has(h:StI sd B P){s:List UInt8}{v:Nat}(m:v<(q1M (q2E P) s).length): ∃x∈B,x.1=q2Z sd s/\x.2.1=(v:Int):=by
 have j:(⟨s,((0+v:Nat):Int),(q1M (q2E P) s).getD v ev0⟩:To)∈z7I (q2E P) s:=numT_mem.2 ⟨v,m,rfl⟩;obtain⟨y,o,k,d,i,he⟩:=h.mem_str.1 j;injection he with _ he _;refine⟨q2h sd y.1 y.2 k,(h.ents _).2 (mem_entsP.2 ⟨y,o,k,d,rfl⟩),?_,?_⟩
 ·unfold q2h;simp only;rw[i]
 ·unfold q2h;simp only;omega
theorem StI.last(h:StI sd B P)(q:okM B){s:List UInt8}{u r:Int}(S:((q1M (q2E P) s).length:Int)-1<=u)(j:z2V B (q2Z sd s) u r):
  ((q1M (q2E P) s).length:Int)-1<=r/\ -1<=r/\(r<0->q1M (q2E P) s=[])/\(0<=r->(z7I (q2E P) s).filter (fun t=>decide (r<=t.v/\t.v<=r))=[]->((q1M (q2E P) s).length:Int)-1<=r-1)/\
   ((z7I (q2E P) s).filter (fun t=>decide (r<=t.v/\t.v<=r))≠[]->((q1M (q2E P) s).length:Int)-1=r):=by
 have o: -1<=r:=by
  rcases j.2 with e|⟨y,O,_,_,e⟩
  ·omega
  ·have:=okEn_iff.1 (q.ok y O);omega
 have h1:((q1M (q2E P) s).length:Int)-1<=r:=by
  rcases Nat.eq_zero_or_pos (q1M (q2E P) s).length with e|e
  ·omega
  ·obtain⟨x,N,m,Q⟩:=h.has (s:=s) (v:=(q1M (q2E P) s).length-1) (by omega)
   have:=j.1 x N m (by omega);omega
 refine⟨h1,o,fun J=>?_,fun J he=>?_,fun d=>?_⟩
 ·exact List.length_eq_zero_iff.1 (by omega)
 ·rcases Int.lt_or_le (((q1M (q2E P) s).length:Int)-1) r with I|G
  ·omega
  ·exfalso
   have i:(⟨s,((0+r.toNat:Nat):Int),(q1M (q2E P) s).getD r.toNat ev0⟩:To)∈z7I (q2E P) s:=numT_mem.2 ⟨r.toNat,by omega,rfl⟩;have:=(List.mem_filter (p:=fun t:To=>decide (r<=t.v/\t.v<=r))).2 ⟨i,by simp;omega⟩;rw[he] at this
   cases this
 ·obtain⟨t,i⟩:=List.exists_mem_of_ne_nil _ d
  obtain⟨h2,h3⟩:=List.mem_filter.1 i;obtain⟨k,R,rfl⟩:=numT_mem.1 h2;simp only[Φ] at h3;omega
end
theorem z4F(sd:Int)(P:Pbs)(p:Nat)(b:Bt):q3R sd (P++[(p,b)])=q3R sd P++q0e sd p b b.ev.length:=by
 unfold q3R;rw[List.map_append,List.flatten_append];simp
theorem q4P(P:Pbs)(p:Nat)(b:Bt):q2E (P++[(p,b)])=q2E P++[b]:=by unfold q2E;rw[List.map_append];rfl
theorem mem_addEs{x:En}: ∀{es L:List En},x∈q1N es L↔x∈es\/x∈L
 |[],L=>by unfold q1N;simp
 | e ::es,L=>by
  have h:=mem_addEs (x:=x) (es:=es) (L:=q3e e L);unfold q1N at*;rw[List.foldl_cons,h,mem_addE,List.mem_cons]
  constructor
  ·rintro(h|h|h)
   ·exact .inl (.inr h)
   ·exact .inl (.inl h)
   ·exact .inr h
  ·rintro((h|h)|h)
   ·exact .inr (.inl h)
   ·exact .inl h
   ·exact .inr (.inr h)
theorem StI.snoc{sd:Int}{B:List En}{P:Pbs}(h:StI sd B P){p:Nat}{b:Bt}(i:z4r b)(j:b.fi=(q1M (q2E P) b.st).length)(m: ∀y∈P,y.1<p):StI sd (q1N (q0e sd p b b.ev.length) B) (P++[(p,b)]):=by
 refine⟨by rw[q4P];exact okBs_snoc.2 ⟨h.ok,i,j⟩,?_,fun x=>?_⟩
 ·rw[List.pairwise_append]
  exact⟨h.pos,List.pairwise_singleton _ _,fun a d c hc=>by obtain rfl:=List.mem_singleton.1 hc;exact m a d⟩
 ·rw[mem_addEs,z4F,List.mem_append,h.ents]
  exact Or.comm
theorem q4S(sd:Int)(P:Pbs):(q3R sd P).length=(tos (q2E P)).length:=by
 unfold q3R tos q2E;rw[List.length_flatten,List.length_flatten,List.map_map,List.map_map,List.map_map]
 congr 1
 refine List.map_congr_left fun x _=>?_
 simp only[Function.comp];rw[q3u,q4H]
theorem StI.len{sd:Int}{B:List En}{P:Pbs}(h:StI sd B P)(i:q0z B):B.length<=(tos (q2E P)).length:=by
 rw[<-q4S sd];have j:B.Nodup:=i.imp fun {a b} d e=>by rw[e,q0a] at d;cases d
 exact nodup_leB j fun x m=>(h.ents x).1 m
where nodup_leB {α:Type} [DecidableEq α]: ∀{l m:List α},l.Nodup->(∀x∈l,x∈m)->l.length<=m.length
 |[],_,_,_=>υ _
 | x::l,m,h,hm=>by
  obtain⟨h1,h2⟩:=List.nodup_cons.1 h;have hx:=hm x (.head _);have h3:=nodup_leB (m:=m.erase x) h2 fun y hy=>(List.mem_erase_of_ne (fun e:y=x=>h1 (by rw[<-e];exact hy))).2 (hm y (.tail _ hy))
  rw[List.length_erase_of_mem hx] at h3;have:=List.length_pos_of_mem hx;rw[χ];omega
def y2T(L:List FM)(X:FM->Prop):Prop:= ∀f∈L,f.sy=f.da.length\/X f
def Kp(σ σ':DM):Prop:=σ.down=false->σ.fail=false->(σ'.down=false/\σ'.fail=false)/\ ∀X:FM->Prop,(∀f,X f->f.nm≠z1o)->y2T σ.L X->y2T σ'.L X
theorem Kp.refl(σ:DM):Kp σ σ:=fun i d=>⟨⟨i,d⟩,fun _ _ h=>h⟩
theorem Kp.trans{a b d:DM}(h1:Kp a b)(h2:Kp b d):Kp a d:=fun o m=>by
 obtain⟨⟨r,j⟩,k1⟩:=h1 o m;obtain⟨y,q⟩:=h2 r j;exact⟨y,fun X i h=>q X i (k1 X i h)⟩
theorem z5f{σ:DM}(h:σ.fail=false):q1j σ=false:=by unfold q1j;rw[h];rfl
theorem Kp.tell(σ:DM):Kp σ (q2T σ):=fun i d=>⟨⟨i,d⟩,fun _ _ h=>h⟩
theorem Kp.tells : ∀(k:Nat) (σ:DM),Kp σ (tellN k σ)
 |0,σ=>Kp.refl σ
 |k+1,σ=>by rw[q1f];exact(Kp.tell σ).trans (Kp.tells k _)
theorem Kp.delete(σ:DM)(nm:List UInt8):Kp σ (q1H σ nm).2:=fun i d=>by
 unfold q1H;rw[κ (by rw[i];decide)]
 split
 ·exact⟨⟨i,d⟩,fun _ _ h=>h⟩
 ·rw[κ (by rw[z5f d];decide)]
  exact⟨⟨i,d⟩,fun X _ h f hm=>h f (mem_delN.1 (show f∈q1I FM.nm nm σ.L from hm)).1⟩
theorem z4R:q0C 99 (k:Int)≠z1o:=fun e=>by
 unfold q0C at e
 split at e
 ·exact absurd (List.cons.inj e).1 (by decide)
 ·cases e
theorem Sur.kp{σ σ':DM}{n:Nat}{k:Int}(h:Sur σ.L n k)(i:Kp σ σ')(m:σ.down=false)(d:σ.fail=false):Sur σ'.L n k:=
 (i m d).2 (fun f=> ∃j:Nat,n=j+1/\f.nm=q0C 99 (j:Int)/\k<=(j:Int)*4096+(f.sy:Int)) (fun f ⟨j,_,e,_⟩=>by rw[e];exact z4R) h
end
section
open Go.RowKit Go.Maps
def DkX(wb W:World)(g:Nat)(σ:DM)(K:Nat->Prop):Prop:= ∃F,DkF wb W g F σ K
def q3L :DM->List Int->(Int->Option (List En))->(Int->Option (List En))×Int×DM
 |σ,[],acc=>(acc,0,σ)
 | σ,n::ns,acc=>match q5e σ n with
  |(none,e,τ)=>(acc,e,τ)
  |(some L,_,τ)=>q3L τ ns (fun x=>if x=n then some L else acc x)
def q9t(wb w:World)(g:Nat)(m:Man)(rate:Nat)(K:Nat->Prop)(σ:DM)(e:Ending)(w':World):Prop:=
 (q0h m.nx m.ck m.L=false/\e= .returned (.tuple #[.pointer none,.int .i64 2])/\DkX wb w' g σ K/\Stay K w w')\/
 (q0h m.nx m.ck m.L=true/\σ.down=true/\e= .returned (.tuple #[.pointer none,.int .i64 61])/\DkX wb w' g σ K/\Stay K w w')\/
 (q0h m.nx m.ck m.L=true/\σ.down=false/\(q3L σ m.L.flatten (fun _=>none)).2.1≠0/\e= .returned (.tuple #[.pointer none,.int .i64 (q3L σ m.L.flatten (fun _=>none)).2.1])/\DkX wb w' g (q3L σ m.L.flatten (fun _=>none)).2.2 K/\Stay K w w')\/
 (q0h m.nx m.ck m.L=true/\σ.down=false/\(q3L σ m.L.flatten (fun _=>none)).2.1=0/\ ∃gx t,e= .returned (.tuple #[.pointer (some ⟨gx,0,none⟩),.int .i64 0])/\
  IxK wb w' g gx ⟨m,rate,[],t,m.L.flatten.length⟩ (q3L σ m.L.flatten (fun _=>none)).2.2 K/\Stay K w w'/\ ∀n,(t n).map TE.L=(q3L σ m.L.flatten (fun _=>none)).1 n)
section
variable {wb w0 w W W1 w1 w2:World}{g gx gm gt B:Nat}{st st1:IxSt}{F Y Y1 K K' V T:Nat->Prop}{σ σ1:DM}{va v v1 v2 vm:Value}{vs:List Value}{ns:List Int}{acc:List (List En)}{M L:List En}
theorem IxI.putO{D:DataW Unit}{J:Nat}(h:IxI w gx g gm gt st v vs vm D J Y){t:Nat}{may:Int->Bool}
  (N:w2.ownsMap Tryz.prog 3 q5p gt (J+1) (D.put (.int .i64 n) (.lit (.int .i64 t))))(j:OffS (fun i=>i=gt) w w2)
  (G:Tb w t g n L may T)(O: ∀i,T i->¬InX gx gm gt i):
  IxI w2 gx g gm gt ⟨st.m,st.rate,st.w,(fun x=>if x=n then some ⟨t,L,may⟩ else st.t x),st.c+1⟩ v vs vm (D.put (.int .i64 n) (.lit (.int .i64 t))) (J+1) (fun i=>Y i\/T i):=by
 have I: ∀i,i<w.heap.size->i≠gt->w2.heap[i]? =w.heap[i]? :=fun i d r=>j.block i d r
 have o: ∀i,(Y i\/T i)->i<w.heap.size/\¬InX gx gm gt i:=fun i d=>by
  rcases d with d|d
  ·exact⟨h.lt i d,h.apart i d⟩
  ·exact⟨G.lt i d,O i d⟩
 have q: ∀i,(Y i\/T i)->w2.heap[i]? =w.heap[i]? :=fun i d=>I i (o i d).1 fun e=>(o i d).2 (.inr (.inr e))
 refine⟨h.blk.same (I _ h.blk.lt h.ne.2.1),?_,q4l h.lev fun i d=>q i (.inl (h.inY i (d.elim .inl fun e=> .inr (.inl e)))),N,Nat.succ_le_succ h.cnt,fun x=>?_,fun x e r=>?_,fun i d=> .inl (h.inY i d),fun i d=>Ψ (o i d).1 j.size,fun i d=>(o i d).2,h.ne⟩
 ·refine h.mem.same fun i d=>?_
  rcases d with rfl|d
  ·exact I _ h.mem.blk.lt h.ne.2.2
  ·exact q i (.inl (h.inY i (.inr (.inr d))))
 ·exact z8K (e:=⟨t,L,may⟩) h.look h.map.isMap x
 ·simp only at r
  by_cases y:x=n
  ·rw[ξ y] at r
   injection r with r;subst r;subst y;exact(G.same j.size fun i d=>q i (.inr d)).mono (fun i d=> .inr d) fun i d=>Ψ (o i d).1 j.size
  ·rw[κ y] at r
   exact((h.tab x e r).same j.size fun i d=>q i (.inl d)).mono (fun i d=> .inl d) fun i d=>Ψ (o i d).1 j.size
theorem z5w(h : DkF wb w g F σ K){m:Man}{ao:Option Addr}{cap:Nat}(hG:Grid w ao m.L.length cap m.L)(I1:m.L.flatten.length<=1000000000)(F1: ∀x∈m.L.flatten,(Lit.int .i64 x).wf=true)(B1:0<=m.sd)(C1:m.sd<18446744073709551616)(rate:Nat):
  Calls Tryz.prog 142 #[.pointer (some ⟨g,0,none⟩),.agg #[.int .i64 m.nx,.int .i64 m.ck,.int .u64 m.sd,.slice ao m.L.length cap],.float .f64 rate] w (q9t wb w g m rate K σ):=by
 have HD:=η h;have v0:=q0B w (.cells #[.int .i64 m.nx,.int .i64 m.ck,.int .u64 m.sd,.slice ao m.L.length cap] 47);have d1:=Blk.new w 47 #[.int .i64 m.nx,.int .i64 m.ck,.int .u64 m.sd,.slice ao m.L.length cap];have a0:=η (q6U (h.d.ext v0) [] (by decide));have hc: ∃z c,q1h σ []=(z,c)/\(c==1)=false/\((c==61)=σ.down)/\(σ.down=true->c=61):=by
  unfold q1h
  cases σ.down with
  |true=>exact⟨_,_,rfl,rfl,rfl,fun _=>rfl⟩
  | false=>
   simp only[Bool.false_eq_true,if_false]
   split
   ·exact⟨_,_,rfl,rfl,rfl,fun h=>by cases h⟩
   ·exact⟨_,_,rfl,rfl,rfl,fun h=>by cases h⟩
 obtain⟨z,c,hz,x1,I0,J0⟩:=hc;rw[hz] at a0;have HV:=η (q9S m.nx m.ck m.sd ao m.L.length cap m.L _ (hG.ext v0) (by omega) F1);have HG:=η hG;have j0:=η v0;have O:=η d1;obtain⟨w1,E1⟩: ∃w1,w.alloc (.cells #[.int .i64 m.nx,.int .i64 m.ck,.int .u64 m.sd,.slice ao m.L.length cap] 47)=w1:=⟨_,rfl⟩
 rw[E1] at a0 HV j0 O;obtain⟨p,hp⟩: ∃p,w.heap.size=p:=⟨_,rfl⟩
 have HP:=η hp;rw[hp] at O;have b0:w1.cell? ⟨p,0,none⟩=some (.int .i64 m.nx):=O.o.cell 0;have b1:w1.cell? ⟨p,1,none⟩=some (.int .i64 m.ck):=O.o.cell 1;have b2:w1.cell? ⟨p,2,none⟩=some (.int .u64 m.sd):=O.o.cell 2;have b3:w1.cell? ⟨p,3,none⟩=some (.slice ao m.L.length cap):=O.o.cell 3;have N0:=@run_makeMap Tryz.prog;clear h v0 d1 hz hG
 cases hv:q0h m.nx m.ck m.L with
 | false=>
  rw[hv] at HV;have c0:=η hv;clear hv;go_enter Tryz.func142,Tryz.ntmps142;go_wp2_with fail;refine a0.o.mono ?_;rintro e w2 ⟨rfl,rfl⟩;go_wp2_with fail;refine HV.o.mono ?_;rintro e w2 ⟨rfl,G⟩;have I:=η (j0.o.trans G);clear G;go_wp2_with fail;go_ret2;exact .inl ⟨c0.o,rfl,⟨F,HD.o.grow I.o⟩,fun i j=>I.o.block i (HD.o.k i j).1⟩
 | true =>
  rw[hv] at HV;have c0:=η hv;clear hv
  cases hdn:σ.down with
  | true=>
   rw[hdn] at I0;obtain rfl:=J0 hdn;have r0:=η hdn;clear hdn J0;go_enter Tryz.func142,Tryz.ntmps142;go_wp2_with fail;refine a0.o.mono ?_;rintro e w2 ⟨rfl,rfl⟩;go_wp2_with fail;refine HV.o.mono ?_;rintro e w2 ⟨rfl,G⟩;have I:=η (j0.o.trans G);clear G;go_wp2_with fail;go_ret2;exact .inr (.inl ⟨c0.o,r0.o,rfl,⟨F,HD.o.grow I.o⟩,fun i j=>I.o.block i (HD.o.k i j).1⟩)
  | false =>
   rw[hdn] at I0;have r0:=η hdn;have p0:m.ok:=⟨c0.o,B1,C1⟩
   have u0:=Man.bounds p0;clear hdn J0;go_enter Tryz.func142,Tryz.ntmps142;go_wp2_with fail;refine a0.o.mono ?_;rintro e w2 ⟨rfl,rfl⟩;go_wp2_with fail;refine HV.o.mono ?_;rintro e w2 ⟨rfl,G⟩;have I:=η (j0.o.trans G);have b0:=q0A G b0;have b1:=q0A G b1;have b2:=q0A G b2;have b3:=q0A G b3;have Q0:=η (O.o.ext G);clear G;go_wp2_with fail;refine(z2d m.nx m.ck m.sd ao m.L.length cap m.L w2 (HG.o.ext I.o) (fun i=>by have:=u0.2.2.1 i;omega) (by omega)).mono ?_;rintro e w3 ⟨v3,y0,rfl,q0,a1⟩;have E0:=η q0;have s0:=η a1;obtain⟨a3,k3,rfl⟩:=q0.own.slice;clear q0 a1;go_wp2_with fail;refine(y1I w3).mono ?_;rintro e Z ⟨gm,rfl,Q,z1,H0⟩;have D0:=η Q;have t0:=η H0;have b3:=q0A H0 (q0A s0.o b3);clear Q H0;obtain⟨U,l0⟩: ∃U,(Z.alloc (.map #[] 0)).alloc (.cells #[.pointer (some ⟨g,0,none⟩),.int .i64 m.nx,.int .i64 m.ck,.int .u64 m.sd,.slice a3 m.L.length k3,.float .f64 rate,.pointer (some ⟨gm,0,none⟩),.map (some Z.heap.size)] 186)=U:=⟨_,rfl⟩
   have d0:Hd (Ext Z U):=η (l0▸q2U _ _ _)
   have P0:Hd (Blk U (Z.heap.size+1) 186 #[.pointer (some ⟨g,0,none⟩),.int .i64 m.nx,.int .i64 m.ck,.int .u64 m.sd,.slice a3 m.L.length k3,.float .f64 rate,.pointer (some ⟨gm,0,none⟩),.map (some Z.heap.size)]):=η (by
    have h:=Blk.new (Z.alloc (.map #[] 0)) 186 #[.pointer (some ⟨g,0,none⟩),.int .i64 m.nx,.int .i64 m.ck,.int .u64 m.sd,.slice a3 m.L.length k3,.float .f64 rate,.pointer (some ⟨gm,0,none⟩),.map (some Z.heap.size)];rw[ρ,l0] at h
    exact h)
   have T0:Hd (U.ownsMap Tryz.prog 3 q5p Z.heap.size 0 (.map [])):=η (l0▸(World.ownsMap_made (H:=Unit) Z Tryz.prog 3 q5p).alloc _);have r1:Hd (U.heap.size=Z.heap.size+2):=η (by rw[<-l0,ρ,ρ]);have s1:=q0A d0.o b3;have e0:=η (((I.o.trans s0.o).trans t0.o).trans d0.o);have y1:gm<Z.heap.size:=D0.o.blk.lt
   have S0:Hd (IxK wb U g (Z.heap.size+1) ⟨m,rate,[],(fun _=>none),0⟩ σ K):=η (by
    have hD:=HD.o;have J1:=I.o.size;have K1:=s0.o.size;have L1:=t0.o.size;have N1:=hD.ext.size;have A1:OGr U w2.heap.size 37 3 (.slice a3 m.L.length k3) y0 m.L:=(E0.o.ext t0.o).ext d0.o;have J: ∀i,((Value.slice a3 m.L.length k3).ownBlock=some i\/ ∃q,(y0.getD q (.slice none 0 0)).ownBlock=some i)->w2.heap.size<=i/\i<w3.heap.size:=fun i j=>z0g E0.o i j
    refine⟨F,gm,Z.heap.size,fun i=>((Value.slice a3 m.L.length k3).ownBlock=some i\/ ∃q,(y0.getD q (.slice none 0 0)).ownBlock=some i),⟨hD.d.ext e0.o,⟨⟨p0,okM.nil,υ _⟩,.slice a3 m.L.length k3,y0,.slice none 0 0,.map [],0,⟨P0.o,D0.o.ext d0.o,q9V A1 (υ _),T0.o,ι _,fun n=>rfl,fun n e he=>(by cases he),fun i j=>?_,fun i j=>Ψ (J i j).2 (by have:=d0.o.size;omega),fun i j hx=>?_,⟨by omega,by omega,by omega⟩⟩⟩,fun i j=>?_⟩,hD.bF,fun i j=>?_,fun i j=>by have:=J i j;omega,hD.ext.trans e0.o,fun i j=>?_⟩
    ·rcases j with j|j|j
     ·exact .inl j
     ·exact .inr j
     ·cases j
    ·have h1:=J i j
     rcases hx with rfl|rfl|rfl<;>omega
    ·have h1:=hD.d.Flt i j
     exact⟨fun hx=>by rcases hx with rfl|rfl|rfl<;>omega,fun hy=>by have:=J i hy;omega⟩
    ·rcases j with rfl|rfl|rfl<;>omega
    ·have h1:=hD.k i j
     have h2:=e0.o.size
     exact⟨by omega,h1.2,fun hx=>by rcases hx with rfl|rfl|rfl<;>omega,fun hy=>by have:=J i hy;omega⟩)
   have O0:=η (z3h ao m.L.length cap m.L U (HG.o.ext e0.o) (by omega));have u1: ∀i,K i->i<w.heap.size:=fun i j=>(HD.o.k i j).1
   have i0:Hd (Stay K w U):=η fun i j=>e0.o.block i (u1 i j)
   clear N0;have N0:=@run_makeMap Tryz.prog;go_wp2_with fail;refine O0.o.mono ?_;rintro e w5 ⟨va,rfl,X,c1⟩;obtain⟨aa,ka,rfl⟩:=X.slice;obtain⟨ns,g0⟩: ∃ns,m.L.flatten=ns:=⟨_,rfl⟩
   have p1:=η g0;rw[g0] at X;have C0:=η (LsW.start S0.o (W:=w5) c1 X);rw[g0];obtain⟨R,hR⟩: ∃R,q3L σ ns (fun _=>none)=R:=⟨_,rfl⟩
   have HR:=η hR
   have z0:Hd (∀e w',((R.2.1≠0/\e= .returned (.tuple #[.pointer none,.int .i64 R.2.1])/\DkX wb w' g R.2.2 K/\Stay K U w')\/(R.2.1=0/\ ∃gx t,e= .returned (.tuple #[.pointer (some ⟨gx,0,none⟩),.int .i64 0])/\IxK wb w' g gx ⟨m,rate,[],t,ns.length⟩ R.2.2 K/\Stay K U w'/\ ∀n,(t n).map TE.L=R.1 n))->q9t wb w g m rate K σ e w'):=η (by
    intro e w' h;unfold q9t;rw[g0,hR];rcases h with⟨q1,q2,q3,q4⟩|⟨q1,gx,t,q2,q3,q4,q5⟩
    ·exact .inr (.inr (.inl ⟨c0.o,r0.o,q1,q2,q3,i0.o.trans q4⟩))
    ·exact .inr (.inr (.inr ⟨c0.o,r0.o,q1,gx,t,q2,q3,i0.o.trans q4,q5⟩)))
   obtain⟨n,hn⟩: ∃n,ns.length=n:=⟨_,rfl⟩
   have h0:=η hn;have H1:n<=40:=by rw[<-hn,<-g0];exact u0.2.1
   have n1:=η u0;obtain⟨gx,K0⟩: ∃gx,Z.heap.size+1=gx:=⟨_,rfl⟩
   rw[hn] at C0;rw[K0] at C0;rw[hn];simp only[K0];clear X c1 g0 hn O0 j0 I s0 t0 d0 P0 T0 r1 s1 b0 b1 b2 b3 e0 S0 D0 E0 N0 hR u0 HV a0 HG O Q0 HP i0 x1 I0 l0 y1 z1 K0;go_wp2_with fail
   go_loopw [44] (fun i W=> ∃(k:Nat) (t:Int->Option TE) (acc:Int->Option (List En)) (τ:DM),k<=n/\i= .int .i64 (k:Int)/\LsW wb U W g gx ⟨m,rate,[],t,k⟩ τ K (.slice aa n ka) (.slice none 0 0) [] ns [] U.heap.size/\(∀x,(t x).map TE.L=acc x)/\q3L τ (ns.drop k) acc=R) (fun i _=>n-(intOf i).toNat)
   case atStart=>exact⟨0,fun _=>none,fun _=>none,σ,υ _,rfl,C0.o,fun x=>rfl,HR.o⟩
   case round =>
    obtain⟨k,tt,acc,τ,hk,rfl,i1,l1,y⟩:=hrel;have HL:=η i1;have U0:=η y;have V0:=η l1;clear i1 y l1;by_cases J:k<n
    ·have hd:decide ((k:Int)<(n:Int))=true:=ζ (by omega)
     have q1:IntKind.i64.wrap ((k:Int)+1)=(k:Int)+1:=by rw[ν];omega
     have q5:(k:Int)<(n:Int):=by omega
     obtain⟨_,_,ea,L0⟩:=q2z HL.o.all;rw[h0.o] at ea
     cases ea;rw[h0.o] at L0;obtain⟨ba,oa,rfl,n0⟩:=L0.at J;have M0:k<ns.length:=by rw[h0.o];exact J
     have m0:ns.drop k=ns.getD k 0::ns.drop (k+1):=by
      rw[List.drop_eq_getElem_cons M0,δ,γ M0];rfl
     have Q:ns.getD k 0∈m.L.flatten:=by rw[p1.o];exact q3y ns k M0
     have y:=U0.o;rw[m0] at y;have m1:=(n1.o.2.2.2.1 _ Q).1;generalize ns.getD k 0=nk at*;rw[q3L] at y;obtain⟨F2,t1,X0,Y2,h2⟩:=HL.o.i;have F0:=η (y0A h2.i.d nk);have R0:=η h2;obtain⟨r,hr⟩: ∃r,q5e τ nk=r:=⟨_,rfl⟩
     rw[hr] at y F0;obtain⟨o,c,G1⟩:=r;clear L0 m0 Q h2
     cases o with
     | none=>
      simp only at y;have hc:=z8U hr;have g2:(c !=0)=true:=by simpa using hc
      have G0:=η y;have HC:=η hc;clear hr y hc;go_wp2_with fail;refine F0.o.mono ?_;rintro e3 w3 ⟨rfl,f0⟩;obtain⟨h3,S⟩:=R0.o.disk f0
      have HE:Hd (q9t wb w g m rate K σ (.returned (.tuple #[.pointer none,.int .i64 c])) w3):=η (z0.o _ _ (.inl (by
       rw[<-G0.o]
       exact⟨HC.o,rfl,⟨_,h3.i.d,h3.bF,h3.ext,fun i j=>⟨(h3.k i (.inl j)).1,(h3.k i (.inl j)).2.1⟩⟩,HL.o.stay.trans fun i j=>S i (.inl j)⟩)))
      clear f0 h3 S;go_wp2_with fail;go_ret2;exact HE.o
     | some L=>
      simp only at y;obtain rfl:=z4Y hr;have G0:=η y;clear hr y;go_wp2_with fail;refine F0.o.mono ?_;rintro e3 w7 ⟨t,may,T,w6,rfl,f0,x0,k1,hT⟩;obtain⟨h3,S⟩:=R0.o.disk f0;have h7:=h3.grow x0;have A0:Stay (fun i=>K i\/z8o (.slice (some ⟨ba,oa,none⟩) n ka) (.slice none 0 0) [] i) wr w7:=S.trans (h3.kExt x0);obtain⟨j1,v7,Q1,P1,D7,O1,o0⟩:=h7.i.x;have c7:=o0.c7;have e1:=o0.cnt;simp only at e1;obtain⟨w8,D1,Y0,f1⟩:=o0.map.update Tryz.keyInt Tryz.underlying184 (by unfold maxLen;omega) (keyOf_int_mk Tryz.underlying3 m1) (z1z t);have N:OffS (fun i=>i=X0) w7 w8:=OffS.grown f1 fun i j=>by injection j with j;exact j.symm
      have Z0: ∀i,T i->¬InX gx t1 X0 i:=fun i j hx=>by have:=hT i j;have:=h3.i.x.xlt i hx;omega
      have g1:=o0.putO Y0 N k1 Z0
      obtain⟨h8,B0⟩:=h7.turnV (K:=fun i=>K i\/z8o (.slice (some ⟨ba,oa,none⟩) n ka) (.slice none 0 0) [] i) (st1:=⟨m,rate,[],(fun x=>if x=nk then some ⟨t,L,may⟩ else tt x),k+1⟩) (Y1:=fun i=>Y2 i\/T i) ⟨⟨p0,okM.nil,by show k+1<=1000000;omega⟩,_,_,_,_,_,g1⟩ (N.mono fun i _ j=> .inr (.inr j)) (fun i j=>by
       rcases j with j|j
       ·exact⟨h7.bY i j,fun hf=>(h7.i.ap i hf).2 j⟩
       ·have h9:=hT i j
        exact⟨by have:=h3.ext.size;omega,fun hf=>by have:=h3.i.d.Flt i hf;omega⟩) (fun i j=>⟨j,fun hy=>by
       rcases hy with hy|hy
       ·exact(h7.k i j).2.2.2 hy
       ·have:=hT i hy;have:=(h3.k i j).1;omega⟩)
      have o1:=η (HL.o.step ⟨_,_,_,_,h8⟩ (A0.trans B0) (by have:=f0.off.size;have:=x0.size;have:=N.size;omega));have W0:Hd (∀x,(if x=nk then some (⟨t,L,may⟩:TE) else tt x).map TE.L=if x=nk then some L else acc x):=η fun x=>by
       by_cases hx:x=nk
       ·rw[ξ hx,ξ hx];rfl
       ·rw[κ hx,κ hx];exact V0.o x
      have M1:=η D1;clear f0 h3 S h7 A0 j1 o0 Y0 f1 N Z0 g1 h8 B0 k1 hT x0 e1;go_wp2_with fail
      go_roundw
      case rel=>exact⟨k+1,_,_,G1,J,by go_num,o1.o,W0.o,G0.o⟩
      case measure=>simp[intOf];omega
    ·obtain rfl:k=n:=by omega
     have hd:decide ((k:Int)<(k:Int))=false:=ε (by omega);have y:=U0.o;rw[List.drop_of_length_le (by rw[h0.o];exact ι _),q3L] at y
     have HE:Hd (q9t wb w g m rate K σ (.returned (.tuple #[.pointer (some ⟨gx,0,none⟩),.int .i64 0])) wr):=η (z0.o _ _ (.inr (by
      rw[<-y]
      exact⟨rfl,gx,tt,rfl,by rw[h0.o];exact HL.o.i.beside fun i j=> .inl j,HL.o.stay,V0.o⟩)))
     clear y;go_wp2_with fail;go_ret2;exact HE.o
end
end
section
open Go.RowKit
def toc(t:To):List Value:=[.string ⟨t.s.toArray⟩,.int .i64 t.v,.string ⟨t.e.ty.toArray⟩,.string ⟨t.e.da.toArray⟩,.float .f64 t.e.we]
def toV(t:To):Value:= .agg #[.string ⟨t.s.toArray⟩,.int .i64 t.v,.string ⟨t.e.ty.toArray⟩,.string ⟨t.e.da.toArray⟩,.float .f64 t.e.we]
def z7J(L:List To):List Value:=(L.map toc).flatten
theorem z2M(L M:List To):z7J (L++M)=z7J L++z7J M:=by unfold z7J;rw[List.map_append,List.flatten_append]
theorem z6u(L:List To)(t:To):z7J (L++[t])=z7J L++toc t:=by rw[z2M];unfold z7J;simp
theorem Tryz.infoTo :(Tryz.prog.info? 69).map (fun i=>(i.zero,i.size,i.bytes))=some (some (.agg #[.string ⟨#[]⟩,.int .i64 0,.string ⟨#[]⟩,.string ⟨#[]⟩,.float .f64 0]),5,64):=by kernel_rfl
end
end Go.Proofs.YtfiibpgoplcgkaaGreatDoor
