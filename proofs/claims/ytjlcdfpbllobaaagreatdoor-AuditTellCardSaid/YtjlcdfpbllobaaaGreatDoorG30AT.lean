/- Walks. -/
import Derived.Test.YtjlcdfpbllobaaaGreatDoorG28AT
import Derived.Test.YtjlcdfpbllobaaaGreatDoorG29AT
import Derived.WideKeyEntry
import Derived.Test.YtjlcdfpbllobaaaGreatDoorG23AT
set_option linter.unusedVariables false
set_option linter.unusedSimpArgs false
set_option maxRecDepth 100000
set_option maxHeartbeats 12800000
namespace Go.Proofs.YtjlcdfpbllobaaaGreatDoor
variable {τ:DM}{n f:Int}{e:TE}{u' cnt' k m cap i vn vc:Nat}{α:Type}{bs:List Bt}{w':World}{ao so:Option Addr}
section
open Go.RowKit Go.Maps
def Man.S(m:Man):List UInt8:=(q3W m.nx m.ck m.sd m.L).1
theorem z3q{c:Int}(h:c≠0):q2H c≠0:=by
 rcases z3r c with e|e<;>rw[e]
 ·exact h
 ·decide
theorem z8V{σ:DM}{e:Int}(h:q5i σ n=(none,e,τ)):e≠0:=by
 unfold q5i at h
 split at h
 ·next h1=>injection h with _ h2;injection h2 with h2 _;rw[<-h2];exact z3q h1
 ·split at h
  ·injection h with _ h2;injection h2 with h2 _;rw[<-h2];decide
  ·split at h
   ·injection h with _ h2;injection h2 with h2 _;rw[<-h2];decide
   ·injection h with h1 _;cases h1
theorem z4X{σ:DM}{e:Int}{L:List En}(h:q5i σ n=(some L,e,τ)):e=0:=by
 unfold q5i at h
 split at h
 ·injection h with h1 _;cases h1
 ·split at h
  ·injection h with h1 _;cases h1
  ·split at h
   ·injection h with h1 _;cases h1
   ·injection h with _ h2;injection h2 with h2 _;exact h2.symm
end
section
open Go.RowKit
abbrev Fls :=List UInt8->Option (List UInt8)
def z9S(φ:Fls)(nm:List UInt8):Fls:=fun x=>if x=nm then none else φ x
def Fl(σ:DM)(c s:Int)(φ:Fls)(u cnt:Nat):Prop:= ∃l,Pl σ c s l/\q3V Prod.fst l/\(∀nm,(q0I Prod.fst nm l).map Prod.snd=φ nm)/\q2W l<=u/\l.length<=cnt
section
variable {σ :DM}{c s:Int}{l:List (List UInt8×List UInt8)}{nm t a b:List UInt8}{x:List UInt8×List UInt8}{φ:Fls}{u cnt:Nat}
theorem Pl.delete(h:Pl σ c s l)(d:q0I Prod.fst nm l=some x): ∃σ',q1V σ nm=(0,σ')/\Pl σ' c s (q2v Prod.fst nm l):=by
 obtain⟨f,h1,rfl⟩:=h.find_some d;refine⟨{q2f σ with L:=q2v FM.nm nm σ.L},?_,h.up,h.fine,?_,h.cap,h.st⟩
 ·unfold q1V
  rw[κ (by rw[h.up];decide),h1,κ (by simp),κ (by rw[h.no];decide)]
 ·rw[<-h.files]
  exact z2j (k:=FM.nm) (k':=Prod.fst) q8P nm σ.L
theorem Pl.deleteN(h:Pl σ c s l)(d:q0I Prod.fst nm l=none):q1V σ nm=(4,σ):=by
 unfold q1V;rw[κ (by rw[h.up];decide),h.find_none d,ξ (by simp)]
theorem q9E(nm:List UInt8)(l:List (List UInt8×List UInt8)):q0I Prod.fst nm (q2v Prod.fst nm l)=none:=q0W fun y d=>(mem_delN.1 d).2
theorem z5b{nm d:List UInt8}(l:List (List UInt8×List UInt8))(j:nm≠d):q0I Prod.fst nm (q2v Prod.fst d l)=q0I Prod.fst nm l:=by
 unfold q0I q2v;rw[List.find?_filter]
 congr 1
 funext y
 by_cases o:y.1=nm
 ·have h1:(y.1==nm)=true:=by simpa using o
  have h2:(y.1==d)=false:=by rw[o];simpa using j
  rw[h1,h2];rfl
 ·have h1:(y.1==nm)=false:=by simpa using o
  rw[h1];simp
theorem z6z(nm:List UInt8)(l:List (List UInt8×List UInt8)):q2W (q2v Prod.fst nm l)<=q2W l:=by
 unfold q2W q5s q2v
 induction l with
 |nil=>exact ι _
 | cons y r ih=>
  rw[List.filter_cons]
  split
  ·simp only[List.map_cons,List.sum_cons];omega
  ·simp only[List.map_cons,List.sum_cons];omega
theorem z9U(nm:List UInt8)(l:List (List UInt8×List UInt8)):(q2v Prod.fst nm l).length<=l.length:=List.length_filter_le _ _
theorem Fl.find(d: ∀nm,(q0I Prod.fst nm l).map Prod.snd=φ nm)(h:φ nm=some t):q0I Prod.fst nm l=some (nm,t):=by
 have h1:=d nm;rw[h] at h1
 cases hf:q0I Prod.fst nm l with
 |none=>rw[hf] at h1;cases h1
 | some y=>
  rw[hf] at h1;have h2:=(q0R hf).2;injection h1 with h1;rw[<-h1,<-h2]
theorem Fl.noFind(d: ∀nm,(q0I Prod.fst nm l).map Prod.snd=φ nm)(h:φ nm=none):q0I Prod.fst nm l=none:=by
 have h1:=d nm;rw[h] at h1
 cases hf:q0I Prod.fst nm l with
 |none=>rfl
 |some y=>rw[hf] at h1;cases h1
theorem Fl.cut(j: ∀nm,(q0I Prod.fst nm l).map Prod.snd=φ nm)(nm:List UInt8): ∀x,(q0I Prod.fst x (q2v Prod.fst nm l)).map Prod.snd=z9S φ nm x:=fun x=>by
 unfold z9S;by_cases d:x=nm
 ·subst d;rw[ξ rfl,q9E];rfl
 ·rw[κ d,z5b l d];exact j x
theorem Fl.up(h:Fl σ c s φ u cnt):σ.down=false:=by obtain⟨l,h1,_⟩:=h;exact h1.up
theorem Fl.mono(h:Fl σ c s φ u cnt)(h1:u<=u')(h2:cnt<=cnt'):Fl σ c s φ u' cnt':=by
 obtain⟨l,d,j,o,q,r⟩:=h;exact⟨l,d,j,o,by omega,by omega⟩
theorem Fl.tell(h:Fl σ c s φ u cnt):Fl (q2V σ) c s φ u cnt:=by
 obtain⟨l,d,j,o,q,r⟩:=h;exact⟨l,d.tell,j,o,q,r⟩
theorem Fl.tells : ∀(k:Nat) {σ:DM},Fl σ c s φ u cnt->Fl (tellN k σ) c s φ u cnt
 |0,_,h=>h
 |k+1,σ,h=>by rw[q1r];exact Fl.tells k h.tell
theorem Fl.del(h:Fl σ c s φ u cnt)(y:φ nm=some t): ∃σ',q1V σ nm=(0,σ')/\Fl σ' c s (z9S φ nm) u cnt:=by
 obtain⟨l,j,o,d,q,r⟩:=h;obtain⟨σ',e,p⟩:=j.delete (Fl.find d y);exact⟨σ',e,_,p,q8z o,Fl.cut d nm,Ω (z6z nm l) q,Ω (z9U nm l) r⟩
theorem Fl.wl(h:Fl σ c s φ u cnt){L:List En}(o:φ (q0H 116 n)=some (q8l L)):Wl σ n L:=by
 obtain⟨l,d,q,j,r,y⟩:=h;exact d.wl (Fl.find j o)
end
end
section
open Go.RowKit Go.Maps
theorem q9p{P:Program}{id:Nat}{Q:Exit->Act->World->Prop}{a:Act}{w:World}{l:List Oper}(n:Nat)(hm:P.follows .mixedOrders=true)(j:Region.lexTailB .any l.toArray n=true)
  (h:wpStill P l.toArray w.drew (fun d=>wpList P l.toArray Q (l.drop n) d w.drew) (l.take n) a):(Code.region id l.toArray true).wp P Q a w:=
 wp_region_still_tail n hm j h
section
variable {wb w w1 w2:World}{g gx gm gt:Nat}{st st1:IxSt}{F Y Y1 K K' V:Nat->Prop}{σ σ1:DM}
end
section
variable {wb w w1 w2:World}{g gx gm gt:Nat}{st st1:IxSt}{F Y Y1 K K' V:Nat->Prop}{σ σ1:DM}
end
section
variable {wb w0 w W W1 w1 w2:World}{g gx gm gt B:Nat}{st st1:IxSt}{F Y Y1 K K' V T:Nat->Prop}{σ σ1:DM}{va v v1 v2 vm:Value}{vs:List Value}{ns:List Int}{acc:List (List En)}{M L:List En}
end
end
section
open Go.RowKit
theorem q9k : ∀{a b:List En},q0x a->q0x b->(∀x∈a,x∈b)->a.Sublist b
 |[],b,_,_,_=>List.nil_sublist b
 |x::a,[],_,_,h=>absurd (h x (.head _)) (by simp)
 | x :: a,y::b,ha,hb,h=>by
  obtain⟨h1,h2⟩:=List.pairwise_cons.1 ha;obtain⟨h3,h4⟩:=List.pairwise_cons.1 hb;rcases List.mem_cons.1 (h x (.head _)) with e|r
  ·subst e
   refine(q9k h2 h4 fun z j=>?_).cons_cons x;rcases List.mem_cons.1 (h z (.tail _ j)) with e|d
   ·have:=h1 z j
    rw[e,q0a] at this;cases this
   ·exact d
  ·refine(q9k ha h4 fun z j=>?_).cons y
   rcases List.mem_cons.1 (h z j) with e|d
   ·rcases List.mem_cons.1 j with D|o
    ·rw[D];exact r
    ·have q:=h1 z o
     have G:=h3 x r;rw[e] at q;have:=q1P q G;rw[q0a] at this;cases this
   ·exact d
theorem q4a{a b:List En}(d:q0x a)(j:q0x b)(h: ∀x∈a,x∈b):a.length<=b.length:=(q9k d j h).length_le
def TL(st:IxSt)(n:Int):List En:=match st.t n with|some e=>e.L|none=>[]
theorem q3e{st:IxSt}(h:st.t n=some e):TL st n=e.L:=by unfold TL;rw[h]
structure PInv(st:IxSt)(σ:DM)(c s:Int)(φ:Fls)(u cnt:Nat)(B:List En):Prop where
 fl:Fl σ c s φ u cnt
 man:st.m.ok
 full:st.full
 tb: ∀n e,st.t n=some e->n∈st.m.L.flatten/\φ (q0H 116 n)=some (q8l e.L)/\(∃y,φ (q0H 98 n)=some y)/\okM e.L/\ ∀x∈e.L,e.may x.1=true
 only: ∀nm,φ nm≠none->nm=mapN\/(∃n∈st.m.L.flatten,nm=q0H 116 n\/nm=q0H 98 n)\/ ∃k:Nat,k<=999999/\nm=q0H 99 (k:Int)
 okw:okM st.w
 okB:okM B
 mem: ∀x,x∈B↔x∈st.w\/ ∃n e,st.t n=some e/\x∈e.L
section
variable {st :IxSt}{σ σ':DM}{c s:Int}{φ:Fls}{u cnt:Nat}{B:List En}
theorem PInv.range(h:PInv st σ c s φ u cnt B)(j:n∈st.m.L.flatten):0<=n/\n<=999999/\n<st.m.nx:=by
 have d:=Man.bounds h.man;have:=d.2.2.2.1 n j;omega
theorem PInv.tell(h:PInv st σ c s φ u cnt B)(k:Nat):PInv st (tellN k σ) c s φ u cnt B:=⟨Fl.tells k h.fl,h.man,h.full,h.tb,h.only,h.okw,h.okB,h.mem⟩
theorem PInv.mono(h:PInv st σ c s φ u cnt B)(h1:u<=u')(h2:cnt<=cnt'):PInv st σ c s φ u' cnt' B:=⟨h.fl.mono h1 h2,h.man,h.full,h.tb,h.only,h.okw,h.okB,h.mem⟩
theorem PInv.wlen(h:PInv st σ c s φ u cnt B):st.w.length<=B.length:=q4a h.okw.sort h.okB.sort fun x d=>(h.mem x).2 (.inl d)
theorem PInv.tlen(h:PInv st σ c s φ u cnt B)(he:st.t n=some e):e.L.length<=B.length:=q4a (h.tb n e he).2.2.2.1.sort h.okB.sort fun x d=>(h.mem x).2 (.inr ⟨n,e,he,d⟩)
theorem PInv.wl(h:PInv st σ c s φ u cnt B)(he:st.t n=some e):Wl σ n e.L:=h.fl.wl (h.tb n e he).2.1
theorem PInv.add(h:PInv st σ c s φ u cnt B){x:En}(d:q3c x=true)(j:B.length<50000):PInv {st with w:=q3i x st.w} σ c s φ u cnt (q3i x B):=by
 have o:=h.wlen;refine⟨h.fl,h.man,h.full,h.tb,h.only,h.okw.add d (by omega),h.okB.add d j,fun y=>?_⟩;show y∈q3i x B↔y∈q3i x st.w\/_;rw[mem_addE,mem_addE,h.mem y]
 constructor
 ·rintro(h1|h1|h1)
  ·exact .inl (.inl h1)
  ·exact .inl (.inr h1)
  ·exact .inr h1
 ·rintro((h1|h1)|h1)
  ·exact .inl h1
  ·exact .inr (.inl h1)
  ·exact .inr (.inr h1)
theorem z0o(h:PInv st σ c s φ u cnt B)(x a b:Int): ∀(ns:List Int) (acc:List (List En)) (k0:Nat),(∀n∈ns,n∈st.m.L.flatten)->
  ∃k,q3h st x (max a 0) (min b 1073741824) (tellN k0 σ) ns acc=(acc++ns.map (fun n=>q0r (TL st n) x (max a 0) (min b 1073741824)),0,tellN k σ)
 |[],acc,k0,_=>⟨k0,by rw[q3h];simp⟩
 | n::ns,acc,k0,hn=>by
  obtain⟨e,he⟩:=h.full n (hn n (by simp));have d:=h.tb n e he;obtain⟨k,_,_,j⟩:=z6T ((h.wl he).tellN k0) d.2.2.2.1.sort d.2.2.2.1.ok d.2.2.2.2 x (max a 0) (min b 1073741824);rw[show max (max a 0) 0=max a 0 by omega,show min (min b 1073741824) 1073741824=min b 1073741824 by omega,q3R] at j;obtain⟨q,h2⟩:=z0o h x a b ns (acc++[q0r e.L x (max a 0) (min b 1073741824)]) (k0+k) (fun y o=>hn y (by simp[o]));refine⟨q,?_⟩;rw[q3h,he];simp only;rw[j];simp only;rw[κ (fun h=>h rfl),h2,List.map_cons,q3e he,List.append_assoc]
  rfl
theorem mem_range{L:List En}{x a b:Int}{y:En}:y∈q0r L x a b↔y∈L/\y.1=x/\a<=y.2.1/\y.2.1<=b:=by
 unfold q0r;rw[List.mem_filter];simp only[Ξ,Φ]
 constructor
 ·rintro⟨h1,⟨h2,h3⟩,h4⟩;exact⟨h1,h2,h3,h4⟩
 ·rintro⟨h1,h2,h3,h4⟩;exact⟨h1,⟨h2,h3⟩,h4⟩
theorem q4j{L:List En}(h:q0x L)(x a b:Int):q0x (q0r L x a b):=h.filter _
theorem y0V(h:PInv st σ c s φ u cnt B)(n:Int):q0x (TL st n)/\(∀x∈TL st n,q3c x=true)/\(TL st n).length<=B.length:=by
 unfold TL
 cases he:st.t n with
 |none=>exact⟨List.Pairwise.nil,fun x d=>by simp at d,υ _⟩
 |some e=>exact⟨(h.tb n e he).2.2.2.1.sort,(h.tb n e he).2.2.2.1.ok,h.tlen he⟩
theorem z7v{L:List (List En)}(h: ∀l∈L,l.length<=k):L.flatten.length<=L.length*k:=by
 induction L with
 |nil=>simp
 | cons a r ih=>
  rw[List.flatten_cons,θ,χ,Nat.add_mul];have h1:=h a (by simp);have h2:=ih fun l d=>h l (by simp[d])
  omega
theorem PInv.rangeIs(h:PInv st σ c s φ u cnt B)(x a b:Int): ∃k R,q3h st x (max a 0) (min b 1073741824) σ st.m.L.flatten [q0r st.w x (max a 0) (min b 1073741824)]=(R,0,tellN k σ)/\(∀L∈R,q0x L)/\R.flatten.length<=41*B.length/\q2g R=q0r B x (max a 0) (min b 1073741824):=by
 obtain⟨k,e⟩:=z0o h x a b st.m.L.flatten [q0r st.w x (max a 0) (min b 1073741824)] 0 (fun n o=>o);have q: ∀L∈[q0r st.w x (max a 0) (min b 1073741824)]++st.m.L.flatten.map (fun n=>q0r (TL st n) x (max a 0) (min b 1073741824)),q0x L/\L.length<=B.length:=fun L d=>by
  rcases List.mem_append.1 d with d|d
  ·rw[List.mem_singleton.1 d]
   exact⟨q4j h.okw.sort _ _ _,Ω (List.length_filter_le _ _) h.wlen⟩
  ·obtain⟨n,o,rfl⟩:=List.mem_map.1 d
   have:=y0V h n;exact⟨q4j this.1 _ _ _,Ω (List.length_filter_le _ _) this.2.2⟩
 refine⟨k,_,e,fun L d=>(q L d).1,?_,?_⟩
 ·have h1:=z7v fun l r=>(q l r).2
  rw[θ,List.length_map] at h1;have h2:=(Man.bounds h.man).2.1;simp only[χ,List.length_nil] at h1;have:(0+1+st.m.L.flatten.length)*B.length<=41*B.length:=Nat.mul_le_mul_right _ (by omega);omega
 ·refine q6E (q4r _) (q4j h.okB.sort _ _ _) fun y=>?_
  rw[mem_union,mem_range,h.mem y]
  constructor
  ·rintro⟨L,d,j⟩
   rcases List.mem_append.1 d with d|d
   ·rw[List.mem_singleton.1 d,mem_range] at j
    exact⟨.inl j.1,j.2⟩
   ·obtain⟨n,o,rfl⟩:=List.mem_map.1 d
    rw[mem_range] at j;obtain⟨e,he⟩:=h.full n o;rw[q3e he] at j;exact⟨.inr ⟨n,e,he,j.1⟩,j.2⟩
  ·rintro⟨h1|⟨n,e,he,h1⟩,h2⟩
   ·exact⟨_,List.mem_append.2 (.inl (List.mem_singleton.2 rfl)),mem_range.2 ⟨h1,h2⟩⟩
   ·exact⟨_,List.mem_append.2 (.inr (List.mem_map.2 ⟨n,(h.tb n e he).1,rfl⟩)),mem_range.2 ⟨by rw[q3e he];exact h1,h2⟩⟩
end
theorem z8R{c d:UInt8}(hc:q1y c=true)(j:q1y d=true){m:Int}(o:0<=n/\n<=999999)(hm:0<=m/\m<=999999)(h:q0H c n=q0H d m):c=d/\n=m:=by
 have h1:=q2F hc o;rw[h,q2F j hm] at h1;injection h1 with h1 h2;injection h2 with h2 _;exact⟨h1.symm,by omega⟩
theorem y1J :q1y 116=true:=by decide
theorem y2l :q1y 98=true:=by decide
theorem y2f :q1y 99=true:=by decide
theorem q3m(d:k<=999999):q0H 99 (k:Int)≠mapN/\q0H 99 (k:Int)≠z4T:=by
 rw[q0Y (by omega)];exact⟨fun e=>absurd (List.cons.inj e).1 (by decide),fun e=>absurd (List.cons.inj e).1 (by decide)⟩
theorem z3I{c:UInt8}(hc:c=116\/c=98)(d:0<=n/\n<=999999):q0H c n≠mapN/\q0H c n≠z4T:=by
 rw[q0Y d];rcases hc with rfl|rfl
 ·exact⟨fun e=>absurd (List.cons.inj e).1 (by decide),fun e=>absurd (List.cons.inj e).1 (by decide)⟩
 ·exact⟨fun e=>absurd (List.cons.inj e).1 (by decide),fun e=>absurd (List.cons.inj e).1 (by decide)⟩
section
variable {st :IxSt}{σ σ':DM}{c s:Int}{φ:Fls}{u cnt:Nat}{B:List En}
theorem PInv.noNew(h:PInv st σ c s φ u cnt B):φ z4T=none:=by
 cases he:φ z4T with
 |none=>rfl
 | some y=>
  exfalso
  rcases h.only z4T (by rw[he];simp) with e|⟨m,hm,e|e⟩|⟨k,d,e⟩
  ·exact z4U e
  ·have j:=h.range hm
   exact(z3I (.inl rfl) (show 0<=m/\m<=999999 by omega)).2 e.symm
  ·have j:=h.range hm
   exact(z3I (.inr rfl) (show 0<=m/\m<=999999 by omega)).2 e.symm
  ·exact(q3m d).2 e.symm
end
section
variable {st :IxSt}{σ σ':DM}{c s:Int}{φ:Fls}{u cnt:Nat}{B:List En}
theorem PInv.unionLe(h:PInv st σ c s φ u cnt B)(ns:List Int):okM (q2g (ns.map (TL st)))/\(q2g (ns.map (TL st))).length<=B.length/\ ∀x∈q2g (ns.map (TL st)),x∈B:=by
 have hm: ∀x∈q2g (ns.map (TL st)),x∈B:=fun x j=>by
  obtain⟨L,o,d⟩:=mem_union.1 j;obtain⟨n,r,rfl⟩:=List.mem_map.1 o;unfold TL at d
  cases he:st.t n with
  |none=>rw[he] at d;simp at d
  |some e=>rw[he] at d;exact(h.mem x).2 (.inr ⟨n,e,he,d⟩)
 have q:=q4a (q4r (ns.map (TL st))) h.okB.sort hm;exact⟨⟨q4r _,fun x j=>h.okB.ok x (hm x j),by have:=h.okB.len;omega⟩,q,hm⟩
def z2V(B:List En)(x u r:Int):Prop:=(∀y∈B,y.1=x->y.2.1<=u->y.2.1<=r)/\((r= -1)\/ ∃y∈B,y.1=x/\y.2.1<=u/\y.2.1=r)
theorem q6h{L:List En}(G:q0x L)(x u:Int):z2V L x u (z4r L x u):=by
 unfold z4r q2w
 cases hl:(L.filter (inE x u)).getLast? with
 | none=>
  have:=List.getLast?_eq_none_iff.1 hl;refine⟨fun y D h1 h2=>?_,.inl rfl⟩;have:y∈L.filter (inE x u):=List.mem_filter.2 ⟨D,by unfold inE;simp[h1,h2]⟩;rw[List.getLast?_eq_none_iff.1 hl] at this
  cases this
 | some e=>
  have r:=List.mem_of_getLast? hl;obtain⟨I,o⟩:=List.mem_filter.1 r;unfold inE at o;simp only[Ξ,Φ] at o;refine⟨fun y D h1 h2=>?_,.inr ⟨e,I,o.1,o.2,rfl⟩⟩;have j:y∈L.filter (inE x u):=List.mem_filter.2 ⟨D,by unfold inE;simp[h1,h2]⟩;have d:q0x (L.filter (inE x u)):=G.filter _;obtain⟨l,q⟩:=List.getLast?_eq_some_iff.1 hl;rw[q] at j d;rcases List.mem_append.1 j with h3|h3
  ·have h4:=(List.pairwise_append.1 d).2.2 y h3 e (by simp)
   rw[lessE_iff] at h4;show y.2.1<=e.2.1;omega
  ·rw[List.mem_singleton.1 h3];exact Int.le_refl _
end
structure To where
 s:List UInt8
 v:Int
 e:Ev
def to0 :To:=⟨[],0,ev0⟩
def q5q(s:List UInt8):Nat->List Ev->List To
 |_,[]=>[]
 |i,e::r=>⟨s,(i:Int),e⟩::q5q s (i+1) r
def y2Y(b:Bt):List To:=q5q b.st b.fi b.ev
def tos(bs:List Bt):List To:=(bs.map y2Y).flatten
def q0c(bs:List Bt)(s:List UInt8):List Ev:=((bs.filter fun b=>decide (b.st=s)).map Bt.ev).flatten
def q3U(bs:List Bt)(s:List UInt8):List To:=q5q s 0 (q0c bs s)
def okBs(bs:List Bt):Prop:= ∀l b r,bs=l++b::r->z4V b/\b.fi=(q0c l b.st).length
theorem q7j{P:List α->Prop}(h0:P [])(h1: ∀l a,P l->P (l++[a]))(l:List α):P l:=by
 have h : ∀n,∀l:List α,l.length=n->P l:=fun n=>by
  induction n with
  |zero=>intro l hl;rw[List.length_eq_zero_iff.1 hl];exact h0
  | succ n ih=>
   intro l hl;rcases List.eq_nil_or_concat l with e|⟨m,a,e⟩
   ·rw[e] at hl;simp at hl
   ·rw[List.concat_eq_append] at e
    subst e;exact h1 m a (ih m (by simpa using hl))
 exact h _ l rfl
theorem q1l(s:List UInt8): ∀(L:List Ev) (i:Nat),(q5q s i L).length=L.length
 |[],_=>rfl
 |e::r,i=>by rw[q5q,χ,q1l s r,χ]
theorem q5G(s:List UInt8): ∀(a b:List Ev) (i:Nat),q5q s i (a++b)=q5q s i a++q5q s (i+a.length) b
 |[],b,i=>rfl
 | e::r,b,i=>by
  rw[List.cons_append,q5q,q5G s r b,q5q,List.cons_append,χ]
  congr 3;omega
theorem numT_mem{s:List UInt8}{t:To}: ∀{L:List Ev} {i:Nat},t∈q5q s i L↔ ∃k,k<L.length/\t=⟨s,((i+k:Nat):Int),L.getD k ev0⟩
 |[],i=>by simp[q5q]
 | e ::r,i=>by
  rw[q5q,List.mem_cons,numT_mem]
  constructor
  ·rintro(h|⟨k,h1,h2⟩)
   ·exact⟨0,by simp,by rw[h];rfl⟩
   ·exact⟨k+1,by simpa using h1,by rw[h2,List.getD_cons_succ];congr 2;omega⟩
  ·rintro⟨k,h1,h2⟩
   cases k with
   |zero=>exact .inl h2
   |succ k=>exact .inr ⟨k,by simpa using h1,by rw[h2,List.getD_cons_succ];congr 2;omega⟩
theorem q5z(s:List UInt8)(a b:Int): ∀(L:List Ev) (i:Nat),(q5q s i L).filter (fun t=>decide (a<=t.v/\t.v<=b))=((q5q s i L).drop (a-(i:Int)).toNat).take ((b+1-(i:Int)).toNat-(a-(i:Int)).toNat)
 |[],i=>by simp[q5q]
 | e ::r,i=>by
  have d:=q5z s a b r (i+1);rw[q5q];by_cases h1:a<=(i:Int)
  ·have j:(a-(i:Int)).toNat=0:=by omega
   have o:(a-((i+1:Nat):Int)).toNat=0:=by omega
   rw[j,List.drop_zero,Nat.sub_zero];rw[o,List.drop_zero,Nat.sub_zero] at d;by_cases h2:(i:Int)<=b
   ·rw[List.filter_cons_of_pos (by simp;omega),d,show(b+1-(i:Int)).toNat=(b+1-((i+1:Nat):Int)).toNat+1 by omega,List.take_succ_cons]
   ·rw[List.filter_cons_of_neg (by simp;omega),d,show(b+1-(i:Int)).toNat=0 by omega,show(b+1-((i+1:Nat):Int)).toNat=0 by omega,List.take_zero,List.take_zero]
  ·have j:(a-(i:Int)).toNat=(a-((i+1:Nat):Int)).toNat+1:=by omega
   rw[List.filter_cons_of_neg (by simp;omega),d,j,List.drop_succ_cons]
   congr 1
   omega
theorem z6A(s:List UInt8): ∀(L:List Ev) (i:Nat),(q5q s i L).Pairwise fun x y=>x.v<y.v
 |[],_=>List.Pairwise.nil
 | e ::r,i=>List.pairwise_cons.2 ⟨fun t d=>by
   obtain⟨k,_,rfl⟩:=numT_mem.1 d
   simp only;omega,z6A s r _⟩
theorem q3E(a b:List Bt):tos (a++b)=tos a++tos b:=by unfold tos;rw[List.map_append,List.flatten_append]
theorem q7p(b:Bt):tos [b]=y2Y b:=by unfold tos;simp
theorem q4A(b:Bt):(y2Y b).length=b.ev.length:=q1l _ _ _
theorem q8O(bs:List Bt)(b:Bt)(s:List UInt8):q0c (bs++[b]) s=if b.st=s then q0c bs s++b.ev else q0c bs s:=by
 unfold q0c;rw[List.filter_append,List.map_append,List.flatten_append]
 split
 ·rename_i h;rw[List.filter_cons_of_pos (by simpa using h)];simp
 ·rename_i h;rw[List.filter_cons_of_neg (by simpa using h)];simp
theorem okBs.nil :okBs []:=fun l b r h=>by simp at h
theorem okBs_snoc{b:Bt}:okBs (bs++[b])↔okBs bs/\z4V b/\b.fi=(q0c bs b.st).length:=by
 constructor
 ·intro h
  exact⟨fun l c r e=>h l c (r++[b]) (by rw[e];simp),h bs b [] rfl⟩
 ·rintro⟨h1,h2⟩ l c r e
  rcases List.eq_nil_or_concat r with j|⟨y,d,j⟩
  ·subst j
   obtain⟨o,q⟩:=List.append_inj' e rfl;rw[<-o];injection q with q;subst q;exact h2
  ·rw[List.concat_eq_append] at j
   subst j;have e':bs++[b]=(l++c::y)++[d]:=by rw[e];simp
   obtain⟨o,_⟩:=List.append_inj' e' rfl;exact h1 l c y o
theorem z2I(h:okBs bs)(s:List UInt8):(tos bs).filter (fun t=>decide (t.s=s))=q3U bs s:=by
 revert h
 induction bs using q7j with
 |h0=>intro _;rfl
 | h1 l b ih=>
  intro h;obtain⟨h1,h2,h3⟩:=okBs_snoc.1 h;unfold q3U;rw[q3E,List.filter_append,ih h1,q7p,q8O];by_cases d:b.st=s
  ·rw [ξ d,q5G,Nat.zero_add,<-d,<-h3,List.filter_eq_self.2]
   ·rfl
   ·intro t j
    obtain⟨k,_,rfl⟩:=numT_mem.1 j;simp
  ·rw [κ d,List.filter_eq_nil_iff.2,List.append_nil]
   ·rfl
   ·intro t j
    obtain⟨k,_,rfl⟩:=numT_mem.1 j
    simpa using d
theorem mem_tos{t:To}:t∈tos bs↔ ∃b∈bs,∃k,k<b.ev.length/\t=⟨b.st,((b.fi+k:Nat):Int),b.ev.getD k ev0⟩:=by
 unfold tos;rw[List.mem_flatten]
 constructor
 ·rintro⟨l,o,q⟩
  obtain⟨b,d,rfl⟩:=List.mem_map.1 o;exact⟨b,d,numT_mem.1 q⟩
 ·rintro⟨b,d,j⟩
  exact⟨_,List.mem_map.2 ⟨b,d,rfl⟩,numT_mem.2 j⟩
theorem okBs.each(h:okBs bs){b:Bt}(d:b∈bs):z4V b:=by
 obtain⟨l,r,rfl⟩:=List.append_of_mem d;exact(h l b r rfl).1
theorem q3b(a b:List Bt)(s:List UInt8):q0c (a++b) s=q0c a s++q0c b s:=by
 unfold q0c;rw[List.filter_append,List.map_append,List.flatten_append]
theorem okBs.apart{l m r:List Bt}{b c:Bt}(h:okBs (l++b::m++c::r))(d:b.st=c.st):b.fi+b.ev.length<=c.fi:=by
 have h1:=h l b (m++c::r) (by simp);have h2:=h (l++b::m) c r (by simp);rw[h2.2,h1.2,q3b,θ,show b::m=[b]++m from rfl,q3b,θ,<-d];have:(q0c [b] b.st).length=b.ev.length:=by unfold q0c;simp
 omega
theorem y1j{l m:List To}(q:l.Pairwise fun x y=>x.v<y.v)(hm:m.Pairwise fun x y=>x.v<y.v)(h: ∀t,t∈l↔t∈m):l=m:=by
 induction l generalizing m with
 | nil=>
  cases m with
  |nil=>rfl
  |cons y m=>exact absurd ((h y).2 (.head _)) (by simp)
 | cons x l ih=>
  cases m with
  |nil=>exact absurd ((h x).1 (.head _)) (by simp)
  | cons y m=>
   obtain⟨h1,h2⟩:=List.pairwise_cons.1 q;obtain⟨h3,h4⟩:=List.pairwise_cons.1 hm;have o:x=y:=by
    rcases List.mem_cons.1 ((h x).1 (.head _)) with e|r
    ·exact e
    rcases List.mem_cons.1 ((h y).2 (.head _)) with e|D
    ·exact e.symm
    have a:=h1 y D;have b:=h3 x r;omega
   subst o;rw[ih h2 h4 fun t=>?_]
   constructor
   ·intro j
    rcases List.mem_cons.1 ((h t).1 (.tail _ j)) with e|d
    ·have:=h1 t j;rw[e] at this;omega
    ·exact d
   ·intro j
    rcases List.mem_cons.1 ((h t).2 (.tail _ j)) with e|d
    ·have:=h3 t j;rw[e] at this;omega
    ·exact d
abbrev Pbs :=List (Nat×Bt)
def q9d(P:Pbs):List (Nat×List UInt8):=P.map fun x=>(x.1,btB x.2)
def q4Q(sd:Int)(P:Pbs):List En:=(P.map fun x=>q0b sd x.1 x.2 x.2.ev.length).flatten
def q1U(P:Pbs):List Bt:=P.map Prod.snd
def q2M(P:Pbs)(s:List UInt8)(x:En):Option To:=
 match P.find? (fun y=>decide ((y.1:Int)=x.2.2)) with
 |none=>none
 |some y=>if y.2.st=s/\(y.2.fi:Int)<=x.2.1/\x.2.1<(y.2.fi:Int)+(y.2.ev.length:Int) then some ⟨s,x.2.1,y.2.ev.getD (x.2.1-(y.2.fi:Int)).toNat ev0⟩ else none
structure StI(sd:Int)(B:List En)(P:Pbs):Prop where
 ok:okBs (q1U P)
 pos:P.Pairwise fun a b=>a.1<b.1
 ents: ∀x,x∈B↔x∈q4Q sd P
theorem z0s(sd:Int): ∀{P:Pbs},(∀y∈P,z4V y.2)->z1H sd (q9d P)=some (q4Q sd P)
 |[],_=>rfl
 | y::P,h=>by
  have d:=z0s sd (P:=P) fun z j=>h z (.tail _ j)
  have h1:=z1a y.2 (h y (.head _));unfold q9d at d⊢;rw[List.map_cons,z1H,h1,Option.bind_some,d]
  rfl
theorem mem_entsP{sd:Int}{P:Pbs}{x:En}:x∈q4Q sd P↔ ∃y∈P,∃k,k<y.2.ev.length/\x=q2a sd y.1 y.2 k:=by
 unfold q4Q;rw[List.mem_flatten]
 constructor
 ·rintro⟨l,q,o⟩
  obtain⟨y,j,rfl⟩:=List.mem_map.1 q;unfold q0b at o;obtain⟨k,d,rfl⟩:=List.mem_map.1 o;exact⟨y,j,k,List.mem_range.1 d,rfl⟩
 ·rintro⟨y,j,k,d,rfl⟩
  exact⟨_,List.mem_map.2 ⟨y,j,rfl⟩,by unfold q0b;exact List.mem_map.2 ⟨k,List.mem_range.2 d,rfl⟩⟩
theorem z2u : ∀{P:Pbs},P.Pairwise (fun a b=>a.1<b.1)-> ∀{y:Nat×Bt},y∈P->P.find? (fun z=>decide ((z.1:Int)=(y.1:Int)))=some y
 |[],_,y,h=>by cases h
 | z ::P,hp,y,h=>by
  obtain⟨h1,h2⟩:=List.pairwise_cons.1 hp;rcases List.mem_cons.1 h with rfl|h
  ·rw[List.find?_cons_of_pos (by simp)]
  ·rw[List.find?_cons_of_neg (by have:=h1 y h;simp;omega)]
   exact z2u h2 h
section
variable {sd :Int}{B:List En}{P:Pbs}
theorem q5d(h:P.Pairwise fun a b=>a.1<b.1){y:Nat×Bt}(j:y∈P)(o:k<y.2.ev.length)(s:List UInt8):q2M P s (q2a sd y.1 y.2 k)=if y.2.st=s then some ⟨s,((y.2.fi+k:Nat):Int),y.2.ev.getD k ev0⟩ else none:=by
 unfold q2M q2a;simp only;rw[z2u h j];simp only;by_cases d:y.2.st=s
 ·rw[ξ d,ξ ⟨d,by omega,by omega⟩,show((y.2.fi:Int)+(k:Int)-(y.2.fi:Int)).toNat=k by omega]
  congr 1
 ·rw[κ d,κ fun h=>d h.1]
theorem StI.found(h:StI sd B P){s:List UInt8}{x:En}(G:x∈B){t:To}:q2M P s x=some t↔ ∃y∈P,∃k,k<y.2.ev.length/\x=q2a sd y.1 y.2 k/\y.2.st=s/\t=⟨s,((y.2.fi+k:Nat):Int),y.2.ev.getD k ev0⟩:=by
 obtain⟨y,r,k,o,rfl⟩:=mem_entsP.1 ((h.ents x).1 G);rw[q5d h.pos r o]
 constructor
 ·intro d
  split at d
  ·rename_i q
   injection d with d;exact⟨y,r,k,o,rfl,q,d.symm⟩
  ·cases d
 ·rintro⟨z,I,j,D,he,q,rfl⟩
  have h1:=q5d (sd:=sd) h.pos r o s;have h2:=q5d (sd:=sd) h.pos I D s;rw[<-he,h1,ξ q] at h2;exact h2
theorem StI.mem_str(h:StI sd B P){s:List UInt8}{t:To}:t∈q3U (q1U P) s↔ ∃y∈P,∃k,k<y.2.ev.length/\y.2.st=s/\t=⟨s,((y.2.fi+k:Nat):Int),y.2.ev.getD k ev0⟩:=by
 rw[<-z2I h.ok,List.mem_filter,mem_tos]
 constructor
 ·rintro⟨⟨b,q,k,j,rfl⟩,d⟩
  obtain⟨y,o,rfl⟩:=List.mem_map.1 q;simp only[Φ] at d;exact⟨y,o,k,j,d,by rw[d]⟩
 ·rintro⟨y,o,k,j,d,rfl⟩
  exact⟨⟨y.2,List.mem_map.2 ⟨y,o,rfl⟩,k,j,by rw[d]⟩,by simp⟩
theorem StI.between(h:StI sd B P)(hB:q0x B)(s:List UInt8)(a b:Int):(q0r B (q2S sd s) a b).filterMap (q2M P s)=(q3U (q1U P) s).filter fun t=>decide (a<=t.v/\t.v<=b):=by
 refine y1j ?_ ((z6A _ _ _).filter _) fun t=>?_
 ·rw [List.pairwise_filterMap]
  refine List.Pairwise.imp_of_mem ?_ (q4j hB (q2S sd s) a b);intro x y N O d t Z u hu;obtain⟨G,a0,I,J⟩:=mem_range.1 N;obtain⟨b0,c0,d0,e0⟩:=mem_range.1 O;obtain⟨p,hp,i,hi,rfl,Q,rfl⟩:=(h.found G).1 Z;obtain⟨q,hq,j,hj,rfl,R,rfl⟩:=(h.found b0).1 hu;rw[lessE_iff] at d;unfold q2a at d;simp only at d⊢;rw[Q,R] at d;rcases d with d|⟨_,d|⟨he,X⟩⟩
  ·omega
  ·omega
  ·exfalso
   obtain⟨l,r,hl⟩:=List.append_of_mem hp;have o:=h.ok;have D:=h.pos;rw[hl] at o D hq;rcases List.mem_append.1 hq with hq|hq
   ·have:=(List.pairwise_append.1 D).2.2 q hq p (.head _)
    omega
   ·rcases List.mem_cons.1 hq with hq|hq
    ·rw[hq] at X;omega
    ·obtain⟨m,r2,hm⟩:=List.append_of_mem hq
     rw[hm] at o;unfold q1U at o;rw[List.map_append,List.map_cons,List.map_append,List.map_cons] at o;have:=okBs.apart (l:=l.map Prod.snd) (b:=p.2) (m:=m.map Prod.snd) (c:=q.2) (r:=r2.map Prod.snd) (by rw[List.append_assoc,List.cons_append];exact o) (by rw[Q,R]);omega
 ·rw [List.mem_filterMap,List.mem_filter,h.mem_str,Φ]
  constructor
  ·rintro⟨x,N,Z⟩
   obtain⟨G,a0,I,J⟩:=mem_range.1 N;obtain⟨y,O,k,S,rfl,U,rfl⟩:=(h.found G).1 Z;unfold q2a at I J;simp only at I J⊢;exact⟨⟨y,O,k,S,U,rfl⟩,by omega,by omega⟩
  ·rintro⟨⟨y,O,k,S,U,rfl⟩,h1,h2⟩
   simp only at h1 h2;have N:q2a sd y.1 y.2 k∈B:=(h.ents _).2 (mem_entsP.2 ⟨y,O,k,S,rfl⟩);refine⟨q2a sd y.1 y.2 k,mem_range.2 ⟨N,?_,?_,?_⟩,(h.found N).2 ⟨y,O,k,S,rfl,U,rfl⟩⟩
   ·unfold q2a;simp only;rw[U]
   ·unfold q2a;simp only;omega
   ·unfold q2a;simp only;omega
theorem q1m(bs:List Bt)(s:List UInt8):(q3U bs s).length=(q0c bs s).length:=q1l _ _ _
theorem StI.has(h:StI sd B P){s:List UInt8}{v:Nat}(q:v<(q0c (q1U P) s).length): ∃x∈B,x.1=q2S sd s/\x.2.1=(v:Int):=by
 have o:(⟨s,((0+v:Nat):Int),(q0c (q1U P) s).getD v ev0⟩:To)∈q3U (q1U P) s:=numT_mem.2 ⟨v,q,rfl⟩;obtain⟨y,r,k,d,j,he⟩:=h.mem_str.1 o;injection he with _ he _;refine⟨q2a sd y.1 y.2 k,(h.ents _).2 (mem_entsP.2 ⟨y,r,k,d,rfl⟩),?_,?_⟩
 ·unfold q2a;simp only;rw[j]
 ·unfold q2a;simp only;omega
theorem StI.last(h:StI sd B P)(G:okM B){s:List UInt8}{u r:Int}(U:((q0c (q1U P) s).length:Int)-1<=u)(o:z2V B (q2S sd s) u r):
  ((q0c (q1U P) s).length:Int)-1<=r/\ -1<=r/\(r<0->q0c (q1U P) s=[])/\(0<=r->(q3U (q1U P) s).filter (fun t=>decide (r<=t.v/\t.v<=r))=[]->((q0c (q1U P) s).length:Int)-1<=r-1)/\
   ((q3U (q1U P) s).filter (fun t=>decide (r<=t.v/\t.v<=r))≠[]->((q0c (q1U P) s).length:Int)-1=r):=by
 have D: -1<=r:=by
  rcases o.2 with e|⟨y,Q,_,_,e⟩
  ·omega
  ·have:=okEn_iff.1 (G.ok y Q);omega
 have h1:((q0c (q1U P) s).length:Int)-1<=r:=by
  rcases Nat.eq_zero_or_pos (q0c (q1U P) s).length with e|e
  ·omega
  ·obtain⟨x,O,q,R⟩:=h.has (s:=s) (v:=(q0c (q1U P) s).length-1) (by omega)
   have:=o.1 x O q (by omega);omega
 refine⟨h1,D,fun N=>?_,fun N he=>?_,fun d=>?_⟩
 ·exact List.length_eq_zero_iff.1 (by omega)
 ·rcases Int.lt_or_le (((q0c (q1U P) s).length:Int)-1) r with J|I
  ·omega
  ·exfalso
   have j:(⟨s,((0+r.toNat:Nat):Int),(q0c (q1U P) s).getD r.toNat ev0⟩:To)∈q3U (q1U P) s:=numT_mem.2 ⟨r.toNat,by omega,rfl⟩;have:=(List.mem_filter (p:=fun t:To=>decide (r<=t.v/\t.v<=r))).2 ⟨j,by simp;omega⟩;rw[he] at this
   cases this
 ·obtain⟨t,j⟩:=List.exists_mem_of_ne_nil _ d
  obtain⟨h2,h3⟩:=List.mem_filter.1 j;obtain⟨k,S,rfl⟩:=numT_mem.1 h2;simp only[Φ] at h3;omega
end
theorem z4E(sd:Int)(P:Pbs)(p:Nat)(b:Bt):q4Q sd (P++[(p,b)])=q4Q sd P++q0b sd p b b.ev.length:=by
 unfold q4Q;rw[List.map_append,List.flatten_append];simp
theorem q4N(P:Pbs)(p:Nat)(b:Bt):q1U (P++[(p,b)])=q1U P++[b]:=by unfold q1U;rw[List.map_append];rfl
theorem mem_addEs{x:En}: ∀{es L:List En},x∈q1S es L↔x∈es\/x∈L
 |[],L=>by unfold q1S;simp
 | e ::es,L=>by
  have h:=mem_addEs (x:=x) (es:=es) (L:=q3i e L);unfold q1S at*;rw[List.foldl_cons,h,mem_addE,List.mem_cons]
  constructor
  ·rintro(h|h|h)
   ·exact .inl (.inr h)
   ·exact .inl (.inl h)
   ·exact .inr h
  ·rintro((h|h)|h)
   ·exact .inr (.inl h)
   ·exact .inl h
   ·exact .inr (.inr h)
theorem StI.snoc{sd:Int}{B:List En}{P:Pbs}(h:StI sd B P){p:Nat}{b:Bt}(j:z4V b)(o:b.fi=(q0c (q1U P) b.st).length)(q: ∀y∈P,y.1<p):StI sd (q1S (q0b sd p b b.ev.length) B) (P++[(p,b)]):=by
 refine⟨by rw[q4N];exact okBs_snoc.2 ⟨h.ok,j,o⟩,?_,fun x=>?_⟩
 ·rw[List.pairwise_append]
  exact⟨h.pos,List.pairwise_singleton _ _,fun a d c hc=>by obtain rfl:=List.mem_singleton.1 hc;exact q a d⟩
 ·rw[mem_addEs,z4E,List.mem_append,h.ents]
  exact Or.comm
theorem q6L(sd:Int)(P:Pbs):(q4Q sd P).length=(tos (q1U P)).length:=by
 unfold q4Q tos q1U;rw[List.length_flatten,List.length_flatten,List.map_map,List.map_map,List.map_map]
 congr 1
 refine List.map_congr_left fun x _=>?_
 simp only[Function.comp];rw[q3t,q4A]
theorem StI.len{sd:Int}{B:List En}{P:Pbs}(h:StI sd B P)(j:q0x B):B.length<=(tos (q1U P)).length:=by
 rw[<-q6L sd];have o:B.Nodup:=j.imp fun {a b} d e=>by rw[e,q0a] at d;cases d
 exact nodup_leB o fun x q=>(h.ents x).1 q
where nodup_leB {α:Type} [DecidableEq α]: ∀{l m:List α},l.Nodup->(∀x∈l,x∈m)->l.length<=m.length
 |[],_,_,_=>υ _
 | x::l,m,h,hm=>by
  obtain⟨h1,h2⟩:=List.nodup_cons.1 h;have hx:=hm x (.head _);have h3:=nodup_leB (m:=m.erase x) h2 fun y hy=>(List.mem_erase_of_ne (fun e:y=x=>h1 (by rw[<-e];exact hy))).2 (hm y (.tail _ hy))
  rw[List.length_erase_of_mem hx] at h3;have:=List.length_pos_of_mem hx;rw[χ];omega
def z0j(L:List To)(from_ count:Int):List To:=(L.drop from_.toNat).take count.toNat
def z0i(L:List To)(from_ count:Int):List To:=(L.drop (from_-count+1).toNat).take ((from_+1).toNat-(from_-count+1).toNat)
theorem y0B(bs:List Bt)(s:List UInt8){c:Int}(d:0<=f)(hc:1<=c)(j:(q0c bs s).length<=1073741824):(q3U bs s).filter (fun t=>decide (max f 0<=t.v/\t.v<=min (f+min c 1073741824-1) 1073741824))=z0j (q3U bs s) f c:=by
 unfold q3U z0j;rw[q5z,show(max f 0-((0:Nat):Int)).toNat=f.toNat by omega];rcases Int.lt_or_le (f+c-1) 1073741824 with h|h
 ·rw[show(min (f+min c 1073741824-1) 1073741824+1-((0:Nat):Int)).toNat-f.toNat=c.toNat by omega]
 ·rw[Δ,Δ]
  ·rw[List.length_drop,q1l];omega
  ·rw[List.length_drop,q1l];omega
theorem z6I(bs:List Bt)(s:List UInt8){c:Int}(d:0<=f)(hc:1<=c)(j:(q0c bs s).length<=1073741824):(q3U bs s).filter (fun t=>decide (max (f-c+1) 0<=t.v/\t.v<=min f 1073741824))=z0i (q3U bs s) f c:=by
 unfold q3U z0i;rw[q5z,show(max (f-c+1) 0-((0:Nat):Int)).toNat=(f-c+1).toNat by omega];rcases Int.le_total f 1073741824 with h|h
 ·rw[show(min f 1073741824+1-((0:Nat):Int)).toNat=(f+1).toNat by omega]
 ·rw[Δ,Δ]
  ·rw[List.length_drop,q1l];omega
  ·rw[List.length_drop,q1l];omega
theorem z6H{L:List To}{c:Int}(h:(L.length:Int)<=f):z0j L f c=[]:=by
 unfold z0j;rw[List.drop_eq_nil_of_le (by omega),List.take_nil]
def toc(t:To):List Value:=[.string ⟨t.s.toArray⟩,.int .i64 t.v,.string ⟨t.e.ty.toArray⟩,.string ⟨t.e.da.toArray⟩,.float .f64 t.e.we]
def toV(t:To):Value:= .agg #[.string ⟨t.s.toArray⟩,.int .i64 t.v,.string ⟨t.e.ty.toArray⟩,.string ⟨t.e.da.toArray⟩,.float .f64 t.e.we]
def q1i(L:List To):List Value:=(L.map toc).flatten
theorem q4q(t:To):(toc t).length=5:=rfl
theorem q7o(t:To)(L:List To):q1i (t::L)=toc t++q1i L:=rfl
theorem q7n(L M:List To):q1i (L++M)=q1i L++q1i M:=by unfold q1i;rw[List.map_append,List.flatten_append]
theorem q4c(L:List To)(t:To):q1i (L++[t])=q1i L++toc t:=by rw[q7n];unfold q1i;simp
theorem q3S(L:List To):(q1i L).length=L.length*5:=by
 induction L with
 |nil=>rfl
 |cons k L ih=>rw[q7o,θ,ih,χ,q4q];omega
theorem q4b : ∀(L:List To) (i j:Nat),i<L.length->j<5->(q1i L)[i*5+j]? =(toc (L.getD i to0))[j]?
 |[],i,j,h,_=>by simp at h
 | k::L,0,j,_,hj=>by
  rw[q7o,List.getElem?_append_left (by rw[q4q];omega)];simp
 | k::L,i+1,j,h,hj=>by
  rw[q7o,List.getElem?_append_right (by rw[q4q];omega),show(i+1)*5+j-(toc k).length=i*5+j by rw[q4q];omega,q4b L i j (by simpa using h) hj];simp
theorem z3h(L:List To): ∀u∈q1i L,u.oneCell'=true:=fun u j=>by
 unfold q1i at j;obtain⟨l,o,d⟩:=List.mem_flatten.1 j;obtain⟨f,_,rfl⟩:=List.mem_map.1 o;unfold toc at d;simp only[List.mem_cons,List.not_mem_nil,or_false] at d;rcases d with rfl|rfl|rfl|rfl|rfl<;>rfl
structure Tos(w:World)(ao:Option Addr)(n cap:Nat)(L:List To):Prop where
 len:L.length=n
 fits:n<=cap
 bound:cap<=9223372036854775807
 nil:ao=none->cap=0
 rd:Rd w ao (q1i L)
theorem Tos.ext{w:World}{n:Nat}{L:List To}(h:Tos w ao n cap L)(k:Ext w w'):Tos w' ao n cap L:=⟨h.len,h.fits,h.bound,h.nil,h.rd.ext k⟩
theorem Tos.at{w:World}{n:Nat}{L:List To}(h:Tos w ao n cap L)(N:i<n):
  ∃b off,ao=some ⟨b,off,none⟩/\w.cell? ⟨b,off+i*5,none⟩=some (.string ⟨(L.getD i to0).s.toArray⟩)/\w.cell? ⟨b,off+i*5+1,none⟩=some (.int .i64 (L.getD i to0).v)/\w.cell? ⟨b,off+i*5+2,none⟩=some (.string ⟨(L.getD i to0).e.ty.toArray⟩)/\w.cell? ⟨b,off+i*5+3,none⟩=some (.string ⟨(L.getD i to0).e.da.toArray⟩)/\w.cell? ⟨b,off+i*5+4,none⟩=some (.float .f64 (L.getD i to0).e.we):=by
 have O:=h.len;have y:=q4b L i 0 (by omega) (by decide);have D:=q4b L i 1 (by omega) (by decide);have G:=q4b L i 2 (by omega) (by decide);have I:=q4b L i 3 (by omega) (by decide);have J:=q4b L i 4 (by omega) (by decide);obtain⟨b,off,rfl,r⟩:=h.rd _ _ y;obtain⟨_,_,d,h1⟩:=h.rd _ _ D
 cases d;obtain⟨_,_,j,h2⟩:=h.rd _ _ G
 cases j;obtain⟨_,_,o,h3⟩:=h.rd _ _ I
 cases o;obtain⟨_,_,q,h4⟩:=h.rd _ _ J
 cases q;exact⟨b,off,rfl,r,h1,h2,h3,h4⟩
theorem Tos.of_own{w:World}{B:Nat}{e:TypeId}{v:Value}{L:List To}(h:Own w B e 5 v L.length (q1i L)): ∃ao cap,v= .slice ao L.length cap/\Tos w ao L.length cap L:=by
 obtain⟨ao,cap,rfl,h1,h2,h3,h4⟩:=h.rd;exact⟨ao,cap,rfl,rfl,h1,h2,h3,h4⟩
theorem Tryz.infoTo :(Tryz.prog.info? 99).map (fun i=>(i.zero,i.size,i.bytes))=some (some (.agg #[.string ⟨#[]⟩,.int .i64 0,.string ⟨#[]⟩,.string ⟨#[]⟩,.float .f64 0]),5,64):=by kernel_rfl
def z7D(L:List To)(s:List UInt8):Nat:=(L.filter fun t=>decide (t.s=s)).length
theorem z2J{s:List UInt8}(h:q1I s=true):1<=s.length/\s.length<=32:=by
 unfold q1I at h;rw[Ξ] at h;exact⟨of_decide_eq_true h.1,of_decide_eq_true h.2⟩
structure Smm where
 nm:List UInt8
 la:Int
 fa:Option Addr
 fn:Nat
 fc:Nat
 F:List To
 ba:Option Addr
 bn:Nat
 bc:Nat
 B:List To
def sm0 :Smm:=⟨[],0,none,0,0,[],none,0,0,[]⟩
def smc(x:Smm):List Value:=[.string ⟨x.nm.toArray⟩,.int .i64 x.la,.slice x.fa x.fn x.fc,.slice x.ba x.bn x.bc]
def smV(x:Smm):Value:= .agg #[.string ⟨x.nm.toArray⟩,.int .i64 x.la,.slice x.fa x.fn x.fc,.slice x.ba x.bn x.bc]
def q5r(A:List Smm):List Value:=(A.map smc).flatten
theorem q7i(x:Smm)(A:List Smm):q5r (x::A)=smc x++q5r A:=rfl
theorem q5I(a b:List Smm):q5r (a++b)=q5r a++q5r b:=by simp[q5r]
theorem q5J(A:List Smm):(q5r A).length=A.length*4:=by
 induction A with
 |nil=>rfl
 |cons a r ih=>rw[q7i,θ,ih,χ,show(smc a).length=4 from rfl];omega
theorem q6D : ∀(A:List Smm) (i j:Nat),i<A.length->j<4->(q5r A)[i*4+j]? =(smc (A.getD i sm0))[j]?
 |[],i,j,h,_=>by simp at h
 | k::A,0,j,_,hj=>by
  rw[q7i,List.getElem?_append_left (by simp[smc];omega)];simp
 | k::A,i+1,j,h,hj=>by
  rw[q7i,List.getElem?_append_right (by simp[smc];omega),show(i+1)*4+j-(smc k).length=i*4+j from by simp[smc];omega,q6D A i j (by simpa using h) hj];simp
structure Sms(w:World)(ao:Option Addr)(n cap:Nat)(A:List Smm):Prop where
 len:A.length=n
 fits:n<=cap
 bound:cap<=9223372036854775807
 nil:ao=none->cap=0
 rd:Rd w ao (q5r A)
 fo: ∀x∈A,Tos w x.fa x.fn x.fc x.F
 bk: ∀x∈A,Tos w x.ba x.bn x.bc x.B
theorem Sms.ext{w:World}{n:Nat}{A:List Smm}(h:Sms w ao n cap A)(k:Ext w w'):Sms w' ao n cap A:=⟨h.len,h.fits,h.bound,h.nil,h.rd.ext k,fun x d=>(h.fo x d).ext k,fun x d=>(h.bk x d).ext k⟩
theorem Sms.empty(w:World):Sms w none 0 0 []:=⟨rfl,ι _,by omega,fun _=>rfl,Rd.nil _ _,(fun x d=>by cases d),(fun x d=>by cases d)⟩
theorem Sms.firsts{w:World}{n:Nat}{A:List Smm}(h:Sms w ao n cap A)(hm:m<=n):Sms w ao m cap (A.take m):=by
 refine⟨by rw[Θ,h.len];omega,by have:=h.fits;omega,h.bound,h.nil,?_,fun x d=>h.fo x (List.mem_of_mem_take d),fun x d=>h.bk x (List.mem_of_mem_take d)⟩;have h1:=h.rd.take (m*4);have e:(q5r A).take (m*4)=q5r (A.take m):=by
  conv=>lhs;rw[<-List.take_append_drop m A,q5I]
  exact List.take_left' (by rw[q5J,Θ,h.len];omega)
 rw[<-e];exact h1
theorem Sms.at{w:World}{n:Nat}{A:List Smm}(h:Sms w ao n cap A)(I:i<n):
  ∃ b off,ao=some ⟨b,off,none⟩/\w.cell? ⟨b,off+i*4,none⟩=some (.string ⟨(A.getD i sm0).nm.toArray⟩)/\w.cell? ⟨b,off+i*4+1,none⟩=some (.int .i64 (A.getD i sm0).la)/\w.cell? ⟨b,off+i*4+2,none⟩=some (.slice (A.getD i sm0).fa (A.getD i sm0).fn (A.getD i sm0).fc)/\
   w.cell? ⟨b,off+i*4+3,none⟩=some (.slice (A.getD i sm0).ba (A.getD i sm0).bn (A.getD i sm0).bc)/\Tos w (A.getD i sm0).fa (A.getD i sm0).fn (A.getD i sm0).fc (A.getD i sm0).F/\Tos w (A.getD i sm0).ba (A.getD i sm0).bn (A.getD i sm0).bc (A.getD i sm0).B:=by
 have J:=h.len;have hm:A.getD i sm0∈A:=q5N (by omega);have r:=q6D A i 0 (by omega) (by decide);have y:=q6D A i 1 (by omega) (by decide);have D:=q6D A i 2 (by omega) (by decide);have G:=q6D A i 3 (by omega) (by decide);obtain⟨b,off,rfl,q⟩:=h.rd _ _ r;obtain⟨_,_,d,h1⟩:=h.rd _ _ y
 cases d;obtain⟨_,_,j,h2⟩:=h.rd _ _ D
 cases j;obtain⟨_,_,o,h3⟩:=h.rd _ _ G
 cases o;exact⟨b,off,rfl,q,h1,h2,h3,h.fo _ hm,h.bk _ hm⟩
structure Fi where
 cd:Int
 st:List UInt8
 at':Int
def fi0 :Fi:=⟨0,[],0⟩
def fic(f:Fi):List Value:=[.int .i64 f.cd,.string ⟨f.st.toArray⟩,.int .i64 f.at']
def q2i(L:List Fi):List Value:=(L.map fic).flatten
theorem q7J(a b:List Fi):q2i (a++b)=q2i a++q2i b:=by simp[q2i]
theorem z1X(L:List Fi):(q2i L).length=L.length*3:=by
 induction L with
 |nil=>rfl
 |cons a r ih=>rw[show q2i (a::r)=fic a++q2i r from rfl,θ,ih,χ,show(fic a).length=3 from rfl];omega
theorem z7t(L:List Fi): ∀u∈q2i L,u.oneCell'=true:=by
 intro u d;obtain⟨c,hc,d⟩:=List.mem_flatten.1 d;obtain⟨a,_,rfl⟩:=List.mem_map.1 hc;simp[fic] at d;rcases d with rfl|rfl|rfl<;>rfl
def q6B(L:List To)(s:List UInt8):List To:=L.filter fun t=>decide (t.s=s)
def q3p(a b:To):Bool:=decide (a.s=b.s)&&decide (a.v=b.v)&&q4Y a.e b.e
def q1Z :Int->List To->List To->Int
 |i,x::a,y::b=>if q3p x y=true then q1Z (i+1) a b else i
 |_,[],[]=> -1
 |i,_,_=>i
def one? (c:Bool)(f:Fi):List Fi:=if c=true then [f] else []
def q2B(nm:List UInt8)(la:Int)(F B own:List To):List Fi:=
 one? (decide (la≠(own.length:Int)-1)) ⟨4,nm,la⟩++one? (decide (0<=q1Z 0 F own)) ⟨5,nm,q1Z 0 F own⟩++one? (decide (0<=q1Z 0 B own.reverse)) ⟨6,nm,q1Z 0 B own.reverse⟩
def q6a(N:List (List UInt8))(acc:List To)(t:To):List Fi:=
 one? (decide (t.v≠(z7D acc t.s:Int))) ⟨1,t.s,(acc.length:Int)⟩++one? (decide (z7D acc t.s=0)&&decide (t.s∉N)) ⟨2,t.s,(acc.length:Int)⟩
def q8H(L:List To)(S:List Smm)(i:Nat):List Fi:=
 if (S.getD i sm0).nm∈(S.take i).map Smm.nm then [⟨3,(S.getD i sm0).nm,(i:Int)⟩] else q2B (S.getD i sm0).nm (S.getD i sm0).la (S.getD i sm0).F (S.getD i sm0).B (q6B L (S.getD i sm0).nm)
def q1t(N:List (List UInt8))(L:List To):Nat->List Fi
 |0=>[]
 |i+1=>q1t N L i++q6a N (L.take i) (L.getD i to0)
def q1G(L:List To)(S:List Smm):Nat->List Fi
 |0=>[]
 |i+1=>q1G L S i++q8H L S i
def q2p(L:List To)(S:List Smm):List Fi:=q1t (S.map Smm.nm) L L.length++q1G L S S.length
theorem q6e(L:List To)(s:List UInt8):z7D L s=(q6B L s).length:=rfl
theorem z0g(L:List To)(t:To)(s:List UInt8):q6B (L++[t]) s=if t.s=s then q6B L s++[t] else q6B L s:=by
 unfold q6B;rw[List.filter_append];by_cases h:t.s=s
 ·rw[ξ h];simp[h]
 ·rw[κ h];simp[h]
theorem one?_len (c:Bool)(f:Fi):(one? c f).length<=1:=by unfold one?;split<;>simp
theorem z6j(N:List (List UInt8))(acc:List To)(t:To):(q6a N acc t).length<=2:=by
 unfold q6a;have h1:=one?_len (decide (t.v≠(z7D acc t.s:Int))) ⟨1,t.s,(acc.length:Int)⟩;have h2:=one?_len (decide (z7D acc t.s=0)&&decide (t.s∉N)) ⟨2,t.s,(acc.length:Int)⟩;rw[θ];omega
theorem q7l(nm:List UInt8)(la:Int)(F B own:List To):(q2B nm la F B own).length<=3:=by
 unfold q2B;have h1:=one?_len (decide (la≠(own.length:Int)-1)) ⟨4,nm,la⟩;have h2:=one?_len (decide (0<=q1Z 0 F own)) ⟨5,nm,q1Z 0 F own⟩;have h3:=one?_len (decide (0<=q1Z 0 B own.reverse)) ⟨6,nm,q1Z 0 B own.reverse⟩;rw[θ,θ];omega
theorem z6k(L:List To)(S:List Smm)(i:Nat):(q8H L S i).length<=3:=by
 unfold q8H
 split
 ·simp
 ·exact q7l _ _ _ _ _
theorem q2z(N:List (List UInt8))(L:List To): ∀i,(q1t N L i).length<=2*i
 |0=>ι _
 |i+1=>by have h1:=q2z N L i;have h2:=z6j N (L.take i) (L.getD i to0);rw[q1t,θ];omega
theorem q4d(L:List To)(S:List Smm): ∀i,(q1G L S i).length<=3*i
 |0=>ι _
 |i+1=>by have h1:=q4d L S i;have h2:=z6k L S i;rw[q1G,θ];omega
theorem q8i{a b:To}:q3p a b=true↔a=b:=by
 obtain⟨d,j,o⟩:=a;obtain⟨b1,b2,b3⟩:=b;unfold q3p;simp only[Ξ,Φ,To.mk.injEq,and_assoc,z4c]
theorem q9Z : ∀(i:Int) (a b:List To),q1Z i a b= -1\/(i<=q1Z i a b/\q1Z i a b<=i+(a.length:Int))
 |i,[],[]=> .inl rfl
 |i,[],_::_=> .inr (by unfold q1Z;simp)
 |i,_::_,[]=> .inr (by unfold q1Z;simp;omega)
 | i, x::a,y::b=>by
  unfold q1Z
  split
  ·rcases q9Z (i+1) a b with h|⟨h1,h2⟩
   ·exact .inl h
   ·exact .inr ⟨by omega,by rw[χ];omega⟩
  ·exact .inr ⟨by omega,by omega⟩
theorem y0P(x:Smm)(nm:List UInt8)(g:Nat)(w:World)(hc:w.cell? ⟨g,0,none⟩=some (.string ⟨nm.toArray⟩)):
  Calls Tryz.prog 75 #[smV x,.pointer (some ⟨g,0,none⟩)] w fun e w'=>e= .returned (.bool (decide (x.nm=nm)))/\Ext w w':=by
 obtain⟨j,la,fa,fn,fc,F,ba,bn,bc,B⟩:=x;have d:=q0B w (.cells #[.string ⟨j.toArray⟩,.int .i64 la,.slice fa fn fc,.slice ba bn bc] 43);have q:=Blk.new w 43 #[.string ⟨j.toArray⟩,.int .i64 la,.slice fa fn fc,.slice ba bn bc];have y:=η d;have I:=q.cell 0
 have D:=d.cell (p:=⟨g,0,none⟩) (Nat.lt_of_not_le fun h=>by
  have:w.cell? ⟨g,0,none⟩=none:=by unfold World.cell?;rw[Array.getElem?_eq_none h]
  rw[this] at hc;cases hc)
 rw[hc] at D;have G:(j==nm)=decide (j=nm):=by by_cases h:j=nm<;>simp[h]
 obtain⟨z,r⟩: ∃z,decide (j=nm)=z:=⟨_,rfl⟩
 rw[r] at G;simp only[smV];rw[r];clear d q r hc;go_enter Tryz.func75,Tryz.ntmps75;go_wp2_with fail;go_ret;exact⟨by simp,y.o⟩
theorem y1s{n:Nat}{S:List Smm}(nm:List UInt8)(g:Nat)(w:World)(G:Sms w so n cap S)(hc:w.cell? ⟨g,0,none⟩=some (.string ⟨nm.toArray⟩)):
  Calls Tryz.prog 121 #[.slice so n cap,.func (.func 75) #[] #[.pointer (some ⟨g,0,none⟩)]] w fun e w'=> ∃z:Int,e= .returned (.int .i64 z)/\decide (0<=z)=decide (nm∈S.map Smm.nm)/\z<=n/\Ext w w':=by
 have HS:=η G;have b1:=G.fits;have b2:=G.bound;have d:=G.len;have R:=η d;have D:g<w.heap.size:=Nat.lt_of_not_le fun h=>by
  have:w.cell? ⟨g,0,none⟩=none:=by unfold World.cell?;rw[Array.getElem?_eq_none h]
  rw[this] at hc;cases hc
 have HG:Hd (∀W,Ext w W->W.cell? ⟨g,0,none⟩=some (.string ⟨nm.toArray⟩)):=η fun W k=>(k.cell (p:=⟨g,0,none⟩) D).trans hc
 have HC:=η (fun x W (k:Ext w W)=>y0P x nm g W (HG.o W k));clear G hc d D;go_enter Tryz.func121,Tryz.ntmps121;go_wp2_with fail
 go_loopw [8] (fun i W=> ∃k:Nat,k<=n/\i= .int .i64 (k:Int)/\Ext w W/\Hd (∀j,j<k->(S.getD j sm0).nm≠nm)) (fun i _=>n-(intOf i).toNat)
 case atStart=>exact⟨0,υ _,rfl,Ext.refl _,η fun j h=>absurd h (Nat.not_lt_zero _)⟩
 case round=>
  obtain⟨k,hk,rfl,q,X⟩:=hrel;have J:=η q;by_cases O:k<n
  ·have hd:decide ((k:Int)<(n:Int))=true:=ζ (by omega)
   have c0:(k:Int)<(n:Int):=by omega
   have q8:IntKind.i64.wrap ((k:Int)+1)=(k:Int)+1:=by rw[ν];omega
   obtain⟨ab,b0,rfl,a0,a1,a2,a3,_,_⟩:=(HS.o.ext q).at O;have U:Hd ((S.getD k sm0).nm=nm->nm∈S.map Smm.nm):=η fun h=>List.mem_map.2 ⟨_,q5N (by have:=R.o;omega),h⟩
   obtain⟨x,r⟩: ∃x,S.getD k sm0=x:=⟨_,rfl⟩
   rw[r] at a0 a1 a2 a3 U;have N:=η r;have I:=η (HC.o x wr J.o);unfold smV at I;clear q r;obtain⟨z,Q⟩: ∃z,decide (x.nm=nm)=z:=⟨_,rfl⟩
   rw[Q] at I;have Z:=η Q;clear Q;go_wp2_with fail;refine I.o.mono ?_;rintro e w1 ⟨rfl,q⟩;have y:=η (J.o.trans q);clear q
   cases z with
   | true=>
    go_wp2_with fail;go_ret;exact⟨(k:Int),rfl,by rw[ζ (show(0:Int)<=(k:Int) by omega),ζ (U.o (of_decide_eq_true Z.o))],by omega,y.o⟩
   | false=>
    go_wp2_with fail
    go_roundw
    case rel=>exact⟨k+1,by omega,by go_num,y.o,η fun j h=>by
     by_cases e:j=k
     ·subst e;rw[N.o];exact of_decide_eq_false Z.o
     ·exact X.o j (by omega)⟩
    case measure=>simp[intOf];omega
  ·obtain rfl:k=n:=by omega
   have hd:decide ((k:Int)<(k:Int))=false:=ε (by omega);clear q;go_wp2_with fail;go_ret;refine⟨-1,rfl,?_,by omega,J.o⟩;rw[ε (show ¬(0:Int)<= -1 by decide)];refine(ε fun h=>?_).symm;obtain⟨x,h1,h2⟩:=List.mem_map.1 h;obtain⟨j,hj,h3⟩:=List.mem_iff_getElem.1 h1;refine X.o j (by have:=R.o;omega) ?_;rw[δ,γ hj,Option.getD_some,h3,h2]
theorem y0O{n:Nat}{S:List Smm}(nm:List UInt8)(g:Nat)(w:World)(q:Sms w so n cap S)(hc:w.cell? ⟨g,0,none⟩=some (.string ⟨nm.toArray⟩)):
  Calls Tryz.prog 74 #[.slice so n cap,.func (.func 75) #[] #[.pointer (some ⟨g,0,none⟩)]] w fun e w'=>e= .returned (.bool (decide (nm∈S.map Smm.nm)))/\Ext w w':=by
 have d:=η (y1s nm g w q hc);clear q hc;obtain⟨b,j⟩: ∃b,decide (nm∈S.map Smm.nm)=b:=⟨_,rfl⟩
 rw[j] at d⊢;clear j;go_enter Tryz.func74,Tryz.ntmps74;go_wp2_with fail;refine d.o.mono ?_;rintro e w1 ⟨z,rfl,y,I,r⟩;have D:=η r;have G:=η y;clear r y;go_wp2_with fail;go_ret;exact⟨by rw[<-G.o];rfl,D.o⟩
theorem y1q{va:Option Addr}{n:Nat}{S:List Smm}(nm:List UInt8)(m:Nat)(w:World)(D:Sms w so n cap S)(hm:m<=n):
  Calls Tryz.prog 35 #[.agg #[.slice va vn vc,.slice so n cap],.string ⟨nm.toArray⟩,.int .i64 (m:Int)] w fun e w'=>e= .returned (.bool (decide (nm∈(S.take m).map Smm.nm)))/\Ext w w':=by
 have q:=q0B w (.cells #[.slice va vn vc,.slice so n cap] 25);have d:=q0B (w.alloc (.cells #[.slice va vn vc,.slice so n cap] 25)) (.cells #[.string ⟨nm.toArray⟩] 9);have O:=η (q.trans d);have j:=(Blk.new w 25 #[.slice va vn vc,.slice so n cap]).ext d;have r:=Blk.new (w.alloc (.cells #[.slice va vn vc,.slice so n cap] 25)) 9 #[.string ⟨nm.toArray⟩];have U:=j.cell 0;have X:=j.cell 1;have b1:=D.fits;have b2:=D.bound;have y:=(y0O nm (w.alloc (.cells #[.slice va vn vc,.slice so n cap] 25)).heap.size _ ((D.firsts hm).ext (q.trans d)) (r.cell 0))
 rw[ρ] at y;obtain⟨b,I⟩: ∃b,decide (nm∈(S.take m).map Smm.nm)=b:=⟨_,rfl⟩
 rw[I] at y⊢;have N:=η y;have R:(m:Int)<=(n:Int):=by omega
 have Q:(m:Int)<=(cap:Int):=by omega
 clear q d j r D y I;go_enter Tryz.func35,Tryz.ntmps35;go_wp2_with fail;refine N.o.mono ?_;rintro e w1 ⟨rfl,J⟩;have G:=η (O.o.trans J);clear J;go_wp2_with fail;go_ret;exact⟨rfl,G.o⟩
theorem z9H(a b:To)(w:World):Calls Tryz.prog 122 #[toV a,toV b] w fun r w'=>r= .returned (.bool (q3p a b))/\Ext w w':=by
 obtain⟨s,v,⟨ty,da,we⟩⟩:=a;obtain⟨N,O,⟨y,q,D⟩⟩:=b;have J:=q0B w (.cells #[.string ⟨s.toArray⟩,.int .i64 v,.string ⟨ty.toArray⟩,.string ⟨da.toArray⟩,.float .f64 we] 99);have G:=q0B (w.alloc (.cells #[.string ⟨s.toArray⟩,.int .i64 v,.string ⟨ty.toArray⟩,.string ⟨da.toArray⟩,.float .f64 we] 99)) (.cells #[.string ⟨N.toArray⟩,.int .i64 O,.string ⟨y.toArray⟩,.string ⟨q.toArray⟩,.float .f64 D] 99);have U:=η (J.trans G);have j:=(Blk.new w 99 #[.string ⟨s.toArray⟩,.int .i64 v,.string ⟨ty.toArray⟩,.string ⟨da.toArray⟩,.float .f64 we]).ext G;have d:=Blk.new (w.alloc (.cells #[.string ⟨s.toArray⟩,.int .i64 v,.string ⟨ty.toArray⟩,.string ⟨da.toArray⟩,.float .f64 we] 99)) 99 #[.string ⟨N.toArray⟩,.int .i64 O,.string ⟨y.toArray⟩,.string ⟨q.toArray⟩,.float .f64 D];rw[ρ] at d;have k0:=j.cell 0;have k1:=j.cell 1;have k2:=j.cell 2;have k3:=j.cell 3;have k4:=j.cell 4;have d0:=d.cell 0;have d1:=d.cell 1;have d2:=d.cell 2;have d3:=d.cell 3;have d4:=d.cell 4;obtain⟨Q,Z⟩: ∃Q,(s==N)=Q:=⟨_,rfl⟩
 obtain⟨R,a0⟩: ∃R,(v==O)=R:=⟨_,rfl⟩
 obtain⟨z3,I⟩: ∃z3,q4Y ⟨ty,da,we⟩ ⟨y,q,D⟩=z3:=⟨_,rfl⟩
 have hs:q3p ⟨s,v,⟨ty,da,we⟩⟩ ⟨N,O,⟨y,q,D⟩⟩=(Q&&R&&z3):=by
  unfold q3p;rw[<-Z,<-a0,<-I]
  congr 1
  congr 1
  by_cases h:s=N<;>simp[h]
 rw[hs];have S:=η (fun W=>z9b ⟨ty,da,we⟩ ⟨y,q,D⟩ W);rw[I] at S;simp only at S;clear J G j d hs I;unfold toV;go_enter Tryz.func122,Tryz.ntmps122
 cases Q with
 | false=>
  go_wp2_with fail;go_ret;exact⟨rfl,U.o⟩
 | true=>
  cases R with
  | false=>
   go_wp2_with fail;go_ret;exact⟨rfl,U.o⟩
  | true=>
   go_wp2_with fail;refine(S.o _).mono ?_;rintro e w1 ⟨rfl,hx⟩;have X:=η (U.o.trans hx);clear hx;go_wp2_with fail;go_ret;exact⟨by simp,X.o⟩
theorem q3H(l:List α)(d:α)(h:i<l.length):l.drop i=l.getD i d::l.drop (i+1):=by
 rw[List.drop_eq_getElem_cons h,δ,γ h];rfl
theorem q8e{a b:List To}(h1:i<a.length)(h2:i<b.length)(h:q3p (a.getD i to0) (b.getD i to0)=true):q1Z (i:Int) (a.drop i) (b.drop i)=q1Z ((i+1:Nat):Int) (a.drop (i+1)) (b.drop (i+1)):=by
 rw[q3H a to0 h1,q3H b to0 h2,q1Z,ξ h];rfl
theorem q8d{a b:List To}(h1:i<a.length)(h2:i<b.length)(h:q3p (a.getD i to0) (b.getD i to0)=false):q1Z (i:Int) (a.drop i) (b.drop i)=i:=by
 rw[q3H a to0 h1,q3H b to0 h2,q1Z,κ (by rw[h];decide)]
theorem z0l{a b:List To}(h:i=min a.length b.length):q1Z (i:Int) (a.drop i) (b.drop i)=if a.length=b.length then-1 else(i:Int):=by
 by_cases e:a.length=b.length
 ·rw[ξ e,List.drop_eq_nil_of_le (by omega),List.drop_eq_nil_of_le (by omega)];rfl
 ·rw[κ e]
  by_cases k:a.length<b.length
  ·rw[List.drop_eq_nil_of_le (show a.length<=i by omega),q3H b to0 (show i<b.length by omega)];rfl
  ·rw[List.drop_eq_nil_of_le (show b.length<=i by omega),q3H a to0 (show i<a.length by omega)];rfl
theorem z8w{bo:Option Addr}{n q:Nat}{F G:List To}(w:World)(O:Tos w ao n cap F)(Q:Tos w bo m q G):
  Calls Tryz.prog 76 #[.slice ao n cap,.slice bo m q] w fun r w'=>r= .returned (.int .i64 (q1Z 0 F G))/\Ext w w':=by
 have HA:=η O;have HB:=η Q;have b1:=O.fits;have b2:=O.bound;have b3:=Q.fits;have b4:=Q.bound;have d:=η O.len;have j:=η Q.len;obtain⟨y,R⟩: ∃x:Nat,min n m=x:=⟨_,rfl⟩
 have l0:min (n:Int) (m:Int)=(y:Int):=by omega
 have j0:y<=n:=by omega
 have k0:y<=m:=by omega
 have b0:=η R;clear O Q R;go_enter Tryz.func76,Tryz.ntmps76;go_wp2_with fail
 go_loopw [13] (fun i W=> ∃k:Nat,k<=y/\i= .int .i64 (k:Int)/\Ext w W/\Hd (q1Z 0 F G=q1Z (k:Int) (F.drop k) (G.drop k))) (fun i _=>y-(intOf i).toNat)
 case atStart=>exact⟨0,υ _,rfl,Ext.refl _,η rfl⟩
 case round=>
  obtain⟨k,hk,rfl,S,X⟩:=hrel;have HX:=η S;by_cases i0:k<y
  ·have hd:decide ((k:Int)<(y:Int))=true:=ζ (by omega)
   have g0:(k:Int)<(n:Int):=by omega
   have h0:(k:Int)<(m:Int):=by omega
   have q8:IntKind.i64.wrap ((k:Int)+1)=(k:Int)+1:=by rw[ν];omega
   obtain⟨ab,e0,rfl,a0,a1,a2,a3,a4⟩:=(HA.o.ext (S.trans (Ext.refl _).drew)).at (show k<n by omega);obtain⟨bb,f0,rfl,c0,c1,c2,c3,c4⟩:=(HB.o.ext (S.trans (Ext.refl _).drew)).at (show k<m by omega);have I:=η (q8e (i:=k) (a:=F) (b:=G) (by have:=d.o;omega) (by have:=j.o;omega));have J:=η (q8d (i:=k) (a:=F) (b:=G) (by have:=d.o;omega) (by have:=j.o;omega));generalize F.getD k to0=t at*;generalize G.getD k to0=u at*;have HT:=η (z9H t u);unfold toV at HT;obtain⟨z,hz⟩: ∃z,q3p t u=z:=⟨_,rfl⟩
   rw[hz] at HT I J;clear S hz;go_wp2_with fail
   go_region_law (go_simp;first|(go_at_call 122;refine(HT.o _).mono ?_;rintro e wa ⟨rfl,U⟩;have N:=η ((HX.o.trans (Ext.refl _).drew).trans U);clear U))
   all_goals
    cases z with
    | true=>
     go_wp2_with fail
     go_roundw
     case rel=>exact⟨k+1,by omega,by go_num,N.o,η (X.o.trans (I.o rfl))⟩
     case measure=>simp[intOf];omega
    | false=>
     go_wp2_with fail;go_ret;exact⟨by rw[X.o,J.o (by simp)];rfl,N.o⟩
  ·obtain rfl:k=y:=by omega
   have hd:decide ((k:Int)<(k:Int))=false:=ε (by omega);have Z:=η (z0l (i:=k) (a:=F) (b:=G) (by rw[d.o,j.o];exact b0.o.symm));rw[d.o,j.o] at Z;clear S;by_cases e:n=m
   ·have d0:((n:Int)==(m:Int))=true:=beq_iff_eq.2 (by omega)
    have D:Hd (q1Z 0 F G= -1):=η (by rw[X.o,Z.o,ξ e]);clear e;go_wp2_with fail;go_ret;exact⟨by rw[D.o];rfl,HX.o⟩
   ·have d0:((n:Int)==(m:Int))=false:=beq_eq_false_iff_ne.2 (by omega)
    have D:Hd (q1Z 0 F G=(k:Int)):=η (by rw[X.o,Z.o,κ e]);clear e;go_wp2_with fail;go_ret;exact⟨by rw[D.o];rfl,HX.o⟩
def q8r(φ:Fls)(C:Cks):Prop:= ∀k:Nat,k<=999999->φ (q0H 99 (k:Int))=(C[k]?).map (q0U k)
def z1J(φ:Fls)(m:Man):Prop:=(φ mapN=some m.S/\0<m.nx)\/(φ mapN=none/\m.nx=0/\m.ck=0/\m.L=[])
def y1a(nm:List UInt8):Prop:= ∀k:Nat,k<=999999->nm≠q0H 99 (k:Int)
theorem z6D : ∀{a b:List (List UInt8×List UInt8)},q3V Prod.fst a->q3V Prod.fst b->(∀z,z∈a↔z∈b)->a=b
 |[],[],_,_,_=>rfl
 |[],y::b,_,_,h=>absurd ((h y).2 (.head _)) (by simp)
 |x::a,[],_,_,h=>absurd ((h x).1 (.head _)) (by simp)
 | x ::a,y::b,ha,hb,h=>by
  obtain⟨h1,h2⟩:=List.pairwise_cons.1 ha;obtain⟨h3,h4⟩:=List.pairwise_cons.1 hb;have o:x=y:=by
   rcases List.mem_cons.1 ((h x).1 (.head _)) with e|q
   ·exact e
   rcases List.mem_cons.1 ((h y).2 (.head _)) with e|r
   ·exact e.symm
   have:=WideShapes.bytes_trans _ _ _ (h1 y r) (h3 x q);rw[WideAt.bytes_irrefl] at this;cases this
  subst o;rw[z6D h2 h4 fun z=>?_]
  constructor
  ·intro j
   rcases List.mem_cons.1 ((h z).1 (.tail _ j)) with e|d
   ·have:=h1 z j;rw[e,WideAt.bytes_irrefl] at this;cases this
   ·exact d
  ·intro j
   rcases List.mem_cons.1 ((h z).2 (.tail _ j)) with e|d
   ·have:=h3 z j;rw[e,WideAt.bytes_irrefl] at this;cases this
   ·exact d
theorem z3H{l:List (List UInt8×List UInt8)}(h:q3V Prod.fst l)(z:List UInt8×List UInt8):z∈l↔(q0I Prod.fst z.1 l).map Prod.snd=some z.2:=by
 constructor
 ·intro d;rw[q5c h d rfl];rfl
 ·intro d
  cases hf:q0I Prod.fst z.1 l with
  |none=>rw[hf] at d;cases d
  | some y=>
   rw[hf] at d;injection d with d;obtain⟨h1,h2⟩:=q0R hf;have:y=z:=Prod.ext h2 d
   rwa [this] at h1
theorem z8Z{a b:List (List UInt8×List UInt8)}(d:q3V Prod.fst a)(j:q3V Prod.fst b)(h: ∀nm,(q0I Prod.fst nm a).map Prod.snd=(q0I Prod.fst nm b).map Prod.snd):a=b:=
 z6D d j fun z=>by rw[z3H d,z3H j,h]
theorem q9a{r:α->α->Prop}{p:α->Bool}(o: ∀x y,r x y->p y=true->p x=true): ∀{l:List α},l.Pairwise r->l=l.filter p++l.filter (fun y=>!p y)
 |[],_=>rfl
 | x :: l,h=>by
  obtain⟨h1,h2⟩:=List.pairwise_cons.1 h
  cases hx:p x with
  | true=>
   rw[List.filter_cons_of_pos hx,List.filter_cons_of_neg (by simp[hx]),List.cons_append,<-q9a o h2]
  | false=>
   have j: ∀y∈l,p y=false:=fun y d=>by
    cases hy2:p y with
    |false=>rfl
    |true=>rw[o x y (h1 y d) hy2] at hx;cases hx
   rw [List.filter_cons_of_neg (by simp[hx]),List.filter_cons_of_pos (by simp[hx]),List.filter_eq_nil_iff.2 fun y d=>by simp[j y d],List.nil_append,
    List.filter_eq_self.2 fun y d=>by simp[j y d]]
theorem q6j{α:Type}[DecidableEq α]: ∀{l m:List α},l.Nodup->(∀x∈l,x∈m)->l.length<=m.length
 |[],_,_,_=>υ _
 | x::l,m,h,hm=>by
  obtain⟨h1,h2⟩:=List.nodup_cons.1 h;have d:=hm x (.head _);have h3:=q6j (m:=m.erase x) h2 fun y j=>(List.mem_erase_of_ne (fun e:y=x=>h1 (by rw[<-e];exact j))).2 (hm y (.tail _ j))
  rw[List.length_erase_of_mem d] at h3;have:=List.length_pos_of_mem d;rw[χ];omega
theorem q5Q(j:k<=999999):bytesBefore [99] (q0H 99 (k:Int))=true/\bytesBefore (q0H 99 (k:Int)) [100]=true/\bytesBefore (q0H 99 (k:Int)) [99]=false:=by
 rw[q0Y (by omega)];have d:=q0h 6 ((k:Int)).toNat
 cases hd:q4x 6 ((k:Int)).toNat with
 |nil=>rw[hd] at d;cases d
 |cons a r=>exact⟨by simp[bytesBefore],by simp[bytesBefore],by simp[bytesBefore]⟩
theorem q9x(d:0<=n/\n<=999999):bytesBefore (q0H 98 n) [99]=true/\bytesBefore (q0H 116 n) [100]=false/\bytesBefore (q0H 116 n) [99]=false:=by
 rw[q0Y d,q0Y d];exact⟨by simp[bytesBefore],by simp[bytesBefore],by simp[bytesBefore]⟩
theorem before_map :bytesBefore mapN [100]=false/\bytesBefore mapN [99]=false:=by decide
section
variable {st :IxSt}{σ σ':DM}{c s:Int}{φ:Fls}{u cnt:Nat}{B:List En}{C C':Cks}{E:Oth}
theorem z2f : ∀(C:Cks) (i:Nat),i+C.length<=999999->q3V Prod.fst (q4E i C)
 |[],_,_=>List.Pairwise.nil
 | ps::r,i,h=>by
  rw[χ] at h;refine List.pairwise_cons.2 ⟨fun y d=>?_,z2f r (i+1) (by omega)⟩;obtain⟨j,h1,h2,h3⟩:=q3a d;rw[h3];exact q6J (by omega) (by omega) (by omega)
theorem z2e{C:Cks}(d:C.length<=200)(j:k<=999999):(q0I Prod.fst (q0H 99 (k:Int)) (q4E 0 C)).map Prod.snd=(C[k]?).map (q0U k):=by
 rcases Nat.lt_or_ge k C.length with h|h
 ·rw[z0A d (γ h),γ h];rfl
 ·rw[z0B d h j,List.getElem?_eq_none h];rfl
theorem q7k(h:PInv st σ c s φ u cnt B)(hc:q8r φ C)(hC:okC C):
  ∃E,Lgd E σ (c-(q2P E:Int)) s C/\(∀nm,y1a nm->(q0I Prod.fst nm (E.X++E.Z)).map Prod.snd=φ nm)/\q2P E+q0q C<=u/\E.X.length+C.length+E.Z.length<=cnt:=by
 obtain⟨l,f0,o,J,l0,k0⟩:=h.fl;have O: ∀y∈l,φ y.1≠none:=fun y d e=>by
  have:=J y.1;rw[q5c o d rfl,e] at this;cases this
 have S:=q9a (r:=fun x y:List UInt8×List UInt8=>bytesBefore x.1 y.1=true) (p:=fun y:List UInt8×List UInt8=>bytesBefore y.1 [99]) (fun x y h1 h2=>WideShapes.bytes_trans _ _ _ h1 h2) o;have hr:=o.filter (p:=fun y:List UInt8×List UInt8=>!bytesBefore y.1 [99]);have p2:=q9a (r:=fun x y:List UInt8×List UInt8=>bytesBefore x.1 y.1=true) (p:=fun y:List UInt8×List UInt8=>bytesBefore y.1 [100]) (fun x y h1 h2=>WideShapes.bytes_trans _ _ _ h1 h2) hr;obtain⟨X,hX⟩: ∃X,l.filter (fun y=>bytesBefore y.1 [99])=X:=⟨_,rfl⟩
 obtain⟨R,hR⟩: ∃R,l.filter (fun y=>!bytesBefore y.1 [99])=R:=⟨_,rfl⟩
 obtain⟨M,hM⟩: ∃M,R.filter (fun y=>bytesBefore y.1 [100])=M:=⟨_,rfl⟩
 obtain⟨Z,hZ⟩: ∃Z,R.filter (fun y=>!bytesBefore y.1 [100])=Z:=⟨_,rfl⟩
 rw[hX,hR] at S;rw[hR,hM,hZ] at p2;rw[p2] at S;have mX: ∀y,y∈X↔y∈l/\bytesBefore y.1 [99]=true:=fun y=>by rw[<-hX,List.mem_filter]
 have mR: ∀y,y∈R↔y∈l/\bytesBefore y.1 [99]=false:=fun y=>by rw[<-hR,List.mem_filter];simp
 have mM: ∀y,y∈M↔y∈l/\bytesBefore y.1 [99]=false/\bytesBefore y.1 [100]=true:=fun y=>by rw[<-hM,List.mem_filter,mR];simp[and_assoc]
 have mZ: ∀y,y∈Z↔y∈l/\bytesBefore y.1 [99]=false/\bytesBefore y.1 [100]=false:=fun y=>by rw[<-hZ,List.mem_filter,mR];simp[and_assoc]
 have D: ∀n∈st.m.L.flatten,0<=n/\n<=999999:=fun n G=>by have:=h.range G;omega
 have U: ∀y,y∈X\/y∈Z->y.1=mapN\/ ∃n∈st.m.L.flatten,y.1=q0H 116 n\/y.1=q0H 98 n:=fun y d=>by
  have hl:y∈l:=d.elim (fun h=>((mX y).1 h).1) fun h=>((mZ y).1 h).1
  rcases h.only y.1 (O y hl) with e|e|⟨k,I,e⟩
  ·exact .inl e
  ·exact .inr e
  ·exfalso
   obtain⟨_,b2,b3⟩:=q5Q I;rcases d with d|d
   ·have:=((mX y).1 d).2;rw[e,b3] at this;cases this
   ·have:=((mZ y).1 d).2.2;rw[e,b2] at this;cases this
 have b0: ∀y∈M,∃k:Nat,k<=999999/\y.1=q0H 99 (k:Int):=fun y d=>by
  obtain⟨hl,q1,q2⟩:=(mM y).1 d;rcases h.only y.1 (O y hl) with e|⟨n,G,e|e⟩|e
  ·rw[e,before_map.1] at q2;cases q2
  ·rw[e,(q9x (D n G)).2.1] at q2;cases q2
  ·rw[e,(q9x (D n G)).1] at q1;cases q1
  ·exact e
 have Q:=o;rw[S] at Q;obtain⟨oX,g0,_⟩:=List.pairwise_append.1 Q;obtain⟨oM,oZ,_⟩:=List.pairwise_append.1 g0;have a0:M=q4E 0 C:=z8Z oM (z2f C 0 (by have:=hC.few;omega)) fun nm=>by
  by_cases N: ∃k:Nat,k<=999999/\nm=q0H 99 (k:Int)
  ·obtain⟨k,I,rfl⟩:=N
   rw[z2e hC.few I,<-hc k I,<-J];obtain⟨_,b2,b3⟩:=q5Q I;rw[S,q0Z fun y d e=>?_,q1T fun y d e=>?_]
   ·have:=((mZ y).1 d).2.2;rw[show y.1=q0H 99 (k:Int) from e,b2] at this;cases this
   ·have:=((mX y).1 d).2;rw[show y.1=q0H 99 (k:Int) from e,b3] at this;cases this
  ·rw [q0W fun y d e=>N (by obtain⟨k,I,e2⟩:=b0 y d;exact⟨k,I,by rw[<-e2];exact e.symm⟩),q0W fun y d e=>N (by
    obtain⟨j,h1,h2,h3⟩:=q3a d
    exact⟨j,by have:=hC.few;omega,by rw[<-h3];exact e.symm⟩)]
 rw[a0] at S;have d0:=h.noNew;have j0:q2W l=q2P ⟨X,Z⟩+q0q C:=by
  rw[S,q1N,q1N,q5S];unfold q2P;simp only;omega
 have i0:l.length=X.length+C.length+Z.length:=by rw[S];simp[q5A];omega
 refine⟨⟨X,Z⟩,⟨?_,hC,⟨fun y d k I=>?_,fun y d k I=>?_,fun y d e=>?_,fun y d hp=>?_,fun y d=>?_,?_⟩⟩,fun nm N=>?_,by omega,by simp only;omega⟩
 ·rw[show c-(q2P ⟨X,Z⟩:Int)+(q2P ⟨X,Z⟩:Int)=c by omega]
  show Pl σ c s (X++(q4E 0 C++Z));rw[<-S];exact f0
 ·exact WideShapes.bytes_trans _ _ _ ((mX y).1 d).2 (q5Q I).1
 ·by_cases q:y.1=[100]
  ·rw[q];exact(q5Q I).2.1
  ·rcases WideAt.bytes_total y.1 [100] q with q|q
   ·rw[((mZ y).1 d).2.2] at q;cases q
   ·exact WideShapes.bytes_trans _ _ _ (q5Q I).2.1 q
 ·have hl:y∈l:=d.elim (fun h=>((mX y).1 h).1) fun h=>((mZ y).1 h).1
  exact O y hl (by rw[e];exact d0)
 ·rcases U y d with e|⟨n,G,e|e⟩
  ·rw[e] at hp;exact absurd hp (by decide)
  ·rw[e,q2F y1J (D n G)];exact(by decide:(116:UInt8)≠99)
  ·rw[e,q2F y2l (D n G)];exact(by decide:(98:UInt8)≠99)
 ·rcases U y d with e|⟨n,G,e|e⟩
  ·rw[e];decide
  ·rw[e,q0Y (D n G),χ,q0h];decide
  ·rw[e,q0Y (D n G),χ,q0h];decide
 ·have c0:((X++Z).map Prod.fst).Nodup:=by
   have ho:q3V Prod.fst (X++Z):=by
    rw[S] at o;exact o.sublist (List.Sublist.append (List.Sublist.refl X) (List.sublist_append_right _ _))
   exact List.pairwise_map.2 (z0e ho)
  have hb:=Man.bounds h.man;have:=q6j (m:=mapN::(st.m.L.flatten.map (q0H 116)++st.m.L.flatten.map (q0H 98))) c0 fun x hx=>by
   obtain⟨y,d,rfl⟩:=List.mem_map.1 hx;rcases U y (List.mem_append.1 d) with e|⟨n,G,e|e⟩
   ·rw[e];exact .head _
   ·rw[e];exact .tail _ (List.mem_append.2 (.inl (List.mem_map.2 ⟨n,G,rfl⟩)))
   ·rw[e];exact .tail _ (List.mem_append.2 (.inr (List.mem_map.2 ⟨n,G,rfl⟩)))
  simp only[List.length_map,θ,χ] at this;simp only;omega
 ·rw [<-J,S]
  show(q0I Prod.fst nm (X++Z)).map Prod.snd=_;have e0: ∀y∈q4E 0 C,Prod.fst y≠nm:=fun y d e=>by
   obtain⟨j,h1,h2,h3⟩:=q3a d;exact N j (by have:=hC.few;omega) (by rw[<-h3];exact e.symm)
  unfold q0I;rw[List.find?_append,List.find?_append,List.find?_append];have h0:List.find? (fun y=>Prod.fst y==nm) (q4E 0 C)=none:=q0W e0;rw[h0];simp
theorem PInv.relog(h:PInv st σ c s φ u cnt B)(hE: ∀nm,y1a nm->(q0I Prod.fst nm (E.X++E.Z)).map Prod.snd=φ nm)(J:Lgd E σ' (c-(q2P E:Int)) s C')(ho:okD σ')(hu:q2P E+q0q C'<=u')(N:E.X.length+C'.length+E.Z.length<=cnt'):
  ∃D,PInv st σ' c s D u' cnt' B/\q8r D C'/\ ∀nm,y1a nm->D nm=φ nm:=by
 have r:=J.pl;rw[show c-(q2P E:Int)+(q2P E:Int)=c by omega] at r;have d: ∀nm,y1a nm->(q0I Prod.fst nm (q3T E C')).map Prod.snd=φ nm:=fun nm o=>by
  rw[<-hE nm o];have R: ∀y∈q4E 0 C',Prod.fst y≠nm:=fun y hy e=>by
   obtain⟨j,h1,h2,h3⟩:=q3a hy;exact o j (by have:=J.ok.few;omega) (by rw[<-h3];exact e.symm)
  unfold q0I q3T;rw[List.find?_append,List.find?_append,List.find?_append];have U:List.find? (fun y=>Prod.fst y==nm) (q4E 0 C')=none:=q0W R;rw[U];simp
 have Q: ∀k:Nat,k<=999999->(q0I Prod.fst (q0H 99 (k:Int)) (q3T E C')).map Prod.snd=(C'[k]?).map (q0U k):=fun k G=>by
  rw[<-z2e J.ok.few G];unfold q3T;rw[q0Z (J.oth.neX G),q1T (J.oth.neZ G)]
 have O: ∀I:UInt8,(I=116\/I=98)-> ∀n:Int,0<=n/\n<=999999->y1a (q0H I n):=fun I hc n N k G e=>by
  have hl:q1y I=true:=by rcases hc with rfl|rfl<;>decide
  have:=(z8R hl y2f N (by omega) e).1;rcases hc with rfl|rfl<;>exact absurd this (by decide)
 have q: ∀n∈st.m.L.flatten,0<=n/\n<=999999:=fun n N=>by have:=h.range N;omega
 refine⟨fun nm=>(q0I Prod.fst nm (q3T E C')).map Prod.snd,⟨⟨q3T E C',r,r.ord ho,fun _=>rfl,by rw[q6x];exact hu,by rw[q6w];exact N⟩,h.man,h.full,fun n e he=>?_,fun nm o=>?_,h.okw,h.okB,h.mem⟩,Q,d⟩
 ·obtain⟨S,t1,⟨y,t2⟩,t3,t4⟩:=h.tb n e he
  exact⟨S,(d _ (O 116 (.inl rfl) n (q n S))).trans t1,⟨y,(d _ (O 98 (.inr rfl) n (q n S))).trans t2⟩,t3,t4⟩
 ·by_cases hc: ∃k:Nat,k<=999999/\nm=q0H 99 (k:Int)
  ·exact .inr (.inr hc)
  ·exact h.only nm (by rw[<-d nm fun k G e=>hc ⟨k,G,e⟩];exact o)
end
end
section
open Go.RowKit Go.Maps
def DkX(wb W:World)(g:Nat)(σ:DM)(K:Nat->Prop):Prop:= ∃F,DkF wb W g F σ K
def q3L :DM->List Int->(Int->Option (List En))->(Int->Option (List En))×Int×DM
 |σ,[],acc=>(acc,0,σ)
 | σ,n::ns,acc=>match q5i σ n with
  |(none,e,τ)=>(acc,e,τ)
  |(some L,_,τ)=>q3L τ ns (fun x=>if x=n then some L else acc x)
def q9r(wb w:World)(g:Nat)(m:Man)(rate:Nat)(K:Nat->Prop)(σ:DM)(e:Ending)(w':World):Prop:=
 (q0g m.nx m.ck m.L=false/\e= .returned (.tuple #[.pointer none,.int .i64 2])/\DkX wb w' g σ K/\Stay K w w')\/
 (q0g m.nx m.ck m.L=true/\σ.down=true/\e= .returned (.tuple #[.pointer none,.int .i64 61])/\DkX wb w' g σ K/\Stay K w w')\/
 (q0g m.nx m.ck m.L=true/\σ.down=false/\(q3L σ m.L.flatten (fun _=>none)).2.1≠0/\e= .returned (.tuple #[.pointer none,.int .i64 (q3L σ m.L.flatten (fun _=>none)).2.1])/\DkX wb w' g (q3L σ m.L.flatten (fun _=>none)).2.2 K/\Stay K w w')\/
 (q0g m.nx m.ck m.L=true/\σ.down=false/\(q3L σ m.L.flatten (fun _=>none)).2.1=0/\ ∃gx t,e= .returned (.tuple #[.pointer (some ⟨gx,0,none⟩),.int .i64 0])/\
  IxK wb w' g gx ⟨m,rate,[],t,m.L.flatten.length⟩ (q3L σ m.L.flatten (fun _=>none)).2.2 K/\Stay K w w'/\ ∀n,(t n).map TE.L=(q3L σ m.L.flatten (fun _=>none)).1 n)
section
variable {wb w0 w W W1 w1 w2:World}{g gx gm gt B:Nat}{st st1:IxSt}{F Y Y1 K K' V T:Nat->Prop}{σ σ1:DM}{va v v1 v2 vm:Value}{vs:List Value}{ns:List Int}{acc:List (List En)}{M L:List En}
theorem IxI.putO{D:DataW Unit}{J:Nat}(h:IxI w gx g gm gt st v vs vm D J Y){t:Nat}{may:Int->Bool}
  (N:w2.ownsMap Tryz.prog 3 q6l gt (J+1) (D.put (.int .i64 n) (.lit (.int .i64 t))))(j:OffS (fun i=>i=gt) w w2)
  (G:Tb w t g n L may T)(O: ∀i,T i->¬InX gx gm gt i):
  IxI w2 gx g gm gt ⟨st.m,st.rate,st.w,(fun x=>if x=n then some ⟨t,L,may⟩ else st.t x),st.c+1⟩ v vs vm (D.put (.int .i64 n) (.lit (.int .i64 t))) (J+1) (fun i=>Y i\/T i):=by
 have I: ∀i,i<w.heap.size->i≠gt->w2.heap[i]? =w.heap[i]? :=fun i d r=>j.block i d r
 have o: ∀i,(Y i\/T i)->i<w.heap.size/\¬InX gx gm gt i:=fun i d=>by
  rcases d with d|d
  ·exact⟨h.lt i d,h.apart i d⟩
  ·exact⟨G.lt i d,O i d⟩
 have q: ∀i,(Y i\/T i)->w2.heap[i]? =w.heap[i]? :=fun i d=>I i (o i d).1 fun e=>(o i d).2 (.inr (.inr e))
 refine⟨h.blk.same (I _ h.blk.lt h.ne.2.1),?_,q4i h.lev fun i d=>q i (.inl (h.inY i (d.elim .inl fun e=> .inr (.inl e)))),N,Nat.succ_le_succ h.cnt,fun x=>?_,fun x e r=>?_,fun i d=> .inl (h.inY i d),fun i d=>Ψ (o i d).1 j.size,fun i d=>(o i d).2,h.ne⟩
 ·refine h.mem.same fun i d=>?_
  rcases d with rfl|d
  ·exact I _ h.mem.blk.lt h.ne.2.2
  ·exact q i (.inl (h.inY i (.inr (.inr d))))
 ·exact z8M (e:=⟨t,L,may⟩) h.look h.map.isMap x
 ·simp only at r
  by_cases y:x=n
  ·rw[ξ y] at r
   injection r with r;subst r;subst y;exact(G.same j.size fun i d=>q i (.inr d)).mono (fun i d=> .inr d) fun i d=>Ψ (o i d).1 j.size
  ·rw[κ y] at r
   exact((h.tab x e r).same j.size fun i d=>q i (.inl d)).mono (fun i d=> .inl d) fun i d=>Ψ (o i d).1 j.size
theorem z5m(h : DkF wb w g F σ K){m:Man}(hG:Grid w ao m.L.length cap m.L)(G1:m.L.flatten.length<=1000000000)(D1: ∀x∈m.L.flatten,(Lit.int .i64 x).wf=true)(z1:0<=m.sd)(A1:m.sd<18446744073709551616)(rate:Nat):
  Calls Tryz.prog 131 #[.pointer (some ⟨g,0,none⟩),.agg #[.int .i64 m.nx,.int .i64 m.ck,.int .u64 m.sd,.slice ao m.L.length cap],.float .f64 rate] w (q9r wb w g m rate K σ):=by
 have HD:=η h;have t0:=q0B w (.cells #[.int .i64 m.nx,.int .i64 m.ck,.int .u64 m.sd,.slice ao m.L.length cap] 171);have a1:=Blk.new w 171 #[.int .i64 m.nx,.int .i64 m.ck,.int .u64 m.sd,.slice ao m.L.length cap];have Z:=η (q7g (h.d.ext t0) [] (by decide));have hc: ∃z c,q1c σ []=(z,c)/\(c==1)=false/\((c==61)=σ.down)/\(σ.down=true->c=61):=by
  unfold q1c
  cases σ.down with
  |true=>exact⟨_,_,rfl,rfl,rfl,fun _=>rfl⟩
  | false=>
   simp only[Bool.false_eq_true,if_false]
   split
   ·exact⟨_,_,rfl,rfl,rfl,fun h=>by cases h⟩
   ·exact⟨_,_,rfl,rfl,rfl,fun h=>by cases h⟩
 obtain⟨z,c,hz,t1,G0,H0⟩:=hc;rw[hz] at Z;have HV:=η (q9S m.nx m.ck m.sd ao m.L.length cap m.L _ (hG.ext t0) (by omega) D1);have HG:=η hG;have i0:=η t0;have N:=η a1;obtain⟨w1,C1⟩: ∃w1,w.alloc (.cells #[.int .i64 m.nx,.int .i64 m.ck,.int .u64 m.sd,.slice ao m.L.length cap] 171)=w1:=⟨_,rfl⟩
 rw[C1] at Z HV i0 N;obtain⟨p,hp⟩: ∃p,w.heap.size=p:=⟨_,rfl⟩
 have HP:=η hp;rw[hp] at N;have b0:w1.cell? ⟨p,0,none⟩=some (.int .i64 m.nx):=N.o.cell 0;have b1:w1.cell? ⟨p,1,none⟩=some (.int .i64 m.ck):=N.o.cell 1;have b2:w1.cell? ⟨p,2,none⟩=some (.int .u64 m.sd):=N.o.cell 2;have b3:w1.cell? ⟨p,3,none⟩=some (.slice ao m.L.length cap):=N.o.cell 3;have L0:=@run_makeMap Tryz.prog;clear h t0 a1 hz hG
 cases hv:q0g m.nx m.ck m.L with
 | false=>
  rw[hv] at HV;have a0:=η hv;clear hv;go_enter Tryz.func131,Tryz.ntmps131;go_wp2_with fail;refine Z.o.mono ?_;rintro e w2 ⟨rfl,rfl⟩;go_wp2_with fail;refine HV.o.mono ?_;rintro e w2 ⟨rfl,D⟩;have G:=η (i0.o.trans D);clear D;go_wp2_with fail;go_ret2;exact .inl ⟨a0.o,rfl,⟨F,HD.o.grow G.o⟩,fun i j=>G.o.block i (HD.o.k i j).1⟩
 | true =>
  rw[hv] at HV;have a0:=η hv;clear hv
  cases hdn:σ.down with
  | true=>
   rw[hdn] at G0;obtain rfl:=H0 hdn;have p0:=η hdn;clear hdn H0;go_enter Tryz.func131,Tryz.ntmps131;go_wp2_with fail;refine Z.o.mono ?_;rintro e w2 ⟨rfl,rfl⟩;go_wp2_with fail;refine HV.o.mono ?_;rintro e w2 ⟨rfl,D⟩;have G:=η (i0.o.trans D);clear D;go_wp2_with fail;go_ret2;exact .inr (.inl ⟨a0.o,p0.o,rfl,⟨F,HD.o.grow G.o⟩,fun i j=>G.o.block i (HD.o.k i j).1⟩)
  | false =>
   rw[hdn] at G0;have p0:=η hdn;have m0:m.ok:=⟨a0.o,z1,A1⟩
   have s0:=Man.bounds m0;clear hdn H0;go_enter Tryz.func131,Tryz.ntmps131;go_wp2_with fail;refine Z.o.mono ?_;rintro e w2 ⟨rfl,rfl⟩;go_wp2_with fail;refine HV.o.mono ?_;rintro e w2 ⟨rfl,D⟩;have G:=η (i0.o.trans D);have b0:=q0A D b0;have b1:=q0A D b1;have b2:=q0A D b2;have b3:=q0A D b3;have O0:=η (N.o.ext D);clear D;go_wp2_with fail;refine(z2g m.nx m.ck m.sd ao m.L.length cap m.L w2 (HG.o.ext G.o) (fun i=>by have:=s0.2.2.1 i;omega) (by omega)).mono ?_;rintro e w3 ⟨v3,v0,rfl,o0,Y0⟩;have C0:=η o0;have q0:=η Y0;obtain⟨a3,k3,rfl⟩:=o0.own.slice;clear o0 Y0;go_wp2_with fail;refine(y1R w3).mono ?_;rintro e X ⟨gm,rfl,O,x1,F0⟩;have B0:=η O;have r0:=η F0;have b3:=q0A F0 (q0A q0.o b3);clear O F0;obtain⟨S,j0⟩: ∃S,(X.alloc (.map #[] 0)).alloc (.cells #[.pointer (some ⟨g,0,none⟩),.int .i64 m.nx,.int .i64 m.ck,.int .u64 m.sd,.slice a3 m.L.length k3,.float .f64 rate,.pointer (some ⟨gm,0,none⟩),.map (some X.heap.size)] 175)=S:=⟨_,rfl⟩
   have c0:Hd (Ext X S):=η (j0▸q6M _ _ _)
   have N0:Hd (Blk S (X.heap.size+1) 175 #[.pointer (some ⟨g,0,none⟩),.int .i64 m.nx,.int .i64 m.ck,.int .u64 m.sd,.slice a3 m.L.length k3,.float .f64 rate,.pointer (some ⟨gm,0,none⟩),.map (some X.heap.size)]):=η (by
    have h:=Blk.new (X.alloc (.map #[] 0)) 175 #[.pointer (some ⟨g,0,none⟩),.int .i64 m.nx,.int .i64 m.ck,.int .u64 m.sd,.slice a3 m.L.length k3,.float .f64 rate,.pointer (some ⟨gm,0,none⟩),.map (some X.heap.size)];rw[ρ,j0] at h
    exact h)
   have R0:Hd (S.ownsMap Tryz.prog 3 q6l X.heap.size 0 (.map [])):=η (j0▸(World.ownsMap_made (H:=Unit) X Tryz.prog 3 q6l).alloc _);have o1:Hd (S.heap.size=X.heap.size+2):=η (by rw[<-j0,ρ,ρ]);have p1:=q0A c0.o b3;have d0:=η (((G.o.trans q0.o).trans r0.o).trans c0.o);have u1:gm<X.heap.size:=B0.o.blk.lt
   have Q0:Hd (IxK wb S g (X.heap.size+1) ⟨m,rate,[],(fun _=>none),0⟩ σ K):=η (by
    have hD:=HD.o;have H1:=G.o.size;have I1:=q0.o.size;have J1:=r0.o.size;have L1:=hD.ext.size;have y1:OGr S w2.heap.size 57 3 (.slice a3 m.L.length k3) v0 m.L:=(C0.o.ext r0.o).ext c0.o;have I: ∀i,((Value.slice a3 m.L.length k3).ownBlock=some i\/ ∃q,(v0.getD q (.slice none 0 0)).ownBlock=some i)->w2.heap.size<=i/\i<w3.heap.size:=fun i j=>z0d C0.o i j
    refine⟨F,gm,X.heap.size,fun i=>((Value.slice a3 m.L.length k3).ownBlock=some i\/ ∃q,(v0.getD q (.slice none 0 0)).ownBlock=some i),⟨hD.d.ext d0.o,⟨⟨m0,okM.nil,υ _⟩,.slice a3 m.L.length k3,v0,.slice none 0 0,.map [],0,⟨N0.o,B0.o.ext c0.o,q9W y1 (υ _),R0.o,ι _,fun n=>rfl,fun n e he=>(by cases he),fun i j=>?_,fun i j=>Ψ (I i j).2 (by have:=c0.o.size;omega),fun i j hx=>?_,⟨by omega,by omega,by omega⟩⟩⟩,fun i j=>?_⟩,hD.bF,fun i j=>?_,fun i j=>by have:=I i j;omega,hD.ext.trans d0.o,fun i j=>?_⟩
    ·rcases j with j|j|j
     ·exact .inl j
     ·exact .inr j
     ·cases j
    ·have h1:=I i j
     rcases hx with rfl|rfl|rfl<;>omega
    ·have h1:=hD.d.Flt i j
     exact⟨fun hx=>by rcases hx with rfl|rfl|rfl<;>omega,fun hy=>by have:=I i hy;omega⟩
    ·rcases j with rfl|rfl|rfl<;>omega
    ·have h1:=hD.k i j
     have h2:=d0.o.size
     exact⟨by omega,h1.2,fun hx=>by rcases hx with rfl|rfl|rfl<;>omega,fun hy=>by have:=I i hy;omega⟩)
   have M0:=η (z3m ao m.L.length cap m.L S (HG.o.ext d0.o) (by omega));have s1: ∀i,K i->i<w.heap.size:=fun i j=>(HD.o.k i j).1
   have h0:Hd (Stay K w S):=η fun i j=>d0.o.block i (s1 i j)
   clear L0;have L0:=@run_makeMap Tryz.prog;go_wp2_with fail;refine M0.o.mono ?_;rintro e w5 ⟨va,rfl,U,Z0⟩;obtain⟨aa,ka,rfl⟩:=U.slice;obtain⟨ns,f0⟩: ∃ns,m.L.flatten=ns:=⟨_,rfl⟩
   have n1:=η f0;rw[f0] at U;have A0:=η (LsW.start Q0.o (W:=w5) Z0 U);rw[f0];obtain⟨R,hR⟩: ∃R,q3L σ ns (fun _=>none)=R:=⟨_,rfl⟩
   have HR:=η hR
   have x0:Hd (∀e w',((R.2.1≠0/\e= .returned (.tuple #[.pointer none,.int .i64 R.2.1])/\DkX wb w' g R.2.2 K/\Stay K S w')\/(R.2.1=0/\ ∃gx t,e= .returned (.tuple #[.pointer (some ⟨gx,0,none⟩),.int .i64 0])/\IxK wb w' g gx ⟨m,rate,[],t,ns.length⟩ R.2.2 K/\Stay K S w'/\ ∀n,(t n).map TE.L=R.1 n))->q9r wb w g m rate K σ e w'):=η (by
    intro e w' h;unfold q9r;rw[f0,hR];rcases h with⟨q1,q2,q3,q4⟩|⟨q1,gx,t,q2,q3,q4,q5⟩
    ·exact .inr (.inr (.inl ⟨a0.o,p0.o,q1,q2,q3,h0.o.trans q4⟩))
    ·exact .inr (.inr (.inr ⟨a0.o,p0.o,q1,gx,t,q2,q3,h0.o.trans q4,q5⟩)))
   obtain⟨n,hn⟩: ∃n,ns.length=n:=⟨_,rfl⟩
   have g0:=η hn;have F1:n<=40:=by rw[<-hn,<-f0];exact s0.2.1
   have l1:=η s0;obtain⟨gx,I0⟩: ∃gx,X.heap.size+1=gx:=⟨_,rfl⟩
   rw[hn] at A0;rw[I0] at A0;rw[hn];simp only[I0];clear U Z0 f0 hn M0 i0 G q0 r0 c0 N0 R0 o1 p1 b0 b1 b2 b3 d0 Q0 B0 C0 L0 hR s0 HV Z HG N O0 HP h0 t1 G0 j0 u1 x1 I0;go_wp2_with fail
   go_loopw [44] (fun i W=> ∃(k:Nat) (t:Int->Option TE) (acc:Int->Option (List En)) (τ:DM),k<=n/\i= .int .i64 (k:Int)/\LsW wb S W g gx ⟨m,rate,[],t,k⟩ τ K (.slice aa n ka) (.slice none 0 0) [] ns [] S.heap.size/\(∀x,(t x).map TE.L=acc x)/\q3L τ (ns.drop k) acc=R) (fun i _=>n-(intOf i).toNat)
   case atStart=>exact⟨0,fun _=>none,fun _=>none,σ,υ _,rfl,A0.o,fun x=>rfl,HR.o⟩
   case round =>
    obtain⟨k,tt,acc,τ,hk,rfl,f1,j1,y⟩:=hrel;have HL:=η f1;have S0:=η y;have T0:=η j1;clear f1 y j1;by_cases I:k<n
    ·have hd:decide ((k:Int)<(n:Int))=true:=ζ (by omega)
     have q1:IntKind.i64.wrap ((k:Int)+1)=(k:Int)+1:=by rw[ν];omega
     have q5:(k:Int)<(n:Int):=by omega
     obtain⟨_,_,ea,J0⟩:=q2x HL.o.all;rw[g0.o] at ea
     cases ea;rw[g0.o] at J0;obtain⟨ba,oa,rfl,n0⟩:=J0.at I;have K0:k<ns.length:=by rw[g0.o];exact I
     have k0:ns.drop k=ns.getD k 0::ns.drop (k+1):=by
      rw[List.drop_eq_getElem_cons K0,δ,γ K0];rfl
     have O:ns.getD k 0∈m.L.flatten:=by rw[n1.o];exact q3v ns k K0
     have y:=S0.o;rw[k0] at y;have k1:=(l1.o.2.2.2.1 _ O).1;generalize ns.getD k 0=nk at*;rw[q3L] at y;obtain⟨F2,r1,V0,Y2,h2⟩:=HL.o.i;have D0:=η (y0D h2.i.d nk);have P0:=η h2;obtain⟨r,hr⟩: ∃r,q5i τ nk=r:=⟨_,rfl⟩
     rw[hr] at y D0;obtain⟨o,c,E1⟩:=r;clear J0 k0 O h2
     cases o with
     | none=>
      simp only at y;have hc:=z8V hr;have g2:(c !=0)=true:=by simpa using hc
      have E0:=η y;have HC:=η hc;clear hr y hc;go_wp2_with fail;refine D0.o.mono ?_;rintro e3 w3 ⟨rfl,e0⟩;obtain⟨h3,Q⟩:=P0.o.disk e0
      have HE:Hd (q9r wb w g m rate K σ (.returned (.tuple #[.pointer none,.int .i64 c])) w3):=η (x0.o _ _ (.inl (by
       rw[<-E0.o]
       exact⟨HC.o,rfl,⟨_,h3.i.d,h3.bF,h3.ext,fun i j=>⟨(h3.k i (.inl j)).1,(h3.k i (.inl j)).2.1⟩⟩,HL.o.stay.trans fun i j=>Q i (.inl j)⟩)))
      clear e0 h3 Q;go_wp2_with fail;go_ret2;exact HE.o
     | some L=>
      simp only at y;obtain rfl:=z4X hr;have E0:=η y;clear hr y;go_wp2_with fail;refine D0.o.mono ?_;rintro e3 w7 ⟨t,may,T,w6,rfl,e0,u0,i1,hT⟩;obtain⟨h3,Q⟩:=P0.o.disk e0;have h7:=h3.grow u0;have y0:Stay (fun i=>K i\/z8q (.slice (some ⟨ba,oa,none⟩) n ka) (.slice none 0 0) [] i) wr w7:=Q.trans (h3.kExt u0);obtain⟨g1,v7,O1,N1,D7,M1,l0⟩:=h7.i.x;have c7:=l0.c7;have c1:=l0.cnt;simp only at c1;obtain⟨w8,B1,W0,d1⟩:=l0.map.update Tryz.keyInt Tryz.underlying173 (by unfold maxLen;omega) (keyOf_int_mk Tryz.underlying3 k1) (z6O t);have J:OffS (fun i=>i=V0) w7 w8:=OffS.grown d1 fun i j=>by injection j with j;exact j.symm
      have X0: ∀i,T i->¬InX gx r1 V0 i:=fun i j hx=>by have:=hT i j;have:=h3.i.x.xlt i hx;omega
      have e1:=l0.putO W0 J i1 X0
      obtain⟨h8,z0⟩:=h7.turnV (K:=fun i=>K i\/z8q (.slice (some ⟨ba,oa,none⟩) n ka) (.slice none 0 0) [] i) (st1:=⟨m,rate,[],(fun x=>if x=nk then some ⟨t,L,may⟩ else tt x),k+1⟩) (Y1:=fun i=>Y2 i\/T i) ⟨⟨m0,okM.nil,by show k+1<=1000000;omega⟩,_,_,_,_,_,e1⟩ (J.mono fun i _ j=> .inr (.inr j)) (fun i j=>by
       rcases j with j|j
       ·exact⟨h7.bY i j,fun hf=>(h7.i.ap i hf).2 j⟩
       ·have h9:=hT i j
        exact⟨by have:=h3.ext.size;omega,fun hf=>by have:=h3.i.d.Flt i hf;omega⟩) (fun i j=>⟨j,fun hy=>by
       rcases hy with hy|hy
       ·exact(h7.k i j).2.2.2 hy
       ·have:=hT i hy;have:=(h3.k i j).1;omega⟩)
      have m1:=η (HL.o.step ⟨_,_,_,_,h8⟩ (y0.trans z0) (by have:=e0.off.size;have:=u0.size;have:=J.size;omega));have U0:Hd (∀x,(if x=nk then some (⟨t,L,may⟩:TE) else tt x).map TE.L=if x=nk then some L else acc x):=η fun x=>by
       by_cases hx:x=nk
       ·rw[ξ hx,ξ hx];rfl
       ·rw[κ hx,κ hx];exact T0.o x
      have K1:=η B1;clear e0 h3 Q h7 y0 g1 l0 W0 d1 J X0 e1 h8 z0 i1 hT u0 c1;go_wp2_with fail
      go_roundw
      case rel=>exact⟨k+1,_,_,E1,I,by go_num,m1.o,U0.o,E0.o⟩
      case measure=>simp[intOf];omega
    ·obtain rfl:k=n:=by omega
     have hd:decide ((k:Int)<(k:Int))=false:=ε (by omega);have y:=S0.o;rw[List.drop_of_length_le (by rw[g0.o];exact ι _),q3L] at y
     have HE:Hd (q9r wb w g m rate K σ (.returned (.tuple #[.pointer (some ⟨gx,0,none⟩),.int .i64 0])) wr):=η (x0.o _ _ (.inr (by
      rw[<-y]
      exact⟨rfl,gx,tt,rfl,by rw[g0.o];exact HL.o.i.beside fun i j=> .inl j,HL.o.stay,T0.o⟩)))
     clear y;go_wp2_with fail;go_ret2;exact HE.o
end
end
section
open Go.RowKit
theorem q7N{n:Nat}{L:List To}(d:Int)(w:World)(j:Tos w ao n cap L):
  Calls Tryz.prog 34 #[.slice ao n cap,.int .i64 d] w fun e w'=>(∃z,e= .returned (.bool z)/\(z=false->(n:Int)<=d))/\Ext w w':=by
 have Q:=η j;have b1:=j.fits;have b2:=j.bound;clear j;go_enter Tryz.func34,Tryz.ntmps34;go_wp2_with fail
 go_loopw [5] (fun i W=> ∃k:Nat,k<=n/\i= .int .i64 (k:Int)/\Ext w W) (fun i _=>n-(intOf i).toNat)
 case atStart=>exact⟨0,υ _,rfl,Ext.refl _⟩
 case round=>
  obtain⟨k,hk,rfl,j⟩:=hrel;have q:=η j;by_cases y:k<n
  ·have Z:decide ((k:Int)<(n:Int))=true:=ζ (by omega)
   have b0:(k:Int)<(n:Int):=by omega
   have q8:IntKind.i64.wrap ((k:Int)+1)=(k:Int)+1:=by rw[ν];omega
   obtain⟨ab,R,rfl,D,G,I,J,N⟩:=(Q.o.ext j).at y;obtain⟨t,r⟩: ∃t,L.getD k to0=t:=⟨_,rfl⟩
   rw[r] at D G I J N;obtain⟨ts,tv,⟨ty,da,we⟩⟩:=t;simp only at D G I J N;clear j r;by_cases h1:300<ts.length
   ·have S:decide ((300:Int)<(ts.length:Int))=true:=ζ (by omega)
    clear h1;go_wp2_with fail;go_ret;exact⟨⟨true,rfl,fun h=>by cases h⟩,q.o⟩
   have S:decide ((300:Int)<(ts.length:Int))=false:=ε (by omega);clear h1;by_cases h2:300<ty.length
   ·have U:decide ((300:Int)<(ty.length:Int))=true:=ζ (by omega)
    clear h2;go_wp2_with fail;go_ret;exact⟨⟨true,rfl,fun h=>by cases h⟩,q.o⟩
   have U:decide ((300:Int)<(ty.length:Int))=false:=ε (by omega);clear h2;by_cases h3:300<da.length
   ·have X:decide ((300:Int)<(da.length:Int))=true:=ζ (by omega)
    clear h3;go_wp2_with fail;go_ret;exact⟨⟨true,rfl,fun h=>by cases h⟩,q.o⟩
   have X:decide ((300:Int)<(da.length:Int))=false:=ε (by omega);clear h3;go_wp2_with fail
   go_roundw
   case rel=>exact⟨k+1,by omega,by go_num,q.o⟩
   case measure=>simp[intOf];omega
  ·have e:n=k:=by omega
   subst e;have Z:decide ((n:Int)<(n:Int))=false:=ε (by omega);obtain⟨z,hz⟩: ∃z,decide (d<(n:Int))=z:=⟨_,rfl⟩
   have O:=η hz;clear j;go_wp2_with fail;go_ret;exact⟨⟨_,rfl,fun h=>by have:=of_decide_eq_false (O.o.trans h);omega⟩,q.o⟩
theorem z5j{va:Option Addr}{sn sc:Nat}{L:List To}{S:List Smm}(w:World)(hv:Tos w va vn vc L)(hs:Sms w so sn sc S):
  Calls Tryz.prog 8 #[.agg #[.slice va vn vc,.slice so sn sc]] w fun e w'=>(∃z,e= .returned (.bool z)/\(z=false->vn<=40/\sn<=8/\ ∀x∈S,x.F.length<=40/\x.B.length<=40))/\Ext w w':=by
 have r:=q0B w (.cells #[.slice va vn vc,.slice so sn sc] 25);have q:=Blk.new w 25 #[.slice va vn vc,.slice so sn sc];obtain⟨g,hg⟩: ∃g,w.heap.size=g:=⟨_,rfl⟩
 have HG:=η hg;rw[hg] at q;obtain⟨W1,n0⟩: ∃W1,w.alloc (.cells #[.slice va vn vc,.slice so sn sc] 25)=W1:=⟨_,rfl⟩
 rw[n0] at r q;have j:=η r;have HB:=η q;have HS:=η (hs.ext r);have b3:=hs.fits;have b4:=hs.bound;have Z:=η hs.len;have X:=η (q7N 40 W1 (hv.ext r));have k0:=hg▸q.cell 0;have k1:=hg▸q.cell 1;clear r q hv hs hg;go_enter Tryz.func8,Tryz.ntmps8;go_wp2_with fail;refine X.o.mono ?_;rintro e w2 ⟨⟨z,rfl,D⟩,d⟩;have G:=η d;have Q:=HB.o.ext d;have k1:=HG.o▸Q.cell 1;have HZ:=η D;clear d Q D k0 X
 cases z with
 | true=>
  go_wp2_with fail;go_ret;exact⟨⟨true,rfl,fun h=>by cases h⟩,j.o.trans G.o⟩
 | false =>
  by_cases h8:8<sn
  ·have d8:decide ((8:Int)<(sn:Int))=true:=ζ (by omega)
   clear h8;go_wp2_with fail;go_ret;exact⟨⟨true,rfl,fun h=>by cases h⟩,j.o.trans G.o⟩
  have d8:decide ((8:Int)<(sn:Int))=false:=ε (by omega);go_wp2_with fail
  go_loopw [3] (fun i W=> ∃k:Nat,k<=sn/\i= .int .i64 (k:Int)/\Ext W1 W/\Hd (∀x∈S.take k,x.F.length<=40/\x.B.length<=40)) (fun i _=>sn-(intOf i).toNat)
  case atStart=>exact⟨0,υ _,rfl,G.o,η fun x d=>by cases d⟩
  case round =>
   clear k1;obtain⟨k,hk,rfl,d,HN⟩:=hrel;have HX:=η d;have Q:=HB.o.ext d;have k1:=HG.o▸Q.cell 1;by_cases e0:k<sn
   ·have hd :decide ((k:Int)<(sn:Int))=true:=ζ (by omega)
    have p0:(k:Int)<(sn:Int):=by omega
    have q8:IntKind.i64.wrap ((k:Int)+1)=(k:Int)+1:=by rw[ν];omega
    obtain⟨ab,o0,rfl,a0,a1,a2,a3,t1,t2⟩:=(HS.o.ext d).at e0;have N:k<S.length:=by rw[Z.o];exact e0
    have O:S.take (k+1)=S.take k++[S.getD k sm0]:=by
     rw[List.take_succ_eq_append_getElem N,δ,γ N];rfl
    obtain⟨x,f0⟩: ∃x,S.getD k sm0=x:=⟨_,rfl⟩
    rw[f0] at a0 a1 a2 a3 t1 t2 O;obtain⟨nm,la,fa,fn,fc,F,ba,bn,bc,B⟩:=x;simp only at a0 a1 a2 a3 t1 t2;have y:=q0B wr (.cells #[.string ⟨nm.toArray⟩,.int .i64 la,.slice fa fn fc,.slice ba bn bc] 43);have d0:=Blk.new wr 43 #[.string ⟨nm.toArray⟩,.int .i64 la,.slice fa fn fc,.slice ba bn bc];have j0:=η O;have R:=η (q7N 40 (wr.alloc (.cells #[.string ⟨nm.toArray⟩,.int .i64 la,.slice fa fn fc,.slice ba bn bc] 43)) (t1.ext y));have U:=η (fun W (h:Ext (wr.alloc (.cells #[.string ⟨nm.toArray⟩,.int .i64 la,.slice fa fn fc,.slice ba bn bc] 43)) W)=>q7N 40 W ((t2.ext y).ext h));have g0:=η d0;have i0:=η t1.len;have h0:=η t2.len;have J:=η (d.trans y);clear d Q N O f0 y d0 t1 t2;by_cases h1:300<nm.length
    ·have d1:decide ((300:Int)<(nm.length:Int))=true:=ζ (by omega)
     clear h1;go_wp2_with fail;go_ret;exact⟨⟨true,rfl,fun h=>by cases h⟩,j.o.trans J.o⟩
    have d1:decide ((300:Int)<(nm.length:Int))=false:=ε (by omega);clear h1;go_wp2_with fail;refine R.o.mono ?_;rintro e w4 ⟨⟨z,rfl,D⟩,d⟩;have I:=η d;have c0:=g0.o.ext d;have y3:=c0.cell 3;have l0:=η D;clear d c0 D R
    cases z with
    | true=>
     go_wp2_with fail;go_ret;exact⟨⟨true,rfl,fun h=>by cases h⟩,j.o.trans (J.o.trans I.o)⟩
    | false =>
     go_wp2_with fail;refine(U.o _ I.o).mono ?_;rintro e w5 ⟨⟨z,rfl,D⟩,d⟩;have b0:=η ((J.o.trans I.o).trans d);have m0:=η D;clear d D U
     cases z with
     | true=>
      go_wp2_with fail;go_ret;exact⟨⟨true,rfl,fun h=>by cases h⟩,j.o.trans b0.o⟩
     | false=>
      go_wp2_with fail
      go_roundw
      case rel=>exact⟨k+1,by omega,by go_num,b0.o,η fun x d=>by
       rw[j0.o] at d;rcases List.mem_append.1 d with d|d
       ·exact HN.o x d
       ·rw[List.mem_singleton.1 d]
        have h1:=l0.o (by simp);have h2:=m0.o (by simp);have h3:=i0.o;have h4:=h0.o;simp only
        exact⟨by omega,by omega⟩⟩
      case measure=>simp[intOf];omega
   ·have e:sn=k:=by omega
    subst e;have hd:decide ((sn:Int)<(sn:Int))=false:=ε (by omega);clear d Q;go_wp2_with fail;go_ret;refine⟨⟨false,rfl,fun _=>⟨by have:=HZ.o (by simp);omega,by omega,fun x d=>HN.o x (by rw[Δ (by rw[Z.o];exact ι _)];exact d)⟩⟩,j.o.trans HX.o⟩
end
end Go.Proofs.YtjlcdfpbllobaaaGreatDoor
