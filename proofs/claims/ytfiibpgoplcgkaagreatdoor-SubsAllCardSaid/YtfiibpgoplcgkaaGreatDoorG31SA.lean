/- Walks. -/
import Derived.Test.YtfiibpgoplcgkaaGreatDoorG29SA
import Derived.Test.YtfiibpgoplcgkaaGreatDoorG30SA
import Derived.WideKeyEntry
import Derived.Test.YtfiibpgoplcgkaaGreatDoorG24SA
set_option linter.unusedVariables false
set_option linter.unusedSimpArgs false
set_option maxRecDepth 100000
set_option maxHeartbeats 12800000
namespace Go.Proofs.YtfiibpgoplcgkaaGreatDoor
variable {τ:DM}{n f:Int}{e:TE}{u' cnt' k cap:Nat}{α:Type}{bs:List Bt}{ao:Option Addr}{ps:List (List UInt8)}
section
open Go.RowKit Go.Maps
def Man.S(m:Man):List UInt8:=(q3a m.nx m.ck m.sd m.L).1
theorem z4b{c:Int}(h:c≠0):q2R c≠0:=by
 rcases z4c c with e|e<;>rw[e]
 ·exact h
 ·decide
theorem z9T{σ:DM}{e:Int}(h:q5w σ n=(none,e,τ)):e≠0:=by
 unfold q5w at h
 split at h
 ·next i=>injection h with _ d;injection d with d _;rw[<-d];exact z4b i
 ·split at h
  ·injection h with _ d;injection d with d _;rw[<-d];decide
  ·split at h
   ·injection h with _ d;injection d with d _;rw[<-d];decide
   ·injection h with i _;cases i
theorem z5L{σ:DM}{e:Int}{L:List En}(h:q5w σ n=(some L,e,τ)):e=0:=by
 unfold q5w at h
 split at h
 ·injection h with d _;cases d
 ·split at h
  ·injection h with d _;cases d
  ·split at h
   ·injection h with d _;cases d
   ·injection h with _ i;injection i with i _;exact i.symm
end
section
open Go.RowKit
abbrev Fls :=List UInt8->Option (List UInt8)
def y2z(φ:Fls)(nm t:List UInt8):Fls:=fun x=>if x=nm then some t else φ x
def z6I(φ:Fls)(nm:List UInt8):Fls:=fun x=>if x=nm then none else φ x
def Fl(σ:DM)(c s:Int)(φ:Fls)(u cnt:Nat):Prop:= ∃l,Pl σ c s l/\q2Q Prod.fst l/\(∀nm,(q0F Prod.fst nm l).map Prod.snd=φ nm)/\q1X l<=u/\l.length<=cnt
section
variable {σ :DM}{c s:Int}{l:List (List UInt8×List UInt8)}{nm t a b:List UInt8}{x:List UInt8×List UInt8}{φ:Fls}{u cnt:Nat}
theorem Pl.delete(h:Pl σ c s l)(i:q0F Prod.fst nm l=some x): ∃σ',q1L σ nm=(0,σ')/\Pl σ' c s (q1M Prod.fst nm l):=by
 obtain⟨f,d,rfl⟩:=h.find_some i;refine⟨{q1c σ with L:=q1M FM.nm nm σ.L},?_,h.up,h.fine,?_,h.cap,h.st⟩
 ·unfold q1L
  rw[κ (by rw[h.up];decide),d,κ (by simp),κ (by rw[h.no];decide)]
 ·rw[<-h.files]
  exact q5k (k:=FM.nm) (k':=Prod.fst) q5O nm σ.L
theorem Pl.deleteN(h:Pl σ c s l)(d:q0F Prod.fst nm l=none):q1L σ nm=(4,σ):=by
 unfold q1L;rw[κ (by rw[h.up];decide),h.find_none d,ξ (by simp)]
theorem Pl.rename(h:Pl σ c s l)(m:q0F Prod.fst a l=some x)(j:q2G b=true)(d:a≠b): ∃σ',q2E σ a b=(0,σ')/\Pl σ' c s (q1e Prod.fst (b,x.2) (q1M Prod.fst a (q1M Prod.fst b l))):=by
 obtain⟨f,i,rfl⟩:=h.find_some m;refine⟨{q1c σ with L:=z5O a b f σ.L},?_,h.up,h.fine,?_,h.cap,h.st⟩
 ·unfold q2E
  rw[κ (by rw[h.up];decide),i];simp only;rw[κ (by rw[j];decide),κ (by rw[h.no];decide),κ d]
 ·rw[<-h.files]
  show(z5O a b f σ.L).map fbF=_;unfold z5O;rw[q5u (k:=FM.nm) (k':=Prod.fst) q5O,q5k (k:=FM.nm) (k':=Prod.fst) q5O,q5k (k:=FM.nm) (k':=Prod.fst) q5O]
  rfl
theorem q9h(nm:List UInt8)(l:List (List UInt8×List UInt8)):q0F Prod.fst nm (q1M Prod.fst nm l)=none:=q0S fun y d=>(mem_delN.1 d).2
theorem z6Z{nm d:List UInt8}(l:List (List UInt8×List UInt8))(j:nm≠d):q0F Prod.fst nm (q1M Prod.fst d l)=q0F Prod.fst nm l:=by
 unfold q0F q1M;rw[List.find?_filter]
 congr 1
 funext y
 by_cases m:y.1=nm
 ·have i:(y.1==nm)=true:=by simpa using m
  have o:(y.1==d)=false:=by rw[m];simpa using j
  rw[i,o];rfl
 ·have i:(y.1==nm)=false:=by simpa using m
  rw[i];simp
theorem z8C(nm:List UInt8)(l:List (List UInt8×List UInt8)):q1X (q1M Prod.fst nm l)<=q1X l:=by
 unfold q1X q5I q1M
 induction l with
 |nil=>exact ι _
 | cons y r ih=>
  rw[List.filter_cons]
  split
  ·simp only[List.map_cons,List.sum_cons];omega
  ·simp only[List.map_cons,List.sum_cons];omega
theorem y0a(nm:List UInt8)(l:List (List UInt8×List UInt8)):(q1M Prod.fst nm l).length<=l.length:=List.length_filter_le _ _
theorem Fl.find(j: ∀nm,(q0F Prod.fst nm l).map Prod.snd=φ nm)(h:φ nm=some t):q0F Prod.fst nm l=some (nm,t):=by
 have d:=j nm;rw[h] at d
 cases hf:q0F Prod.fst nm l with
 |none=>rw[hf] at d;cases d
 | some y=>
  rw[hf] at d;have i:=(q0J hf).2;injection d with d;rw[<-d,<-i]
theorem Fl.noFind(i: ∀nm,(q0F Prod.fst nm l).map Prod.snd=φ nm)(h:φ nm=none):q0F Prod.fst nm l=none:=by
 have d:=i nm;rw[h] at d
 cases hf:q0F Prod.fst nm l with
 |none=>rfl
 |some y=>rw[hf] at d;cases d
theorem Fl.put(i: ∀nm,(q0F Prod.fst nm l).map Prod.snd=φ nm)(h:φ nm=none)(t:List UInt8): ∀x,(q0F Prod.fst x (q1e Prod.fst (nm,t) l)).map Prod.snd=y2z φ nm t x:=fun x=>by
 unfold y2z;by_cases d:x=nm
 ·subst d
  rw[ξ rfl,q4e (k:=Prod.fst) (x:=(x,t)) (q0r (Fl.noFind i h))]
  rfl
 ·rw[κ d,q4f (k:=Prod.fst) (x:=(nm,t)) (fun e=>d e.symm)]
  exact i x
theorem Fl.cut(i: ∀nm,(q0F Prod.fst nm l).map Prod.snd=φ nm)(nm:List UInt8): ∀x,(q0F Prod.fst x (q1M Prod.fst nm l)).map Prod.snd=z6I φ nm x:=fun x=>by
 unfold z6I;by_cases d:x=nm
 ·subst d;rw[ξ rfl,q9h];rfl
 ·rw[κ d,z6Z l d];exact i x
theorem Fl.up(h:Fl σ c s φ u cnt):σ.down=false:=by obtain⟨l,d,_⟩:=h;exact d.up
theorem Fl.mono(h:Fl σ c s φ u cnt)(q:u<=u')(r:cnt<=cnt'):Fl σ c s φ u' cnt':=by
 obtain⟨l,d,i,j,m,o⟩:=h;exact⟨l,d,i,j,by omega,by omega⟩
theorem Fl.tell(h:Fl σ c s φ u cnt):Fl (q2Z σ) c s φ u cnt:=by
 obtain⟨l,d,i,j,m,o⟩:=h;exact⟨l,d.tell,i,j,m,o⟩
theorem Fl.tells : ∀(k:Nat) {σ:DM},Fl σ c s φ u cnt->Fl (tellN k σ) c s φ u cnt
 |0,_,h=>h
 |k+1,σ,h=>by rw[q1j];exact Fl.tells k h.tell
theorem Fl.del(h:Fl σ c s φ u cnt)(q:φ nm=some t): ∃σ',q1L σ nm=(0,σ')/\Fl σ' c s (z6I φ nm) u cnt:=by
 obtain⟨l,i,j,d,m,o⟩:=h;obtain⟨σ',e,p⟩:=i.delete (Fl.find d q);exact⟨σ',e,_,p,q3D j,Fl.cut d nm,Ω (z8C nm l) m,Ω (y0a nm l) o⟩
theorem Fl.wl(h:Fl σ c s φ u cnt){L:List En}(j:φ (q0C 116 n)=some (q9H L)):Wl σ n L:=by
 obtain⟨l,d,m,i,o,q⟩:=h;exact d.wl (Fl.find i j)
end
end
section
open Go.RowKit Go.Maps
theorem z0W{P:Program}{id:Nat}{Q:Exit->Act->World->Prop}{a:Act}{w:World}{l:List Oper}(n:Nat)(hm:P.follows .mixedOrders=true)(i:Region.lexTailB .any l.toArray n=true)
  (h:wpStill P l.toArray w.drew (fun d=>wpList P l.toArray Q (l.drop n) d w.drew) (l.take n) a):(Code.region id l.toArray true).wp P Q a w:=
 wp_region_still_tail n hm i h
section
variable {wb w w1 w2:World}{g gx gm gt:Nat}{st st1:IxSt}{F Y Y1 K K' V:Nat->Prop}{σ σ1:DM}
end
section
variable {wb w w1 w2:World}{g gx gm gt:Nat}{st st1:IxSt}{F Y Y1 K K' V:Nat->Prop}{σ σ1:DM}
end
section
variable {wb w0 w W W1 w1 w2:World}{g gx gm gt B:Nat}{st st1:IxSt}{F Y Y1 K K' V T:Nat->Prop}{σ σ1:DM}{va v v1 v2 vm:Value}{vs:List Value}{ns:List Int}{acc:List (List En)}{M L:List En}
end
end
section
open Go.RowKit
theorem z0L : ∀{a b:List En},q1E a->q1E b->(∀x∈a,x∈b)->a.Sublist b
 |[],b,_,_,_=>List.nil_sublist b
 |x::a,[],_,_,h=>absurd (h x (.head _)) (by simp)
 | x :: a,y::b,ha,hb,h=>by
  obtain⟨m,I⟩:=List.pairwise_cons.1 ha;obtain⟨J,o⟩:=List.pairwise_cons.1 hb;rcases List.mem_cons.1 (h x (.head _)) with e|r
  ·subst e
   refine(z0L I o fun z i=>?_).cons_cons x;rcases List.mem_cons.1 (h z (.tail _ i)) with e|d
   ·have:=m z i
    rw[e,q0c] at this;cases this
   ·exact d
  ·refine(z0L ha o fun z i=>?_).cons y
   rcases List.mem_cons.1 (h z i) with e|d
   ·rcases List.mem_cons.1 i with G|j
    ·rw[G];exact r
    ·have q:=m z j
     have N:=J x r;rw[e] at q;have:=q1S q N;rw[q0c] at this;cases this
   ·exact d
theorem q4o{a b:List En}(d:q1E a)(i:q1E b)(h: ∀x∈a,x∈b):a.length<=b.length:=(z0L d i h).length_le
def TL(st:IxSt)(n:Int):List En:=match st.t n with|some e=>e.L|none=>[]
theorem q3N{st:IxSt}(h:st.t n=some e):TL st n=e.L:=by unfold TL;rw[h]
structure PInv(st:IxSt)(σ:DM)(c s:Int)(φ:Fls)(u cnt:Nat)(B:List En):Prop where
 fl:Fl σ c s φ u cnt
 man:st.m.ok
 full:st.full
 tb: ∀n e,st.t n=some e->n∈st.m.L.flatten/\φ (q0C 116 n)=some (q9H e.L)/\(∃y,φ (q0C 98 n)=some y)/\okM e.L/\ ∀x∈e.L,e.may x.1=true
 only: ∀nm,φ nm≠none->nm=mapN\/(∃n∈st.m.L.flatten,nm=q0C 116 n\/nm=q0C 98 n)\/ ∃k:Nat,k<=999999/\nm=q0C 99 (k:Int)
 okw:okM st.w
 okB:okM B
 mem: ∀x,x∈B↔x∈st.w\/ ∃n e,st.t n=some e/\x∈e.L
section
variable {st :IxSt}{σ σ':DM}{c s:Int}{φ:Fls}{u cnt:Nat}{B:List En}
theorem PInv.range(h:PInv st σ c s φ u cnt B)(i:n∈st.m.L.flatten):0<=n/\n<=999999/\n<st.m.nx:=by
 have d:=Man.bounds h.man;have:=d.2.2.2.1 n i;omega
theorem PInv.tell(h:PInv st σ c s φ u cnt B)(k:Nat):PInv st (tellN k σ) c s φ u cnt B:=⟨Fl.tells k h.fl,h.man,h.full,h.tb,h.only,h.okw,h.okB,h.mem⟩
theorem PInv.mono(h:PInv st σ c s φ u cnt B)(d:u<=u')(i:cnt<=cnt'):PInv st σ c s φ u' cnt' B:=⟨h.fl.mono d i,h.man,h.full,h.tb,h.only,h.okw,h.okB,h.mem⟩
theorem PInv.wlen(h:PInv st σ c s φ u cnt B):st.w.length<=B.length:=q4o h.okw.sort h.okB.sort fun x d=>(h.mem x).2 (.inl d)
theorem PInv.tlen(h:PInv st σ c s φ u cnt B)(he:st.t n=some e):e.L.length<=B.length:=q4o (h.tb n e he).2.2.2.1.sort h.okB.sort fun x d=>(h.mem x).2 (.inr ⟨n,e,he,d⟩)
theorem PInv.wl(h:PInv st σ c s φ u cnt B)(he:st.t n=some e):Wl σ n e.L:=h.fl.wl (h.tb n e he).2.1
theorem PInv.add(h:PInv st σ c s φ u cnt B){x:En}(i:q3f x=true)(j:B.length<50000):PInv {st with w:=q3o x st.w} σ c s φ u cnt (q3o x B):=by
 have m:=h.wlen;refine⟨h.fl,h.man,h.full,h.tb,h.only,h.okw.add i (by omega),h.okB.add i j,fun y=>?_⟩;show y∈q3o x B↔y∈q3o x st.w\/_;rw[mem_addE,mem_addE,h.mem y]
 constructor
 ·rintro(d|d|d)
  ·exact .inl (.inl d)
  ·exact .inl (.inr d)
  ·exact .inr d
 ·rintro((d|d)|d)
  ·exact .inl d
  ·exact .inr (.inl d)
  ·exact .inr (.inr d)
theorem z1U(h:PInv st σ c s φ u cnt B)(x a b:Int): ∀(ns:List Int) (acc:List (List En)) (k0:Nat),(∀n∈ns,n∈st.m.L.flatten)->
  ∃k,q3n st x (max a 0) (min b 1073741824) (tellN k0 σ) ns acc=(acc++ns.map (fun n=>q0u (TL st n) x (max a 0) (min b 1073741824)),0,tellN k σ)
 |[],acc,k0,_=>⟨k0,by rw[q3n];simp⟩
 | n::ns,acc,k0,hn=>by
  obtain⟨e,he⟩:=h.full n (hn n (by simp));have d:=h.tb n e he;obtain⟨k,_,_,i⟩:=z7T ((h.wl he).tellN k0) d.2.2.2.1.sort d.2.2.2.1.ok d.2.2.2.2 x (max a 0) (min b 1073741824);rw[show max (max a 0) 0=max a 0 by omega,show min (min b 1073741824) 1073741824=min b 1073741824 by omega,q3Y] at i;obtain⟨q,j⟩:=z1U h x a b ns (acc++[q0u e.L x (max a 0) (min b 1073741824)]) (k0+k) (fun y o=>hn y (by simp[o]));refine⟨q,?_⟩;rw[q3n,he];simp only;rw[i];simp only;rw[κ (fun h=>h rfl),j,List.map_cons,q3N he,List.append_assoc]
  rfl
theorem mem_range{L:List En}{x a b:Int}{y:En}:y∈q0u L x a b↔y∈L/\y.1=x/\a<=y.2.1/\y.2.1<=b:=by
 unfold q0u;rw[List.mem_filter];simp only[Ξ,Φ]
 constructor
 ·rintro⟨d,⟨i,j⟩,m⟩;exact⟨d,i,j,m⟩
 ·rintro⟨d,i,j,m⟩;exact⟨d,⟨i,j⟩,m⟩
theorem q4x{L:List En}(h:q1E L)(x a b:Int):q1E (q0u L x a b):=h.filter _
theorem y1U(h:PInv st σ c s φ u cnt B)(n:Int):q1E (TL st n)/\(∀x∈TL st n,q3f x=true)/\(TL st n).length<=B.length:=by
 unfold TL
 cases he:st.t n with
 |none=>exact⟨List.Pairwise.nil,fun x d=>by simp at d,υ _⟩
 |some e=>exact⟨(h.tb n e he).2.2.2.1.sort,(h.tb n e he).2.2.2.1.ok,h.tlen he⟩
theorem z8t{L:List (List En)}(h: ∀l∈L,l.length<=k):L.flatten.length<=L.length*k:=by
 induction L with
 |nil=>simp
 | cons a r ih=>
  rw[List.flatten_cons,θ,χ,Nat.add_mul];have i:=h a (by simp);have j:=ih fun l d=>h l (by simp[d])
  omega
theorem PInv.rangeIs(h:PInv st σ c s φ u cnt B)(x a b:Int): ∃k R,q3n st x (max a 0) (min b 1073741824) σ st.m.L.flatten [q0u st.w x (max a 0) (min b 1073741824)]=(R,0,tellN k σ)/\(∀L∈R,q1E L)/\R.flatten.length<=41*B.length/\q2s R=q0u B x (max a 0) (min b 1073741824):=by
 obtain⟨k,e⟩:=z1U h x a b st.m.L.flatten [q0u st.w x (max a 0) (min b 1073741824)] 0 (fun n o=>o);have r: ∀L∈[q0u st.w x (max a 0) (min b 1073741824)]++st.m.L.flatten.map (fun n=>q0u (TL st n) x (max a 0) (min b 1073741824)),q1E L/\L.length<=B.length:=fun L d=>by
  rcases List.mem_append.1 d with d|d
  ·rw[List.mem_singleton.1 d]
   exact⟨q4x h.okw.sort _ _ _,Ω (List.length_filter_le _ _) h.wlen⟩
  ·obtain⟨n,o,rfl⟩:=List.mem_map.1 d
   have:=y1U h n;exact⟨q4x this.1 _ _ _,Ω (List.length_filter_le _ _) this.2.2⟩
 refine⟨k,_,e,fun L d=>(r L d).1,?_,?_⟩
 ·have j:=z8t fun l G=>(r l G).2
  rw[θ,List.length_map] at j;have q:=(Man.bounds h.man).2.1;simp only[χ,List.length_nil] at j;have:(0+1+st.m.L.flatten.length)*B.length<=41*B.length:=Nat.mul_le_mul_right _ (by omega);omega
 ·refine q6b (q5D _) (q4x h.okB.sort _ _ _) fun y=>?_
  rw[mem_union,mem_range,h.mem y]
  constructor
  ·rintro⟨L,d,i⟩
   rcases List.mem_append.1 d with d|d
   ·rw[List.mem_singleton.1 d,mem_range] at i
    exact⟨.inl i.1,i.2⟩
   ·obtain⟨n,o,rfl⟩:=List.mem_map.1 d
    rw[mem_range] at i;obtain⟨e,he⟩:=h.full n o;rw[q3N he] at i;exact⟨.inr ⟨n,e,he,i.1⟩,i.2⟩
  ·rintro⟨j|⟨n,e,he,j⟩,q⟩
   ·exact⟨_,List.mem_append.2 (.inl (List.mem_singleton.2 rfl)),mem_range.2 ⟨j,q⟩⟩
   ·exact⟨_,List.mem_append.2 (.inr (List.mem_map.2 ⟨n,(h.tb n e he).1,rfl⟩)),mem_range.2 ⟨by rw[q3N he];exact j,q⟩⟩
end
theorem z3r{c i:UInt8}(hc:q2D c=true)(j:q2D i=true){m:Int}(q:0<=n/\n<=999999)(hm:0<=m/\m<=999999)(h:q0C c n=q0C i m):c=i/\n=m:=by
 have d:=q1h hc q;rw[h,q1h j hm] at d;injection d with d o;injection o with o _;exact⟨d.symm,by omega⟩
theorem y0x :q2D 116=true:=by decide
theorem y3l :q2D 98=true:=by decide
theorem y3O :q2D 99=true:=by decide
theorem q2h(d:k<=999999):q0C 99 (k:Int)≠mapN/\q0C 99 (k:Int)≠z2X:=by
 rw[q0U (by omega)];exact⟨fun e=>absurd (List.cons.inj e).1 (by decide),fun e=>absurd (List.cons.inj e).1 (by decide)⟩
theorem z3s{c:UInt8}(hc:c=116\/c=98)(d:0<=n/\n<=999999):q0C c n≠mapN/\q0C c n≠z2X:=by
 rw[q0U d];rcases hc with rfl|rfl
 ·exact⟨fun e=>absurd (List.cons.inj e).1 (by decide),fun e=>absurd (List.cons.inj e).1 (by decide)⟩
 ·exact⟨fun e=>absurd (List.cons.inj e).1 (by decide),fun e=>absurd (List.cons.inj e).1 (by decide)⟩
section
variable {st :IxSt}{σ σ':DM}{c s:Int}{φ:Fls}{u cnt:Nat}{B:List En}
theorem PInv.noNew(h:PInv st σ c s φ u cnt B):φ z2X=none:=by
 cases he:φ z2X with
 |none=>rfl
 | some y=>
  exfalso
  rcases h.only z2X (by rw[he];simp) with e|⟨m,hm,e|e⟩|⟨k,d,e⟩
  ·exact z5H e
  ·have i:=h.range hm
   exact(z3s (.inl rfl) (show 0<=m/\m<=999999 by omega)).2 e.symm
  ·have i:=h.range hm
   exact(z3s (.inr rfl) (show 0<=m/\m<=999999 by omega)).2 e.symm
  ·exact(q2h d).2 e.symm
end
section
variable {st :IxSt}{σ σ':DM}{c s:Int}{φ:Fls}{u cnt:Nat}{B:List En}
theorem PInv.unionLe(h:PInv st σ c s φ u cnt B)(ns:List Int):okM (q2s (ns.map (TL st)))/\(q2s (ns.map (TL st))).length<=B.length/\ ∀x∈q2s (ns.map (TL st)),x∈B:=by
 have hm: ∀x∈q2s (ns.map (TL st)),x∈B:=fun x i=>by
  obtain⟨L,j,d⟩:=mem_union.1 i;obtain⟨n,o,rfl⟩:=List.mem_map.1 j;unfold TL at d
  cases he:st.t n with
  |none=>rw[he] at d;simp at d
  |some e=>rw[he] at d;exact(h.mem x).2 (.inr ⟨n,e,he,d⟩)
 have m:=q4o (q5D (ns.map (TL st))) h.okB.sort hm;exact⟨⟨q5D _,fun x i=>h.okB.ok x (hm x i),by have:=h.okB.len;omega⟩,m,hm⟩
def z3H(B:List En)(x u r:Int):Prop:=(∀y∈B,y.1=x->y.2.1<=u->y.2.1<=r)/\((r= -1)\/ ∃y∈B,y.1=x/\y.2.1<=u/\y.2.1=r)
theorem q7E{L:List En}(N:q1E L)(x u:Int):z3H L x u (z5h L x u):=by
 unfold z5h q3H
 cases hl:(L.filter (inE x u)).getLast? with
 | none=>
  have:=List.getLast?_eq_none_iff.1 hl;refine⟨fun y I m o=>?_,.inl rfl⟩;have:y∈L.filter (inE x u):=List.mem_filter.2 ⟨I,by unfold inE;simp[m,o]⟩;rw[List.getLast?_eq_none_iff.1 hl] at this
  cases this
 | some e=>
  have G:=List.mem_of_getLast? hl;obtain⟨O,j⟩:=List.mem_filter.1 G;unfold inE at j;simp only[Ξ,Φ] at j;refine⟨fun y I m o=>?_,.inr ⟨e,O,j.1,j.2,rfl⟩⟩;have i:y∈L.filter (inE x u):=List.mem_filter.2 ⟨I,by unfold inE;simp[m,o]⟩;have d:q1E (L.filter (inE x u)):=N.filter _;obtain⟨l,r⟩:=List.getLast?_eq_some_iff.1 hl;rw[r] at i d;rcases List.mem_append.1 i with q|q
  ·have J:=(List.pairwise_append.1 d).2.2 y q e (by simp)
   rw[lessE_iff] at J;show y.2.1<=e.2.1;omega
  ·rw[List.mem_singleton.1 q];exact Int.le_refl _
end
structure To where
 s:List UInt8
 v:Int
 e:Ev
def to0 :To:=⟨[],0,ev0⟩
def q8v(s:List UInt8):Nat->List Ev->List To
 |_,[]=>[]
 |i,e::r=>⟨s,(i:Int),e⟩::q8v s (i+1) r
def y3Y(b:Bt):List To:=q8v b.st b.fi b.ev
def tos(bs:List Bt):List To:=(bs.map y3Y).flatten
def q0N(bs:List Bt)(s:List UInt8):List Ev:=((bs.filter fun b=>decide (b.st=s)).map Bt.ev).flatten
def q5Y(bs:List Bt)(s:List UInt8):List To:=q8v s 0 (q0N bs s)
def okBs(bs:List Bt):Prop:= ∀l b r,bs=l++b::r->z5g b/\b.fi=(q0N l b.st).length
theorem z0J{P:List α->Prop}(h0:P [])(h1: ∀l a,P l->P (l++[a]))(l:List α):P l:=by
 have h : ∀n,∀l:List α,l.length=n->P l:=fun n=>by
  induction n with
  |zero=>intro l hl;rw[List.length_eq_zero_iff.1 hl];exact h0
  | succ n ih=>
   intro l hl;rcases List.eq_nil_or_concat l with e|⟨m,a,e⟩
   ·rw[e] at hl;simp at hl
   ·rw[List.concat_eq_append] at e
    subst e;exact h1 m a (ih m (by simpa using hl))
 exact h _ l rfl
theorem q2K(s:List UInt8): ∀(L:List Ev) (i:Nat),(q8v s i L).length=L.length
 |[],_=>rfl
 |e::r,i=>by rw[q8v,χ,q2K s r,χ]
theorem q7x(s:List UInt8): ∀(a b:List Ev) (i:Nat),q8v s i (a++b)=q8v s i a++q8v s (i+a.length) b
 |[],b,i=>rfl
 | e::r,b,i=>by
  rw[List.cons_append,q8v,q7x s r b,q8v,List.cons_append,χ]
  congr 3;omega
theorem numT_mem{s:List UInt8}{t:To}: ∀{L:List Ev} {i:Nat},t∈q8v s i L↔ ∃k,k<L.length/\t=⟨s,((i+k:Nat):Int),L.getD k ev0⟩
 |[],i=>by simp[q8v]
 | e ::r,i=>by
  rw[q8v,List.mem_cons,numT_mem]
  constructor
  ·rintro(h|⟨k,j,d⟩)
   ·exact⟨0,by simp,by rw[h];rfl⟩
   ·exact⟨k+1,by simpa using j,by rw[d,List.getD_cons_succ];congr 2;omega⟩
  ·rintro⟨k,j,d⟩
   cases k with
   |zero=>exact .inl d
   |succ k=>exact .inr ⟨k,by simpa using j,by rw[d,List.getD_cons_succ];congr 2;omega⟩
theorem q7y(s:List UInt8): ∀(L:List Ev) (i k:Nat),k<L.length->(q8v s i L).getD k to0=⟨s,((i+k:Nat):Int),L.getD k ev0⟩
 |[],i,k,h=>by simp at h
 |e::r,i,0,_=>rfl
 | e::r,i,k+1,h=>by
  rw[q8v,List.getD_cons_succ,q7y s r _ k (by simpa using h),List.getD_cons_succ]
  congr 2;omega
theorem q6X(s:List UInt8)(a b:Int): ∀(L:List Ev) (i:Nat),(q8v s i L).filter (fun t=>decide (a<=t.v/\t.v<=b))=((q8v s i L).drop (a-(i:Int)).toNat).take ((b+1-(i:Int)).toNat-(a-(i:Int)).toNat)
 |[],i=>by simp[q8v]
 | e ::r,i=>by
  have d:=q6X s a b r (i+1);rw[q8v];by_cases o:a<=(i:Int)
  ·have j:(a-(i:Int)).toNat=0:=by omega
   have m:(a-((i+1:Nat):Int)).toNat=0:=by omega
   rw[j,List.drop_zero,Nat.sub_zero];rw[m,List.drop_zero,Nat.sub_zero] at d;by_cases q:(i:Int)<=b
   ·rw[List.filter_cons_of_pos (by simp;omega),d,show(b+1-(i:Int)).toNat=(b+1-((i+1:Nat):Int)).toNat+1 by omega,List.take_succ_cons]
   ·rw[List.filter_cons_of_neg (by simp;omega),d,show(b+1-(i:Int)).toNat=0 by omega,show(b+1-((i+1:Nat):Int)).toNat=0 by omega,List.take_zero,List.take_zero]
  ·have j:(a-(i:Int)).toNat=(a-((i+1:Nat):Int)).toNat+1:=by omega
   rw[List.filter_cons_of_neg (by simp;omega),d,j,List.drop_succ_cons]
   congr 1
   omega
theorem z7E(s:List UInt8): ∀(L:List Ev) (i:Nat),(q8v s i L).Pairwise fun x y=>x.v<y.v
 |[],_=>List.Pairwise.nil
 | e ::r,i=>List.pairwise_cons.2 ⟨fun t d=>by
   obtain⟨k,_,rfl⟩:=numT_mem.1 d
   simp only;omega,z7E s r _⟩
theorem q5C(a b:List Bt):tos (a++b)=tos a++tos b:=by unfold tos;rw[List.map_append,List.flatten_append]
theorem z0Q(b:Bt):tos [b]=y3Y b:=by unfold tos;simp
theorem q4Q(b:Bt):(y3Y b).length=b.ev.length:=q2K _ _ _
theorem q3K(bs:List Bt)(b:Bt)(s:List UInt8):q0N (bs++[b]) s=if b.st=s then q0N bs s++b.ev else q0N bs s:=by
 unfold q0N;rw[List.filter_append,List.map_append,List.flatten_append]
 split
 ·rename_i h;rw[List.filter_cons_of_pos (by simpa using h)];simp
 ·rename_i h;rw[List.filter_cons_of_neg (by simpa using h)];simp
theorem okBs.nil :okBs []:=fun l b r h=>by simp at h
theorem okBs_snoc{b:Bt}:okBs (bs++[b])↔okBs bs/\z5g b/\b.fi=(q0N bs b.st).length:=by
 constructor
 ·intro h
  exact⟨fun l c r e=>h l c (r++[b]) (by rw[e];simp),h bs b [] rfl⟩
 ·rintro⟨q,y⟩ l c r e
  rcases List.eq_nil_or_concat r with i|⟨o,d,i⟩
  ·subst i
   obtain⟨j,m⟩:=List.append_inj' e rfl;rw[<-j];injection m with m;subst m;exact y
  ·rw[List.concat_eq_append] at i
   subst i;have e':bs++[b]=(l++c::o)++[d]:=by rw[e];simp
   obtain⟨j,_⟩:=List.append_inj' e' rfl;exact q l c o j
theorem z2s(h:okBs bs)(s:List UInt8):(tos bs).filter (fun t=>decide (t.s=s))=q5Y bs s:=by
 revert h
 induction bs using z0J with
 |h0=>intro _;rfl
 | h1 l b ih=>
  intro h;obtain⟨h1,m,j⟩:=okBs_snoc.1 h;unfold q5Y;rw[q5C,List.filter_append,ih h1,z0Q,q3K];by_cases d:b.st=s
  ·rw [ξ d,q7x,Nat.zero_add,<-d,<-j,List.filter_eq_self.2]
   ·rfl
   ·intro t i
    obtain⟨k,_,rfl⟩:=numT_mem.1 i;simp
  ·rw [κ d,List.filter_eq_nil_iff.2,List.append_nil]
   ·rfl
   ·intro t i
    obtain⟨k,_,rfl⟩:=numT_mem.1 i
    simpa using d
theorem y0z{t:To}:t∈tos bs↔ ∃b∈bs,∃k,k<b.ev.length/\t=⟨b.st,((b.fi+k:Nat):Int),b.ev.getD k ev0⟩:=by
 unfold tos;rw[List.mem_flatten]
 constructor
 ·rintro⟨l,j,m⟩
  obtain⟨b,d,rfl⟩:=List.mem_map.1 j;exact⟨b,d,numT_mem.1 m⟩
 ·rintro⟨b,d,i⟩
  exact⟨_,List.mem_map.2 ⟨b,d,rfl⟩,numT_mem.2 i⟩
theorem okBs.each(h:okBs bs){b:Bt}(d:b∈bs):z5g b:=by
 obtain⟨l,r,rfl⟩:=List.append_of_mem d;exact(h l b r rfl).1
theorem q6i(a b:List Bt)(s:List UInt8):q0N (a++b) s=q0N a s++q0N b s:=by
 unfold q0N;rw[List.filter_append,List.map_append,List.flatten_append]
theorem okBs.apart{l m r:List Bt}{b c:Bt}(h:okBs (l++b::m++c::r))(j:b.st=c.st):b.fi+b.ev.length<=c.fi:=by
 have d:=h l b (m++c::r) (by simp);have i:=h (l++b::m) c r (by simp);rw[i.2,d.2,q6i,θ,show b::m=[b]++m from rfl,q6i,θ,<-j];have:(q0N [b] b.st).length=b.ev.length:=by unfold q0N;simp
 omega
theorem y2i{l m:List To}(I:l.Pairwise fun x y=>x.v<y.v)(hm:m.Pairwise fun x y=>x.v<y.v)(h: ∀t,t∈l↔t∈m):l=m:=by
 induction l generalizing m with
 | nil=>
  cases m with
  |nil=>rfl
  |cons y m=>exact absurd ((h y).2 (.head _)) (by simp)
 | cons x l ih=>
  cases m with
  |nil=>exact absurd ((h x).1 (.head _)) (by simp)
  | cons y m=>
   obtain⟨o,r⟩:=List.pairwise_cons.1 I;obtain⟨q,G⟩:=List.pairwise_cons.1 hm;have j:x=y:=by
    rcases List.mem_cons.1 ((h x).1 (.head _)) with e|J
    ·exact e
    rcases List.mem_cons.1 ((h y).2 (.head _)) with e|N
    ·exact e.symm
    have a:=o y N;have b:=q x J;omega
   subst j;rw[ih r G fun t=>?_]
   constructor
   ·intro i
    rcases List.mem_cons.1 ((h t).1 (.tail _ i)) with e|d
    ·have:=o t i;rw[e] at this;omega
    ·exact d
   ·intro i
    rcases List.mem_cons.1 ((h t).2 (.tail _ i)) with e|d
    ·have:=q t i;rw[e] at this;omega
    ·exact d
abbrev Pbs :=List (Nat×Bt)
def z2l(P:Pbs):List (Nat×List UInt8):=P.map fun x=>(x.1,btB x.2)
def q3Z(sd:Int)(P:Pbs):List En:=(P.map fun x=>q0i sd x.1 x.2 x.2.ev.length).flatten
def q1f(P:Pbs):List Bt:=P.map Prod.snd
def q2V(P:Pbs)(s:List UInt8)(x:En):Option To:=
 match P.find? (fun y=>decide ((y.1:Int)=x.2.2)) with
 |none=>none
 |some y=>if y.2.st=s/\(y.2.fi:Int)<=x.2.1/\x.2.1<(y.2.fi:Int)+(y.2.ev.length:Int) then some ⟨s,x.2.1,y.2.ev.getD (x.2.1-(y.2.fi:Int)).toNat ev0⟩ else none
structure StI(sd:Int)(B:List En)(P:Pbs):Prop where
 ok:okBs (q1f P)
 pos:P.Pairwise fun a b=>a.1<b.1
 ents: ∀x,x∈B↔x∈q3Z sd P
theorem z1Z(sd:Int): ∀{P:Pbs},(∀y∈P,z5g y.2)->z1o sd (z2l P)=some (q3Z sd P)
 |[],_=>rfl
 | y::P,h=>by
  have d:=z1Z sd (P:=P) fun z j=>h z (.tail _ j)
  have i:=z6k y.2 (h y (.head _));unfold z2l at d⊢;rw[List.map_cons,z1o,i,Option.bind_some,d]
  rfl
theorem mem_entsP{sd:Int}{P:Pbs}{x:En}:x∈q3Z sd P↔ ∃y∈P,∃k,k<y.2.ev.length/\x=q2n sd y.1 y.2 k:=by
 unfold q3Z;rw[List.mem_flatten]
 constructor
 ·rintro⟨l,m,j⟩
  obtain⟨y,i,rfl⟩:=List.mem_map.1 m;unfold q0i at j;obtain⟨k,d,rfl⟩:=List.mem_map.1 j;exact⟨y,i,k,List.mem_range.1 d,rfl⟩
 ·rintro⟨y,i,k,d,rfl⟩
  exact⟨_,List.mem_map.2 ⟨y,i,rfl⟩,by unfold q0i;exact List.mem_map.2 ⟨k,List.mem_range.2 d,rfl⟩⟩
theorem q7D : ∀{P:Pbs},P.Pairwise (fun a b=>a.1<b.1)-> ∀{y:Nat×Bt},y∈P->P.find? (fun z=>decide ((z.1:Int)=(y.1:Int)))=some y
 |[],_,y,h=>by cases h
 | z ::P,hp,y,h=>by
  obtain⟨d,i⟩:=List.pairwise_cons.1 hp;rcases List.mem_cons.1 h with rfl|h
  ·rw[List.find?_cons_of_pos (by simp)]
  ·rw[List.find?_cons_of_neg (by have:=d y h;simp;omega)]
   exact q7D i h
section
variable {sd :Int}{B:List En}{P:Pbs}
theorem q5r(h:P.Pairwise fun a b=>a.1<b.1){y:Nat×Bt}(i:y∈P)(j:k<y.2.ev.length)(s:List UInt8):q2V P s (q2n sd y.1 y.2 k)=if y.2.st=s then some ⟨s,((y.2.fi+k:Nat):Int),y.2.ev.getD k ev0⟩ else none:=by
 unfold q2V q2n;simp only;rw[q7D h i];simp only;by_cases d:y.2.st=s
 ·rw[ξ d,ξ ⟨d,by omega,by omega⟩,show((y.2.fi:Int)+(k:Int)-(y.2.fi:Int)).toNat=k by omega]
  congr 1
 ·rw[κ d,κ fun h=>d h.1]
theorem StI.found(h:StI sd B P){s:List UInt8}{x:En}(I:x∈B){t:To}:q2V P s x=some t↔ ∃y∈P,∃k,k<y.2.ev.length/\x=q2n sd y.1 y.2 k/\y.2.st=s/\t=⟨s,((y.2.fi+k:Nat):Int),y.2.ev.getD k ev0⟩:=by
 obtain⟨y,o,k,i,rfl⟩:=mem_entsP.1 ((h.ents x).1 I);rw[q5r h.pos o i]
 constructor
 ·intro d
  split at d
  ·rename_i m
   injection d with d;exact⟨y,o,k,i,rfl,m,d.symm⟩
  ·cases d
 ·rintro⟨z,J,j,G,he,m,rfl⟩
  have r:=q5r (sd:=sd) h.pos o i s;have q:=q5r (sd:=sd) h.pos J G s;rw[<-he,r,ξ m] at q;exact q
theorem StI.mem_str(h:StI sd B P){s:List UInt8}{t:To}:t∈q5Y (q1f P) s↔ ∃y∈P,∃k,k<y.2.ev.length/\y.2.st=s/\t=⟨s,((y.2.fi+k:Nat):Int),y.2.ev.getD k ev0⟩:=by
 rw[<-z2s h.ok,List.mem_filter,y0z]
 constructor
 ·rintro⟨⟨b,m,k,i,rfl⟩,d⟩
  obtain⟨y,j,rfl⟩:=List.mem_map.1 m;simp only[Φ] at d;exact⟨y,j,k,i,d,by rw[d]⟩
 ·rintro⟨y,j,k,i,d,rfl⟩
  exact⟨⟨y.2,List.mem_map.2 ⟨y,j,rfl⟩,k,i,by rw[d]⟩,by simp⟩
theorem StI.between(h:StI sd B P)(hB:q1E B)(s:List UInt8)(a b:Int):(q0u B (q2g sd s) a b).filterMap (q2V P s)=(q5Y (q1f P) s).filter fun t=>decide (a<=t.v/\t.v<=b):=by
 refine y2i ?_ ((z7E _ _ _).filter _) fun t=>?_
 ·rw [List.pairwise_filterMap]
  refine List.Pairwise.imp_of_mem ?_ (q4x hB (q2g sd s) a b);intro x y O Q d t ht u hu;obtain⟨I,a0,J,N⟩:=mem_range.1 O;obtain⟨b0,c0,d0,e0⟩:=mem_range.1 Q;obtain⟨p,hp,i,hi,rfl,R,rfl⟩:=(h.found I).1 ht;obtain⟨q,hq,j,hj,rfl,S,rfl⟩:=(h.found b0).1 hu;rw[lessE_iff] at d;unfold q2n at d;simp only at d⊢;rw[R,S] at d;rcases d with d|⟨_,d|⟨he,Z⟩⟩
  ·omega
  ·omega
  ·exfalso
   obtain⟨l,r,hl⟩:=List.append_of_mem hp;have o:=h.ok;have G:=h.pos;rw[hl] at o G hq;rcases List.mem_append.1 hq with hq|hq
   ·have:=(List.pairwise_append.1 G).2.2 q hq p (.head _)
    omega
   ·rcases List.mem_cons.1 hq with hq|hq
    ·rw[hq] at Z;omega
    ·obtain⟨m,r2,hm⟩:=List.append_of_mem hq
     rw[hm] at o;unfold q1f at o;rw[List.map_append,List.map_cons,List.map_append,List.map_cons] at o;have:=okBs.apart (l:=l.map Prod.snd) (b:=p.2) (m:=m.map Prod.snd) (c:=q.2) (r:=r2.map Prod.snd) (by rw[List.append_assoc,List.cons_append];exact o) (by rw[R,S]);omega
 ·rw [List.mem_filterMap,List.mem_filter,h.mem_str,Φ]
  constructor
  ·rintro⟨x,O,ht⟩
   obtain⟨I,a0,J,N⟩:=mem_range.1 O;obtain⟨y,Q,k,U,rfl,X,rfl⟩:=(h.found I).1 ht;unfold q2n at J N;simp only at J N⊢;exact⟨⟨y,Q,k,U,X,rfl⟩,by omega,by omega⟩
  ·rintro⟨⟨y,Q,k,U,X,rfl⟩,h1,h2⟩
   simp only at h1 h2;have O:q2n sd y.1 y.2 k∈B:=(h.ents _).2 (mem_entsP.2 ⟨y,Q,k,U,rfl⟩);refine⟨q2n sd y.1 y.2 k,mem_range.2 ⟨O,?_,?_,?_⟩,(h.found O).2 ⟨y,Q,k,U,rfl,X,rfl⟩⟩
   ·unfold q2n;simp only;rw[X]
   ·unfold q2n;simp only;omega
   ·unfold q2n;simp only;omega
theorem q2N(bs:List Bt)(s:List UInt8):(q5Y bs s).length=(q0N bs s).length:=q2K _ _ _
theorem StI.has(h:StI sd B P){s:List UInt8}{v:Nat}(m:v<(q0N (q1f P) s).length): ∃x∈B,x.1=q2g sd s/\x.2.1=(v:Int):=by
 have j:(⟨s,((0+v:Nat):Int),(q0N (q1f P) s).getD v ev0⟩:To)∈q5Y (q1f P) s:=numT_mem.2 ⟨v,m,rfl⟩;obtain⟨y,o,k,d,i,he⟩:=h.mem_str.1 j;injection he with _ he _;refine⟨q2n sd y.1 y.2 k,(h.ents _).2 (mem_entsP.2 ⟨y,o,k,d,rfl⟩),?_,?_⟩
 ·unfold q2n;simp only;rw[i]
 ·unfold q2n;simp only;omega
theorem StI.last(h:StI sd B P)(J:okM B){s:List UInt8}{u r:Int}(Z:((q0N (q1f P) s).length:Int)-1<=u)(j:z3H B (q2g sd s) u r):
  ((q0N (q1f P) s).length:Int)-1<=r/\ -1<=r/\(r<0->q0N (q1f P) s=[])/\(0<=r->(q5Y (q1f P) s).filter (fun t=>decide (r<=t.v/\t.v<=r))=[]->((q0N (q1f P) s).length:Int)-1<=r-1)/\
   ((q5Y (q1f P) s).filter (fun t=>decide (r<=t.v/\t.v<=r))≠[]->((q0N (q1f P) s).length:Int)-1=r):=by
 have o: -1<=r:=by
  rcases j.2 with e|⟨y,S,_,_,e⟩
  ·omega
  ·have:=okEn_iff.1 (J.ok y S);omega
 have q:((q0N (q1f P) s).length:Int)-1<=r:=by
  rcases Nat.eq_zero_or_pos (q0N (q1f P) s).length with e|e
  ·omega
  ·obtain⟨x,R,m,U⟩:=h.has (s:=s) (v:=(q0N (q1f P) s).length-1) (by omega)
   have:=j.1 x R m (by omega);omega
 refine⟨q,o,fun Q=>?_,fun Q he=>?_,fun d=>?_⟩
 ·exact List.length_eq_zero_iff.1 (by omega)
 ·rcases Int.lt_or_le (((q0N (q1f P) s).length:Int)-1) r with O|N
  ·omega
  ·exfalso
   have i:(⟨s,((0+r.toNat:Nat):Int),(q0N (q1f P) s).getD r.toNat ev0⟩:To)∈q5Y (q1f P) s:=numT_mem.2 ⟨r.toNat,by omega,rfl⟩;have:=(List.mem_filter (p:=fun t:To=>decide (r<=t.v/\t.v<=r))).2 ⟨i,by simp;omega⟩;rw[he] at this
   cases this
 ·obtain⟨t,i⟩:=List.exists_mem_of_ne_nil _ d
  obtain⟨G,I⟩:=List.mem_filter.1 i;obtain⟨k,X,rfl⟩:=numT_mem.1 G;simp only[Φ] at I;omega
end
theorem z4s(sd:Int)(P:Pbs)(p:Nat)(b:Bt):q3Z sd (P++[(p,b)])=q3Z sd P++q0i sd p b b.ev.length:=by
 unfold q3Z;rw[List.map_append,List.flatten_append];simp
theorem q4Y(P:Pbs)(p:Nat)(b:Bt):q1f (P++[(p,b)])=q1f P++[b]:=by unfold q1f;rw[List.map_append];rfl
theorem mem_addEs{x:En}: ∀{es L:List En},x∈q1Q es L↔x∈es\/x∈L
 |[],L=>by unfold q1Q;simp
 | e ::es,L=>by
  have h:=mem_addEs (x:=x) (es:=es) (L:=q3o e L);unfold q1Q at*;rw[List.foldl_cons,h,mem_addE,List.mem_cons]
  constructor
  ·rintro(h|h|h)
   ·exact .inl (.inr h)
   ·exact .inl (.inl h)
   ·exact .inr h
  ·rintro((h|h)|h)
   ·exact .inr (.inl h)
   ·exact .inl h
   ·exact .inr (.inr h)
theorem StI.snoc{sd:Int}{B:List En}{P:Pbs}(h:StI sd B P){p:Nat}{b:Bt}(i:z5g b)(j:b.fi=(q0N (q1f P) b.st).length)(m: ∀y∈P,y.1<p):StI sd (q1Q (q0i sd p b b.ev.length) B) (P++[(p,b)]):=by
 refine⟨by rw[q4Y];exact okBs_snoc.2 ⟨h.ok,i,j⟩,?_,fun x=>?_⟩
 ·rw[List.pairwise_append]
  exact⟨h.pos,List.pairwise_singleton _ _,fun a d c hc=>by obtain rfl:=List.mem_singleton.1 hc;exact m a d⟩
 ·rw[mem_addEs,z4s,List.mem_append,h.ents]
  exact Or.comm
theorem q4c(sd:Int)(P:Pbs):(q3Z sd P).length=(tos (q1f P)).length:=by
 unfold q3Z tos q1f;rw[List.length_flatten,List.length_flatten,List.map_map,List.map_map,List.map_map]
 congr 1
 refine List.map_congr_left fun x _=>?_
 simp only[Function.comp];rw[q4E,q4Q]
theorem StI.len{sd:Int}{B:List En}{P:Pbs}(h:StI sd B P)(i:q1E B):B.length<=(tos (q1f P)).length:=by
 rw[<-q4c sd];have j:B.Nodup:=i.imp fun {a b} d e=>by rw[e,q0c] at d;cases d
 exact nodup_leB j fun x m=>(h.ents x).1 m
where nodup_leB {α:Type} [DecidableEq α]: ∀{l m:List α},l.Nodup->(∀x∈l,x∈m)->l.length<=m.length
 |[],_,_,_=>υ _
 | x::l,m,h,hm=>by
  obtain⟨h1,h2⟩:=List.nodup_cons.1 h;have hx:=hm x (.head _);have h3:=nodup_leB (m:=m.erase x) h2 fun y hy=>(List.mem_erase_of_ne (fun e:y=x=>h1 (by rw[<-e];exact hy))).2 (hm y (.tail _ hy))
  rw[List.length_erase_of_mem hx] at h3;have:=List.length_pos_of_mem hx;rw[χ];omega
def q8z(L:List To)(from_ count:Int):List To:=(L.drop from_.toNat).take count.toNat
def z1Q(L:List To)(from_ count:Int):List To:=(L.drop (from_-count+1).toNat).take ((from_+1).toNat-(from_-count+1).toNat)
theorem y1J(bs:List Bt)(s:List UInt8){c:Int}(d:0<=f)(hc:1<=c)(i:(q0N bs s).length<=1073741824):(q5Y bs s).filter (fun t=>decide (max f 0<=t.v/\t.v<=min (f+min c 1073741824-1) 1073741824))=q8z (q5Y bs s) f c:=by
 unfold q5Y q8z;rw[q6X,show(max f 0-((0:Nat):Int)).toNat=f.toNat by omega];rcases Int.lt_or_le (f+c-1) 1073741824 with h|h
 ·rw[show(min (f+min c 1073741824-1) 1073741824+1-((0:Nat):Int)).toNat-f.toNat=c.toNat by omega]
 ·rw[Δ,Δ]
  ·rw[List.length_drop,q2K];omega
  ·rw[List.length_drop,q2K];omega
theorem z7N(bs:List Bt)(s:List UInt8){c:Int}(d:0<=f)(hc:1<=c)(i:(q0N bs s).length<=1073741824):(q5Y bs s).filter (fun t=>decide (max (f-c+1) 0<=t.v/\t.v<=min f 1073741824))=z1Q (q5Y bs s) f c:=by
 unfold q5Y z1Q;rw[q6X,show(max (f-c+1) 0-((0:Nat):Int)).toNat=(f-c+1).toNat by omega];rcases Int.le_total f 1073741824 with h|h
 ·rw[show(min f 1073741824+1-((0:Nat):Int)).toNat=(f+1).toNat by omega]
 ·rw[Δ,Δ]
  ·rw[List.length_drop,q2K];omega
  ·rw[List.length_drop,q2K];omega
theorem z7M{L:List To}{c:Int}(h:(L.length:Int)<=f):q8z L f c=[]:=by
 unfold q8z;rw[List.drop_eq_nil_of_le (by omega),List.take_nil]
def y0I(φ:Fls)(C:Cks):Prop:= ∀k:Nat,k<=999999->φ (q0C 99 (k:Int))=(C[k]?).map (q0L k)
structure CksS(φ:Fls)(σ:DM)(C:Cks)(k:Int):Prop where
 i:y0I φ C
 sr:Sur σ.L C.length k
 le:k<=q2d C
def OldT(st:IxSt):Prop:= ∀n e,st.t n=some e-> ∀x∈e.L,x.2.2<st.m.ck
theorem OldT.tl{st:IxSt}(h:OldT st){x:En}(d:x∈TL st n):x.2.2<st.m.ck:=by
 unfold TL at d
 split at d
 ·rename_i e he;exact h n e he x d
 ·cases d
structure z9s(st:IxSt)(φ:Fls)(σ:DM)(C:Cks)(k:Int):Prop extends CksS φ σ C k where
 old:OldT st
def q6J(φ:Fls)(m:Man):Prop:=(φ mapN=some m.S/\0<m.nx)\/(φ mapN=none/\m.nx=0/\m.ck=0/\m.L=[])
def z9R(nm:List UInt8):Prop:= ∀k:Nat,k<=999999->nm≠q0C 99 (k:Int)
theorem z7I : ∀{a b:List (List UInt8×List UInt8)},q2Q Prod.fst a->q2Q Prod.fst b->(∀z,z∈a↔z∈b)->a=b
 |[],[],_,_,_=>rfl
 |[],y::b,_,_,h=>absurd ((h y).2 (.head _)) (by simp)
 |x::a,[],_,_,h=>absurd ((h x).1 (.head _)) (by simp)
 | x ::a,y::b,ha,hb,h=>by
  obtain⟨m,q⟩:=List.pairwise_cons.1 ha;obtain⟨o,r⟩:=List.pairwise_cons.1 hb;have j:x=y:=by
   rcases List.mem_cons.1 ((h x).1 (.head _)) with e|G
   ·exact e
   rcases List.mem_cons.1 ((h y).2 (.head _)) with e|I
   ·exact e.symm
   have:=WideShapes.bytes_trans _ _ _ (m y I) (o x G);rw[WideAt.bytes_irrefl] at this;cases this
  subst j;rw[z7I q r fun z=>?_]
  constructor
  ·intro i
   rcases List.mem_cons.1 ((h z).1 (.tail _ i)) with e|d
   ·have:=m z i;rw[e,WideAt.bytes_irrefl] at this;cases this
   ·exact d
  ·intro i
   rcases List.mem_cons.1 ((h z).2 (.tail _ i)) with e|d
   ·have:=o z i;rw[e,WideAt.bytes_irrefl] at this;cases this
   ·exact d
theorem z3q{l:List (List UInt8×List UInt8)}(h:q2Q Prod.fst l)(z:List UInt8×List UInt8):z∈l↔(q0F Prod.fst z.1 l).map Prod.snd=some z.2:=by
 constructor
 ·intro d;rw[q3F h d rfl];rfl
 ·intro d
  cases hf:q0F Prod.fst z.1 l with
  |none=>rw[hf] at d;cases d
  | some y=>
   rw[hf] at d;injection d with d;obtain⟨i,j⟩:=q0J hf;have:y=z:=Prod.ext j d
   rwa [this] at i
theorem q9z{a b:List (List UInt8×List UInt8)}(d:q2Q Prod.fst a)(i:q2Q Prod.fst b)(h: ∀nm,(q0F Prod.fst nm a).map Prod.snd=(q0F Prod.fst nm b).map Prod.snd):a=b:=
 z7I d i fun z=>by rw[z3q d,z3q i,h]
theorem q5x{r:α->α->Prop}{p:α->Bool}(j: ∀x y,r x y->p y=true->p x=true): ∀{l:List α},l.Pairwise r->l=l.filter p++l.filter (fun y=>!p y)
 |[],_=>rfl
 | x :: l,h=>by
  obtain⟨m,o⟩:=List.pairwise_cons.1 h
  cases hx:p x with
  | true=>
   rw[List.filter_cons_of_pos hx,List.filter_cons_of_neg (by simp[hx]),List.cons_append,<-q5x j o]
  | false=>
   have i: ∀y∈l,p y=false:=fun y d=>by
    cases hy2:p y with
    |false=>rfl
    |true=>rw[j x y (m y d) hy2] at hx;cases hx
   rw [List.filter_cons_of_neg (by simp[hx]),List.filter_cons_of_pos (by simp[hx]),List.filter_eq_nil_iff.2 fun y d=>by simp[i y d],List.nil_append,
    List.filter_eq_self.2 fun y d=>by simp[i y d]]
theorem q4v{α:Type}[DecidableEq α]: ∀{l m:List α},l.Nodup->(∀x∈l,x∈m)->l.length<=m.length
 |[],_,_,_=>υ _
 | x::l,m,h,hm=>by
  obtain⟨j,o⟩:=List.nodup_cons.1 h;have d:=hm x (.head _);have q:=q4v (m:=m.erase x) o fun y i=>(List.mem_erase_of_ne (fun e:y=x=>j (by rw[<-e];exact i))).2 (hm y (.tail _ i))
  rw[List.length_erase_of_mem d] at q;have:=List.length_pos_of_mem d;rw[χ];omega
theorem q2j(i:k<=999999):bytesBefore [99] (q0C 99 (k:Int))=true/\bytesBefore (q0C 99 (k:Int)) [100]=true/\bytesBefore (q0C 99 (k:Int)) [99]=false:=by
 rw[q0U (by omega)];have d:=q0Y 6 ((k:Int)).toNat
 cases hd:q5M 6 ((k:Int)).toNat with
 |nil=>rw[hd] at d;cases d
 |cons a r=>exact⟨by simp[bytesBefore],by simp[bytesBefore],by simp[bytesBefore]⟩
theorem q5g(d:0<=n/\n<=999999):bytesBefore (q0C 98 n) [99]=true/\bytesBefore (q0C 116 n) [100]=false/\bytesBefore (q0C 116 n) [99]=false:=by
 rw[q0U d,q0U d];exact⟨by simp[bytesBefore],by simp[bytesBefore],by simp[bytesBefore]⟩
theorem before_map :bytesBefore mapN [100]=false/\bytesBefore mapN [99]=false:=by decide
section
variable {st :IxSt}{σ σ':DM}{c s:Int}{φ:Fls}{u cnt:Nat}{B:List En}{C C':Cks}{E:Oth}
theorem q9U : ∀(C:Cks) (i:Nat),i+C.length<=999999->q2Q Prod.fst (q3P i C)
 |[],_,_=>List.Pairwise.nil
 | ps::r,i,h=>by
  rw[χ] at h;refine List.pairwise_cons.2 ⟨fun y m=>?_,q9U r (i+1) (by omega)⟩;obtain⟨j,o,q,d⟩:=q2k m;rw[d];exact q4Z (by omega) (by omega) (by omega)
theorem q9T{C:Cks}(d:C.length<=200)(i:k<=999999):(q0F Prod.fst (q0C 99 (k:Int)) (q3P 0 C)).map Prod.snd=(C[k]?).map (q0L k):=by
 rcases Nat.lt_or_ge k C.length with h|h
 ·rw[q7S d (γ h),γ h];rfl
 ·rw[z0j d h i,List.getElem?_eq_none h];rfl
theorem q8D{k0:Int}(h:PInv st σ c s φ u cnt B)(b0:CksS φ σ C k0)(hC:okC C):
  ∃E,Lgd E σ (c-(q1V E:Int)) s C k0/\(∀nm,z9R nm->(q0F Prod.fst nm (E.X++E.Z)).map Prod.snd=φ nm)/\q1V E+q0j C<=u/\E.X.length+C.length+E.Z.length<=cnt:=by
 have hc:=b0.i;obtain⟨l,i0,o,N,o0,n0⟩:=h.fl;have Q: ∀y∈l,φ y.1≠none:=fun y d e=>by
  have:=N y.1;rw[q3F o d rfl,e] at this;cases this
 have U:=q5x (r:=fun x y:List UInt8×List UInt8=>bytesBefore x.1 y.1=true) (p:=fun y:List UInt8×List UInt8=>bytesBefore y.1 [99]) (fun x y h1 h2=>WideShapes.bytes_trans _ _ _ h1 h2) o;have hr:=o.filter (p:=fun y:List UInt8×List UInt8=>!bytesBefore y.1 [99]);have p2:=q5x (r:=fun x y:List UInt8×List UInt8=>bytesBefore x.1 y.1=true) (p:=fun y:List UInt8×List UInt8=>bytesBefore y.1 [100]) (fun x y h1 h2=>WideShapes.bytes_trans _ _ _ h1 h2) hr;obtain⟨X,hX⟩: ∃X,l.filter (fun y=>bytesBefore y.1 [99])=X:=⟨_,rfl⟩
 obtain⟨R,hR⟩: ∃R,l.filter (fun y=>!bytesBefore y.1 [99])=R:=⟨_,rfl⟩
 obtain⟨M,hM⟩: ∃M,R.filter (fun y=>bytesBefore y.1 [100])=M:=⟨_,rfl⟩
 obtain⟨Z,hZ⟩: ∃Z,R.filter (fun y=>!bytesBefore y.1 [100])=Z:=⟨_,rfl⟩
 rw[hX,hR] at U;rw[hR,hM,hZ] at p2;rw[p2] at U;have mX: ∀y,y∈X↔y∈l/\bytesBefore y.1 [99]=true:=fun y=>by rw[<-hX,List.mem_filter]
 have mR: ∀y,y∈R↔y∈l/\bytesBefore y.1 [99]=false:=fun y=>by rw[<-hR,List.mem_filter];simp
 have mM: ∀y,y∈M↔y∈l/\bytesBefore y.1 [99]=false/\bytesBefore y.1 [100]=true:=fun y=>by rw[<-hM,List.mem_filter,mR];simp[and_assoc]
 have mZ: ∀y,y∈Z↔y∈l/\bytesBefore y.1 [99]=false/\bytesBefore y.1 [100]=false:=fun y=>by rw[<-hZ,List.mem_filter,mR];simp[and_assoc]
 have G: ∀n∈st.m.L.flatten,0<=n/\n<=999999:=fun n I=>by have:=h.range I;omega
 have a0: ∀y,y∈X\/y∈Z->y.1=mapN\/ ∃n∈st.m.L.flatten,y.1=q0C 116 n\/y.1=q0C 98 n:=fun y d=>by
  have hl:y∈l:=d.elim (fun h=>((mX y).1 h).1) fun h=>((mZ y).1 h).1
  rcases h.only y.1 (Q y hl) with e|e|⟨k,J,e⟩
  ·exact .inl e
  ·exact .inr e
  ·exfalso
   obtain⟨_,b2,b3⟩:=q2j J;rcases d with d|d
   ·have:=((mX y).1 d).2;rw[e,b3] at this;cases this
   ·have:=((mZ y).1 d).2.2;rw[e,b2] at this;cases this
 have d0: ∀y∈M,∃k:Nat,k<=999999/\y.1=q0C 99 (k:Int):=fun y d=>by
  obtain⟨hl,q1,q2⟩:=(mM y).1 d;rcases h.only y.1 (Q y hl) with e|⟨n,I,e|e⟩|e
  ·rw[e,before_map.1] at q2;cases q2
  ·rw[e,(q5g (G n I)).2.1] at q2;cases q2
  ·rw[e,(q5g (G n I)).1] at q1;cases q1
  ·exact e
 have S:=o;rw[U] at S;obtain⟨oX,j0,_⟩:=List.pairwise_append.1 S;obtain⟨oM,oZ,_⟩:=List.pairwise_append.1 j0;have c0:M=q3P 0 C:=q9z oM (q9U C 0 (by have:=hC.few;omega)) fun nm=>by
  by_cases O: ∃k:Nat,k<=999999/\nm=q0C 99 (k:Int)
  ·obtain⟨k,J,rfl⟩:=O
   rw[q9T hC.few J,<-hc k J,<-N];obtain⟨_,b2,b3⟩:=q2j J;rw[U,q0Q fun y d e=>?_,q0v fun y d e=>?_]
   ·have:=((mZ y).1 d).2.2;rw[show y.1=q0C 99 (k:Int) from e,b2] at this;cases this
   ·have:=((mX y).1 d).2;rw[show y.1=q0C 99 (k:Int) from e,b3] at this;cases this
  ·rw [q0S fun y d e=>O (by obtain⟨k,J,e2⟩:=d0 y d;exact⟨k,J,by rw[<-e2];exact e.symm⟩),q0S fun y d e=>O (by
    obtain⟨j,h1,h2,h3⟩:=q2k d
    exact⟨j,by have:=hC.few;omega,by rw[<-h3];exact e.symm⟩)]
 rw[c0] at U;have f0:=h.noNew;have m0:q1X l=q1V ⟨X,Z⟩+q0j C:=by
  rw[U,q0d,q0d,q3p];unfold q1V;simp only;omega
 have l0:l.length=X.length+C.length+Z.length:=by rw[U];simp[q3Q];omega
 refine⟨⟨X,Z⟩,⟨?_,hC,⟨fun y d k J=>?_,fun y d k J=>?_,fun y d e=>?_,fun y d hp=>?_,fun y d=>?_,?_⟩,b0.sr,b0.le⟩,fun nm O=>?_,by omega,by simp only;omega⟩
 ·rw[show c-(q1V ⟨X,Z⟩:Int)+(q1V ⟨X,Z⟩:Int)=c by omega]
  show Pl σ c s (X++(q3P 0 C++Z));rw[<-U];exact i0
 ·exact WideShapes.bytes_trans _ _ _ ((mX y).1 d).2 (q2j J).1
 ·by_cases q:y.1=[100]
  ·rw[q];exact(q2j J).2.1
  ·rcases WideAt.bytes_total y.1 [100] q with q|q
   ·rw[((mZ y).1 d).2.2] at q;cases q
   ·exact WideShapes.bytes_trans _ _ _ (q2j J).2.1 q
 ·have hl:y∈l:=d.elim (fun h=>((mX y).1 h).1) fun h=>((mZ y).1 h).1
  exact Q y hl (by rw[e];exact f0)
 ·rcases a0 y d with e|⟨n,I,e|e⟩
  ·rw[e] at hp;exact absurd hp (by decide)
  ·rw[e,q1h y0x (G n I)];exact(by decide:(116:UInt8)≠99)
  ·rw[e,q1h y3l (G n I)];exact(by decide:(98:UInt8)≠99)
 ·rcases a0 y d with e|⟨n,I,e|e⟩
  ·rw[e];decide
  ·rw[e,q0U (G n I),χ,q0Y];decide
  ·rw[e,q0U (G n I),χ,q0Y];decide
 ·have e0:((X++Z).map Prod.fst).Nodup:=by
   have ho:q2Q Prod.fst (X++Z):=by
    rw[U] at o;exact o.sublist (List.Sublist.append (List.Sublist.refl X) (List.sublist_append_right _ _))
   exact List.pairwise_map.2 (q8x ho)
  have hb:=Man.bounds h.man;have:=q4v (m:=mapN::(st.m.L.flatten.map (q0C 116)++st.m.L.flatten.map (q0C 98))) e0 fun x hx=>by
   obtain⟨y,d,rfl⟩:=List.mem_map.1 hx;rcases a0 y (List.mem_append.1 d) with e|⟨n,I,e|e⟩
   ·rw[e];exact .head _
   ·rw[e];exact .tail _ (List.mem_append.2 (.inl (List.mem_map.2 ⟨n,I,rfl⟩)))
   ·rw[e];exact .tail _ (List.mem_append.2 (.inr (List.mem_map.2 ⟨n,I,rfl⟩)))
  simp only[List.length_map,θ,χ] at this;simp only;omega
 ·rw [<-N,U]
  show(q0F Prod.fst nm (X++Z)).map Prod.snd=_;have g0: ∀y∈q3P 0 C,Prod.fst y≠nm:=fun y d e=>by
   obtain⟨j,h1,h2,h3⟩:=q2k d;exact O j (by have:=hC.few;omega) (by rw[<-h3];exact e.symm)
  unfold q0F;rw[List.find?_append,List.find?_append,List.find?_append];have h0:List.find? (fun y=>Prod.fst y==nm) (q3P 0 C)=none:=q0S g0;rw[h0];simp
theorem PInv.relog{k0:Int}(h:PInv st σ c s φ u cnt B)(hE: ∀nm,z9R nm->(q0F Prod.fst nm (E.X++E.Z)).map Prod.snd=φ nm)(q:Lgd E σ' (c-(q1V E:Int)) s C' k0)(ho:okD σ')(hu:q1V E+q0j C'<=u')(N:E.X.length+C'.length+E.Z.length<=cnt'):
  ∃G,PInv st σ' c s G u' cnt' B/\CksS G σ' C' k0/\ ∀nm,z9R nm->G nm=φ nm:=by
 have r:=q.pl;rw[show c-(q1V E:Int)+(q1V E:Int)=c by omega] at r;have d: ∀nm,z9R nm->(q0F Prod.fst nm (q2a E C')).map Prod.snd=φ nm:=fun nm i=>by
  rw[<-hE nm i];have R: ∀y∈q3P 0 C',Prod.fst y≠nm:=fun y hy e=>by
   obtain⟨j,h1,h2,h3⟩:=q2k hy;exact i j (by have:=q.ok.few;omega) (by rw[<-h3];exact e.symm)
  unfold q0F q2a;rw[List.find?_append,List.find?_append,List.find?_append];have U:List.find? (fun y=>Prod.fst y==nm) (q3P 0 C')=none:=q0S R;rw[U];simp
 have Q: ∀k:Nat,k<=999999->(q0F Prod.fst (q0C 99 (k:Int)) (q2a E C')).map Prod.snd=(C'[k]?).map (q0L k):=fun k I=>by
  rw[<-q9T q.ok.few I];unfold q2a;rw[q0Q (q.oth.neX I),q0v (q.oth.neZ I)]
 have O: ∀J:UInt8,(J=116\/J=98)-> ∀n:Int,0<=n/\n<=999999->z9R (q0C J n):=fun J hc n N k I e=>by
  have hl:q2D J=true:=by rcases hc with rfl|rfl<;>decide
  have:=(z3r hl y3O N (by omega) e).1;rcases hc with rfl|rfl<;>exact absurd this (by decide)
 have o: ∀n∈st.m.L.flatten,0<=n/\n<=999999:=fun n N=>by have:=h.range N;omega
 refine⟨fun nm=>(q0F Prod.fst nm (q2a E C')).map Prod.snd,⟨⟨q2a E C',r,r.ord ho,fun _=>rfl,by rw[q7R];exact hu,by rw[q7Q];exact N⟩,h.man,h.full,fun n e he=>?_,fun nm i=>?_,h.okw,h.okB,h.mem⟩,⟨Q,q.sr,q.le⟩,d⟩
 ·obtain⟨S,t1,⟨y,t2⟩,t3,t4⟩:=h.tb n e he
  exact⟨S,(d _ (O 116 (.inl rfl) n (o n S))).trans t1,⟨y,(d _ (O 98 (.inr rfl) n (o n S))).trans t2⟩,t3,t4⟩
 ·by_cases hc: ∃k:Nat,k<=999999/\nm=q0C 99 (k:Int)
  ·exact .inr (.inr hc)
  ·exact h.only nm (by rw[<-d nm fun k I e=>hc ⟨k,I,e⟩];exact i)
end
def y3f(L:List FM)(X:FM->Prop):Prop:= ∀f∈L,f.sy=f.da.length\/X f
def Kp(σ σ':DM):Prop:=σ.down=false->σ.fail=false->(σ'.down=false/\σ'.fail=false)/\ ∀X:FM->Prop,(∀f,X f->f.nm≠z2X)->y3f σ.L X->y3f σ'.L X
theorem Kp.refl(σ:DM):Kp σ σ:=fun i d=>⟨⟨i,d⟩,fun _ _ h=>h⟩
theorem Kp.trans{a b d:DM}(m:Kp a b)(o:Kp b d):Kp a d:=fun r q=>by
 obtain⟨⟨G,j⟩,k1⟩:=m r q;obtain⟨I,y⟩:=o G j;exact⟨I,fun X i h=>y X i (k1 X i h)⟩
theorem z6W{σ:DM}(h:σ.fail=false):q1p σ=false:=by unfold q1p;rw[h];rfl
theorem Kp.tell(σ:DM):Kp σ (q2Z σ):=fun i d=>⟨⟨i,d⟩,fun _ _ h=>h⟩
theorem Kp.tells : ∀(k:Nat) (σ:DM),Kp σ (tellN k σ)
 |0,σ=>Kp.refl σ
 |k+1,σ=>by rw[q1j];exact(Kp.tell σ).trans (Kp.tells k _)
theorem Kp.delete(σ:DM)(nm:List UInt8):Kp σ (q1L σ nm).2:=fun i d=>by
 unfold q1L;rw[κ (by rw[i];decide)]
 split
 ·exact⟨⟨i,d⟩,fun _ _ h=>h⟩
 ·rw[κ (by rw[z6W d];decide)]
  exact⟨⟨i,d⟩,fun X _ h f hm=>h f (mem_delN.1 (show f∈q1M FM.nm nm σ.L from hm)).1⟩
theorem z5E:q0C 99 (k:Int)≠z2X:=fun e=>by
 unfold q0C at e
 split at e
 ·exact absurd (List.cons.inj e).1 (by decide)
 ·cases e
theorem Sur.kp{σ σ':DM}{n:Nat}{k:Int}(h:Sur σ.L n k)(i:Kp σ σ')(m:σ.down=false)(d:σ.fail=false):Sur σ'.L n k:=
 (i m d).2 (fun f=> ∃j:Nat,n=j+1/\f.nm=q0C 99 (j:Int)/\k<=(j:Int)*4096+(f.sy:Int)) (fun f ⟨j,_,e,_⟩=>by rw[e];exact z5E) h
end
section
open Go.RowKit Go.Maps
def DkX(wb W:World)(g:Nat)(σ:DM)(K:Nat->Prop):Prop:= ∃F,DkF wb W g F σ K
def q3U :DM->List Int->(Int->Option (List En))->(Int->Option (List En))×Int×DM
 |σ,[],acc=>(acc,0,σ)
 | σ,n::ns,acc=>match q5w σ n with
  |(none,e,τ)=>(acc,e,τ)
  |(some L,_,τ)=>q3U τ ns (fun x=>if x=n then some L else acc x)
def z0a(wb w:World)(g:Nat)(m:Man)(rate:Nat)(K:Nat->Prop)(σ:DM)(e:Ending)(w':World):Prop:=
 (q0k m.nx m.ck m.L=false/\e= .returned (.tuple #[.pointer none,.int .i64 2])/\DkX wb w' g σ K/\Stay K w w')\/
 (q0k m.nx m.ck m.L=true/\σ.down=true/\e= .returned (.tuple #[.pointer none,.int .i64 61])/\DkX wb w' g σ K/\Stay K w w')\/
 (q0k m.nx m.ck m.L=true/\σ.down=false/\(q3U σ m.L.flatten (fun _=>none)).2.1≠0/\e= .returned (.tuple #[.pointer none,.int .i64 (q3U σ m.L.flatten (fun _=>none)).2.1])/\DkX wb w' g (q3U σ m.L.flatten (fun _=>none)).2.2 K/\Stay K w w')\/
 (q0k m.nx m.ck m.L=true/\σ.down=false/\(q3U σ m.L.flatten (fun _=>none)).2.1=0/\ ∃gx t,e= .returned (.tuple #[.pointer (some ⟨gx,0,none⟩),.int .i64 0])/\
  IxK wb w' g gx ⟨m,rate,[],t,m.L.flatten.length⟩ (q3U σ m.L.flatten (fun _=>none)).2.2 K/\Stay K w w'/\ ∀n,(t n).map TE.L=(q3U σ m.L.flatten (fun _=>none)).1 n)
section
variable {wb w0 w W W1 w1 w2:World}{g gx gm gt B:Nat}{st st1:IxSt}{F Y Y1 K K' V T:Nat->Prop}{σ σ1:DM}{va v v1 v2 vm:Value}{vs:List Value}{ns:List Int}{acc:List (List En)}{M L:List En}
theorem IxI.putO{D:DataW Unit}{J:Nat}(h:IxI w gx g gm gt st v vs vm D J Y){t:Nat}{may:Int->Bool}
  (N:w2.ownsMap Tryz.prog 3 q6I gt (J+1) (D.put (.int .i64 n) (.lit (.int .i64 t))))(j:OffS (fun i=>i=gt) w w2)
  (G:Tb w t g n L may T)(O: ∀i,T i->¬InX gx gm gt i):
  IxI w2 gx g gm gt ⟨st.m,st.rate,st.w,(fun x=>if x=n then some ⟨t,L,may⟩ else st.t x),st.c+1⟩ v vs vm (D.put (.int .i64 n) (.lit (.int .i64 t))) (J+1) (fun i=>Y i\/T i):=by
 have I: ∀i,i<w.heap.size->i≠gt->w2.heap[i]? =w.heap[i]? :=fun i d r=>j.block i d r
 have o: ∀i,(Y i\/T i)->i<w.heap.size/\¬InX gx gm gt i:=fun i d=>by
  rcases d with d|d
  ·exact⟨h.lt i d,h.apart i d⟩
  ·exact⟨G.lt i d,O i d⟩
 have q: ∀i,(Y i\/T i)->w2.heap[i]? =w.heap[i]? :=fun i d=>I i (o i d).1 fun e=>(o i d).2 (.inr (.inr e))
 refine⟨h.blk.same (I _ h.blk.lt h.ne.2.1),?_,q4w h.lev fun i d=>q i (.inl (h.inY i (d.elim .inl fun e=> .inr (.inl e)))),N,Nat.succ_le_succ h.cnt,fun x=>?_,fun x e r=>?_,fun i d=> .inl (h.inY i d),fun i d=>Ψ (o i d).1 j.size,fun i d=>(o i d).2,h.ne⟩
 ·refine h.mem.same fun i d=>?_
  rcases d with rfl|d
  ·exact I _ h.mem.blk.lt h.ne.2.2
  ·exact q i (.inl (h.inY i (.inr (.inr d))))
 ·exact z9K (e:=⟨t,L,may⟩) h.look h.map.isMap x
 ·simp only at r
  by_cases y:x=n
  ·rw[ξ y] at r
   injection r with r;subst r;subst y;exact(G.same j.size fun i d=>q i (.inr d)).mono (fun i d=> .inr d) fun i d=>Ψ (o i d).1 j.size
  ·rw[κ y] at r
   exact((h.tab x e r).same j.size fun i d=>q i (.inl d)).mono (fun i d=> .inl d) fun i d=>Ψ (o i d).1 j.size
theorem z6p(h : DkF wb w g F σ K){m:Man}(hG:Grid w ao m.L.length cap m.L)(I1:m.L.flatten.length<=1000000000)(F1: ∀x∈m.L.flatten,(Lit.int .i64 x).wf=true)(B1:0<=m.sd)(C1:m.sd<18446744073709551616)(rate:Nat):
  Calls Tryz.prog 142 #[.pointer (some ⟨g,0,none⟩),.agg #[.int .i64 m.nx,.int .i64 m.ck,.int .u64 m.sd,.slice ao m.L.length cap],.float .f64 rate] w (z0a wb w g m rate K σ):=by
 have HD:=η h;have v0:=q0B w (.cells #[.int .i64 m.nx,.int .i64 m.ck,.int .u64 m.sd,.slice ao m.L.length cap] 47);have d1:=Blk.new w 47 #[.int .i64 m.nx,.int .i64 m.ck,.int .u64 m.sd,.slice ao m.L.length cap];have a0:=η (q6p (h.d.ext v0) [] (by decide));have hc: ∃z c,q1m σ []=(z,c)/\(c==1)=false/\((c==61)=σ.down)/\(σ.down=true->c=61):=by
  unfold q1m
  cases σ.down with
  |true=>exact⟨_,_,rfl,rfl,rfl,fun _=>rfl⟩
  | false=>
   simp only[Bool.false_eq_true,if_false]
   split
   ·exact⟨_,_,rfl,rfl,rfl,fun h=>by cases h⟩
   ·exact⟨_,_,rfl,rfl,rfl,fun h=>by cases h⟩
 obtain⟨z,c,hz,x1,I0,J0⟩:=hc;rw[hz] at a0;have HV:=η (q9v m.nx m.ck m.sd ao m.L.length cap m.L _ (hG.ext v0) (by omega) F1);have HG:=η hG;have j0:=η v0;have O:=η d1;obtain⟨w1,E1⟩: ∃w1,w.alloc (.cells #[.int .i64 m.nx,.int .i64 m.ck,.int .u64 m.sd,.slice ao m.L.length cap] 47)=w1:=⟨_,rfl⟩
 rw[E1] at a0 HV j0 O;obtain⟨p,hp⟩: ∃p,w.heap.size=p:=⟨_,rfl⟩
 have HP:=η hp;rw[hp] at O;have b0:w1.cell? ⟨p,0,none⟩=some (.int .i64 m.nx):=O.o.cell 0;have b1:w1.cell? ⟨p,1,none⟩=some (.int .i64 m.ck):=O.o.cell 1;have b2:w1.cell? ⟨p,2,none⟩=some (.int .u64 m.sd):=O.o.cell 2;have b3:w1.cell? ⟨p,3,none⟩=some (.slice ao m.L.length cap):=O.o.cell 3;have N0:=@run_makeMap Tryz.prog;clear h v0 d1 hz hG
 cases hv:q0k m.nx m.ck m.L with
 | false=>
  rw[hv] at HV;have c0:=η hv;clear hv;go_enter Tryz.func142,Tryz.ntmps142;go_wp2_with fail;refine a0.o.mono ?_;rintro e w2 ⟨rfl,rfl⟩;go_wp2_with fail;refine HV.o.mono ?_;rintro e w2 ⟨rfl,G⟩;have I:=η (j0.o.trans G);clear G;go_wp2_with fail;go_ret2;exact .inl ⟨c0.o,rfl,⟨F,HD.o.grow I.o⟩,fun i j=>I.o.block i (HD.o.k i j).1⟩
 | true =>
  rw[hv] at HV;have c0:=η hv;clear hv
  cases hdn:σ.down with
  | true=>
   rw[hdn] at I0;obtain rfl:=J0 hdn;have r0:=η hdn;clear hdn J0;go_enter Tryz.func142,Tryz.ntmps142;go_wp2_with fail;refine a0.o.mono ?_;rintro e w2 ⟨rfl,rfl⟩;go_wp2_with fail;refine HV.o.mono ?_;rintro e w2 ⟨rfl,G⟩;have I:=η (j0.o.trans G);clear G;go_wp2_with fail;go_ret2;exact .inr (.inl ⟨c0.o,r0.o,rfl,⟨F,HD.o.grow I.o⟩,fun i j=>I.o.block i (HD.o.k i j).1⟩)
  | false =>
   rw[hdn] at I0;have r0:=η hdn;have p0:m.ok:=⟨c0.o,B1,C1⟩
   have u0:=Man.bounds p0;clear hdn J0;go_enter Tryz.func142,Tryz.ntmps142;go_wp2_with fail;refine a0.o.mono ?_;rintro e w2 ⟨rfl,rfl⟩;go_wp2_with fail;refine HV.o.mono ?_;rintro e w2 ⟨rfl,G⟩;have I:=η (j0.o.trans G);have b0:=q0A G b0;have b1:=q0A G b1;have b2:=q0A G b2;have b3:=q0A G b3;have Q0:=η (O.o.ext G);clear G;go_wp2_with fail;refine(z3Q m.nx m.ck m.sd ao m.L.length cap m.L w2 (HG.o.ext I.o) (fun i=>by have:=u0.2.2.1 i;omega) (by omega)).mono ?_;rintro e w3 ⟨v3,y0,rfl,q0,a1⟩;have E0:=η q0;have s0:=η a1;obtain⟨a3,k3,rfl⟩:=q0.own.slice;clear q0 a1;go_wp2_with fail;refine(y2S w3).mono ?_;rintro e w4 ⟨gm,rfl,Q,z1,H0⟩;have D0:=η Q;have t0:=η H0;have b3:=q0A H0 (q0A s0.o b3);clear Q H0;obtain⟨U,l0⟩: ∃U,(w4.alloc (.map #[] 0)).alloc (.cells #[.pointer (some ⟨g,0,none⟩),.int .i64 m.nx,.int .i64 m.ck,.int .u64 m.sd,.slice a3 m.L.length k3,.float .f64 rate,.pointer (some ⟨gm,0,none⟩),.map (some w4.heap.size)] 186)=U:=⟨_,rfl⟩
   have d0:Hd (Ext w4 U):=η (l0▸q5q _ _ _)
   have P0:Hd (Blk U (w4.heap.size+1) 186 #[.pointer (some ⟨g,0,none⟩),.int .i64 m.nx,.int .i64 m.ck,.int .u64 m.sd,.slice a3 m.L.length k3,.float .f64 rate,.pointer (some ⟨gm,0,none⟩),.map (some w4.heap.size)]):=η (by
    have h:=Blk.new (w4.alloc (.map #[] 0)) 186 #[.pointer (some ⟨g,0,none⟩),.int .i64 m.nx,.int .i64 m.ck,.int .u64 m.sd,.slice a3 m.L.length k3,.float .f64 rate,.pointer (some ⟨gm,0,none⟩),.map (some w4.heap.size)];rw[ρ,l0] at h
    exact h)
   have T0:Hd (U.ownsMap Tryz.prog 3 q6I w4.heap.size 0 (.map [])):=η (l0▸(World.ownsMap_made (H:=Unit) w4 Tryz.prog 3 q6I).alloc _);have r1:Hd (U.heap.size=w4.heap.size+2):=η (by rw[<-l0,ρ,ρ]);have s1:=q0A d0.o b3;have e0:=η (((I.o.trans s0.o).trans t0.o).trans d0.o);have y1:gm<w4.heap.size:=D0.o.blk.lt
   have S0:Hd (IxK wb U g (w4.heap.size+1) ⟨m,rate,[],(fun _=>none),0⟩ σ K):=η (by
    have hD:=HD.o;have J1:=I.o.size;have K1:=s0.o.size;have L1:=t0.o.size;have N1:=hD.ext.size;have A1:OGr U w2.heap.size 37 3 (.slice a3 m.L.length k3) y0 m.L:=(E0.o.ext t0.o).ext d0.o;have J: ∀i,((Value.slice a3 m.L.length k3).ownBlock=some i\/ ∃q,(y0.getD q (.slice none 0 0)).ownBlock=some i)->w2.heap.size<=i/\i<w3.heap.size:=fun i j=>z1N E0.o i j
    refine⟨F,gm,w4.heap.size,fun i=>((Value.slice a3 m.L.length k3).ownBlock=some i\/ ∃q,(y0.getD q (.slice none 0 0)).ownBlock=some i),⟨hD.d.ext e0.o,⟨⟨p0,okM.nil,υ _⟩,.slice a3 m.L.length k3,y0,.slice none 0 0,.map [],0,⟨P0.o,D0.o.ext d0.o,q9y A1 (υ _),T0.o,ι _,fun n=>rfl,fun n e he=>(by cases he),fun i j=>?_,fun i j=>Ψ (J i j).2 (by have:=d0.o.size;omega),fun i j hx=>?_,⟨by omega,by omega,by omega⟩⟩⟩,fun i j=>?_⟩,hD.bF,fun i j=>?_,fun i j=>by have:=J i j;omega,hD.ext.trans e0.o,fun i j=>?_⟩
    ·rcases j with j|j|j
     ·exact .inl j
     ·exact .inr j
     ·cases j
    ·have h1:=J i j
     rcases hx with rfl|rfl|rfl<;>omega
    ·have h1:=hD.d.Flt i j
     exact⟨fun hx=>by rcases hx with rfl|rfl|rfl<;>omega,fun hy=>by have:=J i hy;omega⟩
    ·rcases j with rfl|rfl|rfl<;>omega
    ·have h1:=hD.k i j
     have h2:=e0.o.size
     exact⟨by omega,h1.2,fun hx=>by rcases hx with rfl|rfl|rfl<;>omega,fun hy=>by have:=J i hy;omega⟩)
   have O0:=η (z4U ao m.L.length cap m.L U (HG.o.ext e0.o) (by omega));have u1: ∀i,K i->i<w.heap.size:=fun i j=>(HD.o.k i j).1
   have i0:Hd (Stay K w U):=η fun i j=>e0.o.block i (u1 i j)
   clear N0;have N0:=@run_makeMap Tryz.prog;go_wp2_with fail;refine O0.o.mono ?_;rintro e w5 ⟨va,rfl,Z,c1⟩;obtain⟨aa,ka,rfl⟩:=Z.slice;obtain⟨ns,g0⟩: ∃ns,m.L.flatten=ns:=⟨_,rfl⟩
   have p1:=η g0;rw[g0] at Z;have C0:=η (LsW.start S0.o (W:=w5) c1 Z);rw[g0];obtain⟨R,hR⟩: ∃R,q3U σ ns (fun _=>none)=R:=⟨_,rfl⟩
   have HR:=η hR
   have z0:Hd (∀e w',((R.2.1≠0/\e= .returned (.tuple #[.pointer none,.int .i64 R.2.1])/\DkX wb w' g R.2.2 K/\Stay K U w')\/(R.2.1=0/\ ∃gx t,e= .returned (.tuple #[.pointer (some ⟨gx,0,none⟩),.int .i64 0])/\IxK wb w' g gx ⟨m,rate,[],t,ns.length⟩ R.2.2 K/\Stay K U w'/\ ∀n,(t n).map TE.L=R.1 n))->z0a wb w g m rate K σ e w'):=η (by
    intro e w' h;unfold z0a;rw[g0,hR];rcases h with⟨q1,q2,q3,q4⟩|⟨q1,gx,t,q2,q3,q4,q5⟩
    ·exact .inr (.inr (.inl ⟨c0.o,r0.o,q1,q2,q3,i0.o.trans q4⟩))
    ·exact .inr (.inr (.inr ⟨c0.o,r0.o,q1,gx,t,q2,q3,i0.o.trans q4,q5⟩)))
   obtain⟨n,hn⟩: ∃n,ns.length=n:=⟨_,rfl⟩
   have h0:=η hn;have H1:n<=40:=by rw[<-hn,<-g0];exact u0.2.1
   have n1:=η u0;obtain⟨gx,K0⟩: ∃gx,w4.heap.size+1=gx:=⟨_,rfl⟩
   rw[hn] at C0;rw[K0] at C0;rw[hn];simp only[K0];clear Z c1 g0 hn O0 j0 I s0 t0 d0 P0 T0 r1 s1 b0 b1 b2 b3 e0 S0 D0 E0 N0 hR u0 HV a0 HG O Q0 HP i0 x1 I0 l0 y1 z1 K0;go_wp2_with fail
   go_loopw [44] (fun i W=> ∃(k:Nat) (t:Int->Option TE) (acc:Int->Option (List En)) (τ:DM),k<=n/\i= .int .i64 (k:Int)/\LsW wb U W g gx ⟨m,rate,[],t,k⟩ τ K (.slice aa n ka) (.slice none 0 0) [] ns [] U.heap.size/\(∀x,(t x).map TE.L=acc x)/\q3U τ (ns.drop k) acc=R) (fun i _=>n-(intOf i).toNat)
   case atStart=>exact⟨0,fun _=>none,fun _=>none,σ,υ _,rfl,C0.o,fun x=>rfl,HR.o⟩
   case round =>
    obtain⟨k,tt,acc,τ,hk,rfl,i1,l1,y⟩:=hrel;have HL:=η i1;have U0:=η y;have V0:=η l1;clear i1 y l1;by_cases J:k<n
    ·have hd:decide ((k:Int)<(n:Int))=true:=ζ (by omega)
     have q1:IntKind.i64.wrap ((k:Int)+1)=(k:Int)+1:=by rw[ν];omega
     have q5:(k:Int)<(n:Int):=by omega
     obtain⟨_,_,ea,L0⟩:=q3I HL.o.all;rw[h0.o] at ea
     cases ea;rw[h0.o] at L0;obtain⟨ba,oa,rfl,n0⟩:=L0.at J;have M0:k<ns.length:=by rw[h0.o];exact J
     have m0:ns.drop k=ns.getD k 0::ns.drop (k+1):=by
      rw[List.drop_eq_getElem_cons M0,δ,γ M0];rfl
     have Q:ns.getD k 0∈m.L.flatten:=by rw[p1.o];exact q4J ns k M0
     have y:=U0.o;rw[m0] at y;have m1:=(n1.o.2.2.2.1 _ Q).1;generalize ns.getD k 0=nk at*;rw[q3U] at y;obtain⟨F2,t1,X0,Y2,h2⟩:=HL.o.i;have F0:=η (y1L h2.i.d nk);have R0:=η h2;obtain⟨r,hr⟩: ∃r,q5w τ nk=r:=⟨_,rfl⟩
     rw[hr] at y F0;obtain⟨o,c,G1⟩:=r;clear L0 m0 Q h2
     cases o with
     | none=>
      simp only at y;have hc:=z9T hr;have g2:(c !=0)=true:=by simpa using hc
      have G0:=η y;have HC:=η hc;clear hr y hc;go_wp2_with fail;refine F0.o.mono ?_;rintro e3 w3 ⟨rfl,f0⟩;obtain⟨X,S⟩:=R0.o.disk f0
      have HE:Hd (z0a wb w g m rate K σ (.returned (.tuple #[.pointer none,.int .i64 c])) w3):=η (z0.o _ _ (.inl (by
       rw[<-G0.o]
       exact⟨HC.o,rfl,⟨_,X.i.d,X.bF,X.ext,fun i j=>⟨(X.k i (.inl j)).1,(X.k i (.inl j)).2.1⟩⟩,HL.o.stay.trans fun i j=>S i (.inl j)⟩)))
      clear f0 X S;go_wp2_with fail;go_ret2;exact HE.o
     | some L=>
      simp only at y;obtain rfl:=z5L hr;have G0:=η y;clear hr y;go_wp2_with fail;refine F0.o.mono ?_;rintro e3 w7 ⟨t,may,T,w6,rfl,f0,x0,k1,hT⟩;obtain⟨X,S⟩:=R0.o.disk f0;have h7:=X.grow x0;have A0:Stay (fun i=>K i\/z9t (.slice (some ⟨ba,oa,none⟩) n ka) (.slice none 0 0) [] i) wr w7:=S.trans (X.kExt x0);obtain⟨j1,v7,Q1,P1,D7,O1,o0⟩:=h7.i.x;have c7:=o0.c7;have e1:=o0.cnt;simp only at e1;obtain⟨w8,D1,Y0,f1⟩:=o0.map.update Tryz.keyInt Tryz.underlying184 (by unfold maxLen;omega) (keyOf_int_mk Tryz.underlying3 m1) (z2i t);have N:OffS (fun i=>i=X0) w7 w8:=OffS.grown f1 fun i j=>by injection j with j;exact j.symm
      have Z0: ∀i,T i->¬InX gx t1 X0 i:=fun i j hx=>by have:=hT i j;have:=X.i.x.xlt i hx;omega
      have g1:=o0.putO Y0 N k1 Z0
      obtain⟨h8,B0⟩:=h7.turnV (K:=fun i=>K i\/z9t (.slice (some ⟨ba,oa,none⟩) n ka) (.slice none 0 0) [] i) (st1:=⟨m,rate,[],(fun x=>if x=nk then some ⟨t,L,may⟩ else tt x),k+1⟩) (Y1:=fun i=>Y2 i\/T i) ⟨⟨p0,okM.nil,by show k+1<=1000000;omega⟩,_,_,_,_,_,g1⟩ (N.mono fun i _ j=> .inr (.inr j)) (fun i j=>by
       rcases j with j|j
       ·exact⟨h7.bY i j,fun hf=>(h7.i.ap i hf).2 j⟩
       ·have h9:=hT i j
        exact⟨by have:=X.ext.size;omega,fun hf=>by have:=X.i.d.Flt i hf;omega⟩) (fun i j=>⟨j,fun hy=>by
       rcases hy with hy|hy
       ·exact(h7.k i j).2.2.2 hy
       ·have:=hT i hy;have:=(X.k i j).1;omega⟩)
      have o1:=η (HL.o.step ⟨_,_,_,_,h8⟩ (A0.trans B0) (by have:=f0.off.size;have:=x0.size;have:=N.size;omega));have W0:Hd (∀x,(if x=nk then some (⟨t,L,may⟩:TE) else tt x).map TE.L=if x=nk then some L else acc x):=η fun x=>by
       by_cases hx:x=nk
       ·rw[ξ hx,ξ hx];rfl
       ·rw[κ hx,κ hx];exact V0.o x
      have M1:=η D1;clear f0 X S h7 A0 j1 o0 Y0 f1 N Z0 g1 h8 B0 k1 hT x0 e1;go_wp2_with fail
      go_roundw
      case rel=>exact⟨k+1,_,_,G1,J,by go_num,o1.o,W0.o,G0.o⟩
      case measure=>simp[intOf];omega
    ·obtain rfl:k=n:=by omega
     have hd:decide ((k:Int)<(k:Int))=false:=ε (by omega);have y:=U0.o;rw[List.drop_of_length_le (by rw[h0.o];exact ι _),q3U] at y
     have HE:Hd (z0a wb w g m rate K σ (.returned (.tuple #[.pointer (some ⟨gx,0,none⟩),.int .i64 0])) wr):=η (z0.o _ _ (.inr (by
      rw[<-y]
      exact⟨rfl,gx,tt,rfl,by rw[h0.o];exact HL.o.i.beside fun i j=> .inl j,HL.o.stay,V0.o⟩)))
     clear y;go_wp2_with fail;go_ret2;exact HE.o
end
end
section
open Go.RowKit
def toc(t:To):List Value:=[.string ⟨t.s.toArray⟩,.int .i64 t.v,.string ⟨t.e.ty.toArray⟩,.string ⟨t.e.da.toArray⟩,.float .f64 t.e.we]
def toV(t:To):Value:= .agg #[.string ⟨t.s.toArray⟩,.int .i64 t.v,.string ⟨t.e.ty.toArray⟩,.string ⟨t.e.da.toArray⟩,.float .f64 t.e.we]
def q5B(L:List To):List Value:=(L.map toc).flatten
theorem q5A(t:To):(toc t).length=5:=rfl
theorem q8H(t:To)(L:List To):q5B (t::L)=toc t++q5B L:=rfl
theorem z2y(L M:List To):q5B (L++M)=q5B L++q5B M:=by unfold q5B;rw[List.map_append,List.flatten_append]
theorem z7u(L:List To)(t:To):q5B (L++[t])=q5B L++toc t:=by rw[z2y];unfold q5B;simp
theorem q8I(L:List To):(q5B L).length=L.length*5:=by
 induction L with
 |nil=>rfl
 |cons k L ih=>rw[q8H,θ,ih,χ,q5A];omega
theorem q5a : ∀(L:List To) (i j:Nat),i<L.length->j<5->(q5B L)[i*5+j]? =(toc (L.getD i to0))[j]?
 |[],i,j,h,_=>by simp at h
 | k::L,0,j,_,hj=>by
  rw[q8H,List.getElem?_append_left (by rw[q5A];omega)];simp
 | k::L,i+1,j,h,hj=>by
  rw[q8H,List.getElem?_append_right (by rw[q5A];omega),show(i+1)*5+j-(toc k).length=i*5+j by rw[q5A];omega,q5a L i j (by simpa using h) hj];simp
theorem z9o(L:List To): ∀u∈q5B L,u.oneCell'=true:=fun u i=>by
 unfold q5B at i;obtain⟨l,j,d⟩:=List.mem_flatten.1 i;obtain⟨f,_,rfl⟩:=List.mem_map.1 j;unfold toc at d;simp only[List.mem_cons,List.not_mem_nil,or_false] at d;rcases d with rfl|rfl|rfl|rfl|rfl<;>rfl
structure Tos(w:World)(ao:Option Addr)(n cap:Nat)(L:List To):Prop where
 len:L.length=n
 fits:n<=cap
 bound:cap<=9223372036854775807
 nil:ao=none->cap=0
 rd:Rd w ao (q5B L)
theorem Tos.ext{w w':World}{n:Nat}{L:List To}(h:Tos w ao n cap L)(k:Ext w w'):Tos w' ao n cap L:=⟨h.len,h.fits,h.bound,h.nil,h.rd.ext k⟩
theorem Tos.at{w:World}{n:Nat}{L:List To}(h:Tos w ao n cap L){i:Nat}(Q:i<n):
  ∃b off,ao=some ⟨b,off,none⟩/\w.cell? ⟨b,off+i*5,none⟩=some (.string ⟨(L.getD i to0).s.toArray⟩)/\w.cell? ⟨b,off+i*5+1,none⟩=some (.int .i64 (L.getD i to0).v)/\w.cell? ⟨b,off+i*5+2,none⟩=some (.string ⟨(L.getD i to0).e.ty.toArray⟩)/\w.cell? ⟨b,off+i*5+3,none⟩=some (.string ⟨(L.getD i to0).e.da.toArray⟩)/\w.cell? ⟨b,off+i*5+4,none⟩=some (.float .f64 (L.getD i to0).e.we):=by
 have R:=h.len;have k0:=q5a L i 0 (by omega) (by decide);have k1:=q5a L i 1 (by omega) (by decide);have J:=q5a L i 2 (by omega) (by decide);have N:=q5a L i 3 (by omega) (by decide);have O:=q5a L i 4 (by omega) (by decide);obtain⟨b,off,rfl,q⟩:=h.rd _ _ k0;obtain⟨_,_,d,r⟩:=h.rd _ _ k1
 cases d;obtain⟨_,_,j,y⟩:=h.rd _ _ J
 cases j;obtain⟨_,_,m,G⟩:=h.rd _ _ N
 cases m;obtain⟨_,_,o,I⟩:=h.rd _ _ O
 cases o;exact⟨b,off,rfl,q,r,y,G,I⟩
theorem Tos.of_own{w:World}{B:Nat}{e:TypeId}{v:Value}{L:List To}(h:Own w B e 5 v L.length (q5B L)): ∃ao cap,v= .slice ao L.length cap/\Tos w ao L.length cap L:=by
 obtain⟨ao,cap,rfl,d,i,j,m⟩:=h.rd;exact⟨ao,cap,rfl,rfl,d,i,j,m⟩
theorem Tryz.infoTo :(Tryz.prog.info? 69).map (fun i=>(i.zero,i.size,i.bytes))=some (some (.agg #[.string ⟨#[]⟩,.int .i64 0,.string ⟨#[]⟩,.string ⟨#[]⟩,.float .f64 0]),5,64):=by kernel_rfl
theorem y0q(b:Nat): ∃x:Int,∀w:World,Calls Tryz.prog 264 #[.float .f64 b] w fun e w'=>e= .returned (.int .u64 x)/\w=w':=by
 by_cases h:((b:Int)<9223372036854775808)
 ·have i:decide ((9223372036854775808:Int)<=(b:Int))=false:=ε (by omega)
  refine⟨(b:Int)+9223372036854775808,fun w=>?_⟩;have d:=q7h;go_enter Tryz.func264,Tryz.ntmps264;go_wp2_with fail;go_ret;exact⟨rfl,rfl⟩
 ·have i:decide ((9223372036854775808:Int)<=(b:Int))=true:=ζ (by omega)
  refine⟨IntKind.u64.wrap (18446744073709551615-(b:Int)),fun w=>?_⟩;have d:=q7h;go_enter Tryz.func264,Tryz.ntmps264;go_wp2_with fail;go_ret;exact⟨rfl,rfl⟩
theorem z9d(b:Nat)(w:World):Calls Tryz.prog 205 #[.float .f64 b,.float .f64 b] w fun e w'=>e= .returned (.bool true)/\w=w':=by
 obtain⟨x,i⟩:=y0q b;have d:=η i;clear i;go_enter Tryz.func205,Tryz.ntmps205;go_wp2_with fail;refine(d.o _).mono ?_;rintro e w1 ⟨rfl,rfl⟩;go_wp2_with fail;refine(d.o _).mono ?_;rintro e w1 ⟨rfl,rfl⟩;go_wp2_with fail;go_ret;exact⟨by simp,rfl⟩
theorem z9e(e:Ev)(w:World):Calls Tryz.prog 145 #[evV e,evV e] w fun r w'=>r= .returned (.bool true)/\Ext w w':=by
 obtain⟨ty,da,we⟩:=e;have m:=q0B w (.cells #[.string ⟨ty.toArray⟩,.string ⟨da.toArray⟩,.float .f64 we] 67);have j:=q0B (w.alloc (.cells #[.string ⟨ty.toArray⟩,.string ⟨da.toArray⟩,.float .f64 we] 67)) (.cells #[.string ⟨ty.toArray⟩,.string ⟨da.toArray⟩,.float .f64 we] 67);have q:=η (m.trans j);have i:=(Blk.new w 67 #[.string ⟨ty.toArray⟩,.string ⟨da.toArray⟩,.float .f64 we]).ext j;have d:=Blk.new (w.alloc (.cells #[.string ⟨ty.toArray⟩,.string ⟨da.toArray⟩,.float .f64 we] 67)) 67 #[.string ⟨ty.toArray⟩,.string ⟨da.toArray⟩,.float .f64 we];rw[ρ] at d;have k0:=i.cell 0;have k1:=i.cell 1;have J:=i.cell 2;have y:=d.cell 0;have G:=d.cell 1;have I:=d.cell 2;clear m j i d;unfold evV;go_enter Tryz.func145,Tryz.ntmps145;go_wp2_with fail;refine(z9d we _).mono ?_;rintro e w1 ⟨rfl,rfl⟩;go_wp2_with fail;go_ret;exact⟨rfl,q.o⟩
theorem z9p(t:To)(w:World):Calls Tryz.prog 85 #[toV t,toV t] w fun r w'=>r= .returned (.bool true)/\Ext w w':=by
 obtain⟨s,v,⟨ty,da,we⟩⟩:=t;have m:=q0B w (.cells #[.string ⟨s.toArray⟩,.int .i64 v,.string ⟨ty.toArray⟩,.string ⟨da.toArray⟩,.float .f64 we] 69);have j:=q0B (w.alloc (.cells #[.string ⟨s.toArray⟩,.int .i64 v,.string ⟨ty.toArray⟩,.string ⟨da.toArray⟩,.float .f64 we] 69)) (.cells #[.string ⟨s.toArray⟩,.int .i64 v,.string ⟨ty.toArray⟩,.string ⟨da.toArray⟩,.float .f64 we] 69);have I:=η (m.trans j);have i:=(Blk.new w 69 #[.string ⟨s.toArray⟩,.int .i64 v,.string ⟨ty.toArray⟩,.string ⟨da.toArray⟩,.float .f64 we]).ext j;have d:=Blk.new (w.alloc (.cells #[.string ⟨s.toArray⟩,.int .i64 v,.string ⟨ty.toArray⟩,.string ⟨da.toArray⟩,.float .f64 we] 69)) 69 #[.string ⟨s.toArray⟩,.int .i64 v,.string ⟨ty.toArray⟩,.string ⟨da.toArray⟩,.float .f64 we];rw[ρ] at d;have k0:=i.cell 0;have k1:=i.cell 1;have S:=i.cell 2;have U:=i.cell 3;have X:=i.cell 4;have J:=d.cell 0;have N:=d.cell 1;have O:=d.cell 2;have Q:=d.cell 3;have R:=d.cell 4;have G:=η (fun W=>z9e ⟨ty,da,we⟩ W);clear m j i d;unfold toV;go_enter Tryz.func85,Tryz.ntmps85;go_wp2_with fail;refine(G.o _).mono ?_;rintro e w1 ⟨rfl,y⟩;have q:=η (I.o.trans y);clear y;go_wp2_with fail;go_ret;exact⟨rfl,q.o⟩
theorem y1c{O:Option Addr}{n d:Nat}{T:List To}(w:World)(y:Tos w ao n cap T)(G:Tos w O n d T):
  Calls Tryz.prog 34 #[.slice ao n cap,.slice O n d] w fun r w'=>r= .returned (.bool true)/\Ext w w':=by
 have Q:=η y;have R:=η G;have b1:=y.fits;have b2:=y.bound;have b3:=G.fits;have b4:=G.bound;clear y G;go_enter Tryz.func34,Tryz.ntmps34;go_wp2_with fail
 go_loopw [5] (fun i W=> ∃k:Nat,k<=n/\i= .int .i64 (k:Int)/\Ext w W) (fun i _=>n-(intOf i).toNat)
 case atStart=>exact⟨0,υ _,rfl,Ext.refl _⟩
 case round=>
  obtain⟨k,hk,rfl,m⟩:=hrel;have N:=η m;by_cases j:k<n
  ·have X:decide ((k:Int)<(n:Int))=true:=ζ (by omega)
   have Z:(k:Int)<(n:Int):=by omega
   have q8:IntKind.i64.wrap ((k:Int)+1)=(k:Int)+1:=by rw[ν];omega
   obtain⟨ab,S,rfl,a0,a1,a2,a3,a4⟩:=(Q.o.ext (m.trans (Ext.refl _).drew)).at j;obtain⟨bb,U,rfl,c0,c1,c2,c3,c4⟩:=(R.o.ext (m.trans (Ext.refl _).drew)).at j;generalize T.getD k to0=t at*;have J:=η (z9p t);unfold toV at J;clear m;go_wp2_with fail
   go_region_law (go_simp;first|(go_at_call 85;refine(J.o _).mono ?_;rintro e wa ⟨rfl,q⟩;have I:=η ((N.o.trans (Ext.refl _).drew).trans q);clear q))
   all_goals
    go_wp2_with fail
    go_roundw
    case rel=>exact⟨k+1,by omega,by go_num,I.o⟩
    case measure=>simp[intOf];omega
  ·obtain rfl:k=n:=by omega
   have X:decide ((k:Int)<(k:Int))=false:=ε (by omega);clear m;go_wp2_with fail;go_ret;exact⟨rfl,N.o⟩
theorem q6R : ∀(L:List FM) (ks:List Int) (nm:List UInt8),∃x,q0F FM.nm nm (q0s L ks)=(q0F FM.nm nm L).map fun f=>q2S f x
 |[],ks,nm=>⟨0,rfl⟩
 | f ::r,ks,nm=>by
  by_cases h:f.nm=nm
  ·refine⟨ks.headD 0,?_⟩
   unfold q0F;rw[q0s,List.find?_cons_of_pos (by simpa [q7V] using h),List.find?_cons_of_pos (by simpa using h)]
   rfl
  ·obtain⟨x,d⟩:=q6R r ks.tail nm
   refine⟨x,?_⟩;unfold q0F at d⊢;rw[q0s,List.find?_cons_of_neg (by simpa [q7V] using h),List.find?_cons_of_neg (by simpa using h)];exact d
theorem z2D{f:FM}(h:f.sy=f.da.length)(x:Int):(q2S f x).da=f.da:=by
 unfold q2S;simp only;rw[Δ (by omega)]
theorem z2C(f:FM)(x:Int)(h:f.sy<=f.da.length): ∃j,f.sy<=j/\j<=f.da.length/\(q2S f x).da=f.da.take j:=
 ⟨f.sy+min (max x 0).toNat (f.da.length-f.sy),by omega,by omega,rfl⟩
theorem q8f : ∀(L:List FM) (ks:List Int),q0P (q0s L ks)<=q0P L
 |[],_=>ι _
 | f::r,ks=>by
  have d:=q8f r ks.tail;have i:=z0k f (ks.headD 0);unfold q0P q5I at d⊢;rw[q0s,List.map_cons,List.map_cons,List.sum_cons,List.sum_cons];omega
def upC(σ:DM)(xs:List Int):DM:={q5L σ xs with down:=false,starts:=wrap64 (σ.starts+1)}
theorem z8A(σ:DM)(d:List Int):q6q (q5L σ d)=(0,upC σ d):=by unfold q6q;exact ξ rfl
theorem y2u(σ:DM)(d:List Int):(upC σ d).L=q0s σ.L d:=rfl
def z9u(φ:Fls)(C:Cks):Prop:=
 y0I φ C\/ ∃(D:Cks) (t:List UInt8),D.length<=199/\(∀k:Nat,k<=999999->φ (q0C 99 (k:Int))=if k=D.length then some t else(D[k]?).map (q0L k))/\
  ((t.length<12/\z0Y (q1Y D.length) t=true/\C=D)\/ ∃ps r,C=D++[ps]/\t=q0L D.length ps++r/\z2g r/\0<r.length/\t.length<=4096)
theorem z1V : ∀(x y:List (List UInt8)) (a:Nat),q1u a (x++y)=q1u a x++q1u (a+(x.map fun p=>p.length+12).sum) y
 |[],y,a=>by simp[q1u]
 | p::t,y,a=>by
  rw[List.cons_append,q1u,z1V t y,q1u,List.cons_append,List.map_cons,List.sum_cons]
  congr 3;omega
theorem z0m : ∀(ps qs:List (List UInt8)) (b:Nat) (p:List UInt8),ps=z2F b ps++p::qs->b<((z2F b ps).map fun p=>p.length+12).sum+(p.length+12)
 |[],qs,b,p,h=>by simp[z2F] at h
 | q ::t,qs,b,p,h=>by
  rw[z2F] at h⊢
  split
  ·rename_i d
   rw[ξ d,List.cons_append] at h;injection h with _ h;have:=z0m t qs (b-(q.length+12)) p h;rw[List.map_cons,List.sum_cons];omega
  ·rename_i d
   rw[κ d,List.nil_append] at h;injection h with i j;rw[<-i];simp;omega
structure Left(C C':Cks)(k:Int):Prop where
 pre: ∃R,q0f 0 C=q0f 0 C'++R
 sure: ∀r∈q0f 0 C,((r.1+r.2.length+12:Nat):Int)<=k->r∈q0f 0 C'
 low: ∀r∈q0f 0 C,(r.1:Int)<q2d C'->r∈q0f 0 C'
theorem Left.refl(C:Cks)(k:Int):Left C C k:=⟨⟨[],by simp⟩,fun r h _=>h,fun r h _=>h⟩
theorem Left.gone{D:Cks}{k:Int}{j:Nat}(m:okC (D++[ps]))(y:j<12)(G:k<=(D.length:Int)*4096+(j:Int)):Left (D++[ps]) D k:=by
 have q:q2d D<=(D.length:Int)*4096:=by
  rcases List.eq_nil_or_concat D with rfl|⟨E,o,rfl⟩
  ·exact Int.le_refl _
  ·rw[List.concat_eq_append] at*
   have:=m.size o (by simp);rw[q1C,θ,List.length_singleton];omega
 refine⟨⟨_,q1i D ps⟩,fun r i h=>?_,fun r i h=>?_⟩
 all_goals
  rw[q1i] at i;rcases List.mem_append.1 i with d|d
  ·exact d
  ·have:=q4O _ _ _ d;omega
theorem Left.cut{D:Cks}{k:Int}{b:Nat}(J:k<=(D.length:Int)*4096+12+(b:Int)):Left (D++[ps]) (D++[z2F b ps]) k:=by
 obtain⟨G,i⟩:=q9a ps b;obtain⟨o,q⟩: ∃o,z2F b ps=o:=⟨_,rfl⟩
 have y:=fun p j=>z0m ps j b p
 rw[q] at i y⊢;have e:q0f 0 (D++[ps])=q0f 0 (D++[o])++q1u (4096*D.length+12+(o.map fun p=>p.length+12).sum) G:=by
  rw[q1i,q1i,i,z1V,List.append_assoc]
 refine⟨⟨_,e⟩,fun r m h=>?_,fun r m h=>?_⟩
 ·rw [e] at m
  rcases List.mem_append.1 m with d|d
  ·exact d
  ·exfalso
   cases G with
   |nil=>cases d
   | cons p j=>
    have I:=y p j i;rw[q1u] at d;rcases List.mem_cons.1 d with rfl|d
    ·simp only at h;omega
    ·have:=q4O _ _ _ d;omega
 ·rw [e] at m
  rcases List.mem_append.1 m with d|d
  ·exact d
  ·exfalso
   have:=q4O _ _ _ d;rw[q1C] at h;unfold q0I at h;omega
theorem okC.cut{D:Cks}(h:okC (D++[ps]))(b:Nat):okC (D++[z2F b ps]):=by
 obtain⟨o,i⟩:=q9a ps b;have m:q0I (z2F b ps)<=q0I ps:=by
  unfold q0I
  conv=>rhs;rw[i,List.map_append,List.sum_append]
  omega
 refine⟨by simpa using h.few,fun q hq=>?_,fun q hq=>?_,fun q hq=>h.full q (by simpa using hq)⟩
 ·rcases List.mem_append.1 hq with d|d
  ·exact h.size q (List.mem_append_left _ d)
  ·rw[List.mem_singleton.1 d];exact Ω m (h.size ps (by simp))
 ·rcases List.mem_append.1 hq with d|d
  ·exact h.pay q (List.mem_append_left _ d)
  ·rw[List.mem_singleton.1 d]
   exact fun p j=>h.pay ps (by simp) p (by rw[i];exact List.mem_append_left _ j)
theorem okC.init{D:Cks}(h:okC (D++[ps])):okC D:=
 ⟨by have:=h.few;rw[θ] at this;omega,fun q hq=>h.size q (List.mem_append_left _ hq),fun q hq=>h.pay q (List.mem_append_left _ hq),fun q hq=>h.full q (by rw[List.dropLast_concat];exact List.dropLast_subset _ hq)⟩
theorem z5W(n:Nat)(ps:List (List UInt8))(q: ∀p∈ps,p.length<=2000)(j:Nat):
  (j<12->((q0L n ps).take j).length<12/\z0Y (q1Y n) ((q0L n ps).take j)=true)/\(12<=j-> ∃r,(q0L n ps).take j=q0L n (z2F (j-12) ps)++r/\z2g r):=by
 have m:=q1b n;refine⟨fun h=>?_,fun h=>?_⟩
 ·have e:(q0L n ps).take j=(q1Y n).take j:=by unfold q0L;rw[List.take_append_of_le_length (by omega)]
  have o:((q1Y n).take j).length=j:=by rw[Θ];omega
  rw[e];refine⟨by omega,?_⟩;unfold z0Y;rw[ζ (by omega),Bool.true_and,o];simp
 ·obtain⟨r,d,i⟩:=z1e ps (j-12) q
  refine⟨r,?_,i⟩;unfold q0L;rw[List.take_append,Δ (by omega),m,d,List.append_assoc]
section
variable {st :IxSt}{σ:DM}{c s:Int}{φ:Fls}{u cnt:Nat}{B:List En}{C:Cks}{k0:Int}
theorem Fl.crash(h:Fl σ c s φ u cnt)(q:okD σ)(R:0<=s/\s<1000000)(d:List Int):Fl (upC σ d) c (s+1) (fun nm=>(q0F FM.nm nm (q0s σ.L d)).map FM.da) u cnt:=by
 obtain⟨l,i,G,I,J,N⟩:=h;have o:=y2u σ d;have r:wrap64 (σ.starts+1)=s+1:=by rw[i.st];unfold wrap64;omega
 have m:(q0s σ.L d).map FM.nm=σ.L.map FM.nm:=q5h σ.L d;refine⟨(q0s σ.L d).map fbF,⟨?_,?_,by rw[o],?_,?_⟩,?_,fun nm=>?_,?_,?_⟩
 ·rfl
 ·rfl
 ·exact i.cap
 ·exact r
 ·have j:=q.ord
  unfold q2Q at j⊢;rw[List.pairwise_map];have e: ∀L:List FM,L.Pairwise (fun a b=>bytesBefore a.nm b.nm=true)↔(L.map FM.nm).Pairwise fun x y=>bytesBefore x y=true:=fun L=>by rw[List.pairwise_map]
  show(q0s σ.L d).Pairwise fun a b=>bytesBefore a.nm b.nm=true
  rw[e,m,<-e];exact j
 ·rw[q1t (k:=FM.nm) (k':=Prod.fst) q5O nm (q0s σ.L d),Option.map_map];rfl
 ·have O:=q8f σ.L d
  have j:q1X ((q0s σ.L d).map fbF)=q0P (q0s σ.L d):=by unfold q1X q0P q5I;rw[List.map_map];rfl
  have Q:=i.used;omega
 ·rw[List.length_map,q4A]
  have:σ.L.length=l.length:=by rw[<-i.files,List.length_map]
  omega
theorem CksS.crash(h:PInv st σ c s φ u cnt B)(hc:CksS φ σ C k0)(R:okC C)(ho:okD σ)(hs:0<=s/\s<1000000)(Z:List Int):
  ∃d C',PInv st (upC σ Z) c (s+1) d u cnt B/\(∀nm,z9R nm->d nm=φ nm)/\AllS (upC σ Z).L/\okC C'/\z9u d C'/\Left C C' k0:=by
 have l0:=h.fl.crash ho hs Z;obtain⟨d,i0⟩: ∃d:Fls,(fun nm=>(q0F FM.nm nm (q0s σ.L Z)).map FM.da)=d:=⟨_,rfl⟩
 have q:AllS (upC σ Z).L:=fun f Q=>by
  rw[y2u] at Q;exact q7X σ.L Z ho.sy f Q
 have G: ∀nm,φ nm=(q0F FM.nm nm σ.L).map FM.da:=fun nm=>by
  obtain⟨l,a1,_,a3,_⟩:=h.fl;rw[<-a3,a1.find,Option.map_map];rfl
 have N: ∀nm,d nm=φ nm\/ ∃D ps j,C=D++[ps]/\nm=q0C 99 (D.length:Int)/\d nm=some ((q0L D.length ps).take j)/\j<=(q0L D.length ps).length/\k0<=(D.length:Int)*4096+(j:Int):=fun nm=>by
  obtain⟨x,hx⟩:=q6R σ.L Z nm;have o:d nm=((q0F FM.nm nm σ.L).map fun f=>q2S f x).map FM.da:=by rw[<-i0];simp only;rw[hx]
  cases Q:q0F FM.nm nm σ.L with
  |none=>left;rw[o,G,Q];rfl
  | some f=>
   rw[Q] at o;obtain⟨m1,m2⟩:=q0J Q;rcases hc.sr f m1 with J|⟨j,hj,e,hk⟩
   ·left
    rw[o,G,Q];show some (q2S f x).da=some f.da;rw[z2D J]
   ·right
    rcases List.eq_nil_or_concat C with e0|⟨D,ps,e0⟩
    ·rw[e0] at hj;simp at hj
    ·rw[List.concat_eq_append] at e0
     subst e0;have p0:j=D.length:=by rw[θ,List.length_singleton] at hj;omega
     subst p0;have h3:=hc.i D.length (by have:=R.few;rw[θ] at this;omega);rw[G,<-e,m2,Q] at h3;simp only[Option.map_some,List.getElem?_append_right (ι _),Nat.sub_self,List.getElem?_cons_zero,Option.some.injEq] at h3;obtain⟨i,i1,i2,i3⟩:=z2C f x (ho.sy f m1);refine⟨D,ps,i,rfl,by rw[<-m2,e],?_,by rw[<-h3];exact i2,by omega⟩;rw[o];show some (q2S f x).da=_;rw[i3,h3]
 have I: ∀nm,z9R nm->d nm=φ nm:=fun nm hn=>by
  rcases N nm with o|⟨D,ps,j,e,d0,_⟩
  ·exact o
  ·exact absurd d0 (hn D.length (by have:=R.few;rw[e,θ] at this;omega))
 have f0: ∀nm,d nm≠none->φ nm≠none:=fun nm hn e=>hn (by
  obtain⟨x,hx⟩:=q6R σ.L Z nm;rw[<-i0];simp only;rw[hx];rw[G] at e
  cases Q:q0F FM.nm nm σ.L with
  |none=>rfl
  |some f=>rw[Q] at e;cases e)
 have o0: ∀c':UInt8,(c'=116\/c'=98)-> ∀n:Int,0<=n/\n<=999999->z9R (q0C c' n):=fun c' hc n hn k hk e=>by
  have hl:q2D c'=true:=by rcases hc with rfl|rfl<;>decide
  have:=(z3r hl y3O hn (by omega) e).1;rcases hc with rfl|rfl<;>exact absurd this (by decide)
 rw[i0] at l0
 have hP:PInv st (upC σ Z) c (s+1) d u cnt B:=⟨l0,h.man,h.full,fun n e he=>by
   obtain⟨t0,t1,⟨y,t2⟩,t3,t4⟩:=h.tb n e he;have hr:=h.range t0
   exact⟨t0,(I _ (o0 116 (.inl rfl) n (by omega))).trans t1,⟨y,(I _ (o0 98 (.inr rfl) n (by omega))).trans t2⟩,t3,t4⟩,fun nm hn=>h.only nm (f0 nm hn),h.okw,h.okB,h.mem⟩
 by_cases O: ∀nm,d nm=φ nm
 ·exact⟨d,C,hP,I,q,R,.inl fun k hk=>(O _).trans (hc.i k hk),Left.refl C k0⟩
 ·have g0 : ∃nm,d nm≠φ nm:=by
   rcases Classical.em (∃nm,d nm≠φ nm) with o|o
   ·exact o
   ·exact absurd (fun nm=>Classical.byContradiction fun J=>o ⟨nm,J⟩) O
  obtain⟨nm,r0⟩:=g0;rcases N nm with o|⟨D,ps,j,e,d0,hv,q0,hk⟩
  ·exact absurd o r0
  ·subst e
   have a0:D.length<=199:=by have:=R.few;rw[θ,List.length_singleton] at this;omega
   have S : ∀k:Nat,k<=999999->d (q0C 99 (k:Int))=if k=D.length then some ((q0L D.length ps).take j) else(D[k]?).map (q0L k):=fun k U=>by
    by_cases m:k=D.length
    ·rw[ξ m,m,<-d0];exact hv
    ·rw [κ m]
     rcases N (q0C 99 (k:Int)) with o|⟨D2,u0,j2,e2,b0,_⟩
     ·rw[o,hc.i k U]
      rcases Nat.lt_or_ge k D.length with J|J
      ·rw[List.getElem?_append_left J]
      ·rw[List.getElem?_eq_none (by rw[θ,List.length_singleton];omega),List.getElem?_eq_none J]
     ·exfalso
      have hl:D2.length=D.length:=by
       have:=congrArg List.length e2;rw[θ,θ,List.length_singleton,List.length_singleton] at this;omega
      rw[hl] at b0;exact q9Z U (by omega) m b0
   obtain⟨X,c0⟩:=z5W D.length ps (R.pay ps (by simp)) j;by_cases j0:j<12
   ·obtain⟨s1,s2⟩:=X j0
    exact⟨d,D,hP,I,q,R.init,.inr ⟨D,_,a0,S,.inl ⟨s1,s2,rfl⟩⟩,Left.gone R j0 hk⟩
   ·obtain⟨r,r1,r2⟩:=c0 (by omega)
    have hL:=Left.cut (D:=D) (ps:=ps) (k:=k0) (b:=j-12) (by omega);have n0:=R.cut (j-12);have m0:((q0L D.length ps).take j).length<=4096:=by
     rw[Θ];have:=R.size ps (by simp);rw[q0V] at q0⊢;omega
    rw[r1] at S m0;rcases Nat.eq_zero_or_pos r.length with h0|h0
    ·have s0:r=[]:=List.length_eq_zero_iff.1 h0
     subst s0;refine⟨d,_,hP,I,q,n0,.inl fun k U=>?_,hL⟩;rw[S k U,List.append_nil];by_cases m:k=D.length
     ·rw[ξ m,m,List.getElem?_append_right (ι _),Nat.sub_self];rfl
     ·rw[κ m]
      rcases Nat.lt_or_ge k D.length with J|J
      ·rw[List.getElem?_append_left J]
      ·rw[List.getElem?_eq_none J,List.getElem?_eq_none (by rw[θ,List.length_singleton];omega)]
    ·exact⟨d,_,hP,I,q,n0,.inr ⟨D,_,a0,S,.inr ⟨_,r,rfl,rfl,r2,h0,m0⟩⟩,hL⟩
end
section
variable {st :IxSt}{σ σ':DM}{c s:Int}{φ:Fls}{u cnt:Nat}{B:List En}{C D:Cks}{E:Oth}
theorem z7g(h:PInv st σ c s φ u cnt B){N:List (List UInt8×List UInt8)}(hN:q2Q Prod.fst N)(a0: ∀y∈N,∃k:Nat,k<=999999/\y.1=q0C 99 (k:Int))(hc: ∀k:Nat,k<=999999->(q0F Prod.fst (q0C 99 (k:Int)) N).map Prod.snd=φ (q0C 99 (k:Int))):
  ∃E,Pl σ c s (E.X++(N++E.Z))/\okOth E/\(∀nm,z9R nm->(q0F Prod.fst nm (E.X++E.Z)).map Prod.snd=φ nm)/\q1V E+q1X N<=u/\E.X.length+N.length+E.Z.length<=cnt/\q2Q Prod.fst (E.X++(N++E.Z)):=by
 obtain⟨l,g0,i,I,n0,m0⟩:=h.fl;have O: ∀y∈l,φ y.1≠none:=fun y d e=>by
  have:=I y.1;rw[q3F i d rfl,e] at this;cases this
 have S:=q5x (r:=fun x y:List UInt8×List UInt8=>bytesBefore x.1 y.1=true) (p:=fun y:List UInt8×List UInt8=>bytesBefore y.1 [99]) (fun x y h1 h2=>WideShapes.bytes_trans _ _ _ h1 h2) i;have hr:=i.filter (p:=fun y:List UInt8×List UInt8=>!bytesBefore y.1 [99]);have p2:=q5x (r:=fun x y:List UInt8×List UInt8=>bytesBefore x.1 y.1=true) (p:=fun y:List UInt8×List UInt8=>bytesBefore y.1 [100]) (fun x y h1 h2=>WideShapes.bytes_trans _ _ _ h1 h2) hr;obtain⟨X,hX⟩: ∃X,l.filter (fun y=>bytesBefore y.1 [99])=X:=⟨_,rfl⟩
 obtain⟨R,hR⟩: ∃R,l.filter (fun y=>!bytesBefore y.1 [99])=R:=⟨_,rfl⟩
 obtain⟨M,hM⟩: ∃M,R.filter (fun y=>bytesBefore y.1 [100])=M:=⟨_,rfl⟩
 obtain⟨Z,hZ⟩: ∃Z,R.filter (fun y=>!bytesBefore y.1 [100])=Z:=⟨_,rfl⟩
 rw[hX,hR] at S;rw[hR,hM,hZ] at p2;rw[p2] at S;have mX: ∀y,y∈X↔y∈l/\bytesBefore y.1 [99]=true:=fun y=>by rw[<-hX,List.mem_filter]
 have mR: ∀y,y∈R↔y∈l/\bytesBefore y.1 [99]=false:=fun y=>by rw[<-hR,List.mem_filter];simp
 have mM: ∀y,y∈M↔y∈l/\bytesBefore y.1 [99]=false/\bytesBefore y.1 [100]=true:=fun y=>by rw[<-hM,List.mem_filter,mR];simp[and_assoc]
 have mZ: ∀y,y∈Z↔y∈l/\bytesBefore y.1 [99]=false/\bytesBefore y.1 [100]=false:=fun y=>by rw[<-hZ,List.mem_filter,mR];simp[and_assoc]
 have j: ∀n∈st.m.L.flatten,0<=n/\n<=999999:=fun n G=>by have:=h.range G;omega
 have U: ∀y,y∈X\/y∈Z->y.1=mapN\/ ∃n∈st.m.L.flatten,y.1=q0C 116 n\/y.1=q0C 98 n:=fun y d=>by
  have hl:y∈l:=d.elim (fun h=>((mX y).1 h).1) fun h=>((mZ y).1 h).1
  rcases h.only y.1 (O y hl) with e|e|⟨k,o,e⟩
  ·exact .inl e
  ·exact .inr e
  ·exfalso
   obtain⟨_,b2,b3⟩:=q2j o;rcases d with d|d
   ·have:=((mX y).1 d).2;rw[e,b3] at this;cases this
   ·have:=((mZ y).1 d).2.2;rw[e,b2] at this;cases this
 have c0: ∀y∈M,∃k:Nat,k<=999999/\y.1=q0C 99 (k:Int):=fun y d=>by
  obtain⟨hl,q1,q2⟩:=(mM y).1 d;rcases h.only y.1 (O y hl) with e|⟨n,G,e|e⟩|e
  ·rw[e,before_map.1] at q2;cases q2
  ·rw[e,(q5g (j n G)).2.1] at q2;cases q2
  ·rw[e,(q5g (j n G)).1] at q1;cases q1
  ·exact e
 have Q:=i;rw[S] at Q;obtain⟨oX,i0,_⟩:=List.pairwise_append.1 Q;obtain⟨oM,oZ,_⟩:=List.pairwise_append.1 i0;have b0:M=N:=q9z oM hN fun nm=>by
  by_cases J: ∃k:Nat,k<=999999/\nm=q0C 99 (k:Int)
  ·obtain⟨k,o,rfl⟩:=J
   rw[hc k o,<-I];obtain⟨_,b2,b3⟩:=q2j o;rw[S,q0Q fun y d e=>?_,q0v fun y d e=>?_]
   ·have:=((mZ y).1 d).2.2;rw[show y.1=q0C 99 (k:Int) from e,b2] at this;cases this
   ·have:=((mX y).1 d).2;rw[show y.1=q0C 99 (k:Int) from e,b3] at this;cases this
  ·rw[q0S fun y d e=>J (by obtain⟨k,o,e2⟩:=c0 y d;exact⟨k,o,by rw[<-e2];exact e.symm⟩),q0S fun y d e=>J (by obtain⟨k,o,e2⟩:=a0 y d;exact⟨k,o,by rw[<-e2];exact e.symm⟩)]
 rw[b0] at S;have e0:=h.noNew;have l0:q1X l=q1V ⟨X,Z⟩+q1X N:=by
  rw[S,q0d,q0d];unfold q1V;simp only;omega
 have j0:l.length=X.length+N.length+Z.length:=by rw[S];simp;omega
 refine⟨⟨X,Z⟩,?_,⟨fun y d k o=>?_,fun y d k o=>?_,fun y d e=>?_,fun y d hp=>?_,fun y d=>?_,?_⟩,fun nm J=>?_,by omega,by simp only;omega,?_⟩
 ·show Pl σ c s (X++(N++Z))
  rw[<-S];exact g0
 ·exact WideShapes.bytes_trans _ _ _ ((mX y).1 d).2 (q2j o).1
 ·by_cases q:y.1=[100]
  ·rw[q];exact(q2j o).2.1
  ·rcases WideAt.bytes_total y.1 [100] q with q|q
   ·rw[((mZ y).1 d).2.2] at q;cases q
   ·exact WideShapes.bytes_trans _ _ _ (q2j o).2.1 q
 ·have hl:y∈l:=d.elim (fun h=>((mX y).1 h).1) fun h=>((mZ y).1 h).1
  exact O y hl (by rw[e];exact e0)
 ·rcases U y d with e|⟨n,G,e|e⟩
  ·rw[e] at hp;exact absurd hp (by decide)
  ·rw[e,q1h y0x (j n G)];exact(by decide:(116:UInt8)≠99)
  ·rw[e,q1h y3l (j n G)];exact(by decide:(98:UInt8)≠99)
 ·rcases U y d with e|⟨n,G,e|e⟩
  ·rw[e];decide
  ·rw[e,q0U (j n G),χ,q0Y];decide
  ·rw[e,q0U (j n G),χ,q0Y];decide
 ·have d0:((X++Z).map Prod.fst).Nodup:=by
   have ho:q2Q Prod.fst (X++Z):=by
    rw[S] at i;exact i.sublist (List.Sublist.append (List.Sublist.refl X) (List.sublist_append_right _ _))
   exact List.pairwise_map.2 (q8x ho)
  have hb:=Man.bounds h.man;have:=q4v (m:=mapN::(st.m.L.flatten.map (q0C 116)++st.m.L.flatten.map (q0C 98))) d0 fun x hx=>by
   obtain⟨y,d,rfl⟩:=List.mem_map.1 hx;rcases U y (List.mem_append.1 d) with e|⟨n,G,e|e⟩
   ·rw[e];exact .head _
   ·rw[e];exact .tail _ (List.mem_append.2 (.inl (List.mem_map.2 ⟨n,G,rfl⟩)))
   ·rw[e];exact .tail _ (List.mem_append.2 (.inr (List.mem_map.2 ⟨n,G,rfl⟩)))
  simp only[List.length_map,θ,χ] at this;simp only;omega
 ·rw [<-I,S]
  show(q0F Prod.fst nm (X++Z)).map Prod.snd=_;have f0: ∀y∈N,Prod.fst y≠nm:=fun y d e=>by
   obtain⟨k,o,e2⟩:=a0 y d;exact J k o (by rw[<-e2];exact e.symm)
  unfold q0F;rw[List.find?_append,List.find?_append,List.find?_append];have h0:List.find? (fun y=>Prod.fst y==nm) N=none:=q0S f0;rw[h0];simp
 ·show q2Q Prod.fst (X++(N++Z))
  rw[<-S];exact i
theorem z9q{D:Cks}{t:List UInt8}(r:D.length<=199):q2Q Prod.fst (q3P 0 D++[(q0C 99 (D.length:Int),t)]):=by
 refine List.pairwise_append.2 ⟨q9U D 0 (by omega),List.pairwise_singleton _ _,fun x i y m=>?_⟩;obtain⟨j,o,q,d⟩:=q2k i;rw[List.mem_singleton.1 m,d];exact q4Z (by omega) (by omega) (by omega)
theorem z7v{D:Cks}{t:List UInt8}(r:D.length<=199)(i:k<=999999):(q0F Prod.fst (q0C 99 (k:Int)) (q3P 0 D++[(q0C 99 (D.length:Int),t)])).map Prod.snd=if k=D.length then some t else(D[k]?).map (q0L k):=by
 by_cases d:k=D.length
 ·rw[ξ d,d,q0Q (q3e (by omega) (by omega) fun j _ q=>by omega)]
  unfold q0F;rw[List.find?_cons_of_pos (by simp)]
  rfl
 ·rw [κ d,q0v fun y o e=>?_]
  ·exact q9T (by omega) i
  ·rw[List.mem_singleton.1 o] at e
   exact q9Z (by omega) i (fun m=>d m.symm) e
end
end
end Go.Proofs.YtfiibpgoplcgkaaGreatDoor
