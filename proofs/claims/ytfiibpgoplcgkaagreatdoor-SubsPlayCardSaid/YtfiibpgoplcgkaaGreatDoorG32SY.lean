/- Walks. -/
import Derived.Test.YtfiibpgoplcgkaaGreatDoorG30SY
import Derived.Test.YtfiibpgoplcgkaaGreatDoorG16SY
import Derived.Test.YtfiibpgoplcgkaaGreatDoorG31SY
set_option linter.unusedVariables false
set_option linter.unusedSimpArgs false
set_option maxRecDepth 100000
set_option maxHeartbeats 12800000
namespace Go.Proofs.YtfiibpgoplcgkaaGreatDoor
variable {r:Int}{p:List UInt8}
section
open Go.RowKit
section
variable {wb w w1 w2:World}{g gx gl gm gt:Nat}{st:IxSt}{F Y K:Nat->Prop}{σ σ':DM}{c s sure:Int}{φ:Fls}{u cnt:Nat}{B:List En}{v:Value}
theorem IxK.thru(h:IxK wb w g gx st σ K){n:Int}{e:TE}(he:st.t n=some e): ∀x∈e.L,e.may x.1=true:=by
 obtain⟨F,gm,gt,Y,b⟩:=h;exact(b.tb he).t.thru
theorem z3Q(h:PInv st σ c s φ u cnt B)(x a:Int): ∀(ns:List Int) (out:Int) (k0:Nat),-1<=out->(∀n∈ns,n∈st.m.L.flatten)->
  ∃k r,q2t st x (min a 1073741824) (tellN k0 σ) ns out=(r,0,tellN k σ)/\out<=r/\(∀n∈ns,z5L (TL st n) x (min a 1073741824)<=r)/\(r=out\/ ∃n∈ns,r=z5L (TL st n) x (min a 1073741824))
 |[],out,k0,_,_=>⟨k0,out,by rw[q2t],Int.le_refl _,(fun n l=>by cases l),.inl rfl⟩
 | n :: ns, out,k0,ho,l=>by
  obtain⟨e,he⟩:=h.full n (l n (by simp));have j:=h.tb n e he;obtain⟨k,_,_,b⟩:=z8f ((h.wl he).tellN k0) j.2.2.2.1.sort j.2.2.2.1.ok j.2.2.2.2 x (min a 1073741824);rw[show min (min a 1073741824) 1073741824=min a 1073741824 by omega] at b;have i: ∃z,z5L (TL st n) x (min a 1073741824)=z/\(∃y ok,q3J (tellN k0 σ) n e.L e.may x (min a 1073741824)=(y,ok,0,tellN (k0+k) σ)/\(if ok then max out y.2.1 else out)=max out z):=by
   rw[q3Y he];by_cases I:min a 1073741824<0
   ·rw [ξ I] at b
    have o:z5L e.L x (min a 1073741824)= -1:=by
     have M:=q6i j.2.2.2.1.sort x (min a 1073741824);rcases M.2 with q|⟨y,Q,_,N,G⟩
     ·exact q
     ·have:=j.2.2.2.1.ok y Q
      unfold q3W at this;simp at this;omega
    refine⟨-1,o,en0,false,by rw[b];simp only;rw[q3P],?_⟩;rw[κ (by decide)];omega
   ·rw [κ I] at b
    unfold z5L
    cases hl:q2y e.L x (min a 1073741824) with
    | none=>
     rw[hl] at b;refine⟨-1,rfl,en0,false,by rw[b];simp only;rw[q3P],?_⟩;rw[κ (by decide)];omega
    | some y=>
     rw[hl] at b;exact⟨y.2.1,rfl,y,true,by rw[b];simp only;rw[q3P],by rw[ξ rfl]⟩
  obtain⟨z,o,y,ok,E,hmx⟩:=i;obtain⟨R,r,q,N,G,d⟩:=z3Q h x a ns (max out z) (k0+k) (by omega) (fun m hm=>l m (by simp[hm]));refine⟨R,r,?_,by omega,fun m hm=>?_,?_⟩
  ·rw[q2t,he]
   simp only;rw[E];simp only;rw[κ (fun h=>h rfl),hmx,q]
  ·rcases List.mem_cons.1 hm with J|hm
   ·rw[J,o];omega
   ·exact G m hm
  ·rcases d with d|⟨m,hm,d⟩
   ·rcases Int.le_total out z with O|O
    ·exact .inr ⟨n,by simp,by rw[d,o];omega⟩
    ·exact .inl (by rw[d];omega)
   ·exact .inr ⟨m,by simp[hm],d⟩
theorem PInv.lastIs(h:PInv st σ c s φ u cnt B)(x a:Int): ∃k r,q2t st x (min a 1073741824) σ st.m.L.flatten (z5L st.w x (min a 1073741824))=(r,0,tellN k σ)/\z2l B x (min a 1073741824) r:=by
 have j:=q6i h.okw.sort x (min a 1073741824);have o: -1<=z5L st.w x (min a 1073741824):=by
  rcases j.2 with e|⟨y,b,_,_,G⟩
  ·omega
  ·have:=h.okw.ok y b
   unfold q3W at this;simp at this;omega
 obtain⟨k,r,M,Q,N,G⟩:=z3Q h x a st.m.L.flatten _ 0 o (fun n q=>q);refine⟨k,r,M,fun y b d i=>?_,?_⟩
 ·rcases(h.mem y).1 b with l|⟨n,e,he,l⟩
  ·have:=j.1 y l d i;omega
  ·have I:=(q6i (h.tb n e he).2.2.2.1.sort x (min a 1073741824)).1 y l d i
   have O:=N n (h.tb n e he).1;rw[q3Y he] at O;omega
 ·rcases G with e|⟨n,q,e⟩
  ·rcases j.2 with J|⟨y,b,d,i,I⟩
   ·exact .inl (by omega)
   ·exact .inr ⟨y,(h.mem y).2 (.inl b),d,i,by omega⟩
  ·obtain⟨E,he⟩:=h.full n q
   rw[q3Y he] at e;rcases(q6i (h.tb n E he).2.2.2.1.sort x (min a 1073741824)).2 with J|⟨y,b,d,i,I⟩
   ·exact .inl (by omega)
   ·exact .inr ⟨y,(h.mem y).2 (.inr ⟨n,E,he,b⟩),d,i,by omega⟩
end
section
variable {w w':World}{t g gx gm gt:Nat}{n:Int}{L:List En}{may:Int->Bool}{T Y:Nat->Prop}{st:IxSt}{v:Value}{vs:List Value}{vm:Value}{D:DataW Unit}{nn:Nat}
theorem z6U{i:Nat}(h:i<w.heap.size)(e:w'.heap[i]? =w.heap[i]?):i<w'.heap.size:=by
 rw[Array.getElem?_eq_getElem h] at e;exact(Array.getElem?_eq_some_iff.1 e).1
theorem Tb.stay(h:Tb w t g n L may T)(k: ∀i,T i->w'.heap[i]? =w.heap[i]?):Tb w' t g n L may T:=by
 obtain⟨v,p,s,mv,D,j,l,o,q,d,x⟩:=h;exact⟨v,p,s,mv,D,j.same fun i b=>k i (d i b),l,o,q,d,fun i b=>z6U (x i b) (k i b)⟩
theorem IxI.stay(h:IxI w gx g gm gt st v vs vm D nn Y)(k: ∀i,InX gx gm gt i\/Y i->w'.heap[i]? =w.heap[i]?):IxI w' gx g gm gt st v vs vm D nn Y:=
 ⟨h.blk.same (k _ (.inl (.inl rfl))),h.mem.same fun i b=>b.elim (fun e=>k i (.inl (.inr (.inl e)))) fun e=>k i (.inr (h.inY i (.inr (.inr e)))),
  q4j h.lev fun i b=>k i (.inr (h.inY i (b.elim .inl fun e=> .inr (.inl e)))),q2Q h.map (k _ (.inl (.inr (.inr rfl)))),h.cnt,h.look,
  fun n e d=>(h.tab n e d).stay fun i b=>k i (.inr b),h.inY,fun i b=>z6U (h.lt i b) (k i (.inr b)),h.apart,h.ne⟩
theorem IxY.stay(h:IxY w gx g gm gt st Y)(k: ∀i,InX gx gm gt i\/Y i->w'.heap[i]? =w.heap[i]?):IxY w' gx g gm gt st Y:=by
 obtain⟨b,v,vs,vm,D,nn,d⟩:=h;exact⟨b,v,vs,vm,D,nn,d.stay k⟩
end
def IXG(wb W:World)(g gx gl:Nat)(rate:Nat)(m:Man)(ws:List En)(c s:Int)(u cnt:Nat)(B:List En)(C:Cks)(sure:Int)(K:Nat->Prop):Prop:=
 ∃st σ φ gv,st.m=m/\st.w=ws/\st.rate=rate/\st.c<=cnt/\IxK wb W g gx st σ (fun i=>K i\/q8P gl gv i)/\(PInv st σ c s φ u cnt B/\q9E φ m/\z9g st φ σ C sure)/\(LogM W gl g s gv (q0N C) sure/\okC C)/\(∀i,q8P gl gv i->¬K i/\wb.heap.size<=i)
section
variable {wb W W':World}{g gx gl rate:Nat}{m:Man}{ws:List En}{c s:Int}{u cnt:Nat}{B:List En}{C C':Cks}{sure:Int}{K K':Nat->Prop}
theorem IXG.base(h:IXG wb W g gx gl rate m ws c s u cnt B C sure K):Ext wb W:=by obtain⟨st,σ,φ,d,i,j,l,o,b,q,x,y⟩:=h;exact b.base
theorem IXG.grow(h:IXG wb W g gx gl rate m ws c s u cnt B C sure K)(k:Ext W W'):IXG wb W' g gx gl rate m ws c s u cnt B C sure K:=by
 obtain⟨st,σ,φ,d,i,j,l,o,q,x,b,y⟩:=h;exact⟨st,σ,φ,d,i,j,l,o,q.grow k,x,⟨b.1.ext k,b.2⟩,y⟩
theorem IXG.kExt(h:IXG wb W g gx gl rate m ws c s u cnt B C sure K)(k:Ext W W'):Stay K W W':=by
 obtain⟨st,σ,φ,j,l,o,q,x,b,y,E,G⟩:=h;exact fun i d=>b.kExt k i (.inl d)
theorem IXG.klt(h:IXG wb W g gx gl rate m ws c s u cnt B C sure K): ∀i,K i->i<W.heap.size:=by
 obtain⟨st,σ,φ,d,j,l,o,x,⟨F,gm,gt,Y,q⟩,y,E,G⟩:=h;exact fun i b=>(q.k i (.inl b)).1
theorem IXG.mono(h:IXG wb W g gx gl rate m ws c s u cnt B C sure K){u' cnt':Nat}(y:u<=u')(hc:cnt<=cnt'):IXG wb W g gx gl rate m ws c s u' cnt' B C sure K:=by
 obtain⟨st,σ,φ,d,i,j,l,E,o,b,q,x⟩:=h;exact⟨st,σ,φ,d,i,j,l,by omega,o,⟨b.1.mono y hc,b.2⟩,q,x⟩
theorem IXG.more(h:IXG wb W g gx gl rate m ws c s u cnt B C sure K)(k:Ext W W')(hK: ∀i,K' i->K i\/(W.heap.size<=i/\i<W'.heap.size)):IXG wb W' g gx gl rate m ws c s u cnt B C sure K':=by
 obtain⟨st,σ,φ,o,q,x,y,E,G,I,j,l⟩:=h;refine⟨st,σ,φ,o,q,x,y,E,G.more k (fun i b=>?_),I,⟨j.1.ext k,j.2⟩,fun i b=>⟨fun J=>?_,(l i b).2⟩⟩
 ·rcases b with b|b
  ·exact(hK i b).imp .inl id
  ·exact .inl (.inr b)
 ·rcases hK i J with d|⟨d,_⟩
  ·exact(l i b).1 d
  ·have:=j.1.lt b;omega
theorem IXG.beside(h:IXG wb W g gx gl rate m ws c s u cnt B C sure K)(k: ∀i,K' i->K i):IXG wb W g gx gl rate m ws c s u cnt B C sure K':=by
 obtain⟨st,σ,φ,j,l,o,q,x,y,E,G,d⟩:=h;exact⟨st,σ,φ,j,l,o,q,x,y.beside (fun i b=>b.imp (k i) id),E,G,fun i b=>⟨fun I=>(d i b).1 (k i I),(d i b).2⟩⟩
theorem IXG.sideM(h:IXG wb W g gx gl rate m ws c s u cnt B C sure K)(N:W.heap.size<=W'.heap.size)(O:Ext wb W')(k: ∀i,i<W.heap.size->¬K i->W'.heap[i]? =W.heap[i]?)(hK: ∀i,K' i->K i\/(W.heap.size<=i/\i<W'.heap.size)):
  IXG wb W' g gx gl rate m ws c s u cnt B C sure K':=by
 obtain⟨st,σ,φ,o,q,x,y,E,G,I,j,l⟩:=h;refine⟨st,σ,φ,o,q,x,y,E,G.sideM N O (fun i b M=>k i b fun e=>M (.inl e)) (fun i b=>?_),I,⟨j.1.same fun i b=>k i (j.1.lt b) (l i b).1,j.2⟩,fun i b=>⟨fun J=>?_,(l i b).2⟩⟩
 ·rcases b with b|b
  ·exact(hK i b).imp .inl id
  ·exact .inl (.inr b)
 ·rcases hK i J with d|⟨d,_⟩
  ·exact(l i b).1 d
  ·have:=j.1.lt b;omega
theorem IXG.okB(h:IXG wb W g gx gl rate m ws c s u cnt B C sure K):okM B/\okM ws/\ws.length<=B.length:=by obtain⟨st,σ,φ,d,rfl,rfl,i,j,l,b,o,q⟩:=h;exact⟨b.1.okB,b.1.okw,b.1.wlen⟩
theorem IXG.cOk(h:IXG wb W g gx gl rate m ws c s u cnt B C sure K):okC C:=by obtain⟨st,σ,φ,d,rfl,rfl,i,j,l,o,b,q⟩:=h;exact b.2
theorem y1k{st:IxSt}{σ:DM}{φ:Fls}{N:Value}(h5:IxK wb W g gx st σ (fun i=>K i\/q8P gl N i))(U:PInv st σ c s φ u cnt B/\q9E φ st.m/\z9g st φ σ C sure)(V:LogM W gl g s N (q0N C) sure/\okC C)(h8: ∀i,q8P gl N i->¬K i/\wb.heap.size<=i):
  ∃ (E :Oth) (K2:Nat->Prop),LgV E wb W g gl N (c-(q2a E:Int)) s C sure K2/\(∀i,K i->K2 i)/\c-(u:Int)<=c-(q2a E:Int)-(q0q C:Int)/\
   ∀ (W':World) (I:Value) (C':Cks) (o:Int) (d e:Nat),LgV E wb W' g gl I (c-(q2a E:Int)) s C' o K2->Stay K2 W W'->q0q C'<=q0q C+d->C'.length<=C.length+e->
    ∃σ' G,IxK wb W' g gx st σ' (fun i=>K i\/q8P gl I i)/\(PInv st σ' c s G (u+d) (cnt+e) B/\q9E G st.m/\z9g st G σ' C' o)/\(LogM W' gl g s I (q0N C') o/\okC C')/\(∀i,q8P gl I i->¬K i/\wb.heap.size<=i):=by
 obtain⟨F,gm,gt,Y,q⟩:=h5;obtain⟨U,R,O⟩:=U;obtain⟨V,hC⟩:=V;obtain⟨E,e1,e2,e3,e4⟩:=q7p U O.toCksS hC;have M: ∀i,q8P gl N i->¬F i/\¬InX gx gm gt i/\¬Y i:=fun i j=>(q.k i (.inr j)).2
 refine⟨E,fun i=>K i\/InX gx gm gt i\/Y i,⟨F,σ,⟨q.i.d,V,fun i J j=>(M i j).1 J,q.bF,fun i j=>(h8 i j).2,q.ext,fun i j=>?_⟩,e1⟩,fun i j=> .inl j,by omega,?_⟩
 ·rcases j with j|j|j
  ·obtain⟨a,b,_⟩:=q.k i (.inl j)
   exact⟨a,b,fun Q=>(h8 i Q).1 j⟩
  ·exact⟨q.i.x.xlt i j,fun J=>(q.i.ap i J).1 j,fun Q=>(M i Q).2.1 j⟩
  ·exact⟨q.i.x.ylt i j,fun J=>(q.i.ap i J).2 j,fun Q=>(M i Q).2.2 j⟩
 ·rintro W' I C' o d e ⟨F',σ',y,l2⟩ Z hd he
  obtain⟨G,p1,p2,p3⟩:=U.relog e2 l2 y.d.okD (u':=u+d) (cnt':=cnt+e) (by omega) (by omega);have hm:G mapN=φ mapN:=p3 mapN fun k X e=>(q3j X).1 e.symm
  refine⟨σ',G,⟨F',gm,gt,Y,⟨⟨y.d,q.i.x.stay fun i j=>Z i (.inr j),fun i J=>⟨fun hx=>(y.k i (.inr (.inl hx))).2.1 J,fun hy=>(y.k i (.inr (.inr hy))).2.1 J⟩⟩,y.bF,q.bX,q.bY,y.ext,fun i j=>?_⟩⟩,
   ⟨p1,by unfold q9E;rw[hm];exact R,p2,O.old⟩,⟨y.l,l2.ok⟩,fun i j=>⟨fun X=>(y.k i (.inl X)).2.2 j,y.bG i j⟩⟩
  rcases j with j|j
  ·obtain⟨_,_,c1,c2⟩:=q.k i (.inl j)
   obtain⟨a,b,_⟩:=y.k i (.inl j);exact⟨a,b,c1,c2⟩
  ·exact⟨y.l.lt j,fun J=>y.ap i J j,fun hx=>(y.k i (.inr (.inl hx))).2.2 j,fun hy=>(y.k i (.inr (.inr hy))).2.2 j⟩
theorem IXG.log(h:IXG wb W g gx gl rate m ws c s u cnt B C sure K):
  ∃ (E:Oth) (j:Nat->Prop),LgK E wb W g gl (c-(q2a E:Int)) s C sure j/\(∀i,K i->j i)/\c-(u:Int)<=c-(q2a E:Int)-(q0q C:Int)/\
   ∀(W':World) (C':Cks) (b:Int) (d e:Nat),LgK E wb W' g gl (c-(q2a E:Int)) s C' b j->Stay j W W'->q0q C'<=q0q C+d->C'.length<=C.length+e->IXG wb W' g gx gl rate m ws c s (u+d) (cnt+e) B C' b K:=by
 obtain⟨st,σ,φ,gv,rfl,rfl,rfl,h4,x,y,G,I⟩:=h;obtain⟨E,j,O,Q,R,U⟩:=y1k x y G I;refine⟨E,j,O.toK,Q,R,fun W' C' b d e M o J he=>?_⟩;obtain⟨l,N⟩:=M.toV;obtain⟨σ',q,V,X,Z,q4⟩:=U W' l C' b d e N o J he;exact⟨st,σ',q,l,rfl,rfl,rfl,by omega,V,X,Z,q4⟩
theorem CksS.kp{φ b:Fls}{σ σ':DM}{k:Int}(h:CksS φ σ C k)(o:Kp σ σ')(d:Fl σ c s φ u cnt)(j:y1H b C):CksS b σ' C k:=
 ⟨j,h.sr.kp o d.up (by obtain⟨l,i,_⟩:=d;exact i.fine),h.le⟩
theorem PInv.tellB{st:IxSt}{σ:DM}{φ:Fls}{k0:Int}(h:PInv st σ c s φ u cnt B)(k:Nat)(b:q9E φ m/\z9g st φ σ C k0):q9E φ m/\z9g st φ (tellN k σ) C k0:=⟨b.1,b.2.toCksS.kp (Kp.tells k σ) h.fl b.2.i,b.2.old⟩
theorem z0P{fr x:Int}{C C':Cks}(E:p.length<=2000)(y:C.length<200)(b:q1E fr C p=(x,r,C')):
  (r=0/\q0q C'<=q0q C+(p.length+24)/\C'.length<=C.length+1)\/(r=60/\x=0/\C'=C/\fr-((p.length:Int)+24)<6000):=by
 unfold q1E at b;rw[κ (by omega)] at b;by_cases j:q3v C p=true
 ·rw [ξ j] at b
  split at b
  ·injection b with l b
   injection b with d o;exact .inr ⟨d.symm,l.symm,o.symm,by omega⟩
  ·injection b with _ b
   injection b with d b;subst b;rcases List.eq_nil_or_concat C with i|⟨D,ps,i⟩
   ·subst i;unfold q3v at j;simp at j
   ·rw[List.concat_eq_append] at i
    subst i;refine .inl ⟨d.symm,?_⟩;simp[q0q,q2J];omega
 ·rw [κ j] at b
  split at b
  ·rename_i q
   injection b with l b;injection b with d o;exact .inr ⟨d.symm,l.symm,o.symm,by omega⟩
  ·injection b with _ b
   injection b with d b;subst b;refine .inl ⟨d.symm,?_⟩;simp[q0q,q4c];omega
theorem IXG.append(h:IXG wb W g gx gl rate m ws c s u cnt B C sure K)(p:List UInt8)(O:p.length<=2000)(M:C.length<200):
  Calls Tryz.prog 88 #[.pointer (some ⟨gl,0,none⟩),.string ⟨p.toArray⟩] W fun e w'=>
   ((∃f x C' b,q1E f C p=(x,0,C')/\e= .returned (.tuple #[.int .i64 x,.int .i64 0])/\IXG wb w' g gx gl rate m ws c s (u+(p.length+24)) (cnt+1) B C' b K/\sure<=b)\/
    (e= .returned (.tuple #[.int .i64 0,.int .i64 60])/\IXG wb w' g gx gl rate m ws c s u cnt B C sure K/\c-(u:Int)-((p.length:Int)+24)<6000))/\Stay K W w':=by
 obtain⟨E,R,o,J,V,q⟩:=h.log;have j:=o.le.2;obtain⟨x,r,C',d⟩: ∃x r C',q1E (c-(q2a E:Int)-(q0q C:Int)) C p=(x,r,C'):=⟨_,_,_,rfl⟩
 refine(z7i o p (by omega) d rfl).mono ?_;rintro e w' ⟨rfl,k1,l⟩;refine⟨?_,fun i N=>l i (J i N)⟩;rcases z0P O M d with⟨rfl,G,I⟩|⟨rfl,rfl,rfl,U⟩
 ·exact .inl ⟨_,x,C',_,d,rfl,q _ _ _ _ _ k1 l G I,by unfold q3n;split;exact j;exact Int.le_refl _⟩
 ·have Q:q3n (c-(q2a E:Int)-(q0q C':Int)) sure C' p=sure:=by
   unfold q3n;rw[κ fun y=>by rw[d] at y;exact absurd y.1 (by show ¬(60:Int)=0;decide)]
  rw[Q] at k1;exact .inr ⟨rfl,q _ _ _ 0 0 k1 l (ι _) (ι _),by omega⟩
theorem IXG.same(h:IXG wb W g gx gl rate m ws c s u cnt B C sure K){f:FuncId}{P:Program}{args:Array Value}{R:Ending->Prop}{b:Int}(hc: ∀E c d,LgK E wb W g gl c s C sure d->Calls P f args W fun e w'=>R e/\LgK E wb w' g gl c s C b d/\Stay d W w'):
  Calls P f args W fun e w'=>R e/\IXG wb w' g gx gl rate m ws c s u cnt B C b K/\Stay K W w':=by
 obtain⟨E,d,l,o,y,q⟩:=h.log;refine(hc _ _ _ l).mono ?_;rintro e w' ⟨he,k1,j⟩;exact⟨he,q _ _ _ 0 0 k1 j (ι _) (ι _),fun i x=>j i (o i x)⟩
theorem IXG.next(h:IXG wb W g gx gl rate m ws c s u cnt B C sure K)(pos:Int)(d: -9223372036854775808<=pos)(i:pos<=9223372036854775807){r:Option (Nat×List UInt8)}(he:q3a C pos=r):
  Calls Tryz.prog 102 #[.pointer (some ⟨gl,0,none⟩),.int .i64 pos] W fun e w'=>e= .returned (q9k r)/\IXG wb w' g gx gl rate m ws c s u cnt B C sure K/\Stay K W w':=
 h.same fun _ _ _ b=>y1z b pos d i he
theorem IXG.read(h:IXG wb W g gx gl rate m ws c s u cnt B C sure K)(pos:Int)(d: -9223372036854775808<=pos)(i:pos<=9223372036854775807)(he:q5i C pos=(p,r)):
  Calls Tryz.prog 181 #[.pointer (some ⟨gl,0,none⟩),.int .i64 pos] W fun e w'=>e= .returned (.tuple #[.string ⟨p.toArray⟩,.int .i64 r])/\IXG wb w' g gx gl rate m ws c s u cnt B C sure K/\Stay K W w':=
 h.same fun _ _ _ b=>y2L b pos d i he
theorem IXG.add(h:IXG wb W g gx gl rate m ws c s u cnt B C sure K){e:En}(he:q3W e=true)(O:B.length<50000):
  Calls Tryz.prog 90 #[.pointer (some ⟨gx,0,none⟩),enV e] W fun r w'=>r= .returned (.int .i64 0)/\IXG wb w' g gx gl rate m (q3d e ws) c s u cnt (q3d e B) C sure K/\Stay K W w':=by
 obtain⟨st,σ,φ,x,y,E,G,I,J,⟨q,b⟩,⟨M,l⟩,N⟩:=h;refine(y1f J he (by have:=q.wlen;omega)).mono ?_;rintro r w' ⟨rfl,j,d⟩;exact⟨rfl,⟨{st with w:=q3d e st.w},σ,φ,x,y,by rw[<-E],G,I,j,⟨q.add he O,b.1,b.2.toCksS,b.2.old⟩,⟨M.same fun i o=>d i (.inr o),l⟩,N⟩,fun i o=>d i (.inl o)⟩
theorem IXG.tells(h:IXG wb W g gx gl rate m ws c s u cnt B C sure K):Calls Tryz.prog 62 #[.pointer (some ⟨gx,0,none⟩)] W fun e w'=>
  ∃v vs,e= .returned (.agg #[.int .i64 m.nx,.int .i64 m.ck,.int .u64 m.sd,v])/\OGr w' W.heap.size 37 3 v vs m.L/\Ext W w':=by
 obtain⟨st,σ,φ,b,rfl,d,j,l,⟨F,gm,gt,Y,q⟩,o,y,E⟩:=h;exact q7T q.i.x
theorem IXG.range(h:IXG wb W g gx gl rate m ws c s u cnt B C sure K)(x a b:Int)(hl:B.length<=10000):
  Calls Tryz.prog 112 #[.pointer (some ⟨gx,0,none⟩),.int .u64 x,.int .i64 a,.int .i64 b] W fun e w'=>
   ∃ v,e= .returned (.tuple #[v,.int .i64 0])/\IXG wb w' g gx gl rate m ws c s u cnt B C sure (fun i=>K i\/v.ownBlock=some i)/\Stay K W w'/\
    w'.ownsRow W.heap.size 165 3 v (q0s B x (max a 0) (min b 1073741824)).length (ecs (q0s B x (max a 0) (min b 1073741824))):=by
 obtain⟨st,σ,φ,N,O,Q,U,V,X,⟨y,l⟩,⟨J,I⟩,M⟩:=h;obtain⟨k,R,Z,r1,r2,r3⟩:=y.rangeIs x a b;refine(z8e X y.full x a b Z (fun _=>⟨r1,by show R.flatten.length<=1000000;omega⟩)).mono ?_;rintro e w' ⟨v,rfl,E,o,G⟩;have j:=G rfl;simp only at j;rw[r3] at j;have l:=y.tellB k l;refine⟨v,rfl,⟨st,tellN k σ,φ,N,O,Q,U,V,E.beside (fun i d=>?_),⟨y.tell k,l⟩,⟨J.same fun i d=>o i (.inr d),I⟩,fun i d=>⟨fun q=>?_,(M i d).2⟩⟩,fun i d=>o i (.inl d),j⟩
 ·rcases d with(d|d)|d
  ·exact .inl (.inl d)
  ·exact .inr d
  ·exact .inl (.inr d)
 ·rcases q with q|q
  ·exact(M i d).1 q
  ·have:=(q0U j i q).1;have:=J.lt d;omega
theorem IXG.last(h:IXG wb W g gx gl rate m ws c s u cnt B C sure K)(x a:Int)(R: -9223372036854775808<=a):
  Calls Tryz.prog 104 #[.pointer (some ⟨gx,0,none⟩),.int .u64 x,.int .i64 a] W fun e w'=>
   ∃r,e= .returned (.tuple #[.int .i64 r,.int .i64 0])/\z2l B x (min a 1073741824) r/\IXG wb w' g gx gl rate m ws c s u cnt B C sure K/\Stay K W w':=by
 obtain⟨st,σ,φ,y,E,G,I,J,M,⟨j,b⟩,⟨N,o⟩,O⟩:=h;obtain⟨k,r,Q,U⟩:=j.lastIs x a;refine(y0N M j.full x a R Q).mono ?_;rintro e w' ⟨rfl,l,d⟩;have b:=j.tellB k b;exact⟨r,rfl,U,⟨st,tellN k σ,φ,y,E,G,I,J,l,⟨j.tell k,b⟩,⟨N.same fun i q=>d i (.inr q),o⟩,O⟩,fun i q=>d i (.inl q)⟩
end
section
variable {wb w:World}{g gx gl rate:Nat}{m:Man}{ws:List En}{c s:Int}{u cnt:Nat}{B:List En}{C:Cks}{sure:Int}{K:Nat->Prop}
theorem Stay.trans' {K:Nat->Prop}{w0 w1 w2:World}(h:Stay K w0 w1)(k:Stay K w1 w2):Stay K w0 w2:=fun i b=>(k i b).trans (h i b)
theorem z3j(h :IXG wb w g gx gl rate m ws c s u cnt B C sure K)(P0:Int)(I0:0<=P0)(J0:P0<=9223372036854775807)(hB:B.length+8*(q1z C P0).length<=40000):
  Calls Tryz.prog 144 #[.pointer (some ⟨gx,0,none⟩),.pointer (some ⟨gl,0,none⟩),.int .i64 P0] w fun e w'=>
   ∃ D,IXG wb w' g gx gl rate m (q1V D ws) c s u cnt (q1V D B) C sure K/\Stay K w w'/\
    ((z1X m.sd (q1z C P0)=some D/\e= .returned (.int .i64 0))\/(z1X m.sd (q1z C P0)=none/\e= .returned (.int .i64 63))):=by
 have v0:okC C:=h.cOk;have HI:=η h;have HM:=η h.tells;clear h;go_enter Tryz.func144,Tryz.ntmps144;go_wp2_with fail;refine HM.o.mono ?_;rintro e w1 ⟨v,vs,rfl,ho,hx⟩;have B0:=η (HI.o.grow hx);have E0:=η (HI.o.kExt hx);obtain⟨ao,cp,rfl⟩:=ho.own.slice;clear ho hx HM;have N0: ∀(W:World) (x y z t:Value),(Instr.field 47 (.agg #[x,y,z,t]) 2).run Tryz.prog W= .ok z W:=fun _ _ _ _ _=>rfl
 go_wp2_with fail
 go_loopw [8] (fun p W=> ∃(pos:Int) (D:List En),p= .int .i64 pos/\0<=pos/\pos<=9223372036854775807/\z1X m.sd (q1z C P0)=(z1X m.sd (q1z C pos)).map (D++·)/\D.length+8*(q1z C pos).length<=8*(q1z C P0).length/\
   IXG wb W g gx gl rate m (q1V D ws) c s u cnt (q1V D B) C sure K/\Stay K w W) (fun p _=>(q1z C (intOf p)).length)
 case atStart=>exact⟨P0,[],rfl,I0,J0,by simp,by simp,B0.o,E0.o⟩
 case round =>
  obtain⟨pos,D,rfl,q0,q1,g0,f0,d,x0⟩:=hrel;have G:=η g0;have p0:=η f0;have M0:=η d;have u0:=η x0;have E:=d.next pos (by omega) q1 rfl;rw[q8c] at E;have j: ∀r∈q1z C pos,r.1<4096*200/\r.2.length<=2000:=fun r hr=>z6F v0 hr
  have a0: ∀a p R,q1z C pos=(a,p)::R->q1z C ((a:Int)+(p.length:Int)+12)=R:=fun a p R e=>q8d v0 e
  obtain⟨Q,hQ⟩: ∃Q,q1z C pos=Q:=⟨_,rfl⟩
  have HQ:=η hQ;rw[hQ] at E j G p0;clear g0 f0 d x0 hQ
  cases Q with
  | nil=>
   have Z:q9k ([]:List (Nat×List UInt8)).head? = .tuple #[.string ⟨#[]⟩,.int .i64 0,.int .i64 0,.int .i64 4]:=rfl;rw[Z] at E;have HN:=η E;clear E j a0 Z;go_wp2_with fail;refine HN.o.mono ?_;rintro e w2 ⟨rfl,d,N⟩;have c0:=η d;have i0:=η (u0.o.trans' N);clear d N HN;go_wp2_with fail
   (try rw[Exit.noGoto_ret])
   go_ret;exact⟨D,c0.o,i0.o,.inl ⟨by rw[G.o];simp[z1X],rfl⟩⟩
  | cons r R =>
   obtain⟨a,p⟩:=r;have Z:q9k ((a,p)::R).head? = .tuple #[.string ⟨p.toArray⟩,.int .i64 (a:Int),.int .i64 ((a:Int)+(p.length:Int)+12),.int .i64 0]:=rfl;rw[Z] at E;have HN:=η E;obtain⟨ha,K0⟩:=j _ List.mem_cons_self;simp only at ha K0;have I:=η (a0 _ _ _ HQ.o);have HG:=η (fun W=>z5T p W (by omega));clear E j a0 Z;go_wp2_with fail;refine HN.o.mono ?_;rintro e w2 ⟨rfl,d,N⟩;have c0:=η d;have i0:=η (u0.o.trans' N);clear d N HN;go_wp2_with fail;refine(HG.o _).mono ?_;rintro e w3 ⟨⟨y,rfl,hy⟩,hx⟩;have d0:=η (c0.o.grow hx);have s0:=η (i0.o.trans' (c0.o.kExt hx));clear hx HG;obtain⟨gb,X⟩: ∃gb,q4v p=gb:=⟨_,rfl⟩
   rw[X] at hy
   cases gb with
   | none=>
    obtain rfl:y= .tuple #[.agg #[.string ⟨#[]⟩,.int .i64 0,.slice none 0 0],.int .i64 10]:=hy;have e0:=η (d0.o.grow (q0B w3 (.cells #[.string ⟨#[]⟩,.int .i64 0,.slice none 0 0] 160)));have j0:=η (s0.o.trans' (d0.o.kExt (q0B w3 (.cells #[.string ⟨#[]⟩,.int .i64 0,.slice none 0 0] 160))));go_wp2_with fail
    (try rw[Exit.noGoto_ret])
    go_ret;exact⟨D,e0.o,j0.o,.inr ⟨by rw[G.o,z1X,X];rfl,rfl⟩⟩
   | some b =>
    obtain⟨x,rfl,b0⟩:=hy;have l0:=z8U X;obtain⟨_,_,p3,p4,p5,p6,_⟩:=q0Y l0;obtain⟨J,M,rfl⟩:=b0.slice;obtain⟨n,hn⟩: ∃n,b.ev.length=n:=⟨_,rfl⟩
    have h0:Hd (z1X m.sd (q1z C P0)=(z1X m.sd R).map ((D++q0g m.sd a b n)++·)):=η (by
     rw[G.o,z1X,X,Option.bind_some,hn,Option.map_map]
     congr 1
     funext l
     simp)
    have r0:Hd (∀k,k<n->q3W (q2e m.sd a b k)=true):=η (fun k hk=>z3F m.sd l0 (by omega) ha);have o0:=η (fun W=>z3P m.sd b.st W (by omega));have n0:=η (fun k=>q7J m.sd a b k);have m0:=η (fun k=>q3r m.sd a b k);have A0:Hd (∀k:Nat,q2e m.sd a b k=(q2V m.sd b.st,(b.fi:Int)+(k:Int),(a:Int))):=η fun k=>rfl
    generalize q2V m.sd b.st=hh at*;have L0:(q1V D B).length<=B.length+D.length:=q6g D B;have f0:=p0.o;rw[χ] at f0;rw[hn] at b0 p4 p6⊢;obtain⟨st,fi,ev⟩:=b;simp only at p3 p4 p5 p6 hn;obtain⟨q,hq⟩: ∃q,w3.heap.size=q:=⟨_,rfl⟩
    have V:=q0B w3 (.cells #[.string ⟨st.toArray⟩,.int .i64 (fi:Int),.slice J n M] 160);have O:=η (Blk.new w3 160 #[.string ⟨st.toArray⟩,.int .i64 (fi:Int),.slice J n M]);have e0:=η (d0.o.more (K':=fun i=>K i\/i=w3.heap.size) V (fun i d=>d.imp id fun e=>⟨by omega,by rw[e];exact O.o.lt⟩));have j0:=η (s0.o.trans' (d0.o.kExt V));rw[hq] at O e0;have k0:(w3.alloc (.cells #[.string ⟨st.toArray⟩,.int .i64 (fi:Int),.slice J n M] 160)).cell? ⟨q,0,none⟩=some (.string ⟨st.toArray⟩):=O.o.cell 0;have k2:(w3.alloc (.cells #[.string ⟨st.toArray⟩,.int .i64 (fi:Int),.slice J n M] 160)).cell? ⟨q,2,none⟩=some (.slice J n M):=O.o.cell 2;clear V b0 X l0 G hn;go_wp2_with fail;refine(o0.o _).mono ?_;rintro e w4 ⟨rfl,rfl⟩;clear o0;generalize w3.alloc (.cells #[.string ⟨st.toArray⟩,.int .i64 (fi:Int),.slice J n M] 160)=w4 at*;go_wp2_with fail
    go_loopw [50] (fun i W=> ∃k:Nat,k<=n/\i= .int .i64 (k:Int)/\IXG wb W g gx gl rate m (q1V (D++q0g m.sd a ⟨st,fi,ev⟩ k) ws) c s u cnt (q1V (D++q0g m.sd a ⟨st,fi,ev⟩ k) B) C sure (fun i=>K i\/i=q)/\Stay K w W/\
     Blk W q 160 #[.string ⟨st.toArray⟩,.int .i64 (fi:Int),.slice J n M]) (fun i _=>n-(intOf i).toNat)
    case atStart=>
     refine⟨0,υ _,rfl,?_,j0.o,O.o⟩;rw[show q0g m.sd a ⟨st,fi,ev⟩ 0=[] from rfl,List.append_nil];exact e0.o
    case round=>
     obtain⟨k,hk,rfl,d,N,hb⟩:=hrel;have C0:=η d;have t0:=η N;have y0:=η hb;by_cases H0:k<n
     ·have G0:decide ((k:Int)<(n:Int))=true:=ζ (by omega)
      have w0:(q1V (D++q0g m.sd a ⟨st,fi,ev⟩ k) B).length<50000:=by
       have h1:=q6g (D++q0g m.sd a ⟨st,fi,ev⟩ k) B;rw[θ,m0.o k] at h1;omega
      have U:=d.add (r0.o k H0) w0
      rw [show∀L,q3d (q2e m.sd a ⟨st,fi,ev⟩ k) (q1V (D++q0g m.sd a ⟨st,fi,ev⟩ k) L)=q1V (D++q0g m.sd a ⟨st,fi,ev⟩ (k+1)) L from fun L=>by
       rw[n0.o k,<-List.append_assoc,q3U (D++q0g m.sd a ⟨st,fi,ev⟩ k)];rfl,show∀L,q3d (q2e m.sd a ⟨st,fi,ev⟩ k) (q1V (D++q0g m.sd a ⟨st,fi,ev⟩ k) L)=q1V (D++q0g m.sd a ⟨st,fi,ev⟩ (k+1)) L from fun L=>by
       rw[n0.o k,<-List.append_assoc,q3U (D++q0g m.sd a ⟨st,fi,ev⟩ k)];rfl,A0.o k] at U
      have HA:Hd (Calls Tryz.prog 90 #[.pointer (some ⟨gx,0,none⟩),.agg #[.int .u64 hh,.int .i64 ((fi:Int)+(k:Int)),.int .i64 (a:Int)]] wr fun r w'=>r= .returned (.int .i64 0)/\
       IXG wb w' g gx gl rate m (q1V (D++q0g m.sd a ⟨st,fi,ev⟩ (k+1)) ws) c s u cnt (q1V (D++q0g m.sd a ⟨st,fi,ev⟩ (k+1)) B) C sure (fun i=>K i\/i=q)/\Stay (fun i=>K i\/i=q) wr w'):=η U
      have q7:IntKind.i64.wrap ((fi:Int)+(k:Int))=(fi:Int)+(k:Int):=by rw[ν];omega
      have q8:IntKind.i64.wrap ((k:Int)+1)=(k:Int)+1:=by rw[ν];omega
      have k1:=hb.cell 1;clear d N hb U w0;go_wp2_with fail;refine HA.o.mono ?_;rintro e w5 ⟨rfl,d,N⟩;have D0:=η d;have F0:=η (t0.o.trans' (fun i d=>N i (.inl d)));have z0:=η (y0.o.same (N q (.inr rfl)));clear d N HA;go_wp2_with fail
      go_roundw
      case rel=>exact⟨k+1,by omega,by go_num,D0.o,F0.o,z0.o⟩
      case measure=>simp[intOf];omega
     ·obtain rfl:k=n:=by omega
      have G0:decide ((k:Int)<(k:Int))=false:=ε (by omega);clear d N hb;go_wp2_with fail
      go_roundw
      case rel=>
       refine⟨(a:Int)+(p.length:Int)+12,D++q0g m.sd a ⟨st,fi,ev⟩ k,rfl,by omega,by omega,?_,?_,C0.o.beside (fun i d=> .inl d),t0.o⟩
       ·rw[I.o];exact h0.o
       ·rw[I.o,θ,m0.o k];omega
      case measure=>
       show(q1z C ((a:Int)+(p.length:Int)+12)).length<(q1z C pos).length;rw[I.o,HQ.o,χ];omega
end
section
variable {wb W W':World}{g gx gl rate:Nat}{m:Man}{ws:List En}{c:Int}{u cnt:Nat}{B:List En}{K K':Nat->Prop}
end
def noI :Nat->Prop:=fun _=>False
theorem DkK.new24(w:World)(c:Int)(d:0<=c)(b:c<=1048576):Calls Tryz.prog 55 #[.int .i64 c] w fun e w'=> ∃g,e= .returned (.tuple #[.pointer (some ⟨g,0,none⟩),.int .i64 0])/\DkK noO w w' g c 0 [] noI:=by
 refine(y2p w c d b).mono ?_;rintro e w' ⟨g,F,rfl,b,j,l⟩;exact⟨g,rfl,F,z7d c,⟨b,j,l,fun i o=>o.elim⟩,y0U c⟩
section
variable {wb w W W':World}{g gx gl:Nat}{m:Man}{ws:List En}{c s sure:Int}{u cnt:Nat}{B:List En}{K K':Nat->Prop}
end
section
variable {wb w W W':World}{g gx gl rate:Nat}{m:Man}{ws:List En}{c s:Int}{st:IxSt}{σ:DM}{φ:Fls}{u cnt:Nat}{B:List En}{K:Nat->Prop}
theorem z3Z(h:PInv st σ c s φ u cnt B): ∀(ns:List Int) (acc:Int->Option (List En)) (k0:Nat),(∀n∈ns,n∈st.m.L.flatten)->
  ∃k,q3L (tellN k0 σ) ns acc=((fun x=>if x∈ns then some (TL st x) else acc x),0,tellN k σ)
 |[],acc,k0,_=>⟨k0,by rw[q3L];simp⟩
 | n ::ns,acc,k0,hn=>by
  obtain⟨e,he⟩:=h.full n (hn n (by simp));have i:=h.tb n e he;obtain⟨k,_,j⟩:=z8t ((h.wl he).tellN k0) i.2.2.2.1.sort i.2.2.2.1.ok (by have:=i.2.2.2.1.len;omega);rw[q3P] at j;obtain⟨q,l⟩:=z3Z h ns (fun x=>if x=n then some e.L else acc x) (k0+k) (fun y o=>hn y (by simp[o]));refine⟨q,?_⟩;rw[q3L,j];simp only;rw[l]
  congr 1
  funext x
  by_cases d:x∈ns
  ·rw[ξ d,ξ (List.mem_cons_of_mem _ d)]
  ·rw[κ d]
   by_cases b:x=n
   ·rw[ξ b,ξ (by rw[b];exact List.mem_cons_self),b,q3Y he]
   ·rw[κ b,κ (by rw[List.mem_cons];exact fun h=>h.elim b d)]
theorem PInv.reopen(h:PInv st σ c s φ u cnt B){j:Int->Option TE}(k Q J:Nat)(I: ∀n,(j n).map TE.L=if n∈st.m.L.flatten then some (TL st n) else none)(G: ∀n e,j n=some e-> ∀x∈e.L,e.may x.1=true):
  PInv ⟨st.m,Q,[],j,J⟩ (tellN k σ) c s φ u cnt (q2k (st.m.L.flatten.map (TL st))):=by
 have i: ∀n e,j n=some e->n∈st.m.L.flatten/\e.L=TL st n:=fun n e he=>by
  have:=I n;rw[he] at this;by_cases b:n∈st.m.L.flatten
  ·rw[ξ b] at this
   injection this with this;exact⟨b,this⟩
  ·rw[κ b] at this
   cases this
 have d: ∀n,n∈st.m.L.flatten-> ∃e,j n=some e/\e.L=TL st n:=fun n b=>by
  have:=I n;rw[ξ b] at this
  cases he:j n with
  |none=>rw[he] at this;cases this
  |some e=>exact⟨e,rfl,(i n e he).2⟩
 refine⟨Fl.tells k h.fl,h.man,(fun n b=>by obtain⟨e,he,_⟩:=d n b;exact⟨e,he⟩),fun n e he=>?_,h.only,okM.nil,(h.unionLe _).1,fun x=>?_⟩
 ·obtain⟨y,l⟩:=i n e he
  obtain⟨M,o⟩:=h.full n y;have E:=h.tb n M o;rw[q3Y o] at l;exact⟨y,by rw[l];exact E.2.1,E.2.2.1,by rw[l];exact E.2.2.2.1,G n e he⟩
 ·rw [mem_union]
  constructor
  ·rintro⟨L,N,q⟩
   obtain⟨n,b,rfl⟩:=List.mem_map.1 N;obtain⟨e,he,O⟩:=d n b;exact .inr ⟨n,e,he,by rw[O];exact q⟩
  ·rintro(q|⟨n,e,he,q⟩)
   ·cases q
   ·obtain⟨y,l⟩:=i n e he
    exact⟨_,List.mem_map.2 ⟨n,y,rfl⟩,by rw[<-l];exact q⟩
theorem PInv.parts(h:PInv st σ c s φ u cnt B)(x:En):x∈B↔x∈st.w\/x∈q2k (st.m.L.flatten.map (TL st)):=by
 rw[h.mem x,mem_union]
 constructor
 ·rintro(b|⟨n,e,he,b⟩)
  ·exact .inl b
  ·exact .inr ⟨_,List.mem_map.2 ⟨n,(h.tb n e he).1,rfl⟩,by rw[q3Y he];exact b⟩
 ·rintro(b|⟨L,d,b⟩)
  ·exact .inl b
  ·obtain⟨n,i,rfl⟩:=List.mem_map.1 d
   obtain⟨e,he⟩:=h.full n i;exact .inr ⟨n,e,he,by rw[q3Y he] at b;exact b⟩
end
def DKR(wb W:World)(g gl:Nat)(m:Man)(c s:Int)(u cnt:Nat)(B:List En)(C:Cks)(sure:Int)(K:Nat->Prop):Prop:=
 ∃st σ φ gv F,st.m=m/\st.w=[]/\DkF wb W g F σ (fun i=>K i\/q8P gl gv i)/\(PInv st σ c s φ u cnt B/\q9E φ m/\z9g st φ σ C sure)/\(LogM W gl g s gv (q0N C) sure/\okC C)/\(∀i,q8P gl gv i->¬K i/\wb.heap.size<=i)
section
variable {wb w W W':World}{g gx gl rate:Nat}{m:Man}{ws:List En}{c s:Int}{u cnt:Nat}{B:List En}{C C':Cks}{sure:Int}{K K':Nat->Prop}
theorem DKR.iopen(h:DKR wb W g gl m c s u cnt B C sure K){ao:Option Addr}{cap:Nat}(X:Grid W ao m.L.length cap m.L)(G:m.L.flatten.length<=cnt)(rate:Nat):
  Calls Tryz.prog 142 #[.pointer (some ⟨g,0,none⟩),.agg #[.int .i64 m.nx,.int .i64 m.ck,.int .u64 m.sd,.slice ao m.L.length cap],.float .f64 rate] W fun e w'=>
   ∃gx N,e= .returned (.tuple #[.pointer (some ⟨gx,0,none⟩),.int .i64 0])/\IXG wb w' g gx gl rate m [] c s u cnt N C sure K/\(∀x,x∈B↔x∈N)/\Stay K W w':=by
 obtain⟨st,σ,φ,U,F,rfl,hw,hF,⟨d,E,j⟩,O,V⟩:=h;have Q:=Man.bounds d.man;refine(z6N (m:=st.m) hF X (by have:=Q.2.1;omega) (fun x J=>(Q.2.2.2.1 x J).1) d.man.2.1 d.man.2.2 rate).mono ?_;obtain⟨k,o⟩:=z3Z d st.m.L.flatten (fun _=>none) 0 fun n Z=>Z
 have o:q3L σ st.m.L.flatten (fun _=>none)=_:=o;rintro e w' (⟨b,_⟩|⟨_,b,_⟩|⟨_,_,b,_⟩|⟨_,_,_,y,M,rfl,b,R,q⟩)
 ·rw[d.man.1] at b;cases b
 ·rw[d.fl.up] at b;cases b
 ·rw[o] at b;exact absurd rfl b
 ·rw [o] at b q
  simp only at b q;have l:OldT ⟨st.m,rate,[],M,st.m.L.flatten.length⟩:=fun n e he x J=>by
   have h:=q n;have he:M n=some e:=he;rw[he,Option.map_some] at h;show x.2.2<st.m.ck
   split at h
   ·injection h with h
    exact j.old.tl (n:=n) (by rw[<-h];exact J)
   ·cases h
  exact⟨y,_,rfl,⟨⟨st.m,rate,[],M,st.m.L.flatten.length⟩,tellN k σ,φ,U,rfl,rfl,rfl,G,b,⟨d.reopen k rate _ q (fun n e he=>b.thru (n:=n) (e:=e) he),E,j.toCksS.kp (Kp.tells k σ) d.fl j.i,l⟩,⟨O.1.same fun i I=>R i (.inr I),O.2⟩,V⟩,
   fun x=>by rw[d.parts x,hw];simp,fun i I=>R i (.inl I)⟩
end
section
variable {wb w W W':World}{g gx gl rate:Nat}{m:Man}{ws:List En}{c s:Int}{st:IxSt}{σ:DM}{φ:Fls}{u cnt:Nat}{B:List En}{K:Nat->Prop}
theorem z3b(T:List Int):q1h T mapN=false:=by
 unfold q1h;rw[show(mapN==z2D)=false by decide,show(q1C mapN).2.2=false by decide]
 rfl
theorem z0w{T:List Int}{l:UInt8}(j:q2D l=true){n:Int}(q:0<=n/\n<=999999)(o:n∈T):q1h T (q0F l n)=false:=by
 have d:=q2I j q;have b:(q0F l n==z2D)=false:=by
  rw[beq_eq_false_iff_ne];intro e;rw[e] at d;have i:(q1C z2D).2.2=false:=by decide
  rw[d] at i
  cases i
 unfold q1h;rw[b,d];simp only;rw[show((n.toNat:Nat):Int)=n by omega,ζ o];simp
theorem q8o{T:List Int}{k:Nat}(d:k<=999999):q1h T (q0F 99 (k:Int))=false:=by
 have i:=q2I y3H (n:=(k:Int)) (by omega);have b:(q0F 99 (k:Int)==z2D)=false:=by
  rw[beq_eq_false_iff_ne];exact(q3j d).2
 unfold q1h;rw[b,i]
 rfl
theorem PInv.names(h:PInv st σ c s φ u cnt B): ∀x∈q1m σ,x=mapN\/(∃n∈st.m.L.flatten,x=q0F 116 n\/x=q0F 98 n)\/ ∃k:Nat,k<=999999/\x=q0F 99 (k:Int):=fun x d=>by
 obtain⟨l,i,_,j,_⟩:=h.fl;rw[i.names] at d;refine h.only x ?_;rw[<-j x];obtain⟨y,o,rfl⟩:=List.mem_map.1 d;intro b
 cases hf:q0H Prod.fst y.1 l with
 |some z=>rw[hf] at b;cases b
 |none=>exact q2H hf y o rfl
theorem PInv.noOrph(h:PInv st σ c s φ u cnt B):(q1m σ).filter (q1h st.m.L.flatten)=[]:=by
 refine List.filter_eq_nil_iff.2 fun x i=>?_
 rw[Bool.not_eq_true];rcases h.names x i with rfl|⟨n,b,rfl|rfl⟩|⟨k,d,rfl⟩
 ·exact z3b _
 ·have:=h.range b
  exact z0w y1l ⟨this.1,this.2.1⟩ b
 ·have:=h.range b
  exact z0w (by decide) ⟨this.1,this.2.1⟩ b
 ·exact q8o d
theorem PInv.shortN(h:PInv st σ c s φ u cnt B): ∀x∈q1m σ,x.length<=9223372036854775807:=fun x d=>by
 rcases h.names x d with rfl|⟨n,b,rfl|rfl⟩|⟨k,i,rfl⟩
 ·decide
 ·have:=h.range b
  rw[q0c ⟨this.1,this.2.1⟩,χ,q0j];decide
 ·have:=h.range b
  rw[q0c ⟨this.1,this.2.1⟩,χ,q0j];decide
 ·rw[q0c (by omega),χ,q0j];decide
end
theorem y0E{C:Cks}(h:okC C):0<=q3f C/\q3f C<=819200:=by
 rcases List.eq_nil_or_concat C with b|⟨D,ps,b⟩
 ·subst b;rw[q9P];omega
 ·rw[List.concat_eq_append] at b
  subst b;rw[q1J];have d:=h.few;have i:=h.size ps (by simp);simp at d;omega
section
variable {φ :Fls}{n:Int}{f tab S:List UInt8}{C:Cks}{m:Man}
end
section
variable {wb W W':World}{g gx gl rate:Nat}{m:Man}{ws:List En}{c s:Int}{u cnt:Nat}{B:List En}{C C':Cks}{sure:Int}{K K':Nat->Prop}
end
end
end Go.Proofs.YtfiibpgoplcgkaaGreatDoor
