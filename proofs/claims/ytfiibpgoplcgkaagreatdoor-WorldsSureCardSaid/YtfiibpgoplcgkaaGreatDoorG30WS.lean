/- Walks. -/
import Derived.Test.YtfiibpgoplcgkaaGreatDoorG18WS
import Derived.Test.YtfiibpgoplcgkaaGreatDoorG3WS
import Derived.Laws.ResultCell
set_option linter.unusedVariables false
set_option linter.unusedSimpArgs false
set_option maxRecDepth 100000
set_option maxHeartbeats 3200000
namespace Go.Proofs.YtfiibpgoplcgkaaGreatDoor
variable {w w' w0 w1:World}{ao:Option Addr}{n cap m B g a1 a2 a3 a4:Nat}{L acc:List (List Int)}{nx ck a c sd:Int}{e tO tI:TypeId}{v:Value}{vs:List Value}{t r1 r2 r3 r4:List UInt8}{o1 o2 o3 o4:Bool}
section
open Go.RowKit
theorem y1z(ao:Option Addr)(n cap:Nat)(L:List (List Int))(w:World)(q:Grid w ao n cap L):
  Calls Tryz.prog 329 #[.slice ao n cap] w fun e w'=>e= .returned (.slice ao (q1N L n) cap)/\Ext w w':=by
 have I:=η q;have b1:=q.fits;have b2:=q.bound;clear q;go_enter Tryz.func329,Tryz.ntmps329;go_wp2_with fail
 go_loopw [0] (fun v w'=> ∃m:Nat,m<=n/\v= .slice ao m cap/\q1N L m=q1N L n/\Ext w w') (fun v _=>y3O v)
 case atStart=>exact⟨n,ι _,rfl,rfl,Ext.refl _⟩
 case round=>
  obtain⟨m,hm,rfl,j,C⟩:=hrel;have d:=η j;clear j;have l:=η C;clear C
  cases m with
  | zero=>
   have D:q1N L n=0:=d.o.symm;have r:=η D;clear D;go_wp2_with fail;go_ret;exact⟨by rw[r.o];rfl,l.o⟩
  | succ m=>
   obtain⟨b,off,J,E,N,rfl,M,r1⟩:=(I.o.ext l.o).at (show m<n by omega);have x:=r1.len;have O:=r1.fits;have Q:=r1.bound;have u:=η x;clear r1 x;by_cases s:E=0
   ·have he:L.getD m []=[]:=List.eq_nil_of_length_eq_zero (by have:=u.o;omega)
    have F:=η he;clear he;subst s;go_wp2_with fail
    go_roundw
    case rel=>exact⟨m,by omega,rfl,by rw[<-q5y L m F.o];exact d.o,l.o⟩
    case measure=>simp[y3O]
   ·have i:L.getD m []≠[]:=by intro h;have:=u.o;rw[h] at this;simp at this;omega
    have R:((E:Int)==0)=false:=by simpa using s
    have y:q1N L n=m+1:=by rw[<-d.o];exact q4Q L m i
    have G:=η i;clear i s;have r:=η y;clear y;go_wp2_with fail;go_ret;exact⟨by rw[r.o];rfl,l.o⟩
theorem Grid.cut(h:Grid w ao n cap L)(hm:m<=n):Grid w ao m cap (L.take m):=by
 have u:=h.len;have d:(L.take m).length=m:=by simp;omega
 refine⟨d,Ω hm h.fits,h.bound,h.nil,fun i s=>?_⟩;obtain⟨b,off,j,l,o,q,r⟩:=h.rd i (by omega);rw[List.getElem_take];exact⟨b,off,j,l,o,q,r⟩
theorem Grid.trim(h:Grid w ao n cap L):Grid w ao (q1N L n) cap (q0c L):=by
 have e:q0c L=L.take (q1N L n):=by unfold q0c;rw[h.len]
 rw[e];exact h.cut (q3z L n)
def q1F(l:List Int):List UInt8:=be 1 l.length++(l.map fun x=>be 4 x.toNat).flatten
def q3I(nx ck sd:Int)(k:Nat):List UInt8:=[105,109,97,112]++be 4 nx.toNat++be 4 ck.toNat++be 8 sd.toNat++be 1 k
def q2C(nx ck sd:Int)(L:List (List Int)):List UInt8:=q3I nx ck sd (q0c L).length++((q0c L).map q1F).flatten
def q2g(nx ck sd:Int)(L:List (List Int)):List UInt8×Int:=if q0e nx ck L then(q1S (q2C nx ck sd L),0) else([],2)
theorem q7H(l:List Int):(l.map fun x=>be 4 x.toNat).flatten.length=4*l.length:=by
 induction l with
 |nil=>rfl
 |cons x l ih=>simp only[List.map_cons,List.flatten_cons,θ,ih,q0G,χ];omega
theorem q8W(l:List Int):(q1F l).length=1+4*l.length:=by
 unfold q1F;rw[θ,q0G,q7H]
theorem q5l(T:List (List Int)):(T.map q1F).flatten.length=T.length+4*T.flatten.length:=by
 induction T with
 |nil=>rfl
 |cons x l ih=>simp only[List.map_cons,List.flatten_cons,θ,ih,q8W,χ];omega
theorem q5f(nx ck sd:Int)(k:Nat):(q3I nx ck sd k).length=21:=by simp[q3I,q0G]
theorem q2U(h:q0e nx ck L=true):(0<=nx/\nx<=1000000/\0<=ck/\ck<=2147483647)/\q1E L=true/\ ∀x∈L.flatten,x<nx:=by
 unfold q0e at h;rw[Ξ,Ξ] at h;exact⟨of_decide_eq_true h.1.1,h.1.2,fun x b=>of_decide_eq_true (List.all_eq_true.1 h.2 x b)⟩
theorem q6S{b i:Type}(f:b->List i)(l:List b)(d:b)(k:Nat)(h:k<l.length):((l.take (k+1)).map f).flatten=((l.take k).map f).flatten++f (l.getD k d):=by
 rw[q0Z l d k h];simp
theorem y0w(nx ck sd:Int)(ao:Option Addr)(n cap:Nat)(L:List (List Int))(w:World)(C:Grid w ao n cap L)(o0:L.flatten.length<=17592186044416)(q0: ∀x∈L.flatten,(Lit.int .i64 x).wf=true)(S0:0<=sd)(U:sd<18446744073709551616):
  Calls Tryz.prog 288 #[.agg #[.int .i64 nx,.int .i64 ck,.int .u64 sd,.slice ao n cap]] w fun e w'=>e= .returned (.tuple #[.string ⟨(q2g nx ck sd L).1.toArray⟩,.int .i64 (q2g nx ck sd L).2])/\Ext w w':=by
 have Hx:=η C;have M:=η C.len;clear C;go_enter Tryz.func288,Tryz.ntmps288;go_wp2_with fail;refine(z0d nx ck sd _ _ _ L _ (Hx.o.ext (q0C _ _)) o0 q0).mono ?_;rintro e w1 ⟨rfl,G⟩;obtain⟨d0,d1,d2,d3⟩:=z6i G;have HB:=η G;clear G q0;by_cases hv:q0e nx ck L=false
 ·have HV:Hd (q2g nx ck sd L=([],2)):=η (by unfold q2g;rw[hv];rfl)
  go_wp2_with fail;go_ret2;exact⟨by rw[HV.o];rfl,(q0C _ _).trans HB.o⟩
 have p0:q0e nx ck L=true:=by simpa using hv
 have HV:Hd (q2g nx ck sd L=(q1S (q2C nx ck sd L),0)):=η (by unfold q2g;rw[p0];rfl);obtain⟨⟨n1,n2,n3,n4⟩,V,J⟩:=q2U p0;obtain⟨v1,v2,v3,_⟩:=(by unfold q1E at V;exact of_decide_eq_true V:L.length<=5/\L.flatten.length<=40/\(∀x∈L.flatten,0<=x)/\L.flatten.Nodup)
 have V2:=η v2;have V3:=η v3;have x0:=η J;have N0:n<=5:=by have:=M.o;omega
 clear hv V v1 v2 v3 J;go_wp2_with fail;refine(y1z _ _ _ L _ ((Hx.o.ext (q0C _ _)).ext HB.o)).mono ?_;rintro e w2 ⟨rfl,G⟩;have D:=η (HB.o.trans G);obtain⟨e0,e1,e2,e3⟩:=z6i D.o;clear G HB d0 d1 d2 d3;have f0:=q0D e0;have f1:=q0D e1;have f2:=q0D e2;have hT:(q0c L).length=q1N L n:=by rw[q2X,M.o]
 have U0:q1N L n<=n:=q3z L n;have F:Grid w2 ao (q1N L n) cap (q0c L):=((Hx.o.ext (q0C _ _)).ext D.o).trim;have Z:=η F;have E:=η hT;have q:Hd (q3I nx ck sd (q1N L n)=[105,109,97,112]++be 4 nx.toNat++be 4 ck.toNat++be 8 sd.toNat++be 1 (q1N L n)):=η rfl;have j0:=q0G 4 nx.toNat;have k0:=q0G 4 ck.toNat;have I0:=q0G 8 sd.toNat;have H0:=q0G 1 (q1N L n);have V0:q1N L n<=5:=by omega
 have O:Hd (q2C nx ck sd L=q3I nx ck sd (q0c L).length++((q0c L).map q1F).flatten):=η rfl;have M0:cap<=9223372036854775807:=F.bound;have T0:q1N L n<=cap:=F.fits;have a0:Hd ((q0c L).flatten.length<=40):=η (by rw[q1h];exact V2.o)
 have B0:Hd (∀k,∀x∈(q0c L).getD k [],0<=x/\x<=1000000):=η (by
  intro k x C;rw[q2p] at C;have r0:x∈L.flatten:=by
   rcases Nat.lt_or_ge k L.length with h|h
   ·rw[δ,γ h] at C
    exact List.mem_flatten.2 ⟨_,List.getElem_mem h,C⟩
   ·rw[q5i _ _ _ h] at C;cases C
  have:=V3.o x r0;have:=x0.o x r0
  omega)
 clear F hT e0 e1 e2 e3;generalize q1N L n=m at*;generalize q0c L=T at*;go_wp2_with fail;refine q0E (by kernel_rfl) (by kernel_rfl) ?_
 repeat (go_big_quiet_step (first|exact Calls.quiet_ext (z6B _ _ 4 _ (by decide) (by omega) (by omega) (by omega) (by omega))|exact Calls.quiet_ext (z6B _ _ 8 _ (by decide) (by omega) (by omega) (by omega) (by omega))|exact Calls.quiet_ext (y3n _ _ 1 _ (by decide) (by omega) (by omega) (by omega))))
 refine wpQuiet_nil ?_;intro w3 W;have s0:=η (D.o.trans W);have u0:=η (Z.o.ext W);have n0:(({data:=#[105,109,97,112]}++{data:=(be 4 nx.toNat).toArray}++{data:=(be 4 ck.toNat).toArray}++{data:=(be 8 sd.toNat).toArray}++{data:=(be 1 m).toArray}):ByteArray)=⟨(q3I nx ck sd m++((T.take 0).map q1F).flatten).toArray⟩:=by
  rw[q.o];have e0:({data:=#[105,109,97,112]}:ByteArray)=⟨([105,109,97,112]:List UInt8).toArray⟩:=rfl;rw[e0,ByteArray.mk_append_mk,ByteArray.mk_append_mk,ByteArray.mk_append_mk,ByteArray.mk_append_mk];simp
 have A0:=η n0;have l0:=q5l T;have K0:=η l0;have g0: ∀k,(q3I nx ck sd m++((T.take k).map q1F).flatten).length<=300:=by
  intro k;rw[θ,q5f,q5l];have h1:(T.take k).length<=T.length:=by simp;omega
  have h2:=q2A T k;have h3:=a0.o;have h4:=E.o;omega
 have Y:=η g0;clear W n0 l0 g0 D Z q f0 f1 f2 j0 k0 I0 H0;go_wp2_with fail
 go_loopw [5,37] (fun s i w'=> ∃k:Nat,k<=m/\i= .int .i64 k/\s= .string ⟨(q3I nx ck sd m++((T.take k).map q1F).flatten).toArray⟩/\Ext w3 w') (fun _ i _=>m-(intOf i).toNat)
 case atStart=>exact⟨0,υ _,rfl,by rw[A0.o],Ext.refl _⟩
 case round =>
  obtain⟨k,hk,rfl,rfl,G⟩:=hrel;have Hb:=η G;clear G;by_cases J:k<m
  ·obtain⟨b,off,ai,l,ci,rfl,c1,r1⟩:=(u0.o.ext Hb.o).at J
   have F0:k<T.length:=by have:=E.o;omega
   have u:=q6S q1F T [] k F0;have y: ∀x∈T.getD k [],0<=x/\x<=1000000:=B0.o k;have P0:=Y.o k;have R0:(T.getD k []).length<=40:=by have:=q5g T k;have:=a0.o;omega
   generalize T.getD k []=R at*;generalize hP:q3I nx ck sd m++((T.take k).map q1F).flatten=P at*;have y0:Hd (q3I nx ck sd m++((T.take (k+1)).map q1F).flatten=P++q1F R):=η (by rw[u,<-List.append_assoc,hP]);have R1:=η r1;have g1:=r1.fits;have g2:=r1.bound;have g3:=r1.len;have O0:l<=40:=by omega
   have HR:=η y;have G3:=η g3;clear r1 u hP y g3;go_wp2_with fail;have hc:=q7a (l:Int) 1 wr (by omega) (by omega) (by omega) (by omega);rw[Int.toNat_natCast] at hc;refine hc.mono ?_;clear hc;rintro e w4 ⟨rfl,I⟩;have t0:=η (Hb.o.trans I);have C0:=η (R1.o.ext I);clear I;have U:(({data:=P.toArray}++{data:=(be 1 l).toArray}):ByteArray)=⟨(P++(be 1 l++((R.take 0).map fun x=>be 4 x.toNat).flatten)).toArray⟩:=by
    rw[ByteArray.mk_append_mk];simp
   have z0:=η U;clear U;have D0:=q0G 1 l;go_wp2_with fail
   go_loopw [5,49] (fun s i w'=> ∃j:Nat,j<=l/\i= .int .i64 j/\s= .string ⟨(P++(be 1 l++((R.take j).map fun x=>be 4 x.toNat).flatten)).toArray⟩/\Ext w4 w') (fun _ i _=>l-(intOf i).toNat)
   case atStart=>exact⟨0,υ _,rfl,by rw[z0.o],Ext.refl _⟩
   case round=>
    obtain⟨j,hj,rfl,rfl,c0⟩:=hrel;have S:=η c0;clear c0;by_cases E0:j<l
    ·obtain⟨b',J0,rfl,d1⟩:=(C0.o.ext S.o).at E0
     have h0:j<R.length:=by have:=G3.o;omega
     have m0:=q6S (fun x:Int=>be 4 x.toNat) R 0 j h0;have C:=HR.o _ (q4b R j h0);have Q0:(P++(be 1 l++((R.take j).map fun x=>be 4 x.toNat).flatten)).length<=500:=by
      rw[θ,θ,D0,q7H];have:=List.length_take_le j R;omega
     generalize R.getD j 0=X at*;have HQ:Hd (P++(be 1 l++((R.take (j+1)).map fun x=>be 4 x.toNat).flatten)=(P++(be 1 l++((R.take j).map fun x=>be 4 x.toNat).flatten))++be 4 X.toNat):=η (by rw[m0];simp);generalize P++(be 1 l++((R.take j).map fun x=>be 4 x.toNat).flatten)=Q at*;obtain⟨x1,x2⟩:=C;clear m0;go_wp2_with fail;refine(q7a X 4 _ (by omega) (by omega) (by omega) (by omega)).mono ?_;rintro e w5 ⟨rfl,r⟩;have N:=η (S.o.trans r);have I:=q0G 4 X.toNat;clear r;go_wp2_with fail
     go_roundw
     case rel=>exact⟨j+1,by omega,by go_num,by rw[HQ.o,<-ByteArray.mk_append_mk],N.o⟩
     case measure=>simp[intOf];omega
    ·have i0:R.take j=R:=Δ (by have:=G3.o;omega)
     have v0:=η i0;clear i0;go_wp2_with fail
     go_roundw
     case rel=>exact⟨k+1,by omega,by go_num,by rw[y0.o,v0.o];unfold q1F;rw[G3.o],t0.o.trans S.o⟩
     case measure=>simp[intOf];omega
  ·have G0:k=m:=by omega
   have b0:T.take k=T:=Δ (by have:=E.o;omega);have d:q3I nx ck sd m++((T.take k).map q1F).flatten=q2C nx ck sd L:=by rw[O.o,E.o,b0]
   rw[d];have L0:(q2C nx ck sd L).length<=300:=by have:=Y.o k;rwa [d] at this
   clear d G0 b0;go_wp2_with fail;refine(q9l _ _ (by omega)).mono ?_;rintro e w6 ⟨rfl,r⟩;have N:=η (Hb.o.trans r);clear r;go_wp2_with fail;go_ret2;exact⟨by rw[HV.o];rfl,(q0C _ _).trans (s0.o.trans N.o)⟩
theorem q4K(h:Ext w w'){a:Addr}{u:Value}(hc:w.cell? a=some u)(b:w.frozen? a=false):w'.frozen? a=false:=
 (h.frozen (World.block_lt_of_cell? (h:=hc))).trans b
theorem Own.setBelow{size:Nat}{cs:List Value}(h:Own w B e size v n cs)(d:g<B)(k:Nat)(u:Value):Own (w.setCell ⟨g,k,none⟩ u) B e size v n cs:=
 h.setOther u fun b=>by have:=(h.lt _ b).1;simp at this;omega
theorem OGr.setBelow(h:OGr w B tO tI v vs L)(b:g<B)(k:Nat)(u:Value):OGr (w.setCell ⟨g,k,none⟩ u) B tO tI v vs L:=
 ⟨h.own.setBelow b k u,fun i=>(h.row i).setBelow b k u,h.sep⟩
theorem y2X(l:List UInt8)(ok:Bool)(g:Nat)(k:Int)(w:World)(i:w.cell? ⟨g,0,none⟩=some (.string ⟨l.toArray⟩))(j:w.cell? ⟨g,1,none⟩=some (.bool ok))(q:w.frozen? ⟨g,0,none⟩=false)(r:w.frozen? ⟨g,1,none⟩=false)(d:l.length<=9223372036854775807)(b:0<=k)(o:(l.length:Int)<k):
  Calls Tryz.prog 311 #[.pointer (some ⟨g,0,none⟩),.int .i64 k] w fun e w'=>e= .returned (.int .u64 0)/\w'=(w.setCell ⟨g,0,none⟩ (.string ⟨#[]⟩)).setCell ⟨g,1,none⟩ (.bool false):=by
 go_enter Tryz.func311,Tryz.ntmps311;go_wp2_with fail;go_ret;exact⟨rfl,rfl⟩
theorem y0g(l:List UInt8)(g:Nat)(k:Nat)(w:World)(i:w.cell? ⟨g,0,none⟩=some (.string ⟨l.toArray⟩))(u:w.frozen? ⟨g,0,none⟩=false)(s:l.length<=9223372036854775807)(C:k<=l.length)(y:k<=8):
  Calls Tryz.prog 311 #[.pointer (some ⟨g,0,none⟩),.int .i64 k] w fun e w'=>e= .returned (.int .u64 (q1W (l.take k)))/\ ∃w1,Ext w w1/\w'=w1.setCell ⟨g,0,none⟩ (.string ⟨(l.drop k).toArray⟩):=by
 go_enter Tryz.func311,Tryz.ntmps311;have d:(l.take k).length<=9223372036854775807:=by simp;omega
 have j:(l.take k).take 8=l.take k:=by rw[List.take_take];congr 1;omega
 have r:=η j;clear j;go_wp2_with fail;refine(z0S _ _ d).mono ?_;rw[r.o];rintro e w1 ⟨rfl,b⟩;have x:=q0A b i;have D:=q4K b i u;have q:=η b;clear b;go_wp2_with fail;go_ret;exact⟨rfl,w1,q.o,rfl⟩
structure Off(g:Nat)(w w':World):Prop where
 os:w'.os=w.os
 tape:w'.tape=w.tape
 output:w'.output=w.output
 size:w.heap.size<=w'.heap.size
 block: ∀i,i<w.heap.size->i≠g->w'.heap[i]? =w.heap[i]?
theorem Off.refl(g:Nat)(w:World):Off g w w:=⟨rfl,rfl,rfl,ι _,fun _ _ _=>rfl⟩
theorem Off.trans{a b c:World}(h:Off g a b)(k:Off g b c):Off g a c:=
 ⟨k.os.trans h.os,k.tape.trans h.tape,k.output.trans h.output,Ω h.size k.size,fun i d j=>(k.block i (Ψ d h.size) j).trans (h.block i d j)⟩
theorem Off.of_ext(h:Ext w w'):Off g w w':=⟨h.os,h.tape,h.output,h.size,fun i b _=>h.block i b⟩
theorem Off.set(w:World)(k:Nat)(u:Value):Off g w (w.setCell ⟨g,k,none⟩ u):=
 ⟨rfl,rfl,rfl,by simp[World.setCell],fun i _ b=>Below.heap_setCell _ _ _ _ b⟩
theorem Off.ext(h:Ext w0 w)(d:w0.heap.size<=g)(k:Off g w w'):Ext w0 w':=
 ⟨k.os.trans h.os,k.tape.trans h.tape,k.output.trans h.output,Ω h.size k.size,fun i b=>(k.block i (Ψ b h.size) (by omega)).trans (h.block i b)⟩
theorem Off.below(h:Below B w0 w)(d:B<=g)(j:B<=w.heap.size)(k:Off g w w'):Below B w0 w':=
 ⟨k.os.trans h.os,k.tape.trans h.tape,k.output.trans h.output,Ω h.size k.size,fun i b=>(k.block i (by omega) (by omega)).trans (h.block i b)⟩
theorem Off.own{size:Nat}{cs:List Value}(h:Own w B e size v n cs)(d:g<B)(k:Off g w w'):Own w' B e size v n cs:=
 h.same fun i b=>k.block i (h.lt i b).2 (by have:=(h.lt i b).1;omega)
theorem Off.ogr(h:OGr w B tO tI v vs L)(b:g<B)(k:Off g w w'):OGr w' B tO tI v vs L:=
 ⟨Off.own h.own b k,fun i=>Off.own (h.row i) b k,h.sep⟩
theorem Off.grown{size:Nat}{xs:List Value}(h:Off g w0 w)(d:Own w B e size v n xs)(b:w.grownBy w' v.ownBlock)(o:w0.heap.size<=B):Off g w0 w':=
 ⟨b.os.trans h.os,b.tape.trans h.tape,b.output.trans h.output,Ω h.size b.size,fun i j l=>(b.block i (Ψ j h.size) (fun e=>by have:=(d.lt i e.symm).1;omega)).trans (h.block i j l)⟩
def Rdr(w:World)(g:Nat)(s:List UInt8)(ok:Bool):Prop:=w.heap[g]? =some (.cells #[.string ⟨s.toArray⟩,.bool ok] 386 (0,0))
theorem Rdr.c0{s:List UInt8}{ok:Bool}(h:Rdr w g s ok):w.cell? ⟨g,0,none⟩=some (.string ⟨s.toArray⟩):=by unfold Rdr at h;simp[World.cell?,h]
theorem Rdr.c1{s:List UInt8}{ok:Bool}(h:Rdr w g s ok):w.cell? ⟨g,1,none⟩=some (.bool ok):=by unfold Rdr at h;simp[World.cell?,h]
theorem Rdr.z0{s:List UInt8}{ok:Bool}(h:Rdr w g s ok):w.frozen? ⟨g,0,none⟩=false:=by unfold Rdr at h;simp[World.frozen?,h]
theorem Rdr.z1{s:List UInt8}{ok:Bool}(h:Rdr w g s ok):w.frozen? ⟨g,1,none⟩=false:=by unfold Rdr at h;simp[World.frozen?,h]
theorem Rdr.same{s:List UInt8}{ok:Bool}(h:Rdr w g s ok)(k:w'.heap[g]? =w.heap[g]?):Rdr w' g s ok:=k.trans h
theorem Rdr.lt{s:List UInt8}{ok:Bool}(h:Rdr w g s ok):g<w.heap.size:=World.block_lt_of_cell? (h:=h.c0)
theorem Rdr.ext{s:List UInt8}{ok:Bool}(h:Rdr w g s ok)(k:Ext w w'):Rdr w' g s ok:=h.same (k.block g h.lt)
def q3u(k:Nat)(s:List UInt8):Nat:=if s.length<k then 0 else q1W (s.take k)
def q2P(k:Nat)(s:List UInt8):List UInt8:=if s.length<k then [] else s.drop k
def q3p(k:Nat)(s:List UInt8)(ok:Bool):Bool:=if s.length<k then false else ok
theorem q9p(l:List UInt8)(ok:Bool)(g k:Nat)(N:Int)(w:World)(o:N=(k:Int))(h:Rdr w g l ok)(i:l.length<=9223372036854775807)(j:k<=8):
  Calls Tryz.prog 311 #[.pointer (some ⟨g,0,none⟩),.int .i64 N] w fun e w'=>e= .returned (.int .u64 (q3u k l))/\Rdr w' g (q2P k l) (q3p k l ok)/\Off g w w':=by
 subst o;by_cases b:l.length<k
 ·refine(y2X l ok g k w h.c0 h.c1 h.z0 h.z1 i (by omega) (by omega)).mono ?_
  rintro e w' ⟨rfl,rfl⟩;refine⟨by unfold q3u;rw[ξ b];rfl,?_,(Off.set _ _ _).trans (Off.set _ _ _)⟩;unfold q2P q3p Rdr;rw[ξ b,ξ b];unfold Rdr at h;simp[World.setCell,Array.getElem?_modify,h]
 ·refine(y0g l g k w h.c0 h.z0 i (by omega) j).mono ?_
  rintro e w' ⟨rfl,w1,d,rfl⟩;have h1:=h.ext d;refine⟨by unfold q3u;rw[κ b],?_,(Off.of_ext d).trans (Off.set _ _ _)⟩;unfold q2P q3p Rdr;rw[κ b,κ b];unfold Rdr at h1;simp[World.setCell,Array.getElem?_modify,h1]
def z3K :Nat->List UInt8->Bool->List Int->List Int×List UInt8×Bool
 |0,s,ok,acc=>(acc,s,ok)
 |i+1,s,ok,acc=>if ok then z3K i (q2P 4 s) (q3p 4 s ok) (acc++[(q3u 4 s:Int)]) else(acc,s,ok)
def q4r :Nat->List UInt8->Bool->List (List Int)->List (List Int)×List UInt8×Bool
 |0,s,ok,acc=>(acc,s,ok)
 |k+1,s,ok,acc=>if ok then q4r k (z3K (q3u 1 s) (q2P 1 s) (q3p 1 s ok) []).2.1 (z3K (q3u 1 s) (q2P 1 s) (q3p 1 s ok) []).2.2 (acc++[(z3K (q3u 1 s) (q2P 1 s) (q3p 1 s ok) []).1]) else(acc,s,ok)
theorem q5S(k:Nat)(s:List UInt8):q3u k s<256^k:=by
 unfold q3u
 split
 ·exact Nat.pow_pos (by decide)
 ·have:=q2R (s.take k)
  rwa [Θ,Nat.min_eq_left (by omega)] at this
theorem q5R(k:Nat)(s:List UInt8):(q2P k s).length<=s.length:=by unfold q2P;split<;>simp
structure q7s where
 nx:Int
 ck:Int
 sd:Int
 L:List (List Int)
 r:List UInt8
 ok:Bool
def q3O(s:List UInt8):q7s:=
 let r0:=s.drop 4
 let r1:=q2P 4 r0;let o1:=q3p 4 r0 true
 let r2:=q2P 4 r1;let o2:=q3p 4 r1 o1
 let r3:=q2P 8 r2;let o3:=q3p 8 r2 o2
 let r4:=q2P 1 r3;let o4:=q3p 1 r3 o3
 let p:=q4r (q3u 1 r3) r4 o4 []
 ⟨q3u 4 r0,q3u 4 r1,q3u 8 r2,p.1,p.2.1,p.2.2⟩
def z8A(x:Int):Prop:=0<=x/\x<4294967296
structure Got where
 nx:Int
 ck:Int
 sd:Int
 L:List (List Int)
 en:Int
def z6e :Got:=⟨0,0,0,[],90⟩
def q4D(t:List UInt8):Bool:=decide (4<=t.length)&&decide (t.take 4=[105,109,97,112])
def q2e(p:q7s)(s:List UInt8):Bool:=p.ok&&decide (p.r=[])&&q0e p.nx p.ck p.L&&decide ((q2g p.nx p.ck p.sd p.L).1=s)
def q3l(s:List UInt8):Got:=
 if q2Q s&&q4D (q2K s) then(if q2e (q3O (q2K s)) s then⟨(q3O (q2K s)).nx,(q3O (q2K s)).ck,(q3O (q2K s)).sd,(q3O (q2K s)).L,0⟩ else z6e) else z6e
def RetM(w:World)(g:Got)(e:Ending)(w':World):Prop:=
 ∃v vs,e= .returned (.tuple #[.agg #[.int .i64 g.nx,.int .i64 g.ck,.int .u64 g.sd,v],.int .i64 g.en])/\OGr w' w.heap.size 37 3 v vs g.L/\Ext w w'
theorem z4P(h:Ext w w1)(g:Nat)(i:w.heap.size<=g)(a b c d:Value):Ext w ((((w1.setCell ⟨g,0,none⟩ a).setCell ⟨g,1,none⟩ b).setCell ⟨g,2,none⟩ c).setCell ⟨g,3,none⟩ d):=
 Below.setCell (Below.setCell (Below.setCell (Below.setCell h i a) i b) i c) i d
theorem RetM.bad(h:Ext w w1)(g:Nat)(i:w.heap.size<=g)(s:List UInt8)(j:q3l s=z6e)(a b c d:Value):
  RetM w (q3l s) (.returned (.tuple #[.agg #[.int .i64 0,.int .i64 0,.int .u64 0,.slice none 0 0],.int .i64 90])) ((((w1.setCell ⟨g,0,none⟩ a).setCell ⟨g,1,none⟩ b).setCell ⟨g,2,none⟩ c).setCell ⟨g,3,none⟩ d):=by
 rw[j];exact⟨_,_,rfl,OGr.nil _ _ _ _,z4P h g i a b c d⟩
theorem z5Q{a b c d:Value}{t:TypeId}(h:Ext (w.alloc (.cells #[a,b,c,d] t)) w1):
  w1.frozen? ⟨w.heap.size,0,none⟩=false/\w1.frozen? ⟨w.heap.size,1,none⟩=false/\w1.frozen? ⟨w.heap.size,2,none⟩=false/\w1.frozen? ⟨w.heap.size,3,none⟩=false:=by
 have k:=z6i (w:=w) (Ext.refl (w.alloc (.cells #[a,b,c,d] t)));exact⟨q4K h k.1 (by simp),q4K h k.2.1 (by simp),q4K h k.2.2.1 (by simp),q4K h k.2.2.2 (by simp)⟩
theorem z9u(h:q4D t=false):(decide ((t.length:Int)<4)||!(t.take 4==[105,109,97,112]))=true:=by
 unfold q4D at h;rw[Bool.and_eq_false_iff,decide_eq_false_iff_not,decide_eq_false_iff_not] at h;rw[Bool.or_eq_true,decide_eq_true_iff];rcases h with h|h
 ·left;omega
 ·right;simpa using h
theorem q9V(m:Nat): ∀L:List (List Int),(∀r∈L,r.length<=m)->L.flatten.length<=m*L.length
 |[],_=>by simp
 | r::L,h=>by
  have h1:=h r (by simp);have h2:=q9V m L fun x b=>h x (by simp[b])
  simp only[List.flatten_cons,θ,χ,Nat.mul_add];omega
def Mbx(w:World)(g:Nat)(a b c:Int)(v:Value):Prop:=w.heap[g]? =some (.cells #[.int .i64 a,.int .i64 b,.int .u64 c,v] 47 (0,0))
theorem Mbx.cs{b:Int}(h:Mbx w g a b c v):w.cell? ⟨g,0,none⟩=some (.int .i64 a)/\w.cell? ⟨g,1,none⟩=some (.int .i64 b)/\w.cell? ⟨g,2,none⟩=some (.int .u64 c)/\w.cell? ⟨g,3,none⟩=some v/\w.frozen? ⟨g,3,none⟩=false:=by
 unfold Mbx at h;simp[World.cell?,World.frozen?,h]
theorem Mbx.same{b:Int}(h:Mbx w g a b c v)(k:w'.heap[g]? =w.heap[g]?):Mbx w' g a b c v:=k.trans h
theorem Mbx.lt{b:Int}(h:Mbx w g a b c v):g<w.heap.size:=World.block_lt_of_cell? (h:=h.cs.1)
theorem Mbx.set{b:Int}(h:Mbx w g a b c v)(u:Value):Mbx (w.setCell ⟨g,3,none⟩ u) g a b c u:=by
 unfold Mbx at h⊢;simp[World.setCell,Array.getElem?_modify,h]
theorem y4G{x:Int}(h:z8A x):(Lit.int .i64 x).wf=true:=by
 obtain⟨h1,h2⟩:=h;have b:IntKind.i64.min= -9223372036854775808:=rfl;have d:IntKind.i64.max=9223372036854775807:=rfl;simp[Lit.wf];omega
def y2A(r:List Int):Prop:=r.length<=255/\ ∀x∈r,z8A x
theorem q9b{a:Nat}{s d:List UInt8}{b:Bool}{row:List Int}(i:q3u 1 s=a)(j:z3K a (q2P 1 s) (q3p 1 s true) []=(row,d,b)):
  q4r (m+1) s true acc=q4r m d b (acc++[row]):=by rw[q4r,ξ rfl,i,j]
theorem y0J{s:List UInt8}:q4r m s false acc=(acc,s,false):=by
 cases m with
 |zero=>rfl
 |succ m=>rw[q4r];simp
theorem y1o{s:List UInt8}{acc:List Int}:z3K m s false acc=(acc,s,false):=by
 cases m with
 |zero=>rfl
 |succ m=>rw[z3K];simp
theorem q9h{p:q7s}{s:List UInt8}(h:p.ok=false):q2e p s=false:=by unfold q2e;rw[h];rfl
theorem z8J{p:q7s}{s:List UInt8}(h:p.r≠[]):q2e p s=false:=by unfold q2e;rw[ε h,Bool.and_false];rfl
theorem z8K{p:q7s}{s:List UInt8}(h:q0e p.nx p.ck p.L=false):q2e p s=false:=by unfold q2e;rw[h,Bool.and_false];rfl
theorem z8I{p:q7s}{s:List UInt8}(h:(q2g p.nx p.ck p.sd p.L).1≠s):q2e p s=false:=by unfold q2e;rw[ε h,Bool.and_false]
theorem z2C{p:q7s}{s:List UInt8}(h1:p.ok=true)(h2:p.r=[])(h3:q0e p.nx p.ck p.L=true)(h4:(q2g p.nx p.ck p.sd p.L).1=s):q2e p s=true:=by unfold q2e;rw[h1,h3,ζ h2,ζ h4];rfl
structure Front(r0:List UInt8)(a1 a2 a3 a4:Nat)(r1 r2 r3 r4:List UInt8)(o1 o2 o3 o4:Bool):Prop where
 A1:q3u 4 r0=a1
 R1:q2P 4 r0=r1
 O1:q3p 4 r0 true=o1
 A2:q3u 4 r1=a2
 R2:q2P 4 r1=r2
 O2:q3p 4 r1 o1=o2
 A3:q3u 8 r2=a3
 R3:q2P 8 r2=r3
 O3:q3p 8 r2 o2=o3
 A4:q3u 1 r3=a4
 R4:q2P 1 r3=r4
 O4:q3p 1 r3 o3=o4
theorem Front.made(b:List UInt8): ∃a1 a2 a3 a4 r1 r2 r3 r4 o1 o2 o3 o4,Front b a1 a2 a3 a4 r1 r2 r3 r4 o1 o2 o3 o4:=⟨_,_,_,_,_,_,_,_,_,_,_,_,⟨rfl,rfl,rfl,rfl,rfl,rfl,rfl,rfl,rfl,rfl,rfl,rfl⟩⟩
theorem Front.parse(h:Front (t.drop 4) a1 a2 a3 a4 r1 r2 r3 r4 o1 o2 o3 o4):
  q3O t=⟨a1,a2,a3,(q4r a4 r4 o4 []).1,(q4r a4 r4 o4 []).2.1,(q4r a4 r4 o4 []).2.2⟩:=by
 obtain⟨rfl,rfl,rfl,rfl,rfl,rfl,rfl,rfl,rfl,rfl,rfl,rfl⟩:=h;rfl
theorem Front.b{d:List UInt8}(h:Front d a1 a2 a3 a4 r1 r2 r3 r4 o1 o2 o3 o4):
  (a1:Int)<4294967296/\(a2:Int)<4294967296/\(a3:Int)<18446744073709551616/\(a4:Int)<256/\r1.length<=d.length/\r2.length<=d.length/\r3.length<=d.length/\r4.length<=d.length:=by
 obtain⟨rfl,rfl,rfl,rfl,rfl,rfl,rfl,rfl,rfl,rfl,rfl,rfl⟩:=h;have i:=q5R 4 d;have j:=q5R 4 (q2P 4 d);have l:=q5R 8 (q2P 4 (q2P 4 d));have o:=q5R 1 (q2P 8 (q2P 4 (q2P 4 d)));refine⟨Int.ofNat_lt.2 (q5S 4 _),Int.ofNat_lt.2 (q5S 4 _),Int.ofNat_lt.2 (q5S 8 _),Int.ofNat_lt.2 (q5S 1 _),?_,?_,?_,?_⟩<;>omega
theorem y3W(s : List UInt8)(w:World)(hl:s.length<=4611686018427387903):
  Calls Tryz.prog 258 #[.string ⟨s.toArray⟩] w (RetM w (q3l s)):=by
 have x0:Hd (q2Q s=false->q3l s=z6e):=η (fun h=>by unfold q3l;rw[h];rfl);have y0:Hd (q4D (q2K s)=false->q3l s=z6e):=η (fun h=>by unfold q3l;rw[h,Bool.and_false];rfl);have A0:Hd (q2e (q3O (q2K s)) s=false->q3l s=z6e):=η (fun h=>by unfold q3l;rw[h];split<;>rfl);have B0:Hd (q2Q s=true->q4D (q2K s)=true->q2e (q3O (q2K s)) s=true->q3l s=⟨(q3O (q2K s)).nx,(q3O (q2K s)).ck,(q3O (q2K s)).sd,(q3O (q2K s)).L,0⟩):=η (fun h1 h2 h3=>by unfold q3l;rw[h1,h2,h3];rfl);have D2:(q2K s).length<=s.length:=by unfold q2K;split<;>simp
 generalize Z1:q2K s=t at*;have P1:=η Z1;clear Z1;go_enter Tryz.func258,Tryz.ntmps258;go_wp2_with fail;refine(z4g s _ hl).mono ?_;rw[P1.o];rintro e w1 ⟨rfl,hb⟩;obtain⟨d0,d1,d2,d3⟩:=z6i hb;obtain⟨z0,z1,z2,z3⟩:=z5Q hb;have HB:=η hb;clear hb;by_cases ho:q2Q s=false
 ·have HS:=η (x0.o ho)
  rw[ho];go_wp2_with fail
  ((try simp only[Exit.inBlock,Exit.then]);refine bodyPost_ret (v:= .tuple #[.agg #[_,_,_,_],_]) (by rw[results_cell_tmp rfl];go_simp;exact⟨⟨rfl,rfl,rfl,rfl⟩,rfl⟩) rfl ?_)
  exact RetM.bad ((q0C _ _).trans HB.o) _ (ι _) s HS.o _ _ _ _
 have ho:q2Q s=true:=by simpa using ho
 have HO:=η ho;rw[ho];clear ho;by_cases hf:q4D t=false
 ·have HS:=η (y0.o hf)
  have U0:=z9u hf;clear hf;by_cases h4:t.length<4
  ·clear U0
   go_wp2_with fail
   ((try simp only[Exit.inBlock,Exit.then]);refine bodyPost_ret (v:= .tuple #[.agg #[_,_,_,_],_]) (by rw[results_cell_tmp rfl];go_simp;exact⟨⟨rfl,rfl,rfl,rfl⟩,rfl⟩) rfl ?_)
   exact RetM.bad ((q0C _ _).trans HB.o) _ (ι _) s HS.o _ _ _ _
  ·have L2:(List.take 4 t==[105,109,97,112])=false:=by
    rw[Bool.or_eq_true,decide_eq_true_iff] at U0;rcases U0 with h|h
    ·omega
    ·simpa using h
   clear U0;go_wp2_with fail
   ((try simp only[Exit.inBlock,Exit.then]);refine bodyPost_ret (v:= .tuple #[.agg #[_,_,_,_],_]) (by rw[results_cell_tmp rfl];go_simp;exact⟨⟨rfl,rfl,rfl,rfl⟩,rfl⟩) rfl ?_)
   exact RetM.bad ((q0C _ _).trans HB.o) _ (ι _) s HS.o _ _ _ _
 have hf:q4D t=true:=by simpa using hf
 have HF:=η hf;have ⟨h4,hf4⟩:4<=t.length/\t.take 4=[105,109,97,112]:=by
  unfold q4D at hf;rw[Ξ,decide_eq_true_iff,decide_eq_true_iff] at hf;exact hf
 have Q0:=η (B0.o HO.o HF.o);have E0:Hd ((t.drop 4).length<=4611686018427387903):=η (by rw[List.length_drop];omega);obtain⟨a1,a2,a3,a4,r1,r2,r3,r4,o1,o2,o3,o4,f2⟩:=Front.made (t.drop 4);have d:=η f2;clear f2;have E:=η (fun h=>A0.o h);have Q2:t.length<=4611686018427387903:=by omega
 clear hf B0 x0 y0 A0 D2;have hG:(w.alloc (.cells #[.int .i64 0,.int .i64 0,.int .u64 0,.slice none 0 0] 47)).heap.size<=w1.heap.size:=HB.o.size;have HG:=η hG;clear hG;go_wp2_with fail;have t0:Rdr (w1.alloc (.cells #[.string ⟨(t.drop 4).toArray⟩,.bool true] 386)) w1.heap.size (t.drop 4) true:=heap_alloc_new _ _;refine(q9p (t.drop 4) true _ 4 4 _ rfl t0 (by have:=E0.o;omega) (by decide)).mono ?_;rw[d.o.A1,d.o.R1,d.o.O1];rintro e w2 ⟨rfl,v1,k1⟩;have Z0:=η v1;have V1:=η (Off.ext (HB.o.trans (q0C _ _)) HG.o k1);clear t0 v1 k1;have b1:=d.o.b.1;have b2:=d.o.b.2.1;go_wp2_with fail;refine(q9p r1 o1 _ 4 4 _ rfl Z0.o (by have:=d.o.b;have:=E0.o;omega) (by decide)).mono ?_;rw[d.o.A2,d.o.R2,d.o.O2];rintro e w3 ⟨rfl,x1,l1⟩;have e1:=η x1;have W1:=η (Off.ext V1.o HG.o l1);clear x1 l1;go_wp2_with fail;refine(q9p r2 o2 _ 8 8 _ rfl e1.o (by have:=d.o.b;have:=E0.o;omega) (by decide)).mono ?_;rw[d.o.A3,d.o.R3,d.o.O3];rintro e w4 ⟨rfl,M0,p1⟩;have f1:=η M0;have X1:=η (Off.ext W1.o HG.o p1);have F2:=M0.lt;clear M0 p1;go_wp2_with fail;have H0:Mbx (w4.alloc (.cells #[.int .i64 a1,.int .i64 a2,.int .u64 a3,.slice none 0 0] 47)) w4.heap.size a1 a2 a3 (.slice none 0 0):=heap_alloc_new _ _;refine(q9p r3 o3 _ 1 1 _ rfl (f1.o.ext (q0C _ _)) (by have:=d.o.b;have:=E0.o;omega) (by decide)).mono ?_;rw[d.o.A4,d.o.R4,d.o.O4];rintro e w5 ⟨rfl,y1,I0⟩;have C0:=η (H0.same (I0.block _ H0.lt (by omega)));have g1:=η y1;have Y1:=η (Off.ext (X1.o.trans (q0C _ _)) HG.o I0);have G2:w4.heap.size<w5.heap.size:=C0.o.lt;have b4:=d.o.b.2.2.2.1;have S1:Hd (r4.length<=4611686018427387903):=η (by have:=d.o.b;have:=E0.o;omega);clear y1 I0 H0 V1 W1 X1 Z0 e1 f1 P1 hf4 w2 w3;go_wp2_with fail
 go_loopw [9] (fun i w'=> ∃(k:Nat) (S:List UInt8) (u0:Bool) (acc:List (List Int)) (v:Value) (vs:List Value),k<=a4/\i= .int .i64 k/\Rdr w' w1.heap.size S u0/\q4r (a4-k) S u0 acc=q4r a4 r4 o4 []/\Mbx w' w4.heap.size a1 a2 a3 v/\OGr w' w5.heap.size 37 3 v vs acc/\acc.length=k/\(∀r∈acc,y2A r)/\S.length<=4611686018427387903/\w5.heap.size<=w'.heap.size/\Ext (w.alloc (.cells #[.int .i64 0,.int .i64 0,.int .u64 0,.slice none 0 0] 47)) w') (fun i _=>a4-(intOf i).toNat)
 case atStart=>exact⟨0,r4,o4,[],_,[],υ _,rfl,g1.o,rfl,C0.o,OGr.nil _ _ _ _,rfl,by simp,S1.o,ι _,Y1.o⟩
 case round =>
  obtain⟨k,S,u0,acc,v,vs,hk,rfl,t0,j1,j2,M1,c2,P0,k2,l2,hx⟩:=hrel;obtain⟨ao,co,rfl⟩:=M1.own.slice;have T0:=t0.c1;have F1:=η t0;have V:=η j1;have s0:=η j2;have e0:=η M1;have q0:=η c2;have N:=η P0;have U1:=η k2;have R:=η hx;have I1:=η l2;clear g1 C0 Y1 S1;clear t0 j1 j2 M1 c2 P0 k2 l2 hx;by_cases M2:k<a4
  ·cases u0 with
   | false=>
    have HS:Hd (q3l s=z6e):=η (E.o (q9h (by rw[d.o.parse,<-V.o,y0J])));clear d0 d1 d2 d3 z0 z1 z2 z3 b1 b2;obtain⟨d0,d1,d2,d3⟩:=z6i R.o;obtain⟨z0,z1,z2,z3⟩:=z5Q R.o;go_wp2_with fail
    ((try simp only[Exit.inBlock,Exit.then]);refine bodyPost_ret (v:= .tuple #[.agg #[_,_,_,_],_]) (by rw[results_cell_tmp rfl];go_simp;exact⟨⟨rfl,rfl,rfl,rfl⟩,rfl⟩) rfl ?_)
    exact RetM.bad ((q0C _ _).trans R.o) _ (ι _) s HS.o _ _ _ _
   | true =>
    go_wp2_with fail;refine(q9p S true _ 1 1 _ rfl F1.o (by have:=U1.o;omega) (by decide)).mono ?_;obtain⟨a,ha⟩: ∃x,q3u 1 S=x:=⟨_,rfl⟩
    have ba:(a:Int)<256:=by have:=q5S 1 S;rw[ha] at this;exact Int.ofNat_lt.2 this
    have HA:=η ha;rw[ha];clear ha;rintro e w6 ⟨rfl,N0,o0⟩;have k0:=η N0;have j0:=η o0;have R0:Hd ((q2P 1 S).length<=4611686018427387903):=η (by have:=q5R 1 S;have:=U1.o;omega);have i2:w1.heap.size<w6.heap.size:=N0.lt;have G1:=η o0.size;have J1:Hd (w5.heap.size<=w6.heap.size):=η (by have:=I1.o;have:=o0.size;omega);clear N0 o0;go_wp2_with fail
    go_loopw [10,11] (fun E2 i w'=> ∃(j:Nat) (U:List UInt8) (i0:Bool) (row:List Int),j<=a/\i= .int .i64 j/\Rdr w' w1.heap.size U i0/\z3K j U i0 row=z3K a (q2P 1 S) (q3p 1 S true) []/\Own w' w6.heap.size 3 1 E2 row.length (row.map (Value.int .i64))/\row.length+j=a/\(∀x∈row,z8A x)/\U.length<=4611686018427387903/\Off w1.heap.size w6 w') (fun _ i _=>(intOf i).toNat)
    case atStart=>exact⟨a,_,_,[],ι _,rfl,k0.o,rfl,Own.nil _ _ _ _,by simp,by simp,R0.o,Off.refl _ _⟩
    case round =>
     obtain⟨j,U,i0,row,hj,rfl,O0,G0,K0,N2,t1,C1,q1⟩:=hrel;have e2:=O0.c1;have O:=η O0;have M:=η G0;have q:=η K0;have D0:=η t1;have l0:=η C1;have X:=η q1;clear O0 G0 K0 t1 C1 q1
     cases j with
     | zero =>
      have HD:Hd (z3K a (q2P 1 S) (q3p 1 S true) []=(row,U,i0)):=η (by rw[<-M.o];rfl);have I:=η (j0.o.trans X.o);obtain⟨ai,ci,rfl⟩:=q.o.slice;have F:=η (s0.o.same (I.o.block _ s0.o.lt (by omega)));have m1:=F.o.cs;obtain⟨_,_,_,m3,_⟩:=m1;have a0:=(Off.ogr e0.o (show w1.heap.size<w5.heap.size by omega) I.o).ext (q0C _ (.cells #[.slice ai row.length ci] 37));have C:=η a0;clear a0;have L1:acc.length<=255:=by have:=q0.o;omega
      have g0:=η q.o;have Y:=η O.o;clear q O M R0 X k0 j0 d0 d1 d2 d3 z0 z1 z2 z3 b1 b2 e2 T0;have y2:w5.heap.size<=wr.heap.size:=by have:=I1.o;have:=I.o.size;omega
      go_wp2_with (at_builtin;refine q0Y rfl _ _ 45 rfl w5.heap.size 37 _ 1 24 Tryz.underlying45 Tryz.infoInts rfl (by decide) _ _ _ rfl C.o.own _ _ _ [.slice ai row.length ci] rfl rfl (fun h=>by cases h) (Rd.lit _ _ _) (by intro u hu;rw[List.mem_singleton.1 hu];rfl) (by omega) (by omega) (by simp;omega) ?_;intro v' w8 D hg _;obtain⟨ap,cp,rfl⟩:=D.slice;have W:=η ((F.o.same ((q0C _ _).block _ F.o.lt)).same (hg.block _ (by have:=F.o.lt;simp;omega) (by intro e;have:=(C.o.own.lt _ e.symm).1;omega)));have ⟨_,_,_,m4,m5⟩:=W.o.cs)
      have J:Rdr w8 w1.heap.size U i0:=(Y.o.ext (q0C _ _)).same (hg.block _ (by have:=Y.o.lt;simp;omega) (by intro e;have:=(C.o.own.lt _ e.symm).1;omega));have G:=q0z ((Off.below R.o HG.o R.o.size I.o).alloc (Ω R.o.size I.o.size) (.cells #[.slice ai row.length ci] 37)) (C.o.own.base (by have:=HG.o;omega)) hg (Ω R.o.size (Ω I.o.size (q0C _ _).size));have Z:=C.o.push (l:=row) (by decide) (g0.o.ext ((Ext.refl _).alloc _)) (show w5.heap.size<=w6.heap.size from J1.o) (fun j g hh=>Ψ (e0.o.lt j g hh) G1.o) D hg;have Q:=η J;have v0:=η (Below.setCell G (p:=⟨w4.heap.size,3,none⟩) (by have:=HG.o;show _<=w4.heap.size;omega) (.slice ap (acc.length+1) cp));have r0:=η Z;have b0:=hg.size;have H1:Hd (w5.heap.size<=w8.heap.size):=η (by simp at b0;omega);clear J G Z D hg b0;go_wp2_with fail
      go_roundw
      case rel=>
       refine⟨k+1,U,i0,acc++[row],.slice ap (acc.length+1) cp,vs++[.slice ai row.length ci],by omega,by go_num,Q.o.same (Below.heap_setCell _ _ _ _ (show w1.heap.size≠w4.heap.size by omega)),?_,W.o.set _,r0.o.setBelow (by omega) _ _,by rw[θ,q0.o];rfl,?_,l0.o,Ω H1.o (Off.set (g:=w4.heap.size) w8 3 _).size,v0.o⟩
       ·rw[<-V.o]
        have e:a4-k=(a4-(k+1))+1:=by omega
        rw[e,q9b HA.o HD.o]
       ·intro r hr
        rw[List.mem_append,Γ] at hr;rcases hr with hr|rfl
        ·exact N.o r hr
        ·exact⟨by omega,D0.o⟩
      case measure=>simp[intOf];omega
     | succ j =>
      cases i0 with
      | false =>
        have HD:Hd (z3K a (q2P 1 S) (q3p 1 S true) []=(row,U,false)):=η (by rw[<-M.o];exact y1o);have I:=η (j0.o.trans X.o);obtain⟨ai,ci,rfl⟩:=q.o.slice;have F:=η (s0.o.same (I.o.block _ s0.o.lt (by omega)));have m1:=F.o.cs;obtain⟨_,_,_,m3,_⟩:=m1;have a0:=(Off.ogr e0.o (show w1.heap.size<w5.heap.size by omega) I.o).ext (q0C _ (.cells #[.slice ai row.length ci] 37));have C:=η a0;clear a0;have L1:acc.length<=255:=by have:=q0.o;omega
        have g0:=η q.o;have Y:=η O.o;clear q O M R0 X k0 j0 d0 d1 d2 d3 z0 z1 z2 z3 b1 b2 T0;have C2:(0:Int)<(j:Int)+1:=by omega
        have y2:w5.heap.size<=wr.heap.size:=by have:=I1.o;have:=I.o.size;omega
        go_wp2_with (at_builtin;refine q0Y rfl _ _ 45 rfl w5.heap.size 37 _ 1 24 Tryz.underlying45 Tryz.infoInts rfl (by decide) _ _ _ rfl C.o.own _ _ _ [.slice ai row.length ci] rfl rfl (fun h=>by cases h) (Rd.lit _ _ _) (by intro u hu;rw[List.mem_singleton.1 hu];rfl) (by omega) (by omega) (by simp;omega) ?_;intro v' w8 D hg _;obtain⟨ap,cp,rfl⟩:=D.slice;have W:=η ((F.o.same ((q0C _ _).block _ F.o.lt)).same (hg.block _ (by have:=F.o.lt;simp;omega) (by intro e;have:=(C.o.own.lt _ e.symm).1;omega)));have ⟨_,_,_,m4,m5⟩:=W.o.cs)
        have J:Rdr w8 w1.heap.size U false:=(Y.o.ext (q0C _ _)).same (hg.block _ (by have:=Y.o.lt;simp;omega) (by intro e;have:=(C.o.own.lt _ e.symm).1;omega));have G:=q0z ((Off.below R.o HG.o R.o.size I.o).alloc (Ω R.o.size I.o.size) (.cells #[.slice ai row.length ci] 37)) (C.o.own.base (by have:=HG.o;omega)) hg (Ω R.o.size (Ω I.o.size (q0C _ _).size));have Z:=C.o.push (l:=row) (by decide) (g0.o.ext ((Ext.refl _).alloc _)) (show w5.heap.size<=w6.heap.size from J1.o) (fun j g hh=>Ψ (e0.o.lt j g hh) G1.o) D hg;have Q:=η J;have v0:=η (Below.setCell G (p:=⟨w4.heap.size,3,none⟩) (by have:=HG.o;show _<=w4.heap.size;omega) (.slice ap (acc.length+1) cp));have r0:=η Z;have b0:=hg.size;have H1:Hd (w5.heap.size<=w8.heap.size):=η (by simp at b0;omega);clear J G Z D hg b0;go_wp2_with fail
        go_roundw
        case rel=>
         refine⟨k+1,U,false,acc++[row],.slice ap (acc.length+1) cp,vs++[.slice ai row.length ci],by omega,by go_num,Q.o.same (Below.heap_setCell _ _ _ _ (show w1.heap.size≠w4.heap.size by omega)),?_,W.o.set _,r0.o.setBelow (by omega) _ _,by rw[θ,q0.o];rfl,?_,l0.o,Ω H1.o (Off.set (g:=w4.heap.size) w8 3 _).size,v0.o⟩
         ·rw[<-V.o]
          have e:a4-k=(a4-(k+1))+1:=by omega
          rw[e,q9b HA.o HD.o]
         ·intro r hr
          rw[List.mem_append,Γ] at hr;rcases hr with hr|rfl
          ·exact N.o r hr
          ·exact⟨by omega,D0.o⟩
        case measure=>simp[intOf];omega
      | true =>
       obtain⟨ai,ci,rfl⟩:=q.o.slice;have I2:row.length<=255:=by omega
       have C2:(0:Int)<(j:Int)+1:=by omega
       clear k0 R0 G1 J1 s0 e0 F1 N d0 d1 d2 d3 z0 z1 z2 z3 b1 b2 T0;go_wp2_with fail;refine(q9p U true _ 4 4 _ rfl O.o (by have:=l0.o;omega) (by decide)).mono ?_;obtain⟨x,W0⟩: ∃x,q3u 4 U=x:=⟨_,rfl⟩
       have bx:(x:Int)<4294967296:=by have:=q5S 4 U;rw[W0] at this;exact Int.ofNat_lt.2 this
       have x2:=η W0;rw[W0];clear W0;rintro e w8 ⟨rfl,J,J0⟩;have Q:=η J;have X0:=η (X.o.trans J0);have f0:=η ((Off.own q.o i2 J0).ext (q0C _ (.cells #[.int .i64 x] 3)));have b0:=X0.o.size;clear J J0 O q e2
       go_wp2_with (at_builtin;refine q0Y rfl _ _ 37 rfl w6.heap.size 3 _ 1 8 Tryz.underlying37 Tryz.infoInt rfl (by decide) _ _ _ rfl f0.o _ _ _ [.int .i64 x] rfl rfl (fun h=>by cases h) (Rd.lit _ _ _) (by intro u hu;rw[List.mem_singleton.1 hu];rfl) (by omega) (by omega) (Ω b0 (q0C _ _).size) ?_;intro v' w9 L0 K1 _)
       have B1:Rdr w9 w1.heap.size (q2P 4 U) (q3p 4 U true):=(Q.o.ext (q0C _ _)).same (K1.block _ (by have:=Q.o.lt;simp;omega) (by intro e;have:=(f0.o.lt _ e.symm).1;omega));have s1:=Off.grown (X0.o.trans (Off.of_ext (q0C _ _))) f0.o K1 (ι _);have p0:Own w9 w6.heap.size 3 1 v' (row++[(x:Int)]).length ((row++[(x:Int)]).map (Value.int .i64)):=by rw[θ,List.map_append];exact L0
       have T1:=η B1;have Q1:=η s1;have E1:=η p0;clear B1 s1 p0 L0 K1 b0;go_wp2_with fail
       go_roundw
       case rel=>
        refine⟨j,q2P 4 U,q3p 4 U true,row++[(x:Int)],by omega,by go_num,T1.o,?_,E1.o,by simp;omega,?_,by have:=q5R 4 U;have:=l0.o;omega,Q1.o⟩
        ·rw[<-M.o,z3K,ξ rfl,x2.o]
        ·intro y hy
         rw[List.mem_append,Γ] at hy;rcases hy with hy|rfl
         ·exact D0.o y hy
         ·exact⟨by omega,bx⟩
       case measure=>simp[intOf]
  ·have g2:k=a4:=by omega
   have HE:Hd (q3O t=⟨a1,a2,a3,acc,S,u0⟩):=η (by rw[d.o.parse,<-V.o,g2,Nat.sub_self];rfl);clear g2;clear d0 d1 d2 d3 z0 z1 z2 z3 b1 b2
   cases u0 with
   | false=>
    have HS:Hd (q3l s=z6e):=η (E.o (q9h (by rw[HE.o])));obtain⟨d0,d1,d2,d3⟩:=z6i R.o;obtain⟨z0,z1,z2,z3⟩:=z5Q R.o;go_wp2_with fail
    ((try simp only[Exit.inBlock,Exit.then]);refine bodyPost_ret (v:= .tuple #[.agg #[_,_,_,_],_]) (by rw[results_cell_tmp rfl];go_simp;exact⟨⟨rfl,rfl,rfl,rfl⟩,rfl⟩) rfl ?_)
    exact RetM.bad ((q0C _ _).trans R.o) _ (ι _) s HS.o _ _ _ _
   | true =>
    have B2:=F1.o.c0;obtain⟨m0,m1,m2,m3,_⟩:=s0.o.cs;by_cases hs:S=[]
    ·subst hs
     obtain⟨J2,K2,he,Z⟩:=e0.o.grid
     cases he;have D1:acc.flatten.length<=17592186044416:=by have:=q9V 255 acc fun r hr=>(N.o r hr).1;have:=q0.o;omega
     have u1: ∀x∈acc.flatten,z8A x:=fun x hx=>by obtain⟨r,h1,h2⟩:=List.mem_flatten.1 hx;exact(N.o r h1).2 x h2
     have r0:=η Z;have i1:=η D1;have Y0:=η u1;have B3:=η d.o.b.2.2.1;clear V q0 Z D1 u1;go_wp2_with fail;refine(z0d a1 a2 a3 _ _ _ acc _ r0.o i1.o (fun x hx=>y4G (Y0.o x hx))).mono ?_;rintro e w8 ⟨rfl,G⟩;have F0:=η (R.o.trans G);have N1:=η (r0.o.ext G);have v0:=η G;have p2:=q0A G m0;have q2:=q0A G m1;have t2:=q0A G m2;have u2:=q0A G m3;clear G m0 m1 m2 m3 B2 T0;by_cases hv:q0e a1 a2 acc=false
     ·have HS:Hd (q3l s=z6e):=η (E.o (z8K (by rw[HE.o];exact hv)))
      rw[hv];obtain⟨d0,d1,d2,d3⟩:=z6i F0.o;obtain⟨z0,z1,z2,z3⟩:=z5Q F0.o;go_wp2_with fail
      ((try simp only[Exit.inBlock,Exit.then]);refine bodyPost_ret (v:= .tuple #[.agg #[_,_,_,_],_]) (by rw[results_cell_tmp rfl];go_simp;exact⟨⟨rfl,rfl,rfl,rfl⟩,rfl⟩) rfl ?_)
      exact RetM.bad ((q0C _ _).trans F0.o) _ (ι _) s HS.o _ _ _ _
     have hv:q0e a1 a2 acc=true:=by simpa using hv
     have HV:=η hv;rw[hv];clear hv;go_wp2_with fail;refine(y0w a1 a2 a3 _ _ _ acc _ N1.o i1.o (fun x hx=>y4G (Y0.o x hx)) (by omega) B3.o).mono ?_;obtain⟨P,hP⟩: ∃P,q2g a1 a2 a3 acc=(P,0):=⟨_,by unfold q2g;rw[HV.o];rfl⟩
     have HP:=η hP;rw[hP];clear hP;rintro e w9 ⟨rfl,h0⟩;have S0:=η (F0.o.trans h0);have v2:=η (v0.o.trans h0);have n0:=q0A h0 p2;have n1:=q0A h0 q2;have n2:=q0A h0 t2;have n3:=q0A h0 u2;obtain⟨d0,d1,d2,d3⟩:=z6i S0.o;obtain⟨z0,z1,z2,z3⟩:=z5Q S0.o;clear h0 p2 q2 t2 u2 N1 F0;by_cases V0:P=s
     ·have HS:Hd (q3l s=⟨a1,a2,a3,acc,0⟩):=η (by rw[Q0.o (z2C (by rw[HE.o]) (by rw[HE.o]) (by rw[HE.o];exact HV.o) (by rw[HE.o];show(q2g a1 a2 a3 acc).1=s;rw[HP.o];exact V0)),HE.o])
      subst V0;go_wp2_with fail
      ((try simp only[Exit.inBlock,Exit.then]);refine bodyPost_ret (v:= .tuple #[.agg #[_,_,_,_],_]) (by rw[results_cell_tmp rfl];go_simp;exact⟨⟨rfl,rfl,rfl,rfl⟩,rfl⟩) rfl ?_)
      have hw:w.heap.size<w5.heap.size:=by have:=HG.o;simp at this;omega
      rw[HS.o];exact⟨.slice ao acc.length co,vs,rfl,((((e0.o.ext v2.o).setBelow hw _ _).setBelow hw _ _).setBelow hw _ _|>.setBelow hw _ _).base (by omega),z4P ((q0C _ _).trans S0.o) _ (ι _) _ _ _ _⟩
     ·have HS:Hd (q3l s=z6e):=η (E.o (z8I (by rw[HE.o];show(q2g a1 a2 a3 acc).1≠s;rw[HP.o];exact V0)))
      have H2:(P==s)=false:=by simpa using V0
      go_wp2_with fail
      ((try simp only[Exit.inBlock,Exit.then]);refine bodyPost_ret (v:= .tuple #[.agg #[_,_,_,_],_]) (by rw[results_cell_tmp rfl];go_simp;exact⟨⟨rfl,rfl,rfl,rfl⟩,rfl⟩) rfl ?_)
      exact RetM.bad ((q0C _ _).trans S0.o) _ (ι _) s HS.o _ _ _ _
    ·have HS:Hd (q3l s=z6e):=η (E.o (z8J (by rw[HE.o];exact hs)))
     have P2:(S==[])=false:=by simpa using hs
     obtain⟨d0,d1,d2,d3⟩:=z6i R.o;obtain⟨z0,z1,z2,z3⟩:=z5Q R.o;go_wp2_with fail
     ((try simp only[Exit.inBlock,Exit.then]);refine bodyPost_ret (v:= .tuple #[.agg #[_,_,_,_],_]) (by rw[results_cell_tmp rfl];go_simp;exact⟨⟨rfl,rfl,rfl,rfl⟩,rfl⟩) rfl ?_)
     exact RetM.bad ((q0C _ _).trans R.o) _ (ι _) s HS.o _ _ _ _
end
section
theorem q7A(k x:Nat)(r:List UInt8)(h:x<256^k):q3u k (be k x++r)=x/\q2P k (be k x++r)=r/\ ∀ok,q3p k (be k x++r) ok=ok:=by
 have b:¬(be k x++r).length<k:=by simp[q0G]
 refine⟨?_,?_,fun ok=>?_⟩
 ·unfold q3u
  rw[κ b,List.take_left' (q0G k x),q5J,Nat.mod_eq_of_lt h]
 ·unfold q2P
  rw[κ b,List.drop_left' (q0G k x)]
 ·unfold q3p
  rw[κ b]
def b4(x:Int):List UInt8:=be 4 x.toNat
theorem z4X : ∀(l:List Int) (r:List UInt8) (acc:List Int),(∀x∈l,z8A x)->z3K l.length ((l.map b4).flatten++r) true acc=(acc++l,r,true)
 |[],r,acc,_=>by simp[z3K]
 | x::l,r,acc,h=>by
  have d:=h x (by simp);obtain⟨h1,h2⟩:=d;have b:=q7A 4 x.toNat ((l.map b4).flatten++r) (by omega);have e:((x::l).map b4).flatten++r=be 4 x.toNat++((l.map b4).flatten++r):=by simp[b4]
  rw[χ,z3K,ξ rfl,e,b.1,b.2.1,b.2.2,z4X l r _ fun y i=>h y (by simp[i]),List.append_assoc,Int.toNat_of_nonneg h1]
  rfl
theorem z1t : ∀(T:List (List Int)) (r:List UInt8) (acc:List (List Int)),(∀l∈T,y2A l)->q4r T.length ((T.map q1F).flatten++r) true acc=(acc++T,r,true)
 |[],r,acc,_=>by simp[q4r]
 | l ::T,r,acc,h=>by
  have d:=h l (by simp);have b:=q7A 1 l.length ((l.map b4).flatten++((T.map q1F).flatten++r)) (by have:=d.1;omega);have e:((l::T).map q1F).flatten++r=be 1 l.length++((l.map b4).flatten++((T.map q1F).flatten++r)):=by
   simp[q1F,List.append_assoc];rfl
  rw[χ,q4r,ξ rfl,e,b.1,b.2.1,b.2.2,z4X l _ [] d.2];simp only[List.nil_append];rw[z1t T r _ fun y i=>h y (by simp[i]),List.append_assoc]
  rfl
theorem z2U(L:List (List Int)):(q0c L).length<=L.length:=by rw[q2X];exact q3z _ _
theorem z3m(L:List (List Int)):q0c (q0c L)=q0c L:=by
 apply z8p;rcases Nat.eq_zero_or_pos (q0c L).length with h|h
 ·exact .inl (List.eq_nil_of_length_eq_zero h)
 ·exact .inr (z6K L _ (by omega))
theorem q8u(h:q1E L=true):q1E (q0c L)=true:=by
 have b:=q4A h;have d:=q1h L;exact q8t _ (Ω (z2U L) b.1) (by rw[d];exact b.2.1) (by rw[d];exact b.2.2.1) (by rw[d];exact b.2.2.2)
theorem q5n(h:q0e nx ck L=true):q0e nx ck (q0c L)=true:=by
 have b:=q2U h;rw[q9d b.1 (q8u b.2.1),q1h,List.all_eq_true];intro x d
 simpa using b.2.2 x d
theorem z1x(h:q0e nx ck L=true):q2g nx ck sd (q0c L)=q2g nx ck sd L:=by
 unfold q2g q2C;rw[ξ (q5n h),ξ h,z3m]
theorem z8X(h:q0e nx ck L=true):(q0c L).length<=5/\ ∀l∈q0c L,y2A l:=by
 have d:=q2U h;have i:=q4A (q8u d.2.1);refine⟨i.1,fun l b=>⟨?_,fun x o=>?_⟩⟩
 ·have:l.length<=(q0c L).flatten.length:=(List.sublist_flatten_of_mem b).length_le
  omega
 ·have hm:x∈(q0c L).flatten:=List.mem_flatten.2 ⟨l,b,o⟩
  have j:=i.2.2.1 x hm;rw[q1h] at hm;have h1:=d.2.2 x hm;exact⟨j,by omega⟩
theorem q9c(h:q0e nx ck L=true):q2g nx ck sd L=(q1S (q2C nx ck sd L),0):=by unfold q2g;rw[ξ h]
theorem q9L(nx ck sd:Int)(L:List (List Int))(r:List UInt8):
  q2C nx ck sd L++r=[105,109,97,112]++(be 4 nx.toNat++(be 4 ck.toNat++(be 8 sd.toNat++(be 1 (q0c L).length++(((q0c L).map q1F).flatten++r))))):=by
 simp[q2C,q3I,List.append_assoc]
structure z6Y(u:List UInt8)(a1 a2 a3 a4:Nat)(r4:List UInt8):Prop where
 f:u=[105,109,97,112]++(be 4 a1++(be 4 a2++(be 8 a3++(be 1 a4++r4))))
 b1:a1<256^4
 b2:a2<256^4
 b3:a3<256^8
 b4:a4<256^1
theorem z3W{u:List UInt8}(h:z6Y u a1 a2 a3 a4 r4):
  q3O u=⟨a1,a2,a3,(q4r a4 r4 true []).1,(q4r a4 r4 true []).2.1,(q4r a4 r4 true []).2.2⟩:=by
 obtain⟨rfl,b1,b2,b3,b4⟩:=h;unfold q3O;have b:=q7A 4 a1 (be 4 a2++(be 8 a3++(be 1 a4++r4))) b1;have t2:=q7A 4 a2 (be 8 a3++(be 1 a4++r4)) b2;have d:=q7A 8 a3 (be 1 a4++r4) b3;have i:=q7A 1 a4 r4 b4;have e:([105,109,97,112]++(be 4 a1++(be 4 a2++(be 8 a3++(be 1 a4++r4))))).drop 4=be 4 a1++(be 4 a2++(be 8 a3++(be 1 a4++r4))):=rfl;simp only[e,b.1,b.2.1,b.2.2,t2.1,t2.2.1,t2.2.2,d.1,d.2.1,d.2.2,i.1,i.2.1,i.2.2]
theorem z5P(h:q0e nx ck L=true)(h1:sd<18446744073709551616)(r:List UInt8):
  z6Y (q2C nx ck sd L++r) nx.toNat ck.toNat sd.toNat (q0c L).length (((q0c L).map q1F).flatten++r):=by
 have b:=q2U h;have d:=z8X h;exact⟨q9L _ _ _ _ _,by omega,by omega,by omega,by omega⟩
theorem z5z(h:q0e nx ck L=true)(d:0<=sd)(h1:sd<18446744073709551616)(r:List UInt8):
  q3O (q2C nx ck sd L++r)=⟨nx,ck,sd,q0c L,r,true⟩:=by
 have b:=q2U h;have i:=z8X h;rw[z3W (z5P h h1 r),z1t _ _ _ i.2];simp only[List.nil_append,Int.toNat_of_nonneg b.1.1,Int.toNat_of_nonneg b.1.2.2.1,Int.toNat_of_nonneg d]
theorem z8B(l:List UInt8):q2Q (q1S l)=true/\q2K (q1S l)=l:=by
 have i:=q0v l;have d:(q1S l).take ((q1S l).length-4)=l:=by
  rw[i,Nat.add_sub_cancel];unfold q1S;exact List.take_left
 have b:q2Q (q1S l)=true:=by
  unfold q2Q;rw[d,ζ (show 4<=(q1S l).length by omega),ζ rfl];rfl
 exact⟨b,by unfold q2K;rw[ξ b,d]⟩
theorem y0M(h:q0e nx ck L=true)(d:0<=sd)(h1:sd<18446744073709551616):
  q3l (q1S (q2C nx ck sd L))=⟨nx,ck,sd,q0c L,0⟩:=by
 obtain⟨o1,o2⟩:=z8B (q2C nx ck sd L);have b:=z5z h d h1 [];rw[List.append_nil] at b;have i:q4D (q2C nx ck sd L)=true:=by
  have e:=q9L nx ck sd L [];rw[List.append_nil] at e;unfold q4D;rw[e,Ξ];exact⟨by simp,by simp⟩
 unfold q3l;rw[o1,o2,i,ξ (by rfl),b];have j:q2e ⟨nx,ck,sd,q0c L,[],true⟩ (q1S (q2C nx ck sd L))=true:=
  z2C rfl rfl (q5n h) (by show(q2g nx ck sd (q0c L)).1=_;rw[z1x h,q9c h])
 rw[j,ξ rfl]
end
end Go.Proofs.YtfiibpgoplcgkaaGreatDoor
