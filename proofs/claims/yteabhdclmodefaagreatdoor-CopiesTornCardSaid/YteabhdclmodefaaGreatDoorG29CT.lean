/- Walks. -/
import Derived.Test.YteabhdclmodefaaGreatDoorG15CT
import Derived.Test.YteabhdclmodefaaGreatDoorG3CT
import Derived.Laws.ResultCell
set_option linter.unusedVariables false
set_option linter.unusedSimpArgs false
set_option maxRecDepth 100000
set_option maxHeartbeats 3200000
namespace Go.Proofs.YteabhdclmodefaaGreatDoor
variable {w w' w0 w1:World}{ao:Option Addr}{n cap m B g a1 a2 a3 a4:Nat}{L:List (List Int)}{nx ck a c sd:Int}{e tO tI:TypeId}{v:Value}{vs:List Value}{t r1 r2 r3 r4:List UInt8}{o1 o2 o3 o4:Bool}
section
open Go.RowKit
theorem y2s(ao:Option Addr)(n cap:Nat)(L:List (List Int))(w:World)(q:Grid w ao n cap L):
  Calls Tryz.prog 273 #[.slice ao n cap] w fun e w'=>e= .returned (.slice ao (q1M L n) cap)/\Ext w w':=by
 have I:=η q;have b1:=q.fits;have b2:=q.bound;clear q;go_enter Tryz.func273,Tryz.ntmps273;go_wp2_with fail
 go_loopw [0] (fun v w'=> ∃m:Nat,m<=n/\v= .slice ao m cap/\q1M L m=q1M L n/\Ext w w') (fun v _=>y3x v)
 case atStart=>exact⟨n,ι _,rfl,rfl,Ext.refl _⟩
 case round=>
  obtain⟨m,hm,rfl,j,C⟩:=hrel;have d:=η j;clear j;have l:=η C;clear C
  cases m with
  | zero=>
   have D:q1M L n=0:=d.o.symm;have r:=η D;clear D;go_wp2_with fail;go_ret;exact⟨by rw[r.o];rfl,l.o⟩
  | succ m=>
   obtain⟨b,off,J,E,N,rfl,M,r1⟩:=(I.o.ext l.o).at (show m<n by omega);have x:=r1.len;have O:=r1.fits;have Q:=r1.bound;have u:=η x;clear r1 x;by_cases s:E=0
   ·have he:L.getD m []=[]:=List.eq_nil_of_length_eq_zero (by have:=u.o;omega)
    have F:=η he;clear he;subst s;go_wp2_with fail
    go_roundw
    case rel=>exact⟨m,by omega,rfl,by rw[<-q6I L m F.o];exact d.o,l.o⟩
    case measure=>simp[y3x]
   ·have i:L.getD m []≠[]:=by intro h;have:=u.o;rw[h] at this;simp at this;omega
    have R:((E:Int)==0)=false:=by simpa using s
    have y:q1M L n=m+1:=by rw[<-d.o];exact q4T L m i
    have G:=η i;clear i s;have r:=η y;clear y;go_wp2_with fail;go_ret;exact⟨by rw[r.o];rfl,l.o⟩
theorem Grid.cut(h:Grid w ao n cap L)(hm:m<=n):Grid w ao m cap (L.take m):=by
 have u:=h.len;have d:(L.take m).length=m:=by simp;omega
 refine⟨d,Ω hm h.fits,h.bound,h.nil,fun i s=>?_⟩;obtain⟨b,off,j,l,o,q,r⟩:=h.rd i (by omega);rw[List.getElem_take];exact⟨b,off,j,l,o,q,r⟩
theorem Grid.trim(h:Grid w ao n cap L):Grid w ao (q1M L n) cap (q0N L):=by
 have e:q0N L=L.take (q1M L n):=by unfold q0N;rw[h.len]
 rw[e];exact h.cut (q2p L n)
def q1G(l:List Int):List UInt8:=be 1 l.length++(l.map fun x=>be 4 x.toNat).flatten
def q3R(nx ck sd:Int)(k:Nat):List UInt8:=[105,109,97,112]++be 4 nx.toNat++be 4 ck.toNat++be 8 sd.toNat++be 1 k
def q2F(nx ck sd:Int)(L:List (List Int)):List UInt8:=q3R nx ck sd (q0N L).length++((q0N L).map q1G).flatten
def q2q(nx ck sd:Int)(L:List (List Int)):List UInt8×Int:=if q0c nx ck L then(q0T (q2F nx ck sd L),0) else([],2)
theorem q7g(l:List Int):(l.map fun x=>be 4 x.toNat).flatten.length=4*l.length:=by
 induction l with
 |nil=>rfl
 |cons x l ih=>simp only[List.map_cons,List.flatten_cons,θ,ih,q0F,χ];omega
theorem q9D(l:List Int):(q1G l).length=1+4*l.length:=by
 unfold q1G;rw[θ,q0F,q7g]
theorem q6B(T:List (List Int)):(T.map q1G).flatten.length=T.length+4*T.flatten.length:=by
 induction T with
 |nil=>rfl
 |cons x l ih=>simp only[List.map_cons,List.flatten_cons,θ,ih,q9D,χ];omega
theorem q5o(nx ck sd:Int)(k:Nat):(q3R nx ck sd k).length=21:=by simp[q3R,q0F]
theorem q2X(h:q0c nx ck L=true):(0<=nx/\nx<=1000000/\0<=ck/\ck<=2147483647)/\q0e L=true/\ ∀x∈L.flatten,x<nx:=by
 unfold q0c at h;rw[Ξ,Ξ] at h;exact⟨of_decide_eq_true h.1.1,h.1.2,fun x b=>of_decide_eq_true (List.all_eq_true.1 h.2 x b)⟩
theorem q6n{b i:Type}(f:b->List i)(l:List b)(d:b)(k:Nat)(h:k<l.length):((l.take (k+1)).map f).flatten=((l.take k).map f).flatten++f (l.getD k d):=by
 rw[q0W l d k h];simp
theorem y1o(nx ck sd:Int)(ao:Option Addr)(n cap:Nat)(L:List (List Int))(w:World)(C:Grid w ao n cap L)(o0:L.flatten.length<=17592186044416)(q0: ∀x∈L.flatten,(Lit.int .i64 x).wf=true)(S0:0<=sd)(U:sd<18446744073709551616):
  Calls Tryz.prog 236 #[.agg #[.int .i64 nx,.int .i64 ck,.int .u64 sd,.slice ao n cap]] w fun e w'=>e= .returned (.tuple #[.string ⟨(q2q nx ck sd L).1.toArray⟩,.int .i64 (q2q nx ck sd L).2])/\Ext w w':=by
 have Hx:=η C;have M:=η C.len;clear C;go_enter Tryz.func236,Tryz.ntmps236;go_wp2_with fail;refine(z1S nx ck sd _ _ _ L _ (Hx.o.ext (q0B _ _)) o0 q0).mono ?_;rintro e w1 ⟨rfl,G⟩;obtain⟨d0,d1,d2,d3⟩:=z7X G;have HB:=η G;clear G q0;by_cases hv:q0c nx ck L=false
 ·have HV:Hd (q2q nx ck sd L=([],2)):=η (by unfold q2q;rw[hv];rfl)
  go_wp2_with fail;go_ret2;exact⟨by rw[HV.o];rfl,(q0B _ _).trans HB.o⟩
 have p0:q0c nx ck L=true:=by simpa using hv
 have HV:Hd (q2q nx ck sd L=(q0T (q2F nx ck sd L),0)):=η (by unfold q2q;rw[p0];rfl);obtain⟨⟨n1,n2,n3,n4⟩,V,J⟩:=q2X p0;obtain⟨v1,v2,v3,_⟩:=(by unfold q0e at V;exact of_decide_eq_true V:L.length<=5/\L.flatten.length<=40/\(∀x∈L.flatten,0<=x)/\L.flatten.Nodup)
 have V2:=η v2;have V3:=η v3;have x0:=η J;have N0:n<=5:=by have:=M.o;omega
 clear hv V v1 v2 v3 J;go_wp2_with fail;refine(y2s _ _ _ L _ ((Hx.o.ext (q0B _ _)).ext HB.o)).mono ?_;rintro e w2 ⟨rfl,G⟩;have D:=η (HB.o.trans G);obtain⟨e0,e1,e2,e3⟩:=z7X D.o;clear G HB d0 d1 d2 d3;have f0:=q0D e0;have f1:=q0D e1;have f2:=q0D e2;have hT:(q0N L).length=q1M L n:=by rw[q1b,M.o]
 have U0:q1M L n<=n:=q2p L n;have F:Grid w2 ao (q1M L n) cap (q0N L):=((Hx.o.ext (q0B _ _)).ext D.o).trim;have Z:=η F;have E:=η hT;have q:Hd (q3R nx ck sd (q1M L n)=[105,109,97,112]++be 4 nx.toNat++be 4 ck.toNat++be 8 sd.toNat++be 1 (q1M L n)):=η rfl;have j0:=q0F 4 nx.toNat;have k0:=q0F 4 ck.toNat;have I0:=q0F 8 sd.toNat;have H0:=q0F 1 (q1M L n);have V0:q1M L n<=5:=by omega
 have O:Hd (q2F nx ck sd L=q3R nx ck sd (q0N L).length++((q0N L).map q1G).flatten):=η rfl;have M0:cap<=9223372036854775807:=F.bound;have T0:q1M L n<=cap:=F.fits;have a0:Hd ((q0N L).flatten.length<=40):=η (by rw[q1a];exact V2.o)
 have B0:Hd (∀k,∀x∈(q0N L).getD k [],0<=x/\x<=1000000):=η (by
  intro k x C;rw[q1X] at C;have r0:x∈L.flatten:=by
   rcases Nat.lt_or_ge k L.length with h|h
   ·rw[δ,γ h] at C
    exact List.mem_flatten.2 ⟨_,List.getElem_mem h,C⟩
   ·rw[q4G _ _ _ h] at C;cases C
  have:=V3.o x r0;have:=x0.o x r0
  omega)
 clear F hT e0 e1 e2 e3;generalize q1M L n=m at*;generalize q0N L=T at*;go_wp2_with fail;refine q0E (by kernel_rfl) (by kernel_rfl) ?_
 repeat (go_big_quiet_step (first|exact Calls.quiet_ext (z4T _ _ 4 _ (by decide) (by omega) (by omega) (by omega) (by omega))|exact Calls.quiet_ext (z4T _ _ 8 _ (by decide) (by omega) (by omega) (by omega) (by omega))|exact Calls.quiet_ext (y4X _ _ 1 _ (by decide) (by omega) (by omega) (by omega))))
 refine wpQuiet_nil ?_;intro w3 W;have s0:=η (D.o.trans W);have u0:=η (Z.o.ext W);have n0:(({data:=#[105,109,97,112]}++{data:=(be 4 nx.toNat).toArray}++{data:=(be 4 ck.toNat).toArray}++{data:=(be 8 sd.toNat).toArray}++{data:=(be 1 m).toArray}):ByteArray)=⟨(q3R nx ck sd m++((T.take 0).map q1G).flatten).toArray⟩:=by
  rw[q.o];have e0:({data:=#[105,109,97,112]}:ByteArray)=⟨([105,109,97,112]:List UInt8).toArray⟩:=rfl;rw[e0,ByteArray.mk_append_mk,ByteArray.mk_append_mk,ByteArray.mk_append_mk,ByteArray.mk_append_mk];simp
 have A0:=η n0;have l0:=q6B T;have K0:=η l0;have g0: ∀k,(q3R nx ck sd m++((T.take k).map q1G).flatten).length<=300:=by
  intro k;rw[θ,q5o,q6B];have h1:(T.take k).length<=T.length:=by simp;omega
  have h2:=q2E T k;have h3:=a0.o;have h4:=E.o;omega
 have Y:=η g0;clear W n0 l0 g0 D Z q f0 f1 f2 j0 k0 I0 H0;go_wp2_with fail
 go_loopw [5,37] (fun s i w'=> ∃k:Nat,k<=m/\i= .int .i64 k/\s= .string ⟨(q3R nx ck sd m++((T.take k).map q1G).flatten).toArray⟩/\Ext w3 w') (fun _ i _=>m-(intOf i).toNat)
 case atStart=>exact⟨0,υ _,rfl,by rw[A0.o],Ext.refl _⟩
 case round =>
  obtain⟨k,hk,rfl,rfl,G⟩:=hrel;have Hb:=η G;clear G;by_cases J:k<m
  ·obtain⟨b,off,ai,l,ci,rfl,c1,r1⟩:=(u0.o.ext Hb.o).at J
   have F0:k<T.length:=by have:=E.o;omega
   have u:=q6n q1G T [] k F0;have y: ∀x∈T.getD k [],0<=x/\x<=1000000:=B0.o k;have P0:=Y.o k;have R0:(T.getD k []).length<=40:=by have:=q3H T k;have:=a0.o;omega
   generalize T.getD k []=R at*;generalize hP:q3R nx ck sd m++((T.take k).map q1G).flatten=P at*;have y0:Hd (q3R nx ck sd m++((T.take (k+1)).map q1G).flatten=P++q1G R):=η (by rw[u,<-List.append_assoc,hP]);have R1:=η r1;have g1:=r1.fits;have g2:=r1.bound;have g3:=r1.len;have O0:l<=40:=by omega
   have HR:=η y;have G3:=η g3;clear r1 u hP y g3;go_wp2_with fail;have hc:=q8B (l:Int) 1 wr (by omega) (by omega) (by omega) (by omega);rw[Int.toNat_natCast] at hc;refine hc.mono ?_;clear hc;rintro e w4 ⟨rfl,I⟩;have t0:=η (Hb.o.trans I);have C0:=η (R1.o.ext I);clear I;have U:(({data:=P.toArray}++{data:=(be 1 l).toArray}):ByteArray)=⟨(P++(be 1 l++((R.take 0).map fun x=>be 4 x.toNat).flatten)).toArray⟩:=by
    rw[ByteArray.mk_append_mk];simp
   have z0:=η U;clear U;have D0:=q0F 1 l;go_wp2_with fail
   go_loopw [5,49] (fun s i w'=> ∃j:Nat,j<=l/\i= .int .i64 j/\s= .string ⟨(P++(be 1 l++((R.take j).map fun x=>be 4 x.toNat).flatten)).toArray⟩/\Ext w4 w') (fun _ i _=>l-(intOf i).toNat)
   case atStart=>exact⟨0,υ _,rfl,by rw[z0.o],Ext.refl _⟩
   case round=>
    obtain⟨j,hj,rfl,rfl,c0⟩:=hrel;have S:=η c0;clear c0;by_cases E0:j<l
    ·obtain⟨b',J0,rfl,d1⟩:=(C0.o.ext S.o).at E0
     have h0:j<R.length:=by have:=G3.o;omega
     have m0:=q6n (fun x:Int=>be 4 x.toNat) R 0 j h0;have C:=HR.o _ (q3a R j h0);have Q0:(P++(be 1 l++((R.take j).map fun x=>be 4 x.toNat).flatten)).length<=500:=by
      rw[θ,θ,D0,q7g];have:=List.length_take_le j R;omega
     generalize R.getD j 0=X at*;have HQ:Hd (P++(be 1 l++((R.take (j+1)).map fun x=>be 4 x.toNat).flatten)=(P++(be 1 l++((R.take j).map fun x=>be 4 x.toNat).flatten))++be 4 X.toNat):=η (by rw[m0];simp);generalize P++(be 1 l++((R.take j).map fun x=>be 4 x.toNat).flatten)=Q at*;obtain⟨x1,x2⟩:=C;clear m0;go_wp2_with fail;refine(q8B X 4 _ (by omega) (by omega) (by omega) (by omega)).mono ?_;rintro e w5 ⟨rfl,r⟩;have N:=η (S.o.trans r);have I:=q0F 4 X.toNat;clear r;go_wp2_with fail
     go_roundw
     case rel=>exact⟨j+1,by omega,by go_num,by rw[HQ.o,<-ByteArray.mk_append_mk],N.o⟩
     case measure=>simp[intOf];omega
    ·have i0:R.take j=R:=Δ (by have:=G3.o;omega)
     have v0:=η i0;clear i0;go_wp2_with fail
     go_roundw
     case rel=>exact⟨k+1,by omega,by go_num,by rw[y0.o,v0.o];unfold q1G;rw[G3.o],t0.o.trans S.o⟩
     case measure=>simp[intOf];omega
  ·have G0:k=m:=by omega
   have b0:T.take k=T:=Δ (by have:=E.o;omega);have d:q3R nx ck sd m++((T.take k).map q1G).flatten=q2F nx ck sd L:=by rw[O.o,E.o,b0]
   rw[d];have L0:(q2F nx ck sd L).length<=300:=by have:=Y.o k;rwa [d] at this
   clear d G0 b0;go_wp2_with fail;refine(q9S _ _ (by omega)).mono ?_;rintro e w6 ⟨rfl,r⟩;have N:=η (Hb.o.trans r);clear r;go_wp2_with fail;go_ret2;exact⟨by rw[HV.o];rfl,(q0B _ _).trans (s0.o.trans N.o)⟩
theorem q4P(h:Ext w w'){a:Addr}{u:Value}(hc:w.cell? a=some u)(b:w.frozen? a=false):w'.frozen? a=false:=
 (h.frozen (World.block_lt_of_cell? (h:=hc))).trans b
theorem Own.setBelow{size:Nat}{cs:List Value}(h:Own w B e size v n cs)(d:g<B)(k:Nat)(u:Value):Own (w.setCell ⟨g,k,none⟩ u) B e size v n cs:=
 h.setOther u fun b=>by have:=(h.lt _ b).1;simp at this;omega
theorem OGr.setBelow(h:OGr w B tO tI v vs L)(b:g<B)(k:Nat)(u:Value):OGr (w.setCell ⟨g,k,none⟩ u) B tO tI v vs L:=
 ⟨h.own.setBelow b k u,fun i=>(h.row i).setBelow b k u,h.sep⟩
theorem y3O(l:List UInt8)(ok:Bool)(g:Nat)(k:Int)(w:World)(i:w.cell? ⟨g,0,none⟩=some (.string ⟨l.toArray⟩))(j:w.cell? ⟨g,1,none⟩=some (.bool ok))(q:w.frozen? ⟨g,0,none⟩=false)(r:w.frozen? ⟨g,1,none⟩=false)(d:l.length<=9223372036854775807)(b:0<=k)(o:(l.length:Int)<k):
  Calls Tryz.prog 260 #[.pointer (some ⟨g,0,none⟩),.int .i64 k] w fun e w'=>e= .returned (.int .u64 0)/\w'=(w.setCell ⟨g,0,none⟩ (.string ⟨#[]⟩)).setCell ⟨g,1,none⟩ (.bool false):=by
 go_enter Tryz.func260,Tryz.ntmps260;go_wp2_with fail;go_ret;exact⟨rfl,rfl⟩
theorem y1Z(l:List UInt8)(g:Nat)(k:Nat)(w:World)(i:w.cell? ⟨g,0,none⟩=some (.string ⟨l.toArray⟩))(u:w.frozen? ⟨g,0,none⟩=false)(s:l.length<=9223372036854775807)(C:k<=l.length)(y:k<=8):
  Calls Tryz.prog 260 #[.pointer (some ⟨g,0,none⟩),.int .i64 k] w fun e w'=>e= .returned (.int .u64 (q1N (l.take k)))/\ ∃w1,Ext w w1/\w'=w1.setCell ⟨g,0,none⟩ (.string ⟨(l.drop k).toArray⟩):=by
 go_enter Tryz.func260,Tryz.ntmps260;have d:(l.take k).length<=9223372036854775807:=by simp;omega
 have j:(l.take k).take 8=l.take k:=by rw[List.take_take];congr 1;omega
 have r:=η j;clear j;go_wp2_with fail;refine(q9z _ _ d).mono ?_;rw[r.o];rintro e w1 ⟨rfl,b⟩;have x:=q0A b i;have D:=q4P b i u;have q:=η b;clear b;go_wp2_with fail;go_ret;exact⟨rfl,w1,q.o,rfl⟩
structure Off(g:Nat)(w w':World):Prop where
 os:w'.os=w.os
 tape:w'.tape=w.tape
 output:w'.output=w.output
 size:w.heap.size<=w'.heap.size
 block: ∀i,i<w.heap.size->i≠g->w'.heap[i]? =w.heap[i]?
theorem Off.refl(g:Nat)(w:World):Off g w w:=⟨rfl,rfl,rfl,ι _,fun _ _ _=>rfl⟩
theorem Off.trans{a b c:World}(h:Off g a b)(k:Off g b c):Off g a c:=
 ⟨k.os.trans h.os,k.tape.trans h.tape,k.output.trans h.output,Ω h.size k.size,fun i d j=>(k.block i (Ψ d h.size) j).trans (h.block i d j)⟩
theorem Off.of_ext(h:Ext w w'):Off g w w':=⟨h.os,h.tape,h.output,h.size,fun i b _=>h.block i b⟩
theorem Off.set(w:World)(k:Nat)(u:Value):Off g w (w.setCell ⟨g,k,none⟩ u):=
 ⟨rfl,rfl,rfl,by simp[World.setCell],fun i _ b=>Below.heap_setCell _ _ _ _ b⟩
theorem Off.ext(h:Ext w0 w)(d:w0.heap.size<=g)(k:Off g w w'):Ext w0 w':=
 ⟨k.os.trans h.os,k.tape.trans h.tape,k.output.trans h.output,Ω h.size k.size,fun i b=>(k.block i (Ψ b h.size) (by omega)).trans (h.block i b)⟩
theorem Off.below(h:Below B w0 w)(d:B<=g)(j:B<=w.heap.size)(k:Off g w w'):Below B w0 w':=
 ⟨k.os.trans h.os,k.tape.trans h.tape,k.output.trans h.output,Ω h.size k.size,fun i b=>(k.block i (by omega) (by omega)).trans (h.block i b)⟩
theorem Off.own{size:Nat}{cs:List Value}(h:Own w B e size v n cs)(d:g<B)(k:Off g w w'):Own w' B e size v n cs:=
 h.same fun i b=>k.block i (h.lt i b).2 (by have:=(h.lt i b).1;omega)
theorem Off.ogr(h:OGr w B tO tI v vs L)(b:g<B)(k:Off g w w'):OGr w' B tO tI v vs L:=
 ⟨Off.own h.own b k,fun i=>Off.own (h.row i) b k,h.sep⟩
theorem Off.grown{size:Nat}{xs:List Value}(h:Off g w0 w)(d:Own w B e size v n xs)(b:w.grownBy w' v.ownBlock)(o:w0.heap.size<=B):Off g w0 w':=
 ⟨b.os.trans h.os,b.tape.trans h.tape,b.output.trans h.output,Ω h.size b.size,fun i j l=>(b.block i (Ψ j h.size) (fun e=>by have:=(d.lt i e.symm).1;omega)).trans (h.block i j l)⟩
def Rdr(w:World)(g:Nat)(s:List UInt8)(ok:Bool):Prop:=w.heap[g]? =some (.cells #[.string ⟨s.toArray⟩,.bool ok] 324 (0,0))
theorem Rdr.c0{s:List UInt8}{ok:Bool}(h:Rdr w g s ok):w.cell? ⟨g,0,none⟩=some (.string ⟨s.toArray⟩):=by unfold Rdr at h;simp[World.cell?,h]
theorem Rdr.c1{s:List UInt8}{ok:Bool}(h:Rdr w g s ok):w.cell? ⟨g,1,none⟩=some (.bool ok):=by unfold Rdr at h;simp[World.cell?,h]
theorem Rdr.z0{s:List UInt8}{ok:Bool}(h:Rdr w g s ok):w.frozen? ⟨g,0,none⟩=false:=by unfold Rdr at h;simp[World.frozen?,h]
theorem Rdr.z1{s:List UInt8}{ok:Bool}(h:Rdr w g s ok):w.frozen? ⟨g,1,none⟩=false:=by unfold Rdr at h;simp[World.frozen?,h]
theorem Rdr.same{s:List UInt8}{ok:Bool}(h:Rdr w g s ok)(k:w'.heap[g]? =w.heap[g]?):Rdr w' g s ok:=k.trans h
theorem Rdr.lt{s:List UInt8}{ok:Bool}(h:Rdr w g s ok):g<w.heap.size:=World.block_lt_of_cell? (h:=h.c0)
theorem Rdr.ext{s:List UInt8}{ok:Bool}(h:Rdr w g s ok)(k:Ext w w'):Rdr w' g s ok:=h.same (k.block g h.lt)
def q4A(k:Nat)(s:List UInt8):Nat:=if s.length<k then 0 else q1N (s.take k)
def q2S(k:Nat)(s:List UInt8):List UInt8:=if s.length<k then [] else s.drop k
def q3v(k:Nat)(s:List UInt8)(ok:Bool):Bool:=if s.length<k then false else ok
theorem z0j(l:List UInt8)(ok:Bool)(g k:Nat)(N:Int)(w:World)(o:N=(k:Int))(h:Rdr w g l ok)(i:l.length<=9223372036854775807)(j:k<=8):
  Calls Tryz.prog 260 #[.pointer (some ⟨g,0,none⟩),.int .i64 N] w fun e w'=>e= .returned (.int .u64 (q4A k l))/\Rdr w' g (q2S k l) (q3v k l ok)/\Off g w w':=by
 subst o;by_cases b:l.length<k
 ·refine(y3O l ok g k w h.c0 h.c1 h.z0 h.z1 i (by omega) (by omega)).mono ?_
  rintro e w' ⟨rfl,rfl⟩;refine⟨by unfold q4A;rw[ξ b];rfl,?_,(Off.set _ _ _).trans (Off.set _ _ _)⟩;unfold q2S q3v Rdr;rw[ξ b,ξ b];unfold Rdr at h;simp[World.setCell,Array.getElem?_modify,h]
 ·refine(y1Z l g k w h.c0 h.z0 i (by omega) j).mono ?_
  rintro e w' ⟨rfl,w1,d,rfl⟩;have h1:=h.ext d;refine⟨by unfold q4A;rw[κ b],?_,(Off.of_ext d).trans (Off.set _ _ _)⟩;unfold q2S q3v Rdr;rw[κ b,κ b];unfold Rdr at h1;simp[World.setCell,Array.getElem?_modify,h1]
def z4E :Nat->List UInt8->Bool->List Int->List Int×List UInt8×Bool
 |0,s,ok,acc=>(acc,s,ok)
 |i+1,s,ok,acc=>if ok then z4E i (q2S 4 s) (q3v 4 s ok) (acc++[(q4A 4 s:Int)]) else(acc,s,ok)
def q4r :Nat->List UInt8->Bool->List (List Int)->List (List Int)×List UInt8×Bool
 |0,s,ok,acc=>(acc,s,ok)
 |k+1,s,ok,acc=>if ok then q4r k (z4E (q4A 1 s) (q2S 1 s) (q3v 1 s ok) []).2.1 (z4E (q4A 1 s) (q2S 1 s) (q3v 1 s ok) []).2.2 (acc++[(z4E (q4A 1 s) (q2S 1 s) (q3v 1 s ok) []).1]) else(acc,s,ok)
theorem q5b(k:Nat)(s:List UInt8):q4A k s<256^k:=by
 unfold q4A
 split
 ·exact Nat.pow_pos (by decide)
 ·have:=q1t (s.take k)
  rwa [Θ,Nat.min_eq_left (by omega)] at this
theorem q5a(k:Nat)(s:List UInt8):(q2S k s).length<=s.length:=by unfold q2S;split<;>simp
structure q8U where
 nx:Int
 ck:Int
 sd:Int
 L:List (List Int)
 r:List UInt8
 ok:Bool
def q3V(s:List UInt8):q8U:=
 let r0:=s.drop 4
 let r1:=q2S 4 r0;let o1:=q3v 4 r0 true
 let r2:=q2S 4 r1;let o2:=q3v 4 r1 o1
 let r3:=q2S 8 r2;let o3:=q3v 8 r2 o2
 let r4:=q2S 1 r3;let o4:=q3v 1 r3 o3
 let p:=q4r (q4A 1 r3) r4 o4 []
 ⟨q4A 4 r0,q4A 4 r1,q4A 8 r2,p.1,p.2.1,p.2.2⟩
def z8y(x:Int):Prop:=0<=x/\x<4294967296
structure Got where
 nx:Int
 ck:Int
 sd:Int
 L:List (List Int)
 en:Int
def z7T :Got:=⟨0,0,0,[],90⟩
def q4F(t:List UInt8):Bool:=decide (4<=t.length)&&decide (t.take 4=[105,109,97,112])
def q2k(p:q8U)(s:List UInt8):Bool:=p.ok&&decide (p.r=[])&&q0c p.nx p.ck p.L&&decide ((q2q p.nx p.ck p.sd p.L).1=s)
def q3q(s:List UInt8):Got:=
 if q1l s&&q4F (q1V s) then(if q2k (q3V (q1V s)) s then⟨(q3V (q1V s)).nx,(q3V (q1V s)).ck,(q3V (q1V s)).sd,(q3V (q1V s)).L,0⟩ else z7T) else z7T
def RetM(w:World)(g:Got)(e:Ending)(w':World):Prop:=
 ∃v vs,e= .returned (.tuple #[.agg #[.int .i64 g.nx,.int .i64 g.ck,.int .u64 g.sd,v],.int .i64 g.en])/\OGr w' w.heap.size 73 3 v vs g.L/\Ext w w'
theorem z5M(h:Ext w w1)(g:Nat)(i:w.heap.size<=g)(a b c d:Value):Ext w ((((w1.setCell ⟨g,0,none⟩ a).setCell ⟨g,1,none⟩ b).setCell ⟨g,2,none⟩ c).setCell ⟨g,3,none⟩ d):=
 Below.setCell (Below.setCell (Below.setCell (Below.setCell h i a) i b) i c) i d
theorem RetM.bad(h:Ext w w1)(g:Nat)(i:w.heap.size<=g)(s:List UInt8)(j:q3q s=z7T)(a b c d:Value):
  RetM w (q3q s) (.returned (.tuple #[.agg #[.int .i64 0,.int .i64 0,.int .u64 0,.slice none 0 0],.int .i64 90])) ((((w1.setCell ⟨g,0,none⟩ a).setCell ⟨g,1,none⟩ b).setCell ⟨g,2,none⟩ c).setCell ⟨g,3,none⟩ d):=by
 rw[j];exact⟨_,_,rfl,OGr.nil _ _ _ _,z5M h g i a b c d⟩
theorem z6N{a b c d:Value}{t:TypeId}(h:Ext (w.alloc (.cells #[a,b,c,d] t)) w1):
  w1.frozen? ⟨w.heap.size,0,none⟩=false/\w1.frozen? ⟨w.heap.size,1,none⟩=false/\w1.frozen? ⟨w.heap.size,2,none⟩=false/\w1.frozen? ⟨w.heap.size,3,none⟩=false:=by
 have k:=z7X (w:=w) (Ext.refl (w.alloc (.cells #[a,b,c,d] t)));exact⟨q4P h k.1 (by simp),q4P h k.2.1 (by simp),q4P h k.2.2.1 (by simp),q4P h k.2.2.2 (by simp)⟩
theorem y0g(h:q4F t=false):(decide ((t.length:Int)<4)||!(t.take 4==[105,109,97,112]))=true:=by
 unfold q4F at h;rw[Bool.and_eq_false_iff,decide_eq_false_iff_not,decide_eq_false_iff_not] at h;rw[Bool.or_eq_true,decide_eq_true_iff];rcases h with h|h
 ·left;omega
 ·right;simpa using h
theorem z0O(m:Nat): ∀L:List (List Int),(∀r∈L,r.length<=m)->L.flatten.length<=m*L.length
 |[],_=>by simp
 | r::L,h=>by
  have h1:=h r (by simp);have h2:=z0O m L fun x b=>h x (by simp[b])
  simp only[List.flatten_cons,θ,χ,Nat.mul_add];omega
def Mbx(w:World)(g:Nat)(a b c:Int)(v:Value):Prop:=w.heap[g]? =some (.cells #[.int .i64 a,.int .i64 b,.int .u64 c,v] 182 (0,0))
theorem Mbx.cs{b:Int}(h:Mbx w g a b c v):w.cell? ⟨g,0,none⟩=some (.int .i64 a)/\w.cell? ⟨g,1,none⟩=some (.int .i64 b)/\w.cell? ⟨g,2,none⟩=some (.int .u64 c)/\w.cell? ⟨g,3,none⟩=some v/\w.frozen? ⟨g,3,none⟩=false:=by
 unfold Mbx at h;simp[World.cell?,World.frozen?,h]
theorem Mbx.same{b:Int}(h:Mbx w g a b c v)(k:w'.heap[g]? =w.heap[g]?):Mbx w' g a b c v:=k.trans h
theorem Mbx.lt{b:Int}(h:Mbx w g a b c v):g<w.heap.size:=World.block_lt_of_cell? (h:=h.cs.1)
theorem Mbx.set{b:Int}(h:Mbx w g a b c v)(u:Value):Mbx (w.setCell ⟨g,3,none⟩ u) g a b c u:=by
 unfold Mbx at h⊢;simp[World.setCell,Array.getElem?_modify,h]
theorem y4r{x:Int}(h:z8y x):(Lit.int .i64 x).wf=true:=by
 obtain⟨h1,h2⟩:=h;have b:IntKind.i64.min= -9223372036854775808:=rfl;have d:IntKind.i64.max=9223372036854775807:=rfl;simp[Lit.wf];omega
def y2t(r:List Int):Prop:=r.length<=255/\ ∀x∈r,z8y x
theorem z0T{a:Nat}{s b:List UInt8}{ok2:Bool}{acc:List (List Int)}{row:List Int}(d:q4A 1 s=a)(i:z4E a (q2S 1 s) (q3v 1 s true) []=(row,b,ok2)):
  q4r (m+1) s true acc=q4r m b ok2 (acc++[row]):=by rw[q4r,ξ rfl,d,i]
theorem y0v{s:List UInt8}{acc:List (List Int)}:q4r m s false acc=(acc,s,false):=by
 cases m with
 |zero=>rfl
 |succ m=>rw[q4r];simp
theorem y2k{s:List UInt8}{acc:List Int}:z4E m s false acc=(acc,s,false):=by
 cases m with
 |zero=>rfl
 |succ m=>rw[z4E];simp
theorem z0Z{p:q8U}{s:List UInt8}(h:p.ok=false):q2k p s=false:=by unfold q2k;rw[h];rfl
theorem z9H{p:q8U}{s:List UInt8}(h:p.r≠[]):q2k p s=false:=by unfold q2k;rw[ε h,Bool.and_false];rfl
theorem z9I{p:q8U}{s:List UInt8}(h:q0c p.nx p.ck p.L=false):q2k p s=false:=by unfold q2k;rw[h,Bool.and_false];rfl
theorem z9G{p:q8U}{s:List UInt8}(h:(q2q p.nx p.ck p.sd p.L).1≠s):q2k p s=false:=by unfold q2k;rw[ε h,Bool.and_false]
theorem z2u{p:q8U}{s:List UInt8}(h1:p.ok=true)(h2:p.r=[])(h3:q0c p.nx p.ck p.L=true)(h4:(q2q p.nx p.ck p.sd p.L).1=s):q2k p s=true:=by unfold q2k;rw[h1,h3,ζ h2,ζ h4];rfl
structure Front(r0:List UInt8)(a1 a2 a3 a4:Nat)(r1 r2 r3 r4:List UInt8)(o1 o2 o3 o4:Bool):Prop where
 A1:q4A 4 r0=a1
 R1:q2S 4 r0=r1
 O1:q3v 4 r0 true=o1
 A2:q4A 4 r1=a2
 R2:q2S 4 r1=r2
 O2:q3v 4 r1 o1=o2
 A3:q4A 8 r2=a3
 R3:q2S 8 r2=r3
 O3:q3v 8 r2 o2=o3
 A4:q4A 1 r3=a4
 R4:q2S 1 r3=r4
 O4:q3v 1 r3 o3=o4
theorem Front.made(b:List UInt8): ∃a1 a2 a3 a4 r1 r2 r3 r4 o1 o2 o3 o4,Front b a1 a2 a3 a4 r1 r2 r3 r4 o1 o2 o3 o4:=⟨_,_,_,_,_,_,_,_,_,_,_,_,⟨rfl,rfl,rfl,rfl,rfl,rfl,rfl,rfl,rfl,rfl,rfl,rfl⟩⟩
theorem Front.parse(h:Front (t.drop 4) a1 a2 a3 a4 r1 r2 r3 r4 o1 o2 o3 o4):
  q3V t=⟨a1,a2,a3,(q4r a4 r4 o4 []).1,(q4r a4 r4 o4 []).2.1,(q4r a4 r4 o4 []).2.2⟩:=by
 obtain⟨rfl,rfl,rfl,rfl,rfl,rfl,rfl,rfl,rfl,rfl,rfl,rfl⟩:=h;rfl
theorem Front.b{d:List UInt8}(h:Front d a1 a2 a3 a4 r1 r2 r3 r4 o1 o2 o3 o4):
  (a1:Int)<4294967296/\(a2:Int)<4294967296/\(a3:Int)<18446744073709551616/\(a4:Int)<256/\r1.length<=d.length/\r2.length<=d.length/\r3.length<=d.length/\r4.length<=d.length:=by
 obtain⟨rfl,rfl,rfl,rfl,rfl,rfl,rfl,rfl,rfl,rfl,rfl,rfl⟩:=h;have i:=q5a 4 d;have j:=q5a 4 (q2S 4 d);have l:=q5a 8 (q2S 4 (q2S 4 d));have o:=q5a 1 (q2S 8 (q2S 4 (q2S 4 d)));refine⟨Int.ofNat_lt.2 (q5b 4 _),Int.ofNat_lt.2 (q5b 4 _),Int.ofNat_lt.2 (q5b 8 _),Int.ofNat_lt.2 (q5b 1 _),?_,?_,?_,?_⟩<;>omega
theorem y4F(s : List UInt8)(w:World)(hl:s.length<=4611686018427387903):
  Calls Tryz.prog 213 #[.string ⟨s.toArray⟩] w (RetM w (q3q s)):=by
 have v0:Hd (q1l s=false->q3q s=z7T):=η (fun h=>by unfold q3q;rw[h];rfl);have x0:Hd (q4F (q1V s)=false->q3q s=z7T):=η (fun h=>by unfold q3q;rw[h,Bool.and_false];rfl);have y0:Hd (q2k (q3V (q1V s)) s=false->q3q s=z7T):=η (fun h=>by unfold q3q;rw[h];split<;>rfl);have A0:Hd (q1l s=true->q4F (q1V s)=true->q2k (q3V (q1V s)) s=true->q3q s=⟨(q3V (q1V s)).nx,(q3V (q1V s)).ck,(q3V (q1V s)).sd,(q3V (q1V s)).L,0⟩):=η (fun h1 h2 h3=>by unfold q3q;rw[h1,h2,h3];rfl);have C2:(q1V s).length<=s.length:=by unfold q1V;split<;>simp
 generalize Y1:q1V s=t at*;have N1:=η Y1;clear Y1;go_enter Tryz.func213,Tryz.ntmps213;go_wp2_with fail;refine(z2r s _ hl).mono ?_;rw[N1.o];rintro e w1 ⟨rfl,hb⟩;obtain⟨d0,d1,d2,d3⟩:=z7X hb;obtain⟨z0,z1,z2,z3⟩:=z6N hb;have HB:=η hb;clear hb;by_cases ho:q1l s=false
 ·have HS:=η (v0.o ho)
  rw[ho];go_wp2_with fail
  ((try simp only[Exit.inBlock,Exit.then]);refine bodyPost_ret (v:= .tuple #[.agg #[_,_,_,_],_]) (by rw[results_cell_tmp rfl];go_simp;exact⟨⟨rfl,rfl,rfl,rfl⟩,rfl⟩) rfl ?_)
  exact RetM.bad ((q0B _ _).trans HB.o) _ (ι _) s HS.o _ _ _ _
 have ho:q1l s=true:=by simpa using ho
 have HO:=η ho;rw[ho];clear ho;by_cases hf:q4F t=false
 ·have HS:=η (x0.o hf)
  have T0:=y0g hf;clear hf;by_cases h4:t.length<4
  ·clear T0
   go_wp2_with fail
   ((try simp only[Exit.inBlock,Exit.then]);refine bodyPost_ret (v:= .tuple #[.agg #[_,_,_,_],_]) (by rw[results_cell_tmp rfl];go_simp;exact⟨⟨rfl,rfl,rfl,rfl⟩,rfl⟩) rfl ?_)
   exact RetM.bad ((q0B _ _).trans HB.o) _ (ι _) s HS.o _ _ _ _
  ·have K2:(List.take 4 t==[105,109,97,112])=false:=by
    rw[Bool.or_eq_true,decide_eq_true_iff] at T0;rcases T0 with h|h
    ·omega
    ·simpa using h
   clear T0;go_wp2_with fail
   ((try simp only[Exit.inBlock,Exit.then]);refine bodyPost_ret (v:= .tuple #[.agg #[_,_,_,_],_]) (by rw[results_cell_tmp rfl];go_simp;exact⟨⟨rfl,rfl,rfl,rfl⟩,rfl⟩) rfl ?_)
   exact RetM.bad ((q0B _ _).trans HB.o) _ (ι _) s HS.o _ _ _ _
 have hf:q4F t=true:=by simpa using hf
 have HF:=η hf;have ⟨h4,hf4⟩:4<=t.length/\t.take 4=[105,109,97,112]:=by
  unfold q4F at hf;rw[Ξ,decide_eq_true_iff,decide_eq_true_iff] at hf;exact hf
 have P0:=η (A0.o HO.o HF.o);have D0:Hd ((t.drop 4).length<=4611686018427387903):=η (by rw[List.length_drop];omega);obtain⟨a1,a2,a3,a4,r1,r2,r3,r4,o1,o2,o3,o4,e2⟩:=Front.made (t.drop 4);have d:=η e2;clear e2;have E:=η (fun h=>y0.o h);have P2:t.length<=4611686018427387903:=by omega
 clear hf A0 v0 x0 y0 C2;have hG:(w.alloc (.cells #[.int .i64 0,.int .i64 0,.int .u64 0,.slice none 0 0] 182)).heap.size<=w1.heap.size:=HB.o.size;have HG:=η hG;clear hG;go_wp2_with fail;have s0:Rdr (w1.alloc (.cells #[.string ⟨(t.drop 4).toArray⟩,.bool true] 324)) w1.heap.size (t.drop 4) true:=heap_alloc_new _ _;refine(z0j (t.drop 4) true _ 4 4 _ rfl s0 (by have:=D0.o;omega) (by decide)).mono ?_;rw[d.o.A1,d.o.R1,d.o.O1];rintro e w2 ⟨rfl,u1,j1⟩;have Y0:=η u1;have U1:=η (Off.ext (HB.o.trans (q0B _ _)) HG.o j1);clear s0 u1 j1;have b1:=d.o.b.1;have b2:=d.o.b.2.1;go_wp2_with fail;refine(z0j r1 o1 _ 4 4 _ rfl Y0.o (by have:=d.o.b;have:=D0.o;omega) (by decide)).mono ?_;rw[d.o.A2,d.o.R2,d.o.O2];rintro e w3 ⟨rfl,v1,k1⟩;have Z0:=η v1;have V1:=η (Off.ext U1.o HG.o k1);clear v1 k1;go_wp2_with fail;refine(z0j r2 o2 _ 8 8 _ rfl Z0.o (by have:=d.o.b;have:=D0.o;omega) (by decide)).mono ?_;rw[d.o.A3,d.o.R3,d.o.O3];rintro e w4 ⟨rfl,L0,l1⟩;have e1:=η L0;have W1:=η (Off.ext V1.o HG.o l1);have E2:=L0.lt;clear L0 l1;go_wp2_with fail;have G0:Mbx (w4.alloc (.cells #[.int .i64 a1,.int .i64 a2,.int .u64 a3,.slice none 0 0] 182)) w4.heap.size a1 a2 a3 (.slice none 0 0):=heap_alloc_new _ _;refine(z0j r3 o3 _ 1 1 _ rfl (e1.o.ext (q0B _ _)) (by have:=d.o.b;have:=D0.o;omega) (by decide)).mono ?_;rw[d.o.A4,d.o.R4,d.o.O4];rintro e w5 ⟨rfl,x1,H0⟩;have B0:=η (G0.same (H0.block _ G0.lt (by omega)));have f1:=η x1;have X1:=η (Off.ext (W1.o.trans (q0B _ _)) HG.o H0);have F2:w4.heap.size<w5.heap.size:=B0.o.lt;have b4:=d.o.b.2.2.2.1;have Q1:Hd (r4.length<=4611686018427387903):=η (by have:=d.o.b;have:=D0.o;omega);clear x1 H0 G0 U1 V1 W1 Y0 Z0 e1 N1 hf4 w2 w3;go_wp2_with fail
 go_loopw [9] (fun i w'=> ∃(k:Nat) (S:List UInt8) (t0:Bool) (acc:List (List Int)) (v:Value) (vs:List Value),k<=a4/\i= .int .i64 k/\Rdr w' w1.heap.size S t0/\q4r (a4-k) S t0 acc=q4r a4 r4 o4 []/\Mbx w' w4.heap.size a1 a2 a3 v/\OGr w' w5.heap.size 73 3 v vs acc/\acc.length=k/\(∀r∈acc,y2t r)/\S.length<=4611686018427387903/\w5.heap.size<=w'.heap.size/\Ext (w.alloc (.cells #[.int .i64 0,.int .i64 0,.int .u64 0,.slice none 0 0] 182)) w') (fun i _=>a4-(intOf i).toNat)
 case atStart=>exact⟨0,r4,o4,[],_,[],υ _,rfl,f1.o,rfl,B0.o,OGr.nil _ _ _ _,rfl,by simp,Q1.o,ι _,X1.o⟩
 case round =>
  obtain⟨k,S,t0,acc,v,vs,hk,rfl,s0,i1,i2,L1,Z1,O0,j2,k2,hx⟩:=hrel;obtain⟨ao,co,rfl⟩:=L1.own.slice;have S0:=s0.c1;have E1:=η s0;have V:=η i1;have r0:=η i2;have e0:=η L1;have p0:=η Z1;have N:=η O0;have T1:=η j2;have R:=η hx;have H1:=η k2;clear f1 B0 X1 Q1;clear s0 i1 i2 L1 Z1 O0 j2 k2 hx;by_cases L2:k<a4
  ·cases t0 with
   | false=>
    have HS:Hd (q3q s=z7T):=η (E.o (z0Z (by rw[d.o.parse,<-V.o,y0v])));clear d0 d1 d2 d3 z0 z1 z2 z3 b1 b2;obtain⟨d0,d1,d2,d3⟩:=z7X R.o;obtain⟨z0,z1,z2,z3⟩:=z6N R.o;go_wp2_with fail
    ((try simp only[Exit.inBlock,Exit.then]);refine bodyPost_ret (v:= .tuple #[.agg #[_,_,_,_],_]) (by rw[results_cell_tmp rfl];go_simp;exact⟨⟨rfl,rfl,rfl,rfl⟩,rfl⟩) rfl ?_)
    exact RetM.bad ((q0B _ _).trans R.o) _ (ι _) s HS.o _ _ _ _
   | true =>
    go_wp2_with fail;refine(z0j S true _ 1 1 _ rfl E1.o (by have:=T1.o;omega) (by decide)).mono ?_;obtain⟨a,ha⟩: ∃x,q4A 1 S=x:=⟨_,rfl⟩
    have ba:(a:Int)<256:=by have:=q5b 1 S;rw[ha] at this;exact Int.ofNat_lt.2 this
    have HA:=η ha;rw[ha];clear ha;rintro e w6 ⟨rfl,M0,l0⟩;have j0:=η M0;have i0:=η l0;have Q0:Hd ((q2S 1 S).length<=4611686018427387903):=η (by have:=q5a 1 S;have:=T1.o;omega);have g2:w1.heap.size<w6.heap.size:=M0.lt;have F1:=η l0.size;have I1:Hd (w5.heap.size<=w6.heap.size):=η (by have:=H1.o;have:=l0.size;omega);clear M0 l0;go_wp2_with fail
    go_loopw [10,11] (fun D2 i w'=> ∃(j:Nat) (U:List UInt8) (ok2:Bool) (row:List Int),j<=a/\i= .int .i64 j/\Rdr w' w1.heap.size U ok2/\z4E j U ok2 row=z4E a (q2S 1 S) (q3v 1 S true) []/\Own w' w6.heap.size 3 1 D2 row.length (row.map (Value.int .i64))/\row.length+j=a/\(∀x∈row,z8y x)/\U.length<=4611686018427387903/\Off w1.heap.size w6 w') (fun _ i _=>(intOf i).toNat)
    case atStart=>exact⟨a,_,_,[],ι _,rfl,j0.o,rfl,Own.nil _ _ _ _,by simp,by simp,Q0.o,Off.refl _ _⟩
    case round =>
     obtain⟨j,U,ok2,row,hj,rfl,N0,F0,J0,M2,s1,B1,p1⟩:=hrel;have c2:=N0.c1;have O:=η N0;have M:=η F0;have q:=η J0;have C0:=η s1;have k0:=η B1;have X:=η p1;clear N0 F0 J0 s1 B1 p1
     cases j with
     | zero =>
      have HD:Hd (z4E a (q2S 1 S) (q3v 1 S true) []=(row,U,ok2)):=η (by rw[<-M.o];rfl);have I:=η (i0.o.trans X.o);obtain⟨ai,ci,rfl⟩:=q.o.slice;have F:=η (r0.o.same (I.o.block _ r0.o.lt (by omega)));have m1:=F.o.cs;obtain⟨_,_,_,m3,_⟩:=m1;have a0:=(Off.ogr e0.o (show w1.heap.size<w5.heap.size by omega) I.o).ext (q0B _ (.cells #[.slice ai row.length ci] 73));have C:=η a0;clear a0;have K1:acc.length<=255:=by have:=p0.o;omega
      have g0:=η q.o;have Y:=η O.o;clear q O M Q0 X j0 i0 d0 d1 d2 d3 z0 z1 z2 z3 b1 b2 c2 S0;have x2:w5.heap.size<=wr.heap.size:=by have:=H1.o;have:=I.o.size;omega
      go_wp2_with (at_builtin;refine q0R rfl _ _ 180 rfl w5.heap.size 73 _ 1 24 Tryz.underlying180 Tryz.infoInts rfl (by decide) _ _ _ rfl C.o.own _ _ _ [.slice ai row.length ci] rfl rfl (fun h=>by cases h) (Rd.lit _ _ _) (by intro u hu;rw[List.mem_singleton.1 hu];rfl) (by omega) (by omega) (by simp;omega) ?_;intro v' w8 D hg _;obtain⟨ap,cp,rfl⟩:=D.slice;have W:=η ((F.o.same ((q0B _ _).block _ F.o.lt)).same (hg.block _ (by have:=F.o.lt;simp;omega) (by intro e;have:=(C.o.own.lt _ e.symm).1;omega)));have ⟨_,_,_,m4,m5⟩:=W.o.cs)
      have J:Rdr w8 w1.heap.size U ok2:=(Y.o.ext (q0B _ _)).same (hg.block _ (by have:=Y.o.lt;simp;omega) (by intro e;have:=(C.o.own.lt _ e.symm).1;omega));have G:=q0v ((Off.below R.o HG.o R.o.size I.o).alloc (Ω R.o.size I.o.size) (.cells #[.slice ai row.length ci] 73)) (C.o.own.base (by have:=HG.o;omega)) hg (Ω R.o.size (Ω I.o.size (q0B _ _).size));have Z:=C.o.push (l:=row) (by decide) (g0.o.ext ((Ext.refl _).alloc _)) (show w5.heap.size<=w6.heap.size from I1.o) (fun j g hh=>Ψ (e0.o.lt j g hh) F1.o) D hg;have Q:=η J;have u0:=η (Below.setCell G (p:=⟨w4.heap.size,3,none⟩) (by have:=HG.o;show _<=w4.heap.size;omega) (.slice ap (acc.length+1) cp));have q0:=η Z;have b0:=hg.size;have G1:Hd (w5.heap.size<=w8.heap.size):=η (by simp at b0;omega);clear J G Z D hg b0;go_wp2_with fail
      go_roundw
      case rel=>
       refine⟨k+1,U,ok2,acc++[row],.slice ap (acc.length+1) cp,vs++[.slice ai row.length ci],by omega,by go_num,Q.o.same (Below.heap_setCell _ _ _ _ (show w1.heap.size≠w4.heap.size by omega)),?_,W.o.set _,q0.o.setBelow (by omega) _ _,by rw[θ,p0.o];rfl,?_,k0.o,Ω G1.o (Off.set (g:=w4.heap.size) w8 3 _).size,u0.o⟩
       ·rw[<-V.o]
        have e:a4-k=(a4-(k+1))+1:=by omega
        rw[e,z0T HA.o HD.o]
       ·intro r hr
        rw[List.mem_append,Γ] at hr;rcases hr with hr|rfl
        ·exact N.o r hr
        ·exact⟨by omega,C0.o⟩
      case measure=>simp[intOf];omega
     | succ j =>
      cases ok2 with
      | false =>
        have HD:Hd (z4E a (q2S 1 S) (q3v 1 S true) []=(row,U,false)):=η (by rw[<-M.o];exact y2k);have I:=η (i0.o.trans X.o);obtain⟨ai,ci,rfl⟩:=q.o.slice;have F:=η (r0.o.same (I.o.block _ r0.o.lt (by omega)));have m1:=F.o.cs;obtain⟨_,_,_,m3,_⟩:=m1;have a0:=(Off.ogr e0.o (show w1.heap.size<w5.heap.size by omega) I.o).ext (q0B _ (.cells #[.slice ai row.length ci] 73));have C:=η a0;clear a0;have K1:acc.length<=255:=by have:=p0.o;omega
        have g0:=η q.o;have Y:=η O.o;clear q O M Q0 X j0 i0 d0 d1 d2 d3 z0 z1 z2 z3 b1 b2 S0;have B2:(0:Int)<(j:Int)+1:=by omega
        have x2:w5.heap.size<=wr.heap.size:=by have:=H1.o;have:=I.o.size;omega
        go_wp2_with (at_builtin;refine q0R rfl _ _ 180 rfl w5.heap.size 73 _ 1 24 Tryz.underlying180 Tryz.infoInts rfl (by decide) _ _ _ rfl C.o.own _ _ _ [.slice ai row.length ci] rfl rfl (fun h=>by cases h) (Rd.lit _ _ _) (by intro u hu;rw[List.mem_singleton.1 hu];rfl) (by omega) (by omega) (by simp;omega) ?_;intro v' w8 D hg _;obtain⟨ap,cp,rfl⟩:=D.slice;have W:=η ((F.o.same ((q0B _ _).block _ F.o.lt)).same (hg.block _ (by have:=F.o.lt;simp;omega) (by intro e;have:=(C.o.own.lt _ e.symm).1;omega)));have ⟨_,_,_,m4,m5⟩:=W.o.cs)
        have J:Rdr w8 w1.heap.size U false:=(Y.o.ext (q0B _ _)).same (hg.block _ (by have:=Y.o.lt;simp;omega) (by intro e;have:=(C.o.own.lt _ e.symm).1;omega));have G:=q0v ((Off.below R.o HG.o R.o.size I.o).alloc (Ω R.o.size I.o.size) (.cells #[.slice ai row.length ci] 73)) (C.o.own.base (by have:=HG.o;omega)) hg (Ω R.o.size (Ω I.o.size (q0B _ _).size));have Z:=C.o.push (l:=row) (by decide) (g0.o.ext ((Ext.refl _).alloc _)) (show w5.heap.size<=w6.heap.size from I1.o) (fun j g hh=>Ψ (e0.o.lt j g hh) F1.o) D hg;have Q:=η J;have u0:=η (Below.setCell G (p:=⟨w4.heap.size,3,none⟩) (by have:=HG.o;show _<=w4.heap.size;omega) (.slice ap (acc.length+1) cp));have q0:=η Z;have b0:=hg.size;have G1:Hd (w5.heap.size<=w8.heap.size):=η (by simp at b0;omega);clear J G Z D hg b0;go_wp2_with fail
        go_roundw
        case rel=>
         refine⟨k+1,U,false,acc++[row],.slice ap (acc.length+1) cp,vs++[.slice ai row.length ci],by omega,by go_num,Q.o.same (Below.heap_setCell _ _ _ _ (show w1.heap.size≠w4.heap.size by omega)),?_,W.o.set _,q0.o.setBelow (by omega) _ _,by rw[θ,p0.o];rfl,?_,k0.o,Ω G1.o (Off.set (g:=w4.heap.size) w8 3 _).size,u0.o⟩
         ·rw[<-V.o]
          have e:a4-k=(a4-(k+1))+1:=by omega
          rw[e,z0T HA.o HD.o]
         ·intro r hr
          rw[List.mem_append,Γ] at hr;rcases hr with hr|rfl
          ·exact N.o r hr
          ·exact⟨by omega,C0.o⟩
        case measure=>simp[intOf];omega
      | true =>
       obtain⟨ai,ci,rfl⟩:=q.o.slice;have H2:row.length<=255:=by omega
       have B2:(0:Int)<(j:Int)+1:=by omega
       clear j0 Q0 F1 I1 r0 e0 E1 N d0 d1 d2 d3 z0 z1 z2 z3 b1 b2 S0;go_wp2_with fail;refine(z0j U true _ 4 4 _ rfl O.o (by have:=k0.o;omega) (by decide)).mono ?_;obtain⟨x,V0⟩: ∃x,q4A 4 U=x:=⟨_,rfl⟩
       have bx:(x:Int)<4294967296:=by have:=q5b 4 U;rw[V0] at this;exact Int.ofNat_lt.2 this
       have v2:=η V0;rw[V0];clear V0;rintro e w8 ⟨rfl,J,I0⟩;have Q:=η J;have W0:=η (X.o.trans I0);have f0:=η ((Off.own q.o g2 I0).ext (q0B _ (.cells #[.int .i64 x] 3)));have b0:=W0.o.size;clear J I0 O q c2
       go_wp2_with (at_builtin;refine q0R rfl _ _ 73 rfl w6.heap.size 3 _ 1 8 Tryz.underlying73 Tryz.infoInt rfl (by decide) _ _ _ rfl f0.o _ _ _ [.int .i64 x] rfl rfl (fun h=>by cases h) (Rd.lit _ _ _) (by intro u hu;rw[List.mem_singleton.1 hu];rfl) (by omega) (by omega) (Ω b0 (q0B _ _).size) ?_;intro v' w9 K0 J1 _)
       have y1:Rdr w9 w1.heap.size (q2S 4 U) (q3v 4 U true):=(Q.o.ext (q0B _ _)).same (J1.block _ (by have:=Q.o.lt;simp;omega) (by intro e;have:=(f0.o.lt _ e.symm).1;omega));have q1:=Off.grown (W0.o.trans (Off.of_ext (q0B _ _))) f0.o J1 (ι _);have o0:Own w9 w6.heap.size 3 1 v' (row++[(x:Int)]).length ((row++[(x:Int)]).map (Value.int .i64)):=by rw[θ,List.map_append];exact K0
       have S1:=η y1;have P1:=η q1;have D1:=η o0;clear y1 q1 o0 K0 J1 b0;go_wp2_with fail
       go_roundw
       case rel=>
        refine⟨j,q2S 4 U,q3v 4 U true,row++[(x:Int)],by omega,by go_num,S1.o,?_,D1.o,by simp;omega,?_,by have:=q5a 4 U;have:=k0.o;omega,P1.o⟩
        ·rw[<-M.o,z4E,ξ rfl,v2.o]
        ·intro y hy
         rw[List.mem_append,Γ] at hy;rcases hy with hy|rfl
         ·exact C0.o y hy
         ·exact⟨by omega,bx⟩
       case measure=>simp[intOf]
  ·have f2:k=a4:=by omega
   have HE:Hd (q3V t=⟨a1,a2,a3,acc,S,t0⟩):=η (by rw[d.o.parse,<-V.o,f2,Nat.sub_self];rfl);clear f2;clear d0 d1 d2 d3 z0 z1 z2 z3 b1 b2
   cases t0 with
   | false=>
    have HS:Hd (q3q s=z7T):=η (E.o (z0Z (by rw[HE.o])));obtain⟨d0,d1,d2,d3⟩:=z7X R.o;obtain⟨z0,z1,z2,z3⟩:=z6N R.o;go_wp2_with fail
    ((try simp only[Exit.inBlock,Exit.then]);refine bodyPost_ret (v:= .tuple #[.agg #[_,_,_,_],_]) (by rw[results_cell_tmp rfl];go_simp;exact⟨⟨rfl,rfl,rfl,rfl⟩,rfl⟩) rfl ?_)
    exact RetM.bad ((q0B _ _).trans R.o) _ (ι _) s HS.o _ _ _ _
   | true =>
    have y2:=E1.o.c0;obtain⟨m0,m1,m2,m3,_⟩:=r0.o.cs;by_cases hs:S=[]
    ·subst hs
     obtain⟨I2,J2,he,Z⟩:=e0.o.grid
     cases he;have C1:acc.flatten.length<=17592186044416:=by have:=z0O 255 acc fun r hr=>(N.o r hr).1;have:=p0.o;omega
     have t1: ∀x∈acc.flatten,z8y x:=fun x hx=>by obtain⟨r,h1,h2⟩:=List.mem_flatten.1 hx;exact(N.o r h1).2 x h2
     have q0:=η Z;have g1:=η C1;have X0:=η t1;have B3:=η d.o.b.2.2.1;clear V p0 Z C1 t1;go_wp2_with fail;refine(z1S a1 a2 a3 _ _ _ acc _ q0.o g1.o (fun x hx=>y4r (X0.o x hx))).mono ?_;rintro e w8 ⟨rfl,G⟩;have E0:=η (R.o.trans G);have M1:=η (q0.o.ext G);have u0:=η G;have l2:=q0A G m0;have p2:=q0A G m1;have q2:=q0A G m2;have t2:=q0A G m3;clear G m0 m1 m2 m3 y2 S0;by_cases hv:q0c a1 a2 acc=false
     ·have HS:Hd (q3q s=z7T):=η (E.o (z9I (by rw[HE.o];exact hv)))
      rw[hv];obtain⟨d0,d1,d2,d3⟩:=z7X E0.o;obtain⟨z0,z1,z2,z3⟩:=z6N E0.o;go_wp2_with fail
      ((try simp only[Exit.inBlock,Exit.then]);refine bodyPost_ret (v:= .tuple #[.agg #[_,_,_,_],_]) (by rw[results_cell_tmp rfl];go_simp;exact⟨⟨rfl,rfl,rfl,rfl⟩,rfl⟩) rfl ?_)
      exact RetM.bad ((q0B _ _).trans E0.o) _ (ι _) s HS.o _ _ _ _
     have hv:q0c a1 a2 acc=true:=by simpa using hv
     have HV:=η hv;rw[hv];clear hv;go_wp2_with fail;refine(y1o a1 a2 a3 _ _ _ acc _ M1.o g1.o (fun x hx=>y4r (X0.o x hx)) (by omega) B3.o).mono ?_;obtain⟨P,hP⟩: ∃P,q2q a1 a2 a3 acc=(P,0):=⟨_,by unfold q2q;rw[HV.o];rfl⟩
     have HP:=η hP;rw[hP];clear hP;rintro e w9 ⟨rfl,h0⟩;have R0:=η (E0.o.trans h0);have u2:=η (u0.o.trans h0);have n0:=q0A h0 l2;have n1:=q0A h0 p2;have n2:=q0A h0 q2;have n3:=q0A h0 t2;obtain⟨d0,d1,d2,d3⟩:=z7X R0.o;obtain⟨z0,z1,z2,z3⟩:=z6N R0.o;clear h0 l2 p2 q2 t2 M1 E0;by_cases U0:P=s
     ·have HS:Hd (q3q s=⟨a1,a2,a3,acc,0⟩):=η (by rw[P0.o (z2u (by rw[HE.o]) (by rw[HE.o]) (by rw[HE.o];exact HV.o) (by rw[HE.o];show(q2q a1 a2 a3 acc).1=s;rw[HP.o];exact U0)),HE.o])
      subst U0;go_wp2_with fail
      ((try simp only[Exit.inBlock,Exit.then]);refine bodyPost_ret (v:= .tuple #[.agg #[_,_,_,_],_]) (by rw[results_cell_tmp rfl];go_simp;exact⟨⟨rfl,rfl,rfl,rfl⟩,rfl⟩) rfl ?_)
      have hw:w.heap.size<w5.heap.size:=by have:=HG.o;simp at this;omega
      rw[HS.o];exact⟨.slice ao acc.length co,vs,rfl,((((e0.o.ext u2.o).setBelow hw _ _).setBelow hw _ _).setBelow hw _ _|>.setBelow hw _ _).base (by omega),z5M ((q0B _ _).trans R0.o) _ (ι _) _ _ _ _⟩
     ·have HS:Hd (q3q s=z7T):=η (E.o (z9G (by rw[HE.o];show(q2q a1 a2 a3 acc).1≠s;rw[HP.o];exact U0)))
      have G2:(P==s)=false:=by simpa using U0
      go_wp2_with fail
      ((try simp only[Exit.inBlock,Exit.then]);refine bodyPost_ret (v:= .tuple #[.agg #[_,_,_,_],_]) (by rw[results_cell_tmp rfl];go_simp;exact⟨⟨rfl,rfl,rfl,rfl⟩,rfl⟩) rfl ?_)
      exact RetM.bad ((q0B _ _).trans R0.o) _ (ι _) s HS.o _ _ _ _
    ·have HS:Hd (q3q s=z7T):=η (E.o (z9H (by rw[HE.o];exact hs)))
     have N2:(S==[])=false:=by simpa using hs
     obtain⟨d0,d1,d2,d3⟩:=z7X R.o;obtain⟨z0,z1,z2,z3⟩:=z6N R.o;go_wp2_with fail
     ((try simp only[Exit.inBlock,Exit.then]);refine bodyPost_ret (v:= .tuple #[.agg #[_,_,_,_],_]) (by rw[results_cell_tmp rfl];go_simp;exact⟨⟨rfl,rfl,rfl,rfl⟩,rfl⟩) rfl ?_)
     exact RetM.bad ((q0B _ _).trans R.o) _ (ι _) s HS.o _ _ _ _
end
section
theorem q7W(k x:Nat)(r:List UInt8)(h:x<256^k):q4A k (be k x++r)=x/\q2S k (be k x++r)=r/\ ∀ok,q3v k (be k x++r) ok=ok:=by
 have b:¬(be k x++r).length<k:=by simp[q0F]
 refine⟨?_,?_,fun ok=>?_⟩
 ·unfold q4A
  rw[κ b,List.take_left' (q0F k x),q4K,Nat.mod_eq_of_lt h]
 ·unfold q2S
  rw[κ b,List.drop_left' (q0F k x)]
 ·unfold q3v
  rw[κ b]
def b4(x:Int):List UInt8:=be 4 x.toNat
theorem z5Y : ∀(l:List Int) (r:List UInt8) (acc:List Int),(∀x∈l,z8y x)->z4E l.length ((l.map b4).flatten++r) true acc=(acc++l,r,true)
 |[],r,acc,_=>by simp[z4E]
 | x::l,r,acc,h=>by
  have d:=h x (by simp);obtain⟨h1,h2⟩:=d;have b:=q7W 4 x.toNat ((l.map b4).flatten++r) (by omega);have e:((x::l).map b4).flatten++r=be 4 x.toNat++((l.map b4).flatten++r):=by simp[b4]
  rw[χ,z4E,ξ rfl,e,b.1,b.2.1,b.2.2,z5Y l r _ fun y i=>h y (by simp[i]),List.append_assoc,Int.toNat_of_nonneg h1]
  rfl
theorem z2k : ∀(T:List (List Int)) (r:List UInt8) (acc:List (List Int)),(∀l∈T,y2t l)->q4r T.length ((T.map q1G).flatten++r) true acc=(acc++T,r,true)
 |[],r,acc,_=>by simp[q4r]
 | l ::T,r,acc,h=>by
  have d:=h l (by simp);have b:=q7W 1 l.length ((l.map b4).flatten++((T.map q1G).flatten++r)) (by have:=d.1;omega);have e:((l::T).map q1G).flatten++r=be 1 l.length++((l.map b4).flatten++((T.map q1G).flatten++r)):=by
   simp[q1G,List.append_assoc];rfl
  rw[χ,q4r,ξ rfl,e,b.1,b.2.1,b.2.2,z5Y l _ [] d.2];simp only[List.nil_append];rw[z2k T r _ fun y i=>h y (by simp[i]),List.append_assoc]
  rfl
theorem z3Q(L:List (List Int)):(q0N L).length<=L.length:=by rw[q1b];exact q2p _ _
theorem z4e(L:List (List Int)):q0N (q0N L)=q0N L:=by
 apply z3P;rcases Nat.eq_zero_or_pos (q0N L).length with h|h
 ·exact .inl (List.eq_nil_of_length_eq_zero h)
 ·exact .inr (z0k L _ (by omega))
theorem q9m(h:q0e L=true):q0e (q0N L)=true:=by
 have b:=q2b h;have d:=q1a L;exact q7A _ (Ω (z3Q L) b.1) (by rw[d];exact b.2.1) (by rw[d];exact b.2.2.1) (by rw[d];exact b.2.2.2)
theorem q6C(h:q0c nx ck L=true):q0c nx ck (q0N L)=true:=by
 have b:=q2X h;rw[z0V b.1 (q9m b.2.1),q1a,List.all_eq_true];intro x d
 simpa using b.2.2 x d
theorem z2n(h:q0c nx ck L=true):q2q nx ck sd (q0N L)=q2q nx ck sd L:=by
 unfold q2q q2F;rw[ξ (q6C h),ξ h,z4e]
theorem z9V(h:q0c nx ck L=true):(q0N L).length<=5/\ ∀l∈q0N L,y2t l:=by
 have d:=q2X h;have i:=q2b (q9m d.2.1);refine⟨i.1,fun l b=>⟨?_,fun x o=>?_⟩⟩
 ·have:l.length<=(q0N L).flatten.length:=(List.sublist_flatten_of_mem b).length_le
  omega
 ·have hm:x∈(q0N L).flatten:=List.mem_flatten.2 ⟨l,b,o⟩
  have j:=i.2.2.1 x hm;rw[q1a] at hm;have h1:=d.2.2 x hm;exact⟨j,by omega⟩
theorem z0U(h:q0c nx ck L=true):q2q nx ck sd L=(q0T (q2F nx ck sd L),0):=by unfold q2q;rw[ξ h]
theorem z0F(nx ck sd:Int)(L:List (List Int))(r:List UInt8):
  q2F nx ck sd L++r=[105,109,97,112]++(be 4 nx.toNat++(be 4 ck.toNat++(be 8 sd.toNat++(be 1 (q0N L).length++(((q0N L).map q1G).flatten++r))))):=by
 simp[q2F,q3R,List.append_assoc]
structure z7N(u:List UInt8)(a1 a2 a3 a4:Nat)(r4:List UInt8):Prop where
 f:u=[105,109,97,112]++(be 4 a1++(be 4 a2++(be 8 a3++(be 1 a4++r4))))
 b1:a1<256^4
 b2:a2<256^4
 b3:a3<256^8
 b4:a4<256^1
theorem z4P{u:List UInt8}(h:z7N u a1 a2 a3 a4 r4):
  q3V u=⟨a1,a2,a3,(q4r a4 r4 true []).1,(q4r a4 r4 true []).2.1,(q4r a4 r4 true []).2.2⟩:=by
 obtain⟨rfl,b1,b2,b3,b4⟩:=h;unfold q3V;have b:=q7W 4 a1 (be 4 a2++(be 8 a3++(be 1 a4++r4))) b1;have t2:=q7W 4 a2 (be 8 a3++(be 1 a4++r4)) b2;have d:=q7W 8 a3 (be 1 a4++r4) b3;have i:=q7W 1 a4 r4 b4;have e:([105,109,97,112]++(be 4 a1++(be 4 a2++(be 8 a3++(be 1 a4++r4))))).drop 4=be 4 a1++(be 4 a2++(be 8 a3++(be 1 a4++r4))):=rfl;simp only[e,b.1,b.2.1,b.2.2,t2.1,t2.2.1,t2.2.2,d.1,d.2.1,d.2.2,i.1,i.2.1,i.2.2]
theorem z6M(h:q0c nx ck L=true)(h1:sd<18446744073709551616)(r:List UInt8):
  z7N (q2F nx ck sd L++r) nx.toNat ck.toNat sd.toNat (q0N L).length (((q0N L).map q1G).flatten++r):=by
 have b:=q2X h;have d:=z9V h;exact⟨z0F _ _ _ _ _,by omega,by omega,by omega,by omega⟩
theorem z6u(h:q0c nx ck L=true)(d:0<=sd)(h1:sd<18446744073709551616)(r:List UInt8):
  q3V (q2F nx ck sd L++r)=⟨nx,ck,sd,q0N L,r,true⟩:=by
 have b:=q2X h;have i:=z9V h;rw[z4P (z6M h h1 r),z2k _ _ _ i.2];simp only[List.nil_append,Int.toNat_of_nonneg b.1.1,Int.toNat_of_nonneg b.1.2.2.1,Int.toNat_of_nonneg d]
theorem z8z(l:List UInt8):q1l (q0T l)=true/\q1V (q0T l)=l:=by
 have i:=q0d l;have d:(q0T l).take ((q0T l).length-4)=l:=by
  rw[i,Nat.add_sub_cancel];unfold q0T;exact List.take_left
 have b:q1l (q0T l)=true:=by
  unfold q1l;rw[d,ζ (show 4<=(q0T l).length by omega),ζ rfl];rfl
 exact⟨b,by unfold q1V;rw[ξ b,d]⟩
theorem y0z(h:q0c nx ck L=true)(d:0<=sd)(h1:sd<18446744073709551616):
  q3q (q0T (q2F nx ck sd L))=⟨nx,ck,sd,q0N L,0⟩:=by
 obtain⟨o1,o2⟩:=z8z (q2F nx ck sd L);have b:=z6u h d h1 [];rw[List.append_nil] at b;have i:q4F (q2F nx ck sd L)=true:=by
  have e:=z0F nx ck sd L [];rw[List.append_nil] at e;unfold q4F;rw[e,Ξ];exact⟨by simp,by simp⟩
 unfold q3q;rw[o1,o2,i,ξ (by rfl),b];have j:q2k ⟨nx,ck,sd,q0N L,[],true⟩ (q0T (q2F nx ck sd L))=true:=
  z2u rfl rfl (q6C h) (by show(q2q nx ck sd (q0N L)).1=_;rw[z2n h,z0U h])
 rw[j,ξ rfl]
theorem y3f{k x y:Nat}(b:x<256^k)(d:y<256^k)(h:be k x=be k y):x=y:=by
 have:=congrArg q1N h
 rwa [q4K,q4K,Nat.mod_eq_of_lt b,Nat.mod_eq_of_lt d] at this
theorem y0x{s t:BitVec 32}(h:q4v s=q4v t):s=t:=by
 unfold q4v at h;have h2:=List.reverse_inj.1 h;exact BitVec.eq_of_toNat_eq (y3f (by have:=s.isLt;simpa using this) (by have:=t.isLt;simpa using this) h2)
theorem z4M(l:List UInt8)(k:Nat)(u d:UInt8)(s:(q0T l)[k]? =some u)(y:d≠u):q1l ((q0T l).set k d)=false:=by
 have I:=q0d l;have G:k<(q0T l).length:=(List.getElem?_eq_some_iff.1 s).1;have i:((q0T l).set k d).length-4=l.length:=by simp;omega
 rw[z5h _ (by simp;omega),decide_eq_false_iff_not,i];intro o;have e0:(q0T l).take l.length=l:=by unfold q0T;exact List.take_left
 have x:(q0T l).drop l.length=q4v (q0u l):=by unfold q0T;exact List.drop_left
 rw[List.take_set,e0] at o;by_cases b:k<l.length
 ·rw [List.drop_set_of_lt b,x] at o
  have F:=y0x o;have j:l[k]? =some u:=by
   rw[<-s];unfold q0T;rw[List.getElem?_append_left b]
  have q:l[k]=u:=by rw[γ b] at j;exact Option.some.inj j
  have C:l.set k d=l.take k++d::l.drop (k+1):=by rw[List.set_eq_take_append_cons_drop,ξ b]
  have D:l=l.take k++u::l.drop (k+1):=by
   rw[<-q,List.getElem_cons_drop,List.take_append_drop]
  have r:q0u (l.take k++d::l.drop (k+1))=q0u (l.take k++u::l.drop (k+1)):=by rw[<-C,<-D];exact F
  exact y (z3s _ _ _ _ r)
 ·rw [List.set_eq_of_length_le (by omega),List.drop_set,κ b,x] at o
  have E:k-l.length<(q4v (q0u l)).length:=by rw[q3B];omega
  have h1:(q4v (q0u l))[k-l.length]? =some u:=by
   rw[<-s];unfold q0T;rw[List.getElem?_append_right (by omega)]
  have h2:((q4v (q0u l)).set (k-l.length) d)[k-l.length]? =some d:=List.getElem?_set_self E;rw[<-o,h1] at h2;exact y (Option.some.inj h2).symm
end
end Go.Proofs.YteabhdclmodefaaGreatDoor
namespace Go.Proofs.YteabhdclmodefaaGreatDoor
section
open Go.RowKit
theorem y0B(w:World)(l:List UInt8): ∃W cap,(convert 9 31 (.string ⟨l.toArray⟩)).run Tryz.prog w= .ok (.slice (some ⟨w.heap.size,0,none⟩) l.length cap) W/\
  Rd W (some ⟨w.heap.size,0,none⟩) (l.map q1Q)/\(∀j,j<l.length->W.frozen? ⟨w.heap.size,j,none⟩=false)/\Ext w W/\w.heap.size<W.heap.size:=by
 have h:=run_bytes_of_string (P:=Tryz.prog) w 9 31 5 ⟨l.toArray⟩ Tryz.underlying9 Tryz.underlying31 Tryz.underlying5;obtain⟨h1,h2,h3⟩:=q8a w 5 l (grownCap w (⟨l.toArray⟩:ByteArray).size 0 5);refine⟨_,_,h,h1,h2,h3,?_⟩;show w.heap.size<((w.alloc _).drew).heap.size;simp
theorem y3B{w:World}{g:Nat}{cs:List Value}(h:Rd w (some ⟨g,0,none⟩) cs){k:Nat}(i:k<cs.length)(u:Value):Rd (w.setCell ⟨g,k,none⟩ u) (some ⟨g,0,none⟩) (cs.set k u):=by
 intro j x b;refine⟨g,0,rfl,?_⟩;rw[Nat.zero_add];rw[List.getElem?_set] at b
 split at b
 ·rename_i e
  subst e
  cases b;obtain⟨_,_,d,hc⟩:=h.at i
  cases d;rw[Nat.zero_add] at hc;exact World.cell?_setCell_same _ _ _ hc
 ·rename_i e
  obtain⟨_,_,d,hc⟩:=h j x b
  cases d;rw[Nat.zero_add] at hc;rw[World.cell?_setCell_other (h:=q2w e)];exact hc
theorem z9o(x:UInt8):IntKind.u8.wrap (x.toNat:Int)=(x.toNat:Int):=by
 have:=x.toNat_lt;rw[IntKind.wrap_u8];omega
theorem z0W(x:UInt8):BitVec.ofInt 8 (x.toNat:Int)=x.toBitVec:=by
 rw[BitVec.ofInt_natCast];apply BitVec.eq_of_toNat_eq;have:=x.toNat_lt;simp
theorem z0v(x y:UInt8):bits .xor .u8 (x.toNat:Int) (y.toNat:Int)=((x^^^y).toNat:Int):=by
 show IntKind.u8.wrap ((BitVec.ofInt 8 (x.toNat:Int)^^^BitVec.ofInt 8 (y.toNat:Int)).toNat:Int)=_;rw[z0W,z0W];exact z9o (x^^^y)
theorem byte_of_int{c:Int}(b:0<=c)(h1:c<=255): ∃y:UInt8,c=(y.toNat:Int):=⟨UInt8.ofNat c.toNat,by simp;omega⟩
theorem y4t(x y:UInt8)(h:y≠0):x^^^y≠x:=by
 intro e;apply h;have b:x^^^(x^^^y)=x^^^x:=by rw[e]
 rw[<-UInt8.xor_assoc,UInt8.xor_self,UInt8.zero_xor] at b;exact b
end
end Go.Proofs.YteabhdclmodefaaGreatDoor
