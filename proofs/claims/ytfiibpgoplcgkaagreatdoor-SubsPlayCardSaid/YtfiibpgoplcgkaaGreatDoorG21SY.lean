/- Walks. -/
import Derived.WalkSpells
import Derived.Test.YtfiibpgoplcgkaaGreatDoorG20SY
import Derived.Test.YtfiibpgoplcgkaaGreatDoorG4SY
import Derived.Laws.ResultCell
set_option linter.unusedVariables false
set_option linter.unusedSimpArgs false
set_option maxRecDepth 100000
set_option maxHeartbeats 3200000
namespace Go.Proofs.YtfiibpgoplcgkaaGreatDoor
variable {w w' w0 w1:World}{ao:Option Addr}{n cap m B g a1 a2 a3 a4:Nat}{L acc:List (List Int)}{nx ck a c sd:Int}{e tO tI:TypeId}{v:Value}{vs:List Value}{t r1 r2 r3 r4:List UInt8}{o1 o2 o3 o4:Bool}
section
open Go.RowKit
theorem y0b(ao:Option Addr)(n cap:Nat)(L:List (List Int))(w:World)(q:Grid w ao n cap L):
  Calls Tryz.prog 329 #[.slice ao n cap] w fun e w'=>e= .returned (.slice ao (q2B L n) cap)/\Ext w w':=by
 have I:=η q;have b1:=q.fits;have b2:=q.bound;clear q;go_enter Tryz.func329,Tryz.ntmps329;go_wp2_with fail
 go_loopw [0] (fun v w'=> ∃m:Nat,m<=n/\v= .slice ao m cap/\q2B L m=q2B L n/\Ext w w') (fun v _=>y2m v)
 case atStart=>exact⟨n,ι _,rfl,rfl,Ext.refl _⟩
 case round=>
  obtain⟨m,hm,rfl,j,C⟩:=hrel;have d:=η j;clear j;have l:=η C;clear C
  cases m with
  | zero=>
   have D:q2B L n=0:=d.o.symm;have r:=η D;clear D;go_wp2_with fail;go_ret;exact⟨by rw[r.o];rfl,l.o⟩
  | succ m=>
   obtain⟨b,off,J,E,N,rfl,M,r1⟩:=(I.o.ext l.o).at (show m<n by omega);have x:=r1.len;have O:=r1.fits;have Q:=r1.bound;have u:=η x;clear r1 x;by_cases s:E=0
   ·have he:L.getD m []=[]:=List.eq_nil_of_length_eq_zero (by have:=u.o;omega)
    have F:=η he;clear he;subst s;go_wp2_with fail
    go_roundw
    case rel=>exact⟨m,by omega,rfl,by rw[<-z2d L m F.o];exact d.o,l.o⟩
    case measure=>simp[y2m]
   ·have i:L.getD m []≠[]:=by intro h;have:=u.o;rw[h] at this;simp at this;omega
    have R:((E:Int)==0)=false:=by simpa using s
    have y:q2B L n=m+1:=by rw[<-d.o];exact q9A L m i
    have G:=η i;clear i s;have r:=η y;clear y;go_wp2_with fail;go_ret;exact⟨by rw[r.o];rfl,l.o⟩
theorem Grid.cut(h:Grid w ao n cap L)(hm:m<=n):Grid w ao m cap (L.take m):=by
 have u:=h.len;have d:(L.take m).length=m:=by simp;omega
 refine⟨d,Ω hm h.fits,h.bound,h.nil,fun i s=>?_⟩;obtain⟨b,off,j,l,o,q,r⟩:=h.rd i (by omega);rw[List.getElem_take];exact⟨b,off,j,l,o,q,r⟩
theorem Grid.trim(h:Grid w ao n cap L):Grid w ao (q2B L n) cap (q0z L):=by
 have e:q0z L=L.take (q2B L n):=by unfold q0z;rw[h.len]
 rw[e];exact h.cut (q5r L n)
def q0x(l:List Int):List UInt8:=be 1 l.length++(l.map fun x=>be 4 x.toNat).flatten
def q2o(nx ck sd:Int)(k:Nat):List UInt8:=[105,109,97,112]++be 4 nx.toNat++be 4 ck.toNat++be 8 sd.toNat++be 1 k
def q2E(nx ck sd:Int)(L:List (List Int)):List UInt8:=q2o nx ck sd (q0z L).length++((q0z L).map q0x).flatten
def q3S(nx ck sd:Int)(L:List (List Int)):List UInt8×Int:=if q0i nx ck L then(q1T (q2E nx ck sd L),0) else([],2)
theorem q6S(l:List Int):(l.map fun x=>be 4 x.toNat).flatten.length=4*l.length:=by
 induction l with
 |nil=>rfl
 |cons x l ih=>simp only[List.map_cons,List.flatten_cons,θ,ih,q0G,χ];omega
theorem q7V(l:List Int):(q0x l).length=1+4*l.length:=by
 unfold q0x;rw[θ,q0G,q6S]
theorem q7W(T:List (List Int)):(T.map q0x).flatten.length=T.length+4*T.flatten.length:=by
 induction T with
 |nil=>rfl
 |cons x l ih=>simp only[List.map_cons,List.flatten_cons,θ,ih,q7V,χ];omega
theorem q8K(nx ck sd:Int)(k:Nat):(q2o nx ck sd k).length=21:=by simp[q2o,q0G]
theorem q2g(h:q0i nx ck L=true):(0<=nx/\nx<=1000000/\0<=ck/\ck<=2147483647)/\q1q L=true/\ ∀x∈L.flatten,x<nx:=by
 unfold q0i at h;rw[Ξ,Ξ] at h;exact⟨of_decide_eq_true h.1.1,h.1.2,fun x b=>of_decide_eq_true (List.all_eq_true.1 h.2 x b)⟩
theorem q5e{b i:Type}(f:b->List i)(l:List b)(d:b)(k:Nat)(h:k<l.length):((l.take (k+1)).map f).flatten=((l.take k).map f).flatten++f (l.getD k d):=by
 rw[q0V l d k h];simp
theorem y1u(nx ck sd:Int)(ao:Option Addr)(n cap:Nat)(L:List (List Int))(w:World)(C:Grid w ao n cap L)(o0:L.flatten.length<=17592186044416)(q0: ∀x∈L.flatten,(Lit.int .i64 x).wf=true)(S0:0<=sd)(U:sd<18446744073709551616):
  Calls Tryz.prog 288 #[.agg #[.int .i64 nx,.int .i64 ck,.int .u64 sd,.slice ao n cap]] w fun e w'=>e= .returned (.tuple #[.string ⟨(q3S nx ck sd L).1.toArray⟩,.int .i64 (q3S nx ck sd L).2])/\Ext w w':=by
 have Hx:=η C;have M:=η C.len;clear C;go_enter Tryz.func288,Tryz.ntmps288;go_wp2_with fail;refine(q9h nx ck sd _ _ _ L _ (Hx.o.ext (q0B _ _)) o0 q0).mono ?_;rintro e w1 ⟨rfl,G⟩;obtain⟨d0,d1,d2,d3⟩:=z5U G;have HB:=η G;clear G q0;by_cases hv:q0i nx ck L=false
 ·have HV:Hd (q3S nx ck sd L=([],2)):=η (by unfold q3S;rw[hv];rfl)
  go_wp2_with fail;go_ret2;exact⟨by rw[HV.o];rfl,(q0B _ _).trans HB.o⟩
 have p0:q0i nx ck L=true:=by simpa using hv
 have HV:Hd (q3S nx ck sd L=(q1T (q2E nx ck sd L),0)):=η (by unfold q3S;rw[p0];rfl);obtain⟨⟨n1,n2,n3,n4⟩,V,J⟩:=q2g p0;obtain⟨v1,v2,v3,_⟩:=(by unfold q1q at V;exact of_decide_eq_true V:L.length<=5/\L.flatten.length<=40/\(∀x∈L.flatten,0<=x)/\L.flatten.Nodup)
 have V2:=η v2;have V3:=η v3;have x0:=η J;have N0:n<=5:=by have:=M.o;omega
 clear hv V v1 v2 v3 J;go_wp2_with fail;refine(y0b _ _ _ L _ ((Hx.o.ext (q0B _ _)).ext HB.o)).mono ?_;rintro e w2 ⟨rfl,G⟩;have D:=η (HB.o.trans G);obtain⟨e0,e1,e2,e3⟩:=z5U D.o;clear G HB d0 d1 d2 d3;have f0:=q0C e0;have f1:=q0C e1;have f2:=q0C e2;have hT:(q0z L).length=q2B L n:=by rw[q3X,M.o]
 have U0:q2B L n<=n:=q5r L n;have F:Grid w2 ao (q2B L n) cap (q0z L):=((Hx.o.ext (q0B _ _)).ext D.o).trim;have Z:=η F;have E:=η hT;have q:Hd (q2o nx ck sd (q2B L n)=[105,109,97,112]++be 4 nx.toNat++be 4 ck.toNat++be 8 sd.toNat++be 1 (q2B L n)):=η rfl;have j0:=q0G 4 nx.toNat;have k0:=q0G 4 ck.toNat;have I0:=q0G 8 sd.toNat;have H0:=q0G 1 (q2B L n);have V0:q2B L n<=5:=by omega
 have O:Hd (q2E nx ck sd L=q2o nx ck sd (q0z L).length++((q0z L).map q0x).flatten):=η rfl;have M0:cap<=9223372036854775807:=F.bound;have T0:q2B L n<=cap:=F.fits;have a0:Hd ((q0z L).flatten.length<=40):=η (by rw[q1v];exact V2.o)
 have B0:Hd (∀k,∀x∈(q0z L).getD k [],0<=x/\x<=1000000):=η (by
  intro k x C;rw[q6K] at C;have r0:x∈L.flatten:=by
   rcases Nat.lt_or_ge k L.length with h|h
   ·rw[δ,γ h] at C
    exact List.mem_flatten.2 ⟨_,List.getElem_mem h,C⟩
   ·rw[q9V _ _ _ h] at C;cases C
  have:=V3.o x r0;have:=x0.o x r0
  omega)
 clear F hT e0 e1 e2 e3;generalize q2B L n=m at*;generalize q0z L=T at*;go_wp2_with fail;refine q0D (by kernel_rfl) (by kernel_rfl) ?_
 repeat (go_big_quiet_step (first|exact Calls.quiet_ext (z4u _ _ 4 _ (by decide) (by omega) (by omega) (by omega) (by omega))|exact Calls.quiet_ext (z4u _ _ 8 _ (by decide) (by omega) (by omega) (by omega) (by omega))|exact Calls.quiet_ext (y2J _ _ 1 _ (by decide) (by omega) (by omega) (by omega))))
 refine wpQuiet_nil ?_;intro w3 W;have s0:=η (D.o.trans W);have u0:=η (Z.o.ext W);have n0:(({data:=#[105,109,97,112]}++{data:=(be 4 nx.toNat).toArray}++{data:=(be 4 ck.toNat).toArray}++{data:=(be 8 sd.toNat).toArray}++{data:=(be 1 m).toArray}):ByteArray)=⟨(q2o nx ck sd m++((T.take 0).map q0x).flatten).toArray⟩:=by
  rw[q.o];have e0:({data:=#[105,109,97,112]}:ByteArray)=⟨([105,109,97,112]:List UInt8).toArray⟩:=rfl;rw[e0,ByteArray.mk_append_mk,ByteArray.mk_append_mk,ByteArray.mk_append_mk,ByteArray.mk_append_mk];simp
 have A0:=η n0;have l0:=q7W T;have K0:=η l0;have g0: ∀k,(q2o nx ck sd m++((T.take k).map q0x).flatten).length<=300:=by
  intro k;rw[θ,q8K,q7W];have h1:(T.take k).length<=T.length:=by simp;omega
  have h2:=q2N T k;have h3:=a0.o;have h4:=E.o;omega
 have Y:=η g0;clear W n0 l0 g0 D Z q f0 f1 f2 j0 k0 I0 H0;go_wp2_with fail
 go_loopw [5,37] (fun s i w'=> ∃k:Nat,k<=m/\i= .int .i64 k/\s= .string ⟨(q2o nx ck sd m++((T.take k).map q0x).flatten).toArray⟩/\Ext w3 w') (fun _ i _=>m-(intOf i).toNat)
 case atStart=>exact⟨0,υ _,rfl,by rw[A0.o],Ext.refl _⟩
 case round =>
  obtain⟨k,hk,rfl,rfl,G⟩:=hrel;have Hb:=η G;clear G;by_cases J:k<m
  ·obtain⟨b,off,ai,l,ci,rfl,c1,r1⟩:=(u0.o.ext Hb.o).at J
   have F0:k<T.length:=by have:=E.o;omega
   have u:=q5e q0x T [] k F0;have y: ∀x∈T.getD k [],0<=x/\x<=1000000:=B0.o k;have P0:=Y.o k;have R0:(T.getD k []).length<=40:=by have:=q8M T k;have:=a0.o;omega
   generalize T.getD k []=R at*;generalize hP:q2o nx ck sd m++((T.take k).map q0x).flatten=P at*;have y0:Hd (q2o nx ck sd m++((T.take (k+1)).map q0x).flatten=P++q0x R):=η (by rw[u,<-List.append_assoc,hP]);have R1:=η r1;have g1:=r1.fits;have g2:=r1.bound;have g3:=r1.len;have O0:l<=40:=by omega
   have HR:=η y;have G3:=η g3;clear r1 u hP y g3;go_wp2_with fail;have hc:=q7g (l:Int) 1 wr (by omega) (by omega) (by omega) (by omega);rw[Int.toNat_natCast] at hc;refine hc.mono ?_;clear hc;rintro e w4 ⟨rfl,I⟩;have t0:=η (Hb.o.trans I);have C0:=η (R1.o.ext I);clear I;have U:(({data:=P.toArray}++{data:=(be 1 l).toArray}):ByteArray)=⟨(P++(be 1 l++((R.take 0).map fun x=>be 4 x.toNat).flatten)).toArray⟩:=by
    rw[ByteArray.mk_append_mk];simp
   have z0:=η U;clear U;have D0:=q0G 1 l;go_wp2_with fail
   go_loopw [5,49] (fun s i w'=> ∃j:Nat,j<=l/\i= .int .i64 j/\s= .string ⟨(P++(be 1 l++((R.take j).map fun x=>be 4 x.toNat).flatten)).toArray⟩/\Ext w4 w') (fun _ i _=>l-(intOf i).toNat)
   case atStart=>exact⟨0,υ _,rfl,by rw[z0.o],Ext.refl _⟩
   case round=>
    obtain⟨j,hj,rfl,rfl,c0⟩:=hrel;have S:=η c0;clear c0;by_cases E0:j<l
    ·obtain⟨b',J0,rfl,d1⟩:=(C0.o.ext S.o).at E0
     have h0:j<R.length:=by have:=G3.o;omega
     have m0:=q5e (fun x:Int=>be 4 x.toNat) R 0 j h0;have C:=HR.o _ (q3w R j h0);have Q0:(P++(be 1 l++((R.take j).map fun x=>be 4 x.toNat).flatten)).length<=500:=by
      rw[θ,θ,D0,q6S];have:=List.length_take_le j R;omega
     generalize R.getD j 0=X at*;have HQ:Hd (P++(be 1 l++((R.take (j+1)).map fun x=>be 4 x.toNat).flatten)=(P++(be 1 l++((R.take j).map fun x=>be 4 x.toNat).flatten))++be 4 X.toNat):=η (by rw[m0];simp);generalize P++(be 1 l++((R.take j).map fun x=>be 4 x.toNat).flatten)=Q at*;obtain⟨x1,x2⟩:=C;clear m0;go_wp2_with fail;refine(q7g X 4 _ (by omega) (by omega) (by omega) (by omega)).mono ?_;rintro e w5 ⟨rfl,r⟩;have N:=η (S.o.trans r);have I:=q0G 4 X.toNat;clear r;go_wp2_with fail
     go_roundw
     case rel=>exact⟨j+1,by omega,by go_num,by rw[HQ.o,<-ByteArray.mk_append_mk],N.o⟩
     case measure=>simp[intOf];omega
    ·have i0:R.take j=R:=Δ (by have:=G3.o;omega)
     have v0:=η i0;clear i0;go_wp2_with fail
     go_roundw
     case rel=>exact⟨k+1,by omega,by go_num,by rw[y0.o,v0.o];unfold q0x;rw[G3.o],t0.o.trans S.o⟩
     case measure=>simp[intOf];omega
  ·have G0:k=m:=by omega
   have b0:T.take k=T:=Δ (by have:=E.o;omega);have d:q2o nx ck sd m++((T.take k).map q0x).flatten=q2E nx ck sd L:=by rw[O.o,E.o,b0]
   rw[d];have L0:(q2E nx ck sd L).length<=300:=by have:=Y.o k;rwa [d] at this
   clear d G0 b0;go_wp2_with fail;refine(z3q _ _ (by omega)).mono ?_;rintro e w6 ⟨rfl,r⟩;have N:=η (Hb.o.trans r);clear r;go_wp2_with fail;go_ret2;exact⟨by rw[HV.o];rfl,(q0B _ _).trans (s0.o.trans N.o)⟩
theorem q3g(h:Ext w w'){a:Addr}{u:Value}(hc:w.cell? a=some u)(b:w.frozen? a=false):w'.frozen? a=false:=
 (h.frozen (World.block_lt_of_cell? (h:=hc))).trans b
theorem Own.setBelow{size:Nat}{cs:List Value}(h:Own w B e size v n cs)(d:g<B)(k:Nat)(u:Value):Own (w.setCell ⟨g,k,none⟩ u) B e size v n cs:=
 h.setOther u fun b=>by have:=(h.lt _ b).1;simp at this;omega
theorem OGr.setBelow(h:OGr w B tO tI v vs L)(b:g<B)(k:Nat)(u:Value):OGr (w.setCell ⟨g,k,none⟩ u) B tO tI v vs L:=
 ⟨h.own.setBelow b k u,fun i=>(h.row i).setBelow b k u,h.sep⟩
theorem y0x(l:List UInt8)(ok:Bool)(g:Nat)(k:Int)(w:World)(i:w.cell? ⟨g,0,none⟩=some (.string ⟨l.toArray⟩))(j:w.cell? ⟨g,1,none⟩=some (.bool ok))(q:w.frozen? ⟨g,0,none⟩=false)(r:w.frozen? ⟨g,1,none⟩=false)(d:l.length<=9223372036854775807)(b:0<=k)(o:(l.length:Int)<k):
  Calls Tryz.prog 311 #[.pointer (some ⟨g,0,none⟩),.int .i64 k] w fun e w'=>e= .returned (.int .u64 0)/\w'=(w.setCell ⟨g,0,none⟩ (.string ⟨#[]⟩)).setCell ⟨g,1,none⟩ (.bool false):=by
 go_enter Tryz.func311,Tryz.ntmps311;go_wp2_with fail;go_ret;exact⟨rfl,rfl⟩
theorem z9L(l:List UInt8)(g:Nat)(k:Nat)(w:World)(i:w.cell? ⟨g,0,none⟩=some (.string ⟨l.toArray⟩))(u:w.frozen? ⟨g,0,none⟩=false)(s:l.length<=9223372036854775807)(C:k<=l.length)(y:k<=8):
  Calls Tryz.prog 311 #[.pointer (some ⟨g,0,none⟩),.int .i64 k] w fun e w'=>e= .returned (.int .u64 (q1N (l.take k)))/\ ∃w1,Ext w w1/\w'=w1.setCell ⟨g,0,none⟩ (.string ⟨(l.drop k).toArray⟩):=by
 go_enter Tryz.func311,Tryz.ntmps311;have d:(l.take k).length<=9223372036854775807:=by simp;omega
 have j:(l.take k).take 8=l.take k:=by rw[List.take_take];congr 1;omega
 have r:=η j;clear j;go_wp2_with fail;refine(q9W _ _ d).mono ?_;rw[r.o];rintro e w1 ⟨rfl,b⟩;have x:=q0A b i;have D:=q3g b i u;have q:=η b;clear b;go_wp2_with fail;go_ret;exact⟨rfl,w1,q.o,rfl⟩
structure Off(g:Nat)(w w':World):Prop where
 os:w'.os=w.os
 tape:w'.tape=w.tape
 output:w'.output=w.output
 size:w.heap.size<=w'.heap.size
 block: ∀i,i<w.heap.size->i≠g->w'.heap[i]? =w.heap[i]?
theorem Off.refl(g:Nat)(w:World):Off g w w:=⟨rfl,rfl,rfl,ι _,fun _ _ _=>rfl⟩
theorem Off.trans{a b c:World}(h:Off g a b)(k:Off g b c):Off g a c:=
 ⟨k.os.trans h.os,k.tape.trans h.tape,k.output.trans h.output,Ω h.size k.size,fun i d j=>(k.block i (Ψ d h.size) j).trans (h.block i d j)⟩
theorem Off.of_ext(h:Ext w w'):Off g w w':=⟨h.os,h.tape,h.output,h.size,fun i b _=>h.block i b⟩
theorem Off.set(w:World)(k:Nat)(u:Value):Off g w (w.setCell ⟨g,k,none⟩ u):=
 ⟨rfl,rfl,rfl,by simp[World.setCell],fun i _ b=>Below.heap_setCell _ _ _ _ b⟩
theorem Off.ext(h:Ext w0 w)(d:w0.heap.size<=g)(k:Off g w w'):Ext w0 w':=
 ⟨k.os.trans h.os,k.tape.trans h.tape,k.output.trans h.output,Ω h.size k.size,fun i b=>(k.block i (Ψ b h.size) (by omega)).trans (h.block i b)⟩
theorem Off.below(h:Below B w0 w)(d:B<=g)(j:B<=w.heap.size)(k:Off g w w'):Below B w0 w':=
 ⟨k.os.trans h.os,k.tape.trans h.tape,k.output.trans h.output,Ω h.size k.size,fun i b=>(k.block i (by omega) (by omega)).trans (h.block i b)⟩
theorem Off.own{size:Nat}{cs:List Value}(h:Own w B e size v n cs)(d:g<B)(k:Off g w w'):Own w' B e size v n cs:=
 h.same fun i b=>k.block i (h.lt i b).2 (by have:=(h.lt i b).1;omega)
theorem Off.ogr(h:OGr w B tO tI v vs L)(b:g<B)(k:Off g w w'):OGr w' B tO tI v vs L:=
 ⟨Off.own h.own b k,fun i=>Off.own (h.row i) b k,h.sep⟩
theorem Off.grown{size:Nat}{o:List Value}(h:Off g w0 w)(d:Own w B e size v n o)(b:w.grownBy w' v.ownBlock)(q:w0.heap.size<=B):Off g w0 w':=
 ⟨b.os.trans h.os,b.tape.trans h.tape,b.output.trans h.output,Ω h.size b.size,fun i j l=>(b.block i (Ψ j h.size) (fun e=>by have:=(d.lt i e.symm).1;omega)).trans (h.block i j l)⟩
def Rdr(w:World)(g:Nat)(s:List UInt8)(ok:Bool):Prop:=w.heap[g]? =some (.cells #[.string ⟨s.toArray⟩,.bool ok] 386 (0,0))
theorem Rdr.c0{s:List UInt8}{ok:Bool}(h:Rdr w g s ok):w.cell? ⟨g,0,none⟩=some (.string ⟨s.toArray⟩):=by unfold Rdr at h;simp[World.cell?,h]
theorem Rdr.c1{s:List UInt8}{ok:Bool}(h:Rdr w g s ok):w.cell? ⟨g,1,none⟩=some (.bool ok):=by unfold Rdr at h;simp[World.cell?,h]
theorem Rdr.z0{s:List UInt8}{ok:Bool}(h:Rdr w g s ok):w.frozen? ⟨g,0,none⟩=false:=by unfold Rdr at h;simp[World.frozen?,h]
theorem Rdr.z1{s:List UInt8}{ok:Bool}(h:Rdr w g s ok):w.frozen? ⟨g,1,none⟩=false:=by unfold Rdr at h;simp[World.frozen?,h]
theorem Rdr.same{s:List UInt8}{ok:Bool}(h:Rdr w g s ok)(k:w'.heap[g]? =w.heap[g]?):Rdr w' g s ok:=k.trans h
theorem Rdr.lt{s:List UInt8}{ok:Bool}(h:Rdr w g s ok):g<w.heap.size:=World.block_lt_of_cell? (h:=h.c0)
theorem Rdr.ext{s:List UInt8}{ok:Bool}(h:Rdr w g s ok)(k:Ext w w'):Rdr w' g s ok:=h.same (k.block g h.lt)
def q3T(k:Nat)(s:List UInt8):Nat:=if s.length<k then 0 else q1N (s.take k)
def q2A(k:Nat)(s:List UInt8):List UInt8:=if s.length<k then [] else s.drop k
def q3O(k:Nat)(s:List UInt8)(ok:Bool):Bool:=if s.length<k then false else ok
theorem q8z(l:List UInt8)(ok:Bool)(g k:Nat)(N:Int)(w:World)(q:N=(k:Int))(h:Rdr w g l ok)(j:l.length<=9223372036854775807)(o:k<=8):
  Calls Tryz.prog 311 #[.pointer (some ⟨g,0,none⟩),.int .i64 N] w fun e w'=>e= .returned (.int .u64 (q3T k l))/\Rdr w' g (q2A k l) (q3O k l ok)/\Off g w w':=by
 subst q;by_cases b:l.length<k
 ·refine(y0x l ok g k w h.c0 h.c1 h.z0 h.z1 j (by omega) (by omega)).mono ?_
  rintro e w' ⟨rfl,rfl⟩;refine⟨by unfold q3T;rw[ξ b];rfl,?_,(Off.set _ _ _).trans (Off.set _ _ _)⟩;unfold q2A q3O Rdr;rw[ξ b,ξ b];unfold Rdr at h;simp[World.setCell,Array.getElem?_modify,h]
 ·refine(z9L l g k w h.c0 h.z0 j (by omega) o).mono ?_
  rintro e w' ⟨rfl,w1,i,rfl⟩;have d:=h.ext i;refine⟨by unfold q3T;rw[κ b],?_,(Off.of_ext i).trans (Off.set _ _ _)⟩;unfold q2A q3O Rdr;rw[κ b,κ b];unfold Rdr at d;simp[World.setCell,Array.getElem?_modify,d]
def z1v :Nat->List UInt8->Bool->List Int->List Int×List UInt8×Bool
 |0,s,ok,acc=>(acc,s,ok)
 |i+1,s,ok,acc=>if ok then z1v i (q2A 4 s) (q3O 4 s ok) (acc++[(q3T 4 s:Int)]) else(acc,s,ok)
def q4I :Nat->List UInt8->Bool->List (List Int)->List (List Int)×List UInt8×Bool
 |0,s,ok,acc=>(acc,s,ok)
 |k+1,s,ok,acc=>if ok then q4I k (z1v (q3T 1 s) (q2A 1 s) (q3O 1 s ok) []).2.1 (z1v (q3T 1 s) (q2A 1 s) (q3O 1 s ok) []).2.2 (acc++[(z1v (q3T 1 s) (q2A 1 s) (q3O 1 s ok) []).1]) else(acc,s,ok)
theorem q4o(k:Nat)(s:List UInt8):q3T k s<256^k:=by
 unfold q3T
 split
 ·exact Nat.pow_pos (by decide)
 ·have:=q2G (s.take k)
  rwa [Θ,Nat.min_eq_left (by omega)] at this
theorem q4n(k:Nat)(s:List UInt8):(q2A k s).length<=s.length:=by unfold q2A;split<;>simp
structure q6r where
 nx:Int
 ck:Int
 sd:Int
 L:List (List Int)
 r:List UInt8
 ok:Bool
def q2u(s:List UInt8):q6r:=
 let r0:=s.drop 4
 let r1:=q2A 4 r0;let o1:=q3O 4 r0 true
 let r2:=q2A 4 r1;let o2:=q3O 4 r1 o1
 let r3:=q2A 8 r2;let o3:=q3O 8 r2 o2
 let r4:=q2A 1 r3;let o4:=q3O 1 r3 o3
 let p:=q4I (q3T 1 r3) r4 o4 []
 ⟨q3T 4 r0,q3T 4 r1,q3T 8 r2,p.1,p.2.1,p.2.2⟩
def z6e(x:Int):Prop:=0<=x/\x<4294967296
structure Got where
 nx:Int
 ck:Int
 sd:Int
 L:List (List Int)
 en:Int
def z5R :Got:=⟨0,0,0,[],90⟩
def q3Z(t:List UInt8):Bool:=decide (4<=t.length)&&decide (t.take 4=[105,109,97,112])
def q2R(p:q6r)(s:List UInt8):Bool:=p.ok&&decide (p.r=[])&&q0i p.nx p.ck p.L&&decide ((q3S p.nx p.ck p.sd p.L).1=s)
def q3K(s:List UInt8):Got:=
 if q2F s&&q3Z (q1s s) then(if q2R (q2u (q1s s)) s then⟨(q2u (q1s s)).nx,(q2u (q1s s)).ck,(q2u (q1s s)).sd,(q2u (q1s s)).L,0⟩ else z5R) else z5R
def RetM(w:World)(g:Got)(e:Ending)(w':World):Prop:=
 ∃v vs,e= .returned (.tuple #[.agg #[.int .i64 g.nx,.int .i64 g.ck,.int .u64 g.sd,v],.int .i64 g.en])/\OGr w' w.heap.size 37 3 v vs g.L/\Ext w w'
theorem z3H(h:Ext w w1)(g:Nat)(i:w.heap.size<=g)(a b c d:Value):Ext w ((((w1.setCell ⟨g,0,none⟩ a).setCell ⟨g,1,none⟩ b).setCell ⟨g,2,none⟩ c).setCell ⟨g,3,none⟩ d):=
 Below.setCell (Below.setCell (Below.setCell (Below.setCell h i a) i b) i c) i d
theorem RetM.bad(h:Ext w w1)(g:Nat)(i:w.heap.size<=g)(s:List UInt8)(j:q3K s=z5R)(a b c d:Value):
  RetM w (q3K s) (.returned (.tuple #[.agg #[.int .i64 0,.int .i64 0,.int .u64 0,.slice none 0 0],.int .i64 90])) ((((w1.setCell ⟨g,0,none⟩ a).setCell ⟨g,1,none⟩ b).setCell ⟨g,2,none⟩ c).setCell ⟨g,3,none⟩ d):=by
 rw[j];exact⟨_,_,rfl,OGr.nil _ _ _ _,z3H h g i a b c d⟩
theorem z4K{a b c d:Value}{t:TypeId}(h:Ext (w.alloc (.cells #[a,b,c,d] t)) w1):
  w1.frozen? ⟨w.heap.size,0,none⟩=false/\w1.frozen? ⟨w.heap.size,1,none⟩=false/\w1.frozen? ⟨w.heap.size,2,none⟩=false/\w1.frozen? ⟨w.heap.size,3,none⟩=false:=by
 have k:=z5U (w:=w) (Ext.refl (w.alloc (.cells #[a,b,c,d] t)));exact⟨q3g h k.1 (by simp),q3g h k.2.1 (by simp),q3g h k.2.2.1 (by simp),q3g h k.2.2.2 (by simp)⟩
theorem z8S(h:q3Z t=false):(decide ((t.length:Int)<4)||!(t.take 4==[105,109,97,112]))=true:=by
 unfold q3Z at h;rw[Bool.and_eq_false_iff,decide_eq_false_iff_not,decide_eq_false_iff_not] at h;rw[Bool.or_eq_true,decide_eq_true_iff];rcases h with h|h
 ·left;omega
 ·right;simpa using h
theorem q8b(m:Nat): ∀L:List (List Int),(∀r∈L,r.length<=m)->L.flatten.length<=m*L.length
 |[],_=>by simp
 | r::L,h=>by
  have d:=h r (by simp);have i:=q8b m L fun x b=>h x (by simp[b])
  simp only[List.flatten_cons,θ,χ,Nat.mul_add];omega
def Mbx(w:World)(g:Nat)(a b c:Int)(v:Value):Prop:=w.heap[g]? =some (.cells #[.int .i64 a,.int .i64 b,.int .u64 c,v] 47 (0,0))
theorem Mbx.cs{b:Int}(h:Mbx w g a b c v):w.cell? ⟨g,0,none⟩=some (.int .i64 a)/\w.cell? ⟨g,1,none⟩=some (.int .i64 b)/\w.cell? ⟨g,2,none⟩=some (.int .u64 c)/\w.cell? ⟨g,3,none⟩=some v/\w.frozen? ⟨g,3,none⟩=false:=by
 unfold Mbx at h;simp[World.cell?,World.frozen?,h]
theorem Mbx.same{b:Int}(h:Mbx w g a b c v)(k:w'.heap[g]? =w.heap[g]?):Mbx w' g a b c v:=k.trans h
theorem Mbx.lt{b:Int}(h:Mbx w g a b c v):g<w.heap.size:=World.block_lt_of_cell? (h:=h.cs.1)
theorem Mbx.set{b:Int}(h:Mbx w g a b c v)(u:Value):Mbx (w.setCell ⟨g,3,none⟩ u) g a b c u:=by
 unfold Mbx at h⊢;simp[World.setCell,Array.getElem?_modify,h]
theorem y2X{x:Int}(h:z6e x):(Lit.int .i64 x).wf=true:=by
 obtain⟨i,j⟩:=h;have b:IntKind.i64.min= -9223372036854775808:=rfl;have d:IntKind.i64.max=9223372036854775807:=rfl;simp[Lit.wf];omega
def y0c(r:List Int):Prop:=r.length<=255/\ ∀x∈r,z6e x
theorem q8i{a:Nat}{s b:List UInt8}{ok2:Bool}{row:List Int}(d:q3T 1 s=a)(i:z1v a (q2A 1 s) (q3O 1 s true) []=(row,b,ok2)):
  q4I (m+1) s true acc=q4I m b ok2 (acc++[row]):=by rw[q4I,ξ rfl,d,i]
theorem z8i{s:List UInt8}:q4I m s false acc=(acc,s,false):=by
 cases m with
 |zero=>rfl
 |succ m=>rw[q4I];simp
theorem y0T{s:List UInt8}{acc:List Int}:z1v m s false acc=(acc,s,false):=by
 cases m with
 |zero=>rfl
 |succ m=>rw[z1v];simp
theorem q8p{p:q6r}{s:List UInt8}(h:p.ok=false):q2R p s=false:=by unfold q2R;rw[h];rfl
theorem z6o{p:q6r}{s:List UInt8}(h:p.r≠[]):q2R p s=false:=by unfold q2R;rw[ε h,Bool.and_false];rfl
theorem z6p{p:q6r}{s:List UInt8}(h:q0i p.nx p.ck p.L=false):q2R p s=false:=by unfold q2R;rw[h,Bool.and_false];rfl
theorem z6n{p:q6r}{s:List UInt8}(h:(q3S p.nx p.ck p.sd p.L).1≠s):q2R p s=false:=by unfold q2R;rw[ε h,Bool.and_false]
theorem z0z{p:q6r}{s:List UInt8}(b:p.ok=true)(d:p.r=[])(i:q0i p.nx p.ck p.L=true)(j:(q3S p.nx p.ck p.sd p.L).1=s):q2R p s=true:=by unfold q2R;rw[b,i,ζ d,ζ j];rfl
structure Front(r0:List UInt8)(a1 a2 a3 a4:Nat)(r1 r2 r3 r4:List UInt8)(o1 o2 o3 o4:Bool):Prop where
 A1:q3T 4 r0=a1
 R1:q2A 4 r0=r1
 O1:q3O 4 r0 true=o1
 A2:q3T 4 r1=a2
 R2:q2A 4 r1=r2
 O2:q3O 4 r1 o1=o2
 A3:q3T 8 r2=a3
 R3:q2A 8 r2=r3
 O3:q3O 8 r2 o2=o3
 A4:q3T 1 r3=a4
 R4:q2A 1 r3=r4
 O4:q3O 1 r3 o3=o4
theorem Front.made(b:List UInt8): ∃a1 a2 a3 a4 r1 r2 r3 r4 o1 o2 o3 o4,Front b a1 a2 a3 a4 r1 r2 r3 r4 o1 o2 o3 o4:=⟨_,_,_,_,_,_,_,_,_,_,_,_,⟨rfl,rfl,rfl,rfl,rfl,rfl,rfl,rfl,rfl,rfl,rfl,rfl⟩⟩
theorem Front.parse(h:Front (t.drop 4) a1 a2 a3 a4 r1 r2 r3 r4 o1 o2 o3 o4):
  q2u t=⟨a1,a2,a3,(q4I a4 r4 o4 []).1,(q4I a4 r4 o4 []).2.1,(q4I a4 r4 o4 []).2.2⟩:=by
 obtain⟨rfl,rfl,rfl,rfl,rfl,rfl,rfl,rfl,rfl,rfl,rfl,rfl⟩:=h;rfl
theorem Front.b{d:List UInt8}(h:Front d a1 a2 a3 a4 r1 r2 r3 r4 o1 o2 o3 o4):
  (a1:Int)<4294967296/\(a2:Int)<4294967296/\(a3:Int)<18446744073709551616/\(a4:Int)<256/\r1.length<=d.length/\r2.length<=d.length/\r3.length<=d.length/\r4.length<=d.length:=by
 obtain⟨rfl,rfl,rfl,rfl,rfl,rfl,rfl,rfl,rfl,rfl,rfl,rfl⟩:=h;have i:=q4n 4 d;have j:=q4n 4 (q2A 4 d);have l:=q4n 8 (q2A 4 (q2A 4 d));have o:=q4n 1 (q2A 8 (q2A 4 (q2A 4 d)));refine⟨Int.ofNat_lt.2 (q4o 4 _),Int.ofNat_lt.2 (q4o 4 _),Int.ofNat_lt.2 (q4o 8 _),Int.ofNat_lt.2 (q4o 1 _),?_,?_,?_,?_⟩<;>omega
theorem y1p(s : List UInt8)(w:World)(hl:s.length<=4611686018427387903):
  Calls Tryz.prog 258 #[.string ⟨s.toArray⟩] w (RetM w (q3K s)):=by
 have u0:Hd (q2F s=false->q3K s=z5R):=η (fun h=>by unfold q3K;rw[h];rfl);have v0:Hd (q3Z (q1s s)=false->q3K s=z5R):=η (fun h=>by unfold q3K;rw[h,Bool.and_false];rfl);have x0:Hd (q2R (q2u (q1s s)) s=false->q3K s=z5R):=η (fun h=>by unfold q3K;rw[h];split<;>rfl);have y0:Hd (q2F s=true->q3Z (q1s s)=true->q2R (q2u (q1s s)) s=true->q3K s=⟨(q2u (q1s s)).nx,(q2u (q1s s)).ck,(q2u (q1s s)).sd,(q2u (q1s s)).L,0⟩):=η (fun h1 h2 h3=>by unfold q3K;rw[h1,h2,h3];rfl);have B2:(q1s s).length<=s.length:=by unfold q1s;split<;>simp
 generalize X1:q1s s=t at*;have M1:=η X1;clear X1;go_enter Tryz.func258,Tryz.ntmps258;go_wp2_with fail;refine(z3Y s _ hl).mono ?_;rw[M1.o];rintro e w1 ⟨rfl,hb⟩;obtain⟨d0,d1,d2,d3⟩:=z5U hb;obtain⟨z0,z1,z2,z3⟩:=z4K hb;have HB:=η hb;clear hb;by_cases ho:q2F s=false
 ·have HS:=η (u0.o ho)
  rw[ho];go_wp2_with fail
  ((try simp only[Exit.inBlock,Exit.then]);refine bodyPost_ret (v:= .tuple #[.agg #[_,_,_,_],_]) (by rw[results_cell_tmp rfl];go_simp;exact⟨⟨rfl,rfl,rfl,rfl⟩,rfl⟩) rfl ?_)
  exact RetM.bad ((q0B _ _).trans HB.o) _ (ι _) s HS.o _ _ _ _
 have ho:q2F s=true:=by simpa using ho
 have HO:=η ho;rw[ho];clear ho;by_cases hf:q3Z t=false
 ·have HS:=η (v0.o hf)
  have S0:=z8S hf;clear hf;by_cases h4:t.length<4
  ·clear S0
   go_wp2_with fail
   ((try simp only[Exit.inBlock,Exit.then]);refine bodyPost_ret (v:= .tuple #[.agg #[_,_,_,_],_]) (by rw[results_cell_tmp rfl];go_simp;exact⟨⟨rfl,rfl,rfl,rfl⟩,rfl⟩) rfl ?_)
   exact RetM.bad ((q0B _ _).trans HB.o) _ (ι _) s HS.o _ _ _ _
  ·have J2:(List.take 4 t==[105,109,97,112])=false:=by
    rw[Bool.or_eq_true,decide_eq_true_iff] at S0;rcases S0 with h|h
    ·omega
    ·simpa using h
   clear S0;go_wp2_with fail
   ((try simp only[Exit.inBlock,Exit.then]);refine bodyPost_ret (v:= .tuple #[.agg #[_,_,_,_],_]) (by rw[results_cell_tmp rfl];go_simp;exact⟨⟨rfl,rfl,rfl,rfl⟩,rfl⟩) rfl ?_)
   exact RetM.bad ((q0B _ _).trans HB.o) _ (ι _) s HS.o _ _ _ _
 have hf:q3Z t=true:=by simpa using hf
 have HF:=η hf;have ⟨h4,hf4⟩:4<=t.length/\t.take 4=[105,109,97,112]:=by
  unfold q3Z at hf;rw[Ξ,decide_eq_true_iff,decide_eq_true_iff] at hf;exact hf
 have O0:=η (y0.o HO.o HF.o);have C0:Hd ((t.drop 4).length<=4611686018427387903):=η (by rw[List.length_drop];omega);obtain⟨a1,a2,a3,a4,r1,r2,r3,r4,o1,o2,o3,o4,c2⟩:=Front.made (t.drop 4);have d:=η c2;clear c2;have E:=η (fun h=>x0.o h);have N2:t.length<=4611686018427387903:=by omega
 clear hf y0 u0 v0 x0 B2;have hG:(w.alloc (.cells #[.int .i64 0,.int .i64 0,.int .u64 0,.slice none 0 0] 47)).heap.size<=w1.heap.size:=HB.o.size;have HG:=η hG;clear hG;go_wp2_with fail;have r0:Rdr (w1.alloc (.cells #[.string ⟨(t.drop 4).toArray⟩,.bool true] 386)) w1.heap.size (t.drop 4) true:=heap_alloc_new _ _;refine(q8z (t.drop 4) true _ 4 4 _ rfl r0 (by have:=C0.o;omega) (by decide)).mono ?_;rw[d.o.A1,d.o.R1,d.o.O1];rintro e w2 ⟨rfl,t1,i1⟩;have X0:=η t1;have T1:=η (Off.ext (HB.o.trans (q0B _ _)) HG.o i1);clear r0 t1 i1;have b1:=d.o.b.1;have b2:=d.o.b.2.1;go_wp2_with fail;refine(q8z r1 o1 _ 4 4 _ rfl X0.o (by have:=d.o.b;have:=C0.o;omega) (by decide)).mono ?_;rw[d.o.A2,d.o.R2,d.o.O2];rintro e w3 ⟨rfl,u1,j1⟩;have Y0:=η u1;have U1:=η (Off.ext T1.o HG.o j1);clear u1 j1;go_wp2_with fail;refine(q8z r2 o2 _ 8 8 _ rfl Y0.o (by have:=d.o.b;have:=C0.o;omega) (by decide)).mono ?_;rw[d.o.A3,d.o.R3,d.o.O3];rintro e w4 ⟨rfl,K0,k1⟩;have Z0:=η K0;have V1:=η (Off.ext U1.o HG.o k1);have D2:=K0.lt;clear K0 k1;go_wp2_with fail;have F0:Mbx (w4.alloc (.cells #[.int .i64 a1,.int .i64 a2,.int .u64 a3,.slice none 0 0] 47)) w4.heap.size a1 a2 a3 (.slice none 0 0):=heap_alloc_new _ _;refine(q8z r3 o3 _ 1 1 _ rfl (Z0.o.ext (q0B _ _)) (by have:=d.o.b;have:=C0.o;omega) (by decide)).mono ?_;rw[d.o.A4,d.o.R4,d.o.O4];rintro e w5 ⟨rfl,v1,G0⟩;have A0:=η (F0.same (G0.block _ F0.lt (by omega)));have e1:=η v1;have W1:=η (Off.ext (V1.o.trans (q0B _ _)) HG.o G0);have E2:w4.heap.size<w5.heap.size:=A0.o.lt;have b4:=d.o.b.2.2.2.1;have P1:Hd (r4.length<=4611686018427387903):=η (by have:=d.o.b;have:=C0.o;omega);clear v1 G0 F0 T1 U1 V1 X0 Y0 Z0 M1 hf4 w2 w3;go_wp2_with fail
 go_loopw [9] (fun i w'=> ∃(k:Nat) (s':List UInt8) (s0:Bool) (acc:List (List Int)) (v:Value) (vs:List Value),k<=a4/\i= .int .i64 k/\Rdr w' w1.heap.size s' s0/\q4I (a4-k) s' s0 acc=q4I a4 r4 o4 []/\Mbx w' w4.heap.size a1 a2 a3 v/\OGr w' w5.heap.size 37 3 v vs acc/\acc.length=k/\(∀r∈acc,y0c r)/\s'.length<=4611686018427387903/\w5.heap.size<=w'.heap.size/\Ext (w.alloc (.cells #[.int .i64 0,.int .i64 0,.int .u64 0,.slice none 0 0] 47)) w') (fun i _=>a4-(intOf i).toNat)
 case atStart=>exact⟨0,r4,o4,[],_,[],υ _,rfl,e1.o,rfl,A0.o,OGr.nil _ _ _ _,rfl,by simp,P1.o,ι _,W1.o⟩
 case round =>
  obtain⟨k,s',s0,acc,v,vs,hk,rfl,r0,g1,g2,K1,Y1,N0,i2,j2,hx⟩:=hrel;obtain⟨ao,co,rfl⟩:=K1.own.slice;have R0:=r0.c1;have D1:=η r0;have U:=η g1;have q0:=η g2;have b0:=η K1;have o0:=η Y1;have N:=η N0;have S1:=η i2;have R:=η hx;have G1:=η j2;clear e1 A0 W1 P1;clear r0 g1 g2 K1 Y1 N0 i2 j2 hx;by_cases K2:k<a4
  ·cases s0 with
   | false=>
    have HS:Hd (q3K s=z5R):=η (E.o (q8p (by rw[d.o.parse,<-U.o,z8i])));clear d0 d1 d2 d3 z0 z1 z2 z3 b1 b2;obtain⟨d0,d1,d2,d3⟩:=z5U R.o;obtain⟨z0,z1,z2,z3⟩:=z4K R.o;go_wp2_with fail
    ((try simp only[Exit.inBlock,Exit.then]);refine bodyPost_ret (v:= .tuple #[.agg #[_,_,_,_],_]) (by rw[results_cell_tmp rfl];go_simp;exact⟨⟨rfl,rfl,rfl,rfl⟩,rfl⟩) rfl ?_)
    exact RetM.bad ((q0B _ _).trans R.o) _ (ι _) s HS.o _ _ _ _
   | true =>
    go_wp2_with fail;refine(q8z s' true _ 1 1 _ rfl D1.o (by have:=S1.o;omega) (by decide)).mono ?_;obtain⟨a,ha⟩: ∃x,q3T 1 s'=x:=⟨_,rfl⟩
    have ba:(a:Int)<256:=by have:=q4o 1 s';rw[ha] at this;exact Int.ofNat_lt.2 this
    have HA:=η ha;rw[ha];clear ha;rintro e w6 ⟨rfl,L0,k0⟩;have i0:=η L0;have h0:=η k0;have P0:Hd ((q2A 1 s').length<=4611686018427387903):=η (by have:=q4n 1 s';have:=S1.o;omega);have f2:w1.heap.size<w6.heap.size:=L0.lt;have E1:=η k0.size;have H1:Hd (w5.heap.size<=w6.heap.size):=η (by have:=G1.o;have:=k0.size;omega);clear L0 k0;go_wp2_with fail
    go_loopw [10,11] (fun C2 i w'=> ∃(j:Nat) (S:List UInt8) (ok2:Bool) (row:List Int),j<=a/\i= .int .i64 j/\Rdr w' w1.heap.size S ok2/\z1v j S ok2 row=z1v a (q2A 1 s') (q3O 1 s' true) []/\Own w' w6.heap.size 3 1 C2 row.length (row.map (Value.int .i64))/\row.length+j=a/\(∀x∈row,z6e x)/\S.length<=4611686018427387903/\Off w1.heap.size w6 w') (fun _ i _=>(intOf i).toNat)
    case atStart=>exact⟨a,_,_,[],ι _,rfl,i0.o,rfl,Own.nil _ _ _ _,by simp,by simp,P0.o,Off.refl _ _⟩
    case round =>
     obtain⟨j,S,ok2,row,hj,rfl,M0,E0,I0,L2,q1,y1,l1⟩:=hrel;have Z1:=M0.c1;have O:=η M0;have M:=η E0;have q:=η I0;have B0:=η q1;have j0:=η y1;have W:=η l1;clear M0 E0 I0 q1 y1 l1
     cases j with
     | zero =>
      have HD:Hd (z1v a (q2A 1 s') (q3O 1 s' true) []=(row,S,ok2)):=η (by rw[<-M.o];rfl);have I:=η (h0.o.trans W.o);obtain⟨ai,ci,rfl⟩:=q.o.slice;have F:=η (q0.o.same (I.o.block _ q0.o.lt (by omega)));have m1:=F.o.cs;obtain⟨_,_,_,m3,_⟩:=m1;have Z:=(Off.ogr b0.o (show w1.heap.size<w5.heap.size by omega) I.o).ext (q0B _ (.cells #[.slice ai row.length ci] 37));have C:=η Z;clear Z;have J1:acc.length<=255:=by have:=o0.o;omega
      have f0:=η q.o;have X:=η O.o;clear q O M P0 W i0 h0 d0 d1 d2 d3 z0 z1 z2 z3 b1 b2 Z1 R0;have v2:w5.heap.size<=wr.heap.size:=by have:=G1.o;have:=I.o.size;omega
      go_wp2_with (at_builtin;refine q0m rfl _ _ 45 rfl w5.heap.size 37 _ 1 24 Tryz.underlying45 Tryz.infoInts rfl (by decide) _ _ _ rfl C.o.own _ _ _ [.slice ai row.length ci] rfl rfl (fun h=>by cases h) (Rd.lit _ _ _) (by intro u hu;rw[List.mem_singleton.1 hu];rfl) (by omega) (by omega) (by simp;omega) ?_;intro v' w8 D hg _;obtain⟨ap,cp,rfl⟩:=D.slice;have V:=η ((F.o.same ((q0B _ _).block _ F.o.lt)).same (hg.block _ (by have:=F.o.lt;simp;omega) (by intro e;have:=(C.o.own.lt _ e.symm).1;omega)));have ⟨_,_,_,m4,m5⟩:=V.o.cs)
      have J:Rdr w8 w1.heap.size S ok2:=(X.o.ext (q0B _ _)).same (hg.block _ (by have:=X.o.lt;simp;omega) (by intro e;have:=(C.o.own.lt _ e.symm).1;omega));have G:=q1c ((Off.below R.o HG.o R.o.size I.o).alloc (Ω R.o.size I.o.size) (.cells #[.slice ai row.length ci] 37)) (C.o.own.base (by have:=HG.o;omega)) hg (Ω R.o.size (Ω I.o.size (q0B _ _).size));have Y:=C.o.push (l:=row) (by decide) (f0.o.ext ((Ext.refl _).alloc _)) (show w5.heap.size<=w6.heap.size from H1.o) (fun j g hh=>Ψ (b0.o.lt j g hh) E1.o) D hg;have Q:=η J;have t0:=η (Below.setCell G (p:=⟨w4.heap.size,3,none⟩) (by have:=HG.o;show _<=w4.heap.size;omega) (.slice ap (acc.length+1) cp));have p0:=η Y;have a0:=hg.size;have F1:Hd (w5.heap.size<=w8.heap.size):=η (by simp at a0;omega);clear J G Y D hg a0;go_wp2_with fail
      go_roundw
      case rel=>
       refine⟨k+1,S,ok2,acc++[row],.slice ap (acc.length+1) cp,vs++[.slice ai row.length ci],by omega,by go_num,Q.o.same (Below.heap_setCell _ _ _ _ (show w1.heap.size≠w4.heap.size by omega)),?_,V.o.set _,p0.o.setBelow (by omega) _ _,by rw[θ,o0.o];rfl,?_,j0.o,Ω F1.o (Off.set (g:=w4.heap.size) w8 3 _).size,t0.o⟩
       ·rw[<-U.o]
        have e:a4-k=(a4-(k+1))+1:=by omega
        rw[e,q8i HA.o HD.o]
       ·intro r hr
        rw[List.mem_append,Γ] at hr;rcases hr with hr|rfl
        ·exact N.o r hr
        ·exact⟨by omega,B0.o⟩
      case measure=>simp[intOf];omega
     | succ j =>
      cases ok2 with
      | false =>
        have HD:Hd (z1v a (q2A 1 s') (q3O 1 s' true) []=(row,S,false)):=η (by rw[<-M.o];exact y0T);have I:=η (h0.o.trans W.o);obtain⟨ai,ci,rfl⟩:=q.o.slice;have F:=η (q0.o.same (I.o.block _ q0.o.lt (by omega)));have m1:=F.o.cs;obtain⟨_,_,_,m3,_⟩:=m1;have Z:=(Off.ogr b0.o (show w1.heap.size<w5.heap.size by omega) I.o).ext (q0B _ (.cells #[.slice ai row.length ci] 37));have C:=η Z;clear Z;have J1:acc.length<=255:=by have:=o0.o;omega
        have f0:=η q.o;have X:=η O.o;clear q O M P0 W i0 h0 d0 d1 d2 d3 z0 z1 z2 z3 b1 b2 R0;have y2:(0:Int)<(j:Int)+1:=by omega
        have v2:w5.heap.size<=wr.heap.size:=by have:=G1.o;have:=I.o.size;omega
        go_wp2_with (at_builtin;refine q0m rfl _ _ 45 rfl w5.heap.size 37 _ 1 24 Tryz.underlying45 Tryz.infoInts rfl (by decide) _ _ _ rfl C.o.own _ _ _ [.slice ai row.length ci] rfl rfl (fun h=>by cases h) (Rd.lit _ _ _) (by intro u hu;rw[List.mem_singleton.1 hu];rfl) (by omega) (by omega) (by simp;omega) ?_;intro v' w8 D hg _;obtain⟨ap,cp,rfl⟩:=D.slice;have V:=η ((F.o.same ((q0B _ _).block _ F.o.lt)).same (hg.block _ (by have:=F.o.lt;simp;omega) (by intro e;have:=(C.o.own.lt _ e.symm).1;omega)));have ⟨_,_,_,m4,m5⟩:=V.o.cs)
        have J:Rdr w8 w1.heap.size S false:=(X.o.ext (q0B _ _)).same (hg.block _ (by have:=X.o.lt;simp;omega) (by intro e;have:=(C.o.own.lt _ e.symm).1;omega));have G:=q1c ((Off.below R.o HG.o R.o.size I.o).alloc (Ω R.o.size I.o.size) (.cells #[.slice ai row.length ci] 37)) (C.o.own.base (by have:=HG.o;omega)) hg (Ω R.o.size (Ω I.o.size (q0B _ _).size));have Y:=C.o.push (l:=row) (by decide) (f0.o.ext ((Ext.refl _).alloc _)) (show w5.heap.size<=w6.heap.size from H1.o) (fun j g hh=>Ψ (b0.o.lt j g hh) E1.o) D hg;have Q:=η J;have t0:=η (Below.setCell G (p:=⟨w4.heap.size,3,none⟩) (by have:=HG.o;show _<=w4.heap.size;omega) (.slice ap (acc.length+1) cp));have p0:=η Y;have a0:=hg.size;have F1:Hd (w5.heap.size<=w8.heap.size):=η (by simp at a0;omega);clear J G Y D hg a0;go_wp2_with fail
        go_roundw
        case rel=>
         refine⟨k+1,S,false,acc++[row],.slice ap (acc.length+1) cp,vs++[.slice ai row.length ci],by omega,by go_num,Q.o.same (Below.heap_setCell _ _ _ _ (show w1.heap.size≠w4.heap.size by omega)),?_,V.o.set _,p0.o.setBelow (by omega) _ _,by rw[θ,o0.o];rfl,?_,j0.o,Ω F1.o (Off.set (g:=w4.heap.size) w8 3 _).size,t0.o⟩
         ·rw[<-U.o]
          have e:a4-k=(a4-(k+1))+1:=by omega
          rw[e,q8i HA.o HD.o]
         ·intro r hr
          rw[List.mem_append,Γ] at hr;rcases hr with hr|rfl
          ·exact N.o r hr
          ·exact⟨by omega,B0.o⟩
        case measure=>simp[intOf];omega
      | true =>
       obtain⟨ai,ci,rfl⟩:=q.o.slice;have G2:row.length<=255:=by omega
       have y2:(0:Int)<(j:Int)+1:=by omega
       clear i0 P0 E1 H1 q0 b0 D1 N d0 d1 d2 d3 z0 z1 z2 z3 b1 b2 R0;go_wp2_with fail;refine(q8z S true _ 4 4 _ rfl O.o (by have:=j0.o;omega) (by decide)).mono ?_;obtain⟨x,U0⟩: ∃x,q3T 4 S=x:=⟨_,rfl⟩
       have bx:(x:Int)<4294967296:=by have:=q4o 4 S;rw[U0] at this;exact Int.ofNat_lt.2 this
       have u2:=η U0;rw[U0];clear U0;rintro e w8 ⟨rfl,J,H0⟩;have Q:=η J;have V0:=η (W.o.trans H0);have e0:=η ((Off.own q.o f2 H0).ext (q0B _ (.cells #[.int .i64 x] 3)));have a0:=V0.o.size;clear J H0 O q Z1
       go_wp2_with (at_builtin;refine q0m rfl _ _ 37 rfl w6.heap.size 3 _ 1 8 Tryz.underlying37 Tryz.infoInt rfl (by decide) _ _ _ rfl e0.o _ _ _ [.int .i64 x] rfl rfl (fun h=>by cases h) (Rd.lit _ _ _) (by intro u hu;rw[List.mem_singleton.1 hu];rfl) (by omega) (by omega) (Ω a0 (q0B _ _).size) ?_;intro v' w9 J0 I1 _)
       have x1:Rdr w9 w1.heap.size (q2A 4 S) (q3O 4 S true):=(Q.o.ext (q0B _ _)).same (I1.block _ (by have:=Q.o.lt;simp;omega) (by intro e;have:=(e0.o.lt _ e.symm).1;omega));have p1:=Off.grown (V0.o.trans (Off.of_ext (q0B _ _))) e0.o I1 (ι _);have l0:Own w9 w6.heap.size 3 1 v' (row++[(x:Int)]).length ((row++[(x:Int)]).map (Value.int .i64)):=by rw[θ,List.map_append];exact J0
       have Q1:=η x1;have N1:=η p1;have C1:=η l0;clear x1 p1 l0 J0 I1 a0;go_wp2_with fail
       go_roundw
       case rel=>
        refine⟨j,q2A 4 S,q3O 4 S true,row++[(x:Int)],by omega,by go_num,Q1.o,?_,C1.o,by simp;omega,?_,by have:=q4n 4 S;have:=j0.o;omega,N1.o⟩
        ·rw[<-M.o,z1v,ξ rfl,u2.o]
        ·intro y hy
         rw[List.mem_append,Γ] at hy;rcases hy with hy|rfl
         ·exact B0.o y hy
         ·exact⟨by omega,bx⟩
       case measure=>simp[intOf]
  ·have e2:k=a4:=by omega
   have HE:Hd (q2u t=⟨a1,a2,a3,acc,s',s0⟩):=η (by rw[d.o.parse,<-U.o,e2,Nat.sub_self];rfl);clear e2;clear d0 d1 d2 d3 z0 z1 z2 z3 b1 b2
   cases s0 with
   | false=>
    have HS:Hd (q3K s=z5R):=η (E.o (q8p (by rw[HE.o])));obtain⟨d0,d1,d2,d3⟩:=z5U R.o;obtain⟨z0,z1,z2,z3⟩:=z4K R.o;go_wp2_with fail
    ((try simp only[Exit.inBlock,Exit.then]);refine bodyPost_ret (v:= .tuple #[.agg #[_,_,_,_],_]) (by rw[results_cell_tmp rfl];go_simp;exact⟨⟨rfl,rfl,rfl,rfl⟩,rfl⟩) rfl ?_)
    exact RetM.bad ((q0B _ _).trans R.o) _ (ι _) s HS.o _ _ _ _
   | true =>
    have x2:=D1.o.c0;obtain⟨m0,m1,m2,m3,_⟩:=q0.o.cs;by_cases hs:s'=[]
    ·subst hs
     obtain⟨H2,I2,he,Y⟩:=b0.o.grid
     cases he;have B1:acc.flatten.length<=17592186044416:=by have:=q8b 255 acc fun r hr=>(N.o r hr).1;have:=o0.o;omega
     have s1: ∀x∈acc.flatten,z6e x:=fun x hx=>by obtain⟨r,h1,h2⟩:=List.mem_flatten.1 hx;exact(N.o r h1).2 x h2
     have p0:=η Y;have f1:=η B1;have W0:=η s1;have B3:=η d.o.b.2.2.1;clear U o0 Y B1 s1;go_wp2_with fail;refine(q9h a1 a2 a3 _ _ _ acc _ p0.o f1.o (fun x hx=>y2X (W0.o x hx))).mono ?_;rintro e w8 ⟨rfl,G⟩;have D0:=η (R.o.trans G);have L1:=η (p0.o.ext G);have t0:=η G;have k2:=q0A G m0;have l2:=q0A G m1;have p2:=q0A G m2;have q2:=q0A G m3;clear G m0 m1 m2 m3 x2 R0;by_cases hv:q0i a1 a2 acc=false
     ·have HS:Hd (q3K s=z5R):=η (E.o (z6p (by rw[HE.o];exact hv)))
      rw[hv];obtain⟨d0,d1,d2,d3⟩:=z5U D0.o;obtain⟨z0,z1,z2,z3⟩:=z4K D0.o;go_wp2_with fail
      ((try simp only[Exit.inBlock,Exit.then]);refine bodyPost_ret (v:= .tuple #[.agg #[_,_,_,_],_]) (by rw[results_cell_tmp rfl];go_simp;exact⟨⟨rfl,rfl,rfl,rfl⟩,rfl⟩) rfl ?_)
      exact RetM.bad ((q0B _ _).trans D0.o) _ (ι _) s HS.o _ _ _ _
     have hv:q0i a1 a2 acc=true:=by simpa using hv
     have HV:=η hv;rw[hv];clear hv;go_wp2_with fail;refine(y1u a1 a2 a3 _ _ _ acc _ L1.o f1.o (fun x hx=>y2X (W0.o x hx)) (by omega) B3.o).mono ?_;obtain⟨P,hP⟩: ∃P,q3S a1 a2 a3 acc=(P,0):=⟨_,by unfold q3S;rw[HV.o];rfl⟩
     have HP:=η hP;rw[hP];clear hP;rintro e w9 ⟨rfl,g0⟩;have Q0:=η (D0.o.trans g0);have t2:=η (t0.o.trans g0);have n0:=q0A g0 k2;have n1:=q0A g0 l2;have n2:=q0A g0 p2;have n3:=q0A g0 q2;obtain⟨d0,d1,d2,d3⟩:=z5U Q0.o;obtain⟨z0,z1,z2,z3⟩:=z4K Q0.o;clear g0 k2 l2 p2 q2 L1 D0;by_cases T0:P=s
     ·have HS:Hd (q3K s=⟨a1,a2,a3,acc,0⟩):=η (by rw[O0.o (z0z (by rw[HE.o]) (by rw[HE.o]) (by rw[HE.o];exact HV.o) (by rw[HE.o];show(q3S a1 a2 a3 acc).1=s;rw[HP.o];exact T0)),HE.o])
      subst T0;go_wp2_with fail
      ((try simp only[Exit.inBlock,Exit.then]);refine bodyPost_ret (v:= .tuple #[.agg #[_,_,_,_],_]) (by rw[results_cell_tmp rfl];go_simp;exact⟨⟨rfl,rfl,rfl,rfl⟩,rfl⟩) rfl ?_)
      have hw:w.heap.size<w5.heap.size:=by have:=HG.o;simp at this;omega
      rw[HS.o];exact⟨.slice ao acc.length co,vs,rfl,((((b0.o.ext t2.o).setBelow hw _ _).setBelow hw _ _).setBelow hw _ _|>.setBelow hw _ _).base (by omega),z3H ((q0B _ _).trans Q0.o) _ (ι _) _ _ _ _⟩
     ·have HS:Hd (q3K s=z5R):=η (E.o (z6n (by rw[HE.o];show(q3S a1 a2 a3 acc).1≠s;rw[HP.o];exact T0)))
      have F2:(P==s)=false:=by simpa using T0
      go_wp2_with fail
      ((try simp only[Exit.inBlock,Exit.then]);refine bodyPost_ret (v:= .tuple #[.agg #[_,_,_,_],_]) (by rw[results_cell_tmp rfl];go_simp;exact⟨⟨rfl,rfl,rfl,rfl⟩,rfl⟩) rfl ?_)
      exact RetM.bad ((q0B _ _).trans Q0.o) _ (ι _) s HS.o _ _ _ _
    ·have HS:Hd (q3K s=z5R):=η (E.o (z6o (by rw[HE.o];exact hs)))
     have M2:(s'==[])=false:=by simpa using hs
     obtain⟨d0,d1,d2,d3⟩:=z5U R.o;obtain⟨z0,z1,z2,z3⟩:=z4K R.o;go_wp2_with fail
     ((try simp only[Exit.inBlock,Exit.then]);refine bodyPost_ret (v:= .tuple #[.agg #[_,_,_,_],_]) (by rw[results_cell_tmp rfl];go_simp;exact⟨⟨rfl,rfl,rfl,rfl⟩,rfl⟩) rfl ?_)
     exact RetM.bad ((q0B _ _).trans R.o) _ (ι _) s HS.o _ _ _ _
end
section
theorem q6I(k x:Nat)(r:List UInt8)(h:x<256^k):q3T k (be k x++r)=x/\q2A k (be k x++r)=r/\ ∀ok,q3O k (be k x++r) ok=ok:=by
 have b:¬(be k x++r).length<k:=by simp[q0G]
 refine⟨?_,?_,fun ok=>?_⟩
 ·unfold q3T
  rw[κ b,List.take_left' (q0G k x),q5K,Nat.mod_eq_of_lt h]
 ·unfold q2A
  rw[κ b,List.drop_left' (q0G k x)]
 ·unfold q3O
  rw[κ b]
def b4(x:Int):List UInt8:=be 4 x.toNat
theorem z3R : ∀(l:List Int) (r:List UInt8) (acc:List Int),(∀x∈l,z6e x)->z1v l.length ((l.map b4).flatten++r) true acc=(acc++l,r,true)
 |[],r,acc,_=>by simp[z1v]
 | x::l,r,acc,h=>by
  have i:=h x (by simp);obtain⟨d,o⟩:=i;have b:=q6I 4 x.toNat ((l.map b4).flatten++r) (by omega);have e:((x::l).map b4).flatten++r=be 4 x.toNat++((l.map b4).flatten++r):=by simp[b4]
  rw[χ,z1v,ξ rfl,e,b.1,b.2.1,b.2.2,z3R l r _ fun y j=>h y (by simp[j]),List.append_assoc,Int.toNat_of_nonneg d]
  rfl
theorem z0n : ∀(T:List (List Int)) (r:List UInt8) (acc:List (List Int)),(∀l∈T,y0c l)->q4I T.length ((T.map q0x).flatten++r) true acc=(acc++T,r,true)
 |[],r,acc,_=>by simp[q4I]
 | l ::T,r,acc,h=>by
  have d:=h l (by simp);have b:=q6I 1 l.length ((l.map b4).flatten++((T.map q0x).flatten++r)) (by have:=d.1;omega);have e:((l::T).map q0x).flatten++r=be 1 l.length++((l.map b4).flatten++((T.map q0x).flatten++r)):=by
   simp[q0x,List.append_assoc];rfl
  rw[χ,q4I,ξ rfl,e,b.1,b.2.1,b.2.2,z3R l _ [] d.2];simp only[List.nil_append];rw[z0n T r _ fun y i=>h y (by simp[i]),List.append_assoc]
  rfl
theorem z1M(L:List (List Int)):(q0z L).length<=L.length:=by rw[q3X];exact q5r _ _
theorem z2c(L:List (List Int)):q0z (q0z L)=q0z L:=by
 apply z7T;rcases Nat.eq_zero_or_pos (q0z L).length with h|h
 ·exact .inl (List.eq_nil_of_length_eq_zero h)
 ·exact .inr (z5E L _ (by omega))
theorem q8A(h:q1q L=true):q1q (q0z L)=true:=by
 have b:=q6a h;have d:=q1v L;exact z1U _ (Ω (z1M L) b.1) (by rw[d];exact b.2.1) (by rw[d];exact b.2.2.1) (by rw[d];exact b.2.2.2)
theorem q5G(h:q0i nx ck L=true):q0i nx ck (q0z L)=true:=by
 have b:=q2g h;rw[q8l b.1 (q8A b.2.1),q1v,List.all_eq_true];intro x d
 simpa using b.2.2 x d
theorem z0q(h:q0i nx ck L=true):q3S nx ck sd (q0z L)=q3S nx ck sd L:=by
 unfold q3S q2E;rw[ξ (q5G h),ξ h,z2c]
theorem z7A(h:q0i nx ck L=true):(q0z L).length<=5/\ ∀l∈q0z L,y0c l:=by
 have d:=q2g h;have i:=q6a (q8A d.2.1);refine⟨i.1,fun l b=>⟨?_,fun x o=>?_⟩⟩
 ·have:l.length<=(q0z L).flatten.length:=(List.sublist_flatten_of_mem b).length_le
  omega
 ·have hm:x∈(q0z L).flatten:=List.mem_flatten.2 ⟨l,b,o⟩
  have j:=i.2.2.1 x hm;rw[q1v] at hm;have q:=d.2.2 x hm;exact⟨j,by omega⟩
theorem q8k(h:q0i nx ck L=true):q3S nx ck sd L=(q1T (q2E nx ck sd L),0):=by unfold q3S;rw[ξ h]
theorem q8T(nx ck sd:Int)(L:List (List Int))(r:List UInt8):
  q2E nx ck sd L++r=[105,109,97,112]++(be 4 nx.toNat++(be 4 ck.toNat++(be 8 sd.toNat++(be 1 (q0z L).length++(((q0z L).map q0x).flatten++r))))):=by
 simp[q2E,q2o,List.append_assoc]
structure z5M(u:List UInt8)(a1 a2 a3 a4:Nat)(r4:List UInt8):Prop where
 f:u=[105,109,97,112]++(be 4 a1++(be 4 a2++(be 8 a3++(be 1 a4++r4))))
 b1:a1<256^4
 b2:a2<256^4
 b3:a3<256^8
 b4:a4<256^1
theorem z2L{u:List UInt8}(h:z5M u a1 a2 a3 a4 r4):
  q2u u=⟨a1,a2,a3,(q4I a4 r4 true []).1,(q4I a4 r4 true []).2.1,(q4I a4 r4 true []).2.2⟩:=by
 obtain⟨rfl,b1,b2,b3,b4⟩:=h;unfold q2u;have b:=q6I 4 a1 (be 4 a2++(be 8 a3++(be 1 a4++r4))) b1;have d:=q6I 4 a2 (be 8 a3++(be 1 a4++r4)) b2;have i:=q6I 8 a3 (be 1 a4++r4) b3;have j:=q6I 1 a4 r4 b4;have e:([105,109,97,112]++(be 4 a1++(be 4 a2++(be 8 a3++(be 1 a4++r4))))).drop 4=be 4 a1++(be 4 a2++(be 8 a3++(be 1 a4++r4))):=rfl;simp only[e,b.1,b.2.1,b.2.2,d.1,d.2.1,d.2.2,i.1,i.2.1,i.2.2,j.1,j.2.1,j.2.2]
theorem z4J(h:q0i nx ck L=true)(b:sd<18446744073709551616)(r:List UInt8):
  z5M (q2E nx ck sd L++r) nx.toNat ck.toNat sd.toNat (q0z L).length (((q0z L).map q0x).flatten++r):=by
 have d:=q2g h;have i:=z7A h;exact⟨q8T _ _ _ _ _,by omega,by omega,by omega,by omega⟩
theorem z4t(h:q0i nx ck L=true)(d:0<=sd)(i:sd<18446744073709551616)(r:List UInt8):
  q2u (q2E nx ck sd L++r)=⟨nx,ck,sd,q0z L,r,true⟩:=by
 have b:=q2g h;have j:=z7A h;rw[z2L (z4J h i r),z0n _ _ _ j.2];simp only[List.nil_append,Int.toNat_of_nonneg b.1.1,Int.toNat_of_nonneg b.1.2.2.1,Int.toNat_of_nonneg d]
theorem z6f(l:List UInt8):q2F (q1T l)=true/\q1s (q1T l)=l:=by
 have i:=q1H l;have d:(q1T l).take ((q1T l).length-4)=l:=by
  rw[i,Nat.add_sub_cancel];unfold q1T;exact List.take_left
 have b:q2F (q1T l)=true:=by
  unfold q2F;rw[d,ζ (show 4<=(q1T l).length by omega),ζ rfl];rfl
 exact⟨b,by unfold q1s;rw[ξ b,d]⟩
theorem z8l(h:q0i nx ck L=true)(d:0<=sd)(i:sd<18446744073709551616):
  q3K (q1T (q2E nx ck sd L))=⟨nx,ck,sd,q0z L,0⟩:=by
 obtain⟨o1,o2⟩:=z6f (q2E nx ck sd L);have b:=z4t h d i [];rw[List.append_nil] at b;have j:q3Z (q2E nx ck sd L)=true:=by
  have e:=q8T nx ck sd L [];rw[List.append_nil] at e;unfold q3Z;rw[e,Ξ];exact⟨by simp,by simp⟩
 unfold q3K;rw[o1,o2,j,ξ (by rfl),b];have l:q2R ⟨nx,ck,sd,q0z L,[],true⟩ (q1T (q2E nx ck sd L))=true:=
  z0z rfl rfl (q5G h) (by show(q3S nx ck sd (q0z L)).1=_;rw[z0q h,q8k h])
 rw[l,ξ rfl]
end
end Go.Proofs.YtfiibpgoplcgkaaGreatDoor
namespace Go.Proofs.YtfiibpgoplcgkaaGreatDoor
section
open Go.RowKit
end
end Go.Proofs.YtfiibpgoplcgkaaGreatDoor
