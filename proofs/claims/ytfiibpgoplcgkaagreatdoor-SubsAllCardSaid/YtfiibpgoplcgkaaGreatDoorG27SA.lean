/- Walks. -/
import Derived.WalkSpells
import Derived.Test.YtfiibpgoplcgkaaGreatDoorG26SA
import Derived.Test.YtfiibpgoplcgkaaGreatDoorG4SA
import Derived.Laws.ResultCell
set_option linter.unusedVariables false
set_option linter.unusedSimpArgs false
set_option maxRecDepth 100000
set_option maxHeartbeats 3200000
namespace Go.Proofs.YtfiibpgoplcgkaaGreatDoor
variable {w w' w0 w1:World}{ao:Option Addr}{n cap m B g a1 a2 a3 a4:Nat}{L acc:List (List Int)}{nx ck a c sd:Int}{e tO tI:TypeId}{v:Value}{vs:List Value}{t r1 r2 r3 r4:List UInt8}{o1 o2 o3 o4:Bool}
section
open Go.RowKit
theorem y1D(ao:Option Addr)(n cap:Nat)(L:List (List Int))(w:World)(q:Grid w ao n cap L):
  Calls Tryz.prog 329 #[.slice ao n cap] w fun e w'=>e= .returned (.slice ao (q2I L n) cap)/\Ext w w':=by
 have I:=η q;have b1:=q.fits;have b2:=q.bound;clear q;go_enter Tryz.func329,Tryz.ntmps329;go_wp2_with fail
 go_loopw [0] (fun v w'=> ∃m:Nat,m<=n/\v= .slice ao m cap/\q2I L m=q2I L n/\Ext w w') (fun v _=>y3N v)
 case atStart=>exact⟨n,ι _,rfl,rfl,Ext.refl _⟩
 case round=>
  obtain⟨m,hm,rfl,j,C⟩:=hrel;have d:=η j;clear j;have l:=η C;clear C
  cases m with
  | zero=>
   have D:q2I L n=0:=d.o.symm;have r:=η D;clear D;go_wp2_with fail;go_ret;exact⟨by rw[r.o];rfl,l.o⟩
  | succ m=>
   obtain⟨b,off,J,E,N,rfl,M,r1⟩:=(I.o.ext l.o).at (show m<n by omega);have x:=r1.len;have O:=r1.fits;have Q:=r1.bound;have u:=η x;clear r1 x;by_cases s:E=0
   ·have he:L.getD m []=[]:=List.eq_nil_of_length_eq_zero (by have:=u.o;omega)
    have F:=η he;clear he;subst s;go_wp2_with fail
    go_roundw
    case rel=>exact⟨m,by omega,rfl,by rw[<-z3A L m F.o];exact d.o,l.o⟩
    case measure=>simp[y3N]
   ·have i:L.getD m []≠[]:=by intro h;have:=u.o;rw[h] at this;simp at this;omega
    have R:((E:Int)==0)=false:=by simpa using s
    have y:q2I L n=m+1:=by rw[<-d.o];exact q9J L m i
    have G:=η i;clear i s;have r:=η y;clear y;go_wp2_with fail;go_ret;exact⟨by rw[r.o];rfl,l.o⟩
theorem Grid.cut(h:Grid w ao n cap L)(hm:m<=n):Grid w ao m cap (L.take m):=by
 have u:=h.len;have d:(L.take m).length=m:=by simp;omega
 refine⟨d,Ω hm h.fits,h.bound,h.nil,fun i s=>?_⟩;obtain⟨b,off,j,l,o,q,r⟩:=h.rd i (by omega);rw[List.getElem_take];exact⟨b,off,j,l,o,q,r⟩
theorem Grid.trim(h:Grid w ao n cap L):Grid w ao (q2I L n) cap (q1A L):=by
 have e:q1A L=L.take (q2I L n):=by unfold q1A;rw[h.len]
 rw[e];exact h.cut (q6F L n)
def q0y(l:List Int):List UInt8:=be 1 l.length++(l.map fun x=>be 4 x.toNat).flatten
def q2v(nx ck sd:Int)(k:Nat):List UInt8:=[105,109,97,112]++be 4 nx.toNat++be 4 ck.toNat++be 8 sd.toNat++be 1 k
def q2J(nx ck sd:Int)(L:List (List Int)):List UInt8:=q2v nx ck sd (q1A L).length++((q1A L).map q0y).flatten
def q3a(nx ck sd:Int)(L:List (List Int)):List UInt8×Int:=if q0k nx ck L then(q1T (q2J nx ck sd L),0) else([],2)
theorem q6j(l:List Int):(l.map fun x=>be 4 x.toNat).flatten.length=4*l.length:=by
 induction l with
 |nil=>rfl
 |cons x l ih=>simp only[List.map_cons,List.flatten_cons,θ,ih,q0H,χ];omega
theorem q7p(l:List Int):(q0y l).length=1+4*l.length:=by
 unfold q0y;rw[θ,q0H,q6j]
theorem q7q(T:List (List Int)):(T.map q0y).flatten.length=T.length+4*T.flatten.length:=by
 induction T with
 |nil=>rfl
 |cons x l ih=>simp only[List.map_cons,List.flatten_cons,θ,ih,q7p,χ];omega
theorem q8Y(nx ck sd:Int)(k:Nat):(q2v nx ck sd k).length=21:=by simp[q2v,q0H]
theorem q2q(h:q0k nx ck L=true):(0<=nx/\nx<=1000000/\0<=ck/\ck<=2147483647)/\q1x L=true/\ ∀x∈L.flatten,x<nx:=by
 unfold q0k at h;rw[Ξ,Ξ] at h;exact⟨of_decide_eq_true h.1.1,h.1.2,fun x b=>of_decide_eq_true (List.all_eq_true.1 h.2 x b)⟩
theorem q5v{b i:Type}(f:b->List i)(l:List b)(d:b)(k:Nat)(h:k<l.length):((l.take (k+1)).map f).flatten=((l.take k).map f).flatten++f (l.getD k d):=by
 rw[q0Z l d k h];simp
theorem y2U(nx ck sd:Int)(ao:Option Addr)(n cap:Nat)(L:List (List Int))(w:World)(C:Grid w ao n cap L)(o0:L.flatten.length<=17592186044416)(q0: ∀x∈L.flatten,(Lit.int .i64 x).wf=true)(S0:0<=sd)(U:sd<18446744073709551616):
  Calls Tryz.prog 288 #[.agg #[.int .i64 nx,.int .i64 ck,.int .u64 sd,.slice ao n cap]] w fun e w'=>e= .returned (.tuple #[.string ⟨(q3a nx ck sd L).1.toArray⟩,.int .i64 (q3a nx ck sd L).2])/\Ext w w':=by
 have Hx:=η C;have M:=η C.len;clear C;go_enter Tryz.func288,Tryz.ntmps288;go_wp2_with fail;refine(q9v nx ck sd _ _ _ L _ (Hx.o.ext (q0B _ _)) o0 q0).mono ?_;rintro e w1 ⟨rfl,G⟩;obtain⟨d0,d1,d2,d3⟩:=z5t G;have HB:=η G;clear G q0;by_cases hv:q0k nx ck L=false
 ·have HV:Hd (q3a nx ck sd L=([],2)):=η (by unfold q3a;rw[hv];rfl)
  go_wp2_with fail;go_ret2;exact⟨by rw[HV.o];rfl,(q0B _ _).trans HB.o⟩
 have p0:q0k nx ck L=true:=by simpa using hv
 have HV:Hd (q3a nx ck sd L=(q1T (q2J nx ck sd L),0)):=η (by unfold q3a;rw[p0];rfl);obtain⟨⟨n1,n2,n3,n4⟩,V,J⟩:=q2q p0;obtain⟨v1,v2,v3,_⟩:=(by unfold q1x at V;exact of_decide_eq_true V:L.length<=5/\L.flatten.length<=40/\(∀x∈L.flatten,0<=x)/\L.flatten.Nodup)
 have V2:=η v2;have V3:=η v3;have x0:=η J;have N0:n<=5:=by have:=M.o;omega
 clear hv V v1 v2 v3 J;go_wp2_with fail;refine(y1D _ _ _ L _ ((Hx.o.ext (q0B _ _)).ext HB.o)).mono ?_;rintro e w2 ⟨rfl,G⟩;have D:=η (HB.o.trans G);obtain⟨e0,e1,e2,e3⟩:=z5t D.o;clear G HB d0 d1 d2 d3;have f0:=q0D e0;have f1:=q0D e1;have f2:=q0D e2;have hT:(q1A L).length=q2I L n:=by rw[q3h,M.o]
 have U0:q2I L n<=n:=q6F L n;have F:Grid w2 ao (q2I L n) cap (q1A L):=((Hx.o.ext (q0B _ _)).ext D.o).trim;have Z:=η F;have E:=η hT;have q:Hd (q2v nx ck sd (q2I L n)=[105,109,97,112]++be 4 nx.toNat++be 4 ck.toNat++be 8 sd.toNat++be 1 (q2I L n)):=η rfl;have j0:=q0H 4 nx.toNat;have k0:=q0H 4 ck.toNat;have I0:=q0H 8 sd.toNat;have H0:=q0H 1 (q2I L n);have V0:q2I L n<=5:=by omega
 have O:Hd (q2J nx ck sd L=q2v nx ck sd (q1A L).length++((q1A L).map q0y).flatten):=η rfl;have M0:cap<=9223372036854775807:=F.bound;have T0:q2I L n<=cap:=F.fits;have a0:Hd ((q1A L).flatten.length<=40):=η (by rw[q2B];exact V2.o)
 have B0:Hd (∀k,∀x∈(q1A L).getD k [],0<=x/\x<=1000000):=η (by
  intro k x C;rw[q6d] at C;have r0:x∈L.flatten:=by
   rcases Nat.lt_or_ge k L.length with h|h
   ·rw[δ,γ h] at C
    exact List.mem_flatten.2 ⟨_,List.getElem_mem h,C⟩
   ·rw[q9j _ _ _ h] at C;cases C
  have:=V3.o x r0;have:=x0.o x r0
  omega)
 clear F hT e0 e1 e2 e3;generalize q2I L n=m at*;generalize q1A L=T at*;go_wp2_with fail;refine q0E (by kernel_rfl) (by kernel_rfl) ?_
 repeat (go_big_quiet_step (first|exact Calls.quiet_ext (z5N _ _ 4 _ (by decide) (by omega) (by omega) (by omega) (by omega))|exact Calls.quiet_ext (z5N _ _ 8 _ (by decide) (by omega) (by omega) (by omega) (by omega))|exact Calls.quiet_ext (y2h _ _ 1 _ (by decide) (by omega) (by omega) (by omega))))
 refine wpQuiet_nil ?_;intro w3 W;have s0:=η (D.o.trans W);have u0:=η (Z.o.ext W);have n0:(({data:=#[105,109,97,112]}++{data:=(be 4 nx.toNat).toArray}++{data:=(be 4 ck.toNat).toArray}++{data:=(be 8 sd.toNat).toArray}++{data:=(be 1 m).toArray}):ByteArray)=⟨(q2v nx ck sd m++((T.take 0).map q0y).flatten).toArray⟩:=by
  rw[q.o];have e0:({data:=#[105,109,97,112]}:ByteArray)=⟨([105,109,97,112]:List UInt8).toArray⟩:=rfl;rw[e0,ByteArray.mk_append_mk,ByteArray.mk_append_mk,ByteArray.mk_append_mk,ByteArray.mk_append_mk];simp
 have A0:=η n0;have l0:=q7q T;have K0:=η l0;have g0: ∀k,(q2v nx ck sd m++((T.take k).map q0y).flatten).length<=300:=by
  intro k;rw[θ,q8Y,q7q];have h1:(T.take k).length<=T.length:=by simp;omega
  have h2:=q2U T k;have h3:=a0.o;have h4:=E.o;omega
 have Y:=η g0;clear W n0 l0 g0 D Z q f0 f1 f2 j0 k0 I0 H0;go_wp2_with fail
 go_loopw [5,37] (fun s i w'=> ∃k:Nat,k<=m/\i= .int .i64 k/\s= .string ⟨(q2v nx ck sd m++((T.take k).map q0y).flatten).toArray⟩/\Ext w3 w') (fun _ i _=>m-(intOf i).toNat)
 case atStart=>exact⟨0,υ _,rfl,by rw[A0.o],Ext.refl _⟩
 case round =>
  obtain⟨k,hk,rfl,rfl,G⟩:=hrel;have Hb:=η G;clear G;by_cases J:k<m
  ·obtain⟨b,off,ai,l,ci,rfl,c1,r1⟩:=(u0.o.ext Hb.o).at J
   have F0:k<T.length:=by have:=E.o;omega
   have u:=q5v q0y T [] k F0;have y: ∀x∈T.getD k [],0<=x/\x<=1000000:=B0.o k;have P0:=Y.o k;have R0:(T.getD k []).length<=40:=by have:=q8a T k;have:=a0.o;omega
   generalize T.getD k []=R at*;generalize hP:q2v nx ck sd m++((T.take k).map q0y).flatten=P at*;have y0:Hd (q2v nx ck sd m++((T.take (k+1)).map q0y).flatten=P++q0y R):=η (by rw[u,<-List.append_assoc,hP]);have R1:=η r1;have g1:=r1.fits;have g2:=r1.bound;have g3:=r1.len;have O0:l<=40:=by omega
   have HR:=η y;have G3:=η g3;clear r1 u hP y g3;go_wp2_with fail;have hc:=q8A (l:Int) 1 wr (by omega) (by omega) (by omega) (by omega);rw[Int.toNat_natCast] at hc;refine hc.mono ?_;clear hc;rintro e w4 ⟨rfl,I⟩;have t0:=η (Hb.o.trans I);have C0:=η (R1.o.ext I);clear I;have U:(({data:=P.toArray}++{data:=(be 1 l).toArray}):ByteArray)=⟨(P++(be 1 l++((R.take 0).map fun x=>be 4 x.toNat).flatten)).toArray⟩:=by
    rw[ByteArray.mk_append_mk];simp
   have z0:=η U;clear U;have D0:=q0H 1 l;go_wp2_with fail
   go_loopw [5,49] (fun s i w'=> ∃j:Nat,j<=l/\i= .int .i64 j/\s= .string ⟨(P++(be 1 l++((R.take j).map fun x=>be 4 x.toNat).flatten)).toArray⟩/\Ext w4 w') (fun _ i _=>l-(intOf i).toNat)
   case atStart=>exact⟨0,υ _,rfl,by rw[z0.o],Ext.refl _⟩
   case round=>
    obtain⟨j,hj,rfl,rfl,c0⟩:=hrel;have S:=η c0;clear c0;by_cases E0:j<l
    ·obtain⟨b',J0,rfl,d1⟩:=(C0.o.ext S.o).at E0
     have h0:j<R.length:=by have:=G3.o;omega
     have m0:=q5v (fun x:Int=>be 4 x.toNat) R 0 j h0;have C:=HR.o _ (q4J R j h0);have Q0:(P++(be 1 l++((R.take j).map fun x=>be 4 x.toNat).flatten)).length<=500:=by
      rw[θ,θ,D0,q6j];have:=List.length_take_le j R;omega
     generalize R.getD j 0=X at*;have HQ:Hd (P++(be 1 l++((R.take (j+1)).map fun x=>be 4 x.toNat).flatten)=(P++(be 1 l++((R.take j).map fun x=>be 4 x.toNat).flatten))++be 4 X.toNat):=η (by rw[m0];simp);generalize P++(be 1 l++((R.take j).map fun x=>be 4 x.toNat).flatten)=Q at*;obtain⟨x1,x2⟩:=C;clear m0;go_wp2_with fail;refine(q8A X 4 _ (by omega) (by omega) (by omega) (by omega)).mono ?_;rintro e w5 ⟨rfl,r⟩;have N:=η (S.o.trans r);have I:=q0H 4 X.toNat;clear r;go_wp2_with fail
     go_roundw
     case rel=>exact⟨j+1,by omega,by go_num,by rw[HQ.o,<-ByteArray.mk_append_mk],N.o⟩
     case measure=>simp[intOf];omega
    ·have i0:R.take j=R:=Δ (by have:=G3.o;omega)
     have v0:=η i0;clear i0;go_wp2_with fail
     go_roundw
     case rel=>exact⟨k+1,by omega,by go_num,by rw[y0.o,v0.o];unfold q0y;rw[G3.o],t0.o.trans S.o⟩
     case measure=>simp[intOf];omega
  ·have G0:k=m:=by omega
   have b0:T.take k=T:=Δ (by have:=E.o;omega);have d:q2v nx ck sd m++((T.take k).map q0y).flatten=q2J nx ck sd L:=by rw[O.o,E.o,b0]
   rw[d];have L0:(q2J nx ck sd L).length<=300:=by have:=Y.o k;rwa [d] at this
   clear d G0 b0;go_wp2_with fail;refine(z4J _ _ (by omega)).mono ?_;rintro e w6 ⟨rfl,r⟩;have N:=η (Hb.o.trans r);clear r;go_wp2_with fail;go_ret2;exact⟨by rw[HV.o];rfl,(q0B _ _).trans (s0.o.trans N.o)⟩
theorem q3q(h:Ext w w'){a:Addr}{u:Value}(hc:w.cell? a=some u)(b:w.frozen? a=false):w'.frozen? a=false:=
 (h.frozen (World.block_lt_of_cell? (h:=hc))).trans b
theorem Own.setBelow{size:Nat}{cs:List Value}(h:Own w B e size v n cs)(d:g<B)(k:Nat)(u:Value):Own (w.setCell ⟨g,k,none⟩ u) B e size v n cs:=
 h.setOther u fun b=>by have:=(h.lt _ b).1;simp at this;omega
theorem OGr.setBelow(h:OGr w B tO tI v vs L)(b:g<B)(k:Nat)(u:Value):OGr (w.setCell ⟨g,k,none⟩ u) B tO tI v vs L:=
 ⟨h.own.setBelow b k u,fun i=>(h.row i).setBelow b k u,h.sep⟩
theorem y1Z(l:List UInt8)(ok:Bool)(g:Nat)(k:Int)(w:World)(i:w.cell? ⟨g,0,none⟩=some (.string ⟨l.toArray⟩))(j:w.cell? ⟨g,1,none⟩=some (.bool ok))(q:w.frozen? ⟨g,0,none⟩=false)(r:w.frozen? ⟨g,1,none⟩=false)(d:l.length<=9223372036854775807)(b:0<=k)(o:(l.length:Int)<k):
  Calls Tryz.prog 311 #[.pointer (some ⟨g,0,none⟩),.int .i64 k] w fun e w'=>e= .returned (.int .u64 0)/\w'=(w.setCell ⟨g,0,none⟩ (.string ⟨#[]⟩)).setCell ⟨g,1,none⟩ (.bool false):=by
 go_enter Tryz.func311,Tryz.ntmps311;go_wp2_with fail;go_ret;exact⟨rfl,rfl⟩
theorem z9m(l:List UInt8)(g:Nat)(k:Nat)(w:World)(i:w.cell? ⟨g,0,none⟩=some (.string ⟨l.toArray⟩))(u:w.frozen? ⟨g,0,none⟩=false)(s:l.length<=9223372036854775807)(C:k<=l.length)(y:k<=8):
  Calls Tryz.prog 311 #[.pointer (some ⟨g,0,none⟩),.int .i64 k] w fun e w'=>e= .returned (.int .u64 (q1O (l.take k)))/\ ∃w1,Ext w w1/\w'=w1.setCell ⟨g,0,none⟩ (.string ⟨(l.drop k).toArray⟩):=by
 go_enter Tryz.func311,Tryz.ntmps311;have d:(l.take k).length<=9223372036854775807:=by simp;omega
 have j:(l.take k).take 8=l.take k:=by rw[List.take_take];congr 1;omega
 have r:=η j;clear j;go_wp2_with fail;refine(q9l _ _ d).mono ?_;rw[r.o];rintro e w1 ⟨rfl,b⟩;have x:=q0A b i;have D:=q3q b i u;have q:=η b;clear b;go_wp2_with fail;go_ret;exact⟨rfl,w1,q.o,rfl⟩
structure Off(g:Nat)(w w':World):Prop where
 os:w'.os=w.os
 tape:w'.tape=w.tape
 output:w'.output=w.output
 size:w.heap.size<=w'.heap.size
 block: ∀i,i<w.heap.size->i≠g->w'.heap[i]? =w.heap[i]?
theorem Off.refl(g:Nat)(w:World):Off g w w:=⟨rfl,rfl,rfl,ι _,fun _ _ _=>rfl⟩
theorem Off.trans{a b c:World}(h:Off g a b)(k:Off g b c):Off g a c:=
 ⟨k.os.trans h.os,k.tape.trans h.tape,k.output.trans h.output,Ω h.size k.size,fun i d j=>(k.block i (Ψ d h.size) j).trans (h.block i d j)⟩
theorem Off.of_ext(h:Ext w w'):Off g w w':=⟨h.os,h.tape,h.output,h.size,fun i b _=>h.block i b⟩
theorem Off.set(w:World)(k:Nat)(u:Value):Off g w (w.setCell ⟨g,k,none⟩ u):=
 ⟨rfl,rfl,rfl,by simp[World.setCell],fun i _ b=>Below.heap_setCell _ _ _ _ b⟩
theorem Off.ext(h:Ext w0 w)(d:w0.heap.size<=g)(k:Off g w w'):Ext w0 w':=
 ⟨k.os.trans h.os,k.tape.trans h.tape,k.output.trans h.output,Ω h.size k.size,fun i b=>(k.block i (Ψ b h.size) (by omega)).trans (h.block i b)⟩
theorem Off.below(h:Below B w0 w)(d:B<=g)(j:B<=w.heap.size)(k:Off g w w'):Below B w0 w':=
 ⟨k.os.trans h.os,k.tape.trans h.tape,k.output.trans h.output,Ω h.size k.size,fun i b=>(k.block i (by omega) (by omega)).trans (h.block i b)⟩
theorem Off.own{size:Nat}{cs:List Value}(h:Own w B e size v n cs)(d:g<B)(k:Off g w w'):Own w' B e size v n cs:=
 h.same fun i b=>k.block i (h.lt i b).2 (by have:=(h.lt i b).1;omega)
theorem Off.ogr(h:OGr w B tO tI v vs L)(b:g<B)(k:Off g w w'):OGr w' B tO tI v vs L:=
 ⟨Off.own h.own b k,fun i=>Off.own (h.row i) b k,h.sep⟩
theorem Off.grown{size:Nat}{o:List Value}(h:Off g w0 w)(d:Own w B e size v n o)(b:w.grownBy w' v.ownBlock)(q:w0.heap.size<=B):Off g w0 w':=
 ⟨b.os.trans h.os,b.tape.trans h.tape,b.output.trans h.output,Ω h.size b.size,fun i j l=>(b.block i (Ψ j h.size) (fun e=>by have:=(d.lt i e.symm).1;omega)).trans (h.block i j l)⟩
def Rdr(w:World)(g:Nat)(s:List UInt8)(ok:Bool):Prop:=w.heap[g]? =some (.cells #[.string ⟨s.toArray⟩,.bool ok] 386 (0,0))
theorem Rdr.c0{s:List UInt8}{ok:Bool}(h:Rdr w g s ok):w.cell? ⟨g,0,none⟩=some (.string ⟨s.toArray⟩):=by unfold Rdr at h;simp[World.cell?,h]
theorem Rdr.c1{s:List UInt8}{ok:Bool}(h:Rdr w g s ok):w.cell? ⟨g,1,none⟩=some (.bool ok):=by unfold Rdr at h;simp[World.cell?,h]
theorem Rdr.z0{s:List UInt8}{ok:Bool}(h:Rdr w g s ok):w.frozen? ⟨g,0,none⟩=false:=by unfold Rdr at h;simp[World.frozen?,h]
theorem Rdr.z1{s:List UInt8}{ok:Bool}(h:Rdr w g s ok):w.frozen? ⟨g,1,none⟩=false:=by unfold Rdr at h;simp[World.frozen?,h]
theorem Rdr.same{s:List UInt8}{ok:Bool}(h:Rdr w g s ok)(k:w'.heap[g]? =w.heap[g]?):Rdr w' g s ok:=k.trans h
theorem Rdr.lt{s:List UInt8}{ok:Bool}(h:Rdr w g s ok):g<w.heap.size:=World.block_lt_of_cell? (h:=h.c0)
theorem Rdr.ext{s:List UInt8}{ok:Bool}(h:Rdr w g s ok)(k:Ext w w'):Rdr w' g s ok:=h.same (k.block g h.lt)
def q3b(k:Nat)(s:List UInt8):Nat:=if s.length<k then 0 else q1O (s.take k)
def q2H(k:Nat)(s:List UInt8):List UInt8:=if s.length<k then [] else s.drop k
def q3X(k:Nat)(s:List UInt8)(ok:Bool):Bool:=if s.length<k then false else ok
theorem q9I(l:List UInt8)(ok:Bool)(g k:Nat)(N:Int)(w:World)(q:N=(k:Int))(h:Rdr w g l ok)(j:l.length<=9223372036854775807)(o:k<=8):
  Calls Tryz.prog 311 #[.pointer (some ⟨g,0,none⟩),.int .i64 N] w fun e w'=>e= .returned (.int .u64 (q3b k l))/\Rdr w' g (q2H k l) (q3X k l ok)/\Off g w w':=by
 subst q;by_cases b:l.length<k
 ·refine(y1Z l ok g k w h.c0 h.c1 h.z0 h.z1 j (by omega) (by omega)).mono ?_
  rintro e w' ⟨rfl,rfl⟩;refine⟨by unfold q3b;rw[ξ b];rfl,?_,(Off.set _ _ _).trans (Off.set _ _ _)⟩;unfold q2H q3X Rdr;rw[ξ b,ξ b];unfold Rdr at h;simp[World.setCell,Array.getElem?_modify,h]
 ·refine(z9m l g k w h.c0 h.z0 j (by omega) o).mono ?_
  rintro e w' ⟨rfl,w1,i,rfl⟩;have d:=h.ext i;refine⟨by unfold q3b;rw[κ b],?_,(Off.of_ext i).trans (Off.set _ _ _)⟩;unfold q2H q3X Rdr;rw[κ b,κ b];unfold Rdr at d;simp[World.setCell,Array.getElem?_modify,d]
def z2Q :Nat->List UInt8->Bool->List Int->List Int×List UInt8×Bool
 |0,s,ok,acc=>(acc,s,ok)
 |i+1,s,ok,acc=>if ok then z2Q i (q2H 4 s) (q3X 4 s ok) (acc++[(q3b 4 s:Int)]) else(acc,s,ok)
def q4T :Nat->List UInt8->Bool->List (List Int)->List (List Int)×List UInt8×Bool
 |0,s,ok,acc=>(acc,s,ok)
 |k+1,s,ok,acc=>if ok then q4T k (z2Q (q3b 1 s) (q2H 1 s) (q3X 1 s ok) []).2.1 (z2Q (q3b 1 s) (q2H 1 s) (q3X 1 s ok) []).2.2 (acc++[(z2Q (q3b 1 s) (q2H 1 s) (q3X 1 s ok) []).1]) else(acc,s,ok)
theorem q4z(k:Nat)(s:List UInt8):q3b k s<256^k:=by
 unfold q3b
 split
 ·exact Nat.pow_pos (by decide)
 ·have:=q2O (s.take k)
  rwa [Θ,Nat.min_eq_left (by omega)] at this
theorem q4y(k:Nat)(s:List UInt8):(q2H k s).length<=s.length:=by unfold q2H;split<;>simp
structure q7J where
 nx:Int
 ck:Int
 sd:Int
 L:List (List Int)
 r:List UInt8
 ok:Bool
def q3B(s:List UInt8):q7J:=
 let r0:=s.drop 4
 let r1:=q2H 4 r0;let o1:=q3X 4 r0 true
 let r2:=q2H 4 r1;let o2:=q3X 4 r1 o1
 let r3:=q2H 8 r2;let o3:=q3X 8 r2 o2
 let r4:=q2H 1 r3;let o4:=q3X 1 r3 o3
 let p:=q4T (q3b 1 r3) r4 o4 []
 ⟨q3b 4 r0,q3b 4 r1,q3b 8 r2,p.1,p.2.1,p.2.2⟩
def z7G(x:Int):Prop:=0<=x/\x<4294967296
structure Got where
 nx:Int
 ck:Int
 sd:Int
 L:List (List Int)
 en:Int
def z5q :Got:=⟨0,0,0,[],90⟩
def q3l(t:List UInt8):Bool:=decide (4<=t.length)&&decide (t.take 4=[105,109,97,112])
def q2Y(p:q7J)(s:List UInt8):Bool:=p.ok&&decide (p.r=[])&&q0k p.nx p.ck p.L&&decide ((q3a p.nx p.ck p.sd p.L).1=s)
def q3T(s:List UInt8):Got:=
 if q2L s&&q3l (q1z s) then(if q2Y (q3B (q1z s)) s then⟨(q3B (q1z s)).nx,(q3B (q1z s)).ck,(q3B (q1z s)).sd,(q3B (q1z s)).L,0⟩ else z5q) else z5q
def RetM(w:World)(g:Got)(e:Ending)(w':World):Prop:=
 ∃v vs,e= .returned (.tuple #[.agg #[.int .i64 g.nx,.int .i64 g.ck,.int .u64 g.sd,v],.int .i64 g.en])/\OGr w' w.heap.size 37 3 v vs g.L/\Ext w w'
theorem z3b(h:Ext w w1)(g:Nat)(i:w.heap.size<=g)(a b c d:Value):Ext w ((((w1.setCell ⟨g,0,none⟩ a).setCell ⟨g,1,none⟩ b).setCell ⟨g,2,none⟩ c).setCell ⟨g,3,none⟩ d):=
 Below.setCell (Below.setCell (Below.setCell (Below.setCell h i a) i b) i c) i d
theorem RetM.bad(h:Ext w w1)(g:Nat)(i:w.heap.size<=g)(s:List UInt8)(j:q3T s=z5q)(a b c d:Value):
  RetM w (q3T s) (.returned (.tuple #[.agg #[.int .i64 0,.int .i64 0,.int .u64 0,.slice none 0 0],.int .i64 90])) ((((w1.setCell ⟨g,0,none⟩ a).setCell ⟨g,1,none⟩ b).setCell ⟨g,2,none⟩ c).setCell ⟨g,3,none⟩ d):=by
 rw[j];exact⟨_,_,rfl,OGr.nil _ _ _ _,z3b h g i a b c d⟩
theorem z4a{a b c d:Value}{t:TypeId}(h:Ext (w.alloc (.cells #[a,b,c,d] t)) w1):
  w1.frozen? ⟨w.heap.size,0,none⟩=false/\w1.frozen? ⟨w.heap.size,1,none⟩=false/\w1.frozen? ⟨w.heap.size,2,none⟩=false/\w1.frozen? ⟨w.heap.size,3,none⟩=false:=by
 have k:=z5t (w:=w) (Ext.refl (w.alloc (.cells #[a,b,c,d] t)));exact⟨q3q h k.1 (by simp),q3q h k.2.1 (by simp),q3q h k.2.2.1 (by simp),q3q h k.2.2.2 (by simp)⟩
theorem z8v(h:q3l t=false):(decide ((t.length:Int)<4)||!(t.take 4==[105,109,97,112]))=true:=by
 unfold q3l at h;rw[Bool.and_eq_false_iff,decide_eq_false_iff_not,decide_eq_false_iff_not] at h;rw[Bool.or_eq_true,decide_eq_true_iff];rcases h with h|h
 ·left;omega
 ·right;simpa using h
theorem q8m(m:Nat): ∀L:List (List Int),(∀r∈L,r.length<=m)->L.flatten.length<=m*L.length
 |[],_=>by simp
 | r::L,h=>by
  have d:=h r (by simp);have i:=q8m m L fun x b=>h x (by simp[b])
  simp only[List.flatten_cons,θ,χ,Nat.mul_add];omega
def Mbx(w:World)(g:Nat)(a b c:Int)(v:Value):Prop:=w.heap[g]? =some (.cells #[.int .i64 a,.int .i64 b,.int .u64 c,v] 47 (0,0))
theorem Mbx.cs{b:Int}(h:Mbx w g a b c v):w.cell? ⟨g,0,none⟩=some (.int .i64 a)/\w.cell? ⟨g,1,none⟩=some (.int .i64 b)/\w.cell? ⟨g,2,none⟩=some (.int .u64 c)/\w.cell? ⟨g,3,none⟩=some v/\w.frozen? ⟨g,3,none⟩=false:=by
 unfold Mbx at h;simp[World.cell?,World.frozen?,h]
theorem Mbx.same{b:Int}(h:Mbx w g a b c v)(k:w'.heap[g]? =w.heap[g]?):Mbx w' g a b c v:=k.trans h
theorem Mbx.lt{b:Int}(h:Mbx w g a b c v):g<w.heap.size:=World.block_lt_of_cell? (h:=h.cs.1)
theorem Mbx.set{b:Int}(h:Mbx w g a b c v)(u:Value):Mbx (w.setCell ⟨g,3,none⟩ u) g a b c u:=by
 unfold Mbx at h⊢;simp[World.setCell,Array.getElem?_modify,h]
theorem y2v{x:Int}(h:z7G x):(Lit.int .i64 x).wf=true:=by
 obtain⟨i,j⟩:=h;have b:IntKind.i64.min= -9223372036854775808:=rfl;have d:IntKind.i64.max=9223372036854775807:=rfl;simp[Lit.wf];omega
def y1E(r:List Int):Prop:=r.length<=255/\ ∀x∈r,z7G x
theorem q8s{a:Nat}{s d:List UInt8}{b:Bool}{row:List Int}(i:q3b 1 s=a)(j:z2Q a (q2H 1 s) (q3X 1 s true) []=(row,d,b)):
  q4T (m+1) s true acc=q4T m d b (acc++[row]):=by rw[q4T,ξ rfl,i,j]
theorem z9J{s:List UInt8}:q4T m s false acc=(acc,s,false):=by
 cases m with
 |zero=>rfl
 |succ m=>rw[q4T];simp
theorem y0t{s:List UInt8}{acc:List Int}:z2Q m s false acc=(acc,s,false):=by
 cases m with
 |zero=>rfl
 |succ m=>rw[z2Q];simp
theorem q9A{p:q7J}{s:List UInt8}(h:p.ok=false):q2Y p s=false:=by unfold q2Y;rw[h];rfl
theorem z7Q{p:q7J}{s:List UInt8}(h:p.r≠[]):q2Y p s=false:=by unfold q2Y;rw[ε h,Bool.and_false];rfl
theorem z7R{p:q7J}{s:List UInt8}(h:q0k p.nx p.ck p.L=false):q2Y p s=false:=by unfold q2Y;rw[h,Bool.and_false];rfl
theorem z7P{p:q7J}{s:List UInt8}(h:(q3a p.nx p.ck p.sd p.L).1≠s):q2Y p s=false:=by unfold q2Y;rw[ε h,Bool.and_false]
theorem z1R{p:q7J}{s:List UInt8}(b:p.ok=true)(d:p.r=[])(i:q0k p.nx p.ck p.L=true)(j:(q3a p.nx p.ck p.sd p.L).1=s):q2Y p s=true:=by unfold q2Y;rw[b,i,ζ d,ζ j];rfl
structure Front(r0:List UInt8)(a1 a2 a3 a4:Nat)(r1 r2 r3 r4:List UInt8)(o1 o2 o3 o4:Bool):Prop where
 A1:q3b 4 r0=a1
 R1:q2H 4 r0=r1
 O1:q3X 4 r0 true=o1
 A2:q3b 4 r1=a2
 R2:q2H 4 r1=r2
 O2:q3X 4 r1 o1=o2
 A3:q3b 8 r2=a3
 R3:q2H 8 r2=r3
 O3:q3X 8 r2 o2=o3
 A4:q3b 1 r3=a4
 R4:q2H 1 r3=r4
 O4:q3X 1 r3 o3=o4
theorem Front.made(b:List UInt8): ∃a1 a2 a3 a4 r1 r2 r3 r4 o1 o2 o3 o4,Front b a1 a2 a3 a4 r1 r2 r3 r4 o1 o2 o3 o4:=⟨_,_,_,_,_,_,_,_,_,_,_,_,⟨rfl,rfl,rfl,rfl,rfl,rfl,rfl,rfl,rfl,rfl,rfl,rfl⟩⟩
theorem Front.parse(h:Front (t.drop 4) a1 a2 a3 a4 r1 r2 r3 r4 o1 o2 o3 o4):
  q3B t=⟨a1,a2,a3,(q4T a4 r4 o4 []).1,(q4T a4 r4 o4 []).2.1,(q4T a4 r4 o4 []).2.2⟩:=by
 obtain⟨rfl,rfl,rfl,rfl,rfl,rfl,rfl,rfl,rfl,rfl,rfl,rfl⟩:=h;rfl
theorem Front.b{d:List UInt8}(h:Front d a1 a2 a3 a4 r1 r2 r3 r4 o1 o2 o3 o4):
  (a1:Int)<4294967296/\(a2:Int)<4294967296/\(a3:Int)<18446744073709551616/\(a4:Int)<256/\r1.length<=d.length/\r2.length<=d.length/\r3.length<=d.length/\r4.length<=d.length:=by
 obtain⟨rfl,rfl,rfl,rfl,rfl,rfl,rfl,rfl,rfl,rfl,rfl,rfl⟩:=h;have i:=q4y 4 d;have j:=q4y 4 (q2H 4 d);have l:=q4y 8 (q2H 4 (q2H 4 d));have o:=q4y 1 (q2H 8 (q2H 4 (q2H 4 d)));refine⟨Int.ofNat_lt.2 (q4z 4 _),Int.ofNat_lt.2 (q4z 4 _),Int.ofNat_lt.2 (q4z 8 _),Int.ofNat_lt.2 (q4z 1 _),?_,?_,?_,?_⟩<;>omega
theorem y2P(s : List UInt8)(w:World)(hl:s.length<=4611686018427387903):
  Calls Tryz.prog 258 #[.string ⟨s.toArray⟩] w (RetM w (q3T s)):=by
 have x0:Hd (q2L s=false->q3T s=z5q):=η (fun h=>by unfold q3T;rw[h];rfl);have y0:Hd (q3l (q1z s)=false->q3T s=z5q):=η (fun h=>by unfold q3T;rw[h,Bool.and_false];rfl);have A0:Hd (q2Y (q3B (q1z s)) s=false->q3T s=z5q):=η (fun h=>by unfold q3T;rw[h];split<;>rfl);have B0:Hd (q2L s=true->q3l (q1z s)=true->q2Y (q3B (q1z s)) s=true->q3T s=⟨(q3B (q1z s)).nx,(q3B (q1z s)).ck,(q3B (q1z s)).sd,(q3B (q1z s)).L,0⟩):=η (fun h1 h2 h3=>by unfold q3T;rw[h1,h2,h3];rfl);have D2:(q1z s).length<=s.length:=by unfold q1z;split<;>simp
 generalize Z1:q1z s=t at*;have P1:=η Z1;clear Z1;go_enter Tryz.func258,Tryz.ntmps258;go_wp2_with fail;refine(open_c s _ hl).mono ?_;rw[P1.o];rintro e w1 ⟨rfl,hb⟩;obtain⟨d0,d1,d2,d3⟩:=z5t hb;obtain⟨z0,z1,z2,z3⟩:=z4a hb;have HB:=η hb;clear hb;by_cases ho:q2L s=false
 ·have HS:=η (x0.o ho)
  rw[ho];go_wp2_with fail
  ((try simp only[Exit.inBlock,Exit.then]);refine bodyPost_ret (v:= .tuple #[.agg #[_,_,_,_],_]) (by rw[results_cell_tmp rfl];go_simp;exact⟨⟨rfl,rfl,rfl,rfl⟩,rfl⟩) rfl ?_)
  exact RetM.bad ((q0B _ _).trans HB.o) _ (ι _) s HS.o _ _ _ _
 have ho:q2L s=true:=by simpa using ho
 have HO:=η ho;rw[ho];clear ho;by_cases hf:q3l t=false
 ·have HS:=η (y0.o hf)
  have U0:=z8v hf;clear hf;by_cases h4:t.length<4
  ·clear U0
   go_wp2_with fail
   ((try simp only[Exit.inBlock,Exit.then]);refine bodyPost_ret (v:= .tuple #[.agg #[_,_,_,_],_]) (by rw[results_cell_tmp rfl];go_simp;exact⟨⟨rfl,rfl,rfl,rfl⟩,rfl⟩) rfl ?_)
   exact RetM.bad ((q0B _ _).trans HB.o) _ (ι _) s HS.o _ _ _ _
  ·have L2:(List.take 4 t==[105,109,97,112])=false:=by
    rw[Bool.or_eq_true,decide_eq_true_iff] at U0;rcases U0 with h|h
    ·omega
    ·simpa using h
   clear U0;go_wp2_with fail
   ((try simp only[Exit.inBlock,Exit.then]);refine bodyPost_ret (v:= .tuple #[.agg #[_,_,_,_],_]) (by rw[results_cell_tmp rfl];go_simp;exact⟨⟨rfl,rfl,rfl,rfl⟩,rfl⟩) rfl ?_)
   exact RetM.bad ((q0B _ _).trans HB.o) _ (ι _) s HS.o _ _ _ _
 have hf:q3l t=true:=by simpa using hf
 have HF:=η hf;have ⟨h4,hf4⟩:4<=t.length/\t.take 4=[105,109,97,112]:=by
  unfold q3l at hf;rw[Ξ,decide_eq_true_iff,decide_eq_true_iff] at hf;exact hf
 have Q0:=η (B0.o HO.o HF.o);have E0:Hd ((t.drop 4).length<=4611686018427387903):=η (by rw[List.length_drop];omega);obtain⟨a1,a2,a3,a4,r1,r2,r3,r4,o1,o2,o3,o4,f2⟩:=Front.made (t.drop 4);have d:=η f2;clear f2;have E:=η (fun h=>A0.o h);have Q2:t.length<=4611686018427387903:=by omega
 clear hf B0 x0 y0 A0 D2;have hG:(w.alloc (.cells #[.int .i64 0,.int .i64 0,.int .u64 0,.slice none 0 0] 47)).heap.size<=w1.heap.size:=HB.o.size;have HG:=η hG;clear hG;go_wp2_with fail;have t0:Rdr (w1.alloc (.cells #[.string ⟨(t.drop 4).toArray⟩,.bool true] 386)) w1.heap.size (t.drop 4) true:=heap_alloc_new _ _;refine(q9I (t.drop 4) true _ 4 4 _ rfl t0 (by have:=E0.o;omega) (by decide)).mono ?_;rw[d.o.A1,d.o.R1,d.o.O1];rintro e w2 ⟨rfl,v1,k1⟩;have Z0:=η v1;have V1:=η (Off.ext (HB.o.trans (q0B _ _)) HG.o k1);clear t0 v1 k1;have b1:=d.o.b.1;have b2:=d.o.b.2.1;go_wp2_with fail;refine(q9I r1 o1 _ 4 4 _ rfl Z0.o (by have:=d.o.b;have:=E0.o;omega) (by decide)).mono ?_;rw[d.o.A2,d.o.R2,d.o.O2];rintro e w3 ⟨rfl,x1,l1⟩;have e1:=η x1;have W1:=η (Off.ext V1.o HG.o l1);clear x1 l1;go_wp2_with fail;refine(q9I r2 o2 _ 8 8 _ rfl e1.o (by have:=d.o.b;have:=E0.o;omega) (by decide)).mono ?_;rw[d.o.A3,d.o.R3,d.o.O3];rintro e w4 ⟨rfl,M0,p1⟩;have f1:=η M0;have X1:=η (Off.ext W1.o HG.o p1);have F2:=M0.lt;clear M0 p1;go_wp2_with fail;have H0:Mbx (w4.alloc (.cells #[.int .i64 a1,.int .i64 a2,.int .u64 a3,.slice none 0 0] 47)) w4.heap.size a1 a2 a3 (.slice none 0 0):=heap_alloc_new _ _;refine(q9I r3 o3 _ 1 1 _ rfl (f1.o.ext (q0B _ _)) (by have:=d.o.b;have:=E0.o;omega) (by decide)).mono ?_;rw[d.o.A4,d.o.R4,d.o.O4];rintro e w5 ⟨rfl,y1,I0⟩;have C0:=η (H0.same (I0.block _ H0.lt (by omega)));have g1:=η y1;have Y1:=η (Off.ext (X1.o.trans (q0B _ _)) HG.o I0);have G2:w4.heap.size<w5.heap.size:=C0.o.lt;have b4:=d.o.b.2.2.2.1;have S1:Hd (r4.length<=4611686018427387903):=η (by have:=d.o.b;have:=E0.o;omega);clear y1 I0 H0 V1 W1 X1 Z0 e1 f1 P1 hf4 w2 w3;go_wp2_with fail
 go_loopw [9] (fun i w'=> ∃(k:Nat) (S:List UInt8) (u0:Bool) (acc:List (List Int)) (v:Value) (vs:List Value),k<=a4/\i= .int .i64 k/\Rdr w' w1.heap.size S u0/\q4T (a4-k) S u0 acc=q4T a4 r4 o4 []/\Mbx w' w4.heap.size a1 a2 a3 v/\OGr w' w5.heap.size 37 3 v vs acc/\acc.length=k/\(∀r∈acc,y1E r)/\S.length<=4611686018427387903/\w5.heap.size<=w'.heap.size/\Ext (w.alloc (.cells #[.int .i64 0,.int .i64 0,.int .u64 0,.slice none 0 0] 47)) w') (fun i _=>a4-(intOf i).toNat)
 case atStart=>exact⟨0,r4,o4,[],_,[],υ _,rfl,g1.o,rfl,C0.o,OGr.nil _ _ _ _,rfl,by simp,S1.o,ι _,Y1.o⟩
 case round =>
  obtain⟨k,S,u0,acc,v,vs,hk,rfl,t0,j1,j2,M1,c2,P0,k2,l2,hx⟩:=hrel;obtain⟨ao,co,rfl⟩:=M1.own.slice;have T0:=t0.c1;have F1:=η t0;have V:=η j1;have s0:=η j2;have e0:=η M1;have q0:=η c2;have N:=η P0;have U1:=η k2;have R:=η hx;have I1:=η l2;clear g1 C0 Y1 S1;clear t0 j1 j2 M1 c2 P0 k2 l2 hx;by_cases M2:k<a4
  ·cases u0 with
   | false=>
    have HS:Hd (q3T s=z5q):=η (E.o (q9A (by rw[d.o.parse,<-V.o,z9J])));clear d0 d1 d2 d3 z0 z1 z2 z3 b1 b2;obtain⟨d0,d1,d2,d3⟩:=z5t R.o;obtain⟨z0,z1,z2,z3⟩:=z4a R.o;go_wp2_with fail
    ((try simp only[Exit.inBlock,Exit.then]);refine bodyPost_ret (v:= .tuple #[.agg #[_,_,_,_],_]) (by rw[results_cell_tmp rfl];go_simp;exact⟨⟨rfl,rfl,rfl,rfl⟩,rfl⟩) rfl ?_)
    exact RetM.bad ((q0B _ _).trans R.o) _ (ι _) s HS.o _ _ _ _
   | true =>
    go_wp2_with fail;refine(q9I S true _ 1 1 _ rfl F1.o (by have:=U1.o;omega) (by decide)).mono ?_;obtain⟨a,ha⟩: ∃x,q3b 1 S=x:=⟨_,rfl⟩
    have ba:(a:Int)<256:=by have:=q4z 1 S;rw[ha] at this;exact Int.ofNat_lt.2 this
    have HA:=η ha;rw[ha];clear ha;rintro e w6 ⟨rfl,N0,o0⟩;have k0:=η N0;have j0:=η o0;have R0:Hd ((q2H 1 S).length<=4611686018427387903):=η (by have:=q4y 1 S;have:=U1.o;omega);have i2:w1.heap.size<w6.heap.size:=N0.lt;have G1:=η o0.size;have J1:Hd (w5.heap.size<=w6.heap.size):=η (by have:=I1.o;have:=o0.size;omega);clear N0 o0;go_wp2_with fail
    go_loopw [10,11] (fun E2 i w'=> ∃(j:Nat) (U:List UInt8) (i0:Bool) (row:List Int),j<=a/\i= .int .i64 j/\Rdr w' w1.heap.size U i0/\z2Q j U i0 row=z2Q a (q2H 1 S) (q3X 1 S true) []/\Own w' w6.heap.size 3 1 E2 row.length (row.map (Value.int .i64))/\row.length+j=a/\(∀x∈row,z7G x)/\U.length<=4611686018427387903/\Off w1.heap.size w6 w') (fun _ i _=>(intOf i).toNat)
    case atStart=>exact⟨a,_,_,[],ι _,rfl,k0.o,rfl,Own.nil _ _ _ _,by simp,by simp,R0.o,Off.refl _ _⟩
    case round =>
     obtain⟨j,U,i0,row,hj,rfl,O0,G0,K0,N2,t1,C1,q1⟩:=hrel;have e2:=O0.c1;have O:=η O0;have M:=η G0;have q:=η K0;have D0:=η t1;have l0:=η C1;have X:=η q1;clear O0 G0 K0 t1 C1 q1
     cases j with
     | zero =>
      have HD:Hd (z2Q a (q2H 1 S) (q3X 1 S true) []=(row,U,i0)):=η (by rw[<-M.o];rfl);have I:=η (j0.o.trans X.o);obtain⟨ai,ci,rfl⟩:=q.o.slice;have F:=η (s0.o.same (I.o.block _ s0.o.lt (by omega)));have m1:=F.o.cs;obtain⟨_,_,_,m3,_⟩:=m1;have a0:=(Off.ogr e0.o (show w1.heap.size<w5.heap.size by omega) I.o).ext (q0B _ (.cells #[.slice ai row.length ci] 37));have C:=η a0;clear a0;have L1:acc.length<=255:=by have:=q0.o;omega
      have g0:=η q.o;have Y:=η O.o;clear q O M R0 X k0 j0 d0 d1 d2 d3 z0 z1 z2 z3 b1 b2 e2 T0;have y2:w5.heap.size<=wr.heap.size:=by have:=I1.o;have:=I.o.size;omega
      go_wp2_with (at_builtin;refine q0p rfl _ _ 45 rfl w5.heap.size 37 _ 1 24 Tryz.underlying45 Tryz.infoInts rfl (by decide) _ _ _ rfl C.o.own _ _ _ [.slice ai row.length ci] rfl rfl (fun h=>by cases h) (Rd.lit _ _ _) (by intro u hu;rw[List.mem_singleton.1 hu];rfl) (by omega) (by omega) (by simp;omega) ?_;intro v' w8 D hg _;obtain⟨ap,cp,rfl⟩:=D.slice;have W:=η ((F.o.same ((q0B _ _).block _ F.o.lt)).same (hg.block _ (by have:=F.o.lt;simp;omega) (by intro e;have:=(C.o.own.lt _ e.symm).1;omega)));have ⟨_,_,_,m4,m5⟩:=W.o.cs)
      have J:Rdr w8 w1.heap.size U i0:=(Y.o.ext (q0B _ _)).same (hg.block _ (by have:=Y.o.lt;simp;omega) (by intro e;have:=(C.o.own.lt _ e.symm).1;omega));have G:=q1d ((Off.below R.o HG.o R.o.size I.o).alloc (Ω R.o.size I.o.size) (.cells #[.slice ai row.length ci] 37)) (C.o.own.base (by have:=HG.o;omega)) hg (Ω R.o.size (Ω I.o.size (q0B _ _).size));have Z:=C.o.push (l:=row) (by decide) (g0.o.ext ((Ext.refl _).alloc _)) (show w5.heap.size<=w6.heap.size from J1.o) (fun j g hh=>Ψ (e0.o.lt j g hh) G1.o) D hg;have Q:=η J;have v0:=η (Below.setCell G (p:=⟨w4.heap.size,3,none⟩) (by have:=HG.o;show _<=w4.heap.size;omega) (.slice ap (acc.length+1) cp));have r0:=η Z;have b0:=hg.size;have H1:Hd (w5.heap.size<=w8.heap.size):=η (by simp at b0;omega);clear J G Z D hg b0;go_wp2_with fail
      go_roundw
      case rel=>
       refine⟨k+1,U,i0,acc++[row],.slice ap (acc.length+1) cp,vs++[.slice ai row.length ci],by omega,by go_num,Q.o.same (Below.heap_setCell _ _ _ _ (show w1.heap.size≠w4.heap.size by omega)),?_,W.o.set _,r0.o.setBelow (by omega) _ _,by rw[θ,q0.o];rfl,?_,l0.o,Ω H1.o (Off.set (g:=w4.heap.size) w8 3 _).size,v0.o⟩
       ·rw[<-V.o]
        have e:a4-k=(a4-(k+1))+1:=by omega
        rw[e,q8s HA.o HD.o]
       ·intro r hr
        rw[List.mem_append,Γ] at hr;rcases hr with hr|rfl
        ·exact N.o r hr
        ·exact⟨by omega,D0.o⟩
      case measure=>simp[intOf];omega
     | succ j =>
      cases i0 with
      | false =>
        have HD:Hd (z2Q a (q2H 1 S) (q3X 1 S true) []=(row,U,false)):=η (by rw[<-M.o];exact y0t);have I:=η (j0.o.trans X.o);obtain⟨ai,ci,rfl⟩:=q.o.slice;have F:=η (s0.o.same (I.o.block _ s0.o.lt (by omega)));have m1:=F.o.cs;obtain⟨_,_,_,m3,_⟩:=m1;have a0:=(Off.ogr e0.o (show w1.heap.size<w5.heap.size by omega) I.o).ext (q0B _ (.cells #[.slice ai row.length ci] 37));have C:=η a0;clear a0;have L1:acc.length<=255:=by have:=q0.o;omega
        have g0:=η q.o;have Y:=η O.o;clear q O M R0 X k0 j0 d0 d1 d2 d3 z0 z1 z2 z3 b1 b2 T0;have C2:(0:Int)<(j:Int)+1:=by omega
        have y2:w5.heap.size<=wr.heap.size:=by have:=I1.o;have:=I.o.size;omega
        go_wp2_with (at_builtin;refine q0p rfl _ _ 45 rfl w5.heap.size 37 _ 1 24 Tryz.underlying45 Tryz.infoInts rfl (by decide) _ _ _ rfl C.o.own _ _ _ [.slice ai row.length ci] rfl rfl (fun h=>by cases h) (Rd.lit _ _ _) (by intro u hu;rw[List.mem_singleton.1 hu];rfl) (by omega) (by omega) (by simp;omega) ?_;intro v' w8 D hg _;obtain⟨ap,cp,rfl⟩:=D.slice;have W:=η ((F.o.same ((q0B _ _).block _ F.o.lt)).same (hg.block _ (by have:=F.o.lt;simp;omega) (by intro e;have:=(C.o.own.lt _ e.symm).1;omega)));have ⟨_,_,_,m4,m5⟩:=W.o.cs)
        have J:Rdr w8 w1.heap.size U false:=(Y.o.ext (q0B _ _)).same (hg.block _ (by have:=Y.o.lt;simp;omega) (by intro e;have:=(C.o.own.lt _ e.symm).1;omega));have G:=q1d ((Off.below R.o HG.o R.o.size I.o).alloc (Ω R.o.size I.o.size) (.cells #[.slice ai row.length ci] 37)) (C.o.own.base (by have:=HG.o;omega)) hg (Ω R.o.size (Ω I.o.size (q0B _ _).size));have Z:=C.o.push (l:=row) (by decide) (g0.o.ext ((Ext.refl _).alloc _)) (show w5.heap.size<=w6.heap.size from J1.o) (fun j g hh=>Ψ (e0.o.lt j g hh) G1.o) D hg;have Q:=η J;have v0:=η (Below.setCell G (p:=⟨w4.heap.size,3,none⟩) (by have:=HG.o;show _<=w4.heap.size;omega) (.slice ap (acc.length+1) cp));have r0:=η Z;have b0:=hg.size;have H1:Hd (w5.heap.size<=w8.heap.size):=η (by simp at b0;omega);clear J G Z D hg b0;go_wp2_with fail
        go_roundw
        case rel=>
         refine⟨k+1,U,false,acc++[row],.slice ap (acc.length+1) cp,vs++[.slice ai row.length ci],by omega,by go_num,Q.o.same (Below.heap_setCell _ _ _ _ (show w1.heap.size≠w4.heap.size by omega)),?_,W.o.set _,r0.o.setBelow (by omega) _ _,by rw[θ,q0.o];rfl,?_,l0.o,Ω H1.o (Off.set (g:=w4.heap.size) w8 3 _).size,v0.o⟩
         ·rw[<-V.o]
          have e:a4-k=(a4-(k+1))+1:=by omega
          rw[e,q8s HA.o HD.o]
         ·intro r hr
          rw[List.mem_append,Γ] at hr;rcases hr with hr|rfl
          ·exact N.o r hr
          ·exact⟨by omega,D0.o⟩
        case measure=>simp[intOf];omega
      | true =>
       obtain⟨ai,ci,rfl⟩:=q.o.slice;have I2:row.length<=255:=by omega
       have C2:(0:Int)<(j:Int)+1:=by omega
       clear k0 R0 G1 J1 s0 e0 F1 N d0 d1 d2 d3 z0 z1 z2 z3 b1 b2 T0;go_wp2_with fail;refine(q9I U true _ 4 4 _ rfl O.o (by have:=l0.o;omega) (by decide)).mono ?_;obtain⟨x,W0⟩: ∃x,q3b 4 U=x:=⟨_,rfl⟩
       have bx:(x:Int)<4294967296:=by have:=q4z 4 U;rw[W0] at this;exact Int.ofNat_lt.2 this
       have x2:=η W0;rw[W0];clear W0;rintro e w8 ⟨rfl,J,J0⟩;have Q:=η J;have X0:=η (X.o.trans J0);have f0:=η ((Off.own q.o i2 J0).ext (q0B _ (.cells #[.int .i64 x] 3)));have b0:=X0.o.size;clear J J0 O q e2
       go_wp2_with (at_builtin;refine q0p rfl _ _ 37 rfl w6.heap.size 3 _ 1 8 Tryz.underlying37 Tryz.infoInt rfl (by decide) _ _ _ rfl f0.o _ _ _ [.int .i64 x] rfl rfl (fun h=>by cases h) (Rd.lit _ _ _) (by intro u hu;rw[List.mem_singleton.1 hu];rfl) (by omega) (by omega) (Ω b0 (q0B _ _).size) ?_;intro v' w9 L0 K1 _)
       have B1:Rdr w9 w1.heap.size (q2H 4 U) (q3X 4 U true):=(Q.o.ext (q0B _ _)).same (K1.block _ (by have:=Q.o.lt;simp;omega) (by intro e;have:=(f0.o.lt _ e.symm).1;omega));have s1:=Off.grown (X0.o.trans (Off.of_ext (q0B _ _))) f0.o K1 (ι _);have p0:Own w9 w6.heap.size 3 1 v' (row++[(x:Int)]).length ((row++[(x:Int)]).map (Value.int .i64)):=by rw[θ,List.map_append];exact L0
       have T1:=η B1;have Q1:=η s1;have E1:=η p0;clear B1 s1 p0 L0 K1 b0;go_wp2_with fail
       go_roundw
       case rel=>
        refine⟨j,q2H 4 U,q3X 4 U true,row++[(x:Int)],by omega,by go_num,T1.o,?_,E1.o,by simp;omega,?_,by have:=q4y 4 U;have:=l0.o;omega,Q1.o⟩
        ·rw[<-M.o,z2Q,ξ rfl,x2.o]
        ·intro y hy
         rw[List.mem_append,Γ] at hy;rcases hy with hy|rfl
         ·exact D0.o y hy
         ·exact⟨by omega,bx⟩
       case measure=>simp[intOf]
  ·have g2:k=a4:=by omega
   have HE:Hd (q3B t=⟨a1,a2,a3,acc,S,u0⟩):=η (by rw[d.o.parse,<-V.o,g2,Nat.sub_self];rfl);clear g2;clear d0 d1 d2 d3 z0 z1 z2 z3 b1 b2
   cases u0 with
   | false=>
    have HS:Hd (q3T s=z5q):=η (E.o (q9A (by rw[HE.o])));obtain⟨d0,d1,d2,d3⟩:=z5t R.o;obtain⟨z0,z1,z2,z3⟩:=z4a R.o;go_wp2_with fail
    ((try simp only[Exit.inBlock,Exit.then]);refine bodyPost_ret (v:= .tuple #[.agg #[_,_,_,_],_]) (by rw[results_cell_tmp rfl];go_simp;exact⟨⟨rfl,rfl,rfl,rfl⟩,rfl⟩) rfl ?_)
    exact RetM.bad ((q0B _ _).trans R.o) _ (ι _) s HS.o _ _ _ _
   | true =>
    have B2:=F1.o.c0;obtain⟨m0,m1,m2,m3,_⟩:=s0.o.cs;by_cases hs:S=[]
    ·subst hs
     obtain⟨J2,K2,he,Z⟩:=e0.o.grid
     cases he;have D1:acc.flatten.length<=17592186044416:=by have:=q8m 255 acc fun r hr=>(N.o r hr).1;have:=q0.o;omega
     have u1: ∀x∈acc.flatten,z7G x:=fun x hx=>by obtain⟨r,h1,h2⟩:=List.mem_flatten.1 hx;exact(N.o r h1).2 x h2
     have r0:=η Z;have i1:=η D1;have Y0:=η u1;have B3:=η d.o.b.2.2.1;clear V q0 Z D1 u1;go_wp2_with fail;refine(q9v a1 a2 a3 _ _ _ acc _ r0.o i1.o (fun x hx=>y2v (Y0.o x hx))).mono ?_;rintro e w8 ⟨rfl,G⟩;have F0:=η (R.o.trans G);have N1:=η (r0.o.ext G);have v0:=η G;have p2:=q0A G m0;have q2:=q0A G m1;have t2:=q0A G m2;have u2:=q0A G m3;clear G m0 m1 m2 m3 B2 T0;by_cases hv:q0k a1 a2 acc=false
     ·have HS:Hd (q3T s=z5q):=η (E.o (z7R (by rw[HE.o];exact hv)))
      rw[hv];obtain⟨d0,d1,d2,d3⟩:=z5t F0.o;obtain⟨z0,z1,z2,z3⟩:=z4a F0.o;go_wp2_with fail
      ((try simp only[Exit.inBlock,Exit.then]);refine bodyPost_ret (v:= .tuple #[.agg #[_,_,_,_],_]) (by rw[results_cell_tmp rfl];go_simp;exact⟨⟨rfl,rfl,rfl,rfl⟩,rfl⟩) rfl ?_)
      exact RetM.bad ((q0B _ _).trans F0.o) _ (ι _) s HS.o _ _ _ _
     have hv:q0k a1 a2 acc=true:=by simpa using hv
     have HV:=η hv;rw[hv];clear hv;go_wp2_with fail;refine(y2U a1 a2 a3 _ _ _ acc _ N1.o i1.o (fun x hx=>y2v (Y0.o x hx)) (by omega) B3.o).mono ?_;obtain⟨P,hP⟩: ∃P,q3a a1 a2 a3 acc=(P,0):=⟨_,by unfold q3a;rw[HV.o];rfl⟩
     have HP:=η hP;rw[hP];clear hP;rintro e w9 ⟨rfl,h0⟩;have S0:=η (F0.o.trans h0);have v2:=η (v0.o.trans h0);have n0:=q0A h0 p2;have n1:=q0A h0 q2;have n2:=q0A h0 t2;have n3:=q0A h0 u2;obtain⟨d0,d1,d2,d3⟩:=z5t S0.o;obtain⟨z0,z1,z2,z3⟩:=z4a S0.o;clear h0 p2 q2 t2 u2 N1 F0;by_cases V0:P=s
     ·have HS:Hd (q3T s=⟨a1,a2,a3,acc,0⟩):=η (by rw[Q0.o (z1R (by rw[HE.o]) (by rw[HE.o]) (by rw[HE.o];exact HV.o) (by rw[HE.o];show(q3a a1 a2 a3 acc).1=s;rw[HP.o];exact V0)),HE.o])
      subst V0;go_wp2_with fail
      ((try simp only[Exit.inBlock,Exit.then]);refine bodyPost_ret (v:= .tuple #[.agg #[_,_,_,_],_]) (by rw[results_cell_tmp rfl];go_simp;exact⟨⟨rfl,rfl,rfl,rfl⟩,rfl⟩) rfl ?_)
      have hw:w.heap.size<w5.heap.size:=by have:=HG.o;simp at this;omega
      rw[HS.o];exact⟨.slice ao acc.length co,vs,rfl,((((e0.o.ext v2.o).setBelow hw _ _).setBelow hw _ _).setBelow hw _ _|>.setBelow hw _ _).base (by omega),z3b ((q0B _ _).trans S0.o) _ (ι _) _ _ _ _⟩
     ·have HS:Hd (q3T s=z5q):=η (E.o (z7P (by rw[HE.o];show(q3a a1 a2 a3 acc).1≠s;rw[HP.o];exact V0)))
      have H2:(P==s)=false:=by simpa using V0
      go_wp2_with fail
      ((try simp only[Exit.inBlock,Exit.then]);refine bodyPost_ret (v:= .tuple #[.agg #[_,_,_,_],_]) (by rw[results_cell_tmp rfl];go_simp;exact⟨⟨rfl,rfl,rfl,rfl⟩,rfl⟩) rfl ?_)
      exact RetM.bad ((q0B _ _).trans S0.o) _ (ι _) s HS.o _ _ _ _
    ·have HS:Hd (q3T s=z5q):=η (E.o (z7Q (by rw[HE.o];exact hs)))
     have P2:(S==[])=false:=by simpa using hs
     obtain⟨d0,d1,d2,d3⟩:=z5t R.o;obtain⟨z0,z1,z2,z3⟩:=z4a R.o;go_wp2_with fail
     ((try simp only[Exit.inBlock,Exit.then]);refine bodyPost_ret (v:= .tuple #[.agg #[_,_,_,_],_]) (by rw[results_cell_tmp rfl];go_simp;exact⟨⟨rfl,rfl,rfl,rfl⟩,rfl⟩) rfl ?_)
     exact RetM.bad ((q0B _ _).trans R.o) _ (ι _) s HS.o _ _ _ _
end
section
theorem q6c(k x:Nat)(r:List UInt8)(h:x<256^k):q3b k (be k x++r)=x/\q2H k (be k x++r)=r/\ ∀ok,q3X k (be k x++r) ok=ok:=by
 have b:¬(be k x++r).length<k:=by simp[q0H]
 refine⟨?_,?_,fun ok=>?_⟩
 ·unfold q3b
  rw[κ b,List.take_left' (q0H k x),q4q,Nat.mod_eq_of_lt h]
 ·unfold q2H
  rw[κ b,List.drop_left' (q0H k x)]
 ·unfold q3X
  rw[κ b]
def b4(x:Int):List UInt8:=be 4 x.toNat
theorem z3k : ∀(l:List Int) (r:List UInt8) (acc:List Int),(∀x∈l,z7G x)->z2Q l.length ((l.map b4).flatten++r) true acc=(acc++l,r,true)
 |[],r,acc,_=>by simp[z2Q]
 | x::l,r,acc,h=>by
  have i:=h x (by simp);obtain⟨d,o⟩:=i;have b:=q6c 4 x.toNat ((l.map b4).flatten++r) (by omega);have e:((x::l).map b4).flatten++r=be 4 x.toNat++((l.map b4).flatten++r):=by simp[b4]
  rw[χ,z2Q,ξ rfl,e,b.1,b.2.1,b.2.2,z3k l r _ fun y j=>h y (by simp[j]),List.append_assoc,Int.toNat_of_nonneg d]
  rfl
theorem z1H : ∀(T:List (List Int)) (r:List UInt8) (acc:List (List Int)),(∀l∈T,y1E l)->q4T T.length ((T.map q0y).flatten++r) true acc=(acc++T,r,true)
 |[],r,acc,_=>by simp[q4T]
 | l ::T,r,acc,h=>by
  have d:=h l (by simp);have b:=q6c 1 l.length ((l.map b4).flatten++((T.map q0y).flatten++r)) (by have:=d.1;omega);have e:((l::T).map q0y).flatten++r=be 1 l.length++((l.map b4).flatten++((T.map q0y).flatten++r)):=by
   simp[q0y,List.append_assoc];rfl
  rw[χ,q4T,ξ rfl,e,b.1,b.2.1,b.2.2,z3k l _ [] d.2];simp only[List.nil_append];rw[z1H T r _ fun y i=>h y (by simp[i]),List.append_assoc]
  rfl
theorem z1h(L:List (List Int)):(q1A L).length<=L.length:=by rw[q3h];exact q6F _ _
theorem z2z(L:List (List Int)):q1A (q1A L)=q1A L:=by
 apply z7w;rcases Nat.eq_zero_or_pos (q1A L).length with h|h
 ·exact .inl (List.eq_nil_of_length_eq_zero h)
 ·exact .inr (z5Y L _ (by omega))
theorem q8P(h:q1x L=true):q1x (q1A L)=true:=by
 have b:=q6u h;have d:=q2B L;exact z1l _ (Ω (z1h L) b.1) (by rw[d];exact b.2.1) (by rw[d];exact b.2.2.1) (by rw[d];exact b.2.2.2)
theorem q5V(h:q0k nx ck L=true):q0k nx ck (q1A L)=true:=by
 have b:=q2q h;rw[q8u b.1 (q8P b.2.1),q2B,List.all_eq_true];intro x d
 simpa using b.2.2 x d
theorem z1K(h:q0k nx ck L=true):q3a nx ck sd (q1A L)=q3a nx ck sd L:=by
 unfold q3a q2J;rw[ξ (q5V h),ξ h,z2z]
theorem z7c(h:q0k nx ck L=true):(q1A L).length<=5/\ ∀l∈q1A L,y1E l:=by
 have d:=q2q h;have i:=q6u (q8P d.2.1);refine⟨i.1,fun l b=>⟨?_,fun x o=>?_⟩⟩
 ·have:l.length<=(q1A L).flatten.length:=(List.sublist_flatten_of_mem b).length_le
  omega
 ·have hm:x∈(q1A L).flatten:=List.mem_flatten.2 ⟨l,b,o⟩
  have j:=i.2.2.1 x hm;rw[q2B] at hm;have q:=d.2.2 x hm;exact⟨j,by omega⟩
theorem q8t(h:q0k nx ck L=true):q3a nx ck sd L=(q1T (q2J nx ck sd L),0):=by unfold q3a;rw[ξ h]
theorem q8d(nx ck sd:Int)(L:List (List Int))(r:List UInt8):
  q2J nx ck sd L++r=[105,109,97,112]++(be 4 nx.toNat++(be 4 ck.toNat++(be 8 sd.toNat++(be 1 (q1A L).length++(((q1A L).map q0y).flatten++r))))):=by
 simp[q2J,q2v,List.append_assoc]
structure z5j(u:List UInt8)(a1 a2 a3 a4:Nat)(r4:List UInt8):Prop where
 f:u=[105,109,97,112]++(be 4 a1++(be 4 a2++(be 8 a3++(be 1 a4++r4))))
 b1:a1<256^4
 b2:a2<256^4
 b3:a3<256^8
 b4:a4<256^1
theorem z2f{u:List UInt8}(h:z5j u a1 a2 a3 a4 r4):
  q3B u=⟨a1,a2,a3,(q4T a4 r4 true []).1,(q4T a4 r4 true []).2.1,(q4T a4 r4 true []).2.2⟩:=by
 obtain⟨rfl,b1,b2,b3,b4⟩:=h;unfold q3B;have b:=q6c 4 a1 (be 4 a2++(be 8 a3++(be 1 a4++r4))) b1;have t2:=q6c 4 a2 (be 8 a3++(be 1 a4++r4)) b2;have d:=q6c 8 a3 (be 1 a4++r4) b3;have i:=q6c 1 a4 r4 b4;have e:([105,109,97,112]++(be 4 a1++(be 4 a2++(be 8 a3++(be 1 a4++r4))))).drop 4=be 4 a1++(be 4 a2++(be 8 a3++(be 1 a4++r4))):=rfl;simp only[e,b.1,b.2.1,b.2.2,t2.1,t2.2.1,t2.2.2,d.1,d.2.1,d.2.2,i.1,i.2.1,i.2.2]
theorem z4Z(h:q0k nx ck L=true)(b:sd<18446744073709551616)(r:List UInt8):
  z5j (q2J nx ck sd L++r) nx.toNat ck.toNat sd.toNat (q1A L).length (((q1A L).map q0y).flatten++r):=by
 have d:=q2q h;have i:=z7c h;exact⟨q8d _ _ _ _ _,by omega,by omega,by omega,by omega⟩
theorem z5M(h:q0k nx ck L=true)(d:0<=sd)(i:sd<18446744073709551616)(r:List UInt8):
  q3B (q2J nx ck sd L++r)=⟨nx,ck,sd,q1A L,r,true⟩:=by
 have b:=q2q h;have j:=z7c h;rw[z2f (z4Z h i r),z1H _ _ _ j.2];simp only[List.nil_append,Int.toNat_of_nonneg b.1.1,Int.toNat_of_nonneg b.1.2.2.1,Int.toNat_of_nonneg d]
theorem z7H(l:List UInt8):q2L (q1T l)=true/\q1z (q1T l)=l:=by
 have i:=q1K l;have d:(q1T l).take ((q1T l).length-4)=l:=by
  rw[i,Nat.add_sub_cancel];unfold q1T;exact List.take_left
 have b:q2L (q1T l)=true:=by
  unfold q2L;rw[d,ζ (show 4<=(q1T l).length by omega),ζ rfl];rfl
 exact⟨b,by unfold q1z;rw[ξ b,d]⟩
theorem z9M(h:q0k nx ck L=true)(d:0<=sd)(i:sd<18446744073709551616):
  q3T (q1T (q2J nx ck sd L))=⟨nx,ck,sd,q1A L,0⟩:=by
 obtain⟨o1,o2⟩:=z7H (q2J nx ck sd L);have b:=z5M h d i [];rw[List.append_nil] at b;have j:q3l (q2J nx ck sd L)=true:=by
  have e:=q8d nx ck sd L [];rw[List.append_nil] at e;unfold q3l;rw[e,Ξ];exact⟨by simp,by simp⟩
 unfold q3T;rw[o1,o2,j,ξ (by rfl),b];have l:q2Y ⟨nx,ck,sd,q1A L,[],true⟩ (q1T (q2J nx ck sd L))=true:=
  z1R rfl rfl (q5V h) (by show(q3a nx ck sd (q1A L)).1=_;rw[z1K h,q8t h])
 rw[l,ξ rfl]
end
end Go.Proofs.YtfiibpgoplcgkaaGreatDoor
namespace Go.Proofs.YtfiibpgoplcgkaaGreatDoor
section
open Go.RowKit
end
end Go.Proofs.YtfiibpgoplcgkaaGreatDoor
