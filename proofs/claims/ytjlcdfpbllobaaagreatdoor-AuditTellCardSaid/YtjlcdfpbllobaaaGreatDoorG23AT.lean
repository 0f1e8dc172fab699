/- Walks. -/
import Derived.Test.YtjlcdfpbllobaaaGreatDoorG18AT
import Derived.Test.YtjlcdfpbllobaaaGreatDoorG22AT
import Derived.Test.YtjlcdfpbllobaaaGreatDoorG19AT
import Derived.Test.YtjlcdfpbllobaaaGreatDoorG21AT
set_option linter.unusedVariables false
set_option linter.unusedSimpArgs false
set_option maxRecDepth 100000
set_option maxHeartbeats 6400000
namespace Go.Proofs.YtjlcdfpbllobaaaGreatDoor
variable {w w1:World}{ao:Option Addr}{n cap i q:Nat}{L:List Ev}{a:Ev}{pos:Int}{C:Cks}
section
open Go.RowKit
def y2U(r:Option (Ev×List UInt8)):Value:=match r with
 |some (e,r)=> .tuple #[evV e,.string ⟨r.toArray⟩,.bool true]
 |none=> .tuple #[evV ev0,.string ⟨#[]⟩,.bool false]
theorem q1o(W:World)(a:Addr)(b:Nat)(m:Go.Mode):(store a (.float .f64 b) m).run Tryz.prog W=stored Tryz.prog W a (.float .f64 b) m:=run_store _ _ _ _ _ rfl
theorem q2J(h:Ext w w1)(a b c:Value):Ext w (((w1.setCell ⟨w.heap.size,0,none⟩ a).setCell ⟨w.heap.size,1,none⟩ b).setCell ⟨w.heap.size,2,none⟩ c):=
 ((h.setCell (p:=⟨w.heap.size,0,none⟩) (ι _) a).setCell (p:=⟨w.heap.size,1,none⟩) (ι _) b).setCell (p:=⟨w.heap.size,2,none⟩) (ι _) c
theorem z9a(s:List UInt8)(w:World)(hl:s.length<=4611686018427387903):
  Calls Tryz.prog 111 #[.string ⟨s.toArray⟩] w fun e w'=>e= .returned (y2U (rdE s))/\Ext w w':=by
 have r:=η (fun W=>z1o s W hl);have u:=η (fun W=>z1o (rdR s) W (by have:=q7d s;omega));have r0:=z3N s;have s0:=z3N (rdR s);have t0:=q7d s;have h0:=q7d (rdR s);have N:=η (fun b W=>q9A (rdT s) (rdT (rdR s)) .f64 b W (by omega) (by omega));have HX:=η (q0B w (.cells #[.string ⟨#[]⟩,.string ⟨#[]⟩,.float .f64 0] 97));have J:=η (Blk.new w 97 #[.string ⟨#[]⟩,.string ⟨#[]⟩,.float .f64 0])
 have x:Hd (∀(W:World) (a b c:Value),Blk W w.heap.size 97 #[a,b,c]-> ∀a' b',W.cell? ⟨w.heap.size,0,none⟩=some a/\W.cell? ⟨w.heap.size,1,none⟩=some b/\W.cell? ⟨w.heap.size,2,none⟩=some c/\
   W.frozen? ⟨w.heap.size,0,none⟩=false/\W.frozen? ⟨w.heap.size,1,none⟩=false/\W.frozen? ⟨w.heap.size,2,none⟩=false/\((W.setCell ⟨w.heap.size,0,none⟩ a').setCell ⟨w.heap.size,1,none⟩ b').frozen? ⟨w.heap.size,2,none⟩=false/\
   ((W.setCell ⟨w.heap.size,0,none⟩ a').setCell ⟨w.heap.size,1,none⟩ b').cell? ⟨w.heap.size,2,none⟩=some c):=η fun W a b c h a' b'=>by
  have h2:=(h.set 0 a').set 1 b';exact⟨h.cell 0,h.cell 1,h.cell 2,h.free 0,h.free 1,h.free 2,h2.free 2,h2.cell 2⟩
 have u0:=q1o;by_cases h1:q8A s=true
 case neg=>
  rw[Bool.not_eq_true] at h1;have Q:Hd (rdE s=none):=η (by unfold rdE;rw[h1];simp);rw[h1] at r;go_enter Tryz.func111,Tryz.ntmps111;go_wp2_with fail;refine(r.o _).mono ?_;rintro e w1 ⟨rfl,d⟩;have l:=η (J.o.ext d);have m:=η (HX.o.trans d);clear d;obtain⟨S,U,V,Z,f1,f2,g2,Y⟩:=x.o w1 _ _ _ l.o (.string ⟨#[]⟩) (.string ⟨#[]⟩);go_wp2_with fail
  ((try simp only[Exit.inBlock,Exit.then]);refine bodyPost_ret (v:= .tuple #[.agg #[.string ⟨#[]⟩,.string ⟨#[]⟩,.float .f64 0],.string ⟨#[]⟩,.bool false]) (by rw[q0T rfl];go_simp) rfl ?_)
  exact⟨by rw[Q.o];rfl,q2J m.o _ _ _⟩
 rw[h1] at r;by_cases h2:q8A (rdR s)=true
 case neg=>
  rw[Bool.not_eq_true] at h2;have Q:Hd (rdE s=none):=η (by unfold rdE;rw[h2];simp);rw[h2] at u;go_enter Tryz.func111,Tryz.ntmps111;go_wp2_with fail;refine(r.o _).mono ?_;rintro e w1 ⟨rfl,d⟩;have l:=η (J.o.ext d);have m:=η (HX.o.trans d);clear d;go_wp2_with fail;refine(u.o _).mono ?_;rintro e w2 ⟨rfl,d⟩;have y:=η (l.o.ext d);have B:=η (m.o.trans d);clear d;obtain⟨S,U,V,Z,f1,f2,g2,Y⟩:=x.o w2 _ _ _ y.o (.string ⟨#[]⟩) (.string ⟨#[]⟩);go_wp2_with fail
  ((try simp only[Exit.inBlock,Exit.then]);refine bodyPost_ret (v:= .tuple #[.agg #[.string ⟨#[]⟩,.string ⟨#[]⟩,.float .f64 0],.string ⟨#[]⟩,.bool false]) (by rw[q0T rfl];go_simp) rfl ?_)
  exact⟨by rw[Q.o];rfl,q2J B.o _ _ _⟩
 rw[h2] at u;obtain⟨R,hR⟩: ∃R,rdR (rdR s)=R:=⟨_,rfl⟩
 rw[hR] at u h0;obtain⟨D,G⟩: ∃T,rdT s=T:=⟨_,rfl⟩
 obtain⟨F,I⟩: ∃T,rdT (rdR s)=T:=⟨_,rfl⟩
 by_cases h3:R.length<8
 ·have Q:Hd (rdE s=none):=η (by unfold rdE;rw[κ (by rw[hR];omega)])
  have hd:decide ((R.length:Int)<8)=true:=ζ (by omega);go_enter Tryz.func111,Tryz.ntmps111;go_wp2_with fail;refine(r.o _).mono ?_;rintro e w1 ⟨rfl,d⟩;have l:=η (J.o.ext d);have m:=η (HX.o.trans d);clear d;go_wp2_with fail;refine(u.o _).mono ?_;rintro e w2 ⟨rfl,d⟩;have y:=η (l.o.ext d);have B:=η (m.o.trans d);clear d;obtain⟨S,U,V,Z,f1,f2,g2,Y⟩:=x.o w2 _ _ _ y.o (.string ⟨#[]⟩) (.string ⟨#[]⟩);go_wp2_with fail
  ((try simp only[Exit.inBlock,Exit.then]);refine bodyPost_ret (v:= .tuple #[.agg #[.string ⟨#[]⟩,.string ⟨#[]⟩,.float .f64 0],.string ⟨#[]⟩,.bool false]) (by rw[q0T rfl];go_simp) rfl ?_)
  exact⟨by rw[Q.o];rfl,q2J B.o _ _ _⟩
 have hd:decide ((R.length:Int)<8)=false:=ε (by omega);have s1:=q4n R 8 8 rfl (by omega);have s2:=q3D R 8 8 rfl (by omega);have l8:(R.take 8).length=8:=by rw[Θ];omega
 have HG:=η (fun W=>q9H (R.take 8) W (by omega));rw[show(R.take 8).take 8=R.take 8 from Δ (by omega)] at HG;have e0:=q2C (R.take 8);rw[l8] at e0;obtain⟨b,hb⟩: ∃b,q1K (R.take 8)=b:=⟨_,rfl⟩
 rw[hb] at HG;have q0:=z0O b;rw[G,I] at N;rw[G] at r;rw[I] at u;by_cases h4:q0w D F=0
 case neg=>
  have Q:Hd (rdE s=none):=η (by unfold rdE;rw[κ (by rw[G,I];exact fun h=>h4 h.2.2.2)]);have g0:(q0w D F !=0)=true:=by simpa using h4
  obtain⟨E,hE⟩: ∃E,q0w D F=E:=⟨_,rfl⟩
  rw[hE] at N g0;clear hE hb e0 G I hR h1 h2 h3 h4;go_enter Tryz.func111,Tryz.ntmps111;go_wp2_with fail;refine(r.o _).mono ?_;rintro e w1 ⟨rfl,d⟩;have l:=η (J.o.ext d);have m:=η (HX.o.trans d);clear d;go_wp2_with fail;refine(u.o _).mono ?_;rintro e w2 ⟨rfl,d⟩;have y:=η (l.o.ext d);have B:=η (m.o.trans d);clear d;go_wp2_with fail;refine(HG.o _).mono ?_;rintro e w3 ⟨rfl,d⟩;have M:=η (y.o.ext d);have b0:=η (B.o.trans d);clear d;obtain⟨S,U,V,Z,f1,f2,g2,Y⟩:=x.o w3 _ _ _ M.o (.string ⟨D.toArray⟩) (.string ⟨F.toArray⟩);go_wp2_with fail;refine(N.o b _).mono ?_;rintro e w4 ⟨rfl,d⟩;have a0:=η ((((M.o.set 0 (.string ⟨D.toArray⟩)).set 1 (.string ⟨F.toArray⟩)).set 2 (.float .f64 b)).ext d);have d0:=η ((q2J b0.o (.string ⟨D.toArray⟩) (.string ⟨F.toArray⟩) (.float .f64 b)).trans d);clear d S U V Z f1 f2 g2 Y;obtain⟨S,U,V,Z,f1,f2,g2,Y⟩:=x.o w4 _ _ _ a0.o (.string ⟨#[]⟩) (.string ⟨#[]⟩);go_wp2_with fail
  ((try simp only[Exit.inBlock,Exit.then]);refine bodyPost_ret (v:= .tuple #[.agg #[.string ⟨#[]⟩,.string ⟨#[]⟩,.float .f64 0],.string ⟨#[]⟩,.bool false]) (by rw[q0T rfl];go_simp) rfl ?_)
  exact⟨by rw[Q.o];rfl,q2J d0.o _ _ _⟩
 have Q:Hd (rdE s=some (⟨D,F,b⟩,R.drop 8)):=η (by unfold rdE;rw[G,I,hR,ξ ⟨h1,h2,by omega,h4⟩,hb]);rw[h4] at N;clear hb e0 G I hR h1 h2 h3 h4;go_enter Tryz.func111,Tryz.ntmps111;go_wp2_with fail;refine(r.o _).mono ?_;rintro e w1 ⟨rfl,d⟩;have l:=η (J.o.ext d);have m:=η (HX.o.trans d);clear d;go_wp2_with fail;refine(u.o _).mono ?_;rintro e w2 ⟨rfl,d⟩;have y:=η (l.o.ext d);have B:=η (m.o.trans d);clear d;go_wp2_with fail;refine(HG.o _).mono ?_;rintro e w3 ⟨rfl,d⟩;have M:=η (y.o.ext d);have b0:=η (B.o.trans d);clear d;obtain⟨S,U,V,Z,f1,f2,g2,Y⟩:=x.o w3 _ _ _ M.o (.string ⟨D.toArray⟩) (.string ⟨F.toArray⟩);go_wp2_with fail;refine(N.o b _).mono ?_;rintro e w4 ⟨rfl,d⟩;have X:=η ((((M.o.set 0 (.string ⟨D.toArray⟩)).set 1 (.string ⟨F.toArray⟩)).set 2 (.float .f64 b)).ext d);have a0:=η (X.o.ext (Ext.refl w4).drew);have d0:=η (((q2J b0.o (.string ⟨D.toArray⟩) (.string ⟨F.toArray⟩) (.float .f64 b)).trans d).drew);clear d S U V Z f1 f2 g2 Y;obtain⟨S,U,V,Z,f1,f2,g2,Y⟩:=x.o w4.drew _ _ _ a0.o (.string ⟨D.toArray⟩) (.string ⟨F.toArray⟩);obtain⟨i0,j0,k0,m0,n0,o0,p0,l0⟩:=x.o w4 _ _ _ X.o (.string ⟨D.toArray⟩) (.string ⟨F.toArray⟩);go_wp2_with fail;refine q1B (fun W=>W.cell? ⟨w.heap.size,0,none⟩=some (.string ⟨D.toArray⟩)/\W.cell? ⟨w.heap.size,1,none⟩=some (.string ⟨F.toArray⟩)/\W.cell? ⟨w.heap.size,2,none⟩=some (.float .f64 b)) 3 (by kernel_rfl) ⟨S,U,V⟩ (fun j=>?_);refine q7x (i:=0) (v:=?_) rfl (by kernel_rfl) (fun _ _ _ h=>h) (Or.inl ⟨by rfl,?_⟩) j (fun j=>?_)
 rotate_left
 ·(intro w O;(try dsimp only at O);go_simp;try with_reducible rfl)
 try simp only[Act.put,π,ψ,ω]
 refine q0p (i:=1) (v:=?_) rfl (by kernel_rfl) (fun _ _ _ h=>h) (Or.inl ⟨by rfl,?_⟩) j (fun j=>?_)
 rotate_left
 ·(intro w O;(try dsimp only at O);go_simp;try with_reducible rfl)
 try simp only[Act.put,π,ψ,ω]
 refine q0p (i:=2) (v:=?_) rfl (by kernel_rfl) (fun _ _ _ h=>h) (Or.inl ⟨by rfl,?_⟩) j (fun j=>?_)
 rotate_left
 ·(intro w O;(try dsimp only at O);go_simp;try with_reducible rfl)
 try simp only[Act.put,π,ψ,ω]
 refine q1L (by kernel_rfl) ?_
 try simp only[List.drop_succ_cons,List.drop_zero]
 clear j;go_wp2_with fail
 ((try simp only[Exit.inBlock,Exit.then]);refine bodyPost_ret (v:= .tuple #[.agg #[.string ⟨D.toArray⟩,.string ⟨F.toArray⟩,.float .f64 b],.string ⟨(R.drop 8).toArray⟩,.bool true]) (by rw[q0T rfl];go_simp) rfl ?_)
 exact⟨by rw[Q.o];rfl,q2J d0.o _ _ _⟩
theorem z0G(e:Ev)(L:List Ev):q6V (e::L)=evc e++q6V L:=rfl
theorem q9C : ∀(L:List Ev) (i j:Nat),i<L.length->j<3->(q6V L)[i*3+j]? =(evc (L.getD i ev0))[j]?
 |[],i,j,h,_=>by simp at h
 | k::L,0,j,_,hj=>by
  rw[z0G,List.getElem?_append_left (by simp[evc];omega)];simp
 | k::L,i+1,j,h,hj=>by
  rw[z0G,List.getElem?_append_right (by simp[evc];omega),show(i+1)*3+j-(evc k).length=i*3+j from by simp[evc];omega,q9C L i j (by simpa using h) hj];simp
structure Evs(w:World)(ao:Option Addr)(n cap:Nat)(L:List Ev):Prop where
 len:L.length=n
 fits:n<=cap
 bound:cap<=9223372036854775807
 nil:ao=none->cap=0
 rd:Rd w ao (q6V L)
theorem Evs.ext{w':World}(h:Evs w ao n cap L)(k:Ext w w'):Evs w' ao n cap L:=⟨h.len,h.fits,h.bound,h.nil,h.rd.ext k⟩
theorem Evs.at(h:Evs w ao n cap L)(s:i<n):
  ∃b off,ao=some ⟨b,off,none⟩/\w.cell? ⟨b,off+i*3,none⟩=some (.string ⟨(L.getD i ev0).ty.toArray⟩)/\w.cell? ⟨b,off+i*3+1,none⟩=some (.string ⟨(L.getD i ev0).da.toArray⟩)/\w.cell? ⟨b,off+i*3+2,none⟩=some (.float .f64 (L.getD i ev0).we):=by
 have u:=h.len;have m:=q9C L i 0 (by omega) (by decide);have o:=q9C L i 1 (by omega) (by decide);have r:=q9C L i 2 (by omega) (by decide);obtain⟨b,off,rfl,l⟩:=h.rd _ _ m;obtain⟨_,_,d,h1⟩:=h.rd _ _ o
 cases d;obtain⟨_,_,j,h2⟩:=h.rd _ _ r
 cases j;exact⟨b,off,rfl,l,h1,h2⟩
theorem Evs.of_own{B:Nat}{e:TypeId}{v:Value}(h:Own w B e 3 v L.length (q6V L)): ∃ao cap,v= .slice ao L.length cap/\Evs w ao L.length cap L:=by
 obtain⟨ao,cap,rfl,h1,h2,h3,h4⟩:=h.rd;exact⟨ao,cap,rfl,rfl,h1,h2,h3,h4⟩
theorem z0H : ∀(L:List Ev) (k:Nat),k<L.length->q7y (L.take k)=0->q7y L=if q0w (L.getD k ev0).ty (L.getD k ev0).da=0 then q7y (L.drop (k+1)) else q0w (L.getD k ev0).ty (L.getD k ev0).da
 |[],k,h,_=>by simp at h
 |e::L,0,_,_=>by simp[q7y]
 | e ::L,k+1,h,h0=>by
  rw[List.take_succ_cons,q7y] at h0
  split at h0
  ·rename_i h1
   rw[q7y,ξ h1,z0H L k (by simpa using h) h0];simp
  ·rename_i h1;exact absurd h0 h1
theorem z0I : ∀(L:List Ev) (e:Ev),q7y L=0->q7y (L++[e])=q0w e.ty e.da
 | [],e,_=>by
  rw[List.nil_append,q7y,q7y]
  split
  ·rename_i h;exact h.symm
  ·rfl
 | x::L,e,h=>by
  rw[q7y] at h
  split at h
  ·rename_i h1;rw[List.cons_append,q7y,ξ h1,z0I L e h]
  ·rename_i h1;exact absurd h h1
def q4m(L:List Ev):Prop:= ∀e∈L,e.ty.length<=4611686018427387903/\e.da.length<=4611686018427387903
theorem q8u(st:List UInt8)(fi:Int)(w:World)(B:Evs w ao n cap L)(i0:st.length<=4611686018427387903)(hL:q4m L):
  Calls Tryz.prog 45 #[.agg #[.string ⟨st.toArray⟩,.int .i64 fi,.slice ao n cap]] w fun e w'=>e= .returned (.int .i64 (q0l st fi L))/\Ext w w':=by
 have b1:=B.fits;have b2:=B.bound;have d:=B.len;have E:=η (q0B w (.cells #[.string ⟨st.toArray⟩,.int .i64 fi,.slice ao n cap] 118));have m:=Blk.new w 118 #[.string ⟨st.toArray⟩,.int .i64 fi,.slice ao n cap];have HE:=η B;have HL:=η hL;clear B hL;by_cases h1:st=[]
 ·subst h1
  have s:Hd (q0l [] fi L=2):=η (by unfold q0l;rw[ξ (.inl rfl)]);clear m;go_enter Tryz.func45,Tryz.ntmps45;go_wp2_with fail
  go_step3
  go_wp2_with fail;rw[Exit.noGoto_ret];go_ret;exact⟨by rw[s.o];rfl,E.o⟩
 have b0:(st==[])=false:=beq_eq_false_iff_ne.2 h1;by_cases h2:n=0
 ·subst h2
  have s:Hd (q0l st fi L=2):=η (by unfold q0l;rw[ξ (.inr (List.eq_nil_of_length_eq_zero d))]);clear m h1 d;go_enter Tryz.func45,Tryz.ntmps45;go_wp2_with fail
  go_step3
  go_wp2_with fail;rw[Exit.noGoto_ret];go_ret;exact⟨by rw[s.o];rfl,E.o⟩
 have d0:((n:Int)==0)=false:=by simpa using h2
 have u:L≠[]:=fun e=>h2 (by rw[<-d,e];rfl)
 have j:¬(st=[]\/L=[]):=fun h=>h.elim h1 u
 by_cases h3:32<st.length
 ·have s:Hd (q0l st fi L=3):=η (by unfold q0l;rw[κ j,ξ (.inl h3)])
  have hd:decide ((32:Int)<(st.length:Int))=true:=ζ (by omega);clear m h1 h2 u j d;go_enter Tryz.func45,Tryz.ntmps45;go_wp2_with fail
  go_step3
  go_wp2_with fail;rw[Exit.noGoto_ret];go_ret;exact⟨by rw[s.o];rfl,E.o⟩
 by_cases h4:8<n
 ·have s:Hd (q0l st fi L=3):=η (by unfold q0l;rw[κ j,ξ (.inr (by omega))])
  have hd:decide ((8:Int)<(n:Int))=true:=ζ (by omega);clear m h1 h2 u j d;go_enter Tryz.func45,Tryz.ntmps45;go_wp2_with fail
  go_step3
  go_wp2_with fail;rw[Exit.noGoto_ret];go_ret;exact⟨by rw[s.o];rfl,E.o⟩
 have l:¬(32<st.length\/8<L.length):=by omega
 have f0:decide ((8:Int)<(n:Int))=false:=ε (by omega);have q0:IntKind.i64.wrap (1073741824-(n:Int))=1073741824-(n:Int):=by rw[ν];omega
 by_cases N:fi<0\/1073741824-(n:Int)<fi
 ·have s:Hd (q0l st fi L=2):=η (by unfold q0l;rw[κ j,κ l,ξ (by rw[d];exact N)])
  have v:decide (fi<0)=true\/(decide (fi<0)=false/\decide (1073741824-(n:Int)<fi)=true):=by
   by_cases h:fi<0
   ·exact .inl (ζ h)
   ·exact .inr ⟨ε h,ζ (by omega)⟩
  clear m h1 h2 u j l d N;rcases v with v|⟨v,Z⟩
  all_goals
   go_enter Tryz.func45,Tryz.ntmps45;go_wp2_with fail
   go_step3
   go_wp2_with fail;rw[Exit.noGoto_ret];go_ret;exact⟨by rw[s.o];rfl,E.o⟩
 have v:decide (fi<0)=false:=ε (by omega);have Z:decide (1073741824-(n:Int)<fi)=false:=ε (by omega);have s:Hd (q0l st fi L=q7y L):=η (by unfold q0l;rw[κ j,κ l,κ (by rw[d];exact N)]);have I:=η d;clear m h1 h2 u j l d N;go_enter Tryz.func45,Tryz.ntmps45;go_wp2_with fail
 go_step3
 go_wp2_with fail
 go_step3
 go_wp2_with fail
 go_loopw [2,36] (fun e i W=> ∃k:Nat,k<=n/\i= .int .i64 (k:Int)/\e= .int .i64 0/\q7y (L.take k)=0/\Ext w W) (fun _ i _=>n-(intOf i).toNat)
 case atStart=>exact⟨0,υ _,rfl,rfl,rfl,E.o⟩
 case round=>
  obtain⟨k,hk,rfl,rfl,F,O⟩:=hrel;have G:=η O;by_cases M:k<n
  ·have a0:decide ((k:Int)<(n:Int))=true:=ζ (by omega)
   obtain⟨b,off,rfl,c0,c1,c2⟩:=(HE.o.ext O).at M;have r:k<L.length:=by rw[I.o];exact M
   have hT:L.take (k+1)=L.take k++[L.getD k ev0]:=by
    rw[List.take_succ_eq_append_getElem r];simp[List.getD,γ r]
   have Y:=z0I (L.take k) (L.getD k ev0) F;rw[<-hT] at Y;have HS:=η Y;have V:=η (z0H L k r F);have x:L.getD k ev0∈L:=by rw[δ,γ r];exact List.getElem_mem r
   obtain⟨m1,m2⟩:=HL.o _ x;have X:=η (q0B wr (.cells #[.string ⟨(L.getD k ev0).ty.toArray⟩,.string ⟨(L.getD k ev0).da.toArray⟩,.float .f64 (L.getD k ev0).we] 97));have q1:IntKind.i64.wrap ((k:Int)+1)=(k:Int)+1:=by rw[ν];omega
   generalize L.getD k ev0=y at*;obtain⟨Q,R,y3⟩:=y;have S:=η (fun W=>q9A Q R .f64 y3 W m1 m2);simp only at c0 c1 c2;have u0:=q0C c0;have u1:=q0C c1;have u2:=q0C c2;have g0:=q1o;clear hT r F Y x m1 m2 O;go_wp2_with fail;refine(S.o _).mono ?_;rintro e w1 ⟨rfl,B⟩;have J:=η ((G.o.trans X.o).trans B);clear B;by_cases hc:q0w Q R=0
   ·have U:Hd (q7y (L.take (k+1))=0):=η (by rw[HS.o];exact hc)
    rw[hc];go_wp2_with fail
    go_roundw
    case rel=>exact⟨k+1,by omega,by go_num,rfl,U.o,J.o⟩
    case measure=>simp[intOf];omega
   ·have D:Hd (q7y L=q0w Q R):=η (by rw[V.o,κ hc])
    have e0:(q0w Q R==0)=false:=by simpa using hc
    clear hc;go_wp2_with fail;rw[Exit.noGoto_ret];go_ret;exact⟨by rw[s.o,D.o];rfl,J.o⟩
  ·obtain rfl:k=n:=by omega
   have a0:decide ((k:Int)<(k:Int))=false:=ε (by omega);have D:Hd (q7y L=0):=η (by rw[<-I.o,List.take_length] at F;exact F);clear F O;go_wp2_with fail;rw[Exit.noGoto_ret];go_ret;exact⟨by rw[s.o,D.o];rfl,G.o⟩
theorem q1q{fn:Func}{p u v x:Tmp}{ty:TypeId}(h:fn.results=#[.cell p ty,.tmp u,.tmp v,.tmp x])(tmps:Array Value)(P:Program)(w:World):
  (results fn tmps).run P w=
   ((asAddr (tmps.getD p undef)).run P w).andThen fun a w₁=>((loadVar ty a).run P w₁).andThen fun y b=> .ok (.tuple #[y,tmps.getD u undef,tmps.getD v undef,tmps.getD x undef]) b:=by
 simp only[results,h];simp[Sem.run_bind,Result.andThen]
def q6Y(s:List UInt8):Value:=if q4y s=true then .tuple #[.agg #[.string ⟨(rdT s).toArray⟩,.int .i64 (q1K ((rdR s).take 8):Int),.slice none 0 0],.int .i64 (((rdR s).getD 8 0).toNat:Int),.string ⟨((rdR s).drop 9).toArray⟩,.bool true]
 else .tuple #[.agg #[.string ⟨#[]⟩,.int .i64 0,.slice none 0 0],.int .i64 0,.string ⟨#[]⟩,.bool false]
theorem z9L(s:List UInt8)(w:World)(hl:s.length<=4611686018427387903):
  Calls Tryz.prog 110 #[.string ⟨s.toArray⟩] w fun e w'=>e= .returned (q6Y s)/\Ext w w':=by
 have r:=η (fun W=>z1o s W hl);have m0:=z3N s;have b0:=q7d s;have S:=η (q0B w (.cells #[.string ⟨#[]⟩,.int .i64 0,.slice none 0 0] 118));have B:=η (Blk.new w 118 #[.string ⟨#[]⟩,.int .i64 0,.slice none 0 0])
 have y:Hd (∀(W:World) (a b c:Value),Blk W w.heap.size 118 #[a,b,c]-> ∀U V,W.cell? ⟨w.heap.size,0,none⟩=some a/\W.cell? ⟨w.heap.size,1,none⟩=some b/\W.cell? ⟨w.heap.size,2,none⟩=some c/\
   W.frozen? ⟨w.heap.size,0,none⟩=false/\W.frozen? ⟨w.heap.size,1,none⟩=false/\W.frozen? ⟨w.heap.size,2,none⟩=false/\((W.setCell ⟨w.heap.size,0,none⟩ U).setCell ⟨w.heap.size,1,none⟩ V).frozen? ⟨w.heap.size,2,none⟩=false/\
   ((W.setCell ⟨w.heap.size,0,none⟩ U).setCell ⟨w.heap.size,1,none⟩ V).cell? ⟨w.heap.size,2,none⟩=some c):=η fun W a b c h U V=>by
  have h2:=(h.set 0 U).set 1 V;exact⟨h.cell 0,h.cell 1,h.cell 2,h.free 0,h.free 1,h.free 2,h2.free 2,h2.cell 2⟩
 by_cases h1:q8A s=true
 case neg=>
  rw[Bool.not_eq_true] at h1;have F:Hd (q6Y s= .tuple #[.agg #[.string ⟨#[]⟩,.int .i64 0,.slice none 0 0],.int .i64 0,.string ⟨#[]⟩,.bool false]):=η (by unfold q6Y q4y;rw[h1];rfl);rw[h1] at r;go_enter Tryz.func110,Tryz.ntmps110;go_wp2_with fail;refine(r.o _).mono ?_;rintro e w1 ⟨rfl,l⟩;have u:=η (B.o.ext l);have x:=η (S.o.trans l);clear l;obtain⟨Y,Z,c2,f0,f1,f2,g2,d2⟩:=y.o w1 _ _ _ u.o (.string ⟨#[]⟩) (.int .i64 0);go_wp2_with fail
  ((try simp only[Exit.inBlock,Exit.then]);refine bodyPost_ret (v:= .tuple #[.agg #[.string ⟨#[]⟩,.int .i64 0,.slice none 0 0],.int .i64 0,.string ⟨#[]⟩,.bool false]) (by rw[q1q rfl];go_simp) rfl ?_)
  exact⟨by rw[F.o],q2J x.o _ _ _⟩
 rw[h1] at r;obtain⟨R,I⟩: ∃R,rdR s=R:=⟨_,rfl⟩
 rw[I] at r b0;by_cases h3:R.length<9
 ·have F:Hd (q6Y s= .tuple #[.agg #[.string ⟨#[]⟩,.int .i64 0,.slice none 0 0],.int .i64 0,.string ⟨#[]⟩,.bool false]):=η (by unfold q6Y q4y;rw[h1,I,ε (by omega)];rfl)
  have hd:decide ((R.length:Int)<9)=true:=ζ (by omega);clear I;go_enter Tryz.func110,Tryz.ntmps110;go_wp2_with fail;refine(r.o _).mono ?_;rintro e w1 ⟨rfl,l⟩;have u:=η (B.o.ext l);have x:=η (S.o.trans l);clear l;obtain⟨Y,Z,c2,f0,f1,f2,g2,d2⟩:=y.o w1 _ _ _ u.o (.string ⟨#[]⟩) (.int .i64 0);go_wp2_with fail
  ((try simp only[Exit.inBlock,Exit.then]);refine bodyPost_ret (v:= .tuple #[.agg #[.string ⟨#[]⟩,.int .i64 0,.slice none 0 0],.int .i64 0,.string ⟨#[]⟩,.bool false]) (by rw[q1q rfl];go_simp) rfl ?_)
  exact⟨by rw[F.o],q2J x.o _ _ _⟩
 have hd:decide ((R.length:Int)<9)=false:=ε (by omega);have s1:=q4n R 8 8 rfl (by omega);have s2:=q3D R 9 9 rfl (by omega);have l8:(R.take 8).length=8:=by rw[Θ];omega
 have Q:=η (fun W=>q9H (R.take 8) W (by omega));rw[show(R.take 8).take 8=R.take 8 from Δ (by omega)] at Q;have E:=q2C (R.take 8);rw[l8] at E;obtain⟨b,N⟩: ∃b,q1K (R.take 8)=b:=⟨_,rfl⟩
 rw[N] at Q E;by_cases h4:1073741824<b
 ·have F:Hd (q6Y s= .tuple #[.agg #[.string ⟨#[]⟩,.int .i64 0,.slice none 0 0],.int .i64 0,.string ⟨#[]⟩,.bool false]):=η (by unfold q6Y q4y;rw[I,N,ε (p:=b<=1073741824) (by omega),Bool.and_false];rfl)
  have a0:decide ((1073741824:Int)<(b:Int))=true:=ζ (by omega);clear N E I h3;go_enter Tryz.func110,Tryz.ntmps110;go_wp2_with fail;refine(r.o _).mono ?_;rintro e w1 ⟨rfl,l⟩;have u:=η (B.o.ext l);have x:=η (S.o.trans l);clear l;go_wp2_with fail;refine(Q.o _).mono ?_;rintro e O ⟨rfl,l⟩;have D:=η (u.o.ext l);have G:=η (x.o.trans l);clear l;obtain⟨Y,Z,c2,f0,f1,f2,g2,d2⟩:=y.o O _ _ _ D.o (.string ⟨#[]⟩) (.int .i64 0);go_wp2_with fail
  ((try simp only[Exit.inBlock,Exit.then]);refine bodyPost_ret (v:= .tuple #[.agg #[.string ⟨#[]⟩,.int .i64 0,.slice none 0 0],.int .i64 0,.string ⟨#[]⟩,.bool false]) (by rw[q1q rfl];go_simp) rfl ?_)
  exact⟨by rw[F.o],q2J G.o _ _ _⟩
 have a0:decide ((1073741824:Int)<(b:Int))=false:=ε (by omega);obtain⟨m,hm⟩: ∃m:Nat,(R.getD 8 0).toNat=m:=⟨_,rfl⟩
 have n0:m<256:=by rw[<-hm];exact(R.getD 8 0).toNat_lt
 have hb8:8<(⟨R.toArray⟩:ByteArray).size:=by show 8<R.length;omega
 have e8:((⟨R.toArray⟩:ByteArray)[8]'hb8).toNat=m:=by
  rw[<-hm,δ,γ (show 8<R.length by omega)];rfl
 have h8:(8:Int)<(R.length:Int):=by omega
 have q1:IntKind.i64.wrap (b:Int)=(b:Int):=by rw[ν];omega
 have q2:IntKind.i64.wrap (m:Int)=(m:Int):=by rw[ν];omega
 have F:Hd (q6Y s= .tuple #[.agg #[.string ⟨(rdT s).toArray⟩,.int .i64 (b:Int),.slice none 0 0],.int .i64 (m:Int),.string ⟨(R.drop 9).toArray⟩,.bool true]):=η (by
  unfold q6Y q4y
  rw[I,N,h1,hm,ζ (p:=9<=R.length) (by omega),ζ (p:=b<=1073741824) (by omega)];rfl)
 obtain⟨X,M⟩: ∃T,rdT s=T:=⟨_,rfl⟩
 rw[M] at F r;clear N E I h3 h4 M hm;go_enter Tryz.func110,Tryz.ntmps110;go_wp2_with fail;refine(r.o _).mono ?_;rintro e w1 ⟨rfl,l⟩;have u:=η (B.o.ext l);have x:=η (S.o.trans l);clear l;go_wp2_with fail;refine(Q.o _).mono ?_;rintro e O ⟨rfl,l⟩;have D:=η (u.o.ext l);have J:=η (D.o.ext (Ext.refl O).drew);have G:=η ((x.o.trans l).drew);clear l;obtain⟨Y,Z,c2,f0,f1,f2,g2,d2⟩:=y.o O _ _ _ D.o (.string ⟨X.toArray⟩) (.int .i64 (b:Int));obtain⟨d0,e0,g0,i0,j0,k0,l0,h0⟩:=y.o O.drew _ _ _ J.o (.string ⟨X.toArray⟩) (.int .i64 (b:Int));go_wp2_with fail;refine q1B (fun W=>True) 9 (by kernel_rfl) trivial (fun d=>?_);refine q0p (i:=0) (v:=?_) rfl (by kernel_rfl) (fun _ _ _ h=>h) (Or.inl ⟨by rfl,?_⟩) d (fun d=>?_)
 rotate_left
 ·(intro w j;(try dsimp only at j);go_simp;try with_reducible rfl)
 try simp only[Act.put,π,ψ,ω]
 refine q0p (i:=1) (v:=?_) rfl (by kernel_rfl) (fun _ _ _ h=>h) (Or.inl ⟨by rfl,?_⟩) d (fun d=>?_)
 rotate_left
 ·(intro w j;(try dsimp only at j);go_simp;try with_reducible rfl)
 try simp only[Act.put,π,ψ,ω]
 refine q0p (i:=2) (v:=?_) rfl (by kernel_rfl) (fun _ _ _ h=>h) (Or.inl ⟨by rfl,?_⟩) d (fun d=>?_)
 rotate_left
 ·(intro w j;(try dsimp only at j);go_simp;try with_reducible rfl)
 try simp only[Act.put,π,ψ,ω]
 refine q0p (i:=3) (v:=?_) rfl (by kernel_rfl) (fun _ _ _ h=>h) (Or.inl ⟨by rfl,?_⟩) d (fun d=>?_)
 rotate_left
 ·(intro w j;(try dsimp only at j);go_simp;try with_reducible rfl)
 try simp only[Act.put,π,ψ,ω]
 refine q0p (i:=4) (v:=?_) rfl (by kernel_rfl) (fun _ _ _ h=>h) (Or.inl ⟨by rfl,?_⟩) d (fun d=>?_)
 rotate_left
 ·(intro w j;(try dsimp only at j);go_simp;try with_reducible rfl)
 try simp only[Act.put,π,ψ,ω]
 refine q0p (i:=5) (v:=?_) rfl (by kernel_rfl) (fun _ _ _ h=>h) (Or.inl ⟨by rfl,?_⟩) d (fun d=>?_)
 rotate_left
 ·(intro w j;(try dsimp only at j);go_simp;try with_reducible rfl)
 try simp only[Act.put,π,ψ,ω]
 refine q0p (i:=6) (v:=?_) rfl (by kernel_rfl) (fun _ _ _ h=>h) (Or.inl ⟨by rfl,?_⟩) d (fun d=>?_)
 rotate_left
 ·(intro w j;(try dsimp only at j);go_simp;try with_reducible rfl)
 try simp only[Act.put,π,ψ,ω]
 refine q0p (i:=7) (v:=?_) rfl (by kernel_rfl) (fun _ _ _ h=>h) (Or.inl ⟨by rfl,?_⟩) d (fun d=>?_)
 rotate_left
 ·(intro w j;(try dsimp only at j);go_simp;try with_reducible rfl)
 try simp only[Act.put,π,ψ,ω]
 refine q0p (i:=8) (v:=?_) rfl (by kernel_rfl) (fun _ _ _ h=>h) (Or.inl ⟨by rfl,?_⟩) d (fun d=>?_)
 rotate_left
 ·(intro w j;(try dsimp only at j);go_simp;try with_reducible rfl)
 try simp only[Act.put,π,ψ,ω]
 refine q1L (by kernel_rfl) ?_
 try simp only[List.drop_succ_cons,List.drop_zero]
 clear d;go_wp2_with fail
 ((try simp only[Exit.inBlock,Exit.then]);refine bodyPost_ret (v:= .tuple #[.agg #[.string ⟨X.toArray⟩,.int .i64 (b:Int),.slice none 0 0],.int .i64 (m:Int),.string ⟨(R.drop 9).toArray⟩,.bool true]) (by rw[q1q rfl];go_simp) rfl ?_)
 exact⟨by rw[F.o],q2J G.o _ _ _⟩
theorem Tryz.infoEv :(Tryz.prog.info? 97).map (fun i=>(i.zero,i.size,i.bytes))=some (some (.agg #[.string ⟨#[]⟩,.string ⟨#[]⟩,.float .f64 0]),3,40):=by kernel_rfl
theorem z6U(s:List UInt8)(k:Nat)(h:z1w k s=none): ∀m,k<=m->z1w m s=none:=by
 intro m hm;obtain⟨d,rfl⟩:=Nat.le.dest hm;clear hm
 induction d with
 |zero=>exact h
 |succ d ih=>rw[<-Nat.add_assoc,z1w,ih];rfl
theorem y0L(s:List UInt8): ∃e R o,y2U (rdE s)= .tuple #[evV e,.string ⟨R.toArray⟩,.bool o]/\(o=true->rdE s=some (e,R))/\(o=false->rdE s=none)/\e.ty.length<=16/\e.da.length<=200/\R.length<=s.length:=by
 by_cases h:q8A s=true/\q8A (rdR s)=true/\8<=(rdR (rdR s)).length/\q0w (rdT s) (rdT (rdR s))=0
 ·have b:rdE s=some (⟨rdT s,rdT (rdR s),q1K ((rdR (rdR s)).take 8)⟩,(rdR (rdR s)).drop 8):=by unfold rdE;rw[ξ h]
  obtain⟨_,h2,h3⟩:=q3A h.2.2.2;have l1:=q7d s;have d:=q7d (rdR s);exact⟨_,_,true,by rw[b];rfl,fun _=>b,fun e=>by simp at e,h2,h3,by rw[List.length_drop];omega⟩
 ·have b:rdE s=none:=by unfold rdE;rw[κ h]
  exact⟨ev0,[],false,by rw[b];rfl,fun e=>by simp at e,fun _=>b,by decide,by decide,υ _⟩
theorem z8D(s:List UInt8): ∃st fi m R o,q6Y s= .tuple #[.agg #[.string ⟨st.toArray⟩,.int .i64 ((fi:Nat):Int),.slice none 0 0],.int .i64 ((m:Nat):Int),.string ⟨R.toArray⟩,.bool o]/\st.length<=s.length/\R.length<=s.length/\m<=255/\fi<=1073741824/\
  (∀es T,o=true->z1w m R=some (es,T)->q4u s=if T=[] then(if q0l st (fi:Int) es=0 then some ⟨st,fi,es⟩ else none) else none)/\((o=false\/z1w m R=none)->q4u s=none):=by
 have l1:=z3N s;have j:=q7d s;by_cases h:q4y s=true
 ·have d:=h
  unfold q4y at d;simp only[Ξ,Φ] at d;refine⟨rdT s,q1K ((rdR s).take 8),((rdR s).getD 8 0).toNat,(rdR s).drop 9,true,by unfold q6Y;rw[ξ h],by omega,by rw[List.length_drop];omega,by have:=UInt8.toNat_lt ((rdR s).getD 8 0);omega,d.2,fun es T _ he=>?_,fun he=>?_⟩
  ·unfold q4u
   rw[ξ h,he]
   cases T with
   |nil=>rfl
   |cons a b=>rfl
  ·rcases he with he|he
   ·cases he
   ·unfold q4u;rw[ξ h,he]
 ·refine⟨[],0,0,[],false,by unfold q6Y;rw[κ h];rfl,υ _,υ _,by omega,by omega,fun es T e=>by simp at e,fun _=>by unfold q4u;rw[κ h]⟩
def y2L(B:Nat)(w:World)(r:Option Bt)(v:Value):Prop:=match r with
 |none=>v= .tuple #[.agg #[.string ⟨#[]⟩,.int .i64 0,.slice none 0 0],.int .i64 10]
 |some b=> ∃x,v= .tuple #[.agg #[.string ⟨b.st.toArray⟩,.int .i64 (b.fi:Int),x],.int .i64 0]/\Own w B 97 3 x b.ev.length (q6V b.ev)
theorem y0r{W:World}{t:TypeId}{a b c:Value}(h:Blk W q t #[a,b,c])(d j:Value):W.cell? ⟨q,0,none⟩=some a/\W.cell? ⟨q,1,none⟩=some b/\W.cell? ⟨q,2,none⟩=some c/\
   W.frozen? ⟨q,0,none⟩=false/\W.frozen? ⟨q,1,none⟩=false/\W.frozen? ⟨q,2,none⟩=false/\((W.setCell ⟨q,0,none⟩ d).setCell ⟨q,1,none⟩ j).frozen? ⟨q,2,none⟩=false/\
   ((W.setCell ⟨q,0,none⟩ d).setCell ⟨q,1,none⟩ j).cell? ⟨q,2,none⟩=some c:=by
 have h2:=(h.set 0 d).set 1 j;exact⟨h.cell 0,h.cell 1,h.cell 2,h.free 0,h.free 1,h.free 2,h2.free 2,h2.cell 2⟩
theorem q4R(h:Ext w w1)(hq:w.heap.size<=q)(a b c:Value):Ext w (((w1.setCell ⟨q,0,none⟩ a).setCell ⟨q,1,none⟩ b).setCell ⟨q,2,none⟩ c):=
 ((h.setCell (p:=⟨q,0,none⟩) hq a).setCell (p:=⟨q,1,none⟩) hq b).setCell (p:=⟨q,2,none⟩) hq c
theorem z4y(s :List UInt8)(w:World)(hl:s.length<=4611686018427387903):
  Calls Tryz.prog 60 #[.string ⟨s.toArray⟩] w fun e w'=>(∃v,e= .returned v/\y2L w.heap.size w' (q4u s) v)/\Ext w w':=by
 have HH:=η (fun W=>z9L s W hl);obtain⟨st,fi,m,S9,o0,hv,s1,o1,hm,q1,hG,I0⟩:=z8D s;rw[hv] at HH;have HG:=η hG;have j0:=η I0;have HX:=η (q0B w (.cells #[.string ⟨#[]⟩,.int .i64 0,.slice none 0 0] 118));have u0:=η (Blk.new w 118 #[.string ⟨#[]⟩,.int .i64 0,.slice none 0 0]);have r1:=q1o;clear hv hG I0;obtain⟨q,hq⟩: ∃q,w.heap.size=q:=⟨_,rfl⟩
 have HQ:=η hq;have X:Hd (w.heap.size<=q):=η (by omega);rw[hq] at u0;go_enter Tryz.func60,Tryz.ntmps60;go_wp2_with fail;refine(HH.o _).mono ?_;rintro e w1 ⟨rfl,G⟩;have v0:=η (u0.o.ext G);have F0:=η (HX.o.trans G);clear G;go_wp2_with fail;obtain⟨j,O0⟩: ∃j,w1.heap.size=j:=⟨_,rfl⟩
 have N0:w.heap.size<=w1.heap.size:=F0.o.size;have l0:Hd (q+1<=j):=η (by have:=v0.o.lt;omega);have m0:Hd (w.heap.size<=j):=η (by omega);have U0:=η (v0.o.ext (q0B w1 (.cells #[.string ⟨st.toArray⟩,.int .i64 (fi:Int),.slice none 0 0] 118)));have Y0:=η (F0.o.trans (q0B w1 (.cells #[.string ⟨st.toArray⟩,.int .i64 (fi:Int),.slice none 0 0] 118)));have x0:=η (Blk.new w1 118 #[.string ⟨st.toArray⟩,.int .i64 (fi:Int),.slice none 0 0]);rw[O0] at x0⊢;clear O0 N0
 go_loopw [6,7] (fun r o W=> ∃es R ao cp b,r= .string ⟨(R:List UInt8).toArray⟩/\o= .bool b/\Blk W j 118 #[.string ⟨st.toArray⟩,.int .i64 (fi:Int),.slice ao es.length cp]/\
   W.ownsRow (j+1) 97 3 (.slice ao es.length cp) es.length (q6V es)/\es.length<=m/\(b=true->o0=true/\z1w es.length S9=some (es,R))/\(b=false->o0=false\/z1w m S9=none)/\q4m es/\
   R.length<=4611686018427387903/\Blk W q 118 #[.string ⟨#[]⟩,.int .i64 0,.slice none 0 0]/\Ext w W)
  (fun _ _ W=>m-(match W.cell? ⟨j,2,none⟩ with|some (.slice _ n _)=>n|_=>0))
 case atStart=>
  refine⟨[],S9,none,0,o0,rfl,rfl,x0.o,World.ownsRow_nil _ _ _ _,υ _,fun h=>⟨h,rfl⟩,fun h=> .inl h,(fun e he=>absurd he (List.not_mem_nil)),by omega,U0.o,Y0.o⟩
 case round =>
  obtain⟨es,R,ao,cp,b,rfl,rfl,d,J,M0,hT,hF,Q0,Z0,J0,S0⟩:=hrel;obtain⟨l1,m1,b1,d0⟩:=Evs.of_own (Own.of_row J)
  cases b1;obtain⟨k,hk⟩: ∃k,es.length=k:=⟨_,rfl⟩
  have L0:=d0.fits;have j1:=d0.bound;have y0:=η d0;clear d0;rw[hk] at d J M0 hT L0 y0;have HK:=η hk;have V:=η d;have C0:=η J;have HT:=η hT;have HF:=η hF;have E0:=η Q0;have N:=η J0;have Z:=η S0;have c0:wr.cell? ⟨j,0,none⟩=some (.string ⟨st.toArray⟩):=d.cell 0;have c1:wr.cell? ⟨j,1,none⟩=some (.int .i64 (fi:Int)):=d.cell 1;have c2:wr.cell? ⟨j,2,none⟩=some (.slice ao k cp):=d.cell 2;clear hk d J hT hF Q0 J0 S0
  cases b with
  | false=>
   have l:Hd (q4u s=none):=η (j0.o (HF.o rfl));obtain⟨k0,k1,k2,f0,f1,f2,g2,d2⟩:=y0r N.o (.string ⟨#[]⟩) (.int .i64 0);clear HT HF;go_wp2_with fail
   ((try simp only[Exit.inBlock,Exit.then]);refine bodyPost_ret (v:= .tuple #[.agg #[.string ⟨#[]⟩,.int .i64 0,.slice none 0 0],.int .i64 10]) (by rw[q0X rfl];go_simp) rfl ?_)
   exact⟨⟨_,rfl,by rw[l.o];exact rfl⟩,q4R Z.o X.o _ _ _⟩
  | true =>
   by_cases d1:k<m
   ·have hd:decide ((k:Int)<(m:Int))=true:=ζ (by omega)
    obtain⟨⟨y,B,D⟩,R',o',hv,hy,hn,t1,u1,n1⟩:=y0L R;have R0:y2U (rdE R)= .tuple #[.agg #[.string ⟨y.toArray⟩,.string ⟨B.toArray⟩,.float .f64 D],.string ⟨R'.toArray⟩,.bool o']:=hv;have HE:=η (fun W=>z9a R W Z0);rw[R0] at HE;have HY:=η hy;have HN:=η hn;clear hv R0 hy hn;go_wp2_with fail;refine(HE.o _).mono ?_;rintro e U ⟨rfl,G⟩;obtain⟨x,P0⟩: ∃x,wr.heap.size=x:=⟨_,rfl⟩
    rw[P0];have T0:=(q0B wr (.cells #[.string ⟨#[]⟩,.string ⟨#[]⟩,.float .f64 0] 97)).trans G;have b0:=(Blk.new wr 97 #[.string ⟨#[]⟩,.string ⟨#[]⟩,.float .f64 0]).ext G;rw[P0] at b0;obtain⟨k0,k1,k2,f0,f1,f2,g2,d2⟩:=y0r b0 (.string ⟨y.toArray⟩) (.string ⟨B.toArray⟩);have hex:=q4R T0 (q:=x) (by omega) (.string ⟨y.toArray⟩) (.string ⟨B.toArray⟩) (.float .f64 D);have I:=((b0.set 0 (.string ⟨y.toArray⟩)).set 1 (.string ⟨B.toArray⟩)).set 2 (.float .f64 D);have e0:((((U.setCell ⟨x,0,none⟩ (.string ⟨y.toArray⟩)).setCell ⟨x,1,none⟩ (.string ⟨B.toArray⟩)).setCell ⟨x,2,none⟩ (.float .f64 D)).cell? ⟨x,0,none⟩)=some (.string ⟨y.toArray⟩):=I.cell 0;have e1:((((U.setCell ⟨x,0,none⟩ (.string ⟨y.toArray⟩)).setCell ⟨x,1,none⟩ (.string ⟨B.toArray⟩)).setCell ⟨x,2,none⟩ (.float .f64 D)).cell? ⟨x,1,none⟩)=some (.string ⟨B.toArray⟩):=I.cell 1;have e2:((((U.setCell ⟨x,0,none⟩ (.string ⟨y.toArray⟩)).setCell ⟨x,1,none⟩ (.string ⟨B.toArray⟩)).setCell ⟨x,2,none⟩ (.float .f64 D)).cell? ⟨x,2,none⟩)=some (.float .f64 D):=I.cell 2;have e3:((((U.setCell ⟨x,0,none⟩ (.string ⟨y.toArray⟩)).setCell ⟨x,1,none⟩ (.string ⟨B.toArray⟩)).setCell ⟨x,2,none⟩ (.float .f64 D)).cell? ⟨j,2,none⟩)=some (.slice ao k cp):=(V.o.ext hex).cell 2;have M:=hex.trans (q0B _ (.cells #[.string ⟨y.toArray⟩,.string ⟨B.toArray⟩,.float .f64 D] 97));have g0:=η (V.o.ext M);have h0:=η (N.o.ext M);have Y:=η (q0F C0.o M);have H0:=η (Z.o.trans M);have X0:=η (show j+1<=_ from Ω (show j+1<=wr.heap.size from V.o.lt) M.size);have t0:=Rd.lit (((U.setCell ⟨x,0,none⟩ (.string ⟨y.toArray⟩)).setCell ⟨x,1,none⟩ (.string ⟨B.toArray⟩)).setCell ⟨x,2,none⟩ (.float .f64 D)) #[.string ⟨y.toArray⟩,.string ⟨B.toArray⟩,.float .f64 D] 97;rw[World.size_setCell,World.size_setCell,World.size_setCell] at t0;have W0:=η t0;clear G T0 b0 hex I M t0
    go_wp2_with (at_builtin;refine q0G rfl (.tmp 31) (.tmp 33) 64 rfl (j+1) 97 _ 3 40 Tryz.underlying64 Tryz.infoEv (by decide) (by decide) _ k (q6V es) rfl Y.o _ 1 1 (evc ⟨y,B,D⟩) rfl rfl (fun h=>by cases h) W0.o (fun u hu=>z7p [⟨y,B,D⟩] u (by simpa [q6V] using hu)) (by unfold maxLen;omega) (by omega) X0.o ?_;intro v4 w4 S E a1;obtain⟨a4,c4,rfl⟩:=q0E S;have a0:=g0.o.same (E.block j g0.o.lt (fun e=>by have:=(q0P Y.o j e.symm).1;omega));have d6:=a0.cell 2;have d7:=a0.free 2;have w0:=η a0;have B0:=η S;have z0:=η E;clear S E a1 a0)
    have K0:=h0.o.same (z0.o.block q h0.o.lt (fun e=>by have:=(q0P Y.o q e.symm).1;have:=l0.o;omega));have i1:=q1Y H0.o (Own.of_row (q0d Y.o (show w.heap.size<=j+1 by have:=m0.o;omega))) z0.o H0.o.size;obtain⟨g1,i0⟩:=HT.o trivial;have F:(es++[(⟨y,B,D⟩:Ev)]).length=k+1:=by rw[θ,HK.o];rfl
    refine⟨⟨es++[⟨y,B,D⟩],R',a4,c4,o',rfl,rfl,?_,?_,by omega,fun h=>⟨g1,?_⟩,fun h=> .inr ?_,?_,by omega,K0.o (by have:=l0.o;omega) _ _,i1.setCell (p:=⟨j,2,none⟩) m0.o _⟩,?_⟩
    ·rw[F];exact w0.o.set 2 _
    ·rw [F,q7H]
     refine q1E (a:=⟨j,2,none⟩) ?_ _ (fun e=>?_)
     ·have h:=B0.o
      rw[show q6V [(⟨y,B,D⟩:Ev)]=evc ⟨y,B,D⟩ from by simp[q6V]];exact h
     ·have:=(q0P B0.o j e).1
      omega
    ·rw[F,z1w,i0,Option.bind_some,HY.o h];rfl
    ·refine z6U _ (k+1) ?_ m d1
     rw[z1w,i0,Option.bind_some,HN.o h];rfl
    ·intro e he
     rcases List.mem_append.1 he with he|he
     ·exact E0.o e he
     ·obtain rfl:=List.mem_singleton.1 he
      exact⟨by simp only;omega,by simp only;omega⟩
    ·have h6:(w4.setCell ⟨j,2,none⟩ (.slice a4 (k+1) c4)).cell? ⟨j,2,none⟩=some (.slice a4 (k+1) c4):=(w0.o.set 2 _).cell 2
     rw[h6,c2];simp only;omega
   ·have hd:decide ((k:Int)<(m:Int))=false:=ε (by omega)
    obtain rfl:k=m:=by omega
    obtain⟨p0,q0⟩:=HT.o rfl;have O:=HG.o _ _ p0 q0;obtain⟨k0,k1,k2,f0,f1,f2,g2,d2⟩:=y0r N.o (.string ⟨#[]⟩) (.int .i64 0)
    cases R with
    | cons r0 R=>
     have l:Hd (q4u s=none):=η (by rw[O];rfl);clear O p0 q0 HT HF HG j0;go_wp2_with fail
     ((try simp only[Exit.inBlock,Exit.then]);refine bodyPost_ret (v:= .tuple #[.agg #[.string ⟨#[]⟩,.int .i64 0,.slice none 0 0],.int .i64 10]) (by rw[q0X rfl];go_simp) rfl ?_)
     exact⟨⟨_,rfl,by rw[l.o];exact rfl⟩,q4R Z.o X.o _ _ _⟩
    | nil =>
     have HC:=η (fun W (h:Evs W ao k cp es)=>q8u st (fi:Int) W h (by omega) E0.o);rw[ξ rfl] at O;have A0:=η O;clear O p0 q0 HT HF HG j0 k0 k1 k2 f0 f1 f2 g2 d2;go_wp2_with fail;refine(HC.o _ y0.o).mono ?_;rintro e U ⟨rfl,G⟩;have G0:=η (Z.o.trans G);have D0:=η (q0F C0.o G);have d:=V.o.ext G;have c0:U.cell? ⟨j,0,none⟩=some (.string ⟨st.toArray⟩):=d.cell 0;have c1:U.cell? ⟨j,1,none⟩=some (.int .i64 (fi:Int)):=d.cell 1;have c2:U.cell? ⟨j,2,none⟩=some (.slice ao k cp):=d.cell 2;by_cases Q:q0l st (fi:Int) es=0
     ·have n0:Hd (q4u s=some ⟨st,fi,es⟩):=η (by rw[A0.o,ξ Q])
      obtain⟨k0,k1,k2,f0,f1,f2,g2,d2⟩:=y0r (N.o.ext G) (.string ⟨st.toArray⟩) (.int .i64 (fi:Int))
      have V0:Hd (Own (((U.setCell ⟨q,0,none⟩ (.string ⟨st.toArray⟩)).setCell ⟨q,1,none⟩ (.int .i64 (fi:Int))).setCell ⟨q,2,none⟩ (.slice ao k cp)) w.heap.size 97 3 (.slice ao k cp) es.length (q6V es)):=η (by
       rw[HK.o];have s0:(Value.slice ao k cp).ownBlock≠some q:=fun e=>by have:=(q0P D0.o q e).1;have:=l0.o;omega
       exact((((Own.of_row D0.o).setOther (a:=⟨q,0,none⟩) _ s0).setOther (a:=⟨q,1,none⟩) _ s0).setOther (a:=⟨q,2,none⟩) _ s0).base (by have:=m0.o;omega))
      rw[Q];clear G d Q;go_wp2_with fail
      ((try simp only[Exit.inBlock,Exit.then]);refine bodyPost_ret (v:= .tuple #[.agg #[.string ⟨st.toArray⟩,.int .i64 (fi:Int),.slice ao k cp],.int .i64 0]) (by rw[q0X rfl];go_simp) rfl ?_)
      refine⟨⟨_,rfl,by rw[n0.o];exact⟨_,rfl,V0.o⟩⟩,q4R G0.o X.o _ _ _⟩
     ·have l:Hd (q4u s=none):=η (by rw[A0.o,κ Q])
      have p1:(q0l st (fi:Int) es==0)=false:=by simpa using Q
      obtain⟨k0,k1,k2,f0,f1,f2,g2,d2⟩:=y0r (N.o.ext G) (.string ⟨#[]⟩) (.int .i64 0);generalize q0l st (fi:Int) es=bc at*;clear G d;go_wp2_with fail
      ((try simp only[Exit.inBlock,Exit.then]);refine bodyPost_ret (v:= .tuple #[.agg #[.string ⟨#[]⟩,.int .i64 0,.slice none 0 0],.int .i64 10]) (by rw[q0X rfl];go_simp) rfl ?_)
      exact⟨⟨_,rfl,by rw[l.o];exact rfl⟩,q4R G0.o X.o _ _ _⟩
theorem z0K: ∀{L:List (Nat×List UInt8)} (hp:L.Pairwise z7H) {a:Nat} {p:List UInt8} {R:List (Nat×List UInt8)},L.filter (fun r=>decide (pos<=(r.1:Int)))=(a,p)::R->
  L.filter (fun r=>decide ((a:Int)+(p.length:Int)+12<=(r.1:Int)))=R
 |[],_,_,_,_,h=>by cases h
 | x ::t,hp,a,p,R,h=>by
  obtain⟨h1,h2⟩:=List.pairwise_cons.1 hp;by_cases b:pos<=(x.1:Int)
  ·rw[List.filter_cons_of_pos (by simpa using b)] at h
   injection h with j l;subst j;simp only at b;rw[List.filter_cons_of_neg (by simp;omega),<-l,List.filter_eq_self.2,List.filter_eq_self.2]
   ·intro y d;have:=h1 y d;unfold z7H at this;simp only at this;simp;omega
   ·intro y d;have:=h1 y d;unfold z7H at this;simp only at this;simp;omega
  ·rw[List.filter_cons_of_neg (by simpa using b)] at h
   have hm:(a,p)∈t.filter (fun r=>decide (pos<=(r.1:Int))):=by rw[h];exact List.mem_cons_self
   have h3:=(List.mem_filter.1 hm).2;simp only[Φ] at h3;rw[List.filter_cons_of_neg (by simp;omega)];exact z0K h2 h
def q1v(C:Cks)(pos:Int):List (Nat×List UInt8):=(q0z 0 C).filter (fun r=>decide (pos<=(r.1:Int)))
theorem q8S(C:Cks)(pos:Int):q3g C pos=(q1v C pos).head? :=by unfold q3g q1v;rw[List.head?_filter]
theorem q8T(h:okC C){a:Nat}{p:List UInt8}{R:List (Nat×List UInt8)}(e:q1v C pos=(a,p)::R):q1v C ((a:Int)+(p.length:Int)+12)=R:=
 z0K (q6n C 0 h.size) e
theorem z5f(h:okC C){r:Nat×List UInt8}(l:r∈q1v C pos):r.1<4096*200/\r.2.length<=2000:=by
 have h1:=(List.mem_filter.1 l).1;have h2:=q5k C 0 h.size r h1;have h3:=h.few;refine⟨by omega,?_⟩;have m: ∀(ps:List (List UInt8)) (a:Nat),r∈q2d a ps->r.2∈ps:=by
  intro ps
  induction ps with
  |nil=>intro a h;cases h
  | cons p t ih=>
   intro a h;rw[q2d] at h;rcases List.mem_cons.1 h with rfl|h
   ·exact List.mem_cons_self
   ·exact List.mem_cons_of_mem _ (ih _ h)
 have d: ∀(D:Cks) (b:Nat),r∈q0z b D-> ∃ps∈D,r.2∈ps:=by
  intro D
  induction D with
  |nil=>intro b h;cases h
  | cons ps t ih=>
   intro b h;rw[q0z] at h;rcases List.mem_append.1 h with h|h
   ·exact⟨ps,List.mem_cons_self,m ps _ h⟩
   ·obtain⟨q,hq,l⟩:=ih _ h
    exact⟨q,List.mem_cons_of_mem _ hq,l⟩
 obtain⟨ps,j,o⟩:=d C 0 h1;exact h.pay ps j _ o
def q2a(sd:Int)(pos:Nat)(b:Bt)(i:Nat):En:=(q2S sd b.st,(b.fi:Int)+(i:Int),(pos:Int))
def q0b(sd:Int)(pos:Nat)(b:Bt)(k:Nat):List En:=(List.range k).map (q2a sd pos b)
theorem q7G(sd:Int)(pos:Nat)(b:Bt)(k:Nat):q0b sd pos b (k+1)=q0b sd pos b k++[q2a sd pos b k]:=by unfold q0b;rw[List.range_succ,List.map_append];rfl
theorem q3t(sd:Int)(pos:Nat)(b:Bt)(k:Nat):(q0b sd pos b k).length=k:=by unfold q0b;simp
def z1H(sd:Int):List (Nat×List UInt8)->Option (List En)
 |[]=>some []
 |(a,p)::r=>(q4u p).bind fun b=>(z1H sd r).map fun l=>q0b sd a b b.ev.length++l
def q1S(es:List En)(L:List En):List En:=es.foldl (fun L e=>q3i e L) L
theorem q3Y(a b L:List En):q1S (a++b) L=q1S b (q1S a L):=by unfold q1S;rw[List.foldl_append]
theorem q6d : ∀(es L:List En),(q1S es L).length<=L.length+es.length
 |[],L=>ι _
 | e::t,L=>by
  have h:=q6d t (q3i e L);have:=@z4t e L;unfold q1S at*;rw[List.foldl_cons,χ];omega
theorem z7y{s:List UInt8}{b:Bt}(h:q4u s=some b):q0l b.st (b.fi:Int) b.ev=0:=by
 unfold q4u at h
 split at h
 ·split at h
  ·split at h
   ·rename_i hc
    injection h with h;subst h;exact hc
   ·cases h
  ·cases h
 ·cases h
theorem z2q(sd:Int){pos:Nat}{b:Bt}{k:Nat}(h:q0l b.st (b.fi:Int) b.ev=0)(d:k<b.ev.length)(j:pos<4096*200):q3c (q2a sd pos b k)=true:=by
 obtain⟨_,_,_,l,m,o,_⟩:=q0o h;obtain⟨h1,h2⟩:=z1b sd b.st;rw[okEn_iff];unfold q2a;simp only;omega
end
section
open Go.RowKit Go.Shelf
theorem y0x{b:Ev}(h1:a.ty=b.ty)(h2:a.da=b.da)(h3:a.we=b.we):a=b:=by
 obtain⟨_,_,_⟩:=a;obtain⟨_,_,_⟩:=b;simp only at h1 h2 h3;subst h1;subst h2;subst h3;rfl
def q4Y(a b:Ev):Bool:=decide (a.ty=b.ty)&&decide (a.da=b.da)&&decide (a.we=b.we)
theorem z4c{b:Ev}:q4Y a b=true↔a=b:=by
 unfold q4Y;rw[Ξ,Ξ,Φ,Φ,Φ];exact⟨fun h=>y0x h.1.1 h.1.2 h.2,fun h=>by rw[h];exact⟨⟨rfl,rfl⟩,rfl⟩⟩
theorem y0g(a b:Nat)(w:World):Calls Tryz.prog 204 #[.float .f64 a,.float .f64 b] w fun e w'=>e= .returned (.bool (decide (a=b)))/\w=w':=by
 have l:=q7I;obtain⟨z,d⟩: ∃z,decide (a=b)=z:=⟨_,rfl⟩
 have j:((a:Int)==(b:Int))=z:=by
  rw[<-d];by_cases h:a=b
  ·rw[h];simp
  ·rw[ε h];exact beq_eq_false_iff_ne.2 (by omega)
 rw[d];clear d;go_enter Tryz.func204,Tryz.ntmps204;go_wp2_with fail;go_ret;exact⟨by rw[<-j];rfl,rfl⟩
theorem z9b(a b:Ev)(w:World):Calls Tryz.prog 150 #[.agg #[.string ⟨a.ty.toArray⟩,.string ⟨a.da.toArray⟩,.float .f64 a.we],.agg #[.string ⟨b.ty.toArray⟩,.string ⟨b.da.toArray⟩,.float .f64 b.we]] w fun r w'=>r= .returned (.bool (q4Y a b))/\Ext w w':=by
 obtain⟨ty,da,we⟩:=a;obtain⟨l,d,m⟩:=b;have x:=q0B w (.cells #[.string ⟨ty.toArray⟩,.string ⟨da.toArray⟩,.float .f64 we] 97);have u:=q0B (w.alloc (.cells #[.string ⟨ty.toArray⟩,.string ⟨da.toArray⟩,.float .f64 we] 97)) (.cells #[.string ⟨l.toArray⟩,.string ⟨d.toArray⟩,.float .f64 m] 97);have D:=η (x.trans u);have s:=(Blk.new w 97 #[.string ⟨ty.toArray⟩,.string ⟨da.toArray⟩,.float .f64 we]).ext u;have j:=Blk.new (w.alloc (.cells #[.string ⟨ty.toArray⟩,.string ⟨da.toArray⟩,.float .f64 we] 97)) 97 #[.string ⟨l.toArray⟩,.string ⟨d.toArray⟩,.float .f64 m];rw[ρ] at j;have Q:=s.cell 0;have R:=s.cell 1;have S:=s.cell 2;have M:=j.cell 0;have N:=j.cell 1;have O:=j.cell 2;obtain⟨y,E⟩: ∃y,(ty==l)=y:=⟨_,rfl⟩
 obtain⟨B,F⟩: ∃B,(da==d)=B:=⟨_,rfl⟩
 obtain⟨G,v⟩: ∃G,decide (we=m)=G:=⟨_,rfl⟩
 have J:q4Y ⟨ty,da,we⟩ ⟨l,d,m⟩=(y&&B&&G):=by
  unfold q4Y;rw[<-E,<-F,<-v]
  congr 1
  congr 1
  ·by_cases h:ty=l<;>simp[h]
  ·by_cases h:da=d<;>simp[h]
 rw[J];have I:=η (fun W=>y0g we m W);rw[v] at I;clear x u s j J v;go_enter Tryz.func150,Tryz.ntmps150
 cases y with
 | false=>
  go_wp2_with fail;go_ret;exact⟨rfl,D.o⟩
 | true=>
  cases B with
  | false=>
   go_wp2_with fail;go_ret;exact⟨rfl,D.o⟩
  | true=>
   go_wp2_with fail;refine(I.o _).mono ?_;rintro e w1 ⟨rfl,rfl⟩;go_wp2_with fail;go_ret;exact⟨by simp,D.o⟩
end
section
open Go.RowKit
theorem q5N{b:Type}{A:List b}{d:b}(h:i<A.length):A.getD i d∈A:=by rw[δ,γ h];exact List.getElem_mem h
theorem z5U{e:Ev}(h:z8v e):(evB e).length<=300:=by
 obtain⟨_,h3,h4⟩:=q3A h.1;unfold evB;rw[q2e (by omega),q2e (by omega)];simp[q0J];omega
theorem z5V(L:List Ev)(k:Nat)(h:k<L.length):((L.take (k+1)).map evB).flatten=((L.take k).map evB).flatten++evB (L.getD k ev0):=by
 rw[List.take_succ_eq_append_getElem h,List.map_append,List.flatten_append,δ,γ h];simp only[List.map_cons,List.map_nil,List.flatten_cons,List.flatten_nil,List.append_nil,Option.getD_some]
theorem y0s{b:Bt}(w:World)(j:Evs w ao n cap b.ev)(x:z4V b):
  Calls Tryz.prog 47 #[.agg #[.string ⟨b.st.toArray⟩,.int .i64 (b.fi:Int),.slice ao n cap]] w fun e w'=>e= .returned (.tuple #[.string ⟨(btB b).toArray⟩,.int .i64 0])/\Ext w w':=by
 obtain⟨p1,p2,p3,p4,p5,p6,p7⟩:=q0o x.1;have u: ∀e∈b.ev,z8v e:=fun e he=>⟨q6f p7 e he,x.2 e he⟩
 have I:q4m b.ev:=fun e he=>by
  obtain⟨_,h1,h2⟩:=q3A (u e he).1;exact⟨by omega,by omega⟩
 have d:=j.len;obtain⟨st,fi,L⟩:=b;simp only at p1 p2 p3 p4 p5 p6 p7 u I d j;have b1:=j.fits;have b2:=j.bound;have X:q0l st (fi:Int) L=0:=x.1;have HC:=η (fun W (h:Evs W ao n cap L)=>q8u st (fi:Int) W h (by omega) I);rw[X] at HC;have HT:=η (fun W=>z6o st W (by omega));have Q:=η (fun W=>z4a (fi:Int) 8 8 W rfl (by omega) (by omega) (by omega) (by omega));have O:=η (fun W=>z4a (n:Int) 1 1 W rfl (by omega) (by omega) (by omega) (by omega));rw[Int.toNat_natCast] at Q O;have l1:(q2n st).length<=50:=by rw[q2e (by omega)];simp[q0J];omega
 have l8:(be 8 fi).length<=8:=by rw[q0J];omega
 have l0:(be 1 n).length<=8:=by rw[q0J];omega
 have HE:Hd (btB ⟨st,fi,L⟩=((q2n st++be 8 fi)++be 1 n)++((L.take n).map evB).flatten):=η (by
  rw[<-d,List.take_length];unfold btB;simp)
 have e0:=η u;have b0:=η d;have F:=η j;have qf:IntKind.u64.wrap (fi:Int)=(fi:Int):=by rw[IntKind.wrap_u64];omega
 have qn:IntKind.u64.wrap (n:Int)=(n:Int):=by rw[IntKind.wrap_u64];omega
 have j0:n<=8:=by omega
 have HX:=η (q0B w (.cells #[.string ⟨st.toArray⟩,.int .i64 (fi:Int),.slice ao n cap] 118));have J:=η (Blk.new w 118 #[.string ⟨st.toArray⟩,.int .i64 (fi:Int),.slice ao n cap]);have s:=J.o;have k0:(w.alloc (.cells #[.string ⟨st.toArray⟩,.int .i64 (fi:Int),.slice ao n cap] 118)).cell? ⟨w.heap.size,0,none⟩=some (.string ⟨st.toArray⟩):=s.cell 0;have k1:(w.alloc (.cells #[.string ⟨st.toArray⟩,.int .i64 (fi:Int),.slice ao n cap] 118)).cell? ⟨w.heap.size,1,none⟩=some (.int .i64 (fi:Int)):=s.cell 1;have k2:(w.alloc (.cells #[.string ⟨st.toArray⟩,.int .i64 (fi:Int),.slice ao n cap] 118)).cell? ⟨w.heap.size,2,none⟩=some (.slice ao n cap):=s.cell 2;generalize q2n st=A at*;generalize be 8 fi=D at*;generalize be 1 n=C at*;have m0:=q1o;clear s x p1 p2 p3 p4 p5 p6 p7 u I d j X;go_enter Tryz.func47,Tryz.ntmps47;go_wp2_with fail;refine(HC.o _ (F.o.ext HX.o)).mono ?_;rintro e w1 ⟨rfl,j⟩;have G:=η (HX.o.trans j);have l:=J.o.ext j;generalize w.heap.size=q at*;have S:w1.cell? ⟨q,0,none⟩=some (.string ⟨st.toArray⟩):=l.cell 0;have U:w1.cell? ⟨q,1,none⟩=some (.int .i64 (fi:Int)):=l.cell 1;have V:w1.cell? ⟨q,2,none⟩=some (.slice ao n cap):=l.cell 2;have u0:=q0C S;have u1:=q0C U;have u2:=q0C V;have a0:=η l;have q1:¬(9223372036854775807<A.length+D.length):=by omega
 have q2:¬(9223372036854775807<(A++D).length+C.length):=by rw[θ];omega
 have q3:¬(9223372036854775807<A.length+D.length+C.length):=by omega
 clear j l k0 k1 k2;go_wp2_with fail;refine q0D (by kernel_rfl) (by kernel_rfl) ?_
 repeat (go_big_quiet_step (fail))
 go_big_quiet_step (exact Calls.quiet_ext (HT.o _))
 repeat (go_big_quiet_step (fail))
 go_big_quiet_step (exact Calls.quiet_ext (Q.o _))
 repeat (go_big_quiet_step (fail))
 go_big_quiet_step (exact Calls.quiet_ext (O.o _))
 repeat (go_big_quiet_step (fail))
 refine wpQuiet_nil ?_;intro w2 hw;have R:=η (G.o.trans hw);have m:=a0.o.ext hw;have d0:w2.cell? ⟨q,0,none⟩=some (.string ⟨st.toArray⟩):=m.cell 0;have d1:w2.cell? ⟨q,1,none⟩=some (.int .i64 (fi:Int)):=m.cell 1;have d2:w2.cell? ⟨q,2,none⟩=some (.slice ao n cap):=m.cell 2;clear hw m S U V u0 u1 u2;have h0:=η (F.o.ext R.o);go_wp2_with fail
 go_loopw [5,30] (fun e i W=> ∃k:Nat,∃T:List UInt8,k<=n/\i= .int .i64 (k:Int)/\e= .string ⟨T.toArray⟩/\T=((A++D)++C)++((L.take k).map evB).flatten/\T.length<=100+300*k/\Ext w W) (fun _ i _=>n-(intOf i).toNat)
 case atStart=>exact⟨0,_,υ _,rfl,(by first|rfl|(rw[q3Z,q3Z])),by simp,by simp;omega,R.o⟩
 case round=>
  obtain⟨k,T,hk,rfl,rfl,hT,i0,hb⟩:=hrel;have HT:=η hT;have M:=η hb;by_cases Z:k<n
  ·have g0:decide ((k:Int)<(n:Int))=true:=ζ (by omega)
   obtain⟨b,off,rfl,S,U,V⟩:=(F.o.ext hb).at Z;have v:k<L.length:=by rw[b0.o];exact Z
   have E:L.getD k ev0∈L:=by rw[δ,γ v];exact List.getElem_mem v
   have HS:=η (z5V L k v);have G:=η (q0B wr (.cells #[.string ⟨(L.getD k ev0).ty.toArray⟩,.string ⟨(L.getD k ev0).da.toArray⟩,.float .f64 (L.getD k ev0).we] 97));have q4:IntKind.i64.wrap ((k:Int)+1)=(k:Int)+1:=by rw[ν];omega
   have he:=e0.o _ E;generalize L.getD k ev0=y at*;obtain⟨y1,y2,y3⟩:=y;have hs:=z5U he;have N:=η (fun W=>z7l ⟨y1,y2,y3⟩ W he);have B:Hd (∀W,Calls Tryz.prog 86 #[.agg #[.string ⟨y1.toArray⟩,.string ⟨y2.toArray⟩,.float .f64 y3]] W fun r w'=>r= .returned (.string ⟨(evB ⟨y1,y2,y3⟩).toArray⟩)/\Ext W w'):=N;obtain⟨Y,hY⟩: ∃Y,evB ⟨y1,y2,y3⟩=Y:=⟨_,rfl⟩
   rw[hY] at B hs HS;simp only at S U V;have u0:=q0C S;have u1:=q0C U;have u2:=q0C V;have q5:¬(9223372036854775807<T.length+Y.length):=by omega
   clear v E hb hT N he hY;go_wp2_with fail;refine(B.o _).mono ?_;rintro e w3 ⟨rfl,j⟩;have f0:=η ((M.o.trans G.o).trans j);clear j;go_wp2_with fail
   go_roundw
   case rel=>exact⟨k+1,T++Y,by omega,by go_num,(by first|rfl|(rw[q3Z])),by rw[HS.o,HT.o,List.append_assoc],by rw[θ];omega,f0.o⟩
   case measure=>simp[intOf];omega
  ·obtain rfl:k=n:=by omega
   have g0:decide ((k:Int)<(k:Int))=false:=ε (by omega);have HF:Hd (btB ⟨st,fi,L⟩=T):=η (by rw[HE.o,hT]);clear hb hT;go_wp2_with fail;go_ret2;exact⟨by rw[HF.o];rfl,M.o⟩
end
end Go.Proofs.YtjlcdfpbllobaaaGreatDoor
