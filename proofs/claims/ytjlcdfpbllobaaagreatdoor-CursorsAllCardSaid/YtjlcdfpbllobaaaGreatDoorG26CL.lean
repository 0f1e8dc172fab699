/- Walks. -/
import Derived.Test.YtjlcdfpbllobaaaGreatDoorG23CL
import Derived.Test.YtjlcdfpbllobaaaGreatDoorG12CL
import Derived.Test.YtjlcdfpbllobaaaGreatDoorG24CL
import Derived.Test.YtjlcdfpbllobaaaGreatDoorG25CL
import Derived.Lib.SmallJoins
import Derived.Deep.Strs
set_option linter.unusedVariables false
set_option linter.unusedSimpArgs false
set_option maxRecDepth 100000
set_option maxHeartbeats 12800000
namespace Go.Proofs.YtjlcdfpbllobaaaGreatDoor
variable {w w1 w' W W':World}{ao:Option Addr}{n cap i q k fuel:Nat}{L:List Ev}{v c:Value}{t:TypeId}{pos:Int}{C:Cks}{α H:Type}
section
open Go.RowKit
def y5z(r:Option (Ev×List UInt8)):Value:=match r with
 |some (e,r)=> .tuple #[evV e,.string ⟨r.toArray⟩,.bool true]
 |none=> .tuple #[evV ev0,.string ⟨#[]⟩,.bool false]
theorem q3d(W:World)(a:Addr)(b:Nat)(m:Go.Mode):(store a (.float .f64 b) m).run Tryz.prog W=stored Tryz.prog W a (.float .f64 b) m:=run_store _ _ _ _ _ rfl
theorem q2d(h:Ext w w1)(a b c:Value):Ext w (((w1.setCell ⟨w.heap.size,0,none⟩ a).setCell ⟨w.heap.size,1,none⟩ b).setCell ⟨w.heap.size,2,none⟩ c):=
 ((h.setCell (p:=⟨w.heap.size,0,none⟩) (ι _) a).setCell (p:=⟨w.heap.size,1,none⟩) (ι _) b).setCell (p:=⟨w.heap.size,2,none⟩) (ι _) c
theorem y2u(s:List UInt8)(w:World)(hl:s.length<=4611686018427387903):
  Calls Tryz.prog 111 #[.string ⟨s.toArray⟩] w fun e w'=>e= .returned (y5z (rdE s))/\Ext w w':=by
 have r:=η (fun W=>z4J s W hl);have u:=η (fun W=>z4J (rdR s) W (by have:=q9P s;omega));have r0:=z5q s;have s0:=z5q (rdR s);have t0:=q9P s;have h0:=q9P (rdR s);have N:=η (fun b W=>z1C (rdT s) (rdT (rdR s)) .f64 b W (by omega) (by omega));have HX:=η (q0B w (.cells #[.string ⟨#[]⟩,.string ⟨#[]⟩,.float .f64 0] 97));have J:=η (Blk.new w 97 #[.string ⟨#[]⟩,.string ⟨#[]⟩,.float .f64 0])
 have x:Hd (∀(W:World) (a b c:Value),Blk W w.heap.size 97 #[a,b,c]-> ∀a' b',W.cell? ⟨w.heap.size,0,none⟩=some a/\W.cell? ⟨w.heap.size,1,none⟩=some b/\W.cell? ⟨w.heap.size,2,none⟩=some c/\
   W.frozen? ⟨w.heap.size,0,none⟩=false/\W.frozen? ⟨w.heap.size,1,none⟩=false/\W.frozen? ⟨w.heap.size,2,none⟩=false/\((W.setCell ⟨w.heap.size,0,none⟩ a').setCell ⟨w.heap.size,1,none⟩ b').frozen? ⟨w.heap.size,2,none⟩=false/\
   ((W.setCell ⟨w.heap.size,0,none⟩ a').setCell ⟨w.heap.size,1,none⟩ b').cell? ⟨w.heap.size,2,none⟩=some c):=η fun W a b c h a' b'=>by
  have Q:=(h.set 0 a').set 1 b';exact⟨h.cell 0,h.cell 1,h.cell 2,h.free 0,h.free 1,h.free 2,Q.free 2,Q.cell 2⟩
 have u0:=q3d;by_cases h1:q9t s=true
 case neg=>
  rw[Bool.not_eq_true] at h1;have S:Hd (rdE s=none):=η (by unfold rdE;rw[h1];simp);rw[h1] at r;go_enter Tryz.func111,Tryz.ntmps111;go_wp2_with fail;refine(r.o _).mono ?_;rintro e w1 ⟨rfl,d⟩;have l:=η (J.o.ext d);have m:=η (HX.o.trans d);clear d;obtain⟨U,V,X,f0,f1,f2,g2,Z⟩:=x.o w1 _ _ _ l.o (.string ⟨#[]⟩) (.string ⟨#[]⟩);go_wp2_with fail
  ((try simp only[Exit.inBlock,Exit.then]);refine bodyPost_ret (v:= .tuple #[.agg #[.string ⟨#[]⟩,.string ⟨#[]⟩,.float .f64 0],.string ⟨#[]⟩,.bool false]) (by rw[q0T rfl];go_simp) rfl ?_)
  exact⟨by rw[S.o];rfl,q2d m.o _ _ _⟩
 rw[h1] at r;by_cases Q:q9t (rdR s)=true
 case neg=>
  rw[Bool.not_eq_true] at Q;have S:Hd (rdE s=none):=η (by unfold rdE;rw[Q];simp);rw[Q] at u;go_enter Tryz.func111,Tryz.ntmps111;go_wp2_with fail;refine(r.o _).mono ?_;rintro e w1 ⟨rfl,d⟩;have l:=η (J.o.ext d);have m:=η (HX.o.trans d);clear d;go_wp2_with fail;refine(u.o _).mono ?_;rintro e w2 ⟨rfl,d⟩;have y:=η (l.o.ext d);have B:=η (m.o.trans d);clear d;obtain⟨U,V,X,f0,f1,f2,g2,Z⟩:=x.o w2 _ _ _ y.o (.string ⟨#[]⟩) (.string ⟨#[]⟩);go_wp2_with fail
  ((try simp only[Exit.inBlock,Exit.then]);refine bodyPost_ret (v:= .tuple #[.agg #[.string ⟨#[]⟩,.string ⟨#[]⟩,.float .f64 0],.string ⟨#[]⟩,.bool false]) (by rw[q0T rfl];go_simp) rfl ?_)
  exact⟨by rw[S.o];rfl,q2d B.o _ _ _⟩
 rw[Q] at u;obtain⟨R,hR⟩: ∃R,rdR (rdR s)=R:=⟨_,rfl⟩
 rw[hR] at u h0;obtain⟨D,G⟩: ∃T,rdT s=T:=⟨_,rfl⟩
 obtain⟨F,I⟩: ∃T,rdT (rdR s)=T:=⟨_,rfl⟩
 by_cases h3:R.length<8
 ·have S:Hd (rdE s=none):=η (by unfold rdE;rw[κ (by rw[hR];omega)])
  have hd:decide ((R.length:Int)<8)=true:=ζ (by omega);go_enter Tryz.func111,Tryz.ntmps111;go_wp2_with fail;refine(r.o _).mono ?_;rintro e w1 ⟨rfl,d⟩;have l:=η (J.o.ext d);have m:=η (HX.o.trans d);clear d;go_wp2_with fail;refine(u.o _).mono ?_;rintro e w2 ⟨rfl,d⟩;have y:=η (l.o.ext d);have B:=η (m.o.trans d);clear d;obtain⟨U,V,X,f0,f1,f2,g2,Z⟩:=x.o w2 _ _ _ y.o (.string ⟨#[]⟩) (.string ⟨#[]⟩);go_wp2_with fail
  ((try simp only[Exit.inBlock,Exit.then]);refine bodyPost_ret (v:= .tuple #[.agg #[.string ⟨#[]⟩,.string ⟨#[]⟩,.float .f64 0],.string ⟨#[]⟩,.bool false]) (by rw[q0T rfl];go_simp) rfl ?_)
  exact⟨by rw[S.o];rfl,q2d B.o _ _ _⟩
 have hd:decide ((R.length:Int)<8)=false:=ε (by omega);have s1:=q5f R 8 8 rfl (by omega);have s2:=q3k R 8 8 rfl (by omega);have l8:(R.take 8).length=8:=by rw[Θ];omega
 have HG:=η (fun W=>z1J (R.take 8) W (by omega));rw[show(R.take 8).take 8=R.take 8 from Δ (by omega)] at HG;have e0:=q2W (R.take 8);rw[l8] at e0;obtain⟨b,hb⟩: ∃b,q1X (R.take 8)=b:=⟨_,rfl⟩
 rw[hb] at HG;have q0:=z2b b;rw[G,I] at N;rw[G] at r;rw[I] at u;by_cases h4:q0h D F=0
 case neg=>
  have S:Hd (rdE s=none):=η (by unfold rdE;rw[κ (by rw[G,I];exact fun h=>h4 h.2.2.2)]);have g0:(q0h D F !=0)=true:=by simpa using h4
  obtain⟨E,hE⟩: ∃E,q0h D F=E:=⟨_,rfl⟩
  rw[hE] at N g0;clear hE hb e0 G I hR h1 Q h3 h4;go_enter Tryz.func111,Tryz.ntmps111;go_wp2_with fail;refine(r.o _).mono ?_;rintro e w1 ⟨rfl,d⟩;have l:=η (J.o.ext d);have m:=η (HX.o.trans d);clear d;go_wp2_with fail;refine(u.o _).mono ?_;rintro e w2 ⟨rfl,d⟩;have y:=η (l.o.ext d);have B:=η (m.o.trans d);clear d;go_wp2_with fail;refine(HG.o _).mono ?_;rintro e w3 ⟨rfl,d⟩;have M:=η (y.o.ext d);have b0:=η (B.o.trans d);clear d;obtain⟨U,V,X,f0,f1,f2,g2,Z⟩:=x.o w3 _ _ _ M.o (.string ⟨D.toArray⟩) (.string ⟨F.toArray⟩);go_wp2_with fail;refine(N.o b _).mono ?_;rintro e w4 ⟨rfl,d⟩;have a0:=η ((((M.o.set 0 (.string ⟨D.toArray⟩)).set 1 (.string ⟨F.toArray⟩)).set 2 (.float .f64 b)).ext d);have d0:=η ((q2d b0.o (.string ⟨D.toArray⟩) (.string ⟨F.toArray⟩) (.float .f64 b)).trans d);clear d U V X f0 f1 f2 g2 Z;obtain⟨U,V,X,f0,f1,f2,g2,Z⟩:=x.o w4 _ _ _ a0.o (.string ⟨#[]⟩) (.string ⟨#[]⟩);go_wp2_with fail
  ((try simp only[Exit.inBlock,Exit.then]);refine bodyPost_ret (v:= .tuple #[.agg #[.string ⟨#[]⟩,.string ⟨#[]⟩,.float .f64 0],.string ⟨#[]⟩,.bool false]) (by rw[q0T rfl];go_simp) rfl ?_)
  exact⟨by rw[S.o];rfl,q2d d0.o _ _ _⟩
 have S:Hd (rdE s=some (⟨D,F,b⟩,R.drop 8)):=η (by unfold rdE;rw[G,I,hR,ξ ⟨h1,Q,by omega,h4⟩,hb]);rw[h4] at N;clear hb e0 G I hR h1 Q h3 h4;go_enter Tryz.func111,Tryz.ntmps111;go_wp2_with fail;refine(r.o _).mono ?_;rintro e w1 ⟨rfl,d⟩;have l:=η (J.o.ext d);have m:=η (HX.o.trans d);clear d;go_wp2_with fail;refine(u.o _).mono ?_;rintro e w2 ⟨rfl,d⟩;have y:=η (l.o.ext d);have B:=η (m.o.trans d);clear d;go_wp2_with fail;refine(HG.o _).mono ?_;rintro e w3 ⟨rfl,d⟩;have M:=η (y.o.ext d);have b0:=η (B.o.trans d);clear d;obtain⟨U,V,X,f0,f1,f2,g2,Z⟩:=x.o w3 _ _ _ M.o (.string ⟨D.toArray⟩) (.string ⟨F.toArray⟩);go_wp2_with fail;refine(N.o b _).mono ?_;rintro e w4 ⟨rfl,d⟩;have Y:=η ((((M.o.set 0 (.string ⟨D.toArray⟩)).set 1 (.string ⟨F.toArray⟩)).set 2 (.float .f64 b)).ext d);have a0:=η (Y.o.ext (Ext.refl w4).drew);have d0:=η (((q2d b0.o (.string ⟨D.toArray⟩) (.string ⟨F.toArray⟩) (.float .f64 b)).trans d).drew);clear d U V X f0 f1 f2 g2 Z;obtain⟨U,V,X,f0,f1,f2,g2,Z⟩:=x.o w4.drew _ _ _ a0.o (.string ⟨D.toArray⟩) (.string ⟨F.toArray⟩);obtain⟨i0,j0,k0,m0,n0,o0,p0,l0⟩:=x.o w4 _ _ _ Y.o (.string ⟨D.toArray⟩) (.string ⟨F.toArray⟩);go_wp2_with fail;refine q1U (fun W=>W.cell? ⟨w.heap.size,0,none⟩=some (.string ⟨D.toArray⟩)/\W.cell? ⟨w.heap.size,1,none⟩=some (.string ⟨F.toArray⟩)/\W.cell? ⟨w.heap.size,2,none⟩=some (.float .f64 b)) 3 (by kernel_rfl) ⟨U,V,X⟩ (fun j=>?_);refine q9q (i:=0) (v:=?_) rfl (by kernel_rfl) (fun _ _ _ h=>h) (Or.inl ⟨by rfl,?_⟩) j (fun j=>?_)
 rotate_left
 ·(intro w O;(try dsimp only at O);go_simp;try with_reducible rfl)
 try simp only[Act.put,π,ψ,ω]
 refine q1B (i:=1) (v:=?_) rfl (by kernel_rfl) (fun _ _ _ h=>h) (Or.inl ⟨by rfl,?_⟩) j (fun j=>?_)
 rotate_left
 ·(intro w O;(try dsimp only at O);go_simp;try with_reducible rfl)
 try simp only[Act.put,π,ψ,ω]
 refine q1B (i:=2) (v:=?_) rfl (by kernel_rfl) (fun _ _ _ h=>h) (Or.inl ⟨by rfl,?_⟩) j (fun j=>?_)
 rotate_left
 ·(intro w O;(try dsimp only at O);go_simp;try with_reducible rfl)
 try simp only[Act.put,π,ψ,ω]
 refine q1i (by kernel_rfl) ?_
 try simp only[List.drop_succ_cons,List.drop_zero]
 clear j;go_wp2_with fail
 ((try simp only[Exit.inBlock,Exit.then]);refine bodyPost_ret (v:= .tuple #[.agg #[.string ⟨D.toArray⟩,.string ⟨F.toArray⟩,.float .f64 b],.string ⟨(R.drop 8).toArray⟩,.bool true]) (by rw[q0T rfl];go_simp) rfl ?_)
 exact⟨by rw[S.o];rfl,q2d d0.o _ _ _⟩
theorem z2W(e:Ev)(L:List Ev):q8F (e::L)=evc e++q8F L:=rfl
theorem q8p : ∀(L:List Ev) (i j:Nat),i<L.length->j<3->(q8F L)[i*3+j]? =(evc (L.getD i ev0))[j]?
 |[],i,j,h,_=>by simp at h
 | k::L,0,j,_,hj=>by
  rw[z2W,List.getElem?_append_left (by simp[evc];omega)];simp
 | k::L,i+1,j,h,hj=>by
  rw[z2W,List.getElem?_append_right (by simp[evc];omega),show(i+1)*3+j-(evc k).length=i*3+j from by simp[evc];omega,q8p L i j (by simpa using h) hj];simp
structure Evs(w:World)(ao:Option Addr)(n cap:Nat)(L:List Ev):Prop where
 len:L.length=n
 fits:n<=cap
 bound:cap<=9223372036854775807
 nil:ao=none->cap=0
 rd:Rd w ao (q8F L)
theorem Evs.ext(h:Evs w ao n cap L)(k:Ext w w'):Evs w' ao n cap L:=⟨h.len,h.fits,h.bound,h.nil,h.rd.ext k⟩
theorem Evs.at(h:Evs w ao n cap L)(s:i<n):
  ∃b off,ao=some ⟨b,off,none⟩/\w.cell? ⟨b,off+i*3,none⟩=some (.string ⟨(L.getD i ev0).ty.toArray⟩)/\w.cell? ⟨b,off+i*3+1,none⟩=some (.string ⟨(L.getD i ev0).da.toArray⟩)/\w.cell? ⟨b,off+i*3+2,none⟩=some (.float .f64 (L.getD i ev0).we):=by
 have u:=h.len;have k0:=q8p L i 0 (by omega) (by decide);have k1:=q8p L i 1 (by omega) (by decide);have r:=q8p L i 2 (by omega) (by decide);obtain⟨b,off,rfl,l⟩:=h.rd _ _ k0;obtain⟨_,_,d,m⟩:=h.rd _ _ k1
 cases d;obtain⟨_,_,j,o⟩:=h.rd _ _ r
 cases j;exact⟨b,off,rfl,l,m,o⟩
theorem Evs.of_own{B:Nat}{e:TypeId}(h:Own w B e 3 v L.length (q8F L)): ∃ao cap,v= .slice ao L.length cap/\Evs w ao L.length cap L:=by
 obtain⟨ao,cap,rfl,b,d,j,l⟩:=h.rd;exact⟨ao,cap,rfl,rfl,b,d,j,l⟩
theorem q8q : ∀(L:List Ev) (k:Nat),k<L.length->q7N (L.take k)=0->q7N L=if q0h (L.getD k ev0).ty (L.getD k ev0).da=0 then q7N (L.drop (k+1)) else q0h (L.getD k ev0).ty (L.getD k ev0).da
 |[],k,h,_=>by simp at h
 |e::L,0,_,_=>by simp[q7N]
 | e ::L,k+1,h,h0=>by
  rw[List.take_succ_cons,q7N] at h0
  split at h0
  ·rename_i b
   rw[q7N,ξ b,q8q L k (by simpa using h) h0];simp
  ·rename_i b;exact absurd h0 b
theorem q8r : ∀(L:List Ev) (e:Ev),q7N L=0->q7N (L++[e])=q0h e.ty e.da
 | [],e,_=>by
  rw[List.nil_append,q7N,q7N]
  split
  ·rename_i h;exact h.symm
  ·rfl
 | x::L,e,h=>by
  rw[q7N] at h
  split at h
  ·rename_i b;rw[List.cons_append,q7N,ξ b,q8r L e h]
  ·rename_i b;exact absurd h b
def q2U(L:List Ev):Prop:= ∀e∈L,e.ty.length<=4611686018427387903/\e.da.length<=4611686018427387903
theorem z0v(st:List UInt8)(fi:Int)(w:World)(E:Evs w ao n cap L)(k0:st.length<=4611686018427387903)(hL:q2U L):
  Calls Tryz.prog 45 #[.agg #[.string ⟨st.toArray⟩,.int .i64 fi,.slice ao n cap]] w fun e w'=>e= .returned (.int .i64 (q0Q st fi L))/\Ext w w':=by
 have b1:=E.fits;have b2:=E.bound;have d:=E.len;have I:=η (q0B w (.cells #[.string ⟨st.toArray⟩,.int .i64 fi,.slice ao n cap] 118));have m:=Blk.new w 118 #[.string ⟨st.toArray⟩,.int .i64 fi,.slice ao n cap];have HE:=η E;have HL:=η hL;clear E hL;by_cases B:st=[]
 ·subst B
  have s:Hd (q0Q [] fi L=2):=η (by unfold q0Q;rw[ξ (.inl rfl)]);clear m;go_enter Tryz.func45,Tryz.ntmps45;go_wp2_with fail
  go_step3
  go_wp2_with fail;rw[Exit.noGoto_ret];go_ret;exact⟨by rw[s.o];rfl,I.o⟩
 have e0:(st==[])=false:=beq_eq_false_iff_ne.2 B;by_cases G:n=0
 ·subst G
  have s:Hd (q0Q st fi L=2):=η (by unfold q0Q;rw[ξ (.inr (List.eq_nil_of_length_eq_zero d))]);clear m B d;go_enter Tryz.func45,Tryz.ntmps45;go_wp2_with fail
  go_step3
  go_wp2_with fail;rw[Exit.noGoto_ret];go_ret;exact⟨by rw[s.o];rfl,I.o⟩
 have f0:((n:Int)==0)=false:=by simpa using G
 have u:L≠[]:=fun e=>G (by rw[<-d,e];rfl)
 have j:¬(st=[]\/L=[]):=fun h=>h.elim B u
 by_cases h3:32<st.length
 ·have s:Hd (q0Q st fi L=3):=η (by unfold q0Q;rw[κ j,ξ (.inl h3)])
  have hd:decide ((32:Int)<(st.length:Int))=true:=ζ (by omega);clear m B G u j d;go_enter Tryz.func45,Tryz.ntmps45;go_wp2_with fail
  go_step3
  go_wp2_with fail;rw[Exit.noGoto_ret];go_ret;exact⟨by rw[s.o];rfl,I.o⟩
 by_cases h4:8<n
 ·have s:Hd (q0Q st fi L=3):=η (by unfold q0Q;rw[κ j,ξ (.inr (by omega))])
  have hd:decide ((8:Int)<(n:Int))=true:=ζ (by omega);clear m B G u j d;go_enter Tryz.func45,Tryz.ntmps45;go_wp2_with fail
  go_step3
  go_wp2_with fail;rw[Exit.noGoto_ret];go_ret;exact⟨by rw[s.o];rfl,I.o⟩
 have l:¬(32<st.length\/8<L.length):=by omega
 have i0:decide ((8:Int)<(n:Int))=false:=ε (by omega);have q0:IntKind.i64.wrap (1073741824-(n:Int))=1073741824-(n:Int):=by rw[ν];omega
 by_cases R:fi<0\/1073741824-(n:Int)<fi
 ·have s:Hd (q0Q st fi L=2):=η (by unfold q0Q;rw[κ j,κ l,ξ (by rw[d];exact R)])
  have x:decide (fi<0)=true\/(decide (fi<0)=false/\decide (1073741824-(n:Int)<fi)=true):=by
   by_cases h:fi<0
   ·exact .inl (ζ h)
   ·exact .inr ⟨ε h,ζ (by omega)⟩
  clear m B G u j l d R;rcases x with x|⟨x,b0⟩
  all_goals
   go_enter Tryz.func45,Tryz.ntmps45;go_wp2_with fail
   go_step3
   go_wp2_with fail;rw[Exit.noGoto_ret];go_ret;exact⟨by rw[s.o];rfl,I.o⟩
 have x:decide (fi<0)=false:=ε (by omega);have b0:decide (1073741824-(n:Int)<fi)=false:=ε (by omega);have s:Hd (q0Q st fi L=q7N L):=η (by unfold q0Q;rw[κ j,κ l,κ (by rw[d];exact R)]);have N:=η d;clear m B G u j l d R;go_enter Tryz.func45,Tryz.ntmps45;go_wp2_with fail
 go_step3
 go_wp2_with fail
 go_step3
 go_wp2_with fail
 go_loopw [2,36] (fun e i W=> ∃k:Nat,k<=n/\i= .int .i64 (k:Int)/\e= .int .i64 0/\q7N (L.take k)=0/\Ext w W) (fun _ i _=>n-(intOf i).toNat)
 case atStart=>exact⟨0,υ _,rfl,rfl,rfl,I.o⟩
 case round=>
  obtain⟨k,hk,rfl,rfl,J,S⟩:=hrel;have M:=η S;by_cases Q:k<n
  ·have d0:decide ((k:Int)<(n:Int))=true:=ζ (by omega)
   obtain⟨b,off,rfl,c0,c1,c2⟩:=(HE.o.ext S).at Q;have r:k<L.length:=by rw[N.o];exact Q
   have hT:L.take (k+1)=L.take k++[L.getD k ev0]:=by
    rw[List.take_succ_eq_append_getElem r];simp[List.getD,γ r]
   have hS:=q8r (L.take k) (L.getD k ev0) J;rw[<-hT] at hS;have HS:=η hS;have Z:=η (q8q L k r J);have D:L.getD k ev0∈L:=by rw[δ,γ r];exact List.getElem_mem r
   obtain⟨m1,m2⟩:=HL.o _ D;have a0:=η (q0B wr (.cells #[.string ⟨(L.getD k ev0).ty.toArray⟩,.string ⟨(L.getD k ev0).da.toArray⟩,.float .f64 (L.getD k ev0).we] 97));have q1:IntKind.i64.wrap ((k:Int)+1)=(k:Int)+1:=by rw[ν];omega
   generalize L.getD k ev0=y at*;obtain⟨U,V,y3⟩:=y;have X:=η (fun W=>z1C U V .f64 y3 W m1 m2);simp only at c0 c1 c2;have u0:=q0D c0;have u1:=q0D c1;have u2:=q0D c2;have j0:=q3d;clear hT r J hS D m1 m2 S;go_wp2_with fail;refine(X.o _).mono ?_;rintro e w1 ⟨rfl,E⟩;have O:=η ((M.o.trans a0.o).trans E);clear E;by_cases hc:q0h U V=0
   ·have Y:Hd (q7N (L.take (k+1))=0):=η (by rw[HS.o];exact hc)
    rw[hc];go_wp2_with fail
    go_roundw
    case rel=>exact⟨k+1,by omega,by go_num,rfl,Y.o,O.o⟩
    case measure=>simp[intOf];omega
   ·have F:Hd (q7N L=q0h U V):=η (by rw[Z.o,κ hc])
    have g0:(q0h U V==0)=false:=by simpa using hc
    clear hc;go_wp2_with fail;rw[Exit.noGoto_ret];go_ret;exact⟨by rw[s.o,F.o];rfl,O.o⟩
  ·obtain rfl:k=n:=by omega
   have d0:decide ((k:Int)<(k:Int))=false:=ε (by omega);have F:Hd (q7N L=0):=η (by rw[<-N.o,List.take_length] at J;exact J);clear J S;go_wp2_with fail;rw[Exit.noGoto_ret];go_ret;exact⟨by rw[s.o,F.o];rfl,M.o⟩
theorem q2K{fn:Func}{p u v x:Tmp}{ty:TypeId}(h:fn.results=#[.cell p ty,.tmp u,.tmp v,.tmp x])(tmps:Array Value)(P:Program)(w:World):
  (results fn tmps).run P w=
   ((asAddr (tmps.getD p undef)).run P w).andThen fun a w₁=>((loadVar ty a).run P w₁).andThen fun y b=> .ok (.tuple #[y,tmps.getD u undef,tmps.getD v undef,tmps.getD x undef]) b:=by
 simp only[results,h];simp[Sem.run_bind,Result.andThen]
def q7u(s:List UInt8):Value:=if q5v s=true then .tuple #[.agg #[.string ⟨(rdT s).toArray⟩,.int .i64 (q1X ((rdR s).take 8):Int),.slice none 0 0],.int .i64 (((rdR s).getD 8 0).toNat:Int),.string ⟨((rdR s).drop 9).toArray⟩,.bool true]
 else .tuple #[.agg #[.string ⟨#[]⟩,.int .i64 0,.slice none 0 0],.int .i64 0,.string ⟨#[]⟩,.bool false]
theorem y2i(s:List UInt8)(w:World)(hl:s.length<=4611686018427387903):
  Calls Tryz.prog 110 #[.string ⟨s.toArray⟩] w fun e w'=>e= .returned (q7u s)/\Ext w w':=by
 have r:=η (fun W=>z4J s W hl);have m0:=z5q s;have b0:=q9P s;have U:=η (q0B w (.cells #[.string ⟨#[]⟩,.int .i64 0,.slice none 0 0] 118));have B:=η (Blk.new w 118 #[.string ⟨#[]⟩,.int .i64 0,.slice none 0 0])
 have y:Hd (∀(W:World) (a b c:Value),Blk W w.heap.size 118 #[a,b,c]-> ∀V X,W.cell? ⟨w.heap.size,0,none⟩=some a/\W.cell? ⟨w.heap.size,1,none⟩=some b/\W.cell? ⟨w.heap.size,2,none⟩=some c/\
   W.frozen? ⟨w.heap.size,0,none⟩=false/\W.frozen? ⟨w.heap.size,1,none⟩=false/\W.frozen? ⟨w.heap.size,2,none⟩=false/\((W.setCell ⟨w.heap.size,0,none⟩ V).setCell ⟨w.heap.size,1,none⟩ X).frozen? ⟨w.heap.size,2,none⟩=false/\
   ((W.setCell ⟨w.heap.size,0,none⟩ V).setCell ⟨w.heap.size,1,none⟩ X).cell? ⟨w.heap.size,2,none⟩=some c):=η fun W a b c h V X=>by
  have h2:=(h.set 0 V).set 1 X;exact⟨h.cell 0,h.cell 1,h.cell 2,h.free 0,h.free 1,h.free 2,h2.free 2,h2.cell 2⟩
 by_cases J:q9t s=true
 case neg=>
  rw[Bool.not_eq_true] at J;have F:Hd (q7u s= .tuple #[.agg #[.string ⟨#[]⟩,.int .i64 0,.slice none 0 0],.int .i64 0,.string ⟨#[]⟩,.bool false]):=η (by unfold q7u q5v;rw[J];rfl);rw[J] at r;go_enter Tryz.func110,Tryz.ntmps110;go_wp2_with fail;refine(r.o _).mono ?_;rintro e w1 ⟨rfl,l⟩;have u:=η (B.o.ext l);have x:=η (U.o.trans l);clear l;obtain⟨Z,c1,c2,f0,f1,f2,g2,d2⟩:=y.o w1 _ _ _ u.o (.string ⟨#[]⟩) (.int .i64 0);go_wp2_with fail
  ((try simp only[Exit.inBlock,Exit.then]);refine bodyPost_ret (v:= .tuple #[.agg #[.string ⟨#[]⟩,.int .i64 0,.slice none 0 0],.int .i64 0,.string ⟨#[]⟩,.bool false]) (by rw[q2K rfl];go_simp) rfl ?_)
  exact⟨by rw[F.o],q2d x.o _ _ _⟩
 rw[J] at r;obtain⟨R,I⟩: ∃R,rdR s=R:=⟨_,rfl⟩
 rw[I] at r b0;by_cases h3:R.length<9
 ·have F:Hd (q7u s= .tuple #[.agg #[.string ⟨#[]⟩,.int .i64 0,.slice none 0 0],.int .i64 0,.string ⟨#[]⟩,.bool false]):=η (by unfold q7u q5v;rw[J,I,ε (by omega)];rfl)
  have hd:decide ((R.length:Int)<9)=true:=ζ (by omega);clear I;go_enter Tryz.func110,Tryz.ntmps110;go_wp2_with fail;refine(r.o _).mono ?_;rintro e w1 ⟨rfl,l⟩;have u:=η (B.o.ext l);have x:=η (U.o.trans l);clear l;obtain⟨Z,c1,c2,f0,f1,f2,g2,d2⟩:=y.o w1 _ _ _ u.o (.string ⟨#[]⟩) (.int .i64 0);go_wp2_with fail
  ((try simp only[Exit.inBlock,Exit.then]);refine bodyPost_ret (v:= .tuple #[.agg #[.string ⟨#[]⟩,.int .i64 0,.slice none 0 0],.int .i64 0,.string ⟨#[]⟩,.bool false]) (by rw[q2K rfl];go_simp) rfl ?_)
  exact⟨by rw[F.o],q2d x.o _ _ _⟩
 have hd:decide ((R.length:Int)<9)=false:=ε (by omega);have s1:=q5f R 8 8 rfl (by omega);have s2:=q3k R 9 9 rfl (by omega);have l8:(R.take 8).length=8:=by rw[Θ];omega
 have S:=η (fun W=>z1J (R.take 8) W (by omega));rw[show(R.take 8).take 8=R.take 8 from Δ (by omega)] at S;have E:=q2W (R.take 8);rw[l8] at E;obtain⟨b,O⟩: ∃b,q1X (R.take 8)=b:=⟨_,rfl⟩
 rw[O] at S E;by_cases h4:1073741824<b
 ·have F:Hd (q7u s= .tuple #[.agg #[.string ⟨#[]⟩,.int .i64 0,.slice none 0 0],.int .i64 0,.string ⟨#[]⟩,.bool false]):=η (by unfold q7u q5v;rw[I,O,ε (p:=b<=1073741824) (by omega),Bool.and_false];rfl)
  have a0:decide ((1073741824:Int)<(b:Int))=true:=ζ (by omega);clear O E I h3;go_enter Tryz.func110,Tryz.ntmps110;go_wp2_with fail;refine(r.o _).mono ?_;rintro e w1 ⟨rfl,l⟩;have u:=η (B.o.ext l);have x:=η (U.o.trans l);clear l;go_wp2_with fail;refine(S.o _).mono ?_;rintro e Q ⟨rfl,l⟩;have D:=η (u.o.ext l);have G:=η (x.o.trans l);clear l;obtain⟨Z,c1,c2,f0,f1,f2,g2,d2⟩:=y.o Q _ _ _ D.o (.string ⟨#[]⟩) (.int .i64 0);go_wp2_with fail
  ((try simp only[Exit.inBlock,Exit.then]);refine bodyPost_ret (v:= .tuple #[.agg #[.string ⟨#[]⟩,.int .i64 0,.slice none 0 0],.int .i64 0,.string ⟨#[]⟩,.bool false]) (by rw[q2K rfl];go_simp) rfl ?_)
  exact⟨by rw[F.o],q2d G.o _ _ _⟩
 have a0:decide ((1073741824:Int)<(b:Int))=false:=ε (by omega);obtain⟨m,hm⟩: ∃m:Nat,(R.getD 8 0).toNat=m:=⟨_,rfl⟩
 have n0:m<256:=by rw[<-hm];exact(R.getD 8 0).toNat_lt
 have hb8:8<(⟨R.toArray⟩:ByteArray).size:=by show 8<R.length;omega
 have e8:((⟨R.toArray⟩:ByteArray)[8]'hb8).toNat=m:=by
  rw[<-hm,δ,γ (show 8<R.length by omega)];rfl
 have h8:(8:Int)<(R.length:Int):=by omega
 have q1:IntKind.i64.wrap (b:Int)=(b:Int):=by rw[ν];omega
 have q2:IntKind.i64.wrap (m:Int)=(m:Int):=by rw[ν];omega
 have F:Hd (q7u s= .tuple #[.agg #[.string ⟨(rdT s).toArray⟩,.int .i64 (b:Int),.slice none 0 0],.int .i64 (m:Int),.string ⟨(R.drop 9).toArray⟩,.bool true]):=η (by
  unfold q7u q5v
  rw[I,O,J,hm,ζ (p:=9<=R.length) (by omega),ζ (p:=b<=1073741824) (by omega)];rfl)
 obtain⟨Y,N⟩: ∃T,rdT s=T:=⟨_,rfl⟩
 rw[N] at F r;clear O E I h3 h4 N hm;go_enter Tryz.func110,Tryz.ntmps110;go_wp2_with fail;refine(r.o _).mono ?_;rintro e w1 ⟨rfl,l⟩;have u:=η (B.o.ext l);have x:=η (U.o.trans l);clear l;go_wp2_with fail;refine(S.o _).mono ?_;rintro e Q ⟨rfl,l⟩;have D:=η (u.o.ext l);have M:=η (D.o.ext (Ext.refl Q).drew);have G:=η ((x.o.trans l).drew);clear l;obtain⟨Z,c1,c2,f0,f1,f2,g2,d2⟩:=y.o Q _ _ _ D.o (.string ⟨Y.toArray⟩) (.int .i64 (b:Int));obtain⟨d0,e0,g0,i0,j0,k0,l0,h0⟩:=y.o Q.drew _ _ _ M.o (.string ⟨Y.toArray⟩) (.int .i64 (b:Int));go_wp2_with fail;refine q1U (fun W=>True) 9 (by kernel_rfl) trivial (fun d=>?_);refine q1B (i:=0) (v:=?_) rfl (by kernel_rfl) (fun _ _ _ h=>h) (Or.inl ⟨by rfl,?_⟩) d (fun d=>?_)
 rotate_left
 ·(intro w j;(try dsimp only at j);go_simp;try with_reducible rfl)
 try simp only[Act.put,π,ψ,ω]
 refine q1B (i:=1) (v:=?_) rfl (by kernel_rfl) (fun _ _ _ h=>h) (Or.inl ⟨by rfl,?_⟩) d (fun d=>?_)
 rotate_left
 ·(intro w j;(try dsimp only at j);go_simp;try with_reducible rfl)
 try simp only[Act.put,π,ψ,ω]
 refine q1B (i:=2) (v:=?_) rfl (by kernel_rfl) (fun _ _ _ h=>h) (Or.inl ⟨by rfl,?_⟩) d (fun d=>?_)
 rotate_left
 ·(intro w j;(try dsimp only at j);go_simp;try with_reducible rfl)
 try simp only[Act.put,π,ψ,ω]
 refine q1B (i:=3) (v:=?_) rfl (by kernel_rfl) (fun _ _ _ h=>h) (Or.inl ⟨by rfl,?_⟩) d (fun d=>?_)
 rotate_left
 ·(intro w j;(try dsimp only at j);go_simp;try with_reducible rfl)
 try simp only[Act.put,π,ψ,ω]
 refine q1B (i:=4) (v:=?_) rfl (by kernel_rfl) (fun _ _ _ h=>h) (Or.inl ⟨by rfl,?_⟩) d (fun d=>?_)
 rotate_left
 ·(intro w j;(try dsimp only at j);go_simp;try with_reducible rfl)
 try simp only[Act.put,π,ψ,ω]
 refine q1B (i:=5) (v:=?_) rfl (by kernel_rfl) (fun _ _ _ h=>h) (Or.inl ⟨by rfl,?_⟩) d (fun d=>?_)
 rotate_left
 ·(intro w j;(try dsimp only at j);go_simp;try with_reducible rfl)
 try simp only[Act.put,π,ψ,ω]
 refine q1B (i:=6) (v:=?_) rfl (by kernel_rfl) (fun _ _ _ h=>h) (Or.inl ⟨by rfl,?_⟩) d (fun d=>?_)
 rotate_left
 ·(intro w j;(try dsimp only at j);go_simp;try with_reducible rfl)
 try simp only[Act.put,π,ψ,ω]
 refine q1B (i:=7) (v:=?_) rfl (by kernel_rfl) (fun _ _ _ h=>h) (Or.inl ⟨by rfl,?_⟩) d (fun d=>?_)
 rotate_left
 ·(intro w j;(try dsimp only at j);go_simp;try with_reducible rfl)
 try simp only[Act.put,π,ψ,ω]
 refine q1B (i:=8) (v:=?_) rfl (by kernel_rfl) (fun _ _ _ h=>h) (Or.inl ⟨by rfl,?_⟩) d (fun d=>?_)
 rotate_left
 ·(intro w j;(try dsimp only at j);go_simp;try with_reducible rfl)
 try simp only[Act.put,π,ψ,ω]
 refine q1i (by kernel_rfl) ?_
 try simp only[List.drop_succ_cons,List.drop_zero]
 clear d;go_wp2_with fail
 ((try simp only[Exit.inBlock,Exit.then]);refine bodyPost_ret (v:= .tuple #[.agg #[.string ⟨Y.toArray⟩,.int .i64 (b:Int),.slice none 0 0],.int .i64 (m:Int),.string ⟨(R.drop 9).toArray⟩,.bool true]) (by rw[q2K rfl];go_simp) rfl ?_)
 exact⟨by rw[F.o],q2d G.o _ _ _⟩
theorem Tryz.infoEv :(Tryz.prog.info? 97).map (fun i=>(i.zero,i.size,i.bytes))=some (some (.agg #[.string ⟨#[]⟩,.string ⟨#[]⟩,.float .f64 0]),3,40):=by kernel_rfl
theorem z9W(s:List UInt8)(k:Nat)(h:z4R k s=none): ∀m,k<=m->z4R m s=none:=by
 intro m hm;obtain⟨d,rfl⟩:=Nat.le.dest hm;clear hm
 induction d with
 |zero=>exact h
 |succ d ih=>rw[<-Nat.add_assoc,z4R,ih];rfl
theorem y3g(s:List UInt8): ∃e R o,y5z (rdE s)= .tuple #[evV e,.string ⟨R.toArray⟩,.bool o]/\(o=true->rdE s=some (e,R))/\(o=false->rdE s=none)/\e.ty.length<=16/\e.da.length<=200/\R.length<=s.length:=by
 by_cases h:q9t s=true/\q9t (rdR s)=true/\8<=(rdR (rdR s)).length/\q0h (rdT s) (rdT (rdR s))=0
 ·have b:rdE s=some (⟨rdT s,rdT (rdR s),q1X ((rdR (rdR s)).take 8)⟩,(rdR (rdR s)).drop 8):=by unfold rdE;rw[ξ h]
  obtain⟨_,d,j⟩:=q2F h.2.2.2;have l:=q9P s;have m:=q9P (rdR s);exact⟨_,_,true,by rw[b];rfl,fun _=>b,fun e=>by simp at e,d,j,by rw[List.length_drop];omega⟩
 ·have b:rdE s=none:=by unfold rdE;rw[κ h]
  exact⟨ev0,[],false,by rw[b];rfl,fun e=>by simp at e,fun _=>b,by decide,by decide,υ _⟩
theorem y1A(s:List UInt8): ∃st fi m R o,q7u s= .tuple #[.agg #[.string ⟨st.toArray⟩,.int .i64 ((fi:Nat):Int),.slice none 0 0],.int .i64 ((m:Nat):Int),.string ⟨R.toArray⟩,.bool o]/\st.length<=s.length/\R.length<=s.length/\m<=255/\fi<=1073741824/\
  (∀es T,o=true->z4R m R=some (es,T)->q5n s=if T=[] then(if q0Q st (fi:Int) es=0 then some ⟨st,fi,es⟩ else none) else none)/\((o=false\/z4R m R=none)->q5n s=none):=by
 have j:=z5q s;have l:=q9P s;by_cases h:q5v s=true
 ·have d:=h
  unfold q5v at d;simp only[Ξ,Φ] at d;refine⟨rdT s,q1X ((rdR s).take 8),((rdR s).getD 8 0).toNat,(rdR s).drop 9,true,by unfold q7u;rw[ξ h],by omega,by rw[List.length_drop];omega,by have:=UInt8.toNat_lt ((rdR s).getD 8 0);omega,d.2,fun es T _ he=>?_,fun he=>?_⟩
  ·unfold q5n
   rw[ξ h,he]
   cases T with
   |nil=>rfl
   |cons a b=>rfl
  ·rcases he with he|he
   ·cases he
   ·unfold q5n;rw[ξ h,he]
 ·refine⟨[],0,0,[],false,by unfold q7u;rw[κ h];rfl,υ _,υ _,by omega,by omega,fun es T e=>by simp at e,fun _=>by unfold q5n;rw[κ h]⟩
def y5t(B:Nat)(w:World)(r:Option Bt)(v:Value):Prop:=match r with
 |none=>v= .tuple #[.agg #[.string ⟨#[]⟩,.int .i64 0,.slice none 0 0],.int .i64 10]
 |some b=> ∃x,v= .tuple #[.agg #[.string ⟨b.st.toArray⟩,.int .i64 (b.fi:Int),x],.int .i64 0]/\Own w B 97 3 x b.ev.length (q8F b.ev)
theorem y4Q{a b:Value}(h:Blk W q t #[a,b,c])(d j:Value):W.cell? ⟨q,0,none⟩=some a/\W.cell? ⟨q,1,none⟩=some b/\W.cell? ⟨q,2,none⟩=some c/\
   W.frozen? ⟨q,0,none⟩=false/\W.frozen? ⟨q,1,none⟩=false/\W.frozen? ⟨q,2,none⟩=false/\((W.setCell ⟨q,0,none⟩ d).setCell ⟨q,1,none⟩ j).frozen? ⟨q,2,none⟩=false/\
   ((W.setCell ⟨q,0,none⟩ d).setCell ⟨q,1,none⟩ j).cell? ⟨q,2,none⟩=some c:=by
 have l:=(h.set 0 d).set 1 j;exact⟨h.cell 0,h.cell 1,h.cell 2,h.free 0,h.free 1,h.free 2,l.free 2,l.cell 2⟩
theorem q5I(h:Ext w w1)(hq:w.heap.size<=q)(a b c:Value):Ext w (((w1.setCell ⟨q,0,none⟩ a).setCell ⟨q,1,none⟩ b).setCell ⟨q,2,none⟩ c):=
 ((h.setCell (p:=⟨q,0,none⟩) hq a).setCell (p:=⟨q,1,none⟩) hq b).setCell (p:=⟨q,2,none⟩) hq c
theorem y2G(s :List UInt8)(w:World)(hl:s.length<=4611686018427387903):
  Calls Tryz.prog 60 #[.string ⟨s.toArray⟩] w fun e w'=>(∃v,e= .returned v/\y5t w.heap.size w' (q5n s) v)/\Ext w w':=by
 have HH:=η (fun W=>y2i s W hl);obtain⟨st,fi,m,S9,o0,hv,r1,n1,hm,p1,hG,I0⟩:=y1A s;rw[hv] at HH;have HG:=η hG;have j0:=η I0;have HX:=η (q0B w (.cells #[.string ⟨#[]⟩,.int .i64 0,.slice none 0 0] 118));have u0:=η (Blk.new w 118 #[.string ⟨#[]⟩,.int .i64 0,.slice none 0 0]);have q1:=q3d;clear hv hG I0;obtain⟨q,hq⟩: ∃q,w.heap.size=q:=⟨_,rfl⟩
 have HQ:=η hq;have X:Hd (w.heap.size<=q):=η (by omega);rw[hq] at u0;go_enter Tryz.func60,Tryz.ntmps60;go_wp2_with fail;refine(HH.o _).mono ?_;rintro e w1 ⟨rfl,G⟩;have v0:=η (u0.o.ext G);have F0:=η (HX.o.trans G);clear G;go_wp2_with fail;obtain⟨j,O0⟩: ∃j,w1.heap.size=j:=⟨_,rfl⟩
 have N0:w.heap.size<=w1.heap.size:=F0.o.size;have l0:Hd (q+1<=j):=η (by have:=v0.o.lt;omega);have m0:Hd (w.heap.size<=j):=η (by omega);have U0:=η (v0.o.ext (q0B w1 (.cells #[.string ⟨st.toArray⟩,.int .i64 (fi:Int),.slice none 0 0] 118)));have Y0:=η (F0.o.trans (q0B w1 (.cells #[.string ⟨st.toArray⟩,.int .i64 (fi:Int),.slice none 0 0] 118)));have x0:=η (Blk.new w1 118 #[.string ⟨st.toArray⟩,.int .i64 (fi:Int),.slice none 0 0]);rw[O0] at x0⊢;clear O0 N0
 go_loopw [6,7] (fun r o W=> ∃es R ao cp b,r= .string ⟨(R:List UInt8).toArray⟩/\o= .bool b/\Blk W j 118 #[.string ⟨st.toArray⟩,.int .i64 (fi:Int),.slice ao es.length cp]/\
   W.ownsRow (j+1) 97 3 (.slice ao es.length cp) es.length (q8F es)/\es.length<=m/\(b=true->o0=true/\z4R es.length S9=some (es,R))/\(b=false->o0=false\/z4R m S9=none)/\q2U es/\
   R.length<=4611686018427387903/\Blk W q 118 #[.string ⟨#[]⟩,.int .i64 0,.slice none 0 0]/\Ext w W)
  (fun _ _ W=>m-(match W.cell? ⟨j,2,none⟩ with|some (.slice _ n _)=>n|_=>0))
 case atStart=>
  refine⟨[],S9,none,0,o0,rfl,rfl,x0.o,World.ownsRow_nil _ _ _ _,υ _,fun h=>⟨h,rfl⟩,fun h=> .inl h,(fun e he=>absurd he (List.not_mem_nil)),by omega,U0.o,Y0.o⟩
 case round =>
  obtain⟨es,R,ao,cp,b,rfl,rfl,d,J,M0,hT,hF,Q0,Z0,J0,S0⟩:=hrel;obtain⟨j1,l1,b1,d0⟩:=Evs.of_own (Own.of_row J)
  cases b1;obtain⟨k,hk⟩: ∃k,es.length=k:=⟨_,rfl⟩
  have L0:=d0.fits;have i1:=d0.bound;have y0:=η d0;clear d0;rw[hk] at d J M0 hT L0 y0;have HK:=η hk;have V:=η d;have C0:=η J;have HT:=η hT;have HF:=η hF;have E0:=η Q0;have N:=η J0;have Z:=η S0;have c0:wr.cell? ⟨j,0,none⟩=some (.string ⟨st.toArray⟩):=d.cell 0;have c1:wr.cell? ⟨j,1,none⟩=some (.int .i64 (fi:Int)):=d.cell 1;have c2:wr.cell? ⟨j,2,none⟩=some (.slice ao k cp):=d.cell 2;clear hk d J hT hF Q0 J0 S0
  cases b with
  | false=>
   have l:Hd (q5n s=none):=η (j0.o (HF.o rfl));obtain⟨k0,k1,k2,f0,f1,f2,g2,d2⟩:=y4Q N.o (.string ⟨#[]⟩) (.int .i64 0);clear HT HF;go_wp2_with fail
   ((try simp only[Exit.inBlock,Exit.then]);refine bodyPost_ret (v:= .tuple #[.agg #[.string ⟨#[]⟩,.int .i64 0,.slice none 0 0],.int .i64 10]) (by rw[q0J rfl];go_simp) rfl ?_)
   exact⟨⟨_,rfl,by rw[l.o];exact rfl⟩,q5I Z.o X.o _ _ _⟩
  | true =>
   by_cases d1:k<m
   ·have hd:decide ((k:Int)<(m:Int))=true:=ζ (by omega)
    obtain⟨⟨y,B,D⟩,R',o',hv,hy,hn,s1,t1,m1⟩:=y3g R;have R0:y5z (rdE R)= .tuple #[.agg #[.string ⟨y.toArray⟩,.string ⟨B.toArray⟩,.float .f64 D],.string ⟨R'.toArray⟩,.bool o']:=hv;have HE:=η (fun W=>y2u R W Z0);rw[R0] at HE;have HY:=η hy;have HN:=η hn;clear hv R0 hy hn;go_wp2_with fail;refine(HE.o _).mono ?_;rintro e U ⟨rfl,G⟩;obtain⟨x,P0⟩: ∃x,wr.heap.size=x:=⟨_,rfl⟩
    rw[P0];have T0:=(q0B wr (.cells #[.string ⟨#[]⟩,.string ⟨#[]⟩,.float .f64 0] 97)).trans G;have b0:=(Blk.new wr 97 #[.string ⟨#[]⟩,.string ⟨#[]⟩,.float .f64 0]).ext G;rw[P0] at b0;obtain⟨k0,k1,k2,f0,f1,f2,g2,d2⟩:=y4Q b0 (.string ⟨y.toArray⟩) (.string ⟨B.toArray⟩);have hex:=q5I T0 (q:=x) (by omega) (.string ⟨y.toArray⟩) (.string ⟨B.toArray⟩) (.float .f64 D);have I:=((b0.set 0 (.string ⟨y.toArray⟩)).set 1 (.string ⟨B.toArray⟩)).set 2 (.float .f64 D);have e0:((((U.setCell ⟨x,0,none⟩ (.string ⟨y.toArray⟩)).setCell ⟨x,1,none⟩ (.string ⟨B.toArray⟩)).setCell ⟨x,2,none⟩ (.float .f64 D)).cell? ⟨x,0,none⟩)=some (.string ⟨y.toArray⟩):=I.cell 0;have e1:((((U.setCell ⟨x,0,none⟩ (.string ⟨y.toArray⟩)).setCell ⟨x,1,none⟩ (.string ⟨B.toArray⟩)).setCell ⟨x,2,none⟩ (.float .f64 D)).cell? ⟨x,1,none⟩)=some (.string ⟨B.toArray⟩):=I.cell 1;have e2:((((U.setCell ⟨x,0,none⟩ (.string ⟨y.toArray⟩)).setCell ⟨x,1,none⟩ (.string ⟨B.toArray⟩)).setCell ⟨x,2,none⟩ (.float .f64 D)).cell? ⟨x,2,none⟩)=some (.float .f64 D):=I.cell 2;have e3:((((U.setCell ⟨x,0,none⟩ (.string ⟨y.toArray⟩)).setCell ⟨x,1,none⟩ (.string ⟨B.toArray⟩)).setCell ⟨x,2,none⟩ (.float .f64 D)).cell? ⟨j,2,none⟩)=some (.slice ao k cp):=(V.o.ext hex).cell 2;have M:=hex.trans (q0B _ (.cells #[.string ⟨y.toArray⟩,.string ⟨B.toArray⟩,.float .f64 D] 97));have g0:=η (V.o.ext M);have h0:=η (N.o.ext M);have Y:=η (q0I C0.o M);have H0:=η (Z.o.trans M);have X0:=η (show j+1<=_ from Ω (show j+1<=wr.heap.size from V.o.lt) M.size);have t0:=Rd.lit (((U.setCell ⟨x,0,none⟩ (.string ⟨y.toArray⟩)).setCell ⟨x,1,none⟩ (.string ⟨B.toArray⟩)).setCell ⟨x,2,none⟩ (.float .f64 D)) #[.string ⟨y.toArray⟩,.string ⟨B.toArray⟩,.float .f64 D] 97;rw[World.size_setCell,World.size_setCell,World.size_setCell] at t0;have W0:=η t0;clear G T0 b0 hex I M t0
    go_wp2_with (at_builtin;refine q0K rfl (.tmp 31) (.tmp 33) 64 rfl (j+1) 97 _ 3 40 Tryz.underlying64 Tryz.infoEv (by decide) (by decide) _ k (q8F es) rfl Y.o _ 1 1 (evc ⟨y,B,D⟩) rfl rfl (fun h=>by cases h) W0.o (fun u hu=>z5F [⟨y,B,D⟩] u (by simpa [q8F] using hu)) (by unfold maxLen;omega) (by omega) X0.o ?_;intro v4 w4 S E a1;obtain⟨a4,c4,rfl⟩:=q0F S;have a0:=g0.o.same (E.block j g0.o.lt (fun e=>by have:=(q0e Y.o j e.symm).1;omega));have d6:=a0.cell 2;have d7:=a0.free 2;have w0:=η a0;have B0:=η S;have z0:=η E;clear S E a1 a0)
    have K0:=h0.o.same (z0.o.block q h0.o.lt (fun e=>by have:=(q0e Y.o q e.symm).1;have:=l0.o;omega));have h1:=q0x H0.o (Own.of_row (q1I Y.o (show w.heap.size<=j+1 by have:=m0.o;omega))) z0.o H0.o.size;obtain⟨g1,i0⟩:=HT.o trivial;have F:(es++[(⟨y,B,D⟩:Ev)]).length=k+1:=by rw[θ,HK.o];rfl
    refine⟨⟨es++[⟨y,B,D⟩],R',a4,c4,o',rfl,rfl,?_,?_,by omega,fun h=>⟨g1,?_⟩,fun h=> .inr ?_,?_,by omega,K0.o (by have:=l0.o;omega) _ _,h1.setCell (p:=⟨j,2,none⟩) m0.o _⟩,?_⟩
    ·rw[F];exact w0.o.set 2 _
    ·rw [F,q8o]
     refine q0f (a:=⟨j,2,none⟩) ?_ _ (fun e=>?_)
     ·have h:=B0.o
      rw[show q8F [(⟨y,B,D⟩:Ev)]=evc ⟨y,B,D⟩ from by simp[q8F]];exact h
     ·have:=(q0e B0.o j e).1
      omega
    ·rw[F,z4R,i0,Option.bind_some,HY.o h];rfl
    ·refine z9W _ (k+1) ?_ m d1
     rw[z4R,i0,Option.bind_some,HN.o h];rfl
    ·intro e he
     rcases List.mem_append.1 he with he|he
     ·exact E0.o e he
     ·obtain rfl:=List.mem_singleton.1 he
      exact⟨by simp only;omega,by simp only;omega⟩
    ·have h6:(w4.setCell ⟨j,2,none⟩ (.slice a4 (k+1) c4)).cell? ⟨j,2,none⟩=some (.slice a4 (k+1) c4):=(w0.o.set 2 _).cell 2
     rw[h6,c2];simp only;omega
   ·have hd:decide ((k:Int)<(m:Int))=false:=ε (by omega)
    obtain rfl:k=m:=by omega
    obtain⟨p0,q0⟩:=HT.o rfl;have O:=HG.o _ _ p0 q0;obtain⟨k0,k1,k2,f0,f1,f2,g2,d2⟩:=y4Q N.o (.string ⟨#[]⟩) (.int .i64 0)
    cases R with
    | cons r0 R=>
     have l:Hd (q5n s=none):=η (by rw[O];rfl);clear O p0 q0 HT HF HG j0;go_wp2_with fail
     ((try simp only[Exit.inBlock,Exit.then]);refine bodyPost_ret (v:= .tuple #[.agg #[.string ⟨#[]⟩,.int .i64 0,.slice none 0 0],.int .i64 10]) (by rw[q0J rfl];go_simp) rfl ?_)
     exact⟨⟨_,rfl,by rw[l.o];exact rfl⟩,q5I Z.o X.o _ _ _⟩
    | nil =>
     have HC:=η (fun W (h:Evs W ao k cp es)=>z0v st (fi:Int) W h (by omega) E0.o);rw[ξ rfl] at O;have A0:=η O;clear O p0 q0 HT HF HG j0 k0 k1 k2 f0 f1 f2 g2 d2;go_wp2_with fail;refine(HC.o _ y0.o).mono ?_;rintro e U ⟨rfl,G⟩;have G0:=η (Z.o.trans G);have D0:=η (q0I C0.o G);have d:=V.o.ext G;have c0:U.cell? ⟨j,0,none⟩=some (.string ⟨st.toArray⟩):=d.cell 0;have c1:U.cell? ⟨j,1,none⟩=some (.int .i64 (fi:Int)):=d.cell 1;have c2:U.cell? ⟨j,2,none⟩=some (.slice ao k cp):=d.cell 2;by_cases Q:q0Q st (fi:Int) es=0
     ·have n0:Hd (q5n s=some ⟨st,fi,es⟩):=η (by rw[A0.o,ξ Q])
      obtain⟨k0,k1,k2,f0,f1,f2,g2,d2⟩:=y4Q (N.o.ext G) (.string ⟨st.toArray⟩) (.int .i64 (fi:Int))
      have V0:Hd (Own (((U.setCell ⟨q,0,none⟩ (.string ⟨st.toArray⟩)).setCell ⟨q,1,none⟩ (.int .i64 (fi:Int))).setCell ⟨q,2,none⟩ (.slice ao k cp)) w.heap.size 97 3 (.slice ao k cp) es.length (q8F es)):=η (by
       rw[HK.o];have s0:(Value.slice ao k cp).ownBlock≠some q:=fun e=>by have:=(q0e D0.o q e).1;have:=l0.o;omega
       exact((((Own.of_row D0.o).setOther (a:=⟨q,0,none⟩) _ s0).setOther (a:=⟨q,1,none⟩) _ s0).setOther (a:=⟨q,2,none⟩) _ s0).base (by have:=m0.o;omega))
      rw[Q];clear G d Q;go_wp2_with fail
      ((try simp only[Exit.inBlock,Exit.then]);refine bodyPost_ret (v:= .tuple #[.agg #[.string ⟨st.toArray⟩,.int .i64 (fi:Int),.slice ao k cp],.int .i64 0]) (by rw[q0J rfl];go_simp) rfl ?_)
      refine⟨⟨_,rfl,by rw[n0.o];exact⟨_,rfl,V0.o⟩⟩,q5I G0.o X.o _ _ _⟩
     ·have l:Hd (q5n s=none):=η (by rw[A0.o,κ Q])
      have o1:(q0Q st (fi:Int) es==0)=false:=by simpa using Q
      obtain⟨k0,k1,k2,f0,f1,f2,g2,d2⟩:=y4Q (N.o.ext G) (.string ⟨#[]⟩) (.int .i64 0);generalize q0Q st (fi:Int) es=bc at*;clear G d;go_wp2_with fail
      ((try simp only[Exit.inBlock,Exit.then]);refine bodyPost_ret (v:= .tuple #[.agg #[.string ⟨#[]⟩,.int .i64 0,.slice none 0 0],.int .i64 10]) (by rw[q0J rfl];go_simp) rfl ?_)
      exact⟨⟨_,rfl,by rw[l.o];exact rfl⟩,q5I G0.o X.o _ _ _⟩
theorem z2X: ∀{L:List (Nat×List UInt8)} (hp:L.Pairwise y0F) {a:Nat} {p:List UInt8} {R:List (Nat×List UInt8)},L.filter (fun r=>decide (pos<=(r.1:Int)))=(a,p)::R->
  L.filter (fun r=>decide ((a:Int)+(p.length:Int)+12<=(r.1:Int)))=R
 |[],_,_,_,_,h=>by cases h
 | x ::t,hp,a,p,R,h=>by
  obtain⟨j,o⟩:=List.pairwise_cons.1 hp;by_cases b:pos<=(x.1:Int)
  ·rw[List.filter_cons_of_pos (by simpa using b)] at h
   injection h with l m;subst l;simp only at b;rw[List.filter_cons_of_neg (by simp;omega),<-m,List.filter_eq_self.2,List.filter_eq_self.2]
   ·intro y d;have:=j y d;unfold y0F at this;simp only at this;simp;omega
   ·intro y d;have:=j y d;unfold y0F at this;simp only at this;simp;omega
  ·rw[List.filter_cons_of_neg (by simpa using b)] at h
   have hm:(a,p)∈t.filter (fun r=>decide (pos<=(r.1:Int))):=by rw[h];exact List.mem_cons_self
   have s:=(List.mem_filter.1 hm).2;simp only[Φ] at s;rw[List.filter_cons_of_neg (by simp;omega)];exact z2X o h
def q2w(C:Cks)(pos:Int):List (Nat×List UInt8):=(q1M 0 C).filter (fun r=>decide (pos<=(r.1:Int)))
theorem z6g(C:Cks)(pos:Int):q4J C pos=(q2w C pos).head? :=by unfold q4J q2w;rw[List.head?_filter]
theorem z6h(h:okC C){a:Nat}{p:List UInt8}{R:List (Nat×List UInt8)}(e:q2w C pos=(a,p)::R):q2w C ((a:Int)+(p.length:Int)+12)=R:=
 z2X (q8L C 0 h.size) e
theorem z8S(h:okC C){r:Nat×List UInt8}(l:r∈q2w C pos):r.1<4096*200/\r.2.length<=2000:=by
 have o:=(List.mem_filter.1 l).1;have u:=q7A C 0 h.size r o;have x:=h.few;refine⟨by omega,?_⟩;have m: ∀(ps:List (List UInt8)) (a:Nat),r∈q3M a ps->r.2∈ps:=by
  intro ps
  induction ps with
  |nil=>intro a h;cases h
  | cons p t ih=>
   intro a h;rw[q3M] at h;rcases List.mem_cons.1 h with rfl|h
   ·exact List.mem_cons_self
   ·exact List.mem_cons_of_mem _ (ih _ h)
 have d: ∀(D:Cks) (b:Nat),r∈q1M b D-> ∃ps∈D,r.2∈ps:=by
  intro D
  induction D with
  |nil=>intro b h;cases h
  | cons ps t ih=>
   intro b h;rw[q1M] at h;rcases List.mem_append.1 h with h|h
   ·exact⟨ps,List.mem_cons_self,m ps _ h⟩
   ·obtain⟨q,hq,l⟩:=ih _ h
    exact⟨q,List.mem_cons_of_mem _ hq,l⟩
 obtain⟨ps,j,s⟩:=d C 0 o;exact h.pay ps j _ s
def q3J(sd:Int)(pos:Nat)(b:Bt)(i:Nat):En:=(q2x sd b.st,(b.fi:Int)+(i:Int),(pos:Int))
def q0t(sd:Int)(pos:Nat)(b:Bt)(k:Nat):List En:=(List.range k).map (q3J sd pos b)
theorem q8n(sd:Int)(pos:Nat)(b:Bt)(k:Nat):q0t sd pos b (k+1)=q0t sd pos b k++[q3J sd pos b k]:=by unfold q0t;rw[List.range_succ,List.map_append];rfl
theorem q4a(sd:Int)(pos:Nat)(b:Bt)(k:Nat):(q0t sd pos b k).length=k:=by unfold q0t;simp
def z3b(sd:Int):List (Nat×List UInt8)->Option (List En)
 |[]=>some []
 |(a,p)::r=>(q5n p).bind fun b=>(z3b sd r).map fun l=>q0t sd a b b.ev.length++l
def q1g(es:List En)(L:List En):List En:=es.foldl (fun L e=>q4L e L) L
theorem q4B(a b L:List En):q1g (a++b) L=q1g b (q1g a L):=by unfold q1g;rw[List.foldl_append]
theorem q7y : ∀(es L:List En),(q1g es L).length<=L.length+es.length
 |[],L=>ι _
 | e::t,L=>by
  have h:=q7y t (q4L e L);have:=@z7W e L;unfold q1g at*;rw[List.foldl_cons,χ];omega
theorem y0w{s:List UInt8}{b:Bt}(h:q5n s=some b):q0Q b.st (b.fi:Int) b.ev=0:=by
 unfold q5n at h
 split at h
 ·split at h
  ·split at h
   ·rename_i hc
    injection h with h;subst h;exact hc
   ·cases h
  ·cases h
 ·cases h
theorem z5D(sd:Int){pos:Nat}{b:Bt}(h:q0Q b.st (b.fi:Int) b.ev=0)(l:k<b.ev.length)(m:pos<4096*200):q3Q (q3J sd pos b k)=true:=by
 obtain⟨_,_,_,o,r,s,_⟩:=q1A h;obtain⟨d,j⟩:=z3z sd b.st;rw[okEn_iff];unfold q3J;simp only;omega
theorem z8I{e:Ev}(h:z9E e):(evB e).length<=300:=by
 obtain⟨_,b,d⟩:=q2F h.1;unfold evB;rw[q1n (by omega),q1n (by omega)];simp[q0H];omega
theorem z8J(L:List Ev)(k:Nat)(h:k<L.length):((L.take (k+1)).map evB).flatten=((L.take k).map evB).flatten++evB (L.getD k ev0):=by
 rw[List.take_succ_eq_append_getElem h,List.map_append,List.flatten_append,δ,γ h];simp only[List.map_cons,List.map_nil,List.flatten_cons,List.flatten_nil,List.append_nil,Option.getD_some]
theorem y4R{b:Bt}(w:World)(j:Evs w ao n cap b.ev)(B:z5g b):
  Calls Tryz.prog 47 #[.agg #[.string ⟨b.st.toArray⟩,.int .i64 (b.fi:Int),.slice ao n cap]] w fun e w'=>e= .returned (.tuple #[.string ⟨(btB b).toArray⟩,.int .i64 0])/\Ext w w':=by
 obtain⟨p1,p2,p3,p4,p5,p6,p7⟩:=q1A B.1;have u: ∀e∈b.ev,z9E e:=fun e he=>⟨q6i p7 e he,B.2 e he⟩
 have J:q2U b.ev:=fun e he=>by
  obtain⟨_,h1,h2⟩:=q2F (u e he).1;exact⟨by omega,by omega⟩
 have d:=j.len;obtain⟨st,fi,L⟩:=b;simp only at p1 p2 p3 p4 p5 p6 p7 u J d j;have b1:=j.fits;have b2:=j.bound;have Z:q0Q st (fi:Int) L=0:=B.1;have HC:=η (fun W (h:Evs W ao n cap L)=>z0v st (fi:Int) W h (by omega) J);rw[Z] at HC;have HT:=η (fun W=>z9o st W (by omega));have R:=η (fun W=>z6z (fi:Int) 8 8 W rfl (by omega) (by omega) (by omega) (by omega));have Q:=η (fun W=>z6z (n:Int) 1 1 W rfl (by omega) (by omega) (by omega) (by omega));rw[Int.toNat_natCast] at R Q;have l1:(q1x st).length<=50:=by rw[q1n (by omega)];simp[q0H];omega
 have l8:(be 8 fi).length<=8:=by rw[q0H];omega
 have l0:(be 1 n).length<=8:=by rw[q0H];omega
 have HE:Hd (btB ⟨st,fi,L⟩=((q1x st++be 8 fi)++be 1 n)++((L.take n).map evB).flatten):=η (by
  rw[<-d,List.take_length];unfold btB;simp)
 have f0:=η u;have e0:=η d;have G:=η j;have qf:IntKind.u64.wrap (fi:Int)=(fi:Int):=by rw[IntKind.wrap_u64];omega
 have qn:IntKind.u64.wrap (n:Int)=(n:Int):=by rw[IntKind.wrap_u64];omega
 have m0:n<=8:=by omega
 have HX:=η (q0B w (.cells #[.string ⟨st.toArray⟩,.int .i64 (fi:Int),.slice ao n cap] 118));have M:=η (Blk.new w 118 #[.string ⟨st.toArray⟩,.int .i64 (fi:Int),.slice ao n cap]);have s:=M.o;have k0:(w.alloc (.cells #[.string ⟨st.toArray⟩,.int .i64 (fi:Int),.slice ao n cap] 118)).cell? ⟨w.heap.size,0,none⟩=some (.string ⟨st.toArray⟩):=s.cell 0;have k1:(w.alloc (.cells #[.string ⟨st.toArray⟩,.int .i64 (fi:Int),.slice ao n cap] 118)).cell? ⟨w.heap.size,1,none⟩=some (.int .i64 (fi:Int)):=s.cell 1;have k2:(w.alloc (.cells #[.string ⟨st.toArray⟩,.int .i64 (fi:Int),.slice ao n cap] 118)).cell? ⟨w.heap.size,2,none⟩=some (.slice ao n cap):=s.cell 2;generalize q1x st=A at*;generalize be 8 fi=D at*;generalize be 1 n=C at*;have n0:=q3d;clear s B p1 p2 p3 p4 p5 p6 p7 u J d j Z;go_enter Tryz.func47,Tryz.ntmps47;go_wp2_with fail;refine(HC.o _ (G.o.ext HX.o)).mono ?_;rintro e w1 ⟨rfl,j⟩;have I:=η (HX.o.trans j);have l:=M.o.ext j;generalize w.heap.size=q at*;have U:w1.cell? ⟨q,0,none⟩=some (.string ⟨st.toArray⟩):=l.cell 0;have V:w1.cell? ⟨q,1,none⟩=some (.int .i64 (fi:Int)):=l.cell 1;have X:w1.cell? ⟨q,2,none⟩=some (.slice ao n cap):=l.cell 2;have u0:=q0D U;have u1:=q0D V;have u2:=q0D X;have b0:=η l;have q1:¬(9223372036854775807<A.length+D.length):=by omega
 have q2:¬(9223372036854775807<(A++D).length+C.length):=by rw[θ];omega
 have q3:¬(9223372036854775807<A.length+D.length+C.length):=by omega
 clear j l k0 k1 k2;go_wp2_with fail;refine q0E (by kernel_rfl) (by kernel_rfl) ?_
 repeat (go_big_quiet_step (fail))
 go_big_quiet_step (exact Calls.quiet_ext (HT.o _))
 repeat (go_big_quiet_step (fail))
 go_big_quiet_step (exact Calls.quiet_ext (R.o _))
 repeat (go_big_quiet_step (fail))
 go_big_quiet_step (exact Calls.quiet_ext (Q.o _))
 repeat (go_big_quiet_step (fail))
 refine wpQuiet_nil ?_;intro w2 hw;have S:=η (I.o.trans hw);have m:=b0.o.ext hw;have d0:w2.cell? ⟨q,0,none⟩=some (.string ⟨st.toArray⟩):=m.cell 0;have d1:w2.cell? ⟨q,1,none⟩=some (.int .i64 (fi:Int)):=m.cell 1;have d2:w2.cell? ⟨q,2,none⟩=some (.slice ao n cap):=m.cell 2;clear hw m U V X u0 u1 u2;have i0:=η (G.o.ext S.o);go_wp2_with fail
 go_loopw [5,30] (fun e i W=> ∃k:Nat,∃T:List UInt8,k<=n/\i= .int .i64 (k:Int)/\e= .string ⟨T.toArray⟩/\T=((A++D)++C)++((L.take k).map evB).flatten/\T.length<=100+300*k/\Ext w W) (fun _ i _=>n-(intOf i).toNat)
 case atStart=>exact⟨0,_,υ _,rfl,(by first|rfl|(rw[q2Q,q2Q])),by simp,by simp;omega,S.o⟩
 case round=>
  obtain⟨k,T,hk,rfl,rfl,hT,j0,hb⟩:=hrel;have HT:=η hT;have N:=η hb;by_cases a0:k<n
  ·have h0:decide ((k:Int)<(n:Int))=true:=ζ (by omega)
   obtain⟨b,off,rfl,U,V,X⟩:=(G.o.ext hb).at a0;have x:k<L.length:=by rw[e0.o];exact a0
   have F:L.getD k ev0∈L:=by rw[δ,γ x];exact List.getElem_mem x
   have HS:=η (z8J L k x);have I:=η (q0B wr (.cells #[.string ⟨(L.getD k ev0).ty.toArray⟩,.string ⟨(L.getD k ev0).da.toArray⟩,.float .f64 (L.getD k ev0).we] 97));have q4:IntKind.i64.wrap ((k:Int)+1)=(k:Int)+1:=by rw[ν];omega
   have he:=f0.o _ F;generalize L.getD k ev0=y at*;obtain⟨y1,y2,y3⟩:=y;have hs:=z8I he;have O:=η (fun W=>y0k ⟨y1,y2,y3⟩ W he);have E:Hd (∀W,Calls Tryz.prog 86 #[.agg #[.string ⟨y1.toArray⟩,.string ⟨y2.toArray⟩,.float .f64 y3]] W fun r w'=>r= .returned (.string ⟨(evB ⟨y1,y2,y3⟩).toArray⟩)/\Ext W w'):=O;obtain⟨Y,hY⟩: ∃Y,evB ⟨y1,y2,y3⟩=Y:=⟨_,rfl⟩
   rw[hY] at E hs HS;simp only at U V X;have u0:=q0D U;have u1:=q0D V;have u2:=q0D X;have q5:¬(9223372036854775807<T.length+Y.length):=by omega
   clear x F hb hT O he hY;go_wp2_with fail;refine(E.o _).mono ?_;rintro e w3 ⟨rfl,j⟩;have g0:=η ((N.o.trans I.o).trans j);clear j;go_wp2_with fail
   go_roundw
   case rel=>exact⟨k+1,T++Y,by omega,by go_num,(by first|rfl|(rw[q2Q])),by rw[HS.o,HT.o,List.append_assoc],by rw[θ];omega,g0.o⟩
   case measure=>simp[intOf];omega
  ·obtain rfl:k=n:=by omega
   have h0:decide ((k:Int)<(k:Int))=false:=ε (by omega);have HF:Hd (btB ⟨st,fi,L⟩=T):=η (by rw[HE.o,hT]);clear hb hT;go_wp2_with fail;go_ret2;exact⟨by rw[HF.o];rfl,N.o⟩
structure Acm where
 kd:Int
 st:List UInt8
 a:Int
 b:Int
 ao:Option Addr
 n:Nat
 cap:Nat
 L:List Ev
def ac0 :Acm:=⟨0,[],0,0,none,0,0,[]⟩
def acc(x:Acm):List Value:=[.int .u8 x.kd,.string ⟨x.st.toArray⟩,.int .i64 x.a,.int .i64 x.b,.slice x.ao x.n x.cap]
def y4L(A:List Acm):List Value:=(A.map acc).flatten
theorem q8T(x:Acm)(A:List Acm):y4L (x::A)=acc x++y4L A:=rfl
theorem q6A : ∀(A:List Acm) (i j:Nat),i<A.length->j<5->(y4L A)[i*5+j]? =(acc (A.getD i ac0))[j]?
 |[],i,j,h,_=>by simp at h
 | k::A,0,j,_,hj=>by
  rw[q8T,List.getElem?_append_left (by simp[acc];omega)];simp
 | k::A,i+1,j,h,hj=>by
  rw[q8T,List.getElem?_append_right (by simp[acc];omega),show(i+1)*5+j-(acc k).length=i*5+j from by simp[acc];omega,q6A A i j (by simpa using h) hj];simp
structure y5i(x:Acm):Prop where
 k0:0<=x.kd
 k1:x.kd<=255
 s:x.st.length<=9223372036854775807
 a0: -9223372036854775808<=x.a
 a1:x.a<=9223372036854775807
 b0: -9223372036854775808<=x.b
 b1:x.b<=9223372036854775807
 e: ∀e∈x.L,e.ty.length<=9223372036854775807/\e.da.length<=9223372036854775807/\e.we<18446744073709551616
structure Acs(w:World)(ao:Option Addr)(n cap:Nat)(A:List Acm):Prop where
 len:A.length=n
 fits:n<=cap
 bound:cap<=9223372036854775807
 nil:ao=none->cap=0
 rd:Rd w ao (y4L A)
 ev: ∀x∈A,Evs w x.ao x.n x.cap x.L
 ok: ∀x∈A,y5i x
theorem Acs.ext{A:List Acm}(h:Acs w ao n cap A)(k:Ext w w'):Acs w' ao n cap A:=⟨h.len,h.fits,h.bound,h.nil,h.rd.ext k,fun x b=>(h.ev x b).ext k,h.ok⟩
theorem z2E{A:List α}{d:α}(h:i<A.length):A.getD i d∈A:=by rw[δ,γ h];exact List.getElem_mem h
theorem Acs.at{A:List Acm}(h:Acs w ao n cap A)(E:i<n):
  ∃ b off,ao=some ⟨b,off,none⟩/\w.cell? ⟨b,off+i*5,none⟩=some (.int .u8 (A.getD i ac0).kd)/\w.cell? ⟨b,off+i*5+1,none⟩=some (.string ⟨(A.getD i ac0).st.toArray⟩)/\w.cell? ⟨b,off+i*5+2,none⟩=some (.int .i64 (A.getD i ac0).a)/\w.cell? ⟨b,off+i*5+3,none⟩=some (.int .i64 (A.getD i ac0).b)/\
   w.cell? ⟨b,off+i*5+4,none⟩=some (.slice (A.getD i ac0).ao (A.getD i ac0).n (A.getD i ac0).cap)/\Evs w (A.getD i ac0).ao (A.getD i ac0).n (A.getD i ac0).cap (A.getD i ac0).L/\y5i (A.getD i ac0):=by
 have F:=h.len;have hm:A.getD i ac0∈A:=z2E (by omega);have k0:=q6A A i 0 (by omega) (by decide);have k1:=q6A A i 1 (by omega) (by decide);have y:=q6A A i 2 (by omega) (by decide);have B:=q6A A i 3 (by omega) (by decide);have D:=q6A A i 4 (by omega) (by decide);obtain⟨b,off,rfl,o⟩:=h.rd _ _ k0;obtain⟨_,_,d,r⟩:=h.rd _ _ k1
 cases d;obtain⟨_,_,j,s⟩:=h.rd _ _ y
 cases j;obtain⟨_,_,l,u⟩:=h.rd _ _ B
 cases l;obtain⟨_,_,m,x⟩:=h.rd _ _ D
 cases m;exact⟨b,off,rfl,o,r,s,u,x,h.ev _ hm,h.ok _ hm⟩
def q6q(e:Ev):Bool:=decide (300<e.ty.length)||decide (300<e.da.length)
def q4I(x:Acm):Bool:=decide (300<x.st.length)||decide (20<x.n)||x.L.any q6q
def q7f(A:List Acm)(most:Int):Bool:=A.any q4I||decide (most<(A.length:Int))
theorem z2D{p:α->Bool}{A:List α}(h:k<A.length)(b:(A.take k).any p=false)(d:α):(A.take (k+1)).any p=p (A.getD k d):=by
 rw[List.take_succ_eq_append_getElem h,List.any_append,b,δ,γ h];simp
theorem y3A{A:List Acm}(l:Int)(w:World)(U:Acs w ao n cap A):
  Calls Tryz.prog 14 #[.slice ao n cap,.int .i64 l] w fun e w'=>e= .returned (.bool (q7f A l))/\Ext w w':=by
 have HX:=η U;have J:=U.len;have b1:=U.fits;have b2:=U.bound;clear U;go_enter Tryz.func14,Tryz.ntmps14;go_wp2_with fail
 go_loopw [5] (fun i W=> ∃k:Nat,k<=n/\i= .int .i64 (k:Int)/\Hd ((A.take k).any q4I=false)/\Ext w W) (fun i _=>n-(intOf i).toNat)
 case atStart=>exact⟨0,υ _,rfl,η (by simp),Ext.refl _⟩
 case round =>
  obtain⟨k,hk,rfl,F,Y⟩:=hrel;have E:=η Y;by_cases r0:k<n
  ·have hd:decide ((k:Int)<(n:Int))=true:=ζ (by omega)
   have v0:(k:Int)<(n:Int):=by omega
   have q8:IntKind.i64.wrap ((k:Int)+1)=(k:Int)+1:=by rw[ν];omega
   obtain⟨bb,off,rfl,c0,c1,c2,c3,c4,m,D⟩:=(HX.o.ext Y).at r0;have Q:=z2D (k:=k) (A:=A) (by omega) F.o ac0;have g0:=η Q;have y:Hd (q4I (A.getD k ac0)=true->q7f A l=true):=η fun h=>by
    unfold q7f;rw[Bool.or_eq_true]
    left
    exact List.any_eq_true.2 ⟨_,z2E (by omega),h⟩
   generalize A.getD k ac0=x at*;obtain⟨kd,st,V,X,r,en,b,L⟩:=x;have h1:=D.s;have o0:=m.len;have m0:=m.fits;have n0:=m.bound;simp only at c0 c1 c2 c3 c4 m h1 o0 m0 n0;have Z:=η m;have f0:=η D.e;clear Y Q m D;by_cases N:300<st.length
   ·have h0:decide ((300:Int)<(st.length:Int))=true:=ζ (by omega)
    have u:=η (y.o (by unfold q4I;rw[ζ N];rfl));go_wp2_with fail
    (try rw[Exit.noGoto_ret])
    go_ret;exact⟨by rw[u.o];rfl,E.o⟩
   have h0:decide ((300:Int)<(st.length:Int))=false:=ε (by omega);by_cases O:20<en
   ·have i0:decide ((20:Int)<(en:Int))=true:=ζ (by omega)
    have u:=η (y.o (by unfold q4I;rw[ζ (show 20<(⟨kd,st,V,X,r,en,b,L⟩:Acm).n from O)];simp));go_wp2_with fail
    (try rw[Exit.noGoto_ret])
    go_ret;exact⟨by rw[u.o];rfl,E.o⟩
   have i0:decide ((20:Int)<(en:Int))=false:=ε (by omega);have b0:Hd (∀j,j<L.length->q6q (L.getD j ev0)=true->q4I ⟨kd,st,V,X,r,en,b,L⟩=true):=η fun j hj h=>by
    unfold q4I;rw[Bool.or_eq_true]
    right
    exact List.any_eq_true.2 ⟨_,z2E hj,h⟩
   have a0:Hd (L.any q6q=false->q4I ⟨kd,st,V,X,r,en,b,L⟩=false):=η fun h=>by
    unfold q4I;rw[h,ε (show ¬300<(⟨kd,st,V,X,r,en,b,L⟩:Acm).st.length from N),ε (show ¬20<(⟨kd,st,V,X,r,en,b,L⟩:Acm).n from O)];rfl
   go_wp2_with fail
   go_loopw [6] (fun i W=> ∃j:Nat,j<=en/\i= .int .i64 (j:Int)/\Hd ((L.take j).any q6q=false)/\W=wr) (fun i _=>en-(intOf i).toNat)
   case atStart=>exact⟨0,υ _,rfl,η (by simp),rfl⟩
   case round=>
    obtain⟨j,hj,rfl,G,s0⟩:=hrel;subst s0;by_cases p0:j<en
    ·have j0:decide ((j:Int)<(en:Int))=true:=ζ (by omega)
     have u0:(j:Int)<(en:Int):=by omega
     have q9:IntKind.i64.wrap ((j:Int)+1)=(j:Int)+1:=by rw[ν];omega
     obtain⟨eb,t0,rfl,e0,e1,e2⟩:=Z.o.at p0;have B:=z2D (k:=j) (A:=L) (by omega) G.o ev0;have M:=f0.o _ (z2E (A:=L) (i:=j) (d:=ev0) (by omega));have I:=η (b0.o j (by omega));have d0:=η B;generalize L.getD j ev0=ee at*;obtain⟨ty,da,we⟩:=ee;simp only at e0 e1 e2 M;obtain⟨m1,m2,m3⟩:=M;clear B;by_cases R:300<ty.length
     ·have k0:decide ((300:Int)<(ty.length:Int))=true:=ζ (by omega)
      have u:=η (y.o (I.o (by unfold q6q;rw[ζ R];rfl)));go_wp2_with fail
      (try rw[Exit.noGoto_ret])
      go_ret;exact⟨by rw[u.o];rfl,E.o⟩
     have k0:decide ((300:Int)<(ty.length:Int))=false:=ε (by omega);by_cases S:300<da.length
     ·have l0:decide ((300:Int)<(da.length:Int))=true:=ζ (by omega)
      have u:=η (y.o (I.o (by unfold q6q;rw[ζ (show 300<(⟨ty,da,we⟩:Ev).da.length from S)];simp)));go_wp2_with fail
      (try rw[Exit.noGoto_ret])
      go_ret;exact⟨by rw[u.o];rfl,E.o⟩
     have l0:decide ((300:Int)<(da.length:Int))=false:=ε (by omega);go_wp2_with fail
     go_roundw
     case rel=>exact⟨j+1,by omega,by go_num,η (by rw[d0.o];unfold q6q;rw[ε (show ¬300<(⟨ty,da,we⟩:Ev).ty.length from R),ε (show ¬300<(⟨ty,da,we⟩:Ev).da.length from S)];rfl),trivial⟩
     case measure=>simp[intOf];omega
    ·obtain rfl:j=en:=by omega
     have j0:decide ((j:Int)<(j:Int))=false:=ε (by omega);have q0:L.any q6q=false:=by have:=G.o;rwa [Δ (by omega)] at this
     go_wp2_with fail
     go_roundw
     case rel=>exact⟨k+1,by omega,by go_num,η (by rw[g0.o];exact a0.o q0),E.o⟩
     case measure=>simp[intOf];omega
  ·obtain rfl:k=n:=by omega
   have hd:decide ((k:Int)<(k:Int))=false:=ε (by omega)
   have u:Hd (q7f A l=decide (l<(k:Int))):=η (by
    unfold q7f;have:=F.o;rw[Δ (by omega)] at this
    rw[this,Bool.false_or,J])
   clear Y;go_wp2_with fail;go_ret;exact⟨by rw[u.o];rfl,E.o⟩
end
section
open Go.RowKit Go.Shelf
def KpA(ao:Option Addr)(W W':World):Prop:= ∀a,ao=some a->W'.heap[a.block]? =W.heap[a.block]?
theorem Rd.keep{xs:List Value}(h:Rd W ao xs)(k:KpA ao W W'):Rd W' ao xs:=fun j u d=>by
 obtain⟨b,off,rfl,hc⟩:=h j u d;exact⟨b,off,rfl,(World.cell?_of_block (a:=⟨b,off+j,Option.none⟩) (show W'.heap[b]? =W.heap[b]? from k ⟨b,off,Option.none⟩ rfl)).trans hc⟩
theorem Evs.keep(h:Evs W ao n cap L)(k:KpA ao W W'):Evs W' ao n cap L:=⟨h.len,h.fits,h.bound,h.nil,h.rd.keep k⟩
end
section
open Go.RowKit Go.WideShapes Go.ChangeShapes Go.Deep
theorem q9d{enc:TypeId×Value->H}{P:Program}{base:Nat}{d:Nat->Bool}{j:Bool}{y:DataW H×List MemPlace}(o:P.underlying t=some (.float .f64))
  (h:DataW.trod enc P w base d j fuel t [c]=some y): ∃b,c= .float .f64 b/\b<18446744073709551616:=by
 cases fuel with
 |zero=>simp[DataW.trod] at h
 | succ n=>
  simp only[DataW.trod,o] at h
  cases c<;>simp at h;rename_i k' b;obtain⟨⟨l,m⟩,_⟩:=h;subst l;exact⟨b,rfl,by simpa [Lit.wf] using m⟩
theorem y3Y{enc:TypeId×Value->H}{base:Nat}{j:Bool}{cs:List Value}{y:DataW H×List MemPlace}
  (h:DataW.trod enc Tryz.prog w base (fun _=>true) j fuel 97 cs=some y): ∃x:Ev,cs=evc x/\x.ty.length<=9223372036854775807/\x.da.length<=9223372036854775807/\x.we<18446744073709551616:=by
 obtain⟨J,M,N,I,_,l,u,B,D⟩:=trod_struct3 Tryz.underlying97 h;have hce:Tryz.prog.cellsOf 97=3:=by kernel_rfl
 have o:Tryz.prog.cellsOf 9=1:=by kernel_rfl
 have m:Tryz.prog.cellsOf 47=1:=by kernel_rfl
 rw[hce] at l
 match cs,l with
 | [c2,c3,c4],_=>
  simp only[o,m] at u B D;obtain⟨t,r,_,G⟩:=DataW.trod_string Tryz.underlying9 u;obtain⟨d,s,_,F⟩:=DataW.trod_string Tryz.underlying9 B;simp at r s;subst r s;obtain⟨b,rfl,E⟩:=q9d Tryz.underlying47 D;refine⟨⟨t.data.toList,d.data.toList,b⟩,by unfold evc;cases t;cases d;rfl,?_,?_,E⟩
  all_goals
   unfold maxLen at G F;simp only[Array.length_toList]
   assumption
theorem y1Z{enc:TypeId×Value->H}{base:Nat}{E:Bool}{Z:Nat}{y:DataW H×List MemPlace}
  (R:DataW.trod enc Tryz.prog w base (fun _=>true) E Z 64 [.slice ao n cap]=some y):
  ∃L,Evs w ao n cap L/\ ∀x∈L,x.ty.length<=9223372036854775807/\x.da.length<=9223372036854775807/\x.we<18446744073709551616:=by
 have hc:Tryz.prog.cellsOf 97=3:=by kernel_rfl
 rcases open_slice Tryz.underlying64 R with⟨s,_⟩|⟨a,len,V,m,n',D,Pl,s,_,hl,hm,J,_,r⟩
 ·simp only[List.cons.injEq,and_true] at s
  cases s;exact⟨[],⟨rfl,ι _,by omega,fun _=>rfl,Rd.nil _ _⟩,fun x h=>by cases h⟩
 ·simp only[List.cons.injEq,and_true] at s
  cases s;simp only[if_true] at J;subst J;rw[hc] at r;have hk: ∀i,∃k:Ev,i<n->(∀j,j<3->w.cell? ((a.add (i*3)).add j)=(evc k)[j]?)/\k.ty.length<=9223372036854775807/\k.da.length<=9223372036854775807/\k.we<18446744073709551616:=fun i=>by
   by_cases S:i<n
   ·obtain⟨Y,O,ht⟩:=r i (by omega)
    obtain⟨_,a0,N⟩:=World.cells?_some O;obtain⟨k,rfl,U⟩:=y3Y ht;exact⟨k,fun _=>⟨N,U⟩⟩
   ·exact⟨ev0,fun h=>absurd h S⟩
  obtain⟨f,Q⟩:=Classical.axiomOfChoice hk;have l:((List.range n).map f).length=n:=by simp
  have F: ∀i,i<n->((List.range n).map f).getD i ev0=f i:=fun i r=>by
   rw[δ,List.getElem?_map,List.getElem?_range r];rfl
  refine⟨(List.range n).map f,⟨l,hl,by unfold maxLen at hm;omega,(fun h=>by cases h),?_⟩,fun x hx=>?_⟩
  ·intro j u X
   have b0:j<n*3:=by
    have:=(List.getElem?_eq_some_iff.1 X).1
    rwa [q6D,l] at this
   have o:j/3<n:=by omega
   have M:j % 3<3:=Nat.mod_lt _ (by decide);have G:j/3*3+j % 3=j:=by omega
   have I:=q8p ((List.range n).map f) (j/3) (j % 3) (by rw[l];exact o) M;rw[G,F _ o,X] at I;have B:=(Q 0 (by omega)).1 0 (by decide);rw[Nat.zero_mul,add_add,Nat.add_zero] at B;obtain⟨b,off,rfl⟩:=z3M B;have d:=(Q (j/3) o).1 (j % 3) M;rw[add_add,G,<-I,z4q] at d;exact⟨b,off,rfl,d⟩
  ·obtain⟨i,r,rfl⟩:=List.mem_map.1 hx
   exact(Q i (List.mem_range.1 r)).2
theorem y1Y{enc:TypeId×Value->H}{base:Nat}{j:Bool}{cs:List Value}{y:DataW H×List MemPlace}
  (h:DataW.trod enc Tryz.prog w base (fun _=>true) j fuel 66 cs=some y): ∃x:Acm,cs=acc x/\Evs w x.ao x.n x.cap x.L/\y5i x:=by
 obtain⟨xs,n,_,rfl,R,m,l⟩:=DataW.trod_struct Tryz.underlying66 h;have hc:Tryz.prog.cellsOf 66=5:=by kernel_rfl
 have X:Tryz.prog.cellsOf 5=1:=by kernel_rfl
 have Y:Tryz.prog.cellsOf 9=1:=by kernel_rfl
 have Z:Tryz.prog.cellsOf 3=1:=by kernel_rfl
 have c4:Tryz.prog.cellsOf 64=1:=by kernel_rfl
 rw[hc] at R
 match cs,R with
 | [x0,x1,x2,x3,x4],_=>
  match xs,m with
  | [y0,y1,y2,y3,y4],_=>
   have M:=l 0 _ rfl;have N:=l 1 _ rfl;have O:=l 2 _ rfl;have Q:=l 3 _ rfl;have o:=l 4 _ rfl;simp[X,Y,Z,c4] at M N O Q o;obtain⟨a0,e0,_,u⟩:=DataW.trod_int Tryz.underlying5 M;obtain⟨a1,F,_,B⟩:=DataW.trod_string Tryz.underlying9 N;obtain⟨S,G,_,D⟩:=DataW.trod_int Tryz.underlying3 O;obtain⟨U,I,_,E⟩:=DataW.trod_int Tryz.underlying3 Q;obtain⟨V,l4,k4,J⟩:=Joins.slice_form Tryz.underlying64 o;simp only[List.cons.injEq,and_true] at e0 F G I J;subst e0 F G I J;obtain⟨L,hL,r⟩:=y1Z o;have s:=bounds_u8 u;have b:=bounds_i64 D;have d:=bounds_i64 E;refine⟨⟨a0,a1.data.toList,S,U,V,l4,k4,L⟩,by unfold acc;cases a1;rfl,hL,⟨s.1,by simp only;omega,?_,b.1,b.2,d.1,d.2,r⟩⟩;unfold maxLen at B;simp only[Array.length_toList]
   assumption
theorem z3e(A:List Acm):(y4L A).length=A.length*5:=by
 induction A with
 |nil=>rfl
 |cons x A ih=>rw[q8T,θ,ih];simp[acc];omega
theorem open_Acs{enc:TypeId×Value->H}{base:Nat}{E:Bool}{d:DataW H}{p:List MemPlace}
  (h:DataW.Trod enc Tryz.prog w base (fun _=>true) E 45 v d p)(hs: ∃ao n cap,v= .slice ao n cap):
  ∃ao n cap A,v= .slice ao n cap/\Acs w ao n cap A:=by
 obtain⟨ao,n,cap,rfl⟩:=hs;obtain⟨f0,F⟩:=h;have e9:(Value.slice ao n cap).cells.toList=[.slice ao n cap]:=by simp[Value.cells]
 rw[e9] at F;have hc:Tryz.prog.cellsOf 66=5:=by kernel_rfl
 rcases open_slice Tryz.underlying45 F with⟨y,_⟩|⟨a,len,V,m,n',D,Pl,y,_,hl,hm,M,_,r⟩
 ·simp only[List.cons.injEq,and_true] at y
  cases y;exact⟨none,0,0,[],rfl,⟨rfl,ι _,by omega,fun _=>rfl,Rd.nil _ _,(fun x h=>by cases h),(fun x h=>by cases h)⟩⟩
 ·simp only[List.cons.injEq,and_true] at y
  cases y;simp only[if_true] at M;subst M;rw[hc] at r;have hk: ∀i,∃k:Acm,i<n->(∀j,j<5->w.cell? ((a.add (i*5)).add j)=(acc k)[j]?)/\Evs w k.ao k.n k.cap k.L/\y5i k:=fun i=>by
   by_cases S:i<n
   ·obtain⟨Z,R,ht⟩:=r i (by omega)
    obtain⟨_,a0,Q⟩:=World.cells?_some R;obtain⟨k,rfl,U⟩:=y1Y ht;exact⟨k,fun _=>⟨Q,U⟩⟩
   ·exact⟨ac0,fun h=>absurd h S⟩
  obtain⟨f,O⟩:=Classical.axiomOfChoice hk;have o:((List.range n).map f).length=n:=by simp
  have G: ∀i,i<n->((List.range n).map f).getD i ac0=f i:=fun i r=>by
   rw[δ,List.getElem?_map,List.getElem?_range r];rfl
  refine⟨some a,n,_,(List.range n).map f,rfl,⟨o,hl,by unfold maxLen at hm;omega,(fun h=>by cases h),?_,fun x Y=>?_,fun x Y=>?_⟩⟩
  ·intro j u X
   have b0:j<n*5:=by
    have:=(List.getElem?_eq_some_iff.1 X).1
    rwa [z3e,o] at this
   have s:j/5<n:=by omega
   have N:j % 5<5:=Nat.mod_lt _ (by decide);have I:j/5*5+j % 5=j:=by omega
   have J:=q6A ((List.range n).map f) (j/5) (j % 5) (by rw[o];exact s) N;rw[I,G _ s,X] at J;have B:=(O 0 (by omega)).1 0 (by decide);rw[Nat.zero_mul,add_add,Nat.add_zero] at B;obtain⟨b,off,rfl⟩:=z3M B;have l:=(O (j/5) s).1 (j % 5) N;rw[add_add,I,<-J,z4q] at l;exact⟨b,off,rfl,l⟩
  all_goals
   obtain⟨i,r,rfl⟩:=List.mem_map.1 Y
   first
    |exact(O i (List.mem_range.1 r)).2.1
    |exact(O i (List.mem_range.1 r)).2.2
theorem open_how{enc:TypeId×Value->H}{base:Nat}{j:Bool}{r:Reach}{b0:Nat}{d:DataW H}{p:List MemPlace}
  (B:Value.okWide Tryz.prog w r b0 50 v)(h:DataW.Trod enc Tryz.prog w base (fun _=>true) j 50 v d p):
  ∃sd rate b,v= .agg #[.int .u64 sd,.float .f64 rate,.int .u16 b]/\0<=sd/\sd<18446744073709551616/\0<=b/\b<=65535:=by
 obtain⟨F,G,I,J,M,N,n,rfl,_,_,u,x,y⟩:=Joins.open_agg3 Tryz.underlying50 (by kernel_rfl) (by kernel_rfl) B h;obtain⟨a0,e0,_,w0⟩:=DataW.trod_int Tryz.underlying46 u;obtain⟨a1,rfl,E⟩:=q9d Tryz.underlying47 x;obtain⟨s,o,_,D⟩:=DataW.trod_int Tryz.underlying48 y;simp only[List.cons.injEq,and_true] at e0 o;subst e0 o;have l:=bounds_u64 w0;have m:=bounds_u16 D;exact⟨a0,a1,s,rfl,l.1,by omega,m.1,by omega⟩
end
end Go.Proofs.YtjlcdfpbllobaaaGreatDoor
