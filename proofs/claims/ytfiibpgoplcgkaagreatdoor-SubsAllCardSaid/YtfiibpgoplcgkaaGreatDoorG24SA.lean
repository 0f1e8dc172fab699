/- Walks. -/
import Derived.Test.YtfiibpgoplcgkaaGreatDoorG21SA
import Derived.Test.YtfiibpgoplcgkaaGreatDoorG23SA
import Derived.Test.YtfiibpgoplcgkaaGreatDoorG22SA
import Derived.Test.YtfiibpgoplcgkaaGreatDoorG15SA
set_option linter.unusedVariables false
set_option linter.unusedSimpArgs false
set_option maxRecDepth 100000
set_option maxHeartbeats 6400000
namespace Go.Proofs.YtfiibpgoplcgkaaGreatDoor
variable {w w1 w':World}{ao:Option Addr}{n cap i q k:Nat}{L:List Ev}{pos:Int}{C:Cks}{α:Type}
section
open Go.RowKit
def y3U(r:Option (Ev×List UInt8)):Value:=match r with
 |some (e,r)=> .tuple #[evV e,.string ⟨r.toArray⟩,.bool true]
 |none=> .tuple #[evV ev0,.string ⟨#[]⟩,.bool false]
theorem q4I(W:World)(a:Addr)(b:Nat)(m:Go.Mode):(store a (.float .f64 b) m).run Tryz.prog W=stored Tryz.prog W a (.float .f64 b) m:=run_store _ _ _ _ _ rfl
theorem q2T(h:Ext w w1)(a b c:Value):Ext w (((w1.setCell ⟨w.heap.size,0,none⟩ a).setCell ⟨w.heap.size,1,none⟩ b).setCell ⟨w.heap.size,2,none⟩ c):=
 ((h.setCell (p:=⟨w.heap.size,0,none⟩) (ι _) a).setCell (p:=⟨w.heap.size,1,none⟩) (ι _) b).setCell (p:=⟨w.heap.size,2,none⟩) (ι _) c
theorem y0g(s:List UInt8)(w:World)(hl:s.length<=4611686018427387903):
  Calls Tryz.prog 133 #[.string ⟨s.toArray⟩] w fun e w'=>e= .returned (y3U (rdE s))/\Ext w w':=by
 have r:=η (fun W=>z2a s W hl);have u:=η (fun W=>z2a (rdR s) W (by have:=q8B s;omega));have r0:=z3w s;have s0:=z3w (rdR s);have t0:=q8B s;have h0:=q8B (rdR s);have N:=η (fun b W=>q9c (rdT s) (rdT (rdR s)) .f64 b W (by omega) (by omega));have HX:=η (q0B w (.cells #[.string ⟨#[]⟩,.string ⟨#[]⟩,.float .f64 0] 67));have J:=η (Blk.new w 67 #[.string ⟨#[]⟩,.string ⟨#[]⟩,.float .f64 0])
 have x:Hd (∀(W:World) (a b c:Value),Blk W w.heap.size 67 #[a,b,c]-> ∀a' b',W.cell? ⟨w.heap.size,0,none⟩=some a/\W.cell? ⟨w.heap.size,1,none⟩=some b/\W.cell? ⟨w.heap.size,2,none⟩=some c/\
   W.frozen? ⟨w.heap.size,0,none⟩=false/\W.frozen? ⟨w.heap.size,1,none⟩=false/\W.frozen? ⟨w.heap.size,2,none⟩=false/\((W.setCell ⟨w.heap.size,0,none⟩ a').setCell ⟨w.heap.size,1,none⟩ b').frozen? ⟨w.heap.size,2,none⟩=false/\
   ((W.setCell ⟨w.heap.size,0,none⟩ a').setCell ⟨w.heap.size,1,none⟩ b').cell? ⟨w.heap.size,2,none⟩=some c):=η fun W a b c h a' b'=>by
  have Q:=(h.set 0 a').set 1 b';exact⟨h.cell 0,h.cell 1,h.cell 2,h.free 0,h.free 1,h.free 2,Q.free 2,Q.cell 2⟩
 have u0:=q4I;by_cases h1:q8U s=true
 case neg=>
  rw[Bool.not_eq_true] at h1;have S:Hd (rdE s=none):=η (by unfold rdE;rw[h1];simp);rw[h1] at r;go_enter Tryz.func133,Tryz.ntmps133;go_wp2_with fail;refine(r.o _).mono ?_;rintro e w1 ⟨rfl,d⟩;have l:=η (J.o.ext d);have m:=η (HX.o.trans d);clear d;obtain⟨U,V,X,f0,f1,f2,g2,Z⟩:=x.o w1 _ _ _ l.o (.string ⟨#[]⟩) (.string ⟨#[]⟩);go_wp2_with fail
  ((try simp only[Exit.inBlock,Exit.then]);refine bodyPost_ret (v:= .tuple #[.agg #[.string ⟨#[]⟩,.string ⟨#[]⟩,.float .f64 0],.string ⟨#[]⟩,.bool false]) (by rw[q0T rfl];go_simp) rfl ?_)
  exact⟨by rw[S.o];rfl,q2T m.o _ _ _⟩
 rw[h1] at r;by_cases Q:q8U (rdR s)=true
 case neg=>
  rw[Bool.not_eq_true] at Q;have S:Hd (rdE s=none):=η (by unfold rdE;rw[Q];simp);rw[Q] at u;go_enter Tryz.func133,Tryz.ntmps133;go_wp2_with fail;refine(r.o _).mono ?_;rintro e w1 ⟨rfl,d⟩;have l:=η (J.o.ext d);have m:=η (HX.o.trans d);clear d;go_wp2_with fail;refine(u.o _).mono ?_;rintro e w2 ⟨rfl,d⟩;have y:=η (l.o.ext d);have B:=η (m.o.trans d);clear d;obtain⟨U,V,X,f0,f1,f2,g2,Z⟩:=x.o w2 _ _ _ y.o (.string ⟨#[]⟩) (.string ⟨#[]⟩);go_wp2_with fail
  ((try simp only[Exit.inBlock,Exit.then]);refine bodyPost_ret (v:= .tuple #[.agg #[.string ⟨#[]⟩,.string ⟨#[]⟩,.float .f64 0],.string ⟨#[]⟩,.bool false]) (by rw[q0T rfl];go_simp) rfl ?_)
  exact⟨by rw[S.o];rfl,q2T B.o _ _ _⟩
 rw[Q] at u;obtain⟨R,hR⟩: ∃R,rdR (rdR s)=R:=⟨_,rfl⟩
 rw[hR] at u h0;obtain⟨D,G⟩: ∃T,rdT s=T:=⟨_,rfl⟩
 obtain⟨F,I⟩: ∃T,rdT (rdR s)=T:=⟨_,rfl⟩
 by_cases h3:R.length<8
 ·have S:Hd (rdE s=none):=η (by unfold rdE;rw[κ (by rw[hR];omega)])
  have hd:decide ((R.length:Int)<8)=true:=ζ (by omega);go_enter Tryz.func133,Tryz.ntmps133;go_wp2_with fail;refine(r.o _).mono ?_;rintro e w1 ⟨rfl,d⟩;have l:=η (J.o.ext d);have m:=η (HX.o.trans d);clear d;go_wp2_with fail;refine(u.o _).mono ?_;rintro e w2 ⟨rfl,d⟩;have y:=η (l.o.ext d);have B:=η (m.o.trans d);clear d;obtain⟨U,V,X,f0,f1,f2,g2,Z⟩:=x.o w2 _ _ _ y.o (.string ⟨#[]⟩) (.string ⟨#[]⟩);go_wp2_with fail
  ((try simp only[Exit.inBlock,Exit.then]);refine bodyPost_ret (v:= .tuple #[.agg #[.string ⟨#[]⟩,.string ⟨#[]⟩,.float .f64 0],.string ⟨#[]⟩,.bool false]) (by rw[q0T rfl];go_simp) rfl ?_)
  exact⟨by rw[S.o];rfl,q2T B.o _ _ _⟩
 have hd:decide ((R.length:Int)<8)=false:=ε (by omega);have s1:=q4P R 8 8 rfl (by omega);have s2:=q3M R 8 8 rfl (by omega);have l8:(R.take 8).length=8:=by rw[Θ];omega
 have HG:=η (fun W=>q9l (R.take 8) W (by omega));rw[show(R.take 8).take 8=R.take 8 from Δ (by omega)] at HG;have e0:=q2O (R.take 8);rw[l8] at e0;obtain⟨b,hb⟩: ∃b,q1O (R.take 8)=b:=⟨_,rfl⟩
 rw[hb] at HG;have q0:=z0y b;rw[G,I] at N;rw[G] at r;rw[I] at u;by_cases h4:q0q D F=0
 case neg=>
  have S:Hd (rdE s=none):=η (by unfold rdE;rw[κ (by rw[G,I];exact fun h=>h4 h.2.2.2)]);have g0:(q0q D F !=0)=true:=by simpa using h4
  obtain⟨E,hE⟩: ∃E,q0q D F=E:=⟨_,rfl⟩
  rw[hE] at N g0;clear hE hb e0 G I hR h1 Q h3 h4;go_enter Tryz.func133,Tryz.ntmps133;go_wp2_with fail;refine(r.o _).mono ?_;rintro e w1 ⟨rfl,d⟩;have l:=η (J.o.ext d);have m:=η (HX.o.trans d);clear d;go_wp2_with fail;refine(u.o _).mono ?_;rintro e w2 ⟨rfl,d⟩;have y:=η (l.o.ext d);have B:=η (m.o.trans d);clear d;go_wp2_with fail;refine(HG.o _).mono ?_;rintro e w3 ⟨rfl,d⟩;have M:=η (y.o.ext d);have b0:=η (B.o.trans d);clear d;obtain⟨U,V,X,f0,f1,f2,g2,Z⟩:=x.o w3 _ _ _ M.o (.string ⟨D.toArray⟩) (.string ⟨F.toArray⟩);go_wp2_with fail;refine(N.o b _).mono ?_;rintro e w4 ⟨rfl,d⟩;have a0:=η ((((M.o.set 0 (.string ⟨D.toArray⟩)).set 1 (.string ⟨F.toArray⟩)).set 2 (.float .f64 b)).ext d);have d0:=η ((q2T b0.o (.string ⟨D.toArray⟩) (.string ⟨F.toArray⟩) (.float .f64 b)).trans d);clear d U V X f0 f1 f2 g2 Z;obtain⟨U,V,X,f0,f1,f2,g2,Z⟩:=x.o w4 _ _ _ a0.o (.string ⟨#[]⟩) (.string ⟨#[]⟩);go_wp2_with fail
  ((try simp only[Exit.inBlock,Exit.then]);refine bodyPost_ret (v:= .tuple #[.agg #[.string ⟨#[]⟩,.string ⟨#[]⟩,.float .f64 0],.string ⟨#[]⟩,.bool false]) (by rw[q0T rfl];go_simp) rfl ?_)
  exact⟨by rw[S.o];rfl,q2T d0.o _ _ _⟩
 have S:Hd (rdE s=some (⟨D,F,b⟩,R.drop 8)):=η (by unfold rdE;rw[G,I,hR,ξ ⟨h1,Q,by omega,h4⟩,hb]);rw[h4] at N;clear hb e0 G I hR h1 Q h3 h4;go_enter Tryz.func133,Tryz.ntmps133;go_wp2_with fail;refine(r.o _).mono ?_;rintro e w1 ⟨rfl,d⟩;have l:=η (J.o.ext d);have m:=η (HX.o.trans d);clear d;go_wp2_with fail;refine(u.o _).mono ?_;rintro e w2 ⟨rfl,d⟩;have y:=η (l.o.ext d);have B:=η (m.o.trans d);clear d;go_wp2_with fail;refine(HG.o _).mono ?_;rintro e w3 ⟨rfl,d⟩;have M:=η (y.o.ext d);have b0:=η (B.o.trans d);clear d;obtain⟨U,V,X,f0,f1,f2,g2,Z⟩:=x.o w3 _ _ _ M.o (.string ⟨D.toArray⟩) (.string ⟨F.toArray⟩);go_wp2_with fail;refine(N.o b _).mono ?_;rintro e w4 ⟨rfl,d⟩;have Y:=η ((((M.o.set 0 (.string ⟨D.toArray⟩)).set 1 (.string ⟨F.toArray⟩)).set 2 (.float .f64 b)).ext d);have a0:=η (Y.o.ext (Ext.refl w4).drew);have d0:=η (((q2T b0.o (.string ⟨D.toArray⟩) (.string ⟨F.toArray⟩) (.float .f64 b)).trans d).drew);clear d U V X f0 f1 f2 g2 Z;obtain⟨U,V,X,f0,f1,f2,g2,Z⟩:=x.o w4.drew _ _ _ a0.o (.string ⟨D.toArray⟩) (.string ⟨F.toArray⟩);obtain⟨i0,j0,k0,m0,n0,o0,p0,l0⟩:=x.o w4 _ _ _ Y.o (.string ⟨D.toArray⟩) (.string ⟨F.toArray⟩);go_wp2_with fail;refine q1U (fun W=>W.cell? ⟨w.heap.size,0,none⟩=some (.string ⟨D.toArray⟩)/\W.cell? ⟨w.heap.size,1,none⟩=some (.string ⟨F.toArray⟩)/\W.cell? ⟨w.heap.size,2,none⟩=some (.float .f64 b)) 3 (by kernel_rfl) ⟨U,V,X⟩ (fun j=>?_);refine q8R (i:=0) (v:=?_) rfl (by kernel_rfl) (fun _ _ _ h=>h) (Or.inl ⟨by rfl,?_⟩) j (fun j=>?_)
 rotate_left
 ·(intro w O;(try dsimp only at O);go_simp;try with_reducible rfl)
 try simp only[Act.put,π,ψ,ω]
 refine q0t (i:=1) (v:=?_) rfl (by kernel_rfl) (fun _ _ _ h=>h) (Or.inl ⟨by rfl,?_⟩) j (fun j=>?_)
 rotate_left
 ·(intro w O;(try dsimp only at O);go_simp;try with_reducible rfl)
 try simp only[Act.put,π,ψ,ω]
 refine q0t (i:=2) (v:=?_) rfl (by kernel_rfl) (fun _ _ _ h=>h) (Or.inl ⟨by rfl,?_⟩) j (fun j=>?_)
 rotate_left
 ·(intro w O;(try dsimp only at O);go_simp;try with_reducible rfl)
 try simp only[Act.put,π,ψ,ω]
 refine q1k (by kernel_rfl) ?_
 try simp only[List.drop_succ_cons,List.drop_zero]
 clear j;go_wp2_with fail
 ((try simp only[Exit.inBlock,Exit.then]);refine bodyPost_ret (v:= .tuple #[.agg #[.string ⟨D.toArray⟩,.string ⟨F.toArray⟩,.float .f64 b],.string ⟨(R.drop 8).toArray⟩,.bool true]) (by rw[q0T rfl];go_simp) rfl ?_)
 exact⟨by rw[S.o];rfl,q2T d0.o _ _ _⟩
theorem z0r(e:Ev)(L:List Ev):q5N (e::L)=evc e++q5N L:=rfl
theorem q9f : ∀(L:List Ev) (i j:Nat),i<L.length->j<3->(q5N L)[i*3+j]? =(evc (L.getD i ev0))[j]?
 |[],i,j,h,_=>by simp at h
 | k::L,0,j,_,hj=>by
  rw[z0r,List.getElem?_append_left (by simp[evc];omega)];simp
 | k::L,i+1,j,h,hj=>by
  rw[z0r,List.getElem?_append_right (by simp[evc];omega),show(i+1)*3+j-(evc k).length=i*3+j from by simp[evc];omega,q9f L i j (by simpa using h) hj];simp
structure Evs(w:World)(ao:Option Addr)(n cap:Nat)(L:List Ev):Prop where
 len:L.length=n
 fits:n<=cap
 bound:cap<=9223372036854775807
 nil:ao=none->cap=0
 rd:Rd w ao (q5N L)
theorem Evs.ext(h:Evs w ao n cap L)(k:Ext w w'):Evs w' ao n cap L:=⟨h.len,h.fits,h.bound,h.nil,h.rd.ext k⟩
theorem Evs.at(h:Evs w ao n cap L)(s:i<n):
  ∃b off,ao=some ⟨b,off,none⟩/\w.cell? ⟨b,off+i*3,none⟩=some (.string ⟨(L.getD i ev0).ty.toArray⟩)/\w.cell? ⟨b,off+i*3+1,none⟩=some (.string ⟨(L.getD i ev0).da.toArray⟩)/\w.cell? ⟨b,off+i*3+2,none⟩=some (.float .f64 (L.getD i ev0).we):=by
 have u:=h.len;have k0:=q9f L i 0 (by omega) (by decide);have k1:=q9f L i 1 (by omega) (by decide);have r:=q9f L i 2 (by omega) (by decide);obtain⟨b,off,rfl,l⟩:=h.rd _ _ k0;obtain⟨_,_,d,m⟩:=h.rd _ _ k1
 cases d;obtain⟨_,_,j,o⟩:=h.rd _ _ r
 cases j;exact⟨b,off,rfl,l,m,o⟩
theorem Evs.of_own{B:Nat}{e:TypeId}{v:Value}(h:Own w B e 3 v L.length (q5N L)): ∃ao cap,v= .slice ao L.length cap/\Evs w ao L.length cap L:=by
 obtain⟨ao,cap,rfl,b,d,j,l⟩:=h.rd;exact⟨ao,cap,rfl,rfl,b,d,j,l⟩
theorem z0s : ∀(L:List Ev) (k:Nat),k<L.length->q7f (L.take k)=0->q7f L=if q0q (L.getD k ev0).ty (L.getD k ev0).da=0 then q7f (L.drop (k+1)) else q0q (L.getD k ev0).ty (L.getD k ev0).da
 |[],k,h,_=>by simp at h
 |e::L,0,_,_=>by simp[q7f]
 | e ::L,k+1,h,h0=>by
  rw[List.take_succ_cons,q7f] at h0
  split at h0
  ·rename_i b
   rw[q7f,ξ b,z0s L k (by simpa using h) h0];simp
  ·rename_i b;exact absurd h0 b
theorem z0t : ∀(L:List Ev) (e:Ev),q7f L=0->q7f (L++[e])=q0q e.ty e.da
 | [],e,_=>by
  rw[List.nil_append,q7f,q7f]
  split
  ·rename_i h;exact h.symm
  ·rfl
 | x::L,e,h=>by
  rw[q7f] at h
  split at h
  ·rename_i b;rw[List.cons_append,q7f,ξ b,z0t L e h]
  ·rename_i b;exact absurd h b
def q3g(L:List Ev):Prop:= ∀e∈L,e.ty.length<=4611686018427387903/\e.da.length<=4611686018427387903
theorem q9Q(st:List UInt8)(fi:Int)(w:World)(D:Evs w ao n cap L)(j0:st.length<=4611686018427387903)(hL:q3g L):
  Calls Tryz.prog 86 #[.agg #[.string ⟨st.toArray⟩,.int .i64 fi,.slice ao n cap]] w fun e w'=>e= .returned (.int .i64 (q0h st fi L))/\Ext w w':=by
 have b1:=D.fits;have b2:=D.bound;have d:=D.len;have G:=η (q0B w (.cells #[.string ⟨st.toArray⟩,.int .i64 fi,.slice ao n cap] 160));have m:=Blk.new w 160 #[.string ⟨st.toArray⟩,.int .i64 fi,.slice ao n cap];have HE:=η D;have HL:=η hL;clear D hL;by_cases x:st=[]
 ·subst x
  have s:Hd (q0h [] fi L=2):=η (by unfold q0h;rw[ξ (.inl rfl)]);clear m;go_enter Tryz.func86,Tryz.ntmps86;go_wp2_with fail
  go_step3
  go_wp2_with fail;rw[Exit.noGoto_ret];go_ret;exact⟨by rw[s.o];rfl,G.o⟩
 have d0:(st==[])=false:=beq_eq_false_iff_ne.2 x;by_cases F:n=0
 ·subst F
  have s:Hd (q0h st fi L=2):=η (by unfold q0h;rw[ξ (.inr (List.eq_nil_of_length_eq_zero d))]);clear m x d;go_enter Tryz.func86,Tryz.ntmps86;go_wp2_with fail
  go_step3
  go_wp2_with fail;rw[Exit.noGoto_ret];go_ret;exact⟨by rw[s.o];rfl,G.o⟩
 have e0:((n:Int)==0)=false:=by simpa using F
 have u:L≠[]:=fun e=>F (by rw[<-d,e];rfl)
 have j:¬(st=[]\/L=[]):=fun h=>h.elim x u
 by_cases h3:32<st.length
 ·have s:Hd (q0h st fi L=3):=η (by unfold q0h;rw[κ j,ξ (.inl h3)])
  have hd:decide ((32:Int)<(st.length:Int))=true:=ζ (by omega);clear m x F u j d;go_enter Tryz.func86,Tryz.ntmps86;go_wp2_with fail
  go_step3
  go_wp2_with fail;rw[Exit.noGoto_ret];go_ret;exact⟨by rw[s.o];rfl,G.o⟩
 by_cases h4:8<n
 ·have s:Hd (q0h st fi L=3):=η (by unfold q0h;rw[κ j,ξ (.inr (by omega))])
  have hd:decide ((8:Int)<(n:Int))=true:=ζ (by omega);clear m x F u j d;go_enter Tryz.func86,Tryz.ntmps86;go_wp2_with fail
  go_step3
  go_wp2_with fail;rw[Exit.noGoto_ret];go_ret;exact⟨by rw[s.o];rfl,G.o⟩
 have l:¬(32<st.length\/8<L.length):=by omega
 have g0:decide ((8:Int)<(n:Int))=false:=ε (by omega);have q0:IntKind.i64.wrap (1073741824-(n:Int))=1073741824-(n:Int):=by rw[ν];omega
 by_cases Q:fi<0\/1073741824-(n:Int)<fi
 ·have s:Hd (q0h st fi L=2):=η (by unfold q0h;rw[κ j,κ l,ξ (by rw[d];exact Q)])
  have v:decide (fi<0)=true\/(decide (fi<0)=false/\decide (1073741824-(n:Int)<fi)=true):=by
   by_cases h:fi<0
   ·exact .inl (ζ h)
   ·exact .inr ⟨ε h,ζ (by omega)⟩
  clear m x F u j l d Q;rcases v with v|⟨v,a0⟩
  all_goals
   go_enter Tryz.func86,Tryz.ntmps86;go_wp2_with fail
   go_step3
   go_wp2_with fail;rw[Exit.noGoto_ret];go_ret;exact⟨by rw[s.o];rfl,G.o⟩
 have v:decide (fi<0)=false:=ε (by omega);have a0:decide (1073741824-(n:Int)<fi)=false:=ε (by omega);have s:Hd (q0h st fi L=q7f L):=η (by unfold q0h;rw[κ j,κ l,κ (by rw[d];exact Q)]);have M:=η d;clear m x F u j l d Q;go_enter Tryz.func86,Tryz.ntmps86;go_wp2_with fail
 go_step3
 go_wp2_with fail
 go_step3
 go_wp2_with fail
 go_loopw [2,36] (fun e i W=> ∃k:Nat,k<=n/\i= .int .i64 (k:Int)/\e= .int .i64 0/\q7f (L.take k)=0/\Ext w W) (fun _ i _=>n-(intOf i).toNat)
 case atStart=>exact⟨0,υ _,rfl,rfl,rfl,G.o⟩
 case round=>
  obtain⟨k,hk,rfl,rfl,I,R⟩:=hrel;have J:=η R;by_cases O:k<n
  ·have b0:decide ((k:Int)<(n:Int))=true:=ζ (by omega)
   obtain⟨b,off,rfl,c0,c1,c2⟩:=(HE.o.ext R).at O;have r:k<L.length:=by rw[M.o];exact O
   have hT:L.take (k+1)=L.take k++[L.getD k ev0]:=by
    rw[List.take_succ_eq_append_getElem r];simp[List.getD,γ r]
   have hS:=z0t (L.take k) (L.getD k ev0) I;rw[<-hT] at hS;have HS:=η hS;have Y:=η (z0s L k r I);have B:L.getD k ev0∈L:=by rw[δ,γ r];exact List.getElem_mem r
   obtain⟨m1,m2⟩:=HL.o _ B;have Z:=η (q0B wr (.cells #[.string ⟨(L.getD k ev0).ty.toArray⟩,.string ⟨(L.getD k ev0).da.toArray⟩,.float .f64 (L.getD k ev0).we] 67));have q1:IntKind.i64.wrap ((k:Int)+1)=(k:Int)+1:=by rw[ν];omega
   generalize L.getD k ev0=y at*;obtain⟨S,U,y3⟩:=y;have V:=η (fun W=>q9c S U .f64 y3 W m1 m2);simp only at c0 c1 c2;have u0:=q0D c0;have u1:=q0D c1;have u2:=q0D c2;have i0:=q4I;clear hT r I hS B m1 m2 R;go_wp2_with fail;refine(V.o _).mono ?_;rintro e w1 ⟨rfl,D⟩;have N:=η ((J.o.trans Z.o).trans D);clear D;by_cases hc:q0q S U=0
   ·have X:Hd (q7f (L.take (k+1))=0):=η (by rw[HS.o];exact hc)
    rw[hc];go_wp2_with fail
    go_roundw
    case rel=>exact⟨k+1,by omega,by go_num,rfl,X.o,N.o⟩
    case measure=>simp[intOf];omega
   ·have E:Hd (q7f L=q0q S U):=η (by rw[Y.o,κ hc])
    have f0:(q0q S U==0)=false:=by simpa using hc
    clear hc;go_wp2_with fail;rw[Exit.noGoto_ret];go_ret;exact⟨by rw[s.o,E.o];rfl,N.o⟩
  ·obtain rfl:k=n:=by omega
   have b0:decide ((k:Int)<(k:Int))=false:=ε (by omega);have E:Hd (q7f L=0):=η (by rw[<-M.o,List.take_length] at I;exact I);clear I R;go_wp2_with fail;rw[Exit.noGoto_ret];go_ret;exact⟨by rw[s.o,E.o];rfl,J.o⟩
theorem q2A{fn:Func}{p u v x:Tmp}{ty:TypeId}(h:fn.results=#[.cell p ty,.tmp u,.tmp v,.tmp x])(tmps:Array Value)(P:Program)(w:World):
  (results fn tmps).run P w=
   ((asAddr (tmps.getD p undef)).run P w).andThen fun a w₁=>((loadVar ty a).run P w₁).andThen fun y b=> .ok (.tuple #[y,tmps.getD u undef,tmps.getD v undef,tmps.getD x undef]) b:=by
 simp only[results,h];simp[Sem.run_bind,Result.andThen]
def q6z(s:List UInt8):Value:=if q5Q s=true then .tuple #[.agg #[.string ⟨(rdT s).toArray⟩,.int .i64 (q1O ((rdR s).take 8):Int),.slice none 0 0],.int .i64 (((rdR s).getD 8 0).toNat:Int),.string ⟨((rdR s).drop 9).toArray⟩,.bool true]
 else .tuple #[.agg #[.string ⟨#[]⟩,.int .i64 0,.slice none 0 0],.int .i64 0,.string ⟨#[]⟩,.bool false]
theorem y0U(s:List UInt8)(w:World)(hl:s.length<=4611686018427387903):
  Calls Tryz.prog 165 #[.string ⟨s.toArray⟩] w fun e w'=>e= .returned (q6z s)/\Ext w w':=by
 have r:=η (fun W=>z2a s W hl);have m0:=z3w s;have b0:=q8B s;have U:=η (q0B w (.cells #[.string ⟨#[]⟩,.int .i64 0,.slice none 0 0] 160));have B:=η (Blk.new w 160 #[.string ⟨#[]⟩,.int .i64 0,.slice none 0 0])
 have y:Hd (∀(W:World) (a b c:Value),Blk W w.heap.size 160 #[a,b,c]-> ∀V X,W.cell? ⟨w.heap.size,0,none⟩=some a/\W.cell? ⟨w.heap.size,1,none⟩=some b/\W.cell? ⟨w.heap.size,2,none⟩=some c/\
   W.frozen? ⟨w.heap.size,0,none⟩=false/\W.frozen? ⟨w.heap.size,1,none⟩=false/\W.frozen? ⟨w.heap.size,2,none⟩=false/\((W.setCell ⟨w.heap.size,0,none⟩ V).setCell ⟨w.heap.size,1,none⟩ X).frozen? ⟨w.heap.size,2,none⟩=false/\
   ((W.setCell ⟨w.heap.size,0,none⟩ V).setCell ⟨w.heap.size,1,none⟩ X).cell? ⟨w.heap.size,2,none⟩=some c):=η fun W a b c h V X=>by
  have h2:=(h.set 0 V).set 1 X;exact⟨h.cell 0,h.cell 1,h.cell 2,h.free 0,h.free 1,h.free 2,h2.free 2,h2.cell 2⟩
 by_cases J:q8U s=true
 case neg=>
  rw[Bool.not_eq_true] at J;have F:Hd (q6z s= .tuple #[.agg #[.string ⟨#[]⟩,.int .i64 0,.slice none 0 0],.int .i64 0,.string ⟨#[]⟩,.bool false]):=η (by unfold q6z q5Q;rw[J];rfl);rw[J] at r;go_enter Tryz.func165,Tryz.ntmps165;go_wp2_with fail;refine(r.o _).mono ?_;rintro e w1 ⟨rfl,l⟩;have u:=η (B.o.ext l);have x:=η (U.o.trans l);clear l;obtain⟨Z,c1,c2,f0,f1,f2,g2,d2⟩:=y.o w1 _ _ _ u.o (.string ⟨#[]⟩) (.int .i64 0);go_wp2_with fail
  ((try simp only[Exit.inBlock,Exit.then]);refine bodyPost_ret (v:= .tuple #[.agg #[.string ⟨#[]⟩,.int .i64 0,.slice none 0 0],.int .i64 0,.string ⟨#[]⟩,.bool false]) (by rw[q2A rfl];go_simp) rfl ?_)
  exact⟨by rw[F.o],q2T x.o _ _ _⟩
 rw[J] at r;obtain⟨R,I⟩: ∃R,rdR s=R:=⟨_,rfl⟩
 rw[I] at r b0;by_cases h3:R.length<9
 ·have F:Hd (q6z s= .tuple #[.agg #[.string ⟨#[]⟩,.int .i64 0,.slice none 0 0],.int .i64 0,.string ⟨#[]⟩,.bool false]):=η (by unfold q6z q5Q;rw[J,I,ε (by omega)];rfl)
  have hd:decide ((R.length:Int)<9)=true:=ζ (by omega);clear I;go_enter Tryz.func165,Tryz.ntmps165;go_wp2_with fail;refine(r.o _).mono ?_;rintro e w1 ⟨rfl,l⟩;have u:=η (B.o.ext l);have x:=η (U.o.trans l);clear l;obtain⟨Z,c1,c2,f0,f1,f2,g2,d2⟩:=y.o w1 _ _ _ u.o (.string ⟨#[]⟩) (.int .i64 0);go_wp2_with fail
  ((try simp only[Exit.inBlock,Exit.then]);refine bodyPost_ret (v:= .tuple #[.agg #[.string ⟨#[]⟩,.int .i64 0,.slice none 0 0],.int .i64 0,.string ⟨#[]⟩,.bool false]) (by rw[q2A rfl];go_simp) rfl ?_)
  exact⟨by rw[F.o],q2T x.o _ _ _⟩
 have hd:decide ((R.length:Int)<9)=false:=ε (by omega);have s1:=q4P R 8 8 rfl (by omega);have s2:=q3M R 9 9 rfl (by omega);have l8:(R.take 8).length=8:=by rw[Θ];omega
 have S:=η (fun W=>q9l (R.take 8) W (by omega));rw[show(R.take 8).take 8=R.take 8 from Δ (by omega)] at S;have E:=q2O (R.take 8);rw[l8] at E;obtain⟨b,O⟩: ∃b,q1O (R.take 8)=b:=⟨_,rfl⟩
 rw[O] at S E;by_cases h4:1073741824<b
 ·have F:Hd (q6z s= .tuple #[.agg #[.string ⟨#[]⟩,.int .i64 0,.slice none 0 0],.int .i64 0,.string ⟨#[]⟩,.bool false]):=η (by unfold q6z q5Q;rw[I,O,ε (p:=b<=1073741824) (by omega),Bool.and_false];rfl)
  have a0:decide ((1073741824:Int)<(b:Int))=true:=ζ (by omega);clear O E I h3;go_enter Tryz.func165,Tryz.ntmps165;go_wp2_with fail;refine(r.o _).mono ?_;rintro e w1 ⟨rfl,l⟩;have u:=η (B.o.ext l);have x:=η (U.o.trans l);clear l;go_wp2_with fail;refine(S.o _).mono ?_;rintro e Q ⟨rfl,l⟩;have D:=η (u.o.ext l);have G:=η (x.o.trans l);clear l;obtain⟨Z,c1,c2,f0,f1,f2,g2,d2⟩:=y.o Q _ _ _ D.o (.string ⟨#[]⟩) (.int .i64 0);go_wp2_with fail
  ((try simp only[Exit.inBlock,Exit.then]);refine bodyPost_ret (v:= .tuple #[.agg #[.string ⟨#[]⟩,.int .i64 0,.slice none 0 0],.int .i64 0,.string ⟨#[]⟩,.bool false]) (by rw[q2A rfl];go_simp) rfl ?_)
  exact⟨by rw[F.o],q2T G.o _ _ _⟩
 have a0:decide ((1073741824:Int)<(b:Int))=false:=ε (by omega);obtain⟨m,hm⟩: ∃m:Nat,(R.getD 8 0).toNat=m:=⟨_,rfl⟩
 have n0:m<256:=by rw[<-hm];exact(R.getD 8 0).toNat_lt
 have hb8:8<(⟨R.toArray⟩:ByteArray).size:=by show 8<R.length;omega
 have e8:((⟨R.toArray⟩:ByteArray)[8]'hb8).toNat=m:=by
  rw[<-hm,δ,γ (show 8<R.length by omega)];rfl
 have h8:(8:Int)<(R.length:Int):=by omega
 have q1:IntKind.i64.wrap (b:Int)=(b:Int):=by rw[ν];omega
 have q2:IntKind.i64.wrap (m:Int)=(m:Int):=by rw[ν];omega
 have F:Hd (q6z s= .tuple #[.agg #[.string ⟨(rdT s).toArray⟩,.int .i64 (b:Int),.slice none 0 0],.int .i64 (m:Int),.string ⟨(R.drop 9).toArray⟩,.bool true]):=η (by
  unfold q6z q5Q
  rw[I,O,J,hm,ζ (p:=9<=R.length) (by omega),ζ (p:=b<=1073741824) (by omega)];rfl)
 obtain⟨Y,N⟩: ∃T,rdT s=T:=⟨_,rfl⟩
 rw[N] at F r;clear O E I h3 h4 N hm;go_enter Tryz.func165,Tryz.ntmps165;go_wp2_with fail;refine(r.o _).mono ?_;rintro e w1 ⟨rfl,l⟩;have u:=η (B.o.ext l);have x:=η (U.o.trans l);clear l;go_wp2_with fail;refine(S.o _).mono ?_;rintro e Q ⟨rfl,l⟩;have D:=η (u.o.ext l);have M:=η (D.o.ext (Ext.refl Q).drew);have G:=η ((x.o.trans l).drew);clear l;obtain⟨Z,c1,c2,f0,f1,f2,g2,d2⟩:=y.o Q _ _ _ D.o (.string ⟨Y.toArray⟩) (.int .i64 (b:Int));obtain⟨d0,e0,g0,i0,j0,k0,l0,h0⟩:=y.o Q.drew _ _ _ M.o (.string ⟨Y.toArray⟩) (.int .i64 (b:Int));go_wp2_with fail;refine q1U (fun W=>True) 9 (by kernel_rfl) trivial (fun d=>?_);refine q0t (i:=0) (v:=?_) rfl (by kernel_rfl) (fun _ _ _ h=>h) (Or.inl ⟨by rfl,?_⟩) d (fun d=>?_)
 rotate_left
 ·(intro w j;(try dsimp only at j);go_simp;try with_reducible rfl)
 try simp only[Act.put,π,ψ,ω]
 refine q0t (i:=1) (v:=?_) rfl (by kernel_rfl) (fun _ _ _ h=>h) (Or.inl ⟨by rfl,?_⟩) d (fun d=>?_)
 rotate_left
 ·(intro w j;(try dsimp only at j);go_simp;try with_reducible rfl)
 try simp only[Act.put,π,ψ,ω]
 refine q0t (i:=2) (v:=?_) rfl (by kernel_rfl) (fun _ _ _ h=>h) (Or.inl ⟨by rfl,?_⟩) d (fun d=>?_)
 rotate_left
 ·(intro w j;(try dsimp only at j);go_simp;try with_reducible rfl)
 try simp only[Act.put,π,ψ,ω]
 refine q0t (i:=3) (v:=?_) rfl (by kernel_rfl) (fun _ _ _ h=>h) (Or.inl ⟨by rfl,?_⟩) d (fun d=>?_)
 rotate_left
 ·(intro w j;(try dsimp only at j);go_simp;try with_reducible rfl)
 try simp only[Act.put,π,ψ,ω]
 refine q0t (i:=4) (v:=?_) rfl (by kernel_rfl) (fun _ _ _ h=>h) (Or.inl ⟨by rfl,?_⟩) d (fun d=>?_)
 rotate_left
 ·(intro w j;(try dsimp only at j);go_simp;try with_reducible rfl)
 try simp only[Act.put,π,ψ,ω]
 refine q0t (i:=5) (v:=?_) rfl (by kernel_rfl) (fun _ _ _ h=>h) (Or.inl ⟨by rfl,?_⟩) d (fun d=>?_)
 rotate_left
 ·(intro w j;(try dsimp only at j);go_simp;try with_reducible rfl)
 try simp only[Act.put,π,ψ,ω]
 refine q0t (i:=6) (v:=?_) rfl (by kernel_rfl) (fun _ _ _ h=>h) (Or.inl ⟨by rfl,?_⟩) d (fun d=>?_)
 rotate_left
 ·(intro w j;(try dsimp only at j);go_simp;try with_reducible rfl)
 try simp only[Act.put,π,ψ,ω]
 refine q0t (i:=7) (v:=?_) rfl (by kernel_rfl) (fun _ _ _ h=>h) (Or.inl ⟨by rfl,?_⟩) d (fun d=>?_)
 rotate_left
 ·(intro w j;(try dsimp only at j);go_simp;try with_reducible rfl)
 try simp only[Act.put,π,ψ,ω]
 refine q0t (i:=8) (v:=?_) rfl (by kernel_rfl) (fun _ _ _ h=>h) (Or.inl ⟨by rfl,?_⟩) d (fun d=>?_)
 rotate_left
 ·(intro w j;(try dsimp only at j);go_simp;try with_reducible rfl)
 try simp only[Act.put,π,ψ,ω]
 refine q1k (by kernel_rfl) ?_
 try simp only[List.drop_succ_cons,List.drop_zero]
 clear d;go_wp2_with fail
 ((try simp only[Exit.inBlock,Exit.then]);refine bodyPost_ret (v:= .tuple #[.agg #[.string ⟨Y.toArray⟩,.int .i64 (b:Int),.slice none 0 0],.int .i64 (m:Int),.string ⟨(R.drop 9).toArray⟩,.bool true]) (by rw[q2A rfl];go_simp) rfl ?_)
 exact⟨by rw[F.o],q2T G.o _ _ _⟩
theorem Tryz.infoEv :(Tryz.prog.info? 67).map (fun i=>(i.zero,i.size,i.bytes))=some (some (.agg #[.string ⟨#[]⟩,.string ⟨#[]⟩,.float .f64 0]),3,40):=by kernel_rfl
theorem z7U(s:List UInt8)(k:Nat)(h:z2j k s=none): ∀m,k<=m->z2j m s=none:=by
 intro m hm;obtain⟨d,rfl⟩:=Nat.le.dest hm;clear hm
 induction d with
 |zero=>exact h
 |succ d ih=>rw[<-Nat.add_assoc,z2j,ih];rfl
theorem y1O(s:List UInt8): ∃e R o,y3U (rdE s)= .tuple #[evV e,.string ⟨R.toArray⟩,.bool o]/\(o=true->rdE s=some (e,R))/\(o=false->rdE s=none)/\e.ty.length<=16/\e.da.length<=200/\R.length<=s.length:=by
 by_cases h:q8U s=true/\q8U (rdR s)=true/\8<=(rdR (rdR s)).length/\q0q (rdT s) (rdT (rdR s))=0
 ·have b:rdE s=some (⟨rdT s,rdT (rdR s),q1O ((rdR (rdR s)).take 8)⟩,(rdR (rdR s)).drop 8):=by unfold rdE;rw[ξ h]
  obtain⟨_,d,j⟩:=q2c h.2.2.2;have l:=q8B s;have m:=q8B (rdR s);exact⟨_,_,true,by rw[b];rfl,fun _=>b,fun e=>by simp at e,d,j,by rw[List.length_drop];omega⟩
 ·have b:rdE s=none:=by unfold rdE;rw[κ h]
  exact⟨ev0,[],false,by rw[b];rfl,fun e=>by simp at e,fun _=>b,by decide,by decide,υ _⟩
theorem z9B(s:List UInt8): ∃st fi m R o,q6z s= .tuple #[.agg #[.string ⟨st.toArray⟩,.int .i64 ((fi:Nat):Int),.slice none 0 0],.int .i64 ((m:Nat):Int),.string ⟨R.toArray⟩,.bool o]/\st.length<=s.length/\R.length<=s.length/\m<=255/\fi<=1073741824/\
  (∀es T,o=true->z2j m R=some (es,T)->q5G s=if T=[] then(if q0h st (fi:Int) es=0 then some ⟨st,fi,es⟩ else none) else none)/\((o=false\/z2j m R=none)->q5G s=none):=by
 have j:=z3w s;have l:=q8B s;by_cases h:q5Q s=true
 ·have d:=h
  unfold q5Q at d;simp only[Ξ,Φ] at d;refine⟨rdT s,q1O ((rdR s).take 8),((rdR s).getD 8 0).toNat,(rdR s).drop 9,true,by unfold q6z;rw[ξ h],by omega,by rw[List.length_drop];omega,by have:=UInt8.toNat_lt ((rdR s).getD 8 0);omega,d.2,fun es T _ he=>?_,fun he=>?_⟩
  ·unfold q5G
   rw[ξ h,he]
   cases T with
   |nil=>rfl
   |cons a b=>rfl
  ·rcases he with he|he
   ·cases he
   ·unfold q5G;rw[ξ h,he]
 ·refine⟨[],0,0,[],false,by unfold q6z;rw[κ h];rfl,υ _,υ _,by omega,by omega,fun es T e=>by simp at e,fun _=>by unfold q5G;rw[κ h]⟩
def y3J(B:Nat)(w:World)(r:Option Bt)(v:Value):Prop:=match r with
 |none=>v= .tuple #[.agg #[.string ⟨#[]⟩,.int .i64 0,.slice none 0 0],.int .i64 10]
 |some b=> ∃x,v= .tuple #[.agg #[.string ⟨b.st.toArray⟩,.int .i64 (b.fi:Int),x],.int .i64 0]/\Own w B 67 3 x b.ev.length (q5N b.ev)
theorem y1v{W:World}{t:TypeId}{a b c:Value}(h:Blk W q t #[a,b,c])(d j:Value):W.cell? ⟨q,0,none⟩=some a/\W.cell? ⟨q,1,none⟩=some b/\W.cell? ⟨q,2,none⟩=some c/\
   W.frozen? ⟨q,0,none⟩=false/\W.frozen? ⟨q,1,none⟩=false/\W.frozen? ⟨q,2,none⟩=false/\((W.setCell ⟨q,0,none⟩ d).setCell ⟨q,1,none⟩ j).frozen? ⟨q,2,none⟩=false/\
   ((W.setCell ⟨q,0,none⟩ d).setCell ⟨q,1,none⟩ j).cell? ⟨q,2,none⟩=some c:=by
 have l:=(h.set 0 d).set 1 j;exact⟨h.cell 0,h.cell 1,h.cell 2,h.free 0,h.free 1,h.free 2,l.free 2,l.cell 2⟩
theorem q4d(h:Ext w w1)(hq:w.heap.size<=q)(a b c:Value):Ext w (((w1.setCell ⟨q,0,none⟩ a).setCell ⟨q,1,none⟩ b).setCell ⟨q,2,none⟩ c):=
 ((h.setCell (p:=⟨q,0,none⟩) hq a).setCell (p:=⟨q,1,none⟩) hq b).setCell (p:=⟨q,2,none⟩) hq c
theorem z9w(s :List UInt8)(w:World)(hl:s.length<=4611686018427387903):
  Calls Tryz.prog 103 #[.string ⟨s.toArray⟩] w fun e w'=>(∃v,e= .returned v/\y3J w.heap.size w' (q5G s) v)/\Ext w w':=by
 have HH:=η (fun W=>y0U s W hl);obtain⟨st,fi,m,S9,o0,hv,s1,o1,hm,q1,hG,J0⟩:=z9B s;rw[hv] at HH;have HG:=η hG;have l0:=η J0;have HX:=η (q0B w (.cells #[.string ⟨#[]⟩,.int .i64 0,.slice none 0 0] 160));have v0:=η (Blk.new w 160 #[.string ⟨#[]⟩,.int .i64 0,.slice none 0 0]);have r1:=q4I;clear hv hG J0;obtain⟨q,hq⟩: ∃q,w.heap.size=q:=⟨_,rfl⟩
 have HQ:=η hq;have Y:Hd (w.heap.size<=q):=η (by omega);rw[hq] at v0;go_enter Tryz.func103,Tryz.ntmps103;go_wp2_with fail;refine(HH.o _).mono ?_;rintro e w1 ⟨rfl,G⟩;have w0:=η (v0.o.ext G);have G0:=η (HX.o.trans G);clear G;go_wp2_with fail;obtain⟨j,P0⟩: ∃j,w1.heap.size=j:=⟨_,rfl⟩
 have O0:w.heap.size<=w1.heap.size:=G0.o.size;have m0:Hd (q+1<=j):=η (by have:=w0.o.lt;omega);have n0:Hd (w.heap.size<=j):=η (by omega);have V0:=η (w0.o.ext (q0B w1 (.cells #[.string ⟨st.toArray⟩,.int .i64 (fi:Int),.slice none 0 0] 160)));have Z0:=η (G0.o.trans (q0B w1 (.cells #[.string ⟨st.toArray⟩,.int .i64 (fi:Int),.slice none 0 0] 160)));have y0:=η (Blk.new w1 160 #[.string ⟨st.toArray⟩,.int .i64 (fi:Int),.slice none 0 0]);rw[P0] at y0⊢;clear P0 O0
 go_loopw [6,7] (fun r o W=> ∃es R ao O b,r= .string ⟨(R:List UInt8).toArray⟩/\o= .bool b/\Blk W j 160 #[.string ⟨st.toArray⟩,.int .i64 (fi:Int),.slice ao es.length O]/\
   W.ownsRow (j+1) 67 3 (.slice ao es.length O) es.length (q5N es)/\es.length<=m/\(b=true->o0=true/\z2j es.length S9=some (es,R))/\(b=false->o0=false\/z2j m S9=none)/\q3g es/\
   R.length<=4611686018427387903/\Blk W q 160 #[.string ⟨#[]⟩,.int .i64 0,.slice none 0 0]/\Ext w W)
  (fun _ _ W=>m-(match W.cell? ⟨j,2,none⟩ with|some (.slice _ n _)=>n|_=>0))
 case atStart=>
  refine⟨[],S9,none,0,o0,rfl,rfl,y0.o,World.ownsRow_nil _ _ _ _,υ _,fun h=>⟨h,rfl⟩,fun h=> .inl h,(fun e he=>absurd he (List.not_mem_nil)),by omega,V0.o,Z0.o⟩
 case round =>
  obtain⟨es,R,ao,O,b,rfl,rfl,d,J,N0,hT,hF,R0,a1,K0,T0⟩:=hrel;obtain⟨l1,m1,d1,g0⟩:=Evs.of_own (Own.of_row J)
  cases d1;obtain⟨k,hk⟩: ∃k,es.length=k:=⟨_,rfl⟩
  have M0:=g0.fits;have j1:=g0.bound;have z0:=η g0;clear g0;rw[hk] at d J N0 hT M0 z0;have HK:=η hk;have X:=η d;have D0:=η J;have HT:=η hT;have HF:=η hF;have F0:=η R0;have N:=η K0;have a0:=η T0;have c0:wr.cell? ⟨j,0,none⟩=some (.string ⟨st.toArray⟩):=d.cell 0;have c1:wr.cell? ⟨j,1,none⟩=some (.int .i64 (fi:Int)):=d.cell 1;have c2:wr.cell? ⟨j,2,none⟩=some (.slice ao k O):=d.cell 2;clear hk d J hT hF R0 K0 T0
  cases b with
  | false=>
   have l:Hd (q5G s=none):=η (l0.o (HF.o rfl));obtain⟨k0,k1,k2,f0,f1,f2,g2,d2⟩:=y1v N.o (.string ⟨#[]⟩) (.int .i64 0);clear HT HF;go_wp2_with fail
   ((try simp only[Exit.inBlock,Exit.then]);refine bodyPost_ret (v:= .tuple #[.agg #[.string ⟨#[]⟩,.int .i64 0,.slice none 0 0],.int .i64 10]) (by rw[q0x rfl];go_simp) rfl ?_)
   exact⟨⟨_,rfl,by rw[l.o];exact rfl⟩,q4d a0.o Y.o _ _ _⟩
  | true =>
   by_cases g1:k<m
   ·have hd:decide ((k:Int)<(m:Int))=true:=ζ (by omega)
    obtain⟨⟨y,B,D⟩,R',o',hv,hy,hn,t1,u1,n1⟩:=y1O R;have S0:y3U (rdE R)= .tuple #[.agg #[.string ⟨y.toArray⟩,.string ⟨B.toArray⟩,.float .f64 D],.string ⟨R'.toArray⟩,.bool o']:=hv;have HE:=η (fun W=>y0g R W a1);rw[S0] at HE;have HY:=η hy;have HN:=η hn;clear hv S0 hy hn;go_wp2_with fail;refine(HE.o _).mono ?_;rintro e V ⟨rfl,G⟩;obtain⟨x,Q0⟩: ∃x,wr.heap.size=x:=⟨_,rfl⟩
    rw[Q0];have U0:=(q0B wr (.cells #[.string ⟨#[]⟩,.string ⟨#[]⟩,.float .f64 0] 67)).trans G;have d0:=(Blk.new wr 67 #[.string ⟨#[]⟩,.string ⟨#[]⟩,.float .f64 0]).ext G;rw[Q0] at d0;obtain⟨k0,k1,k2,f0,f1,f2,g2,d2⟩:=y1v d0 (.string ⟨y.toArray⟩) (.string ⟨B.toArray⟩);have hex:=q4d U0 (q:=x) (by omega) (.string ⟨y.toArray⟩) (.string ⟨B.toArray⟩) (.float .f64 D);have I:=((d0.set 0 (.string ⟨y.toArray⟩)).set 1 (.string ⟨B.toArray⟩)).set 2 (.float .f64 D);have e0:((((V.setCell ⟨x,0,none⟩ (.string ⟨y.toArray⟩)).setCell ⟨x,1,none⟩ (.string ⟨B.toArray⟩)).setCell ⟨x,2,none⟩ (.float .f64 D)).cell? ⟨x,0,none⟩)=some (.string ⟨y.toArray⟩):=I.cell 0;have e1:((((V.setCell ⟨x,0,none⟩ (.string ⟨y.toArray⟩)).setCell ⟨x,1,none⟩ (.string ⟨B.toArray⟩)).setCell ⟨x,2,none⟩ (.float .f64 D)).cell? ⟨x,1,none⟩)=some (.string ⟨B.toArray⟩):=I.cell 1;have e2:((((V.setCell ⟨x,0,none⟩ (.string ⟨y.toArray⟩)).setCell ⟨x,1,none⟩ (.string ⟨B.toArray⟩)).setCell ⟨x,2,none⟩ (.float .f64 D)).cell? ⟨x,2,none⟩)=some (.float .f64 D):=I.cell 2;have e3:((((V.setCell ⟨x,0,none⟩ (.string ⟨y.toArray⟩)).setCell ⟨x,1,none⟩ (.string ⟨B.toArray⟩)).setCell ⟨x,2,none⟩ (.float .f64 D)).cell? ⟨j,2,none⟩)=some (.slice ao k O):=(X.o.ext hex).cell 2;have M:=hex.trans (q0B _ (.cells #[.string ⟨y.toArray⟩,.string ⟨B.toArray⟩,.float .f64 D] 67));have h0:=η (X.o.ext M);have i0:=η (N.o.ext M);have Z:=η (q0O D0.o M);have I0:=η (a0.o.trans M);have Y0:=η (show j+1<=_ from Ω (show j+1<=wr.heap.size from X.o.lt) M.size);have u0:=Rd.lit (((V.setCell ⟨x,0,none⟩ (.string ⟨y.toArray⟩)).setCell ⟨x,1,none⟩ (.string ⟨B.toArray⟩)).setCell ⟨x,2,none⟩ (.float .f64 D)) #[.string ⟨y.toArray⟩,.string ⟨B.toArray⟩,.float .f64 D] 67;rw[World.size_setCell,World.size_setCell,World.size_setCell] at u0;have X0:=η u0;clear G U0 d0 hex I M u0
    go_wp2_with (at_builtin;refine q0R rfl (.tmp 31) (.tmp 33) 40 rfl (j+1) 67 _ 3 40 Tryz.underlying40 Tryz.infoEv (by decide) (by decide) _ k (q5N es) rfl Z.o _ 1 1 (evc ⟨y,B,D⟩) rfl rfl (fun h=>by cases h) X0.o (fun u hu=>z8p [⟨y,B,D⟩] u (by simpa [q5N] using hu)) (by unfold maxLen;omega) (by omega) Y0.o ?_;intro v4 w4 U E b1;obtain⟨a4,c4,rfl⟩:=q0G U;have b0:=h0.o.same (E.block j h0.o.lt (fun e=>by have:=(q0l Z.o j e.symm).1;omega));have d6:=b0.cell 2;have d7:=b0.free 2;have x0:=η b0;have C0:=η U;have A0:=η E;clear U E b1 b0)
    have L0:=i0.o.same (A0.o.block q i0.o.lt (fun e=>by have:=(q0l Z.o q e.symm).1;have:=m0.o;omega));have i1:=q1d I0.o (Own.of_row (q1G Z.o (show w.heap.size<=j+1 by have:=n0.o;omega))) A0.o I0.o.size;obtain⟨h1,j0⟩:=HT.o trivial;have F:(es++[(⟨y,B,D⟩:Ev)]).length=k+1:=by rw[θ,HK.o];rfl
    refine⟨⟨es++[⟨y,B,D⟩],R',a4,c4,o',rfl,rfl,?_,?_,by omega,fun h=>⟨h1,?_⟩,fun h=> .inr ?_,?_,by omega,L0.o (by have:=m0.o;omega) _ _,i1.setCell (p:=⟨j,2,none⟩) n0.o _⟩,?_⟩
    ·rw[F];exact x0.o.set 2 _
    ·rw [F,q7e]
     refine q1D (a:=⟨j,2,none⟩) ?_ _ (fun e=>?_)
     ·have h:=C0.o
      rw[show q5N [(⟨y,B,D⟩:Ev)]=evc ⟨y,B,D⟩ from by simp[q5N]];exact h
     ·have:=(q0l C0.o j e).1
      omega
    ·rw[F,z2j,j0,Option.bind_some,HY.o h];rfl
    ·refine z7U _ (k+1) ?_ m g1
     rw[z2j,j0,Option.bind_some,HN.o h];rfl
    ·intro e he
     rcases List.mem_append.1 he with he|he
     ·exact F0.o e he
     ·obtain rfl:=List.mem_singleton.1 he
      exact⟨by simp only;omega,by simp only;omega⟩
    ·have h6:(w4.setCell ⟨j,2,none⟩ (.slice a4 (k+1) c4)).cell? ⟨j,2,none⟩=some (.slice a4 (k+1) c4):=(x0.o.set 2 _).cell 2
     rw[h6,c2];simp only;omega
   ·have hd:decide ((k:Int)<(m:Int))=false:=ε (by omega)
    obtain rfl:k=m:=by omega
    obtain⟨q0,s0⟩:=HT.o rfl;have Q:=HG.o _ _ q0 s0;obtain⟨k0,k1,k2,f0,f1,f2,g2,d2⟩:=y1v N.o (.string ⟨#[]⟩) (.int .i64 0)
    cases R with
    | cons r0 R=>
     have l:Hd (q5G s=none):=η (by rw[Q];rfl);clear Q q0 s0 HT HF HG l0;go_wp2_with fail
     ((try simp only[Exit.inBlock,Exit.then]);refine bodyPost_ret (v:= .tuple #[.agg #[.string ⟨#[]⟩,.int .i64 0,.slice none 0 0],.int .i64 10]) (by rw[q0x rfl];go_simp) rfl ?_)
     exact⟨⟨_,rfl,by rw[l.o];exact rfl⟩,q4d a0.o Y.o _ _ _⟩
    | nil =>
     have HC:=η (fun W (h:Evs W ao k O es)=>q9Q st (fi:Int) W h (by omega) F0.o);rw[ξ rfl] at Q;have B0:=η Q;clear Q q0 s0 HT HF HG l0 k0 k1 k2 f0 f1 f2 g2 d2;go_wp2_with fail;refine(HC.o _ z0.o).mono ?_;rintro e V ⟨rfl,G⟩;have H0:=η (a0.o.trans G);have E0:=η (q0O D0.o G);have d:=X.o.ext G;have c0:V.cell? ⟨j,0,none⟩=some (.string ⟨st.toArray⟩):=d.cell 0;have c1:V.cell? ⟨j,1,none⟩=some (.int .i64 (fi:Int)):=d.cell 1;have c2:V.cell? ⟨j,2,none⟩=some (.slice ao k O):=d.cell 2;by_cases S:q0h st (fi:Int) es=0
     ·have p0:Hd (q5G s=some ⟨st,fi,es⟩):=η (by rw[B0.o,ξ S])
      obtain⟨k0,k1,k2,f0,f1,f2,g2,d2⟩:=y1v (N.o.ext G) (.string ⟨st.toArray⟩) (.int .i64 (fi:Int))
      have W0:Hd (Own (((V.setCell ⟨q,0,none⟩ (.string ⟨st.toArray⟩)).setCell ⟨q,1,none⟩ (.int .i64 (fi:Int))).setCell ⟨q,2,none⟩ (.slice ao k O)) w.heap.size 67 3 (.slice ao k O) es.length (q5N es)):=η (by
       rw[HK.o];have t0:(Value.slice ao k O).ownBlock≠some q:=fun e=>by have:=(q0l E0.o q e).1;have:=m0.o;omega
       exact((((Own.of_row E0.o).setOther (a:=⟨q,0,none⟩) _ t0).setOther (a:=⟨q,1,none⟩) _ t0).setOther (a:=⟨q,2,none⟩) _ t0).base (by have:=n0.o;omega))
      rw[S];clear G d S;go_wp2_with fail
      ((try simp only[Exit.inBlock,Exit.then]);refine bodyPost_ret (v:= .tuple #[.agg #[.string ⟨st.toArray⟩,.int .i64 (fi:Int),.slice ao k O],.int .i64 0]) (by rw[q0x rfl];go_simp) rfl ?_)
      refine⟨⟨_,rfl,by rw[p0.o];exact⟨_,rfl,W0.o⟩⟩,q4d H0.o Y.o _ _ _⟩
     ·have l:Hd (q5G s=none):=η (by rw[B0.o,κ S])
      have p1:(q0h st (fi:Int) es==0)=false:=by simpa using S
      obtain⟨k0,k1,k2,f0,f1,f2,g2,d2⟩:=y1v (N.o.ext G) (.string ⟨#[]⟩) (.int .i64 0);generalize q0h st (fi:Int) es=bc at*;clear G d;go_wp2_with fail
      ((try simp only[Exit.inBlock,Exit.then]);refine bodyPost_ret (v:= .tuple #[.agg #[.string ⟨#[]⟩,.int .i64 0,.slice none 0 0],.int .i64 10]) (by rw[q0x rfl];go_simp) rfl ?_)
      exact⟨⟨_,rfl,by rw[l.o];exact rfl⟩,q4d H0.o Y.o _ _ _⟩
theorem z0u: ∀{L:List (Nat×List UInt8)} (hp:L.Pairwise z5i) {a:Nat} {p:List UInt8} {R:List (Nat×List UInt8)},L.filter (fun r=>decide (pos<=(r.1:Int)))=(a,p)::R->
  L.filter (fun r=>decide ((a:Int)+(p.length:Int)+12<=(r.1:Int)))=R
 |[],_,_,_,_,h=>by cases h
 | x ::t,hp,a,p,R,h=>by
  obtain⟨j,o⟩:=List.pairwise_cons.1 hp;by_cases b:pos<=(x.1:Int)
  ·rw[List.filter_cons_of_pos (by simpa using b)] at h
   injection h with l m;subst l;simp only at b;rw[List.filter_cons_of_neg (by simp;omega),<-m,List.filter_eq_self.2,List.filter_eq_self.2]
   ·intro y d;have:=j y d;unfold z5i at this;simp only at this;simp;omega
   ·intro y d;have:=j y d;unfold z5i at this;simp only at this;simp;omega
  ·rw[List.filter_cons_of_neg (by simpa using b)] at h
   have hm:(a,p)∈t.filter (fun r=>decide (pos<=(r.1:Int))):=by rw[h];exact List.mem_cons_self
   have s:=(List.mem_filter.1 hm).2;simp only[Φ] at s;rw[List.filter_cons_of_neg (by simp;omega)];exact z0u o h
def q2f(C:Cks)(pos:Int):List (Nat×List UInt8):=(q0f 0 C).filter (fun r=>decide (pos<=(r.1:Int)))
theorem z4v(C:Cks)(pos:Int):q3m C pos=(q2f C pos).head? :=by unfold q3m q2f;rw[List.head?_filter]
theorem z4w(h:okC C){a:Nat}{p:List UInt8}{R:List (Nat×List UInt8)}(e:q2f C pos=(a,p)::R):q2f C ((a:Int)+(p.length:Int)+12)=R:=
 z0u (q6A C 0 h.size) e
theorem z6d(h:okC C){r:Nat×List UInt8}(l:r∈q2f C pos):r.1<4096*200/\r.2.length<=2000:=by
 have o:=(List.mem_filter.1 l).1;have u:=q5z C 0 h.size r o;have v:=h.few;refine⟨by omega,?_⟩;have m: ∀(ps:List (List UInt8)) (a:Nat),r∈q1u a ps->r.2∈ps:=by
  intro ps
  induction ps with
  |nil=>intro a h;cases h
  | cons p t ih=>
   intro a h;rw[q1u] at h;rcases List.mem_cons.1 h with rfl|h
   ·exact List.mem_cons_self
   ·exact List.mem_cons_of_mem _ (ih _ h)
 have d: ∀(D:Cks) (b:Nat),r∈q0f b D-> ∃ps∈D,r.2∈ps:=by
  intro D
  induction D with
  |nil=>intro b h;cases h
  | cons ps t ih=>
   intro b h;rw[q0f] at h;rcases List.mem_append.1 h with h|h
   ·exact⟨ps,List.mem_cons_self,m ps _ h⟩
   ·obtain⟨q,hq,l⟩:=ih _ h
    exact⟨q,List.mem_cons_of_mem _ hq,l⟩
 obtain⟨ps,j,s⟩:=d C 0 o;exact h.pay ps j _ s
def q2n(sd:Int)(pos:Nat)(b:Bt)(i:Nat):En:=(q2g sd b.st,(b.fi:Int)+(i:Int),(pos:Int))
def q0i(sd:Int)(pos:Nat)(b:Bt)(k:Nat):List En:=(List.range k).map (q2n sd pos b)
theorem q7d(sd:Int)(pos:Nat)(b:Bt)(k:Nat):q0i sd pos b (k+1)=q0i sd pos b k++[q2n sd pos b k]:=by unfold q0i;rw[List.range_succ,List.map_append];rfl
theorem q4E(sd:Int)(pos:Nat)(b:Bt)(k:Nat):(q0i sd pos b k).length=k:=by unfold q0i;simp
def z1o(sd:Int):List (Nat×List UInt8)->Option (List En)
 |[]=>some []
 |(a,p)::r=>(q5G p).bind fun b=>(z1o sd r).map fun l=>q0i sd a b b.ev.length++l
def q1Q(es:List En)(L:List En):List En:=es.foldl (fun L e=>q3o e L) L
theorem q3c(a b L:List En):q1Q (a++b) L=q1Q b (q1Q a L):=by unfold q1Q;rw[List.foldl_append]
theorem q7B : ∀(es L:List En),(q1Q es L).length<=L.length+es.length
 |[],L=>ι _
 | e::t,L=>by
  have h:=q7B t (q3o e L);have:=@z5o e L;unfold q1Q at*;rw[List.foldl_cons,χ];omega
theorem z8w{s:List UInt8}{b:Bt}(h:q5G s=some b):q0h b.st (b.fi:Int) b.ev=0:=by
 unfold q5G at h
 split at h
 ·split at h
  ·split at h
   ·rename_i hc
    injection h with h;subst h;exact hc
   ·cases h
  ·cases h
 ·cases h
theorem z3Z(sd:Int){pos:Nat}{b:Bt}(h:q0h b.st (b.fi:Int) b.ev=0)(l:k<b.ev.length)(m:pos<4096*200):q3f (q2n sd pos b k)=true:=by
 obtain⟨_,_,_,o,r,s,_⟩:=q1B h;obtain⟨d,j⟩:=z2N sd b.st;rw[okEn_iff];unfold q2n;simp only;omega
theorem z6T{e:Ev}(h:y0F e):(evB e).length<=300:=by
 obtain⟨_,b,d⟩:=q2c h.1;unfold evB;rw[q2r (by omega),q2r (by omega)];simp[q0H];omega
theorem z6U(L:List Ev)(k:Nat)(h:k<L.length):((L.take (k+1)).map evB).flatten=((L.take k).map evB).flatten++evB (L.getD k ev0):=by
 rw[List.take_succ_eq_append_getElem h,List.map_append,List.flatten_append,δ,γ h];simp only[List.map_cons,List.map_nil,List.flatten_cons,List.flatten_nil,List.append_nil,Option.getD_some]
theorem y1w{b:Bt}(w:World)(j:Evs w ao n cap b.ev)(x:z5g b):
  Calls Tryz.prog 87 #[.agg #[.string ⟨b.st.toArray⟩,.int .i64 (b.fi:Int),.slice ao n cap]] w fun e w'=>e= .returned (.tuple #[.string ⟨(btB b).toArray⟩,.int .i64 0])/\Ext w w':=by
 obtain⟨p1,p2,p3,p4,p5,p6,p7⟩:=q1B x.1;have u: ∀e∈b.ev,y0F e:=fun e he=>⟨q5o p7 e he,x.2 e he⟩
 have I:q3g b.ev:=fun e he=>by
  obtain⟨_,h1,h2⟩:=q2c (u e he).1;exact⟨by omega,by omega⟩
 have d:=j.len;obtain⟨st,fi,L⟩:=b;simp only at p1 p2 p3 p4 p5 p6 p7 u I d j;have b1:=j.fits;have b2:=j.bound;have X:q0h st (fi:Int) L=0:=x.1;have HC:=η (fun W (h:Evs W ao n cap L)=>q9Q st (fi:Int) W h (by omega) I);rw[X] at HC;have HT:=η (fun W=>z7q st W (by omega));have Q:=η (fun W=>z5N (fi:Int) 8 8 W rfl (by omega) (by omega) (by omega) (by omega));have O:=η (fun W=>z5N (n:Int) 1 1 W rfl (by omega) (by omega) (by omega) (by omega));rw[Int.toNat_natCast] at Q O;have l1:(q2y st).length<=50:=by rw[q2r (by omega)];simp[q0H];omega
 have l8:(be 8 fi).length<=8:=by rw[q0H];omega
 have l0:(be 1 n).length<=8:=by rw[q0H];omega
 have HE:Hd (btB ⟨st,fi,L⟩=((q2y st++be 8 fi)++be 1 n)++((L.take n).map evB).flatten):=η (by
  rw[<-d,List.take_length];unfold btB;simp)
 have e0:=η u;have b0:=η d;have F:=η j;have qf:IntKind.u64.wrap (fi:Int)=(fi:Int):=by rw[IntKind.wrap_u64];omega
 have qn:IntKind.u64.wrap (n:Int)=(n:Int):=by rw[IntKind.wrap_u64];omega
 have j0:n<=8:=by omega
 have HX:=η (q0B w (.cells #[.string ⟨st.toArray⟩,.int .i64 (fi:Int),.slice ao n cap] 160));have J:=η (Blk.new w 160 #[.string ⟨st.toArray⟩,.int .i64 (fi:Int),.slice ao n cap]);have s:=J.o;have k0:(w.alloc (.cells #[.string ⟨st.toArray⟩,.int .i64 (fi:Int),.slice ao n cap] 160)).cell? ⟨w.heap.size,0,none⟩=some (.string ⟨st.toArray⟩):=s.cell 0;have k1:(w.alloc (.cells #[.string ⟨st.toArray⟩,.int .i64 (fi:Int),.slice ao n cap] 160)).cell? ⟨w.heap.size,1,none⟩=some (.int .i64 (fi:Int)):=s.cell 1;have k2:(w.alloc (.cells #[.string ⟨st.toArray⟩,.int .i64 (fi:Int),.slice ao n cap] 160)).cell? ⟨w.heap.size,2,none⟩=some (.slice ao n cap):=s.cell 2;generalize q2y st=A at*;generalize be 8 fi=D at*;generalize be 1 n=C at*;have m0:=q4I;clear s x p1 p2 p3 p4 p5 p6 p7 u I d j X;go_enter Tryz.func87,Tryz.ntmps87;go_wp2_with fail;refine(HC.o _ (F.o.ext HX.o)).mono ?_;rintro e w1 ⟨rfl,j⟩;have G:=η (HX.o.trans j);have l:=J.o.ext j;generalize w.heap.size=q at*;have S:w1.cell? ⟨q,0,none⟩=some (.string ⟨st.toArray⟩):=l.cell 0;have U:w1.cell? ⟨q,1,none⟩=some (.int .i64 (fi:Int)):=l.cell 1;have V:w1.cell? ⟨q,2,none⟩=some (.slice ao n cap):=l.cell 2;have u0:=q0D S;have u1:=q0D U;have u2:=q0D V;have a0:=η l;have q1:¬(9223372036854775807<A.length+D.length):=by omega
 have q2:¬(9223372036854775807<(A++D).length+C.length):=by rw[θ];omega
 have q3:¬(9223372036854775807<A.length+D.length+C.length):=by omega
 clear j l k0 k1 k2;go_wp2_with fail;refine q0E (by kernel_rfl) (by kernel_rfl) ?_
 repeat (go_big_quiet_step (fail))
 go_big_quiet_step (exact Calls.quiet_ext (HT.o _))
 repeat (go_big_quiet_step (fail))
 go_big_quiet_step (exact Calls.quiet_ext (Q.o _))
 repeat (go_big_quiet_step (fail))
 go_big_quiet_step (exact Calls.quiet_ext (O.o _))
 repeat (go_big_quiet_step (fail))
 refine wpQuiet_nil ?_;intro w2 hw;have R:=η (G.o.trans hw);have m:=a0.o.ext hw;have d0:w2.cell? ⟨q,0,none⟩=some (.string ⟨st.toArray⟩):=m.cell 0;have d1:w2.cell? ⟨q,1,none⟩=some (.int .i64 (fi:Int)):=m.cell 1;have d2:w2.cell? ⟨q,2,none⟩=some (.slice ao n cap):=m.cell 2;clear hw m S U V u0 u1 u2;have h0:=η (F.o.ext R.o);go_wp2_with fail
 go_loopw [5,30] (fun e i W=> ∃k:Nat,∃T:List UInt8,k<=n/\i= .int .i64 (k:Int)/\e= .string ⟨T.toArray⟩/\T=((A++D)++C)++((L.take k).map evB).flatten/\T.length<=100+300*k/\Ext w W) (fun _ i _=>n-(intOf i).toNat)
 case atStart=>exact⟨0,_,υ _,rfl,(by first|rfl|(rw[q3d,q3d])),by simp,by simp;omega,R.o⟩
 case round=>
  obtain⟨k,T,hk,rfl,rfl,hT,i0,hb⟩:=hrel;have HT:=η hT;have M:=η hb;by_cases Z:k<n
  ·have g0:decide ((k:Int)<(n:Int))=true:=ζ (by omega)
   obtain⟨b,off,rfl,S,U,V⟩:=(F.o.ext hb).at Z;have v:k<L.length:=by rw[b0.o];exact Z
   have E:L.getD k ev0∈L:=by rw[δ,γ v];exact List.getElem_mem v
   have HS:=η (z6U L k v);have G:=η (q0B wr (.cells #[.string ⟨(L.getD k ev0).ty.toArray⟩,.string ⟨(L.getD k ev0).da.toArray⟩,.float .f64 (L.getD k ev0).we] 67));have q4:IntKind.i64.wrap ((k:Int)+1)=(k:Int)+1:=by rw[ν];omega
   have he:=e0.o _ E;generalize L.getD k ev0=y at*;obtain⟨y1,y2,y3⟩:=y;have hs:=z6T he;have N:=η (fun W=>z8j ⟨y1,y2,y3⟩ W he);have B:Hd (∀W,Calls Tryz.prog 126 #[.agg #[.string ⟨y1.toArray⟩,.string ⟨y2.toArray⟩,.float .f64 y3]] W fun r w'=>r= .returned (.string ⟨(evB ⟨y1,y2,y3⟩).toArray⟩)/\Ext W w'):=N;obtain⟨Y,hY⟩: ∃Y,evB ⟨y1,y2,y3⟩=Y:=⟨_,rfl⟩
   rw[hY] at B hs HS;simp only at S U V;have u0:=q0D S;have u1:=q0D U;have u2:=q0D V;have q5:¬(9223372036854775807<T.length+Y.length):=by omega
   clear v E hb hT N he hY;go_wp2_with fail;refine(B.o _).mono ?_;rintro e w3 ⟨rfl,j⟩;have f0:=η ((M.o.trans G.o).trans j);clear j;go_wp2_with fail
   go_roundw
   case rel=>exact⟨k+1,T++Y,by omega,by go_num,(by first|rfl|(rw[q3d])),by rw[HS.o,HT.o,List.append_assoc],by rw[θ];omega,f0.o⟩
   case measure=>simp[intOf];omega
  ·obtain rfl:k=n:=by omega
   have g0:decide ((k:Int)<(k:Int))=false:=ε (by omega);have HF:Hd (btB ⟨st,fi,L⟩=T):=η (by rw[HE.o,hT]);clear hb hT;go_wp2_with fail;go_ret2;exact⟨by rw[HF.o];rfl,M.o⟩
theorem z5l{A:List α}{d:α}(h:i<A.length):A.getD i d∈A:=by rw[δ,γ h];exact List.getElem_mem h
theorem z5k{p:α->Bool}{A:List α}(h:k<A.length)(b:(A.take k).any p=false)(d:α):(A.take (k+1)).any p=p (A.getD k d):=by
 rw[List.take_succ_eq_append_getElem h,List.any_append,b,δ,γ h];simp
end
section
open Go.RowKit Go.Shelf
end
section
open Go.RowKit
structure Ac3 where
 kd:Int
 wh:Int
 n:Int
 tx:List UInt8
def a30 :Ac3:=⟨0,0,0,[]⟩
def a3c(x:Ac3):List Value:=[.int .u8 x.kd,.int .u8 x.wh,.int .i64 x.n,.string ⟨x.tx.toArray⟩]
def y1p(A:List Ac3):List Value:=(A.map a3c).flatten
theorem q7K(x:Ac3)(A:List Ac3):y1p (x::A)=a3c x++y1p A:=rfl
theorem z1r(A:List Ac3):(y1p A).length=A.length*4:=by
 induction A with
 |nil=>rfl
 |cons x A ih=>rw[q7K,θ,ih];simp[a3c];omega
theorem q6K : ∀(A:List Ac3) (i j:Nat),i<A.length->j<4->(y1p A)[i*4+j]? =(a3c (A.getD i a30))[j]?
 |[],i,j,h,_=>by simp at h
 | k::A,0,j,_,hj=>by
  rw[q7K,List.getElem?_append_left (by simp[a3c];omega)];simp
 | k::A,i+1,j,h,hj=>by
  rw[q7K,List.getElem?_append_right (by simp[a3c];omega),show(i+1)*4+j-(a3c k).length=i*4+j from by simp[a3c];omega,q6K A i j (by simpa using h) hj];simp
structure y2y(x:Ac3):Prop where
 k0:0<=x.kd
 k1:x.kd<=255
 w0:0<=x.wh
 w1:x.wh<=255
 n0: -9223372036854775808<=x.n
 n1:x.n<=9223372036854775807
 t:x.tx.length<=9223372036854775807
structure As3(w:World)(ao:Option Addr)(n cap:Nat)(A:List Ac3):Prop where
 len:A.length=n
 fits:n<=cap
 bound:cap<=9223372036854775807
 nil:ao=none->cap=0
 rd:Rd w ao (y1p A)
 ok: ∀x∈A,y2y x
theorem As3.ext{A:List Ac3}(h:As3 w ao n cap A)(k:Ext w w'):As3 w' ao n cap A:=⟨h.len,h.fits,h.bound,h.nil,h.rd.ext k,h.ok⟩
theorem As3.at{A:List Ac3}(h:As3 w ao n cap A)(x:i<n):
  ∃b off,ao=some ⟨b,off,none⟩/\w.cell? ⟨b,off+i*4,none⟩=some (.int .u8 (A.getD i a30).kd)/\w.cell? ⟨b,off+i*4+1,none⟩=some (.int .u8 (A.getD i a30).wh)/\w.cell? ⟨b,off+i*4+2,none⟩=some (.int .i64 (A.getD i a30).n)/\w.cell? ⟨b,off+i*4+3,none⟩=some (.string ⟨(A.getD i a30).tx.toArray⟩)/\y2y (A.getD i a30):=by
 have y:=h.len;have hm:A.getD i a30∈A:=z5l (by omega);have k0:=q6K A i 0 (by omega) (by decide);have k1:=q6K A i 1 (by omega) (by decide);have u:=q6K A i 2 (by omega) (by decide);have v:=q6K A i 3 (by omega) (by decide);obtain⟨b,off,rfl,m⟩:=h.rd _ _ k0;obtain⟨_,_,d,o⟩:=h.rd _ _ k1
 cases d;obtain⟨_,_,j,r⟩:=h.rd _ _ u
 cases j;obtain⟨_,_,l,s⟩:=h.rd _ _ v
 cases l;exact⟨b,off,rfl,m,o,r,s,h.ok _ hm⟩
def z3l(x:Ac3):Bool:=decide (100<x.tx.length)
def q6k(A:List Ac3)(most:Int):Bool:=A.any z3l||decide (most<(A.length:Int))
theorem z5I{A:List Ac3}{most:Nat}(h:q6k A (most:Int)=false):A.length<=most/\ ∀x∈A,x.tx.length<=100:=by
 unfold q6k at h;rw[Bool.or_eq_false_iff] at h;refine⟨by have:=of_decide_eq_false h.2;omega,fun x b=>?_⟩;have:=List.any_eq_false.1 h.1 x b;unfold z3l at this;simp at this;exact this
theorem z6l{A:List Ac3}(most:Int)(w:World)(r:As3 w ao n cap A):
  Calls Tryz.prog 45 #[.slice ao n cap,.int .i64 most] w fun e w'=>e= .returned (.bool (q6k A most))/\Ext w w':=by
 have D:=η r;have d:=r.len;have b1:=r.fits;have b2:=r.bound;clear r;go_enter Tryz.func45,Tryz.ntmps45;go_wp2_with fail
 go_loopw [5] (fun i W=> ∃k:Nat,k<=n/\i= .int .i64 (k:Int)/\Hd ((A.take k).any z3l=false)/\W=w) (fun i _=>n-(intOf i).toNat)
 case atStart=>exact⟨0,υ _,rfl,η (by simp),rfl⟩
 case round=>
  obtain⟨k,Q,rfl,b,rfl⟩:=hrel;by_cases B:k<n
  ·have M:decide ((k:Int)<(n:Int))=true:=ζ (by omega)
   have N:(k:Int)<(n:Int):=by omega
   have R:IntKind.i64.wrap ((k:Int)+1)=(k:Int)+1:=by rw[ν];omega
   obtain⟨O,off,rfl,E,F,G,I,j⟩:=D.o.at B;have m:=z5k (k:=k) (A:=A) (by omega) b.o a30;have v:=η m;have u:Hd (z3l (A.getD k a30)=true->q6k A most=true):=η fun h=>by
    unfold q6k;rw[Bool.or_eq_true]
    left
    exact List.any_eq_true.2 ⟨_,z5l (by omega),h⟩
   generalize A.getD k a30=x at*;obtain⟨kd,wh,S,tx⟩:=x;have J:=j.t;simp only at E F G I J;clear m j;by_cases l:100<tx.length
   ·have y:decide ((100:Int)<(tx.length:Int))=true:=ζ (by omega)
    have s:=η (u.o (ζ l));go_wp2_with fail
    (try rw[Exit.noGoto_ret])
    go_ret;exact⟨by rw[s.o];rfl,Ext.refl _⟩
   have y:decide ((100:Int)<(tx.length:Int))=false:=ε (by omega);go_wp2_with fail
   go_roundw
   case rel=>exact⟨k+1,by omega,by go_num,η (by rw[v.o];exact ε l),trivial⟩
   case measure=>simp[intOf];omega
  ·obtain rfl:k=n:=by omega
   have M:decide ((k:Int)<(k:Int))=false:=ε (by omega)
   have s:Hd (q6k A most=decide (most<(k:Int))):=η (by
    unfold q6k;have:=b.o;rw[Δ (by omega)] at this
    rw[this,Bool.false_or,d])
   go_wp2_with fail;go_ret;exact⟨by rw[s.o];rfl,Ext.refl _⟩
end
end Go.Proofs.YtfiibpgoplcgkaaGreatDoor
