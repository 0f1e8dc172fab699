/- Walks. -/
import Derived.Test.YtfiibpgoplcgkaaGreatDoorG21SF
import Derived.Test.YtfiibpgoplcgkaaGreatDoorG23SF
import Derived.Test.YtfiibpgoplcgkaaGreatDoorG22SF
import Derived.Test.YtfiibpgoplcgkaaGreatDoorG15SF
set_option linter.unusedVariables false
set_option linter.unusedSimpArgs false
set_option maxRecDepth 100000
set_option maxHeartbeats 6400000
namespace Go.Proofs.YtfiibpgoplcgkaaGreatDoor
variable {w w1:World}{ao:Option Addr}{n cap q:Nat}{L:List Ev}{pos:Int}{C:Cks}
section
open Go.RowKit
def y1e(r:Option (Ev×List UInt8)):Value:=match r with
 |some (e,r)=> .tuple #[evV e,.string ⟨r.toArray⟩,.bool true]
 |none=> .tuple #[evV ev0,.string ⟨#[]⟩,.bool false]
theorem q3k(W:World)(a:Addr)(b:Nat)(m:Go.Mode):(store a (.float .f64 b) m).run Tryz.prog W=stored Tryz.prog W a (.float .f64 b) m:=run_store _ _ _ _ _ rfl
theorem q2B(h:Ext w w1)(a b c:Value):Ext w (((w1.setCell ⟨w.heap.size,0,none⟩ a).setCell ⟨w.heap.size,1,none⟩ b).setCell ⟨w.heap.size,2,none⟩ c):=
 ((h.setCell (p:=⟨w.heap.size,0,none⟩) (ι _) a).setCell (p:=⟨w.heap.size,1,none⟩) (ι _) b).setCell (p:=⟨w.heap.size,2,none⟩) (ι _) c
theorem z8y(s:List UInt8)(w:World)(hl:s.length<=4611686018427387903):
  Calls Tryz.prog 133 #[.string ⟨s.toArray⟩] w fun e w'=>e= .returned (y1e (rdE s))/\Ext w w':=by
 have r:=η (fun W=>z1S s W hl);have u:=η (fun W=>z1S (rdR s) W (by have:=q7I s;omega));have r0:=z2q s;have s0:=z2q (rdR s);have t0:=q7I s;have h0:=q7I (rdR s);have N:=η (fun b W=>q8e (rdT s) (rdT (rdR s)) .f64 b W (by omega) (by omega));have HX:=η (q0B w (.cells #[.string ⟨#[]⟩,.string ⟨#[]⟩,.float .f64 0] 67));have J:=η (Blk.new w 67 #[.string ⟨#[]⟩,.string ⟨#[]⟩,.float .f64 0])
 have x:Hd (∀(W:World) (a b c:Value),Blk W w.heap.size 67 #[a,b,c]-> ∀a' b',W.cell? ⟨w.heap.size,0,none⟩=some a/\W.cell? ⟨w.heap.size,1,none⟩=some b/\W.cell? ⟨w.heap.size,2,none⟩=some c/\
   W.frozen? ⟨w.heap.size,0,none⟩=false/\W.frozen? ⟨w.heap.size,1,none⟩=false/\W.frozen? ⟨w.heap.size,2,none⟩=false/\((W.setCell ⟨w.heap.size,0,none⟩ a').setCell ⟨w.heap.size,1,none⟩ b').frozen? ⟨w.heap.size,2,none⟩=false/\
   ((W.setCell ⟨w.heap.size,0,none⟩ a').setCell ⟨w.heap.size,1,none⟩ b').cell? ⟨w.heap.size,2,none⟩=some c):=η fun W a b c h a' b'=>by
  have Q:=(h.set 0 a').set 1 b';exact⟨h.cell 0,h.cell 1,h.cell 2,h.free 0,h.free 1,h.free 2,Q.free 2,Q.cell 2⟩
 have u0:=q3k;by_cases h1:q7c s=true
 case neg=>
  rw[Bool.not_eq_true] at h1;have S:Hd (rdE s=none):=η (by unfold rdE;rw[h1];simp);rw[h1] at r;go_enter Tryz.func133,Tryz.ntmps133;go_wp2_with fail;refine(r.o _).mono ?_;rintro e w1 ⟨rfl,d⟩;have l:=η (J.o.ext d);have m:=η (HX.o.trans d);clear d;obtain⟨U,V,X,f0,f1,f2,g2,Z⟩:=x.o w1 _ _ _ l.o (.string ⟨#[]⟩) (.string ⟨#[]⟩);go_wp2_with fail
  ((try simp only[Exit.inBlock,Exit.then]);refine bodyPost_ret (v:= .tuple #[.agg #[.string ⟨#[]⟩,.string ⟨#[]⟩,.float .f64 0],.string ⟨#[]⟩,.bool false]) (by rw[q0O rfl];go_simp) rfl ?_)
  exact⟨by rw[S.o];rfl,q2B m.o _ _ _⟩
 rw[h1] at r;by_cases Q:q7c (rdR s)=true
 case neg=>
  rw[Bool.not_eq_true] at Q;have S:Hd (rdE s=none):=η (by unfold rdE;rw[Q];simp);rw[Q] at u;go_enter Tryz.func133,Tryz.ntmps133;go_wp2_with fail;refine(r.o _).mono ?_;rintro e w1 ⟨rfl,d⟩;have l:=η (J.o.ext d);have m:=η (HX.o.trans d);clear d;go_wp2_with fail;refine(u.o _).mono ?_;rintro e w2 ⟨rfl,d⟩;have y:=η (l.o.ext d);have B:=η (m.o.trans d);clear d;obtain⟨U,V,X,f0,f1,f2,g2,Z⟩:=x.o w2 _ _ _ y.o (.string ⟨#[]⟩) (.string ⟨#[]⟩);go_wp2_with fail
  ((try simp only[Exit.inBlock,Exit.then]);refine bodyPost_ret (v:= .tuple #[.agg #[.string ⟨#[]⟩,.string ⟨#[]⟩,.float .f64 0],.string ⟨#[]⟩,.bool false]) (by rw[q0O rfl];go_simp) rfl ?_)
  exact⟨by rw[S.o];rfl,q2B B.o _ _ _⟩
 rw[Q] at u;obtain⟨R,hR⟩: ∃R,rdR (rdR s)=R:=⟨_,rfl⟩
 rw[hR] at u h0;obtain⟨D,G⟩: ∃T,rdT s=T:=⟨_,rfl⟩
 obtain⟨F,I⟩: ∃T,rdT (rdR s)=T:=⟨_,rfl⟩
 by_cases h3:R.length<8
 ·have S:Hd (rdE s=none):=η (by unfold rdE;rw[κ (by rw[hR];omega)])
  have hd:decide ((R.length:Int)<8)=true:=ζ (by omega);go_enter Tryz.func133,Tryz.ntmps133;go_wp2_with fail;refine(r.o _).mono ?_;rintro e w1 ⟨rfl,d⟩;have l:=η (J.o.ext d);have m:=η (HX.o.trans d);clear d;go_wp2_with fail;refine(u.o _).mono ?_;rintro e w2 ⟨rfl,d⟩;have y:=η (l.o.ext d);have B:=η (m.o.trans d);clear d;obtain⟨U,V,X,f0,f1,f2,g2,Z⟩:=x.o w2 _ _ _ y.o (.string ⟨#[]⟩) (.string ⟨#[]⟩);go_wp2_with fail
  ((try simp only[Exit.inBlock,Exit.then]);refine bodyPost_ret (v:= .tuple #[.agg #[.string ⟨#[]⟩,.string ⟨#[]⟩,.float .f64 0],.string ⟨#[]⟩,.bool false]) (by rw[q0O rfl];go_simp) rfl ?_)
  exact⟨by rw[S.o];rfl,q2B B.o _ _ _⟩
 have hd:decide ((R.length:Int)<8)=false:=ε (by omega);have s1:=q4X R 8 8 rfl (by omega);have s2:=q2u R 8 8 rfl (by omega);have l8:(R.take 8).length=8:=by rw[Θ];omega
 have HG:=η (fun W=>q8n (R.take 8) W (by omega));rw[show(R.take 8).take 8=R.take 8 from Δ (by omega)] at HG;have e0:=q1v (R.take 8);rw[l8] at e0;obtain⟨b,hb⟩: ∃b,q1G (R.take 8)=b:=⟨_,rfl⟩
 rw[hb] at HG;have q0:=q9t b;rw[G,I] at N;rw[G] at r;rw[I] at u;by_cases h4:q0i D F=0
 case neg=>
  have S:Hd (rdE s=none):=η (by unfold rdE;rw[κ (by rw[G,I];exact fun h=>h4 h.2.2.2)]);have g0:(q0i D F !=0)=true:=by simpa using h4
  obtain⟨E,hE⟩: ∃E,q0i D F=E:=⟨_,rfl⟩
  rw[hE] at N g0;clear hE hb e0 G I hR h1 Q h3 h4;go_enter Tryz.func133,Tryz.ntmps133;go_wp2_with fail;refine(r.o _).mono ?_;rintro e w1 ⟨rfl,d⟩;have l:=η (J.o.ext d);have m:=η (HX.o.trans d);clear d;go_wp2_with fail;refine(u.o _).mono ?_;rintro e w2 ⟨rfl,d⟩;have y:=η (l.o.ext d);have B:=η (m.o.trans d);clear d;go_wp2_with fail;refine(HG.o _).mono ?_;rintro e w3 ⟨rfl,d⟩;have M:=η (y.o.ext d);have b0:=η (B.o.trans d);clear d;obtain⟨U,V,X,f0,f1,f2,g2,Z⟩:=x.o w3 _ _ _ M.o (.string ⟨D.toArray⟩) (.string ⟨F.toArray⟩);go_wp2_with fail;refine(N.o b _).mono ?_;rintro e w4 ⟨rfl,d⟩;have a0:=η ((((M.o.set 0 (.string ⟨D.toArray⟩)).set 1 (.string ⟨F.toArray⟩)).set 2 (.float .f64 b)).ext d);have d0:=η ((q2B b0.o (.string ⟨D.toArray⟩) (.string ⟨F.toArray⟩) (.float .f64 b)).trans d);clear d U V X f0 f1 f2 g2 Z;obtain⟨U,V,X,f0,f1,f2,g2,Z⟩:=x.o w4 _ _ _ a0.o (.string ⟨#[]⟩) (.string ⟨#[]⟩);go_wp2_with fail
  ((try simp only[Exit.inBlock,Exit.then]);refine bodyPost_ret (v:= .tuple #[.agg #[.string ⟨#[]⟩,.string ⟨#[]⟩,.float .f64 0],.string ⟨#[]⟩,.bool false]) (by rw[q0O rfl];go_simp) rfl ?_)
  exact⟨by rw[S.o];rfl,q2B d0.o _ _ _⟩
 have S:Hd (rdE s=some (⟨D,F,b⟩,R.drop 8)):=η (by unfold rdE;rw[G,I,hR,ξ ⟨h1,Q,by omega,h4⟩,hb]);rw[h4] at N;clear hb e0 G I hR h1 Q h3 h4;go_enter Tryz.func133,Tryz.ntmps133;go_wp2_with fail;refine(r.o _).mono ?_;rintro e w1 ⟨rfl,d⟩;have l:=η (J.o.ext d);have m:=η (HX.o.trans d);clear d;go_wp2_with fail;refine(u.o _).mono ?_;rintro e w2 ⟨rfl,d⟩;have y:=η (l.o.ext d);have B:=η (m.o.trans d);clear d;go_wp2_with fail;refine(HG.o _).mono ?_;rintro e w3 ⟨rfl,d⟩;have M:=η (y.o.ext d);have b0:=η (B.o.trans d);clear d;obtain⟨U,V,X,f0,f1,f2,g2,Z⟩:=x.o w3 _ _ _ M.o (.string ⟨D.toArray⟩) (.string ⟨F.toArray⟩);go_wp2_with fail;refine(N.o b _).mono ?_;rintro e w4 ⟨rfl,d⟩;have Y:=η ((((M.o.set 0 (.string ⟨D.toArray⟩)).set 1 (.string ⟨F.toArray⟩)).set 2 (.float .f64 b)).ext d);have a0:=η (Y.o.ext (Ext.refl w4).drew);have d0:=η (((q2B b0.o (.string ⟨D.toArray⟩) (.string ⟨F.toArray⟩) (.float .f64 b)).trans d).drew);clear d U V X f0 f1 f2 g2 Z;obtain⟨U,V,X,f0,f1,f2,g2,Z⟩:=x.o w4.drew _ _ _ a0.o (.string ⟨D.toArray⟩) (.string ⟨F.toArray⟩);obtain⟨i0,j0,k0,m0,n0,o0,p0,l0⟩:=x.o w4 _ _ _ Y.o (.string ⟨D.toArray⟩) (.string ⟨F.toArray⟩);go_wp2_with fail;refine q1M (fun W=>W.cell? ⟨w.heap.size,0,none⟩=some (.string ⟨D.toArray⟩)/\W.cell? ⟨w.heap.size,1,none⟩=some (.string ⟨F.toArray⟩)/\W.cell? ⟨w.heap.size,2,none⟩=some (.float .f64 b)) 3 (by kernel_rfl) ⟨U,V,X⟩ (fun j=>?_);refine q7a (i:=0) (v:=?_) rfl (by kernel_rfl) (fun _ _ _ h=>h) (Or.inl ⟨by rfl,?_⟩) j (fun j=>?_)
 rotate_left
 ·(intro w O;(try dsimp only at O);go_simp;try with_reducible rfl)
 try simp only[Act.put,π,ψ,ω]
 refine q0l (i:=1) (v:=?_) rfl (by kernel_rfl) (fun _ _ _ h=>h) (Or.inl ⟨by rfl,?_⟩) j (fun j=>?_)
 rotate_left
 ·(intro w O;(try dsimp only at O);go_simp;try with_reducible rfl)
 try simp only[Act.put,π,ψ,ω]
 refine q0l (i:=2) (v:=?_) rfl (by kernel_rfl) (fun _ _ _ h=>h) (Or.inl ⟨by rfl,?_⟩) j (fun j=>?_)
 rotate_left
 ·(intro w O;(try dsimp only at O);go_simp;try with_reducible rfl)
 try simp only[Act.put,π,ψ,ω]
 refine q1V (by kernel_rfl) ?_
 try simp only[List.drop_succ_cons,List.drop_zero]
 clear j;go_wp2_with fail
 ((try simp only[Exit.inBlock,Exit.then]);refine bodyPost_ret (v:= .tuple #[.agg #[.string ⟨D.toArray⟩,.string ⟨F.toArray⟩,.float .f64 b],.string ⟨(R.drop 8).toArray⟩,.bool true]) (by rw[q0O rfl];go_simp) rfl ?_)
 exact⟨by rw[S.o];rfl,q2B d0.o _ _ _⟩
theorem q9m(e:Ev)(L:List Ev):q5e (e::L)=evc e++q5e L:=rfl
theorem q8g : ∀(L:List Ev) (i j:Nat),i<L.length->j<3->(q5e L)[i*3+j]? =(evc (L.getD i ev0))[j]?
 |[],i,j,h,_=>by simp at h
 | k::L,0,j,_,hj=>by
  rw[q9m,List.getElem?_append_left (by simp[evc];omega)];simp
 | k::L,i+1,j,h,hj=>by
  rw[q9m,List.getElem?_append_right (by simp[evc];omega),show(i+1)*3+j-(evc k).length=i*3+j from by simp[evc];omega,q8g L i j (by simpa using h) hj];simp
structure Evs(w:World)(ao:Option Addr)(n cap:Nat)(L:List Ev):Prop where
 len:L.length=n
 fits:n<=cap
 bound:cap<=9223372036854775807
 nil:ao=none->cap=0
 rd:Rd w ao (q5e L)
theorem Evs.ext{w':World}(h:Evs w ao n cap L)(k:Ext w w'):Evs w' ao n cap L:=⟨h.len,h.fits,h.bound,h.nil,h.rd.ext k⟩
theorem Evs.at(h:Evs w ao n cap L){i:Nat}(v:i<n):
  ∃b off,ao=some ⟨b,off,none⟩/\w.cell? ⟨b,off+i*3,none⟩=some (.string ⟨(L.getD i ev0).ty.toArray⟩)/\w.cell? ⟨b,off+i*3+1,none⟩=some (.string ⟨(L.getD i ev0).da.toArray⟩)/\w.cell? ⟨b,off+i*3+2,none⟩=some (.float .f64 (L.getD i ev0).we):=by
 have x:=h.len;have r:=q8g L i 0 (by omega) (by decide);have s:=q8g L i 1 (by omega) (by decide);have u:=q8g L i 2 (by omega) (by decide);obtain⟨b,off,rfl,l⟩:=h.rd _ _ r;obtain⟨_,_,d,m⟩:=h.rd _ _ s
 cases d;obtain⟨_,_,j,o⟩:=h.rd _ _ u
 cases j;exact⟨b,off,rfl,l,m,o⟩
theorem Evs.of_own{B:Nat}{e:TypeId}{v:Value}(h:Own w B e 3 v L.length (q5e L)): ∃ao cap,v= .slice ao L.length cap/\Evs w ao L.length cap L:=by
 obtain⟨ao,cap,rfl,b,d,i,j⟩:=h.rd;exact⟨ao,cap,rfl,rfl,b,d,i,j⟩
theorem q9n : ∀(L:List Ev) (k:Nat),k<L.length->q6p (L.take k)=0->q6p L=if q0i (L.getD k ev0).ty (L.getD k ev0).da=0 then q6p (L.drop (k+1)) else q0i (L.getD k ev0).ty (L.getD k ev0).da
 |[],k,h,_=>by simp at h
 |e::L,0,_,_=>by simp[q6p]
 | e ::L,k+1,h,h0=>by
  rw[List.take_succ_cons,q6p] at h0
  split at h0
  ·rename_i b
   rw[q6p,ξ b,q9n L k (by simpa using h) h0];simp
  ·rename_i b;exact absurd h0 b
theorem q9o : ∀(L:List Ev) (e:Ev),q6p L=0->q6p (L++[e])=q0i e.ty e.da
 | [],e,_=>by
  rw[List.nil_append,q6p,q6p]
  split
  ·rename_i h;exact h.symm
  ·rfl
 | x::L,e,h=>by
  rw[q6p] at h
  split at h
  ·rename_i b;rw[List.cons_append,q6p,ξ b,q9o L e h]
  ·rename_i b;exact absurd h b
def q3p(L:List Ev):Prop:= ∀e∈L,e.ty.length<=4611686018427387903/\e.da.length<=4611686018427387903
theorem q8Y(st:List UInt8)(fi:Int)(w:World)(D:Evs w ao n cap L)(j0:st.length<=4611686018427387903)(hL:q3p L):
  Calls Tryz.prog 86 #[.agg #[.string ⟨st.toArray⟩,.int .i64 fi,.slice ao n cap]] w fun e w'=>e= .returned (.int .i64 (q0X st fi L))/\Ext w w':=by
 have b1:=D.fits;have b2:=D.bound;have d:=D.len;have G:=η (q0B w (.cells #[.string ⟨st.toArray⟩,.int .i64 fi,.slice ao n cap] 160));have m:=Blk.new w 160 #[.string ⟨st.toArray⟩,.int .i64 fi,.slice ao n cap];have HE:=η D;have HL:=η hL;clear D hL;by_cases x:st=[]
 ·subst x
  have s:Hd (q0X [] fi L=2):=η (by unfold q0X;rw[ξ (.inl rfl)]);clear m;go_enter Tryz.func86,Tryz.ntmps86;go_wp2_with fail
  go_step3
  go_wp2_with fail;rw[Exit.noGoto_ret];go_ret;exact⟨by rw[s.o];rfl,G.o⟩
 have d0:(st==[])=false:=beq_eq_false_iff_ne.2 x;by_cases F:n=0
 ·subst F
  have s:Hd (q0X st fi L=2):=η (by unfold q0X;rw[ξ (.inr (List.eq_nil_of_length_eq_zero d))]);clear m x d;go_enter Tryz.func86,Tryz.ntmps86;go_wp2_with fail
  go_step3
  go_wp2_with fail;rw[Exit.noGoto_ret];go_ret;exact⟨by rw[s.o];rfl,G.o⟩
 have e0:((n:Int)==0)=false:=by simpa using F
 have u:L≠[]:=fun e=>F (by rw[<-d,e];rfl)
 have j:¬(st=[]\/L=[]):=fun h=>h.elim x u
 by_cases h3:32<st.length
 ·have s:Hd (q0X st fi L=3):=η (by unfold q0X;rw[κ j,ξ (.inl h3)])
  have hd:decide ((32:Int)<(st.length:Int))=true:=ζ (by omega);clear m x F u j d;go_enter Tryz.func86,Tryz.ntmps86;go_wp2_with fail
  go_step3
  go_wp2_with fail;rw[Exit.noGoto_ret];go_ret;exact⟨by rw[s.o];rfl,G.o⟩
 by_cases h4:8<n
 ·have s:Hd (q0X st fi L=3):=η (by unfold q0X;rw[κ j,ξ (.inr (by omega))])
  have hd:decide ((8:Int)<(n:Int))=true:=ζ (by omega);clear m x F u j d;go_enter Tryz.func86,Tryz.ntmps86;go_wp2_with fail
  go_step3
  go_wp2_with fail;rw[Exit.noGoto_ret];go_ret;exact⟨by rw[s.o];rfl,G.o⟩
 have l:¬(32<st.length\/8<L.length):=by omega
 have g0:decide ((8:Int)<(n:Int))=false:=ε (by omega);have q0:IntKind.i64.wrap (1073741824-(n:Int))=1073741824-(n:Int):=by rw[ν];omega
 by_cases Q:fi<0\/1073741824-(n:Int)<fi
 ·have s:Hd (q0X st fi L=2):=η (by unfold q0X;rw[κ j,κ l,ξ (by rw[d];exact Q)])
  have v:decide (fi<0)=true\/(decide (fi<0)=false/\decide (1073741824-(n:Int)<fi)=true):=by
   by_cases h:fi<0
   ·exact .inl (ζ h)
   ·exact .inr ⟨ε h,ζ (by omega)⟩
  clear m x F u j l d Q;rcases v with v|⟨v,a0⟩
  all_goals
   go_enter Tryz.func86,Tryz.ntmps86;go_wp2_with fail
   go_step3
   go_wp2_with fail;rw[Exit.noGoto_ret];go_ret;exact⟨by rw[s.o];rfl,G.o⟩
 have v:decide (fi<0)=false:=ε (by omega);have a0:decide (1073741824-(n:Int)<fi)=false:=ε (by omega);have s:Hd (q0X st fi L=q6p L):=η (by unfold q0X;rw[κ j,κ l,κ (by rw[d];exact Q)]);have M:=η d;clear m x F u j l d Q;go_enter Tryz.func86,Tryz.ntmps86;go_wp2_with fail
 go_step3
 go_wp2_with fail
 go_step3
 go_wp2_with fail
 go_loopw [2,36] (fun e i W=> ∃k:Nat,k<=n/\i= .int .i64 (k:Int)/\e= .int .i64 0/\q6p (L.take k)=0/\Ext w W) (fun _ i _=>n-(intOf i).toNat)
 case atStart=>exact⟨0,υ _,rfl,rfl,rfl,G.o⟩
 case round=>
  obtain⟨k,hk,rfl,rfl,I,R⟩:=hrel;have J:=η R;by_cases O:k<n
  ·have b0:decide ((k:Int)<(n:Int))=true:=ζ (by omega)
   obtain⟨b,off,rfl,c0,c1,c2⟩:=(HE.o.ext R).at O;have r:k<L.length:=by rw[M.o];exact O
   have hT:L.take (k+1)=L.take k++[L.getD k ev0]:=by
    rw[List.take_succ_eq_append_getElem r];simp[List.getD,γ r]
   have hS:=q9o (L.take k) (L.getD k ev0) I;rw[<-hT] at hS;have HS:=η hS;have Y:=η (q9n L k r I);have B:L.getD k ev0∈L:=by rw[δ,γ r];exact List.getElem_mem r
   obtain⟨m1,m2⟩:=HL.o _ B;have Z:=η (q0B wr (.cells #[.string ⟨(L.getD k ev0).ty.toArray⟩,.string ⟨(L.getD k ev0).da.toArray⟩,.float .f64 (L.getD k ev0).we] 67));have q1:IntKind.i64.wrap ((k:Int)+1)=(k:Int)+1:=by rw[ν];omega
   generalize L.getD k ev0=y at*;obtain⟨S,U,y3⟩:=y;have V:=η (fun W=>q8e S U .f64 y3 W m1 m2);simp only at c0 c1 c2;have u0:=q0C c0;have u1:=q0C c1;have u2:=q0C c2;have i0:=q3k;clear hT r I hS B m1 m2 R;go_wp2_with fail;refine(V.o _).mono ?_;rintro e w1 ⟨rfl,D⟩;have N:=η ((J.o.trans Z.o).trans D);clear D;by_cases hc:q0i S U=0
   ·have X:Hd (q6p (L.take (k+1))=0):=η (by rw[HS.o];exact hc)
    rw[hc];go_wp2_with fail
    go_roundw
    case rel=>exact⟨k+1,by omega,by go_num,rfl,X.o,N.o⟩
    case measure=>simp[intOf];omega
   ·have E:Hd (q6p L=q0i S U):=η (by rw[Y.o,κ hc])
    have f0:(q0i S U==0)=false:=by simpa using hc
    clear hc;go_wp2_with fail;rw[Exit.noGoto_ret];go_ret;exact⟨by rw[s.o,E.o];rfl,N.o⟩
  ·obtain rfl:k=n:=by omega
   have b0:decide ((k:Int)<(k:Int))=false:=ε (by omega);have E:Hd (q6p L=0):=η (by rw[<-M.o,List.take_length] at I;exact I);clear I R;go_wp2_with fail;rw[Exit.noGoto_ret];go_ret;exact⟨by rw[s.o,E.o];rfl,J.o⟩
theorem q1j{fn:Func}{p u v x:Tmp}{ty:TypeId}(h:fn.results=#[.cell p ty,.tmp u,.tmp v,.tmp x])(tmps:Array Value)(P:Program)(w:World):
  (results fn tmps).run P w=
   ((asAddr (tmps.getD p undef)).run P w).andThen fun a w₁=>((loadVar ty a).run P w₁).andThen fun y b=> .ok (.tuple #[y,tmps.getD u undef,tmps.getD v undef,tmps.getD x undef]) b:=by
 simp only[results,h];simp[Sem.run_bind,Result.andThen]
def q6J(s:List UInt8):Value:=if q4k s=true then .tuple #[.agg #[.string ⟨(rdT s).toArray⟩,.int .i64 (q1G ((rdR s).take 8):Int),.slice none 0 0],.int .i64 (((rdR s).getD 8 0).toNat:Int),.string ⟨((rdR s).drop 9).toArray⟩,.bool true]
 else .tuple #[.agg #[.string ⟨#[]⟩,.int .i64 0,.slice none 0 0],.int .i64 0,.string ⟨#[]⟩,.bool false]
theorem z8g(s:List UInt8)(w:World)(hl:s.length<=4611686018427387903):
  Calls Tryz.prog 165 #[.string ⟨s.toArray⟩] w fun e w'=>e= .returned (q6J s)/\Ext w w':=by
 have r:=η (fun W=>z1S s W hl);have m0:=z2q s;have b0:=q7I s;have U:=η (q0B w (.cells #[.string ⟨#[]⟩,.int .i64 0,.slice none 0 0] 160));have B:=η (Blk.new w 160 #[.string ⟨#[]⟩,.int .i64 0,.slice none 0 0])
 have y:Hd (∀(W:World) (a b c:Value),Blk W w.heap.size 160 #[a,b,c]-> ∀V X,W.cell? ⟨w.heap.size,0,none⟩=some a/\W.cell? ⟨w.heap.size,1,none⟩=some b/\W.cell? ⟨w.heap.size,2,none⟩=some c/\
   W.frozen? ⟨w.heap.size,0,none⟩=false/\W.frozen? ⟨w.heap.size,1,none⟩=false/\W.frozen? ⟨w.heap.size,2,none⟩=false/\((W.setCell ⟨w.heap.size,0,none⟩ V).setCell ⟨w.heap.size,1,none⟩ X).frozen? ⟨w.heap.size,2,none⟩=false/\
   ((W.setCell ⟨w.heap.size,0,none⟩ V).setCell ⟨w.heap.size,1,none⟩ X).cell? ⟨w.heap.size,2,none⟩=some c):=η fun W a b c h V X=>by
  have h2:=(h.set 0 V).set 1 X;exact⟨h.cell 0,h.cell 1,h.cell 2,h.free 0,h.free 1,h.free 2,h2.free 2,h2.cell 2⟩
 by_cases J:q7c s=true
 case neg=>
  rw[Bool.not_eq_true] at J;have F:Hd (q6J s= .tuple #[.agg #[.string ⟨#[]⟩,.int .i64 0,.slice none 0 0],.int .i64 0,.string ⟨#[]⟩,.bool false]):=η (by unfold q6J q4k;rw[J];rfl);rw[J] at r;go_enter Tryz.func165,Tryz.ntmps165;go_wp2_with fail;refine(r.o _).mono ?_;rintro e w1 ⟨rfl,l⟩;have u:=η (B.o.ext l);have x:=η (U.o.trans l);clear l;obtain⟨Z,c1,c2,f0,f1,f2,g2,d2⟩:=y.o w1 _ _ _ u.o (.string ⟨#[]⟩) (.int .i64 0);go_wp2_with fail
  ((try simp only[Exit.inBlock,Exit.then]);refine bodyPost_ret (v:= .tuple #[.agg #[.string ⟨#[]⟩,.int .i64 0,.slice none 0 0],.int .i64 0,.string ⟨#[]⟩,.bool false]) (by rw[q1j rfl];go_simp) rfl ?_)
  exact⟨by rw[F.o],q2B x.o _ _ _⟩
 rw[J] at r;obtain⟨R,I⟩: ∃R,rdR s=R:=⟨_,rfl⟩
 rw[I] at r b0;by_cases h3:R.length<9
 ·have F:Hd (q6J s= .tuple #[.agg #[.string ⟨#[]⟩,.int .i64 0,.slice none 0 0],.int .i64 0,.string ⟨#[]⟩,.bool false]):=η (by unfold q6J q4k;rw[J,I,ε (by omega)];rfl)
  have hd:decide ((R.length:Int)<9)=true:=ζ (by omega);clear I;go_enter Tryz.func165,Tryz.ntmps165;go_wp2_with fail;refine(r.o _).mono ?_;rintro e w1 ⟨rfl,l⟩;have u:=η (B.o.ext l);have x:=η (U.o.trans l);clear l;obtain⟨Z,c1,c2,f0,f1,f2,g2,d2⟩:=y.o w1 _ _ _ u.o (.string ⟨#[]⟩) (.int .i64 0);go_wp2_with fail
  ((try simp only[Exit.inBlock,Exit.then]);refine bodyPost_ret (v:= .tuple #[.agg #[.string ⟨#[]⟩,.int .i64 0,.slice none 0 0],.int .i64 0,.string ⟨#[]⟩,.bool false]) (by rw[q1j rfl];go_simp) rfl ?_)
  exact⟨by rw[F.o],q2B x.o _ _ _⟩
 have hd:decide ((R.length:Int)<9)=false:=ε (by omega);have s1:=q4X R 8 8 rfl (by omega);have s2:=q2u R 9 9 rfl (by omega);have l8:(R.take 8).length=8:=by rw[Θ];omega
 have S:=η (fun W=>q8n (R.take 8) W (by omega));rw[show(R.take 8).take 8=R.take 8 from Δ (by omega)] at S;have E:=q1v (R.take 8);rw[l8] at E;obtain⟨b,O⟩: ∃b,q1G (R.take 8)=b:=⟨_,rfl⟩
 rw[O] at S E;by_cases h4:1073741824<b
 ·have F:Hd (q6J s= .tuple #[.agg #[.string ⟨#[]⟩,.int .i64 0,.slice none 0 0],.int .i64 0,.string ⟨#[]⟩,.bool false]):=η (by unfold q6J q4k;rw[I,O,ε (p:=b<=1073741824) (by omega),Bool.and_false];rfl)
  have a0:decide ((1073741824:Int)<(b:Int))=true:=ζ (by omega);clear O E I h3;go_enter Tryz.func165,Tryz.ntmps165;go_wp2_with fail;refine(r.o _).mono ?_;rintro e w1 ⟨rfl,l⟩;have u:=η (B.o.ext l);have x:=η (U.o.trans l);clear l;go_wp2_with fail;refine(S.o _).mono ?_;rintro e Q ⟨rfl,l⟩;have D:=η (u.o.ext l);have G:=η (x.o.trans l);clear l;obtain⟨Z,c1,c2,f0,f1,f2,g2,d2⟩:=y.o Q _ _ _ D.o (.string ⟨#[]⟩) (.int .i64 0);go_wp2_with fail
  ((try simp only[Exit.inBlock,Exit.then]);refine bodyPost_ret (v:= .tuple #[.agg #[.string ⟨#[]⟩,.int .i64 0,.slice none 0 0],.int .i64 0,.string ⟨#[]⟩,.bool false]) (by rw[q1j rfl];go_simp) rfl ?_)
  exact⟨by rw[F.o],q2B G.o _ _ _⟩
 have a0:decide ((1073741824:Int)<(b:Int))=false:=ε (by omega);obtain⟨m,hm⟩: ∃m:Nat,(R.getD 8 0).toNat=m:=⟨_,rfl⟩
 have n0:m<256:=by rw[<-hm];exact(R.getD 8 0).toNat_lt
 have hb8:8<(⟨R.toArray⟩:ByteArray).size:=by show 8<R.length;omega
 have e8:((⟨R.toArray⟩:ByteArray)[8]'hb8).toNat=m:=by
  rw[<-hm,δ,γ (show 8<R.length by omega)];rfl
 have h8:(8:Int)<(R.length:Int):=by omega
 have q1:IntKind.i64.wrap (b:Int)=(b:Int):=by rw[ν];omega
 have q2:IntKind.i64.wrap (m:Int)=(m:Int):=by rw[ν];omega
 have F:Hd (q6J s= .tuple #[.agg #[.string ⟨(rdT s).toArray⟩,.int .i64 (b:Int),.slice none 0 0],.int .i64 (m:Int),.string ⟨(R.drop 9).toArray⟩,.bool true]):=η (by
  unfold q6J q4k
  rw[I,O,J,hm,ζ (p:=9<=R.length) (by omega),ζ (p:=b<=1073741824) (by omega)];rfl)
 obtain⟨Y,N⟩: ∃T,rdT s=T:=⟨_,rfl⟩
 rw[N] at F r;clear O E I h3 h4 N hm;go_enter Tryz.func165,Tryz.ntmps165;go_wp2_with fail;refine(r.o _).mono ?_;rintro e w1 ⟨rfl,l⟩;have u:=η (B.o.ext l);have x:=η (U.o.trans l);clear l;go_wp2_with fail;refine(S.o _).mono ?_;rintro e Q ⟨rfl,l⟩;have D:=η (u.o.ext l);have M:=η (D.o.ext (Ext.refl Q).drew);have G:=η ((x.o.trans l).drew);clear l;obtain⟨Z,c1,c2,f0,f1,f2,g2,d2⟩:=y.o Q _ _ _ D.o (.string ⟨Y.toArray⟩) (.int .i64 (b:Int));obtain⟨d0,e0,g0,i0,j0,k0,l0,h0⟩:=y.o Q.drew _ _ _ M.o (.string ⟨Y.toArray⟩) (.int .i64 (b:Int));go_wp2_with fail;refine q1M (fun W=>True) 9 (by kernel_rfl) trivial (fun d=>?_);refine q0l (i:=0) (v:=?_) rfl (by kernel_rfl) (fun _ _ _ h=>h) (Or.inl ⟨by rfl,?_⟩) d (fun d=>?_)
 rotate_left
 ·(intro w j;(try dsimp only at j);go_simp;try with_reducible rfl)
 try simp only[Act.put,π,ψ,ω]
 refine q0l (i:=1) (v:=?_) rfl (by kernel_rfl) (fun _ _ _ h=>h) (Or.inl ⟨by rfl,?_⟩) d (fun d=>?_)
 rotate_left
 ·(intro w j;(try dsimp only at j);go_simp;try with_reducible rfl)
 try simp only[Act.put,π,ψ,ω]
 refine q0l (i:=2) (v:=?_) rfl (by kernel_rfl) (fun _ _ _ h=>h) (Or.inl ⟨by rfl,?_⟩) d (fun d=>?_)
 rotate_left
 ·(intro w j;(try dsimp only at j);go_simp;try with_reducible rfl)
 try simp only[Act.put,π,ψ,ω]
 refine q0l (i:=3) (v:=?_) rfl (by kernel_rfl) (fun _ _ _ h=>h) (Or.inl ⟨by rfl,?_⟩) d (fun d=>?_)
 rotate_left
 ·(intro w j;(try dsimp only at j);go_simp;try with_reducible rfl)
 try simp only[Act.put,π,ψ,ω]
 refine q0l (i:=4) (v:=?_) rfl (by kernel_rfl) (fun _ _ _ h=>h) (Or.inl ⟨by rfl,?_⟩) d (fun d=>?_)
 rotate_left
 ·(intro w j;(try dsimp only at j);go_simp;try with_reducible rfl)
 try simp only[Act.put,π,ψ,ω]
 refine q0l (i:=5) (v:=?_) rfl (by kernel_rfl) (fun _ _ _ h=>h) (Or.inl ⟨by rfl,?_⟩) d (fun d=>?_)
 rotate_left
 ·(intro w j;(try dsimp only at j);go_simp;try with_reducible rfl)
 try simp only[Act.put,π,ψ,ω]
 refine q0l (i:=6) (v:=?_) rfl (by kernel_rfl) (fun _ _ _ h=>h) (Or.inl ⟨by rfl,?_⟩) d (fun d=>?_)
 rotate_left
 ·(intro w j;(try dsimp only at j);go_simp;try with_reducible rfl)
 try simp only[Act.put,π,ψ,ω]
 refine q0l (i:=7) (v:=?_) rfl (by kernel_rfl) (fun _ _ _ h=>h) (Or.inl ⟨by rfl,?_⟩) d (fun d=>?_)
 rotate_left
 ·(intro w j;(try dsimp only at j);go_simp;try with_reducible rfl)
 try simp only[Act.put,π,ψ,ω]
 refine q0l (i:=8) (v:=?_) rfl (by kernel_rfl) (fun _ _ _ h=>h) (Or.inl ⟨by rfl,?_⟩) d (fun d=>?_)
 rotate_left
 ·(intro w j;(try dsimp only at j);go_simp;try with_reducible rfl)
 try simp only[Act.put,π,ψ,ω]
 refine q1V (by kernel_rfl) ?_
 try simp only[List.drop_succ_cons,List.drop_zero]
 clear d;go_wp2_with fail
 ((try simp only[Exit.inBlock,Exit.then]);refine bodyPost_ret (v:= .tuple #[.agg #[.string ⟨Y.toArray⟩,.int .i64 (b:Int),.slice none 0 0],.int .i64 (m:Int),.string ⟨(R.drop 9).toArray⟩,.bool true]) (by rw[q1j rfl];go_simp) rfl ?_)
 exact⟨by rw[F.o],q2B G.o _ _ _⟩
theorem Tryz.infoEv :(Tryz.prog.info? 67).map (fun i=>(i.zero,i.size,i.bytes))=some (some (.agg #[.string ⟨#[]⟩,.string ⟨#[]⟩,.float .f64 0]),3,40):=by kernel_rfl
theorem z6A(s:List UInt8)(k:Nat)(h:z1a k s=none): ∀m,k<=m->z1a m s=none:=by
 intro m hm;obtain⟨d,rfl⟩:=Nat.le.dest hm;clear hm
 induction d with
 |zero=>exact h
 |succ d ih=>rw[<-Nat.add_assoc,z1a,ih];rfl
theorem z9c(s:List UInt8): ∃e R o,y1e (rdE s)= .tuple #[evV e,.string ⟨R.toArray⟩,.bool o]/\(o=true->rdE s=some (e,R))/\(o=false->rdE s=none)/\e.ty.length<=16/\e.da.length<=200/\R.length<=s.length:=by
 by_cases h:q7c s=true/\q7c (rdR s)=true/\8<=(rdR (rdR s)).length/\q0i (rdT s) (rdT (rdR s))=0
 ·have b:rdE s=some (⟨rdT s,rdT (rdR s),q1G ((rdR (rdR s)).take 8)⟩,(rdR (rdR s)).drop 8):=by unfold rdE;rw[ξ h]
  obtain⟨_,d,i⟩:=q2J h.2.2.2;have j:=q7I s;have l:=q7I (rdR s);exact⟨_,_,true,by rw[b];rfl,fun _=>b,fun e=>by simp at e,d,i,by rw[List.length_drop];omega⟩
 ·have b:rdE s=none:=by unfold rdE;rw[κ h]
  exact⟨ev0,[],false,by rw[b];rfl,fun e=>by simp at e,fun _=>b,by decide,by decide,υ _⟩
theorem z7Z(s:List UInt8): ∃st fi m R o,q6J s= .tuple #[.agg #[.string ⟨st.toArray⟩,.int .i64 ((fi:Nat):Int),.slice none 0 0],.int .i64 ((m:Nat):Int),.string ⟨R.toArray⟩,.bool o]/\st.length<=s.length/\R.length<=s.length/\m<=255/\fi<=1073741824/\
  (∀es T,o=true->z1a m R=some (es,T)->q4f s=if T=[] then(if q0X st (fi:Int) es=0 then some ⟨st,fi,es⟩ else none) else none)/\((o=false\/z1a m R=none)->q4f s=none):=by
 have i:=z2q s;have j:=q7I s;by_cases h:q4k s=true
 ·have d:=h
  unfold q4k at d;simp only[Ξ,Φ] at d;refine⟨rdT s,q1G ((rdR s).take 8),((rdR s).getD 8 0).toNat,(rdR s).drop 9,true,by unfold q6J;rw[ξ h],by omega,by rw[List.length_drop];omega,by have:=UInt8.toNat_lt ((rdR s).getD 8 0);omega,d.2,fun es T _ he=>?_,fun he=>?_⟩
  ·unfold q4f
   rw[ξ h,he]
   cases T with
   |nil=>rfl
   |cons a b=>rfl
  ·rcases he with he|he
   ·cases he
   ·unfold q4f;rw[ξ h,he]
 ·refine⟨[],0,0,[],false,by unfold q6J;rw[κ h];rfl,υ _,υ _,by omega,by omega,fun es T e=>by simp at e,fun _=>by unfold q4f;rw[κ h]⟩
def y1V(B:Nat)(w:World)(r:Option Bt)(v:Value):Prop:=match r with
 |none=>v= .tuple #[.agg #[.string ⟨#[]⟩,.int .i64 0,.slice none 0 0],.int .i64 10]
 |some b=> ∃x,v= .tuple #[.agg #[.string ⟨b.st.toArray⟩,.int .i64 (b.fi:Int),x],.int .i64 0]/\Own w B 67 3 x b.ev.length (q5e b.ev)
theorem y0H{W:World}{t:TypeId}{a b c:Value}(h:Blk W q t #[a,b,c])(d i:Value):W.cell? ⟨q,0,none⟩=some a/\W.cell? ⟨q,1,none⟩=some b/\W.cell? ⟨q,2,none⟩=some c/\
   W.frozen? ⟨q,0,none⟩=false/\W.frozen? ⟨q,1,none⟩=false/\W.frozen? ⟨q,2,none⟩=false/\((W.setCell ⟨q,0,none⟩ d).setCell ⟨q,1,none⟩ i).frozen? ⟨q,2,none⟩=false/\
   ((W.setCell ⟨q,0,none⟩ d).setCell ⟨q,1,none⟩ i).cell? ⟨q,2,none⟩=some c:=by
 have j:=(h.set 0 d).set 1 i;exact⟨h.cell 0,h.cell 1,h.cell 2,h.free 0,h.free 1,h.free 2,j.free 2,j.cell 2⟩
theorem q4G(h:Ext w w1)(hq:w.heap.size<=q)(a b c:Value):Ext w (((w1.setCell ⟨q,0,none⟩ a).setCell ⟨q,1,none⟩ b).setCell ⟨q,2,none⟩ c):=
 ((h.setCell (p:=⟨q,0,none⟩) hq a).setCell (p:=⟨q,1,none⟩) hq b).setCell (p:=⟨q,2,none⟩) hq c
theorem z8K(s :List UInt8)(w:World)(hl:s.length<=4611686018427387903):
  Calls Tryz.prog 103 #[.string ⟨s.toArray⟩] w fun e w'=>(∃v,e= .returned v/\y1V w.heap.size w' (q4f s) v)/\Ext w w':=by
 have HH:=η (fun W=>z8g s W hl);obtain⟨st,fi,m,S9,o0,hv,r1,n1,hm,p1,hG,I0⟩:=z7Z s;rw[hv] at HH;have HG:=η hG;have j0:=η I0;have HX:=η (q0B w (.cells #[.string ⟨#[]⟩,.int .i64 0,.slice none 0 0] 160));have u0:=η (Blk.new w 160 #[.string ⟨#[]⟩,.int .i64 0,.slice none 0 0]);have q1:=q3k;clear hv hG I0;obtain⟨q,hq⟩: ∃q,w.heap.size=q:=⟨_,rfl⟩
 have HQ:=η hq;have X:Hd (w.heap.size<=q):=η (by omega);rw[hq] at u0;go_enter Tryz.func103,Tryz.ntmps103;go_wp2_with fail;refine(HH.o _).mono ?_;rintro e w1 ⟨rfl,F⟩;have v0:=η (u0.o.ext F);have F0:=η (HX.o.trans F);clear F;go_wp2_with fail;obtain⟨i,O0⟩: ∃i,w1.heap.size=i:=⟨_,rfl⟩
 have N0:w.heap.size<=w1.heap.size:=F0.o.size;have l0:Hd (q+1<=i):=η (by have:=v0.o.lt;omega);have m0:Hd (w.heap.size<=i):=η (by omega);have U0:=η (v0.o.ext (q0B w1 (.cells #[.string ⟨st.toArray⟩,.int .i64 (fi:Int),.slice none 0 0] 160)));have Y0:=η (F0.o.trans (q0B w1 (.cells #[.string ⟨st.toArray⟩,.int .i64 (fi:Int),.slice none 0 0] 160)));have x0:=η (Blk.new w1 160 #[.string ⟨st.toArray⟩,.int .i64 (fi:Int),.slice none 0 0]);rw[O0] at x0⊢;clear O0 N0
 go_loopw [6,7] (fun r o W=> ∃es R ao N b,r= .string ⟨(R:List UInt8).toArray⟩/\o= .bool b/\Blk W i 160 #[.string ⟨st.toArray⟩,.int .i64 (fi:Int),.slice ao es.length N]/\
   W.ownsRow (i+1) 67 3 (.slice ao es.length N) es.length (q5e es)/\es.length<=m/\(b=true->o0=true/\z1a es.length S9=some (es,R))/\(b=false->o0=false\/z1a m S9=none)/\q3p es/\
   R.length<=4611686018427387903/\Blk W q 160 #[.string ⟨#[]⟩,.int .i64 0,.slice none 0 0]/\Ext w W)
  (fun _ _ W=>m-(match W.cell? ⟨i,2,none⟩ with|some (.slice _ n _)=>n|_=>0))
 case atStart=>
  refine⟨[],S9,none,0,o0,rfl,rfl,x0.o,World.ownsRow_nil _ _ _ _,υ _,fun h=>⟨h,rfl⟩,fun h=> .inl h,(fun e he=>absurd he (List.not_mem_nil)),by omega,U0.o,Y0.o⟩
 case round =>
  obtain⟨es,R,ao,N,b,rfl,rfl,d,I,M0,hT,hF,Q0,Z0,J0,S0⟩:=hrel;obtain⟨j1,l1,b1,d0⟩:=Evs.of_own (Own.of_row I)
  cases b1;obtain⟨k,hk⟩: ∃k,es.length=k:=⟨_,rfl⟩
  have L0:=d0.fits;have i1:=d0.bound;have y0:=η d0;clear d0;rw[hk] at d I M0 hT L0 y0;have HK:=η hk;have V:=η d;have C0:=η I;have HT:=η hT;have HF:=η hF;have E0:=η Q0;have M:=η J0;have Z:=η S0;have c0:wr.cell? ⟨i,0,none⟩=some (.string ⟨st.toArray⟩):=d.cell 0;have c1:wr.cell? ⟨i,1,none⟩=some (.int .i64 (fi:Int)):=d.cell 1;have c2:wr.cell? ⟨i,2,none⟩=some (.slice ao k N):=d.cell 2;clear hk d I hT hF Q0 J0 S0
  cases b with
  | false=>
   have j:Hd (q4f s=none):=η (j0.o (HF.o rfl));obtain⟨k0,k1,k2,f0,f1,f2,g2,d2⟩:=y0H M.o (.string ⟨#[]⟩) (.int .i64 0);clear HT HF;go_wp2_with fail
   ((try simp only[Exit.inBlock,Exit.then]);refine bodyPost_ret (v:= .tuple #[.agg #[.string ⟨#[]⟩,.int .i64 0,.slice none 0 0],.int .i64 10]) (by rw[q0p rfl];go_simp) rfl ?_)
   exact⟨⟨_,rfl,by rw[j.o];exact rfl⟩,q4G Z.o X.o _ _ _⟩
  | true =>
   by_cases d1:k<m
   ·have hd:decide ((k:Int)<(m:Int))=true:=ζ (by omega)
    obtain⟨⟨x,y,B⟩,R',o',hv,hy,hn,s1,t1,m1⟩:=z9c R;have R0:y1e (rdE R)= .tuple #[.agg #[.string ⟨x.toArray⟩,.string ⟨y.toArray⟩,.float .f64 B],.string ⟨R'.toArray⟩,.bool o']:=hv;have HE:=η (fun W=>z8y R W Z0);rw[R0] at HE;have HY:=η hy;have HN:=η hn;clear hv R0 hy hn;go_wp2_with fail;refine(HE.o _).mono ?_;rintro e U ⟨rfl,F⟩;obtain⟨l,P0⟩: ∃l,wr.heap.size=l:=⟨_,rfl⟩
    rw[P0];have T0:=(q0B wr (.cells #[.string ⟨#[]⟩,.string ⟨#[]⟩,.float .f64 0] 67)).trans F;have b0:=(Blk.new wr 67 #[.string ⟨#[]⟩,.string ⟨#[]⟩,.float .f64 0]).ext F;rw[P0] at b0;obtain⟨k0,k1,k2,f0,f1,f2,g2,d2⟩:=y0H b0 (.string ⟨x.toArray⟩) (.string ⟨y.toArray⟩);have hex:=q4G T0 (q:=l) (by omega) (.string ⟨x.toArray⟩) (.string ⟨y.toArray⟩) (.float .f64 B);have G:=((b0.set 0 (.string ⟨x.toArray⟩)).set 1 (.string ⟨y.toArray⟩)).set 2 (.float .f64 B);have e0:((((U.setCell ⟨l,0,none⟩ (.string ⟨x.toArray⟩)).setCell ⟨l,1,none⟩ (.string ⟨y.toArray⟩)).setCell ⟨l,2,none⟩ (.float .f64 B)).cell? ⟨l,0,none⟩)=some (.string ⟨x.toArray⟩):=G.cell 0;have e1:((((U.setCell ⟨l,0,none⟩ (.string ⟨x.toArray⟩)).setCell ⟨l,1,none⟩ (.string ⟨y.toArray⟩)).setCell ⟨l,2,none⟩ (.float .f64 B)).cell? ⟨l,1,none⟩)=some (.string ⟨y.toArray⟩):=G.cell 1;have e2:((((U.setCell ⟨l,0,none⟩ (.string ⟨x.toArray⟩)).setCell ⟨l,1,none⟩ (.string ⟨y.toArray⟩)).setCell ⟨l,2,none⟩ (.float .f64 B)).cell? ⟨l,2,none⟩)=some (.float .f64 B):=G.cell 2;have e3:((((U.setCell ⟨l,0,none⟩ (.string ⟨x.toArray⟩)).setCell ⟨l,1,none⟩ (.string ⟨y.toArray⟩)).setCell ⟨l,2,none⟩ (.float .f64 B)).cell? ⟨i,2,none⟩)=some (.slice ao k N):=(V.o.ext hex).cell 2;have J:=hex.trans (q0B _ (.cells #[.string ⟨x.toArray⟩,.string ⟨y.toArray⟩,.float .f64 B] 67));have g0:=η (V.o.ext J);have h0:=η (M.o.ext J);have Y:=η (q0K C0.o J);have H0:=η (Z.o.trans J);have X0:=η (show i+1<=_ from Ω (show i+1<=wr.heap.size from V.o.lt) J.size);have t0:=Rd.lit (((U.setCell ⟨l,0,none⟩ (.string ⟨x.toArray⟩)).setCell ⟨l,1,none⟩ (.string ⟨y.toArray⟩)).setCell ⟨l,2,none⟩ (.float .f64 B)) #[.string ⟨x.toArray⟩,.string ⟨y.toArray⟩,.float .f64 B] 67;rw[World.size_setCell,World.size_setCell,World.size_setCell] at t0;have W0:=η t0;clear F T0 b0 hex G J t0
    go_wp2_with (at_builtin;refine q0Q rfl (.tmp 31) (.tmp 33) 40 rfl (i+1) 67 _ 3 40 Tryz.underlying40 Tryz.infoEv (by decide) (by decide) _ k (q5e es) rfl Y.o _ 1 1 (evc ⟨x,y,B⟩) rfl rfl (fun h=>by cases h) W0.o (fun u hu=>z7N [⟨x,y,B⟩] u (by simpa [q5e] using hu)) (by unfold maxLen;omega) (by omega) X0.o ?_;intro v4 w4 S D a1;obtain⟨a4,c4,rfl⟩:=q0H S;have a0:=g0.o.same (D.block i g0.o.lt (fun e=>by have:=(q0d Y.o i e.symm).1;omega));have d6:=a0.cell 2;have d7:=a0.free 2;have w0:=η a0;have B0:=η S;have z0:=η D;clear S D a1 a0)
    have K0:=h0.o.same (z0.o.block q h0.o.lt (fun e=>by have:=(q0d Y.o q e.symm).1;have:=l0.o;omega));have h1:=q1S H0.o (Own.of_row (q0y Y.o (show w.heap.size<=i+1 by have:=m0.o;omega))) z0.o H0.o.size;obtain⟨g1,i0⟩:=HT.o trivial;have E:(es++[(⟨x,y,B⟩:Ev)]).length=k+1:=by rw[θ,HK.o];rfl
    refine⟨⟨es++[⟨x,y,B⟩],R',a4,c4,o',rfl,rfl,?_,?_,by omega,fun h=>⟨g1,?_⟩,fun h=> .inr ?_,?_,by omega,K0.o (by have:=l0.o;omega) _ _,h1.setCell (p:=⟨i,2,none⟩) m0.o _⟩,?_⟩
    ·rw[E];exact w0.o.set 2 _
    ·rw [E,q6o]
     refine q1C (a:=⟨i,2,none⟩) ?_ _ (fun e=>?_)
     ·have h:=B0.o
      rw[show q5e [(⟨x,y,B⟩:Ev)]=evc ⟨x,y,B⟩ from by simp[q5e]];exact h
     ·have:=(q0d B0.o i e).1
      omega
    ·rw[E,z1a,i0,Option.bind_some,HY.o h];rfl
    ·refine z6A _ (k+1) ?_ m d1
     rw[z1a,i0,Option.bind_some,HN.o h];rfl
    ·intro e he
     rcases List.mem_append.1 he with he|he
     ·exact E0.o e he
     ·obtain rfl:=List.mem_singleton.1 he
      exact⟨by simp only;omega,by simp only;omega⟩
    ·have h6:(w4.setCell ⟨i,2,none⟩ (.slice a4 (k+1) c4)).cell? ⟨i,2,none⟩=some (.slice a4 (k+1) c4):=(w0.o.set 2 _).cell 2
     rw[h6,c2];simp only;omega
   ·have hd:decide ((k:Int)<(m:Int))=false:=ε (by omega)
    obtain rfl:k=m:=by omega
    obtain⟨p0,q0⟩:=HT.o rfl;have O:=HG.o _ _ p0 q0;obtain⟨k0,k1,k2,f0,f1,f2,g2,d2⟩:=y0H M.o (.string ⟨#[]⟩) (.int .i64 0)
    cases R with
    | cons r0 R=>
     have j:Hd (q4f s=none):=η (by rw[O];rfl);clear O p0 q0 HT HF HG j0;go_wp2_with fail
     ((try simp only[Exit.inBlock,Exit.then]);refine bodyPost_ret (v:= .tuple #[.agg #[.string ⟨#[]⟩,.int .i64 0,.slice none 0 0],.int .i64 10]) (by rw[q0p rfl];go_simp) rfl ?_)
     exact⟨⟨_,rfl,by rw[j.o];exact rfl⟩,q4G Z.o X.o _ _ _⟩
    | nil =>
     have HC:=η (fun W (h:Evs W ao k N es)=>q8Y st (fi:Int) W h (by omega) E0.o);rw[ξ rfl] at O;have A0:=η O;clear O p0 q0 HT HF HG j0 k0 k1 k2 f0 f1 f2 g2 d2;go_wp2_with fail;refine(HC.o _ y0.o).mono ?_;rintro e U ⟨rfl,F⟩;have G0:=η (Z.o.trans F);have D0:=η (q0K C0.o F);have d:=V.o.ext F;have c0:U.cell? ⟨i,0,none⟩=some (.string ⟨st.toArray⟩):=d.cell 0;have c1:U.cell? ⟨i,1,none⟩=some (.int .i64 (fi:Int)):=d.cell 1;have c2:U.cell? ⟨i,2,none⟩=some (.slice ao k N):=d.cell 2;by_cases Q:q0X st (fi:Int) es=0
     ·have n0:Hd (q4f s=some ⟨st,fi,es⟩):=η (by rw[A0.o,ξ Q])
      obtain⟨k0,k1,k2,f0,f1,f2,g2,d2⟩:=y0H (M.o.ext F) (.string ⟨st.toArray⟩) (.int .i64 (fi:Int))
      have V0:Hd (Own (((U.setCell ⟨q,0,none⟩ (.string ⟨st.toArray⟩)).setCell ⟨q,1,none⟩ (.int .i64 (fi:Int))).setCell ⟨q,2,none⟩ (.slice ao k N)) w.heap.size 67 3 (.slice ao k N) es.length (q5e es)):=η (by
       rw[HK.o];have s0:(Value.slice ao k N).ownBlock≠some q:=fun e=>by have:=(q0d D0.o q e).1;have:=l0.o;omega
       exact((((Own.of_row D0.o).setOther (a:=⟨q,0,none⟩) _ s0).setOther (a:=⟨q,1,none⟩) _ s0).setOther (a:=⟨q,2,none⟩) _ s0).base (by have:=m0.o;omega))
      rw[Q];clear F d Q;go_wp2_with fail
      ((try simp only[Exit.inBlock,Exit.then]);refine bodyPost_ret (v:= .tuple #[.agg #[.string ⟨st.toArray⟩,.int .i64 (fi:Int),.slice ao k N],.int .i64 0]) (by rw[q0p rfl];go_simp) rfl ?_)
      refine⟨⟨_,rfl,by rw[n0.o];exact⟨_,rfl,V0.o⟩⟩,q4G G0.o X.o _ _ _⟩
     ·have j:Hd (q4f s=none):=η (by rw[A0.o,κ Q])
      have o1:(q0X st (fi:Int) es==0)=false:=by simpa using Q
      obtain⟨k0,k1,k2,f0,f1,f2,g2,d2⟩:=y0H (M.o.ext F) (.string ⟨#[]⟩) (.int .i64 0);generalize q0X st (fi:Int) es=bc at*;clear F d;go_wp2_with fail
      ((try simp only[Exit.inBlock,Exit.then]);refine bodyPost_ret (v:= .tuple #[.agg #[.string ⟨#[]⟩,.int .i64 0,.slice none 0 0],.int .i64 10]) (by rw[q0p rfl];go_simp) rfl ?_)
      exact⟨⟨_,rfl,by rw[j.o];exact rfl⟩,q4G G0.o X.o _ _ _⟩
theorem q9p: ∀{L:List (Nat×List UInt8)} (hp:L.Pairwise z6h) {a:Nat} {p:List UInt8} {R:List (Nat×List UInt8)},L.filter (fun r=>decide (pos<=(r.1:Int)))=(a,p)::R->
  L.filter (fun r=>decide ((a:Int)+(p.length:Int)+12<=(r.1:Int)))=R
 |[],_,_,_,_,h=>by cases h
 | x ::t,hp,a,p,R,h=>by
  obtain⟨i,m⟩:=List.pairwise_cons.1 hp;by_cases b:pos<=(x.1:Int)
  ·rw[List.filter_cons_of_pos (by simpa using b)] at h
   injection h with j l;subst j;simp only at b;rw[List.filter_cons_of_neg (by simp;omega),<-l,List.filter_eq_self.2,List.filter_eq_self.2]
   ·intro y d;have:=i y d;unfold z6h at this;simp only at this;simp;omega
   ·intro y d;have:=i y d;unfold z6h at this;simp only at this;simp;omega
  ·rw[List.filter_cons_of_neg (by simpa using b)] at h
   have hm:(a,p)∈t.filter (fun r=>decide (pos<=(r.1:Int))):=by rw[h];exact List.mem_cons_self
   have o:=(List.mem_filter.1 hm).2;simp only[Φ] at o;rw[List.filter_cons_of_neg (by simp;omega)];exact q9p m h
def q2L(C:Cks)(pos:Int):List (Nat×List UInt8):=(q0u 0 C).filter (fun r=>decide (pos<=(r.1:Int)))
theorem z3q(C:Cks)(pos:Int):q3T C pos=(q2L C pos).head? :=by unfold q3T q2L;rw[List.head?_filter]
theorem z3r(h:okC C){a:Nat}{p:List UInt8}{R:List (Nat×List UInt8)}(e:q2L C pos=(a,p)::R):q2L C ((a:Int)+(p.length:Int)+12)=R:=
 q9p (q6T C 0 h.size) e
theorem z5N(h:okC C){r:Nat×List UInt8}(j:r∈q2L C pos):r.1<4096*200/\r.2.length<=2000:=by
 have m:=(List.mem_filter.1 j).1;have s:=q5Q C 0 h.size r m;have u:=h.few;refine⟨by omega,?_⟩;have l: ∀(ps:List (List UInt8)) (a:Nat),r∈q2N a ps->r.2∈ps:=by
  intro ps
  induction ps with
  |nil=>intro a h;cases h
  | cons p t ih=>
   intro a h;rw[q2N] at h;rcases List.mem_cons.1 h with rfl|h
   ·exact List.mem_cons_self
   ·exact List.mem_cons_of_mem _ (ih _ h)
 have d: ∀(D:Cks) (b:Nat),r∈q0u b D-> ∃ps∈D,r.2∈ps:=by
  intro D
  induction D with
  |nil=>intro b h;cases h
  | cons ps t ih=>
   intro b h;rw[q0u] at h;rcases List.mem_append.1 h with h|h
   ·exact⟨ps,List.mem_cons_self,l ps _ h⟩
   ·obtain⟨q,hq,j⟩:=ih _ h
    exact⟨q,List.mem_cons_of_mem _ hq,j⟩
 obtain⟨ps,i,o⟩:=d C 0 m;exact h.pay ps i _ o
def q2U(sd:Int)(pos:Nat)(b:Bt)(i:Nat):En:=(q2M sd b.st,(b.fi:Int)+(i:Int),(pos:Int))
def q0a(sd:Int)(pos:Nat)(b:Bt)(k:Nat):List En:=(List.range k).map (q2U sd pos b)
theorem q6n(sd:Int)(pos:Nat)(b:Bt)(k:Nat):q0a sd pos b (k+1)=q0a sd pos b k++[q2U sd pos b k]:=by unfold q0a;rw[List.range_succ,List.map_append];rfl
theorem q3h(sd:Int)(pos:Nat)(b:Bt)(k:Nat):(q0a sd pos b k).length=k:=by unfold q0a;simp
def z0k(sd:Int):List (Nat×List UInt8)->Option (List En)
 |[]=>some []
 |(a,p)::r=>(q4f p).bind fun b=>(z0k sd r).map fun l=>q0a sd a b b.ev.length++l
def q1P(es:List En)(L:List En):List En:=es.foldl (fun L e=>q3V e L) L
theorem q3L(a b L:List En):q1P (a++b) L=q1P b (q1P a L):=by unfold q1P;rw[List.foldl_append]
theorem q6L : ∀(es L:List En),(q1P es L).length<=L.length+es.length
 |[],L=>ι _
 | e::t,L=>by
  have h:=q6L t (q3V e L);have:=@z4a e L;unfold q1P at*;rw[List.foldl_cons,χ];omega
theorem z7U{s:List UInt8}{b:Bt}(h:q4f s=some b):q0X b.st (b.fi:Int) b.ev=0:=by
 unfold q4f at h
 split at h
 ·split at h
  ·split at h
   ·rename_i hc
    injection h with h;subst h;exact hc
   ·cases h
  ·cases h
 ·cases h
theorem z2R(sd:Int){pos:Nat}{b:Bt}{k:Nat}(h:q0X b.st (b.fi:Int) b.ev=0)(j:k<b.ev.length)(l:pos<4096*200):q3P (q2U sd pos b k)=true:=by
 obtain⟨_,_,_,m,o,r,_⟩:=q0t h;obtain⟨d,i⟩:=z1D sd b.st;rw[okEn_iff];unfold q2U;simp only;omega
theorem z5C{e:Ev}(h:z8S e):(evB e).length<=300:=by
 obtain⟨_,b,d⟩:=q2J h.1;unfold evB;rw[q2X (by omega),q2X (by omega)];simp[q0G];omega
theorem z5D(L:List Ev)(k:Nat)(h:k<L.length):((L.take (k+1)).map evB).flatten=((L.take k).map evB).flatten++evB (L.getD k ev0):=by
 rw[List.take_succ_eq_append_getElem h,List.map_append,List.flatten_append,δ,γ h];simp only[List.map_cons,List.map_nil,List.flatten_cons,List.flatten_nil,List.append_nil,Option.getD_some]
theorem y0I{b:Bt}(w:World)(j:Evs w ao n cap b.ev)(x:z4V b):
  Calls Tryz.prog 87 #[.agg #[.string ⟨b.st.toArray⟩,.int .i64 (b.fi:Int),.slice ao n cap]] w fun e w'=>e= .returned (.tuple #[.string ⟨(btB b).toArray⟩,.int .i64 0])/\Ext w w':=by
 obtain⟨p1,p2,p3,p4,p5,p6,p7⟩:=q0t x.1;have u: ∀e∈b.ev,z8S e:=fun e he=>⟨q5H p7 e he,x.2 e he⟩
 have I:q3p b.ev:=fun e he=>by
  obtain⟨_,h1,h2⟩:=q2J (u e he).1;exact⟨by omega,by omega⟩
 have d:=j.len;obtain⟨st,fi,L⟩:=b;simp only at p1 p2 p3 p4 p5 p6 p7 u I d j;have b1:=j.fits;have b2:=j.bound;have X:q0X st (fi:Int) L=0:=x.1;have HC:=η (fun W (h:Evs W ao n cap L)=>q8Y st (fi:Int) W h (by omega) I);rw[X] at HC;have HT:=η (fun W=>z6P st W (by omega));have Q:=η (fun W=>z4H (fi:Int) 8 8 W rfl (by omega) (by omega) (by omega) (by omega));have O:=η (fun W=>z4H (n:Int) 1 1 W rfl (by omega) (by omega) (by omega) (by omega));rw[Int.toNat_natCast] at Q O;have l1:(q2g st).length<=50:=by rw[q2X (by omega)];simp[q0G];omega
 have l8:(be 8 fi).length<=8:=by rw[q0G];omega
 have l0:(be 1 n).length<=8:=by rw[q0G];omega
 have HE:Hd (btB ⟨st,fi,L⟩=((q2g st++be 8 fi)++be 1 n)++((L.take n).map evB).flatten):=η (by
  rw[<-d,List.take_length];unfold btB;simp)
 have e0:=η u;have b0:=η d;have F:=η j;have qf:IntKind.u64.wrap (fi:Int)=(fi:Int):=by rw[IntKind.wrap_u64];omega
 have qn:IntKind.u64.wrap (n:Int)=(n:Int):=by rw[IntKind.wrap_u64];omega
 have j0:n<=8:=by omega
 have HX:=η (q0B w (.cells #[.string ⟨st.toArray⟩,.int .i64 (fi:Int),.slice ao n cap] 160));have J:=η (Blk.new w 160 #[.string ⟨st.toArray⟩,.int .i64 (fi:Int),.slice ao n cap]);have s:=J.o;have k0:(w.alloc (.cells #[.string ⟨st.toArray⟩,.int .i64 (fi:Int),.slice ao n cap] 160)).cell? ⟨w.heap.size,0,none⟩=some (.string ⟨st.toArray⟩):=s.cell 0;have k1:(w.alloc (.cells #[.string ⟨st.toArray⟩,.int .i64 (fi:Int),.slice ao n cap] 160)).cell? ⟨w.heap.size,1,none⟩=some (.int .i64 (fi:Int)):=s.cell 1;have k2:(w.alloc (.cells #[.string ⟨st.toArray⟩,.int .i64 (fi:Int),.slice ao n cap] 160)).cell? ⟨w.heap.size,2,none⟩=some (.slice ao n cap):=s.cell 2;generalize q2g st=A at*;generalize be 8 fi=D at*;generalize be 1 n=C at*;have m0:=q3k;clear s x p1 p2 p3 p4 p5 p6 p7 u I d j X;go_enter Tryz.func87,Tryz.ntmps87;go_wp2_with fail;refine(HC.o _ (F.o.ext HX.o)).mono ?_;rintro e w1 ⟨rfl,j⟩;have G:=η (HX.o.trans j);have l:=J.o.ext j;generalize w.heap.size=q at*;have S:w1.cell? ⟨q,0,none⟩=some (.string ⟨st.toArray⟩):=l.cell 0;have U:w1.cell? ⟨q,1,none⟩=some (.int .i64 (fi:Int)):=l.cell 1;have V:w1.cell? ⟨q,2,none⟩=some (.slice ao n cap):=l.cell 2;have u0:=q0C S;have u1:=q0C U;have u2:=q0C V;have a0:=η l;have q1:¬(9223372036854775807<A.length+D.length):=by omega
 have q2:¬(9223372036854775807<(A++D).length+C.length):=by rw[θ];omega
 have q3:¬(9223372036854775807<A.length+D.length+C.length):=by omega
 clear j l k0 k1 k2;go_wp2_with fail;refine q0D (by kernel_rfl) (by kernel_rfl) ?_
 repeat (go_big_quiet_step (fail))
 go_big_quiet_step (exact Calls.quiet_ext (HT.o _))
 repeat (go_big_quiet_step (fail))
 go_big_quiet_step (exact Calls.quiet_ext (Q.o _))
 repeat (go_big_quiet_step (fail))
 go_big_quiet_step (exact Calls.quiet_ext (O.o _))
 repeat (go_big_quiet_step (fail))
 refine wpQuiet_nil ?_;intro w2 hw;have R:=η (G.o.trans hw);have m:=a0.o.ext hw;have d0:w2.cell? ⟨q,0,none⟩=some (.string ⟨st.toArray⟩):=m.cell 0;have d1:w2.cell? ⟨q,1,none⟩=some (.int .i64 (fi:Int)):=m.cell 1;have d2:w2.cell? ⟨q,2,none⟩=some (.slice ao n cap):=m.cell 2;clear hw m S U V u0 u1 u2;have h0:=η (F.o.ext R.o);go_wp2_with fail
 go_loopw [5,30] (fun e i W=> ∃k:Nat,∃T:List UInt8,k<=n/\i= .int .i64 (k:Int)/\e= .string ⟨T.toArray⟩/\T=((A++D)++C)++((L.take k).map evB).flatten/\T.length<=100+300*k/\Ext w W) (fun _ i _=>n-(intOf i).toNat)
 case atStart=>exact⟨0,_,υ _,rfl,(by first|rfl|(rw[q3M,q3M])),by simp,by simp;omega,R.o⟩
 case round=>
  obtain⟨k,T,hk,rfl,rfl,hT,i0,hb⟩:=hrel;have HT:=η hT;have M:=η hb;by_cases Z:k<n
  ·have g0:decide ((k:Int)<(n:Int))=true:=ζ (by omega)
   obtain⟨b,off,rfl,S,U,V⟩:=(F.o.ext hb).at Z;have v:k<L.length:=by rw[b0.o];exact Z
   have E:L.getD k ev0∈L:=by rw[δ,γ v];exact List.getElem_mem v
   have HS:=η (z5D L k v);have G:=η (q0B wr (.cells #[.string ⟨(L.getD k ev0).ty.toArray⟩,.string ⟨(L.getD k ev0).da.toArray⟩,.float .f64 (L.getD k ev0).we] 67));have q4:IntKind.i64.wrap ((k:Int)+1)=(k:Int)+1:=by rw[ν];omega
   have he:=e0.o _ E;generalize L.getD k ev0=y at*;obtain⟨y1,y2,y3⟩:=y;have hs:=z5C he;have N:=η (fun W=>z7K ⟨y1,y2,y3⟩ W he);have B:Hd (∀W,Calls Tryz.prog 126 #[.agg #[.string ⟨y1.toArray⟩,.string ⟨y2.toArray⟩,.float .f64 y3]] W fun r w'=>r= .returned (.string ⟨(evB ⟨y1,y2,y3⟩).toArray⟩)/\Ext W w'):=N;obtain⟨Y,hY⟩: ∃Y,evB ⟨y1,y2,y3⟩=Y:=⟨_,rfl⟩
   rw[hY] at B hs HS;simp only at S U V;have u0:=q0C S;have u1:=q0C U;have u2:=q0C V;have q5:¬(9223372036854775807<T.length+Y.length):=by omega
   clear v E hb hT N he hY;go_wp2_with fail;refine(B.o _).mono ?_;rintro e w3 ⟨rfl,j⟩;have f0:=η ((M.o.trans G.o).trans j);clear j;go_wp2_with fail
   go_roundw
   case rel=>exact⟨k+1,T++Y,by omega,by go_num,(by first|rfl|(rw[q3M])),by rw[HS.o,HT.o,List.append_assoc],by rw[θ];omega,f0.o⟩
   case measure=>simp[intOf];omega
  ·obtain rfl:k=n:=by omega
   have g0:decide ((k:Int)<(k:Int))=false:=ε (by omega);have HF:Hd (btB ⟨st,fi,L⟩=T):=η (by rw[HE.o,hT]);clear hb hT;go_wp2_with fail;go_ret2;exact⟨by rw[HF.o];rfl,M.o⟩
end
section
open Go.RowKit Go.Shelf
end
end Go.Proofs.YtfiibpgoplcgkaaGreatDoor
