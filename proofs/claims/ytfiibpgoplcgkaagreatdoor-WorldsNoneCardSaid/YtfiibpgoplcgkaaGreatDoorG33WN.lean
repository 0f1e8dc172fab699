/- Walks. -/
import Derived.Test.YtfiibpgoplcgkaaGreatDoorG32WN
import Derived.Test.YtfiibpgoplcgkaaGreatDoorG27WN
import Derived.Test.YtfiibpgoplcgkaaGreatDoorG18WN
import Derived.Test.YtfiibpgoplcgkaaGreatDoorG28WN
import Derived.Test.YtfiibpgoplcgkaaGreatDoorG16WN
set_option linter.unusedVariables false
set_option linter.unusedSimpArgs false
set_option maxRecDepth 100000
set_option maxHeartbeats 6400000
namespace Go.Proofs.YtfiibpgoplcgkaaGreatDoor
variable {w w1 w':World}{ao:Option Addr}{n cap i q k:Nat}{L:List Ev}{pos:Int}{C:Cks}{α:Type}
section
open Go.RowKit
def y2K(r:Option (Ev×List UInt8)):Value:=match r with
 |some (e,r)=> .tuple #[evV e,.string ⟨r.toArray⟩,.bool true]
 |none=> .tuple #[evV ev0,.string ⟨#[]⟩,.bool false]
theorem q3x(W:World)(a:Addr)(b:Nat)(m:Go.Mode):(store a (.float .f64 b) m).run Tryz.prog W=stored Tryz.prog W a (.float .f64 b) m:=run_store _ _ _ _ _ rfl
theorem q2N(h:Ext w w1)(a b c:Value):Ext w (((w1.setCell ⟨w.heap.size,0,none⟩ a).setCell ⟨w.heap.size,1,none⟩ b).setCell ⟨w.heap.size,2,none⟩ c):=
 ((h.setCell (p:=⟨w.heap.size,0,none⟩) (ι _) a).setCell (p:=⟨w.heap.size,1,none⟩) (ι _) b).setCell (p:=⟨w.heap.size,2,none⟩) (ι _) c
theorem z9W(s:List UInt8)(w:World)(hl:s.length<=4611686018427387903):
  Calls Tryz.prog 133 #[.string ⟨s.toArray⟩] w fun e w'=>e= .returned (y2K (rdE s))/\Ext w w':=by
 have r:=η (fun W=>z1r s W hl);have u:=η (fun W=>z1r (rdR s) W (by have:=q7c s;omega));have r0:=z3J s;have s0:=z3J (rdR s);have t0:=q7c s;have h0:=q7c (rdR s);have N:=η (fun b W=>q9A (rdT s) (rdT (rdR s)) .f64 b W (by omega) (by omega));have HX:=η (q0B w (.cells #[.string ⟨#[]⟩,.string ⟨#[]⟩,.float .f64 0] 67));have J:=η (Blk.new w 67 #[.string ⟨#[]⟩,.string ⟨#[]⟩,.float .f64 0])
 have x:Hd (∀(W:World) (a b c:Value),Blk W w.heap.size 67 #[a,b,c]-> ∀a' b',W.cell? ⟨w.heap.size,0,none⟩=some a/\W.cell? ⟨w.heap.size,1,none⟩=some b/\W.cell? ⟨w.heap.size,2,none⟩=some c/\
   W.frozen? ⟨w.heap.size,0,none⟩=false/\W.frozen? ⟨w.heap.size,1,none⟩=false/\W.frozen? ⟨w.heap.size,2,none⟩=false/\((W.setCell ⟨w.heap.size,0,none⟩ a').setCell ⟨w.heap.size,1,none⟩ b').frozen? ⟨w.heap.size,2,none⟩=false/\
   ((W.setCell ⟨w.heap.size,0,none⟩ a').setCell ⟨w.heap.size,1,none⟩ b').cell? ⟨w.heap.size,2,none⟩=some c):=η fun W a b c h a' b'=>by
  have h2:=(h.set 0 a').set 1 b';exact⟨h.cell 0,h.cell 1,h.cell 2,h.free 0,h.free 1,h.free 2,h2.free 2,h2.cell 2⟩
 have u0:=q3x;by_cases h1:q7t s=true
 case neg=>
  rw[Bool.not_eq_true] at h1;have Q:Hd (rdE s=none):=η (by unfold rdE;rw[h1];simp);rw[h1] at r;go_enter Tryz.func133,Tryz.ntmps133;go_wp2_with fail;refine(r.o _).mono ?_;rintro e w1 ⟨rfl,d⟩;have l:=η (J.o.ext d);have m:=η (HX.o.trans d);clear d;obtain⟨S,U,V,Z,f1,f2,g2,Y⟩:=x.o w1 _ _ _ l.o (.string ⟨#[]⟩) (.string ⟨#[]⟩);go_wp2_with fail
  ((try simp only[Exit.inBlock,Exit.then]);refine bodyPost_ret (v:= .tuple #[.agg #[.string ⟨#[]⟩,.string ⟨#[]⟩,.float .f64 0],.string ⟨#[]⟩,.bool false]) (by rw[q0S rfl];go_simp) rfl ?_)
  exact⟨by rw[Q.o];rfl,q2N m.o _ _ _⟩
 rw[h1] at r;by_cases h2:q7t (rdR s)=true
 case neg=>
  rw[Bool.not_eq_true] at h2;have Q:Hd (rdE s=none):=η (by unfold rdE;rw[h2];simp);rw[h2] at u;go_enter Tryz.func133,Tryz.ntmps133;go_wp2_with fail;refine(r.o _).mono ?_;rintro e w1 ⟨rfl,d⟩;have l:=η (J.o.ext d);have m:=η (HX.o.trans d);clear d;go_wp2_with fail;refine(u.o _).mono ?_;rintro e w2 ⟨rfl,d⟩;have y:=η (l.o.ext d);have B:=η (m.o.trans d);clear d;obtain⟨S,U,V,Z,f1,f2,g2,Y⟩:=x.o w2 _ _ _ y.o (.string ⟨#[]⟩) (.string ⟨#[]⟩);go_wp2_with fail
  ((try simp only[Exit.inBlock,Exit.then]);refine bodyPost_ret (v:= .tuple #[.agg #[.string ⟨#[]⟩,.string ⟨#[]⟩,.float .f64 0],.string ⟨#[]⟩,.bool false]) (by rw[q0S rfl];go_simp) rfl ?_)
  exact⟨by rw[Q.o];rfl,q2N B.o _ _ _⟩
 rw[h2] at u;obtain⟨R,hR⟩: ∃R,rdR (rdR s)=R:=⟨_,rfl⟩
 rw[hR] at u h0;obtain⟨D,G⟩: ∃T,rdT s=T:=⟨_,rfl⟩
 obtain⟨F,I⟩: ∃T,rdT (rdR s)=T:=⟨_,rfl⟩
 by_cases h3:R.length<8
 ·have Q:Hd (rdE s=none):=η (by unfold rdE;rw[κ (by rw[hR];omega)])
  have hd:decide ((R.length:Int)<8)=true:=ζ (by omega);go_enter Tryz.func133,Tryz.ntmps133;go_wp2_with fail;refine(r.o _).mono ?_;rintro e w1 ⟨rfl,d⟩;have l:=η (J.o.ext d);have m:=η (HX.o.trans d);clear d;go_wp2_with fail;refine(u.o _).mono ?_;rintro e w2 ⟨rfl,d⟩;have y:=η (l.o.ext d);have B:=η (m.o.trans d);clear d;obtain⟨S,U,V,Z,f1,f2,g2,Y⟩:=x.o w2 _ _ _ y.o (.string ⟨#[]⟩) (.string ⟨#[]⟩);go_wp2_with fail
  ((try simp only[Exit.inBlock,Exit.then]);refine bodyPost_ret (v:= .tuple #[.agg #[.string ⟨#[]⟩,.string ⟨#[]⟩,.float .f64 0],.string ⟨#[]⟩,.bool false]) (by rw[q0S rfl];go_simp) rfl ?_)
  exact⟨by rw[Q.o];rfl,q2N B.o _ _ _⟩
 have hd:decide ((R.length:Int)<8)=false:=ε (by omega);have s1:=q4G R 8 8 rfl (by omega);have s2:=q3D R 8 8 rfl (by omega);have l8:(R.take 8).length=8:=by rw[Θ];omega
 have HG:=η (fun W=>q9I (R.take 8) W (by omega));rw[show(R.take 8).take 8=R.take 8 from Δ (by omega)] at HG;have e0:=q2H (R.take 8);rw[l8] at e0;obtain⟨b,hb⟩: ∃b,q1K (R.take 8)=b:=⟨_,rfl⟩
 rw[hb] at HG;have q0:=z0R b;rw[G,I] at N;rw[G] at r;rw[I] at u;by_cases h4:q0x D F=0
 case neg=>
  have Q:Hd (rdE s=none):=η (by unfold rdE;rw[κ (by rw[G,I];exact fun h=>h4 h.2.2.2)]);have g0:(q0x D F !=0)=true:=by simpa using h4
  obtain⟨E,hE⟩: ∃E,q0x D F=E:=⟨_,rfl⟩
  rw[hE] at N g0;clear hE hb e0 G I hR h1 h2 h3 h4;go_enter Tryz.func133,Tryz.ntmps133;go_wp2_with fail;refine(r.o _).mono ?_;rintro e w1 ⟨rfl,d⟩;have l:=η (J.o.ext d);have m:=η (HX.o.trans d);clear d;go_wp2_with fail;refine(u.o _).mono ?_;rintro e w2 ⟨rfl,d⟩;have y:=η (l.o.ext d);have B:=η (m.o.trans d);clear d;go_wp2_with fail;refine(HG.o _).mono ?_;rintro e w3 ⟨rfl,d⟩;have M:=η (y.o.ext d);have b0:=η (B.o.trans d);clear d;obtain⟨S,U,V,Z,f1,f2,g2,Y⟩:=x.o w3 _ _ _ M.o (.string ⟨D.toArray⟩) (.string ⟨F.toArray⟩);go_wp2_with fail;refine(N.o b _).mono ?_;rintro e w4 ⟨rfl,d⟩;have a0:=η ((((M.o.set 0 (.string ⟨D.toArray⟩)).set 1 (.string ⟨F.toArray⟩)).set 2 (.float .f64 b)).ext d);have d0:=η ((q2N b0.o (.string ⟨D.toArray⟩) (.string ⟨F.toArray⟩) (.float .f64 b)).trans d);clear d S U V Z f1 f2 g2 Y;obtain⟨S,U,V,Z,f1,f2,g2,Y⟩:=x.o w4 _ _ _ a0.o (.string ⟨#[]⟩) (.string ⟨#[]⟩);go_wp2_with fail
  ((try simp only[Exit.inBlock,Exit.then]);refine bodyPost_ret (v:= .tuple #[.agg #[.string ⟨#[]⟩,.string ⟨#[]⟩,.float .f64 0],.string ⟨#[]⟩,.bool false]) (by rw[q0S rfl];go_simp) rfl ?_)
  exact⟨by rw[Q.o];rfl,q2N d0.o _ _ _⟩
 have Q:Hd (rdE s=some (⟨D,F,b⟩,R.drop 8)):=η (by unfold rdE;rw[G,I,hR,ξ ⟨h1,h2,by omega,h4⟩,hb]);rw[h4] at N;clear hb e0 G I hR h1 h2 h3 h4;go_enter Tryz.func133,Tryz.ntmps133;go_wp2_with fail;refine(r.o _).mono ?_;rintro e w1 ⟨rfl,d⟩;have l:=η (J.o.ext d);have m:=η (HX.o.trans d);clear d;go_wp2_with fail;refine(u.o _).mono ?_;rintro e w2 ⟨rfl,d⟩;have y:=η (l.o.ext d);have B:=η (m.o.trans d);clear d;go_wp2_with fail;refine(HG.o _).mono ?_;rintro e w3 ⟨rfl,d⟩;have M:=η (y.o.ext d);have b0:=η (B.o.trans d);clear d;obtain⟨S,U,V,Z,f1,f2,g2,Y⟩:=x.o w3 _ _ _ M.o (.string ⟨D.toArray⟩) (.string ⟨F.toArray⟩);go_wp2_with fail;refine(N.o b _).mono ?_;rintro e w4 ⟨rfl,d⟩;have X:=η ((((M.o.set 0 (.string ⟨D.toArray⟩)).set 1 (.string ⟨F.toArray⟩)).set 2 (.float .f64 b)).ext d);have a0:=η (X.o.ext (Ext.refl w4).drew);have d0:=η (((q2N b0.o (.string ⟨D.toArray⟩) (.string ⟨F.toArray⟩) (.float .f64 b)).trans d).drew);clear d S U V Z f1 f2 g2 Y;obtain⟨S,U,V,Z,f1,f2,g2,Y⟩:=x.o w4.drew _ _ _ a0.o (.string ⟨D.toArray⟩) (.string ⟨F.toArray⟩);obtain⟨i0,j0,k0,m0,n0,o0,p0,l0⟩:=x.o w4 _ _ _ X.o (.string ⟨D.toArray⟩) (.string ⟨F.toArray⟩);go_wp2_with fail;refine q3Q (fun W=>W.cell? ⟨w.heap.size,0,none⟩=some (.string ⟨D.toArray⟩)/\W.cell? ⟨w.heap.size,1,none⟩=some (.string ⟨F.toArray⟩)/\W.cell? ⟨w.heap.size,2,none⟩=some (.float .f64 b)) 3 (by kernel_rfl) ⟨S,U,V⟩ (fun j=>?_);refine q7q (i:=0) (v:=?_) rfl (by kernel_rfl) (fun _ _ _ h=>h) (Or.inl ⟨by rfl,?_⟩) j (fun j=>?_)
 rotate_left
 ·(intro w O;(try dsimp only at O);go_simp;try with_reducible rfl)
 try simp only[Act.put,π,ψ,ω]
 refine q0q (i:=1) (v:=?_) rfl (by kernel_rfl) (fun _ _ _ h=>h) (Or.inl ⟨by rfl,?_⟩) j (fun j=>?_)
 rotate_left
 ·(intro w O;(try dsimp only at O);go_simp;try with_reducible rfl)
 try simp only[Act.put,π,ψ,ω]
 refine q0q (i:=2) (v:=?_) rfl (by kernel_rfl) (fun _ _ _ h=>h) (Or.inl ⟨by rfl,?_⟩) j (fun j=>?_)
 rotate_left
 ·(intro w O;(try dsimp only at O);go_simp;try with_reducible rfl)
 try simp only[Act.put,π,ψ,ω]
 refine q3o (by kernel_rfl) ?_
 try simp only[List.drop_succ_cons,List.drop_zero]
 clear j;go_wp2_with fail
 ((try simp only[Exit.inBlock,Exit.then]);refine bodyPost_ret (v:= .tuple #[.agg #[.string ⟨D.toArray⟩,.string ⟨F.toArray⟩,.float .f64 b],.string ⟨(R.drop 8).toArray⟩,.bool true]) (by rw[q0S rfl];go_simp) rfl ?_)
 exact⟨by rw[Q.o];rfl,q2N d0.o _ _ _⟩
theorem z0L(e:Ev)(L:List Ev):q8K (e::L)=evc e++q8K L:=rfl
theorem q7I : ∀(L:List Ev) (i j:Nat),i<L.length->j<3->(q8K L)[i*3+j]? =(evc (L.getD i ev0))[j]?
 |[],i,j,h,_=>by simp at h
 | k::L,0,j,_,hj=>by
  rw[z0L,List.getElem?_append_left (by simp[evc];omega)];simp
 | k::L,i+1,j,h,hj=>by
  rw[z0L,List.getElem?_append_right (by simp[evc];omega),show(i+1)*3+j-(evc k).length=i*3+j from by simp[evc];omega,q7I L i j (by simpa using h) hj];simp
structure Evs(w:World)(ao:Option Addr)(n cap:Nat)(L:List Ev):Prop where
 len:L.length=n
 fits:n<=cap
 bound:cap<=9223372036854775807
 nil:ao=none->cap=0
 rd:Rd w ao (q8K L)
theorem Evs.ext(h:Evs w ao n cap L)(k:Ext w w'):Evs w' ao n cap L:=⟨h.len,h.fits,h.bound,h.nil,h.rd.ext k⟩
theorem Evs.at(h:Evs w ao n cap L)(o:i<n):
  ∃b off,ao=some ⟨b,off,none⟩/\w.cell? ⟨b,off+i*3,none⟩=some (.string ⟨(L.getD i ev0).ty.toArray⟩)/\w.cell? ⟨b,off+i*3+1,none⟩=some (.string ⟨(L.getD i ev0).da.toArray⟩)/\w.cell? ⟨b,off+i*3+2,none⟩=some (.float .f64 (L.getD i ev0).we):=by
 have r:=h.len;have k0:=q7I L i 0 (by omega) (by decide);have k1:=q7I L i 1 (by omega) (by decide);have m:=q7I L i 2 (by omega) (by decide);obtain⟨b,off,rfl,l⟩:=h.rd _ _ k0;obtain⟨_,_,d,h1⟩:=h.rd _ _ k1
 cases d;obtain⟨_,_,j,h2⟩:=h.rd _ _ m
 cases j;exact⟨b,off,rfl,l,h1,h2⟩
theorem Evs.of_own{B:Nat}{e:TypeId}{v:Value}(h:Own w B e 3 v L.length (q8K L)): ∃ao cap,v= .slice ao L.length cap/\Evs w ao L.length cap L:=by
 obtain⟨ao,cap,rfl,h1,h2,h3,h4⟩:=h.rd;exact⟨ao,cap,rfl,rfl,h1,h2,h3,h4⟩
theorem z0M : ∀(L:List Ev) (k:Nat),k<L.length->q7r (L.take k)=0->q7r L=if q0x (L.getD k ev0).ty (L.getD k ev0).da=0 then q7r (L.drop (k+1)) else q0x (L.getD k ev0).ty (L.getD k ev0).da
 |[],k,h,_=>by simp at h
 |e::L,0,_,_=>by simp[q7r]
 | e ::L,k+1,h,h0=>by
  rw[List.take_succ_cons,q7r] at h0
  split at h0
  ·rename_i h1
   rw[q7r,ξ h1,z0M L k (by simpa using h) h0];simp
  ·rename_i h1;exact absurd h0 h1
theorem z0N : ∀(L:List Ev) (e:Ev),q7r L=0->q7r (L++[e])=q0x e.ty e.da
 | [],e,_=>by
  rw[List.nil_append,q7r,q7r]
  split
  ·rename_i h;exact h.symm
  ·rfl
 | x::L,e,h=>by
  rw[q7r] at h
  split at h
  ·rename_i h1;rw[List.cons_append,q7r,ξ h1,z0N L e h]
  ·rename_i h1;exact absurd h h1
def q4F(L:List Ev):Prop:= ∀e∈L,e.ty.length<=4611686018427387903/\e.da.length<=4611686018427387903
theorem q8o(st:List UInt8)(fi:Int)(w:World)(B:Evs w ao n cap L)(i0:st.length<=4611686018427387903)(hL:q4F L):
  Calls Tryz.prog 86 #[.agg #[.string ⟨st.toArray⟩,.int .i64 fi,.slice ao n cap]] w fun e w'=>e= .returned (.int .i64 (q0n st fi L))/\Ext w w':=by
 have b1:=B.fits;have b2:=B.bound;have d:=B.len;have E:=η (q0B w (.cells #[.string ⟨st.toArray⟩,.int .i64 fi,.slice ao n cap] 160));have m:=Blk.new w 160 #[.string ⟨st.toArray⟩,.int .i64 fi,.slice ao n cap];have HE:=η B;have HL:=η hL;clear B hL;by_cases h1:st=[]
 ·subst h1
  have s:Hd (q0n [] fi L=2):=η (by unfold q0n;rw[ξ (.inl rfl)]);clear m;go_enter Tryz.func86,Tryz.ntmps86;go_wp2_with fail
  go_step3
  go_wp2_with fail;rw[Exit.noGoto_ret];go_ret;exact⟨by rw[s.o];rfl,E.o⟩
 have b0:(st==[])=false:=beq_eq_false_iff_ne.2 h1;by_cases h2:n=0
 ·subst h2
  have s:Hd (q0n st fi L=2):=η (by unfold q0n;rw[ξ (.inr (List.eq_nil_of_length_eq_zero d))]);clear m h1 d;go_enter Tryz.func86,Tryz.ntmps86;go_wp2_with fail
  go_step3
  go_wp2_with fail;rw[Exit.noGoto_ret];go_ret;exact⟨by rw[s.o];rfl,E.o⟩
 have d0:((n:Int)==0)=false:=by simpa using h2
 have u:L≠[]:=fun e=>h2 (by rw[<-d,e];rfl)
 have j:¬(st=[]\/L=[]):=fun h=>h.elim h1 u
 by_cases h3:32<st.length
 ·have s:Hd (q0n st fi L=3):=η (by unfold q0n;rw[κ j,ξ (.inl h3)])
  have hd:decide ((32:Int)<(st.length:Int))=true:=ζ (by omega);clear m h1 h2 u j d;go_enter Tryz.func86,Tryz.ntmps86;go_wp2_with fail
  go_step3
  go_wp2_with fail;rw[Exit.noGoto_ret];go_ret;exact⟨by rw[s.o];rfl,E.o⟩
 by_cases h4:8<n
 ·have s:Hd (q0n st fi L=3):=η (by unfold q0n;rw[κ j,ξ (.inr (by omega))])
  have hd:decide ((8:Int)<(n:Int))=true:=ζ (by omega);clear m h1 h2 u j d;go_enter Tryz.func86,Tryz.ntmps86;go_wp2_with fail
  go_step3
  go_wp2_with fail;rw[Exit.noGoto_ret];go_ret;exact⟨by rw[s.o];rfl,E.o⟩
 have l:¬(32<st.length\/8<L.length):=by omega
 have f0:decide ((8:Int)<(n:Int))=false:=ε (by omega);have q0:IntKind.i64.wrap (1073741824-(n:Int))=1073741824-(n:Int):=by rw[ν];omega
 by_cases N:fi<0\/1073741824-(n:Int)<fi
 ·have s:Hd (q0n st fi L=2):=η (by unfold q0n;rw[κ j,κ l,ξ (by rw[d];exact N)])
  have v:decide (fi<0)=true\/(decide (fi<0)=false/\decide (1073741824-(n:Int)<fi)=true):=by
   by_cases h:fi<0
   ·exact .inl (ζ h)
   ·exact .inr ⟨ε h,ζ (by omega)⟩
  clear m h1 h2 u j l d N;rcases v with v|⟨v,Z⟩
  all_goals
   go_enter Tryz.func86,Tryz.ntmps86;go_wp2_with fail
   go_step3
   go_wp2_with fail;rw[Exit.noGoto_ret];go_ret;exact⟨by rw[s.o];rfl,E.o⟩
 have v:decide (fi<0)=false:=ε (by omega);have Z:decide (1073741824-(n:Int)<fi)=false:=ε (by omega);have s:Hd (q0n st fi L=q7r L):=η (by unfold q0n;rw[κ j,κ l,κ (by rw[d];exact N)]);have I:=η d;clear m h1 h2 u j l d N;go_enter Tryz.func86,Tryz.ntmps86;go_wp2_with fail
 go_step3
 go_wp2_with fail
 go_step3
 go_wp2_with fail
 go_loopw [2,36] (fun e i W=> ∃k:Nat,k<=n/\i= .int .i64 (k:Int)/\e= .int .i64 0/\q7r (L.take k)=0/\Ext w W) (fun _ i _=>n-(intOf i).toNat)
 case atStart=>exact⟨0,υ _,rfl,rfl,rfl,E.o⟩
 case round=>
  obtain⟨k,hk,rfl,rfl,F,O⟩:=hrel;have G:=η O;by_cases M:k<n
  ·have a0:decide ((k:Int)<(n:Int))=true:=ζ (by omega)
   obtain⟨b,off,rfl,c0,c1,c2⟩:=(HE.o.ext O).at M;have r:k<L.length:=by rw[I.o];exact M
   have hT:L.take (k+1)=L.take k++[L.getD k ev0]:=by
    rw[List.take_succ_eq_append_getElem r];simp[List.getD,γ r]
   have Y:=z0N (L.take k) (L.getD k ev0) F;rw[<-hT] at Y;have HS:=η Y;have V:=η (z0M L k r F);have x:L.getD k ev0∈L:=by rw[δ,γ r];exact List.getElem_mem r
   obtain⟨m1,m2⟩:=HL.o _ x;have X:=η (q0B wr (.cells #[.string ⟨(L.getD k ev0).ty.toArray⟩,.string ⟨(L.getD k ev0).da.toArray⟩,.float .f64 (L.getD k ev0).we] 67));have q1:IntKind.i64.wrap ((k:Int)+1)=(k:Int)+1:=by rw[ν];omega
   generalize L.getD k ev0=y at*;obtain⟨Q,R,y3⟩:=y;have S:=η (fun W=>q9A Q R .f64 y3 W m1 m2);simp only at c0 c1 c2;have u0:=q0D c0;have u1:=q0D c1;have u2:=q0D c2;have g0:=q3x;clear hT r F Y x m1 m2 O;go_wp2_with fail;refine(S.o _).mono ?_;rintro e w1 ⟨rfl,B⟩;have J:=η ((G.o.trans X.o).trans B);clear B;by_cases hc:q0x Q R=0
   ·have U:Hd (q7r (L.take (k+1))=0):=η (by rw[HS.o];exact hc)
    rw[hc];go_wp2_with fail
    go_roundw
    case rel=>exact⟨k+1,by omega,by go_num,rfl,U.o,J.o⟩
    case measure=>simp[intOf];omega
   ·have D:Hd (q7r L=q0x Q R):=η (by rw[V.o,κ hc])
    have e0:(q0x Q R==0)=false:=by simpa using hc
    clear hc;go_wp2_with fail;rw[Exit.noGoto_ret];go_ret;exact⟨by rw[s.o,D.o];rfl,J.o⟩
  ·obtain rfl:k=n:=by omega
   have a0:decide ((k:Int)<(k:Int))=false:=ε (by omega);have D:Hd (q7r L=0):=η (by rw[<-I.o,List.take_length] at F;exact F);clear F O;go_wp2_with fail;rw[Exit.noGoto_ret];go_ret;exact⟨by rw[s.o,D.o];rfl,G.o⟩
theorem q1v{fn:Func}{p u v x:Tmp}{ty:TypeId}(h:fn.results=#[.cell p ty,.tmp u,.tmp v,.tmp x])(tmps:Array Value)(P:Program)(w:World):
  (results fn tmps).run P w=
   ((asAddr (tmps.getD p undef)).run P w).andThen fun a w₁=>((loadVar ty a).run P w₁).andThen fun y b=> .ok (.tuple #[y,tmps.getD u undef,tmps.getD v undef,tmps.getD x undef]) b:=by
 simp only[results,h];simp[Sem.run_bind,Result.andThen]
def q6d(s:List UInt8):Value:=if q5B s=true then .tuple #[.agg #[.string ⟨(rdT s).toArray⟩,.int .i64 (q1K ((rdR s).take 8):Int),.slice none 0 0],.int .i64 (((rdR s).getD 8 0).toNat:Int),.string ⟨((rdR s).drop 9).toArray⟩,.bool true]
 else .tuple #[.agg #[.string ⟨#[]⟩,.int .i64 0,.slice none 0 0],.int .i64 0,.string ⟨#[]⟩,.bool false]
theorem z9L(s:List UInt8)(w:World)(hl:s.length<=4611686018427387903):
  Calls Tryz.prog 165 #[.string ⟨s.toArray⟩] w fun e w'=>e= .returned (q6d s)/\Ext w w':=by
 have r:=η (fun W=>z1r s W hl);have m0:=z3J s;have b0:=q7c s;have S:=η (q0B w (.cells #[.string ⟨#[]⟩,.int .i64 0,.slice none 0 0] 160));have B:=η (Blk.new w 160 #[.string ⟨#[]⟩,.int .i64 0,.slice none 0 0])
 have y:Hd (∀(W:World) (a b c:Value),Blk W w.heap.size 160 #[a,b,c]-> ∀U V,W.cell? ⟨w.heap.size,0,none⟩=some a/\W.cell? ⟨w.heap.size,1,none⟩=some b/\W.cell? ⟨w.heap.size,2,none⟩=some c/\
   W.frozen? ⟨w.heap.size,0,none⟩=false/\W.frozen? ⟨w.heap.size,1,none⟩=false/\W.frozen? ⟨w.heap.size,2,none⟩=false/\((W.setCell ⟨w.heap.size,0,none⟩ U).setCell ⟨w.heap.size,1,none⟩ V).frozen? ⟨w.heap.size,2,none⟩=false/\
   ((W.setCell ⟨w.heap.size,0,none⟩ U).setCell ⟨w.heap.size,1,none⟩ V).cell? ⟨w.heap.size,2,none⟩=some c):=η fun W a b c h U V=>by
  have h2:=(h.set 0 U).set 1 V;exact⟨h.cell 0,h.cell 1,h.cell 2,h.free 0,h.free 1,h.free 2,h2.free 2,h2.cell 2⟩
 by_cases h1:q7t s=true
 case neg=>
  rw[Bool.not_eq_true] at h1;have F:Hd (q6d s= .tuple #[.agg #[.string ⟨#[]⟩,.int .i64 0,.slice none 0 0],.int .i64 0,.string ⟨#[]⟩,.bool false]):=η (by unfold q6d q5B;rw[h1];rfl);rw[h1] at r;go_enter Tryz.func165,Tryz.ntmps165;go_wp2_with fail;refine(r.o _).mono ?_;rintro e w1 ⟨rfl,l⟩;have u:=η (B.o.ext l);have x:=η (S.o.trans l);clear l;obtain⟨Y,Z,c2,f0,f1,f2,g2,d2⟩:=y.o w1 _ _ _ u.o (.string ⟨#[]⟩) (.int .i64 0);go_wp2_with fail
  ((try simp only[Exit.inBlock,Exit.then]);refine bodyPost_ret (v:= .tuple #[.agg #[.string ⟨#[]⟩,.int .i64 0,.slice none 0 0],.int .i64 0,.string ⟨#[]⟩,.bool false]) (by rw[q1v rfl];go_simp) rfl ?_)
  exact⟨by rw[F.o],q2N x.o _ _ _⟩
 rw[h1] at r;obtain⟨R,I⟩: ∃R,rdR s=R:=⟨_,rfl⟩
 rw[I] at r b0;by_cases h3:R.length<9
 ·have F:Hd (q6d s= .tuple #[.agg #[.string ⟨#[]⟩,.int .i64 0,.slice none 0 0],.int .i64 0,.string ⟨#[]⟩,.bool false]):=η (by unfold q6d q5B;rw[h1,I,ε (by omega)];rfl)
  have hd:decide ((R.length:Int)<9)=true:=ζ (by omega);clear I;go_enter Tryz.func165,Tryz.ntmps165;go_wp2_with fail;refine(r.o _).mono ?_;rintro e w1 ⟨rfl,l⟩;have u:=η (B.o.ext l);have x:=η (S.o.trans l);clear l;obtain⟨Y,Z,c2,f0,f1,f2,g2,d2⟩:=y.o w1 _ _ _ u.o (.string ⟨#[]⟩) (.int .i64 0);go_wp2_with fail
  ((try simp only[Exit.inBlock,Exit.then]);refine bodyPost_ret (v:= .tuple #[.agg #[.string ⟨#[]⟩,.int .i64 0,.slice none 0 0],.int .i64 0,.string ⟨#[]⟩,.bool false]) (by rw[q1v rfl];go_simp) rfl ?_)
  exact⟨by rw[F.o],q2N x.o _ _ _⟩
 have hd:decide ((R.length:Int)<9)=false:=ε (by omega);have s1:=q4G R 8 8 rfl (by omega);have s2:=q3D R 9 9 rfl (by omega);have l8:(R.take 8).length=8:=by rw[Θ];omega
 have Q:=η (fun W=>q9I (R.take 8) W (by omega));rw[show(R.take 8).take 8=R.take 8 from Δ (by omega)] at Q;have E:=q2H (R.take 8);rw[l8] at E;obtain⟨b,N⟩: ∃b,q1K (R.take 8)=b:=⟨_,rfl⟩
 rw[N] at Q E;by_cases h4:1073741824<b
 ·have F:Hd (q6d s= .tuple #[.agg #[.string ⟨#[]⟩,.int .i64 0,.slice none 0 0],.int .i64 0,.string ⟨#[]⟩,.bool false]):=η (by unfold q6d q5B;rw[I,N,ε (p:=b<=1073741824) (by omega),Bool.and_false];rfl)
  have a0:decide ((1073741824:Int)<(b:Int))=true:=ζ (by omega);clear N E I h3;go_enter Tryz.func165,Tryz.ntmps165;go_wp2_with fail;refine(r.o _).mono ?_;rintro e w1 ⟨rfl,l⟩;have u:=η (B.o.ext l);have x:=η (S.o.trans l);clear l;go_wp2_with fail;refine(Q.o _).mono ?_;rintro e O ⟨rfl,l⟩;have D:=η (u.o.ext l);have G:=η (x.o.trans l);clear l;obtain⟨Y,Z,c2,f0,f1,f2,g2,d2⟩:=y.o O _ _ _ D.o (.string ⟨#[]⟩) (.int .i64 0);go_wp2_with fail
  ((try simp only[Exit.inBlock,Exit.then]);refine bodyPost_ret (v:= .tuple #[.agg #[.string ⟨#[]⟩,.int .i64 0,.slice none 0 0],.int .i64 0,.string ⟨#[]⟩,.bool false]) (by rw[q1v rfl];go_simp) rfl ?_)
  exact⟨by rw[F.o],q2N G.o _ _ _⟩
 have a0:decide ((1073741824:Int)<(b:Int))=false:=ε (by omega);obtain⟨m,hm⟩: ∃m:Nat,(R.getD 8 0).toNat=m:=⟨_,rfl⟩
 have n0:m<256:=by rw[<-hm];exact(R.getD 8 0).toNat_lt
 have hb8:8<(⟨R.toArray⟩:ByteArray).size:=by show 8<R.length;omega
 have e8:((⟨R.toArray⟩:ByteArray)[8]'hb8).toNat=m:=by
  rw[<-hm,δ,γ (show 8<R.length by omega)];rfl
 have h8:(8:Int)<(R.length:Int):=by omega
 have q1:IntKind.i64.wrap (b:Int)=(b:Int):=by rw[ν];omega
 have q2:IntKind.i64.wrap (m:Int)=(m:Int):=by rw[ν];omega
 have F:Hd (q6d s= .tuple #[.agg #[.string ⟨(rdT s).toArray⟩,.int .i64 (b:Int),.slice none 0 0],.int .i64 (m:Int),.string ⟨(R.drop 9).toArray⟩,.bool true]):=η (by
  unfold q6d q5B
  rw[I,N,h1,hm,ζ (p:=9<=R.length) (by omega),ζ (p:=b<=1073741824) (by omega)];rfl)
 obtain⟨X,M⟩: ∃T,rdT s=T:=⟨_,rfl⟩
 rw[M] at F r;clear N E I h3 h4 M hm;go_enter Tryz.func165,Tryz.ntmps165;go_wp2_with fail;refine(r.o _).mono ?_;rintro e w1 ⟨rfl,l⟩;have u:=η (B.o.ext l);have x:=η (S.o.trans l);clear l;go_wp2_with fail;refine(Q.o _).mono ?_;rintro e O ⟨rfl,l⟩;have D:=η (u.o.ext l);have J:=η (D.o.ext (Ext.refl O).drew);have G:=η ((x.o.trans l).drew);clear l;obtain⟨Y,Z,c2,f0,f1,f2,g2,d2⟩:=y.o O _ _ _ D.o (.string ⟨X.toArray⟩) (.int .i64 (b:Int));obtain⟨d0,e0,g0,i0,j0,k0,l0,h0⟩:=y.o O.drew _ _ _ J.o (.string ⟨X.toArray⟩) (.int .i64 (b:Int));go_wp2_with fail;refine q3Q (fun W=>True) 9 (by kernel_rfl) trivial (fun d=>?_);refine q0q (i:=0) (v:=?_) rfl (by kernel_rfl) (fun _ _ _ h=>h) (Or.inl ⟨by rfl,?_⟩) d (fun d=>?_)
 rotate_left
 ·(intro w j;(try dsimp only at j);go_simp;try with_reducible rfl)
 try simp only[Act.put,π,ψ,ω]
 refine q0q (i:=1) (v:=?_) rfl (by kernel_rfl) (fun _ _ _ h=>h) (Or.inl ⟨by rfl,?_⟩) d (fun d=>?_)
 rotate_left
 ·(intro w j;(try dsimp only at j);go_simp;try with_reducible rfl)
 try simp only[Act.put,π,ψ,ω]
 refine q0q (i:=2) (v:=?_) rfl (by kernel_rfl) (fun _ _ _ h=>h) (Or.inl ⟨by rfl,?_⟩) d (fun d=>?_)
 rotate_left
 ·(intro w j;(try dsimp only at j);go_simp;try with_reducible rfl)
 try simp only[Act.put,π,ψ,ω]
 refine q0q (i:=3) (v:=?_) rfl (by kernel_rfl) (fun _ _ _ h=>h) (Or.inl ⟨by rfl,?_⟩) d (fun d=>?_)
 rotate_left
 ·(intro w j;(try dsimp only at j);go_simp;try with_reducible rfl)
 try simp only[Act.put,π,ψ,ω]
 refine q0q (i:=4) (v:=?_) rfl (by kernel_rfl) (fun _ _ _ h=>h) (Or.inl ⟨by rfl,?_⟩) d (fun d=>?_)
 rotate_left
 ·(intro w j;(try dsimp only at j);go_simp;try with_reducible rfl)
 try simp only[Act.put,π,ψ,ω]
 refine q0q (i:=5) (v:=?_) rfl (by kernel_rfl) (fun _ _ _ h=>h) (Or.inl ⟨by rfl,?_⟩) d (fun d=>?_)
 rotate_left
 ·(intro w j;(try dsimp only at j);go_simp;try with_reducible rfl)
 try simp only[Act.put,π,ψ,ω]
 refine q0q (i:=6) (v:=?_) rfl (by kernel_rfl) (fun _ _ _ h=>h) (Or.inl ⟨by rfl,?_⟩) d (fun d=>?_)
 rotate_left
 ·(intro w j;(try dsimp only at j);go_simp;try with_reducible rfl)
 try simp only[Act.put,π,ψ,ω]
 refine q0q (i:=7) (v:=?_) rfl (by kernel_rfl) (fun _ _ _ h=>h) (Or.inl ⟨by rfl,?_⟩) d (fun d=>?_)
 rotate_left
 ·(intro w j;(try dsimp only at j);go_simp;try with_reducible rfl)
 try simp only[Act.put,π,ψ,ω]
 refine q0q (i:=8) (v:=?_) rfl (by kernel_rfl) (fun _ _ _ h=>h) (Or.inl ⟨by rfl,?_⟩) d (fun d=>?_)
 rotate_left
 ·(intro w j;(try dsimp only at j);go_simp;try with_reducible rfl)
 try simp only[Act.put,π,ψ,ω]
 refine q3o (by kernel_rfl) ?_
 try simp only[List.drop_succ_cons,List.drop_zero]
 clear d;go_wp2_with fail
 ((try simp only[Exit.inBlock,Exit.then]);refine bodyPost_ret (v:= .tuple #[.agg #[.string ⟨X.toArray⟩,.int .i64 (b:Int),.slice none 0 0],.int .i64 (m:Int),.string ⟨(R.drop 9).toArray⟩,.bool true]) (by rw[q1v rfl];go_simp) rfl ?_)
 exact⟨by rw[F.o],q2N G.o _ _ _⟩
theorem Tryz.infoEv :(Tryz.prog.info? 67).map (fun i=>(i.zero,i.size,i.bytes))=some (some (.agg #[.string ⟨#[]⟩,.string ⟨#[]⟩,.float .f64 0]),3,40):=by kernel_rfl
theorem z6Z(s:List UInt8)(k:Nat)(h:z2A k s=none): ∀m,k<=m->z2A m s=none:=by
 intro m hm;obtain⟨d,rfl⟩:=Nat.le.dest hm;clear hm
 induction d with
 |zero=>exact h
 |succ d ih=>rw[<-Nat.add_assoc,z2A,ih];rfl
theorem y0D(s:List UInt8): ∃e R o,y2K (rdE s)= .tuple #[evV e,.string ⟨R.toArray⟩,.bool o]/\(o=true->rdE s=some (e,R))/\(o=false->rdE s=none)/\e.ty.length<=16/\e.da.length<=200/\R.length<=s.length:=by
 by_cases h:q7t s=true/\q7t (rdR s)=true/\8<=(rdR (rdR s)).length/\q0x (rdT s) (rdT (rdR s))=0
 ·have b:rdE s=some (⟨rdT s,rdT (rdR s),q1K ((rdR (rdR s)).take 8)⟩,(rdR (rdR s)).drop 8):=by unfold rdE;rw[ξ h]
  obtain⟨_,h2,h3⟩:=q3A h.2.2.2;have d:=q7c s;have j:=q7c (rdR s);exact⟨_,_,true,by rw[b];rfl,fun _=>b,fun e=>by simp at e,h2,h3,by rw[List.length_drop];omega⟩
 ·have b:rdE s=none:=by unfold rdE;rw[κ h]
  exact⟨ev0,[],false,by rw[b];rfl,fun e=>by simp at e,fun _=>b,by decide,by decide,υ _⟩
theorem z8B(s:List UInt8): ∃st fi m R o,q6d s= .tuple #[.agg #[.string ⟨st.toArray⟩,.int .i64 ((fi:Nat):Int),.slice none 0 0],.int .i64 ((m:Nat):Int),.string ⟨R.toArray⟩,.bool o]/\st.length<=s.length/\R.length<=s.length/\m<=255/\fi<=1073741824/\
  (∀es T,o=true->z2A m R=some (es,T)->q4s s=if T=[] then(if q0n st (fi:Int) es=0 then some ⟨st,fi,es⟩ else none) else none)/\((o=false\/z2A m R=none)->q4s s=none):=by
 have j:=z3J s;have l:=q7c s;by_cases h:q5B s=true
 ·have d:=h
  unfold q5B at d;simp only[Ξ,Φ] at d;refine⟨rdT s,q1K ((rdR s).take 8),((rdR s).getD 8 0).toNat,(rdR s).drop 9,true,by unfold q6d;rw[ξ h],by omega,by rw[List.length_drop];omega,by have:=UInt8.toNat_lt ((rdR s).getD 8 0);omega,d.2,fun es T _ he=>?_,fun he=>?_⟩
  ·unfold q4s
   rw[ξ h,he]
   cases T with
   |nil=>rfl
   |cons a b=>rfl
  ·rcases he with he|he
   ·cases he
   ·unfold q4s;rw[ξ h,he]
 ·refine⟨[],0,0,[],false,by unfold q6d;rw[κ h];rfl,υ _,υ _,by omega,by omega,fun es T e=>by simp at e,fun _=>by unfold q4s;rw[κ h]⟩
def y1z(B:Nat)(w:World)(r:Option Bt)(v:Value):Prop:=match r with
 |none=>v= .tuple #[.agg #[.string ⟨#[]⟩,.int .i64 0,.slice none 0 0],.int .i64 10]
 |some b=> ∃x,v= .tuple #[.agg #[.string ⟨b.st.toArray⟩,.int .i64 (b.fi:Int),x],.int .i64 0]/\Own w B 67 3 x b.ev.length (q8K b.ev)
theorem y0m{W:World}{t:TypeId}{a b c:Value}(h:Blk W q t #[a,b,c])(d j:Value):W.cell? ⟨q,0,none⟩=some a/\W.cell? ⟨q,1,none⟩=some b/\W.cell? ⟨q,2,none⟩=some c/\
   W.frozen? ⟨q,0,none⟩=false/\W.frozen? ⟨q,1,none⟩=false/\W.frozen? ⟨q,2,none⟩=false/\((W.setCell ⟨q,0,none⟩ d).setCell ⟨q,1,none⟩ j).frozen? ⟨q,2,none⟩=false/\
   ((W.setCell ⟨q,0,none⟩ d).setCell ⟨q,1,none⟩ j).cell? ⟨q,2,none⟩=some c:=by
 have h2:=(h.set 0 d).set 1 j;exact⟨h.cell 0,h.cell 1,h.cell 2,h.free 0,h.free 1,h.free 2,h2.free 2,h2.cell 2⟩
theorem q4T(h:Ext w w1)(hq:w.heap.size<=q)(a b c:Value):Ext w (((w1.setCell ⟨q,0,none⟩ a).setCell ⟨q,1,none⟩ b).setCell ⟨q,2,none⟩ c):=
 ((h.setCell (p:=⟨q,0,none⟩) hq a).setCell (p:=⟨q,1,none⟩) hq b).setCell (p:=⟨q,2,none⟩) hq c
theorem z8q(s :List UInt8)(w:World)(hl:s.length<=4611686018427387903):
  Calls Tryz.prog 103 #[.string ⟨s.toArray⟩] w fun e w'=>(∃v,e= .returned v/\y1z w.heap.size w' (q4s s) v)/\Ext w w':=by
 have HH:=η (fun W=>z9L s W hl);obtain⟨st,fi,m,S9,o0,hv,t1,p1,hm,r1,hG,J0⟩:=z8B s;rw[hv] at HH;have HG:=η hG;have l0:=η J0;have HX:=η (q0B w (.cells #[.string ⟨#[]⟩,.int .i64 0,.slice none 0 0] 160));have v0:=η (Blk.new w 160 #[.string ⟨#[]⟩,.int .i64 0,.slice none 0 0]);have s1:=q3x;clear hv hG J0;obtain⟨q,hq⟩: ∃q,w.heap.size=q:=⟨_,rfl⟩
 have HQ:=η hq;have Y:Hd (w.heap.size<=q):=η (by omega);rw[hq] at v0;go_enter Tryz.func103,Tryz.ntmps103;go_wp2_with fail;refine(HH.o _).mono ?_;rintro e w1 ⟨rfl,G⟩;have w0:=η (v0.o.ext G);have G0:=η (HX.o.trans G);clear G;go_wp2_with fail;obtain⟨j,P0⟩: ∃j,w1.heap.size=j:=⟨_,rfl⟩
 have O0:w.heap.size<=w1.heap.size:=G0.o.size;have m0:Hd (q+1<=j):=η (by have:=w0.o.lt;omega);have n0:Hd (w.heap.size<=j):=η (by omega);have V0:=η (w0.o.ext (q0B w1 (.cells #[.string ⟨st.toArray⟩,.int .i64 (fi:Int),.slice none 0 0] 160)));have Z0:=η (G0.o.trans (q0B w1 (.cells #[.string ⟨st.toArray⟩,.int .i64 (fi:Int),.slice none 0 0] 160)));have y0:=η (Blk.new w1 160 #[.string ⟨st.toArray⟩,.int .i64 (fi:Int),.slice none 0 0]);rw[P0] at y0⊢;clear P0 O0
 go_loopw [6,7] (fun r o W=> ∃es R ao O b,r= .string ⟨(R:List UInt8).toArray⟩/\o= .bool b/\Blk W j 160 #[.string ⟨st.toArray⟩,.int .i64 (fi:Int),.slice ao es.length O]/\
   W.ownsRow (j+1) 67 3 (.slice ao es.length O) es.length (q8K es)/\es.length<=m/\(b=true->o0=true/\z2A es.length S9=some (es,R))/\(b=false->o0=false\/z2A m S9=none)/\q4F es/\
   R.length<=4611686018427387903/\Blk W q 160 #[.string ⟨#[]⟩,.int .i64 0,.slice none 0 0]/\Ext w W)
  (fun _ _ W=>m-(match W.cell? ⟨j,2,none⟩ with|some (.slice _ n _)=>n|_=>0))
 case atStart=>
  refine⟨[],S9,none,0,o0,rfl,rfl,y0.o,World.ownsRow_nil _ _ _ _,υ _,fun h=>⟨h,rfl⟩,fun h=> .inl h,(fun e he=>absurd he (List.not_mem_nil)),by omega,V0.o,Z0.o⟩
 case round =>
  obtain⟨es,R,ao,O,b,rfl,rfl,d,J,N0,hT,hF,R0,a1,K0,T0⟩:=hrel;obtain⟨m1,n1,d1,g0⟩:=Evs.of_own (Own.of_row J)
  cases d1;obtain⟨k,hk⟩: ∃k,es.length=k:=⟨_,rfl⟩
  have M0:=g0.fits;have l1:=g0.bound;have z0:=η g0;clear g0;rw[hk] at d J N0 hT M0 z0;have HK:=η hk;have X:=η d;have D0:=η J;have HT:=η hT;have HF:=η hF;have F0:=η R0;have N:=η K0;have a0:=η T0;have c0:wr.cell? ⟨j,0,none⟩=some (.string ⟨st.toArray⟩):=d.cell 0;have c1:wr.cell? ⟨j,1,none⟩=some (.int .i64 (fi:Int)):=d.cell 1;have c2:wr.cell? ⟨j,2,none⟩=some (.slice ao k O):=d.cell 2;clear hk d J hT hF R0 K0 T0
  cases b with
  | false=>
   have l:Hd (q4s s=none):=η (l0.o (HF.o rfl));obtain⟨k0,k1,k2,f0,f1,f2,g2,d2⟩:=y0m N.o (.string ⟨#[]⟩) (.int .i64 0);clear HT HF;go_wp2_with fail
   ((try simp only[Exit.inBlock,Exit.then]);refine bodyPost_ret (v:= .tuple #[.agg #[.string ⟨#[]⟩,.int .i64 0,.slice none 0 0],.int .i64 10]) (by rw[q0u rfl];go_simp) rfl ?_)
   exact⟨⟨_,rfl,by rw[l.o];exact rfl⟩,q4T a0.o Y.o _ _ _⟩
  | true =>
   by_cases g1:k<m
   ·have hd:decide ((k:Int)<(m:Int))=true:=ζ (by omega)
    obtain⟨⟨y,B,D⟩,R',o',hv,hy,hn,u1,v1,o1⟩:=y0D R;have S0:y2K (rdE R)= .tuple #[.agg #[.string ⟨y.toArray⟩,.string ⟨B.toArray⟩,.float .f64 D],.string ⟨R'.toArray⟩,.bool o']:=hv;have HE:=η (fun W=>z9W R W a1);rw[S0] at HE;have HY:=η hy;have HN:=η hn;clear hv S0 hy hn;go_wp2_with fail;refine(HE.o _).mono ?_;rintro e V ⟨rfl,G⟩;obtain⟨x,Q0⟩: ∃x,wr.heap.size=x:=⟨_,rfl⟩
    rw[Q0];have U0:=(q0B wr (.cells #[.string ⟨#[]⟩,.string ⟨#[]⟩,.float .f64 0] 67)).trans G;have d0:=(Blk.new wr 67 #[.string ⟨#[]⟩,.string ⟨#[]⟩,.float .f64 0]).ext G;rw[Q0] at d0;obtain⟨k0,k1,k2,f0,f1,f2,g2,d2⟩:=y0m d0 (.string ⟨y.toArray⟩) (.string ⟨B.toArray⟩);have hex:=q4T U0 (q:=x) (by omega) (.string ⟨y.toArray⟩) (.string ⟨B.toArray⟩) (.float .f64 D);have I:=((d0.set 0 (.string ⟨y.toArray⟩)).set 1 (.string ⟨B.toArray⟩)).set 2 (.float .f64 D);have e0:((((V.setCell ⟨x,0,none⟩ (.string ⟨y.toArray⟩)).setCell ⟨x,1,none⟩ (.string ⟨B.toArray⟩)).setCell ⟨x,2,none⟩ (.float .f64 D)).cell? ⟨x,0,none⟩)=some (.string ⟨y.toArray⟩):=I.cell 0;have e1:((((V.setCell ⟨x,0,none⟩ (.string ⟨y.toArray⟩)).setCell ⟨x,1,none⟩ (.string ⟨B.toArray⟩)).setCell ⟨x,2,none⟩ (.float .f64 D)).cell? ⟨x,1,none⟩)=some (.string ⟨B.toArray⟩):=I.cell 1;have e2:((((V.setCell ⟨x,0,none⟩ (.string ⟨y.toArray⟩)).setCell ⟨x,1,none⟩ (.string ⟨B.toArray⟩)).setCell ⟨x,2,none⟩ (.float .f64 D)).cell? ⟨x,2,none⟩)=some (.float .f64 D):=I.cell 2;have e3:((((V.setCell ⟨x,0,none⟩ (.string ⟨y.toArray⟩)).setCell ⟨x,1,none⟩ (.string ⟨B.toArray⟩)).setCell ⟨x,2,none⟩ (.float .f64 D)).cell? ⟨j,2,none⟩)=some (.slice ao k O):=(X.o.ext hex).cell 2;have M:=hex.trans (q0B _ (.cells #[.string ⟨y.toArray⟩,.string ⟨B.toArray⟩,.float .f64 D] 67));have h0:=η (X.o.ext M);have i0:=η (N.o.ext M);have Z:=η (q0N D0.o M);have I0:=η (a0.o.trans M);have Y0:=η (show j+1<=_ from Ω (show j+1<=wr.heap.size from X.o.lt) M.size);have u0:=Rd.lit (((V.setCell ⟨x,0,none⟩ (.string ⟨y.toArray⟩)).setCell ⟨x,1,none⟩ (.string ⟨B.toArray⟩)).setCell ⟨x,2,none⟩ (.float .f64 D)) #[.string ⟨y.toArray⟩,.string ⟨B.toArray⟩,.float .f64 D] 67;rw[World.size_setCell,World.size_setCell,World.size_setCell] at u0;have X0:=η u0;clear G U0 d0 hex I M u0
    go_wp2_with (at_builtin;refine q0Q rfl (.tmp 31) (.tmp 33) 40 rfl (j+1) 67 _ 3 40 Tryz.underlying40 Tryz.infoEv (by decide) (by decide) _ k (q8K es) rfl Z.o _ 1 1 (evc ⟨y,B,D⟩) rfl rfl (fun h=>by cases h) X0.o (fun u hu=>z7q [⟨y,B,D⟩] u (by simpa [q8K] using hu)) (by unfold maxLen;omega) (by omega) Y0.o ?_;intro v4 w4 U E b1;obtain⟨a4,c4,rfl⟩:=q0I U;have b0:=h0.o.same (E.block j h0.o.lt (fun e=>by have:=(q0i Z.o j e.symm).1;omega));have d6:=b0.cell 2;have d7:=b0.free 2;have x0:=η b0;have C0:=η U;have A0:=η E;clear U E b1 b0)
    have L0:=i0.o.same (A0.o.block q i0.o.lt (fun e=>by have:=(q0i Z.o q e.symm).1;have:=m0.o;omega));have j1:=q1a I0.o (Own.of_row (q1B Z.o (show w.heap.size<=j+1 by have:=n0.o;omega))) A0.o I0.o.size;obtain⟨i1,j0⟩:=HT.o trivial;have F:(es++[(⟨y,B,D⟩:Ev)]).length=k+1:=by rw[θ,HK.o];rfl
    refine⟨⟨es++[⟨y,B,D⟩],R',a4,c4,o',rfl,rfl,?_,?_,by omega,fun h=>⟨i1,?_⟩,fun h=> .inr ?_,?_,by omega,L0.o (by have:=m0.o;omega) _ _,j1.setCell (p:=⟨j,2,none⟩) n0.o _⟩,?_⟩
    ·rw[F];exact x0.o.set 2 _
    ·rw [F,z1Z]
     refine q1F (a:=⟨j,2,none⟩) ?_ _ (fun e=>?_)
     ·have h:=C0.o
      rw[show q8K [(⟨y,B,D⟩:Ev)]=evc ⟨y,B,D⟩ from by simp[q8K]];exact h
     ·have:=(q0i C0.o j e).1
      omega
    ·rw[F,z2A,j0,Option.bind_some,HY.o h];rfl
    ·refine z6Z _ (k+1) ?_ m g1
     rw[z2A,j0,Option.bind_some,HN.o h];rfl
    ·intro e he
     rcases List.mem_append.1 he with he|he
     ·exact F0.o e he
     ·obtain rfl:=List.mem_singleton.1 he
      exact⟨by simp only;omega,by simp only;omega⟩
    ·have h6:(w4.setCell ⟨j,2,none⟩ (.slice a4 (k+1) c4)).cell? ⟨j,2,none⟩=some (.slice a4 (k+1) c4):=(x0.o.set 2 _).cell 2
     rw[h6,c2];simp only;omega
   ·have hd:decide ((k:Int)<(m:Int))=false:=ε (by omega)
    obtain rfl:k=m:=by omega
    obtain⟨q0,s0⟩:=HT.o rfl;have Q:=HG.o _ _ q0 s0;obtain⟨k0,k1,k2,f0,f1,f2,g2,d2⟩:=y0m N.o (.string ⟨#[]⟩) (.int .i64 0)
    cases R with
    | cons r0 R=>
     have l:Hd (q4s s=none):=η (by rw[Q];rfl);clear Q q0 s0 HT HF HG l0;go_wp2_with fail
     ((try simp only[Exit.inBlock,Exit.then]);refine bodyPost_ret (v:= .tuple #[.agg #[.string ⟨#[]⟩,.int .i64 0,.slice none 0 0],.int .i64 10]) (by rw[q0u rfl];go_simp) rfl ?_)
     exact⟨⟨_,rfl,by rw[l.o];exact rfl⟩,q4T a0.o Y.o _ _ _⟩
    | nil =>
     have HC:=η (fun W (h:Evs W ao k O es)=>q8o st (fi:Int) W h (by omega) F0.o);rw[ξ rfl] at Q;have B0:=η Q;clear Q q0 s0 HT HF HG l0 k0 k1 k2 f0 f1 f2 g2 d2;go_wp2_with fail;refine(HC.o _ z0.o).mono ?_;rintro e V ⟨rfl,G⟩;have H0:=η (a0.o.trans G);have E0:=η (q0N D0.o G);have d:=X.o.ext G;have c0:V.cell? ⟨j,0,none⟩=some (.string ⟨st.toArray⟩):=d.cell 0;have c1:V.cell? ⟨j,1,none⟩=some (.int .i64 (fi:Int)):=d.cell 1;have c2:V.cell? ⟨j,2,none⟩=some (.slice ao k O):=d.cell 2;by_cases S:q0n st (fi:Int) es=0
     ·have p0:Hd (q4s s=some ⟨st,fi,es⟩):=η (by rw[B0.o,ξ S])
      obtain⟨k0,k1,k2,f0,f1,f2,g2,d2⟩:=y0m (N.o.ext G) (.string ⟨st.toArray⟩) (.int .i64 (fi:Int))
      have W0:Hd (Own (((V.setCell ⟨q,0,none⟩ (.string ⟨st.toArray⟩)).setCell ⟨q,1,none⟩ (.int .i64 (fi:Int))).setCell ⟨q,2,none⟩ (.slice ao k O)) w.heap.size 67 3 (.slice ao k O) es.length (q8K es)):=η (by
       rw[HK.o];have t0:(Value.slice ao k O).ownBlock≠some q:=fun e=>by have:=(q0i E0.o q e).1;have:=m0.o;omega
       exact((((Own.of_row E0.o).setOther (a:=⟨q,0,none⟩) _ t0).setOther (a:=⟨q,1,none⟩) _ t0).setOther (a:=⟨q,2,none⟩) _ t0).base (by have:=n0.o;omega))
      rw[S];clear G d S;go_wp2_with fail
      ((try simp only[Exit.inBlock,Exit.then]);refine bodyPost_ret (v:= .tuple #[.agg #[.string ⟨st.toArray⟩,.int .i64 (fi:Int),.slice ao k O],.int .i64 0]) (by rw[q0u rfl];go_simp) rfl ?_)
      refine⟨⟨_,rfl,by rw[p0.o];exact⟨_,rfl,W0.o⟩⟩,q4T H0.o Y.o _ _ _⟩
     ·have l:Hd (q4s s=none):=η (by rw[B0.o,κ S])
      have q1:(q0n st (fi:Int) es==0)=false:=by simpa using S
      obtain⟨k0,k1,k2,f0,f1,f2,g2,d2⟩:=y0m (N.o.ext G) (.string ⟨#[]⟩) (.int .i64 0);generalize q0n st (fi:Int) es=bc at*;clear G d;go_wp2_with fail
      ((try simp only[Exit.inBlock,Exit.then]);refine bodyPost_ret (v:= .tuple #[.agg #[.string ⟨#[]⟩,.int .i64 0,.slice none 0 0],.int .i64 10]) (by rw[q0u rfl];go_simp) rfl ?_)
      exact⟨⟨_,rfl,by rw[l.o];exact rfl⟩,q4T H0.o Y.o _ _ _⟩
theorem z0O: ∀{L:List (Nat×List UInt8)} (hp:L.Pairwise z4t) {a:Nat} {p:List UInt8} {R:List (Nat×List UInt8)},L.filter (fun r=>decide (pos<=(r.1:Int)))=(a,p)::R->
  L.filter (fun r=>decide ((a:Int)+(p.length:Int)+12<=(r.1:Int)))=R
 |[],_,_,_,_,h=>by cases h
 | x ::t,hp,a,p,R,h=>by
  obtain⟨h1,h2⟩:=List.pairwise_cons.1 hp;by_cases b:pos<=(x.1:Int)
  ·rw[List.filter_cons_of_pos (by simpa using b)] at h
   injection h with j l;subst j;simp only at b;rw[List.filter_cons_of_neg (by simp;omega),<-l,List.filter_eq_self.2,List.filter_eq_self.2]
   ·intro y d;have:=h1 y d;unfold z4t at this;simp only at this;simp;omega
   ·intro y d;have:=h1 y d;unfold z4t at this;simp only at this;simp;omega
  ·rw[List.filter_cons_of_neg (by simpa using b)] at h
   have hm:(a,p)∈t.filter (fun r=>decide (pos<=(r.1:Int))):=by rw[h];exact List.mem_cons_self
   have h3:=(List.mem_filter.1 hm).2;simp only[Φ] at h3;rw[List.filter_cons_of_neg (by simp;omega)];exact z0O h2 h
def q2Y(C:Cks)(pos:Int):List (Nat×List UInt8):=(q0c 0 C).filter (fun r=>decide (pos<=(r.1:Int)))
theorem z4I(C:Cks)(pos:Int):q3c C pos=(q2Y C pos).head? :=by unfold q3c q2Y;rw[List.head?_filter]
theorem z4J(h:okC C){a:Nat}{p:List UInt8}{R:List (Nat×List UInt8)}(e:q2Y C pos=(a,p)::R):q2Y C ((a:Int)+(p.length:Int)+12)=R:=
 z0O (q5i C 0 h.size) e
theorem z5n(h:okC C){r:Nat×List UInt8}(l:r∈q2Y C pos):r.1<4096*200/\r.2.length<=2000:=by
 have h1:=(List.mem_filter.1 l).1;have h2:=q5h C 0 h.size r h1;have h3:=h.few;refine⟨by omega,?_⟩;have m: ∀(ps:List (List UInt8)) (a:Nat),r∈q1p a ps->r.2∈ps:=by
  intro ps
  induction ps with
  |nil=>intro a h;cases h
  | cons p t ih=>
   intro a h;rw[q1p] at h;rcases List.mem_cons.1 h with rfl|h
   ·exact List.mem_cons_self
   ·exact List.mem_cons_of_mem _ (ih _ h)
 have d: ∀(D:Cks) (b:Nat),r∈q0c b D-> ∃ps∈D,r.2∈ps:=by
  intro D
  induction D with
  |nil=>intro b h;cases h
  | cons ps t ih=>
   intro b h;rw[q0c] at h;rcases List.mem_append.1 h with h|h
   ·exact⟨ps,List.mem_cons_self,m ps _ h⟩
   ·obtain⟨q,hq,l⟩:=ih _ h
    exact⟨q,List.mem_cons_of_mem _ hq,l⟩
 obtain⟨ps,j,o⟩:=d C 0 h1;exact h.pay ps j _ o
def q2h(sd:Int)(pos:Nat)(b:Bt)(i:Nat):En:=(q2Z sd b.st,(b.fi:Int)+(i:Int),(pos:Int))
def q0e(sd:Int)(pos:Nat)(b:Bt)(k:Nat):List En:=(List.range k).map (q2h sd pos b)
theorem q7H(sd:Int)(pos:Nat)(b:Bt)(k:Nat):q0e sd pos b (k+1)=q0e sd pos b k++[q2h sd pos b k]:=by unfold q0e;rw[List.range_succ,List.map_append];rfl
theorem q3u(sd:Int)(pos:Nat)(b:Bt)(k:Nat):(q0e sd pos b k).length=k:=by unfold q0e;simp
def z1G(sd:Int):List (Nat×List UInt8)->Option (List En)
 |[]=>some []
 |(a,p)::r=>(q4s p).bind fun b=>(z1G sd r).map fun l=>q0e sd a b b.ev.length++l
def q1N(es:List En)(L:List En):List En:=es.foldl (fun L e=>q3e e L) L
theorem q3U(a b L:List En):q1N (a++b) L=q1N b (q1N a L):=by unfold q1N;rw[List.foldl_append]
theorem q6f : ∀(es L:List En),(q1N es L).length<=L.length+es.length
 |[],L=>ι _
 | e::t,L=>by
  have h:=q6f t (q3e e L);have:=@z4v e L;unfold q1N at*;rw[List.foldl_cons,χ];omega
theorem z7w{s:List UInt8}{b:Bt}(h:q4s s=some b):q0n b.st (b.fi:Int) b.ev=0:=by
 unfold q4s at h
 split at h
 ·split at h
  ·split at h
   ·rename_i hc
    injection h with h;subst h;exact hc
   ·cases h
  ·cases h
 ·cases h
theorem z2m(sd:Int){pos:Nat}{b:Bt}(h:q0n b.st (b.fi:Int) b.ev=0)(d:k<b.ev.length)(j:pos<4096*200):q3X (q2h sd pos b k)=true:=by
 obtain⟨_,_,_,l,m,o,_⟩:=q1D h;obtain⟨h1,h2⟩:=z1e sd b.st;rw[okEn_iff];unfold q2h;simp only;omega
theorem z5c{e:Ev}(h:z8w e):(evB e).length<=300:=by
 obtain⟨_,h3,h4⟩:=q3A h.1;unfold evB;rw[q2l (by omega),q2l (by omega)];simp[q0G];omega
theorem z5d(L:List Ev)(k:Nat)(h:k<L.length):((L.take (k+1)).map evB).flatten=((L.take k).map evB).flatten++evB (L.getD k ev0):=by
 rw[List.take_succ_eq_append_getElem h,List.map_append,List.flatten_append,δ,γ h];simp only[List.map_cons,List.map_nil,List.flatten_cons,List.flatten_nil,List.append_nil,Option.getD_some]
theorem y0n{b:Bt}(w:World)(j:Evs w ao n cap b.ev)(x:z4r b):
  Calls Tryz.prog 87 #[.agg #[.string ⟨b.st.toArray⟩,.int .i64 (b.fi:Int),.slice ao n cap]] w fun e w'=>e= .returned (.tuple #[.string ⟨(btB b).toArray⟩,.int .i64 0])/\Ext w w':=by
 obtain⟨p1,p2,p3,p4,p5,p6,p7⟩:=q1D x.1;have u: ∀e∈b.ev,z8w e:=fun e he=>⟨q6g p7 e he,x.2 e he⟩
 have I:q4F b.ev:=fun e he=>by
  obtain⟨_,h1,h2⟩:=q3A (u e he).1;exact⟨by omega,by omega⟩
 have d:=j.len;obtain⟨st,fi,L⟩:=b;simp only at p1 p2 p3 p4 p5 p6 p7 u I d j;have b1:=j.fits;have b2:=j.bound;have X:q0n st (fi:Int) L=0:=x.1;have HC:=η (fun W (h:Evs W ao n cap L)=>q8o st (fi:Int) W h (by omega) I);rw[X] at HC;have HT:=η (fun W=>z6q st W (by omega));have Q:=η (fun W=>z4a (fi:Int) 8 8 W rfl (by omega) (by omega) (by omega) (by omega));have O:=η (fun W=>z4a (n:Int) 1 1 W rfl (by omega) (by omega) (by omega) (by omega));rw[Int.toNat_natCast] at Q O;have l1:(q2r st).length<=50:=by rw[q2l (by omega)];simp[q0G];omega
 have l8:(be 8 fi).length<=8:=by rw[q0G];omega
 have l0:(be 1 n).length<=8:=by rw[q0G];omega
 have HE:Hd (btB ⟨st,fi,L⟩=((q2r st++be 8 fi)++be 1 n)++((L.take n).map evB).flatten):=η (by
  rw[<-d,List.take_length];unfold btB;simp)
 have e0:=η u;have b0:=η d;have F:=η j;have qf:IntKind.u64.wrap (fi:Int)=(fi:Int):=by rw[IntKind.wrap_u64];omega
 have qn:IntKind.u64.wrap (n:Int)=(n:Int):=by rw[IntKind.wrap_u64];omega
 have j0:n<=8:=by omega
 have HX:=η (q0B w (.cells #[.string ⟨st.toArray⟩,.int .i64 (fi:Int),.slice ao n cap] 160));have J:=η (Blk.new w 160 #[.string ⟨st.toArray⟩,.int .i64 (fi:Int),.slice ao n cap]);have s:=J.o;have k0:(w.alloc (.cells #[.string ⟨st.toArray⟩,.int .i64 (fi:Int),.slice ao n cap] 160)).cell? ⟨w.heap.size,0,none⟩=some (.string ⟨st.toArray⟩):=s.cell 0;have k1:(w.alloc (.cells #[.string ⟨st.toArray⟩,.int .i64 (fi:Int),.slice ao n cap] 160)).cell? ⟨w.heap.size,1,none⟩=some (.int .i64 (fi:Int)):=s.cell 1;have k2:(w.alloc (.cells #[.string ⟨st.toArray⟩,.int .i64 (fi:Int),.slice ao n cap] 160)).cell? ⟨w.heap.size,2,none⟩=some (.slice ao n cap):=s.cell 2;generalize q2r st=A at*;generalize be 8 fi=D at*;generalize be 1 n=C at*;have m0:=q3x;clear s x p1 p2 p3 p4 p5 p6 p7 u I d j X;go_enter Tryz.func87,Tryz.ntmps87;go_wp2_with fail;refine(HC.o _ (F.o.ext HX.o)).mono ?_;rintro e w1 ⟨rfl,j⟩;have G:=η (HX.o.trans j);have l:=J.o.ext j;generalize w.heap.size=q at*;have S:w1.cell? ⟨q,0,none⟩=some (.string ⟨st.toArray⟩):=l.cell 0;have U:w1.cell? ⟨q,1,none⟩=some (.int .i64 (fi:Int)):=l.cell 1;have V:w1.cell? ⟨q,2,none⟩=some (.slice ao n cap):=l.cell 2;have u0:=q0D S;have u1:=q0D U;have u2:=q0D V;have a0:=η l;have q1:¬(9223372036854775807<A.length+D.length):=by omega
 have q2:¬(9223372036854775807<(A++D).length+C.length):=by rw[θ];omega
 have q3:¬(9223372036854775807<A.length+D.length+C.length):=by omega
 clear j l k0 k1 k2;go_wp2_with fail;refine q0F (by kernel_rfl) (by kernel_rfl) ?_
 repeat (go_big_quiet_step (fail))
 go_big_quiet_step (exact Calls.quiet_ext (HT.o _))
 repeat (go_big_quiet_step (fail))
 go_big_quiet_step (exact Calls.quiet_ext (Q.o _))
 repeat (go_big_quiet_step (fail))
 go_big_quiet_step (exact Calls.quiet_ext (O.o _))
 repeat (go_big_quiet_step (fail))
 refine wpQuiet_nil ?_;intro w2 hw;have R:=η (G.o.trans hw);have m:=a0.o.ext hw;have d0:w2.cell? ⟨q,0,none⟩=some (.string ⟨st.toArray⟩):=m.cell 0;have d1:w2.cell? ⟨q,1,none⟩=some (.int .i64 (fi:Int)):=m.cell 1;have d2:w2.cell? ⟨q,2,none⟩=some (.slice ao n cap):=m.cell 2;clear hw m S U V u0 u1 u2;have h0:=η (F.o.ext R.o);go_wp2_with fail
 go_loopw [5,30] (fun e i W=> ∃k:Nat,∃T:List UInt8,k<=n/\i= .int .i64 (k:Int)/\e= .string ⟨T.toArray⟩/\T=((A++D)++C)++((L.take k).map evB).flatten/\T.length<=100+300*k/\Ext w W) (fun _ i _=>n-(intOf i).toNat)
 case atStart=>exact⟨0,_,υ _,rfl,(by first|rfl|(rw[q3V,q3V])),by simp,by simp;omega,R.o⟩
 case round=>
  obtain⟨k,T,hk,rfl,rfl,hT,i0,hb⟩:=hrel;have HT:=η hT;have M:=η hb;by_cases Z:k<n
  ·have g0:decide ((k:Int)<(n:Int))=true:=ζ (by omega)
   obtain⟨b,off,rfl,S,U,V⟩:=(F.o.ext hb).at Z;have v:k<L.length:=by rw[b0.o];exact Z
   have E:L.getD k ev0∈L:=by rw[δ,γ v];exact List.getElem_mem v
   have HS:=η (z5d L k v);have G:=η (q0B wr (.cells #[.string ⟨(L.getD k ev0).ty.toArray⟩,.string ⟨(L.getD k ev0).da.toArray⟩,.float .f64 (L.getD k ev0).we] 67));have q4:IntKind.i64.wrap ((k:Int)+1)=(k:Int)+1:=by rw[ν];omega
   have he:=e0.o _ E;generalize L.getD k ev0=y at*;obtain⟨y1,y2,y3⟩:=y;have hs:=z5c he;have N:=η (fun W=>z7k ⟨y1,y2,y3⟩ W he);have B:Hd (∀W,Calls Tryz.prog 126 #[.agg #[.string ⟨y1.toArray⟩,.string ⟨y2.toArray⟩,.float .f64 y3]] W fun r w'=>r= .returned (.string ⟨(evB ⟨y1,y2,y3⟩).toArray⟩)/\Ext W w'):=N;obtain⟨Y,hY⟩: ∃Y,evB ⟨y1,y2,y3⟩=Y:=⟨_,rfl⟩
   rw[hY] at B hs HS;simp only at S U V;have u0:=q0D S;have u1:=q0D U;have u2:=q0D V;have q5:¬(9223372036854775807<T.length+Y.length):=by omega
   clear v E hb hT N he hY;go_wp2_with fail;refine(B.o _).mono ?_;rintro e w3 ⟨rfl,j⟩;have f0:=η ((M.o.trans G.o).trans j);clear j;go_wp2_with fail
   go_roundw
   case rel=>exact⟨k+1,T++Y,by omega,by go_num,(by first|rfl|(rw[q3V])),by rw[HS.o,HT.o,List.append_assoc],by rw[θ];omega,f0.o⟩
   case measure=>simp[intOf];omega
  ·obtain rfl:k=n:=by omega
   have g0:decide ((k:Int)<(k:Int))=false:=ε (by omega);have HF:Hd (btB ⟨st,fi,L⟩=T):=η (by rw[HE.o,hT]);clear hb hT;go_wp2_with fail;go_ret2;exact⟨by rw[HF.o];rfl,M.o⟩
structure Acm where
 kd:Int
 st:List UInt8
 a:Int
 b:Int
 ao:Option Addr
 n:Nat
 cap:Nat
 L:List Ev
def ac0 :Acm:=⟨0,[],0,0,none,0,0,[]⟩
def acc(x:Acm):List Value:=[.int .u8 x.kd,.string ⟨x.st.toArray⟩,.int .i64 x.a,.int .i64 x.b,.slice x.ao x.n x.cap]
def y1o(A:List Acm):List Value:=(A.map acc).flatten
theorem q9u(x:Acm)(A:List Acm):y1o (x::A)=acc x++y1o A:=rfl
theorem q5r : ∀(A:List Acm) (i j:Nat),i<A.length->j<5->(y1o A)[i*5+j]? =(acc (A.getD i ac0))[j]?
 |[],i,j,h,_=>by simp at h
 | k::A,0,j,_,hj=>by
  rw[q9u,List.getElem?_append_left (by simp[acc];omega)];simp
 | k::A,i+1,j,h,hj=>by
  rw[q9u,List.getElem?_append_right (by simp[acc];omega),show(i+1)*5+j-(acc k).length=i*5+j from by simp[acc];omega,q5r A i j (by simpa using h) hj];simp
structure y2X(x:Acm):Prop where
 k0:0<=x.kd
 k1:x.kd<=255
 s:x.st.length<=9223372036854775807
 a0: -9223372036854775808<=x.a
 a1:x.a<=9223372036854775807
 b0: -9223372036854775808<=x.b
 b1:x.b<=9223372036854775807
 e: ∀e∈x.L,e.ty.length<=9223372036854775807/\e.da.length<=9223372036854775807/\e.we<18446744073709551616
structure Acs(w:World)(ao:Option Addr)(n cap:Nat)(A:List Acm):Prop where
 len:A.length=n
 fits:n<=cap
 bound:cap<=9223372036854775807
 nil:ao=none->cap=0
 rd:Rd w ao (y1o A)
 ev: ∀x∈A,Evs w x.ao x.n x.cap x.L
 ok: ∀x∈A,y2X x
theorem Acs.ext{A:List Acm}(h:Acs w ao n cap A)(k:Ext w w'):Acs w' ao n cap A:=⟨h.len,h.fits,h.bound,h.nil,h.rd.ext k,fun x b=>(h.ev x b).ext k,h.ok⟩
theorem q8B{A:List α}{d:α}(h:i<A.length):A.getD i d∈A:=by rw[δ,γ h];exact List.getElem_mem h
theorem Acs.at{A:List Acm}(h:Acs w ao n cap A)(v:i<n):
  ∃ b off,ao=some ⟨b,off,none⟩/\w.cell? ⟨b,off+i*5,none⟩=some (.int .u8 (A.getD i ac0).kd)/\w.cell? ⟨b,off+i*5+1,none⟩=some (.string ⟨(A.getD i ac0).st.toArray⟩)/\w.cell? ⟨b,off+i*5+2,none⟩=some (.int .i64 (A.getD i ac0).a)/\w.cell? ⟨b,off+i*5+3,none⟩=some (.int .i64 (A.getD i ac0).b)/\
   w.cell? ⟨b,off+i*5+4,none⟩=some (.slice (A.getD i ac0).ao (A.getD i ac0).n (A.getD i ac0).cap)/\Evs w (A.getD i ac0).ao (A.getD i ac0).n (A.getD i ac0).cap (A.getD i ac0).L/\y2X (A.getD i ac0):=by
 have x:=h.len;have hm:A.getD i ac0∈A:=q8B (by omega);have k0:=q5r A i 0 (by omega) (by decide);have k1:=q5r A i 1 (by omega) (by decide);have r:=q5r A i 2 (by omega) (by decide);have s:=q5r A i 3 (by omega) (by decide);have u:=q5r A i 4 (by omega) (by decide);obtain⟨b,off,rfl,o⟩:=h.rd _ _ k0;obtain⟨_,_,d,h1⟩:=h.rd _ _ k1
 cases d;obtain⟨_,_,j,h2⟩:=h.rd _ _ r
 cases j;obtain⟨_,_,l,h3⟩:=h.rd _ _ s
 cases l;obtain⟨_,_,m,h4⟩:=h.rd _ _ u
 cases m;exact⟨b,off,rfl,o,h1,h2,h3,h4,h.ev _ hm,h.ok _ hm⟩
def q6P(e:Ev):Bool:=decide (300<e.ty.length)||decide (300<e.da.length)
def q3z(x:Acm):Bool:=decide (300<x.st.length)||decide (20<x.n)||x.L.any q6P
def q6O(A:List Acm)(most:Int):Bool:=A.any q3z||decide (most<(A.length:Int))
theorem q6p{p:α->Bool}{A:List α}(h:k<A.length)(b:(A.take k).any p=false)(d:α):(A.take (k+1)).any p=p (A.getD k d):=by
 rw[List.take_succ_eq_append_getElem h,List.any_append,b,δ,γ h];simp
theorem z9a{A:List Acm}(l:Int)(w:World)(S:Acs w ao n cap A):
  Calls Tryz.prog 11 #[.slice ao n cap,.int .i64 l] w fun e w'=>e= .returned (.bool (q6O A l))/\Ext w w':=by
 have HX:=η S;have I:=S.len;have b1:=S.fits;have b2:=S.bound;clear S;go_enter Tryz.func11,Tryz.ntmps11;go_wp2_with fail
 go_loopw [5] (fun i W=> ∃k:Nat,k<=n/\i= .int .i64 (k:Int)/\Hd ((A.take k).any q3z=false)/\Ext w W) (fun i _=>n-(intOf i).toNat)
 case atStart=>exact⟨0,υ _,rfl,η (by simp),Ext.refl _⟩
 case round =>
  obtain⟨k,hk,rfl,E,X⟩:=hrel;have D:=η X;by_cases q0:k<n
  ·have hd:decide ((k:Int)<(n:Int))=true:=ζ (by omega)
   have u0:(k:Int)<(n:Int):=by omega
   have q8:IntKind.i64.wrap ((k:Int)+1)=(k:Int)+1:=by rw[ν];omega
   obtain⟨bb,off,rfl,c0,c1,c2,c3,c4,m,B⟩:=(HX.o.ext X).at q0;have O:=q6p (k:=k) (A:=A) (by omega) E.o ac0;have f0:=η O;have v:Hd (q3z (A.getD k ac0)=true->q6O A l=true):=η fun h=>by
    unfold q6O;rw[Bool.or_eq_true]
    left
    exact List.any_eq_true.2 ⟨_,q8B (by omega),h⟩
   generalize A.getD k ac0=x at*;obtain⟨kd,st,U,V,r,en,b,L⟩:=x;have h1:=B.s;have n0:=m.len;have l0:=m.fits;have m0:=m.bound;simp only at c0 c1 c2 c3 c4 m h1 n0 l0 m0;have Y:=η m;have d0:=η B.e;clear X O m B;by_cases M:300<st.length
   ·have g0:decide ((300:Int)<(st.length:Int))=true:=ζ (by omega)
    have u:=η (v.o (by unfold q3z;rw[ζ M];rfl));go_wp2_with fail
    (try rw[Exit.noGoto_ret])
    go_ret;exact⟨by rw[u.o];rfl,D.o⟩
   have g0:decide ((300:Int)<(st.length:Int))=false:=ε (by omega);by_cases N:20<en
   ·have h0:decide ((20:Int)<(en:Int))=true:=ζ (by omega)
    have u:=η (v.o (by unfold q3z;rw[ζ (show 20<(⟨kd,st,U,V,r,en,b,L⟩:Acm).n from N)];simp));go_wp2_with fail
    (try rw[Exit.noGoto_ret])
    go_ret;exact⟨by rw[u.o];rfl,D.o⟩
   have h0:decide ((20:Int)<(en:Int))=false:=ε (by omega);have a0:Hd (∀j,j<L.length->q6P (L.getD j ev0)=true->q3z ⟨kd,st,U,V,r,en,b,L⟩=true):=η fun j hj h=>by
    unfold q3z;rw[Bool.or_eq_true]
    right
    exact List.any_eq_true.2 ⟨_,q8B hj,h⟩
   have Z:Hd (L.any q6P=false->q3z ⟨kd,st,U,V,r,en,b,L⟩=false):=η fun h=>by
    unfold q3z;rw[h,ε (show ¬300<(⟨kd,st,U,V,r,en,b,L⟩:Acm).st.length from M),ε (show ¬20<(⟨kd,st,U,V,r,en,b,L⟩:Acm).n from N)];rfl
   go_wp2_with fail
   go_loopw [6] (fun i W=> ∃j:Nat,j<=en/\i= .int .i64 (j:Int)/\Hd ((L.take j).any q6P=false)/\W=wr) (fun i _=>en-(intOf i).toNat)
   case atStart=>exact⟨0,υ _,rfl,η (by simp),rfl⟩
   case round=>
    obtain⟨j,hj,rfl,F,r0⟩:=hrel;subst r0;by_cases o0:j<en
    ·have i0:decide ((j:Int)<(en:Int))=true:=ζ (by omega)
     have t0:(j:Int)<(en:Int):=by omega
     have q9:IntKind.i64.wrap ((j:Int)+1)=(j:Int)+1:=by rw[ν];omega
     obtain⟨eb,s0,rfl,e0,e1,e2⟩:=Y.o.at o0;have y:=q6p (k:=j) (A:=L) (by omega) F.o ev0;have J:=d0.o _ (q8B (A:=L) (i:=j) (d:=ev0) (by omega));have G:=η (a0.o j (by omega));have b0:=η y;generalize L.getD j ev0=ee at*;obtain⟨ty,da,we⟩:=ee;simp only at e0 e1 e2 J;obtain⟨m1,m2,m3⟩:=J;clear y;by_cases Q:300<ty.length
     ·have j0:decide ((300:Int)<(ty.length:Int))=true:=ζ (by omega)
      have u:=η (v.o (G.o (by unfold q6P;rw[ζ Q];rfl)));go_wp2_with fail
      (try rw[Exit.noGoto_ret])
      go_ret;exact⟨by rw[u.o];rfl,D.o⟩
     have j0:decide ((300:Int)<(ty.length:Int))=false:=ε (by omega);by_cases R:300<da.length
     ·have k0:decide ((300:Int)<(da.length:Int))=true:=ζ (by omega)
      have u:=η (v.o (G.o (by unfold q6P;rw[ζ (show 300<(⟨ty,da,we⟩:Ev).da.length from R)];simp)));go_wp2_with fail
      (try rw[Exit.noGoto_ret])
      go_ret;exact⟨by rw[u.o];rfl,D.o⟩
     have k0:decide ((300:Int)<(da.length:Int))=false:=ε (by omega);go_wp2_with fail
     go_roundw
     case rel=>exact⟨j+1,by omega,by go_num,η (by rw[b0.o];unfold q6P;rw[ε (show ¬300<(⟨ty,da,we⟩:Ev).ty.length from Q),ε (show ¬300<(⟨ty,da,we⟩:Ev).da.length from R)];rfl),trivial⟩
     case measure=>simp[intOf];omega
    ·obtain rfl:j=en:=by omega
     have i0:decide ((j:Int)<(j:Int))=false:=ε (by omega);have p0:L.any q6P=false:=by have:=F.o;rwa [Δ (by omega)] at this
     go_wp2_with fail
     go_roundw
     case rel=>exact⟨k+1,by omega,by go_num,η (by rw[f0.o];exact Z.o p0),D.o⟩
     case measure=>simp[intOf];omega
  ·obtain rfl:k=n:=by omega
   have hd:decide ((k:Int)<(k:Int))=false:=ε (by omega)
   have u:Hd (q6O A l=decide (l<(k:Int))):=η (by
    unfold q6O;have:=E.o;rw[Δ (by omega)] at this
    rw[this,Bool.false_or,I])
   clear X;go_wp2_with fail;go_ret;exact⟨by rw[u.o];rfl,D.o⟩
end
end Go.Proofs.YtfiibpgoplcgkaaGreatDoor
