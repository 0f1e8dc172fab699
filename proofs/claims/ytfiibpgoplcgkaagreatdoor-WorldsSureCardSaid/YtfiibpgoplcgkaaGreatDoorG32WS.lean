/- Walks. -/
import Derived.Test.YtfiibpgoplcgkaaGreatDoorG27WS
import Derived.Test.YtfiibpgoplcgkaaGreatDoorG15WS
import Derived.Test.YtfiibpgoplcgkaaGreatDoorG28WS
import Derived.Test.YtfiibpgoplcgkaaGreatDoorG12WS
set_option linter.unusedVariables false
set_option linter.unusedSimpArgs false
set_option maxRecDepth 100000
set_option maxHeartbeats 6400000
namespace Go.Proofs.YtfiibpgoplcgkaaGreatDoor
variable {w w1:World}{ao:Option Addr}{n cap q:Nat}{L:List Ev}{pos:Int}{C:Cks}
section
open Go.RowKit
def y4d(r:Option (Ev×List UInt8)):Value:=match r with
 |some (e,r)=> .tuple #[evV e,.string ⟨r.toArray⟩,.bool true]
 |none=> .tuple #[evV ev0,.string ⟨#[]⟩,.bool false]
theorem q3x(W:World)(a:Addr)(b:Nat)(m:Go.Mode):(store a (.float .f64 b) m).run Tryz.prog W=stored Tryz.prog W a (.float .f64 b) m:=run_store _ _ _ _ _ rfl
theorem q2a(h:Ext w w1)(a b c:Value):Ext w (((w1.setCell ⟨w.heap.size,0,none⟩ a).setCell ⟨w.heap.size,1,none⟩ b).setCell ⟨w.heap.size,2,none⟩ c):=
 ((h.setCell (p:=⟨w.heap.size,0,none⟩) (ι _) a).setCell (p:=⟨w.heap.size,1,none⟩) (ι _) b).setCell (p:=⟨w.heap.size,2,none⟩) (ι _) c
theorem y1a(s:List UInt8)(w:World)(hl:s.length<=4611686018427387903):
  Calls Tryz.prog 133 #[.string ⟨s.toArray⟩] w fun e w'=>e= .returned (y4d (rdE s))/\Ext w w':=by
 have r:=η (fun W=>z3S s W hl);have u:=η (fun W=>z3S (rdR s) W (by have:=q8f s;omega));have r0:=z4m s;have s0:=z4m (rdR s);have t0:=q8f s;have h0:=q8f (rdR s);have N:=η (fun b W=>z0I (rdT s) (rdT (rdR s)) .f64 b W (by omega) (by omega));have HX:=η (q0C w (.cells #[.string ⟨#[]⟩,.string ⟨#[]⟩,.float .f64 0] 67));have J:=η (Blk.new w 67 #[.string ⟨#[]⟩,.string ⟨#[]⟩,.float .f64 0])
 have x:Hd (∀(W:World) (a b c:Value),Blk W w.heap.size 67 #[a,b,c]-> ∀a' b',W.cell? ⟨w.heap.size,0,none⟩=some a/\W.cell? ⟨w.heap.size,1,none⟩=some b/\W.cell? ⟨w.heap.size,2,none⟩=some c/\
   W.frozen? ⟨w.heap.size,0,none⟩=false/\W.frozen? ⟨w.heap.size,1,none⟩=false/\W.frozen? ⟨w.heap.size,2,none⟩=false/\((W.setCell ⟨w.heap.size,0,none⟩ a').setCell ⟨w.heap.size,1,none⟩ b').frozen? ⟨w.heap.size,2,none⟩=false/\
   ((W.setCell ⟨w.heap.size,0,none⟩ a').setCell ⟨w.heap.size,1,none⟩ b').cell? ⟨w.heap.size,2,none⟩=some c):=η fun W a b c h a' b'=>by
  have h2:=(h.set 0 a').set 1 b';exact⟨h.cell 0,h.cell 1,h.cell 2,h.free 0,h.free 1,h.free 2,h2.free 2,h2.cell 2⟩
 have u0:=q3x;by_cases h1:q9A s=true
 case neg=>
  rw[Bool.not_eq_true] at h1;have Q:Hd (rdE s=none):=η (by unfold rdE;rw[h1];simp);rw[h1] at r;go_enter Tryz.func133,Tryz.ntmps133;go_wp2_with fail;refine(r.o _).mono ?_;rintro e w1 ⟨rfl,d⟩;have l:=η (J.o.ext d);have m:=η (HX.o.trans d);clear d;obtain⟨S,U,V,Z,f1,f2,g2,Y⟩:=x.o w1 _ _ _ l.o (.string ⟨#[]⟩) (.string ⟨#[]⟩);go_wp2_with fail
  ((try simp only[Exit.inBlock,Exit.then]);refine bodyPost_ret (v:= .tuple #[.agg #[.string ⟨#[]⟩,.string ⟨#[]⟩,.float .f64 0],.string ⟨#[]⟩,.bool false]) (by rw[q0X rfl];go_simp) rfl ?_)
  exact⟨by rw[Q.o];rfl,q2a m.o _ _ _⟩
 rw[h1] at r;by_cases h2:q9A (rdR s)=true
 case neg=>
  rw[Bool.not_eq_true] at h2;have Q:Hd (rdE s=none):=η (by unfold rdE;rw[h2];simp);rw[h2] at u;go_enter Tryz.func133,Tryz.ntmps133;go_wp2_with fail;refine(r.o _).mono ?_;rintro e w1 ⟨rfl,d⟩;have l:=η (J.o.ext d);have m:=η (HX.o.trans d);clear d;go_wp2_with fail;refine(u.o _).mono ?_;rintro e w2 ⟨rfl,d⟩;have y:=η (l.o.ext d);have B:=η (m.o.trans d);clear d;obtain⟨S,U,V,Z,f1,f2,g2,Y⟩:=x.o w2 _ _ _ y.o (.string ⟨#[]⟩) (.string ⟨#[]⟩);go_wp2_with fail
  ((try simp only[Exit.inBlock,Exit.then]);refine bodyPost_ret (v:= .tuple #[.agg #[.string ⟨#[]⟩,.string ⟨#[]⟩,.float .f64 0],.string ⟨#[]⟩,.bool false]) (by rw[q0X rfl];go_simp) rfl ?_)
  exact⟨by rw[Q.o];rfl,q2a B.o _ _ _⟩
 rw[h2] at u;obtain⟨R,hR⟩: ∃R,rdR (rdR s)=R:=⟨_,rfl⟩
 rw[hR] at u h0;obtain⟨D,G⟩: ∃T,rdT s=T:=⟨_,rfl⟩
 obtain⟨F,I⟩: ∃T,rdT (rdR s)=T:=⟨_,rfl⟩
 by_cases h3:R.length<8
 ·have Q:Hd (rdE s=none):=η (by unfold rdE;rw[κ (by rw[hR];omega)])
  have hd:decide ((R.length:Int)<8)=true:=ζ (by omega);go_enter Tryz.func133,Tryz.ntmps133;go_wp2_with fail;refine(r.o _).mono ?_;rintro e w1 ⟨rfl,d⟩;have l:=η (J.o.ext d);have m:=η (HX.o.trans d);clear d;go_wp2_with fail;refine(u.o _).mono ?_;rintro e w2 ⟨rfl,d⟩;have y:=η (l.o.ext d);have B:=η (m.o.trans d);clear d;obtain⟨S,U,V,Z,f1,f2,g2,Y⟩:=x.o w2 _ _ _ y.o (.string ⟨#[]⟩) (.string ⟨#[]⟩);go_wp2_with fail
  ((try simp only[Exit.inBlock,Exit.then]);refine bodyPost_ret (v:= .tuple #[.agg #[.string ⟨#[]⟩,.string ⟨#[]⟩,.float .f64 0],.string ⟨#[]⟩,.bool false]) (by rw[q0X rfl];go_simp) rfl ?_)
  exact⟨by rw[Q.o];rfl,q2a B.o _ _ _⟩
 have hd:decide ((R.length:Int)<8)=false:=ε (by omega);have s1:=q4l R 8 8 rfl (by omega);have s2:=q3a R 8 8 rfl (by omega);have l8:(R.take 8).length=8:=by rw[Θ];omega
 have HG:=η (fun W=>z0S (R.take 8) W (by omega));rw[show(R.take 8).take 8=R.take 8 from Δ (by omega)] at HG;have e0:=q2R (R.take 8);rw[l8] at e0;obtain⟨b,hb⟩: ∃b,q1W (R.take 8)=b:=⟨_,rfl⟩
 rw[hb] at HG;have q0:=z1k b;rw[G,I] at N;rw[G] at r;rw[I] at u;by_cases h4:q1I D F=0
 case neg=>
  have Q:Hd (rdE s=none):=η (by unfold rdE;rw[κ (by rw[G,I];exact fun h=>h4 h.2.2.2)]);have g0:(q1I D F !=0)=true:=by simpa using h4
  obtain⟨E,hE⟩: ∃E,q1I D F=E:=⟨_,rfl⟩
  rw[hE] at N g0;clear hE hb e0 G I hR h1 h2 h3 h4;go_enter Tryz.func133,Tryz.ntmps133;go_wp2_with fail;refine(r.o _).mono ?_;rintro e w1 ⟨rfl,d⟩;have l:=η (J.o.ext d);have m:=η (HX.o.trans d);clear d;go_wp2_with fail;refine(u.o _).mono ?_;rintro e w2 ⟨rfl,d⟩;have y:=η (l.o.ext d);have B:=η (m.o.trans d);clear d;go_wp2_with fail;refine(HG.o _).mono ?_;rintro e w3 ⟨rfl,d⟩;have M:=η (y.o.ext d);have b0:=η (B.o.trans d);clear d;obtain⟨S,U,V,Z,f1,f2,g2,Y⟩:=x.o w3 _ _ _ M.o (.string ⟨D.toArray⟩) (.string ⟨F.toArray⟩);go_wp2_with fail;refine(N.o b _).mono ?_;rintro e w4 ⟨rfl,d⟩;have a0:=η ((((M.o.set 0 (.string ⟨D.toArray⟩)).set 1 (.string ⟨F.toArray⟩)).set 2 (.float .f64 b)).ext d);have d0:=η ((q2a b0.o (.string ⟨D.toArray⟩) (.string ⟨F.toArray⟩) (.float .f64 b)).trans d);clear d S U V Z f1 f2 g2 Y;obtain⟨S,U,V,Z,f1,f2,g2,Y⟩:=x.o w4 _ _ _ a0.o (.string ⟨#[]⟩) (.string ⟨#[]⟩);go_wp2_with fail
  ((try simp only[Exit.inBlock,Exit.then]);refine bodyPost_ret (v:= .tuple #[.agg #[.string ⟨#[]⟩,.string ⟨#[]⟩,.float .f64 0],.string ⟨#[]⟩,.bool false]) (by rw[q0X rfl];go_simp) rfl ?_)
  exact⟨by rw[Q.o];rfl,q2a d0.o _ _ _⟩
 have Q:Hd (rdE s=some (⟨D,F,b⟩,R.drop 8)):=η (by unfold rdE;rw[G,I,hR,ξ ⟨h1,h2,by omega,h4⟩,hb]);rw[h4] at N;clear hb e0 G I hR h1 h2 h3 h4;go_enter Tryz.func133,Tryz.ntmps133;go_wp2_with fail;refine(r.o _).mono ?_;rintro e w1 ⟨rfl,d⟩;have l:=η (J.o.ext d);have m:=η (HX.o.trans d);clear d;go_wp2_with fail;refine(u.o _).mono ?_;rintro e w2 ⟨rfl,d⟩;have y:=η (l.o.ext d);have B:=η (m.o.trans d);clear d;go_wp2_with fail;refine(HG.o _).mono ?_;rintro e w3 ⟨rfl,d⟩;have M:=η (y.o.ext d);have b0:=η (B.o.trans d);clear d;obtain⟨S,U,V,Z,f1,f2,g2,Y⟩:=x.o w3 _ _ _ M.o (.string ⟨D.toArray⟩) (.string ⟨F.toArray⟩);go_wp2_with fail;refine(N.o b _).mono ?_;rintro e w4 ⟨rfl,d⟩;have X:=η ((((M.o.set 0 (.string ⟨D.toArray⟩)).set 1 (.string ⟨F.toArray⟩)).set 2 (.float .f64 b)).ext d);have a0:=η (X.o.ext (Ext.refl w4).drew);have d0:=η (((q2a b0.o (.string ⟨D.toArray⟩) (.string ⟨F.toArray⟩) (.float .f64 b)).trans d).drew);clear d S U V Z f1 f2 g2 Y;obtain⟨S,U,V,Z,f1,f2,g2,Y⟩:=x.o w4.drew _ _ _ a0.o (.string ⟨D.toArray⟩) (.string ⟨F.toArray⟩);obtain⟨i0,j0,k0,m0,n0,o0,p0,l0⟩:=x.o w4 _ _ _ X.o (.string ⟨D.toArray⟩) (.string ⟨F.toArray⟩);go_wp2_with fail;refine q3s (fun W=>W.cell? ⟨w.heap.size,0,none⟩=some (.string ⟨D.toArray⟩)/\W.cell? ⟨w.heap.size,1,none⟩=some (.string ⟨F.toArray⟩)/\W.cell? ⟨w.heap.size,2,none⟩=some (.float .f64 b)) 3 (by kernel_rfl) ⟨S,U,V⟩ (fun j=>?_);refine q8w (i:=0) (v:=?_) rfl (by kernel_rfl) (fun _ _ _ h=>h) (Or.inl ⟨by rfl,?_⟩) j (fun j=>?_)
 rotate_left
 ·(intro w O;(try dsimp only at O);go_simp;try with_reducible rfl)
 try simp only[Act.put,π,ψ,ω]
 refine q0y (i:=1) (v:=?_) rfl (by kernel_rfl) (fun _ _ _ h=>h) (Or.inl ⟨by rfl,?_⟩) j (fun j=>?_)
 rotate_left
 ·(intro w O;(try dsimp only at O);go_simp;try with_reducible rfl)
 try simp only[Act.put,π,ψ,ω]
 refine q0y (i:=2) (v:=?_) rfl (by kernel_rfl) (fun _ _ _ h=>h) (Or.inl ⟨by rfl,?_⟩) j (fun j=>?_)
 rotate_left
 ·(intro w O;(try dsimp only at O);go_simp;try with_reducible rfl)
 try simp only[Act.put,π,ψ,ω]
 refine q4S (by kernel_rfl) ?_
 try simp only[List.drop_succ_cons,List.drop_zero]
 clear j;go_wp2_with fail
 ((try simp only[Exit.inBlock,Exit.then]);refine bodyPost_ret (v:= .tuple #[.agg #[.string ⟨D.toArray⟩,.string ⟨F.toArray⟩,.float .f64 b],.string ⟨(R.drop 8).toArray⟩,.bool true]) (by rw[q0X rfl];go_simp) rfl ?_)
 exact⟨by rw[Q.o];rfl,q2a d0.o _ _ _⟩
theorem z1d(e:Ev)(L:List Ev):z0L (e::L)=evc e++z0L L:=rfl
theorem z0M : ∀(L:List Ev) (i j:Nat),i<L.length->j<3->(z0L L)[i*3+j]? =(evc (L.getD i ev0))[j]?
 |[],i,j,h,_=>by simp at h
 | k::L,0,j,_,hj=>by
  rw[z1d,List.getElem?_append_left (by simp[evc];omega)];simp
 | k::L,i+1,j,h,hj=>by
  rw[z1d,List.getElem?_append_right (by simp[evc];omega),show(i+1)*3+j-(evc k).length=i*3+j from by simp[evc];omega,z0M L i j (by simpa using h) hj];simp
structure Evs(w:World)(ao:Option Addr)(n cap:Nat)(L:List Ev):Prop where
 len:L.length=n
 fits:n<=cap
 bound:cap<=9223372036854775807
 nil:ao=none->cap=0
 rd:Rd w ao (z0L L)
theorem Evs.ext{w':World}(h:Evs w ao n cap L)(k:Ext w w'):Evs w' ao n cap L:=⟨h.len,h.fits,h.bound,h.nil,h.rd.ext k⟩
theorem Evs.at(h:Evs w ao n cap L){i:Nat}(s:i<n):
  ∃b off,ao=some ⟨b,off,none⟩/\w.cell? ⟨b,off+i*3,none⟩=some (.string ⟨(L.getD i ev0).ty.toArray⟩)/\w.cell? ⟨b,off+i*3+1,none⟩=some (.string ⟨(L.getD i ev0).da.toArray⟩)/\w.cell? ⟨b,off+i*3+2,none⟩=some (.float .f64 (L.getD i ev0).we):=by
 have u:=h.len;have m:=z0M L i 0 (by omega) (by decide);have o:=z0M L i 1 (by omega) (by decide);have r:=z0M L i 2 (by omega) (by decide);obtain⟨b,off,rfl,l⟩:=h.rd _ _ m;obtain⟨_,_,d,h1⟩:=h.rd _ _ o
 cases d;obtain⟨_,_,j,h2⟩:=h.rd _ _ r
 cases j;exact⟨b,off,rfl,l,h1,h2⟩
theorem Evs.of_own{B:Nat}{e:TypeId}{v:Value}(h:Own w B e 3 v L.length (z0L L)): ∃ao cap,v= .slice ao L.length cap/\Evs w ao L.length cap L:=by
 obtain⟨ao,cap,rfl,h1,h2,h3,h4⟩:=h.rd;exact⟨ao,cap,rfl,rfl,h1,h2,h3,h4⟩
theorem z1e : ∀(L:List Ev) (k:Nat),k<L.length->q8y (L.take k)=0->q8y L=if q1I (L.getD k ev0).ty (L.getD k ev0).da=0 then q8y (L.drop (k+1)) else q1I (L.getD k ev0).ty (L.getD k ev0).da
 |[],k,h,_=>by simp at h
 |e::L,0,_,_=>by simp[q8y]
 | e ::L,k+1,h,h0=>by
  rw[List.take_succ_cons,q8y] at h0
  split at h0
  ·rename_i h1
   rw[q8y,ξ h1,z1e L k (by simpa using h) h0];simp
  ·rename_i h1;exact absurd h0 h1
theorem z1f : ∀(L:List Ev) (e:Ev),q8y L=0->q8y (L++[e])=q1I e.ty e.da
 | [],e,_=>by
  rw[List.nil_append,q8y,q8y]
  split
  ·rename_i h;exact h.symm
  ·rfl
 | x::L,e,h=>by
  rw[q8y] at h
  split at h
  ·rename_i h1;rw[List.cons_append,q8y,ξ h1,z1f L e h]
  ·rename_i h1;exact absurd h h1
def q4k(L:List Ev):Prop:= ∀e∈L,e.ty.length<=4611686018427387903/\e.da.length<=4611686018427387903
theorem q9x(st:List UInt8)(fi:Int)(w:World)(B:Evs w ao n cap L)(i0:st.length<=4611686018427387903)(hL:q4k L):
  Calls Tryz.prog 86 #[.agg #[.string ⟨st.toArray⟩,.int .i64 fi,.slice ao n cap]] w fun e w'=>e= .returned (.int .i64 (q0t st fi L))/\Ext w w':=by
 have b1:=B.fits;have b2:=B.bound;have d:=B.len;have E:=η (q0C w (.cells #[.string ⟨st.toArray⟩,.int .i64 fi,.slice ao n cap] 160));have m:=Blk.new w 160 #[.string ⟨st.toArray⟩,.int .i64 fi,.slice ao n cap];have HE:=η B;have HL:=η hL;clear B hL;by_cases h1:st=[]
 ·subst h1
  have s:Hd (q0t [] fi L=2):=η (by unfold q0t;rw[ξ (.inl rfl)]);clear m;go_enter Tryz.func86,Tryz.ntmps86;go_wp2_with fail
  go_step3
  go_wp2_with fail;rw[Exit.noGoto_ret];go_ret;exact⟨by rw[s.o];rfl,E.o⟩
 have b0:(st==[])=false:=beq_eq_false_iff_ne.2 h1;by_cases h2:n=0
 ·subst h2
  have s:Hd (q0t st fi L=2):=η (by unfold q0t;rw[ξ (.inr (List.eq_nil_of_length_eq_zero d))]);clear m h1 d;go_enter Tryz.func86,Tryz.ntmps86;go_wp2_with fail
  go_step3
  go_wp2_with fail;rw[Exit.noGoto_ret];go_ret;exact⟨by rw[s.o];rfl,E.o⟩
 have d0:((n:Int)==0)=false:=by simpa using h2
 have u:L≠[]:=fun e=>h2 (by rw[<-d,e];rfl)
 have j:¬(st=[]\/L=[]):=fun h=>h.elim h1 u
 by_cases h3:32<st.length
 ·have s:Hd (q0t st fi L=3):=η (by unfold q0t;rw[κ j,ξ (.inl h3)])
  have hd:decide ((32:Int)<(st.length:Int))=true:=ζ (by omega);clear m h1 h2 u j d;go_enter Tryz.func86,Tryz.ntmps86;go_wp2_with fail
  go_step3
  go_wp2_with fail;rw[Exit.noGoto_ret];go_ret;exact⟨by rw[s.o];rfl,E.o⟩
 by_cases h4:8<n
 ·have s:Hd (q0t st fi L=3):=η (by unfold q0t;rw[κ j,ξ (.inr (by omega))])
  have hd:decide ((8:Int)<(n:Int))=true:=ζ (by omega);clear m h1 h2 u j d;go_enter Tryz.func86,Tryz.ntmps86;go_wp2_with fail
  go_step3
  go_wp2_with fail;rw[Exit.noGoto_ret];go_ret;exact⟨by rw[s.o];rfl,E.o⟩
 have l:¬(32<st.length\/8<L.length):=by omega
 have f0:decide ((8:Int)<(n:Int))=false:=ε (by omega);have q0:IntKind.i64.wrap (1073741824-(n:Int))=1073741824-(n:Int):=by rw[ν];omega
 by_cases N:fi<0\/1073741824-(n:Int)<fi
 ·have s:Hd (q0t st fi L=2):=η (by unfold q0t;rw[κ j,κ l,ξ (by rw[d];exact N)])
  have v:decide (fi<0)=true\/(decide (fi<0)=false/\decide (1073741824-(n:Int)<fi)=true):=by
   by_cases h:fi<0
   ·exact .inl (ζ h)
   ·exact .inr ⟨ε h,ζ (by omega)⟩
  clear m h1 h2 u j l d N;rcases v with v|⟨v,Z⟩
  all_goals
   go_enter Tryz.func86,Tryz.ntmps86;go_wp2_with fail
   go_step3
   go_wp2_with fail;rw[Exit.noGoto_ret];go_ret;exact⟨by rw[s.o];rfl,E.o⟩
 have v:decide (fi<0)=false:=ε (by omega);have Z:decide (1073741824-(n:Int)<fi)=false:=ε (by omega);have s:Hd (q0t st fi L=q8y L):=η (by unfold q0t;rw[κ j,κ l,κ (by rw[d];exact N)]);have I:=η d;clear m h1 h2 u j l d N;go_enter Tryz.func86,Tryz.ntmps86;go_wp2_with fail
 go_step3
 go_wp2_with fail
 go_step3
 go_wp2_with fail
 go_loopw [2,36] (fun e i W=> ∃k:Nat,k<=n/\i= .int .i64 (k:Int)/\e= .int .i64 0/\q8y (L.take k)=0/\Ext w W) (fun _ i _=>n-(intOf i).toNat)
 case atStart=>exact⟨0,υ _,rfl,rfl,rfl,E.o⟩
 case round=>
  obtain⟨k,hk,rfl,rfl,F,O⟩:=hrel;have G:=η O;by_cases M:k<n
  ·have a0:decide ((k:Int)<(n:Int))=true:=ζ (by omega)
   obtain⟨b,off,rfl,c0,c1,c2⟩:=(HE.o.ext O).at M;have r:k<L.length:=by rw[I.o];exact M
   have hT:L.take (k+1)=L.take k++[L.getD k ev0]:=by
    rw[List.take_succ_eq_append_getElem r];simp[List.getD,γ r]
   have Y:=z1f (L.take k) (L.getD k ev0) F;rw[<-hT] at Y;have HS:=η Y;have V:=η (z1e L k r F);have x:L.getD k ev0∈L:=by rw[δ,γ r];exact List.getElem_mem r
   obtain⟨m1,m2⟩:=HL.o _ x;have X:=η (q0C wr (.cells #[.string ⟨(L.getD k ev0).ty.toArray⟩,.string ⟨(L.getD k ev0).da.toArray⟩,.float .f64 (L.getD k ev0).we] 67));have q1:IntKind.i64.wrap ((k:Int)+1)=(k:Int)+1:=by rw[ν];omega
   generalize L.getD k ev0=y at*;obtain⟨Q,R,y3⟩:=y;have S:=η (fun W=>z0I Q R .f64 y3 W m1 m2);simp only at c0 c1 c2;have u0:=q0D c0;have u1:=q0D c1;have u2:=q0D c2;have g0:=q3x;clear hT r F Y x m1 m2 O;go_wp2_with fail;refine(S.o _).mono ?_;rintro e w1 ⟨rfl,B⟩;have J:=η ((G.o.trans X.o).trans B);clear B;by_cases hc:q1I Q R=0
   ·have U:Hd (q8y (L.take (k+1))=0):=η (by rw[HS.o];exact hc)
    rw[hc];go_wp2_with fail
    go_roundw
    case rel=>exact⟨k+1,by omega,by go_num,rfl,U.o,J.o⟩
    case measure=>simp[intOf];omega
   ·have D:Hd (q8y L=q1I Q R):=η (by rw[V.o,κ hc])
    have e0:(q1I Q R==0)=false:=by simpa using hc
    clear hc;go_wp2_with fail;rw[Exit.noGoto_ret];go_ret;exact⟨by rw[s.o,D.o];rfl,J.o⟩
  ·obtain rfl:k=n:=by omega
   have a0:decide ((k:Int)<(k:Int))=false:=ε (by omega);have D:Hd (q8y L=0):=η (by rw[<-I.o,List.take_length] at F;exact F);clear F O;go_wp2_with fail;rw[Exit.noGoto_ret];go_ret;exact⟨by rw[s.o,D.o];rfl,G.o⟩
theorem q2L{fn:Func}{p u v x:Tmp}{ty:TypeId}(h:fn.results=#[.cell p ty,.tmp u,.tmp v,.tmp x])(tmps:Array Value)(P:Program)(w:World):
  (results fn tmps).run P w=
   ((asAddr (tmps.getD p undef)).run P w).andThen fun a w₁=>((loadVar ty a).run P w₁).andThen fun y b=> .ok (.tuple #[y,tmps.getD u undef,tmps.getD v undef,tmps.getD x undef]) b:=by
 simp only[results,h];simp[Sem.run_bind,Result.andThen]
def q7Y(s:List UInt8):Value:=if q5e s=true then .tuple #[.agg #[.string ⟨(rdT s).toArray⟩,.int .i64 (q1W ((rdR s).take 8):Int),.slice none 0 0],.int .i64 (((rdR s).getD 8 0).toNat:Int),.string ⟨((rdR s).drop 9).toArray⟩,.bool true]
 else .tuple #[.agg #[.string ⟨#[]⟩,.int .i64 0,.slice none 0 0],.int .i64 0,.string ⟨#[]⟩,.bool false]
theorem y1Q(s:List UInt8)(w:World)(hl:s.length<=4611686018427387903):
  Calls Tryz.prog 165 #[.string ⟨s.toArray⟩] w fun e w'=>e= .returned (q7Y s)/\Ext w w':=by
 have r:=η (fun W=>z3S s W hl);have m0:=z4m s;have b0:=q8f s;have S:=η (q0C w (.cells #[.string ⟨#[]⟩,.int .i64 0,.slice none 0 0] 160));have B:=η (Blk.new w 160 #[.string ⟨#[]⟩,.int .i64 0,.slice none 0 0])
 have y:Hd (∀(W:World) (a b c:Value),Blk W w.heap.size 160 #[a,b,c]-> ∀U V,W.cell? ⟨w.heap.size,0,none⟩=some a/\W.cell? ⟨w.heap.size,1,none⟩=some b/\W.cell? ⟨w.heap.size,2,none⟩=some c/\
   W.frozen? ⟨w.heap.size,0,none⟩=false/\W.frozen? ⟨w.heap.size,1,none⟩=false/\W.frozen? ⟨w.heap.size,2,none⟩=false/\((W.setCell ⟨w.heap.size,0,none⟩ U).setCell ⟨w.heap.size,1,none⟩ V).frozen? ⟨w.heap.size,2,none⟩=false/\
   ((W.setCell ⟨w.heap.size,0,none⟩ U).setCell ⟨w.heap.size,1,none⟩ V).cell? ⟨w.heap.size,2,none⟩=some c):=η fun W a b c h U V=>by
  have h2:=(h.set 0 U).set 1 V;exact⟨h.cell 0,h.cell 1,h.cell 2,h.free 0,h.free 1,h.free 2,h2.free 2,h2.cell 2⟩
 by_cases h1:q9A s=true
 case neg=>
  rw[Bool.not_eq_true] at h1;have F:Hd (q7Y s= .tuple #[.agg #[.string ⟨#[]⟩,.int .i64 0,.slice none 0 0],.int .i64 0,.string ⟨#[]⟩,.bool false]):=η (by unfold q7Y q5e;rw[h1];rfl);rw[h1] at r;go_enter Tryz.func165,Tryz.ntmps165;go_wp2_with fail;refine(r.o _).mono ?_;rintro e w1 ⟨rfl,l⟩;have u:=η (B.o.ext l);have x:=η (S.o.trans l);clear l;obtain⟨Y,Z,c2,f0,f1,f2,g2,d2⟩:=y.o w1 _ _ _ u.o (.string ⟨#[]⟩) (.int .i64 0);go_wp2_with fail
  ((try simp only[Exit.inBlock,Exit.then]);refine bodyPost_ret (v:= .tuple #[.agg #[.string ⟨#[]⟩,.int .i64 0,.slice none 0 0],.int .i64 0,.string ⟨#[]⟩,.bool false]) (by rw[q2L rfl];go_simp) rfl ?_)
  exact⟨by rw[F.o],q2a x.o _ _ _⟩
 rw[h1] at r;obtain⟨R,I⟩: ∃R,rdR s=R:=⟨_,rfl⟩
 rw[I] at r b0;by_cases h3:R.length<9
 ·have F:Hd (q7Y s= .tuple #[.agg #[.string ⟨#[]⟩,.int .i64 0,.slice none 0 0],.int .i64 0,.string ⟨#[]⟩,.bool false]):=η (by unfold q7Y q5e;rw[h1,I,ε (by omega)];rfl)
  have hd:decide ((R.length:Int)<9)=true:=ζ (by omega);clear I;go_enter Tryz.func165,Tryz.ntmps165;go_wp2_with fail;refine(r.o _).mono ?_;rintro e w1 ⟨rfl,l⟩;have u:=η (B.o.ext l);have x:=η (S.o.trans l);clear l;obtain⟨Y,Z,c2,f0,f1,f2,g2,d2⟩:=y.o w1 _ _ _ u.o (.string ⟨#[]⟩) (.int .i64 0);go_wp2_with fail
  ((try simp only[Exit.inBlock,Exit.then]);refine bodyPost_ret (v:= .tuple #[.agg #[.string ⟨#[]⟩,.int .i64 0,.slice none 0 0],.int .i64 0,.string ⟨#[]⟩,.bool false]) (by rw[q2L rfl];go_simp) rfl ?_)
  exact⟨by rw[F.o],q2a x.o _ _ _⟩
 have hd:decide ((R.length:Int)<9)=false:=ε (by omega);have s1:=q4l R 8 8 rfl (by omega);have s2:=q3a R 9 9 rfl (by omega);have l8:(R.take 8).length=8:=by rw[Θ];omega
 have Q:=η (fun W=>z0S (R.take 8) W (by omega));rw[show(R.take 8).take 8=R.take 8 from Δ (by omega)] at Q;have E:=q2R (R.take 8);rw[l8] at E;obtain⟨b,N⟩: ∃b,q1W (R.take 8)=b:=⟨_,rfl⟩
 rw[N] at Q E;by_cases h4:1073741824<b
 ·have F:Hd (q7Y s= .tuple #[.agg #[.string ⟨#[]⟩,.int .i64 0,.slice none 0 0],.int .i64 0,.string ⟨#[]⟩,.bool false]):=η (by unfold q7Y q5e;rw[I,N,ε (p:=b<=1073741824) (by omega),Bool.and_false];rfl)
  have a0:decide ((1073741824:Int)<(b:Int))=true:=ζ (by omega);clear N E I h3;go_enter Tryz.func165,Tryz.ntmps165;go_wp2_with fail;refine(r.o _).mono ?_;rintro e w1 ⟨rfl,l⟩;have u:=η (B.o.ext l);have x:=η (S.o.trans l);clear l;go_wp2_with fail;refine(Q.o _).mono ?_;rintro e O ⟨rfl,l⟩;have D:=η (u.o.ext l);have G:=η (x.o.trans l);clear l;obtain⟨Y,Z,c2,f0,f1,f2,g2,d2⟩:=y.o O _ _ _ D.o (.string ⟨#[]⟩) (.int .i64 0);go_wp2_with fail
  ((try simp only[Exit.inBlock,Exit.then]);refine bodyPost_ret (v:= .tuple #[.agg #[.string ⟨#[]⟩,.int .i64 0,.slice none 0 0],.int .i64 0,.string ⟨#[]⟩,.bool false]) (by rw[q2L rfl];go_simp) rfl ?_)
  exact⟨by rw[F.o],q2a G.o _ _ _⟩
 have a0:decide ((1073741824:Int)<(b:Int))=false:=ε (by omega);obtain⟨m,hm⟩: ∃m:Nat,(R.getD 8 0).toNat=m:=⟨_,rfl⟩
 have n0:m<256:=by rw[<-hm];exact(R.getD 8 0).toNat_lt
 have hb8:8<(⟨R.toArray⟩:ByteArray).size:=by show 8<R.length;omega
 have e8:((⟨R.toArray⟩:ByteArray)[8]'hb8).toNat=m:=by
  rw[<-hm,δ,γ (show 8<R.length by omega)];rfl
 have h8:(8:Int)<(R.length:Int):=by omega
 have q1:IntKind.i64.wrap (b:Int)=(b:Int):=by rw[ν];omega
 have q2:IntKind.i64.wrap (m:Int)=(m:Int):=by rw[ν];omega
 have F:Hd (q7Y s= .tuple #[.agg #[.string ⟨(rdT s).toArray⟩,.int .i64 (b:Int),.slice none 0 0],.int .i64 (m:Int),.string ⟨(R.drop 9).toArray⟩,.bool true]):=η (by
  unfold q7Y q5e
  rw[I,N,h1,hm,ζ (p:=9<=R.length) (by omega),ζ (p:=b<=1073741824) (by omega)];rfl)
 obtain⟨X,M⟩: ∃T,rdT s=T:=⟨_,rfl⟩
 rw[M] at F r;clear N E I h3 h4 M hm;go_enter Tryz.func165,Tryz.ntmps165;go_wp2_with fail;refine(r.o _).mono ?_;rintro e w1 ⟨rfl,l⟩;have u:=η (B.o.ext l);have x:=η (S.o.trans l);clear l;go_wp2_with fail;refine(Q.o _).mono ?_;rintro e O ⟨rfl,l⟩;have D:=η (u.o.ext l);have J:=η (D.o.ext (Ext.refl O).drew);have G:=η ((x.o.trans l).drew);clear l;obtain⟨Y,Z,c2,f0,f1,f2,g2,d2⟩:=y.o O _ _ _ D.o (.string ⟨X.toArray⟩) (.int .i64 (b:Int));obtain⟨d0,e0,g0,i0,j0,k0,l0,h0⟩:=y.o O.drew _ _ _ J.o (.string ⟨X.toArray⟩) (.int .i64 (b:Int));go_wp2_with fail;refine q3s (fun W=>True) 9 (by kernel_rfl) trivial (fun d=>?_);refine q0y (i:=0) (v:=?_) rfl (by kernel_rfl) (fun _ _ _ h=>h) (Or.inl ⟨by rfl,?_⟩) d (fun d=>?_)
 rotate_left
 ·(intro w j;(try dsimp only at j);go_simp;try with_reducible rfl)
 try simp only[Act.put,π,ψ,ω]
 refine q0y (i:=1) (v:=?_) rfl (by kernel_rfl) (fun _ _ _ h=>h) (Or.inl ⟨by rfl,?_⟩) d (fun d=>?_)
 rotate_left
 ·(intro w j;(try dsimp only at j);go_simp;try with_reducible rfl)
 try simp only[Act.put,π,ψ,ω]
 refine q0y (i:=2) (v:=?_) rfl (by kernel_rfl) (fun _ _ _ h=>h) (Or.inl ⟨by rfl,?_⟩) d (fun d=>?_)
 rotate_left
 ·(intro w j;(try dsimp only at j);go_simp;try with_reducible rfl)
 try simp only[Act.put,π,ψ,ω]
 refine q0y (i:=3) (v:=?_) rfl (by kernel_rfl) (fun _ _ _ h=>h) (Or.inl ⟨by rfl,?_⟩) d (fun d=>?_)
 rotate_left
 ·(intro w j;(try dsimp only at j);go_simp;try with_reducible rfl)
 try simp only[Act.put,π,ψ,ω]
 refine q0y (i:=4) (v:=?_) rfl (by kernel_rfl) (fun _ _ _ h=>h) (Or.inl ⟨by rfl,?_⟩) d (fun d=>?_)
 rotate_left
 ·(intro w j;(try dsimp only at j);go_simp;try with_reducible rfl)
 try simp only[Act.put,π,ψ,ω]
 refine q0y (i:=5) (v:=?_) rfl (by kernel_rfl) (fun _ _ _ h=>h) (Or.inl ⟨by rfl,?_⟩) d (fun d=>?_)
 rotate_left
 ·(intro w j;(try dsimp only at j);go_simp;try with_reducible rfl)
 try simp only[Act.put,π,ψ,ω]
 refine q0y (i:=6) (v:=?_) rfl (by kernel_rfl) (fun _ _ _ h=>h) (Or.inl ⟨by rfl,?_⟩) d (fun d=>?_)
 rotate_left
 ·(intro w j;(try dsimp only at j);go_simp;try with_reducible rfl)
 try simp only[Act.put,π,ψ,ω]
 refine q0y (i:=7) (v:=?_) rfl (by kernel_rfl) (fun _ _ _ h=>h) (Or.inl ⟨by rfl,?_⟩) d (fun d=>?_)
 rotate_left
 ·(intro w j;(try dsimp only at j);go_simp;try with_reducible rfl)
 try simp only[Act.put,π,ψ,ω]
 refine q0y (i:=8) (v:=?_) rfl (by kernel_rfl) (fun _ _ _ h=>h) (Or.inl ⟨by rfl,?_⟩) d (fun d=>?_)
 rotate_left
 ·(intro w j;(try dsimp only at j);go_simp;try with_reducible rfl)
 try simp only[Act.put,π,ψ,ω]
 refine q4S (by kernel_rfl) ?_
 try simp only[List.drop_succ_cons,List.drop_zero]
 clear d;go_wp2_with fail
 ((try simp only[Exit.inBlock,Exit.then]);refine bodyPost_ret (v:= .tuple #[.agg #[.string ⟨X.toArray⟩,.int .i64 (b:Int),.slice none 0 0],.int .i64 (m:Int),.string ⟨(R.drop 9).toArray⟩,.bool true]) (by rw[q2L rfl];go_simp) rfl ?_)
 exact⟨by rw[F.o],q2a G.o _ _ _⟩
theorem Tryz.infoEv :(Tryz.prog.info? 67).map (fun i=>(i.zero,i.size,i.bytes))=some (some (.agg #[.string ⟨#[]⟩,.string ⟨#[]⟩,.float .f64 0]),3,40):=by kernel_rfl
theorem z8Q(s:List UInt8)(k:Nat)(h:z3Z k s=none): ∀m,k<=m->z3Z m s=none:=by
 intro m hm;obtain⟨d,rfl⟩:=Nat.le.dest hm;clear hm
 induction d with
 |zero=>exact h
 |succ d ih=>rw[<-Nat.add_assoc,z3Z,ih];rfl
theorem y2I(s:List UInt8): ∃e R o,y4d (rdE s)= .tuple #[evV e,.string ⟨R.toArray⟩,.bool o]/\(o=true->rdE s=some (e,R))/\(o=false->rdE s=none)/\e.ty.length<=16/\e.da.length<=200/\R.length<=s.length:=by
 by_cases h:q9A s=true/\q9A (rdR s)=true/\8<=(rdR (rdR s)).length/\q1I (rdT s) (rdT (rdR s))=0
 ·have b:rdE s=some (⟨rdT s,rdT (rdR s),q1W ((rdR (rdR s)).take 8)⟩,(rdR (rdR s)).drop 8):=by unfold rdE;rw[ξ h]
  obtain⟨_,h2,h3⟩:=q3W h.2.2.2;have d:=q8f s;have i:=q8f (rdR s);exact⟨_,_,true,by rw[b];rfl,fun _=>b,fun e=>by simp at e,h2,h3,by rw[List.length_drop];omega⟩
 ·have b:rdE s=none:=by unfold rdE;rw[κ h]
  exact⟨ev0,[],false,by rw[b];rfl,fun e=>by simp at e,fun _=>b,by decide,by decide,υ _⟩
theorem y0A(s:List UInt8): ∃st fi m R o,q7Y s= .tuple #[.agg #[.string ⟨st.toArray⟩,.int .i64 ((fi:Nat):Int),.slice none 0 0],.int .i64 ((m:Nat):Int),.string ⟨R.toArray⟩,.bool o]/\st.length<=s.length/\R.length<=s.length/\m<=255/\fi<=1073741824/\
  (∀es T,o=true->z3Z m R=some (es,T)->q5V s=if T=[] then(if q0t st (fi:Int) es=0 then some ⟨st,fi,es⟩ else none) else none)/\((o=false\/z3Z m R=none)->q5V s=none):=by
 have i:=z4m s;have j:=q8f s;by_cases h:q5e s=true
 ·have d:=h
  unfold q5e at d;simp only[Ξ,Φ] at d;refine⟨rdT s,q1W ((rdR s).take 8),((rdR s).getD 8 0).toNat,(rdR s).drop 9,true,by unfold q7Y;rw[ξ h],by omega,by rw[List.length_drop];omega,by have:=UInt8.toNat_lt ((rdR s).getD 8 0);omega,d.2,fun es T _ he=>?_,fun he=>?_⟩
  ·unfold q5V
   rw[ξ h,he]
   cases T with
   |nil=>rfl
   |cons a b=>rfl
  ·rcases he with he|he
   ·cases he
   ·unfold q5V;rw[ξ h,he]
 ·refine⟨[],0,0,[],false,by unfold q7Y;rw[κ h];rfl,υ _,υ _,by omega,by omega,fun es T e=>by simp at e,fun _=>by unfold q5V;rw[κ h]⟩
def y4Y(B:Nat)(w:World)(r:Option Bt)(v:Value):Prop:=match r with
 |none=>v= .tuple #[.agg #[.string ⟨#[]⟩,.int .i64 0,.slice none 0 0],.int .i64 10]
 |some b=> ∃x,v= .tuple #[.agg #[.string ⟨b.st.toArray⟩,.int .i64 (b.fi:Int),x],.int .i64 0]/\Own w B 67 3 x b.ev.length (z0L b.ev)
theorem y2x{W:World}{t:TypeId}{a b c:Value}(h:Blk W q t #[a,b,c])(d i:Value):W.cell? ⟨q,0,none⟩=some a/\W.cell? ⟨q,1,none⟩=some b/\W.cell? ⟨q,2,none⟩=some c/\
   W.frozen? ⟨q,0,none⟩=false/\W.frozen? ⟨q,1,none⟩=false/\W.frozen? ⟨q,2,none⟩=false/\((W.setCell ⟨q,0,none⟩ d).setCell ⟨q,1,none⟩ i).frozen? ⟨q,2,none⟩=false/\
   ((W.setCell ⟨q,0,none⟩ d).setCell ⟨q,1,none⟩ i).cell? ⟨q,2,none⟩=some c:=by
 have h2:=(h.set 0 d).set 1 i;exact⟨h.cell 0,h.cell 1,h.cell 2,h.free 0,h.free 1,h.free 2,h2.free 2,h2.cell 2⟩
theorem q4x(h:Ext w w1)(hq:w.heap.size<=q)(a b c:Value):Ext w (((w1.setCell ⟨q,0,none⟩ a).setCell ⟨q,1,none⟩ b).setCell ⟨q,2,none⟩ c):=
 ((h.setCell (p:=⟨q,0,none⟩) hq a).setCell (p:=⟨q,1,none⟩) hq b).setCell (p:=⟨q,2,none⟩) hq c
theorem z6h(s :List UInt8)(w:World)(hl:s.length<=4611686018427387903):
  Calls Tryz.prog 103 #[.string ⟨s.toArray⟩] w fun e w'=>(∃v,e= .returned v/\y4Y w.heap.size w' (q5V s) v)/\Ext w w':=by
 have HH:=η (fun W=>y1Q s W hl);obtain⟨st,fi,m,S9,o0,hv,s1,o1,hm,q1,hG,I0⟩:=y0A s;rw[hv] at HH;have HG:=η hG;have j0:=η I0;have HX:=η (q0C w (.cells #[.string ⟨#[]⟩,.int .i64 0,.slice none 0 0] 160));have u0:=η (Blk.new w 160 #[.string ⟨#[]⟩,.int .i64 0,.slice none 0 0]);have r1:=q3x;clear hv hG I0;obtain⟨q,hq⟩: ∃q,w.heap.size=q:=⟨_,rfl⟩
 have HQ:=η hq;have X:Hd (w.heap.size<=q):=η (by omega);rw[hq] at u0;go_enter Tryz.func103,Tryz.ntmps103;go_wp2_with fail;refine(HH.o _).mono ?_;rintro e w1 ⟨rfl,F⟩;have v0:=η (u0.o.ext F);have F0:=η (HX.o.trans F);clear F;go_wp2_with fail;obtain⟨i,O0⟩: ∃i,w1.heap.size=i:=⟨_,rfl⟩
 have N0:w.heap.size<=w1.heap.size:=F0.o.size;have l0:Hd (q+1<=i):=η (by have:=v0.o.lt;omega);have m0:Hd (w.heap.size<=i):=η (by omega);have U0:=η (v0.o.ext (q0C w1 (.cells #[.string ⟨st.toArray⟩,.int .i64 (fi:Int),.slice none 0 0] 160)));have Y0:=η (F0.o.trans (q0C w1 (.cells #[.string ⟨st.toArray⟩,.int .i64 (fi:Int),.slice none 0 0] 160)));have x0:=η (Blk.new w1 160 #[.string ⟨st.toArray⟩,.int .i64 (fi:Int),.slice none 0 0]);rw[O0] at x0⊢;clear O0 N0
 go_loopw [6,7] (fun r o W=> ∃es R ao N b,r= .string ⟨(R:List UInt8).toArray⟩/\o= .bool b/\Blk W i 160 #[.string ⟨st.toArray⟩,.int .i64 (fi:Int),.slice ao es.length N]/\
   W.ownsRow (i+1) 67 3 (.slice ao es.length N) es.length (z0L es)/\es.length<=m/\(b=true->o0=true/\z3Z es.length S9=some (es,R))/\(b=false->o0=false\/z3Z m S9=none)/\q4k es/\
   R.length<=4611686018427387903/\Blk W q 160 #[.string ⟨#[]⟩,.int .i64 0,.slice none 0 0]/\Ext w W)
  (fun _ _ W=>m-(match W.cell? ⟨i,2,none⟩ with|some (.slice _ n _)=>n|_=>0))
 case atStart=>
  refine⟨[],S9,none,0,o0,rfl,rfl,x0.o,World.ownsRow_nil _ _ _ _,υ _,fun h=>⟨h,rfl⟩,fun h=> .inl h,(fun e he=>absurd he (List.not_mem_nil)),by omega,U0.o,Y0.o⟩
 case round =>
  obtain⟨es,R,ao,N,b,rfl,rfl,d,I,M0,hT,hF,Q0,Z0,J0,S0⟩:=hrel;obtain⟨l1,m1,b1,d0⟩:=Evs.of_own (Own.of_row I)
  cases b1;obtain⟨k,hk⟩: ∃k,es.length=k:=⟨_,rfl⟩
  have L0:=d0.fits;have j1:=d0.bound;have y0:=η d0;clear d0;rw[hk] at d I M0 hT L0 y0;have HK:=η hk;have V:=η d;have C0:=η I;have HT:=η hT;have HF:=η hF;have E0:=η Q0;have M:=η J0;have Z:=η S0;have c0:wr.cell? ⟨i,0,none⟩=some (.string ⟨st.toArray⟩):=d.cell 0;have c1:wr.cell? ⟨i,1,none⟩=some (.int .i64 (fi:Int)):=d.cell 1;have c2:wr.cell? ⟨i,2,none⟩=some (.slice ao k N):=d.cell 2;clear hk d I hT hF Q0 J0 S0
  cases b with
  | false=>
   have j:Hd (q5V s=none):=η (j0.o (HF.o rfl));obtain⟨k0,k1,k2,f0,f1,f2,g2,d2⟩:=y2x M.o (.string ⟨#[]⟩) (.int .i64 0);clear HT HF;go_wp2_with fail
   ((try simp only[Exit.inBlock,Exit.then]);refine bodyPost_ret (v:= .tuple #[.agg #[.string ⟨#[]⟩,.int .i64 0,.slice none 0 0],.int .i64 10]) (by rw[q1D rfl];go_simp) rfl ?_)
   exact⟨⟨_,rfl,by rw[j.o];exact rfl⟩,q4x Z.o X.o _ _ _⟩
  | true =>
   by_cases d1:k<m
   ·have hd:decide ((k:Int)<(m:Int))=true:=ζ (by omega)
    obtain⟨⟨x,y,B⟩,R',o',hv,hy,hn,t1,u1,n1⟩:=y2I R;have R0:y4d (rdE R)= .tuple #[.agg #[.string ⟨x.toArray⟩,.string ⟨y.toArray⟩,.float .f64 B],.string ⟨R'.toArray⟩,.bool o']:=hv;have HE:=η (fun W=>y1a R W Z0);rw[R0] at HE;have HY:=η hy;have HN:=η hn;clear hv R0 hy hn;go_wp2_with fail;refine(HE.o _).mono ?_;rintro e U ⟨rfl,F⟩;obtain⟨l,P0⟩: ∃l,wr.heap.size=l:=⟨_,rfl⟩
    rw[P0];have T0:=(q0C wr (.cells #[.string ⟨#[]⟩,.string ⟨#[]⟩,.float .f64 0] 67)).trans F;have b0:=(Blk.new wr 67 #[.string ⟨#[]⟩,.string ⟨#[]⟩,.float .f64 0]).ext F;rw[P0] at b0;obtain⟨k0,k1,k2,f0,f1,f2,g2,d2⟩:=y2x b0 (.string ⟨x.toArray⟩) (.string ⟨y.toArray⟩);have hex:=q4x T0 (q:=l) (by omega) (.string ⟨x.toArray⟩) (.string ⟨y.toArray⟩) (.float .f64 B);have G:=((b0.set 0 (.string ⟨x.toArray⟩)).set 1 (.string ⟨y.toArray⟩)).set 2 (.float .f64 B);have e0:((((U.setCell ⟨l,0,none⟩ (.string ⟨x.toArray⟩)).setCell ⟨l,1,none⟩ (.string ⟨y.toArray⟩)).setCell ⟨l,2,none⟩ (.float .f64 B)).cell? ⟨l,0,none⟩)=some (.string ⟨x.toArray⟩):=G.cell 0;have e1:((((U.setCell ⟨l,0,none⟩ (.string ⟨x.toArray⟩)).setCell ⟨l,1,none⟩ (.string ⟨y.toArray⟩)).setCell ⟨l,2,none⟩ (.float .f64 B)).cell? ⟨l,1,none⟩)=some (.string ⟨y.toArray⟩):=G.cell 1;have e2:((((U.setCell ⟨l,0,none⟩ (.string ⟨x.toArray⟩)).setCell ⟨l,1,none⟩ (.string ⟨y.toArray⟩)).setCell ⟨l,2,none⟩ (.float .f64 B)).cell? ⟨l,2,none⟩)=some (.float .f64 B):=G.cell 2;have e3:((((U.setCell ⟨l,0,none⟩ (.string ⟨x.toArray⟩)).setCell ⟨l,1,none⟩ (.string ⟨y.toArray⟩)).setCell ⟨l,2,none⟩ (.float .f64 B)).cell? ⟨i,2,none⟩)=some (.slice ao k N):=(V.o.ext hex).cell 2;have J:=hex.trans (q0C _ (.cells #[.string ⟨x.toArray⟩,.string ⟨y.toArray⟩,.float .f64 B] 67));have g0:=η (V.o.ext J);have h0:=η (M.o.ext J);have Y:=η (q0J C0.o J);have H0:=η (Z.o.trans J);have X0:=η (show i+1<=_ from Ω (show i+1<=wr.heap.size from V.o.lt) J.size);have t0:=Rd.lit (((U.setCell ⟨l,0,none⟩ (.string ⟨x.toArray⟩)).setCell ⟨l,1,none⟩ (.string ⟨y.toArray⟩)).setCell ⟨l,2,none⟩ (.float .f64 B)) #[.string ⟨x.toArray⟩,.string ⟨y.toArray⟩,.float .f64 B] 67;rw[World.size_setCell,World.size_setCell,World.size_setCell] at t0;have W0:=η t0;clear F T0 b0 hex G J t0
    go_wp2_with (at_builtin;refine q0P rfl (.tmp 31) (.tmp 33) 40 rfl (i+1) 67 _ 3 40 Tryz.underlying40 Tryz.infoEv (by decide) (by decide) _ k (z0L es) rfl Y.o _ 1 1 (evc ⟨x,y,B⟩) rfl rfl (fun h=>by cases h) W0.o (fun u hu=>z9o [⟨x,y,B⟩] u (by simpa [z0L] using hu)) (by unfold maxLen;omega) (by omega) X0.o ?_;intro v4 w4 S D a1;obtain⟨a4,c4,rfl⟩:=q0H S;have a0:=g0.o.same (D.block i g0.o.lt (fun e=>by have:=(q0p Y.o i e.symm).1;omega));have d6:=a0.cell 2;have d7:=a0.free 2;have w0:=η a0;have B0:=η S;have z0:=η D;clear S D a1 a0)
    have K0:=h0.o.same (z0.o.block q h0.o.lt (fun e=>by have:=(q0p Y.o q e.symm).1;have:=l0.o;omega));have i1:=q0z H0.o (Own.of_row (q1M Y.o (show w.heap.size<=i+1 by have:=m0.o;omega))) z0.o H0.o.size;obtain⟨g1,i0⟩:=HT.o trivial;have E:(es++[(⟨x,y,B⟩:Ev)]).length=k+1:=by rw[θ,HK.o];rfl
    refine⟨⟨es++[⟨x,y,B⟩],R',a4,c4,o',rfl,rfl,?_,?_,by omega,fun h=>⟨g1,?_⟩,fun h=> .inr ?_,?_,by omega,K0.o (by have:=l0.o;omega) _ _,i1.setCell (p:=⟨i,2,none⟩) m0.o _⟩,?_⟩
    ·rw[E];exact w0.o.set 2 _
    ·rw [E,z3D]
     refine q0d (a:=⟨i,2,none⟩) ?_ _ (fun e=>?_)
     ·have h:=B0.o
      rw[show z0L [(⟨x,y,B⟩:Ev)]=evc ⟨x,y,B⟩ from by simp[z0L]];exact h
     ·have:=(q0p B0.o i e).1
      omega
    ·rw[E,z3Z,i0,Option.bind_some,HY.o h];rfl
    ·refine z8Q _ (k+1) ?_ m d1
     rw[z3Z,i0,Option.bind_some,HN.o h];rfl
    ·intro e he
     rcases List.mem_append.1 he with he|he
     ·exact E0.o e he
     ·obtain rfl:=List.mem_singleton.1 he
      exact⟨by simp only;omega,by simp only;omega⟩
    ·have h6:(w4.setCell ⟨i,2,none⟩ (.slice a4 (k+1) c4)).cell? ⟨i,2,none⟩=some (.slice a4 (k+1) c4):=(w0.o.set 2 _).cell 2
     rw[h6,c2];simp only;omega
   ·have hd:decide ((k:Int)<(m:Int))=false:=ε (by omega)
    obtain rfl:k=m:=by omega
    obtain⟨p0,q0⟩:=HT.o rfl;have O:=HG.o _ _ p0 q0;obtain⟨k0,k1,k2,f0,f1,f2,g2,d2⟩:=y2x M.o (.string ⟨#[]⟩) (.int .i64 0)
    cases R with
    | cons r0 R=>
     have j:Hd (q5V s=none):=η (by rw[O];rfl);clear O p0 q0 HT HF HG j0;go_wp2_with fail
     ((try simp only[Exit.inBlock,Exit.then]);refine bodyPost_ret (v:= .tuple #[.agg #[.string ⟨#[]⟩,.int .i64 0,.slice none 0 0],.int .i64 10]) (by rw[q1D rfl];go_simp) rfl ?_)
     exact⟨⟨_,rfl,by rw[j.o];exact rfl⟩,q4x Z.o X.o _ _ _⟩
    | nil =>
     have HC:=η (fun W (h:Evs W ao k N es)=>q9x st (fi:Int) W h (by omega) E0.o);rw[ξ rfl] at O;have A0:=η O;clear O p0 q0 HT HF HG j0 k0 k1 k2 f0 f1 f2 g2 d2;go_wp2_with fail;refine(HC.o _ y0.o).mono ?_;rintro e U ⟨rfl,F⟩;have G0:=η (Z.o.trans F);have D0:=η (q0J C0.o F);have d:=V.o.ext F;have c0:U.cell? ⟨i,0,none⟩=some (.string ⟨st.toArray⟩):=d.cell 0;have c1:U.cell? ⟨i,1,none⟩=some (.int .i64 (fi:Int)):=d.cell 1;have c2:U.cell? ⟨i,2,none⟩=some (.slice ao k N):=d.cell 2;by_cases Q:q0t st (fi:Int) es=0
     ·have n0:Hd (q5V s=some ⟨st,fi,es⟩):=η (by rw[A0.o,ξ Q])
      obtain⟨k0,k1,k2,f0,f1,f2,g2,d2⟩:=y2x (M.o.ext F) (.string ⟨st.toArray⟩) (.int .i64 (fi:Int))
      have V0:Hd (Own (((U.setCell ⟨q,0,none⟩ (.string ⟨st.toArray⟩)).setCell ⟨q,1,none⟩ (.int .i64 (fi:Int))).setCell ⟨q,2,none⟩ (.slice ao k N)) w.heap.size 67 3 (.slice ao k N) es.length (z0L es)):=η (by
       rw[HK.o];have s0:(Value.slice ao k N).ownBlock≠some q:=fun e=>by have:=(q0p D0.o q e).1;have:=l0.o;omega
       exact((((Own.of_row D0.o).setOther (a:=⟨q,0,none⟩) _ s0).setOther (a:=⟨q,1,none⟩) _ s0).setOther (a:=⟨q,2,none⟩) _ s0).base (by have:=m0.o;omega))
      rw[Q];clear F d Q;go_wp2_with fail
      ((try simp only[Exit.inBlock,Exit.then]);refine bodyPost_ret (v:= .tuple #[.agg #[.string ⟨st.toArray⟩,.int .i64 (fi:Int),.slice ao k N],.int .i64 0]) (by rw[q1D rfl];go_simp) rfl ?_)
      refine⟨⟨_,rfl,by rw[n0.o];exact⟨_,rfl,V0.o⟩⟩,q4x G0.o X.o _ _ _⟩
     ·have j:Hd (q5V s=none):=η (by rw[A0.o,κ Q])
      have p1:(q0t st (fi:Int) es==0)=false:=by simpa using Q
      obtain⟨k0,k1,k2,f0,f1,f2,g2,d2⟩:=y2x (M.o.ext F) (.string ⟨#[]⟩) (.int .i64 0);generalize q0t st (fi:Int) es=bc at*;clear F d;go_wp2_with fail
      ((try simp only[Exit.inBlock,Exit.then]);refine bodyPost_ret (v:= .tuple #[.agg #[.string ⟨#[]⟩,.int .i64 0,.slice none 0 0],.int .i64 10]) (by rw[q1D rfl];go_simp) rfl ?_)
      exact⟨⟨_,rfl,by rw[j.o];exact rfl⟩,q4x G0.o X.o _ _ _⟩
theorem z1g: ∀{L:List (Nat×List UInt8)} (hp:L.Pairwise z6X) {a:Nat} {p:List UInt8} {R:List (Nat×List UInt8)},L.filter (fun r=>decide (pos<=(r.1:Int)))=(a,p)::R->
  L.filter (fun r=>decide ((a:Int)+(p.length:Int)+12<=(r.1:Int)))=R
 |[],_,_,_,_,h=>by cases h
 | x ::t,hp,a,p,R,h=>by
  obtain⟨h1,h2⟩:=List.pairwise_cons.1 hp;by_cases b:pos<=(x.1:Int)
  ·rw[List.filter_cons_of_pos (by simpa using b)] at h
   injection h with i j;subst i;simp only at b;rw[List.filter_cons_of_neg (by simp;omega),<-j,List.filter_eq_self.2,List.filter_eq_self.2]
   ·intro y d;have:=h1 y d;unfold z6X at this;simp only at this;simp;omega
   ·intro y d;have:=h1 y d;unfold z6X at this;simp only at this;simp;omega
  ·rw[List.filter_cons_of_neg (by simpa using b)] at h
   have hm:(a,p)∈t.filter (fun r=>decide (pos<=(r.1:Int))):=by rw[h];exact List.mem_cons_self
   have h3:=(List.mem_filter.1 hm).2;simp only[Φ] at h3;rw[List.filter_cons_of_neg (by simp;omega)];exact z1g h2 h
def q2O(C:Cks)(pos:Int):List (Nat×List UInt8):=(q0k 0 C).filter (fun r=>decide (pos<=(r.1:Int)))
theorem q9W(C:Cks)(pos:Int):q4E C pos=(q2O C pos).head? :=by unfold q4E q2O;rw[List.head?_filter]
theorem q9X(h:okC C){a:Nat}{p:List UInt8}{R:List (Nat×List UInt8)}(e:q2O C pos=(a,p)::R):q2O C ((a:Int)+(p.length:Int)+12)=R:=
 z1g (q6Z C 0 h.size) e
theorem z7a(h:okC C){r:Nat×List UInt8}(j:r∈q2O C pos):r.1<4096*200/\r.2.length<=2000:=by
 have h1:=(List.mem_filter.1 j).1;have h2:=q6Y C 0 h.size r h1;have h3:=h.few;refine⟨by omega,?_⟩;have l: ∀(ps:List (List UInt8)) (a:Nat),r∈q2D a ps->r.2∈ps:=by
  intro ps
  induction ps with
  |nil=>intro a h;cases h
  | cons p t ih=>
   intro a h;rw[q2D] at h;rcases List.mem_cons.1 h with rfl|h
   ·exact List.mem_cons_self
   ·exact List.mem_cons_of_mem _ (ih _ h)
 have d: ∀(D:Cks) (b:Nat),r∈q0k b D-> ∃ps∈D,r.2∈ps:=by
  intro D
  induction D with
  |nil=>intro b h;cases h
  | cons ps t ih=>
   intro b h;rw[q0k] at h;rcases List.mem_append.1 h with h|h
   ·exact⟨ps,List.mem_cons_self,l ps _ h⟩
   ·obtain⟨q,hq,j⟩:=ih _ h
    exact⟨q,List.mem_cons_of_mem _ hq,j⟩
 obtain⟨ps,i,m⟩:=d C 0 h1;exact h.pay ps i _ m
def q2x(sd:Int)(pos:Nat)(b:Bt)(i:Nat):En:=(q2m sd b.st,(b.fi:Int)+(i:Int),(pos:Int))
def q0o(sd:Int)(pos:Nat)(b:Bt)(k:Nat):List En:=(List.range k).map (q2x sd pos b)
theorem q8L(sd:Int)(pos:Nat)(b:Bt)(k:Nat):q0o sd pos b (k+1)=q0o sd pos b k++[q2x sd pos b k]:=by unfold q0o;rw[List.range_succ,List.map_append];rfl
theorem q4Z(sd:Int)(pos:Nat)(b:Bt)(k:Nat):(q0o sd pos b k).length=k:=by unfold q0o;simp
def z2d(sd:Int):List (Nat×List UInt8)->Option (List En)
 |[]=>some []
 |(a,p)::r=>(q5V p).bind fun b=>(z2d sd r).map fun l=>q0o sd a b b.ev.length++l
def q1Y(es:List En)(L:List En):List En:=es.foldl (fun L e=>q4G e L) L
theorem q3v(a b L:List En):q1Y (a++b) L=q1Y b (q1Y a L):=by unfold q1Y;rw[List.foldl_append]
theorem q7b : ∀(es L:List En),(q1Y es L).length<=L.length+es.length
 |[],L=>ι _
 | e::t,L=>by
  have h:=q7b t (q4G e L);have:=@z6a e L;unfold q1Y at*;rw[List.foldl_cons,χ];omega
theorem z9v{s:List UInt8}{b:Bt}(h:q5V s=some b):q0t b.st (b.fi:Int) b.ev=0:=by
 unfold q5V at h
 split at h
 ·split at h
  ·split at h
   ·rename_i hc
    injection h with h;subst h;exact hc
   ·cases h
  ·cases h
 ·cases h
theorem z4M(sd:Int){pos:Nat}{b:Bt}{k:Nat}(h:q0t b.st (b.fi:Int) b.ev=0)(d:k<b.ev.length)(i:pos<4096*200):q3Z (q2x sd pos b k)=true:=by
 obtain⟨_,_,_,j,l,m,_⟩:=q1H h;obtain⟨h1,h2⟩:=z3I sd b.st;rw[okEn_iff];unfold q2x;simp only;omega
theorem z7P{e:Ev}(h:y0z e):(evB e).length<=300:=by
 obtain⟨_,h3,h4⟩:=q3W h.1;unfold evB;rw[q3E (by omega),q3E (by omega)];simp[q0G];omega
theorem z7Q(L:List Ev)(k:Nat)(h:k<L.length):((L.take (k+1)).map evB).flatten=((L.take k).map evB).flatten++evB (L.getD k ev0):=by
 rw[List.take_succ_eq_append_getElem h,List.map_append,List.flatten_append,δ,γ h];simp only[List.map_cons,List.map_nil,List.flatten_cons,List.flatten_nil,List.append_nil,Option.getD_some]
theorem y2y{b:Bt}(w:World)(j:Evs w ao n cap b.ev)(x:z5w b):
  Calls Tryz.prog 87 #[.agg #[.string ⟨b.st.toArray⟩,.int .i64 (b.fi:Int),.slice ao n cap]] w fun e w'=>e= .returned (.tuple #[.string ⟨(btB b).toArray⟩,.int .i64 0])/\Ext w w':=by
 obtain⟨p1,p2,p3,p4,p5,p6,p7⟩:=q1H x.1;have u: ∀e∈b.ev,y0z e:=fun e he=>⟨q7e p7 e he,x.2 e he⟩
 have I:q4k b.ev:=fun e he=>by
  obtain⟨_,h1,h2⟩:=q3W (u e he).1;exact⟨by omega,by omega⟩
 have d:=j.len;obtain⟨st,fi,L⟩:=b;simp only at p1 p2 p3 p4 p5 p6 p7 u I d j;have b1:=j.fits;have b2:=j.bound;have X:q0t st (fi:Int) L=0:=x.1;have HC:=η (fun W (h:Evs W ao n cap L)=>q9x st (fi:Int) W h (by omega) I);rw[X] at HC;have HT:=η (fun W=>z8j st W (by omega));have Q:=η (fun W=>z6B (fi:Int) 8 8 W rfl (by omega) (by omega) (by omega) (by omega));have O:=η (fun W=>z6B (n:Int) 1 1 W rfl (by omega) (by omega) (by omega) (by omega));rw[Int.toNat_natCast] at Q O;have l1:(q3L st).length<=50:=by rw[q3E (by omega)];simp[q0G];omega
 have l8:(be 8 fi).length<=8:=by rw[q0G];omega
 have l0:(be 1 n).length<=8:=by rw[q0G];omega
 have HE:Hd (btB ⟨st,fi,L⟩=((q3L st++be 8 fi)++be 1 n)++((L.take n).map evB).flatten):=η (by
  rw[<-d,List.take_length];unfold btB;simp)
 have e0:=η u;have b0:=η d;have F:=η j;have qf:IntKind.u64.wrap (fi:Int)=(fi:Int):=by rw[IntKind.wrap_u64];omega
 have qn:IntKind.u64.wrap (n:Int)=(n:Int):=by rw[IntKind.wrap_u64];omega
 have j0:n<=8:=by omega
 have HX:=η (q0C w (.cells #[.string ⟨st.toArray⟩,.int .i64 (fi:Int),.slice ao n cap] 160));have J:=η (Blk.new w 160 #[.string ⟨st.toArray⟩,.int .i64 (fi:Int),.slice ao n cap]);have s:=J.o;have k0:(w.alloc (.cells #[.string ⟨st.toArray⟩,.int .i64 (fi:Int),.slice ao n cap] 160)).cell? ⟨w.heap.size,0,none⟩=some (.string ⟨st.toArray⟩):=s.cell 0;have k1:(w.alloc (.cells #[.string ⟨st.toArray⟩,.int .i64 (fi:Int),.slice ao n cap] 160)).cell? ⟨w.heap.size,1,none⟩=some (.int .i64 (fi:Int)):=s.cell 1;have k2:(w.alloc (.cells #[.string ⟨st.toArray⟩,.int .i64 (fi:Int),.slice ao n cap] 160)).cell? ⟨w.heap.size,2,none⟩=some (.slice ao n cap):=s.cell 2;generalize q3L st=A at*;generalize be 8 fi=D at*;generalize be 1 n=C at*;have m0:=q3x;clear s x p1 p2 p3 p4 p5 p6 p7 u I d j X;go_enter Tryz.func87,Tryz.ntmps87;go_wp2_with fail;refine(HC.o _ (F.o.ext HX.o)).mono ?_;rintro e w1 ⟨rfl,j⟩;have G:=η (HX.o.trans j);have l:=J.o.ext j;generalize w.heap.size=q at*;have S:w1.cell? ⟨q,0,none⟩=some (.string ⟨st.toArray⟩):=l.cell 0;have U:w1.cell? ⟨q,1,none⟩=some (.int .i64 (fi:Int)):=l.cell 1;have V:w1.cell? ⟨q,2,none⟩=some (.slice ao n cap):=l.cell 2;have u0:=q0D S;have u1:=q0D U;have u2:=q0D V;have a0:=η l;have q1:¬(9223372036854775807<A.length+D.length):=by omega
 have q2:¬(9223372036854775807<(A++D).length+C.length):=by rw[θ];omega
 have q3:¬(9223372036854775807<A.length+D.length+C.length):=by omega
 clear j l k0 k1 k2;go_wp2_with fail;refine q0E (by kernel_rfl) (by kernel_rfl) ?_
 repeat (go_big_quiet_step (fail))
 go_big_quiet_step (exact Calls.quiet_ext (HT.o _))
 repeat (go_big_quiet_step (fail))
 go_big_quiet_step (exact Calls.quiet_ext (Q.o _))
 repeat (go_big_quiet_step (fail))
 go_big_quiet_step (exact Calls.quiet_ext (O.o _))
 repeat (go_big_quiet_step (fail))
 refine wpQuiet_nil ?_;intro w2 hw;have R:=η (G.o.trans hw);have m:=a0.o.ext hw;have d0:w2.cell? ⟨q,0,none⟩=some (.string ⟨st.toArray⟩):=m.cell 0;have d1:w2.cell? ⟨q,1,none⟩=some (.int .i64 (fi:Int)):=m.cell 1;have d2:w2.cell? ⟨q,2,none⟩=some (.slice ao n cap):=m.cell 2;clear hw m S U V u0 u1 u2;have h0:=η (F.o.ext R.o);go_wp2_with fail
 go_loopw [5,30] (fun e i W=> ∃k:Nat,∃T:List UInt8,k<=n/\i= .int .i64 (k:Int)/\e= .string ⟨T.toArray⟩/\T=((A++D)++C)++((L.take k).map evB).flatten/\T.length<=100+300*k/\Ext w W) (fun _ i _=>n-(intOf i).toNat)
 case atStart=>exact⟨0,_,υ _,rfl,(by first|rfl|(rw[q3c,q3c])),by simp,by simp;omega,R.o⟩
 case round=>
  obtain⟨k,T,hk,rfl,rfl,hT,i0,hb⟩:=hrel;have HT:=η hT;have M:=η hb;by_cases Z:k<n
  ·have g0:decide ((k:Int)<(n:Int))=true:=ζ (by omega)
   obtain⟨b,off,rfl,S,U,V⟩:=(F.o.ext hb).at Z;have v:k<L.length:=by rw[b0.o];exact Z
   have E:L.getD k ev0∈L:=by rw[δ,γ v];exact List.getElem_mem v
   have HS:=η (z7Q L k v);have G:=η (q0C wr (.cells #[.string ⟨(L.getD k ev0).ty.toArray⟩,.string ⟨(L.getD k ev0).da.toArray⟩,.float .f64 (L.getD k ev0).we] 67));have q4:IntKind.i64.wrap ((k:Int)+1)=(k:Int)+1:=by rw[ν];omega
   have he:=e0.o _ E;generalize L.getD k ev0=y at*;obtain⟨y1,y2,y3⟩:=y;have hs:=z7P he;have N:=η (fun W=>z9i ⟨y1,y2,y3⟩ W he);have B:Hd (∀W,Calls Tryz.prog 126 #[.agg #[.string ⟨y1.toArray⟩,.string ⟨y2.toArray⟩,.float .f64 y3]] W fun r w'=>r= .returned (.string ⟨(evB ⟨y1,y2,y3⟩).toArray⟩)/\Ext W w'):=N;obtain⟨Y,hY⟩: ∃Y,evB ⟨y1,y2,y3⟩=Y:=⟨_,rfl⟩
   rw[hY] at B hs HS;simp only at S U V;have u0:=q0D S;have u1:=q0D U;have u2:=q0D V;have q5:¬(9223372036854775807<T.length+Y.length):=by omega
   clear v E hb hT N he hY;go_wp2_with fail;refine(B.o _).mono ?_;rintro e w3 ⟨rfl,j⟩;have f0:=η ((M.o.trans G.o).trans j);clear j;go_wp2_with fail
   go_roundw
   case rel=>exact⟨k+1,T++Y,by omega,by go_num,(by first|rfl|(rw[q3c])),by rw[HS.o,HT.o,List.append_assoc],by rw[θ];omega,f0.o⟩
   case measure=>simp[intOf];omega
  ·obtain rfl:k=n:=by omega
   have g0:decide ((k:Int)<(k:Int))=false:=ε (by omega);have HF:Hd (btB ⟨st,fi,L⟩=T):=η (by rw[HE.o,hT]);clear hb hT;go_wp2_with fail;go_ret2;exact⟨by rw[HF.o];rfl,M.o⟩
end
end Go.Proofs.YtfiibpgoplcgkaaGreatDoor
