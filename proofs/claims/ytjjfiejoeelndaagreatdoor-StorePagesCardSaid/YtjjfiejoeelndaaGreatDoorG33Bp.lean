/- Walks. -/
import Derived.Test.YtjjfiejoeelndaaGreatDoorG19Bp
import Derived.Test.YtjjfiejoeelndaaGreatDoorG27Bp
import Derived.Test.YtjjfiejoeelndaaGreatDoorG28Bp
import Derived.Test.YtjjfiejoeelndaaGreatDoorG30Bp
import Derived.Test.YtjjfiejoeelndaaGreatDoorG32Bp
set_option linter.unusedVariables false
set_option linter.unusedSimpArgs false
set_option maxRecDepth 100000
set_option maxHeartbeats 6400000
namespace Go.Proofs.YtjjfiejoeelndaaGreatDoor
theorem η33 {p:Prop} (h:p):Go.RowKit.Hid p:=Lib.hid h
section
open Go.RowKit
def y4H (r:Option (Ev×List UInt8)):Value:=match r with
 |some (e,r)=> .tuple #[evV e,.string ⟨r.toArray⟩,.bool true]
 |none=> .tuple #[evV ev0,.string ⟨#[]⟩,.bool false]
theorem q3O (W:World) (a:Addr) (b:Nat) (m:Go.Mode):(store a (.float .f64 b) m).run Tryz.prog W=stored Tryz.prog W a (.float .f64 b) m:=run_store _ _ _ _ _ rfl
theorem q2T {w w1:World} (h:Ext w w1) (a b c:Value):Ext w (((w1.setCell ⟨w.heap.size,0,none⟩ a).setCell ⟨w.heap.size,1,none⟩ b).setCell ⟨w.heap.size,2,none⟩ c):=
 ((h.setCell (p:=⟨w.heap.size,0,none⟩) (Nat.le_refl _) a).setCell (p:=⟨w.heap.size,1,none⟩) (Nat.le_refl _) b).setCell (p:=⟨w.heap.size,2,none⟩) (Nat.le_refl _) c
theorem y1K (s:List UInt8) (w:World) (hl:s.length≤4611686018427387903):
  Calls Tryz.prog 101 #[.string ⟨s.toArray⟩] w fun e w'=>e= .returned (y4H (rdE s))∧Ext w w':=by
 have HR1:=η33 (fun W=>z3j s W hl);have HR2:=η33 (fun W=>z3j (rdR s) W (by have:=q9E s;omega));have hl1:=z4L s;have hl2:=z4L (rdR s);have hl3:=q9E s;have hl4:=q9E (rdR s);have HCk:=η33 (fun b W=>z1O (rdT s) (rdT (rdR s)) .f64 b W (by omega) (by omega));have HX:=η33 (q0D w (.cells #[.string ⟨#[]⟩,.string ⟨#[]⟩,.float .f64 0] 48));have HB0:=η33 (Blk.new w 48 #[.string ⟨#[]⟩,.string ⟨#[]⟩,.float .f64 0]);have HS0:Hid (∀(W:World) (a b c:Value),Blk W w.heap.size 48 #[a,b,c]→ ∀a' b',W.cell? ⟨w.heap.size,0,none⟩=some a∧W.cell? ⟨w.heap.size,1,none⟩=some b∧W.cell? ⟨w.heap.size,2,none⟩=some c∧
   W.frozen? ⟨w.heap.size,0,none⟩=false∧W.frozen? ⟨w.heap.size,1,none⟩=false∧W.frozen? ⟨w.heap.size,2,none⟩=false∧((W.setCell ⟨w.heap.size,0,none⟩ a').setCell ⟨w.heap.size,1,none⟩ b').frozen? ⟨w.heap.size,2,none⟩=false∧
   ((W.setCell ⟨w.heap.size,0,none⟩ a').setCell ⟨w.heap.size,1,none⟩ b').cell? ⟨w.heap.size,2,none⟩=some c):=η33 fun W a b c h a' b'=>by
  have h2:=(h.set 0 a').set 1 b';exact ⟨h.cell 0,h.cell 1,h.cell 2,h.free 0,h.free 1,h.free 2,h2.free 2,h2.cell 2⟩
 have hsf:=q3O;by_cases h1:q9W s=true
 case neg=>
  rw[Bool.not_eq_true] at h1;have HE:Hid (rdE s=none):=η33 (by unfold rdE;rw[h1];simp);rw[h1] at HR1;go_enter Tryz.func101,Tryz.ntmps101;go_wp2_with fail;refine (HR1.out _).mono ?_;rintro e w1 ⟨rfl,hx⟩;have HB1:=η33 (HB0.out.ext hx);have HX1:=η33 (HX.out.trans hx);clear hx;obtain ⟨c0,c1,c2,f0,f1,f2,g2,d2⟩:=HS0.out w1 _ _ _ HB1.out (.string ⟨#[]⟩) (.string ⟨#[]⟩);go_wp2_with fail
  ((try simp only[Exit.inBlock,Exit.then]);refine bodyPost_ret (v:= .tuple #[.agg #[.string ⟨#[]⟩,.string ⟨#[]⟩,.float .f64 0],.string ⟨#[]⟩,.bool false]) (by rw[q0S rfl];go_simp) rfl ?_)
  exact ⟨by rw[HE.out];rfl,q2T HX1.out _ _ _⟩
 rw[h1] at HR1;by_cases h2:q9W (rdR s)=true
 case neg=>
  rw[Bool.not_eq_true] at h2;have HE:Hid (rdE s=none):=η33 (by unfold rdE;rw[h2];simp);rw[h2] at HR2;go_enter Tryz.func101,Tryz.ntmps101;go_wp2_with fail;refine (HR1.out _).mono ?_;rintro e w1 ⟨rfl,hx⟩;have HB1:=η33 (HB0.out.ext hx);have HX1:=η33 (HX.out.trans hx);clear hx;go_wp2_with fail;refine (HR2.out _).mono ?_;rintro e w2 ⟨rfl,hx⟩;have HB2:=η33 (HB1.out.ext hx);have HX2:=η33 (HX1.out.trans hx);clear hx;obtain ⟨c0,c1,c2,f0,f1,f2,g2,d2⟩:=HS0.out w2 _ _ _ HB2.out (.string ⟨#[]⟩) (.string ⟨#[]⟩);go_wp2_with fail
  ((try simp only[Exit.inBlock,Exit.then]);refine bodyPost_ret (v:= .tuple #[.agg #[.string ⟨#[]⟩,.string ⟨#[]⟩,.float .f64 0],.string ⟨#[]⟩,.bool false]) (by rw[q0S rfl];go_simp) rfl ?_)
  exact ⟨by rw[HE.out];rfl,q2T HX2.out _ _ _⟩
 rw[h2] at HR2;obtain ⟨R,hR⟩: ∃R,rdR (rdR s)=R:=⟨_,rfl⟩
 rw[hR] at HR2 hl4;obtain ⟨T1,hT1⟩: ∃T,rdT s=T:=⟨_,rfl⟩
 obtain ⟨T2,hT2⟩: ∃T,rdT (rdR s)=T:=⟨_,rfl⟩
 by_cases h3:R.length<8
 ·have HE:Hid (rdE s=none):=η33 (by unfold rdE;rw[if_neg (by rw[hR];omega)])
  have hd:decide ((R.length:Int)<8)=true:=decide_eq_true (by omega);go_enter Tryz.func101,Tryz.ntmps101;go_wp2_with fail;refine (HR1.out _).mono ?_;rintro e w1 ⟨rfl,hx⟩;have HB1:=η33 (HB0.out.ext hx);have HX1:=η33 (HX.out.trans hx);clear hx;go_wp2_with fail;refine (HR2.out _).mono ?_;rintro e w2 ⟨rfl,hx⟩;have HB2:=η33 (HB1.out.ext hx);have HX2:=η33 (HX1.out.trans hx);clear hx;obtain ⟨c0,c1,c2,f0,f1,f2,g2,d2⟩:=HS0.out w2 _ _ _ HB2.out (.string ⟨#[]⟩) (.string ⟨#[]⟩);go_wp2_with fail
  ((try simp only[Exit.inBlock,Exit.then]);refine bodyPost_ret (v:= .tuple #[.agg #[.string ⟨#[]⟩,.string ⟨#[]⟩,.float .f64 0],.string ⟨#[]⟩,.bool false]) (by rw[q0S rfl];go_simp) rfl ?_)
  exact ⟨by rw[HE.out];rfl,q2T HX2.out _ _ _⟩
 have hd:decide ((R.length:Int)<8)=false:=decide_eq_false (by omega);have s1:=q5L R 8 8 rfl (by omega);have s2:=q3Z R 8 8 rfl (by omega);have l8:(R.take 8).length=8:=by rw[List.length_take];omega
 have HG:=η33 (fun W=>z1E (R.take 8) W (by omega));rw[show (R.take 8).take 8=R.take 8 from List.take_of_length_le (by omega)] at HG;have hub:=q2J (R.take 8);rw[l8] at hub;obtain ⟨b,hb⟩: ∃b,q1Q (R.take 8)=b:=⟨_,rfl⟩
 rw[hb] at HG;have hfb:=z1b b;rw[hT1,hT2] at HCk;rw[hT1] at HR1;rw[hT2] at HR2;by_cases h4:q1C T1 T2=0
 case neg=>
  have HE:Hid (rdE s=none):=η33 (by unfold rdE;rw[if_neg (by rw[hT1,hT2];exact fun h=>h4 h.2.2.2)]);have hcn:(q1C T1 T2 !=0)=true:=by simpa using h4
  obtain ⟨E,hE⟩: ∃E,q1C T1 T2=E:=⟨_,rfl⟩
  rw[hE] at HCk hcn;clear hE hb hub hT1 hT2 hR h1 h2 h3 h4;go_enter Tryz.func101,Tryz.ntmps101;go_wp2_with fail;refine (HR1.out _).mono ?_;rintro e w1 ⟨rfl,hx⟩;have HB1:=η33 (HB0.out.ext hx);have HX1:=η33 (HX.out.trans hx);clear hx;go_wp2_with fail;refine (HR2.out _).mono ?_;rintro e w2 ⟨rfl,hx⟩;have HB2:=η33 (HB1.out.ext hx);have HX2:=η33 (HX1.out.trans hx);clear hx;go_wp2_with fail;refine (HG.out _).mono ?_;rintro e w3 ⟨rfl,hx⟩;have HB3:=η33 (HB2.out.ext hx);have HX3:=η33 (HX2.out.trans hx);clear hx;obtain ⟨c0,c1,c2,f0,f1,f2,g2,d2⟩:=HS0.out w3 _ _ _ HB3.out (.string ⟨T1.toArray⟩) (.string ⟨T2.toArray⟩);go_wp2_with fail;refine (HCk.out b _).mono ?_;rintro e w4 ⟨rfl,hx⟩;have HB4:=η33 ((((HB3.out.set 0 (.string ⟨T1.toArray⟩)).set 1 (.string ⟨T2.toArray⟩)).set 2 (.float .f64 b)).ext hx);have HX4:=η33 ((q2T HX3.out (.string ⟨T1.toArray⟩) (.string ⟨T2.toArray⟩) (.float .f64 b)).trans hx)
  clear hx c0 c1 c2 f0 f1 f2 g2 d2;obtain ⟨c0,c1,c2,f0,f1,f2,g2,d2⟩:=HS0.out w4 _ _ _ HB4.out (.string ⟨#[]⟩) (.string ⟨#[]⟩);go_wp2_with fail
  ((try simp only[Exit.inBlock,Exit.then]);refine bodyPost_ret (v:= .tuple #[.agg #[.string ⟨#[]⟩,.string ⟨#[]⟩,.float .f64 0],.string ⟨#[]⟩,.bool false]) (by rw[q0S rfl];go_simp) rfl ?_)
  exact ⟨by rw[HE.out];rfl,q2T HX4.out _ _ _⟩
 have HE:Hid (rdE s=some (⟨T1,T2,b⟩,R.drop 8)):=η33 (by unfold rdE;rw[hT1,hT2,hR,if_pos ⟨h1,h2,by omega,h4⟩,hb]);rw[h4] at HCk;clear hb hub hT1 hT2 hR h1 h2 h3 h4;go_enter Tryz.func101,Tryz.ntmps101;go_wp2_with fail;refine (HR1.out _).mono ?_;rintro e w1 ⟨rfl,hx⟩;have HB1:=η33 (HB0.out.ext hx);have HX1:=η33 (HX.out.trans hx);clear hx;go_wp2_with fail;refine (HR2.out _).mono ?_;rintro e w2 ⟨rfl,hx⟩;have HB2:=η33 (HB1.out.ext hx);have HX2:=η33 (HX1.out.trans hx);clear hx;go_wp2_with fail;refine (HG.out _).mono ?_;rintro e w3 ⟨rfl,hx⟩;have HB3:=η33 (HB2.out.ext hx);have HX3:=η33 (HX2.out.trans hx);clear hx;obtain ⟨c0,c1,c2,f0,f1,f2,g2,d2⟩:=HS0.out w3 _ _ _ HB3.out (.string ⟨T1.toArray⟩) (.string ⟨T2.toArray⟩);go_wp2_with fail;refine (HCk.out b _).mono ?_;rintro e w4 ⟨rfl,hx⟩;have HB4':=η33 ((((HB3.out.set 0 (.string ⟨T1.toArray⟩)).set 1 (.string ⟨T2.toArray⟩)).set 2 (.float .f64 b)).ext hx)
 have HB4:=η33 (HB4'.out.ext (Ext.refl w4).drew);have HX4:=η33 (((q2T HX3.out (.string ⟨T1.toArray⟩) (.string ⟨T2.toArray⟩) (.float .f64 b)).trans hx).drew);clear hx c0 c1 c2 f0 f1 f2 g2 d2;obtain ⟨c0,c1,c2,f0,f1,f2,g2,d2⟩:=HS0.out w4.drew _ _ _ HB4.out (.string ⟨T1.toArray⟩) (.string ⟨T2.toArray⟩);obtain ⟨c0',c1',c2',f0',f1',f2',g2',d2'⟩:=HS0.out w4 _ _ _ HB4'.out (.string ⟨T1.toArray⟩) (.string ⟨T2.toArray⟩);go_wp2_with fail;refine q2m (fun W=>W.cell? ⟨w.heap.size,0,none⟩=some (.string ⟨T1.toArray⟩)∧W.cell? ⟨w.heap.size,1,none⟩=some (.string ⟨T2.toArray⟩)∧W.cell? ⟨w.heap.size,2,none⟩=some (.float .f64 b)) 3 (by kernel_rfl) ⟨c0,c1,c2⟩ (fun hHeld=>?_);refine q1I (i:=0) (v:=?_) rfl (by kernel_rfl) (fun _ _ _ h=>h) (Or.inl ⟨by rfl,?_⟩) hHeld (fun hHeld=>?_)
 rotate_left
 ·(intro w hSw;(try dsimp only at hSw);go_simp;try with_reducible rfl)
 try simp only[Act.put,List.setIfInBounds_toArray,List.set_cons_zero,List.set_cons_succ]
 refine q0C (i:=1) (v:=?_) rfl (by kernel_rfl) (fun _ _ _ h=>h) (Or.inl ⟨by rfl,?_⟩) hHeld (fun hHeld=>?_)
 rotate_left
 ·(intro w hSw;(try dsimp only at hSw);go_simp;try with_reducible rfl)
 try simp only[Act.put,List.setIfInBounds_toArray,List.set_cons_zero,List.set_cons_succ]
 refine q0C (i:=2) (v:=?_) rfl (by kernel_rfl) (fun _ _ _ h=>h) (Or.inl ⟨by rfl,?_⟩) hHeld (fun hHeld=>?_)
 rotate_left
 ·(intro w hSw;(try dsimp only at hSw);go_simp;try with_reducible rfl)
 try simp only[Act.put,List.setIfInBounds_toArray,List.set_cons_zero,List.set_cons_succ]
 refine q3S (by kernel_rfl) ?_
 try simp only[List.drop_succ_cons,List.drop_zero]
 clear hHeld;go_wp2_with fail
 ((try simp only[Exit.inBlock,Exit.then]);refine bodyPost_ret (v:= .tuple #[.agg #[.string ⟨T1.toArray⟩,.string ⟨T2.toArray⟩,.float .f64 b],.string ⟨(R.drop 8).toArray⟩,.bool true]) (by rw[q0S rfl];go_simp) rfl ?_)
 exact ⟨by rw[HE.out];rfl,q2T HX4.out _ _ _⟩
end
section
open Go.RowKit
theorem z1y (e:Ev) (L:List Ev):q7S (e::L)=evc e++q7S L:=rfl
theorem q8X : ∀(L:List Ev) (i j:Nat),i<L.length→j<3→(q7S L)[i*3+j]? =(evc (L.getD i ev0))[j]?
 |[],i,j,h,_=>by simp at h
 | k::L,0,j,_,hj=>by
  rw[z1y,List.getElem?_append_left (by simp[evc];omega)];simp
 | k::L,i+1,j,h,hj=>by
  rw[z1y,List.getElem?_append_right (by simp[evc];omega),show (i+1)*3+j-(evc k).length=i*3+j from by simp[evc];omega,q8X L i j (by simpa using h) hj];simp
structure Evs (w:World) (ao:Option Addr) (n cap:Nat) (L:List Ev):Prop where
 len:L.length=n
 fits:n≤cap
 bound:cap≤9223372036854775807
 nil:ao=none→cap=0
 rd:Rd w ao (q7S L)
theorem Evs.ext {w w':World} {ao:Option Addr} {n cap:Nat} {L:List Ev} (h:Evs w ao n cap L) (k:Ext w w'):Evs w' ao n cap L:=⟨h.len,h.fits,h.bound,h.nil,h.rd.ext k⟩
theorem Evs.at {w:World} {ao:Option Addr} {n cap:Nat} {L:List Ev} (h:Evs w ao n cap L) {i:Nat} (hi:i<n):
  ∃b off,ao=some ⟨b,off,none⟩∧w.cell? ⟨b,off+i*3,none⟩=some (.string ⟨(L.getD i ev0).ty.toArray⟩)∧w.cell? ⟨b,off+i*3+1,none⟩=some (.string ⟨(L.getD i ev0).da.toArray⟩)∧w.cell? ⟨b,off+i*3+2,none⟩=some (.float .f64 (L.getD i ev0).we):=by
 have hl:=h.len;have k0:=q8X L i 0 (by omega) (by decide);have k1:=q8X L i 1 (by omega) (by decide);have k2:=q8X L i 2 (by omega) (by decide);obtain ⟨b,off,rfl,h0⟩:=h.rd _ _ k0;obtain ⟨_,_,e1,h1⟩:=h.rd _ _ k1
 cases e1;obtain ⟨_,_,e2,h2⟩:=h.rd _ _ k2
 cases e2;exact ⟨b,off,rfl,h0,h1,h2⟩
theorem Evs.of_own {w:World} {B:Nat} {e:TypeId} {v:Value} {L:List Ev} (h:Own w B e 3 v L.length (q7S L)): ∃ao cap,v= .slice ao L.length cap∧Evs w ao L.length cap L:=by
 obtain ⟨ao,cap,rfl,h1,h2,h3,h4⟩:=h.rd;exact ⟨ao,cap,rfl,rfl,h1,h2,h3,h4⟩
theorem z2a : ∀(L:List Ev) (k:Nat),k<L.length→q9V (L.take k)=0→q9V L=if q1C (L.getD k ev0).ty (L.getD k ev0).da=0 then q9V (L.drop (k+1)) else q1C (L.getD k ev0).ty (L.getD k ev0).da
 |[],k,h,_=>by simp at h
 |e::L,0,_,_=>by simp[q9V]
 | e ::L,k+1,h,h0=>by
  rw[List.take_succ_cons,q9V] at h0
  split at h0
  ·rename_i h1
   rw[q9V,if_pos h1,z2a L k (by simpa using h) h0];simp
  ·rename_i h1;exact absurd h0 h1
theorem z1d : ∀(L:List Ev) (e:Ev),q9V L=0→q9V (L++[e])=q1C e.ty e.da
 | [],e,_=>by
  rw[List.nil_append,q9V,q9V]
  split
  ·rename_i h;exact h.symm
  ·rfl
 | x::L,e,h=>by
  rw[q9V] at h
  split at h
  ·rename_i h1;rw[List.cons_append,q9V,if_pos h1,z1d L e h]
  ·rename_i h1;exact absurd h h1
def q5N (L:List Ev):Prop:= ∀e∈L,e.ty.length≤4611686018427387903∧e.da.length≤4611686018427387903
theorem z0Y {ao:Option Addr} {n cap:Nat} {L:List Ev} (st:List UInt8) (fi:Int) (w:World) (hx:Evs w ao n cap L) (hst:st.length≤4611686018427387903) (hL:q5N L):
  Calls Tryz.prog 44 #[.agg #[.string ⟨st.toArray⟩,.int .i64 fi,.slice ao n cap]] w fun e w'=>e= .returned (.int .i64 (q0n st fi L))∧Ext w w':=by
 have b1:=hx.fits;have b2:=hx.bound;have hlen:=hx.len;have HX:=η33 (q0D w (.cells #[.string ⟨st.toArray⟩,.int .i64 fi,.slice ao n cap] 102));have hbk:=Blk.new w 102 #[.string ⟨st.toArray⟩,.int .i64 fi,.slice ao n cap];have HE:=η33 hx;have HL:=η33 hL;clear hx hL;by_cases h1:st=[]
 ·subst h1
  have HN:Hid (q0n [] fi L=2):=η33 (by unfold q0n;rw[if_pos (.inl rfl)]);clear hbk;go_enter Tryz.func44,Tryz.ntmps44;go_wp2_with fail
  go_step3
  go_wp2_with fail;rw[Exit.noGoto_ret];go_ret;exact ⟨by rw[HN.out];rfl,HX.out⟩
 have h1b:(st==[])=false:=beq_eq_false_iff_ne.2 h1;by_cases h2:n=0
 ·subst h2
  have HN:Hid (q0n st fi L=2):=η33 (by unfold q0n;rw[if_pos (.inr (List.eq_nil_of_length_eq_zero hlen))]);clear hbk h1 hlen;go_enter Tryz.func44,Tryz.ntmps44;go_wp2_with fail
  go_step3
  go_wp2_with fail;rw[Exit.noGoto_ret];go_ret;exact ⟨by rw[HN.out];rfl,HX.out⟩
 have h2b:((n:Int)==0)=false:=by simpa using h2
 have hLn:L≠[]:=fun e=>h2 (by rw[←hlen,e];rfl)
 have hno:¬(st=[]∨L=[]):=fun h=>h.elim h1 hLn
 by_cases h3:32<st.length
 ·have HN:Hid (q0n st fi L=3):=η33 (by unfold q0n;rw[if_neg hno,if_pos (.inl h3)])
  have hd:decide ((32:Int)<(st.length:Int))=true:=decide_eq_true (by omega);clear hbk h1 h2 hLn hno hlen;go_enter Tryz.func44,Tryz.ntmps44;go_wp2_with fail
  go_step3
  go_wp2_with fail;rw[Exit.noGoto_ret];go_ret;exact ⟨by rw[HN.out];rfl,HX.out⟩
 by_cases h4:8<n
 ·have HN:Hid (q0n st fi L=3):=η33 (by unfold q0n;rw[if_neg hno,if_pos (.inr (by omega))])
  have hd:decide ((8:Int)<(n:Int))=true:=decide_eq_true (by omega);clear hbk h1 h2 hLn hno hlen;go_enter Tryz.func44,Tryz.ntmps44;go_wp2_with fail
  go_step3
  go_wp2_with fail;rw[Exit.noGoto_ret];go_ret;exact ⟨by rw[HN.out];rfl,HX.out⟩
 have hno2:¬(32<st.length∨8<L.length):=by omega
 have hd4:decide ((8:Int)<(n:Int))=false:=decide_eq_false (by omega);have q0:IntKind.i64.wrap (1073741824-(n:Int))=1073741824-(n:Int):=by rw[IntKind.wrap_i64];omega
 by_cases h5:fi<0∨1073741824-(n:Int)<fi
 ·have HN:Hid (q0n st fi L=2):=η33 (by unfold q0n;rw[if_neg hno,if_neg hno2,if_pos (by rw[hlen];exact h5)])
  have hd5:decide (fi<0)=true∨(decide (fi<0)=false∧decide (1073741824-(n:Int)<fi)=true):=by
   by_cases h:fi<0
   ·exact .inl (decide_eq_true h)
   ·exact .inr ⟨decide_eq_false h,decide_eq_true (by omega)⟩
  clear hbk h1 h2 hLn hno hno2 hlen h5;rcases hd5 with hd5|⟨hd5,hd6⟩
  all_goals
   go_enter Tryz.func44,Tryz.ntmps44;go_wp2_with fail
   go_step3
   go_wp2_with fail;rw[Exit.noGoto_ret];go_ret;exact ⟨by rw[HN.out];rfl,HX.out⟩
 have hd5:decide (fi<0)=false:=decide_eq_false (by omega);have hd6:decide (1073741824-(n:Int)<fi)=false:=decide_eq_false (by omega);have HN:Hid (q0n st fi L=q9V L):=η33 (by unfold q0n;rw[if_neg hno,if_neg hno2,if_neg (by rw[hlen];exact h5)]);have HLe:=η33 hlen;clear hbk h1 h2 hLn hno hno2 hlen h5;go_enter Tryz.func44,Tryz.ntmps44;go_wp2_with fail
 go_step3
 go_wp2_with fail
 go_step3
 go_wp2_with fail
 go_loopw [2,36] (fun e i W=> ∃k:Nat,k≤n∧i= .int .i64 (k:Int)∧e= .int .i64 0∧q9V (L.take k)=0∧Ext w W) (fun _ i _=>n-(intOf i).toNat)
 case atStart=>exact ⟨0,Nat.zero_le _,rfl,rfl,rfl,HX.out⟩
 case round=>
  obtain ⟨k,hk,rfl,rfl,h0,hb⟩:=hrel;have HBk:=η33 hb;by_cases hlt:k<n
  ·have hd7:decide ((k:Int)<(n:Int))=true:=decide_eq_true (by omega)
   obtain ⟨b,off,rfl,c0,c1,c2⟩:=(HE.out.ext hb).at hlt;have hkL:k<L.length:=by rw[HLe.out];exact hlt
   have hT:L.take (k+1)=L.take k++[L.getD k ev0]:=by
    rw[List.take_succ_eq_append_getElem hkL];simp[List.getD,List.getElem?_eq_getElem hkL]
   have hS:=z1d (L.take k) (L.getD k ev0) h0;rw[←hT] at hS;have HS:=η33 hS;have HSk:=η33 (z2a L k hkL h0);have hmem:L.getD k ev0∈L:=by rw[List.getD_eq_getElem?_getD,List.getElem?_eq_getElem hkL];exact List.getElem_mem hkL
   obtain ⟨m1,m2⟩:=HL.out _ hmem;have HX1:=η33 (q0D wr (.cells #[.string ⟨(L.getD k ev0).ty.toArray⟩,.string ⟨(L.getD k ev0).da.toArray⟩,.float .f64 (L.getD k ev0).we] 48));have q1:IntKind.i64.wrap ((k:Int)+1)=(k:Int)+1:=by rw[IntKind.wrap_i64];omega
   generalize L.getD k ev0=y at*;obtain ⟨y1,y2,y3⟩:=y;have HCk:=η33 (fun W=>z1O y1 y2 .f64 y3 W m1 m2);simp only at c0 c1 c2;have u0:=q0E c0;have u1:=q0E c1;have u2:=q0E c2;have hsf:=q3O;clear hT hkL h0 hS hmem m1 m2 hb;go_wp2_with fail;refine (HCk.out _).mono ?_;rintro e w1 ⟨rfl,hx⟩;have HX2:=η33 ((HBk.out.trans HX1.out).trans hx);clear hx;by_cases hc:q1C y1 y2=0
   ·have HS':Hid (q9V (L.take (k+1))=0):=η33 (by rw[HS.out];exact hc)
    rw[hc];go_wp2_with fail
    go_roundw
    case rel=>exact ⟨k+1,by omega,by go_num,rfl,HS'.out,HX2.out⟩
    case measure=>simp[intOf];omega
   ·have HN2:Hid (q9V L=q1C y1 y2):=η33 (by rw[HSk.out,if_neg hc])
    have hcn:(q1C y1 y2==0)=false:=by simpa using hc
    clear hc;go_wp2_with fail;rw[Exit.noGoto_ret];go_ret;exact ⟨by rw[HN.out,HN2.out];rfl,HX2.out⟩
  ·obtain rfl:k=n:=by omega
   have hd7:decide ((k:Int)<(k:Int))=false:=decide_eq_false (by omega);have HN2:Hid (q9V L=0):=η33 (by rw[←HLe.out,List.take_length] at h0;exact h0);clear h0 hb;go_wp2_with fail;rw[Exit.noGoto_ret];go_ret;exact ⟨by rw[HN.out,HN2.out];rfl,HBk.out⟩
end
section
open Go.RowKit
theorem q1y {fn:Func} {p u v x:Tmp} {ty:TypeId} (h:fn.results=#[.cell p ty,.tmp u,.tmp v,.tmp x]) (tmps:Array Value) (P:Program) (w:World):
  (results fn tmps).run P w=
   ((asAddr (tmps.getD p undef)).run P w).andThen fun a w₁=>((loadVar ty a).run P w₁).andThen fun y w₂=> .ok (.tuple #[y,tmps.getD u undef,tmps.getD v undef,tmps.getD x undef]) w₂:=by
 simp only[results,h];simp[Sem.run_bind,Result.andThen]
def q7b (s:List UInt8):Value:=if q5f s=true then .tuple #[.agg #[.string ⟨(rdT s).toArray⟩,.int .i64 (q1Q ((rdR s).take 8):Int),.slice none 0 0],.int .i64 (((rdR s).getD 8 0).toNat:Int),.string ⟨((rdR s).drop 9).toArray⟩,.bool true]
 else .tuple #[.agg #[.string ⟨#[]⟩,.int .i64 0,.slice none 0 0],.int .i64 0,.string ⟨#[]⟩,.bool false]
theorem y1p (s:List UInt8) (w:World) (hl:s.length≤4611686018427387903):
  Calls Tryz.prog 100 #[.string ⟨s.toArray⟩] w fun e w'=>e= .returned (q7b s)∧Ext w w':=by
 have HR1:=η33 (fun W=>z3j s W hl);have hl1:=z4L s;have hl3:=q9E s;have HX:=η33 (q0D w (.cells #[.string ⟨#[]⟩,.int .i64 0,.slice none 0 0] 102));have HB0:=η33 (Blk.new w 102 #[.string ⟨#[]⟩,.int .i64 0,.slice none 0 0]);have HS0:Hid (∀(W:World) (a b c:Value),Blk W w.heap.size 102 #[a,b,c]→ ∀a' b',W.cell? ⟨w.heap.size,0,none⟩=some a∧W.cell? ⟨w.heap.size,1,none⟩=some b∧W.cell? ⟨w.heap.size,2,none⟩=some c∧
   W.frozen? ⟨w.heap.size,0,none⟩=false∧W.frozen? ⟨w.heap.size,1,none⟩=false∧W.frozen? ⟨w.heap.size,2,none⟩=false∧((W.setCell ⟨w.heap.size,0,none⟩ a').setCell ⟨w.heap.size,1,none⟩ b').frozen? ⟨w.heap.size,2,none⟩=false∧
   ((W.setCell ⟨w.heap.size,0,none⟩ a').setCell ⟨w.heap.size,1,none⟩ b').cell? ⟨w.heap.size,2,none⟩=some c):=η33 fun W a b c h a' b'=>by
  have h2:=(h.set 0 a').set 1 b';exact ⟨h.cell 0,h.cell 1,h.cell 2,h.free 0,h.free 1,h.free 2,h2.free 2,h2.cell 2⟩
 by_cases h1:q9W s=true
 case neg=>
  rw[Bool.not_eq_true] at h1;have HE:Hid (q7b s= .tuple #[.agg #[.string ⟨#[]⟩,.int .i64 0,.slice none 0 0],.int .i64 0,.string ⟨#[]⟩,.bool false]):=η33 (by unfold q7b q5f;rw[h1];rfl);rw[h1] at HR1;go_enter Tryz.func100,Tryz.ntmps100;go_wp2_with fail;refine (HR1.out _).mono ?_;rintro e w1 ⟨rfl,hx⟩;have HB1:=η33 (HB0.out.ext hx);have HX1:=η33 (HX.out.trans hx);clear hx;obtain ⟨c0,c1,c2,f0,f1,f2,g2,d2⟩:=HS0.out w1 _ _ _ HB1.out (.string ⟨#[]⟩) (.int .i64 0);go_wp2_with fail
  ((try simp only[Exit.inBlock,Exit.then]);refine bodyPost_ret (v:= .tuple #[.agg #[.string ⟨#[]⟩,.int .i64 0,.slice none 0 0],.int .i64 0,.string ⟨#[]⟩,.bool false]) (by rw[q1y rfl];go_simp) rfl ?_)
  exact ⟨by rw[HE.out],q2T HX1.out _ _ _⟩
 rw[h1] at HR1;obtain ⟨R,hR⟩: ∃R,rdR s=R:=⟨_,rfl⟩
 rw[hR] at HR1 hl3;by_cases h3:R.length<9
 ·have HE:Hid (q7b s= .tuple #[.agg #[.string ⟨#[]⟩,.int .i64 0,.slice none 0 0],.int .i64 0,.string ⟨#[]⟩,.bool false]):=η33 (by unfold q7b q5f;rw[h1,hR,decide_eq_false (by omega)];rfl)
  have hd:decide ((R.length:Int)<9)=true:=decide_eq_true (by omega);clear hR;go_enter Tryz.func100,Tryz.ntmps100;go_wp2_with fail;refine (HR1.out _).mono ?_;rintro e w1 ⟨rfl,hx⟩;have HB1:=η33 (HB0.out.ext hx);have HX1:=η33 (HX.out.trans hx);clear hx;obtain ⟨c0,c1,c2,f0,f1,f2,g2,d2⟩:=HS0.out w1 _ _ _ HB1.out (.string ⟨#[]⟩) (.int .i64 0);go_wp2_with fail
  ((try simp only[Exit.inBlock,Exit.then]);refine bodyPost_ret (v:= .tuple #[.agg #[.string ⟨#[]⟩,.int .i64 0,.slice none 0 0],.int .i64 0,.string ⟨#[]⟩,.bool false]) (by rw[q1y rfl];go_simp) rfl ?_)
  exact ⟨by rw[HE.out],q2T HX1.out _ _ _⟩
 have hd:decide ((R.length:Int)<9)=false:=decide_eq_false (by omega);have s1:=q5L R 8 8 rfl (by omega);have s2:=q3Z R 9 9 rfl (by omega);have l8:(R.take 8).length=8:=by rw[List.length_take];omega
 have HG:=η33 (fun W=>z1E (R.take 8) W (by omega));rw[show (R.take 8).take 8=R.take 8 from List.take_of_length_le (by omega)] at HG;have hub:=q2J (R.take 8);rw[l8] at hub;obtain ⟨b,hb⟩: ∃b,q1Q (R.take 8)=b:=⟨_,rfl⟩
 rw[hb] at HG hub;by_cases h4:1073741824<b
 ·have HE:Hid (q7b s= .tuple #[.agg #[.string ⟨#[]⟩,.int .i64 0,.slice none 0 0],.int .i64 0,.string ⟨#[]⟩,.bool false]):=η33 (by unfold q7b q5f;rw[hR,hb,decide_eq_false (p:=b≤1073741824) (by omega),Bool.and_false];rfl)
  have hd2:decide ((1073741824:Int)<(b:Int))=true:=decide_eq_true (by omega);clear hb hub hR h3;go_enter Tryz.func100,Tryz.ntmps100;go_wp2_with fail;refine (HR1.out _).mono ?_;rintro e w1 ⟨rfl,hx⟩;have HB1:=η33 (HB0.out.ext hx);have HX1:=η33 (HX.out.trans hx);clear hx;go_wp2_with fail;refine (HG.out _).mono ?_;rintro e w2 ⟨rfl,hx⟩;have HB2:=η33 (HB1.out.ext hx);have HX2:=η33 (HX1.out.trans hx);clear hx;obtain ⟨c0,c1,c2,f0,f1,f2,g2,d2⟩:=HS0.out w2 _ _ _ HB2.out (.string ⟨#[]⟩) (.int .i64 0);go_wp2_with fail
  ((try simp only[Exit.inBlock,Exit.then]);refine bodyPost_ret (v:= .tuple #[.agg #[.string ⟨#[]⟩,.int .i64 0,.slice none 0 0],.int .i64 0,.string ⟨#[]⟩,.bool false]) (by rw[q1y rfl];go_simp) rfl ?_)
  exact ⟨by rw[HE.out],q2T HX2.out _ _ _⟩
 have hd2:decide ((1073741824:Int)<(b:Int))=false:=decide_eq_false (by omega);obtain ⟨m,hm⟩: ∃m:Nat,(R.getD 8 0).toNat=m:=⟨_,rfl⟩
 have hm9:m<256:=by rw[←hm];exact (R.getD 8 0).toNat_lt
 have hb8:8<(⟨R.toArray⟩:ByteArray).size:=by show 8<R.length;omega
 have e8:((⟨R.toArray⟩:ByteArray)[8]'hb8).toNat=m:=by
  rw[←hm,List.getD_eq_getElem?_getD,List.getElem?_eq_getElem (show 8<R.length by omega)];rfl
 have h8:(8:Int)<(R.length:Int):=by omega
 have q1:IntKind.i64.wrap (b:Int)=(b:Int):=by rw[IntKind.wrap_i64];omega
 have q2:IntKind.i64.wrap (m:Int)=(m:Int):=by rw[IntKind.wrap_i64];omega
 have HE:Hid (q7b s= .tuple #[.agg #[.string ⟨(rdT s).toArray⟩,.int .i64 (b:Int),.slice none 0 0],.int .i64 (m:Int),.string ⟨(R.drop 9).toArray⟩,.bool true]):=η33 (by
  unfold q7b q5f;rw[hR,hb,h1,hm,decide_eq_true (p:=9≤R.length) (by omega),decide_eq_true (p:=b≤1073741824) (by omega)];rfl)
 obtain ⟨T1,hT1⟩: ∃T,rdT s=T:=⟨_,rfl⟩
 rw[hT1] at HE HR1;clear hb hub hR h3 h4 hT1 hm;go_enter Tryz.func100,Tryz.ntmps100;go_wp2_with fail;refine (HR1.out _).mono ?_;rintro e w1 ⟨rfl,hx⟩;have HB1:=η33 (HB0.out.ext hx);have HX1:=η33 (HX.out.trans hx);clear hx;go_wp2_with fail;refine (HG.out _).mono ?_;rintro e w2 ⟨rfl,hx⟩;have HB2:=η33 (HB1.out.ext hx);have HB2':=η33 (HB2.out.ext (Ext.refl w2).drew);have HX2:=η33 ((HX1.out.trans hx).drew);clear hx;obtain ⟨c0,c1,c2,f0,f1,f2,g2,d2⟩:=HS0.out w2 _ _ _ HB2.out (.string ⟨T1.toArray⟩) (.int .i64 (b:Int));obtain ⟨c0',c1',c2',f0',f1',f2',g2',d2'⟩:=HS0.out w2.drew _ _ _ HB2'.out (.string ⟨T1.toArray⟩) (.int .i64 (b:Int));go_wp2_with fail;refine q2m (fun W=>True) 9 (by kernel_rfl) trivial (fun hHeld=>?_);refine q0C (i:=0) (v:=?_) rfl (by kernel_rfl) (fun _ _ _ h=>h) (Or.inl ⟨by rfl,?_⟩) hHeld (fun hHeld=>?_)
 rotate_left
 ·(intro w hSw;(try dsimp only at hSw);go_simp;try with_reducible rfl)
 try simp only[Act.put,List.setIfInBounds_toArray,List.set_cons_zero,List.set_cons_succ]
 refine q0C (i:=1) (v:=?_) rfl (by kernel_rfl) (fun _ _ _ h=>h) (Or.inl ⟨by rfl,?_⟩) hHeld (fun hHeld=>?_)
 rotate_left
 ·(intro w hSw;(try dsimp only at hSw);go_simp;try with_reducible rfl)
 try simp only[Act.put,List.setIfInBounds_toArray,List.set_cons_zero,List.set_cons_succ]
 refine q0C (i:=2) (v:=?_) rfl (by kernel_rfl) (fun _ _ _ h=>h) (Or.inl ⟨by rfl,?_⟩) hHeld (fun hHeld=>?_)
 rotate_left
 ·(intro w hSw;(try dsimp only at hSw);go_simp;try with_reducible rfl)
 try simp only[Act.put,List.setIfInBounds_toArray,List.set_cons_zero,List.set_cons_succ]
 refine q0C (i:=3) (v:=?_) rfl (by kernel_rfl) (fun _ _ _ h=>h) (Or.inl ⟨by rfl,?_⟩) hHeld (fun hHeld=>?_)
 rotate_left
 ·(intro w hSw;(try dsimp only at hSw);go_simp;try with_reducible rfl)
 try simp only[Act.put,List.setIfInBounds_toArray,List.set_cons_zero,List.set_cons_succ]
 refine q0C (i:=4) (v:=?_) rfl (by kernel_rfl) (fun _ _ _ h=>h) (Or.inl ⟨by rfl,?_⟩) hHeld (fun hHeld=>?_)
 rotate_left
 ·(intro w hSw;(try dsimp only at hSw);go_simp;try with_reducible rfl)
 try simp only[Act.put,List.setIfInBounds_toArray,List.set_cons_zero,List.set_cons_succ]
 refine q0C (i:=5) (v:=?_) rfl (by kernel_rfl) (fun _ _ _ h=>h) (Or.inl ⟨by rfl,?_⟩) hHeld (fun hHeld=>?_)
 rotate_left
 ·(intro w hSw;(try dsimp only at hSw);go_simp;try with_reducible rfl)
 try simp only[Act.put,List.setIfInBounds_toArray,List.set_cons_zero,List.set_cons_succ]
 refine q0C (i:=6) (v:=?_) rfl (by kernel_rfl) (fun _ _ _ h=>h) (Or.inl ⟨by rfl,?_⟩) hHeld (fun hHeld=>?_)
 rotate_left
 ·(intro w hSw;(try dsimp only at hSw);go_simp;try with_reducible rfl)
 try simp only[Act.put,List.setIfInBounds_toArray,List.set_cons_zero,List.set_cons_succ]
 refine q0C (i:=7) (v:=?_) rfl (by kernel_rfl) (fun _ _ _ h=>h) (Or.inl ⟨by rfl,?_⟩) hHeld (fun hHeld=>?_)
 rotate_left
 ·(intro w hSw;(try dsimp only at hSw);go_simp;try with_reducible rfl)
 try simp only[Act.put,List.setIfInBounds_toArray,List.set_cons_zero,List.set_cons_succ]
 refine q0C (i:=8) (v:=?_) rfl (by kernel_rfl) (fun _ _ _ h=>h) (Or.inl ⟨by rfl,?_⟩) hHeld (fun hHeld=>?_)
 rotate_left
 ·(intro w hSw;(try dsimp only at hSw);go_simp;try with_reducible rfl)
 try simp only[Act.put,List.setIfInBounds_toArray,List.set_cons_zero,List.set_cons_succ]
 refine q3S (by kernel_rfl) ?_
 try simp only[List.drop_succ_cons,List.drop_zero]
 clear hHeld;go_wp2_with fail
 ((try simp only[Exit.inBlock,Exit.then]);refine bodyPost_ret (v:= .tuple #[.agg #[.string ⟨T1.toArray⟩,.int .i64 (b:Int),.slice none 0 0],.int .i64 (m:Int),.string ⟨(R.drop 9).toArray⟩,.bool true]) (by rw[q1y rfl];go_simp) rfl ?_)
 exact ⟨by rw[HE.out],q2T HX2.out _ _ _⟩
end
section
open Go.RowKit
theorem Tryz.infoEv :(Tryz.prog.info? 48).map (fun i=>(i.zero,i.size,i.bytes))=some (some (.agg #[.string ⟨#[]⟩,.string ⟨#[]⟩,.float .f64 0]),3,40):=by kernel_rfl
theorem z8k (s:List UInt8) (k:Nat) (h:z3X k s=none): ∀m,k≤m→z3X m s=none:=by
 intro m hm;obtain ⟨d,rfl⟩:=Nat.le.dest hm;clear hm
 induction d with
 |zero=>exact h
 |succ d ih=>rw[←Nat.add_assoc,z3X,ih];rfl
theorem y2O (s:List UInt8): ∃e R o,y4H (rdE s)= .tuple #[evV e,.string ⟨R.toArray⟩,.bool o]∧(o=true→rdE s=some (e,R))∧(o=false→rdE s=none)∧e.ty.length≤16∧e.da.length≤200∧R.length≤s.length:=by
 by_cases h:q9W s=true∧q9W (rdR s)=true∧8≤(rdR (rdR s)).length∧q1C (rdT s) (rdT (rdR s))=0
 ·have e1:rdE s=some (⟨rdT s,rdT (rdR s),q1Q ((rdR (rdR s)).take 8)⟩,(rdR (rdR s)).drop 8):=by unfold rdE;rw[if_pos h]
  obtain ⟨_,h2,h3⟩:=q3a h.2.2.2;have l1:=q9E s;have l2:=q9E (rdR s);exact ⟨_,_,true,by rw[e1];rfl,fun _=>e1,fun e=>by simp at e,h2,h3,by rw[List.length_drop];omega⟩
 ·have e1:rdE s=none:=by unfold rdE;rw[if_neg h]
  exact ⟨ev0,[],false,by rw[e1];rfl,fun e=>by simp at e,fun _=>e1,by decide,by decide,Nat.zero_le _⟩
theorem y0i (s:List UInt8): ∃st fi m R o,q7b s= .tuple #[.agg #[.string ⟨st.toArray⟩,.int .i64 ((fi:Nat):Int),.slice none 0 0],.int .i64 ((m:Nat):Int),.string ⟨R.toArray⟩,.bool o]∧st.length≤s.length∧R.length≤s.length∧m≤255∧fi≤1073741824∧
  (∀es T,o=true→z3X m R=some (es,T)→q5X s=if T=[] then (if q0n st (fi:Int) es=0 then some ⟨st,fi,es⟩ else none) else none)∧((o=false∨z3X m R=none)→q5X s=none):=by
 have l1:=z4L s;have l2:=q9E s;by_cases h:q5f s=true
 ·have h':=h
  unfold q5f at h';simp only[Bool.and_eq_true,decide_eq_true_eq] at h';refine ⟨rdT s,q1Q ((rdR s).take 8),((rdR s).getD 8 0).toNat,(rdR s).drop 9,true,by unfold q7b;rw[if_pos h],by omega,by rw[List.length_drop];omega,by have:=UInt8.toNat_lt ((rdR s).getD 8 0);omega,h'.2,fun es T _ he=>?_,fun he=>?_⟩
  ·unfold q5X
   rw[if_pos h,he]
   cases T with
   |nil=>rfl
   |cons a b=>rfl
  ·rcases he with he|he
   ·cases he
   ·unfold q5X;rw[if_pos h,he]
 ·refine ⟨[],0,0,[],false,by unfold q7b;rw[if_neg h];rfl,Nat.zero_le _,Nat.zero_le _,by omega,by omega,fun es T e=>by simp at e,fun _=>by unfold q5X;rw[if_neg h]⟩
def y4F (B:Nat) (w:World) (r:Option Bt) (v:Value):Prop:=match r with
 |none=>v= .tuple #[.agg #[.string ⟨#[]⟩,.int .i64 0,.slice none 0 0],.int .i64 10]
 |some b=> ∃x,v= .tuple #[.agg #[.string ⟨b.st.toArray⟩,.int .i64 (b.fi:Int),x],.int .i64 0]∧Own w B 48 3 x b.ev.length (q7S b.ev)
theorem y3T {W:World} {q:Nat} {t:TypeId} {a b c:Value} (h:Blk W q t #[a,b,c]) (a' b':Value):W.cell? ⟨q,0,none⟩=some a∧W.cell? ⟨q,1,none⟩=some b∧W.cell? ⟨q,2,none⟩=some c∧
   W.frozen? ⟨q,0,none⟩=false∧W.frozen? ⟨q,1,none⟩=false∧W.frozen? ⟨q,2,none⟩=false∧((W.setCell ⟨q,0,none⟩ a').setCell ⟨q,1,none⟩ b').frozen? ⟨q,2,none⟩=false∧
   ((W.setCell ⟨q,0,none⟩ a').setCell ⟨q,1,none⟩ b').cell? ⟨q,2,none⟩=some c:=by
 have h2:=(h.set 0 a').set 1 b';exact ⟨h.cell 0,h.cell 1,h.cell 2,h.free 0,h.free 1,h.free 2,h2.free 2,h2.cell 2⟩
theorem q4p {w w1:World} (h:Ext w w1) {q:Nat} (hq:w.heap.size≤q) (a b c:Value):Ext w (((w1.setCell ⟨q,0,none⟩ a).setCell ⟨q,1,none⟩ b).setCell ⟨q,2,none⟩ c):=
 ((h.setCell (p:=⟨q,0,none⟩) hq a).setCell (p:=⟨q,1,none⟩) hq b).setCell (p:=⟨q,2,none⟩) hq c
theorem z6x (s :List UInt8) (w:World) (hl:s.length≤4611686018427387903):
  Calls Tryz.prog 54 #[.string ⟨s.toArray⟩] w fun e w'=>(∃v,e= .returned v∧y4F w.heap.size w' (q5X s) v)∧Ext w w':=by
 have HH:=η33 (fun W=>y1p s W hl);obtain ⟨st,fi,m,S9,o0,hv,hst,hS9,hm,hfi,hG,hG0⟩:=y0i s;rw[hv] at HH;have HG:=η33 hG;have HG0:=η33 hG0;have HX:=η33 (q0D w (.cells #[.string ⟨#[]⟩,.int .i64 0,.slice none 0 0] 102));have HB0:=η33 (Blk.new w 102 #[.string ⟨#[]⟩,.int .i64 0,.slice none 0 0]);have hsf:=q3O;clear hv hG hG0;obtain ⟨q,hq⟩: ∃q,w.heap.size=q:=⟨_,rfl⟩
 have HQ:=η33 hq;have HQl:Hid (w.heap.size≤q):=η33 (by omega);rw[hq] at HB0;go_enter Tryz.func54,Tryz.ntmps54;go_wp2_with fail;refine (HH.out _).mono ?_;rintro e w1 ⟨rfl,hx⟩;have HB1:=η33 (HB0.out.ext hx);have HX1:=η33 (HX.out.trans hx);clear hx;go_wp2_with fail;obtain ⟨q4,hq4⟩: ∃q4,w1.heap.size=q4:=⟨_,rfl⟩
 have hlt1:w.heap.size≤w1.heap.size:=HX1.out.size;have HQ4:Hid (q+1≤q4):=η33 (by have:=HB1.out.lt;omega);have HQw:Hid (w.heap.size≤q4):=η33 (by omega);have HB2:=η33 (HB1.out.ext (q0D w1 (.cells #[.string ⟨st.toArray⟩,.int .i64 (fi:Int),.slice none 0 0] 102)));have HX2:=η33 (HX1.out.trans (q0D w1 (.cells #[.string ⟨st.toArray⟩,.int .i64 (fi:Int),.slice none 0 0] 102)));have HE2:=η33 (Blk.new w1 102 #[.string ⟨st.toArray⟩,.int .i64 (fi:Int),.slice none 0 0]);rw[hq4] at HE2⊢;clear hq4 hlt1
 go_loopw [6,7] (fun r o W=> ∃es R ao cp b,r= .string ⟨(R:List UInt8).toArray⟩∧o= .bool b∧Blk W q4 102 #[.string ⟨st.toArray⟩,.int .i64 (fi:Int),.slice ao es.length cp]∧
   W.ownsRow (q4+1) 48 3 (.slice ao es.length cp) es.length (q7S es)∧es.length≤m∧(b=true→o0=true∧z3X es.length S9=some (es,R))∧(b=false→o0=false∨z3X m S9=none)∧q5N es∧
   R.length≤4611686018427387903∧Blk W q 102 #[.string ⟨#[]⟩,.int .i64 0,.slice none 0 0]∧Ext w W)
  (fun _ _ W=>m-(match W.cell? ⟨q4,2,none⟩ with|some (.slice _ n _)=>n|_=>0))
 case atStart=>
  refine ⟨[],S9,none,0,o0,rfl,rfl,HE2.out,World.ownsRow_nil _ _ _ _,Nat.zero_le _,fun h=>⟨h,rfl⟩,fun h=> .inl h,(fun e he=>absurd he (List.not_mem_nil)),by omega,HB2.out,HX2.out⟩
 case round =>
  obtain ⟨es,R,ao,cp,b,rfl,rfl,hb4,hrow,hlen,hT,hF,hsh,hRl,hbq,hxw⟩:=hrel;obtain ⟨ao2,cp2,he2,hev⟩:=Evs.of_own (Own.of_row hrow)
  cases he2;obtain ⟨k,hk⟩: ∃k,es.length=k:=⟨_,rfl⟩
  have hcp1:=hev.fits;have hcp2:=hev.bound;have HEv:=η33 hev;clear hev;rw[hk] at hb4 hrow hlen hT hcp1 HEv;have HK:=η33 hk;have HB4:=η33 hb4;have HR4:=η33 hrow;have HT:=η33 hT;have HF:=η33 hF;have HSh:=η33 hsh;have HBq:=η33 hbq;have HXw:=η33 hxw;have c0:wr.cell? ⟨q4,0,none⟩=some (.string ⟨st.toArray⟩):=hb4.cell 0;have c1:wr.cell? ⟨q4,1,none⟩=some (.int .i64 (fi:Int)):=hb4.cell 1;have c2:wr.cell? ⟨q4,2,none⟩=some (.slice ao k cp):=hb4.cell 2;clear hk hb4 hrow hT hF hsh hbq hxw
  cases b with
  | false=>
   have HNone:Hid (q5X s=none):=η33 (HG0.out (HF.out rfl));obtain ⟨k0,k1,k2,f0,f1,f2,g2,d2⟩:=y3T HBq.out (.string ⟨#[]⟩) (.int .i64 0);clear HT HF;go_wp2_with fail
   ((try simp only[Exit.inBlock,Exit.then]);refine bodyPost_ret (v:= .tuple #[.agg #[.string ⟨#[]⟩,.int .i64 0,.slice none 0 0],.int .i64 10]) (by rw[q0x rfl];go_simp) rfl ?_)
   exact ⟨⟨_,rfl,by rw[HNone.out];exact rfl⟩,q4p HXw.out HQl.out _ _ _⟩
  | true =>
   by_cases hkm:k<m
   ·have hd:decide ((k:Int)<(m:Int))=true:=decide_eq_true (by omega)
    obtain ⟨⟨y1,y2,y3⟩,R',o',hv,hy,hn,ht1,ht2,hRR⟩:=y2O R;have hv':y4H (rdE R)= .tuple #[.agg #[.string ⟨y1.toArray⟩,.string ⟨y2.toArray⟩,.float .f64 y3],.string ⟨R'.toArray⟩,.bool o']:=hv;have HE:=η33 (fun W=>y1K R W hRl);rw[hv'] at HE;have HY:=η33 hy;have HN:=η33 hn;clear hv hv' hy hn;go_wp2_with fail;refine (HE.out _).mono ?_;rintro e w2 ⟨rfl,hx⟩;obtain ⟨q8,hq8⟩: ∃q8,wr.heap.size=q8:=⟨_,rfl⟩
    rw[hq8];have hxx:=(q0D wr (.cells #[.string ⟨#[]⟩,.string ⟨#[]⟩,.float .f64 0] 48)).trans hx;have hb8:=(Blk.new wr 48 #[.string ⟨#[]⟩,.string ⟨#[]⟩,.float .f64 0]).ext hx;rw[hq8] at hb8;obtain ⟨k0,k1,k2,f0,f1,f2,g2,d2⟩:=y3T hb8 (.string ⟨y1.toArray⟩) (.string ⟨y2.toArray⟩);have hex:=q4p hxx (q:=q8) (by omega) (.string ⟨y1.toArray⟩) (.string ⟨y2.toArray⟩) (.float .f64 y3);have hb83:=((hb8.set 0 (.string ⟨y1.toArray⟩)).set 1 (.string ⟨y2.toArray⟩)).set 2 (.float .f64 y3);have e0:((((w2.setCell ⟨q8,0,none⟩ (.string ⟨y1.toArray⟩)).setCell ⟨q8,1,none⟩ (.string ⟨y2.toArray⟩)).setCell ⟨q8,2,none⟩ (.float .f64 y3)).cell? ⟨q8,0,none⟩)=some (.string ⟨y1.toArray⟩):=hb83.cell 0;have e1:((((w2.setCell ⟨q8,0,none⟩ (.string ⟨y1.toArray⟩)).setCell ⟨q8,1,none⟩ (.string ⟨y2.toArray⟩)).setCell ⟨q8,2,none⟩ (.float .f64 y3)).cell? ⟨q8,1,none⟩)=some (.string ⟨y2.toArray⟩):=hb83.cell 1;have e2:((((w2.setCell ⟨q8,0,none⟩ (.string ⟨y1.toArray⟩)).setCell ⟨q8,1,none⟩ (.string ⟨y2.toArray⟩)).setCell ⟨q8,2,none⟩ (.float .f64 y3)).cell? ⟨q8,2,none⟩)=some (.float .f64 y3):=hb83.cell 2
    have e3:((((w2.setCell ⟨q8,0,none⟩ (.string ⟨y1.toArray⟩)).setCell ⟨q8,1,none⟩ (.string ⟨y2.toArray⟩)).setCell ⟨q8,2,none⟩ (.float .f64 y3)).cell? ⟨q4,2,none⟩)=some (.slice ao k cp):=(HB4.out.ext hex).cell 2;have hxa:=hex.trans (q0D _ (.cells #[.string ⟨y1.toArray⟩,.string ⟨y2.toArray⟩,.float .f64 y3] 48));have HB4a:=η33 (HB4.out.ext hxa);have HBqa:=η33 (HBq.out.ext hxa);have HRa:=η33 (q0J HR4.out hxa);have HXa:=η33 (HXw.out.trans hxa);have HSa:=η33 (show q4+1≤_ from Nat.le_trans (show q4+1≤wr.heap.size from HB4.out.lt) hxa.size);have hrd:=Rd.lit (((w2.setCell ⟨q8,0,none⟩ (.string ⟨y1.toArray⟩)).setCell ⟨q8,1,none⟩ (.string ⟨y2.toArray⟩)).setCell ⟨q8,2,none⟩ (.float .f64 y3)) #[.string ⟨y1.toArray⟩,.string ⟨y2.toArray⟩,.float .f64 y3] 48;rw[World.size_setCell,World.size_setCell,World.size_setCell] at hrd;have HRd:=η33 hrd;clear hx hxx hb8 hex hb83 hxa hrd
    go_wp2_with (at_builtin;refine q0K rfl (.tmp 31) (.tmp 33) 22 rfl (q4+1) 48 _ 3 40 Tryz.underlying22 Tryz.infoEv (by decide) (by decide) _ k (q7S es) rfl HRa.out _ 1 1 (evc ⟨y1,y2,y3⟩) rfl rfl (fun h=>by cases h) HRd.out (fun u hu=>z9D [⟨y1,y2,y3⟩] u (by simpa [q7S] using hu)) (by unfold maxLen;omega) (by omega) HSa.out ?_;intro v4 w4 hown hgrow hat;obtain ⟨a4,c4,rfl⟩:=q0G hown;have hb5:=HB4a.out.same (hgrow.block q4 HB4a.out.lt (fun e=>by have:=(q0e HRa.out q4 e.symm).1;omega));have d6:=hb5.cell 2;have d7:=hb5.free 2;have HB5:=η33 hb5;have HO4:=η33 hown;have HG4:=η33 hgrow;clear hown hgrow hat hb5)
    have hbq5:=HBqa.out.same (HG4.out.block q HBqa.out.lt (fun e=>by have:=(q0e HRa.out q e.symm).1;have:=HQ4.out;omega));have hx4:=q0p HXa.out (Own.of_row (q0z HRa.out (show w.heap.size≤q4+1 by have:=HQw.out;omega))) HG4.out HXa.out.size;obtain ⟨ht0,ht0'⟩:=HT.out trivial;have hlen':(es++[(⟨y1,y2,y3⟩:Ev)]).length=k+1:=by rw[List.length_append,HK.out];rfl
    refine ⟨⟨es++[⟨y1,y2,y3⟩],R',a4,c4,o',rfl,rfl,?_,?_,by omega,fun h=>⟨ht0,?_⟩,fun h=> .inr ?_,?_,by omega,hbq5.out (by have:=HQ4.out;omega) _ _,hx4.setCell (p:=⟨q4,2,none⟩) HQw.out _⟩,?_⟩
    ·rw[hlen'];exact HB5.out.set 2 _
    ·rw [hlen',q8N]
     refine q1D (a:=⟨q4,2,none⟩) ?_ _ (fun e=>?_)
     ·have h:=HO4.out
      rw[show q7S [(⟨y1,y2,y3⟩:Ev)]=evc ⟨y1,y2,y3⟩ from by simp[q7S]];exact h
     ·have:=(q0e HO4.out q4 e).1
      omega
    ·rw[hlen',z3X,ht0',Option.bind_some,HY.out h];rfl
    ·refine z8k _ (k+1) ?_ m hkm
     rw[z3X,ht0',Option.bind_some,HN.out h];rfl
    ·intro e he
     rcases List.mem_append.1 he with he|he
     ·exact HSh.out e he
     ·obtain rfl:=List.mem_singleton.1 he
      exact ⟨by simp only;omega,by simp only;omega⟩
    ·have h6:(w4.setCell ⟨q4,2,none⟩ (.slice a4 (k+1) c4)).cell? ⟨q4,2,none⟩=some (.slice a4 (k+1) c4):=(HB5.out.set 2 _).cell 2
     rw[h6,c2];simp only;omega
   ·have hd:decide ((k:Int)<(m:Int))=false:=decide_eq_false (by omega)
    obtain rfl:k=m:=by omega
    obtain ⟨hT1,hT2⟩:=HT.out rfl;have hGG:=HG.out _ _ hT1 hT2;obtain ⟨k0,k1,k2,f0,f1,f2,g2,d2⟩:=y3T HBq.out (.string ⟨#[]⟩) (.int .i64 0)
    cases R with
    | cons r0 R=>
     have HNone:Hid (q5X s=none):=η33 (by rw[hGG];rfl);clear hGG hT1 hT2 HT HF HG HG0;go_wp2_with fail
     ((try simp only[Exit.inBlock,Exit.then]);refine bodyPost_ret (v:= .tuple #[.agg #[.string ⟨#[]⟩,.int .i64 0,.slice none 0 0],.int .i64 10]) (by rw[q0x rfl];go_simp) rfl ?_)
     exact ⟨⟨_,rfl,by rw[HNone.out];exact rfl⟩,q4p HXw.out HQl.out _ _ _⟩
    | nil =>
     have HC:=η33 (fun W (h:Evs W ao k cp es)=>z0Y st (fi:Int) W h (by omega) HSh.out);rw[if_pos rfl] at hGG;have HGG:=η33 hGG;clear hGG hT1 hT2 HT HF HG HG0 k0 k1 k2 f0 f1 f2 g2 d2;go_wp2_with fail;refine (HC.out _ HEv.out).mono ?_;rintro e w2 ⟨rfl,hx⟩;have HX3:=η33 (HXw.out.trans hx);have HRo:=η33 (q0J HR4.out hx);have hb4:=HB4.out.ext hx;have c0:w2.cell? ⟨q4,0,none⟩=some (.string ⟨st.toArray⟩):=hb4.cell 0;have c1:w2.cell? ⟨q4,1,none⟩=some (.int .i64 (fi:Int)):=hb4.cell 1;have c2:w2.cell? ⟨q4,2,none⟩=some (.slice ao k cp):=hb4.cell 2;by_cases hbc:q0n st (fi:Int) es=0
     ·have HSome:Hid (q5X s=some ⟨st,fi,es⟩):=η33 (by rw[HGG.out,if_pos hbc])
      obtain ⟨k0,k1,k2,f0,f1,f2,g2,d2⟩:=y3T (HBq.out.ext hx) (.string ⟨st.toArray⟩) (.int .i64 (fi:Int));have HOw:Hid (Own (((w2.setCell ⟨q,0,none⟩ (.string ⟨st.toArray⟩)).setCell ⟨q,1,none⟩ (.int .i64 (fi:Int))).setCell ⟨q,2,none⟩ (.slice ao k cp)) w.heap.size 48 3 (.slice ao k cp) es.length (q7S es)):=η33 (by
       rw[HK.out];have hlq:(Value.slice ao k cp).ownBlock≠some q:=fun e=>by have:=(q0e HRo.out q e).1;have:=HQ4.out;omega
       exact ((((Own.of_row HRo.out).setOther (a:=⟨q,0,none⟩) _ hlq).setOther (a:=⟨q,1,none⟩) _ hlq).setOther (a:=⟨q,2,none⟩) _ hlq).base (by have:=HQw.out;omega))
      rw[hbc];clear hx hb4 hbc;go_wp2_with fail
      ((try simp only[Exit.inBlock,Exit.then]);refine bodyPost_ret (v:= .tuple #[.agg #[.string ⟨st.toArray⟩,.int .i64 (fi:Int),.slice ao k cp],.int .i64 0]) (by rw[q0x rfl];go_simp) rfl ?_)
      refine ⟨⟨_,rfl,by rw[HSome.out];exact ⟨_,rfl,HOw.out⟩⟩,q4p HX3.out HQl.out _ _ _⟩
     ·have HNone:Hid (q5X s=none):=η33 (by rw[HGG.out,if_neg hbc])
      have hbn:(q0n st (fi:Int) es==0)=false:=by simpa using hbc
      obtain ⟨k0,k1,k2,f0,f1,f2,g2,d2⟩:=y3T (HBq.out.ext hx) (.string ⟨#[]⟩) (.int .i64 0);generalize q0n st (fi:Int) es=bc at*;clear hx hb4;go_wp2_with fail
      ((try simp only[Exit.inBlock,Exit.then]);refine bodyPost_ret (v:= .tuple #[.agg #[.string ⟨#[]⟩,.int .i64 0,.slice none 0 0],.int .i64 10]) (by rw[q0x rfl];go_simp) rfl ?_)
      exact ⟨⟨_,rfl,by rw[HNone.out];exact rfl⟩,q4p HX3.out HQl.out _ _ _⟩
end
section
open Go.RowKit
theorem z1V {pos:Int}: ∀{L:List (Nat×List UInt8)} (hp:L.Pairwise y0T) {a:Nat} {p:List UInt8} {R:List (Nat×List UInt8)},L.filter (fun r=>decide (pos≤(r.1:Int)))=(a,p)::R→
  L.filter (fun r=>decide ((a:Int)+(p.length:Int)+12≤(r.1:Int)))=R
 |[],_,_,_,_,h=>by cases h
 | x ::t,hp,a,p,R,h=>by
  obtain ⟨h1,h2⟩:=List.pairwise_cons.1 hp;by_cases hx:pos≤(x.1:Int)
  ·rw[List.filter_cons_of_pos (by simpa using hx)] at h
   injection h with e1 e2;subst e1;simp only at hx;rw[List.filter_cons_of_neg (by simp;omega),←e2,List.filter_eq_self.2,List.filter_eq_self.2]
   ·intro y hy;have:=h1 y hy;unfold y0T at this;simp only at this;simp;omega
   ·intro y hy;have:=h1 y hy;unfold y0T at this;simp only at this;simp;omega
  ·rw[List.filter_cons_of_neg (by simpa using hx)] at h
   have hm:(a,p)∈t.filter (fun r=>decide (pos≤(r.1:Int))):=by rw[h];exact List.mem_cons_self
   have h3:=(List.mem_filter.1 hm).2;simp only[decide_eq_true_eq] at h3;rw[List.filter_cons_of_neg (by simp;omega)];exact z1V h2 h
def q2I (C:Cks) (pos:Int):List (Nat×List UInt8):=(q1E 0 C).filter (fun r=>decide (pos≤(r.1:Int)))
theorem z0B (C:Cks) (pos:Int):q4D C pos=(q2I C pos).head? :=by unfold q4D q2I;rw[List.head?_filter]
theorem z0F {C:Cks} (h:okC C) {pos:Int} {a:Nat} {p:List UInt8} {R:List (Nat×List UInt8)} (e:q2I C pos=(a,p)::R):q2I C ((a:Int)+(p.length:Int)+12)=R:=
 z1V (q7n C 0 h.size) e
theorem z8Z {C:Cks} (h:okC C) {pos:Int} {r:Nat×List UInt8} (hr:r∈q2I C pos):r.1<4096*200∧r.2.length≤2000:=by
 have h1:=(List.mem_filter.1 hr).1;have h2:=q6o C 0 h.size r h1;have h3:=h.few;refine ⟨by omega,?_⟩;have key: ∀(ps:List (List UInt8)) (a:Nat),r∈q2v a ps→r.2∈ps:=by
  intro ps
  induction ps with
  |nil=>intro a h;cases h
  | cons p t ih=>
   intro a h;rw[q2v] at h;rcases List.mem_cons.1 h with rfl|h
   ·exact List.mem_cons_self
   ·exact List.mem_cons_of_mem _ (ih _ h)
 have key2: ∀(D:Cks) (b:Nat),r∈q1E b D→ ∃ps∈D,r.2∈ps:=by
  intro D
  induction D with
  |nil=>intro b h;cases h
  | cons ps t ih=>
   intro b h;rw[q1E] at h;rcases List.mem_append.1 h with h|h
   ·exact ⟨ps,List.mem_cons_self,key ps _ h⟩
   ·obtain ⟨q,hq,hr⟩:=ih _ h
    exact ⟨q,List.mem_cons_of_mem _ hq,hr⟩
 obtain ⟨ps,hps,hp⟩:=key2 C 0 h1;exact h.pay ps hps _ hp
def q2t (sd:Int) (pos:Nat) (b:Bt) (i:Nat):En:=(q2n sd b.st,(b.fi:Int)+(i:Int),(pos:Int))
def q0j (sd:Int) (pos:Nat) (b:Bt) (k:Nat):List En:=(List.range k).map (q2t sd pos b)
theorem q8e (sd:Int) (pos:Nat) (b:Bt) (k:Nat):q0j sd pos b (k+1)=q0j sd pos b k++[q2t sd pos b k]:=by unfold q0j;rw[List.range_succ,List.map_append];rfl
theorem q4b (sd:Int) (pos:Nat) (b:Bt) (k:Nat):(q0j sd pos b k).length=k:=by unfold q0j;simp
def z2v (sd:Int):List (Nat×List UInt8)→Option (List En)
 |[]=>some []
 |(a,p)::r=>(q5X p).bind fun b=>(z2v sd r).map fun l=>q0j sd a b b.ev.length++l
def q1Z (es:List En) (L:List En):List En:=es.foldl (fun L e=>q4K e L) L
theorem q3w (a b L:List En):q1Z (a++b) L=q1Z b (q1Z a L):=by unfold q1Z;rw[List.foldl_append]
theorem q7m : ∀(es L:List En),(q1Z es L).length≤L.length+es.length
 |[],L=>Nat.le_refl _
 | e::t,L=>by
  have h:=q7m t (q4K e L);have:=@z8l e L;unfold q1Z at*;rw[List.foldl_cons,List.length_cons];omega
theorem y0d {s:List UInt8} {b:Bt} (h:q5X s=some b):q0n b.st (b.fi:Int) b.ev=0:=by
 unfold q5X at h
 split at h
 ·split at h
  ·split at h
   ·rename_i hc
    injection h with h;subst h;exact hc
   ·cases h
  ·cases h
 ·cases h
theorem z5H (sd:Int) {pos:Nat} {b:Bt} {k:Nat} (h:q0n b.st (b.fi:Int) b.ev=0) (hk:k<b.ev.length) (hp:pos<4096*200):q3B (q2t sd pos b k)=true:=by
 obtain ⟨_,_,_,p4,p5,p6,_⟩:=q0s h;obtain ⟨h1,h2⟩:=z3B sd b.st;rw[okEn_iff];unfold q2t;simp only;omega
end
section
open Go.RowKit
theorem z9r {σ:DM} {n:Int} {L:List En} {may:Int→Bool} (h:Wl σ n L) (hs:q0u L) (ho: ∀e∈L,q3B e=true) (ht: ∀x∈L,may x.1=true) (x u:Int):
  ∃ k,k≤5∧(q4l L may x=false→k=0)∧q3h σ n L may x u=match (if u<0 then none else q3M L x (min u 1073741824)) with
   |none=>(en0,false,0,tellN k σ)
   |some y=>(y,true,0,tellN k σ):=by
 unfold q3h;by_cases hc:min u 1073741824<0∨q4l L may x=false
 ·rw [if_pos hc]
  refine ⟨0,by omega,fun _=>rfl,?_⟩;by_cases hu:u<0
  ·rw[if_pos hu];rfl
  ·rw [if_neg hu]
   have hm:q4l L may x=false:=by rcases hc with hc|hc;omega;exact hc
   have e:q3M L x (min u 1073741824)=none:=by
    unfold q3M;rw[List.filter_eq_nil_iff.2 fun y hy=>?_]
    ·rfl
    ·unfold inE
     rw[decide_eq_false (z8r ht hm y hy)];simp
   rw[e];rfl
 ·rw [if_neg hc]
  have hu:¬u<0:=fun h=>hc (.inl (by omega))
  rw[if_neg hu];obtain ⟨k,hk,e⟩:=z5B h hs ho (x,min u 1073741824+1,0);have hla:=z7W (l:=L) (h:=x) (t:=min u 1073741824) hs ho;have hle:=q4u L (x,min u 1073741824+1,0);rw[e];simp only;generalize lbE L (x,min u 1073741824+1,0)=lb at*;by_cases hl0:lb=0
  ·rw[if_pos hl0] at hla
   rw[if_pos (.inr hl0),hla];exact ⟨k,by omega,fun hm=>absurd (.inr hm) hc,rfl⟩
  ·rw [if_neg hl0] at hla
   rw[if_neg (by simp[hl0])];have hi:lb-1<L.length:=by omega
   rw[List.getElem?_eq_getElem hi] at hla;rw[q8F (h.tellN k) ho hi];simp only at hla⊢;by_cases hx:L[lb-1].1=x
   ·rw[if_pos hx] at hla
    rw[if_neg (by simp[hx]),hla];exact ⟨k+1,by omega,fun hm=>absurd (.inr hm) hc,by simp only;rw[q9D]⟩
   ·rw[if_neg hx] at hla
    rw[if_pos (.inr hx),hla];exact ⟨k+1,by omega,fun hm=>absurd (.inr hm) hc,by simp only;rw[q9D]⟩
theorem q8U {σ:DM} {nm:List UInt8} {f:FM} (hup:σ.down=false) (hf:q0H FM.nm nm σ.L=some f):q0X σ nm=(f.da,0,q2c σ):=by
 have hs:q1c σ nm=((f.da.length:Int),0):=by unfold q1c;rw[if_neg (by rw[hup];decide),hf]
 unfold q0X;rw[hs];simp only;rw[if_neg (fun h=>h rfl)];unfold q1p;rw[if_neg (by rw[hup];decide),hf];simp only;rw[if_pos (by omega)];have e1:((f.da.length:Int)).toNat=f.da.length:=by omega
 rw[e1];simp
theorem z8X {σ:DM} {nm:List UInt8} (hup:σ.down=false) (hf:q0H FM.nm nm σ.L=none):q0X σ nm=([],4,σ):=by
 have hs:q1c σ nm=(0,4):=by unfold q1c;rw[if_neg (by rw[hup];decide),hf]
 unfold q0X;rw[hs];simp only;rw[if_pos (by decide)]
theorem z7r {σ:DM} (nm:List UInt8) (hup:σ.down=false): ∃s c k,q0X σ nm=(s,c,tellN k σ)∧c≠61∧k≤1:=by
 cases hf:q0H FM.nm nm σ.L with
 |none=>exact ⟨_,_,0,z8X hup hf,by decide,by omega⟩
 |some f=>exact ⟨_,_,1,q8U hup hf,by decide,by omega⟩
theorem z5K {σ:DM} {n:Int} {L:List En} (h:Wl σ n L) (hs:q0u L) (ho: ∀e∈L,q3B e=true) (hl:L.length<4294967296): ∃k,k≤2∧q5C σ n=(some L,0,tellN k σ):=by
 obtain ⟨f,hf,hd⟩:=h.file;unfold q5C;rw[q8U h.up hf];simp only;rw[if_neg (fun h=>h rfl),hd,z5V hs ho hl];obtain ⟨s,c,k,e,hc,hk⟩:=z7r (σ:=q2c σ) (q0B 98 n) h.up;rw[e];simp only;rw[if_neg hc];exact ⟨k+1,by omega,by rw[q1x]⟩
theorem y2T {σ:DM} {n:Int} {L:List En} (h:Wl σ n L) (hs:q0u L) (ho: ∀e∈L,q3B e=true) (hl:L.length<4294967296):z6F σ n=(L,0,q2c σ):=by
 obtain ⟨f,hf,hd⟩:=h.file;unfold z6F;rw[q8U h.up hf];simp only;rw[if_neg (fun h=>h rfl),hd,z5V hs ho hl]
theorem z0w {nm t:List UInt8}: ∀{l:List (List UInt8×List UInt8)},(∀y∈l,y.1≠nm)→q1S Prod.fst nm (fun x=>(x.1,x.2++t)) (q2A Prod.fst (nm,[]) l)=q2A Prod.fst (nm,t) l
 |[],_=>by simp[q2A,q1S]
 | y ::r,h=>by
  have hy:(y.1==nm)=false:=by simpa using h y (by simp)
  unfold q2A
  split
  ·rw[q1S,List.map_cons,if_pos (by simp)]
   have:=q2q (k:=Prod.fst) (f:=fun x:List UInt8×List UInt8=>(x.1,x.2++t)) (nm:=nm) (l:=y::r) h;rw[q1S] at this;rw[this];rfl
  ·rw[q1S,List.map_cons,if_neg (by rw[hy];decide),←q1S,z0w fun z hz=>h z (by simp[hz])]
theorem Pl.lay {σ:DM} {c s:Int} {l:List (List UInt8×List UInt8)} {nm t:List UInt8} (h:Pl σ c s l) (hf:q0H Prod.fst nm l=none) (hk:q2a nm=true) (hm:l.length<400) (hr:(t.length:Int)≤c-(q1i l:Int)): ∃σ',q3l σ nm t=(0,σ')∧Pl σ' c s (q2A Prod.fst (nm,t) l):=by
 obtain ⟨σ1,e1,p1⟩:=h.create hf hk hm;have hne:=q0f hf;have hf1: ∃x,q0H Prod.fst nm (q2A Prod.fst (nm,[]) l)=some x:=by
  cases hh:q0H Prod.fst nm (q2A Prod.fst (nm,[]) l) with
  |some x=>exact ⟨x,rfl⟩
  |none=>exact absurd rfl (q0f hh (nm,[]) (mem_insN.2 (.inl rfl)))
 obtain ⟨x1,hx1⟩:=hf1;have hu:q1i (q2A Prod.fst (nm,([]:List UInt8)) l)=q1i l:=by
  unfold q1i q5d;rw[((q3j (k:=Prod.fst) (nm,([]:List UInt8)) l).map _).sum_nat];simp
 obtain ⟨σ2,e2,p2⟩:=p1.append (t:=t) hx1 (by rw[hu];exact hr);rw[z0w hne] at p2;have hf2: ∃x,q0H Prod.fst nm (q2A Prod.fst (nm,t) l)=some x:=by
  cases hh:q0H Prod.fst nm (q2A Prod.fst (nm,t) l) with
  |some x=>exact ⟨x,rfl⟩
  |none=>exact absurd rfl (q0f hh (nm,t) (mem_insN.2 (.inl rfl)))
 obtain ⟨x2,hx2⟩:=hf2;obtain ⟨σ3,e3,p3⟩:=p2.sync hx2;refine ⟨σ3,?_,p3⟩;unfold q3l;rw[e1];simp only;rw[if_neg (fun h=>h rfl),e2];simp only;rw[if_neg (fun h=>h rfl),e3]
theorem q3b (n m:Int) (hn:0≤n∧n≤999999) (hm:0≤m∧m≤999999):q0B 116 n≠q0B 98 m:=by
 rw[q0W hn,q0W hm];intro h
 cases (List.cons.inj h).1
theorem z5Q (c:UInt8) {n:Int} (hn:0≤n∧n≤999999):q2a (q0B c n)=true:=by rw[q0W hn];simp[q2a,q0h]
theorem q6W {α:Type} {k:α→List UInt8} {x:α}: ∀{l:List α},(∀y∈l,k y≠k x)→q0H k (k x) (q2A k x l)=some x
 |[],_=>by simp[q2A,q0H]
 | y ::r,h=>by
  unfold q2A
  split
  ·simp[q0H]
  ·have hy:(k y==k x)=false:=by simpa using h y (by simp)
   have:=q6W (k:=k) (x:=x) (l:=r) fun z hz=>h z (by simp[hz])
   unfold q0H at this⊢;rw[List.find?_cons,hy,this]
theorem q3o {α:Type} {k:α→List UInt8} {x:α} {nm:List UInt8} (hne:k x≠nm): ∀{l:List α},q0H k nm (q2A k x l)=q0H k nm l
 | []=>by
  have:(k x==nm)=false:=by simpa using hne
  simp[q2A,q0H,this]
 | y ::r=>by
  have hx:(k x==nm)=false:=by simpa using hne
  unfold q2A
  split
  ·simp[q0H,hx]
  ·have:=q3o (k:=k) (x:=x) (nm:=nm) hne (l:=r)
   unfold q0H at this⊢;rw[List.find?_cons,List.find?_cons,this]
theorem q4y (x:List UInt8×List UInt8) (l:List (List UInt8×List UInt8)):q1i (q2A Prod.fst x l)=q1i l+x.2.length:=by
 unfold q1i q5d;rw[((q3j (k:=Prod.fst) x l).map _).sum_nat];simp;omega
theorem Pl.write {σ:DM} {c s:Int} {l:List (List UInt8×List UInt8)} (h:Pl σ c s l) {n:Int} (hn:0≤n∧n≤999999) {L:List En} (hs:q2V L=true) {f:List UInt8}
  (h1:q0H Prod.fst (q0B 116 n) l=none) (h2:q0H Prod.fst (q0B 98 n) l=none) (hm:l.length<398) (hr:6000≤c-(q1i l:Int)-((q2Q L).length:Int)-(f.length:Int)):
  ∃σ',q0g σ n L f=(0,σ')∧Pl σ' c s (q2A Prod.fst (q0B 116 n,q2Q L) (q2A Prod.fst (q0B 98 n,f) l)):=by
 obtain ⟨σ1,e1,p1⟩:=h.lay (t:=f) h2 (z5Q 98 hn) (by omega) (by omega);obtain ⟨σ2,e2,p2⟩:=p1.lay (t:=q2Q L) (nm:=q0B 116 n) (by rw[q3o (by exact (q3b n n hn hn).symm)];exact h1) (z5Q 116 hn) (by rw[q2l];omega) (by rw[q4y];simp only;omega);refine ⟨σ2,?_,p2⟩;unfold q0g;rw[if_neg (by rw[hs];simp;omega),if_neg (by rw[h.up];decide),h.free,if_neg (by omega),e1];simp only;rw[if_neg (fun h=>h rfl),e2]
theorem Pl.wl {σ:DM} {c s:Int} {l:List (List UInt8×List UInt8)} {n:Int} {L:List En} {x:List UInt8} (h:Pl σ c s l) (hf:q0H Prod.fst (q0B 116 n) l=some (x,q2Q L)):Wl σ n L:=by
 obtain ⟨f,h1,h2⟩:=h.find_some hf;refine ⟨h.up,f,h1,?_⟩;have:=congrArg Prod.snd h2;exact this
end
section
open Go.RowKit
theorem z7i {e:Ev} (h:y1A e):(evB e).length≤300:=by
 obtain ⟨_,h3,h4⟩:=q3a h.1;unfold evB;rw[q3A (by omega),q3A (by omega)];simp[q0I];omega
theorem z8W (L:List Ev) (k:Nat) (h:k<L.length):((L.take (k+1)).map evB).flatten=((L.take k).map evB).flatten++evB (L.getD k ev0):=by
 rw[List.take_succ_eq_append_getElem h,List.map_append,List.flatten_append,List.getD_eq_getElem?_getD,List.getElem?_eq_getElem h];simp only[List.map_cons,List.map_nil,List.flatten_cons,List.flatten_nil,List.append_nil,Option.getD_some]
theorem y3W {b:Bt} {ao:Option Addr} {n cap:Nat} (w:World) (hx:Evs w ao n cap b.ev) (hok:z6K b):
  Calls Tryz.prog 45 #[.agg #[.string ⟨b.st.toArray⟩,.int .i64 (b.fi:Int),.slice ao n cap]] w fun e w'=>e= .returned (.tuple #[.string ⟨(btB b).toArray⟩,.int .i64 0])∧Ext w w':=by
 obtain ⟨p1,p2,p3,p4,p5,p6,p7⟩:=q0s hok.1;have hev: ∀e∈b.ev,y1A e:=fun e he=>⟨q7l p7 e he,hok.2 e he⟩
 have hsh:q5N b.ev:=fun e he=>by
  obtain ⟨_,h1,h2⟩:=q3a (hev e he).1;exact ⟨by omega,by omega⟩
 have hlen:=hx.len;obtain ⟨st,fi,L⟩:=b;simp only at p1 p2 p3 p4 p5 p6 p7 hev hsh hlen hx;have b1:=hx.fits;have b2:=hx.bound;have hc0:q0n st (fi:Int) L=0:=hok.1;have HC:=η33 (fun W (h:Evs W ao n cap L)=>z0Y st (fi:Int) W h (by omega) hsh);rw[hc0] at HC;have HT:=η33 (fun W=>z6w st W (by omega));have HP8:=η33 (fun W=>z6E (fi:Int) 8 8 W rfl (by omega) (by omega) (by omega) (by omega));have HP1:=η33 (fun W=>z6E (n:Int) 1 1 W rfl (by omega) (by omega) (by omega) (by omega));rw[Int.toNat_natCast] at HP8 HP1;have l1:(q3C st).length≤50:=by rw[q3A (by omega)];simp[q0I];omega
 have l8:(be 8 fi).length≤8:=by rw[q0I];omega
 have l0:(be 1 n).length≤8:=by rw[q0I];omega
 have HE:Hid (btB ⟨st,fi,L⟩=((q3C st++be 8 fi)++be 1 n)++((L.take n).map evB).flatten):=η33 (by
  rw[←hlen,List.take_length];unfold btB;simp)
 have HOk:=η33 hev;have HLn:=η33 hlen;have HEv:=η33 hx;have qf:IntKind.u64.wrap (fi:Int)=(fi:Int):=by rw[IntKind.wrap_u64];omega
 have qn:IntKind.u64.wrap (n:Int)=(n:Int):=by rw[IntKind.wrap_u64];omega
 have hn9:n≤8:=by omega
 have HX:=η33 (q0D w (.cells #[.string ⟨st.toArray⟩,.int .i64 (fi:Int),.slice ao n cap] 102));have HB0:=η33 (Blk.new w 102 #[.string ⟨st.toArray⟩,.int .i64 (fi:Int),.slice ao n cap]);have hbk:=HB0.out;have k0:(w.alloc (.cells #[.string ⟨st.toArray⟩,.int .i64 (fi:Int),.slice ao n cap] 102)).cell? ⟨w.heap.size,0,none⟩=some (.string ⟨st.toArray⟩):=hbk.cell 0;have k1:(w.alloc (.cells #[.string ⟨st.toArray⟩,.int .i64 (fi:Int),.slice ao n cap] 102)).cell? ⟨w.heap.size,1,none⟩=some (.int .i64 (fi:Int)):=hbk.cell 1;have k2:(w.alloc (.cells #[.string ⟨st.toArray⟩,.int .i64 (fi:Int),.slice ao n cap] 102)).cell? ⟨w.heap.size,2,none⟩=some (.slice ao n cap):=hbk.cell 2;generalize q3C st=A at*;generalize be 8 fi=D at*;generalize be 1 n=C at*;have hsf:=q3O;clear hbk hok p1 p2 p3 p4 p5 p6 p7 hev hsh hlen hx hc0;go_enter Tryz.func45,Tryz.ntmps45;go_wp2_with fail;refine (HC.out _ (HEv.out.ext HX.out)).mono ?_
 rintro e w1 ⟨rfl,hx⟩;have HX1:=η33 (HX.out.trans hx);have hb1:=HB0.out.ext hx;generalize w.heap.size=q at*;have c0:w1.cell? ⟨q,0,none⟩=some (.string ⟨st.toArray⟩):=hb1.cell 0;have c1:w1.cell? ⟨q,1,none⟩=some (.int .i64 (fi:Int)):=hb1.cell 1;have c2:w1.cell? ⟨q,2,none⟩=some (.slice ao n cap):=hb1.cell 2;have u0:=q0E c0;have u1:=q0E c1;have u2:=q0E c2;have HB1:=η33 hb1;have q1:¬(9223372036854775807<A.length+D.length):=by omega
 have q2:¬(9223372036854775807<(A++D).length+C.length):=by rw[List.length_append];omega
 have q3:¬(9223372036854775807<A.length+D.length+C.length):=by omega
 clear hx hb1 k0 k1 k2;go_wp2_with fail;refine q0F (by kernel_rfl) (by kernel_rfl) ?_
 repeat (go_big_quiet_step (fail))
 go_big_quiet_step (exact Calls.quiet_ext (HT.out _))
 repeat (go_big_quiet_step (fail))
 go_big_quiet_step (exact Calls.quiet_ext (HP8.out _))
 repeat (go_big_quiet_step (fail))
 go_big_quiet_step (exact Calls.quiet_ext (HP1.out _))
 repeat (go_big_quiet_step (fail))
 refine wpQuiet_nil ?_;intro w2 hw;have HX2:=η33 (HX1.out.trans hw);have hb2:=HB1.out.ext hw;have d0:w2.cell? ⟨q,0,none⟩=some (.string ⟨st.toArray⟩):=hb2.cell 0;have d1:w2.cell? ⟨q,1,none⟩=some (.int .i64 (fi:Int)):=hb2.cell 1;have d2:w2.cell? ⟨q,2,none⟩=some (.slice ao n cap):=hb2.cell 2;clear hw hb2 c0 c1 c2 u0 u1 u2;have HEv2:=η33 (HEv.out.ext HX2.out);go_wp2_with fail
 go_loopw [5,30] (fun e i W=> ∃k:Nat,∃T:List UInt8,k≤n∧i= .int .i64 (k:Int)∧e= .string ⟨T.toArray⟩∧T=((A++D)++C)++((L.take k).map evB).flatten∧T.length≤100+300*k∧Ext w W) (fun _ i _=>n-(intOf i).toNat)
 case atStart=>exact ⟨0,_,Nat.zero_le _,rfl,(by first|rfl|(rw[q3k,q3k])),by simp,by simp;omega,HX2.out⟩
 case round=>
  obtain ⟨k,T,hk,rfl,rfl,hT,hTl,hb⟩:=hrel;have HT:=η33 hT;have HBk:=η33 hb;by_cases hlt:k<n
  ·have hd7:decide ((k:Int)<(n:Int))=true:=decide_eq_true (by omega)
   obtain ⟨b,off,rfl,c0,c1,c2⟩:=(HEv.out.ext hb).at hlt;have hkL:k<L.length:=by rw[HLn.out];exact hlt
   have hmem:L.getD k ev0∈L:=by rw[List.getD_eq_getElem?_getD,List.getElem?_eq_getElem hkL];exact List.getElem_mem hkL
   have HS:=η33 (z8W L k hkL);have HX1:=η33 (q0D wr (.cells #[.string ⟨(L.getD k ev0).ty.toArray⟩,.string ⟨(L.getD k ev0).da.toArray⟩,.float .f64 (L.getD k ev0).we] 48));have q4:IntKind.i64.wrap ((k:Int)+1)=(k:Int)+1:=by rw[IntKind.wrap_i64];omega
   have he:=HOk.out _ hmem;generalize L.getD k ev0=y at*;obtain ⟨y1,y2,y3⟩:=y;have hs:=z7i he;have HCk:=η33 (fun W=>z9Z ⟨y1,y2,y3⟩ W he);have HCk':Hid (∀W,Calls Tryz.prog 82 #[.agg #[.string ⟨y1.toArray⟩,.string ⟨y2.toArray⟩,.float .f64 y3]] W fun r w'=>r= .returned (.string ⟨(evB ⟨y1,y2,y3⟩).toArray⟩)∧Ext W w'):=HCk;obtain ⟨Y,hY⟩: ∃Y,evB ⟨y1,y2,y3⟩=Y:=⟨_,rfl⟩
   rw[hY] at HCk' hs HS;simp only at c0 c1 c2;have u0:=q0E c0;have u1:=q0E c1;have u2:=q0E c2;have q5:¬(9223372036854775807<T.length+Y.length):=by omega
   clear hkL hmem hb hT HCk he hY;go_wp2_with fail;refine (HCk'.out _).mono ?_;rintro e w3 ⟨rfl,hx⟩;have HX3:=η33 ((HBk.out.trans HX1.out).trans hx);clear hx;go_wp2_with fail
   go_roundw
   case rel=>exact ⟨k+1,T++Y,by omega,by go_num,(by first|rfl|(rw[q3k])),by rw[HS.out,HT.out,List.append_assoc],by rw[List.length_append];omega,HX3.out⟩
   case measure=>simp[intOf];omega
  ·obtain rfl:k=n:=by omega
   have hd7:decide ((k:Int)<(k:Int))=false:=decide_eq_false (by omega);have HF:Hid (btB ⟨st,fi,L⟩=T):=η33 (by rw[HE.out,hT]);clear hb hT;go_wp2_with fail;go_ret2;exact ⟨by rw[HF.out];rfl,HBk.out⟩
end
section
open Go.RowKit
structure Acm where
 kd:Int
 st:List UInt8
 a:Int
 b:Int
 ao:Option Addr
 n:Nat
 cap:Nat
 L:List Ev
def ac0 :Acm:=⟨0,[],0,0,none,0,0,[]⟩
def acc (x:Acm):List Value:=[.int .u8 x.kd,.string ⟨x.st.toArray⟩,.int .i64 x.a,.int .i64 x.b,.slice x.ao x.n x.cap]
def y2g (A:List Acm):List Value:=(A.map acc).flatten
theorem q8g (x:Acm) (A:List Acm):y2g (x::A)=acc x++y2g A:=rfl
theorem q5n : ∀(A:List Acm) (i j:Nat),i<A.length→j<5→(y2g A)[i*5+j]? =(acc (A.getD i ac0))[j]?
 |[],i,j,h,_=>by simp at h
 | k::A,0,j,_,hj=>by
  rw[q8g,List.getElem?_append_left (by simp[acc];omega)];simp
 | k::A,i+1,j,h,hj=>by
  rw[q8g,List.getElem?_append_right (by simp[acc];omega),show (i+1)*5+j-(acc k).length=i*5+j from by simp[acc];omega,q5n A i j (by simpa using h) hj];simp
structure y3v (x:Acm):Prop where
 k0:0≤x.kd
 k1:x.kd≤255
 s:x.st.length≤9223372036854775807
 a0: -9223372036854775808≤x.a
 a1:x.a≤9223372036854775807
 b0: -9223372036854775808≤x.b
 b1:x.b≤9223372036854775807
 e: ∀e∈x.L,e.ty.length≤9223372036854775807∧e.da.length≤9223372036854775807∧e.we<18446744073709551616
structure Acs (w:World) (ao:Option Addr) (n cap:Nat) (A:List Acm):Prop where
 len:A.length=n
 fits:n≤cap
 bound:cap≤9223372036854775807
 nil:ao=none→cap=0
 rd:Rd w ao (y2g A)
 ev: ∀x∈A,Evs w x.ao x.n x.cap x.L
 ok: ∀x∈A,y3v x
theorem Acs.ext {w w':World} {ao:Option Addr} {n cap:Nat} {A:List Acm} (h:Acs w ao n cap A) (k:Ext w w'):Acs w' ao n cap A:=⟨h.len,h.fits,h.bound,h.nil,h.rd.ext k,fun x hx=>(h.ev x hx).ext k,h.ok⟩
theorem z0J {α:Type} {A:List α} {i:Nat} {d:α} (h:i<A.length):A.getD i d∈A:=by rw[List.getD_eq_getElem?_getD,List.getElem?_eq_getElem h];exact List.getElem_mem h
theorem Acs.at {w:World} {ao:Option Addr} {n cap:Nat} {A:List Acm} (h:Acs w ao n cap A) {i:Nat} (hi:i<n):
  ∃ b off,ao=some ⟨b,off,none⟩∧w.cell? ⟨b,off+i*5,none⟩=some (.int .u8 (A.getD i ac0).kd)∧w.cell? ⟨b,off+i*5+1,none⟩=some (.string ⟨(A.getD i ac0).st.toArray⟩)∧w.cell? ⟨b,off+i*5+2,none⟩=some (.int .i64 (A.getD i ac0).a)∧w.cell? ⟨b,off+i*5+3,none⟩=some (.int .i64 (A.getD i ac0).b)∧
   w.cell? ⟨b,off+i*5+4,none⟩=some (.slice (A.getD i ac0).ao (A.getD i ac0).n (A.getD i ac0).cap)∧Evs w (A.getD i ac0).ao (A.getD i ac0).n (A.getD i ac0).cap (A.getD i ac0).L∧y3v (A.getD i ac0):=by
 have hl:=h.len;have hm:A.getD i ac0∈A:=z0J (by omega);have k0:=q5n A i 0 (by omega) (by decide);have k1:=q5n A i 1 (by omega) (by decide);have k2:=q5n A i 2 (by omega) (by decide);have k3:=q5n A i 3 (by omega) (by decide);have k4:=q5n A i 4 (by omega) (by decide);obtain ⟨b,off,rfl,h0⟩:=h.rd _ _ k0;obtain ⟨_,_,e1,h1⟩:=h.rd _ _ k1
 cases e1;obtain ⟨_,_,e2,h2⟩:=h.rd _ _ k2
 cases e2;obtain ⟨_,_,e3,h3⟩:=h.rd _ _ k3
 cases e3;obtain ⟨_,_,e4,h4⟩:=h.rd _ _ k4
 cases e4;exact ⟨b,off,rfl,h0,h1,h2,h3,h4,h.ev _ hm,h.ok _ hm⟩
def q6O (e:Ev):Bool:=decide (300<e.ty.length)||decide (300<e.da.length)
def q4B (x:Acm):Bool:=decide (300<x.st.length)||decide (20<x.n)||x.L.any q6O
def q7O (A:List Acm) (most:Int):Bool:=A.any q4B||decide (most<(A.length:Int))
theorem z2U {α:Type} {p:α→Bool} {A:List α} {k:Nat} (h:k<A.length) (hk:(A.take k).any p=false) (d:α):(A.take (k+1)).any p=p (A.getD k d):=by
 rw[List.take_succ_eq_append_getElem h,List.any_append,hk,List.getD_eq_getElem?_getD,List.getElem?_eq_getElem h];simp
theorem y1t {ao:Option Addr} {n cap:Nat} {A:List Acm} (most:Int) (w:World) (hx:Acs w ao n cap A):
  Calls Tryz.prog 8 #[.slice ao n cap,.int .i64 most] w fun e w'=>e= .returned (.bool (q7O A most))∧Ext w w':=by
 have HX:=η33 hx;have hlen:=hx.len;have b1:=hx.fits;have b2:=hx.bound;clear hx;go_enter Tryz.func8,Tryz.ntmps8;go_wp2_with fail
 go_loopw [5] (fun i W=> ∃k:Nat,k≤n∧i= .int .i64 (k:Int)∧Hid ((A.take k).any q4B=false)∧Ext w W) (fun i _=>n-(intOf i).toNat)
 case atStart=>exact ⟨0,Nat.zero_le _,rfl,η33 (by simp),Ext.refl _⟩
 case round =>
  obtain ⟨k,hk,rfl,HAn,hb⟩:=hrel;have HB:=η33 hb;by_cases hlt:k<n
  ·have hd:decide ((k:Int)<(n:Int))=true:=decide_eq_true (by omega)
   have hki:(k:Int)<(n:Int):=by omega
   have q8:IntKind.i64.wrap ((k:Int)+1)=(k:Int)+1:=by rw[IntKind.wrap_i64];omega
   obtain ⟨bb,off,rfl,c0,c1,c2,c3,c4,hev,hok⟩:=(HX.out.ext hb).at hlt;have hst:=z2U (k:=k) (A:=A) (by omega) HAn.out ac0;have HSt:=η33 hst;have HGr:Hid (q4B (A.getD k ac0)=true→q7O A most=true):=η33 fun h=>by
    unfold q7O;rw[Bool.or_eq_true]
    left
    exact List.any_eq_true.2 ⟨_,z0J (by omega),h⟩
   generalize A.getD k ac0=x at*;obtain ⟨kd,st,xa,xb,eao,en,ecap,L⟩:=x;have h1:=hok.s;have hel:=hev.len;have he1:=hev.fits;have he2:=hev.bound;simp only at c0 c1 c2 c3 c4 hev h1 hel he1 he2;have HEv:=η33 hev;have HOk:=η33 hok.e;clear hb hst hev hok;by_cases hs1:300<st.length
   ·have hd1:decide ((300:Int)<(st.length:Int))=true:=decide_eq_true (by omega)
    have HG:=η33 (HGr.out (by unfold q4B;rw[decide_eq_true hs1];rfl));go_wp2_with fail
    (try rw[Exit.noGoto_ret])
    go_ret;exact ⟨by rw[HG.out];rfl,HB.out⟩
   have hd1:decide ((300:Int)<(st.length:Int))=false:=decide_eq_false (by omega);by_cases hs2:20<en
   ·have hd2:decide ((20:Int)<(en:Int))=true:=decide_eq_true (by omega)
    have HG:=η33 (HGr.out (by unfold q4B;rw[decide_eq_true (show 20<(⟨kd,st,xa,xb,eao,en,ecap,L⟩:Acm).n from hs2)];simp));go_wp2_with fail
    (try rw[Exit.noGoto_ret])
    go_ret;exact ⟨by rw[HG.out];rfl,HB.out⟩
   have hd2:decide ((20:Int)<(en:Int))=false:=decide_eq_false (by omega);have HGx:Hid (∀j,j<L.length→q6O (L.getD j ev0)=true→q4B ⟨kd,st,xa,xb,eao,en,ecap,L⟩=true):=η33 fun j hj h=>by
    unfold q4B;rw[Bool.or_eq_true]
    right
    exact List.any_eq_true.2 ⟨_,z0J hj,h⟩
   have HGn:Hid (L.any q6O=false→q4B ⟨kd,st,xa,xb,eao,en,ecap,L⟩=false):=η33 fun h=>by
    unfold q4B;rw[h,decide_eq_false (show ¬300<(⟨kd,st,xa,xb,eao,en,ecap,L⟩:Acm).st.length from hs1),decide_eq_false (show ¬20<(⟨kd,st,xa,xb,eao,en,ecap,L⟩:Acm).n from hs2)];rfl
   go_wp2_with fail
   go_loopw [6] (fun i W=> ∃j:Nat,j≤en∧i= .int .i64 (j:Int)∧Hid ((L.take j).any q6O=false)∧W=wr) (fun i _=>en-(intOf i).toNat)
   case atStart=>exact ⟨0,Nat.zero_le _,rfl,η33 (by simp),rfl⟩
   case round=>
    obtain ⟨j,hj,rfl,HLn,hwe⟩:=hrel;subst hwe;by_cases hjt:j<en
    ·have hd3:decide ((j:Int)<(en:Int))=true:=decide_eq_true (by omega)
     have hji:(j:Int)<(en:Int):=by omega
     have q9:IntKind.i64.wrap ((j:Int)+1)=(j:Int)+1:=by rw[IntKind.wrap_i64];omega
     obtain ⟨eb,eoff,rfl,e0,e1,e2⟩:=HEv.out.at hjt;have hlt2:=z2U (k:=j) (A:=L) (by omega) HLn.out ev0;have hmm:=HOk.out _ (z0J (A:=L) (i:=j) (d:=ev0) (by omega));have HLx:=η33 (HGx.out j (by omega));have HL2:=η33 hlt2;generalize L.getD j ev0=ee at*;obtain ⟨ty,da,we⟩:=ee;simp only at e0 e1 e2 hmm;obtain ⟨m1,m2,m3⟩:=hmm;clear hlt2;by_cases ht1:300<ty.length
     ·have hd4:decide ((300:Int)<(ty.length:Int))=true:=decide_eq_true (by omega)
      have HG:=η33 (HGr.out (HLx.out (by unfold q6O;rw[decide_eq_true ht1];rfl)));go_wp2_with fail
      (try rw[Exit.noGoto_ret])
      go_ret;exact ⟨by rw[HG.out];rfl,HB.out⟩
     have hd4:decide ((300:Int)<(ty.length:Int))=false:=decide_eq_false (by omega);by_cases ht2:300<da.length
     ·have hd5:decide ((300:Int)<(da.length:Int))=true:=decide_eq_true (by omega)
      have HG:=η33 (HGr.out (HLx.out (by unfold q6O;rw[decide_eq_true (show 300<(⟨ty,da,we⟩:Ev).da.length from ht2)];simp)));go_wp2_with fail
      (try rw[Exit.noGoto_ret])
      go_ret;exact ⟨by rw[HG.out];rfl,HB.out⟩
     have hd5:decide ((300:Int)<(da.length:Int))=false:=decide_eq_false (by omega);go_wp2_with fail
     go_roundw
     case rel=>exact ⟨j+1,by omega,by go_num,η33 (by rw[HL2.out];unfold q6O;rw[decide_eq_false (show ¬300<(⟨ty,da,we⟩:Ev).ty.length from ht1),decide_eq_false (show ¬300<(⟨ty,da,we⟩:Ev).da.length from ht2)];rfl),trivial⟩
     case measure=>simp[intOf];omega
    ·obtain rfl:j=en:=by omega
     have hd3:decide ((j:Int)<(j:Int))=false:=decide_eq_false (by omega);have hln:L.any q6O=false:=by have:=HLn.out;rwa [List.take_of_length_le (by omega)] at this
     go_wp2_with fail
     go_roundw
     case rel=>exact ⟨k+1,by omega,by go_num,η33 (by rw[HSt.out];exact HGn.out hln),HB.out⟩
     case measure=>simp[intOf];omega
  ·obtain rfl:k=n:=by omega
   have hd:decide ((k:Int)<(k:Int))=false:=decide_eq_false (by omega);have HG:Hid (q7O A most=decide (most<(k:Int))):=η33 (by
    unfold q7O;have:=HAn.out;rw[List.take_of_length_le (by omega)] at this;rw[this,Bool.false_or,hlen])
   clear hb;go_wp2_with fail;go_ret;exact ⟨by rw[HG.out];rfl,HB.out⟩
end
end Go.Proofs.YtjjfiejoeelndaaGreatDoor
