/- Walks. -/
import Derived.Test.YthdekbmdkpcooaaGreatDoorG18WP
import Derived.Test.YthdekbmdkpcooaaGreatDoorG24WP
import Derived.Test.YthdekbmdkpcooaaGreatDoorG25WP
set_option linter.unusedVariables false
set_option linter.unusedSimpArgs false
set_option maxRecDepth 100000
set_option maxHeartbeats 6400000
namespace Go.Proofs.YthdekbmdkpcooaaGreatDoor
theorem η26 {p:Prop} (h:p):Go.RowKit.Hid p:=Lib.hid h
section
open Go.RowKit
def y2N (r:Option (Ev×List UInt8)):Value:=match r with
 |some (e,r)=> .tuple #[evV e,.string ⟨r.toArray⟩,.bool true]
 |none=> .tuple #[evV ev0,.string ⟨#[]⟩,.bool false]
theorem q1T (W:World) (a:Addr) (b:Nat) (m:Go.Mode):(store a (.float .f64 b) m).run Tryz.prog W=stored Tryz.prog W a (.float .f64 b) m:=run_store _ _ _ _ _ rfl
theorem q2A {w w1:World} (h:Ext w w1) (a b c:Value):Ext w (((w1.setCell ⟨w.heap.size,0,none⟩ a).setCell ⟨w.heap.size,1,none⟩ b).setCell ⟨w.heap.size,2,none⟩ c):=
 ((h.setCell (p:=⟨w.heap.size,0,none⟩) (Nat.le_refl _) a).setCell (p:=⟨w.heap.size,1,none⟩) (Nat.le_refl _) b).setCell (p:=⟨w.heap.size,2,none⟩) (Nat.le_refl _) c
theorem y0L (s:List UInt8) (w:World) (hl:s.length≤4611686018427387903):
  Calls Tryz.prog 96 #[.string ⟨s.toArray⟩] w fun e w'=>e= .returned (y2N (rdE s))∧Ext w w':=by
 have HR1:=η26 (fun W=>z1r s W hl);have HR2:=η26 (fun W=>z1r (rdR s) W (by have:=q7Y s;omega));have hl1:=z3Z s;have hl2:=z3Z (rdR s);have hl3:=q7Y s;have hl4:=q7Y (rdR s);have HCk:=η26 (fun b W=>q9G (rdT s) (rdT (rdR s)) .f64 b W (by omega) (by omega));have HX:=η26 (q0B w (.cells #[.string ⟨#[]⟩,.string ⟨#[]⟩,.float .f64 0] 85));have HB0:=η26 (Blk.new w 85 #[.string ⟨#[]⟩,.string ⟨#[]⟩,.float .f64 0])
 have HS0:Hid (∀(W:World) (a b c:Value),Blk W w.heap.size 85 #[a,b,c]→ ∀a' b',W.cell? ⟨w.heap.size,0,none⟩=some a∧W.cell? ⟨w.heap.size,1,none⟩=some b∧W.cell? ⟨w.heap.size,2,none⟩=some c∧
   W.frozen? ⟨w.heap.size,0,none⟩=false∧W.frozen? ⟨w.heap.size,1,none⟩=false∧W.frozen? ⟨w.heap.size,2,none⟩=false∧((W.setCell ⟨w.heap.size,0,none⟩ a').setCell ⟨w.heap.size,1,none⟩ b').frozen? ⟨w.heap.size,2,none⟩=false∧
   ((W.setCell ⟨w.heap.size,0,none⟩ a').setCell ⟨w.heap.size,1,none⟩ b').cell? ⟨w.heap.size,2,none⟩=some c):=η26 fun W a b c h a' b'=>by
  have h2:=(h.set 0 a').set 1 b';exact ⟨h.cell 0,h.cell 1,h.cell 2,h.free 0,h.free 1,h.free 2,h2.free 2,h2.cell 2⟩
 have hsf:=q1T;by_cases h1:q7w s=true
 case neg=>
  rw[Bool.not_eq_true] at h1;have HE:Hid (rdE s=none):=η26 (by unfold rdE;rw[h1];simp);rw[h1] at HR1;go_enter Tryz.func96,Tryz.ntmps96;go_wp2_with fail;refine (HR1.out _).mono ?_;rintro e w1 ⟨rfl,hx⟩;have HB1:=η26 (HB0.out.ext hx);have HX1:=η26 (HX.out.trans hx);clear hx;obtain ⟨c0,c1,c2,f0,f1,f2,g2,d2⟩:=HS0.out w1 _ _ _ HB1.out (.string ⟨#[]⟩) (.string ⟨#[]⟩);go_wp2_with fail
  ((try simp only[Exit.inBlock,Exit.then]);refine bodyPost_ret (v:= .tuple #[.agg #[.string ⟨#[]⟩,.string ⟨#[]⟩,.float .f64 0],.string ⟨#[]⟩,.bool false]) (by rw[q0R rfl];go_simp) rfl ?_)
  exact ⟨by rw[HE.out];rfl,q2A HX1.out _ _ _⟩
 rw[h1] at HR1;by_cases h2:q7w (rdR s)=true
 case neg=>
  rw[Bool.not_eq_true] at h2;have HE:Hid (rdE s=none):=η26 (by unfold rdE;rw[h2];simp);rw[h2] at HR2;go_enter Tryz.func96,Tryz.ntmps96;go_wp2_with fail;refine (HR1.out _).mono ?_;rintro e w1 ⟨rfl,hx⟩;have HB1:=η26 (HB0.out.ext hx);have HX1:=η26 (HX.out.trans hx);clear hx;go_wp2_with fail;refine (HR2.out _).mono ?_;rintro e w2 ⟨rfl,hx⟩;have HB2:=η26 (HB1.out.ext hx);have HX2:=η26 (HX1.out.trans hx);clear hx;obtain ⟨c0,c1,c2,f0,f1,f2,g2,d2⟩:=HS0.out w2 _ _ _ HB2.out (.string ⟨#[]⟩) (.string ⟨#[]⟩);go_wp2_with fail
  ((try simp only[Exit.inBlock,Exit.then]);refine bodyPost_ret (v:= .tuple #[.agg #[.string ⟨#[]⟩,.string ⟨#[]⟩,.float .f64 0],.string ⟨#[]⟩,.bool false]) (by rw[q0R rfl];go_simp) rfl ?_)
  exact ⟨by rw[HE.out];rfl,q2A HX2.out _ _ _⟩
 rw[h2] at HR2;obtain ⟨R,hR⟩: ∃R,rdR (rdR s)=R:=⟨_,rfl⟩
 rw[hR] at HR2 hl4;obtain ⟨T1,hT1⟩: ∃T,rdT s=T:=⟨_,rfl⟩
 obtain ⟨T2,hT2⟩: ∃T,rdT (rdR s)=T:=⟨_,rfl⟩
 by_cases h3:R.length<8
 ·have HE:Hid (rdE s=none):=η26 (by unfold rdE;rw[if_neg (by rw[hR];omega)])
  have hd:decide ((R.length:Int)<8)=true:=decide_eq_true (by omega);go_enter Tryz.func96,Tryz.ntmps96;go_wp2_with fail;refine (HR1.out _).mono ?_;rintro e w1 ⟨rfl,hx⟩;have HB1:=η26 (HB0.out.ext hx);have HX1:=η26 (HX.out.trans hx);clear hx;go_wp2_with fail;refine (HR2.out _).mono ?_;rintro e w2 ⟨rfl,hx⟩;have HB2:=η26 (HB1.out.ext hx);have HX2:=η26 (HX1.out.trans hx);clear hx;obtain ⟨c0,c1,c2,f0,f1,f2,g2,d2⟩:=HS0.out w2 _ _ _ HB2.out (.string ⟨#[]⟩) (.string ⟨#[]⟩);go_wp2_with fail
  ((try simp only[Exit.inBlock,Exit.then]);refine bodyPost_ret (v:= .tuple #[.agg #[.string ⟨#[]⟩,.string ⟨#[]⟩,.float .f64 0],.string ⟨#[]⟩,.bool false]) (by rw[q0R rfl];go_simp) rfl ?_)
  exact ⟨by rw[HE.out];rfl,q2A HX2.out _ _ _⟩
 have hd:decide ((R.length:Int)<8)=false:=decide_eq_false (by omega);have s1:=q4W R 8 8 rfl (by omega);have s2:=q2r R 8 8 rfl (by omega);have l8:(R.take 8).length=8:=by rw[List.length_take];omega
 have HG:=η26 (fun W=>q9Z (R.take 8) W (by omega));rw[show (R.take 8).take 8=R.take 8 from List.take_of_length_le (by omega)] at HG;have hub:=q1t (R.take 8);rw[l8] at hub;obtain ⟨b,hb⟩: ∃b,q1H (R.take 8)=b:=⟨_,rfl⟩
 rw[hb] at HG;have hfb:=q9u b;rw[hT1,hT2] at HCk;rw[hT1] at HR1;rw[hT2] at HR2;by_cases h4:q0W T1 T2=0
 case neg=>
  have HE:Hid (rdE s=none):=η26 (by unfold rdE;rw[if_neg (by rw[hT1,hT2];exact fun h=>h4 h.2.2.2)]);have hcn:(q0W T1 T2 !=0)=true:=by simpa using h4
  obtain ⟨E,hE⟩: ∃E,q0W T1 T2=E:=⟨_,rfl⟩
  rw[hE] at HCk hcn;clear hE hb hub hT1 hT2 hR h1 h2 h3 h4;go_enter Tryz.func96,Tryz.ntmps96;go_wp2_with fail;refine (HR1.out _).mono ?_;rintro e w1 ⟨rfl,hx⟩;have HB1:=η26 (HB0.out.ext hx);have HX1:=η26 (HX.out.trans hx);clear hx;go_wp2_with fail;refine (HR2.out _).mono ?_;rintro e w2 ⟨rfl,hx⟩;have HB2:=η26 (HB1.out.ext hx);have HX2:=η26 (HX1.out.trans hx);clear hx;go_wp2_with fail;refine (HG.out _).mono ?_;rintro e w3 ⟨rfl,hx⟩;have HB3:=η26 (HB2.out.ext hx);have HX3:=η26 (HX2.out.trans hx);clear hx;obtain ⟨c0,c1,c2,f0,f1,f2,g2,d2⟩:=HS0.out w3 _ _ _ HB3.out (.string ⟨T1.toArray⟩) (.string ⟨T2.toArray⟩);go_wp2_with fail;refine (HCk.out b _).mono ?_;rintro e w4 ⟨rfl,hx⟩;have HB4:=η26 ((((HB3.out.set 0 (.string ⟨T1.toArray⟩)).set 1 (.string ⟨T2.toArray⟩)).set 2 (.float .f64 b)).ext hx);have HX4:=η26 ((q2A HX3.out (.string ⟨T1.toArray⟩) (.string ⟨T2.toArray⟩) (.float .f64 b)).trans hx)
  clear hx c0 c1 c2 f0 f1 f2 g2 d2;obtain ⟨c0,c1,c2,f0,f1,f2,g2,d2⟩:=HS0.out w4 _ _ _ HB4.out (.string ⟨#[]⟩) (.string ⟨#[]⟩);go_wp2_with fail
  ((try simp only[Exit.inBlock,Exit.then]);refine bodyPost_ret (v:= .tuple #[.agg #[.string ⟨#[]⟩,.string ⟨#[]⟩,.float .f64 0],.string ⟨#[]⟩,.bool false]) (by rw[q0R rfl];go_simp) rfl ?_)
  exact ⟨by rw[HE.out];rfl,q2A HX4.out _ _ _⟩
 have HE:Hid (rdE s=some (⟨T1,T2,b⟩,R.drop 8)):=η26 (by unfold rdE;rw[hT1,hT2,hR,if_pos ⟨h1,h2,by omega,h4⟩,hb]);rw[h4] at HCk;clear hb hub hT1 hT2 hR h1 h2 h3 h4;go_enter Tryz.func96,Tryz.ntmps96;go_wp2_with fail;refine (HR1.out _).mono ?_;rintro e w1 ⟨rfl,hx⟩;have HB1:=η26 (HB0.out.ext hx);have HX1:=η26 (HX.out.trans hx);clear hx;go_wp2_with fail;refine (HR2.out _).mono ?_;rintro e w2 ⟨rfl,hx⟩;have HB2:=η26 (HB1.out.ext hx);have HX2:=η26 (HX1.out.trans hx);clear hx;go_wp2_with fail;refine (HG.out _).mono ?_;rintro e w3 ⟨rfl,hx⟩;have HB3:=η26 (HB2.out.ext hx);have HX3:=η26 (HX2.out.trans hx);clear hx;obtain ⟨c0,c1,c2,f0,f1,f2,g2,d2⟩:=HS0.out w3 _ _ _ HB3.out (.string ⟨T1.toArray⟩) (.string ⟨T2.toArray⟩);go_wp2_with fail;refine (HCk.out b _).mono ?_;rintro e w4 ⟨rfl,hx⟩;have HB4':=η26 ((((HB3.out.set 0 (.string ⟨T1.toArray⟩)).set 1 (.string ⟨T2.toArray⟩)).set 2 (.float .f64 b)).ext hx)
 have HB4:=η26 (HB4'.out.ext (Ext.refl w4).drew);have HX4:=η26 (((q2A HX3.out (.string ⟨T1.toArray⟩) (.string ⟨T2.toArray⟩) (.float .f64 b)).trans hx).drew);clear hx c0 c1 c2 f0 f1 f2 g2 d2;obtain ⟨c0,c1,c2,f0,f1,f2,g2,d2⟩:=HS0.out w4.drew _ _ _ HB4.out (.string ⟨T1.toArray⟩) (.string ⟨T2.toArray⟩);obtain ⟨c0',c1',c2',f0',f1',f2',g2',d2'⟩:=HS0.out w4 _ _ _ HB4'.out (.string ⟨T1.toArray⟩) (.string ⟨T2.toArray⟩);go_wp2_with fail;refine q2S (fun W=>W.cell? ⟨w.heap.size,0,none⟩=some (.string ⟨T1.toArray⟩)∧W.cell? ⟨w.heap.size,1,none⟩=some (.string ⟨T2.toArray⟩)∧W.cell? ⟨w.heap.size,2,none⟩=some (.float .f64 b)) 3 (by kernel_rfl) ⟨c0,c1,c2⟩ (fun hHeld=>?_);refine q0z (i:=0) (v:=?_) rfl (by kernel_rfl) (fun _ _ _ h=>h) (Or.inl ⟨by rfl,?_⟩) hHeld (fun hHeld=>?_)
 rotate_left
 ·(intro w hSw;(try dsimp only at hSw);go_simp;try with_reducible rfl)
 try simp only[Act.put,List.setIfInBounds_toArray,List.set_cons_zero,List.set_cons_succ]
 refine q0C (i:=1) (v:=?_) rfl (by kernel_rfl) (fun _ _ _ h=>h) (Or.inl ⟨by rfl,?_⟩) hHeld (fun hHeld=>?_)
 rotate_left
 ·(intro w hSw;(try dsimp only at hSw);go_simp;try with_reducible rfl)
 try simp only[Act.put,List.setIfInBounds_toArray,List.set_cons_zero,List.set_cons_succ]
 refine q0C (i:=2) (v:=?_) rfl (by kernel_rfl) (fun _ _ _ h=>h) (Or.inl ⟨by rfl,?_⟩) hHeld (fun hHeld=>?_)
 rotate_left
 ·(intro w hSw;(try dsimp only at hSw);go_simp;try with_reducible rfl)
 try simp only[Act.put,List.setIfInBounds_toArray,List.set_cons_zero,List.set_cons_succ]
 refine q2s (by kernel_rfl) ?_
 try simp only[List.drop_succ_cons,List.drop_zero]
 clear hHeld;go_wp2_with fail
 ((try simp only[Exit.inBlock,Exit.then]);refine bodyPost_ret (v:= .tuple #[.agg #[.string ⟨T1.toArray⟩,.string ⟨T2.toArray⟩,.float .f64 b],.string ⟨(R.drop 8).toArray⟩,.bool true]) (by rw[q0R rfl];go_simp) rfl ?_)
 exact ⟨by rw[HE.out];rfl,q2A HX4.out _ _ _⟩
end
section
open Go.RowKit
theorem q9s (e:Ev) (L:List Ev):q4q (e::L)=evc e++q4q L:=rfl
theorem q7S : ∀(L:List Ev) (i j:Nat),i<L.length→j<3→(q4q L)[i*3+j]? =(evc (L.getD i ev0))[j]?
 |[],i,j,h,_=>by simp at h
 | k::L,0,j,_,hj=>by
  rw[q9s,List.getElem?_append_left (by simp[evc];omega)];simp
 | k::L,i+1,j,h,hj=>by
  rw[q9s,List.getElem?_append_right (by simp[evc];omega),show (i+1)*3+j-(evc k).length=i*3+j from by simp[evc];omega,q7S L i j (by simpa using h) hj];simp
structure Evs (w:World) (ao:Option Addr) (n cap:Nat) (L:List Ev):Prop where
 len:L.length=n
 fits:n≤cap
 bound:cap≤9223372036854775807
 nil:ao=none→cap=0
 rd:Rd w ao (q4q L)
theorem Evs.ext {w w':World} {ao:Option Addr} {n cap:Nat} {L:List Ev} (h:Evs w ao n cap L) (k:Ext w w'):Evs w' ao n cap L:=⟨h.len,h.fits,h.bound,h.nil,h.rd.ext k⟩
theorem Evs.at {w:World} {ao:Option Addr} {n cap:Nat} {L:List Ev} (h:Evs w ao n cap L) {i:Nat} (hi:i<n):
  ∃b off,ao=some ⟨b,off,none⟩∧w.cell? ⟨b,off+i*3,none⟩=some (.string ⟨(L.getD i ev0).ty.toArray⟩)∧w.cell? ⟨b,off+i*3+1,none⟩=some (.string ⟨(L.getD i ev0).da.toArray⟩)∧w.cell? ⟨b,off+i*3+2,none⟩=some (.float .f64 (L.getD i ev0).we):=by
 have hl:=h.len;have k0:=q7S L i 0 (by omega) (by decide);have k1:=q7S L i 1 (by omega) (by decide);have k2:=q7S L i 2 (by omega) (by decide);obtain ⟨b,off,rfl,h0⟩:=h.rd _ _ k0;obtain ⟨_,_,e1,h1⟩:=h.rd _ _ k1
 cases e1;obtain ⟨_,_,e2,h2⟩:=h.rd _ _ k2
 cases e2;exact ⟨b,off,rfl,h0,h1,h2⟩
theorem Evs.of_own {w:World} {B:Nat} {e:TypeId} {v:Value} {L:List Ev} (h:Own w B e 3 v L.length (q4q L)): ∃ao cap,v= .slice ao L.length cap∧Evs w ao L.length cap L:=by
 obtain ⟨ao,cap,rfl,h1,h2,h3,h4⟩:=h.rd;exact ⟨ao,cap,rfl,rfl,h1,h2,h3,h4⟩
theorem q7J : ∀(L:List Ev) (k:Nat),k<L.length→q5z (L.take k)=0→q5z L=if q0W (L.getD k ev0).ty (L.getD k ev0).da=0 then q5z (L.drop (k+1)) else q0W (L.getD k ev0).ty (L.getD k ev0).da
 |[],k,h,_=>by simp at h
 |e::L,0,_,_=>by simp[q5z]
 | e ::L,k+1,h,h0=>by
  rw[List.take_succ_cons,q5z] at h0
  split at h0
  ·rename_i h1
   rw[q5z,if_pos h1,q7J L k (by simpa using h) h0];simp
  ·rename_i h1;exact absurd h0 h1
theorem q7V : ∀(L:List Ev) (e:Ev),q5z L=0→q5z (L++[e])=q0W e.ty e.da
 | [],e,_=>by
  rw[List.nil_append,q5z,q5z]
  split
  ·rename_i h;exact h.symm
  ·rfl
 | x::L,e,h=>by
  rw[q5z] at h
  split at h
  ·rename_i h1;rw[List.cons_append,q5z,if_pos h1,q7V L e h]
  ·rename_i h1;exact absurd h h1
def q1C (L:List Ev):Prop:= ∀e∈L,e.ty.length≤4611686018427387903∧e.da.length≤4611686018427387903
theorem q9A {ao:Option Addr} {n cap:Nat} {L:List Ev} (st:List UInt8) (fi:Int) (w:World) (hx:Evs w ao n cap L) (hst:st.length≤4611686018427387903) (hL:q1C L):
  Calls Tryz.prog 34 #[.agg #[.string ⟨st.toArray⟩,.int .i64 fi,.slice ao n cap]] w fun e w'=>e= .returned (.int .i64 (q0N st fi L))∧Ext w w':=by
 have b1:=hx.fits;have b2:=hx.bound;have hlen:=hx.len;have HX:=η26 (q0B w (.cells #[.string ⟨st.toArray⟩,.int .i64 fi,.slice ao n cap] 96));have hbk:=Blk.new w 96 #[.string ⟨st.toArray⟩,.int .i64 fi,.slice ao n cap];have HE:=η26 hx;have HL:=η26 hL;clear hx hL;by_cases h1:st=[]
 ·subst h1
  have HN:Hid (q0N [] fi L=2):=η26 (by unfold q0N;rw[if_pos (.inl rfl)]);clear hbk;go_enter Tryz.func34,Tryz.ntmps34;go_wp2_with fail
  go_step3
  go_wp2_with fail;rw[Exit.noGoto_ret];go_ret;exact ⟨by rw[HN.out];rfl,HX.out⟩
 have h1b:(st==[])=false:=beq_eq_false_iff_ne.2 h1;by_cases h2:n=0
 ·subst h2
  have HN:Hid (q0N st fi L=2):=η26 (by unfold q0N;rw[if_pos (.inr (List.eq_nil_of_length_eq_zero hlen))]);clear hbk h1 hlen;go_enter Tryz.func34,Tryz.ntmps34;go_wp2_with fail
  go_step3
  go_wp2_with fail;rw[Exit.noGoto_ret];go_ret;exact ⟨by rw[HN.out];rfl,HX.out⟩
 have h2b:((n:Int)==0)=false:=by simpa using h2
 have hLn:L≠[]:=fun e=>h2 (by rw[←hlen,e];rfl)
 have hno:¬(st=[]∨L=[]):=fun h=>h.elim h1 hLn
 by_cases h3:32<st.length
 ·have HN:Hid (q0N st fi L=3):=η26 (by unfold q0N;rw[if_neg hno,if_pos (.inl h3)])
  have hd:decide ((32:Int)<(st.length:Int))=true:=decide_eq_true (by omega);clear hbk h1 h2 hLn hno hlen;go_enter Tryz.func34,Tryz.ntmps34;go_wp2_with fail
  go_step3
  go_wp2_with fail;rw[Exit.noGoto_ret];go_ret;exact ⟨by rw[HN.out];rfl,HX.out⟩
 by_cases h4:8<n
 ·have HN:Hid (q0N st fi L=3):=η26 (by unfold q0N;rw[if_neg hno,if_pos (.inr (by omega))])
  have hd:decide ((8:Int)<(n:Int))=true:=decide_eq_true (by omega);clear hbk h1 h2 hLn hno hlen;go_enter Tryz.func34,Tryz.ntmps34;go_wp2_with fail
  go_step3
  go_wp2_with fail;rw[Exit.noGoto_ret];go_ret;exact ⟨by rw[HN.out];rfl,HX.out⟩
 have hno2:¬(32<st.length∨8<L.length):=by omega
 have hd4:decide ((8:Int)<(n:Int))=false:=decide_eq_false (by omega);have q0:IntKind.i64.wrap (1073741824-(n:Int))=1073741824-(n:Int):=by rw[IntKind.wrap_i64];omega
 by_cases h5:fi<0∨1073741824-(n:Int)<fi
 ·have HN:Hid (q0N st fi L=2):=η26 (by unfold q0N;rw[if_neg hno,if_neg hno2,if_pos (by rw[hlen];exact h5)])
  have hd5:decide (fi<0)=true∨(decide (fi<0)=false∧decide (1073741824-(n:Int)<fi)=true):=by
   by_cases h:fi<0
   ·exact .inl (decide_eq_true h)
   ·exact .inr ⟨decide_eq_false h,decide_eq_true (by omega)⟩
  clear hbk h1 h2 hLn hno hno2 hlen h5;rcases hd5 with hd5|⟨hd5,hd6⟩
  all_goals
   go_enter Tryz.func34,Tryz.ntmps34;go_wp2_with fail
   go_step3
   go_wp2_with fail;rw[Exit.noGoto_ret];go_ret;exact ⟨by rw[HN.out];rfl,HX.out⟩
 have hd5:decide (fi<0)=false:=decide_eq_false (by omega);have hd6:decide (1073741824-(n:Int)<fi)=false:=decide_eq_false (by omega);have HN:Hid (q0N st fi L=q5z L):=η26 (by unfold q0N;rw[if_neg hno,if_neg hno2,if_neg (by rw[hlen];exact h5)]);have HLe:=η26 hlen;clear hbk h1 h2 hLn hno hno2 hlen h5;go_enter Tryz.func34,Tryz.ntmps34;go_wp2_with fail
 go_step3
 go_wp2_with fail
 go_step3
 go_wp2_with fail
 go_loopw [2,36] (fun e i W=> ∃k:Nat,k≤n∧i= .int .i64 (k:Int)∧e= .int .i64 0∧q5z (L.take k)=0∧Ext w W) (fun _ i _=>n-(intOf i).toNat)
 case atStart=>exact ⟨0,Nat.zero_le _,rfl,rfl,rfl,HX.out⟩
 case round=>
  obtain ⟨k,hk,rfl,rfl,h0,hb⟩:=hrel;have HBk:=η26 hb;by_cases hlt:k<n
  ·have hd7:decide ((k:Int)<(n:Int))=true:=decide_eq_true (by omega)
   obtain ⟨b,off,rfl,c0,c1,c2⟩:=(HE.out.ext hb).at hlt;have hkL:k<L.length:=by rw[HLe.out];exact hlt
   have hT:L.take (k+1)=L.take k++[L.getD k ev0]:=by
    rw[List.take_succ_eq_append_getElem hkL];simp[List.getD,List.getElem?_eq_getElem hkL]
   have hS:=q7V (L.take k) (L.getD k ev0) h0;rw[←hT] at hS;have HS:=η26 hS;have HSk:=η26 (q7J L k hkL h0);have hmem:L.getD k ev0∈L:=by rw[List.getD_eq_getElem?_getD,List.getElem?_eq_getElem hkL];exact List.getElem_mem hkL
   obtain ⟨m1,m2⟩:=HL.out _ hmem;have HX1:=η26 (q0B wr (.cells #[.string ⟨(L.getD k ev0).ty.toArray⟩,.string ⟨(L.getD k ev0).da.toArray⟩,.float .f64 (L.getD k ev0).we] 85));have q1:IntKind.i64.wrap ((k:Int)+1)=(k:Int)+1:=by rw[IntKind.wrap_i64];omega
   generalize L.getD k ev0=y at*;obtain ⟨y1,y2,y3⟩:=y;have HCk:=η26 (fun W=>q9G y1 y2 .f64 y3 W m1 m2);simp only at c0 c1 c2;have u0:=q0D c0;have u1:=q0D c1;have u2:=q0D c2;have hsf:=q1T;clear hT hkL h0 hS hmem m1 m2 hb;go_wp2_with fail;refine (HCk.out _).mono ?_;rintro e w1 ⟨rfl,hx⟩;have HX2:=η26 ((HBk.out.trans HX1.out).trans hx);clear hx;by_cases hc:q0W y1 y2=0
   ·have HS':Hid (q5z (L.take (k+1))=0):=η26 (by rw[HS.out];exact hc)
    rw[hc];go_wp2_with fail
    go_roundw
    case rel=>exact ⟨k+1,by omega,by go_num,rfl,HS'.out,HX2.out⟩
    case measure=>simp[intOf];omega
   ·have HN2:Hid (q5z L=q0W y1 y2):=η26 (by rw[HSk.out,if_neg hc])
    have hcn:(q0W y1 y2==0)=false:=by simpa using hc
    clear hc;go_wp2_with fail;rw[Exit.noGoto_ret];go_ret;exact ⟨by rw[HN.out,HN2.out];rfl,HX2.out⟩
  ·obtain rfl:k=n:=by omega
   have hd7:decide ((k:Int)<(k:Int))=false:=decide_eq_false (by omega);have HN2:Hid (q5z L=0):=η26 (by rw[←HLe.out,List.take_length] at h0;exact h0);clear h0 hb;go_wp2_with fail;rw[Exit.noGoto_ret];go_ret;exact ⟨by rw[HN.out,HN2.out];rfl,HBk.out⟩
end
section
open Go.RowKit
theorem q1l {fn:Func} {p u v x:Tmp} {ty:TypeId} (h:fn.results=#[.cell p ty,.tmp u,.tmp v,.tmp x]) (tmps:Array Value) (P:Program) (w:World):
  (results fn tmps).run P w=
   ((asAddr (tmps.getD p undef)).run P w).andThen fun a w₁=>((loadVar ty a).run P w₁).andThen fun y w₂=> .ok (.tuple #[y,tmps.getD u undef,tmps.getD v undef,tmps.getD x undef]) w₂:=by
 simp only[results,h];simp[Sem.run_bind,Result.andThen]
def q6U (s:List UInt8):Value:=if q4l s=true then .tuple #[.agg #[.string ⟨(rdT s).toArray⟩,.int .i64 (q1H ((rdR s).take 8):Int),.slice none 0 0],.int .i64 (((rdR s).getD 8 0).toNat:Int),.string ⟨((rdR s).drop 9).toArray⟩,.bool true]
 else .tuple #[.agg #[.string ⟨#[]⟩,.int .i64 0,.slice none 0 0],.int .i64 0,.string ⟨#[]⟩,.bool false]
theorem y0T (s:List UInt8) (w:World) (hl:s.length≤4611686018427387903):
  Calls Tryz.prog 95 #[.string ⟨s.toArray⟩] w fun e w'=>e= .returned (q6U s)∧Ext w w':=by
 have HR1:=η26 (fun W=>z1r s W hl);have hl1:=z3Z s;have hl3:=q7Y s;have HX:=η26 (q0B w (.cells #[.string ⟨#[]⟩,.int .i64 0,.slice none 0 0] 96));have HB0:=η26 (Blk.new w 96 #[.string ⟨#[]⟩,.int .i64 0,.slice none 0 0])
 have HS0:Hid (∀(W:World) (a b c:Value),Blk W w.heap.size 96 #[a,b,c]→ ∀a' b',W.cell? ⟨w.heap.size,0,none⟩=some a∧W.cell? ⟨w.heap.size,1,none⟩=some b∧W.cell? ⟨w.heap.size,2,none⟩=some c∧
   W.frozen? ⟨w.heap.size,0,none⟩=false∧W.frozen? ⟨w.heap.size,1,none⟩=false∧W.frozen? ⟨w.heap.size,2,none⟩=false∧((W.setCell ⟨w.heap.size,0,none⟩ a').setCell ⟨w.heap.size,1,none⟩ b').frozen? ⟨w.heap.size,2,none⟩=false∧
   ((W.setCell ⟨w.heap.size,0,none⟩ a').setCell ⟨w.heap.size,1,none⟩ b').cell? ⟨w.heap.size,2,none⟩=some c):=η26 fun W a b c h a' b'=>by
  have h2:=(h.set 0 a').set 1 b';exact ⟨h.cell 0,h.cell 1,h.cell 2,h.free 0,h.free 1,h.free 2,h2.free 2,h2.cell 2⟩
 by_cases h1:q7w s=true
 case neg=>
  rw[Bool.not_eq_true] at h1;have HE:Hid (q6U s= .tuple #[.agg #[.string ⟨#[]⟩,.int .i64 0,.slice none 0 0],.int .i64 0,.string ⟨#[]⟩,.bool false]):=η26 (by unfold q6U q4l;rw[h1];rfl);rw[h1] at HR1;go_enter Tryz.func95,Tryz.ntmps95;go_wp2_with fail;refine (HR1.out _).mono ?_;rintro e w1 ⟨rfl,hx⟩;have HB1:=η26 (HB0.out.ext hx);have HX1:=η26 (HX.out.trans hx);clear hx;obtain ⟨c0,c1,c2,f0,f1,f2,g2,d2⟩:=HS0.out w1 _ _ _ HB1.out (.string ⟨#[]⟩) (.int .i64 0);go_wp2_with fail
  ((try simp only[Exit.inBlock,Exit.then]);refine bodyPost_ret (v:= .tuple #[.agg #[.string ⟨#[]⟩,.int .i64 0,.slice none 0 0],.int .i64 0,.string ⟨#[]⟩,.bool false]) (by rw[q1l rfl];go_simp) rfl ?_)
  exact ⟨by rw[HE.out],q2A HX1.out _ _ _⟩
 rw[h1] at HR1;obtain ⟨R,hR⟩: ∃R,rdR s=R:=⟨_,rfl⟩
 rw[hR] at HR1 hl3;by_cases h3:R.length<9
 ·have HE:Hid (q6U s= .tuple #[.agg #[.string ⟨#[]⟩,.int .i64 0,.slice none 0 0],.int .i64 0,.string ⟨#[]⟩,.bool false]):=η26 (by unfold q6U q4l;rw[h1,hR,decide_eq_false (by omega)];rfl)
  have hd:decide ((R.length:Int)<9)=true:=decide_eq_true (by omega);clear hR;go_enter Tryz.func95,Tryz.ntmps95;go_wp2_with fail;refine (HR1.out _).mono ?_;rintro e w1 ⟨rfl,hx⟩;have HB1:=η26 (HB0.out.ext hx);have HX1:=η26 (HX.out.trans hx);clear hx;obtain ⟨c0,c1,c2,f0,f1,f2,g2,d2⟩:=HS0.out w1 _ _ _ HB1.out (.string ⟨#[]⟩) (.int .i64 0);go_wp2_with fail
  ((try simp only[Exit.inBlock,Exit.then]);refine bodyPost_ret (v:= .tuple #[.agg #[.string ⟨#[]⟩,.int .i64 0,.slice none 0 0],.int .i64 0,.string ⟨#[]⟩,.bool false]) (by rw[q1l rfl];go_simp) rfl ?_)
  exact ⟨by rw[HE.out],q2A HX1.out _ _ _⟩
 have hd:decide ((R.length:Int)<9)=false:=decide_eq_false (by omega);have s1:=q4W R 8 8 rfl (by omega);have s2:=q2r R 9 9 rfl (by omega);have l8:(R.take 8).length=8:=by rw[List.length_take];omega
 have HG:=η26 (fun W=>q9Z (R.take 8) W (by omega));rw[show (R.take 8).take 8=R.take 8 from List.take_of_length_le (by omega)] at HG;have hub:=q1t (R.take 8);rw[l8] at hub;obtain ⟨b,hb⟩: ∃b,q1H (R.take 8)=b:=⟨_,rfl⟩
 rw[hb] at HG hub;by_cases h4:1073741824<b
 ·have HE:Hid (q6U s= .tuple #[.agg #[.string ⟨#[]⟩,.int .i64 0,.slice none 0 0],.int .i64 0,.string ⟨#[]⟩,.bool false]):=η26 (by unfold q6U q4l;rw[hR,hb,decide_eq_false (p:=b≤1073741824) (by omega),Bool.and_false];rfl)
  have hd2:decide ((1073741824:Int)<(b:Int))=true:=decide_eq_true (by omega);clear hb hub hR h3;go_enter Tryz.func95,Tryz.ntmps95;go_wp2_with fail;refine (HR1.out _).mono ?_;rintro e w1 ⟨rfl,hx⟩;have HB1:=η26 (HB0.out.ext hx);have HX1:=η26 (HX.out.trans hx);clear hx;go_wp2_with fail;refine (HG.out _).mono ?_;rintro e w2 ⟨rfl,hx⟩;have HB2:=η26 (HB1.out.ext hx);have HX2:=η26 (HX1.out.trans hx);clear hx;obtain ⟨c0,c1,c2,f0,f1,f2,g2,d2⟩:=HS0.out w2 _ _ _ HB2.out (.string ⟨#[]⟩) (.int .i64 0);go_wp2_with fail
  ((try simp only[Exit.inBlock,Exit.then]);refine bodyPost_ret (v:= .tuple #[.agg #[.string ⟨#[]⟩,.int .i64 0,.slice none 0 0],.int .i64 0,.string ⟨#[]⟩,.bool false]) (by rw[q1l rfl];go_simp) rfl ?_)
  exact ⟨by rw[HE.out],q2A HX2.out _ _ _⟩
 have hd2:decide ((1073741824:Int)<(b:Int))=false:=decide_eq_false (by omega);obtain ⟨m,hm⟩: ∃m:Nat,(R.getD 8 0).toNat=m:=⟨_,rfl⟩
 have hm9:m<256:=by rw[←hm];exact (R.getD 8 0).toNat_lt
 have hb8:8<(⟨R.toArray⟩:ByteArray).size:=by show 8<R.length;omega
 have e8:((⟨R.toArray⟩:ByteArray)[8]'hb8).toNat=m:=by
  rw[←hm,List.getD_eq_getElem?_getD,List.getElem?_eq_getElem (show 8<R.length by omega)];rfl
 have h8:(8:Int)<(R.length:Int):=by omega
 have q1:IntKind.i64.wrap (b:Int)=(b:Int):=by rw[IntKind.wrap_i64];omega
 have q2:IntKind.i64.wrap (m:Int)=(m:Int):=by rw[IntKind.wrap_i64];omega
 have HE:Hid (q6U s= .tuple #[.agg #[.string ⟨(rdT s).toArray⟩,.int .i64 (b:Int),.slice none 0 0],.int .i64 (m:Int),.string ⟨(R.drop 9).toArray⟩,.bool true]):=η26 (by
  unfold q6U q4l
  rw[hR,hb,h1,hm,decide_eq_true (p:=9≤R.length) (by omega),decide_eq_true (p:=b≤1073741824) (by omega)];rfl)
 obtain ⟨T1,hT1⟩: ∃T,rdT s=T:=⟨_,rfl⟩
 rw[hT1] at HE HR1;clear hb hub hR h3 h4 hT1 hm;go_enter Tryz.func95,Tryz.ntmps95;go_wp2_with fail;refine (HR1.out _).mono ?_;rintro e w1 ⟨rfl,hx⟩;have HB1:=η26 (HB0.out.ext hx);have HX1:=η26 (HX.out.trans hx);clear hx;go_wp2_with fail;refine (HG.out _).mono ?_;rintro e w2 ⟨rfl,hx⟩;have HB2:=η26 (HB1.out.ext hx);have HB2':=η26 (HB2.out.ext (Ext.refl w2).drew);have HX2:=η26 ((HX1.out.trans hx).drew);clear hx;obtain ⟨c0,c1,c2,f0,f1,f2,g2,d2⟩:=HS0.out w2 _ _ _ HB2.out (.string ⟨T1.toArray⟩) (.int .i64 (b:Int));obtain ⟨c0',c1',c2',f0',f1',f2',g2',d2'⟩:=HS0.out w2.drew _ _ _ HB2'.out (.string ⟨T1.toArray⟩) (.int .i64 (b:Int));go_wp2_with fail;refine q2S (fun W=>True) 9 (by kernel_rfl) trivial (fun hHeld=>?_);refine q0C (i:=0) (v:=?_) rfl (by kernel_rfl) (fun _ _ _ h=>h) (Or.inl ⟨by rfl,?_⟩) hHeld (fun hHeld=>?_)
 rotate_left
 ·(intro w hSw;(try dsimp only at hSw);go_simp;try with_reducible rfl)
 try simp only[Act.put,List.setIfInBounds_toArray,List.set_cons_zero,List.set_cons_succ]
 refine q0C (i:=1) (v:=?_) rfl (by kernel_rfl) (fun _ _ _ h=>h) (Or.inl ⟨by rfl,?_⟩) hHeld (fun hHeld=>?_)
 rotate_left
 ·(intro w hSw;(try dsimp only at hSw);go_simp;try with_reducible rfl)
 try simp only[Act.put,List.setIfInBounds_toArray,List.set_cons_zero,List.set_cons_succ]
 refine q0C (i:=2) (v:=?_) rfl (by kernel_rfl) (fun _ _ _ h=>h) (Or.inl ⟨by rfl,?_⟩) hHeld (fun hHeld=>?_)
 rotate_left
 ·(intro w hSw;(try dsimp only at hSw);go_simp;try with_reducible rfl)
 try simp only[Act.put,List.setIfInBounds_toArray,List.set_cons_zero,List.set_cons_succ]
 refine q0C (i:=3) (v:=?_) rfl (by kernel_rfl) (fun _ _ _ h=>h) (Or.inl ⟨by rfl,?_⟩) hHeld (fun hHeld=>?_)
 rotate_left
 ·(intro w hSw;(try dsimp only at hSw);go_simp;try with_reducible rfl)
 try simp only[Act.put,List.setIfInBounds_toArray,List.set_cons_zero,List.set_cons_succ]
 refine q0C (i:=4) (v:=?_) rfl (by kernel_rfl) (fun _ _ _ h=>h) (Or.inl ⟨by rfl,?_⟩) hHeld (fun hHeld=>?_)
 rotate_left
 ·(intro w hSw;(try dsimp only at hSw);go_simp;try with_reducible rfl)
 try simp only[Act.put,List.setIfInBounds_toArray,List.set_cons_zero,List.set_cons_succ]
 refine q0C (i:=5) (v:=?_) rfl (by kernel_rfl) (fun _ _ _ h=>h) (Or.inl ⟨by rfl,?_⟩) hHeld (fun hHeld=>?_)
 rotate_left
 ·(intro w hSw;(try dsimp only at hSw);go_simp;try with_reducible rfl)
 try simp only[Act.put,List.setIfInBounds_toArray,List.set_cons_zero,List.set_cons_succ]
 refine q0C (i:=6) (v:=?_) rfl (by kernel_rfl) (fun _ _ _ h=>h) (Or.inl ⟨by rfl,?_⟩) hHeld (fun hHeld=>?_)
 rotate_left
 ·(intro w hSw;(try dsimp only at hSw);go_simp;try with_reducible rfl)
 try simp only[Act.put,List.setIfInBounds_toArray,List.set_cons_zero,List.set_cons_succ]
 refine q0C (i:=7) (v:=?_) rfl (by kernel_rfl) (fun _ _ _ h=>h) (Or.inl ⟨by rfl,?_⟩) hHeld (fun hHeld=>?_)
 rotate_left
 ·(intro w hSw;(try dsimp only at hSw);go_simp;try with_reducible rfl)
 try simp only[Act.put,List.setIfInBounds_toArray,List.set_cons_zero,List.set_cons_succ]
 refine q0C (i:=8) (v:=?_) rfl (by kernel_rfl) (fun _ _ _ h=>h) (Or.inl ⟨by rfl,?_⟩) hHeld (fun hHeld=>?_)
 rotate_left
 ·(intro w hSw;(try dsimp only at hSw);go_simp;try with_reducible rfl)
 try simp only[Act.put,List.setIfInBounds_toArray,List.set_cons_zero,List.set_cons_succ]
 refine q2s (by kernel_rfl) ?_
 try simp only[List.drop_succ_cons,List.drop_zero]
 clear hHeld;go_wp2_with fail
 ((try simp only[Exit.inBlock,Exit.then]);refine bodyPost_ret (v:= .tuple #[.agg #[.string ⟨T1.toArray⟩,.int .i64 (b:Int),.slice none 0 0],.int .i64 (m:Int),.string ⟨(R.drop 9).toArray⟩,.bool true]) (by rw[q1l rfl];go_simp) rfl ?_)
 exact ⟨by rw[HE.out],q2A HX2.out _ _ _⟩
end
section
open Go.RowKit
theorem z6G {e:Ev} (h:z6V e):(evB e).length≤300:=by
 obtain ⟨_,h3,h4⟩:=q1k h.1;unfold evB;rw[q1V (by omega),q1V (by omega)];simp[q0H];omega
theorem z5Y (L:List Ev) (k:Nat) (h:k<L.length):((L.take (k+1)).map evB).flatten=((L.take k).map evB).flatten++evB (L.getD k ev0):=by
 rw[List.take_succ_eq_append_getElem h,List.map_append,List.flatten_append,List.getD_eq_getElem?_getD,List.getElem?_eq_getElem h];simp only[List.map_cons,List.map_nil,List.flatten_cons,List.flatten_nil,List.append_nil,Option.getD_some]
theorem y1O {b:Bt} {ao:Option Addr} {n cap:Nat} (w:World) (hx:Evs w ao n cap b.ev) (hok:z1a b):
  Calls Tryz.prog 36 #[.agg #[.string ⟨b.st.toArray⟩,.int .i64 (b.fi:Int),.slice ao n cap]] w fun e w'=>e= .returned (.tuple #[.string ⟨(btB b).toArray⟩,.int .i64 0])∧Ext w w':=by
 obtain ⟨p1,p2,p3,p4,p5,p6,p7⟩:=q0j hok.1;have hev: ∀e∈b.ev,z6V e:=fun e he=>⟨q5m p7 e he,hok.2 e he⟩
 have hsh:q1C b.ev:=fun e he=>by
  obtain ⟨_,h1,h2⟩:=q1k (hev e he).1;exact ⟨by omega,by omega⟩
 have hlen:=hx.len;obtain ⟨st,fi,L⟩:=b;simp only at p1 p2 p3 p4 p5 p6 p7 hev hsh hlen hx;have b1:=hx.fits;have b2:=hx.bound;have hc0:q0N st (fi:Int) L=0:=hok.1;have HC:=η26 (fun W (h:Evs W ao n cap L)=>q9A st (fi:Int) W h (by omega) hsh);rw[hc0] at HC;have HT:=η26 (fun W=>z4y st W (by omega));have HP8:=η26 (fun W=>z3s (fi:Int) 8 8 W rfl (by omega) (by omega) (by omega) (by omega));have HP1:=η26 (fun W=>z3s (n:Int) 1 1 W rfl (by omega) (by omega) (by omega) (by omega));rw[Int.toNat_natCast] at HP8 HP1;have l1:(q1e st).length≤50:=by rw[q1V (by omega)];simp[q0H];omega
 have l8:(be 8 fi).length≤8:=by rw[q0H];omega
 have l0:(be 1 n).length≤8:=by rw[q0H];omega
 have HE:Hid (btB ⟨st,fi,L⟩=((q1e st++be 8 fi)++be 1 n)++((L.take n).map evB).flatten):=η26 (by
  rw[←hlen,List.take_length];unfold btB;simp)
 have HOk:=η26 hev;have HLn:=η26 hlen;have HEv:=η26 hx;have qf:IntKind.u64.wrap (fi:Int)=(fi:Int):=by rw[IntKind.wrap_u64];omega
 have qn:IntKind.u64.wrap (n:Int)=(n:Int):=by rw[IntKind.wrap_u64];omega
 have hn9:n≤8:=by omega
 have HX:=η26 (q0B w (.cells #[.string ⟨st.toArray⟩,.int .i64 (fi:Int),.slice ao n cap] 96));have HB0:=η26 (Blk.new w 96 #[.string ⟨st.toArray⟩,.int .i64 (fi:Int),.slice ao n cap]);have hbk:=HB0.out;have k0:(w.alloc (.cells #[.string ⟨st.toArray⟩,.int .i64 (fi:Int),.slice ao n cap] 96)).cell? ⟨w.heap.size,0,none⟩=some (.string ⟨st.toArray⟩):=hbk.cell 0;have k1:(w.alloc (.cells #[.string ⟨st.toArray⟩,.int .i64 (fi:Int),.slice ao n cap] 96)).cell? ⟨w.heap.size,1,none⟩=some (.int .i64 (fi:Int)):=hbk.cell 1;have k2:(w.alloc (.cells #[.string ⟨st.toArray⟩,.int .i64 (fi:Int),.slice ao n cap] 96)).cell? ⟨w.heap.size,2,none⟩=some (.slice ao n cap):=hbk.cell 2;generalize q1e st=A at*;generalize be 8 fi=D at*;generalize be 1 n=C at*;have hsf:=q1T;clear hbk hok p1 p2 p3 p4 p5 p6 p7 hev hsh hlen hx hc0;go_enter Tryz.func36,Tryz.ntmps36;go_wp2_with fail;refine (HC.out _ (HEv.out.ext HX.out)).mono ?_
 rintro e w1 ⟨rfl,hx⟩;have HX1:=η26 (HX.out.trans hx);have hb1:=HB0.out.ext hx;generalize w.heap.size=q at*;have c0:w1.cell? ⟨q,0,none⟩=some (.string ⟨st.toArray⟩):=hb1.cell 0;have c1:w1.cell? ⟨q,1,none⟩=some (.int .i64 (fi:Int)):=hb1.cell 1;have c2:w1.cell? ⟨q,2,none⟩=some (.slice ao n cap):=hb1.cell 2;have u0:=q0D c0;have u1:=q0D c1;have u2:=q0D c2;have HB1:=η26 hb1;have q1:¬(9223372036854775807<A.length+D.length):=by omega
 have q2:¬(9223372036854775807<(A++D).length+C.length):=by rw[List.length_append];omega
 have q3:¬(9223372036854775807<A.length+D.length+C.length):=by omega
 clear hx hb1 k0 k1 k2;go_wp2_with fail;refine q0E (by kernel_rfl) (by kernel_rfl) ?_
 repeat (go_big_quiet_step (fail))
 go_big_quiet_step (exact Calls.quiet_ext (HT.out _))
 repeat (go_big_quiet_step (fail))
 go_big_quiet_step (exact Calls.quiet_ext (HP8.out _))
 repeat (go_big_quiet_step (fail))
 go_big_quiet_step (exact Calls.quiet_ext (HP1.out _))
 repeat (go_big_quiet_step (fail))
 refine wpQuiet_nil ?_;intro w2 hw;have HX2:=η26 (HX1.out.trans hw);have hb2:=HB1.out.ext hw;have d0:w2.cell? ⟨q,0,none⟩=some (.string ⟨st.toArray⟩):=hb2.cell 0;have d1:w2.cell? ⟨q,1,none⟩=some (.int .i64 (fi:Int)):=hb2.cell 1;have d2:w2.cell? ⟨q,2,none⟩=some (.slice ao n cap):=hb2.cell 2;clear hw hb2 c0 c1 c2 u0 u1 u2;have HEv2:=η26 (HEv.out.ext HX2.out);go_wp2_with fail
 go_loopw [5,30] (fun e i W=> ∃k:Nat,∃T:List UInt8,k≤n∧i= .int .i64 (k:Int)∧e= .string ⟨T.toArray⟩∧T=((A++D)++C)++((L.take k).map evB).flatten∧T.length≤100+300*k∧Ext w W) (fun _ i _=>n-(intOf i).toNat)
 case atStart=>exact ⟨0,_,Nat.zero_le _,rfl,(by first|rfl|(rw[q2K,q2K])),by simp,by simp;omega,HX2.out⟩
 case round=>
  obtain ⟨k,T,hk,rfl,rfl,hT,hTl,hb⟩:=hrel;have HT:=η26 hT;have HBk:=η26 hb;by_cases hlt:k<n
  ·have hd7:decide ((k:Int)<(n:Int))=true:=decide_eq_true (by omega)
   obtain ⟨b,off,rfl,c0,c1,c2⟩:=(HEv.out.ext hb).at hlt;have hkL:k<L.length:=by rw[HLn.out];exact hlt
   have hmem:L.getD k ev0∈L:=by rw[List.getD_eq_getElem?_getD,List.getElem?_eq_getElem hkL];exact List.getElem_mem hkL
   have HS:=η26 (z5Y L k hkL);have HX1:=η26 (q0B wr (.cells #[.string ⟨(L.getD k ev0).ty.toArray⟩,.string ⟨(L.getD k ev0).da.toArray⟩,.float .f64 (L.getD k ev0).we] 85));have q4:IntKind.i64.wrap ((k:Int)+1)=(k:Int)+1:=by rw[IntKind.wrap_i64];omega
   have he:=HOk.out _ hmem;generalize L.getD k ev0=y at*;obtain ⟨y1,y2,y3⟩:=y;have hs:=z6G he;have HCk:=η26 (fun W=>z6w ⟨y1,y2,y3⟩ W he);have HCk':Hid (∀W,Calls Tryz.prog 71 #[.agg #[.string ⟨y1.toArray⟩,.string ⟨y2.toArray⟩,.float .f64 y3]] W fun r w'=>r= .returned (.string ⟨(evB ⟨y1,y2,y3⟩).toArray⟩)∧Ext W w'):=HCk;obtain ⟨Y,hY⟩: ∃Y,evB ⟨y1,y2,y3⟩=Y:=⟨_,rfl⟩
   rw[hY] at HCk' hs HS;simp only at c0 c1 c2;have u0:=q0D c0;have u1:=q0D c1;have u2:=q0D c2;have q5:¬(9223372036854775807<T.length+Y.length):=by omega
   clear hkL hmem hb hT HCk he hY;go_wp2_with fail;refine (HCk'.out _).mono ?_;rintro e w3 ⟨rfl,hx⟩;have HX3:=η26 ((HBk.out.trans HX1.out).trans hx);clear hx;go_wp2_with fail
   go_roundw
   case rel=>exact ⟨k+1,T++Y,by omega,by go_num,(by first|rfl|(rw[q2K])),by rw[HS.out,HT.out,List.append_assoc],by rw[List.length_append];omega,HX3.out⟩
   case measure=>simp[intOf];omega
  ·obtain rfl:k=n:=by omega
   have hd7:decide ((k:Int)<(k:Int))=false:=decide_eq_false (by omega);have HF:Hid (btB ⟨st,fi,L⟩=T):=η26 (by rw[HE.out,hT]);clear hb hT;go_wp2_with fail;go_ret2;exact ⟨by rw[HF.out];rfl,HBk.out⟩
end
section
open Go.RowKit Go.Shelf
theorem y1e {a b:Ev} (h1:a.ty=b.ty) (h2:a.da=b.da) (h3:a.we=b.we):a=b:=by
 obtain ⟨_,_,_⟩:=a;obtain ⟨_,_,_⟩:=b;simp only at h1 h2 h3;subst h1;subst h2;subst h3;rfl
def q3O (a b:Ev):Bool:=decide (a.ty=b.ty)&&decide (a.da=b.da)&&decide (a.we=b.we)
theorem sameEv_iff {a b:Ev}:q3O a b=true↔a=b:=by
 unfold q3O;rw[Bool.and_eq_true,Bool.and_eq_true,decide_eq_true_eq,decide_eq_true_eq,decide_eq_true_eq];exact ⟨fun h=>y1e h.1.1 h.1.2 h.2,fun h=>by rw[h];exact ⟨⟨rfl,rfl⟩,rfl⟩⟩
def q0v :List Ev→List Ev→Bool
 |[],[]=>true
 |a::l,b::m=>q3O a b&&q0v l m
 |_,_=>false
theorem sameEvs_iff : ∀{l m:List Ev},q0v l m=true↔l=m
 |[],[]=>by simp[q0v]
 |[],b::m=>by simp[q0v]
 |a::l,[]=>by simp[q0v]
 | a::l,b::m=>by
  rw[q0v,Bool.and_eq_true,sameEv_iff,sameEvs_iff];exact ⟨fun h=>by rw[h.1,h.2],fun h=>by injection h with h1 h2;exact ⟨h1,h2⟩⟩
theorem q7H {l m:List Ev} (h:l.length≠m.length):q0v l m=false:=by
 cases hs:q0v l m with
 |false=>rfl
 |true=>exact absurd (by rw[sameEvs_iff.1 hs]) h
theorem z3d {l m:List Ev} (hl:l.length=m.length) (h: ∀i,i<l.length→l.getD i ev0=m.getD i ev0):q0v l m=true:=by
 rw[sameEvs_iff];apply List.ext_getElem hl;intro i h1 h2;have:=h i h1
 simpa [List.getD_eq_getElem?_getD,List.getElem?_eq_getElem h1,List.getElem?_eq_getElem h2] using this
theorem z4W {l m:List Ev} {i:Nat} (h:l.getD i ev0≠m.getD i ev0):q0v l m=false:=by
 cases hs:q0v l m with
 |false=>rfl
 |true=>exact absurd (by rw[sameEvs_iff.1 hs]) h
theorem z9u (a b:Nat) (w:World):Calls Tryz.prog 189 #[.float .f64 a,.float .f64 b] w fun e w'=>e= .returned (.bool (decide (a=b)))∧w=w':=by
 have hfb:=q3e;obtain ⟨z,hz⟩: ∃z,decide (a=b)=z:=⟨_,rfl⟩
 have hd:((a:Int)==(b:Int))=z:=by
  rw[←hz];by_cases h:a=b
  ·rw[h];simp
  ·rw[decide_eq_false h];exact beq_eq_false_iff_ne.2 (by omega)
 rw[hz];clear hz;go_enter Tryz.func189,Tryz.ntmps189;go_wp2_with fail;go_ret;exact ⟨by rw[←hd];rfl,rfl⟩
theorem y0O (a b:Ev) (w:World):Calls Tryz.prog 134 #[.agg #[.string ⟨a.ty.toArray⟩,.string ⟨a.da.toArray⟩,.float .f64 a.we],.agg #[.string ⟨b.ty.toArray⟩,.string ⟨b.da.toArray⟩,.float .f64 b.we]] w fun r w'=>r= .returned (.bool (q3O a b))∧Ext w w':=by
 obtain ⟨ty,da,we⟩:=a;obtain ⟨ty',da',we'⟩:=b;have hx1:=q0B w (.cells #[.string ⟨ty.toArray⟩,.string ⟨da.toArray⟩,.float .f64 we] 85);have hx2:=q0B (w.alloc (.cells #[.string ⟨ty.toArray⟩,.string ⟨da.toArray⟩,.float .f64 we] 85)) (.cells #[.string ⟨ty'.toArray⟩,.string ⟨da'.toArray⟩,.float .f64 we'] 85);have HX:=η26 (hx1.trans hx2);have hb1:=(Blk.new w 85 #[.string ⟨ty.toArray⟩,.string ⟨da.toArray⟩,.float .f64 we]).ext hx2;have hb2:=Blk.new (w.alloc (.cells #[.string ⟨ty.toArray⟩,.string ⟨da.toArray⟩,.float .f64 we] 85)) 85 #[.string ⟨ty'.toArray⟩,.string ⟨da'.toArray⟩,.float .f64 we'];rw[World.size_alloc] at hb2;have k0:=hb1.cell 0;have k1:=hb1.cell 1;have k2:=hb1.cell 2;have d0:=hb2.cell 0;have d1:=hb2.cell 1;have d2:=hb2.cell 2;obtain ⟨z1,hz1⟩: ∃z1,(ty==ty')=z1:=⟨_,rfl⟩
 obtain ⟨z2,hz2⟩: ∃z2,(da==da')=z2:=⟨_,rfl⟩
 obtain ⟨z3,hz3⟩: ∃z3,decide (we=we')=z3:=⟨_,rfl⟩
 have hs:q3O ⟨ty,da,we⟩ ⟨ty',da',we'⟩=(z1&&z2&&z3):=by
  unfold q3O;rw[←hz1,←hz2,←hz3]
  congr 1
  congr 1
  ·by_cases h:ty=ty'<;>simp[h]
  ·by_cases h:da=da'<;>simp[h]
 rw[hs];have HS:=η26 (fun W=>z9u we we' W);rw[hz3] at HS;clear hx1 hx2 hb1 hb2 hs hz3;go_enter Tryz.func134,Tryz.ntmps134
 cases z1 with
 | false=>
  go_wp2_with fail;go_ret;exact ⟨rfl,HX.out⟩
 | true=>
  cases z2 with
  | false=>
   go_wp2_with fail;go_ret;exact ⟨rfl,HX.out⟩
  | true=>
   go_wp2_with fail;refine (HS.out _).mono ?_;rintro e w1 ⟨rfl,rfl⟩;go_wp2_with fail;go_ret;exact ⟨by simp,HX.out⟩
def KpA (ao:Option Addr) (W W':World):Prop:= ∀a,ao=some a→W'.heap[a.block]? =W.heap[a.block]?
theorem y1x {ao:Option Addr} {A B C:World} (h:KpA ao A B) (k:KpA ao B C):KpA ao A C:=fun a e=>(k a e).trans (h a e)
def KpN (ao:Option Addr) (n:Nat) (W W':World):Prop:=0<n→KpA ao W W'
theorem z9f {ao:Option Addr} {n:Nat} {A B C:World} (h:KpN ao n A B) (k:KpN ao n B C):KpN ao n A C:=fun e=>y1x (h e) (k e)
theorem z1k {ao:Option Addr} {W W':World} (h:Ext W W') (hl: ∀a,ao=some a→a.block<W.heap.size):KpA ao W W':=fun a e=>h.block _ (hl a e)
theorem Rd.keep {W W':World} {ao:Option Addr} {xs:List Value} (h:Rd W ao xs) (k:KpA ao W W'):Rd W' ao xs:=fun j u hj=>by
 obtain ⟨b,off,rfl,hc⟩:=h j u hj;exact ⟨b,off,rfl,(World.cell?_of_block (a:=⟨b,off+j,none⟩) (show W'.heap[b]? =W.heap[b]? from k ⟨b,off,none⟩ rfl)).trans hc⟩
theorem Evs.keep {W W':World} {ao:Option Addr} {n cap:Nat} {L:List Ev} (h:Evs W ao n cap L) (k:KpA ao W W'):Evs W' ao n cap L:=⟨h.len,h.fits,h.bound,h.nil,h.rd.keep k⟩
abbrev y2M {n:Nat} (f:_root_.Fin n→Ev) (x:_root_.Fin n):Array Value:=#[.int .i64 (x.val:Int),.agg #[.string ⟨(f x).ty.toArray⟩,.string ⟨(f x).da.toArray⟩,.float .f64 (f x).we]]
def upF (n k:Nat):List (_root_.Fin n):=(List.finRange n).take k
theorem z8J {n k:Nat} (h:k<n):upF n (k+1)=upF n k++[⟨k,h⟩]:=by
 unfold upF;rw[List.take_succ_eq_append_getElem (by simpa using h)];simp
theorem z4N {n k:Nat} (h:k≤n):(upF n k).length=k:=by unfold upF;simp;omega
theorem z9C (n:Nat):upF n n=List.finRange n:=by unfold upF;exact List.take_of_length_le (by simp)
attribute [local go_sem] Oper.semAt_some
theorem z9k (n:Nat) (hn:1≤n) (l Bs:Nat) (ao:Option Addr) (len cap:Nat) (A:List Ev) (f:_root_.Fin len→Ev) (hf: ∀x,f x=A.getD x.val ev0) (hle:len≤1000000) (J Jx:List (_root_.Fin len)→World→Prop) (hJ: ∀pre W W',J pre W→Ext W W'→J pre W')
  (hY: ∀pre x W,J pre W→pre.length<len→YieldAt Fence.wide (n-1) Tryz.prog l (y2M f x) W fun e W'=>
   (e= .returned (.bool true)∧J (pre++[x]) W'∧KpN ao len W W')∨(e= .returned (.bool false)∧Jx (pre++[x]) W'))
  (W:World) (hBs:W.cell? ⟨Bs,0,none⟩=some (.slice ao len cap)) (hE:Evs W ao len cap A) (h0:J [] W):
  CallsIn Fence.wide n Tryz.prog 188 #[.func (.yield l) #[] #[],.pointer (some ⟨Bs,0,none⟩)] W fun e W'=>(∃v,e= .returned v)∧
   ((∃ys,ys=upF len len∧J ys W')∨(∃pre,(∃k,k≤len∧pre=upF len k)∧Jx pre W')):=by
 refine callsIn_of_wp Tryz.func188 rfl trivial ?_ rfl;simp only[Tryz.ntmps188,List.size_toArray,List.length_cons,List.length_nil,Nat.reduceAdd,Nat.reduceSub,Array.replicate_succ,Array.replicate_zero,List.push_toArray,List.append_toArray,List.nil_append,List.cons_append]
 gi_wp2
 gi_loopw [7] (fun i wr=> ∃k:Nat,k≤len∧i= .int .i64 (k:Int)∧J (upF len k) wr∧KpN ao len W wr)
  (fun i _=>len-(intOf i).toNat)
 case atStart=>exact ⟨0,Nat.zero_le _,rfl,h0,fun _ _ _=>rfl⟩
 case round=>
  obtain ⟨k,hk,rfl,hJs,hKp⟩:=hrel;by_cases hlt2:k<len
  ·have hE2:=hE.keep (hKp (by omega))
   obtain ⟨b,off,rfl,c0,c1,c2⟩:=hE2.at hlt2;have hd:decide ((k:Int)<(len:Int))=true:=decide_eq_true (by omega);have hki:(k:Int)<(len:Int):=by omega
   have q8:IntKind.i64.wrap ((k:Int)+1)=(k:Int)+1:=by rw[IntKind.wrap_i64];omega
   have hbl:b<wr.heap.size:=World.block_lt_of_cell? wr _ c0;have hx:=q0B wr (.cells #[.string ⟨(A.getD k ev0).ty.toArray⟩,.string ⟨(A.getD k ev0).da.toArray⟩,.float .f64 (A.getD k ev0).we] 85);have hJ2:=hJ _ _ _ hJs hx;have hbk:=Blk.new wr 85 #[.string ⟨(A.getD k ev0).ty.toArray⟩,.string ⟨(A.getD k ev0).da.toArray⟩,.float .f64 (A.getD k ev0).we];have d0:=hbk.cell 0;have d1:=hbk.cell 1;have d2:=hbk.cell 2;have hY2:=hY _ ⟨k,hlt2⟩ _ hJ2 (by rw[z4N hk];exact hlt2);have HJn:=η26 (z8J hlt2);have HKp:=η26 hKp;have HK2:Hid (KpA (some ⟨b,off,none⟩) wr (wr.alloc (.cells #[.string ⟨(A.getD k ev0).ty.toArray⟩,.string ⟨(A.getD k ev0).da.toArray⟩,.float .f64 (A.getD k ev0).we] 85))):=η26 (z1k hx fun a e=>by cases e;exact hbl);unfold y2M at hY2
   dsimp only at hY2
   rw[hf] at hY2
   dsimp only at hY2
   generalize A.getD k ev0=x at*;obtain ⟨ty,da,we⟩:=x;have hsf:=q1T;simp only at c0 c1 c2 d0 d1 d2;clear hJs hx hJ2 hbk hE2 hKp hY;obtain ⟨fn,tmps,assign,body,hy,hR⟩:=hY2
   dsimp only at hy
   have HR:=η26 hR;clear hR
   gi_wp2
   refine HR.out.mono ?_;rintro e W3 (⟨rfl,hJ3,hk3⟩|⟨rfl,hJx3⟩)
   ·gi_wp2
    go_roundw
    case rel=>exact ⟨k+1,by omega,by go_num,by rw[HJn.out];exact hJ3,z9f HKp.out (z9f (fun _=>HK2.out) hk3)⟩
    case measure=>simp[intOf];omega
   ·gi_wp2
    refine bodyPost_ret (results_none rfl _ _ _) rfl ?_;exact ⟨⟨_,rfl⟩,.inr ⟨_,⟨k+1,by omega,HJn.out.symm⟩,hJx3⟩⟩
  ·obtain rfl:k=len:=by omega
   have hd:decide ((k:Int)<(k:Int))=false:=decide_eq_false (by omega)
   gi_wp2
   go_end0
   exact ⟨⟨_,rfl⟩,.inl ⟨_,rfl,hJs⟩⟩
theorem z9F (n:Nat) (ao:Option Addr) (len cap:Nat) (w:World):
  CallsIn Fence.wide n Tryz.prog 133 #[.slice ao len cap] w fun e w'=>e= .returned (.func (.func 188) #[] #[.pointer (some ⟨w.heap.size,0,none⟩)])∧w'=w.alloc (.cells #[.slice ao len cap] 43):=by
 refine callsIn_of_wp Tryz.func133 rfl trivial ?_ rfl;simp only[Tryz.ntmps133,List.size_toArray,List.length_cons,List.length_nil,Nat.reduceAdd,Nat.reduceSub,Array.replicate_succ,Array.replicate_zero,List.push_toArray,List.append_toArray,List.nil_append,List.cons_append]
 gi_wp2
 go_ret;exact ⟨rfl,rfl⟩
theorem y2K {ao:Option Addr} {n B:Nat} (hb: ∀a,ao=some a→n≠0→a.block<B) (W:World) (l:Nat) (o o':Obj) (h:B≤l) (_:W.heap[l]? =some o) (_:o.isCells=false) (_:o.isWalk=false):KpN ao n W (W.putObj l o'):=
 fun hn a e=>World.putObj_heap_other (fun e'=>by have:=hb a e (by omega);omega)
theorem z4j (n:Nat) (hn:1≤n) (Bs:Nat) (ao:Option Addr) (len cap:Nat) (A:List Ev) (f:_root_.Fin len→Ev) (hf: ∀x,f x=A.getD x.val ev0) (hle:len≤1000000) (w:World) (hb:Boxed w Bs 43 (.slice ao len cap)) (hE:Evs w ao len cap A):
  SeqStopsK Fence.wide n Tryz.prog 188 #[.pointer (some ⟨Bs,0,none⟩)] (y2M f) (KpN ao len) (fun ys=>ys=upF len len) (fun pre=> ∃k,k≤len∧pre=upF len k) len w:=fun l J Jx W hW hJ _ hY h0=>
 z9k n hn l Bs ao len cap A f hf hle J Jx (fun pre A B h k=>hJ pre A B none h (q6z k) (fun r e=>by cases e)) hY W ((hW.cell (p:=⟨Bs,0,none⟩) hb.lt).trans hb.cell) (hE.ext hW) h0
theorem y0I {W W':World} {b:Nat} {t:TypeId} {cs:Array Value} {row:Option Nat} (h:Blk W b t cs) (hg:W.grownBy W' row) (hr: ∀r,row=some r→ ∃o:Obj,W.heap[r]? =some o∧o.isCells=false):Blk W' b t cs:=
 h.same (grownBy_keeps_cells hg hr h rfl)
theorem y1B {ao bo:Option Addr} {n m cap cap':Nat} {A B:List Ev} (w:World) (ha:Evs w ao n cap A) (hb:Evs w bo m cap' B) (hle:n≤1000000) (hle':m≤1000000):
  Calls Tryz.prog 87 #[.slice ao n cap,.slice bo m cap'] w fun e w'=>e= .returned (.bool (q0v A B))∧Ext w w':=by
 have hla:=ha.len;have hlb:=hb.len;refine (callsIn_wide (n:=3)).1 ?_;refine callsIn_of_wp_marks Tryz.func87 rfl trivial ?_ rfl;simp only[Tryz.ntmps87,List.size_toArray,List.length_cons,List.length_nil,Nat.reduceAdd,Nat.reduceSub,Array.replicate_succ,Array.replicate_zero,List.push_toArray,List.append_toArray,List.nil_append,List.cons_append];by_cases hnm:n=m
 case neg=>
  have hd:((n:Int) !=(m:Int))=true:=by simp;omega
  gi_wp2
  have hx:=(q0B w (.cells #[.slice bo m cap'] 43)).trans (q0B _ (.cells #[.bool false] 4));have hc:=(Boxed.new (w.alloc (.cells #[.slice bo m cap'] 43)) 4 (.bool false)).cell;rw[World.size_alloc] at hc;refine ⟨.bool false,?_,by rw[q7H (by omega)],hx⟩;rw[q0e rfl]
  go_simp
 subst hnm
 gi_wp2
 refine ⟨trivial,(z9F _ _ _ _ _).mono ?_⟩;rintro e w' ⟨rfl,rfl⟩
 gi_wp2
 obtain ⟨W1,hW1⟩: ∃W1,(((w.alloc (.cells #[.slice bo n cap'] 43)).alloc (.cells #[.bool false] 4)).alloc (.cells #[.slice ao n cap] 43))=W1:=⟨_,rfl⟩
 have hsz:W1.heap.size=w.heap.size+3:=by rw[←hW1];simp
 have b0:Boxed W1 w.heap.size 43 (.slice bo n cap'):=by rw[←hW1];exact ((Boxed.new w _ _).alloc _).alloc _
 have b1:Boxed W1 (w.heap.size+1) 4 (.bool false):=by
  rw[←hW1];have:=Boxed.new (w.alloc (.cells #[.slice bo n cap'] 43)) 4 (.bool false);rw[World.size_alloc] at this;exact this.alloc _
 have b2:Boxed W1 (w.heap.size+1+1) 43 (.slice ao n cap):=by
  rw[←hW1];have:=Boxed.new ((w.alloc (.cells #[.slice bo n cap'] 43)).alloc (.cells #[.bool false] 4)) 43 (.slice ao n cap);rw[World.size_alloc,World.size_alloc] at this;exact this
 have hx1:Ext w W1:=by rw[←hW1];exact q6G w _ _ _
 rw[hW1];clear hW1;obtain ⟨f,hf⟩: ∃f:_root_.Fin n→Ev,∀x,f x=A.getD x.val ev0:=⟨_,fun _=>rfl⟩
 obtain ⟨g,hg⟩: ∃g:_root_.Fin n→Ev,∀x,g x=B.getD x.val ev0:=⟨_,fun _=>rfl⟩
 have HF:=η26 hf;have HG:=η26 hg;clear hf hg;have hbl: ∀a,ao=some a→n≠0→a.block<w.heap.size:=fun a e hn=>by
  obtain ⟨b,off,e2,c0,_⟩:=ha.at (i:=0) (by omega);rw[e] at e2;cases e2;exact World.block_lt_of_cell? _ _ c0
 refine wpIn_rangeFunc_ownH (F:=Fence.wide) rfl (by omega) (gf:=188) (lb:=#[.pointer (some ⟨w.heap.size+1+1,0,none⟩)]) rfl trivial (enters_of Tryz.func188 (by kernel_rfl) rfl)
  (z4j (3-1) (by omega) (w.heap.size+1+1) ao n cap A f HF.out hle W1 b2 (ha.ext hx1)) z9f (fun W l o o' h=>y2K (fun a e hn=>Nat.lt_of_lt_of_le (hbl a e hn) hx1.size) W l o o' h) (Below.refl _ _) (fun _=>rfl)
  (fun pre W=>((Boxed W w.heap.size 43 (.slice bo n cap')∧Boxed W (w.heap.size+1) 4 (.bool false))∧Below w.heap.size w W)∧ ∀x∈pre,q3O (f x) (g x)=true)
  (fun c pre W=>(Boxed W (w.heap.size+1) 4 (.bool false)∧Below w.heap.size w W)∧c= .ret∧ ∃x:_root_.Fin n,q3O (f x) (g x)=false)
  (OwnFrom.and (OwnFrom.and (OwnFrom.and (Own.from (boxed_own _ _ _) _) (Own.from (boxed_own _ _ _) _)) (ownFrom_below (Nat.le_refl _) (by omega))) (fun _ _ _ _ hs _ _=>hs))
  (fun c=>OwnFrom.and (OwnFrom.and (Own.from (boxed_own _ _ _) _) (ownFrom_below (Nat.le_refl _) (by omega))) (fun _ _ _ _ hs _ _=>hs))
  ⟨⟨⟨b0,b1⟩,hx1⟩,fun x hx=>by cases hx⟩
  (fun x a' W=> ∃Bx,Blk W Bx 85 #[.string ⟨(f x).ty.toArray⟩,.string ⟨(f x).da.toArray⟩,.float .f64 (f x).we]∧a'={tmps:=#[.slice ao n cap,.slice bo n cap',undef,.pointer (some ⟨w.heap.size,0,none⟩),.pointer (some ⟨w.heap.size+1,0,none⟩),.int .i64 (x.val:Int),.pointer (some ⟨Bx,0,none⟩),.slice ao n cap,.int .i64 (n:Int),.slice bo n cap',.int .i64 (n:Int),.bool false,.slice ao n cap,
   .func (.func 188) #[] #[.pointer (some ⟨w.heap.size+1+1,0,none⟩)],.int .i64 (x.val:Int),.agg #[.string ⟨(f x).ty.toArray⟩,.string ⟨(f x).da.toArray⟩,.float .f64 (f x).we],undef,undef,undef,undef,undef,undef,undef],defers:=[]})
  (fun x a' _ X Y row hs hg hr=>by obtain ⟨Bx,h1,h2⟩:=hs;exact ⟨Bx,y0I h1 hg (fun r e=>(hr r e).2),h2⟩)
  ?assign ?body ?done ?stop
 case assign=>
  rintro l pre x W K ⟨⟨⟨bB,bR⟩,hBl⟩,hpre⟩ hK;have hsf:=q1T
  gi_wp2
  exact hK _ _ ((KeepsOthers.alloc _ _).from _) (fun hn=>z1k (q0B W _) fun a e=>Nat.lt_of_lt_of_le (hbl a e (by omega)) hBl.size) ⟨⟨⟨bB.alloc _,bR.alloc _⟩,hBl.alloc hBl.size _⟩,hpre⟩ ⟨W.heap.size,Blk.new W _ _,rfl⟩
 case body=>
  rintro l pre x a' W hl ⟨r,hr⟩ ⟨⟨⟨bB,bR⟩,hBl⟩,hpre⟩ ⟨Bx,hBx,rfl⟩ hlt;have cB:=bB.cell;have cR:=bR.cell;have fR:=bR.frozen;have hxn:=x.isLt;obtain ⟨bb,off,rfl,c0,c1,c2⟩:=(hb.ext hBl).at hxn;have hgx:=HG.out x;have hfx:=HF.out x;rw[←hgx] at c0 c1 c2;have d0:=hBx.cell 0;have d1:=hBx.cell 1;have d2:=hBx.cell 2;have hki:(x.val:Int)<(n:Int):=by omega
  have HS:=η26 (y0O (f x) (g x));obtain ⟨z,hz⟩: ∃z,q3O (f x) (g x)=z:=⟨_,rfl⟩
  rw[hz] at HS;have HZ:=η26 hz;have HP:=η26 hpre;have HBl:=η26 hBl;have HbB:=η26 bB;have HbR:=η26 bR;have HK:Hid (∀W',Ext W W'→KpN ao n W W'):=η26 fun W' h hn=>z1k h fun a e=>Nat.lt_of_lt_of_le (hbl a e (by omega)) hBl.size
  clear hz hpre hgx hfx hBl bB bR ha hb hbl hBx;have HKe:Hid (∀W',Ext W W'→KeepsFrom W1.heap.size W W'):=η26 fun W' h=>(KeepsOthers.of_grownBy (q6z h) (fun j o ej=>by cases ej)).from _
  have HBo:Hid (∀W',Ext W W'→Boxed W' w.heap.size 43 (.slice (some ⟨bb,off,none⟩) n cap')):=η26 fun W' h=>(h.block _ HbB.out.lt).trans HbB.out
  have hmix:Tryz.prog.follows .mixedOrders=true:=by kernel_rfl
  cases z with
  | true =>
   gi_wp2
   gi_region_with_o (refine ⟨trivial,?_⟩;gi_at_call 134;refine (CallsIn.inRound l (callsIn_wide.2 (HS.out _))).mono ?_;rintro e w2 ⟨rfl,hx2⟩;have HX2:Hid (Ext W w2):=η26 (((Ext.refl W).drew).trans hx2);have hR2:Boxed w2 (w.heap.size+1) 4 (.bool false):=(HX2.out.block _ HbR.out.lt).trans HbR.out;have cR2:=hR2.cell;have fR2:=hR2.frozen;have HR2:=η26 hR2;clear hx2 hR2)
   all_goals
    gi_wp2
    exact ⟨HKe.out _ HX2.out,HK.out _ HX2.out,⟨⟨HBo.out _ HX2.out,HR2.out⟩,HBl.out.trans (HX2.out.mono HBl.out.size)⟩,fun y hy=>by
     rcases List.mem_append.1 hy with hy|hy
     ·exact HP.out y hy
     ·rw[List.mem_singleton.1 hy];exact HZ.out⟩
  | false=>
   gi_wp2
   gi_region_with_o (refine ⟨trivial,?_⟩;gi_at_call 134;refine (CallsIn.inRound l (callsIn_wide.2 (HS.out _))).mono ?_;rintro e w2 ⟨rfl,hx2⟩;have HX2:Hid (Ext W w2):=η26 (((Ext.refl W).drew).trans hx2);have hR2:Boxed w2 (w.heap.size+1) 4 (.bool false):=(HX2.out.block _ HbR.out.lt).trans HbR.out;have cR2:=hR2.cell;have fR2:=hR2.frozen;have HR2:=η26 hR2;clear hx2 hR2)
   all_goals
    gi_wp2
    exact ⟨(HKe.out _ HX2.out).trans ((KeepsOthers.setCell _ _ _).from _),⟨HR2.out.set _,(HBl.out.trans (HX2.out.mono HBl.out.size)).setCell (p:=⟨w.heap.size+1,0,none⟩) (by simp) _⟩,rfl,x,HZ.out⟩
 case done=>
  rintro D ys W hD rfl ⟨⟨⟨bB,bR⟩,hBl⟩,hpre⟩ hK;have cR:=bR.cell;have fR:=bR.frozen;have hsame:q0v A B=true:=z3d (by omega) fun i hi=>by
   have h1:=hpre ⟨i,by omega⟩ (by rw[z9C];exact List.mem_finRange _);have h2:=sameEv_iff.1 h1;rw[HF.out,HG.out] at h2;exact h2
  gi_wp2
  have e1:(W.setCell ⟨w.heap.size+1,0,none⟩ (.bool true)).heap[D]? =some (.deferred (some [])):=(KeepsOthers.setCell _ _ _).same D _ hK rfl;have e7:((W.setCell ⟨w.heap.size+1,0,none⟩ (.bool true)).putObj D (.deferred none)).cell? ⟨w.heap.size+1,0,none⟩=some (.bool true):=cell_kept (bR.set _).cell (grownBy_putObj' _ D (.deferred none)) (fun r e=>by cases e;exact ⟨_,e1,rfl⟩);refine ⟨by simp,.inl ⟨_,_,rfl,run_takeDeferred e1,?_⟩⟩;refine ⟨.bool true,?_,by rw[hsame],(hBl.setCell (p:=⟨w.heap.size+1,0,none⟩) (by simp) _).trans (belowK_b (w:=w) (Nat.le_refl _) _ D _ _ (by omega) e1 rfl rfl)⟩;rw[q0e rfl]
  go_simp
 case stop=>
  rintro D c pre W hD _ ⟨⟨bR,hBl⟩,rfl,x,hx⟩ hK;have hdiff:q0v A B=false:=z4W (i:=x.val) fun h=>by
   rw[HF.out,HG.out] at hx;rw[sameEv_iff.2 h] at hx
   cases hx
  gi_wp2
  have e7:(W.putObj D (.deferred none)).cell? ⟨w.heap.size+1,0,none⟩=some (.bool false):=cell_kept bR.cell (grownBy_putObj' _ D (.deferred none)) (fun r e=>by cases e;exact ⟨_,hK,rfl⟩);refine ⟨by simp,.inl ⟨_,_,rfl,run_takeDeferred hK,?_⟩⟩;refine ⟨.bool false,?_,by rw[hdiff],hBl.trans (belowK_b (w:=w) (Nat.le_refl _) _ D _ _ (by omega) hK rfl rfl)⟩;rw[q0e rfl]
  go_simp
end
section
open Go.RowKit
structure Acm where
 kd:Int
 st:List UInt8
 a:Int
 b:Int
 ao:Option Addr
 n:Nat
 cap:Nat
 L:List Ev
def ac0 :Acm:=⟨0,[],0,0,none,0,0,[]⟩
def acc (x:Acm):List Value:=[.int .u8 x.kd,.string ⟨x.st.toArray⟩,.int .i64 x.a,.int .i64 x.b,.slice x.ao x.n x.cap]
def y1M (A:List Acm):List Value:=(A.map acc).flatten
theorem q7R (x:Acm) (A:List Acm):y1M (x::A)=acc x++y1M A:=rfl
theorem q4u : ∀(A:List Acm) (i j:Nat),i<A.length→j<5→(y1M A)[i*5+j]? =(acc (A.getD i ac0))[j]?
 |[],i,j,h,_=>by simp at h
 | k::A,0,j,_,hj=>by
  rw[q7R,List.getElem?_append_left (by simp[acc];omega)];simp
 | k::A,i+1,j,h,hj=>by
  rw[q7R,List.getElem?_append_right (by simp[acc];omega),show (i+1)*5+j-(acc k).length=i*5+j from by simp[acc];omega,q4u A i j (by simpa using h) hj];simp
structure y1m (x:Acm):Prop where
 k0:0≤x.kd
 k1:x.kd≤255
 s:x.st.length≤9223372036854775807
 a0: -9223372036854775808≤x.a
 a1:x.a≤9223372036854775807
 b0: -9223372036854775808≤x.b
 b1:x.b≤9223372036854775807
 e: ∀e∈x.L,e.ty.length≤9223372036854775807∧e.da.length≤9223372036854775807∧e.we<18446744073709551616
structure Acs (w:World) (ao:Option Addr) (n cap:Nat) (A:List Acm):Prop where
 len:A.length=n
 fits:n≤cap
 bound:cap≤9223372036854775807
 nil:ao=none→cap=0
 rd:Rd w ao (y1M A)
 ev: ∀x∈A,Evs w x.ao x.n x.cap x.L
 ok: ∀x∈A,y1m x
theorem Acs.ext {w w':World} {ao:Option Addr} {n cap:Nat} {A:List Acm} (h:Acs w ao n cap A) (k:Ext w w'):Acs w' ao n cap A:=⟨h.len,h.fits,h.bound,h.nil,h.rd.ext k,fun x hx=>(h.ev x hx).ext k,h.ok⟩
theorem z0Z {α:Type} {A:List α} {i:Nat} {d:α} (h:i<A.length):A.getD i d∈A:=by rw[List.getD_eq_getElem?_getD,List.getElem?_eq_getElem h];exact List.getElem_mem h
theorem Acs.at {w:World} {ao:Option Addr} {n cap:Nat} {A:List Acm} (h:Acs w ao n cap A) {i:Nat} (hi:i<n):
  ∃ b off,ao=some ⟨b,off,none⟩∧w.cell? ⟨b,off+i*5,none⟩=some (.int .u8 (A.getD i ac0).kd)∧w.cell? ⟨b,off+i*5+1,none⟩=some (.string ⟨(A.getD i ac0).st.toArray⟩)∧w.cell? ⟨b,off+i*5+2,none⟩=some (.int .i64 (A.getD i ac0).a)∧w.cell? ⟨b,off+i*5+3,none⟩=some (.int .i64 (A.getD i ac0).b)∧
   w.cell? ⟨b,off+i*5+4,none⟩=some (.slice (A.getD i ac0).ao (A.getD i ac0).n (A.getD i ac0).cap)∧Evs w (A.getD i ac0).ao (A.getD i ac0).n (A.getD i ac0).cap (A.getD i ac0).L∧y1m (A.getD i ac0):=by
 have hl:=h.len;have hm:A.getD i ac0∈A:=z0Z (by omega);have k0:=q4u A i 0 (by omega) (by decide);have k1:=q4u A i 1 (by omega) (by decide);have k2:=q4u A i 2 (by omega) (by decide);have k3:=q4u A i 3 (by omega) (by decide);have k4:=q4u A i 4 (by omega) (by decide);obtain ⟨b,off,rfl,h0⟩:=h.rd _ _ k0;obtain ⟨_,_,e1,h1⟩:=h.rd _ _ k1
 cases e1;obtain ⟨_,_,e2,h2⟩:=h.rd _ _ k2
 cases e2;obtain ⟨_,_,e3,h3⟩:=h.rd _ _ k3
 cases e3;obtain ⟨_,_,e4,h4⟩:=h.rd _ _ k4
 cases e4;exact ⟨b,off,rfl,h0,h1,h2,h3,h4,h.ev _ hm,h.ok _ hm⟩
def q5S (e:Ev):Bool:=decide (300<e.ty.length)||decide (300<e.da.length)
def q3W (x:Acm):Bool:=decide (300<x.st.length)||decide (20<x.n)||x.L.any q5S
def q6K (A:List Acm) (most:Int):Bool:=A.any q3W||decide (most<(A.length:Int))
theorem z0q {α:Type} {p:α→Bool} {A:List α} {k:Nat} (h:k<A.length) (hk:(A.take k).any p=false) (d:α):(A.take (k+1)).any p=p (A.getD k d):=by
 rw[List.take_succ_eq_append_getElem h,List.any_append,hk,List.getD_eq_getElem?_getD,List.getElem?_eq_getElem h];simp
theorem z9d {ao:Option Addr} {n cap:Nat} {A:List Acm} (most:Int) (w:World) (hx:Acs w ao n cap A):
  Calls Tryz.prog 7 #[.slice ao n cap,.int .i64 most] w fun e w'=>e= .returned (.bool (q6K A most))∧Ext w w':=by
 have HX:=η26 hx;have hlen:=hx.len;have b1:=hx.fits;have b2:=hx.bound;clear hx;go_enter Tryz.func7,Tryz.ntmps7;go_wp2_with fail
 go_loopw [5] (fun i W=> ∃k:Nat,k≤n∧i= .int .i64 (k:Int)∧Hid ((A.take k).any q3W=false)∧Ext w W) (fun i _=>n-(intOf i).toNat)
 case atStart=>exact ⟨0,Nat.zero_le _,rfl,η26 (by simp),Ext.refl _⟩
 case round =>
  obtain ⟨k,hk,rfl,HAn,hb⟩:=hrel;have HB:=η26 hb;by_cases hlt:k<n
  ·have hd:decide ((k:Int)<(n:Int))=true:=decide_eq_true (by omega)
   have hki:(k:Int)<(n:Int):=by omega
   have q8:IntKind.i64.wrap ((k:Int)+1)=(k:Int)+1:=by rw[IntKind.wrap_i64];omega
   obtain ⟨bb,off,rfl,c0,c1,c2,c3,c4,hev,hok⟩:=(HX.out.ext hb).at hlt;have hst:=z0q (k:=k) (A:=A) (by omega) HAn.out ac0;have HSt:=η26 hst;have HGr:Hid (q3W (A.getD k ac0)=true→q6K A most=true):=η26 fun h=>by
    unfold q6K;rw[Bool.or_eq_true]
    left
    exact List.any_eq_true.2 ⟨_,z0Z (by omega),h⟩
   generalize A.getD k ac0=x at*;obtain ⟨kd,st,xa,xb,eao,en,ecap,L⟩:=x;have h1:=hok.s;have hel:=hev.len;have he1:=hev.fits;have he2:=hev.bound;simp only at c0 c1 c2 c3 c4 hev h1 hel he1 he2;have HEv:=η26 hev;have HOk:=η26 hok.e;clear hb hst hev hok;by_cases hs1:300<st.length
   ·have hd1:decide ((300:Int)<(st.length:Int))=true:=decide_eq_true (by omega)
    have HG:=η26 (HGr.out (by unfold q3W;rw[decide_eq_true hs1];rfl));go_wp2_with fail
    (try rw[Exit.noGoto_ret])
    go_ret;exact ⟨by rw[HG.out];rfl,HB.out⟩
   have hd1:decide ((300:Int)<(st.length:Int))=false:=decide_eq_false (by omega);by_cases hs2:20<en
   ·have hd2:decide ((20:Int)<(en:Int))=true:=decide_eq_true (by omega)
    have HG:=η26 (HGr.out (by unfold q3W;rw[decide_eq_true (show 20<(⟨kd,st,xa,xb,eao,en,ecap,L⟩:Acm).n from hs2)];simp));go_wp2_with fail
    (try rw[Exit.noGoto_ret])
    go_ret;exact ⟨by rw[HG.out];rfl,HB.out⟩
   have hd2:decide ((20:Int)<(en:Int))=false:=decide_eq_false (by omega);have HGx:Hid (∀j,j<L.length→q5S (L.getD j ev0)=true→q3W ⟨kd,st,xa,xb,eao,en,ecap,L⟩=true):=η26 fun j hj h=>by
    unfold q3W;rw[Bool.or_eq_true]
    right
    exact List.any_eq_true.2 ⟨_,z0Z hj,h⟩
   have HGn:Hid (L.any q5S=false→q3W ⟨kd,st,xa,xb,eao,en,ecap,L⟩=false):=η26 fun h=>by
    unfold q3W;rw[h,decide_eq_false (show ¬300<(⟨kd,st,xa,xb,eao,en,ecap,L⟩:Acm).st.length from hs1),decide_eq_false (show ¬20<(⟨kd,st,xa,xb,eao,en,ecap,L⟩:Acm).n from hs2)];rfl
   go_wp2_with fail
   go_loopw [6] (fun i W=> ∃j:Nat,j≤en∧i= .int .i64 (j:Int)∧Hid ((L.take j).any q5S=false)∧W=wr) (fun i _=>en-(intOf i).toNat)
   case atStart=>exact ⟨0,Nat.zero_le _,rfl,η26 (by simp),rfl⟩
   case round=>
    obtain ⟨j,hj,rfl,HLn,hwe⟩:=hrel;subst hwe;by_cases hjt:j<en
    ·have hd3:decide ((j:Int)<(en:Int))=true:=decide_eq_true (by omega)
     have hji:(j:Int)<(en:Int):=by omega
     have q9:IntKind.i64.wrap ((j:Int)+1)=(j:Int)+1:=by rw[IntKind.wrap_i64];omega
     obtain ⟨eb,eoff,rfl,e0,e1,e2⟩:=HEv.out.at hjt;have hlt2:=z0q (k:=j) (A:=L) (by omega) HLn.out ev0;have hmm:=HOk.out _ (z0Z (A:=L) (i:=j) (d:=ev0) (by omega));have HLx:=η26 (HGx.out j (by omega));have HL2:=η26 hlt2;generalize L.getD j ev0=ee at*;obtain ⟨ty,da,we⟩:=ee;simp only at e0 e1 e2 hmm;obtain ⟨m1,m2,m3⟩:=hmm;clear hlt2;by_cases ht1:300<ty.length
     ·have hd4:decide ((300:Int)<(ty.length:Int))=true:=decide_eq_true (by omega)
      have HG:=η26 (HGr.out (HLx.out (by unfold q5S;rw[decide_eq_true ht1];rfl)));go_wp2_with fail
      (try rw[Exit.noGoto_ret])
      go_ret;exact ⟨by rw[HG.out];rfl,HB.out⟩
     have hd4:decide ((300:Int)<(ty.length:Int))=false:=decide_eq_false (by omega);by_cases ht2:300<da.length
     ·have hd5:decide ((300:Int)<(da.length:Int))=true:=decide_eq_true (by omega)
      have HG:=η26 (HGr.out (HLx.out (by unfold q5S;rw[decide_eq_true (show 300<(⟨ty,da,we⟩:Ev).da.length from ht2)];simp)));go_wp2_with fail
      (try rw[Exit.noGoto_ret])
      go_ret;exact ⟨by rw[HG.out];rfl,HB.out⟩
     have hd5:decide ((300:Int)<(da.length:Int))=false:=decide_eq_false (by omega);go_wp2_with fail
     go_roundw
     case rel=>exact ⟨j+1,by omega,by go_num,η26 (by rw[HL2.out];unfold q5S;rw[decide_eq_false (show ¬300<(⟨ty,da,we⟩:Ev).ty.length from ht1),decide_eq_false (show ¬300<(⟨ty,da,we⟩:Ev).da.length from ht2)];rfl),trivial⟩
     case measure=>simp[intOf];omega
    ·obtain rfl:j=en:=by omega
     have hd3:decide ((j:Int)<(j:Int))=false:=decide_eq_false (by omega);have hln:L.any q5S=false:=by have:=HLn.out;rwa [List.take_of_length_le (by omega)] at this
     go_wp2_with fail
     go_roundw
     case rel=>exact ⟨k+1,by omega,by go_num,η26 (by rw[HSt.out];exact HGn.out hln),HB.out⟩
     case measure=>simp[intOf];omega
  ·obtain rfl:k=n:=by omega
   have hd:decide ((k:Int)<(k:Int))=false:=decide_eq_false (by omega)
   have HG:Hid (q6K A most=decide (most<(k:Int))):=η26 (by
    unfold q6K;have:=HAn.out;rw[List.take_of_length_le (by omega)] at this
    rw[this,Bool.false_or,hlen])
   clear hb;go_wp2_with fail;go_ret;exact ⟨by rw[HG.out];rfl,HB.out⟩
end
end Go.Proofs.YthdekbmdkpcooaaGreatDoor
