/- Walks. -/
import Derived.Test.YthdekbmdkpcooaaGreatDoorG21CT
import Derived.Test.YthdekbmdkpcooaaGreatDoorG26CT
import Derived.Test.YthdekbmdkpcooaaGreatDoorG27CT
import Derived.Test.YthdekbmdkpcooaaGreatDoorG29CT
import Derived.Test.YthdekbmdkpcooaaGreatDoorG31CT
set_option linter.unusedVariables false
set_option linter.unusedSimpArgs false
set_option maxRecDepth 100000
set_option maxHeartbeats 6400000
namespace Go.Proofs.YthdekbmdkpcooaaGreatDoor
theorem η32 {p:Prop} (h:p):Go.RowKit.Hid p:=Lib.hid h
section
open Go.RowKit
def y1f (r:Option (Ev×List UInt8)):Value:=match r with
 |some (e,r)=> .tuple #[evV e,.string ⟨r.toArray⟩,.bool true]
 |none=> .tuple #[evV ev0,.string ⟨#[]⟩,.bool false]
theorem q3o (W:World) (a:Addr) (b:Nat) (m:Go.Mode):(store a (.float .f64 b) m).run Tryz.prog W=stored Tryz.prog W a (.float .f64 b) m:=run_store _ _ _ _ _ rfl
theorem q1y {w w1:World} (h:Ext w w1) (a b c:Value):Ext w (((w1.setCell ⟨w.heap.size,0,none⟩ a).setCell ⟨w.heap.size,1,none⟩ b).setCell ⟨w.heap.size,2,none⟩ c):=
 ((h.setCell (p:=⟨w.heap.size,0,none⟩) (Nat.le_refl _) a).setCell (p:=⟨w.heap.size,1,none⟩) (Nat.le_refl _) b).setCell (p:=⟨w.heap.size,2,none⟩) (Nat.le_refl _) c
theorem z8r (s:List UInt8) (w:World) (hl:s.length≤4611686018427387903):
  Calls Tryz.prog 96 #[.string ⟨s.toArray⟩] w fun e w'=>e= .returned (y1f (rdE s))∧Ext w w':=by
 have HR1:=η32 (fun W=>z1Q s W hl);have HR2:=η32 (fun W=>z1Q (rdR s) W (by have:=q7W s;omega));have hl1:=z2m s;have hl2:=z2m (rdR s);have hl3:=q7W s;have hl4:=q7W (rdR s);have HCk:=η32 (fun b W=>q8z (rdT s) (rdT (rdR s)) .f64 b W (by omega) (by omega));have HX:=η32 (q0B w (.cells #[.string ⟨#[]⟩,.string ⟨#[]⟩,.float .f64 0] 85));have HB0:=η32 (Blk.new w 85 #[.string ⟨#[]⟩,.string ⟨#[]⟩,.float .f64 0])
 have HS0:Hid (∀(W:World) (a b c:Value),Blk W w.heap.size 85 #[a,b,c]→ ∀a' b',W.cell? ⟨w.heap.size,0,none⟩=some a∧W.cell? ⟨w.heap.size,1,none⟩=some b∧W.cell? ⟨w.heap.size,2,none⟩=some c∧
   W.frozen? ⟨w.heap.size,0,none⟩=false∧W.frozen? ⟨w.heap.size,1,none⟩=false∧W.frozen? ⟨w.heap.size,2,none⟩=false∧((W.setCell ⟨w.heap.size,0,none⟩ a').setCell ⟨w.heap.size,1,none⟩ b').frozen? ⟨w.heap.size,2,none⟩=false∧
   ((W.setCell ⟨w.heap.size,0,none⟩ a').setCell ⟨w.heap.size,1,none⟩ b').cell? ⟨w.heap.size,2,none⟩=some c):=η32 fun W a b c h a' b'=>by
  have h2:=(h.set 0 a').set 1 b';exact ⟨h.cell 0,h.cell 1,h.cell 2,h.free 0,h.free 1,h.free 2,h2.free 2,h2.cell 2⟩
 have hsf:=q3o;by_cases h1:q7Z s=true
 case neg=>
  rw[Bool.not_eq_true] at h1;have HE:Hid (rdE s=none):=η32 (by unfold rdE;rw[h1];simp);rw[h1] at HR1;go_enter Tryz.func96,Tryz.ntmps96;go_wp2_with fail;refine (HR1.out _).mono ?_;rintro e w1 ⟨rfl,hx⟩;have HB1:=η32 (HB0.out.ext hx);have HX1:=η32 (HX.out.trans hx);clear hx;obtain ⟨c0,c1,c2,f0,f1,f2,g2,d2⟩:=HS0.out w1 _ _ _ HB1.out (.string ⟨#[]⟩) (.string ⟨#[]⟩);go_wp2_with fail
  ((try simp only[Exit.inBlock,Exit.then]);refine bodyPost_ret (v:= .tuple #[.agg #[.string ⟨#[]⟩,.string ⟨#[]⟩,.float .f64 0],.string ⟨#[]⟩,.bool false]) (by rw[q0Q rfl];go_simp) rfl ?_)
  exact ⟨by rw[HE.out];rfl,q1y HX1.out _ _ _⟩
 rw[h1] at HR1;by_cases h2:q7Z (rdR s)=true
 case neg=>
  rw[Bool.not_eq_true] at h2;have HE:Hid (rdE s=none):=η32 (by unfold rdE;rw[h2];simp);rw[h2] at HR2;go_enter Tryz.func96,Tryz.ntmps96;go_wp2_with fail;refine (HR1.out _).mono ?_;rintro e w1 ⟨rfl,hx⟩;have HB1:=η32 (HB0.out.ext hx);have HX1:=η32 (HX.out.trans hx);clear hx;go_wp2_with fail;refine (HR2.out _).mono ?_;rintro e w2 ⟨rfl,hx⟩;have HB2:=η32 (HB1.out.ext hx);have HX2:=η32 (HX1.out.trans hx);clear hx;obtain ⟨c0,c1,c2,f0,f1,f2,g2,d2⟩:=HS0.out w2 _ _ _ HB2.out (.string ⟨#[]⟩) (.string ⟨#[]⟩);go_wp2_with fail
  ((try simp only[Exit.inBlock,Exit.then]);refine bodyPost_ret (v:= .tuple #[.agg #[.string ⟨#[]⟩,.string ⟨#[]⟩,.float .f64 0],.string ⟨#[]⟩,.bool false]) (by rw[q0Q rfl];go_simp) rfl ?_)
  exact ⟨by rw[HE.out];rfl,q1y HX2.out _ _ _⟩
 rw[h2] at HR2;obtain ⟨R,hR⟩: ∃R,rdR (rdR s)=R:=⟨_,rfl⟩
 rw[hR] at HR2 hl4;obtain ⟨T1,hT1⟩: ∃T,rdT s=T:=⟨_,rfl⟩
 obtain ⟨T2,hT2⟩: ∃T,rdT (rdR s)=T:=⟨_,rfl⟩
 by_cases h3:R.length<8
 ·have HE:Hid (rdE s=none):=η32 (by unfold rdE;rw[if_neg (by rw[hR];omega)])
  have hd:decide ((R.length:Int)<8)=true:=decide_eq_true (by omega);go_enter Tryz.func96,Tryz.ntmps96;go_wp2_with fail;refine (HR1.out _).mono ?_;rintro e w1 ⟨rfl,hx⟩;have HB1:=η32 (HB0.out.ext hx);have HX1:=η32 (HX.out.trans hx);clear hx;go_wp2_with fail;refine (HR2.out _).mono ?_;rintro e w2 ⟨rfl,hx⟩;have HB2:=η32 (HB1.out.ext hx);have HX2:=η32 (HX1.out.trans hx);clear hx;obtain ⟨c0,c1,c2,f0,f1,f2,g2,d2⟩:=HS0.out w2 _ _ _ HB2.out (.string ⟨#[]⟩) (.string ⟨#[]⟩);go_wp2_with fail
  ((try simp only[Exit.inBlock,Exit.then]);refine bodyPost_ret (v:= .tuple #[.agg #[.string ⟨#[]⟩,.string ⟨#[]⟩,.float .f64 0],.string ⟨#[]⟩,.bool false]) (by rw[q0Q rfl];go_simp) rfl ?_)
  exact ⟨by rw[HE.out];rfl,q1y HX2.out _ _ _⟩
 have hd:decide ((R.length:Int)<8)=false:=decide_eq_false (by omega);have s1:=q4a R 8 8 rfl (by omega);have s2:=q2q R 8 8 rfl (by omega);have l8:(R.take 8).length=8:=by rw[List.length_take];omega
 have HG:=η32 (fun W=>q8S (R.take 8) W (by omega));rw[show (R.take 8).take 8=R.take 8 from List.take_of_length_le (by omega)] at HG;have hub:=q1p (R.take 8);rw[l8] at hub;obtain ⟨b,hb⟩: ∃b,q1F (R.take 8)=b:=⟨_,rfl⟩
 rw[hb] at HG;have hfb:=q9x b;rw[hT1,hT2] at HCk;rw[hT1] at HR1;rw[hT2] at HR2;by_cases h4:q0t T1 T2=0
 case neg=>
  have HE:Hid (rdE s=none):=η32 (by unfold rdE;rw[if_neg (by rw[hT1,hT2];exact fun h=>h4 h.2.2.2)]);have hcn:(q0t T1 T2 !=0)=true:=by simpa using h4
  obtain ⟨E,hE⟩: ∃E,q0t T1 T2=E:=⟨_,rfl⟩
  rw[hE] at HCk hcn;clear hE hb hub hT1 hT2 hR h1 h2 h3 h4;go_enter Tryz.func96,Tryz.ntmps96;go_wp2_with fail;refine (HR1.out _).mono ?_;rintro e w1 ⟨rfl,hx⟩;have HB1:=η32 (HB0.out.ext hx);have HX1:=η32 (HX.out.trans hx);clear hx;go_wp2_with fail;refine (HR2.out _).mono ?_;rintro e w2 ⟨rfl,hx⟩;have HB2:=η32 (HB1.out.ext hx);have HX2:=η32 (HX1.out.trans hx);clear hx;go_wp2_with fail;refine (HG.out _).mono ?_;rintro e w3 ⟨rfl,hx⟩;have HB3:=η32 (HB2.out.ext hx);have HX3:=η32 (HX2.out.trans hx);clear hx;obtain ⟨c0,c1,c2,f0,f1,f2,g2,d2⟩:=HS0.out w3 _ _ _ HB3.out (.string ⟨T1.toArray⟩) (.string ⟨T2.toArray⟩);go_wp2_with fail;refine (HCk.out b _).mono ?_;rintro e w4 ⟨rfl,hx⟩;have HB4:=η32 ((((HB3.out.set 0 (.string ⟨T1.toArray⟩)).set 1 (.string ⟨T2.toArray⟩)).set 2 (.float .f64 b)).ext hx);have HX4:=η32 ((q1y HX3.out (.string ⟨T1.toArray⟩) (.string ⟨T2.toArray⟩) (.float .f64 b)).trans hx)
  clear hx c0 c1 c2 f0 f1 f2 g2 d2;obtain ⟨c0,c1,c2,f0,f1,f2,g2,d2⟩:=HS0.out w4 _ _ _ HB4.out (.string ⟨#[]⟩) (.string ⟨#[]⟩);go_wp2_with fail
  ((try simp only[Exit.inBlock,Exit.then]);refine bodyPost_ret (v:= .tuple #[.agg #[.string ⟨#[]⟩,.string ⟨#[]⟩,.float .f64 0],.string ⟨#[]⟩,.bool false]) (by rw[q0Q rfl];go_simp) rfl ?_)
  exact ⟨by rw[HE.out];rfl,q1y HX4.out _ _ _⟩
 have HE:Hid (rdE s=some (⟨T1,T2,b⟩,R.drop 8)):=η32 (by unfold rdE;rw[hT1,hT2,hR,if_pos ⟨h1,h2,by omega,h4⟩,hb]);rw[h4] at HCk;clear hb hub hT1 hT2 hR h1 h2 h3 h4;go_enter Tryz.func96,Tryz.ntmps96;go_wp2_with fail;refine (HR1.out _).mono ?_;rintro e w1 ⟨rfl,hx⟩;have HB1:=η32 (HB0.out.ext hx);have HX1:=η32 (HX.out.trans hx);clear hx;go_wp2_with fail;refine (HR2.out _).mono ?_;rintro e w2 ⟨rfl,hx⟩;have HB2:=η32 (HB1.out.ext hx);have HX2:=η32 (HX1.out.trans hx);clear hx;go_wp2_with fail;refine (HG.out _).mono ?_;rintro e w3 ⟨rfl,hx⟩;have HB3:=η32 (HB2.out.ext hx);have HX3:=η32 (HX2.out.trans hx);clear hx;obtain ⟨c0,c1,c2,f0,f1,f2,g2,d2⟩:=HS0.out w3 _ _ _ HB3.out (.string ⟨T1.toArray⟩) (.string ⟨T2.toArray⟩);go_wp2_with fail;refine (HCk.out b _).mono ?_;rintro e w4 ⟨rfl,hx⟩;have HB4':=η32 ((((HB3.out.set 0 (.string ⟨T1.toArray⟩)).set 1 (.string ⟨T2.toArray⟩)).set 2 (.float .f64 b)).ext hx)
 have HB4:=η32 (HB4'.out.ext (Ext.refl w4).drew);have HX4:=η32 (((q1y HX3.out (.string ⟨T1.toArray⟩) (.string ⟨T2.toArray⟩) (.float .f64 b)).trans hx).drew);clear hx c0 c1 c2 f0 f1 f2 g2 d2;obtain ⟨c0,c1,c2,f0,f1,f2,g2,d2⟩:=HS0.out w4.drew _ _ _ HB4.out (.string ⟨T1.toArray⟩) (.string ⟨T2.toArray⟩);obtain ⟨c0',c1',c2',f0',f1',f2',g2',d2'⟩:=HS0.out w4 _ _ _ HB4'.out (.string ⟨T1.toArray⟩) (.string ⟨T2.toArray⟩);go_wp2_with fail;refine q1f (fun W=>W.cell? ⟨w.heap.size,0,none⟩=some (.string ⟨T1.toArray⟩)∧W.cell? ⟨w.heap.size,1,none⟩=some (.string ⟨T2.toArray⟩)∧W.cell? ⟨w.heap.size,2,none⟩=some (.float .f64 b)) 3 (by kernel_rfl) ⟨c0,c1,c2⟩ (fun hHeld=>?_);refine q0j (i:=0) (v:=?_) rfl (by kernel_rfl) (fun _ _ _ h=>h) (Or.inl ⟨by rfl,?_⟩) hHeld (fun hHeld=>?_)
 rotate_left
 ·(intro w hSw;(try dsimp only at hSw);go_simp;try with_reducible rfl)
 try simp only[Act.put,List.setIfInBounds_toArray,List.set_cons_zero,List.set_cons_succ]
 refine q0C (i:=1) (v:=?_) rfl (by kernel_rfl) (fun _ _ _ h=>h) (Or.inl ⟨by rfl,?_⟩) hHeld (fun hHeld=>?_)
 rotate_left
 ·(intro w hSw;(try dsimp only at hSw);go_simp;try with_reducible rfl)
 try simp only[Act.put,List.setIfInBounds_toArray,List.set_cons_zero,List.set_cons_succ]
 refine q0C (i:=2) (v:=?_) rfl (by kernel_rfl) (fun _ _ _ h=>h) (Or.inl ⟨by rfl,?_⟩) hHeld (fun hHeld=>?_)
 rotate_left
 ·(intro w hSw;(try dsimp only at hSw);go_simp;try with_reducible rfl)
 try simp only[Act.put,List.setIfInBounds_toArray,List.set_cons_zero,List.set_cons_succ]
 refine q1t (by kernel_rfl) ?_
 try simp only[List.drop_succ_cons,List.drop_zero]
 clear hHeld;go_wp2_with fail
 ((try simp only[Exit.inBlock,Exit.then]);refine bodyPost_ret (v:= .tuple #[.agg #[.string ⟨T1.toArray⟩,.string ⟨T2.toArray⟩,.float .f64 b],.string ⟨(R.drop 8).toArray⟩,.bool true]) (by rw[q0Q rfl];go_simp) rfl ?_)
 exact ⟨by rw[HE.out];rfl,q1y HX4.out _ _ _⟩
end
section
open Go.RowKit
theorem z0W (e:Ev) (L:List Ev):q6n (e::L)=evc e++q6n L:=rfl
theorem q8Z : ∀(L:List Ev) (i j:Nat),i<L.length→j<3→(q6n L)[i*3+j]? =(evc (L.getD i ev0))[j]?
 |[],i,j,h,_=>by simp at h
 | k::L,0,j,_,hj=>by
  rw[z0W,List.getElem?_append_left (by simp[evc];omega)];simp
 | k::L,i+1,j,h,hj=>by
  rw[z0W,List.getElem?_append_right (by simp[evc];omega),show (i+1)*3+j-(evc k).length=i*3+j from by simp[evc];omega,q8Z L i j (by simpa using h) hj];simp
structure Evs (w:World) (ao:Option Addr) (n cap:Nat) (L:List Ev):Prop where
 len:L.length=n
 fits:n≤cap
 bound:cap≤9223372036854775807
 nil:ao=none→cap=0
 rd:Rd w ao (q6n L)
theorem Evs.ext {w w':World} {ao:Option Addr} {n cap:Nat} {L:List Ev} (h:Evs w ao n cap L) (k:Ext w w'):Evs w' ao n cap L:=⟨h.len,h.fits,h.bound,h.nil,h.rd.ext k⟩
theorem Evs.at {w:World} {ao:Option Addr} {n cap:Nat} {L:List Ev} (h:Evs w ao n cap L) {i:Nat} (hi:i<n):
  ∃b off,ao=some ⟨b,off,none⟩∧w.cell? ⟨b,off+i*3,none⟩=some (.string ⟨(L.getD i ev0).ty.toArray⟩)∧w.cell? ⟨b,off+i*3+1,none⟩=some (.string ⟨(L.getD i ev0).da.toArray⟩)∧w.cell? ⟨b,off+i*3+2,none⟩=some (.float .f64 (L.getD i ev0).we):=by
 have hl:=h.len;have k0:=q8Z L i 0 (by omega) (by decide);have k1:=q8Z L i 1 (by omega) (by decide);have k2:=q8Z L i 2 (by omega) (by decide);obtain ⟨b,off,rfl,h0⟩:=h.rd _ _ k0;obtain ⟨_,_,e1,h1⟩:=h.rd _ _ k1
 cases e1;obtain ⟨_,_,e2,h2⟩:=h.rd _ _ k2
 cases e2;exact ⟨b,off,rfl,h0,h1,h2⟩
theorem Evs.of_own {w:World} {B:Nat} {e:TypeId} {v:Value} {L:List Ev} (h:Own w B e 3 v L.length (q6n L)): ∃ao cap,v= .slice ao L.length cap∧Evs w ao L.length cap L:=by
 obtain ⟨ao,cap,rfl,h1,h2,h3,h4⟩:=h.rd;exact ⟨ao,cap,rfl,rfl,h1,h2,h3,h4⟩
theorem q9y : ∀(L:List Ev) (k:Nat),k<L.length→q7Y (L.take k)=0→q7Y L=if q0t (L.getD k ev0).ty (L.getD k ev0).da=0 then q7Y (L.drop (k+1)) else q0t (L.getD k ev0).ty (L.getD k ev0).da
 |[],k,h,_=>by simp at h
 |e::L,0,_,_=>by simp[q7Y]
 | e ::L,k+1,h,h0=>by
  rw[List.take_succ_cons,q7Y] at h0
  split at h0
  ·rename_i h1
   rw[q7Y,if_pos h1,q9y L k (by simpa using h) h0];simp
  ·rename_i h1;exact absurd h0 h1
theorem z0F : ∀(L:List Ev) (e:Ev),q7Y L=0→q7Y (L++[e])=q0t e.ty e.da
 | [],e,_=>by
  rw[List.nil_append,q7Y,q7Y]
  split
  ·rename_i h;exact h.symm
  ·rfl
 | x::L,e,h=>by
  rw[q7Y] at h
  split at h
  ·rename_i h1;rw[List.cons_append,q7Y,if_pos h1,z0F L e h]
  ·rename_i h1;exact absurd h h1
def q4g (L:List Ev):Prop:= ∀e∈L,e.ty.length≤4611686018427387903∧e.da.length≤4611686018427387903
theorem q9F {ao:Option Addr} {n cap:Nat} {L:List Ev} (st:List UInt8) (fi:Int) (w:World) (hx:Evs w ao n cap L) (hst:st.length≤4611686018427387903) (hL:q4g L):
  Calls Tryz.prog 34 #[.agg #[.string ⟨st.toArray⟩,.int .i64 fi,.slice ao n cap]] w fun e w'=>e= .returned (.int .i64 (q0i st fi L))∧Ext w w':=by
 have b1:=hx.fits;have b2:=hx.bound;have hlen:=hx.len;have HX:=η32 (q0B w (.cells #[.string ⟨st.toArray⟩,.int .i64 fi,.slice ao n cap] 96));have hbk:=Blk.new w 96 #[.string ⟨st.toArray⟩,.int .i64 fi,.slice ao n cap];have HE:=η32 hx;have HL:=η32 hL;clear hx hL;by_cases h1:st=[]
 ·subst h1
  have HN:Hid (q0i [] fi L=2):=η32 (by unfold q0i;rw[if_pos (.inl rfl)]);clear hbk;go_enter Tryz.func34,Tryz.ntmps34;go_wp2_with fail
  go_step3
  go_wp2_with fail;rw[Exit.noGoto_ret];go_ret;exact ⟨by rw[HN.out];rfl,HX.out⟩
 have h1b:(st==[])=false:=beq_eq_false_iff_ne.2 h1;by_cases h2:n=0
 ·subst h2
  have HN:Hid (q0i st fi L=2):=η32 (by unfold q0i;rw[if_pos (.inr (List.eq_nil_of_length_eq_zero hlen))]);clear hbk h1 hlen;go_enter Tryz.func34,Tryz.ntmps34;go_wp2_with fail
  go_step3
  go_wp2_with fail;rw[Exit.noGoto_ret];go_ret;exact ⟨by rw[HN.out];rfl,HX.out⟩
 have h2b:((n:Int)==0)=false:=by simpa using h2
 have hLn:L≠[]:=fun e=>h2 (by rw[←hlen,e];rfl)
 have hno:¬(st=[]∨L=[]):=fun h=>h.elim h1 hLn
 by_cases h3:32<st.length
 ·have HN:Hid (q0i st fi L=3):=η32 (by unfold q0i;rw[if_neg hno,if_pos (.inl h3)])
  have hd:decide ((32:Int)<(st.length:Int))=true:=decide_eq_true (by omega);clear hbk h1 h2 hLn hno hlen;go_enter Tryz.func34,Tryz.ntmps34;go_wp2_with fail
  go_step3
  go_wp2_with fail;rw[Exit.noGoto_ret];go_ret;exact ⟨by rw[HN.out];rfl,HX.out⟩
 by_cases h4:8<n
 ·have HN:Hid (q0i st fi L=3):=η32 (by unfold q0i;rw[if_neg hno,if_pos (.inr (by omega))])
  have hd:decide ((8:Int)<(n:Int))=true:=decide_eq_true (by omega);clear hbk h1 h2 hLn hno hlen;go_enter Tryz.func34,Tryz.ntmps34;go_wp2_with fail
  go_step3
  go_wp2_with fail;rw[Exit.noGoto_ret];go_ret;exact ⟨by rw[HN.out];rfl,HX.out⟩
 have hno2:¬(32<st.length∨8<L.length):=by omega
 have hd4:decide ((8:Int)<(n:Int))=false:=decide_eq_false (by omega);have q0:IntKind.i64.wrap (1073741824-(n:Int))=1073741824-(n:Int):=by rw[IntKind.wrap_i64];omega
 by_cases h5:fi<0∨1073741824-(n:Int)<fi
 ·have HN:Hid (q0i st fi L=2):=η32 (by unfold q0i;rw[if_neg hno,if_neg hno2,if_pos (by rw[hlen];exact h5)])
  have hd5:decide (fi<0)=true∨(decide (fi<0)=false∧decide (1073741824-(n:Int)<fi)=true):=by
   by_cases h:fi<0
   ·exact .inl (decide_eq_true h)
   ·exact .inr ⟨decide_eq_false h,decide_eq_true (by omega)⟩
  clear hbk h1 h2 hLn hno hno2 hlen h5;rcases hd5 with hd5|⟨hd5,hd6⟩
  all_goals
   go_enter Tryz.func34,Tryz.ntmps34;go_wp2_with fail
   go_step3
   go_wp2_with fail;rw[Exit.noGoto_ret];go_ret;exact ⟨by rw[HN.out];rfl,HX.out⟩
 have hd5:decide (fi<0)=false:=decide_eq_false (by omega);have hd6:decide (1073741824-(n:Int)<fi)=false:=decide_eq_false (by omega);have HN:Hid (q0i st fi L=q7Y L):=η32 (by unfold q0i;rw[if_neg hno,if_neg hno2,if_neg (by rw[hlen];exact h5)]);have HLe:=η32 hlen;clear hbk h1 h2 hLn hno hno2 hlen h5;go_enter Tryz.func34,Tryz.ntmps34;go_wp2_with fail
 go_step3
 go_wp2_with fail
 go_step3
 go_wp2_with fail
 go_loopw [2,36] (fun e i W=> ∃k:Nat,k≤n∧i= .int .i64 (k:Int)∧e= .int .i64 0∧q7Y (L.take k)=0∧Ext w W) (fun _ i _=>n-(intOf i).toNat)
 case atStart=>exact ⟨0,Nat.zero_le _,rfl,rfl,rfl,HX.out⟩
 case round=>
  obtain ⟨k,hk,rfl,rfl,h0,hb⟩:=hrel;have HBk:=η32 hb;by_cases hlt:k<n
  ·have hd7:decide ((k:Int)<(n:Int))=true:=decide_eq_true (by omega)
   obtain ⟨b,off,rfl,c0,c1,c2⟩:=(HE.out.ext hb).at hlt;have hkL:k<L.length:=by rw[HLe.out];exact hlt
   have hT:L.take (k+1)=L.take k++[L.getD k ev0]:=by
    rw[List.take_succ_eq_append_getElem hkL];simp[List.getD,List.getElem?_eq_getElem hkL]
   have hS:=z0F (L.take k) (L.getD k ev0) h0;rw[←hT] at hS;have HS:=η32 hS;have HSk:=η32 (q9y L k hkL h0);have hmem:L.getD k ev0∈L:=by rw[List.getD_eq_getElem?_getD,List.getElem?_eq_getElem hkL];exact List.getElem_mem hkL
   obtain ⟨m1,m2⟩:=HL.out _ hmem;have HX1:=η32 (q0B wr (.cells #[.string ⟨(L.getD k ev0).ty.toArray⟩,.string ⟨(L.getD k ev0).da.toArray⟩,.float .f64 (L.getD k ev0).we] 85));have q1:IntKind.i64.wrap ((k:Int)+1)=(k:Int)+1:=by rw[IntKind.wrap_i64];omega
   generalize L.getD k ev0=y at*;obtain ⟨y1,y2,y3⟩:=y;have HCk:=η32 (fun W=>q8z y1 y2 .f64 y3 W m1 m2);simp only at c0 c1 c2;have u0:=q0F c0;have u1:=q0F c1;have u2:=q0F c2;have hsf:=q3o;clear hT hkL h0 hS hmem m1 m2 hb;go_wp2_with fail;refine (HCk.out _).mono ?_;rintro e w1 ⟨rfl,hx⟩;have HX2:=η32 ((HBk.out.trans HX1.out).trans hx);clear hx;by_cases hc:q0t y1 y2=0
   ·have HS':Hid (q7Y (L.take (k+1))=0):=η32 (by rw[HS.out];exact hc)
    rw[hc];go_wp2_with fail
    go_roundw
    case rel=>exact ⟨k+1,by omega,by go_num,rfl,HS'.out,HX2.out⟩
    case measure=>simp[intOf];omega
   ·have HN2:Hid (q7Y L=q0t y1 y2):=η32 (by rw[HSk.out,if_neg hc])
    have hcn:(q0t y1 y2==0)=false:=by simpa using hc
    clear hc;go_wp2_with fail;rw[Exit.noGoto_ret];go_ret;exact ⟨by rw[HN.out,HN2.out];rfl,HX2.out⟩
  ·obtain rfl:k=n:=by omega
   have hd7:decide ((k:Int)<(k:Int))=false:=decide_eq_false (by omega);have HN2:Hid (q7Y L=0):=η32 (by rw[←HLe.out,List.take_length] at h0;exact h0);clear h0 hb;go_wp2_with fail;rw[Exit.noGoto_ret];go_ret;exact ⟨by rw[HN.out,HN2.out];rfl,HBk.out⟩
end
section
open Go.RowKit
theorem q1g {fn:Func} {p u v x:Tmp} {ty:TypeId} (h:fn.results=#[.cell p ty,.tmp u,.tmp v,.tmp x]) (tmps:Array Value) (P:Program) (w:World):
  (results fn tmps).run P w=
   ((asAddr (tmps.getD p undef)).run P w).andThen fun a w₁=>((loadVar ty a).run P w₁).andThen fun y w₂=> .ok (.tuple #[y,tmps.getD u undef,tmps.getD v undef,tmps.getD x undef]) w₂:=by
 simp only[results,h];simp[Sem.run_bind,Result.andThen]
def q6G (s:List UInt8):Value:=if q4m s=true then .tuple #[.agg #[.string ⟨(rdT s).toArray⟩,.int .i64 (q1F ((rdR s).take 8):Int),.slice none 0 0],.int .i64 (((rdR s).getD 8 0).toNat:Int),.string ⟨((rdR s).drop 9).toArray⟩,.bool true]
 else .tuple #[.agg #[.string ⟨#[]⟩,.int .i64 0,.slice none 0 0],.int .i64 0,.string ⟨#[]⟩,.bool false]
theorem z8g (s:List UInt8) (w:World) (hl:s.length≤4611686018427387903):
  Calls Tryz.prog 95 #[.string ⟨s.toArray⟩] w fun e w'=>e= .returned (q6G s)∧Ext w w':=by
 have HR1:=η32 (fun W=>z1Q s W hl);have hl1:=z2m s;have hl3:=q7W s;have HX:=η32 (q0B w (.cells #[.string ⟨#[]⟩,.int .i64 0,.slice none 0 0] 96));have HB0:=η32 (Blk.new w 96 #[.string ⟨#[]⟩,.int .i64 0,.slice none 0 0])
 have HS0:Hid (∀(W:World) (a b c:Value),Blk W w.heap.size 96 #[a,b,c]→ ∀a' b',W.cell? ⟨w.heap.size,0,none⟩=some a∧W.cell? ⟨w.heap.size,1,none⟩=some b∧W.cell? ⟨w.heap.size,2,none⟩=some c∧
   W.frozen? ⟨w.heap.size,0,none⟩=false∧W.frozen? ⟨w.heap.size,1,none⟩=false∧W.frozen? ⟨w.heap.size,2,none⟩=false∧((W.setCell ⟨w.heap.size,0,none⟩ a').setCell ⟨w.heap.size,1,none⟩ b').frozen? ⟨w.heap.size,2,none⟩=false∧
   ((W.setCell ⟨w.heap.size,0,none⟩ a').setCell ⟨w.heap.size,1,none⟩ b').cell? ⟨w.heap.size,2,none⟩=some c):=η32 fun W a b c h a' b'=>by
  have h2:=(h.set 0 a').set 1 b';exact ⟨h.cell 0,h.cell 1,h.cell 2,h.free 0,h.free 1,h.free 2,h2.free 2,h2.cell 2⟩
 by_cases h1:q7Z s=true
 case neg=>
  rw[Bool.not_eq_true] at h1;have HE:Hid (q6G s= .tuple #[.agg #[.string ⟨#[]⟩,.int .i64 0,.slice none 0 0],.int .i64 0,.string ⟨#[]⟩,.bool false]):=η32 (by unfold q6G q4m;rw[h1];rfl);rw[h1] at HR1;go_enter Tryz.func95,Tryz.ntmps95;go_wp2_with fail;refine (HR1.out _).mono ?_;rintro e w1 ⟨rfl,hx⟩;have HB1:=η32 (HB0.out.ext hx);have HX1:=η32 (HX.out.trans hx);clear hx;obtain ⟨c0,c1,c2,f0,f1,f2,g2,d2⟩:=HS0.out w1 _ _ _ HB1.out (.string ⟨#[]⟩) (.int .i64 0);go_wp2_with fail
  ((try simp only[Exit.inBlock,Exit.then]);refine bodyPost_ret (v:= .tuple #[.agg #[.string ⟨#[]⟩,.int .i64 0,.slice none 0 0],.int .i64 0,.string ⟨#[]⟩,.bool false]) (by rw[q1g rfl];go_simp) rfl ?_)
  exact ⟨by rw[HE.out],q1y HX1.out _ _ _⟩
 rw[h1] at HR1;obtain ⟨R,hR⟩: ∃R,rdR s=R:=⟨_,rfl⟩
 rw[hR] at HR1 hl3;by_cases h3:R.length<9
 ·have HE:Hid (q6G s= .tuple #[.agg #[.string ⟨#[]⟩,.int .i64 0,.slice none 0 0],.int .i64 0,.string ⟨#[]⟩,.bool false]):=η32 (by unfold q6G q4m;rw[h1,hR,decide_eq_false (by omega)];rfl)
  have hd:decide ((R.length:Int)<9)=true:=decide_eq_true (by omega);clear hR;go_enter Tryz.func95,Tryz.ntmps95;go_wp2_with fail;refine (HR1.out _).mono ?_;rintro e w1 ⟨rfl,hx⟩;have HB1:=η32 (HB0.out.ext hx);have HX1:=η32 (HX.out.trans hx);clear hx;obtain ⟨c0,c1,c2,f0,f1,f2,g2,d2⟩:=HS0.out w1 _ _ _ HB1.out (.string ⟨#[]⟩) (.int .i64 0);go_wp2_with fail
  ((try simp only[Exit.inBlock,Exit.then]);refine bodyPost_ret (v:= .tuple #[.agg #[.string ⟨#[]⟩,.int .i64 0,.slice none 0 0],.int .i64 0,.string ⟨#[]⟩,.bool false]) (by rw[q1g rfl];go_simp) rfl ?_)
  exact ⟨by rw[HE.out],q1y HX1.out _ _ _⟩
 have hd:decide ((R.length:Int)<9)=false:=decide_eq_false (by omega);have s1:=q4a R 8 8 rfl (by omega);have s2:=q2q R 9 9 rfl (by omega);have l8:(R.take 8).length=8:=by rw[List.length_take];omega
 have HG:=η32 (fun W=>q8S (R.take 8) W (by omega));rw[show (R.take 8).take 8=R.take 8 from List.take_of_length_le (by omega)] at HG;have hub:=q1p (R.take 8);rw[l8] at hub;obtain ⟨b,hb⟩: ∃b,q1F (R.take 8)=b:=⟨_,rfl⟩
 rw[hb] at HG hub;by_cases h4:1073741824<b
 ·have HE:Hid (q6G s= .tuple #[.agg #[.string ⟨#[]⟩,.int .i64 0,.slice none 0 0],.int .i64 0,.string ⟨#[]⟩,.bool false]):=η32 (by unfold q6G q4m;rw[hR,hb,decide_eq_false (p:=b≤1073741824) (by omega),Bool.and_false];rfl)
  have hd2:decide ((1073741824:Int)<(b:Int))=true:=decide_eq_true (by omega);clear hb hub hR h3;go_enter Tryz.func95,Tryz.ntmps95;go_wp2_with fail;refine (HR1.out _).mono ?_;rintro e w1 ⟨rfl,hx⟩;have HB1:=η32 (HB0.out.ext hx);have HX1:=η32 (HX.out.trans hx);clear hx;go_wp2_with fail;refine (HG.out _).mono ?_;rintro e w2 ⟨rfl,hx⟩;have HB2:=η32 (HB1.out.ext hx);have HX2:=η32 (HX1.out.trans hx);clear hx;obtain ⟨c0,c1,c2,f0,f1,f2,g2,d2⟩:=HS0.out w2 _ _ _ HB2.out (.string ⟨#[]⟩) (.int .i64 0);go_wp2_with fail
  ((try simp only[Exit.inBlock,Exit.then]);refine bodyPost_ret (v:= .tuple #[.agg #[.string ⟨#[]⟩,.int .i64 0,.slice none 0 0],.int .i64 0,.string ⟨#[]⟩,.bool false]) (by rw[q1g rfl];go_simp) rfl ?_)
  exact ⟨by rw[HE.out],q1y HX2.out _ _ _⟩
 have hd2:decide ((1073741824:Int)<(b:Int))=false:=decide_eq_false (by omega);obtain ⟨m,hm⟩: ∃m:Nat,(R.getD 8 0).toNat=m:=⟨_,rfl⟩
 have hm9:m<256:=by rw[←hm];exact (R.getD 8 0).toNat_lt
 have hb8:8<(⟨R.toArray⟩:ByteArray).size:=by show 8<R.length;omega
 have e8:((⟨R.toArray⟩:ByteArray)[8]'hb8).toNat=m:=by
  rw[←hm,List.getD_eq_getElem?_getD,List.getElem?_eq_getElem (show 8<R.length by omega)];rfl
 have h8:(8:Int)<(R.length:Int):=by omega
 have q1:IntKind.i64.wrap (b:Int)=(b:Int):=by rw[IntKind.wrap_i64];omega
 have q2:IntKind.i64.wrap (m:Int)=(m:Int):=by rw[IntKind.wrap_i64];omega
 have HE:Hid (q6G s= .tuple #[.agg #[.string ⟨(rdT s).toArray⟩,.int .i64 (b:Int),.slice none 0 0],.int .i64 (m:Int),.string ⟨(R.drop 9).toArray⟩,.bool true]):=η32 (by
  unfold q6G q4m
  rw[hR,hb,h1,hm,decide_eq_true (p:=9≤R.length) (by omega),decide_eq_true (p:=b≤1073741824) (by omega)];rfl)
 obtain ⟨T1,hT1⟩: ∃T,rdT s=T:=⟨_,rfl⟩
 rw[hT1] at HE HR1;clear hb hub hR h3 h4 hT1 hm;go_enter Tryz.func95,Tryz.ntmps95;go_wp2_with fail;refine (HR1.out _).mono ?_;rintro e w1 ⟨rfl,hx⟩;have HB1:=η32 (HB0.out.ext hx);have HX1:=η32 (HX.out.trans hx);clear hx;go_wp2_with fail;refine (HG.out _).mono ?_;rintro e w2 ⟨rfl,hx⟩;have HB2:=η32 (HB1.out.ext hx);have HB2':=η32 (HB2.out.ext (Ext.refl w2).drew);have HX2:=η32 ((HX1.out.trans hx).drew);clear hx;obtain ⟨c0,c1,c2,f0,f1,f2,g2,d2⟩:=HS0.out w2 _ _ _ HB2.out (.string ⟨T1.toArray⟩) (.int .i64 (b:Int));obtain ⟨c0',c1',c2',f0',f1',f2',g2',d2'⟩:=HS0.out w2.drew _ _ _ HB2'.out (.string ⟨T1.toArray⟩) (.int .i64 (b:Int));go_wp2_with fail;refine q1f (fun W=>True) 9 (by kernel_rfl) trivial (fun hHeld=>?_);refine q0C (i:=0) (v:=?_) rfl (by kernel_rfl) (fun _ _ _ h=>h) (Or.inl ⟨by rfl,?_⟩) hHeld (fun hHeld=>?_)
 rotate_left
 ·(intro w hSw;(try dsimp only at hSw);go_simp;try with_reducible rfl)
 try simp only[Act.put,List.setIfInBounds_toArray,List.set_cons_zero,List.set_cons_succ]
 refine q0C (i:=1) (v:=?_) rfl (by kernel_rfl) (fun _ _ _ h=>h) (Or.inl ⟨by rfl,?_⟩) hHeld (fun hHeld=>?_)
 rotate_left
 ·(intro w hSw;(try dsimp only at hSw);go_simp;try with_reducible rfl)
 try simp only[Act.put,List.setIfInBounds_toArray,List.set_cons_zero,List.set_cons_succ]
 refine q0C (i:=2) (v:=?_) rfl (by kernel_rfl) (fun _ _ _ h=>h) (Or.inl ⟨by rfl,?_⟩) hHeld (fun hHeld=>?_)
 rotate_left
 ·(intro w hSw;(try dsimp only at hSw);go_simp;try with_reducible rfl)
 try simp only[Act.put,List.setIfInBounds_toArray,List.set_cons_zero,List.set_cons_succ]
 refine q0C (i:=3) (v:=?_) rfl (by kernel_rfl) (fun _ _ _ h=>h) (Or.inl ⟨by rfl,?_⟩) hHeld (fun hHeld=>?_)
 rotate_left
 ·(intro w hSw;(try dsimp only at hSw);go_simp;try with_reducible rfl)
 try simp only[Act.put,List.setIfInBounds_toArray,List.set_cons_zero,List.set_cons_succ]
 refine q0C (i:=4) (v:=?_) rfl (by kernel_rfl) (fun _ _ _ h=>h) (Or.inl ⟨by rfl,?_⟩) hHeld (fun hHeld=>?_)
 rotate_left
 ·(intro w hSw;(try dsimp only at hSw);go_simp;try with_reducible rfl)
 try simp only[Act.put,List.setIfInBounds_toArray,List.set_cons_zero,List.set_cons_succ]
 refine q0C (i:=5) (v:=?_) rfl (by kernel_rfl) (fun _ _ _ h=>h) (Or.inl ⟨by rfl,?_⟩) hHeld (fun hHeld=>?_)
 rotate_left
 ·(intro w hSw;(try dsimp only at hSw);go_simp;try with_reducible rfl)
 try simp only[Act.put,List.setIfInBounds_toArray,List.set_cons_zero,List.set_cons_succ]
 refine q0C (i:=6) (v:=?_) rfl (by kernel_rfl) (fun _ _ _ h=>h) (Or.inl ⟨by rfl,?_⟩) hHeld (fun hHeld=>?_)
 rotate_left
 ·(intro w hSw;(try dsimp only at hSw);go_simp;try with_reducible rfl)
 try simp only[Act.put,List.setIfInBounds_toArray,List.set_cons_zero,List.set_cons_succ]
 refine q0C (i:=7) (v:=?_) rfl (by kernel_rfl) (fun _ _ _ h=>h) (Or.inl ⟨by rfl,?_⟩) hHeld (fun hHeld=>?_)
 rotate_left
 ·(intro w hSw;(try dsimp only at hSw);go_simp;try with_reducible rfl)
 try simp only[Act.put,List.setIfInBounds_toArray,List.set_cons_zero,List.set_cons_succ]
 refine q0C (i:=8) (v:=?_) rfl (by kernel_rfl) (fun _ _ _ h=>h) (Or.inl ⟨by rfl,?_⟩) hHeld (fun hHeld=>?_)
 rotate_left
 ·(intro w hSw;(try dsimp only at hSw);go_simp;try with_reducible rfl)
 try simp only[Act.put,List.setIfInBounds_toArray,List.set_cons_zero,List.set_cons_succ]
 refine q1t (by kernel_rfl) ?_
 try simp only[List.drop_succ_cons,List.drop_zero]
 clear hHeld;go_wp2_with fail
 ((try simp only[Exit.inBlock,Exit.then]);refine bodyPost_ret (v:= .tuple #[.agg #[.string ⟨T1.toArray⟩,.int .i64 (b:Int),.slice none 0 0],.int .i64 (m:Int),.string ⟨(R.drop 9).toArray⟩,.bool true]) (by rw[q1g rfl];go_simp) rfl ?_)
 exact ⟨by rw[HE.out],q1y HX2.out _ _ _⟩
end
section
open Go.RowKit
theorem Tryz.infoEv :(Tryz.prog.info? 85).map (fun i=>(i.zero,i.size,i.bytes))=some (some (.agg #[.string ⟨#[]⟩,.string ⟨#[]⟩,.float .f64 0]),3,40):=by kernel_rfl
theorem z5r (s:List UInt8) (k:Nat) (h:z1i k s=none): ∀m,k≤m→z1i m s=none:=by
 intro m hm;obtain ⟨d,rfl⟩:=Nat.le.dest hm;clear hm
 induction d with
 |zero=>exact h
 |succ d ih=>rw[←Nat.add_assoc,z1i,ih];rfl
theorem z9I (s:List UInt8): ∃e R o,y1f (rdE s)= .tuple #[evV e,.string ⟨R.toArray⟩,.bool o]∧(o=true→rdE s=some (e,R))∧(o=false→rdE s=none)∧e.ty.length≤16∧e.da.length≤200∧R.length≤s.length:=by
 by_cases h:q7Z s=true∧q7Z (rdR s)=true∧8≤(rdR (rdR s)).length∧q0t (rdT s) (rdT (rdR s))=0
 ·have e1:rdE s=some (⟨rdT s,rdT (rdR s),q1F ((rdR (rdR s)).take 8)⟩,(rdR (rdR s)).drop 8):=by unfold rdE;rw[if_pos h]
  obtain ⟨_,h2,h3⟩:=q2t h.2.2.2;have l1:=q7W s;have l2:=q7W (rdR s);exact ⟨_,_,true,by rw[e1];rfl,fun _=>e1,fun e=>by simp at e,h2,h3,by rw[List.length_drop];omega⟩
 ·have e1:rdE s=none:=by unfold rdE;rw[if_neg h]
  exact ⟨ev0,[],false,by rw[e1];rfl,fun e=>by simp at e,fun _=>e1,by decide,by decide,Nat.zero_le _⟩
theorem z7z (s:List UInt8): ∃st fi m R o,q6G s= .tuple #[.agg #[.string ⟨st.toArray⟩,.int .i64 ((fi:Nat):Int),.slice none 0 0],.int .i64 ((m:Nat):Int),.string ⟨R.toArray⟩,.bool o]∧st.length≤s.length∧R.length≤s.length∧m≤255∧fi≤1073741824∧
  (∀es T,o=true→z1i m R=some (es,T)→q4j s=if T=[] then (if q0i st (fi:Int) es=0 then some ⟨st,fi,es⟩ else none) else none)∧((o=false∨z1i m R=none)→q4j s=none):=by
 have l1:=z2m s;have l2:=q7W s;by_cases h:q4m s=true
 ·have h':=h
  unfold q4m at h';simp only[Bool.and_eq_true,decide_eq_true_eq] at h';refine ⟨rdT s,q1F ((rdR s).take 8),((rdR s).getD 8 0).toNat,(rdR s).drop 9,true,by unfold q6G;rw[if_pos h],by omega,by rw[List.length_drop];omega,by have:=UInt8.toNat_lt ((rdR s).getD 8 0);omega,h'.2,fun es T _ he=>?_,fun he=>?_⟩
  ·unfold q4j
   rw[if_pos h,he]
   cases T with
   |nil=>rfl
   |cons a b=>rfl
  ·rcases he with he|he
   ·cases he
   ·unfold q4j;rw[if_pos h,he]
 ·refine ⟨[],0,0,[],false,by unfold q6G;rw[if_neg h];rfl,Nat.zero_le _,Nat.zero_le _,by omega,by omega,fun es T e=>by simp at e,fun _=>by unfold q4j;rw[if_neg h]⟩
def y1b (B:Nat) (w:World) (r:Option Bt) (v:Value):Prop:=match r with
 |none=>v= .tuple #[.agg #[.string ⟨#[]⟩,.int .i64 0,.slice none 0 0],.int .i64 10]
 |some b=> ∃x,v= .tuple #[.agg #[.string ⟨b.st.toArray⟩,.int .i64 (b.fi:Int),x],.int .i64 0]∧Own w B 85 3 x b.ev.length (q6n b.ev)
theorem y0q {W:World} {q:Nat} {t:TypeId} {a b c:Value} (h:Blk W q t #[a,b,c]) (a' b':Value):W.cell? ⟨q,0,none⟩=some a∧W.cell? ⟨q,1,none⟩=some b∧W.cell? ⟨q,2,none⟩=some c∧
   W.frozen? ⟨q,0,none⟩=false∧W.frozen? ⟨q,1,none⟩=false∧W.frozen? ⟨q,2,none⟩=false∧((W.setCell ⟨q,0,none⟩ a').setCell ⟨q,1,none⟩ b').frozen? ⟨q,2,none⟩=false∧
   ((W.setCell ⟨q,0,none⟩ a').setCell ⟨q,1,none⟩ b').cell? ⟨q,2,none⟩=some c:=by
 have h2:=(h.set 0 a').set 1 b';exact ⟨h.cell 0,h.cell 1,h.cell 2,h.free 0,h.free 1,h.free 2,h2.free 2,h2.cell 2⟩
theorem q4G {w w1:World} (h:Ext w w1) {q:Nat} (hq:w.heap.size≤q) (a b c:Value):Ext w (((w1.setCell ⟨q,0,none⟩ a).setCell ⟨q,1,none⟩ b).setCell ⟨q,2,none⟩ c):=
 ((h.setCell (p:=⟨q,0,none⟩) hq a).setCell (p:=⟨q,1,none⟩) hq b).setCell (p:=⟨q,2,none⟩) hq c
theorem z8S (s :List UInt8) (w:World) (hl:s.length≤4611686018427387903):
  Calls Tryz.prog 49 #[.string ⟨s.toArray⟩] w fun e w'=>(∃v,e= .returned v∧y1b w.heap.size w' (q4j s) v)∧Ext w w':=by
 have HH:=η32 (fun W=>z8g s W hl);obtain ⟨st,fi,m,S9,o0,hv,hst,hS9,hm,hfi,hG,hG0⟩:=z7z s;rw[hv] at HH;have HG:=η32 hG;have HG0:=η32 hG0;have HX:=η32 (q0B w (.cells #[.string ⟨#[]⟩,.int .i64 0,.slice none 0 0] 96));have HB0:=η32 (Blk.new w 96 #[.string ⟨#[]⟩,.int .i64 0,.slice none 0 0]);have hsf:=q3o;clear hv hG hG0;obtain ⟨q,hq⟩: ∃q,w.heap.size=q:=⟨_,rfl⟩
 have HQ:=η32 hq;have HQl:Hid (w.heap.size≤q):=η32 (by omega);rw[hq] at HB0;go_enter Tryz.func49,Tryz.ntmps49;go_wp2_with fail;refine (HH.out _).mono ?_;rintro e w1 ⟨rfl,hx⟩;have HB1:=η32 (HB0.out.ext hx);have HX1:=η32 (HX.out.trans hx);clear hx;go_wp2_with fail;obtain ⟨q4,hq4⟩: ∃q4,w1.heap.size=q4:=⟨_,rfl⟩
 have hlt1:w.heap.size≤w1.heap.size:=HX1.out.size;have HQ4:Hid (q+1≤q4):=η32 (by have:=HB1.out.lt;omega);have HQw:Hid (w.heap.size≤q4):=η32 (by omega);have HB2:=η32 (HB1.out.ext (q0B w1 (.cells #[.string ⟨st.toArray⟩,.int .i64 (fi:Int),.slice none 0 0] 96)));have HX2:=η32 (HX1.out.trans (q0B w1 (.cells #[.string ⟨st.toArray⟩,.int .i64 (fi:Int),.slice none 0 0] 96)));have HE2:=η32 (Blk.new w1 96 #[.string ⟨st.toArray⟩,.int .i64 (fi:Int),.slice none 0 0]);rw[hq4] at HE2⊢;clear hq4 hlt1
 go_loopw [6,7] (fun r o W=> ∃es R ao cp b,r= .string ⟨(R:List UInt8).toArray⟩∧o= .bool b∧Blk W q4 96 #[.string ⟨st.toArray⟩,.int .i64 (fi:Int),.slice ao es.length cp]∧
   W.ownsRow (q4+1) 85 3 (.slice ao es.length cp) es.length (q6n es)∧es.length≤m∧(b=true→o0=true∧z1i es.length S9=some (es,R))∧(b=false→o0=false∨z1i m S9=none)∧q4g es∧
   R.length≤4611686018427387903∧Blk W q 96 #[.string ⟨#[]⟩,.int .i64 0,.slice none 0 0]∧Ext w W)
  (fun _ _ W=>m-(match W.cell? ⟨q4,2,none⟩ with|some (.slice _ n _)=>n|_=>0))
 case atStart=>
  refine ⟨[],S9,none,0,o0,rfl,rfl,HE2.out,World.ownsRow_nil _ _ _ _,Nat.zero_le _,fun h=>⟨h,rfl⟩,fun h=> .inl h,(fun e he=>absurd he (List.not_mem_nil)),by omega,HB2.out,HX2.out⟩
 case round =>
  obtain ⟨es,R,ao,cp,b,rfl,rfl,hb4,hrow,hlen,hT,hF,hsh,hRl,hbq,hxw⟩:=hrel;obtain ⟨ao2,cp2,he2,hev⟩:=Evs.of_own (Own.of_row hrow)
  cases he2;obtain ⟨k,hk⟩: ∃k,es.length=k:=⟨_,rfl⟩
  have hcp1:=hev.fits;have hcp2:=hev.bound;have HEv:=η32 hev;clear hev;rw[hk] at hb4 hrow hlen hT hcp1 HEv;have HK:=η32 hk;have HB4:=η32 hb4;have HR4:=η32 hrow;have HT:=η32 hT;have HF:=η32 hF;have HSh:=η32 hsh;have HBq:=η32 hbq;have HXw:=η32 hxw;have c0:wr.cell? ⟨q4,0,none⟩=some (.string ⟨st.toArray⟩):=hb4.cell 0;have c1:wr.cell? ⟨q4,1,none⟩=some (.int .i64 (fi:Int)):=hb4.cell 1;have c2:wr.cell? ⟨q4,2,none⟩=some (.slice ao k cp):=hb4.cell 2;clear hk hb4 hrow hT hF hsh hbq hxw
  cases b with
  | false=>
   have HNone:Hid (q4j s=none):=η32 (HG0.out (HF.out rfl));obtain ⟨k0,k1,k2,f0,f1,f2,g2,d2⟩:=y0q HBq.out (.string ⟨#[]⟩) (.int .i64 0);clear HT HF;go_wp2_with fail
   ((try simp only[Exit.inBlock,Exit.then]);refine bodyPost_ret (v:= .tuple #[.agg #[.string ⟨#[]⟩,.int .i64 0,.slice none 0 0],.int .i64 10]) (by rw[q0D rfl];go_simp) rfl ?_)
   exact ⟨⟨_,rfl,by rw[HNone.out];exact rfl⟩,q4G HXw.out HQl.out _ _ _⟩
  | true =>
   by_cases hkm:k<m
   ·have hd:decide ((k:Int)<(m:Int))=true:=decide_eq_true (by omega)
    obtain ⟨⟨y1,y2,y3⟩,R',o',hv,hy,hn,ht1,ht2,hRR⟩:=z9I R;have hv':y1f (rdE R)= .tuple #[.agg #[.string ⟨y1.toArray⟩,.string ⟨y2.toArray⟩,.float .f64 y3],.string ⟨R'.toArray⟩,.bool o']:=hv;have HE:=η32 (fun W=>z8r R W hRl);rw[hv'] at HE;have HY:=η32 hy;have HN:=η32 hn;clear hv hv' hy hn;go_wp2_with fail;refine (HE.out _).mono ?_;rintro e w2 ⟨rfl,hx⟩;obtain ⟨q8,hq8⟩: ∃q8,wr.heap.size=q8:=⟨_,rfl⟩
    rw[hq8];have hxx:=(q0B wr (.cells #[.string ⟨#[]⟩,.string ⟨#[]⟩,.float .f64 0] 85)).trans hx;have hb8:=(Blk.new wr 85 #[.string ⟨#[]⟩,.string ⟨#[]⟩,.float .f64 0]).ext hx;rw[hq8] at hb8;obtain ⟨k0,k1,k2,f0,f1,f2,g2,d2⟩:=y0q hb8 (.string ⟨y1.toArray⟩) (.string ⟨y2.toArray⟩);have hex:=q4G hxx (q:=q8) (by omega) (.string ⟨y1.toArray⟩) (.string ⟨y2.toArray⟩) (.float .f64 y3);have hb83:=((hb8.set 0 (.string ⟨y1.toArray⟩)).set 1 (.string ⟨y2.toArray⟩)).set 2 (.float .f64 y3);have e0:((((w2.setCell ⟨q8,0,none⟩ (.string ⟨y1.toArray⟩)).setCell ⟨q8,1,none⟩ (.string ⟨y2.toArray⟩)).setCell ⟨q8,2,none⟩ (.float .f64 y3)).cell? ⟨q8,0,none⟩)=some (.string ⟨y1.toArray⟩):=hb83.cell 0;have e1:((((w2.setCell ⟨q8,0,none⟩ (.string ⟨y1.toArray⟩)).setCell ⟨q8,1,none⟩ (.string ⟨y2.toArray⟩)).setCell ⟨q8,2,none⟩ (.float .f64 y3)).cell? ⟨q8,1,none⟩)=some (.string ⟨y2.toArray⟩):=hb83.cell 1;have e2:((((w2.setCell ⟨q8,0,none⟩ (.string ⟨y1.toArray⟩)).setCell ⟨q8,1,none⟩ (.string ⟨y2.toArray⟩)).setCell ⟨q8,2,none⟩ (.float .f64 y3)).cell? ⟨q8,2,none⟩)=some (.float .f64 y3):=hb83.cell 2
    have e3:((((w2.setCell ⟨q8,0,none⟩ (.string ⟨y1.toArray⟩)).setCell ⟨q8,1,none⟩ (.string ⟨y2.toArray⟩)).setCell ⟨q8,2,none⟩ (.float .f64 y3)).cell? ⟨q4,2,none⟩)=some (.slice ao k cp):=(HB4.out.ext hex).cell 2;have hxa:=hex.trans (q0B _ (.cells #[.string ⟨y1.toArray⟩,.string ⟨y2.toArray⟩,.float .f64 y3] 85));have HB4a:=η32 (HB4.out.ext hxa);have HBqa:=η32 (HBq.out.ext hxa);have HRa:=η32 (q0N HR4.out hxa);have HXa:=η32 (HXw.out.trans hxa);have HSa:=η32 (show q4+1≤_ from Nat.le_trans (show q4+1≤wr.heap.size from HB4.out.lt) hxa.size);have hrd:=Rd.lit (((w2.setCell ⟨q8,0,none⟩ (.string ⟨y1.toArray⟩)).setCell ⟨q8,1,none⟩ (.string ⟨y2.toArray⟩)).setCell ⟨q8,2,none⟩ (.float .f64 y3)) #[.string ⟨y1.toArray⟩,.string ⟨y2.toArray⟩,.float .f64 y3] 85;rw[World.size_setCell,World.size_setCell,World.size_setCell] at hrd;have HRd:=η32 hrd;clear hx hxx hb8 hex hb83 hxa hrd
    go_wp2_with (at_builtin;refine q0R rfl (.tmp 31) (.tmp 33) 43 rfl (q4+1) 85 _ 3 40 Tryz.underlying43 Tryz.infoEv (by decide) (by decide) _ k (q6n es) rfl HRa.out _ 1 1 (evc ⟨y1,y2,y3⟩) rfl rfl (fun h=>by cases h) HRd.out (fun u hu=>z7k [⟨y1,y2,y3⟩] u (by simpa [q6n] using hu)) (by unfold maxLen;omega) (by omega) HSa.out ?_;intro v4 w4 hown hgrow hat;obtain ⟨a4,c4,rfl⟩:=q0J hown;have hb5:=HB4a.out.same (hgrow.block q4 HB4a.out.lt (fun e=>by have:=(q0c HRa.out q4 e.symm).1;omega));have d6:=hb5.cell 2;have d7:=hb5.free 2;have HB5:=η32 hb5;have HO4:=η32 hown;have HG4:=η32 hgrow;clear hown hgrow hat hb5)
    have hbq5:=HBqa.out.same (HG4.out.block q HBqa.out.lt (fun e=>by have:=(q0c HRa.out q e.symm).1;have:=HQ4.out;omega));have hx4:=q1U HXa.out (Own.of_row (q0v HRa.out (show w.heap.size≤q4+1 by have:=HQw.out;omega))) HG4.out HXa.out.size;obtain ⟨ht0,ht0'⟩:=HT.out trivial;have hlen':(es++[(⟨y1,y2,y3⟩:Ev)]).length=k+1:=by rw[List.length_append,HK.out];rfl
    refine ⟨⟨es++[⟨y1,y2,y3⟩],R',a4,c4,o',rfl,rfl,?_,?_,by omega,fun h=>⟨ht0,?_⟩,fun h=> .inr ?_,?_,by omega,hbq5.out (by have:=HQ4.out;omega) _ _,hx4.setCell (p:=⟨q4,2,none⟩) HQw.out _⟩,?_⟩
    ·rw[hlen'];exact HB5.out.set 2 _
    ·rw [hlen',q7G]
     refine q0s (a:=⟨q4,2,none⟩) ?_ _ (fun e=>?_)
     ·have h:=HO4.out
      rw[show q6n [(⟨y1,y2,y3⟩:Ev)]=evc ⟨y1,y2,y3⟩ from by simp[q6n]];exact h
     ·have:=(q0c HO4.out q4 e).1
      omega
    ·rw[hlen',z1i,ht0',Option.bind_some,HY.out h];rfl
    ·refine z5r _ (k+1) ?_ m hkm
     rw[z1i,ht0',Option.bind_some,HN.out h];rfl
    ·intro e he
     rcases List.mem_append.1 he with he|he
     ·exact HSh.out e he
     ·obtain rfl:=List.mem_singleton.1 he
      exact ⟨by simp only;omega,by simp only;omega⟩
    ·have h6:(w4.setCell ⟨q4,2,none⟩ (.slice a4 (k+1) c4)).cell? ⟨q4,2,none⟩=some (.slice a4 (k+1) c4):=(HB5.out.set 2 _).cell 2
     rw[h6,c2];simp only;omega
   ·have hd:decide ((k:Int)<(m:Int))=false:=decide_eq_false (by omega)
    obtain rfl:k=m:=by omega
    obtain ⟨hT1,hT2⟩:=HT.out rfl;have hGG:=HG.out _ _ hT1 hT2;obtain ⟨k0,k1,k2,f0,f1,f2,g2,d2⟩:=y0q HBq.out (.string ⟨#[]⟩) (.int .i64 0)
    cases R with
    | cons r0 R=>
     have HNone:Hid (q4j s=none):=η32 (by rw[hGG];rfl);clear hGG hT1 hT2 HT HF HG HG0;go_wp2_with fail
     ((try simp only[Exit.inBlock,Exit.then]);refine bodyPost_ret (v:= .tuple #[.agg #[.string ⟨#[]⟩,.int .i64 0,.slice none 0 0],.int .i64 10]) (by rw[q0D rfl];go_simp) rfl ?_)
     exact ⟨⟨_,rfl,by rw[HNone.out];exact rfl⟩,q4G HXw.out HQl.out _ _ _⟩
    | nil =>
     have HC:=η32 (fun W (h:Evs W ao k cp es)=>q9F st (fi:Int) W h (by omega) HSh.out);rw[if_pos rfl] at hGG;have HGG:=η32 hGG;clear hGG hT1 hT2 HT HF HG HG0 k0 k1 k2 f0 f1 f2 g2 d2;go_wp2_with fail;refine (HC.out _ HEv.out).mono ?_;rintro e w2 ⟨rfl,hx⟩;have HX3:=η32 (HXw.out.trans hx);have HRo:=η32 (q0N HR4.out hx);have hb4:=HB4.out.ext hx;have c0:w2.cell? ⟨q4,0,none⟩=some (.string ⟨st.toArray⟩):=hb4.cell 0;have c1:w2.cell? ⟨q4,1,none⟩=some (.int .i64 (fi:Int)):=hb4.cell 1;have c2:w2.cell? ⟨q4,2,none⟩=some (.slice ao k cp):=hb4.cell 2;by_cases hbc:q0i st (fi:Int) es=0
     ·have HSome:Hid (q4j s=some ⟨st,fi,es⟩):=η32 (by rw[HGG.out,if_pos hbc])
      obtain ⟨k0,k1,k2,f0,f1,f2,g2,d2⟩:=y0q (HBq.out.ext hx) (.string ⟨st.toArray⟩) (.int .i64 (fi:Int))
      have HOw:Hid (Own (((w2.setCell ⟨q,0,none⟩ (.string ⟨st.toArray⟩)).setCell ⟨q,1,none⟩ (.int .i64 (fi:Int))).setCell ⟨q,2,none⟩ (.slice ao k cp)) w.heap.size 85 3 (.slice ao k cp) es.length (q6n es)):=η32 (by
       rw[HK.out];have hlq:(Value.slice ao k cp).ownBlock≠some q:=fun e=>by have:=(q0c HRo.out q e).1;have:=HQ4.out;omega
       exact ((((Own.of_row HRo.out).setOther (a:=⟨q,0,none⟩) _ hlq).setOther (a:=⟨q,1,none⟩) _ hlq).setOther (a:=⟨q,2,none⟩) _ hlq).base (by have:=HQw.out;omega))
      rw[hbc];clear hx hb4 hbc;go_wp2_with fail
      ((try simp only[Exit.inBlock,Exit.then]);refine bodyPost_ret (v:= .tuple #[.agg #[.string ⟨st.toArray⟩,.int .i64 (fi:Int),.slice ao k cp],.int .i64 0]) (by rw[q0D rfl];go_simp) rfl ?_)
      refine ⟨⟨_,rfl,by rw[HSome.out];exact ⟨_,rfl,HOw.out⟩⟩,q4G HX3.out HQl.out _ _ _⟩
     ·have HNone:Hid (q4j s=none):=η32 (by rw[HGG.out,if_neg hbc])
      have hbn:(q0i st (fi:Int) es==0)=false:=by simpa using hbc
      obtain ⟨k0,k1,k2,f0,f1,f2,g2,d2⟩:=y0q (HBq.out.ext hx) (.string ⟨#[]⟩) (.int .i64 0);generalize q0i st (fi:Int) es=bc at*;clear hx hb4;go_wp2_with fail
      ((try simp only[Exit.inBlock,Exit.then]);refine bodyPost_ret (v:= .tuple #[.agg #[.string ⟨#[]⟩,.int .i64 0,.slice none 0 0],.int .i64 10]) (by rw[q0D rfl];go_simp) rfl ?_)
      exact ⟨⟨_,rfl,by rw[HNone.out];exact rfl⟩,q4G HX3.out HQl.out _ _ _⟩
end
section
open Go.RowKit
theorem q9q {pos:Int}: ∀{L:List (Nat×List UInt8)} (hp:L.Pairwise z7T) {a:Nat} {p:List UInt8} {R:List (Nat×List UInt8)},L.filter (fun r=>decide (pos≤(r.1:Int)))=(a,p)::R→
  L.filter (fun r=>decide ((a:Int)+(p.length:Int)+12≤(r.1:Int)))=R
 |[],_,_,_,_,h=>by cases h
 | x ::t,hp,a,p,R,h=>by
  obtain ⟨h1,h2⟩:=List.pairwise_cons.1 hp;by_cases hx:pos≤(x.1:Int)
  ·rw[List.filter_cons_of_pos (by simpa using hx)] at h
   injection h with e1 e2;subst e1;simp only at hx;rw[List.filter_cons_of_neg (by simp;omega),←e2,List.filter_eq_self.2,List.filter_eq_self.2]
   ·intro y hy;have:=h1 y hy;unfold z7T at this;simp only at this;simp;omega
   ·intro y hy;have:=h1 y hy;unfold z7T at this;simp only at this;simp;omega
  ·rw[List.filter_cons_of_neg (by simpa using hx)] at h
   have hm:(a,p)∈t.filter (fun r=>decide (pos≤(r.1:Int))):=by rw[h];exact List.mem_cons_self
   have h3:=(List.mem_filter.1 hm).2;simp only[decide_eq_true_eq] at h3;rw[List.filter_cons_of_neg (by simp;omega)];exact q9q h2 h
def q2J (C:Cks) (pos:Int):List (Nat×List UInt8):=(q0y 0 C).filter (fun r=>decide (pos≤(r.1:Int)))
theorem z3v (C:Cks) (pos:Int):q3N C pos=(q2J C pos).head? :=by unfold q3N q2J;rw[List.head?_filter]
theorem z3g {C:Cks} (h:okC C) {pos:Int} {a:Nat} {p:List UInt8} {R:List (Nat×List UInt8)} (e:q2J C pos=(a,p)::R):q2J C ((a:Int)+(p.length:Int)+12)=R:=
 q9q (q6Q C 0 h.size) e
theorem z6A {C:Cks} (h:okC C) {pos:Int} {r:Nat×List UInt8} (hr:r∈q2J C pos):r.1<4096*200∧r.2.length≤2000:=by
 have h1:=(List.mem_filter.1 hr).1;have h2:=q5W C 0 h.size r h1;have h3:=h.few;refine ⟨by omega,?_⟩;have key: ∀(ps:List (List UInt8)) (a:Nat),r∈q2a a ps→r.2∈ps:=by
  intro ps
  induction ps with
  |nil=>intro a h;cases h
  | cons p t ih=>
   intro a h;rw[q2a] at h;rcases List.mem_cons.1 h with rfl|h
   ·exact List.mem_cons_self
   ·exact List.mem_cons_of_mem _ (ih _ h)
 have key2: ∀(D:Cks) (b:Nat),r∈q0y b D→ ∃ps∈D,r.2∈ps:=by
  intro D
  induction D with
  |nil=>intro b h;cases h
  | cons ps t ih=>
   intro b h;rw[q0y] at h;rcases List.mem_append.1 h with h|h
   ·exact ⟨ps,List.mem_cons_self,key ps _ h⟩
   ·obtain ⟨q,hq,hr⟩:=ih _ h
    exact ⟨q,List.mem_cons_of_mem _ hq,hr⟩
 obtain ⟨ps,hps,hp⟩:=key2 C 0 h1;exact h.pay ps hps _ hp
def q2Z (sd:Int) (pos:Nat) (b:Bt) (i:Nat):En:=(q2P sd b.st,(b.fi:Int)+(i:Int),(pos:Int))
def q0a (sd:Int) (pos:Nat) (b:Bt) (k:Nat):List En:=(List.range k).map (q2Z sd pos b)
theorem q6a (sd:Int) (pos:Nat) (b:Bt) (k:Nat):q0a sd pos b (k+1)=q0a sd pos b k++[q2Z sd pos b k]:=by unfold q0a;rw[List.range_succ,List.map_append];rfl
theorem q3l (sd:Int) (pos:Nat) (b:Bt) (k:Nat):(q0a sd pos b k).length=k:=by unfold q0a;simp
def z0i (sd:Int):List (Nat×List UInt8)→Option (List En)
 |[]=>some []
 |(a,p)::r=>(q4j p).bind fun b=>(z0i sd r).map fun l=>q0a sd a b b.ev.length++l
def q1Q (es:List En) (L:List En):List En:=es.foldl (fun L e=>q3V e L) L
theorem q3K (a b L:List En):q1Q (a++b) L=q1Q b (q1Q a L):=by unfold q1Q;rw[List.foldl_append]
theorem q6W : ∀(es L:List En),(q1Q es L).length≤L.length+es.length
 |[],L=>Nat.le_refl _
 | e::t,L=>by
  have h:=q6W t (q3V e L);have:=@z5R e L;unfold q1Q at*;rw[List.foldl_cons,List.length_cons];omega
theorem z8K {s:List UInt8} {b:Bt} (h:q4j s=some b):q0i b.st (b.fi:Int) b.ev=0:=by
 unfold q4j at h
 split at h
 ·split at h
  ·split at h
   ·rename_i hc
    injection h with h;subst h;exact hc
   ·cases h
  ·cases h
 ·cases h
theorem z2k (sd:Int) {pos:Nat} {b:Bt} {k:Nat} (h:q0i b.st (b.fi:Int) b.ev=0) (hk:k<b.ev.length) (hp:pos<4096*200):q3J (q2Z sd pos b k)=true:=by
 obtain ⟨_,_,_,p4,p5,p6,_⟩:=q1B h;obtain ⟨h1,h2⟩:=z1a sd b.st;rw[okEn_iff];unfold q2Z;simp only;omega
end
section
open Go.RowKit
theorem z4M {e:Ev} (h:z8R e):(evB e).length≤300:=by
 obtain ⟨_,h3,h4⟩:=q2t h.1;unfold evB;rw[q2V (by omega),q2V (by omega)];simp[q0I];omega
theorem z6O (L:List Ev) (k:Nat) (h:k<L.length):((L.take (k+1)).map evB).flatten=((L.take k).map evB).flatten++evB (L.getD k ev0):=by
 rw[List.take_succ_eq_append_getElem h,List.map_append,List.flatten_append,List.getD_eq_getElem?_getD,List.getElem?_eq_getElem h];simp only[List.map_cons,List.map_nil,List.flatten_cons,List.flatten_nil,List.append_nil,Option.getD_some]
theorem y0Y {b:Bt} {ao:Option Addr} {n cap:Nat} (w:World) (hx:Evs w ao n cap b.ev) (hok:z4L b):
  Calls Tryz.prog 36 #[.agg #[.string ⟨b.st.toArray⟩,.int .i64 (b.fi:Int),.slice ao n cap]] w fun e w'=>e= .returned (.tuple #[.string ⟨(btB b).toArray⟩,.int .i64 0])∧Ext w w':=by
 obtain ⟨p1,p2,p3,p4,p5,p6,p7⟩:=q1B hok.1;have hev: ∀e∈b.ev,z8R e:=fun e he=>⟨q6M p7 e he,hok.2 e he⟩
 have hsh:q4g b.ev:=fun e he=>by
  obtain ⟨_,h1,h2⟩:=q2t (hev e he).1;exact ⟨by omega,by omega⟩
 have hlen:=hx.len;obtain ⟨st,fi,L⟩:=b;simp only at p1 p2 p3 p4 p5 p6 p7 hev hsh hlen hx;have b1:=hx.fits;have b2:=hx.bound;have hc0:q0i st (fi:Int) L=0:=hok.1;have HC:=η32 (fun W (h:Evs W ao n cap L)=>q9F st (fi:Int) W h (by omega) hsh);rw[hc0] at HC;have HT:=η32 (fun W=>z5S st W (by omega));have HP8:=η32 (fun W=>z3r (fi:Int) 8 8 W rfl (by omega) (by omega) (by omega) (by omega));have HP1:=η32 (fun W=>z3r (n:Int) 1 1 W rfl (by omega) (by omega) (by omega) (by omega));rw[Int.toNat_natCast] at HP8 HP1;have l1:(q2d st).length≤50:=by rw[q2V (by omega)];simp[q0I];omega
 have l8:(be 8 fi).length≤8:=by rw[q0I];omega
 have l0:(be 1 n).length≤8:=by rw[q0I];omega
 have HE:Hid (btB ⟨st,fi,L⟩=((q2d st++be 8 fi)++be 1 n)++((L.take n).map evB).flatten):=η32 (by
  rw[←hlen,List.take_length];unfold btB;simp)
 have HOk:=η32 hev;have HLn:=η32 hlen;have HEv:=η32 hx;have qf:IntKind.u64.wrap (fi:Int)=(fi:Int):=by rw[IntKind.wrap_u64];omega
 have qn:IntKind.u64.wrap (n:Int)=(n:Int):=by rw[IntKind.wrap_u64];omega
 have hn9:n≤8:=by omega
 have HX:=η32 (q0B w (.cells #[.string ⟨st.toArray⟩,.int .i64 (fi:Int),.slice ao n cap] 96));have HB0:=η32 (Blk.new w 96 #[.string ⟨st.toArray⟩,.int .i64 (fi:Int),.slice ao n cap]);have hbk:=HB0.out;have k0:(w.alloc (.cells #[.string ⟨st.toArray⟩,.int .i64 (fi:Int),.slice ao n cap] 96)).cell? ⟨w.heap.size,0,none⟩=some (.string ⟨st.toArray⟩):=hbk.cell 0;have k1:(w.alloc (.cells #[.string ⟨st.toArray⟩,.int .i64 (fi:Int),.slice ao n cap] 96)).cell? ⟨w.heap.size,1,none⟩=some (.int .i64 (fi:Int)):=hbk.cell 1;have k2:(w.alloc (.cells #[.string ⟨st.toArray⟩,.int .i64 (fi:Int),.slice ao n cap] 96)).cell? ⟨w.heap.size,2,none⟩=some (.slice ao n cap):=hbk.cell 2;generalize q2d st=A at*;generalize be 8 fi=D at*;generalize be 1 n=C at*;have hsf:=q3o;clear hbk hok p1 p2 p3 p4 p5 p6 p7 hev hsh hlen hx hc0;go_enter Tryz.func36,Tryz.ntmps36;go_wp2_with fail;refine (HC.out _ (HEv.out.ext HX.out)).mono ?_
 rintro e w1 ⟨rfl,hx⟩;have HX1:=η32 (HX.out.trans hx);have hb1:=HB0.out.ext hx;generalize w.heap.size=q at*;have c0:w1.cell? ⟨q,0,none⟩=some (.string ⟨st.toArray⟩):=hb1.cell 0;have c1:w1.cell? ⟨q,1,none⟩=some (.int .i64 (fi:Int)):=hb1.cell 1;have c2:w1.cell? ⟨q,2,none⟩=some (.slice ao n cap):=hb1.cell 2;have u0:=q0F c0;have u1:=q0F c1;have u2:=q0F c2;have HB1:=η32 hb1;have q1:¬(9223372036854775807<A.length+D.length):=by omega
 have q2:¬(9223372036854775807<(A++D).length+C.length):=by rw[List.length_append];omega
 have q3:¬(9223372036854775807<A.length+D.length+C.length):=by omega
 clear hx hb1 k0 k1 k2;go_wp2_with fail;refine q0E (by kernel_rfl) (by kernel_rfl) ?_
 repeat (go_big_quiet_step (fail))
 go_big_quiet_step (exact Calls.quiet_ext (HT.out _))
 repeat (go_big_quiet_step (fail))
 go_big_quiet_step (exact Calls.quiet_ext (HP8.out _))
 repeat (go_big_quiet_step (fail))
 go_big_quiet_step (exact Calls.quiet_ext (HP1.out _))
 repeat (go_big_quiet_step (fail))
 refine wpQuiet_nil ?_;intro w2 hw;have HX2:=η32 (HX1.out.trans hw);have hb2:=HB1.out.ext hw;have d0:w2.cell? ⟨q,0,none⟩=some (.string ⟨st.toArray⟩):=hb2.cell 0;have d1:w2.cell? ⟨q,1,none⟩=some (.int .i64 (fi:Int)):=hb2.cell 1;have d2:w2.cell? ⟨q,2,none⟩=some (.slice ao n cap):=hb2.cell 2;clear hw hb2 c0 c1 c2 u0 u1 u2;have HEv2:=η32 (HEv.out.ext HX2.out);go_wp2_with fail
 go_loopw [5,30] (fun e i W=> ∃k:Nat,∃T:List UInt8,k≤n∧i= .int .i64 (k:Int)∧e= .string ⟨T.toArray⟩∧T=((A++D)++C)++((L.take k).map evB).flatten∧T.length≤100+300*k∧Ext w W) (fun _ i _=>n-(intOf i).toNat)
 case atStart=>exact ⟨0,_,Nat.zero_le _,rfl,(by first|rfl|(rw[q2i,q2i])),by simp,by simp;omega,HX2.out⟩
 case round=>
  obtain ⟨k,T,hk,rfl,rfl,hT,hTl,hb⟩:=hrel;have HT:=η32 hT;have HBk:=η32 hb;by_cases hlt:k<n
  ·have hd7:decide ((k:Int)<(n:Int))=true:=decide_eq_true (by omega)
   obtain ⟨b,off,rfl,c0,c1,c2⟩:=(HEv.out.ext hb).at hlt;have hkL:k<L.length:=by rw[HLn.out];exact hlt
   have hmem:L.getD k ev0∈L:=by rw[List.getD_eq_getElem?_getD,List.getElem?_eq_getElem hkL];exact List.getElem_mem hkL
   have HS:=η32 (z6O L k hkL);have HX1:=η32 (q0B wr (.cells #[.string ⟨(L.getD k ev0).ty.toArray⟩,.string ⟨(L.getD k ev0).da.toArray⟩,.float .f64 (L.getD k ev0).we] 85));have q4:IntKind.i64.wrap ((k:Int)+1)=(k:Int)+1:=by rw[IntKind.wrap_i64];omega
   have he:=HOk.out _ hmem;generalize L.getD k ev0=y at*;obtain ⟨y1,y2,y3⟩:=y;have hs:=z4M he;have HCk:=η32 (fun W=>z8A ⟨y1,y2,y3⟩ W he);have HCk':Hid (∀W,Calls Tryz.prog 71 #[.agg #[.string ⟨y1.toArray⟩,.string ⟨y2.toArray⟩,.float .f64 y3]] W fun r w'=>r= .returned (.string ⟨(evB ⟨y1,y2,y3⟩).toArray⟩)∧Ext W w'):=HCk;obtain ⟨Y,hY⟩: ∃Y,evB ⟨y1,y2,y3⟩=Y:=⟨_,rfl⟩
   rw[hY] at HCk' hs HS;simp only at c0 c1 c2;have u0:=q0F c0;have u1:=q0F c1;have u2:=q0F c2;have q5:¬(9223372036854775807<T.length+Y.length):=by omega
   clear hkL hmem hb hT HCk he hY;go_wp2_with fail;refine (HCk'.out _).mono ?_;rintro e w3 ⟨rfl,hx⟩;have HX3:=η32 ((HBk.out.trans HX1.out).trans hx);clear hx;go_wp2_with fail
   go_roundw
   case rel=>exact ⟨k+1,T++Y,by omega,by go_num,(by first|rfl|(rw[q2i])),by rw[HS.out,HT.out,List.append_assoc],by rw[List.length_append];omega,HX3.out⟩
   case measure=>simp[intOf];omega
  ·obtain rfl:k=n:=by omega
   have hd7:decide ((k:Int)<(k:Int))=false:=decide_eq_false (by omega);have HF:Hid (btB ⟨st,fi,L⟩=T):=η32 (by rw[HE.out,hT]);clear hb hT;go_wp2_with fail;go_ret2;exact ⟨by rw[HF.out];rfl,HBk.out⟩
end
section
open Go.RowKit
end
section
open Go.RowKit Go.Shelf
end
end Go.Proofs.YthdekbmdkpcooaaGreatDoor
