/- Walks. -/
import Derived.Test.YthdekbmdkpcooaaGreatDoorG14CT
import Derived.Test.YthdekbmdkpcooaaGreatDoorG45CT
set_option linter.unusedVariables false
set_option linter.unusedSimpArgs false
set_option maxRecDepth 100000
set_option maxHeartbeats 6400000
namespace Go.Proofs.YthdekbmdkpcooaaGreatDoor
theorem η46 {p:Prop} (h:p):Go.RowKit.Hid p:=Lib.hid h
section
open Go.RowKit
theorem q0V {fn:Func} {a p u v:Tmp} {ty:TypeId} (h:fn.results=#[.tmp a,.cell p ty,.tmp u,.tmp v]) (tmps:Array Value) (P:Program) (w:World):
  (results fn tmps).run P w=
   ((asAddr (tmps.getD p undef)).run P w).andThen fun b w₁=>((loadVar ty b).run P w₁).andThen fun x w₂=> .ok (.tuple #[tmps.getD a undef,x,tmps.getD u undef,tmps.getD v undef]) w₂:=by
 simp only[results,h];simp[Sem.run_bind,Result.andThen]
theorem q8o (st:List UInt8) (nx:Int) (dn:Bool) (hs:st.length≤9223372036854775807) (w:World):Calls Tryz.prog 24 #[.string ⟨st.toArray⟩,.int .i64 nx,.bool dn] w fun e w'=>e= .returned (.tuple #[z2e (if q3F ⟨st,nx,dn⟩=true then ⟨st,nx,dn⟩ else q6R),.int .i64 (if q3F ⟨st,nx,dn⟩=true then 0 else 2)])∧Ext w w':=by
 have HC:=η46 (fun W=>q6K ⟨st,nx,dn⟩ hs W);have hx1:=q2I w (.cells #[.string ⟨#[]⟩,.int .i64 0,.bool false] 63) (.cells #[.string ⟨st.toArray⟩,.int .i64 nx,.bool dn] 63);have hxb:=q0B (w.alloc (.cells #[.string ⟨#[]⟩,.int .i64 0,.bool false] 63)) (.cells #[.string ⟨st.toArray⟩,.int .i64 nx,.bool dn] 63);have HB0:=η46 ((Blk.new w 63 #[.string ⟨#[]⟩,.int .i64 0,.bool false]).ext hxb);have hb1:=Blk.new (w.alloc (.cells #[.string ⟨#[]⟩,.int .i64 0,.bool false] 63)) 63 #[.string ⟨st.toArray⟩,.int .i64 nx,.bool dn];rw[World.size_alloc] at hb1;have HB1:=η46 hb1;have HX:=η46 hx1;obtain ⟨z,hz⟩: ∃z,q3F ⟨st,nx,dn⟩=z:=⟨_,rfl⟩
 rw[hz] at HC⊢;clear hx1 hxb hb1 hz;go_enter Tryz.func24,Tryz.ntmps24;go_wp2_with fail;refine (HC.out _).mono ?_;rintro e w3 ⟨rfl,hx⟩;have HX3:=η46 (HX.out.trans hx);have hb:=HB0.out.ext hx;have k0:=hb.cell 0;have k1:=hb.cell 1;have k2:=hb.cell 2;have f0:=hb.free 0;have f1:=hb.free 1;have f2:=hb.free 2;have hc:=HB1.out.ext hx;have l0:=hc.cell 0;have l1:=hc.cell 1;have l2:=hc.cell 2;clear hx hb hc HC HB0 HB1
 cases z with
 | false=>
  go_wp2_with fail
  ((try simp only[Exit.inBlock,Exit.then]);refine bodyPost_ret (v:= .tuple #[.agg #[.string ⟨#[]⟩,.int .i64 0,.bool false],.int .i64 2]) (by rw[q0D rfl];go_simp) rfl ?_)
  exact ⟨rfl,((HX3.out.setCell (p:=⟨w.heap.size,0,none⟩) (Nat.le_refl _) _).setCell (p:=⟨w.heap.size,1,none⟩) (Nat.le_refl _) _).setCell (p:=⟨w.heap.size,2,none⟩) (Nat.le_refl _) _⟩
 | true=>
  go_wp2_with fail
  ((try simp only[Exit.inBlock,Exit.then]);refine bodyPost_ret (v:= .tuple #[.agg #[.string ⟨st.toArray⟩,.int .i64 nx,.bool dn],.int .i64 0]) (by rw[q0D rfl];go_simp) rfl ?_)
  exact ⟨rfl,((HX3.out.setCell (p:=⟨w.heap.size,0,none⟩) (Nat.le_refl _) _).setCell (p:=⟨w.heap.size,1,none⟩) (Nat.le_refl _) _).setCell (p:=⟨w.heap.size,2,none⟩) (Nat.le_refl _) _⟩
section
variable {wb w W W':World} {g gs rate u n:Nat} {sd c s:Int} {bs:List Bt} {K K':Nat→Prop}
theorem SK.pokeK (h:SK wb W g gs rate sd c s u n bs K) {x:Nat} (hK:K x) (hb:wb.heap.size≤x) (j:Nat) (v:Value):SK wb (W.setCell ⟨x,j,none⟩ v) g gs rate sd c s u n bs K:=by
 refine h.sideM (by rw[World.size_setCell];exact Nat.le_refl _) (Below.setCell h.base hb v) (fun i hi hn=>?_) fun i hi=> .inl hi
 exact heap_setCell_other W ⟨x,j,none⟩ i v fun e=>hn (by have:i=x:=e;rw[this];exact hK)
def PageR (wb w:World) (g gs rate:Nat) (sd c s:Int) (u n:Nat) (bs:List Bt) (K:Nat→Prop) (T:List To) (X:Cur) (E:Bool) (z:Int) (e:Ending) (w':World):Prop:=
 ∃v,e= .returned (.tuple #[v,z2e X,.bool E,.int .i64 z])∧SK wb w' g gs rate sd c s u n bs (fun i=>K i∨v.ownBlock=some i)∧Stay K w w'∧w'.ownsRow wb.heap.size 87 5 v T.length (q4i T)∧ ∀i,K i→v.ownBlock≠some i
structure PgM (wb w W:World) (g gs rate:Nat) (sd c s:Int) (u n:Nat) (bs:List Bt) (K:Nat→Prop) (a b:Nat) (v:Value) (T:List To):Prop where
 sk:SK wb W g gs rate sd c s u n bs (fun i=>(K i∨i=a∨i=b)∨v.ownBlock=some i)
 st:Stay K w W
 row:W.ownsRow wb.heap.size 87 5 v T.length (q4i T)
 ap: ∀i,(K i∨i=a∨i=b)→v.ownBlock≠some i
 lo:wb.heap.size≤w.heap.size∧w.heap.size≤a∧w.heap.size≤b
 kl: ∀i,K i→i<w.heap.size
theorem PgM.poke {a b:Nat} {v:Value} {T:List To} (h:PgM wb w W g gs rate sd c s u n bs K a b v T) {x:Nat} (hx:x=a∨x=b) (j:Nat) (y:Value):PgM wb w (W.setCell ⟨x,j,none⟩ y) g gs rate sd c s u n bs K a b v T:=by
 have hlo:w.heap.size≤x:=by have:=h.lo;rcases hx with rfl|rfl<;>omega
 refine ⟨h.sk.pokeK (.inl (.inr hx)) (by have:=h.lo;omega) j y,fun i hi=>?_,q0s h.row (a:=⟨x,j,none⟩) y (h.ap x (.inr hx)),h.ap,h.lo,h.kl⟩;rw[heap_setCell_other W ⟨x,j,none⟩ i y (fun e=>by have e2:i=x:=e;have:=h.kl i hi;omega)];exact h.st i hi
theorem PgM.done {a b:Nat} {v:Value} {T:List To} (h:PgM wb w W g gs rate sd c s u n bs K a b v T) (X:Cur) (E:Bool) (z:Int):PageR wb w g gs rate sd c s u n bs K T X E z (.returned (.tuple #[v,z2e X,.bool E,.int .i64 z])) W:=
 ⟨v,rfl,h.sk.beside fun i hi=>hi.imp .inl id,h.st,h.row,fun i hi=>h.ap i (.inl hi)⟩
theorem PageR.drewW {T:List To} {X:Cur} {E:Bool} {z:Int} {e:Ending} (h:PageR wb w g gs rate sd c s u n bs K T X E z e W):PageR wb w g gs rate sd c s u n bs K T X E z e W.drew:=by
 obtain ⟨v,rfl,h1,h2,h3,h4⟩:=h;exact ⟨v,rfl,h1.grow (Ext.refl _).drew,h2,h3,h4⟩
theorem PgM.of {a b:Nat} {v:Value} {T:List To} (h:SK wb w g gs rate sd c s u n bs K) {w1:World} (hx:Ext w w1) (ha:w.heap.size≤a) (hb:w.heap.size≤b)
  (k1:SK wb W g gs rate sd c s u n bs (fun i=>(K i∨i=a∨i=b)∨v.ownBlock=some i)) (k2:Stay (fun i=>K i∨i=a∨i=b) w1 W) (k3:W.ownsRow wb.heap.size 87 5 v T.length (q4i T)) (k4: ∀i,(K i∨i=a∨i=b)→v.ownBlock≠some i):PgM wb w W g gs rate sd c s u n bs K a b v T:=
 ⟨k1,fun i hi=>(k2 i (.inl hi)).trans (hx.block i (h.klt i hi)),k3,k4,⟨h.base.size,ha,hb⟩,h.klt⟩
theorem z6M {st:List UInt8} {nx ct:Int} {dn:Bool} (hm:q3F ⟨st,nx,dn⟩=true) (h0:0≤nx) (h1:1≤ct):q3G st nx ct=0:=by
 unfold q3G;refine if_neg ?_;have:=(q3S hm).1;rintro (h|h|h)
 ·simp only at this;rw[this] at h;cases h
 ·omega
 ·omega
theorem z9A {bs:List Bt} {st:List UInt8} {fr ct:Int}:(z3l bs st fr ct).length≤(q0u bs st).length:=by
 unfold z3l q7q
 split
 ·rw[List.length_take,List.length_drop,q3h];omega
 ·simp
theorem z7Q (h:SK wb w g gs rate sd c s u n bs K) (hn:n≤1000) (st:List UInt8) (nx ct:Int) (hm:q3F ⟨st,nx,false⟩=true) (h1:1≤ct) (h2:ct≤9223372036854775807):
  Calls Tryz.prog 60 #[.agg #[.string ⟨st.toArray⟩,.int .i64 nx,.bool false],.pointer (some ⟨gs,0,none⟩),.int .i64 ct] w
   (PageR wb w g gs rate sd c s u n bs K (z3l bs st nx ct) ⟨st,nx+((z3l bs st nx ct).length:Int),false⟩ (decide (((z3l bs st nx ct).length:Int)<ct)) 0):=by
 obtain ⟨_,hb1,hb2⟩:=q3S hm;simp only at hb1 hb2;have hst:=q9C hm;simp only at hst;have h0:0≤nx:=by have:=(q4e st nx false).1 hm;rcases this.2.2 with h|⟨h,_⟩;exact h;cases h
 have hpn:=z6M hm h0 h1;have hx2:=q2I w (.cells #[.string ⟨st.toArray⟩,.int .i64 nx,.bool false] 63) (.cells #[.string ⟨#[]⟩,.int .i64 0,.bool false] 63);have hxb:=q0B (w.alloc (.cells #[.string ⟨st.toArray⟩,.int .i64 nx,.bool false] 63)) (.cells #[.string ⟨#[]⟩,.int .i64 0,.bool false] 63);have hk1:=h.more (K':=fun i=>K i∨i=w.heap.size∨i=w.heap.size+1) hx2 fun i hi=>by
  rcases hi with hi|hi
  ·exact .inl hi
  ·exact .inr (by simp;omega)
 have HF:=η46 (hk1.forward hn st (by omega) nx ct (by omega) (by omega));rw[hpn] at HF;have HB0:=η46 ((Blk.new w 63 #[.string ⟨st.toArray⟩,.int .i64 nx,.bool false]).ext hxb);have hb1:=Blk.new (w.alloc (.cells #[.string ⟨st.toArray⟩,.int .i64 nx,.bool false] 63)) 63 #[.string ⟨#[]⟩,.int .i64 0,.bool false];rw[World.size_alloc] at hb1;have HB1:=η46 hb1;have HX:=η46 hx2;have HK:=η46 h;have hfl:=z9A (bs:=bs) (st:=st) (fr:=nx) (ct:=ct);have hfew:=h.few;have hel:=q3q bs st;have hTl:(z3l bs st nx ct).length≤8000:=by omega
 generalize z3l bs st nx ct=T at*;obtain ⟨N,hN⟩: ∃N,T.length=N:=⟨_,rfl⟩
 have HN:=η46 hN;rw[hN] at hTl⊢;have q1:IntKind.i64.wrap (nx+(N:Int))=nx+(N:Int):=by rw[IntKind.wrap_i64];omega
 clear hx2 hxb hk1 h hpn hb1 hfl hfew hel hm hN;go_enter Tryz.func60,Tryz.ntmps60;go_wp2_with fail;refine HF.out.mono ?_;rintro e w3 ⟨v,rfl,k1,k2,k3,k4⟩;obtain ⟨va,vc,rfl⟩:=q0J k3;have HM:=η46 (PgM.of HK.out HX.out (Nat.le_refl _) (Nat.le_succ _) k1 k2 k3 k4);have hb0:=HB0.out.same (k2 w.heap.size (.inr (.inl rfl)));have hb1:=HB1.out.same (k2 (w.heap.size+1) (.inr (.inr rfl)));have j0:=hb0.cell 0;have j1:=hb0.cell 1;have j2:=hb0.cell 2;have g1:=hb0.free 1;have l0:=hb1.cell 0;have l1:=hb1.cell 1;have l2:=hb1.cell 2;have f0:=hb1.free 0;have f1:=hb1.free 1;have f2:=hb1.free 2;have HMp:=η46 (HM.out.poke (.inl rfl) 1 (.int .i64 (nx+(N:Int))));have hc0:=hb0.set 1 (.int .i64 (nx+(N:Int)));have hc1:=hb1.out (i:=w.heap.size) (by omega) 1 (.int .i64 (nx+(N:Int)));have HC0:=η46 hc0;have HC1:=η46 hc1;rw[HN.out] at HM HMp⊢;clear k1 k2 k3 k4 hb0 hb1 HF HB0 HB1 hc0 hc1;go_wp2_with fail;have m0:=HC0.out.cell 0;have m1:=HC0.out.cell 1;have m2:=HC0.out.cell 2
 have n0:=HC1.out.cell 0;have n1:=HC1.out.cell 1;have n2:=HC1.out.cell 2;have y0:=HC1.out.free 0;have y1:=HC1.out.free 1;have y2:=HC1.out.free 2;clear j0 j1 j2 l0 l1 l2 f0 f1 f2;refine q1f (fun W:World=>W.cell? ⟨w.heap.size,0,none⟩=some (.string ⟨st.toArray⟩)∧W.cell? ⟨w.heap.size,1,none⟩=some (.int .i64 (nx+(N:Int)))∧W.cell? ⟨w.heap.size,2,none⟩=some (.bool false)) 8 (by kernel_rfl) ⟨m0,m1,m2⟩ (fun hHeld=>?_);refine q0C (i:=0) (v:=?_) rfl (by kernel_rfl) (fun _ _ _ h=>h) (Or.inl ⟨by rfl,?_⟩) hHeld (fun hHeld=>?_)
 rotate_left
 ·(intro w hSw;(try dsimp only at hSw);go_simp;try with_reducible rfl)
 simp only[Act.put,List.setIfInBounds_toArray,List.set_cons_zero,List.set_cons_succ];refine q0j (i:=1) (v:=?_) rfl (by kernel_rfl) (fun _ _ _ h=>h) (Or.inl ⟨by rfl,?_⟩) hHeld (fun hHeld=>?_)
 rotate_left
 ·(intro w hSw;(try dsimp only at hSw);go_simp;try with_reducible rfl)
 simp only[Act.put,List.setIfInBounds_toArray,List.set_cons_zero,List.set_cons_succ];refine q0C (i:=2) (v:=?_) rfl (by kernel_rfl) (fun _ _ _ h=>h) (Or.inl ⟨by rfl,?_⟩) hHeld (fun hHeld=>?_)
 rotate_left
 ·(intro w hSw;(try dsimp only at hSw);go_simp;try with_reducible rfl)
 simp only[Act.put,List.setIfInBounds_toArray,List.set_cons_zero,List.set_cons_succ];refine q0C (i:=3) (v:=?_) rfl (by kernel_rfl) (fun _ _ _ h=>h) (Or.inl ⟨by rfl,?_⟩) hHeld (fun hHeld=>?_)
 rotate_left
 ·(intro w hSw;(try dsimp only at hSw);go_simp;try with_reducible rfl)
 simp only[Act.put,List.setIfInBounds_toArray,List.set_cons_zero,List.set_cons_succ];refine q0C (i:=4) (v:=?_) rfl (by kernel_rfl) (fun _ _ _ h=>h) (Or.inl ⟨by rfl,?_⟩) hHeld (fun hHeld=>?_)
 rotate_left
 ·(intro w hSw;(try dsimp only at hSw);go_simp;try with_reducible rfl)
 simp only[Act.put,List.setIfInBounds_toArray,List.set_cons_zero,List.set_cons_succ];refine q0C (i:=5) (v:=?_) rfl (by kernel_rfl) (fun _ _ _ h=>h) (Or.inl ⟨by rfl,?_⟩) hHeld (fun hHeld=>?_)
 rotate_left
 ·(intro w hSw;(try dsimp only at hSw);go_simp;try with_reducible rfl)
 simp only[Act.put,List.setIfInBounds_toArray,List.set_cons_zero,List.set_cons_succ];refine q0C (i:=6) (v:=?_) rfl (by kernel_rfl) (fun _ _ _ h=>h) (Or.inl ⟨by rfl,?_⟩) hHeld (fun hHeld=>?_)
 rotate_left
 ·(intro w hSw;(try dsimp only at hSw);go_simp;try with_reducible rfl)
 simp only[Act.put,List.setIfInBounds_toArray,List.set_cons_zero,List.set_cons_succ];refine q0x (i:=7) (by kernel_rfl) rfl (fun K hK=>?_)
 go_simp
 refine hK.out _ _ ⟨?_,?_,?_⟩ (fun hHeld=>?_)
 ·go_simp
 ·go_simp
 ·go_simp
 clear hK K
 try simp only[Act.put,List.setIfInBounds_toArray,List.set_cons_zero,List.set_cons_succ]
 refine q1t (by kernel_rfl) ?_
 try simp only[List.drop_succ_cons,List.drop_zero]
 clear hHeld;go_wp2_with fail;have HMz:=η46 ((((HMp.out.poke (.inr rfl) 0 (.string ⟨st.toArray⟩)).poke (.inr rfl) 1 (.int .i64 (nx+(N:Int)))).poke (.inr rfl) 2 (.bool false)).done ⟨st,nx+(N:Int),false⟩ (decide ((N:Int)<ct)) 0)
 ((try simp only[Exit.inBlock,Exit.then]);refine bodyPost_ret (v:= .tuple #[.slice va N vc,.agg #[.string ⟨st.toArray⟩,.int .i64 (nx+(N:Int)),.bool false],.bool (decide ((N:Int)<ct)),.int .i64 0]) (by rw[q0V rfl];go_simp) rfl ?_)
 exact HMz.out.drewW
end
end
section
open Go.RowKit
def z1m (bs:List Bt) (st:List UInt8) (M ct:Int):List To:=if M<0 then [] else z6a bs st M ct
theorem z9R {bs:List Bt} {st:List UInt8} {fr ct:Int}:(z6a bs st fr ct).length≤(q0u bs st).length:=by
 unfold z6a z0T
 split
 ·rw[List.length_reverse,List.length_take,List.length_drop,q3h];omega
 ·simp
theorem z9N {bs:List Bt} {st:List UInt8} {nx:Int} {dn:Bool} (hm:q3F ⟨st,nx,dn⟩=true):z1K bs st=(((q0u bs st).length:Int)-1,0):=by
 unfold z1K;exact if_pos (q3S hm).1
section
variable {wb w W W':World} {g gs rate u n:Nat} {sd c s:Int} {bs:List Bt} {K K':Nat→Prop}
theorem PageR.cast {T T':List To} {X X':Cur} {E E':Bool} {z:Int} {e:Ending} (h:PageR wb w g gs rate sd c s u n bs K T X E z e W) (h1:T=T') (h2:X=X') (h3:E=E'):PageR wb w g gs rate sd c s u n bs K T' X' E' z e W:=by subst h1 h2 h3;exact h
theorem z9i (h:SK wb w g gs rate sd c s u n bs K) (hn:n≤1000) (st:List UInt8) (nx ct:Int) (hm:q3F ⟨st,nx,true⟩=true) (h1:1≤ct) (h2:ct≤9223372036854775807) {M:Int} (hM:min nx (((q0u bs st).length:Int)-1)=M):
  Calls Tryz.prog 59 #[.agg #[.string ⟨st.toArray⟩,.int .i64 nx,.bool true],.pointer (some ⟨gs,0,none⟩),.int .i64 ct] w
   (PageR wb w g gs rate sd c s u n bs K (z1m bs st M ct) ⟨st,M-((z1m bs st M ct).length:Int),true⟩ (decide (M-((z1m bs st M ct).length:Int)<0)) 0):=by
 obtain ⟨_,hb1,hb2⟩:=q3S hm;simp only at hb1 hb2;have hst:=q9C hm;simp only at hst;have hx2:=q2I w (.cells #[.string ⟨st.toArray⟩,.int .i64 nx,.bool true] 63) (.cells #[.string ⟨#[]⟩,.int .i64 0,.bool false] 63);have hxb:=q0B (w.alloc (.cells #[.string ⟨st.toArray⟩,.int .i64 nx,.bool true] 63)) (.cells #[.string ⟨#[]⟩,.int .i64 0,.bool false] 63);have hk1:=h.more (K':=fun i=>K i∨i=w.heap.size∨i=w.heap.size+1) hx2 fun i hi=>by
  rcases hi with hi|hi
  ·exact .inl hi
  ·exact .inr (by simp;omega)
 have HF:=η46 (hk1.last hn st (by omega) (z9N hm));have HPn:Hid (0≤M→q3G st M ct=0):=η46 fun h0=>z6M (dn:=true) (nx:=M) ((q4e _ _ _).2 ⟨(q3S hm).1,by omega,.inl h0⟩) h0 h1
 have HB0:=η46 ((Blk.new w 63 #[.string ⟨st.toArray⟩,.int .i64 nx,.bool true]).ext hxb);have hb1':=Blk.new (w.alloc (.cells #[.string ⟨st.toArray⟩,.int .i64 nx,.bool true] 63)) 63 #[.string ⟨#[]⟩,.int .i64 0,.bool false];rw[World.size_alloc] at hb1';have HB1:=η46 hb1';have HX:=η46 hx2;have HK:=η46 h;have hfl:=z9R (bs:=bs) (st:=st) (fr:=M) (ct:=ct);have hfew:=h.few;have hel:=q3q bs st;have hTl:(z6a bs st M ct).length≤8000:=by omega
 obtain ⟨L,hL⟩: ∃L:Int,((q0u bs st).length:Int)-1=L:=⟨_,rfl⟩
 rw[hL] at HF hM;have hMl: -1≤M∧M≤1073741824:=by omega
 have hMl1:=hMl.1;have hMl2:=hMl.2;clear hx2 hxb hk1 h hb1' hfl hfew hel hL hMl;go_enter Tryz.func59,Tryz.ntmps59;go_wp2_with fail;refine HF.out.mono ?_;rintro e w3 ⟨rfl,k1,k2⟩;have hb0:=HB0.out.same (k2 w.heap.size (.inr (.inl rfl)));have hb1:=HB1.out.same (k2 (w.heap.size+1) (.inr (.inr rfl)));have j0:=hb0.cell 0;have j1:=hb0.cell 1;have j2:=hb0.cell 2;have g1:=hb0.free 1;have hs0:Stay K w w3:=fun i hi=>(k2 i (.inl hi)).trans (HX.out.block i (HK.out.klt i hi))
 have HS0:=η46 hs0;have hlo:wb.heap.size≤w.heap.size:=HK.out.base.size;have hsk:=k1.pokeK (x:=w.heap.size) (.inr (.inl rfl)) hlo 1 (.int .i64 M);have HSk:=η46 hsk;have HLo:=η46 hlo;have HC0:=η46 (hb0.set 1 (.int .i64 M));have HC1:=η46 (hb1.out (i:=w.heap.size) (by omega) 1 (.int .i64 M));have HS1:Hid (Stay K w (w3.setCell ⟨w.heap.size,1,none⟩ (.int .i64 M))):=η46 fun i hi=>(heap_setCell_other w3 ⟨w.heap.size,1,none⟩ i _ (fun e=>by have e2:i=w.heap.size:=e;have:=HK.out.klt i hi;omega)).trans (hs0 i hi)
 have hmin:(min nx L)=M:=hM;have m1:=HC0.out.cell 1;clear k1 k2 hb0 hb1 HF HB0 HB1 hs0 hsk hlo hM;by_cases hneg:M<0
 ·have dneg:decide (M<0)=true:=decide_eq_true hneg
  have HT:Hid (z1m bs st M ct=[]):=η46 (if_pos hneg);clear hneg;go_wp2_with fail;have m0:=HC0.out.cell 0;have m1:=HC0.out.cell 1;have m2:=HC0.out.cell 2;have n0:=HC1.out.cell 0;have n1:=HC1.out.cell 1;have n2:=HC1.out.cell 2;have y0:=HC1.out.free 0;have y1:=HC1.out.free 1;have y2:=HC1.out.free 2;clear j0 j1 j2;refine q1f (fun W:World=>W.cell? ⟨w.heap.size,0,none⟩=some (.string ⟨st.toArray⟩)∧W.cell? ⟨w.heap.size,1,none⟩=some (.int .i64 (M))∧W.cell? ⟨w.heap.size,2,none⟩=some (.bool true)) 3 (by kernel_rfl) ⟨m0,m1,m2⟩ (fun hHeld=>?_);refine q0j (i:=0) (v:=?_) rfl (by kernel_rfl) (fun _ _ _ h=>h) (Or.inl ⟨by rfl,?_⟩) hHeld (fun hHeld=>?_)
  rotate_left
  ·(intro w hSw;(try dsimp only at hSw);go_simp;try with_reducible rfl)
  simp only[Act.put,List.setIfInBounds_toArray,List.set_cons_zero,List.set_cons_succ];refine q0C (i:=1) (v:=?_) rfl (by kernel_rfl) (fun _ _ _ h=>h) (Or.inl ⟨by rfl,?_⟩) hHeld (fun hHeld=>?_)
  rotate_left
  ·(intro w hSw;(try dsimp only at hSw);go_simp;try with_reducible rfl)
  simp only[Act.put,List.setIfInBounds_toArray,List.set_cons_zero,List.set_cons_succ];refine q0x (i:=2) (by kernel_rfl) rfl (fun K hK=>?_)
  go_simp
  refine hK.out _ _ ⟨?_,?_,?_⟩ (fun hHeld=>?_)
  ·go_simp
  ·go_simp
  ·go_simp
  clear hK K
  try simp only[Act.put,List.setIfInBounds_toArray,List.set_cons_zero,List.set_cons_succ]
  refine q1t (by kernel_rfl) ?_
  try simp only[List.drop_succ_cons,List.drop_zero]
  clear hHeld;go_wp2_with fail
  ((try simp only[Exit.inBlock,Exit.then]);refine bodyPost_ret (v:= .tuple #[.slice none 0 0,.agg #[.string ⟨st.toArray⟩,.int .i64 (M),.bool true],.bool true,.int .i64 0]) (by rw[q0V rfl];go_simp) rfl ?_)
  have HP:PgM wb w (w3.setCell ⟨w.heap.size,1,none⟩ (.int .i64 M)) g gs rate sd c s u n bs K w.heap.size (w.heap.size+1) (.slice none 0 0) []:=⟨HSk.out.beside fun i hi=>(by
    rcases hi with hi|hi
    ·exact hi
    ·cases hi),HS1.out,⟨rfl,.inl ⟨rfl,rfl⟩⟩,fun i _ e=>(by cases e),⟨HLo.out,Nat.le_refl _,Nat.le_succ _⟩,HK.out.klt⟩
  have HMz:=((((HP.poke (.inr rfl) 0 (.string ⟨st.toArray⟩)).poke (.inr rfl) 1 (.int .i64 M)).poke (.inr rfl) 2 (.bool true)).done ⟨st,M,true⟩ true 0)
  exact (HMz.drewW).cast HT.out.symm (by rw[HT.out];simp) (by rw[HT.out];simpa using dneg)
 ·have dneg:decide (M<0)=false:=decide_eq_false hneg
  have HT:Hid (z1m bs st M ct=z6a bs st M ct):=η46 (if_neg hneg);have HF:=η46 (HSk.out.backward hn st (by omega) M ct (by omega) (by omega));rw[HPn.out (by omega)] at HF;clear hneg;generalize z6a bs st M ct=T at*;obtain ⟨N,hN⟩: ∃N,T.length=N:=⟨_,rfl⟩
  have HN:=η46 hN;rw[hN] at hTl;have q1:IntKind.i64.wrap (M-(N:Int))=M-(N:Int):=by rw[IntKind.wrap_i64];omega
  clear hN;go_wp2_with fail;refine HF.out.mono ?_;rintro e w5 ⟨v,rfl,k1,k2,k3,k4⟩;obtain ⟨va,vc,rfl⟩:=q0J k3;have hb0:=HC0.out.same (k2 w.heap.size (.inr (.inl rfl)));have hb1:=HC1.out.same (k2 (w.heap.size+1) (.inr (.inr rfl)));have HP:PgM wb w w5 g gs rate sd c s u n bs K w.heap.size (w.heap.size+1) (.slice va T.length vc) T:=⟨k1,fun i hi=>(k2 i (.inl hi)).trans (HS1.out i hi),k3,k4,⟨HLo.out,Nat.le_refl _,Nat.le_succ _⟩,HK.out.klt⟩
  have HMp:=η46 (HP.poke (.inl rfl) 1 (.int .i64 (M-(N:Int))));rw[HN.out] at HMp⊢;have j0:=hb0.cell 0;have j1:=hb0.cell 1;have j2:=hb0.cell 2;have g1:=hb0.free 1;have HD0:=η46 (hb0.set 1 (.int .i64 (M-(N:Int))));have HD1:=η46 (hb1.out (i:=w.heap.size) (by omega) 1 (.int .i64 (M-(N:Int))));clear k1 k2 k3 k4 hb0 hb1 HF HP m1;go_wp2_with fail;have m0:=HD0.out.cell 0;have m1:=HD0.out.cell 1;have m2:=HD0.out.cell 2;have n0:=HD1.out.cell 0;have n1:=HD1.out.cell 1;have n2:=HD1.out.cell 2;have y0:=HD1.out.free 0;have y1:=HD1.out.free 1;have y2:=HD1.out.free 2;clear j0 j1 j2;refine q1f (fun W:World=>W.cell? ⟨w.heap.size,0,none⟩=some (.string ⟨st.toArray⟩)∧W.cell? ⟨w.heap.size,1,none⟩=some (.int .i64 (M-(N:Int)))∧W.cell? ⟨w.heap.size,2,none⟩=some (.bool true)) 7 (by kernel_rfl) ⟨m0,m1,m2⟩ (fun hHeld=>?_);refine q0C (i:=0) (v:=?_) rfl (by kernel_rfl) (fun _ _ _ h=>h) (Or.inl ⟨by rfl,?_⟩) hHeld (fun hHeld=>?_)
  rotate_left
  ·(intro w hSw;(try dsimp only at hSw);go_simp;try with_reducible rfl)
  simp only[Act.put,List.setIfInBounds_toArray,List.set_cons_zero,List.set_cons_succ];refine q0j (i:=1) (v:=?_) rfl (by kernel_rfl) (fun _ _ _ h=>h) (Or.inl ⟨by rfl,?_⟩) hHeld (fun hHeld=>?_)
  rotate_left
  ·(intro w hSw;(try dsimp only at hSw);go_simp;try with_reducible rfl)
  simp only[Act.put,List.setIfInBounds_toArray,List.set_cons_zero,List.set_cons_succ];refine q0C (i:=2) (v:=?_) rfl (by kernel_rfl) (fun _ _ _ h=>h) (Or.inl ⟨by rfl,?_⟩) hHeld (fun hHeld=>?_)
  rotate_left
  ·(intro w hSw;(try dsimp only at hSw);go_simp;try with_reducible rfl)
  simp only[Act.put,List.setIfInBounds_toArray,List.set_cons_zero,List.set_cons_succ];refine q0j (i:=3) (v:=?_) rfl (by kernel_rfl) (fun _ _ _ h=>h) (Or.inl ⟨by rfl,?_⟩) hHeld (fun hHeld=>?_)
  rotate_left
  ·(intro w hSw;(try dsimp only at hSw);go_simp;try with_reducible rfl)
  simp only[Act.put,List.setIfInBounds_toArray,List.set_cons_zero,List.set_cons_succ];refine q0C (i:=4) (v:=?_) rfl (by kernel_rfl) (fun _ _ _ h=>h) (Or.inl ⟨by rfl,?_⟩) hHeld (fun hHeld=>?_)
  rotate_left
  ·(intro w hSw;(try dsimp only at hSw);go_simp;try with_reducible rfl)
  simp only[Act.put,List.setIfInBounds_toArray,List.set_cons_zero,List.set_cons_succ];refine q0C (i:=5) (v:=?_) rfl (by kernel_rfl) (fun _ _ _ h=>h) (Or.inl ⟨by rfl,?_⟩) hHeld (fun hHeld=>?_)
  rotate_left
  ·(intro w hSw;(try dsimp only at hSw);go_simp;try with_reducible rfl)
  simp only[Act.put,List.setIfInBounds_toArray,List.set_cons_zero,List.set_cons_succ];refine q0x (i:=6) (by kernel_rfl) rfl (fun K hK=>?_)
  go_simp
  refine hK.out _ _ ⟨?_,?_,?_⟩ (fun hHeld=>?_)
  ·go_simp
  ·go_simp
  ·go_simp
  clear hK K
  try simp only[Act.put,List.setIfInBounds_toArray,List.set_cons_zero,List.set_cons_succ]
  refine q1t (by kernel_rfl) ?_
  try simp only[List.drop_succ_cons,List.drop_zero]
  clear hHeld;go_wp2_with fail
  ((try simp only[Exit.inBlock,Exit.then]);refine bodyPost_ret (v:= .tuple #[.slice va N vc,.agg #[.string ⟨st.toArray⟩,.int .i64 (M-(N:Int)),.bool true],.bool (decide (M-(N:Int)<0)),.int .i64 0]) (by rw[q0V rfl];go_simp) rfl ?_)
  have HMz:=((((HMp.out.poke (.inr rfl) 0 (.string ⟨st.toArray⟩)).poke (.inr rfl) 1 (.int .i64 (M-(N:Int)))).poke (.inr rfl) 2 (.bool true)).done ⟨st,M-(N:Int),true⟩ (decide (M-(N:Int)<0)) 0)
  exact (HMz.drewW).cast HT.out.symm (by rw[HT.out,HN.out]) (by rw[HT.out,HN.out])
end
end
section
open Go.RowKit
def z6d (C:Cur) (ct:Int):Int:=if q3F C=true∧1≤ct then 0 else 2
def z9K (bs:List Bt) (C:Cur):Int:=min C.nx (((q0u bs C.st).length:Int)-1)
def z5I (bs:List Bt) (C:Cur) (ct:Int):List To:=if z6d C ct≠0 then [] else if C.dn=true then z1m bs C.st (z9K bs C) ct else z3l bs C.st C.nx ct
def z9w (bs:List Bt) (C:Cur) (ct:Int):Cur:=if z6d C ct≠0 then q6R else if C.dn=true then ⟨C.st,z9K bs C-((z5I bs C ct).length:Int),true⟩ else ⟨C.st,C.nx+((z5I bs C ct).length:Int),false⟩
def z9H (bs:List Bt) (C:Cur) (ct:Int):Bool:=if z6d C ct≠0 then false else if C.dn=true then decide (z9K bs C-((z5I bs C ct).length:Int)<0) else decide (((z5I bs C ct).length:Int)<ct)
section
variable {wb w W W':World} {g gs rate u n:Nat} {sd c s:Int} {bs:List Bt} {K K':Nat→Prop}
theorem z6D (h:SK wb w g gs rate sd c s u n bs K) (hn:n≤1000) (C:Cur) (hs:C.st.length≤9223372036854775807) (ct:Int) (h2:ct≤9223372036854775807):
  Calls Tryz.prog 26 #[.pointer (some ⟨gs,0,none⟩),z2e C,.int .i64 ct] w (PageR wb w g gs rate sd c s u n bs K (z5I bs C ct) (z9w bs C ct) (z9H bs C ct) (z6d C ct)):=by
 obtain ⟨st,nx,dn⟩:=C;have hx2:=q2I w (.cells #[.string ⟨st.toArray⟩,.int .i64 nx,.bool dn] 63) (.cells #[.string ⟨#[]⟩,.int .i64 0,.bool false] 63);have hxb:=q0B (w.alloc (.cells #[.string ⟨st.toArray⟩,.int .i64 nx,.bool dn] 63)) (.cells #[.string ⟨#[]⟩,.int .i64 0,.bool false] 63);have HC:=η46 (fun W=>q6K ⟨st,nx,dn⟩ hs W);have HB0:=η46 ((Blk.new w 63 #[.string ⟨st.toArray⟩,.int .i64 nx,.bool dn]).ext hxb);have hb1:=Blk.new (w.alloc (.cells #[.string ⟨st.toArray⟩,.int .i64 nx,.bool dn] 63)) 63 #[.string ⟨#[]⟩,.int .i64 0,.bool false];rw[World.size_alloc] at hb1;have HB1:=η46 hb1;have HX:=η46 hx2;have HK:=η46 h;have hsz:((w.alloc (.cells #[.string ⟨st.toArray⟩,.int .i64 nx,.bool dn] 63)).alloc (.cells #[.string ⟨#[]⟩,.int .i64 0,.bool false] 63)).heap.size=w.heap.size+2:=by simp
 have HSz:=η46 hsz;obtain ⟨z,hz⟩: ∃z,q3F ⟨st,nx,dn⟩=z:=⟨_,rfl⟩
 rw[hz] at HC;have HZ:=η46 hz;obtain ⟨T,hT⟩: ∃T,z5I bs ⟨st,nx,dn⟩ ct=T:=⟨_,rfl⟩
 obtain ⟨X,hX⟩: ∃X,z9w bs ⟨st,nx,dn⟩ ct=X:=⟨_,rfl⟩
 obtain ⟨E,hE⟩: ∃E,z9H bs ⟨st,nx,dn⟩ ct=E:=⟨_,rfl⟩
 obtain ⟨N,hN⟩: ∃N,z6d ⟨st,nx,dn⟩ ct=N:=⟨_,rfl⟩
 have HT:=η46 hT;have HXx:=η46 hX;have HE:=η46 hE;have HN:=η46 hN;rw[hT,hX,hE,hN];clear hx2 hxb hb1 h hsz hz hT hX hE hN;go_enter Tryz.func26,Tryz.ntmps26;go_wp2_with fail;refine (HC.out _).mono ?_;rintro e w1 ⟨rfl,hx⟩;have hb0:=HB0.out.ext hx;have hb1:=HB1.out.ext hx;have HX1:=η46 (HX.out.trans hx);have HD0:=η46 hb0;have HD1:=η46 hb1;have hk1:=HK.out.more (K':=fun i=>K i∨i=w.heap.size∨i=w.heap.size+1) HX1.out fun i hi=>by
  rcases hi with hi|hi
  ·exact .inl hi
  ·exact .inr (by have:=hx.size;have:=HSz.out;omega)
 have HK1:=η46 hk1;have HLo:Hid (wb.heap.size≤w.heap.size):=η46 HK.out.base.size;have k0:=hb0.cell 0;have k1:=hb0.cell 1;have k2:=hb0.cell 2;have l0:=hb1.cell 0;have l1:=hb1.cell 1;have l2:=hb1.cell 2;have f0:=hb1.free 0;have f1:=hb1.free 1;have f2:=hb1.free 2;clear hx hb0 hb1 HC HB0 HB1 hk1 HX;have hno: ∀(hno:N=2),T=[]∧X=q6R∧E=false:=fun hno=>by
  have h0:=HN.out;rw[hno] at h0;refine ⟨by rw[←HT.out];unfold z5I;rw[if_pos (by rw[h0];decide)],by rw[←HXx.out];unfold z9w;rw[if_pos (by rw[h0];decide)],by rw[←HE.out];unfold z9H;rw[if_pos (by rw[h0];decide)]⟩
 have HNo:=η46 hno
 have HP0:Hid (PgM wb w w1 g gs rate sd c s u n bs K w.heap.size (w.heap.size+1) (.slice none 0 0) []):=η46 ⟨HK1.out.beside fun i hi=>(by
    rcases hi with hi|hi
    ·exact hi
    ·cases hi),fun i hi=>HX1.out.block i (HK.out.klt i hi),⟨rfl,.inl ⟨rfl,rfl⟩⟩,fun i _ e=>(by cases e),⟨HLo.out,Nat.le_refl _,Nat.le_succ _⟩,HK.out.klt⟩
 clear hno
 cases z with
 | false=>
  have HN2:Hid (N=2):=η46 (by rw[←HN.out];unfold z6d;exact if_neg fun h=>by rw[HZ.out] at h;cases h.1);obtain ⟨e1,e2,e3⟩:=HNo.out HN2.out;subst e1 e2 e3;go_wp2_with fail
  ((try simp only[Exit.inBlock,Exit.then]);refine bodyPost_ret (v:= .tuple #[.slice none 0 0,.agg #[.string ⟨#[]⟩,.int .i64 0,.bool false],.bool false,.int .i64 2]) (by rw[q0V rfl];go_simp) rfl ?_)
  rw[HN2.out];exact (((HP0.out.poke (.inr rfl) 0 (.string ⟨#[]⟩)).poke (.inr rfl) 1 (.int .i64 0)).poke (.inr rfl) 2 (.bool false)).done q6R false 2
 | true =>
  by_cases h1:ct<1
  ·have d1:decide (ct<(1:Int))=true:=decide_eq_true h1
   have HN2:Hid (N=2):=η46 (by rw[←HN.out];unfold z6d;exact if_neg fun h=>by omega);obtain ⟨e1,e2,e3⟩:=HNo.out HN2.out;subst e1 e2 e3;clear h1;go_wp2_with fail
   ((try simp only[Exit.inBlock,Exit.then]);refine bodyPost_ret (v:= .tuple #[.slice none 0 0,.agg #[.string ⟨#[]⟩,.int .i64 0,.bool false],.bool false,.int .i64 2]) (by rw[q0V rfl];go_simp) rfl ?_)
   rw[HN2.out];exact (((HP0.out.poke (.inr rfl) 0 (.string ⟨#[]⟩)).poke (.inr rfl) 1 (.int .i64 0)).poke (.inr rfl) 2 (.bool false)).done q6R false 2
  ·have d1:decide (ct<(1:Int))=false:=decide_eq_false h1
   have HN0:Hid (N=0):=η46 (by rw[←HN.out];unfold z6d;exact if_pos ⟨HZ.out,by omega⟩);have hn0:=HN.out;rw[HN0.out] at hn0
   cases dn
   ·have HPg:=η46 (z7Q HK1.out hn st nx ct HZ.out (by omega) h2)
    have e1:z3l bs st nx ct=T:=by rw[←HT.out];unfold z5I;rw[if_neg (by rw[hn0];decide)];rfl
    have e2:(⟨st,nx+(T.length:Int),false⟩:Cur)=X:=by rw[←HXx.out];unfold z9w;rw[if_neg (by rw[hn0];decide),HT.out];rfl
    have e3:decide ((T.length:Int)<ct)=E:=by rw[←HE.out];unfold z9H;rw[if_neg (by rw[hn0];decide),HT.out];rfl
    rw[e1,e2,e3] at HPg;clear e1 e2 e3 hn0 h1;go_wp2_with fail;refine HPg.out.mono ?_;rintro e w3 ⟨v,rfl,q1,q2,q3,q4⟩;obtain ⟨va,vc,rfl⟩:=q0J q3;have HM:=η46 (PgM.of HK.out HX1.out (Nat.le_refl _) (Nat.le_succ _) q1 q2 q3 q4);have hb1:=HD1.out.same (q2 (w.heap.size+1) (.inr (.inr rfl)));have l0:=hb1.cell 0;have l1:=hb1.cell 1;have l2:=hb1.cell 2;have f0:=hb1.free 0;have f1:=hb1.free 1;have f2:=hb1.free 2;clear q1 q2 q3 q4 hb1 HPg;obtain ⟨xs,xn,xd⟩:=X;go_wp2_with fail
    ((try simp only[Exit.inBlock,Exit.then]);refine bodyPost_ret (v:= .tuple #[.slice va T.length vc,.agg #[.string ⟨xs.toArray⟩,.int .i64 xn,.bool xd],.bool E,.int .i64 0]) (by rw[q0V rfl];go_simp) rfl ?_)
    rw[HN0.out];exact (((HM.out.poke (.inr rfl) 0 (.string ⟨xs.toArray⟩)).poke (.inr rfl) 1 (.int .i64 xn)).poke (.inr rfl) 2 (.bool xd)).done ⟨xs,xn,xd⟩ E 0
   ·have HPg:=η46 (z9i HK1.out hn st nx ct HZ.out (by omega) h2 (M:=z9K bs ⟨st,nx,true⟩) rfl)
    have e1:z1m bs st (z9K bs ⟨st,nx,true⟩) ct=T:=by rw[←HT.out];unfold z5I;rw[if_neg (by rw[hn0];decide)];rfl
    rw[e1] at HPg;have e2:(⟨st,z9K bs ⟨st,nx,true⟩-(T.length:Int),true⟩:Cur)=X:=by rw[←HXx.out];unfold z9w;rw[if_neg (by rw[hn0];decide),HT.out];rfl
    have e3:decide (z9K bs ⟨st,nx,true⟩-(T.length:Int)<0)=E:=by rw[←HE.out];unfold z9H;rw[if_neg (by rw[hn0];decide),HT.out];rfl
    rw[e2,e3] at HPg;clear e1 e2 e3 hn0 h1;go_wp2_with fail;refine HPg.out.mono ?_;rintro e w3 ⟨v,rfl,q1,q2,q3,q4⟩;obtain ⟨va,vc,rfl⟩:=q0J q3;have HM:=η46 (PgM.of HK.out HX1.out (Nat.le_refl _) (Nat.le_succ _) q1 q2 q3 q4);have hb1:=HD1.out.same (q2 (w.heap.size+1) (.inr (.inr rfl)));have l0:=hb1.cell 0;have l1:=hb1.cell 1;have l2:=hb1.cell 2;have f0:=hb1.free 0;have f1:=hb1.free 1;have f2:=hb1.free 2;clear q1 q2 q3 q4 hb1 HPg;obtain ⟨xs,xn,xd⟩:=X;go_wp2_with fail
    ((try simp only[Exit.inBlock,Exit.then]);refine bodyPost_ret (v:= .tuple #[.slice va T.length vc,.agg #[.string ⟨xs.toArray⟩,.int .i64 xn,.bool xd],.bool E,.int .i64 0]) (by rw[q0V rfl];go_simp) rfl ?_)
    rw[HN0.out];exact (((HM.out.poke (.inr rfl) 0 (.string ⟨xs.toArray⟩)).poke (.inr rfl) 1 (.int .i64 xn)).poke (.inr rfl) 2 (.bool xd)).done ⟨xs,xn,xd⟩ E 0
end
end
end Go.Proofs.YthdekbmdkpcooaaGreatDoor
