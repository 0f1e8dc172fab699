/- Walks. -/
import Derived.Test.YtjjfiejoeelndaaGreatDoorG25Bp
import Derived.Test.YtjjfiejoeelndaaGreatDoorG38Bp
set_option linter.unusedVariables false
set_option linter.unusedSimpArgs false
set_option maxRecDepth 100000
set_option maxHeartbeats 3200000
namespace Go.Proofs.YtjjfiejoeelndaaGreatDoor
theorem η39 {p:Prop} (h:p):Go.RowKit.Hid p:=Lib.hid h
section
open Go.RowKit
def mapN :List UInt8:=[109,97,112]
def q2g :List UInt8:=[110,101,119]
def y4R (w:World) (g:Nat) (F:Nat→Prop) (σ':DM) (r:Got) (e:Ending) (w':World):Prop:=
 ∃a c,e= .returned (.tuple #[.agg #[.int .i64 r.nx,.int .i64 r.ck,.int .u64 r.sd,.slice a r.L.length c],.int .i64 r.en])∧Grid w' a r.L.length c r.L∧DkS w g F σ' w'
theorem z7B {w:World} {g:Nat} {F:Nat→Prop} {σ:DM} (h:Dk w g F σ) (hm:q1c σ mapN=(0,4)):
  Calls Tryz.prog 177 #[.pointer (some ⟨g,0,none⟩)] w (y4R w g F σ ⟨0,0,0,[],4⟩):=by
 have H:=η39 h;have HS:=η39 (q7N (h.ext (q0D w (.cells #[.int .i64 0,.int .i64 0,.int .u64 0,.slice none 0 0] 81))) mapN (by decide));rw[hm] at HS;clear h hm;have hb:=Blk.new w 81 #[.int .i64 0,.int .i64 0,.int .u64 0,.slice none 0 0];have HB:=η39 hb;have d0:=hb.cell 0;have d1:=hb.cell 1;have d2:=hb.cell 2;have d3:=hb.cell 3;have z0:=hb.free 0;have z1:=hb.free 1;have z2:=hb.free 2;have z3:=hb.free 3;clear hb;go_enter Tryz.func177,Tryz.ntmps177;go_wp2_with fail;refine HS.out.mono ?_;rintro e w' ⟨rfl,rfl⟩;go_wp2_with fail
 ((try simp only[Exit.inBlock,Exit.then]);refine bodyPost_ret (v:= .tuple #[.agg #[_,_,_,_],_]) (by rw[results_cell_tmp rfl];go_simp;exact ⟨⟨rfl,rfl,rfl,rfl⟩,rfl⟩) rfl ?_)
 exact ⟨none,0,rfl,Grid.empty _,(DkS.refl H.out).ext (q0D _ _)⟩
theorem z7f {w:World} {g:Nat} {F:Nat→Prop} {σ:DM} (h:Dk w g F σ) {f:FM} (hf:q0H FM.nm mapN σ.L=some f) (hup:σ.down=false):
  Calls Tryz.prog 177 #[.pointer (some ⟨g,0,none⟩)] w (y4R w g F (q2c σ) (q3e f.da)):=by
 have hlt: ∀i,F i→i<w.heap.size:=by obtain ⟨_,_,_,_,_,_,h⟩:=h;exact h
 have hle:f.da.length≤1048576:=by
  have h1:f.da.length≤q0Q σ.L:=q8u (q0L hf).1;have h2:=h.1.used;have h3:=h.1.cap1;omega
 obtain ⟨S,hS⟩: ∃S,f.da=S:=⟨_,rfl⟩
 have hs1:q1c σ mapN=((S.length:Int),0):=by unfold q1c;rw[if_neg (by rw[hup];decide),hf,←hS]
 have hs2:q1p σ mapN 0 (S.length:Int)=(S,0,q2c σ):=by
  unfold q1p;rw[if_neg (by rw[hup];decide),hf];simp only;rw[hS,if_pos (by omega)];simp
 rw[hS] at hle⊢;have HS:=η39 (q7N (h.ext (q0D w (.cells #[.int .i64 0,.int .i64 0,.int .u64 0,.slice none 0 0] 81))) mapN (by decide));rw[hs1] at HS;have HR:=η39 (z4T (h.ext (q0D w (.cells #[.int .i64 0,.int .i64 0,.int .u64 0,.slice none 0 0] 81))) mapN 0 (S.length:Int) (by decide) (by decide) (by decide) (by omega) (by omega));rw[hs2] at HR;have HL:=η39 hlt;clear h hf hup hs1 hs2 hS hlt;have hb:=Blk.new w 81 #[.int .i64 0,.int .i64 0,.int .u64 0,.slice none 0 0];have HB:=η39 hb;have d0:=hb.cell 0;have d1:=hb.cell 1;have d2:=hb.cell 2;have d3:=hb.cell 3;have z0:=hb.free 0;have z1:=hb.free 1;have z2:=hb.free 2;have z3:=hb.free 3;clear hb;go_enter Tryz.func177,Tryz.ntmps177;go_wp2_with fail;refine HS.out.mono ?_;rintro e w' ⟨rfl,rfl⟩;go_wp2_with fail;refine HR.out.mono ?_;rintro e w1 ⟨rfl,hd⟩;have HD:=η39 hd;have HB1:=η39 (HB.out.same (hd.off.block _ HB.out.lt fun hf=>by have:=HL.out _ hf;omega))
 have HZ1:Hid (w.heap.size<w1.heap.size):=η39 HB1.out.lt;clear hd d0 d1 d2 d3 z0 z1 z2 z3;go_wp2_with fail;refine (y3S S w1 (by omega)).mono ?_;rintro e w2 ⟨v,vs,rfl,hog,hx⟩;obtain ⟨a,c,rfl⟩:=hog.own.slice;have HOg:=η39 hog;have HX:=η39 hx;have hb2:=HB1.out.ext hx;have d0:=hb2.cell 0;have d1:=hb2.cell 1;have d2:=hb2.cell 2;have d3:=hb2.cell 3;have z0:=hb2.free 0;have z1:=hb2.free 1;have z2:=hb2.free 2;have z3:=hb2.free 3;clear hog hx hb2;generalize q3e S=G at*;go_wp2_with fail
 ((try simp only[Exit.inBlock,Exit.then]);refine bodyPost_ret (v:= .tuple #[.agg #[_,_,_,_],_]) (by rw[results_cell_tmp rfl];go_simp;exact ⟨⟨rfl,rfl,rfl,rfl⟩,rfl⟩) rfl ?_)
 obtain ⟨a2,c2,e2,hg⟩:=((((HOg.out.setBelow HZ1.out 0 (.int .i64 G.nx)).setBelow HZ1.out 1 (.int .i64 G.ck)).setBelow HZ1.out 2 (.int .u64 G.sd)).setBelow HZ1.out 3 (.slice a G.L.length c)).grid
 cases e2;refine ⟨a,c,rfl,hg,DkS.box (q0D w (.cells #[.int .i64 0,.int .i64 0,.int .u64 0,.slice none 0 0] 81)) (HD.out.ext HX.out) HL.out (by simp[World.setCell]) rfl rfl rfl fun i hi hn=>?_⟩;have hne:i≠w.heap.size:=fun e=>hn (by rw[World.size_alloc];omega)
 rw[q0N _ _ hne,q0N _ _ hne,q0N _ _ hne,q0N _ _ hne]
end
section
open Go.RowKit
end
section
open Go.RowKit
def q3t (r:Int×DM) (k:DM→Int×DM):Int×DM:=if r.1=0 then k r.2 else r
def q6U (σ:DM):Int:=if σ.down then 61 else 0
def q9U (σ:DM) (nm:List UInt8):Int×DM:=if (q0V σ nm).1=4 then (0,(q0V σ nm).2) else q0V σ nm
def y2C (σ:DM) (S:List UInt8):Int×DM:=
 if q4Q σ-(S.length:Int)<6000 then (60,σ) else
 q3t (q0o σ q2g) fun b=>q3t (q1G b q2g S) fun c=>q3t (q4Y c q2g) fun d=>q1g d q2g mapN
def q2E (σ:DM) (S:List UInt8) (e:Int):Int×DM:=
 if e≠0 then (e,σ) else if σ.down then (61,σ) else q3t (q9U σ q2g) fun a=>y2C a S
theorem new_ne_map :q2g≠mapN:=by decide
variable {σ :DM} {o:Option (List UInt8)}
end
section
open Go.RowKit
theorem y3e {nx ck:Int} (sd:Int) {L:List (List Int)} (h:q0Z nx ck L=true):(q1O (q1s nx ck sd L)).length≤300:=by
 have hv:=q2P (q2M h).2.1;have h1:(q0O L).length≤L.length:=by unfold q0O;rw[List.length_take];omega
 have h2:(q0O L).flatten.length≤L.flatten.length:=by unfold q0O;exact q1r L _
 have h3:=hv.1;have h4:=hv.2.1;rw[q0m];unfold q1s;rw[List.length_append,q5e,q5u];omega
theorem z4Q {w:World} {g:Nat} {F:Nat→Prop} {σ:DM} (h:Dk w g F σ):Calls Tryz.prog 180 #[.pointer (some ⟨g,0,none⟩)] w fun e w'=>e= .returned (.int .i64 (q6U σ))∧w=w':=by
 have HS:=η39 (q7N h [] (by decide));have hc: ∃z c,q1c σ []=(z,c)∧((c=61∧q6U σ=61)∨(c=4∧q6U σ=0)∨(c=0∧q6U σ=0)):=by
  unfold q1c q6U
  split
  ·exact ⟨_,_,rfl,.inl ⟨rfl,rfl⟩⟩
  ·split
   ·exact ⟨_,_,rfl,.inr (.inl ⟨rfl,rfl⟩)⟩
   ·exact ⟨_,_,rfl,.inr (.inr ⟨rfl,rfl⟩)⟩
 obtain ⟨z,c,hz,hc⟩:=hc;rw[hz] at HS;clear h hz;rcases hc with ⟨rfl,ho⟩|⟨rfl,ho⟩|⟨rfl,ho⟩<;>rw[ho]<;>clear ho
 all_goals
  go_enter Tryz.func180,Tryz.ntmps180;go_wp2_with fail;refine HS.out.mono ?_;rintro e w' ⟨rfl,rfl⟩;go_wp2_with fail;go_ret;exact ⟨rfl,rfl⟩
theorem y3r {w:World} {g:Nat} {F:Nat→Prop} {σ:DM} (h:Dk w g F σ) (nm:List UInt8) (hl:nm.length≤9223372036854775807):Calls Tryz.prog 205 #[.pointer (some ⟨g,0,none⟩),.string ⟨nm.toArray⟩] w fun e w'=>e= .returned (.int .i64 (q9U σ nm).1)∧DkS w g F (q9U σ nm).2 w':=by
 have HS:=η39 (q6i h nm hl);obtain ⟨r,hr⟩: ∃r,q0V σ nm=r:=⟨_,rfl⟩
 rw[hr] at HS;have HG:Hid (q9U σ nm=if r.1=4 then (0,r.2) else r):=η39 (by unfold q9U;rw[hr]);obtain ⟨c,τ⟩:=r;clear h hr;by_cases h4:c=4
 ·have HE:Hid (q9U σ nm=(0,τ)):=η39 (by rw[HG.out];simp only;rw[if_pos h4])
  subst h4;rw[HE.out];go_enter Tryz.func205,Tryz.ntmps205;go_wp2_with fail;refine HS.out.mono ?_;rintro e w' ⟨rfl,hd⟩;have HD:=η39 hd;clear hd;go_wp2_with fail;go_ret;exact ⟨rfl,HD.out⟩
 ·have HE:Hid (q9U σ nm=(c,τ)):=η39 (by rw[HG.out];simp only;rw[if_neg h4])
  rw[HE.out];have hb1:(c !=4)=true:=by simpa using h4
  have hb2:(c==4)=false:=by simpa using h4
  clear h4;go_enter Tryz.func205,Tryz.ntmps205;go_wp2_with fail;refine HS.out.mono ?_;rintro e w' ⟨rfl,hd⟩;have HD:=η39 hd;clear hd;go_wp2_with fail;go_ret;exact ⟨rfl,HD.out⟩
theorem z3O {w:World} {g:Nat} {F:Nat→Prop} {σ:DM} (h:Dk w g F σ):0≤q4Q σ∧q4Q σ≤1048576:=by
 have h1:=h.1.used;have h2:=h.1.cap1;unfold q4Q;omega
theorem y2n {w:World} {g:Nat} {F:Nat→Prop} {σ:DM} (h:Dk w g F σ) {ao:Option Addr} {n cap:Nat} {nx ck sd:Int} {L:List (List Int)} (hG:Grid w ao n cap L) (hsum:L.flatten.length≤17592186044416) (hwf: ∀x∈L.flatten,(Lit.int .i64 x).wf=true) (hs0:0≤sd) (hs1:sd<18446744073709551616) {S:List UInt8} {E:Int} (hS:q2e nx ck sd L=(S,E)) (hSl:(S.length:Int)≤1000000):
  Calls Tryz.prog 162 #[.pointer (some ⟨g,0,none⟩),.agg #[.int .i64 nx,.int .i64 ck,.int .u64 sd,.slice ao n cap]] w fun e w'=>e= .returned (.int .i64 (q2E σ S E).1)∧DkS w g F (q2E σ S E).2 w':=by
 have hx:=q0D w (.cells #[.int .i64 nx,.int .i64 ck,.int .u64 sd,.slice ao n cap] 81);have HH:=η39 ((DkS.refl h).ext hx);have HP:=η39 (y1F nx ck sd ao n cap L _ (hG.ext hx) hsum hwf hs0 hs1);rw[hS] at HP;have hb:=Blk.new w 81 #[.int .i64 nx,.int .i64 ck,.int .u64 sd,.slice ao n cap];have d0:=hb.cell 0;have d1:=hb.cell 1;have d2:=hb.cell 2;have d3:=hb.cell 3;clear h hG hsum hwf hs0 hs1 hS hx hb;by_cases hE:E=0
 case neg=>
  have HM:Hid (q2E σ S E=(E,σ)):=η39 (by unfold q2E;rw[if_pos hE]);rw[HM.out];have hb1:(E !=0)=true:=by simpa using hE
  clear hE;have ho:q6U σ=61∨q6U σ=0:=by unfold q6U;split;exact .inl rfl;exact .inr rfl
  go_enter Tryz.func162,Tryz.ntmps162;go_wp2_with fail;refine HP.out.mono ?_;rintro e w1 ⟨rfl,hx⟩;have HH:=η39 (HH.out.ext hx);clear hx d0 d1 d2 d3;go_wp2_with fail;refine (z4Q HH.out.dk).mono ?_;rcases ho with ho|ho<;>rw[ho]<;>clear ho
  all_goals
   rintro e w' ⟨rfl,rfl⟩;go_wp2_with fail;go_ret;exact ⟨rfl,HH.out⟩
 case pos=>
 subst hE
 cases hd:σ.down with
 | true=>
  have HM:Hid (q2E σ S 0=(61,σ)):=η39 (by unfold q2E;rw[if_neg (by decide),if_pos hd]);have HO:Hid (q6U σ=61):=η39 (by unfold q6U;rw[if_pos hd]);rw[HM.out];clear hd;go_enter Tryz.func162,Tryz.ntmps162;go_wp2_with fail;refine HP.out.mono ?_;rintro e w1 ⟨rfl,hx⟩;have HH:=η39 (HH.out.ext hx);clear hx d0 d1 d2 d3;go_wp2_with fail;refine (z4Q HH.out.dk).mono ?_;rw[HO.out];rintro e w' ⟨rfl,rfl⟩;go_wp2_with fail;go_ret;exact ⟨rfl,HH.out⟩
 |false=>
 have HO:Hid (q6U σ=0):=η39 (by unfold q6U;rw[if_neg (by rw[hd];decide)]);obtain ⟨r0,e0⟩: ∃r,q9U σ q2g=r:=⟨_,rfl⟩
 have HM0:Hid (q2E σ S 0=q3t r0 fun a=>y2C a S):=η39 (by unfold q2E;rw[if_neg (by decide),if_neg (by rw[hd];decide),e0]);have HE0:=η39 e0;obtain ⟨c0,s0⟩:=r0;clear hd e0;go_enter Tryz.func162,Tryz.ntmps162;go_wp2_with fail;refine HP.out.mono ?_;rintro e w1 ⟨rfl,hx⟩;have HH:=η39 (HH.out.ext hx);clear hx d0 d1 d2 d3;go_wp2_with fail;refine (z4Q HH.out.dk).mono ?_;rw[HO.out];rintro e w' ⟨rfl,rfl⟩;go_wp2_with fail;refine (y3r HH.out.dk q2g (by decide)).mono ?_;rw[HE0.out];rintro e w2 ⟨rfl,hd⟩;have HH:=η39 (HH.out.trans hd);clear hd;by_cases h0:c0=0
 case neg=>
  have hb:(c0 !=0)=true:=by simpa using h0
  have HR:Hid (q2E σ S 0=(c0,s0)):=η39 (by rw[HM0.out,q3t,if_neg h0]);clear h0;go_wp2_with fail;go_ret;rw[HR.out];exact ⟨rfl,HH.out⟩
 case pos=>
 subst h0;have HM1:Hid (q2E σ S 0=y2C s0 S):=η39 (by rw[HM0.out,q3t,if_pos rfl]);have hfb:=z3O HH.out.dk;obtain ⟨fr,hfr⟩: ∃fr,q4Q s0=fr:=⟨_,rfl⟩
 have HFr:=η39 hfr;rw[hfr] at hfb;obtain ⟨hf0,hf1⟩:=hfb;have hw:IntKind.i64.wrap (fr-(S.length:Int))=fr-(S.length:Int):=IntWalk.i64_in _ (by omega);clear hfr;go_wp2_with fail;refine (z7Z HH.out.dk).mono ?_;rw[HFr.out];rintro e w3 ⟨rfl,hx⟩;have HH:=η39 (HH.out.ext hx);clear hx;by_cases hlt:fr-(S.length:Int)<6000
 case pos=>
  have HR:Hid (q2E σ S 0=(60,s0)):=η39 (by rw[HM1.out,y2C,HFr.out,if_pos hlt]);go_wp2_with fail;go_ret;rw[HR.out];exact ⟨rfl,HH.out⟩
 case neg=>
 obtain ⟨r1,e1⟩: ∃r,q0o s0 q2g=r:=⟨_,rfl⟩
 have HM2:Hid (q2E σ S 0=q3t r1 fun b=>q3t (q1G b q2g S) fun c=>q3t (q4Y c q2g) fun d=>q1g d q2g mapN):=η39 (by rw[HM1.out,y2C,HFr.out,if_neg hlt,e1]);have HE1:=η39 e1;obtain ⟨c1,s1⟩:=r1;clear e1;go_wp2_with fail;refine (z0v HH.out.dk q2g (by decide)).mono ?_;rw[HE1.out];rintro e w4 ⟨rfl,hd⟩;have HH:=η39 (HH.out.trans hd);clear hd hw hf0 hf1 hlt;by_cases hc1:c1=0
 case neg=>
  have hb:(c1 !=0)=true:=by simpa using hc1
  have HR:Hid (q2E σ S 0=(c1,s1)):=η39 (by rw[HM2.out,q3t,if_neg hc1]);clear hc1;go_wp2_with fail;go_ret;rw[HR.out];exact ⟨rfl,HH.out⟩
 case pos=>
 subst hc1;obtain ⟨r2,e2⟩: ∃r,q1G s1 q2g S=r:=⟨_,rfl⟩
 have HM3:Hid (q2E σ S 0=q3t r2 fun c=>q3t (q4Y c q2g) fun d=>q1g d q2g mapN):=η39 (by rw[HM2.out,q3t,if_pos rfl];rw[e2]);have HE2:=η39 e2;obtain ⟨c2,s2⟩:=r2;clear e2;go_wp2_with fail;refine (q7r HH.out.dk q2g S (by decide) (by omega)).mono ?_;rw[HE2.out];rintro e w5 ⟨rfl,hd⟩;have HH:=η39 (HH.out.trans hd);clear hd;by_cases hc2:c2=0
 case neg=>
  have hb:(c2 !=0)=true:=by simpa using hc2
  have HR:Hid (q2E σ S 0=(c2,s2)):=η39 (by rw[HM3.out,q3t,if_neg hc2]);clear hc2;go_wp2_with fail;go_ret;rw[HR.out];exact ⟨rfl,HH.out⟩
 case pos=>
 subst hc2;obtain ⟨r3,e3⟩: ∃r,q4Y s2 q2g=r:=⟨_,rfl⟩
 have HM4:Hid (q2E σ S 0=q3t r3 fun d=>q1g d q2g mapN):=η39 (by rw[HM3.out,q3t,if_pos rfl];rw[e3]);have HE3:=η39 e3;obtain ⟨c3,s3⟩:=r3;clear e3;go_wp2_with fail;refine (z4r HH.out.dk q2g (by decide)).mono ?_;rw[HE3.out];rintro e w6 ⟨rfl,hd⟩;have HH:=η39 (HH.out.trans hd);clear hd;by_cases hc3:c3=0
 case neg=>
  have hb:(c3 !=0)=true:=by simpa using hc3
  have HR:Hid (q2E σ S 0=(c3,s3)):=η39 (by rw[HM4.out,q3t,if_neg hc3]);clear hc3;go_wp2_with fail;go_ret;rw[HR.out];exact ⟨rfl,HH.out⟩
 case pos=>
 subst hc3;obtain ⟨r4,e4⟩: ∃r,q1g s3 q2g mapN=r:=⟨_,rfl⟩
 have HM5:Hid (q2E σ S 0=r4):=η39 (by rw[HM4.out,q3t,if_pos rfl];exact e4);have HE4:=η39 e4;obtain ⟨c4,s4⟩:=r4;clear e4;go_wp2_with fail;refine (z9q HH.out.dk q2g mapN (by decide) (by decide)).mono ?_;rw[HE4.out];rintro e w7 ⟨rfl,hd⟩;have HH:=η39 (HH.out.trans hd);clear hd;go_wp2_with fail;go_ret;rw[HM5.out];exact ⟨rfl,HH.out⟩
end
end Go.Proofs.YtjjfiejoeelndaaGreatDoor
