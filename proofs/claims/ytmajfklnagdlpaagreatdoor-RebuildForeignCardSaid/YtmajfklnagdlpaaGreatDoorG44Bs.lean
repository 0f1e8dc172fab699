/- Walks: the manifest that lies on a disk. Walks: the chapter's manifest on a disk; the law IndexmapLoad. Plain laws: a manifest that is laid on a disk, whenever the disk goes down. Walks: a manifest is laid on any disk. -/
import Derived.Test.YtmajfklnagdlpaaGreatDoorG28Bs
import Derived.Test.YtmajfklnagdlpaaGreatDoorG43Bs
import Derived.Test.YtmajfklnagdlpaaGreatDoorG42Bs
import Derived.Test.YtmajfklnagdlpaaGreatDoorG9Bs
set_option linter.unusedVariables false
set_option linter.unusedSimpArgs false
namespace Go.Proofs.YtmajfklnagdlpaaGreatDoor
open Go.RowKit
def mapN :List UInt8:=[109,97,112]
def q1u :List UInt8:=[110,101,119]
def z9u (w:World) (g:Nat) (F:Nat→Prop) (σ':DM) (r:Got) (e:Ending) (w':World):Prop:=
  ∃a c,e= .returned (.tuple #[.agg #[.int .i64 r.nx,.int .i64 r.ck,.int .u64 r.sd,.slice a r.L.length c],.int .i64 r.en])∧Grid w' a r.L.length c r.L∧DkS w g F σ' w'
set_option maxRecDepth 100000
set_option linter.unusedVariables false
set_option maxHeartbeats 3200000
theorem z4G {w:World} {g:Nat} {F:Nat→Prop} {σ:DM} (h:Dk w g F σ) (hm:q1B σ mapN=(0,4)):
    Calls Tryz.prog 127 #[.pointer (some ⟨g,0,none⟩)] w (z9u w g F σ ⟨0,0,0,[],4⟩):=by
  have H:=Lib.hid h
  have HS:=Lib.hid (q4b (h.ext (q0C w (.cells #[.int .i64 0,.int .i64 0,.int .u64 0,.slice none 0 0] 45))) mapN (by decide))
  rw[hm] at HS
  clear h hm
  have hb:=Blk.new w 45 #[.int .i64 0,.int .i64 0,.int .u64 0,.slice none 0 0]
  have HB:=Lib.hid hb
  have d0:=hb.cell 0;have d1:=hb.cell 1;have d2:=hb.cell 2;have d3:=hb.cell 3
  have z0:=hb.free 0;have z1:=hb.free 1;have z2:=hb.free 2;have z3:=hb.free 3
  clear hb
  go_enter Tryz.func127,Tryz.ntmps127
  go_wp2_with fail
  refine HS.out.mono ?_
  rintro e w' ⟨rfl,rfl⟩
  go_wp2_with fail
  ((try simp only[Exit.inBlock,Exit.then]);refine bodyPost_ret (v:= .tuple #[.agg #[_,_,_,_],_]) (by rw[results_cell_tmp rfl];go_simp;exact ⟨⟨rfl,rfl,rfl,rfl⟩,rfl⟩) rfl ?_)
  exact ⟨none,0,rfl,Grid.empty _,(DkS.refl H.out).ext (q0C _ _)⟩
theorem z3L {w:World} {g:Nat} {F:Nat→Prop} {σ:DM} (h:Dk w g F σ) {f:FM} (hf:q0E FM.nm mapN σ.L=some f) (hup:σ.down=false):
    Calls Tryz.prog 127 #[.pointer (some ⟨g,0,none⟩)] w (z9u w g F (q3H σ) (q2m f.da)):=by
  have hlt: ∀i,F i→i<w.heap.size:=by obtain ⟨_,_,_,_,_,_,h⟩:=h;exact h
  have hle:f.da.length≤1048576:=by
    have h1:f.da.length≤q0L σ.L:=q6w (q0H hf).1
    have h2:=h.1.used;have h3:=h.1.cap1
    omega
  obtain ⟨S,hS⟩: ∃S,f.da=S:=⟨_,rfl⟩
  have hs1:q1B σ mapN=((S.length:Int),0):=by unfold q1B;rw[if_neg (by rw[hup];decide),hf,←hS]
  have hs2:q3e σ mapN 0 (S.length:Int)=(S,0,q3H σ):=by
    unfold q3e
    rw[if_neg (by rw[hup];decide),hf]
    simp only
    rw[hS,if_pos (by omega)]
    simp
  rw[hS] at hle⊢
  have HS:=Lib.hid (q4b (h.ext (q0C w (.cells #[.int .i64 0,.int .i64 0,.int .u64 0,.slice none 0 0] 45))) mapN (by decide))
  rw[hs1] at HS
  have HR:=Lib.hid (z4S (h.ext (q0C w (.cells #[.int .i64 0,.int .i64 0,.int .u64 0,.slice none 0 0] 45))) mapN 0 (S.length:Int) (by decide) (by decide) (by decide) (by omega) (by omega))
  rw[hs2] at HR
  have HL:=Lib.hid hlt
  clear h hf hup hs1 hs2 hS hlt
  have hb:=Blk.new w 45 #[.int .i64 0,.int .i64 0,.int .u64 0,.slice none 0 0]
  have HB:=Lib.hid hb
  have d0:=hb.cell 0;have d1:=hb.cell 1;have d2:=hb.cell 2;have d3:=hb.cell 3
  have z0:=hb.free 0;have z1:=hb.free 1;have z2:=hb.free 2;have z3:=hb.free 3
  clear hb
  go_enter Tryz.func127,Tryz.ntmps127
  go_wp2_with fail
  refine HS.out.mono ?_
  rintro e w' ⟨rfl,rfl⟩
  go_wp2_with fail
  refine HR.out.mono ?_
  rintro e w1 ⟨rfl,hd⟩
  have HD:=Lib.hid hd
  have HB1:=Lib.hid (HB.out.same (hd.off.block _ HB.out.lt fun hf=>by have:=HL.out _ hf;omega))
  have HZ1:Hid (w.heap.size<w1.heap.size):=Lib.hid HB1.out.lt
  clear hd d0 d1 d2 d3 z0 z1 z2 z3
  go_wp2_with fail
  refine (z8q S w1 (by omega)).mono ?_
  rintro e w2 ⟨v,vs,rfl,hog,hx⟩
  obtain ⟨a,c,rfl⟩:=hog.own.slice
  have HOg:=Lib.hid hog;have HX:=Lib.hid hx
  have hb2:=HB1.out.ext hx
  have d0:=hb2.cell 0;have d1:=hb2.cell 1;have d2:=hb2.cell 2;have d3:=hb2.cell 3
  have z0:=hb2.free 0;have z1:=hb2.free 1;have z2:=hb2.free 2;have z3:=hb2.free 3
  clear hog hx hb2
  generalize q2m S=G at*
  go_wp2_with fail
  ((try simp only[Exit.inBlock,Exit.then]);refine bodyPost_ret (v:= .tuple #[.agg #[_,_,_,_],_]) (by rw[results_cell_tmp rfl];go_simp;exact ⟨⟨rfl,rfl,rfl,rfl⟩,rfl⟩) rfl ?_)
  obtain ⟨a2,c2,e2,hg⟩:=((((HOg.out.setBelow HZ1.out 0 (.int .i64 G.nx)).setBelow HZ1.out 1 (.int .i64 G.ck)).setBelow HZ1.out 2 (.int .u64 G.sd)).setBelow HZ1.out 3 (.slice a G.L.length c)).grid
  cases e2
  refine ⟨a,c,rfl,hg,DkS.box (q0C w (.cells #[.int .i64 0,.int .i64 0,.int .u64 0,.slice none 0 0] 45)) (HD.out.ext HX.out) HL.out (by simp[World.setCell]) rfl rfl rfl fun i hi hn=>?_⟩
  have hne:i≠w.heap.size:=fun e=>hn (by rw[World.size_alloc];omega)
  rw[q0I _ _ hne,q0I _ _ hne,q0I _ _ hne,q0I _ _ hne]
end Go.Proofs.YtmajfklnagdlpaaGreatDoor
namespace Go.Proofs.YtmajfklnagdlpaaGreatDoor
open Go.RowKit
set_option maxRecDepth 100000
set_option linter.unusedVariables false
set_option maxHeartbeats 3200000
end Go.Proofs.YtmajfklnagdlpaaGreatDoor
namespace Go.Proofs.YtmajfklnagdlpaaGreatDoor
open Go.RowKit
def q2p (r:Int×DM) (k:DM→Int×DM):Int×DM:=if r.1=0 then k r.2 else r
def q4k (σ:DM):Int:=if σ.down then 61 else 0
def q6P (σ:DM) (nm:List UInt8):Int×DM:=if (q0O σ nm).1=4 then (0,(q0O σ nm).2) else q0O σ nm
def z7G (σ:DM) (S:List UInt8):Int×DM:=
  if q3M σ-(S.length:Int)<6000 then (60,σ) else
  q2p (q0f σ q1u) fun b=>q2p (q0r b q1u S) fun c=>q2p (q3W c q1u) fun d=>q1H d q1u mapN
def q1Z (σ:DM) (S:List UInt8) (e:Int):Int×DM:=
  if e≠0 then (e,σ) else if σ.down then (61,σ) else q2p (q6P σ q1u) fun a=>z7G a S
theorem new_ne_map :q1u≠mapN:=by decide
variable {σ :DM} {o:Option (List UInt8)}
end Go.Proofs.YtmajfklnagdlpaaGreatDoor
namespace Go.Proofs.YtmajfklnagdlpaaGreatDoor
open Go.RowKit
theorem z8w {nx ck:Int} (sd:Int) {L:List (List Int)} (h:q0T nx ck L=true):(q0w (q1O nx ck sd L)).length≤300:=by
  have hv:=q2w (q1i h).2.1
  have h1:(q0N L).length≤L.length:=by unfold q0N;rw[List.length_take];omega
  have h2:(q0N L).flatten.length≤L.flatten.length:=by unfold q0N;exact q1N L _
  have h3:=hv.1;have h4:=hv.2.1
  rw[q0b]
  unfold q1O
  rw[List.length_append,q4K,q4R]
  omega
set_option maxRecDepth 100000
set_option linter.unusedVariables false
set_option maxHeartbeats 3200000
theorem z1K {w:World} {g:Nat} {F:Nat→Prop} {σ:DM} (h:Dk w g F σ):Calls Tryz.prog 131 #[.pointer (some ⟨g,0,none⟩)] w fun e w'=>e= .returned (.int .i64 (q4k σ))∧w=w':=by
  have HS:=Lib.hid (q4b h [] (by decide))
  have hc: ∃z c,q1B σ []=(z,c)∧((c=61∧q4k σ=61)∨(c=4∧q4k σ=0)∨(c=0∧q4k σ=0)):=by
    unfold q1B q4k
    split
    · exact ⟨_,_,rfl,.inl ⟨rfl,rfl⟩⟩
    · split
      · exact ⟨_,_,rfl,.inr (.inl ⟨rfl,rfl⟩)⟩
      · exact ⟨_,_,rfl,.inr (.inr ⟨rfl,rfl⟩)⟩
  obtain ⟨z,c,hz,hc⟩:=hc
  rw[hz] at HS
  clear h hz
  rcases hc with ⟨rfl,ho⟩|⟨rfl,ho⟩|⟨rfl,ho⟩<;>rw[ho]<;>clear ho
  all_goals
    go_enter Tryz.func131,Tryz.ntmps131
    go_wp2_with fail
    refine HS.out.mono ?_
    rintro e w' ⟨rfl,rfl⟩
    go_wp2_with fail
    go_ret
    exact ⟨rfl,rfl⟩
theorem z8m {w:World} {g:Nat} {F:Nat→Prop} {σ:DM} (h:Dk w g F σ) (nm:List UInt8) (hl:nm.length≤9223372036854775807):Calls Tryz.prog 196 #[.pointer (some ⟨g,0,none⟩),.string ⟨nm.toArray⟩] w fun e w'=>e= .returned (.int .i64 (q6P σ nm).1)∧DkS w g F (q6P σ nm).2 w':=by
  have HS:=Lib.hid (q4e h nm hl)
  obtain ⟨r,hr⟩: ∃r,q0O σ nm=r:=⟨_,rfl⟩
  rw[hr] at HS
  have HG:Hid (q6P σ nm=if r.1=4 then (0,r.2) else r):=Lib.hid (by unfold q6P;rw[hr])
  obtain ⟨c,τ⟩:=r
  clear h hr
  by_cases h4:c=4
  · have HE:Hid (q6P σ nm=(0,τ)):=Lib.hid (by rw[HG.out];simp only;rw[if_pos h4])
    subst h4
    rw[HE.out]
    go_enter Tryz.func196,Tryz.ntmps196
    go_wp2_with fail
    refine HS.out.mono ?_
    rintro e w' ⟨rfl,hd⟩
    have HD:=Lib.hid hd
    clear hd
    go_wp2_with fail
    go_ret
    exact ⟨rfl,HD.out⟩
  · have HE:Hid (q6P σ nm=(c,τ)):=Lib.hid (by rw[HG.out];simp only;rw[if_neg h4])
    rw[HE.out]
    have hb1:(c !=4)=true:=by simpa using h4
    have hb2:(c==4)=false:=by simpa using h4
    clear h4
    go_enter Tryz.func196,Tryz.ntmps196
    go_wp2_with fail
    refine HS.out.mono ?_
    rintro e w' ⟨rfl,hd⟩
    have HD:=Lib.hid hd
    clear hd
    go_wp2_with fail
    go_ret
    exact ⟨rfl,HD.out⟩
theorem z0T {w:World} {g:Nat} {F:Nat→Prop} {σ:DM} (h:Dk w g F σ):0≤q3M σ∧q3M σ≤1048576:=by
  have h1:=h.1.used;have h2:=h.1.cap1;unfold q3M;omega
theorem z8d {w:World} {g:Nat} {F:Nat→Prop} {σ:DM} (h:Dk w g F σ) {ao:Option Addr} {n cap:Nat} {nx ck sd:Int} {L:List (List Int)} (hG:Grid w ao n cap L) (hsum:L.flatten.length≤17592186044416) (hwf: ∀x∈L.flatten,(Lit.int .i64 x).wf=true) (hs0:0≤sd) (hs1:sd<18446744073709551616) {S:List UInt8} {E:Int} (hS:q1s nx ck sd L=(S,E)) (hSl:(S.length:Int)≤1000000):
    Calls Tryz.prog 139 #[.pointer (some ⟨g,0,none⟩),.agg #[.int .i64 nx,.int .i64 ck,.int .u64 sd,.slice ao n cap]] w fun e w'=>e= .returned (.int .i64 (q1Z σ S E).1)∧DkS w g F (q1Z σ S E).2 w':=by
  have hx:=q0C w (.cells #[.int .i64 nx,.int .i64 ck,.int .u64 sd,.slice ao n cap] 45)
  have HH:=Lib.hid ((DkS.refl h).ext hx)
  have HP:=Lib.hid (z6j nx ck sd ao n cap L _ (hG.ext hx) hsum hwf hs0 hs1)
  rw[hS] at HP
  have hb:=Blk.new w 45 #[.int .i64 nx,.int .i64 ck,.int .u64 sd,.slice ao n cap]
  have d0:=hb.cell 0;have d1:=hb.cell 1;have d2:=hb.cell 2;have d3:=hb.cell 3
  clear h hG hsum hwf hs0 hs1 hS hx hb
  by_cases hE:E=0
  case neg=>
    have HM:Hid (q1Z σ S E=(E,σ)):=Lib.hid (by unfold q1Z;rw[if_pos hE])
    rw[HM.out]
    have hb1:(E !=0)=true:=by simpa using hE
    clear hE
    have ho:q4k σ=61∨q4k σ=0:=by unfold q4k;split;exact .inl rfl;exact .inr rfl
    go_enter Tryz.func139,Tryz.ntmps139
    go_wp2_with fail
    refine HP.out.mono ?_
    rintro e w1 ⟨rfl,hx⟩
    have HH:=Lib.hid (HH.out.ext hx)
    clear hx d0 d1 d2 d3
    go_wp2_with fail
    refine (z1K HH.out.dk).mono ?_
    rcases ho with ho|ho<;>rw[ho]<;>clear ho
    all_goals
      rintro e w' ⟨rfl,rfl⟩
      go_wp2_with fail
      go_ret
      exact ⟨rfl,HH.out⟩
  case pos=>
  subst hE
  cases hd:σ.down with
  | true=>
    have HM:Hid (q1Z σ S 0=(61,σ)):=Lib.hid (by unfold q1Z;rw[if_neg (by decide),if_pos hd])
    have HO:Hid (q4k σ=61):=Lib.hid (by unfold q4k;rw[if_pos hd])
    rw[HM.out]
    clear hd
    go_enter Tryz.func139,Tryz.ntmps139
    go_wp2_with fail
    refine HP.out.mono ?_
    rintro e w1 ⟨rfl,hx⟩
    have HH:=Lib.hid (HH.out.ext hx)
    clear hx d0 d1 d2 d3
    go_wp2_with fail
    refine (z1K HH.out.dk).mono ?_
    rw[HO.out]
    rintro e w' ⟨rfl,rfl⟩
    go_wp2_with fail
    go_ret
    exact ⟨rfl,HH.out⟩
  |false=>
  have HO:Hid (q4k σ=0):=Lib.hid (by unfold q4k;rw[if_neg (by rw[hd];decide)])
  obtain ⟨r0,e0⟩: ∃r,q6P σ q1u=r:=⟨_,rfl⟩
  have HM0:Hid (q1Z σ S 0=q2p r0 fun a=>z7G a S):=Lib.hid (by unfold q1Z;rw[if_neg (by decide),if_neg (by rw[hd];decide),e0])
  have HE0:=Lib.hid e0
  obtain ⟨c0,s0⟩:=r0
  clear hd e0
  go_enter Tryz.func139,Tryz.ntmps139
  go_wp2_with fail
  refine HP.out.mono ?_
  rintro e w1 ⟨rfl,hx⟩
  have HH:=Lib.hid (HH.out.ext hx)
  clear hx d0 d1 d2 d3
  go_wp2_with fail
  refine (z1K HH.out.dk).mono ?_
  rw[HO.out]
  rintro e w' ⟨rfl,rfl⟩
  go_wp2_with fail
  refine (z8m HH.out.dk q1u (by decide)).mono ?_
  rw[HE0.out]
  rintro e w2 ⟨rfl,hd⟩
  have HH:=Lib.hid (HH.out.trans hd)
  clear hd
  by_cases h0:c0=0
  case neg=>
    have hb:(c0 !=0)=true:=by simpa using h0
    have HR:Hid (q1Z σ S 0=(c0,s0)):=Lib.hid (by rw[HM0.out,q2p,if_neg h0])
    clear h0
    go_wp2_with fail
    go_ret
    rw[HR.out]
    exact ⟨rfl,HH.out⟩
  case pos=>
  subst h0
  have HM1:Hid (q1Z σ S 0=z7G s0 S):=Lib.hid (by rw[HM0.out,q2p,if_pos rfl])
  have hfb:=z0T HH.out.dk
  obtain ⟨fr,hfr⟩: ∃fr,q3M s0=fr:=⟨_,rfl⟩
  have HFr:=Lib.hid hfr
  rw[hfr] at hfb
  obtain ⟨hf0,hf1⟩:=hfb
  have hw:IntKind.i64.wrap (fr-(S.length:Int))=fr-(S.length:Int):=IntWalk.i64_in _ (by omega)
  clear hfr
  go_wp2_with fail
  refine (z4V HH.out.dk).mono ?_
  rw[HFr.out]
  rintro e w3 ⟨rfl,hx⟩
  have HH:=Lib.hid (HH.out.ext hx)
  clear hx
  by_cases hlt:fr-(S.length:Int)<6000
  case pos=>
    have HR:Hid (q1Z σ S 0=(60,s0)):=Lib.hid (by rw[HM1.out,z7G,HFr.out,if_pos hlt])
    go_wp2_with fail
    go_ret
    rw[HR.out]
    exact ⟨rfl,HH.out⟩
  case neg=>
  obtain ⟨r1,e1⟩: ∃r,q0f s0 q1u=r:=⟨_,rfl⟩
  have HM2:Hid (q1Z σ S 0=q2p r1 fun b=>q2p (q0r b q1u S) fun c=>q2p (q3W c q1u) fun d=>q1H d q1u mapN):=Lib.hid (by rw[HM1.out,z7G,HFr.out,if_neg hlt,e1])
  have HE1:=Lib.hid e1
  obtain ⟨c1,s1⟩:=r1
  clear e1
  go_wp2_with fail
  refine (q8c HH.out.dk q1u (by decide)).mono ?_
  rw[HE1.out]
  rintro e w4 ⟨rfl,hd⟩
  have HH:=Lib.hid (HH.out.trans hd)
  clear hd hw hf0 hf1 hlt
  by_cases hc1:c1=0
  case neg=>
    have hb:(c1 !=0)=true:=by simpa using hc1
    have HR:Hid (q1Z σ S 0=(c1,s1)):=Lib.hid (by rw[HM2.out,q2p,if_neg hc1])
    clear hc1
    go_wp2_with fail
    go_ret
    rw[HR.out]
    exact ⟨rfl,HH.out⟩
  case pos=>
  subst hc1
  obtain ⟨r2,e2⟩: ∃r,q0r s1 q1u S=r:=⟨_,rfl⟩
  have HM3:Hid (q1Z σ S 0=q2p r2 fun c=>q2p (q3W c q1u) fun d=>q1H d q1u mapN):=Lib.hid (by rw[HM2.out,q2p,if_pos rfl];rw[e2])
  have HE2:=Lib.hid e2
  obtain ⟨c2,s2⟩:=r2
  clear e2
  go_wp2_with fail
  refine (q5y HH.out.dk q1u S (by decide) (by omega)).mono ?_
  rw[HE2.out]
  rintro e w5 ⟨rfl,hd⟩
  have HH:=Lib.hid (HH.out.trans hd)
  clear hd
  by_cases hc2:c2=0
  case neg=>
    have hb:(c2 !=0)=true:=by simpa using hc2
    have HR:Hid (q1Z σ S 0=(c2,s2)):=Lib.hid (by rw[HM3.out,q2p,if_neg hc2])
    clear hc2
    go_wp2_with fail
    go_ret
    rw[HR.out]
    exact ⟨rfl,HH.out⟩
  case pos=>
  subst hc2
  obtain ⟨r3,e3⟩: ∃r,q3W s2 q1u=r:=⟨_,rfl⟩
  have HM4:Hid (q1Z σ S 0=q2p r3 fun d=>q1H d q1u mapN):=Lib.hid (by rw[HM3.out,q2p,if_pos rfl];rw[e3])
  have HE3:=Lib.hid e3
  obtain ⟨c3,s3⟩:=r3
  clear e3
  go_wp2_with fail
  refine (z1c HH.out.dk q1u (by decide)).mono ?_
  rw[HE3.out]
  rintro e w6 ⟨rfl,hd⟩
  have HH:=Lib.hid (HH.out.trans hd)
  clear hd
  by_cases hc3:c3=0
  case neg=>
    have hb:(c3 !=0)=true:=by simpa using hc3
    have HR:Hid (q1Z σ S 0=(c3,s3)):=Lib.hid (by rw[HM4.out,q2p,if_neg hc3])
    clear hc3
    go_wp2_with fail
    go_ret
    rw[HR.out]
    exact ⟨rfl,HH.out⟩
  case pos=>
  subst hc3
  obtain ⟨r4,e4⟩: ∃r,q1H s3 q1u mapN=r:=⟨_,rfl⟩
  have HM5:Hid (q1Z σ S 0=r4):=Lib.hid (by rw[HM4.out,q2p,if_pos rfl];exact e4)
  have HE4:=Lib.hid e4
  obtain ⟨c4,s4⟩:=r4
  clear e4
  go_wp2_with fail
  refine (z6X HH.out.dk q1u mapN (by decide) (by decide)).mono ?_
  rw[HE4.out]
  rintro e w7 ⟨rfl,hd⟩
  have HH:=Lib.hid (HH.out.trans hd)
  clear hd
  go_wp2_with fail
  go_ret
  rw[HM5.out]
  exact ⟨rfl,HH.out⟩
end Go.Proofs.YtmajfklnagdlpaaGreatDoor
