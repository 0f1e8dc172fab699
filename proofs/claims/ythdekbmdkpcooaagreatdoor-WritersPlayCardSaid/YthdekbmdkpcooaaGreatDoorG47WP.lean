/- Walks. -/
import Derived.Test.YthdekbmdkpcooaaGreatDoorG45WP
import Derived.Test.YthdekbmdkpcooaaGreatDoorG46WP
set_option linter.unusedVariables false
set_option linter.unusedSimpArgs false
set_option maxRecDepth 100000
set_option maxHeartbeats 6400000
namespace Go.Proofs.YthdekbmdkpcooaaGreatDoor
theorem η47 {p:Prop} (h:p):Go.RowKit.Hid p:=Lib.hid h
section
open Go.RowKit
section
variable {wb w W W':World} {g gs gw rate u n:Nat} {sd c s:Int} {bs:List Bt} {K K':Nat→Prop}
theorem SK.poke (h:SK wb W g gs rate sd c s u n bs (fun i=>K i∨i=gw)) (hb:wb.heap.size≤gw) (j:Nat) (v:Value):SK wb (W.setCell ⟨gw,j,none⟩ v) g gs rate sd c s u n bs (fun i=>K i∨i=gw):=by
 refine h.sideM (by rw[World.size_setCell];exact Nat.le_refl _) (Below.setCell h.base hb v) (fun i hi hn=>?_) fun i hi=> .inl hi
 exact heap_setCell_other W ⟨gw,j,none⟩ i v (fun e=>hn (.inr e))
theorem q9F (h:SK wb w g gs rate sd c s u n bs (fun i=>K i∨i=gw)) (hn:n≤86) (hroom:(u:Int)+8024≤c) (hgw:¬K gw) (hbw:wb.heap.size≤gw) {str:List UInt8} {a:Int} (hw:WrI w gw gs str a) (hs:str.length≤4611686018427387903) (ha: -1≤a) (ha2:a≤1000000)
  {ao:Option Addr} {k cap:Nat} {L:List Ev} (hx: ∀W,Ext wb W→Stay K w W→Evs W ao k cap L) (hk:k≤1000000) (hL:q1A L) (hwe: ∀e∈L,e.we<18446744073709551616):
  Calls Tryz.prog 14 #[.pointer (some ⟨gw,0,none⟩),.slice ao k cap] w fun e w'=>e= .returned (.tuple #[.int .i64 (wrN bs str a L).1,.bool (wrN bs str a L).2.1,.int .i64 (wrN bs str a L).2.2])∧
   SK wb w' g gs rate sd c s (u+2024) (n+1) (wrB bs str a L) (fun i=>K i∨i=gw)∧Stay K w w'∧WrI w' gw gs str (wrA bs str a L):=by
 have hev:=hx w h.base (Stay.refl _ _);have hlen:=hev.len;have hq:=hev.fits;have hq2:=hev.bound;obtain ⟨z,hz⟩: ∃z,q8A bs str a L=z:=⟨_,rfl⟩
 obtain ⟨tb,htb⟩: ∃tb,q2z bs str a L=tb:=⟨_,rfl⟩
 have HN:Hid (wrN bs str a L=if z=0 then (a+1,false,0) else if z=80∧tb=true then (a+1,true,0) else (0,false,z)):=η47 (by unfold wrN;rw[hz,htb]);have HB:Hid (wrB bs str a L=if z=0 then bs++[⟨str,(q0T bs str).length,L⟩] else bs):=η47 (by unfold wrB;rw[hz]);have HA:Hid (wrA bs str a L=if (wrN bs str a L).2.2=0 then a+(k:Int) else a):=η47 (by unfold wrA;rw[hlen]);have HAp:=η47 ((h.grow (Ext.refl _).drew).append hn str hs a (fun W k1 k2=>hx W k1 fun i hi=>k2 i (.inl hi)) hL hwe hz)
 have HTh:=η47 (fun (W:World) (bs':List Bt) (hbs:bs'=bs) (h1:SK wb W g gs rate sd c s (u+2024) (n+1) bs' (fun i=>K i∨i=gw)) (h2:Stay (fun i=>K i∨i=gw) w W)=>
  y0N h1 (by omega) (hw.same (h2 gw (.inr rfl))) (.inr rfl) hs ha (by omega) (fun W' k1 k2=>hx W' k1 fun i hi=>(k2 i (.inl hi)).trans (h2 i (.inl hi))) hk)
 have k0:=hw.cell 0;have k1:=hw.cell 1;have k2:=hw.cell 2;have HW:=η47 hw;have d0:=q0A (Ext.refl _).drew k0;have d1:=q0A (Ext.refl _).drew k1;have d2:=q0A (Ext.refl _).drew k2;have q1:IntKind.i64.wrap (a+1)=a+1:=by rw[IntKind.wrap_i64];omega
 have q2:IntKind.i64.wrap (a+(k:Int))=a+(k:Int):=by rw[IntKind.wrap_i64];omega
 have HTb:=η47 htb;clear hx hev h hw hz htb;go_enter Tryz.func14,Tryz.ntmps14;go_wp2_with fail
 go_region_held3 (fun W=>W.cell? ⟨gw,0,none⟩=some (.pointer (some ⟨gs,0,none⟩))∧W.cell? ⟨gw,1,none⟩=some (.string ⟨str.toArray⟩)∧W.cell? ⟨gw,2,none⟩=some (.int .i64 a))
  (first|exact HC3.out|exact ⟨d0,d1,d2⟩)
  (first|(go_at_call 12;refine HAp.out.mono ?_;rintro e w3 ⟨x,y,bs',rfl,h1,h2,h3⟩;have HK3:=η47 h1;have HS3:Hid (Stay (fun i=>K i∨i=gw) w w3):=η47 h2;have HR3:=η47 h3;have HC3:Hid (w3.cell? ⟨gw,0,none⟩=some (.pointer (some ⟨gs,0,none⟩))∧w3.cell? ⟨gw,1,none⟩=some (.string ⟨str.toArray⟩)∧w3.cell? ⟨gw,2,none⟩=some (.int .i64 a)):=η47 ⟨(World.cell?_of_block (a:=⟨gw,0,none⟩) (h2 gw (.inr rfl))).trans k0,(World.cell?_of_block (a:=⟨gw,1,none⟩) (h2 gw (.inr rfl))).trans k1,(World.cell?_of_block (a:=⟨gw,2,none⟩) (h2 gw (.inr rfl))).trans k2⟩;clear h1 h2 h3))
 clear HC3 d0 d1 d2 k0 k1 k2;have HIs:=η47 (fun W=>z8H y 80 W);have hcase:(z=0∧y=0∧bs'=bs++[⟨str,(q0T bs str).length,L⟩])∨(z≠0∧y=z∧bs'=bs):=by
  rcases HR3.out with ⟨r1,_,r2,r3⟩|⟨_,_,_,_,r5⟩|⟨r1,_,r2,r3⟩
  ·exact .inr ⟨r1,r2,r3⟩
  ·omega
  ·exact .inl ⟨r1,r2,r3⟩
 rcases hcase with ⟨hz0,rfl,hbs⟩|⟨hz0,rfl,rfl⟩
 ·have HFl:=η47 HK3.out.flush
  have w0:=HW.out.same (HS3.out gw (.inr rfl));have k0:=w0.cell 0;have k1:=w0.cell 1;have k2:=w0.cell 2;have hn1:wrN bs str a L=(a+1,false,0):=by rw[HN.out,if_pos hz0]
  have hb1:wrB bs str a L=bs':=by rw[HB.out,if_pos hz0,hbs]
  have HN1:=η47 hn1;have HB1:=η47 hb1;have HA1:Hid (wrA bs str a L=a+(k:Int)):=η47 (by rw[HA.out,HN1.out];exact if_pos rfl);clear w0 hn1 hb1 hbs hz0;go_wp2_with fail;refine (HIs.out _).mono ?_;rintro e w3' ⟨rfl,rfl⟩;go_wp2_with fail;refine HFl.out.mono ?_;rintro e w4 ⟨rfl,h1,h2⟩;have hst:Stay (fun i=>K i∨i=gw) w w4:=fun i hi=>(h2 i hi).trans (HS3.out i hi)
  have hw4:=HW.out.same (hst gw (.inr rfl));have k0:=hw4.cell 0;have k2:=hw4.cell 2;have f2:=Blk.free hw4 2;have HK4:=η47 h1;have HS4:=η47 hst;have HW4:=η47 hw4;clear h1 h2 hst hw4 HFl;go_wp2_with fail;go_ret3;rw[HN1.out,HB1.out,HA1.out];exact ⟨rfl,HK4.out.poke hbw 2 _,fun i hi=>(heap_setCell_other w4 ⟨gw,2,none⟩ i _ (fun e=>hgw (by have:i=gw:=e;rw[←this];exact hi))).trans (HS4.out i (.inl hi)),HW4.out.set 2 _⟩
 ·have hb1:wrB bs' str a L=bs':=by rw[HB.out,if_neg hz0]
  have HB1:=η47 hb1;have w0:=HW.out.same (HS3.out gw (.inr rfl));have k0:=w0.cell 0;have k1:=w0.cell 1;have k2:=w0.cell 2;have HW3:=η47 w0;have hy0:(y==(0:Int))=false:=beq_eq_false_iff_ne.2 hz0;have hyn:(y !=(0:Int))=true:=by simpa using hz0
  by_cases h80:y=80
  case neg=>
   have hn1:wrN bs' str a L=(0,false,y):=by rw[HN.out,if_neg hz0,if_neg (fun h=>h80 h.1)]
   have hy8:(y==(80:Int))=false:=beq_eq_false_iff_ne.2 h80;have HN1:=η47 hn1;have HA1:Hid (wrA bs' str a L=a):=η47 (by rw[HA.out,HN1.out];exact if_neg hz0);clear w0 hn1 hb1 h80;go_wp2_with fail;refine (HIs.out _).mono ?_;rintro e w3' ⟨rfl,rfl⟩;go_wp2_with fail;go_ret3;rw[HN1.out,HB1.out,HA1.out];exact ⟨rfl,HK3.out,fun i hi=>HS3.out i (.inl hi),HW3.out⟩
  have HThr:=η47 (HTh.out w3 bs' rfl HK3.out HS3.out);rw[HTb.out] at HThr;subst h80
  cases tb with
  | false=>
   have hn1:wrN bs' str a L=(0,false,80):=by rw[HN.out,if_neg hz0,if_neg (fun h=>by cases h.2)]
   have HN1:=η47 hn1;have HA1:Hid (wrA bs' str a L=a):=η47 (by rw[HA.out,HN1.out];exact if_neg (by decide));clear w0 hn1 hb1;go_wp2_with fail;refine (HIs.out _).mono ?_;rintro e w3' ⟨rfl,rfl⟩;go_wp2_with fail;refine HThr.out.mono ?_;rintro e w5 ⟨rfl,h1,h2⟩;have HK5:=η47 h1;have HS5:Hid (Stay (fun i=>K i∨i=gw) w w5):=η47 fun i hi=>(h2 i hi).trans (HS3.out i hi)
   clear h1 h2;go_wp2_with fail;go_ret3;rw[HN1.out,HB1.out,HA1.out];exact ⟨rfl,HK5.out,fun i hi=>HS5.out i (.inl hi),HW.out.same (HS5.out gw (.inr rfl))⟩
  | true=>
   have hn1:wrN bs' str a L=(a+1,true,0):=by rw[HN.out,if_neg hz0,if_pos ⟨rfl,rfl⟩]
   have HN1:=η47 hn1;have HA1:Hid (wrA bs' str a L=a+(k:Int)):=η47 (by rw[HA.out,HN1.out];exact if_pos rfl);clear w0 hn1 hb1;go_wp2_with fail;refine (HIs.out _).mono ?_;rintro e w3' ⟨rfl,rfl⟩;go_wp2_with fail;refine HThr.out.mono ?_;rintro e w5 ⟨rfl,h1,h2⟩;have HK5:=η47 h1;have HS5:Hid (Stay (fun i=>K i∨i=gw) w w5):=η47 fun i hi=>(h2 i hi).trans (HS3.out i hi)
   have hw5:=HW.out.same (HS5.out gw (.inr rfl));have HFl:=η47 HK5.out.flush;have k0:=hw5.cell 0;have k1:=hw5.cell 1;have k2:=hw5.cell 2;clear h1 h2 hw5;go_wp2_with fail;refine HFl.out.mono ?_;rintro e w4 ⟨rfl,h1,h2⟩;have hst:Stay (fun i=>K i∨i=gw) w w4:=fun i hi=>(h2 i hi).trans (HS5.out i hi)
   have hw4:=HW.out.same (hst gw (.inr rfl));have k0:=hw4.cell 0;have k2:=hw4.cell 2;have f2:=Blk.free hw4 2;have HK4:=η47 h1;have HS4:=η47 hst;have HW4:=η47 hw4;clear h1 h2 hst hw4 HFl;go_wp2_with fail;go_ret3;rw[HN1.out,HB1.out,HA1.out];exact ⟨rfl,HK4.out.poke hbw 2 _,fun i hi=>(heap_setCell_other w4 ⟨gw,2,none⟩ i _ (fun e=>hgw (by have:i=gw:=e;rw[←this];exact hi))).trans (HS4.out i (.inl hi)),HW4.out.set 2 _⟩
end
end
section
open Go.RowKit
theorem q8d (sd:Int) (rate:Nat) (room:Int) (w:World) (hs0:0≤sd) (hs1:sd<18446744073709551616):
  Calls Tryz.prog 9 #[.agg #[.int .u64 sd,.float .f64 rate,.int .u16 room]] w fun e w'=> ∃g gs,e= .returned (.tuple #[.pointer (some ⟨g,0,none⟩),.pointer (some ⟨gs,0,none⟩),.bool true])∧SK w w' g gs rate sd 1048576 0 0 0 [] noI:=by
 have hx1:=q0B w (.cells #[.int .u64 sd,.float .f64 rate,.int .u16 room] 27);have hbk:=Blk.new w 27 #[.int .u64 sd,.float .f64 rate,.int .u16 room];have HBk:=η47 hbk;have HX1:=η47 hx1;have HN:=η47 (fun W=>DkK.new24 W 1048576 (by decide) (by decide));clear hx1 hbk;go_enter Tryz.func9,Tryz.ntmps9;go_wp2_with fail;refine (HN.out _).mono ?_;rintro e w1 ⟨g,rfl,hd⟩;have hx:=DkK.base hd;have hb1:=HBk.out.ext hx;have k0:=hb1.cell 0;have k1:=hb1.cell 1;have HS:=η47 ((DkK.sq (hd.rebase HX1.out) sd hs0 hs1).open (by omega) rate);clear hd hx hb1;go_wp2_with fail;refine HS.out.mono ?_;rintro e w2 ⟨gs,rfl,hk,hst⟩;have HK:=η47 hk;clear hk hst HS k0 k1;go_wp2_with fail;go_ret3;exact ⟨g,gs,rfl,HK.out⟩
section
variable {wb w W W':World} {g gs gw rate u n:Nat} {sd c s:Int} {bs:List Bt} {K K':Nat→Prop}
theorem y0P (h:SK wb w g gs rate sd c s u n bs (fun i=>K i∨i=gw)) (hn:n≤86) (hroom:(u:Int)+8024≤c) (hgw:¬K gw) (hbw:wb.heap.size≤gw) {str:List UInt8} {a:Int} (hw:WrI w gw gs str a) (hs:str.length≤4611686018427387903) (ha: -1≤a) (ha2:a≤1000000)
  {ao:Option Addr} {k cap:Nat} {L:List Ev} (hx: ∀W,Ext wb W→Stay K w W→Evs W ao k cap L) (hk:k≤1000000) (hL:q1A L) (hwe: ∀e∈L,e.we<18446744073709551616) {f:Int} {ag:Bool} (hN:wrN bs str a L=(f,ag,0)):
  Calls Tryz.prog 30 #[.pointer (some ⟨gw,0,none⟩),.slice ao k cap,.int .i64 f,.bool ag] w fun e w'=>e= .returned (.bool true)∧
   SK wb w' g gs rate sd c s (u+2024) (n+1) (wrB bs str a L) (fun i=>K i∨i=gw)∧Stay K w w'∧WrI w' gw gs str (wrA bs str a L):=by
 have HW:=η47 (q9F h hn hroom hgw hbw hw hs ha ha2 hx hk hL hwe);rw[hN] at HW;simp only at HW;clear h hw hx hN;go_enter Tryz.func30,Tryz.ntmps30;go_wp2_with fail;refine HW.out.mono ?_;rintro e w1 ⟨rfl,h1,h2,h3⟩;have H1:=η47 h1;have H2:=η47 h2;have H3:=η47 h3;clear h1 h2 h3;go_wp2_with fail;go_ret;exact ⟨by simp,H1.out,H2.out,H3.out⟩
end
section
variable {wb w W W':World} {g gs gw rate u n:Nat} {sd c s:Int} {bs:List Bt} {K K':Nat→Prop}
theorem z3J (h:SK wb W g gs rate sd c s u n bs (fun i=>K i∨i=gw)) {cs:Array Value} (L:List Ev) (hcs:cs=(q5A L).toArray) (hl:L.length≤1000000):
  SK wb (W.alloc (.cells cs 85)) g gs rate sd c s u n bs (fun i=>(K i∨i=W.heap.size)∨i=gw)∧(∀W',Ext wb W'→Stay (fun i=>K i∨i=W.heap.size) (W.alloc (.cells cs 85)) W'→Evs W' (some ⟨W.heap.size,0,none⟩) L.length L.length L):=by
 subst hcs;have hb:=Blk.new W 85 (q5A L).toArray;refine ⟨h.more (q0B W _) fun i hi=>?_,fun W' _ hs=>?_⟩
 ·rcases hi with (hi|hi)|hi
  ·exact .inl (.inl hi)
  ·exact .inr ⟨by omega,by rw[World.size_alloc];omega⟩
  ·exact .inl (.inr hi)
 ·have:=(hb.same (hs _ (.inr rfl))).evs (k:=L.length) (Nat.le_refl _) hl
  rwa [List.take_length] at this
theorem z4Q (h:SK wb W g gs rate sd c s u n bs (fun i=>K i∨i=gw)) (hn:n≤86) (hroom:(u:Int)+8024≤c) (hgw:¬K gw) (hbw:wb.heap.size≤gw) {str:List UInt8} {a:Int} (hw:WrI W gw gs str a) (hs:str.length≤4611686018427387903) (ha: -1≤a) (ha2:a≤1000000)
  {cs:Array Value} (L:List Ev) (hcs:cs=(q5A L).toArray) (hl:L.length≤1000000) (hL:q1A L) (hwe: ∀e∈L,e.we<18446744073709551616):
  Calls Tryz.prog 14 #[.pointer (some ⟨gw,0,none⟩),.slice (some ⟨W.heap.size,0,none⟩) L.length L.length] (W.alloc (.cells cs 85)) fun e w'=>e= .returned (.tuple #[.int .i64 (wrN bs str a L).1,.bool (wrN bs str a L).2.1,.int .i64 (wrN bs str a L).2.2])∧
   SK wb w' g gs rate sd c s (u+2024) (n+1) (wrB bs str a L) (fun i=>K i∨i=gw)∧Stay K W w'∧WrI w' gw gs str (wrA bs str a L):=by
 obtain ⟨h1,h2⟩:=z3J h L hcs hl;have hlt:gw<W.heap.size:=hw.lt;have hx:=q0B W (.cells cs 85);refine (q9F h1 hn hroom (fun hh=>hh.elim hgw (by omega)) hbw (hw.same (hx.block _ hlt)) hs ha ha2 h2 hl hL hwe).mono ?_;rintro e w' ⟨e1,k1,k2,k3⟩;exact ⟨e1,k1.beside fun i hi=>hi.imp .inl id,fun i hi=>(k2 i (.inl hi)).trans (hx.block i (h.klt i (.inl hi))),k3⟩
theorem q7A (h:SK wb W g gs rate sd c s u n bs (fun i=>K i∨i=gw)) (hn:n≤86) (hroom:(u:Int)+8024≤c) (hgw:¬K gw) (hbw:wb.heap.size≤gw) {str:List UInt8} {a:Int} (hw:WrI W gw gs str a) (hs:str.length≤4611686018427387903) (ha: -1≤a) (ha2:a≤1000000)
  {cs:Array Value} (L:List Ev) (hcs:cs=(q5A L).toArray) (hl:L.length≤1000000) (hL:q1A L) (hwe: ∀e∈L,e.we<18446744073709551616) {f:Int} {ag:Bool} (hN:wrN bs str a L=(f,ag,0)):
  Calls Tryz.prog 30 #[.pointer (some ⟨gw,0,none⟩),.slice (some ⟨W.heap.size,0,none⟩) L.length L.length,.int .i64 f,.bool ag] (W.alloc (.cells cs 85)) fun e w'=>e= .returned (.bool true)∧
   SK wb w' g gs rate sd c s (u+2024) (n+1) (wrB bs str a L) (fun i=>K i∨i=gw)∧Stay K W w'∧WrI w' gw gs str (wrA bs str a L):=by
 obtain ⟨h1,h2⟩:=z3J h L hcs hl;have hlt:gw<W.heap.size:=hw.lt;have hx:=q0B W (.cells cs 85);refine (y0P h1 hn hroom (fun hh=>hh.elim hgw (by omega)) hbw (hw.same (hx.block _ hlt)) hs ha ha2 h2 hl hL hwe hN).mono ?_;rintro e w' ⟨e1,k1,k2,k3⟩;exact ⟨e1,k1.beside fun i hi=>hi.imp .inl id,fun i hi=>(k2 i (.inl hi)).trans (hx.block i (h.klt i (.inl hi))),k3⟩
end
abbrev y1G :Ev:=⟨[99],[],0⟩
abbrev st3 :Bt:=⟨[115],2,[y1G]⟩
theorem y2q :wrA [] [115] (-1) [evA,z4F]=1:=by decide
theorem y2p :wrN [] [115] (-1) [evA,z4F]=(0,false,0):=by decide
theorem y2l :wrB [] [115] (-1) [evA,z4F]=[st1]:=rfl
theorem y2h :wrN [st1] [115] (-1) [evA,z4F]=(0,true,0):=by decide
theorem y2n :wrB [st1] [115] (-1) [evA,z4F]=[st1]:=rfl
theorem y2g :wrA [st1] [115] (-1) [evA,z4F]=1:=by decide
theorem y2i :wrN [st1] [115] 1 [y1G]=(2,false,0):=by decide
theorem y2e :wrB [st1] [115] 1 [y1G]=[st1,st3]:=rfl
theorem y2d :wrA [st1] [115] 1 [y1G]=2:=by decide
theorem y2f :wrN [st1,st3] [115] (-1) [z4F]=(0,false,80):=by decide
theorem y2K :wrB [st1,st3] [115] (-1) [z4F]=[st1,st3]:=rfl
theorem y1t :wrA [st1,st3] [115] (-1) [z4F]= -1:=by decide
theorem y2P :q5a [] [115] (-1)=0:=by decide
theorem y2F :q5a [st1] [115] (-1)=0:=by decide
theorem y2O :q5a [st1,st3] [115] (-1)=0:=by decide
theorem y1y :q5a [st1,st3] [115] 3=80:=by decide
theorem q6u (w:World):Calls Tryz.prog 8 #[] w fun e w'=>e= .returned (.bool true)∧Ext w w':=by
 have HO:=η47 (q8d 0 0 0 w (by decide) (by decide));go_enter Tryz.func8,Tryz.ntmps8;go_wp2_with fail;refine HO.out.mono ?_;rintro e w1 ⟨g,gs,rfl,hk⟩;obtain ⟨W0,hW0⟩: ∃W0,((w1.alloc (.cells #[.string ⟨#[97]⟩,.string ⟨#[]⟩,.float .f64 0] 85)).alloc (.cells #[.string ⟨#[98]⟩,.string ⟨#[]⟩,.float .f64 0] 85)).alloc (.cells #[.string ⟨#[99]⟩,.string ⟨#[]⟩,.float .f64 0] 85)=W0:=⟨_,rfl⟩
 obtain ⟨q,hq⟩: ∃q,w1.heap.size=q:=⟨_,rfl⟩
 have hx0:Ext w1 W0:=by rw[←hW0];exact q6H w1 _ _ _
 have b0:Blk W0 q 85 #[.string ⟨#[97]⟩,.string ⟨#[]⟩,.float .f64 0]:=by rw[←hW0,←hq];exact ((Blk.new w1 _ _).ext (q0B _ _)).ext (q0B _ _)
 have b1:Blk W0 (q+1) 85 #[.string ⟨#[98]⟩,.string ⟨#[]⟩,.float .f64 0]:=by
  have:=(Blk.new (w1.alloc (.cells #[.string ⟨#[97]⟩,.string ⟨#[]⟩,.float .f64 0] 85)) 85 #[.string ⟨#[98]⟩,.string ⟨#[]⟩,.float .f64 0]).ext (q0B _ (.cells #[.string ⟨#[99]⟩,.string ⟨#[]⟩,.float .f64 0] 85));rw[World.size_alloc] at this;rw[←hW0,←hq];exact this
 have b2:Blk W0 (q+1+1) 85 #[.string ⟨#[99]⟩,.string ⟨#[]⟩,.float .f64 0]:=by
  have:=Blk.new ((w1.alloc (.cells #[.string ⟨#[97]⟩,.string ⟨#[]⟩,.float .f64 0] 85)).alloc (.cells #[.string ⟨#[98]⟩,.string ⟨#[]⟩,.float .f64 0] 85)) 85 #[.string ⟨#[99]⟩,.string ⟨#[]⟩,.float .f64 0];rw[World.size_alloc,World.size_alloc] at this;rw[←hW0,←hq];exact this
 have hsz:W0.heap.size=q+3:=by rw[←hW0,←hq];simp
 have hk0:=hk.more (K':=fun i=>i=q∨i=q+1∨i=q+1+1) hx0 fun i hi=> .inr (by omega)
 have hqb:w.heap.size≤q:=by rw[←hq];exact hk.base.size
 have HB0:=η47 b0;have HB1:=η47 b1;have HB2:=η47 b2;have HW0:=η47 hW0;obtain ⟨KE,hKE⟩: ∃KE:Nat→Prop,(fun i=>i=q∨i=q+1∨i=q+1+1)=KE:=⟨_,rfl⟩
 have HE:Hid (∀W,Stay KE W0 W→Blk W q 85 #[.string ⟨#[97]⟩,.string ⟨#[]⟩,.float .f64 0]∧Blk W (q+1) 85 #[.string ⟨#[98]⟩,.string ⟨#[]⟩,.float .f64 0]∧Blk W (q+1+1) 85 #[.string ⟨#[99]⟩,.string ⟨#[]⟩,.float .f64 0]):=η47 fun W hs=>by
  rw[←hKE] at hs;exact ⟨HB0.out.same (hs _ (.inl rfl)),HB1.out.same (hs _ (.inr (.inl rfl))),HB2.out.same (hs _ (.inr (.inr rfl)))⟩
 rw[hKE] at hk0;have HSa:=η47 (Stay.refl KE W0);have HOp:=η47 (q7M hk0 (by omega) [115] (by decide) (-1));have hsf:=q1T;have HQ:=η47 hq;clear hk hx0 b0 b1 b2 hsz hk0 HO hW0 hq hKE HB0 HB1 HB2 hqb;go_wp2_with fail;simp only[HW0.out,HQ.out];refine HOp.out.mono ?_;rintro e w2 ⟨_,hs,⟨hne,_⟩|⟨_,gx,rfl,hw,hg,hb,hk⟩⟩
 ·exact absurd y2P hne
 have HSa:=η47 (HSa.out.trans hs);have HW:=η47 hw;have HK:=η47 hk;have HG:=η47 hg;have HBg:=η47 hb;clear hs hw hg hb hk HOp;have HR:=η47 (q7A HK.out (by omega) (by decide) HG.out HBg.out HW.out (by decide) (by decide) (by decide) [evA,z4F] rfl (by decide) (q5d (by decide)) (by decide) y2p);obtain ⟨e0,e1,e2⟩:=HE.out _ HSa.out;have a0:=e0.cell 0;have a1:=e0.cell 1;have a2:=e0.cell 2;have b0:=e1.cell 0;have b1:=e1.cell 1;have b2:=e1.cell 2;have c0:=e2.cell 0;have c1:=e2.cell 1;have c2:=e2.cell 2;clear e0 e1 e2;go_wp2_with fail;refine HR.out.mono ?_;rintro e w3 ⟨rfl,hk,hs,hw⟩;rw[y2l] at hk;rw[y2q] at hw;have HSa:=η47 (HSa.out.trans hs);have HW:=η47 hw;have HK:=η47 hk;clear hs hw hk HR a0 a1 a2 b0 b1 b2 c0 c1 c2;have HOp:=η47 (q7M (HK.out.beside fun i hi=> .inl hi) (by omega) [115] (by decide) (-1));clear HW HK HG HBg;go_wp2_with fail;refine HOp.out.mono ?_
 rintro e w4 ⟨_,hs,⟨hne,_⟩|⟨_,gy,rfl,hw,hg,hb,hk⟩⟩
 ·exact absurd y2F hne
 have HSa:=η47 (HSa.out.trans hs);have HW:=η47 hw;have HK:=η47 hk;have HG:=η47 hg;have HBg:=η47 hb;clear hs hw hg hb hk HOp;have HR:=η47 (q7A HK.out (by omega) (by decide) HG.out HBg.out HW.out (by decide) (by decide) (by decide) [evA,z4F] rfl (by decide) (q5d (by decide)) (by decide) y2h);obtain ⟨e0,e1,e2⟩:=HE.out _ HSa.out;have a0:=e0.cell 0;have a1:=e0.cell 1;have a2:=e0.cell 2;have b0:=e1.cell 0;have b1:=e1.cell 1;have b2:=e1.cell 2;have c0:=e2.cell 0;have c1:=e2.cell 1;have c2:=e2.cell 2;clear e0 e1 e2;go_wp2_with fail;refine HR.out.mono ?_;rintro e w5 ⟨rfl,hk,hs,hw⟩;rw[y2n] at hk;rw[y2g] at hw;have HSa:=η47 (HSa.out.trans hs);have HW:=η47 hw;have HK:=η47 hk;clear hs hw hk HR a0 a1 a2 b0 b1 b2 c0 c1 c2;have HR:=η47 (q7A HK.out (by omega) (by decide) HG.out HBg.out HW.out (by decide) (by decide) (by decide) [y1G] rfl (by decide) (q5d (by decide)) (by decide) y2i)
 obtain ⟨e0,e1,e2⟩:=HE.out _ HSa.out;have a0:=e0.cell 0;have a1:=e0.cell 1;have a2:=e0.cell 2;have b0:=e1.cell 0;have b1:=e1.cell 1;have b2:=e1.cell 2;have c0:=e2.cell 0;have c1:=e2.cell 1;have c2:=e2.cell 2;clear e0 e1 e2;go_wp2_with fail;refine HR.out.mono ?_;rintro e w6 ⟨rfl,hk,hs,hw⟩;rw[y2e] at hk;rw[y2d] at hw;have HSa:=η47 (HSa.out.trans hs);have HW:=η47 hw;have HK:=η47 hk;clear hs hw hk HR a0 a1 a2 b0 b1 b2 c0 c1 c2;have HAt:=η47 (z7B HW.out);have HOp:=η47 (q7M (HK.out.beside fun i hi=> .inl hi) (by omega) [115] (by decide) (-1));clear HW HK HG HBg;go_wp2_with fail;refine HAt.out.mono ?_;rintro e w6' ⟨rfl,rfl⟩;clear HAt;go_wp2_with fail;refine HOp.out.mono ?_;rintro e w7 ⟨_,hs,⟨hne,_⟩|⟨_,gz,rfl,hw,hg,hb,hk⟩⟩
 ·exact absurd y2O hne
 have HSa:=η47 (HSa.out.trans hs);have HW:=η47 hw;have HK:=η47 hk;have HG:=η47 hg;have HBg:=η47 hb;clear hs hw hg hb hk HOp;have HR:=η47 (z4Q HK.out (by omega) (by decide) HG.out HBg.out HW.out (by decide) (by decide) (by decide) [z4F] rfl (by decide) (q5d (by decide)) (by decide));rw[y2f] at HR;simp only at HR;obtain ⟨e0,e1,e2⟩:=HE.out _ HSa.out;have a0:=e0.cell 0;have a1:=e0.cell 1;have a2:=e0.cell 2;have b0:=e1.cell 0;have b1:=e1.cell 1;have b2:=e1.cell 2;have c0:=e2.cell 0;have c1:=e2.cell 1;have c2:=e2.cell 2;clear e0 e1 e2;go_wp2_with fail;refine HR.out.mono ?_;rintro e w8 ⟨rfl,hk,hs,hw⟩;rw[y2K] at hk;rw[y1t] at hw;have HSa:=η47 (HSa.out.trans hs);have HW:=η47 hw;have HK:=η47 hk;clear hs hw hk HR a0 a1 a2 b0 b1 b2 c0 c1 c2;have HAt:=η47 (fun W h=>z7B (w:=W) (HW.out.same h));have HOp:=η47 (q7M HK.out (by omega) [115] (by decide) 3);rw[y1y] at HOp
 go_wp2_with fail;refine HOp.out.mono ?_;rintro e w9 ⟨hx9,hs,⟨_,rfl,hk⟩|⟨hne,_⟩⟩
 case inr=>exact absurd hne (by decide)
 have HA9:=η47 (HAt.out w9 (hs gz (.inr rfl)));have HX9:=η47 hx9;clear hs hk hx9 HAt HOp;go_wp2_with fail;refine HA9.out.mono ?_;rintro e w9' ⟨rfl,rfl⟩;go_wp2_with fail;go_ret;exact ⟨rfl,HX9.out⟩
end
section
open Go.RowKit
theorem q9R (s:List UInt8): ∀(L:List Ev) (i:Nat),(q3z s i L).map To.e=L
 |[],i=>rfl
 |e::r,i=>by rw[q3z,List.map_cons,q9R s r]
end
section
open Go.RowKit
def RwR (w:World) (gw mb base:Nat) (vL vM:Value) (bs:List Bt) (m:Nat) (str:List UInt8) (a:Int) (L:List Ev) (e:Ending) (w':World):Prop:=
 ∃vL' vM' ms',e= .returned (.tuple #[.int .i64 (wrN bs str a L).1,.bool (wrN bs str a L).2.1,.int .i64 (wrN bs str a L).2.2])∧MoI w' mb base vL' vM' (tos (wrB bs str a L)) ms'∧ms'.length≤m+1∧RwI w' gw mb str (wrA bs str a L)∧w.heap.size≤w'.heap.size∧(∀i,i<w.heap.size→¬MoB mb vL vM i→i≠gw→w'.heap[i]? =w.heap[i]?)∧(∀i,MoB mb vL' vM' i→MoB mb vL vM i∨w.heap.size≤i)∧Ios w w'
theorem Ios.of_low {w w':World} {mb:Nat} (h: ∀w0:World,Below w0.heap.size w0 w→w0.heap.size≤mb→Below w0.heap.size w0 w'):Ios w w':=by
 have:=h {w with heap:=#[]} ⟨rfl,rfl,rfl,Nat.zero_le _,fun k hk=>absurd hk (Nat.not_lt_zero k)⟩ (Nat.zero_le _);exact ⟨this.os,this.tape,this.output⟩
theorem z6g {bs:List Bt} {str:List UInt8} {a:Int} {L:List Ev} (h:q8A bs str a L=80) (ha: -1≤a):q2z bs str a L=(decide (0<L.length)&&decide (a+1+(L.length:Int)≤((q0T bs str).length:Int))&&q0v (((q0T bs str).drop (a+1).toNat).take L.length) L):=by
 by_cases hL:L=[]
 ·subst hL;simp[q2z]
 have hl:0<L.length:=List.length_pos_iff.2 hL;have hp : q4w str (a+1) (L.length:Int)=0:=by
  unfold q4w;refine if_neg ?_;rintro (h1|h1|h1)
  ·have h2:q0N str 0 L=2∨q0N str 0 L=3:=by
    unfold q0N;by_cases h3:str=[]
    ·exact .inl (if_pos (.inl h3))
    ·have h4:0<str.length:=List.length_pos_iff.2 h3
     have h5:32<str.length:=by
      unfold q1r at h1;simp only[Bool.and_eq_false_iff,decide_eq_false_iff_not] at h1;omega
     exact .inr (by rw[if_neg (by rintro (h|h);exact h3 h;exact hL h),if_pos (.inl h5)])
   unfold q8A at h;rw[if_pos (by omega)] at h;omega
  ·omega
  ·omega
 unfold q2z z6k;rw[if_pos hp];unfold q7L z0H;rw[List.map_take,List.map_drop,q9R,Int.toNat_natCast];have h1:L.isEmpty=false:=by cases L with|nil=>exact absurd rfl hL|cons=>rfl
 rw[h1,Bool.eq_iff_iff];simp only[Bool.not_false,Bool.true_and,Bool.and_eq_true,decide_eq_true_eq,sameEvs_iff]
 constructor
 ·intro e
  have:=congrArg List.length e;rw[List.length_take,List.length_drop] at this;exact ⟨⟨hl,by omega⟩,e⟩
 ·exact fun h=>h.2
theorem y0a {bs:List Bt} (h:okBs bs) (str:List UInt8): ∀e∈q0T bs str,e.we<18446744073709551616:=by
 intro e he;unfold q0T at he;rw[List.mem_flatten] at he;obtain ⟨l,hl,hel⟩:=he;rw[List.mem_map] at hl;obtain ⟨b,hb,rfl⟩:=hl;rw[List.mem_filter] at hb;obtain ⟨x,y,hxy⟩:=List.append_of_mem hb.1;exact (h x b y hxy).1.2 e hel
theorem z6L {M L:List Ev} {j:Nat} {p q:Ev} (h:q0v (M.take j) (L.take j)=true) (hp:M[j]? =some p) (hq:L[j]? =some q):q0v (M.take (j+1)) (L.take (j+1))=q3Q p q:=by
 rw[sameEvs_iff] at h;rw[List.take_add_one,List.take_add_one,hp,hq,h,Bool.eq_iff_iff,sameEvs_iff];simp only[Option.toList_some,List.append_cancel_left_eq,List.cons.injEq,and_true];have:=sameEvs_iff (l:=[p]) (m:=[q]);simp only[q0v,Bool.and_true,List.cons.injEq,and_true] at this;exact this.symm
theorem z0r {α:Type} {L:List α} {j:Nat} {d:α} (h:j<L.length):L.getD j d∈L:=by
 rw[List.getD_eq_getElem?_getD,List.getElem?_eq_getElem h];exact List.getElem_mem h
theorem z6x {w : World} {gw mb base:Nat} {vL vM:Value} {bs:List Bt} {ms:List Value} (h:MoI w mb base vL vM (tos bs) ms) (hok:okBs bs) (hbm:base≤mb) {str:List UInt8} {a:Int} (hw:RwI w gw mb str a) (hgw:¬MoB mb vL vM gw) (hs:str.length≤4611686018427387903) (ha: -1≤a) (ha2:a≤1000000000) {ao:Option Addr} {k cap:Nat} {L:List Ev} (hx:Evs w ao k cap L) (hd: ∀x,ao=some x→0<k→¬MoB mb vL vM x.block)
  (hL:q1A L) (hwe: ∀e∈L,e.we<18446744073709551616) (hl:(tos bs).length≤100000) (hms:ms.length+1≤100000) (hk:k≤1000000):
  Calls Tryz.prog 15 #[.pointer (some ⟨gw,0,none⟩),.slice ao k cap] w (RwR w gw mb base vL vM bs ms.length str a L):=by
 have hlen:=hx.len;have hq:=hx.fits;have hq2:=hx.bound;have HA:=η47 (q8f (h.ext (Ext.refl _).drew) hok hbm str hs a (hx.ext (Ext.refl _).drew) hd hL hwe hl (by omega) rfl);have k0:=hw.cell 0;have k1:=hw.cell 1;have k2:=hw.cell 2;have q1:IntKind.i64.wrap (a+1)=a+1:=by rw[IntKind.wrap_i64];omega
 have q2:IntKind.i64.wrap (a+(k:Int))=a+(k:Int):=by rw[IntKind.wrap_i64];omega
 have d0:=q0A (Ext.refl _).drew k0;have d1:=q0A (Ext.refl _).drew k1;have d2:=q0A (Ext.refl _).drew k2;have HW:=η47 hw;have HG:=η47 hgw;have HX:=η47 hx;have HM:=η47 h;have HLn:=η47 hlen;obtain ⟨z,hz⟩: ∃z,q8A bs str a L=z:=⟨_,rfl⟩
 rw[hz] at HA;have HZ:=η47 hz;have HTh:Hid (z=80→q2z bs str a L=(decide (0<k)&&decide (a+1+(k:Int)≤((q0T bs str).length:Int))&&q0v (((q0T bs str).drop (a+1).toNat).take k) L)):=η47 fun e=>by rw[z6g (hz.trans e) ha,hlen]
 have HRe:Hid (((tos bs).filter fun t=>decide (t.s=str)).map To.e=q0T bs str):=η47 (by rw[q3o hok];unfold z0H;rw[q9R]);have HRw:=η47 (y0a hok str);have HD:=η47 hd;have HWe:Hid (∀e∈L,e.we<18446744073709551616):=η47 hwe;clear h hw hgw hx hd hL hwe hok hz hlen;go_enter Tryz.func15,Tryz.ntmps15;go_wp2_with fail
 go_region_held3 (fun W=>W.cell? ⟨gw,0,none⟩=some (.pointer (some ⟨mb,0,none⟩))∧W.cell? ⟨gw,1,none⟩=some (.string ⟨str.toArray⟩)∧W.cell? ⟨gw,2,none⟩=some (.int .i64 a))
  (first|exact HC3.out|exact ⟨d0,d1,d2⟩)
  (first|(go_at_call 13;refine HA.out.mono ?_;rintro e w3 ⟨vL',vM',ms',bs',x,y,rfl,h1,h2,h3,h4,h5,h6,h7i⟩;have HI3:Hid (Ios w w3):=η47 h7i;have HM3:=η47 h1;have HN3:=η47 h2;have HS3:=η47 h3;have HO3:=η47 h4;have HB3:=η47 h5;have HR3:=η47 h6;have h7:=h4 gw HW.out.lt HG.out;have HC3:Hid (w3.cell? ⟨gw,0,none⟩=some (.pointer (some ⟨mb,0,none⟩))∧w3.cell? ⟨gw,1,none⟩=some (.string ⟨str.toArray⟩)∧w3.cell? ⟨gw,2,none⟩=some (.int .i64 a)):=η47 ⟨(World.cell?_of_block (a:=⟨gw,0,none⟩) h7).trans k0,(World.cell?_of_block (a:=⟨gw,1,none⟩) h7).trans k1,(World.cell?_of_block (a:=⟨gw,2,none⟩) h7).trans k2⟩;clear h1 h2 h3 h4 h5 h6 h7 h7i))
 obtain ⟨e0,e1,e2⟩:=HC3.out;have HW3:Hid (RwI w3 gw mb str a):=η47 (Blk.same HW.out (HO3.out gw HW.out.lt HG.out));clear d0 d1 d2 k0 k1 k2 HA HC3;rcases HR3.out with ⟨hz,rfl,hy,hb⟩|⟨hz,rfl,rfl,rfl⟩
 ·have hy' := hy.symm;have hb':=hb.symm
  clear hy hb HR3;subst hy' hb';by_cases h80:z=80
  ·have hd1 : (z ==(80:Int))=true:=by rw[h80];rfl
   have HSt:=η47 (q7H (HM3.out.ext (Ext.refl _).drew) str hl);have g0:=q0A (Ext.refl _).drew e0;have g1:=q0A (Ext.refl _).drew e1;have HT0:=η47 (HTh.out h80);have H80:=η47 h80;clear h80 hz HTh;go_wp2_with fail
   go_region_held3 (fun W=>W.cell? ⟨gw,0,none⟩=some (.pointer (some ⟨mb,0,none⟩))∧W.cell? ⟨gw,1,none⟩=some (.string ⟨str.toArray⟩))
    (first|exact HC4.out|exact ⟨g0,g1⟩)
    (first|(go_at_call 41;refine HSt.out.mono ?_;rintro e w4 ⟨v,rfl,hrow,hx4⟩;obtain ⟨va,vc,rfl⟩:=q0G hrow;have HX4:=η47 hx4;have HR4:=η47 hrow;have HC4:Hid (w4.cell? ⟨gw,0,none⟩=some (.pointer (some ⟨mb,0,none⟩))∧w4.cell? ⟨gw,1,none⟩=some (.string ⟨str.toArray⟩)):=η47 ⟨q0A hx4 g0,q0A hx4 g1⟩;clear hrow hx4))
   clear g0 g1 HC4;have hth:=HT0.out;have HRe2:=η47 HRe.out;have htos:=(q5r HR4.out).1;generalize ((tos bs).filter fun t=>decide (t.s=str))=R at*;obtain ⟨n,hn⟩: ∃n,R.length=n:=⟨_,rfl⟩
   rw[←HRe2.out,List.length_map,hn] at hth;rw[hn] at htos⊢;have hq3:=htos.fits;have hq4:=htos.bound;have q3:IntKind.i64.wrap (a+1+(k:Int))=a+1+(k:Int):=by rw[IntKind.wrap_i64];omega
   have HTo:=η47 htos;have HTb:=η47 hth;have Hn:=η47 hn;clear htos hth hn HRe HT0;by_cases hk0:0<k
   ·have hd3 : decide ((0:Int)<(k:Int))=true:=decide_eq_true (by omega)
    by_cases hfit:a+1+(k:Int)≤(n:Int)
    ·have hd4 : decide (a+1+(k:Int)≤(n:Int))=true:=decide_eq_true hfit
     go_wp2_with fail
     go_loopw [8,12] (fun ob oi W=> ∃(bv:Bool) (j:Nat),ob= .bool bv∧oi= .int .i64 (j:Int)∧j≤k∧Ext w4 W∧Hid (q0v ((((R.map To.e).drop (a+1).toNat).take k).take j) (L.take j)=bv)) (fun _ i _=>k-(intOf i).toNat)
     case atStart=>exact ⟨true,0,rfl,rfl,Nat.zero_le _,Ext.refl _,η47 (by simp[q0v])⟩
     case round =>
      obtain ⟨bv,j,rfl,rfl,hj,hx5,HS⟩:=hrel;have HX5:=η47 hx5;have HXs:Hid (Ext w3 wr):=η47 ((Ext.refl w3).drew.trans (HX4.out.trans hx5));by_cases hlt:j<k
      ·have hd5:decide ((j:Int)<(k:Int))=true:=decide_eq_true (by omega)
       cases bv with
       | false=>
        have hth:q2z bs str a L=false:=by
         have h1:=HTb.out;have h2:=HS.out;rw[h1,decide_eq_true hk0,decide_eq_true hfit,Bool.true_and,Bool.true_and,Bool.eq_false_iff];intro h3;rw[sameEvs_iff] at h3;rw[h3] at h2;have h4:=(sameEvs_iff (l:=L.take j) (m:=L.take j)).2 rfl;rw[h2] at h4;cases h4
        clear hx5;have HN:Hid (wrN bs str a L=(0,false,z)):=η47 (by unfold wrN;rw[HZ.out,if_neg (by rw[H80.out];decide),if_neg (by rintro ⟨_,h⟩;rw[hth] at h;cases h)]);have HB:Hid (wrB bs str a L=bs):=η47 (by unfold wrB;rw[HZ.out,if_neg (by rw[H80.out];decide)]);have HA2:Hid (wrA bs str a L=a):=η47 (by unfold wrA;rw[HN.out];exact if_neg (by rw[H80.out];decide));go_wp2_with fail;go_ret3;exact ⟨_,_,_,by rw[HN.out,H80.out];rfl,by rw[HB.out];exact HM3.out.ext HXs.out,HN3.out,by rw[HA2.out];exact Blk.ext HW3.out HXs.out,Nat.le_trans HS3.out HXs.out.size,fun i h1 h2 h3=>(HXs.out.block i (Nat.lt_of_lt_of_le h1 HS3.out)).trans (HO3.out i h1 h2),HB3.out,HI3.out.trans (Ios.of_ext HXs.out)⟩
       | true=>
        obtain ⟨f,hf⟩: ∃f:Nat,a+1=(f:Int):=⟨(a+1).toNat,by omega⟩
        have hf2:(a+1).toNat=f:=by omega
        obtain ⟨N,hN⟩: ∃N,f+j=N:=⟨_,rfl⟩
        have hjn:N<n:=by omega
        have q8:IntKind.i64.wrap ((j:Int)+1)=(j:Int)+1:=by rw[IntKind.wrap_i64];omega
        have q9:IntKind.i64.wrap (a+1+(j:Int))=(N:Int):=by rw[IntKind.wrap_i64];omega
        have q10:(N:Int)<(n:Int):=by omega
        have hji:(j:Int)<(k:Int):=by omega
        have hLt: ∀x,ao=some x→x.block<w.heap.size:=fun x e=>by
         obtain ⟨b,off,e2,c0,_⟩:=HX.out.at (i:=0) (by omega);rw[e] at e2;cases e2;exact World.block_lt_of_cell? _ _ c0
        have hevL:=(HX.out.keep fun x e=>HO3.out x.block (hLt x e) (HD.out x e (by omega))).ext HXs.out;obtain ⟨rb,rof,rfl,r0,r1,r2,r3,r4⟩:=(HTo.out.ext (hx5.trans (Ext.refl _).drew)).at hjn;obtain ⟨lb,lof,rfl,l0,l1,l2⟩:=(hevL.ext (Ext.refl _).drew).at hlt;have hjL:j<L.length:=by rw[HLn.out];exact hlt
        have HNx:Hid (q0v ((((R.map To.e).drop (a+1).toNat).take k).take (j+1)) (L.take (j+1))=q3Q (R.getD N to0).e (L.getD j ev0)):=η47 (z6L HS.out (by rw[hf2,List.getElem?_take,if_pos hlt,List.getElem?_drop,hN,List.getElem?_map,List.getD_eq_getElem?_getD,List.getElem?_eq_getElem (by rw[Hn.out];exact hjn)];rfl) (by rw[List.getD_eq_getElem?_getD,List.getElem?_eq_getElem hjL];rfl));have hw1:(R.getD N to0).e.we<18446744073709551616:=HRw.out _ (by rw[←HRe2.out];exact List.mem_map_of_mem (z0r (by rw[Hn.out];exact hjn)));have hw2:=HWe.out _ (z0r (d:=ev0) hjL);have HC:=η47 (z2H (R.getD N to0).e (L.getD j ev0) hw1 hw2);generalize (R.getD N to0)=tt at*;generalize (L.getD j ev0)=ee at*;obtain ⟨ts,tv,⟨ty,da,we⟩⟩:=tt;obtain ⟨ty',da',we'⟩:=ee;simp only at r0 r1 r2 r3 r4 l0 l1 l2 HC HNx;clear hx5 hevL hw1 hw2 r0 r1 hLt hf hf2 hN;have hsf:=q1T;go_wp2_with fail
        go_region_law (go_simp;first|(go_at_call 46;refine (HC.out _).mono ?_;rintro e wa ⟨rfl,hxa⟩;have HXa:=η47 ((HX5.out.trans (Ext.refl _).drew).trans hxa);clear hxa))
        all_goals
         go_wp2_with fail
         go_roundw
         case rel=>exact ⟨_,j+1,rfl,by go_num,by omega,HXa.out,η47 HNx.out⟩
         case measure=>simp[intOf];omega
      ·have hd5:decide ((j:Int)<(k:Int))=false:=decide_eq_false (by omega)
       obtain rfl:j=k:=by omega
       have g2:=q0A (HX4.out.trans HX5.out) e2;have hth:q2z bs str a L=bv:=by
        have h1:=HTb.out;have h2:=HS.out;rw[List.take_of_length_le (l:=L) (by rw[HLn.out];exact Nat.le_refl _),List.take_take,Nat.min_self] at h2;rw[h1,h2,decide_eq_true hk0,decide_eq_true hfit];rfl
       cases bv with
       | false=>
        clear hx5;have HN:Hid (wrN bs str a L=(0,false,z)):=η47 (by unfold wrN;rw[HZ.out,if_neg (by rw[H80.out];decide),if_neg (by rintro ⟨_,h⟩;rw[hth] at h;cases h)]);have HB:Hid (wrB bs str a L=bs):=η47 (by unfold wrB;rw[HZ.out,if_neg (by rw[H80.out];decide)]);have HA2:Hid (wrA bs str a L=a):=η47 (by unfold wrA;rw[HN.out];exact if_neg (by rw[H80.out];decide));go_wp2_with fail;go_ret3;exact ⟨_,_,_,by rw[HN.out,H80.out];rfl,by rw[HB.out];exact HM3.out.ext HXs.out,HN3.out,by rw[HA2.out];exact Blk.ext HW3.out HXs.out,Nat.le_trans HS3.out HXs.out.size,fun i h1 h2 h3=>(HXs.out.block i (Nat.lt_of_lt_of_le h1 HS3.out)).trans (HO3.out i h1 h2),HB3.out,HI3.out.trans (Ios.of_ext HXs.out)⟩
       | true =>
        have HN:Hid (wrN bs str a L=(a+1,true,0)):=η47 (by unfold wrN;rw[if_neg (by rw[HZ.out,H80.out];decide),if_pos ⟨by rw[HZ.out,H80.out],hth⟩]);have HB:Hid (wrB bs str a L=bs):=η47 (by unfold wrB;rw[HZ.out,if_neg (by rw[H80.out];decide)]);have HA2:Hid (wrA bs str a L=a+(j:Int)):=η47 (by unfold wrA;rw[HN.out,HLn.out];rfl);have HW5:=η47 (Blk.ext HW3.out HXs.out);have f2:=HW5.out.free 2;have g0:=q0A HXs.out e0;have HG3:Hid (¬MoB mb vL' vM' gw):=η47 fun h=>by
         rcases HB3.out gw h with h|h
         ·exact HG.out h
         ·have:=HW.out.lt;rw[show w.drew.heap.size=w.heap.size from rfl] at h;omega
        have HM5:=η47 (HM3.out.ext HXs.out);have HMF:=η47 (z0Z (HM5.out.same (W':=wr.setCell ⟨gw,2,none⟩ (.int .i64 (a+(j:Int)))) fun i hi=>heap_setCell_other wr ⟨gw,2,none⟩ i _ (fun e=>HG3.out (by have e2:i=gw:=e;rw[←e2];exact hi))) (by have:=HN3.out;omega));have HWs:=η47 (HW5.out.set 2 (.int .i64 (a+(j:Int))));clear hx5;go_wp2_with fail;refine HMF.out.mono ?_;rintro e w5 ⟨rfl,h1,h2,h3,h4⟩;have HZ5:=η47 h1;have HO5:=η47 h2;have HS5:=η47 h4;have HI5:=η47 (Ios.of_low h3);clear h1 h2 h3 h4 HMF;go_wp2_with fail;go_ret3;have hb5:=HM5.out;have hgs:wr.heap.size=(wr.setCell ⟨gw,2,none⟩ (.int .i64 (a+(j:Int)))).heap.size:=by rw[World.size_setCell]
        refine ⟨vL',vM',ms',by rw[HN.out];rfl,?_,HN3.out,?_,?_,?_,HB3.out,(HI3.out.trans (Ios.of_ext HXs.out)).trans HI5.out⟩
        ·rw [HB.out]
         refine ⟨HS5.out,q0a hb5.rowL fun i hi=>?_,q0a hb5.rowM fun i hi=>?_⟩
         ·rw[HO5.out i (fun e=>hb5.apart.1 (e▸hi))]
          exact heap_setCell_other wr ⟨gw,2,none⟩ i _ (fun e=>HG3.out (by have e2:i=gw:=e;rw[←e2];exact .inr (.inl hi)))
         ·rw[HO5.out i (fun e=>hb5.apart.2.1 (e▸hi))]
          exact heap_setCell_other wr ⟨gw,2,none⟩ i _ (fun e=>HG3.out (by have e2:i=gw:=e;rw[←e2];exact .inr (.inr hi)))
        ·rw[HA2.out]
         exact Blk.same HWs.out (HO5.out gw (fun e=>HG3.out (.inl e)))
        ·rw[HZ5.out,←hgs];exact Nat.le_trans HS3.out HXs.out.size
        ·intro i h1 h2 h3
         rw[HO5.out i (fun e=>h2 (.inl e)),heap_setCell_other wr ⟨gw,2,none⟩ i _ (fun e=>h3 e)];exact (HXs.out.block i (Nat.lt_of_lt_of_le h1 HS3.out)).trans (HO3.out i h1 h2)
    ·have hd4:decide (a+1+(k:Int)≤(n:Int))=false:=decide_eq_false hfit
     have hth:q2z bs str a L=false:=by rw[HTb.out,decide_eq_false hfit];simp
     go_wp2_with fail
     go_loopw [8,12] (fun ob oi W=>ob= .bool false∧oi= .int .i64 (0:Int)∧Ext w4 W) (fun _ i _=>0)
     case atStart=>exact ⟨rfl,rfl,Ext.refl _⟩
     case round=>
      obtain ⟨rfl,rfl,hx5⟩:=hrel;have HXs:Hid (Ext w3 wr):=η47 ((Ext.refl w3).drew.trans (HX4.out.trans hx5));clear hx5;have HN:Hid (wrN bs str a L=(0,false,z)):=η47 (by unfold wrN;rw[HZ.out,if_neg (by rw[H80.out];decide),if_neg (by rintro ⟨_,h⟩;rw[hth] at h;cases h)]);have HB:Hid (wrB bs str a L=bs):=η47 (by unfold wrB;rw[HZ.out,if_neg (by rw[H80.out];decide)]);have HA2:Hid (wrA bs str a L=a):=η47 (by unfold wrA;rw[HN.out];exact if_neg (by rw[H80.out];decide));go_wp2_with fail;go_ret3;exact ⟨_,_,_,by rw[HN.out,H80.out];rfl,by rw[HB.out];exact HM3.out.ext HXs.out,HN3.out,by rw[HA2.out];exact Blk.ext HW3.out HXs.out,Nat.le_trans HS3.out HXs.out.size,fun i h1 h2 h3=>(HXs.out.block i (Nat.lt_of_lt_of_le h1 HS3.out)).trans (HO3.out i h1 h2),HB3.out,HI3.out.trans (Ios.of_ext HXs.out)⟩
   ·have hd3:decide ((0:Int)<(k:Int))=false:=decide_eq_false (by omega)
    have hth:q2z bs str a L=false:=by rw[HTb.out,decide_eq_false hk0];simp
    go_wp2_with fail
    go_loopw [8,12] (fun ob oi W=>ob= .bool false∧oi= .int .i64 (0:Int)∧Ext w4 W) (fun _ i _=>0)
    case atStart=>exact ⟨rfl,rfl,Ext.refl _⟩
    case round=>
     obtain ⟨rfl,rfl,hx5⟩:=hrel;have HXs:Hid (Ext w3 wr):=η47 ((Ext.refl w3).drew.trans (HX4.out.trans hx5));clear hx5;have HN:Hid (wrN bs str a L=(0,false,z)):=η47 (by unfold wrN;rw[HZ.out,if_neg (by rw[H80.out];decide),if_neg (by rintro ⟨_,h⟩;rw[hth] at h;cases h)]);have HB:Hid (wrB bs str a L=bs):=η47 (by unfold wrB;rw[HZ.out,if_neg (by rw[H80.out];decide)]);have HA2:Hid (wrA bs str a L=a):=η47 (by unfold wrA;rw[HN.out];exact if_neg (by rw[H80.out];decide));go_wp2_with fail;go_ret3;exact ⟨_,_,_,by rw[HN.out,H80.out];rfl,by rw[HB.out];exact HM3.out.ext HXs.out,HN3.out,by rw[HA2.out];exact Blk.ext HW3.out HXs.out,Nat.le_trans HS3.out HXs.out.size,fun i h1 h2 h3=>(HXs.out.block i (Nat.lt_of_lt_of_le h1 HS3.out)).trans (HO3.out i h1 h2),HB3.out,HI3.out.trans (Ios.of_ext HXs.out)⟩
  ·have hd1:(z==(80:Int))=false:=by simpa using h80
   have hd2:(z !=(0:Int))=true:=by simpa using hz
   have HN:Hid (wrN bs str a L=(0,false,z)):=η47 (by unfold wrN;rw[HZ.out,if_neg hz,if_neg (by rintro ⟨h,_⟩;exact h80 h)]);have HB:Hid (wrB bs str a L=bs):=η47 (by unfold wrB;rw[HZ.out,if_neg hz]);have HA2:Hid (wrA bs str a L=a):=η47 (by unfold wrA;rw[HN.out];exact if_neg hz);clear h80 hz;go_wp2_with fail;go_ret3;exact ⟨_,_,_,by rw[HN.out];rfl,by rw[HB.out];exact HM3.out,HN3.out,by rw[HA2.out];exact HW3.out,HS3.out,fun i h1 h2 h3=>HO3.out i h1 h2,HB3.out,HI3.out⟩
 ·subst hz
  have HN:Hid (wrN bs str a L=(a+1,false,0)):=η47 (by unfold wrN;rw[if_pos HZ.out]);have HB:Hid (wrB bs str a L=bs++[⟨str,(q0T bs str).length,L⟩]):=η47 (by unfold wrB;rw[if_pos HZ.out]);have HA2:Hid (wrA bs str a L=a+(k:Int)):=η47 (by unfold wrA;rw[HN.out,HLn.out];rfl);have f2:=HW3.out.free 2;have HG3:Hid (¬MoB mb vL' vM' gw):=η47 fun h=>by
   rcases HB3.out gw h with h|h
   ·exact HG.out h
   ·have:=HW.out.lt;rw[show w.drew.heap.size=w.heap.size from rfl] at h;omega
  have HMF:=η47 (z0Z (HM3.out.same (W':=w3.setCell ⟨gw,2,none⟩ (.int .i64 (a+(k:Int)))) fun i hi=>heap_setCell_other w3 ⟨gw,2,none⟩ i _ (fun e=>HG3.out (by have e2:i=gw:=e;rw[←e2];exact hi))) (by have:=HN3.out;omega));have HWs:=η47 (HW3.out.set 2 (.int .i64 (a+(k:Int))));clear HR3;go_wp2_with fail;refine HMF.out.mono ?_;rintro e w5 ⟨rfl,h1,h2,h3,h4⟩;have HZ5:=η47 h1;have HO5:=η47 h2;have HS5:=η47 h4;have HI5:=η47 (Ios.of_low h3);clear h1 h2 h3 h4 HMF;go_wp2_with fail;go_ret3;have hb5:=HM3.out;have hgs:w3.heap.size=(w3.setCell ⟨gw,2,none⟩ (.int .i64 (a+(k:Int)))).heap.size:=by rw[World.size_setCell]
  refine ⟨vL',vM',ms',by rw[HN.out];rfl,?_,HN3.out,?_,?_,?_,HB3.out,HI3.out.trans HI5.out⟩
  ·rw [HB.out]
   refine ⟨HS5.out,q0a hb5.rowL fun i hi=>?_,q0a hb5.rowM fun i hi=>?_⟩
   ·rw[HO5.out i (fun e=>hb5.apart.1 (e▸hi))]
    exact heap_setCell_other w3 ⟨gw,2,none⟩ i _ (fun e=>HG3.out (by have e2:i=gw:=e;rw[←e2];exact .inr (.inl hi)))
   ·rw[HO5.out i (fun e=>hb5.apart.2.1 (e▸hi))]
    exact heap_setCell_other w3 ⟨gw,2,none⟩ i _ (fun e=>HG3.out (by have e2:i=gw:=e;rw[←e2];exact .inr (.inr hi)))
  ·rw[HA2.out]
   exact Blk.same HWs.out (HO5.out gw (fun e=>HG3.out (.inl e)))
  ·rw[HZ5.out,←hgs];exact HS3.out
  ·intro i h1 h2 h3
   rw[HO5.out i (fun e=>h2 (.inl e)),heap_setCell_other w3 ⟨gw,2,none⟩ i _ (fun e=>h3 e)];exact HO3.out i h1 h2
end
section
open Go.RowKit
def apN (bs:List Bt) (str:List UInt8) (L:List Ev):Int×Int:=if q8A bs str (-2) L=0 then (((q0T bs str).length:Int),0) else (0,q8A bs str (-2) L)
def apB (bs:List Bt) (str:List UInt8) (L:List Ev):List Bt:=if q8A bs str (-2) L=0 then bs++[⟨str,(q0T bs str).length,L⟩] else bs
theorem q5N (bs:List Bt) (b:Bt) (str:List UInt8):(q0T bs str).length≤(q0T (bs++[b]) str).length:=by
 rw[q3R,List.length_append];omega
theorem z8p (bs:List Bt) (str:List UInt8) (a:Int) (L:List Ev) (st:List UInt8):(q0T bs st).length≤(q0T (wrB bs str a L) st).length:=by
 unfold wrB;split
 ·exact q5N _ _ _
 ·exact Nat.le_refl _
theorem z8k (bs:List Bt) (str:List UInt8) (L:List Ev) (st:List UInt8):(q0T bs st).length≤(q0T (apB bs str L) st).length:=by
 unfold apB;split
 ·exact q5N _ _ _
 ·exact Nat.le_refl _
theorem y0J (bs:List Bt) (str:List UInt8) (a:Int) (L:List Ev):(wrB bs str a L).length≤bs.length+1:=by
 unfold wrB;split<;>simp
theorem z9T (bs:List Bt) (str:List UInt8) (L:List Ev):(apB bs str L).length≤bs.length+1:=by
 unfold apB;split<;>simp
theorem z8n {bs:List Bt} {str:List UInt8} {a:Int} {L:List Ev} (h0: -1≤a) (h1:a<((q0T bs str).length:Int)): -1≤wrA bs str a L∧wrA bs str a L<((q0T (wrB bs str a L) str).length:Int):=by
 by_cases hz:q8A bs str a L=0
 ·have e1:wrA bs str a L=a+(L.length:Int):=by unfold wrA wrN;rw[if_pos hz];exact if_pos rfl
  have e2:wrB bs str a L=bs++[⟨str,(q0T bs str).length,L⟩]:=by unfold wrB;rw[if_pos hz]
  have e3:q0T [⟨str,(q0T bs str).length,L⟩] str=L:=by unfold q0T;simp
  rw[e1,e2,q3R,List.length_append,e3];omega
 ·have e2:wrB bs str a L=bs:=by unfold wrB;rw[if_neg hz]
  rw[e2];by_cases ht:q8A bs str a L=80∧q2z bs str a L=true
  ·have e1:wrA bs str a L=a+(L.length:Int):=by unfold wrA wrN;rw[if_neg hz,if_pos ht];exact if_pos rfl
   have h3:=z6g ht.1 h0;rw[ht.2] at h3;have h4:=h3.symm;simp only[Bool.and_eq_true,decide_eq_true_eq] at h4;rw[e1];omega
  ·have e1:wrA bs str a L=a:=by unfold wrA wrN;rw[if_neg hz,if_neg ht];exact if_neg hz
   rw[e1];exact ⟨h0,h1⟩
theorem z8h {bs:List Bt} {str:List UInt8} {a:Int} (h:q5a bs str a=0): -1≤a∧a<((q0T bs str).length:Int):=by
 unfold q5a at h
 split at h
 ·rename_i h1;exact absurd h h1
 ·rename_i h1
  split at h
  ·cases h
  ·split at h
   ·cases h
   ·unfold q3f at*
    split at h1
    ·rename_i h2 h3 h4
     rw[if_pos h4] at h3;simp only at h3;omega
    ·simp at h1
theorem z8o {bs:List Bt} (h:okBs bs) {str:List UInt8} {a:Int} {L:List Ev} (hl:bs.length≤1000) (hwe: ∀e∈L,e.we<18446744073709551616):okBs (wrB bs str a L):=by
 unfold wrB;by_cases hz:q8A bs str a L=0
 ·rw [if_pos hz]
  have hc:q0N str 0 L=0:=by
   unfold q8A at hz;by_cases hc:q0N str 0 L=0
   ·exact hc
   ·rw[if_pos hc] at hz;exact absurd hz hc
  have h1:=q3i bs str;have h2:=q9g h;exact okBs_snoc.2 ⟨h,⟨q4V (n:=(q0T bs str).length) hc (by omega),hwe⟩,rfl⟩
 ·rw[if_neg hz];exact h
theorem y1a {bs:List Bt} (h:okBs bs) {str:List UInt8} {L:List Ev} (hl:bs.length≤1000) (hwe: ∀e∈L,e.we<18446744073709551616):okBs (apB bs str L):=z8o (a:= -2) h hl hwe
def upd (P:Bool→Option (Nat×Int)) (k:Bool) (v:Option (Nat×Int)):Bool→Option (Nat×Int):=fun j=>if j=k then v else P j
theorem q3O (P:Bool→Option (Nat×Int)) (k:Bool) (v:Option (Nat×Int)):upd P k v k=v:=if_pos rfl
theorem q4J (P:Bool→Option (Nat×Int)) (k:Bool) (v:Option (Nat×Int)):upd P k v (!k)=P (!k):=if_neg (by cases k<;>decide)
theorem q1J {P:Bool→Option (Nat×Int)} {k:Bool} {v:Option (Nat×Int)} {j:Bool} {r:Option (Nat×Int)} (h:upd P k v j=r):(j=k∧v=r)∨(j=!k∧P (!k)=r):=by
 by_cases e:j=k
 ·subst e;rw[q3O] at h;exact .inl ⟨rfl,h⟩
 ·have e2:j=!k:=by cases j<;>cases k<;>simp_all
  subst e2;rw[q4J] at h;exact .inr ⟨rfl,h⟩
def InW (P:Bool→Option (Nat×Int)) (i:Nat):Prop:= ∃k s,P k=some (i,s)
def ptW :Option (Nat×Int)→Value
 |none=> .pointer none
 |some (x,_)=> .pointer (some ⟨x,0,none⟩)
theorem InW.of_upd {P:Bool→Option (Nat×Int)} {k:Bool} {x:Nat} {s s':Int} (h:P k=some (x,s)) {i:Nat}:InW (upd P k (some (x,s'))) i↔InW P i:=by
 constructor
 ·rintro ⟨j,t,hj⟩
  rcases q1J hj with ⟨rfl,e⟩|⟨rfl,e⟩
  ·cases e;exact ⟨_,_,h⟩
  ·exact ⟨_,_,e⟩
 ·rintro ⟨j,t,hj⟩
  by_cases e:j=k
  ·subst e;rw[h] at hj;cases hj;exact ⟨_,_,q3O _ _ _⟩
  ·have e2:j=!k:=by cases j<;>cases k<;>simp_all
   subst e2;exact ⟨!k,t,by rw[q4J];exact hj⟩
theorem InW.upd_le {P:Bool→Option (Nat×Int)} {k:Bool} {v:Option (Nat×Int)} {i:Nat} (h:InW (upd P k v) i):InW P i∨ ∃s,v=some (i,s):=by
 obtain ⟨j,t,hj⟩:=h;rcases q1J hj with ⟨rfl,e⟩|⟨rfl,e⟩
 ·exact .inr ⟨t,e⟩
 ·exact .inl ⟨_,_,e⟩
structure TW (wb W:World) (g gs rate:Nat) (sd c:Int) (u n:Nat) (bs:List Bt) (mb:Nat) (vL vM:Value) (k:Nat) (bs2:List Bt) (str:List UInt8) (P D:Bool→Option (Nat×Int)) (X:Nat→Prop):Prop where
 sk:SK wb W g gs rate sd c 0 u n bs (fun i=>MoB mb vL vM i∨InW P i∨InW D i∨X i)
 mo: ∃ms,MoI W mb wb.heap.size vL vM (tos bs2) ms∧ms.length≤k
 ok2:okBs bs2
 few2:bs2.length≤k
 lowM: ∀i,MoB mb vL vM i→wb.heap.size≤i∧¬X i
 pI: ∀j x s,P j=some (x,s)→WrI W x gs str s∧ -1≤s∧s<((q0T bs str).length:Int)
 dI: ∀j x s,D j=some (x,s)→RwI W x mb str s∧ -1≤s∧s<((q0T bs2 str).length:Int)
 pA: ∀j x s,P j=some (x,s)→¬MoB mb vL vM x∧¬X x∧¬InW D x∧(∀s',P (!j)≠some (x,s'))∧wb.heap.size≤x
 dA: ∀j x s,D j=some (x,s)→¬MoB mb vL vM x∧¬X x∧(∀s',D (!j)≠some (x,s'))∧wb.heap.size≤x
section
variable {wb w W W':World} {g gs mb rate u n k:Nat} {sd c:Int} {bs bs2:List Bt} {vL vM:Value} {str:List UInt8} {P D:Bool→Option (Nat×Int)} {X X':Nat→Prop}
theorem TW.lt (h:TW wb W g gs rate sd c u n bs mb vL vM k bs2 str P D X) {i:Nat} (hi:MoB mb vL vM i∨InW P i∨InW D i∨X i):i<W.heap.size:=h.sk.klt i hi
theorem TW.grow (h:TW wb W g gs rate sd c u n bs mb vL vM k bs2 str P D X) (e:Ext W W'):TW wb W' g gs rate sd c u n bs mb vL vM k bs2 str P D X:=by
 obtain ⟨ms,hm,hl⟩:=h.mo;exact ⟨h.sk.grow e,⟨ms,hm.ext e,hl⟩,h.ok2,h.few2,h.lowM,fun j x s hj=>⟨Blk.ext (h.pI j x s hj).1 e,(h.pI j x s hj).2⟩,fun j x s hj=>⟨Blk.ext (h.dI j x s hj).1 e,(h.dI j x s hj).2⟩,h.pA,h.dA⟩
theorem TW.more (h:TW wb W g gs rate sd c u n bs mb vL vM k bs2 str P D X) (e:Ext W W') (hX: ∀i,X' i→X i∨(W.heap.size≤i∧i<W'.heap.size)):TW wb W' g gs rate sd c u n bs mb vL vM k bs2 str P D X':=by
 have hg:=h.grow e;have hn: ∀i,(MoB mb vL vM i∨InW P i∨InW D i)→¬X i→¬X' i:=fun i hi hx hx'=>by
  have:i<W.heap.size:=h.lt (by rcases hi with h|h|h;exact .inl h;exact .inr (.inl h);exact .inr (.inr (.inl h)));rcases hX i hx' with h|h
  ·exact hx h
  ·omega
 refine ⟨h.sk.more e fun i hi=>?_,hg.mo,hg.ok2,hg.few2,fun i hi=>⟨(h.lowM i hi).1,hn i (.inl hi) (h.lowM i hi).2⟩,hg.pI,hg.dI,fun j x s hj=>?_,fun j x s hj=>?_⟩
 ·rcases hi with hi|hi|hi|hi
  ·exact .inl (.inl hi)
  ·exact .inl (.inr (.inl hi))
  ·exact .inl (.inr (.inr (.inl hi)))
  ·exact (hX i hi).imp (fun h=> .inr (.inr (.inr h))) id
 ·obtain ⟨a1,a2,a3⟩:=h.pA j x s hj
  exact ⟨a1,hn x (.inr (.inl ⟨j,s,hj⟩)) a2,a3⟩
 ·obtain ⟨a1,a2,a3⟩:=h.dA j x s hj
  exact ⟨a1,hn x (.inr (.inr ⟨j,s,hj⟩)) a2,a3⟩
theorem TW.poke (h:TW wb W g gs rate sd c u n bs mb vL vM k bs2 str P D X) {x:Nat} (hx:X x) (hb:wb.heap.size≤x) (j:Nat) (v:Value):TW wb (W.setCell ⟨x,j,none⟩ v) g gs rate sd c u n bs mb vL vM k bs2 str P D X:=by
 obtain ⟨ms,hm,hl⟩:=h.mo;have ho: ∀i,i≠x→(W.setCell ⟨x,j,none⟩ v).heap[i]? =W.heap[i]? :=fun i hi=>heap_setCell_other W ⟨x,j,none⟩ i v fun e=>hi (by exact e)
 refine ⟨h.sk.sideM (by rw[World.size_setCell];exact Nat.le_refl _) (Below.setCell h.sk.base hb v) (fun i hi hn=>ho i fun e=>hn (by rw[e];exact .inr (.inr (.inr hx)))) fun i hi=> .inl hi,
  ⟨ms,hm.same fun i hi=>ho i fun e=>(h.lowM i hi).2 (e▸hx),hl⟩,h.ok2,h.few2,h.lowM,fun a y s hj=>⟨Blk.same (h.pI a y s hj).1 (ho y fun e=>(h.pA a y s hj).2.1 (e▸hx)),(h.pI a y s hj).2⟩,fun a y s hj=>⟨Blk.same (h.dI a y s hj).1 (ho y fun e=>(h.dA a y s hj).2.1 (e▸hx)),(h.dI a y s hj).2⟩,h.pA,h.dA⟩
theorem TW.stored (h:TW wb w g gs rate sd c u n bs mb vL vM k bs2 str P D X) {u' n':Nat} {bs':List Bt} (hk:SK wb W g gs rate sd c 0 u' n' bs' (fun i=>MoB mb vL vM i∨InW P i∨InW D i∨X i)) (hs:Stay (fun i=>MoB mb vL vM i∨InW P i∨InW D i∨X i) w W) (he:(q0T bs str).length≤(q0T bs' str).length):
  TW wb W g gs rate sd c u' n' bs' mb vL vM k bs2 str P D X∧Stay X w W:=by
 obtain ⟨ms,hm,hl⟩:=h.mo;refine ⟨⟨hk,⟨ms,hm.same fun i hi=>hs i (.inl hi),hl⟩,h.ok2,h.few2,h.lowM,fun j x s hj=>?_,fun j x s hj=>?_,h.pA,h.dA⟩,fun i hi=>hs i (.inr (.inr (.inr hi)))⟩
 ·obtain ⟨a1,a2,a3⟩:=h.pI j x s hj
  exact ⟨Blk.same a1 (hs x (.inr (.inl ⟨j,s,hj⟩))),a2,by omega⟩
 ·obtain ⟨a1,a2⟩:=h.dI j x s hj
  exact ⟨Blk.same a1 (hs x (.inr (.inr (.inl ⟨j,s,hj⟩)))),a2⟩
theorem TW.app1 (h:TW wb w g gs rate sd c u n bs mb vL vM k bs2 str P D X) (hn:n≤86) (hroom:(u:Int)+8024≤c) (hs:str.length≤4611686018427387903) {ao:Option Addr} {m cap:Nat} {L:List Ev} (hx: ∀W,Ext wb W→Evs W ao m cap L) (hL:q1A L) (hwe: ∀e∈L,e.we<18446744073709551616):
  Calls Tryz.prog 12 #[.pointer (some ⟨gs,0,none⟩),.string ⟨str.toArray⟩,.int .i64 (-2),.slice ao m cap] w fun e w'=>e= .returned (.tuple #[.int .i64 (apN bs str L).1,.int .i64 (apN bs str L).2])∧TW wb w' g gs rate sd c (u+2024) (n+1) (apB bs str L) mb vL vM k bs2 str P D X∧Stay X w w':=by
 refine (h.sk.append hn str hs (-2) (fun W kk _=>hx W kk) hL hwe rfl).mono ?_;rintro e w' ⟨x,y,bs',rfl,k1,k2,h3⟩;have hh:x=(apN bs str L).1∧y=(apN bs str L).2∧bs'=apB bs str L:=by
  unfold apN apB;rcases h3 with ⟨h3,rfl,rfl,rfl⟩|⟨_,_,_,_,h3⟩|⟨h3,rfl,rfl,rfl⟩
  ·rw[if_neg h3,if_neg h3];exact ⟨rfl,rfl,rfl⟩
  ·omega
  ·rw[if_pos h3,if_pos h3];exact ⟨rfl,rfl,rfl⟩
 obtain ⟨rfl,rfl,rfl⟩:=hh;exact ⟨rfl,h.stored k1 k2 (z8k _ _ _ _)⟩
theorem TW.modelled (h:TW wb w g gs rate sd c u n bs mb vL vM k bs2 str P D X) {F:Nat→Prop} {vL' vM':Value} {ms':List Value} {bs':List Bt} (hm:MoI W mb wb.heap.size vL' vM' (tos bs') ms') (hl:ms'.length≤k+1) (hok:okBs bs') (hfew:bs'.length≤k+1)
  (hsz:w.heap.size≤W.heap.size) (hios:Ios w W) (ho: ∀i,i<w.heap.size→¬MoB mb vL vM i→¬F i→W.heap[i]? =w.heap[i]?) (hB: ∀i,MoB mb vL' vM' i→MoB mb vL vM i∨w.heap.size≤i) (he:(q0T bs2 str).length≤(q0T bs' str).length)
  {D':Bool→Option (Nat×Int)} (hF: ∀i,F i→InW D i) (hD: ∀i,InW D' i→InW D i) (hdI: ∀j x s,D' j=some (x,s)→RwI W x mb str s∧ -1≤s∧s<((q0T bs' str).length:Int)) (hdA: ∀j x s,D' j=some (x,s)→ ∃s',D j=some (x,s')):
  TW wb W g gs rate sd c u n bs mb vL' vM' (k+1) bs' str P D' X∧Stay X w W:=by
 have hFl: ∀i,F i→wb.heap.size≤i:=fun i hi=>by obtain ⟨j,s,hj⟩:=hF i hi;exact (h.dA j i s hj).2.2.2
 have hst: ∀i,i<w.heap.size→¬MoB mb vL vM i→¬InW D i→W.heap[i]? =w.heap[i]? :=fun i h1 h2 h3=>ho i h1 h2 fun hf=>h3 (hF i hf)
 have hx:Ext wb W:=Below.trans h.sk.base ⟨hios.1,hios.2.1,hios.2.2,hsz,fun i hi=>ho i (Nat.lt_of_lt_of_le hi h.sk.base.size) (fun e=>by have:=(h.lowM i e).1;omega) fun e=>by have:=hFl i e;omega⟩;have hnew: ∀i,(InW P i∨InW D i∨X i)→¬MoB mb vL vM i→¬MoB mb vL' vM' i:=fun i hi hn hb=>by
  have:i<w.heap.size:=h.lt (.inr hi);rcases hB i hb with h1|h1
  ·exact hn h1
  ·omega
 refine ⟨⟨h.sk.sideM hsz hx (fun i hi hn=>hst i hi (fun e=>hn (.inl e)) fun e=>hn (.inr (.inr (.inl e)))) fun i hi=>?_,⟨ms',hm,hl⟩,hok,hfew,fun i hi=>?_,fun j x s hj=>?_,hdI,fun j x s hj=>?_,fun j x s hj=>?_⟩,fun i hi=>?_⟩
 ·rcases hi with hi|hi|hi|hi
  ·rcases hB i hi with h1|h1
   ·exact .inl (.inl h1)
   ·exact .inr ⟨h1,hm.lt hi⟩
  ·exact .inl (.inr (.inl hi))
  ·exact .inl (.inr (.inr (.inl (hD i hi))))
  ·exact .inl (.inr (.inr (.inr hi)))
 ·rcases hB i hi with h1|h1
  ·exact h.lowM i h1
  ·exact ⟨Nat.le_trans h.sk.base.size h1,fun hX=>by have:=h.lt (.inr (.inr (.inr hX)));omega⟩
 ·obtain ⟨a1,a2⟩:=h.pI j x s hj
  obtain ⟨b1,b2,b3,b4⟩:=h.pA j x s hj;exact ⟨Blk.same a1 (hst x (h.lt (.inr (.inl ⟨j,s,hj⟩))) b1 b3),a2⟩
 ·obtain ⟨b1,b2,b3,b4⟩:=h.pA j x s hj
  exact ⟨hnew x (.inl ⟨j,s,hj⟩) b1,b2,fun e=>b3 (hD x e),b4⟩
 ·obtain ⟨s',hs'⟩:=hdA j x s hj
  obtain ⟨b1,b2,b3,b4⟩:=h.dA j x s' hs';exact ⟨hnew x (.inr (.inl ⟨j,s',hs'⟩)) b1,b2,fun s2 e=>(by obtain ⟨s3,h3⟩:=hdA _ _ _ e;exact b3 s3 h3),b4⟩
 ·exact hst i (h.lt (.inr (.inr (.inr hi)))) (fun e=>(h.lowM i e).2 hi) fun ⟨j,s,hj⟩=>(h.dA j i s hj).2.1 hi
theorem TW.bd2 (h:TW wb w g gs rate sd c u n bs mb vL vM k bs2 str P D X) (hk:k≤1000):(tos bs2).length≤8000:=by
 have h1:=q9g h.ok2;have h2:=h.few2;omega
theorem z8d {ao:Option Addr} {m cap:Nat} {L:List Ev} (hx: ∀W,Ext wb W→Evs W ao m cap L): ∀a,ao=some a→0<m→a.block<wb.heap.size:=fun a e hm=>by
 obtain ⟨b,off,e2,c0,_⟩:=(hx wb (Ext.refl _)).at (i:=0) hm;rw[e] at e2;cases e2;exact World.block_lt_of_cell? _ _ c0
theorem TW.app2 (h:TW wb w g gs rate sd c u n bs mb vL vM k bs2 str P D X) (hk:k≤1000) (hs:str.length≤4611686018427387903) {ao:Option Addr} {m cap:Nat} {L:List Ev} (hx: ∀W,Ext wb W→Evs W ao m cap L) (hL:q1A L) (hwe: ∀e∈L,e.we<18446744073709551616):
  Calls Tryz.prog 13 #[.pointer (some ⟨mb,0,none⟩),.string ⟨str.toArray⟩,.int .i64 (-2),.slice ao m cap] w fun e w'=>e= .returned (.tuple #[.int .i64 (apN bs2 str L).1,.int .i64 (apN bs2 str L).2])∧Stay X w w'∧
   ∃vL' vM',TW wb w' g gs rate sd c u n bs mb vL' vM' (k+1) (apB bs2 str L) str P D X:=by
 obtain ⟨ms,hm,hl⟩:=h.mo;have h8:=h.bd2 hk;have hfew:=h.few2;refine (q8f hm h.ok2 (h.lowM mb (.inl rfl)).1 str hs (-2) (hx w h.sk.base) (fun a e h0 hb=>by have:=z8d hx a e h0;have:=(h.lowM _ hb).1;omega) hL hwe (by omega) (by omega) rfl).mono ?_;rintro e w' ⟨vL',vM',ms',bs',x,y,rfl,h1,h2,h3,h4,h5,h6,h7⟩;have hh:x=(apN bs2 str L).1∧y=(apN bs2 str L).2∧bs'=apB bs2 str L:=by
  unfold apN apB;rcases h6 with ⟨h3,rfl,rfl,rfl⟩|⟨h3,rfl,rfl,rfl⟩
  ·rw[if_neg h3,if_neg h3];exact ⟨rfl,rfl,rfl⟩
  ·rw[if_pos h3,if_pos h3];exact ⟨rfl,rfl,rfl⟩
 obtain ⟨rfl,rfl,rfl⟩:=hh;have he:=z8k bs2 str L str;have:=h.modelled (F:=fun _=>False) (D':=D) h1 (by omega) (y1a h.ok2 (by omega) hwe) (Nat.le_trans (z9T _ _ _) (by omega)) h3 h7 (fun i a b _=>h4 i a b) h5 he (fun i hi=>hi.elim) (fun i hi=>hi) (fun j x s hj=>?_) (fun j x s hj=>⟨s,hj⟩)
 ·exact ⟨rfl,this.2,_,_,this.1⟩
 ·obtain ⟨a1,a2,a3⟩:=h.dI j x s hj
  exact ⟨Blk.same a1 (h4 x (h.lt (.inr (.inr (.inl ⟨j,s,hj⟩)))) (h.dA j x s hj).1),a2,by omega⟩
theorem TW.write1 (h:TW wb w g gs rate sd c u n bs mb vL vM k bs2 str P D X) (hn:n≤86) (hroom:(u:Int)+8024≤c) (hs:str.length≤4611686018427387903) {j:Bool} {x:Nat} {s:Int} (hj:P j=some (x,s)) {ao:Option Addr} {m cap:Nat} {L:List Ev} (hx: ∀W,Ext wb W→Evs W ao m cap L) (hm:m≤1000000) (hL:q1A L) (hwe: ∀e∈L,e.we<18446744073709551616):
  Calls Tryz.prog 14 #[.pointer (some ⟨x,0,none⟩),.slice ao m cap] w fun e w'=>e= .returned (.tuple #[.int .i64 (wrN bs str s L).1,.bool (wrN bs str s L).2.1,.int .i64 (wrN bs str s L).2.2])∧
   TW wb w' g gs rate sd c (u+2024) (n+1) (wrB bs str s L) mb vL vM k bs2 str (upd P j (some (x,wrA bs str s L))) D X∧Stay X w w':=by
 obtain ⟨ms,hmo,hl⟩:=h.mo;obtain ⟨a1,a2,a3⟩:=h.pI j x s hj;obtain ⟨b1,b2,b3,b4,b5⟩:=h.pA j x s hj;have hb:=h.sk.few;have hb2:=q3i bs str;have hK: ∀i,((MoB mb vL vM i∨(InW P i∧i≠x)∨InW D i∨X i)∨i=x)→(MoB mb vL vM i∨InW P i∨InW D i∨X i):=fun i hi=>by
  rcases hi with (hi|hi|hi|hi)|hi
  ·exact .inl hi
  ·exact .inr (.inl hi.1)
  ·exact .inr (.inr (.inl hi))
  ·exact .inr (.inr (.inr hi))
  ·exact .inr (.inl ⟨j,s,by rw[hi];exact hj⟩)
 have hK2: ∀i,(MoB mb vL vM i∨InW P i∨InW D i∨X i)→((MoB mb vL vM i∨(InW P i∧i≠x)∨InW D i∨X i)∨i=x):=fun i hi=>by
  by_cases e:i=x
  ·exact .inr e
  ·exact .inl (by rcases hi with hi|hi|hi|hi;exact .inl hi;exact .inr (.inl ⟨hi,e⟩);exact .inr (.inr (.inl hi));exact .inr (.inr (.inr hi)))
 refine (q9F (h.sk.beside hK) hn hroom (fun hi=>by rcases hi with hi|hi|hi|hi;exact b1 hi;exact hi.2 rfl;exact b3 hi;exact b2 hi) b5 a1 hs a2 (by omega) (fun W kk _=>hx W kk) hm hL hwe).mono ?_;rintro e w' ⟨rfl,k1,k2,k3⟩;have he:=z8p bs str s L str;refine ⟨rfl,⟨k1.beside fun i hi=>hK2 i (by rcases hi with hi|hi|hi;exact .inl hi;exact .inr (.inl ((InW.of_upd hj).1 hi));exact .inr (.inr hi)),⟨ms,hmo.same fun i hi=>k2 i (.inl hi),hl⟩,h.ok2,h.few2,h.lowM,fun i y t hi=>?_,fun i y t hi=>?_,fun i y t hi=>?_,h.dA⟩,fun i hi=>k2 i (.inr (.inr (.inr hi)))⟩
 ·rcases q1J hi with ⟨rfl,e⟩|⟨rfl,e⟩
  ·cases e;exact ⟨k3,z8n a2 a3⟩
  ·obtain ⟨c1,c2,c3⟩:=h.pI _ _ _ e
   exact ⟨Blk.same c1 (k2 y (.inr (.inl ⟨⟨_,_,e⟩,fun e2=>b4 t (by rw[e,e2])⟩))),c2,by omega⟩
 ·obtain ⟨c1,c2⟩:=h.dI i y t hi
  exact ⟨Blk.same c1 (k2 y (.inr (.inr (.inl ⟨i,t,hi⟩)))),c2⟩
 ·rcases q1J hi with ⟨rfl,e⟩|⟨rfl,e⟩
  ·cases e;exact ⟨b1,b2,b3,fun s' e=>b4 s' (by rw[q4J] at e;exact e),b5⟩
  ·obtain ⟨c1,c2,c3,c4,c5⟩:=h.pA _ _ _ e
   refine ⟨c1,c2,c3,fun s' e2=>?_,c5⟩;rw[Bool.not_not,q3O] at e2
   cases e2;exact c4 s (by rw[Bool.not_not];exact hj)
theorem TW.write2 (h:TW wb w g gs rate sd c u n bs mb vL vM k bs2 str P D X) (hk:k≤1000) (hs:str.length≤4611686018427387903) {j:Bool} {x:Nat} {s:Int} (hj:D j=some (x,s)) {ao:Option Addr} {m cap:Nat} {L:List Ev} (hx: ∀W,Ext wb W→Evs W ao m cap L) (hm:m≤1000000) (hL:q1A L) (hwe: ∀e∈L,e.we<18446744073709551616):
  Calls Tryz.prog 15 #[.pointer (some ⟨x,0,none⟩),.slice ao m cap] w fun e w'=>e= .returned (.tuple #[.int .i64 (wrN bs2 str s L).1,.bool (wrN bs2 str s L).2.1,.int .i64 (wrN bs2 str s L).2.2])∧Stay X w w'∧
   ∃vL' vM',TW wb w' g gs rate sd c u n bs mb vL' vM' (k+1) (wrB bs2 str s L) str P (upd D j (some (x,wrA bs2 str s L))) X:=by
 obtain ⟨ms,hmo,hl⟩:=h.mo;obtain ⟨a1,a2,a3⟩:=h.dI j x s hj;obtain ⟨b1,b2,b3,b4⟩:=h.dA j x s hj;have h8:=h.bd2 hk;have hb2:=q3i bs2 str;have hfew:=h.few2;refine (z6x hmo h.ok2 (h.lowM mb (.inl rfl)).1 a1 b1 hs a2 (by omega) (hx w h.sk.base) (fun a e h0 hb=>by have:=z8d hx a e h0;have:=(h.lowM _ hb).1;omega) hL hwe (by omega) (by omega) hm).mono ?_;rintro e w' ⟨vL',vM',ms',rfl,h1,h2,h3,h4,h5,h6,h7⟩;have he:=z8p bs2 str s L str;have:=h.modelled (F:=fun i=>i=x) (D':=upd D j (some (x,wrA bs2 str s L))) h1 (by omega) (z8o h.ok2 (by omega) hwe) (Nat.le_trans (y0J _ _ _ _) (by omega)) h4 h7 (fun i a b d=>h5 i a b d) h6 he (fun i hi=>⟨j,s,by rw[hi];exact hj⟩) (fun i hi=>(InW.of_upd hj).1 hi) (fun i y t hi=>?_) (fun i y t hi=>?_)
 ·exact ⟨rfl,this.2,_,_,this.1⟩
 ·rcases q1J hi with ⟨rfl,e⟩|⟨rfl,e⟩
  ·cases e;exact ⟨h3,z8n a2 a3⟩
  ·obtain ⟨c1,c2,c3⟩:=h.dI _ _ _ e
   exact ⟨Blk.same c1 (h5 y (h.lt (.inr (.inr (.inl ⟨_,_,e⟩)))) (h.dA _ _ _ e).1 fun e2=>b3 t (by rw[e,e2])),c2,by omega⟩
 ·rcases q1J hi with ⟨rfl,e⟩|⟨rfl,e⟩
  ·cases e;exact ⟨s,hj⟩
  ·exact ⟨t,e⟩
theorem TW.none1 (h:TW wb W g gs rate sd c u n bs mb vL vM k bs2 str P D X) (j:Bool):TW wb W g gs rate sd c u n bs mb vL vM k bs2 str (upd P j none) D X:=by
 refine ⟨h.sk.beside fun i hi=>?_,h.mo,h.ok2,h.few2,h.lowM,fun i y t hi=>?_,h.dI,fun i y t hi=>?_,h.dA⟩
 ·rcases hi with hi|hi|hi
  ·exact .inl hi
  ·rcases InW.upd_le hi with hi|⟨s,hi⟩
   ·exact .inr (.inl hi)
   ·cases hi
  ·exact .inr (.inr hi)
 ·rcases q1J hi with ⟨rfl,e⟩|⟨rfl,e⟩
  ·cases e
  ·exact h.pI _ _ _ e
 ·rcases q1J hi with ⟨rfl,e⟩|⟨rfl,e⟩
  ·cases e
  ·obtain ⟨c1,c2,c3,c4,c5⟩:=h.pA _ _ _ e
   exact ⟨c1,c2,c3,fun s' e2=>(by rw[Bool.not_not,q3O] at e2;cases e2),c5⟩
theorem TW.none2 (h:TW wb W g gs rate sd c u n bs mb vL vM k bs2 str P D X) (j:Bool):TW wb W g gs rate sd c u n bs mb vL vM k bs2 str P (upd D j none) X:=by
 have hD: ∀i,InW (upd D j none) i→InW D i:=fun i hi=>by
  rcases InW.upd_le hi with hi|⟨s,hi⟩
  ·exact hi
  ·cases hi
 refine ⟨h.sk.beside fun i hi=>?_,h.mo,h.ok2,h.few2,h.lowM,h.pI,fun i y t hi=>?_,fun i y t hi=>?_,fun i y t hi=>?_⟩
 ·rcases hi with hi|hi|hi|hi
  ·exact .inl hi
  ·exact .inr (.inl hi)
  ·exact .inr (.inr (.inl (hD i hi)))
  ·exact .inr (.inr (.inr hi))
 ·rcases q1J hi with ⟨rfl,e⟩|⟨rfl,e⟩
  ·cases e
  ·exact h.dI _ _ _ e
 ·obtain ⟨c1,c2,c3,c4,c5⟩:=h.pA _ _ _ hi
  exact ⟨c1,c2,fun e=>c3 (hD _ e),c4,c5⟩
 ·rcases q1J hi with ⟨rfl,e⟩|⟨rfl,e⟩
  ·cases e
  ·obtain ⟨c1,c2,c3,c4⟩:=h.dA _ _ _ e
   exact ⟨c1,c2,fun s' e2=>(by rw[Bool.not_not,q3O] at e2;cases e2),c4⟩
theorem TW.open1 (h:TW wb w g gs rate sd c u n bs mb vL vM k bs2 str P D X) (hn:n≤1000) (hs:str.length≤4611686018427387903) (a:Int) (j:Bool):
  Calls Tryz.prog 10 #[.pointer (some ⟨gs,0,none⟩),.string ⟨str.toArray⟩,.int .i64 a] w fun e w'=>Stay X w w'∧
   ((q5a bs str a≠0∧e= .returned (.tuple #[.pointer none,.int .i64 (q5a bs str a)])∧TW wb w' g gs rate sd c u n bs mb vL vM k bs2 str (upd P j none) D X)∨
   (q5a bs str a=0∧ ∃x,e= .returned (.tuple #[.pointer (some ⟨x,0,none⟩),.int .i64 0])∧TW wb w' g gs rate sd c u n bs mb vL vM k bs2 str (upd P j (some (x,a))) D X)):=by
 refine (q7M h.sk hn str hs a).mono ?_;rintro e w' ⟨hx,hst,⟨hz,rfl,hk⟩|⟨hz,x,rfl,hw,hg,hb,hk⟩⟩
 ·have:=h.stored hk hst (Nat.le_refl _)
  exact ⟨this.2,.inl ⟨hz,rfl,this.1.none1 j⟩⟩
 ·have hh:=(h.stored (hk.beside fun i hi=> .inl hi) hst (Nat.le_refl _))
  have h1:=hh.1.none1 j;refine ⟨hh.2,.inr ⟨hz,x,rfl,⟨hk.beside fun i hi=>?_,hh.1.mo,hh.1.ok2,hh.1.few2,hh.1.lowM,fun i y t hi=>?_,hh.1.dI,fun i y t hi=>?_,hh.1.dA⟩⟩⟩
  ·rcases hi with hi|hi|hi
   ·exact .inl (.inl hi)
   ·rcases InW.upd_le hi with hi|⟨s,hi⟩
    ·exact .inl (.inr (.inl hi))
    ·cases hi;exact .inr rfl
   ·exact .inl (.inr (.inr hi))
  ·rcases q1J hi with ⟨rfl,e⟩|⟨rfl,e⟩
   ·cases e;exact ⟨hw,z8h hz⟩
   ·exact hh.1.pI _ _ _ e
  ·rcases q1J hi with ⟨rfl,e⟩|⟨rfl,e⟩
   ·cases e;exact ⟨fun e=>hg (.inl e),fun e=>hg (.inr (.inr (.inr e))),fun e=>hg (.inr (.inr (.inl e))),fun s' e=>hg (.inr (.inl ⟨_,s',by rw[q4J] at e;exact e⟩)),hb⟩
   ·obtain ⟨c1,c2,c3,c4,c5⟩:=hh.1.pA _ _ _ e
    exact ⟨c1,c2,c3,fun s' e2=>(by rw[Bool.not_not,q3O] at e2;cases e2;exact hg (.inr (.inl ⟨_,_,e⟩))),c5⟩
theorem TW.open2 (h:TW wb w g gs rate sd c u n bs mb vL vM k bs2 str P D X) (hk:k≤1000) (hs:str.length≤4611686018427387903) (a:Int) (j:Bool):
  Calls Tryz.prog 11 #[.pointer (some ⟨mb,0,none⟩),.string ⟨str.toArray⟩,.int .i64 a] w fun e w'=>Stay X w w'∧
   ((q5a bs2 str a≠0∧e= .returned (.tuple #[.pointer none,.int .i64 (q5a bs2 str a)])∧TW wb w' g gs rate sd c u n bs mb vL vM k bs2 str P (upd D j none) X)∨
   (q5a bs2 str a=0∧ ∃x,e= .returned (.tuple #[.pointer (some ⟨x,0,none⟩),.int .i64 0])∧TW wb w' g gs rate sd c u n bs mb vL vM k bs2 str P (upd D j (some (x,a))) X)):=by
 obtain ⟨ms,hmo,hl⟩:=h.mo;have h8:=h.bd2 hk;refine (z7A hmo h.ok2 str hs (by omega) a).mono ?_;rintro e w' ⟨hx,⟨hz,rfl⟩|⟨hz,x,rfl,hw,hb⟩⟩
 ·exact ⟨fun i hi=>hx.block i (h.lt (.inr (.inr (.inr hi)))),.inl ⟨hz,rfl,(h.grow hx).none2 j⟩⟩
 ·have hh:=h.grow hx
  have hnew:¬(MoB mb vL vM x∨InW P x∨InW D x∨X x):=fun e=>by have:=h.lt e;omega
  have hwl:x<w'.heap.size:=hw.lt;refine ⟨fun i hi=>hx.block i (h.lt (.inr (.inr (.inr hi)))),.inr ⟨hz,x,rfl,⟨h.sk.more hx fun i hi=>?_,hh.mo,hh.ok2,hh.few2,hh.lowM,hh.pI,fun i y t hi=>?_,fun i y t hi=>?_,fun i y t hi=>?_⟩⟩⟩
  ·rcases hi with hi|hi|hi|hi
   ·exact .inl (.inl hi)
   ·exact .inl (.inr (.inl hi))
   ·rcases InW.upd_le hi with hi|⟨s,hi⟩
    ·exact .inl (.inr (.inr (.inl hi)))
    ·cases hi;exact .inr ⟨hb,hwl⟩
   ·exact .inl (.inr (.inr (.inr hi)))
  ·rcases q1J hi with ⟨rfl,e⟩|⟨rfl,e⟩
   ·cases e;exact ⟨hw,z8h hz⟩
   ·exact hh.dI _ _ _ e
  ·obtain ⟨c1,c2,c3,c4,c5⟩:=hh.pA _ _ _ hi
   refine ⟨c1,c2,fun e=>?_,c4,c5⟩;rcases InW.upd_le e with e|⟨s,e⟩
   ·exact c3 e
   ·cases e;exact hnew (.inr (.inl ⟨_,_,hi⟩))
  ·rcases q1J hi with ⟨rfl,e⟩|⟨rfl,e⟩
   ·cases e;exact ⟨fun e=>hnew (.inl e),fun e=>hnew (.inr (.inr (.inr e))),fun s' e=>hnew (.inr (.inr (.inl ⟨_,s',by rw[q4J] at e;exact e⟩))),Nat.le_trans h.sk.base.size hb⟩
   ·obtain ⟨c1,c2,c3,c4⟩:=hh.dA _ _ _ e
    exact ⟨c1,c2,fun s' e2=>(by rw[Bool.not_not,q3O] at e2;cases e2;exact hnew (.inr (.inr (.inl ⟨_,_,e⟩)))),c4⟩
end
end
section
open Go.RowKit
end
end Go.Proofs.YthdekbmdkpcooaaGreatDoor
