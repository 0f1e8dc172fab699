/- Walks. -/
import Derived.Test.YthdekbmdkpcooaaGreatDoorG44WP
import Derived.Test.YthdekbmdkpcooaaGreatDoorG46WP
set_option linter.unusedVariables false
set_option linter.unusedSimpArgs false
set_option maxRecDepth 100000
set_option maxHeartbeats 6400000
namespace Go.Proofs.YthdekbmdkpcooaaGreatDoor
theorem η47 {p:Prop} (h:p):Go.RowKit.Hid p:=Lib.hid h
section
open Go.RowKit
section
variable {wb w W W':World} {g gs gw rate u n:Nat} {sd c s:Int} {bs:List Bt} {K K':Nat→Prop}
theorem SK.poke (h:SK wb W g gs rate sd c s u n bs (fun i=>K i∨i=gw)) (hb:wb.heap.size≤gw) (j:Nat) (v:Value):SK wb (W.setCell ⟨gw,j,none⟩ v) g gs rate sd c s u n bs (fun i=>K i∨i=gw):=by
 refine h.sideM (by rw[World.size_setCell];exact Nat.le_refl _) (Below.setCell h.base hb v) (fun i hi hn=>?_) fun i hi=> .inl hi
 exact heap_setCell_other W ⟨gw,j,none⟩ i v (fun e=>hn (.inr e))
theorem q8t (h:SK wb w g gs rate sd c s u n bs (fun i=>K i∨i=gw)) (hn:n≤86) (hroom:(u:Int)+8024≤c) (hgw:¬K gw) (hbw:wb.heap.size≤gw) {str:List UInt8} {a:Int} (hw:WrI w gw gs str a) (hs:str.length≤4611686018427387903) (ha: -1≤a) (ha2:a≤1000000)
  {ao:Option Addr} {k cap:Nat} {L:List Ev} (hx: ∀W,Ext wb W→Stay K w W→Evs W ao k cap L) (hk:k≤1000000) (hL:q1C L) (hwe: ∀e∈L,e.we<18446744073709551616):
  Calls Tryz.prog 14 #[.pointer (some ⟨gw,0,none⟩),.slice ao k cap] w fun e w'=>e= .returned (.tuple #[.int .i64 (wrN bs str a L).1,.bool (wrN bs str a L).2.1,.int .i64 (wrN bs str a L).2.2])∧
   SK wb w' g gs rate sd c s (u+2024) (n+1) (wrB bs str a L) (fun i=>K i∨i=gw)∧Stay K w w'∧WrI w' gw gs str (wrA bs str a L):=by
 have hev:=hx w h.base (Stay.refl _ _);have hlen:=hev.len;have hq:=hev.fits;have hq2:=hev.bound;obtain ⟨z,hz⟩: ∃z,q8A bs str a L=z:=⟨_,rfl⟩
 obtain ⟨tb,htb⟩: ∃tb,q2x bs str a L=tb:=⟨_,rfl⟩
 have HN:Hid (wrN bs str a L=if z=0 then (a+1,false,0) else if z=80∧tb=true then (a+1,true,0) else (0,false,z)):=η47 (by unfold wrN;rw[hz,htb]);have HB:Hid (wrB bs str a L=if z=0 then bs++[⟨str,(q0T bs str).length,L⟩] else bs):=η47 (by unfold wrB;rw[hz]);have HA:Hid (wrA bs str a L=if (wrN bs str a L).2.2=0 then a+(k:Int) else a):=η47 (by unfold wrA;rw[hlen]);have HAp:=η47 ((h.grow (Ext.refl _).drew).append hn str hs a (fun W k1 k2=>hx W k1 fun i hi=>k2 i (.inl hi)) hL hwe hz)
 have HTh:=η47 (fun (W:World) (bs':List Bt) (hbs:bs'=bs) (h1:SK wb W g gs rate sd c s (u+2024) (n+1) bs' (fun i=>K i∨i=gw)) (h2:Stay (fun i=>K i∨i=gw) w W)=>
  z9p h1 (by omega) (hw.same (h2 gw (.inr rfl))) (.inr rfl) hs ha (by omega) (fun W' k1 k2=>hx W' k1 fun i hi=>(k2 i (.inl hi)).trans (h2 i (.inl hi))) hk)
 have k0:=hw.cell 0;have k1:=hw.cell 1;have k2:=hw.cell 2;have HW:=η47 hw;have d0:=q0A (Ext.refl _).drew k0;have d1:=q0A (Ext.refl _).drew k1;have d2:=q0A (Ext.refl _).drew k2;have q1:IntKind.i64.wrap (a+1)=a+1:=by rw[IntKind.wrap_i64];omega
 have q2:IntKind.i64.wrap (a+(k:Int))=a+(k:Int):=by rw[IntKind.wrap_i64];omega
 have HTb:=η47 htb;clear hx hev h hw hz htb;go_enter Tryz.func14,Tryz.ntmps14;go_wp2_with fail
 go_region_held3 (fun W=>W.cell? ⟨gw,0,none⟩=some (.pointer (some ⟨gs,0,none⟩))∧W.cell? ⟨gw,1,none⟩=some (.string ⟨str.toArray⟩)∧W.cell? ⟨gw,2,none⟩=some (.int .i64 a))
  (first|exact HC3.out|exact ⟨d0,d1,d2⟩)
  (first|(go_at_call 12;refine HAp.out.mono ?_;rintro e w3 ⟨x,y,bs',rfl,h1,h2,h3⟩;have HK3:=η47 h1;have HS3:Hid (Stay (fun i=>K i∨i=gw) w w3):=η47 h2;have HR3:=η47 h3;have HC3:Hid (w3.cell? ⟨gw,0,none⟩=some (.pointer (some ⟨gs,0,none⟩))∧w3.cell? ⟨gw,1,none⟩=some (.string ⟨str.toArray⟩)∧w3.cell? ⟨gw,2,none⟩=some (.int .i64 a)):=η47 ⟨(World.cell?_of_block (a:=⟨gw,0,none⟩) (h2 gw (.inr rfl))).trans k0,(World.cell?_of_block (a:=⟨gw,1,none⟩) (h2 gw (.inr rfl))).trans k1,(World.cell?_of_block (a:=⟨gw,2,none⟩) (h2 gw (.inr rfl))).trans k2⟩;clear h1 h2 h3))
 clear HC3 d0 d1 d2 k0 k1 k2;have HIs:=η47 (fun W=>z6z y 80 W);have hcase:(z=0∧y=0∧bs'=bs++[⟨str,(q0T bs str).length,L⟩])∨(z≠0∧y=z∧bs'=bs):=by
  rcases HR3.out with ⟨r1,_,r2,r3⟩|⟨_,_,_,_,r5⟩|⟨r1,_,r2,r3⟩
  ·exact .inr ⟨r1,r2,r3⟩
  ·omega
  ·exact .inl ⟨r1,r2,r3⟩
 rcases hcase with ⟨hz0,rfl,hbs⟩|⟨hz0,rfl,rfl⟩
 ·have HFl:=η47 HK3.out.flush
  have w0:=HW.out.same (HS3.out gw (.inr rfl));have k0:=w0.cell 0;have k1:=w0.cell 1;have k2:=w0.cell 2;have hn1:wrN bs str a L=(a+1,false,0):=by rw[HN.out,if_pos hz0]
  have hb1:wrB bs str a L=bs':=by rw[HB.out,if_pos hz0,hbs]
  have HN1:=η47 hn1;have HB1:=η47 hb1;have HA1:Hid (wrA bs str a L=a+(k:Int)):=η47 (by rw[HA.out,HN1.out];exact if_pos rfl);clear w0 hn1 hb1 hbs hz0;go_wp2_with fail;refine (HIs.out _).mono ?_;rintro e w3' ⟨rfl,rfl⟩;go_wp2_with fail;refine HFl.out.mono ?_;rintro e w4 ⟨rfl,h1,h2⟩;have hst:Stay (fun i=>K i∨i=gw) w w4:=fun i hi=>(h2 i hi).trans (HS3.out i hi)
  have hw4:=HW.out.same (hst gw (.inr rfl));have k0:=hw4.cell 0;have k2:=hw4.cell 2;have f2:=Blk.free hw4 2;have HK4:=η47 h1;have HS4:=η47 hst;have HW4:=η47 hw4;clear h1 h2 hst hw4 HFl;go_wp2_with fail;go_ret3;rw[HN1.out,HB1.out,HA1.out];exact ⟨rfl,HK4.out.poke hbw 2 _,fun i hi=>(heap_setCell_other w4 ⟨gw,2,none⟩ i _ (fun e=>hgw (by have:i=gw:=e;rw[←this];exact hi))).trans (HS4.out i (.inl hi)),HW4.out.set 2 _⟩
 ·have hb1:wrB bs' str a L=bs':=by rw[HB.out,if_neg hz0]
  have HB1:=η47 hb1;have w0:=HW.out.same (HS3.out gw (.inr rfl));have k0:=w0.cell 0;have k1:=w0.cell 1;have k2:=w0.cell 2;have HW3:=η47 w0;have hy0:(y==(0:Int))=false:=beq_eq_false_iff_ne.2 hz0;have hyn:(y !=(0:Int))=true:=by simpa using hz0
  by_cases h80:y=80
  case neg=>
   have hn1:wrN bs' str a L=(0,false,y):=by rw[HN.out,if_neg hz0,if_neg (fun h=>h80 h.1)]
   have hy8:(y==(80:Int))=false:=beq_eq_false_iff_ne.2 h80;have HN1:=η47 hn1;have HA1:Hid (wrA bs' str a L=a):=η47 (by rw[HA.out,HN1.out];exact if_neg hz0);clear w0 hn1 hb1 h80;go_wp2_with fail;refine (HIs.out _).mono ?_;rintro e w3' ⟨rfl,rfl⟩;go_wp2_with fail;go_ret3;rw[HN1.out,HB1.out,HA1.out];exact ⟨rfl,HK3.out,fun i hi=>HS3.out i (.inl hi),HW3.out⟩
  have HThr:=η47 (HTh.out w3 bs' rfl HK3.out HS3.out);rw[HTb.out] at HThr;subst h80
  cases tb with
  | false=>
   have hn1:wrN bs' str a L=(0,false,80):=by rw[HN.out,if_neg hz0,if_neg (fun h=>by cases h.2)]
   have HN1:=η47 hn1;have HA1:Hid (wrA bs' str a L=a):=η47 (by rw[HA.out,HN1.out];exact if_neg (by decide));clear w0 hn1 hb1;go_wp2_with fail;refine (HIs.out _).mono ?_;rintro e w3' ⟨rfl,rfl⟩;go_wp2_with fail;refine HThr.out.mono ?_;rintro e w5 ⟨rfl,h1,h2⟩;have HK5:=η47 h1;have HS5:Hid (Stay (fun i=>K i∨i=gw) w w5):=η47 fun i hi=>(h2 i hi).trans (HS3.out i hi)
   clear h1 h2;go_wp2_with fail;go_ret3;rw[HN1.out,HB1.out,HA1.out];exact ⟨rfl,HK5.out,fun i hi=>HS5.out i (.inl hi),HW.out.same (HS5.out gw (.inr rfl))⟩
  | true=>
   have hn1:wrN bs' str a L=(a+1,true,0):=by rw[HN.out,if_neg hz0,if_pos ⟨rfl,rfl⟩]
   have HN1:=η47 hn1;have HA1:Hid (wrA bs' str a L=a+(k:Int)):=η47 (by rw[HA.out,HN1.out];exact if_pos rfl);clear w0 hn1 hb1;go_wp2_with fail;refine (HIs.out _).mono ?_;rintro e w3' ⟨rfl,rfl⟩;go_wp2_with fail;refine HThr.out.mono ?_;rintro e w5 ⟨rfl,h1,h2⟩;have HK5:=η47 h1;have HS5:Hid (Stay (fun i=>K i∨i=gw) w w5):=η47 fun i hi=>(h2 i hi).trans (HS3.out i hi)
   have hw5:=HW.out.same (HS5.out gw (.inr rfl));have HFl:=η47 HK5.out.flush;have k0:=hw5.cell 0;have k1:=hw5.cell 1;have k2:=hw5.cell 2;clear h1 h2 hw5;go_wp2_with fail;refine HFl.out.mono ?_;rintro e w4 ⟨rfl,h1,h2⟩;have hst:Stay (fun i=>K i∨i=gw) w w4:=fun i hi=>(h2 i hi).trans (HS5.out i hi)
   have hw4:=HW.out.same (hst gw (.inr rfl));have k0:=hw4.cell 0;have k2:=hw4.cell 2;have f2:=Blk.free hw4 2;have HK4:=η47 h1;have HS4:=η47 hst;have HW4:=η47 hw4;clear h1 h2 hst hw4 HFl;go_wp2_with fail;go_ret3;rw[HN1.out,HB1.out,HA1.out];exact ⟨rfl,HK4.out.poke hbw 2 _,fun i hi=>(heap_setCell_other w4 ⟨gw,2,none⟩ i _ (fun e=>hgw (by have:i=gw:=e;rw[←this];exact hi))).trans (HS4.out i (.inl hi)),HW4.out.set 2 _⟩
end
end
section
open Go.RowKit
theorem q8j (sd:Int) (rate:Nat) (room:Int) (w:World) (hs0:0≤sd) (hs1:sd<18446744073709551616):
  Calls Tryz.prog 9 #[.agg #[.int .u64 sd,.float .f64 rate,.int .u16 room]] w fun e w'=> ∃g gs,e= .returned (.tuple #[.pointer (some ⟨g,0,none⟩),.pointer (some ⟨gs,0,none⟩),.bool true])∧SK w w' g gs rate sd 1048576 0 0 0 [] noI:=by
 have hx1:=q0B w (.cells #[.int .u64 sd,.float .f64 rate,.int .u16 room] 27);have hbk:=Blk.new w 27 #[.int .u64 sd,.float .f64 rate,.int .u16 room];have HBk:=η47 hbk;have HX1:=η47 hx1;have HN:=η47 (fun W=>DkK.new24 W 1048576 (by decide) (by decide));clear hx1 hbk;go_enter Tryz.func9,Tryz.ntmps9;go_wp2_with fail;refine (HN.out _).mono ?_;rintro e w1 ⟨g,rfl,hd⟩;have hx:=DkK.base hd;have hb1:=HBk.out.ext hx;have k0:=hb1.cell 0;have k1:=hb1.cell 1;have HS:=η47 ((DkK.sq (hd.rebase HX1.out) sd hs0 hs1).open (by omega) rate);clear hd hx hb1;go_wp2_with fail;refine HS.out.mono ?_;rintro e w2 ⟨gs,rfl,hk,hst⟩;have HK:=η47 hk;clear hk hst HS k0 k1;go_wp2_with fail;go_ret3;exact ⟨g,gs,rfl,HK.out⟩
section
variable {wb w W W':World} {g gs gw rate u n:Nat} {sd c s:Int} {bs:List Bt} {K K':Nat→Prop}
theorem z9y (h:SK wb w g gs rate sd c s u n bs (fun i=>K i∨i=gw)) (hn:n≤86) (hroom:(u:Int)+8024≤c) (hgw:¬K gw) (hbw:wb.heap.size≤gw) {str:List UInt8} {a:Int} (hw:WrI w gw gs str a) (hs:str.length≤4611686018427387903) (ha: -1≤a) (ha2:a≤1000000)
  {ao:Option Addr} {k cap:Nat} {L:List Ev} (hx: ∀W,Ext wb W→Stay K w W→Evs W ao k cap L) (hk:k≤1000000) (hL:q1C L) (hwe: ∀e∈L,e.we<18446744073709551616) {f:Int} {ag:Bool} (hN:wrN bs str a L=(f,ag,0)):
  Calls Tryz.prog 30 #[.pointer (some ⟨gw,0,none⟩),.slice ao k cap,.int .i64 f,.bool ag] w fun e w'=>e= .returned (.bool true)∧
   SK wb w' g gs rate sd c s (u+2024) (n+1) (wrB bs str a L) (fun i=>K i∨i=gw)∧Stay K w w'∧WrI w' gw gs str (wrA bs str a L):=by
 have HW:=η47 (q8t h hn hroom hgw hbw hw hs ha ha2 hx hk hL hwe);rw[hN] at HW;simp only at HW;clear h hw hx hN;go_enter Tryz.func30,Tryz.ntmps30;go_wp2_with fail;refine HW.out.mono ?_;rintro e w1 ⟨rfl,h1,h2,h3⟩;have H1:=η47 h1;have H2:=η47 h2;have H3:=η47 h3;clear h1 h2 h3;go_wp2_with fail;go_ret;exact ⟨by simp,H1.out,H2.out,H3.out⟩
end
section
variable {wb w W W':World} {g gs gw rate u n:Nat} {sd c s:Int} {bs:List Bt} {K K':Nat→Prop}
theorem z3U (h:SK wb W g gs rate sd c s u n bs (fun i=>K i∨i=gw)) {cs:Array Value} (L:List Ev) (hcs:cs=(q4q L).toArray) (hl:L.length≤1000000):
  SK wb (W.alloc (.cells cs 85)) g gs rate sd c s u n bs (fun i=>(K i∨i=W.heap.size)∨i=gw)∧(∀W',Ext wb W'→Stay (fun i=>K i∨i=W.heap.size) (W.alloc (.cells cs 85)) W'→Evs W' (some ⟨W.heap.size,0,none⟩) L.length L.length L):=by
 subst hcs;have hb:=Blk.new W 85 (q4q L).toArray;refine ⟨h.more (q0B W _) fun i hi=>?_,fun W' _ hs=>?_⟩
 ·rcases hi with (hi|hi)|hi
  ·exact .inl (.inl hi)
  ·exact .inr ⟨by omega,by rw[World.size_alloc];omega⟩
  ·exact .inl (.inr hi)
 ·have:=(hb.same (hs _ (.inr rfl))).evs (k:=L.length) (Nat.le_refl _) hl
  rwa [List.take_length] at this
theorem z3o (h:SK wb W g gs rate sd c s u n bs (fun i=>K i∨i=gw)) (hn:n≤86) (hroom:(u:Int)+8024≤c) (hgw:¬K gw) (hbw:wb.heap.size≤gw) {str:List UInt8} {a:Int} (hw:WrI W gw gs str a) (hs:str.length≤4611686018427387903) (ha: -1≤a) (ha2:a≤1000000)
  {cs:Array Value} (L:List Ev) (hcs:cs=(q4q L).toArray) (hl:L.length≤1000000) (hL:q1C L) (hwe: ∀e∈L,e.we<18446744073709551616):
  Calls Tryz.prog 14 #[.pointer (some ⟨gw,0,none⟩),.slice (some ⟨W.heap.size,0,none⟩) L.length L.length] (W.alloc (.cells cs 85)) fun e w'=>e= .returned (.tuple #[.int .i64 (wrN bs str a L).1,.bool (wrN bs str a L).2.1,.int .i64 (wrN bs str a L).2.2])∧
   SK wb w' g gs rate sd c s (u+2024) (n+1) (wrB bs str a L) (fun i=>K i∨i=gw)∧Stay K W w'∧WrI w' gw gs str (wrA bs str a L):=by
 obtain ⟨h1,h2⟩:=z3U h L hcs hl;have hlt:gw<W.heap.size:=hw.lt;have hx:=q0B W (.cells cs 85);refine (q8t h1 hn hroom (fun hh=>hh.elim hgw (by omega)) hbw (hw.same (hx.block _ hlt)) hs ha ha2 h2 hl hL hwe).mono ?_;rintro e w' ⟨e1,k1,k2,k3⟩;exact ⟨e1,k1.beside fun i hi=>hi.imp .inl id,fun i hi=>(k2 i (.inl hi)).trans (hx.block i (h.klt i (.inl hi))),k3⟩
theorem q7n (h:SK wb W g gs rate sd c s u n bs (fun i=>K i∨i=gw)) (hn:n≤86) (hroom:(u:Int)+8024≤c) (hgw:¬K gw) (hbw:wb.heap.size≤gw) {str:List UInt8} {a:Int} (hw:WrI W gw gs str a) (hs:str.length≤4611686018427387903) (ha: -1≤a) (ha2:a≤1000000)
  {cs:Array Value} (L:List Ev) (hcs:cs=(q4q L).toArray) (hl:L.length≤1000000) (hL:q1C L) (hwe: ∀e∈L,e.we<18446744073709551616) {f:Int} {ag:Bool} (hN:wrN bs str a L=(f,ag,0)):
  Calls Tryz.prog 30 #[.pointer (some ⟨gw,0,none⟩),.slice (some ⟨W.heap.size,0,none⟩) L.length L.length,.int .i64 f,.bool ag] (W.alloc (.cells cs 85)) fun e w'=>e= .returned (.bool true)∧
   SK wb w' g gs rate sd c s (u+2024) (n+1) (wrB bs str a L) (fun i=>K i∨i=gw)∧Stay K W w'∧WrI w' gw gs str (wrA bs str a L):=by
 obtain ⟨h1,h2⟩:=z3U h L hcs hl;have hlt:gw<W.heap.size:=hw.lt;have hx:=q0B W (.cells cs 85);refine (z9y h1 hn hroom (fun hh=>hh.elim hgw (by omega)) hbw (hw.same (hx.block _ hlt)) hs ha ha2 h2 hl hL hwe hN).mono ?_;rintro e w' ⟨e1,k1,k2,k3⟩;exact ⟨e1,k1.beside fun i hi=>hi.imp .inl id,fun i hi=>(k2 i (.inl hi)).trans (hx.block i (h.klt i (.inl hi))),k3⟩
end
abbrev y0e :Ev:=⟨[99],[],0⟩
abbrev st3 :Bt:=⟨[115],2,[y0e]⟩
theorem y2l :wrA [] [115] (-1) [evA,z3y]=1:=by decide
theorem y2i :wrN [] [115] (-1) [evA,z3y]=(0,false,0):=by decide
theorem y2q :wrB [] [115] (-1) [evA,z3y]=[st1]:=rfl
theorem y2o :wrN [st1] [115] (-1) [evA,z3y]=(0,true,0):=by decide
theorem y2f :wrB [st1] [115] (-1) [evA,z3y]=[st1]:=rfl
theorem y2j :wrA [st1] [115] (-1) [evA,z3y]=1:=by decide
theorem y2e :wrN [st1] [115] 1 [y0e]=(2,false,0):=by decide
theorem y2d :wrB [st1] [115] 1 [y0e]=[st1,st3]:=rfl
theorem y2p :wrA [st1] [115] 1 [y0e]=2:=by decide
theorem y2h :wrN [st1,st3] [115] (-1) [z3y]=(0,false,80):=by decide
theorem y2S :wrB [st1,st3] [115] (-1) [z3y]=[st1,st3]:=rfl
theorem y2G :wrA [st1,st3] [115] (-1) [z3y]= -1:=by decide
theorem y1u :q5f [] [115] (-1)=0:=by decide
theorem y2O :q5f [st1] [115] (-1)=0:=by decide
theorem y2B :q5f [st1,st3] [115] (-1)=0:=by decide
theorem y2T :q5f [st1,st3] [115] 3=80:=by decide
theorem q7X (w:World):Calls Tryz.prog 8 #[] w fun e w'=>e= .returned (.bool true)∧Ext w w':=by
 have HO:=η47 (q8j 0 0 0 w (by decide) (by decide));go_enter Tryz.func8,Tryz.ntmps8;go_wp2_with fail;refine HO.out.mono ?_;rintro e w1 ⟨g,gs,rfl,hk⟩;obtain ⟨W0,hW0⟩: ∃W0,((w1.alloc (.cells #[.string ⟨#[97]⟩,.string ⟨#[]⟩,.float .f64 0] 85)).alloc (.cells #[.string ⟨#[98]⟩,.string ⟨#[]⟩,.float .f64 0] 85)).alloc (.cells #[.string ⟨#[99]⟩,.string ⟨#[]⟩,.float .f64 0] 85)=W0:=⟨_,rfl⟩
 obtain ⟨q,hq⟩: ∃q,w1.heap.size=q:=⟨_,rfl⟩
 have hx0:Ext w1 W0:=by rw[←hW0];exact q6G w1 _ _ _
 have b0:Blk W0 q 85 #[.string ⟨#[97]⟩,.string ⟨#[]⟩,.float .f64 0]:=by rw[←hW0,←hq];exact ((Blk.new w1 _ _).ext (q0B _ _)).ext (q0B _ _)
 have b1:Blk W0 (q+1) 85 #[.string ⟨#[98]⟩,.string ⟨#[]⟩,.float .f64 0]:=by
  have:=(Blk.new (w1.alloc (.cells #[.string ⟨#[97]⟩,.string ⟨#[]⟩,.float .f64 0] 85)) 85 #[.string ⟨#[98]⟩,.string ⟨#[]⟩,.float .f64 0]).ext (q0B _ (.cells #[.string ⟨#[99]⟩,.string ⟨#[]⟩,.float .f64 0] 85));rw[World.size_alloc] at this;rw[←hW0,←hq];exact this
 have b2:Blk W0 (q+1+1) 85 #[.string ⟨#[99]⟩,.string ⟨#[]⟩,.float .f64 0]:=by
  have:=Blk.new ((w1.alloc (.cells #[.string ⟨#[97]⟩,.string ⟨#[]⟩,.float .f64 0] 85)).alloc (.cells #[.string ⟨#[98]⟩,.string ⟨#[]⟩,.float .f64 0] 85)) 85 #[.string ⟨#[99]⟩,.string ⟨#[]⟩,.float .f64 0];rw[World.size_alloc,World.size_alloc] at this;rw[←hW0,←hq];exact this
 have hsz:W0.heap.size=q+3:=by rw[←hW0,←hq];simp
 have hk0:=hk.more (K':=fun i=>i=q∨i=q+1∨i=q+1+1) hx0 fun i hi=> .inr (by omega)
 have hqb:w.heap.size≤q:=by rw[←hq];exact hk.base.size
 have HB0:=η47 b0;have HB1:=η47 b1;have HB2:=η47 b2;have HW0:=η47 hW0;obtain ⟨KE,hKE⟩: ∃KE:Nat→Prop,(fun i=>i=q∨i=q+1∨i=q+1+1)=KE:=⟨_,rfl⟩
 have HE:Hid (∀W,Stay KE W0 W→Blk W q 85 #[.string ⟨#[97]⟩,.string ⟨#[]⟩,.float .f64 0]∧Blk W (q+1) 85 #[.string ⟨#[98]⟩,.string ⟨#[]⟩,.float .f64 0]∧Blk W (q+1+1) 85 #[.string ⟨#[99]⟩,.string ⟨#[]⟩,.float .f64 0]):=η47 fun W hs=>by
  rw[←hKE] at hs;exact ⟨HB0.out.same (hs _ (.inl rfl)),HB1.out.same (hs _ (.inr (.inl rfl))),HB2.out.same (hs _ (.inr (.inr rfl)))⟩
 rw[hKE] at hk0;have HSa:=η47 (Stay.refl KE W0);have HOp:=η47 (q6t hk0 (by omega) [115] (by decide) (-1));have hsf:=q1T;have HQ:=η47 hq;clear hk hx0 b0 b1 b2 hsz hk0 HO hW0 hq hKE HB0 HB1 HB2 hqb;go_wp2_with fail;simp only[HW0.out,HQ.out];refine HOp.out.mono ?_;rintro e w2 ⟨_,hs,⟨hne,_⟩|⟨_,gx,rfl,hw,hg,hb,hk⟩⟩
 ·exact absurd y1u hne
 have HSa:=η47 (HSa.out.trans hs);have HW:=η47 hw;have HK:=η47 hk;have HG:=η47 hg;have HBg:=η47 hb;clear hs hw hg hb hk HOp;have HR:=η47 (q7n HK.out (by omega) (by decide) HG.out HBg.out HW.out (by decide) (by decide) (by decide) [evA,z3y] rfl (by decide) (q5J (by decide)) (by decide) y2i);obtain ⟨e0,e1,e2⟩:=HE.out _ HSa.out;have a0:=e0.cell 0;have a1:=e0.cell 1;have a2:=e0.cell 2;have b0:=e1.cell 0;have b1:=e1.cell 1;have b2:=e1.cell 2;have c0:=e2.cell 0;have c1:=e2.cell 1;have c2:=e2.cell 2;clear e0 e1 e2;go_wp2_with fail;refine HR.out.mono ?_;rintro e w3 ⟨rfl,hk,hs,hw⟩;rw[y2q] at hk;rw[y2l] at hw;have HSa:=η47 (HSa.out.trans hs);have HW:=η47 hw;have HK:=η47 hk;clear hs hw hk HR a0 a1 a2 b0 b1 b2 c0 c1 c2;have HOp:=η47 (q6t (HK.out.beside fun i hi=> .inl hi) (by omega) [115] (by decide) (-1));clear HW HK HG HBg;go_wp2_with fail;refine HOp.out.mono ?_
 rintro e w4 ⟨_,hs,⟨hne,_⟩|⟨_,gy,rfl,hw,hg,hb,hk⟩⟩
 ·exact absurd y2O hne
 have HSa:=η47 (HSa.out.trans hs);have HW:=η47 hw;have HK:=η47 hk;have HG:=η47 hg;have HBg:=η47 hb;clear hs hw hg hb hk HOp;have HR:=η47 (q7n HK.out (by omega) (by decide) HG.out HBg.out HW.out (by decide) (by decide) (by decide) [evA,z3y] rfl (by decide) (q5J (by decide)) (by decide) y2o);obtain ⟨e0,e1,e2⟩:=HE.out _ HSa.out;have a0:=e0.cell 0;have a1:=e0.cell 1;have a2:=e0.cell 2;have b0:=e1.cell 0;have b1:=e1.cell 1;have b2:=e1.cell 2;have c0:=e2.cell 0;have c1:=e2.cell 1;have c2:=e2.cell 2;clear e0 e1 e2;go_wp2_with fail;refine HR.out.mono ?_;rintro e w5 ⟨rfl,hk,hs,hw⟩;rw[y2f] at hk;rw[y2j] at hw;have HSa:=η47 (HSa.out.trans hs);have HW:=η47 hw;have HK:=η47 hk;clear hs hw hk HR a0 a1 a2 b0 b1 b2 c0 c1 c2;have HR:=η47 (q7n HK.out (by omega) (by decide) HG.out HBg.out HW.out (by decide) (by decide) (by decide) [y0e] rfl (by decide) (q5J (by decide)) (by decide) y2e)
 obtain ⟨e0,e1,e2⟩:=HE.out _ HSa.out;have a0:=e0.cell 0;have a1:=e0.cell 1;have a2:=e0.cell 2;have b0:=e1.cell 0;have b1:=e1.cell 1;have b2:=e1.cell 2;have c0:=e2.cell 0;have c1:=e2.cell 1;have c2:=e2.cell 2;clear e0 e1 e2;go_wp2_with fail;refine HR.out.mono ?_;rintro e w6 ⟨rfl,hk,hs,hw⟩;rw[y2d] at hk;rw[y2p] at hw;have HSa:=η47 (HSa.out.trans hs);have HW:=η47 hw;have HK:=η47 hk;clear hs hw hk HR a0 a1 a2 b0 b1 b2 c0 c1 c2;have HAt:=η47 (z7L HW.out);have HOp:=η47 (q6t (HK.out.beside fun i hi=> .inl hi) (by omega) [115] (by decide) (-1));clear HW HK HG HBg;go_wp2_with fail;refine HAt.out.mono ?_;rintro e w6' ⟨rfl,rfl⟩;clear HAt;go_wp2_with fail;refine HOp.out.mono ?_;rintro e w7 ⟨_,hs,⟨hne,_⟩|⟨_,gz,rfl,hw,hg,hb,hk⟩⟩
 ·exact absurd y2B hne
 have HSa:=η47 (HSa.out.trans hs);have HW:=η47 hw;have HK:=η47 hk;have HG:=η47 hg;have HBg:=η47 hb;clear hs hw hg hb hk HOp;have HR:=η47 (z3o HK.out (by omega) (by decide) HG.out HBg.out HW.out (by decide) (by decide) (by decide) [z3y] rfl (by decide) (q5J (by decide)) (by decide));rw[y2h] at HR;simp only at HR;obtain ⟨e0,e1,e2⟩:=HE.out _ HSa.out;have a0:=e0.cell 0;have a1:=e0.cell 1;have a2:=e0.cell 2;have b0:=e1.cell 0;have b1:=e1.cell 1;have b2:=e1.cell 2;have c0:=e2.cell 0;have c1:=e2.cell 1;have c2:=e2.cell 2;clear e0 e1 e2;go_wp2_with fail;refine HR.out.mono ?_;rintro e w8 ⟨rfl,hk,hs,hw⟩;rw[y2S] at hk;rw[y2G] at hw;have HSa:=η47 (HSa.out.trans hs);have HW:=η47 hw;have HK:=η47 hk;clear hs hw hk HR a0 a1 a2 b0 b1 b2 c0 c1 c2;have HAt:=η47 (fun W h=>z7L (w:=W) (HW.out.same h));have HOp:=η47 (q6t HK.out (by omega) [115] (by decide) 3);rw[y2T] at HOp
 go_wp2_with fail;refine HOp.out.mono ?_;rintro e w9 ⟨hx9,hs,⟨_,rfl,hk⟩|⟨hne,_⟩⟩
 case inr=>exact absurd hne (by decide)
 have HA9:=η47 (HAt.out w9 (hs gz (.inr rfl)));have HX9:=η47 hx9;clear hs hk hx9 HAt HOp;go_wp2_with fail;refine HA9.out.mono ?_;rintro e w9' ⟨rfl,rfl⟩;go_wp2_with fail;go_ret;exact ⟨rfl,HX9.out⟩
end
section
open Go.RowKit
theorem q9U (s:List UInt8): ∀(L:List Ev) (i:Nat),(q4A s i L).map To.e=L
 |[],i=>rfl
 |e::r,i=>by rw[q4A,List.map_cons,q9U s r]
end
section
open Go.RowKit
end
end Go.Proofs.YthdekbmdkpcooaaGreatDoor
