/- Walks: a writer writes (writers.Write). Walks: a store on a great disk (law31's Opened); the chapter's writers (law36's written). Walks: law WritersNone. Plain laws: two writers of one stream. Walks: law WritersApart. -/
import Derived.Test.YtjjfiejoeelndaaGreatDoorG46Bw
import Derived.Test.YtjjfiejoeelndaaGreatDoorG47Bw
set_option linter.unusedVariables false
set_option linter.unusedSimpArgs false
namespace Go.Proofs.YtjjfiejoeelndaaGreatDoor
open Go.RowKit
set_option maxRecDepth 100000
set_option linter.unusedVariables false
set_option maxHeartbeats 6400000
section
variable {wb w W W':World} {g gs gw rate u n:Nat} {sd c s:Int} {bs:List Bt} {K K':Nat→Prop}
theorem SK.poke (h:SK wb W g gs rate sd c s u n bs (fun i=>K i∨i=gw)) (hb:wb.heap.size≤gw) (j:Nat) (v:Value):SK wb (W.setCell ⟨gw,j,none⟩ v) g gs rate sd c s u n bs (fun i=>K i∨i=gw):=by
  refine h.sideM (by rw[World.size_setCell];exact Nat.le_refl _) (Below.setCell h.base hb v) (fun i hi hn=>?_) fun i hi=> .inl hi
  exact heap_setCell_other W ⟨gw,j,none⟩ i v (fun e=>hn (.inr e))
theorem q6V (h:SK wb w g gs rate sd c s u n bs (fun i=>K i∨i=gw)) (hn:n≤86) (hroom:(u:Int)+8024≤c) (hgw:¬K gw) (hbw:wb.heap.size≤gw) {str:List UInt8} {a:Int} (hw:WrI w gw gs str a) (hs:str.length≤4611686018427387903) (ha: -1≤a) (ha2:a≤1000000)
    {ao:Option Addr} {k cap:Nat} {L:List Ev} (hx: ∀W,Ext wb W→Stay K w W→Evs W ao k cap L) (hk:k≤1000000) (hL:q1j L) (hwe: ∀e∈L,e.we<18446744073709551616):
    Calls Tryz.prog 12 #[.pointer (some ⟨gw,0,none⟩),.slice ao k cap] w fun e w'=>e= .returned (.tuple #[.int .i64 (wrN bs str a L).1,.bool (wrN bs str a L).2.1,.int .i64 (wrN bs str a L).2.2])∧
      SK wb w' g gs rate sd c s (u+2024) (n+1) (wrB bs str a L) (fun i=>K i∨i=gw)∧Stay K w w'∧WrI w' gw gs str (wrA bs str a L):=by
  have hev:=hx w h.base (Stay.refl _ _)
  have hlen:=hev.len
  have hq:=hev.fits;have hq2:=hev.bound
  obtain ⟨z,hz⟩: ∃z,q7E bs str a L=z:=⟨_,rfl⟩
  obtain ⟨tb,htb⟩: ∃tb,q4f bs str a L=tb:=⟨_,rfl⟩
  have HN:Hid (wrN bs str a L=if z=0 then (a+1,false,0) else if z=80∧tb=true then (a+1,true,0) else (0,false,z)):=Lib.hid (by unfold wrN;rw[hz,htb])
  have HB:Hid (wrB bs str a L=if z=0 then bs++[⟨str,(q0y bs str).length,L⟩] else bs):=Lib.hid (by unfold wrB;rw[hz])
  have HA:Hid (wrA bs str a L=if (wrN bs str a L).2.2=0 then a+(k:Int) else a):=Lib.hid (by unfold wrA;rw[hlen])
  have HAp:=Lib.hid ((h.grow (Ext.refl _).drew).append hn str hs a (fun W k1 k2=>hx W k1 fun i hi=>k2 i (.inl hi)) hL hwe hz)
  have HTh:=Lib.hid (fun (W:World) (bs':List Bt) (hbs:bs'=bs) (h1:SK wb W g gs rate sd c s (u+2024) (n+1) bs' (fun i=>K i∨i=gw)) (h2:Stay (fun i=>K i∨i=gw) w W)=>
    z9k h1 (by omega) (hw.same (h2 gw (.inr rfl))) (.inr rfl) hs ha (by omega) (fun W' k1 k2=>hx W' k1 fun i hi=>(k2 i (.inl hi)).trans (h2 i (.inl hi))) hk)
  have k0:=hw.cell 0;have k1:=hw.cell 1;have k2:=hw.cell 2
  have HW:=Lib.hid hw
  have d0:=q0A (Ext.refl _).drew k0
  have d1:=q0A (Ext.refl _).drew k1
  have d2:=q0A (Ext.refl _).drew k2
  have q1:IntKind.i64.wrap (a+1)=a+1:=by rw[IntKind.wrap_i64];omega
  have q2:IntKind.i64.wrap (a+(k:Int))=a+(k:Int):=by rw[IntKind.wrap_i64];omega
  have HTb:=Lib.hid htb
  clear hx hev h hw hz htb
  go_enter Tryz.func12,Tryz.ntmps12
  go_wp2_with fail
  go_region_held3 (fun W=>W.cell? ⟨gw,0,none⟩=some (.pointer (some ⟨gs,0,none⟩))∧W.cell? ⟨gw,1,none⟩=some (.string ⟨str.toArray⟩)∧W.cell? ⟨gw,2,none⟩=some (.int .i64 a))
    (first|exact HC3.out|exact ⟨d0,d1,d2⟩)
    (first|(go_at_call 17;refine HAp.out.mono ?_;rintro e w3 ⟨x,y,bs',rfl,h1,h2,h3⟩;have HK3:=Lib.hid h1;have HS3:Hid (Stay (fun i=>K i∨i=gw) w w3):=Lib.hid h2;have HR3:=Lib.hid h3;have HC3:Hid (w3.cell? ⟨gw,0,none⟩=some (.pointer (some ⟨gs,0,none⟩))∧w3.cell? ⟨gw,1,none⟩=some (.string ⟨str.toArray⟩)∧w3.cell? ⟨gw,2,none⟩=some (.int .i64 a)):=Lib.hid ⟨(World.cell?_of_block (a:=⟨gw,0,none⟩) (h2 gw (.inr rfl))).trans k0,(World.cell?_of_block (a:=⟨gw,1,none⟩) (h2 gw (.inr rfl))).trans k1,(World.cell?_of_block (a:=⟨gw,2,none⟩) (h2 gw (.inr rfl))).trans k2⟩;clear h1 h2 h3))
  clear HC3 d0 d1 d2 k0 k1 k2
  have HIs:=Lib.hid (fun W=>z7O y 80 W)
  have hcase:(z=0∧y=0∧bs'=bs++[⟨str,(q0y bs str).length,L⟩])∨(z≠0∧y=z∧bs'=bs):=by
    rcases HR3.out with ⟨r1,_,r2,r3⟩|⟨_,_,_,_,r5⟩|⟨r1,_,r2,r3⟩
    · exact .inr ⟨r1,r2,r3⟩
    · omega
    · exact .inl ⟨r1,r2,r3⟩
  rcases hcase with ⟨hz0,rfl,hbs⟩|⟨hz0,rfl,rfl⟩
  · have HFl:=Lib.hid HK3.out.flush
    have w0:=HW.out.same (HS3.out gw (.inr rfl))
    have k0:=w0.cell 0;have k1:=w0.cell 1;have k2:=w0.cell 2
    have hn1:wrN bs str a L=(a+1,false,0):=by rw[HN.out,if_pos hz0]
    have hb1:wrB bs str a L=bs':=by rw[HB.out,if_pos hz0,hbs]
    have HN1:=Lib.hid hn1;have HB1:=Lib.hid hb1
    have HA1:Hid (wrA bs str a L=a+(k:Int)):=Lib.hid (by rw[HA.out,HN1.out];exact if_pos rfl)
    clear w0 hn1 hb1 hbs hz0
    go_wp2_with fail
    refine (HIs.out _).mono ?_
    rintro e w3' ⟨rfl,rfl⟩
    go_wp2_with fail
    refine HFl.out.mono ?_
    rintro e w4 ⟨rfl,h1,h2⟩
    have hst:Stay (fun i=>K i∨i=gw) w w4:=fun i hi=>(h2 i hi).trans (HS3.out i hi)
    have hw4:=HW.out.same (hst gw (.inr rfl))
    have k0:=hw4.cell 0;have k2:=hw4.cell 2;have f2:=Blk.free hw4 2
    have HK4:=Lib.hid h1;have HS4:=Lib.hid hst;have HW4:=Lib.hid hw4
    clear h1 h2 hst hw4 HFl
    go_wp2_with fail
    go_ret3
    rw[HN1.out,HB1.out,HA1.out]
    exact ⟨rfl,HK4.out.poke hbw 2 _,fun i hi=>(heap_setCell_other w4 ⟨gw,2,none⟩ i _ (fun e=>hgw (by have:i=gw:=e;rw[←this];exact hi))).trans (HS4.out i (.inl hi)),HW4.out.set 2 _⟩
  · have hb1:wrB bs' str a L=bs':=by rw[HB.out,if_neg hz0]
    have HB1:=Lib.hid hb1
    have w0:=HW.out.same (HS3.out gw (.inr rfl))
    have k0:=w0.cell 0;have k1:=w0.cell 1;have k2:=w0.cell 2
    have HW3:=Lib.hid w0
    have hy0:(y==(0:Int))=false:=beq_eq_false_iff_ne.2 hz0
    have hyn:(y !=(0:Int))=true:=by simpa using hz0
    by_cases h80:y=80
    case neg=>
      have hn1:wrN bs' str a L=(0,false,y):=by rw[HN.out,if_neg hz0,if_neg (fun h=>h80 h.1)]
      have hy8:(y==(80:Int))=false:=beq_eq_false_iff_ne.2 h80
      have HN1:=Lib.hid hn1
      have HA1:Hid (wrA bs' str a L=a):=Lib.hid (by rw[HA.out,HN1.out];exact if_neg hz0)
      clear w0 hn1 hb1 h80
      go_wp2_with fail
      refine (HIs.out _).mono ?_
      rintro e w3' ⟨rfl,rfl⟩
      go_wp2_with fail
      go_ret3
      rw[HN1.out,HB1.out,HA1.out]
      exact ⟨rfl,HK3.out,fun i hi=>HS3.out i (.inl hi),HW3.out⟩
    have HThr:=Lib.hid (HTh.out w3 bs' rfl HK3.out HS3.out)
    rw[HTb.out] at HThr
    subst h80
    cases tb with
    | false=>
      have hn1:wrN bs' str a L=(0,false,80):=by rw[HN.out,if_neg hz0,if_neg (fun h=>by cases h.2)]
      have HN1:=Lib.hid hn1
      have HA1:Hid (wrA bs' str a L=a):=Lib.hid (by rw[HA.out,HN1.out];exact if_neg (by decide))
      clear w0 hn1 hb1
      go_wp2_with fail
      refine (HIs.out _).mono ?_
      rintro e w3' ⟨rfl,rfl⟩
      go_wp2_with fail
      refine HThr.out.mono ?_
      rintro e w5 ⟨rfl,h1,h2⟩
      have HK5:=Lib.hid h1
      have HS5:Hid (Stay (fun i=>K i∨i=gw) w w5):=Lib.hid fun i hi=>(h2 i hi).trans (HS3.out i hi)
      clear h1 h2
      go_wp2_with fail
      go_ret3
      rw[HN1.out,HB1.out,HA1.out]
      exact ⟨rfl,HK5.out,fun i hi=>HS5.out i (.inl hi),HW.out.same (HS5.out gw (.inr rfl))⟩
    | true=>
      have hn1:wrN bs' str a L=(a+1,true,0):=by rw[HN.out,if_neg hz0,if_pos ⟨rfl,rfl⟩]
      have HN1:=Lib.hid hn1
      have HA1:Hid (wrA bs' str a L=a+(k:Int)):=Lib.hid (by rw[HA.out,HN1.out];exact if_pos rfl)
      clear w0 hn1 hb1
      go_wp2_with fail
      refine (HIs.out _).mono ?_
      rintro e w3' ⟨rfl,rfl⟩
      go_wp2_with fail
      refine HThr.out.mono ?_
      rintro e w5 ⟨rfl,h1,h2⟩
      have HK5:=Lib.hid h1
      have HS5:Hid (Stay (fun i=>K i∨i=gw) w w5):=Lib.hid fun i hi=>(h2 i hi).trans (HS3.out i hi)
      have hw5:=HW.out.same (HS5.out gw (.inr rfl))
      have HFl:=Lib.hid HK5.out.flush
      have k0:=hw5.cell 0;have k1:=hw5.cell 1;have k2:=hw5.cell 2
      clear h1 h2 hw5
      go_wp2_with fail
      refine HFl.out.mono ?_
      rintro e w4 ⟨rfl,h1,h2⟩
      have hst:Stay (fun i=>K i∨i=gw) w w4:=fun i hi=>(h2 i hi).trans (HS5.out i hi)
      have hw4:=HW.out.same (hst gw (.inr rfl))
      have k0:=hw4.cell 0;have k2:=hw4.cell 2;have f2:=Blk.free hw4 2
      have HK4:=Lib.hid h1;have HS4:=Lib.hid hst;have HW4:=Lib.hid hw4
      clear h1 h2 hst hw4 HFl
      go_wp2_with fail
      go_ret3
      rw[HN1.out,HB1.out,HA1.out]
      exact ⟨rfl,HK4.out.poke hbw 2 _,fun i hi=>(heap_setCell_other w4 ⟨gw,2,none⟩ i _ (fun e=>hgw (by have:i=gw:=e;rw[←this];exact hi))).trans (HS4.out i (.inl hi)),HW4.out.set 2 _⟩
end
end Go.Proofs.YtjjfiejoeelndaaGreatDoor
namespace Go.Proofs.YtjjfiejoeelndaaGreatDoor
open Go.RowKit
set_option maxRecDepth 100000
set_option linter.unusedVariables false
set_option maxHeartbeats 6400000
theorem q7t (sd:Int) (rate:Nat) (room:Int) (w:World) (hs0:0≤sd) (hs1:sd<18446744073709551616):
    Calls Tryz.prog 10 #[.agg #[.int .u64 sd,.float .f64 rate,.int .u16 room]] w fun e w'=> ∃g gs,e= .returned (.tuple #[.pointer (some ⟨g,0,none⟩),.pointer (some ⟨gs,0,none⟩),.bool true])∧SK w w' g gs rate sd 1048576 0 0 0 [] noI:=by
  have hx1:=q0B w (.cells #[.int .u64 sd,.float .f64 rate,.int .u16 room] 27)
  have hbk:=Blk.new w 27 #[.int .u64 sd,.float .f64 rate,.int .u16 room]
  have HBk:=Lib.hid hbk
  have HX1:=Lib.hid hx1
  have HN:=Lib.hid (fun W=>DkK.new24 W 1048576 (by decide) (by decide))
  clear hx1 hbk
  go_enter Tryz.func10,Tryz.ntmps10
  go_wp2_with fail
  refine (HN.out _).mono ?_
  rintro e w1 ⟨g,rfl,hd⟩
  have hx:=DkK.base hd
  have hb1:=HBk.out.ext hx
  have k0:=hb1.cell 0;have k1:=hb1.cell 1
  have HS:=Lib.hid ((DkK.sq (hd.rebase HX1.out) sd hs0 hs1).open (by omega) rate)
  clear hd hx hb1
  go_wp2_with fail
  refine HS.out.mono ?_
  rintro e w2 ⟨gs,rfl,hk,hst⟩
  have HK:=Lib.hid hk
  clear hk hst HS k0 k1
  go_wp2_with fail
  go_ret3
  exact ⟨g,gs,rfl,HK.out⟩
section
variable {wb w W W':World} {g gs gw rate u n:Nat} {sd c s:Int} {bs:List Bt} {K K':Nat→Prop}
theorem z9O (h:SK wb w g gs rate sd c s u n bs (fun i=>K i∨i=gw)) (hn:n≤86) (hroom:(u:Int)+8024≤c) (hgw:¬K gw) (hbw:wb.heap.size≤gw) {str:List UInt8} {a:Int} (hw:WrI w gw gs str a) (hs:str.length≤4611686018427387903) (ha: -1≤a) (ha2:a≤1000000)
    {ao:Option Addr} {k cap:Nat} {L:List Ev} (hx: ∀W,Ext wb W→Stay K w W→Evs W ao k cap L) (hk:k≤1000000) (hL:q1j L) (hwe: ∀e∈L,e.we<18446744073709551616) {f:Int} {ag:Bool} (hN:wrN bs str a L=(f,ag,0)):
    Calls Tryz.prog 33 #[.pointer (some ⟨gw,0,none⟩),.slice ao k cap,.int .i64 f,.bool ag] w fun e w'=>e= .returned (.bool true)∧
      SK wb w' g gs rate sd c s (u+2024) (n+1) (wrB bs str a L) (fun i=>K i∨i=gw)∧Stay K w w'∧WrI w' gw gs str (wrA bs str a L):=by
  have HW:=Lib.hid (q6V h hn hroom hgw hbw hw hs ha ha2 hx hk hL hwe)
  rw[hN] at HW
  simp only at HW
  clear h hw hx hN
  go_enter Tryz.func33,Tryz.ntmps33
  go_wp2_with fail
  refine HW.out.mono ?_
  rintro e w1 ⟨rfl,h1,h2,h3⟩
  have H1:=Lib.hid h1;have H2:=Lib.hid h2;have H3:=Lib.hid h3
  clear h1 h2 h3
  go_wp2_with fail
  go_ret
  exact ⟨by simp,H1.out,H2.out,H3.out⟩
end
section
variable {wb w W W':World} {g gs gw rate u n:Nat} {sd c s:Int} {bs:List Bt} {K K':Nat→Prop}
theorem z2R (h:SK wb W g gs rate sd c s u n bs (fun i=>K i∨i=gw)) {cs:Array Value} (L:List Ev) (hcs:cs=(q4t L).toArray) (hl:L.length≤1000000):
    SK wb (W.alloc (.cells cs 48)) g gs rate sd c s u n bs (fun i=>(K i∨i=W.heap.size)∨i=gw)∧(∀W',Ext wb W'→Stay (fun i=>K i∨i=W.heap.size) (W.alloc (.cells cs 48)) W'→Evs W' (some ⟨W.heap.size,0,none⟩) L.length L.length L):=by
  subst hcs
  have hb:=Blk.new W 48 (q4t L).toArray
  refine ⟨h.more (q0B W _) fun i hi=>?_,fun W' _ hs=>?_⟩
  · rcases hi with (hi|hi)|hi
    · exact .inl (.inl hi)
    · exact .inr ⟨by omega,by rw[World.size_alloc];omega⟩
    · exact .inl (.inr hi)
  · have:=(hb.same (hs _ (.inr rfl))).evs (k:=L.length) (Nat.le_refl _) hl
    rwa [List.take_length] at this
theorem q4R (h:SK wb W g gs rate sd c s u n bs (fun i=>K i∨i=gw)) (hn:n≤86) (hroom:(u:Int)+8024≤c) (hgw:¬K gw) (hbw:wb.heap.size≤gw) {str:List UInt8} {a:Int} (hw:WrI W gw gs str a) (hs:str.length≤4611686018427387903) (ha: -1≤a) (ha2:a≤1000000)
    {cs:Array Value} (L:List Ev) (hcs:cs=(q4t L).toArray) (hl:L.length≤1000000) (hL:q1j L) (hwe: ∀e∈L,e.we<18446744073709551616):
    Calls Tryz.prog 12 #[.pointer (some ⟨gw,0,none⟩),.slice (some ⟨W.heap.size,0,none⟩) L.length L.length] (W.alloc (.cells cs 48)) fun e w'=>e= .returned (.tuple #[.int .i64 (wrN bs str a L).1,.bool (wrN bs str a L).2.1,.int .i64 (wrN bs str a L).2.2])∧
      SK wb w' g gs rate sd c s (u+2024) (n+1) (wrB bs str a L) (fun i=>K i∨i=gw)∧Stay K W w'∧WrI w' gw gs str (wrA bs str a L):=by
  obtain ⟨h1,h2⟩:=z2R h L hcs hl
  have hlt:gw<W.heap.size:=hw.lt
  have hx:=q0B W (.cells cs 48)
  refine (q6V h1 hn hroom (fun hh=>hh.elim hgw (by omega)) hbw (hw.same (hx.block _ hlt)) hs ha ha2 h2 hl hL hwe).mono ?_
  rintro e w' ⟨e1,k1,k2,k3⟩
  exact ⟨e1,k1.beside fun i hi=>hi.imp .inl id,fun i hi=>(k2 i (.inl hi)).trans (hx.block i (h.klt i (.inl hi))),k3⟩
theorem q6u (h:SK wb W g gs rate sd c s u n bs (fun i=>K i∨i=gw)) (hn:n≤86) (hroom:(u:Int)+8024≤c) (hgw:¬K gw) (hbw:wb.heap.size≤gw) {str:List UInt8} {a:Int} (hw:WrI W gw gs str a) (hs:str.length≤4611686018427387903) (ha: -1≤a) (ha2:a≤1000000)
    {cs:Array Value} (L:List Ev) (hcs:cs=(q4t L).toArray) (hl:L.length≤1000000) (hL:q1j L) (hwe: ∀e∈L,e.we<18446744073709551616) {f:Int} {ag:Bool} (hN:wrN bs str a L=(f,ag,0)):
    Calls Tryz.prog 33 #[.pointer (some ⟨gw,0,none⟩),.slice (some ⟨W.heap.size,0,none⟩) L.length L.length,.int .i64 f,.bool ag] (W.alloc (.cells cs 48)) fun e w'=>e= .returned (.bool true)∧
      SK wb w' g gs rate sd c s (u+2024) (n+1) (wrB bs str a L) (fun i=>K i∨i=gw)∧Stay K W w'∧WrI w' gw gs str (wrA bs str a L):=by
  obtain ⟨h1,h2⟩:=z2R h L hcs hl
  have hlt:gw<W.heap.size:=hw.lt
  have hx:=q0B W (.cells cs 48)
  refine (z9O h1 hn hroom (fun hh=>hh.elim hgw (by omega)) hbw (hw.same (hx.block _ hlt)) hs ha ha2 h2 hl hL hwe hN).mono ?_
  rintro e w' ⟨e1,k1,k2,k3⟩
  exact ⟨e1,k1.beside fun i hi=>hi.imp .inl id,fun i hi=>(k2 i (.inl hi)).trans (hx.block i (h.klt i (.inl hi))),k3⟩
end
abbrev y1F :Ev:=⟨[99],[],0⟩
abbrev st3 :Bt:=⟨[115],2,[y1F]⟩
theorem y2I :wrA [] [115] (-1) [evA,z3R]=1:=by decide
theorem y2L :wrN [] [115] (-1) [evA,z3R]=(0,false,0):=by decide
theorem y2O :wrB [] [115] (-1) [evA,z3R]=[st1]:=rfl
theorem y2F :wrN [st1] [115] (-1) [evA,z3R]=(0,true,0):=by decide
theorem y2H :wrB [st1] [115] (-1) [evA,z3R]=[st1]:=rfl
theorem y2E :wrA [st1] [115] (-1) [evA,z3R]=1:=by decide
theorem y2G :wrN [st1] [115] 1 [y1F]=(2,false,0):=by decide
theorem y2C :wrB [st1] [115] 1 [y1F]=[st1,st3]:=rfl
theorem y2J :wrA [st1] [115] 1 [y1F]=2:=by decide
theorem y2K :wrN [st1,st3] [115] (-1) [z3R]=(0,false,80):=by decide
theorem y1Q :wrB [st1,st3] [115] (-1) [z3R]=[st1,st3]:=rfl
theorem y1Z :wrA [st1,st3] [115] (-1) [z3R]= -1:=by decide
theorem z9F :z4O [] [115] (-1)=0:=by decide
theorem y1Y :z4O [st1] [115] (-1)=0:=by decide
theorem y1m :z4O [st1,st3] [115] (-1)=0:=by decide
theorem y1S :z4O [st1,st3] [115] 3=80:=by decide
theorem q2D (w:World):Calls Tryz.prog 9 #[] w fun e w'=>e= .returned (.bool true)∧Ext w w':=by
  have HO:=Lib.hid (q7t 0 0 0 w (by decide) (by decide))
  go_enter Tryz.func9,Tryz.ntmps9
  go_wp2_with fail
  refine HO.out.mono ?_
  rintro e w1 ⟨g,gs,rfl,hk⟩
  obtain ⟨W0,hW0⟩: ∃W0,((w1.alloc (.cells #[.string ⟨#[97]⟩,.string ⟨#[]⟩,.float .f64 0] 48)).alloc (.cells #[.string ⟨#[98]⟩,.string ⟨#[]⟩,.float .f64 0] 48)).alloc (.cells #[.string ⟨#[99]⟩,.string ⟨#[]⟩,.float .f64 0] 48)=W0:=⟨_,rfl⟩
  obtain ⟨q,hq⟩: ∃q,w1.heap.size=q:=⟨_,rfl⟩
  have hx0:Ext w1 W0:=by rw[←hW0];exact q6y w1 _ _ _
  have b0:Blk W0 q 48 #[.string ⟨#[97]⟩,.string ⟨#[]⟩,.float .f64 0]:=by rw[←hW0,←hq];exact ((Blk.new w1 _ _).ext (q0B _ _)).ext (q0B _ _)
  have b1:Blk W0 (q+1) 48 #[.string ⟨#[98]⟩,.string ⟨#[]⟩,.float .f64 0]:=by
    have:=(Blk.new (w1.alloc (.cells #[.string ⟨#[97]⟩,.string ⟨#[]⟩,.float .f64 0] 48)) 48 #[.string ⟨#[98]⟩,.string ⟨#[]⟩,.float .f64 0]).ext (q0B _ (.cells #[.string ⟨#[99]⟩,.string ⟨#[]⟩,.float .f64 0] 48));rw[World.size_alloc] at this;rw[←hW0,←hq];exact this
  have b2:Blk W0 (q+1+1) 48 #[.string ⟨#[99]⟩,.string ⟨#[]⟩,.float .f64 0]:=by
    have:=Blk.new ((w1.alloc (.cells #[.string ⟨#[97]⟩,.string ⟨#[]⟩,.float .f64 0] 48)).alloc (.cells #[.string ⟨#[98]⟩,.string ⟨#[]⟩,.float .f64 0] 48)) 48 #[.string ⟨#[99]⟩,.string ⟨#[]⟩,.float .f64 0];rw[World.size_alloc,World.size_alloc] at this;rw[←hW0,←hq];exact this
  have hsz:W0.heap.size=q+3:=by rw[←hW0,←hq];simp
  have hk0:=hk.more (K':=fun i=>i=q∨i=q+1∨i=q+1+1) hx0 fun i hi=> .inr (by omega)
  have hqb:w.heap.size≤q:=by rw[←hq];exact hk.base.size
  have HB0:=Lib.hid b0;have HB1:=Lib.hid b1;have HB2:=Lib.hid b2;have HW0:=Lib.hid hW0
  obtain ⟨KE,hKE⟩: ∃KE:Nat→Prop,(fun i=>i=q∨i=q+1∨i=q+1+1)=KE:=⟨_,rfl⟩
  have HE:Hid (∀W,Stay KE W0 W→Blk W q 48 #[.string ⟨#[97]⟩,.string ⟨#[]⟩,.float .f64 0]∧Blk W (q+1) 48 #[.string ⟨#[98]⟩,.string ⟨#[]⟩,.float .f64 0]∧Blk W (q+1+1) 48 #[.string ⟨#[99]⟩,.string ⟨#[]⟩,.float .f64 0]):=Lib.hid fun W hs=>by
    rw[←hKE] at hs
    exact ⟨HB0.out.same (hs _ (.inl rfl)),HB1.out.same (hs _ (.inr (.inl rfl))),HB2.out.same (hs _ (.inr (.inr rfl)))⟩
  rw[hKE] at hk0
  have HSa:=Lib.hid (Stay.refl KE W0)
  have HOp:=Lib.hid (q3f hk0 (by omega) [115] (by decide) (-1))
  have hsf:=q1y
  have HQ:=Lib.hid hq
  clear hk hx0 b0 b1 b2 hsz hk0 HO hW0 hq hKE HB0 HB1 HB2 hqb
  go_wp2_with fail
  simp only[HW0.out,HQ.out]
  refine HOp.out.mono ?_
  rintro e w2 ⟨_,hs,⟨hne,_⟩|⟨_,gx,rfl,hw,hg,hb,hk⟩⟩
  · exact absurd z9F hne
  have HSa:=Lib.hid (HSa.out.trans hs)
  have HW:=Lib.hid hw;have HK:=Lib.hid hk;have HG:=Lib.hid hg;have HBg:=Lib.hid hb
  clear hs hw hg hb hk HOp
  have HR:=Lib.hid (q6u HK.out (by omega) (by decide) HG.out HBg.out HW.out (by decide) (by decide) (by decide) [evA,z3R] rfl (by decide) (q2h (by decide)) (by decide) y2L)
  obtain ⟨e0,e1,e2⟩:=HE.out _ HSa.out
  have a0:=e0.cell 0;have a1:=e0.cell 1;have a2:=e0.cell 2;have b0:=e1.cell 0;have b1:=e1.cell 1;have b2:=e1.cell 2;have c0:=e2.cell 0;have c1:=e2.cell 1;have c2:=e2.cell 2
  clear e0 e1 e2
  go_wp2_with fail
  refine HR.out.mono ?_
  rintro e w3 ⟨rfl,hk,hs,hw⟩
  rw[y2O] at hk
  rw[y2I] at hw
  have HSa:=Lib.hid (HSa.out.trans hs)
  have HW:=Lib.hid hw;have HK:=Lib.hid hk
  clear hs hw hk HR a0 a1 a2 b0 b1 b2 c0 c1 c2
  have HOp:=Lib.hid (q3f (HK.out.beside fun i hi=> .inl hi) (by omega) [115] (by decide) (-1))
  clear HW HK HG HBg
  go_wp2_with fail
  refine HOp.out.mono ?_
  rintro e w4 ⟨_,hs,⟨hne,_⟩|⟨_,gy,rfl,hw,hg,hb,hk⟩⟩
  · exact absurd y1Y hne
  have HSa:=Lib.hid (HSa.out.trans hs)
  have HW:=Lib.hid hw;have HK:=Lib.hid hk;have HG:=Lib.hid hg;have HBg:=Lib.hid hb
  clear hs hw hg hb hk HOp
  have HR:=Lib.hid (q6u HK.out (by omega) (by decide) HG.out HBg.out HW.out (by decide) (by decide) (by decide) [evA,z3R] rfl (by decide) (q2h (by decide)) (by decide) y2F)
  obtain ⟨e0,e1,e2⟩:=HE.out _ HSa.out
  have a0:=e0.cell 0;have a1:=e0.cell 1;have a2:=e0.cell 2;have b0:=e1.cell 0;have b1:=e1.cell 1;have b2:=e1.cell 2;have c0:=e2.cell 0;have c1:=e2.cell 1;have c2:=e2.cell 2
  clear e0 e1 e2
  go_wp2_with fail
  refine HR.out.mono ?_
  rintro e w5 ⟨rfl,hk,hs,hw⟩
  rw[y2H] at hk
  rw[y2E] at hw
  have HSa:=Lib.hid (HSa.out.trans hs)
  have HW:=Lib.hid hw;have HK:=Lib.hid hk
  clear hs hw hk HR a0 a1 a2 b0 b1 b2 c0 c1 c2
  have HR:=Lib.hid (q6u HK.out (by omega) (by decide) HG.out HBg.out HW.out (by decide) (by decide) (by decide) [y1F] rfl (by decide) (q2h (by decide)) (by decide) y2G)
  obtain ⟨e0,e1,e2⟩:=HE.out _ HSa.out
  have a0:=e0.cell 0;have a1:=e0.cell 1;have a2:=e0.cell 2;have b0:=e1.cell 0;have b1:=e1.cell 1;have b2:=e1.cell 2;have c0:=e2.cell 0;have c1:=e2.cell 1;have c2:=e2.cell 2
  clear e0 e1 e2
  go_wp2_with fail
  refine HR.out.mono ?_
  rintro e w6 ⟨rfl,hk,hs,hw⟩
  rw[y2C] at hk
  rw[y2J] at hw
  have HSa:=Lib.hid (HSa.out.trans hs)
  have HW:=Lib.hid hw;have HK:=Lib.hid hk
  clear hs hw hk HR a0 a1 a2 b0 b1 b2 c0 c1 c2
  have HAt:=Lib.hid (z4E HW.out)
  have HOp:=Lib.hid (q3f (HK.out.beside fun i hi=> .inl hi) (by omega) [115] (by decide) (-1))
  clear HW HK HG HBg
  go_wp2_with fail
  refine HAt.out.mono ?_
  rintro e w6' ⟨rfl,rfl⟩
  clear HAt
  go_wp2_with fail
  refine HOp.out.mono ?_
  rintro e w7 ⟨_,hs,⟨hne,_⟩|⟨_,gz,rfl,hw,hg,hb,hk⟩⟩
  · exact absurd y1m hne
  have HSa:=Lib.hid (HSa.out.trans hs)
  have HW:=Lib.hid hw;have HK:=Lib.hid hk;have HG:=Lib.hid hg;have HBg:=Lib.hid hb
  clear hs hw hg hb hk HOp
  have HR:=Lib.hid (q4R HK.out (by omega) (by decide) HG.out HBg.out HW.out (by decide) (by decide) (by decide) [z3R] rfl (by decide) (q2h (by decide)) (by decide))
  rw[y2K] at HR
  simp only at HR
  obtain ⟨e0,e1,e2⟩:=HE.out _ HSa.out
  have a0:=e0.cell 0;have a1:=e0.cell 1;have a2:=e0.cell 2;have b0:=e1.cell 0;have b1:=e1.cell 1;have b2:=e1.cell 2;have c0:=e2.cell 0;have c1:=e2.cell 1;have c2:=e2.cell 2
  clear e0 e1 e2
  go_wp2_with fail
  refine HR.out.mono ?_
  rintro e w8 ⟨rfl,hk,hs,hw⟩
  rw[y1Q] at hk
  rw[y1Z] at hw
  have HSa:=Lib.hid (HSa.out.trans hs)
  have HW:=Lib.hid hw;have HK:=Lib.hid hk
  clear hs hw hk HR a0 a1 a2 b0 b1 b2 c0 c1 c2
  have HAt:=Lib.hid (fun W h=>z4E (w:=W) (HW.out.same h))
  have HOp:=Lib.hid (q3f HK.out (by omega) [115] (by decide) 3)
  rw[y1S] at HOp
  go_wp2_with fail
  refine HOp.out.mono ?_
  rintro e w9 ⟨hx9,hs,⟨_,rfl,hk⟩|⟨hne,_⟩⟩
  case inr=>exact absurd hne (by decide)
  have HA9:=Lib.hid (HAt.out w9 (hs gz (.inr rfl)))
  have HX9:=Lib.hid hx9
  clear hs hk hx9 HAt HOp
  go_wp2_with fail
  refine HA9.out.mono ?_
  rintro e w9' ⟨rfl,rfl⟩
  go_wp2_with fail
  go_ret
  exact ⟨rfl,HX9.out⟩
end Go.Proofs.YtjjfiejoeelndaaGreatDoor
namespace Go.Proofs.YtjjfiejoeelndaaGreatDoor
open Go.RowKit
set_option maxRecDepth 100000
set_option linter.unusedVariables false
set_option maxHeartbeats 6400000
def y1L (w:World) (p:Option Addr):Prop:=p=none∨ ∃s,p=some ⟨s,0,none⟩∧Blk w s 51 #[.pointer none,.string ⟨#[]⟩,.int .i64 0]
theorem z7N {w:World} {p:Option Addr} (h:y1L w p) (ao:Option Addr) (n cap:Nat):Calls Tryz.prog 12 #[.pointer p,.slice ao n cap] w fun e w'=>e= .returned (.tuple #[.int .i64 0,.bool false,.int .i64 1])∧w=w':=by
  rcases h with rfl|⟨s,rfl,hb⟩
  · go_enter Tryz.func12,Tryz.ntmps12
    go_wp2_with fail
    go_ret3
    exact ⟨rfl,rfl⟩
  · have c0:=hb.cell 0
    clear hb
    go_enter Tryz.func12,Tryz.ntmps12
    go_wp2_with fail
    go_ret3
    exact ⟨rfl,rfl⟩
theorem y1o {w:World} {p:Option Addr} (h:y1L w p):Calls Tryz.prog 14 #[.pointer p] w fun e w'=>e= .returned (.int .i64 (-1))∧w=w':=by
  rcases h with rfl|⟨s,rfl,hb⟩
  · go_enter Tryz.func14,Tryz.ntmps14
    go_wp2_with fail
    go_ret
    exact ⟨rfl,rfl⟩
  · have c0:=hb.cell 0
    clear hb
    go_enter Tryz.func14,Tryz.ntmps14
    go_wp2_with fail
    go_ret
    exact ⟨rfl,rfl⟩
theorem z7Q (w:World) (str:List UInt8) (a:Int):Calls Tryz.prog 11 #[.pointer none,.string ⟨str.toArray⟩,.int .i64 a] w fun e w'=>e= .returned (.tuple #[.pointer none,.int .i64 1])∧w=w':=by
  go_enter Tryz.func11,Tryz.ntmps11
  go_wp2_with fail
  refine (z9h (.inl rfl) str).mono ?_
  rintro e w1 ⟨rfl,rfl⟩
  go_wp2_with fail
  go_ret2
  exact ⟨rfl,rfl⟩
theorem z1J {ao:Option Addr} {n cap:Nat} {L:List Ev} (hok: ∀e∈L,e.ty.length≤9223372036854775807∧e.da.length≤9223372036854775807∧e.we<18446744073709551616):z9x ⟨0,[],0,0,ao,n,cap,L⟩:=
  ⟨Int.le_refl 0,(by show (0:Int)≤255;decide),Nat.zero_le _,(by show (-9223372036854775808:Int)≤0;decide),(by show (0:Int)≤9223372036854775807;decide),(by show (-9223372036854775808:Int)≤0;decide),(by show (0:Int)≤9223372036854775807;decide),hok⟩
theorem writersnone_c {ao:Option Addr} {n cap:Nat} {L:List Ev} (a:Int) (w:World) (hx:Evs w ao n cap L) (hok: ∀e∈L,e.ty.length≤9223372036854775807∧e.da.length≤9223372036854775807∧e.we<18446744073709551616):
    Calls Tryz.prog 4 #[.slice ao n cap,.int .i64 a] w fun e w'=>e= .returned (.bool true)∧Ext w w':=by
  have ha:=z9Y w ⟨0,[],0,0,ao,n,cap,L⟩ hx (z1J hok)
  have hx1:=q0B w (.cells #[.int .u8 0,.string ⟨([]:List UInt8).toArray⟩,.int .i64 0,.int .i64 0,.slice ao n cap] 30)
  have HG:=Lib.hid (z5S 1 _ ha)
  have HX:=Lib.hid hx1
  obtain ⟨z,hz⟩: ∃z,q5E [⟨0,[],0,0,ao,n,cap,L⟩] 1=z:=⟨_,rfl⟩
  rw[hz] at HG
  clear hx hx1 ha hok hz
  go_enter Tryz.func4,Tryz.ntmps4
  go_wp2_with fail
  refine HG.out.mono ?_
  rintro e w1 ⟨rfl,hx⟩
  have HX1:=Lib.hid (HX.out.trans hx)
  clear hx HG
  cases z with
  | true=>
    go_wp2_with fail
    refine (q2D w1).mono ?_
    rintro e w2 ⟨rfl,hx⟩
    have HX2:=Lib.hid (HX1.out.trans hx)
    clear hx
    go_wp2_with fail
    go_ret
    exact ⟨rfl,HX2.out⟩
  | false=>
    go_wp2_with fail
    go_loopw [5,6] (fun o o2 W=> ∃p:Option Addr,∃k:Nat,k≤2∧o= .pointer p∧o2= .int .i64 (k:Int)∧Hid (y1L W p)∧Ext w1 W) (fun _ i _=>2-(intOf i).toNat)
    case atStart=>exact ⟨none,0,by omega,rfl,rfl,Lib.hid (.inl rfl),Ext.refl _⟩
    case round=>
      obtain ⟨p,k,hk,rfl,rfl,HNo,hb⟩:=hrel
      have HB:=Lib.hid hb
      by_cases hlt:k<2
      · have hd:decide ((k:Int)<(2:Int))=true:=decide_eq_true (by omega)
        have q8:IntKind.i64.wrap ((k:Int)+1)=(k:Int)+1:=by rw[IntKind.wrap_i64];omega
        clear hb
        go_wp2_with fail
        refine (z7N HNo.out ao n cap).mono ?_
        rintro e w2 ⟨rfl,rfl⟩
        go_wp2_with fail
        refine (y1o HNo.out).mono ?_
        rintro e w2 ⟨rfl,rfl⟩
        have HX3:=Lib.hid (HB.out.trans (q0B wr (.cells #[.pointer none,.string ⟨#[]⟩,.int .i64 0] 51)))
        have HNw:Hid (y1L (wr.alloc (.cells #[.pointer none,.string ⟨#[]⟩,.int .i64 0] 51)) (some ⟨wr.heap.size,0,none⟩)):=Lib.hid (.inr ⟨_,rfl,Blk.new wr _ _⟩)
        go_wp2_with fail
        go_roundw
        case rel=>exact ⟨_,k+1,by omega,rfl,by go_num,HNw,HX3.out⟩
        case measure=>simp[intOf];omega
      · obtain rfl:k=2:=by omega
        have hd:decide (((2:Nat):Int)<(2:Int))=false:=decide_eq_false (by omega)
        clear hb
        go_wp2_with fail
        refine (z7Q _ [115] a).mono ?_
        rintro e w2 ⟨rfl,rfl⟩
        go_wp2_with fail
        refine (q2D _).mono ?_
        rintro e w5 ⟨rfl,hx⟩
        have HX5:=Lib.hid ((HX1.out.trans HB.out).trans hx)
        clear hx
        go_wp2_with fail
        go_ret
        exact ⟨rfl,HX5.out⟩
end Go.Proofs.YtjjfiejoeelndaaGreatDoor
namespace Go.Proofs.YtjjfiejoeelndaaGreatDoor
open Go.RowKit
set_option linter.unusedVariables false
set_option maxRecDepth 100000
def q2Y (X Y:List Ev):Bool:=!Y.isEmpty&&decide (Y.length≤X.length)&&q1L (X.take Y.length) Y
abbrev bsX (X:List Ev):List Bt:=[⟨[115],0,X⟩]
abbrev z1D :Ev:=⟨[101,110,100],[],0⟩
theorem z2p (s:List UInt8): ∀(L:List Ev) (i:Nat),(q6H s i L).map To.e=L
  |[],i=>rfl
  |e::r,i=>by rw[q6H,List.map_cons,z2p s r]
theorem q6n (X:List Ev):q0y (bsX X) [115]=X:=by unfold q0y;simp
theorem q9z : ∀{L:List Ev} (k:Nat),q5k L=0→q5k (L.take k)=0
  |[],k,_=>by simp[q5k]
  |e::r,0,_=>rfl
  | e::r,k+1,h=>by
    rw[List.take_succ_cons]
    unfold q5k at h⊢
    split at h
    · rename_i h1;rw[if_pos h1];exact q9z k h
    · rename_i h1;exact absurd h h1
theorem z9L {fr ct:Int} (h0:0≤fr) (h1:1≤ct):q4a [115] fr ct=0:=by
  unfold q4a
  rw[if_neg (by rw[show q3O [115]=true from by decide];simp;omega)]
theorem q9t (X Y:List Ev):q4f (bsX X) [115] (-1) Y=q2Y X Y:=by
  unfold q4f q2Y
  cases Y with
  |nil=>rfl
  | cons y r=>
    have hp:q4a [115] (-1+1) ((y::r).length:Int)=0:=z9L (by decide) (by rw[List.length_cons];omega)
    unfold z4N
    rw[if_pos hp]
    unfold q6A z0Y
    rw[q6n,show ((-1+1:Int)).toNat=0 from rfl,List.drop_zero,z0W,z2p,Int.toNat_natCast]
    simp only[List.isEmpty_cons,Bool.not_false,Bool.true_and]
    by_cases h:(y::r).length≤X.length
    · rw[decide_eq_true h,Bool.true_and]
    · rw[decide_eq_false h,Bool.false_and]
      exact q4q (by rw[List.length_take];omega)
theorem z5E (X:List Ev) (a:Int):q4f [] [115] a X=false:=by
  unfold q4f
  cases X with
  |nil=>rfl
  | cons x r=>
    have:z4N [] [115] (a+1) ((x::r).length:Int)=[]:=by
      unfold z4N
      split
      · unfold q6A z0Y q0y;simp[q6H]
      · rfl
    rw[this]
    rfl
theorem z6w {X:List Ev} (h:q7E [] [115] (-1) X≠0):wrN [] [115] (-1) X=(0,false,q7E [] [115] (-1) X)∧wrB [] [115] (-1) X=[]∧wrA [] [115] (-1) X= -1:=by
  have h1:wrN [] [115] (-1) X=(0,false,q7E [] [115] (-1) X):=by
    unfold wrN
    rw[if_neg h,if_neg (by rw[z5E];intro hh;cases hh.2)]
  refine ⟨h1,by unfold wrB;rw[if_neg h],?_⟩
  unfold wrA
  rw[h1,if_neg h]
theorem z8E {X:List Ev} (h:q7E [] [115] (-1) X=0):q0T [115] 0 X=0:=by
  unfold q7E at h
  by_cases hb:q0T [115] 0 X≠0
  · rw[if_pos hb] at h;exact absurd h hb
  · exact Decidable.not_not.1 hb
theorem z4R {X:List Ev} (h:q7E [] [115] (-1) X=0):wrN [] [115] (-1) X=(0,false,0)∧wrB [] [115] (-1) X=bsX X∧wrA [] [115] (-1) X=(X.length:Int)-1∧0<X.length∧X.length≤8:=by
  have h1:wrN [] [115] (-1) X=(0,false,0):=by unfold wrN;rw[if_pos h];rfl
  obtain ⟨_,p2,_,p4,_⟩:=q0i (z8E h)
  refine ⟨h1,by unfold wrB;rw[if_pos h];rfl,?_,List.length_pos_iff.2 p2,p4⟩
  unfold wrA
  rw[h1,if_pos rfl];omega
theorem q9u {X Y:List Ev} (hX:q0T [115] 0 X=0) (h:q2Y X Y=true):q0T [115] 0 Y=0:=by
  obtain ⟨p1,p2,p3,p4,p5,p6,p7⟩:=q0i hX
  unfold q2Y at h
  simp only[Bool.and_eq_true,decide_eq_true_eq] at h
  obtain ⟨⟨h1,h2⟩,h3⟩:=h
  rw[sameEvs_iff] at h3
  have hY:Y≠[]:=fun e=>by rw[e] at h1;cases h1
  have hn:q5k Y=0:=by rw[←h3];exact q9z _ p7
  unfold q0T
  rw[if_neg (fun e=>e.elim (by decide) hY),if_neg (by omega),if_neg (by omega)]
  exact hn
theorem z0v {X Y:List Ev} (hl:0<X.length):q7E (bsX X) [115] (-1) Y≠0:=by
  unfold q7E
  split
  · assumption
  · rw[if_neg (by decide),q6n,if_pos (by omega)];decide
theorem q6G {X Y:List Ev} (hX:q0T [115] 0 X=0) (hl:0<X.length):wrB (bsX X) [115] (-1) Y=bsX X∧
    ((q2Y X Y=true∧wrN (bsX X) [115] (-1) Y=(0,true,0))∨(q2Y X Y=false∧ ∃z,z≠0∧wrN (bsX X) [115] (-1) Y=(0,false,z))):=by
  refine ⟨by unfold wrB;rw[if_neg (z0v hl)],?_⟩
  cases hb:q2Y X Y with
  | true=>
    refine .inl ⟨rfl,?_⟩
    have h80:q7E (bsX X) [115] (-1) Y=80:=by
      unfold q7E
      rw[if_neg (by rw[q9u hX hb];decide),if_neg (by decide),q6n,if_pos (by omega)]
    unfold wrN
    rw[if_neg (by rw[h80];decide),if_pos ⟨h80,by rw[q9t];exact hb⟩];rfl
  | false=>
    refine .inr ⟨rfl,q7E (bsX X) [115] (-1) Y,z0v hl,?_⟩
    unfold wrN
    rw[if_neg (z0v hl),if_neg (by rw[q9t,hb];intro hh;cases hh.2)]
theorem q4X (X:List Ev):q6K (bsX X) [115]=((X.length:Int)-1,0):=by
  unfold q6K
  rw[if_pos (by decide),q6n]
theorem q5r (X:List Ev):z4O (bsX X) [115] ((X.length:Int)-1)=0:=by
  unfold z4O
  rw[q4X]
  simp only
  rw[if_neg (by simp),if_neg (by omega),if_neg (by omega)]
theorem q7F (X:List Ev):wrN (bsX X) [115] ((X.length:Int)-1) [z1D]=((X.length:Int),false,0)∧wrA (bsX X) [115] ((X.length:Int)-1) [z1D]=(X.length:Int):=by
  have h0:q7E (bsX X) [115] ((X.length:Int)-1) [z1D]=0:=by
    unfold q7E
    rw[if_neg (by decide),if_neg (by omega),q6n,if_neg (by omega)]
  have h1:wrN (bsX X) [115] ((X.length:Int)-1) [z1D]=((X.length:Int),false,0):=by
    unfold wrN
    rw[if_pos h0]
    congr 1;omega
  refine ⟨h1,?_⟩
  unfold wrA
  rw[h1,if_pos rfl,List.length_singleton];omega
theorem z1m :q6K [] [115]=(-1,0):=by decide
end Go.Proofs.YtjjfiejoeelndaaGreatDoor
namespace Go.Proofs.YtjjfiejoeelndaaGreatDoor
open Go.RowKit
set_option maxRecDepth 100000
set_option linter.unusedVariables false
set_option maxHeartbeats 12800000
abbrev acX (ao:Option Addr) (n cap:Nat) (L:List Ev):Acm:=⟨0,[],0,0,ao,n,cap,L⟩
theorem z9r (w:World) (x y:Acm) (hx:Evs w x.ao x.n x.cap x.L) (hy:Evs w y.ao y.n y.cap y.L) (hox:z9x x) (hoy:z9x y):
    Acs (w.alloc (.cells #[.int .u8 x.kd,.string ⟨x.st.toArray⟩,.int .i64 x.a,.int .i64 x.b,.slice x.ao x.n x.cap,.int .u8 y.kd,.string ⟨y.st.toArray⟩,.int .i64 y.a,.int .i64 y.b,.slice y.ao y.n y.cap] 30)) (some ⟨w.heap.size,0,none⟩) 2 2 [x,y]:=by
  refine ⟨rfl,Nat.le_refl _,by omega,(fun h=>by cases h),?_,fun z hz=>?_,fun z hz=>?_⟩
  · intro j u hj
    exact (Blk.new w 30 #[.int .u8 x.kd,.string ⟨x.st.toArray⟩,.int .i64 x.a,.int .i64 x.b,.slice x.ao x.n x.cap,.int .u8 y.kd,.string ⟨y.st.toArray⟩,.int .i64 y.a,.int .i64 y.b,.slice y.ao y.n y.cap]).rd j u (by simpa [z9v,acc] using hj)
  · rcases List.mem_cons.1 hz with hz|hz
    · rw[hz];exact hx.ext (q0B _ _)
    · rw[List.mem_singleton.1 hz];exact hy.ext (q0B _ _)
  · rcases List.mem_cons.1 hz with hz|hz
    · rw[hz];exact hox
    · rw[List.mem_singleton.1 hz];exact hoy
theorem Evs.firsts {w:World} {ao:Option Addr} {n cap:Nat} {L:List Ev} (h:Evs w ao n cap L) {m:Nat} (hm:m≤n):Evs w ao m cap (L.take m):=by
  refine ⟨by rw[List.length_take,h.len];omega,by have:=h.fits;omega,h.bound,h.nil,?_⟩
  have h1:=h.rd.take (m*3)
  have e:(q4t L).take (m*3)=q4t (L.take m):=by
    conv=>lhs;rw[←List.take_append_drop m L,q3j]
    exact List.take_left' (by rw[q4n,List.length_take,h.len];omega)
  rw[←e];exact h1
theorem z9a {X Y:List Ev} (hX:q0T [115] 0 X=0) (hl:0<X.length): ∃z,wrN (bsX X) [115] (-1) Y=(0,q2Y X Y,z)∧(z==(0:Int))=q2Y X Y:=by
  rcases (q6G (Y:=Y) hX hl).2 with ⟨h1,h2⟩|⟨h1,z,h2,h3⟩
  · exact ⟨0,by rw[h2,h1],by rw[h1];rfl⟩
  · exact ⟨z,by rw[h3,h1],by rw[h1];exact beq_eq_false_iff_ne.2 h2⟩
theorem writersapart_c {ao bo:Option Addr} {n m cap cap':Nat} {X Y:List Ev} (sd:Int) (rate:Nat) (room:Int) (w:World) (hx:Evs w ao n cap X) (hy:Evs w bo m cap' Y)
    (hox: ∀e∈X,e.ty.length≤9223372036854775807∧e.da.length≤9223372036854775807∧e.we<18446744073709551616) (hoy: ∀e∈Y,e.ty.length≤9223372036854775807∧e.da.length≤9223372036854775807∧e.we<18446744073709551616)
    (hs0:0≤sd) (hs1:sd<18446744073709551616) (hr0:0≤room) (hr1:room≤65535):
    Calls Tryz.prog 3 #[.slice ao n cap,.slice bo m cap',.agg #[.int .u64 sd,.float .f64 rate,.int .u16 room]] w fun e w'=>e= .returned (.bool true)∧Ext w w':=by
  have hx1:=q0B w (.cells #[.int .u64 sd,.float .f64 rate,.int .u16 room] 27)
  have hbk:=Blk.new w 27 #[.int .u64 sd,.float .f64 rate,.int .u16 room]
  have ha:=z9r _ (acX ao n cap X) (acX bo m cap' Y) (hx.ext hx1) (hy.ext hx1) (z1J hox) (z1J hoy)
  have hx2:=q0B (w.alloc (.cells #[.int .u64 sd,.float .f64 rate,.int .u16 room] 27)) (.cells #[.int .u8 0,.string ⟨([]:List UInt8).toArray⟩,.int .i64 0,.int .i64 0,.slice ao n cap,.int .u8 0,.string ⟨([]:List UInt8).toArray⟩,.int .i64 0,.int .i64 0,.slice bo m cap'] 30)
  rw[World.size_alloc] at ha
  have HG:=Lib.hid (z5S 2 _ ha)
  have HX1:=Lib.hid hx1;have HX2:=Lib.hid hx2
  have HBk:=Lib.hid hbk
  have HEx:=Lib.hid hx;have HEy:=Lib.hid hy
  have hlx:=hx.len;have hly:=hy.len
  have fx:=hx.fits;have gx:=hx.bound;have fy:=hy.fits;have gy:=hy.bound
  have HOx:=Lib.hid hox;have HOy:=Lib.hid hoy
  obtain ⟨z,hz⟩: ∃z,q5E [acX ao n cap X,acX bo m cap' Y] 2=z:=⟨_,rfl⟩
  rw[hz] at HG
  have HZ:=Lib.hid hz
  clear hx hy hx1 hx2 ha hbk hox hoy hz
  go_enter Tryz.func3,Tryz.ntmps3
  by_cases hn:8<n
  · have hd1:decide ((8:Int)<(n:Int))=true:=decide_eq_true (by omega)
    go_wp2_with fail
    refine (q2D _).mono ?_
    rintro e w9 ⟨rfl,hx⟩
    have HX9:=Lib.hid (HX1.out.trans hx)
    clear hx
    go_wp2_with fail
    go_ret
    exact ⟨rfl,HX9.out⟩
  have hd1:decide ((8:Int)<(n:Int))=false:=decide_eq_false (by omega)
  by_cases hm:8<m
  · have hd2:decide ((8:Int)<(m:Int))=true:=decide_eq_true (by omega)
    go_wp2_with fail
    refine (q2D _).mono ?_
    rintro e w9 ⟨rfl,hx⟩
    have HX9:=Lib.hid (HX1.out.trans hx)
    clear hx
    go_wp2_with fail
    go_ret
    exact ⟨rfl,HX9.out⟩
  have hd2:decide ((8:Int)<(m:Int))=false:=decide_eq_false (by omega)
  go_wp2_with fail
  refine HG.out.mono ?_
  rintro e w1 ⟨rfl,hx⟩
  have HW1:=Lib.hid ((HX1.out.trans HX2.out).trans hx)
  have hbk:=(HBk.out.ext HX2.out).ext hx
  have k0:=hbk.cell 0;have k1:=hbk.cell 1;have k2:=hbk.cell 2
  clear hx HG hbk
  cases z with
  | true=>
    go_wp2_with fail
    refine (q2D _).mono ?_
    rintro e w9 ⟨rfl,hx⟩
    have HX9:=Lib.hid (HW1.out.trans hx)
    clear hx
    go_wp2_with fail
    go_ret
    exact ⟨rfl,HX9.out⟩
  | false=>
    have hng:=(z4Z HZ.out).2
    have hngx:=hng _ (.head _);have hngy:=hng _ (.tail _ (.head _))
    have HShx:Hid (q1j X):=Lib.hid (q2h hngx.2.2)
    have HShy:Hid (q1j Y):=Lib.hid (q2h hngy.2.2)
    have HWx:Hid (∀e∈X,e.we<18446744073709551616):=Lib.hid fun e he=>(HOx.out e he).2.2
    have HWy:Hid (∀e∈Y,e.we<18446744073709551616):=Lib.hid fun e he=>(HOy.out e he).2.2
    have HO:=Lib.hid (q7t sd rate room w1 hs0 hs1)
    have HEx1:=Lib.hid (fun W (k:Ext w1 W)=>HEx.out.ext (HW1.out.trans k))
    have HEy1:=Lib.hid (fun W (k:Ext w1 W)=>HEy.out.ext (HW1.out.trans k))
    clear hng hngx hngy HOx HOy HEx HEy HX1 HX2 HBk HZ
    go_wp2_with fail
    refine HO.out.mono ?_
    rintro e w2 ⟨g,gs,rfl,hk⟩
    have HOp:=Lib.hid (q3f hk (by omega) [115] (by decide) (-1))
    clear hk HO k0 k1 k2
    go_wp2_with fail
    refine HOp.out.mono ?_
    rintro e w3 ⟨_,_,⟨hne,_⟩|⟨_,ga,rfl,hwa,_,hba,hk⟩⟩
    · exact absurd z9F hne
    have HOp:=Lib.hid (q3f hk (by omega) [115] (by decide) (-1))
    have HWa:=Lib.hid hwa;have HBa:=Lib.hid hba
    clear hk hwa hba
    go_wp2_with fail
    refine HOp.out.mono ?_
    rintro e w4 ⟨_,hs4,⟨hne,_⟩|⟨_,gb,rfl,hwb,hgb,hbb,hk⟩⟩
    · exact absurd z9F hne
    have hab:ga≠gb:=fun e=>hgb (.inr e.symm)
    have hwa:=HWa.out.same (hs4 ga (.inr rfl))
    have HWr:=Lib.hid (q6V (K:=fun i=>i=gb) (hk.beside fun i hi=>hi.elim .inr fun e=> .inl (.inr e)) (by omega) (by decide) (fun e=>hab e) HBa.out hwa (by decide) (by decide) (by decide) (fun W k1 _=>HEx1.out W k1) (by omega) HShx.out HWx.out)
    have HWb:=Lib.hid hwb;have HBb:=Lib.hid hbb;have HAB:=Lib.hid hab
    clear hk hwa hwb hs4 hgb hbb hab
    obtain ⟨zx,hzx⟩: ∃zx,q7E [] [115] (-1) X=zx:=⟨_,rfl⟩
    by_cases hz0:zx=0
    case neg=>
      obtain ⟨h1,h2,h3⟩:=z6w (X:=X) (by rw[hzx];exact hz0)
      rw[h1,h2,h3] at HWr
      simp only at HWr
      rw[hzx] at HWr
      have hne:(zx !=(0:Int))=true:=by simpa using hz0
      clear h1 h2 h3 hzx hz0
      go_wp2_with fail
      refine HWr.out.mono ?_
      rintro e w5 ⟨rfl,hk,hs,hw⟩
      have HL:=Lib.hid (hk.last (by omega) [115] (by decide) z1m)
      have HWa5:=Lib.hid hw
      clear hk hs hw HWr
      go_wp2_with fail
      refine HL.out.mono ?_
      rintro e w6 ⟨rfl,hk,hs⟩
      have HA:=Lib.hid (z4E (HWa5.out.same (hs ga (.inr rfl))))
      have HX6:=Lib.hid (HW1.out.trans hk.base)
      clear hk hs HL
      go_wp2_with fail
      refine HA.out.mono ?_
      rintro e w6' ⟨rfl,rfl⟩
      go_wp2_with fail
      refine (q2D _).mono ?_
      rintro e w9 ⟨rfl,hx⟩
      have HX9:=Lib.hid (HX6.out.trans hx)
      clear hx
      go_wp2_with fail
      go_ret
      exact ⟨rfl,HX9.out⟩
    obtain ⟨h1,h2,h3,h4,h5⟩:=z4R (X:=X) (by rw[hzx];exact hz0)
    have hbX:=z8E (X:=X) (by rw[hzx];exact hz0)
    rw[h1,h2] at HWr
    simp only at HWr
    obtain ⟨zz,hz1,hz2⟩:=z9a (Y:=Y) hbX h4
    have hB2:=(q6G (Y:=Y) hbX h4).1
    have HN2:=Lib.hid hz1;have HB2:=Lib.hid hB2
    obtain ⟨bg,hbg⟩: ∃bg,q2Y X Y=bg:=⟨_,rfl⟩
    rw[hbg] at hz2
    have HBG:=Lib.hid hbg
    have HZ2:=Lib.hid hz2
    have hn1:0<n:=by omega
    clear h1 h2 h3 h4 h5 hbX hz1 hz2 hB2 hbg hzx hz0
    go_wp2_with fail
    refine HWr.out.mono ?_
    rintro e w5 ⟨rfl,hk,hs,_⟩
    have hwb5:=HWb.out.same (hs gb rfl)
    have HWr2:=Lib.hid (q6V (K:=fun i=>i=ga) (hk.beside fun i hi=>hi.symm) (by omega) (by decide) (fun e=>HAB.out e.symm) HBb.out hwb5 (by decide) (by decide) (by decide) (fun W k1 _=>HEy1.out W k1) (by omega) HShy.out HWy.out)
    rw[HN2.out,HB2.out,HBG.out] at HWr2
    simp only at HWr2
    clear hk hs hwb5 HWr
    have hz2:=HZ2.out
    go_wp2_with fail
    refine HWr2.out.mono ?_
    rintro e w6 ⟨rfl,hk,_,_⟩
    have HK6:=Lib.hid hk
    clear hk HWr2
    have q1:IntKind.i64.wrap ((n:Int)-1)=(n:Int)-1:=by rw[IntKind.wrap_i64];omega
    have q2:IntKind.i64.wrap ((n:Int)-1+1)=(n:Int):=by rw[IntKind.wrap_i64];omega
    by_cases hm0:m=0
    case pos=>
      have hd3:decide ((0:Int)<(m:Int))=false:=decide_eq_false (by omega)
      have hbf:bg=false:=by
        have h:=HBG.out
        have hY:Y=[]:=List.eq_nil_of_length_eq_zero (by omega)
        rw[hY] at h;exact h.symm
      subst hbf
      have HKt:=HK6
      have HL:=Lib.hid (HKt.out.last (by omega) [115] (by decide) (q4X X))
      rw[hlx] at HL
      go_wp2_with fail
      refine HL.out.mono ?_
      rintro e w8 ⟨rfl,hk,_⟩
      have HOp:=Lib.hid (q3f (hk.beside fun i hi=> .inl hi) (by omega) [115] (by decide) ((n:Int)-1))
      have HNo:=Lib.hid (q5r X)
      rw[hlx] at HNo
      clear hk HL
      go_wp2_with fail
      refine HOp.out.mono ?_
      rintro e w10 ⟨_,_,⟨hne,_⟩|⟨_,gc,rfl,hw,hg,hb,hk⟩⟩
      · exact absurd HNo.out hne
      have HWr3:=Lib.hid (q4R hk (by omega) (by decide) hg hb hw (by decide) (by omega) (by omega) [z1D] rfl (by decide) (q2h (by decide)) (by decide))
      have hend:=q7F X
      rw[hlx] at hend
      rw[hend.1,hend.2] at HWr3
      simp only at HWr3
      clear hw hg hb hk HOp hend
      go_wp2_with fail
      refine HWr3.out.mono ?_
      rintro e w11 ⟨rfl,hk,_,hw⟩
      have HA:=Lib.hid (z4E hw)
      have HX11:=Lib.hid (HW1.out.trans hk.base)
      clear hk hw HWr3
      go_wp2_with fail
      refine HA.out.mono ?_
      rintro e w11' ⟨rfl,rfl⟩
      go_wp2_with fail
      refine (q2D _).mono ?_
      rintro e w9 ⟨rfl,hx⟩
      have HX9:=Lib.hid (HX11.out.trans hx)
      clear hx
      go_wp2_with fail
      go_ret
      exact ⟨rfl,HX9.out⟩
    have hd3:decide ((0:Int)<(m:Int))=true:=decide_eq_true (by omega)
    by_cases hmn:n<m
    case pos=>
      have hd4:decide ((m:Int)≤(n:Int))=false:=decide_eq_false (by omega)
      have hbf:bg=false:=by
        have h:=HBG.out
        unfold q2Y at h
        rw[decide_eq_false (by omega),Bool.and_false,Bool.false_and] at h;exact h.symm
      subst hbf
      have HKt:=HK6
      have HL:=Lib.hid (HKt.out.last (by omega) [115] (by decide) (q4X X))
      rw[hlx] at HL
      go_wp2_with fail
      refine HL.out.mono ?_
      rintro e w8 ⟨rfl,hk,_⟩
      have HOp:=Lib.hid (q3f (hk.beside fun i hi=> .inl hi) (by omega) [115] (by decide) ((n:Int)-1))
      have HNo:=Lib.hid (q5r X)
      rw[hlx] at HNo
      clear hk HL
      go_wp2_with fail
      refine HOp.out.mono ?_
      rintro e w10 ⟨_,_,⟨hne,_⟩|⟨_,gc,rfl,hw,hg,hb,hk⟩⟩
      · exact absurd HNo.out hne
      have HWr3:=Lib.hid (q4R hk (by omega) (by decide) hg hb hw (by decide) (by omega) (by omega) [z1D] rfl (by decide) (q2h (by decide)) (by decide))
      have hend:=q7F X
      rw[hlx] at hend
      rw[hend.1,hend.2] at HWr3
      simp only at HWr3
      clear hw hg hb hk HOp hend
      go_wp2_with fail
      refine HWr3.out.mono ?_
      rintro e w11 ⟨rfl,hk,_,hw⟩
      have HA:=Lib.hid (z4E hw)
      have HX11:=Lib.hid (HW1.out.trans hk.base)
      clear hk hw HWr3
      go_wp2_with fail
      refine HA.out.mono ?_
      rintro e w11' ⟨rfl,rfl⟩
      go_wp2_with fail
      refine (q2D _).mono ?_
      rintro e w9 ⟨rfl,hx⟩
      have HX9:=Lib.hid (HX11.out.trans hx)
      clear hx
      go_wp2_with fail
      go_ret
      exact ⟨rfl,HX9.out⟩
    have hd4:decide ((m:Int)≤(n:Int))=true:=decide_eq_true (by omega)
    have hmin:min (m:Int) (n:Int)=(m:Int):=by omega
    have hsa:q1L (X.take m) Y=bg:=by
      have h:=HBG.out
      unfold q2Y at h
      rw[decide_eq_true (by omega),hly] at h
      have hY:Y.isEmpty=false:=by cases hq:Y with|nil=>rw[hq] at hly;simp at hly;omega|cons a l=>rfl
      rw[hY] at h
      simpa using h
    have HAl:=Lib.hid (z8C w6 ((HEx1.out w6 HK6.out.base).firsts (m:=m) (by omega)) (HEy1.out w6 HK6.out.base) (by omega) (by omega))
    rw[hsa] at HAl
    have h01:(0:Int)≤(m:Int):=by omega
    have h02:(m:Int)≤(cap:Int):=by omega
    clear hsa
    go_wp2_with fail
    refine HAl.out.mono ?_
    rintro e w7 ⟨rfl,hx7⟩
    have HKt:=Lib.hid (HK6.out.grow hx7)
    clear hx7 HAl
    have HL:=Lib.hid (HKt.out.last (by omega) [115] (by decide) (q4X X))
    rw[hlx] at HL
    go_wp2_with fail
    refine HL.out.mono ?_
    rintro e w8 ⟨rfl,hk,_⟩
    have HOp:=Lib.hid (q3f (hk.beside fun i hi=> .inl hi) (by omega) [115] (by decide) ((n:Int)-1))
    have HNo:=Lib.hid (q5r X)
    rw[hlx] at HNo
    clear hk HL
    go_wp2_with fail
    refine HOp.out.mono ?_
    rintro e w10 ⟨_,_,⟨hne,_⟩|⟨_,gc,rfl,hw,hg,hb,hk⟩⟩
    · exact absurd HNo.out hne
    have HWr3:=Lib.hid (q4R hk (by omega) (by decide) hg hb hw (by decide) (by omega) (by omega) [z1D] rfl (by decide) (q2h (by decide)) (by decide))
    have hend:=q7F X
    rw[hlx] at hend
    rw[hend.1,hend.2] at HWr3
    simp only at HWr3
    clear hw hg hb hk HOp hend
    go_wp2_with fail
    refine HWr3.out.mono ?_
    rintro e w11 ⟨rfl,hk,_,hw⟩
    have HA:=Lib.hid (z4E hw)
    have HX11:=Lib.hid (HW1.out.trans hk.base)
    clear hk hw HWr3
    go_wp2_with fail
    refine HA.out.mono ?_
    rintro e w11' ⟨rfl,rfl⟩
    go_wp2_with fail
    refine (q2D _).mono ?_
    rintro e w9 ⟨rfl,hx⟩
    have HX9:=Lib.hid (HX11.out.trans hx)
    clear hx
    go_wp2_with fail
    go_ret
    exact ⟨rfl,HX9.out⟩
end Go.Proofs.YtjjfiejoeelndaaGreatDoor
