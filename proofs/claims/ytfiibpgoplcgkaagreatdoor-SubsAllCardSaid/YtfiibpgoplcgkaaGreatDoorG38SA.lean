/- Walks. -/
import Derived.Test.YtfiibpgoplcgkaaGreatDoorG37SA
set_option linter.unusedVariables false
set_option linter.unusedSimpArgs false
set_option maxRecDepth 100000
set_option maxHeartbeats 100000000
namespace Go.Proofs.YtfiibpgoplcgkaaGreatDoor
variable {P:Program}{i:Nat}{ops:Array Oper}{rest:List Oper}{Q:Exit->Act->World->Prop}{W0:World}
section
open Go.RowKit
section
variable {wb w W W':World}{g gs gu rate u n:Nat}{sd c s a v t:Int}{bs:List Bt}{K K':Nat->Prop}{st own:List UInt8}{p:Option Addr}
theorem q3u{P:Prop}{g:Nat}:P->(P/\i≠g)\/i=g:=fun h=>by
 by_cases e:i=g
 ·exact .inr e
 ·exact .inl ⟨h,e⟩
theorem q8E(h:SK wb w g gs rate sd c s u n bs K)(o:n<=1000)(m:K gu)(l:wb.heap.size<=gu)(b:SubI w gu gs st own a v t)(q:st.length<=4611686018427387903)(d:0<=t)(j:t<=2147483648)(k:Int):
  Calls Tryz.prog 40 #[.pointer (some ⟨gu,0,none⟩),.int .i64 k] w fun e w'=> ∃x,e= .returned (.tuple #[x,.int .i64 (q2M st t k)])/\
   SK wb w' g gs rate sd c s u n bs (fun i=>K i\/x.ownBlock=some i)/\Stay (fun i=>K i/\i≠gu) w w'/\w'.ownsRow wb.heap.size 69 5 x (q3y bs st t k).length (q5B (q3y bs st t k))/\(∀i,K i->x.ownBlock≠some i)/\
   SubI w' gu gs st own a v (t+((q3y bs st t k).length:Int)):=by
 have hq: ∀i,((K i/\i≠gu)\/i=gu)↔K i:=fun i=>⟨fun h=>h.elim And.left fun e=>by rw[e];exact m,q3u⟩
 refine(z1c (K:=fun i=>K i/\i≠gu) (h.beside fun i b=>(hq i).1 b) o (fun h=>h.2 rfl) l b q d j k).mono ?_;rintro e w' ⟨x,rfl,k1,r,y,B,C⟩;exact⟨x,rfl,k1.beside fun i b=>b.imp q3u id,r,y,fun i b=>B i (q3u b),C⟩
theorem z9k(h:SK wb w g gs rate sd c s u n bs K)(q:n<=86)(b:(u:Int)+8024<=c)(o:K gu)(m:wb.heap.size<=gu)(d:SubI w gu gs st own a v t)(r:own.length<=4611686018427387903)(j:0<=t)(l:t<=1073741825)(x:SbW w):
  Calls Tryz.prog 41 #[.pointer (some ⟨gu,0,none⟩)] w fun e w'=>e= .returned (.int .i64 (z3J bs own a v t))/\
   SK wb w' g gs rate sd c s (u+2024) (n+1) (z5n bs own a v t) K/\Stay (fun i=>K i/\i≠gu) w w'/\SubI w' gu gs st own (z5m bs own a v t) (z9v bs own a v t) t:=by
 have hq: ∀i,((K i/\i≠gu)\/i=gu)↔K i:=fun i=>⟨fun h=>h.elim And.left fun e=>by rw[e];exact o,q3u⟩
 refine(z4L (K:=fun i=>K i/\i≠gu) (h.beside fun i d=>(hq i).1 d) q b (fun h=>h.2 rfl) m d r j l x).mono ?_;rintro e w' ⟨rfl,k1,y,B⟩;exact⟨rfl,k1.beside fun i d=>q3u d,y,B⟩
theorem z9f(h:SK wb W g gs rate sd c s u n bs K)(I:n<=86)(o:(u:Int)+8024<=c)(b:List UInt8)(q:b.length<=4611686018427387903)(ex:Int)
  {cs:Array Value}(L:List Ev)(m:cs=(q5N L).toArray)(G:L.length<=1000000)(E:q3g L)(r: ∀e∈L,e.we<18446744073709551616){z:Int}(J:z4V bs b ex L=z):
  Calls Tryz.prog 38 #[.pointer (some ⟨gs,0,none⟩),.string ⟨b.toArray⟩,.int .i64 ex,.slice (some ⟨W.heap.size,0,none⟩) L.length L.length] (W.alloc (.cells cs 67)) fun e w'=>e= .returned (.tuple #[.int .i64 (if z=0 then((q0N bs b).length:Int) else 0),.int .i64 z])/\
   SK wb w' g gs rate sd c s (u+2024) (n+1) (if z=0 then bs++[⟨b,(q0N bs b).length,L⟩] else bs) K/\Stay K W w':=by
 subst m;have F:=Blk.new W 67 (q5N L).toArray;have B:=q0B W (.cells (q5N L).toArray 67);have D:SK wb (W.alloc (.cells (q5N L).toArray 67)) g gs rate sd c s u n bs (fun i=>K i\/i=W.heap.size):=h.more B fun i d=>by
  rcases d with d|d
  ·exact .inl d
  ·exact .inr ⟨by omega,by rw[ρ];omega⟩
 refine(D.append I b q ex (L:=L) (fun W' _ q=>by
  have:=(F.same (q _ (.inr rfl))).evs (k:=L.length) (ι _) G
  rwa [List.take_length] at this) E r J).mono ?_
 rintro e w' ⟨x,y,C,rfl,k1,M,j⟩;have l:Stay K W w':=fun i d=>(M i (.inl d)).trans (B.block i (h.klt i d))
 rcases j with⟨j,rfl,rfl,rfl⟩|⟨_,_,_,_,j⟩|⟨rfl,rfl,rfl,rfl⟩
 ·rw[κ j,κ j]
  exact⟨rfl,k1.beside fun i d=> .inl d,l⟩
 ·omega
 ·rw[ξ rfl,ξ rfl]
  exact⟨rfl,k1.beside fun i d=> .inl d,l⟩
end
abbrev sta :Bt:=⟨[126,102],0,[q6L 2]⟩
theorem y3F :q6L 2=⟨[97,116],[50],0⟩:=by unfold q6L;rw[show(2:Int).toNat=2 from rfl,Lib.decDigits_one (by decide)];rfl
theorem y3r :z2t [st1] [102] [115]=0:=by decide
theorem y3s :z5V [st1] [102]=0:=by decide
theorem y3t :q3y [st1] [115] 0 1=[⟨[115],0,evA⟩]:=rfl
theorem y3u :q3y [st1] [115] 1 9=[⟨[115],1,z9z⟩]:=rfl
theorem y3v :q3y [st1] [115] 2 9=[]:=rfl
theorem y3h :z4V [st1] [126,102] (-1) [q6L 2]=0:=by rw[y3F];decide
theorem y3m :q8T [50]=some 2:=numU_iff.2 ⟨by rw[Lib.decDigits_one (by decide)];rfl,by decide⟩
theorem y3w :z2t [st1,sta] [102] [115]=0:=by
 unfold z2t;rw[κ (by decide),κ (by decide),ξ];show(decide ((q6L 2).ty=[97,116])&&(q8T (q6L 2).da).isSome)=true;rw[y3F,y3m];rfl
theorem y3x :z5V [st1,sta] [102]=2:=by
 unfold z5V;rw[κ (by decide)];show(((q8T (q6L 2).da).getD 0:Nat):Int)=2;rw[y3F,y3m];rfl
theorem y3i :z2t [st1,sta] [102] [126,102]=2:=by unfold z2t;rw[ξ (.inr (.inr (.inr rfl)))]
theorem q8n(w:World)(hw:SbW w):Calls Tryz.prog 44 #[] w fun e w'=>e= .returned (.bool true)/\Ext w w':=by
 have V:=η hw;have HO:=η (q8w 0 0 0 w (by decide) (by decide));clear hw;go_enter Tryz.func44,Tryz.ntmps44;go_wp2_with fail;refine HO.o.mono ?_;rintro e w1 ⟨g,gs,rfl,d⟩;have I:=η (z9f d (by omega) (by decide) [115] (by decide) (-1) [evA,z9z] rfl (by decide) (z9h (by decide)) (by decide) y3z);clear d HO;go_wp2_with fail;refine I.o.mono ?_;rintro e w2 ⟨rfl,d,_⟩;rw[ξ trivial,show([]++[(⟨[115],(q0N [] [115]).length,[evA,z9z]⟩:Bt)])=[st1] from rfl] at d;have r:=η (q6E d (by omega) [102] [115] (by decide) (by decide) V.o);clear d I;go_wp2_with fail;refine r.o.mono ?_;rintro e w3 ⟨_,_,⟨j,_⟩|⟨_,gu,rfl,b,_,X,d⟩⟩
 ·exact absurd y3r j
 have HK:=η (d.beside (K':=fun i=>i=gu) fun i b=> .inr b);have HI:Hd (SubI w3 gu gs [115] [126,102] 0 (-1) 0):=η (by rw[show z5V [st1] [102]=0 from y3s] at b;exact b);have U:=η X;have E:=η (q8E HK.o (by omega) rfl U.o HI.o (by decide) (by decide) (by decide) 1);rw[show q3y [st1] [115] 0 1=_ from y3t] at E;clear b X d r;go_wp2_with fail;refine E.o.mono ?_;rintro e w4 ⟨x1,rfl,d,l,y,F,b⟩;obtain⟨va,vc,rfl⟩:=q0G y;have b0:=η (d.beside (K':=fun i=>i=gu) fun i b=> .inl b);have Z:=η b;have m:=η (q8E b0.o (by omega) rfl U.o Z.o (by decide) (by decide) (by decide) 9);rw[show q3y [st1] [115] (0+(([(⟨[115],0,evA⟩:To)].length:Nat):Int)) 9=_ from y3u] at m;clear d l y F b E;go_wp2_with fail;refine m.o.mono ?_;rintro e Y ⟨x2,rfl,d,l,y,F,b⟩;obtain⟨vb,vd,rfl⟩:=q0G y;obtain⟨D,x⟩: ∃D:Nat->Prop,(fun i=>i=gu\/(Value.slice vb [(⟨[115],1,z9z⟩:To)].length vd).ownBlock=some i)=D:=⟨_,rfl⟩
 rw[x] at d;have HR:Hd (∀W,(∀i,D i->i≠gu->W.heap[i]? =Y.heap[i]?)->Tos W vb 1 vd [(⟨[115],1,z9z⟩:To)]):=η fun W kk=>(q5b (q0z y fun i b=>kk i (by rw[<-x];exact .inr b) fun e=>F gu rfl (by rw[<-e];exact b))).1
 have HG:Hd (D gu):=η (by rw[<-x];exact .inl rfl);have c0:=η d;have a0:=η b;have q:=η (q8E c0.o (by omega) HG.o U.o a0.o (by decide) (by decide) (by decide) 9);rw[show q3y [st1] [115] (0+(([(⟨[115],0,evA⟩:To)].length:Nat):Int)+(([(⟨[115],1,z9z⟩:To)].length:Nat):Int)) 9=_ from y3v] at q;clear d l y F b m x;go_wp2_with fail;refine q.o.mono ?_;rintro e w6 ⟨x3,rfl,d,l,y,F,b⟩;obtain⟨vg,vh,rfl⟩:=q0G y;have R:=η (d.beside (K':=D) fun i b=> .inl b);have N:Hd (SubI w6 gu gs [115] [126,102] 0 (-1) 2):=η b;have f0:Hd (∀i,D i->i≠gu->w6.heap[i]? =Y.heap[i]?):=η fun i b j=>l i ⟨b,j⟩
 have J:=η (z2u N.o);have G:=η (z9k R.o (by omega) (by decide) HG.o U.o N.o (by decide) (by decide) (by decide) (V.o.ext R.o.base));clear d l y F b q;go_wp2_with fail;refine J.o.mono ?_;rintro e w7 ⟨rfl,rfl⟩;go_wp2_with fail;refine G.o.mono ?_;rintro e w8 ⟨rfl,d,l,b⟩;have e1:z3J [st1] [126,102] 0 (-1) 2=0:=by unfold z3J;rw[κ (by decide)];exact y3h
 have e2:z5n [st1] [126,102] 0 (-1) 2=[st1,sta]:=by unfold z5n;rw[κ (by decide),ξ y3h];rfl
 have e3:z5m [st1] [126,102] 0 (-1) 2=2:=by unfold z5m;rw[ξ e1]
 rw[e2] at d;rw[e3] at b;rw[e1];have e0:=η d;have g0:Hd (∀i,D i->i≠gu->w8.heap[i]? =Y.heap[i]?):=η fun i b j=>(l i ⟨b,j⟩).trans (f0.o i b j)
 have B:=η (z2u b);clear e1 e2 e3 d l b G J;go_wp2_with fail;refine B.o.mono ?_;rintro e w9 ⟨rfl,rfl⟩;have r:=η (q6E e0.o (by omega) [102] [115] (by decide) (by decide) V.o);clear B;go_wp2_with fail;refine r.o.mono ?_;rintro e j0 ⟨_,l,⟨j,_⟩|⟨_,gv,rfl,b,_,X,d⟩⟩
 ·exact absurd y3w j
 rw[y3x] at b;have M:=η b;have S:Hd (∀i,D i->i≠gu->j0.heap[i]? =Y.heap[i]?):=η fun i b j=>(l i b).trans (g0.o i b j)
 have O:=η d;have C:=η (q6E O.o (by omega) [102] [126,102] (by decide) (by decide) V.o);clear b l X d r;go_wp2_with fail;refine C.o.mono ?_;rintro e k0 ⟨hx,l,⟨_,rfl,_⟩|⟨h0,_⟩⟩
 rotate_left
 ·rw[y3i] at h0;cases h0
 have HX:=η hx;have i0:=η (z1d (M.o.same (l gv (.inr rfl))));obtain⟨bb,off,rfl,d0,d1,d2,d3,d4⟩:=(HR.o k0 (fun i b j=>(l i (.inl b)).trans (S.o i b j))).at (i:=0) (by decide);simp only[List.getD_cons_zero,Nat.zero_mul,Nat.add_zero] at d0 d1 d2 d3 d4;rw[y3i];clear hx l d0 d2 d3 d4 C;go_wp2_with fail;refine i0.o.mono ?_;rintro e l0 ⟨rfl,rfl⟩;go_wp2_with fail;go_ret;exact⟨rfl,HX.o⟩
theorem q3G(y:Nat)(d:y<4294967296)(x:Int): ∃k:Nat,k<=y/\bits .and .i64 x (y:Int)=(k:Int):=by
 have b:(BitVec.ofInt 64 (y:Int)).toNat=y:=by rw[BitVec.toNat_ofInt];omega
 have h:(BitVec.ofInt 64 x&&&BitVec.ofInt 64 (y:Int)).toNat<=y:=by
  rw[BitVec.toNat_and];exact Ω Nat.and_le_right (Nat.le_of_eq b)
 have e:bits .and .i64 x (y:Int)=IntKind.i64.wrap (((BitVec.ofInt 64 x&&&BitVec.ofInt 64 (y:Int)).toNat:Nat):Int):=rfl;refine⟨(BitVec.ofInt 64 x&&&BitVec.ofInt 64 (y:Int)).toNat,h,?_⟩;rw[e,ν];omega
theorem z9V{l r:List Value}{j:Nat}{u:Value}(h:l[j]? =some u):(l++r)[j]? =some u:=by
 have:=(List.getElem?_eq_some_iff.1 h).1;rw[List.getElem?_append_left this];exact h
theorem q4G{W:World}{b:Nat}{tx:List UInt8}(h:Blk W b 67 #[.string ⟨#[116]⟩,.string ⟨tx.toArray⟩,.float .f64 0,.string ⟨#[117]⟩,.string ⟨#[]⟩,.float .f64 0])(k:Nat)(l:k<=2):
  Evs W (some ⟨b,0,none⟩) k 2 (([⟨[116],tx,0⟩,⟨[117],[],0⟩]:List Ev).take k):=by
 have he: ∀a b:List Ev,q5N (a++b)=q5N a++q5N b:=fun a b=>by unfold q5N;rw[List.map_append,List.flatten_append]
 refine⟨by rw[Θ];show min k 2=k;omega,l,by omega,(fun h=>by cases h),fun j u d=>⟨b,0,rfl,?_⟩⟩;rw[Nat.zero_add,h.cell j];show(List.toArray (q5N [⟨[116],tx,0⟩,⟨[117],[],0⟩]))[j]? =some u;rw[List.getElem?_toArray,<-List.take_append_drop k ([⟨[116],tx,0⟩,⟨[117],[],0⟩]:List Ev),he];exact z9V d
theorem z0G(b d b1 b2:ByteArray)(j b3:Nat)(w:World):(Instr.buildSlice 40 2 #[(0,.agg #[.string b,.string d,.float .f64 j]),(1,.agg #[.string b1,.string b2,.float .f64 b3])]).run Tryz.prog w
  = .ok (.slice (some ⟨w.heap.size,0,none⟩) 2 2) (w.alloc (.cells #[.string b,.string d,.float .f64 j,.string b1,.string b2,.float .f64 b3] 67)):=by
 kernel_rfl
def y3K :Op->Bool
 | .buildSlice .. =>true
 |_=>false
theorem q3i{w:World}{o:Oper}{a:Act}(h:y3K o.op=true)(k:wpList P ops Q (o::rest) a w):wpList P ops Q (o::rest) a w:=k
theorem q5F{w:World}{o:Oper}{a:Act}(b:o.guard=none)(t:TypeId)(m q:Operand)
  (y:o.op= .buildSlice t 2 #[(0,m),(1,q)])(j l:Value)(r:a.eval m=j)(x:a.eval q=l)
  (d:Value)(w':World)(B:(Instr.buildSlice t 2 #[(0,j),(1,l)]).run P w= .ok d w')(h:wpList P ops Q rest (a.put o.dst d) w'):wpList P ops Q (o::rest) a w:=
 wpList_plain b fun _ hK=>by
  unfold Oper.wp execOp;simp only[y,Sem.run_bind,Sem.run_pure,Result.andThen_ok,List.map_toArray,List.map_cons,List.map_nil,r,x,B];exact hK _ _ h
theorem z6f(bs:List Bt){t k:Int}(l:0<=t)(j:1<=k)(b:i<(q3y bs [115] t k).length):((q3y bs [115] t k).getD i to0).s=[115]/\((q3y bs [115] t k).getD i to0).v=t+(i:Int):=by
 have d:q2M [115] t k=0:=κ (by rintro(h|h|h);cases h;omega;omega);rw[z3g d] at b⊢;rw[Θ,List.length_drop,q2N] at b;have e:(((q5Y bs [115]).drop t.toNat).take k.toNat).getD i to0=(q5Y bs [115]).getD (t.toNat+i) to0:=by
  rw[δ,δ,List.getElem?_take,ξ (by omega),List.getElem?_drop]
 rw[e];unfold q5Y;rw[q7y _ _ _ _ (by omega)];exact⟨rfl,by show((0+(t.toNat+i):Nat):Int)=_;omega⟩
theorem SAX.base{W:World}{g:Nat}{sd s:Int}{u n:Nat}{bs:List Bt}{a:Int}{X:Nat->Prop}(h:SAX W0 W g sd s u n bs a X):Ext W0 W:=by
 obtain⟨⟨m,B,C,P,⟨st,σ,φ,F,d,j,b,l⟩,_⟩,_⟩:=h;exact b.ext
theorem z9i{W:World}{g gs rate:Nat}{sd:Int}(h:SK W0 W g gs rate sd 1048576 0 0 0 [] noI):SAO W0 W g gs rate sd 0 0 0 [] 0 noI:=⟨h,by decide,rfl,AllI.start⟩
theorem suball_c{ao:Option Addr}{n cap:Nat}{A:List Ac3}(sd:Int)(rate:Nat)(u0:Int)(w:World)(hw:SbW w)(I:As3 w ao n cap A)(p2:0<=sd)(s2:sd<18446744073709551616):
  Calls Tryz.prog 10 #[.slice ao n cap,.agg #[.int .u64 sd,.float .f64 rate,.int .u16 u0]] w fun e w'=>e= .returned (.bool true)/\Ext w w':=by
 have L0:=q0B w (.cells #[.int .u64 sd,.float .f64 rate,.int .u16 u0] 27);have F0:=Blk.new w 27 #[.int .u64 sd,.float .f64 rate,.int .u16 u0];have HG:=η (z6l 50 _ (I.ext L0));have HX:=η L0;have i1:=η F0;have HA:=η (I.ext L0);have HW:=η (fun W (k:Ext w W)=>hw.ext k);have A2:=I.len;have G2:=I.fits;have H2:=I.bound;obtain⟨z,Y⟩: ∃z,q6k A 50=z:=⟨_,rfl⟩
 rw[Y] at HG;clear I L0 F0 hw;go_enter Tryz.func10,Tryz.ntmps10;go_wp2_with fail;refine HG.o.mono ?_;rintro e w1 ⟨rfl,I⟩;have w0:=η (HX.o.trans I);have Q0:=η (i1.o.ext I);have d1:=η (HA.o.ext I);clear I HG i1 HA HX
 cases z with
 | true=>
  go_wp2_with fail;refine(q8n w1 (HW.o _ w0.o)).mono ?_;rintro e w2 ⟨rfl,I⟩;have e2:=η (w0.o.trans I);clear I;go_wp2_with fail;go_ret;exact⟨rfl,e2.o⟩
 | false =>
  have G0:=z5I (most:=50) Y;have Y1:=η G0.2;have C2:n<=50:=by have:=G0.1;omega
  have K0:=Q0.o;have k0:=K0.cell 0;have k1:=K0.cell 1;have k2:=K0.cell 2;have HO:=η (q8w sd rate u0 w1 p2 s2);have E0:=η (HW.o _ w0.o);clear G0 Y K0;go_wp2_with fail;refine HO.o.mono ?_;rintro e d3 ⟨g,j2,rfl,hk⟩;have R0:=η ((z9i hk).sub_c (by omega) E0.o);obtain⟨w2,R1⟩: ∃w2,w2=w1:=⟨_,rfl⟩
  rw[<-R1] at R0 d1 Q0 w0 E0;clear hk HO k0 k1 k2 R1;go_wp2_with fail;refine R0.o.mono ?_;rintro e w3 ⟨l2,rfl,⟨v0,h3⟩,_⟩;have H3:=η h3;clear h3 R0;go_wp2_with fail
  go_loopw [6,8,10,11] (fun p6 p8 u2 oi W=> ∃(gs gu j u m k0:Nat) (s a v t:Int) (bs:List Bt),p6= .pointer (some ⟨gs,0,none⟩)/\p8= .pointer (some ⟨gu,0,none⟩)/\u2= .int .i64 a/\oi= .int .i64 (j:Int)/\j<=n/\u<=2024*j/\m<=j/\(0<=s/\s<=j)/\SAI w2 W g gs gu rate sd s u m bs k0 a v t noI) (fun _ _ _ i _=>n-(intOf i).toNat)
  case atStart=>exact⟨j2,l2,0,0,0,_,0,0,_,0,_,rfl,rfl,rfl,rfl,υ _,ι _,ι _,⟨Int.le_refl _,Int.le_refl _⟩,H3.o⟩
  case round =>
   obtain⟨gs,gu,j,u,m,kk,s,a,v,t,bs,rfl,rfl,rfl,rfl,hj,hu,hm,hs,Q1⟩:=hrel;have S0:=η Q1;clear Q1;by_cases L1:j<n
   ·have hd : decide ((j:Int)<(n:Int))=true:=ζ (by omega)
    have L2:(j:Int)<(n:Int):=by omega
    have q8:IntKind.i64.wrap ((j:Int)+1)=(j:Int)+1:=by rw[ν];omega
    obtain⟨b0,off,rfl,c0,c1,c2,c3,H0⟩:=(d1.o.ext S0.o.base).at L1;have G0:=Y1.o (A.getD j a30) (z5l (by omega));generalize A.getD j a30=x at*;obtain⟨kd,wh,xn,tx⟩:=x;simp only at c0 c1 c2 c3 G0;have o1:=H0.k0;have o2:=H0.k1;have o5:=H0.n0;have o6:=H0.n1;simp only at o1 o2 o5 o6;clear H0;obtain⟨q,hq⟩: ∃q,wr.heap.size=q:=⟨_,rfl⟩
    have M:=q0B wr (.cells #[.int .u8 kd,.int .u8 wh,.int .i64 xn,.string ⟨tx.toArray⟩] 114);have X0:=Blk.new wr 114 #[.int .u8 kd,.int .u8 wh,.int .i64 xn,.string ⟨tx.toArray⟩];rw[hq] at X0;have g0:=η X0;obtain⟨X,hX⟩: ∃X:Nat->Prop,(fun i=>i=q)=X:=⟨_,rfl⟩
    have E1:X q:=by rw[<-hX]
    have x0:=η E1;have b:=η (S0.o.more (X':=X) M fun i l=> .inr (by rw[<-hX] at l;rw[ρ];omega))
    have X1:Hd (∀(W:World) (gs gu u' m' k':Nat) (s' a' v' t':Int) (T0:List Bt),u'<=u+2024->m'<=m+1->0<=s'/\s'<=s+1->SAI w2 W g gs gu rate sd s' u' m' T0 k' a' v' t' X->
      ∃(y0 z0 j1 u m k0:Nat) (s a v t:Int) (bs:List Bt),Value.pointer (some ⟨gs,0,none⟩)= .pointer (some ⟨y0,0,none⟩)/\Value.pointer (some ⟨gu,0,none⟩)= .pointer (some ⟨z0,0,none⟩)/\Value.int .i64 a'= .int .i64 a/\Value.int .i64 ((j:Int)+1)= .int .i64 (j1:Int)/\j1<=n/\u<=2024*j1/\m<=j1/\(0<=s/\s<=j1)/\SAI w2 W g y0 z0 rate sd s u m bs k0 a v t noI):=
     η fun W gs gu u' m' k' s' a' v' t' T0 h1 h2 h3 G=>⟨gs,gu,j+1,u',m',k',s',a',v',t',T0,rfl,rfl,rfl,by go_num,by omega,by omega,by omega,by omega,G.more (Ext.refl _) fun i l=>l.elim⟩
    have B2:m<=50:=by omega
    have D2:u<=101200:=by omega
    have P1:0<=s/\s<=50:=by omega
    obtain⟨wA,b1⟩: ∃wA,wr.alloc (.cells #[.int .u8 kd,.int .u8 wh,.int .i64 xn,.string ⟨tx.toArray⟩] 114)=wA:=⟨_,rfl⟩
    rw[b1] at M g0 b;have A1:=η b1;have HQ:=η hq;obtain⟨zz,U1⟩: ∃zz:Int,kd % 11=zz:=⟨_,rfl⟩
    have E2:0<=zz/\zz<11:=by omega
    have x2:Int.tmod kd 11=zz:=by rw[Int.tmod_eq_emod_of_nonneg (by omega)];exact U1
    have e3:IntKind.u8.wrap zz=zz:=by rw[IntKind.wrap_u8];omega
    clear M X0 hq hX E1 b1 U1
    go_upto_block 2 with fail
    rw[A1.o,HQ.o];clear c0 c1 c2 c3 A1 HQ
    go_cut [6,8,10,13,14,15,16,17,18,19,20,21,22,23,24] from 60 to 248 (fun s6 s8 v2 P2 Q2 R2 S2 T2 U2 V2 W2 X2 Y2 Z2 a3 W=> ∃(y0 z0 u1 m1 k1:Nat) (s1 a1 v1 t1:Int) (B1:List Bt),s6= .pointer (some ⟨y0,0,none⟩)/\s8= .pointer (some ⟨z0,0,none⟩)/\v2= .int .i64 a1/\u1<=u+2024/\m1<=m+1/\(0<=s1/\s1<=s+1)/\SAI w2 W g y0 z0 rate sd s1 u1 m1 B1 k1 a1 v1 t1 X)
    case first =>
     clear x2;have r0:=g0.o.cell 0;have r2:=g0.o.cell 2;have r3:=g0.o.cell 3;rcases(show zz=0\/zz=1\/zz=2\/zz=3\/zz=4\/zz=5\/zz=6\/zz=7\/zz=8\/zz=9\/zz=10 by omega) with Y|Y|Y|Y|Y|Y|Y|Y|Y|Y|Y
     ·subst Y
      as_aux_lemma=>
       obtain⟨nn,Y0,f0⟩:=q3G 1 (by decide) xn
       replace f0:bits .and .i64 xn 1=(nn:Int):=f0
       obtain⟨n1,s0⟩: ∃n1,nn+1=n1:=⟨_,rfl⟩
       have q1:IntKind.i64.wrap (1+(nn:Int))=(n1:Int):=by rw[ν];omega
       have q2:(n1:Int)<=2:=by omega
       have q3:(0:Int)<=(n1:Int):=by omega
       have D:=q0B wA (.cells #[.string ⟨#[116]⟩,.string ⟨tx.toArray⟩,.float .f64 0,.string ⟨#[117]⟩,.string ⟨#[]⟩,.float .f64 0] 67);have m0:=η (Blk.new wA 67 #[.string ⟨#[116]⟩,.string ⟨tx.toArray⟩,.float .f64 0,.string ⟨#[117]⟩,.string ⟨#[]⟩,.float .f64 0]);have o0:=η (b.o.more (X':=fun i=>X i\/i=wA.heap.size) D fun i l=>l.imp id fun e=>by rw[e,ρ];omega);obtain⟨LL,J⟩: ∃LL,([⟨[116],tx,0⟩,⟨[117],[],0⟩]:List Ev).take n1=LL:=⟨_,rfl⟩
       have B: ∀e∈LL,e.ty.length<=300/\e.da.length<=300/\e.we<18446744073709551616:=fun e he=>by
        rw[<-J] at he;have:=List.mem_of_mem_take he;simp only[List.mem_cons,List.not_mem_nil,or_false] at this;rcases this with rfl|rfl<;>exact⟨by simp,by first|(simp only;omega)|simp,by simp⟩
       have HA:=η (o0.o.app_c (by omega) (ao:=some ⟨wA.heap.size,0,none⟩) (m:=n1) (cap:=2) (L:=LL) (fun W h1 h2=>by rw[<-J];exact q4G (m0.o.same (h2 _ (.inr rfl))) n1 (by omega)) (fun e he=>by have:=B e he;exact⟨by omega,by omega⟩) fun e he=>(B e he).2.2);have y2:=q0A D r2;clear J B D s0
       go_wp2_with (refine q3i rfl ?_;refine q5F rfl 40 (.tmp 68) (.tmp 69) rfl (.agg #[.string ⟨#[116]⟩,.string ⟨tx.toArray⟩,.float .f64 0]) (.agg #[.string ⟨#[117]⟩,.string ⟨#[]⟩,.float .f64 0]) rfl rfl _ _ (z0G _ _ _ _ _ _ _) ?_)
       refine HA.o.mono ?_;rintro e w4 ⟨⟨x,y,rfl⟩,⟨U0,G⟩,_⟩;have H4:=η (G.more (Ext.refl _) (X':=X) fun i l=> .inl (.inl l));clear G HA;go_wp2_with fail
       go_meet
       case rel=>exact⟨_,_,u+2024,m+1,_,s,_,_,_,_,rfl,rfl,rfl,by omega,by omega,by omega,H4.o⟩
     ·subst Y
      as_aux_lemma=>
       obtain⟨nn,Y0,f0⟩:=q3G 1 (by decide) xn
       replace f0:bits .and .i64 xn 1=(nn:Int):=f0
       obtain⟨n1,s0⟩: ∃n1,nn+1=n1:=⟨_,rfl⟩
       have q1:IntKind.i64.wrap (1+(nn:Int))=(n1:Int):=by rw[ν];omega
       have q2:(n1:Int)<=2:=by omega
       have q3:(0:Int)<=(n1:Int):=by omega
       have D:=q0B wA (.cells #[.string ⟨#[116]⟩,.string ⟨tx.toArray⟩,.float .f64 0,.string ⟨#[117]⟩,.string ⟨#[]⟩,.float .f64 0] 67);have m0:=η (Blk.new wA 67 #[.string ⟨#[116]⟩,.string ⟨tx.toArray⟩,.float .f64 0,.string ⟨#[117]⟩,.string ⟨#[]⟩,.float .f64 0]);have o0:=η (b.o.more (X':=fun i=>X i\/i=wA.heap.size) D fun i l=>l.imp id fun e=>by rw[e,ρ];omega);obtain⟨LL,J⟩: ∃LL,([⟨[116],tx,0⟩,⟨[117],[],0⟩]:List Ev).take n1=LL:=⟨_,rfl⟩
       have B: ∀e∈LL,e.ty.length<=300/\e.da.length<=300/\e.we<18446744073709551616:=fun e he=>by
        rw[<-J] at he;have:=List.mem_of_mem_take he;simp only[List.mem_cons,List.not_mem_nil,or_false] at this;rcases this with rfl|rfl<;>exact⟨by simp,by first|(simp only;omega)|simp,by simp⟩
       have HA:=η (o0.o.app_c (by omega) (ao:=some ⟨wA.heap.size,0,none⟩) (m:=n1) (cap:=2) (L:=LL) (fun W h1 h2=>by rw[<-J];exact q4G (m0.o.same (h2 _ (.inr rfl))) n1 (by omega)) (fun e he=>by have:=B e he;exact⟨by omega,by omega⟩) fun e he=>(B e he).2.2);have y2:=q0A D r2;clear J B D s0
       go_wp2_with (refine q3i rfl ?_;refine q5F rfl 40 (.tmp 68) (.tmp 69) rfl (.agg #[.string ⟨#[116]⟩,.string ⟨tx.toArray⟩,.float .f64 0]) (.agg #[.string ⟨#[117]⟩,.string ⟨#[]⟩,.float .f64 0]) rfl rfl _ _ (z0G _ _ _ _ _ _ _) ?_)
       refine HA.o.mono ?_;rintro e w4 ⟨⟨x,y,rfl⟩,⟨U0,G⟩,_⟩;have H4:=η (G.more (Ext.refl _) (X':=X) fun i l=> .inl (.inl l));clear G HA;go_wp2_with fail
       go_meet
       case rel=>exact⟨_,_,u+2024,m+1,_,s,_,_,_,_,rfl,rfl,rfl,by omega,by omega,by omega,H4.o⟩
     ·subst Y
      as_aux_lemma=>
       obtain⟨nn,Y0,f0⟩:=q3G 1 (by decide) xn
       replace f0:bits .and .i64 xn 1=(nn:Int):=f0
       obtain⟨n1,s0⟩: ∃n1,nn+1=n1:=⟨_,rfl⟩
       have q1:IntKind.i64.wrap (1+(nn:Int))=(n1:Int):=by rw[ν];omega
       have q2:(n1:Int)<=2:=by omega
       have q3:(0:Int)<=(n1:Int):=by omega
       have D:=q0B wA (.cells #[.string ⟨#[116]⟩,.string ⟨tx.toArray⟩,.float .f64 0,.string ⟨#[117]⟩,.string ⟨#[]⟩,.float .f64 0] 67);have m0:=η (Blk.new wA 67 #[.string ⟨#[116]⟩,.string ⟨tx.toArray⟩,.float .f64 0,.string ⟨#[117]⟩,.string ⟨#[]⟩,.float .f64 0]);have o0:=η (b.o.more (X':=fun i=>X i\/i=wA.heap.size) D fun i l=>l.imp id fun e=>by rw[e,ρ];omega);obtain⟨LL,J⟩: ∃LL,([⟨[116],tx,0⟩,⟨[117],[],0⟩]:List Ev).take n1=LL:=⟨_,rfl⟩
       have B: ∀e∈LL,e.ty.length<=300/\e.da.length<=300/\e.we<18446744073709551616:=fun e he=>by
        rw[<-J] at he;have:=List.mem_of_mem_take he;simp only[List.mem_cons,List.not_mem_nil,or_false] at this;rcases this with rfl|rfl<;>exact⟨by simp,by first|(simp only;omega)|simp,by simp⟩
       have HA:=η (o0.o.app_c (by omega) (ao:=some ⟨wA.heap.size,0,none⟩) (m:=n1) (cap:=2) (L:=LL) (fun W h1 h2=>by rw[<-J];exact q4G (m0.o.same (h2 _ (.inr rfl))) n1 (by omega)) (fun e he=>by have:=B e he;exact⟨by omega,by omega⟩) fun e he=>(B e he).2.2);have y2:=q0A D r2;clear J B D s0
       go_wp2_with (refine q3i rfl ?_;refine q5F rfl 40 (.tmp 68) (.tmp 69) rfl (.agg #[.string ⟨#[116]⟩,.string ⟨tx.toArray⟩,.float .f64 0]) (.agg #[.string ⟨#[117]⟩,.string ⟨#[]⟩,.float .f64 0]) rfl rfl _ _ (z0G _ _ _ _ _ _ _) ?_)
       refine HA.o.mono ?_;rintro e w4 ⟨⟨x,y,rfl⟩,⟨U0,G⟩,_⟩;have H4:=η (G.more (Ext.refl _) (X':=X) fun i l=> .inl (.inl l));clear G HA;go_wp2_with fail
       go_meet
       case rel=>exact⟨_,_,u+2024,m+1,_,s,_,_,_,_,rfl,rfl,rfl,by omega,by omega,by omega,H4.o⟩
     ·subst Y
      as_aux_lemma=>
       obtain⟨nn,Y0,f0⟩:=q3G 1 (by decide) xn
       replace f0:bits .and .i64 xn 1=(nn:Int):=f0
       obtain⟨n1,s0⟩: ∃n1,nn+1=n1:=⟨_,rfl⟩
       have q1:IntKind.i64.wrap (1+(nn:Int))=(n1:Int):=by rw[ν];omega
       have q2:(n1:Int)<=2:=by omega
       have q3:(0:Int)<=(n1:Int):=by omega
       have D:=q0B wA (.cells #[.string ⟨#[116]⟩,.string ⟨tx.toArray⟩,.float .f64 0,.string ⟨#[117]⟩,.string ⟨#[]⟩,.float .f64 0] 67);have m0:=η (Blk.new wA 67 #[.string ⟨#[116]⟩,.string ⟨tx.toArray⟩,.float .f64 0,.string ⟨#[117]⟩,.string ⟨#[]⟩,.float .f64 0]);have o0:=η (b.o.more (X':=fun i=>X i\/i=wA.heap.size) D fun i l=>l.imp id fun e=>by rw[e,ρ];omega);obtain⟨LL,J⟩: ∃LL,([⟨[116],tx,0⟩,⟨[117],[],0⟩]:List Ev).take n1=LL:=⟨_,rfl⟩
       have B: ∀e∈LL,e.ty.length<=300/\e.da.length<=300/\e.we<18446744073709551616:=fun e he=>by
        rw[<-J] at he;have:=List.mem_of_mem_take he;simp only[List.mem_cons,List.not_mem_nil,or_false] at this;rcases this with rfl|rfl<;>exact⟨by simp,by first|(simp only;omega)|simp,by simp⟩
       have HA:=η (o0.o.app_c (by omega) (ao:=some ⟨wA.heap.size,0,none⟩) (m:=n1) (cap:=2) (L:=LL) (fun W h1 h2=>by rw[<-J];exact q4G (m0.o.same (h2 _ (.inr rfl))) n1 (by omega)) (fun e he=>by have:=B e he;exact⟨by omega,by omega⟩) fun e he=>(B e he).2.2);have y2:=q0A D r2;clear J B D s0
       go_wp2_with (refine q3i rfl ?_;refine q5F rfl 40 (.tmp 68) (.tmp 69) rfl (.agg #[.string ⟨#[116]⟩,.string ⟨tx.toArray⟩,.float .f64 0]) (.agg #[.string ⟨#[117]⟩,.string ⟨#[]⟩,.float .f64 0]) rfl rfl _ _ (z0G _ _ _ _ _ _ _) ?_)
       refine HA.o.mono ?_;rintro e w4 ⟨⟨x,y,rfl⟩,⟨U0,G⟩,_⟩;have H4:=η (G.more (Ext.refl _) (X':=X) fun i l=> .inl (.inl l));clear G HA;go_wp2_with fail
       go_meet
       case rel=>exact⟨_,_,u+2024,m+1,_,s,_,_,_,_,rfl,rfl,rfl,by omega,by omega,by omega,H4.o⟩
     ·subst Y
      as_aux_lemma=>
       obtain⟨y3,J0,i0⟩:=q3G 3 (by decide) xn
       replace i0:bits .and .i64 xn 3=(y3:Int):=i0
       obtain⟨k,hk⟩: ∃k:Int,(y3:Int)+1=k:=⟨_,rfl⟩
       have qk:IntKind.i64.wrap (1+(y3:Int))=k:=by rw[ν];omega
       have d0:1<=k:=by omega
       have K1:k<=4:=by omega
       have S:=b.o.few;have j0:=b.o.t0;have l0:=b.o.al.ts;have HT:=η b.o.told_c;have HN:=η (b.o.next_c (by omega) d0);have O:=(q6T bs j0 d0 l0).2;have Z:=η (fun (i:Nat) (l:i<(q3y bs [115] t k).length)=>z6f bs j0 d0 l);obtain⟨R,hR⟩: ∃R,q3y bs [115] t k=R:=⟨_,rfl⟩
       rw[hR] at HN O Z;obtain⟨N,hN⟩: ∃N,R.length=N:=⟨_,rfl⟩
       rw[hN] at HN O Z;obtain⟨E,hE⟩: ∃E,(q0N bs [115]).length=E:=⟨_,rfl⟩
       have C0:=η hN;have B0:=η hE;rw[hE] at O S l0;have q3:min k ((E:Int)-t)=(N:Int):=by omega
       have D1:0<=(N:Int)/\(N:Int)<=4:=by omega
       clear hR hN hE J0 hk O;go_wp2_with fail;refine HT.o.mono ?_;rintro e w4 ⟨rfl,rfl⟩;go_wp2_with fail;refine HN.o.mono ?_;rintro e w5 ⟨x,rfl,h5,V,C,_⟩;obtain⟨xa,xc,rfl⟩:=q0G C;have A0:=η (g0.o.same (V q x0.o));have hL:=h5.last_c (by omega);rw[B0.o] at hL;have HL:=η hL;have h0:=η C;have M: ∀i,(Value.slice xa N xc).ownBlock=some i->X i\/(Value.slice xa N xc).ownBlock=some i:=fun i l=> .inr l
       have q0:=η M;clear h5 V C hL HN HT M;go_wp2_with fail;refine HL.o.mono ?_;rintro e w6 ⟨rfl,h6,F⟩;have r:=q0z h0.o fun i l=>F i (q0.o i l)
       have D0:=η (show Tos w6 xa N xc R from(q5b (n:=N) (L:=R) (by rw[C0.o];exact r)).1);have H6:=η h6;have p0:=η h6.told_c;have y2:=(A0.o.same (F q (.inl x0.o))).cell 2;have q1:IntKind.i64.wrap ((E:Int)-1+1)=(E:Int):=by rw[ν];omega
       have q2:IntKind.i64.wrap ((E:Int)-t)=(E:Int)-t:=by rw[ν];omega
       have q4:max (N:Int) 0=(N:Int):=by omega
       have q5:IntKind.i64.wrap (t+(N:Int))=t+(N:Int):=by rw[ν];omega
       have N0:((N:Int) !=(N:Int))=false:=by simp
       have O0:(t+(N:Int) !=t+(N:Int))=false:=by simp
       clear h6 F r HL h0;go_wp2_with fail;refine p0.o.mono ?_;rintro e w7 ⟨rfl,rfl⟩;go_wp2_with fail
       go_loopw [18] (fun i W=> ∃d:Nat,d<=N/\i= .int .i64 (d:Int)/\Ext w6 W) (fun i _=>N-(intOf i).toNat)
       case atStart=>exact⟨0,υ _,rfl,Ext.refl _⟩
       case round=>
        obtain⟨d,hd,rfl,I⟩:=hrel;have HX:=η I;by_cases U:d<N
        ·have hdd:decide ((d:Int)<(N:Int))=true:=ζ (by omega)
         have I1:(d:Int)<(N:Int):=by omega
         have q6:IntKind.i64.wrap ((d:Int)+1)=(d:Int)+1:=by rw[ν];omega
         have q7:IntKind.i64.wrap (t+(d:Int))=t+(d:Int):=by rw[ν];omega
         obtain⟨f1,f2⟩:=Z.o d U;obtain⟨xb,xo,rfl,c0,c1,_⟩:=(D0.o.ext I).at U;rw[f1] at c0;rw[f2] at c1
         replace c0:wr.cell? ⟨xb,xo+d*5,none⟩=some (.string ⟨#[115]⟩):=c0
         have P0:(t+(d:Int) !=t+(d:Int))=false:=by simp
         clear f1 f2 I;go_wp2_with fail
         go_roundw
         case rel=>exact⟨d+1,by omega,by go_num,HX.o⟩
         case measure=>simp[intOf];omega
        ·obtain rfl:d=N:=by omega
         have hdd:decide ((d:Int)<(d:Int))=false:=ε (by omega);have H8:=η (H6.o.more (X':=X) I fun i l=> .inl (.inl l));clear I;go_wp2_with fail
         go_meet
         case rel=>exact⟨_,_,u,m,_,s,_,_,_,_,rfl,rfl,rfl,by omega,by omega,by omega,H8.o⟩
     ·subst Y
      as_aux_lemma=>
       obtain⟨y3,J0,i0⟩:=q3G 3 (by decide) xn
       replace i0:bits .and .i64 xn 3=(y3:Int):=i0
       obtain⟨k,hk⟩: ∃k:Int,(y3:Int)+1=k:=⟨_,rfl⟩
       have qk:IntKind.i64.wrap (1+(y3:Int))=k:=by rw[ν];omega
       have d0:1<=k:=by omega
       have K1:k<=4:=by omega
       have S:=b.o.few;have j0:=b.o.t0;have l0:=b.o.al.ts;have HT:=η b.o.told_c;have HN:=η (b.o.next_c (by omega) d0);have O:=(q6T bs j0 d0 l0).2;have Z:=η (fun (i:Nat) (l:i<(q3y bs [115] t k).length)=>z6f bs j0 d0 l);obtain⟨R,hR⟩: ∃R,q3y bs [115] t k=R:=⟨_,rfl⟩
       rw[hR] at HN O Z;obtain⟨N,hN⟩: ∃N,R.length=N:=⟨_,rfl⟩
       rw[hN] at HN O Z;obtain⟨E,hE⟩: ∃E,(q0N bs [115]).length=E:=⟨_,rfl⟩
       have C0:=η hN;have B0:=η hE;rw[hE] at O S l0;have q3:min k ((E:Int)-t)=(N:Int):=by omega
       have D1:0<=(N:Int)/\(N:Int)<=4:=by omega
       clear hR hN hE J0 hk O;go_wp2_with fail;refine HT.o.mono ?_;rintro e w4 ⟨rfl,rfl⟩;go_wp2_with fail;refine HN.o.mono ?_;rintro e w5 ⟨x,rfl,h5,V,C,_⟩;obtain⟨xa,xc,rfl⟩:=q0G C;have A0:=η (g0.o.same (V q x0.o));have hL:=h5.last_c (by omega);rw[B0.o] at hL;have HL:=η hL;have h0:=η C;have M: ∀i,(Value.slice xa N xc).ownBlock=some i->X i\/(Value.slice xa N xc).ownBlock=some i:=fun i l=> .inr l
       have q0:=η M;clear h5 V C hL HN HT M;go_wp2_with fail;refine HL.o.mono ?_;rintro e w6 ⟨rfl,h6,F⟩;have r:=q0z h0.o fun i l=>F i (q0.o i l)
       have D0:=η (show Tos w6 xa N xc R from(q5b (n:=N) (L:=R) (by rw[C0.o];exact r)).1);have H6:=η h6;have p0:=η h6.told_c;have y2:=(A0.o.same (F q (.inl x0.o))).cell 2;have q1:IntKind.i64.wrap ((E:Int)-1+1)=(E:Int):=by rw[ν];omega
       have q2:IntKind.i64.wrap ((E:Int)-t)=(E:Int)-t:=by rw[ν];omega
       have q4:max (N:Int) 0=(N:Int):=by omega
       have q5:IntKind.i64.wrap (t+(N:Int))=t+(N:Int):=by rw[ν];omega
       have N0:((N:Int) !=(N:Int))=false:=by simp
       have O0:(t+(N:Int) !=t+(N:Int))=false:=by simp
       clear h6 F r HL h0;go_wp2_with fail;refine p0.o.mono ?_;rintro e w7 ⟨rfl,rfl⟩;go_wp2_with fail
       go_loopw [18] (fun i W=> ∃d:Nat,d<=N/\i= .int .i64 (d:Int)/\Ext w6 W) (fun i _=>N-(intOf i).toNat)
       case atStart=>exact⟨0,υ _,rfl,Ext.refl _⟩
       case round=>
        obtain⟨d,hd,rfl,I⟩:=hrel;have HX:=η I;by_cases U:d<N
        ·have hdd:decide ((d:Int)<(N:Int))=true:=ζ (by omega)
         have I1:(d:Int)<(N:Int):=by omega
         have q6:IntKind.i64.wrap ((d:Int)+1)=(d:Int)+1:=by rw[ν];omega
         have q7:IntKind.i64.wrap (t+(d:Int))=t+(d:Int):=by rw[ν];omega
         obtain⟨f1,f2⟩:=Z.o d U;obtain⟨xb,xo,rfl,c0,c1,_⟩:=(D0.o.ext I).at U;rw[f1] at c0;rw[f2] at c1
         replace c0:wr.cell? ⟨xb,xo+d*5,none⟩=some (.string ⟨#[115]⟩):=c0
         have P0:(t+(d:Int) !=t+(d:Int))=false:=by simp
         clear f1 f2 I;go_wp2_with fail
         go_roundw
         case rel=>exact⟨d+1,by omega,by go_num,HX.o⟩
         case measure=>simp[intOf];omega
        ·obtain rfl:d=N:=by omega
         have hdd:decide ((d:Int)<(d:Int))=false:=ε (by omega);have H8:=η (H6.o.more (X':=X) I fun i l=> .inl (.inl l));clear I;go_wp2_with fail
         go_meet
         case rel=>exact⟨_,_,u,m,_,s,_,_,_,_,rfl,rfl,rfl,by omega,by omega,by omega,H8.o⟩
     ·subst Y
      as_aux_lemma=>
       obtain⟨y3,J0,i0⟩:=q3G 3 (by decide) xn
       replace i0:bits .and .i64 xn 3=(y3:Int):=i0
       obtain⟨k,hk⟩: ∃k:Int,(y3:Int)+1=k:=⟨_,rfl⟩
       have qk:IntKind.i64.wrap (1+(y3:Int))=k:=by rw[ν];omega
       have d0:1<=k:=by omega
       have K1:k<=4:=by omega
       have S:=b.o.few;have j0:=b.o.t0;have l0:=b.o.al.ts;have HT:=η b.o.told_c;have HN:=η (b.o.next_c (by omega) d0);have O:=(q6T bs j0 d0 l0).2;have Z:=η (fun (i:Nat) (l:i<(q3y bs [115] t k).length)=>z6f bs j0 d0 l);obtain⟨R,hR⟩: ∃R,q3y bs [115] t k=R:=⟨_,rfl⟩
       rw[hR] at HN O Z;obtain⟨N,hN⟩: ∃N,R.length=N:=⟨_,rfl⟩
       rw[hN] at HN O Z;obtain⟨E,hE⟩: ∃E,(q0N bs [115]).length=E:=⟨_,rfl⟩
       have C0:=η hN;have B0:=η hE;rw[hE] at O S l0;have q3:min k ((E:Int)-t)=(N:Int):=by omega
       have D1:0<=(N:Int)/\(N:Int)<=4:=by omega
       clear hR hN hE J0 hk O;go_wp2_with fail;refine HT.o.mono ?_;rintro e w4 ⟨rfl,rfl⟩;go_wp2_with fail;refine HN.o.mono ?_;rintro e w5 ⟨x,rfl,h5,V,C,_⟩;obtain⟨xa,xc,rfl⟩:=q0G C;have A0:=η (g0.o.same (V q x0.o));have hL:=h5.last_c (by omega);rw[B0.o] at hL;have HL:=η hL;have h0:=η C;have M: ∀i,(Value.slice xa N xc).ownBlock=some i->X i\/(Value.slice xa N xc).ownBlock=some i:=fun i l=> .inr l
       have q0:=η M;clear h5 V C hL HN HT M;go_wp2_with fail;refine HL.o.mono ?_;rintro e w6 ⟨rfl,h6,F⟩;have r:=q0z h0.o fun i l=>F i (q0.o i l)
       have D0:=η (show Tos w6 xa N xc R from(q5b (n:=N) (L:=R) (by rw[C0.o];exact r)).1);have H6:=η h6;have p0:=η h6.told_c;have y2:=(A0.o.same (F q (.inl x0.o))).cell 2;have q1:IntKind.i64.wrap ((E:Int)-1+1)=(E:Int):=by rw[ν];omega
       have q2:IntKind.i64.wrap ((E:Int)-t)=(E:Int)-t:=by rw[ν];omega
       have q4:max (N:Int) 0=(N:Int):=by omega
       have q5:IntKind.i64.wrap (t+(N:Int))=t+(N:Int):=by rw[ν];omega
       have N0:((N:Int) !=(N:Int))=false:=by simp
       have O0:(t+(N:Int) !=t+(N:Int))=false:=by simp
       clear h6 F r HL h0;go_wp2_with fail;refine p0.o.mono ?_;rintro e w7 ⟨rfl,rfl⟩;go_wp2_with fail
       go_loopw [18] (fun i W=> ∃d:Nat,d<=N/\i= .int .i64 (d:Int)/\Ext w6 W) (fun i _=>N-(intOf i).toNat)
       case atStart=>exact⟨0,υ _,rfl,Ext.refl _⟩
       case round=>
        obtain⟨d,hd,rfl,I⟩:=hrel;have HX:=η I;by_cases U:d<N
        ·have hdd:decide ((d:Int)<(N:Int))=true:=ζ (by omega)
         have I1:(d:Int)<(N:Int):=by omega
         have q6:IntKind.i64.wrap ((d:Int)+1)=(d:Int)+1:=by rw[ν];omega
         have q7:IntKind.i64.wrap (t+(d:Int))=t+(d:Int):=by rw[ν];omega
         obtain⟨f1,f2⟩:=Z.o d U;obtain⟨xb,xo,rfl,c0,c1,_⟩:=(D0.o.ext I).at U;rw[f1] at c0;rw[f2] at c1
         replace c0:wr.cell? ⟨xb,xo+d*5,none⟩=some (.string ⟨#[115]⟩):=c0
         have P0:(t+(d:Int) !=t+(d:Int))=false:=by simp
         clear f1 f2 I;go_wp2_with fail
         go_roundw
         case rel=>exact⟨d+1,by omega,by go_num,HX.o⟩
         case measure=>simp[intOf];omega
        ·obtain rfl:d=N:=by omega
         have hdd:decide ((d:Int)<(d:Int))=false:=ε (by omega);have H8:=η (H6.o.more (X':=X) I fun i l=> .inl (.inl l));clear I;go_wp2_with fail
         go_meet
         case rel=>exact⟨_,_,u,m,_,s,_,_,_,_,rfl,rfl,rfl,by omega,by omega,by omega,H8.o⟩
     ·subst Y
      as_aux_lemma=>
       have HF:=η b.o.flush_c;go_wp2_with fail;refine HF.o.mono ?_;rintro e w4 ⟨rfl,G,_⟩;have HA:=η (G.ack_c (by omega) (by omega) (E0.o.ext G.base));clear G HF;go_wp2_with fail;refine HA.o.mono ?_;rintro e w5 ⟨rfl,⟨C1,v5,h5⟩,_⟩;have HF:=η h5.flush_c;clear h5 HA;go_wp2_with fail;refine HF.o.mono ?_;rintro e w6 ⟨rfl,h6,_⟩;have H6:=η h6;have p0:=η h6.told_c;have g1:=η h6.at_c;have Z0:(t !=t)=false:=by simp
       clear h6 HF;go_wp2_with fail;refine g1.o.mono ?_;rintro e w7 ⟨rfl,rfl⟩;go_wp2_with fail;refine p0.o.mono ?_;rintro e w8 ⟨rfl,rfl⟩;go_wp2_with fail;refine g1.o.mono ?_;rintro e w9 ⟨rfl,rfl⟩;go_wp2_with fail
       go_meet
       case rel=>exact⟨_,_,u+2024,m+1,_,s,_,_,_,_,rfl,rfl,rfl,by omega,by omega,by omega,H6.o⟩
     ·subst Y
      as_aux_lemma=>
       have HB:=η b.o.back_c;go_wp2_with fail;refine HB.o.mono ?_;rintro e w4 ⟨rfl,G,_⟩;have H4:=η G;have a2:=η G.told_c;have V1:=η G.at_c;have Z0:(a !=a)=false:=by simp
       clear G HB;go_wp2_with fail;refine a2.o.mono ?_;rintro e w5 ⟨rfl,rfl⟩;go_wp2_with fail;refine V1.o.mono ?_;rintro e w6 ⟨rfl,rfl⟩;go_wp2_with fail
       go_meet
       case rel=>exact⟨_,_,u,m,_,s,_,_,_,_,rfl,rfl,rfl,by omega,by omega,by omega,H4.o⟩
     ·subst Y
      as_aux_lemma=>
       obtain⟨z1,N2,F0⟩:=q3G 255 (by decide) xn;obtain⟨z2,O2,G1⟩:=q3G 63 (by decide) xn
       replace F0:bits .and .i64 xn 255=(z1:Int):=F0
       replace G1:bits .and .i64 xn 63=(z2:Int):=G1
       have D:=q0B wA (.cells #[.int .i64 (z1:Int),.int .i64 (z2:Int),.int .i64 7] 3);have y2:=q0A D r2;have J1:Ints (wA.alloc (.cells #[.int .i64 (z1:Int),.int .i64 (z2:Int),.int .i64 7] 3)) (some ⟨wA.heap.size,0,none⟩) 3 3 [(z1:Int),(z2:Int),7]:=Ints.lit wA [(z1:Int),(z2:Int),7] 3 3 rfl (by omega);have m2:a<=1073741824:=by have h1:=b.o.few;have h2:=b.o.al.as2;omega
       have HC:=η ((b.o.more (X':=fun i=>X i\/i=wA.heap.size) D fun i l=>l.imp id fun e=>by rw[e,ρ];omega).crash_c J1 fun a e=>by cases e;exact .inr rfl);clear D J1;go_wp2_with fail;refine HC.o.mono ?_;rintro e w4 ⟨rfl,G,_⟩;have p1:=η (G.start_c ⟨P1.1,by omega⟩ m2);clear G HC;go_wp2_with fail;refine p1.o.mono ?_;rintro e w5 ⟨rfl,⟨C1,h5⟩,_⟩;have V0:=Q0.o.ext h5.base;have e0:=V0.cell 0;have e1:=V0.cell 1;have HO:=η (h5.open_c (by omega) (by omega) rate);clear h5 p1 V0;go_wp2_with fail;refine HO.o.mono ?_;rintro e w6 ⟨I2,rfl,h6,_⟩;have r1:=η (h6.sub_c (by omega) E0.o);clear h6 HO e0 e1;go_wp2_with fail;refine r1.o.mono ?_;rintro e w7 ⟨J2,rfl,⟨v7,h7⟩,_⟩;have l1:=η (h7.last_c (by omega));clear h7 r1;go_wp2_with fail;refine l1.o.mono ?_;rintro e w8 ⟨rfl,h8,_⟩;have H8:=η h8;have b2:=η h8.told_c;have W1:=η h8.at_c;have S:=h8.few;have F1:=h8.al.as2;have Z0:(a !=a)=false:=by simp
       obtain⟨E,hE⟩: ∃E,(q0N C1 [115]).length=E:=⟨_,rfl⟩
       rw[hE] at S F1;have q1:IntKind.i64.wrap ((E:Int)-1+1)=(E:Int):=by rw[ν];omega
       have q2:decide ((E:Int)<a)=false:=ε (by omega);clear h8 l1
       try rw[hE]
       clear hE;go_wp2_with fail;refine W1.o.mono ?_;rintro e w9 ⟨rfl,rfl⟩;go_wp2_with fail;refine b2.o.mono ?_;rintro e b3 ⟨rfl,rfl⟩;go_wp2_with fail
       go_meet
       case rel=>exact⟨_,_,u,m,_,s+1,_,_,_,_,rfl,rfl,rfl,by omega,by omega,by omega,H8.o.more (Ext.refl _) fun i l=> .inl (.inl l)⟩
     ·subst Y
      as_aux_lemma=>
       go_wp2_with fail
       go_meet
       case rel=>exact⟨_,_,u,m,_,s,_,_,_,_,rfl,rfl,rfl,by omega,by omega,by omega,b.o⟩
    case rest=>
     as_aux_lemma=>
      obtain⟨y0,z0,u1,m1,k1,s1,a1,v1,t1,B1,rfl,rfl,rfl,t2,n2,N1,h1⟩:=hcut;have H1:=η h1;have M0:=η h1.at_c;have x1:=η h1.told_c;have M2:decide (t1<a1)=false:=ε (by have:=h1.al.at_;omega);have Z0:(a1 !=a1)=false:=by simp
      clear h1;go_wp2_with fail;refine M0.o.mono ?_;rintro e w4 ⟨rfl,rfl⟩;go_wp2_with fail;refine x1.o.mono ?_;rintro e w5 ⟨rfl,rfl⟩;go_wp2_with fail;refine M0.o.mono ?_;rintro e w6 ⟨rfl,rfl⟩;go_wp2_with fail
      go_roundw
      case rel=>exact X1.o _ _ _ _ _ _ _ _ _ _ _ t2 n2 N1 H1.o
      case measure=>simp[intOf];omega
   ·obtain rfl:j=n:=by omega
    as_aux_lemma=>
     have hd:decide ((j:Int)<(j:Int))=false:=ε (by omega);have g0:=η S0.o.back_c;clear L1;go_wp2_with fail;refine g0.o.mono ?_;rintro e w4 ⟨rfl,G,_⟩;have M1:=(q6T bs G.al.a0 (k:=1048576) (by omega) G.al.as2).1;have K2:=G.al.a0;have F1:=G.al.as2;have S:=G.few;have Z1:=η M1;have HN:=η (G.next_c (by omega) (k:=1048576) (by omega));clear G g0 M1;go_wp2_with fail;refine HN.o.mono ?_;rintro e w5 ⟨x,rfl,h5,_,C,_⟩;obtain⟨xa,xc,rfl⟩:=q0G C;have HF:=η (h5.sk.forward (by omega) [115] (by decide) a 1048576 (by omega) (by omega));have h0:=η C;have M: ∀i,(Value.slice xa (q3y bs [115] a 1048576).length xc).ownBlock=some i->noI i\/(Value.slice xa (q3y bs [115] a 1048576).length xc).ownBlock=some i:=fun i l=> .inr l
     have q0:=η M;clear h5 C HN M;go_wp2_with fail;refine HF.o.mono ?_;rintro e w6 ⟨v6,rfl,h6,O1,r,_⟩;rw[Z1.o];obtain⟨ya,yc,rfl⟩:=q0G r;have I0:=q0z h0.o fun i l=>O1 i (.inl (q0.o i l))
     have d2:=η (y1c w6 (q5b I0).1 (q5b r).1);have g2:=η h6.base;have F2:=η w0.o;clear h6 O1 r I0 HF;go_wp2_with fail;refine d2.o.mono ?_;rintro e w7 ⟨rfl,S1⟩;have y1:=η (g2.o.trans S1);clear S1;go_wp2_with fail;refine(q8n w7 (E0.o.ext y1.o)).mono ?_;rintro e w8 ⟨rfl,T1⟩;have i2:=η (w0.o.trans (y1.o.trans T1));clear T1;go_wp2_with fail;go_ret;exact⟨rfl,i2.o⟩
end
end Go.Proofs.YtfiibpgoplcgkaaGreatDoor
