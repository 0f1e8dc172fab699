/- Walks. -/
import Derived.Test.YtjigghjfcbbkiaaGreatDoorG37SN
import Derived.Test.YtjigghjfcbbkiaaGreatDoorG38SN
set_option linter.unusedVariables false
set_option linter.unusedSimpArgs false
set_option maxRecDepth 100000
set_option maxHeartbeats 12800000
namespace Go.Proofs.YtjigghjfcbbkiaaGreatDoor
section
open Go.RowKit
section
variable {wb w W W':World}{g gs gu rate u n:Nat}{sd c s a v t:Int}{bs:List Bt}{K K':Nat->Prop}{st own:List UInt8}{p:Option Addr}
theorem q3W{P:Prop}{i g:Nat}:P->(P/\i≠g)\/i=g:=fun h=>by
 by_cases e:i=g
 ·exact .inr e
 ·exact .inl ⟨h,e⟩
theorem q7L(h:SK wb w g gs rate sd c s u n bs K)(o:n<=1000)(m:K gu)(l:wb.heap.size<=gu)(b:SubI w gu gs st own a v t)(q:st.length<=4611686018427387903)(d:0<=t)(j:t<=2147483648)(k:Int):
  Calls Tryz.prog 40 #[.pointer (some ⟨gu,0,none⟩),.int .i64 k] w fun e w'=> ∃x,e= .returned (.tuple #[x,.int .i64 (q2L st t k)])/\
   SK wb w' g gs rate sd c s u n bs (fun i=>K i\/x.ownBlock=some i)/\Stay (fun i=>K i/\i≠gu) w w'/\w'.ownsRow wb.heap.size 57 5 x (q7Z bs st t k).length (q3u (q7Z bs st t k))/\(∀i,K i->x.ownBlock≠some i)/\
   SubI w' gu gs st own a v (t+((q7Z bs st t k).length:Int)):=by
 have hq: ∀i,((K i/\i≠gu)\/i=gu)↔K i:=fun i=>⟨fun h=>h.elim And.left fun e=>by rw[e];exact m,q3W⟩
 refine(z6F (K:=fun i=>K i/\i≠gu) (h.beside fun i b=>(hq i).1 b) o (fun h=>h.2 rfl) l b q d j k).mono ?_;rintro e w' ⟨x,rfl,r,y,B,C,D⟩;exact⟨x,rfl,r.beside fun i b=>b.imp q3W id,y,B,fun i b=>C i (q3W b),D⟩
theorem z8B(h:SK wb w g gs rate sd c s u n bs K)(q:n<=86)(b:(u:Int)+8024<=c)(o:K gu)(m:wb.heap.size<=gu)(d:SubI w gu gs st own a v t)(r:own.length<=4611686018427387903)(j:0<=t)(l:t<=1073741825)(x:SbW w):
  Calls Tryz.prog 41 #[.pointer (some ⟨gu,0,none⟩)] w fun e w'=>e= .returned (.int .i64 (z6X bs own a v t))/\
   SK wb w' g gs rate sd c s (u+2024) (n+1) (z8Z bs own a v t) K/\Stay (fun i=>K i/\i≠gu) w w'/\SubI w' gu gs st own (z8K bs own a v t) (z9y bs own a v t) t:=by
 have hq: ∀i,((K i/\i≠gu)\/i=gu)↔K i:=fun i=>⟨fun h=>h.elim And.left fun e=>by rw[e];exact o,q3W⟩
 refine(z8A (K:=fun i=>K i/\i≠gu) (h.beside fun i d=>(hq i).1 d) q b (fun h=>h.2 rfl) m d r j l x).mono ?_;rintro e w' ⟨rfl,y,B,C⟩;exact⟨rfl,y.beside fun i d=>q3W d,B,C⟩
theorem z7w(h:SK wb W g gs rate sd c s u n bs K)(J:n<=86)(o:(u:Int)+8024<=c)(b:List UInt8)(q:b.length<=4611686018427387903)(ex:Int)
  {cs:Array Value}(L:List Ev)(m:cs=(q5a L).toArray)(I:L.length<=1000000)(F:q3i L)(r: ∀e∈L,e.we<18446744073709551616){z:Int}(M:z4S bs b ex L=z):
  Calls Tryz.prog 38 #[.pointer (some ⟨gs,0,none⟩),.string ⟨b.toArray⟩,.int .i64 ex,.slice (some ⟨W.heap.size,0,none⟩) L.length L.length] (W.alloc (.cells cs 42)) fun e w'=>e= .returned (.tuple #[.int .i64 (if z=0 then((q0S bs b).length:Int) else 0),.int .i64 z])/\
   SK wb w' g gs rate sd c s (u+2024) (n+1) (if z=0 then bs++[⟨b,(q0S bs b).length,L⟩] else bs) K/\Stay K W w':=by
 subst m;have G:=Blk.new W 42 (q5a L).toArray;have B:=q0B W (.cells (q5a L).toArray 42);have E:SK wb (W.alloc (.cells (q5a L).toArray 42)) g gs rate sd c s u n bs (fun i=>K i\/i=W.heap.size):=h.more B fun i d=>by
  rcases d with d|d
  ·exact .inl d
  ·exact .inr ⟨by omega,by rw[ρ];omega⟩
 refine(E.append J b q ex (L:=L) (fun W' _ q=>by
  have:=(G.same (q _ (.inr rfl))).evs (k:=L.length) (ι _) I
  rwa [List.take_length] at this) F r M).mono ?_
 rintro e w' ⟨x,y,D,rfl,C,N,j⟩;have l:Stay K W w':=fun i d=>(N i (.inl d)).trans (B.block i (h.klt i d))
 rcases j with⟨j,rfl,rfl,rfl⟩|⟨_,_,_,_,j⟩|⟨rfl,rfl,rfl,rfl⟩
 ·rw[κ j,κ j]
  exact⟨rfl,C.beside fun i d=> .inl d,l⟩
 ·omega
 ·rw[ξ rfl,ξ rfl]
  exact⟨rfl,C.beside fun i d=> .inl d,l⟩
end
abbrev sta :Bt:=⟨[126,102],0,[z0i 2]⟩
theorem y1K :z0i 2=⟨[97,116],[50],0⟩:=by unfold z0i;rw[show(2:Int).toNat=2 from rfl,Lib.decDigits_one (by decide)];rfl
theorem y1v :z0Q [st1] [102] [115]=0:=by decide
theorem y1w :z4O [st1] [102]=0:=by decide
theorem y1x :q7Z [st1] [115] 0 1=[⟨[115],0,evA⟩]:=rfl
theorem y1y :q7Z [st1] [115] 1 9=[⟨[115],1,z8M⟩]:=rfl
theorem y1z :q7Z [st1] [115] 2 9=[]:=rfl
theorem y1i :z4S [st1] [126,102] (-1) [z0i 2]=0:=by rw[y1K];decide
theorem y1n :q4l [50]=some 2:=numU_iff.2 ⟨by rw[Lib.decDigits_one (by decide)];rfl,by decide⟩
theorem y2A :z0Q [st1,sta] [102] [115]=0:=by
 unfold z0Q;rw[κ (by decide),κ (by decide),ξ];show(decide ((z0i 2).ty=[97,116])&&(q4l (z0i 2).da).isSome)=true;rw[y1K,y1n];rfl
theorem y2B :z4O [st1,sta] [102]=2:=by
 unfold z4O;rw[κ (by decide)];show(((q4l (z0i 2).da).getD 0:Nat):Int)=2;rw[y1K,y1n];rfl
theorem y1j :z0Q [st1,sta] [102] [126,102]=2:=by unfold z0Q;rw[ξ (.inr (.inr (.inr rfl)))]
theorem q7s(w:World)(hw:SbW w):Calls Tryz.prog 44 #[] w fun e w'=>e= .returned (.bool true)/\Ext w w':=by
 have U:=η hw;have HO:=η (z3u 0 0 0 w (by decide) (by decide));clear hw;go_enter Tryz.func44,Tryz.ntmps44;go_wp2_with fail;refine HO.o.mono ?_;rintro e w1 ⟨g,gs,rfl,d⟩;have I:=η (z7w d (by omega) (by decide) [115] (by decide) (-1) [evA,z8M] rfl (by decide) (z7x (by decide)) (by decide) y2E);clear d HO;go_wp2_with fail;refine I.o.mono ?_;rintro e w2 ⟨rfl,d,_⟩;rw[ξ trivial,show([]++[(⟨[115],(q0S [] [115]).length,[evA,z8M]⟩:Bt)])=[st1] from rfl] at d;have r:=η (q7M d (by omega) [102] [115] (by decide) (by decide) U.o);clear d I;go_wp2_with fail;refine r.o.mono ?_;rintro e w3 ⟨_,_,⟨j,_⟩|⟨_,gu,rfl,b,_,V,d⟩⟩
 ·exact absurd y1v j
 have HK:=η (d.beside (K':=fun i=>i=gu) fun i b=> .inr b);have HI:Hd (SubI w3 gu gs [115] [126,102] 0 (-1) 0):=η (by rw[show z4O [st1] [102]=0 from y1w] at b;exact b);have S:=η V;have E:=η (q7L HK.o (by omega) rfl S.o HI.o (by decide) (by decide) (by decide) 1);rw[show q7Z [st1] [115] 0 1=_ from y1x] at E;clear b V d r;go_wp2_with fail;refine E.o.mono ?_;rintro e w4 ⟨x1,rfl,d,l,y,F,b⟩;obtain⟨va,vc,rfl⟩:=q0H y;have a0:=η (d.beside (K':=fun i=>i=gu) fun i b=> .inl b);have Y:=η b;have m:=η (q7L a0.o (by omega) rfl S.o Y.o (by decide) (by decide) (by decide) 9);rw[show q7Z [st1] [115] (0+(([(⟨[115],0,evA⟩:To)].length:Nat):Int)) 9=_ from y1y] at m;clear d l y F b E;go_wp2_with fail;refine m.o.mono ?_;rintro e X ⟨x2,rfl,d,l,y,F,b⟩;obtain⟨vb,vd,rfl⟩:=q0H y;obtain⟨D,x⟩: ∃D:Nat->Prop,(fun i=>i=gu\/(Value.slice vb [(⟨[115],1,z8M⟩:To)].length vd).ownBlock=some i)=D:=⟨_,rfl⟩
 rw[x] at d;have HR:Hd (∀W,(∀i,D i->i≠gu->W.heap[i]? =X.heap[i]?)->Tos W vb 1 vd [(⟨[115],1,z8M⟩:To)]):=η fun W kk=>(q9J (q1A y fun i b=>kk i (by rw[<-x];exact .inr b) fun e=>F gu rfl (by rw[<-e];exact b))).1
 have HG:Hd (D gu):=η (by rw[<-x];exact .inl rfl);have b0:=η d;have Z:=η b;have q:=η (q7L b0.o (by omega) HG.o S.o Z.o (by decide) (by decide) (by decide) 9);rw[show q7Z [st1] [115] (0+(([(⟨[115],0,evA⟩:To)].length:Nat):Int)+(([(⟨[115],1,z8M⟩:To)].length:Nat):Int)) 9=_ from y1z] at q;clear d l y F b m x;go_wp2_with fail;refine q.o.mono ?_;rintro e w6 ⟨x3,rfl,d,l,y,F,b⟩;obtain⟨vg,vh,rfl⟩:=q0H y;have Q:=η (d.beside (K':=D) fun i b=> .inl b);have N:Hd (SubI w6 gu gs [115] [126,102] 0 (-1) 2):=η b;have e0:Hd (∀i,D i->i≠gu->w6.heap[i]? =X.heap[i]?):=η fun i b j=>l i ⟨b,j⟩
 have J:=η (z6E N.o);have G:=η (z8B Q.o (by omega) (by decide) HG.o S.o N.o (by decide) (by decide) (by decide) (U.o.ext Q.o.base));clear d l y F b q;go_wp2_with fail;refine J.o.mono ?_;rintro e w7 ⟨rfl,rfl⟩;go_wp2_with fail;refine G.o.mono ?_;rintro e w8 ⟨rfl,d,l,b⟩;have e1:z6X [st1] [126,102] 0 (-1) 2=0:=by unfold z6X;rw[κ (by decide)];exact y1i
 have e2:z8Z [st1] [126,102] 0 (-1) 2=[st1,sta]:=by unfold z8Z;rw[κ (by decide),ξ y1i];rfl
 have e3:z8K [st1] [126,102] 0 (-1) 2=2:=by unfold z8K;rw[ξ e1]
 rw[e2] at d;rw[e3] at b;rw[e1];have c0:=η d;have f0:Hd (∀i,D i->i≠gu->w8.heap[i]? =X.heap[i]?):=η fun i b j=>(l i ⟨b,j⟩).trans (e0.o i b j)
 have B:=η (z6E b);clear e1 e2 e3 d l b G J;go_wp2_with fail;refine B.o.mono ?_;rintro e w9 ⟨rfl,rfl⟩;have r:=η (q7M c0.o (by omega) [102] [115] (by decide) (by decide) U.o);clear B;go_wp2_with fail;refine r.o.mono ?_;rintro e i0 ⟨_,l,⟨j,_⟩|⟨_,gv,rfl,b,_,V,d⟩⟩
 ·exact absurd y2A j
 rw[y2B] at b;have M:=η b;have R:Hd (∀i,D i->i≠gu->i0.heap[i]? =X.heap[i]?):=η fun i b j=>(l i b).trans (f0.o i b j)
 have O:=η d;have C:=η (q7M O.o (by omega) [102] [126,102] (by decide) (by decide) U.o);clear b l V d r;go_wp2_with fail;refine C.o.mono ?_;rintro e j0 ⟨hx,l,⟨_,rfl,_⟩|⟨h0,_⟩⟩
 rotate_left
 ·rw[y1j] at h0;cases h0
 have HX:=η hx;have g0:=η (z6H (M.o.same (l gv (.inr rfl))));obtain⟨bb,off,rfl,d0,d1,d2,d3,d4⟩:=(HR.o j0 (fun i b j=>(l i (.inl b)).trans (R.o i b j))).at (i:=0) (by decide);simp only[List.getD_cons_zero,Nat.zero_mul,Nat.add_zero] at d0 d1 d2 d3 d4;rw[y1j];clear hx l d0 d2 d3 d4 C;go_wp2_with fail;refine g0.o.mono ?_;rintro e k0 ⟨rfl,rfl⟩;go_wp2_with fail;go_ret;exact⟨rfl,HX.o⟩
def z1e(name st:List UInt8):Bool:=decide (name=[])||decide (31<name.length)||!q0u st||decide (st=126::name)
theorem sbad_iff{name st:List UInt8}:z1e name st=true↔(name=[]\/31<name.length\/q0u st=false\/st=126::name):=by
 unfold z1e;simp only[Bool.or_eq_true,Φ,Bool.not_eq_true',or_assoc]
theorem z3q(w:World)(name st:List UInt8)(h1:name.length<=4611686018427387903)(h2:st.length<=4611686018427387903):
  Calls Tryz.prog 39 #[.pointer none,.string ⟨name.toArray⟩,.string ⟨st.toArray⟩] w fun e w'=>e= .returned (.tuple #[.pointer none,.int .i64 (if z1e name st=true then 2 else 1)])/\Ext w w':=by
 have d0: ∀(fn:Fn) (first cap:Array Value) (w:World),(Instr.makeFunc fn first cap).run Tryz.prog w= .ok (.func fn first cap) w:=fun _ _ _ _=>rfl
 have R:(⟨#[126]⟩:ByteArray)++⟨name.toArray⟩=⟨(126::name).toArray⟩:=by rw[show(#[126]:Array UInt8)=[126].toArray from rfl,ByteArray.mk_append_mk];simp
 have l:=@sbad_iff name st;obtain⟨z,hz⟩: ∃z,z1e name st=z:=⟨_,rfl⟩
 rw[hz] at l⊢;obtain⟨q,hq⟩: ∃q:Int,(if z=true then(2:Int) else 1)=q:=⟨_,rfl⟩
 rw[hq];obtain⟨own,ho⟩: ∃own,126::name=own:=⟨_,rfl⟩
 rw[ho] at R l;have U:Hd ((name=[]\/31<name.length\/q0u st=false\/st=own)->q=2):=η fun h=>by rw[<-hq,ξ (l.2 h)]
 have b0:Hd (¬(name=[]\/31<name.length\/q0u st=false\/st=own)->q=1):=η fun h=>by rw[<-hq,κ (fun e=>h (l.1 e))]
 have hX:=q6j w (.cells #[.pointer none] 30) (.cells #[.pointer none,.string ⟨st.toArray⟩,.string ⟨own.toArray⟩,.int .i64 0,.int .i64 (-1),.int .i64 0] 101) (.cells #[.pointer (some ⟨w.heap.size+1,0,none⟩)] 95);obtain⟨w0,x⟩: ∃w0,((w.alloc (.cells #[.pointer none] 30)).alloc (.cells #[.pointer none,.string ⟨st.toArray⟩,.string ⟨own.toArray⟩,.int .i64 0,.int .i64 (-1),.int .i64 0] 101)).alloc (.cells #[.pointer (some ⟨w.heap.size+1,0,none⟩)] 95)=w0:=⟨_,rfl⟩
 rw[x] at hX;have N:Blk w0 w.heap.size 30 #[.pointer none]:=by rw[<-x];exact((Blk.new w _ _).ext (q0B _ _)).ext (q0B _ _)
 have Q:Blk w0 (w.heap.size+1) 101 #[.pointer none,.string ⟨st.toArray⟩,.string ⟨own.toArray⟩,.int .i64 0,.int .i64 (-1),.int .i64 0]:=by
  rw[<-x];have:=Blk.new (w.alloc (.cells #[.pointer none] 30)) 101 #[.pointer none,.string ⟨st.toArray⟩,.string ⟨own.toArray⟩,.int .i64 0,.int .i64 (-1),.int .i64 0];rw[ρ] at this;exact this.ext (q0B _ _)
 have O:Blk w0 (w.heap.size+1+1) 95 #[.pointer (some ⟨w.heap.size+1,0,none⟩)]:=by
  rw[<-x];have:=Blk.new ((w.alloc (.cells #[.pointer none] 30)).alloc (.cells #[.pointer none,.string ⟨st.toArray⟩,.string ⟨own.toArray⟩,.int .i64 0,.int .i64 (-1),.int .i64 0] 101)) 95 #[.pointer (some ⟨w.heap.size+1,0,none⟩)];rw[ρ,ρ] at this;exact this
 have F:=η x;have HX:=η hX;have V:=η N;have Y:=η Q;have X:=η O;have E:=η (q6O st w0 (by omega));clear N Q O hX x ho l hz hq;go_enter Tryz.func39,Tryz.ntmps39;by_cases m:name=[]
 ·have hd:(name==([]:List UInt8))=true:=by rw[m];rfl
  have j:=η (U.o (.inl m));clear m;go_wp2_with fail;go_ret2;rw[F.o];exact⟨by rw[j.o];rfl,HX.o⟩
 have hd:(name==([]:List UInt8))=false:=beq_eq_false_iff_ne.2 m;by_cases C:31<name.length
 ·have hl:decide ((31:Int)<(name.length:Int))=true:=ζ (by omega)
  have j:=η (U.o (.inr (.inl C)));clear m C;go_wp2_with fail;go_ret2;rw[F.o];exact⟨by rw[j.o];rfl,HX.o⟩
 have hl:decide ((31:Int)<(name.length:Int))=false:=ε (by omega);have Z:=η m;have a0:=η C;clear m C;go_wp2_with fail;rw[F.o];refine E.o.mono ?_;rintro e w1 ⟨rfl,B⟩;have G:=η (HX.o.trans B);have I:=η (V.o.ext B);have J:=η (Y.o.ext B);have D:=η (X.o.ext B);clear B E;obtain⟨vs,y⟩: ∃b,q0u st=b:=⟨_,rfl⟩
 rw[y]
 cases vs with
 | false=>
  have j:=η (U.o (.inr (.inr (.inl y))));clear y;go_wp2_with fail;go_ret2;exact⟨by rw[j.o];rfl,G.o⟩
 |true=>
 have c0:=η y;clear y;have kb:=D.o.cell 0;have kg:=J.o.cell 2;by_cases r:st=own
 ·have S:(st==own)=true:=by rw[r];exact beq_self_eq_true _
  have j:=η (U.o (.inr (.inr (.inr r))));clear r;go_wp2_with fail;go_ret2;exact⟨by rw[j.o];rfl,G.o⟩
 have S:(st==own)=false:=beq_eq_false_iff_ne.2 r
 have j:=η (b0.o (by
  rintro(h|h|h|h)
  ·exact Z.o h
  ·exact a0.o h
  ·rw[c0.o] at h;cases h
  ·exact r h))
 clear r;go_wp2_with fail;have M:Hd (w1.drew.cell? ⟨w.heap.size,0,none⟩=some (.pointer none)/\w1.drew.cell? ⟨w.heap.size+1+1,0,none⟩=some (.pointer (some ⟨w.heap.size+1,0,none⟩))/\w1.drew.cell? ⟨w.heap.size+1,2,none⟩=some (.string ⟨own.toArray⟩)):=η
  ⟨I.o.cell 0,D.o.cell 0,J.o.cell 2⟩
 clear kb kg hd hl R S;refine q1F (fun W:World=>(W.cell? ⟨w.heap.size,0,none⟩=some (.pointer none)/\W.cell? ⟨w.heap.size+1+1,0,none⟩=some (.pointer (some ⟨w.heap.size+1,0,none⟩))/\W.cell? ⟨w.heap.size+1,2,none⟩=some (.string ⟨own.toArray⟩))) 9 (by kernel_rfl) M.o (fun d=>?_);refine q2F 0 d (fun d=>?_)
 try simp only[Act.put,π,ψ,ω]
 refine q2F 1 d (fun d=>?_)
 try simp only[Act.put,π,ψ,ω]
 refine q0Q 2 d (fun d=>?_)
 try simp only[Act.put,π,ψ,ω]
 refine q0Q 3 d (fun d=>?_)
 try simp only[Act.put,π,ψ,ω]
 refine q2F 4 d (fun d=>?_)
 try simp only[Act.put,π,ψ,ω]
 refine q0U (i:=5) (by kernel_rfl) rfl (fun K9 hK=>?_)
 go_simp
 go_at_call 53
 refine(z9Q (.inl rfl) own).mono ?_;rintro e w2 ⟨rfl,rfl⟩;refine hK.out _ _ M.o (fun d=>?_);clear hK K9
 try simp only[Act.put,π,ψ,ω]
 refine q0Q 6 d (fun d=>?_)
 try simp only[Act.put,π,ψ,ω]
 refine q0Q 7 d (fun d=>?_)
 try simp only[Act.put,π,ψ,ω]
 refine q0Q 8 d (fun d=>?_)
 try simp only[Act.put,π,ψ,ω]
 refine q1Q (by kernel_rfl) ?_
 try simp only[List.drop_succ_cons,List.drop_zero]
 clear d;go_wp2_with fail;go_ret2;exact⟨by rw[j.o];rfl,G.o.trans (Ext.refl _).drew⟩
def y1q(W:World)(gv mb:Nat)(st own:List UInt8)(a v t:Int):Prop:=Blk W gv 114 #[.pointer (some ⟨mb,0,none⟩),.string ⟨st.toArray⟩,.string ⟨own.toArray⟩,.int .i64 a,.int .i64 v,.int .i64 t]
theorem numZ_neg{s:List UInt8}:(z0B s<0↔(q4l s).isSome=false):=by
 unfold z0B
 cases h:q4l s with
 |none=>simp
 |some n=>simp
theorem z5d{s:List UInt8}(h:(q4l s).isSome=true):z0B s=(((q4l s).getD 0:Nat):Int):=by
 unfold z0B
 cases hn:q4l s with
 |none=>rw[hn] at h;cases h
 |some n=>rfl
theorem z3z{w:World}{mb base:Nat}{vL vM:Value}{bs:List Bt}{ms:List Value}(h:MoI w mb base vL vM (tos bs) ms)(N:okBs bs)(K0:(tos bs).length<=100000)(name st:List UInt8)(h1:name.length<=4611686018427387903)(h2:st.length<=4611686018427387903):
  Calls Tryz.prog 46 #[.pointer (some ⟨mb,0,none⟩),.string ⟨name.toArray⟩,.string ⟨st.toArray⟩] w fun e w'=>Ext w w'/\
   ((z0Q bs name st≠0/\e= .returned (.tuple #[.pointer none,.int .i64 (z0Q bs name st)]))\/
   (z0Q bs name st=0/\ ∃gv,e= .returned (.tuple #[.pointer (some ⟨gv,0,none⟩),.int .i64 0])/\y1q w' gv mb st (126::name) (z4O bs name) (((q0S bs (126::name)).length:Int)-1) (z4O bs name)/\w.heap.size<=gv)):=by
 have w0:(⟨#[126]⟩:ByteArray)++⟨name.toArray⟩=⟨(126::name).toArray⟩:=by rw[show(#[126]:Array UInt8)=[126].toArray from rfl,ByteArray.mk_append_mk];simp
 have G: ∀e∈q0S bs (126::name),e.da.length<=1000000:=fun e he=>by
  obtain⟨l,I0,J0⟩:=List.mem_flatten.1 he;obtain⟨b,D0,rfl⟩:=List.mem_map.1 I0;have N:=N.each (List.mem_filter.1 D0).1;have:=(q1s (q4L (q0j N.1).2.2.2.2.2.2 _ J0)).2.2;omega
 obtain⟨own,ho⟩: ∃own,126::name=own:=⟨_,rfl⟩
 have L0:own.length=name.length+1:=by rw[<-ho];rfl
 obtain⟨zn,S⟩: ∃z,z0Q bs name st=z:=⟨_,rfl⟩
 obtain⟨an,I⟩: ∃z,z4O bs name=z:=⟨_,rfl⟩
 rw[S,I];unfold z0Q at S;unfold z4O at I;rw[ho] at S I w0 G⊢;have e0:=η (fun W (k:Ext w W)=>z5W (h.ext k) own K0);rw[q7K N] at e0;have hR:(q4n bs own).length=(q0S bs own).length:=q2O _ _;have H0:=q2o bs own;have D:Hd (∀len,(q0S bs own).length=len+1->(q4n bs own).getD len to0=⟨own,(len:Int),q8M bs own⟩/\(q8M bs own).da.length<=1000000):=η fun len hl=>by
  refine⟨?_,?_⟩
  ·unfold q4n
   rw[q7B own (q0S bs own) 0 len (by omega)];unfold q8M;rw[hl,Nat.zero_add];rfl
  ·refine G _ ?_
   unfold q8M;rw[δ,γ (by omega)];exact List.getElem_mem _
 have HZ:=η S;have HA:=η I;have HO:=η L0;have b0:=η (z1b st w (by omega));clear S I h N G;go_enter Tryz.func46,Tryz.ntmps46;by_cases j:name=[]
 ·have hd:decide ((name.length:Int)<1)=true:=ζ (by rw[j];decide)
  have d:Hd (zn=2):=η (by have:=HZ.o;rw[ξ (.inl j)] at this;exact this.symm);clear j;go_wp2_with fail;go_ret2;exact⟨Ext.refl _,.inl ⟨by rw[d.o];decide,by rw[d.o];rfl⟩⟩
 have hd:decide ((name.length:Int)<1)=false:=ε (by have:name.length≠0:=fun e=>j (List.length_eq_zero_iff.1 e);omega);by_cases Y:31<name.length
 ·have hl:decide ((31:Int)<(name.length:Int))=true:=ζ (by omega)
  have d:Hd (zn=2):=η (by have:=HZ.o;rw[ξ (.inr (.inl Y))] at this;exact this.symm);clear j Y;go_wp2_with fail;go_ret2;exact⟨Ext.refl _,.inl ⟨by rw[d.o];decide,by rw[d.o];rfl⟩⟩
 have hl:decide ((31:Int)<(name.length:Int))=false:=ε (by omega);have n0:=η j;have o0:=η Y;clear j Y;go_wp2_with fail;refine b0.o.mono ?_;rintro e w1 ⟨rfl,y0⟩;have F:=η y0;clear y0 b0;obtain⟨vs,Q⟩: ∃b,q0u st=b:=⟨_,rfl⟩
 rw[Q]
 cases vs with
 | false=>
  have d:Hd (zn=2):=η (by have:=HZ.o;rw[ξ (.inr (.inr (.inl Q)))] at this;exact this.symm);clear Q;go_wp2_with fail;go_ret2;exact⟨F.o,.inl ⟨by rw[d.o];decide,by rw[d.o];rfl⟩⟩
 |true=>
 have s0:=η Q;clear Q;by_cases B:st=own
 ·have x0:(own==st)=true:=by rw[B];exact beq_self_eq_true _
  have d:Hd (zn=2):=η (by have:=HZ.o;rw[ξ (.inr (.inr (.inr B)))] at this;exact this.symm);clear B;go_wp2_with fail;go_ret2;exact⟨F.o,.inl ⟨by rw[d.o];decide,by rw[d.o];rfl⟩⟩
 have x0:(own==st)=false:=beq_eq_false_iff_ne.2 (Ne.symm B)
 have r:Hd (zn=if (q0S bs own).length=0 then 0 else if z0f (q8M bs own)=true then 0 else 10):=η (by
  have:=HZ.o;rw[κ] at this
  ·exact this.symm
  ·rintro(h|h|h|h)
   ·exact n0.o h
   ·exact o0.o h
   ·rw[s0.o] at h;cases h
   ·exact B h)
 clear B HZ n0 o0 s0;go_wp2_with fail;refine(e0.o _ F.o).mono ?_;rintro e w2 ⟨v0,rfl,O,z0⟩;obtain⟨la,lc,rfl⟩:=q0H O;have C:=(q9J O).1;have f0:=η (F.o.trans z0);have q:=f0.o.size;obtain⟨R,u0⟩: ∃R,q4n bs own=R:=⟨_,rfl⟩
 rw[u0] at C hR D⊢;obtain⟨len,M⟩: ∃l,(q0S bs own).length=l:=⟨_,rfl⟩
 rw[M] at hR r D HA H0;have m0:=η M;rw[hR] at C⊢;have P0:=C.fits;have O0:=C.bound;have r0:=η C;have q0:IntKind.i64.wrap ((len:Int)-1)=(len:Int)-1:=by rw[ν];omega
 have A0:=q0B w2 (.cells #[.pointer (some ⟨mb,0,none⟩),.string ⟨st.toArray⟩,.string ⟨own.toArray⟩,.int .i64 0,.int .i64 ((len:Int)-1),.int .i64 0] 114);have J:=Blk.new w2 114 #[.pointer (some ⟨mb,0,none⟩),.string ⟨st.toArray⟩,.string ⟨own.toArray⟩,.int .i64 0,.int .i64 ((len:Int)-1),.int .i64 0];have V:=η A0;have U:=η J;clear O z0 A0 J C e0 F w0 hd hl x0 u0 M
 cases len with
 | zero=>
  have E0:decide ((0:Int)<((0:Nat):Int))=false:=by decide
  have d:Hd (zn=0):=η (by have:=r.o;rw[ξ rfl] at this;exact this);have c0:Hd (an=0):=η (by have:=HA.o;rw[ξ rfl] at this;exact this.symm);go_wp2_with fail;go_ret2;exact⟨f0.o.trans V.o,.inr ⟨d.o,_,rfl,by rw[c0.o,m0.o];exact U.o,q⟩⟩
 | succ len=>
  have E0:decide ((0:Int)<((len+1:Nat):Int))=true:=ζ (by omega);have q1:((len+1:Nat):Int)-1=(len:Int):=by omega
  rw[q1] at q0 V U;obtain⟨E,hE⟩: ∃E,q8M bs own=E:=⟨_,rfl⟩
  obtain⟨h0,X⟩:=D.o len rfl;rw[hE] at h0 X r HA;obtain⟨bb,off,rfl,d0,d1,d2,d3,d4⟩:=((r0.o.ext V.o)).at (i:=len) (by omega);rw[h0] at d2 d3 d4;simp only at d2 d3 d4;obtain⟨ty,da,we⟩:=E;simp only at d2 d3 d4 X;have q2:IntKind.i64.wrap (len:Int)=(len:Int):=by rw[ν];omega
  have q3:((len:Int)).toNat=len:=by omega
  have B0:=q0B (w2.alloc (.cells #[.pointer (some ⟨mb,0,none⟩),.string ⟨st.toArray⟩,.string ⟨own.toArray⟩,.int .i64 0,.int .i64 (len:Int),.int .i64 0] 114)) (.cells #[.string ⟨ty.toArray⟩,.string ⟨da.toArray⟩,.float .f64 we] 42);have M0:=q2p;have x:=Blk.new (w2.alloc (.cells #[.pointer (some ⟨mb,0,none⟩),.string ⟨st.toArray⟩,.string ⟨own.toArray⟩,.int .i64 0,.int .i64 (len:Int),.int .i64 0] 114)) 42 #[.string ⟨ty.toArray⟩,.string ⟨da.toArray⟩,.float .f64 we];rw[ρ] at x;have l0:=η x;have t0:=η B0;have p0:=η (fun W=>z3x da X W);have C0:=η q1;clear h0 hE B0 x X q1;go_wp2_with fail;clear d2 d3 d4 q0 q2 q3 M0;refine(p0.o _).mono ?_;rintro e w3 ⟨rfl,a0⟩;have x:=l0.o.ext a0;have k0:=x.cell 0;have J:=(U.o.ext t0.o).ext a0;have m:=η J;have g0:=η ((f0.o.trans V.o).trans (t0.o.trans a0));clear x J a0 p0 l0 U r0;by_cases Z:ty=[97,116]
  case neg=>
   have G0:(ty==[97,116])=false:=beq_eq_false_iff_ne.2 Z;have N0:(ty !=[97,116])=true:=by rw[bne,G0];rfl
   have d:Hd (zn=10):=η (by
    have:=r.o;rw[κ (by omega),κ (by unfold z0f;rw[ε Z];exact Bool.false_ne_true)] at this
    exact this)
   clear Z;go_wp2_with fail;go_ret2;exact⟨g0.o,.inl ⟨by rw[d.o];decide,by rw[d.o];rfl⟩⟩
  subst Z;obtain⟨nb,y⟩: ∃b,(q4l da).isSome=b:=⟨_,rfl⟩
  cases nb with
  | false=>
   have F0:decide (z0B da<(0:Int))=true:=ζ (numZ_neg.2 y)
   have d:Hd (zn=10):=η (by
    have:=r.o;rw[κ (by omega),κ (by unfold z0f;simp only[y];decide)] at this
    exact this)
   clear y;go_wp2_with fail;go_ret2;exact⟨g0.o,.inl ⟨by rw[d.o];decide,by rw[d.o];rfl⟩⟩
  | true=>
   have j0:=z5d y
   have d:Hd (zn=0):=η (by
    have:=r.o;rw[κ (by omega),ξ (by unfold z0f;simp only[y];decide)] at this
    exact this)
   have c0:Hd (an=z0B da):=η (by have:=HA.o;rw[κ (by omega)] at this;rw[j0];exact this.symm);have F0:decide (z0B da<(0:Int))=false:=ε (by rw[j0];omega);clear y j0;generalize z0B da=nz at*;have k3:=m.o.cell 3;have f3:=m.o.free 3;have i0:=m.o.set 3 (.int .i64 nz);have k5:=i0.cell 5;have f5:=i0.free 5;clear i0;go_wp2_with fail;go_ret2;exact⟨(g0.o.setCell (p:=⟨w2.heap.size,3,none⟩) q _).setCell (p:=⟨w2.heap.size,5,none⟩) q _,.inr ⟨d.o,_,rfl,by rw[c0.o,m0.o,C0.o];exact(m.o.set 3 _).set 5 _,q⟩⟩
theorem z7z(name st:List UInt8):z0Q [] name st=if z1e name st=true then 2 else 0:=by
 unfold z0Q;by_cases h:z1e name st=true
 ·rw[ξ h,ξ (sbad_iff.1 h)]
 ·rw[κ h,κ (fun e=>h (sbad_iff.2 e)),ξ (by unfold q0S;rfl)]
theorem z9O(w:World):MoI (w.alloc (.cells #[.slice none 0 0,.slice none 0 0,.int .i64 0] 64)) w.heap.size 0 (.slice none 0 0) (.slice none 0 0) (tos []) []:=
 ⟨⟨0,Blk.new w _ _⟩,World.ownsRow_nil _ _ _ _,World.ownsRow_nil _ _ _ _⟩
theorem subsnone_c(name st:List UInt8)(n:Int)(w:World)(Y:SbW w)(F:name.length<=9223372036854775807)(h2:st.length<=9223372036854775807):
  Calls Tryz.prog 8 #[.string ⟨name.toArray⟩,.string ⟨st.toArray⟩,.int .i64 n] w fun e w'=>e= .returned (.bool true)/\Ext w w':=by
 have V:=η Y;clear Y;go_enter Tryz.func8,Tryz.ntmps8;by_cases r:100<name.length\/100<st.length
 ·have hF:=η (q7s w V.o)
  by_cases X:100<name.length
  ·have G:decide ((100:Int)<(name.length:Int))=true:=ζ (by omega)
   clear r X;go_wp2_with fail;refine hF.o.mono ?_;rintro e w1 ⟨rfl,b⟩;have N:=η b;clear b;go_wp2_with fail;go_ret;exact⟨rfl,N.o⟩
  ·have G:decide ((100:Int)<(name.length:Int))=false:=ε (by omega)
   have I:decide ((100:Int)<(st.length:Int))=true:=ζ (by omega);clear r X;go_wp2_with fail;refine hF.o.mono ?_;rintro e w1 ⟨rfl,b⟩;have N:=η b;clear b;go_wp2_with fail;go_ret;exact⟨rfl,N.o⟩
 have G:decide ((100:Int)<(name.length:Int))=false:=ε (by omega);have I:decide ((100:Int)<(st.length:Int))=false:=ε (by omega);have y:Hd (name.length<=100/\st.length<=100):=η (by omega);clear r;go_wp2_with fail;clear G I
 go_loopw [7,8] (fun o o2 W=> ∃p:Option Addr,∃k:Nat,k<=2/\o= .pointer p/\o2= .int .i64 (k:Int)/\Hd (q9S W p)/\Ext w W) (fun _ i _=>2-(intOf i).toNat)
 case atStart=>exact⟨none,0,by omega,rfl,rfl,η (.inl rfl),Ext.refl _⟩
 case round=>
  obtain⟨p,k,hk,rfl,rfl,j,Q⟩:=hrel;have R:=η Q;by_cases a0:k<2
  ·have G:decide ((k:Int)<(2:Int))=true:=ζ (by omega)
   have q8:IntKind.i64.wrap ((k:Int)+1)=(k:Int)+1:=by rw[ν];omega
   clear Q;go_wp2_with fail;refine(z1O j.o n).mono ?_;rintro e D ⟨rfl,rfl⟩;go_wp2_with fail;refine(z1N j.o).mono ?_;rintro e D ⟨rfl,rfl⟩;go_wp2_with fail;refine(z3p j.o).mono ?_;rintro e D ⟨rfl,rfl⟩;go_wp2_with fail;refine(z5b j.o).mono ?_;rintro e D ⟨rfl,rfl⟩;go_wp2_with fail;refine(z1P j.o).mono ?_;rintro e D ⟨rfl,rfl⟩;have l:=η (R.o.trans (q0B wr (.cells #[.pointer none,.string ⟨#[]⟩,.string ⟨#[]⟩,.int .i64 0,.int .i64 0,.int .i64 0] 101)));have M:Hd (q9S (wr.alloc (.cells #[.pointer none,.string ⟨#[]⟩,.string ⟨#[]⟩,.int .i64 0,.int .i64 0,.int .i64 0] 101)) (some ⟨wr.heap.size,0,none⟩)):=η (.inr ⟨_,rfl,Blk.new wr _ _⟩);go_wp2_with fail
   go_roundw
   case rel=>exact⟨_,k+1,by omega,rfl,by go_num,M,l.o⟩
   case measure=>simp[intOf];omega
  ·obtain rfl:k=2:=by omega
   have G:decide (((2:Nat):Int)<(2:Int))=false:=ε (by omega);have B:=η (fun W=>z3q W name st (by have:=y.o;omega) (by have:=y.o;omega));have m:=z7z name st;obtain⟨z,Z⟩: ∃z,z1e name st=z:=⟨_,rfl⟩
   rw[Z] at B m;obtain⟨q,hq⟩: ∃q:Int,(if z=true then(2:Int) else 1)=q:=⟨_,rfl⟩
   rw[hq] at B;have d:=η m;have U:=η hq;clear Q m Z hq;go_wp2_with fail;refine(B.o _).mono ?_;rintro e D ⟨rfl,b⟩;have O:=η ((R.o.trans b).trans (q0B D (.cells #[.slice none 0 0,.slice none 0 0,.int .i64 0] 64)));have E:=η (z3z (z9O D) (bs:=[]) okBs.nil (by decide) name st (by have:=y.o;omega) (by have:=y.o;omega));clear b B;go_wp2_with fail;refine E.o.mono ?_;rintro e w3 ⟨b,x⟩;have l:=η (O.o.trans b);have S:=η (q7s w3 (V.o.ext l.o));clear b E
   cases z with
   | true=>
    have hq:q=2:=U.o.symm;subst hq;rcases x with⟨F,rfl⟩|⟨J,_⟩
    rotate_left
    ·rw[d.o] at J;cases J
    rw[d.o,ξ rfl];clear F;go_wp2_with fail;refine S.o.mono ?_;rintro e w4 ⟨rfl,b⟩;have C:=η (l.o.trans b);clear b;go_wp2_with fail;go_ret;exact⟨rfl,C.o⟩
   | false=>
    have hq:q=1:=U.o.symm;subst hq;rcases x with⟨F,_⟩|⟨J,gv,rfl,_,_⟩
    ·rw[d.o] at F;exact absurd rfl F
    clear J;go_wp2_with fail;refine S.o.mono ?_;rintro e w4 ⟨rfl,b⟩;have C:=η (l.o.trans b);clear b;go_wp2_with fail;go_ret;exact⟨rfl,C.o⟩
end
end Go.Proofs.YtjigghjfcbbkiaaGreatDoor
