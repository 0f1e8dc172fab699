/- Plain laws. -/
import Derived.Test.YtfiibpgoplcgkaaGreatDoorG33WS
set_option linter.unusedVariables false
set_option linter.unusedSimpArgs false
set_option maxRecDepth 100000
set_option maxHeartbeats 12800000
namespace Go.Proofs.YtfiibpgoplcgkaaGreatDoor
section
open Go.RowKit
def y4L(L:List FM)(X:FM->Prop):Prop:= ∀f∈L,f.sy=f.da.length\/X f
def Kp(σ σ':DM):Prop:=σ.down=false->σ.fail=false->(σ'.down=false/\σ'.fail=false)/\ ∀X:FM->Prop,(∀f,X f->f.nm≠q2J)->y4L σ.L X->y4L σ'.L X
theorem Kp.refl(σ:DM):Kp σ σ:=fun d b=>⟨⟨d,b⟩,fun _ _ h=>h⟩
theorem Kp.trans{a b d:DM}(h1:Kp a b)(h2:Kp b d):Kp a d:=fun m l=>by
 obtain⟨⟨r,j⟩,o⟩:=h1 m l;obtain⟨s,q⟩:=h2 r j;exact⟨s,fun X i h=>q X i (o X i h)⟩
theorem q4y{σ:DM}(h:σ.fail=false):q1r σ=false:=by unfold q1r;rw[h];rfl
theorem Kp.tell(σ:DM):Kp σ (q2h σ):=fun d b=>⟨⟨d,b⟩,fun _ _ h=>h⟩
theorem Kp.tells : ∀(k:Nat) (σ:DM),Kp σ (tellN k σ)
 |0,σ=>Kp.refl σ
 |k+1,σ=>by rw[q1o];exact(Kp.tell σ).trans (Kp.tells k _)
theorem Kp.delete(σ:DM)(nm:List UInt8):Kp σ (q0V σ nm).2:=fun d b=>by
 unfold q0V;rw[κ (by rw[d];decide)]
 split
 ·exact⟨⟨d,b⟩,fun _ _ h=>h⟩
 ·rw[κ (by rw[q4y b];decide)]
  exact⟨⟨d,b⟩,fun X _ h f hm=>h f (mem_delN.1 (show f∈delN FM.nm nm σ.L from hm)).1⟩
theorem z5b{σ:DM}(d:σ.down=false)(b:σ.fail=false)(nm:List UInt8):(∃c,c≠0/\q0h σ nm=(c,σ))\/q0h σ nm=(0,{q0w σ with L:=q1K FM.nm ⟨nm,[],0⟩ σ.L}):=by
 unfold q0h;rw[κ (by rw[d];decide)]
 split
 ·exact .inl ⟨2,by decide,rfl⟩
 split
 ·exact .inl ⟨62,by decide,rfl⟩
 split
 ·exact .inl ⟨60,by decide,rfl⟩
 rw[κ (by rw[q4y b];decide)];exact .inr rfl
theorem z5L{σ:DM}(d:σ.down=false)(b:σ.fail=false)(nm s:List UInt8):(∃c,c≠0/\q0m σ nm s=(c,σ))\/q0m σ nm s=(0,q0w (q6i σ nm s)):=by
 unfold q0m;rw[κ (by rw[d];decide)]
 split
 ·exact .inl ⟨4,by decide,rfl⟩
 split
 ·exact .inl ⟨60,by decide,rfl⟩
 rw[κ (by rw[q4y b];decide)];exact .inr rfl
theorem y0e{σ:DM}(i:σ.down=false)(b:σ.fail=false){nm:List UInt8}(d:(q0F FM.nm nm σ.L).isNone=false):q3K σ nm=(0,{q0w σ with L:=q1T FM.nm nm (fun f=>{f with sy:=f.da.length}) σ.L}):=by
 unfold q3K;rw[κ (by rw[i];decide),κ (by rw[d];decide),κ (by rw[q4y b];decide)]
theorem z1i{nm:List UInt8}{L:List FM}{f:FM}(h:f∈L)(e:f.nm=nm):(q0F FM.nm nm L).isNone=false:=by
 cases hf:q0F FM.nm nm L with
 |some g=>rfl
 |none=>exact absurd e (q0U hf f h)
theorem Kp.lay3{σ:DM}(d:σ.down=false)(b:σ.fail=false)(nm s:List UInt8): ∃σ',q2M σ nm s=((q2M σ nm s).1,σ')/\(σ'.down=false/\σ'.fail=false)/\ ∀X:FM->Prop,y4L σ.L X->y4L σ'.L X:=by
 rcases z5b d b nm with⟨c,hc,e⟩|e
 ·refine⟨σ,?_,⟨d,b⟩,fun _ h=>h⟩
  have:q2M σ nm s=(c,σ):=by unfold q2M;rw[e];simp only;rw[ξ hc]
  rw[this]
 ·have r :({q0w σ with L:=q1K FM.nm ⟨nm,[],0⟩ σ.L}:DM).down=false:=d
  have o:({q0w σ with L:=q1K FM.nm ⟨nm,[],0⟩ σ.L}:DM).fail=false:=b;rcases z5L r o nm s with⟨c,hc,l⟩|l
  ·refine⟨{q0w σ with L:=q1K FM.nm ⟨nm,[],0⟩ σ.L},?_,⟨d,b⟩,fun X h f hm=>?_⟩
   ·have:q2M σ nm s=(c,{q0w σ with L:=q1K FM.nm ⟨nm,[],0⟩ σ.L}):=by
     unfold q2M;rw[e];simp only;rw[κ (fun h=>h rfl),l];simp only;rw[ξ hc]
    rw[this]
   ·rcases mem_insN.1 (show f∈q1K FM.nm ⟨nm,[],0⟩ σ.L from hm) with rfl|hm
    ·exact .inl rfl
    ·exact h f hm
  ·have u:(q0w (q6i {q0w σ with L:=q1K FM.nm ⟨nm,[],0⟩ σ.L} nm s)).down=false:=d
   have q:(q0w (q6i {q0w σ with L:=q1K FM.nm ⟨nm,[],0⟩ σ.L} nm s)).fail=false:=b;have D:=y0e u q (nm:=nm) (z1i (f:={(⟨nm,[],0⟩:FM) with da:=([]:List UInt8)++s}) (List.mem_map.2 ⟨⟨nm,[],0⟩,mem_insN.2 (.inl rfl),by simp⟩) rfl);refine⟨{q0w (q0w (q6i {q0w σ with L:=q1K FM.nm ⟨nm,[],0⟩ σ.L} nm s)) with L:=q1T FM.nm nm (fun f=>{f with sy:=f.da.length}) (q0w (q6i {q0w σ with L:=q1K FM.nm ⟨nm,[],0⟩ σ.L} nm s)).L},?_,⟨d,b⟩,fun X h f hm=>?_⟩
   ·have:q2M σ nm s=(0,{q0w (q0w (q6i {q0w σ with L:=q1K FM.nm ⟨nm,[],0⟩ σ.L} nm s)) with L:=q1T FM.nm nm (fun f=>{f with sy:=f.da.length}) (q0w (q6i {q0w σ with L:=q1K FM.nm ⟨nm,[],0⟩ σ.L} nm s)).L}):=by
     unfold q2M;rw[e];simp only;rw[κ (fun h=>h rfl),l];simp only;rw[κ (fun h=>h rfl),D]
    rw[this]
   ·obtain⟨C,h1,rfl⟩:=List.mem_map.1 (show f∈List.map _ _ from hm)
    by_cases i:(C.nm==nm)=true
    ·rw[ξ i];exact .inl rfl
    ·rw [κ i]
     obtain⟨x,m,rfl⟩:=List.mem_map.1 (show C∈List.map (fun y=>if y.nm==nm then {y with da:=y.da++s} else y) (q1K FM.nm ⟨nm,[],0⟩ σ.L) from h1);by_cases j:(x.nm==nm)=true
     ·exfalso;rw[ξ j] at i;exact i j
     ·rw[κ j]
      rcases mem_insN.1 m with rfl|m
      ·exact absurd (by simp) j
      ·exact h x m
theorem Kp.tlay(σ:DM)(nm s:List UInt8):Kp σ (q2M σ nm s).2:=fun d b=>by
 obtain⟨σ',e,h1,h2⟩:=Kp.lay3 d b nm s;rw[e];exact⟨h1,fun X _ h=>h2 X h⟩
theorem Kp.rename(σ:DM):Kp σ (q1P σ q2J mapN).2:=fun i b=>by
 unfold q1P;rw[κ (by rw[i];decide)]
 split
 ·exact⟨⟨i,b⟩,fun _ _ h=>h⟩
 ·rename_i f d
  rw[κ (by decide),κ (by rw[q4y b];decide),κ (by decide)];refine⟨⟨i,b⟩,fun X l h j hm=>?_⟩;rcases mem_insN.1 (show j∈q1K FM.nm {f with nm:=mapN} (delN FM.nm q2J (delN FM.nm mapN σ.L)) from hm) with rfl|hm
  ·obtain⟨h1,h2⟩:=q0K d
   rcases h f h1 with h3|h3
   ·exact .inl h3
   ·exact absurd h2 (l f h3)
  ·exact h j (mem_delN.1 (mem_delN.1 hm).1).1
theorem y1l(σ:DM)(S:List UInt8):z9B σ S=if q4J σ-(S.length:Int)<6000 then(60,σ) else q3D (q2M σ q2J S) fun d=>q1P d q2J mapN:=by
 unfold z9B
 split
 ·rfl
 ·unfold q2M q3D
  by_cases h1:(q0h σ q2J).1=0
  ·by_cases h2:(q0m (q0h σ q2J).2 q2J S).1=0
   ·simp[h1,h2]
   ·simp[h1,h2]
  ·simp[h1]
theorem Kp.lay(σ:DM)(S:List UInt8):Kp σ (z9B σ S).2:=by
 rw[y1l]
 split
 ·exact Kp.refl σ
 ·unfold q3D
  split
  ·exact(Kp.tlay σ q2J S).trans (Kp.rename _)
  ·exact Kp.tlay σ q2J S
theorem Kp.gone(σ:DM)(nm:List UInt8):Kp σ (q6r σ nm).2:=by
 unfold q6r
 split
 ·exact Kp.delete σ nm
 ·exact Kp.delete σ nm
theorem Kp.swap(σ:DM)(S:List UInt8)(e:Int):Kp σ (q1v σ S e).2:=by
 unfold q1v
 split
 ·exact Kp.refl σ
 split
 ·exact Kp.refl σ
 unfold q3D
 split
 ·exact(Kp.gone σ q2J).trans (Kp.lay _ S)
 ·exact Kp.gone σ q2J
theorem Kp.write(σ:DM)(n:Int)(l:List En)(f:List UInt8):Kp σ (q0i σ n l f).2:=by
 unfold q0i
 split
 ·exact Kp.refl σ
 split
 ·exact Kp.refl σ
 split
 ·exact Kp.refl σ
 split
 ·exact Kp.tlay σ _ _
 ·exact(Kp.tlay σ _ _).trans (Kp.tlay _ _ _)
theorem Kp.drop(σ:DM)(n:Int):Kp σ (q3A σ n).2:=by
 unfold q3A
 split
 ·split
  ·exact(Kp.delete σ _).trans (Kp.delete _ _)
  ·exact(Kp.delete σ _).trans (Kp.delete _ _)
 ·exact Kp.delete σ _
theorem Kp.read(σ:DM)(nm:List UInt8)(a n:Int):Kp σ (q1k σ nm a n).2.2:=by
 unfold q1k
 split
 ·exact Kp.refl σ
 split
 ·exact Kp.tell σ
 ·split
  ·exact Kp.tell σ
  ·exact Kp.tell σ
theorem Kp.whole(σ:DM)(nm:List UInt8):Kp σ (q0r σ nm).2.2:=by
 unfold q0r
 split
 ·exact Kp.refl σ
 ·exact Kp.read σ _ _ _
theorem Kp.topen(σ:DM)(n:Int):Kp σ (q4g σ n).2.2:=by
 unfold q4g
 split
 ·exact Kp.whole σ _
 split
 ·exact Kp.whole σ _
 ·split
  ·exact(Kp.whole σ _).trans (Kp.whole _ _)
  ·exact(Kp.whole σ _).trans (Kp.whole _ _)
theorem Kp.turn(σ:DM)(m:Man)(n:Int)(l:List En)(f:List UInt8):Kp σ (q2q σ m n l f).2.2:=by
 unfold q2q
 split
 ·exact(Kp.write σ n l f).trans (Kp.drop _ n)
 split
 ·exact((Kp.write σ n l f).trans (Kp.swap _ _ _)).trans (Kp.drop _ n)
 ·have h:=((Kp.write σ n l f).trans (Kp.swap _ m.S m.E)).trans (Kp.topen (q1v (q0i σ n l f).2 m.S m.E).2 n)
  split
  ·rename_i e b he;rw[he] at h;exact h
  ·rename_i L e b he;rw[he] at h;exact h
theorem z5t{k:Nat}:q0B 99 (k:Int)≠q2J:=fun e=>by
 unfold q0B at e
 split at e
 ·exact absurd (List.cons.inj e).1 (by decide)
 ·cases e
theorem Sur.kp{σ σ':DM}{n:Nat}{k:Int}(h:Sur σ.L n k)(d:Kp σ σ')(i:σ.down=false)(b:σ.fail=false):Sur σ'.L n k:=
 (d i b).2 (fun f=> ∃j:Nat,n=j+1/\f.nm=q0B 99 (j:Int)/\k<=(j:Int)*4096+(f.sy:Int)) (fun f ⟨j,_,e,_⟩=>by rw[e];exact z5t) h
end
section
open Go.RowKit Go.Maps
def DkX(wb W:World)(g:Nat)(σ:DM)(K:Nat->Prop):Prop:= ∃F,DkF wb W g F σ K
def q3n :DM->List Int->(Int->Option (List En))->(Int->Option (List En))×Int×DM
 |σ,[],acc=>(acc,0,σ)
 | σ,n::ns,acc=>match q4g σ n with
  |(none,e,τ)=>(acc,e,τ)
  |(some L,_,τ)=>q3n τ ns (fun x=>if x=n then some L else acc x)
def z1I(wb w:World)(g:Nat)(m:Man)(rate:Nat)(K:Nat->Prop)(σ:DM)(e:Ending)(w':World):Prop:=
 (q0e m.nx m.ck m.L=false/\e= .returned (.tuple #[.pointer none,.int .i64 2])/\DkX wb w' g σ K/\Stay K w w')\/
 (q0e m.nx m.ck m.L=true/\σ.down=true/\e= .returned (.tuple #[.pointer none,.int .i64 61])/\DkX wb w' g σ K/\Stay K w w')\/
 (q0e m.nx m.ck m.L=true/\σ.down=false/\(q3n σ m.L.flatten (fun _=>none)).2.1≠0/\e= .returned (.tuple #[.pointer none,.int .i64 (q3n σ m.L.flatten (fun _=>none)).2.1])/\DkX wb w' g (q3n σ m.L.flatten (fun _=>none)).2.2 K/\Stay K w w')\/
 (q0e m.nx m.ck m.L=true/\σ.down=false/\(q3n σ m.L.flatten (fun _=>none)).2.1=0/\ ∃gx t,e= .returned (.tuple #[.pointer (some ⟨gx,0,none⟩),.int .i64 0])/\
  IxK wb w' g gx ⟨m,rate,[],t,m.L.flatten.length⟩ (q3n σ m.L.flatten (fun _=>none)).2.2 K/\Stay K w w'/\ ∀n,(t n).map TE.L=(q3n σ m.L.flatten (fun _=>none)).1 n)
section
variable {wb w0 w W W1 w1 w2:World}{g gx gm gt B:Nat}{st st1:IxSt}{F Y Y1 K K' V T:Nat->Prop}{σ σ1:DM}{va v v1 v2 vm:Value}{vs:List Value}{ns:List Int}{acc:List (List En)}{M L:List En}
theorem IxI.putO{D:DataW Unit}{u:Nat}(h:IxI w gx g gm gt st v vs vm D u Y){n:Int}{t:Nat}{may:Int->Bool}
  (y:w2.ownsMap Tryz.prog 3 q5s gt (u+1) (D.put (.int .i64 n) (.lit (.int .i64 t))))(d:OffS (fun i=>i=gt) w w2)
  (r:Tb w t g n L may T)(C: ∀i,T i->¬InX gx gm gt i):
  IxI w2 gx g gm gt ⟨st.m,st.rate,st.w,(fun x=>if x=n then some ⟨t,L,may⟩ else st.t x),st.c+1⟩ v vs vm (D.put (.int .i64 n) (.lit (.int .i64 t))) (u+1) (fun i=>Y i\/T i):=by
 have s: ∀i,i<w.heap.size->i≠gt->w2.heap[i]? =w.heap[i]? :=fun i b o=>d.block i b o
 have j: ∀i,(Y i\/T i)->i<w.heap.size/\¬InX gx gm gt i:=fun i b=>by
  rcases b with b|b
  ·exact⟨h.lt i b,h.apart i b⟩
  ·exact⟨r.lt i b,C i b⟩
 have l: ∀i,(Y i\/T i)->w2.heap[i]? =w.heap[i]? :=fun i b=>s i (j i b).1 fun e=>(j i b).2 (.inr (.inr e))
 refine⟨h.blk.same (s _ h.blk.lt h.ne.2.1),?_,q3U h.lev fun i b=>l i (.inl (h.inY i (b.elim .inl fun e=> .inr (.inl e)))),y,Nat.succ_le_succ h.cnt,fun x=>?_,fun x e o=>?_,fun i b=> .inl (h.inY i b),fun i b=>Ψ (j i b).1 d.size,fun i b=>(j i b).2,h.ne⟩
 ·refine h.mem.same fun i b=>?_
  rcases b with rfl|b
  ·exact s _ h.mem.blk.lt h.ne.2.2
  ·exact l i (.inl (h.inY i (.inr (.inr b))))
 ·exact z4Z (e:=⟨t,L,may⟩) h.look h.map.isMap x
 ·simp only at o
  by_cases q:x=n
  ·rw[ξ q] at o
   injection o with o;subst o;subst q;exact(r.same d.size fun i b=>l i (.inr b)).mono (fun i b=> .inr b) fun i b=>Ψ (j i b).1 d.size
  ·rw[κ q] at o
   exact((h.tab x e o).same d.size fun i b=>l i (.inl b)).mono (fun i b=> .inl b) fun i b=>Ψ (j i b).1 d.size
theorem z7j(h : DkF wb w g F σ K){m:Man}{ao:Option Addr}{cap:Nat}(hG:Grid w ao m.L.length cap m.L)(B1:m.L.flatten.length<=1000000000)(y1: ∀x∈m.L.flatten,(Lit.int .i64 x).wf=true)(s1:0<=m.sd)(t1:m.sd<18446744073709551616)(rate:Nat):
  Calls Tryz.prog 142 #[.pointer (some ⟨g,0,none⟩),.agg #[.int .i64 m.nx,.int .i64 m.ck,.int .u64 m.sd,.slice ao m.L.length cap],.float .f64 rate] w (z1I wb w g m rate K σ):=by
 have HD:=η h;have o0:=q0C w (.cells #[.int .i64 m.nx,.int .i64 m.ck,.int .u64 m.sd,.slice ao m.L.length cap] 47);have V0:=Blk.new w 47 #[.int .i64 m.nx,.int .i64 m.ck,.int .u64 m.sd,.slice ao m.L.length cap];have N:=η (q6b (h.d.ext o0) [] (by decide));have hc: ∃z c,q1g σ []=(z,c)/\(c==1)=false/\((c==61)=σ.down)/\(σ.down=true->c=61):=by
  unfold q1g
  cases σ.down with
  |true=>exact⟨_,_,rfl,rfl,rfl,fun _=>rfl⟩
  | false=>
   simp only[Bool.false_eq_true,if_false]
   split
   ·exact⟨_,_,rfl,rfl,rfl,fun h=>by cases h⟩
   ·exact⟨_,_,rfl,rfl,rfl,fun h=>by cases h⟩
 obtain⟨z,c,hz,n1,B0,C0⟩:=hc;rw[hz] at N;have HV:=η (z0d m.nx m.ck m.sd ao m.L.length cap m.L _ (hG.ext o0) (by omega) y1);have HG:=η hG;have d0:=η o0;have C:=η V0;obtain⟨w1,x1⟩: ∃w1,w.alloc (.cells #[.int .i64 m.nx,.int .i64 m.ck,.int .u64 m.sd,.slice ao m.L.length cap] 47)=w1:=⟨_,rfl⟩
 rw[x1] at N HV d0 C;obtain⟨p,hp⟩: ∃p,w.heap.size=p:=⟨_,rfl⟩
 have HP:=η hp;rw[hp] at C;have b0:w1.cell? ⟨p,0,none⟩=some (.int .i64 m.nx):=C.o.cell 0;have b1:w1.cell? ⟨p,1,none⟩=some (.int .i64 m.ck):=C.o.cell 1;have b2:w1.cell? ⟨p,2,none⟩=some (.int .u64 m.sd):=C.o.cell 2;have b3:w1.cell? ⟨p,3,none⟩=some (.slice ao m.L.length cap):=C.o.cell 3;have G0:=@run_makeMap Tryz.prog;clear h o0 V0 hz hG
 cases hv:q0e m.nx m.ck m.L with
 | false=>
  rw[hv] at HV;have O:=η hv;clear hv;go_enter Tryz.func142,Tryz.ntmps142;go_wp2_with fail;refine N.o.mono ?_;rintro e w2 ⟨rfl,rfl⟩;go_wp2_with fail;refine HV.o.mono ?_;rintro e w2 ⟨rfl,l⟩;have s:=η (d0.o.trans l);clear l;go_wp2_with fail;go_ret2;exact .inl ⟨O.o,rfl,⟨F,HD.o.grow s.o⟩,fun i b=>s.o.block i (HD.o.k i b).1⟩
 | true =>
  rw[hv] at HV;have O:=η hv;clear hv
  cases hdn:σ.down with
  | true=>
   rw[hdn] at B0;obtain rfl:=C0 hdn;have j0:=η hdn;clear hdn C0;go_enter Tryz.func142,Tryz.ntmps142;go_wp2_with fail;refine N.o.mono ?_;rintro e w2 ⟨rfl,rfl⟩;go_wp2_with fail;refine HV.o.mono ?_;rintro e w2 ⟨rfl,l⟩;have s:=η (d0.o.trans l);clear l;go_wp2_with fail;go_ret2;exact .inr (.inl ⟨O.o,j0.o,rfl,⟨F,HD.o.grow s.o⟩,fun i b=>s.o.block i (HD.o.k i b).1⟩)
  | false =>
   rw[hdn] at B0;have j0:=η hdn;have h0:m.ok:=⟨O.o,s1,t1⟩
   have m0:=Man.bounds h0;clear hdn C0;go_enter Tryz.func142,Tryz.ntmps142;go_wp2_with fail;refine N.o.mono ?_;rintro e w2 ⟨rfl,rfl⟩;go_wp2_with fail;refine HV.o.mono ?_;rintro e w2 ⟨rfl,l⟩;have s:=η (d0.o.trans l);have b0:=q0A l b0;have b1:=q0A l b1;have b2:=q0A l b2;have b3:=q0A l b3;have J0:=η (C.o.ext l);clear l;go_wp2_with fail;refine(z0G m.nx m.ck m.sd ao m.L.length cap m.L w2 (HG.o.ext s.o) (fun i=>by have:=m0.2.2.1 i;omega) (by omega)).mono ?_;rintro e w3 ⟨v3,q0,rfl,i0,T0⟩;have x0:=η i0;have k0:=η T0;obtain⟨a3,k3,rfl⟩:=i0.own.slice;clear i0 T0;go_wp2_with fail;refine(y3a w3).mono ?_;rintro e J ⟨gm,rfl,D,p1,A0⟩;have v0:=η D;have l0:=η A0;have b3:=q0A A0 (q0A k0.o b3);clear D A0;obtain⟨G,e0⟩: ∃G,(J.alloc (.map #[] 0)).alloc (.cells #[.pointer (some ⟨g,0,none⟩),.int .i64 m.nx,.int .i64 m.ck,.int .u64 m.sd,.slice a3 m.L.length k3,.float .f64 rate,.pointer (some ⟨gm,0,none⟩),.map (some J.heap.size)] 186)=G:=⟨_,rfl⟩
   have Q:Hd (Ext J G):=η (e0▸q1x _ _ _)
   have I0:Hd (Blk G (J.heap.size+1) 186 #[.pointer (some ⟨g,0,none⟩),.int .i64 m.nx,.int .i64 m.ck,.int .u64 m.sd,.slice a3 m.L.length k3,.float .f64 rate,.pointer (some ⟨gm,0,none⟩),.map (some J.heap.size)]):=η (by
    have h:=Blk.new (J.alloc (.map #[] 0)) 186 #[.pointer (some ⟨g,0,none⟩),.int .i64 m.nx,.int .i64 m.ck,.int .u64 m.sd,.slice a3 m.L.length k3,.float .f64 rate,.pointer (some ⟨gm,0,none⟩),.map (some J.heap.size)];rw[ρ,e0] at h
    exact h)
   have M0:Hd (G.ownsMap Tryz.prog 3 q5s J.heap.size 0 (.map [])):=η (e0▸(World.ownsMap_made (H:=Unit) J Tryz.prog 3 q5s).alloc _);have j1:Hd (G.heap.size=J.heap.size+2):=η (by rw[<-e0,ρ,ρ]);have k1:=q0A Q.o b3;have S:=η (((s.o.trans k0.o).trans l0.o).trans Q.o);have o1:gm<J.heap.size:=v0.o.blk.lt
   have L0:Hd (IxK wb G g (J.heap.size+1) ⟨m,rate,[],(fun _=>none),0⟩ σ K):=η (by
    have hD:=HD.o;have C1:=s.o.size;have D1:=k0.o.size;have E1:=l0.o.size;have G1:=hD.ext.size;have r1:OGr G w2.heap.size 37 3 (.slice a3 m.L.length k3) q0 m.L:=(x0.o.ext l0.o).ext Q.o;have u: ∀i,((Value.slice a3 m.L.length k3).ownBlock=some i\/ ∃q,(q0.getD q (.slice none 0 0)).ownBlock=some i)->w2.heap.size<=i/\i<w3.heap.size:=fun i b=>q7M x0.o i b
    refine⟨F,gm,J.heap.size,fun i=>((Value.slice a3 m.L.length k3).ownBlock=some i\/ ∃q,(q0.getD q (.slice none 0 0)).ownBlock=some i),⟨hD.d.ext S.o,⟨⟨h0,okM.nil,υ _⟩,.slice a3 m.L.length k3,q0,.slice none 0 0,.map [],0,⟨I0.o,v0.o.ext Q.o,q7k r1 (υ _),M0.o,ι _,fun n=>rfl,fun n e he=>(by cases he),fun i b=>?_,fun i b=>Ψ (u i b).2 (by have:=Q.o.size;omega),fun i b Z=>?_,⟨by omega,by omega,by omega⟩⟩⟩,fun i b=>?_⟩,hD.bF,fun i b=>?_,fun i b=>by have:=u i b;omega,hD.ext.trans S.o,fun i b=>?_⟩
    ·rcases b with b|b|b
     ·exact .inl b
     ·exact .inr b
     ·cases b
    ·have h1:=u i b
     rcases Z with rfl|rfl|rfl<;>omega
    ·have h1:=hD.d.Flt i b
     exact⟨fun Z=>by rcases Z with rfl|rfl|rfl<;>omega,fun hy=>by have:=u i hy;omega⟩
    ·rcases b with rfl|rfl|rfl<;>omega
    ·have h1:=hD.k i b
     have h2:=S.o.size
     exact⟨by omega,h1.2,fun Z=>by rcases Z with rfl|rfl|rfl<;>omega,fun hy=>by have:=u i hy;omega⟩)
   have H0:=η (z2h ao m.L.length cap m.L G (HG.o.ext S.o) (by omega));have m1: ∀i,K i->i<w.heap.size:=fun i b=>(HD.o.k i b).1
   have c0:Hd (Stay K w G):=η fun i b=>S.o.block i (m1 i b)
   clear G0;have G0:=@run_makeMap Tryz.prog;go_wp2_with fail;refine H0.o.mono ?_;rintro e w5 ⟨va,rfl,I,U0⟩;obtain⟨aa,ka,rfl⟩:=I.slice;obtain⟨ns,X⟩: ∃ns,m.L.flatten=ns:=⟨_,rfl⟩
   have i1:=η X;rw[X] at I;have u0:=η (LsW.start L0.o (W:=w5) U0 I);rw[X];obtain⟨R,hR⟩: ∃R,q3n σ ns (fun _=>none)=R:=⟨_,rfl⟩
   have HR:=η hR
   have r0:Hd (∀e w',((R.2.1≠0/\e= .returned (.tuple #[.pointer none,.int .i64 R.2.1])/\DkX wb w' g R.2.2 K/\Stay K G w')\/(R.2.1=0/\ ∃gx t,e= .returned (.tuple #[.pointer (some ⟨gx,0,none⟩),.int .i64 0])/\IxK wb w' g gx ⟨m,rate,[],t,ns.length⟩ R.2.2 K/\Stay K G w'/\ ∀n,(t n).map TE.L=R.1 n))->z1I wb w g m rate K σ e w'):=η (by
    intro e w' h;unfold z1I;rw[X,hR];rcases h with⟨q1,q2,q3,q4⟩|⟨q1,gx,t,q2,q3,q4,q5⟩
    ·exact .inr (.inr (.inl ⟨O.o,j0.o,q1,q2,q3,c0.o.trans q4⟩))
    ·exact .inr (.inr (.inr ⟨O.o,j0.o,q1,gx,t,q2,q3,c0.o.trans q4,q5⟩)))
   obtain⟨n,hn⟩: ∃n,ns.length=n:=⟨_,rfl⟩
   have a0:=η hn;have A1:n<=40:=by rw[<-hn,<-X];exact m0.2.1
   have f1:=η m0;obtain⟨gx,D0⟩: ∃gx,J.heap.size+1=gx:=⟨_,rfl⟩
   rw[hn] at u0;rw[D0] at u0;rw[hn];simp only[D0];clear I U0 X hn H0 d0 s k0 l0 Q I0 M0 j1 k1 b0 b1 b2 b3 S L0 v0 x0 G0 hR m0 HV N HG C J0 HP c0 n1 B0 e0 o1 p1 D0;go_wp2_with fail
   go_loopw [44] (fun i W=> ∃(k:Nat) (t:Int->Option TE) (acc:Int->Option (List En)) (τ:DM),k<=n/\i= .int .i64 (k:Int)/\LsW wb G W g gx ⟨m,rate,[],t,k⟩ τ K (.slice aa n ka) (.slice none 0 0) [] ns [] G.heap.size/\(∀x,(t x).map TE.L=acc x)/\q3n τ (ns.drop k) acc=R) (fun i _=>n-(intOf i).toNat)
   case atStart=>exact⟨0,fun _=>none,fun _=>none,σ,υ _,rfl,u0.o,fun x=>rfl,HR.o⟩
   case round =>
    obtain⟨k,tt,acc,τ,hk,rfl,Z0,d1,j⟩:=hrel;have HL:=η Z0;have N0:=η j;have O0:=η d1;clear Z0 j d1;by_cases u:k<n
    ·have hd:decide ((k:Int)<(n:Int))=true:=ζ (by omega)
     have q1:IntKind.i64.wrap ((k:Int)+1)=(k:Int)+1:=by rw[ν];omega
     have q5:(k:Int)<(n:Int):=by omega
     obtain⟨_,_,ea,E0⟩:=q2d HL.o.all;rw[a0.o] at ea
     cases ea;rw[a0.o] at E0;obtain⟨ba,oa,rfl,n0⟩:=E0.at u;have F0:k<ns.length:=by rw[a0.o];exact u
     have f0:ns.drop k=ns.getD k 0::ns.drop (k+1):=by
      rw[List.drop_eq_getElem_cons F0,δ,γ F0];rfl
     have D:ns.getD k 0∈m.L.flatten:=by rw[i1.o];exact q4b ns k F0
     have j:=N0.o;rw[f0] at j;have e1:=(f1.o.2.2.2.1 _ D).1;generalize ns.getD k 0=nk at*;rw[q3n] at j;obtain⟨F2,l1,Q0,Y2,h2⟩:=HL.o.i;have y0:=η (z8M h2.i.d nk);have K0:=η h2;obtain⟨r,hr⟩: ∃r,q4g τ nk=r:=⟨_,rfl⟩
     rw[hr] at j y0;obtain⟨o,c,z1⟩:=r;clear E0 f0 D h2
     cases o with
     | none=>
      simp only at j;have hc:=z0h hr;have g2:(c !=0)=true:=by simpa using hc
      have z0:=η j;have HC:=η hc;clear hr j hc;go_wp2_with fail;refine y0.o.mono ?_;rintro e3 w3 ⟨rfl,U⟩;obtain⟨h3,E⟩:=K0.o.disk U
      have HE:Hd (z1I wb w g m rate K σ (.returned (.tuple #[.pointer none,.int .i64 c])) w3):=η (r0.o _ _ (.inl (by
       rw[<-z0.o]
       exact⟨HC.o,rfl,⟨_,h3.i.d,h3.bF,h3.ext,fun i b=>⟨(h3.k i (.inl b)).1,(h3.k i (.inl b)).2.1⟩⟩,HL.o.stay.trans fun i b=>E i (.inl b)⟩)))
      clear U h3 E;go_wp2_with fail;go_ret2;exact HE.o
     | some L=>
      simp only at j;obtain rfl:=q9e hr;have z0:=η j;clear hr j;go_wp2_with fail;refine y0.o.mono ?_;rintro e3 w7 ⟨t,may,T,w6,rfl,U,p0,c1,hT⟩;obtain⟨h3,E⟩:=K0.o.disk U;have h7:=h3.grow p0;have s0:Stay (fun i=>K i\/y0n (.slice (some ⟨ba,oa,none⟩) n ka) (.slice none 0 0) [] i) wr w7:=E.trans (h3.kExt p0);obtain⟨a1,v7,J1,I1,D7,H1,g0⟩:=h7.i.x;have c7:=g0.c7;have W0:=g0.cnt;simp only at W0;obtain⟨w8,u1,R0,X0⟩:=g0.map.update Tryz.keyInt Tryz.underlying184 (by unfold maxLen;omega) (keyOf_int_mk Tryz.underlying3 e1) (z0l t);have y:OffS (fun i=>i=Q0) w7 w8:=OffS.grown X0 fun i b=>by injection b with b;exact b.symm
      have S0: ∀i,T i->¬InX gx l1 Q0 i:=fun i b Z=>by have:=hT i b;have:=h3.i.x.xlt i Z;omega
      have Y0:=g0.putO R0 y c1 S0
      obtain⟨h8,t0⟩:=h7.turnV (K:=fun i=>K i\/y0n (.slice (some ⟨ba,oa,none⟩) n ka) (.slice none 0 0) [] i) (st1:=⟨m,rate,[],(fun x=>if x=nk then some ⟨t,L,may⟩ else tt x),k+1⟩) (Y1:=fun i=>Y2 i\/T i) ⟨⟨h0,okM.nil,by show k+1<=1000000;omega⟩,_,_,_,_,_,Y0⟩ (y.mono fun i _ b=> .inr (.inr b)) (fun i b=>by
       rcases b with b|b
       ·exact⟨h7.bY i b,fun hf=>(h7.i.ap i hf).2 b⟩
       ·have h9:=hT i b
        exact⟨by have:=h3.ext.size;omega,fun hf=>by have:=h3.i.d.Flt i hf;omega⟩) (fun i b=>⟨b,fun hy=>by
       rcases hy with hy|hy
       ·exact(h7.k i b).2.2.2 hy
       ·have:=hT i hy;have:=(h3.k i b).1;omega⟩)
      have g1:=η (HL.o.step ⟨_,_,_,_,h8⟩ (s0.trans t0) (by have:=U.off.size;have:=p0.size;have:=y.size;omega));have P0:Hd (∀x,(if x=nk then some (⟨t,L,may⟩:TE) else tt x).map TE.L=if x=nk then some L else acc x):=η fun x=>by
       by_cases Z:x=nk
       ·rw[ξ Z,ξ Z];rfl
       ·rw[κ Z,κ Z];exact O0.o x
      have F1:=η u1;clear U h3 E h7 s0 a1 g0 R0 X0 y S0 Y0 h8 t0 c1 hT p0 W0;go_wp2_with fail
      go_roundw
      case rel=>exact⟨k+1,_,_,z1,u,by go_num,g1.o,P0.o,z0.o⟩
      case measure=>simp[intOf];omega
    ·obtain rfl:k=n:=by omega
     have hd:decide ((k:Int)<(k:Int))=false:=ε (by omega);have j:=N0.o;rw[List.drop_of_length_le (by rw[a0.o];exact ι _),q3n] at j
     have HE:Hd (z1I wb w g m rate K σ (.returned (.tuple #[.pointer (some ⟨gx,0,none⟩),.int .i64 0])) wr):=η (r0.o _ _ (.inr (by
      rw[<-j]
      exact⟨rfl,gx,tt,rfl,by rw[a0.o];exact HL.o.i.beside fun i b=> .inl b,HL.o.stay,O0.o⟩)))
     clear j;go_wp2_with fail;go_ret2;exact HE.o
end
end
section
open Go.RowKit
def toc(t:To):List Value:=[.string ⟨t.s.toArray⟩,.int .i64 t.v,.string ⟨t.e.ty.toArray⟩,.string ⟨t.e.da.toArray⟩,.float .f64 t.e.we]
def toV(t:To):Value:= .agg #[.string ⟨t.s.toArray⟩,.int .i64 t.v,.string ⟨t.e.ty.toArray⟩,.string ⟨t.e.da.toArray⟩,.float .f64 t.e.we]
def z2S(L:List To):List Value:=(L.map toc).flatten
theorem z3j(L M:List To):z2S (L++M)=z2S L++z2S M:=by unfold z2S;rw[List.map_append,List.flatten_append]
theorem z2T(L:List To)(t:To):z2S (L++[t])=z2S L++toc t:=by rw[z3j];unfold z2S;simp
theorem Tryz.infoTo :(Tryz.prog.info? 69).map (fun i=>(i.zero,i.size,i.bytes))=some (some (.agg #[.string ⟨#[]⟩,.int .i64 0,.string ⟨#[]⟩,.string ⟨#[]⟩,.float .f64 0]),5,64):=by kernel_rfl
end
end Go.Proofs.YtfiibpgoplcgkaaGreatDoor
